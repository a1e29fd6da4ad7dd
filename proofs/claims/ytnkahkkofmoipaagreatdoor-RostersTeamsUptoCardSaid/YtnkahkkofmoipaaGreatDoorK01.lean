/-
  Part 1 of the road: a checked reading of bodies, and what the functions on it do (X0 X1 X2 X3 X4 X5 X6 X7 X8 X9 X10).
-/
import GoSem.Core.View
import GoSem.Core.Region
import Derived.Laws.AppendOwn
import Derived.Below
import Derived.Deep.LoopGhost
import Derived.Laws.BitsLemmas
import Derived.Laws.CopyRow
import Derived.Laws.AppendOwnNone
import Derived.Maps.AppendAt
import Derived.Laws.Strings
import Derived.Laws.Tables
import Derived.Great.BuildSlice
import Derived.Laws.OwnMore
import Derived.Lib.AppendZeros
namespace Go.X
theorem jGP:type_of% @Nat.eq_of_beq_eq_true:=@Nat.eq_of_beq_eq_true
theorem jGQ:type_of% @List.mem_append_right:=@List.mem_append_right
theorem jGR:type_of% @List.mem_append_left:=@List.mem_append_left
theorem jGS:type_of% @List.mem_cons:=@List.mem_cons
theorem jGT:type_of% @Bool.and_eq_true:=@Bool.and_eq_true
theorem jGU:type_of% @Nat.le_refl:=@Nat.le_refl
theorem jGV:type_of% @List.mem_cons_of_mem:=@List.mem_cons_of_mem
theorem jGW:type_of% @List.getElem?_eq_some_iff:=@List.getElem?_eq_some_iff
theorem jGX:type_of% @Int.toNat_natCast:=@Int.toNat_natCast
theorem jGY:type_of% @List.getElem?_eq_getElem:=@List.getElem?_eq_getElem
theorem jGZ:type_of% @Array.getElem?_eq_some_iff:=@Array.getElem?_eq_some_iff
theorem jG0:type_of% @Array.getD_eq_getD_getElem?:=@Array.getD_eq_getD_getElem?
theorem jG1:type_of% @List.mem_append:=@List.mem_append
theorem jG2:type_of% @Nat.zero_le:=@Nat.zero_le
theorem jG3:type_of% @List.getElem?_append_right:=@List.getElem?_append_right
theorem jG4:type_of% @List.getElem?_append_left:=@List.getElem?_append_left
theorem jG5:type_of% @Nat.le_trans:=@Nat.le_trans
theorem jG6:type_of% @Nat.le_of_ble_eq_true:=@Nat.le_of_ble_eq_true
theorem jG7:type_of% @Array.getElem?_setIfInBounds:=@Array.getElem?_setIfInBounds
theorem jG8:type_of% @Nat.mul_le_mul_right:=@Nat.mul_le_mul_right
theorem jG9:type_of% @List.mem_range:=@List.mem_range
theorem jHa:type_of% @List.length_append:=@List.length_append
theorem jHb:type_of% @Array.toList_inj:=@Array.toList_inj
theorem jHc:type_of% @List.append_assoc:=@List.append_assoc
theorem jHd:type_of% @List.getElem?_take_of_lt:=@List.getElem?_take_of_lt
theorem jHe:type_of% @Array.getElem?_eq_getElem:=@Array.getElem?_eq_getElem
theorem jHf:type_of% @List.append_nil:=@List.append_nil
theorem jHg:type_of% @List.mem_filter:=@List.mem_filter
theorem jHh:type_of% @List.nil_append:=@List.nil_append
theorem jHi:type_of% @List.cons_append:=@List.cons_append
theorem jHj:type_of% @List.length_take:=@List.length_take
theorem jHk:type_of% @Bool.eq_iff_iff:=@Bool.eq_iff_iff
theorem jHl:type_of% @Bool.or_eq_false_iff:=@Bool.or_eq_false_iff
theorem jHm:type_of% @Array.length_toList:=@Array.length_toList
theorem jHn:type_of% @Int.natCast_nonneg:=@Int.natCast_nonneg
theorem jHo:type_of% @List.all_eq_true:=@List.all_eq_true
theorem jHp:type_of% @List.foldl_append:=@List.foldl_append
theorem jHq:type_of% @List.getD_eq_getElem?_getD:=@List.getD_eq_getElem?_getD
theorem jHr:type_of% @List.length_cons:=@List.length_cons
theorem jHs:type_of% @List.mem_map:=@List.mem_map
theorem jHt:type_of% @Bool.not_eq_true':=@Bool.not_eq_true'
theorem jHu:type_of% @List.range_succ:=@List.range_succ
theorem jHv:type_of% @List.mem_cons_self:=@List.mem_cons_self
theorem jHw:type_of% @List.getElem?_drop:=@List.getElem?_drop
theorem jHx:type_of% @List.mem_take_iff_getElem:=@List.mem_take_iff_getElem
theorem jHy:type_of% @List.eq_nil_of_length_eq_zero:=@List.eq_nil_of_length_eq_zero
theorem jHz:type_of% @List.any_eq_true:=@List.any_eq_true
theorem jHA:type_of% @Nat.succ_mul:=@Nat.succ_mul
theorem jHB:type_of% @Array.getElem?_toList:=@Array.getElem?_toList
theorem jHC:type_of% @List.any_eq_false:=@List.any_eq_false
theorem jHD:type_of% @Nat.add_mul:=@Nat.add_mul
theorem jHE:type_of% @Array.getElem?_append_left:=@Array.getElem?_append_left
theorem jHF:type_of% @List.map_append:=@List.map_append
theorem jHG:type_of% @List.pairwise_cons:=@List.pairwise_cons
theorem jHH:type_of% @List.take_of_length_le:=@List.take_of_length_le
theorem jHI:type_of% @List.length_nil:=@List.length_nil
theorem jHJ:type_of% @List.nodup_cons:=@List.nodup_cons
theorem jHK:type_of% @Array.getElem?_modify:=@Array.getElem?_modify
theorem jHL:type_of% @List.length_replicate:=@List.length_replicate
theorem jHM:type_of% @List.length_filter_le:=@List.length_filter_le
theorem jHN:type_of% @Bool.not_eq_false':=@Bool.not_eq_false'
theorem jHO:type_of% @List.length_map:=@List.length_map
theorem jHP:type_of% @List.mem_of_getElem?:=@List.mem_of_getElem?
theorem jHQ:type_of% @Nat.lt_of_lt_of_le:=@Nat.lt_of_lt_of_le
theorem jHR:type_of% @List.length_drop:=@List.length_drop
theorem jHS:type_of% @List.take_length:=@List.take_length
theorem jHT:type_of% @Int.le_refl:=@Int.le_refl
theorem jHU:type_of% @List.map_cons:=@List.map_cons
theorem jHV:type_of% @List.pairwise_iff_getElem:=@List.pairwise_iff_getElem
theorem jHW:type_of% @List.nodup_append:=@List.nodup_append
theorem jHX:type_of% @Nat.zero_add:=@Nat.zero_add
theorem jHY:type_of% @Bool.or_eq_true:=@Bool.or_eq_true
theorem jHZ:type_of% @Nat.add_assoc:=@Nat.add_assoc
theorem jH0:type_of% @List.all_eq_false:=@List.all_eq_false
theorem jH1:type_of% @List.getElem?_toArray:=@List.getElem?_toArray
theorem jH2:type_of% @Nat.eq_zero_or_pos:=@Nat.eq_zero_or_pos
theorem jH3:type_of% @List.getElem?_take:=@List.getElem?_take
theorem jH4:type_of% @Nat.add_zero:=@Nat.add_zero
theorem jH5:type_of% @List.getElem?_of_mem:=@List.getElem?_of_mem
theorem jH6:type_of% @List.getElem?_map:=@List.getElem?_map
theorem jH7:type_of% @Nat.mul_le_mul_left:=@Nat.mul_le_mul_left
theorem jH8:type_of% @Array.getElem?_push:=@Array.getElem?_push
theorem jH9:type_of% @List.take_append_drop:=@List.take_append_drop
theorem jIa:type_of% @List.mem_of_mem_drop:=@List.mem_of_mem_drop
theorem jIb:type_of% @List.mem_of_mem_take:=@List.mem_of_mem_take
theorem jIc:type_of% @Array.getElem?_replicate:=@Array.getElem?_replicate
theorem jId:type_of% @Nat.eq_of_testBit_eq:=@Nat.eq_of_testBit_eq
theorem jIe:type_of% @List.length_set:=@List.length_set
theorem jIf:type_of% @List.countP_eq_zero:=@List.countP_eq_zero
theorem jIg:type_of% @List.countP_cons:=@List.countP_cons
theorem jIh:type_of% @Option.map_eq_some_iff:=@Option.map_eq_some_iff
theorem jIi:type_of% @List.pairwise_lt_range:=@List.pairwise_lt_range
theorem jIj:type_of% @List.countP_append:=@List.countP_append
inductive Ty where
  |int|bool|uint (k:IntKind)|slice (t:Ty)|unit|pair (a b:Ty)|map (k v:Ty)|ptr (t:Ty)
  deriving DecidableEq
@[reducible] def Ty.Data:Ty→Type
  | .int=>Int
  | .bool=>Bool
  | .uint _=>Int
  | .slice t=>List t.Data
  | .unit=>Unit
  | .pair a b=>a.Data×b.Data
  | .map k v=>List (k.Data×v.Data)
  | .ptr t=>Option t.Data
def Ty.size:Ty→Nat
  | .unit=>0
  | .pair a b=>a.size+b.size
  |_=>1
def Ty.agg:Ty→Bool
  | .unit=>true
  | .pair _ _=>true
  |_=>false
def Ty.dflt:(t:Ty)→t.Data
  | .int=>(0:Int)
  | .bool=>false
  | .uint _=>(0:Int)
  | .slice _=>[]
  | .unit=>()
  | .pair a b=>(a.dflt,b.dflt)
  | .map _ _=>[]
  | .ptr _=>none
@[reducible] def Ty.decEq:(t:Ty)→DecidableEq t.Data
  | .int=>(inferInstance:DecidableEq Int)
  | .bool=>(inferInstance:DecidableEq Bool)
  | .uint _=>(inferInstance:DecidableEq Int)
  | .slice t=> @instDecidableEqList _ t.decEq
  | .unit=>(inferInstance:DecidableEq Unit)
  | .pair a b=> @instDecidableEqProd _ _ a.decEq b.decEq
  | .map k v=> @instDecidableEqList _ (@instDecidableEqProd _ _ k.decEq v.decEq)
  | .ptr t=> @Option.instDecidableEq _ t.decEq
@[reducible] def Ty.st:List Ty→Ty
  |[]=> .unit
  |t::ts=> .pair t (Ty.st ts)
def jFD:List (Nat×((t:Ty)×t.Data)):=[(0,⟨.st [.int,.int,.int,.int,.int,.int],((0:Int),(1:Int),(0:Int),(0:Int),(0:Int),(1:Int),())⟩)]
end Go.X
namespace Go.X
def qU {a b:Ty} (h:a=b) (d:a.Data):b.Data:=h▸d
def zg (a b:Ty) (d:a.Data):Option b.Data:=if h:a=b then some (qU h d) else none
def Ty.sub:(a:Ty)→(off:Nat)→(t:Ty)→a.Data→Option t.Data
  | .pair a b,off,t,d=>
    if off=0∧Ty.pair a b=t then zg (.pair a b) t d
    else if off<a.size then a.sub off t d.1 else b.sub (off-a.size) t d.2
  |a,off,t,d=>if off=0 then zg a t d else none
def Ty.put:(a:Ty)→(off:Nat)→(t:Ty)→a.Data→t.Data→Option a.Data
  | .pair a b,off,t,d,x=>
    if off=0∧Ty.pair a b=t then zg t (.pair a b) x
    else if off<a.size then(a.put off t d.1 x).map (fun y=>(y,d.2)) else(b.put (off-a.size) t d.2 x).map (fun y=>(d.1,y))
  |a,off,t,_,x=>if off=0 then zg t a x else none
def yr (a b:Ty):Bool:=if a=b then true else false
def nth {α:Type} [Inhabited α] (l:List α) (i:Nat):α:=l.getD i default
inductive SV where
  |any
  |dat (t:Ty) (d:t.Data)
  |ep (t:Ty) (d:t.Data)
  |bp (o off:Nat)
  |own (o:Nat) (t:Ty)
  |osl (o:Nat) (t:Ty) (lo n:Nat)
  |rp (o:Nat) (t:Ty) (i off:Nat)
  |mp (o:Nat)
  |ip (o:Nat)
  |fn (ps rs:List Ty) (pre:(Ty.st ps).Data→List Prop) (F:(Ty.st ps).Data→(Ty.st rs).Data)
  |fnp (ps rs:List Ty) (pre:(Ty.st ps).Data→List Prop) (F:(Ty.st ps).Data→(Ty.st rs).Data)--a pointer to a function value that stays
  |fe (ptr:Bool) (o T:Nat) (st:Ty) (ps rs:List Ty) (pre:(Ty.st ps).Data→List Prop) (K:(Ty.st ps).Data→st.Data→(Ty.st rs).Data×st.Data)
  |fcl (t:Ty) (d:List t.Data)--a slice of data whose capacity is its length
  |clo (f:Nat) (caps:List SV)
  |agg (cs:List SV)
  |tup (vs:List SV)
  |lit (v:Value)
inductive Nl where
  |yes|no|unk
  deriving DecidableEq
inductive Ob where
  |box (T:Nat) (fz:Bool) (cs:List SV)
  |row (E:Nat) (t:Ty) (fz:Bool) (nl:Nl) (l:List t.Data)
  |map (fz:Bool) (kt vt:Ty) (l:List (kt.Data×vt.Data))
  |iter (kt vt:Ty) (left:List (kt.Data×vt.Data)) (cur:Option (kt.Data×vt.Data))
  |mape (kt vt:Ty) (l:List (kt.Data×vt.Data)) (k:kt.Data) (s:Int)--a map whose entry at a key has been laid,with this stamp,and is not yet written
structure St where
  sl:List (Nat×SV)
  ob:List (Nat×Option Ob)
def jF {α:Type}:List (Nat×α)→Nat→Option α
  |[],_=>none
  | (j,x)::r,k=>match Nat.beq j k with|true=>some x|false=>jF r k
def St.get (σ:St) (s:Nat):SV:=match jF σ.sl s with|some v=>v|none=> .any
def St.obj (σ:St) (o:Nat):Option Ob:=match jF σ.ob o with|some x=>x|none=>none
def jaH:List Nat→Nat→Bool
  |[],_=>false
  |j::r,k=>match Nat.beq j k with|true=>true|false=>jaH r k
def SV.refs (o:Nat):SV→Bool
  | .bp o' _=>Nat.beq o o'
  | .own o' _=>Nat.beq o o'
  | .osl o' _ _ _=>Nat.beq o o'
  | .rp o' _ _ _=>Nat.beq o o'
  | .mp o'=>Nat.beq o o'
  | .ip o'=>Nat.beq o o'
  | .fe _ o' _ _ _ _ _ _=>Nat.beq o o'
  | .clo _ caps=>refsL caps
  | .agg cs=>refsL cs
  | .tup cs=>refsL cs
  |_=>false
where
  refsL:List SV→Bool
    |[]=>false
    |v::r=>match SV.refs o v with|true=>true|false=>refsL r
def zW:Ty→Bool
  | .unit=>false
  |_=>true
structure TI where
  id:Nat
  ty:Ty
  size:Nat
  agg:Bool
  fields:List (Nat×Nat)--offset,type
  sl:Bool--is it a slice
  elem:Nat--of a slice
  bytes:Nat
  zero:List Value
  cmp:Bool--may be compared
  mp:Bool--is it a map
  key:Nat--of a map
  kq:Bool--may be a map's key
  arr:Bool:=false--is it an array (of numbers);'fields' are its elements then
  pt:Bool:=false--is it a pointer
  fk:Bool:=false--is it a function's
def TI.flds (ti:TI):List (Nat×Nat):=match ti.arr with|true=>[]|false=>ti.fields
inductive Par where
  |val (t:Ty)
  |ref (t:Ty)
  |fn (ps rs:List Ty)
  |rfn (ps rs:List Ty)--a pointer to a function value that stays
structure FnD (ps rs:List Ty) where
  pre:(Ty.st ps).Data→List Prop
  F:(Ty.st ps).Data→(Ty.st rs).Data
@[reducible] def Par.Data:Par→Type
  | .val t=>t.Data
  | .ref t=>t.Data
  | .fn ps rs=>FnD ps rs
  | .rfn ps rs=>FnD ps rs
@[reducible] def PD:List Par→Type
  |[]=>Unit
  |p::ps=>p.Data×PD ps
structure jW where
  ps:List Par
  rs:List Ty
  own:Bool
  pre:PD ps→List Prop
  F:PD ps→(Ty.st rs).Data
structure Out where
  vc:List Prop
  fact:List Prop
  sv:SV
  fz:List Nat
  wr:List (Nat×Option Ob)
  nw:List Nat--the objects that are made
def Out.pure (sv:SV):Out:=⟨[],[],sv,[],[],[]⟩
structure Ctx where
  n:Nat--how many slots the frame has
  ti:List TI
  fs:List (Nat×jW)
  eff:Nat→Nat→St→List SV→Option Out--function,dst,state,arguments
  strs:List Nat--types of strings
  lit:Bool--is a map literal being made?
def jsM:List TI→Nat→Option TI
  |[],_=>none
  |x::r,k=>match Nat.beq x.id k with|true=>some x|false=>jsM r k
def Ctx.info (C:Ctx) (T:Nat):Option TI:=jsM C.ti T
def Ctx.known (C:Ctx) (T:Nat):Option TI:=
  match C.info T with
  |some ti=>match zW ti.ty with
    |true=>some ti
    |false=>none
  |none=>none
def Ctx.slice (C:Ctx) (U:Nat):Option (TI×TI):=
  match C.info U with
  |some ti=>match ti.sl with
    |true=>match C.info ti.elem with
      |some te=>match zW te.ty with
        |true=>some (ti,te)
        |false=>none
      |none=>none
    |false=>none
  |none=>none
def Ctx.mapT (C:Ctx) (U:Nat):Option (TI×TI×TI):=
  match C.info U with
  |some ti=>match ti.mp with
    |true=>match C.info ti.key,C.info ti.elem with
      |some tk,some te=>match tk.kq,zW te.ty with
        |true,true=>some (ti,tk,te)
        |_,_=>none
      |_,_=>none
    |false=>none
  |none=>none
def Ctx.spec (C:Ctx) (f:Nat):Option jW:=jF C.fs f
def jn6:Value→SV
  | .int .i64 n=> .dat .int n
  | .int k n=> .dat (.uint k) n
  | .bool b=> .dat .bool b
  |v=> .lit v
def jL (σ:St):Operand→SV
  | .tmp t=>σ.get t
  | .const v=>jn6 v
  | .global g=> .lit (.pointer (some ⟨g,0,none⟩))
  | .func f=> .clo f []
def zc:Value→Bool
  | .slice none 0 0=>true
  |_=>false
def jkR:Value→Bool
  | .map none=>true
  |_=>false
def jhM:Value→Bool
  | .pointer none=>true
  |_=>false
def jiW:Value→Bool
  | .nilFunc=>true
  |_=>false
def jDc:Value→Option ((t:Ty)×t.Data)
  | .pointer (some ⟨g,0,none⟩)=>jF jFD g
  |_=>none
def jY {α:Type} (d:α):Option α→α
  |some x=>x
  |none=>d
def z8:Ob→Ob
  | .row E t _ nl l=> .row E t true nl l
  | .box T _ cs=> .box T true cs
  | .map _ kt vt l=> .map true kt vt l
  |x=>x
def q6 (σ:St):List Nat→List (Nat×Option Ob)
  |[]=>[]
  |o::r=>match σ.obj o with
    |some x=>(o,some (z8 x))::q6 σ r
    |none=>q6 σ r
def St.frz (σ:St) (fz:List Nat):St:={σ with ob:=q6 σ fz++σ.ob}
def gD (σ:St) (t:Ty):SV→Option (List t.Data)
  | .dat t' d=>zg t' (.slice t) d
  | .own o _=>match σ.obj o with
    |some (.row _ t' _ _ l)=>zg (.slice t') (.slice t) l
    |_=>none
  | .osl o u lo n=>match σ.obj o with
    |some (.row _ t' _ _ l)=>match zg (.slice t') (.slice u) l with
      |some l'=>zg (.slice u) (.slice t) ((l'.drop lo).take n)
      |none=>none
    |_=>none
  | .lit v=>match zc v with|true=>some []|false=>none
  |_=>none
def jlI (σ:St):(t:Ty)→SV→Option (t.Data×List Nat)
  | .slice t,.own o u=>match gD σ t (.own o u) with
    |some l=>some (l,[o])
    |none=>none
  | .slice t,.osl o u lo n=>match gD σ t (.osl o u lo n) with
    |some l=>some (l,[o])
    |none=>none
  | .slice _,.lit v=>match zc v with|true=>some ([],[])|false=>none
  | .map kt vt,.mp o=>match σ.obj o with
    |some (.map _ kt' vt' l)=>match zg (.map kt' vt') (.map kt vt) l with
      |some l'=>some (l',[o])
      |none=>none
    |_=>none
  | .map _ _,.lit v=>match jkR v with|true=>some ([],[])|false=>none
  |t,.dat t' d=>match zg t' t d with|some x=>some (x,[])|none=>none
  |_,_=>none
def jp5 {α:Type} (dec:List SV→Option (α×List SV×List Nat)) (cst:(t:Ty)→t.Data→Option α) (cstP:(t:Ty)→t.Data→Option (Option α)) (σ:St):SV→Option (Option α×List Nat)
  | .dat t d=>match cstP t d with|some x=>some (x,[])|none=>none
  | .ep t d=>match cst t d with|some x=>some (some x,[])|none=>none
  | .bp o off=>match σ.obj o with
    |some (.box _ _ cs)=>match dec (cs.drop off) with
      |some (x,_,f)=>some (some x,o::f)
      |none=>none
    |_=>none
  | .lit v=>match jhM v with|true=>some (none,[])|false=>none
  |_=>none
def wB (σ:St):(t:Ty)→List SV→Option (t.Data×List SV×List Nat)
  | .unit,cs=>some ((),cs,[])
  | .pair a b,cs=>match wB σ a cs with
    |some (x,r,f)=>match wB σ b r with
      |some (y,r',f')=>some ((x,y),r',f++f')
      |none=>none
    |none=>none
  | .ptr t,c::r=>match jp5 (wB σ t) (fun u d=>zg u t d) (fun u d=>zg u (.ptr t) d) σ c with
    |some (x,f)=>some (x,r,f)
    |none=>none
  |t,c::r=>match jlI σ t c with
    |some (x,f)=>some (x,r,f)
    |none=>none
  |_,[]=>none
def jvx (σ:St):(t:Ty)→SV→Option (t.Data×List Nat)
  | .ptr t,c=>jp5 (wB σ t) (fun u d=>zg u t d) (fun u d=>zg u (.ptr t) d) σ c
  |t,c=>jlI σ t c
def qH (σ:St) (t:Ty):SV→Option (t.Data×List Nat)
  | .dat t' d=>match zg t' t d with|some x=>some (x,[])|none=>none
  | .agg cs=>match wB σ t cs with
    |some (x,[],f)=>match t.agg with|true=>some (x,f)|false=>none
    |_=>none
  |v=>match t.agg with|true=>none|false=>jvx σ t v
def jpm:(t:Ty)→t.Data→List SV
  | .unit,_=>[]
  | .pair a b,d=>jpm a d.1++jpm b d.2
  |t,d=>[.dat t d]
def jo6 (σ:St) (o:Nat):Bool:=match σ.obj o with|some _=>true|none=>false
def cells (σ:St):SV→Option (List SV)
  | .any=>none
  | .tup _=>none
  | .fcl _ _=>none
  | .agg cs=>some cs
  | .dat t d=>some (jpm t d)
  | .lit (.agg _)=>none
  | .lit (.tuple _)=>none
  | .bp o k=>match jo6 σ o with|true=>some [.bp o k]|false=>none
  | .own o t=>match jo6 σ o with|true=>some [.own o t]|false=>none
  | .osl o t lo n=>match jo6 σ o with|true=>some [.osl o t lo n]|false=>none
  | .rp o t i k=>match jo6 σ o with|true=>some [.rp o t i k]|false=>none
  | .mp o=>match jo6 σ o with|true=>some [.mp o]|false=>none
  | .ip o=>match jo6 σ o with|true=>some [.ip o]|false=>none
  | .fe b o T st ps rs pre K=>match jo6 σ o with|true=>some [.fe b o T st ps rs pre K]|false=>none
  |v=>some [v]
def jtE (σ:St) (t:Ty):SV→Option (t.Data×List Nat)
  | .ep t' d=>match zg t' t d with|some x=>some (x,[])|none=>none
  | .bp o off=>match σ.obj o with
    |some (.box _ _ cs)=>match wB σ t (cs.drop off) with
      |some (x,_,f)=>some (x,o::f)
      |_=>none
    |_=>none
  | .dat (.ptr t') d=>match d with
    |some d=>match zg t' t d with|some x=>some (x,[])|none=>none
    |none=>none
  |_=>none
def jFb (σ:St):(ps:List Par)→List SV→Option (PD ps×List Nat)
  |[],[]=>some ((),[])
  | .val t::ps,v::vs=>match qH σ t v with
    |some (x,f)=>match jFb σ ps vs with
      |some (xs,f')=>some ((x,xs),f++f')
      |none=>none
    |none=>none
  | .ref t::ps,v::vs=>match jtE σ t v with
    |some (x,f)=>match jFb σ ps vs with
      |some (xs,f')=>some ((x,xs),f++f')
      |none=>none
    |none=>none
  |_,_=>none
def jrb (σ:St):(ps:List Ty)→List SV→Option ((Ty.st ps).Data×List Nat)
  |[],[]=>some ((),[])
  |t::ps,v::vs=>match qH σ t v with
    |some (x,f)=>match jrb σ ps vs with
      |some (xs,f')=>some ((x,xs),f++f')
      |none=>none
    |none=>none
  |_,_=>none
def gY:(ps:List Ty)→(qs:List Par)→Option ((rest:List Par)×((Ty.st ps).Data→PD rest→PD qs))
  |[],qs=>some ⟨qs,fun _ y=>y⟩
  |t::ps,.val u::qs=>
    if h:t=u then match gY ps qs with
      |some ⟨rest,k⟩=>some ⟨rest,fun x y=>(h▸x.1,k x.2 y)⟩
      |none=>none
    else none
  |_,_=>none
def jCn (tf:(ps rs:List Ty)→SV→Option (FnD ps rs×List Nat)) (σ:St) (ps rs:List Ty):SV→Option (FnD ps rs×List Nat)
  | .fnp ps' rs' pre F=>if h:ps'=ps∧rs'=rs then some (⟨h.1▸pre,h.1▸h.2▸F⟩,[]) else none
  | .bp o 0=>match σ.obj o with
    |some (.box _ _ [c])=>match tf ps rs c with
      |some (x,f)=>some (x,o::f)
      |none=>none
    |_=>none
  |_=>none
def jgT (tf:(ps rs:List Ty)→SV→Option (FnD ps rs×List Nat)) (σ:St):(ps:List Par)→List SV→Option (PD ps×List Nat)
  |[],[]=>some ((),[])
  | .val t::ps,v::vs=>match qH σ t v with
    |some (x,f)=>match jgT tf σ ps vs with
      |some (xs,f')=>some ((x,xs),f++f')
      |none=>none
    |none=>none
  | .ref t::ps,v::vs=>match jtE σ t v with
    |some (x,f)=>match jgT tf σ ps vs with
      |some (xs,f')=>some ((x,xs),f++f')
      |none=>none
    |none=>none
  | .rfn aZ rs::ps,v::vs=>match jCn tf σ aZ rs v with
    |some (x,f)=>match jgT tf σ ps vs with
      |some (xs,f')=>some ((x,xs),f++f')
      |none=>none
    |none=>none
  |_,_=>none
def jru (C:Ctx) (σ:St):Nat→(ps rs:List Ty)→SV→Option (FnD ps rs×List Nat)
  |0,_,_,_=>none
  |n+1,ps,rs,v=>match v with
    | .fn ps' rs' pre F=>if h:ps'=ps∧rs'=rs then some (⟨h.1▸pre,h.1▸h.2▸F⟩,[]) else none
    | .clo f caps=>match C.spec f with
      |some s=>if h:s.rs=rs∧s.own=false then match gY ps s.ps with
          |some ⟨rest,k⟩=>match jgT (jru C σ n) σ rest caps with
            |some (y,fz)=>some (⟨fun x=>s.pre (k x y),fun x=>h.1▸s.F (k x y)⟩,fz)
            |none=>none
          |none=>none
        else none
      |none=>none
    |_=>none
def jDE (C:Ctx) (σ:St) (ps rs:List Ty) (v:SV):Option (FnD ps rs×List Nat):=jru C σ 4 ps rs v
def kV (C:Ctx) (σ:St):(ps:List Par)→List SV→Option (PD ps×List Nat)
  |[],[]=>some ((),[])
  | .val t::ps,v::vs=>match qH σ t v with
    |some (x,f)=>match kV C σ ps vs with
      |some (xs,f')=>some ((x,xs),f++f')
      |none=>none
    |none=>none
  | .ref t::ps,v::vs=>match jtE σ t v with
    |some (x,f)=>match kV C σ ps vs with
      |some (xs,f')=>some ((x,xs),f++f')
      |none=>none
    |none=>none
  | .fn aZ rs::ps,v::vs=>match jDE C σ aZ rs v with
    |some (x,f)=>match kV C σ ps vs with
      |some (xs,f')=>some ((x,xs),f++f')
      |none=>none
    |none=>none
  | .rfn aZ rs::ps,v::vs=>match jCn (jDE C σ) σ aZ rs v with
    |some (x,f)=>match kV C σ ps vs with
      |some (xs,f')=>some ((x,xs),f++f')
      |none=>none
    |none=>none
  |_,_=>none
def zC (kt:Ty) {β:Type} (k:kt.Data):List (kt.Data×β)→Option β
  |[]=>none
  |e::r=>if @decide (k=e.1) (kt.decEq k e.1)=true then some e.2 else zC kt k r
def jgi (kt:Ty) {β:Type} (k:kt.Data) (v:β):List (kt.Data×β)→List (kt.Data×β)
  |[]=>[(k,v)]
  |e::r=>if @decide (k=e.1) (kt.decEq k e.1)=true then(k,v)::r else e::jgi kt k v r
def wc {β:Type} (d:β):Option β→β
  |some x=>x
  |none=>d
def jFs {β:Type}:Option β→Bool
  |some _=>true
  |none=>false
def jbc (kt:Ty) {β:Type} (d:β) (k:kt.Data) (l:List (kt.Data×β)):List (kt.Data×β):=jgi kt k (wc d (zC kt k l)) l
def jBZ (σ:St) (kt vt:Ty):SV→Option (List (kt.Data×vt.Data))
  | .dat t d=>zg t (.map kt vt) d
  | .mp o=>match σ.obj o with
    |some (.map _ kt' vt' l)=>zg (.map kt' vt') (.map kt vt) l
    |some (.mape kt' vt' l k _)=>zg (.map kt' vt') (.map kt vt) (jbc kt' vt'.dflt k l)
    |_=>none
  | .lit v=>match jkR v with|true=>some []|false=>none
  |_=>none
def jx (x:Int):Prop:= -9223372036854775808≤x∧x≤9223372036854775807
def ya (a b:Int):Int:=IntKind.i64.wrap ((BitVec.ofInt 64 a&&&BitVec.ofInt 64 b).toNat:Int)
def bor (a b:Int):Int:=IntKind.i64.wrap ((BitVec.ofInt 64 a|||BitVec.ofInt 64 b).toNat:Int)
def jGM (a b:Int):Int:=IntKind.i64.wrap ((BitVec.ofInt 64 a^^^BitVec.ofInt 64 b).toNat:Int)
def jx2 (a b:Int):Int:=IntKind.i64.wrap ((BitVec.ofInt 64 a&&& ~~~(BitVec.ofInt 64 b)).toNat:Int)
def jpt (op:BinOp) (a b:Int):Option Out:=
  match op with
  | .add=>some ⟨[jx (a+b)],[],.dat .int (a+b),[],[],[]⟩
  | .sub=>some ⟨[jx (a-b)],[],.dat .int (a-b),[],[],[]⟩
  | .mul=>some ⟨[jx (a*b)],[],.dat .int (a*b),[],[],[]⟩
  | .quo=>some ⟨[b≠0,jx (a.tdiv b)],[],.dat .int (a.tdiv b),[],[],[]⟩
  | .rem=>some ⟨[b≠0],[],.dat .int (a.tmod b),[],[],[]⟩
  | .and=>some (.pure (.dat .int (ya a b)))
  | .or=>some (.pure (.dat .int (bor a b)))
  | .xor=>some (.pure (.dat .int (jGM a b)))
  | .andNot=>some (.pure (.dat .int (jx2 a b)))
  | .shl=>some ⟨[0≤b,b≤64,jx (a*2^b.toNat)],[],.dat .int (a*2^b.toNat),[],[],[]⟩
  | .shr=>some ⟨[0≤b,b≤64],[],.dat .int (a/2^b.toNat),[],[],[]⟩
  | .eql=>some (.pure (.dat .bool (decide (a=b))))
  | .neq=>some (.pure (.dat .bool (decide (a≠b))))
  | .lss=>some (.pure (.dat .bool (decide (a<b))))
  | .leq=>some (.pure (.dat .bool (decide (a≤b))))
  | .gtr=>some (.pure (.dat .bool (decide (b<a))))
  | .geq=>some (.pure (.dat .bool (decide (b≤a))))
def wX (a b:Int):Int:=IntKind.u64.wrap ((BitVec.ofInt 64 a&&&BitVec.ofInt 64 b).toNat:Int)
def uor (a b:Int):Int:=IntKind.u64.wrap ((BitVec.ofInt 64 a|||BitVec.ofInt 64 b).toNat:Int)
def jE9 (op:BinOp) (a b:Int):Option Out:=
  match op with
  | .add=>some ⟨[0≤a+b,a+b≤18446744073709551615],[],.dat (.uint .u64) (a+b),[],[],[]⟩
  | .sub=>some ⟨[0≤a-b,a-b≤18446744073709551615],[],.dat (.uint .u64) (a-b),[],[],[]⟩
  | .mul=>some ⟨[0≤a*b,a*b≤18446744073709551615],[],.dat (.uint .u64) (a*b),[],[],[]⟩
  | .and=>some (.pure (.dat (.uint .u64) (wX a b)))
  | .or=>some (.pure (.dat (.uint .u64) (uor a b)))
  | .shl=>some ⟨[0≤b,b≤64,0≤a*2^b.toNat,a*2^b.toNat≤18446744073709551615],[],.dat (.uint .u64) (a*2^b.toNat),[],[],[]⟩
  | .shr=>some ⟨[0≤b,b≤64],[],.dat (.uint .u64) (a/2^b.toNat),[],[],[]⟩
  | .eql=>some (.pure (.dat .bool (decide (a=b))))
  | .neq=>some (.pure (.dat .bool (decide (a≠b))))
  | .lss=>some (.pure (.dat .bool (decide (a<b))))
  | .leq=>some (.pure (.dat .bool (decide (a≤b))))
  | .gtr=>some (.pure (.dat .bool (decide (b<a))))
  | .geq=>some (.pure (.dat .bool (decide (b≤a))))
  |_=>none
def jFy:SV→Bool
  | .lit v=>zc v
  |_=>false
def jGA (σ:St):SV→Option Bool
  | .dat (.ptr _) x=>some x.isNone
  | .ep _ _=>some false
  | .bp o _=>match jo6 σ o with|true=>some false|false=>none
  | .rp o _ _ _=>match jo6 σ o with|true=>some false|false=>none
  | .lit v=>match jhM v with|true=>some true|false=>none
  |_=>none
def jGB:SV→Option Bool
  | .fn _ _ _ _=>some false
  | .clo _ _=>some false
  | .lit v=>match jiW v with|true=>some true|false=>none
  |_=>none
def jD8 (σ:St) (ti:TI) (x y:SV):Option Bool:=match ti.pt,ti.fk,y with
  |true,_,.lit v=>match jhM v with|true=>jGA σ x|false=>none
  |false,true,.lit v=>match jiW v with|true=>jGB x|false=>none
  |_,_,_=>none
def jzF (σ:St):SV→Option Bool
  | .own o _=>match σ.obj o with
    |some (.row _ _ _ .yes l)=>some l.isEmpty
    |some (.row _ _ _ .no _)=>some false
    |_=>none
  | .lit v=>match zc v with|true=>some true|false=>none
  |_=>none
def jEM (C:Ctx) (σ:St) (op:BinOp) (T:Nat) (x y:SV):Option Out:=
  match x,y with
  | .dat .int a,.dat .int b=>jpt op a b
  | .dat .int a,.dat (.uint _) b=>match op with
    | .shl=>jpt .shl a b
    | .shr=>jpt .shr a b
    |_=>none
  | .dat (.uint .u64) a,.dat (.uint .u64) b=>jE9 op a b
  | .dat (.uint .u64) a,.dat .int b=>match op with
    | .shl=>jE9 .shl a b
    | .shr=>jE9 .shr a b
    |_=>none
  |_,_=>match C.info T with
    |none=>none
    |some ti=>match ti.cmp with
      |true=>match qH σ ti.ty x,qH σ ti.ty y with
        |some (a,[]),some (b,[])=>match op with
          | .eql=>some (.pure (.dat .bool (@decide (a=b) (ti.ty.decEq a b))))
          | .neq=>some (.pure (.dat .bool (!(@decide (a=b) (ti.ty.decEq a b)))))
          |_=>none
        |_,_=>none
      |false=>match jFy y,ti.sl with
        |true,true=>match jzF σ x with
          |some b=>match op with
            | .eql=>some (.pure (.dat .bool b))
            | .neq=>some (.pure (.dat .bool (!b)))
            |_=>none
          |none=>none
        |_,_=>match jD8 σ ti x y with
          |some b=>match op with
            | .eql=>some (.pure (.dat .bool b))
            | .neq=>some (.pure (.dat .bool (!b)))
            |_=>none
          |none=>none
def jeF (σ:St) (t:Ty):List (Nat×Operand)→(i:Nat)→Option (List t.Data×List Nat)
  |[],_=>some ([],[])
  | (j,x)::r,i=>match Nat.beq i j with
    |true=>match qH σ t (jL σ x) with
      |some (d,f)=>match jeF σ t r (i+1) with
        |some (l,f')=>some (d::l,f++f')
        |none=>none
      |none=>none
    |false=>none
def jp8 (cs new:List SV) (off:Nat):List SV:=cs.take off++new++cs.drop (off+new.length)
def v7 (C:Ctx) (σ:St) (fields:List (Nat×Nat)):List (Nat×Operand)→List SV→Option (List SV)
  |[],cs=>some cs
  | (j,x)::r,cs=>match fields[j]? with
    |some (off,ft)=>match cells σ (jL σ x),C.info ft with
      |some new,some tf=>match Nat.beq new.length tf.size,Nat.ble (off+new.length) cs.length with
        |true,true=>v7 C σ fields r (jp8 cs new off)
        |_,_=>none
      |_,_=>none
    |none=>none
def lenOf (σ:St):SV→Option (List Prop×Nat)
  | .dat (.slice _) l=>some ([l.length<4611686018427387904],l.length)
  | .own o _=>match σ.obj o with
    |some (.row _ _ _ _ l)=>some ([l.length<4611686018427387904],l.length)
    |_=>none
  | .osl o _ _ n=>match σ.obj o with
    |some (.row _ _ _ _ _)=>some ([n<4611686018427387904],n)
    |_=>none
  | .lit v=>match zc v with|true=>some ([],0)|false=>none
  |_=>none
def jmW:List SV→Int→Option Int
  |[],a=>some a
  | .dat .int b::r,a=>jmW r (min a b)
  |_,_=>none
def jmX:List SV→Int→Option Int
  |[],a=>some a
  | .dat .int b::r,a=>jmX r (max a b)
  |_,_=>none
def results:(rs:List Ty)→(Ty.st rs).Data→List SV
  |[],_=>[]
  |t::ts,d=> .dat t d.1::results ts d.2
def jrJ (rs:List Ty) (d:(Ty.st rs).Data):SV:=
  match results rs d with
  |[v]=>v
  |vs=> .tup vs
def jgw (o:Nat):List (Nat×SV)→Bool
  |[]=>true
  | (_,v)::r=>match SV.refs o v with|true=>false|false=>jgw o r
def jqJ (o:Nat):List (Nat×(Nat×Bool)×SV)→Bool
  |[]=>true
  | (_,_,v)::r=>match SV.refs o v with|true=>false|false=>jqJ o r
def vF (o:Nat):List (Nat×Option Ob)→Bool
  |[]=>true
  | (_,some (.box _ _ cs))::r=>match SV.refs.refsL o cs with|true=>false|false=>vF o r
  |_::r=>vF o r
def asInt:SV→Option Int
  | .dat .int i=>some i
  |_=>none
def jwu:SV→Option Int
  | .dat (.uint _) i=>some i
  |_=>none
def jvh (σ:St) (x:Option Operand) (dflt:Int):Option Int:=
  match x with
  |none=>some dflt
  |some a=>asInt (jL σ a)
def jsJ:Ty→Bool
  | .slice _=>false
  | .map _ _=>false
  | .ptr _=>false
  | .pair a b=>match jsJ a with|true=>jsJ b|false=>false
  |_=>true
def jxB:List Ty→Bool
  |[]=>true
  |t::r=>match jsJ t with|true=>jxB r|false=>false
def jF7 (rs:List Ty) (fz:List Nat):List Nat:=match jxB rs with|true=>[]|false=>fz
def jpr (C:Ctx) (σ:St) (dst:Nat) (callee:SV) (args:List SV):Option Out:=
  match callee with
  | .clo f caps=>match C.spec f with
    |some s=>match kV C σ s.ps (args++caps) with
      |some (d,fz)=>match s.own with
        |false=>some ⟨s.pre d,[],jrJ s.rs (s.F d),jF7 s.rs fz,[],[]⟩
        |true=>none
      |none=>none
    |none=>C.eff f dst σ (args++caps)
  | .fn ps rs pre F=>match jrb σ ps args with
    |some (d,fz)=>some ⟨pre d,[],jrJ rs (F d),jF7 rs fz,[],[]⟩
    |none=>none
  | .fe false o T st ps rs pre K=>match jrb σ ps args,σ.obj o with
    |some (d,fz),some (.box T' false [c])=>match Nat.beq T T',jaH fz o,st.agg,qH σ st c with
      |true,false,false,some (s,[])=>some ⟨pre d,[],jrJ rs (K d s).1,fz,[(o,some (.box T false [.dat st (K d s).2]))],[]⟩
      |_,_,_,_=>none
    |_,_=>none
  |_=>none
def jEe (C:Ctx) (σ:St):List Operand→List Nat→Option Out
  |[x],[U]=>match C.slice U,lenOf σ (jL σ x) with
    |some _,some (f,n)=>some ⟨[],f,.dat .int (n:Int),[],[],[]⟩
    |some _,none=>none
    |none,_=>match C.mapT U with
      |some (_,tk,te)=>match jBZ σ tk.ty te.ty (jL σ x) with
        |some l=>some ⟨[],[],.dat .int (l.length:Int),[],[],[]⟩
        |none=>none
      |none=>none
  |_,_=>none
def jEF (C:Ctx) (σ:St):List Operand→List Nat→Option Out
  |[x],[U]=>match C.slice U,jL σ x with
    |some _,.lit v=>match zc v with
      |true=>some (.pure (.dat .int 0))
      |false=>none
    |_,_=>none
  |_,_=>none
def jDs (C:Ctx) (σ:St) (dst:Nat) (b x:Operand) (U U':Nat):Option Out:=
  match C.slice U,C.info U' with
  |some (ti,te),some tx=>match jL σ b,jL σ x,tx.ty,tx.agg with
    | .lit v,.dat .int n,.int,false=>match zc v with
      |true=>some ⟨[0<n,n.toNat*te.bytes≤140737488355328],[],.own dst te.ty,[],[(dst,some (.row ti.elem te.ty false .yes (List.replicate n.toNat te.ty.dflt)))],[dst]⟩
      |false=>none
    |_,_,_,_=>none
  |_,_=>none
def jES (C:Ctx) (σ:St) (dst:Nat):List Operand→List Nat→Option Out
  |[b,x],[U,U']=>match Nat.beq U U',C.slice U with
    |true,some (ti,te)=>match gD σ te.ty (jL σ x) with
      |some news=>match jL σ b with
        | .own o _=>match σ.obj o with
          |some (.row E t false nl l)=>match zg (.slice t) (.slice te.ty) l with
            |some l'=>match Nat.beq E ti.elem with
              |true=>some ⟨[(l'.length+news.length)*te.bytes≤140737488355328],[],.own dst te.ty,[],[(o,none),(dst,some (.row E te.ty false nl (l'++news)))],[dst]⟩
              |false=>none
            |none=>none
          |_=>none
        | .osl o _ 0 n=>match σ.obj o with
          |some (.row E t false .no l)=>match zg (.slice t) (.slice te.ty) l with
            |some l'=>match Nat.beq E ti.elem with
              |true=>some ⟨[(n+news.length)*te.bytes≤140737488355328],[],.own dst te.ty,[],[(o,none),(dst,some (.row E te.ty false .no (l'.take n++news)))],[dst]⟩
              |false=>none
            |none=>none
          |some (.row E t false .unk l)=>match zg (.slice t) (.slice te.ty) l with
            |some l'=>match Nat.beq E ti.elem with
              |true=>some ⟨[(n+news.length)*te.bytes≤140737488355328],[],.own dst te.ty,[],[(o,none),(dst,some (.row E te.ty false .unk (l'.take n++news)))],[dst]⟩
              |false=>none
            |none=>none
          |some (.row E t false .yes l)=>match zg (.slice t) (.slice te.ty) l with
            |some l'=>match Nat.beq E ti.elem,news with
              |true,y::ys=>some ⟨[(n+(y::ys).length)*te.bytes≤140737488355328],[],.own dst te.ty,[],[(o,none),(dst,some (.row E te.ty false .yes (l'.take n++(y::ys))))],[dst]⟩
              |_,_=>none
            |none=>none
          |_=>none
        | .lit v=>match zc v with
          |true=>some ⟨[news.length*te.bytes≤140737488355328],[],.own dst te.ty,[],[(dst,some (.row ti.elem te.ty false .yes news))],[dst]⟩
          |false=>none
        | .fcl t l=>match zg (.slice t) (.slice te.ty) l,news with
          |some l',y::ys=>some ⟨[(l'.length+(y::ys).length)*te.bytes≤140737488355328],[],.own dst te.ty,[],[(dst,some (.row ti.elem te.ty false .no (l'++(y::ys))))],[dst]⟩
          |_,_=>none
        |_=>none
      |none=>none
    |false,some _=>jDs C σ dst b x U U'
    |_,_=>none
  |_,_=>none
def qY (s:ByteArray) (i:Nat):Int:=((s.data.toList.getD i 0).toNat:Int)
def jGr:SV→Option Int
  | .dat .int i=>some i
  | .dat (.uint _) i=>some i
  |_=>none
def jED (C:Ctx) (σ:St):List Operand→List Nat→Option Out
  |[x],[U]=>match C.slice U,jL σ x with
    |some (_,te),.osl o u lo n=>match σ.obj o with
      |some (.row E t false nl l)=>match zg (.slice t) (.slice te.ty) l,yr u te.ty with
        |some l',true=>some ⟨[lo+n=l'.length],[],.any,[],[(o,some (.row E te.ty false nl (l'.take lo++List.replicate n te.ty.dflt)))],[]⟩
        |_,_=>none
      |_=>none
    |_,_=>none
  |_,_=>none
def jCU (σ:St):SV→Option (Nat×Nat×Nat)
  | .own o _=>match σ.obj o with
    |some (.row _ _ _ _ l)=>some (o,0,l.length)
    |_=>none
  | .osl o _ lo n=>some (o,lo,n)
  |_=>none
def eTy (t:Ty):SV→Bool
  | .osl _ u _ _=>yr u t
  | .own _ _=>true
  |_=>false
def jyi {α:Type} (l:List α) (lo n:Nat) (news:List α):List α:=l.take lo++news.take n++l.drop (lo+(news.take n).length)
def jEy (C:Ctx) (σ:St):List Operand→List Nat→Option Out
  |[x,y],[U,U']=>match Nat.beq U U',C.slice U with
    |true,some (_,te)=>match gD σ te.ty (jL σ y),jCU σ (jL σ x),eTy te.ty (jL σ x) with
      |some news,some (o,lo,n),true=>match σ.obj o with
        |some (.row E t false nl l)=>match zg (.slice t) (.slice te.ty) l with
          |some l'=>some ⟨[lo+n≤l'.length],[],.dat .int ((news.take n).length:Int),[],[(o,some (.row E te.ty false nl (jyi l' lo n news)))],[]⟩
          |none=>none
        |_=>none
      |_,_,_=>none
    |_,_=>none
  |_,_=>none
def jB0 (C:Ctx) (σ:St) (dst U:Nat) (l c:Operand):Option Out:=match C.slice U,asInt (jL σ l),asInt (jL σ c) with
  |some (ti,te),some n,some m=>some ⟨[0≤n,n=m,n.toNat*te.bytes≤140737488355328],[],.own dst te.ty,[],[(dst,some (.row ti.elem te.ty false .no (List.replicate n.toNat te.ty.dflt)))],[dst]⟩
  |_,_,_=>none
def jBp (C:Ctx) (σ:St) (U:Nat) (m ix x:Operand):Option Out:=match C.mapT U with
  |some (_,tk,te)=>match jL σ m with
    | .mp o=>match σ.obj o with
      |some (.map false kt vt l)=>match zg (.map kt vt) (.map tk.ty te.ty) l,qH σ tk.ty (jL σ ix),qH σ te.ty (jL σ x) with
        |some l',some (k,[]),some (v,fz)=>match jaH fz o with
          |false=>some ⟨[],[],.any,fz,[(o,some (.map false tk.ty te.ty (jgi tk.ty k v l')))],[]⟩
          |true=>none
        |_,_,_=>none
      |_=>none
    |_=>none
  |none=>none
def jvi (C:Ctx) (U:Nat) (x:SV) (i:Int):Option Out:=
  match C.known U with
  |some ti=>match ti.arr,ti.fields[i.toNat]?,C.known ti.elem with
    |true,some (off,_),some te=>match x with
      | .ep t d=>match zg t ti.ty d with
        |some d'=>match ti.ty.sub off te.ty d' with
          |some y=>some ⟨[0≤i],[],.ep te.ty y,[],[],[]⟩
          |none=>none
        |none=>none
      |_=>none
    |_,_,_=>none
  |none=>none
def jif (σ:St) (t:Ty):List SV→Option (List t.Data)
  |[]=>some []
  |c::r=>match jvx σ t c,jif σ t r with
    |some (d,[]),some l=>some (d::l)
    |_,_=>none
def jDM (C:Ctx) (σ:St) (U:Nat) (x:SV) (lo hi:Option Operand):Option Out:=
  match C.known U,lo,hi,x with
  |some ti,none,none,.bp o 0=>match ti.arr,C.known ti.elem,σ.obj o with
    |true,some te,some (.box _ _ cs)=>match jif σ te.ty cs,Nat.beq cs.length ti.size,te.ty.agg with
      |some l,true,false=>some ⟨[],[],.dat (.slice te.ty) l,[o],[],[]⟩
      |_,_,_=>none
    |_,_,_=>none
  |_,_,_,_=>none
def jB (C:Ctx) (σ:St) (dst:Nat):Op→Option Out
  | .move x=>some (.pure (jL σ x))
  | .assign x=>some (.pure (jL σ x))
  | .alloc E=>match C.info E with
    |some ti=>some ⟨[],[],.bp dst 0,[],[(dst,some (.box E false (ti.zero.map jn6)))],[dst]⟩
    |none=>none
  | .box E x=>match C.info E with
    |some _=>match cells σ (jL σ x) with
      |some cs=>some ⟨[],[],.bp dst 0,[],[(dst,some (.box E false cs))],[dst]⟩
      |none=>none
    |none=>none
  | .build U parts=>match C.info U with
    |some ti=>match ti.agg,v7 C σ ti.fields parts.toList (ti.zero.map jn6) with
      |true,some cs=>some (.pure (.agg cs))
      |_,_=>none
    |none=>none
  | .buildSlice U n parts=>match C.slice U with
    |some (ti,te)=>match jeF σ te.ty parts.toList 0 with
      |some (l,fz)=>match Nat.beq l.length n,Nat.ble (n*te.size) 16777216 with
        |true,true=>some ⟨[],[],.own dst te.ty,fz,[(dst,some (.row ti.elem te.ty false .no l))],[dst]⟩
        |_,_=>none
      |none=>none
    |none=>none
  | .load U a=>match C.info U with
    |some ti=>match jL σ a with
      | .bp o off=>match σ.obj o with
        |some (.box _ _ cs)=>match ti.agg with
          |true=>match Nat.ble (off+ti.size) cs.length with
            |true=>some (.pure (.agg ((cs.drop off).take ti.size)))
            |false=>none
          |false=>match cs[off]? with
            |some v=>some (.pure v)
            |none=>none
        |_=>none
      | .ep t d=>match zW ti.ty,zg t ti.ty d with
        |true,some x=>some (.pure (.dat ti.ty x))
        |_,_=>none
      | .rp o u i off=>match σ.obj o with
        |some (.row _ t _ _ l)=>match zg (.slice t) (.slice u) l with
          |some l'=>match zW ti.ty,u.sub off ti.ty (@nth _ ⟨u.dflt⟩ l' i) with
            |true,some x=>some (.pure (.dat ti.ty x))
            |_,_=>none
          |none=>none
        |_=>none
      | .lit v=>match jDc v with
        |some x=>match zW ti.ty,zg x.1 ti.ty x.2 with
          |true,some y=>some (.pure (.dat ti.ty y))
          |_,_=>none
        |none=>none
      | .dat (.ptr t) x=>match zW ti.ty,zg t ti.ty (jY t.dflt x) with
        |true,some y=>some ⟨[x.isSome=true],[],.dat ti.ty y,[],[],[]⟩
        |_,_=>none
      | .fe true o T st ps rs pre K=>match ti.agg,jo6 σ o with
        |false,true=>some (.pure (.fe false o T st ps rs pre K))
        |_,_=>none
      | .fnp ps rs pre F=>match ti.agg with
        |false=>some (.pure (.fn ps rs pre F))
        |true=>none
      |_=>none
    |none=>none
  | .store U a x=>match C.info U with
    |some ti=>match jL σ a with
      | .bp o off=>match σ.obj o with
        |some (.box B false cs)=>match cells σ (jL σ x) with
          |some new=>match Nat.beq new.length ti.size,Nat.ble (off+new.length) cs.length with
            |true,true=>some ⟨[],[],.any,[],[(o,some (.box B false (jp8 cs new off)))],[]⟩
            |_,_=>none
          |none=>none
        |_=>none
      | .rp o u i off=>match σ.obj o with
        |some (.row E t false nl l)=>match zg (.slice t) (.slice u) l with
          |some l'=>match zW ti.ty,qH σ ti.ty (jL σ x) with
            |true,some (d,fz)=>match u.put off ti.ty (@nth _ ⟨u.dflt⟩ l' i) d,jaH fz o with
              |some y,false=>some ⟨[],[],.any,fz,[(o,some (.row E u false nl (l'.set i y)))],[]⟩
              |_,_=>none
            |_,_=>none
          |none=>none
        |_=>none
      |_=>none
    |none=>none
  | .nilCheck x=>match jL σ x with
    | .bp o off=>match jo6 σ o with|true=>some (.pure (.bp o off))|false=>none
    | .ep t d=>some (.pure (.ep t d))
    | .dat (.ptr t) x=>some ⟨[x.isSome=true],[],.ep t (jY t.dflt x),[],[],[]⟩
    |_=>none
  | .fieldAddr U x f=>match C.info U with
    |some ti=>match ti.flds[f]? with
      |some (off,ft)=>match jL σ x with
        | .bp o k=>match C.info ft,jo6 σ o with
          |some tf,true=>match Nat.beq tf.size 0 with|true=>none|false=>some (.pure (.bp o (k+off)))
          |_,_=>none
        | .rp o t i k=>match C.info ft,jo6 σ o with
          |some tf,true=>match Nat.beq tf.size 0 with|true=>none|false=>some (.pure (.rp o t i (k+off)))
          |_,_=>none
        | .ep t d=>match C.known ft with
          |some tf=>match Nat.beq tf.size 0 with
            |true=>none
            |false=>match t.sub off tf.ty d with
              |some y=>some (.pure (.ep tf.ty y))
              |none=>none
          |none=>none
        | .dat (.ptr t) x=>match C.known ft with
          |some tf=>match Nat.beq tf.size 0 with
            |true=>none
            |false=>match t.sub off tf.ty (jY t.dflt x) with
              |some y=>some ⟨[x.isSome=true],[],.ep tf.ty y,[],[],[]⟩
              |none=>none
          |none=>none
        |_=>none
      |none=>none
    |none=>none
  | .field U x f=>match C.info U with
    |some ti=>match ti.flds[f]? with
      |some (off,ft)=>match C.info ft with
        |some tf=>match jL σ x with
          | .agg cs=>match tf.agg with
            |true=>some (.pure (.agg ((cs.drop off).take tf.size)))
            |false=>match cs[off]? with
              |some v=>some (.pure v)
              |none=>none
          | .dat t d=>match t.agg,zW tf.ty,t.sub off tf.ty d with
            |true,true,some y=>some (.pure (.dat tf.ty y))
            |_,_,_=>none
          |_=>none
        |none=>none
      |none=>none
    |none=>none
  | .indexAddr U x ix=>match C.slice U,asInt (jL σ ix) with
    |some (_,te),some i=>match jL σ x with
      | .dat (.slice t) l=>match zg (.slice t) (.slice te.ty) l with
        |some l'=>some ⟨[0≤i,i<l'.length],[],.ep te.ty (@nth _ ⟨te.ty.dflt⟩ l' i.toNat),[],[],[]⟩
        |none=>none
      | .own o _=>match σ.obj o with
        |some (.row _ _ _ _ l)=>some ⟨[0≤i,i<l.length],[],.rp o te.ty i.toNat 0,[],[],[]⟩
        |_=>none
      | .osl o t lo n=>match jo6 σ o,yr t te.ty with
        |true,true=>some ⟨[0≤i,i<n],[],.rp o te.ty (lo+i.toNat) 0,[],[],[]⟩
        |_,_=>none
      | .lit v=>match zc v with
        |true=>some ⟨[False],[],.ep te.ty te.ty.dflt,[],[],[]⟩
        |false=>none
      |_=>none
    |none,some i=>jvi C U (jL σ x) i
    |_,none=>none
  | .index U x ix=>match jaH C.strs U,jL σ x,jGr (jL σ ix) with
    |true,.lit (.string s),some i=>some ⟨[0≤i,i<s.size],[],.dat (.uint .u8) (qY s i.toNat),[],[],[]⟩
    |_,_,_=>none
  | .binOp op U x y _=>jEM C σ op U (jL σ x) (jL σ y)
  | .unOp op _ x=>match op with
    | .not=>match jL σ x with
      | .dat .bool b=>some (.pure (.dat .bool (!b)))
      |_=>none
    | .neg=>match asInt (jL σ x) with
      |some a=>some ⟨[jx (-a)],[],.dat .int (-a),[],[],[]⟩
      |none=>none
    |_=>none
  | .convert V U x=>match C.info V,C.info U with
    |some _,some ti=>match ti.agg,ti.ty with
      |false,.int=>match asInt (jL σ x) with
        |some a=>some ⟨[jx a],[],.dat .int a,[],[],[]⟩
        |none=>match jwu (jL σ x) with
          |some a=>some ⟨[jx a],[],.dat .int a,[],[],[]⟩
          |none=>none
      |false,.uint .u64=>match asInt (jL σ x) with
        |some a=>some ⟨[0≤a,a≤18446744073709551615],[],.dat (.uint .u64) a,[],[],[]⟩
        |none=>none
      |false,.uint .u8=>match jwu (jL σ x) with
        |some a=>some ⟨[0≤a,a≤255],[],.dat (.uint .u8) a,[],[],[]⟩
        |none=>none
      |_,_=>none
    |_,_=>none
  | .makeFunc f firsts caps=>match f,firsts.toList with
    | .func f,[]=>some (.pure (.clo f (caps.toList.map (jL σ))))
    |_,_=>none
  | .slice U x none (some hi) (some mx)=>match C.slice U,jL σ x,asInt (jL σ hi),asInt (jL σ mx) with
    |some (_,te),.dat (.slice t) xs,some h,some m=>match zg (.slice t) (.slice te.ty) xs with
      |some xs'=>some ⟨[h=xs'.length,m=xs'.length],[],.fcl te.ty xs',[],[],[]⟩
      |none=>none
    |_,_,_,_=>none
  | .slice U x lo hi none=>match C.slice U with
    |none=>jDM C σ U (jL σ x) lo hi
    |some (_,te)=>match jvh σ lo 0 with
      |none=>none
      |some l=>match jL σ x with
        | .dat (.slice t) xs=>match zg (.slice t) (.slice te.ty) xs,jvh σ hi xs.length with
          |some xs',some h=>some ⟨[0≤l,l≤h,h≤xs'.length],[],.dat (.slice te.ty) ((xs'.drop l.toNat).take (h.toNat-l.toNat)),[],[],[]⟩
          |_,_=>none
        | .own o _=>match σ.obj o with
          |some (.row _ _ _ _ xs)=>match jvh σ hi xs.length with
            |some h=>some ⟨[0≤l,l≤h,h≤xs.length],[],.osl o te.ty l.toNat (h.toNat-l.toNat),[],[],[]⟩
            |none=>none
          |_=>none
        | .osl o t lo' n=>match jvh σ hi n,yr t te.ty,jo6 σ o with
          |some h,true,true=>some ⟨[0≤l,l≤h,h≤n],[],.osl o t (lo'+l.toNat) (h.toNat-l.toNat),[],[],[]⟩
          |_,_,_=>none
        | .lit v=>match zc v,jvh σ hi 0 with
          |true,some h=>some ⟨[0≤l,l≤h,h≤0],[],.lit v,[],[],[]⟩
          |_,_=>none
        |_=>none
  | .extract x i=>match jL σ x with
    | .tup vs=>match vs[i]? with
      |some v=>some (.pure v)
      |none=>none
    |_=>none
  | .call c=>match c.callee with
    | .value f=>jpr C σ dst (jL σ f) (c.args.toList.map (jL σ))
    | .builtin .len=>jEe C σ c.args.toList c.argTypes.toList
    | .builtin .append=>jES C σ dst c.args.toList c.argTypes.toList
    | .builtin .clear=>jED C σ c.args.toList c.argTypes.toList
    | .builtin .copy=>jEy C σ c.args.toList c.argTypes.toList
    | .builtin .cap=>jEF C σ c.args.toList c.argTypes.toList
    | .builtin .min=>match c.args.toList.map (jL σ) with
      | .dat .int a::r=>match jmW r a with
        |some m=>some (.pure (.dat .int m))
        |none=>none
      |_=>none
    | .builtin .max=>match c.args.toList.map (jL σ) with
      | .dat .int a::r=>match jmX r a with
        |some m=>some (.pure (.dat .int m))
        |none=>none
      |_=>none
    |_=>none
  | .makeMap U none=>match C.lit,C.mapT U with
    |false,some (_,tk,te)=>some ⟨[],[],.mp dst,[],[(dst,some (.map false tk.ty te.ty []))],[dst]⟩
    |true,some _=>some (.pure .any)
    |_,none=>none
  | .lookup U x ix ok=>match C.mapT U with
    |some (_,tk,te)=>match jBZ σ tk.ty te.ty (jL σ x),qH σ tk.ty (jL σ ix) with
      |some l,some (k,[])=>match ok with
        |true=>some (.pure (.tup [.dat te.ty (wc te.ty.dflt (zC tk.ty k l)),.dat .bool (jFs (zC tk.ty k l))]))
        |false=>some (.pure (.dat te.ty (wc te.ty.dflt (zC tk.ty k l))))
      |_,_=>none
    |none=>none
  | .mapUpdate U m ix x=>jBp C σ U m ix x
  | .insert U m ix x=>match C.lit with
    |false=>jBp C σ U m ix x
    |true=>some (.pure .any)
  | .makeSlice U l c=>jB0 C σ dst U l c
  | .entryStore U m st x=>match C.mapT U with
    |some (_,tk,te)=>match jL σ m,jL σ st with
      | .mp o,.dat .int s=>match σ.obj o with
        |some (.mape kt vt l k s')=>match zg (.map kt vt) (.map tk.ty te.ty) l,zg kt tk.ty k,qH σ te.ty (jL σ x) with
          |some l',some k',some (v,fz)=>match jaH fz o with
            |false=>some ⟨[s=s'],[],.any,fz,[(o,some (.map false tk.ty te.ty (jgi tk.ty k' v l')))],[]⟩
            |true=>none
          |_,_,_=>none
        |_=>none
      |_,_=>none
    |none=>none
  | .range U x=>match C.mapT U with
    |some (_,tk,te)=>match qH σ (.map tk.ty te.ty) (jL σ x) with
      |some (l,fz)=>some ⟨[],[],.ip dst,fz,[(dst,some (.iter tk.ty te.ty l none))],[dst]⟩
      |none=>none
    |none=>none
  | .entry it=>match jL σ it with
    | .ip o=>match σ.obj o with
      |some (.iter kt vt _ (some x))=>some (.pure (.tup [.dat kt x.1,.dat vt x.2]))
      |_=>none
    |_=>none
  | .panic _=>some ⟨[False],[],.any,[],[],[]⟩
  | .makeInterface T _=>match C.info T with|some _=>some (.pure .any)|none=>none
  |_=>none
structure RS where
  st:St
  gl:List (Nat×(Nat×Bool)×SV)
def jxf:List (Nat×(Nat×Bool)×SV)→Nat→Option ((Nat×Bool)×SV)
  |[],_=>none
  | (j,g,x)::r,k=>match Nat.beq j k with|true=>some (g,x)|false=>jxf r k
def sgn (want β:Bool):Bool:=match want with|true=>β|false=> !β
def jcV (ops:List Oper) (j:Nat):Option Nat:=match ops[j]? with|some o=>o.dst|none=>none
def jfl (ops:List Oper) (rs:RS):Nat→Nat×Bool→Option Bool
  |0,_=>none
  |fuel+1,(j,want)=>match jcV ops j with
    |some d=>match jxf rs.gl d with
      |some (g,.dat .bool β)=>match jfl ops rs fuel g with
        |some γ=>some (γ&&sgn want β)
        |none=>none
      |some _=>none
      |none=>match rs.st.get d with
        | .dat .bool β=>some (sgn want β)
        |_=>none
    |none=>none
def jjd (ops:List Oper) (rs:RS):Nat→Nat×Bool→List (Nat×Bool)
  |0,_=>[]
  |fuel+1,(j,want)=>(j,want)::(match jcV ops j with
    |some d=>match jxf rs.gl d with
      |some (g,_)=>jjd ops rs fuel g
      |none=>[]
    |none=>[])
def jBA (a b:Nat×Bool):Bool:=match Nat.beq a.1 b.1 with|true=>(match a.2,b.2 with|true,true=>true|false,false=>true|_,_=>false)|false=>false
def jiZ:List (Nat×Bool)→Nat×Bool→Bool
  |[],_=>false
  |h::r,g=>match jBA h g with|true=>true|false=>jiZ r g
def jbA:List (Nat×(Nat×Bool)×SV)→List (Nat×Bool)→List (Nat×SV)
  |[],_=>[]
  | (s,g,v)::r,ch=>match jiZ ch g with|true=>(s,v)::jbA r ch|false=>jbA r ch
def zt (rs:RS) (ch:List (Nat×Bool)):St:={rs.st with sl:=jbA rs.gl ch++rs.st.sl}
def jqu:Operand→Option Nat
  | .tmp t=>some t
  |_=>none
def jc1 (t:Nat):List Oper→Nat→List Nat
  |[],_=>[]
  |o::r,j=>match o.dst with
    |some d=>match Nat.beq d t with|true=>j::jc1 t r (j+1)|false=>jc1 t r (j+1)
    |none=>jc1 t r (j+1)
def jca (ops:List Oper) (c:Operand) (want:Bool):List (Nat×Bool):=
  match jqu c with
  |some t=>(jc1 t ops 0).map fun j=>(j,want)
  |none=>[]
def jt7 (ops:List Oper) (rs:RS) (ch:List (Nat×Bool)) (c a b:Operand):Option Out:=
  match jL (zt rs ch) c with
  | .dat .bool β=>
    match jL (zt rs (jca ops c true++ch)) a,jL (zt rs (jca ops c false++ch)) b with
    | .dat .bool x,.dat .bool y=>match b with
      | .const (.bool false)=>some (.pure (.dat .bool (β&&x)))
      |_=>match a with
        | .const (.bool true)=>some (.pure (.dat .bool (β||y)))
        |_=>some (.pure (.dat .bool (cond β x y)))
    | .dat .int x,.dat .int y=>some (.pure (.dat .int (cond β x y)))
    |_,_=>none
  |_=>none
def jgq (C:Ctx):Option Nat→Bool
  |some d=>Nat.blt d C.n
  |none=>true
structure Eff where
  guard:Option Bool
  vc:List Prop
  fact:List Prop
  sl:List (Nat×SV)
  gl:List (Nat×(Nat×Bool)×SV)
  ob:List (Nat×Option Ob)
  nw:List Nat
def zp (e:Eff) (rs:RS):RS:=⟨⟨e.sl++rs.st.sl,e.ob++rs.st.ob⟩,e.gl++rs.gl⟩
def joi (o:Oper):Nat:=match o.dst with|some d=>d|none=>1000000
def jrC (o:Oper) (v:SV):List (Nat×SV):=match o.dst with|some d=>[(d,v)]|none=>[]
def jAY (C:Ctx) (σ:St) (U n:Nat) (parts:List (Nat×Operand)):Option Out:=match C.slice U with
  |some (_,te)=>match jeF σ te.ty parts 0 with
    |some (l,fz)=>match Nat.beq l.length n,Nat.ble (n*te.size) 16777216 with
      |true,true=>some ⟨[],[],.dat (.slice te.ty) l,fz,[],[]⟩
      |_,_=>none
    |none=>none
  |none=>none
def jkl (C:Ctx) (ops:List Oper) (o:Oper) (R:RS) (ch:List (Nat×Bool)):Option Out:=
  match o.op,o.guard with
  | .pick c a b,_=>jt7 ops R ch c a b
  | .buildSlice U n parts,some _=>jAY C (zt R ch) U n parts.toList
  |op,_=>jB C (zt R ch) (joi o) op
def jdX:Op→Bool
  | .call c=>match c.callee with
    | .builtin .clear=>false
    |_=>true
  |_=>false
def jcU (C:Ctx) (ops:List Oper) (o:Oper) (R:RS):Option Eff:=
  match o.guard with
  |none=>match jkl C ops o R [] with
    |none=>none
    |some out=>some ⟨none,out.vc,out.fact,jrC o out.sv,[],out.wr++q6 R.st out.fz,out.nw⟩
  |some g=>match jfl ops R ops.length g with
    |none=>none
    |some γ=>match jkl C ops o R (jjd ops R ops.length g) with
      |none=>none
      |some out=>match out.wr,out.nw with
        |[],[]=>some ⟨some γ,out.vc,out.fact,jrC o .any,(match o.dst with|some d=>[(d,g,out.sv)]|none=>[]),q6 R.st out.fz,[]⟩
        |_,_=>none
def jCl (ops:List Oper) (d:Nat):List (Nat×(Nat×Bool)×SV)→Bool
  |[]=>true
  | (s,(j,_),_)::r=>match Nat.beq s d,jcV ops j with
    |false,some dj=>match Nat.beq dj d with|true=>false|false=>jCl ops d r
    |_,_=>false
def juu (rs:RS) (d:Nat):Bool:=match rs.st.obj d,jgw d rs.st.sl,jqJ d rs.gl,vF d rs.st.ob with
  |none,true,true,true=>Nat.ble (d+1) 1000000
  |_,_,_,_=>false
def jzy (ops:List Oper) (d:Nat):Option (Nat×Bool)→Bool
  |some (j,_)=>match jcV ops j with
    |some dj=>match Nat.beq dj d with|true=>false|false=>true
    |none=>false
  |none=>true
def jzz (ops:List Oper) (o:Oper) (rs:RS):Bool:=
  match o.dst with
  |some d=>match jzy ops d o.guard with
    |true=>jCl ops d rs.gl
    |false=>false
  |none=>true
def jo1 (rs:RS):List Nat→Bool
  |[]=>true
  |d::r=>match juu rs d with|true=>jo1 rs r|false=>false
def fits (C:Ctx) (ops:List Oper) (o:Oper) (rs:RS) (e:Eff):Bool:=
  match jgq C o.dst,jzz ops o rs,jo1 rs e.nw,(match e.nw,jdX o.op with|[],false=>true|_,_=>juu rs (joi o)) with
  |true,true,true,true=>true
  |_,_,_,_=>false
def yz (C:Ctx) (ops:List Oper):List Oper→RS→Option (List Eff×RS)
  |[],rs=>some ([],rs)
  |o::r,rs=>match jcU C ops o rs with
    |none=>none
    |some e=>match fits C ops o rs e with
      |false=>none
      |true=>match yz C ops r (zp e rs) with
        |none=>none
        |some (es,rs')=>some (e::es,rs')
def SV.rl:SV→List Nat
  | .bp o _=>[o]
  | .own o _=>[o]
  | .osl o _ _ _=>[o]
  | .rp o _ _ _=>[o]
  | .mp o=>[o]
  | .ip o=>[o]
  | .fe _ o _ _ _ _ _ _=>[o]
  | .clo _ caps=>rlL caps
  | .agg cs=>rlL cs
  | .tup cs=>rlL cs
  |_=>[]
where
  rlL:List SV→List Nat
    |[]=>[]
    |v::r=>SV.rl v++rlL r
def qX:List Nat→List Nat→List Nat
  |[],l=>l
  |o::r,l=>match jaH l o with|true=>qX r l|false=>qX r (o::l)
def jvy:List Operand→List Nat
  |[]=>[]
  |x::r=>match jqu x with|some t=>t::jvy r|none=>jvy r
def jbk (ops:List Oper):Nat→Option (Nat×Bool)→List Nat
  |0,_=>[]
  |_,none=>[]
  |fuel+1,some (j,_)=>match ops[j]? with
    |some o=>match o.dst with
      |some d=>d::jbk ops fuel o.guard
      |none=>jbk ops fuel o.guard
    |none=>[]
def j7 (ops:List Oper) (o:Oper):List Nat:=jvy o.op.operands.toList++jbk ops ops.length o.guard
def keep {α:Type} (ks:List Nat):List (Nat×α)→List (Nat×α)
  |[]=>[]
  | (k,x)::r=>match jaH ks k with|true=>(k,x)::keep ks r|false=>keep ks r
def jE1:List (Nat×SV)→List Nat
  |[]=>[]
  | (_,v)::r=>qX v.rl (jE1 r)
def jE2:List (Nat×(Nat×Bool)×SV)→List Nat
  |[]=>[]
  | (_,_,v)::r=>qX v.rl (jE2 r)
def jnw (σ:St):List Nat→List Nat
  |[]=>[]
  |o::r=>match σ.obj o with
    |some (.box _ _ cs)=>qX (SV.rl.rlL cs) (jnw σ r)
    |_=>jnw σ r
def jzM (σ:St):Nat→List Nat→List Nat
  |0,os=>os
  |n+1,os=>jzM σ n (qX (jnw σ os) os)
def zH (slots:List Nat) (rs:RS):List Nat×RS:=
  (fun sl gl=>(fun os=>(os,⟨⟨sl,os.map fun o=>(o,rs.st.obj o)⟩,gl⟩)) (jzM rs.st 3 (qX (jE1 sl) (jE2 gl)))) (keep slots rs.st.sl) (keep slots rs.gl)
def jdj:List Nat→List Nat→Bool
  |[],_=>true
  |o::r,l=>match jaH l o with|true=>jdj r l|false=>false
def jtY:List (Nat×Option Ob)→List Nat
  |[]=>[]
  | (_,some (.box _ _ cs))::r=>SV.rl.rlL cs++jtY r
  |_::r=>jtY r
def ki {α:Type}:List (Nat×α)→List Nat
  |[]=>[]
  | (k,_)::r=>k::ki r
structure wh where
  e:Eff
  slots:List Nat
  os:List Nat
  ws:List Nat
  mv:Bool--it only moves a value
  nn:List Nat--the objects that it makes
def jFz (o:Oper):Bool:=match o.op,o.guard with
  | .move _,none=>true
  |_,_=>false
def jGl (o:Oper) (e:Eff):List Nat:=e.nw++(match e.nw,jdX o.op with|[],false=>[]|_,_=>[joi o])
def closed (os:List Nat) (R:RS) (e:Eff):Bool:=
  match jdj (jnw R.st os) os,jdj (jE1 e.sl) (e.nw++os),jdj (jE2 e.gl) (e.nw++os),jdj (jtY e.ob) (e.nw++os),jdj (ki e.ob) (e.nw++os) with
  |true,true,true,true,true=>true
  |_,_,_,_,_=>false
def joQ (C:Ctx) (ops:List Oper):List Oper→RS→Option (List wh×RS)
  |[],rs=>some ([],rs)
  |o::r,rs=>
    match jcU C ops o (zH (j7 ops o) rs).2 with
    |none=>none
    |some e=>match fits C ops o rs e,closed (zH (j7 ops o) rs).1 (zH (j7 ops o) rs).2 e with
      |true,true=>match joQ C ops r (zp e rs) with
        |none=>none
        |some (es,rs')=>some (⟨e,j7 ops o,(zH (j7 ops o) rs).1,ki e.ob++jGl o e,jFz o,jGl o e⟩::es,rs')
      |_,_=>none
def jdP:List Nat→List Nat→Bool
  |[],_=>false
  |o::r,l=>match jaH l o with|true=>true|false=>jdP r l
def wh.names (x:wh):List Nat:=jE1 x.e.sl++(jE2 x.e.gl++(jtY x.e.ob++x.os))
def jfk:Option Ob→Bool
  |some (.box _ _ _)=>true
  |_=>false
def jmn:List (Nat×Option Ob)→List Nat
  |[]=>[]
  | (r,x)::l=>match jfk x with|true=>r::jmn l|false=>jmn l
def jcg:List wh→List Nat
  |[]=>[]
  |x::r=>jmn x.e.ob++jcg r
def jyK (σ:St) (nb mk names:List Nat):List Nat→Bool
  |[]=>true
  |r::l=>match jaH names r with
    |false=>jyK σ nb mk names l
    |true=>match jaH nb r,jaH mk r,jfk (σ.obj r) with
      |false,false,false=>jyK σ nb mk names l
      |_,_,_=>false
def jF2 (σ:St) (nb:List Nat) (x y:wh):Bool:=match y.mv with
  |true=>jyK σ nb x.nn y.names x.ws
  |false=>false
def jv7 (a b:List Nat) (s:Bool):Bool:=match jdP a b with
  |true=>(match s with|true=>false|false=>true)
  |false=>false
def jBr (σ:St) (nb:List Nat) (x y:wh):Bool:=
  match jdP (ki x.e.sl) (ki y.e.sl++y.slots),jdP (ki y.e.sl) x.slots,jdP x.ws y.ws,jv7 x.ws y.names (jF2 σ nb x y),jv7 y.ws x.names (jF2 σ nb y x) with
  |false,false,false,false,false=>false
  |_,_,_,_,_=>true
def jiI (done:List (List Nat)):List Edge→Option (List Nat)
  |[]=>some []
  |e::r=>match jiI done r with
    |none=>none
    |some l=>match Region.binds .any e with
      |false=>some l
      |true=>match done[e.on]? with
        |some p=>some (qX p (match jaH l e.on with|true=>l|false=>e.on::l))
        |none=>none
def qg:List Oper→List (List Nat)→Option (List (List Nat))
  |[],done=>some done
  |o::r,done=>match jiI done o.after.toList with
    |some p=>qg r (done++[p])
    |none=>none
def jet (σ:St) (nb:List Nat) (x:wh) (before:List Nat):List wh→Nat→Bool
  |[],_=>true
  |y::r,j=>match jBr σ nb y x with
    |true=>match jaH before j with|true=>jet σ nb x before r (j+1)|false=>false
    |false=>jet σ nb x before r (j+1)
def jdH (σ:St) (nb:List Nat) (all:List wh):List wh→List (List Nat)→Nat→Bool
  |[],_,_=>true
  |x::r,p::ps,k=>match jet σ nb x p (all.take k) 0 with
    |true=>jdH σ nb all r ps (k+1)
    |false=>false
  |_::_,[],_=>false
def ja1 (C:Ctx) (ops:List Oper) (draw:Bool) (σ:St):Option (List Eff×RS):=
  match draw with
  |false=>yz C ops ops ⟨σ,[]⟩
  |true=>match joQ C ops ops ⟨σ,[]⟩,qg ops [] with
    |some (aZ,rs),some ps=>match jdH σ (jcg aZ) aZ aZ ps 0 with
      |true=>some (aZ.map (·.e),rs)
      |false=>none
    |_,_=>none
def asks:List Prop→Prop→Prop
  |[],k=>k
  |p::r,k=>p∧asks r k
def jA2 (γ:Bool):List Prop→Prop→Prop
  |[],k=>k
  |p::r,k=>(γ=true→p)∧jA2 γ r k
def jqH:List Prop→Prop→Prop
  |[],k=>k
  |p::r,k=>p→jqH r k
def jAn (γ:Bool):List Prop→Prop→Prop
  |[],k=>k
  |p::r,k=>(γ=true→p)→jAn γ r k
def zV (draw:Bool):List Eff→Prop→Prop
  |[],k=>k
  |s::r,k=>match s.guard with
    |none=>asks s.vc (match draw with|true=>zV draw r k|false=>jqH s.fact (zV draw r k))
    |some γ=>jA2 γ s.vc (match draw with|true=>zV draw r k|false=>jAn γ s.fact (zV draw r k))
def jeW (σ:St) (p:SV→Bool):List (Nat×SV)→List (Nat×SV)
  |[]=>[]
  | (s,_)::r=>match p (σ.get s) with|true=>(s,.any)::jeW σ p r|false=>jeW σ p r
def jwn (ob:List (Nat×Option Ob)):List (Nat×Option Ob)→List Nat
  |[]=>[]
  | (o,none)::r=>(match jF ob o with|some none=>o::jwn ob r|_=>jwn ob r)
  |_::r=>jwn ob r
def jf8 (os:List Nat) (v:SV):Bool:=match os with
  |[]=>false
  |o::r=>match SV.refs o v with|true=>true|false=>jf8 r v
def gc (n:Nat) (σ:St):St:=
  match jwn σ.ob (σ.ob.take (σ.ob.length-n)) with
  |[]=>σ
  |os=>{σ with sl:=jeW σ (jf8 os) σ.sl++σ.sl}
def jrL (s:Nat) (σ:St):St:=
  match σ.get s with
  | .own o t=>match Nat.beq o s with
    |true=>σ
    |false=>match σ.obj o,vF s σ.ob&&Nat.ble (s+1) 1000000 with
      |some x,true=>{sl:=(s,.own s t)::(jeW σ (jf8 [o,s]) σ.sl++σ.sl),ob:=(s,some x)::(o,none)::σ.ob}
      |_,_=>σ
  |_=>σ
def jai (b j:Nat):Nat:=match Nat.ble 1000000 b with|true=>400000+20*(b-1000000)+j|false=>500000+20*b+j
def jeC (σ:St) (s:Nat):List Nat→Bool
  |[]=>true
  |k::r=>match σ.obj k with
    |some (.box _ _ cs)=>match SV.refs.refsL s cs with|true=>false|false=>jeC σ s r
    |_=>jeC σ s r
def jiH (b j:Nat) (σ:St):St:=
  match σ.obj b with
  |some (.box T fz cs)=>match cs[j]? with
    |some (.mp o)=>match Nat.beq o (jai b j),Nat.beq b o,Nat.beq b (jai b j) with
      |false,false,false=>match σ.obj o,jeC σ (jai b j) (σ.ob.map (·.1))&&Nat.ble (jai b j+1) 1000000 with
        |some (.map fm kt vt l),true=>{sl:=jeW σ (jf8 [o,jai b j]) σ.sl++σ.sl,ob:=(b,some (.box T fz (cs.set j (.mp (jai b j)))))::(jai b j,some (.map fm kt vt l))::(o,none)::σ.ob}
        |_,_=>σ
      |_,_,_=>σ
    |_=>σ
  |_=>σ
def jbb (b j:Nat):Nat:=match Nat.ble 1000000 b with|true=>400000+20*(b-1000000)+j|false=>500000+20*b+j
def jf5 (b j:Nat) (σ:St):St:=
  match σ.obj b with
  |some (.box T fz cs)=>match cs[j]? with
    |some (.own o u)=>match Nat.beq o (jbb b j),Nat.beq b o,Nat.beq b (jbb b j) with
      |false,false,false=>match σ.obj o,jeC σ (jbb b j) (σ.ob.map (·.1))&&Nat.ble (jbb b j+1) 1000000 with
        |some (.row E t fr nl l),true=>{sl:=jeW σ (jf8 [o,jbb b j]) σ.sl++σ.sl,ob:=(b,some (.box T fz (cs.set j (.own (jbb b j) u))))::(jbb b j,some (.row E t fr nl l))::(o,none)::σ.ob}
        |_,_=>σ
      |_,_,_=>σ
    |_=>σ
  |_=>σ
def jFQ (σ:St) (b:Nat):Nat:=match σ.obj b with
  |some (.box _ _ cs)=>cs.length
  |_=>0
def jkL (b:Nat):Nat→St→St
  |0,σ=>σ
  |j+1,σ=>jf5 b j (jkL b j σ)
def jf6 (σ:St) (t:Nat):St:=
  match σ.get t with
  | .bp b 0=>jkL b (jFQ σ b) (jiH b 0 σ)
  | .clo _ [.bp b 0]=>jiH b 0 σ
  |_=>σ
def jl4 (σ:St):Callee→St
  | .value (.tmp t)=>jf6 σ t
  |_=>σ
def jl5 (σ:St):List Operand→St
  | .tmp t::_=>jf6 σ t
  |_=>σ
def jl3 (σ:St) (t:Nat):St:=
  match σ.get t with
  | .bp b k=>jf5 b k σ
  |_=>σ
def w6:List Oper→St→St
  |[],σ=>σ
  |o::r,σ=>match o.op,o.dst with
    | .assign _,some s=>w6 r (jf6 (jrL s σ) s)
    | .call c,_=>w6 r (jl4 (jl5 σ c.args.toList) c.callee)
    | .store _ (.tmp t) _,_=>w6 r (jl3 σ t)
    |_,_=>w6 r σ
inductive Ex where
  |normal|ret|exit (id:Nat)
structure jgP where
  X:Type
  sl:X→List (Nat×SV)
  ob:X→List (Nat×Option Ob)
  inv:X→Prop
  mu:X→Nat
def jDv:List Oper→List Nat
  |[]=>[]
  |o::r=>match o.dst with|some d=>d::jDv r|none=>jDv r
def zN:Code→List Nat
  | .region _ ops _=>jDv ops.toList
  | .seq a b=>zN a++zN b
  | .cond _ a b=>zN a++zN b
  | .block _ a=>zN a
  | .loop a=>zN a
  | .scope a=>zN a
  |_=>[]
def jfn:Code→Nat
  | .region id _ _=>id
  | .seq a _=>jfn a
  | .block _ a=>jfn a
  | .loop a=>jfn a
  | .scope a=>jfn a
  |_=>0
def zu (L:jgP) (ws:List Nat) (σ:St) (x:L.X):St:=
  {sl:=L.sl x++(ws.map (fun s=>(s,SV.any))++σ.sl),ob:=L.ob x++(ws.map (fun s=>(s,none))++σ.ob)}
def jDh (t t':Ty) (d:t.Data) (d':t'.Data):Prop:=match zg t t' d with|some x=>x=d'|none=>False
def jaw (σ:St):SV→SV→Prop
  |_,.any=>True
  |v,.dat t d=>match qH σ t v with|some (x,[])=>x=d|_=>False
  | .ep t d,.ep t' d'=>jDh t t' d d'
  | .own o _,.own o' _=>match Nat.beq o o' with|true=>True|false=>False
  | .lit v,.own o _=>match zc v,σ.obj o with|true,none=>True|_,_=>False
  | .own o u,.osl o' t' lo n=>match Nat.beq o o',σ.obj o with
    |true,some (.row _ t _ _ l)=>match yr t t',yr u t' with|true,true=>lo=0∧n=l.length|_,_=>False
    |_,_=>False
  | .osl o t lo n,.osl o' t' lo' n'=>match Nat.beq o o',yr t t' with|true,true=>lo=lo'∧n=n'|_,_=>False
  | .bp o k,.bp o' k'=>match Nat.beq o o',Nat.beq k k' with|true,true=>True|_,_=>False
  | .mp o,.mp o'=>match Nat.beq o o' with|true=>True|false=>False
  | .ip o,.ip o'=>match Nat.beq o o' with|true=>True|false=>False
  | .fe q o T st ps rs pre K,.fe q' o' T' st' ps' rs' pre' K'=>SV.fe q o T st ps rs pre K=SV.fe q' o' T' st' ps' rs' pre' K'
  |_,_=>False
def jvA (σ:St):List SV→List SV→Prop
  |[],[]=>True
  |a::r,b::s=>jaw σ a b∧jvA σ r s
  |_,_=>False
def jnS:Bool→Bool→Bool
  |false,true=>false
  |_,_=>true
def jyB:Nl→Nl→Bool
  | .unk,_=>true
  | .yes,.yes=>true
  | .no,.no=>true
  |_,_=>false
def jkg (σ:St) (o:Nat):Ob→Prop
  | .box T fz cs=>match σ.obj o with
    |some (.box T' fz' cs')=>match Nat.beq T T',jnS fz fz' with
      |true,true=>jvA σ cs' cs
      |_,_=>False
    |_=>False
  | .row E t fz nl l=>match σ.obj o with
    |some (.row E' t' fz' nl' l')=>match Nat.beq E E',jnS fz fz' with
      |true,true=>match jyB nl nl' with
        |true=>jDh (.slice t') (.slice t) l' l
        |false=>match nl,nl' with
          | .yes,.no=>l≠[]∧jDh (.slice t') (.slice t) l' l
          |_,_=>False
      |_,_=>False
    |none=>match fz,nl,jgw o σ.sl,vF o σ.ob&&Nat.ble (o+1) 1000000 with|false,.yes,true,true=>l=[]|false,.unk,true,true=>l=[]|_,_,_,_=>False
    |_=>False
  | .map fz kt vt l=>match σ.obj o with
    |some (.map fz' kt' vt' l')=>match jnS fz fz' with
      |true=>jDh (.map kt' vt') (.map kt vt) l' l
      |false=>False
    |_=>False
  | .iter kt vt left none=>match σ.obj o with
    |some (.iter kt' vt' left' _)=>jDh (.map kt' vt') (.map kt vt) left' left
    |_=>False
  |_=>False
def jdU {α:Type}:List (Nat×α)→(drop:Nat)→List Nat
  |[],_=>[]
  | (k,_)::r,m=>match Nat.ble (r.length+1) m with
    |true=>[]
    |false=>qX [k] (jdU r m)
def jej (σ τ:St):List Nat→Prop
  |[]=>True
  |s::r=>match τ.get s with
    | .any=>jej σ τ r
    |v=>jaw σ (σ.get s) v∧jej σ τ r
def joM (σ τ:St):List Nat→Prop
  |[]=>True
  |o::r=>match τ.obj o with
    |none=>joM σ τ r
    |some x=>jkg σ o x∧joM σ τ r
def sub (σ τ:St) (ks os:List Nat):Prop:=jej σ τ ks∧joM σ τ os
abbrev Ann:=Nat→Option (St→jgP)
def jzI:List Oper→Option (Nat×Operand×List Oper)
  |[]=>none
  |o::r=>match o.op,o.dst,o.guard with
    | .next it false,some d,none=>some (d,it,r)
    |_,_,_=>none
def jdE (C:Ctx) (ops r:List Oper) (n:Nat) (σ:St) (K:Ex→St→Prop):Prop:=
  match yz C ops r ⟨σ,[]⟩ with
  |none=>False
  |some (ss,rs)=>zV false ss (K .normal (w6 ops (gc n rs.st)))
def jzH (C:Ctx) (ops r:List Oper) (d:Nat) (it:Operand) (σ:St) (K:Ex→St→Prop):Prop:=
  match jgq C (some d),jL σ it with
  |true,.ip o=>match σ.obj o with
    |some (.iter kt vt left _)=>
      (left=[]→jdE C ops r σ.ob.length ⟨(d,.tup [.dat .bool false])::σ.sl,σ.ob⟩ K)∧
      ∀(pre:List (kt.Data×vt.Data)) (x:kt.Data×vt.Data) (post:List (kt.Data×vt.Data)),left=pre++x::post→
        jdE C ops r σ.ob.length ⟨(d,.tup [.dat .bool true,.dat kt x.1,.dat vt x.2])::σ.sl,(o,some (.iter kt vt (pre++post) (some x)))::σ.ob⟩ K
    |_=>False
  |_,_=>False
def jsj:List Oper→Option (List Oper×Nat×Nat×Nat)
  |[]=>none
  |[o]=>match o.op,o.dst,o.guard with
    | .binOp .eql U (.tmp t) (.const v) _,some d,none=>match zc v with|true=>some ([],U,t,d)|false=>none
    |_,_,_=>none
  |o::r=>match jsj r with
    |some (i,U,t,d)=>some (o::i,U,t,d)
    |none=>none
structure jvu where
  o:Nat
  kt:Ty
  vt:Ty
  l:List (kt.Data×vt.Data)
  k:kt.Data
  d:Nat
def juZ (C:Ctx) (ops:List Oper) (o:Oper) (rs:RS):Option jvu:=
  match o.op,o.guard,o.dst with
  | .mapEntry U m ix,none,some d=>match C.mapT U,jL rs.st m with
    |some (_,tk,te),.mp ob=>match rs.st.obj ob with
      |some (.map false kt vt l)=>match zg (.map kt vt) (.map tk.ty te.ty) l,qH rs.st tk.ty (jL rs.st ix),jgq C (some d),jzz ops o rs with
        |some l',some (k,[]),true,true=>some ⟨ob,tk.ty,te.ty,l',k,d⟩
        |_,_,_,_=>none
      |_=>none
    |_,_=>none
  |_,_,_=>none
def jeE (x:jvu) (s:Int):Eff:=⟨none,[],[],[(x.d,.tup [.dat x.vt (wc x.vt.dflt (zC x.kt x.k x.l)),.dat .int s])],[],[(x.o,some (.mape x.kt x.vt x.l x.k s))],[]⟩
def jsq:Op→Bool
  | .mapEntry _ _ _=>true
  |_=>false
def jwe:List Oper→Bool
  |[]=>false
  |o::r=>match jsq o.op with|true=>true|false=>jwe r
def jyD (C:Ctx) (ops:List Oper) (o:Oper) (rs:RS) (k:RS→Prop):Prop:=
  match jsq o.op with
  |true=>match juZ C ops o rs with
    |some x=>∀s:Int,k (zp (jeE x s) rs)
    |none=>False
  |false=>match jcU C ops o rs with
    |none=>False
    |some e=>match fits C ops o rs e with
      |false=>False
      |true=>zV true [e] (k (zp e rs))
def jpa (done:List Nat) (after:List Edge):Bool:=match after with
  |[]=>true
  |e::r=>match Region.binds .any e with
    |false=>jpa done r
    |true=>match jaH done e.on with|true=>jpa done r|false=>false
def jce (C:Ctx) (ops:List Oper) (done:List Nat) (rs:RS) (rec:List Nat→RS→Prop):List Oper→Nat→Prop
  |[],_=>True
  |o::r,i=>match jaH done i with
    |true=>jce C ops done rs rec r (i+1)
    |false=>match jpa done o.after.toList with
      |false=>jce C ops done rs rec r (i+1)
      |true=>jyD C ops o rs (rec (i::done))∧jce C ops done rs rec r (i+1)
def jp9 (C:Ctx) (ops:List Oper) (K:RS→Prop):Nat→List Nat→RS→Prop
  |0,_,rs=>K rs
  |fuel+1,done,rs=>jce C ops done rs (jp9 C ops K fuel) ops 0
def jiX:Op→Bool
  | .insert _ _ _ _=>true
  |_=>false
def jpb:Op→Bool
  | .makeMap _ none=>true
  |_=>false
def jmA:List Oper→Option (List Oper×Nat)
  |[]=>none
  |o::r=>match jmA r with
    |some (b,m)=>some (o::b,m)
    |none=>match jiX o.op with
      |true=>some ([o],r.length)
      |false=>none
def jkQ:List Oper→Option (Nat×Nat×List Oper×Nat)
  |[]=>none
  |o::r=>match o.op,o.dst,o.guard,jmA r with
    | .makeMap U none,some d,none,some (b,m)=>some (d,U,o::b,m)
    |_,_,_,_=>none
def jwf (p:List Nat):Nat→Bool
  |0=>true
  |n+1=>match jaH p n with|true=>jwf p n|false=>false
def jlO:List (List Nat)→Nat→Nat→Bool
  |[],_,_=>true
  |p::ps,k,m=>match Nat.ble m k with
    |true=>match jwf p m with|true=>jlO ps (k+1) m|false=>false
    |false=>jlO ps (k+1) m
def Ctx.inLit (C:Ctx):Ctx:={C with lit:=true}
def jxc (d:Nat):Operand→Bool
  | .tmp t=>match Nat.beq t d with|true=>false|false=>true
  |_=>true
def jqT (d U:Nat) (kt vt:Ty) (o:Oper) (σ:St):Option (Option (kt.Data×vt.Data)):=match o.op with
  | .insert U' m ix x=>match jqu m,o.dst,o.guard,Nat.beq U U',qH σ kt (jL σ ix),qH σ vt (jL σ x),jxc d ix,jxc d x with
    |some d',none,none,true,some (k,[]),some (v,[]),true,true=>match Nat.beq d d' with
      |true=>some (some (k,v))
      |false=>none
    |_,_,_,_,_,_,_,_=>none
  |_=>some none
def jm5 (ops:List Oper) (d U:Nat) (kt vt:Ty):List Oper→List wh→RS→Option (List (Option (kt.Data×vt.Data)))
  |[],[],_=>some []
  |o::r,x::aZ,rs=>match jqT d U kt vt o (zH (j7 ops o) rs).2.st,jm5 ops d U kt vt r aZ (zp x.e rs) with
    |some y,some l=>some (y::l)
    |_,_=>none
  |_,_,_=>none
def jhi {α:Type}:List (Option α)→List α
  |[]=>[]
  |some x::r=>x::jhi r
  |none::r=>jhi r
def aside (d:Nat):List Oper→List wh→Bool
  |[],[]=>true
  |o::r,x::aZ=>match jiX o.op with
    |true=>aside d r aZ
    |false=>match jpb o.op,jaH x.slots d,jaH (ki x.e.sl) d with
      |false,false,false=>aside d r aZ
      |_,_,_=>false
  |_,_=>false
def jDC:Nat→List Nat
  |0=>[]
  |n+1=>n::jDC n
def jB1 (d:Nat) (kt vt:Ty) (l:List (kt.Data×vt.Data)) (rs:RS):RS:=⟨⟨(d,.mp d)::rs.st.sl,(d,some (.map false kt vt l))::rs.st.ob⟩,rs.gl⟩
def jEd (C:Ctx) (ops:List Oper) (σ:St) (K:Ex→St→Prop):Prop:=
  match jkQ ops,qg ops [] with
  |some (d,U,body,m),some ps=>match C.mapT U,jlO ps 0 body.length,joQ C.inLit ops body ⟨σ,[]⟩ with
    |some (_,tk,te),true,some (aZ,rs)=>match jdH σ (jcg aZ) aZ aZ ps 0,jm5 ops d U tk.ty te.ty body aZ ⟨σ,[]⟩,aside d body.tail aZ.tail,juu rs d with
      |true,some es,true,true=>zV true (aZ.map (·.e)) (((jhi es).map (·.1)).Nodup∧∀l,l.Perm (jhi es)→
          jp9 C ops (fun rs=>K .normal (w6 ops (gc σ.ob.length rs.st))) m (jDC body.length) (jB1 d tk.ty te.ty l rs))
      |_,_,_,_=>False
    |_,_,_=>False
  |_,_=>False
def jDZ (C:Ctx) (ops:List Oper) (draw:Bool) (σ:St) (K:Ex→St→Prop):Prop:=
  match draw,jwe ops,qg ops [] with
  |true,true,some _=>jp9 C ops (fun rs=>K .normal (w6 ops (gc σ.ob.length rs.st))) ops.length [] ⟨σ,[]⟩
  |true,false,_=>jEd C ops σ K
  |_,_,_=>False
def jht (C:Ctx) (ops:List Oper) (draw:Bool) (σ:St) (K:Ex→St→Prop):Prop:=
  match ja1 C ops draw σ with
  |none=>jDZ C ops draw σ K
  |some (ss,rs)=>zV draw ss (K .normal (w6 ops (gc σ.ob.length rs.st)))
def jD7 (C:Ctx) (ops i:List Oper) (U t d:Nat) (σ:St) (K:Ex→St→Prop):Prop:=
  match yz C ops i ⟨σ,[]⟩ with
  |none=>False
  |some (ss,rs)=>match rs.st.get t with
    | .dat (.slice _) l=>match C.slice U,jgq C (some d) with
      |some _,true=>zV false ss (∀β:Bool,(β=true→l=[])→K .normal (w6 ops (gc σ.ob.length ⟨(d,.dat .bool β)::rs.st.sl,rs.st.ob⟩)))
      |_,_=>False
    |_=>jht C ops false σ K
def jjD:List Oper→Option (List Oper×Oper×List Oper)
  |[]=>none
  |o::r=>match o.op,o.guard with
    | .call c,none=>match c.callee with
      | .builtin .append=>some ([],o,r)
      |_=>match jjD r with|some (i,x,q)=>some (o::i,x,q)|none=>none
    |_,_=>match jjD r with|some (i,x,q)=>some (o::i,x,q)|none=>none
def jyv (C:Ctx) (ops i:List Oper) (o:Oper) (post:List Oper) (σ:St) (K:Ex→St→Prop):Prop:=
  match yz C ops i ⟨σ,[]⟩ with
  |none=>False
  |some (ss,rs)=>match rs.gl,o.op,o.dst with
    |[],.call c,some d=>match c.args.toList,c.argTypes.toList with
      |[b,x],[U,U']=>match Nat.beq U U',C.slice U,Nat.blt d C.n with
        |true,some (ti,te),true=>match jL rs.st b,gD rs.st te.ty (jL rs.st x) with
          | .osl q t lo n,some (y::ys)=>match rs.st.obj q with
            |some (.row E t' false nl l)=>match zg (.slice t') (.slice te.ty) l,yr t te.ty,Nat.beq E ti.elem,vF q rs.st.ob&&Nat.ble (q+1) 1000000 with
              |some l',true,true,true=>zV false ss (lo+n=l'.length∧0<n∧lo+n+(y::ys).length<4611686018427387904∧(n+(y::ys).length)*te.bytes≤140737488355328∧∀pre:List te.ty.Data,pre.length≤lo→
                  jdE C ops post σ.ob.length ⟨(d,.osl q te.ty pre.length (n+(y::ys).length))::(jeW rs.st (SV.refs q) rs.st.sl++rs.st.sl),(q,some (.row E te.ty false nl (pre++l'.drop lo++(y::ys))))::rs.st.ob⟩ K)
              |_,_,_,_=>False
            |_=>False
          |_,_=>False
        |_,_,_=>False
      |_,_=>False
    |_,_,_=>False
def jGE:List ((Nat×Bool)×Bool)→Nat×Bool→Option Bool
  |[],_=>none
  | (g,v)::r,h=>match jBA g h with|true=>some v|false=>jGE r h
def jGo (ops:List Oper):List ((Nat×Bool)×Bool)→Operand→Option Bool
  | ((j,want),v)::r,.tmp t=>match jcV ops j with
    |some d=>match Nat.beq d t with|true=>some (match v with|true=>want|false=> !want)|false=>jGo ops r (.tmp t)
    |none=>jGo ops r (.tmp t)
  |_,_=>none
def jC9:Op→Option (Operand×Operand×Operand)
  | .pick c a b=>some (c,a,b)
  |_=>none
def jtI (C:Ctx) (ops:List Oper) (o:Oper) (rs:RS) (k:RS→Prop):Prop:=
  match jcU C ops o rs with
  |none=>False
  |some e=>match fits C ops o rs e with
    |true=>zV false [e] (k (zp e rs))
    |false=>False
def jBi (C:Ctx) (ops:List Oper) (o:Oper) (v:SV) (rs:RS) (k:RS→Prop):Prop:=
  match jgq C o.dst,jzz ops {o with guard:=none} rs,rs.gl with
  |true,true,[]=>k (zp ⟨none,[],[],jrC o v,[],[],[]⟩ rs)
  |_,_,_=>False
def jtq (C:Ctx) (ops:List Oper):List Oper→List ((Nat×Bool)×Bool)→RS→(RS→Prop)→Prop
  |[],_,rs,k=>k rs
  |o::r,dec,rs,k=>match o.guard with
    |none=>match jC9 o.op with
      |some (c,a,b)=>match jL rs.st c with
        | .dat .bool β=>match jGo ops dec c with
          |some true=>β=true∧jBi C ops o (jL rs.st a) rs (fun rs'=>jtq C ops r dec rs' k)
          |some false=>β=false∧jBi C ops o (jL rs.st b) rs (fun rs'=>jtq C ops r dec rs' k)
          |none=>(β=true→jBi C ops o (jL rs.st a) rs (fun rs'=>jtq C ops r dec rs' k))∧(β=false→jBi C ops o (jL rs.st b) rs (fun rs'=>jtq C ops r dec rs' k))
        |_=>False
      |none=>jtI C ops o rs (fun rs'=>jtq C ops r dec rs' k)
    |some g=>match jfl ops rs ops.length g,jGE dec g with
      |some γ,some true=>γ=true∧jtI C ops {o with guard:=none} rs (fun rs'=>jtq C ops r dec rs' k)
      |some γ,some false=>γ=false∧jBi C ops o .any rs (fun rs'=>jtq C ops r dec rs' k)
      |some γ,none=>(γ=true→jtI C ops {o with guard:=none} rs (fun rs'=>jtq C ops r ((g,true)::dec) rs' k))∧
          (γ=false→jBi C ops o .any rs (fun rs'=>jtq C ops r ((g,false)::dec) rs' k))
      |none,_=>False
def jtO (C:Ctx) (ops:List Oper) (σ:St) (K:Ex→St→Prop):Prop:=
  jtq C ops ops [] ⟨σ,[]⟩ (fun rs=>K .normal (w6 ops (gc σ.ob.length rs.st)))
def jv8 (A:Ann) (a:Code) (run:St→(Ex→St→Prop)→Prop) (σ:St) (K:Ex→St→Prop):Prop:=
  match A (jfn a) with
  |none=>False
  |some L=>
    (∃x:(L σ).X,sub σ (zu (L σ) (zN a) σ x) (ki ((L σ).sl x)) (ki ((L σ).ob x))∧(L σ).inv x)∧
    ∀x:(L σ).X,(L σ).inv x→run (zu (L σ) (zN a) σ x) (fun e σ'=>match e with
      | .normal=>∃x':(L σ).X,sub σ' (zu (L σ) (zN a) σ x') (qX (ki ((L σ).sl x')) (qX (ki ((L σ).sl x)) (jdU σ'.sl (zu (L σ) (zN a) σ x).sl.length)))
            (qX (ki ((L σ).ob x')) (qX (ki ((L σ).ob x)) (jdU σ'.ob (zu (L σ) (zN a) σ x).ob.length)))∧(L σ).inv x'∧(L σ).mu x'<(L σ).mu x
      |e=>K e σ')
def vcg (C:Ctx) (A:Ann):Code→St→(Ex→St→Prop)→Prop
  | .skip,σ,K=>K .normal σ
  | .region id ops draw,σ,K=>match jzI ops.toList,draw with
    |some (d,it,r),false=>jzH C ops.toList r d it σ K
    |_,_=>match jsj ops.toList,draw with
      |some (i,U,t,d),false=>jD7 C ops.toList i U t d σ K
      |_,false=>match A (id+2000000) with
        |none=>match A (id+3000000) with
          |none=>jht C ops.toList false σ K
          |some _=>jtO C ops.toList σ K
        |some _=>match jjD ops.toList with
          |some (i,o,post)=>jyv C ops.toList i o post σ K
          |none=>False
      |_,true=>jht C ops.toList true σ K
  | .seq a b,σ,K=>vcg C A a σ (fun e σ'=>match e with
    | .normal=>vcg C A b σ' K
    |e=>K e σ')
  | .cond c a b,σ,K=>match jL σ c with
    | .dat .bool β=>(β=true→vcg C A a σ K)∧(β=false→vcg C A b σ K)
    |_=>False
  | .block id a,σ,K=>vcg C A a σ (fun e σ'=>match e with
    | .exit id'=>match Nat.beq id id' with
      |true=>K .normal σ'
      |false=>K (.exit id') σ'
    |e=>K e σ')
  | .loop a,σ,K=>match A (jfn a+1000000) with
    |none=>jv8 A a (vcg C A a) σ K
    |some _=>vcg C A a σ (fun e σ'=>match e with
      | .normal=>jv8 A a (vcg C A a) σ' K
      |e=>K e σ')
  | .exit id,σ,K=>K (.exit id) σ
  | .ret,σ,K=>K .ret σ
  | .scope a,σ,K=>vcg C A a σ K
  | .label _,σ,K=>K .normal σ
  |_,_,_=>False
def ko:(ps:List Par)→PD ps→Nat→List (Nat×SV)
  |[],_,_=>[]
  | .val t::ps,d,i=>(i,.dat t d.1)::ko ps d.2 (i+1)
  | .ref t::ps,d,i=>(i,.ep t d.1)::ko ps d.2 (i+1)
  | .fn aZ rs::ps,d,i=>(i,.fn aZ rs d.1.pre d.1.F)::ko ps d.2 (i+1)
  | .rfn aZ rs::ps,d,i=>(i,.fnp aZ rs d.1.pre d.1.F)::ko ps d.2 (i+1)
def jl1 (C:Ctx) (σ:St):ResultVar→SV
  | .tmp s=>σ.get s
  | .cell s T=>match C.info T,σ.get s with
    |some ti,.bp o 0=>match σ.obj o with
      |some (.box _ _ cs)=>match ti.agg,Nat.beq cs.length ti.size with
        |true,true=> .agg cs
        |false,true=>(match cs with|[v]=>v|_=> .any)
        |_,_=> .any
      |_=> .any
    |_,_=> .any
def jrK (C:Ctx) (σ:St):(rs:List Ty)→List ResultVar→Option (Ty.st rs).Data
  |[],[]=>some ()
  |t::ts,v::r=>match qH σ t (jl1 C σ v) with
    |some (x,_)=>match jrK C σ ts r with
      |some y=>some (x,y)
      |none=>none
    |none=>none
  |_,_=>none
def finish (C:Ctx) (fn:Func) (s:jW) (want:(Ty.st s.rs).Data):Ex→St→Prop
  | .exit _,_=>False
  |_,σ=>match jrK C σ s.rs fn.results.toList with
    |some r=>r=want
    |none=>False
@[irreducible] def zq (C:Ctx) (A:Ann) (fn:Func) (body:Code) (s:jW):Prop:=
  ∀d:PD s.ps,jqH (s.pre d) (vcg C A body ⟨ko s.ps d 0,[]⟩ (finish C fn s (s.F d)))
end Go.X
namespace Go.X
open Go.RowKit (Below)
theorem jk5 {w w':World} {p:Program} {at_:Addr} {u:TypeId} {k:Addr} {v:Value} {at':Bool} {l:List Addr} (h:w.viewStore p at_ u k v at'= .ok (w',l)):w'.drawn=w.drawn:=by
  simp only[World.viewStore,bind,Except.bind,pure,Except.pure,throw,throwThe,MonadExceptOf.throw] at h
  repeat' (split at h)
  all_goals first|(cases h;done)|(cases h;rfl)|contradiction
theorem jog {w w':World} {p:Program} {a:Addr} {v:Value} {at':Bool} {l:List Addr} (h:w.farStore p a v at'= .ok (w',l)):w'.drawn=w.drawn:=by
  unfold World.farStore at h
  split at h
  · split at h
    · rename_i r hr;cases h;exact jk5 hr
    · cases h
  · cases h
theorem jnm {α:Type}:∀(s:Ask α) (w:World),w.drawn≤(w.ask s).2.drawn
  | .done a,w=>by simp[World.ask]
  | .ask what range k,w=>by
    simp only[World.ask]
    split
    · exact jnm (k 0) w
    · exact jG5 (Nat.le_succ _) (jnm (k _) {w with drawn:=w.drawn+1})
theorem jyw (w:World) (c:Sys):w.drawn≤(w.sys c).2.drawn:=by
  unfold World.sys
  split
  · exact jGU _
  · rename_i r os w' _ h;have:=jnm (Kernel.perform c w.os) w;rw[h] at this;exact this
theorem zB {P:Program} {α:Type}:∀(s:Sem α) {w w':World} {a:α},s.run P w= .ok a w'→w.drawn≤w'.drawn
  | .pure a,w,w',x,h=>by simp only[Sem.run] at h;cases h;exact jGU _
  | .load m a k,w,w',x,h=>by
    simp only[Sem.run] at h
    split at h
    · exact zB _ h
    · split at h
      · exact zB _ h
      · cases h
  | .store m a v k,w,w',x,h=>by
    cases v<;>simp only[Sem.run] at h<;>first
      | (cases h;done)
      | (split at h
         · split at h
           · cases h
           · have:=zB (w:=w.setCell a _) k h
             exact this
         · split at h
           · rename_i w1 _ hf
             have h1:=jog hf
             have:=zB k h
             omega
           · cases h)
  | .new o k,w,w',x,h=>by
    simp only[Sem.run] at h
    have:=zB (w:={w with heap:=w.heap.push o}) (k _) h
    exact this
  | .shape r k,w,w',x,h=>by simp only[Sem.run] at h;exact zB _ h
  | .freeze a n k,w,w',x,h=>by
    simp only[Sem.run] at h
    have:=zB k h
    have e:(w.freeze a n).drawn=w.drawn:=by unfold World.freeze;split<;>rfl
    omega
  | .frozen a k,w,w',x,h=>by simp only[Sem.run] at h;exact zB _ h
  | .getObj r k,w,w',x,h=>by
    simp only[Sem.run] at h
    split at h
    · cases h
    · exact zB _ h
    · cases h
  | .setObj r o k,w,w',x,h=>by
    simp only[Sem.run] at h
    split at h
    · cases h
    · have:=zB (w:={w with heap:=w.heap.setIfInBounds r o}) k h
      exact this
    · cases h
  | .choose q k,w,w',x,h=>by
    simp only[Sem.run] at h
    split at h
    · exact zB _ h
    · exact jG5 (Nat.le_succ _) (zB _ h)
  | .sys c k,w,w',x,h=>by
    simp only[Sem.run] at h
    exact jG5 (jyw w c) (zB _ h)
  | .program k,w,w',x,h=>by simp only[Sem.run] at h;exact zB _ h
  | .mark m k,w,w',x,h=>by simp only[Sem.run] at h;exact zB _ h
  | .halt e,w,w',x,h=>by simp only[Sem.run] at h;cases h
inductive Fz where
  |cells (c:Array Value)
  |map (es:Array MapEntry) (clock:Nat)
def Fz.at:Fz→Option Obj→Prop
  | .cells c,o=>∃T fr,o=some (.cells c T fr)
  | .map es clock,o=>o=some (.map es clock)
abbrev Imm:=Nat→Option Fz
def kJ:Value→Bool
  | .agg _=>true
  |_=>false
def Ty.rd (H:Imm):(t:Ty)→(Nat→Option Value)→t.Data→Prop
  | .int,f,x=>f 0=some (.int .i64 x)
  | .bool,f,x=>f 0=some (.bool x)
  | .uint k,f,x=>f 0=some (.int k x)
  | .slice t,f,l=>∃a n c,f 0=some (.slice a n c)∧n=l.length∧n≤c∧l.length<4611686018427387904∧(a=none→c=0)∧
      (l≠[]→∃b off blk,a=some ⟨b,off,none⟩∧H b=some (.cells blk)∧∀i x,l[i]? =some x→t.rd H (fun j=>blk[off+i*t.size+j]?) x)
  | .unit,_,_=>True
  | .pair a b,f,d=>a.rd H f d.1∧b.rd H (fun j=>f (a.size+j)) d.2
  | .map k v,f,l=>∃p,f 0=some (.map p)∧(p=none→l=[])∧∀b,p=some b→∃(es:Array MapEntry) (clock:Nat),H b=some (.map es clock)∧es.size=l.length∧es.size≤clock∧
      (∀(i:Nat) (e:MapEntry),es[i]? =some e→e.born<clock)∧(∀(i j:Nat) (e e':MapEntry),es[i]? =some e→es[j]? =some e'→e.born=e'.born→i=j)∧
      ∀(i:Nat) x,l[i]? =some x→∃e:MapEntry,es[i]? =some e∧(kJ e.key=k.agg∧e.key.cells.size=k.size∧k.rd H (fun i=>e.key.cells[i]?) x.1)∧(kJ e.val=v.agg∧e.val.cells.size=v.size∧v.rd H (fun i=>e.val.cells[i]?) x.2)
  | .ptr t,f,d=>∃p,f 0=some (.pointer p)∧(match d with
      |none=>p=none
      |some x=>∃b off blk,p=some ⟨b,off,none⟩∧H b=some (.cells blk)∧t.rd H (fun j=>blk[off+j]?) x)
def Ty.rv (H:Imm) (t:Ty) (v:Value) (d:t.Data):Prop:=
  kJ v=t.agg∧v.cells.size=t.size∧t.rd H (fun i=>v.cells[i]?) d
theorem Ty.rd_mono {H H':Imm} (hH:∀b c,H b=some c→H' b=some c):∀(t:Ty) (f:Nat→Option Value) (d:t.Data),t.rd H f d→t.rd H' f d
  | .int,_,_,h=>h
  | .bool,_,_,h=>h
  | .uint _,_,_,h=>h
  | .unit,_,_,_=>trivial
  | .pair a b,f,d,h=>⟨a.rd_mono hH _ _ h.1,b.rd_mono hH _ _ h.2⟩
  | .map k v,f,l,h=>by
    obtain⟨p,h1,h2,h3⟩:=h
    refine⟨p,h1,h2,fun b hb=> ?_⟩
    obtain⟨es,clock,e1,e2,e3,e4,e5,e6⟩:=h3 b hb
    refine⟨es,clock,hH _ _ e1,e2,e3,e4,e5,fun i x hx=> ?_⟩
    obtain⟨e,g1,⟨g2,g3,g4⟩,g5,g6,g7⟩:=e6 i x hx
    exact⟨e,g1,⟨g2,g3,k.rd_mono hH _ _ g4⟩,g5,g6,v.rd_mono hH _ _ g7⟩
  | .ptr t,f,none,h=>h
  | .ptr t,f,some x,h=>by
    obtain⟨p,h1,b,off,blk,e1,e2,e3⟩:=h
    exact⟨p,h1,b,off,blk,e1,hH _ _ e2,t.rd_mono hH _ _ e3⟩
  | .slice t,f,l,h=>by
    obtain⟨a,n,c,h1,h2,h3,h4,h6,h5⟩:=h
    refine⟨a,n,c,h1,h2,h3,h4,h6,fun hl=> ?_⟩
    obtain⟨b,off,blk,e1,e2,e3⟩:=h5 hl
    exact⟨b,off,blk,e1,hH _ _ e2,fun i x hx=>t.rd_mono hH _ _ (e3 i x hx)⟩
theorem Ty.rd_congr {H:Imm}:∀(t:Ty) (f g:Nat→Option Value) (d:t.Data),(∀i,i<t.size→f i=g i)→t.rd H f d→t.rd H g d
  | .int,f,g,_,e,h=>by rw[Ty.rd,←e 0 (by simp[Ty.size])];exact h
  | .bool,f,g,_,e,h=>by rw[Ty.rd,←e 0 (by simp[Ty.size])];exact h
  | .uint _,f,g,_,e,h=>by rw[Ty.rd,←e 0 (by simp[Ty.size])];exact h
  | .unit,_,_,_,_,_=>trivial
  | .pair a b,f,g,d,e,h=>⟨a.rd_congr f g _ (fun i hi=>e i (by simp[Ty.size];omega)) h.1,
      b.rd_congr _ _ _ (fun i hi=>e _ (by simp[Ty.size];omega)) h.2⟩
  | .slice t,f,g,l,e,h=>by
    obtain⟨a,n,c,h1,r⟩:=h
    exact⟨a,n,c,by rw[←e 0 (by simp[Ty.size])];exact h1,r⟩
  | .map k v,f,g,l,e,h=>by
    obtain⟨p,h1,r⟩:=h
    exact⟨p,by rw[←e 0 (by simp[Ty.size])];exact h1,r⟩
  | .ptr t,f,g,l,e,h=>by
    obtain⟨p,h1,r⟩:=h
    exact⟨p,by rw[←e 0 (by simp[Ty.size])];exact h1,r⟩
theorem Ty.rv_mono {H H':Imm} (hH:∀b c,H b=some c→H' b=some c) {t:Ty} {v:Value} {d:t.Data} (h:t.rv H v d):t.rv H' v d:=
  ⟨h.1,h.2.1,t.rd_mono hH _ _ h.2.2⟩
theorem jap {H:Imm} {a b:Ty} (e:a=b) (f:Nat→Option Value) (d:a.Data):b.rd H f (qU e d)↔a.rd H f d:=by subst e;rfl
theorem jCE {H:Imm} {a b:Ty} (e:a=b) (v:Value) (d:a.Data):b.rv H v (qU e d)↔a.rv H v d:=by subst e;rfl
theorem jl {a b:Ty} {d:a.Data} {x:b.Data} (h:zg a b d=some x):∃e:a=b,x=qU e d:=by
  unfold zg at h
  split at h
  · rename_i e;exact⟨e,by simpa using h.symm⟩
  · cases h
def jE0 (H:Imm):Prop:=∀(g:Nat) (x:(t:Ty)×t.Data),jF jFD g=some x→∃c,H g=some (.cells c)∧x.1.rd H (fun j=>c[j]?) x.2
theorem jE0.mono {H H':Imm} (hH:∀b c,H b=some c→H' b=some c) (h:jE0 H):jE0 H':=fun g x hx=>by
  obtain⟨c,h1,h2⟩:=h g x hx
  exact⟨c,hH _ _ h1,x.1.rd_mono hH _ _ h2⟩
def jcY (H:Imm) (w:World):Prop:=(∀b c,H b=some c→c.at w.heap[b]?)∧jE0 H
structure jDp (H:Imm) (w:World) (H':Imm) (w':World):Prop where
  below:Below w.heap.size w w'
  good:jcY H' w'
  old:∀b,b<w.heap.size→H' b=H b
  drawn:w.drawn≤w'.drawn
theorem Fz.at_some {c:Fz} {o:Option Obj} (h:c.at o):∃x,o=some x:=by
  cases c with
  |cells c=>obtain⟨T,fr,e⟩:=h;exact⟨_,e⟩
  |map es clock=>exact⟨_,h⟩
theorem jcY.lt {H:Imm} {w:World} (h:jcY H w) {b:Nat} {c:Fz} (hb:H b=some c):b<w.heap.size:=by
  obtain⟨x,e⟩:=Fz.at_some (h.1 b c hb);exact(jGZ.1 e).1
theorem jcY.cells {H:Imm} {w:World} (h:jcY H w) {b:Nat} {c:Array Value} (hb:H b=some (.cells c)):∃T fr,w.heap[b]? =some (.cells c T fr):=h.1 b _ hb
theorem jDp.mono {H H':Imm} {w w':World} (g:jcY H w) (h:jDp H w H' w'):∀b c,H b=some c→H' b=some c:=
  fun b c hb=>by rw[h.old b (g.lt hb)];exact hb
theorem yQ {a b:Ty} (h:yr a b=true):a=b:=by
  unfold yr at h
  split at h
  · assumption
  · cases h
def rvs (H:Imm):(ts:List Ty)→List Value→(Ty.st ts).Data→Prop
  |[],vs,_=>vs=[]
  |t::ts,v::vs,d=>t.rv H v d.1∧rvs H ts vs d.2
  |_::_,[],_=>False
def jE3 (H:Imm) (rs:List Ty) (v:Value) (d:(Ty.st rs).Data):Prop:=
  match rs,d with
  |[t],d=>t.rv H v d.1
  |rs,d=>∃vs,v= .tuple vs∧rvs H rs vs.toList d
def kR:List Prop→Prop
  |[]=>True
  |p::r=>p∧kR r
def enters (P:Program) (k:Nat):Prop:=∀args w,(callFunc k args).run P w= .ok (.enter k args) w
def jDn (H:Imm) (w:World) (rs:List Ty) (r:(Ty.st rs).Data):Ending→World→Prop:=
  fun e w'=>∃v H',e= .returned v∧jDp H w H' w'∧jE3 H' rs v r
def FnV (P:Program) (H:Imm) (ps rs:List Ty) (pre:(Ty.st ps).Data→List Prop) (F:(Ty.st ps).Data→(Ty.st rs).Data) (v:Value):Prop:=
  ∃k caps,v= .func (.func k) #[] caps∧enters P k∧
    ∀H' w vals x,(∀b c,H b=some c→H' b=some c)→jcY H' w→rvs H' ps vals x→kR (pre x)→Calls P k (vals.toArray++caps) w (jDn H' w rs (F x))
theorem FnV.mono {P:Program} {H H':Imm} (hH:∀b c,H b=some c→H' b=some c) {ps rs pre F v} (h:FnV P H ps rs pre F v):FnV P H' ps rs pre F v:=by
  obtain⟨k,caps,e,en,r⟩:=h;exact⟨k,caps,e,en,fun H'' w vals x h1=>r H'' w vals x (fun b c hb=>h1 b c (hH b c hb))⟩
structure jEZ (bs:List Nat) (H:Imm) (w:World) (H':Imm) (w':World):Prop where
  os:w'.os=w.os
  tape:w'.tape=w.tape
  output:w'.output=w.output
  drawn:w.drawn≤w'.drawn
  size:w.heap.size≤w'.heap.size
  block:∀b,b<w.heap.size→b∉bs→w'.heap[b]? =w.heap[b]?
  old:∀b,b<w.heap.size→b∉bs→H' b=H b
  good:jcY H' w'
def jGu (H:Imm) (w:World) (b T:Nat) (st:Ty) (rs:List Ty) (r:(Ty.st rs).Data×st.Data):Ending→World→Prop:=
  fun e w'=>∃v H' u,e= .returned v∧jEZ [b] H w H' w'∧H' b=none∧w'.heap[b]? =some (.cells #[u] T (0,0))∧st.rv H' u r.2∧jE3 H' rs v r.1
def FnE (P:Program) (H:Imm) (b T:Nat) (st:Ty) (ps rs:List Ty) (pre:(Ty.st ps).Data→List Prop) (K:(Ty.st ps).Data→st.Data→(Ty.st rs).Data×st.Data) (v:Value):Prop:=
  ∃k caps,v= .func (.func k) #[] caps∧enters P k∧
    ∀H' w vals x s u,(∀b c,H b=some c→H' b=some c)→jcY H' w→H' b=none→w.heap[b]? =some (.cells #[u] T (0,0))→st.rv H' u s→rvs H' ps vals x→kR (pre x)→Calls P k (vals.toArray++caps) w (jGu H' w b T st rs (K x s))
theorem FnE.mono {P:Program} {H H':Imm} (hH:∀b c,H b=some c→H' b=some c) {b T st ps rs pre K v} (h:FnE P H b T st ps rs pre K v):FnE P H' b T st ps rs pre K v:=by
  obtain⟨k,caps,e,en,r⟩:=h;exact⟨k,caps,e,en,fun H'' w vals x s u h1=>r H'' w vals x s u (fun b c hb=>h1 b c (hH b c hb))⟩
structure Env where
  H:Imm
  blk:Nat→Option (Option (Nat×Nat))
  len:Nat→Nat
mutual
def SV.den (P:Program) (ρ:Env):SV→Value→Prop
  | .any,_=>True
  | .dat t d,v=>t.rv ρ.H v d
  | .ep t d,v=>∃b off c,v= .pointer (some ⟨b,off,none⟩)∧ρ.H b=some (.cells c)∧t.rd ρ.H (fun j=>c[off+j]?) d
  | .bp o off,v=>∀p,ρ.blk o=some p→∃b C,p=some (b,C)∧v= .pointer (some ⟨b,off,none⟩)
  | .own o _,v=>∀p,ρ.blk o=some p→match p with
      |none=>v= .slice none 0 0∧ρ.len o=0
      |some (b,C)=>v= .slice (some ⟨b,0,none⟩) (ρ.len o) C∧ρ.len o≤C
  | .osl o t lo n,v=>∀p,ρ.blk o=some p→match p with
      |none=>v= .slice none 0 0∧n=0
      |some (b,C)=>∃a cap,v= .slice (some a) n cap∧n≤cap∧lo+cap=C∧lo+n≤ρ.len o∧((lo=0∨0<cap)→a=⟨b,lo*t.size,none⟩)
  | .rp o t i off,v=>∀p,ρ.blk o=some p→i<ρ.len o∧∃b C,p=some (b,C)∧v= .pointer (some ⟨b,i*t.size+off,none⟩)
  | .mp o,v=>∀p,ρ.blk o=some p→∃b C,p=some (b,C)∧v= .map (some b)
  | .ip o,v=>∀p,ρ.blk o=some p→∃b C,p=some (b,C)∧v= .pointer (some ⟨b,0,none⟩)
  | .fn ps rs pre F,v=>FnV P ρ.H ps rs pre F v
  | .fnp ps rs pre F,v=>∃b u,v= .pointer (some ⟨b,0,none⟩)∧ρ.H b=some (.cells #[u])∧FnV P ρ.H ps rs pre F u
  | .fe ptr o T st ps rs pre K,v=>∀p,ρ.blk o=some p→∃b C,p=some (b,C)∧∃u,FnE P ρ.H b T st ps rs pre K u∧(match ptr with
      |false=>v=u
      |true=>∃b',v= .pointer (some ⟨b',0,none⟩)∧ρ.H b'=some (.cells #[u]))
  | .fcl t d,v=>(Ty.slice t).rv ρ.H v d∧∃a n,v= .slice a n n
  | .clo f caps,v=>∃vs:Array Value,v= .func (.func f) #[] vs∧SV.denL P ρ caps vs.toList
  | .agg cs,v=>∃vs:Array Value,v= .agg vs∧SV.denL P ρ cs vs.toList∧∀u∈vs.toList,u.oneCell'=true
  | .tup cs,v=>∃vs:Array Value,v= .tuple vs∧SV.denL P ρ cs vs.toList
  | .lit u,v=>v=u
def SV.denL (P:Program) (ρ:Env):List SV→List Value→Prop
  |[],vs=>vs=[]
  |c::cs,vs=>∃v r,vs=v::r∧SV.den P ρ c v∧SV.denL P ρ cs r
end
structure Env.le (ρ ρ':Env) (new:List Nat):Prop where
  H:∀b c,ρ.H b=some c→ρ'.H b=some c
  blk:∀o p,o∉new→ρ'.blk o=some p→ρ.blk o=some p
  len:∀o,o∉new→ρ'.len o=ρ.len o
theorem Env.le.refl (ρ:Env) (new:List Nat):ρ.le ρ new:=⟨fun _ _ h=>h,fun _ _ _ h=>h,fun _ _=>rfl⟩
theorem Env.le.trans {ρ ρ' ρ'':Env} {n:List Nat} (h:ρ.le ρ' n) (k:ρ'.le ρ'' n):ρ.le ρ'' n:=
  ⟨fun b c hb=>k.H b c (h.H b c hb),fun o p ho hp=>h.blk o p ho (k.blk o p ho hp),fun o ho=>(k.len o ho).trans (h.len o ho)⟩
theorem Env.le.weaken {ρ ρ':Env} {n m:List Nat} (h:ρ.le ρ' n) (hs:∀o,o∈n→o∈m):ρ.le ρ' m:=
  ⟨h.H,fun o p ho=>h.blk o p (fun hn=>ho (hs o hn)),fun o ho=>h.len o (fun hn=>ho (hs o hn))⟩
theorem jS {o o':Nat} (h:Nat.beq o o'=false):o≠o':=by
  intro e;subst e;simp at h
mutual
theorem SV.den_mono {P:Program} {ρ ρ':Env} {new:List Nat} (h:ρ.le ρ' new):∀(sv:SV) (v:Value),(∀o,o∈new→sv.refs o=false)→sv.den P ρ v→sv.den P ρ' v
  | .any,_,_,_=>by simp[SV.den]
  | .dat t d,v,_,k=>by simp only[SV.den] at k⊢;exact Ty.rv_mono h.H k
  | .ep t d,v,_,k=>by
    simp only[SV.den] at k⊢
    obtain⟨b,off,c,e1,e2,e3⟩:=k
    exact⟨b,off,c,e1,h.H _ _ e2,t.rd_mono h.H _ _ e3⟩
  | .bp o off,v,hr,k=>by
    simp only[SV.den] at k⊢
    have ho:o∉new:=fun hn=>by have:=hr o hn;simp[SV.refs] at this
    exact fun p hp=>k p (h.blk o p ho hp)
  | .own o t,v,hr,k=>by
    simp only[SV.den] at k⊢
    have ho:o∉new:=fun hn=>by have:=hr o hn;simp[SV.refs] at this
    rw[h.len o ho]
    exact fun p hp=>k p (h.blk o p ho hp)
  | .osl o t lo n,v,hr,k=>by
    simp only[SV.den] at k⊢
    have ho:o∉new:=fun hn=>by have:=hr o hn;simp[SV.refs] at this
    rw[h.len o ho]
    exact fun p hp=>k p (h.blk o p ho hp)
  | .rp o t i off,v,hr,k=>by
    simp only[SV.den] at k⊢
    have ho:o∉new:=fun hn=>by have:=hr o hn;simp[SV.refs] at this
    rw[h.len o ho]
    exact fun p hp=>k p (h.blk o p ho hp)
  | .mp o,v,hr,k=>by
    simp only[SV.den] at k⊢
    have ho:o∉new:=fun hn=>by have:=hr o hn;simp[SV.refs] at this
    exact fun p hp=>k p (h.blk o p ho hp)
  | .ip o,v,hr,k=>by
    simp only[SV.den] at k⊢
    have ho:o∉new:=fun hn=>by have:=hr o hn;simp[SV.refs] at this
    exact fun p hp=>k p (h.blk o p ho hp)
  | .fn ps rs pre F,v,_,k=>by simp only[SV.den] at k⊢;exact FnV.mono h.H k
  | .fnp ps rs pre F,v,_,k=>by
    simp only[SV.den] at k⊢
    obtain⟨b,u,e1,e2,e3⟩:=k
    exact⟨b,u,e1,h.H _ _ e2,FnV.mono h.H e3⟩
  | .fe ptr o T st ps rs pre K,v,hr,k=>by
    simp only[SV.den] at k⊢
    have ho:o∉new:=fun hn=>by have:=hr o hn;simp[SV.refs] at this
    intro p hp
    obtain⟨b,C,e,u,h1,h2⟩:=k p (h.blk o p ho hp)
    refine⟨b,C,e,u,FnE.mono h.H h1,?_⟩
    cases ptr with
    |false=>exact h2
    |true=>
      obtain⟨b',e1,e2⟩:=h2
      exact⟨b',e1,h.H _ _ e2⟩
  | .fcl t d,v,_,k=>by simp only[SV.den] at k⊢;exact⟨Ty.rv_mono h.H k.1,k.2⟩
  | .clo f caps,v,hr,k=>by
    simp only[SV.den] at k⊢
    obtain⟨vs,e,r⟩:=k
    exact⟨vs,e,SV.denL_mono h caps _ (fun o ho=>by have:=hr o ho;simpa[SV.refs] using this) r⟩
  | .agg cs,v,hr,k=>by
    simp only[SV.den] at k⊢
    obtain⟨vs,e,r,r'⟩:=k
    exact⟨vs,e,SV.denL_mono h cs _ (fun o ho=>by have:=hr o ho;simpa[SV.refs] using this) r,r'⟩
  | .tup cs,v,hr,k=>by
    simp only[SV.den] at k⊢
    obtain⟨vs,e,r⟩:=k
    exact⟨vs,e,SV.denL_mono h cs _ (fun o ho=>by have:=hr o ho;simpa[SV.refs] using this) r⟩
  | .lit u,v,_,k=>by simpa[SV.den] using k
theorem SV.denL_mono {P:Program} {ρ ρ':Env} {new:List Nat} (h:ρ.le ρ' new):∀(cs:List SV) (vs:List Value),(∀o,o∈new→SV.refs.refsL o cs=false)→SV.denL P ρ cs vs→SV.denL P ρ' cs vs
  |[],vs,_,k=>by simpa[SV.denL] using k
  |c::cs,vs,hr,k=>by
    simp only[SV.denL] at k⊢
    obtain⟨v,r,e,k1,k2⟩:=k
    have h1:∀o,o∈new→c.refs o=false:=fun o ho=>by
      have:=hr o ho;simp only[SV.refs.refsL] at this;cases hc:c.refs o<;>simp_all
    have h2:∀o,o∈new→SV.refs.refsL o cs=false:=fun o ho=>by
      have:=hr o ho;simp only[SV.refs.refsL] at this;cases hc:c.refs o<;>simp_all
    exact⟨v,r,e,SV.den_mono h c v h1 k1,SV.denL_mono h cs r h2 k2⟩
end
theorem zw {P:Program} {ρ:Env}:∀(cs:List SV) (vs:List Value),SV.denL P ρ cs vs→cs.length=vs.length
  |[],vs,h=>by simp[SV.denL] at h;simp[h]
  |c::cs,vs,h=>by
    simp only[SV.denL] at h
    obtain⟨v,r,rfl,_,k⟩:=h
    simp[zw cs r k]
theorem wM {P:Program} {ρ:Env}:∀(a b:List SV) (vs us:List Value),SV.denL P ρ a vs→SV.denL P ρ b us→SV.denL P ρ (a++b) (vs++us)
  |[],b,vs,us,h,k=>by simp[SV.denL] at h;simpa[h] using k
  |c::cs,b,vs,us,h,k=>by
    simp only[SV.denL] at h
    obtain⟨v,r,rfl,h1,h2⟩:=h
    simp only[jHi,SV.denL]
    exact⟨v,r++us,rfl,h1,wM cs b r us h2 k⟩
theorem jwl {P:Program} {ρ:Env}:∀(cs:List SV) (vs:List Value),SV.denL P ρ cs vs→∀(i:Nat) c,cs[i]? =some c→∃v,vs[i]? =some v∧SV.den P ρ c v
  |[],vs,_,i,c,hi=>by simp at hi
  |c::cs,vs,h,i,x,hi=>by
    simp only[SV.denL] at h
    obtain⟨v,r,rfl,h1,h2⟩:=h
    cases i with
    |zero=>simp at hi;subst hi;exact⟨v,by simp,h1⟩
    |succ i=>simpa using jwl cs r h2 i x (by simpa using hi)
theorem jbm {P:Program} {ρ:Env}:∀(k:Nat) (cs:List SV) (vs:List Value),SV.denL P ρ cs vs→SV.denL P ρ (cs.drop k) (vs.drop k)
  |0,cs,vs,h=>by simpa using h
  |k+1,[],vs,h=>by simp[SV.denL] at h;simp[h,SV.denL]
  |k+1,c::cs,vs,h=>by
    simp only[SV.denL] at h
    obtain⟨v,r,rfl,h1,h2⟩:=h
    simpa using jbm k cs r h2
theorem jh6 {P:Program} {ρ:Env}:∀(k:Nat) (cs:List SV) (vs:List Value),SV.denL P ρ cs vs→SV.denL P ρ (cs.take k) (vs.take k)
  |0,cs,vs,h=>by simp[SV.denL]
  |k+1,[],vs,h=>by simp[SV.denL] at h;simp[h,SV.denL]
  |k+1,c::cs,vs,h=>by
    simp only[SV.denL] at h
    obtain⟨v,r,rfl,h1,h2⟩:=h
    simp only[List.take_succ_cons,SV.denL]
    exact⟨v,r.take k,rfl,h1,jh6 k cs r h2⟩
structure zF where
  w:World
  H:Imm
  bor:List Nat
  blk0:Nat→Option (Option (Nat×Nat))--where the objects lie that were handed over
  len0:Nat→Nat
def fzH (fz:Bool) (vs:Array Value):Option Fz:=match fz with|true=>some (.cells vs)|false=>none
def fzM (fz:Bool) (es:Array MapEntry) (clock:Nat):Option Fz:=match fz with|true=>some (.map es clock)|false=>none
def jei (H:Imm) (kt vt:Ty) (es:Array MapEntry) (clock:Nat) (l:List (kt.Data×vt.Data)):Prop:=
  es.size=l.length∧es.size≤clock∧(∀(i:Nat) (e:MapEntry),es[i]? =some e→e.born<clock)∧(∀(i j:Nat) (e e':MapEntry),es[i]? =some e→es[j]? =some e'→e.born=e'.born→i=j)∧
    ∀(i:Nat) (x:kt.Data×vt.Data),l[i]? =some x→∃e:MapEntry,es[i]? =some e∧kt.rv H e.key x.1∧vt.rv H e.val x.2
theorem jei.mono {H H':Imm} (hH:∀b c,H b=some c→H' b=some c) {kt vt:Ty} {es:Array MapEntry} {clock:Nat} {l:List (kt.Data×vt.Data)} (h:jei H kt vt es clock l):jei H' kt vt es clock l:=by
  obtain⟨h1,h2,h3,h4,h5⟩:=h;refine⟨h1,h2,h3,h4,fun i x hx=> ?_⟩;obtain⟨e,g1,g2,g3⟩:=h5 i x hx;exact⟨e,g1,Ty.rv_mono hH g2,Ty.rv_mono hH g3⟩
def jFY (H:Imm) (kt vt:Ty) (es:List MapEntry) (seen:Array Nat) (left:List (kt.Data×vt.Data)):Prop:=
  ∃fs:List MapEntry,fs=es.filter (fun e=> !seen.contains e.born)∧fs.length=left.length∧∀(i:Nat) (x:kt.Data×vt.Data),left[i]? =some x→∃e:MapEntry,fs[i]? =some e∧kt.rv H e.key x.1∧vt.rv H e.val x.2
def jGx (H:Imm) (kt vt:Ty) (es:List MapEntry) (clock:Nat) (seen:Array Nat) (stepped:Nat):Option (kt.Data×vt.Data)→Prop
  |none=>True
  |some x=>stepped=clock∧∃e,e∈es∧seen.back? =some e.born∧kt.rv H e.key x.1∧vt.rv H e.val x.2
def jfu (H:Imm) (kt vt:Ty) (left:List (kt.Data×vt.Data)) (cur:Option (kt.Data×vt.Data)):Obj→Prop
  | .mapIter none _ _ _=>left=[]∧cur=none
  | .mapIter (some m) since seen stepped=>∃(es:Array MapEntry) (clock:Nat),H m=some (.map es clock)∧since=clock∧(∀(i:Nat) (e:MapEntry),es[i]? =some e→e.born<clock)∧(∀(i j:Nat) (e e':MapEntry),es[i]? =some e→es[j]? =some e'→e.born=e'.born→i=j)∧
      (seen= #[]∨stepped=clock)∧jFY H kt vt es.toList seen left∧jGx H kt vt es.toList clock seen stepped cur
  |_=>False
theorem jfu.mono {H H':Imm} (hH:∀b c,H b=some c→H' b=some c) {kt vt:Ty} {left:List (kt.Data×vt.Data)} {cur:Option (kt.Data×vt.Data)} {o:Obj} (h:jfu H kt vt left cur o):jfu H' kt vt left cur o:=by
  unfold jfu at h⊢
  split at h
  · exact h
  · obtain⟨es,clock,h1,h2,h3,h4,h5,⟨fs,h6,h7,h8⟩,h9⟩:=h;refine⟨es,clock,hH _ _ h1,h2,h3,h4,h5,⟨fs,h6,h7,fun i x hx=> ?_⟩,?_⟩
    · obtain⟨e,g1,g2,g3⟩:=h8 i x hx;exact⟨e,g1,Ty.rv_mono hH g2,Ty.rv_mono hH g3⟩
    · cases cur with
      |none=>trivial
      |some x=>
        obtain⟨g0,e,g1,g2,g3,g4⟩:=h9;exact⟨g0,e,g1,g2,Ty.rv_mono hH g3,Ty.rv_mono hH g4⟩
  · exact h
def j9 (P:Program) (ρ:Env) (w:World) (o:Nat) (p:Option (Nat×Nat)):Ob→Prop
  | .box T fz cs=>∃b C vs,p=some (b,C)∧w.heap[b]? =some (.cells vs T (0,0))∧SV.denL P ρ cs vs.toList∧(∀v∈vs.toList,v.oneCell'=true)∧ρ.H b=fzH fz vs
  | .row E t fz nl l=>ρ.len o=l.length∧l.length<4611686018427387904∧match p with
    |none=>l=[]∧nl≠.no
    |some (b,C)=>(nl= .yes→l≠[])∧∃vs,w.heap[b]? =some (.cells vs E (0,0))∧vs.size=C*t.size∧l.length≤C∧C≤maxLen∧
        (∀i x,l[i]? =some x→t.rd ρ.H (fun j=>vs[i*t.size+j]?) x)∧ρ.H b=fzH fz vs
  | .map fz kt vt l=>∃b C es clock,p=some (b,C)∧w.heap[b]? =some (.map es clock)∧jei ρ.H kt vt es clock l∧ρ.H b=fzM fz es clock
  | .iter kt vt left cur=>∃b C x,p=some (b,C)∧w.heap[b]? =some x∧jfu ρ.H kt vt left cur x∧ρ.H b=none
  | .mape kt vt l k s=>∃b C es clock,p=some (b,C)∧w.heap[b]? =some (.map es clock)∧jei ρ.H kt vt es clock (jbc kt vt.dflt k l)∧ρ.H b=none∧
      ∃(j:Nat) (e:MapEntry),es[j]? =some e∧(e.born:Int)=s∧∀v,jgi kt k v l=(jbc kt vt.dflt k l).set j (k,v)
structure Sat (P:Program) (B:zF) (ρ:Env) (obj:Nat→Option Ob) (w:World):Prop where
  os:w.os=B.w.os
  tape:w.tape=B.w.tape
  output:w.output=B.w.output
  drawn:B.w.drawn≤w.drawn
  size:B.w.heap.size≤w.heap.size
  good:jcY ρ.H w
  oldH:∀b,b<B.w.heap.size→b∉B.bor→ρ.H b=B.H b
  old:∀b,b<B.w.heap.size→b∉B.bor→w.heap[b]? =B.w.heap[b]?
  obs:∀o x,obj o=some x→∃p,ρ.blk o=some p∧j9 P ρ w o p x
  dead:∀o,obj o=none→ρ.blk o=none
  inj:∀o o' b C C',ρ.blk o=some (some (b,C))→ρ.blk o'=some (some (b,C'))→o=o'
  own:∀o b C,ρ.blk o=some (some (b,C))→B.w.heap.size≤b∨b∈B.bor
def jih (P:Program) (ρ:Env) (sl:List (Nat×SV)) (a:Act):Prop:=
  ∀s sv,jF sl s=some sv→SV.den P ρ sv (a.tmps.getD s undef)
def Pin (B:zF) (ρ:Env):Prop:=(∀o p,1000000≤o→ρ.blk o=some p→B.blk0 o=some p∧ρ.len o=B.len0 o)∧∀b c,B.H b=some c→ρ.H b=some c
theorem Pin.mono {B:zF} {ρ ρ':Env} {new:List Nat} (h:Pin B ρ) (hle:ρ.le ρ' new) (hn:∀d,d∈new→d<1000000):Pin B ρ':=
  ⟨fun o p ho hb=>by
    have hnm:o∉new:=fun hm=>by have:=hn o hm;omega
    have:=h.1 o p ho (hle.blk o _ hnm hb)
    exact⟨this.1,(hle.len o hnm).trans this.2⟩,fun b c hb=>hle.H b c (h.2 b c hb)⟩
def Rel (P:Program) (B:zF) (n:Nat) (σ:St) (a:Act) (w:World):Prop:=
  a.defers=[]∧a.tmps.size=n∧∃ρ,Sat P B ρ σ.obj w∧jih P ρ σ.sl a∧Pin B ρ
theorem jH {α:Type} (k:Nat) (x:α) (l:List (Nat×α)):jF ((k,x)::l) k=some x:=by simp[jF]
theorem jw {α:Type} {j k:Nat} (h:j≠k) (x:α) (l:List (Nat×α)):jF ((j,x)::l) k=jF l k:=by
  simp only[jF];cases hb:Nat.beq j k
  · rfl
  · exact absurd (jGP hb) h
theorem jk {α:Type}:∀(a b:List (Nat×α)) (k:Nat),jF (a++b) k=(match jF a k with|some x=>some x|none=>jF b k)
  |[],b,k=>by simp[jF]
  | (j,x)::a,b,k=>by
    simp only[jHi,jF]
    cases Nat.beq j k<;>simp[jk a b k]
theorem zk {α:Type}:∀(l:List (Nat×α)) (k:Nat) (x:α),jF l k=some x→(k,x)∈l
  |[],_,_,h=>by simp[jF] at h
  | (j,y)::l,k,x,h=>by
    simp only[jF] at h
    cases hb:Nat.beq j k
    · rw[hb] at h;exact jGV _ (zk l k x h)
    · rw[hb] at h;simp at h;subst h;have:=jGP hb;subst this;exact jHv
end Go.X
namespace Go.X
open Go.RowKit (Below)
theorem jN {P:Program} {ρ ρ':Env} {w w':World} {new:List Nat} (h:ρ.le ρ' new) {o:Nat} (ho:o∉new) {p:Option (Nat×Nat)} {x:Ob}
    (hcs:∀T fz cs,x= .box T fz cs→∀o',o'∈new→SV.refs.refsL o' cs=false)
    (hb:∀b C,p=some (b,C)→ρ'.H b=ρ.H b∧w'.heap[b]? =w.heap[b]?) (k:j9 P ρ w o p x):j9 P ρ' w' o p x:=by
  cases x with
  |box T fz cs=>
    simp only[j9] at k⊢;obtain⟨b,C,vs,rfl,k1,k2,k3,k4⟩:=k;obtain⟨e1,e2⟩:=hb b C rfl;exact⟨b,C,vs,rfl,by rw[e2];exact k1,SV.denL_mono h cs _ (hcs T fz cs rfl) k2,k3,by rw[e1];exact k4⟩
  |row E t fz nl l=>
    simp only[j9] at k⊢;obtain⟨k1,k0,k2⟩:=k;refine⟨by rw[h.len o ho];exact k1,k0,?_⟩;cases p with
    |none=>exact k2
    |some q=>
      obtain⟨b,C⟩:=q;obtain⟨e1,e2⟩:=hb b C rfl;simp only at k2⊢;obtain⟨k3,vs,k4,k5,k6,k7,k9,k10⟩:=k2;exact⟨k3,vs,by rw[e2];exact k4,k5,k6,k7,fun i x hx=>t.rd_mono h.H _ _ (k9 i x hx),by rw[e1];exact k10⟩
  |map fz kt vt l=>
    simp only[j9] at k⊢;obtain⟨b,C,es,clock,rfl,k1,k2,k3⟩:=k;obtain⟨e1,e2⟩:=hb b C rfl;exact⟨b,C,es,clock,rfl,by rw[e2];exact k1,k2.mono h.H,by rw[e1];exact k3⟩
  |iter kt vt left cur=>
    simp only[j9] at k⊢;obtain⟨b,C,x,rfl,k1,k2,k3⟩:=k;obtain⟨e1,e2⟩:=hb b C rfl;exact⟨b,C,x,rfl,by rw[e2];exact k1,k2.mono h.H,by rw[e1];exact k3⟩
  |mape kt vt l key s=>
    simp only[j9] at k⊢;obtain⟨b,C,es,clock,rfl,k1,k2,k3,k4⟩:=k;obtain⟨e1,e2⟩:=hb b C rfl;exact⟨b,C,es,clock,rfl,by rw[e2];exact k1,k2.mono h.H,by rw[e1];exact k3,k4⟩
def jyf (obj:Nat→Option Ob) (o:Nat):Nat→Option Ob:=fun o'=>if o'=o then(obj o).map z8 else obj o'
theorem jqI (x:Ob):z8 (z8 x)=z8 x:=by cases x<;>rfl
theorem jvL {P:Program} {B:zF} {ρ:Env} {obj:Nat→Option Ob} {w:World} (h:Sat P B ρ obj w) {o:Nat} {b C:Nat} {vs:Fz}
    (hp:ρ.blk o=some (some (b,C))) (hw:vs.at w.heap[b]?) (hH:ρ.H b=none):
    let ρ':Env:={ρ with H:=fun b'=>if b'=b then some vs else ρ.H b'}
    ρ.le ρ' []∧jcY ρ'.H w∧(∀b',b'<B.w.heap.size→b'∉B.bor→ρ'.H b'=B.H b'):=by
  have hm:∀b' c,ρ.H b'=some c→(fun b'=>if b'=b then some vs else ρ.H b') b'=some c:=fun b' c hb=>by
    by_cases e:b'=b
    · subst e;rw[hH] at hb;cases hb
    · simp[e,hb]
  refine⟨⟨hm,fun _ _ _ h=>h,fun _ _=>rfl⟩,⟨fun b' c hb=> ?_,h.good.2.mono hm⟩,fun b' hb hbo=> ?_⟩
  · by_cases e:b'=b
    · subst e;simp at hb;subst hb;exact hw
    · simp[e] at hb;exact h.good.1 b' c hb
  · have:b'≠b:=by
      rintro rfl;rcases h.own o b' C hp with h1|h1
      · omega
      · exact hbo h1
    simp[this,h.oldH b' hb hbo]
theorem jEk {P:Program} {B:zF} {ρ:Env} {obj:Nat→Option Ob} {w:World} (h:Sat P B ρ obj w) (o:Nat):
    ∃ρ',Sat P B ρ' (jyf obj o) w∧ρ.le ρ' []∧ρ'.blk=ρ.blk∧ρ'.len=ρ.len:=by
  have same:jyf obj o=obj→∃ρ',Sat P B ρ' (jyf obj o) w∧ρ.le ρ' []∧ρ'.blk=ρ.blk∧ρ'.len=ρ.len:=fun e=>⟨ρ,by rw[e];exact h,Env.le.refl _ _,rfl,rfl⟩
  cases hx:obj o with
  |none=>exact same (funext fun o'=>by unfold jyf;split<;>simp_all)
  |some x=>
    obtain⟨p,hp,hs⟩:=h.obs o x hx;by_cases hfz:z8 x=x
    · exact same (funext fun o'=>by unfold jyf;split<;>simp_all)
    · --the block
      have key:∀(b C:Nat) (vs:Fz),p=some (b,C)→vs.at w.heap[b]?→ρ.H b=none→
          j9 P {ρ with H:=fun b'=>if b'=b then some vs else ρ.H b'} w o p (z8 x)→
          ∃ρ',Sat P B ρ' (jyf obj o) w∧ρ.le ρ' []∧ρ'.blk=ρ.blk∧ρ'.len=ρ.len:=by
        intro b C vs hpe hw hH hnew;subst hpe;obtain⟨hle,hgood,hold⟩:=jvL h hp hw hH;refine⟨{ρ with H:=fun b'=>if b'=b then some vs else ρ.H b'},⟨h.os,h.tape,h.output,h.drawn,h.size,hgood,hold,h.old,?_,?_,h.inj,h.own⟩,hle,rfl,rfl⟩
        · intro o' x' hx';unfold jyf at hx';by_cases e:o'=o
          · subst e;rw[if_pos rfl,hx] at hx';simp at hx';subst hx';exact⟨_,hp,hnew⟩
          · rw[if_neg e] at hx';obtain⟨p',hp',hs'⟩:=h.obs o' x' hx';refine⟨p',hp',jN hle (by simp) (fun _ _ _ _ o'' ho''=>by simp at ho'') (fun b' C' hp''=>⟨?_,rfl⟩) hs'⟩;subst hp'';have:b'≠b:=fun e'=>e (h.inj o' o b' C' C hp' (e'▸hp))
            simp[this]
        · intro o' ho';unfold jyf at ho';by_cases e:o'=o
          · subst e;rw[if_pos rfl,hx] at ho';cases ho'
          · rw[if_neg e] at ho';exact h.dead o' ho'
      cases x with
      |box T fz cs=>
        cases fz with
        |true=>exact absurd rfl hfz
        |false=>
          simp only[j9,fzH] at hs;obtain⟨b,C,vs,hpe,hw,hd,h1,hH⟩:=hs;refine key b C (.cells vs) hpe ⟨T,_,hw⟩ hH ?_;simp only[z8,j9,fzH];exact⟨b,C,vs,hpe,hw,SV.denL_mono (jvL (vs:= .cells vs) h (hpe▸hp) ⟨T,_,hw⟩ hH).1 cs _ (fun o ho=>by simp at ho) hd,h1,by simp⟩
      |row E t fz nl l=>
        cases fz with
        |true=>exact absurd rfl hfz
        |false=>
          simp only[j9,fzH] at hs;obtain⟨k1,k0,k2⟩:=hs;cases p with
          |none=>
            refine⟨ρ,⟨h.os,h.tape,h.output,h.drawn,h.size,h.good,h.oldH,h.old,?_,?_,h.inj,h.own⟩,Env.le.refl _ _,rfl,rfl⟩
            · intro o' x' hx';unfold jyf at hx';by_cases e:o'=o
              · subst e;rw[if_pos rfl,hx] at hx';simp at hx';subst hx';exact⟨none,hp,k1,k0,k2⟩
              · rw[if_neg e] at hx';exact h.obs o' x' hx'
            · intro o' ho';unfold jyf at ho';by_cases e:o'=o
              · subst e;rw[if_pos rfl,hx] at ho';cases ho'
              · rw[if_neg e] at ho';exact h.dead o' ho'
          |some q=>
            obtain⟨b,C⟩:=q;simp only at k2;obtain⟨k3,vs,k4,k5,k6,k7,k9,k10⟩:=k2;refine key b C (.cells vs) rfl ⟨E,_,k4⟩ k10 ?_;simp only[z8,j9,fzH];exact⟨k1,k0,k3,vs,k4,k5,k6,k7,fun i x hx=>t.rd_mono (jvL (vs:= .cells vs) h hp ⟨E,_,k4⟩ k10).1.H _ _ (k9 i x hx),by simp⟩
      |map fz kt vt l=>
        cases fz with
        |true=>exact absurd rfl hfz
        |false=>
          simp only[j9,fzM] at hs;obtain⟨b,C,es,clock,hpe,hw,hd,hH⟩:=hs;refine key b C (.map es clock) hpe hw hH ?_;simp only[z8,j9,fzM];exact⟨b,C,es,clock,hpe,hw,hd.mono (jvL (vs:= .map es clock) h (hpe▸hp) hw hH).1.H,by simp⟩
      |iter kt vt left cur=>exact absurd rfl hfz
      |mape kt vt l k s=>exact absurd rfl hfz
theorem wS (σ:St) (o:Nat) (x:Option Ob) (r:List (Nat×Option Ob)) (o':Nat):
    ({σ with ob:=(o,x)::r}:St).obj o'=if o'=o then x else({σ with ob:=r}:St).obj o':=by
  by_cases e:o'=o
  · subst e;simp[St.obj,jH]
  · simp[St.obj,jw (fun h=>e h.symm),e]
theorem ku (σ:St):∀(fz:List Nat) (o:Nat),(σ.frz fz).obj o=if o∈fz then(σ.obj o).map z8 else σ.obj o
  |[],o=>by simp[St.frz,q6]
  |k::r,o=>by
    have ih:=ku σ r o
    unfold St.frz at ih⊢
    simp only[q6]
    cases hk:σ.obj k with
    |none=>
      simp only
      rw[ih]
      by_cases e:o=k
      · subst e;by_cases hm:o∈r<;>simp[hm,hk]
      · simp[e]
    |some x=>
      simp only[jHi]
      rw[wS]
      by_cases e:o=k
      · subst e;simp[hk]
      · simp only[e,if_false];rw[ih];simp[e]
theorem jP {P:Program} {B:zF} {σ:St} {w:World}:∀(fz:List Nat) {ρ:Env},Sat P B ρ σ.obj w→
    ∃ρ',Sat P B ρ' (σ.frz fz).obj w∧ρ.le ρ' []∧ρ'.blk=ρ.blk∧ρ'.len=ρ.len
  |[],ρ,h=>⟨ρ,by have:(σ.frz []).obj=σ.obj:=funext fun o=>by rw[ku];simp
                 rw[this];exact h,Env.le.refl _ _,rfl,rfl⟩
  |k::r,ρ,h=>by
    obtain⟨ρ1,h1,l1,b1,n1⟩:=jP r h
    obtain⟨ρ2,h2,l2,b2,n2⟩:=jEk h1 k
    refine⟨ρ2,?_,l1.trans l2,b2.trans b1,n2.trans n1⟩
    have:(σ.frz (k::r)).obj=jyf (σ.frz r).obj k:=funext fun o=>by
      unfold jyf
      rw[ku,ku,ku]
      by_cases e:o=k
      · subst e
        by_cases hm:o∈r
        · simp only[hm,jGS,true_or,if_true]
          cases σ.obj o<;>simp[jqI]
        · simp[hm]
      · simp[e]
    rw[this];exact h2
theorem vV {H:Imm} {t:Ty} (ht:t.agg=false) {f g:Nat→Option Value} (e:f 0=g 0) {d:t.Data} (h:t.rd H f d):t.rd H g d:=
  t.rd_congr f g d (fun i hi=>by
    have:t.size=1:=by cases t<;>simp_all [Ty.size,Ty.agg]
    have:i=0:=by omega
    subst this;exact e) h
theorem jea {v:Value} (h:kJ v=false):v.cells= #[v]:=by cases v<;>simp_all [kJ,Value.cells]
theorem zb {H:Imm} {t:Ty} {v:Value} {d:t.Data} (ht:t.agg=false) (h:t.rv H v d):t.rd H (fun _=>some v) d:=by
  have hc:=jea (v:=v) (by rw[h.1,ht]);exact vV ht (by simp[hc]) h.2.2
theorem jqk {H:Imm} {t:Ty} {v:Value} {d:t.Data} (ht:t.agg=false) (h:t.rd H (fun _=>some v) d):kJ v=false:=by
  cases t with
  |map k u=>obtain⟨p,e,_⟩:=h;simp at e;subst e;rfl
  |slice t=>obtain⟨a,n,c,e,_⟩:=h;simp at e;subst e;rfl
  |ptr t=>obtain⟨p,e,_⟩:=h;simp at e;subst e;rfl
  |_=>simp_all [Ty.rd,Ty.agg,kJ]
theorem kl {H:Imm} {t:Ty} {v:Value} {d:t.Data} (ht:t.agg=false) (h:t.rd H (fun _=>some v) d):t.rv H v d:=by
  have hn:=jqk ht h;have hs:t.size=1:=by cases t<;>simp_all [Ty.size,Ty.agg]
  refine⟨by rw[hn,ht],by rw[jea hn,hs];rfl,vV ht (by rw[jea hn];simp) h⟩
theorem wy {v:Value} (h:zc v=true):v= .slice none 0 0:=by
  unfold zc at h
  split at h
  · rfl
  · cases h
theorem jvT {H:Imm} (t:Ty):(Ty.slice t).rd H (fun _=>some (.slice none 0 0)) []:=
  ⟨none,0,0,rfl,rfl,jGU _,by simp,fun _=>rfl,fun h=>absurd rfl h⟩
theorem jC5 {v:Value} (h:jkR v=true):v= .map none:=by
  unfold jkR at h
  split at h
  · rfl
  · cases h
theorem jFj {H:Imm} {kt vt:Ty} {b:Nat} {es:Array MapEntry} {clock:Nat} {l:List (kt.Data×vt.Data)} (hH:H b=some (.map es clock)) (h:jei H kt vt es clock l):
    (Ty.map kt vt).rd H (fun _=>some (.map (some b))) l:=by
  obtain⟨h1,h2,h3,h4,h5⟩:=h;refine⟨some b,rfl,fun h=>(by cases h),fun b' hb=> ?_⟩;cases hb;exact⟨es,clock,hH,h1,h2,h3,h4,h5⟩
def Frz (σ τ:St) (fz:List Nat):Prop:=∀o,(τ.obj o=σ.obj o∨τ.obj o=(σ.obj o).map z8)∧(o∈fz→τ.obj o=(σ.obj o).map z8)
theorem qa (σ:St) (fz:List Nat):Frz σ (σ.frz fz) fz:=fun o=>by
  rw[ku]
  by_cases h:o∈fz<;>simp[h]
theorem jvN {P:Program} {B:zF} {σ τ:St} {ρ:Env} {w:World} (hS:Sat P B ρ τ.obj w) {fz:List Nat} (hF:Frz σ τ fz) {o:Nat} (ho:o∈fz)
    {E:Nat} {t:Ty} {f:Bool} {nl:Nl} {l:List t.Data} (hx:σ.obj o=some (.row E t f nl l)):
    ∃p,ρ.blk o=some p∧ρ.len o=l.length∧l.length<4611686018427387904∧match p with
      |none=>l=[]
      |some (b,_)=>∃vs,ρ.H b=some (.cells vs)∧∀i x,l[i]? =some x→t.rd ρ.H (fun j=>vs[i*t.size+j]?) x:=by
  have hτ:τ.obj o=some (.row E t true nl l):=(by rw[(hF o).2 ho,hx];rfl);obtain⟨p,hp,k1,k0,k2⟩:=hS.obs o _ hτ;refine⟨p,hp,k1,k0,?_⟩;cases p with
  |none=>exact k2.1
  |some q=>
    obtain⟨b,C⟩:=q;obtain⟨_,vs,_,_,_,_,k9,k10⟩:=k2;exact⟨vs,by simpa[fzH] using k10,k9⟩
theorem jBL {P:Program} {B:zF} {σ τ:St} {ρ:Env} {w:World} (hS:Sat P B ρ τ.obj w) {fz:List Nat} (hF:Frz σ τ fz) {o:Nat} (ho:o∈fz)
    {t u:Ty} {l:List t.Data} {v:Value} (he:gD σ t (.own o u)=some l) (hv:SV.den P ρ (.own o u) v):(Ty.slice t).rd ρ.H (fun _=>some v) l:=by
  simp only[gD] at he
  split at he
  · rename_i E t' f nl l' hx;obtain⟨e,rfl⟩:=jl he;obtain⟨p,hp,k1,k0,k2⟩:=jvN hS hF ho hx;rw[jap];simp only[SV.den] at hv;have hv:=hv p hp;cases p with
    |none=>
      subst k2;obtain⟨rfl,_⟩:=hv;exact jvT t'
    |some q=>
      obtain⟨b,C⟩:=q;obtain⟨rfl,h1⟩:=hv;obtain⟨vs,h3,h4⟩:=k2;exact⟨_,_,C,rfl,k1,h1,k0,fun h=>(by cases h),fun _=>⟨b,0,vs,rfl,h3,fun i x hx=>by simpa using h4 i x hx⟩⟩
  · cases he
theorem jBM {P:Program} {B:zF} {σ τ:St} {ρ:Env} {w:World} (hS:Sat P B ρ τ.obj w) {fz:List Nat} (hF:Frz σ τ fz) {o:Nat} (ho:o∈fz)
    {t u:Ty} {lo n:Nat} {l:List t.Data} {v:Value} (he:gD σ t (.osl o u lo n)=some l) (hv:SV.den P ρ (.osl o u lo n) v):(Ty.slice t).rd ρ.H (fun _=>some v) l:=by
  simp only[gD] at he
  split at he
  · rename_i E t' f nl l' hx
    split at he
    · rename_i l'' hc;obtain⟨e1,rfl⟩:=jl hc;obtain⟨e,rfl⟩:=jl he;obtain⟨p,hp,k1,k0,k2⟩:=jvN hS hF ho hx;rw[jap];cases e1;simp only[qU];simp only[SV.den] at hv;have hv:=hv p hp;cases p with
      |none=>
        subst k2;obtain⟨rfl,rfl⟩:=hv;simpa using jvT u
      |some q=>
        obtain⟨b,C⟩:=q;obtain⟨a,cap,rfl,h1,h2,h3,h4⟩:=hv;obtain⟨vs,h5,h6⟩:=k2;have hlen:((l'.drop lo).take n).length=n:=(by simp;omega);refine⟨_,_,cap,rfl,hlen.symm,h1,by omega,fun h=>(by cases h),fun hne=> ?_⟩;have hn:0<n:=by
          rcases jH2 n with h0|h0
          · subst h0;simp at hne
          · exact h0
        refine⟨b,lo*u.size,vs,by rw[h4 (.inr (by omega))],h5,fun i x hx=> ?_⟩;have hi:(l'.drop lo)[i]? =some x:=by
          rw[jH3] at hx
          split at hx
          · exact hx
          · cases hx
        rw[jHw] at hi;have:=h6 _ _ hi;refine u.rd_congr _ _ x (fun j _=> ?_) this;simp only[jHD]
    · cases he
  · cases he
theorem jhd {P:Program} {B:zF} {σ τ:St} {ρ:Env} {w:World} (hS:Sat P B ρ τ.obj w) {fz:List Nat} (hF:Frz σ τ fz)
    {t:Ty} (ht:t.agg=false) {sv:SV} {d:t.Data} {fz':List Nat} (h:jlI σ t sv=some (d,fz')) (hs:∀o,o∈fz'→o∈fz) {v:Value} (hv:SV.den P ρ sv v):
    t.rd ρ.H (fun _=>some v) d:=by
  have plain:∀(t:Ty),t.agg=false→∀(t':Ty) (d':t'.Data) (x:t.Data),zg t' t d'=some x→SV.den P ρ (.dat t' d') v→t.rd ρ.H (fun _=>some v) x:=by
    intro t ht t' d' x hc hv;obtain⟨e,rfl⟩:=jl hc;rw[jap];subst e;simp only[SV.den] at hv;exact zb ht hv
  unfold jlI at h
  split at h
  · rename_i t o u
    split at h
    · rename_i l he;simp at h;obtain⟨rfl,rfl⟩:=h;exact jBL hS hF (hs o (by simp)) he hv
    · cases h
  · rename_i t o u lo n
    split at h
    · rename_i l he;simp at h;obtain⟨rfl,rfl⟩:=h;exact jBM hS hF (hs o (by simp)) he hv
    · cases h
  · rename_i t u
    split at h
    · rename_i hn;simp at h;obtain⟨rfl,rfl⟩:=h;simp only[SV.den] at hv;subst hv;rw[wy hn];exact jvT t
    · cases h
  · rename_i kt vt o
    split at h
    case h_2=>cases h
    rename_i fz0 kt' vt' l0 ho
    split at h
    case h_2=>cases h
    rename_i l' hc;simp at h;obtain⟨rfl,rfl⟩:=h;obtain⟨e,rfl⟩:=jl hc;rw[jap e];have hτ:τ.obj o=some (.map true kt' vt' l0):=(by rw[(hF o).2 (hs o (by simp)),ho];rfl);obtain⟨p,hp,hs2⟩:=hS.obs o _ hτ;simp only[j9,fzM] at hs2;obtain⟨b,C,es,clock,rfl,k1,k2,k3⟩:=hs2;simp only[SV.den] at hv;obtain⟨b',C',e1,rfl⟩:=hv _ hp;simp at e1;obtain⟨rfl,rfl⟩:=e1;exact jFj k3 k2
  · rename_i kt vt u
    split at h
    · rename_i hn;simp at h;obtain⟨rfl,rfl⟩:=h;simp only[SV.den] at hv;subst hv;rw[jC5 hn];exact⟨none,rfl,fun _=>rfl,fun b hb=>by cases hb⟩
    · cases h
  · split at h
    · rename_i x hc;simp at h;obtain⟨rfl,rfl⟩:=h;exact plain _ ht _ _ _ hc hv
    · cases h
  · cases h
theorem jzG {v:Value} (h:jhM v=true):v= .pointer none:=by
  unfold jhM at h
  split at h
  · rfl
  · cases h
theorem jhu {P:Program} {B:zF} {σ τ:St} {ρ:Env} {w:World} (hS:Sat P B ρ τ.obj w) {fz:List Nat} (hF:Frz σ τ fz) {t:Ty}
    (ih:∀{cs rest:List SV} {d:t.Data} {fz':List Nat},wB σ t cs=some (d,rest,fz')→(∀o,o∈fz'→o∈fz)→∀{vs:List Value},SV.denL P ρ cs vs→
      ∃us r,vs=us++r∧us.length=t.size∧SV.denL P ρ rest r∧t.rd ρ.H (fun i=>us[i]?) d)
    {sv:SV} {d:Option t.Data} {fz':List Nat} (h:jp5 (wB σ t) (fun u d=>zg u t d) (fun u d=>zg u (.ptr t) d) σ sv=some (d,fz')) (hs:∀o,o∈fz'→o∈fz) {v:Value} (hv:SV.den P ρ sv v):
    (Ty.ptr t).rd ρ.H (fun _=>some v) d:=by
  unfold jp5 at h
  split at h
  · split at h
    · rename_i x hc;simp at h;obtain⟨rfl,rfl⟩:=h;obtain⟨e,rfl⟩:=jl hc;subst e;simp only[SV.den] at hv;exact zb rfl hv
    · cases h
  · split at h
    · rename_i x hc;simp at h;obtain⟨rfl,rfl⟩:=h;obtain⟨e,rfl⟩:=jl hc;subst e;simp only[SV.den] at hv;obtain⟨b,off,c,rfl,e1,e2⟩:=hv;exact⟨_,rfl,b,off,c,rfl,e1,e2⟩
    · cases h
  · rename_i o off
    split at h
    case h_2=>cases h
    rename_i T f cs ho
    split at h
    case h_2=>cases h
    rename_i x rest f' hd;simp at h;obtain⟨rfl,rfl⟩:=h;have hτ:τ.obj o=some (.box T true cs):=(by rw[(hF o).2 (hs o (by simp)),ho];rfl);obtain⟨p,hp,hs2⟩:=hS.obs o _ hτ;simp only[j9,fzH] at hs2;obtain⟨b,C,vs,rfl,k1,k2,k3,k4⟩:=hs2;simp only[SV.den] at hv;obtain⟨b',C',e1,rfl⟩:=hv _ hp;simp at e1;obtain⟨rfl,rfl⟩:=e1;have hdl:=jbm off cs _ k2;obtain⟨us,r,e2,hu,_,hx⟩:=ih hd (fun o ho=>hs o (by simp[ho])) hdl;refine⟨_,rfl,b,off,vs,rfl,k4,t.rd_congr _ _ _ (fun j hj=> ?_) hx⟩;have e3:(vs.toList.drop off)[j]? =us[j]? :=(by rw[e2,jG4 (by omega)]);rw[←e3,jHw];simp
  · split at h
    · rename_i hn;simp at h;obtain⟨rfl,rfl⟩:=h;simp only[SV.den] at hv;subst hv;rw[jzG hn];exact⟨none,rfl,rfl⟩
    · cases h
  · cases h
theorem jd9 {P:Program} {B:zF} {σ τ:St} {ρ:Env} {w:World} (hS:Sat P B ρ τ.obj w) {fz:List Nat} (hF:Frz σ τ fz):
    ∀(t:Ty) {cs rest:List SV} {d:t.Data} {fz':List Nat},wB σ t cs=some (d,rest,fz')→(∀o,o∈fz'→o∈fz)→∀{vs:List Value},SV.denL P ρ cs vs→
      ∃us r,vs=us++r∧us.length=t.size∧SV.denL P ρ rest r∧t.rd ρ.H (fun i=>us[i]?) d:=by
  have scalar:∀(t:Ty),t.agg=false→∀{c:SV} {r:List SV} {x:t.Data} {f:List Nat},jlI σ t c=some (x,f)→
      (∀o,o∈f→o∈fz)→∀{vs:List Value},SV.denL P ρ (c::r) vs→∃us r',vs=us++r'∧us.length=t.size∧SV.denL P ρ r r'∧t.rd ρ.H (fun i=>us[i]?) x:=by
    intro t ht c r x f hc hs vs hv;simp only[SV.denL] at hv;obtain⟨v,r',rfl,h1,h2⟩:=hv;have h3:=jhd hS hF ht hc hs h1;exact⟨[v],r',rfl,by cases t<;>simp_all [Ty.size,Ty.agg],h2,vV (f:=fun _=>some v) ht rfl h3⟩
  intro t
  induction t with
  |unit=>
    intro cs rest d fz' h _ vs hv;simp only[wB,Option.some.injEq,Prod.mk.injEq] at h;obtain⟨_,rfl,rfl⟩:=h;exact⟨[],vs,rfl,rfl,hv,trivial⟩
  |pair a b iha ihb=>
    intro cs rest d fz' h hs vs hv;simp only[wB] at h
    split at h
    · rename_i x r f ha
      split at h
      · rename_i y r' f' hb;simp at h;obtain⟨rfl,rfl,rfl⟩:=h;obtain⟨us,vr,rfl,hu,hr,hx⟩:=iha ha (fun o ho=>hs o (jGR _ ho)) hv;obtain⟨us',vr',rfl,hu',hr',hy⟩:=ihb hb (fun o ho=>hs o (jGQ _ ho)) hr;refine⟨us++us',vr',by simp,by simp[Ty.size,hu,hu'],hr',?_,?_⟩
        · exact a.rd_congr _ _ _ (fun i hi=>by rw[jG4 (by omega)]) hx
        · refine b.rd_congr _ _ _ (fun i hi=> ?_) hy;simp only;rw[jG3 (by omega)];congr 1;omega
      · cases h
    · cases h
  |int=>
    intro cs rest d fz' h hs vs hv;cases cs with
    |nil=>simp[wB] at h
    |cons c r=>
      simp only[wB] at h
      split at h
      · rename_i x f hc;simp at h;obtain⟨rfl,rfl,rfl⟩:=h;exact scalar .int rfl hc hs hv
      · cases h
  |bool=>
    intro cs rest d fz' h hs vs hv;cases cs with
    |nil=>simp[wB] at h
    |cons c r=>
      simp only[wB] at h
      split at h
      · rename_i x f hc;simp at h;obtain⟨rfl,rfl,rfl⟩:=h;exact scalar .bool rfl hc hs hv
      · cases h
  |uint k=>
    intro cs rest d fz' h hs vs hv;cases cs with
    |nil=>simp[wB] at h
    |cons c r=>
      simp only[wB] at h
      split at h
      · rename_i x f hc;simp at h;obtain⟨rfl,rfl,rfl⟩:=h;exact scalar (.uint k) rfl hc hs hv
      · cases h
  |slice t _=>
    intro cs rest d fz' h hs vs hv;cases cs with
    |nil=>simp[wB] at h
    |cons c r=>
      simp only[wB] at h
      split at h
      · rename_i x f hc;simp at h;obtain⟨rfl,rfl,rfl⟩:=h;exact scalar (.slice t) rfl hc hs hv
      · cases h
  |map k u _ _=>
    intro cs rest d fz' h hs vs hv;cases cs with
    |nil=>simp[wB] at h
    |cons c r=>
      simp only[wB] at h
      split at h
      · rename_i x f hc;simp at h;obtain⟨rfl,rfl,rfl⟩:=h;exact scalar (.map k u) rfl hc hs hv
      · cases h
  |ptr t ih=>
    intro cs rest d fz' h hs vs hv;cases cs with
    |nil=>simp[wB] at h
    |cons c r=>
      simp only[wB] at h
      split at h
      · rename_i x f hc;simp at h;obtain⟨rfl,rfl,rfl⟩:=h;simp only[SV.denL] at hv;obtain⟨v,r',rfl,h1,h2⟩:=hv;have h3:=jhu hS hF ih hc hs h1;exact⟨[v],r',rfl,rfl,h2,vV (t:= .ptr t) (f:=fun _=>some v) rfl rfl h3⟩
      · cases h
theorem jjC {P:Program} {B:zF} {σ τ:St} {ρ:Env} {w:World} (hS:Sat P B ρ τ.obj w) {fz:List Nat} (hF:Frz σ τ fz)
    {t:Ty} (ht:t.agg=false) {sv:SV} {d:t.Data} {fz':List Nat} (h:jvx σ t sv=some (d,fz')) (hs:∀o,o∈fz'→o∈fz) {v:Value} (hv:SV.den P ρ sv v):
    t.rd ρ.H (fun _=>some v) d:=by
  unfold jvx at h
  split at h
  · rename_i t;exact jhu hS hF (fun hd hs'=>jd9 hS hF t hd hs') h hs hv
  · exact jhd hS hF ht h hs hv
theorem jM {P:Program} {B:zF} {σ τ:St} {ρ:Env} {w:World} (hS:Sat P B ρ τ.obj w) {fz:List Nat} (hF:Frz σ τ fz)
    {t:Ty} {sv:SV} {d:t.Data} {fz':List Nat} (h:qH σ t sv=some (d,fz')) (hs:∀o,o∈fz'→o∈fz) {v:Value} (hv:SV.den P ρ sv v):t.rv ρ.H v d:=by
  unfold qH at h
  split at h
  · rename_i t' d'
    split at h
    · rename_i x hc;simp at h;obtain⟨rfl,rfl⟩:=h;obtain⟨e,rfl⟩:=jl hc;rw[jCE];simpa[SV.den] using hv
    · cases h
  · rename_i cs
    split at h
    · rename_i x f hd
      split at h
      · rename_i ha;simp at h;obtain⟨rfl,rfl⟩:=h;simp only[SV.den] at hv;obtain⟨vs,rfl,hv,_⟩:=hv;obtain⟨us,r,e,hu,hr,hx⟩:=jd9 hS hF t hd hs hv;simp only[SV.denL] at hr;subst hr;simp at e;refine⟨by simp[kJ,ha],by simp only[Value.cells];rw[←hu,←e];simp,t.rd_congr _ _ _ (fun i _=> ?_) hx⟩;simp only[Value.cells];rw[←e];simp
      · cases h
    · cases h
  · split at h
    · cases h
    · rename_i ha;exact kl ha (jjC hS hF ha h hs hv)
def jzc (H:Imm) (t:Ty) (v:Value) (d:t.Data):Prop:=
  ∃b off c,v= .pointer (some ⟨b,off,none⟩)∧H b=some (.cells c)∧t.rd H (fun j=>c[off+j]?) d
def jDY (P:Program) (H:Imm):(p:Par)→Value→p.Data→Prop
  | .val t,v,d=>t.rv H v d
  | .ref t,v,d=>jzc H t v d
  | .fn ps rs,v,d=>FnV P H ps rs d.pre d.F v
  | .rfn ps rs,v,d=>∃b u,v= .pointer (some ⟨b,0,none⟩)∧H b=some (.cells #[u])∧FnV P H ps rs d.pre d.F u
def pvs (P:Program) (H:Imm):(ps:List Par)→List Value→PD ps→Prop
  |[],vs,_=>vs=[]
  |p::ps,v::vs,d=>jDY P H p v d.1∧pvs P H ps vs d.2
  |_::_,[],_=>False
structure ze (P:Program) (f:Nat) (s:jW):Prop where
  enters:enters P f
  calls:∀H w vals d,jcY H w→pvs P H s.ps vals d→kR (s.pre d)→Calls P f vals.toArray w (jDn H w s.rs (s.F d))
theorem jzc.mono {H H':Imm} (hH:∀b c,H b=some c→H' b=some c) {t:Ty} {v:Value} {d:t.Data} (h:jzc H t v d):jzc H' t v d:=by
  obtain⟨b,off,c,e1,e2,e3⟩:=h;exact⟨b,off,c,e1,hH _ _ e2,t.rd_mono hH _ _ e3⟩
theorem jDY.mono {P:Program} {H H':Imm} (hH:∀b c,H b=some c→H' b=some c):∀{p:Par} {v:Value} {d:p.Data},jDY P H p v d→jDY P H' p v d
  | .val _,_,_,h=>Ty.rv_mono hH h
  | .ref _,_,_,h=>jzc.mono hH h
  | .fn _ _,_,_,h=>FnV.mono hH h
  | .rfn _ _,_,_,h=>by
    obtain⟨b,u,e1,e2,e3⟩:=h
    exact⟨b,u,e1,hH _ _ e2,FnV.mono hH e3⟩
theorem pvs.mono {P:Program} {H H':Imm} (hH:∀b c,H b=some c→H' b=some c):∀{ps:List Par} {vs:List Value} {d:PD ps},pvs P H ps vs d→pvs P H' ps vs d
  |[],_,_,h=>h
  |_::_,_::_,_,h=>⟨jDY.mono hH h.1,pvs.mono hH h.2⟩
  |_::_,[],_,h=>h
theorem jbG {P:Program} {B:zF} {σ τ:St} {ρ:Env} {w:World} (hS:Sat P B ρ τ.obj w) {fz:List Nat} (hF:Frz σ τ fz)
    {t:Ty} {sv:SV} {d:t.Data} {fz':List Nat} (h:jtE σ t sv=some (d,fz')) (hs:∀o,o∈fz'→o∈fz) {v:Value} (hv:SV.den P ρ sv v):jzc ρ.H t v d:=by
  unfold jtE at h
  split at h
  · rename_i t' d'
    split at h
    · rename_i x hc;simp at h;obtain⟨rfl,rfl⟩:=h;obtain⟨e,rfl⟩:=jl hc;subst e;simpa[SV.den,jzc,qU] using hv
    · cases h
  · rename_i o off
    split at h
    · rename_i T f cs hx
      split at h
      · rename_i x r f' hd;simp at h;obtain⟨rfl,rfl⟩:=h;have hτ:τ.obj o=some (.box T true cs):=(by rw[(hF o).2 (hs o (by simp)),hx];rfl);obtain⟨p,hp,b,C,vs,rfl,hw,hdl,_,hH⟩:=hS.obs o _ hτ;simp only[SV.den] at hv;obtain⟨b',C',e,rfl⟩:=hv _ hp;simp at e;obtain⟨rfl,rfl⟩:=e;obtain⟨us,r',e,hu,_,hx⟩:=jd9 hS hF t hd (fun o ho=>hs o (by simp[ho])) (jbm off cs _ hdl);refine⟨b,off,vs,rfl,by simpa[fzH] using hH,t.rd_congr _ _ _ (fun i hi=> ?_) hx⟩;have:vs[off+i]? =(vs.toList.drop off)[i]? :=(by simp);rw[this,e,jG4 (by omega)]
      · cases h
    · cases h
  · rename_i t' d'
    split at h
    case h_2=>cases h
    rename_i y
    split at h
    · rename_i x hc;simp at h;obtain⟨rfl,rfl⟩:=h;obtain⟨e,rfl⟩:=jl hc;subst e;simp only[SV.den] at hv;obtain⟨p,h1,b,off,blk,rfl,e1,e2⟩:=zb (t:= .ptr t') rfl hv;simp at h1;subst h1;exact⟨b,off,blk,rfl,e1,e2⟩
    · cases h
  · cases h
theorem jbw {P:Program} {B:zF} {σ τ:St} {ρ:Env} {w:World} (hS:Sat P B ρ τ.obj w) {fz:List Nat} (hF:Frz σ τ fz):
    ∀{ps:List Ty} {svs:List SV} {d:(Ty.st ps).Data} {fz':List Nat},jrb σ ps svs=some (d,fz')→(∀o,o∈fz'→o∈fz)→∀{vs:List Value},SV.denL P ρ svs vs→rvs ρ.H ps vs d
  |[],[],d,fz',h,_,vs,hv=>by simpa[SV.denL,rvs] using hv
  |[],_::_,d,fz',h,_,vs,hv=>by simp[jrb] at h
  |_::_,[],d,fz',h,_,vs,hv=>by simp[jrb] at h
  |t::ps,sv::svs,d,fz',h,hs,vs,hv=>by
    simp only[jrb] at h
    split at h
    · rename_i x f hx
      split at h
      · rename_i xs f' hr
        simp at h
        obtain⟨rfl,rfl⟩:=h
        simp only[SV.denL] at hv
        obtain⟨v,r,rfl,h1,h2⟩:=hv
        exact⟨jM hS hF hx (fun o ho=>hs o (jGR _ ho)) h1,jbw hS hF hr (fun o ho=>hs o (jGQ _ ho)) h2⟩
      · cases h
    · cases h
theorem jfg {P:Program} {H:Imm}:∀{ps:List Ty} {qs:List Par} {rest:List Par} {k:(Ty.st ps).Data→PD rest→PD qs},gY ps qs=some ⟨rest,k⟩→
    ∀{vs us:List Value} {x:(Ty.st ps).Data} {y:PD rest},rvs H ps vs x→pvs P H rest us y→pvs P H qs (vs++us) (k x y)
  |[],qs,rest,k,h,vs,us,x,y,hv,hu=>by
    simp only[gY,Option.some.injEq,Sigma.mk.injEq] at h
    obtain⟨rfl,h⟩:=h
    have:=eq_of_heq h
    subst this
    simp only[rvs] at hv
    subst hv
    exact hu
  |_::_,[],rest,k,h,_,_,_,_,_,_=>by simp[gY] at h
  |_::_,.ref _::_,rest,k,h,_,_,_,_,_,_=>by simp[gY] at h
  |_::_,.fn _ _::_,rest,k,h,_,_,_,_,_,_=>by simp[gY] at h
  |t::ps,.val u::qs,rest,k,h,vs,us,x,y,hv,hu=>by
    simp only[gY] at h
    split at h
    · rename_i e
      subst e
      split at h
      · rename_i rest' k' hr
        simp only[Option.some.injEq,Sigma.mk.injEq] at h
        obtain⟨rfl,h⟩:=h
        have:=eq_of_heq h
        subst this
        cases vs with
        |nil=>exact hv.elim
        |cons v vs=>exact⟨hv.1,jfg hr hv.2 hu⟩
      · cases h
    · cases h
end Go.X
namespace Go.X
open Go.RowKit (Below)
def yB (t:Ty) (a:t.Data):List t.Data→List MapEntry→Nat→Option (Nat×Value)
  |k::ks,e::es,i=>if @decide (a=k) (t.decEq a k)=true then some (i,e.val) else yB t a ks es (i+1)
  |_,_,_=>none
def jpz (H:Imm) (t:Ty):List MapEntry→List t.Data→Prop
  |[],[]=>True
  |e::es,k::ks=>t.rv H e.key k∧jpz H t es ks
  |_,_=>False
structure TI.ok (P:Program) (ti:TI):Prop where
  info:∃i z,P.info? ti.id=some i∧i.size=ti.size∧i.bytes=ti.bytes∧i.zero=some z∧z.cells.toList=ti.zero∧kJ z=ti.agg
  one:∀v∈ti.zero,v.oneCell'=true
  zlen:ti.zero.length=ti.size
  str:ti.agg=true→ti.arr=false→∃fs,P.underlying ti.id=some (.struct fs)∧fs.size=ti.fields.length∧∀(k:Nat) (p:Nat×Nat),ti.fields[k]? =some p→∃f:Field,fs[k]? =some f∧f.offset=p.1∧f.type=p.2
  arrk:ti.arr=true→ti.agg=true∧∃n ie,P.underlying ti.id=some (.array n ti.elem)∧P.info? ti.elem=some ie∧ie.size=1∧ti.fields.length=n∧ti.size=n∧n≤1000000∧∀(k:Nat) (p:Nat×Nat),ti.fields[k]? =some p→p=(k,ti.elem)
  fok:∀(k:Nat) (p:Nat×Nat),ti.fields[k]? =some p→∃i,P.info? p.2=some i
  flat:ti.agg=false→∃d,P.underlying ti.id=some d∧(∀fs,d≠.struct fs)∧(∀n e,d≠.array n e)∧(∀ms,d≠.interface ms)∧(ti.sl=true→d= .slice ti.elem)∧(ti.ty= .int→d= .int .i64)∧(∀k,ti.ty= .uint k→d= .int k)
  slf:ti.sl=true→ti.agg=false
  ptf:ti.pt=true→∃e,P.underlying ti.id=some (.pointer e)
  fkf:ti.fk=true→∃a b c,P.underlying ti.id=some (.func a b c)
  mpf:ti.mp=true→P.underlying ti.id=some (.map ti.key ti.elem)
  zd:zW ti.ty=true→∀H:Imm,ti.ty.rd H (fun i=>ti.zero[i]?) ti.ty.dflt
  keyq:ti.kq=true→(∀(H:Imm) (x:Value) (a:ti.ty.Data) (w:World) (e:Bool),ti.ty.rv H x a→(Instr.checkKey e 10000 ti.id x).run P w= .ok () w)∧
    (∀(H:Imm) (es:List MapEntry) (ks:List ti.ty.Data) (x:Value) (a:ti.ty.Data) (w:World),ti.ty.rv H x a→jpz H ti.ty es ks→(Instr.findKey ti.id x es).run P w= .ok (yB ti.ty a ks es 0) w)∧
    (∀(H:Imm) (x y:Value) (a:ti.ty.Data),ti.ty.rv H x a→ti.ty.rv H y a→Instr.sameBits 10000 x y=true)
  flf:ti.agg=false→ti.fields=[]
  known:zW ti.ty=true→ti.ty.agg=ti.agg∧ti.ty.size=ti.size
  pos:zW ti.ty=true→0<ti.size∧0<ti.bytes
  eqs:ti.cmp=true→∀(H:Imm) (x y:Value) (a b:ti.ty.Data) (w:World),ti.ty.rv H x a→ti.ty.rv H y b→
    ∀op (X Y:Operand),(op= .eql∨op= .neq)→(do eqGuard op ti.id X Y x y;binOp op ti.id x y:Sem Value).run P w= .ok (.bool (match op with| .eql=> @decide (a=b) (ti.ty.decEq a b)|_=> !(@decide (a=b) (ti.ty.decEq a b)))) w
theorem jsI {ti:TI} {f:Nat} {p:Nat×Nat} (h:ti.flds[f]? =some p):ti.fields[f]? =some p∧ti.arr=false:=by
  unfold TI.flds at h;cases hr:ti.arr with
  |true=>rw[hr] at h;simp at h
  |false=>rw[hr] at h;exact⟨h,rfl⟩
def jz (P:Program) (B:zF) (ρ:Env) (σ:St) (out:Out) (v:Value) (w':World):Prop:=
  ∃ρ',Sat P B ρ' ({σ with ob:=out.wr++(q6 σ out.fz++σ.ob)}:St).obj w'∧ρ.le ρ' out.nw∧SV.den P ρ' out.sv v∧kR out.fact
def kz (obj:Nat→Option Ob) (d:Nat):Prop:=∀o T fz cs,obj o=some (.box T fz cs)→SV.refs.refsL d cs=false
structure Ctx.ok (P:Program) (C:Ctx):Prop where
  ti:∀T x,C.info T=some x→x.id=T∧x.ok P
  fs:∀f s,C.spec f=some s→s.own=false→ze P f s
  str:∀T,jaH C.strs T=true→P.underlying T=some .string
  lit:C.lit=false
  eff:∀f dst σ svs out,C.eff f dst σ svs=some out→enters P f∧∀B ρ w vals,Sat P B ρ σ.obj w→SV.denL P ρ svs vals→kR out.vc→σ.obj dst=none→kz σ.obj dst→
    Calls P f vals.toArray w (fun e w'=>∃v,e= .returned v∧jz P B ρ σ out v w')
def jC (P:Program) (o:Oper) (ev:Operand→Value) (w:World) (R:Value→World→Prop):Prop:=
  match(execOp ev o).run P w with
  | .ok (.value v) w'=>R v w'
  | .ok .skip w'=>R undef w'
  | .ok (.enter f args) w'=>Calls P f args w' (fun e w''=>∃v,e= .returned v∧R v w'')
  |_=>False
theorem jC.wp {P:Program} {o:Oper} {a:Act} {w:World} {R:Value→World→Prop} {next:Act→World→Prop} {Q:Exit→Act→World→Prop}
    (h:jC P o a.eval w R) (k:∀v w',R v w'→next (a.put o.dst v) w'):o.wp P a w next Q:=by
  unfold jC at h;unfold Oper.wp;generalize (execOp a.eval o).run P w=r at*;cases r with
  |halt x w'=>exact h.elim
  |ok n w'=>
    cases n<;>simp only[Oper.upon] at h⊢
    case value v=>exact k _ _ h
    case skip=>exact k _ _ h
    case enter f args=>exact h.mono fun e w'' he=>by obtain⟨v,rfl,hR⟩:=he;exact k _ _ hR
    all_goals exact h.elim
theorem jC.mono {P:Program} {o:Oper} {ev:Operand→Value} {w:World} {R R':Value→World→Prop} (h:jC P o ev w R) (k:∀v w',R v w'→R' v w'):jC P o ev w R':=by
  unfold jC at*;generalize (execOp ev o).run P w=r at*;cases r with
  |halt x w'=>exact h.elim
  |ok n w'=>
    cases n<;>simp only at h⊢
    case value v=>exact k _ _ h
    case skip=>exact k _ _ h
    case enter f args=>exact h.mono fun e w'' he=>by obtain⟨v,rfl,hR⟩:=he;exact⟨v,rfl,k _ _ hR⟩
section
variable {P:Program} {B:zF} {C:Ctx} {σ:St} {ρ:Env} {w:World} {o:Oper} {ev:Operand→Value} {out:Out}
theorem zK (hS:Sat P B ρ σ.obj w) {sv:SV} {vc fact:List Prop} {v:Value} (hd:SV.den P ρ sv v) (hf:kR fact):jz P B ρ σ ⟨vc,fact,sv,[],[],[]⟩ v w:=
  ⟨ρ,hS,Env.le.refl _ _,hd,hf⟩
theorem j6 {R:Value→World→Prop} {v:Value} {w':World} (h:(execOp ev o).run P w= .ok (.value v) w') (k:R v w'):jC P o ev w R:=by
  unfold jC;rw[h];exact k
theorem qP {ti:TI} (h:ti.ok P):∃i z,(∀w,(typeInfo ti.id).run P w= .ok i w)∧i.size=ti.size∧i.bytes=ti.bytes∧(∀w,(sizeOf ti.id).run P w= .ok ti.size w)∧
    (∀w,(zeroValue ti.id).run P w= .ok z w)∧z.cells.toList=ti.zero∧kJ z=ti.agg:=by
  obtain⟨i,z,h1,h2,h3,h4,h5,h6⟩:=h.info;have e:∀w,(typeInfo ti.id).run P w= .ok i w:=fun w=>by simp[typeInfo,h1]
  exact⟨i,z,e,h2,h3,fun w=>by simp[sizeOf,e,h2],fun w=>by simp[zeroValue,e,h4],h5,h6⟩
theorem jrH {ti:TI} (h:ti.ok P):∀w,(isAgg ti.id).run P w= .ok ti.agg w:=fun w=>by
  cases ha:ti.agg with
  |true=>
    cases hr:ti.arr with
    |false=>obtain⟨fs,h1,_⟩:=h.str ha hr;simp[isAgg,run_underlying h1]
    |true=>obtain⟨_,n,ie,h1,_⟩:=h.arrk hr;simp[isAgg,run_underlying h1]
  |false=>
    obtain⟨d,h1,h2,h3,_,_⟩:=h.flat ha
    simp only[isAgg,Sem.run_bind,run_underlying h1,Result.andThen_ok]
    cases d<;>simp_all
theorem w9 {H:Imm} (n:Int):Ty.int.rv H (.int .i64 n) n:=⟨rfl,rfl,rfl⟩
theorem w5 {H:Imm} (b:Bool):Ty.bool.rv H (.bool b) b:=⟨rfl,rfl,rfl⟩
theorem jlY {H:Imm} (k:IntKind) (n:Int):(Ty.uint k).rv H (.int k n) n:=⟨rfl,rfl,rfl⟩
theorem zl {H:Imm} {v:Value} {n:Int} (h:Ty.int.rv H v n):v= .int .i64 n:=by
  have:=zb (t:= .int) rfl h;simpa[Ty.rd] using this
theorem zG {H:Imm} {v:Value} {n:Bool} (h:Ty.bool.rv H v n):v= .bool n:=by
  have:=zb (t:= .bool) rfl h;simpa[Ty.rd] using this
theorem wR {H:Imm} {k:IntKind} {v:Value} {n:Int} (h:(Ty.uint k).rv H v n):v= .int k n:=by
  have:=zb (t:= .uint k) rfl h;simpa[Ty.rd] using this
theorem jm9 (v:Value):SV.den P ρ (jn6 v) v:=by
  cases v with
  |int k n=>cases k<;>simp only[jn6,SV.den]<;>first|exact w9 n|exact jlY _ n
  |bool b=>exact w5 b
  |_=>simp[jn6,SV.den]
theorem jK {a:Act} (hsl:jih P ρ σ.sl a) (x:Operand):SV.den P ρ (jL σ x) (a.eval x):=by
  cases x with
  |tmp t=>
    simp only[jL,St.get,Act.eval]
    split
    · rename_i sv h;exact hsl t sv h
    · simp[SV.den]
  |const v=>exact jm9 v
  |global g=>simp[jL,Act.eval,SV.den]
  |func f=>simp[jL,Act.eval,SV.den,SV.denL]
theorem qt {n:Int} (h:jx n):IntKind.i64.wrap n=n:=by
  rw[IntKind.wrap_i64];unfold jx at h;omega
theorem jj3 {op:BinOp} {x y:Int} {U:Nat} {X Y:Operand} {out:Out} (h:jpt op x y=some out) (hvc:kR out.vc)
    (hS:Sat P B ρ σ.obj w):
    ∃v,(do eqGuard op U X Y (.int .i64 x) (.int .i64 y);binOp op U (.int .i64 x) (.int .i64 y):Sem Value).run P w= .ok v w∧jz P B ρ σ out v w:=by
  have nog:(eqGuard op U X Y (.int .i64 x) (.int .i64 y)).run P w= .ok () w:=by
    unfold eqGuard;cases op<;>simp
  have done:∀(n:Int) (vc:List Prop),(binOp op U (.int .i64 x) (.int .i64 y)).run P w= .ok (.int .i64 n) w→
      ∃v,(do eqGuard op U X Y (.int .i64 x) (.int .i64 y);binOp op U (.int .i64 x) (.int .i64 y):Sem Value).run P w= .ok v w∧jz P B ρ σ ⟨vc,[],.dat .int n,[],[],[]⟩ v w:=
    fun n vc hr=>⟨_,by simp[nog,hr],zK hS (w9 n) trivial⟩
  have doneB:∀(b:Bool),(binOp op U (.int .i64 x) (.int .i64 y)).run P w= .ok (.bool b) w→
      ∃v,(do eqGuard op U X Y (.int .i64 x) (.int .i64 y);binOp op U (.int .i64 x) (.int .i64 y):Sem Value).run P w= .ok v w∧jz P B ρ σ ⟨[],[],.dat .bool b,[],[],[]⟩ v w:=
    fun b hr=>⟨_,by simp[nog,hr],zK hS (w5 b) trivial⟩
  cases op<;>simp only[jpt,Out.pure,Option.some.injEq] at h<;>subst h<;>simp only[kR] at hvc
  case add=>exact done _ _ (by simp[binOp,Op.intArith,qt hvc.1])
  case sub=>exact done _ _ (by simp[binOp,Op.intArith,qt hvc.1])
  case mul=>exact done _ _ (by simp[binOp,Op.intArith,qt hvc.1])
  case quo=>exact done _ _ (by simp[binOp,Op.intDiv,hvc.1,qt hvc.2.1])
  case rem=>exact done _ _ (by simp[binOp,Op.intDiv,hvc.1])
  case and=>exact done _ _ rfl
  case or=>exact done _ _ rfl
  case xor=>exact done _ _ rfl
  case andNot=>exact done _ _ rfl
  case shl=>
    refine done _ _ ?_;have h0:¬y<0:=(by omega);have h1:min y.toNat 64=y.toNat:=(by omega);simp only[binOp,Op.shift,h0,if_false,IntKind.bits,h1];simp[qt hvc.2.2.1]
  case shr=>
    refine done _ _ ?_;have h0:¬y<0:=(by omega);have h1:min y.toNat 64=y.toNat:=(by omega);simp only[binOp,Op.shift,h0,if_false,IntKind.bits,h1];have h2:(0:Int)≤2^y.toNat:=Int.le_of_lt (Int.pow_pos (by omega));rw[Int.fdiv_eq_ediv_of_nonneg _ h2];simp
  case eql=>exact doneB _ (by simp only[binOp,Op.intCmp,ne_eq,not_true_eq_false,if_false,Sem.run_pure];congr 2)
  case neq=>exact doneB _ (by simp only[binOp,Op.intCmp,ne_eq,not_true_eq_false,if_false,Sem.run_pure];congr 2;by_cases e:x=y<;>simp[bne,e])
  case lss=>exact doneB _ (by simp[binOp,Op.intCmp])
  case leq=>exact doneB _ (by simp[binOp,Op.intCmp])
  case gtr=>exact doneB _ (by simp[binOp,Op.intCmp])
  case geq=>exact doneB _ (by simp[binOp,Op.intCmp])
theorem jby {n:Int} (h:0≤n∧n≤18446744073709551615):IntKind.u64.wrap n=n:=by
  simp[IntKind.wrap,IntKind.bits,IntKind.signed];omega
theorem jps {op:BinOp} {x y:Int} {U:Nat} {X Y:Operand} {out:Out} (h:jE9 op x y=some out) (hvc:kR out.vc)
    (hS:Sat P B ρ σ.obj w):
    ∃v,(do eqGuard op U X Y (.int .u64 x) (.int .u64 y);binOp op U (.int .u64 x) (.int .u64 y):Sem Value).run P w= .ok v w∧jz P B ρ σ out v w:=by
  have nog:(eqGuard op U X Y (.int .u64 x) (.int .u64 y)).run P w= .ok () w:=by
    unfold eqGuard;cases op<;>simp
  have done:∀(n:Int) (vc:List Prop),(binOp op U (.int .u64 x) (.int .u64 y)).run P w= .ok (.int .u64 n) w→
      ∃v,(do eqGuard op U X Y (.int .u64 x) (.int .u64 y);binOp op U (.int .u64 x) (.int .u64 y):Sem Value).run P w= .ok v w∧jz P B ρ σ ⟨vc,[],.dat (.uint .u64) n,[],[],[]⟩ v w:=
    fun n vc hr=>⟨_,by simp[nog,hr],zK hS (jlY _ n) trivial⟩
  have doneB:∀(b:Bool),(binOp op U (.int .u64 x) (.int .u64 y)).run P w= .ok (.bool b) w→
      ∃v,(do eqGuard op U X Y (.int .u64 x) (.int .u64 y);binOp op U (.int .u64 x) (.int .u64 y):Sem Value).run P w= .ok v w∧jz P B ρ σ ⟨[],[],.dat .bool b,[],[],[]⟩ v w:=
    fun b hr=>⟨_,by simp[nog,hr],zK hS (w5 b) trivial⟩
  cases op<;>simp only[jE9,Out.pure,Option.some.injEq,reduceCtorEq] at h<;>subst h<;>simp only[kR] at hvc
  case add=>exact done _ _ (by simp[binOp,Op.intArith,jby ⟨hvc.1,hvc.2.1⟩])
  case sub=>exact done _ _ (by simp[binOp,Op.intArith,jby ⟨hvc.1,hvc.2.1⟩])
  case mul=>exact done _ _ (by simp[binOp,Op.intArith,jby ⟨hvc.1,hvc.2.1⟩])
  case and=>exact done _ _ rfl
  case or=>exact done _ _ rfl
  case shl=>
    refine done _ _ ?_;have h0:¬y<0:=(by omega);have h1:min y.toNat 64=y.toNat:=(by omega);simp[binOp,Op.shift,h0,IntKind.bits,h1,jby ⟨hvc.2.2.1,hvc.2.2.2.1⟩]
  case shr=>
    refine done _ _ ?_;have h0:¬y<0:=(by omega);have h1:min y.toNat 64=y.toNat:=(by omega);simp only[binOp,Op.shift,h0,if_false,IntKind.bits,h1];have h2:(0:Int)≤2^y.toNat:=Int.le_of_lt (Int.pow_pos (by omega));rw[Int.fdiv_eq_ediv_of_nonneg _ h2];simp
  case eql=>exact doneB _ (by simp only[binOp,Op.intCmp,ne_eq,not_true_eq_false,if_false,Sem.run_pure];congr 2)
  case neq=>exact doneB _ (by simp only[binOp,Op.intCmp,ne_eq,not_true_eq_false,if_false,Sem.run_pure];congr 2;by_cases e:x=y<;>simp[bne,e])
  case lss=>exact doneB _ (by simp[binOp,Op.intCmp])
  case leq=>exact doneB _ (by simp[binOp,Op.intCmp])
  case gtr=>exact doneB _ (by simp[binOp,Op.intCmp])
  case geq=>exact doneB _ (by simp[binOp,Op.intCmp])
end
end Go.X
namespace Go.X
open Go.RowKit (Below)
theorem qW (b off n:Nat):(⟨b,off,none⟩:Addr).add n=⟨b,off+n,none⟩:=by
  unfold Addr.add
  split
  · rename_i h;subst h;rfl
  · rfl
theorem jng {w:World} {b off:Nat} {vs:Array Value} {T:Nat} {fr:Nat×Nat} (h:w.heap[b]? =some (.cells vs T fr)):w.cell? ⟨b,off,none⟩=vs[off]? :=by
  simp[World.cell?,h]
theorem gn {H:Imm}:∀(t:Ty) (f:Nat→Option Value) (d:t.Data),t.rd H f d→∀j,j<t.size→∃v,f j=some v∧v.oneCell'=true
  | .int,f,_,h,j,hj=>by
    have:j=0:=by simp[Ty.size] at hj;exact hj
    subst this;exact⟨_,h,rfl⟩
  | .bool,f,_,h,j,hj=>by
    have:j=0:=by simp[Ty.size] at hj;exact hj
    subst this;exact⟨_,h,rfl⟩
  | .uint _,f,_,h,j,hj=>by
    have:j=0:=by simp[Ty.size] at hj;exact hj
    subst this;exact⟨_,h,rfl⟩
  | .unit,_,_,_,j,hj=>by simp[Ty.size] at hj
  | .slice t,f,l,h,j,hj=>by
    have:j=0:=by simp[Ty.size] at hj;exact hj
    subst this
    obtain⟨a,n,c,e,_⟩:=h
    exact⟨_,e,rfl⟩
  | .map _ _,f,l,h,j,hj=>by
    have:j=0:=by simp[Ty.size] at hj;exact hj
    subst this
    obtain⟨p,e,_⟩:=h
    exact⟨_,e,rfl⟩
  | .ptr _,f,l,h,j,hj=>by
    have:j=0:=by simp[Ty.size] at hj;exact hj
    subst this
    obtain⟨p,e,_⟩:=h
    exact⟨_,e,rfl⟩
  | .pair a b,f,d,h,j,hj=>by
    by_cases hja:j<a.size
    · exact gn a f d.1 h.1 j hja
    · obtain⟨v,e1,e2⟩:=gn b _ d.2 h.2 (j-a.size) (by simp[Ty.size] at hj;omega)
      refine⟨v,?_,e2⟩
      rw[←e1];congr 1;omega
theorem jdk {H:Imm}:∀(a:Ty) (off:Nat) (t:Ty) (d:a.Data) (x:t.Data) (f:Nat→Option Value),a.sub off t d=some x→a.rd H f d→t.rd H (fun j=>f (off+j)) x:=by
  have leaf:∀(a:Ty) (off:Nat) (t:Ty) (d:a.Data) (x:t.Data) (f:Nat→Option Value),(if off=0 then zg a t d else none)=some x→a.rd H f d→t.rd H (fun j=>f (off+j)) x:=by
    intro a off t d x f h hr
    split at h
    · rename_i e;subst e;obtain⟨e,rfl⟩:=jl h;rw[jap];simpa using hr
    · cases h
  intro a
  induction a with
  |pair a b iha ihb=>
    intro off t d x f h hr;simp only[Ty.sub] at h
    split at h
    · rename_i e;obtain⟨rfl,_⟩:=e;obtain⟨e,rfl⟩:=jl h;rw[jap];simpa using hr
    · split at h
      · exact iha off t d.1 x f h hr.1
      · rename_i hlt;have:=ihb (off-a.size) t d.2 x _ h hr.2;refine t.rd_congr _ _ x (fun j _=> ?_) this;congr 1;omega
  |int=>intro off t d x f h hr;exact leaf .int off t d x f (by simpa[Ty.sub] using h) hr
  |bool=>intro off t d x f h hr;exact leaf .bool off t d x f (by simpa[Ty.sub] using h) hr
  |uint k=>intro off t d x f h hr;exact leaf (.uint k) off t d x f (by simpa[Ty.sub] using h) hr
  |unit=>intro off t d x f h hr;exact leaf .unit off t d x f (by simpa[Ty.sub] using h) hr
  |slice s _=>intro off t d x f h hr;exact leaf (.slice s) off t d x f (by simpa[Ty.sub] using h) hr
  |map k u _ _=>intro off t d x f h hr;exact leaf (.map k u) off t d x f (by simpa[Ty.sub] using h) hr
  |ptr s _=>intro off t d x f h hr;exact leaf (.ptr s) off t d x f (by simpa[Ty.sub] using h) hr
theorem jj1 {P:Program} {ρ:Env}:∀(t:Ty) (d:t.Data) (us:List Value),us.length=t.size→t.rd ρ.H (fun i=>us[i]?) d→SV.denL P ρ (jpm t d) us∧∀u∈us,u.oneCell'=true:=by
  have leaf:∀(t:Ty) (d:t.Data) (us:List Value),t.agg=false→us.length=t.size→t.rd ρ.H (fun i=>us[i]?) d→SV.denL P ρ [.dat t d] us∧∀u∈us,u.oneCell'=true:=by
    intro t d us ht hu h;have hs:t.size=1:=by cases t<;>simp_all [Ty.size,Ty.agg]
    rw[hs] at hu
    match us,hu with
    |[u],_=>
      have hr:t.rd ρ.H (fun _=>some u) d:=vV (f:=fun i=>[u][i]?) ht (by simp) h;obtain⟨v,e1,e2⟩:=gn t _ d hr 0 (by omega);simp at e1;subst e1;exact⟨by simp only[SV.denL];exact⟨u,[],rfl,kl ht hr,rfl⟩,fun x hx=>by simp at hx;subst hx;exact e2⟩
  intro t
  induction t with
  |unit=>intro d us hu _;simp[Ty.size] at hu;subst hu;exact⟨by simp[jpm,SV.denL],fun u hu=>by simp at hu⟩
  |pair a b iha ihb=>
    intro d us hu h;simp only[Ty.size] at hu;have e:us=us.take a.size++us.drop a.size:=(jH9 _ _).symm;obtain⟨h1,h2⟩:=iha d.1 (us.take a.size) (by simp;omega) (a.rd_congr _ _ _ (fun i hi=>by rw[jHd hi]) h.1);obtain⟨h3,h4⟩:=ihb d.2 (us.drop a.size) (by simp;omega) (b.rd_congr _ _ _ (fun i hi=>by rw[jHw]) h.2);refine⟨by rw[e];exact wM _ _ _ _ h1 h3,fun u hm=> ?_⟩;rw[e] at hm;rcases jG1.1 hm with hm|hm
    · exact h2 u hm
    · exact h4 u hm
  |int=>intro d us hu h;exact leaf .int d us rfl hu h
  |bool=>intro d us hu h;exact leaf .bool d us rfl hu h
  |uint k=>intro d us hu h;exact leaf (.uint k) d us rfl hu h
  |slice t _=>intro d us hu h;exact leaf (.slice t) d us rfl hu h
  |map k u _ _=>intro d us hu h;exact leaf (.map k u) d us rfl hu h
  |ptr t _=>intro d us hu h;exact leaf (.ptr t) d us rfl hu h
section
variable {P:Program} {B:zF} {C:Ctx} {σ:St} {ρ:Env} {w:World} {o:Oper} {ev:Operand→Value} {out:Out}
theorem jmv (hS:Sat P B ρ σ.obj w) {kt vt:Ty} {sv:SV} {l:List (kt.Data×vt.Data)} (h:jBZ σ kt vt sv=some l) {v:Value} (hv:SV.den P ρ sv v):
    (v= .map none∧l=[])∨∃b es clock,v= .map (some b)∧w.heap[b]? =some (.map es clock)∧jei ρ.H kt vt es clock l:=by
  unfold jBZ at h
  split at h
  · obtain⟨e,rfl⟩:=jl h;subst e;simp only[SV.den] at hv;obtain⟨p,h1,h2,h3⟩:=zb rfl hv;simp at h1;subst h1;cases p with
    |none=>exact .inl ⟨rfl,h2 rfl⟩
    |some b=>
      obtain⟨es,clock,e1,e2⟩:=h3 b rfl;exact .inr ⟨b,es,clock,rfl,hS.good.1 b _ e1,e2⟩
  · rename_i o
    split at h
    · rename_i fz kt' vt' l' ho;obtain⟨e,rfl⟩:=jl h;obtain⟨p,hp,hs⟩:=hS.obs o _ ho;simp only[j9] at hs;obtain⟨b,C,es,clock,rfl,k1,k2,k3⟩:=hs;simp only[SV.den] at hv;obtain⟨b',C',e1,rfl⟩:=hv _ hp;simp at e1;obtain⟨rfl,rfl⟩:=e1;have e1:kt'=kt:=(by injection e);have e2:vt'=vt:=(by injection e);subst e1;subst e2;exact .inr ⟨b,es,clock,rfl,k1,k2⟩
    · rename_i kt' vt' l' k s ho;obtain⟨e,rfl⟩:=jl h;obtain⟨p,hp,hs⟩:=hS.obs o _ ho;simp only[j9] at hs;obtain⟨b,C,es,clock,rfl,k1,k2,k3,_⟩:=hs;simp only[SV.den] at hv;obtain⟨b',C',e1,rfl⟩:=hv _ hp;simp at e1;obtain⟨rfl,rfl⟩:=e1;have e1:kt'=kt:=(by injection e);have e2:vt'=vt:=(by injection e);subst e1;subst e2;exact .inr ⟨b,es,clock,rfl,k1,k2⟩
    · cases h
  · split at h
    · rename_i hn;simp at h;subst h;simp only[SV.den] at hv;subst hv;exact .inl ⟨jC5 hn,rfl⟩
    · cases h
  · cases h
theorem jzS {o:Nat} (h:jo6 σ o=true):∃x,σ.obj o=some x:=by
  unfold jo6 at h
  split at h
  · exact⟨_,by assumption⟩
  · cases h
theorem wT (hS:Sat P B ρ σ.obj w) {o:Nat} (h:jo6 σ o=true):∃p,ρ.blk o=some p:=by
  obtain⟨x,hx⟩:=jzS h;obtain⟨p,hp,_⟩:=hS.obs o x hx;exact⟨p,hp⟩
theorem jgG (hS:Sat P B ρ σ.obj w) {sv:SV} {cs:List SV} (h:cells σ sv=some cs) {v:Value} (hv:SV.den P ρ sv v):
    SV.denL P ρ cs v.cells.toList∧∀u∈v.cells.toList,u.oneCell'=true:=by
  have one:∀(sv:SV),SV.den P ρ sv v→(∀vs,v≠.agg vs)→(∀vs,v≠.tuple vs)→SV.denL P ρ [sv] v.cells.toList∧∀u∈v.cells.toList,u.oneCell'=true:=by
    intro sv hd h1 h2;have e:v.cells= #[v]:=by cases v<;>simp_all [Value.cells]
    rw[e];refine⟨by simp only[SV.denL];exact⟨v,[],rfl,hd,rfl⟩,fun u hu=> ?_⟩;simp at hu;subst hu;cases u<;>simp_all [Value.oneCell']
  unfold cells at h
  split at h
  · cases h
  · cases h
  · cases h
  · simp at h;subst h;simp only[SV.den] at hv;obtain⟨vs,rfl,h1,h2⟩:=hv;exact⟨h1,h2⟩
  · rename_i t d;simp at h;subst h;simp only[SV.den] at hv;exact jj1 t d _ (by simpa using hv.2.1) (t.rd_congr _ _ _ (fun i _=>by simp) hv.2.2)
  · cases h
  · cases h
  · split at h
    · rename_i hl;simp at h;subst h;obtain⟨p,hp⟩:=wT hS hl;have hv':=hv;simp only[SV.den] at hv';obtain⟨b,C,_,rfl⟩:=hv' p hp;exact one _ hv (by simp) (by simp)
    · cases h
  · split at h
    · rename_i hl;simp at h;subst h;obtain⟨p,hp⟩:=wT hS hl;have hv':=hv;simp only[SV.den] at hv';have:=hv' p hp;cases p with
      |none=>obtain⟨rfl,_⟩:=this;exact one _ hv (by simp) (by simp)
      |some q=>obtain⟨rfl,_⟩:=this;exact one _ hv (by simp) (by simp)
    · cases h
  · split at h
    · rename_i hl;simp at h;subst h;obtain⟨p,hp⟩:=wT hS hl;have hv':=hv;simp only[SV.den] at hv';have:=hv' p hp;cases p with
      |none=>obtain⟨rfl,_⟩:=this;exact one _ hv (by simp) (by simp)
      |some q=>obtain⟨_,_,rfl,_⟩:=this;exact one _ hv (by simp) (by simp)
    · cases h
  · split at h
    · rename_i hl;simp at h;subst h;obtain⟨p,hp⟩:=wT hS hl;have hv':=hv;simp only[SV.den] at hv';obtain⟨_,_,_,_,rfl⟩:=hv' p hp;exact one _ hv (by simp) (by simp)
    · cases h
  · split at h
    · rename_i hl;simp at h;subst h;obtain⟨p,hp⟩:=wT hS hl;have hv':=hv;simp only[SV.den] at hv';obtain⟨_,_,_,rfl⟩:=hv' p hp;exact one _ hv (by simp) (by simp)
    · cases h
  · split at h
    · rename_i hl;simp at h;subst h;obtain⟨p,hp⟩:=wT hS hl;have hv':=hv;simp only[SV.den] at hv';obtain⟨_,_,_,rfl⟩:=hv' p hp;exact one _ hv (by simp) (by simp)
    · cases h
  · split at h
    · rename_i hl;simp at h;subst h;obtain⟨p,hp⟩:=wT hS hl;have hv':=hv;simp only[SV.den] at hv';obtain⟨_,_,_,u,⟨_,_,eu,_⟩,hm⟩:=hv' p hp
      split at hm
      · subst hm;subst eu;exact one _ hv (by simp) (by simp)
      · obtain⟨_,rfl,_⟩:=hm;exact one _ hv (by simp) (by simp)
    · cases h
  · simp at h;subst h;cases sv with
    |ep t d=>have hv':=hv;simp only[SV.den] at hv';obtain⟨_,_,_,rfl,_⟩:=hv';exact one _ hv (by simp) (by simp)
    |fn ps rs pre F=>have hv':=hv;simp only[SV.den] at hv';obtain⟨_,_,rfl,_⟩:=hv';exact one _ hv (by simp) (by simp)
    |fnp ps rs pre F=>have hv':=hv;simp only[SV.den] at hv';obtain⟨_,_,rfl,_⟩:=hv';exact one _ hv (by simp) (by simp)
    |clo f caps=>have hv':=hv;simp only[SV.den] at hv';obtain⟨_,rfl,_⟩:=hv';exact one _ hv (by simp) (by simp)
    |lit u=>
      have hv':=hv;simp only[SV.den] at hv';subst hv';exact one _ hv (fun vs e=>by subst e;simp_all) (fun vs e=>by subst e;simp_all)
    |any=>simp_all
    |fcl t d=>simp_all;exact absurd HEq.rfl (‹∀(t_1:Ty) (d_1:List t_1.Data),t=t_1→¬HEq d d_1› t d rfl)
    |dat t d=>simp_all;exact absurd HEq.rfl (‹∀(t_1:Ty) (d_1:t_1.Data),t=t_1→¬HEq d d_1› t d rfl)
    |bp o k=>simp_all
    |own o t=>simp_all
    |osl o t lo n=>simp_all;exact absurd rfl (‹∀(o_1:Nat) (t_1:Ty) (lo_1 n_1:Nat),o=o_1→t=t_1→lo=lo_1→¬n=n_1› o t lo n rfl rfl rfl)
    |rp o t i k=>simp_all;exact absurd rfl (‹∀(o_1:Nat) (t_1:Ty) (i_1 k_1:Nat),o=o_1→t=t_1→i=i_1→¬k=k_1› o t i k rfl rfl rfl)
    |mp o=>simp_all
    |ip o=>simp_all
    |fe q o T st ps rs pre K=>rename_i hfe;exact(hfe _ _ _ _ _ _ _ _ rfl).elim
    |agg cs=>simp_all
    |tup cs=>simp_all
theorem wl {ti:TI} (ht:ti.ok P) {b off:Nat} {vs:Array Value} {T:Nat} {fr:Nat×Nat} (hw:w.heap[b]? =some (.cells vs T fr)):
    (ti.agg=true→off+ti.size≤vs.size→(loadVar ti.id ⟨b,off,none⟩).run P w= .ok (.agg ((vs.toList.drop off).take ti.size).toArray) w)∧
    (ti.agg=false→∀v,vs[off]? =some v→(loadVar ti.id ⟨b,off,none⟩).run P w= .ok v w):=by
  obtain⟨i,z,_,_,_,hsz,_⟩:=qP ht;have ha:=jrH ht;refine⟨fun h1 h2=> ?_,fun h1 v hv=> ?_⟩
  · have hl:((vs.toList.drop off).take ti.size).length=ti.size:=(by simp;omega);have:=run_loadCells_list (P:=P) w ⟨b,off,none⟩ ((vs.toList.drop off).take ti.size) (fun j v hj=>by
      rw[qW,jng hw];rw[jH3] at hj
      split at hj
      · simpa using hj
      · cases hj)
    rw[hl] at this;simp only[loadVar,Sem.run_bind,ha,h1,Result.andThen_ok,if_true,hsz,this];rfl
  · have:w.cell? ⟨b,off,none⟩=some v:=(by rw[jng hw];exact hv);simp only[loadVar,Sem.run_bind,ha,h1,Result.andThen_ok];simp[load,Sem.run,this]
end
end Go.X
namespace Go.X
open Go.RowKit (Below)
section
variable {P:Program} {B:zF} {C:Ctx} {σ:St} {ρ:Env} {w:World} {o:Oper} {ev:Operand→Value} {out:Out}
def jij (obj:Nat→Option Ob) (d:Nat) (x:Option Ob):Nat→Option Ob:=fun o=>if o=d then x else obj o
theorem jkN {w:World} {o:Nat} {b Cp:Nat} {x:Ob} (hs:j9 P ρ w o (some (b,Cp)) x):b<w.heap.size:=by
  cases x with
  |box T fz cs=>simp only[j9] at hs;obtain⟨b',C',vs',e1,e2,_⟩:=hs;simp at e1;rw[e1.1];exact(jGZ.1 e2).1
  |row E t fz nl l=>simp only[j9] at hs;obtain⟨_,_,_,vs',e2,_⟩:=hs;exact(jGZ.1 e2).1
  |map fz kt vt l=>simp only[j9] at hs;obtain⟨b',C',es,clock,e1,e2,_⟩:=hs;simp at e1;rw[e1.1];exact(jGZ.1 e2).1
  |iter kt vt left cur=>simp only[j9] at hs;obtain⟨b',C',y,e1,e2,_⟩:=hs;simp at e1;rw[e1.1];exact(jGZ.1 e2).1
  |mape kt vt l k s=>simp only[j9] at hs;obtain⟨b',C',es,clock,e1,e2,_⟩:=hs;simp at e1;rw[e1.1];exact(jGZ.1 e2).1
theorem jqm {obj:Nat→Option Ob} (hS:Sat P B ρ obj w) {d:Nat} (hd:obj d=none) (hn:kz obj d) (y:Obj) (Cp len:Nat) (x:Ob)
    (hx:∀ρ':Env,ρ'.H=ρ.H→ρ'.len d=len→ρ.le ρ' [d]→j9 P ρ' (w.alloc y) d (some (w.heap.size,Cp)) x):
    ∃ρ',Sat P B ρ' (jij obj d (some x)) (w.alloc y)∧ρ.le ρ' [d]∧ρ'.blk d=some (some (w.heap.size,Cp))∧ρ'.len d=len∧ρ'.H=ρ.H:=by
  have hbd:=hS.dead d hd;have hHn:ρ.H w.heap.size=none:=by
    cases hc:ρ.H w.heap.size with
    |none=>rfl
    |some c=>have:=hS.good.lt hc;omega
  let ρ':Env:={H:=ρ.H,blk:=fun o=>if o=d then some (some (w.heap.size,Cp)) else ρ.blk o,len:=fun o=>if o=d then len else ρ.len o}
  have hle:ρ.le ρ' [d]:=⟨fun _ _ h=>h,fun o p ho hp=>by simpa[ρ',show o≠d by simpa using ho] using hp,fun o ho=>by simp[ρ',show o≠d by simpa using ho]⟩;have hold:∀b,b<w.heap.size→(w.alloc y).heap[b]? =w.heap[b]? :=fun b hb=>heap_alloc_old w _ b hb
  refine⟨ρ',⟨hS.os,hS.tape,hS.output,hS.drawn,by simp;have:=hS.size;omega,?_,hS.oldH,?_,?_,?_,?_,?_⟩,hle,by simp[ρ'],by simp[ρ'],rfl⟩
  · refine⟨fun b c hb=> ?_,hS.good.2⟩;rw[hold b (hS.good.lt hb)];exact hS.good.1 b c hb
  · intro b hb hbo;have:=hS.size;rw[hold b (by omega)];exact hS.old b hb hbo
  · intro o x' hx';unfold jij at hx';by_cases e:o=d
    · subst e;rw[if_pos rfl] at hx';simp at hx';subst hx';exact⟨_,by simp[ρ'],hx ρ' rfl (by simp[ρ']) hle⟩
    · rw[if_neg e] at hx';obtain⟨p,hp,hs⟩:=hS.obs o x' hx';refine⟨p,by simp[ρ',e,hp],jN hle (by simpa using e) (fun T fz cs hcs o' ho'=> ?_) (fun b C hpb=>⟨rfl,?_⟩) hs⟩
      · simp at ho';subst ho';exact hn o T fz cs (by rw[hx',hcs])
      · subst hpb;refine hold b ?_;exact jkN hs
  · intro o ho;unfold jij at ho;by_cases e:o=d
    · rw[if_pos e] at ho;cases ho
    · rw[if_neg e] at ho;simp[ρ',e,hS.dead o ho]
  · intro o o' b C1 C2 h1 h2;have lt:∀k Ck,ρ.blk k=some (some (b,Ck))→b<w.heap.size:=by
      intro k Ck hk;cases hobj:obj k with
      |none=>rw[hS.dead k hobj] at hk;cases hk
      |some x'=>
        obtain⟨p,hp,hs⟩:=hS.obs k x' hobj;rw[hk] at hp;simp at hp;subst hp;exact jkN hs
    by_cases e1:o=d<;>by_cases e2:o'=d
    · rw[e1,e2]
    · simp[ρ',e1] at h1;simp[ρ',e2] at h2;have:=lt _ _ h2;omega
    · simp[ρ',e1] at h1;simp[ρ',e2] at h2;have:=lt _ _ h1;omega
    · simp[ρ',e1] at h1;simp[ρ',e2] at h2;exact hS.inj o o' b C1 C2 h1 h2
  · intro o b C1 h1;by_cases e1:o=d
    · simp[ρ',e1] at h1;have:=hS.size;exact .inl (by omega)
    · simp[ρ',e1] at h1;exact hS.own o b C1 h1
theorem jzJ {obj:Nat→Option Ob} (hS:Sat P B ρ obj w) {d:Nat} (hd:obj d=none) (hn:kz obj d) (vs:Array Value) (T:Nat) (Cp len:Nat) (x:Ob)
    (hx:∀ρ':Env,ρ'.H=ρ.H→ρ'.len d=len→ρ.le ρ' [d]→j9 P ρ' (w.alloc (.cells vs T)) d (some (w.heap.size,Cp)) x):
    ∃ρ',Sat P B ρ' (jij obj d (some x)) (w.alloc (.cells vs T))∧ρ.le ρ' [d]∧ρ'.blk d=some (some (w.heap.size,Cp))∧ρ'.len d=len∧ρ'.H=ρ.H:=
  jqm hS hd hn (.cells vs T) Cp len x hx
theorem yD (hS:Sat P B ρ σ.obj w) {o b Cp:Nat} (h:ρ.blk o=some (some (b,Cp))):b<w.heap.size∧True:=by
  cases hobj:σ.obj o with
  |none=>rw[hS.dead o hobj] at h;cases h
  |some x'=>
    obtain⟨p,hp,hs⟩:=hS.obs o x' hobj;rw[h] at hp;simp at hp;subst hp;exact⟨jkN hs,trivial⟩
theorem jdz (hS:Sat P B ρ σ.obj w) {d b Cp:Nat} (hp:ρ.blk d=some (some (b,Cp))) (hH:ρ.H b=none) (x:Ob) {w':World}
    (hw':w'.os=w.os∧w'.tape=w.tape∧w'.output=w.output∧w.drawn≤w'.drawn∧w'.heap.size=w.heap.size∧∀k,k≠b→w'.heap[k]? =w.heap[k]?)
    (hx:j9 P ρ w' d (some (b,Cp)) x):Sat P B ρ (jij σ.obj d (some x)) w':=by
  obtain⟨e1,e2,e3,e3',e4,e5⟩:=hw';refine⟨e1.trans hS.os,e2.trans hS.tape,e3.trans hS.output,jG5 hS.drawn e3',by rw[e4];exact hS.size,?_,hS.oldH,?_,?_,?_,hS.inj,hS.own⟩
  · refine⟨fun k c hk=> ?_,hS.good.2⟩;have:k≠b:=fun e=>by subst e;rw[hH] at hk;cases hk
    rw[e5 k this];exact hS.good.1 k c hk
  · intro k hk hbo;have:k≠b:=fun e=>by
      subst e;rcases hS.own d k Cp hp with h1|h1
      · omega
      · exact hbo h1
    rw[e5 k this];exact hS.old k hk hbo
  · intro o x' hx';unfold jij at hx';by_cases e:o=d
    · subst e;rw[if_pos rfl] at hx';simp at hx';subst hx';exact⟨_,hp,hx⟩
    · rw[if_neg e] at hx';obtain⟨p,hp',hs⟩:=hS.obs o x' hx';refine⟨p,hp',jN (Env.le.refl ρ []) (by simp) (fun _ _ _ _ o' ho'=>by simp at ho') (fun b' C' hpb=>⟨rfl,?_⟩) hs⟩;subst hpb;exact e5 b' fun e'=>e (hS.inj o d b' C' Cp hp' (e'▸hp))
  · intro o ho;unfold jij at ho;by_cases e:o=d
    · rw[if_pos e] at ho;cases ho
    · rw[if_neg e] at ho;exact hS.dead o ho
theorem wt (σ:St) (d:Nat) (x:Option Ob):({σ with ob:=(d,x)::σ.ob}:St).obj=jij σ.obj d x:=funext fun o=>by
  rw[wS];rfl
theorem jxS {E dst:Nat} (hC:C.ok P) (hop:o.op= .alloc E) (h:jB C σ dst (.alloc E)=some out) (hS:Sat P B ρ σ.obj w)
    (hd:σ.obj dst=none) (hn:kz σ.obj dst):jC P o ev w (jz P B ρ σ out):=by
  simp only[jB] at h
  split at h
  · rename_i ti hti;simp at h;subst h;obtain⟨rfl,hok⟩:=hC.ti _ _ hti;obtain⟨i,z,_,_,_,_,hz,hzl,_⟩:=qP hok;have hrun:(execOp ev o).run P w= .ok (.value (.pointer (some ⟨w.heap.size,0,none⟩))) (w.alloc (.cells z.cells ti.id)):=by
      simp only[execOp,hop,Instr.alloc,Sem.run_bind,hz,Result.andThen_ok];simp[newVar,newRow]
    refine j6 hrun ?_;obtain⟨ρ',h1,h2,h3,_,_⟩:=jzJ hS hd hn z.cells ti.id 0 0 (.box ti.id false (ti.zero.map jn6)) (fun ρ' hH _ hle=>by
      refine⟨w.heap.size,0,z.cells,rfl,heap_alloc_new w _,?_,fun v hv=>hok.one v (by rw[←hzl];exact hv),?_⟩
      · rw[hzl];have:∀(l:List Value),SV.denL P ρ' (l.map jn6) l:=by
          intro l
          induction l with
          |nil=>simp[SV.denL]
          |cons a l ih=>simp only[jHU,SV.denL];exact⟨a,l,rfl,jm9 a,ih⟩
        exact this _
      · simp only[fzH,hH];cases hc:ρ.H w.heap.size with
        |none=>rfl
        |some c=>have:=hS.good.lt hc;omega)
    refine⟨ρ',?_,h2,?_,trivial⟩
    · show Sat P B ρ' ({σ with ob:=(dst,_)::(q6 σ []++σ.ob)}:St).obj _;simp only[q6,jHh];rw[wt];exact h1
    · simp only[SV.den];intro p hp;rw[h3] at hp;simp at hp;subst hp;exact⟨_,_,rfl,rfl⟩
  · cases h
theorem jCv {E dst:Nat} {x:Operand} (_:C.ok P) (hop:o.op= .box E x) (h:jB C σ dst (.box E x)=some out) (hS:Sat P B ρ σ.obj w) (hev:SV.den P ρ (jL σ x) (ev x))
    (hd:σ.obj dst=none) (hn:kz σ.obj dst) (hself:∀cs,cells σ (jL σ x)=some cs→SV.refs.refsL dst cs=false):jC P o ev w (jz P B ρ σ out):=by
  simp only[jB] at h
  split at h
  · rename_i ti hti
    split at h
    · rename_i cs hcs;simp at h;subst h;obtain⟨h1,h2⟩:=jgG hS hcs hev;have hrun:(execOp ev o).run P w= .ok (.value (.pointer (some ⟨w.heap.size,0,none⟩))) (w.alloc (.cells (ev x).cells E)):=by
        simp[execOp,hop,Instr.box,newVar,newRow]
      refine j6 hrun ?_;obtain⟨ρ',h3,h4,h5,_,_⟩:=jzJ hS hd hn (ev x).cells E 0 0 (.box E false cs) (fun ρ' hH _ hle=>by
        refine⟨w.heap.size,0,_,rfl,heap_alloc_new w _,SV.denL_mono hle cs _ (fun o ho=>by simp at ho;subst ho;exact hself cs hcs) h1,h2,?_⟩;simp only[fzH,hH];cases hc:ρ.H w.heap.size with
        |none=>rfl
        |some c=>have:=hS.good.lt hc;omega)
      refine⟨ρ',?_,h4,?_,trivial⟩
      · show Sat P B ρ' ({σ with ob:=(dst,_)::(q6 σ []++σ.ob)}:St).obj _;simp only[q6,jHh];rw[wt];exact h3
      · simp only[SV.den];intro p hp;rw[h5] at hp;simp at hp;subst hp;exact⟨_,_,rfl,rfl⟩
    · cases h
  · cases h
theorem jdl {vs:Array Value} {off:Nat} {cs:List SV} (hd:SV.denL P ρ cs vs.toList) {v:SV} (h:cs[off]? =some v):∃u,vs[off]? =some u∧SV.den P ρ v u:=by
  obtain⟨u,e1,e2⟩:=jwl cs _ hd off v h;exact⟨u,by simpa using e1,e2⟩
theorem ju5 {t:Ty} {x:Option t.Data} {v:Value} (h:SV.den P ρ (.dat (.ptr t) x) v) (hx:x.isSome=true):SV.den P ρ (.ep t (jY t.dflt x)) v:=by
  cases x with
  |none=>cases hx
  |some d=>
    simp only[SV.den] at h⊢;obtain⟨p,h1,b,off,blk,rfl,e1,e2⟩:=zb (t:= .ptr t) rfl h;simp at h1;subst h1;exact⟨b,off,blk,rfl,e1,e2⟩
theorem jAG {U dst:Nat} {a:Operand} (hC:C.ok P) (hop:o.op= .load U a) (h:jB C σ dst (.load U a)=some out) (hS:Sat P B ρ σ.obj w) (hev:SV.den P ρ (jL σ a) (ev a)) (hvc:kR out.vc):
    jC P o ev w (jz P B ρ σ out):=by
  simp only[jB] at h
  split at h
  case h_2=>cases h
  rename_i ti hti;obtain⟨rfl,hok⟩:=hC.ti _ _ hti;have done:∀(ad:Addr) (v:Value) (sv:SV),ev a= .pointer (some ad)→(loadVar ti.id ad).run P w= .ok v w→SV.den P ρ sv v→jC P o ev w (jz P B ρ σ (.pure sv)):=by
    intro ad v sv e hr hd;refine j6 (v:=v) (w':=w) ?_ (zK hS hd trivial);simp[execOp,hop,Instr.loadAt,Instr.sureAddr,e,hr]
  have stays:∀(t:Ty) (d:t.Data) (x:ti.ty.Data),SV.den P ρ (.ep t d) (ev a)→zW ti.ty=true→zg t ti.ty d=some x→jC P o ev w (jz P B ρ σ (.pure (.dat ti.ty x))):=by
    intro t d x hev hk hc;obtain⟨e,rfl⟩:=jl hc;subst e;simp only[SV.den] at hev;obtain⟨b,off,c,e1,e2,e3⟩:=hev;obtain⟨T,fr,hw⟩:=hS.good.cells e2;obtain⟨ka,ks⟩:=hok.known hk;have hrun:=wl (off:=off) hok hw;cases hta:ti.agg with
    |true=>
      have hsz:off+ti.size≤c.size:=by
        have hpos:=(hok.pos hk).1;obtain⟨v,e,_⟩:=gn _ _ _ e3 (ti.size-1) (by omega);have:=(jGZ.1 e).1;omega
      refine done _ _ _ e1 (hrun.1 hta hsz) ?_;simp only[SV.den,qU];refine⟨by simp[kJ,ka,hta],by simp[Value.cells,ks];omega,ti.ty.rd_congr _ _ _ (fun i hi=> ?_) e3⟩;simp only[Value.cells];simp[show i<ti.size by omega]
    |false=>
      obtain⟨v,e,_⟩:=gn _ _ _ e3 0 (by have:=(hok.pos hk).1;omega);simp only[jH4] at e;refine done _ _ _ e1 (hrun.2 hta v e) ?_;simp only[SV.den,qU];exact kl (by rw[ka,hta]) (vV (f:=fun j=>c[off+j]?) (by rw[ka,hta]) (by simpa using e) e3)
  split at h
  · --a box
    rename_i ob off ho;rw[ho] at hev
    split at h
    · rename_i T fz cs hx;obtain⟨p,hp,b,Cp,vs,rfl,hw,hdl,h1,_⟩:=hS.obs ob _ hx;simp only[SV.den] at hev;obtain⟨b',C',e1,e2⟩:=hev _ hp;simp at e1;obtain⟨rfl,rfl⟩:=e1;have hrun:=wl (off:=off) hok hw;have hlen:=zw _ _ hdl
      split at h
      · rename_i ha
        split at h
        · rename_i hle;simp at h;subst h;have hle':off+ti.size≤cs.length:=jG6 hle;refine done _ _ _ e2 (hrun.1 ha (by rw[←jHm,←hlen];exact hle')) ?_;simp only[SV.den];exact⟨_,rfl,by simpa using jh6 ti.size _ _ (jbm off _ _ hdl),fun u hu=>h1 u (jIa (jIb (by simpa using hu)))⟩
        · cases h
      · rename_i ha
        split at h
        · rename_i v hv;simp at h;subst h;obtain⟨u,hu,hd⟩:=jdl hdl hv;exact done _ _ _ e2 (hrun.2 ha u hu) hd
        · cases h
    · cases h
  · --memory that stays
    rename_i t d ho;rw[ho] at hev
    split at h
    · rename_i x hk hc;simp at h;subst h;exact stays t d x hev hk hc
    · cases h
  · --an element of a row of the call's own
    rename_i ob u i off ho;rw[ho] at hev
    split at h
    · rename_i E t fz nl l hx
      split at h
      · rename_i l' hc;obtain⟨e,rfl⟩:=jl hc;cases e;simp only[qU] at h
        split at h
        · rename_i x hk hsub;simp at h;subst h;obtain⟨p,hp,k1,k0,k2⟩:=hS.obs ob _ hx;simp only[SV.den] at hev;obtain⟨hi,b,Cp,rfl,e1⟩:=hev p hp;obtain⟨_,vs,hw,hvs,hlC,_,hr,_⟩:=k2;obtain⟨ka,ks⟩:=hok.known hk;have hget:l[i]? =some (@nth _ ⟨u.dflt⟩ l i):=by
            unfold nth;rw[jHq,jGY (by omega)];simp
          have hrd:=jdk u off ti.ty _ x _ hsub (hr i _ hget);have hrun:=wl (off:=i*u.size+off) hok hw;have hrd':ti.ty.rd ρ.H (fun j=>vs[i*u.size+off+j]?) x:=ti.ty.rd_congr _ _ _ (fun j _=>by simp only[jHZ]) hrd;cases hta:ti.agg with
          |true=>
            have hsz:i*u.size+off+ti.size≤vs.size:=by
              have hpos:=(hok.pos hk).1;obtain⟨v,e,_⟩:=gn _ _ _ hrd' (ti.size-1) (by omega);have:=(jGZ.1 e).1;omega
            refine done _ _ _ e1 (hrun.1 hta hsz) ?_;simp only[SV.den];refine⟨by simp[kJ,ka,hta],by simp[Value.cells,ks];omega,ti.ty.rd_congr _ _ _ (fun i hi=> ?_) hrd'⟩;simp only[Value.cells];simp[show i<ti.size by omega]
          |false=>
            obtain⟨v,e,_⟩:=gn _ _ _ hrd' 0 (by have:=(hok.pos hk).1;omega);simp only[jH4] at e;refine done _ _ _ e1 (hrun.2 hta v e) ?_;simp only[SV.den];exact kl (by rw[ka,hta]) (vV (f:=fun j=>vs[i*u.size+off+j]?) (by rw[ka,hta]) (by simpa using e) hrd')
        · cases h
      · cases h
    · cases h
  · --a listed package-level variable
    rename_i v ho;rw[ho] at hev
    split at h
    case h_2=>cases h
    rename_i x hx
    split at h
    · rename_i y hk hc;simp at h;subst h;unfold jDc at hx
      split at hx
      · rename_i g;obtain⟨c,h1,h2⟩:=hS.good.2 g x hx;refine stays x.1 x.2 y ?_ hk hc;simp only[SV.den] at hev⊢;exact⟨g,0,c,hev,h1,by simpa using h2⟩
      · cases hx
    · cases h
  · --a pointer that is data
    rename_i t x ho;rw[ho] at hev
    split at h
    · rename_i y hk hc;simp at h;subst h;exact stays t _ y (ju5 hev hvc.1) hk hc
    · cases h
  · --a variable that holds a function value
    rename_i ob T st ps rs pre K ho;rw[ho] at hev
    split at h
    · rename_i hta hl;simp at h;subst h;simp only[SV.den] at hev;have hx:∃x,σ.obj ob=some x:=by
        unfold jo6 at hl
        split at hl
        · exact⟨_,by assumption⟩
        · cases hl
      obtain⟨x,hx⟩:=hx;obtain⟨p,hp,_⟩:=hS.obs ob _ hx;obtain⟨b,Cp,e,u,hu,b',e1,e2⟩:=hev p hp;obtain⟨T',fr,hw⟩:=hS.good.cells e2;have hrun:=wl (off:=0) hok hw;refine done _ _ _ e1 (hrun.2 hta u (by simp)) ?_;simp only[SV.den];intro p' hp';rw[hp] at hp';simp at hp';subst hp';exact⟨b,Cp,e,u,hu,rfl⟩
    · cases h
  · --a function value in memory that stays
    rename_i ps rs pre F ho;rw[ho] at hev
    split at h
    · rename_i hta;simp at h;subst h;simp only[SV.den] at hev;obtain⟨b,u,e1,e2,e3⟩:=hev;obtain⟨T',fr,hw⟩:=hS.good.cells e2;have hrun:=wl (off:=0) hok hw;refine done _ _ _ e1 (hrun.2 hta u (by simp)) ?_;simp only[SV.den];exact e3
    · cases h
  · cases h
end
end Go.X
namespace Go.X
open Go.RowKit (Below)
section
variable {P:Program} {B:zF} {C:Ctx} {σ:St} {ρ:Env} {w:World} {o:Oper} {ev:Operand→Value} {out:Out}
theorem wk {sv:SV} {i:Int} (h:asInt sv=some i) {v:Value} (hv:SV.den P ρ sv v):v= .int .i64 i:=by
  unfold asInt at h
  split at h
  · simp at h;subst h;simp only[SV.den] at hv;exact zl hv
  · cases h
theorem jpw {sv:SV} {i:Int} (h:jwu sv=some i) {v:Value} (hv:SV.den P ρ sv v):∃k,v= .int k i:=by
  unfold jwu at h
  split at h
  · simp at h;subst h;simp only[SV.den] at hv;exact⟨_,wR hv⟩
  · cases h
theorem jj (hS:Sat P B ρ σ.obj w) {sv:SV} {vc fact:List Prop} {v:Value} (hrun:(execOp ev o).run P w= .ok (.value v) w) (hd:SV.den P ρ sv v) (hf:kR fact):
    jC P o ev w (jz P B ρ σ ⟨vc,fact,sv,[],[],[]⟩):=j6 hrun (zK hS hd hf)
theorem jbT {ti tf:TI} (hok:ti.ok P) (hf:tf.ok P) {f:Nat} {off ft:Nat} (hfi:ti.fields[f]? =some (off,ft)) (hft:tf.id=ft) (hsz:Nat.beq tf.size 0=false) (ha:ti.agg=true) (hr:ti.arr=false) (b k:Nat):
    (Instr.fieldAt ti.id (.pointer (some ⟨b,k,none⟩)) f).run P w= .ok (.pointer (some ⟨b,k+off,none⟩)) w:=by
  obtain⟨fs,h1,_,h2⟩:=hok.str ha hr;obtain⟨fl,e1,e2,e3⟩:=h2 f (off,ft) hfi;obtain⟨i,z,_,_,_,hs,_⟩:=qP hf;have hne:¬tf.size=0:=fun e=>by rw[e] at hsz;simp at hsz
  have e3':fl.type=tf.id:=(by rw[e3,hft]);have e2':fl.offset=off:=e2;simp only[Instr.fieldAt,Sem.run_bind,run_underlying h1,Result.andThen_ok,e1,Instr.sureAddr,Sem.run_pure,fieldPlace,e3',hs,hne,if_false,e2',qW]
theorem jxD {ti:TI} (_:ti.ok P) {f:Nat} {p:Nat×Nat} (hfi:ti.fields[f]? =some p) (hfl:ti.agg=false→ti.fields=[]):ti.agg=true:=by
  cases h:ti.agg with
  |true=>rfl
  |false=>rw[hfl h] at hfi;simp at hfi
theorem jol {U dst f:Nat} {x:Operand} (hC:C.ok P) (hop:o.op= .fieldAddr U x f) (h:jB C σ dst (.fieldAddr U x f)=some out) (hS:Sat P B ρ σ.obj w) (hev:SV.den P ρ (jL σ x) (ev x)) (hvc:kR out.vc):
    jC P o ev w (jz P B ρ σ out):=by
  simp only[jB] at h
  split at h
  case h_2=>cases h
  rename_i ti hti;obtain⟨rfl,hok⟩:=hC.ti _ _ hti
  split at h
  case h_2=>cases h
  rename_i off ft hfi;obtain⟨hfi,harr⟩:=jsI hfi;have ha:=jxD hok hfi hok.flf
  split at h
  · rename_i ob k hx;rw[hx] at hev
    split at h
    · rename_i tf htf hl;obtain⟨hid,hf⟩:=hC.ti _ _ htf
      split at h
      · cases h
      · rename_i hsz;simp at h;subst h;obtain⟨p,hp⟩:=wT hS hl;have hev':=hev;simp only[SV.den] at hev';obtain⟨b,Cp,rfl,e⟩:=hev' p hp;refine jj hS (v:= .pointer (some ⟨b,k+off,none⟩)) ?_ ?_ trivial
        · simp only[execOp,hop,e,Sem.run_bind,jbT hok hf hfi hid hsz ha harr,Result.andThen_ok,Sem.run_pure]
        · simp only[SV.den];intro p' hp';rw[hp] at hp';simp at hp';subst hp';exact⟨b,Cp,rfl,rfl⟩
    · cases h
  · rename_i ob t i k hx;rw[hx] at hev
    split at h
    · rename_i tf htf hl;obtain⟨hid,hf⟩:=hC.ti _ _ htf
      split at h
      · cases h
      · rename_i hsz;simp at h;subst h;obtain⟨p,hp⟩:=wT hS hl;have hev':=hev;simp only[SV.den] at hev';obtain⟨hi,b,Cp,rfl,e⟩:=hev' p hp;refine jj hS (v:= .pointer (some ⟨b,i*t.size+k+off,none⟩)) ?_ ?_ trivial
        · simp only[execOp,hop,e,Sem.run_bind,jbT hok hf hfi hid hsz ha harr,Result.andThen_ok,Sem.run_pure]
        · simp only[SV.den];intro p' hp';rw[hp] at hp';simp at hp';subst hp';exact⟨hi,b,Cp,rfl,by rw[jHZ]⟩
    · cases h
  · rename_i t d hx;rw[hx] at hev
    split at h
    · rename_i tf htf;unfold Ctx.known at htf
      split at htf
      · rename_i tf' htf'
        split at htf
        · rename_i hk;simp at htf;subst htf;obtain⟨hid,hf⟩:=hC.ti _ _ htf'
          split at h
          · cases h
          · rename_i hsz
            split at h
            · rename_i y hy;simp at h;subst h;simp only[SV.den] at hev;obtain⟨b,k,c,e,e2,e3⟩:=hev;refine jj hS (v:= .pointer (some ⟨b,k+off,none⟩)) ?_ ?_ trivial
              · simp only[execOp,hop,e,Sem.run_bind,jbT hok hf hfi hid hsz ha harr,Result.andThen_ok,Sem.run_pure]
              · simp only[SV.den];refine⟨b,k+off,c,rfl,e2,?_⟩;exact tf'.ty.rd_congr _ _ _ (fun j _=>by simp only[jHZ]) (jdk t off tf'.ty d y _ hy e3)
            · cases h
        · cases htf
      · cases htf
    · cases h
  · rename_i t x0 hx;rw[hx] at hev
    split at h
    · rename_i tf htf;unfold Ctx.known at htf
      split at htf
      · rename_i tf' htf'
        split at htf
        · rename_i hk;simp at htf;subst htf;obtain⟨hid,hf⟩:=hC.ti _ _ htf'
          split at h
          · cases h
          · rename_i hsz
            split at h
            · rename_i y hy;simp at h;subst h;have hev:=ju5 hev hvc.1;simp only[SV.den] at hev;obtain⟨b,k,c,e,e2,e3⟩:=hev;refine jj hS (v:= .pointer (some ⟨b,k+off,none⟩)) ?_ ?_ trivial
              · simp only[execOp,hop,e,Sem.run_bind,jbT hok hf hfi hid hsz ha harr,Result.andThen_ok,Sem.run_pure]
              · simp only[SV.den];refine⟨b,k+off,c,rfl,e2,?_⟩;exact tf'.ty.rd_congr _ _ _ (fun j _=>by simp only[jHZ]) (jdk t off tf'.ty _ y _ hy e3)
            · cases h
        · cases htf
      · cases htf
    · cases h
  · cases h
theorem zn {U:Nat} {ti te:TI} (hC:C.ok P) (h:C.slice U=some (ti,te)):
    ti.id=U∧te.id=ti.elem∧ti.ok P∧te.ok P∧P.underlying U=some (.slice ti.elem)∧te.ty.agg=te.agg∧te.ty.size=te.size∧0<te.size:=by
  unfold Ctx.slice at h
  split at h
  · rename_i ti' hti
    split at h
    · rename_i hsl
      split at h
      · rename_i te' hte
        split at h
        · rename_i hk;simp at h;obtain⟨rfl,rfl⟩:=h;obtain⟨e1,h1⟩:=hC.ti _ _ hti;obtain⟨e2,h2⟩:=hC.ti _ _ hte;obtain⟨d,g1,_,_,_,g2,_⟩:=h1.flat (h1.slf hsl);rw[g2 hsl,e1] at g1;obtain⟨k1,k2⟩:=h2.known hk;exact⟨e1,e2,h1,h2,g1,k1,k2,(h2.pos hk).1⟩
        · cases h
      · cases h
    · cases h
  · cases h
theorem jeA {U:Nat} {ti:TI} (hC:C.ok P) (h:C.known U=some ti):C.info U=some ti∧ti.id=U∧ti.ok P∧zW ti.ty=true:=by
  unfold Ctx.known at h
  split at h
  · rename_i t ht
    split at h
    · rename_i hk;simp at h;subst h;exact⟨ht,(hC.ti _ _ ht).1,(hC.ti _ _ ht).2,hk⟩
    · cases h
  · cases h
theorem jsX {U:Nat} {x ix:Operand} {i:Int} (hC:C.ok P) (hop:o.op= .indexAddr U x ix) (h:jvi C U (jL σ x) i=some out) (hS:Sat P B ρ σ.obj w)
    (hev:SV.den P ρ (jL σ x) (ev x)) (hei:ev ix= .int .i64 i) (hvc:kR out.vc):jC P o ev w (jz P B ρ σ out):=by
  unfold jvi at h
  split at h
  case h_2=>cases h
  rename_i ti hti;obtain⟨_,hid,hok,hkn⟩:=jeA hC hti
  split at h
  case h_2=>cases h
  rename_i off ft te hr hfi hte;obtain⟨_,hide,hoke,hkne⟩:=jeA hC hte;obtain⟨_,n,ie,h1,h2,h3,h4,_,_,h5⟩:=hok.arrk hr;have hp:=h5 _ _ hfi;simp at hp;obtain⟨rfl,rfl⟩:=hp
  split at h
  case h_2=>cases h
  rename_i t d hx
  split at h
  case h_2=>cases h
  rename_i d' hc
  split at h
  case h_2=>cases h
  rename_i y hy;simp at h;subst h;obtain⟨e,rfl⟩:=jl hc;subst e;rw[hx] at hev;simp only[SV.den] at hev;obtain⟨b,k,c,e,e2,e3⟩:=hev;simp only[kR] at hvc;have hlt:i.toNat<n:=(by rw[←h4];exact(jGW.1 hfi).1);have hlt':i<n:=(by omega);have hse:∀w,(sizeOf ti.elem).run P w= .ok 1 w:=fun w=>by simp[sizeOf,typeInfo,h2,h3]
  refine jj hS (v:= .pointer (some ⟨b,k+i.toNat,none⟩)) ?_ ?_ trivial
  · simp only[execOp,hop,e,hei,Instr.indexAt,asIntOf,Instr.sureAddr,Sem.run_bind,Sem.run_pure,Result.andThen_ok,run_underlying (hid▸h1)];simp[hvc.1,hlt',hse,qW]
  · simp only[SV.den];refine⟨b,k+i.toNat,c,rfl,e2,?_⟩;exact te.ty.rd_congr _ _ _ (fun j _=>by simp only[jHZ]) (jdk _ _ te.ty _ y _ hy e3)
theorem jft {τ:St} (hS:Sat P B ρ τ.obj w) {fz:List Nat} (hF:Frz σ τ fz) {t:Ty} (ht:t.agg=false):∀(cs:List SV) (l:List t.Data) (vs:List Value),jif σ t cs=some l→SV.denL P ρ cs vs→l.length=vs.length∧∀(i:Nat) x,l[i]? =some x→t.rd ρ.H (fun _=>vs[i]?) x
  |[],l,vs,h,hd=>by
    simp[jif] at h;subst h
    simp[SV.denL] at hd;subst hd
    exact⟨rfl,fun i x hx=>by simp at hx⟩
  |c::cs,l,vs,h,hd=>by
    simp only[jif] at h
    split at h
    case h_2=>cases h
    rename_i d l' hc hl
    simp at h;subst h
    simp only[SV.denL] at hd
    obtain⟨v,r,rfl,h1,h2⟩:=hd
    obtain⟨e1,e2⟩:=jft hS hF ht cs l' r hl h2
    refine⟨by simp[e1],fun i x hx=> ?_⟩
    cases i with
    |zero=>simp at hx;subst hx;simpa using jjC hS hF ht hc (fun o ho=>by simp at ho) h1
    |succ i=>simpa using e2 i x (by simpa using hx)
theorem jxK {U:Nat} {x:Operand} {lo hi:Option Operand} (hC:C.ok P) (hop:o.op= .slice U x lo hi none) (h:jDM C σ U (jL σ x) lo hi=some out) (hS:Sat P B ρ σ.obj w)
    (hev:SV.den P ρ (jL σ x) (ev x)):jC P o ev w (jz P B ρ σ out):=by
  unfold jDM at h
  split at h
  case h_2=>cases h
  rename_i ti ob hti hx;obtain⟨_,hid,hok,hkn⟩:=jeA hC hti
  split at h
  case h_2=>cases h
  rename_i te T fzb cs hr hte hob;obtain⟨_,hide,hoke,hkne⟩:=jeA hC hte;obtain⟨_,n,ie,h1,h2,h3,h4,h4',hbig,h5⟩:=hok.arrk hr
  split at h
  case h_2=>cases h
  rename_i l hl hn ha;simp at h;subst h;have hn:=jGP hn;obtain⟨ρ1,hS1,hle1,hb1,hl1⟩:=jP (σ:=σ) [ob] hS;have hob1:(σ.frz [ob]).obj ob=some (.box T true cs):=(by rw[ku];simp[hob,z8]);obtain⟨p,hp,b,Cp,vs,rfl,hw,hdl,h1',hH⟩:=hS1.obs ob _ hob1;rw[hx] at hev;simp only[SV.den] at hev;obtain⟨b',C',e1,e2⟩:=hev _ (by rw[←hb1];exact hp);simp at e1;obtain⟨rfl,rfl⟩:=e1;have hdl':=zw _ _ hdl;obtain⟨k1,k2⟩:=jft hS1 (qa σ _) ha cs l _ hl hdl;have hlen:l.length=n:=(by rw[k1,←hdl',hn];exact h4');have hse:∀w,(sizeOf ti.elem).run P w= .ok 1 w:=fun w=>by simp[sizeOf,typeInfo,h2,h3]
  have hsz:te.ty.size=1:=by
    obtain⟨i,z,g1,g2,_⟩:=hoke.info;obtain⟨_,g3⟩:=hoke.known hkne;rw[g3,←g2];rw[hide] at g1;rw[h2] at g1;simp at g1;rw[←g1,h3]
  refine j6 (v:= .slice (some ⟨b,0,none⟩) n n) (w':=w) ?_ ⟨ρ1,?_,hle1,?_,trivial⟩
  · simp only[execOp,hop,e2,Instr.sliceAt,Instr.sureAddr,Instr.sliceBounds,Option.map_none,Sem.run_bind,Sem.run_pure,Result.andThen_ok,run_underlying (hid▸h1)];simp[hse,qW]
  · exact hS1
  · simp only[SV.den];refine kl rfl ⟨some ⟨b,0,none⟩,n,n,rfl,hlen.symm,jGU _,?_,fun h=>by simp at h,fun _=>⟨b,0,vs,rfl,hH,fun i y hy=> ?_⟩⟩
    · rw[hlen];omega
    · refine te.ty.rd_congr _ _ _ (fun j hj=> ?_) (k2 i y hy);have:j=0:=(by omega);subst this;simp[hsz]
theorem jok {U dst:Nat} {x ix:Operand} (hC:C.ok P) (hop:o.op= .indexAddr U x ix) (h:jB C σ dst (.indexAddr U x ix)=some out) (hS:Sat P B ρ σ.obj w)
    (hev:SV.den P ρ (jL σ x) (ev x)) (hei:SV.den P ρ (jL σ ix) (ev ix)) (hvc:kR out.vc):jC P o ev w (jz P B ρ σ out):=by
  simp only[jB] at h
  split at h
  case h_3=>cases h
  case h_2=>
    rename_i i hsl hi;exact jsX hC hop h hS hev (wk hi hei) hvc
  rename_i ti te i hsl hi;obtain⟨_,hte,_,hokE,hund,hka,hks,hpos⟩:=zn hC hsl;have hei:=wk hi hei;obtain⟨_,_,_,_,_,hsz,_⟩:=qP hokE;rw[hte] at hsz;have hrun:∀(b off n c:Nat),ev x= .slice (some ⟨b,off,none⟩) n c→0≤i→i<n→
      (execOp ev o).run P w= .ok (.value (.pointer (some ⟨b,off+i.toNat*te.size,none⟩))) w:=by
    intro b off n c e h0 h1;simp only[execOp,hop,e,hei,Instr.indexAt,asIntOf,Sem.run_bind,Sem.run_pure,Result.andThen_ok,run_underlying hund];simp[h0,h1,hsz,qW]
  split at h
  · rename_i t l hx;rw[hx] at hev
    split at h
    · rename_i l' hc;simp at h;subst h;obtain⟨e,rfl⟩:=jl hc;cases e;simp only[qU,kR] at hvc⊢;have hr:=zb (t:= .slice te.ty) rfl (by simpa[SV.den] using hev);obtain⟨a,n,c,e1,e2,e3,e4,e6,e5⟩:=hr;simp at e1;have hne:l≠[]:=fun e=>by subst e;simp at hvc;omega
      obtain⟨b,off,blk,rfl,f2,f3⟩:=e5 hne;have hlt:i.toNat<l.length:=(by omega);refine jj hS (hrun b off n c e1 hvc.1 (by omega)) ?_ trivial;simp only[SV.den];refine⟨b,off+i.toNat*te.size,blk,rfl,f2,?_⟩;have:=f3 i.toNat l[i.toNat] (jGY hlt);have hn: @nth _ ⟨te.ty.dflt⟩ l i.toNat=l[i.toNat]:=by
        unfold nth;rw[jHq,jGY hlt];rfl
      rw[hn,←hks];exact this
    · cases h
  · rename_i ob t hx;rw[hx] at hev
    split at h
    · rename_i E t' fz nl l hob;simp at h;subst h;simp only[kR] at hvc;obtain⟨p,hp,k1,k0,k2⟩:=hS.obs ob _ hob;have hev':=hev;simp only[SV.den] at hev';have hev':=hev' p hp;cases p with
      |none=>obtain⟨_,e⟩:=hev';omega
      |some q=>
        obtain⟨b,Cp⟩:=q;obtain⟨e1,e2⟩:=hev';refine jj hS (hrun b 0 _ _ e1 hvc.1 (by omega)) ?_ trivial;simp only[SV.den];intro p' hp';rw[hp] at hp';simp at hp';subst hp';exact⟨by omega,b,Cp,rfl,by rw[←hks];simp⟩
    · cases h
  · rename_i ob t lo n hx;rw[hx] at hev
    split at h
    · rename_i hl ht;simp at h;subst h;simp only[kR] at hvc
      have ht':t=te.ty:=by unfold yr at ht;split at ht;·assumption
                           · cases ht
      subst ht';obtain⟨p,hp⟩:=wT hS hl;have hev':=hev;simp only[SV.den] at hev';have hev':=hev' p hp;cases p with
      |none=>obtain⟨_,e⟩:=hev';subst e;simp at hvc;omega
      |some q=>
        obtain⟨b,Cp⟩:=q;obtain⟨a,cap,e1,e2,e3,e4,e5⟩:=hev';have e5:=e5 (.inr (by omega));subst e5;refine jj hS (hrun b _ _ _ e1 hvc.1 (by omega)) ?_ trivial;simp only[SV.den];intro p' hp';rw[hp] at hp';simp at hp';subst hp';exact⟨by omega,b,Cp,rfl,by rw[←hks,jHD];simp⟩
    · cases h
  · split at h
    · simp at h;subst h;exact absurd hvc.1 id
    · cases h
  · cases h
theorem jxJ {U dst:Nat} {x:Operand} {lo hi:Option Operand} (hC:C.ok P) (hop:o.op= .slice U x lo hi none) (h:jB C σ dst (.slice U x lo hi none)=some out) (hS:Sat P B ρ σ.obj w)
    (hev:∀x,SV.den P ρ (jL σ x) (ev x)) (hvc:kR out.vc):jC P o ev w (jz P B ρ σ out):=by
  simp only[jB] at h
  split at h
  case h_1=>exact jxK hC hop h hS (hev x)
  rename_i ti te hsl;obtain⟨_,hte,_,hokE,hund,hka,hks,hpos⟩:=zn hC hsl;obtain⟨_,_,_,_,_,hsz,_⟩:=qP hokE;rw[hte] at hsz
  split at h
  case h_1=>cases h
  rename_i l hl;have bnd:∀(y:Option Operand) (d i:Int),jvh σ y d=some i→(y=none∧i=d)∨(∃a,y=some a∧ev a= .int .i64 i):=by
    intro y d i hb;unfold jvh at hb
    split at hb
    · simp at hb;exact .inl ⟨rfl,hb.symm⟩
    · rename_i a;exact .inr ⟨a,rfl,wk hb (hev a)⟩
  have hrun:∀(a:Option Addr) (n c:Nat) (h':Int),ev x= .slice a n c→n≤c→((hi=none∧h'=n)∨(∃a,hi=some a∧ev a= .int .i64 h'))→0≤l→l≤h'→h'≤n→
      (execOp ev o).run P w= .ok (.value (.slice (if c=l.toNat then a else a.map (·.add (l.toNat*te.size))) (h'.toNat-l.toNat) (c-l.toNat))) w:=by
    intro a n c h' e hnc hh h0 h1 h2;have hl':(lo=none∧l=0)∨(∃a,lo=some a∧ev a= .int .i64 l):=bnd lo 0 l hl;have notarr:∀m e,(TypeDesc.slice ti.elem)≠.array m e:=(by intro m e;simp);simp only[execOp,hop,e,Instr.sliceAt,Sem.run_bind,run_underlying hund,Result.andThen_ok,Instr.slice,Instr.sliceBounds,Option.map_none,Sem.run_pure];rcases hh with⟨rfl,rfl⟩|⟨ah,rfl,ehv⟩<;>rcases hl' with⟨rfl,rfl⟩|⟨al,rfl,elv⟩
    · simp[hsz]
    · have:l.toNat≤n:=(by omega);simp[elv,Instr.sliceBound,asIntOf,h0,hsz,h1]
    · have h3:h'≤(c:Int):=(by omega);have h4:0≤h':=(by omega);simp[ehv,Instr.sliceBound,asIntOf,h3,h4,hsz]
    · have h3:h'≤(c:Int):=(by omega);have h4:0≤h':=(by omega);have h5:l≤(h'.toNat:Int):=(by omega);simp[ehv,elv,Instr.sliceBound,asIntOf,h3,h4,h0,hsz];intro hbad;omega
  split at h
  · rename_i t xs hx;have hx':=hev x;rw[hx] at hx'
    split at h
    · rename_i xs' h' hc hb;simp at h;subst h;obtain⟨e,rfl⟩:=jl hc;cases e;simp only[qU,kR] at hvc⊢;have hr:=zb (t:= .slice te.ty) rfl (by simpa[SV.den] using hx');obtain⟨a,n,c,e1,e2,e3,e4,e6,e5⟩:=hr;simp at e1;have hh:=bnd hi _ h' hb;have hh':(hi=none∧h'=(n:Int))∨(∃a,hi=some a∧ev a= .int .i64 h'):=(by rw[e2];exact hh);refine jj hS (hrun a n c h' e1 e3 hh' hvc.1 hvc.2.1 (by omega)) ?_ trivial;simp only[SV.den];refine kl rfl ?_;have hlen:((xs.drop l.toNat).take (h'.toNat-l.toNat)).length=h'.toNat-l.toNat:=(by simp;omega);refine⟨_,_,_,rfl,hlen.symm,by omega,by omega,fun hn=> ?_,fun hne=> ?_⟩
      · have:a=none:=by
          split at hn
          · exact hn
          · simpa using hn
        have:=e6 this;omega
      have hpos':0<h'.toNat-l.toNat:=by
        rcases jH2 (h'.toNat-l.toNat) with h0|h0
        · rw[h0] at hne;simp at hne
        · exact h0
      obtain⟨b,off,blk,rfl,f2,f3⟩:=e5 (fun e=>by subst e;simp at hne);refine⟨b,off+l.toNat*te.size,blk,?_,f2,fun i y hy=> ?_⟩
      · rw[if_neg (by omega)];simp[qW]
      · rw[jH3] at hy
        split at hy
        · rw[jHw] at hy;have:=f3 _ _ hy;refine te.ty.rd_congr _ _ _ (fun j _=> ?_) this;congr 1;rw[←hks,jHD];omega
        · cases hy
    · cases h
  · rename_i ob t hx;have hx':=hev x;rw[hx] at hx'
    split at h
    · rename_i E t' fz nl xs hob
      split at h
      · rename_i h' hb;simp at h;subst h;simp only[kR] at hvc;obtain⟨p,hp,k1,k0,k2⟩:=hS.obs ob _ hob;simp only[SV.den] at hx';have hx':=hx' p hp;have hh:=bnd hi _ h' hb;cases p with
        |none=>
          obtain⟨e1,e2⟩:=hx';obtain⟨e3,_⟩:=k2;subst e3;simp at hvc;have hl0:l=0:=(by omega);have hh0:h'=0:=(by omega);subst hl0;subst hh0;have hh':(hi=none∧(0:Int)=((0:Nat):Int))∨(∃a,hi=some a∧ev a= .int .i64 0):=by
            rcases hh with⟨e,_⟩|e
            · exact .inl ⟨e,rfl⟩
            · exact .inr e
          refine jj hS (hrun none 0 0 0 e1 (jGU _) hh' (by omega) (by omega) (by simp)) ?_ trivial;simp only[SV.den];intro p' hp';rw[hp] at hp';simp at hp';subst hp';simp
        |some q=>
          obtain⟨b,Cp⟩:=q;obtain⟨e1,e2⟩:=hx';have hh':(hi=none∧h'=((ρ.len ob:Nat):Int))∨(∃a,hi=some a∧ev a= .int .i64 h'):=(by rw[k1];exact hh);refine jj hS (hrun _ _ _ h' e1 e2 hh' hvc.1 hvc.2.1 (by omega)) ?_ trivial;simp only[SV.den];intro p' hp';rw[hp] at hp';simp at hp';subst hp';by_cases hcl:Cp=l.toNat
          · refine⟨⟨b,0,none⟩,Cp-l.toNat,by rw[if_pos hcl],by omega,by omega,by omega,fun hor=> ?_⟩;have:l.toNat=0:=(by omega);simp[this]
          · refine⟨⟨b,l.toNat*te.size,none⟩,Cp-l.toNat,by rw[if_neg hcl];simp[qW],by omega,by omega,by omega,fun _=>by rw[hks]⟩
      · cases h
    · cases h
  · rename_i ob t lo' n hx;have hx':=hev x;rw[hx] at hx'
    split at h
    case h_2=>cases h
    rename_i h' hb hu hlv;simp at h;subst h;simp only[kR] at hvc;have hu:t=te.ty:=yQ hu;subst hu;obtain⟨p,hp⟩:∃p,ρ.blk ob=some p:=by
      unfold jo6 at hlv
      split at hlv
      · rename_i x0 ho;obtain⟨p,hp,_⟩:=hS.obs ob x0 ho;exact⟨p,hp⟩
      · cases hlv
    simp only[SV.den] at hx';have hx':=hx' p hp;have hh:=bnd hi _ h' hb;cases p with
    |none=>
      obtain⟨e1,e2⟩:=hx';subst e2;have hl0:l=0:=(by have:=hvc.1;have:=hvc.2.1;have:=hvc.2.2.1;omega);have hh0:h'=0:=(by have:=hvc.1;have:=hvc.2.1;have:=hvc.2.2.1;omega);subst hl0;subst hh0;have hh':(hi=none∧(0:Int)=((0:Nat):Int))∨(∃a,hi=some a∧ev a= .int .i64 0):=by
        rcases hh with⟨e,_⟩|e
        · exact .inl ⟨e,rfl⟩
        · exact .inr e
      refine jj hS (hrun none 0 0 0 e1 (jGU _) hh' (by omega) (by omega) (by simp)) ?_ trivial;simp only[SV.den];intro p' hp';rw[hp] at hp';simp at hp';subst hp';simp
    |some q=>
      obtain⟨b,Cp⟩:=q;obtain⟨a,cap,e1,e2,e3,e4,e5⟩:=hx';have hh':(hi=none∧h'=((n:Nat):Int))∨(∃a,hi=some a∧ev a= .int .i64 h'):=hh;have hv1:=hvc.1;have hv2:=hvc.2.1;have hv3:h'≤(n:Int):=hvc.2.2.1;refine jj hS (hrun _ _ _ h' e1 e2 hh' hv1 hv2 hv3) ?_ trivial;simp only[SV.den];intro p' hp';rw[hp] at hp';simp at hp';subst hp';by_cases hcl:cap=l.toNat
      · refine⟨a,cap-l.toNat,by rw[if_pos hcl],by omega,by omega,by omega,fun hor=> ?_⟩;have h1:l.toNat=0:=(by omega);have h2:lo'=0:=(by omega);rw[e5 (.inl h2),h1,jH4]
      · refine⟨⟨b,(lo'+l.toNat)*te.ty.size,none⟩,cap-l.toNat,?_,by omega,by omega,by omega,fun _=>rfl⟩;rw[if_neg hcl,e5 (.inr (by omega)),hks];simp[qW,jHD]
  · rename_i u hx;have hx':=hev x;rw[hx] at hx'
    split at h
    · rename_i h' hnil hb;simp at h;subst h;simp only[kR] at hvc;simp only[SV.den] at hx';have e1:ev x= .slice none 0 0:=(by rw[hx',wy hnil]);have hl0:l=0:=(by omega);have hh0:h'=0:=(by omega);subst hl0;subst hh0;have hh':(hi=none∧(0:Int)=((0:Nat):Int))∨(∃a,hi=some a∧ev a= .int .i64 0):=by
        rcases bnd hi _ 0 hb with⟨e,_⟩|e
        · exact .inl ⟨e,rfl⟩
        · exact .inr e
      refine jj hS (hrun none 0 0 0 e1 (jGU _) hh' (by omega) (by omega) (by simp)) ?_ trivial;simp only[SV.den];rw[wy hnil];simp
    · cases h
  · cases h
theorem ju1 {U dst:Nat} {x hi mx:Operand} (hC:C.ok P) (hop:o.op= .slice U x none (some hi) (some mx)) (h:jB C σ dst (.slice U x none (some hi) (some mx))=some out) (hS:Sat P B ρ σ.obj w)
    (hev:∀x,SV.den P ρ (jL σ x) (ev x)) (hvc:kR out.vc):jC P o ev w (jz P B ρ σ out):=by
  simp only[jB] at h
  split at h
  case h_2=>cases h
  rename_i ti te t xs h' m hsl hx hh hm
  split at h
  case h_2=>cases h
  rename_i xs' hc;simp at h;subst h;obtain⟨e,rfl⟩:=jl hc;cases e;simp only[qU,kR] at hvc⊢;obtain⟨_,hte,_,hokE,hund,hka,hks,hpos⟩:=zn hC hsl;obtain⟨_,_,_,_,_,hsz,_⟩:=qP hokE;rw[hte] at hsz;have hx':=hev x;rw[hx] at hx';have hr:=zb (t:= .slice te.ty) rfl (by simpa[SV.den] using hx');have hr':=hr;obtain⟨a,n,c,e1,e2,e3,e4,e6,e5⟩:=hr;simp at e1;have vh:=wk hh (hev hi);have vm:=wk hm (hev mx);have h1:h'=(n:Int):=(by rw[hvc.1,e2]);have h2:m=(n:Int):=(by rw[hvc.2.1,e2]);rw[h1] at vh;rw[h2] at vm;refine jj hS (v:= .slice a n n) ?_ ?_ trivial
  · simp only[execOp,hop,e1,Instr.sliceAt,Sem.run_bind,run_underlying hund,Result.andThen_ok,Instr.slice,Instr.sliceBounds,Option.map_none,Option.map_some,Sem.run_pure];simp[vh,vm,Instr.sliceBound,asIntOf,hsz,e3];intro _;cases a<;>simp[Addr.add]
  · simp only[SV.den];exact⟨kl rfl ⟨a,n,n,rfl,e2,jGU _,e4,fun ha=>by have:=e6 ha;omega,e5⟩,a,n,rfl⟩
theorem jj2 {cs new:List SV} {vs us:List Value} {off:Nat} (h1:SV.denL P ρ cs vs) (h2:SV.denL P ρ new us):SV.denL P ρ (jp8 cs new off) (vs.take off++us++vs.drop (off+us.length)):=by
  unfold jp8;rw[←zw _ _ h2];exact wM _ _ _ _ (wM _ _ _ _ (jh6 off _ _ h1) h2) (jbm _ _ _ h1)
theorem jdB {ti:TI} (hok:ti.ok P) {b off:Nat} {vs:Array Value} {T:Nat} {v:Value} (hw:w.heap[b]? =some (.cells vs T (0,0))) (hsz:v.cells.size=ti.size)
    (hfit:off+ti.size≤vs.size) (h1:∀u∈v.cells.toList,u.oneCell'=true):
    (storeVar ti.id ⟨b,off,none⟩ v).run P w= .ok () (w.setRow b (vs.toList.take off++v.cells.toList++vs.toList.drop (off+ti.size)).toArray):=by
  obtain⟨_,_,_,_,_,hs,_⟩:=qP hok;have:=run_storeCells_at P b off T v.cells.toList 0 vs w hw (by simp;omega) h1;simp only[jH4,jHm,hsz] at this;simp[storeVar,hs,hsz,this]
theorem vT (w:World) {b:Nat} {vs:Array Value} {T:Nat} (hw:w.heap[b]? =some (.cells vs T (0,0))) (cs:Array Value):
    ((w.setRow b cs).os=w.os∧(w.setRow b cs).tape=w.tape∧(w.setRow b cs).output=w.output∧w.drawn≤(w.setRow b cs).drawn∧(w.setRow b cs).heap.size=w.heap.size∧∀k,k≠b→(w.setRow b cs).heap[k]? =w.heap[k]?)∧
    (w.setRow b cs).heap[b]? =some (.cells cs T (0,0)):=by
  refine⟨⟨rfl,rfl,rfl,jGU _,by simp,fun k hk=>setRow_other w b k _ (by omega)⟩,setRow_heap w b vs _ T _ hw⟩
theorem jrS {H:Imm}:∀(a:Ty) (off:Nat) (t:Ty) (d:a.Data) (x:t.Data) (y:a.Data) (f g:Nat→Option Value),a.put off t d x=some y→a.rd H f d→t.rd H (fun j=>g (off+j)) x→
    (∀j,(j<off∨off+t.size≤j)→g j=f j)→a.rd H g y:=by
  have leaf:∀(a:Ty) (off:Nat) (t:Ty) (x:t.Data) (y:a.Data) (g:Nat→Option Value),(if off=0 then zg t a x else none)=some y→t.rd H (fun j=>g (off+j)) x→a.rd H g y:=by
    intro a off t x y g h hx
    split at h
    · rename_i e;subst e;obtain⟨e,rfl⟩:=jl h;rw[jap];simpa using hx
    · cases h
  intro a
  induction a with
  |pair a b iha ihb=>
    intro off t d x y f g h hd hx hg;simp only[Ty.put] at h
    split at h
    · rename_i e;obtain⟨rfl,e⟩:=e;obtain⟨e',rfl⟩:=jl h;rw[jap];simpa using hx
    · split at h
      · rename_i hlt;simp only[jIh] at h;obtain⟨z,hz,rfl⟩:=h;have hfit:=put_fits a off t d.1 x z hz;refine⟨iha off t d.1 x z f g hz hd.1 hx hg,b.rd_congr _ _ _ (fun j _=> ?_) hd.2⟩;exact(hg _ (.inr (by omega))).symm
      · rename_i hlt;simp only[jIh] at h;obtain⟨z,hz,rfl⟩:=h;refine⟨a.rd_congr _ _ _ (fun j hj=>(hg j (.inl (by omega))).symm) hd.1,?_⟩;refine ihb (off-a.size) t d.2 x z (fun j=>f (a.size+j)) (fun j=>g (a.size+j)) hz hd.2 (t.rd_congr _ _ _ (fun j _=>by congr 1;omega) hx) (fun j hj=>hg _ ?_);omega
  |int=>intro off t d x y f g h _ hx _;exact leaf .int off t x y g (by simpa[Ty.put] using h) hx
  |bool=>intro off t d x y f g h _ hx _;exact leaf .bool off t x y g (by simpa[Ty.put] using h) hx
  |uint k=>intro off t d x y f g h _ hx _;exact leaf (.uint k) off t x y g (by simpa[Ty.put] using h) hx
  |unit=>intro off t d x y f g h _ hx _;exact leaf .unit off t x y g (by simpa[Ty.put] using h) hx
  |slice s _=>intro off t d x y f g h _ hx _;exact leaf (.slice s) off t x y g (by simpa[Ty.put] using h) hx
  |map k u _ _=>intro off t d x y f g h _ hx _;exact leaf (.map k u) off t x y g (by simpa[Ty.put] using h) hx
  |ptr s _=>intro off t d x y f g h _ hx _;exact leaf (.ptr s) off t x y g (by simpa[Ty.put] using h) hx
where
  put_fits:∀(a:Ty) (off:Nat) (t:Ty) (d:a.Data) (x:t.Data) (y:a.Data),a.put off t d x=some y→off+t.size≤a.size:=by
    have leaf:∀(a:Ty) (off:Nat) (t:Ty) (x:t.Data) (y:a.Data),(if off=0 then zg t a x else none)=some y→off+t.size≤a.size:=by
      intro a off t x y h
      split at h
      · rename_i e;subst e;obtain⟨e,_⟩:=jl h;subst e;omega
      · cases h
    intro a
    induction a with
    |pair a b iha ihb=>
      intro off t d x y h;simp only[Ty.put] at h
      split at h
      · rename_i e;obtain⟨rfl,e⟩:=e;rw[←e];omega
      · split at h
        · simp only[jIh] at h;obtain⟨z,hz,rfl⟩:=h;have:=iha off t d.1 x z hz;simp only[Ty.size];omega
        · simp only[jIh] at h;obtain⟨z,hz,rfl⟩:=h;have:=ihb (off-a.size) t d.2 x z hz;simp only[Ty.size];omega
    |int=>intro off t d x y h;exact leaf .int off t x y (by simpa[Ty.put] using h)
    |bool=>intro off t d x y h;exact leaf .bool off t x y (by simpa[Ty.put] using h)
    |uint k=>intro off t d x y h;exact leaf (.uint k) off t x y (by simpa[Ty.put] using h)
    |unit=>intro off t d x y h;exact leaf .unit off t x y (by simpa[Ty.put] using h)
    |slice s _=>intro off t d x y h;exact leaf (.slice s) off t x y (by simpa[Ty.put] using h)
    |map k u _ _=>intro off t d x y h;exact leaf (.map k u) off t x y (by simpa[Ty.put] using h)
    |ptr s _=>intro off t d x y h;exact leaf (.ptr s) off t x y (by simpa[Ty.put] using h)
end
end Go.X
namespace Go.X
open Go.RowKit (Below)
section
variable {P:Program} {B:zF} {C:Ctx} {σ:St} {ρ:Env} {w:World} {o:Oper} {ev:Operand→Value} {out:Out}
theorem jbe {U:Nat} {ti tk te:TI} (hC:C.ok P) (h:C.mapT U=some (ti,tk,te)):
    ti.ok P∧tk.ok P∧te.ok P∧P.underlying U=some (.map tk.id te.id)∧tk.kq=true∧zW te.ty=true:=by
  unfold Ctx.mapT at h
  split at h
  case h_2=>cases h
  rename_i ti' hti
  split at h
  case h_2=>cases h
  rename_i hmp
  split at h
  case h_2=>cases h
  rename_i tk' te' htk hte
  split at h
  case h_2=>cases h
  rename_i hk he;simp at h;obtain⟨rfl,rfl,rfl⟩:=h;obtain⟨i1,o1⟩:=hC.ti _ _ hti;obtain⟨i2,o2⟩:=hC.ti _ _ htk;obtain⟨i3,o3⟩:=hC.ti _ _ hte;refine⟨o1,o2,o3,?_,hk,he⟩;have:=o1.mpf hmp;rw[i1,←i2,←i3] at this;exact this
theorem jh4 {R:Value→World→Prop} {w':World} (h:(execOp ev o).run P w= .ok .skip w') (k:R undef w'):jC P o ev w R:=by
  unfold jC;rw[h];exact k
theorem yP {l:List Nat} {k:Nat} (h:jaH l k=false):k∉l:=by
  induction l with
  |nil=>simp
  |cons j r ih=>
    simp only[jaH] at h
    split at h
    · cases h
    · rename_i hb;simp only[jGS,not_or];exact⟨fun e=>jS hb e.symm,ih h⟩
theorem wg (v:Value):SV.den P ρ .any v:=by simp[SV.den]
theorem jxI {U dst:Nat} {a x:Operand} (hC:C.ok P) (hop:o.op= .store U a x) (h:jB C σ dst (.store U a x)=some out) (hS:Sat P B ρ σ.obj w)
    (hea:SV.den P ρ (jL σ a) (ev a)) (hex:SV.den P ρ (jL σ x) (ev x)):jC P o ev w (jz P B ρ σ out):=by
  simp only[jB] at h
  split at h
  case h_2=>cases h
  rename_i ti hti;obtain⟨rfl,hok⟩:=hC.ti _ _ hti
  split at h
  · rename_i ob off ha;rw[ha] at hea
    split at h
    · rename_i T cs hx
      split at h
      · rename_i new hnew
        split at h
        · rename_i hsz hfit;simp at h;subst h;have hsz:=jGP hsz;have hfit:=jG6 hfit;obtain⟨p,hp,b,Cp,vs,rfl,hw,hdl,h1,hH⟩:=hS.obs ob _ hx;simp only[fzH] at hH;simp only[SV.den] at hea;obtain⟨b',C',e1,e2⟩:=hea _ hp;simp at e1;obtain⟨rfl,rfl⟩:=e1;obtain⟨g1,g2⟩:=jgG hS hnew hex;have hlen:=zw _ _ hdl;have hlen2:=zw _ _ g1;have hcsz:(ev x).cells.size=ti.size:=(by rw[←jHm,←hlen2,hsz]);have hrun:=jdB (P:=P) (off:=off) hok hw hcsz (by rw[←jHm,←hlen];omega) g2;obtain⟨f1,f2⟩:=vT w hw (vs.toList.take off++(ev x).cells.toList++vs.toList.drop (off+ti.size)).toArray;refine jh4 (by simp only[execOp,hop,Instr.storeAt,Instr.sureAddr,e2,Sem.run_bind,Sem.run_pure,Result.andThen_ok,hrun];rfl) ?_;refine⟨ρ,?_,Env.le.refl _ _,wg _,trivial⟩;show Sat P B ρ ({σ with ob:=(ob,_)::(q6 σ []++σ.ob)}:St).obj _;simp only[q6,jHh];rw[wt];refine jdz hS hp hH _ f1 ?_;refine⟨b,Cp,_,rfl,f2,?_,?_,by simpa[fzH] using hH⟩
          · have:=jj2 (off:=off) hdl g1;simp only[jHm,hcsz] at this;simpa using this
          · intro u hu;simp only[jG1] at hu;rcases hu with(hu|hu)|hu
            · exact h1 u (jIb hu)
            · exact g2 u hu
            · exact h1 u (jIa hu)
        · cases h
      · cases h
    · cases h
  · rename_i ob u i off ha;rw[ha] at hea
    split at h
    · rename_i E t nl l hx
      split at h
      · rename_i l' hc;obtain⟨e,rfl⟩:=jl hc;cases e;simp only[qU] at h
        split at h
        · rename_i d fz hk hd
          split at h
          · rename_i y hy hm;simp at h;subst h;have hmem:=yP hm;obtain⟨ρ1,hS1,hle1,hb1,hn1⟩:=jP (σ:=σ) fz hS;have hx1:(σ.frz fz).obj ob=some (.row E u false nl l):=(by rw[ku,if_neg hmem];exact hx);obtain⟨p,hp,k1,k0,k2⟩:=hS1.obs ob _ hx1;simp only[SV.den] at hea;obtain⟨hi,b,Cp,rfl,e2⟩:=hea p (by rw[←hb1];exact hp);rw[←hn1] at hi;obtain⟨k3,vs,hw,hvs,hlC,hCm,hr,hH⟩:=k2;simp only[fzH] at hH;obtain⟨ka,ks⟩:=hok.known hk;have hrv:=jM hS1 (qa σ fz) hd (fun o ho=>ho) (SV.den_mono hle1 _ _ (fun r hr=>by simp at hr) hex);have hcsz:(ev x).cells.size=ti.size:=(by rw[hrv.2.1,ks]);obtain⟨_,g2⟩:=jj1 (P:=P) (ρ:=ρ1) ti.ty d (ev x).cells.toList (by simpa using hrv.2.1) (ti.ty.rd_congr _ _ _ (fun i _=>by simp) hrv.2.2);have hfits:=jrS.put_fits u off ti.ty _ d y hy;have hil:i<l.length:=(by omega);have hmul:i*u.size+u.size≤Cp*u.size:=(by rw[←jHA];exact jG8 _ (by omega));have hrun:=jdB (P:=P) (off:=i*u.size+off) hok hw hcsz (by rw[hvs];omega) g2;obtain⟨f1,f2⟩:=vT w hw (vs.toList.take (i*u.size+off)++(ev x).cells.toList++vs.toList.drop (i*u.size+off+ti.size)).toArray;have hcell:∀k,(vs.toList.take (i*u.size+off)++(ev x).cells.toList++vs.toList.drop (i*u.size+off+ti.size)).toArray[k]? =
                if k<i*u.size+off then vs[k]? else if k<i*u.size+off+ti.size then(ev x).cells[k-(i*u.size+off)]? else vs[k]? :=by
              intro k;have hl1:(vs.toList.take (i*u.size+off)).length=i*u.size+off:=(by simp;omega);by_cases c1:k<i*u.size+off
              · rw[if_pos c1];simp only[jH1,jHc];rw[jG4 (by omega),jHd c1];simp
              · rw[if_neg c1];by_cases c2:k<i*u.size+off+ti.size
                · rw[if_pos c2];simp only[jH1,jHc];rw[jG3 (by omega),hl1,jG4 (by simp[hcsz];omega)];simp
                · rw[if_neg c2];simp only[jH1,jHc];rw[jG3 (by omega),hl1,jG3 (by simp[hcsz];omega),jHw];simp only[jHm,hcsz,jHB];congr 1;omega
            refine jh4 (by simp only[execOp,hop,Instr.storeAt,Instr.sureAddr,e2,Sem.run_bind,Sem.run_pure,Result.andThen_ok,hrun];rfl) ?_;refine⟨ρ1,?_,hle1,wg _,trivial⟩;rw[jHi,jHh];show Sat P B ρ1 ({(σ.frz fz) with ob:=(ob,_)::(σ.frz fz).ob}:St).obj _;rw[wt];refine jdz hS1 hp hH _ f1 ?_;refine⟨by simpa using k1,by simpa using k0,fun hn=>by simpa using k3 hn,_,f2,?_,by simpa using hlC,hCm,?_,by simpa[fzH] using hH⟩
            · simp only[List.size_toArray,jHa,jHj,jHR,jHm,hcsz];omega
            · intro k z hz;rw[List.getElem?_set] at hz
              split at hz
              · rename_i hik;subst hik
                · simp at hz;subst hz;have hget:l[i]? =some (@nth _ ⟨u.dflt⟩ l i):=by
                    unfold nth;rw[jHq,jGY (by omega)];simp
                  refine jrS u off ti.ty _ d y _ _ hy (hr i _ hget) ?_ ?_
                  · refine ti.ty.rd_congr _ _ _ (fun j hj=> ?_) hrv.2.2;rw[hcell,if_neg (by omega),if_pos (by omega)];congr 1;omega
                  · intro j hj;rw[hcell];rcases hj with hj|hj
                    · rw[if_pos (by omega)]
                    · rw[if_neg (by omega),if_neg (by omega)]
              · rename_i hik;refine u.rd_congr _ _ _ (fun j hj=> ?_) (hr k z hz);rw[hcell];rcases Nat.lt_or_gt_of_ne hik with c|c
                · have:(i+1)*u.size≤k*u.size:=jG8 _ c;rw[jHA] at this;rw[if_neg (by omega),if_neg (by omega)]
                · have:(k+1)*u.size≤i*u.size:=jG8 _ c;rw[jHA] at this;rw[if_pos (by omega)]
          · cases h
        · cases h
      · cases h
    · cases h
  · cases h
theorem jqU {dst:Nat} {x:Operand} (hop:o.op= .nilCheck x) (h:jB C σ dst (.nilCheck x)=some out) (hS:Sat P B ρ σ.obj w) (hev:SV.den P ρ (jL σ x) (ev x)) (hvc:kR out.vc):
    jC P o ev w (jz P B ρ σ out):=by
  simp only[jB] at h
  split at h
  · rename_i ob off hx;rw[hx] at hev
    split at h
    · rename_i hl;simp at h;subst h;obtain⟨p,hp⟩:=wT hS hl;have hev':=hev;simp only[SV.den] at hev';obtain⟨b,Cp,_,e⟩:=hev' p hp;exact jj hS (v:=ev x) (by simp[execOp,hop,e]) hev trivial
    · cases h
  · rename_i t d hx;rw[hx] at hev;simp at h;subst h;have hev':=hev;simp only[SV.den] at hev';obtain⟨b,k,c,e,_⟩:=hev';exact jj hS (v:=ev x) (by simp[execOp,hop,e]) hev trivial
  · rename_i t d hx;rw[hx] at hev;simp at h;subst h;have hev:=ju5 hev hvc.1;have hev':=hev;simp only[SV.den] at hev';obtain⟨b,k,c,e,_⟩:=hev';exact jj hS (v:=ev x) (by simp[execOp,hop,e]) hev trivial
  · cases h
theorem jAE {dst T:Nat} {op:UnOp} {x:Operand} (hop:o.op= .unOp op T x) (h:jB C σ dst (.unOp op T x)=some out) (hS:Sat P B ρ σ.obj w) (hev:SV.den P ρ (jL σ x) (ev x)) (hvc:kR out.vc):
    jC P o ev w (jz P B ρ σ out):=by
  simp only[jB] at h;cases op<;>simp only[reduceCtorEq] at h
  case not=>
    split at h
    · rename_i b hx;simp at h;subst h;rw[hx] at hev;simp only[SV.den] at hev;exact jj hS (v:= .bool (!b)) (by simp[execOp,hop,zG hev,Op.unary]) (w5 _) trivial
    · cases h
  case neg=>
    split at h
    · rename_i a hx;simp at h;subst h;have:=wk hx hev;simp only[kR] at hvc;refine jj hS (v:= .int .i64 (-a)) ?_ (w9 _) trivial;have hw:IntKind.i64.wrap (-a)= -a:=qt hvc.1;simp[execOp,hop,this,Op.unary,Op.intArith,hw]
    · cases h
theorem jBo {a:Int} (h0:0≤a) (h1:a≤18446744073709551615):IntKind.u64.wrap a=a:=by
  unfold IntKind.wrap;simp[IntKind.signed,IntKind.bits];omega
theorem jDu {a:Int} (h0:0≤a) (h1:a≤255):IntKind.u8.wrap a=a:=by
  unfold IntKind.wrap;simp[IntKind.signed,IntKind.bits];omega
theorem jCM {sv:SV} {i:Int} (h:jGr sv=some i) {v:Value} (hv:SV.den P ρ sv v):∃k,v= .int k i:=by
  unfold jGr at h
  split at h
  · simp at h;subst h;simp only[SV.den] at hv;exact⟨_,zl hv⟩
  · simp at h;subst h;simp only[SV.den] at hv;exact⟨_,wR hv⟩
  · cases h
theorem jxN {U dst:Nat} {x ix:Operand} (hC:C.ok P) (hop:o.op= .index U x ix) (h:jB C σ dst (.index U x ix)=some out) (hS:Sat P B ρ σ.obj w) (hex:SV.den P ρ (jL σ x) (ev x))
    (hei:SV.den P ρ (jL σ ix) (ev ix)) (hvc:kR out.vc):jC P o ev w (jz P B ρ σ out):=by
  simp only[jB] at h
  split at h
  case h_2=>cases h
  rename_i s i hU hx hi;simp at h;subst h;simp only[kR] at hvc;rw[hx] at hex;simp only[SV.den] at hex;obtain⟨k,hi⟩:=jCM hi hei;have hlt:i.toNat<s.size:=(by omega);refine jj hS (v:= .int .u8 (qY s i.toNat)) ?_ (jlY _ _) trivial;simp only[execOp,hop,hex,hi,Sem.run_bind,run_index_string _ _ _ _ _ (hC.str _ hU)];rw[dif_pos ⟨hvc.1,hvc.2.1⟩];simp only[Result.andThen_ok,Sem.run_pure];congr 3;unfold qY;have h2:i.toNat<s.data.toList.length:=(by simpa using hlt);rw[jHq,jGY h2];rfl
theorem jsW {V U dst:Nat} {x:Operand} (hC:C.ok P) (hop:o.op= .convert V U x) (h:jB C σ dst (.convert V U x)=some out) (hS:Sat P B ρ σ.obj w) (hev:SV.den P ρ (jL σ x) (ev x)) (hvc:kR out.vc):
    jC P o ev w (jz P B ρ σ out):=by
  simp only[jB] at h
  split at h
  case h_2=>cases h
  rename_i tv ti htv hti;obtain⟨rfl,hok⟩:=hC.ti _ _ hti;obtain⟨rfl,hokV⟩:=hC.ti _ _ htv;have hv:∃d,P.underlying tv.id=some d:=by
    cases hg:tv.agg with
    |true=>
      cases hr:tv.arr with
      |false=>obtain⟨fs,e,_⟩:=hokV.str hg hr;exact⟨_,e⟩
      |true=>obtain⟨_,n,ie,e,_⟩:=hokV.arrk hr;exact⟨_,e⟩
    |false=>obtain⟨d,e,_⟩:=hokV.flat hg;exact⟨_,e⟩
  obtain⟨dv,hdv⟩:=hv;have hrun:∀(k k':IntKind) (a:Int),P.underlying ti.id=some (.int k)→ev x= .int k' a→(execOp ev o).run P w= .ok (.value (.int k (k.wrap a))) w:=by
    intro k k' a hu e;simp only[execOp,hop,e,convert,Sem.run_bind,run_underlying hdv,run_underlying hu,Result.andThen_ok];cases dv<;>simp[Conv.intToInt]
  split at h
  · rename_i hta hty;obtain⟨d,g1,_,_,_,_,g2,_⟩:=hok.flat hta;rw[g2 hty] at g1
    split at h
    · rename_i a hx;simp at h;subst h;simp only[kR] at hvc;refine jj hS (v:= .int .i64 a) ?_ (w9 _) trivial;rw[hrun _ _ a g1 (wk hx hev),qt hvc.1]
    · split at h
      · rename_i a hx;simp at h;subst h;simp only[kR] at hvc;obtain⟨k,e⟩:=jpw hx hev;refine jj hS (v:= .int .i64 a) ?_ (w9 _) trivial;rw[hrun _ _ a g1 e,qt hvc.1]
      · cases h
  · rename_i hta hty;obtain⟨d,g1,_,_,_,_,_,g3⟩:=hok.flat hta;rw[g3 _ hty] at g1
    split at h
    · rename_i a hx;simp at h;subst h;simp only[kR] at hvc;refine jj hS (v:= .int .u64 a) ?_ (jlY _ _) trivial;rw[hrun _ _ a g1 (wk hx hev),jBo hvc.1 hvc.2.1]
    · cases h
  · rename_i hta hty;obtain⟨d,g1,_,_,_,_,_,g3⟩:=hok.flat hta;rw[g3 _ hty] at g1
    split at h
    · rename_i a hx;simp at h;subst h;simp only[kR] at hvc;obtain⟨k,e⟩:=jpw hx hev;refine jj hS (v:= .int .u8 a) ?_ (jlY _ _) trivial;rw[hrun _ _ a g1 e,jDu hvc.1 hvc.2.1]
    · cases h
  · cases h
theorem jan {ev:Operand→Value} (hev:∀x,SV.den P ρ (jL σ x) (ev x)):∀(l:List Operand),SV.denL P ρ (l.map (jL σ)) (l.map ev)
  |[]=>by simp[SV.denL]
  |x::l=>by simp only[jHU,SV.denL];exact⟨ev x,l.map ev,rfl,hev x,jan hev l⟩
theorem jqV {dst:Nat} {f:Fn} {firsts caps:Array Operand} (hop:o.op= .makeFunc f firsts caps) (h:jB C σ dst (.makeFunc f firsts caps)=some out) (hS:Sat P B ρ σ.obj w)
    (hev:∀x,SV.den P ρ (jL σ x) (ev x)):jC P o ev w (jz P B ρ σ out):=by
  simp only[jB] at h
  split at h
  · rename_i f' hf;have hf:firsts= #[]:=(by simpa using hf);subst hf;simp at h;subst h;refine jj hS (v:= .func (.func f') #[] (caps.map ev)) (by simp[execOp,hop,Instr.makeFunc]) ?_ trivial;simp only[SV.den];exact⟨_,rfl,by simpa using jan hev caps.toList⟩
  · cases h
theorem jsV {dst i:Nat} {x:Operand} (hop:o.op= .extract x i) (h:jB C σ dst (.extract x i)=some out) (hS:Sat P B ρ σ.obj w) (hev:SV.den P ρ (jL σ x) (ev x)):
    jC P o ev w (jz P B ρ σ out):=by
  simp only[jB] at h
  split at h
  · rename_i vs hx;rw[hx] at hev
    split at h
    · rename_i v hv;simp at h;subst h;simp only[SV.den] at hev;obtain⟨us,e,hd⟩:=hev;obtain⟨u,e1,e2⟩:=jdl hd hv;exact jj hS (v:=u) (by simp[execOp,hop,e,Instr.extract,e1]) e2 trivial
    · cases h
  · cases h
theorem jCt {c:Call} (hC:C.ok P) (hop:o.op= .call c) (hc:c.callee= .builtin .len)
    (h:jEe C σ c.args.toList c.argTypes.toList=some out) (hS:Sat P B ρ σ.obj w) (hev:∀x,SV.den P ρ (jL σ x) (ev x)):
    jC P o ev w (jz P B ρ σ out):=by
  unfold jEe at h
  split at h
  case h_2=>cases h
  rename_i x U hargs htys
  split at h
  case h_2=>cases h
  case h_3=>
    split at h
    case h_2=>cases h
    rename_i ti tk te hmp
    split at h
    case h_2=>cases h
    rename_i l hl;simp at h;subst h;have hargs:c.args= #[x]:=(by rw[←jHb];exact hargs);have htys:c.argTypes= #[U]:=(by rw[←jHb];exact htys);obtain⟨_,_,_,hund,_⟩:=jbe hC hmp;rcases jmv hS hl (hev x) with⟨e,rfl⟩|⟨b,es,clock,e,e1,e2⟩
    · exact jj hS (v:= .int .i64 0) (by simp[execOp,hop,hc,hargs,htys,resolve,invoke,builtin,e,Builtin.len_,run_underlying hund,goInt]) (w9 _) trivial
    · refine jj hS (v:= .int .i64 l.length) ?_ (w9 _) trivial;have hg:(getObj b).run P w= .ok (.map es clock) w:=(by simp[getObj,Sem.run,e1]);simp[execOp,hop,hc,hargs,htys,resolve,invoke,builtin,e,Builtin.len_,run_underlying hund,goInt,hg,e2.1]
  rename_i te f n hsl hlen;simp at h;subst h;have hargs:c.args= #[x]:=(by rw[←jHb];exact hargs);have htys:c.argTypes= #[U]:=(by rw[←jHb];exact htys);have hev:=hev x;obtain⟨_,_,_,_,hund,_⟩:=zn hC hsl;have hrun:∀(a:Option Addr) (m c:Nat),ev x= .slice a m c→(execOp ev o).run P w= .ok (.value (.int .i64 m)) w:=by
    intro a m c e;simp[execOp,hop,hc,hargs,htys,resolve,invoke,builtin,e,Builtin.len_,run_underlying hund,goInt]
  unfold lenOf at hlen
  split at hlen
  · rename_i t l hx;simp at hlen;obtain⟨rfl,rfl⟩:=hlen;rw[hx] at hev;have hr:=zb (t:= .slice t) rfl (by simpa[SV.den] using hev);obtain⟨a,m,c,e1,e2,e3,e4,_⟩:=hr;simp at e1;exact jj hS (v:= .int .i64 l.length) (by rw[hrun a m c e1,e2]) (w9 _) ⟨e4,trivial⟩
  · rename_i ob t hx
    split at hlen
    · rename_i E t' fz nl l hob;simp at hlen;obtain⟨rfl,rfl⟩:=hlen;rw[hx] at hev;obtain⟨p,hp,k1,k0,k2⟩:=hS.obs ob _ hob;simp only[SV.den] at hev;have hev:=hev p hp;cases p with
      |none=>
        obtain⟨e1,e2⟩:=hev;exact jj hS (v:= .int .i64 l.length) (by rw[hrun _ _ _ e1,←k1,e2]) (w9 _) ⟨k0,trivial⟩
      |some q=>
        obtain⟨e1,e2⟩:=hev;exact jj hS (v:= .int .i64 l.length) (by rw[hrun _ _ _ e1,k1]) (w9 _) ⟨k0,trivial⟩
    · cases hlen
  · rename_i ob t lo m hx
    split at hlen
    · rename_i E t' fz nl l hob;simp at hlen;obtain⟨rfl,rfl⟩:=hlen;rw[hx] at hev;obtain⟨p,hp,hs⟩:=hS.obs ob _ hob;simp only[SV.den] at hev;have hev:=hev p hp;cases p with
      |none=>
        obtain⟨e1,e2⟩:=hev;exact jj hS (v:= .int .i64 m) (by rw[hrun _ _ _ e1,e2]) (w9 _) ⟨by rw[e2];decide,trivial⟩
      |some q=>
        obtain⟨b,Cp⟩:=q;obtain⟨a,cap,e1,e2,e3,e4,_⟩:=hev;have:m<4611686018427387904:=by
          obtain⟨k1,k0,_⟩:=hs;omega
        exact jj hS (v:= .int .i64 m) (by rw[hrun _ _ _ e1]) (w9 _) ⟨this,trivial⟩
    · cases hlen
  · rename_i v hx
    split at hlen
    · rename_i hn;simp at hlen;obtain⟨rfl,rfl⟩:=hlen;rw[hx] at hev;simp only[SV.den] at hev;rw[wy hn] at hev;exact jj hS (v:= .int .i64 0) (by rw[hrun _ _ _ hev];rfl) (w9 _) trivial
    · cases hlen
  · cases hlen
end
end Go.X
namespace Go.X
open Go.RowKit (Below)
section
variable {P:Program} {B:zF} {C:Ctx} {σ:St} {ρ:Env} {w:World} {o:Oper} {ev:Operand→Value} {out:Out}
theorem jsT {x:Operand} (hop:o.op= .move x∨o.op= .assign x) (hS:Sat P B ρ σ.obj w) (hev:SV.den P ρ (jL σ x) (ev x)):
    jC P o ev w (jz P B ρ σ (.pure (jL σ x))):=by
  refine jj hS (v:=ev x) ?_ hev trivial;rcases hop with h|h<;>simp[execOp,h]
theorem jxM (h:kR [False]) {R:Value→World→Prop}:jC P o ev w R:=h.1.elim
theorem jhm {t e:Nat} {ad:Option Addr} {n c:Nat} (h:P.underlying t=some (.slice e)):(Op.equal t (.slice ad n c) (.slice none 0 0)).run P w= .ok ad.isNone w:=by
  have:∀d,(Op.equalIn (d+1) t (.slice ad n c) (.slice none 0 0)).run P w= .ok ad.isNone w:=by
    intro d;cases ad<;>simp[Op.equalIn,run_underlying h]
  exact this 9999
theorem jup {ti:TI} (hok:ti.ok P) {x y:SV} {b:Bool} (h:jD8 σ ti x y=some b) (hS:Sat P B ρ σ.obj w) {vx vy:Value} (hx:SV.den P ρ x vx) (hy:SV.den P ρ y vy):
    (Op.equal ti.id vx vy).run P w= .ok b w∧(∀op X Y,(eqGuard op ti.id X Y vx vy).run P w= .ok () w)∧(binOp .eql ti.id vx vy=do pure (.bool (←Op.equal ti.id vx vy)))∧(binOp .neq ti.id vx vy=do pure (.bool (!(←Op.equal ti.id vx vy)))):=by
  unfold jD8 at h
  split at h
  · rename_i u hp
    split at h
    case h_2=>cases h
    rename_i hn;simp only[SV.den] at hy;rw[jzG hn] at hy;subst hy;obtain⟨e,he⟩:=hok.ptf hp;have eq:∀p,(Op.equal ti.id (.pointer p) (.pointer none)).run P w= .ok p.isNone w:=by
      intro p;have:∀d,(Op.equalIn (d+1) ti.id (.pointer p) (.pointer none)).run P w= .ok p.isNone w:=by
        intro d;cases p<;>simp[Op.equalIn,run_underlying he]
      exact this 9999
    have hv:∃p,vx= .pointer p∧b=p.isNone:=by
      unfold jGA at h
      split at h
      · rename_i t d;simp at h;simp only[SV.den] at hx;obtain⟨p,h1,h2⟩:=zb (t:= .ptr t) rfl hx;simp at h1;refine⟨p,h1,?_⟩;cases d with
        |none=>simp only at h2;subst h2;exact h.symm
        |some d=>obtain⟨_,_,_,rfl,_⟩:=h2;exact h.symm
      · simp at h;subst h;simp only[SV.den] at hx;obtain⟨b,off,c,e,_⟩:=hx;exact⟨_,e,rfl⟩
      · split at h
        · rename_i hl;simp at h;subst h;obtain⟨p,hp⟩:=wT hS hl;simp only[SV.den] at hx;obtain⟨_,_,_,e⟩:=hx p hp;exact⟨_,e,rfl⟩
        · cases h
      · split at h
        · rename_i hl;simp at h;subst h;obtain⟨p,hp⟩:=wT hS hl;simp only[SV.den] at hx;obtain⟨_,_,_,_,e⟩:=hx p hp;exact⟨_,e,rfl⟩
        · cases h
      · split at h
        · rename_i hn';simp at h;subst h;simp only[SV.den] at hx;rw[jzG hn'] at hx;exact⟨_,hx,rfl⟩
        · cases h
      · cases h
    obtain⟨p,rfl,rfl⟩:=hv;exact⟨eq p,fun op X Y=>by cases op<;>simp[eqGuard],rfl,rfl⟩
  · rename_i u _ hp
    split at h
    case h_2=>cases h
    rename_i hn;have hnf:∀{v:Value},jiW v=true→v= .nilFunc:=by
      intro v h;unfold jiW at h
      split at h
      · rfl
      · cases h
    simp only[SV.den] at hy;rw[hnf hn] at hy;subst hy;obtain⟨a1,a2,a3,he⟩:=hok.fkf hp;have eq:∀f x y,(Op.equal ti.id (.func f x y) .nilFunc).run P w= .ok false w:=by
      intro f x y;have:∀d,(Op.equalIn (d+1) ti.id (.func f x y) .nilFunc).run P w= .ok false w:=by
        intro d;simp[Op.equalIn,run_underlying he]
      exact this 9999
    have eq0:(Op.equal ti.id .nilFunc .nilFunc).run P w= .ok true w:=by
      have:∀d,(Op.equalIn (d+1) ti.id .nilFunc .nilFunc).run P w= .ok true w:=by
        intro d;simp[Op.equalIn,run_underlying he]
      exact this 9999
    have hv:(vx= .nilFunc∧b=true)∨∃f x y,vx= .func f x y∧b=false:=by
      unfold jGB at h
      split at h
      · simp at h;subst h;simp only[SV.den] at hx;obtain⟨k,caps,e,_⟩:=hx;exact .inr ⟨_,_,_,e,rfl⟩
      · simp at h;subst h;simp only[SV.den] at hx;obtain⟨vs,e,_⟩:=hx;exact .inr ⟨_,_,_,e,rfl⟩
      · split at h
        · rename_i hn';simp at h;subst h;simp only[SV.den] at hx;rw[hnf hn'] at hx;exact .inl ⟨hx,rfl⟩
        · cases h
      · cases h
    rcases hv with⟨rfl,rfl⟩|⟨f,x,y,rfl,rfl⟩
    · exact⟨eq0,fun op X Y=>by cases op<;>simp[eqGuard],rfl,rfl⟩
    · exact⟨eq f x y,fun op X Y=>by cases op<;>simp[eqGuard],rfl,rfl⟩
  · cases h
theorem jCw {op:BinOp} {T:Nat} {x y:Operand} {ft:Nat} (hC:C.ok P) (hop:o.op= .binOp op T x y ft) (h:jEM C σ op T (jL σ x) (jL σ y)=some out) (hS:Sat P B ρ σ.obj w)
    (hx:SV.den P ρ (jL σ x) (ev x)) (hy:SV.den P ρ (jL σ y) (ev y)) (hvc:kR out.vc):jC P o ev w (jz P B ρ σ out):=by
  have go:∀(vx vy v:Value),ev x=vx→ev y=vy→(do eqGuard op T x y vx vy;binOp op T vx vy:Sem Value).run P w= .ok v w→jz P B ρ σ out v w→jC P o ev w (jz P B ρ σ out):=by
    intro vx vy v e1 e2 hr hl;refine j6 (v:=v) (w':=w) ?_ hl;subst e1 e2;simp only[execOp,hop,Sem.run_bind] at hr⊢;cases hg:(eqGuard op T x y (ev x) (ev y)).run P w with
    |halt r w'=>rw[hg] at hr;simp[Result.andThen] at hr
    |ok u w'=>rw[hg] at hr;simp only[Result.andThen_ok] at hr⊢;rw[hr];simp
  unfold jEM at h
  split at h
  · rename_i a b ha hb;rw[ha] at hx;rw[hb] at hy;obtain⟨v,hr,hl⟩:=jj3 (P:=P) (U:=T) (X:=x) (Y:=y) h hvc hS;exact go _ _ v (zl (by simpa[SV.den] using hx)) (zl (by simpa[SV.den] using hy)) hr hl
  · rename_i a k b ha hb;rw[ha] at hx;rw[hb] at hy;have ex:=zl (by simpa[SV.den] using hx);have ey:=wR (by simpa[SV.den] using hy);have same:∀op',(op'= .shl∨op'= .shr)→op=op'→jpt op' a b=some out→jC P o ev w (jz P B ρ σ out):=by
      intro op' hc e hb;subst e;obtain⟨v,hr,hl⟩:=jj3 (P:=P) (U:=T) (X:=x) (Y:=y) hb hvc hS;refine go _ _ v ex ey ?_ hl;rw[←hr];rcases hc with rfl|rfl<;>simp[eqGuard,binOp,Op.shift]
    split at h
    · exact same .shl (.inl rfl) rfl h
    · exact same .shr (.inr rfl) rfl h
    · cases h
  · rename_i a b ha hb;rw[ha] at hx;rw[hb] at hy;obtain⟨v,hr,hl⟩:=jps (P:=P) (U:=T) (X:=x) (Y:=y) h hvc hS;exact go _ _ v (wR (by simpa[SV.den] using hx)) (wR (by simpa[SV.den] using hy)) hr hl
  · rename_i a b ha hb;rw[ha] at hx;rw[hb] at hy;have ex:=wR (by simpa[SV.den] using hx);have ey:=zl (by simpa[SV.den] using hy);have same:∀op',(op'= .shl∨op'= .shr)→op=op'→jE9 op' a b=some out→jC P o ev w (jz P B ρ σ out):=by
      intro op' hc e hb;subst e;obtain⟨v,hr,hl⟩:=jps (P:=P) (U:=T) (X:=x) (Y:=y) hb hvc hS;refine go _ _ v ex ey ?_ hl;rw[←hr];rcases hc with rfl|rfl<;>simp[eqGuard,binOp,Op.shift]
    split at h
    · exact same .shl (.inl rfl) rfl h
    · exact same .shr (.inr rfl) rfl h
    · cases h
  · split at h
    · cases h
    rename_i ti hti;obtain⟨rfl,hok⟩:=hC.ti _ _ hti
    split at h
    · rename_i hcmp;have hF:Frz σ σ []:=fun o=>⟨.inl rfl,fun ho=>by simp at ho⟩
      split at h
      · rename_i a b ha hb;have rx:=jM hS hF ha (fun o ho=>by simp at ho) hx;have ry:=jM hS hF hb (fun o ho=>by simp at ho) hy;have key:=fun ho=>hok.eqs hcmp ρ.H _ _ a b w rx ry op x y ho
        split at h
        · simp at h;subst h;exact go _ _ _ rfl rfl (key (.inl rfl)) (zK hS (w5 _) trivial)
        · simp at h;subst h;exact go _ _ _ rfl rfl (key (.inr rfl)) (zK hS (w5 _) trivial)
        · cases h
      · cases h
    · split at h
      · rename_i hn hsl;obtain⟨d,hd,_,_,_,hs,_⟩:=hok.flat (hok.slf hsl);rw[hs hsl] at hd;have ey:ev y= .slice none 0 0:=by
          unfold jFy at hn
          split at hn
          · rename_i v hv;rw[hv] at hy;simp only[SV.den] at hy;rw[hy,wy hn]
          · cases hn
        split at h
        · rename_i b hb;have hrun:∀(ad:Option Addr) (n c:Nat),ev x= .slice ad n c→b=ad.isNone→(op= .eql∨op= .neq)→
              (do eqGuard op ti.id x y (.slice ad n c) (.slice none 0 0);binOp op ti.id (.slice ad n c) (.slice none 0 0):Sem Value).run P w= .ok (.bool (match op with| .eql=>b|_=> !b)) w:=by
            intro ad n c _ hbe ho;subst hbe;have he:=jhm (w:=w) (ad:=ad) (n:=n) (c:=c) hd;rcases ho with rfl|rfl<;>simp[eqGuard,binOp,he]
          have hval:∃ad n c,ev x= .slice ad n c∧b=ad.isNone:=by
            unfold jzF at hb
            split at hb
            · rename_i ob t hxo;rw[hxo] at hx;simp only[SV.den] at hx
              split at hb
              · rename_i E t' fz l hob;simp at hb;subst hb;obtain⟨p,hp,k1,k0,k2⟩:=hS.obs ob _ hob;have hx:=hx p hp;cases p with
                |none=>obtain⟨e1,_⟩:=hx;obtain⟨rfl,_⟩:=k2;exact⟨_,_,_,e1,rfl⟩
                |some q=>obtain⟨e1,_⟩:=hx;obtain⟨k3,_⟩:=k2;refine⟨_,_,_,e1,?_⟩;have:=k3 rfl;simp[this]
              · rename_i E t' fz l hob;simp at hb;subst hb;obtain⟨p,hp,k1,k0,k2⟩:=hS.obs ob _ hob;have hx:=hx p hp;cases p with
                |none=>obtain⟨_,e⟩:=k2;exact absurd rfl e
                |some q=>obtain⟨e1,_⟩:=hx;exact⟨_,_,_,e1,rfl⟩
              · cases hb
            · rename_i v hv;rw[hv] at hx;simp only[SV.den] at hx
              split at hb
              · rename_i hn';simp at hb;subst hb;exact⟨none,0,0,by rw[hx,wy hn'],rfl⟩
              · cases hb
            · cases hb
          obtain⟨ad,n,c,ex,hbe⟩:=hval
          split at h
          · simp at h;subst h;exact go _ _ _ ex ey (hrun ad n c ex hbe (.inl rfl)) (zK hS (w5 _) trivial)
          · simp at h;subst h;exact go _ _ _ ex ey (hrun ad n c ex hbe (.inr rfl)) (zK hS (w5 _) trivial)
          · cases h
        · cases h
      · split at h
        case h_2=>cases h
        rename_i b hb;obtain⟨he,hg,e1,e2⟩:=jup hok hb hS hx hy
        split at h
        · simp at h;subst h;exact go _ _ _ rfl rfl (by simp only[Sem.run_bind,hg,Result.andThen_ok,e1,he,Sem.run_pure]) (zK hS (w5 _) trivial)
        · simp at h;subst h;exact go _ _ _ rfl rfl (by simp only[Sem.run_bind,hg,Result.andThen_ok,e2,he,Sem.run_pure]) (zK hS (w5 _) trivial)
        · cases h
theorem jxO {U dst f:Nat} {x:Operand} (hC:C.ok P) (hop:o.op= .field U x f) (h:jB C σ dst (.field U x f)=some out) (hS:Sat P B ρ σ.obj w)
    (hx:SV.den P ρ (jL σ x) (ev x)):jC P o ev w (jz P B ρ σ out):=by
  simp only[jB] at h
  split at h
  case h_2=>cases h
  rename_i ti hti;obtain⟨rfl,hok⟩:=hC.ti _ _ hti
  split at h
  case h_2=>cases h
  rename_i off ft hf;obtain⟨hf,harr⟩:=jsI hf
  split at h
  case h_2=>cases h
  rename_i tf htf;obtain⟨rfl,hokF⟩:=hC.ti _ _ htf;have hagg:ti.agg=true:=by
    cases ha:ti.agg with
    |true=>rfl
    |false=>rw[hok.flf ha] at hf;simp at hf
  obtain⟨fs,hfs,_,hfk⟩:=hok.str hagg harr;obtain⟨fd,hfd,e1,e2⟩:=hfk f _ hf;simp only at e1 e2;obtain⟨_,_,_,_,_,hsz,_⟩:=qP hokF;have hia:=jrH hokF;have hrunA:∀cs:Array Value,ev x= .agg cs→tf.agg=true→(execOp ev o).run P w= .ok (.value (.agg (cs.extract off (off+tf.size)))) w:=by
    intro cs e ha;simp[execOp,hop,Instr.field,run_underlying hfs,hfd,e,asAgg,part,e1,e2,hia,ha,hsz]
  have hrunS:∀(cs:Array Value) v,ev x= .agg cs→tf.agg=false→cs[off]? =some v→(execOp ev o).run P w= .ok (.value v) w:=by
    intro cs v e ha hv;simp[execOp,hop,Instr.field,run_underlying hfs,hfd,e,asAgg,part,e1,e2,hia,ha,hv]
  split at h
  · rename_i cs hxe;rw[hxe] at hx;simp only[SV.den] at hx;obtain⟨vs,ex,hd,h1⟩:=hx
    split at h
    · rename_i ha;simp at h;subst h;refine jj hS (hrunA vs ex ha) ?_ trivial;simp only[SV.den];have hl:(vs.extract off (off+tf.size)).toList=(vs.toList.drop off).take tf.size:=by
        simp[Array.toList_extract,List.extract_eq_take_drop]
      exact⟨_,rfl,by rw[hl];exact jh6 _ _ _ (jbm _ _ _ hd),fun u hu=>h1 u (by rw[hl] at hu;exact jIa (jIb hu))⟩
    · rename_i ha
      split at h
      · rename_i v hv;simp at h;subst h;obtain⟨u,hu,hdu⟩:=jdl hd hv;exact jj hS (hrunS vs u ex ha hu) hdu trivial
      · cases h
  · rename_i t d hxe;rw[hxe] at hx;simp only[SV.den] at hx
    split at h
    · rename_i y hta hk hsub;simp at h;subst h;obtain⟨ka,ks⟩:=hokF.known hk;obtain⟨r1,r2,r3⟩:=hx;have hrd:=jdk t off tf.ty d y _ hsub r3;have hex:∃cs,ev x= .agg cs:=by
        rw[hta] at r1;cases hv:ev x<;>simp_all [kJ]
      obtain⟨cs,ex⟩:=hex;rw[ex] at hrd;simp only[Value.cells] at hrd;cases ha:tf.agg with
      |true=>
        refine jj hS (hrunA cs ex ha) ?_ trivial;simp only[SV.den];have hpos:=(hokF.pos hk).1;have hsz:off+tf.size≤cs.size:=by
          obtain⟨v,e,_⟩:=gn _ _ _ hrd (tf.size-1) (by omega);have:=(jGZ.1 e).1;omega
        refine⟨by simp[kJ,ka,ha],by simp[Value.cells,ks];omega,tf.ty.rd_congr _ _ _ (fun i hi=> ?_) hrd⟩;simp only[Value.cells];rw[Array.getElem?_extract];simp[show i<min (off+tf.size) cs.size-off by omega]
      |false=>
        obtain⟨v,e,_⟩:=gn _ _ _ hrd 0 (by have:=(hokF.pos hk).1;omega);simp only[jH4] at e;refine jj hS (hrunS cs v ex ha e) ?_ trivial;simp only[SV.den];exact kl (by rw[ka,ha]) (vV (f:=fun j=>cs[off+j]?) (by rw[ka,ha]) (by simpa using e) hrd)
    · cases h
  · cases h
theorem jCm (l:List Value):∀(off j:Nat) (cs:Array Value),off+j+l.length≤cs.size→
    ((l.zipIdx j).foldl (fun cs (c,j)=>cs.setIfInBounds (off+j) c) cs).toList=cs.toList.take (off+j)++l++cs.toList.drop (off+j+l.length):=by
  induction l with
  |nil=>intro off j cs h;simp
  |cons a l ih=>
    intro off j cs h;simp only[jHr] at h;simp only[List.zipIdx_cons,List.foldl_cons];rw[show off+j+(a::l).length=off+(j+1)+l.length by simp;omega,ih off (j+1) _ (by simp;omega)];simp only[Array.toList_setIfInBounds];have h1:(cs.toList.set (off+j) a).take (off+(j+1))=cs.toList.take (off+j)++[a]:=by
      rw[List.take_set,show off+(j+1)=off+j+1 by omega,List.take_add_one];rw[List.set_append_right _ _ (by simp;omega)];have hlt:off+j<cs.toList.length:=(by simp;omega);have:cs.toList[off+j]? =some cs.toList[off+j]:=jGY hlt;rw[this];have:off+j-(cs.toList.take (off+j)).length=0:=(by simp;omega);rw[this];simp
    have h2:(cs.toList.set (off+j) a).drop (off+(j+1)+l.length)=cs.toList.drop (off+(j+1)+l.length):=by
      rw[List.drop_set_of_lt (by omega)]
    rw[h1,h2];simp
theorem jzg {ti:TI} (hok:ti.ok P) (ha:ti.agg=true) (hr:ti.arr=false):∃fs places,P.underlying ti.id=some (.struct fs)∧
    fs.toList.mapM (fun f=>(P.info? f.type).map fun i=>(f.offset,i.size))=some places∧
    ∀(k:Nat) (p:Nat×Nat),ti.fields[k]? =some p→∃i,P.info? p.2=some i∧places[k]? =some (p.1,i.size):=by
  obtain⟨fs,h1,h2,h3⟩:=hok.str ha hr;have main:∀(fl:List Field) (l:List (Nat×Nat)),fl.length=l.length→(∀(k:Nat) (p:Nat×Nat),l[k]? =some p→∃f:Field,fl[k]? =some f∧f.offset=p.1∧f.type=p.2)→
      (∀(k:Nat) (p:Nat×Nat),l[k]? =some p→∃i,P.info? p.2=some i)→
      ∃places,fl.mapM (fun f=>(P.info? f.type).map fun i=>(f.offset,i.size))=some places∧∀(k:Nat) (p:Nat×Nat),l[k]? =some p→∃i,P.info? p.2=some i∧places[k]? =some (p.1,i.size):=by
    intro fl
    induction fl with
    |nil=>intro l hl _ _;cases l with
      |nil=>exact⟨[],by simp,fun k p hk=>by simp at hk⟩
      |cons=>simp at hl
    |cons f fl ih=>
      intro l hl hf hi;cases l with
      |nil=>simp at hl
      |cons p l=>
        obtain⟨places,e1,e2⟩:=ih l (by simpa using hl) (fun k q hk=>by simpa using hf (k+1) q (by simpa using hk)) (fun k q hk=>hi (k+1) q (by simpa using hk));obtain⟨f',g1,g2,g3⟩:=hf 0 p (by simp);simp at g1;subst g1;obtain⟨i,hi0⟩:=hi 0 p (by simp);refine⟨(f.offset,i.size)::places,?_,fun k q hk=> ?_⟩
        · simp[List.mapM_cons,g3,hi0,e1]
        · cases k with
          |zero=>simp at hk;subst hk;exact⟨i,hi0,by simp[g2]⟩
          |succ k=>simpa using e2 k q (by simpa using hk)
  obtain⟨places,e1,e2⟩:=main fs.toList ti.fields (by simpa using h2) (fun k p hk=>by simpa using h3 k p hk) hok.fok;exact⟨fs,places,h1,e1,e2⟩
theorem gB (hC:C.ok P) (hS:Sat P B ρ σ.obj w) {fields:List (Nat×Nat)} {pl:Nat→Option (Nat×Nat)}
    (hp:∀(k:Nat) (p:Nat×Nat),fields[k]? =some p→∃i,P.info? p.2=some i∧pl k=some (p.1,i.size)) (hev:∀x,SV.den P ρ (jL σ x) (ev x)):
    ∀(parts:List (Nat×Operand)) (cs cs':List SV) (vs:Array Value),v7 C σ fields parts cs=some cs'→SV.denL P ρ cs vs.toList→(∀u∈vs.toList,u.oneCell'=true)→
      ∃vs',Instr.fill pl vs (parts.map fun(i,x)=>(i,ev x))=some vs'∧SV.denL P ρ cs' vs'.toList∧∀u∈vs'.toList,u.oneCell'=true
  |[],cs,cs',vs,h,hd,h1=>by
    simp[v7] at h;subst h
    exact⟨vs,rfl,hd,h1⟩
  | (j,x)::r,cs,cs',vs,h,hd,h1=>by
    simp only[v7] at h
    split at h
    case h_2=>cases h
    rename_i off ft hf
    split at h
    case h_2=>cases h
    rename_i new tf hnew htf
    split at h
    case h_2=>cases h
    rename_i hsz hfit
    have hsz:=jGP hsz
    have hfit:=jG6 hfit
    obtain⟨e0,hokF⟩:=hC.ti _ _ htf
    obtain⟨i,hi,hpl⟩:=hp j _ hf
    simp only at hi hpl
    obtain⟨i',z,g0,g1,_⟩:=hokF.info
    rw[e0,hi] at g0
    simp at g0;subst g0
    obtain⟨k1,k2⟩:=jgG hS hnew (hev x)
    have hl1:=zw _ _ hd
    have hl2:=zw _ _ k1
    have hcs:(ev x).cells.size=i.size:=by rw[←jHm,←hl2,hsz,g1]
    simp only[jHm] at hl1 hl2
    have hfold:=jCm (ev x).cells.toList off 0 vs (by simp;omega)
    obtain⟨vs',r1,r2,r3⟩:=gB hC hS hp hev r _ cs' ((ev x).cells.zipIdx.foldl (fun cs (c,j)=>cs.setIfInBounds (off+j) c) vs) h (by
      have e:((ev x).cells.zipIdx.foldl (fun cs (c,j)=>cs.setIfInBounds (off+j) c) vs)=(((ev x).cells.toList.zipIdx 0).foldl (fun cs (c,j)=>cs.setIfInBounds (off+j) c) vs):=by
        rw[←Array.foldl_toList];simp
      rw[e,hfold];simp only[jH4];exact jj2 hd k1) (by
      have e:((ev x).cells.zipIdx.foldl (fun cs (c,j)=>cs.setIfInBounds (off+j) c) vs)=(((ev x).cells.toList.zipIdx 0).foldl (fun cs (c,j)=>cs.setIfInBounds (off+j) c) vs):=by
        rw[←Array.foldl_toList];simp
      rw[e,hfold];intro u hu;simp only[jG1] at hu;rcases hu with(hu|hu)|hu
      · exact h1 u (jIb hu)
      · exact k2 u hu
      · exact h1 u (jIa hu))
    refine⟨vs',?_,r2,r3⟩;simp only[jHU,Instr.fill];rw[hpl];have hnot:¬((ev x).cells.size≠i.size∨off+(ev x).cells.size>vs.size):=(by omega);simp only[jHY,ne_eq,decide_eq_true_eq];rw[if_neg (by omega)];exact r1
theorem jgB:∀(l:List Value),SV.denL P ρ (l.map jn6) l
  |[]=>by simp[SV.denL]
  |a::l=>by simp only[jHU,SV.denL];exact⟨a,l,rfl,jm9 a,jgB l⟩
theorem jxR {U dst:Nat} {parts:Array (Nat×Operand)} (hC:C.ok P) (hop:o.op= .build U parts) (h:jB C σ dst (.build U parts)=some out) (hS:Sat P B ρ σ.obj w)
    (hev:∀x,SV.den P ρ (jL σ x) (ev x)):jC P o ev w (jz P B ρ σ out):=by
  simp only[jB] at h
  split at h
  case h_2=>cases h
  rename_i ti hti;obtain⟨rfl,hok⟩:=hC.ti _ _ hti
  split at h
  case h_2=>cases h
  rename_i cs ha hcs;simp at h;subst h;obtain⟨i,z,g0,_,_,g1,g2,_⟩:=hok.info;cases hr:ti.arr with
  |true=>
    obtain⟨_,n,ie,h1,h2,h3,h4,_,_,h5⟩:=hok.arrk hr;obtain⟨vs',r1,r2,r3⟩:=gB hC hS (pl:=fun i=>some (i*ie.size,ie.size)) (fun k p hk=>by
      have:=h5 k p hk;subst this;exact⟨ie,h2,by rw[h3];simp⟩) hev parts.toList _ cs z.cells hcs (by rw[g2];exact jgB _) (fun u hu=>hok.one u (by rw[←g2];exact hu))
    refine jj hS (v:= .agg vs') ?_ ?_ trivial
    · have hb:P.built ti.id (parts.map fun(i,x)=>(i,ev x)).toList=some vs':=by
        unfold Program.built;simp only[g0,h1,g1,h2];simpa using r1
      simp only[execOp,hop,Sem.run_bind,run_build w ti.id _ vs' hb,Result.andThen_ok];rfl
    · simp only[SV.den];exact⟨vs',rfl,r2,r3⟩
  |false=>
  obtain⟨fs,places,hfs,hpl,hp⟩:=jzg hok ha hr;obtain⟨vs',r1,r2,r3⟩:=gB hC hS (pl:=(places.toArray[·]?)) (fun k p hk=>by obtain⟨i,e1,e2⟩:=hp k p hk;exact⟨i,e1,by simpa using e2⟩) hev parts.toList _ cs z.cells hcs (by rw[g2];exact jgB _) (fun u hu=>hok.one u (by rw[←g2];exact hu));refine jj hS (v:= .agg vs') ?_ ?_ trivial
  · have hb:P.built ti.id (parts.map fun(i,x)=>(i,ev x)).toList=some vs':=by
      unfold Program.built;simp only[g0,hfs,g1,hpl];simpa using r1
    simp only[execOp,hop,Sem.run_bind,run_build w ti.id _ vs' hb,Result.andThen_ok];rfl
  · simp only[SV.den];exact⟨vs',rfl,r2,r3⟩
theorem jaK {τ:St} (hS:Sat P B ρ τ.obj w) {fz:List Nat} (hF:Frz σ τ fz) {t:Ty} (hev:∀x,SV.den P ρ (jL σ x) (ev x)):
    ∀(parts:List (Nat×Operand)) (i:Nat) (l:List t.Data) (fz':List Nat),jeF σ t parts i=some (l,fz')→(∀o,o∈fz'→o∈fz)→
      ∃vs:List Value,parts.map (fun(i,x)=>(i,ev x))=(vs.zipIdx i).map (fun x=>(x.2,x.1))∧vs.length=l.length∧(∀v∈vs,v.cells.size=t.size)∧∀(k:Nat) v x,vs[k]? =some v→l[k]? =some x→t.rv ρ.H v x
  |[],i,l,fz',h,_=>by
    simp[jeF] at h
    obtain⟨rfl,_⟩:=h
    exact⟨[],rfl,rfl,fun v hv=>by simp at hv,fun k v x hk=>by simp at hk⟩
  | (j,x)::r,i,l,fz',h,hs=>by
    simp only[jeF] at h
    split at h
    case h_2=>cases h
    rename_i hij
    have hij:=jGP hij
    subst hij
    split at h
    case h_2=>cases h
    rename_i d f hd
    split at h
    case h_2=>cases h
    rename_i l' f' hr
    simp at h
    obtain⟨rfl,rfl⟩:=h
    obtain⟨vs,e1,e2,e3,e4⟩:=jaK hS hF hev r (i+1) l' f' hr (fun o ho=>hs o (jGQ _ ho))
    have hrv:=jM hS hF hd (fun o ho=>hs o (jGR _ ho)) (hev x)
    refine⟨ev x::vs,by simp[e1],by simp[e2],?_,?_⟩
    · intro v hv
      rcases jGS.1 hv with rfl|hv
      · exact hrv.2.1
      · exact e3 v hv
    · intro k v y hk hy
      cases k with
      |zero=>simp at hk hy;subst hk hy;exact hrv
      |succ k=>exact e4 k v y (by simpa using hk) (by simpa using hy)
theorem jmZ {s:Nat}:∀(vs:List Value),(∀v∈vs,v.cells.size=s)→∀(i j:Nat) (v:Value),vs[i]? =some v→j<s→(vs.flatMap fun v=>v.cells.toList)[i*s+j]? =v.cells[j]?
  |[],_,i,j,v,h,_=>by simp at h
  |u::vs,hs,i,j,v,h,hj=>by
    have hu:u.cells.size=s:=hs u jHv
    simp only[List.flatMap_cons]
    cases i with
    |zero=>simp at h;subst h;simp only[Nat.zero_mul,jHX];rw[jG4 (by simp;omega)];simp
    |succ i=>
      rw[jG3 (by simp[hu,jHA];omega)]
      have:=jmZ vs (fun v hv=>hs v (jGV _ hv)) i j v (by simpa using h) hj
      rw[←this]
      congr 1
      simp[hu,jHA];omega
theorem jqL {s:Nat}:∀(vs:List Value),(∀v∈vs,v.cells.size=s)→(vs.flatMap fun v=>v.cells.toList).length=vs.length*s
  |[],_=>by simp
  |u::vs,hs=>by
    have hu:u.cells.size=s:=hs u jHv
    simp only[List.flatMap_cons,jHa,jHr,jHm,hu,jqL vs (fun v hv=>hs v (jGV _ hv))]
    rw[jHA];omega
end
end Go.X
namespace Go.X
open Go.RowKit (Below)
section
variable {P:Program} {B:zF} {C:Ctx} {σ:St} {ρ:Env} {w:World} {o:Oper} {ev:Operand→Value} {out:Out}
def jpR (obj:Nat→Option Ob) (own:Option Nat) (dst:Nat) (x:Ob):Nat→Option Ob:=fun o=>if o=dst then some x else if own=some o then none else obj o
theorem jl8 (hS:Sat P B ρ σ.obj w) {own:Option Nat} {dst:Nat} (hd:σ.obj dst=none) (hn:kz σ.obj dst) {w':World} {row:Option Nat} (hg:w.grownBy w' row) (hdr:w.drawn≤w'.drawn)
    (hrow:∀g,row=some g→∃o C,own=some o∧ρ.blk o=some (some (g,C))∧ρ.H g=none) (newp:Option (Nat×Nat)) (hnew:∀b C,newp=some (b,C)→row=some b∨b=w.heap.size) (len:Nat) (x:Ob)
    (hx:∀ρ':Env,ρ'.H=ρ.H→ρ'.len dst=len→ρ.le ρ' [dst]→j9 P ρ' w' dst newp x):
    ∃ρ',Sat P B ρ' (jpR σ.obj own dst x) w'∧ρ.le ρ' [dst]∧ρ'.blk dst=some newp∧ρ'.len dst=len∧ρ'.H=ρ.H:=by
  have hbd:=hS.dead dst hd
  let ρ':Env:={H:=ρ.H,blk:=fun o=>if o=dst then some newp else if own=some o then none else ρ.blk o,len:=fun o=>if o=dst then len else ρ.len o}
  have hle:ρ.le ρ' [dst]:=⟨fun _ _ h=>h,fun o p ho hp=>by
    have ho:o≠dst:=(by simpa using ho);simp only[ρ',ho,if_false] at hp
    split at hp
    · cases hp
    · exact hp,fun o ho=>by simp[ρ',show o≠dst by simpa using ho]⟩
  have hne:∀b,ρ.H b≠none→row≠some b:=fun b hb e=>by
    obtain⟨_,_,_,_,h⟩:=hrow b e;exact hb h
  refine⟨ρ',⟨hg.os.trans hS.os,hg.tape.trans hS.tape,hg.output.trans hS.output,jG5 hS.drawn hdr,jG5 hS.size hg.size,?_,hS.oldH,?_,?_,?_,?_,?_⟩,hle,by simp[ρ'],by simp[ρ'],rfl⟩
  · refine⟨fun b c hb=> ?_,hS.good.2⟩;have:=hne b (by show ρ.H b≠none;rw[show ρ.H b=some c from hb];simp);rw[hg.block b (hS.good.lt hb) (fun e=>this e.symm)];exact hS.good.1 b c hb
  · intro b hb hbo;have h1:=hS.size;rw[hg.block b (by omega) (fun e=> ?_)]
    · exact hS.old b hb hbo
    · obtain⟨o',C',_,e2,_⟩:=hrow b e.symm;rcases hS.own o' b C' e2 with h2|h2
      · omega
      · exact hbo h2
  · intro o' x' hx';unfold jpR at hx';by_cases e:o'=dst
    · subst e;rw[if_pos rfl] at hx';simp at hx';subst hx';exact⟨_,by simp[ρ'],hx ρ' rfl (by simp[ρ']) hle⟩
    · rw[if_neg e] at hx';by_cases e':own=some o'
      · rw[if_pos e'] at hx';cases hx'
      · rw[if_neg e'] at hx';obtain⟨p,hp,hs⟩:=hS.obs o' x' hx';refine⟨p,by simp[ρ',e,e',hp],jN hle (by simpa using e) (fun T fz cs hcs o'' ho''=> ?_) (fun b C hpb=>⟨rfl,?_⟩) hs⟩
        · simp at ho'';subst ho'';exact hn o' T fz cs (by rw[hx',hcs])
        · subst hpb;refine hg.block b (yD hS hp).1 fun er=> ?_
          obtain⟨o2,C2,h1,h2,_⟩:=hrow b er.symm;exact e' (by rw[h1,hS.inj o2 o' b C2 C h2 hp])
  · intro o' ho';unfold jpR at ho';by_cases e:o'=dst
    · rw[if_pos e] at ho';cases ho'
    · rw[if_neg e] at ho';by_cases e':own=some o'
      · simp[ρ',e,e']
      · rw[if_neg e'] at ho';simp[ρ',e,e',hS.dead o' ho']
  · have one:∀o2 b C1 C2,newp=some (b,C1)→o2≠dst→own≠some o2→ρ.blk o2=some (some (b,C2))→False:=by
      intro o2 b C1 C2 h1 _ h3 h4;rcases hnew b C1 h1 with h5|h5
      · obtain⟨o3,C3,h6,h7,_⟩:=hrow b h5;exact h3 (by rw[h6,hS.inj o3 o2 b C3 C2 h7 h4])
      · have:=(yD hS h4).1;omega
    intro o1 o2 b C1 C2 h1 h2;simp only[ρ'] at h1 h2;by_cases e1:o1=dst<;>by_cases e2:o2=dst
    · rw[e1,e2]
    · simp[e1] at h1;simp only[e2,if_false] at h2
      split at h2
      · cases h2
      · rename_i e3;exact(one o2 b C1 C2 h1 e2 e3 h2).elim
    · simp[e2] at h2;simp only[e1,if_false] at h1
      split at h1
      · cases h1
      · rename_i e3;exact(one o1 b C2 C1 h2 e1 e3 h1).elim
    · simp only[e1,e2,if_false] at h1 h2
      split at h1
      · cases h1
      · split at h2
        · cases h2
        · exact hS.inj o1 o2 b C1 C2 h1 h2
  · intro o1 b C1 h1;simp only[ρ'] at h1;by_cases e1:o1=dst
    · simp[e1] at h1;rcases hnew b C1 h1 with h5|h5
      · obtain⟨o3,C3,_,h7,_⟩:=hrow b h5;exact hS.own o3 b C3 h7
      · have:=hS.size;exact .inl (by omega)
    · simp only[e1,if_false] at h1
      split at h1
      · cases h1
      · exact hS.own o1 b C1 h1
theorem jBJ (hS:Sat P B ρ σ.obj w) {q g0 C0:Nat} (hq:ρ.blk q=some (some (g0,C0))) (hH0:ρ.H g0=none) (hn:kz σ.obj q) {w':World} (hg:w.grownBy w' (some g0)) (hdr:w.drawn≤w'.drawn)
    (g cap:Nat) (hnew:g=g0∨g=w.heap.size) (len:Nat) (x:Ob) (hx:∀ρ':Env,ρ'.H=ρ.H→ρ'.len q=len→ρ.le ρ' [q]→j9 P ρ' w' q (some (g,cap)) x):
    ∃ρ',Sat P B ρ' (jij σ.obj q (some x)) w'∧ρ.le ρ' [q]∧ρ'.blk q=some (some (g,cap))∧ρ'.len q=len∧ρ'.H=ρ.H:=by
  let ρ':Env:={H:=ρ.H,blk:=fun o=>if o=q then some (some (g,cap)) else ρ.blk o,len:=fun o=>if o=q then len else ρ.len o}
  have hle:ρ.le ρ' [q]:=⟨fun _ _ h=>h,fun o p ho hp=>by
    have ho:o≠q:=(by simpa using ho);simpa only[ρ',ho,if_false] using hp,fun o ho=>by simp[ρ',show o≠q by simpa using ho]⟩
  have hne:∀b,ρ.H b≠none→b≠g0:=fun b hb e=>by subst e;exact hb hH0
  have hg0:g0<w.heap.size:=(yD hS hq).1;refine⟨ρ',⟨hg.os.trans hS.os,hg.tape.trans hS.tape,hg.output.trans hS.output,jG5 hS.drawn hdr,jG5 hS.size hg.size,?_,hS.oldH,?_,?_,?_,?_,?_⟩,hle,by simp[ρ'],by simp[ρ'],rfl⟩
  · refine⟨fun b c hb=> ?_,hS.good.2⟩;have:=hne b (by show ρ.H b≠none;rw[show ρ.H b=some c from hb];simp);rw[hg.block b (hS.good.lt hb) (fun e=>this (by simpa using e))];exact hS.good.1 b c hb
  · intro b hb hbo;have h1:=hS.size;rw[hg.block b (by omega) (fun e=> ?_)]
    · exact hS.old b hb hbo
    · have e:b=g0:=(by simpa using e);subst e;rcases hS.own q b C0 hq with h2|h2
      · omega
      · exact hbo h2
  · intro o' x' hx';unfold jij at hx';by_cases e:o'=q
    · subst e;rw[if_pos rfl] at hx';simp at hx';subst hx';exact⟨_,by simp[ρ'],hx ρ' rfl (by simp[ρ']) hle⟩
    · rw[if_neg e] at hx';obtain⟨p,hp,hs⟩:=hS.obs o' x' hx';refine⟨p,by simp[ρ',e,hp],jN hle (by simpa using e) (fun T fz cs hcs o'' ho''=> ?_) (fun b C hpb=>⟨rfl,?_⟩) hs⟩
      · simp at ho'';subst ho'';exact hn o' T fz cs (by rw[hx',hcs])
      · subst hpb;refine hg.block b (yD hS hp).1 fun er=> ?_
        have er:b=g0:=(by simpa using er);subst er;exact e (hS.inj o' q b C C0 hp hq)
  · intro o' ho';unfold jij at ho';by_cases e:o'=q
    · rw[if_pos e] at ho';cases ho'
    · rw[if_neg e] at ho';simp[ρ',e,hS.dead o' ho']
  · have one:∀o2 C2,o2≠q→ρ.blk o2=some (some (g,C2))→False:=by
      intro o2 C2 h3 h4;rcases hnew with h5|h5
      · subst h5;exact h3 (hS.inj o2 q g C2 C0 h4 hq)
      · have:=(yD hS h4).1;omega
    intro o1 o2 b C1 C2 h1 h2;simp only[ρ'] at h1 h2;by_cases e1:o1=q<;>by_cases e2:o2=q
    · rw[e1,e2]
    · simp[e1] at h1;simp only[e2,if_false] at h2;rw[←h1.1] at h2;exact(one o2 C2 e2 h2).elim
    · simp[e2] at h2;simp only[e1,if_false] at h1;rw[←h2.1] at h1;exact(one o1 C1 e1 h1).elim
    · simp only[e1,e2,if_false] at h1 h2;exact hS.inj o1 o2 b C1 C2 h1 h2
  · intro o1 b C1 h1;simp only[ρ'] at h1;by_cases e1:o1=q
    · simp[e1] at h1;rcases hnew with h5|h5
      · rw[←h1.1,h5];exact hS.own q g0 C0 hq
      · have:=hS.size;exact .inl (by omega)
    · simp only[e1,if_false] at h1;exact hS.own o1 b C1 h1
theorem jva {H:Imm} {t:Ty} (f:Nat→Option Value) (l:List t.Data) (h:∀(i:Nat) x,l[i]? =some x→t.rd H (fun j=>f (i*t.size+j)) x):
    ∃us:List Value,us.length=l.length*t.size∧(∀(j:Nat) u,us[j]? =some u→f j=some u)∧(∀u∈us,u.oneCell'=true)∧∀(i:Nat) x,l[i]? =some x→t.rd H (fun j=>us[i*t.size+j]?) x:=by
  have key:∀k,k<l.length*t.size→∃v,f k=some v∧v.oneCell'=true:=by
    intro k hk;have hs:0<t.size:=by
      rcases jH2 t.size with h0|h0
      · rw[h0] at hk;simp at hk
      · exact h0
    have hi:k/t.size<l.length:=(Nat.div_lt_iff_lt_mul hs).2 hk;obtain⟨v,e1,e2⟩:=gn t _ _ (h _ _ (jGY hi)) (k%t.size) (Nat.mod_lt _ hs);refine⟨v,?_,e2⟩;rw[←e1];congr 1;rw[Nat.mul_comm];exact(Nat.div_add_mod _ _).symm
  refine⟨(List.range (l.length*t.size)).map fun k=>(f k).getD undef,by simp,fun j u hu=> ?_,fun u hu=> ?_,fun i x hx=> ?_⟩
  · rw[jH6] at hu;by_cases hj:j<l.length*t.size
    · rw[List.getElem?_range hj] at hu;simp at hu;obtain⟨v,e,_⟩:=key j hj;rw[e] at hu⊢;simpa using hu
    · rw[List.getElem?_eq_none (by simp;omega)] at hu;simp at hu
  · simp only[jHs,jG9] at hu;obtain⟨k,hk,rfl⟩:=hu;obtain⟨v,e,e2⟩:=key k hk;rw[e];exact e2
  · have hi:i<l.length:=(jGW.1 hx).1;refine t.rd_congr _ _ _ (fun j hj=> ?_) (h i x hx);have hk:i*t.size+j<l.length*t.size:=by
      have:(i+1)*t.size≤l.length*t.size:=jG8 _ hi;rw[jHA] at this;omega
    rw[jH6,List.getElem?_range hk];obtain⟨v,e,_⟩:=key _ hk;simp[e]
structure Src (H:Imm) (w:World) (t:Ty) (v:Value) (l:List t.Data):Prop where
  len:l.length<4611686018427387904
  val:(v= .slice none 0 0∧l=[])∨∃(ad:Addr) (c:Nat) (us:List Value),v= .slice (some ad) l.length c∧us.length=l.length*t.size∧(∀(j:Nat) u,us[j]? =some u→w.cell? (ad.add j)=some u)∧
      (∀u∈us,u.oneCell'=true)∧∀(i:Nat) x,l[i]? =some x→t.rd H (fun j=>us[i*t.size+j]?) x
theorem jyH {H:Imm} {t:Ty} {l:List t.Data} {v:Value} {b off c:Nat} {vs:Array Value} {T:Nat} {fr:Nat×Nat} (hlen:l.length<4611686018427387904) (hw:w.heap[b]? =some (.cells vs T fr))
    (hv:v= .slice (some ⟨b,off,none⟩) l.length c) (h:∀(i:Nat) x,l[i]? =some x→t.rd H (fun j=>vs[off+i*t.size+j]?) x):Src H w t v l:=by
  obtain⟨us,h1,h2,h3,h4⟩:=jva (H:=H) (t:=t) (fun j=>vs[off+j]?) l (fun i x hx=>t.rd_congr _ _ _ (fun j _=>by simp only[jHZ]) (h i x hx));exact⟨hlen,.inr ⟨_,c,us,hv,h1,fun j u hu=>by rw[qW,jng hw];exact h2 j u hu,h3,h4⟩⟩
theorem jvE {H:Imm} {t:Ty} {v:Value} {ad:Addr} {c:Nat} (hv:v= .slice (some ad) 0 c):Src H w t v []:=
  ⟨by simp,.inr ⟨ad,c,[],hv,by simp,fun j u hu=>by simp at hu,fun u hu=>by simp at hu,fun i x hx=>by simp at hx⟩⟩
theorem jh3 (hS:Sat P B ρ σ.obj w) {t:Ty} {sv:SV} {l:List t.Data} (h:gD σ t sv=some l) {v:Value} (hv:SV.den P ρ sv v):Src ρ.H w t v l:=by
  unfold gD at h
  split at h
  · rename_i t' d;obtain⟨e,rfl⟩:=jl h;subst e;simp only[SV.den] at hv;obtain⟨a,n,c,e1,e2,e3,e4,e6,e5⟩:=zb (t:= .slice t) rfl hv;simp at e1;simp only[qU];cases a with
    |none=>
      have hc:=e6 rfl;have hn:n=0:=(by omega);subst hc hn;have:d=[]:=jHy e2.symm;exact⟨e4,.inl ⟨e1,this⟩⟩
    |some ad=>
      by_cases hne:d=[]
      · subst hne;simp at e2;subst e2;exact jvE e1
      · obtain⟨b,off,blk,e,f2,f3⟩:=e5 hne;simp at e;subst e;obtain⟨T,fr,hw⟩:=hS.good.cells f2;exact jyH e4 hw (by rw[e1,e2]) f3
  · rename_i ob u
    split at h
    · rename_i E t' fz nl l' hob;obtain⟨e,rfl⟩:=jl h;cases e;simp only[qU];obtain⟨p,hp,k1,k0,k2⟩:=hS.obs ob _ hob;simp only[SV.den] at hv;have hv:=hv p hp;cases p with
      |none=>
        obtain⟨e1,_⟩:=hv;exact⟨k0,.inl ⟨e1,k2.1⟩⟩
      |some q=>
        obtain⟨b,Cp⟩:=q;obtain⟨e1,e2⟩:=hv;obtain⟨_,vs,hw,hvs,hlC,_,hr,_⟩:=k2;exact jyH k0 hw (by rw[e1,k1]) (fun i x hx=>t.rd_congr _ _ _ (fun j _=>by simp) (hr i x hx))
    · cases h
  · rename_i ob u lo n
    split at h
    · rename_i E t' fz nl l' hob
      split at h
      · rename_i l'' hc;obtain⟨e1,rfl⟩:=jl hc;obtain⟨e,rfl⟩:=jl h;cases e1;cases e;simp only[qU];obtain⟨p,hp,k1,k0,k2⟩:=hS.obs ob _ hob;simp only[SV.den] at hv;have hv:=hv p hp;cases p with
        |none=>
          obtain⟨e1,rfl⟩:=hv;exact⟨by simp,.inl ⟨e1,by simp⟩⟩
        |some q=>
          obtain⟨b,Cp⟩:=q;obtain⟨a,cap,e1,e2,e3,e4,e5⟩:=hv;obtain⟨_,vs,hw,hvs,hlC,_,hr,_⟩:=k2;have hlen:((l'.drop lo).take n).length=n:=(by simp;omega);rcases jH2 n with h0|h0
          · subst h0;simp only[List.take_zero];exact jvE e1
          · rw[e5 (.inr (by omega))] at e1;refine jyH (by omega) hw (by rw[e1,hlen]) (fun i x hx=> ?_);rw[jH3] at hx
            split at hx
            · rw[jHw] at hx;have:=hr _ _ hx;refine t.rd_congr _ _ _ (fun j _=> ?_) this;simp only[jHD]
            · cases hx
      · cases h
    · cases h
  · rename_i u
    split at h
    · rename_i hn;simp at h;subst h;simp only[SV.den] at hv;exact⟨by simp,.inl ⟨by rw[hv,wy hn],rfl⟩⟩
    · cases h
  · cases h
theorem jnV {ti te:TI} {U:Nat} (hC:C.ok P) (hsl:C.slice U=some (ti,te)) {v x:Value} {n:Nat} {xs:List Value} (hown:w.ownsRow 0 ti.elem te.ty.size v n xs) {l:List te.ty.Data} (hsrc:Src ρ.H w te.ty x l)
    (h63:n<4611686018427387904) (hb:(n+l.length)*te.bytes≤140737488355328) (ty:Nat):
    ∃(v':Value) (w':World) (us:List Value),(Builtin.append_ #[U,U] ty #[v,x]).run P w= .ok v' w'∧w'.ownsRow 0 ti.elem te.ty.size v' (n+l.length) (xs++us)∧w.grownBy w' v.ownBlock∧
      (v'= .slice none 0 0↔v= .slice none 0 0∧l=[])∧(v'.ownBlock=v.ownBlock∨v'.ownBlock=some w.heap.size)∧us.length=l.length*te.ty.size∧
      ∀(i:Nat) x,l[i]? =some x→te.ty.rd ρ.H (fun j=>us[i*te.ty.size+j]?) x:=by
  obtain⟨_,hte,_,hokE,hund,hka,hks,hpos⟩:=zn hC hsl;obtain⟨i,z,g0,g1,g2,g3,g4,_⟩:=hokE.info;rw[hte] at g0;obtain⟨hlen,⟨rfl,rfl⟩|⟨ad,c,us,rfl,h1,h2,h3,h4⟩⟩:=hsrc
  · refine⟨v,w,[],run_append_owned_none w 0 U ty ti.elem i te.ty.size hund g0 v n xs hown,by simpa using hown,⟨rfl,rfl,rfl,jGU _,fun _ _ _=>rfl⟩,by simp,.inl rfl,by simp,fun i x hx=>by simp at hx⟩
  · obtain⟨v',w',r1,r2,r3,r4,r5⟩:=run_append_own_at (P:=P) w 0 U ty ti.elem i z te.ty.size te.bytes hund g0 g3 (by rw[hks,g1]) g2 (by rw[hks,←hokE.zlen,←g4];simp) (by omega) v n xs hown ad l.length c us h1 h2 h3
      (by simp only[maxLen];omega) hb (jG2 _)
    exact⟨v',w',us,r1,r2,r3,by rw[r4];simp,r5,h1,h4⟩
theorem jBB {ti te:TI} {v':Value} {w':World} {n m:Nat} {xs us:List Value} {l' news:List te.ty.Data} (hown:w'.ownsRow 0 ti.elem te.ty.size v' (n+m) (xs++us)) (hl':l'.length=n) (hm:news.length=m)
    (hxs:xs.length=n*te.ty.size) (_:us.length=m*te.ty.size) {H:Imm}
    (h1:∀(i:Nat) x,l'[i]? =some x→te.ty.rd H (fun j=>xs[i*te.ty.size+j]?) x) (h2:∀(i:Nat) x,news[i]? =some x→te.ty.rd H (fun j=>us[i*te.ty.size+j]?) x):
    (v'= .slice none 0 0∧n+m=0)∨∃(g cap:Nat) (vs:Array Value),v'= .slice (some ⟨g,0,none⟩) (n+m) cap∧w'.heap[g]? =some (.cells vs ti.elem (0,0))∧vs.size=cap*te.ty.size∧n+m≤cap∧cap≤maxLen∧
      ∀(i:Nat) x,(l'++news)[i]? =some x→te.ty.rd H (fun j=>vs[i*te.ty.size+j]?) x:=by
  obtain⟨k1,⟨rfl,k2⟩|⟨g,cap,vs,rfl,_,k3,k4,k5,k6,k7⟩⟩:=hown
  · exact .inl ⟨rfl,k2⟩
  · refine .inr ⟨g,cap,vs,rfl,k3,k6,k4,k5,fun i x hx=> ?_⟩;have hi:i<n+m:=(by have:=(jGW.1 hx).1;simp at this;omega);have hcell:∀j,j<te.ty.size→(xs++us)[i*te.ty.size+j]? =vs[i*te.ty.size+j]? :=by
      intro j hj;have:(i+1)*te.ty.size≤(n+m)*te.ty.size:=jG8 _ hi;rw[jHA] at this;rw[←k7,jHd (by omega)];simp
    by_cases hin:i<n
    · rw[jG4 (by omega)] at hx;refine te.ty.rd_congr _ _ _ (fun j hj=> ?_) (h1 i x hx);rw[←hcell j hj,jG4];have:(i+1)*te.ty.size≤n*te.ty.size:=jG8 _ hin;rw[jHA] at this;omega
    · rw[jG3 (by omega),hl'] at hx;refine te.ty.rd_congr _ _ _ (fun j hj=> ?_) (h2 _ x hx);have hle:n*te.ty.size≤i*te.ty.size:=jG8 _ (by omega);rw[←hcell j hj,jG3 (by omega),hxs];congr 1;rw[Nat.sub_mul];omega
theorem jf0 {U:Nat} {ti te:TI} (hsl:C.slice U=some (ti,te)):zW te.ty=true:=by
  unfold Ctx.slice at hsl
  split at hsl
  · split at hsl
    · split at hsl
      · split at hsl
        · rename_i hk;simp at hsl;rw[←hsl.2];exact hk
        · cases hsl
      · cases hsl
    · cases hsl
  · cases hsl
theorem jfs {ti te:TI} {U dst:Nat} {c:Call} {b x:Operand} (hC:C.ok P) (hop:o.op= .call c) (hc:c.callee= .builtin .append) (hargs:c.args= #[b,x]) (htys:c.argTypes= #[U,U])
    (hsl:C.slice U=some (ti,te)) (hS:Sat P B ρ σ.obj w) (hd:σ.obj dst=none) (hn:kz σ.obj dst) {own:Option Nat} {n:Nat} {xs:List Value} {l' news:List te.ty.Data}
    (hl':l'.length=n) (hxs:xs.length=n*te.ty.size) (hlt:n<4611686018427387904) (h1:∀(i:Nat) x,l'[i]? =some x→te.ty.rd ρ.H (fun j=>xs[i*te.ty.size+j]?) x)
    {row:Option Nat} (hrow:∀g,row=some g→∃o C,own=some o∧ρ.blk o=some (some (g,C))∧ρ.H g=none)
    (hX:∃(v':Value) (w':World) (us:List Value),(Builtin.append_ #[U,U] o.type #[ev b,ev x]).run P w= .ok v' w'∧w'.ownsRow 0 ti.elem te.ty.size v' (n+news.length) (xs++us)∧w.grownBy w' row∧
      (v'= .slice none 0 0↔ev b= .slice none 0 0∧news=[])∧(v'.ownBlock=row∨v'.ownBlock=some w.heap.size)∧us.length=news.length*te.ty.size∧
      ∀(i:Nat) x,news[i]? =some x→te.ty.rd ρ.H (fun j=>us[i*te.ty.size+j]?) x) (hb:(n+news.length)*te.bytes≤140737488355328) {nl:Nl}
    (hA:ev b= .slice none 0 0→news=[]→nl≠.no) (hB:nl= .yes→¬(ev b= .slice none 0 0∧news=[])→l'++news≠[])
    {vc:List Prop} {wr:List (Nat×Option Ob)} (hwr:({σ with ob:=wr++σ.ob}:St).obj=jpR σ.obj own dst (.row ti.elem te.ty false nl (l'++news))):
    jC P o ev w (jz P B ρ σ ⟨vc,[],.own dst te.ty,[],wr,[dst]⟩):=by
  obtain⟨_,hte,_,hokE,_,_,_,_⟩:=zn hC hsl;obtain⟨v',w',us,r1,r2,r3,r4,r5,r6,r7⟩:=hX;have hbpos:0<te.bytes:=by
    have:zW te.ty=true:=by
      unfold Ctx.slice at hsl
      split at hsl
      · split at hsl
        · split at hsl
          · split at hsl
            · rename_i hk;simp at hsl;rw[←hsl.2];exact hk
            · cases hsl
          · cases hsl
        · cases hsl
      · cases hsl
    exact(hokE.pos this).2
  have hlen:(l'++news).length=n+news.length:=(by simp[hl']);have hsmall:n+news.length<4611686018427387904:=by
    have:(n+news.length)*1≤(n+news.length)*te.bytes:=jH7 _ hbpos;omega
  have hrun:(execOp ev o).run P w= .ok (.value v') w':=by
    simp only[execOp,hop,Sem.run_bind,resolve,hc,hargs,htys,Sem.run_pure,Result.andThen_ok,invoke,builtin];simp[r1]
  refine j6 hrun ?_;have hleft:=jBB (te:=te) (ti:=ti) r2 hl' rfl hxs r6 h1 r7;rcases hleft with⟨e1,e2⟩|⟨g,cap,vs,e1,e2,e3,e4,e5,e6⟩
  · obtain⟨f1,f2⟩:=r4.1 e1;have hnil:l'++news=[]:=jHy (by omega);obtain⟨ρ',q1,q2,q3,q4,q5⟩:=jl8 hS (own:=own) hd hn r3 (zB _ r1) hrow none (by simp) (n+news.length) (.row ti.elem te.ty false nl (l'++news)) (fun ρ' _ hlen' _=>
      ⟨by rw[hlen',hlen],by rw[hlen];exact hsmall,hnil,hA f1 f2⟩)
    refine⟨ρ',?_,q2,?_,trivial⟩
    · show Sat P B ρ' ({σ with ob:=wr++(q6 σ []++σ.ob)}:St).obj _;simp only[q6,jHh];rw[hwr];exact q1
    · simp only[SV.den];intro p hp;rw[q3] at hp;simp at hp;subst hp;exact⟨e1,by rw[q4];exact e2⟩
  · have hne:¬(ev b= .slice none 0 0∧news=[]):=fun h=>by have:=r4.2 h;rw[e1] at this;cases this
    have hblk:row=some g∨g=w.heap.size:=by
      rw[e1] at r5;simp only[Value.ownBlock,Option.some.injEq] at r5;rcases r5 with h|h
      · exact .inl h.symm
      · exact .inr h
    have hHg:ρ.H g=none:=by
      rcases hblk with h|h
      · obtain⟨_,_,_,_,h⟩:=hrow g h;exact h
      · subst h;cases hc:ρ.H w.heap.size with
        |none=>rfl
        |some c=>have:=hS.good.lt hc;omega
    obtain⟨ρ',q1,q2,q3,q4,q5⟩:=jl8 hS (own:=own) hd hn r3 (zB _ r1) hrow (some (g,cap)) (fun b C hbC=>by simp at hbC;rw[←hbC.1];exact hblk) (n+news.length) (.row ti.elem te.ty false nl (l'++news)) (fun ρ' hH hlen' _=>
      ⟨by rw[hlen',hlen],by rw[hlen];exact hsmall,fun h=>hB h hne,vs,e2,e3,by rw[hlen];exact e4,e5,fun i x hx=>by rw[hH];exact e6 i x hx,by rw[hH];exact hHg⟩)
    refine⟨ρ',?_,q2,?_,trivial⟩
    · show Sat P B ρ' ({σ with ob:=wr++(q6 σ []++σ.ob)}:St).obj _;simp only[q6,jHh];rw[hwr];exact q1
    · simp only[SV.den];intro p hp;rw[q3] at hp;simp at hp;subst hp;exact⟨by rw[e1,q4],by rw[q4];exact e4⟩
theorem zT {ti te:TI} {U dst:Nat} {c:Call} {b x:Operand} (hC:C.ok P) (hop:o.op= .call c) (hc:c.callee= .builtin .append) (hargs:c.args= #[b,x]) (htys:c.argTypes= #[U,U])
    (hsl:C.slice U=some (ti,te)) (hS:Sat P B ρ σ.obj w) (hd:σ.obj dst=none) (hn:kz σ.obj dst) {own:Option Nat} {n:Nat} {xs:List Value} {l' news:List te.ty.Data}
    (hown:w.ownsRow 0 ti.elem te.ty.size (ev b) n xs) (hl':l'.length=n) (hlt:n<4611686018427387904) (h1:∀(i:Nat) x,l'[i]? =some x→te.ty.rd ρ.H (fun j=>xs[i*te.ty.size+j]?) x)
    (hrow:∀g,(ev b).ownBlock=some g→∃o C,own=some o∧ρ.blk o=some (some (g,C))∧ρ.H g=none)
    (hsrc:Src ρ.H w te.ty (ev x) news) (hb:(n+news.length)*te.bytes≤140737488355328) {nl:Nl}
    (hA:ev b= .slice none 0 0→news=[]→nl≠.no) (hB:nl= .yes→¬(ev b= .slice none 0 0∧news=[])→l'++news≠[])
    {vc:List Prop} {wr:List (Nat×Option Ob)} (hwr:({σ with ob:=wr++σ.ob}:St).obj=jpR σ.obj own dst (.row ti.elem te.ty false nl (l'++news))):
    jC P o ev w (jz P B ρ σ ⟨vc,[],.own dst te.ty,[],wr,[dst]⟩):=by
  exact jfs hC hop hc hargs htys hsl hS hd hn hl' hown.1 hlt h1 hrow (jnV (P:=P) hC hsl hown hsrc hlt hb o.type) hb hA hB hwr
theorem y6 (σ:St) {o dst:Nat} (x:Ob) (hne:o≠dst):({σ with ob:=[(o,none),(dst,some x)]++σ.ob}:St).obj=jpR σ.obj (some o) dst x:=funext fun k=>by
  simp only[jHi,jHh]
  rw[wS,wS]
  unfold jpR
  by_cases e:k=o
  · subst e;simp[hne]
  · by_cases e':k=dst
    · subst e';simp[e]
    · have:o≠k:=fun h=>e h.symm
      simp[e,e',this,St.obj]
theorem jaW (σ:St) {dst:Nat} (x:Ob):({σ with ob:=[(dst,some x)]++σ.ob}:St).obj=jpR σ.obj none dst x:=funext fun k=>by
  simp only[jHi,jHh]
  rw[wS]
  unfold jpR
  by_cases e':k=dst
  · subst e';simp
  · simp[e',St.obj]
theorem jp2 {E:Nat} {t:Ty} {vs:Array Value} {b Cp m:Nat} (hw:w.heap[b]? =some (.cells vs E (0,0))) (hvs:vs.size=Cp*t.size) (hm:m≤Cp) (hCm:Cp≤maxLen):
    w.ownsRow 0 E t.size (.slice (some ⟨b,0,none⟩) m Cp) m (vs.toList.take (m*t.size)):=by
  have:m*t.size≤Cp*t.size:=jG8 _ hm;exact⟨by simp;omega,.inr ⟨b,Cp,vs,rfl,jG2 _,hw,hm,hCm,hvs,rfl⟩⟩
theorem jhn {t:Ty} {vs:Array Value} {H:Imm} {l:List t.Data} {m:Nat} (hr:∀(i:Nat) x,l[i]? =some x→t.rd H (fun j=>vs[i*t.size+j]?) x) (_:m≤l.length):
    ∀(i:Nat) x,(l.take m)[i]? =some x→t.rd H (fun j=>(vs.toList.take (m*t.size))[i*t.size+j]?) x:=by
  intro i x hx;rw[jH3] at hx
  split at hx
  · rename_i hi;refine t.rd_congr _ _ _ (fun j hj=> ?_) (hr i x hx);have:(i+1)*t.size≤m*t.size:=jG8 _ hi;rw[jHA] at this;rw[jHd (by omega)];simp
  · cases hx
theorem jc0 (z:Array Value) (n m:Nat):(Builtin.zeroCells z n)[m]? =if m<n*z.size then some (z[m%z.size]!) else none:=by
  unfold Builtin.zeroCells;rw[Array.getElem?_map];by_cases h:m<n*z.size
  · rw[if_pos h,jHe (by simpa using h)];simp
  · rw[if_neg h,Array.getElem?_eq_none (by simpa using Nat.le_of_not_lt h)];rfl
theorem vI (z:Array Value) (n:Nat):(Builtin.zeroCells z n).size=n*z.size:=by simp[Builtin.zeroCells]
theorem jxH {dst:Nat} {c:Call} {b x:Operand} {U U':Nat} (hC:C.ok P) (hop:o.op= .call c) (hc:c.callee= .builtin .append) (hargs:c.args= #[b,x]) (htys:c.argTypes= #[U,U'])
    (h:jDs C σ dst b x U U'=some out) (hS:Sat P B ρ σ.obj w) (hev:∀x,SV.den P ρ (jL σ x) (ev x)) (hvc:kR out.vc) (hd:σ.obj dst=none) (hn:kz σ.obj dst):jC P o ev w (jz P B ρ σ out):=by
  unfold jDs at h
  split at h
  case h_2=>cases h
  rename_i ti te tx hsl htx
  split at h
  case h_2=>cases h
  rename_i v n hb hx hty hag
  split at h
  case h_2=>cases h
  rename_i hnil;simp at h;subst h;simp only[kR] at hvc;obtain⟨h0,hbytes,_⟩:=hvc;obtain⟨_,hte,_,hokE,hund,hka,hks,hpos⟩:=zn hC hsl;obtain⟨i,z,g0,g1,g2,g3,g4,g5⟩:=hokE.info;rw[hte] at g0;obtain⟨hid,hokX⟩:=hC.ti _ _ htx;obtain⟨d,u1,_,_,_,_,u2,_⟩:=hokX.flat hag;rw[hid,u2 hty] at u1;have hbv:ev b= .slice none 0 0:=by
    have:=hev b;rw[hb] at this;simp only[SV.den] at this;rw[this,wy hnil]
  obtain⟨k,hnk⟩:∃k:Nat,n=((k:Int):Ty.int.Data):=Int.eq_ofNat_of_zero_le (Int.le_of_lt h0);subst hnk;have h0:(0:Int)<(k:Int):=h0;have hxv:ev x= .int .i64 (k:Int):=wk (i:=(k:Int)) (by rw[hx];rfl) (hev x);have hk:0<k:=(by omega);have hkk:Int.toNat ((k:Int):Ty.int.Data)=k:=jGX k;rw[hkk] at hbytes⊢;have hbpos:0<te.bytes:=by
    have:zW te.ty=true:=by
      unfold Ctx.slice at hsl
      split at hsl
      · split at hsl
        · split at hsl
          · split at hsl
            · rename_i hk;simp at hsl;rw[←hsl.2];exact hk
            · cases hsl
          · cases hsl
        · cases hsl
      · cases hsl
    exact(hokE.pos this).2
  have hkn:zW te.ty=true:=by
    unfold Ctx.slice at hsl
    split at hsl
    · split at hsl
      · split at hsl
        · split at hsl
          · rename_i hk;simp at hsl;rw[←hsl.2];exact hk
          · cases hsl
        · cases hsl
      · cases hsl
    · cases hsl
  have hk2:k≤140737488355328:=by
    have:k*1≤k*te.bytes:=jH7 _ hbpos;omega
  have hrunA:=Lib.run_append_nil_zeros (P:=P) w U U' o.type ti.elem i z .i64 .i64 hund u1 g0 g3 k hk (by rw[g1];exact hpos) (by omega) (by rw[g2];omega);have hge:=grownCap_ge w k 0 ti.elem;have hle:=grownCap_le_maxLen w k 0 ti.elem (by simp only[maxLen];omega);generalize hcap:grownCap w k 0 ti.elem=cap at hrunA hge hle;have hzs:z.cells.size=te.ty.size:=(by rw[←jHm,g4,hokE.zlen,hks]);have hrun:(execOp ev o).run P w= .ok (.value (.slice (some ⟨w.heap.size,0,none⟩) k cap)) (w.drew.alloc (.cells (Builtin.zeroCells z.cells k++Builtin.zeroCells z.cells (cap-k)) ti.elem)):=by
    simp only[execOp,hop,Sem.run_bind,resolve,hc,hargs,htys,Sem.run_pure,Result.andThen_ok,invoke,builtin];simp[hbv,hxv,hrunA]
  have hgrow:w.grownBy (w.drew.alloc (.cells (Builtin.zeroCells z.cells k++Builtin.zeroCells z.cells (cap-k)) ti.elem)) none:=
    (fun g=>⟨g.os,g.tape,g.output,g.size,g.block⟩) (World.grownBy_alloc w.drew (.cells (Builtin.zeroCells z.cells k++Builtin.zeroCells z.cells (cap-k)) ti.elem) none)
  obtain⟨ρ',q1,q2,q3,q4,q5⟩:=jl8 hS (own:=none) hd hn hgrow (Nat.le_succ w.drawn) (by simp) (some (w.heap.size,cap)) (fun b C hbC=>by simp at hbC;exact .inr hbC.1.symm) k
    (.row ti.elem te.ty false .yes (List.replicate k te.ty.dflt)) (fun ρ' hH hlen' _=>by
      refine⟨by rw[hlen'];simp,by simp;omega,fun _=> ?_,_,heap_alloc_new w.drew _,?_,by simpa using hge,hle,fun i x hx=> ?_,?_⟩
      · intro e;have:=congrArg List.length e;simp at this;omega
      · rw[Array.size_append,vI,vI,hzs,←jHD];congr 1;omega
      · rw[hH];have hi:i<k:=(by have:=(jGW.1 hx).1;simpa using this);have hx':x=te.ty.dflt:=by
          rw[List.getElem?_replicate,if_pos hi] at hx;simpa using hx.symm
        subst hx';refine te.ty.rd_congr _ _ _ (fun j hj=> ?_) (hokE.zd hkn ρ.H);have hm:i*te.ty.size+j<k*te.ty.size:=by
          have:(i+1)*te.ty.size≤k*te.ty.size:=jG8 _ hi;rw[jHA] at this;omega
        rw[jHE (by rw[vI,hzs];exact hm),jc0,hzs,if_pos hm,Nat.mul_comm,Nat.mul_add_mod,Nat.mod_eq_of_lt hj,←g4,jHB];have hj':j<z.cells.size:=(by rw[hzs];exact hj);simp[hj']
      · rw[hH];simp only[fzH];cases hc:ρ.H w.heap.size with
        |none=>rfl
        |some c=>have:=hS.good.lt hc;omega)
  refine j6 hrun ⟨ρ',?_,q2,?_,trivial⟩
  · show Sat P B ρ' ({σ with ob:=[(dst,_)]++(q6 σ []++σ.ob)}:St).obj _;simp only[q6,jHh];rw[jaW];exact q1
  · simp only[SV.den];intro p hp;rw[q3] at hp;simp at hp;subst hp;exact⟨by rw[q4],by rw[q4];exact hge⟩
theorem jCu {c:Call} (hC:C.ok P) (hop:o.op= .call c) (hc:c.callee= .builtin .cap) (h:jEF C σ c.args.toList c.argTypes.toList=some out) (hS:Sat P B ρ σ.obj w)
    (hev:∀x,SV.den P ρ (jL σ x) (ev x)):jC P o ev w (jz P B ρ σ out):=by
  unfold jEF at h
  split at h
  case h_2=>cases h
  rename_i x U hargs htys;have hargs:c.args= #[x]:=(by rw[←jHb];exact hargs);have htys:c.argTypes= #[U]:=by rw[←jHb];exact htys
  split at h
  case h_2=>cases h
  rename_i tt v hsl hx;obtain⟨ti,te⟩:=tt
  split at h
  case h_2=>cases h
  rename_i hnil;simp[Out.pure] at h;subst h;obtain⟨_,_,_,_,hund,_⟩:=zn hC hsl;have hbv:ev x= .slice none 0 0:=by
    have:=hev x;rw[hx] at this;simp only[SV.den] at this;rw[this,wy hnil]
  exact jj hS (v:= .int .i64 0) (by simp[execOp,hop,hc,hargs,htys,resolve,invoke,builtin,hbv,Builtin.cap_,run_underlying hund,goInt]) (w9 _) trivial
theorem ju4 {dst:Nat} {c:Call} (hC:C.ok P) (hop:o.op= .call c) (hc:c.callee= .builtin .append) (h:jES C σ dst c.args.toList c.argTypes.toList=some out) (hS:Sat P B ρ σ.obj w)
    (hev:∀x,SV.den P ρ (jL σ x) (ev x)) (hvc:kR out.vc) (hd:σ.obj dst=none) (hn:kz σ.obj dst):jC P o ev w (jz P B ρ σ out):=by
  unfold jES at h
  split at h
  case h_2=>cases h
  rename_i b x U U' hargs htys;have hargs:c.args= #[b,x]:=(by rw[←jHb];exact hargs);have htys:c.argTypes= #[U,U']:=by rw[←jHb];exact htys
  split at h
  case h_2=>exact jxH hC hop hc hargs htys h hS hev hvc hd hn
  case h_3=>cases h
  rename_i ti te hU hsl;have hU:=jGP hU;subst hU
  split at h
  case h_2=>cases h
  rename_i news hnews;have hsrc:=jh3 hS hnews (hev x);have hbv:=hev b
  split at h
  · rename_i ob u hbo;rw[hbo] at hbv
    split at h
    · rename_i E t nl l hob;have hne:ob≠dst:=fun e=>by rw[e,hd] at hob;cases hob
      split at h
      · rename_i l' hcst;obtain⟨e,rfl⟩:=jl hcst;cases e;simp only[qU] at h
        split at h
        · rename_i hE;have hE:=jGP hE;subst hE;simp at h;subst h;simp only[kR] at hvc;obtain⟨p,hp,k1,k0,k2⟩:=hS.obs ob _ hob;simp only[SV.den] at hbv;have hbv:=hbv p hp;cases p with
          |none=>
            obtain⟨e1,e2⟩:=hbv;obtain⟨rfl,hnn'⟩:=k2;refine zT hC hop hc hargs htys hsl hS hd hn (own:=some ob) (n:=0) (xs:=[]) (by rw[e1];exact World.ownsRow_nil _ _ _ _) rfl (by omega) (by simp) (by rw[e1];simp[Value.ownBlock]) hsrc (by simpa using hvc.1) (fun _ _=>hnn') ?_ (y6 σ _ hne);intro _ hnn;rw[e1] at hnn;simpa using hnn
          |some q=>
            obtain⟨bb,Cp⟩:=q;obtain⟨e1,e2⟩:=hbv;obtain⟨k3,vs,hw,hvs,hlC,hCm,hr,hH⟩:=k2;simp only[fzH] at hH;have htk:l.take l.length=l:=jHS;refine zT hC hop hc hargs htys hsl hS hd hn (own:=some ob) (n:=l.length) (xs:=vs.toList.take (l.length*te.ty.size)) (by rw[e1,k1];exact jp2 hw hvs hlC hCm) rfl k0
              (by have:=jhn (m:=l.length) hr (jGU _);rwa [htk] at this) ?_ hsrc hvc.1 ?_ ?_ (y6 σ _ hne)
            · intro g hg;rw[e1] at hg;simp[Value.ownBlock] at hg;subst hg;exact⟨ob,Cp,rfl,hp,hH⟩
            · intro h;rw[e1] at h;cases h
            · intro hnl _;have:=k3 hnl;simp[this]
        · cases h
      · cases h
    · cases h
  · rename_i ob u n hbo;rw[hbo] at hbv
    split at h
    · rename_i E t l hob;have hne:ob≠dst:=fun e=>by rw[e,hd] at hob;cases hob
      split at h
      · rename_i l' hcst;obtain⟨e,rfl⟩:=jl hcst;cases e;simp only[qU] at h
        split at h
        · rename_i hE;have hE:=jGP hE;subst hE;simp at h;subst h;simp only[kR] at hvc;obtain⟨p,hp,k1,k0,k2⟩:=hS.obs ob _ hob;simp only[SV.den] at hbv;have hbv:=hbv p hp;cases p with
          |none=>obtain⟨_,k2⟩:=k2;exact absurd rfl k2
          |some q=>
            obtain⟨bb,Cp⟩:=q;obtain⟨a,cap,e1,e2,e3,e4,e5⟩:=hbv;have e5:=e5 (.inl (by trivial));subst e5;simp only[Nat.zero_mul] at e1;have:cap=Cp:=(by omega);subst this;obtain⟨k3,vs,hw,hvs,hlC,hCm,hr,hH⟩:=k2;simp only[fzH] at hH;have hlen:(l.take n).length=n:=(by simp;omega);refine zT hC hop hc hargs htys hsl hS hd hn (own:=some ob) (n:=n) (xs:=vs.toList.take (n*te.ty.size)) (by rw[e1];exact jp2 hw hvs e2 hCm) hlen (by omega)
              (jhn (m:=n) hr (by omega)) ?_ hsrc hvc.1 ?_ ?_ (y6 σ _ hne)
            · intro g hg;rw[e1] at hg;simp[Value.ownBlock] at hg;subst hg;exact⟨ob,cap,rfl,hp,hH⟩
            · intro h;rw[e1] at h;cases h
            · intro hnl;cases hnl
        · cases h
      · cases h
    · rename_i E t l hob;have hne:ob≠dst:=fun e=>by rw[e,hd] at hob;cases hob
      split at h
      · rename_i l' hcst;obtain⟨e,rfl⟩:=jl hcst;cases e;simp only[qU] at h
        split at h
        · rename_i hE;have hE:=jGP hE;subst hE;simp at h;subst h;simp only[kR] at hvc;obtain⟨p,hp,k1,k0,k2⟩:=hS.obs ob _ hob;simp only[SV.den] at hbv;have hbv:=hbv p hp;cases p with
          |none=>
            obtain⟨e1,rfl⟩:=hbv;obtain⟨rfl,_⟩:=k2;refine zT (l':=([]:List te.ty.Data).take 0) hC hop hc hargs htys hsl hS hd hn (own:=some ob) (n:=0) (xs:=[]) (by rw[e1];exact World.ownsRow_nil _ _ _ _) rfl (by omega) (by simp) (by rw[e1];simp[Value.ownBlock]) hsrc (by simpa using hvc.1) (fun _ _=>(by simp)) ?_ (y6 σ _ hne);intro h;cases h
          |some q=>
            obtain⟨bb,Cp⟩:=q;obtain⟨a,cap,e1,e2,e3,e4,e5⟩:=hbv;have e5:=e5 (.inl (by trivial));subst e5;simp only[Nat.zero_mul] at e1;have:cap=Cp:=(by omega);subst this;obtain⟨k3,vs,hw,hvs,hlC,hCm,hr,hH⟩:=k2;simp only[fzH] at hH;have hlen:(l.take n).length=n:=(by simp;omega);refine zT hC hop hc hargs htys hsl hS hd hn (own:=some ob) (n:=n) (xs:=vs.toList.take (n*te.ty.size)) (by rw[e1];exact jp2 hw hvs e2 hCm) hlen (by omega)
              (jhn (m:=n) hr (by omega)) ?_ hsrc hvc.1 ?_ ?_ (y6 σ _ hne)
            · intro g hg;rw[e1] at hg;simp[Value.ownBlock] at hg;subst hg;exact⟨ob,cap,rfl,hp,hH⟩
            · intro h;rw[e1] at h;cases h
            · intro hnl;cases hnl
        · cases h
      · cases h
    · rename_i E t l hob;have hne:ob≠dst:=fun e=>by rw[e,hd] at hob;cases hob
      split at h
      · rename_i l' hcst;obtain⟨e,rfl⟩:=jl hcst;cases e;simp only[qU] at h
        split at h
        · rename_i y ys hE;have hE:=jGP hE;subst hE;simp at h;subst h;simp only[kR] at hvc;obtain⟨p,hp,k1,k0,k2⟩:=hS.obs ob _ hob;simp only[SV.den] at hbv;have hbv:=hbv p hp;cases p with
          |none=>
            obtain⟨e1,rfl⟩:=hbv;obtain⟨rfl,_⟩:=k2;refine zT (l':=([]:List te.ty.Data).take 0) hC hop hc hargs htys hsl hS hd hn (own:=some ob) (n:=0) (xs:=[]) (by rw[e1];exact World.ownsRow_nil _ _ _ _) rfl (by omega) (by simp) (by rw[e1];simp[Value.ownBlock]) hsrc (by simpa using hvc.1) (fun _ _=>(by simp)) ?_ (y6 σ _ hne);intro _ _;simp
          |some q=>
            obtain⟨bb,Cp⟩:=q;obtain⟨a,cap,e1,e2,e3,e4,e5⟩:=hbv;have e5:=e5 (.inl (by trivial));subst e5;simp only[Nat.zero_mul] at e1;have:cap=Cp:=(by omega);subst this;obtain⟨k3,vs,hw,hvs,hlC,hCm,hr,hH⟩:=k2;simp only[fzH] at hH;have hlen:(l.take n).length=n:=(by simp;omega);refine zT hC hop hc hargs htys hsl hS hd hn (own:=some ob) (n:=n) (xs:=vs.toList.take (n*te.ty.size)) (by rw[e1];exact jp2 hw hvs e2 hCm) hlen (by omega)
              (jhn (m:=n) hr (by omega)) ?_ hsrc hvc.1 ?_ ?_ (y6 σ _ hne)
            · intro g hg;rw[e1] at hg;simp[Value.ownBlock] at hg;subst hg;exact⟨ob,cap,rfl,hp,hH⟩
            · intro h;rw[e1] at h;cases h
            · intro _ _;simp
        · cases h
      · cases h
    · cases h
  · rename_i v hbo;rw[hbo] at hbv
    split at h
    · rename_i hn';simp at h;subst h;simp only[SV.den] at hbv;rw[wy hn'] at hbv;simp only[kR] at hvc;refine zT (l':=([]:List te.ty.Data)) hC hop hc hargs htys hsl hS hd hn (own:=none) (n:=0) (xs:=[]) (by rw[hbv];exact World.ownsRow_nil _ _ _ _) rfl (by omega) (by simp) (by rw[hbv];simp[Value.ownBlock]) hsrc (by simpa using hvc.1) (fun _ _=>(by simp)) ?_ (jaW σ _);intro _ hnn;rw[hbv] at hnn;simpa using hnn
    · cases h
  · rename_i t l hbo;rw[hbo] at hbv
    split at h
    · rename_i l' y ys hcst;simp at h;subst h;obtain⟨e,rfl⟩:=jl hcst;cases e;simp only[qU,kR] at hvc⊢;simp only[SV.den] at hbv;obtain⟨hrv,a,n,ebv⟩:=hbv;have hv1:(l.length+(y::ys).length)*te.bytes≤140737488355328:=hvc.1;have hbs:=jh3 hS (t:=te.ty) (sv:= .dat (.slice te.ty) l) (l:=l) (by simp[gD,zg,qU]) (v:=ev b) (by simpa only[SV.den] using hrv);obtain⟨a',n',c',f1,f2,f3,f4,f6,f5⟩:=zb (t:= .slice te.ty) rfl hrv;rw[ebv] at f1;simp at f1;obtain⟨rfl,rfl,rfl⟩:=f1;cases a with
      |none=>
        have h0:=f6 rfl;have hl0:l=[]:=jHy (by omega);subst hl0;subst h0;exact zT (l':=([]:List te.ty.Data)) hC hop hc hargs htys hsl hS hd hn (own:=none) (n:=0) (xs:=[]) (by rw[ebv];exact World.ownsRow_nil _ _ _ _) rfl (by omega) (by simp) (by rw[ebv];simp[Value.ownBlock]) hsrc (by simpa using hvc.1)
          (fun _ h=>by cases h) (fun h=>by cases h) (jaW σ _)
      |some ad=>
        have hbs':=hbs.val;rcases hbs' with⟨g1,_⟩|⟨ad2,c2,olds,g1,g2,g3,g4,g5⟩
        · rw[ebv] at g1;cases g1
        · have hsv:=hsrc.val;rcases hsv with⟨_,k2⟩|⟨ad3,c3,us,k1,k2,k3,k4,k5⟩
          · cases k2
          · have hgx:ev b= .slice (some ad2) l.length l.length:=(by rw[ebv] at g1⊢;simp at g1;simp[g1.1,f2]);obtain⟨_,hte',_,hokE,hund,hka,hks,hpos⟩:=zn hC hsl;obtain⟨i,z,i0,i1,i2,i3,i4,_⟩:=hokE.info;rw[hte'] at i0;have hbp:0<te.bytes:=(hokE.pos (jf0 hsl)).2;have hsm:(l.length+(y::ys).length)*1≤(l.length+(y::ys).length)*te.bytes:=jH7 _ hbp;have hsz:i.size=te.ty.size:=(by rw[hks,i1]);have hzs:z.cells.size=te.ty.size:=(by rw[hks,←hokE.zlen,←i4];simp);have hml:l.length+(y::ys).length≤maxLen:=(by simp only[maxLen];omega);have hmp:l.length<l.length+(y::ys).length:=(by simp only[jHr];omega);have hr:=run_append_grow (P:=P) w U o.type ti.elem i z hund i0 i3 ad2 l.length l.length olds (by rw[hsz];exact g2) g3 ad3 (y::ys).length c3 us (by rw[hsz];exact k2) k3 hmp (by simp only[maxLen] at hml;omega) (growslice_fits hmp (by rw[i2];exact hv1));have hge:=grownCap_ge w (l.length+(y::ys).length) l.length ti.elem;have hcm:=grownCap_le_maxLen w (l.length+(y::ys).length) l.length ti.elem hml;have hlen:(olds++us).length=(l.length+(y::ys).length)*te.ty.size:=(by rw[jHa,g2,k2,jHD]);refine jfs hC hop hc hargs htys hsl hS hd hn (own:=none) (row:=none) (n:=l.length) (xs:=olds) rfl g2 f4 g5 (fun g h=>by cases h)
              ⟨_,_,us,by rw[hgx,k1];exact hr,⟨hlen,.inr ⟨w.heap.size,_,_,rfl,jG2 _,heap_alloc_new w.drew _,hge,hcm,(by
                  simp only[Array.size_append,List.size_toArray,size_zeroCells,hzs,g2,k2,←jHD];congr 1;omega),(by
                  simp only[Array.toList_append,jHc];rw[←jHc,←hlen];exact List.take_left)⟩⟩,⟨rfl,rfl,rfl,by simp,fun k hk _=>heap_alloc_old w.drew _ k hk⟩,⟨fun h=>by simp at h,fun h=>by cases h.2⟩,.inr rfl,k2,k5⟩ hv1 (fun _ h=>by cases h) (fun h=>by cases h) (jaW σ _)
    · cases h
  · cases h
theorem jm7 {U n dst:Nat} {parts:Array (Nat×Operand)} (hC:C.ok P) (hop:o.op= .buildSlice U n parts) (h:jB C σ dst (.buildSlice U n parts)=some out) (hS:Sat P B ρ σ.obj w)
    (hev:∀x,SV.den P ρ (jL σ x) (ev x)) (hd:σ.obj dst=none) (hn:kz σ.obj dst):jC P o ev w (jz P B ρ σ out):=by
  simp only[jB] at h
  split at h
  case h_2=>cases h
  rename_i ti te hsl
  split at h
  case h_2=>cases h
  rename_i l fz hl
  split at h
  case h_2=>cases h
  rename_i hln hsm;simp at h;subst h;have hln:=jGP hln;subst hln;have hsm:=jG6 hsm;obtain⟨_,hte,_,hokE,hund,hka,hks,hpos⟩:=zn hC hsl;obtain⟨i,z,g0,g1,g2,g3,g4,_⟩:=hokE.info;rw[hte] at g0;obtain⟨ρ1,hS1,hle1,hb1,hl1⟩:=jP fz hS;have hev1:∀x,SV.den P ρ1 (jL σ x) (ev x):=fun x=>SV.den_mono hle1 _ _ (fun o ho=>by simp at ho) (hev x)
  obtain⟨vs,e1,e2,e3,e4⟩:=jaK hS1 (qa σ fz) hev1 parts.toList 0 l fz hl (fun o ho=>ho);have hzs:z.cells.size=te.size:=(by rw[←hokE.zlen,←g4];simp);have hsz:0<te.size:=hpos;have hfill:Instr.fill (fun i=>some (i*te.size,te.size)) ((Array.range (l.length*te.size)).map (z.cells[·%z.cells.size]!)) (parts.map fun(i,x)=>(i,ev x)).toList=
      some (vs.flatMap fun v=>v.cells.toList).toArray:=by
    have:=Great.fill_whole hsz vs ((Array.range (l.length*te.size)).map (z.cells[·%z.cells.size]!)) (fun v hv=>by rw[e3 v hv,hks]) (by simp[e2]);rw[←this];congr 1;simpa using e1
  have hcells:=jqL vs e3;have hrun:(execOp ev o).run P w= .ok (.value (.slice (some ⟨w.heap.size,0,none⟩) l.length l.length)) (w.alloc (.cells (vs.flatMap fun v=>v.cells.toList).toArray ti.elem)):=by
    have:(Instr.buildSlice U l.length (parts.map fun(i,x)=>(i,ev x))).run P w= .ok (.slice (some ⟨w.heap.size,0,none⟩) l.length l.length) (w.alloc (.cells (vs.flatMap fun v=>v.cells.toList).toArray ti.elem)):=by
      have g1':i.size=te.size:=g1;by_cases h0:l.length=0
      · have hv0:vs=[]:=jHy (by omega);have hp0:parts= #[]:=by
          subst hv0;simp at e1;exact e1
        subst hp0 hv0;simp[Instr.buildSlice,run_underlying hund,sizeOf,typeInfo,g0,h0,newRow,Instr.fill,show Array.range 0= #[] from rfl]
      · exact run_buildSlice w U ti.elem l.length _ _ i z hund g0 g3 (by rw[g1'];omega) (by rw[g1'];have:=Nat.mul_pos (Nat.pos_of_ne_zero h0) hsz;omega) (by rw[g1'];exact hfill)
    simp only[execOp,hop,Sem.run_bind];rw[this];simp
  refine j6 hrun ?_;have hd1:(σ.frz fz).obj dst=none:=(by rw[ku,hd];simp);have hn1:kz (σ.frz fz).obj dst:=by
    intro o' T f cs ho';rw[ku] at ho'
    split at ho'
    · cases hx:σ.obj o' with
      |none=>rw[hx] at ho';cases ho'
      |some x=>
        rw[hx] at ho';cases x<;>simp[z8] at ho'
        obtain⟨rfl,_,rfl⟩:=ho';exact hn o' _ _ _ hx
    · exact hn o' _ _ _ ho'
  have hsmall:l.length≤16777216:=by
    have:l.length*1≤l.length*te.size:=jH7 _ hsz;omega
  obtain⟨ρ',q1,q2,q3,q4,q5⟩:=jl8 hS1 (own:=none) hd1 hn1 (w.grownBy_alloc (.cells (vs.flatMap fun v=>v.cells.toList).toArray ti.elem) none) (jGU _) (by simp) (some (w.heap.size,l.length)) (fun b C hbC=>by simp at hbC;exact .inr hbC.1.symm)
    l.length (.row ti.elem te.ty false .no l) (fun ρ' hH hlen' _=>by
      refine⟨hlen',by omega,by simp,_,heap_alloc_new w _,by simp[hcells,e2],jGU _,by simp only[maxLen];omega,fun i x hx=> ?_,?_⟩
      · rw[hH];have hi:i<vs.length:=(by have:=(jGW.1 hx).1;omega);have hv:=e4 i _ x (jGY hi) hx;refine te.ty.rd_congr _ _ _ (fun j hj=> ?_) hv.2.2;have:=jmZ vs e3 i j _ (jGY hi) hj;simpa using this.symm
      · rw[hH];simp only[fzH];cases hc:ρ1.H w.heap.size with
        |none=>rfl
        |some c=>have:=hS1.good.lt hc;omega)
  refine⟨ρ',?_,(hle1.weaken (by simp)).trans q2,?_,trivial⟩
  · show Sat P B ρ' ({σ with ob:=[(dst,_)]++(q6 σ fz++σ.ob)}:St).obj _;rw[show({σ with ob:=[(dst,some (Ob.row ti.elem te.ty false .no l))]++(q6 σ fz++σ.ob)}:St)=({(σ.frz fz) with ob:=[(dst,some (Ob.row ti.elem te.ty false .no l))]++(σ.frz fz).ob}:St) from rfl,jaW];exact q1
  · simp only[SV.den];intro p hp;rw[q3] at hp;simp at hp;subst hp;exact⟨by rw[q4],by rw[q4];exact jGU _⟩
end
end Go.X
