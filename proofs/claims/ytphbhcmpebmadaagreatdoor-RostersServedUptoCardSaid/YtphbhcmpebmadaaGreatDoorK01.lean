/-
  Part 1 of the road: a checked reading of bodies, and what the functions on it do (X0 X1 X2 X3 X4 X5 X6 X7 X8 X9 X10).
-/
import GoSem.Core.View
import GoSem.Core.Region
import Derived.Laws.AppendOwn
import Derived.Below
import Derived.Deep.LoopGhost
import Derived.Laws.BitsLemmas
import Derived.Laws.CopyRow
import Derived.Laws.AppendOwnNone
import Derived.Maps.AppendAt
import Derived.Laws.Strings
import Derived.Laws.Tables
import Derived.Great.BuildSlice
import Derived.Laws.OwnMore
import Derived.Lib.AppendZeros
namespace Go.X
theorem jG0:type_of% @Nat.eq_of_beq_eq_true:=@Nat.eq_of_beq_eq_true
theorem jG1:type_of% @List.mem_append_right:=@List.mem_append_right
theorem jG2:type_of% @List.mem_append_left:=@List.mem_append_left
theorem jG3:type_of% @Bool.and_eq_true:=@Bool.and_eq_true
theorem jG4:type_of% @List.mem_cons:=@List.mem_cons
theorem jG5:type_of% @Nat.le_refl:=@Nat.le_refl
theorem jG6:type_of% @List.getElem?_eq_some_iff:=@List.getElem?_eq_some_iff
theorem jG7:type_of% @Int.toNat_natCast:=@Int.toNat_natCast
theorem jG8:type_of% @List.getElem?_eq_getElem:=@List.getElem?_eq_getElem
theorem jG9:type_of% @Array.getD_eq_getD_getElem?:=@Array.getD_eq_getD_getElem?
theorem jHa:type_of% @List.mem_append:=@List.mem_append
theorem jHb:type_of% @List.mem_cons_of_mem:=@List.mem_cons_of_mem
theorem jHc:type_of% @Array.getElem?_eq_some_iff:=@Array.getElem?_eq_some_iff
theorem jHd:type_of% @Nat.zero_le:=@Nat.zero_le
theorem jHe:type_of% @List.getElem?_append_right:=@List.getElem?_append_right
theorem jHf:type_of% @List.getElem?_append_left:=@List.getElem?_append_left
theorem jHg:type_of% @Nat.le_of_ble_eq_true:=@Nat.le_of_ble_eq_true
theorem jHh:type_of% @List.mem_filter:=@List.mem_filter
theorem jHi:type_of% @Nat.le_trans:=@Nat.le_trans
theorem jHj:type_of% @List.mem_range:=@List.mem_range
theorem jHk:type_of% @List.foldl_append:=@List.foldl_append
theorem jHl:type_of% @Array.getElem?_setIfInBounds:=@Array.getElem?_setIfInBounds
theorem jHm:type_of% @Nat.mul_le_mul_right:=@Nat.mul_le_mul_right
theorem jHn:type_of% @List.append_assoc:=@List.append_assoc
theorem jHo:type_of% @List.length_append:=@List.length_append
theorem jHp:type_of% @Array.toList_inj:=@Array.toList_inj
theorem jHq:type_of% @List.range_succ:=@List.range_succ
theorem jHr:type_of% @List.getElem?_take_of_lt:=@List.getElem?_take_of_lt
theorem jHs:type_of% @Bool.eq_iff_iff:=@Bool.eq_iff_iff
theorem jHt:type_of% @Bool.or_eq_false_iff:=@Bool.or_eq_false_iff
theorem jHu:type_of% @Int.natCast_nonneg:=@Int.natCast_nonneg
theorem jHv:type_of% @Array.getElem?_eq_getElem:=@Array.getElem?_eq_getElem
theorem jHw:type_of% @List.append_nil:=@List.append_nil
theorem jHx:type_of% @List.cons_append:=@List.cons_append
theorem jHy:type_of% @List.mem_map:=@List.mem_map
theorem jHz:type_of% @List.nil_append:=@List.nil_append
theorem jHA:type_of% @Array.length_toList:=@Array.length_toList
theorem jHB:type_of% @Bool.not_eq_true':=@Bool.not_eq_true'
theorem jHC:type_of% @List.length_take:=@List.length_take
theorem jHD:type_of% @List.length_cons:=@List.length_cons
theorem jHE:type_of% @List.all_eq_true:=@List.all_eq_true
theorem jHF:type_of% @List.any_eq_true:=@List.any_eq_true
theorem jHG:type_of% @List.getD_eq_getElem?_getD:=@List.getD_eq_getElem?_getD
theorem jHH:type_of% @List.mem_cons_self:=@List.mem_cons_self
theorem jHI:type_of% @List.getElem?_drop:=@List.getElem?_drop
theorem jHJ:type_of% @List.length_nil:=@List.length_nil
theorem jHK:type_of% @List.mem_take_iff_getElem:=@List.mem_take_iff_getElem
theorem jHL:type_of% @List.eq_nil_of_length_eq_zero:=@List.eq_nil_of_length_eq_zero
theorem jHM:type_of% @Nat.succ_mul:=@Nat.succ_mul
theorem jHN:type_of% @Array.getElem?_toList:=@Array.getElem?_toList
theorem jHO:type_of% @List.any_eq_false:=@List.any_eq_false
theorem jHP:type_of% @Nat.add_mul:=@Nat.add_mul
theorem jHQ:type_of% @Array.getElem?_append_left:=@Array.getElem?_append_left
theorem jHR:type_of% @List.map_append:=@List.map_append
theorem jHS:type_of% @List.pairwise_cons:=@List.pairwise_cons
theorem jHT:type_of% @Bool.not_eq_false':=@Bool.not_eq_false'
theorem jHU:type_of% @List.take_of_length_le:=@List.take_of_length_le
theorem jHV:type_of% @List.nodup_cons:=@List.nodup_cons
theorem jHW:type_of% @Array.getElem?_modify:=@Array.getElem?_modify
theorem jHX:type_of% @Bool.or_eq_true:=@Bool.or_eq_true
theorem jHY:type_of% @List.take_length:=@List.take_length
theorem jHZ:type_of% @List.nodup_append:=@List.nodup_append
theorem jH0:type_of% @List.mem_of_getElem?:=@List.mem_of_getElem?
theorem jH1:type_of% @Nat.lt_of_lt_of_le:=@Nat.lt_of_lt_of_le
theorem jH2:type_of% @List.mem_singleton:=@List.mem_singleton
theorem jH3:type_of% @List.length_replicate:=@List.length_replicate
theorem jH4:type_of% @List.length_filter_le:=@List.length_filter_le
theorem jH5:type_of% @List.pairwise_iff_getElem:=@List.pairwise_iff_getElem
theorem jH6:type_of% @List.length_map:=@List.length_map
theorem jH7:type_of% @Nat.zero_add:=@Nat.zero_add
theorem jH8:type_of% @List.map_cons:=@List.map_cons
theorem jH9:type_of% @Int.le_refl:=@Int.le_refl
theorem jIa:type_of% @Nat.add_assoc:=@Nat.add_assoc
theorem jIb:type_of% @Array.getElem?_replicate:=@Array.getElem?_replicate
theorem jIc:type_of% @Nat.pow_le_pow_right:=@Nat.pow_le_pow_right
theorem jId:type_of% @List.all_eq_false:=@List.all_eq_false
theorem jIe:type_of% @List.getElem?_toArray:=@List.getElem?_toArray
theorem jIf:type_of% @Nat.eq_zero_or_pos:=@Nat.eq_zero_or_pos
theorem jIg:type_of% @List.getElem?_take:=@List.getElem?_take
theorem jIh:type_of% @Nat.add_zero:=@Nat.add_zero
theorem jIi:type_of% @List.getElem?_of_mem:=@List.getElem?_of_mem
theorem jIj:type_of% @List.getElem?_map:=@List.getElem?_map
theorem jIk:type_of% @Nat.mul_le_mul_left:=@Nat.mul_le_mul_left
theorem jIl:type_of% @Array.getElem?_push:=@Array.getElem?_push
theorem jIm:type_of% @List.countP_eq_zero:=@List.countP_eq_zero
theorem jIn:type_of% @List.pairwise_lt_range:=@List.pairwise_lt_range
theorem jIo:type_of% @List.length_drop:=@List.length_drop
theorem jIp:type_of% @List.take_append_drop:=@List.take_append_drop
theorem jIq:type_of% @List.mem_of_mem_drop:=@List.mem_of_mem_drop
theorem jIr:type_of% @List.mem_of_mem_take:=@List.mem_of_mem_take
theorem jIs:type_of% @Nat.eq_of_testBit_eq:=@Nat.eq_of_testBit_eq
theorem jIt:type_of% @List.pairwise_map:=@List.pairwise_map
theorem jIu:type_of% @List.countP_cons:=@List.countP_cons
theorem jIv:type_of% @Option.map_eq_some_iff:=@Option.map_eq_some_iff
theorem jIw:type_of% @List.countP_append:=@List.countP_append
theorem jIx:type_of% @Nat.lt_of_le_of_lt:=@Nat.lt_of_le_of_lt
inductive Ty where
 |int|bool|uint (k:IntKind)|slice (t:Ty)|unit|pair (a b:Ty)|map (k v:Ty)|ptr (t:Ty)
 deriving DecidableEq
@[reducible] def Ty.Data:Ty->Type
 | .int=>Int
 | .bool=>Bool
 | .uint _=>Int
 | .slice t=>List t.Data
 | .unit=>Unit
 | .pair a b=>a.Data×b.Data
 | .map k v=>List (k.Data×v.Data)
 | .ptr t=>Option t.Data
def Ty.size:Ty->Nat
 | .unit=>0
 | .pair a b=>a.size+b.size
 |_=>1
def Ty.agg:Ty->Bool
 | .unit=>true
 | .pair _ _=>true
 |_=>false
def Ty.dflt:(t:Ty)->t.Data
 | .int=>(0:Int)
 | .bool=>false
 | .uint _=>(0:Int)
 | .slice _=>[]
 | .unit=>()
 | .pair a b=>(a.dflt,b.dflt)
 | .map _ _=>[]
 | .ptr _=>none
@[reducible] def Ty.decEq:(t:Ty)->DecidableEq t.Data
 | .int=>(inferInstance:DecidableEq Int)
 | .bool=>(inferInstance:DecidableEq Bool)
 | .uint _=>(inferInstance:DecidableEq Int)
 | .slice t=> @instDecidableEqList _ t.decEq
 | .unit=>(inferInstance:DecidableEq Unit)
 | .pair a b=> @instDecidableEqProd _ _ a.decEq b.decEq
 | .map k v=> @instDecidableEqList _ (@instDecidableEqProd _ _ k.decEq v.decEq)
 | .ptr t=> @Option.instDecidableEq _ t.decEq
@[reducible] def Ty.st:List Ty->Ty
 |[]=> .unit
 |t::ts=> .pair t (Ty.st ts)
def jFI:List (Nat×((t:Ty)×t.Data)):=[(0,⟨.st [.int,.int,.int,.int,.int,.int],((0:Int),(1:Int),(0:Int),(0:Int),(0:Int),(1:Int),())⟩)]
end Go.X
namespace Go.X
def qw {a b:Ty} (h:a=b) (d:a.Data):b.Data:=h▸d
def zz (a b:Ty) (d:a.Data):Option b.Data:=if h:a=b then some (qw h d) else none
def Ty.sub:(a:Ty)->(off:Nat)->(t:Ty)->a.Data->Option t.Data
 | .pair a b,off,t,d=>
  if off=0/\Ty.pair a b=t then zz (.pair a b) t d
  else if off<a.size then a.sub off t d.1 else b.sub (off-a.size) t d.2
 |a,off,t,d=>if off=0 then zz a t d else none
def Ty.put:(a:Ty)->(off:Nat)->(t:Ty)->a.Data->t.Data->Option a.Data
 | .pair a b,off,t,d,x=>
  if off=0/\Ty.pair a b=t then zz t (.pair a b) x
  else if off<a.size then(a.put off t d.1 x).map (fun y=>(y,d.2)) else(b.put (off-a.size) t d.2 x).map (fun y=>(d.1,y))
 |a,off,t,_,x=>if off=0 then zz t a x else none
def vK (a b:Ty):Bool:=if a=b then true else false
def nth {α:Type} [Inhabited α] (l:List α) (i:Nat):α:=l.getD i default
inductive SV where
 |any
 |dat (t:Ty) (d:t.Data)
 |ep (t:Ty) (d:t.Data)
 |bp (o off:Nat)
 |own (o:Nat) (t:Ty)
 |osl (o:Nat) (t:Ty) (lo n:Nat)
 |rp (o:Nat) (t:Ty) (i off:Nat)
 |mp (o:Nat)
 |ip (o:Nat)
 |fn (ps rs:List Ty) (pre:(Ty.st ps).Data->List Prop) (F:(Ty.st ps).Data->(Ty.st rs).Data)
 |fnp (ps rs:List Ty) (pre:(Ty.st ps).Data->List Prop) (F:(Ty.st ps).Data->(Ty.st rs).Data)--a pointer to a function value that stays
 |fe (ptr:Bool) (o T:Nat) (st:Ty) (ps rs:List Ty) (pre:(Ty.st ps).Data->List Prop) (K:(Ty.st ps).Data->st.Data->(Ty.st rs).Data×st.Data)
 |fcl (t:Ty) (d:List t.Data)--a slice of data whose capacity is its length
 |clo (f:Nat) (caps:List SV)
 |agg (cs:List SV)
 |tup (vs:List SV)
 |lit (v:Value)
inductive Nl where
 |yes|no|unk
 deriving DecidableEq
inductive Ob where
 |box (T:Nat) (fz:Bool) (cs:List SV)
 |row (E:Nat) (t:Ty) (fz:Bool) (nl:Nl) (l:List t.Data)
 |map (fz:Bool) (kt vt:Ty) (l:List (kt.Data×vt.Data))
 |iter (kt vt:Ty) (left:List (kt.Data×vt.Data)) (cur:Option (kt.Data×vt.Data))
 |mape (kt vt:Ty) (l:List (kt.Data×vt.Data)) (k:kt.Data) (s:Int)--a map whose entry at a key has been laid,with this stamp,and is not yet written
structure St where
 sl:List (Nat×SV)
 ob:List (Nat×Option Ob)
def jD {α:Type}:List (Nat×α)->Nat->Option α
 |[],_=>none
 | (j,x)::r,k=>match Nat.beq j k with|true=>some x|false=>jD r k
def St.get (σ:St) (s:Nat):SV:=match jD σ.sl s with|some v=>v|none=> .any
def St.obj (σ:St) (o:Nat):Option Ob:=match jD σ.ob o with|some x=>x|none=>none
def yx:List Nat->Nat->Bool
 |[],_=>false
 |j::r,k=>match Nat.beq j k with|true=>true|false=>yx r k
def SV.refs (o:Nat):SV->Bool
 | .bp o' _=>Nat.beq o o'
 | .own o' _=>Nat.beq o o'
 | .osl o' _ _ _=>Nat.beq o o'
 | .rp o' _ _ _=>Nat.beq o o'
 | .mp o'=>Nat.beq o o'
 | .ip o'=>Nat.beq o o'
 | .fe _ o' _ _ _ _ _ _=>Nat.beq o o'
 | .clo _ caps=>refsL caps
 | .agg cs=>refsL cs
 | .tup cs=>refsL cs
 |_=>false
where
 refsL:List SV->Bool
  |[]=>false
  |v::r=>match SV.refs o v with|true=>true|false=>refsL r
def kr:Ty->Bool
 | .unit=>false
 |_=>true
structure TI where
 id:Nat
 ty:Ty
 size:Nat
 agg:Bool
 fields:List (Nat×Nat)--offset,type
 sl:Bool--is it a slice
 elem:Nat--of a slice
 bytes:Nat
 zero:List Value
 cmp:Bool--may be compared
 mp:Bool--is it a map
 key:Nat--of a map
 kq:Bool--may be a map's key
 arr:Bool:=false--is it an array (of numbers);'fields' are its elements then
 pt:Bool:=false--is it a pointer
 fk:Bool:=false--is it a function's
def TI.flds (ti:TI):List (Nat×Nat):=match ti.arr with|true=>[]|false=>ti.fields
inductive Par where
 |val (t:Ty)
 |ref (t:Ty)
 |fn (ps rs:List Ty)
 |rfn (ps rs:List Ty)--a pointer to a function value that stays
structure FnD (ps rs:List Ty) where
 pre:(Ty.st ps).Data->List Prop
 F:(Ty.st ps).Data->(Ty.st rs).Data
@[reducible] def Par.Data:Par->Type
 | .val t=>t.Data
 | .ref t=>t.Data
 | .fn ps rs=>FnD ps rs
 | .rfn ps rs=>FnD ps rs
@[reducible] def PD:List Par->Type
 |[]=>Unit
 |p::ps=>p.Data×PD ps
structure j7 where
 ps:List Par
 rs:List Ty
 own:Bool
 pre:PD ps->List Prop
 F:PD ps->(Ty.st rs).Data
structure Out where
 vc:List Prop
 fact:List Prop
 sv:SV
 fz:List Nat
 wr:List (Nat×Option Ob)
 nw:List Nat--the objects that are made
def Out.pure (sv:SV):Out:=⟨[],[],sv,[],[],[]⟩
structure Ctx where
 n:Nat--how many slots the frame has
 ti:List TI
 fs:List (Nat×j7)
 eff:Nat->Nat->St->List SV->Option Out--function,dst,state,arguments
 strs:List Nat--types of strings
 lit:Bool--is a map literal being made?
def jqN:List TI->Nat->Option TI
 |[],_=>none
 |x::r,k=>match Nat.beq x.id k with|true=>some x|false=>jqN r k
def Ctx.info (C:Ctx) (T:Nat):Option TI:=jqN C.ti T
def Ctx.known (C:Ctx) (T:Nat):Option TI:=
 match C.info T with
 |some ti=>match kr ti.ty with
  |true=>some ti
  |false=>none
 |none=>none
def Ctx.slice (C:Ctx) (U:Nat):Option (TI×TI):=
 match C.info U with
 |some ti=>match ti.sl with
  |true=>match C.info ti.elem with
   |some te=>match kr te.ty with
    |true=>some (ti,te)
    |false=>none
   |none=>none
  |false=>none
 |none=>none
def Ctx.mapT (C:Ctx) (U:Nat):Option (TI×TI×TI):=
 match C.info U with
 |some ti=>match ti.mp with
  |true=>match C.info ti.key,C.info ti.elem with
   |some tk,some te=>match tk.kq,kr te.ty with
    |true,true=>some (ti,tk,te)
    |_,_=>none
   |_,_=>none
  |false=>none
 |none=>none
def Ctx.spec (C:Ctx) (f:Nat):Option j7:=jD C.fs f
def jlJ:Value->SV
 | .int .i64 n=> .dat .int n
 | .int k n=> .dat (.uint k) n
 | .bool b=> .dat .bool b
 |v=> .lit v
def jQ (σ:St):Operand->SV
 | .tmp t=>σ.get t
 | .const v=>jlJ v
 | .global g=> .lit (.pointer (some ⟨g,0,none⟩))
 | .func f=> .clo f []
def zv:Value->Bool
 | .slice none 0 0=>true
 |_=>false
def jiP:Value->Bool
 | .map none=>true
 |_=>false
def jfZ:Value->Bool
 | .pointer none=>true
 |_=>false
def jg7:Value->Bool
 | .nilFunc=>true
 |_=>false
def jDe:Value->Option ((t:Ty)×t.Data)
 | .pointer (some ⟨g,0,none⟩)=>jD jFI g
 |_=>none
def jR {α:Type} (d:α):Option α->α
 |some x=>x
 |none=>d
def kB:Ob->Ob
 | .row E t _ nl l=> .row E t true nl l
 | .box T _ cs=> .box T true cs
 | .map _ kt vt l=> .map true kt vt l
 |x=>x
def qG (σ:St):List Nat->List (Nat×Option Ob)
 |[]=>[]
 |o::r=>match σ.obj o with
  |some x=>(o,some (kB x))::qG σ r
  |none=>qG σ r
def St.frz (σ:St) (fz:List Nat):St:={σ with ob:=qG σ fz++σ.ob}
def yF (σ:St) (t:Ty):SV->Option (List t.Data)
 | .dat a d=>zz a (.slice t) d
 | .own o _=>match σ.obj o with
  |some (.row _ a _ _ l)=>zz (.slice a) (.slice t) l
  |_=>none
 | .osl o u lo n=>match σ.obj o with
  |some (.row _ a _ _ l)=>match zz (.slice a) (.slice u) l with
   |some l'=>zz (.slice u) (.slice t) ((l'.drop lo).take n)
   |none=>none
  |_=>none
 | .lit v=>match zv v with|true=>some []|false=>none
 |_=>none
def jjg (σ:St):(t:Ty)->SV->Option (t.Data×List Nat)
 | .slice t,.own o u=>match yF σ t (.own o u) with
  |some l=>some (l,[o])
  |none=>none
 | .slice t,.osl o u lo n=>match yF σ t (.osl o u lo n) with
  |some l=>some (l,[o])
  |none=>none
 | .slice _,.lit v=>match zv v with|true=>some ([],[])|false=>none
 | .map kt vt,.mp o=>match σ.obj o with
  |some (.map _ a b l)=>match zz (.map a b) (.map kt vt) l with
   |some l'=>some (l',[o])
   |none=>none
  |_=>none
 | .map _ _,.lit v=>match jiP v with|true=>some ([],[])|false=>none
 |t,.dat c d=>match zz c t d with|some x=>some (x,[])|none=>none
 |_,_=>none
def jnN {α:Type} (c:List SV->Option (α×List SV×List Nat)) (b:(t:Ty)->t.Data->Option α) (a:(t:Ty)->t.Data->Option (Option α)) (σ:St):SV->Option (Option α×List Nat)
 | .dat t d=>match a t d with|some x=>some (x,[])|none=>none
 | .ep t d=>match b t d with|some x=>some (some x,[])|none=>none
 | .bp o off=>match σ.obj o with
  |some (.box _ _ cs)=>match c (cs.drop off) with
   |some (x,_,f)=>some (some x,o::f)
   |none=>none
  |_=>none
 | .lit v=>match jfZ v with|true=>some (none,[])|false=>none
 |_=>none
def wB (σ:St):(t:Ty)->List SV->Option (t.Data×List SV×List Nat)
 | .unit,cs=>some ((),cs,[])
 | .pair a b,cs=>match wB σ a cs with
  |some (x,r,f)=>match wB σ b r with
   |some (y,g,e)=>some ((x,y),g,f++e)
   |none=>none
  |none=>none
 | .ptr t,c::r=>match jnN (wB σ t) (fun u d=>zz u t d) (fun u d=>zz u (.ptr t) d) σ c with
  |some (x,f)=>some (x,r,f)
  |none=>none
 |t,c::r=>match jjg σ t c with
  |some (x,f)=>some (x,r,f)
  |none=>none
 |_,[]=>none
def jt8 (σ:St):(t:Ty)->SV->Option (t.Data×List Nat)
 | .ptr t,c=>jnN (wB σ t) (fun u d=>zz u t d) (fun u d=>zz u (.ptr t) d) σ c
 |t,c=>jjg σ t c
def qn (σ:St) (t:Ty):SV->Option (t.Data×List Nat)
 | .dat a d=>match zz a t d with|some x=>some (x,[])|none=>none
 | .agg cs=>match wB σ t cs with
  |some (x,[],f)=>match t.agg with|true=>some (x,f)|false=>none
  |_=>none
 |v=>match t.agg with|true=>none|false=>jt8 σ t v
def jmT:(t:Ty)->t.Data->List SV
 | .unit,_=>[]
 | .pair a b,d=>jmT a d.1++jmT b d.2
 |t,d=>[.dat t d]
def jkh (σ:St) (o:Nat):Bool:=match σ.obj o with|some _=>true|none=>false
def cells (σ:St):SV->Option (List SV)
 | .any=>none
 | .tup _=>none
 | .fcl _ _=>none
 | .agg cs=>some cs
 | .dat t d=>some (jmT t d)
 | .lit (.agg _)=>none
 | .lit (.tuple _)=>none
 | .bp o k=>match jkh σ o with|true=>some [.bp o k]|false=>none
 | .own o t=>match jkh σ o with|true=>some [.own o t]|false=>none
 | .osl o t lo n=>match jkh σ o with|true=>some [.osl o t lo n]|false=>none
 | .rp o t i k=>match jkh σ o with|true=>some [.rp o t i k]|false=>none
 | .mp o=>match jkh σ o with|true=>some [.mp o]|false=>none
 | .ip o=>match jkh σ o with|true=>some [.ip o]|false=>none
 | .fe b o T st ps rs pre K=>match jkh σ o with|true=>some [.fe b o T st ps rs pre K]|false=>none
 |v=>some [v]
def jrV (σ:St) (t:Ty):SV->Option (t.Data×List Nat)
 | .ep a d=>match zz a t d with|some x=>some (x,[])|none=>none
 | .bp o off=>match σ.obj o with
  |some (.box _ _ cs)=>match wB σ t (cs.drop off) with
   |some (x,_,f)=>some (x,o::f)
   |_=>none
  |_=>none
 | .dat (.ptr a) d=>match d with
  |some d=>match zz a t d with|some x=>some (x,[])|none=>none
  |none=>none
 |_=>none
def jFb (σ:St):(ps:List Par)->List SV->Option (PD ps×List Nat)
 |[],[]=>some ((),[])
 | .val t::ps,v::vs=>match qn σ t v with
  |some (x,f)=>match jFb σ ps vs with
   |some (xs,a)=>some ((x,xs),f++a)
   |none=>none
  |none=>none
 | .ref t::ps,v::vs=>match jrV σ t v with
  |some (x,f)=>match jFb σ ps vs with
   |some (xs,a)=>some ((x,xs),f++a)
   |none=>none
  |none=>none
 |_,_=>none
def joT (σ:St):(ps:List Ty)->List SV->Option ((Ty.st ps).Data×List Nat)
 |[],[]=>some ((),[])
 |t::ps,v::vs=>match qn σ t v with
  |some (x,f)=>match joT σ ps vs with
   |some (xs,a)=>some ((x,xs),f++a)
   |none=>none
  |none=>none
 |_,_=>none
def yV:(ps:List Ty)->(a:List Par)->Option ((rest:List Par)×((Ty.st ps).Data->PD rest->PD a))
 |[],a=>some ⟨a,fun _ y=>y⟩
 |t::ps,.val u::a=>
  if h:t=u then match yV ps a with
   |some ⟨rest,k⟩=>some ⟨rest,fun x y=>(h▸x.1,k x.2 y)⟩
   |none=>none
  else none
 |_,_=>none
def jCe (d:(ps rs:List Ty)->SV->Option (FnD ps rs×List Nat)) (σ:St) (ps rs:List Ty):SV->Option (FnD ps rs×List Nat)
 | .fnp a b pre F=>if h:a=ps/\b=rs then some (⟨h.1▸pre,h.1▸h.2▸F⟩,[]) else none
 | .bp o 0=>match σ.obj o with
  |some (.box _ _ [c])=>match d ps rs c with
   |some (x,f)=>some (x,o::f)
   |none=>none
  |_=>none
 |_=>none
def je8 (b:(ps rs:List Ty)->SV->Option (FnD ps rs×List Nat)) (σ:St):(ps:List Par)->List SV->Option (PD ps×List Nat)
 |[],[]=>some ((),[])
 | .val t::ps,v::vs=>match qn σ t v with
  |some (x,f)=>match je8 b σ ps vs with
   |some (xs,a)=>some ((x,xs),f++a)
   |none=>none
  |none=>none
 | .ref t::ps,v::vs=>match jrV σ t v with
  |some (x,f)=>match je8 b σ ps vs with
   |some (xs,a)=>some ((x,xs),f++a)
   |none=>none
  |none=>none
 | .rfn aZ rs::ps,v::vs=>match jCe b σ aZ rs v with
  |some (x,f)=>match je8 b σ ps vs with
   |some (xs,a)=>some ((x,xs),f++a)
   |none=>none
  |none=>none
 |_,_=>none
def jpf (C:Ctx) (σ:St):Nat->(ps rs:List Ty)->SV->Option (FnD ps rs×List Nat)
 |0,_,_,_=>none
 |n+1,ps,rs,v=>match v with
  | .fn a b pre F=>if h:a=ps/\b=rs then some (⟨h.1▸pre,h.1▸h.2▸F⟩,[]) else none
  | .clo f caps=>match C.spec f with
   |some s=>if h:s.rs=rs/\s.own=false then match yV ps s.ps with
    |some ⟨rest,k⟩=>match je8 (jpf C σ n) σ rest caps with
     |some (y,fz)=>some (⟨fun x=>s.pre (k x y),fun x=>h.1▸s.F (k x y)⟩,fz)
     |none=>none
    |none=>none
    else none
   |none=>none
  |_=>none
def jDD (C:Ctx) (σ:St) (ps rs:List Ty) (v:SV):Option (FnD ps rs×List Nat):=jpf C σ 4 ps rs v
def wd (C:Ctx) (σ:St):(ps:List Par)->List SV->Option (PD ps×List Nat)
 |[],[]=>some ((),[])
 | .val t::ps,v::vs=>match qn σ t v with
  |some (x,f)=>match wd C σ ps vs with
   |some (xs,a)=>some ((x,xs),f++a)
   |none=>none
  |none=>none
 | .ref t::ps,v::vs=>match jrV σ t v with
  |some (x,f)=>match wd C σ ps vs with
   |some (xs,a)=>some ((x,xs),f++a)
   |none=>none
  |none=>none
 | .fn aZ rs::ps,v::vs=>match jDD C σ aZ rs v with
  |some (x,f)=>match wd C σ ps vs with
   |some (xs,a)=>some ((x,xs),f++a)
   |none=>none
  |none=>none
 | .rfn aZ rs::ps,v::vs=>match jCe (jDD C σ) σ aZ rs v with
  |some (x,f)=>match wd C σ ps vs with
   |some (xs,a)=>some ((x,xs),f++a)
   |none=>none
  |none=>none
 |_,_=>none
def zU (kt:Ty) {a:Type} (k:kt.Data):List (kt.Data×a)->Option a
 |[]=>none
 |e::r=>if @decide (k=e.1) (kt.decEq k e.1)=true then some e.2 else zU kt k r
def jex (kt:Ty) {a:Type} (k:kt.Data) (v:a):List (kt.Data×a)->List (kt.Data×a)
 |[]=>[(k,v)]
 |e::r=>if @decide (k=e.1) (kt.decEq k e.1)=true then(k,v)::r else e::jex kt k v r
def wh {a:Type} (d:a):Option a->a
 |some x=>x
 |none=>d
def jFv {a:Type}:Option a->Bool
 |some _=>true
 |none=>false
def jaj (kt:Ty) {a:Type} (d:a) (k:kt.Data) (l:List (kt.Data×a)):List (kt.Data×a):=jex kt k (wh d (zU kt k l)) l
def jBN (σ:St) (kt vt:Ty):SV->Option (List (kt.Data×vt.Data))
 | .dat t d=>zz t (.map kt vt) d
 | .mp o=>match σ.obj o with
  |some (.map _ a b l)=>zz (.map a b) (.map kt vt) l
  |some (.mape a b l k _)=>zz (.map a b) (.map kt vt) (jaj a b.dflt k l)
  |_=>none
 | .lit v=>match jiP v with|true=>some []|false=>none
 |_=>none
def jy (x:Int):Prop:= -9223372036854775808<=x/\x<=9223372036854775807
def qH (a b:Int):Int:=IntKind.i64.wrap ((BitVec.ofInt 64 a&&&BitVec.ofInt 64 b).toNat:Int)
def bor (a b:Int):Int:=IntKind.i64.wrap ((BitVec.ofInt 64 a|||BitVec.ofInt 64 b).toNat:Int)
def jGY (a b:Int):Int:=IntKind.i64.wrap ((BitVec.ofInt 64 a^^^BitVec.ofInt 64 b).toNat:Int)
def zx (a b:Int):Int:=IntKind.i64.wrap ((BitVec.ofInt 64 a&&& ~~~(BitVec.ofInt 64 b)).toNat:Int)
def jmY (op:BinOp) (a b:Int):Option Out:=
 match op with
 | .add=>some ⟨[jy (a+b)],[],.dat .int (a+b),[],[],[]⟩
 | .sub=>some ⟨[jy (a-b)],[],.dat .int (a-b),[],[],[]⟩
 | .mul=>some ⟨[jy (a*b)],[],.dat .int (a*b),[],[],[]⟩
 | .quo=>some ⟨[b≠0,jy (a.tdiv b)],[],.dat .int (a.tdiv b),[],[],[]⟩
 | .rem=>some ⟨[b≠0],[],.dat .int (a.tmod b),[],[],[]⟩
 | .and=>some (.pure (.dat .int (qH a b)))
 | .or=>some (.pure (.dat .int (bor a b)))
 | .xor=>some (.pure (.dat .int (jGY a b)))
 | .andNot=>some (.pure (.dat .int (zx a b)))
 | .shl=>some ⟨[0<=b,b<=64,jy (a*2^b.toNat)],[],.dat .int (a*2^b.toNat),[],[],[]⟩
 | .shr=>some ⟨[0<=b,b<=64],[],.dat .int (a/2^b.toNat),[],[],[]⟩
 | .eql=>some (.pure (.dat .bool (decide (a=b))))
 | .neq=>some (.pure (.dat .bool (decide (a≠b))))
 | .lss=>some (.pure (.dat .bool (decide (a<b))))
 | .leq=>some (.pure (.dat .bool (decide (a<=b))))
 | .gtr=>some (.pure (.dat .bool (decide (b<a))))
 | .geq=>some (.pure (.dat .bool (decide (b<=a))))
def wY (a b:Int):Int:=IntKind.u64.wrap ((BitVec.ofInt 64 a&&&BitVec.ofInt 64 b).toNat:Int)
def uor (a b:Int):Int:=IntKind.u64.wrap ((BitVec.ofInt 64 a|||BitVec.ofInt 64 b).toNat:Int)
def jE9 (op:BinOp) (a b:Int):Option Out:=
 match op with
 | .add=>some ⟨[0<=a+b,a+b<=18446744073709551615],[],.dat (.uint .u64) (a+b),[],[],[]⟩
 | .sub=>some ⟨[0<=a-b,a-b<=18446744073709551615],[],.dat (.uint .u64) (a-b),[],[],[]⟩
 | .mul=>some ⟨[0<=a*b,a*b<=18446744073709551615],[],.dat (.uint .u64) (a*b),[],[],[]⟩
 | .and=>some (.pure (.dat (.uint .u64) (wY a b)))
 | .or=>some (.pure (.dat (.uint .u64) (uor a b)))
 | .shl=>some ⟨[0<=b,b<=64,0<=a*2^b.toNat,a*2^b.toNat<=18446744073709551615],[],.dat (.uint .u64) (a*2^b.toNat),[],[],[]⟩
 | .shr=>some ⟨[0<=b,b<=64],[],.dat (.uint .u64) (a/2^b.toNat),[],[],[]⟩
 | .eql=>some (.pure (.dat .bool (decide (a=b))))
 | .neq=>some (.pure (.dat .bool (decide (a≠b))))
 | .lss=>some (.pure (.dat .bool (decide (a<b))))
 | .leq=>some (.pure (.dat .bool (decide (a<=b))))
 | .gtr=>some (.pure (.dat .bool (decide (b<a))))
 | .geq=>some (.pure (.dat .bool (decide (b<=a))))
 |_=>none
def jFC:SV->Bool
 | .lit v=>zv v
 |_=>false
def jGL (σ:St):SV->Option Bool
 | .dat (.ptr _) x=>some x.isNone
 | .ep _ _=>some false
 | .bp o _=>match jkh σ o with|true=>some false|false=>none
 | .rp o _ _ _=>match jkh σ o with|true=>some false|false=>none
 | .lit v=>match jfZ v with|true=>some true|false=>none
 |_=>none
def jGM:SV->Option Bool
 | .fn _ _ _ _=>some false
 | .clo _ _=>some false
 | .lit v=>match jg7 v with|true=>some true|false=>none
 |_=>none
def jEa (σ:St) (ti:TI) (x y:SV):Option Bool:=match ti.pt,ti.fk,y with
 |true,_,.lit v=>match jfZ v with|true=>jGL σ x|false=>none
 |false,true,.lit v=>match jg7 v with|true=>jGM x|false=>none
 |_,_,_=>none
def jy5 (σ:St):SV->Option Bool
 | .own o _=>match σ.obj o with
  |some (.row _ _ _ .yes l)=>some l.isEmpty
  |some (.row _ _ _ .no _)=>some false
  |_=>none
 | .lit v=>match zv v with|true=>some true|false=>none
 |_=>none
def jEQ (C:Ctx) (σ:St) (op:BinOp) (T:Nat) (x y:SV):Option Out:=
 match x,y with
 | .dat .int a,.dat .int b=>jmY op a b
 | .dat .int a,.dat (.uint _) b=>match op with
  | .shl=>jmY .shl a b
  | .shr=>jmY .shr a b
  |_=>none
 | .dat (.uint .u64) a,.dat (.uint .u64) b=>jE9 op a b
 | .dat (.uint .u64) a,.dat .int b=>match op with
  | .shl=>jE9 .shl a b
  | .shr=>jE9 .shr a b
  |_=>none
 |_,_=>match C.info T with
  |none=>none
  |some ti=>match ti.cmp with
   |true=>match qn σ ti.ty x,qn σ ti.ty y with
    |some (a,[]),some (b,[])=>match op with
     | .eql=>some (.pure (.dat .bool (@decide (a=b) (ti.ty.decEq a b))))
     | .neq=>some (.pure (.dat .bool (!(@decide (a=b) (ti.ty.decEq a b)))))
     |_=>none
    |_,_=>none
   |false=>match jFC y,ti.sl with
    |true,true=>match jy5 σ x with
     |some b=>match op with
      | .eql=>some (.pure (.dat .bool b))
      | .neq=>some (.pure (.dat .bool (!b)))
      |_=>none
     |none=>none
    |_,_=>match jEa σ ti x y with
     |some b=>match op with
      | .eql=>some (.pure (.dat .bool b))
      | .neq=>some (.pure (.dat .bool (!b)))
      |_=>none
     |none=>none
def jdc (σ:St) (t:Ty):List (Nat×Operand)->(i:Nat)->Option (List t.Data×List Nat)
 |[],_=>some ([],[])
 | (j,x)::r,i=>match Nat.beq i j with
  |true=>match qn σ t (jQ σ x) with
   |some (d,f)=>match jdc σ t r (i+1) with
    |some (l,a)=>some (d::l,f++a)
    |none=>none
   |none=>none
  |false=>none
def jnP (cs new:List SV) (off:Nat):List SV:=cs.take off++new++cs.drop (off+new.length)
def vA (C:Ctx) (σ:St) (fields:List (Nat×Nat)):List (Nat×Operand)->List SV->Option (List SV)
 |[],cs=>some cs
 | (j,x)::r,cs=>match fields[j]? with
  |some (off,a)=>match cells σ (jQ σ x),C.info a with
   |some new,some b=>match Nat.beq new.length b.size,Nat.ble (off+new.length) cs.length with
    |true,true=>vA C σ fields r (jnP cs new off)
    |_,_=>none
   |_,_=>none
  |none=>none
def lenOf (σ:St):SV->Option (List Prop×Nat)
 | .dat (.slice _) l=>some ([l.length<4611686018427387904],l.length)
 | .own o _=>match σ.obj o with
  |some (.row _ _ _ _ l)=>some ([l.length<4611686018427387904],l.length)
  |_=>none
 | .osl o _ _ n=>match σ.obj o with
  |some (.row _ _ _ _ _)=>some ([n<4611686018427387904],n)
  |_=>none
 | .lit v=>match zv v with|true=>some ([],0)|false=>none
 |_=>none
def jkJ:List SV->Int->Option Int
 |[],a=>some a
 | .dat .int b::r,a=>jkJ r (min a b)
 |_,_=>none
def jkK:List SV->Int->Option Int
 |[],a=>some a
 | .dat .int b::r,a=>jkK r (max a b)
 |_,_=>none
def results:(rs:List Ty)->(Ty.st rs).Data->List SV
 |[],_=>[]
 |t::ts,d=> .dat t d.1::results ts d.2
def jpM (rs:List Ty) (d:(Ty.st rs).Data):SV:=
 match results rs d with
 |[v]=>v
 |vs=> .tup vs
def jeK (o:Nat):List (Nat×SV)->Bool
 |[]=>true
 | (_,v)::r=>match SV.refs o v with|true=>false|false=>jeK o r
def jor (o:Nat):List (Nat×(Nat×Bool)×SV)->Bool
 |[]=>true
 | (_,_,v)::r=>match SV.refs o v with|true=>false|false=>jor o r
def qX (o:Nat):List (Nat×Option Ob)->Bool
 |[]=>true
 | (_,some (.box _ _ cs))::r=>match SV.refs.refsL o cs with|true=>false|false=>qX o r
 |_::r=>qX o r
def asInt:SV->Option Int
 | .dat .int i=>some i
 |_=>none
def jvf:SV->Option Int
 | .dat (.uint _) i=>some i
 |_=>none
def jtU (σ:St) (x:Option Operand) (dflt:Int):Option Int:=
 match x with
 |none=>some dflt
 |some a=>asInt (jQ σ a)
def jqJ:Ty->Bool
 | .slice _=>false
 | .map _ _=>false
 | .ptr _=>false
 | .pair a b=>match jqJ a with|true=>jqJ b|false=>false
 |_=>true
def jwL:List Ty->Bool
 |[]=>true
 |t::r=>match jqJ t with|true=>jwL r|false=>false
def jGf (rs:List Ty) (fz:List Nat):List Nat:=match jwL rs with|true=>[]|false=>fz
def jmW (C:Ctx) (σ:St) (dst:Nat) (a:SV) (args:List SV):Option Out:=
 match a with
 | .clo f caps=>match C.spec f with
  |some s=>match wd C σ s.ps (args++caps) with
   |some (d,fz)=>match s.own with
    |false=>some ⟨s.pre d,[],jpM s.rs (s.F d),jGf s.rs fz,[],[]⟩
    |true=>none
   |none=>none
  |none=>C.eff f dst σ (args++caps)
 | .fn ps rs pre F=>match joT σ ps args with
  |some (d,fz)=>some ⟨pre d,[],jpM rs (F d),jGf rs fz,[],[]⟩
  |none=>none
 | .fe false o T st ps rs pre K=>match joT σ ps args,σ.obj o with
  |some (d,fz),some (.box b false [c])=>match Nat.beq T b,yx fz o,st.agg,qn σ st c with
   |true,false,false,some (s,[])=>some ⟨pre d,[],jpM rs (K d s).1,fz,[(o,some (.box T false [.dat st (K d s).2]))],[]⟩
   |_,_,_,_=>none
  |_,_=>none
 |_=>none
def jEg (C:Ctx) (σ:St):List Operand->List Nat->Option Out
 |[x],[U]=>match C.slice U,lenOf σ (jQ σ x) with
  |some _,some (f,n)=>some ⟨[],f,.dat .int (n:Int),[],[],[]⟩
  |some _,none=>none
  |none,_=>match C.mapT U with
   |some (_,tk,te)=>match jBN σ tk.ty te.ty (jQ σ x) with
    |some l=>some ⟨[],[],.dat .int (l.length:Int),[],[],[]⟩
    |none=>none
   |none=>none
 |_,_=>none
def jEK (C:Ctx) (σ:St):List Operand->List Nat->Option Out
 |[x],[U]=>match C.slice U,jQ σ x with
  |some _,.lit v=>match zv v with
   |true=>some (.pure (.dat .int 0))
   |false=>none
  |_,_=>none
 |_,_=>none
def jDu (C:Ctx) (σ:St) (dst:Nat) (b x:Operand) (U c:Nat):Option Out:=
 match C.slice U,C.info c with
 |some (ti,te),some a=>match jQ σ b,jQ σ x,a.ty,a.agg with
  | .lit v,.dat .int n,.int,false=>match zv v with
   |true=>some ⟨[0<n,n.toNat*te.bytes<=140737488355328],[],.own dst te.ty,[],[(dst,some (.row ti.elem te.ty false .yes (List.replicate n.toNat te.ty.dflt)))],[dst]⟩
   |false=>none
  |_,_,_,_=>none
 |_,_=>none
def jEU (C:Ctx) (σ:St) (dst:Nat):List Operand->List Nat->Option Out
 |[b,x],[U,c]=>match Nat.beq U c,C.slice U with
  |true,some (ti,te)=>match yF σ te.ty (jQ σ x) with
   |some a=>match jQ σ b with
    | .own o _=>match σ.obj o with
     |some (.row E t false nl l)=>match zz (.slice t) (.slice te.ty) l with
      |some l'=>match Nat.beq E ti.elem with
       |true=>some ⟨[(l'.length+a.length)*te.bytes<=140737488355328],[],.own dst te.ty,[],[(o,none),(dst,some (.row E te.ty false nl (l'++a)))],[dst]⟩
       |false=>none
      |none=>none
     |_=>none
    | .osl o _ 0 n=>match σ.obj o with
     |some (.row E t false .no l)=>match zz (.slice t) (.slice te.ty) l with
      |some l'=>match Nat.beq E ti.elem with
       |true=>some ⟨[(n+a.length)*te.bytes<=140737488355328],[],.own dst te.ty,[],[(o,none),(dst,some (.row E te.ty false .no (l'.take n++a)))],[dst]⟩
       |false=>none
      |none=>none
     |some (.row E t false .unk l)=>match zz (.slice t) (.slice te.ty) l with
      |some l'=>match Nat.beq E ti.elem with
       |true=>some ⟨[(n+a.length)*te.bytes<=140737488355328],[],.own dst te.ty,[],[(o,none),(dst,some (.row E te.ty false .unk (l'.take n++a)))],[dst]⟩
       |false=>none
      |none=>none
     |some (.row E t false .yes l)=>match zz (.slice t) (.slice te.ty) l with
      |some l'=>match Nat.beq E ti.elem,a with
       |true,y::ys=>some ⟨[(n+(y::ys).length)*te.bytes<=140737488355328],[],.own dst te.ty,[],[(o,none),(dst,some (.row E te.ty false .yes (l'.take n++(y::ys))))],[dst]⟩
       |_,_=>none
      |none=>none
     |_=>none
    | .lit v=>match zv v with
     |true=>some ⟨[a.length*te.bytes<=140737488355328],[],.own dst te.ty,[],[(dst,some (.row ti.elem te.ty false .yes a))],[dst]⟩
     |false=>none
    | .fcl t l=>match zz (.slice t) (.slice te.ty) l,a with
     |some l',y::ys=>some ⟨[(l'.length+(y::ys).length)*te.bytes<=140737488355328],[],.own dst te.ty,[],[(dst,some (.row ti.elem te.ty false .no (l'++(y::ys))))],[dst]⟩
     |_,_=>none
    |_=>none
   |none=>none
  |false,some _=>jDu C σ dst b x U c
  |_,_=>none
 |_,_=>none
def qC (s:ByteArray) (i:Nat):Int:=((s.data.toList.getD i 0).toNat:Int)
def jGA:SV->Option Int
 | .dat .int i=>some i
 | .dat (.uint _) i=>some i
 |_=>none
def jEI (C:Ctx) (σ:St):List Operand->List Nat->Option Out
 |[x],[U]=>match C.slice U,jQ σ x with
  |some (_,te),.osl o u lo n=>match σ.obj o with
   |some (.row E t false nl l)=>match zz (.slice t) (.slice te.ty) l,vK u te.ty with
    |some l',true=>some ⟨[lo+n=l'.length],[],.any,[],[(o,some (.row E te.ty false nl (l'.take lo++List.replicate n te.ty.dflt)))],[]⟩
    |_,_=>none
   |_=>none
  |_,_=>none
 |_,_=>none
def jCW (σ:St):SV->Option (Nat×Nat×Nat)
 | .own o _=>match σ.obj o with
  |some (.row _ _ _ _ l)=>some (o,0,l.length)
  |_=>none
 | .osl o _ lo n=>some (o,lo,n)
 |_=>none
def eTy (t:Ty):SV->Bool
 | .osl _ u _ _=>vK u t
 | .own _ _=>true
 |_=>false
def jxy {α:Type} (l:List α) (lo n:Nat) (a:List α):List α:=l.take lo++a.take n++l.drop (lo+(a.take n).length)
def jEE (C:Ctx) (σ:St):List Operand->List Nat->Option Out
 |[x,y],[U,b]=>match Nat.beq U b,C.slice U with
  |true,some (_,te)=>match yF σ te.ty (jQ σ y),jCW σ (jQ σ x),eTy te.ty (jQ σ x) with
   |some a,some (o,lo,n),true=>match σ.obj o with
    |some (.row E t false nl l)=>match zz (.slice t) (.slice te.ty) l with
     |some l'=>some ⟨[lo+n<=l'.length],[],.dat .int ((a.take n).length:Int),[],[(o,some (.row E te.ty false nl (jxy l' lo n a)))],[]⟩
     |none=>none
    |_=>none
   |_,_,_=>none
  |_,_=>none
 |_,_=>none
def jBO (C:Ctx) (σ:St) (dst U:Nat) (l c:Operand):Option Out:=match C.slice U,asInt (jQ σ l),asInt (jQ σ c) with
 |some (ti,te),some n,some m=>some ⟨[0<=n,n=m,n.toNat*te.bytes<=140737488355328],[],.own dst te.ty,[],[(dst,some (.row ti.elem te.ty false .no (List.replicate n.toNat te.ty.dflt)))],[dst]⟩
 |_,_,_=>none
def jA7 (C:Ctx) (σ:St) (U:Nat) (m a x:Operand):Option Out:=match C.mapT U with
 |some (_,tk,te)=>match jQ σ m with
  | .mp o=>match σ.obj o with
   |some (.map false kt vt l)=>match zz (.map kt vt) (.map tk.ty te.ty) l,qn σ tk.ty (jQ σ a),qn σ te.ty (jQ σ x) with
    |some l',some (k,[]),some (v,fz)=>match yx fz o with
     |false=>some ⟨[],[],.any,fz,[(o,some (.map false tk.ty te.ty (jex tk.ty k v l')))],[]⟩
     |true=>none
    |_,_,_=>none
   |_=>none
  |_=>none
 |none=>none
def jtW (C:Ctx) (U:Nat) (x:SV) (i:Int):Option Out:=
 match C.known U with
 |some ti=>match ti.arr,ti.fields[i.toNat]?,C.known ti.elem with
  |true,some (off,_),some te=>match x with
   | .ep t d=>match zz t ti.ty d with
    |some a=>match ti.ty.sub off te.ty a with
     |some y=>some ⟨[0<=i],[],.ep te.ty y,[],[],[]⟩
     |none=>none
    |none=>none
   |_=>none
  |_,_,_=>none
 |none=>none
def jgx (σ:St) (t:Ty):List SV->Option (List t.Data)
 |[]=>some []
 |c::r=>match jt8 σ t c,jgx σ t r with
  |some (d,[]),some l=>some (d::l)
  |_,_=>none
def jDM (C:Ctx) (σ:St) (U:Nat) (x:SV) (lo hi:Option Operand):Option Out:=
 match C.known U,lo,hi,x with
 |some ti,none,none,.bp o 0=>match ti.arr,C.known ti.elem,σ.obj o with
  |true,some te,some (.box _ _ cs)=>match jgx σ te.ty cs,Nat.beq cs.length ti.size,te.ty.agg with
   |some l,true,false=>some ⟨[],[],.dat (.slice te.ty) l,[o],[],[]⟩
   |_,_,_=>none
  |_,_,_=>none
 |_,_,_,_=>none
def jC (C:Ctx) (σ:St) (dst:Nat):Op->Option Out
 | .move x=>some (.pure (jQ σ x))
 | .assign x=>some (.pure (jQ σ x))
 | .alloc E=>match C.info E with
  |some ti=>some ⟨[],[],.bp dst 0,[],[(dst,some (.box E false (ti.zero.map jlJ)))],[dst]⟩
  |none=>none
 | .box E x=>match C.info E with
  |some _=>match cells σ (jQ σ x) with
   |some cs=>some ⟨[],[],.bp dst 0,[],[(dst,some (.box E false cs))],[dst]⟩
   |none=>none
  |none=>none
 | .build U g=>match C.info U with
  |some ti=>match ti.agg,vA C σ ti.fields g.toList (ti.zero.map jlJ) with
   |true,some cs=>some (.pure (.agg cs))
   |_,_=>none
  |none=>none
 | .buildSlice U n g=>match C.slice U with
  |some (ti,te)=>match jdc σ te.ty g.toList 0 with
   |some (l,fz)=>match Nat.beq l.length n,Nat.ble (n*te.size) 16777216 with
    |true,true=>some ⟨[],[],.own dst te.ty,fz,[(dst,some (.row ti.elem te.ty false .no l))],[dst]⟩
    |_,_=>none
   |none=>none
  |none=>none
 | .load U a=>match C.info U with
  |some ti=>match jQ σ a with
   | .bp o off=>match σ.obj o with
    |some (.box _ _ cs)=>match ti.agg with
     |true=>match Nat.ble (off+ti.size) cs.length with
      |true=>some (.pure (.agg ((cs.drop off).take ti.size)))
      |false=>none
     |false=>match cs[off]? with
      |some v=>some (.pure v)
      |none=>none
    |_=>none
   | .ep t d=>match kr ti.ty,zz t ti.ty d with
    |true,some x=>some (.pure (.dat ti.ty x))
    |_,_=>none
   | .rp o u i off=>match σ.obj o with
    |some (.row _ t _ _ l)=>match zz (.slice t) (.slice u) l with
     |some l'=>match kr ti.ty,u.sub off ti.ty (@nth _ ⟨u.dflt⟩ l' i) with
      |true,some x=>some (.pure (.dat ti.ty x))
      |_,_=>none
     |none=>none
    |_=>none
   | .lit v=>match jDe v with
    |some x=>match kr ti.ty,zz x.1 ti.ty x.2 with
     |true,some y=>some (.pure (.dat ti.ty y))
     |_,_=>none
    |none=>none
   | .dat (.ptr t) x=>match kr ti.ty,zz t ti.ty (jR t.dflt x) with
    |true,some y=>some ⟨[x.isSome=true],[],.dat ti.ty y,[],[],[]⟩
    |_,_=>none
   | .fe true o T st ps rs pre K=>match ti.agg,jkh σ o with
    |false,true=>some (.pure (.fe false o T st ps rs pre K))
    |_,_=>none
   | .fnp ps rs pre F=>match ti.agg with
    |false=>some (.pure (.fn ps rs pre F))
    |true=>none
   |_=>none
  |none=>none
 | .store U a x=>match C.info U with
  |some ti=>match jQ σ a with
   | .bp o off=>match σ.obj o with
    |some (.box B false cs)=>match cells σ (jQ σ x) with
     |some new=>match Nat.beq new.length ti.size,Nat.ble (off+new.length) cs.length with
      |true,true=>some ⟨[],[],.any,[],[(o,some (.box B false (jnP cs new off)))],[]⟩
      |_,_=>none
     |none=>none
    |_=>none
   | .rp o u i off=>match σ.obj o with
    |some (.row E t false nl l)=>match zz (.slice t) (.slice u) l with
     |some l'=>match kr ti.ty,qn σ ti.ty (jQ σ x) with
      |true,some (d,fz)=>match u.put off ti.ty (@nth _ ⟨u.dflt⟩ l' i) d,yx fz o with
       |some y,false=>some ⟨[],[],.any,fz,[(o,some (.row E u false nl (l'.set i y)))],[]⟩
       |_,_=>none
      |_,_=>none
     |none=>none
    |_=>none
   |_=>none
  |none=>none
 | .nilCheck x=>match jQ σ x with
  | .bp o off=>match jkh σ o with|true=>some (.pure (.bp o off))|false=>none
  | .ep t d=>some (.pure (.ep t d))
  | .dat (.ptr t) x=>some ⟨[x.isSome=true],[],.ep t (jR t.dflt x),[],[],[]⟩
  |_=>none
 | .fieldAddr U x f=>match C.info U with
  |some ti=>match ti.flds[f]? with
   |some (off,w)=>match jQ σ x with
    | .bp o k=>match C.info w,jkh σ o with
     |some e,true=>match Nat.beq e.size 0 with|true=>none|false=>some (.pure (.bp o (k+off)))
     |_,_=>none
    | .rp o t i k=>match C.info w,jkh σ o with
     |some e,true=>match Nat.beq e.size 0 with|true=>none|false=>some (.pure (.rp o t i (k+off)))
     |_,_=>none
    | .ep t d=>match C.known w with
     |some e=>match Nat.beq e.size 0 with
      |true=>none
      |false=>match t.sub off e.ty d with
       |some y=>some (.pure (.ep e.ty y))
       |none=>none
     |none=>none
    | .dat (.ptr t) x=>match C.known w with
     |some e=>match Nat.beq e.size 0 with
      |true=>none
      |false=>match t.sub off e.ty (jR t.dflt x) with
       |some y=>some ⟨[x.isSome=true],[],.ep e.ty y,[],[],[]⟩
       |none=>none
     |none=>none
    |_=>none
   |none=>none
  |none=>none
 | .field U x f=>match C.info U with
  |some ti=>match ti.flds[f]? with
   |some (off,w)=>match C.info w with
    |some e=>match jQ σ x with
     | .agg cs=>match e.agg with
      |true=>some (.pure (.agg ((cs.drop off).take e.size)))
      |false=>match cs[off]? with
       |some v=>some (.pure v)
       |none=>none
     | .dat t d=>match t.agg,kr e.ty,t.sub off e.ty d with
      |true,true,some y=>some (.pure (.dat e.ty y))
      |_,_,_=>none
     |_=>none
    |none=>none
   |none=>none
  |none=>none
 | .indexAddr U x q=>match C.slice U,asInt (jQ σ q) with
  |some (_,te),some i=>match jQ σ x with
   | .dat (.slice t) l=>match zz (.slice t) (.slice te.ty) l with
    |some l'=>some ⟨[0<=i,i<l'.length],[],.ep te.ty (@nth _ ⟨te.ty.dflt⟩ l' i.toNat),[],[],[]⟩
    |none=>none
   | .own o _=>match σ.obj o with
    |some (.row _ _ _ _ l)=>some ⟨[0<=i,i<l.length],[],.rp o te.ty i.toNat 0,[],[],[]⟩
    |_=>none
   | .osl o t lo n=>match jkh σ o,vK t te.ty with
    |true,true=>some ⟨[0<=i,i<n],[],.rp o te.ty (lo+i.toNat) 0,[],[],[]⟩
    |_,_=>none
   | .lit v=>match zv v with
    |true=>some ⟨[False],[],.ep te.ty te.ty.dflt,[],[],[]⟩
    |false=>none
   |_=>none
  |none,some i=>jtW C U (jQ σ x) i
  |_,none=>none
 | .index U x q=>match yx C.strs U,jQ σ x,jGA (jQ σ q) with
  |true,.lit (.string s),some i=>some ⟨[0<=i,i<s.size],[],.dat (.uint .u8) (qC s i.toNat),[],[],[]⟩
  |_,_,_=>none
 | .binOp op U x y _=>jEQ C σ op U (jQ σ x) (jQ σ y)
 | .unOp op _ x=>match op with
  | .not=>match jQ σ x with
   | .dat .bool b=>some (.pure (.dat .bool (!b)))
   |_=>none
  | .neg=>match asInt (jQ σ x) with
   |some a=>some ⟨[jy (-a)],[],.dat .int (-a),[],[],[]⟩
   |none=>none
  |_=>none
 | .convert V U x=>match C.info V,C.info U with
  |some _,some ti=>match ti.agg,ti.ty with
   |false,.int=>match asInt (jQ σ x) with
    |some a=>some ⟨[jy a],[],.dat .int a,[],[],[]⟩
    |none=>match jvf (jQ σ x) with
     |some a=>some ⟨[jy a],[],.dat .int a,[],[],[]⟩
     |none=>none
   |false,.uint .u64=>match asInt (jQ σ x) with
    |some a=>some ⟨[0<=a,a<=18446744073709551615],[],.dat (.uint .u64) a,[],[],[]⟩
    |none=>none
   |false,.uint .u8=>match jvf (jQ σ x) with
    |some a=>some ⟨[0<=a,a<=255],[],.dat (.uint .u8) a,[],[],[]⟩
    |none=>none
   |_,_=>none
  |_,_=>none
 | .makeFunc f p caps=>match f,p.toList with
  | .func f,[]=>some (.pure (.clo f (caps.toList.map (jQ σ))))
  |_,_=>none
 | .slice U x none (some hi) (some A)=>match C.slice U,jQ σ x,asInt (jQ σ hi),asInt (jQ σ A) with
  |some (_,te),.dat (.slice t) xs,some h,some m=>match zz (.slice t) (.slice te.ty) xs with
   |some j=>some ⟨[h=j.length,m=j.length],[],.fcl te.ty j,[],[],[]⟩
   |none=>none
  |_,_,_,_=>none
 | .slice U x lo hi none=>match C.slice U with
  |none=>jDM C σ U (jQ σ x) lo hi
  |some (_,te)=>match jtU σ lo 0 with
   |none=>none
   |some l=>match jQ σ x with
    | .dat (.slice t) xs=>match zz (.slice t) (.slice te.ty) xs,jtU σ hi xs.length with
     |some j,some h=>some ⟨[0<=l,l<=h,h<=j.length],[],.dat (.slice te.ty) ((j.drop l.toNat).take (h.toNat-l.toNat)),[],[],[]⟩
     |_,_=>none
    | .own o _=>match σ.obj o with
     |some (.row _ _ _ _ xs)=>match jtU σ hi xs.length with
      |some h=>some ⟨[0<=l,l<=h,h<=xs.length],[],.osl o te.ty l.toNat (h.toNat-l.toNat),[],[],[]⟩
      |none=>none
     |_=>none
    | .osl o t z n=>match jtU σ hi n,vK t te.ty,jkh σ o with
     |some h,true,true=>some ⟨[0<=l,l<=h,h<=n],[],.osl o t (z+l.toNat) (h.toNat-l.toNat),[],[],[]⟩
     |_,_,_=>none
    | .lit v=>match zv v,jtU σ hi 0 with
     |true,some h=>some ⟨[0<=l,l<=h,h<=0],[],.lit v,[],[],[]⟩
     |_,_=>none
    |_=>none
 | .extract x i=>match jQ σ x with
  | .tup vs=>match vs[i]? with
   |some v=>some (.pure v)
   |none=>none
  |_=>none
 | .call c=>match c.callee with
  | .value f=>jmW C σ dst (jQ σ f) (c.args.toList.map (jQ σ))
  | .builtin .len=>jEg C σ c.args.toList c.argTypes.toList
  | .builtin .append=>jEU C σ dst c.args.toList c.argTypes.toList
  | .builtin .clear=>jEI C σ c.args.toList c.argTypes.toList
  | .builtin .copy=>jEE C σ c.args.toList c.argTypes.toList
  | .builtin .cap=>jEK C σ c.args.toList c.argTypes.toList
  | .builtin .min=>match c.args.toList.map (jQ σ) with
   | .dat .int a::r=>match jkJ r a with
    |some m=>some (.pure (.dat .int m))
    |none=>none
   |_=>none
  | .builtin .max=>match c.args.toList.map (jQ σ) with
   | .dat .int a::r=>match jkK r a with
    |some m=>some (.pure (.dat .int m))
    |none=>none
   |_=>none
  |_=>none
 | .makeMap U none=>match C.lit,C.mapT U with
  |false,some (_,tk,te)=>some ⟨[],[],.mp dst,[],[(dst,some (.map false tk.ty te.ty []))],[dst]⟩
  |true,some _=>some (.pure .any)
  |_,none=>none
 | .lookup U x q ok=>match C.mapT U with
  |some (_,tk,te)=>match jBN σ tk.ty te.ty (jQ σ x),qn σ tk.ty (jQ σ q) with
   |some l,some (k,[])=>match ok with
    |true=>some (.pure (.tup [.dat te.ty (wh te.ty.dflt (zU tk.ty k l)),.dat .bool (jFv (zU tk.ty k l))]))
    |false=>some (.pure (.dat te.ty (wh te.ty.dflt (zU tk.ty k l))))
   |_,_=>none
  |none=>none
 | .mapUpdate U m q x=>jA7 C σ U m q x
 | .insert U m q x=>match C.lit with
  |false=>jA7 C σ U m q x
  |true=>some (.pure .any)
 | .makeSlice U l c=>jBO C σ dst U l c
 | .entryStore U m st x=>match C.mapT U with
  |some (_,tk,te)=>match jQ σ m,jQ σ st with
   | .mp o,.dat .int s=>match σ.obj o with
    |some (.mape kt vt l k D)=>match zz (.map kt vt) (.map tk.ty te.ty) l,zz kt tk.ty k,qn σ te.ty (jQ σ x) with
     |some l',some k',some (v,fz)=>match yx fz o with
      |false=>some ⟨[s=D],[],.any,fz,[(o,some (.map false tk.ty te.ty (jex tk.ty k' v l')))],[]⟩
      |true=>none
     |_,_,_=>none
    |_=>none
   |_,_=>none
  |none=>none
 | .range U x=>match C.mapT U with
  |some (_,tk,te)=>match qn σ (.map tk.ty te.ty) (jQ σ x) with
   |some (l,fz)=>some ⟨[],[],.ip dst,fz,[(dst,some (.iter tk.ty te.ty l none))],[dst]⟩
   |none=>none
  |none=>none
 | .entry it=>match jQ σ it with
  | .ip o=>match σ.obj o with
   |some (.iter kt vt _ (some x))=>some (.pure (.tup [.dat kt x.1,.dat vt x.2]))
   |_=>none
  |_=>none
 | .panic _=>some ⟨[False],[],.any,[],[],[]⟩
 | .makeInterface T _=>match C.info T with|some _=>some (.pure .any)|none=>none
 |_=>none
structure RS where
 st:St
 gl:List (Nat×(Nat×Bool)×SV)
def jwn:List (Nat×(Nat×Bool)×SV)->Nat->Option ((Nat×Bool)×SV)
 |[],_=>none
 | (j,g,x)::r,k=>match Nat.beq j k with|true=>some (g,x)|false=>jwn r k
def sgn (want a:Bool):Bool:=match want with|true=>a|false=> !a
def gD (ops:List Oper) (j:Nat):Option Nat:=match ops[j]? with|some o=>o.dst|none=>none
def jdJ (ops:List Oper) (rs:RS):Nat->Nat×Bool->Option Bool
 |0,_=>none
 |fuel+1,(j,want)=>match gD ops j with
  |some d=>match jwn rs.gl d with
   |some (g,.dat .bool a)=>match jdJ ops rs fuel g with
    |some γ=>some (γ&&sgn want a)
    |none=>none
   |some _=>none
   |none=>match rs.st.get d with
    | .dat .bool a=>some (sgn want a)
    |_=>none
  |none=>none
def jho (ops:List Oper) (rs:RS):Nat->Nat×Bool->List (Nat×Bool)
 |0,_=>[]
 |fuel+1,(j,want)=>(j,want)::(match gD ops j with
  |some d=>match jwn rs.gl d with
   |some (g,_)=>jho ops rs fuel g
   |none=>[]
  |none=>[])
def jyl (a b:Nat×Bool):Bool:=match Nat.beq a.1 b.1 with|true=>(match a.2,b.2 with|true,true=>true|false,false=>true|_,_=>false)|false=>false
def jg9:List (Nat×Bool)->Nat×Bool->Bool
 |[],_=>false
 |h::r,g=>match jyl h g with|true=>true|false=>jg9 r g
def jaM:List (Nat×(Nat×Bool)×SV)->List (Nat×Bool)->List (Nat×SV)
 |[],_=>[]
 | (s,g,v)::r,ch=>match jg9 ch g with|true=>(s,v)::jaM r ch|false=>jaM r ch
def ze (rs:RS) (ch:List (Nat×Bool)):St:={rs.st with sl:=jaM rs.gl ch++rs.st.sl}
def jod:Operand->Option Nat
 | .tmp t=>some t
 |_=>none
def jbV (t:Nat):List Oper->Nat->List Nat
 |[],_=>[]
 |o::r,j=>match o.dst with
  |some d=>match Nat.beq d t with|true=>j::jbV t r (j+1)|false=>jbV t r (j+1)
  |none=>jbV t r (j+1)
def jbc (ops:List Oper) (c:Operand) (want:Bool):List (Nat×Bool):=
 match jod c with
 |some t=>(jbV t ops 0).map fun j=>(j,want)
 |none=>[]
def jsG (ops:List Oper) (rs:RS) (ch:List (Nat×Bool)) (c a b:Operand):Option Out:=
 match jQ (ze rs ch) c with
 | .dat .bool d=>
  match jQ (ze rs (jbc ops c true++ch)) a,jQ (ze rs (jbc ops c false++ch)) b with
  | .dat .bool x,.dat .bool y=>match b with
   | .const (.bool false)=>some (.pure (.dat .bool (d&&x)))
   |_=>match a with
    | .const (.bool true)=>some (.pure (.dat .bool (d||y)))
    |_=>some (.pure (.dat .bool (cond d x y)))
  | .dat .int x,.dat .int y=>some (.pure (.dat .int (cond d x y)))
  |_,_=>none
 |_=>none
def jeE (C:Ctx):Option Nat->Bool
 |some d=>Nat.blt d C.n
 |none=>true
structure Eff where
 guard:Option Bool
 vc:List Prop
 fact:List Prop
 sl:List (Nat×SV)
 gl:List (Nat×(Nat×Bool)×SV)
 ob:List (Nat×Option Ob)
 nw:List Nat
def zr (e:Eff) (rs:RS):RS:=⟨⟨e.sl++rs.st.sl,e.ob++rs.st.ob⟩,e.gl++rs.gl⟩
def jlW (o:Oper):Nat:=match o.dst with|some d=>d|none=>1000000
def jpH (o:Oper) (v:SV):List (Nat×SV):=match o.dst with|some d=>[(d,v)]|none=>[]
def jAz (C:Ctx) (σ:St) (U n:Nat) (a:List (Nat×Operand)):Option Out:=match C.slice U with
 |some (_,te)=>match jdc σ te.ty a 0 with
  |some (l,fz)=>match Nat.beq l.length n,Nat.ble (n*te.size) 16777216 with
   |true,true=>some ⟨[],[],.dat (.slice te.ty) l,fz,[],[]⟩
   |_,_=>none
  |none=>none
 |none=>none
def gq (C:Ctx) (ops:List Oper) (o:Oper) (R:RS) (ch:List (Nat×Bool)):Option Out:=
 match o.op,o.guard with
 | .pick c a b,_=>jsG ops R ch c a b
 | .buildSlice U n d,some _=>jAz C (ze R ch) U n d.toList
 |op,_=>jC C (ze R ch) (jlW o) op
def jcx:Op->Bool
 | .call c=>match c.callee with
  | .builtin .clear=>false
  |_=>true
 |_=>false
def jav (C:Ctx) (ops:List Oper) (o:Oper) (R:RS):Option Eff:=
 match o.guard with
 |none=>match gq C ops o R [] with
  |none=>none
  |some out=>some ⟨none,out.vc,out.fact,jpH o out.sv,[],out.wr++qG R.st out.fz,out.nw⟩
 |some g=>match jdJ ops R ops.length g with
  |none=>none
  |some γ=>match gq C ops o R (jho ops R ops.length g) with
   |none=>none
   |some out=>match out.wr,out.nw with
    |[],[]=>some ⟨some γ,out.vc,out.fact,jpH o .any,(match o.dst with|some d=>[(d,g,out.sv)]|none=>[]),qG R.st out.fz,[]⟩
    |_,_=>none
def jCb (ops:List Oper) (d:Nat):List (Nat×(Nat×Bool)×SV)->Bool
 |[]=>true
 | (s,(j,_),_)::r=>match Nat.beq s d,gD ops j with
  |false,some dj=>match Nat.beq dj d with|true=>false|false=>jCb ops d r
  |_,_=>false
def js8 (rs:RS) (d:Nat):Bool:=match rs.st.obj d,jeK d rs.st.sl,jor d rs.gl,qX d rs.st.ob with
 |none,true,true,true=>Nat.ble (d+1) 1000000
 |_,_,_,_=>false
def jyY (ops:List Oper) (d:Nat):Option (Nat×Bool)->Bool
 |some (j,_)=>match gD ops j with
  |some dj=>match Nat.beq dj d with|true=>false|false=>true
  |none=>false
 |none=>true
def jyZ (ops:List Oper) (o:Oper) (rs:RS):Bool:=
 match o.dst with
 |some d=>match jyY ops d o.guard with
  |true=>jCb ops d rs.gl
  |false=>false
 |none=>true
def jmv (rs:RS):List Nat->Bool
 |[]=>true
 |d::r=>match js8 rs d with|true=>jmv rs r|false=>false
def fits (C:Ctx) (ops:List Oper) (o:Oper) (rs:RS) (e:Eff):Bool:=
 match jeE C o.dst,jyZ ops o rs,jmv rs e.nw,(match e.nw,jcx o.op with|[],false=>true|_,_=>js8 rs (jlW o)) with
 |true,true,true,true=>true
 |_,_,_,_=>false
def vP (C:Ctx) (ops:List Oper):List Oper->RS->Option (List Eff×RS)
 |[],rs=>some ([],rs)
 |o::r,rs=>match jav C ops o rs with
  |none=>none
  |some e=>match fits C ops o rs e with
   |false=>none
   |true=>match vP C ops r (zr e rs) with
    |none=>none
    |some (es,a)=>some (e::es,a)
def SV.rl:SV->List Nat
 | .bp o _=>[o]
 | .own o _=>[o]
 | .osl o _ _ _=>[o]
 | .rp o _ _ _=>[o]
 | .mp o=>[o]
 | .ip o=>[o]
 | .fe _ o _ _ _ _ _ _=>[o]
 | .clo _ caps=>rlL caps
 | .agg cs=>rlL cs
 | .tup cs=>rlL cs
 |_=>[]
where
 rlL:List SV->List Nat
  |[]=>[]
  |v::r=>SV.rl v++rlL r
def qB:List Nat->List Nat->List Nat
 |[],l=>l
 |o::r,l=>match yx l o with|true=>qB r l|false=>qB r (o::l)
def jt9:List Operand->List Nat
 |[]=>[]
 |x::r=>match jod x with|some t=>t::jt9 r|none=>jt9 r
def jar (ops:List Oper):Nat->Option (Nat×Bool)->List Nat
 |0,_=>[]
 |_,none=>[]
 |fuel+1,some (j,_)=>match ops[j]? with
  |some o=>match o.dst with
   |some d=>d::jar ops fuel o.guard
   |none=>jar ops fuel o.guard
  |none=>[]
def zh (ops:List Oper) (o:Oper):List Nat:=jt9 o.op.operands.toList++jar ops ops.length o.guard
def keep {α:Type} (ks:List Nat):List (Nat×α)->List (Nat×α)
 |[]=>[]
 | (k,x)::r=>match yx ks k with|true=>(k,x)::keep ks r|false=>keep ks r
def jE2:List (Nat×SV)->List Nat
 |[]=>[]
 | (_,v)::r=>qB v.rl (jE2 r)
def jE3:List (Nat×(Nat×Bool)×SV)->List Nat
 |[]=>[]
 | (_,_,v)::r=>qB v.rl (jE3 r)
def jlj (σ:St):List Nat->List Nat
 |[]=>[]
 |o::r=>match σ.obj o with
  |some (.box _ _ cs)=>qB (SV.rl.rlL cs) (jlj σ r)
  |_=>jlj σ r
def jzc (σ:St):Nat->List Nat->List Nat
 |0,os=>os
 |n+1,os=>jzc σ n (qB (jlj σ os) os)
def zS (slots:List Nat) (rs:RS):List Nat×RS:=
 (fun sl gl=>(fun os=>(os,⟨⟨sl,os.map fun o=>(o,rs.st.obj o)⟩,gl⟩)) (jzc rs.st 3 (qB (jE2 sl) (jE3 gl)))) (keep slots rs.st.sl) (keep slots rs.gl)
def jb0:List Nat->List Nat->Bool
 |[],_=>true
 |o::r,l=>match yx l o with|true=>jb0 r l|false=>false
def jsx:List (Nat×Option Ob)->List Nat
 |[]=>[]
 | (_,some (.box _ _ cs))::r=>SV.rl.rlL cs++jsx r
 |_::r=>jsx r
def km {α:Type}:List (Nat×α)->List Nat
 |[]=>[]
 | (k,_)::r=>k::km r
structure ko where
 e:Eff
 slots:List Nat
 os:List Nat
 ws:List Nat
 mv:Bool--it only moves a value
 nn:List Nat--the objects that it makes
def jao:Option Ob->Bool
 |some (.box _ _ _)=>true
 |_=>false
def jFD (σ:St) (o:Oper):Bool:=match o.op,o.guard with
 | .move _,none=>true
 | .load _ a,none=>(match jQ σ a with| .bp b _=>jao (σ.obj b)|_=>false)
 | .fieldAddr _ a _,none=>(match jQ σ a with| .bp b _=>jao (σ.obj b)|_=>false)
 |_,_=>false
def jGs (o:Oper) (e:Eff):List Nat:=e.nw++(match e.nw,jcx o.op with|[],false=>[]|_,_=>[jlW o])
def closed (os:List Nat) (R:RS) (e:Eff):Bool:=
 match jb0 (jlj R.st os) os,jb0 (jE2 e.sl) (e.nw++os),jb0 (jE3 e.gl) (e.nw++os),jb0 (jsx e.ob) (e.nw++os),jb0 (km e.ob) (e.nw++os) with
 |true,true,true,true,true=>true
 |_,_,_,_,_=>false
def jjD (C:Ctx) (ops:List Oper):List Oper->RS->Option (List ko×RS)
 |[],rs=>some ([],rs)
 |o::r,rs=>
  match jav C ops o (zS (zh ops o) rs).2 with
  |none=>none
  |some e=>match fits C ops o rs e,closed (zS (zh ops o) rs).1 (zS (zh ops o) rs).2 e with
   |true,true=>match jjD C ops r (zr e rs) with
    |none=>none
    |some (es,a)=>some (⟨e,zh ops o,(zS (zh ops o) rs).1,km e.ob++jGs o e,jFD (ze (zS (zh ops o) rs).2 []) o,jGs o e⟩::es,a)
   |_,_=>none
def jcq:List Nat->List Nat->Bool
 |[],_=>false
 |o::r,l=>match yx l o with|true=>true|false=>jcq r l
def ko.names (x:ko):List Nat:=jE2 x.e.sl++(jE3 x.e.gl++(jsx x.e.ob++x.os))
def jj3:List (Nat×Option Ob)->List Nat
 |[]=>[]
 | (r,x)::l=>match jao x with|true=>r::jj3 l|false=>jj3 l
def yG:List ko->List Nat
 |[]=>[]
 |x::r=>jj3 x.e.ob++yG r
def jya (σ:St) (nb mk names:List Nat):List Nat->Bool
 |[]=>true
 |r::l=>match yx names r with
  |false=>jya σ nb mk names l
  |true=>match yx nb r,yx mk r,jao (σ.obj r) with
   |false,false,false=>jya σ nb mk names l
   |_,_,_=>false
def jGa (σ:St) (nb:List Nat) (x y:ko):Bool:=match y.mv with
 |true=>jya σ nb x.nn y.names x.ws
 |false=>false
def juL (a b:List Nat) (s:Bool):Bool:=match jcq a b with
 |true=>(match s with|true=>false|false=>true)
 |false=>false
def jA9 (σ:St) (nb:List Nat) (x y:ko):Bool:=
 match jcq (km x.e.sl) (km y.e.sl++y.slots),jcq (km y.e.sl) x.slots,jcq x.ws y.ws,juL x.ws y.names (jGa σ nb x y),juL y.ws x.names (jGa σ nb y x) with
 |false,false,false,false,false=>false
 |_,_,_,_,_=>true
def jgW (a:List (List Nat)):List Edge->Option (List Nat)
 |[]=>some []
 |e::r=>match jgW a r with
  |none=>none
  |some l=>match Region.binds .any e with
   |false=>some l
   |true=>match a[e.on]? with
    |some p=>some (qB p (match yx l e.on with|true=>l|false=>e.on::l))
    |none=>none
def kO:List Oper->List (List Nat)->Option (List (List Nat))
 |[],a=>some a
 |o::r,a=>match jgW a o.after.toList with
  |some p=>kO r (a++[p])
  |none=>none
def jcX (σ:St) (nb:List Nat) (x:ko) (before:List Nat):List ko->Nat->Bool
 |[],_=>true
 |y::r,j=>match jA9 σ nb y x with
  |true=>match yx before j with|true=>jcX σ nb x before r (j+1)|false=>false
  |false=>jcX σ nb x before r (j+1)
def gu (σ:St) (nb:List Nat) (all:List ko):List ko->List (List Nat)->Nat->Bool
 |[],_,_=>true
 |x::r,p::ps,k=>match jcX σ nb x p (all.take k) 0 with
  |true=>gu σ nb all r ps (k+1)
  |false=>false
 |_::_,[],_=>false
def gU (C:Ctx) (ops:List Oper) (a:Bool) (σ:St):Option (List Eff×RS):=
 match a with
 |false=>vP C ops ops ⟨σ,[]⟩
 |true=>match jjD C ops ops ⟨σ,[]⟩,kO ops [] with
  |some (aZ,rs),some ps=>match gu σ (yG aZ) aZ aZ ps 0 with
   |true=>some (aZ.map (·.e),rs)
   |false=>none
  |_,_=>none
def asks:List Prop->Prop->Prop
 |[],k=>k
 |p::r,k=>p/\asks r k
def jAE (γ:Bool):List Prop->Prop->Prop
 |[],k=>k
 |p::r,k=>(γ=true->p)/\jAE γ r k
def jop:List Prop->Prop->Prop
 |[],k=>k
 |p::r,k=>p->jop r k
def jzO (γ:Bool):List Prop->Prop->Prop
 |[],k=>k
 |p::r,k=>(γ=true->p)->jzO γ r k
def zQ (a:Bool):List Eff->Prop->Prop
 |[],k=>k
 |s::r,k=>match s.guard with
  |none=>asks s.vc (match a with|true=>zQ a r k|false=>jop s.fact (zQ a r k))
  |some γ=>jAE γ s.vc (match a with|true=>zQ a r k|false=>jzO γ s.fact (zQ a r k))
def jdp (σ:St) (p:SV->Bool):List (Nat×SV)->List (Nat×SV)
 |[]=>[]
 | (s,_)::r=>match p (σ.get s) with|true=>(s,.any)::jdp σ p r|false=>jdp σ p r
def ju8 (ob:List (Nat×Option Ob)):List (Nat×Option Ob)->List Nat
 |[]=>[]
 | (o,none)::r=>(match jD ob o with|some none=>o::ju8 ob r|_=>ju8 ob r)
 |_::r=>ju8 ob r
def jen (os:List Nat) (v:SV):Bool:=match os with
 |[]=>false
 |o::r=>match SV.refs o v with|true=>true|false=>jen r v
def gc (n:Nat) (σ:St):St:=
 match ju8 σ.ob (σ.ob.take (σ.ob.length-n)) with
 |[]=>σ
 |os=>{σ with sl:=jdp σ (jen os) σ.sl++σ.sl}
def jpO (s:Nat) (σ:St):St:=
 match σ.get s with
 | .own o t=>match Nat.beq o s with
  |true=>σ
  |false=>match σ.obj o,qX s σ.ob&&Nat.ble (s+1) 1000000 with
   |some x,true=>{sl:=(s,.own s t)::(jdp σ (jen [o,s]) σ.sl++σ.sl),ob:=(s,some x)::(o,none)::σ.ob}
   |_,_=>σ
 |_=>σ
def yZ (b j:Nat):Nat:=match Nat.ble 1000000 b with|true=>400000+20*(b-1000000)+j|false=>500000+20*b+j
def jc9 (σ:St) (s:Nat):List Nat->Bool
 |[]=>true
 |k::r=>match σ.obj k with
  |some (.box _ _ cs)=>match SV.refs.refsL s cs with|true=>false|false=>jc9 σ s r
  |_=>jc9 σ s r
def jgV (b j:Nat) (σ:St):St:=
 match σ.obj b with
 |some (.box T fz cs)=>match cs[j]? with
  |some (.mp o)=>match Nat.beq o (yZ b j),Nat.beq b o,Nat.beq b (yZ b j) with
   |false,false,false=>match σ.obj o,jc9 σ (yZ b j) (σ.ob.map (·.1))&&Nat.ble (yZ b j+1) 1000000 with
    |some (.map a kt vt l),true=>{sl:=jdp σ (jen [o,yZ b j]) σ.sl++σ.sl,ob:=(b,some (.box T fz (cs.set j (.mp (yZ b j)))))::(yZ b j,some (.map a kt vt l))::(o,none)::σ.ob}
    |_,_=>σ
   |_,_,_=>σ
  |_=>σ
 |_=>σ
def yw (b j:Nat):Nat:=match Nat.ble 1000000 b with|true=>400000+20*(b-1000000)+j|false=>500000+20*b+j
def jFA (σ:St) (o s:Nat):List (Nat×SV):=match σ.get o with
 | .own o' t=>match Nat.beq o' o with|true=>[(o,.own s t)]|false=>[]
 |_=>[]
def jcW (c:Bool) (b j:Nat) (σ:St):St:=
 match σ.obj b with
 |some (.box T fz cs)=>match cs[j]? with
  |some (.own o u)=>match Nat.beq o (yw b j),Nat.beq b o,Nat.beq b (yw b j) with
   |false,false,false=>match σ.obj o,jc9 σ (yw b j) (σ.ob.map (·.1))&&Nat.ble (yw b j+1) 1000000 with
    |some (.row E t a nl l),true=>{sl:=(match c with|true=>jFA σ o (yw b j)|false=>[])++(jdp σ (jen [o,yw b j]) σ.sl++σ.sl),ob:=(b,some (.box T fz (cs.set j (.own (yw b j) u))))::(yw b j,some (.row E t a nl l))::(o,none)::σ.ob}
    |_,_=>σ
   |_,_,_=>σ
  |_=>σ
 |_=>σ
def jnJ (b j:Nat) (σ:St):St:=jcW false b j σ
def jDn (σ:St) (b:Nat):Nat:=match σ.obj b with
 |some (.box _ _ cs)=>cs.length
 |_=>0
def jiJ (b:Nat):Nat->St->St
 |0,σ=>σ
 |j+1,σ=>jnJ b j (jiJ b j σ)
def jel (σ:St) (t:Nat):St:=
 match σ.get t with
 | .bp b 0=>jiJ b (jDn σ b) (jgV b 0 σ)
 | .clo _ [.bp b 0]=>jgV b 0 σ
 |_=>σ
def jjK (σ:St):Callee->St
 | .value (.tmp t)=>jel σ t
 |_=>σ
def jjL (σ:St):List Operand->St
 | .tmp t::_=>jel σ t
 |_=>σ
def jGx (σ:St):Operand->Bool
 | .tmp k=>(match σ.get k with| .own o _=>(match Nat.beq o k with|true=>false|false=>true)|_=>false)
 |_=>false
def jpP (b j:Nat) (σ:St):St:=match σ.obj b with
 |some (.box _ _ cs)=>match cs[j]? with
  |some (.own o _)=>match Nat.ble 1000 o,Nat.ble o 399999 with
   |true,true=>jnJ b j σ
   |_,_=>σ
  |_=>σ
 |_=>σ
def jnK (b:Nat):Nat->St->St
 |0,σ=>σ
 |j+1,σ=>jpP b j (jnK b j σ)
def jjJ (σ:St) (t:Nat) (x:Operand):St:=
 match σ.get t with
 | .bp b k=>jnK b (jDn σ b) (jcW (jGx σ x) b k σ)
 |_=>σ
def wv:List Oper->St->St
 |[],σ=>σ
 |o::r,σ=>match o.op,o.dst with
  | .assign _,some s=>wv r (jel (jpO s σ) s)
  | .call c,_=>wv r (jjK (jjL σ c.args.toList) c.callee)
  | .store _ (.tmp t) x,_=>wv r (jjJ σ t x)
  |_,_=>wv r σ
inductive Ex where
 |normal|ret|exit (id:Nat)
structure je3 where
 X:Type
 sl:X->List (Nat×SV)
 ob:X->List (Nat×Option Ob)
 inv:X->Prop
 mu:X->Nat
def jDx:List Oper->List Nat
 |[]=>[]
 |o::r=>match o.dst with|some d=>d::jDx r|none=>jDx r
def z8:Code->List Nat
 | .region _ ops _=>jDx ops.toList
 | .seq a b=>z8 a++z8 b
 | .cond _ a b=>z8 a++z8 b
 | .block _ a=>z8 a
 | .loop a=>z8 a
 | .scope a=>z8 a
 |_=>[]
def jdL:Code->Nat
 | .region id _ _=>id
 | .seq a _=>jdL a
 | .block _ a=>jdL a
 | .loop a=>jdL a
 | .scope a=>jdL a
 |_=>0
def zM (L:je3) (ws:List Nat) (σ:St) (x:L.X):St:=
 {sl:=L.sl x++(ws.map (fun s=>(s,SV.any))++σ.sl),ob:=L.ob x++(ws.map (fun s=>(s,none))++σ.ob)}
def jDj (t a:Ty) (d:t.Data) (b:a.Data):Prop:=match zz t a d with|some x=>x=b|none=>False
def gj (σ:St):SV->SV->Prop
 |_,.any=>True
 |v,.dat t d=>match qn σ t v with|some (x,[])=>x=d|_=>False
 | .ep t d,.ep a j=>jDj t a d j
 | .own o _,.own o' _=>match Nat.beq o o' with|true=>True|false=>False
 | .lit v,.own o _=>match zv v,σ.obj o with|true,none=>True|_,_=>False
 | .own o u,.osl o' a lo n=>match Nat.beq o o',σ.obj o with
  |true,some (.row _ t _ _ l)=>match vK t a,vK u a with|true,true=>lo=0/\n=l.length|_,_=>False
  |_,_=>False
 | .osl o t lo n,.osl o' a c m=>match Nat.beq o o',vK t a with|true,true=>lo=c/\n=m|_,_=>False
 | .bp o k,.bp o' k'=>match Nat.beq o o',Nat.beq k k' with|true,true=>True|_,_=>False
 | .mp o,.mp o'=>match Nat.beq o o' with|true=>True|false=>False
 | .ip o,.ip o'=>match Nat.beq o o' with|true=>True|false=>False
 | .fe q o T st ps rs pre K,.fe p o' i g e f b h=>SV.fe q o T st ps rs pre K=SV.fe p o' i g e f b h
 |_,_=>False
def jud (σ:St):List SV->List SV->Prop
 |[],[]=>True
 |a::r,b::s=>gj σ a b/\jud σ r s
 |_,_=>False
def jlr:Bool->Bool->Bool
 |false,true=>false
 |_,_=>true
def jxT:Nl->Nl->Bool
 | .unk,_=>true
 | .yes,.yes=>true
 | .no,.no=>true
 |_,_=>false
def jh6 (σ:St) (o:Nat):Ob->Prop
 | .box T fz cs=>match σ.obj o with
  |some (.box i a f)=>match Nat.beq T i,jlr fz a with
   |true,true=>jud σ f cs
   |_,_=>False
  |_=>False
 | .row E t fz nl l=>match σ.obj o with
  |some (.row h g a e l')=>match Nat.beq E h,jlr fz a with
   |true,true=>match jxT nl e with
    |true=>jDj (.slice g) (.slice t) l' l
    |false=>match nl,e with
     | .yes,.no=>l≠[]/\jDj (.slice g) (.slice t) l' l
     |_,_=>False
   |_,_=>False
  |none=>match fz,nl,jeK o σ.sl,qX o σ.ob&&Nat.ble (o+1) 1000000 with|false,.yes,true,true=>l=[]|false,.unk,true,true=>l=[]|_,_,_,_=>False
  |_=>False
 | .map fz kt vt l=>match σ.obj o with
  |some (.map a b d l')=>match jlr fz a with
   |true=>jDj (.map b d) (.map kt vt) l' l
   |false=>False
  |_=>False
 | .iter kt vt left none=>match σ.obj o with
  |some (.iter b d c _)=>jDj (.map b d) (.map kt vt) c left
  |_=>False
 |_=>False
def jcu {α:Type}:List (Nat×α)->(a:Nat)->List Nat
 |[],_=>[]
 | (k,_)::r,m=>match Nat.ble (r.length+1) m with
  |true=>[]
  |false=>qB [k] (jcu r m)
def jcR (σ τ:St):List Nat->Prop
 |[]=>True
 |s::r=>match τ.get s with
  | .any=>jcR σ τ r
  |v=>gj σ (σ.get s) v/\jcR σ τ r
def jmd (σ τ:St):List Nat->Prop
 |[]=>True
 |o::r=>match τ.obj o with
  |none=>jmd σ τ r
  |some x=>jh6 σ o x/\jmd σ τ r
def sub (σ τ:St) (ks os:List Nat):Prop:=jcR σ τ ks/\jmd σ τ os
abbrev Ann:=Nat->Option (St->je3)
def jy8:List Oper->Option (Nat×Operand×List Oper)
 |[]=>none
 |o::r=>match o.op,o.dst,o.guard with
  | .next it false,some d,none=>some (d,it,r)
  |_,_,_=>none
def jce (C:Ctx) (ops r:List Oper) (n:Nat) (σ:St) (K:Ex->St->Prop):Prop:=
 match vP C ops r ⟨σ,[]⟩ with
 |none=>False
 |some (ss,rs)=>zQ false ss (K .normal (wv ops (gc n rs.st)))
def jy7 (C:Ctx) (ops r:List Oper) (d:Nat) (it:Operand) (σ:St) (K:Ex->St->Prop):Prop:=
 match jeE C (some d),jQ σ it with
 |true,.ip o=>match σ.obj o with
  |some (.iter kt vt left _)=>
   (left=[]->jce C ops r σ.ob.length ⟨(d,.tup [.dat .bool false])::σ.sl,σ.ob⟩ K)/\
   ∀(pre:List (kt.Data×vt.Data)) (x:kt.Data×vt.Data) (a:List (kt.Data×vt.Data)),left=pre++x::a->
    jce C ops r σ.ob.length ⟨(d,.tup [.dat .bool true,.dat kt x.1,.dat vt x.2])::σ.sl,(o,some (.iter kt vt (pre++a) (some x)))::σ.ob⟩ K
  |_=>False
 |_,_=>False
def jqk:List Oper->Option (List Oper×Nat×Nat×Nat)
 |[]=>none
 |[o]=>match o.op,o.dst,o.guard with
  | .binOp .eql U (.tmp t) (.const v) _,some d,none=>match zv v with|true=>some ([],U,t,d)|false=>none
  |_,_,_=>none
 |o::r=>match jqk r with
  |some (i,U,t,d)=>some (o::i,U,t,d)
  |none=>none
structure jt6 where
 o:Nat
 kt:Ty
 vt:Ty
 l:List (kt.Data×vt.Data)
 k:kt.Data
 d:Nat
def jtE (C:Ctx) (ops:List Oper) (o:Oper) (rs:RS):Option jt6:=
 match o.op,o.guard,o.dst with
 | .mapEntry U m a,none,some d=>match C.mapT U,jQ rs.st m with
  |some (_,tk,te),.mp ob=>match rs.st.obj ob with
   |some (.map false kt vt l)=>match zz (.map kt vt) (.map tk.ty te.ty) l,qn rs.st tk.ty (jQ rs.st a),jeE C (some d),jyZ ops o rs with
    |some l',some (k,[]),true,true=>some ⟨ob,tk.ty,te.ty,l',k,d⟩
    |_,_,_,_=>none
   |_=>none
  |_,_=>none
 |_,_,_=>none
def jdb (x:jt6) (s:Int):Eff:=⟨none,[],[],[(x.d,.tup [.dat x.vt (wh x.vt.dflt (zU x.kt x.k x.l)),.dat .int s])],[],[(x.o,some (.mape x.kt x.vt x.l x.k s))],[]⟩
def jqs:Op->Bool
 | .mapEntry _ _ _=>true
 |_=>false
def juU:List Oper->Bool
 |[]=>false
 |o::r=>match jqs o.op with|true=>true|false=>juU r
def jxV (C:Ctx) (ops:List Oper) (o:Oper) (rs:RS) (k:RS->Prop):Prop:=
 match jqs o.op with
 |true=>match jtE C ops o rs with
  |some x=>∀s:Int,k (zr (jdb x s) rs)
  |none=>False
 |false=>match jav C ops o rs with
  |none=>False
  |some e=>match fits C ops o rs e with
   |false=>False
   |true=>zQ true [e] (k (zr e rs))
def jmD (a:List Nat) (b:List Edge):Bool:=match b with
 |[]=>true
 |e::r=>match Region.binds .any e with
  |false=>jmD a r
  |true=>match yx a e.on with|true=>jmD a r|false=>false
def jbf (C:Ctx) (ops:List Oper) (a:List Nat) (rs:RS) (rec:List Nat->RS->Prop):List Oper->Nat->Prop
 |[],_=>True
 |o::r,i=>match yx a i with
  |true=>jbf C ops a rs rec r (i+1)
  |false=>match jmD a o.after.toList with
   |false=>jbf C ops a rs rec r (i+1)
   |true=>jxV C ops o rs (rec (i::a))/\jbf C ops a rs rec r (i+1)
def jnQ (C:Ctx) (ops:List Oper) (K:RS->Prop):Nat->List Nat->RS->Prop
 |0,_,rs=>K rs
 |fuel+1,a,rs=>jbf C ops a rs (jnQ C ops K fuel) ops 0
def jeB:Op->Bool
 | .insert _ _ _ _=>true
 |_=>false
def jmE:Op->Bool
 | .makeMap _ none=>true
 |_=>false
def jkk:List Oper->Option (List Oper×Nat)
 |[]=>none
 |o::r=>match jkk r with
  |some (b,m)=>some (o::b,m)
  |none=>match jeB o.op with
   |true=>some ([o],r.length)
   |false=>none
def jiO:List Oper->Option (Nat×Nat×List Oper×Nat)
 |[]=>none
 |o::r=>match o.op,o.dst,o.guard,jkk r with
  | .makeMap U none,some d,none,some (b,m)=>some (d,U,o::b,m)
  |_,_,_,_=>none
def juV (p:List Nat):Nat->Bool
 |0=>true
 |n+1=>match yx p n with|true=>juV p n|false=>false
def jjm:List (List Nat)->Nat->Nat->Bool
 |[],_,_=>true
 |p::ps,k,m=>match Nat.ble m k with
  |true=>match juV p m with|true=>jjm ps (k+1) m|false=>false
  |false=>jjm ps (k+1) m
def Ctx.inLit (C:Ctx):Ctx:={C with lit:=true}
def jwl (d:Nat):Operand->Bool
 | .tmp t=>match Nat.beq t d with|true=>false|false=>true
 |_=>true
def joD (d U:Nat) (kt vt:Ty) (o:Oper) (σ:St):Option (Option (kt.Data×vt.Data)):=match o.op with
 | .insert b m a x=>match jod m,o.dst,o.guard,Nat.beq U b,qn σ kt (jQ σ a),qn σ vt (jQ σ x),jwl d a,jwl d x with
  |some c,none,none,true,some (k,[]),some (v,[]),true,true=>match Nat.beq d c with
   |true=>some (some (k,v))
   |false=>none
  |_,_,_,_,_,_,_,_=>none
 |_=>some none
def jkU (ops:List Oper) (d U:Nat) (kt vt:Ty):List Oper->List ko->RS->Option (List (Option (kt.Data×vt.Data)))
 |[],[],_=>some []
 |o::r,x::aZ,rs=>match joD d U kt vt o (zS (zh ops o) rs).2.st,jkU ops d U kt vt r aZ (zr x.e rs) with
  |some y,some l=>some (y::l)
  |_,_=>none
 |_,_,_=>none
def jfv {α:Type}:List (Option α)->List α
 |[]=>[]
 |some x::r=>x::jfv r
 |none::r=>jfv r
def aside (d:Nat):List Oper->List ko->Bool
 |[],[]=>true
 |o::r,x::aZ=>match jeB o.op with
  |true=>aside d r aZ
  |false=>match jmE o.op,yx x.slots d,yx (km x.e.sl) d with
   |false,false,false=>aside d r aZ
   |_,_,_=>false
 |_,_=>false
def jDB:Nat->List Nat
 |0=>[]
 |n+1=>n::jDB n
def jBP (d:Nat) (kt vt:Ty) (l:List (kt.Data×vt.Data)) (rs:RS):RS:=⟨⟨(d,.mp d)::rs.st.sl,(d,some (.map false kt vt l))::rs.st.ob⟩,rs.gl⟩
def jEf (C:Ctx) (ops:List Oper) (σ:St) (K:Ex->St->Prop):Prop:=
 match jiO ops,kO ops [] with
 |some (d,U,body,m),some ps=>match C.mapT U,jjm ps 0 body.length,jjD C.inLit ops body ⟨σ,[]⟩ with
  |some (_,tk,te),true,some (aZ,rs)=>match gu σ (yG aZ) aZ aZ ps 0,jkU ops d U tk.ty te.ty body aZ ⟨σ,[]⟩,aside d body.tail aZ.tail,js8 rs d with
   |true,some es,true,true=>zQ true (aZ.map (·.e)) (((jfv es).map (·.1)).Nodup/\∀l,l.Perm (jfv es)->
    jnQ C ops (fun rs=>K .normal (wv ops (gc σ.ob.length rs.st))) m (jDB body.length) (jBP d tk.ty te.ty l rs))
   |_,_,_,_=>False
  |_,_,_=>False
 |_,_=>False
def jD1 (C:Ctx) (ops:List Oper) (a:Bool) (σ:St) (K:Ex->St->Prop):Prop:=
 match a,juU ops,kO ops [] with
 |true,true,some _=>jnQ C ops (fun rs=>K .normal (wv ops (gc σ.ob.length rs.st))) ops.length [] ⟨σ,[]⟩
 |true,false,_=>jEf C ops σ K
 |_,_,_=>False
def jfE (C:Ctx) (ops:List Oper) (a:Bool) (σ:St) (K:Ex->St->Prop):Prop:=
 match gU C ops a σ with
 |none=>jD1 C ops a σ K
 |some (ss,rs)=>zQ a ss (K .normal (wv ops (gc σ.ob.length rs.st)))
def jD9 (C:Ctx) (ops i:List Oper) (U t d:Nat) (σ:St) (K:Ex->St->Prop):Prop:=
 match vP C ops i ⟨σ,[]⟩ with
 |none=>False
 |some (ss,rs)=>match rs.st.get t with
  | .dat (.slice _) l=>match C.slice U,jeE C (some d) with
   |some _,true=>zQ false ss (∀a:Bool,(a=true->l=[])->K .normal (wv ops (gc σ.ob.length ⟨(d,.dat .bool a)::rs.st.sl,rs.st.ob⟩)))
   |_,_=>False
  |_=>jfE C ops false σ K
def jhv:List Oper->Option (List Oper×Oper×List Oper)
 |[]=>none
 |o::r=>match o.op,o.guard with
  | .call c,none=>match c.callee with
   | .builtin .append=>some ([],o,r)
   |_=>match jhv r with|some (i,x,q)=>some (o::i,x,q)|none=>none
  |_,_=>match jhv r with|some (i,x,q)=>some (o::i,x,q)|none=>none
def jxP (C:Ctx) (ops i:List Oper) (o:Oper) (a:List Oper) (σ:St) (K:Ex->St->Prop):Prop:=
 match vP C ops i ⟨σ,[]⟩ with
 |none=>False
 |some (ss,rs)=>match rs.gl,o.op,o.dst with
  |[],.call c,some d=>match c.args.toList,c.argTypes.toList with
   |[b,x],[U,e]=>match Nat.beq U e,C.slice U,Nat.blt d C.n with
    |true,some (ti,te),true=>match jQ rs.st b,yF rs.st te.ty (jQ rs.st x) with
     | .osl q t lo n,some (y::ys)=>match rs.st.obj q with
      |some (.row E f false nl l)=>match zz (.slice f) (.slice te.ty) l,vK t te.ty,Nat.beq E ti.elem,qX q rs.st.ob&&Nat.ble (q+1) 1000000 with
       |some l',true,true,true=>zQ false ss (lo+n=l'.length/\0<n/\lo+n+(y::ys).length<4611686018427387904/\(n+(y::ys).length)*te.bytes<=140737488355328/\∀pre:List te.ty.Data,pre.length<=lo->
        jce C ops a σ.ob.length ⟨(d,.osl q te.ty pre.length (n+(y::ys).length))::(jdp rs.st (SV.refs q) rs.st.sl++rs.st.sl),(q,some (.row E te.ty false nl (pre++l'.drop lo++(y::ys))))::rs.st.ob⟩ K)
       |_,_,_,_=>False
      |_=>False
     |_,_=>False
    |_,_,_=>False
   |_,_=>False
  |_,_,_=>False
def jGQ:List ((Nat×Bool)×Bool)->Nat×Bool->Option Bool
 |[],_=>none
 | (g,v)::r,h=>match jyl g h with|true=>some v|false=>jGQ r h
def jGv (ops:List Oper):List ((Nat×Bool)×Bool)->Operand->Option Bool
 | ((j,want),v)::r,.tmp t=>match gD ops j with
  |some d=>match Nat.beq d t with|true=>some (match v with|true=>want|false=> !want)|false=>jGv ops r (.tmp t)
  |none=>jGv ops r (.tmp t)
 |_,_=>none
def jDc:Op->Option (Operand×Operand×Operand)
 | .pick c a b=>some (c,a,b)
 |_=>none
def jr0 (C:Ctx) (ops:List Oper) (o:Oper) (rs:RS) (k:RS->Prop):Prop:=
 match jav C ops o rs with
 |none=>False
 |some e=>match fits C ops o rs e with
  |true=>zQ false [e] (k (zr e rs))
  |false=>False
def jAX (C:Ctx) (ops:List Oper) (o:Oper) (v:SV) (rs:RS) (k:RS->Prop):Prop:=
 match jeE C o.dst,jyZ ops {o with guard:=none} rs,rs.gl with
 |true,true,[]=>k (zr ⟨none,[],[],jpH o v,[],[],[]⟩ rs)
 |_,_,_=>False
def jrt (C:Ctx) (ops:List Oper):List Oper->List ((Nat×Bool)×Bool)->RS->(RS->Prop)->Prop
 |[],_,rs,k=>k rs
 |o::r,dec,rs,k=>match o.guard with
  |none=>match jDc o.op with
   |some (c,a,b)=>match jQ rs.st c with
    | .dat .bool e=>match jGv ops dec c with
     |some true=>e=true/\jAX C ops o (jQ rs.st a) rs (fun d=>jrt C ops r dec d k)
     |some false=>e=false/\jAX C ops o (jQ rs.st b) rs (fun d=>jrt C ops r dec d k)
     |none=>(e=true->jAX C ops o (jQ rs.st a) rs (fun d=>jrt C ops r dec d k))/\(e=false->jAX C ops o (jQ rs.st b) rs (fun d=>jrt C ops r dec d k))
    |_=>False
   |none=>jr0 C ops o rs (fun d=>jrt C ops r dec d k)
  |some g=>match jdJ ops rs ops.length g,jGQ dec g with
   |some γ,some true=>γ=true/\jr0 C ops {o with guard:=none} rs (fun d=>jrt C ops r dec d k)
   |some γ,some false=>γ=false/\jAX C ops o .any rs (fun d=>jrt C ops r dec d k)
   |some γ,none=>(γ=true->jr0 C ops {o with guard:=none} rs (fun d=>jrt C ops r ((g,true)::dec) d k))/\
    (γ=false->jAX C ops o .any rs (fun d=>jrt C ops r ((g,false)::dec) d k))
   |none,_=>False
def jr3 (C:Ctx) (ops:List Oper) (σ:St) (K:Ex->St->Prop):Prop:=
 jrt C ops ops [] ⟨σ,[]⟩ (fun rs=>K .normal (wv ops (gc σ.ob.length rs.st)))
def jDf:List Oper->Option (Nat×Bool)
 |[]=>none
 |o::r=>match o.guard with|some g=>some g|none=>jDf r
def jsv (g:Nat×Bool) (d a:Nat) (γ:Bool) (o:Oper):Oper:=match o.guard with
 |some _=>match γ with
  |true=>{o with guard:=none}
  |false=>{o with guard:=none,op:= .move (.tmp a)}
 |none=>match o.op with
  | .pick (.tmp c) x y=>match Nat.beq c d with
   |true=>{o with op:= .move (match γ,g.2 with|true,true=>x|true,false=>y|false,true=>y|false,false=>x)}
   |false=>o
  |_=>o
def gT (g:Nat×Bool) (d a:Nat) (γ:Bool):List Oper->List Oper
 |[]=>[]
 |o::r=>jsv g d a γ o::gT g d a γ r
def yH (g:Nat×Bool) (d:Nat):List Oper->List (List Nat)->Bool
 |[],_=>true
 |o::r,p::ps=>match o.guard with
  |some h=>match jyl g h,yx p g.1 with|true,true=>yH g d r ps|_,_=>false
  |none=>match o.op with
   | .pick (.tmp c) _ _=>match Nat.beq c d with
    |true=>match yx p g.1 with|true=>yH g d r ps|false=>false
    |false=>yH g d r ps
   |_=>yH g d r ps
 |_::_,[]=>false
def jBI (d:Nat):List ko->Bool
 |[]=>true
 |x::r=>match yx (km x.e.sl) d with|true=>false|false=>jBI d r
def jfH (d:Nat):List ko->Nat->Option SV
 |[],_=>none
 |x::r,0=>match jBI d r with|true=>jD x.e.sl d|false=>none
 |x::r,j+1=>match yx (km x.e.sl) d with|true=>none|false=>jfH d r j
def jnG (C:Ctx) (ops':List Oper) (ps:List (List Nat)) (σ:St):Option (List ko×RS):=
 match jjD C ops' ops' ⟨σ,[]⟩ with
 |some (aZ,rs)=>match gu σ (yG aZ) aZ aZ ps 0 with|true=>some (aZ,rs)|false=>none
 |none=>none
def jAx (C:Ctx) (ops:List Oper) (σ:St) (K:Ex->St->Prop):Prop:=
 match jDf ops,kO ops [] with
 |some g,some ps=>match gD ops g.1 with
  |some d=>match yH g d ops ps,jnG C (gT g d C.n true ops) ps σ,jnG C (gT g d C.n false ops) ps σ with
   |true,some (aZ,rs),some (a,b)=>match jfH d aZ g.1,jfH d a g.1 with
    |some (.dat .bool c),some (.dat .bool f)=>f=c/\(c=g.2->zQ true (aZ.map (·.e)) (K .normal (wv ops (gc σ.ob.length rs.st))))/\
     (c≠g.2->zQ true (a.map (·.e)) (K .normal (wv ops (gc σ.ob.length b.st))))
    |_,_=>False
   |_,_,_=>False
  |none=>False
 |_,_=>False
def juO (A:Ann) (a:Code) (run:St->(Ex->St->Prop)->Prop) (σ:St) (K:Ex->St->Prop):Prop:=
 match A (jdL a) with
 |none=>False
 |some L=>
  (∃x:(L σ).X,sub σ (zM (L σ) (z8 a) σ x) (km ((L σ).sl x)) (km ((L σ).ob x))/\(L σ).inv x)/\
  ∀x:(L σ).X,(L σ).inv x->run (zM (L σ) (z8 a) σ x) (fun e b=>match e with
   | .normal=>∃c:(L σ).X,sub b (zM (L σ) (z8 a) σ c) (qB (km ((L σ).sl c)) (qB (km ((L σ).sl x)) (jcu b.sl (zM (L σ) (z8 a) σ x).sl.length)))
    (qB (km ((L σ).ob c)) (qB (km ((L σ).ob x)) (jcu b.ob (zM (L σ) (z8 a) σ x).ob.length)))/\(L σ).inv c/\(L σ).mu c<(L σ).mu x
   |e=>K e b)
def vcg (C:Ctx) (A:Ann):Code->St->(Ex->St->Prop)->Prop
 | .skip,σ,K=>K .normal σ
 | .region id ops g,σ,K=>match jy8 ops.toList,g with
  |some (d,it,r),false=>jy7 C ops.toList r d it σ K
  |_,_=>match jqk ops.toList,g with
   |some (i,U,t,d),false=>jD9 C ops.toList i U t d σ K
   |_,false=>match A (id+2000000) with
    |none=>match A (id+3000000) with
     |none=>jfE C ops.toList false σ K
     |some _=>jr3 C ops.toList σ K
    |some _=>match jhv ops.toList with
     |some (i,o,j)=>jxP C ops.toList i o j σ K
     |none=>False
   |_,true=>match A (id+3000000) with
    |none=>jfE C ops.toList true σ K
    |some _=>jAx C ops.toList σ K
 | .seq a b,σ,K=>vcg C A a σ (fun e f=>match e with
  | .normal=>vcg C A b f K
  |e=>K e f)
 | .cond c a b,σ,K=>match jQ σ c with
  | .dat .bool k=>(k=true->vcg C A a σ K)/\(k=false->vcg C A b σ K)
  |_=>False
 | .block id a,σ,K=>vcg C A a σ (fun e f=>match e with
  | .exit h=>match Nat.beq id h with
   |true=>K .normal f
   |false=>K (.exit h) f
  |e=>K e f)
 | .loop a,σ,K=>match A (jdL a+1000000) with
  |none=>juO A a (vcg C A a) σ K
  |some _=>vcg C A a σ (fun e f=>match e with
   | .normal=>juO A a (vcg C A a) f K
   |e=>K e f)
 | .exit id,σ,K=>K (.exit id) σ
 | .ret,σ,K=>K .ret σ
 | .scope a,σ,K=>vcg C A a σ K
 | .label _,σ,K=>K .normal σ
 |_,_,_=>False
def kI:(ps:List Par)->PD ps->Nat->List (Nat×SV)
 |[],_,_=>[]
 | .val t::ps,d,i=>(i,.dat t d.1)::kI ps d.2 (i+1)
 | .ref t::ps,d,i=>(i,.ep t d.1)::kI ps d.2 (i+1)
 | .fn aZ rs::ps,d,i=>(i,.fn aZ rs d.1.pre d.1.F)::kI ps d.2 (i+1)
 | .rfn aZ rs::ps,d,i=>(i,.fnp aZ rs d.1.pre d.1.F)::kI ps d.2 (i+1)
def jgU (C:Ctx) (σ:St):ResultVar->SV
 | .tmp s=>σ.get s
 | .cell s T=>match C.info T,σ.get s with
  |some ti,.bp o 0=>match σ.obj o with
   |some (.box _ _ cs)=>match ti.agg,Nat.beq cs.length ti.size with
    |true,true=> .agg cs
    |false,true=>(match cs with|[v]=>v|_=> .any)
    |_,_=> .any
   |_=> .any
  |_,_=> .any
def jpN (C:Ctx) (σ:St):(rs:List Ty)->List ResultVar->Option (Ty.st rs).Data
 |[],[]=>some ()
 |t::ts,v::r=>match qn σ t (jgU C σ v) with
  |some (x,_)=>match jpN C σ ts r with
   |some y=>some (x,y)
   |none=>none
  |none=>none
 |_,_=>none
def finish (C:Ctx) (fn:Func) (s:j7) (want:(Ty.st s.rs).Data):Ex->St->Prop
 | .exit _,_=>False
 |_,σ=>match jpN C σ s.rs fn.results.toList with
  |some r=>r=want
  |none=>False
@[irreducible] def jFL (C:Ctx) (A:Ann) (fn:Func) (body:Code) (s:j7):Prop:=
 ∀d:PD s.ps,jop (s.pre d) (vcg C A body ⟨kI s.ps d 0,[]⟩ (finish C fn s (s.F d)))
end Go.X
namespace Go.X
open Go.RowKit (Below)
theorem ji6 {w w':World} {p:Program} {at_:Addr} {u:TypeId} {k:Addr} {v:Value} {a:Bool} {l:List Addr} (h:w.viewStore p at_ u k v a= .ok (w',l)):w'.drawn=w.drawn:=by
 simp only[World.viewStore,bind,Except.bind,pure,Except.pure,throw,throwThe,MonadExceptOf.throw] at h
 repeat' (split at h)
 all_goals first|(cases h;done)|(cases h;rfl)|contradiction
theorem jlU {w w':World} {p:Program} {a:Addr} {v:Value} {b:Bool} {l:List Addr} (h:w.farStore p a v b= .ok (w',l)):w'.drawn=w.drawn:=by
 unfold World.farStore at h
 split at h
 .split at h
  .rename_i r c;cases h;exact ji6 c
  .cases h
 .cases h
theorem jlb {α:Type}:∀(s:Ask α) (w:World),w.drawn<=(w.ask s).2.drawn
 | .done a,w=>by simp[World.ask]
 | .ask c b k,w=>by
  simp only[World.ask]
  split
  .exact jlb (k 0) w
  .exact jHi (Nat.le_succ _) (jlb (k _) {w with drawn:=w.drawn+1})
theorem jxQ (w:World) (c:Sys):w.drawn<=(w.sys c).2.drawn:=by
 unfold World.sys
 split
 .exact jG5 _
 .rename_i r os w' _ h;have:=jlb (Kernel.perform c w.os) w;rw[h] at this;exact this
theorem zT {P:Program} {α:Type}:∀(s:Sem α) {w w':World} {a:α},s.run P w= .ok a w'->w.drawn<=w'.drawn
 | .pure a,w,w',x,h=>by simp only[Sem.run] at h;cases h;exact jG5 _
 | .load m a k,w,w',x,h=>by
  simp only[Sem.run] at h
  split at h
  .exact zT _ h
  .split at h
   .exact zT _ h
   .cases h
 | .store m a v k,w,w',x,h=>by
  cases v<;>simp only[Sem.run] at h<;>first
   | (cases h;done)
   | (split at h
      .split at h
       .cases h
       .have:=zT (w:=w.setCell a _) k h
        exact this
      .split at h
       .rename_i f _ b
        have d:=jlU b
        have:=zT k h
        omega
       .cases h)
 | .new o k,w,w',x,h=>by
  simp only[Sem.run] at h
  have:=zT (w:={w with heap:=w.heap.push o}) (k _) h
  exact this
 | .shape r k,w,w',x,h=>by simp only[Sem.run] at h;exact zT _ h
 | .freeze a n k,w,w',x,h=>by
  simp only[Sem.run] at h
  have:=zT k h
  have e:(w.freeze a n).drawn=w.drawn:=by unfold World.freeze;split<;>rfl
  omega
 | .frozen a k,w,w',x,h=>by simp only[Sem.run] at h;exact zT _ h
 | .getObj r k,w,w',x,h=>by
  simp only[Sem.run] at h
  split at h
  .cases h
  .exact zT _ h
  .cases h
 | .setObj r o k,w,w',x,h=>by
  simp only[Sem.run] at h
  split at h
  .cases h
  .have:=zT (w:={w with heap:=w.heap.setIfInBounds r o}) k h
   exact this
  .cases h
 | .choose q k,w,w',x,h=>by
  simp only[Sem.run] at h
  split at h
  .exact zT _ h
  .exact jHi (Nat.le_succ _) (zT _ h)
 | .sys c k,w,w',x,h=>by
  simp only[Sem.run] at h
  exact jHi (jxQ w c) (zT _ h)
 | .program k,w,w',x,h=>by simp only[Sem.run] at h;exact zT _ h
 | .mark m k,w,w',x,h=>by simp only[Sem.run] at h;exact zT _ h
 | .halt e,w,w',x,h=>by simp only[Sem.run] at h;cases h
inductive Fz where
 |cells (c:Array Value)
 |map (es:Array MapEntry) (clock:Nat)
def Fz.at:Fz->Option Obj->Prop
 | .cells c,o=>∃T a,o=some (.cells c T a)
 | .map es clock,o=>o=some (.map es clock)
abbrev Imm:=Nat->Option Fz
def kU:Value->Bool
 | .agg _=>true
 |_=>false
def Ty.rd (H:Imm):(t:Ty)->(Nat->Option Value)->t.Data->Prop
 | .int,f,x=>f 0=some (.int .i64 x)
 | .bool,f,x=>f 0=some (.bool x)
 | .uint k,f,x=>f 0=some (.int k x)
 | .slice t,f,l=>∃a n c,f 0=some (.slice a n c)/\n=l.length/\n<=c/\l.length<4611686018427387904/\(a=none->c=0)/\
  (l≠[]->∃b off blk,a=some ⟨b,off,none⟩/\H b=some (.cells blk)/\∀i x,l[i]? =some x->t.rd H (fun j=>blk[off+i*t.size+j]?) x)
 | .unit,_,_=>True
 | .pair a b,f,d=>a.rd H f d.1/\b.rd H (fun j=>f (a.size+j)) d.2
 | .map k v,f,l=>∃p,f 0=some (.map p)/\(p=none->l=[])/\∀b,p=some b->∃(es:Array MapEntry) (clock:Nat),H b=some (.map es clock)/\es.size=l.length/\es.size<=clock/\
  (∀(i:Nat) (e:MapEntry),es[i]? =some e->e.born<clock)/\(∀(i j:Nat) (e g:MapEntry),es[i]? =some e->es[j]? =some g->e.born=g.born->i=j)/\
  ∀(i:Nat) x,l[i]? =some x->∃e:MapEntry,es[i]? =some e/\(kU e.key=k.agg/\e.key.cells.size=k.size/\k.rd H (fun i=>e.key.cells[i]?) x.1)/\(kU e.val=v.agg/\e.val.cells.size=v.size/\v.rd H (fun i=>e.val.cells[i]?) x.2)
 | .ptr t,f,d=>∃p,f 0=some (.pointer p)/\(match d with
  |none=>p=none
  |some x=>∃b off blk,p=some ⟨b,off,none⟩/\H b=some (.cells blk)/\t.rd H (fun j=>blk[off+j]?) x)
def Ty.rv (H:Imm) (t:Ty) (v:Value) (d:t.Data):Prop:=
 kU v=t.agg/\v.cells.size=t.size/\t.rd H (fun i=>v.cells[i]?) d
theorem Ty.rd_mono {H H':Imm} (g:∀b c,H b=some c->H' b=some c):∀(t:Ty) (f:Nat->Option Value) (d:t.Data),t.rd H f d->t.rd H' f d
 | .int,_,_,h=>h
 | .bool,_,_,h=>h
 | .uint _,_,_,h=>h
 | .unit,_,_,_=>trivial
 | .pair a b,f,d,h=>⟨a.rd_mono g _ _ h.1,b.rd_mono g _ _ h.2⟩
 | .map k v,f,l,h=>by
  obtain⟨p,q,r,s⟩:=h
  refine⟨p,q,r,fun b L=> ?_⟩
  obtain⟨es,clock,j,m,o,w,y,z⟩:=s b L
  refine⟨es,clock,g _ _ j,m,o,w,y,fun i x u=> ?_⟩
  obtain⟨e,A,⟨B,C,D⟩,E,F,G⟩:=z i x u
  exact⟨e,A,⟨B,C,k.rd_mono g _ _ D⟩,E,F,v.rd_mono g _ _ G⟩
 | .ptr t,f,none,h=>h
 | .ptr t,f,some x,h=>by
  obtain⟨p,q,b,off,blk,j,m,o⟩:=h
  exact⟨p,q,b,off,blk,j,g _ _ m,t.rd_mono g _ _ o⟩
 | .slice t,f,l,h=>by
  obtain⟨a,n,c,q,r,s,I,K,J⟩:=h
  refine⟨a,n,c,q,r,s,I,K,fun M=> ?_⟩
  obtain⟨b,off,blk,j,m,o⟩:=J M
  exact⟨b,off,blk,j,g _ _ m,fun i x u=>t.rd_mono g _ _ (o i x u)⟩
theorem Ty.rd_congr {H:Imm}:∀(t:Ty) (f g:Nat->Option Value) (d:t.Data),(∀i,i<t.size->f i=g i)->t.rd H f d->t.rd H g d
 | .int,f,g,_,e,h=>by rw[Ty.rd,<-e 0 (by simp[Ty.size])];exact h
 | .bool,f,g,_,e,h=>by rw[Ty.rd,<-e 0 (by simp[Ty.size])];exact h
 | .uint _,f,g,_,e,h=>by rw[Ty.rd,<-e 0 (by simp[Ty.size])];exact h
 | .unit,_,_,_,_,_=>trivial
 | .pair a b,f,g,d,e,h=>⟨a.rd_congr f g _ (fun i hi=>e i (by simp[Ty.size];omega)) h.1,
  b.rd_congr _ _ _ (fun i hi=>e _ (by simp[Ty.size];omega)) h.2⟩
 | .slice t,f,g,l,e,h=>by
  obtain⟨a,n,c,j,r⟩:=h
  exact⟨a,n,c,by rw[<-e 0 (by simp[Ty.size])];exact j,r⟩
 | .map k v,f,g,l,e,h=>by
  obtain⟨p,j,r⟩:=h
  exact⟨p,by rw[<-e 0 (by simp[Ty.size])];exact j,r⟩
 | .ptr t,f,g,l,e,h=>by
  obtain⟨p,j,r⟩:=h
  exact⟨p,by rw[<-e 0 (by simp[Ty.size])];exact j,r⟩
theorem Ty.rv_mono {H H':Imm} (a:∀b c,H b=some c->H' b=some c) {t:Ty} {v:Value} {d:t.Data} (h:t.rv H v d):t.rv H' v d:=
 ⟨h.1,h.2.1,t.rd_mono a _ _ h.2.2⟩
theorem y8 {H:Imm} {a b:Ty} (e:a=b) (f:Nat->Option Value) (d:a.Data):b.rd H f (qw e d)↔a.rd H f d:=by subst e;rfl
theorem jCw {H:Imm} {a b:Ty} (e:a=b) (v:Value) (d:a.Data):b.rv H v (qw e d)↔a.rv H v d:=by subst e;rfl
theorem jm {a b:Ty} {d:a.Data} {x:b.Data} (h:zz a b d=some x):∃e:a=b,x=qw e d:=by
 unfold zz at h
 split at h
 .rename_i e;exact⟨e,by simpa using h.symm⟩
 .cases h
def jE1 (H:Imm):Prop:=∀(g:Nat) (x:(t:Ty)×t.Data),jD jFI g=some x->∃c,H g=some (.cells c)/\x.1.rd H (fun j=>c[j]?) x.2
theorem jE1.mono {H H':Imm} (a:∀b c,H b=some c->H' b=some c) (h:jE1 H):jE1 H':=fun g x f=>by
 obtain⟨c,d,e⟩:=h g x f
 exact⟨c,a _ _ d,x.1.rd_mono a _ _ e⟩
def jbT (H:Imm) (w:World):Prop:=(∀b c,H b=some c->c.at w.heap[b]?)/\jE1 H
structure jDs (H:Imm) (w:World) (H':Imm) (w':World):Prop where
 below:Below w.heap.size w w'
 good:jbT H' w'
 old:∀b,b<w.heap.size->H' b=H b
 drawn:w.drawn<=w'.drawn
theorem Fz.at_some {c:Fz} {o:Option Obj} (h:c.at o):∃x,o=some x:=by
 cases c with
 |cells c=>obtain⟨T,a,e⟩:=h;exact⟨_,e⟩
 |map es clock=>exact⟨_,h⟩
theorem jbT.lt {H:Imm} {w:World} (h:jbT H w) {b:Nat} {c:Fz} (a:H b=some c):b<w.heap.size:=by
 obtain⟨x,e⟩:=Fz.at_some (h.1 b c a);exact(jHc.1 e).1
theorem jbT.cells {H:Imm} {w:World} (h:jbT H w) {b:Nat} {c:Array Value} (d:H b=some (.cells c)):∃T a,w.heap[b]? =some (.cells c T a):=h.1 b _ d
theorem jDs.mono {H H':Imm} {w w':World} (g:jbT H w) (h:jDs H w H' w'):∀b c,H b=some c->H' b=some c:=
 fun b c a=>by rw[h.old b (g.lt a)];exact a
theorem ya {a b:Ty} (h:vK a b=true):a=b:=by
 unfold vK at h
 split at h
 .assumption
 .cases h
def rvs (H:Imm):(ts:List Ty)->List Value->(Ty.st ts).Data->Prop
 |[],vs,_=>vs=[]
 |t::ts,v::vs,d=>t.rv H v d.1/\rvs H ts vs d.2
 |_::_,[],_=>False
def jE4 (H:Imm) (rs:List Ty) (v:Value) (d:(Ty.st rs).Data):Prop:=
 match rs,d with
 |[t],d=>t.rv H v d.1
 |rs,d=>∃vs,v= .tuple vs/\rvs H rs vs.toList d
def k8:List Prop->Prop
 |[]=>True
 |p::r=>p/\k8 r
def enters (P:Program) (k:Nat):Prop:=∀args w,(callFunc k args).run P w= .ok (.enter k args) w
def jDr (H:Imm) (w:World) (rs:List Ty) (r:(Ty.st rs).Data):Ending->World->Prop:=
 fun e w'=>∃v H',e= .returned v/\jDs H w H' w'/\jE4 H' rs v r
def FnV (P:Program) (H:Imm) (ps rs:List Ty) (pre:(Ty.st ps).Data->List Prop) (F:(Ty.st ps).Data->(Ty.st rs).Data) (v:Value):Prop:=
 ∃k caps,v= .func (.func k) #[] caps/\enters P k/\
  ∀H' w vals x,(∀b c,H b=some c->H' b=some c)->jbT H' w->rvs H' ps vals x->k8 (pre x)->Calls P k (vals.toArray++caps) w (jDr H' w rs (F x))
theorem FnV.mono {P:Program} {H H':Imm} (g:∀b c,H b=some c->H' b=some c) {ps rs pre F v} (h:FnV P H ps rs pre F v):FnV P H' ps rs pre F v:=by
 obtain⟨k,caps,e,d,r⟩:=h;exact⟨k,caps,e,d,fun a w vals x f=>r a w vals x (fun b c i=>f b c (g b c i))⟩
structure jE0 (bs:List Nat) (H:Imm) (w:World) (H':Imm) (w':World):Prop where
 os:w'.os=w.os
 tape:w'.tape=w.tape
 output:w'.output=w.output
 drawn:w.drawn<=w'.drawn
 size:w.heap.size<=w'.heap.size
 block:∀b,b<w.heap.size->b∉bs->w'.heap[b]? =w.heap[b]?
 old:∀b,b<w.heap.size->b∉bs->H' b=H b
 good:jbT H' w'
def jGD (H:Imm) (w:World) (b T:Nat) (st:Ty) (rs:List Ty) (r:(Ty.st rs).Data×st.Data):Ending->World->Prop:=
 fun e w'=>∃v H' u,e= .returned v/\jE0 [b] H w H' w'/\H' b=none/\w'.heap[b]? =some (.cells #[u] T (0,0))/\st.rv H' u r.2/\jE4 H' rs v r.1
def FnE (P:Program) (H:Imm) (b T:Nat) (st:Ty) (ps rs:List Ty) (pre:(Ty.st ps).Data->List Prop) (K:(Ty.st ps).Data->st.Data->(Ty.st rs).Data×st.Data) (v:Value):Prop:=
 ∃k caps,v= .func (.func k) #[] caps/\enters P k/\
  ∀H' w vals x s u,(∀b c,H b=some c->H' b=some c)->jbT H' w->H' b=none->w.heap[b]? =some (.cells #[u] T (0,0))->st.rv H' u s->rvs H' ps vals x->k8 (pre x)->Calls P k (vals.toArray++caps) w (jGD H' w b T st rs (K x s))
theorem FnE.mono {P:Program} {H H':Imm} (g:∀b c,H b=some c->H' b=some c) {b T st ps rs pre K v} (h:FnE P H b T st ps rs pre K v):FnE P H' b T st ps rs pre K v:=by
 obtain⟨k,caps,e,d,r⟩:=h;exact⟨k,caps,e,d,fun a w vals x s u f=>r a w vals x s u (fun b c i=>f b c (g b c i))⟩
structure Env where
 H:Imm
 blk:Nat->Option (Option (Nat×Nat))
 len:Nat->Nat
mutual
def SV.den (P:Program) (ρ:Env):SV->Value->Prop
 | .any,_=>True
 | .dat t d,v=>t.rv ρ.H v d
 | .ep t d,v=>∃b off c,v= .pointer (some ⟨b,off,none⟩)/\ρ.H b=some (.cells c)/\t.rd ρ.H (fun j=>c[off+j]?) d
 | .bp o off,v=>∀p,ρ.blk o=some p->∃b C,p=some (b,C)/\v= .pointer (some ⟨b,off,none⟩)
 | .own o _,v=>∀p,ρ.blk o=some p->match p with
  |none=>v= .slice none 0 0/\ρ.len o=0
  |some (b,C)=>v= .slice (some ⟨b,0,none⟩) (ρ.len o) C/\ρ.len o<=C
 | .osl o t lo n,v=>∀p,ρ.blk o=some p->match p with
  |none=>v= .slice none 0 0/\n=0
  |some (b,C)=>∃a e,v= .slice (some a) n e/\n<=e/\lo+e=C/\lo+n<=ρ.len o/\((lo=0\/0<e)->a=⟨b,lo*t.size,none⟩)
 | .rp o t i off,v=>∀p,ρ.blk o=some p->i<ρ.len o/\∃b C,p=some (b,C)/\v= .pointer (some ⟨b,i*t.size+off,none⟩)
 | .mp o,v=>∀p,ρ.blk o=some p->∃b C,p=some (b,C)/\v= .map (some b)
 | .ip o,v=>∀p,ρ.blk o=some p->∃b C,p=some (b,C)/\v= .pointer (some ⟨b,0,none⟩)
 | .fn ps rs pre F,v=>FnV P ρ.H ps rs pre F v
 | .fnp ps rs pre F,v=>∃b u,v= .pointer (some ⟨b,0,none⟩)/\ρ.H b=some (.cells #[u])/\FnV P ρ.H ps rs pre F u
 | .fe ptr o T st ps rs pre K,v=>∀p,ρ.blk o=some p->∃b C,p=some (b,C)/\∃u,FnE P ρ.H b T st ps rs pre K u/\(match ptr with
  |false=>v=u
  |true=>∃g,v= .pointer (some ⟨g,0,none⟩)/\ρ.H g=some (.cells #[u]))
 | .fcl t d,v=>(Ty.slice t).rv ρ.H v d/\∃a n,v= .slice a n n
 | .clo f caps,v=>∃vs:Array Value,v= .func (.func f) #[] vs/\SV.denL P ρ caps vs.toList
 | .agg cs,v=>∃vs:Array Value,v= .agg vs/\SV.denL P ρ cs vs.toList/\∀u∈vs.toList,u.oneCell'=true
 | .tup cs,v=>∃vs:Array Value,v= .tuple vs/\SV.denL P ρ cs vs.toList
 | .lit u,v=>v=u
def SV.denL (P:Program) (ρ:Env):List SV->List Value->Prop
 |[],vs=>vs=[]
 |c::cs,vs=>∃v r,vs=v::r/\SV.den P ρ c v/\SV.denL P ρ cs r
end
structure Env.le (ρ ρ':Env) (new:List Nat):Prop where
 H:∀b c,ρ.H b=some c->ρ'.H b=some c
 blk:∀o p,o∉new->ρ'.blk o=some p->ρ.blk o=some p
 len:∀o,o∉new->ρ'.len o=ρ.len o
theorem Env.le.refl (ρ:Env) (new:List Nat):ρ.le ρ new:=⟨fun _ _ h=>h,fun _ _ _ h=>h,fun _ _=>rfl⟩
theorem Env.le.trans {ρ d ρ'':Env} {n:List Nat} (h:ρ.le d n) (k:d.le ρ'' n):ρ.le ρ'' n:=
 ⟨fun b c e=>k.H b c (h.H b c e),fun o p a f=>h.blk o p a (k.blk o p a f),fun o a=>(k.len o a).trans (h.len o a)⟩
theorem Env.le.weaken {ρ a:Env} {n m:List Nat} (h:ρ.le a n) (d:∀o,o∈n->o∈m):ρ.le a m:=
 ⟨h.H,fun o p c=>h.blk o p (fun b=>c (d o b)),fun o c=>h.len o (fun b=>c (d o b))⟩
theorem zb {o o':Nat} (h:Nat.beq o o'=false):o≠o':=by
 intro e;subst e;simp at h
mutual
theorem SV.den_mono {P:Program} {ρ m:Env} {new:List Nat} (h:ρ.le m new):∀(sv:SV) (v:Value),(∀o,o∈new->sv.refs o=false)->sv.den P ρ v->sv.den P m v
 | .any,_,_,_=>by simp[SV.den]
 | .dat t d,v,_,k=>by simp only[SV.den] at k⊢;exact Ty.rv_mono h.H k
 | .ep t d,v,_,k=>by
  simp only[SV.den] at k⊢
  obtain⟨b,off,c,q,s,x⟩:=k
  exact⟨b,off,c,q,h.H _ _ s,t.rd_mono h.H _ _ x⟩
 | .bp o off,v,g,k=>by
  simp only[SV.den] at k⊢
  have a:o∉new:=fun j=>by have:=g o j;simp[SV.refs] at this
  exact fun p l=>k p (h.blk o p a l)
 | .own o t,v,g,k=>by
  simp only[SV.den] at k⊢
  have a:o∉new:=fun j=>by have:=g o j;simp[SV.refs] at this
  rw[h.len o a]
  exact fun p l=>k p (h.blk o p a l)
 | .osl o t lo n,v,g,k=>by
  simp only[SV.den] at k⊢
  have a:o∉new:=fun j=>by have:=g o j;simp[SV.refs] at this
  rw[h.len o a]
  exact fun p l=>k p (h.blk o p a l)
 | .rp o t i off,v,g,k=>by
  simp only[SV.den] at k⊢
  have a:o∉new:=fun j=>by have:=g o j;simp[SV.refs] at this
  rw[h.len o a]
  exact fun p l=>k p (h.blk o p a l)
 | .mp o,v,g,k=>by
  simp only[SV.den] at k⊢
  have a:o∉new:=fun j=>by have:=g o j;simp[SV.refs] at this
  exact fun p l=>k p (h.blk o p a l)
 | .ip o,v,g,k=>by
  simp only[SV.den] at k⊢
  have a:o∉new:=fun j=>by have:=g o j;simp[SV.refs] at this
  exact fun p l=>k p (h.blk o p a l)
 | .fn ps rs pre F,v,_,k=>by simp only[SV.den] at k⊢;exact FnV.mono h.H k
 | .fnp ps rs pre F,v,_,k=>by
  simp only[SV.den] at k⊢
  obtain⟨b,u,q,s,x⟩:=k
  exact⟨b,u,q,h.H _ _ s,FnV.mono h.H x⟩
 | .fe ptr o T st ps rs pre K,v,g,k=>by
  simp only[SV.den] at k⊢
  have a:o∉new:=fun j=>by have:=g o j;simp[SV.refs] at this
  intro p l
  obtain⟨b,C,e,u,y,w⟩:=k p (h.blk o p a l)
  refine⟨b,C,e,u,FnE.mono h.H y,?_⟩
  cases ptr with
  |false=>exact w
  |true=>
   obtain⟨z,q,s⟩:=w
   exact⟨z,q,h.H _ _ s⟩
 | .fcl t d,v,_,k=>by simp only[SV.den] at k⊢;exact⟨Ty.rv_mono h.H k.1,k.2⟩
 | .clo f caps,v,g,k=>by
  simp only[SV.den] at k⊢
  obtain⟨vs,e,r⟩:=k
  exact⟨vs,e,SV.denL_mono h caps _ (fun o a=>by have:=g o a;simpa[SV.refs] using this) r⟩
 | .agg cs,v,g,k=>by
  simp only[SV.den] at k⊢
  obtain⟨vs,e,r,E⟩:=k
  exact⟨vs,e,SV.denL_mono h cs _ (fun o a=>by have:=g o a;simpa[SV.refs] using this) r,E⟩
 | .tup cs,v,g,k=>by
  simp only[SV.den] at k⊢
  obtain⟨vs,e,r⟩:=k
  exact⟨vs,e,SV.denL_mono h cs _ (fun o a=>by have:=g o a;simpa[SV.refs] using this) r⟩
 | .lit u,v,_,k=>by simpa[SV.den] using k
theorem SV.denL_mono {P:Program} {ρ m:Env} {new:List Nat} (h:ρ.le m new):∀(cs:List SV) (vs:List Value),(∀o,o∈new->SV.refs.refsL o cs=false)->SV.denL P ρ cs vs->SV.denL P m cs vs
 |[],vs,_,k=>by simpa[SV.denL] using k
 |c::cs,vs,g,k=>by
  simp only[SV.denL] at k⊢
  obtain⟨v,r,e,B,D⟩:=k
  have y:∀o,o∈new->c.refs o=false:=fun o a=>by
   have:=g o a;simp only[SV.refs.refsL] at this;cases A:c.refs o<;>simp_all
  have w:∀o,o∈new->SV.refs.refsL o cs=false:=fun o a=>by
   have:=g o a;simp only[SV.refs.refsL] at this;cases A:c.refs o<;>simp_all
  exact⟨v,r,e,SV.den_mono h c v y B,SV.denL_mono h cs r w D⟩
end
theorem zO {P:Program} {ρ:Env}:∀(cs:List SV) (vs:List Value),SV.denL P ρ cs vs->cs.length=vs.length
 |[],vs,h=>by simp[SV.denL] at h;simp[h]
 |c::cs,vs,h=>by
  simp only[SV.denL] at h
  obtain⟨v,r,rfl,_,k⟩:=h
  simp[zO cs r k]
theorem wM {P:Program} {ρ:Env}:∀(a b:List SV) (vs us:List Value),SV.denL P ρ a vs->SV.denL P ρ b us->SV.denL P ρ (a++b) (vs++us)
 |[],b,vs,us,h,k=>by simp[SV.denL] at h;simpa[h] using k
 |c::cs,b,vs,us,h,k=>by
  simp only[SV.denL] at h
  obtain⟨v,r,rfl,d,e⟩:=h
  simp only[jHx,SV.denL]
  exact⟨v,r++us,rfl,d,wM cs b r us e k⟩
theorem ju6 {P:Program} {ρ:Env}:∀(cs:List SV) (vs:List Value),SV.denL P ρ cs vs->∀(i:Nat) c,cs[i]? =some c->∃v,vs[i]? =some v/\SV.den P ρ c v
 |[],vs,_,i,c,hi=>by simp at hi
 |c::cs,vs,h,i,x,hi=>by
  simp only[SV.denL] at h
  obtain⟨v,r,rfl,a,b⟩:=h
  cases i with
  |zero=>simp at hi;subst hi;exact⟨v,by simp,a⟩
  |succ i=>simpa using ju6 cs r b i x (by simpa using hi)
theorem jaw {P:Program} {ρ:Env}:∀(k:Nat) (cs:List SV) (vs:List Value),SV.denL P ρ cs vs->SV.denL P ρ (cs.drop k) (vs.drop k)
 |0,cs,vs,h=>by simpa using h
 |k+1,[],vs,h=>by simp[SV.denL] at h;simp[h,SV.denL]
 |k+1,c::cs,vs,h=>by
  simp only[SV.denL] at h
  obtain⟨v,r,rfl,b,a⟩:=h
  simpa using jaw k cs r a
theorem jgn {P:Program} {ρ:Env}:∀(k:Nat) (cs:List SV) (vs:List Value),SV.denL P ρ cs vs->SV.denL P ρ (cs.take k) (vs.take k)
 |0,cs,vs,h=>by simp[SV.denL]
 |k+1,[],vs,h=>by simp[SV.denL] at h;simp[h,SV.denL]
 |k+1,c::cs,vs,h=>by
  simp only[SV.denL] at h
  obtain⟨v,r,rfl,a,b⟩:=h
  simp only[List.take_succ_cons,SV.denL]
  exact⟨v,r.take k,rfl,a,jgn k cs r b⟩
structure zV where
 w:World
 H:Imm
 bor:List Nat
 blk0:Nat->Option (Option (Nat×Nat))--where the objects lie that were handed over
 len0:Nat->Nat
def fzH (fz:Bool) (vs:Array Value):Option Fz:=match fz with|true=>some (.cells vs)|false=>none
def fzM (fz:Bool) (es:Array MapEntry) (clock:Nat):Option Fz:=match fz with|true=>some (.map es clock)|false=>none
def jcQ (H:Imm) (kt vt:Ty) (es:Array MapEntry) (clock:Nat) (l:List (kt.Data×vt.Data)):Prop:=
 es.size=l.length/\es.size<=clock/\(∀(i:Nat) (e:MapEntry),es[i]? =some e->e.born<clock)/\(∀(i j:Nat) (e a:MapEntry),es[i]? =some e->es[j]? =some a->e.born=a.born->i=j)/\
  ∀(i:Nat) (x:kt.Data×vt.Data),l[i]? =some x->∃e:MapEntry,es[i]? =some e/\kt.rv H e.key x.1/\vt.rv H e.val x.2
theorem jcQ.mono {H H':Imm} (a:∀b c,H b=some c->H' b=some c) {kt vt:Ty} {es:Array MapEntry} {clock:Nat} {l:List (kt.Data×vt.Data)} (h:jcQ H kt vt es clock l):jcQ H' kt vt es clock l:=by
 obtain⟨j,k,m,n,o⟩:=h;refine⟨j,k,m,n,fun i x p=> ?_⟩;obtain⟨e,d,f,g⟩:=o i x p;exact⟨e,d,Ty.rv_mono a f,Ty.rv_mono a g⟩
def jF5 (H:Imm) (kt vt:Ty) (es:List MapEntry) (a:Array Nat) (left:List (kt.Data×vt.Data)):Prop:=
 ∃fs:List MapEntry,fs=es.filter (fun e=> !a.contains e.born)/\fs.length=left.length/\∀(i:Nat) (x:kt.Data×vt.Data),left[i]? =some x->∃e:MapEntry,fs[i]? =some e/\kt.rv H e.key x.1/\vt.rv H e.val x.2
def jGG (H:Imm) (kt vt:Ty) (es:List MapEntry) (clock:Nat) (b:Array Nat) (a:Nat):Option (kt.Data×vt.Data)->Prop
 |none=>True
 |some x=>a=clock/\∃e,e∈es/\b.back? =some e.born/\kt.rv H e.key x.1/\vt.rv H e.val x.2
def jdR (H:Imm) (kt vt:Ty) (left:List (kt.Data×vt.Data)) (cur:Option (kt.Data×vt.Data)):Obj->Prop
 | .mapIter none _ _ _=>left=[]/\cur=none
 | .mapIter (some m) c b a=>∃(es:Array MapEntry) (clock:Nat),H m=some (.map es clock)/\c=clock/\(∀(i:Nat) (e:MapEntry),es[i]? =some e->e.born<clock)/\(∀(i j:Nat) (e d:MapEntry),es[i]? =some e->es[j]? =some d->e.born=d.born->i=j)/\
  (b= #[]\/a=clock)/\jF5 H kt vt es.toList b left/\jGG H kt vt es.toList clock b a cur
 |_=>False
theorem jdR.mono {H H':Imm} (a:∀b c,H b=some c->H' b=some c) {kt vt:Ty} {left:List (kt.Data×vt.Data)} {cur:Option (kt.Data×vt.Data)} {o:Obj} (h:jdR H kt vt left cur o):jdR H' kt vt left cur o:=by
 unfold jdR at h⊢
 split at h
 .exact h
 .obtain⟨es,clock,l,m,n,p,q,⟨fs,r,s,t⟩,u⟩:=h;refine⟨es,clock,a _ _ l,m,n,p,q,⟨fs,r,s,fun i x v=> ?_⟩,?_⟩
  .obtain⟨e,d,f,g⟩:=t i x v;exact⟨e,d,Ty.rv_mono a f,Ty.rv_mono a g⟩
  .cases cur with
   |none=>trivial
   |some x=>
    obtain⟨j,e,d,f,g,k⟩:=u;exact⟨j,e,d,f,Ty.rv_mono a g,Ty.rv_mono a k⟩
 .exact h
def zq (P:Program) (ρ:Env) (w:World) (o:Nat) (p:Option (Nat×Nat)):Ob->Prop
 | .box T fz cs=>∃b C vs,p=some (b,C)/\w.heap[b]? =some (.cells vs T (0,0))/\SV.denL P ρ cs vs.toList/\(∀v∈vs.toList,v.oneCell'=true)/\ρ.H b=fzH fz vs
 | .row E t fz nl l=>ρ.len o=l.length/\l.length<4611686018427387904/\match p with
  |none=>l=[]/\nl≠.no
  |some (b,C)=>(nl= .yes->l≠[])/\∃vs,w.heap[b]? =some (.cells vs E (0,0))/\vs.size=C*t.size/\l.length<=C/\C<=maxLen/\
   (∀i x,l[i]? =some x->t.rd ρ.H (fun j=>vs[i*t.size+j]?) x)/\ρ.H b=fzH fz vs
 | .map fz kt vt l=>∃b C es clock,p=some (b,C)/\w.heap[b]? =some (.map es clock)/\jcQ ρ.H kt vt es clock l/\ρ.H b=fzM fz es clock
 | .iter kt vt left cur=>∃b C x,p=some (b,C)/\w.heap[b]? =some x/\jdR ρ.H kt vt left cur x/\ρ.H b=none
 | .mape kt vt l k s=>∃b C es clock,p=some (b,C)/\w.heap[b]? =some (.map es clock)/\jcQ ρ.H kt vt es clock (jaj kt vt.dflt k l)/\ρ.H b=none/\
  ∃(j:Nat) (e:MapEntry),es[j]? =some e/\(e.born:Int)=s/\∀v,jex kt k v l=(jaj kt vt.dflt k l).set j (k,v)
structure Sat (P:Program) (B:zV) (ρ:Env) (obj:Nat->Option Ob) (w:World):Prop where
 os:w.os=B.w.os
 tape:w.tape=B.w.tape
 output:w.output=B.w.output
 drawn:B.w.drawn<=w.drawn
 size:B.w.heap.size<=w.heap.size
 good:jbT ρ.H w
 oldH:∀b,b<B.w.heap.size->b∉B.bor->ρ.H b=B.H b
 old:∀b,b<B.w.heap.size->b∉B.bor->w.heap[b]? =B.w.heap[b]?
 obs:∀o x,obj o=some x->∃p,ρ.blk o=some p/\zq P ρ w o p x
 dead:∀o,obj o=none->ρ.blk o=none
 inj:∀o o' b C C',ρ.blk o=some (some (b,C))->ρ.blk o'=some (some (b,C'))->o=o'
 own:∀o b C,ρ.blk o=some (some (b,C))->B.w.heap.size<=b\/b∈B.bor
def jgz (P:Program) (ρ:Env) (sl:List (Nat×SV)) (a:Act):Prop:=
 ∀s sv,jD sl s=some sv->SV.den P ρ sv (a.tmps.getD s undef)
def Pin (B:zV) (ρ:Env):Prop:=(∀o p,1000000<=o->ρ.blk o=some p->B.blk0 o=some p/\ρ.len o=B.len0 o)/\∀b c,B.H b=some c->ρ.H b=some c
theorem Pin.mono {B:zV} {ρ f:Env} {new:List Nat} (h:Pin B ρ) (a:ρ.le f new) (j:∀d,d∈new->d<1000000):Pin B f:=
 ⟨fun o p k g=>by
  have e:o∉new:=fun i=>by have:=j o i;omega
  have:=h.1 o p k (a.blk o _ e g)
  exact⟨this.1,(a.len o e).trans this.2⟩,fun b c g=>a.H b c (h.2 b c g)⟩
def Rel (P:Program) (B:zV) (n:Nat) (σ:St) (a:Act) (w:World):Prop:=
 a.defers=[]/\a.tmps.size=n/\∃ρ,Sat P B ρ σ.obj w/\jgz P ρ σ.sl a/\Pin B ρ
theorem jK {α:Type} (k:Nat) (x:α) (l:List (Nat×α)):jD ((k,x)::l) k=some x:=by simp[jD]
theorem jB {α:Type} {j k:Nat} (h:j≠k) (x:α) (l:List (Nat×α)):jD ((j,x)::l) k=jD l k:=by
 simp only[jD];cases a:Nat.beq j k
 .rfl
 .exact absurd (jG0 a) h
theorem jj {α:Type}:∀(a b:List (Nat×α)) (k:Nat),jD (a++b) k=(match jD a k with|some x=>some x|none=>jD b k)
 |[],b,k=>by simp[jD]
 | (j,x)::a,b,k=>by
  simp only[jHx,jD]
  cases Nat.beq j k<;>simp[jj a b k]
theorem zD {α:Type}:∀(l:List (Nat×α)) (k:Nat) (x:α),jD l k=some x->(k,x)∈l
 |[],_,_,h=>by simp[jD] at h
 | (j,y)::l,k,x,h=>by
  simp only[jD] at h
  cases a:Nat.beq j k
  .rw[a] at h;exact jHb _ (zD l k x h)
  .rw[a] at h;simp at h;subst h;have:=jG0 a;subst this;exact jHH
end Go.X
namespace Go.X
open Go.RowKit (Below)
theorem jU {P:Program} {ρ g:Env} {w w':World} {new:List Nat} (h:ρ.le g new) {o:Nat} (u:o∉new) {p:Option (Nat×Nat)} {x:Ob}
 (n:∀T fz cs,x= .box T fz cs->∀o',o'∈new->SV.refs.refsL o' cs=false)
 (j:∀b C,p=some (b,C)->g.H b=ρ.H b/\w'.heap[b]? =w.heap[b]?) (k:zq P ρ w o p x):zq P g w' o p x:=by
 cases x with
 |box T fz cs=>
  simp only[zq] at k⊢;obtain⟨b,C,vs,rfl,e,a,f,m⟩:=k;obtain⟨c,d⟩:=j b C rfl;exact⟨b,C,vs,rfl,by rw[d];exact e,SV.denL_mono h cs _ (n T fz cs rfl) a,f,by rw[c];exact m⟩
 |row E t fz nl l=>
  simp only[zq] at k⊢;obtain⟨e,y,a⟩:=k;refine⟨by rw[h.len o u];exact e,y,?_⟩;cases p with
  |none=>exact a
  |some q=>
   obtain⟨b,C⟩:=q;obtain⟨c,d⟩:=j b C rfl;simp only at a⊢;obtain⟨f,vs,m,z,A,B,D,r⟩:=a;exact⟨f,vs,by rw[d];exact m,z,A,B,fun i x v=>t.rd_mono h.H _ _ (D i x v),by rw[c];exact r⟩
 |map fz kt vt l=>
  simp only[zq] at k⊢;obtain⟨b,C,es,clock,rfl,e,a,f⟩:=k;obtain⟨c,d⟩:=j b C rfl;exact⟨b,C,es,clock,rfl,by rw[d];exact e,a.mono h.H,by rw[c];exact f⟩
 |iter kt vt left cur=>
  simp only[zq] at k⊢;obtain⟨b,C,x,rfl,e,a,f⟩:=k;obtain⟨c,d⟩:=j b C rfl;exact⟨b,C,x,rfl,by rw[d];exact e,a.mono h.H,by rw[c];exact f⟩
 |mape kt vt l key s=>
  simp only[zq] at k⊢;obtain⟨b,C,es,clock,rfl,e,a,f,m⟩:=k;obtain⟨c,d⟩:=j b C rfl;exact⟨b,C,es,clock,rfl,by rw[d];exact e,a.mono h.H,by rw[c];exact f,m⟩
def jxs (obj:Nat->Option Ob) (o:Nat):Nat->Option Ob:=fun o'=>if o'=o then(obj o).map kB else obj o'
theorem joq (x:Ob):kB (kB x)=kB x:=by cases x<;>rfl
theorem juo {P:Program} {B:zV} {ρ:Env} {obj:Nat->Option Ob} {w:World} (h:Sat P B ρ obj w) {o:Nat} {b C:Nat} {vs:Fz}
 (l:ρ.blk o=some (some (b,C))) (m:vs.at w.heap[b]?) (k:ρ.H b=none):
 let f:Env:={ρ with H:=fun a=>if a=b then some vs else ρ.H a}
 ρ.le f []/\jbT f.H w/\(∀a,a<B.w.heap.size->a∉B.bor->f.H a=B.H a):=by
 have j:∀a c,ρ.H a=some c->(fun a=>if a=b then some vs else ρ.H a) a=some c:=fun a c d=>by
  by_cases e:a=b
  .subst e;rw[k] at d;cases d
  .simp[e,d]
 refine⟨⟨j,fun _ _ _ h=>h,fun _ _=>rfl⟩,⟨fun a c d=> ?_,h.good.2.mono j⟩,fun a d g=> ?_⟩
 .by_cases e:a=b
  .subst e;simp at d;subst d;exact m
  .simp[e] at d;exact h.good.1 a c d
 .have:a≠b:=by
   rintro rfl;rcases h.own o a C l with i|i
   .omega
   .exact g i
  simp[this,h.oldH a d g]
theorem jEo {P:Program} {B:zV} {ρ:Env} {obj:Nat->Option Ob} {w:World} (h:Sat P B ρ obj w) (o:Nat):
 ∃a,Sat P B a (jxs obj o) w/\ρ.le a []/\a.blk=ρ.blk/\a.len=ρ.len:=by
 have same:jxs obj o=obj->∃a,Sat P B a (jxs obj o) w/\ρ.le a []/\a.blk=ρ.blk/\a.len=ρ.len:=fun e=>⟨ρ,by rw[e];exact h,Env.le.refl _ _,rfl,rfl⟩
 cases v:obj o with
 |none=>exact same (funext fun o'=>by unfold jxs;split<;>simp_all)
 |some x=>
  obtain⟨p,u,y⟩:=h.obs o x v;by_cases g:kB x=x
  .exact same (funext fun o'=>by unfold jxs;split<;>simp_all)
  .--the block
   have key:∀(b C:Nat) (vs:Fz),p=some (b,C)->vs.at w.heap[b]?->ρ.H b=none->
    zq P {ρ with H:=fun m=>if m=b then some vs else ρ.H m} w o p (kB x)->
    ∃a,Sat P B a (jxs obj o) w/\ρ.le a []/\a.blk=ρ.blk/\a.len=ρ.len:=by
    intro b C vs f j n A;subst f;obtain⟨z,r,F⟩:=juo h u j n;refine⟨{ρ with H:=fun m=>if m=b then some vs else ρ.H m},⟨h.os,h.tape,h.output,h.drawn,h.size,r,F,h.old,?_,?_,h.inj,h.own⟩,z,rfl,rfl⟩
    .intro o' O c;unfold jxs at c;by_cases e:o'=o
     .subst e;rw[if_pos rfl,v] at c;simp at c;subst c;exact⟨_,u,A⟩
     .rw[if_neg e] at c;obtain⟨p',G,L⟩:=h.obs o' O c;refine⟨p',G,jU z (by simp) (fun _ _ _ _ o'' D=>by simp at D) (fun m C' I=>⟨?_,rfl⟩) L⟩;subst I;have:m≠b:=fun S=>e (h.inj o' o m C' C G (S▸u))
      simp[this]
    .intro o' d;unfold jxs at d;by_cases e:o'=o
     .subst e;rw[if_pos rfl,v] at d;cases d
     .rw[if_neg e] at d;exact h.dead o' d
   cases x with
   |box T fz cs=>
    cases fz with
    |true=>exact absurd rfl g
    |false=>
     simp only[zq,fzH] at y;obtain⟨b,C,vs,f,j,K,V,n⟩:=y;refine key b C (.cells vs) f ⟨T,_,j⟩ n ?_;simp only[kB,zq,fzH];exact⟨b,C,vs,f,j,SV.denL_mono (juo (vs:= .cells vs) h (f▸u) ⟨T,_,j⟩ n).1 cs _ (fun o W=>by simp at W) K,V,by simp⟩
   |row E t fz nl l=>
    cases fz with
    |true=>exact absurd rfl g
    |false=>
     simp only[zq,fzH] at y;obtain⟨R,Q,M⟩:=y;cases p with
     |none=>
      refine⟨ρ,⟨h.os,h.tape,h.output,h.drawn,h.size,h.good,h.oldH,h.old,?_,?_,h.inj,h.own⟩,Env.le.refl _ _,rfl,rfl⟩
      .intro o' O c;unfold jxs at c;by_cases e:o'=o
       .subst e;rw[if_pos rfl,v] at c;simp at c;subst c;exact⟨none,u,R,Q,M⟩
       .rw[if_neg e] at c;exact h.obs o' O c
      .intro o' d;unfold jxs at d;by_cases e:o'=o
       .subst e;rw[if_pos rfl,v] at d;cases d
       .rw[if_neg e] at d;exact h.dead o' d
     |some q=>
      obtain⟨b,C⟩:=q;simp only at M;obtain⟨X,vs,N,Y,Z,k7,k9,J⟩:=M;refine key b C (.cells vs) rfl ⟨E,_,N⟩ J ?_;simp only[kB,zq,fzH];exact⟨R,Q,X,vs,N,Y,Z,k7,fun i x v=>t.rd_mono (juo (vs:= .cells vs) h u ⟨E,_,N⟩ J).1.H _ _ (k9 i x v),by simp⟩
   |map fz kt vt l=>
    cases fz with
    |true=>exact absurd rfl g
    |false=>
     simp only[zq,fzM] at y;obtain⟨b,C,es,clock,f,j,K,n⟩:=y;refine key b C (.map es clock) f j n ?_;simp only[kB,zq,fzM];exact⟨b,C,es,clock,f,j,K.mono (juo (vs:= .map es clock) h (f▸u) j n).1.H,by simp⟩
   |iter kt vt left cur=>exact absurd rfl g
   |mape kt vt l k s=>exact absurd rfl g
theorem wS (σ:St) (o:Nat) (x:Option Ob) (r:List (Nat×Option Ob)) (o':Nat):
 ({σ with ob:=(o,x)::r}:St).obj o'=if o'=o then x else({σ with ob:=r}:St).obj o':=by
 by_cases e:o'=o
 .subst e;simp[St.obj,jK]
 .simp[St.obj,jB (fun h=>e h.symm),e]
theorem kL (σ:St):∀(fz:List Nat) (o:Nat),(σ.frz fz).obj o=if o∈fz then(σ.obj o).map kB else σ.obj o
 |[],o=>by simp[St.frz,qG]
 |k::r,o=>by
  have a:=kL σ r o
  unfold St.frz at a⊢
  simp only[qG]
  cases hk:σ.obj k with
  |none=>
   simp only
   rw[a]
   by_cases e:o=k
   .subst e;by_cases b:o∈r<;>simp[b,hk]
   .simp[e]
  |some x=>
   simp only[jHx]
   rw[wS]
   by_cases e:o=k
   .subst e;simp[hk]
   .simp only[e,if_false];rw[a];simp[e]
theorem jX {P:Program} {B:zV} {σ:St} {w:World}:∀(fz:List Nat) {ρ:Env},Sat P B ρ σ.obj w->
 ∃a,Sat P B a (σ.frz fz).obj w/\ρ.le a []/\a.blk=ρ.blk/\a.len=ρ.len
 |[],ρ,h=>⟨ρ,by have:(σ.frz []).obj=σ.obj:=funext fun o=>by rw[kL];simp
                rw[this];exact h,Env.le.refl _ _,rfl,rfl⟩
 |k::r,ρ,h=>by
  obtain⟨ρ1,g,j,d,m⟩:=jX r h
  obtain⟨b,i,l,f,n⟩:=jEo g k
  refine⟨b,?_,j.trans l,f.trans d,n.trans m⟩
  have:(σ.frz (k::r)).obj=jxs (σ.frz r).obj k:=funext fun o=>by
   unfold jxs
   rw[kL,kL,kL]
   by_cases e:o=k
   .subst e
    by_cases c:o∈r
    .simp only[c,jG4,true_or,if_true]
     cases σ.obj o<;>simp[joq]
    .simp[c]
   .simp[e]
  rw[this];exact i
theorem vk {H:Imm} {t:Ty} (a:t.agg=false) {f g:Nat->Option Value} (e:f 0=g 0) {d:t.Data} (h:t.rd H f d):t.rd H g d:=
 t.rd_congr f g d (fun i hi=>by
  have:t.size=1:=by cases t<;>simp_all [Ty.size,Ty.agg]
  have:i=0:=by omega
  subst this;exact e) h
theorem jcI {v:Value} (h:kU v=false):v.cells= #[v]:=by cases v<;>simp_all [kU,Value.cells]
theorem zp {H:Imm} {t:Ty} {v:Value} {d:t.Data} (a:t.agg=false) (h:t.rv H v d):t.rd H (fun _=>some v) d:=by
 have b:=jcI (v:=v) (by rw[h.1,a]);exact vk a (by simp[b]) h.2.2
theorem jn2 {H:Imm} {t:Ty} {v:Value} {d:t.Data} (b:t.agg=false) (h:t.rd H (fun _=>some v) d):kU v=false:=by
 cases t with
 |map k u=>obtain⟨p,e,_⟩:=h;simp at e;subst e;rfl
 |slice t=>obtain⟨a,n,c,e,_⟩:=h;simp at e;subst e;rfl
 |ptr t=>obtain⟨p,e,_⟩:=h;simp at e;subst e;rfl
 |_=>simp_all [Ty.rd,Ty.agg,kU]
theorem kG {H:Imm} {t:Ty} {v:Value} {d:t.Data} (b:t.agg=false) (h:t.rd H (fun _=>some v) d):t.rv H v d:=by
 have a:=jn2 b h;have c:t.size=1:=by cases t<;>simp_all [Ty.size,Ty.agg]
 refine⟨by rw[a,b],by rw[jcI a,c];rfl,vk b (by rw[jcI a];simp) h⟩
theorem wz {v:Value} (h:zv v=true):v= .slice none 0 0:=by
 unfold zv at h
 split at h
 .rfl
 .cases h
theorem juw {H:Imm} (t:Ty):(Ty.slice t).rd H (fun _=>some (.slice none 0 0)) []:=
 ⟨none,0,0,rfl,rfl,jG5 _,by simp,fun _=>rfl,fun h=>absurd rfl h⟩
theorem jC8 {v:Value} (h:jiP v=true):v= .map none:=by
 unfold jiP at h
 split at h
 .rfl
 .cases h
theorem jFj {H:Imm} {kt vt:Ty} {b:Nat} {es:Array MapEntry} {clock:Nat} {l:List (kt.Data×vt.Data)} (g:H b=some (.map es clock)) (h:jcQ H kt vt es clock l):
 (Ty.map kt vt).rd H (fun _=>some (.map (some b))) l:=by
 obtain⟨a,c,d,e,f⟩:=h;refine⟨some b,rfl,fun h=>(by cases h),fun j i=> ?_⟩;cases i;exact⟨es,clock,g,a,c,d,e,f⟩
def Frz (σ τ:St) (fz:List Nat):Prop:=∀o,(τ.obj o=σ.obj o\/τ.obj o=(σ.obj o).map kB)/\(o∈fz->τ.obj o=(σ.obj o).map kB)
theorem w8 (σ:St) (fz:List Nat):Frz σ (σ.frz fz) fz:=fun o=>by
 rw[kL]
 by_cases h:o∈fz<;>simp[h]
theorem jur {P:Program} {B:zV} {σ τ:St} {ρ:Env} {w:World} (g:Sat P B ρ τ.obj w) {fz:List Nat} (e:Frz σ τ fz) {o:Nat} (h:o∈fz)
 {E:Nat} {t:Ty} {f:Bool} {nl:Nl} {l:List t.Data} (m:σ.obj o=some (.row E t f nl l)):
 ∃p,ρ.blk o=some p/\ρ.len o=l.length/\l.length<4611686018427387904/\match p with
  |none=>l=[]
  |some (b,_)=>∃vs,ρ.H b=some (.cells vs)/\∀i x,l[i]? =some x->t.rd ρ.H (fun j=>vs[i*t.size+j]?) x:=by
 have a:τ.obj o=some (.row E t true nl l):=(by rw[(e o).2 h,m];rfl);obtain⟨p,k,r,n,d⟩:=g.obs o _ a;refine⟨p,k,r,n,?_⟩;cases p with
 |none=>exact d.1
 |some q=>
  obtain⟨b,C⟩:=q;obtain⟨_,vs,_,_,_,_,s,c⟩:=d;exact⟨vs,by simpa[fzH] using c,s⟩
theorem jBw {P:Program} {B:zV} {σ τ:St} {ρ:Env} {w:World} (r:Sat P B ρ τ.obj w) {fz:List Nat} (n:Frz σ τ fz) {o:Nat} (s:o∈fz)
 {t u:Ty} {l:List t.Data} {v:Value} (c:yF σ t (.own o u)=some l) (a:SV.den P ρ (.own o u) v):(Ty.slice t).rd ρ.H (fun _=>some v) l:=by
 simp only[yF] at c
 split at c
 .rename_i E D f nl l' d;obtain⟨e,rfl⟩:=jm c;obtain⟨p,y,A,z,g⟩:=jur r n s d;rw[y8];simp only[SV.den] at a;have a:=a p y;cases p with
  |none=>
   subst g;obtain⟨rfl,_⟩:=a;exact juw D
  |some q=>
   obtain⟨b,C⟩:=q;obtain⟨rfl,j⟩:=a;obtain⟨vs,k,m⟩:=g;exact⟨_,_,C,rfl,A,j,z,fun h=>(by cases h),fun _=>⟨b,0,vs,rfl,k,fun i x d=>by simpa using m i x d⟩⟩
 .cases c
theorem jBx {P:Program} {B:zV} {σ τ:St} {ρ:Env} {w:World} (J:Sat P B ρ τ.obj w) {fz:List Nat} (I:Frz σ τ fz) {o:Nat} (L:o∈fz)
 {t u:Ty} {lo n:Nat} {l:List t.Data} {v:Value} (c:yF σ t (.osl o u lo n)=some l) (k:SV.den P ρ (.osl o u lo n) v):(Ty.slice t).rd ρ.H (fun _=>some v) l:=by
 simp only[yF] at c
 split at c
 .rename_i E V f nl l' d
  split at c
  .rename_i N K;obtain⟨z,rfl⟩:=jm K;obtain⟨e,rfl⟩:=jm c;obtain⟨p,M,T,S,y⟩:=jur J I L d;rw[y8];cases z;simp only[qw];simp only[SV.den] at k;have k:=k p M;cases p with
   |none=>
    subst y;obtain⟨rfl,rfl⟩:=k;simpa using juw u
   |some q=>
    obtain⟨b,C⟩:=q;obtain⟨a,m,rfl,A,O,Q,D⟩:=k;obtain⟨vs,F,G⟩:=y;have g:((l'.drop lo).take n).length=n:=(by simp;omega);refine⟨_,_,m,rfl,g.symm,A,by omega,fun h=>(by cases h),fun s=> ?_⟩;have R:0<n:=by
     rcases jIf n with r|r
     .subst r;simp at s
     .exact r
    refine⟨b,lo*u.size,vs,by rw[D (.inr (by omega))],F,fun i x d=> ?_⟩;have hi:(l'.drop lo)[i]? =some x:=by
     rw[jIg] at d
     split at d
     .exact d
     .cases d
    rw[jHI] at hi;have:=G _ _ hi;refine u.rd_congr _ _ x (fun j _=> ?_) this;simp only[jHP]
  .cases c
 .cases c
theorem jfl {P:Program} {B:zV} {σ τ:St} {ρ:Env} {w:World} (m:Sat P B ρ τ.obj w) {fz:List Nat} (k:Frz σ τ fz)
 {t:Ty} (y:t.agg=false) {sv:SV} {d:t.Data} {c:List Nat} (h:jjg σ t sv=some (d,c)) (s:∀o,o∈c->o∈fz) {v:Value} (a:SV.den P ρ sv v):
 t.rd ρ.H (fun _=>some v) d:=by
 have plain:∀(t:Ty),t.agg=false->∀(i:Ty) (j:i.Data) (x:t.Data),zz i t j=some x->SV.den P ρ (.dat i j) v->t.rd ρ.H (fun _=>some v) x:=by
  intro t y i j x f a;obtain⟨e,rfl⟩:=jm f;rw[y8];subst e;simp only[SV.den] at a;exact zp y a
 unfold jjg at h
 split at h
 .rename_i t o u
  split at h
  .rename_i l q;simp at h;obtain⟨rfl,rfl⟩:=h;exact jBw m k (s o (by simp)) q a
  .cases h
 .rename_i t o u lo n
  split at h
  .rename_i l q;simp at h;obtain⟨rfl,rfl⟩:=h;exact jBx m k (s o (by simp)) q a
  .cases h
 .rename_i t u
  split at h
  .rename_i r;simp at h;obtain⟨rfl,rfl⟩:=h;simp only[SV.den] at a;subst a;rw[wz r];exact juw t
  .cases h
 .rename_i kt vt o
  split at h
  case h_2=>cases h
  rename_i F A D M I
  split at h
  case h_2=>cases h
  rename_i l' f;simp at h;obtain⟨rfl,rfl⟩:=h;obtain⟨e,rfl⟩:=jm f;rw[y8 e];have z:τ.obj o=some (.map true A D M):=(by rw[(k o).2 (s o (by simp)),I];rfl);obtain⟨p,J,g⟩:=m.obs o _ z;simp only[zq,fzM] at g;obtain⟨b,C,es,clock,rfl,O,K,L⟩:=g;simp only[SV.den] at a;obtain⟨N,C',E,rfl⟩:=a _ J;simp at E;obtain⟨rfl,rfl⟩:=E;exact jFj L K
 .rename_i kt vt u
  split at h
  .rename_i r;simp at h;obtain⟨rfl,rfl⟩:=h;simp only[SV.den] at a;subst a;rw[jC8 r];exact⟨none,rfl,fun _=>rfl,fun b G=>by cases G⟩
  .cases h
 .split at h
  .rename_i x f;simp at h;obtain⟨rfl,rfl⟩:=h;exact plain _ y _ _ _ f a
  .cases h
 .cases h
theorem jy6 {v:Value} (h:jfZ v=true):v= .pointer none:=by
 unfold jfZ at h
 split at h
 .rfl
 .cases h
theorem jfF {P:Program} {B:zV} {σ τ:St} {ρ:Env} {w:World} (E:Sat P B ρ τ.obj w) {fz:List Nat} (D:Frz σ τ fz) {t:Ty}
 (K:∀{cs rest:List SV} {d:t.Data} {a:List Nat},wB σ t cs=some (d,rest,a)->(∀o,o∈a->o∈fz)->∀{vs:List Value},SV.denL P ρ cs vs->
  ∃us r,vs=us++r/\us.length=t.size/\SV.denL P ρ rest r/\t.rd ρ.H (fun i=>us[i]?) d)
 {sv:SV} {d:Option t.Data} {a:List Nat} (h:jnN (wB σ t) (fun u d=>zz u t d) (fun u d=>zz u (.ptr t) d) σ sv=some (d,a)) (z:∀o,o∈a->o∈fz) {v:Value} (g:SV.den P ρ sv v):
 (Ty.ptr t).rd ρ.H (fun _=>some v) d:=by
 unfold jnN at h
 split at h
 .split at h
  .rename_i x n;simp at h;obtain⟨rfl,rfl⟩:=h;obtain⟨e,rfl⟩:=jm n;subst e;simp only[SV.den] at g;exact zp rfl g
  .cases h
 .split at h
  .rename_i x n;simp at h;obtain⟨rfl,rfl⟩:=h;obtain⟨e,rfl⟩:=jm n;subst e;simp only[SV.den] at g;obtain⟨b,off,c,rfl,l,m⟩:=g;exact⟨_,rfl,b,off,c,rfl,l,m⟩
  .cases h
 .rename_i o off
  split at h
  case h_2=>cases h
  rename_i T f cs s
  split at h
  case h_2=>cases h
  rename_i x rest O F;simp at h;obtain⟨rfl,rfl⟩:=h;have y:τ.obj o=some (.box T true cs):=(by rw[(D o).2 (z o (by simp)),s];rfl);obtain⟨p,I,k⟩:=E.obs o _ y;simp only[zq,fzH] at k;obtain⟨b,C,vs,rfl,S,L,V,M⟩:=k;simp only[SV.den] at g;obtain⟨N,C',l,rfl⟩:=g _ I;simp at l;obtain⟨rfl,rfl⟩:=l;have q:=jaw off cs _ L;obtain⟨us,r,m,R,_,J⟩:=K F (fun o s=>z o (by simp[s])) q;refine⟨_,rfl,b,off,vs,rfl,M,t.rd_congr _ _ _ (fun j Q=> ?_) J⟩;have A:(vs.toList.drop off)[j]? =us[j]? :=(by rw[m,jHf (by omega)]);rw[<-A,jHI];simp
 .split at h
  .rename_i G;simp at h;obtain⟨rfl,rfl⟩:=h;simp only[SV.den] at g;subst g;rw[jy6 G];exact⟨none,rfl,rfl⟩
  .cases h
 .cases h
theorem jcH {P:Program} {B:zV} {σ τ:St} {ρ:Env} {w:World} (J:Sat P B ρ τ.obj w) {fz:List Nat} (I:Frz σ τ fz):
 ∀(t:Ty) {cs rest:List SV} {d:t.Data} {g:List Nat},wB σ t cs=some (d,rest,g)->(∀o,o∈g->o∈fz)->∀{vs:List Value},SV.denL P ρ cs vs->
  ∃us r,vs=us++r/\us.length=t.size/\SV.denL P ρ rest r/\t.rd ρ.H (fun i=>us[i]?) d:=by
 have e:∀(t:Ty),t.agg=false->∀{c:SV} {r:List SV} {x:t.Data} {f:List Nat},jjg σ t c=some (x,f)->
  (∀o,o∈f->o∈fz)->∀{vs:List Value},SV.denL P ρ (c::r) vs->∃us n,vs=us++n/\us.length=t.size/\SV.denL P ρ r n/\t.rd ρ.H (fun i=>us[i]?) x:=by
  intro t K c r x f m l vs j;simp only[SV.denL] at j;obtain⟨v,n,rfl,p,q⟩:=j;have s:=jfl J I K m l p;exact⟨[v],n,rfl,by cases t<;>simp_all [Ty.size,Ty.agg],q,vk (f:=fun _=>some v) K rfl s⟩
 intro t
 induction t with
 |unit=>
  intro cs rest d g h _ vs j;simp only[wB,Option.some.injEq,Prod.mk.injEq] at h;obtain⟨_,rfl,rfl⟩:=h;exact⟨[],vs,rfl,rfl,j,trivial⟩
 |pair a b D E=>
  intro cs rest d g h l vs j;simp only[wB] at h
  split at h
  .rename_i x r f L
   split at h
   .rename_i y n T M;simp at h;obtain⟨rfl,rfl,rfl⟩:=h;obtain⟨us,V,rfl,O,N,Q⟩:=D L (fun o z=>l o (jG2 _ z)) j;obtain⟨F,G,rfl,C,A,R⟩:=E M (fun o z=>l o (jG1 _ z)) N;refine⟨us++F,G,by simp,by simp[Ty.size,O,C],A,?_,?_⟩
    .exact a.rd_congr _ _ _ (fun i hi=>by rw[jHf (by omega)]) Q
    .refine b.rd_congr _ _ _ (fun i hi=> ?_) R;simp only;rw[jHe (by omega)];congr 1;omega
   .cases h
  .cases h
 |int=>
  intro cs rest d g h l vs j;cases cs with
  |nil=>simp[wB] at h
  |cons c r=>
   simp only[wB] at h
   split at h
   .rename_i x f m;simp at h;obtain⟨rfl,rfl,rfl⟩:=h;exact e .int rfl m l j
   .cases h
 |bool=>
  intro cs rest d g h l vs j;cases cs with
  |nil=>simp[wB] at h
  |cons c r=>
   simp only[wB] at h
   split at h
   .rename_i x f m;simp at h;obtain⟨rfl,rfl,rfl⟩:=h;exact e .bool rfl m l j
   .cases h
 |uint k=>
  intro cs rest d g h l vs j;cases cs with
  |nil=>simp[wB] at h
  |cons c r=>
   simp only[wB] at h
   split at h
   .rename_i x f m;simp at h;obtain⟨rfl,rfl,rfl⟩:=h;exact e (.uint k) rfl m l j
   .cases h
 |slice t _=>
  intro cs rest d g h l vs j;cases cs with
  |nil=>simp[wB] at h
  |cons c r=>
   simp only[wB] at h
   split at h
   .rename_i x f m;simp at h;obtain⟨rfl,rfl,rfl⟩:=h;exact e (.slice t) rfl m l j
   .cases h
 |map k u _ _=>
  intro cs rest d g h l vs j;cases cs with
  |nil=>simp[wB] at h
  |cons c r=>
   simp only[wB] at h
   split at h
   .rename_i x f m;simp at h;obtain⟨rfl,rfl,rfl⟩:=h;exact e (.map k u) rfl m l j
   .cases h
 |ptr t S=>
  intro cs rest d g h l vs j;cases cs with
  |nil=>simp[wB] at h
  |cons c r=>
   simp only[wB] at h
   split at h
   .rename_i x f m;simp at h;obtain⟨rfl,rfl,rfl⟩:=h;simp only[SV.denL] at j;obtain⟨v,n,rfl,p,q⟩:=j;have s:=jfF J I S m l p;exact⟨[v],n,rfl,rfl,q,vk (t:= .ptr t) (f:=fun _=>some v) rfl rfl s⟩
   .cases h
theorem jhu {P:Program} {B:zV} {σ τ:St} {ρ:Env} {w:World} (c:Sat P B ρ τ.obj w) {fz:List Nat} (b:Frz σ τ fz)
 {t:Ty} (j:t.agg=false) {sv:SV} {d:t.Data} {a:List Nat} (h:jt8 σ t sv=some (d,a)) (f:∀o,o∈a->o∈fz) {v:Value} (g:SV.den P ρ sv v):
 t.rd ρ.H (fun _=>some v) d:=by
 unfold jt8 at h
 split at h
 .rename_i t;exact jfF c b (fun i e=>jcH c b t i e) h f g
 .exact jfl c b j h f g
theorem jT {P:Program} {B:zV} {σ τ:St} {ρ:Env} {w:World} (j:Sat P B ρ τ.obj w) {fz:List Nat} (g:Frz σ τ fz)
 {t:Ty} {sv:SV} {d:t.Data} {b:List Nat} (h:qn σ t sv=some (d,b)) (l:∀o,o∈b->o∈fz) {v:Value} (a:SV.den P ρ sv v):t.rv ρ.H v d:=by
 unfold qn at h
 split at h
 .rename_i u s
  split at h
  .rename_i x m;simp at h;obtain⟨rfl,rfl⟩:=h;obtain⟨e,rfl⟩:=jm m;rw[jCw];simpa[SV.den] using a
  .cases h
 .rename_i cs
  split at h
  .rename_i x f n
   split at h
   .rename_i c;simp at h;obtain⟨rfl,rfl⟩:=h;simp only[SV.den] at a;obtain⟨vs,rfl,a,_⟩:=a;obtain⟨us,r,e,p,k,q⟩:=jcH j g t n l a;simp only[SV.denL] at k;subst k;simp at e;refine⟨by simp[kU,c],by simp only[Value.cells];rw[<-p,<-e];simp,t.rd_congr _ _ _ (fun i _=> ?_) q⟩;simp only[Value.cells];rw[<-e];simp
   .cases h
  .cases h
 .split at h
  .cases h
  .rename_i c;exact kG c (jhu j g c h l a)
def jyz (H:Imm) (t:Ty) (v:Value) (d:t.Data):Prop:=
 ∃b off c,v= .pointer (some ⟨b,off,none⟩)/\H b=some (.cells c)/\t.rd H (fun j=>c[off+j]?) d
def jD0 (P:Program) (H:Imm):(p:Par)->Value->p.Data->Prop
 | .val t,v,d=>t.rv H v d
 | .ref t,v,d=>jyz H t v d
 | .fn ps rs,v,d=>FnV P H ps rs d.pre d.F v
 | .rfn ps rs,v,d=>∃b u,v= .pointer (some ⟨b,0,none⟩)/\H b=some (.cells #[u])/\FnV P H ps rs d.pre d.F u
def pvs (P:Program) (H:Imm):(ps:List Par)->List Value->PD ps->Prop
 |[],vs,_=>vs=[]
 |p::ps,v::vs,d=>jD0 P H p v d.1/\pvs P H ps vs d.2
 |_::_,[],_=>False
structure zu (P:Program) (f:Nat) (s:j7):Prop where
 enters:enters P f
 calls:∀H w vals d,jbT H w->pvs P H s.ps vals d->k8 (s.pre d)->Calls P f vals.toArray w (jDr H w s.rs (s.F d))
theorem jyz.mono {H H':Imm} (a:∀b c,H b=some c->H' b=some c) {t:Ty} {v:Value} {d:t.Data} (h:jyz H t v d):jyz H' t v d:=by
 obtain⟨b,off,c,e,f,g⟩:=h;exact⟨b,off,c,e,a _ _ f,t.rd_mono a _ _ g⟩
theorem jD0.mono {P:Program} {H H':Imm} (a:∀b c,H b=some c->H' b=some c):∀{p:Par} {v:Value} {d:p.Data},jD0 P H p v d->jD0 P H' p v d
 | .val _,_,_,h=>Ty.rv_mono a h
 | .ref _,_,_,h=>jyz.mono a h
 | .fn _ _,_,_,h=>FnV.mono a h
 | .rfn _ _,_,_,h=>by
  obtain⟨b,u,e,f,g⟩:=h
  exact⟨b,u,e,a _ _ f,FnV.mono a g⟩
theorem pvs.mono {P:Program} {H H':Imm} (a:∀b c,H b=some c->H' b=some c):∀{ps:List Par} {vs:List Value} {d:PD ps},pvs P H ps vs d->pvs P H' ps vs d
 |[],_,_,h=>h
 |_::_,_::_,_,h=>⟨jD0.mono a h.1,pvs.mono a h.2⟩
 |_::_,[],_,h=>h
theorem jaQ {P:Program} {B:zV} {σ τ:St} {ρ:Env} {w:World} (q:Sat P B ρ τ.obj w) {fz:List Nat} (n:Frz σ τ fz)
 {t:Ty} {sv:SV} {d:t.Data} {a:List Nat} (h:jrV σ t sv=some (d,a)) (s:∀o,o∈a->o∈fz) {v:Value} (c:SV.den P ρ sv v):jyz ρ.H t v d:=by
 unfold jrV at h
 split at h
 .rename_i u z
  split at h
  .rename_i x g;simp at h;obtain⟨rfl,rfl⟩:=h;obtain⟨e,rfl⟩:=jm g;subst e;simpa[SV.den,jyz,qw] using c
  .cases h
 .rename_i o off
  split at h
  .rename_i T f cs k
   split at h
   .rename_i x r K F;simp at h;obtain⟨rfl,rfl⟩:=h;have l:τ.obj o=some (.box T true cs):=(by rw[(n o).2 (s o (by simp)),k];rfl);obtain⟨p,I,b,C,vs,rfl,M,j,_,E⟩:=q.obs o _ l;simp only[SV.den] at c;obtain⟨J,C',e,rfl⟩:=c _ I;simp at e;obtain⟨rfl,rfl⟩:=e;obtain⟨us,N,e,L,_,k⟩:=jcH q n t F (fun o G=>s o (by simp[G])) (jaw off cs _ j);refine⟨b,off,vs,rfl,by simpa[fzH] using E,t.rd_congr _ _ _ (fun i hi=> ?_) k⟩;have:vs[off+i]? =(vs.toList.drop off)[i]? :=(by simp);rw[this,e,jHf (by omega)]
   .cases h
  .cases h
 .rename_i u z
  split at h
  case h_2=>cases h
  rename_i y
  split at h
  .rename_i x g;simp at h;obtain⟨rfl,rfl⟩:=h;obtain⟨e,rfl⟩:=jm g;subst e;simp only[SV.den] at c;obtain⟨p,m,b,off,blk,rfl,A,D⟩:=zp (t:= .ptr u) rfl c;simp at m;subst m;exact⟨b,off,blk,rfl,A,D⟩
  .cases h
 .cases h
theorem jaI {P:Program} {B:zV} {σ τ:St} {ρ:Env} {w:World} (g:Sat P B ρ τ.obj w) {fz:List Nat} (e:Frz σ τ fz):
 ∀{ps:List Ty} {svs:List SV} {d:(Ty.st ps).Data} {a:List Nat},joT σ ps svs=some (d,a)->(∀o,o∈a->o∈fz)->∀{vs:List Value},SV.denL P ρ svs vs->rvs ρ.H ps vs d
 |[],[],d,a,h,_,vs,b=>by simpa[SV.denL,rvs] using b
 |[],_::_,d,a,h,_,vs,b=>by simp[joT] at h
 |_::_,[],d,a,h,_,vs,b=>by simp[joT] at h
 |t::ps,sv::svs,d,a,h,hs,vs,b=>by
  simp only[joT] at h
  split at h
  .rename_i x f l
   split at h
   .rename_i xs m k
    simp at h
    obtain⟨rfl,rfl⟩:=h
    simp only[SV.denL] at b
    obtain⟨v,r,rfl,i,j⟩:=b
    exact⟨jT g e l (fun o c=>hs o (jG2 _ c)) i,jaI g e k (fun o c=>hs o (jG1 _ c)) j⟩
   .cases h
  .cases h
theorem jdC {P:Program} {H:Imm}:∀{ps:List Ty} {b:List Par} {rest:List Par} {k:(Ty.st ps).Data->PD rest->PD b},yV ps b=some ⟨rest,k⟩->
 ∀{vs us:List Value} {x:(Ty.st ps).Data} {y:PD rest},rvs H ps vs x->pvs P H rest us y->pvs P H b (vs++us) (k x y)
 |[],b,rest,k,h,vs,us,x,y,a,c=>by
  simp only[yV,Option.some.injEq,Sigma.mk.injEq] at h
  obtain⟨rfl,h⟩:=h
  have:=eq_of_heq h
  subst this
  simp only[rvs] at a
  subst a
  exact c
 |_::_,[],rest,k,h,_,_,_,_,_,_=>by simp[yV] at h
 |_::_,.ref _::_,rest,k,h,_,_,_,_,_,_=>by simp[yV] at h
 |_::_,.fn _ _::_,rest,k,h,_,_,_,_,_,_=>by simp[yV] at h
 |t::ps,.val u::b,rest,k,h,vs,us,x,y,a,c=>by
  simp only[yV] at h
  split at h
  .rename_i e
   subst e
   split at h
   .rename_i d k' f
    simp only[Option.some.injEq,Sigma.mk.injEq] at h
    obtain⟨rfl,h⟩:=h
    have:=eq_of_heq h
    subst this
    cases vs with
    |nil=>exact a.elim
    |cons v vs=>exact⟨a.1,jdC f a.2 c⟩
   .cases h
  .cases h
end Go.X
namespace Go.X
open Go.RowKit (Below)
def vS (t:Ty) (a:t.Data):List t.Data->List MapEntry->Nat->Option (Nat×Value)
 |k::ks,e::es,i=>if @decide (a=k) (t.decEq a k)=true then some (i,e.val) else vS t a ks es (i+1)
 |_,_,_=>none
def jm5 (H:Imm) (t:Ty):List MapEntry->List t.Data->Prop
 |[],[]=>True
 |e::es,k::ks=>t.rv H e.key k/\jm5 H t es ks
 |_,_=>False
structure TI.ok (P:Program) (ti:TI):Prop where
 info:∃i z,P.info? ti.id=some i/\i.size=ti.size/\i.bytes=ti.bytes/\i.zero=some z/\z.cells.toList=ti.zero/\kU z=ti.agg
 one:∀v∈ti.zero,v.oneCell'=true
 zlen:ti.zero.length=ti.size
 str:ti.agg=true->ti.arr=false->∃fs,P.underlying ti.id=some (.struct fs)/\fs.size=ti.fields.length/\∀(k:Nat) (p:Nat×Nat),ti.fields[k]? =some p->∃f:Field,fs[k]? =some f/\f.offset=p.1/\f.type=p.2
 arrk:ti.arr=true->ti.agg=true/\∃n ie,P.underlying ti.id=some (.array n ti.elem)/\P.info? ti.elem=some ie/\ie.size=1/\ti.fields.length=n/\ti.size=n/\n<=1000000/\∀(k:Nat) (p:Nat×Nat),ti.fields[k]? =some p->p=(k,ti.elem)
 fok:∀(k:Nat) (p:Nat×Nat),ti.fields[k]? =some p->∃i,P.info? p.2=some i
 flat:ti.agg=false->∃d,P.underlying ti.id=some d/\(∀fs,d≠.struct fs)/\(∀n e,d≠.array n e)/\(∀ms,d≠.interface ms)/\(ti.sl=true->d= .slice ti.elem)/\(ti.ty= .int->d= .int .i64)/\(∀k,ti.ty= .uint k->d= .int k)
 slf:ti.sl=true->ti.agg=false
 ptf:ti.pt=true->∃e,P.underlying ti.id=some (.pointer e)
 fkf:ti.fk=true->∃a b c,P.underlying ti.id=some (.func a b c)
 mpf:ti.mp=true->P.underlying ti.id=some (.map ti.key ti.elem)
 zd:kr ti.ty=true->∀H:Imm,ti.ty.rd H (fun i=>ti.zero[i]?) ti.ty.dflt
 keyq:ti.kq=true->(∀(H:Imm) (x:Value) (a:ti.ty.Data) (w:World) (e:Bool),ti.ty.rv H x a->(Instr.checkKey e 10000 ti.id x).run P w= .ok () w)/\
  (∀(H:Imm) (es:List MapEntry) (ks:List ti.ty.Data) (x:Value) (a:ti.ty.Data) (w:World),ti.ty.rv H x a->jm5 H ti.ty es ks->(Instr.findKey ti.id x es).run P w= .ok (vS ti.ty a ks es 0) w)/\
  (∀(H:Imm) (x y:Value) (a:ti.ty.Data),ti.ty.rv H x a->ti.ty.rv H y a->Instr.sameBits 10000 x y=true)
 flf:ti.agg=false->ti.fields=[]
 known:kr ti.ty=true->ti.ty.agg=ti.agg/\ti.ty.size=ti.size
 pos:kr ti.ty=true->0<ti.size/\0<ti.bytes
 eqs:ti.cmp=true->∀(H:Imm) (x y:Value) (a b:ti.ty.Data) (w:World),ti.ty.rv H x a->ti.ty.rv H y b->
  ∀op (X Y:Operand),(op= .eql\/op= .neq)->(do eqGuard op ti.id X Y x y;binOp op ti.id x y:Sem Value).run P w= .ok (.bool (match op with| .eql=> @decide (a=b) (ti.ty.decEq a b)|_=> !(@decide (a=b) (ti.ty.decEq a b)))) w
theorem jqI {ti:TI} {f:Nat} {p:Nat×Nat} (h:ti.flds[f]? =some p):ti.fields[f]? =some p/\ti.arr=false:=by
 unfold TI.flds at h;cases a:ti.arr with
 |true=>rw[a] at h;simp at h
 |false=>rw[a] at h;exact⟨h,rfl⟩
def jF (P:Program) (B:zV) (ρ:Env) (σ:St) (out:Out) (v:Value) (w':World):Prop:=
 ∃a,Sat P B a ({σ with ob:=out.wr++(qG σ out.fz++σ.ob)}:St).obj w'/\ρ.le a out.nw/\SV.den P a out.sv v/\k8 out.fact
def kN (obj:Nat->Option Ob) (d:Nat):Prop:=∀o T fz cs,obj o=some (.box T fz cs)->SV.refs.refsL d cs=false
structure Ctx.ok (P:Program) (C:Ctx):Prop where
 ti:∀T x,C.info T=some x->x.id=T/\x.ok P
 fs:∀f s,C.spec f=some s->s.own=false->zu P f s
 str:∀T,yx C.strs T=true->P.underlying T=some .string
 lit:C.lit=false
 eff:∀f dst σ svs out,C.eff f dst σ svs=some out->enters P f/\∀B ρ w vals,Sat P B ρ σ.obj w->SV.denL P ρ svs vals->k8 out.vc->σ.obj dst=none->kN σ.obj dst->
  Calls P f vals.toArray w (fun e w'=>∃v,e= .returned v/\jF P B ρ σ out v w')
def jI (P:Program) (o:Oper) (ev:Operand->Value) (w:World) (R:Value->World->Prop):Prop:=
 match(execOp ev o).run P w with
 | .ok (.value v) w'=>R v w'
 | .ok .skip w'=>R undef w'
 | .ok (.enter f args) w'=>Calls P f args w' (fun e a=>∃v,e= .returned v/\R v a)
 |_=>False
theorem jI.wp {P:Program} {o:Oper} {a:Act} {w:World} {R:Value->World->Prop} {next:Act->World->Prop} {Q:Exit->Act->World->Prop}
 (h:jI P o a.eval w R) (k:∀v w',R v w'->next (a.put o.dst v) w'):o.wp P a w next Q:=by
 unfold jI at h;unfold Oper.wp;generalize (execOp a.eval o).run P w=r at*;cases r with
 |halt x w'=>exact h.elim
 |ok n w'=>
  cases n<;>simp only[Oper.upon] at h⊢
  case value v=>exact k _ _ h
  case skip=>exact k _ _ h
  case enter f args=>exact h.mono fun e d c=>by obtain⟨v,rfl,b⟩:=c;exact k _ _ b
  all_goals exact h.elim
theorem jI.mono {P:Program} {o:Oper} {ev:Operand->Value} {w:World} {R a:Value->World->Prop} (h:jI P o ev w R) (k:∀v w',R v w'->a v w'):jI P o ev w a:=by
 unfold jI at*;generalize (execOp ev o).run P w=r at*;cases r with
 |halt x w'=>exact h.elim
 |ok n w'=>
  cases n<;>simp only at h⊢
  case value v=>exact k _ _ h
  case skip=>exact k _ _ h
  case enter f args=>exact h.mono fun e d c=>by obtain⟨v,rfl,b⟩:=c;exact⟨v,rfl,k _ _ b⟩
section
variable {P:Program} {B:zV} {C:Ctx} {σ:St} {ρ:Env} {w:World} {o:Oper} {ev:Operand->Value} {out:Out}
theorem z7 (a:Sat P B ρ σ.obj w) {sv:SV} {vc fact:List Prop} {v:Value} (b:SV.den P ρ sv v) (c:k8 fact):jF P B ρ σ ⟨vc,fact,sv,[],[],[]⟩ v w:=
 ⟨ρ,a,Env.le.refl _ _,b,c⟩
theorem zo {R:Value->World->Prop} {v:Value} {w':World} (h:(execOp ev o).run P w= .ok (.value v) w') (k:R v w'):jI P o ev w R:=by
 unfold jI;rw[h];exact k
theorem qo {ti:TI} (h:ti.ok P):∃i z,(∀w,(typeInfo ti.id).run P w= .ok i w)/\i.size=ti.size/\i.bytes=ti.bytes/\(∀w,(sizeOf ti.id).run P w= .ok ti.size w)/\
 (∀w,(zeroValue ti.id).run P w= .ok z w)/\z.cells.toList=ti.zero/\kU z=ti.agg:=by
 obtain⟨i,z,b,a,c,d,f,g⟩:=h.info;have e:∀w,(typeInfo ti.id).run P w= .ok i w:=fun w=>by simp[typeInfo,b]
 exact⟨i,z,e,a,c,fun w=>by simp[sizeOf,e,a],fun w=>by simp[zeroValue,e,d],f,g⟩
theorem jpK {ti:TI} (h:ti.ok P):∀w,(isAgg ti.id).run P w= .ok ti.agg w:=fun w=>by
 cases b:ti.agg with
 |true=>
  cases c:ti.arr with
  |false=>obtain⟨fs,a,_⟩:=h.str b c;simp[isAgg,run_underlying a]
  |true=>obtain⟨_,n,ie,a,_⟩:=h.arrk c;simp[isAgg,run_underlying a]
 |false=>
  obtain⟨d,a,e,f,_,_⟩:=h.flat b
  simp only[isAgg,Sem.run_bind,run_underlying a,Result.andThen_ok]
  cases d<;>simp_all
theorem w6 {H:Imm} (n:Int):Ty.int.rv H (.int .i64 n) n:=⟨rfl,rfl,rfl⟩
theorem wZ {H:Imm} (b:Bool):Ty.bool.rv H (.bool b) b:=⟨rfl,rfl,rfl⟩
theorem jjB {H:Imm} (k:IntKind) (n:Int):(Ty.uint k).rv H (.int k n) n:=⟨rfl,rfl,rfl⟩
theorem zF {H:Imm} {v:Value} {n:Int} (h:Ty.int.rv H v n):v= .int .i64 n:=by
 have:=zp (t:= .int) rfl h;simpa[Ty.rd] using this
theorem zY {H:Imm} {v:Value} {n:Bool} (h:Ty.bool.rv H v n):v= .bool n:=by
 have:=zp (t:= .bool) rfl h;simpa[Ty.rd] using this
theorem wO {H:Imm} {k:IntKind} {v:Value} {n:Int} (h:(Ty.uint k).rv H v n):v= .int k n:=by
 have:=zp (t:= .uint k) rfl h;simpa[Ty.rd] using this
theorem jkX (v:Value):SV.den P ρ (jlJ v) v:=by
 cases v with
 |int k n=>cases k<;>simp only[jlJ,SV.den]<;>first|exact w6 n|exact jjB _ n
 |bool b=>exact wZ b
 |_=>simp[jlJ,SV.den]
theorem jO {a:Act} (b:jgz P ρ σ.sl a) (x:Operand):SV.den P ρ (jQ σ x) (a.eval x):=by
 cases x with
 |tmp t=>
  simp only[jQ,St.get,Act.eval]
  split
  .rename_i sv h;exact b t sv h
  .simp[SV.den]
 |const v=>exact jkX v
 |global g=>simp[jQ,Act.eval,SV.den]
 |func f=>simp[jQ,Act.eval,SV.den,SV.denL]
theorem qg {n:Int} (h:jy n):IntKind.i64.wrap n=n:=by
 rw[IntKind.wrap_i64];unfold jy at h;omega
theorem jhU {op:BinOp} {x y:Int} {U:Nat} {X Y:Operand} {out:Out} (h:jmY op x y=some out) (d:k8 out.vc)
 (k:Sat P B ρ σ.obj w):
 ∃v,(do eqGuard op U X Y (.int .i64 x) (.int .i64 y);binOp op U (.int .i64 x) (.int .i64 y):Sem Value).run P w= .ok v w/\jF P B ρ σ out v w:=by
 have f:(eqGuard op U X Y (.int .i64 x) (.int .i64 y)).run P w= .ok () w:=by
  unfold eqGuard;cases op<;>simp
 have a:∀(n:Int) (vc:List Prop),(binOp op U (.int .i64 x) (.int .i64 y)).run P w= .ok (.int .i64 n) w->
  ∃v,(do eqGuard op U X Y (.int .i64 x) (.int .i64 y);binOp op U (.int .i64 x) (.int .i64 y):Sem Value).run P w= .ok v w/\jF P B ρ σ ⟨vc,[],.dat .int n,[],[],[]⟩ v w:=
  fun n vc j=>⟨_,by simp[f,j],z7 k (w6 n) trivial⟩
 have c:∀(b:Bool),(binOp op U (.int .i64 x) (.int .i64 y)).run P w= .ok (.bool b) w->
  ∃v,(do eqGuard op U X Y (.int .i64 x) (.int .i64 y);binOp op U (.int .i64 x) (.int .i64 y):Sem Value).run P w= .ok v w/\jF P B ρ σ ⟨[],[],.dat .bool b,[],[],[]⟩ v w:=
  fun b j=>⟨_,by simp[f,j],z7 k (wZ b) trivial⟩
 cases op<;>simp only[jmY,Out.pure,Option.some.injEq] at h<;>subst h<;>simp only[k8] at d
 case add=>exact a _ _ (by simp[binOp,Op.intArith,qg d.1])
 case sub=>exact a _ _ (by simp[binOp,Op.intArith,qg d.1])
 case mul=>exact a _ _ (by simp[binOp,Op.intArith,qg d.1])
 case quo=>exact a _ _ (by simp[binOp,Op.intDiv,d.1,qg d.2.1])
 case rem=>exact a _ _ (by simp[binOp,Op.intDiv,d.1])
 case and=>exact a _ _ rfl
 case or=>exact a _ _ rfl
 case xor=>exact a _ _ rfl
 case andNot=>exact a _ _ rfl
 case shl=>
  refine a _ _ ?_;have g:¬y<0:=(by omega);have i:min y.toNat 64=y.toNat:=(by omega);simp only[binOp,Op.shift,g,if_false,IntKind.bits,i];simp[qg d.2.2.1]
 case shr=>
  refine a _ _ ?_;have g:¬y<0:=(by omega);have i:min y.toNat 64=y.toNat:=(by omega);simp only[binOp,Op.shift,g,if_false,IntKind.bits,i];have l:(0:Int)<=2^y.toNat:=Int.le_of_lt (Int.pow_pos (by omega));rw[Int.fdiv_eq_ediv_of_nonneg _ l];simp
 case eql=>exact c _ (by simp only[binOp,Op.intCmp,ne_eq,not_true_eq_false,if_false,Sem.run_pure];congr 2)
 case neq=>exact c _ (by simp only[binOp,Op.intCmp,ne_eq,not_true_eq_false,if_false,Sem.run_pure];congr 2;by_cases e:x=y<;>simp[bne,e])
 case lss=>exact c _ (by simp[binOp,Op.intCmp])
 case leq=>exact c _ (by simp[binOp,Op.intCmp])
 case gtr=>exact c _ (by simp[binOp,Op.intCmp])
 case geq=>exact c _ (by simp[binOp,Op.intCmp])
theorem jaK {n:Int} (h:0<=n/\n<=18446744073709551615):IntKind.u64.wrap n=n:=by
 simp[IntKind.wrap,IntKind.bits,IntKind.signed];omega
theorem jmX {op:BinOp} {x y:Int} {U:Nat} {X Y:Operand} {out:Out} (h:jE9 op x y=some out) (d:k8 out.vc)
 (k:Sat P B ρ σ.obj w):
 ∃v,(do eqGuard op U X Y (.int .u64 x) (.int .u64 y);binOp op U (.int .u64 x) (.int .u64 y):Sem Value).run P w= .ok v w/\jF P B ρ σ out v w:=by
 have f:(eqGuard op U X Y (.int .u64 x) (.int .u64 y)).run P w= .ok () w:=by
  unfold eqGuard;cases op<;>simp
 have c:∀(n:Int) (vc:List Prop),(binOp op U (.int .u64 x) (.int .u64 y)).run P w= .ok (.int .u64 n) w->
  ∃v,(do eqGuard op U X Y (.int .u64 x) (.int .u64 y);binOp op U (.int .u64 x) (.int .u64 y):Sem Value).run P w= .ok v w/\jF P B ρ σ ⟨vc,[],.dat (.uint .u64) n,[],[],[]⟩ v w:=
  fun n vc j=>⟨_,by simp[f,j],z7 k (jjB _ n) trivial⟩
 have a:∀(b:Bool),(binOp op U (.int .u64 x) (.int .u64 y)).run P w= .ok (.bool b) w->
  ∃v,(do eqGuard op U X Y (.int .u64 x) (.int .u64 y);binOp op U (.int .u64 x) (.int .u64 y):Sem Value).run P w= .ok v w/\jF P B ρ σ ⟨[],[],.dat .bool b,[],[],[]⟩ v w:=
  fun b j=>⟨_,by simp[f,j],z7 k (wZ b) trivial⟩
 cases op<;>simp only[jE9,Out.pure,Option.some.injEq,reduceCtorEq] at h<;>subst h<;>simp only[k8] at d
 case add=>exact c _ _ (by simp[binOp,Op.intArith,jaK ⟨d.1,d.2.1⟩])
 case sub=>exact c _ _ (by simp[binOp,Op.intArith,jaK ⟨d.1,d.2.1⟩])
 case mul=>exact c _ _ (by simp[binOp,Op.intArith,jaK ⟨d.1,d.2.1⟩])
 case and=>exact c _ _ rfl
 case or=>exact c _ _ rfl
 case shl=>
  refine c _ _ ?_;have g:¬y<0:=(by omega);have i:min y.toNat 64=y.toNat:=(by omega);simp[binOp,Op.shift,g,IntKind.bits,i,jaK ⟨d.2.2.1,d.2.2.2.1⟩]
 case shr=>
  refine c _ _ ?_;have g:¬y<0:=(by omega);have i:min y.toNat 64=y.toNat:=(by omega);simp only[binOp,Op.shift,g,if_false,IntKind.bits,i];have l:(0:Int)<=2^y.toNat:=Int.le_of_lt (Int.pow_pos (by omega));rw[Int.fdiv_eq_ediv_of_nonneg _ l];simp
 case eql=>exact a _ (by simp only[binOp,Op.intCmp,ne_eq,not_true_eq_false,if_false,Sem.run_pure];congr 2)
 case neq=>exact a _ (by simp only[binOp,Op.intCmp,ne_eq,not_true_eq_false,if_false,Sem.run_pure];congr 2;by_cases e:x=y<;>simp[bne,e])
 case lss=>exact a _ (by simp[binOp,Op.intCmp])
 case leq=>exact a _ (by simp[binOp,Op.intCmp])
 case gtr=>exact a _ (by simp[binOp,Op.intCmp])
 case geq=>exact a _ (by simp[binOp,Op.intCmp])
end
end Go.X
namespace Go.X
open Go.RowKit (Below)
theorem qz (b off n:Nat):(⟨b,off,none⟩:Addr).add n=⟨b,off+n,none⟩:=by
 unfold Addr.add
 split
 .rename_i h;subst h;rfl
 .rfl
theorem jk5 {w:World} {b off:Nat} {vs:Array Value} {T:Nat} {a:Nat×Nat} (h:w.heap[b]? =some (.cells vs T a)):w.cell? ⟨b,off,none⟩=vs[off]? :=by
 simp[World.cell?,h]
theorem yn {H:Imm}:∀(t:Ty) (f:Nat->Option Value) (d:t.Data),t.rd H f d->∀j,j<t.size->∃v,f j=some v/\v.oneCell'=true
 | .int,f,_,h,j,g=>by
  have:j=0:=by simp[Ty.size] at g;exact g
  subst this;exact⟨_,h,rfl⟩
 | .bool,f,_,h,j,g=>by
  have:j=0:=by simp[Ty.size] at g;exact g
  subst this;exact⟨_,h,rfl⟩
 | .uint _,f,_,h,j,g=>by
  have:j=0:=by simp[Ty.size] at g;exact g
  subst this;exact⟨_,h,rfl⟩
 | .unit,_,_,_,j,g=>by simp[Ty.size] at g
 | .slice t,f,l,h,j,g=>by
  have:j=0:=by simp[Ty.size] at g;exact g
  subst this
  obtain⟨a,n,c,e,_⟩:=h
  exact⟨_,e,rfl⟩
 | .map _ _,f,l,h,j,g=>by
  have:j=0:=by simp[Ty.size] at g;exact g
  subst this
  obtain⟨p,e,_⟩:=h
  exact⟨_,e,rfl⟩
 | .ptr _,f,l,h,j,g=>by
  have:j=0:=by simp[Ty.size] at g;exact g
  subst this
  obtain⟨p,e,_⟩:=h
  exact⟨_,e,rfl⟩
 | .pair a b,f,d,h,j,g=>by
  by_cases i:j<a.size
  .exact yn a f d.1 h.1 j i
  .obtain⟨v,k,m⟩:=yn b _ d.2 h.2 (j-a.size) (by simp[Ty.size] at g;omega)
   refine⟨v,?_,m⟩
   rw[<-k];congr 1;omega
theorem jb1 {H:Imm}:∀(a:Ty) (off:Nat) (t:Ty) (d:a.Data) (x:t.Data) (f:Nat->Option Value),a.sub off t d=some x->a.rd H f d->t.rd H (fun j=>f (off+j)) x:=by
 have c:∀(a:Ty) (off:Nat) (t:Ty) (d:a.Data) (x:t.Data) (f:Nat->Option Value),(if off=0 then zz a t d else none)=some x->a.rd H f d->t.rd H (fun j=>f (off+j)) x:=by
  intro a off t d x f h g
  split at h
  .rename_i e;subst e;obtain⟨e,rfl⟩:=jm h;rw[y8];simpa using g
  .cases h
 intro a
 induction a with
 |pair a b i l=>
  intro off t d x f h g;simp only[Ty.sub] at h
  split at h
  .rename_i e;obtain⟨rfl,_⟩:=e;obtain⟨e,rfl⟩:=jm h;rw[y8];simpa using g
  .split at h
   .exact i off t d.1 x f h g.1
   .rename_i m;have:=l (off-a.size) t d.2 x _ h g.2;refine t.rd_congr _ _ x (fun j _=> ?_) this;congr 1;omega
 |int=>intro off t d x f h g;exact c .int off t d x f (by simpa[Ty.sub] using h) g
 |bool=>intro off t d x f h g;exact c .bool off t d x f (by simpa[Ty.sub] using h) g
 |uint k=>intro off t d x f h g;exact c (.uint k) off t d x f (by simpa[Ty.sub] using h) g
 |unit=>intro off t d x f h g;exact c .unit off t d x f (by simpa[Ty.sub] using h) g
 |slice s _=>intro off t d x f h g;exact c (.slice s) off t d x f (by simpa[Ty.sub] using h) g
 |map k u _ _=>intro off t d x f h g;exact c (.map k u) off t d x f (by simpa[Ty.sub] using h) g
 |ptr s _=>intro off t d x f h g;exact c (.ptr s) off t d x f (by simpa[Ty.sub] using h) g
theorem jhS {P:Program} {ρ:Env}:∀(t:Ty) (d:t.Data) (us:List Value),us.length=t.size->t.rd ρ.H (fun i=>us[i]?) d->SV.denL P ρ (jmT t d) us/\∀u∈us,u.oneCell'=true:=by
 have g:∀(t:Ty) (d:t.Data) (us:List Value),t.agg=false->us.length=t.size->t.rd ρ.H (fun i=>us[i]?) d->SV.denL P ρ [.dat t d] us/\∀u∈us,u.oneCell'=true:=by
  intro t d us p c h;have A:t.size=1:=by cases t<;>simp_all [Ty.size,Ty.agg]
  rw[A] at c
  match us,c with
  |[u],_=>
   have o:t.rd ρ.H (fun _=>some u) d:=vk (f:=fun i=>[u][i]?) p (by simp) h;obtain⟨v,n,r⟩:=yn t _ d o 0 (by omega);simp at n;subst n;exact⟨by simp only[SV.denL];exact⟨u,[],rfl,kG p o,rfl⟩,fun x q=>by simp at q;subst q;exact r⟩
 intro t
 induction t with
 |unit=>intro d us c _;simp[Ty.size] at c;subst c;exact⟨by simp[jmT,SV.denL],fun u c=>by simp at c⟩
 |pair a b l m=>
  intro d us c h;simp only[Ty.size] at c;have e:us=us.take a.size++us.drop a.size:=(jIp _ _).symm;obtain⟨s,w⟩:=l d.1 (us.take a.size) (by simp;omega) (a.rd_congr _ _ _ (fun i hi=>by rw[jHr hi]) h.1);obtain⟨y,z⟩:=m d.2 (us.drop a.size) (by simp;omega) (b.rd_congr _ _ _ (fun i hi=>by rw[jHI]) h.2);refine⟨by rw[e];exact wM _ _ _ _ s y,fun u j=> ?_⟩;rw[e] at j;rcases jHa.1 j with j|j
  .exact w u j
  .exact z u j
 |int=>intro d us c h;exact g .int d us rfl c h
 |bool=>intro d us c h;exact g .bool d us rfl c h
 |uint k=>intro d us c h;exact g (.uint k) d us rfl c h
 |slice t _=>intro d us c h;exact g (.slice t) d us rfl c h
 |map k u _ _=>intro d us c h;exact g (.map k u) d us rfl c h
 |ptr t _=>intro d us c h;exact g (.ptr t) d us rfl c h
section
variable {P:Program} {B:zV} {C:Ctx} {σ:St} {ρ:Env} {w:World} {o:Oper} {ev:Operand->Value} {out:Out}
theorem jkc (j:Sat P B ρ σ.obj w) {kt vt:Ty} {sv:SV} {l:List (kt.Data×vt.Data)} (h:jBN σ kt vt sv=some l) {v:Value} (c:SV.den P ρ sv v):
 (v= .map none/\l=[])\/∃b es clock,v= .map (some b)/\w.heap[b]? =some (.map es clock)/\jcQ ρ.H kt vt es clock l:=by
 unfold jBN at h
 split at h
 .obtain⟨e,rfl⟩:=jm h;subst e;simp only[SV.den] at c;obtain⟨p,t,x,y⟩:=zp rfl c;simp at t;subst t;cases p with
  |none=>exact .inl ⟨rfl,x rfl⟩
  |some b=>
   obtain⟨es,clock,a,g⟩:=y b rfl;exact .inr ⟨b,es,clock,rfl,j.good.1 b _ a,g⟩
 .rename_i o
  split at h
  .rename_i fz d f l' m;obtain⟨e,rfl⟩:=jm h;obtain⟨p,n,i⟩:=j.obs o _ m;simp only[zq] at i;obtain⟨b,C,es,clock,rfl,q,r,A⟩:=i;simp only[SV.den] at c;obtain⟨u,C',a,rfl⟩:=c _ n;simp at a;obtain⟨rfl,rfl⟩:=a;have a:d=kt:=(by injection e);have g:f=vt:=(by injection e);subst a;subst g;exact .inr ⟨b,es,clock,rfl,q,r⟩
  .rename_i d f l' k s m;obtain⟨e,rfl⟩:=jm h;obtain⟨p,n,i⟩:=j.obs o _ m;simp only[zq] at i;obtain⟨b,C,es,clock,rfl,q,r,A,_⟩:=i;simp only[SV.den] at c;obtain⟨u,C',a,rfl⟩:=c _ n;simp at a;obtain⟨rfl,rfl⟩:=a;have a:d=kt:=(by injection e);have g:f=vt:=(by injection e);subst a;subst g;exact .inr ⟨b,es,clock,rfl,q,r⟩
  .cases h
 .split at h
  .rename_i z;simp at h;subst h;simp only[SV.den] at c;subst c;exact .inl ⟨jC8 z,rfl⟩
  .cases h
 .cases h
theorem jzj {o:Nat} (h:jkh σ o=true):∃x,σ.obj o=some x:=by
 unfold jkh at h
 split at h
 .exact⟨_,by assumption⟩
 .cases h
theorem wT (a:Sat P B ρ σ.obj w) {o:Nat} (h:jkh σ o=true):∃p,ρ.blk o=some p:=by
 obtain⟨x,c⟩:=jzj h;obtain⟨p,b,_⟩:=a.obs o x c;exact⟨p,b⟩
theorem jeU (r:Sat P B ρ σ.obj w) {sv:SV} {cs:List SV} (h:cells σ sv=some cs) {v:Value} (c:SV.den P ρ sv v):
 SV.denL P ρ cs v.cells.toList/\∀u∈v.cells.toList,u.oneCell'=true:=by
 have one:∀(sv:SV),SV.den P ρ sv v->(∀vs,v≠.agg vs)->(∀vs,v≠.tuple vs)->SV.denL P ρ [sv] v.cells.toList/\∀u∈v.cells.toList,u.oneCell'=true:=by
  intro sv L G H;have e:v.cells= #[v]:=by cases v<;>simp_all [Value.cells]
  rw[e];refine⟨by simp only[SV.denL];exact⟨v,[],rfl,L,rfl⟩,fun u I=> ?_⟩;simp at I;subst I;cases u<;>simp_all [Value.oneCell']
 unfold cells at h
 split at h
 .cases h
 .cases h
 .cases h
 .simp at h;subst h;simp only[SV.den] at c;obtain⟨vs,rfl,G,H⟩:=c;exact⟨G,H⟩
 .rename_i t d;simp at h;subst h;simp only[SV.den] at c;exact jhS t d _ (by simpa using c.2.1) (t.rd_congr _ _ _ (fun i _=>by simp) c.2.2)
 .cases h
 .cases h
 .split at h
  .rename_i j;simp at h;subst h;obtain⟨p,l⟩:=wT r j;have a:=c;simp only[SV.den] at a;obtain⟨b,C,_,rfl⟩:=a p l;exact one _ c (by simp) (by simp)
  .cases h
 .split at h
  .rename_i j;simp at h;subst h;obtain⟨p,l⟩:=wT r j;have a:=c;simp only[SV.den] at a;have:=a p l;cases p with
   |none=>obtain⟨rfl,_⟩:=this;exact one _ c (by simp) (by simp)
   |some q=>obtain⟨rfl,_⟩:=this;exact one _ c (by simp) (by simp)
  .cases h
 .split at h
  .rename_i j;simp at h;subst h;obtain⟨p,l⟩:=wT r j;have a:=c;simp only[SV.den] at a;have:=a p l;cases p with
   |none=>obtain⟨rfl,_⟩:=this;exact one _ c (by simp) (by simp)
   |some q=>obtain⟨_,_,rfl,_⟩:=this;exact one _ c (by simp) (by simp)
  .cases h
 .split at h
  .rename_i j;simp at h;subst h;obtain⟨p,l⟩:=wT r j;have a:=c;simp only[SV.den] at a;obtain⟨_,_,_,_,rfl⟩:=a p l;exact one _ c (by simp) (by simp)
  .cases h
 .split at h
  .rename_i j;simp at h;subst h;obtain⟨p,l⟩:=wT r j;have a:=c;simp only[SV.den] at a;obtain⟨_,_,_,rfl⟩:=a p l;exact one _ c (by simp) (by simp)
  .cases h
 .split at h
  .rename_i j;simp at h;subst h;obtain⟨p,l⟩:=wT r j;have a:=c;simp only[SV.den] at a;obtain⟨_,_,_,rfl⟩:=a p l;exact one _ c (by simp) (by simp)
  .cases h
 .split at h
  .rename_i j;simp at h;subst h;obtain⟨p,l⟩:=wT r j;have a:=c;simp only[SV.den] at a;obtain⟨_,_,_,u,⟨_,_,J,_⟩,z⟩:=a p l
   split at z
   .subst z;subst J;exact one _ c (by simp) (by simp)
   .obtain⟨_,rfl,_⟩:=z;exact one _ c (by simp) (by simp)
  .cases h
 .simp at h;subst h;cases sv with
  |ep t d=>have a:=c;simp only[SV.den] at a;obtain⟨_,_,_,rfl,_⟩:=a;exact one _ c (by simp) (by simp)
  |fn ps rs pre F=>have a:=c;simp only[SV.den] at a;obtain⟨_,_,rfl,_⟩:=a;exact one _ c (by simp) (by simp)
  |fnp ps rs pre F=>have a:=c;simp only[SV.den] at a;obtain⟨_,_,rfl,_⟩:=a;exact one _ c (by simp) (by simp)
  |clo f caps=>have a:=c;simp only[SV.den] at a;obtain⟨_,rfl,_⟩:=a;exact one _ c (by simp) (by simp)
  |lit u=>
   have a:=c;simp only[SV.den] at a;subst a;exact one _ c (fun vs e=>by subst e;simp_all) (fun vs e=>by subst e;simp_all)
  |any=>simp_all
  |fcl t d=>simp_all;exact absurd HEq.rfl (‹∀(g:Ty) (m:List g.Data),t=g->¬HEq d m› t d rfl)
  |dat t d=>simp_all;exact absurd HEq.rfl (‹∀(g:Ty) (m:g.Data),t=g->¬HEq d m› t d rfl)
  |bp o k=>simp_all
  |own o t=>simp_all
  |osl o t lo n=>simp_all;exact absurd rfl (‹∀(s:Nat) (g:Ty) (x E:Nat),o=s->t=g->lo=x->¬n=E› o t lo n rfl rfl rfl)
  |rp o t i k=>simp_all;exact absurd rfl (‹∀(s:Nat) (g:Ty) (A D:Nat),o=s->t=g->i=A->¬k=D› o t i k rfl rfl rfl)
  |mp o=>simp_all
  |ip o=>simp_all
  |fe q o T st ps rs pre K=>rename_i y;exact(y _ _ _ _ _ _ _ _ rfl).elim
  |agg cs=>simp_all
  |tup cs=>simp_all
theorem wu {ti:TI} (f:ti.ok P) {b off:Nat} {vs:Array Value} {T:Nat} {h:Nat×Nat} (g:w.heap[b]? =some (.cells vs T h)):
 (ti.agg=true->off+ti.size<=vs.size->(loadVar ti.id ⟨b,off,none⟩).run P w= .ok (.agg ((vs.toList.drop off).take ti.size).toArray) w)/\
 (ti.agg=false->∀v,vs[off]? =some v->(loadVar ti.id ⟨b,off,none⟩).run P w= .ok v w):=by
 obtain⟨i,z,_,_,_,d,_⟩:=qo f;have e:=jpK f;refine⟨fun c m=> ?_,fun c v l=> ?_⟩
 .have k:((vs.toList.drop off).take ti.size).length=ti.size:=(by simp;omega);have:=run_loadCells_list (P:=P) w ⟨b,off,none⟩ ((vs.toList.drop off).take ti.size) (fun j v a=>by
   rw[qz,jk5 g];rw[jIg] at a
   split at a
   .simpa using a
   .cases a)
  rw[k] at this;simp only[loadVar,Sem.run_bind,e,c,Result.andThen_ok,if_true,d,this];rfl
 .have:w.cell? ⟨b,off,none⟩=some v:=(by rw[jk5 g];exact l);simp only[loadVar,Sem.run_bind,e,c,Result.andThen_ok];simp[load,Sem.run,this]
end
end Go.X
namespace Go.X
open Go.RowKit (Below)
section
variable {P:Program} {B:zV} {C:Ctx} {σ:St} {ρ:Env} {w:World} {o:Oper} {ev:Operand->Value} {out:Out}
def jgC (obj:Nat->Option Ob) (d:Nat) (x:Option Ob):Nat->Option Ob:=fun o=>if o=d then x else obj o
theorem jiL {w:World} {o:Nat} {b g:Nat} {x:Ob} (c:zq P ρ w o (some (b,g)) x):b<w.heap.size:=by
 cases x with
 |box T fz cs=>simp only[zq] at c;obtain⟨e,C',f,a,d,_⟩:=c;simp at a;rw[a.1];exact(jHc.1 d).1
 |row E t fz nl l=>simp only[zq] at c;obtain⟨_,_,_,f,d,_⟩:=c;exact(jHc.1 d).1
 |map fz kt vt l=>simp only[zq] at c;obtain⟨e,C',es,clock,a,d,_⟩:=c;simp at a;rw[a.1];exact(jHc.1 d).1
 |iter kt vt left cur=>simp only[zq] at c;obtain⟨e,C',y,a,d,_⟩:=c;simp at a;rw[a.1];exact(jHc.1 d).1
 |mape kt vt l k s=>simp only[zq] at c;obtain⟨e,C',es,clock,a,d,_⟩:=c;simp at a;rw[a.1];exact(jHc.1 d).1
theorem jn5 {obj:Nat->Option Ob} (f:Sat P B ρ obj w) {d:Nat} (O:obj d=none) (Q:kN obj d) (y:Obj) (D len:Nat) (x:Ob)
 (R:∀a:Env,a.H=ρ.H->a.len d=len->ρ.le a [d]->zq P a (w.alloc y) d (some (w.heap.size,D)) x):
 ∃a,Sat P B a (jgC obj d (some x)) (w.alloc y)/\ρ.le a [d]/\a.blk d=some (some (w.heap.size,D))/\a.len d=len/\a.H=ρ.H:=by
 have M:=f.dead d O;have L:ρ.H w.heap.size=none:=by
  cases N:ρ.H w.heap.size with
  |none=>rfl
  |some c=>have:=f.good.lt N;omega
 let a:Env:={H:=ρ.H,blk:=fun o=>if o=d then some (some (w.heap.size,D)) else ρ.blk o,len:=fun o=>if o=d then len else ρ.len o}
 have q:ρ.le a [d]:=⟨fun _ _ h=>h,fun o p l r=>by simpa[a,show o≠d by simpa using l] using r,fun o l=>by simp[a,show o≠d by simpa using l]⟩;have i:∀b,b<w.heap.size->(w.alloc y).heap[b]? =w.heap[b]? :=fun b s=>heap_alloc_old w _ b s
 refine⟨a,⟨f.os,f.tape,f.output,f.drawn,by simp;have:=f.size;omega,?_,f.oldH,?_,?_,?_,?_,?_⟩,q,by simp[a],by simp[a],rfl⟩
 .refine⟨fun b c s=> ?_,f.good.2⟩;rw[i b (f.good.lt s)];exact f.good.1 b c s
 .intro b s E;have:=f.size;rw[i b (by omega)];exact f.old b s E
 .intro o I g;unfold jgC at g;by_cases e:o=d
  .subst e;rw[if_pos rfl] at g;simp at g;subst g;exact⟨_,by simp[a],R a rfl (by simp[a]) q⟩
  .rw[if_neg e] at g;obtain⟨p,r,z⟩:=f.obs o I g;refine⟨p,by simp[a,e,r],jU q (by simpa using e) (fun T fz cs F o' u=> ?_) (fun b C G=>⟨rfl,?_⟩) z⟩
   .simp at u;subst u;exact Q o T fz cs (by rw[g,F])
   .subst G;refine i b ?_;exact jiL z
 .intro o l;unfold jgC at l;by_cases e:o=d
  .rw[if_pos e] at l;cases l
  .rw[if_neg e] at l;simp[a,e,f.dead o l]
 .intro o o' b A K j t;have lt:∀k J,ρ.blk k=some (some (b,J))->b<w.heap.size:=by
   intro k J hk;cases m:obj k with
   |none=>rw[f.dead k m] at hk;cases hk
   |some I=>
    obtain⟨p,r,z⟩:=f.obs k I m;rw[hk] at r;simp at r;subst r;exact jiL z
  by_cases n:o=d<;>by_cases v:o'=d
  .rw[n,v]
  .simp[a,n] at j;simp[a,v] at t;have:=lt _ _ t;omega
  .simp[a,n] at j;simp[a,v] at t;have:=lt _ _ j;omega
  .simp[a,n] at j;simp[a,v] at t;exact f.inj o o' b A K j t
 .intro o b A j;by_cases n:o=d
  .simp[a,n] at j;have:=f.size;exact .inl (by omega)
  .simp[a,n] at j;exact f.own o b A j
theorem jy9 {obj:Nat->Option Ob} (c:Sat P B ρ obj w) {d:Nat} (e:obj d=none) (f:kN obj d) (vs:Array Value) (T:Nat) (b len:Nat) (x:Ob)
 (g:∀a:Env,a.H=ρ.H->a.len d=len->ρ.le a [d]->zq P a (w.alloc (.cells vs T)) d (some (w.heap.size,b)) x):
 ∃a,Sat P B a (jgC obj d (some x)) (w.alloc (.cells vs T))/\ρ.le a [d]/\a.blk d=some (some (w.heap.size,b))/\a.len d=len/\a.H=ρ.H:=
 jn5 c e f (.cells vs T) b len x g
theorem vV (d:Sat P B ρ σ.obj w) {o b e:Nat} (h:ρ.blk o=some (some (b,e))):b<w.heap.size/\True:=by
 cases a:σ.obj o with
 |none=>rw[d.dead o a] at h;cases h
 |some g=>
  obtain⟨p,c,f⟩:=d.obs o g a;rw[h] at c;simp at c;subst c;exact⟨jiL f,trivial⟩
theorem jb8 (a:Sat P B ρ σ.obj w) {d b j:Nat} (q:ρ.blk d=some (some (b,j))) (D:ρ.H b=none) (x:Ob) {w':World}
 (s:w'.os=w.os/\w'.tape=w.tape/\w'.output=w.output/\w.drawn<=w'.drawn/\w'.heap.size=w.heap.size/\∀k,k≠b->w'.heap[k]? =w.heap[k]?)
 (F:zq P ρ w' d (some (b,j)) x):Sat P B ρ (jgC σ.obj d (some x)) w':=by
 obtain⟨y,z,A,l,C,m⟩:=s;refine⟨y.trans a.os,z.trans a.tape,A.trans a.output,jHi a.drawn l,by rw[C];exact a.size,?_,a.oldH,?_,?_,?_,a.inj,a.own⟩
 .refine⟨fun k c hk=> ?_,a.good.2⟩;have:k≠b:=fun e=>by subst e;rw[D] at hk;cases hk
  rw[m k this];exact a.good.1 k c hk
 .intro k hk g;have:k≠b:=fun e=>by
   subst e;rcases a.own d k j q with u|u
   .omega
   .exact g u
  rw[m k this];exact a.old k hk g
 .intro o G f;unfold jgC at f;by_cases e:o=d
  .subst e;rw[if_pos rfl] at f;simp at f;subst f;exact⟨_,q,F⟩
  .rw[if_neg e] at f;obtain⟨p,i,E⟩:=a.obs o G f;refine⟨p,i,jU (Env.le.refl ρ []) (by simp) (fun _ _ _ _ o' n=>by simp at n) (fun t C' r=>⟨rfl,?_⟩) E⟩;subst r;exact m t fun v=>e (a.inj o d t C' j i (v▸q))
 .intro o h;unfold jgC at h;by_cases e:o=d
  .rw[if_pos e] at h;cases h
  .rw[if_neg e] at h;exact a.dead o h
theorem ww (σ:St) (d:Nat) (x:Option Ob):({σ with ob:=(d,x)::σ.ob}:St).obj=jgC σ.obj d x:=funext fun o=>by
 rw[wS];rfl
theorem jw3 {E dst:Nat} (s:C.ok P) (g:o.op= .alloc E) (h:jC C σ dst (.alloc E)=some out) (m:Sat P B ρ σ.obj w)
 (x:σ.obj dst=none) (A:kN σ.obj dst):jI P o ev w (jF P B ρ σ out):=by
 simp only[jC] at h
 split at h
 .rename_i ti k;simp at h;subst h;obtain⟨rfl,d⟩:=s.ti _ _ k;obtain⟨i,z,_,_,_,_,F,f,_⟩:=qo d;have e:(execOp ev o).run P w= .ok (.value (.pointer (some ⟨w.heap.size,0,none⟩))) (w.alloc (.cells z.cells ti.id)):=by
   simp only[execOp,g,Instr.alloc,Sem.run_bind,F,Result.andThen_ok];simp[newVar,newRow]
  refine zo e ?_;obtain⟨b,n,q,r,_,_⟩:=jy9 m x A z.cells ti.id 0 0 (.box ti.id false (ti.zero.map jlJ)) (fun b t _ y=>by
   refine⟨w.heap.size,0,z.cells,rfl,heap_alloc_new w _,?_,fun v D=>d.one v (by rw[<-f];exact D),?_⟩
   .rw[f];have:∀(l:List Value),SV.denL P b (l.map jlJ) l:=by
     intro l
     induction l with
     |nil=>simp[SV.denL]
     |cons a l G=>simp only[jH8,SV.denL];exact⟨a,l,rfl,jkX a,G⟩
    exact this _
   .simp only[fzH,t];cases u:ρ.H w.heap.size with
    |none=>rfl
    |some c=>have:=m.good.lt u;omega)
  refine⟨b,?_,q,?_,trivial⟩
  .show Sat P B b ({σ with ob:=(dst,_)::(qG σ []++σ.ob)}:St).obj _;simp only[qG,jHz];rw[ww];exact n
  .simp only[SV.den];intro p j;rw[r] at j;simp at j;subst j;exact⟨_,_,rfl,rfl⟩
 .cases h
theorem jCl {E dst:Nat} {x:Operand} (_:C.ok P) (j:o.op= .box E x) (h:jC C σ dst (.box E x)=some out) (f:Sat P B ρ σ.obj w) (g:SV.den P ρ (jQ σ x) (ev x))
 (v:σ.obj dst=none) (y:kN σ.obj dst) (a:∀cs,cells σ (jQ σ x)=some cs->SV.refs.refsL dst cs=false):jI P o ev w (jF P B ρ σ out):=by
 simp only[jC] at h
 split at h
 .rename_i ti z
  split at h
  .rename_i cs d;simp at h;subst h;obtain⟨m,n⟩:=jeU f d g;have e:(execOp ev o).run P w= .ok (.value (.pointer (some ⟨w.heap.size,0,none⟩))) (w.alloc (.cells (ev x).cells E)):=by
    simp[execOp,j,Instr.box,newVar,newRow]
   refine zo e ?_;obtain⟨b,q,r,s,_,_⟩:=jy9 f v y (ev x).cells E 0 0 (.box E false cs) (fun b t _ i=>by
    refine⟨w.heap.size,0,_,rfl,heap_alloc_new w _,SV.denL_mono i cs _ (fun o l=>by simp at l;subst l;exact a cs d) m,n,?_⟩;simp only[fzH,t];cases u:ρ.H w.heap.size with
    |none=>rfl
    |some c=>have:=f.good.lt u;omega)
   refine⟨b,?_,r,?_,trivial⟩
   .show Sat P B b ({σ with ob:=(dst,_)::(qG σ []++σ.ob)}:St).obj _;simp only[qG,jHz];rw[ww];exact q
   .simp only[SV.den];intro p k;rw[s] at k;simp at k;subst k;exact⟨_,_,rfl,rfl⟩
  .cases h
 .cases h
theorem jb2 {vs:Array Value} {off:Nat} {cs:List SV} (c:SV.denL P ρ cs vs.toList) {v:SV} (h:cs[off]? =some v):∃u,vs[off]? =some u/\SV.den P ρ v u:=by
 obtain⟨u,a,b⟩:=ju6 cs _ c off v h;exact⟨u,by simpa using a,b⟩
theorem jtK {t:Ty} {x:Option t.Data} {v:Value} (h:SV.den P ρ (.dat (.ptr t) x) v) (f:x.isSome=true):SV.den P ρ (.ep t (jR t.dflt x)) v:=by
 cases x with
 |none=>cases f
 |some d=>
  simp only[SV.den] at h⊢;obtain⟨p,a,b,off,blk,rfl,c,e⟩:=zp (t:= .ptr t) rfl h;simp at a;subst a;exact⟨b,off,blk,rfl,c,e⟩
theorem jAe {U dst:Nat} {a:Operand} (hC:C.ok P) (hop:o.op= .load U a) (h:jC C σ dst (.load U a)=some out) (L:Sat P B ρ σ.obj w) (k:SV.den P ρ (jQ σ a) (ev a)) (hvc:k8 out.vc):
 jI P o ev w (jF P B ρ σ out):=by
 simp only[jC] at h
 split at h
 case h_2=>cases h
 rename_i ti hti;obtain⟨rfl,r⟩:=hC.ti _ _ hti;have q:∀(ad:Addr) (v:Value) (sv:SV),ev a= .pointer (some ad)->(loadVar ti.id ad).run P w= .ok v w->SV.den P ρ sv v->jI P o ev w (jF P B ρ σ (.pure sv)):=by
  intro ad v sv e hr hd;refine zo (v:=v) (w':=w) ?_ (z7 L hd trivial);simp[execOp,hop,Instr.loadAt,Instr.sureAddr,e,hr]
 have stays:∀(t:Ty) (d:t.Data) (x:ti.ty.Data),SV.den P ρ (.ep t d) (ev a)->kr ti.ty=true->zz t ti.ty d=some x->jI P o ev w (jF P B ρ σ (.pure (.dat ti.ty x))):=by
  intro t d x k hk G;obtain⟨e,rfl⟩:=jm G;subst e;simp only[SV.den] at k;obtain⟨b,off,c,A,J,R⟩:=k;obtain⟨T,fr,I⟩:=L.good.cells J;obtain⟨Q,ks⟩:=r.known hk;have m:=wu (off:=off) r I;cases n:ti.agg with
  |true=>
   have O:off+ti.size<=c.size:=by
    have Y:=(r.pos hk).1;obtain⟨v,e,_⟩:=yn _ _ _ R (ti.size-1) (by omega);have:=(jHc.1 e).1;omega
   refine q _ _ _ A (m.1 n O) ?_;simp only[SV.den,qw];refine⟨by simp[kU,Q,n],by simp[Value.cells,ks];omega,ti.ty.rd_congr _ _ _ (fun i hi=> ?_) R⟩;simp only[Value.cells];simp[show i<ti.size by omega]
  |false=>
   obtain⟨v,e,_⟩:=yn _ _ _ R 0 (by have:=(r.pos hk).1;omega);simp only[jIh] at e;refine q _ _ _ A (m.2 n v e) ?_;simp only[SV.den,qw];exact kG (by rw[Q,n]) (vk (f:=fun j=>c[off+j]?) (by rw[Q,n]) (by simpa using e) R)
 split at h
 .--a box
  rename_i ob off z;rw[z] at k
  split at h
  .rename_i T fz cs D;obtain⟨p,S,b,Cp,vs,rfl,I,M,h1,_⟩:=L.obs ob _ D;simp only[SV.den] at k;obtain⟨b',C',A,J⟩:=k _ S;simp at A;obtain⟨rfl,rfl⟩:=A;have m:=wu (off:=off) r I;have X:=zO _ _ M
   split at h
   .rename_i ha
    split at h
    .rename_i hle;simp at h;subst h;have W:off+ti.size<=cs.length:=jHg hle;refine q _ _ _ J (m.1 ha (by rw[<-jHA,<-X];exact W)) ?_;simp only[SV.den];exact⟨_,rfl,by simpa using jgn ti.size _ _ (jaw off _ _ M),fun u hu=>h1 u (jIq (jIr (by simpa using hu)))⟩
    .cases h
   .rename_i ha
    split at h
    .rename_i v hv;simp at h;subst h;obtain⟨u,hu,hd⟩:=jb2 M hv;exact q _ _ _ J (m.2 ha u hu) hd
    .cases h
  .cases h
 .--memory that stays
  rename_i t d z;rw[z] at k
  split at h
  .rename_i x hk G;simp at h;subst h;exact stays t d x k hk G
  .cases h
 .--an element of a row of the call's own
  rename_i ob u i off z;rw[z] at k
  split at h
  .rename_i E t fz nl l D
   split at h
   .rename_i l' G;obtain⟨e,rfl⟩:=jm G;cases e;simp only[qw] at h
    split at h
    .rename_i x hk Z;simp at h;subst h;obtain⟨p,S,k1,k0,k2⟩:=L.obs ob _ D;simp only[SV.den] at k;obtain⟨hi,b,Cp,rfl,A⟩:=k p S;obtain⟨_,vs,I,hvs,hlC,_,hr,_⟩:=k2;obtain⟨Q,ks⟩:=r.known hk;have V:l[i]? =some (@nth _ ⟨u.dflt⟩ l i):=by
      unfold nth;rw[jHG,jG8 (by omega)];simp
     have hrd:=jb1 u off ti.ty _ x _ Z (hr i _ V);have m:=wu (off:=i*u.size+off) r I;have s:ti.ty.rd ρ.H (fun j=>vs[i*u.size+off+j]?) x:=ti.ty.rd_congr _ _ _ (fun j _=>by simp only[jIa]) hrd;cases n:ti.agg with
     |true=>
      have O:i*u.size+off+ti.size<=vs.size:=by
       have Y:=(r.pos hk).1;obtain⟨v,e,_⟩:=yn _ _ _ s (ti.size-1) (by omega);have:=(jHc.1 e).1;omega
      refine q _ _ _ A (m.1 n O) ?_;simp only[SV.den];refine⟨by simp[kU,Q,n],by simp[Value.cells,ks];omega,ti.ty.rd_congr _ _ _ (fun i hi=> ?_) s⟩;simp only[Value.cells];simp[show i<ti.size by omega]
     |false=>
      obtain⟨v,e,_⟩:=yn _ _ _ s 0 (by have:=(r.pos hk).1;omega);simp only[jIh] at e;refine q _ _ _ A (m.2 n v e) ?_;simp only[SV.den];exact kG (by rw[Q,n]) (vk (f:=fun j=>vs[i*u.size+off+j]?) (by rw[Q,n]) (by simpa using e) s)
    .cases h
   .cases h
  .cases h
 .--a listed package-level variable
  rename_i v z;rw[z] at k
  split at h
  case h_2=>cases h
  rename_i x D
  split at h
  .rename_i y hk G;simp at h;subst h;unfold jDe at D
   split at D
   .rename_i g;obtain⟨c,h1,h2⟩:=L.good.2 g x D;refine stays x.1 x.2 y ?_ hk G;simp only[SV.den] at k⊢;exact⟨g,0,c,k,h1,by simpa using h2⟩
   .cases D
  .cases h
 .--a pointer that is data
  rename_i t x z;rw[z] at k
  split at h
  .rename_i y hk G;simp at h;subst h;exact stays t _ y (jtK k hvc.1) hk G
  .cases h
 .--a variable that holds a function value
  rename_i ob T st ps rs pre K z;rw[z] at k
  split at h
  .rename_i n hl;simp at h;subst h;simp only[SV.den] at k;have D:∃x,σ.obj ob=some x:=by
    unfold jkh at hl
    split at hl
    .exact⟨_,by assumption⟩
    .cases hl
   obtain⟨x,D⟩:=D;obtain⟨p,S,_⟩:=L.obs ob _ D;obtain⟨b,Cp,e,u,hu,b',A,J⟩:=k p S;obtain⟨T',fr,I⟩:=L.good.cells J;have m:=wu (off:=0) r I;refine q _ _ _ A (m.2 n u (by simp)) ?_;simp only[SV.den];intro p' N;rw[S] at N;simp at N;subst N;exact⟨b,Cp,e,u,hu,rfl⟩
  .cases h
 .--a function value in memory that stays
  rename_i ps rs pre F z;rw[z] at k
  split at h
  .rename_i n;simp at h;subst h;simp only[SV.den] at k;obtain⟨b,u,A,J,R⟩:=k;obtain⟨T',fr,I⟩:=L.good.cells J;have m:=wu (off:=0) r I;refine q _ _ _ A (m.2 n u (by simp)) ?_;simp only[SV.den];exact R
  .cases h
 .cases h
end
end Go.X
namespace Go.X
open Go.RowKit (Below)
section
variable {P:Program} {B:zV} {C:Ctx} {σ:St} {ρ:Env} {w:World} {o:Oper} {ev:Operand->Value} {out:Out}
theorem wt {sv:SV} {i:Int} (h:asInt sv=some i) {v:Value} (a:SV.den P ρ sv v):v= .int .i64 i:=by
 unfold asInt at h
 split at h
 .simp at h;subst h;simp only[SV.den] at a;exact zF a
 .cases h
theorem jm1 {sv:SV} {i:Int} (h:jvf sv=some i) {v:Value} (a:SV.den P ρ sv v):∃k,v= .int k i:=by
 unfold jvf at h
 split at h
 .simp at h;subst h;simp only[SV.den] at a;exact⟨_,wO a⟩
 .cases h
theorem jk (b:Sat P B ρ σ.obj w) {sv:SV} {vc fact:List Prop} {v:Value} (a:(execOp ev o).run P w= .ok (.value v) w) (c:SV.den P ρ sv v) (d:k8 fact):
 jI P o ev w (jF P B ρ σ ⟨vc,fact,sv,[],[],[]⟩):=zo a (z7 b c d)
theorem jaV {ti c:TI} (n:ti.ok P) (u:c.ok P) {f:Nat} {off h:Nat} (j:ti.fields[f]? =some (off,h)) (l:c.id=h) (a:Nat.beq c.size 0=false) (t:ti.agg=true) (v:ti.arr=false) (b k:Nat):
 (Instr.fieldAt ti.id (.pointer (some ⟨b,k,none⟩)) f).run P w= .ok (.pointer (some ⟨b,k+off,none⟩)) w:=by
 obtain⟨fs,r,_,s⟩:=n.str t v;obtain⟨fl,o,p,q⟩:=s f (off,h) j;obtain⟨i,z,_,_,_,x,_⟩:=qo u;have m:¬c.size=0:=fun e=>by rw[e] at a;simp at a
 have g:fl.type=c.id:=(by rw[q,l]);have d:fl.offset=off:=p;simp only[Instr.fieldAt,Sem.run_bind,run_underlying r,Result.andThen_ok,o,Instr.sureAddr,Sem.run_pure,fieldPlace,g,x,m,if_false,d,qz]
theorem jwO {ti:TI} (_:ti.ok P) {f:Nat} {p:Nat×Nat} (a:ti.fields[f]? =some p) (b:ti.agg=false->ti.fields=[]):ti.agg=true:=by
 cases h:ti.agg with
 |true=>rfl
 |false=>rw[b h] at a;simp at a
theorem jlZ {U dst f:Nat} {x:Operand} (H:C.ok P) (D:o.op= .fieldAddr U x f) (h:jC C σ dst (.fieldAddr U x f)=some out) (G:Sat P B ρ σ.obj w) (g:SV.den P ρ (jQ σ x) (ev x)) (Q:k8 out.vc):
 jI P o ev w (jF P B ρ σ out):=by
 simp only[jC] at h
 split at h
 case h_2=>cases h
 rename_i ti O;obtain⟨rfl,u⟩:=H.ti _ _ O
 split at h
 case h_2=>cases h
 rename_i off V m;obtain⟨m,s⟩:=jqI m;have J:=jwO u m u.flf
 split at h
 .rename_i ob k F;rw[F] at g
  split at h
  .rename_i S a N;obtain⟨n,E⟩:=H.ti _ _ a
   split at h
   .cases h
   .rename_i r;simp at h;subst h;obtain⟨p,I⟩:=wT G N;have l:=g;simp only[SV.den] at l;obtain⟨b,K,rfl,e⟩:=l p I;refine jk G (v:= .pointer (some ⟨b,k+off,none⟩)) ?_ ?_ trivial
    .simp only[execOp,D,e,Sem.run_bind,jaV u E m n r J s,Result.andThen_ok,Sem.run_pure]
    .simp only[SV.den];intro T q;rw[I] at q;simp at q;subst q;exact⟨b,K,rfl,rfl⟩
  .cases h
 .rename_i ob t i k F;rw[F] at g
  split at h
  .rename_i S a N;obtain⟨n,E⟩:=H.ti _ _ a
   split at h
   .cases h
   .rename_i r;simp at h;subst h;obtain⟨p,I⟩:=wT G N;have l:=g;simp only[SV.den] at l;obtain⟨hi,b,K,rfl,e⟩:=l p I;refine jk G (v:= .pointer (some ⟨b,i*t.size+k+off,none⟩)) ?_ ?_ trivial
    .simp only[execOp,D,e,Sem.run_bind,jaV u E m n r J s,Result.andThen_ok,Sem.run_pure]
    .simp only[SV.den];intro T q;rw[I] at q;simp at q;subst q;exact⟨hi,b,K,rfl,by rw[jIa]⟩
  .cases h
 .rename_i t d F;rw[F] at g
  split at h
  .rename_i S a;unfold Ctx.known at a
   split at a
   .rename_i A z
    split at a
    .rename_i hk;simp at a;subst a;obtain⟨n,E⟩:=H.ti _ _ z
     split at h
     .cases h
     .rename_i r
      split at h
      .rename_i y R;simp at h;subst h;simp only[SV.den] at g;obtain⟨b,k,c,e,L,M⟩:=g;refine jk G (v:= .pointer (some ⟨b,k+off,none⟩)) ?_ ?_ trivial
       .simp only[execOp,D,e,Sem.run_bind,jaV u E m n r J s,Result.andThen_ok,Sem.run_pure]
       .simp only[SV.den];refine⟨b,k+off,c,rfl,L,?_⟩;exact A.ty.rd_congr _ _ _ (fun j _=>by simp only[jIa]) (jb1 t off A.ty d y _ R M)
      .cases h
    .cases a
   .cases a
  .cases h
 .rename_i t x0 F;rw[F] at g
  split at h
  .rename_i S a;unfold Ctx.known at a
   split at a
   .rename_i A z
    split at a
    .rename_i hk;simp at a;subst a;obtain⟨n,E⟩:=H.ti _ _ z
     split at h
     .cases h
     .rename_i r
      split at h
      .rename_i y R;simp at h;subst h;have g:=jtK g Q.1;simp only[SV.den] at g;obtain⟨b,k,c,e,L,M⟩:=g;refine jk G (v:= .pointer (some ⟨b,k+off,none⟩)) ?_ ?_ trivial
       .simp only[execOp,D,e,Sem.run_bind,jaV u E m n r J s,Result.andThen_ok,Sem.run_pure]
       .simp only[SV.den];refine⟨b,k+off,c,rfl,L,?_⟩;exact A.ty.rd_congr _ _ _ (fun j _=>by simp only[jIa]) (jb1 t off A.ty _ y _ R M)
      .cases h
    .cases a
   .cases a
  .cases h
 .cases h
theorem zI {U:Nat} {ti te:TI} (j:C.ok P) (h:C.slice U=some (ti,te)):
 ti.id=U/\te.id=ti.elem/\ti.ok P/\te.ok P/\P.underlying U=some (.slice ti.elem)/\te.ty.agg=te.agg/\te.ty.size=te.size/\0<te.size:=by
 unfold Ctx.slice at h
 split at h
 .rename_i p f
  split at h
  .rename_i a
   split at h
   .rename_i o e
    split at h
    .rename_i hk;simp at h;obtain⟨rfl,rfl⟩:=h;obtain⟨g,b⟩:=j.ti _ _ f;obtain⟨k,c⟩:=j.ti _ _ e;obtain⟨d,i,_,_,_,l,_⟩:=b.flat (b.slf a);rw[l a,g] at i;obtain⟨m,n⟩:=c.known hk;exact⟨g,k,b,c,i,m,n,(c.pos hk).1⟩
    .cases h
   .cases h
  .cases h
 .cases h
theorem jc5 {U:Nat} {ti:TI} (b:C.ok P) (h:C.known U=some ti):C.info U=some ti/\ti.id=U/\ti.ok P/\kr ti.ty=true:=by
 unfold Ctx.known at h
 split at h
 .rename_i t a
  split at h
  .rename_i hk;simp at h;subst h;exact⟨a,(b.ti _ _ a).1,(b.ti _ _ a).2,hk⟩
  .cases h
 .cases h
theorem jqZ {U:Nat} {x H:Operand} {i:Int} (A:C.ok P) (r:o.op= .indexAddr U x H) (h:jtW C U (jQ σ x) i=some out) (Q:Sat P B ρ σ.obj w)
 (a:SV.den P ρ (jQ σ x) (ev x)) (m:ev H= .int .i64 i) (l:k8 out.vc):jI P o ev w (jF P B ρ σ out):=by
 unfold jtW at h
 split at h
 case h_2=>cases h
 rename_i ti z;obtain⟨_,p,q,S⟩:=jc5 A z
 split at h
 case h_2=>cases h
 rename_i off Z te V f u;obtain⟨_,D,F,E⟩:=jc5 A u;obtain⟨_,n,ie,K,L,M,N,_,_,O⟩:=q.arrk V;have G:=O _ _ f;simp at G;obtain⟨rfl,rfl⟩:=G
 split at h
 case h_2=>cases h
 rename_i t d W
 split at h
 case h_2=>cases h
 rename_i Y R
 split at h
 case h_2=>cases h
 rename_i y X;simp at h;subst h;obtain⟨e,rfl⟩:=jm R;subst e;rw[W] at a;simp only[SV.den] at a;obtain⟨b,k,c,e,I,J⟩:=a;simp only[k8] at l;have T:i.toNat<n:=(by rw[<-N];exact(jG6.1 f).1);have g:i<n:=(by omega);have s:∀w,(sizeOf ti.elem).run P w= .ok 1 w:=fun w=>by simp[sizeOf,typeInfo,L,M]
 refine jk Q (v:= .pointer (some ⟨b,k+i.toNat,none⟩)) ?_ ?_ trivial
 .simp only[execOp,r,e,m,Instr.indexAt,asIntOf,Instr.sureAddr,Sem.run_bind,Sem.run_pure,Result.andThen_ok,run_underlying (p▸K)];simp[l.1,g,s,qz]
 .simp only[SV.den];refine⟨b,k+i.toNat,c,rfl,I,?_⟩;exact te.ty.rd_congr _ _ _ (fun j _=>by simp only[jIa]) (jb1 _ _ te.ty _ y _ X J)
theorem jdQ {τ:St} (f:Sat P B ρ τ.obj w) {fz:List Nat} (e:Frz σ τ fz) {t:Ty} (g:t.agg=false):∀(cs:List SV) (l:List t.Data) (vs:List Value),jgx σ t cs=some l->SV.denL P ρ cs vs->l.length=vs.length/\∀(i:Nat) x,l[i]? =some x->t.rd ρ.H (fun _=>vs[i]?) x
 |[],l,vs,h,a=>by
  simp[jgx] at h;subst h
  simp[SV.denL] at a;subst a
  exact⟨rfl,fun i x b=>by simp at b⟩
 |c::cs,l,vs,h,a=>by
  simp only[jgx] at h
  split at h
  case h_2=>cases h
  rename_i d l' p q
  simp at h;subst h
  simp only[SV.denL] at a
  obtain⟨v,r,rfl,m,n⟩:=a
  obtain⟨j,k⟩:=jdQ f e g cs l' r q n
  refine⟨by simp[j],fun i x b=> ?_⟩
  cases i with
  |zero=>simp at b;subst b;simpa using jhu f e g p (fun o s=>by simp at s) m
  |succ i=>simpa using k i x (by simpa using b)
theorem jwV {U:Nat} {x:Operand} {lo hi:Option Operand} (O:C.ok P) (G:o.op= .slice U x lo hi none) (h:jDM C σ U (jQ σ x) lo hi=some out) (hS:Sat P B ρ σ.obj w)
 (e:SV.den P ρ (jQ σ x) (ev x)):jI P o ev w (jF P B ρ σ out):=by
 unfold jDM at h
 split at h
 case h_2=>cases h
 rename_i ti ob K hx;obtain⟨_,A,F,hkn⟩:=jc5 O K
 split at h
 case h_2=>cases h
 rename_i te T S cs hr J E;obtain⟨_,k,c,m⟩:=jc5 O J;obtain⟨_,n,ie,X,M,N,h4,t,Q,h5⟩:=F.arrk hr
 split at h
 case h_2=>cases h
 rename_i l hl D ha;simp at h;subst h;have D:=jG0 D;obtain⟨ρ1,d,q,u,hl1⟩:=jX (σ:=σ) [ob] hS;have r:(σ.frz [ob]).obj ob=some (.box T true cs):=(by rw[kL];simp[E,kB]);obtain⟨p,hp,b,Cp,vs,rfl,hw,f,Y,Z⟩:=d.obs ob _ r;rw[hx] at e;simp only[SV.den] at e;obtain⟨b',C',L,R⟩:=e _ (by rw[<-u];exact hp);simp at L;obtain⟨rfl,rfl⟩:=L;have g:=zO _ _ f;obtain⟨k1,k2⟩:=jdQ d (w8 σ _) ha cs l _ hl f;have a:l.length=n:=(by rw[k1,<-g,D];exact t);have H:∀w,(sizeOf ti.elem).run P w= .ok 1 w:=fun w=>by simp[sizeOf,typeInfo,M,N]
 have I:te.ty.size=1:=by
  obtain⟨i,z,s,V,_⟩:=c.info;obtain⟨_,W⟩:=c.known m;rw[W,<-V];rw[k] at s;rw[M] at s;simp at s;rw[<-s,N]
 refine zo (v:= .slice (some ⟨b,0,none⟩) n n) (w':=w) ?_ ⟨ρ1,?_,q,?_,trivial⟩
 .simp only[execOp,G,R,Instr.sliceAt,Instr.sureAddr,Instr.sliceBounds,Option.map_none,Sem.run_bind,Sem.run_pure,Result.andThen_ok,run_underlying (A▸X)];simp[H,qz]
 .exact d
 .simp only[SV.den];refine kG rfl ⟨some ⟨b,0,none⟩,n,n,rfl,a.symm,jG5 _,?_,fun h=>by simp at h,fun _=>⟨b,0,vs,rfl,Z,fun i y hy=> ?_⟩⟩
  .rw[a];omega
  .refine te.ty.rd_congr _ _ _ (fun j hj=> ?_) (k2 i y hy);have:j=0:=(by omega);subst this;simp[I]
theorem jlY {U dst:Nat} {x J:Operand} (S:C.ok P) (A:o.op= .indexAddr U x J) (h:jC C σ dst (.indexAddr U x J)=some out) (u:Sat P B ρ σ.obj w)
 (g:SV.den P ρ (jQ σ x) (ev x)) (m:SV.den P ρ (jQ σ J) (ev J)) (f:k8 out.vc):jI P o ev w (jF P B ρ σ out):=by
 simp only[jC] at h
 split at h
 case h_3=>cases h
 case h_2=>
  rename_i i F hi;exact jqZ S A h u g (wt hi m) f
 rename_i ti te i F hi;obtain⟨_,Q,_,z,H,hka,r,T⟩:=zI S F;have m:=wt hi m;obtain⟨_,_,_,_,_,G,_⟩:=qo z;rw[Q] at G;have k:∀(b off n c:Nat),ev x= .slice (some ⟨b,off,none⟩) n c->0<=i->i<n->
  (execOp ev o).run P w= .ok (.value (.pointer (some ⟨b,off+i.toNat*te.size,none⟩))) w:=by
  intro b off n c e h0 h1;simp only[execOp,A,e,m,Instr.indexAt,asIntOf,Sem.run_bind,Sem.run_pure,Result.andThen_ok,run_underlying H];simp[h0,h1,G,qz]
 split at h
 .rename_i t l I;rw[I] at g
  split at h
  .rename_i l' hc;simp at h;subst h;obtain⟨e,rfl⟩:=jm hc;cases e;simp only[qw,k8] at f⊢;have hr:=zp (t:= .slice te.ty) rfl (by simpa[SV.den] using g);obtain⟨a,n,c,s,R,W,X,e6,v⟩:=hr;simp at s;have L:l≠[]:=fun e=>by subst e;simp at f;omega
   obtain⟨b,off,blk,rfl,Y,Z⟩:=v L;have y:i.toNat<l.length:=(by omega);refine jk u (k b off n c s f.1 (by omega)) ?_ trivial;simp only[SV.den];refine⟨b,off+i.toNat*te.size,blk,rfl,Y,?_⟩;have:=Z i.toNat l[i.toNat] (jG8 y);have hn: @nth _ ⟨te.ty.dflt⟩ l i.toNat=l[i.toNat]:=by
    unfold nth;rw[jHG,jG8 y];rfl
   rw[hn,<-r];exact this
  .cases h
 .rename_i ob t I;rw[I] at g
  split at h
  .rename_i E t' fz nl l M;simp at h;subst h;simp only[k8] at f;obtain⟨p,D,k1,k0,k2⟩:=u.obs ob _ M;have d:=g;simp only[SV.den] at d;have d:=d p D;cases p with
   |none=>obtain⟨_,e⟩:=d;omega
   |some q=>
    obtain⟨b,K⟩:=q;obtain⟨s,R⟩:=d;refine jk u (k b 0 _ _ s f.1 (by omega)) ?_ trivial;simp only[SV.den];intro p' j;rw[D] at j;simp at j;subst j;exact⟨by omega,b,K,rfl,by rw[<-r];simp⟩
  .cases h
 .rename_i ob t lo n I;rw[I] at g
  split at h
  .rename_i hl N;simp at h;subst h;simp only[k8] at f
   have O:t=te.ty:=by unfold vK at N;split at N;·assumption
                      .cases N
   subst O;obtain⟨p,D⟩:=wT u hl;have d:=g;simp only[SV.den] at d;have d:=d p D;cases p with
   |none=>obtain⟨_,e⟩:=d;subst e;simp at f;omega
   |some q=>
    obtain⟨b,K⟩:=q;obtain⟨a,V,s,R,W,X,v⟩:=d;have v:=v (.inr (by omega));subst v;refine jk u (k b _ _ _ s f.1 (by omega)) ?_ trivial;simp only[SV.den];intro p' j;rw[D] at j;simp at j;subst j;exact⟨by omega,b,K,rfl,by rw[<-r,jHP];simp⟩
  .cases h
 .split at h
  .simp at h;subst h;exact absurd f.1 id
  .cases h
 .cases h
theorem jwU {U dst:Nat} {x:Operand} {lo hi:Option Operand} (hC:C.ok P) (hop:o.op= .slice U x lo hi none) (h:jC C σ dst (.slice U x lo hi none)=some out) (K:Sat P B ρ σ.obj w)
 (A:∀x,SV.den P ρ (jQ σ x) (ev x)) (g:k8 out.vc):jI P o ev w (jF P B ρ σ out):=by
 simp only[jC] at h
 split at h
 case h_1=>exact jwV hC hop h K (A x)
 rename_i ti te hsl;obtain⟨_,hte,_,hokE,hund,hka,R,hpos⟩:=zI hC hsl;obtain⟨_,_,_,_,_,J,_⟩:=qo hokE;rw[hte] at J
 split at h
 case h_1=>cases h
 rename_i l hl;have F:∀(y:Option Operand) (d i:Int),jtU σ y d=some i->(y=none/\i=d)\/(∃a,y=some a/\ev a= .int .i64 i):=by
  intro y d i z;unfold jtU at z
  split at z
  .simp at z;exact .inl ⟨rfl,z.symm⟩
  .rename_i a;exact .inr ⟨a,rfl,wt z (A a)⟩
 have v:∀(a:Option Addr) (n c:Nat) (k:Int),ev x= .slice a n c->n<=c->((hi=none/\k=n)\/(∃a,hi=some a/\ev a= .int .i64 k))->0<=l->l<=k->k<=n->
  (execOp ev o).run P w= .ok (.value (.slice (if c=l.toNat then a else a.map (·.add (l.toNat*te.size))) (k.toNat-l.toNat) (c-l.toNat))) w:=by
  intro a n c k e hnc L W h1 h2;have hl':(lo=none/\l=0)\/(∃a,lo=some a/\ev a= .int .i64 l):=F lo 0 l hl;have notarr:∀m e,(TypeDesc.slice ti.elem)≠.array m e:=(by intro m e;simp);simp only[execOp,hop,e,Instr.sliceAt,Sem.run_bind,run_underlying hund,Result.andThen_ok,Instr.slice,Instr.sliceBounds,Option.map_none,Sem.run_pure];rcases L with⟨rfl,rfl⟩|⟨ah,rfl,X⟩<;>rcases hl' with⟨rfl,rfl⟩|⟨al,rfl,Y⟩
  .simp[J]
  .have:l.toNat<=n:=(by omega);simp[Y,Instr.sliceBound,asIntOf,W,J,h1]
  .have h3:k<=(c:Int):=(by omega);have h4:0<=k:=(by omega);simp[X,Instr.sliceBound,asIntOf,h3,h4,J]
  .have h3:k<=(c:Int):=(by omega);have h4:0<=k:=(by omega);have h5:l<=(k.toNat:Int):=(by omega);simp[X,Y,Instr.sliceBound,asIntOf,h3,h4,W,J];intro hbad;omega
 split at h
 .rename_i t xs V;have f:=A x;rw[V] at f
  split at h
  .rename_i xs' k hc z;simp at h;subst h;obtain⟨e,rfl⟩:=jm hc;cases e;simp only[qw,k8] at g⊢;have hr:=zp (t:= .slice te.ty) rfl (by simpa[SV.den] using f);obtain⟨a,n,c,D,N,e3,e4,e6,e5⟩:=hr;simp at D;have L:=F hi _ k z;have s:(hi=none/\k=(n:Int))\/(∃a,hi=some a/\ev a= .int .i64 k):=(by rw[N];exact L);refine jk K (v a n c k D e3 s g.1 g.2.1 (by omega)) ?_ trivial;simp only[SV.den];refine kG rfl ?_;have Z:((xs.drop l.toNat).take (k.toNat-l.toNat)).length=k.toNat-l.toNat:=(by simp;omega);refine⟨_,_,_,rfl,Z.symm,by omega,by omega,fun hn=> ?_,fun T=> ?_⟩
   .have:a=none:=by
     split at hn
     .exact hn
     .simpa using hn
    have:=e6 this;omega
   have hpos':0<k.toNat-l.toNat:=by
    rcases jIf (k.toNat-l.toNat) with W|W
    .rw[W] at T;simp at T
    .exact W
   obtain⟨b,off,blk,rfl,f2,f3⟩:=e5 (fun e=>by subst e;simp at T);refine⟨b,off+l.toNat*te.size,blk,?_,f2,fun i y hy=> ?_⟩
   .rw[if_neg (by omega)];simp[qz]
   .rw[jIg] at hy
    split at hy
    .rw[jHI] at hy;have:=f3 _ _ hy;refine te.ty.rd_congr _ _ _ (fun j _=> ?_) this;congr 1;rw[<-R,jHP];omega
    .cases hy
  .cases h
 .rename_i ob t V;have f:=A x;rw[V] at f
  split at h
  .rename_i E t' fz nl xs hob
   split at h
   .rename_i k z;simp at h;subst h;simp only[k8] at g;obtain⟨p,M,k1,k0,k2⟩:=K.obs ob _ hob;simp only[SV.den] at f;have f:=f p M;have L:=F hi _ k z;cases p with
    |none=>
     obtain⟨D,N⟩:=f;obtain⟨e3,_⟩:=k2;subst e3;simp at g;have I:l=0:=(by omega);have H:k=0:=(by omega);subst I;subst H;have s:(hi=none/\(0:Int)=((0:Nat):Int))\/(∃a,hi=some a/\ev a= .int .i64 0):=by
      rcases L with⟨e,_⟩|e
      .exact .inl ⟨e,rfl⟩
      .exact .inr e
     refine jk K (v none 0 0 0 D (jG5 _) s (by omega) (by omega) (by simp)) ?_ trivial;simp only[SV.den];intro p' r;rw[M] at r;simp at r;subst r;simp
    |some q=>
     obtain⟨b,Cp⟩:=q;obtain⟨D,N⟩:=f;have s:(hi=none/\k=((ρ.len ob:Nat):Int))\/(∃a,hi=some a/\ev a= .int .i64 k):=(by rw[k1];exact L);refine jk K (v _ _ _ k D N s g.1 g.2.1 (by omega)) ?_ trivial;simp only[SV.den];intro p' r;rw[M] at r;simp at r;subst r;by_cases G:Cp=l.toNat
     .refine⟨⟨b,0,none⟩,Cp-l.toNat,by rw[if_pos G],by omega,by omega,by omega,fun hor=> ?_⟩;have:l.toNat=0:=(by omega);simp[this]
     .refine⟨⟨b,l.toNat*te.size,none⟩,Cp-l.toNat,by rw[if_neg G];simp[qz],by omega,by omega,by omega,fun _=>by rw[R]⟩
   .cases h
  .cases h
 .rename_i ob t lo' n V;have f:=A x;rw[V] at f
  split at h
  case h_2=>cases h
  rename_i k z hu S;simp at h;subst h;simp only[k8] at g;have hu:t=te.ty:=ya hu;subst hu;obtain⟨p,M⟩:∃p,ρ.blk ob=some p:=by
   unfold jkh at S
   split at S
   .rename_i x0 ho;obtain⟨p,M,_⟩:=K.obs ob x0 ho;exact⟨p,M⟩
   .cases S
  simp only[SV.den] at f;have f:=f p M;have L:=F hi _ k z;cases p with
  |none=>
   obtain⟨D,N⟩:=f;subst N;have I:l=0:=(by have:=g.1;have:=g.2.1;have:=g.2.2.1;omega);have H:k=0:=(by have:=g.1;have:=g.2.1;have:=g.2.2.1;omega);subst I;subst H;have s:(hi=none/\(0:Int)=((0:Nat):Int))\/(∃a,hi=some a/\ev a= .int .i64 0):=by
    rcases L with⟨e,_⟩|e
    .exact .inl ⟨e,rfl⟩
    .exact .inr e
   refine jk K (v none 0 0 0 D (jG5 _) s (by omega) (by omega) (by simp)) ?_ trivial;simp only[SV.den];intro p' r;rw[M] at r;simp at r;subst r;simp
  |some q=>
   obtain⟨b,Cp⟩:=q;obtain⟨a,Q,D,N,e3,e4,e5⟩:=f;have s:(hi=none/\k=((n:Nat):Int))\/(∃a,hi=some a/\ev a= .int .i64 k):=L;have hv1:=g.1;have hv2:=g.2.1;have hv3:k<=(n:Int):=g.2.2.1;refine jk K (v _ _ _ k D N s hv1 hv2 hv3) ?_ trivial;simp only[SV.den];intro p' r;rw[M] at r;simp at r;subst r;by_cases G:Q=l.toNat
   .refine⟨a,Q-l.toNat,by rw[if_pos G],by omega,by omega,by omega,fun hor=> ?_⟩;have h1:l.toNat=0:=(by omega);have h2:lo'=0:=(by omega);rw[e5 (.inl h2),h1,jIh]
   .refine⟨⟨b,(lo'+l.toNat)*te.ty.size,none⟩,Q-l.toNat,?_,by omega,by omega,by omega,fun _=>rfl⟩;rw[if_neg G,e5 (.inr (by omega)),R];simp[qz,jHP]
 .rename_i u V;have f:=A x;rw[V] at f
  split at h
  .rename_i k O z;simp at h;subst h;simp only[k8] at g;simp only[SV.den] at f;have D:ev x= .slice none 0 0:=(by rw[f,wz O]);have I:l=0:=(by omega);have H:k=0:=(by omega);subst I;subst H;have s:(hi=none/\(0:Int)=((0:Nat):Int))\/(∃a,hi=some a/\ev a= .int .i64 0):=by
    rcases F hi _ 0 z with⟨e,_⟩|e
    .exact .inl ⟨e,rfl⟩
    .exact .inr e
   refine jk K (v none 0 0 0 D (jG5 _) s (by omega) (by omega) (by simp)) ?_ trivial;simp only[SV.den];rw[wz O];simp
  .cases h
 .cases h
theorem jtG {U dst:Nat} {x hi r:Operand} (K:C.ok P) (l:o.op= .slice U x none (some hi) (some r)) (h:jC C σ dst (.slice U x none (some hi) (some r))=some out) (L:Sat P B ρ σ.obj w)
 (b:∀x,SV.den P ρ (jQ σ x) (ev x)) (d:k8 out.vc):jI P o ev w (jF P B ρ σ out):=by
 simp only[jC] at h
 split at h
 case h_2=>cases h
 rename_i ti te t xs H m p V O S
 split at h
 case h_2=>cases h
 rename_i W N;simp at h;subst h;obtain⟨e,rfl⟩:=jm N;cases e;simp only[qw,k8] at d⊢;obtain⟨_,q,_,f,i,Q,R,u⟩:=zI K p;obtain⟨_,_,_,_,_,g,_⟩:=qo f;rw[q] at g;have j:=b x;rw[V] at j;have y:=zp (t:= .slice te.ty) rfl (by simpa[SV.den] using j);have T:=y;obtain⟨a,n,c,s,k,D,E,G,F⟩:=y;simp at s;have z:=wt O (b hi);have A:=wt S (b r);have I:H=(n:Int):=(by rw[d.1,k]);have J:m=(n:Int):=(by rw[d.2.1,k]);rw[I] at z;rw[J] at A;refine jk L (v:= .slice a n n) ?_ ?_ trivial
 .simp only[execOp,l,s,Instr.sliceAt,Sem.run_bind,run_underlying i,Result.andThen_ok,Instr.slice,Instr.sliceBounds,Option.map_none,Option.map_some,Sem.run_pure];simp[z,A,Instr.sliceBound,asIntOf,g,D];intro _;cases a<;>simp[Addr.add]
 .simp only[SV.den];exact⟨kG rfl ⟨a,n,n,rfl,k,jG5 _,E,fun M=>by have:=G M;omega,F⟩,a,n,rfl⟩
theorem jhT {cs new:List SV} {vs us:List Value} {off:Nat} (a:SV.denL P ρ cs vs) (b:SV.denL P ρ new us):SV.denL P ρ (jnP cs new off) (vs.take off++us++vs.drop (off+us.length)):=by
 unfold jnP;rw[<-zO _ _ b];exact wM _ _ _ _ (wM _ _ _ _ (jgn off _ _ a) b) (jaw _ _ _ a)
theorem jcb {ti:TI} (c:ti.ok P) {b off:Nat} {vs:Array Value} {T:Nat} {v:Value} (g:w.heap[b]? =some (.cells vs T (0,0))) (a:v.cells.size=ti.size)
 (d:off+ti.size<=vs.size) (e:∀u∈v.cells.toList,u.oneCell'=true):
 (storeVar ti.id ⟨b,off,none⟩ v).run P w= .ok () (w.setRow b (vs.toList.take off++v.cells.toList++vs.toList.drop (off+ti.size)).toArray):=by
 obtain⟨_,_,_,_,_,f,_⟩:=qo c;have:=run_storeCells_at P b off T v.cells.toList 0 vs w g (by simp;omega) e;simp only[jIh,jHA,a] at this;simp[storeVar,f,a,this]
theorem vf (w:World) {b:Nat} {vs:Array Value} {T:Nat} (a:w.heap[b]? =some (.cells vs T (0,0))) (cs:Array Value):
 ((w.setRow b cs).os=w.os/\(w.setRow b cs).tape=w.tape/\(w.setRow b cs).output=w.output/\w.drawn<=(w.setRow b cs).drawn/\(w.setRow b cs).heap.size=w.heap.size/\∀k,k≠b->(w.setRow b cs).heap[k]? =w.heap[k]?)/\
 (w.setRow b cs).heap[b]? =some (.cells cs T (0,0)):=by
 refine⟨⟨rfl,rfl,rfl,jG5 _,by simp,fun k hk=>setRow_other w b k _ (by omega)⟩,setRow_heap w b vs _ T _ a⟩
theorem jpV {H:Imm}:∀(a:Ty) (off:Nat) (t:Ty) (d:a.Data) (x:t.Data) (y:a.Data) (f g:Nat->Option Value),a.put off t d x=some y->a.rd H f d->t.rd H (fun j=>g (off+j)) x->
 (∀j,(j<off\/off+t.size<=j)->g j=f j)->a.rd H g y:=by
 have c:∀(a:Ty) (off:Nat) (t:Ty) (x:t.Data) (y:a.Data) (g:Nat->Option Value),(if off=0 then zz t a x else none)=some y->t.rd H (fun j=>g (off+j)) x->a.rd H g y:=by
  intro a off t x y g h i
  split at h
  .rename_i e;subst e;obtain⟨e,rfl⟩:=jm h;rw[y8];simpa using i
  .cases h
 intro a
 induction a with
 |pair a b m n=>
  intro off t d x y f g h o i p;simp only[Ty.put] at h
  split at h
  .rename_i e;obtain⟨rfl,e⟩:=e;obtain⟨w,rfl⟩:=jm h;rw[y8];simpa using i
  .split at h
   .rename_i q;simp only[jIv] at h;obtain⟨z,l,rfl⟩:=h;have r:=put_fits a off t d.1 x z l;refine⟨m off t d.1 x z f g l o.1 i p,b.rd_congr _ _ _ (fun j _=> ?_) o.2⟩;exact(p _ (.inr (by omega))).symm
   .rename_i q;simp only[jIv] at h;obtain⟨z,l,rfl⟩:=h;refine⟨a.rd_congr _ _ _ (fun j v=>(p j (.inl (by omega))).symm) o.1,?_⟩;refine n (off-a.size) t d.2 x z (fun j=>f (a.size+j)) (fun j=>g (a.size+j)) l o.2 (t.rd_congr _ _ _ (fun j _=>by congr 1;omega) i) (fun j v=>p _ ?_);omega
 |int=>intro off t d x y f g h _ i _;exact c .int off t x y g (by simpa[Ty.put] using h) i
 |bool=>intro off t d x y f g h _ i _;exact c .bool off t x y g (by simpa[Ty.put] using h) i
 |uint k=>intro off t d x y f g h _ i _;exact c (.uint k) off t x y g (by simpa[Ty.put] using h) i
 |unit=>intro off t d x y f g h _ i _;exact c .unit off t x y g (by simpa[Ty.put] using h) i
 |slice s _=>intro off t d x y f g h _ i _;exact c (.slice s) off t x y g (by simpa[Ty.put] using h) i
 |map k u _ _=>intro off t d x y f g h _ i _;exact c (.map k u) off t x y g (by simpa[Ty.put] using h) i
 |ptr s _=>intro off t d x y f g h _ i _;exact c (.ptr s) off t x y g (by simpa[Ty.put] using h) i
where
 put_fits:∀(a:Ty) (off:Nat) (t:Ty) (d:a.Data) (x:t.Data) (y:a.Data),a.put off t d x=some y->off+t.size<=a.size:=by
  have c:∀(a:Ty) (off:Nat) (t:Ty) (x:t.Data) (y:a.Data),(if off=0 then zz t a x else none)=some y->off+t.size<=a.size:=by
   intro a off t x y h
   split at h
   .rename_i e;subst e;obtain⟨e,_⟩:=jm h;subst e;omega
   .cases h
  intro a
  induction a with
  |pair a b m n=>
   intro off t d x y h;simp only[Ty.put] at h
   split at h
   .rename_i e;obtain⟨rfl,e⟩:=e;rw[<-e];omega
   .split at h
    .simp only[jIv] at h;obtain⟨z,l,rfl⟩:=h;have:=m off t d.1 x z l;simp only[Ty.size];omega
    .simp only[jIv] at h;obtain⟨z,l,rfl⟩:=h;have:=n (off-a.size) t d.2 x z l;simp only[Ty.size];omega
  |int=>intro off t d x y h;exact c .int off t x y (by simpa[Ty.put] using h)
  |bool=>intro off t d x y h;exact c .bool off t x y (by simpa[Ty.put] using h)
  |uint k=>intro off t d x y h;exact c (.uint k) off t x y (by simpa[Ty.put] using h)
  |unit=>intro off t d x y h;exact c .unit off t x y (by simpa[Ty.put] using h)
  |slice s _=>intro off t d x y h;exact c (.slice s) off t x y (by simpa[Ty.put] using h)
  |map k u _ _=>intro off t d x y h;exact c (.map k u) off t x y (by simpa[Ty.put] using h)
  |ptr s _=>intro off t d x y h;exact c (.ptr s) off t x y (by simpa[Ty.put] using h)
end
end Go.X
namespace Go.X
open Go.RowKit (Below)
section
variable {P:Program} {B:zV} {C:Ctx} {σ:St} {ρ:Env} {w:World} {o:Oper} {ev:Operand->Value} {out:Out}
theorem jal {U:Nat} {ti tk te:TI} (a:C.ok P) (h:C.mapT U=some (ti,tk,te)):
 ti.ok P/\tk.ok P/\te.ok P/\P.underlying U=some (.map tk.id te.id)/\tk.kq=true/\kr te.ty=true:=by
 unfold Ctx.mapT at h
 split at h
 case h_2=>cases h
 rename_i m d
 split at h
 case h_2=>cases h
 rename_i b
 split at h
 case h_2=>cases h
 rename_i n l e c
 split at h
 case h_2=>cases h
 rename_i hk f;simp at h;obtain⟨rfl,rfl,rfl⟩:=h;obtain⟨g,o1⟩:=a.ti _ _ d;obtain⟨i,o2⟩:=a.ti _ _ e;obtain⟨j,k⟩:=a.ti _ _ c;refine⟨o1,o2,k,?_,hk,f⟩;have:=o1.mpf b;rw[g,<-i,<-j] at this;exact this
theorem jgk {R:Value->World->Prop} {w':World} (h:(execOp ev o).run P w= .ok .skip w') (k:R undef w'):jI P o ev w R:=by
 unfold jI;rw[h];exact k
theorem qi {l:List Nat} {k:Nat} (h:yx l k=false):k∉l:=by
 induction l with
 |nil=>simp
 |cons j r b=>
  simp only[yx] at h
  split at h
  .cases h
  .rename_i a;simp only[jG4,not_or];exact⟨fun e=>zb a e.symm,b h⟩
theorem wn (v:Value):SV.den P ρ .any v:=by simp[SV.den]
theorem jwT {U dst:Nat} {a x:Operand} (hC:C.ok P) (V:o.op= .store U a x) (h:jC C σ dst (.store U a x)=some out) (hS:Sat P B ρ σ.obj w)
 (m:SV.den P ρ (jQ σ a) (ev a)) (L:SV.den P ρ (jQ σ x) (ev x)):jI P o ev w (jF P B ρ σ out):=by
 simp only[jC] at h
 split at h
 case h_2=>cases h
 rename_i ti hti;obtain⟨rfl,I⟩:=hC.ti _ _ hti
 split at h
 .rename_i ob off ha;rw[ha] at m
  split at h
  .rename_i T cs hx
   split at h
   .rename_i new S
    split at h
    .rename_i J s;simp at h;subst h;have J:=jG0 J;have s:=jHg s;obtain⟨p,W,b,Cp,vs,rfl,X,K,h1,D⟩:=hS.obs ob _ hx;simp only[fzH] at D;simp only[SV.den] at m;obtain⟨b',C',e1,e2⟩:=m _ W;simp at e1;obtain⟨rfl,rfl⟩:=e1;obtain⟨g1,Z⟩:=jeU hS S L;have Q:=zO _ _ K;have H:=zO _ _ g1;have f:(ev x).cells.size=ti.size:=(by rw[<-jHA,<-H,J]);have n:=jcb (P:=P) (off:=off) I X f (by rw[<-jHA,<-Q];omega) Z;obtain⟨f1,f2⟩:=vf w X (vs.toList.take off++(ev x).cells.toList++vs.toList.drop (off+ti.size)).toArray;refine jgk (by simp only[execOp,V,Instr.storeAt,Instr.sureAddr,e2,Sem.run_bind,Sem.run_pure,Result.andThen_ok,n];rfl) ?_;refine⟨ρ,?_,Env.le.refl _ _,wn _,trivial⟩;show Sat P B ρ ({σ with ob:=(ob,_)::(qG σ []++σ.ob)}:St).obj _;simp only[qG,jHz];rw[ww];refine jb8 hS W D _ f1 ?_;refine⟨b,Cp,_,rfl,f2,?_,?_,by simpa[fzH] using D⟩
     .have:=jhT (off:=off) K g1;simp only[jHA,f] at this;simpa using this
     .intro u A;simp only[jHa] at A;rcases A with(A|A)|A
      .exact h1 u (jIr A)
      .exact Z u A
      .exact h1 u (jIq A)
    .cases h
   .cases h
  .cases h
 .rename_i ob u i off ha;rw[ha] at m
  split at h
  .rename_i E t nl l hx
   split at h
   .rename_i l' hc;obtain⟨e,rfl⟩:=jm hc;cases e;simp only[qw] at h
    split at h
    .rename_i d fz hk hd
     split at h
     .rename_i y hy hm;simp at h;subst h;have R:=qi hm;obtain⟨ρ1,F,v,hb1,hn1⟩:=jX (σ:=σ) fz hS;have hx1:(σ.frz fz).obj ob=some (.row E u false nl l):=(by rw[kL,if_neg R];exact hx);obtain⟨p,W,k1,k0,k2⟩:=F.obs ob _ hx1;simp only[SV.den] at m;obtain⟨hi,b,Cp,rfl,e2⟩:=m p (by rw[<-hb1];exact W);rw[<-hn1] at hi;obtain⟨k3,vs,X,hvs,hlC,hCm,hr,D⟩:=k2;simp only[fzH] at D;obtain⟨ka,ks⟩:=I.known hk;have q:=jT F (w8 σ fz) hd (fun o ho=>ho) (SV.den_mono v _ _ (fun r hr=>by simp at hr) L);have f:(ev x).cells.size=ti.size:=(by rw[q.2.1,ks]);obtain⟨_,Z⟩:=jhS (P:=P) (ρ:=ρ1) ti.ty d (ev x).cells.toList (by simpa using q.2.1) (ti.ty.rd_congr _ _ _ (fun i _=>by simp) q.2.2);have hfits:=jpV.put_fits u off ti.ty _ d y hy;have hil:i<l.length:=(by omega);have hmul:i*u.size+u.size<=Cp*u.size:=(by rw[<-jHM];exact jHm _ (by omega));have n:=jcb (P:=P) (off:=i*u.size+off) I X f (by rw[hvs];omega) Z;obtain⟨f1,f2⟩:=vf w X (vs.toList.take (i*u.size+off)++(ev x).cells.toList++vs.toList.drop (i*u.size+off+ti.size)).toArray;have g:∀k,(vs.toList.take (i*u.size+off)++(ev x).cells.toList++vs.toList.drop (i*u.size+off+ti.size)).toArray[k]? =
       if k<i*u.size+off then vs[k]? else if k<i*u.size+off+ti.size then(ev x).cells[k-(i*u.size+off)]? else vs[k]? :=by
       intro k;have O:(vs.toList.take (i*u.size+off)).length=i*u.size+off:=(by simp;omega);by_cases c1:k<i*u.size+off
       .rw[if_pos c1];simp only[jIe,jHn];rw[jHf (by omega),jHr c1];simp
       .rw[if_neg c1];by_cases c2:k<i*u.size+off+ti.size
        .rw[if_pos c2];simp only[jIe,jHn];rw[jHe (by omega),O,jHf (by simp[f];omega)];simp
        .rw[if_neg c2];simp only[jIe,jHn];rw[jHe (by omega),O,jHe (by simp[f];omega),jHI];simp only[jHA,f,jHN];congr 1;omega
      refine jgk (by simp only[execOp,V,Instr.storeAt,Instr.sureAddr,e2,Sem.run_bind,Sem.run_pure,Result.andThen_ok,n];rfl) ?_;refine⟨ρ1,?_,v,wn _,trivial⟩;rw[jHx,jHz];show Sat P B ρ1 ({(σ.frz fz) with ob:=(ob,_)::(σ.frz fz).ob}:St).obj _;rw[ww];refine jb8 F W D _ f1 ?_;refine⟨by simpa using k1,by simpa using k0,fun hn=>by simpa using k3 hn,_,f2,?_,by simpa using hlC,hCm,?_,by simpa[fzH] using D⟩
      .simp only[List.size_toArray,jHo,jHC,jIo,jHA,f];omega
      .intro k z Y;rw[List.getElem?_set] at Y
       split at Y
       .rename_i G;subst G
        .simp at Y;subst Y;have M:l[i]? =some (@nth _ ⟨u.dflt⟩ l i):=by
          unfold nth;rw[jHG,jG8 (by omega)];simp
         refine jpV u off ti.ty _ d y _ _ hy (hr i _ M) ?_ ?_
         .refine ti.ty.rd_congr _ _ _ (fun j N=> ?_) q.2.2;rw[g,if_neg (by omega),if_pos (by omega)];congr 1;omega
         .intro j N;rw[g];rcases N with N|N
          .rw[if_pos (by omega)]
          .rw[if_neg (by omega),if_neg (by omega)]
       .rename_i G;refine u.rd_congr _ _ _ (fun j N=> ?_) (hr k z Y);rw[g];rcases Nat.lt_or_gt_of_ne G with c|c
        .have:(i+1)*u.size<=k*u.size:=jHm _ c;rw[jHM] at this;rw[if_neg (by omega),if_neg (by omega)]
        .have:(k+1)*u.size<=i*u.size:=jHm _ c;rw[jHM] at this;rw[if_pos (by omega)]
     .cases h
    .cases h
   .cases h
  .cases h
 .cases h
theorem joE {dst:Nat} {x:Operand} (g:o.op= .nilCheck x) (h:jC C σ dst (.nilCheck x)=some out) (j:Sat P B ρ σ.obj w) (f:SV.den P ρ (jQ σ x) (ev x)) (l:k8 out.vc):
 jI P o ev w (jF P B ρ σ out):=by
 simp only[jC] at h
 split at h
 .rename_i ob off i;rw[i] at f
  split at h
  .rename_i m;simp at h;subst h;obtain⟨p,n⟩:=wT j m;have a:=f;simp only[SV.den] at a;obtain⟨b,q,_,e⟩:=a p n;exact jk j (v:=ev x) (by simp[execOp,g,e]) f trivial
  .cases h
 .rename_i t d i;rw[i] at f;simp at h;subst h;have a:=f;simp only[SV.den] at a;obtain⟨b,k,c,e,_⟩:=a;exact jk j (v:=ev x) (by simp[execOp,g,e]) f trivial
 .rename_i t d i;rw[i] at f;simp at h;subst h;have f:=jtK f l.1;have a:=f;simp only[SV.den] at a;obtain⟨b,k,c,e,_⟩:=a;exact jk j (v:=ev x) (by simp[execOp,g,e]) f trivial
 .cases h
theorem jAc {dst T:Nat} {op:UnOp} {x:Operand} (d:o.op= .unOp op T x) (h:jC C σ dst (.unOp op T x)=some out) (g:Sat P B ρ σ.obj w) (c:SV.den P ρ (jQ σ x) (ev x)) (e:k8 out.vc):
 jI P o ev w (jF P B ρ σ out):=by
 simp only[jC] at h;cases op<;>simp only[reduceCtorEq] at h
 case not=>
  split at h
  .rename_i b f;simp at h;subst h;rw[f] at c;simp only[SV.den] at c;exact jk g (v:= .bool (!b)) (by simp[execOp,d,zY c,Op.unary]) (wZ _) trivial
  .cases h
 case neg=>
  split at h
  .rename_i a f;simp at h;subst h;have:=wt f c;simp only[k8] at e;refine jk g (v:= .int .i64 (-a)) ?_ (w6 _) trivial;have i:IntKind.i64.wrap (-a)= -a:=qg e.1;simp[execOp,d,this,Op.unary,Op.intArith,i]
  .cases h
theorem jA2 {a:Int} (b:0<=a) (c:a<=18446744073709551615):IntKind.u64.wrap a=a:=by
 unfold IntKind.wrap;simp[IntKind.signed,IntKind.bits];omega
theorem jDw {a:Int} (b:0<=a) (c:a<=255):IntKind.u8.wrap a=a:=by
 unfold IntKind.wrap;simp[IntKind.signed,IntKind.bits];omega
theorem jCG {sv:SV} {i:Int} (h:jGA sv=some i) {v:Value} (a:SV.den P ρ sv v):∃k,v= .int k i:=by
 unfold jGA at h
 split at h
 .simp at h;subst h;simp only[SV.den] at a;exact⟨_,zF a⟩
 .simp at h;subst h;simp only[SV.den] at a;exact⟨_,wO a⟩
 .cases h
theorem jwY {U dst:Nat} {x c:Operand} (j:C.ok P) (f:o.op= .index U x c) (h:jC C σ dst (.index U x c)=some out) (l:Sat P B ρ σ.obj w) (a:SV.den P ρ (jQ σ x) (ev x))
 (d:SV.den P ρ (jQ σ c) (ev c)) (b:k8 out.vc):jI P o ev w (jF P B ρ σ out):=by
 simp only[jC] at h
 split at h
 case h_2=>cases h
 rename_i s i m n hi;simp at h;subst h;simp only[k8] at b;rw[n] at a;simp only[SV.den] at a;obtain⟨k,hi⟩:=jCG hi d;have e:i.toNat<s.size:=(by omega);refine jk l (v:= .int .u8 (qC s i.toNat)) ?_ (jjB _ _) trivial;simp only[execOp,f,a,hi,Sem.run_bind,run_index_string _ _ _ _ _ (j.str _ m)];rw[dif_pos ⟨b.1,b.2.1⟩];simp only[Result.andThen_ok,Sem.run_pure];congr 3;unfold qC;have g:i.toNat<s.data.toList.length:=(by simpa using e);rw[jHG,jG8 g];rfl
theorem jqY {V U dst:Nat} {x:Operand} (A:C.ok P) (t:o.op= .convert V U x) (h:jC C σ dst (.convert V U x)=some out) (q:Sat P B ρ σ.obj w) (l:SV.den P ρ (jQ σ x) (ev x)) (b:k8 out.vc):
 jI P o ev w (jF P B ρ σ out):=by
 simp only[jC] at h
 split at h
 case h_2=>cases h
 rename_i z ti y u;obtain⟨rfl,m⟩:=A.ti _ _ u;obtain⟨rfl,f⟩:=A.ti _ _ y;have I:∃d,P.underlying z.id=some d:=by
  cases D:z.agg with
  |true=>
   cases E:z.arr with
   |false=>obtain⟨fs,e,_⟩:=f.str D E;exact⟨_,e⟩
   |true=>obtain⟨_,n,ie,e,_⟩:=f.arrk E;exact⟨_,e⟩
  |false=>obtain⟨d,e,_⟩:=f.flat D;exact⟨_,e⟩
 obtain⟨F,s⟩:=I;have c:∀(k k':IntKind) (a:Int),P.underlying ti.id=some (.int k)->ev x= .int k' a->(execOp ev o).run P w= .ok (.value (.int k (k.wrap a))) w:=by
  intro k k' a H e;simp only[execOp,t,e,convert,Sem.run_bind,run_underlying s,run_underlying H,Result.andThen_ok];cases F<;>simp[Conv.intToInt]
 split at h
 .rename_i g i;obtain⟨d,j,_,_,_,_,G,_⟩:=m.flat g;rw[G i] at j
  split at h
  .rename_i a p;simp at h;subst h;simp only[k8] at b;refine jk q (v:= .int .i64 a) ?_ (w6 _) trivial;rw[c _ _ a j (wt p l),qg b.1]
  .split at h
   .rename_i a p;simp at h;subst h;simp only[k8] at b;obtain⟨k,e⟩:=jm1 p l;refine jk q (v:= .int .i64 a) ?_ (w6 _) trivial;rw[c _ _ a j e,qg b.1]
   .cases h
 .rename_i g i;obtain⟨d,j,_,_,_,_,_,r⟩:=m.flat g;rw[r _ i] at j
  split at h
  .rename_i a p;simp at h;subst h;simp only[k8] at b;refine jk q (v:= .int .u64 a) ?_ (jjB _ _) trivial;rw[c _ _ a j (wt p l),jA2 b.1 b.2.1]
  .cases h
 .rename_i g i;obtain⟨d,j,_,_,_,_,_,r⟩:=m.flat g;rw[r _ i] at j
  split at h
  .rename_i a p;simp at h;subst h;simp only[k8] at b;obtain⟨k,e⟩:=jm1 p l;refine jk q (v:= .int .u8 a) ?_ (jjB _ _) trivial;rw[c _ _ a j e,jDw b.1 b.2.1]
  .cases h
 .cases h
theorem y6 {ev:Operand->Value} (a:∀x,SV.den P ρ (jQ σ x) (ev x)):∀(l:List Operand),SV.denL P ρ (l.map (jQ σ)) (l.map ev)
 |[]=>by simp[SV.denL]
 |x::l=>by simp only[jH8,SV.denL];exact⟨ev x,l.map ev,rfl,a x,y6 a l⟩
theorem joF {dst:Nat} {f:Fn} {a caps:Array Operand} (d:o.op= .makeFunc f a caps) (h:jC C σ dst (.makeFunc f a caps)=some out) (g:Sat P B ρ σ.obj w)
 (b:∀x,SV.den P ρ (jQ σ x) (ev x)):jI P o ev w (jF P B ρ σ out):=by
 simp only[jC] at h
 split at h
 .rename_i e c;have c:a= #[]:=(by simpa using c);subst c;simp at h;subst h;refine jk g (v:= .func (.func e) #[] (caps.map ev)) (by simp[execOp,d,Instr.makeFunc]) ?_ trivial;simp only[SV.den];exact⟨_,rfl,by simpa using y6 b caps.toList⟩
 .cases h
theorem jqX {dst i:Nat} {x:Operand} (b:o.op= .extract x i) (h:jC C σ dst (.extract x i)=some out) (f:Sat P B ρ σ.obj w) (a:SV.den P ρ (jQ σ x) (ev x)):
 jI P o ev w (jF P B ρ σ out):=by
 simp only[jC] at h
 split at h
 .rename_i vs k;rw[k] at a
  split at h
  .rename_i v j;simp at h;subst h;simp only[SV.den] at a;obtain⟨us,e,g⟩:=a;obtain⟨u,c,d⟩:=jb2 g j;exact jk f (v:=u) (by simp[execOp,b,e,Instr.extract,c]) d trivial
  .cases h
 .cases h
theorem jCj {c:Call} (M:C.ok P) (A:o.op= .call c) (F:c.callee= .builtin .len)
 (h:jEg C σ c.args.toList c.argTypes.toList=some out) (u:Sat P B ρ σ.obj w) (g:∀x,SV.den P ρ (jQ σ x) (ev x)):
 jI P o ev w (jF P B ρ σ out):=by
 unfold jEg at h
 split at h
 case h_2=>cases h
 rename_i x U i j
 split at h
 case h_2=>cases h
 case h_3=>
  split at h
  case h_2=>cases h
  rename_i ti tk te G
  split at h
  case h_2=>cases h
  rename_i l R;simp at h;subst h;have i:c.args= #[x]:=(by rw[<-jHp];exact i);have j:c.argTypes= #[U]:=(by rw[<-jHp];exact j);obtain⟨_,_,_,r,_⟩:=jal M G;rcases jkc u R (g x) with⟨e,rfl⟩|⟨b,es,clock,e,s,y⟩
  .exact jk u (v:= .int .i64 0) (by simp[execOp,A,F,i,j,resolve,invoke,builtin,e,Builtin.len_,run_underlying r,goInt]) (w6 _) trivial
  .refine jk u (v:= .int .i64 l.length) ?_ (w6 _) trivial;have Q:(getObj b).run P w= .ok (.map es clock) w:=(by simp[getObj,Sem.run,s]);simp[execOp,A,F,i,j,resolve,invoke,builtin,e,Builtin.len_,run_underlying r,goInt,Q,y.1]
 rename_i te f n I d;simp at h;subst h;have i:c.args= #[x]:=(by rw[<-jHp];exact i);have j:c.argTypes= #[U]:=(by rw[<-jHp];exact j);have g:=g x;obtain⟨_,_,_,_,r,_⟩:=zI M I;have k:∀(a:Option Addr) (m c:Nat),ev x= .slice a m c->(execOp ev o).run P w= .ok (.value (.int .i64 m)) w:=by
  intro a m c e;simp[execOp,A,F,i,j,resolve,invoke,builtin,e,Builtin.len_,run_underlying r,goInt]
 unfold lenOf at d
 split at d
 .rename_i t l D;simp at d;obtain⟨rfl,rfl⟩:=d;rw[D] at g;have T:=zp (t:= .slice t) rfl (by simpa[SV.den] using g);obtain⟨a,m,c,s,y,O,L,_⟩:=T;simp at s;exact jk u (v:= .int .i64 l.length) (by rw[k a m c s,y]) (w6 _) ⟨L,trivial⟩
 .rename_i ob t D
  split at d
  .rename_i E W fz nl l z;simp at d;obtain⟨rfl,rfl⟩:=d;rw[D] at g;obtain⟨p,H,K,J,Y⟩:=u.obs ob _ z;simp only[SV.den] at g;have g:=g p H;cases p with
   |none=>
    obtain⟨s,y⟩:=g;exact jk u (v:= .int .i64 l.length) (by rw[k _ _ _ s,<-K,y]) (w6 _) ⟨J,trivial⟩
   |some q=>
    obtain⟨s,y⟩:=g;exact jk u (v:= .int .i64 l.length) (by rw[k _ _ _ s,K]) (w6 _) ⟨J,trivial⟩
  .cases d
 .rename_i ob t lo m D
  split at d
  .rename_i E W fz nl l z;simp at d;obtain⟨rfl,rfl⟩:=d;rw[D] at g;obtain⟨p,H,V⟩:=u.obs ob _ z;simp only[SV.den] at g;have g:=g p H;cases p with
   |none=>
    obtain⟨s,y⟩:=g;exact jk u (v:= .int .i64 m) (by rw[k _ _ _ s,y]) (w6 _) ⟨by rw[y];decide,trivial⟩
   |some q=>
    obtain⟨b,X⟩:=q;obtain⟨a,N,s,y,O,L,_⟩:=g;have:m<4611686018427387904:=by
     obtain⟨K,J,_⟩:=V;omega
    exact jk u (v:= .int .i64 m) (by rw[k _ _ _ s]) (w6 _) ⟨this,trivial⟩
  .cases d
 .rename_i v D
  split at d
  .rename_i S;simp at d;obtain⟨rfl,rfl⟩:=d;rw[D] at g;simp only[SV.den] at g;rw[wz S] at g;exact jk u (v:= .int .i64 0) (by rw[k _ _ _ g];rfl) (w6 _) trivial
  .cases d
 .cases d
end
end Go.X
namespace Go.X
open Go.RowKit (Below)
section
variable {P:Program} {B:zV} {C:Ctx} {σ:St} {ρ:Env} {w:World} {o:Oper} {ev:Operand->Value} {out:Out}
theorem jqV {x:Operand} (b:o.op= .move x\/o.op= .assign x) (c:Sat P B ρ σ.obj w) (a:SV.den P ρ (jQ σ x) (ev x)):
 jI P o ev w (jF P B ρ σ (.pure (jQ σ x))):=by
 refine jk c (v:=ev x) ?_ a trivial;rcases b with h|h<;>simp[execOp,h]
theorem jwX (h:k8 [False]) {R:Value->World->Prop}:jI P o ev w R:=h.1.elim
theorem jfy {t e:Nat} {ad:Option Addr} {n c:Nat} (h:P.underlying t=some (.slice e)):(Op.equal t (.slice ad n c) (.slice none 0 0)).run P w= .ok ad.isNone w:=by
 have:∀d,(Op.equalIn (d+1) t (.slice ad n c) (.slice none 0 0)).run P w= .ok ad.isNone w:=by
  intro d;cases ad<;>simp[Op.equalIn,run_underlying h]
 exact this 9999
theorem js3 {ti:TI} (o:ti.ok P) {x y:SV} {b:Bool} (h:jEa σ ti x y=some b) (E:Sat P B ρ σ.obj w) {g l:Value} (a:SV.den P ρ x g) (m:SV.den P ρ y l):
 (Op.equal ti.id g l).run P w= .ok b w/\(∀op X Y,(eqGuard op ti.id X Y g l).run P w= .ok () w)/\(binOp .eql ti.id g l=do pure (.bool (<-Op.equal ti.id g l)))/\(binOp .neq ti.id g l=do pure (.bool (!(<-Op.equal ti.id g l)))):=by
 unfold jEa at h
 split at h
 .rename_i u j
  split at h
  case h_2=>cases h
  rename_i A;simp only[SV.den] at m;rw[jy6 A] at m;subst m;obtain⟨e,q⟩:=o.ptf j;have eq:∀p,(Op.equal ti.id (.pointer p) (.pointer none)).run P w= .ok p.isNone w:=by
   intro p;have:∀d,(Op.equalIn (d+1) ti.id (.pointer p) (.pointer none)).run P w= .ok p.isNone w:=by
    intro d;cases p<;>simp[Op.equalIn,run_underlying q]
   exact this 9999
  have C:∃p,g= .pointer p/\b=p.isNone:=by
   unfold jGL at h
   split at h
   .rename_i t d;simp at h;simp only[SV.den] at a;obtain⟨p,D,s⟩:=zp (t:= .ptr t) rfl a;simp at D;refine⟨p,D,?_⟩;cases d with
    |none=>simp only at s;subst s;exact h.symm
    |some d=>obtain⟨_,_,_,rfl,_⟩:=s;exact h.symm
   .simp at h;subst h;simp only[SV.den] at a;obtain⟨b,off,c,e,_⟩:=a;exact⟨_,e,rfl⟩
   .split at h
    .rename_i z;simp at h;subst h;obtain⟨p,j⟩:=wT E z;simp only[SV.den] at a;obtain⟨_,_,_,e⟩:=a p j;exact⟨_,e,rfl⟩
    .cases h
   .split at h
    .rename_i z;simp at h;subst h;obtain⟨p,j⟩:=wT E z;simp only[SV.den] at a;obtain⟨_,_,_,_,e⟩:=a p j;exact⟨_,e,rfl⟩
    .cases h
   .split at h
    .rename_i i;simp at h;subst h;simp only[SV.den] at a;rw[jy6 i] at a;exact⟨_,a,rfl⟩
    .cases h
   .cases h
  obtain⟨p,rfl,rfl⟩:=C;exact⟨eq p,fun op X Y=>by cases op<;>simp[eqGuard],rfl,rfl⟩
 .rename_i u _ j
  split at h
  case h_2=>cases h
  rename_i A;have n:∀{v:Value},jg7 v=true->v= .nilFunc:=by
   intro v h;unfold jg7 at h
   split at h
   .rfl
   .cases h
  simp only[SV.den] at m;rw[n A] at m;subst m;obtain⟨F,G,H,q⟩:=o.fkf j;have eq:∀f x y,(Op.equal ti.id (.func f x y) .nilFunc).run P w= .ok false w:=by
   intro f x y;have:∀d,(Op.equalIn (d+1) ti.id (.func f x y) .nilFunc).run P w= .ok false w:=by
    intro d;simp[Op.equalIn,run_underlying q]
   exact this 9999
  have r:(Op.equal ti.id .nilFunc .nilFunc).run P w= .ok true w:=by
   have:∀d,(Op.equalIn (d+1) ti.id .nilFunc .nilFunc).run P w= .ok true w:=by
    intro d;simp[Op.equalIn,run_underlying q]
   exact this 9999
  have C:(g= .nilFunc/\b=true)\/∃f x y,g= .func f x y/\b=false:=by
   unfold jGM at h
   split at h
   .simp at h;subst h;simp only[SV.den] at a;obtain⟨k,caps,e,_⟩:=a;exact .inr ⟨_,_,_,e,rfl⟩
   .simp at h;subst h;simp only[SV.den] at a;obtain⟨vs,e,_⟩:=a;exact .inr ⟨_,_,_,e,rfl⟩
   .split at h
    .rename_i i;simp at h;subst h;simp only[SV.den] at a;rw[n i] at a;exact .inl ⟨a,rfl⟩
    .cases h
   .cases h
  rcases C with⟨rfl,rfl⟩|⟨f,x,y,rfl,rfl⟩
  .exact⟨r,fun op X Y=>by cases op<;>simp[eqGuard],rfl,rfl⟩
  .exact⟨eq f x y,fun op X Y=>by cases op<;>simp[eqGuard],rfl,rfl⟩
 .cases h
theorem jCm {op:BinOp} {T:Nat} {x y:Operand} {ft:Nat} (hC:C.ok P) (hop:o.op= .binOp op T x y ft) (h:jEQ C σ op T (jQ σ x) (jQ σ y)=some out) (j:Sat P B ρ σ.obj w)
 (i:SV.den P ρ (jQ σ x) (ev x)) (s:SV.den P ρ (jQ σ y) (ev y)) (J:k8 out.vc):jI P o ev w (jF P B ρ σ out):=by
 have go:∀(Z vy v:Value),ev x=Z->ev y=vy->(do eqGuard op T x y Z vy;binOp op T Z vy:Sem Value).run P w= .ok v w->jF P B ρ σ out v w->jI P o ev w (jF P B ρ σ out):=by
  intro Z vy v z e2 m F;refine zo (v:=v) (w':=w) ?_ F;subst z e2;simp only[execOp,hop,Sem.run_bind] at m⊢;cases O:(eqGuard op T x y (ev x) (ev y)).run P w with
  |halt r w'=>rw[O] at m;simp[Result.andThen] at m
  |ok u w'=>rw[O] at m;simp only[Result.andThen_ok] at m⊢;rw[m];simp
 unfold jEQ at h
 split at h
 .rename_i a b A f;rw[A] at i;rw[f] at s;obtain⟨v,m,F⟩:=jhU (P:=P) (U:=T) (X:=x) (Y:=y) h J j;exact go _ _ v (zF (by simpa[SV.den] using i)) (zF (by simpa[SV.den] using s)) m F
 .rename_i a k b A f;rw[A] at i;rw[f] at s;have ex:=zF (by simpa[SV.den] using i);have M:=wO (by simpa[SV.den] using s);have same:∀g,(g= .shl\/g= .shr)->op=g->jmY g a b=some out->jI P o ev w (jF P B ρ σ out):=by
   intro g hc e f;subst e;obtain⟨v,m,F⟩:=jhU (P:=P) (U:=T) (X:=x) (Y:=y) f J j;refine go _ _ v ex M ?_ F;rw[<-m];rcases hc with rfl|rfl<;>simp[eqGuard,binOp,Op.shift]
  split at h
  .exact same .shl (.inl rfl) rfl h
  .exact same .shr (.inr rfl) rfl h
  .cases h
 .rename_i a b A f;rw[A] at i;rw[f] at s;obtain⟨v,m,F⟩:=jmX (P:=P) (U:=T) (X:=x) (Y:=y) h J j;exact go _ _ v (wO (by simpa[SV.den] using i)) (wO (by simpa[SV.den] using s)) m F
 .rename_i a b A f;rw[A] at i;rw[f] at s;have ex:=wO (by simpa[SV.den] using i);have M:=zF (by simpa[SV.den] using s);have same:∀g,(g= .shl\/g= .shr)->op=g->jE9 g a b=some out->jI P o ev w (jF P B ρ σ out):=by
   intro g hc e f;subst e;obtain⟨v,m,F⟩:=jmX (P:=P) (U:=T) (X:=x) (Y:=y) f J j;refine go _ _ v ex M ?_ F;rw[<-m];rcases hc with rfl|rfl<;>simp[eqGuard,binOp,Op.shift]
  split at h
  .exact same .shl (.inl rfl) rfl h
  .exact same .shr (.inr rfl) rfl h
  .cases h
 .split at h
  .cases h
  rename_i ti hti;obtain⟨rfl,I⟩:=hC.ti _ _ hti
  split at h
  .rename_i N;have hF:Frz σ σ []:=fun o=>⟨.inl rfl,fun G=>by simp at G⟩
   split at h
   .rename_i a b A f;have rx:=jT j hF A (fun o G=>by simp at G) i;have ry:=jT j hF f (fun o G=>by simp at G) s;have key:=fun G=>I.eqs N ρ.H _ _ a b w rx ry op x y G
    split at h
    .simp at h;subst h;exact go _ _ _ rfl rfl (key (.inl rfl)) (z7 j (wZ _) trivial)
    .simp at h;subst h;exact go _ _ _ rfl rfl (key (.inr rfl)) (z7 j (wZ _) trivial)
    .cases h
   .cases h
  .split at h
   .rename_i V Q;obtain⟨d,hd,_,_,_,hs,_⟩:=I.flat (I.slf Q);rw[hs Q] at hd;have M:ev y= .slice none 0 0:=by
     unfold jFC at V
     split at V
     .rename_i v hv;rw[hv] at s;simp only[SV.den] at s;rw[s,wz V]
     .cases V
    split at h
    .rename_i b f;have K:∀(ad:Option Addr) (n c:Nat),ev x= .slice ad n c->b=ad.isNone->(op= .eql\/op= .neq)->
      (do eqGuard op ti.id x y (.slice ad n c) (.slice none 0 0);binOp op ti.id (.slice ad n c) (.slice none 0 0):Sem Value).run P w= .ok (.bool (match op with| .eql=>b|_=> !b)) w:=by
      intro ad n c _ D G;subst D;have S:=jfy (w:=w) (ad:=ad) (n:=n) (c:=c) hd;rcases G with rfl|rfl<;>simp[eqGuard,binOp,S]
     have R:∃ad n c,ev x= .slice ad n c/\b=ad.isNone:=by
      unfold jy5 at f
      split at f
      .rename_i ob t hxo;rw[hxo] at i;simp only[SV.den] at i
       split at f
       .rename_i E t' fz l L;simp at f;subst f;obtain⟨p,hp,k1,k0,W⟩:=j.obs ob _ L;have i:=i p hp;cases p with
        |none=>obtain⟨z,_⟩:=i;obtain⟨rfl,_⟩:=W;exact⟨_,_,_,z,rfl⟩
        |some q=>obtain⟨z,_⟩:=i;obtain⟨k3,_⟩:=W;refine⟨_,_,_,z,?_⟩;have:=k3 rfl;simp[this]
       .rename_i E t' fz l L;simp at f;subst f;obtain⟨p,hp,k1,k0,W⟩:=j.obs ob _ L;have i:=i p hp;cases p with
        |none=>obtain⟨_,e⟩:=W;exact absurd rfl e
        |some q=>obtain⟨z,_⟩:=i;exact⟨_,_,_,z,rfl⟩
       .cases f
      .rename_i v hv;rw[hv] at i;simp only[SV.den] at i
       split at f
       .rename_i hn';simp at f;subst f;exact⟨none,0,0,by rw[i,wz hn'],rfl⟩
       .cases f
      .cases f
     obtain⟨ad,n,c,ex,D⟩:=R
     split at h
     .simp at h;subst h;exact go _ _ _ ex M (K ad n c ex D (.inl rfl)) (z7 j (wZ _) trivial)
     .simp at h;subst h;exact go _ _ _ ex M (K ad n c ex D (.inr rfl)) (z7 j (wZ _) trivial)
     .cases h
    .cases h
   .split at h
    case h_2=>cases h
    rename_i b f;obtain⟨S,O,z,e2⟩:=js3 I f j i s
    split at h
    .simp at h;subst h;exact go _ _ _ rfl rfl (by simp only[Sem.run_bind,O,Result.andThen_ok,z,S,Sem.run_pure]) (z7 j (wZ _) trivial)
    .simp at h;subst h;exact go _ _ _ rfl rfl (by simp only[Sem.run_bind,O,Result.andThen_ok,e2,S,Sem.run_pure]) (z7 j (wZ _) trivial)
    .cases h
theorem jwZ {U dst f:Nat} {x:Operand} (V:C.ok P) (E:o.op= .field U x f) (h:jC C σ dst (.field U x f)=some out) (H:Sat P B ρ σ.obj w)
 (n:SV.den P ρ (jQ σ x) (ev x)):jI P o ev w (jF P B ρ σ out):=by
 simp only[jC] at h
 split at h
 case h_2=>cases h
 rename_i ti S;obtain⟨rfl,D⟩:=V.ti _ _ S
 split at h
 case h_2=>cases h
 rename_i off ft r;obtain⟨r,q⟩:=jqI r
 split at h
 case h_2=>cases h
 rename_i l R;obtain⟨rfl,a⟩:=V.ti _ _ R;have p:ti.agg=true:=by
  cases b:ti.agg with
  |true=>rfl
  |false=>rw[D.flf b] at r;simp at r
 obtain⟨fs,z,_,O⟩:=D.str p q;obtain⟨fd,s,K,L⟩:=O f _ r;simp only at K L;obtain⟨_,_,_,_,_,G,_⟩:=qo a;have A:=jpK a;have g:∀cs:Array Value,ev x= .agg cs->l.agg=true->(execOp ev o).run P w= .ok (.value (.agg (cs.extract off (off+l.size)))) w:=by
  intro cs e b;simp[execOp,E,Instr.field,run_underlying z,s,e,asAgg,part,K,L,A,b,G]
 have k:∀(cs:Array Value) v,ev x= .agg cs->l.agg=false->cs[off]? =some v->(execOp ev o).run P w= .ok (.value v) w:=by
  intro cs v e b J;simp[execOp,E,Instr.field,run_underlying z,s,e,asAgg,part,K,L,A,b,J]
 split at h
 .rename_i cs m;rw[m] at n;simp only[SV.den] at n;obtain⟨vs,ex,W,Z⟩:=n
  split at h
  .rename_i b;simp at h;subst h;refine jk H (g vs ex b) ?_ trivial;simp only[SV.den];have X:(vs.extract off (off+l.size)).toList=(vs.toList.drop off).take l.size:=by
    simp[Array.toList_extract,List.extract_eq_take_drop]
   exact⟨_,rfl,by rw[X];exact jgn _ _ _ (jaw _ _ _ W),fun u I=>Z u (by rw[X] at I;exact jIq (jIr I))⟩
  .rename_i b
   split at h
   .rename_i v J;simp at h;subst h;obtain⟨u,I,M⟩:=jb2 W J;exact jk H (k vs u ex b I) M trivial
   .cases h
 .rename_i t d m;rw[m] at n;simp only[SV.den] at n
  split at h
  .rename_i y Q hk F;simp at h;subst h;obtain⟨T,ks⟩:=a.known hk;obtain⟨r1,r2,r3⟩:=n;have c:=jb1 t off l.ty d y _ F r3;have N:∃cs,ev x= .agg cs:=by
    rw[Q] at r1;cases J:ev x<;>simp_all [kU]
   obtain⟨cs,ex⟩:=N;rw[ex] at c;simp only[Value.cells] at c;cases b:l.agg with
   |true=>
    refine jk H (g cs ex b) ?_ trivial;simp only[SV.den];have Y:=(a.pos hk).1;have G:off+l.size<=cs.size:=by
     obtain⟨v,e,_⟩:=yn _ _ _ c (l.size-1) (by omega);have:=(jHc.1 e).1;omega
    refine⟨by simp[kU,T,b],by simp[Value.cells,ks];omega,l.ty.rd_congr _ _ _ (fun i hi=> ?_) c⟩;simp only[Value.cells];rw[Array.getElem?_extract];simp[show i<min (off+l.size) cs.size-off by omega]
   |false=>
    obtain⟨v,e,_⟩:=yn _ _ _ c 0 (by have:=(a.pos hk).1;omega);simp only[jIh] at e;refine jk H (k cs v ex b e) ?_ trivial;simp only[SV.den];exact kG (by rw[T,b]) (vk (f:=fun j=>cs[off+j]?) (by rw[T,b]) (by simpa using e) c)
  .cases h
 .cases h
theorem jCd (l:List Value):∀(off j:Nat) (cs:Array Value),off+j+l.length<=cs.size->
 ((l.zipIdx j).foldl (fun cs (c,j)=>cs.setIfInBounds (off+j) c) cs).toList=cs.toList.take (off+j)++l++cs.toList.drop (off+j+l.length):=by
 induction l with
 |nil=>intro off j cs h;simp
 |cons a l f=>
  intro off j cs h;simp only[jHD] at h;simp only[List.zipIdx_cons,List.foldl_cons];rw[show off+j+(a::l).length=off+(j+1)+l.length by simp;omega,f off (j+1) _ (by simp;omega)];simp only[Array.toList_setIfInBounds];have d:(cs.toList.set (off+j) a).take (off+(j+1))=cs.toList.take (off+j)++[a]:=by
   rw[List.take_set,show off+(j+1)=off+j+1 by omega,List.take_add_one];rw[List.set_append_right _ _ (by simp;omega)];have b:off+j<cs.toList.length:=(by simp;omega);have:cs.toList[off+j]? =some cs.toList[off+j]:=jG8 b;rw[this];have:off+j-(cs.toList.take (off+j)).length=0:=(by simp;omega);rw[this];simp
  have e:(cs.toList.set (off+j) a).drop (off+(j+1)+l.length)=cs.toList.drop (off+(j+1)+l.length):=by
   rw[List.drop_set_of_lt (by omega)]
  rw[d,e];simp
theorem jyC {ti:TI} (c:ti.ok P) (u:ti.agg=true) (v:ti.arr=false):∃fs a,P.underlying ti.id=some (.struct fs)/\
 fs.toList.mapM (fun f=>(P.info? f.type).map fun i=>(f.offset,i.size))=some a/\
 ∀(k:Nat) (p:Nat×Nat),ti.fields[k]? =some p->∃i,P.info? p.2=some i/\a[k]? =some (p.1,i.size):=by
 obtain⟨fs,r,s,t⟩:=c.str u v;have d:∀(fl:List Field) (l:List (Nat×Nat)),fl.length=l.length->(∀(k:Nat) (p:Nat×Nat),l[k]? =some p->∃f:Field,fl[k]? =some f/\f.offset=p.1/\f.type=p.2)->
  (∀(k:Nat) (p:Nat×Nat),l[k]? =some p->∃i,P.info? p.2=some i)->
  ∃a,fl.mapM (fun f=>(P.info? f.type).map fun i=>(f.offset,i.size))=some a/\∀(k:Nat) (p:Nat×Nat),l[k]? =some p->∃i,P.info? p.2=some i/\a[k]? =some (p.1,i.size):=by
  intro fl
  induction fl with
  |nil=>intro l e _ _;cases l with
   |nil=>exact⟨[],by simp,fun k p hk=>by simp at hk⟩
   |cons=>simp at e
  |cons f fl w=>
   intro l e m hi;cases l with
   |nil=>simp at e
   |cons p l=>
    obtain⟨a,g,h⟩:=w l (by simpa using e) (fun k q hk=>by simpa using m (k+1) q (by simpa using hk)) (fun k q hk=>hi (k+1) q (by simpa using hk));obtain⟨x,j,n,o⟩:=m 0 p (by simp);simp at j;subst j;obtain⟨i,b⟩:=hi 0 p (by simp);refine⟨(f.offset,i.size)::a,?_,fun k q hk=> ?_⟩
    .simp[List.mapM_cons,o,b,g]
    .cases k with
     |zero=>simp at hk;subst hk;exact⟨i,b,by simp[n]⟩
     |succ k=>simpa using h k q (by simpa using hk)
 obtain⟨a,g,h⟩:=d fs.toList ti.fields (by simpa using s) (fun k p hk=>by simpa using t k p hk) c.fok;exact⟨fs,a,r,g,h⟩
theorem yE (F:C.ok P) (G:Sat P B ρ σ.obj w) {fields:List (Nat×Nat)} {pl:Nat->Option (Nat×Nat)}
 (I:∀(k:Nat) (p:Nat×Nat),fields[k]? =some p->∃i,P.info? p.2=some i/\pl k=some (p.1,i.size)) (n:∀x,SV.den P ρ (jQ σ x) (ev x)):
 ∀(d:List (Nat×Operand)) (cs a:List SV) (vs:Array Value),vA C σ fields d cs=some a->SV.denL P ρ cs vs.toList->(∀u∈vs.toList,u.oneCell'=true)->
  ∃f,Instr.fill pl vs (d.map fun(i,x)=>(i,ev x))=some f/\SV.denL P ρ a f.toList/\∀u∈f.toList,u.oneCell'=true
 |[],cs,a,vs,h,y,v=>by
  simp[vA] at h;subst h
  exact⟨vs,rfl,y,v⟩
 | (j,x)::r,cs,a,vs,h,y,v=>by
  simp only[vA] at h
  split at h
  case h_2=>cases h
  rename_i off T N
  split at h
  case h_2=>cases h
  rename_i new W q E
  split at h
  case h_2=>cases h
  rename_i m g
  have m:=jG0 m
  have g:=jHg g
  obtain⟨K,s⟩:=F.ti _ _ E
  obtain⟨i,hi,t⟩:=I j _ N
  simp only at hi t
  obtain⟨V,z,A,L,_⟩:=s.info
  rw[K,hi] at A
  simp at A;subst A
  obtain⟨J,O⟩:=jeU G q (n x)
  have D:=zO _ _ y
  have o:=zO _ _ J
  have M:(ev x).cells.size=i.size:=by rw[<-jHA,<-o,m,L]
  simp only[jHA] at D o
  have b:=jCd (ev x).cells.toList off 0 vs (by simp;omega)
  obtain⟨f,Q,R,S⟩:=yE F G I n r _ a ((ev x).cells.zipIdx.foldl (fun cs (c,j)=>cs.setIfInBounds (off+j) c) vs) h (by
   have e:((ev x).cells.zipIdx.foldl (fun cs (c,j)=>cs.setIfInBounds (off+j) c) vs)=(((ev x).cells.toList.zipIdx 0).foldl (fun cs (c,j)=>cs.setIfInBounds (off+j) c) vs):=by
    rw[<-Array.foldl_toList];simp
   rw[e,b];simp only[jIh];exact jhT y J) (by
   have e:((ev x).cells.zipIdx.foldl (fun cs (c,j)=>cs.setIfInBounds (off+j) c) vs)=(((ev x).cells.toList.zipIdx 0).foldl (fun cs (c,j)=>cs.setIfInBounds (off+j) c) vs):=by
    rw[<-Array.foldl_toList];simp
   rw[e,b];intro u l;simp only[jHa] at l;rcases l with(l|l)|l
   .exact v u (jIr l)
   .exact O u l
   .exact v u (jIq l))
  refine⟨f,?_,R,S⟩;simp only[jH8,Instr.fill];rw[t];have H:¬((ev x).cells.size≠i.size\/off+(ev x).cells.size>vs.size):=(by omega);simp only[jHX,ne_eq,decide_eq_true_eq];rw[if_neg (by omega)];exact Q
theorem jeP:∀(l:List Value),SV.denL P ρ (l.map jlJ) l
 |[]=>by simp[SV.denL]
 |a::l=>by simp only[jH8,SV.denL];exact⟨a,l,rfl,jkX a,jeP l⟩
theorem jw2 {U dst:Nat} {a:Array (Nat×Operand)} (m:C.ok P) (g:o.op= .build U a) (h:jC C σ dst (.build U a)=some out) (l:Sat P B ρ σ.obj w)
 (f:∀x,SV.den P ρ (jQ σ x) (ev x)):jI P o ev w (jF P B ρ σ out):=by
 simp only[jC] at h
 split at h
 case h_2=>cases h
 rename_i ti t;obtain⟨rfl,c⟩:=m.ti _ _ t
 split at h
 case h_2=>cases h
 rename_i cs O e;simp at h;subst h;obtain⟨i,z,F,_,_,G,j,_⟩:=c.info;cases I:ti.arr with
 |true=>
  obtain⟨_,n,ie,L,H,M,R,_,_,N⟩:=c.arrk I;obtain⟨b,A,D,E⟩:=yE m l (pl:=fun i=>some (i*ie.size,ie.size)) (fun k p hk=>by
   have:=N k p hk;subst this;exact⟨ie,H,by rw[M];simp⟩) f a.toList _ cs z.cells e (by rw[j];exact jeP _) (fun u y=>c.one u (by rw[<-j];exact y))
  refine jk l (v:= .agg b) ?_ ?_ trivial
  .have q:P.built ti.id (a.map fun(i,x)=>(i,ev x)).toList=some b:=by
    unfold Program.built;simp only[F,L,G,H];simpa using A
   simp only[execOp,g,Sem.run_bind,run_build w ti.id _ b q,Result.andThen_ok];rfl
  .simp only[SV.den];exact⟨b,rfl,D,E⟩
 |false=>
 obtain⟨fs,d,r,s,Q⟩:=jyC c O I;obtain⟨b,A,D,E⟩:=yE m l (pl:=(d.toArray[·]?)) (fun k p hk=>by obtain⟨i,J,K⟩:=Q k p hk;exact⟨i,J,by simpa using K⟩) f a.toList _ cs z.cells e (by rw[j];exact jeP _) (fun u y=>c.one u (by rw[<-j];exact y));refine jk l (v:= .agg b) ?_ ?_ trivial
 .have q:P.built ti.id (a.map fun(i,x)=>(i,ev x)).toList=some b:=by
   unfold Program.built;simp only[F,r,G,s];simpa using A
  simp only[execOp,g,Sem.run_bind,run_build w ti.id _ b q,Result.andThen_ok];rfl
 .simp only[SV.den];exact⟨b,rfl,D,E⟩
theorem gC {τ:St} (s:Sat P B ρ τ.obj w) {fz:List Nat} (q:Frz σ τ fz) {t:Ty} (e:∀x,SV.den P ρ (jQ σ x) (ev x)):
 ∀(a:List (Nat×Operand)) (i:Nat) (l:List t.Data) (b:List Nat),jdc σ t a i=some (l,b)->(∀o,o∈b->o∈fz)->
  ∃vs:List Value,a.map (fun(i,x)=>(i,ev x))=(vs.zipIdx i).map (fun x=>(x.2,x.1))/\vs.length=l.length/\(∀v∈vs,v.cells.size=t.size)/\∀(k:Nat) v x,vs[k]? =some v->l[k]? =some x->t.rv ρ.H v x
 |[],i,l,b,h,_=>by
  simp[jdc] at h
  obtain⟨rfl,_⟩:=h
  exact⟨[],rfl,rfl,fun v m=>by simp at m,fun k v x hk=>by simp at hk⟩
 | (j,x)::r,i,l,b,h,hs=>by
  simp only[jdc] at h
  split at h
  case h_2=>cases h
  rename_i c
  have c:=jG0 c
  subst c
  split at h
  case h_2=>cases h
  rename_i d f E
  split at h
  case h_2=>cases h
  rename_i l' D F
  simp at h
  obtain⟨rfl,rfl⟩:=h
  obtain⟨vs,u,z,A,C⟩:=gC s q e r (i+1) l' D F (fun o n=>hs o (jG1 _ n))
  have g:=jT s q E (fun o n=>hs o (jG2 _ n)) (e x)
  refine⟨ev x::vs,by simp[u],by simp[z],?_,?_⟩
  .intro v m
   rcases jG4.1 m with rfl|m
   .exact g.2.1
   .exact A v m
  .intro k v y hk p
   cases k with
   |zero=>simp at hk p;subst hk p;exact g
   |succ k=>exact C k v y (by simpa using hk) (by simpa using p)
theorem jkM {s:Nat}:∀(vs:List Value),(∀v∈vs,v.cells.size=s)->∀(i j:Nat) (v:Value),vs[i]? =some v->j<s->(vs.flatMap fun v=>v.cells.toList)[i*s+j]? =v.cells[j]?
 |[],_,i,j,v,h,_=>by simp at h
 |u::vs,hs,i,j,v,h,hj=>by
  have a:u.cells.size=s:=hs u jHH
  simp only[List.flatMap_cons]
  cases i with
  |zero=>simp at h;subst h;simp only[Nat.zero_mul,jH7];rw[jHf (by simp;omega)];simp
  |succ i=>
   rw[jHe (by simp[a,jHM];omega)]
   have:=jkM vs (fun v b=>hs v (jHb _ b)) i j v (by simpa using h) hj
   rw[<-this]
   congr 1
   simp[a,jHM];omega
theorem jot {s:Nat}:∀(vs:List Value),(∀v∈vs,v.cells.size=s)->(vs.flatMap fun v=>v.cells.toList).length=vs.length*s
 |[],_=>by simp
 |u::vs,hs=>by
  have a:u.cells.size=s:=hs u jHH
  simp only[List.flatMap_cons,jHo,jHD,jHA,a,jot vs (fun v b=>hs v (jHb _ b))]
  rw[jHM];omega
end
end Go.X
namespace Go.X
open Go.RowKit (Below)
section
variable {P:Program} {B:zV} {C:Ctx} {σ:St} {ρ:Env} {w:World} {o:Oper} {ev:Operand->Value} {out:Out}
def jnl (obj:Nat->Option Ob) (own:Option Nat) (dst:Nat) (x:Ob):Nat->Option Ob:=fun o=>if o=dst then some x else if own=some o then none else obj o
theorem jjP (f:Sat P B ρ σ.obj w) {own:Option Nat} {dst:Nat} (Y:σ.obj dst=none) (Z:kN σ.obj dst) {w':World} {row:Option Nat} (A:w.grownBy w' row) (M:w.drawn<=w'.drawn)
 (j:∀g,row=some g->∃o C,own=some o/\ρ.blk o=some (some (g,C))/\ρ.H g=none) (k:Option (Nat×Nat)) (t:∀b C,k=some (b,C)->row=some b\/b=w.heap.size) (len:Nat) (x:Ob)
 (hx:∀a:Env,a.H=ρ.H->a.len dst=len->ρ.le a [dst]->zq P a w' dst k x):
 ∃a,Sat P B a (jnl σ.obj own dst x) w'/\ρ.le a [dst]/\a.blk dst=some k/\a.len dst=len/\a.H=ρ.H:=by
 have X:=f.dead dst Y
 let a:Env:={H:=ρ.H,blk:=fun o=>if o=dst then some k else if own=some o then none else ρ.blk o,len:=fun o=>if o=dst then len else ρ.len o}
 have D:ρ.le a [dst]:=⟨fun _ _ h=>h,fun o p G v=>by
  have G:o≠dst:=(by simpa using G);simp only[a,G,if_false] at v
  split at v
  .cases v
  .exact v,fun o G=>by simp[a,show o≠dst by simpa using G]⟩
 have N:∀b,ρ.H b≠none->row≠some b:=fun b z e=>by
  obtain⟨_,_,_,_,h⟩:=j b e;exact z h
 refine⟨a,⟨A.os.trans f.os,A.tape.trans f.tape,A.output.trans f.output,jHi f.drawn M,jHi f.size A.size,?_,f.oldH,?_,?_,?_,?_,?_⟩,D,by simp[a],by simp[a],rfl⟩
 .refine⟨fun b c z=> ?_,f.good.2⟩;have:=N b (by show ρ.H b≠none;rw[show ρ.H b=some c from z];simp);rw[A.block b (f.good.lt z) (fun e=>this e.symm)];exact f.good.1 b c z
 .intro b z F;have d:=f.size;rw[A.block b (by omega) (fun e=> ?_)]
  .exact f.old b z F
  .obtain⟨o',C',_,y,_⟩:=j b e.symm;rcases f.own o' b C' y with l|l
   .omega
   .exact F l
 .intro o' x' i;unfold jnl at i;by_cases e:o'=dst
  .subst e;rw[if_pos rfl] at i;simp at i;subst i;exact⟨_,by simp[a],hx a rfl (by simp[a]) D⟩
  .rw[if_neg e] at i;by_cases r:own=some o'
   .rw[if_pos r] at i;cases i
   .rw[if_neg r] at i;obtain⟨p,v,hs⟩:=f.obs o' x' i;refine⟨p,by simp[a,e,r,v],jU D (by simpa using e) (fun T fz cs L o'' u=> ?_) (fun b C O=>⟨rfl,?_⟩) hs⟩
    .simp at u;subst u;exact Z o' T fz cs (by rw[i,L])
    .subst O;refine A.block b (vV f v).1 fun S=> ?_
     obtain⟨o2,q,d,l,_⟩:=j b S.symm;exact r (by rw[d,f.inj o2 o' b q C l v])
 .intro o' m;unfold jnl at m;by_cases e:o'=dst
  .rw[if_pos e] at m;cases m
  .rw[if_neg e] at m;by_cases r:own=some o'
   .simp[a,e,r]
   .rw[if_neg r] at m;simp[a,e,r,f.dead o' m]
 .have one:∀o2 b n q,k=some (b,n)->o2≠dst->own≠some o2->ρ.blk o2=some (some (b,q))->False:=by
   intro o2 b n q d _ V R;rcases t b n d with E|E
   .obtain⟨Q,I,W,K,_⟩:=j b E;exact V (by rw[W,f.inj Q o2 b I q K R])
   .have:=(vV f R).1;omega
  intro o1 o2 b n q d l;simp only[a] at d l;by_cases s:o1=dst<;>by_cases y:o2=dst
  .rw[s,y]
  .simp[s] at d;simp only[y,if_false] at l
   split at l
   .cases l
   .rename_i J;exact(one o2 b n q d y J l).elim
  .simp[y] at l;simp only[s,if_false] at d
   split at d
   .cases d
   .rename_i J;exact(one o1 b q n l s J d).elim
  .simp only[s,y,if_false] at d l
   split at d
   .cases d
   .split at l
    .cases l
    .exact f.inj o1 o2 b n q d l
 .intro o1 b n d;simp only[a] at d;by_cases s:o1=dst
  .simp[s] at d;rcases t b n d with E|E
   .obtain⟨Q,I,_,K,_⟩:=j b E;exact f.own Q b I K
   .have:=f.size;exact .inl (by omega)
  .simp only[s,if_false] at d
   split at d
   .cases d
   .exact f.own o1 b n d
theorem jBt (d:Sat P B ρ σ.obj w) {q l z:Nat} (I:ρ.blk q=some (some (l,z))) (L:ρ.H l=none) (W:kN σ.obj q) {w':World} (u:w.grownBy w' (some l)) (N:w.drawn<=w'.drawn)
 (g s:Nat) (n:g=l\/g=w.heap.size) (len:Nat) (x:Ob) (Y:∀a:Env,a.H=ρ.H->a.len q=len->ρ.le a [q]->zq P a w' q (some (g,s)) x):
 ∃a,Sat P B a (jgC σ.obj q (some x)) w'/\ρ.le a [q]/\a.blk q=some (some (g,s))/\a.len q=len/\a.H=ρ.H:=by
 let a:Env:={H:=ρ.H,blk:=fun o=>if o=q then some (some (g,s)) else ρ.blk o,len:=fun o=>if o=q then len else ρ.len o}
 have v:ρ.le a [q]:=⟨fun _ _ h=>h,fun o p F G=>by
  have F:o≠q:=(by simpa using F);simpa only[a,F,if_false] using G,fun o F=>by simp[a,show o≠q by simpa using F]⟩
 have O:∀b,ρ.H b≠none->b≠l:=fun b t e=>by subst e;exact t L
 have V:l<w.heap.size:=(vV d I).1;refine⟨a,⟨u.os.trans d.os,u.tape.trans d.tape,u.output.trans d.output,jHi d.drawn N,jHi d.size u.size,?_,d.oldH,?_,?_,?_,?_,?_⟩,v,by simp[a],by simp[a],rfl⟩
 .refine⟨fun b c t=> ?_,d.good.2⟩;have:=O b (by show ρ.H b≠none;rw[show ρ.H b=some c from t];simp);rw[u.block b (d.good.lt t) (fun e=>this (by simpa using e))];exact d.good.1 b c t
 .intro b t E;have f:=d.size;rw[u.block b (by omega) (fun e=> ?_)]
  .exact d.old b t E
  .have e:b=l:=(by simpa using e);subst e;rcases d.own q b z I with j|j
   .omega
   .exact E j
 .intro o' x' i;unfold jgC at i;by_cases e:o'=q
  .subst e;rw[if_pos rfl] at i;simp at i;subst i;exact⟨_,by simp[a],Y a rfl (by simp[a]) v⟩
  .rw[if_neg e] at i;obtain⟨p,G,X⟩:=d.obs o' x' i;refine⟨p,by simp[a,e,G],jU v (by simpa using e) (fun T fz cs M Z r=> ?_) (fun b C Q=>⟨rfl,?_⟩) X⟩
   .simp at r;subst r;exact W o' T fz cs (by rw[i,M])
   .subst Q;refine u.block b (vV d G).1 fun K=> ?_
    have K:b=l:=(by simpa using K);subst K;exact e (d.inj o' q b C z G I)
 .intro o' k;unfold jgC at k;by_cases e:o'=q
  .rw[if_pos e] at k;cases k
  .rw[if_neg e] at k;simp[a,e,d.dead o' k]
 .have one:∀o2 y,o2≠q->ρ.blk o2=some (some (g,y))->False:=by
   intro o2 y S R;rcases n with D|D
   .subst D;exact S (d.inj o2 q g y z R I)
   .have:=(vV d R).1;omega
  intro o1 o2 b J y f j;simp only[a] at f j;by_cases m:o1=q<;>by_cases A:o2=q
  .rw[m,A]
  .simp[m] at f;simp only[A,if_false] at j;rw[<-f.1] at j;exact(one o2 y A j).elim
  .simp[A] at j;simp only[m,if_false] at f;rw[<-j.1] at f;exact(one o1 J m f).elim
  .simp only[m,A,if_false] at f j;exact d.inj o1 o2 b J y f j
 .intro o1 b J f;simp only[a] at f;by_cases m:o1=q
  .simp[m] at f;rcases n with D|D
   .rw[<-f.1,D];exact d.own q l z I
   .have:=d.size;exact .inl (by omega)
  .simp only[m,if_false] at f;exact d.own o1 b J f
theorem jtO {H:Imm} {t:Ty} (f:Nat->Option Value) (l:List t.Data) (h:∀(i:Nat) x,l[i]? =some x->t.rd H (fun j=>f (i*t.size+j)) x):
 ∃us:List Value,us.length=l.length*t.size/\(∀(j:Nat) u,us[j]? =some u->f j=some u)/\(∀u∈us,u.oneCell'=true)/\∀(i:Nat) x,l[i]? =some x->t.rd H (fun j=>us[i*t.size+j]?) x:=by
 have key:∀k,k<l.length*t.size->∃v,f k=some v/\v.oneCell'=true:=by
  intro k hk;have g:0<t.size:=by
   rcases jIf t.size with c|c
   .rw[c] at hk;simp at hk
   .exact c
  have hi:k/t.size<l.length:=(Nat.div_lt_iff_lt_mul g).2 hk;obtain⟨v,n,b⟩:=yn t _ _ (h _ _ (jG8 hi)) (k%t.size) (Nat.mod_lt _ g);refine⟨v,?_,b⟩;rw[<-n];congr 1;rw[Nat.mul_comm];exact(Nat.div_add_mod _ _).symm
 refine⟨(List.range (l.length*t.size)).map fun k=>(f k).getD undef,by simp,fun j u a=> ?_,fun u a=> ?_,fun i x m=> ?_⟩
 .rw[jIj] at a;by_cases d:j<l.length*t.size
  .rw[List.getElem?_range d] at a;simp at a;obtain⟨v,e,_⟩:=key j d;rw[e] at a⊢;simpa using a
  .rw[List.getElem?_eq_none (by simp;omega)] at a;simp at a
 .simp only[jHy,jHj] at a;obtain⟨k,hk,rfl⟩:=a;obtain⟨v,e,b⟩:=key k hk;rw[e];exact b
 .have hi:i<l.length:=(jG6.1 m).1;refine t.rd_congr _ _ _ (fun j d=> ?_) (h i x m);have hk:i*t.size+j<l.length*t.size:=by
   have:(i+1)*t.size<=l.length*t.size:=jHm _ hi;rw[jHM] at this;omega
  rw[jIj,List.getElem?_range hk];obtain⟨v,e,_⟩:=key _ hk;simp[e]
structure Src (H:Imm) (w:World) (t:Ty) (v:Value) (l:List t.Data):Prop where
 len:l.length<4611686018427387904
 val:(v= .slice none 0 0/\l=[])\/∃(ad:Addr) (c:Nat) (us:List Value),v= .slice (some ad) l.length c/\us.length=l.length*t.size/\(∀(j:Nat) u,us[j]? =some u->w.cell? (ad.add j)=some u)/\
  (∀u∈us,u.oneCell'=true)/\∀(i:Nat) x,l[i]? =some x->t.rd H (fun j=>us[i*t.size+j]?) x
theorem jxX {H:Imm} {t:Ty} {l:List t.Data} {v:Value} {b off c:Nat} {vs:Array Value} {T:Nat} {d:Nat×Nat} (a:l.length<4611686018427387904) (o:w.heap[b]? =some (.cells vs T d))
 (n:v= .slice (some ⟨b,off,none⟩) l.length c) (h:∀(i:Nat) x,l[i]? =some x->t.rd H (fun j=>vs[off+i*t.size+j]?) x):Src H w t v l:=by
 obtain⟨us,e,f,g,k⟩:=jtO (H:=H) (t:=t) (fun j=>vs[off+j]?) l (fun i x p=>t.rd_congr _ _ _ (fun j _=>by simp only[jIa]) (h i x p));exact⟨a,.inr ⟨_,c,us,n,e,fun j u m=>by rw[qz,jk5 o];exact f j u m,g,k⟩⟩
theorem juh {H:Imm} {t:Ty} {v:Value} {ad:Addr} {c:Nat} (b:v= .slice (some ad) 0 c):Src H w t v []:=
 ⟨by simp,.inr ⟨ad,c,[],b,by simp,fun j u a=>by simp at a,fun u a=>by simp at a,fun i x d=>by simp at d⟩⟩
theorem jgi (D:Sat P B ρ σ.obj w) {t:Ty} {sv:SV} {l:List t.Data} (h:yF σ t sv=some l) {v:Value} (g:SV.den P ρ sv v):Src ρ.H w t v l:=by
 unfold yF at h
 split at h
 .rename_i Q d;obtain⟨e,rfl⟩:=jm h;subst e;simp only[SV.den] at g;obtain⟨a,n,c,f,o,V,A,W,C⟩:=zp (t:= .slice t) rfl g;simp at f;simp only[qw];cases a with
  |none=>
   have F:=W rfl;have I:n=0:=(by omega);subst F I;have:d=[]:=jHL o.symm;exact⟨A,.inl ⟨f,this⟩⟩
  |some ad=>
   by_cases s:d=[]
   .subst s;simp at o;subst o;exact juh f
   .obtain⟨b,off,blk,e,X,Y⟩:=C s;simp at e;subst e;obtain⟨T,fr,y⟩:=D.good.cells X;exact jxX A y (by rw[f,o]) Y
 .rename_i ob u
  split at h
  .rename_i E Q fz nl l' k;obtain⟨e,rfl⟩:=jm h;cases e;simp only[qw];obtain⟨p,J,O,M,z⟩:=D.obs ob _ k;simp only[SV.den] at g;have g:=g p J;cases p with
   |none=>
    obtain⟨f,_⟩:=g;exact⟨M,.inl ⟨f,z.1⟩⟩
   |some q=>
    obtain⟨b,R⟩:=q;obtain⟨f,o⟩:=g;obtain⟨_,vs,y,L,G,_,K,_⟩:=z;exact jxX M y (by rw[f,O]) (fun i x m=>t.rd_congr _ _ _ (fun j _=>by simp) (K i x m))
  .cases h
 .rename_i ob u lo n
  split at h
  .rename_i E Q fz nl l' k
   split at h
   .rename_i Z F;obtain⟨f,rfl⟩:=jm F;obtain⟨e,rfl⟩:=jm h;cases f;cases e;simp only[qw];obtain⟨p,J,O,M,z⟩:=D.obs ob _ k;simp only[SV.den] at g;have g:=g p J;cases p with
    |none=>
     obtain⟨f,rfl⟩:=g;exact⟨by simp,.inl ⟨f,by simp⟩⟩
    |some q=>
     obtain⟨b,R⟩:=q;obtain⟨a,S,f,o,V,A,C⟩:=g;obtain⟨_,vs,y,L,G,_,K,_⟩:=z;have r:((l'.drop lo).take n).length=n:=(by simp;omega);rcases jIf n with N|N
     .subst N;simp only[List.take_zero];exact juh f
     .rw[C (.inr (by omega))] at f;refine jxX (by omega) y (by rw[f,r]) (fun i x m=> ?_);rw[jIg] at m
      split at m
      .rw[jHI] at m;have:=K _ _ m;refine t.rd_congr _ _ _ (fun j _=> ?_) this;simp only[jHP]
      .cases m
   .cases h
  .cases h
 .rename_i u
  split at h
  .rename_i I;simp at h;subst h;simp only[SV.den] at g;exact⟨by simp,.inl ⟨by rw[g,wz I],rfl⟩⟩
  .cases h
 .cases h
theorem jlA {ti te:TI} {U:Nat} (E:C.ok P) (k:C.slice U=some (ti,te)) {v x:Value} {n:Nat} {xs:List Value} (a:w.ownsRow 0 ti.elem te.ty.size v n xs) {l:List te.ty.Data} (g:Src ρ.H w te.ty x l)
 (D:n<4611686018427387904) (F:(n+l.length)*te.bytes<=140737488355328) (ty:Nat):
 ∃(e:Value) (w':World) (us:List Value),(Builtin.append_ #[U,U] ty #[v,x]).run P w= .ok e w'/\w'.ownsRow 0 ti.elem te.ty.size e (n+l.length) (xs++us)/\w.grownBy w' v.ownBlock/\
  (e= .slice none 0 0↔v= .slice none 0 0/\l=[])/\(e.ownBlock=v.ownBlock\/e.ownBlock=some w.heap.size)/\us.length=l.length*te.ty.size/\
  ∀(i:Nat) x,l[i]? =some x->te.ty.rd ρ.H (fun j=>us[i*te.ty.size+j]?) x:=by
 obtain⟨_,m,_,b,d,G,f,q⟩:=zI E k;obtain⟨i,z,h,r,s,t,u,_⟩:=b.info;rw[m] at h;obtain⟨p,⟨rfl,rfl⟩|⟨ad,c,us,rfl,o,y,A,B⟩⟩:=g
 .refine⟨v,w,[],run_append_owned_none w 0 U ty ti.elem i te.ty.size d h v n xs a,by simpa using a,⟨rfl,rfl,rfl,jG5 _,fun _ _ _=>rfl⟩,by simp,.inl rfl,by simp,fun i x I=>by simp at I⟩
 .obtain⟨e,w',J,K,L,M,N⟩:=run_append_own_at (P:=P) w 0 U ty ti.elem i z te.ty.size te.bytes d h t (by rw[f,r]) s (by rw[f,<-b.zlen,<-u];simp) (by omega) v n xs a ad l.length c us o y A
   (by simp only[maxLen];omega) F (jHd _)
  exact⟨e,w',us,J,K,L,by rw[M];simp,N,o,B⟩
theorem jBl {ti te:TI} {o:Value} {w':World} {n m:Nat} {xs us:List Value} {l' c:List te.ty.Data} (d:w'.ownsRow 0 ti.elem te.ty.size o (n+m) (xs++us)) (k:l'.length=n) (z:c.length=m)
 (l:xs.length=n*te.ty.size) (_:us.length=m*te.ty.size) {H:Imm}
 (p:∀(i:Nat) x,l'[i]? =some x->te.ty.rd H (fun j=>xs[i*te.ty.size+j]?) x) (q:∀(i:Nat) x,c[i]? =some x->te.ty.rd H (fun j=>us[i*te.ty.size+j]?) x):
 (o= .slice none 0 0/\n+m=0)\/∃(g a:Nat) (vs:Array Value),o= .slice (some ⟨g,0,none⟩) (n+m) a/\w'.heap[g]? =some (.cells vs ti.elem (0,0))/\vs.size=a*te.ty.size/\n+m<=a/\a<=maxLen/\
  ∀(i:Nat) x,(l'++c)[i]? =some x->te.ty.rd H (fun j=>vs[i*te.ty.size+j]?) x:=by
 obtain⟨A,⟨rfl,s⟩|⟨g,a,vs,rfl,_,t,u,v,w,y⟩⟩:=d
 .exact .inl ⟨rfl,s⟩
 .refine .inr ⟨g,a,vs,rfl,t,w,u,v,fun i x e=> ?_⟩;have hi:i<n+m:=(by have:=(jG6.1 e).1;simp at this;omega);have b:∀j,j<te.ty.size->(xs++us)[i*te.ty.size+j]? =vs[i*te.ty.size+j]? :=by
   intro j f;have:(i+1)*te.ty.size<=(n+m)*te.ty.size:=jHm _ hi;rw[jHM] at this;rw[<-y,jHr (by omega)];simp
  by_cases h:i<n
  .rw[jHf (by omega)] at e;refine te.ty.rd_congr _ _ _ (fun j f=> ?_) (p i x e);rw[<-b j f,jHf];have:(i+1)*te.ty.size<=n*te.ty.size:=jHm _ h;rw[jHM] at this;omega
  .rw[jHe (by omega),k] at e;refine te.ty.rd_congr _ _ _ (fun j f=> ?_) (q _ x e);have r:n*te.ty.size<=i*te.ty.size:=jHm _ (by omega);rw[<-b j f,jHe (by omega),l];congr 1;rw[Nat.sub_mul];omega
theorem jeh {U:Nat} {ti te:TI} (a:C.slice U=some (ti,te)):kr te.ty=true:=by
 unfold Ctx.slice at a
 split at a
 .split at a
  .split at a
   .split at a
    .rename_i hk;simp at a;rw[<-a.2];exact hk
    .cases a
   .cases a
  .cases a
 .cases a
theorem jdP {ti te:TI} {U dst:Nat} {c:Call} {b x:Operand} (hC:C.ok P) (R:o.op= .call c) (O:c.callee= .builtin .append) (r:c.args= #[b,x]) (G:c.argTypes= #[U,U])
 (d:C.slice U=some (ti,te)) (N:Sat P B ρ σ.obj w) (hd:σ.obj dst=none) (hn:kN σ.obj dst) {own:Option Nat} {n:Nat} {xs:List Value} {l' a:List te.ty.Data}
 (A:l'.length=n) (S:xs.length=n*te.ty.size) (hlt:n<4611686018427387904) (h1:∀(i:Nat) x,l'[i]? =some x->te.ty.rd ρ.H (fun j=>xs[i*te.ty.size+j]?) x)
 {row:Option Nat} (m:∀g,row=some g->∃o C,own=some o/\ρ.blk o=some (some (g,C))/\ρ.H g=none)
 (hX:∃(v:Value) (w':World) (us:List Value),(Builtin.append_ #[U,U] o.type #[ev b,ev x]).run P w= .ok v w'/\w'.ownsRow 0 ti.elem te.ty.size v (n+a.length) (xs++us)/\w.grownBy w' row/\
  (v= .slice none 0 0↔ev b= .slice none 0 0/\a=[])/\(v.ownBlock=row\/v.ownBlock=some w.heap.size)/\us.length=a.length*te.ty.size/\
  ∀(i:Nat) x,a[i]? =some x->te.ty.rd ρ.H (fun j=>us[i*te.ty.size+j]?) x) (hb:(n+a.length)*te.bytes<=140737488355328) {nl:Nl}
 (hA:ev b= .slice none 0 0->a=[]->nl≠.no) (hB:nl= .yes->¬(ev b= .slice none 0 0/\a=[])->l'++a≠[])
 {vc:List Prop} {wr:List (Nat×Option Ob)} (I:({σ with ob:=wr++σ.ob}:St).obj=jnl σ.obj own dst (.row ti.elem te.ty false nl (l'++a))):
 jI P o ev w (jF P B ρ σ ⟨vc,[],.own dst te.ty,[],wr,[dst]⟩):=by
 obtain⟨_,hte,_,E,_,_,_,_⟩:=zI hC d;obtain⟨v,w',us,X,r2,r3,r4,Y,r6,r7⟩:=hX;have s:0<te.bytes:=by
  have:kr te.ty=true:=by
   unfold Ctx.slice at d
   split at d
   .split at d
    .split at d
     .split at d
      .rename_i hk;simp at d;rw[<-d.2];exact hk
      .cases d
     .cases d
    .cases d
   .cases d
  exact(E.pos this).2
 have e:(l'++a).length=n+a.length:=(by simp[A]);have l:n+a.length<4611686018427387904:=by
  have:(n+a.length)*1<=(n+a.length)*te.bytes:=jIk _ s;omega
 have F:(execOp ev o).run P w= .ok (.value v) w':=by
  simp only[execOp,R,Sem.run_bind,resolve,O,r,G,Sem.run_pure,Result.andThen_ok,invoke,builtin];simp[X]
 refine zo F ?_;have t:=jBl (te:=te) (ti:=ti) r2 A rfl S r6 h1 r7;rcases t with⟨y,L⟩|⟨g,K,vs,y,L,e3,Z,e5,e6⟩
 .obtain⟨f1,f2⟩:=r4.1 y;have D:l'++a=[]:=jHL (by omega);obtain⟨k,T,V,W,J,q5⟩:=jjP N (own:=own) hd hn r3 (zT _ X) m none (by simp) (n+a.length) (.row ti.elem te.ty false nl (l'++a)) (fun k _ f _=>
   ⟨by rw[f,e],by rw[e];exact l,D,hA f1 f2⟩)
  refine⟨k,?_,V,?_,trivial⟩
  .show Sat P B k ({σ with ob:=wr++(qG σ []++σ.ob)}:St).obj _;simp only[qG,jHz];rw[I];exact T
  .simp only[SV.den];intro p u;rw[W] at u;simp at u;subst u;exact⟨y,by rw[J];exact L⟩
 .have Q:¬(ev b= .slice none 0 0/\a=[]):=fun h=>by have:=r4.2 h;rw[y] at this;cases this
  have q:row=some g\/g=w.heap.size:=by
   rw[y] at Y;simp only[Value.ownBlock,Option.some.injEq] at Y;rcases Y with h|h
   .exact .inl h.symm
   .exact .inr h
  have M:ρ.H g=none:=by
   rcases q with h|h
   .obtain⟨_,_,_,_,h⟩:=m g h;exact h
   .subst h;cases O:ρ.H w.heap.size with
    |none=>rfl
    |some c=>have:=N.good.lt O;omega
  obtain⟨k,T,V,W,J,q5⟩:=jjP N (own:=own) hd hn r3 (zT _ X) m (some (g,K)) (fun b C z=>by simp at z;rw[<-z.1];exact q) (n+a.length) (.row ti.elem te.ty false nl (l'++a)) (fun k hH f _=>
   ⟨by rw[f,e],by rw[e];exact l,fun h=>hB h Q,vs,L,e3,by rw[e];exact Z,e5,fun i x hx=>by rw[hH];exact e6 i x hx,by rw[hH];exact M⟩)
  refine⟨k,?_,V,?_,trivial⟩
  .show Sat P B k ({σ with ob:=wr++(qG σ []++σ.ob)}:St).obj _;simp only[qG,jHz];rw[I];exact T
  .simp only[SV.den];intro p u;rw[W] at u;simp at u;subst u;exact⟨by rw[y,J],by rw[J];exact Z⟩
theorem kk {ti te:TI} {U dst:Nat} {c:Call} {b x:Operand} (s:C.ok P) (q:o.op= .call c) (A:c.callee= .builtin .append) (e:c.args= #[b,x]) (m:c.argTypes= #[U,U])
 (k:C.slice U=some (ti,te)) (z:Sat P B ρ σ.obj w) (D:σ.obj dst=none) (E:kN σ.obj dst) {own:Option Nat} {n:Nat} {xs:List Value} {l' a:List te.ty.Data}
 (d:w.ownsRow 0 ti.elem te.ty.size (ev b) n xs) (p:l'.length=n) (f:n<4611686018427387904) (u:∀(i:Nat) x,l'[i]? =some x->te.ty.rd ρ.H (fun j=>xs[i*te.ty.size+j]?) x)
 (h:∀g,(ev b).ownBlock=some g->∃o C,own=some o/\ρ.blk o=some (some (g,C))/\ρ.H g=none)
 (l:Src ρ.H w te.ty (ev x) a) (t:(n+a.length)*te.bytes<=140737488355328) {nl:Nl}
 (v:ev b= .slice none 0 0->a=[]->nl≠.no) (y:nl= .yes->¬(ev b= .slice none 0 0/\a=[])->l'++a≠[])
 {vc:List Prop} {wr:List (Nat×Option Ob)} (r:({σ with ob:=wr++σ.ob}:St).obj=jnl σ.obj own dst (.row ti.elem te.ty false nl (l'++a))):
 jI P o ev w (jF P B ρ σ ⟨vc,[],.own dst te.ty,[],wr,[dst]⟩):=by
 exact jdP s q A e m k z D E p d.1 f u h (jlA (P:=P) s k d l f t o.type) t v y r
theorem yg (σ:St) {o dst:Nat} (x:Ob) (a:o≠dst):({σ with ob:=[(o,none),(dst,some x)]++σ.ob}:St).obj=jnl σ.obj (some o) dst x:=funext fun k=>by
 simp only[jHx,jHz]
 rw[wS,wS]
 unfold jnl
 by_cases e:k=o
 .subst e;simp[a]
 .by_cases b:k=dst
  .subst b;simp[e]
  .have:o≠k:=fun h=>e h.symm
   simp[e,b,this,St.obj]
theorem gL (σ:St) {dst:Nat} (x:Ob):({σ with ob:=[(dst,some x)]++σ.ob}:St).obj=jnl σ.obj none dst x:=funext fun k=>by
 simp only[jHx,jHz]
 rw[wS]
 unfold jnl
 by_cases a:k=dst
 .subst a;simp
 .simp[a,St.obj]
theorem jnH {E:Nat} {t:Ty} {vs:Array Value} {b a m:Nat} (f:w.heap[b]? =some (.cells vs E (0,0))) (d:vs.size=a*t.size) (e:m<=a) (c:a<=maxLen):
 w.ownsRow 0 E t.size (.slice (some ⟨b,0,none⟩) m a) m (vs.toList.take (m*t.size)):=by
 have:m*t.size<=a*t.size:=jHm _ e;exact⟨by simp;omega,.inr ⟨b,a,vs,rfl,jHd _,f,e,c,d,rfl⟩⟩
theorem jfz {t:Ty} {vs:Array Value} {H:Imm} {l:List t.Data} {m:Nat} (b:∀(i:Nat) x,l[i]? =some x->t.rd H (fun j=>vs[i*t.size+j]?) x) (_:m<=l.length):
 ∀(i:Nat) x,(l.take m)[i]? =some x->t.rd H (fun j=>(vs.toList.take (m*t.size))[i*t.size+j]?) x:=by
 intro i x a;rw[jIg] at a
 split at a
 .rename_i hi;refine t.rd_congr _ _ _ (fun j c=> ?_) (b i x a);have:(i+1)*t.size<=m*t.size:=jHm _ hi;rw[jHM] at this;rw[jHr (by omega)];simp
 .cases a
theorem jbU (z:Array Value) (n m:Nat):(Builtin.zeroCells z n)[m]? =if m<n*z.size then some (z[m%z.size]!) else none:=by
 unfold Builtin.zeroCells;rw[Array.getElem?_map];by_cases h:m<n*z.size
 .rw[if_pos h,jHv (by simpa using h)];simp
 .rw[if_neg h,Array.getElem?_eq_none (by simpa using Nat.le_of_not_lt h)];rfl
theorem q6 (z:Array Value) (n:Nat):(Builtin.zeroCells z n).size=n*z.size:=by simp[Builtin.zeroCells]
theorem jwS {dst:Nat} {c:Call} {b x:Operand} {U R:Nat} (hC:C.ok P) (hop:o.op= .call c) (W:c.callee= .builtin .append) (s:c.args= #[b,x]) (M:c.argTypes= #[U,R])
 (h:jDu C σ dst b x U R=some out) (hS:Sat P B ρ σ.obj w) (F:∀x,SV.den P ρ (jQ σ x) (ev x)) (O:k8 out.vc) (hd:σ.obj dst=none) (hn:kN σ.obj dst):jI P o ev w (jF P B ρ σ out):=by
 unfold jDu at h
 split at h
 case h_2=>cases h
 rename_i ti te tx a htx
 split at h
 case h_2=>cases h
 rename_i v n hb Q hty T
 split at h
 case h_2=>cases h
 rename_i I;simp at h;subst h;simp only[k8] at O;obtain⟨S,q,_⟩:=O;obtain⟨_,hte,_,f,N,hka,hks,K⟩:=zI hC a;obtain⟨i,z,g0,g1,g2,g3,g4,g5⟩:=f.info;rw[hte] at g0;obtain⟨X,J⟩:=hC.ti _ _ htx;obtain⟨d,u1,_,_,_,_,u2,_⟩:=J.flat T;rw[X,u2 hty] at u1;have V:ev b= .slice none 0 0:=by
  have:=F b;rw[hb] at this;simp only[SV.den] at this;rw[this,wz I]
 obtain⟨k,hnk⟩:∃k:Nat,n=((k:Int):Ty.int.Data):=Int.eq_ofNat_of_zero_le (Int.le_of_lt S);subst hnk;have S:(0:Int)<(k:Int):=S;have hxv:ev x= .int .i64 (k:Int):=wt (i:=(k:Int)) (by rw[Q];rfl) (F x);have hk:0<k:=(by omega);have Z:Int.toNat ((k:Int):Ty.int.Data)=k:=jG7 k;rw[Z] at q⊢;have t:0<te.bytes:=by
  have:kr te.ty=true:=by
   unfold Ctx.slice at a
   split at a
   .split at a
    .split at a
     .split at a
      .rename_i hk;simp at a;rw[<-a.2];exact hk
      .cases a
     .cases a
    .cases a
   .cases a
  exact(f.pos this).2
 have hkn:kr te.ty=true:=by
  unfold Ctx.slice at a
  split at a
  .split at a
   .split at a
    .split at a
     .rename_i hk;simp at a;rw[<-a.2];exact hk
     .cases a
    .cases a
   .cases a
  .cases a
 have hk2:k<=140737488355328:=by
  have:k*1<=k*te.bytes:=jIk _ t;omega
 have m:=Lib.run_append_nil_zeros (P:=P) w U R o.type ti.elem i z .i64 .i64 N u1 g0 g3 k hk (by rw[g1];exact K) (by omega) (by rw[g2];omega);have u:=grownCap_ge w k 0 ti.elem;have G:=grownCap_le_maxLen w k 0 ti.elem (by simp only[maxLen];omega);generalize hcap:grownCap w k 0 ti.elem=l at m u G;have r:z.cells.size=te.ty.size:=(by rw[<-jHA,g4,f.zlen,hks]);have L:(execOp ev o).run P w= .ok (.value (.slice (some ⟨w.heap.size,0,none⟩) k l)) (w.drew.alloc (.cells (Builtin.zeroCells z.cells k++Builtin.zeroCells z.cells (l-k)) ti.elem)):=by
  simp only[execOp,hop,Sem.run_bind,resolve,W,s,M,Sem.run_pure,Result.andThen_ok,invoke,builtin];simp[V,hxv,m]
 have y:w.grownBy (w.drew.alloc (.cells (Builtin.zeroCells z.cells k++Builtin.zeroCells z.cells (l-k)) ti.elem)) none:=
  (fun g=>⟨g.os,g.tape,g.output,g.size,g.block⟩) (World.grownBy_alloc w.drew (.cells (Builtin.zeroCells z.cells k++Builtin.zeroCells z.cells (l-k)) ti.elem) none)
 obtain⟨D,q1,q2,q3,q4,q5⟩:=jjP hS (own:=none) hd hn y (Nat.le_succ w.drawn) (by simp) (some (w.heap.size,l)) (fun b C E=>by simp at E;exact .inr E.1.symm) k
  (.row ti.elem te.ty false .yes (List.replicate k te.ty.dflt)) (fun D hH A _=>by
   refine⟨by rw[A];simp,by simp;omega,fun _=> ?_,_,heap_alloc_new w.drew _,?_,by simpa using u,G,fun i x Q=> ?_,?_⟩
   .intro e;have:=congrArg List.length e;simp at this;omega
   .rw[Array.size_append,q6,q6,r,<-jHP];congr 1;omega
   .rw[hH];have hi:i<k:=(by have:=(jG6.1 Q).1;simpa using this);have hx':x=te.ty.dflt:=by
     rw[List.getElem?_replicate,if_pos hi] at Q;simpa using Q.symm
    subst hx';refine te.ty.rd_congr _ _ _ (fun j hj=> ?_) (f.zd hkn ρ.H);have hm:i*te.ty.size+j<k*te.ty.size:=by
     have:(i+1)*te.ty.size<=k*te.ty.size:=jHm _ hi;rw[jHM] at this;omega
    rw[jHQ (by rw[q6,r];exact hm),jbU,r,if_pos hm,Nat.mul_comm,Nat.mul_add_mod,Nat.mod_eq_of_lt hj,<-g4,jHN];have Y:j<z.cells.size:=(by rw[r];exact hj);simp[Y]
   .rw[hH];simp only[fzH];cases W:ρ.H w.heap.size with
    |none=>rfl
    |some c=>have:=hS.good.lt W;omega)
 refine zo L ⟨D,?_,q2,?_,trivial⟩
 .show Sat P B D ({σ with ob:=[(dst,_)]++(qG σ []++σ.ob)}:St).obj _;simp only[qG,jHz];rw[gL];exact q1
 .simp only[SV.den];intro p hp;rw[q3] at hp;simp at hp;subst hp;exact⟨by rw[q4],by rw[q4];exact u⟩
theorem jCk {c:Call} (k:C.ok P) (i:o.op= .call c) (m:c.callee= .builtin .cap) (h:jEK C σ c.args.toList c.argTypes.toList=some out) (l:Sat P B ρ σ.obj w)
 (g:∀x,SV.den P ρ (jQ σ x) (ev x)):jI P o ev w (jF P B ρ σ out):=by
 unfold jEK at h
 split at h
 case h_2=>cases h
 rename_i x U a b;have a:c.args= #[x]:=(by rw[<-jHp];exact a);have b:c.argTypes= #[U]:=by rw[<-jHp];exact b
 split at h
 case h_2=>cases h
 rename_i p v j n;obtain⟨ti,te⟩:=p
 split at h
 case h_2=>cases h
 rename_i d;simp[Out.pure] at h;subst h;obtain⟨_,_,_,_,e,_⟩:=zI k j;have f:ev x= .slice none 0 0:=by
  have:=g x;rw[n] at this;simp only[SV.den] at this;rw[this,wz d]
 exact jk l (v:= .int .i64 0) (by simp[execOp,i,m,a,b,resolve,invoke,builtin,f,Builtin.cap_,run_underlying e,goInt]) (w6 _) trivial
theorem jtJ {dst:Nat} {c:Call} (V:C.ok P) (I:o.op= .call c) (Z:c.callee= .builtin .append) (h:jEU C σ dst c.args.toList c.argTypes.toList=some out) (M:Sat P B ρ σ.obj w)
 (hev:∀x,SV.den P ρ (jQ σ x) (ev x)) (r:k8 out.vc) (R:σ.obj dst=none) (hn:kN σ.obj dst):jI P o ev w (jF P B ρ σ out):=by
 unfold jEU at h
 split at h
 case h_2=>cases h
 rename_i b x U U' f j;have f:c.args= #[b,x]:=(by rw[<-jHp];exact f);have j:c.argTypes= #[U,U']:=by rw[<-jHp];exact j
 split at h
 case h_2=>exact jwS V I Z f j h M hev r R hn
 case h_3=>cases h
 rename_i ti te hU H;have hU:=jG0 hU;subst hU
 split at h
 case h_2=>cases h
 rename_i news hnews;have s:=jgi M hnews (hev x);have d:=hev b
 split at h
 .rename_i ob u Q;rw[Q] at d
  split at h
  .rename_i E t nl l A;have J:ob≠dst:=fun e=>by rw[e,R] at A;cases A
   split at h
   .rename_i l' D;obtain⟨e,rfl⟩:=jm D;cases e;simp only[qw] at h
    split at h
    .rename_i O;have O:=jG0 O;subst O;simp at h;subst h;simp only[k8] at r;obtain⟨p,hp,k1,k0,K⟩:=M.obs ob _ A;simp only[SV.den] at d;have d:=d p hp;cases p with
     |none=>
      obtain⟨F,e2⟩:=d;obtain⟨rfl,hnn'⟩:=K;refine kk V I Z f j H M R hn (own:=some ob) (n:=0) (xs:=[]) (by rw[F];exact World.ownsRow_nil _ _ _ _) rfl (by omega) (by simp) (by rw[F];simp[Value.ownBlock]) s (by simpa using r.1) (fun _ _=>hnn') ?_ (yg σ _ J);intro _ hnn;rw[F] at hnn;simpa using hnn
     |some q=>
      obtain⟨bb,Cp⟩:=q;obtain⟨F,e2⟩:=d;obtain⟨k3,vs,hw,T,hlC,N,hr,Y⟩:=K;simp only[fzH] at Y;have htk:l.take l.length=l:=jHY;refine kk V I Z f j H M R hn (own:=some ob) (n:=l.length) (xs:=vs.toList.take (l.length*te.ty.size)) (by rw[F,k1];exact jnH hw T hlC N) rfl k0
       (by have:=jfz (m:=l.length) hr (jG5 _);rwa [htk] at this) ?_ s r.1 ?_ ?_ (yg σ _ J)
      .intro g S;rw[F] at S;simp[Value.ownBlock] at S;subst S;exact⟨ob,Cp,rfl,hp,Y⟩
      .intro h;rw[F] at h;cases h
      .intro hnl _;have:=k3 hnl;simp[this]
    .cases h
   .cases h
  .cases h
 .rename_i ob u n Q;rw[Q] at d
  split at h
  .rename_i E t l A;have J:ob≠dst:=fun e=>by rw[e,R] at A;cases A
   split at h
   .rename_i l' D;obtain⟨e,rfl⟩:=jm D;cases e;simp only[qw] at h
    split at h
    .rename_i O;have O:=jG0 O;subst O;simp at h;subst h;simp only[k8] at r;obtain⟨p,hp,k1,k0,K⟩:=M.obs ob _ A;simp only[SV.den] at d;have d:=d p hp;cases p with
     |none=>obtain⟨_,K⟩:=K;exact absurd rfl K
     |some q=>
      obtain⟨bb,Cp⟩:=q;obtain⟨a,L,F,e2,e3,e4,W⟩:=d;have W:=W (.inl (by trivial));subst W;simp only[Nat.zero_mul] at F;have:L=Cp:=(by omega);subst this;obtain⟨k3,vs,hw,T,hlC,N,hr,Y⟩:=K;simp only[fzH] at Y;have G:(l.take n).length=n:=(by simp;omega);refine kk V I Z f j H M R hn (own:=some ob) (n:=n) (xs:=vs.toList.take (n*te.ty.size)) (by rw[F];exact jnH hw T e2 N) G (by omega)
       (jfz (m:=n) hr (by omega)) ?_ s r.1 ?_ ?_ (yg σ _ J)
      .intro g S;rw[F] at S;simp[Value.ownBlock] at S;subst S;exact⟨ob,L,rfl,hp,Y⟩
      .intro h;rw[F] at h;cases h
      .intro hnl;cases hnl
    .cases h
   .cases h
  .rename_i E t l A;have J:ob≠dst:=fun e=>by rw[e,R] at A;cases A
   split at h
   .rename_i l' D;obtain⟨e,rfl⟩:=jm D;cases e;simp only[qw] at h
    split at h
    .rename_i O;have O:=jG0 O;subst O;simp at h;subst h;simp only[k8] at r;obtain⟨p,hp,k1,k0,K⟩:=M.obs ob _ A;simp only[SV.den] at d;have d:=d p hp;cases p with
     |none=>
      obtain⟨F,rfl⟩:=d;obtain⟨rfl,_⟩:=K;refine kk (l':=([]:List te.ty.Data).take 0) V I Z f j H M R hn (own:=some ob) (n:=0) (xs:=[]) (by rw[F];exact World.ownsRow_nil _ _ _ _) rfl (by omega) (by simp) (by rw[F];simp[Value.ownBlock]) s (by simpa using r.1) (fun _ _=>(by simp)) ?_ (yg σ _ J);intro h;cases h
     |some q=>
      obtain⟨bb,Cp⟩:=q;obtain⟨a,L,F,e2,e3,e4,W⟩:=d;have W:=W (.inl (by trivial));subst W;simp only[Nat.zero_mul] at F;have:L=Cp:=(by omega);subst this;obtain⟨k3,vs,hw,T,hlC,N,hr,Y⟩:=K;simp only[fzH] at Y;have G:(l.take n).length=n:=(by simp;omega);refine kk V I Z f j H M R hn (own:=some ob) (n:=n) (xs:=vs.toList.take (n*te.ty.size)) (by rw[F];exact jnH hw T e2 N) G (by omega)
       (jfz (m:=n) hr (by omega)) ?_ s r.1 ?_ ?_ (yg σ _ J)
      .intro g S;rw[F] at S;simp[Value.ownBlock] at S;subst S;exact⟨ob,L,rfl,hp,Y⟩
      .intro h;rw[F] at h;cases h
      .intro hnl;cases hnl
    .cases h
   .cases h
  .rename_i E t l A;have J:ob≠dst:=fun e=>by rw[e,R] at A;cases A
   split at h
   .rename_i l' D;obtain⟨e,rfl⟩:=jm D;cases e;simp only[qw] at h
    split at h
    .rename_i y ys O;have O:=jG0 O;subst O;simp at h;subst h;simp only[k8] at r;obtain⟨p,hp,k1,k0,K⟩:=M.obs ob _ A;simp only[SV.den] at d;have d:=d p hp;cases p with
     |none=>
      obtain⟨F,rfl⟩:=d;obtain⟨rfl,_⟩:=K;refine kk (l':=([]:List te.ty.Data).take 0) V I Z f j H M R hn (own:=some ob) (n:=0) (xs:=[]) (by rw[F];exact World.ownsRow_nil _ _ _ _) rfl (by omega) (by simp) (by rw[F];simp[Value.ownBlock]) s (by simpa using r.1) (fun _ _=>(by simp)) ?_ (yg σ _ J);intro _ _;simp
     |some q=>
      obtain⟨bb,Cp⟩:=q;obtain⟨a,L,F,e2,e3,e4,W⟩:=d;have W:=W (.inl (by trivial));subst W;simp only[Nat.zero_mul] at F;have:L=Cp:=(by omega);subst this;obtain⟨k3,vs,hw,T,hlC,N,hr,Y⟩:=K;simp only[fzH] at Y;have G:(l.take n).length=n:=(by simp;omega);refine kk V I Z f j H M R hn (own:=some ob) (n:=n) (xs:=vs.toList.take (n*te.ty.size)) (by rw[F];exact jnH hw T e2 N) G (by omega)
       (jfz (m:=n) hr (by omega)) ?_ s r.1 ?_ ?_ (yg σ _ J)
      .intro g S;rw[F] at S;simp[Value.ownBlock] at S;subst S;exact⟨ob,L,rfl,hp,Y⟩
      .intro h;rw[F] at h;cases h
      .intro _ _;simp
    .cases h
   .cases h
  .cases h
 .rename_i v Q;rw[Q] at d
  split at h
  .rename_i hn';simp at h;subst h;simp only[SV.den] at d;rw[wz hn'] at d;simp only[k8] at r;refine kk (l':=([]:List te.ty.Data)) V I Z f j H M R hn (own:=none) (n:=0) (xs:=[]) (by rw[d];exact World.ownsRow_nil _ _ _ _) rfl (by omega) (by simp) (by rw[d];simp[Value.ownBlock]) s (by simpa using r.1) (fun _ _=>(by simp)) ?_ (gL σ _);intro _ hnn;rw[d] at hnn;simpa using hnn
  .cases h
 .rename_i t l Q;rw[Q] at d
  split at h
  .rename_i l' y ys D;simp at h;subst h;obtain⟨e,rfl⟩:=jm D;cases e;simp only[qw,k8] at r⊢;simp only[SV.den] at d;obtain⟨hrv,a,n,X⟩:=d;have hv1:(l.length+(y::ys).length)*te.bytes<=140737488355328:=r.1;have hbs:=jgi M (t:=te.ty) (sv:= .dat (.slice te.ty) l) (l:=l) (by simp[yF,zz,qw]) (v:=ev b) (by simpa only[SV.den] using hrv);obtain⟨a',n',c',f1,f2,f3,f4,f6,f5⟩:=zp (t:= .slice te.ty) rfl hrv;rw[X] at f1;simp at f1;obtain⟨rfl,rfl,rfl⟩:=f1;cases a with
   |none=>
    have h0:=f6 rfl;have hl0:l=[]:=jHL (by omega);subst hl0;subst h0;exact kk (l':=([]:List te.ty.Data)) V I Z f j H M R hn (own:=none) (n:=0) (xs:=[]) (by rw[X];exact World.ownsRow_nil _ _ _ _) rfl (by omega) (by simp) (by rw[X];simp[Value.ownBlock]) s (by simpa using r.1)
     (fun _ h=>by cases h) (fun h=>by cases h) (gL σ _)
   |some ad=>
    have hbs':=hbs.val;rcases hbs' with⟨g1,_⟩|⟨ad2,c2,olds,g1,g2,g3,g4,g5⟩
    .rw[X] at g1;cases g1
    .have hsv:=s.val;rcases hsv with⟨_,K⟩|⟨ad3,c3,us,k1,K,k3,k4,k5⟩
     .cases K
     .have hgx:ev b= .slice (some ad2) l.length l.length:=(by rw[X] at g1⊢;simp at g1;simp[g1.1,f2]);obtain⟨_,hte',_,hokE,hund,hka,hks,hpos⟩:=zI V H;obtain⟨i,z,i0,i1,i2,i3,i4,_⟩:=hokE.info;rw[hte'] at i0;have hbp:0<te.bytes:=(hokE.pos (jeh H)).2;have hsm:(l.length+(y::ys).length)*1<=(l.length+(y::ys).length)*te.bytes:=jIk _ hbp;have hsz:i.size=te.ty.size:=(by rw[hks,i1]);have hzs:z.cells.size=te.ty.size:=(by rw[hks,<-hokE.zlen,<-i4];simp);have hml:l.length+(y::ys).length<=maxLen:=(by simp only[maxLen];omega);have hmp:l.length<l.length+(y::ys).length:=(by simp only[jHD];omega);have hr:=run_append_grow (P:=P) w U o.type ti.elem i z hund i0 i3 ad2 l.length l.length olds (by rw[hsz];exact g2) g3 ad3 (y::ys).length c3 us (by rw[hsz];exact K) k3 hmp (by simp only[maxLen] at hml;omega) (growslice_fits hmp (by rw[i2];exact hv1));have hge:=grownCap_ge w (l.length+(y::ys).length) l.length ti.elem;have hcm:=grownCap_le_maxLen w (l.length+(y::ys).length) l.length ti.elem hml;have G:(olds++us).length=(l.length+(y::ys).length)*te.ty.size:=(by rw[jHo,g2,K,jHP]);refine jdP V I Z f j H M R hn (own:=none) (row:=none) (n:=l.length) (xs:=olds) rfl g2 f4 g5 (fun g h=>by cases h)
       ⟨_,_,us,by rw[hgx,k1];exact hr,⟨G,.inr ⟨w.heap.size,_,_,rfl,jHd _,heap_alloc_new w.drew _,hge,hcm,(by
        simp only[Array.size_append,List.size_toArray,size_zeroCells,hzs,g2,K,<-jHP];congr 1;omega),(by
        simp only[Array.toList_append,jHn];rw[<-jHn,<-G];exact List.take_left)⟩⟩,⟨rfl,rfl,rfl,by simp,fun k hk _=>heap_alloc_old w.drew _ k hk⟩,⟨fun h=>by simp at h,fun h=>by cases h.2⟩,.inr rfl,K,k5⟩ hv1 (fun _ h=>by cases h) (fun h=>by cases h) (gL σ _)
  .cases h
 .cases h
theorem jkW {U n dst:Nat} {a:Array (Nat×Operand)} (hC:C.ok P) (X:o.op= .buildSlice U n a) (h:jC C σ dst (.buildSlice U n a)=some out) (hS:Sat P B ρ σ.obj w)
 (R:∀x,SV.den P ρ (jQ σ x) (ev x)) (hd:σ.obj dst=none) (hn:kN σ.obj dst):jI P o ev w (jF P B ρ σ out):=by
 simp only[jC] at h
 split at h
 case h_2=>cases h
 rename_i ti te hsl
 split at h
 case h_2=>cases h
 rename_i l fz hl
 split at h
 case h_2=>cases h
 rename_i u J;simp at h;subst h;have u:=jG0 u;subst u;have J:=jHg J;obtain⟨_,hte,_,k,m,hka,S,G⟩:=zI hC hsl;obtain⟨i,z,O,g1,g2,g3,g4,_⟩:=k.info;rw[hte] at O;obtain⟨ρ1,r,g,hb1,hl1⟩:=jX fz hS;have F:∀x,SV.den P ρ1 (jQ σ x) (ev x):=fun x=>SV.den_mono g _ _ (fun o W=>by simp at W) (R x)
 obtain⟨vs,M,e2,N,e4⟩:=gC r (w8 σ fz) F a.toList 0 l fz hl (fun o W=>W);have hzs:z.cells.size=te.size:=(by rw[<-k.zlen,<-g4];simp);have y:0<te.size:=G;have s:Instr.fill (fun i=>some (i*te.size,te.size)) ((Array.range (l.length*te.size)).map (z.cells[·%z.cells.size]!)) (a.map fun(i,x)=>(i,ev x)).toList=
  some (vs.flatMap fun v=>v.cells.toList).toArray:=by
  have:=Great.fill_whole y vs ((Array.range (l.length*te.size)).map (z.cells[·%z.cells.size]!)) (fun v hv=>by rw[N v hv,S]) (by simp[e2]);rw[<-this];congr 1;simpa using M
 have e:=jot vs N;have I:(execOp ev o).run P w= .ok (.value (.slice (some ⟨w.heap.size,0,none⟩) l.length l.length)) (w.alloc (.cells (vs.flatMap fun v=>v.cells.toList).toArray ti.elem)):=by
  have:(Instr.buildSlice U l.length (a.map fun(i,x)=>(i,ev x))).run P w= .ok (.slice (some ⟨w.heap.size,0,none⟩) l.length l.length) (w.alloc (.cells (vs.flatMap fun v=>v.cells.toList).toArray ti.elem)):=by
   have q:i.size=te.size:=g1;by_cases h0:l.length=0
   .have K:vs=[]:=jHL (by omega);have Z:a= #[]:=by
     subst K;simp at M;exact M
    subst Z K;simp[Instr.buildSlice,run_underlying m,sizeOf,typeInfo,O,h0,newRow,Instr.fill,show Array.range 0= #[] from rfl]
   .exact run_buildSlice w U ti.elem l.length _ _ i z m O g3 (by rw[q];omega) (by rw[q];have:=Nat.mul_pos (Nat.pos_of_ne_zero h0) y;omega) (by rw[q];exact s)
  simp only[execOp,X,Sem.run_bind];rw[this];simp
 refine zo I ?_;have Q:(σ.frz fz).obj dst=none:=(by rw[kL,hd];simp);have V:kN (σ.frz fz).obj dst:=by
  intro o' T f cs d;rw[kL] at d
  split at d
  .cases D:σ.obj o' with
   |none=>rw[D] at d;cases d
   |some x=>
    rw[D] at d;cases x<;>simp[kB] at d
    obtain⟨rfl,_,rfl⟩:=d;exact hn o' _ _ _ D
  .exact hn o' _ _ _ d
 have L:l.length<=16777216:=by
  have:l.length*1<=l.length*te.size:=jIk _ y;omega
 obtain⟨A,q1,q2,q3,q4,q5⟩:=jjP r (own:=none) Q V (w.grownBy_alloc (.cells (vs.flatMap fun v=>v.cells.toList).toArray ti.elem) none) (jG5 _) (by simp) (some (w.heap.size,l.length)) (fun b C E=>by simp at E;exact .inr E.1.symm)
  l.length (.row ti.elem te.ty false .no l) (fun A hH t _=>by
   refine⟨t,by omega,by simp,_,heap_alloc_new w _,by simp[e,e2],jG5 _,by simp only[maxLen];omega,fun i x D=> ?_,?_⟩
   .rw[hH];have hi:i<vs.length:=(by have:=(jG6.1 D).1;omega);have hv:=e4 i _ x (jG8 hi) D;refine te.ty.rd_congr _ _ _ (fun j hj=> ?_) hv.2.2;have:=jkM vs N i j _ (jG8 hi) hj;simpa using this.symm
   .rw[hH];simp only[fzH];cases hc:ρ1.H w.heap.size with
    |none=>rfl
    |some c=>have:=r.good.lt hc;omega)
 refine⟨A,?_,(g.weaken (by simp)).trans q2,?_,trivial⟩
 .show Sat P B A ({σ with ob:=[(dst,_)]++(qG σ fz++σ.ob)}:St).obj _;rw[show({σ with ob:=[(dst,some (Ob.row ti.elem te.ty false .no l))]++(qG σ fz++σ.ob)}:St)=({(σ.frz fz) with ob:=[(dst,some (Ob.row ti.elem te.ty false .no l))]++(σ.frz fz).ob}:St) from rfl,gL];exact q1
 .simp only[SV.den];intro p Y;rw[q3] at Y;simp at Y;subst Y;exact⟨by rw[q4],by rw[q4];exact jG5 _⟩
end
end Go.X
