/-
  Part 1 of the road: a checked reading of bodies, and what the functions on it do (X0 X1 X2 X3 X4 X5 X6 X7 X8 X9 X10).
-/
import GoSem.Core.View
import GoSem.Core.Region
import Derived.Laws.AppendOwn
import Derived.Below
import Derived.Deep.LoopGhost
import Derived.Laws.BitsLemmas
import Derived.Laws.CopyRow
import Derived.Laws.AppendOwnNone
import Derived.Maps.AppendAt
import Derived.Laws.Strings
import Derived.Laws.Tables
import Derived.Great.BuildSlice
import Derived.Laws.OwnMore
import Derived.Lib.AppendZeros
abbrev Prod.q4 {a b c d e:Type} (x:a×b×c×d×e):e:=x.2.2.2.2
namespace Go.X
theorem ja:type_of% @of_decide_eq_true:=@of_decide_eq_true
theorem jb:type_of% @Nat.eq_of_beq_eq_true:=@Nat.eq_of_beq_eq_true
theorem jc:type_of% @if_neg:=@if_neg
theorem jd:type_of% @if_pos:=@if_pos
theorem je:type_of% @of_decide_eq_false:=@of_decide_eq_false
theorem jg:type_of% @List.mem_append_right:=@List.mem_append_right
theorem jh:type_of% @List.mem_append_left:=@List.mem_append_left
theorem ji:type_of% @Bool.and_eq_true:=@Bool.and_eq_true
theorem jj:type_of% @Nat.le_refl:=@Nat.le_refl
theorem jk:type_of% @List.mem_cons:=@List.mem_cons
theorem jl:type_of% @List.mem_cons_of_mem:=@List.mem_cons_of_mem
theorem jm:type_of% @Int.toNat_natCast:=@Int.toNat_natCast
theorem jo:type_of% @List.getElem?_eq_some_iff:=@List.getElem?_eq_some_iff
theorem jp:type_of% @List.mem_range:=@List.mem_range
theorem jq:type_of% @Array.getD_eq_getD_getElem?:=@Array.getD_eq_getD_getElem?
theorem jr:type_of% @List.getElem?_eq_getElem:=@List.getElem?_eq_getElem
theorem js:type_of% @Result.andThen_ok:=@Result.andThen_ok
theorem jt:type_of% @Nat.zero_le:=@Nat.zero_le
theorem ju:type_of% @List.mem_append:=@List.mem_append
theorem jv:type_of% @decide_eq_true_eq:=@decide_eq_true_eq
theorem jw:type_of% @Array.getElem?_eq_some_iff:=@Array.getElem?_eq_some_iff
theorem jx:type_of% @List.getElem?_append_right:=@List.getElem?_append_right
theorem jy:type_of% @Option.some.injEq:=@Option.some.injEq
theorem jz:type_of% @List.foldl_append:=@List.foldl_append
theorem jA:type_of% @List.getElem?_append_left:=@List.getElem?_append_left
theorem jB:type_of% @Nat.le_of_ble_eq_true:=@Nat.le_of_ble_eq_true
theorem jC:type_of% @Sem.run_bind:=@Sem.run_bind
theorem jD:type_of% @List.mem_filter:=@List.mem_filter
theorem jE:type_of% @run_underlying:=@run_underlying
theorem jF:type_of% @Nat.le_trans:=@Nat.le_trans
theorem jG:type_of% @List.mem_map:=@List.mem_map
theorem jH:type_of% @decide_eq_true:=@decide_eq_true
theorem jI:type_of% @decide_eq_false_iff_not:=@decide_eq_false_iff_not
theorem jJ:type_of% @List.append_assoc:=@List.append_assoc
theorem jK:type_of% @List.length_append:=@List.length_append
theorem jL:type_of% @Array.toList_inj:=@Array.toList_inj
theorem jM:type_of% @Array.getElem?_setIfInBounds:=@Array.getElem?_setIfInBounds
theorem jN:type_of% @List.range_succ:=@List.range_succ
theorem jO:type_of% @Nat.mul_le_mul_right:=@Nat.mul_le_mul_right
theorem jP:type_of% @congrArg:=@congrArg
theorem jQ:type_of% @Int.natCast_nonneg:=@Int.natCast_nonneg
theorem jR:type_of% @List.all_eq_true:=@List.all_eq_true
theorem jS:type_of% @Bool.or_eq_false_iff:=@Bool.or_eq_false_iff
theorem jT:type_of% @Sem.run_pure:=@Sem.run_pure
theorem jU:type_of% @List.getElem?_take_of_lt:=@List.getElem?_take_of_lt
theorem jV:type_of% @Bool.not_eq_true':=@Bool.not_eq_true'
theorem jW:type_of% @List.length_replicate:=@List.length_replicate
theorem jX:type_of% @Array.getElem?_eq_getElem:=@Array.getElem?_eq_getElem
theorem jY:type_of% @List.append_nil:=@List.append_nil
theorem jZ:type_of% @Classical.not_not:=@Classical.not_not
theorem j0:type_of% @List.length_take:=@List.length_take
theorem j6:type_of% @List.nil_append:=@List.nil_append
theorem j7:type_of% @List.map_append:=@List.map_append
theorem j8:type_of% @Bool.eq_iff_iff:=@Bool.eq_iff_iff
theorem j9:type_of% @List.cons_append:=@List.cons_append
theorem za:type_of% @List.getD_eq_getElem?_getD:=@List.getD_eq_getElem?_getD
theorem zb:type_of% @Array.length_toList:=@Array.length_toList
theorem zc:type_of% @List.length_map:=@List.length_map
theorem ze:type_of% @List.length_cons:=@List.length_cons
theorem zf:type_of% @List.mem_cons_self:=@List.mem_cons_self
theorem zg:type_of% @List.map_cons:=@List.map_cons
theorem zh:type_of% @List.any_eq_true:=@List.any_eq_true
theorem zi:type_of% @List.getElem?_drop:=@List.getElem?_drop
theorem zj:type_of% @List.mem_take_iff_getElem:=@List.mem_take_iff_getElem
theorem zk:type_of% @List.eq_nil_of_length_eq_zero:=@List.eq_nil_of_length_eq_zero
theorem zl:type_of% @Nat.succ_mul:=@Nat.succ_mul
theorem zm:type_of% @List.take_length:=@List.take_length
theorem zn:type_of% @Array.getElem?_append_left:=@Array.getElem?_append_left
theorem zo:type_of% @Int.le_refl:=@Int.le_refl
theorem zp:type_of% @List.take_of_length_le:=@List.take_of_length_le
theorem zq:type_of% @List.pairwise_iff_getElem:=@List.pairwise_iff_getElem
theorem zr:type_of% @Array.getElem?_toList:=@Array.getElem?_toList
theorem zt:type_of% @List.length_range:=@List.length_range
theorem zu:type_of% @List.any_eq_false:=@List.any_eq_false
theorem zv:type_of% @Bool.not_eq_false':=@Bool.not_eq_false'
theorem zw:type_of% @Nat.add_mul:=@Nat.add_mul
theorem zx:type_of% @List.length_nil:=@List.length_nil
theorem zy:type_of% @List.nodup_cons:=@List.nodup_cons
theorem zz:type_of% @decide_eq_false:=@decide_eq_false
theorem zA:type_of% @List.length_set:=@List.length_set
theorem zB:type_of% @Nat.lt_of_lt_of_le:=@Nat.lt_of_lt_of_le
theorem zC:type_of% @Array.getElem?_modify:=@Array.getElem?_modify
theorem zD:type_of% @List.mem_of_getElem?:=@List.mem_of_getElem?
theorem zF:type_of% @List.pairwise_cons:=@List.pairwise_cons
theorem zG:type_of% @Bool.or_eq_true:=@Bool.or_eq_true
theorem zH:type_of% @List.length_filter_le:=@List.length_filter_le
theorem zI:type_of% @Nat.zero_add:=@Nat.zero_add
theorem zJ:type_of% @List.pairwise_map:=@List.pairwise_map
theorem zK:type_of% @List.nodup_append:=@List.nodup_append
theorem zL:type_of% @List.countP_append:=@List.countP_append
theorem zM:type_of% @Nat.add_zero:=@Nat.add_zero
theorem zN:type_of% @Array.getElem?_replicate:=@Array.getElem?_replicate
theorem zO:type_of% @List.mem_of_mem_take:=@List.mem_of_mem_take
theorem zP:type_of% @Nat.add_assoc:=@Nat.add_assoc
theorem zQ:type_of% @Int.tdiv_eq_ediv_of_nonneg:=@Int.tdiv_eq_ediv_of_nonneg
theorem zR:type_of% @List.pairwise_lt_range:=@List.pairwise_lt_range
theorem zS:type_of% @List.all_eq_false:=@List.all_eq_false
theorem zT:type_of% @List.countP_eq_zero:=@List.countP_eq_zero
theorem zU:type_of% @List.eq_nil_iff_forall_not_mem:=@List.eq_nil_iff_forall_not_mem
theorem zV:type_of% @List.take_append_drop:=@List.take_append_drop
theorem zW:type_of% @List.getElem?_toArray:=@List.getElem?_toArray
theorem zX:type_of% @Nat.eq_zero_or_pos:=@Nat.eq_zero_or_pos
theorem zY:type_of% @List.getElem?_take:=@List.getElem?_take
theorem zZ:type_of% @List.mem_of_mem_drop:=@List.mem_of_mem_drop
theorem z6:type_of% @List.getElem?_of_mem:=@List.getElem?_of_mem
theorem z7:type_of% @List.getElem?_map:=@List.getElem?_map
theorem z8:type_of% @Nat.mul_le_mul_left:=@Nat.mul_le_mul_left
theorem kc:type_of% @Array.getElem?_push:=@Array.getElem?_push
theorem ke:type_of% @List.findIdx?_eq_some_iff_getElem:=@List.findIdx?_eq_some_iff_getElem
theorem kf:type_of% @List.length_drop:=@List.length_drop
theorem kg:type_of% @List.filter_append:=@List.filter_append
theorem kh:type_of% @Bool.and_false:=@Bool.and_false
theorem ki:type_of% @List.drop_eq_getElem_cons:=@List.drop_eq_getElem_cons
theorem kj:type_of% @List.map_map:=@List.map_map
theorem kk:type_of% @Nat.eq_of_testBit_eq:=@Nat.eq_of_testBit_eq
theorem kl:type_of% @Nat.lt_trichotomy:=@Nat.lt_trichotomy
theorem km:type_of% @Bool.true_and:=@Bool.true_and
theorem ko:type_of% @List.filter_eq_self:=@List.filter_eq_self
theorem kr:type_of% @List.countP_cons:=@List.countP_cons
theorem ku:type_of% @Int.mul_nonneg:=@Int.mul_nonneg
theorem kw:type_of% @Bool.not_eq_true:=@Bool.not_eq_true
theorem kx:type_of% @Option.map_eq_some_iff:=@Option.map_eq_some_iff
theorem ky:type_of% @List.mem_singleton:=@List.mem_singleton
theorem kz:type_of% @Nat.lt_of_le_of_lt:=@Nat.lt_of_le_of_lt
inductive Ty where
 |int|bool|uint (k:IntKind)|slice (t:Ty)|unit|pair (a b:Ty)|map (k v:Ty)|ptr (t:Ty)
 deriving DecidableEq
@[reducible] def Ty.Data:Ty->Type
 | .int=>Int
 | .bool=>Bool
 | .uint _=>Int
 | .slice t=>List t.Data
 | .unit=>Unit
 | .pair a b=>a.Data×b.Data
 | .map k v=>List (k.Data×v.Data)
 | .ptr t=>Option t.Data
def Ty.size:Ty->Nat
 | .unit=>0
 | .pair a b=>a.size+b.size
 |_=>1
def Ty.agg:Ty->Bool
 | .unit=>true
 | .pair _ _=>true
 |_=>false
def Ty.dflt:(t:Ty)->t.Data
 | .int=>(0:Int)
 | .bool=>false
 | .uint _=>(0:Int)
 | .slice _=>[]
 | .unit=>()
 | .pair a b=>(a.dflt,b.dflt)
 | .map _ _=>[]
 | .ptr _=>none
@[reducible] def Ty.decEq:(t:Ty)->DecidableEq t.Data
 | .int=>(inferInstance:DecidableEq Int)
 | .bool=>(inferInstance:DecidableEq Bool)
 | .uint _=>(inferInstance:DecidableEq Int)
 | .slice t=> @instDecidableEqList _ t.decEq
 | .unit=>(inferInstance:DecidableEq Unit)
 | .pair a b=> @instDecidableEqProd _ _ a.decEq b.decEq
 | .map k v=> @instDecidableEqList _ (@instDecidableEqProd _ _ k.decEq v.decEq)
 | .ptr t=> @Option.instDecidableEq _ t.decEq
@[reducible] def Ty.st:List Ty->Ty
 |[]=> .unit
 |t::ts=> .pair t (Ty.st ts)
def jem:List (Nat×((t:Ty)×t.Data)):=[(0,⟨.st [.int,.int,.int,.int,.int,.int],((0:Int),(1:Int),(0:Int),(0:Int),(0:Int),(1:Int),())⟩)]
end Go.X
namespace Go.X
def gT {a b:Ty} (h:a=b) (d:a.Data):b.Data:=h▸d
def qg (a b:Ty) (d:a.Data):Option b.Data:=if h:a=b then some (gT h d) else none
def Ty.sub:(a:Ty)->(off:Nat)->(t:Ty)->a.Data->Option t.Data
 | .pair a b,off,t,d=>
  if off=0/\Ty.pair a b=t then qg (.pair a b) t d
  else if off<a.size then a.sub off t d.1 else b.sub (off-a.size) t d.2
 |a,off,t,d=>if off=0 then qg a t d else none
def Ty.put:(a:Ty)->(off:Nat)->(t:Ty)->a.Data->t.Data->Option a.Data
 | .pair a b,off,t,d,x=>
  if off=0/\Ty.pair a b=t then qg t (.pair a b) x
  else if off<a.size then(a.put off t d.1 x).map (fun y=>(y,d.2)) else(b.put (off-a.size) t d.2 x).map (fun y=>(d.1,y))
 |a,off,t,_,x=>if off=0 then qg t a x else none
def bJ (a b:Ty):Bool:=if a=b then true else false
def nth {α:Type} [Inhabited α] (l:List α) (i:Nat):α:=l.getD i default
inductive SV where
 |any
 |dat (t:Ty) (d:t.Data)
 |ep (t:Ty) (d:t.Data)
 |bp (o off:Nat)
 |own (o:Nat) (t:Ty)
 |osl (o:Nat) (t:Ty) (lo n:Nat)
 |rp (o:Nat) (t:Ty) (i off:Nat)
 |mp (o:Nat)
 |ip (o:Nat)
 |fn (ps rs:List Ty) (pre:(Ty.st ps).Data->List Prop) (F:(Ty.st ps).Data->(Ty.st rs).Data)
 |fnp (ps rs:List Ty) (pre:(Ty.st ps).Data->List Prop) (F:(Ty.st ps).Data->(Ty.st rs).Data)--a pointer to a function value that stays
 |fe (ptr:Bool) (o T:Nat) (st:Ty) (ps rs:List Ty) (pre:(Ty.st ps).Data->st.Data->List Prop) (K:(Ty.st ps).Data->st.Data->(Ty.st rs).Data×st.Data)
 |fcl (t:Ty) (d:List t.Data)--a slice of data whose capacity is its length
 |clo (f:Nat) (caps:List SV)
 |agg (cs:List SV)
 |tup (vs:List SV)
 |lit (v:Value)
inductive Nl where
 |yes|no|unk
 deriving DecidableEq
inductive Ob where
 |box (T:Nat) (fz:Bool) (cs:List SV)
 |row (E:Nat) (t:Ty) (fz:Bool) (nl:Nl) (l:List t.Data)
 |map (fz:Bool) (kt vt:Ty) (l:List (kt.Data×vt.Data))
 |iter (kt vt:Ty) (left:List (kt.Data×vt.Data)) (cur:Option (kt.Data×vt.Data))
 |mape (kt vt:Ty) (l:List (kt.Data×vt.Data)) (k:kt.Data) (s:Int)--a map whose entry at a key has been laid,with this stamp,and is not yet written
structure St where
 sl:List (Nat×SV)
 ob:List (Nat×Option Ob)
def wc {α:Type}:List (Nat×α)->Nat->Option α
 |[],_=>none
 | (j,x)::r,k=>match Nat.beq j k with|true=>some x|false=>wc r k
def St.get (σ:St) (s:Nat):SV:=match wc σ.sl s with|some v=>v|none=> .any
def St.obj (σ:St) (o:Nat):Option Ob:=match wc σ.ob o with|some x=>x|none=>none
def aW:List Nat->Nat->Bool
 |[],_=>false
 |j::r,k=>match Nat.beq j k with|true=>true|false=>aW r k
def SV.refs (o:Nat):SV->Bool
 | .bp o' _=>Nat.beq o o'
 | .own o' _=>Nat.beq o o'
 | .osl o' _ _ _=>Nat.beq o o'
 | .rp o' _ _ _=>Nat.beq o o'
 | .mp o'=>Nat.beq o o'
 | .ip o'=>Nat.beq o o'
 | .fe _ o' _ _ _ _ _ _=>Nat.beq o o'
 | .clo _ caps=>refsL caps
 | .agg cs=>refsL cs
 | .tup cs=>refsL cs
 |_=>false
where
 refsL:List SV->Bool
  |[]=>false
  |v::r=>match SV.refs o v with|true=>true|false=>refsL r
def q8:Ty->Bool
 | .unit=>false
 |_=>true
structure TI where
 id:Nat
 ty:Ty
 size:Nat
 agg:Bool
 fields:List (Nat×Nat)--offset,type
 sl:Bool--is it a slice
 elem:Nat--of a slice
 bytes:Nat
 zero:List Value
 cmp:Bool--may be compared
 mp:Bool--is it a map
 key:Nat--of a map
 kq:Bool--may be a map's key
 arr:Bool:=false--is it an array (of numbers);'fields' are its elements then
 pt:Bool:=false--is it a pointer
 fk:Bool:=false--is it a function's
def TI.flds (ti:TI):List (Nat×Nat):=match ti.arr with|true=>[]|false=>ti.fields
inductive Par where
 |val (t:Ty)
 |ref (t:Ty)
 |fn (ps rs:List Ty)
 |rfn (ps rs:List Ty)--a pointer to a function value that stays
structure FnD (ps rs:List Ty) where
 pre:(Ty.st ps).Data->List Prop
 F:(Ty.st ps).Data->(Ty.st rs).Data
@[reducible] def Par.Data:Par->Type
 | .val t=>t.Data
 | .ref t=>t.Data
 | .fn ps rs=>FnD ps rs
 | .rfn ps rs=>FnD ps rs
@[reducible] def PD:List Par->Type
 |[]=>Unit
 |p::ps=>p.Data×PD ps
structure wD where
 ps:List Par
 rs:List Ty
 own:Bool
 pre:PD ps->List Prop
 F:PD ps->(Ty.st rs).Data
structure Out where
 vc:List Prop
 fact:List Prop
 sv:SV
 fz:List Nat
 wr:List (Nat×Option Ob)
 nw:List Nat--the objects that are made
def Out.pure (sv:SV):Out:=⟨[],[],sv,[],[],[]⟩
structure Ctx where
 n:Nat--how many slots the frame has
 ti:List TI
 fs:List (Nat×wD)
 eff:Nat->Nat->St->List SV->Option Out--function,dst,state,arguments
 strs:List Nat--types of strings
 lit:Bool--is a map literal being made?
def KA:List TI->Nat->Option TI
 |[],_=>none
 |x::r,k=>match Nat.beq x.id k with|true=>some x|false=>KA r k
def Ctx.info (C:Ctx) (T:Nat):Option TI:=KA C.ti T
def Ctx.known (C:Ctx) (T:Nat):Option TI:=
 match C.info T with
 |some ti=>match q8 ti.ty with
  |true=>some ti
  |false=>none
 |none=>none
def Ctx.slice (C:Ctx) (U:Nat):Option (TI×TI):=
 match C.info U with
 |some ti=>match ti.sl with
  |true=>match C.info ti.elem with
   |some te=>match q8 te.ty with
    |true=>some (ti,te)
    |false=>none
   |none=>none
  |false=>none
 |none=>none
def Ctx.mapT (C:Ctx) (U:Nat):Option (TI×TI×TI):=
 match C.info U with
 |some ti=>match ti.mp with
  |true=>match C.info ti.key,C.info ti.elem with
   |some tk,some te=>match tk.kq,q8 te.ty with
    |true,true=>some (ti,tk,te)
    |_,_=>none
   |_,_=>none
  |false=>none
 |none=>none
def Ctx.spec (C:Ctx) (f:Nat):Option wD:=wc C.fs f
def FT:Value->SV
 | .int .i64 n=> .dat .int n
 | .int k n=> .dat (.uint k) n
 | .bool b=> .dat .bool b
 |v=> .lit v
def wx (σ:St):Operand->SV
 | .tmp t=>σ.get t
 | .const v=>FT v
 | .global g=> .lit (.pointer (some ⟨g,0,none⟩))
 | .func f=> .clo f []
def qa:Value->Bool
 | .slice none 0 0=>true
 |_=>false
def Ct:Value->Bool
 | .map none=>true
 |_=>false
def sF:Value->Bool
 | .pointer none=>true
 |_=>false
def xc:Value->Bool
 | .nilFunc=>true
 |_=>false
def jbf:Value->Option ((t:Ty)×t.Data)
 | .pointer (some ⟨g,0,none⟩)=>wc jem g
 |_=>none
def wg {α:Type} (d:α):Option α->α
 |some x=>x
 |none=>d
def vi:Ob->Ob
 | .row E t _ nl l=> .row E t true nl l
 | .box T _ cs=> .box T true cs
 | .map _ kt vt l=> .map true kt vt l
 |x=>x
def ao (σ:St):List Nat->List (Nat×Option Ob)
 |[]=>[]
 |o::r=>match σ.obj o with
  |some x=>(o,some (vi x))::ao σ r
  |none=>ao σ r
def St.frz (σ:St) (fz:List Nat):St:={σ with ob:=ao σ fz++σ.ob}
def cw (σ:St) (t:Ty):SV->Option (List t.Data)
 | .dat a d=>qg a (.slice t) d
 | .own o _=>match σ.obj o with
  |some (.row _ a _ _ l)=>qg (.slice a) (.slice t) l
  |_=>none
 | .osl o u lo n=>match σ.obj o with
  |some (.row _ a _ _ l)=>match qg (.slice a) (.slice u) l with
   |some l'=>qg (.slice u) (.slice t) ((l'.drop lo).take n)
   |none=>none
  |_=>none
 | .lit v=>match qa v with|true=>some []|false=>none
 |_=>none
def CV (σ:St):(t:Ty)->SV->Option (t.Data×List Nat)
 | .slice t,.own o u=>match cw σ t (.own o u) with
  |some l=>some (l,[o])
  |none=>none
 | .slice t,.osl o u lo n=>match cw σ t (.osl o u lo n) with
  |some l=>some (l,[o])
  |none=>none
 | .slice _,.lit v=>match qa v with|true=>some ([],[])|false=>none
 | .map kt vt,.mp o=>match σ.obj o with
  |some (.map _ a b l)=>match qg (.map a b) (.map kt vt) l with
   |some l'=>some (l',[o])
   |none=>none
  |_=>none
 | .map _ _,.lit v=>match Ct v with|true=>some ([],[])|false=>none
 |t,.dat c d=>match qg c t d with|some x=>some (x,[])|none=>none
 |_,_=>none
def Ic {α:Type} (c:List SV->Option (α×List SV×List Nat)) (b:(t:Ty)->t.Data->Option α) (a:(t:Ty)->t.Data->Option (Option α)) (σ:St):SV->Option (Option α×List Nat)
 | .dat t d=>match a t d with|some x=>some (x,[])|none=>none
 | .ep t d=>match b t d with|some x=>some (some x,[])|none=>none
 | .bp o off=>match σ.obj o with
  |some (.box _ _ cs)=>match c (cs.drop off) with
   |some (x,_,f)=>some (some x,o::f)
   |none=>none
  |_=>none
 | .lit v=>match sF v with|true=>some (none,[])|false=>none
 |_=>none
def yy (σ:St):(t:Ty)->List SV->Option (t.Data×List SV×List Nat)
 | .unit,cs=>some ((),cs,[])
 | .pair a b,cs=>match yy σ a cs with
  |some (x,r,f)=>match yy σ b r with
   |some (y,g,e)=>some ((x,y),g,f++e)
   |none=>none
  |none=>none
 | .ptr t,c::r=>match Ic (yy σ t) (fun u d=>qg u t d) (fun u d=>qg u (.ptr t) d) σ c with
  |some (x,f)=>some (x,r,f)
  |none=>none
 |t,c::r=>match CV σ t c with
  |some (x,f)=>some (x,r,f)
  |none=>none
 |_,[]=>none
def QH (σ:St):(t:Ty)->SV->Option (t.Data×List Nat)
 | .ptr t,c=>Ic (yy σ t) (fun u d=>qg u t d) (fun u d=>qg u (.ptr t) d) σ c
 |t,c=>CV σ t c
def yF (σ:St) (t:Ty):SV->Option (t.Data×List Nat)
 | .dat a d=>match qg a t d with|some x=>some (x,[])|none=>none
 | .agg cs=>match yy σ t cs with
  |some (x,[],f)=>match t.agg with|true=>some (x,f)|false=>none
  |_=>none
 |v=>match t.agg with|true=>none|false=>QH σ t v
def G3:(t:Ty)->t.Data->List SV
 | .unit,_=>[]
 | .pair a b,d=>G3 a d.1++G3 b d.2
 |t,d=>[.dat t d]
def CW (σ:St) (o:Nat):Bool:=match σ.obj o with|some _=>true|none=>false
def cells (σ:St):SV->Option (List SV)
 | .any=>none
 | .tup _=>none
 | .fcl _ _=>none
 | .agg cs=>some cs
 | .dat t d=>some (G3 t d)
 | .lit (.agg _)=>none
 | .lit (.tuple _)=>none
 | .bp o k=>match CW σ o with|true=>some [.bp o k]|false=>none
 | .own o t=>match CW σ o with|true=>some [.own o t]|false=>none
 | .osl o t lo n=>match CW σ o with|true=>some [.osl o t lo n]|false=>none
 | .rp o t i k=>match CW σ o with|true=>some [.rp o t i k]|false=>none
 | .mp o=>match CW σ o with|true=>some [.mp o]|false=>none
 | .ip o=>match CW σ o with|true=>some [.ip o]|false=>none
 | .fe b o T st ps rs pre K=>match CW σ o with|true=>some [.fe b o T st ps rs pre K]|false=>none
 |v=>some [v]
def NU (σ:St) (t:Ty):SV->Option (t.Data×List Nat)
 | .ep a d=>match qg a t d with|some x=>some (x,[])|none=>none
 | .bp o off=>match σ.obj o with
  |some (.box _ _ cs)=>match yy σ t (cs.drop off) with
   |some (x,_,f)=>some (x,o::f)
   |_=>none
  |_=>none
 | .dat (.ptr a) d=>match d with
  |some d=>match qg a t d with|some x=>some (x,[])|none=>none
  |none=>none
 |_=>none
def jen (σ:St):(ps:List Par)->List SV->Option (PD ps×List Nat)
 |[],[]=>some ((),[])
 | .val t::ps,v::vs=>match yF σ t v with
  |some (x,f)=>match jen σ ps vs with
   |some (xs,a)=>some ((x,xs),f++a)
   |none=>none
  |none=>none
 | .ref t::ps,v::vs=>match NU σ t v with
  |some (x,f)=>match jen σ ps vs with
   |some (xs,a)=>some ((x,xs),f++a)
   |none=>none
  |none=>none
 |_,_=>none
def KB (σ:St):(ps:List Ty)->List SV->Option ((Ty.st ps).Data×List Nat)
 |[],[]=>some ((),[])
 |t::ps,v::vs=>match yF σ t v with
  |some (x,f)=>match KB σ ps vs with
   |some (xs,a)=>some ((x,xs),f++a)
   |none=>none
  |none=>none
 |_,_=>none
def dx:(ps:List Ty)->(a:List Par)->Option ((rest:List Par)×((Ty.st ps).Data->PD rest->PD a))
 |[],a=>some ⟨a,fun _ y=>y⟩
 |t::ps,.val u::a=>
  if h:t=u then match dx ps a with
   |some ⟨rest,k⟩=>some ⟨rest,fun x y=>(h▸x.1,k x.2 y)⟩
   |none=>none
  else none
 |_,_=>none
def Y0 (d:(ps rs:List Ty)->SV->Option (FnD ps rs×List Nat)) (σ:St) (ps rs:List Ty):SV->Option (FnD ps rs×List Nat)
 | .fnp a b pre F=>if h:a=ps/\b=rs then some (⟨h.1▸pre,h.1▸h.2▸F⟩,[]) else none
 | .bp o 0=>match σ.obj o with
  |some (.box _ _ [c])=>match d ps rs c with
   |some (x,f)=>some (x,o::f)
   |none=>none
  |_=>none
 |_=>none
def sG (b:(ps rs:List Ty)->SV->Option (FnD ps rs×List Nat)) (σ:St):(ps:List Par)->List SV->Option (PD ps×List Nat)
 |[],[]=>some ((),[])
 | .val t::ps,v::vs=>match yF σ t v with
  |some (x,f)=>match sG b σ ps vs with
   |some (xs,a)=>some ((x,xs),f++a)
   |none=>none
  |none=>none
 | .ref t::ps,v::vs=>match NU σ t v with
  |some (x,f)=>match sG b σ ps vs with
   |some (xs,a)=>some ((x,xs),f++a)
   |none=>none
  |none=>none
 | .rfn aZ rs::ps,v::vs=>match Y0 b σ aZ rs v with
  |some (x,f)=>match sG b σ ps vs with
   |some (xs,a)=>some ((x,xs),f++a)
   |none=>none
  |none=>none
 |_,_=>none
def KC (C:Ctx) (σ:St):Nat->(ps rs:List Ty)->SV->Option (FnD ps rs×List Nat)
 |0,_,_,_=>none
 |n+1,ps,rs,v=>match v with
  | .fn a b pre F=>if h:a=ps/\b=rs then some (⟨h.1▸pre,h.1▸h.2▸F⟩,[]) else none
  | .clo f caps=>match C.spec f with
   |some s=>if h:s.rs=rs/\s.own=false then match dx ps s.ps with
    |some ⟨rest,k⟩=>match sG (KC C σ n) σ rest caps with
     |some (y,fz)=>some (⟨fun x=>s.pre (k x y),fun x=>h.1▸s.F (k x y)⟩,fz)
     |none=>none
    |none=>none
    else none
   |none=>none
  |_=>none
def jb1 (C:Ctx) (σ:St) (ps rs:List Ty) (v:SV):Option (FnD ps rs×List Nat):=KC C σ 4 ps rs v
def ya (C:Ctx) (σ:St):(ps:List Par)->List SV->Option (PD ps×List Nat)
 |[],[]=>some ((),[])
 | .val t::ps,v::vs=>match yF σ t v with
  |some (x,f)=>match ya C σ ps vs with
   |some (xs,a)=>some ((x,xs),f++a)
   |none=>none
  |none=>none
 | .ref t::ps,v::vs=>match NU σ t v with
  |some (x,f)=>match ya C σ ps vs with
   |some (xs,a)=>some ((x,xs),f++a)
   |none=>none
  |none=>none
 | .fn aZ rs::ps,v::vs=>match jb1 C σ aZ rs v with
  |some (x,f)=>match ya C σ ps vs with
   |some (xs,a)=>some ((x,xs),f++a)
   |none=>none
  |none=>none
 | .rfn aZ rs::ps,v::vs=>match Y0 (jb1 C σ) σ aZ rs v with
  |some (x,f)=>match ya C σ ps vs with
   |some (xs,a)=>some ((x,xs),f++a)
   |none=>none
  |none=>none
 |_,_=>none
def wv (kt:Ty) {β:Type} (k:kt.Data):List (kt.Data×β)->Option β
 |[]=>none
 |e::r=>if @decide (k=e.1) (kt.decEq k e.1)=true then some e.2 else wv kt k r
def iv (kt:Ty) {β:Type} (k:kt.Data) (v:β):List (kt.Data×β)->List (kt.Data×β)
 |[]=>[(k,v)]
 |e::r=>if @decide (k=e.1) (kt.decEq k e.1)=true then(k,v)::r else e::iv kt k v r
def w4 {β:Type} (d:β):Option β->β
 |some x=>x
 |none=>d
def jbg {β:Type}:Option β->Bool
 |some _=>true
 |none=>false
def eV (kt:Ty) {β:Type} (d:β) (k:kt.Data) (l:List (kt.Data×β)):List (kt.Data×β):=iv kt k (w4 d (wv kt k l)) l
def Y1 (σ:St) (kt vt:Ty):SV->Option (List (kt.Data×vt.Data))
 | .dat t d=>qg t (.map kt vt) d
 | .mp o=>match σ.obj o with
  |some (.map _ a b l)=>qg (.map a b) (.map kt vt) l
  |some (.mape a b l k _)=>qg (.map a b) (.map kt vt) (eV a b.dflt k l)
  |_=>none
 | .lit v=>match Ct v with|true=>some []|false=>none
 |_=>none
def kU (x:Int):Prop:= -9223372036854775808<=x/\x<=9223372036854775807
def bI (a b:Int):Int:=IntKind.i64.wrap ((BitVec.ofInt 64 a&&&BitVec.ofInt 64 b).toNat:Int)
def bor (a b:Int):Int:=IntKind.i64.wrap ((BitVec.ofInt 64 a|||BitVec.ofInt 64 b).toNat:Int)
def jgR (a b:Int):Int:=IntKind.i64.wrap ((BitVec.ofInt 64 a^^^BitVec.ofInt 64 b).toNat:Int)
def CX (a b:Int):Int:=IntKind.i64.wrap ((BitVec.ofInt 64 a&&& ~~~(BitVec.ofInt 64 b)).toNat:Int)
def G4 (op:BinOp) (a b:Int):Option Out:=
 match op with
 | .add=>some ⟨[kU (a+b)],[],.dat .int (a+b),[],[],[]⟩
 | .sub=>some ⟨[kU (a-b)],[],.dat .int (a-b),[],[],[]⟩
 | .mul=>some ⟨[kU (a*b)],[],.dat .int (a*b),[],[],[]⟩
 | .quo=>some ⟨[b≠0,kU (a.tdiv b)],[],.dat .int (a.tdiv b),[],[],[]⟩
 | .rem=>some ⟨[b≠0],[],.dat .int (a.tmod b),[],[],[]⟩
 | .and=>some (.pure (.dat .int (bI a b)))
 | .or=>some (.pure (.dat .int (bor a b)))
 | .xor=>some (.pure (.dat .int (jgR a b)))
 | .andNot=>some (.pure (.dat .int (CX a b)))
 | .shl=>some ⟨[0<=b,b<=64,kU (a*2^b.toNat)],[],.dat .int (a*2^b.toNat),[],[],[]⟩
 | .shr=>some ⟨[0<=b,b<=64],[],.dat .int (a/2^b.toNat),[],[],[]⟩
 | .eql=>some (.pure (.dat .bool (decide (a=b))))
 | .neq=>some (.pure (.dat .bool (decide (a≠b))))
 | .lss=>some (.pure (.dat .bool (decide (a<b))))
 | .leq=>some (.pure (.dat .bool (decide (a<=b))))
 | .gtr=>some (.pure (.dat .bool (decide (b<a))))
 | .geq=>some (.pure (.dat .bool (decide (b<=a))))
def y4 (a b:Int):Int:=IntKind.u64.wrap ((BitVec.ofInt 64 a&&&BitVec.ofInt 64 b).toNat:Int)
def uor (a b:Int):Int:=IntKind.u64.wrap ((BitVec.ofInt 64 a|||BitVec.ofInt 64 b).toNat:Int)
def jd8 (op:BinOp) (a b:Int):Option Out:=
 match op with
 | .add=>some ⟨[0<=a+b,a+b<=18446744073709551615],[],.dat (.uint .u64) (a+b),[],[],[]⟩
 | .sub=>some ⟨[0<=a-b,a-b<=18446744073709551615],[],.dat (.uint .u64) (a-b),[],[],[]⟩
 | .mul=>some ⟨[0<=a*b,a*b<=18446744073709551615],[],.dat (.uint .u64) (a*b),[],[],[]⟩
 | .and=>some (.pure (.dat (.uint .u64) (y4 a b)))
 | .or=>some (.pure (.dat (.uint .u64) (uor a b)))
 | .shl=>some ⟨[0<=b,b<=64,0<=a*2^b.toNat,a*2^b.toNat<=18446744073709551615],[],.dat (.uint .u64) (a*2^b.toNat),[],[],[]⟩
 | .shr=>some ⟨[0<=b,b<=64],[],.dat (.uint .u64) (a/2^b.toNat),[],[],[]⟩
 | .eql=>some (.pure (.dat .bool (decide (a=b))))
 | .neq=>some (.pure (.dat .bool (decide (a≠b))))
 | .lss=>some (.pure (.dat .bool (decide (a<b))))
 | .leq=>some (.pure (.dat .bool (decide (a<=b))))
 | .gtr=>some (.pure (.dat .bool (decide (b<a))))
 | .geq=>some (.pure (.dat .bool (decide (b<=a))))
 |_=>none
def jeo:SV->Bool
 | .lit v=>qa v
 |_=>false
def jgB (σ:St):SV->Option Bool
 | .dat (.ptr _) x=>some x.isNone
 | .ep _ _=>some false
 | .bp o _=>match CW σ o with|true=>some false|false=>none
 | .rp o _ _ _=>match CW σ o with|true=>some false|false=>none
 | .lit v=>match sF v with|true=>some true|false=>none
 |_=>none
def jgC:SV->Option Bool
 | .fn _ _ _ _=>some false
 | .clo _ _=>some false
 | .lit v=>match xc v with|true=>some true|false=>none
 |_=>none
def jb2 (σ:St) (ti:TI) (x y:SV):Option Bool:=match ti.pt,ti.fk,y with
 |true,_,.lit v=>match sF v with|true=>jgB σ x|false=>none
 |false,true,.lit v=>match xc v with|true=>jgC x|false=>none
 |_,_,_=>none
def UX (σ:St):SV->Option Bool
 | .own o _=>match σ.obj o with
  |some (.row _ _ _ .yes l)=>some l.isEmpty
  |some (.row _ _ _ .no _)=>some false
  |_=>none
 | .lit v=>match qa v with|true=>some true|false=>none
 |_=>none
def jb3 (C:Ctx) (σ:St) (op:BinOp) (T:Nat) (x y:SV):Option Out:=
 match x,y with
 | .dat .int a,.dat .int b=>G4 op a b
 | .dat .int a,.dat (.uint _) b=>match op with
  | .shl=>G4 .shl a b
  | .shr=>G4 .shr a b
  |_=>none
 | .dat (.uint .u64) a,.dat (.uint .u64) b=>jd8 op a b
 | .dat (.uint .u64) a,.dat .int b=>match op with
  | .shl=>jd8 .shl a b
  | .shr=>jd8 .shr a b
  |_=>none
 |_,_=>match C.info T with
  |none=>none
  |some ti=>match ti.cmp with
   |true=>match yF σ ti.ty x,yF σ ti.ty y with
    |some (a,[]),some (b,[])=>match op with
     | .eql=>some (.pure (.dat .bool (@decide (a=b) (ti.ty.decEq a b))))
     | .neq=>some (.pure (.dat .bool (!(@decide (a=b) (ti.ty.decEq a b)))))
     |_=>none
    |_,_=>none
   |false=>match jeo y,ti.sl with
    |true,true=>match UX σ x with
     |some b=>match op with
      | .eql=>some (.pure (.dat .bool b))
      | .neq=>some (.pure (.dat .bool (!b)))
      |_=>none
     |none=>none
    |_,_=>match jb2 σ ti x y with
     |some b=>match op with
      | .eql=>some (.pure (.dat .bool b))
      | .neq=>some (.pure (.dat .bool (!b)))
      |_=>none
     |none=>none
def jep (C:Ctx) (d:Nat):Bool:=match C.spec (1000000+d) with|some _=>true|none=>false
def jfW (op:BinOp) (x y:SV):Option Out:=match op,x,y with
 | .add,.dat .int a,.dat .int b=>some (.pure (.dat .int (IntKind.i64.wrap (a+b))))
 |_,_,_=>none
def oc (σ:St) (t:Ty):List (Nat×Operand)->(i:Nat)->Option (List t.Data×List Nat)
 |[],_=>some ([],[])
 | (j,x)::r,i=>match Nat.beq i j with
  |true=>match yF σ t (wx σ x) with
   |some (d,f)=>match oc σ t r (i+1) with
    |some (l,a)=>some (d::l,f++a)
    |none=>none
   |none=>none
  |false=>none
def Ie (cs new:List SV) (off:Nat):List SV:=cs.take off++new++cs.drop (off+new.length)
def aX (C:Ctx) (σ:St) (fields:List (Nat×Nat)):List (Nat×Operand)->List SV->Option (List SV)
 |[],cs=>some cs
 | (j,x)::r,cs=>match fields[j]? with
  |some (off,a)=>match cells σ (wx σ x),C.info a with
   |some new,some b=>match Nat.beq new.length b.size,Nat.ble (off+new.length) cs.length with
    |true,true=>aX C σ fields r (Ie cs new off)
    |_,_=>none
   |_,_=>none
  |none=>none
def lenOf (σ:St):SV->Option (List Prop×Nat)
 | .dat (.slice _) l=>some ([l.length<4611686018427387904],l.length)
 | .own o _=>match σ.obj o with
  |some (.row _ _ _ _ l)=>some ([l.length<4611686018427387904],l.length)
  |_=>none
 | .osl o _ _ n=>match σ.obj o with
  |some (.row _ _ _ _ _)=>some ([n<4611686018427387904],n)
  |_=>none
 | .lit v=>match qa v with|true=>some ([],0)|false=>none
 |_=>none
def CY:List SV->Int->Option Int
 |[],a=>some a
 | .dat .int b::r,a=>CY r (min a b)
 |_,_=>none
def CZ:List SV->Int->Option Int
 |[],a=>some a
 | .dat .int b::r,a=>CZ r (max a b)
 |_,_=>none
def results:(rs:List Ty)->(Ty.st rs).Data->List SV
 |[],_=>[]
 |t::ts,d=> .dat t d.1::results ts d.2
def A9 (rs:List Ty) (d:(Ty.st rs).Data):SV:=
 match results rs d with
 |[v]=>v
 |vs=> .tup vs
def pL (o:Nat):List (Nat×SV)->Bool
 |[]=>true
 | (_,v)::r=>match SV.refs o v with|true=>false|false=>pL o r
def If (o:Nat):List (Nat×(Nat×Bool)×SV)->Bool
 |[]=>true
 | (_,_,v)::r=>match SV.refs o v with|true=>false|false=>If o r
def ay (o:Nat):List (Nat×Option Ob)->Bool
 |[]=>true
 | (_,some (.box _ _ cs))::r=>match SV.refs.refsL o cs with|true=>false|false=>ay o r
 |_::r=>ay o r
def asInt:SV->Option Int
 | .dat .int i=>some i
 |_=>none
def QI:SV->Option Int
 | .dat (.uint _) i=>some i
 |_=>none
def NV (σ:St) (x:Option Operand) (dflt:Int):Option Int:=
 match x with
 |none=>some dflt
 |some a=>asInt (wx σ a)
def KE:Ty->Bool
 | .slice _=>false
 | .map _ _=>false
 | .ptr _=>false
 | .pair a b=>match KE a with|true=>KE b|false=>false
 |_=>true
def Si:List Ty->Bool
 |[]=>true
 |t::r=>match KE t with|true=>Si r|false=>false
def jfF (rs:List Ty) (fz:List Nat):List Nat:=match Si rs with|true=>[]|false=>fz
def G5 (C:Ctx) (σ:St) (dst:Nat) (a:SV) (args:List SV):Option Out:=
 match a with
 | .clo f caps=>match C.spec f with
  |some s=>match ya C σ s.ps (args++caps) with
   |some (d,fz)=>match s.own with
    |false=>some ⟨s.pre d,[],A9 s.rs (s.F d),jfF s.rs fz,[],[]⟩
    |true=>none
   |none=>none
  |none=>C.eff f dst σ (args++caps)
 | .fn ps rs pre F=>match KB σ ps args with
  |some (d,fz)=>some ⟨pre d,[],A9 rs (F d),jfF rs fz,[],[]⟩
  |none=>none
 | .fe false o T st ps rs pre K=>match KB σ ps args,σ.obj o with
  |some (d,fz),some (.box b false [c])=>match Nat.beq T b,aW fz o,st.agg,yF σ st c with
   |true,false,false,some (s,[])=>some ⟨pre d s,[],A9 rs (K d s).1,fz,[(o,some (.box T false [.dat st (K d s).2]))],[]⟩
   |_,_,_,_=>none
  |_,_=>none
 |_=>none
def jb4 (C:Ctx) (σ:St):List Operand->List Nat->Option Out
 |[x],[U]=>match C.slice U,lenOf σ (wx σ x) with
  |some _,some (f,n)=>some ⟨[],f,.dat .int (n:Int),[],[],[]⟩
  |some _,none=>none
  |none,_=>match C.mapT U with
   |some (_,tk,te)=>match Y1 σ tk.ty te.ty (wx σ x) with
    |some l=>some ⟨[],[],.dat .int (l.length:Int),[],[],[]⟩
    |none=>none
   |none=>none
 |_,_=>none
def jb5 (C:Ctx) (σ:St):List Operand->List Nat->Option Out
 |[x],[U]=>match C.slice U,wx σ x with
  |some _,.lit v=>match qa v with
   |true=>some (.pure (.dat .int 0))
   |false=>none
  |_,_=>none
 |_,_=>none
def jb6 (C:Ctx) (σ:St) (dst:Nat) (b x:Operand) (U c:Nat):Option Out:=
 match C.slice U,C.info c with
 |some (ti,te),some a=>match wx σ b,wx σ x,a.ty,a.agg with
  | .lit v,.dat .int n,.int,false=>match qa v with
   |true=>some ⟨[0<n,n.toNat*te.bytes<=140737488355328],[],.own dst te.ty,[],[(dst,some (.row ti.elem te.ty false .yes (List.replicate n.toNat te.ty.dflt)))],[dst]⟩
   |false=>none
  |_,_,_,_=>none
 |_,_=>none
def jb7 (C:Ctx) (σ:St) (dst:Nat):List Operand->List Nat->Option Out
 |[b,x],[U,c]=>match Nat.beq U c,C.slice U with
  |true,some (ti,te)=>match cw σ te.ty (wx σ x) with
   |some a=>match wx σ b with
    | .own o _=>match σ.obj o with
     |some (.row E t false nl l)=>match qg (.slice t) (.slice te.ty) l with
      |some l'=>match Nat.beq E ti.elem with
       |true=>some ⟨[(l'.length+a.length)*te.bytes<=140737488355328],[],.own dst te.ty,[],[(o,none),(dst,some (.row E te.ty false nl (l'++a)))],[dst]⟩
       |false=>none
      |none=>none
     |_=>none
    | .osl o _ 0 n=>match σ.obj o with
     |some (.row E t false .no l)=>match qg (.slice t) (.slice te.ty) l with
      |some l'=>match Nat.beq E ti.elem with
       |true=>some ⟨[(n+a.length)*te.bytes<=140737488355328],[],.own dst te.ty,[],[(o,none),(dst,some (.row E te.ty false .no (l'.take n++a)))],[dst]⟩
       |false=>none
      |none=>none
     |some (.row E t false .unk l)=>match qg (.slice t) (.slice te.ty) l with
      |some l'=>match Nat.beq E ti.elem with
       |true=>some ⟨[(n+a.length)*te.bytes<=140737488355328],[],.own dst te.ty,[],[(o,none),(dst,some (.row E te.ty false .unk (l'.take n++a)))],[dst]⟩
       |false=>none
      |none=>none
     |some (.row E t false .yes l)=>match qg (.slice t) (.slice te.ty) l with
      |some l'=>match Nat.beq E ti.elem,a with
       |true,y::ys=>some ⟨[(n+(y::ys).length)*te.bytes<=140737488355328],[],.own dst te.ty,[],[(o,none),(dst,some (.row E te.ty false .yes (l'.take n++(y::ys))))],[dst]⟩
       |_,_=>none
      |none=>none
     |_=>none
    | .lit v=>match qa v with
     |true=>some ⟨[a.length*te.bytes<=140737488355328],[],.own dst te.ty,[],[(dst,some (.row ti.elem te.ty false .yes a))],[dst]⟩
     |false=>none
    | .fcl t l=>match qg (.slice t) (.slice te.ty) l,a with
     |some l',y::ys=>some ⟨[(l'.length+(y::ys).length)*te.bytes<=140737488355328],[],.own dst te.ty,[],[(dst,some (.row ti.elem te.ty false .no (l'++(y::ys))))],[dst]⟩
     |_,_=>none
    |_=>none
   |none=>none
  |false,some _=>jb6 C σ dst b x U c
  |_,_=>none
 |_,_=>none
def aq (s:ByteArray) (i:Nat):Int:=((s.data.toList.getD i 0).toNat:Int)
def jfX:SV->Option Int
 | .dat .int i=>some i
 | .dat (.uint _) i=>some i
 |_=>none
def jb8 (C:Ctx) (σ:St):List Operand->List Nat->Option Out
 |[x],[U]=>match C.slice U,wx σ x with
  |some (_,te),.osl o u lo n=>match σ.obj o with
   |some (.row E t false nl l)=>match qg (.slice t) (.slice te.ty) l,bJ u te.ty with
    |some l',true=>some ⟨[lo+n=l'.length],[],.any,[],[(o,some (.row E te.ty false nl (l'.take lo++List.replicate n te.ty.dflt)))],[]⟩
    |_,_=>none
   |_=>none
  |_,_=>none
 |_,_=>none
def jbh (σ:St):SV->Option (Nat×Nat×Nat)
 | .own o _=>match σ.obj o with
  |some (.row _ _ _ _ l)=>some (o,0,l.length)
  |_=>none
 | .osl o _ lo n=>some (o,lo,n)
 |_=>none
def eTy (t:Ty):SV->Bool
 | .osl _ u _ _=>bJ u t
 | .own _ _=>true
 |_=>false
def UO {α:Type} (l:List α) (lo n:Nat) (a:List α):List α:=l.take lo++a.take n++l.drop (lo+(a.take n).length)
def jb9 (C:Ctx) (σ:St):List Operand->List Nat->Option Out
 |[x,y],[U,b]=>match Nat.beq U b,C.slice U with
  |true,some (_,te)=>match cw σ te.ty (wx σ y),jbh σ (wx σ x),eTy te.ty (wx σ x) with
   |some a,some (o,lo,n),true=>match σ.obj o with
    |some (.row E t false nl l)=>match qg (.slice t) (.slice te.ty) l with
     |some l'=>some ⟨[lo+n<=l'.length],[],.dat .int ((a.take n).length:Int),[],[(o,some (.row E te.ty false nl (UO l' lo n a)))],[]⟩
     |none=>none
    |_=>none
   |_,_,_=>none
  |_,_=>none
 |_,_=>none
def Y2 (C:Ctx) (σ:St) (dst U:Nat) (l c:Operand):Option Out:=match C.slice U,asInt (wx σ l),asInt (wx σ c) with
 |some (ti,te),some n,some m=>some ⟨[0<=n,n=m,n.toNat*te.bytes<=140737488355328],[],.own dst te.ty,[],[(dst,some (.row ti.elem te.ty false .no (List.replicate n.toNat te.ty.dflt)))],[dst]⟩
 |_,_,_=>none
def Y3 (C:Ctx) (σ:St) (U:Nat) (m a x:Operand):Option Out:=match C.mapT U with
 |some (_,tk,te)=>match wx σ m with
  | .mp o=>match σ.obj o with
   |some (.map false kt vt l)=>match qg (.map kt vt) (.map tk.ty te.ty) l,yF σ tk.ty (wx σ a),yF σ te.ty (wx σ x) with
    |some l',some (k,[]),some (v,fz)=>match aW fz o with
     |false=>some ⟨[],[],.any,fz,[(o,some (.map false tk.ty te.ty (iv tk.ty k v l')))],[]⟩
     |true=>none
    |_,_,_=>none
   |_=>none
  |_=>none
 |none=>none
def NW (C:Ctx) (U:Nat) (x:SV) (i:Int):Option Out:=
 match C.known U with
 |some ti=>match ti.arr,ti.fields[i.toNat]?,C.known ti.elem with
  |true,some (off,_),some te=>match x with
   | .ep t d=>match qg t ti.ty d with
    |some a=>match ti.ty.sub off te.ty a with
     |some y=>some ⟨[0<=i],[],.ep te.ty y,[],[],[]⟩
     |none=>none
    |none=>none
   |_=>none
  |_,_,_=>none
 |none=>none
def sH (σ:St) (t:Ty):List SV->Option (List t.Data)
 |[]=>some []
 |c::r=>match QH σ t c,sH σ t r with
  |some (d,[]),some l=>some (d::l)
  |_,_=>none
def jca (C:Ctx) (σ:St) (U:Nat) (x:SV) (lo hi:Option Operand):Option Out:=
 match C.known U,lo,hi,x with
 |some ti,none,none,.bp o 0=>match ti.arr,C.known ti.elem,σ.obj o with
  |true,some te,some (.box _ _ cs)=>match sH σ te.ty cs,Nat.beq cs.length ti.size,te.ty.agg with
   |some l,true,false=>some ⟨[],[],.dat (.slice te.ty) l,[o],[],[]⟩
   |_,_,_=>none
  |_,_,_=>none
 |_,_,_,_=>none
def wd (C:Ctx) (σ:St) (dst:Nat):Op->Option Out
 | .move x=>some (.pure (wx σ x))
 | .assign x=>some (.pure (wx σ x))
 | .alloc E=>match C.info E with
  |some ti=>some ⟨[],[],.bp dst 0,[],[(dst,some (.box E false (ti.zero.map FT)))],[dst]⟩
  |none=>none
 | .box E x=>match C.info E with
  |some _=>match cells σ (wx σ x) with
   |some cs=>some ⟨[],[],.bp dst 0,[],[(dst,some (.box E false cs))],[dst]⟩
   |none=>none
  |none=>none
 | .build U g=>match C.info U with
  |some ti=>match ti.agg,aX C σ ti.fields g.toList (ti.zero.map FT) with
   |true,some cs=>some (.pure (.agg cs))
   |_,_=>none
  |none=>none
 | .buildSlice U n g=>match C.slice U with
  |some (ti,te)=>match oc σ te.ty g.toList 0 with
   |some (l,fz)=>match Nat.beq l.length n,Nat.ble (n*te.size) 16777216 with
    |true,true=>some ⟨[],[],.own dst te.ty,fz,[(dst,some (.row ti.elem te.ty false .no l))],[dst]⟩
    |_,_=>none
   |none=>none
  |none=>none
 | .load U a=>match C.info U with
  |some ti=>match wx σ a with
   | .bp o off=>match σ.obj o with
    |some (.box _ _ cs)=>match ti.agg with
     |true=>match Nat.ble (off+ti.size) cs.length with
      |true=>some (.pure (.agg ((cs.drop off).take ti.size)))
      |false=>none
     |false=>match cs[off]? with
      |some v=>some (.pure v)
      |none=>none
    |_=>none
   | .ep t d=>match q8 ti.ty,qg t ti.ty d with
    |true,some x=>some (.pure (.dat ti.ty x))
    |_,_=>none
   | .rp o u i off=>match σ.obj o with
    |some (.row _ t _ _ l)=>match qg (.slice t) (.slice u) l with
     |some l'=>match q8 ti.ty,u.sub off ti.ty (@nth _ ⟨u.dflt⟩ l' i) with
      |true,some x=>some (.pure (.dat ti.ty x))
      |_,_=>none
     |none=>none
    |_=>none
   | .lit v=>match jbf v with
    |some x=>match q8 ti.ty,qg x.1 ti.ty x.2 with
     |true,some y=>some (.pure (.dat ti.ty y))
     |_,_=>none
    |none=>none
   | .dat (.ptr t) x=>match q8 ti.ty,qg t ti.ty (wg t.dflt x) with
    |true,some y=>some ⟨[x.isSome=true],[],.dat ti.ty y,[],[],[]⟩
    |_,_=>none
   | .fe true o T st ps rs pre K=>match ti.agg,CW σ o with
    |false,true=>some (.pure (.fe false o T st ps rs pre K))
    |_,_=>none
   | .fnp ps rs pre F=>match ti.agg with
    |false=>some (.pure (.fn ps rs pre F))
    |true=>none
   |_=>none
  |none=>none
 | .store U a x=>match C.info U with
  |some ti=>match wx σ a with
   | .bp o off=>match σ.obj o with
    |some (.box B false cs)=>match cells σ (wx σ x) with
     |some new=>match Nat.beq new.length ti.size,Nat.ble (off+new.length) cs.length with
      |true,true=>some ⟨[],[],.any,[],[(o,some (.box B false (Ie cs new off)))],[]⟩
      |_,_=>none
     |none=>none
    |_=>none
   | .rp o u i off=>match σ.obj o with
    |some (.row E t false nl l)=>match qg (.slice t) (.slice u) l with
     |some l'=>match q8 ti.ty,yF σ ti.ty (wx σ x) with
      |true,some (d,fz)=>match u.put off ti.ty (@nth _ ⟨u.dflt⟩ l' i) d,aW fz o with
       |some y,false=>some ⟨[],[],.any,fz,[(o,some (.row E u false nl (l'.set i y)))],[]⟩
       |_,_=>none
      |_,_=>none
     |none=>none
    |_=>none
   |_=>none
  |none=>none
 | .nilCheck x=>match wx σ x with
  | .bp o off=>match CW σ o with|true=>some (.pure (.bp o off))|false=>none
  | .ep t d=>some (.pure (.ep t d))
  | .dat (.ptr t) x=>some ⟨[x.isSome=true],[],.ep t (wg t.dflt x),[],[],[]⟩
  |_=>none
 | .fieldAddr U x f=>match C.info U with
  |some ti=>match ti.flds[f]? with
   |some (off,w)=>match wx σ x with
    | .bp o k=>match C.info w,CW σ o with
     |some e,true=>match Nat.beq e.size 0 with|true=>none|false=>some (.pure (.bp o (k+off)))
     |_,_=>none
    | .rp o t i k=>match C.info w,CW σ o with
     |some e,true=>match Nat.beq e.size 0 with|true=>none|false=>some (.pure (.rp o t i (k+off)))
     |_,_=>none
    | .ep t d=>match C.known w with
     |some e=>match Nat.beq e.size 0 with
      |true=>none
      |false=>match t.sub off e.ty d with
       |some y=>some (.pure (.ep e.ty y))
       |none=>none
     |none=>none
    | .dat (.ptr t) x=>match C.known w with
     |some e=>match Nat.beq e.size 0 with
      |true=>none
      |false=>match t.sub off e.ty (wg t.dflt x) with
       |some y=>some ⟨[x.isSome=true],[],.ep e.ty y,[],[],[]⟩
       |none=>none
     |none=>none
    |_=>none
   |none=>none
  |none=>none
 | .field U x f=>match C.info U with
  |some ti=>match ti.flds[f]? with
   |some (off,w)=>match C.info w with
    |some e=>match wx σ x with
     | .agg cs=>match e.agg with
      |true=>some (.pure (.agg ((cs.drop off).take e.size)))
      |false=>match cs[off]? with
       |some v=>some (.pure v)
       |none=>none
     | .dat t d=>match t.agg,q8 e.ty,t.sub off e.ty d with
      |true,true,some y=>some (.pure (.dat e.ty y))
      |_,_,_=>none
     |_=>none
    |none=>none
   |none=>none
  |none=>none
 | .indexAddr U x q=>match C.slice U,asInt (wx σ q) with
  |some (_,te),some i=>match wx σ x with
   | .dat (.slice t) l=>match qg (.slice t) (.slice te.ty) l with
    |some l'=>some ⟨[0<=i,i<l'.length],[],.ep te.ty (@nth _ ⟨te.ty.dflt⟩ l' i.toNat),[],[],[]⟩
    |none=>none
   | .own o _=>match σ.obj o with
    |some (.row _ _ _ _ l)=>some ⟨[0<=i,i<l.length],[],.rp o te.ty i.toNat 0,[],[],[]⟩
    |_=>none
   | .osl o t lo n=>match CW σ o,bJ t te.ty with
    |true,true=>some ⟨[0<=i,i<n],[],.rp o te.ty (lo+i.toNat) 0,[],[],[]⟩
    |_,_=>none
   | .lit v=>match qa v with
    |true=>some ⟨[False],[],.ep te.ty te.ty.dflt,[],[],[]⟩
    |false=>none
   |_=>none
  |none,some i=>NW C U (wx σ x) i
  |_,none=>none
 | .index U x q=>match aW C.strs U,wx σ x,jfX (wx σ q) with
  |true,.lit (.string s),some i=>some ⟨[0<=i,i<s.size],[],.dat (.uint .u8) (aq s i.toNat),[],[],[]⟩
  |_,_,_=>none
 | .binOp op U x y _=>match jep C dst with
  |true=>jfW op (wx σ x) (wx σ y)
  |false=>jb3 C σ op U (wx σ x) (wx σ y)
 | .unOp op _ x=>match op with
  | .not=>match wx σ x with
   | .dat .bool b=>some (.pure (.dat .bool (!b)))
   |_=>none
  | .neg=>match asInt (wx σ x) with
   |some a=>some ⟨[kU (-a)],[],.dat .int (-a),[],[],[]⟩
   |none=>none
  |_=>none
 | .convert V U x=>match C.info V,C.info U with
  |some _,some ti=>match ti.agg,ti.ty with
   |false,.int=>match asInt (wx σ x) with
    |some a=>some ⟨[kU a],[],.dat .int a,[],[],[]⟩
    |none=>match QI (wx σ x) with
     |some a=>some ⟨[kU a],[],.dat .int a,[],[],[]⟩
     |none=>none
   |false,.uint .u64=>match asInt (wx σ x) with
    |some a=>some ⟨[0<=a,a<=18446744073709551615],[],.dat (.uint .u64) a,[],[],[]⟩
    |none=>none
   |false,.uint .u8=>match QI (wx σ x) with
    |some a=>some ⟨[0<=a,a<=255],[],.dat (.uint .u8) a,[],[],[]⟩
    |none=>none
   |_,_=>none
  |_,_=>none
 | .makeFunc f p caps=>match f,p.toList with
  | .func f,[]=>some (.pure (.clo f (caps.toList.map (wx σ))))
  |_,_=>none
 | .slice U x none (some hi) (some A)=>match C.slice U,wx σ x,asInt (wx σ hi),asInt (wx σ A) with
  |some (_,te),.dat (.slice t) xs,some h,some m=>match qg (.slice t) (.slice te.ty) xs with
   |some j=>some ⟨[h=j.length,m=j.length],[],.fcl te.ty j,[],[],[]⟩
   |none=>none
  |_,_,_,_=>none
 | .slice U x lo hi none=>match C.slice U with
  |none=>jca C σ U (wx σ x) lo hi
  |some (_,te)=>match NV σ lo 0 with
   |none=>none
   |some l=>match wx σ x with
    | .dat (.slice t) xs=>match qg (.slice t) (.slice te.ty) xs,NV σ hi xs.length with
     |some j,some h=>some ⟨[0<=l,l<=h,h<=j.length],[],.dat (.slice te.ty) ((j.drop l.toNat).take (h.toNat-l.toNat)),[],[],[]⟩
     |_,_=>none
    | .own o _=>match σ.obj o with
     |some (.row _ _ _ _ xs)=>match NV σ hi xs.length with
      |some h=>some ⟨[0<=l,l<=h,h<=xs.length],[],.osl o te.ty l.toNat (h.toNat-l.toNat),[],[],[]⟩
      |none=>none
     |_=>none
    | .osl o t z n=>match NV σ hi n,bJ t te.ty,CW σ o with
     |some h,true,true=>some ⟨[0<=l,l<=h,h<=n],[],.osl o t (z+l.toNat) (h.toNat-l.toNat),[],[],[]⟩
     |_,_,_=>none
    | .lit v=>match qa v,NV σ hi 0 with
     |true,some h=>some ⟨[0<=l,l<=h,h<=0],[],.lit v,[],[],[]⟩
     |_,_=>none
    |_=>none
 | .extract x i=>match wx σ x with
  | .tup vs=>match vs[i]? with
   |some v=>some (.pure v)
   |none=>none
  |_=>none
 | .call c=>match c.callee with
  | .value f=>G5 C σ dst (wx σ f) (c.args.toList.map (wx σ))
  | .builtin .len=>jb4 C σ c.args.toList c.argTypes.toList
  | .builtin .append=>jb7 C σ dst c.args.toList c.argTypes.toList
  | .builtin .clear=>jb8 C σ c.args.toList c.argTypes.toList
  | .builtin .copy=>jb9 C σ c.args.toList c.argTypes.toList
  | .builtin .cap=>jb5 C σ c.args.toList c.argTypes.toList
  | .builtin .min=>match c.args.toList.map (wx σ) with
   | .dat .int a::r=>match CY r a with
    |some m=>some (.pure (.dat .int m))
    |none=>none
   |_=>none
  | .builtin .max=>match c.args.toList.map (wx σ) with
   | .dat .int a::r=>match CZ r a with
    |some m=>some (.pure (.dat .int m))
    |none=>none
   |_=>none
  |_=>none
 | .makeMap U none=>match C.lit,C.mapT U with
  |false,some (_,tk,te)=>some ⟨[],[],.mp dst,[],[(dst,some (.map false tk.ty te.ty []))],[dst]⟩
  |true,some _=>some (.pure .any)
  |_,none=>none
 | .lookup U x q ok=>match C.mapT U with
  |some (_,tk,te)=>match Y1 σ tk.ty te.ty (wx σ x),yF σ tk.ty (wx σ q) with
   |some l,some (k,[])=>match ok with
    |true=>some (.pure (.tup [.dat te.ty (w4 te.ty.dflt (wv tk.ty k l)),.dat .bool (jbg (wv tk.ty k l))]))
    |false=>some (.pure (.dat te.ty (w4 te.ty.dflt (wv tk.ty k l))))
   |_,_=>none
  |none=>none
 | .mapUpdate U m q x=>Y3 C σ U m q x
 | .insert U m q x=>match C.lit with
  |false=>Y3 C σ U m q x
  |true=>some (.pure .any)
 | .makeSlice U l c=>Y2 C σ dst U l c
 | .entryStore U m st x=>match C.mapT U with
  |some (_,tk,te)=>match wx σ m,wx σ st with
   | .mp o,.dat .int s=>match σ.obj o with
    |some (.mape kt vt l k D)=>match qg (.map kt vt) (.map tk.ty te.ty) l,qg kt tk.ty k,yF σ te.ty (wx σ x) with
     |some l',some k',some (v,fz)=>match aW fz o with
      |false=>some ⟨[s=D],[],.any,fz,[(o,some (.map false tk.ty te.ty (iv tk.ty k' v l')))],[]⟩
      |true=>none
     |_,_,_=>none
    |_=>none
   |_,_=>none
  |none=>none
 | .range U x=>match C.mapT U with
  |some (_,tk,te)=>match yF σ (.map tk.ty te.ty) (wx σ x) with
   |some (l,fz)=>some ⟨[],[],.ip dst,fz,[(dst,some (.iter tk.ty te.ty l none))],[dst]⟩
   |none=>none
  |none=>none
 | .entry it=>match wx σ it with
  | .ip o=>match σ.obj o with
   |some (.iter kt vt _ (some x))=>some (.pure (.tup [.dat kt x.1,.dat vt x.2]))
   |_=>none
  |_=>none
 | .panic _=>some ⟨[False],[],.any,[],[],[]⟩
 | .makeInterface T _=>match C.info T with|some _=>some (.pure .any)|none=>none
 |_=>none
structure RS where
 st:St
 gl:List (Nat×(Nat×Bool)×SV)
def Sj:List (Nat×(Nat×Bool)×SV)->Nat->Option ((Nat×Bool)×SV)
 |[],_=>none
 | (j,g,x)::r,k=>match Nat.beq j k with|true=>some (g,x)|false=>Sj r k
def sgn (want β:Bool):Bool:=match want with|true=>β|false=> !β
def dT (ops:List Oper) (j:Nat):Option Nat:=match ops[j]? with|some o=>o.dst|none=>none
def pj (ops:List Oper) (rs:RS):Nat->Nat×Bool->Option Bool
 |0,_=>none
 |fuel+1,(j,want)=>match dT ops j with
  |some d=>match Sj rs.gl d with
   |some (g,.dat .bool β)=>match pj ops rs fuel g with
    |some γ=>some (γ&&sgn want β)
    |none=>none
   |some _=>none
   |none=>match rs.st.get d with
    | .dat .bool β=>some (sgn want β)
    |_=>none
  |none=>none
def xd (ops:List Oper) (rs:RS):Nat->Nat×Bool->List (Nat×Bool)
 |0,_=>[]
 |fuel+1,(j,want)=>(j,want)::(match dT ops j with
  |some d=>match Sj rs.gl d with
   |some (g,_)=>xd ops rs fuel g
   |none=>[]
  |none=>[])
def UY (a b:Nat×Bool):Bool:=match Nat.beq a.1 b.1 with|true=>(match a.2,b.2 with|true,true=>true|false,false=>true|_,_=>false)|false=>false
def xe:List (Nat×Bool)->Nat×Bool->Bool
 |[],_=>false
 |h::r,g=>match UY h g with|true=>true|false=>xe r g
def iw:List (Nat×(Nat×Bool)×SV)->List (Nat×Bool)->List (Nat×SV)
 |[],_=>[]
 | (s,g,v)::r,ch=>match xe ch g with|true=>(s,v)::iw r ch|false=>iw r ch
def wR (rs:RS) (ch:List (Nat×Bool)):St:={rs.st with sl:=iw rs.gl ch++rs.st.sl}
def Ig:Operand->Option Nat
 | .tmp t=>some t
 |_=>none
def iy (t:Nat):List Oper->Nat->List Nat
 |[],_=>[]
 |o::r,j=>match o.dst with
  |some d=>match Nat.beq d t with|true=>j::iy t r (j+1)|false=>iy t r (j+1)
  |none=>iy t r (j+1)
def iz (ops:List Oper) (c:Operand) (want:Bool):List (Nat×Bool):=
 match Ig c with
 |some t=>(iy t ops 0).map fun j=>(j,want)
 |none=>[]
def NX (ops:List Oper) (rs:RS) (ch:List (Nat×Bool)) (c a b:Operand):Option Out:=
 match wx (wR rs ch) c with
 | .dat .bool β=>
  match wx (wR rs (iz ops c true++ch)) a,wx (wR rs (iz ops c false++ch)) b with
  | .dat .bool x,.dat .bool y=>match b with
   | .const (.bool false)=>some (.pure (.dat .bool (β&&x)))
   |_=>match a with
    | .const (.bool true)=>some (.pure (.dat .bool (β||y)))
    |_=>some (.pure (.dat .bool (cond β x y)))
  | .dat .int x,.dat .int y=>some (.pure (.dat .int (cond β x y)))
  |_,_=>none
 |_=>none
def pM (C:Ctx):Option Nat->Bool
 |some d=>Nat.blt d C.n
 |none=>true
structure Eff where
 guard:Option Bool
 vc:List Prop
 fact:List Prop
 sl:List (Nat×SV)
 gl:List (Nat×(Nat×Bool)×SV)
 ob:List (Nat×Option Ob)
 nw:List Nat
def w8 (e:Eff) (rs:RS):RS:=⟨⟨e.sl++rs.st.sl,e.ob++rs.st.ob⟩,e.gl++rs.gl⟩
def FU (o:Oper):Nat:=match o.dst with|some d=>d|none=>1000000
def KF (o:Oper) (v:SV):List (Nat×SV):=match o.dst with|some d=>[(d,v)]|none=>[]
def UZ (C:Ctx) (σ:St) (U n:Nat) (a:List (Nat×Operand)):Option Out:=match C.slice U with
 |some (_,te)=>match oc σ te.ty a 0 with
  |some (l,fz)=>match Nat.beq l.length n,Nat.ble (n*te.size) 16777216 with
   |true,true=>some ⟨[],[],.dat (.slice te.ty) l,fz,[],[]⟩
   |_,_=>none
  |none=>none
 |none=>none
def dU (C:Ctx) (ops:List Oper) (o:Oper) (R:RS) (ch:List (Nat×Bool)):Option Out:=
 match o.op,o.guard with
 | .pick c a b,_=>NX ops R ch c a b
 | .buildSlice U n d,some _=>UZ C (wR R ch) U n d.toList
 |op,_=>wd C (wR R ch) (FU o) op
def mz:Op->Bool
 | .call c=>match c.callee with
  | .builtin .clear=>false
  |_=>true
 |_=>false
def eX (C:Ctx) (ops:List Oper) (o:Oper) (R:RS):Option Eff:=
 match o.guard with
 |none=>match dU C ops o R [] with
  |none=>none
  |some out=>some ⟨none,out.vc,out.fact,KF o out.sv,[],out.wr++ao R.st out.fz,out.nw⟩
 |some g=>match pj ops R ops.length g with
  |none=>none
  |some γ=>match dU C ops o R (xd ops R ops.length g) with
   |none=>none
   |some out=>match out.wr,out.nw with
    |[],[]=>some ⟨some γ,out.vc,out.fact,KF o .any,(match o.dst with|some d=>[(d,g,out.sv)]|none=>[]),ao R.st out.fz,[]⟩
    |_,_=>none
def Y4 (ops:List Oper) (d:Nat):List (Nat×(Nat×Bool)×SV)->Bool
 |[]=>true
 | (s,(j,_),_)::r=>match Nat.beq s d,dT ops j with
  |false,some dj=>match Nat.beq dj d with|true=>false|false=>Y4 ops d r
  |_,_=>false
def NY (rs:RS) (d:Nat):Bool:=match rs.st.obj d,pL d rs.st.sl,If d rs.gl,ay d rs.st.ob with
 |none,true,true,true=>Nat.ble (d+1) 1000000
 |_,_,_,_=>false
def U0 (ops:List Oper) (d:Nat):Option (Nat×Bool)->Bool
 |some (j,_)=>match dT ops j with
  |some dj=>match Nat.beq dj d with|true=>false|false=>true
  |none=>false
 |none=>true
def U1 (ops:List Oper) (o:Oper) (rs:RS):Bool:=
 match o.dst with
 |some d=>match U0 ops d o.guard with
  |true=>Y4 ops d rs.gl
  |false=>false
 |none=>true
def G6 (rs:RS):List Nat->Bool
 |[]=>true
 |d::r=>match NY rs d with|true=>G6 rs r|false=>false
def fits (C:Ctx) (ops:List Oper) (o:Oper) (rs:RS) (e:Eff):Bool:=
 match pM C o.dst,U1 ops o rs,G6 rs e.nw,(match e.nw,mz o.op with|[],false=>true|_,_=>NY rs (FU o)) with
 |true,true,true,true=>true
 |_,_,_,_=>false
def bS (C:Ctx) (ops:List Oper):List Oper->RS->Option (List Eff×RS)
 |[],rs=>some ([],rs)
 |o::r,rs=>match eX C ops o rs with
  |none=>none
  |some e=>match fits C ops o rs e with
   |false=>none
   |true=>match bS C ops r (w8 e rs) with
    |none=>none
    |some (es,a)=>some (e::es,a)
def SV.rl:SV->List Nat
 | .bp o _=>[o]
 | .own o _=>[o]
 | .osl o _ _ _=>[o]
 | .rp o _ _ _=>[o]
 | .mp o=>[o]
 | .ip o=>[o]
 | .fe _ o _ _ _ _ _ _=>[o]
 | .clo _ caps=>rlL caps
 | .agg cs=>rlL cs
 | .tup cs=>rlL cs
 |_=>[]
where
 rlL:List SV->List Nat
  |[]=>[]
  |v::r=>SV.rl v++rlL r
def ar:List Nat->List Nat->List Nat
 |[],l=>l
 |o::r,l=>match aW l o with|true=>ar r l|false=>ar r (o::l)
def QJ:List Operand->List Nat
 |[]=>[]
 |x::r=>match Ig x with|some t=>t::QJ r|none=>QJ r
def eY (ops:List Oper):Nat->Option (Nat×Bool)->List Nat
 |0,_=>[]
 |_,none=>[]
 |fuel+1,some (j,_)=>match ops[j]? with
  |some o=>match o.dst with
   |some d=>d::eY ops fuel o.guard
   |none=>eY ops fuel o.guard
  |none=>[]
def wT (ops:List Oper) (o:Oper):List Nat:=QJ o.op.operands.toList++eY ops ops.length o.guard
def keep {α:Type} (ks:List Nat):List (Nat×α)->List (Nat×α)
 |[]=>[]
 | (k,x)::r=>match aW ks k with|true=>(k,x)::keep ks r|false=>keep ks r
def jd9:List (Nat×SV)->List Nat
 |[]=>[]
 | (_,v)::r=>ar v.rl (jd9 r)
def jea:List (Nat×(Nat×Bool)×SV)->List Nat
 |[]=>[]
 | (_,_,v)::r=>ar v.rl (jea r)
def FQ (σ:St):List Nat->List Nat
 |[]=>[]
 |o::r=>match σ.obj o with
  |some (.box _ _ cs)=>ar (SV.rl.rlL cs) (FQ σ r)
  |_=>FQ σ r
def U2 (σ:St):Nat->List Nat->List Nat
 |0,os=>os
 |n+1,os=>U2 σ n (ar (FQ σ os) os)
def share (slots:List Nat) (rs:RS):List Nat×RS:=
 (fun sl gl=>(fun os=>(os,⟨⟨sl,os.map fun o=>(o,rs.st.obj o)⟩,gl⟩)) (U2 rs.st 3 (ar (jd9 sl) (jea gl)))) (keep slots rs.st.sl) (keep slots rs.gl)
def mA:List Nat->List Nat->Bool
 |[],_=>true
 |o::r,l=>match aW l o with|true=>mA r l|false=>false
def NZ:List (Nat×Option Ob)->List Nat
 |[]=>[]
 | (_,some (.box _ _ cs))::r=>SV.rl.rlL cs++NZ r
 |_::r=>NZ r
def q6 {α:Type}:List (Nat×α)->List Nat
 |[]=>[]
 | (k,_)::r=>k::q6 r
structure q7 where
 e:Eff
 slots:List Nat
 os:List Nat
 ws:List Nat
 mv:Bool--it only moves a value
 nn:List Nat--the objects that it makes
def eZ:Option Ob->Bool
 |some (.box _ _ _)=>true
 |_=>false
def jeq (σ:St) (o:Oper):Bool:=match o.op,o.guard with
 | .move _,none=>true
 | .load _ a,none=>(match wx σ a with| .bp b _=>eZ (σ.obj b)|_=>false)
 | .fieldAddr _ a _,none=>(match wx σ a with| .bp b _=>eZ (σ.obj b)|_=>false)
 |_,_=>false
def jfY (o:Oper) (e:Eff):List Nat:=e.nw++(match e.nw,mz o.op with|[],false=>[]|_,_=>[FU o])
def closed (os:List Nat) (R:RS) (e:Eff):Bool:=
 match mA (FQ R.st os) os,mA (jd9 e.sl) (e.nw++os),mA (jea e.gl) (e.nw++os),mA (NZ e.ob) (e.nw++os),mA (q6 e.ob) (e.nw++os) with
 |true,true,true,true,true=>true
 |_,_,_,_,_=>false
def C4 (C:Ctx) (ops:List Oper):List Oper->RS->Option (List q7×RS)
 |[],rs=>some ([],rs)
 |o::r,rs=>
  match eX C ops o (share (wT ops o) rs).2 with
  |none=>none
  |some e=>match fits C ops o rs e,closed (share (wT ops o) rs).1 (share (wT ops o) rs).2 e with
   |true,true=>match C4 C ops r (w8 e rs) with
    |none=>none
    |some (es,a)=>some (⟨e,wT ops o,(share (wT ops o) rs).1,q6 e.ob++jfY o e,jeq (wR (share (wT ops o) rs).2 []) o,jfY o e⟩::es,a)
   |_,_=>none
def mB:List Nat->List Nat->Bool
 |[],_=>false
 |o::r,l=>match aW l o with|true=>true|false=>mB r l
def q7.names (x:q7):List Nat:=jd9 x.e.sl++(jea x.e.gl++(NZ x.e.ob++x.os))
def C6:List (Nat×Option Ob)->List Nat
 |[]=>[]
 | (r,x)::l=>match eZ x with|true=>r::C6 l|false=>C6 l
def cx:List q7->List Nat
 |[]=>[]
 |x::r=>C6 x.e.ob++cx r
def U3 (σ:St) (nb mk names:List Nat):List Nat->Bool
 |[]=>true
 |r::l=>match aW names r with
  |false=>U3 σ nb mk names l
  |true=>match aW nb r,aW mk r,eZ (σ.obj r) with
   |false,false,false=>U3 σ nb mk names l
   |_,_,_=>false
def jfG (σ:St) (nb:List Nat) (x y:q7):Bool:=match y.mv with
 |true=>U3 σ nb x.nn y.names x.ws
 |false=>false
def QK (a b:List Nat) (s:Bool):Bool:=match mB a b with
 |true=>(match s with|true=>false|false=>true)
 |false=>false
def Y5 (σ:St) (nb:List Nat) (x y:q7):Bool:=
 match mB (q6 x.e.sl) (q6 y.e.sl++y.slots),mB (q6 y.e.sl) x.slots,mB x.ws y.ws,QK x.ws y.names (jfG σ nb x y),QK y.ws x.names (jfG σ nb y x) with
 |false,false,false,false,false=>false
 |_,_,_,_,_=>true
def xf (a:List (List Nat)):List Edge->Option (List Nat)
 |[]=>some []
 |e::r=>match xf a r with
  |none=>none
  |some l=>match Region.binds .any e with
   |false=>some l
   |true=>match a[e.on]? with
    |some p=>some (ar p (match aW l e.on with|true=>l|false=>e.on::l))
    |none=>none
def vL:List Oper->List (List Nat)->Option (List (List Nat))
 |[],a=>some a
 |o::r,a=>match xf a o.after.toList with
  |some p=>vL r (a++[p])
  |none=>none
def od (σ:St) (nb:List Nat) (x:q7) (before:List Nat):List q7->Nat->Bool
 |[],_=>true
 |y::r,j=>match Y5 σ nb y x with
  |true=>match aW before j with|true=>od σ nb x before r (j+1)|false=>false
  |false=>od σ nb x before r (j+1)
def dV (σ:St) (nb:List Nat) (all:List q7):List q7->List (List Nat)->Nat->Bool
 |[],_,_=>true
 |x::r,p::ps,k=>match od σ nb x p (all.take k) 0 with
  |true=>dV σ nb all r ps (k+1)
  |false=>false
 |_::_,[],_=>false
def fa (C:Ctx) (ops:List Oper) (a:Bool) (σ:St):Option (List Eff×RS):=
 match a with
 |false=>bS C ops ops ⟨σ,[]⟩
 |true=>match C4 C ops ops ⟨σ,[]⟩,vL ops [] with
  |some (aZ,rs),some ps=>match dV σ (cx aZ) aZ aZ ps 0 with
   |true=>some (aZ.map (·.e),rs)
   |false=>none
  |_,_=>none
def asks:List Prop->Prop->Prop
 |[],k=>k
 |p::r,k=>p/\asks r k
def U4 (γ:Bool):List Prop->Prop->Prop
 |[],k=>k
 |p::r,k=>(γ=true->p)/\U4 γ r k
def Ih:List Prop->Prop->Prop
 |[],k=>k
 |p::r,k=>p->Ih r k
def U5 (γ:Bool):List Prop->Prop->Prop
 |[],k=>k
 |p::r,k=>(γ=true->p)->U5 γ r k
def qD (a:Bool):List Eff->Prop->Prop
 |[],k=>k
 |s::r,k=>match s.guard with
  |none=>asks s.vc (match a with|true=>qD a r k|false=>Ih s.fact (qD a r k))
  |some γ=>U4 γ s.vc (match a with|true=>qD a r k|false=>U5 γ s.fact (qD a r k))
def oN (σ:St) (p:SV->Bool):List (Nat×SV)->List (Nat×SV)
 |[]=>[]
 | (s,_)::r=>match p (σ.get s) with|true=>(s,.any)::oN σ p r|false=>oN σ p r
def QL (ob:List (Nat×Option Ob)):List (Nat×Option Ob)->List Nat
 |[]=>[]
 | (o,none)::r=>(match wc ob o with|some none=>o::QL ob r|_=>QL ob r)
 |_::r=>QL ob r
def pN (os:List Nat) (v:SV):Bool:=match os with
 |[]=>false
 |o::r=>match SV.refs o v with|true=>true|false=>pN r v
def gc (n:Nat) (σ:St):St:=
 match QL σ.ob (σ.ob.take (σ.ob.length-n)) with
 |[]=>σ
 |os=>{σ with sl:=oN σ (pN os) σ.sl++σ.sl}
def KG (s:Nat) (σ:St):St:=
 match σ.get s with
 | .own o t=>match Nat.beq o s with
  |true=>σ
  |false=>match σ.obj o,ay s σ.ob&&Nat.ble (s+1) 1000000 with
   |some x,true=>{sl:=(s,.own s t)::(oN σ (pN [o,s]) σ.sl++σ.sl),ob:=(s,some x)::(o,none)::σ.ob}
   |_,_=>σ
 |_=>σ
def dz (b j:Nat):Nat:=match Nat.ble 1000000 b with|true=>400000+20*(b-1000000)+j|false=>500000+20*b+j
def oe (σ:St) (s:Nat):List Nat->Bool
 |[]=>true
 |k::r=>match σ.obj k with
  |some (.box _ _ cs)=>match SV.refs.refsL s cs with|true=>false|false=>oe σ s r
  |_=>oe σ s r
def xg (b j:Nat) (σ:St):St:=
 match σ.obj b with
 |some (.box T fz cs)=>match cs[j]? with
  |some (.mp o)=>match Nat.beq o (dz b j),Nat.beq b o,Nat.beq b (dz b j) with
   |false,false,false=>match σ.obj o,oe σ (dz b j) (σ.ob.map (·.1))&&Nat.ble (dz b j+1) 1000000 with
    |some (.map a kt vt l),true=>{sl:=oN σ (pN [o,dz b j]) σ.sl++σ.sl,ob:=(b,some (.box T fz (cs.set j (.mp (dz b j)))))::(dz b j,some (.map a kt vt l))::(o,none)::σ.ob}
    |_,_=>σ
   |_,_,_=>σ
  |_=>σ
 |_=>σ
def bK (b j:Nat):Nat:=match Nat.ble 1000000 b with|true=>400000+20*(b-1000000)+j|false=>500000+20*b+j
def jer (σ:St) (o s:Nat):List (Nat×SV):=match σ.get o with
 | .own o' t=>match Nat.beq o' o with|true=>[(o,.own s t)]|false=>[]
 |_=>[]
def og (c:Bool) (b j:Nat) (σ:St):St:=
 match σ.obj b with
 |some (.box T fz cs)=>match cs[j]? with
  |some (.own o u)=>match Nat.beq o (bK b j),Nat.beq b o,Nat.beq b (bK b j) with
   |false,false,false=>match σ.obj o,oe σ (bK b j) (σ.ob.map (·.1))&&Nat.ble (bK b j+1) 1000000 with
    |some (.row E t a nl l),true=>{sl:=(match c with|true=>jer σ o (bK b j)|false=>[])++(oN σ (pN [o,bK b j]) σ.sl++σ.sl),ob:=(b,some (.box T fz (cs.set j (.own (bK b j) u))))::(bK b j,some (.row E t a nl l))::(o,none)::σ.ob}
    |_,_=>σ
   |_,_,_=>σ
  |_=>σ
 |_=>σ
def Ii (b j:Nat) (σ:St):St:=og false b j σ
def jbi (σ:St) (b:Nat):Nat:=match σ.obj b with
 |some (.box _ _ cs)=>cs.length
 |_=>0
def Cu (b:Nat):Nat->St->St
 |0,σ=>σ
 |j+1,σ=>Ii b j (Cu b j σ)
def pO (σ:St) (t:Nat):St:=
 match σ.get t with
 | .bp b 0=>Cu b (jbi σ b) (xg b 0 σ)
 | .clo _ [.bp b 0]=>xg b 0 σ
 |_=>σ
def C7 (σ:St):Callee->St
 | .value (.tmp t)=>pO σ t
 |_=>σ
def C8 (σ:St):List Operand->St
 | .tmp t::_=>pO σ t
 |_=>σ
def jfZ (σ:St):Operand->Bool
 | .tmp k=>(match σ.get k with| .own o _=>(match Nat.beq o k with|true=>false|false=>true)|_=>false)
 |_=>false
def KH (b j:Nat) (σ:St):St:=match σ.obj b with
 |some (.box _ _ cs)=>match cs[j]? with
  |some (.own o _)=>match Nat.ble 1000 o,Nat.ble o 399999 with
   |true,true=>Ii b j σ
   |_,_=>σ
  |_=>σ
 |_=>σ
def Ij (b:Nat):Nat->St->St
 |0,σ=>σ
 |j+1,σ=>KH b j (Ij b j σ)
def C9 (σ:St) (t:Nat) (x:Operand):St:=
 match σ.get t with
 | .bp b k=>Ij b (jbi σ b) (og (jfZ σ x) b k σ)
 |_=>σ
def yt:List Oper->St->St
 |[],σ=>σ
 |o::r,σ=>match o.op,o.dst with
  | .assign _,some s=>yt r (pO (KG s σ) s)
  | .call c,_=>yt r (C7 (C8 σ c.args.toList) c.callee)
  | .store _ (.tmp t) x,_=>yt r (C9 σ t x)
  |_,_=>yt r σ
inductive Ex where
 |normal|ret|exit (id:Nat)
structure pP where
 X:Type
 sl:X->List (Nat×SV)
 ob:X->List (Nat×Option Ob)
 inv:X->Prop
 mu:X->Nat
def jcb:List Oper->List Nat
 |[]=>[]
 |o::r=>match o.dst with|some d=>d::jcb r|none=>jcb r
def qO:Code->List Nat
 | .region _ ops _=>jcb ops.toList
 | .seq a b=>qO a++qO b
 | .cond _ a b=>qO a++qO b
 | .block _ a=>qO a
 | .loop a=>qO a
 | .scope a=>qO a
 |_=>[]
def pk:Code->Nat
 | .region id _ _=>id
 | .seq a _=>pk a
 | .block _ a=>pk a
 | .loop a=>pk a
 | .scope a=>pk a
 |_=>0
def qt (L:pP) (ws:List Nat) (σ:St) (x:L.X):St:=
 {sl:=L.sl x++(ws.map (fun s=>(s,SV.any))++σ.sl),ob:=L.ob x++(ws.map (fun s=>(s,none))++σ.ob)}
def jbj (t a:Ty) (d:t.Data) (b:a.Data):Prop:=match qg t a d with|some x=>x=b|none=>False
def dW (σ:St):SV->SV->Prop
 |_,.any=>True
 |v,.dat t d=>match yF σ t v with|some (x,[])=>x=d|_=>False
 | .ep t d,.ep a j=>jbj t a d j
 | .own o _,.own o' _=>match Nat.beq o o' with|true=>True|false=>False
 | .lit v,.own o _=>match qa v,σ.obj o with|true,none=>True|_,_=>False
 | .own o u,.osl o' a lo n=>match Nat.beq o o',σ.obj o with
  |true,some (.row _ t _ _ l)=>match bJ t a,bJ u a with|true,true=>lo=0/\n=l.length|_,_=>False
  |_,_=>False
 | .osl o t lo n,.osl o' a c m=>match Nat.beq o o',bJ t a with|true,true=>lo=c/\n=m|_,_=>False
 | .bp o k,.bp o' k'=>match Nat.beq o o',Nat.beq k k' with|true,true=>True|_,_=>False
 | .mp o,.mp o'=>match Nat.beq o o' with|true=>True|false=>False
 | .ip o,.ip o'=>match Nat.beq o o' with|true=>True|false=>False
 | .fe q o T st ps rs pre K,.fe p o' i g e f b h=>SV.fe q o T st ps rs pre K=SV.fe p o' i g e f b h
 |_,_=>False
def QM (σ:St):List SV->List SV->Prop
 |[],[]=>True
 |a::r,b::s=>dW σ a b/\QM σ r s
 |_,_=>False
def FV:Bool->Bool->Bool
 |false,true=>false
 |_,_=>true
def U6:Nl->Nl->Bool
 | .unk,_=>true
 | .yes,.yes=>true
 | .no,.no=>true
 |_,_=>false
def Ba (σ:St) (o:Nat):Ob->Prop
 | .box T fz cs=>match σ.obj o with
  |some (.box i a f)=>match Nat.beq T i,FV fz a with
   |true,true=>QM σ f cs
   |_,_=>False
  |_=>False
 | .row E t fz nl l=>match σ.obj o with
  |some (.row h g a e l')=>match Nat.beq E h,FV fz a with
   |true,true=>match U6 nl e with
    |true=>jbj (.slice g) (.slice t) l' l
    |false=>match nl,e with
     | .yes,.no=>l≠[]/\jbj (.slice g) (.slice t) l' l
     |_,_=>False
   |_,_=>False
  |none=>match fz,nl,pL o σ.sl,ay o σ.ob&&Nat.ble (o+1) 1000000 with|false,.yes,true,true=>l=[]|false,.unk,true,true=>l=[]|_,_,_,_=>False
  |_=>False
 | .map fz kt vt l=>match σ.obj o with
  |some (.map a b d l')=>match FV fz a with
   |true=>jbj (.map b d) (.map kt vt) l' l
   |false=>False
  |_=>False
 | .iter kt vt left none=>match σ.obj o with
  |some (.iter b d c _)=>jbj (.map b d) (.map kt vt) c left
  |_=>False
 |_=>False
def mC {α:Type}:List (Nat×α)->(a:Nat)->List Nat
 |[],_=>[]
 | (k,_)::r,m=>match Nat.ble (r.length+1) m with
  |true=>[]
  |false=>ar [k] (mC r m)
def oh (σ τ:St):List Nat->Prop
 |[]=>True
 |s::r=>match τ.get s with
  | .any=>oh σ τ r
  |v=>dW σ (σ.get s) v/\oh σ τ r
def G7 (σ τ:St):List Nat->Prop
 |[]=>True
 |o::r=>match τ.obj o with
  |none=>G7 σ τ r
  |some x=>Ba σ o x/\G7 σ τ r
def sub (σ τ:St) (ks os:List Nat):Prop:=oh σ τ ks/\G7 σ τ os
abbrev Ann:=Nat->Option (St->pP)
def U7:List Oper->Option (Nat×Operand×List Oper)
 |[]=>none
 |o::r=>match o.op,o.dst,o.guard with
  | .next it false,some d,none=>some (d,it,r)
  |_,_,_=>none
def mD (C:Ctx) (ops r:List Oper) (n:Nat) (σ:St) (K:Ex->St->Prop):Prop:=
 match bS C ops r ⟨σ,[]⟩ with
 |none=>False
 |some (ss,rs)=>qD false ss (K .normal (yt ops (gc n rs.st)))
def U8 (C:Ctx) (ops r:List Oper) (d:Nat) (it:Operand) (σ:St) (K:Ex->St->Prop):Prop:=
 match pM C (some d),wx σ it with
 |true,.ip o=>match σ.obj o with
  |some (.iter kt vt left _)=>
   (left=[]->mD C ops r σ.ob.length ⟨(d,.tup [.dat .bool false])::σ.sl,σ.ob⟩ K)/\
   ∀(pre:List (kt.Data×vt.Data)) (x:kt.Data×vt.Data) (a:List (kt.Data×vt.Data)),left=pre++x::a->
    mD C ops r σ.ob.length ⟨(d,.tup [.dat .bool true,.dat kt x.1,.dat vt x.2])::σ.sl,(o,some (.iter kt vt (pre++a) (some x)))::σ.ob⟩ K
  |_=>False
 |_,_=>False
def KI:List Oper->Option (List Oper×Nat×Nat×Nat)
 |[]=>none
 |[o]=>match o.op,o.dst,o.guard with
  | .binOp .eql U (.tmp t) (.const v) _,some d,none=>match qa v with|true=>some ([],U,t,d)|false=>none
  |_,_,_=>none
 |o::r=>match KI r with
  |some (i,U,t,d)=>some (o::i,U,t,d)
  |none=>none
structure N0 where
 o:Nat
 kt:Ty
 vt:Ty
 l:List (kt.Data×vt.Data)
 k:kt.Data
 d:Nat
def N1 (C:Ctx) (ops:List Oper) (o:Oper) (rs:RS):Option N0:=
 match o.op,o.guard,o.dst with
 | .mapEntry U m a,none,some d=>match C.mapT U,wx rs.st m with
  |some (_,tk,te),.mp ob=>match rs.st.obj ob with
   |some (.map false kt vt l)=>match qg (.map kt vt) (.map tk.ty te.ty) l,yF rs.st tk.ty (wx rs.st a),pM C (some d),U1 ops o rs with
    |some l',some (k,[]),true,true=>some ⟨ob,tk.ty,te.ty,l',k,d⟩
    |_,_,_,_=>none
   |_=>none
  |_,_=>none
 |_,_,_=>none
def oi (x:N0) (s:Int):Eff:=⟨none,[],[],[(x.d,.tup [.dat x.vt (w4 x.vt.dflt (wv x.kt x.k x.l)),.dat .int s])],[],[(x.o,some (.mape x.kt x.vt x.l x.k s))],[]⟩
def KJ:Op->Bool
 | .mapEntry _ _ _=>true
 |_=>false
def QN:List Oper->Bool
 |[]=>false
 |o::r=>match KJ o.op with|true=>true|false=>QN r
def U9 (C:Ctx) (ops:List Oper) (o:Oper) (rs:RS) (k:RS->Prop):Prop:=
 match KJ o.op with
 |true=>match N1 C ops o rs with
  |some x=>∀s:Int,k (w8 (oi x s) rs)
  |none=>False
 |false=>match eX C ops o rs with
  |none=>False
  |some e=>match fits C ops o rs e with
   |false=>False
   |true=>qD true [e] (k (w8 e rs))
def G8 (a:List Nat) (b:List Edge):Bool:=match b with
 |[]=>true
 |e::r=>match Region.binds .any e with
  |false=>G8 a r
  |true=>match aW a e.on with|true=>G8 a r|false=>false
def iA (C:Ctx) (ops:List Oper) (a:List Nat) (rs:RS) (rec:List Nat->RS->Prop):List Oper->Nat->Prop
 |[],_=>True
 |o::r,i=>match aW a i with
  |true=>iA C ops a rs rec r (i+1)
  |false=>match G8 a o.after.toList with
   |false=>iA C ops a rs rec r (i+1)
   |true=>U9 C ops o rs (rec (i::a))/\iA C ops a rs rec r (i+1)
def Ik (C:Ctx) (ops:List Oper) (K:RS->Prop):Nat->List Nat->RS->Prop
 |0,_,rs=>K rs
 |fuel+1,a,rs=>iA C ops a rs (Ik C ops K fuel) ops 0
def pQ:Op->Bool
 | .insert _ _ _ _=>true
 |_=>false
def G9:Op->Bool
 | .makeMap _ none=>true
 |_=>false
def Da:List Oper->Option (List Oper×Nat)
 |[]=>none
 |o::r=>match Da r with
  |some (b,m)=>some (o::b,m)
  |none=>match pQ o.op with
   |true=>some ([o],r.length)
   |false=>none
def Cv:List Oper->Option (Nat×Nat×List Oper×Nat)
 |[]=>none
 |o::r=>match o.op,o.dst,o.guard,Da r with
  | .makeMap U none,some d,none,some (b,m)=>some (d,U,o::b,m)
  |_,_,_,_=>none
def QO (p:List Nat):Nat->Bool
 |0=>true
 |n+1=>match aW p n with|true=>QO p n|false=>false
def Db:List (List Nat)->Nat->Nat->Bool
 |[],_,_=>true
 |p::ps,k,m=>match Nat.ble m k with
  |true=>match QO p m with|true=>Db ps (k+1) m|false=>false
  |false=>Db ps (k+1) m
def Ctx.inLit (C:Ctx):Ctx:={C with lit:=true}
def Sk (d:Nat):Operand->Bool
 | .tmp t=>match Nat.beq t d with|true=>false|false=>true
 |_=>true
def Il (d U:Nat) (kt vt:Ty) (o:Oper) (σ:St):Option (Option (kt.Data×vt.Data)):=match o.op with
 | .insert b m a x=>match Ig m,o.dst,o.guard,Nat.beq U b,yF σ kt (wx σ a),yF σ vt (wx σ x),Sk d a,Sk d x with
  |some c,none,none,true,some (k,[]),some (v,[]),true,true=>match Nat.beq d c with
   |true=>some (some (k,v))
   |false=>none
  |_,_,_,_,_,_,_,_=>none
 |_=>some none
def Dc (ops:List Oper) (d U:Nat) (kt vt:Ty):List Oper->List q7->RS->Option (List (Option (kt.Data×vt.Data)))
 |[],[],_=>some []
 |o::r,x::aZ,rs=>match Il d U kt vt o (share (wT ops o) rs).2.st,Dc ops d U kt vt r aZ (w8 x.e rs) with
  |some y,some l=>some (y::l)
  |_,_=>none
 |_,_,_=>none
def sI {α:Type}:List (Option α)->List α
 |[]=>[]
 |some x::r=>x::sI r
 |none::r=>sI r
def aside (d:Nat):List Oper->List q7->Bool
 |[],[]=>true
 |o::r,x::aZ=>match pQ o.op with
  |true=>aside d r aZ
  |false=>match G9 o.op,aW x.slots d,aW (q6 x.e.sl) d with
   |false,false,false=>aside d r aZ
   |_,_,_=>false
 |_,_=>false
def jcc:Nat->List Nat
 |0=>[]
 |n+1=>n::jcc n
def Y6 (d:Nat) (kt vt:Ty) (l:List (kt.Data×vt.Data)) (rs:RS):RS:=⟨⟨(d,.mp d)::rs.st.sl,(d,some (.map false kt vt l))::rs.st.ob⟩,rs.gl⟩
def jcd (C:Ctx) (ops:List Oper) (σ:St) (K:Ex->St->Prop):Prop:=
 match Cv ops,vL ops [] with
 |some (d,U,body,m),some ps=>match C.mapT U,Db ps 0 body.length,C4 C.inLit ops body ⟨σ,[]⟩ with
  |some (_,tk,te),true,some (aZ,rs)=>match dV σ (cx aZ) aZ aZ ps 0,Dc ops d U tk.ty te.ty body aZ ⟨σ,[]⟩,aside d body.tail aZ.tail,NY rs d with
   |true,some es,true,true=>qD true (aZ.map (·.e)) (((sI es).map (·.1)).Nodup/\∀l,l.Perm (sI es)->
    Ik C ops (fun rs=>K .normal (yt ops (gc σ.ob.length rs.st))) m (jcc body.length) (Y6 d tk.ty te.ty l rs))
   |_,_,_,_=>False
  |_,_,_=>False
 |_,_=>False
def jce (C:Ctx) (ops:List Oper) (a:Bool) (σ:St) (K:Ex->St->Prop):Prop:=
 match a,QN ops,vL ops [] with
 |true,true,some _=>Ik C ops (fun rs=>K .normal (yt ops (gc σ.ob.length rs.st))) ops.length [] ⟨σ,[]⟩
 |true,false,_=>jcd C ops σ K
 |_,_,_=>False
def sJ (C:Ctx) (ops:List Oper) (a:Bool) (σ:St) (K:Ex->St->Prop):Prop:=
 match fa C ops a σ with
 |none=>jce C ops a σ K
 |some (ss,rs)=>qD a ss (K .normal (yt ops (gc σ.ob.length rs.st)))
def jcf (C:Ctx) (ops i:List Oper) (U t d:Nat) (σ:St) (K:Ex->St->Prop):Prop:=
 match bS C ops i ⟨σ,[]⟩ with
 |none=>False
 |some (ss,rs)=>match rs.st.get t with
  | .dat (.slice _) l=>match C.slice U,pM C (some d) with
   |some _,true=>qD false ss (∀β:Bool,(β=true->l=[])->K .normal (yt ops (gc σ.ob.length ⟨(d,.dat .bool β)::rs.st.sl,rs.st.ob⟩)))
   |_,_=>False
  |_=>sJ C ops false σ K
def AA:List Oper->Option (List Oper×Oper×List Oper)
 |[]=>none
 |o::r=>match o.op,o.guard with
  | .call c,none=>match c.callee with
   | .builtin .append=>some ([],o,r)
   |_=>match AA r with|some (i,x,q)=>some (o::i,x,q)|none=>none
  |_,_=>match AA r with|some (i,x,q)=>some (o::i,x,q)|none=>none
def Va (C:Ctx) (ops i:List Oper) (o:Oper) (a:List Oper) (σ:St) (K:Ex->St->Prop):Prop:=
 match bS C ops i ⟨σ,[]⟩ with
 |none=>False
 |some (ss,rs)=>match rs.gl,o.op,o.dst with
  |[],.call c,some d=>match c.args.toList,c.argTypes.toList with
   |[b,x],[U,e]=>match Nat.beq U e,C.slice U,Nat.blt d C.n with
    |true,some (ti,te),true=>match wx rs.st b,cw rs.st te.ty (wx rs.st x) with
     | .osl q t lo n,some (y::ys)=>match rs.st.obj q with
      |some (.row E f false nl l)=>match qg (.slice f) (.slice te.ty) l,bJ t te.ty,Nat.beq E ti.elem,ay q rs.st.ob&&Nat.ble (q+1) 1000000 with
       |some l',true,true,true=>qD false ss (lo+n=l'.length/\0<n/\lo+n+(y::ys).length<4611686018427387904/\(n+(y::ys).length)*te.bytes<=140737488355328/\∀pre:List te.ty.Data,pre.length<=lo->
        mD C ops a σ.ob.length ⟨(d,.osl q te.ty pre.length (n+(y::ys).length))::(oN rs.st (SV.refs q) rs.st.sl++rs.st.sl),(q,some (.row E te.ty false nl (pre++l'.drop lo++(y::ys))))::rs.st.ob⟩ K)
       |_,_,_,_=>False
      |_=>False
     |_,_=>False
    |_,_,_=>False
   |_,_=>False
  |_,_,_=>False
def jgD:List ((Nat×Bool)×Bool)->Nat×Bool->Option Bool
 |[],_=>none
 | (g,v)::r,h=>match UY g h with|true=>some v|false=>jgD r h
def jfH (ops:List Oper):List ((Nat×Bool)×Bool)->Operand->Option Bool
 | ((j,want),v)::r,.tmp t=>match dT ops j with
  |some d=>match Nat.beq d t with|true=>some (match v with|true=>want|false=> !want)|false=>jfH ops r (.tmp t)
  |none=>jfH ops r (.tmp t)
 |_,_=>none
def Vb:Op->Option (Operand×Operand×Operand)
 | .pick c a b=>some (c,a,b)
 |_=>none
def isB (b:Bool):Operand->Bool
 | .const (.bool true)=>b
 | .const (.bool false)=> !b
 |_=>false
def jgS:Op->Option Nat
 | .move (.tmp t)=>some t
 |_=>none
def jgT (ops:List Oper) (d:List ((Nat×Bool)×Bool)) (g:Nat×Bool):Option Bool:=
 match ops[g.1]? with
 |some o=>match jgS o.op with
  |some t=>match iy t ops 0 with
   |[i]=>match ops[i]? with
    |some q=>match Vb q.op with
     |some (c,a,b)=>match jfH ops d c,g.2 with
      |some false,true=>match isB false b with|true=>some false|false=>none
      |some true,false=>match isB true a with|true=>some false|false=>none
      |_,_=>none
     |none=>none
    |none=>none
   |_=>none
  |none=>none
 |none=>none
def jgU (ops:List Oper) (a:List ((Nat×Bool)×Bool)) (g:Nat×Bool):Option Bool:=match jgD a g with
 |some v=>some v
 |none=>jgT ops a g
def N2 (C:Ctx) (ops:List Oper) (o:Oper) (rs:RS) (k:RS->Prop):Prop:=
 match eX C ops o rs with
 |none=>False
 |some e=>match fits C ops o rs e with
  |true=>qD false [e] (k (w8 e rs))
  |false=>False
def YQ (C:Ctx) (ops:List Oper) (o:Oper) (v:SV) (rs:RS) (k:RS->Prop):Prop:=
 match pM C o.dst,U1 ops {o with guard:=none} rs,rs.gl with
 |true,true,[]=>k (w8 ⟨none,[],[],KF o v,[],[],[]⟩ rs)
 |_,_,_=>False
def NL (C:Ctx) (ops:List Oper):List Oper->List ((Nat×Bool)×Bool)->RS->(RS->Prop)->Prop
 |[],_,rs,k=>k rs
 |o::r,dec,rs,k=>match o.guard with
  |none=>match Vb o.op with
   |some (c,a,b)=>match wx rs.st c with
    | .dat .bool β=>match jfH ops dec c with
     |some true=>β=true/\YQ C ops o (wx rs.st a) rs (fun d=>NL C ops r dec d k)
     |some false=>β=false/\YQ C ops o (wx rs.st b) rs (fun d=>NL C ops r dec d k)
     |none=>(β=true->YQ C ops o (wx rs.st a) rs (fun d=>NL C ops r dec d k))/\(β=false->YQ C ops o (wx rs.st b) rs (fun d=>NL C ops r dec d k))
    |_=>False
   |none=>N2 C ops o rs (fun d=>NL C ops r dec d k)
  |some g=>match pj ops rs ops.length g,jgU ops dec g with
   |some γ,some true=>γ=true/\N2 C ops {o with guard:=none} rs (fun d=>NL C ops r dec d k)
   |some γ,some false=>γ=false/\YQ C ops o .any rs (fun d=>NL C ops r ((g,false)::dec) d k)
   |some γ,none=>(γ=true->N2 C ops {o with guard:=none} rs (fun d=>NL C ops r ((g,true)::dec) d k))/\
    (γ=false->YQ C ops o .any rs (fun d=>NL C ops r ((g,false)::dec) d k))
   |none,_=>False
def N3 (C:Ctx) (ops:List Oper) (σ:St) (K:Ex->St->Prop):Prop:=
 NL C ops ops [] ⟨σ,[]⟩ (fun rs=>K .normal (yt ops (gc σ.ob.length rs.st)))
def jbk:List Oper->Option (Nat×Bool)
 |[]=>none
 |o::r=>match o.guard with|some g=>some g|none=>jbk r
def N4 (g:Nat×Bool) (d a:Nat) (γ:Bool) (o:Oper):Oper:=match o.guard with
 |some _=>match γ with
  |true=>{o with guard:=none}
  |false=>{o with guard:=none,op:= .move (.tmp a)}
 |none=>match o.op with
  | .pick (.tmp c) x y=>match Nat.beq c d with
   |true=>{o with op:= .move (match γ,g.2 with|true,true=>x|true,false=>y|false,true=>y|false,false=>x)}
   |false=>o
  |_=>o
def fb (g:Nat×Bool) (d a:Nat) (γ:Bool):List Oper->List Oper
 |[]=>[]
 |o::r=>N4 g d a γ o::fb g d a γ r
def cy (g:Nat×Bool) (d:Nat):List Oper->List (List Nat)->Bool
 |[],_=>true
 |o::r,p::ps=>match o.guard with
  |some h=>match UY g h,aW p g.1 with|true,true=>cy g d r ps|_,_=>false
  |none=>match o.op with
   | .pick (.tmp c) _ _=>match Nat.beq c d with
    |true=>match aW p g.1 with|true=>cy g d r ps|false=>false
    |false=>cy g d r ps
   |_=>cy g d r ps
 |_::_,[]=>false
def Y7 (d:Nat):List q7->Bool
 |[]=>true
 |x::r=>match aW (q6 x.e.sl) d with|true=>false|false=>Y7 d r
def sK (d:Nat):List q7->Nat->Option SV
 |[],_=>none
 |x::r,0=>match Y7 d r with|true=>wc x.e.sl d|false=>none
 |x::r,j+1=>match aW (q6 x.e.sl) d with|true=>none|false=>sK d r j
def Im (C:Ctx) (ops':List Oper) (ps:List (List Nat)) (σ:St):Option (List q7×RS):=
 match C4 C ops' ops' ⟨σ,[]⟩ with
 |some (aZ,rs)=>match dV σ (cx aZ) aZ aZ ps 0 with|true=>some (aZ,rs)|false=>none
 |none=>none
def Vc (C:Ctx) (ops:List Oper) (σ:St) (K:Ex->St->Prop):Prop:=
 match jbk ops,vL ops [] with
 |some g,some ps=>match dT ops g.1 with
  |some d=>match cy g d ops ps,Im C (fb g d C.n true ops) ps σ,Im C (fb g d C.n false ops) ps σ with
   |true,some (aZ,rs),some (a,b)=>match sK d aZ g.1,sK d a g.1 with
    |some (.dat .bool β),some (.dat .bool c)=>c=β/\(β=g.2->qD true (aZ.map (·.e)) (K .normal (yt ops (gc σ.ob.length rs.st))))/\
     (β≠g.2->qD true (a.map (·.e)) (K .normal (yt ops (gc σ.ob.length b.st))))
    |_,_=>False
   |_,_,_=>False
  |none=>False
 |_,_=>False
def QP (A:Ann) (a:Code) (run:St->(Ex->St->Prop)->Prop) (σ:St) (K:Ex->St->Prop):Prop:=
 match A (pk a) with
 |none=>False
 |some L=>
  (∃x:(L σ).X,sub σ (qt (L σ) (qO a) σ x) (q6 ((L σ).sl x)) (q6 ((L σ).ob x))/\(L σ).inv x)/\
  ∀x:(L σ).X,(L σ).inv x->run (qt (L σ) (qO a) σ x) (fun e b=>match e with
   | .normal=>∃c:(L σ).X,sub b (qt (L σ) (qO a) σ c) (ar (q6 ((L σ).sl c)) (ar (q6 ((L σ).sl x)) (mC b.sl (qt (L σ) (qO a) σ x).sl.length)))
    (ar (q6 ((L σ).ob c)) (ar (q6 ((L σ).ob x)) (mC b.ob (qt (L σ) (qO a) σ x).ob.length)))/\(L σ).inv c/\(L σ).mu c<(L σ).mu x
   |e=>K e b)
def vcg (C:Ctx) (A:Ann):Code->St->(Ex->St->Prop)->Prop
 | .skip,σ,K=>K .normal σ
 | .region id ops g,σ,K=>match U7 ops.toList,g with
  |some (d,it,r),false=>U8 C ops.toList r d it σ K
  |_,_=>match KI ops.toList,g with
   |some (i,U,t,d),false=>jcf C ops.toList i U t d σ K
   |_,false=>match A (id+2000000) with
    |none=>match A (id+3000000) with
     |none=>sJ C ops.toList false σ K
     |some _=>N3 C ops.toList σ K
    |some _=>match AA ops.toList with
     |some (i,o,j)=>Va C ops.toList i o j σ K
     |none=>False
   |_,true=>match A (id+3000000) with
    |none=>sJ C ops.toList true σ K
    |some _=>Vc C ops.toList σ K
 | .seq a b,σ,K=>vcg C A a σ (fun e f=>match e with
  | .normal=>vcg C A b f K
  |e=>K e f)
 | .cond c a b,σ,K=>match wx σ c with
  | .dat .bool β=>(β=true->vcg C A a σ K)/\(β=false->vcg C A b σ K)
  |_=>False
 | .block id a,σ,K=>vcg C A a σ (fun e f=>match e with
  | .exit h=>match Nat.beq id h with
   |true=>K .normal f
   |false=>K (.exit h) f
  |e=>K e f)
 | .loop a,σ,K=>match A (pk a+1000000) with
  |none=>QP A a (vcg C A a) σ K
  |some _=>vcg C A a σ (fun e f=>match e with
   | .normal=>QP A a (vcg C A a) f K
   |e=>K e f)
 | .exit id,σ,K=>K (.exit id) σ
 | .ret,σ,K=>K .ret σ
 | .scope a,σ,K=>vcg C A a σ K
 | .label _,σ,K=>K .normal σ
 |_,_,_=>False
def vw:(ps:List Par)->PD ps->Nat->List (Nat×SV)
 |[],_,_=>[]
 | .val t::ps,d,i=>(i,.dat t d.1)::vw ps d.2 (i+1)
 | .ref t::ps,d,i=>(i,.ep t d.1)::vw ps d.2 (i+1)
 | .fn aZ rs::ps,d,i=>(i,.fn aZ rs d.1.pre d.1.F)::vw ps d.2 (i+1)
 | .rfn aZ rs::ps,d,i=>(i,.fnp aZ rs d.1.pre d.1.F)::vw ps d.2 (i+1)
def xh (C:Ctx) (σ:St):ResultVar->SV
 | .tmp s=>σ.get s
 | .cell s T=>match C.info T,σ.get s with
  |some ti,.bp o 0=>match σ.obj o with
   |some (.box _ _ cs)=>match ti.agg,Nat.beq cs.length ti.size with
    |true,true=> .agg cs
    |false,true=>(match cs with|[v]=>v|_=> .any)
    |_,_=> .any
   |_=> .any
  |_,_=> .any
def FW (C:Ctx) (σ:St):(rs:List Ty)->List ResultVar->Option (Ty.st rs).Data
 |[],[]=>some ()
 |t::ts,v::r=>match yF σ t (xh C σ v) with
  |some (x,_)=>match FW C σ ts r with
   |some y=>some (x,y)
   |none=>none
  |none=>none
 |_,_=>none
def finish (C:Ctx) (fn:Func) (s:wD) (want:(Ty.st s.rs).Data):Ex->St->Prop
 | .exit _,_=>False
 |_,σ=>match FW C σ s.rs fn.results.toList with
  |some r=>r=want
  |none=>False
@[irreducible] def jeb (C:Ctx) (A:Ann) (fn:Func) (body:Code) (s:wD):Prop:=
 ∀d:PD s.ps,Ih (s.pre d) (vcg C A body ⟨vw s.ps d 0,[]⟩ (finish C fn s (s.F d)))
end Go.X
namespace Go.X
open Go.RowKit (Below)
theorem Dd {w w':World} {p:Program} {at_:Addr} {u:TypeId} {k:Addr} {v:Value} {a:Bool} {l:List Addr} (h:w.viewStore p at_ u k v a= .ok (w',l)):w'.drawn=w.drawn:=by
 simp only[World.viewStore,bind,Except.bind,pure,Except.pure] at h
 repeat' (split at h)
 all_goals first|(cases h;done)|(cases h;rfl)|contradiction
theorem FX {w w':World} {p:Program} {a:Addr} {v:Value} {b:Bool} {l:List Addr} (h:w.farStore p a v b= .ok (w',l)):w'.drawn=w.drawn:=by
 unfold World.farStore at h
 split at h
 split at h
 rename_i r c;cases h;exact Dd c;cases h;cases h
theorem De {α:Type}:∀(s:Ask α) (w:World),w.drawn<=(w.ask s).2.drawn
 | .done a,w=>by simp[World.ask]
 | .ask c b k,w=>by
  simp only[World.ask]
  split
  exact De (k 0) w
  exact jF (Nat.le_succ _) (De (k _) {w with drawn:=w.drawn+1})
theorem Vd (w:World) (c:Sys):w.drawn<=(w.sys c).2.drawn:=by
 unfold World.sys
 split
 exact jj _;rename_i r os w' _ h;have:=De (Kernel.perform c w.os) w;rw[h] at this;exact this
theorem qE {P:Program} {α:Type}:∀(s:Sem α) {w w':World} {a:α},s.run P w= .ok a w'->w.drawn<=w'.drawn
 | .pure a,w,w',x,h=>by simp only[Sem.run] at h;cases h;exact jj _
 | .load m a k,w,w',x,h=>by
  simp only[Sem.run] at h
  split at h
  exact qE _ h
  split at h
  exact qE _ h
  cases h
 | .store m a v k,w,w',x,h=>by
  cases v<;>simp only[Sem.run] at h<;>first
   | (cases h;done)
   | (split at h
      split at h
      cases h
      have:=qE (w:=w.setCell a _) k h
      exact this
      split at h
      rename_i f _ b
      have d:=FX b
      have:=qE k h
      omega
      cases h)
 | .new o k,w,w',x,h=>by
  simp only[Sem.run] at h
  have:=qE (w:={w with heap:=w.heap.push o}) (k _) h
  exact this
 | .shape r k,w,w',x,h=>by simp only[Sem.run] at h;exact qE _ h
 | .freeze a n k,w,w',x,h=>by
  simp only[Sem.run] at h
  have:=qE k h
  have e:(w.freeze a n).drawn=w.drawn:=by unfold World.freeze;split<;>rfl
  omega
 | .frozen a k,w,w',x,h=>by simp only[Sem.run] at h;exact qE _ h
 | .getObj r k,w,w',x,h=>by
  simp only[Sem.run] at h
  split at h
  cases h
  exact qE _ h
  cases h
 | .setObj r o k,w,w',x,h=>by
  simp only[Sem.run] at h
  split at h
  cases h
  have:=qE (w:={w with heap:=w.heap.setIfInBounds r o}) k h
  exact this
  cases h
 | .choose q k,w,w',x,h=>by
  simp only[Sem.run] at h
  split at h
  exact qE _ h
  exact jF (Nat.le_succ _) (qE _ h)
 | .sys c k,w,w',x,h=>by
  simp only[Sem.run] at h
  exact jF (Vd w c) (qE _ h)
 | .program k,w,w',x,h=>by simp only[Sem.run] at h;exact qE _ h
 | .mark m k,w,w',x,h=>by simp only[Sem.run] at h;exact qE _ h
 | .halt e,w,w',x,h=>by simp only[Sem.run] at h;cases h
inductive Fz where
 |cells (c:Array Value)
 |map (es:Array MapEntry) (clock:Nat)
def Fz.at:Fz->Option Obj->Prop
 | .cells c,o=>∃T a,o=some (.cells c T a)
 | .map es clock,o=>o=some (.map es clock)
abbrev Imm:=Nat->Option Fz
def vN:Value->Bool
 | .agg _=>true
 |_=>false
def Ty.rd (H:Imm):(t:Ty)->(Nat->Option Value)->t.Data->Prop
 | .int,f,x=>f 0=some (.int .i64 x)
 | .bool,f,x=>f 0=some (.bool x)
 | .uint k,f,x=>f 0=some (.int k x)
 | .slice t,f,l=>∃a n c,f 0=some (.slice a n c)/\n=l.length/\n<=c/\l.length<4611686018427387904/\(a=none->c=0)/\
  (l≠[]->∃b off blk,a=some ⟨b,off,none⟩/\H b=some (.cells blk)/\∀i x,l[i]? =some x->t.rd H (fun j=>blk[off+i*t.size+j]?) x)
 | .unit,_,_=>True
 | .pair a b,f,d=>a.rd H f d.1/\b.rd H (fun j=>f (a.size+j)) d.2
 | .map k v,f,l=>∃p,f 0=some (.map p)/\(p=none->l=[])/\∀b,p=some b->∃(es:Array MapEntry) (clock:Nat),H b=some (.map es clock)/\es.size=l.length/\es.size<=clock/\
  (∀(i:Nat) (e:MapEntry),es[i]? =some e->e.born<clock)/\(∀(i j:Nat) (e g:MapEntry),es[i]? =some e->es[j]? =some g->e.born=g.born->i=j)/\
  ∀(i:Nat) x,l[i]? =some x->∃e:MapEntry,es[i]? =some e/\(vN e.key=k.agg/\e.key.cells.size=k.size/\k.rd H (fun i=>e.key.cells[i]?) x.1)/\(vN e.val=v.agg/\e.val.cells.size=v.size/\v.rd H (fun i=>e.val.cells[i]?) x.2)
 | .ptr t,f,d=>∃p,f 0=some (.pointer p)/\(match d with
  |none=>p=none
  |some x=>∃b off blk,p=some ⟨b,off,none⟩/\H b=some (.cells blk)/\t.rd H (fun j=>blk[off+j]?) x)
def Ty.rv (H:Imm) (t:Ty) (v:Value) (d:t.Data):Prop:=
 vN v=t.agg/\v.cells.size=t.size/\t.rd H (fun i=>v.cells[i]?) d
theorem Ty.rd_mono {H H':Imm} (g:∀b c,H b=some c->H' b=some c):∀(t:Ty) (f:Nat->Option Value) (d:t.Data),t.rd H f d->t.rd H' f d
 | .int,_,_,h=>h
 | .bool,_,_,h=>h
 | .uint _,_,_,h=>h
 | .unit,_,_,_=>trivial
 | .pair a b,f,d,h=>⟨a.rd_mono g _ _ h.1,b.rd_mono g _ _ h.2⟩
 | .map k v,f,l,h=>by
  obtain⟨p,o,q,r⟩:=h
  refine⟨p,o,q,fun b K=> ?_⟩
  obtain⟨es,clock,j,e2,m,u,w,y⟩:=r b K
  refine⟨es,clock,g _ _ j,e2,m,u,w,fun i x s=> ?_⟩
  obtain⟨e,z,⟨A,B,C⟩,D,E,F⟩:=y i x s
  exact⟨e,z,⟨A,B,k.rd_mono g _ _ C⟩,D,E,v.rd_mono g _ _ F⟩
 | .ptr t,f,none,h=>h
 | .ptr t,f,some x,h=>by
  obtain⟨p,o,b,off,blk,j,e2,m⟩:=h
  exact⟨p,o,b,off,blk,j,g _ _ e2,t.rd_mono g _ _ m⟩
 | .slice t,f,l,h=>by
  obtain⟨a,n,c,o,q,r,G,J,I⟩:=h
  refine⟨a,n,c,o,q,r,G,J,fun L=> ?_⟩
  obtain⟨b,off,blk,j,e2,m⟩:=I L
  exact⟨b,off,blk,j,g _ _ e2,fun i x s=>t.rd_mono g _ _ (m i x s)⟩
theorem Ty.rd_congr {H:Imm}:∀(t:Ty) (f g:Nat->Option Value) (d:t.Data),(∀i,i<t.size->f i=g i)->t.rd H f d->t.rd H g d
 | .int,f,g,_,e,h=>by rw[Ty.rd,<-e 0 (by simp[Ty.size])];exact h
 | .bool,f,g,_,e,h=>by rw[Ty.rd,<-e 0 (by simp[Ty.size])];exact h
 | .uint _,f,g,_,e,h=>by rw[Ty.rd,<-e 0 (by simp[Ty.size])];exact h
 | .unit,_,_,_,_,_=>trivial
 | .pair a b,f,g,d,e,h=>⟨a.rd_congr f g _ (fun i hi=>e i (by simp[Ty.size];omega)) h.1,
  b.rd_congr _ _ _ (fun i hi=>e _ (by simp[Ty.size];omega)) h.2⟩
 | .slice t,f,g,l,e,h=>by
  obtain⟨a,n,c,j,r⟩:=h
  exact⟨a,n,c,by rw[<-e 0 (by simp[Ty.size])];exact j,r⟩
 | .map k v,f,g,l,e,h=>by
  obtain⟨p,j,r⟩:=h
  exact⟨p,by rw[<-e 0 (by simp[Ty.size])];exact j,r⟩
 | .ptr t,f,g,l,e,h=>by
  obtain⟨p,j,r⟩:=h
  exact⟨p,by rw[<-e 0 (by simp[Ty.size])];exact j,r⟩
theorem Ty.rv_mono {H H':Imm} (a:∀b c,H b=some c->H' b=some c) {t:Ty} {v:Value} {d:t.Data} (h:t.rv H v d):t.rv H' v d:=
 ⟨h.1,h.2.1,t.rd_mono a _ _ h.2.2⟩
theorem dA {H:Imm} {a b:Ty} (e:a=b) (f:Nat->Option Value) (d:a.Data):b.rd H f (gT e d)↔a.rd H f d:=by subst e;rfl
theorem Y8 {H:Imm} {a b:Ty} (e:a=b) (v:Value) (d:a.Data):b.rv H v (gT e d)↔a.rv H v d:=by subst e;rfl
theorem kP {a b:Ty} {d:a.Data} {x:b.Data} (h:qg a b d=some x):∃e:a=b,x=gT e d:=by
 unfold qg at h
 split at h
 rename_i e;exact⟨e,by simpa using h.symm⟩;cases h
def jcg (H:Imm):Prop:=∀(g:Nat) (x:(t:Ty)×t.Data),wc jem g=some x->∃c,H g=some (.cells c)/\x.1.rd H (fun j=>c[j]?) x.2
theorem jcg.mono {H H':Imm} (a:∀b c,H b=some c->H' b=some c) (h:jcg H):jcg H':=fun g x f=>by
 obtain⟨c,d,e⟩:=h g x f
 exact⟨c,a _ _ d,x.1.rd_mono a _ _ e⟩
def ir (H:Imm) (w:World):Prop:=(∀b c,H b=some c->c.at w.heap[b]?)/\jcg H
structure jbl (H:Imm) (w:World) (H':Imm) (w':World):Prop where
 below:Below w.heap.size w w'
 good:ir H' w'
 old:∀b,b<w.heap.size->H' b=H b
 drawn:w.drawn<=w'.drawn
theorem Fz.at_some {c:Fz} {o:Option Obj} (h:c.at o):∃x,o=some x:=by
 cases c with
 |cells c=>obtain⟨T,a,e⟩:=h;exact⟨_,e⟩
 |map es clock=>exact⟨_,h⟩
theorem ir.lt {H:Imm} {w:World} (h:ir H w) {b:Nat} {c:Fz} (a:H b=some c):b<w.heap.size:=by
 obtain⟨x,e⟩:=Fz.at_some (h.1 b c a);exact(jw.1 e).1
theorem ir.cells {H:Imm} {w:World} (h:ir H w) {b:Nat} {c:Array Value} (d:H b=some (.cells c)):∃T a,w.heap[b]? =some (.cells c T a):=h.1 b _ d
theorem jbl.mono {H H':Imm} {w w':World} (g:ir H w) (h:jbl H w H' w'):∀b c,H b=some c->H' b=some c:=
 fun b c a=>by rw[h.old b (g.lt a)];exact a
theorem co {a b:Ty} (h:bJ a b=true):a=b:=by
 unfold bJ at h
 split at h
 assumption
 cases h
def rvs (H:Imm):(ts:List Ty)->List Value->(Ty.st ts).Data->Prop
 |[],vs,_=>vs=[]
 |t::ts,v::vs,d=>t.rv H v d.1/\rvs H ts vs d.2
 |_::_,[],_=>False
def jec (H:Imm) (rs:List Ty) (v:Value) (d:(Ty.st rs).Data):Prop:=
 match rs,d with
 |[t],d=>t.rv H v d.1
 |rs,d=>∃vs,v= .tuple vs/\rvs H rs vs.toList d
def vI:List Prop->Prop
 |[]=>True
 |p::r=>p/\vI r
def enters (P:Program) (k:Nat):Prop:=∀args w,(callFunc k args).run P w= .ok (.enter k args) w
def jbm (H:Imm) (w:World) (rs:List Ty) (r:(Ty.st rs).Data):Ending->World->Prop:=
 fun e w'=>∃v H',e= .returned v/\jbl H w H' w'/\jec H' rs v r
def FnV (P:Program) (H:Imm) (ps rs:List Ty) (pre:(Ty.st ps).Data->List Prop) (F:(Ty.st ps).Data->(Ty.st rs).Data) (v:Value):Prop:=
 ∃k caps,v= .func (.func k) #[] caps/\enters P k/\
  ∀H' w vals x,(∀b c,H b=some c->H' b=some c)->ir H' w->rvs H' ps vals x->vI (pre x)->Calls P k (vals.toArray++caps) w (jbm H' w rs (F x))
theorem FnV.mono {P:Program} {H H':Imm} (f:∀b c,H b=some c->H' b=some c) {ps rs pre F v} (h:FnV P H ps rs pre F v):FnV P H' ps rs pre F v:=by
 obtain⟨k,caps,e,en,r⟩:=h;exact⟨k,caps,e,en,fun a w vals x d=>r a w vals x (fun b c g=>d b c (f b c g))⟩
structure jch (bs:List Nat) (H:Imm) (w:World) (H':Imm) (w':World):Prop where
 os:w'.os=w.os
 tape:w'.tape=w.tape
 output:w'.output=w.output
 drawn:w.drawn<=w'.drawn
 size:w.heap.size<=w'.heap.size
 block:∀b,b<w.heap.size->b∉bs->w'.heap[b]? =w.heap[b]?
 old:∀b,b<w.heap.size->b∉bs->H' b=H b
 good:ir H' w'
def Sl (H:Imm) (w:World) (b T:Nat) (st:Ty) (rs:List Ty) (r:(Ty.st rs).Data×st.Data):Ending->World->Prop:=
 fun e w'=>∃v H' u,e= .returned v/\jch [b] H w H' w'/\H' b=none/\w'.heap[b]? =some (.cells #[u] T (0,0))/\st.rv H' u r.2/\jec H' rs v r.1
def FnE (P:Program) (H:Imm) (b T:Nat) (st:Ty) (ps rs:List Ty) (pre:(Ty.st ps).Data->st.Data->List Prop) (K:(Ty.st ps).Data->st.Data->(Ty.st rs).Data×st.Data) (v:Value):Prop:=
 ∃k caps,v= .func (.func k) #[] caps/\enters P k/\
  ∀H' w vals x s u,(∀b c,H b=some c->H' b=some c)->ir H' w->H' b=none->w.heap[b]? =some (.cells #[u] T (0,0))->st.rv H' u s->rvs H' ps vals x->vI (pre x s)->Calls P k (vals.toArray++caps) w (Sl H' w b T st rs (K x s))
theorem FnE.mono {P:Program} {H H':Imm} (f:∀b c,H b=some c->H' b=some c) {b T st ps rs pre K v} (h:FnE P H b T st ps rs pre K v):FnE P H' b T st ps rs pre K v:=by
 obtain⟨k,caps,e,en,r⟩:=h;exact⟨k,caps,e,en,fun a w vals x s u d=>r a w vals x s u (fun b c g=>d b c (f b c g))⟩
structure Env where
 H:Imm
 blk:Nat->Option (Option (Nat×Nat))
 len:Nat->Nat
mutual
def SV.den (P:Program) (ρ:Env):SV->Value->Prop
 | .any,_=>True
 | .dat t d,v=>t.rv ρ.H v d
 | .ep t d,v=>∃b off c,v= .pointer (some ⟨b,off,none⟩)/\ρ.H b=some (.cells c)/\t.rd ρ.H (fun j=>c[off+j]?) d
 | .bp o off,v=>∀p,ρ.blk o=some p->∃b C,p=some (b,C)/\v= .pointer (some ⟨b,off,none⟩)
 | .own o _,v=>∀p,ρ.blk o=some p->match p with
  |none=>v= .slice none 0 0/\ρ.len o=0
  |some (b,C)=>v= .slice (some ⟨b,0,none⟩) (ρ.len o) C/\ρ.len o<=C
 | .osl o t lo n,v=>∀p,ρ.blk o=some p->match p with
  |none=>v= .slice none 0 0/\n=0
  |some (b,C)=>∃a e,v= .slice (some a) n e/\n<=e/\lo+e=C/\lo+n<=ρ.len o/\((lo=0\/0<e)->a=⟨b,lo*t.size,none⟩)
 | .rp o t i off,v=>∀p,ρ.blk o=some p->i<ρ.len o/\∃b C,p=some (b,C)/\v= .pointer (some ⟨b,i*t.size+off,none⟩)
 | .mp o,v=>∀p,ρ.blk o=some p->∃b C,p=some (b,C)/\v= .map (some b)
 | .ip o,v=>∀p,ρ.blk o=some p->∃b C,p=some (b,C)/\v= .pointer (some ⟨b,0,none⟩)
 | .fn ps rs pre F,v=>FnV P ρ.H ps rs pre F v
 | .fnp ps rs pre F,v=>∃b u,v= .pointer (some ⟨b,0,none⟩)/\ρ.H b=some (.cells #[u])/\FnV P ρ.H ps rs pre F u
 | .fe ptr o T st ps rs pre K,v=>∀p,ρ.blk o=some p->∃b C,p=some (b,C)/\∃u,FnE P ρ.H b T st ps rs pre K u/\(match ptr with
  |false=>v=u
  |true=>∃g,v= .pointer (some ⟨g,0,none⟩)/\ρ.H g=some (.cells #[u]))
 | .fcl t d,v=>(Ty.slice t).rv ρ.H v d/\∃a n,v= .slice a n n
 | .clo f caps,v=>∃vs:Array Value,v= .func (.func f) #[] vs/\SV.denL P ρ caps vs.toList
 | .agg cs,v=>∃vs:Array Value,v= .agg vs/\SV.denL P ρ cs vs.toList/\∀u∈vs.toList,u.oneCell'=true
 | .tup cs,v=>∃vs:Array Value,v= .tuple vs/\SV.denL P ρ cs vs.toList
 | .lit u,v=>v=u
def SV.denL (P:Program) (ρ:Env):List SV->List Value->Prop
 |[],vs=>vs=[]
 |c::cs,vs=>∃v r,vs=v::r/\SV.den P ρ c v/\SV.denL P ρ cs r
end
structure Env.le (ρ ρ':Env) (new:List Nat):Prop where
 H:∀b c,ρ.H b=some c->ρ'.H b=some c
 blk:∀o p,o∉new->ρ'.blk o=some p->ρ.blk o=some p
 len:∀o,o∉new->ρ'.len o=ρ.len o
theorem Env.le.refl (ρ:Env) (new:List Nat):ρ.le ρ new:=⟨fun _ _ h=>h,fun _ _ _ h=>h,fun _ _=>rfl⟩
theorem Env.le.trans {ρ d ρ'':Env} {n:List Nat} (h:ρ.le d n) (k:d.le ρ'' n):ρ.le ρ'' n:=
 ⟨fun b c e=>k.H b c (h.H b c e),fun o p a f=>h.blk o p a (k.blk o p a f),fun o a=>(k.len o a).trans (h.len o a)⟩
theorem Env.le.weaken {ρ a:Env} {n m:List Nat} (h:ρ.le a n) (d:∀o,o∈n->o∈m):ρ.le a m:=
 ⟨h.H,fun o p c=>h.blk o p (fun b=>c (d o b)),fun o c=>h.len o (fun b=>c (d o b))⟩
theorem wO {o o':Nat} (h:Nat.beq o o'=false):o≠o':=by
 intro e;subst e;simp at h
mutual
theorem SV.den_mono {P:Program} {ρ m:Env} {new:List Nat} (h:ρ.le m new):∀(sv:SV) (v:Value),(∀o,o∈new->sv.refs o=false)->sv.den P ρ v->sv.den P m v
 | .any,_,_,_=>by simp[SV.den]
 | .dat t d,v,_,k=>by simp only[SV.den] at k⊢;exact Ty.rv_mono h.H k
 | .ep t d,v,_,k=>by
  simp only[SV.den] at k⊢
  obtain⟨b,off,c,q,e2,w⟩:=k
  exact⟨b,off,c,q,h.H _ _ e2,t.rd_mono h.H _ _ w⟩
 | .bp o off,v,g,k=>by
  simp only[SV.den] at k⊢
  have a:o∉new:=fun j=>by have:=g o j;simp[SV.refs] at this
  exact fun p l=>k p (h.blk o p a l)
 | .own o t,v,g,k=>by
  simp only[SV.den] at k⊢
  have a:o∉new:=fun j=>by have:=g o j;simp[SV.refs] at this
  rw[h.len o a]
  exact fun p l=>k p (h.blk o p a l)
 | .osl o t lo n,v,g,k=>by
  simp only[SV.den] at k⊢
  have a:o∉new:=fun j=>by have:=g o j;simp[SV.refs] at this
  rw[h.len o a]
  exact fun p l=>k p (h.blk o p a l)
 | .rp o t i off,v,g,k=>by
  simp only[SV.den] at k⊢
  have a:o∉new:=fun j=>by have:=g o j;simp[SV.refs] at this
  rw[h.len o a]
  exact fun p l=>k p (h.blk o p a l)
 | .mp o,v,g,k=>by
  simp only[SV.den] at k⊢
  have a:o∉new:=fun j=>by have:=g o j;simp[SV.refs] at this
  exact fun p l=>k p (h.blk o p a l)
 | .ip o,v,g,k=>by
  simp only[SV.den] at k⊢
  have a:o∉new:=fun j=>by have:=g o j;simp[SV.refs] at this
  exact fun p l=>k p (h.blk o p a l)
 | .fn ps rs pre F,v,_,k=>by simp only[SV.den] at k⊢;exact FnV.mono h.H k
 | .fnp ps rs pre F,v,_,k=>by
  simp only[SV.den] at k⊢
  obtain⟨b,u,q,e2,w⟩:=k
  exact⟨b,u,q,h.H _ _ e2,FnV.mono h.H w⟩
 | .fe ptr o T st ps rs pre K,v,g,k=>by
  simp only[SV.den] at k⊢
  have a:o∉new:=fun j=>by have:=g o j;simp[SV.refs] at this
  intro p l
  obtain⟨b,C,e,u,x,s⟩:=k p (h.blk o p a l)
  refine⟨b,C,e,u,FnE.mono h.H x,?_⟩
  cases ptr with
  |false=>exact s
  |true=>
   obtain⟨y,q,e2⟩:=s
   exact⟨y,q,h.H _ _ e2⟩
 | .fcl t d,v,_,k=>by simp only[SV.den] at k⊢;exact⟨Ty.rv_mono h.H k.1,k.2⟩
 | .clo f caps,v,g,k=>by
  simp only[SV.den] at k⊢
  obtain⟨vs,e,r⟩:=k
  exact⟨vs,e,SV.denL_mono h caps _ (fun o a=>by have:=g o a;simpa[SV.refs] using this) r⟩
 | .agg cs,v,g,k=>by
  simp only[SV.den] at k⊢
  obtain⟨vs,e,r,D⟩:=k
  exact⟨vs,e,SV.denL_mono h cs _ (fun o a=>by have:=g o a;simpa[SV.refs] using this) r,D⟩
 | .tup cs,v,g,k=>by
  simp only[SV.den] at k⊢
  obtain⟨vs,e,r⟩:=k
  exact⟨vs,e,SV.denL_mono h cs _ (fun o a=>by have:=g o a;simpa[SV.refs] using this) r⟩
 | .lit u,v,_,k=>by simpa[SV.den] using k
theorem SV.denL_mono {P:Program} {ρ m:Env} {new:List Nat} (h:ρ.le m new):∀(cs:List SV) (vs:List Value),(∀o,o∈new->SV.refs.refsL o cs=false)->SV.denL P ρ cs vs->SV.denL P m cs vs
 |[],vs,_,k=>by simpa[SV.denL] using k
 |c::cs,vs,g,k=>by
  simp only[SV.denL] at k⊢
  obtain⟨v,r,e,A,B⟩:=k
  have x:∀o,o∈new->c.refs o=false:=fun o a=>by
   have:=g o a;simp only[SV.refs.refsL] at this;cases z:c.refs o<;>simp_all
  have s:∀o,o∈new->SV.refs.refsL o cs=false:=fun o a=>by
   have:=g o a;simp only[SV.refs.refsL] at this;cases z:c.refs o<;>simp_all
  exact⟨v,r,e,SV.den_mono h c v x A,SV.denL_mono h cs r s B⟩
end
theorem qx {P:Program} {ρ:Env}:∀(cs:List SV) (vs:List Value),SV.denL P ρ cs vs->cs.length=vs.length
 |[],vs,h=>by simp[SV.denL] at h;simp[h]
 |c::cs,vs,h=>by
  simp only[SV.denL] at h
  obtain⟨v,r,rfl,_,k⟩:=h
  simp[qx cs r k]
theorem yI {P:Program} {ρ:Env}:∀(a b:List SV) (vs us:List Value),SV.denL P ρ a vs->SV.denL P ρ b us->SV.denL P ρ (a++b) (vs++us)
 |[],b,vs,us,h,k=>by simp[SV.denL] at h;simpa[h] using k
 |c::cs,b,vs,us,h,k=>by
  simp only[SV.denL] at h
  obtain⟨v,r,rfl,d,e⟩:=h
  simp only[j9,SV.denL]
  exact⟨v,r++us,rfl,d,yI cs b r us e k⟩
theorem QQ {P:Program} {ρ:Env}:∀(cs:List SV) (vs:List Value),SV.denL P ρ cs vs->∀(i:Nat) c,cs[i]? =some c->∃v,vs[i]? =some v/\SV.den P ρ c v
 |[],vs,_,i,c,hi=>by simp at hi
 |c::cs,vs,h,i,x,hi=>by
  simp only[SV.denL] at h
  obtain⟨v,r,rfl,a,b⟩:=h
  cases i with
  |zero=>simp at hi;subst hi;exact⟨v,by simp,a⟩
  |succ i=>simpa using QQ cs r b i x (by simpa using hi)
theorem fc {P:Program} {ρ:Env}:∀(k:Nat) (cs:List SV) (vs:List Value),SV.denL P ρ cs vs->SV.denL P ρ (cs.drop k) (vs.drop k)
 |0,cs,vs,h=>by simpa using h
 |k+1,[],vs,h=>by simp[SV.denL] at h;simp[h,SV.denL]
 |k+1,c::cs,vs,h=>by
  simp only[SV.denL] at h
  obtain⟨v,r,rfl,b,a⟩:=h
  simpa using fc k cs r a
theorem sL {P:Program} {ρ:Env}:∀(k:Nat) (cs:List SV) (vs:List Value),SV.denL P ρ cs vs->SV.denL P ρ (cs.take k) (vs.take k)
 |0,cs,vs,h=>by simp[SV.denL]
 |k+1,[],vs,h=>by simp[SV.denL] at h;simp[h,SV.denL]
 |k+1,c::cs,vs,h=>by
  simp only[SV.denL] at h
  obtain⟨v,r,rfl,a,b⟩:=h
  simp only[List.take_succ_cons,SV.denL]
  exact⟨v,r.take k,rfl,a,sL k cs r b⟩
structure qw where
 w:World
 H:Imm
 bor:List Nat
 blk0:Nat->Option (Option (Nat×Nat))--where the objects lie that were handed over
 len0:Nat->Nat
def fzH (fz:Bool) (vs:Array Value):Option Fz:=match fz with|true=>some (.cells vs)|false=>none
def fzM (fz:Bool) (es:Array MapEntry) (clock:Nat):Option Fz:=match fz with|true=>some (.map es clock)|false=>none
def mE (H:Imm) (kt vt:Ty) (es:Array MapEntry) (clock:Nat) (l:List (kt.Data×vt.Data)):Prop:=
 es.size=l.length/\es.size<=clock/\(∀(i:Nat) (e:MapEntry),es[i]? =some e->e.born<clock)/\(∀(i j:Nat) (e a:MapEntry),es[i]? =some e->es[j]? =some a->e.born=a.born->i=j)/\
  ∀(i:Nat) (x:kt.Data×vt.Data),l[i]? =some x->∃e:MapEntry,es[i]? =some e/\kt.rv H e.key x.1/\vt.rv H e.val x.2
theorem mE.mono {H H':Imm} (a:∀b c,H b=some c->H' b=some c) {kt vt:Ty} {es:Array MapEntry} {clock:Nat} {l:List (kt.Data×vt.Data)} (h:mE H kt vt es clock l):mE H' kt vt es clock l:=by
 obtain⟨j,k,m,n,o⟩:=h;refine⟨j,k,m,n,fun i x p=> ?_⟩;obtain⟨e,d,f,g⟩:=o i x p;exact⟨e,d,Ty.rv_mono a f,Ty.rv_mono a g⟩
def jes (H:Imm) (kt vt:Ty) (es:List MapEntry) (a:Array Nat) (left:List (kt.Data×vt.Data)):Prop:=
 ∃fs:List MapEntry,fs=es.filter (fun e=> !a.contains e.born)/\fs.length=left.length/\∀(i:Nat) (x:kt.Data×vt.Data),left[i]? =some x->∃e:MapEntry,fs[i]? =some e/\kt.rv H e.key x.1/\vt.rv H e.val x.2
def jf0 (H:Imm) (kt vt:Ty) (es:List MapEntry) (clock:Nat) (b:Array Nat) (a:Nat):Option (kt.Data×vt.Data)->Prop
 |none=>True
 |some x=>a=clock/\∃e,e∈es/\b.back? =some e.born/\kt.rv H e.key x.1/\vt.rv H e.val x.2
def pm (H:Imm) (kt vt:Ty) (left:List (kt.Data×vt.Data)) (cur:Option (kt.Data×vt.Data)):Obj->Prop
 | .mapIter none _ _ _=>left=[]/\cur=none
 | .mapIter (some m) c b a=>∃(es:Array MapEntry) (clock:Nat),H m=some (.map es clock)/\c=clock/\(∀(i:Nat) (e:MapEntry),es[i]? =some e->e.born<clock)/\(∀(i j:Nat) (e d:MapEntry),es[i]? =some e->es[j]? =some d->e.born=d.born->i=j)/\
  (b= #[]\/a=clock)/\jes H kt vt es.toList b left/\jf0 H kt vt es.toList clock b a cur
 |_=>False
theorem pm.mono {H H':Imm} (a:∀b c,H b=some c->H' b=some c) {kt vt:Ty} {left:List (kt.Data×vt.Data)} {cur:Option (kt.Data×vt.Data)} {o:Obj} (h:pm H kt vt left cur o):pm H' kt vt left cur o:=by
 unfold pm at h⊢
 split at h
 exact h;obtain⟨es,clock,l,m,n,p,q,⟨fs,r,s,t⟩,u⟩:=h;refine⟨es,clock,a _ _ l,m,n,p,q,⟨fs,r,s,fun i x v=> ?_⟩,?_⟩;obtain⟨e,d,f,g⟩:=t i x v;exact⟨e,d,Ty.rv_mono a f,Ty.rv_mono a g⟩;cases cur with
 |none=>trivial
 |some x=>
  obtain⟨j,e,d,f,g,k⟩:=u;exact⟨j,e,d,f,Ty.rv_mono a g,Ty.rv_mono a k⟩
 exact h
def w7 (P:Program) (ρ:Env) (w:World) (o:Nat) (p:Option (Nat×Nat)):Ob->Prop
 | .box T fz cs=>∃b C vs,p=some (b,C)/\w.heap[b]? =some (.cells vs T (0,0))/\SV.denL P ρ cs vs.toList/\(∀v∈vs.toList,v.oneCell'=true)/\ρ.H b=fzH fz vs
 | .row E t fz nl l=>ρ.len o=l.length/\l.length<4611686018427387904/\match p with
  |none=>l=[]/\nl≠.no
  |some (b,C)=>(nl= .yes->l≠[])/\∃vs,w.heap[b]? =some (.cells vs E (0,0))/\vs.size=C*t.size/\l.length<=C/\C<=maxLen/\
   (∀i x,l[i]? =some x->t.rd ρ.H (fun j=>vs[i*t.size+j]?) x)/\ρ.H b=fzH fz vs
 | .map fz kt vt l=>∃b C es clock,p=some (b,C)/\w.heap[b]? =some (.map es clock)/\mE ρ.H kt vt es clock l/\ρ.H b=fzM fz es clock
 | .iter kt vt left cur=>∃b C x,p=some (b,C)/\w.heap[b]? =some x/\pm ρ.H kt vt left cur x/\ρ.H b=none
 | .mape kt vt l k s=>∃b C es clock,p=some (b,C)/\w.heap[b]? =some (.map es clock)/\mE ρ.H kt vt es clock (eV kt vt.dflt k l)/\ρ.H b=none/\
  ∃(j:Nat) (e:MapEntry),es[j]? =some e/\(e.born:Int)=s/\∀v,iv kt k v l=(eV kt vt.dflt k l).set j (k,v)
structure Sat (P:Program) (B:qw) (ρ:Env) (obj:Nat->Option Ob) (w:World):Prop where
 os:w.os=B.w.os
 tape:w.tape=B.w.tape
 output:w.output=B.w.output
 drawn:B.w.drawn<=w.drawn
 size:B.w.heap.size<=w.heap.size
 good:ir ρ.H w
 oldH:∀b,b<B.w.heap.size->b∉B.bor->ρ.H b=B.H b
 old:∀b,b<B.w.heap.size->b∉B.bor->w.heap[b]? =B.w.heap[b]?
 obs:∀o x,obj o=some x->∃p,ρ.blk o=some p/\w7 P ρ w o p x
 dead:∀o,obj o=none->ρ.blk o=none
 inj:∀o o' b C C',ρ.blk o=some (some (b,C))->ρ.blk o'=some (some (b,C'))->o=o'
 own:∀o b C,ρ.blk o=some (some (b,C))->B.w.heap.size<=b\/b∈B.bor
def sM (P:Program) (ρ:Env) (sl:List (Nat×SV)) (a:Act):Prop:=
 ∀s sv,wc sl s=some sv->SV.den P ρ sv (a.tmps.getD s undef)
def Pin (B:qw) (ρ:Env):Prop:=(∀o p,1000000<=o->ρ.blk o=some p->B.blk0 o=some p/\ρ.len o=B.len0 o)/\∀b c,B.H b=some c->ρ.H b=some c
theorem Pin.mono {B:qw} {ρ f:Env} {new:List Nat} (h:Pin B ρ) (a:ρ.le f new) (j:∀d,d∈new->d<1000000):Pin B f:=
 ⟨fun o p k g=>by
  have e:o∉new:=fun i=>by have:=j o i;omega
  have:=h.1 o p k (a.blk o _ e g)
  exact⟨this.1,(a.len o e).trans this.2⟩,fun b c g=>a.H b c (h.2 b c g)⟩
def Rel (P:Program) (B:qw) (n:Nat) (σ:St) (a:Act) (w:World):Prop:=
 a.defers=[]/\a.tmps.size=n/\∃ρ,Sat P B ρ σ.obj w/\sM P ρ σ.sl a/\Pin B ρ
theorem wl {α:Type} (k:Nat) (x:α) (l:List (Nat×α)):wc ((k,x)::l) k=some x:=by simp[wc]
theorem wa {α:Type} {j k:Nat} (h:j≠k) (x:α) (l:List (Nat×α)):wc ((j,x)::l) k=wc l k:=by
 simp only[wc];cases a:Nat.beq j k;rfl;exact absurd (jb a) h
theorem kM {α:Type}:∀(a b:List (Nat×α)) (k:Nat),wc (a++b) k=(match wc a k with|some x=>some x|none=>wc b k)
 |[],b,k=>by simp[wc]
 | (j,x)::a,b,k=>by
  simp only[j9,wc]
  cases Nat.beq j k<;>simp[kM a b k]
theorem qh {α:Type}:∀(l:List (Nat×α)) (k:Nat) (x:α),wc l k=some x->(k,x)∈l
 |[],_,_,h=>by simp[wc] at h
 | (j,y)::l,k,x,h=>by
  simp only[wc] at h
  cases a:Nat.beq j k
  rw[a] at h;exact jl _ (qh l k x h)
  rw[a] at h;simp at h;subst h;have:=jb a;subst this;exact zf
end Go.X
namespace Go.X
open Go.RowKit (Below)
theorem wE {P:Program} {ρ f:Env} {w w':World} {new:List Nat} (h:ρ.le f new) {o:Nat} (r:o∉new) {p:Option (Nat×Nat)} {x:Ob}
 (m:∀T fz cs,x= .box T fz cs->∀o',o'∈new->SV.refs.refsL o' cs=false)
 (g:∀b C,p=some (b,C)->f.H b=ρ.H b/\w'.heap[b]? =w.heap[b]?) (k:w7 P ρ w o p x):w7 P f w' o p x:=by
 cases x with
 |box T fz cs=>
  simp only[w7] at k⊢;obtain⟨b,C,vs,rfl,d,a,e,j⟩:=k;obtain⟨c,e2⟩:=g b C rfl;exact⟨b,C,vs,rfl,by rw[e2];exact d,SV.denL_mono h cs _ (m T fz cs rfl) a,e,by rw[c];exact j⟩
 |row E t fz nl l=>
  simp only[w7] at k⊢;obtain⟨d,v,a⟩:=k;refine⟨by rw[h.len o r];exact d,v,?_⟩;cases p with
  |none=>exact a
  |some q=>
   obtain⟨b,C⟩:=q;obtain⟨c,e2⟩:=g b C rfl;simp only at a⊢;obtain⟨e,vs,j,y,z,A,B,n⟩:=a;exact⟨e,vs,by rw[e2];exact j,y,z,A,fun i x u=>t.rd_mono h.H _ _ (B i x u),by rw[c];exact n⟩
 |map fz kt vt l=>
  simp only[w7] at k⊢;obtain⟨b,C,es,clock,rfl,d,a,e⟩:=k;obtain⟨c,e2⟩:=g b C rfl;exact⟨b,C,es,clock,rfl,by rw[e2];exact d,a.mono h.H,by rw[c];exact e⟩
 |iter kt vt left cur=>
  simp only[w7] at k⊢;obtain⟨b,C,x,rfl,d,a,e⟩:=k;obtain⟨c,e2⟩:=g b C rfl;exact⟨b,C,x,rfl,by rw[e2];exact d,a.mono h.H,by rw[c];exact e⟩
 |mape kt vt l key s=>
  simp only[w7] at k⊢;obtain⟨b,C,es,clock,rfl,d,a,e,j⟩:=k;obtain⟨c,e2⟩:=g b C rfl;exact⟨b,C,es,clock,rfl,by rw[e2];exact d,a.mono h.H,by rw[c];exact e,j⟩
def UP (obj:Nat->Option Ob) (o:Nat):Nat->Option Ob:=fun o'=>if o'=o then(obj o).map vi else obj o'
theorem In (x:Ob):vi (vi x)=vi x:=by cases x<;>rfl
theorem QR {P:Program} {B:qw} {ρ:Env} {obj:Nat->Option Ob} {w:World} (h:Sat P B ρ obj w) {o:Nat} {b C:Nat} {vs:Fz}
 (l:ρ.blk o=some (some (b,C))) (m:vs.at w.heap[b]?) (k:ρ.H b=none):
 let f:Env:={ρ with H:=fun a=>if a=b then some vs else ρ.H a}
 ρ.le f []/\ir f.H w/\(∀a,a<B.w.heap.size->a∉B.bor->f.H a=B.H a):=by
 have j:∀a c,ρ.H a=some c->(fun a=>if a=b then some vs else ρ.H a) a=some c:=fun a c d=>by
  by_cases e:a=b;subst e;rw[k] at d;cases d;simp[e,d]
 refine⟨⟨j,fun _ _ _ h=>h,fun _ _=>rfl⟩,⟨fun a c d=> ?_,h.good.2.mono j⟩,fun a d g=> ?_⟩;by_cases e:a=b;subst e;simp at d;subst d;exact m;simp[e] at d;exact h.good.1 a c d;have:a≠b:=by
  rintro rfl;rcases h.own o a C l with i|i;omega;exact g i
 simp[this,h.oldH a d g]
theorem jci {P:Program} {B:qw} {ρ:Env} {obj:Nat->Option Ob} {w:World} (h:Sat P B ρ obj w) (o:Nat):
 ∃a,Sat P B a (UP obj o) w/\ρ.le a []/\a.blk=ρ.blk/\a.len=ρ.len:=by
 have same:UP obj o=obj->∃a,Sat P B a (UP obj o) w/\ρ.le a []/\a.blk=ρ.blk/\a.len=ρ.len:=fun e=>⟨ρ,by rw[e];exact h,Env.le.refl _ _,rfl,rfl⟩
 cases v:obj o with
 |none=>exact same (funext fun o'=>by unfold UP;split<;>simp_all)
 |some x=>
  obtain⟨p,u,y⟩:=h.obs o x v;by_cases g:vi x=x;exact same (funext fun o'=>by unfold UP;split<;>simp_all)
  --the block
  have key:∀(b C:Nat) (vs:Fz),p=some (b,C)->vs.at w.heap[b]?->ρ.H b=none->
   w7 P {ρ with H:=fun m=>if m=b then some vs else ρ.H m} w o p (vi x)->
   ∃a,Sat P B a (UP obj o) w/\ρ.le a []/\a.blk=ρ.blk/\a.len=ρ.len:=by
   intro b C vs f j n A;subst f;obtain⟨z,r,F⟩:=QR h u j n;refine⟨{ρ with H:=fun m=>if m=b then some vs else ρ.H m},⟨h.os,h.tape,h.output,h.drawn,h.size,r,F,h.old,?_,?_,h.inj,h.own⟩,z,rfl,rfl⟩;intro o' O c;unfold UP at c;by_cases e:o'=o;subst e;rw[jd rfl,v] at c;simp at c;subst c;exact⟨_,u,A⟩;rw[jc e] at c;obtain⟨p',G,L⟩:=h.obs o' O c;refine⟨p',G,wE z (by simp) (fun _ _ _ _ o'' D=>by simp at D) (fun m C' I=>⟨?_,rfl⟩) L⟩;subst I;have:m≠b:=fun S=>e (h.inj o' o m C' C G (S▸u))
   simp[this];intro o' d;unfold UP at d;by_cases e:o'=o;subst e;rw[jd rfl,v] at d;cases d;rw[jc e] at d;exact h.dead o' d
  cases x with
  |box T fz cs=>
   cases fz with
   |true=>exact absurd rfl g
   |false=>
    simp only[w7,fzH] at y;obtain⟨b,C,vs,f,j,K,V,n⟩:=y;refine key b C (.cells vs) f ⟨T,_,j⟩ n ?_;simp only[vi,w7,fzH];exact⟨b,C,vs,f,j,SV.denL_mono (QR (vs:= .cells vs) h (f▸u) ⟨T,_,j⟩ n).1 cs _ (fun o W=>by simp at W) K,V,by simp⟩
  |row E t fz nl l=>
   cases fz with
   |true=>exact absurd rfl g
   |false=>
    simp only[w7,fzH] at y;obtain⟨R,Q,M⟩:=y;cases p with
    |none=>
     refine⟨ρ,⟨h.os,h.tape,h.output,h.drawn,h.size,h.good,h.oldH,h.old,?_,?_,h.inj,h.own⟩,Env.le.refl _ _,rfl,rfl⟩;intro o' O c;unfold UP at c;by_cases e:o'=o;subst e;rw[jd rfl,v] at c;simp at c;subst c;exact⟨none,u,R,Q,M⟩;rw[jc e] at c;exact h.obs o' O c;intro o' d;unfold UP at d;by_cases e:o'=o;subst e;rw[jd rfl,v] at d;cases d;rw[jc e] at d;exact h.dead o' d
    |some q=>
     obtain⟨b,C⟩:=q;simp only at M;obtain⟨X,vs,N,Y,Z,k7,k9,J⟩:=M;refine key b C (.cells vs) rfl ⟨E,_,N⟩ J ?_;simp only[vi,w7,fzH];exact⟨R,Q,X,vs,N,Y,Z,k7,fun i x v=>t.rd_mono (QR (vs:= .cells vs) h u ⟨E,_,N⟩ J).1.H _ _ (k9 i x v),by simp⟩
  |map fz kt vt l=>
   cases fz with
   |true=>exact absurd rfl g
   |false=>
    simp only[w7,fzM] at y;obtain⟨b,C,es,clock,f,j,K,n⟩:=y;refine key b C (.map es clock) f j n ?_;simp only[vi,w7,fzM];exact⟨b,C,es,clock,f,j,K.mono (QR (vs:= .map es clock) h (f▸u) j n).1.H,by simp⟩
  |iter kt vt left cur=>exact absurd rfl g
  |mape kt vt l k s=>exact absurd rfl g
theorem yP (σ:St) (o:Nat) (x:Option Ob) (r:List (Nat×Option Ob)) (o':Nat):
 ({σ with ob:=(o,x)::r}:St).obj o'=if o'=o then x else({σ with ob:=r}:St).obj o':=by
 by_cases e:o'=o;subst e;simp[St.obj,wl];simp[St.obj,wa (fun h=>e h.symm),e]
theorem q9 (σ:St):∀(fz:List Nat) (o:Nat),(σ.frz fz).obj o=if o∈fz then(σ.obj o).map vi else σ.obj o
 |[],o=>by simp[St.frz,ao]
 |k::r,o=>by
  have a:=q9 σ r o
  unfold St.frz at a⊢
  simp only[ao]
  cases hk:σ.obj k with
  |none=>
   simp only
   rw[a]
   by_cases e:o=k
   subst e;by_cases b:o∈r<;>simp[b,hk]
   simp[e]
  |some x=>
   simp only[j9]
   rw[yP]
   by_cases e:o=k
   subst e;simp[hk]
   simp only[e,if_false];rw[a];simp[e]
theorem wF {P:Program} {B:qw} {σ:St} {w:World}:∀(fz:List Nat) {ρ:Env},Sat P B ρ σ.obj w->
 ∃a,Sat P B a (σ.frz fz).obj w/\ρ.le a []/\a.blk=ρ.blk/\a.len=ρ.len
 |[],ρ,h=>⟨ρ,by have:(σ.frz []).obj=σ.obj:=funext fun o=>by rw[q9];simp
                rw[this];exact h,Env.le.refl _ _,rfl,rfl⟩
 |k::r,ρ,h=>by
  obtain⟨ρ1,g,j,d,m⟩:=wF r h
  obtain⟨b,i,l,f,n⟩:=jci g k
  refine⟨b,?_,j.trans l,f.trans d,n.trans m⟩
  have:(σ.frz (k::r)).obj=UP (σ.frz r).obj k:=funext fun o=>by
   unfold UP
   rw[q9,q9,q9]
   by_cases e:o=k
   subst e
   by_cases c:o∈r
   simp only[c,jk,true_or,if_true]
   cases σ.obj o<;>simp[In]
   simp[c]
   simp[e]
  rw[this];exact i
theorem aY {H:Imm} {t:Ty} (a:t.agg=false) {f g:Nat->Option Value} (e:f 0=g 0) {d:t.Data} (h:t.rd H f d):t.rd H g d:=
 t.rd_congr f g d (fun i hi=>by
  have:t.size=1:=by cases t<;>simp_all [Ty.size,Ty.agg]
  have:i=0:=by omega
  subst this;exact e) h
theorem mF {v:Value} (h:vN v=false):v.cells= #[v]:=by cases v<;>simp_all [vN,Value.cells]
theorem w5 {H:Imm} {t:Ty} {v:Value} {d:t.Data} (a:t.agg=false) (h:t.rv H v d):t.rd H (fun _=>some v) d:=by
 have b:=mF (v:=v) (by rw[h.1,a]);exact aY a (by simp[b]) h.2.2
theorem Io {H:Imm} {t:Ty} {v:Value} {d:t.Data} (b:t.agg=false) (h:t.rd H (fun _=>some v) d):vN v=false:=by
 cases t with
 |map k u=>obtain⟨p,e,_⟩:=h;simp at e;subst e;rfl
 |slice t=>obtain⟨a,n,c,e,_⟩:=h;simp at e;subst e;rfl
 |ptr t=>obtain⟨p,e,_⟩:=h;simp at e;subst e;rfl
 |_=>simp_all [Ty.rd,Ty.agg,vN]
theorem vz {H:Imm} {t:Ty} {v:Value} {d:t.Data} (b:t.agg=false) (h:t.rd H (fun _=>some v) d):t.rv H v d:=by
 have a:=Io b h;have c:t.size=1:=by cases t<;>simp_all [Ty.size,Ty.agg]
 refine⟨by rw[a,b],by rw[mF a,c];rfl,aY b (by rw[mF a];simp) h⟩
theorem yz {v:Value} (h:qa v=true):v= .slice none 0 0:=by
 unfold qa at h
 split at h
 rfl;cases h
theorem QS {H:Imm} (t:Ty):(Ty.slice t).rd H (fun _=>some (.slice none 0 0)) []:=
 ⟨none,0,0,rfl,rfl,jj _,by simp,fun _=>rfl,fun h=>absurd rfl h⟩
theorem jbn {v:Value} (h:Ct v=true):v= .map none:=by
 unfold Ct at h
 split at h
 rfl;cases h
theorem jet {H:Imm} {kt vt:Ty} {b:Nat} {es:Array MapEntry} {clock:Nat} {l:List (kt.Data×vt.Data)} (g:H b=some (.map es clock)) (h:mE H kt vt es clock l):
 (Ty.map kt vt).rd H (fun _=>some (.map (some b))) l:=by
 obtain⟨a,c,d,e,f⟩:=h;refine⟨some b,rfl,fun h=>(by cases h),fun j i=> ?_⟩;cases i;exact⟨es,clock,g,a,c,d,e,f⟩
def Frz (σ τ:St) (fz:List Nat):Prop:=∀o,(τ.obj o=σ.obj o\/τ.obj o=(σ.obj o).map vi)/\(o∈fz->τ.obj o=(σ.obj o).map vi)
theorem v6 (σ:St) (fz:List Nat):Frz σ (σ.frz fz) fz:=fun o=>by
 rw[q9]
 by_cases h:o∈fz<;>simp[h]
theorem QT {P:Program} {B:qw} {σ τ:St} {ρ:Env} {w:World} (g:Sat P B ρ τ.obj w) {fz:List Nat} (e:Frz σ τ fz) {o:Nat} (h:o∈fz)
 {E:Nat} {t:Ty} {f:Bool} {nl:Nl} {l:List t.Data} (m:σ.obj o=some (.row E t f nl l)):
 ∃p,ρ.blk o=some p/\ρ.len o=l.length/\l.length<4611686018427387904/\match p with
  |none=>l=[]
  |some (b,_)=>∃vs,ρ.H b=some (.cells vs)/\∀i x,l[i]? =some x->t.rd ρ.H (fun j=>vs[i*t.size+j]?) x:=by
 have a:τ.obj o=some (.row E t true nl l):=(by rw[(e o).2 h,m];rfl);obtain⟨p,k,r,n,d⟩:=g.obs o _ a;refine⟨p,k,r,n,?_⟩;cases p with
 |none=>exact d.1
 |some q=>
  obtain⟨b,C⟩:=q;obtain⟨_,vs,_,_,_,_,s,c⟩:=d;exact⟨vs,by simpa[fzH] using c,s⟩
theorem Y9 {P:Program} {B:qw} {σ τ:St} {ρ:Env} {w:World} (r:Sat P B ρ τ.obj w) {fz:List Nat} (n:Frz σ τ fz) {o:Nat} (s:o∈fz)
 {t u:Ty} {l:List t.Data} {v:Value} (c:cw σ t (.own o u)=some l) (a:SV.den P ρ (.own o u) v):(Ty.slice t).rd ρ.H (fun _=>some v) l:=by
 simp only[cw] at c
 split at c
 rename_i E D f nl l' d;obtain⟨e,rfl⟩:=kP c;obtain⟨p,y,A,z,g⟩:=QT r n s d;rw[dA];simp only[SV.den] at a;have a:=a p y;cases p with
 |none=>
  subst g;obtain⟨rfl,_⟩:=a;exact QS D
 |some q=>
  obtain⟨b,C⟩:=q;obtain⟨rfl,j⟩:=a;obtain⟨vs,k,m⟩:=g;exact⟨_,_,C,rfl,A,j,z,fun h=>(by cases h),fun _=>⟨b,0,vs,rfl,k,fun i x d=>by simpa using m i x d⟩⟩
 cases c
theorem Za {P:Program} {B:qw} {σ τ:St} {ρ:Env} {w:World} (J:Sat P B ρ τ.obj w) {fz:List Nat} (I:Frz σ τ fz) {o:Nat} (L:o∈fz)
 {t u:Ty} {lo n:Nat} {l:List t.Data} {v:Value} (c:cw σ t (.osl o u lo n)=some l) (k:SV.den P ρ (.osl o u lo n) v):(Ty.slice t).rd ρ.H (fun _=>some v) l:=by
 simp only[cw] at c
 split at c
 rename_i E V f nl l' d
 split at c
 rename_i N K;obtain⟨z,rfl⟩:=kP K;obtain⟨e,rfl⟩:=kP c;obtain⟨p,M,T,S,y⟩:=QT J I L d;rw[dA];cases z;simp only[gT];simp only[SV.den] at k;have k:=k p M;cases p with
 |none=>
  subst y;obtain⟨rfl,rfl⟩:=k;simpa using QS u
 |some q=>
  obtain⟨b,C⟩:=q;obtain⟨a,m,rfl,A,O,Q,D⟩:=k;obtain⟨vs,F,G⟩:=y;have g:((l'.drop lo).take n).length=n:=(by simp;omega);refine⟨_,_,m,rfl,g.symm,A,by omega,fun h=>(by cases h),fun s=> ?_⟩;have R:0<n:=by
   rcases zX n with r|r;subst r;simp at s;exact r
  refine⟨b,lo*u.size,vs,by rw[D (.inr (by omega))],F,fun i x d=> ?_⟩;have hi:(l'.drop lo)[i]? =some x:=by
   rw[zY] at d
   split at d
   exact d;cases d
  rw[zi] at hi;have:=G _ _ hi;refine u.rd_congr _ _ x (fun j _=> ?_) this;simp only[zw]
 cases c;cases c
theorem sN {P:Program} {B:qw} {σ τ:St} {ρ:Env} {w:World} (m:Sat P B ρ τ.obj w) {fz:List Nat} (k:Frz σ τ fz)
 {t:Ty} (y:t.agg=false) {sv:SV} {d:t.Data} {c:List Nat} (h:CV σ t sv=some (d,c)) (s:∀o,o∈c->o∈fz) {v:Value} (a:SV.den P ρ sv v):
 t.rd ρ.H (fun _=>some v) d:=by
 have plain:∀(t:Ty),t.agg=false->∀(i:Ty) (j:i.Data) (x:t.Data),qg i t j=some x->SV.den P ρ (.dat i j) v->t.rd ρ.H (fun _=>some v) x:=by
  intro t y i j x f a;obtain⟨e,rfl⟩:=kP f;rw[dA];subst e;simp only[SV.den] at a;exact w5 y a
 unfold CV at h
 split at h
 .rename_i t o u
  split at h
  .rename_i l q;simp at h;obtain⟨rfl,rfl⟩:=h;exact Y9 m k (s o (by simp)) q a
  .cases h
 .rename_i t o u lo n
  split at h
  .rename_i l q;simp at h;obtain⟨rfl,rfl⟩:=h;exact Za m k (s o (by simp)) q a
  .cases h
 .rename_i t u
  split at h
  .rename_i r;simp at h;obtain⟨rfl,rfl⟩:=h;simp only[SV.den] at a;subst a;rw[yz r];exact QS t
  .cases h
 .rename_i kt vt o
  split at h
  case h_2=>cases h
  rename_i F A D M I
  split at h
  case h_2=>cases h
  rename_i l' f;simp at h;obtain⟨rfl,rfl⟩:=h;obtain⟨e,rfl⟩:=kP f;rw[dA e];have z:τ.obj o=some (.map true A D M):=(by rw[(k o).2 (s o (by simp)),I];rfl);obtain⟨p,J,g⟩:=m.obs o _ z;simp only[w7,fzM] at g;obtain⟨b,C,es,clock,rfl,O,K,L⟩:=g;simp only[SV.den] at a;obtain⟨N,C',E,rfl⟩:=a _ J;simp at E;obtain⟨rfl,rfl⟩:=E;exact jet L K
 .rename_i kt vt u
  split at h
  .rename_i r;simp at h;obtain⟨rfl,rfl⟩:=h;simp only[SV.den] at a;subst a;rw[jbn r];exact⟨none,rfl,fun _=>rfl,fun b G=>by cases G⟩
  .cases h
 .split at h
  .rename_i x f;simp at h;obtain⟨rfl,rfl⟩:=h;exact plain _ y _ _ _ f a
  .cases h
 .cases h
theorem Ve {v:Value} (h:sF v=true):v= .pointer none:=by
 unfold sF at h
 split at h
 rfl;cases h
theorem sO {P:Program} {B:qw} {σ τ:St} {ρ:Env} {w:World} (D:Sat P B ρ τ.obj w) {fz:List Nat} (A:Frz σ τ fz) {t:Ty}
 (J:∀{cs rest:List SV} {d:t.Data} {a:List Nat},yy σ t cs=some (d,rest,a)->(∀o,o∈a->o∈fz)->∀{vs:List Value},SV.denL P ρ cs vs->
  ∃us r,vs=us++r/\us.length=t.size/\SV.denL P ρ rest r/\t.rd ρ.H (fun i=>us[i]?) d)
 {sv:SV} {d:Option t.Data} {a:List Nat} (h:Ic (yy σ t) (fun u d=>qg u t d) (fun u d=>qg u (.ptr t) d) σ sv=some (d,a)) (y:∀o,o∈a->o∈fz) {v:Value} (g:SV.den P ρ sv v):
 (Ty.ptr t).rd ρ.H (fun _=>some v) d:=by
 unfold Ic at h
 split at h
 .split at h
  .rename_i x m;simp at h;obtain⟨rfl,rfl⟩:=h;obtain⟨e,rfl⟩:=kP m;subst e;simp only[SV.den] at g;exact w5 rfl g
  .cases h
 .split at h
  .rename_i x m;simp at h;obtain⟨rfl,rfl⟩:=h;obtain⟨e,rfl⟩:=kP m;subst e;simp only[SV.den] at g;obtain⟨b,off,c,rfl,l,e2⟩:=g;exact⟨_,rfl,b,off,c,rfl,l,e2⟩
  .cases h
 .rename_i o off
  split at h
  case h_2=>cases h
  rename_i T f cs q
  split at h
  case h_2=>cases h
  rename_i x rest N E;simp at h;obtain⟨rfl,rfl⟩:=h;have s:τ.obj o=some (.box T true cs):=(by rw[(A o).2 (y o (by simp)),q];rfl);obtain⟨p,G,k⟩:=D.obs o _ s;simp only[w7,fzH] at k;obtain⟨b,C,vs,rfl,R,K,S,L⟩:=k;simp only[SV.den] at g;obtain⟨M,C',l,rfl⟩:=g _ G;simp at l;obtain⟨rfl,rfl⟩:=l;have n:=fc off cs _ K;obtain⟨us,r,e2,Q,_,I⟩:=J E (fun o q=>y o (by simp[q])) n;refine⟨_,rfl,b,off,vs,rfl,L,t.rd_congr _ _ _ (fun j O=> ?_) I⟩;have z:(vs.toList.drop off)[j]? =us[j]? :=(by rw[e2,jA (by omega)]);rw[<-z,zi];simp
 .split at h
  .rename_i F;simp at h;obtain⟨rfl,rfl⟩:=h;simp only[SV.den] at g;subst g;rw[Ve F];exact⟨none,rfl,rfl⟩
  .cases h
 .cases h
theorem mG {P:Program} {B:qw} {σ τ:St} {ρ:Env} {w:World} (J:Sat P B ρ τ.obj w) {fz:List Nat} (I:Frz σ τ fz):
 ∀(t:Ty) {cs rest:List SV} {d:t.Data} {g:List Nat},yy σ t cs=some (d,rest,g)->(∀o,o∈g->o∈fz)->∀{vs:List Value},SV.denL P ρ cs vs->
  ∃us r,vs=us++r/\us.length=t.size/\SV.denL P ρ rest r/\t.rd ρ.H (fun i=>us[i]?) d:=by
 have e:∀(t:Ty),t.agg=false->∀{c:SV} {r:List SV} {x:t.Data} {f:List Nat},CV σ t c=some (x,f)->
  (∀o,o∈f->o∈fz)->∀{vs:List Value},SV.denL P ρ (c::r) vs->∃us n,vs=us++n/\us.length=t.size/\SV.denL P ρ r n/\t.rd ρ.H (fun i=>us[i]?) x:=by
  intro t K c r x f m l vs j;simp only[SV.denL] at j;obtain⟨v,n,rfl,p,q⟩:=j;have s:=sN J I K m l p;exact⟨[v],n,rfl,by cases t<;>simp_all [Ty.size,Ty.agg],q,aY (f:=fun _=>some v) K rfl s⟩
 intro t
 induction t with
 |unit=>
  intro cs rest d g h _ vs j;simp only[yy,jy,Prod.mk.injEq] at h;obtain⟨_,rfl,rfl⟩:=h;exact⟨[],vs,rfl,rfl,j,trivial⟩
 |pair a b D E=>
  intro cs rest d g h l vs j;simp only[yy] at h
  split at h
  rename_i x r f L
  split at h
  rename_i y n T M;simp at h;obtain⟨rfl,rfl,rfl⟩:=h;obtain⟨us,V,rfl,O,N,Q⟩:=D L (fun o z=>l o (jh _ z)) j;obtain⟨F,G,rfl,C,A,R⟩:=E M (fun o z=>l o (jg _ z)) N;refine⟨us++F,G,by simp,by simp[Ty.size,O,C],A,?_,?_⟩;exact a.rd_congr _ _ _ (fun i hi=>by rw[jA (by omega)]) Q;refine b.rd_congr _ _ _ (fun i hi=> ?_) R;simp only;rw[jx (by omega)];congr 1;omega;cases h;cases h
 |int=>
  intro cs rest d g h l vs j;cases cs with
  |nil=>simp[yy] at h
  |cons c r=>
   simp only[yy] at h
   split at h
   rename_i x f m;simp at h;obtain⟨rfl,rfl,rfl⟩:=h;exact e .int rfl m l j;cases h
 |bool=>
  intro cs rest d g h l vs j;cases cs with
  |nil=>simp[yy] at h
  |cons c r=>
   simp only[yy] at h
   split at h
   rename_i x f m;simp at h;obtain⟨rfl,rfl,rfl⟩:=h;exact e .bool rfl m l j;cases h
 |uint k=>
  intro cs rest d g h l vs j;cases cs with
  |nil=>simp[yy] at h
  |cons c r=>
   simp only[yy] at h
   split at h
   rename_i x f m;simp at h;obtain⟨rfl,rfl,rfl⟩:=h;exact e (.uint k) rfl m l j;cases h
 |slice t _=>
  intro cs rest d g h l vs j;cases cs with
  |nil=>simp[yy] at h
  |cons c r=>
   simp only[yy] at h
   split at h
   rename_i x f m;simp at h;obtain⟨rfl,rfl,rfl⟩:=h;exact e (.slice t) rfl m l j;cases h
 |map k u _ _=>
  intro cs rest d g h l vs j;cases cs with
  |nil=>simp[yy] at h
  |cons c r=>
   simp only[yy] at h
   split at h
   rename_i x f m;simp at h;obtain⟨rfl,rfl,rfl⟩:=h;exact e (.map k u) rfl m l j;cases h
 |ptr t S=>
  intro cs rest d g h l vs j;cases cs with
  |nil=>simp[yy] at h
  |cons c r=>
   simp only[yy] at h
   split at h
   rename_i x f m;simp at h;obtain⟨rfl,rfl,rfl⟩:=h;simp only[SV.denL] at j;obtain⟨v,n,rfl,p,q⟩:=j;have s:=sO J I S m l p;exact⟨[v],n,rfl,rfl,q,aY (t:= .ptr t) (f:=fun _=>some v) rfl rfl s⟩;cases h
theorem AB {P:Program} {B:qw} {σ τ:St} {ρ:Env} {w:World} (c:Sat P B ρ τ.obj w) {fz:List Nat} (b:Frz σ τ fz)
 {t:Ty} (j:t.agg=false) {sv:SV} {d:t.Data} {a:List Nat} (h:QH σ t sv=some (d,a)) (f:∀o,o∈a->o∈fz) {v:Value} (g:SV.den P ρ sv v):
 t.rd ρ.H (fun _=>some v) d:=by
 unfold QH at h
 split at h
 rename_i t;exact sO c b (fun i e=>mG c b t i e) h f g;exact sN c b j h f g
theorem we {P:Program} {B:qw} {σ τ:St} {ρ:Env} {w:World} (j:Sat P B ρ τ.obj w) {fz:List Nat} (g:Frz σ τ fz)
 {t:Ty} {sv:SV} {d:t.Data} {b:List Nat} (h:yF σ t sv=some (d,b)) (l:∀o,o∈b->o∈fz) {v:Value} (a:SV.den P ρ sv v):t.rv ρ.H v d:=by
 unfold yF at h
 split at h
 rename_i u s
 split at h
 rename_i x m;simp at h;obtain⟨rfl,rfl⟩:=h;obtain⟨e,rfl⟩:=kP m;rw[Y8];simpa[SV.den] using a;cases h;rename_i cs
 split at h
 rename_i x f n
 split at h
 rename_i c;simp at h;obtain⟨rfl,rfl⟩:=h;simp only[SV.den] at a;obtain⟨vs,rfl,a,_⟩:=a;obtain⟨us,r,e,p,k,q⟩:=mG j g t n l a;simp only[SV.denL] at k;subst k;simp at e;refine⟨by simp[vN,c],by simp only[Value.cells];rw[<-p,<-e];simp,t.rd_congr _ _ _ (fun i _=> ?_) q⟩;simp only[Value.cells];rw[<-e];simp;cases h;cases h
 split at h
 cases h;rename_i c;exact vz c (AB j g c h l a)
def Vf (H:Imm) (t:Ty) (v:Value) (d:t.Data):Prop:=
 ∃b off c,v= .pointer (some ⟨b,off,none⟩)/\H b=some (.cells c)/\t.rd H (fun j=>c[off+j]?) d
def jcj (P:Program) (H:Imm):(p:Par)->Value->p.Data->Prop
 | .val t,v,d=>t.rv H v d
 | .ref t,v,d=>Vf H t v d
 | .fn ps rs,v,d=>FnV P H ps rs d.pre d.F v
 | .rfn ps rs,v,d=>∃b u,v= .pointer (some ⟨b,0,none⟩)/\H b=some (.cells #[u])/\FnV P H ps rs d.pre d.F u
def pvs (P:Program) (H:Imm):(ps:List Par)->List Value->PD ps->Prop
 |[],vs,_=>vs=[]
 |p::ps,v::vs,d=>jcj P H p v d.1/\pvs P H ps vs d.2
 |_::_,[],_=>False
structure wN (P:Program) (f:Nat) (s:wD):Prop where
 enters:enters P f
 calls:∀H w vals d,ir H w->pvs P H s.ps vals d->vI (s.pre d)->Calls P f vals.toArray w (jbm H w s.rs (s.F d))
theorem Vf.mono {H H':Imm} (a:∀b c,H b=some c->H' b=some c) {t:Ty} {v:Value} {d:t.Data} (h:Vf H t v d):Vf H' t v d:=by
 obtain⟨b,off,c,e,e2,f⟩:=h;exact⟨b,off,c,e,a _ _ e2,t.rd_mono a _ _ f⟩
theorem jcj.mono {P:Program} {H H':Imm} (a:∀b c,H b=some c->H' b=some c):∀{p:Par} {v:Value} {d:p.Data},jcj P H p v d->jcj P H' p v d
 | .val _,_,_,h=>Ty.rv_mono a h
 | .ref _,_,_,h=>Vf.mono a h
 | .fn _ _,_,_,h=>FnV.mono a h
 | .rfn _ _,_,_,h=>by
  obtain⟨b,u,e,e2,f⟩:=h
  exact⟨b,u,e,a _ _ e2,FnV.mono a f⟩
theorem pvs.mono {P:Program} {H H':Imm} (a:∀b c,H b=some c->H' b=some c):∀{ps:List Par} {vs:List Value} {d:PD ps},pvs P H ps vs d->pvs P H' ps vs d
 |[],_,_,h=>h
 |_::_,_::_,_,h=>⟨jcj.mono a h.1,pvs.mono a h.2⟩
 |_::_,[],_,h=>h
theorem iB {P:Program} {B:qw} {σ τ:St} {ρ:Env} {w:World} (q:Sat P B ρ τ.obj w) {fz:List Nat} (n:Frz σ τ fz)
 {t:Ty} {sv:SV} {d:t.Data} {a:List Nat} (h:NU σ t sv=some (d,a)) (s:∀o,o∈a->o∈fz) {v:Value} (c:SV.den P ρ sv v):Vf ρ.H t v d:=by
 unfold NU at h
 split at h
 .rename_i u z
  split at h
  .rename_i x g;simp at h;obtain⟨rfl,rfl⟩:=h;obtain⟨e,rfl⟩:=kP g;subst e;simpa[SV.den,Vf,gT] using c
  .cases h
 .rename_i o off
  split at h
  .rename_i T f cs k
   split at h
   .rename_i x r J E;simp at h;obtain⟨rfl,rfl⟩:=h;have l:τ.obj o=some (.box T true cs):=(by rw[(n o).2 (s o (by simp)),k];rfl);obtain⟨p,G,b,C,vs,rfl,L,j,_,D⟩:=q.obs o _ l;simp only[SV.den] at c;obtain⟨I,C',e,rfl⟩:=c _ G;simp at e;obtain⟨rfl,rfl⟩:=e;obtain⟨us,M,e,K,_,k⟩:=mG q n t E (fun o F=>s o (by simp[F])) (fc off cs _ j);refine⟨b,off,vs,rfl,by simpa[fzH] using D,t.rd_congr _ _ _ (fun i hi=> ?_) k⟩;have:vs[off+i]? =(vs.toList.drop off)[i]? :=(by simp);rw[this,e,jA (by omega)]
   .cases h
  .cases h
 .rename_i u z
  split at h
  case h_2=>cases h
  rename_i y
  split at h
  .rename_i x g;simp at h;obtain⟨rfl,rfl⟩:=h;obtain⟨e,rfl⟩:=kP g;subst e;simp only[SV.den] at c;obtain⟨p,m,b,off,blk,rfl,A,e2⟩:=w5 (t:= .ptr u) rfl c;simp at m;subst m;exact⟨b,off,blk,rfl,A,e2⟩
  .cases h
 .cases h
theorem iC {P:Program} {B:qw} {σ τ:St} {ρ:Env} {w:World} (g:Sat P B ρ τ.obj w) {fz:List Nat} (e:Frz σ τ fz):
 ∀{ps:List Ty} {svs:List SV} {d:(Ty.st ps).Data} {a:List Nat},KB σ ps svs=some (d,a)->(∀o,o∈a->o∈fz)->∀{vs:List Value},SV.denL P ρ svs vs->rvs ρ.H ps vs d
 |[],[],d,a,h,_,vs,b=>by simpa[SV.denL,rvs] using b
 |[],_::_,d,a,h,_,vs,b=>by simp[KB] at h
 |_::_,[],d,a,h,_,vs,b=>by simp[KB] at h
 |t::ps,sv::svs,d,a,h,hs,vs,b=>by
  simp only[KB] at h
  split at h
  rename_i x f l
  split at h
  rename_i xs m k
  simp at h
  obtain⟨rfl,rfl⟩:=h
  simp only[SV.denL] at b
  obtain⟨v,r,rfl,i,j⟩:=b
  exact⟨we g e l (fun o c=>hs o (jh _ c)) i,iC g e k (fun o c=>hs o (jg _ c)) j⟩
  cases h
  cases h
theorem pn {P:Program} {H:Imm}:∀{ps:List Ty} {b:List Par} {rest:List Par} {k:(Ty.st ps).Data->PD rest->PD b},dx ps b=some ⟨rest,k⟩->
 ∀{vs us:List Value} {x:(Ty.st ps).Data} {y:PD rest},rvs H ps vs x->pvs P H rest us y->pvs P H b (vs++us) (k x y)
 |[],b,rest,k,h,vs,us,x,y,a,c=>by
  simp only[dx,jy,Sigma.mk.injEq] at h
  obtain⟨rfl,h⟩:=h
  have:=eq_of_heq h
  subst this
  simp only[rvs] at a
  subst a
  exact c
 |_::_,[],rest,k,h,_,_,_,_,_,_=>by simp[dx] at h
 |_::_,.ref _::_,rest,k,h,_,_,_,_,_,_=>by simp[dx] at h
 |_::_,.fn _ _::_,rest,k,h,_,_,_,_,_,_=>by simp[dx] at h
 |t::ps,.val u::b,rest,k,h,vs,us,x,y,a,c=>by
  simp only[dx] at h
  split at h
  rename_i e
  subst e
  split at h
  rename_i d k' f
  simp only[jy,Sigma.mk.injEq] at h
  obtain⟨rfl,h⟩:=h
  have:=eq_of_heq h
  subst this
  cases vs with
  |nil=>exact a.elim
  |cons v vs=>exact⟨a.1,pn f a.2 c⟩
  cases h
  cases h
end Go.X
namespace Go.X
open Go.RowKit (Below)
def bU (t:Ty) (a:t.Data):List t.Data->List MapEntry->Nat->Option (Nat×Value)
 |k::ks,e::es,i=>if @decide (a=k) (t.decEq a k)=true then some (i,e.val) else bU t a ks es (i+1)
 |_,_,_=>none
def Ha (H:Imm) (t:Ty):List MapEntry->List t.Data->Prop
 |[],[]=>True
 |e::es,k::ks=>t.rv H e.key k/\Ha H t es ks
 |_,_=>False
structure TI.ok (P:Program) (ti:TI):Prop where
 info:∃i z,P.info? ti.id=some i/\i.size=ti.size/\i.bytes=ti.bytes/\i.zero=some z/\z.cells.toList=ti.zero/\vN z=ti.agg
 one:∀v∈ti.zero,v.oneCell'=true
 zlen:ti.zero.length=ti.size
 str:ti.agg=true->ti.arr=false->∃fs,P.underlying ti.id=some (.struct fs)/\fs.size=ti.fields.length/\∀(k:Nat) (p:Nat×Nat),ti.fields[k]? =some p->∃f:Field,fs[k]? =some f/\f.offset=p.1/\f.type=p.2
 arrk:ti.arr=true->ti.agg=true/\∃n ie,P.underlying ti.id=some (.array n ti.elem)/\P.info? ti.elem=some ie/\ie.size=1/\ti.fields.length=n/\ti.size=n/\n<=1000000/\∀(k:Nat) (p:Nat×Nat),ti.fields[k]? =some p->p=(k,ti.elem)
 fok:∀(k:Nat) (p:Nat×Nat),ti.fields[k]? =some p->∃i,P.info? p.2=some i
 flat:ti.agg=false->∃d,P.underlying ti.id=some d/\(∀fs,d≠.struct fs)/\(∀n e,d≠.array n e)/\(∀ms,d≠.interface ms)/\(ti.sl=true->d= .slice ti.elem)/\(ti.ty= .int->d= .int .i64)/\(∀k,ti.ty= .uint k->d= .int k)
 slf:ti.sl=true->ti.agg=false
 ptf:ti.pt=true->∃e,P.underlying ti.id=some (.pointer e)
 fkf:ti.fk=true->∃a b c,P.underlying ti.id=some (.func a b c)
 mpf:ti.mp=true->P.underlying ti.id=some (.map ti.key ti.elem)
 zd:q8 ti.ty=true->∀H:Imm,ti.ty.rd H (fun i=>ti.zero[i]?) ti.ty.dflt
 keyq:ti.kq=true->(∀(H:Imm) (x:Value) (a:ti.ty.Data) (w:World) (e:Bool),ti.ty.rv H x a->(Instr.checkKey e 10000 ti.id x).run P w= .ok () w)/\
  (∀(H:Imm) (es:List MapEntry) (ks:List ti.ty.Data) (x:Value) (a:ti.ty.Data) (w:World),ti.ty.rv H x a->Ha H ti.ty es ks->(Instr.findKey ti.id x es).run P w= .ok (bU ti.ty a ks es 0) w)/\
  (∀(H:Imm) (x y:Value) (a:ti.ty.Data),ti.ty.rv H x a->ti.ty.rv H y a->Instr.sameBits 10000 x y=true)
 flf:ti.agg=false->ti.fields=[]
 known:q8 ti.ty=true->ti.ty.agg=ti.agg/\ti.ty.size=ti.size
 pos:q8 ti.ty=true->0<ti.size/\0<ti.bytes
 eqs:ti.cmp=true->∀(H:Imm) (x y:Value) (a b:ti.ty.Data) (w:World),ti.ty.rv H x a->ti.ty.rv H y b->
  ∀op (X Y:Operand),(op= .eql\/op= .neq)->(do eqGuard op ti.id X Y x y;binOp op ti.id x y:Sem Value).run P w= .ok (.bool (match op with| .eql=> @decide (a=b) (ti.ty.decEq a b)|_=> !(@decide (a=b) (ti.ty.decEq a b)))) w
theorem KK {ti:TI} {f:Nat} {p:Nat×Nat} (h:ti.flds[f]? =some p):ti.fields[f]? =some p/\ti.arr=false:=by
 unfold TI.flds at h;cases a:ti.arr with
 |true=>rw[a] at h;simp at h
 |false=>rw[a] at h;exact⟨h,rfl⟩
def wb (P:Program) (B:qw) (ρ:Env) (σ:St) (out:Out) (v:Value) (w':World):Prop:=
 ∃a,Sat P B a ({σ with ob:=out.wr++(ao σ out.fz++σ.ob)}:St).obj w'/\ρ.le a out.nw/\SV.den P a out.sv v/\vI out.fact
def vJ (obj:Nat->Option Ob) (d:Nat):Prop:=∀o T fz cs,obj o=some (.box T fz cs)->SV.refs.refsL d cs=false
structure Ctx.ok (P:Program) (C:Ctx):Prop where
 ti:∀T x,C.info T=some x->x.id=T/\x.ok P
 fs:∀f s,C.spec f=some s->s.own=false->wN P f s
 str:∀T,aW C.strs T=true->P.underlying T=some .string
 lit:C.lit=false
 eff:∀f dst σ svs out,C.eff f dst σ svs=some out->enters P f/\∀B ρ w vals,Sat P B ρ σ.obj w->SV.denL P ρ svs vals->vI out.vc->σ.obj dst=none->vJ σ.obj dst->
  Calls P f vals.toArray w (fun e w'=>∃v,e= .returned v/\wb P B ρ σ out v w')
def wh (P:Program) (o:Oper) (ev:Operand->Value) (w:World) (R:Value->World->Prop):Prop:=
 match(execOp ev o).run P w with
 | .ok (.value v) w'=>R v w'
 | .ok .skip w'=>R undef w'
 | .ok (.enter f args) w'=>Calls P f args w' (fun e a=>∃v,e= .returned v/\R v a)
 |_=>False
theorem wh.wp {P:Program} {o:Oper} {a:Act} {w:World} {R:Value->World->Prop} {next:Act->World->Prop} {Q:Exit->Act->World->Prop}
 (h:wh P o a.eval w R) (k:∀v w',R v w'->next (a.put o.dst v) w'):o.wp P a w next Q:=by
 unfold wh at h;unfold Oper.wp;generalize (execOp a.eval o).run P w=r at*;cases r with
 |halt x w'=>exact h.elim
 |ok n w'=>
  cases n<;>simp only[Oper.upon] at h⊢
  case value v=>exact k _ _ h
  case skip=>exact k _ _ h
  case enter f args=>exact h.mono fun e d c=>by obtain⟨v,rfl,b⟩:=c;exact k _ _ b
  all_goals exact h.elim
theorem wh.mono {P:Program} {o:Oper} {ev:Operand->Value} {w:World} {R a:Value->World->Prop} (h:wh P o ev w R) (k:∀v w',R v w'->a v w'):wh P o ev w a:=by
 unfold wh at*;generalize (execOp ev o).run P w=r at*;cases r with
 |halt x w'=>exact h.elim
 |ok n w'=>
  cases n<;>simp only at h⊢
  case value v=>exact k _ _ h
  case skip=>exact k _ _ h
  case enter f args=>exact h.mono fun e d c=>by obtain⟨v,rfl,b⟩:=c;exact⟨v,rfl,k _ _ b⟩
section
variable {P:Program} {B:qw} {C:Ctx} {σ:St} {ρ:Env} {w:World} {o:Oper} {ev:Operand->Value} {out:Out}
theorem qy (a:Sat P B ρ σ.obj w) {sv:SV} {vc fact:List Prop} {v:Value} (b:SV.den P ρ sv v) (c:vI fact):wb P B ρ σ ⟨vc,fact,sv,[],[],[]⟩ v w:=
 ⟨ρ,a,Env.le.refl _ _,b,c⟩
theorem wU {R:Value->World->Prop} {v:Value} {w':World} (h:(execOp ev o).run P w= .ok (.value v) w') (k:R v w'):wh P o ev w R:=by
 unfold wh;rw[h];exact k
theorem gU {ti:TI} (h:ti.ok P):∃i z,(∀w,(typeInfo ti.id).run P w= .ok i w)/\i.size=ti.size/\i.bytes=ti.bytes/\(∀w,(sizeOf ti.id).run P w= .ok ti.size w)/\
 (∀w,(zeroValue ti.id).run P w= .ok z w)/\z.cells.toList=ti.zero/\vN z=ti.agg:=by
 obtain⟨i,z,b,a,c,d,f,g⟩:=h.info;have e:∀w,(typeInfo ti.id).run P w= .ok i w:=fun w=>by simp[typeInfo,b]
 exact⟨i,z,e,a,c,fun w=>by simp[sizeOf,e,a],fun w=>by simp[zeroValue,e,d],f,g⟩
theorem KL {ti:TI} (h:ti.ok P):∀w,(isAgg ti.id).run P w= .ok ti.agg w:=fun w=>by
 cases b:ti.agg with
 |true=>
  cases c:ti.arr with
  |false=>obtain⟨fs,a,_⟩:=h.str b c;simp[isAgg,jE a]
  |true=>obtain⟨_,n,ie,a,_⟩:=h.arrk c;simp[isAgg,jE a]
 |false=>
  obtain⟨d,a,e,f,_,_⟩:=h.flat b
  simp only[isAgg,jC,jE a,js]
  cases d<;>simp_all
theorem y5 {H:Imm} (n:Int):Ty.int.rv H (.int .i64 n) n:=⟨rfl,rfl,rfl⟩
theorem y7 {H:Imm} (b:Bool):Ty.bool.rv H (.bool b) b:=⟨rfl,rfl,rfl⟩
theorem Df {H:Imm} (k:IntKind) (n:Int):(Ty.uint k).rv H (.int k n) n:=⟨rfl,rfl,rfl⟩
theorem w6 {H:Imm} {v:Value} {n:Int} (h:Ty.int.rv H v n):v= .int .i64 n:=by
 have:=w5 (t:= .int) rfl h;simpa[Ty.rd] using this
theorem qJ {H:Imm} {v:Value} {n:Bool} (h:Ty.bool.rv H v n):v= .bool n:=by
 have:=w5 (t:= .bool) rfl h;simpa[Ty.rd] using this
theorem yQ {H:Imm} {k:IntKind} {v:Value} {n:Int} (h:(Ty.uint k).rv H v n):v= .int k n:=by
 have:=w5 (t:= .uint k) rfl h;simpa[Ty.rd] using this
theorem Dg (v:Value):SV.den P ρ (FT v) v:=by
 cases v with
 |int k n=>cases k<;>simp only[FT,SV.den]<;>first|exact y5 n|exact Df _ n
 |bool b=>exact y7 b
 |_=>simp[FT,SV.den]
theorem wu {a:Act} (b:sM P ρ σ.sl a) (x:Operand):SV.den P ρ (wx σ x) (a.eval x):=by
 cases x with
 |tmp t=>
  simp only[wx,St.get,Act.eval]
  split
  rename_i sv h;exact b t sv h;simp[SV.den]
 |const v=>exact Dg v
 |global g=>simp[wx,Act.eval,SV.den]
 |func f=>simp[wx,Act.eval,SV.den,SV.denL]
theorem gK {n:Int} (h:kU n):IntKind.i64.wrap n=n:=by
 rw[IntKind.wrap_i64];unfold kU at h;omega
theorem AC {op:BinOp} {x y:Int} {U:Nat} {X Y:Operand} {out:Out} (h:G4 op x y=some out) (d:vI out.vc)
 (k:Sat P B ρ σ.obj w):
 ∃v,(do eqGuard op U X Y (.int .i64 x) (.int .i64 y);binOp op U (.int .i64 x) (.int .i64 y):Sem Value).run P w= .ok v w/\wb P B ρ σ out v w:=by
 have f:(eqGuard op U X Y (.int .i64 x) (.int .i64 y)).run P w= .ok () w:=by
  unfold eqGuard;cases op<;>simp
 have a:∀(n:Int) (vc:List Prop),(binOp op U (.int .i64 x) (.int .i64 y)).run P w= .ok (.int .i64 n) w->
  ∃v,(do eqGuard op U X Y (.int .i64 x) (.int .i64 y);binOp op U (.int .i64 x) (.int .i64 y):Sem Value).run P w= .ok v w/\wb P B ρ σ ⟨vc,[],.dat .int n,[],[],[]⟩ v w:=
  fun n vc j=>⟨_,by simp[f,j],qy k (y5 n) trivial⟩
 have c:∀(b:Bool),(binOp op U (.int .i64 x) (.int .i64 y)).run P w= .ok (.bool b) w->
  ∃v,(do eqGuard op U X Y (.int .i64 x) (.int .i64 y);binOp op U (.int .i64 x) (.int .i64 y):Sem Value).run P w= .ok v w/\wb P B ρ σ ⟨[],[],.dat .bool b,[],[],[]⟩ v w:=
  fun b j=>⟨_,by simp[f,j],qy k (y7 b) trivial⟩
 cases op<;>simp only[G4,Out.pure,jy] at h<;>subst h<;>simp only[vI] at d
 case add=>exact a _ _ (by simp[binOp,Op.intArith,gK d.1])
 case sub=>exact a _ _ (by simp[binOp,Op.intArith,gK d.1])
 case mul=>exact a _ _ (by simp[binOp,Op.intArith,gK d.1])
 case quo=>exact a _ _ (by simp[binOp,Op.intDiv,d.1,gK d.2.1])
 case rem=>exact a _ _ (by simp[binOp,Op.intDiv,d.1])
 case and=>exact a _ _ rfl
 case or=>exact a _ _ rfl
 case xor=>exact a _ _ rfl
 case andNot=>exact a _ _ rfl
 case shl=>
  refine a _ _ ?_;have g:¬y<0:=(by omega);have i:min y.toNat 64=y.toNat:=(by omega);simp only[binOp,Op.shift,g,if_false,IntKind.bits,i];simp[gK d.2.2.1]
 case shr=>
  refine a _ _ ?_;have g:¬y<0:=(by omega);have i:min y.toNat 64=y.toNat:=(by omega);simp only[binOp,Op.shift,g,if_false,IntKind.bits,i];have l:(0:Int)<=2^y.toNat:=Int.le_of_lt (Int.pow_pos (by omega));rw[Int.fdiv_eq_ediv_of_nonneg _ l];simp
 case eql=>exact c _ (by simp only[binOp,Op.intCmp,ne_eq,not_true_eq_false,if_false,jT];congr 2)
 case neq=>exact c _ (by simp only[binOp,Op.intCmp,ne_eq,not_true_eq_false,if_false,jT];congr 2;by_cases e:x=y<;>simp[bne,e])
 case lss=>exact c _ (by simp[binOp,Op.intCmp])
 case leq=>exact c _ (by simp[binOp,Op.intCmp])
 case gtr=>exact c _ (by simp[binOp,Op.intCmp])
 case geq=>exact c _ (by simp[binOp,Op.intCmp])
theorem iD {n:Int} (h:0<=n/\n<=18446744073709551615):IntKind.u64.wrap n=n:=by
 simp[IntKind.wrap,IntKind.bits,IntKind.signed];omega
theorem Hb {op:BinOp} {x y:Int} {U:Nat} {X Y:Operand} {out:Out} (h:jd8 op x y=some out) (d:vI out.vc)
 (k:Sat P B ρ σ.obj w):
 ∃v,(do eqGuard op U X Y (.int .u64 x) (.int .u64 y);binOp op U (.int .u64 x) (.int .u64 y):Sem Value).run P w= .ok v w/\wb P B ρ σ out v w:=by
 have f:(eqGuard op U X Y (.int .u64 x) (.int .u64 y)).run P w= .ok () w:=by
  unfold eqGuard;cases op<;>simp
 have c:∀(n:Int) (vc:List Prop),(binOp op U (.int .u64 x) (.int .u64 y)).run P w= .ok (.int .u64 n) w->
  ∃v,(do eqGuard op U X Y (.int .u64 x) (.int .u64 y);binOp op U (.int .u64 x) (.int .u64 y):Sem Value).run P w= .ok v w/\wb P B ρ σ ⟨vc,[],.dat (.uint .u64) n,[],[],[]⟩ v w:=
  fun n vc j=>⟨_,by simp[f,j],qy k (Df _ n) trivial⟩
 have a:∀(b:Bool),(binOp op U (.int .u64 x) (.int .u64 y)).run P w= .ok (.bool b) w->
  ∃v,(do eqGuard op U X Y (.int .u64 x) (.int .u64 y);binOp op U (.int .u64 x) (.int .u64 y):Sem Value).run P w= .ok v w/\wb P B ρ σ ⟨[],[],.dat .bool b,[],[],[]⟩ v w:=
  fun b j=>⟨_,by simp[f,j],qy k (y7 b) trivial⟩
 cases op<;>simp only[jd8,Out.pure,jy,reduceCtorEq] at h<;>subst h<;>simp only[vI] at d
 case add=>exact c _ _ (by simp[binOp,Op.intArith,iD ⟨d.1,d.2.1⟩])
 case sub=>exact c _ _ (by simp[binOp,Op.intArith,iD ⟨d.1,d.2.1⟩])
 case mul=>exact c _ _ (by simp[binOp,Op.intArith,iD ⟨d.1,d.2.1⟩])
 case and=>exact c _ _ rfl
 case or=>exact c _ _ rfl
 case shl=>
  refine c _ _ ?_;have g:¬y<0:=(by omega);have i:min y.toNat 64=y.toNat:=(by omega);simp[binOp,Op.shift,g,IntKind.bits,i,iD ⟨d.2.2.1,d.2.2.2.1⟩]
 case shr=>
  refine c _ _ ?_;have g:¬y<0:=(by omega);have i:min y.toNat 64=y.toNat:=(by omega);simp only[binOp,Op.shift,g,if_false,IntKind.bits,i];have l:(0:Int)<=2^y.toNat:=Int.le_of_lt (Int.pow_pos (by omega));rw[Int.fdiv_eq_ediv_of_nonneg _ l];simp
 case eql=>exact a _ (by simp only[binOp,Op.intCmp,ne_eq,not_true_eq_false,if_false,jT];congr 2)
 case neq=>exact a _ (by simp only[binOp,Op.intCmp,ne_eq,not_true_eq_false,if_false,jT];congr 2;by_cases e:x=y<;>simp[bne,e])
 case lss=>exact a _ (by simp[binOp,Op.intCmp])
 case leq=>exact a _ (by simp[binOp,Op.intCmp])
 case gtr=>exact a _ (by simp[binOp,Op.intCmp])
 case geq=>exact a _ (by simp[binOp,Op.intCmp])
end
end Go.X
namespace Go.X
open Go.RowKit (Below)
theorem gV (b off n:Nat):(⟨b,off,none⟩:Addr).add n=⟨b,off+n,none⟩:=by
 unfold Addr.add
 split
 rename_i h;subst h;rfl;rfl
theorem Dh {w:World} {b off:Nat} {vs:Array Value} {T:Nat} {a:Nat×Nat} (h:w.heap[b]? =some (.cells vs T a)):w.cell? ⟨b,off,none⟩=vs[off]? :=by
 simp[World.cell?,h]
theorem cz {H:Imm}:∀(t:Ty) (f:Nat->Option Value) (d:t.Data),t.rd H f d->∀j,j<t.size->∃v,f j=some v/\v.oneCell'=true
 | .int,f,_,h,j,g=>by
  have:j=0:=by simp[Ty.size] at g;exact g
  subst this;exact⟨_,h,rfl⟩
 | .bool,f,_,h,j,g=>by
  have:j=0:=by simp[Ty.size] at g;exact g
  subst this;exact⟨_,h,rfl⟩
 | .uint _,f,_,h,j,g=>by
  have:j=0:=by simp[Ty.size] at g;exact g
  subst this;exact⟨_,h,rfl⟩
 | .unit,_,_,_,j,g=>by simp[Ty.size] at g
 | .slice t,f,l,h,j,g=>by
  have:j=0:=by simp[Ty.size] at g;exact g
  subst this
  obtain⟨a,n,c,e,_⟩:=h
  exact⟨_,e,rfl⟩
 | .map _ _,f,l,h,j,g=>by
  have:j=0:=by simp[Ty.size] at g;exact g
  subst this
  obtain⟨p,e,_⟩:=h
  exact⟨_,e,rfl⟩
 | .ptr _,f,l,h,j,g=>by
  have:j=0:=by simp[Ty.size] at g;exact g
  subst this
  obtain⟨p,e,_⟩:=h
  exact⟨_,e,rfl⟩
 | .pair a b,f,d,h,j,g=>by
  by_cases i:j<a.size
  exact cz a f d.1 h.1 j i
  obtain⟨v,k,e2⟩:=cz b _ d.2 h.2 (j-a.size) (by simp[Ty.size] at g;omega)
  refine⟨v,?_,e2⟩
  rw[<-k];congr 1;omega
theorem mH {H:Imm}:∀(a:Ty) (off:Nat) (t:Ty) (d:a.Data) (x:t.Data) (f:Nat->Option Value),a.sub off t d=some x->a.rd H f d->t.rd H (fun j=>f (off+j)) x:=by
 have c:∀(a:Ty) (off:Nat) (t:Ty) (d:a.Data) (x:t.Data) (f:Nat->Option Value),(if off=0 then qg a t d else none)=some x->a.rd H f d->t.rd H (fun j=>f (off+j)) x:=by
  intro a off t d x f h g
  split at h
  rename_i e;subst e;obtain⟨e,rfl⟩:=kP h;rw[dA];simpa using g;cases h
 intro a
 induction a with
 |pair a b i l=>
  intro off t d x f h g;simp only[Ty.sub] at h
  split at h
  rename_i e;obtain⟨rfl,_⟩:=e;obtain⟨e,rfl⟩:=kP h;rw[dA];simpa using g
  split at h
  exact i off t d.1 x f h g.1;rename_i m;have:=l (off-a.size) t d.2 x _ h g.2;refine t.rd_congr _ _ x (fun j _=> ?_) this;congr 1;omega
 |int=>intro off t d x f h g;exact c .int off t d x f (by simpa[Ty.sub] using h) g
 |bool=>intro off t d x f h g;exact c .bool off t d x f (by simpa[Ty.sub] using h) g
 |uint k=>intro off t d x f h g;exact c (.uint k) off t d x f (by simpa[Ty.sub] using h) g
 |unit=>intro off t d x f h g;exact c .unit off t d x f (by simpa[Ty.sub] using h) g
 |slice s _=>intro off t d x f h g;exact c (.slice s) off t d x f (by simpa[Ty.sub] using h) g
 |map k u _ _=>intro off t d x f h g;exact c (.map k u) off t d x f (by simpa[Ty.sub] using h) g
 |ptr s _=>intro off t d x f h g;exact c (.ptr s) off t d x f (by simpa[Ty.sub] using h) g
theorem AD {P:Program} {ρ:Env}:∀(t:Ty) (d:t.Data) (us:List Value),us.length=t.size->t.rd ρ.H (fun i=>us[i]?) d->SV.denL P ρ (G3 t d) us/\∀u∈us,u.oneCell'=true:=by
 have g:∀(t:Ty) (d:t.Data) (us:List Value),t.agg=false->us.length=t.size->t.rd ρ.H (fun i=>us[i]?) d->SV.denL P ρ [.dat t d] us/\∀u∈us,u.oneCell'=true:=by
  intro t d us p c h;have z:t.size=1:=by cases t<;>simp_all [Ty.size,Ty.agg]
  rw[z] at c
  match us,c with
  |[u],_=>
   have o:t.rd ρ.H (fun _=>some u) d:=aY (f:=fun i=>[u][i]?) p (by simp) h;obtain⟨v,n,e2⟩:=cz t _ d o 0 (by omega);simp at n;subst n;exact⟨by simp only[SV.denL];exact⟨u,[],rfl,vz p o,rfl⟩,fun x q=>by simp at q;subst q;exact e2⟩
 intro t
 induction t with
 |unit=>intro d us c _;simp[Ty.size] at c;subst c;exact⟨by simp[G3,SV.denL],fun u c=>by simp at c⟩
 |pair a b l m=>
  intro d us c h;simp only[Ty.size] at c;have e:us=us.take a.size++us.drop a.size:=(zV _ _).symm;obtain⟨r,s⟩:=l d.1 (us.take a.size) (by simp;omega) (a.rd_congr _ _ _ (fun i hi=>by rw[jU hi]) h.1);obtain⟨w,y⟩:=m d.2 (us.drop a.size) (by simp;omega) (b.rd_congr _ _ _ (fun i hi=>by rw[zi]) h.2);refine⟨by rw[e];exact yI _ _ _ _ r w,fun u j=> ?_⟩;rw[e] at j;rcases ju.1 j with j|j;exact s u j;exact y u j
 |int=>intro d us c h;exact g .int d us rfl c h
 |bool=>intro d us c h;exact g .bool d us rfl c h
 |uint k=>intro d us c h;exact g (.uint k) d us rfl c h
 |slice t _=>intro d us c h;exact g (.slice t) d us rfl c h
 |map k u _ _=>intro d us c h;exact g (.map k u) d us rfl c h
 |ptr t _=>intro d us c h;exact g (.ptr t) d us rfl c h
section
variable {P:Program} {B:qw} {C:Ctx} {σ:St} {ρ:Env} {w:World} {o:Oper} {ev:Operand->Value} {out:Out}
theorem Di (i:Sat P B ρ σ.obj w) {kt vt:Ty} {sv:SV} {l:List (kt.Data×vt.Data)} (h:Y1 σ kt vt sv=some l) {v:Value} (c:SV.den P ρ sv v):
 (v= .map none/\l=[])\/∃b es clock,v= .map (some b)/\w.heap[b]? =some (.map es clock)/\mE ρ.H kt vt es clock l:=by
 unfold Y1 at h
 split at h
 obtain⟨e,rfl⟩:=kP h;subst e;simp only[SV.den] at c;obtain⟨p,r,u,x⟩:=w5 rfl c;simp at r;subst r;cases p with
 |none=>exact .inl ⟨rfl,u rfl⟩
 |some b=>
  obtain⟨es,clock,a,e2⟩:=x b rfl;exact .inr ⟨b,es,clock,rfl,i.good.1 b _ a,e2⟩
 rename_i o
 split at h
 rename_i fz d f l' j;obtain⟨e,rfl⟩:=kP h;obtain⟨p,m,g⟩:=i.obs o _ j;simp only[w7] at g;obtain⟨b,C,es,clock,rfl,n,q,z⟩:=g;simp only[SV.den] at c;obtain⟨t,C',a,rfl⟩:=c _ m;simp at a;obtain⟨rfl,rfl⟩:=a;have a:d=kt:=(by injection e);have e2:f=vt:=(by injection e);subst a;subst e2;exact .inr ⟨b,es,clock,rfl,n,q⟩;rename_i d f l' k s j;obtain⟨e,rfl⟩:=kP h;obtain⟨p,m,g⟩:=i.obs o _ j;simp only[w7] at g;obtain⟨b,C,es,clock,rfl,n,q,z,_⟩:=g;simp only[SV.den] at c;obtain⟨t,C',a,rfl⟩:=c _ m;simp at a;obtain⟨rfl,rfl⟩:=a;have a:d=kt:=(by injection e);have e2:f=vt:=(by injection e);subst a;subst e2;exact .inr ⟨b,es,clock,rfl,n,q⟩;cases h
 split at h
 rename_i y;simp at h;subst h;simp only[SV.den] at c;subst c;exact .inl ⟨jbn y,rfl⟩;cases h;cases h
theorem Vg {o:Nat} (h:CW σ o=true):∃x,σ.obj o=some x:=by
 unfold CW at h
 split at h
 exact⟨_,by assumption⟩;cases h
theorem yR (a:Sat P B ρ σ.obj w) {o:Nat} (h:CW σ o=true):∃p,ρ.blk o=some p:=by
 obtain⟨x,c⟩:=Vg h;obtain⟨p,b,_⟩:=a.obs o x c;exact⟨p,b⟩
theorem pR (r:Sat P B ρ σ.obj w) {sv:SV} {cs:List SV} (h:cells σ sv=some cs) {v:Value} (c:SV.den P ρ sv v):
 SV.denL P ρ cs v.cells.toList/\∀u∈v.cells.toList,u.oneCell'=true:=by
 have one:∀(sv:SV),SV.den P ρ sv v->(∀vs,v≠.agg vs)->(∀vs,v≠.tuple vs)->SV.denL P ρ [sv] v.cells.toList/\∀u∈v.cells.toList,u.oneCell'=true:=by
  intro sv L G H;have e:v.cells= #[v]:=by cases v<;>simp_all [Value.cells]
  rw[e];refine⟨by simp only[SV.denL];exact⟨v,[],rfl,L,rfl⟩,fun u I=> ?_⟩;simp at I;subst I;cases u<;>simp_all [Value.oneCell']
 unfold cells at h
 split at h
 cases h;cases h;cases h;simp at h;subst h;simp only[SV.den] at c;obtain⟨vs,rfl,G,H⟩:=c;exact⟨G,H⟩;rename_i t d;simp at h;subst h;simp only[SV.den] at c;exact AD t d _ (by simpa using c.2.1) (t.rd_congr _ _ _ (fun i _=>by simp) c.2.2);cases h;cases h
 split at h
 rename_i j;simp at h;subst h;obtain⟨p,l⟩:=yR r j;have a:=c;simp only[SV.den] at a;obtain⟨b,C,_,rfl⟩:=a p l;exact one _ c (by simp) (by simp);cases h
 split at h
 rename_i j;simp at h;subst h;obtain⟨p,l⟩:=yR r j;have a:=c;simp only[SV.den] at a;have:=a p l;cases p with
 |none=>obtain⟨rfl,_⟩:=this;exact one _ c (by simp) (by simp)
 |some q=>obtain⟨rfl,_⟩:=this;exact one _ c (by simp) (by simp)
 cases h
 split at h
 rename_i j;simp at h;subst h;obtain⟨p,l⟩:=yR r j;have a:=c;simp only[SV.den] at a;have:=a p l;cases p with
 |none=>obtain⟨rfl,_⟩:=this;exact one _ c (by simp) (by simp)
 |some q=>obtain⟨_,_,rfl,_⟩:=this;exact one _ c (by simp) (by simp)
 cases h
 split at h
 rename_i j;simp at h;subst h;obtain⟨p,l⟩:=yR r j;have a:=c;simp only[SV.den] at a;obtain⟨_,_,_,_,rfl⟩:=a p l;exact one _ c (by simp) (by simp);cases h
 split at h
 rename_i j;simp at h;subst h;obtain⟨p,l⟩:=yR r j;have a:=c;simp only[SV.den] at a;obtain⟨_,_,_,rfl⟩:=a p l;exact one _ c (by simp) (by simp);cases h
 split at h
 rename_i j;simp at h;subst h;obtain⟨p,l⟩:=yR r j;have a:=c;simp only[SV.den] at a;obtain⟨_,_,_,rfl⟩:=a p l;exact one _ c (by simp) (by simp);cases h
 split at h
 rename_i j;simp at h;subst h;obtain⟨p,l⟩:=yR r j;have a:=c;simp only[SV.den] at a;obtain⟨_,_,_,u,⟨_,_,J,_⟩,z⟩:=a p l
 split at z
 subst z;subst J;exact one _ c (by simp) (by simp);obtain⟨_,rfl,_⟩:=z;exact one _ c (by simp) (by simp);cases h;simp at h;subst h;cases sv with
 |ep t d=>have a:=c;simp only[SV.den] at a;obtain⟨_,_,_,rfl,_⟩:=a;exact one _ c (by simp) (by simp)
 |fn ps rs pre F=>have a:=c;simp only[SV.den] at a;obtain⟨_,_,rfl,_⟩:=a;exact one _ c (by simp) (by simp)
 |fnp ps rs pre F=>have a:=c;simp only[SV.den] at a;obtain⟨_,_,rfl,_⟩:=a;exact one _ c (by simp) (by simp)
 |clo f caps=>have a:=c;simp only[SV.den] at a;obtain⟨_,rfl,_⟩:=a;exact one _ c (by simp) (by simp)
 |lit u=>
  have a:=c;simp only[SV.den] at a;subst a;exact one _ c (fun vs e=>by subst e;simp_all) (fun vs e=>by subst e;simp_all)
 |any=>simp_all
 |fcl t d=>simp_all;exact absurd HEq.rfl (‹∀(g:Ty) (m:List g.Data),t=g->¬HEq d m› t d rfl)
 |dat t d=>simp_all;exact absurd HEq.rfl (‹∀(g:Ty) (m:g.Data),t=g->¬HEq d m› t d rfl)
 |bp o k=>simp_all
 |own o t=>simp_all
 |osl o t lo n=>simp_all;exact absurd rfl (‹∀(s:Nat) (g:Ty) (x E:Nat),o=s->t=g->lo=x->¬n=E› o t lo n rfl rfl rfl)
 |rp o t i k=>simp_all;exact absurd rfl (‹∀(s:Nat) (g:Ty) (A D:Nat),o=s->t=g->i=A->¬k=D› o t i k rfl rfl rfl)
 |mp o=>simp_all
 |ip o=>simp_all
 |fe q o T st ps rs pre K=>rename_i y;exact(y _ _ _ _ _ _ _ _ rfl).elim
 |agg cs=>simp_all
 |tup cs=>simp_all
theorem yn {ti:TI} (f:ti.ok P) {b off:Nat} {vs:Array Value} {T:Nat} {h:Nat×Nat} (g:w.heap[b]? =some (.cells vs T h)):
 (ti.agg=true->off+ti.size<=vs.size->(loadVar ti.id ⟨b,off,none⟩).run P w= .ok (.agg ((vs.toList.drop off).take ti.size).toArray) w)/\
 (ti.agg=false->∀v,vs[off]? =some v->(loadVar ti.id ⟨b,off,none⟩).run P w= .ok v w):=by
 obtain⟨i,z,_,_,_,d,_⟩:=gU f;have e:=KL f;refine⟨fun c m=> ?_,fun c v l=> ?_⟩;have k:((vs.toList.drop off).take ti.size).length=ti.size:=(by simp;omega);have:=run_loadCells_list (P:=P) w ⟨b,off,none⟩ ((vs.toList.drop off).take ti.size) (fun j v a=>by
  rw[gV,Dh g];rw[zY] at a
  split at a
  simpa using a;cases a)
 rw[k] at this;simp only[loadVar,jC,e,c,js,if_true,d,this];rfl;have:w.cell? ⟨b,off,none⟩=some v:=(by rw[Dh g];exact l);simp only[loadVar,jC,e,c,js];simp[load,Sem.run,this]
end
end Go.X
namespace Go.X
open Go.RowKit (Below)
section
variable {P:Program} {B:qw} {C:Ctx} {σ:St} {ρ:Env} {w:World} {o:Oper} {ev:Operand->Value} {out:Out}
def u9 (obj:Nat->Option Ob) (d:Nat) (x:Option Ob):Nat->Option Ob:=fun o=>if o=d then x else obj o
theorem Cw {w:World} {o:Nat} {b f:Nat} {x:Ob} (c:w7 P ρ w o (some (b,f)) x):b<w.heap.size:=by
 cases x with
 |box T fz cs=>simp only[w7] at c;obtain⟨d,C',e,a,e2,_⟩:=c;simp at a;rw[a.1];exact(jw.1 e2).1
 |row E t fz nl l=>simp only[w7] at c;obtain⟨_,_,_,e,e2,_⟩:=c;exact(jw.1 e2).1
 |map fz kt vt l=>simp only[w7] at c;obtain⟨d,C',es,clock,a,e2,_⟩:=c;simp at a;rw[a.1];exact(jw.1 e2).1
 |iter kt vt left cur=>simp only[w7] at c;obtain⟨d,C',y,a,e2,_⟩:=c;simp at a;rw[a.1];exact(jw.1 e2).1
 |mape kt vt l k s=>simp only[w7] at c;obtain⟨d,C',es,clock,a,e2,_⟩:=c;simp at a;rw[a.1];exact(jw.1 e2).1
theorem Ip {obj:Nat->Option Ob} (f:Sat P B ρ obj w) {d:Nat} (N:obj d=none) (O:vJ obj d) (y:Obj) (A len:Nat) (x:Ob)
 (Q:∀a:Env,a.H=ρ.H->a.len d=len->ρ.le a [d]->w7 P a (w.alloc y) d (some (w.heap.size,A)) x):
 ∃a,Sat P B a (u9 obj d (some x)) (w.alloc y)/\ρ.le a [d]/\a.blk d=some (some (w.heap.size,A))/\a.len d=len/\a.H=ρ.H:=by
 have L:=f.dead d N;have K:ρ.H w.heap.size=none:=by
  cases M:ρ.H w.heap.size with
  |none=>rfl
  |some c=>have:=f.good.lt M;omega
 let a:Env:={H:=ρ.H,blk:=fun o=>if o=d then some (some (w.heap.size,A)) else ρ.blk o,len:=fun o=>if o=d then len else ρ.len o}
 have q:ρ.le a [d]:=⟨fun _ _ h=>h,fun o p l r=>by simpa[a,show o≠d by simpa using l] using r,fun o l=>by simp[a,show o≠d by simpa using l]⟩;have i:∀b,b<w.heap.size->(w.alloc y).heap[b]? =w.heap[b]? :=fun b s=>heap_alloc_old w _ b s
 refine⟨a,⟨f.os,f.tape,f.output,f.drawn,by simp;have:=f.size;omega,?_,f.oldH,?_,?_,?_,?_,?_⟩,q,by simp[a],by simp[a],rfl⟩;refine⟨fun b c s=> ?_,f.good.2⟩;rw[i b (f.good.lt s)];exact f.good.1 b c s;intro b s D;have:=f.size;rw[i b (by omega)];exact f.old b s D;intro o G g;unfold u9 at g;by_cases e:o=d;subst e;rw[jd rfl] at g;simp at g;subst g;exact⟨_,by simp[a],Q a rfl (by simp[a]) q⟩;rw[jc e] at g;obtain⟨p,r,v⟩:=f.obs o G g;refine⟨p,by simp[a,e,r],wE q (by simpa using e) (fun T fz cs E o' u=> ?_) (fun b C F=>⟨rfl,?_⟩) v⟩;simp at u;subst u;exact O o T fz cs (by rw[g,E]);subst F;refine i b ?_;exact Cw v;intro o l;unfold u9 at l;by_cases e:o=d;rw[jd e] at l;cases l;rw[jc e] at l;simp[a,e,f.dead o l];intro o o' b z J j t;have lt:∀k I,ρ.blk k=some (some (b,I))->b<w.heap.size:=by
  intro k I hk;cases m:obj k with
  |none=>rw[f.dead k m] at hk;cases hk
  |some G=>
   obtain⟨p,r,v⟩:=f.obs k G m;rw[hk] at r;simp at r;subst r;exact Cw v
 by_cases n:o=d<;>by_cases e2:o'=d
 rw[n,e2];simp[a,n] at j;simp[a,e2] at t;have:=lt _ _ t;omega;simp[a,n] at j;simp[a,e2] at t;have:=lt _ _ j;omega;simp[a,n] at j;simp[a,e2] at t;exact f.inj o o' b z J j t;intro o b z j;by_cases n:o=d;simp[a,n] at j;have:=f.size;exact .inl (by omega);simp[a,n] at j;exact f.own o b z j
theorem Vh {obj:Nat->Option Ob} (c:Sat P B ρ obj w) {d:Nat} (e:obj d=none) (f:vJ obj d) (vs:Array Value) (T:Nat) (b len:Nat) (x:Ob)
 (g:∀a:Env,a.H=ρ.H->a.len d=len->ρ.le a [d]->w7 P a (w.alloc (.cells vs T)) d (some (w.heap.size,b)) x):
 ∃a,Sat P B a (u9 obj d (some x)) (w.alloc (.cells vs T))/\ρ.le a [d]/\a.blk d=some (some (w.heap.size,b))/\a.len d=len/\a.H=ρ.H:=
 Ip c e f (.cells vs T) b len x g
theorem ba (d:Sat P B ρ σ.obj w) {o b e:Nat} (h:ρ.blk o=some (some (b,e))):b<w.heap.size/\True:=by
 cases a:σ.obj o with
 |none=>rw[d.dead o a] at h;cases h
 |some g=>
  obtain⟨p,c,f⟩:=d.obs o g a;rw[h] at c;simp at c;subst c;exact⟨Cw f,trivial⟩
theorem mI (a:Sat P B ρ σ.obj w) {d b j:Nat} (q:ρ.blk d=some (some (b,j))) (C:ρ.H b=none) (x:Ob) {w':World}
 (s:w'.os=w.os/\w'.tape=w.tape/\w'.output=w.output/\w.drawn<=w'.drawn/\w'.heap.size=w.heap.size/\∀k,k≠b->w'.heap[k]? =w.heap[k]?)
 (E:w7 P ρ w' d (some (b,j)) x):Sat P B ρ (u9 σ.obj d (some x)) w':=by
 obtain⟨y,e2,z,l,A,m⟩:=s;refine⟨y.trans a.os,e2.trans a.tape,z.trans a.output,jF a.drawn l,by rw[A];exact a.size,?_,a.oldH,?_,?_,?_,a.inj,a.own⟩;refine⟨fun k c hk=> ?_,a.good.2⟩;have:k≠b:=fun e=>by subst e;rw[C] at hk;cases hk
 rw[m k this];exact a.good.1 k c hk;intro k hk g;have:k≠b:=fun e=>by
  subst e;rcases a.own d k j q with u|u;omega;exact g u
 rw[m k this];exact a.old k hk g;intro o F f;unfold u9 at f;by_cases e:o=d;subst e;rw[jd rfl] at f;simp at f;subst f;exact⟨_,q,E⟩;rw[jc e] at f;obtain⟨p,i,D⟩:=a.obs o F f;refine⟨p,i,wE (Env.le.refl ρ []) (by simp) (fun _ _ _ _ o' n=>by simp at n) (fun t C' r=>⟨rfl,?_⟩) D⟩;subst r;exact m t fun v=>e (a.inj o d t C' j i (v▸q))
 intro o h;unfold u9 at h;by_cases e:o=d;rw[jd e] at h;cases h;rw[jc e] at h;exact a.dead o h
theorem yb (σ:St) (d:Nat) (x:Option Ob):({σ with ob:=(d,x)::σ.ob}:St).obj=u9 σ.obj d x:=funext fun o=>by
 rw[yP];rfl
theorem Sm {E dst:Nat} (s:C.ok P) (g:o.op= .alloc E) (h:wd C σ dst (.alloc E)=some out) (m:Sat P B ρ σ.obj w)
 (x:σ.obj dst=none) (A:vJ σ.obj dst):wh P o ev w (wb P B ρ σ out):=by
 simp only[wd] at h
 split at h
 rename_i ti k;simp at h;subst h;obtain⟨rfl,d⟩:=s.ti _ _ k;obtain⟨i,z,_,_,_,_,F,f,_⟩:=gU d;have e:(execOp ev o).run P w= .ok (.value (.pointer (some ⟨w.heap.size,0,none⟩))) (w.alloc (.cells z.cells ti.id)):=by
  simp only[execOp,g,Instr.alloc,jC,F,js];simp[newVar,newRow]
 refine wU e ?_;obtain⟨b,n,q,r,_,_⟩:=Vh m x A z.cells ti.id 0 0 (.box ti.id false (ti.zero.map FT)) (fun b t _ y=>by
  refine⟨w.heap.size,0,z.cells,rfl,heap_alloc_new w _,?_,fun v D=>d.one v (by rw[<-f];exact D),?_⟩;rw[f];have:∀(l:List Value),SV.denL P b (l.map FT) l:=by
   intro l
   induction l with
   |nil=>simp[SV.denL]
   |cons a l G=>simp only[zg,SV.denL];exact⟨a,l,rfl,Dg a,G⟩
  exact this _;simp only[fzH,t];cases u:ρ.H w.heap.size with
  |none=>rfl
  |some c=>have:=m.good.lt u;omega)
 refine⟨b,?_,q,?_,trivial⟩;show Sat P B b ({σ with ob:=(dst,_)::(ao σ []++σ.ob)}:St).obj _;simp only[ao,j6];rw[yb];exact n;simp only[SV.den];intro p j;rw[r] at j;simp at j;subst j;exact⟨_,_,rfl,rfl⟩;cases h
theorem Zb {E dst:Nat} {x:Operand} (_:C.ok P) (j:o.op= .box E x) (h:wd C σ dst (.box E x)=some out) (f:Sat P B ρ σ.obj w) (g:SV.den P ρ (wx σ x) (ev x))
 (v:σ.obj dst=none) (y:vJ σ.obj dst) (a:∀cs,cells σ (wx σ x)=some cs->SV.refs.refsL dst cs=false):wh P o ev w (wb P B ρ σ out):=by
 simp only[wd] at h
 split at h
 rename_i ti z
 split at h
 rename_i cs d;simp at h;subst h;obtain⟨m,n⟩:=pR f d g;have e:(execOp ev o).run P w= .ok (.value (.pointer (some ⟨w.heap.size,0,none⟩))) (w.alloc (.cells (ev x).cells E)):=by
  simp[execOp,j,Instr.box,newVar,newRow]
 refine wU e ?_;obtain⟨b,q,r,s,_,_⟩:=Vh f v y (ev x).cells E 0 0 (.box E false cs) (fun b t _ i=>by
  refine⟨w.heap.size,0,_,rfl,heap_alloc_new w _,SV.denL_mono i cs _ (fun o l=>by simp at l;subst l;exact a cs d) m,n,?_⟩;simp only[fzH,t];cases u:ρ.H w.heap.size with
  |none=>rfl
  |some c=>have:=f.good.lt u;omega)
 refine⟨b,?_,r,?_,trivial⟩;show Sat P B b ({σ with ob:=(dst,_)::(ao σ []++σ.ob)}:St).obj _;simp only[ao,j6];rw[yb];exact q;simp only[SV.den];intro p k;rw[s] at k;simp at k;subst k;exact⟨_,_,rfl,rfl⟩;cases h;cases h
theorem mJ {vs:Array Value} {off:Nat} {cs:List SV} (b:SV.denL P ρ cs vs.toList) {v:SV} (h:cs[off]? =some v):∃u,vs[off]? =some u/\SV.den P ρ v u:=by
 obtain⟨u,a,e2⟩:=QQ cs _ b off v h;exact⟨u,by simpa using a,e2⟩
theorem N5 {t:Ty} {x:Option t.Data} {v:Value} (h:SV.den P ρ (.dat (.ptr t) x) v) (e:x.isSome=true):SV.den P ρ (.ep t (wg t.dflt x)) v:=by
 cases x with
 |none=>cases e
 |some d=>
  simp only[SV.den] at h⊢;obtain⟨p,a,b,off,blk,rfl,c,e2⟩:=w5 (t:= .ptr t) rfl h;simp at a;subst a;exact⟨b,off,blk,rfl,c,e2⟩
theorem Vi {U dst:Nat} {a:Operand} (hC:C.ok P) (hop:o.op= .load U a) (h:wd C σ dst (.load U a)=some out) (J:Sat P B ρ σ.obj w) (k:SV.den P ρ (wx σ a) (ev a)) (hvc:vI out.vc):
 wh P o ev w (wb P B ρ σ out):=by
 simp only[wd] at h
 split at h
 case h_2=>cases h
 rename_i ti hti;obtain⟨rfl,r⟩:=hC.ti _ _ hti;have q:∀(ad:Addr) (v:Value) (sv:SV),ev a= .pointer (some ad)->(loadVar ti.id ad).run P w= .ok v w->SV.den P ρ sv v->wh P o ev w (wb P B ρ σ (.pure sv)):=by
  intro ad v sv e hr hd;refine wU (v:=v) (w':=w) ?_ (qy J hd trivial);simp[execOp,hop,Instr.loadAt,Instr.sureAddr,e,hr]
 have stays:∀(t:Ty) (d:t.Data) (x:ti.ty.Data),SV.den P ρ (.ep t d) (ev a)->q8 ti.ty=true->qg t ti.ty d=some x->wh P o ev w (wb P B ρ σ (.pure (.dat ti.ty x))):=by
  intro t d x k hk G;obtain⟨e,rfl⟩:=kP G;subst e;simp only[SV.den] at k;obtain⟨b,off,c,A,e2,Q⟩:=k;obtain⟨T,fr,I⟩:=J.good.cells e2;obtain⟨O,ks⟩:=r.known hk;have m:=yn (off:=off) r I;cases n:ti.agg with
  |true=>
   have N:off+ti.size<=c.size:=by
    have X:=(r.pos hk).1;obtain⟨v,e,_⟩:=cz _ _ _ Q (ti.size-1) (by omega);have:=(jw.1 e).1;omega
   refine q _ _ _ A (m.1 n N) ?_;simp only[SV.den,gT];refine⟨by simp[vN,O,n],by simp[Value.cells,ks];omega,ti.ty.rd_congr _ _ _ (fun i hi=> ?_) Q⟩;simp only[Value.cells];simp[show i<ti.size by omega]
  |false=>
   obtain⟨v,e,_⟩:=cz _ _ _ Q 0 (by have:=(r.pos hk).1;omega);simp only[zM] at e;refine q _ _ _ A (m.2 n v e) ?_;simp only[SV.den,gT];exact vz (by rw[O,n]) (aY (f:=fun j=>c[off+j]?) (by rw[O,n]) (by simpa using e) Q)
 split at h
 .--a box
  rename_i ob off z;rw[z] at k
  split at h
  .rename_i T fz cs D;obtain⟨p,R,b,Cp,vs,rfl,I,L,h1,_⟩:=J.obs ob _ D;simp only[SV.den] at k;obtain⟨b',C',A,e2⟩:=k _ R;simp at A;obtain⟨rfl,rfl⟩:=A;have m:=yn (off:=off) r I;have W:=qx _ _ L
   split at h
   .rename_i ha
    split at h
    .rename_i hle;simp at h;subst h;have V:off+ti.size<=cs.length:=jB hle;refine q _ _ _ e2 (m.1 ha (by rw[<-zb,<-W];exact V)) ?_;simp only[SV.den];exact⟨_,rfl,by simpa using sL ti.size _ _ (fc off _ _ L),fun u Z=>h1 u (zZ (zO (by simpa using Z)))⟩
    .cases h
   .rename_i ha
    split at h
    .rename_i v hv;simp at h;subst h;obtain⟨u,Z,hd⟩:=mJ L hv;exact q _ _ _ e2 (m.2 ha u Z) hd
    .cases h
  .cases h
 .--memory that stays
  rename_i t d z;rw[z] at k
  split at h
  .rename_i x hk G;simp at h;subst h;exact stays t d x k hk G
  .cases h
 .--an element of a row of the call's own
  rename_i ob u i off z;rw[z] at k
  split at h
  .rename_i E t fz nl l D
   split at h
   .rename_i l' G;obtain⟨e,rfl⟩:=kP G;cases e;simp only[gT] at h
    split at h
    .rename_i x hk Y;simp at h;subst h;obtain⟨p,R,k1,k0,k2⟩:=J.obs ob _ D;simp only[SV.den] at k;obtain⟨hi,b,Cp,rfl,A⟩:=k p R;obtain⟨_,vs,I,hvs,hlC,_,hr,_⟩:=k2;obtain⟨O,ks⟩:=r.known hk;have S:l[i]? =some (@nth _ ⟨u.dflt⟩ l i):=by
      unfold nth;rw[za,jr (by omega)];simp
     have hrd:=mH u off ti.ty _ x _ Y (hr i _ S);have m:=yn (off:=i*u.size+off) r I;have s:ti.ty.rd ρ.H (fun j=>vs[i*u.size+off+j]?) x:=ti.ty.rd_congr _ _ _ (fun j _=>by simp only[zP]) hrd;cases n:ti.agg with
     |true=>
      have N:i*u.size+off+ti.size<=vs.size:=by
       have X:=(r.pos hk).1;obtain⟨v,e,_⟩:=cz _ _ _ s (ti.size-1) (by omega);have:=(jw.1 e).1;omega
      refine q _ _ _ A (m.1 n N) ?_;simp only[SV.den];refine⟨by simp[vN,O,n],by simp[Value.cells,ks];omega,ti.ty.rd_congr _ _ _ (fun i hi=> ?_) s⟩;simp only[Value.cells];simp[show i<ti.size by omega]
     |false=>
      obtain⟨v,e,_⟩:=cz _ _ _ s 0 (by have:=(r.pos hk).1;omega);simp only[zM] at e;refine q _ _ _ A (m.2 n v e) ?_;simp only[SV.den];exact vz (by rw[O,n]) (aY (f:=fun j=>vs[i*u.size+off+j]?) (by rw[O,n]) (by simpa using e) s)
    .cases h
   .cases h
  .cases h
 .--a listed package-level variable
  rename_i v z;rw[z] at k
  split at h
  case h_2=>cases h
  rename_i x D
  split at h
  .rename_i y hk G;simp at h;subst h;unfold jbf at D
   split at D
   .rename_i g;obtain⟨c,h1,h2⟩:=J.good.2 g x D;refine stays x.1 x.2 y ?_ hk G;simp only[SV.den] at k⊢;exact⟨g,0,c,k,h1,by simpa using h2⟩
   .cases D
  .cases h
 .--a pointer that is data
  rename_i t x z;rw[z] at k
  split at h
  .rename_i y hk G;simp at h;subst h;exact stays t _ y (N5 k hvc.1) hk G
  .cases h
 .--a variable that holds a function value
  rename_i ob T st ps rs pre K z;rw[z] at k
  split at h
  .rename_i n hl;simp at h;subst h;simp only[SV.den] at k;have D:∃x,σ.obj ob=some x:=by
    unfold CW at hl
    split at hl
    .exact⟨_,by assumption⟩
    .cases hl
   obtain⟨x,D⟩:=D;obtain⟨p,R,_⟩:=J.obs ob _ D;obtain⟨b,Cp,e,u,Z,b',A,e2⟩:=k p R;obtain⟨T',fr,I⟩:=J.good.cells e2;have m:=yn (off:=0) r I;refine q _ _ _ A (m.2 n u (by simp)) ?_;simp only[SV.den];intro p' M;rw[R] at M;simp at M;subst M;exact⟨b,Cp,e,u,Z,rfl⟩
  .cases h
 .--a function value in memory that stays
  rename_i ps rs pre F z;rw[z] at k
  split at h
  .rename_i n;simp at h;subst h;simp only[SV.den] at k;obtain⟨b,u,A,e2,Q⟩:=k;obtain⟨T',fr,I⟩:=J.good.cells e2;have m:=yn (off:=0) r I;refine q _ _ _ A (m.2 n u (by simp)) ?_;simp only[SV.den];exact Q
  .cases h
 .cases h
end
end Go.X
namespace Go.X
open Go.RowKit (Below)
section
variable {P:Program} {B:qw} {C:Ctx} {σ:St} {ρ:Env} {w:World} {o:Oper} {ev:Operand->Value} {out:Out}
theorem yi {sv:SV} {i:Int} (h:asInt sv=some i) {v:Value} (a:SV.den P ρ sv v):v= .int .i64 i:=by
 unfold asInt at h
 split at h
 simp at h;subst h;simp only[SV.den] at a;exact w6 a;cases h
theorem Hc {sv:SV} {i:Int} (h:QI sv=some i) {v:Value} (a:SV.den P ρ sv v):∃k,v= .int k i:=by
 unfold QI at h
 split at h
 simp at h;subst h;simp only[SV.den] at a;exact⟨_,yQ a⟩;cases h
theorem kN (b:Sat P B ρ σ.obj w) {sv:SV} {vc fact:List Prop} {v:Value} (a:(execOp ev o).run P w= .ok (.value v) w) (c:SV.den P ρ sv v) (d:vI fact):
 wh P o ev w (wb P B ρ σ ⟨vc,fact,sv,[],[],[]⟩):=wU a (qy b c d)
theorem iF {ti c:TI} (n:ti.ok P) (t:c.ok P) {f:Nat} {off h:Nat} (j:ti.fields[f]? =some (off,h)) (l:c.id=h) (a:Nat.beq c.size 0=false) (s:ti.agg=true) (u:ti.arr=false) (b k:Nat):
 (Instr.fieldAt ti.id (.pointer (some ⟨b,k,none⟩)) f).run P w= .ok (.pointer (some ⟨b,k+off,none⟩)) w:=by
 obtain⟨fs,q,_,r⟩:=n.str s u;obtain⟨fl,o,e2,p⟩:=r f (off,h) j;obtain⟨i,z,_,_,_,v,_⟩:=gU t;have m:¬c.size=0:=fun e=>by rw[e] at a;simp at a
 have g:fl.type=c.id:=(by rw[p,l]);have d:fl.offset=off:=e2;simp only[Instr.fieldAt,jC,jE q,js,o,Instr.sureAddr,jT,fieldPlace,g,v,m,if_false,d,gV]
theorem Sn {ti:TI} (_:ti.ok P) {f:Nat} {p:Nat×Nat} (a:ti.fields[f]? =some p) (b:ti.agg=false->ti.fields=[]):ti.agg=true:=by
 cases h:ti.agg with
 |true=>rfl
 |false=>rw[b h] at a;simp at a
theorem FY {U dst f:Nat} {x:Operand} (H:C.ok P) (D:o.op= .fieldAddr U x f) (h:wd C σ dst (.fieldAddr U x f)=some out) (G:Sat P B ρ σ.obj w) (g:SV.den P ρ (wx σ x) (ev x)) (O:vI out.vc):
 wh P o ev w (wb P B ρ σ out):=by
 simp only[wd] at h
 split at h
 case h_2=>cases h
 rename_i ti N;obtain⟨rfl,u⟩:=H.ti _ _ N
 split at h
 case h_2=>cases h
 rename_i off S m;obtain⟨m,s⟩:=KK m;have J:=Sn u m u.flf
 split at h
 .rename_i ob k F;rw[F] at g
  split at h
  .rename_i R a M;obtain⟨n,E⟩:=H.ti _ _ a
   split at h
   .cases h
   .rename_i r;simp at h;subst h;obtain⟨p,I⟩:=yR G M;have l:=g;simp only[SV.den] at l;obtain⟨b,K,rfl,e⟩:=l p I;refine kN G (v:= .pointer (some ⟨b,k+off,none⟩)) ?_ ?_ trivial
    .simp only[execOp,D,e,jC,iF u E m n r J s,js,jT]
    .simp only[SV.den];intro p' q;rw[I] at q;simp at q;subst q;exact⟨b,K,rfl,rfl⟩
  .cases h
 .rename_i ob t i k F;rw[F] at g
  split at h
  .rename_i R a M;obtain⟨n,E⟩:=H.ti _ _ a
   split at h
   .cases h
   .rename_i r;simp at h;subst h;obtain⟨p,I⟩:=yR G M;have l:=g;simp only[SV.den] at l;obtain⟨hi,b,K,rfl,e⟩:=l p I;refine kN G (v:= .pointer (some ⟨b,i*t.size+k+off,none⟩)) ?_ ?_ trivial
    .simp only[execOp,D,e,jC,iF u E m n r J s,js,jT]
    .simp only[SV.den];intro p' q;rw[I] at q;simp at q;subst q;exact⟨hi,b,K,rfl,by rw[zP]⟩
  .cases h
 .rename_i t d F;rw[F] at g
  split at h
  .rename_i R a;unfold Ctx.known at a
   split at a
   .rename_i A z
    split at a
    .rename_i hk;simp at a;subst a;obtain⟨n,E⟩:=H.ti _ _ z
     split at h
     .cases h
     .rename_i r
      split at h
      .rename_i y Q;simp at h;subst h;simp only[SV.den] at g;obtain⟨b,k,c,e,e2,L⟩:=g;refine kN G (v:= .pointer (some ⟨b,k+off,none⟩)) ?_ ?_ trivial
       .simp only[execOp,D,e,jC,iF u E m n r J s,js,jT]
       .simp only[SV.den];refine⟨b,k+off,c,rfl,e2,?_⟩;exact A.ty.rd_congr _ _ _ (fun j _=>by simp only[zP]) (mH t off A.ty d y _ Q L)
      .cases h
    .cases a
   .cases a
  .cases h
 .rename_i t x0 F;rw[F] at g
  split at h
  .rename_i R a;unfold Ctx.known at a
   split at a
   .rename_i A z
    split at a
    .rename_i hk;simp at a;subst a;obtain⟨n,E⟩:=H.ti _ _ z
     split at h
     .cases h
     .rename_i r
      split at h
      .rename_i y Q;simp at h;subst h;have g:=N5 g O.1;simp only[SV.den] at g;obtain⟨b,k,c,e,e2,L⟩:=g;refine kN G (v:= .pointer (some ⟨b,k+off,none⟩)) ?_ ?_ trivial
       .simp only[execOp,D,e,jC,iF u E m n r J s,js,jT]
       .simp only[SV.den];refine⟨b,k+off,c,rfl,e2,?_⟩;exact A.ty.rd_congr _ _ _ (fun j _=>by simp only[zP]) (mH t off A.ty _ y _ Q L)
      .cases h
    .cases a
   .cases a
  .cases h
 .cases h
theorem ql {U:Nat} {ti te:TI} (j:C.ok P) (h:C.slice U=some (ti,te)):
 ti.id=U/\te.id=ti.elem/\ti.ok P/\te.ok P/\P.underlying U=some (.slice ti.elem)/\te.ty.agg=te.agg/\te.ty.size=te.size/\0<te.size:=by
 unfold Ctx.slice at h
 split at h
 rename_i o f
 split at h
 rename_i a
 split at h
 rename_i n e
 split at h
 rename_i hk;simp at h;obtain⟨rfl,rfl⟩:=h;obtain⟨g,b⟩:=j.ti _ _ f;obtain⟨e2,c⟩:=j.ti _ _ e;obtain⟨d,i,_,_,_,k,_⟩:=b.flat (b.slf a);rw[k a,g] at i;obtain⟨l,m⟩:=c.known hk;exact⟨g,e2,b,c,i,l,m,(c.pos hk).1⟩;cases h;cases h;cases h;cases h
theorem oj {U:Nat} {ti:TI} (b:C.ok P) (h:C.known U=some ti):C.info U=some ti/\ti.id=U/\ti.ok P/\q8 ti.ty=true:=by
 unfold Ctx.known at h
 split at h
 rename_i t a
 split at h
 rename_i hk;simp at h;subst h;exact⟨a,(b.ti _ _ a).1,(b.ti _ _ a).2,hk⟩;cases h;cases h
theorem KM {U:Nat} {x H:Operand} {i:Int} (A:C.ok P) (r:o.op= .indexAddr U x H) (h:NW C U (wx σ x) i=some out) (O:Sat P B ρ σ.obj w)
 (a:SV.den P ρ (wx σ x) (ev x)) (m:ev H= .int .i64 i) (l:vI out.vc):wh P o ev w (wb P B ρ σ out):=by
 unfold NW at h
 split at h
 case h_2=>cases h
 rename_i ti z;obtain⟨_,p,q,R⟩:=oj A z
 split at h
 case h_2=>cases h
 rename_i off Y te T f u;obtain⟨_,D,F,E⟩:=oj A u;obtain⟨_,n,ie,J,K,L,M,_,_,N⟩:=q.arrk T;have G:=N _ _ f;simp at G;obtain⟨rfl,rfl⟩:=G
 split at h
 case h_2=>cases h
 rename_i t d V
 split at h
 case h_2=>cases h
 rename_i X Q
 split at h
 case h_2=>cases h
 rename_i y W;simp at h;subst h;obtain⟨e,rfl⟩:=kP Q;subst e;rw[V] at a;simp only[SV.den] at a;obtain⟨b,k,c,e,e2,I⟩:=a;simp only[vI] at l;have S:i.toNat<n:=(by rw[<-M];exact(jo.1 f).1);have g:i<n:=(by omega);have s:∀w,(sizeOf ti.elem).run P w= .ok 1 w:=fun w=>by simp[sizeOf,typeInfo,K,L]
 refine kN O (v:= .pointer (some ⟨b,k+i.toNat,none⟩)) ?_ ?_ trivial
 .simp only[execOp,r,e,m,Instr.indexAt,asIntOf,Instr.sureAddr,jC,jT,js,jE (p▸J)];simp[l.1,g,s,gV]
 .simp only[SV.den];refine⟨b,k+i.toNat,c,rfl,e2,?_⟩;exact te.ty.rd_congr _ _ _ (fun j _=>by simp only[zP]) (mH _ _ te.ty _ y _ W I)
theorem po {τ:St} (f:Sat P B ρ τ.obj w) {fz:List Nat} (e:Frz σ τ fz) {t:Ty} (g:t.agg=false):∀(cs:List SV) (l:List t.Data) (vs:List Value),sH σ t cs=some l->SV.denL P ρ cs vs->l.length=vs.length/\∀(i:Nat) x,l[i]? =some x->t.rd ρ.H (fun _=>vs[i]?) x
 |[],l,vs,h,a=>by
  simp[sH] at h;subst h
  simp[SV.denL] at a;subst a
  exact⟨rfl,fun i x b=>by simp at b⟩
 |c::cs,l,vs,h,a=>by
  simp only[sH] at h
  split at h
  case h_2=>cases h
  rename_i d l' n p
  simp at h;subst h
  simp only[SV.denL] at a
  obtain⟨v,r,rfl,k,m⟩:=a
  obtain⟨j,e2⟩:=po f e g cs l' r p m
  refine⟨by simp[j],fun i x b=> ?_⟩
  cases i with
  |zero=>simp at b;subst b;simpa using AB f e g n (fun o q=>by simp at q) k
  |succ i=>simpa using e2 i x (by simpa using b)
theorem So {U:Nat} {x:Operand} {lo hi:Option Operand} (O:C.ok P) (G:o.op= .slice U x lo hi none) (h:jca C σ U (wx σ x) lo hi=some out) (Z:Sat P B ρ σ.obj w)
 (e:SV.den P ρ (wx σ x) (ev x)):wh P o ev w (wb P B ρ σ out):=by
 unfold jca at h
 split at h
 case h_2=>cases h
 rename_i ti ob K hx;obtain⟨_,A,F,hkn⟩:=oj O K
 split at h
 case h_2=>cases h
 rename_i te T R cs hr J E;obtain⟨_,k,c,m⟩:=oj O J;obtain⟨_,n,ie,W,M,N,h4,t,Q,h5⟩:=F.arrk hr
 split at h
 case h_2=>cases h
 rename_i l hl D ha;simp at h;subst h;have D:=jb D;obtain⟨ρ1,d,q,u,hl1⟩:=wF (σ:=σ) [ob] Z;have r:(σ.frz [ob]).obj ob=some (.box T true cs):=(by rw[q9];simp[E,vi]);obtain⟨p,hp,b,Cp,vs,rfl,hw,f,X,Y⟩:=d.obs ob _ r;rw[hx] at e;simp only[SV.den] at e;obtain⟨b',C',L,e2⟩:=e _ (by rw[<-u];exact hp);simp at L;obtain⟨rfl,rfl⟩:=L;have g:=qx _ _ f;obtain⟨k1,k2⟩:=po d (v6 σ _) ha cs l _ hl f;have a:l.length=n:=(by rw[k1,<-g,D];exact t);have H:∀w,(sizeOf ti.elem).run P w= .ok 1 w:=fun w=>by simp[sizeOf,typeInfo,M,N]
 have I:te.ty.size=1:=by
  obtain⟨i,z,s,S,_⟩:=c.info;obtain⟨_,V⟩:=c.known m;rw[V,<-S];rw[k] at s;rw[M] at s;simp at s;rw[<-s,N]
 refine wU (v:= .slice (some ⟨b,0,none⟩) n n) (w':=w) ?_ ⟨ρ1,?_,q,?_,trivial⟩
 .simp only[execOp,G,e2,Instr.sliceAt,Instr.sureAddr,Instr.sliceBounds,Option.map_none,jC,jT,js,jE (A▸W)];simp[H,gV]
 .exact d
 .simp only[SV.den];refine vz rfl ⟨some ⟨b,0,none⟩,n,n,rfl,a.symm,jj _,?_,fun h=>by simp at h,fun _=>⟨b,0,vs,rfl,Y,fun i y hy=> ?_⟩⟩
  .rw[a];omega
  .refine te.ty.rd_congr _ _ _ (fun j hj=> ?_) (k2 i y hy);have:j=0:=(by omega);subst this;simp[I]
theorem FZ {U dst:Nat} {x J:Operand} (R:C.ok P) (A:o.op= .indexAddr U x J) (h:wd C σ dst (.indexAddr U x J)=some out) (u:Sat P B ρ σ.obj w)
 (g:SV.den P ρ (wx σ x) (ev x)) (m:SV.den P ρ (wx σ J) (ev J)) (f:vI out.vc):wh P o ev w (wb P B ρ σ out):=by
 simp only[wd] at h
 split at h
 case h_3=>cases h
 case h_2=>
  rename_i i F hi;exact KM R A h u g (yi hi m) f
 rename_i ti te i F hi;obtain⟨_,Q,_,z,H,hka,r,S⟩:=ql R F;have m:=yi hi m;obtain⟨_,_,_,_,_,G,_⟩:=gU z;rw[Q] at G;have k:∀(b off n c:Nat),ev x= .slice (some ⟨b,off,none⟩) n c->0<=i->i<n->
  (execOp ev o).run P w= .ok (.value (.pointer (some ⟨b,off+i.toNat*te.size,none⟩))) w:=by
  intro b off n c e Z h1;simp only[execOp,A,e,m,Instr.indexAt,asIntOf,jC,jT,js,jE H];simp[Z,h1,G,gV]
 split at h
 .rename_i t l I;rw[I] at g
  split at h
  .rename_i l' hc;simp at h;subst h;obtain⟨e,rfl⟩:=kP hc;cases e;simp only[gT,vI] at f⊢;have hr:=w5 (t:= .slice te.ty) rfl (by simpa[SV.den] using g);obtain⟨a,n,c,s,e2,V,W,e6,v⟩:=hr;simp at s;have L:l≠[]:=fun e=>by subst e;simp at f;omega
   obtain⟨b,off,blk,rfl,X,Y⟩:=v L;have y:i.toNat<l.length:=(by omega);refine kN u (k b off n c s f.1 (by omega)) ?_ trivial;simp only[SV.den];refine⟨b,off+i.toNat*te.size,blk,rfl,X,?_⟩;have:=Y i.toNat l[i.toNat] (jr y);have hn: @nth _ ⟨te.ty.dflt⟩ l i.toNat=l[i.toNat]:=by
    unfold nth;rw[za,jr y];rfl
   rw[hn,<-r];exact this
  .cases h
 .rename_i ob t I;rw[I] at g
  split at h
  .rename_i E t' fz nl l M;simp at h;subst h;simp only[vI] at f;obtain⟨p,D,k1,k0,k2⟩:=u.obs ob _ M;have d:=g;simp only[SV.den] at d;have d:=d p D;cases p with
   |none=>obtain⟨_,e⟩:=d;omega
   |some q=>
    obtain⟨b,K⟩:=q;obtain⟨s,e2⟩:=d;refine kN u (k b 0 _ _ s f.1 (by omega)) ?_ trivial;simp only[SV.den];intro p' j;rw[D] at j;simp at j;subst j;exact⟨by omega,b,K,rfl,by rw[<-r];simp⟩
  .cases h
 .rename_i ob t lo n I;rw[I] at g
  split at h
  .rename_i hl N;simp at h;subst h;simp only[vI] at f
   have O:t=te.ty:=by unfold bJ at N;split at N;·assumption
                      .cases N
   subst O;obtain⟨p,D⟩:=yR u hl;have d:=g;simp only[SV.den] at d;have d:=d p D;cases p with
   |none=>obtain⟨_,e⟩:=d;subst e;simp at f;omega
   |some q=>
    obtain⟨b,K⟩:=q;obtain⟨a,T,s,e2,V,W,v⟩:=d;have v:=v (.inr (by omega));subst v;refine kN u (k b _ _ _ s f.1 (by omega)) ?_ trivial;simp only[SV.den];intro p' j;rw[D] at j;simp at j;subst j;exact⟨by omega,b,K,rfl,by rw[<-r,zw];simp⟩
  .cases h
 .split at h
  .simp at h;subst h;exact absurd f.1 id
  .cases h
 .cases h
theorem Sp {U dst:Nat} {x:Operand} {lo hi:Option Operand} (hC:C.ok P) (hop:o.op= .slice U x lo hi none) (h:wd C σ dst (.slice U x lo hi none)=some out) (K:Sat P B ρ σ.obj w)
 (A:∀x,SV.den P ρ (wx σ x) (ev x)) (g:vI out.vc):wh P o ev w (wb P B ρ σ out):=by
 simp only[wd] at h
 split at h
 case h_1=>exact So hC hop h K (A x)
 rename_i ti te hsl;obtain⟨_,hte,_,Z,hund,hka,Q,hpos⟩:=ql hC hsl;obtain⟨_,_,_,_,_,J,_⟩:=gU Z;rw[hte] at J
 split at h
 case h_1=>cases h
 rename_i l hl;have F:∀(y:Option Operand) (d i:Int),NV σ y d=some i->(y=none/\i=d)\/(∃a,y=some a/\ev a= .int .i64 i):=by
  intro y d i z;unfold NV at z
  split at z
  .simp at z;exact .inl ⟨rfl,z.symm⟩
  .rename_i a;exact .inr ⟨a,rfl,yi z (A a)⟩
 have v:∀(a:Option Addr) (n c:Nat) (k:Int),ev x= .slice a n c->n<=c->((hi=none/\k=n)\/(∃a,hi=some a/\ev a= .int .i64 k))->0<=l->l<=k->k<=n->
  (execOp ev o).run P w= .ok (.value (.slice (if c=l.toNat then a else a.map (·.add (l.toNat*te.size))) (k.toNat-l.toNat) (c-l.toNat))) w:=by
  intro a n c k e hnc L V h1 h2;have hl':(lo=none/\l=0)\/(∃a,lo=some a/\ev a= .int .i64 l):=F lo 0 l hl;have notarr:∀m e,(TypeDesc.slice ti.elem)≠.array m e:=(by intro m e;simp);simp only[execOp,hop,e,Instr.sliceAt,jC,jE hund,js,Instr.slice,Instr.sliceBounds,Option.map_none,jT];rcases L with⟨rfl,rfl⟩|⟨ah,rfl,W⟩<;>rcases hl' with⟨rfl,rfl⟩|⟨al,rfl,X⟩
  .simp[J]
  .have:l.toNat<=n:=(by omega);simp[X,Instr.sliceBound,asIntOf,V,J,h1]
  .have h3:k<=(c:Int):=(by omega);have h4:0<=k:=(by omega);simp[W,Instr.sliceBound,asIntOf,h3,h4,J]
  .have h3:k<=(c:Int):=(by omega);have h4:0<=k:=(by omega);have h5:l<=(k.toNat:Int):=(by omega);simp[W,X,Instr.sliceBound,asIntOf,h3,h4,V,J];intro hbad;omega
 split at h
 .rename_i t xs T;have f:=A x;rw[T] at f
  split at h
  .rename_i xs' k hc z;simp at h;subst h;obtain⟨e,rfl⟩:=kP hc;cases e;simp only[gT,vI] at g⊢;have hr:=w5 (t:= .slice te.ty) rfl (by simpa[SV.den] using f);obtain⟨a,n,c,D,e2,e3,e4,e6,e5⟩:=hr;simp at D;have L:=F hi _ k z;have s:(hi=none/\k=(n:Int))\/(∃a,hi=some a/\ev a= .int .i64 k):=(by rw[e2];exact L);refine kN K (v a n c k D e3 s g.1 g.2.1 (by omega)) ?_ trivial;simp only[SV.den];refine vz rfl ?_;have Y:((xs.drop l.toNat).take (k.toNat-l.toNat)).length=k.toNat-l.toNat:=(by simp;omega);refine⟨_,_,_,rfl,Y.symm,by omega,by omega,fun hn=> ?_,fun S=> ?_⟩
   .have:a=none:=by
     split at hn
     .exact hn
     .simpa using hn
    have:=e6 this;omega
   have hpos':0<k.toNat-l.toNat:=by
    rcases zX (k.toNat-l.toNat) with V|V
    .rw[V] at S;simp at S
    .exact V
   obtain⟨b,off,blk,rfl,f2,f3⟩:=e5 (fun e=>by subst e;simp at S);refine⟨b,off+l.toNat*te.size,blk,?_,f2,fun i y hy=> ?_⟩
   .rw[jc (by omega)];simp[gV]
   .rw[zY] at hy
    split at hy
    .rw[zi] at hy;have:=f3 _ _ hy;refine te.ty.rd_congr _ _ _ (fun j _=> ?_) this;congr 1;rw[<-Q,zw];omega
    .cases hy
  .cases h
 .rename_i ob t T;have f:=A x;rw[T] at f
  split at h
  .rename_i E t' fz nl xs hob
   split at h
   .rename_i k z;simp at h;subst h;simp only[vI] at g;obtain⟨p,M,k1,k0,k2⟩:=K.obs ob _ hob;simp only[SV.den] at f;have f:=f p M;have L:=F hi _ k z;cases p with
    |none=>
     obtain⟨D,e2⟩:=f;obtain⟨e3,_⟩:=k2;subst e3;simp at g;have I:l=0:=(by omega);have H:k=0:=(by omega);subst I;subst H;have s:(hi=none/\(0:Int)=((0:Nat):Int))\/(∃a,hi=some a/\ev a= .int .i64 0):=by
      rcases L with⟨e,_⟩|e
      .exact .inl ⟨e,rfl⟩
      .exact .inr e
     refine kN K (v none 0 0 0 D (jj _) s (by omega) (by omega) (by simp)) ?_ trivial;simp only[SV.den];intro p' r;rw[M] at r;simp at r;subst r;simp
    |some q=>
     obtain⟨b,Cp⟩:=q;obtain⟨D,e2⟩:=f;have s:(hi=none/\k=((ρ.len ob:Nat):Int))\/(∃a,hi=some a/\ev a= .int .i64 k):=(by rw[k1];exact L);refine kN K (v _ _ _ k D e2 s g.1 g.2.1 (by omega)) ?_ trivial;simp only[SV.den];intro p' r;rw[M] at r;simp at r;subst r;by_cases G:Cp=l.toNat
     .refine⟨⟨b,0,none⟩,Cp-l.toNat,by rw[jd G],by omega,by omega,by omega,fun hor=> ?_⟩;have:l.toNat=0:=(by omega);simp[this]
     .refine⟨⟨b,l.toNat*te.size,none⟩,Cp-l.toNat,by rw[jc G];simp[gV],by omega,by omega,by omega,fun _=>by rw[Q]⟩
   .cases h
  .cases h
 .rename_i ob t lo' n T;have f:=A x;rw[T] at f
  split at h
  case h_2=>cases h
  rename_i k z hu R;simp at h;subst h;simp only[vI] at g;have hu:t=te.ty:=co hu;subst hu;obtain⟨p,M⟩:∃p,ρ.blk ob=some p:=by
   unfold CW at R
   split at R
   .rename_i x0 ho;obtain⟨p,M,_⟩:=K.obs ob x0 ho;exact⟨p,M⟩
   .cases R
  simp only[SV.den] at f;have f:=f p M;have L:=F hi _ k z;cases p with
  |none=>
   obtain⟨D,e2⟩:=f;subst e2;have I:l=0:=(by have:=g.1;have:=g.2.1;have:=g.2.2.1;omega);have H:k=0:=(by have:=g.1;have:=g.2.1;have:=g.2.2.1;omega);subst I;subst H;have s:(hi=none/\(0:Int)=((0:Nat):Int))\/(∃a,hi=some a/\ev a= .int .i64 0):=by
    rcases L with⟨e,_⟩|e
    .exact .inl ⟨e,rfl⟩
    .exact .inr e
   refine kN K (v none 0 0 0 D (jj _) s (by omega) (by omega) (by simp)) ?_ trivial;simp only[SV.den];intro p' r;rw[M] at r;simp at r;subst r;simp
  |some q=>
   obtain⟨b,Cp⟩:=q;obtain⟨a,O,D,e2,e3,e4,e5⟩:=f;have s:(hi=none/\k=((n:Nat):Int))\/(∃a,hi=some a/\ev a= .int .i64 k):=L;have hv1:=g.1;have hv2:=g.2.1;have hv3:k<=(n:Int):=g.2.2.1;refine kN K (v _ _ _ k D e2 s hv1 hv2 hv3) ?_ trivial;simp only[SV.den];intro p' r;rw[M] at r;simp at r;subst r;by_cases G:O=l.toNat
   .refine⟨a,O-l.toNat,by rw[jd G],by omega,by omega,by omega,fun hor=> ?_⟩;have h1:l.toNat=0:=(by omega);have h2:lo'=0:=(by omega);rw[e5 (.inl h2),h1,zM]
   .refine⟨⟨b,(lo'+l.toNat)*te.ty.size,none⟩,O-l.toNat,?_,by omega,by omega,by omega,fun _=>rfl⟩;rw[jc G,e5 (.inr (by omega)),Q];simp[gV,zw]
 .rename_i u T;have f:=A x;rw[T] at f
  split at h
  .rename_i k N z;simp at h;subst h;simp only[vI] at g;simp only[SV.den] at f;have D:ev x= .slice none 0 0:=(by rw[f,yz N]);have I:l=0:=(by omega);have H:k=0:=(by omega);subst I;subst H;have s:(hi=none/\(0:Int)=((0:Nat):Int))\/(∃a,hi=some a/\ev a= .int .i64 0):=by
    rcases F hi _ 0 z with⟨e,_⟩|e
    .exact .inl ⟨e,rfl⟩
    .exact .inr e
   refine kN K (v none 0 0 0 D (jj _) s (by omega) (by omega) (by simp)) ?_ trivial;simp only[SV.den];rw[yz N];simp
  .cases h
 .cases h
theorem N6 {U dst:Nat} {x hi q:Operand} (J:C.ok P) (k:o.op= .slice U x none (some hi) (some q)) (h:wd C σ dst (.slice U x none (some hi) (some q))=some out) (K:Sat P B ρ σ.obj w)
 (b:∀x,SV.den P ρ (wx σ x) (ev x)) (d:vI out.vc):wh P o ev w (wb P B ρ σ out):=by
 simp only[wd] at h
 split at h
 case h_2=>cases h
 rename_i ti te t xs G m l T N R
 split at h
 case h_2=>cases h
 rename_i V M;simp at h;subst h;obtain⟨e,rfl⟩:=kP M;cases e;simp only[gT,vI] at d⊢;obtain⟨_,p,_,f,i,O,Q,s⟩:=ql J l;obtain⟨_,_,_,_,_,g,_⟩:=gU f;rw[p] at g;have j:=b x;rw[T] at j;have u:=w5 (t:= .slice te.ty) rfl (by simpa[SV.den] using j);have S:=u;obtain⟨a,n,c,r,e2,A,D,F,E⟩:=u;simp at r;have y:=yi N (b hi);have z:=yi R (b q);have H:G=(n:Int):=(by rw[d.1,e2]);have I:m=(n:Int):=(by rw[d.2.1,e2]);rw[H] at y;rw[I] at z;refine kN K (v:= .slice a n n) ?_ ?_ trivial
 .simp only[execOp,k,r,Instr.sliceAt,jC,jE i,js,Instr.slice,Instr.sliceBounds,Option.map_none,Option.map_some,jT];simp[y,z,Instr.sliceBound,asIntOf,g,A];intro _;cases a<;>simp[Addr.add]
 .simp only[SV.den];exact⟨vz rfl ⟨a,n,n,rfl,e2,jj _,D,fun L=>by have:=F L;omega,E⟩,a,n,rfl⟩
theorem AE {cs new:List SV} {vs us:List Value} {off:Nat} (a:SV.denL P ρ cs vs) (b:SV.denL P ρ new us):SV.denL P ρ (Ie cs new off) (vs.take off++us++vs.drop (off+us.length)):=by
 unfold Ie;rw[<-qx _ _ b];exact yI _ _ _ _ (yI _ _ _ _ (sL off _ _ a) b) (fc _ _ _ a)
theorem mK {ti:TI} (c:ti.ok P) {b off:Nat} {vs:Array Value} {T:Nat} {v:Value} (g:w.heap[b]? =some (.cells vs T (0,0))) (a:v.cells.size=ti.size)
 (d:off+ti.size<=vs.size) (e:∀u∈v.cells.toList,u.oneCell'=true):
 (storeVar ti.id ⟨b,off,none⟩ v).run P w= .ok () (w.setRow b (vs.toList.take off++v.cells.toList++vs.toList.drop (off+ti.size)).toArray):=by
 obtain⟨_,_,_,_,_,f,_⟩:=gU c;have:=run_storeCells_at P b off T v.cells.toList 0 vs w g (by simp;omega) e;simp only[zM,zb,a] at this;simp[storeVar,f,a,this]
theorem bg (w:World) {b:Nat} {vs:Array Value} {T:Nat} (a:w.heap[b]? =some (.cells vs T (0,0))) (cs:Array Value):
 ((w.setRow b cs).os=w.os/\(w.setRow b cs).tape=w.tape/\(w.setRow b cs).output=w.output/\w.drawn<=(w.setRow b cs).drawn/\(w.setRow b cs).heap.size=w.heap.size/\∀k,k≠b->(w.setRow b cs).heap[k]? =w.heap[k]?)/\
 (w.setRow b cs).heap[b]? =some (.cells cs T (0,0)):=by
 refine⟨⟨rfl,rfl,rfl,jj _,by simp,fun k hk=>setRow_other w b k _ (by omega)⟩,setRow_heap w b vs _ T _ a⟩
theorem KN {H:Imm}:∀(a:Ty) (off:Nat) (t:Ty) (d:a.Data) (x:t.Data) (y:a.Data) (f g:Nat->Option Value),a.put off t d x=some y->a.rd H f d->t.rd H (fun j=>g (off+j)) x->
 (∀j,(j<off\/off+t.size<=j)->g j=f j)->a.rd H g y:=by
 have c:∀(a:Ty) (off:Nat) (t:Ty) (x:t.Data) (y:a.Data) (g:Nat->Option Value),(if off=0 then qg t a x else none)=some y->t.rd H (fun j=>g (off+j)) x->a.rd H g y:=by
  intro a off t x y g h i
  split at h
  rename_i e;subst e;obtain⟨e,rfl⟩:=kP h;rw[dA];simpa using i;cases h
 intro a
 induction a with
 |pair a b m n=>
  intro off t d x y f g h o i p;simp only[Ty.put] at h
  split at h
  rename_i e;obtain⟨rfl,e⟩:=e;obtain⟨w,rfl⟩:=kP h;rw[dA];simpa using i
  split at h
  rename_i q;simp only[kx] at h;obtain⟨z,l,rfl⟩:=h;have r:=put_fits a off t d.1 x z l;refine⟨m off t d.1 x z f g l o.1 i p,b.rd_congr _ _ _ (fun j _=> ?_) o.2⟩;exact(p _ (.inr (by omega))).symm;rename_i q;simp only[kx] at h;obtain⟨z,l,rfl⟩:=h;refine⟨a.rd_congr _ _ _ (fun j v=>(p j (.inl (by omega))).symm) o.1,?_⟩;refine n (off-a.size) t d.2 x z (fun j=>f (a.size+j)) (fun j=>g (a.size+j)) l o.2 (t.rd_congr _ _ _ (fun j _=>by congr 1;omega) i) (fun j v=>p _ ?_);omega
 |int=>intro off t d x y f g h _ i _;exact c .int off t x y g (by simpa[Ty.put] using h) i
 |bool=>intro off t d x y f g h _ i _;exact c .bool off t x y g (by simpa[Ty.put] using h) i
 |uint k=>intro off t d x y f g h _ i _;exact c (.uint k) off t x y g (by simpa[Ty.put] using h) i
 |unit=>intro off t d x y f g h _ i _;exact c .unit off t x y g (by simpa[Ty.put] using h) i
 |slice s _=>intro off t d x y f g h _ i _;exact c (.slice s) off t x y g (by simpa[Ty.put] using h) i
 |map k u _ _=>intro off t d x y f g h _ i _;exact c (.map k u) off t x y g (by simpa[Ty.put] using h) i
 |ptr s _=>intro off t d x y f g h _ i _;exact c (.ptr s) off t x y g (by simpa[Ty.put] using h) i
where
 put_fits:∀(a:Ty) (off:Nat) (t:Ty) (d:a.Data) (x:t.Data) (y:a.Data),a.put off t d x=some y->off+t.size<=a.size:=by
  have c:∀(a:Ty) (off:Nat) (t:Ty) (x:t.Data) (y:a.Data),(if off=0 then qg t a x else none)=some y->off+t.size<=a.size:=by
   intro a off t x y h
   split at h
   rename_i e;subst e;obtain⟨e,_⟩:=kP h;subst e;omega;cases h
  intro a
  induction a with
  |pair a b m n=>
   intro off t d x y h;simp only[Ty.put] at h
   split at h
   rename_i e;obtain⟨rfl,e⟩:=e;rw[<-e];omega
   split at h
   simp only[kx] at h;obtain⟨z,l,rfl⟩:=h;have:=m off t d.1 x z l;simp only[Ty.size];omega;simp only[kx] at h;obtain⟨z,l,rfl⟩:=h;have:=n (off-a.size) t d.2 x z l;simp only[Ty.size];omega
  |int=>intro off t d x y h;exact c .int off t x y (by simpa[Ty.put] using h)
  |bool=>intro off t d x y h;exact c .bool off t x y (by simpa[Ty.put] using h)
  |uint k=>intro off t d x y h;exact c (.uint k) off t x y (by simpa[Ty.put] using h)
  |unit=>intro off t d x y h;exact c .unit off t x y (by simpa[Ty.put] using h)
  |slice s _=>intro off t d x y h;exact c (.slice s) off t x y (by simpa[Ty.put] using h)
  |map k u _ _=>intro off t d x y h;exact c (.map k u) off t x y (by simpa[Ty.put] using h)
  |ptr s _=>intro off t d x y h;exact c (.ptr s) off t x y (by simpa[Ty.put] using h)
end
end Go.X
namespace Go.X
open Go.RowKit (Below)
section
variable {P:Program} {B:qw} {C:Ctx} {σ:St} {ρ:Env} {w:World} {o:Oper} {ev:Operand->Value} {out:Out}
theorem ff {U:Nat} {ti tk te:TI} (a:C.ok P) (h:C.mapT U=some (ti,tk,te)):
 ti.ok P/\tk.ok P/\te.ok P/\P.underlying U=some (.map tk.id te.id)/\tk.kq=true/\q8 te.ty=true:=by
 unfold Ctx.mapT at h
 split at h
 case h_2=>cases h
 rename_i m d
 split at h
 case h_2=>cases h
 rename_i b
 split at h
 case h_2=>cases h
 rename_i n l e c
 split at h
 case h_2=>cases h
 rename_i hk f;simp at h;obtain⟨rfl,rfl,rfl⟩:=h;obtain⟨g,o1⟩:=a.ti _ _ d;obtain⟨i,o2⟩:=a.ti _ _ e;obtain⟨j,k⟩:=a.ti _ _ c;refine⟨o1,o2,k,?_,hk,f⟩;have:=o1.mpf b;rw[g,<-i,<-j] at this;exact this
theorem sP {R:Value->World->Prop} {w':World} (h:(execOp ev o).run P w= .ok .skip w') (k:R undef w'):wh P o ev w R:=by
 unfold wh;rw[h];exact k
theorem yo {l:List Nat} {k:Nat} (h:aW l k=false):k∉l:=by
 induction l with
 |nil=>simp
 |cons j r b=>
  simp only[aW] at h
  split at h
  cases h;rename_i a;simp only[jk,not_or];exact⟨fun e=>wO a e.symm,b h⟩
theorem yc (v:Value):SV.den P ρ .any v:=by simp[SV.den]
theorem Sq {U dst:Nat} {a x:Operand} (hC:C.ok P) (V:o.op= .store U a x) (h:wd C σ dst (.store U a x)=some out) (hS:Sat P B ρ σ.obj w)
 (m:SV.den P ρ (wx σ a) (ev a)) (L:SV.den P ρ (wx σ x) (ev x)):wh P o ev w (wb P B ρ σ out):=by
 simp only[wd] at h
 split at h
 case h_2=>cases h
 rename_i ti hti;obtain⟨rfl,I⟩:=hC.ti _ _ hti
 split at h
 .rename_i ob off ha;rw[ha] at m
  split at h
  .rename_i T cs hx
   split at h
   .rename_i new S
    split at h
    .rename_i J s;simp at h;subst h;have J:=jb J;have s:=jB s;obtain⟨p,W,b,Cp,vs,rfl,X,K,h1,D⟩:=hS.obs ob _ hx;simp only[fzH] at D;simp only[SV.den] at m;obtain⟨b',C',e1,e2⟩:=m _ W;simp at e1;obtain⟨rfl,rfl⟩:=e1;obtain⟨g1,Z⟩:=pR hS S L;have Q:=qx _ _ K;have H:=qx _ _ g1;have f:(ev x).cells.size=ti.size:=(by rw[<-zb,<-H,J]);have n:=mK (P:=P) (off:=off) I X f (by rw[<-zb,<-Q];omega) Z;obtain⟨f1,f2⟩:=bg w X (vs.toList.take off++(ev x).cells.toList++vs.toList.drop (off+ti.size)).toArray;refine sP (by simp only[execOp,V,Instr.storeAt,Instr.sureAddr,e2,jC,jT,js,n];rfl) ?_;refine⟨ρ,?_,Env.le.refl _ _,yc _,trivial⟩;show Sat P B ρ ({σ with ob:=(ob,_)::(ao σ []++σ.ob)}:St).obj _;simp only[ao,j6];rw[yb];refine mI hS W D _ f1 ?_;refine⟨b,Cp,_,rfl,f2,?_,?_,by simpa[fzH] using D⟩
     .have:=AE (off:=off) K g1;simp only[zb,f] at this;simpa using this
     .intro u A;simp only[ju] at A;rcases A with(A|A)|A
      .exact h1 u (zO A)
      .exact Z u A
      .exact h1 u (zZ A)
    .cases h
   .cases h
  .cases h
 .rename_i ob u i off ha;rw[ha] at m
  split at h
  .rename_i E t nl l hx
   split at h
   .rename_i l' hc;obtain⟨e,rfl⟩:=kP hc;cases e;simp only[gT] at h
    split at h
    .rename_i d fz hk hd
     split at h
     .rename_i y hy hm;simp at h;subst h;have R:=yo hm;obtain⟨ρ1,F,v,hb1,hn1⟩:=wF (σ:=σ) fz hS;have hx1:(σ.frz fz).obj ob=some (.row E u false nl l):=(by rw[q9,jc R];exact hx);obtain⟨p,W,k1,k0,k2⟩:=F.obs ob _ hx1;simp only[SV.den] at m;obtain⟨hi,b,Cp,rfl,e2⟩:=m p (by rw[<-hb1];exact W);rw[<-hn1] at hi;obtain⟨k3,vs,X,hvs,hlC,hCm,hr,D⟩:=k2;simp only[fzH] at D;obtain⟨ka,ks⟩:=I.known hk;have q:=we F (v6 σ fz) hd (fun o ho=>ho) (SV.den_mono v _ _ (fun r hr=>by simp at hr) L);have f:(ev x).cells.size=ti.size:=(by rw[q.2.1,ks]);obtain⟨_,Z⟩:=AD (P:=P) (ρ:=ρ1) ti.ty d (ev x).cells.toList (by simpa using q.2.1) (ti.ty.rd_congr _ _ _ (fun i _=>by simp) q.2.2);have hfits:=KN.put_fits u off ti.ty _ d y hy;have hil:i<l.length:=(by omega);have hmul:i*u.size+u.size<=Cp*u.size:=(by rw[<-zl];exact jO _ (by omega));have n:=mK (P:=P) (off:=i*u.size+off) I X f (by rw[hvs];omega) Z;obtain⟨f1,f2⟩:=bg w X (vs.toList.take (i*u.size+off)++(ev x).cells.toList++vs.toList.drop (i*u.size+off+ti.size)).toArray;have g:∀k,(vs.toList.take (i*u.size+off)++(ev x).cells.toList++vs.toList.drop (i*u.size+off+ti.size)).toArray[k]? =
       if k<i*u.size+off then vs[k]? else if k<i*u.size+off+ti.size then(ev x).cells[k-(i*u.size+off)]? else vs[k]? :=by
       intro k;have O:(vs.toList.take (i*u.size+off)).length=i*u.size+off:=(by simp;omega);by_cases c1:k<i*u.size+off
       .rw[jd c1];simp only[zW,jJ];rw[jA (by omega),jU c1];simp
       .rw[jc c1];by_cases c2:k<i*u.size+off+ti.size
        .rw[jd c2];simp only[zW,jJ];rw[jx (by omega),O,jA (by simp[f];omega)];simp
        .rw[jc c2];simp only[zW,jJ];rw[jx (by omega),O,jx (by simp[f];omega),zi];simp only[zb,f,zr];congr 1;omega
      refine sP (by simp only[execOp,V,Instr.storeAt,Instr.sureAddr,e2,jC,jT,js,n];rfl) ?_;refine⟨ρ1,?_,v,yc _,trivial⟩;rw[j9,j6];show Sat P B ρ1 ({(σ.frz fz) with ob:=(ob,_)::(σ.frz fz).ob}:St).obj _;rw[yb];refine mI F W D _ f1 ?_;refine⟨by simpa using k1,by simpa using k0,fun hn=>by simpa using k3 hn,_,f2,?_,by simpa using hlC,hCm,?_,by simpa[fzH] using D⟩
      .simp only[List.size_toArray,jK,j0,kf,zb,f];omega
      .intro k z Y;rw[List.getElem?_set] at Y
       split at Y
       .rename_i G;subst G
        .simp at Y;subst Y;have M:l[i]? =some (@nth _ ⟨u.dflt⟩ l i):=by
          unfold nth;rw[za,jr (by omega)];simp
         refine KN u off ti.ty _ d y _ _ hy (hr i _ M) ?_ ?_
         .refine ti.ty.rd_congr _ _ _ (fun j N=> ?_) q.2.2;rw[g,jc (by omega),jd (by omega)];congr 1;omega
         .intro j N;rw[g];rcases N with N|N
          .rw[jd (by omega)]
          .rw[jc (by omega),jc (by omega)]
       .rename_i G;refine u.rd_congr _ _ _ (fun j N=> ?_) (hr k z Y);rw[g];rcases Nat.lt_or_gt_of_ne G with c|c
        .have:(i+1)*u.size<=k*u.size:=jO _ c;rw[zl] at this;rw[jc (by omega),jc (by omega)]
        .have:(k+1)*u.size<=i*u.size:=jO _ c;rw[zl] at this;rw[jd (by omega)]
     .cases h
    .cases h
   .cases h
  .cases h
 .cases h
theorem Iq {dst:Nat} {x:Operand} (g:o.op= .nilCheck x) (h:wd C σ dst (.nilCheck x)=some out) (j:Sat P B ρ σ.obj w) (f:SV.den P ρ (wx σ x) (ev x)) (l:vI out.vc):
 wh P o ev w (wb P B ρ σ out):=by
 simp only[wd] at h
 split at h
 rename_i ob off i;rw[i] at f
 split at h
 rename_i m;simp at h;subst h;obtain⟨p,n⟩:=yR j m;have a:=f;simp only[SV.den] at a;obtain⟨b,q,_,e⟩:=a p n;exact kN j (v:=ev x) (by simp[execOp,g,e]) f trivial;cases h;rename_i t d i;rw[i] at f;simp at h;subst h;have a:=f;simp only[SV.den] at a;obtain⟨b,k,c,e,_⟩:=a;exact kN j (v:=ev x) (by simp[execOp,g,e]) f trivial;rename_i t d i;rw[i] at f;simp at h;subst h;have f:=N5 f l.1;have a:=f;simp only[SV.den] at a;obtain⟨b,k,c,e,_⟩:=a;exact kN j (v:=ev x) (by simp[execOp,g,e]) f trivial;cases h
theorem Vj {dst T:Nat} {op:UnOp} {x:Operand} (d:o.op= .unOp op T x) (h:wd C σ dst (.unOp op T x)=some out) (g:Sat P B ρ σ.obj w) (c:SV.den P ρ (wx σ x) (ev x)) (e:vI out.vc):
 wh P o ev w (wb P B ρ σ out):=by
 simp only[wd] at h;cases op<;>simp only[reduceCtorEq] at h
 case not=>
  split at h
  .rename_i b f;simp at h;subst h;rw[f] at c;simp only[SV.den] at c;exact kN g (v:= .bool (!b)) (by simp[execOp,d,qJ c,Op.unary]) (y7 _) trivial
  .cases h
 case neg=>
  split at h
  .rename_i a f;simp at h;subst h;have:=yi f c;simp only[vI] at e;refine kN g (v:= .int .i64 (-a)) ?_ (y5 _) trivial;have i:IntKind.i64.wrap (-a)= -a:=gK e.1;simp[execOp,d,this,Op.unary,Op.intArith,i]
  .cases h
theorem Zc {a:Int} (b:0<=a) (c:a<=18446744073709551615):IntKind.u64.wrap a=a:=by
 unfold IntKind.wrap;simp[IntKind.signed,IntKind.bits];omega
theorem jck {a:Int} (b:0<=a) (c:a<=255):IntKind.u8.wrap a=a:=by
 unfold IntKind.wrap;simp[IntKind.signed,IntKind.bits];omega
theorem Zd {sv:SV} {i:Int} (h:jfX sv=some i) {v:Value} (a:SV.den P ρ sv v):∃k,v= .int k i:=by
 unfold jfX at h
 split at h
 simp at h;subst h;simp only[SV.den] at a;exact⟨_,w6 a⟩;simp at h;subst h;simp only[SV.den] at a;exact⟨_,yQ a⟩;cases h
theorem Sr {U dst:Nat} {x c:Operand} (j:C.ok P) (f:o.op= .index U x c) (h:wd C σ dst (.index U x c)=some out) (l:Sat P B ρ σ.obj w) (a:SV.den P ρ (wx σ x) (ev x))
 (d:SV.den P ρ (wx σ c) (ev c)) (b:vI out.vc):wh P o ev w (wb P B ρ σ out):=by
 simp only[wd] at h
 split at h
 case h_2=>cases h
 rename_i s i m n hi;simp at h;subst h;simp only[vI] at b;rw[n] at a;simp only[SV.den] at a;obtain⟨k,hi⟩:=Zd hi d;have e:i.toNat<s.size:=(by omega);refine kN l (v:= .int .u8 (aq s i.toNat)) ?_ (Df _ _) trivial;simp only[execOp,f,a,hi,jC,run_index_string _ _ _ _ _ (j.str _ m)];rw[dif_pos ⟨b.1,b.2.1⟩];simp only[js,jT];congr 3;unfold aq;have g:i.toNat<s.data.toList.length:=(by simpa using e);rw[za,jr g];rfl
theorem KO {V U dst:Nat} {x:Operand} (A:C.ok P) (t:o.op= .convert V U x) (h:wd C σ dst (.convert V U x)=some out) (q:Sat P B ρ σ.obj w) (l:SV.den P ρ (wx σ x) (ev x)) (b:vI out.vc):
 wh P o ev w (wb P B ρ σ out):=by
 simp only[wd] at h
 split at h
 case h_2=>cases h
 rename_i z ti y u;obtain⟨rfl,m⟩:=A.ti _ _ u;obtain⟨rfl,f⟩:=A.ti _ _ y;have I:∃d,P.underlying z.id=some d:=by
  cases D:z.agg with
  |true=>
   cases E:z.arr with
   |false=>obtain⟨fs,e,_⟩:=f.str D E;exact⟨_,e⟩
   |true=>obtain⟨_,n,ie,e,_⟩:=f.arrk E;exact⟨_,e⟩
  |false=>obtain⟨d,e,_⟩:=f.flat D;exact⟨_,e⟩
 obtain⟨F,s⟩:=I;have c:∀(k k':IntKind) (a:Int),P.underlying ti.id=some (.int k)->ev x= .int k' a->(execOp ev o).run P w= .ok (.value (.int k (k.wrap a))) w:=by
  intro k k' a H e;simp only[execOp,t,e,convert,jC,jE s,jE H,js];cases F<;>simp[Conv.intToInt]
 split at h
 .rename_i g i;obtain⟨d,j,_,_,_,_,G,_⟩:=m.flat g;rw[G i] at j
  split at h
  .rename_i a p;simp at h;subst h;simp only[vI] at b;refine kN q (v:= .int .i64 a) ?_ (y5 _) trivial;rw[c _ _ a j (yi p l),gK b.1]
  .split at h
   .rename_i a p;simp at h;subst h;simp only[vI] at b;obtain⟨k,e⟩:=Hc p l;refine kN q (v:= .int .i64 a) ?_ (y5 _) trivial;rw[c _ _ a j e,gK b.1]
   .cases h
 .rename_i g i;obtain⟨d,j,_,_,_,_,_,r⟩:=m.flat g;rw[r _ i] at j
  split at h
  .rename_i a p;simp at h;subst h;simp only[vI] at b;refine kN q (v:= .int .u64 a) ?_ (Df _ _) trivial;rw[c _ _ a j (yi p l),Zc b.1 b.2.1]
  .cases h
 .rename_i g i;obtain⟨d,j,_,_,_,_,_,r⟩:=m.flat g;rw[r _ i] at j
  split at h
  .rename_i a p;simp at h;subst h;simp only[vI] at b;obtain⟨k,e⟩:=Hc p l;refine kN q (v:= .int .u8 a) ?_ (Df _ _) trivial;rw[c _ _ a j e,jck b.1 b.2.1]
  .cases h
 .cases h
theorem dB {ev:Operand->Value} (a:∀x,SV.den P ρ (wx σ x) (ev x)):∀(l:List Operand),SV.denL P ρ (l.map (wx σ)) (l.map ev)
 |[]=>by simp[SV.denL]
 |x::l=>by simp only[zg,SV.denL];exact⟨ev x,l.map ev,rfl,a x,dB a l⟩
theorem Ir {dst:Nat} {f:Fn} {a caps:Array Operand} (d:o.op= .makeFunc f a caps) (h:wd C σ dst (.makeFunc f a caps)=some out) (g:Sat P B ρ σ.obj w)
 (b:∀x,SV.den P ρ (wx σ x) (ev x)):wh P o ev w (wb P B ρ σ out):=by
 simp only[wd] at h
 split at h
 rename_i e c;have c:a= #[]:=(by simpa using c);subst c;simp at h;subst h;refine kN g (v:= .func (.func e) #[] (caps.map ev)) (by simp[execOp,d,Instr.makeFunc]) ?_ trivial;simp only[SV.den];exact⟨_,rfl,by simpa using dB b caps.toList⟩;cases h
theorem KP {dst i:Nat} {x:Operand} (b:o.op= .extract x i) (h:wd C σ dst (.extract x i)=some out) (d:Sat P B ρ σ.obj w) (a:SV.den P ρ (wx σ x) (ev x)):
 wh P o ev w (wb P B ρ σ out):=by
 simp only[wd] at h
 split at h
 rename_i vs j;rw[j] at a
 split at h
 rename_i v g;simp at h;subst h;simp only[SV.den] at a;obtain⟨us,e,f⟩:=a;obtain⟨u,c,e2⟩:=mJ f g;exact kN d (v:=u) (by simp[execOp,b,e,Instr.extract,c]) e2 trivial;cases h;cases h
theorem Ze {c:Call} (L:C.ok P) (z:o.op= .call c) (D:c.callee= .builtin .len)
 (h:jb4 C σ c.args.toList c.argTypes.toList=some out) (u:Sat P B ρ σ.obj w) (g:∀x,SV.den P ρ (wx σ x) (ev x)):
 wh P o ev w (wb P B ρ σ out):=by
 unfold jb4 at h
 split at h
 case h_2=>cases h
 rename_i x U i j
 split at h
 case h_2=>cases h
 case h_3=>
  split at h
  case h_2=>cases h
  rename_i ti tk te F
  split at h
  case h_2=>cases h
  rename_i l Q;simp at h;subst h;have i:c.args= #[x]:=(by rw[<-jL];exact i);have j:c.argTypes= #[U]:=(by rw[<-jL];exact j);obtain⟨_,_,_,r,_⟩:=ff L F;rcases Di u Q (g x) with⟨e,rfl⟩|⟨b,es,clock,e,s,e2⟩
  .exact kN u (v:= .int .i64 0) (by simp[execOp,z,D,i,j,resolve,invoke,builtin,e,Builtin.len_,jE r,goInt]) (y5 _) trivial
  .refine kN u (v:= .int .i64 l.length) ?_ (y5 _) trivial;have O:(getObj b).run P w= .ok (.map es clock) w:=(by simp[getObj,Sem.run,s]);simp[execOp,z,D,i,j,resolve,invoke,builtin,e,Builtin.len_,jE r,goInt,O,e2.1]
 rename_i te f n H d;simp at h;subst h;have i:c.args= #[x]:=(by rw[<-jL];exact i);have j:c.argTypes= #[U]:=(by rw[<-jL];exact j);have g:=g x;obtain⟨_,_,_,_,r,_⟩:=ql L H;have k:∀(a:Option Addr) (m c:Nat),ev x= .slice a m c->(execOp ev o).run P w= .ok (.value (.int .i64 m)) w:=by
  intro a m c e;simp[execOp,z,D,i,j,resolve,invoke,builtin,e,Builtin.len_,jE r,goInt]
 unfold lenOf at d
 split at d
 .rename_i t l A;simp at d;obtain⟨rfl,rfl⟩:=d;rw[A] at g;have S:=w5 (t:= .slice t) rfl (by simpa[SV.den] using g);obtain⟨a,m,c,s,e2,N,K,_⟩:=S;simp at s;exact kN u (v:= .int .i64 l.length) (by rw[k a m c s,e2]) (y5 _) ⟨K,trivial⟩
 .rename_i ob t A
  split at d
  .rename_i E V fz nl l y;simp at d;obtain⟨rfl,rfl⟩:=d;rw[A] at g;obtain⟨p,G,J,I,X⟩:=u.obs ob _ y;simp only[SV.den] at g;have g:=g p G;cases p with
   |none=>
    obtain⟨s,e2⟩:=g;exact kN u (v:= .int .i64 l.length) (by rw[k _ _ _ s,<-J,e2]) (y5 _) ⟨I,trivial⟩
   |some q=>
    obtain⟨s,e2⟩:=g;exact kN u (v:= .int .i64 l.length) (by rw[k _ _ _ s,J]) (y5 _) ⟨I,trivial⟩
  .cases d
 .rename_i ob t lo m A
  split at d
  .rename_i E V fz nl l y;simp at d;obtain⟨rfl,rfl⟩:=d;rw[A] at g;obtain⟨p,G,T⟩:=u.obs ob _ y;simp only[SV.den] at g;have g:=g p G;cases p with
   |none=>
    obtain⟨s,e2⟩:=g;exact kN u (v:= .int .i64 m) (by rw[k _ _ _ s,e2]) (y5 _) ⟨by rw[e2];decide,trivial⟩
   |some q=>
    obtain⟨b,W⟩:=q;obtain⟨a,M,s,e2,N,K,_⟩:=g;have:m<4611686018427387904:=by
     obtain⟨J,I,_⟩:=T;omega
    exact kN u (v:= .int .i64 m) (by rw[k _ _ _ s]) (y5 _) ⟨this,trivial⟩
  .cases d
 .rename_i v A
  split at d
  .rename_i R;simp at d;obtain⟨rfl,rfl⟩:=d;rw[A] at g;simp only[SV.den] at g;rw[yz R] at g;exact kN u (v:= .int .i64 0) (by rw[k _ _ _ g];rfl) (y5 _) trivial
  .cases d
 .cases d
end
end Go.X
namespace Go.X
open Go.RowKit (Below)
section
variable {P:Program} {B:qw} {C:Ctx} {σ:St} {ρ:Env} {w:World} {o:Oper} {ev:Operand->Value} {out:Out}
theorem KQ {x:Operand} (b:o.op= .move x\/o.op= .assign x) (c:Sat P B ρ σ.obj w) (a:SV.den P ρ (wx σ x) (ev x)):
 wh P o ev w (wb P B ρ σ (.pure (wx σ x))):=by
 refine kN c (v:=ev x) ?_ a trivial;rcases b with h|h<;>simp[execOp,h]
theorem Ss (h:vI [False]) {R:Value->World->Prop}:wh P o ev w R:=h.1.elim
theorem sQ {t e:Nat} {ad:Option Addr} {n c:Nat} (h:P.underlying t=some (.slice e)):(Op.equal t (.slice ad n c) (.slice none 0 0)).run P w= .ok ad.isNone w:=by
 have:∀d,(Op.equalIn (d+1) t (.slice ad n c) (.slice none 0 0)).run P w= .ok ad.isNone w:=by
  intro d;cases ad<;>simp[Op.equalIn,jE h]
 exact this 9999
theorem N7 {ti:TI} (o:ti.ok P) {x y:SV} {b:Bool} (h:jb2 σ ti x y=some b) (E:Sat P B ρ σ.obj w) {g l:Value} (a:SV.den P ρ x g) (m:SV.den P ρ y l):
 (Op.equal ti.id g l).run P w= .ok b w/\(∀op X Y,(eqGuard op ti.id X Y g l).run P w= .ok () w)/\(binOp .eql ti.id g l=do pure (.bool (<-Op.equal ti.id g l)))/\(binOp .neq ti.id g l=do pure (.bool (!(<-Op.equal ti.id g l)))):=by
 unfold jb2 at h
 split at h
 .rename_i u j
  split at h
  case h_2=>cases h
  rename_i A;simp only[SV.den] at m;rw[Ve A] at m;subst m;obtain⟨e,q⟩:=o.ptf j;have eq:∀p,(Op.equal ti.id (.pointer p) (.pointer none)).run P w= .ok p.isNone w:=by
   intro p;have:∀d,(Op.equalIn (d+1) ti.id (.pointer p) (.pointer none)).run P w= .ok p.isNone w:=by
    intro d;cases p<;>simp[Op.equalIn,jE q]
   exact this 9999
  have C:∃p,g= .pointer p/\b=p.isNone:=by
   unfold jgB at h
   split at h
   .rename_i t d;simp at h;simp only[SV.den] at a;obtain⟨p,D,s⟩:=w5 (t:= .ptr t) rfl a;simp at D;refine⟨p,D,?_⟩;cases d with
    |none=>simp only at s;subst s;exact h.symm
    |some d=>obtain⟨_,_,_,rfl,_⟩:=s;exact h.symm
   .simp at h;subst h;simp only[SV.den] at a;obtain⟨b,off,c,e,_⟩:=a;exact⟨_,e,rfl⟩
   .split at h
    .rename_i z;simp at h;subst h;obtain⟨p,j⟩:=yR E z;simp only[SV.den] at a;obtain⟨_,_,_,e⟩:=a p j;exact⟨_,e,rfl⟩
    .cases h
   .split at h
    .rename_i z;simp at h;subst h;obtain⟨p,j⟩:=yR E z;simp only[SV.den] at a;obtain⟨_,_,_,_,e⟩:=a p j;exact⟨_,e,rfl⟩
    .cases h
   .split at h
    .rename_i i;simp at h;subst h;simp only[SV.den] at a;rw[Ve i] at a;exact⟨_,a,rfl⟩
    .cases h
   .cases h
  obtain⟨p,rfl,rfl⟩:=C;exact⟨eq p,fun op X Y=>by cases op<;>simp[eqGuard],rfl,rfl⟩
 .rename_i u _ j
  split at h
  case h_2=>cases h
  rename_i A;have n:∀{v:Value},xc v=true->v= .nilFunc:=by
   intro v h;unfold xc at h
   split at h
   .rfl
   .cases h
  simp only[SV.den] at m;rw[n A] at m;subst m;obtain⟨F,G,H,q⟩:=o.fkf j;have eq:∀f x y,(Op.equal ti.id (.func f x y) .nilFunc).run P w= .ok false w:=by
   intro f x y;have:∀d,(Op.equalIn (d+1) ti.id (.func f x y) .nilFunc).run P w= .ok false w:=by
    intro d;simp[Op.equalIn,jE q]
   exact this 9999
  have r:(Op.equal ti.id .nilFunc .nilFunc).run P w= .ok true w:=by
   have:∀d,(Op.equalIn (d+1) ti.id .nilFunc .nilFunc).run P w= .ok true w:=by
    intro d;simp[Op.equalIn,jE q]
   exact this 9999
  have C:(g= .nilFunc/\b=true)\/∃f x y,g= .func f x y/\b=false:=by
   unfold jgC at h
   split at h
   .simp at h;subst h;simp only[SV.den] at a;obtain⟨k,caps,e,_⟩:=a;exact .inr ⟨_,_,_,e,rfl⟩
   .simp at h;subst h;simp only[SV.den] at a;obtain⟨vs,e,_⟩:=a;exact .inr ⟨_,_,_,e,rfl⟩
   .split at h
    .rename_i i;simp at h;subst h;simp only[SV.den] at a;rw[n i] at a;exact .inl ⟨a,rfl⟩
    .cases h
   .cases h
  rcases C with⟨rfl,rfl⟩|⟨f,x,y,rfl,rfl⟩
  .exact⟨r,fun op X Y=>by cases op<;>simp[eqGuard],rfl,rfl⟩
  .exact⟨eq f x y,fun op X Y=>by cases op<;>simp[eqGuard],rfl,rfl⟩
 .cases h
theorem Vk {op:BinOp} {T:Nat} {x y:Operand} {g:Nat} (c:o.op= .binOp op T x y g) (h:jfW op (wx σ x) (wx σ y)=some out) (i:Sat P B ρ σ.obj w)
 (d:SV.den P ρ (wx σ x) (ev x)) (e:SV.den P ρ (wx σ y) (ev y)):wh P o ev w (wb P B ρ σ out):=by
 unfold jfW at h
 split at h
 rename_i a b j k;rw[j] at d;rw[k] at e;have ex:=w6 (by simpa[SV.den] using d);have f:=w6 (by simpa[SV.den] using e);simp only[Out.pure,jy] at h;subst h;refine wU (v:= .int .i64 (IntKind.i64.wrap (a+b))) (w':=w) ?_ (qy i (y5 _) trivial);simp only[execOp,c,ex,f];simp[eqGuard,binOp,Op.intArith];cases h
theorem Zf {op:BinOp} {T:Nat} {x y:Operand} {ft:Nat} (hC:C.ok P) (hop:o.op= .binOp op T x y ft) (h:jb3 C σ op T (wx σ x) (wx σ y)=some out) (j:Sat P B ρ σ.obj w)
 (i:SV.den P ρ (wx σ x) (ev x)) (s:SV.den P ρ (wx σ y) (ev y)) (J:vI out.vc):wh P o ev w (wb P B ρ σ out):=by
 have go:∀(Z vy v:Value),ev x=Z->ev y=vy->(do eqGuard op T x y Z vy;binOp op T Z vy:Sem Value).run P w= .ok v w->wb P B ρ σ out v w->wh P o ev w (wb P B ρ σ out):=by
  intro Z vy v z e2 m F;refine wU (v:=v) (w':=w) ?_ F;subst z e2;simp only[execOp,hop,jC] at m⊢;cases O:(eqGuard op T x y (ev x) (ev y)).run P w with
  |halt r w'=>rw[O] at m;simp[Result.andThen] at m
  |ok u w'=>rw[O] at m;simp only[js] at m⊢;rw[m];simp
 unfold jb3 at h
 split at h
 .rename_i a b A f;rw[A] at i;rw[f] at s;obtain⟨v,m,F⟩:=AC (P:=P) (U:=T) (X:=x) (Y:=y) h J j;exact go _ _ v (w6 (by simpa[SV.den] using i)) (w6 (by simpa[SV.den] using s)) m F
 .rename_i a k b A f;rw[A] at i;rw[f] at s;have ex:=w6 (by simpa[SV.den] using i);have M:=yQ (by simpa[SV.den] using s);have same:∀g,(g= .shl\/g= .shr)->op=g->G4 g a b=some out->wh P o ev w (wb P B ρ σ out):=by
   intro g hc e f;subst e;obtain⟨v,m,F⟩:=AC (P:=P) (U:=T) (X:=x) (Y:=y) f J j;refine go _ _ v ex M ?_ F;rw[<-m];rcases hc with rfl|rfl<;>simp[eqGuard,binOp,Op.shift]
  split at h
  .exact same .shl (.inl rfl) rfl h
  .exact same .shr (.inr rfl) rfl h
  .cases h
 .rename_i a b A f;rw[A] at i;rw[f] at s;obtain⟨v,m,F⟩:=Hb (P:=P) (U:=T) (X:=x) (Y:=y) h J j;exact go _ _ v (yQ (by simpa[SV.den] using i)) (yQ (by simpa[SV.den] using s)) m F
 .rename_i a b A f;rw[A] at i;rw[f] at s;have ex:=yQ (by simpa[SV.den] using i);have M:=w6 (by simpa[SV.den] using s);have same:∀g,(g= .shl\/g= .shr)->op=g->jd8 g a b=some out->wh P o ev w (wb P B ρ σ out):=by
   intro g hc e f;subst e;obtain⟨v,m,F⟩:=Hb (P:=P) (U:=T) (X:=x) (Y:=y) f J j;refine go _ _ v ex M ?_ F;rw[<-m];rcases hc with rfl|rfl<;>simp[eqGuard,binOp,Op.shift]
  split at h
  .exact same .shl (.inl rfl) rfl h
  .exact same .shr (.inr rfl) rfl h
  .cases h
 .split at h
  .cases h
  rename_i ti hti;obtain⟨rfl,I⟩:=hC.ti _ _ hti
  split at h
  .rename_i N;have hF:Frz σ σ []:=fun o=>⟨.inl rfl,fun G=>by simp at G⟩
   split at h
   .rename_i a b A f;have rx:=we j hF A (fun o G=>by simp at G) i;have ry:=we j hF f (fun o G=>by simp at G) s;have key:=fun G=>I.eqs N ρ.H _ _ a b w rx ry op x y G
    split at h
    .simp at h;subst h;exact go _ _ _ rfl rfl (key (.inl rfl)) (qy j (y7 _) trivial)
    .simp at h;subst h;exact go _ _ _ rfl rfl (key (.inr rfl)) (qy j (y7 _) trivial)
    .cases h
   .cases h
  .split at h
   .rename_i V Q;obtain⟨d,hd,_,_,_,hs,_⟩:=I.flat (I.slf Q);rw[hs Q] at hd;have M:ev y= .slice none 0 0:=by
     unfold jeo at V
     split at V
     .rename_i v hv;rw[hv] at s;simp only[SV.den] at s;rw[s,yz V]
     .cases V
    split at h
    .rename_i b f;have K:∀(ad:Option Addr) (n c:Nat),ev x= .slice ad n c->b=ad.isNone->(op= .eql\/op= .neq)->
      (do eqGuard op ti.id x y (.slice ad n c) (.slice none 0 0);binOp op ti.id (.slice ad n c) (.slice none 0 0):Sem Value).run P w= .ok (.bool (match op with| .eql=>b|_=> !b)) w:=by
      intro ad n c _ D G;subst D;have S:=sQ (w:=w) (ad:=ad) (n:=n) (c:=c) hd;rcases G with rfl|rfl<;>simp[eqGuard,binOp,S]
     have R:∃ad n c,ev x= .slice ad n c/\b=ad.isNone:=by
      unfold UX at f
      split at f
      .rename_i ob t hxo;rw[hxo] at i;simp only[SV.den] at i
       split at f
       .rename_i E t' fz l L;simp at f;subst f;obtain⟨p,hp,k1,k0,W⟩:=j.obs ob _ L;have i:=i p hp;cases p with
        |none=>obtain⟨z,_⟩:=i;obtain⟨rfl,_⟩:=W;exact⟨_,_,_,z,rfl⟩
        |some q=>obtain⟨z,_⟩:=i;obtain⟨k3,_⟩:=W;refine⟨_,_,_,z,?_⟩;have:=k3 rfl;simp[this]
       .rename_i E t' fz l L;simp at f;subst f;obtain⟨p,hp,k1,k0,W⟩:=j.obs ob _ L;have i:=i p hp;cases p with
        |none=>obtain⟨_,e⟩:=W;exact absurd rfl e
        |some q=>obtain⟨z,_⟩:=i;exact⟨_,_,_,z,rfl⟩
       .cases f
      .rename_i v hv;rw[hv] at i;simp only[SV.den] at i
       split at f
       .rename_i hn';simp at f;subst f;exact⟨none,0,0,by rw[i,yz hn'],rfl⟩
       .cases f
      .cases f
     obtain⟨ad,n,c,ex,D⟩:=R
     split at h
     .simp at h;subst h;exact go _ _ _ ex M (K ad n c ex D (.inl rfl)) (qy j (y7 _) trivial)
     .simp at h;subst h;exact go _ _ _ ex M (K ad n c ex D (.inr rfl)) (qy j (y7 _) trivial)
     .cases h
    .cases h
   .split at h
    case h_2=>cases h
    rename_i b f;obtain⟨S,O,z,e2⟩:=N7 I f j i s
    split at h
    .simp at h;subst h;exact go _ _ _ rfl rfl (by simp only[jC,O,js,z,S,jT]) (qy j (y7 _) trivial)
    .simp at h;subst h;exact go _ _ _ rfl rfl (by simp only[jC,O,js,e2,S,jT]) (qy j (y7 _) trivial)
    .cases h
theorem Su {U dst f:Nat} {x:Operand} (T:C.ok P) (E:o.op= .field U x f) (h:wd C σ dst (.field U x f)=some out) (H:Sat P B ρ σ.obj w)
 (n:SV.den P ρ (wx σ x) (ev x)):wh P o ev w (wb P B ρ σ out):=by
 simp only[wd] at h
 split at h
 case h_2=>cases h
 rename_i ti R;obtain⟨rfl,D⟩:=T.ti _ _ R
 split at h
 case h_2=>cases h
 rename_i off ft r;obtain⟨r,q⟩:=KK r
 split at h
 case h_2=>cases h
 rename_i l Q;obtain⟨rfl,a⟩:=T.ti _ _ Q;have p:ti.agg=true:=by
  cases b:ti.agg with
  |true=>rfl
  |false=>rw[D.flf b] at r;simp at r
 obtain⟨fs,z,_,N⟩:=D.str p q;obtain⟨fd,s,K,e2⟩:=N f _ r;simp only at K e2;obtain⟨_,_,_,_,_,G,_⟩:=gU a;have A:=KL a;have g:∀cs:Array Value,ev x= .agg cs->l.agg=true->(execOp ev o).run P w= .ok (.value (.agg (cs.extract off (off+l.size)))) w:=by
  intro cs e b;simp[execOp,E,Instr.field,jE z,s,e,asAgg,part,K,e2,A,b,G]
 have k:∀(cs:Array Value) v,ev x= .agg cs->l.agg=false->cs[off]? =some v->(execOp ev o).run P w= .ok (.value v) w:=by
  intro cs v e b J;simp[execOp,E,Instr.field,jE z,s,e,asAgg,part,K,e2,A,b,J]
 split at h
 .rename_i cs m;rw[m] at n;simp only[SV.den] at n;obtain⟨vs,ex,V,Y⟩:=n
  split at h
  .rename_i b;simp at h;subst h;refine kN H (g vs ex b) ?_ trivial;simp only[SV.den];have W:(vs.extract off (off+l.size)).toList=(vs.toList.drop off).take l.size:=by
    simp[Array.toList_extract,List.extract_eq_take_drop]
   exact⟨_,rfl,by rw[W];exact sL _ _ _ (fc _ _ _ V),fun u I=>Y u (by rw[W] at I;exact zZ (zO I))⟩
  .rename_i b
   split at h
   .rename_i v J;simp at h;subst h;obtain⟨u,I,L⟩:=mJ V J;exact kN H (k vs u ex b I) L trivial
   .cases h
 .rename_i t d m;rw[m] at n;simp only[SV.den] at n
  split at h
  .rename_i y O hk F;simp at h;subst h;obtain⟨S,ks⟩:=a.known hk;obtain⟨Z,r2,r3⟩:=n;have c:=mH t off l.ty d y _ F r3;have M:∃cs,ev x= .agg cs:=by
    rw[O] at Z;cases J:ev x<;>simp_all [vN]
   obtain⟨cs,ex⟩:=M;rw[ex] at c;simp only[Value.cells] at c;cases b:l.agg with
   |true=>
    refine kN H (g cs ex b) ?_ trivial;simp only[SV.den];have X:=(a.pos hk).1;have G:off+l.size<=cs.size:=by
     obtain⟨v,e,_⟩:=cz _ _ _ c (l.size-1) (by omega);have:=(jw.1 e).1;omega
    refine⟨by simp[vN,S,b],by simp[Value.cells,ks];omega,l.ty.rd_congr _ _ _ (fun i hi=> ?_) c⟩;simp only[Value.cells];rw[Array.getElem?_extract];simp[show i<min (off+l.size) cs.size-off by omega]
   |false=>
    obtain⟨v,e,_⟩:=cz _ _ _ c 0 (by have:=(a.pos hk).1;omega);simp only[zM] at e;refine kN H (k cs v ex b e) ?_ trivial;simp only[SV.den];exact vz (by rw[S,b]) (aY (f:=fun j=>cs[off+j]?) (by rw[S,b]) (by simpa using e) c)
  .cases h
 .cases h
theorem Zg (l:List Value):∀(off j:Nat) (cs:Array Value),off+j+l.length<=cs.size->
 ((l.zipIdx j).foldl (fun cs (c,j)=>cs.setIfInBounds (off+j) c) cs).toList=cs.toList.take (off+j)++l++cs.toList.drop (off+j+l.length):=by
 induction l with
 |nil=>intro off j cs h;simp
 |cons a l f=>
  intro off j cs h;simp only[ze] at h;simp only[List.zipIdx_cons,List.foldl_cons];rw[show off+j+(a::l).length=off+(j+1)+l.length by simp;omega,f off (j+1) _ (by simp;omega)];simp only[Array.toList_setIfInBounds];have d:(cs.toList.set (off+j) a).take (off+(j+1))=cs.toList.take (off+j)++[a]:=by
   rw[List.take_set,show off+(j+1)=off+j+1 by omega,List.take_add_one];rw[List.set_append_right _ _ (by simp;omega)];have b:off+j<cs.toList.length:=(by simp;omega);have:cs.toList[off+j]? =some cs.toList[off+j]:=jr b;rw[this];have:off+j-(cs.toList.take (off+j)).length=0:=(by simp;omega);rw[this];simp
  have e:(cs.toList.set (off+j) a).drop (off+(j+1)+l.length)=cs.toList.drop (off+(j+1)+l.length):=by
   rw[List.drop_set_of_lt (by omega)]
  rw[d,e];simp
theorem Vl {ti:TI} (c:ti.ok P) (t:ti.agg=true) (u:ti.arr=false):∃fs a,P.underlying ti.id=some (.struct fs)/\
 fs.toList.mapM (fun f=>(P.info? f.type).map fun i=>(f.offset,i.size))=some a/\
 ∀(k:Nat) (p:Nat×Nat),ti.fields[k]? =some p->∃i,P.info? p.2=some i/\a[k]? =some (p.1,i.size):=by
 obtain⟨fs,o,r,s⟩:=c.str t u;have d:∀(fl:List Field) (l:List (Nat×Nat)),fl.length=l.length->(∀(k:Nat) (p:Nat×Nat),l[k]? =some p->∃f:Field,fl[k]? =some f/\f.offset=p.1/\f.type=p.2)->
  (∀(k:Nat) (p:Nat×Nat),l[k]? =some p->∃i,P.info? p.2=some i)->
  ∃a,fl.mapM (fun f=>(P.info? f.type).map fun i=>(f.offset,i.size))=some a/\∀(k:Nat) (p:Nat×Nat),l[k]? =some p->∃i,P.info? p.2=some i/\a[k]? =some (p.1,i.size):=by
  intro fl
  induction fl with
  |nil=>intro l e _ _;cases l with
   |nil=>exact⟨[],by simp,fun k p hk=>by simp at hk⟩
   |cons=>simp at e
  |cons f fl v=>
   intro l e j hi;cases l with
   |nil=>simp at e
   |cons p l=>
    obtain⟨a,g,e2⟩:=v l (by simpa using e) (fun k q hk=>by simpa using j (k+1) q (by simpa using hk)) (fun k q hk=>hi (k+1) q (by simpa using hk));obtain⟨w,h,m,n⟩:=j 0 p (by simp);simp at h;subst h;obtain⟨i,b⟩:=hi 0 p (by simp);refine⟨(f.offset,i.size)::a,?_,fun k q hk=> ?_⟩;simp[List.mapM_cons,n,b,g];cases k with
    |zero=>simp at hk;subst hk;exact⟨i,b,by simp[m]⟩
    |succ k=>simpa using e2 k q (by simpa using hk)
 obtain⟨a,g,e2⟩:=d fs.toList ti.fields (by simpa using r) (fun k p hk=>by simpa using s k p hk) c.fok;exact⟨fs,a,o,g,e2⟩
theorem cA (F:C.ok P) (G:Sat P B ρ σ.obj w) {fields:List (Nat×Nat)} {pl:Nat->Option (Nat×Nat)}
 (I:∀(k:Nat) (p:Nat×Nat),fields[k]? =some p->∃i,P.info? p.2=some i/\pl k=some (p.1,i.size)) (n:∀x,SV.den P ρ (wx σ x) (ev x)):
 ∀(d:List (Nat×Operand)) (cs a:List SV) (vs:Array Value),aX C σ fields d cs=some a->SV.denL P ρ cs vs.toList->(∀u∈vs.toList,u.oneCell'=true)->
  ∃f,Instr.fill pl vs (d.map fun(i,x)=>(i,ev x))=some f/\SV.denL P ρ a f.toList/\∀u∈f.toList,u.oneCell'=true
 |[],cs,a,vs,h,y,v=>by
  simp[aX] at h;subst h
  exact⟨vs,rfl,y,v⟩
 | (j,x)::r,cs,a,vs,h,y,v=>by
  simp only[aX] at h
  split at h
  case h_2=>cases h
  rename_i off T N
  split at h
  case h_2=>cases h
  rename_i new W q E
  split at h
  case h_2=>cases h
  rename_i m g
  have m:=jb m
  have g:=jB g
  obtain⟨K,s⟩:=F.ti _ _ E
  obtain⟨i,hi,t⟩:=I j _ N
  simp only at hi t
  obtain⟨V,z,A,L,_⟩:=s.info
  rw[K,hi] at A
  simp at A;subst A
  obtain⟨J,O⟩:=pR G q (n x)
  have D:=qx _ _ y
  have o:=qx _ _ J
  have M:(ev x).cells.size=i.size:=by rw[<-zb,<-o,m,L]
  simp only[zb] at D o
  have b:=Zg (ev x).cells.toList off 0 vs (by simp;omega)
  obtain⟨f,Q,R,S⟩:=cA F G I n r _ a ((ev x).cells.zipIdx.foldl (fun cs (c,j)=>cs.setIfInBounds (off+j) c) vs) h (by
   have e:((ev x).cells.zipIdx.foldl (fun cs (c,j)=>cs.setIfInBounds (off+j) c) vs)=(((ev x).cells.toList.zipIdx 0).foldl (fun cs (c,j)=>cs.setIfInBounds (off+j) c) vs):=by
    rw[<-Array.foldl_toList];simp
   rw[e,b];simp only[zM];exact AE y J) (by
   have e:((ev x).cells.zipIdx.foldl (fun cs (c,j)=>cs.setIfInBounds (off+j) c) vs)=(((ev x).cells.toList.zipIdx 0).foldl (fun cs (c,j)=>cs.setIfInBounds (off+j) c) vs):=by
    rw[<-Array.foldl_toList];simp
   rw[e,b];intro u l;simp only[ju] at l;rcases l with(l|l)|l
   .exact v u (zO l)
   .exact O u l
   .exact v u (zZ l))
  refine⟨f,?_,R,S⟩;simp only[zg,Instr.fill];rw[t];have H:¬((ev x).cells.size≠i.size\/off+(ev x).cells.size>vs.size):=(by omega);simp only[zG,ne_eq,jv];rw[jc (by omega)];exact Q
theorem pS:∀(l:List Value),SV.denL P ρ (l.map FT) l
 |[]=>by simp[SV.denL]
 |a::l=>by simp only[zg,SV.denL];exact⟨a,l,rfl,Dg a,pS l⟩
theorem Sv {U dst:Nat} {a:Array (Nat×Operand)} (m:C.ok P) (g:o.op= .build U a) (h:wd C σ dst (.build U a)=some out) (l:Sat P B ρ σ.obj w)
 (f:∀x,SV.den P ρ (wx σ x) (ev x)):wh P o ev w (wb P B ρ σ out):=by
 simp only[wd] at h
 split at h
 case h_2=>cases h
 rename_i ti t;obtain⟨rfl,c⟩:=m.ti _ _ t
 split at h
 case h_2=>cases h
 rename_i cs N e;simp at h;subst h;obtain⟨i,z,F,_,_,G,j,_⟩:=c.info;cases I:ti.arr with
 |true=>
  obtain⟨_,n,ie,K,H,L,Q,_,_,M⟩:=c.arrk I;obtain⟨b,A,D,E⟩:=cA m l (pl:=fun i=>some (i*ie.size,ie.size)) (fun k p hk=>by
   have:=M k p hk;subst this;exact⟨ie,H,by rw[L];simp⟩) f a.toList _ cs z.cells e (by rw[j];exact pS _) (fun u y=>c.one u (by rw[<-j];exact y))
  refine kN l (v:= .agg b) ?_ ?_ trivial
  .have q:P.built ti.id (a.map fun(i,x)=>(i,ev x)).toList=some b:=by
    unfold Program.built;simp only[F,K,G,H];simpa using A
   simp only[execOp,g,jC,run_build w ti.id _ b q,js];rfl
  .simp only[SV.den];exact⟨b,rfl,D,E⟩
 |false=>
 obtain⟨fs,d,r,s,O⟩:=Vl c N I;obtain⟨b,A,D,E⟩:=cA m l (pl:=(d.toArray[·]?)) (fun k p hk=>by obtain⟨i,J,e2⟩:=O k p hk;exact⟨i,J,by simpa using e2⟩) f a.toList _ cs z.cells e (by rw[j];exact pS _) (fun u y=>c.one u (by rw[<-j];exact y));refine kN l (v:= .agg b) ?_ ?_ trivial
 .have q:P.built ti.id (a.map fun(i,x)=>(i,ev x)).toList=some b:=by
   unfold Program.built;simp only[F,r,G,s];simpa using A
  simp only[execOp,g,jC,run_build w ti.id _ b q,js];rfl
 .simp only[SV.den];exact⟨b,rfl,D,E⟩
theorem dX {τ:St} (s:Sat P B ρ τ.obj w) {fz:List Nat} (q:Frz σ τ fz) {t:Ty} (e:∀x,SV.den P ρ (wx σ x) (ev x)):
 ∀(a:List (Nat×Operand)) (i:Nat) (l:List t.Data) (b:List Nat),oc σ t a i=some (l,b)->(∀o,o∈b->o∈fz)->
  ∃vs:List Value,a.map (fun(i,x)=>(i,ev x))=(vs.zipIdx i).map (fun x=>(x.2,x.1))/\vs.length=l.length/\(∀v∈vs,v.cells.size=t.size)/\∀(k:Nat) v x,vs[k]? =some v->l[k]? =some x->t.rv ρ.H v x
 |[],i,l,b,h,_=>by
  simp[oc] at h
  obtain⟨rfl,_⟩:=h
  exact⟨[],rfl,rfl,fun v m=>by simp at m,fun k v x hk=>by simp at hk⟩
 | (j,x)::r,i,l,b,h,hs=>by
  simp only[oc] at h
  split at h
  case h_2=>cases h
  rename_i c
  have c:=jb c
  subst c
  split at h
  case h_2=>cases h
  rename_i d f D
  split at h
  case h_2=>cases h
  rename_i l' C E
  simp at h
  obtain⟨rfl,rfl⟩:=h
  obtain⟨vs,u,e2,z,A⟩:=dX s q e r (i+1) l' C E (fun o n=>hs o (jg _ n))
  have g:=we s q D (fun o n=>hs o (jh _ n)) (e x)
  refine⟨ev x::vs,by simp[u],by simp[e2],?_,?_⟩
  .intro v m
   rcases jk.1 m with rfl|m
   .exact g.2.1
   .exact z v m
  .intro k v y hk p
   cases k with
   |zero=>simp at hk p;subst hk p;exact g
   |succ k=>exact A k v y (by simpa using hk) (by simpa using p)
theorem Dj {s:Nat}:∀(vs:List Value),(∀v∈vs,v.cells.size=s)->∀(i j:Nat) (v:Value),vs[i]? =some v->j<s->(vs.flatMap fun v=>v.cells.toList)[i*s+j]? =v.cells[j]?
 |[],_,i,j,v,h,_=>by simp at h
 |u::vs,hs,i,j,v,h,hj=>by
  have a:u.cells.size=s:=hs u zf
  simp only[List.flatMap_cons]
  cases i with
  |zero=>simp at h;subst h;simp only[Nat.zero_mul,zI];rw[jA (by simp;omega)];simp
  |succ i=>
   rw[jx (by simp[a,zl];omega)]
   have:=Dj vs (fun v b=>hs v (jl _ b)) i j v (by simpa using h) hj
   rw[<-this]
   congr 1
   simp[a,zl];omega
theorem Is {s:Nat}:∀(vs:List Value),(∀v∈vs,v.cells.size=s)->(vs.flatMap fun v=>v.cells.toList).length=vs.length*s
 |[],_=>by simp
 |u::vs,hs=>by
  have a:u.cells.size=s:=hs u zf
  simp only[List.flatMap_cons,jK,ze,zb,a,Is vs (fun v b=>hs v (jl _ b))]
  rw[zl];omega
end
end Go.X
namespace Go.X
open Go.RowKit (Below)
section
variable {P:Program} {B:qw} {C:Ctx} {σ:St} {ρ:Env} {w:World} {o:Oper} {ev:Operand->Value} {out:Out}
def It (obj:Nat->Option Ob) (own:Option Nat) (dst:Nat) (x:Ob):Nat->Option Ob:=fun o=>if o=dst then some x else if own=some o then none else obj o
theorem Dk (f:Sat P B ρ σ.obj w) {own:Option Nat} {dst:Nat} (X:σ.obj dst=none) (Y:vJ σ.obj dst) {w':World} {row:Option Nat} (z:w.grownBy w' row) (L:w.drawn<=w'.drawn)
 (j:∀g,row=some g->∃o C,own=some o/\ρ.blk o=some (some (g,C))/\ρ.H g=none) (k:Option (Nat×Nat)) (t:∀b C,k=some (b,C)->row=some b\/b=w.heap.size) (len:Nat) (x:Ob)
 (hx:∀a:Env,a.H=ρ.H->a.len dst=len->ρ.le a [dst]->w7 P a w' dst k x):
 ∃a,Sat P B a (It σ.obj own dst x) w'/\ρ.le a [dst]/\a.blk dst=some k/\a.len dst=len/\a.H=ρ.H:=by
 have W:=f.dead dst X
 let a:Env:={H:=ρ.H,blk:=fun o=>if o=dst then some k else if own=some o then none else ρ.blk o,len:=fun o=>if o=dst then len else ρ.len o}
 have A:ρ.le a [dst]:=⟨fun _ _ h=>h,fun o p F v=>by
  have F:o≠dst:=(by simpa using F);simp only[a,F,if_false] at v
  split at v
  cases v;exact v,fun o F=>by simp[a,show o≠dst by simpa using F]⟩
 have M:∀b,ρ.H b≠none->row≠some b:=fun b y e=>by
  obtain⟨_,_,_,_,h⟩:=j b e;exact y h
 refine⟨a,⟨z.os.trans f.os,z.tape.trans f.tape,z.output.trans f.output,jF f.drawn L,jF f.size z.size,?_,f.oldH,?_,?_,?_,?_,?_⟩,A,by simp[a],by simp[a],rfl⟩;refine⟨fun b c y=> ?_,f.good.2⟩;have:=M b (by show ρ.H b≠none;rw[show ρ.H b=some c from y];simp);rw[z.block b (f.good.lt y) (fun e=>this e.symm)];exact f.good.1 b c y;intro b y E;have d:=f.size;rw[z.block b (by omega) (fun e=> ?_)];exact f.old b y E;obtain⟨o',C',_,e2,_⟩:=j b e.symm;rcases f.own o' b C' e2 with l|l;omega;exact E l;intro o' x' i;unfold It at i;by_cases e:o'=dst;subst e;rw[jd rfl] at i;simp at i;subst i;exact⟨_,by simp[a],hx a rfl (by simp[a]) A⟩;rw[jc e] at i;by_cases r:own=some o';rw[jd r] at i;cases i;rw[jc r] at i;obtain⟨p,v,Z⟩:=f.obs o' x' i;refine⟨p,by simp[a,e,r,v],wE A (by simpa using e) (fun T fz cs K o'' u=> ?_) (fun b C N=>⟨rfl,?_⟩) Z⟩;simp at u;subst u;exact Y o' T fz cs (by rw[i,K]);subst N;refine z.block b (ba f v).1 fun R=> ?_
 obtain⟨o2,q,d,l,_⟩:=j b R.symm;exact r (by rw[d,f.inj o2 o' b q C l v]);intro o' m;unfold It at m;by_cases e:o'=dst;rw[jd e] at m;cases m;rw[jc e] at m;by_cases r:own=some o';simp[a,e,r];rw[jc r] at m;simp[a,e,r,f.dead o' m];have one:∀o2 b n q,k=some (b,n)->o2≠dst->own≠some o2->ρ.blk o2=some (some (b,q))->False:=by
  intro o2 b n q d _ S Q;rcases t b n d with D|D;obtain⟨O,G,V,J,_⟩:=j b D;exact S (by rw[V,f.inj O o2 b G q J Q]);have:=(ba f Q).1;omega
 intro o1 o2 b n q d l;simp only[a] at d l;by_cases s:o1=dst<;>by_cases e2:o2=dst
 rw[s,e2];simp[s] at d;simp only[e2,if_false] at l
 split at l
 cases l;rename_i I;exact(one o2 b n q d e2 I l).elim;simp[e2] at l;simp only[s,if_false] at d
 split at d
 cases d;rename_i I;exact(one o1 b q n l s I d).elim;simp only[s,e2,if_false] at d l
 split at d
 cases d
 split at l
 cases l;exact f.inj o1 o2 b n q d l;intro o1 b n d;simp only[a] at d;by_cases s:o1=dst;simp[s] at d;rcases t b n d with D|D;obtain⟨O,G,_,J,_⟩:=j b D;exact f.own O b G J;have:=f.size;exact .inl (by omega);simp only[s,if_false] at d
 split at d
 cases d;exact f.own o1 b n d
theorem Zh (d:Sat P B ρ σ.obj w) {q l z:Nat} (G:ρ.blk q=some (some (l,z))) (K:ρ.H l=none) (V:vJ σ.obj q) {w':World} (u:w.grownBy w' (some l)) (M:w.drawn<=w'.drawn)
 (g s:Nat) (n:g=l\/g=w.heap.size) (len:Nat) (x:Ob) (X:∀a:Env,a.H=ρ.H->a.len q=len->ρ.le a [q]->w7 P a w' q (some (g,s)) x):
 ∃a,Sat P B a (u9 σ.obj q (some x)) w'/\ρ.le a [q]/\a.blk q=some (some (g,s))/\a.len q=len/\a.H=ρ.H:=by
 let a:Env:={H:=ρ.H,blk:=fun o=>if o=q then some (some (g,s)) else ρ.blk o,len:=fun o=>if o=q then len else ρ.len o}
 have v:ρ.le a [q]:=⟨fun _ _ h=>h,fun o p E F=>by
  have E:o≠q:=(by simpa using E);simpa only[a,E,if_false] using F,fun o E=>by simp[a,show o≠q by simpa using E]⟩
 have N:∀b,ρ.H b≠none->b≠l:=fun b t e=>by subst e;exact t K
 have S:l<w.heap.size:=(ba d G).1;refine⟨a,⟨u.os.trans d.os,u.tape.trans d.tape,u.output.trans d.output,jF d.drawn M,jF d.size u.size,?_,d.oldH,?_,?_,?_,?_,?_⟩,v,by simp[a],by simp[a],rfl⟩;refine⟨fun b c t=> ?_,d.good.2⟩;have:=N b (by show ρ.H b≠none;rw[show ρ.H b=some c from t];simp);rw[u.block b (d.good.lt t) (fun e=>this (by simpa using e))];exact d.good.1 b c t;intro b t D;have f:=d.size;rw[u.block b (by omega) (fun e=> ?_)];exact d.old b t D;have e:b=l:=(by simpa using e);subst e;rcases d.own q b z G with j|j;omega;exact D j;intro o' Z i;unfold u9 at i;by_cases e:o'=q;subst e;rw[jd rfl] at i;simp at i;subst i;exact⟨_,by simp[a],X a rfl (by simp[a]) v⟩;rw[jc e] at i;obtain⟨p,F,W⟩:=d.obs o' Z i;refine⟨p,by simp[a,e,F],wE v (by simpa using e) (fun T fz cs L Y r=> ?_) (fun b C O=>⟨rfl,?_⟩) W⟩;simp at r;subst r;exact V o' T fz cs (by rw[i,L]);subst O;refine u.block b (ba d F).1 fun J=> ?_
 have J:b=l:=(by simpa using J);subst J;exact e (d.inj o' q b C z F G);intro o' k;unfold u9 at k;by_cases e:o'=q;rw[jd e] at k;cases k;rw[jc e] at k;simp[a,e,d.dead o' k];have one:∀o2 y,o2≠q->ρ.blk o2=some (some (g,y))->False:=by
  intro o2 y R Q;rcases n with A|A;subst A;exact R (d.inj o2 q g y z Q G);have:=(ba d Q).1;omega
 intro o1 o2 b I y f j;simp only[a] at f j;by_cases m:o1=q<;>by_cases e2:o2=q
 rw[m,e2];simp[m] at f;simp only[e2,if_false] at j;rw[<-f.1] at j;exact(one o2 y e2 j).elim;simp[e2] at j;simp only[m,if_false] at f;rw[<-j.1] at f;exact(one o1 I m f).elim;simp only[m,e2,if_false] at f j;exact d.inj o1 o2 b I y f j;intro o1 b I f;simp only[a] at f;by_cases m:o1=q;simp[m] at f;rcases n with A|A;rw[<-f.1,A];exact d.own q l z G;have:=d.size;exact .inl (by omega);simp only[m,if_false] at f;exact d.own o1 b I f
theorem N8 {H:Imm} {t:Ty} (f:Nat->Option Value) (l:List t.Data) (h:∀(i:Nat) x,l[i]? =some x->t.rd H (fun j=>f (i*t.size+j)) x):
 ∃us:List Value,us.length=l.length*t.size/\(∀(j:Nat) u,us[j]? =some u->f j=some u)/\(∀u∈us,u.oneCell'=true)/\∀(i:Nat) x,l[i]? =some x->t.rd H (fun j=>us[i*t.size+j]?) x:=by
 have key:∀k,k<l.length*t.size->∃v,f k=some v/\v.oneCell'=true:=by
  intro k hk;have d:0<t.size:=by
   rcases zX t.size with b|b;rw[b] at hk;simp at hk;exact b
  have hi:k/t.size<l.length:=(Nat.div_lt_iff_lt_mul d).2 hk;obtain⟨v,m,e2⟩:=cz t _ _ (h _ _ (jr hi)) (k%t.size) (Nat.mod_lt _ d);refine⟨v,?_,e2⟩;rw[<-m];congr 1;rw[Nat.mul_comm];exact(Nat.div_add_mod _ _).symm
 refine⟨(List.range (l.length*t.size)).map fun k=>(f k).getD undef,by simp,fun j u a=> ?_,fun u a=> ?_,fun i x g=> ?_⟩;rw[z7] at a;by_cases c:j<l.length*t.size;rw[List.getElem?_range c] at a;simp at a;obtain⟨v,e,_⟩:=key j c;rw[e] at a⊢;simpa using a;rw[List.getElem?_eq_none (by simp;omega)] at a;simp at a;simp only[jG,jp] at a;obtain⟨k,hk,rfl⟩:=a;obtain⟨v,e,e2⟩:=key k hk;rw[e];exact e2;have hi:i<l.length:=(jo.1 g).1;refine t.rd_congr _ _ _ (fun j c=> ?_) (h i x g);have hk:i*t.size+j<l.length*t.size:=by
  have:(i+1)*t.size<=l.length*t.size:=jO _ hi;rw[zl] at this;omega
 rw[z7,List.getElem?_range hk];obtain⟨v,e,_⟩:=key _ hk;simp[e]
structure Src (H:Imm) (w:World) (t:Ty) (v:Value) (l:List t.Data):Prop where
 len:l.length<4611686018427387904
 val:(v= .slice none 0 0/\l=[])\/∃(ad:Addr) (c:Nat) (us:List Value),v= .slice (some ad) l.length c/\us.length=l.length*t.size/\(∀(j:Nat) u,us[j]? =some u->w.cell? (ad.add j)=some u)/\
  (∀u∈us,u.oneCell'=true)/\∀(i:Nat) x,l[i]? =some x->t.rd H (fun j=>us[i*t.size+j]?) x
theorem Vm {H:Imm} {t:Ty} {l:List t.Data} {v:Value} {b off c:Nat} {vs:Array Value} {T:Nat} {d:Nat×Nat} (a:l.length<4611686018427387904) (o:w.heap[b]? =some (.cells vs T d))
 (n:v= .slice (some ⟨b,off,none⟩) l.length c) (h:∀(i:Nat) x,l[i]? =some x->t.rd H (fun j=>vs[off+i*t.size+j]?) x):Src H w t v l:=by
 obtain⟨us,e,f,g,k⟩:=N8 (H:=H) (t:=t) (fun j=>vs[off+j]?) l (fun i x p=>t.rd_congr _ _ _ (fun j _=>by simp only[zP]) (h i x p));exact⟨a,.inr ⟨_,c,us,n,e,fun j u m=>by rw[gV,Dh o];exact f j u m,g,k⟩⟩
theorem QU {H:Imm} {t:Ty} {v:Value} {ad:Addr} {c:Nat} (b:v= .slice (some ad) 0 c):Src H w t v []:=
 ⟨by simp,.inr ⟨ad,c,[],b,by simp,fun j u a=>by simp at a,fun u a=>by simp at a,fun i x d=>by simp at d⟩⟩
theorem sR (C:Sat P B ρ σ.obj w) {t:Ty} {sv:SV} {l:List t.Data} (h:cw σ t sv=some l) {v:Value} (g:SV.den P ρ sv v):Src ρ.H w t v l:=by
 unfold cw at h
 split at h
 rename_i O d;obtain⟨e,rfl⟩:=kP h;subst e;simp only[SV.den] at g;obtain⟨a,n,c,f,e2,S,z,V,A⟩:=w5 (t:= .slice t) rfl g;simp at f;simp only[gT];cases a with
 |none=>
  have D:=V rfl;have G:n=0:=(by omega);subst D G;have:d=[]:=zk e2.symm;exact⟨z,.inl ⟨f,this⟩⟩
 |some ad=>
  by_cases r:d=[];subst r;simp at e2;subst e2;exact QU f;obtain⟨b,off,blk,e,W,X⟩:=A r;simp at e;subst e;obtain⟨T,Z,s⟩:=C.good.cells W;exact Vm z s (by rw[f,e2]) X
 rename_i ob u
 split at h
 rename_i E O fz nl l' k;obtain⟨e,rfl⟩:=kP h;cases e;simp only[gT];obtain⟨p,I,N,L,y⟩:=C.obs ob _ k;simp only[SV.den] at g;have g:=g p I;cases p with
 |none=>
  obtain⟨f,_⟩:=g;exact⟨L,.inl ⟨f,y.1⟩⟩
 |some q=>
  obtain⟨b,Q⟩:=q;obtain⟨f,e2⟩:=g;obtain⟨_,vs,s,K,F,_,J,_⟩:=y;exact Vm L s (by rw[f,N]) (fun i x m=>t.rd_congr _ _ _ (fun j _=>by simp) (J i x m))
 cases h;rename_i ob u lo n
 split at h
 rename_i E O fz nl l' k
 split at h
 rename_i Y D;obtain⟨f,rfl⟩:=kP D;obtain⟨e,rfl⟩:=kP h;cases f;cases e;simp only[gT];obtain⟨p,I,N,L,y⟩:=C.obs ob _ k;simp only[SV.den] at g;have g:=g p I;cases p with
 |none=>
  obtain⟨f,rfl⟩:=g;exact⟨by simp,.inl ⟨f,by simp⟩⟩
 |some q=>
  obtain⟨b,Q⟩:=q;obtain⟨a,R,f,e2,S,z,A⟩:=g;obtain⟨_,vs,s,K,F,_,J,_⟩:=y;have o:((l'.drop lo).take n).length=n:=(by simp;omega);rcases zX n with M|M;subst M;simp only[List.take_zero];exact QU f;rw[A (.inr (by omega))] at f;refine Vm (by omega) s (by rw[f,o]) (fun i x m=> ?_);rw[zY] at m
  split at m
  rw[zi] at m;have:=J _ _ m;refine t.rd_congr _ _ _ (fun j _=> ?_) this;simp only[zw];cases m
 cases h;cases h;rename_i u
 split at h
 rename_i G;simp at h;subst h;simp only[SV.den] at g;exact⟨by simp,.inl ⟨by rw[g,yz G],rfl⟩⟩;cases h;cases h
theorem F0 {ti te:TI} {U:Nat} (E:C.ok P) (k:C.slice U=some (ti,te)) {v x:Value} {n:Nat} {xs:List Value} (a:w.ownsRow 0 ti.elem te.ty.size v n xs) {l:List te.ty.Data} (g:Src ρ.H w te.ty x l)
 (D:n<4611686018427387904) (F:(n+l.length)*te.bytes<=140737488355328) (ty:Nat):
 ∃(e:Value) (w':World) (us:List Value),(Builtin.append_ #[U,U] ty #[v,x]).run P w= .ok e w'/\w'.ownsRow 0 ti.elem te.ty.size e (n+l.length) (xs++us)/\w.grownBy w' v.ownBlock/\
  (e= .slice none 0 0↔v= .slice none 0 0/\l=[])/\(e.ownBlock=v.ownBlock\/e.ownBlock=some w.heap.size)/\us.length=l.length*te.ty.size/\
  ∀(i:Nat) x,l[i]? =some x->te.ty.rd ρ.H (fun j=>us[i*te.ty.size+j]?) x:=by
 obtain⟨_,m,_,b,d,G,f,q⟩:=ql E k;obtain⟨i,z,h,r,s,t,u,_⟩:=b.info;rw[m] at h;obtain⟨p,⟨rfl,rfl⟩|⟨ad,c,us,rfl,o,y,A,B⟩⟩:=g;refine⟨v,w,[],run_append_owned_none w 0 U ty ti.elem i te.ty.size d h v n xs a,by simpa using a,⟨rfl,rfl,rfl,jj _,fun _ _ _=>rfl⟩,by simp,.inl rfl,by simp,fun i x I=>by simp at I⟩;obtain⟨e,w',J,K,L,M,N⟩:=run_append_own_at (P:=P) w 0 U ty ti.elem i z te.ty.size te.bytes d h t (by rw[f,r]) s (by rw[f,<-b.zlen,<-u];simp) (by omega) v n xs a ad l.length c us o y A
  (by simp only[maxLen];omega) F (jt _)
 exact⟨e,w',us,J,K,L,by rw[M];simp,N,o,B⟩
theorem Zi {ti te:TI} {o:Value} {w':World} {n m:Nat} {xs us:List Value} {l' c:List te.ty.Data} (d:w'.ownsRow 0 ti.elem te.ty.size o (n+m) (xs++us)) (k:l'.length=n) (z:c.length=m)
 (l:xs.length=n*te.ty.size) (_:us.length=m*te.ty.size) {H:Imm}
 (p:∀(i:Nat) x,l'[i]? =some x->te.ty.rd H (fun j=>xs[i*te.ty.size+j]?) x) (q:∀(i:Nat) x,c[i]? =some x->te.ty.rd H (fun j=>us[i*te.ty.size+j]?) x):
 (o= .slice none 0 0/\n+m=0)\/∃(g a:Nat) (vs:Array Value),o= .slice (some ⟨g,0,none⟩) (n+m) a/\w'.heap[g]? =some (.cells vs ti.elem (0,0))/\vs.size=a*te.ty.size/\n+m<=a/\a<=maxLen/\
  ∀(i:Nat) x,(l'++c)[i]? =some x->te.ty.rd H (fun j=>vs[i*te.ty.size+j]?) x:=by
 obtain⟨A,⟨rfl,s⟩|⟨g,a,vs,rfl,_,t,u,v,w,y⟩⟩:=d;exact .inl ⟨rfl,s⟩;refine .inr ⟨g,a,vs,rfl,t,w,u,v,fun i x e=> ?_⟩;have hi:i<n+m:=(by have:=(jo.1 e).1;simp at this;omega);have b:∀j,j<te.ty.size->(xs++us)[i*te.ty.size+j]? =vs[i*te.ty.size+j]? :=by
  intro j f;have:(i+1)*te.ty.size<=(n+m)*te.ty.size:=jO _ hi;rw[zl] at this;rw[<-y,jU (by omega)];simp
 by_cases h:i<n;rw[jA (by omega)] at e;refine te.ty.rd_congr _ _ _ (fun j f=> ?_) (p i x e);rw[<-b j f,jA];have:(i+1)*te.ty.size<=n*te.ty.size:=jO _ h;rw[zl] at this;omega;rw[jx (by omega),k] at e;refine te.ty.rd_congr _ _ _ (fun j f=> ?_) (q _ x e);have r:n*te.ty.size<=i*te.ty.size:=jO _ (by omega);rw[<-b j f,jx (by omega),l];congr 1;rw[Nat.sub_mul];omega
theorem pT {U:Nat} {ti te:TI} (a:C.slice U=some (ti,te)):q8 te.ty=true:=by
 unfold Ctx.slice at a
 split at a
 split at a
 split at a
 split at a
 rename_i hk;simp at a;rw[<-a.2];exact hk;cases a;cases a;cases a;cases a
theorem pq {ti te:TI} {U dst:Nat} {c:Call} {b x:Operand} (hC:C.ok P) (Q:o.op= .call c) (N:c.callee= .builtin .append) (r:c.args= #[b,x]) (G:c.argTypes= #[U,U])
 (d:C.slice U=some (ti,te)) (M:Sat P B ρ σ.obj w) (hd:σ.obj dst=none) (hn:vJ σ.obj dst) {own:Option Nat} {n:Nat} {xs:List Value} {l' a:List te.ty.Data}
 (A:l'.length=n) (R:xs.length=n*te.ty.size) (_:n<4611686018427387904) (h1:∀(i:Nat) x,l'[i]? =some x->te.ty.rd ρ.H (fun j=>xs[i*te.ty.size+j]?) x)
 {row:Option Nat} (m:∀g,row=some g->∃o C,own=some o/\ρ.blk o=some (some (g,C))/\ρ.H g=none)
 (hX:∃(v:Value) (w':World) (us:List Value),(Builtin.append_ #[U,U] o.type #[ev b,ev x]).run P w= .ok v w'/\w'.ownsRow 0 ti.elem te.ty.size v (n+a.length) (xs++us)/\w.grownBy w' row/\
  (v= .slice none 0 0↔ev b= .slice none 0 0/\a=[])/\(v.ownBlock=row\/v.ownBlock=some w.heap.size)/\us.length=a.length*te.ty.size/\
  ∀(i:Nat) x,a[i]? =some x->te.ty.rd ρ.H (fun j=>us[i*te.ty.size+j]?) x) (hb:(n+a.length)*te.bytes<=140737488355328) {nl:Nl}
 (hA:ev b= .slice none 0 0->a=[]->nl≠.no) (hB:nl= .yes->¬(ev b= .slice none 0 0/\a=[])->l'++a≠[])
 {vc:List Prop} {wr:List (Nat×Option Ob)} (I:({σ with ob:=wr++σ.ob}:St).obj=It σ.obj own dst (.row ti.elem te.ty false nl (l'++a))):
 wh P o ev w (wb P B ρ σ ⟨vc,[],.own dst te.ty,[],wr,[dst]⟩):=by
 obtain⟨_,hte,_,E,_,_,_,_⟩:=ql hC d;obtain⟨v,w',us,W,r2,r3,r4,X,r6,r7⟩:=hX;have s:0<te.bytes:=by
  have:q8 te.ty=true:=by
   unfold Ctx.slice at d
   split at d
   split at d
   split at d
   split at d
   rename_i hk;simp at d;rw[<-d.2];exact hk;cases d;cases d;cases d;cases d
  exact(E.pos this).2
 have e:(l'++a).length=n+a.length:=(by simp[A]);have l:n+a.length<4611686018427387904:=by
  have:(n+a.length)*1<=(n+a.length)*te.bytes:=z8 _ s;omega
 have F:(execOp ev o).run P w= .ok (.value v) w':=by
  simp only[execOp,Q,jC,resolve,N,r,G,jT,js,invoke,builtin];simp[W]
 refine wU F ?_;have t:=Zi (te:=te) (ti:=ti) r2 A rfl R r6 h1 r7;rcases t with⟨y,e2⟩|⟨g,K,vs,y,e2,e3,Y,e5,e6⟩;obtain⟨f1,f2⟩:=r4.1 y;have D:l'++a=[]:=zk (by omega);obtain⟨k,S,T,V,J,q5⟩:=Dk M (own:=own) hd hn r3 (qE _ W) m none (by simp) (n+a.length) (.row ti.elem te.ty false nl (l'++a)) (fun k _ f _=>
  ⟨by rw[f,e],by rw[e];exact l,D,hA f1 f2⟩)
 refine⟨k,?_,T,?_,trivial⟩;show Sat P B k ({σ with ob:=wr++(ao σ []++σ.ob)}:St).obj _;simp only[ao,j6];rw[I];exact S;simp only[SV.den];intro p u;rw[V] at u;simp at u;subst u;exact⟨y,by rw[J];exact e2⟩;have O:¬(ev b= .slice none 0 0/\a=[]):=fun h=>by have:=r4.2 h;rw[y] at this;cases this
 have q:row=some g\/g=w.heap.size:=by
  rw[y] at X;simp only[Value.ownBlock,jy] at X;rcases X with h|h;exact .inl h.symm;exact .inr h
 have L:ρ.H g=none:=by
  rcases q with h|h;obtain⟨_,_,_,_,h⟩:=m g h;exact h;subst h;cases N:ρ.H w.heap.size with
  |none=>rfl
  |some c=>have:=M.good.lt N;omega
 obtain⟨k,S,T,V,J,q5⟩:=Dk M (own:=own) hd hn r3 (qE _ W) m (some (g,K)) (fun b C z=>by simp at z;rw[<-z.1];exact q) (n+a.length) (.row ti.elem te.ty false nl (l'++a)) (fun k Z f _=>
  ⟨by rw[f,e],by rw[e];exact l,fun h=>hB h O,vs,e2,e3,by rw[e];exact Y,e5,fun i x hx=>by rw[Z];exact e6 i x hx,by rw[Z];exact L⟩)
 refine⟨k,?_,T,?_,trivial⟩;show Sat P B k ({σ with ob:=wr++(ao σ []++σ.ob)}:St).obj _;simp only[ao,j6];rw[I];exact S;simp only[SV.den];intro p u;rw[V] at u;simp at u;subst u;exact⟨by rw[y,J],by rw[J];exact Y⟩
theorem qT {ti te:TI} {U dst:Nat} {c:Call} {b x:Operand} (s:C.ok P) (q:o.op= .call c) (A:c.callee= .builtin .append) (e:c.args= #[b,x]) (m:c.argTypes= #[U,U])
 (k:C.slice U=some (ti,te)) (z:Sat P B ρ σ.obj w) (D:σ.obj dst=none) (E:vJ σ.obj dst) {own:Option Nat} {n:Nat} {xs:List Value} {l' a:List te.ty.Data}
 (d:w.ownsRow 0 ti.elem te.ty.size (ev b) n xs) (p:l'.length=n) (f:n<4611686018427387904) (u:∀(i:Nat) x,l'[i]? =some x->te.ty.rd ρ.H (fun j=>xs[i*te.ty.size+j]?) x)
 (h:∀g,(ev b).ownBlock=some g->∃o C,own=some o/\ρ.blk o=some (some (g,C))/\ρ.H g=none)
 (l:Src ρ.H w te.ty (ev x) a) (t:(n+a.length)*te.bytes<=140737488355328) {nl:Nl}
 (v:ev b= .slice none 0 0->a=[]->nl≠.no) (y:nl= .yes->¬(ev b= .slice none 0 0/\a=[])->l'++a≠[])
 {vc:List Prop} {wr:List (Nat×Option Ob)} (r:({σ with ob:=wr++σ.ob}:St).obj=It σ.obj own dst (.row ti.elem te.ty false nl (l'++a))):
 wh P o ev w (wb P B ρ σ ⟨vc,[],.own dst te.ty,[],wr,[dst]⟩):=by
 exact pq s q A e m k z D E p d.1 f u h (F0 (P:=P) s k d l f t o.type) t v y r
theorem cB (σ:St) {o dst:Nat} (x:Ob) (a:o≠dst):({σ with ob:=[(o,none),(dst,some x)]++σ.ob}:St).obj=It σ.obj (some o) dst x:=funext fun k=>by
 simp only[j9,j6]
 rw[yP,yP]
 unfold It
 by_cases e:k=o
 subst e;simp[a]
 by_cases b:k=dst
 subst b;simp[e]
 have:o≠k:=fun h=>e h.symm
 simp[e,b,this,St.obj]
theorem fg (σ:St) {dst:Nat} (x:Ob):({σ with ob:=[(dst,some x)]++σ.ob}:St).obj=It σ.obj none dst x:=funext fun k=>by
 simp only[j9,j6]
 rw[yP]
 unfold It
 by_cases a:k=dst
 subst a;simp
 simp[a,St.obj]
theorem Iu {E:Nat} {t:Ty} {vs:Array Value} {b a m:Nat} (f:w.heap[b]? =some (.cells vs E (0,0))) (d:vs.size=a*t.size) (e:m<=a) (c:a<=maxLen):
 w.ownsRow 0 E t.size (.slice (some ⟨b,0,none⟩) m a) m (vs.toList.take (m*t.size)):=by
 have:m*t.size<=a*t.size:=jO _ e;exact⟨by simp;omega,.inr ⟨b,a,vs,rfl,jt _,f,e,c,d,rfl⟩⟩
theorem sS {t:Ty} {vs:Array Value} {H:Imm} {l:List t.Data} {m:Nat} (b:∀(i:Nat) x,l[i]? =some x->t.rd H (fun j=>vs[i*t.size+j]?) x) (_:m<=l.length):
 ∀(i:Nat) x,(l.take m)[i]? =some x->t.rd H (fun j=>(vs.toList.take (m*t.size))[i*t.size+j]?) x:=by
 intro i x a;rw[zY] at a
 split at a
 rename_i hi;refine t.rd_congr _ _ _ (fun j c=> ?_) (b i x a);have:(i+1)*t.size<=m*t.size:=jO _ hi;rw[zl] at this;rw[jU (by omega)];simp;cases a
theorem mL (z:Array Value) (n m:Nat):(Builtin.zeroCells z n)[m]? =if m<n*z.size then some (z[m%z.size]!) else none:=by
 unfold Builtin.zeroCells;rw[Array.getElem?_map];by_cases h:m<n*z.size;rw[jd h,jX (by simpa using h)];simp;rw[jc h,Array.getElem?_eq_none (by simpa using Nat.le_of_not_lt h)];rfl
theorem aR (z:Array Value) (n:Nat):(Builtin.zeroCells z n).size=n*z.size:=by simp[Builtin.zeroCells]
theorem Sw {dst:Nat} {c:Call} {b x:Operand} {U R:Nat} (hC:C.ok P) (hop:o.op= .call c) (W:c.callee= .builtin .append) (s:c.args= #[b,x]) (M:c.argTypes= #[U,R])
 (h:jb6 C σ dst b x U R=some out) (hS:Sat P B ρ σ.obj w) (F:∀x,SV.den P ρ (wx σ x) (ev x)) (O:vI out.vc) (hd:σ.obj dst=none) (hn:vJ σ.obj dst):wh P o ev w (wb P B ρ σ out):=by
 unfold jb6 at h
 split at h
 case h_2=>cases h
 rename_i ti te tx a htx
 split at h
 case h_2=>cases h
 rename_i v n hb Q hty T
 split at h
 case h_2=>cases h
 rename_i I;simp at h;subst h;simp only[vI] at O;obtain⟨S,q,_⟩:=O;obtain⟨_,hte,_,f,N,hka,hks,K⟩:=ql hC a;obtain⟨i,z,g0,g1,g2,g3,g4,g5⟩:=f.info;rw[hte] at g0;obtain⟨X,J⟩:=hC.ti _ _ htx;obtain⟨d,u1,_,_,_,_,u2,_⟩:=J.flat T;rw[X,u2 hty] at u1;have V:ev b= .slice none 0 0:=by
  have:=F b;rw[hb] at this;simp only[SV.den] at this;rw[this,yz I]
 obtain⟨k,hnk⟩:∃k:Nat,n=((k:Int):Ty.int.Data):=Int.eq_ofNat_of_zero_le (Int.le_of_lt S);subst hnk;have S:(0:Int)<(k:Int):=S;have hxv:ev x= .int .i64 (k:Int):=yi (i:=(k:Int)) (by rw[Q];rfl) (F x);have hk:0<k:=(by omega);have Z:Int.toNat ((k:Int):Ty.int.Data)=k:=jm k;rw[Z] at q⊢;have t:0<te.bytes:=by
  have:q8 te.ty=true:=by
   unfold Ctx.slice at a
   split at a
   .split at a
    .split at a
     .split at a
      .rename_i hk;simp at a;rw[<-a.2];exact hk
      .cases a
     .cases a
    .cases a
   .cases a
  exact(f.pos this).2
 have hkn:q8 te.ty=true:=by
  unfold Ctx.slice at a
  split at a
  .split at a
   .split at a
    .split at a
     .rename_i hk;simp at a;rw[<-a.2];exact hk
     .cases a
    .cases a
   .cases a
  .cases a
 have hk2:k<=140737488355328:=by
  have:k*1<=k*te.bytes:=z8 _ t;omega
 have m:=Lib.run_append_nil_zeros (P:=P) w U R o.type ti.elem i z .i64 .i64 N u1 g0 g3 k hk (by rw[g1];exact K) (by omega) (by rw[g2];omega);have u:=grownCap_ge w k 0 ti.elem;have G:=grownCap_le_maxLen w k 0 ti.elem (by simp only[maxLen];omega);generalize hcap:grownCap w k 0 ti.elem=l at m u G;have r:z.cells.size=te.ty.size:=(by rw[<-zb,g4,f.zlen,hks]);have L:(execOp ev o).run P w= .ok (.value (.slice (some ⟨w.heap.size,0,none⟩) k l)) (w.drew.alloc (.cells (Builtin.zeroCells z.cells k++Builtin.zeroCells z.cells (l-k)) ti.elem)):=by
  simp only[execOp,hop,jC,resolve,W,s,M,jT,js,invoke,builtin];simp[V,hxv,m]
 have y:w.grownBy (w.drew.alloc (.cells (Builtin.zeroCells z.cells k++Builtin.zeroCells z.cells (l-k)) ti.elem)) none:=
  (fun g=>⟨g.os,g.tape,g.output,g.size,g.block⟩) (World.grownBy_alloc w.drew (.cells (Builtin.zeroCells z.cells k++Builtin.zeroCells z.cells (l-k)) ti.elem) none)
 obtain⟨D,q1,q2,q3,q4,q5⟩:=Dk hS (own:=none) hd hn y (Nat.le_succ w.drawn) (by simp) (some (w.heap.size,l)) (fun b C E=>by simp at E;exact .inr E.1.symm) k
  (.row ti.elem te.ty false .yes (List.replicate k te.ty.dflt)) (fun D hH A _=>by
   refine⟨by rw[A];simp,by simp;omega,fun _=> ?_,_,heap_alloc_new w.drew _,?_,by simpa using u,G,fun i x Q=> ?_,?_⟩
   .intro e;have:=jP List.length e;simp at this;omega
   .rw[Array.size_append,aR,aR,r,<-zw];congr 1;omega
   .rw[hH];have hi:i<k:=(by have:=(jo.1 Q).1;simpa using this);have hx':x=te.ty.dflt:=by
     rw[List.getElem?_replicate,jd hi] at Q;simpa using Q.symm
    subst hx';refine te.ty.rd_congr _ _ _ (fun j hj=> ?_) (f.zd hkn ρ.H);have hm:i*te.ty.size+j<k*te.ty.size:=by
     have:(i+1)*te.ty.size<=k*te.ty.size:=jO _ hi;rw[zl] at this;omega
    rw[zn (by rw[aR,r];exact hm),mL,r,jd hm,Nat.mul_comm,Nat.mul_add_mod,Nat.mod_eq_of_lt hj,<-g4,zr];have Y:j<z.cells.size:=(by rw[r];exact hj);simp[Y]
   .rw[hH];simp only[fzH];cases W:ρ.H w.heap.size with
    |none=>rfl
    |some c=>have:=hS.good.lt W;omega)
 refine wU L ⟨D,?_,q2,?_,trivial⟩
 .show Sat P B D ({σ with ob:=[(dst,_)]++(ao σ []++σ.ob)}:St).obj _;simp only[ao,j6];rw[fg];exact q1
 .simp only[SV.den];intro p hp;rw[q3] at hp;simp at hp;subst hp;exact⟨by rw[q4],by rw[q4];exact u⟩
theorem Zj {c:Call} (k:C.ok P) (i:o.op= .call c) (m:c.callee= .builtin .cap) (h:jb5 C σ c.args.toList c.argTypes.toList=some out) (l:Sat P B ρ σ.obj w)
 (g:∀x,SV.den P ρ (wx σ x) (ev x)):wh P o ev w (wb P B ρ σ out):=by
 unfold jb5 at h
 split at h
 case h_2=>cases h
 rename_i x U a b;have a:c.args= #[x]:=(by rw[<-jL];exact a);have b:c.argTypes= #[U]:=by rw[<-jL];exact b
 split at h
 case h_2=>cases h
 rename_i tt v j n;obtain⟨ti,te⟩:=tt
 split at h
 case h_2=>cases h
 rename_i d;simp[Out.pure] at h;subst h;obtain⟨_,_,_,_,e,_⟩:=ql k j;have f:ev x= .slice none 0 0:=by
  have:=g x;rw[n] at this;simp only[SV.den] at this;rw[this,yz d]
 exact kN l (v:= .int .i64 0) (by simp[execOp,i,m,a,b,resolve,invoke,builtin,f,Builtin.cap_,jE e,goInt]) (y5 _) trivial
theorem N9 {dst:Nat} {c:Call} (V:C.ok P) (I:o.op= .call c) (Z:c.callee= .builtin .append) (h:jb7 C σ dst c.args.toList c.argTypes.toList=some out) (M:Sat P B ρ σ.obj w)
 (hev:∀x,SV.den P ρ (wx σ x) (ev x)) (r:vI out.vc) (R:σ.obj dst=none) (hn:vJ σ.obj dst):wh P o ev w (wb P B ρ σ out):=by
 unfold jb7 at h
 split at h
 case h_2=>cases h
 rename_i b x U U' f j;have f:c.args= #[b,x]:=(by rw[<-jL];exact f);have j:c.argTypes= #[U,U']:=by rw[<-jL];exact j
 split at h
 case h_2=>exact Sw V I Z f j h M hev r R hn
 case h_3=>cases h
 rename_i ti te hU H;have hU:=jb hU;subst hU
 split at h
 case h_2=>cases h
 rename_i news hnews;have s:=sR M hnews (hev x);have d:=hev b
 split at h
 .rename_i ob u Q;rw[Q] at d
  split at h
  .rename_i E t nl l A;have J:ob≠dst:=fun e=>by rw[e,R] at A;cases A
   split at h
   .rename_i l' D;obtain⟨e,rfl⟩:=kP D;cases e;simp only[gT] at h
    split at h
    .rename_i O;have O:=jb O;subst O;simp at h;subst h;simp only[vI] at r;obtain⟨p,hp,k1,k0,K⟩:=M.obs ob _ A;simp only[SV.den] at d;have d:=d p hp;cases p with
     |none=>
      obtain⟨F,e2⟩:=d;obtain⟨rfl,hnn'⟩:=K;refine qT V I Z f j H M R hn (own:=some ob) (n:=0) (xs:=[]) (by rw[F];exact World.ownsRow_nil _ _ _ _) rfl (by omega) (by simp) (by rw[F];simp[Value.ownBlock]) s (by simpa using r.1) (fun _ _=>hnn') ?_ (cB σ _ J);intro _ hnn;rw[F] at hnn;simpa using hnn
     |some q=>
      obtain⟨bb,Cp⟩:=q;obtain⟨F,e2⟩:=d;obtain⟨k3,vs,hw,T,hlC,N,hr,Y⟩:=K;simp only[fzH] at Y;have htk:l.take l.length=l:=zm;refine qT V I Z f j H M R hn (own:=some ob) (n:=l.length) (xs:=vs.toList.take (l.length*te.ty.size)) (by rw[F,k1];exact Iu hw T hlC N) rfl k0
       (by have:=sS (m:=l.length) hr (jj _);rwa [htk] at this) ?_ s r.1 ?_ ?_ (cB σ _ J)
      .intro g S;rw[F] at S;simp[Value.ownBlock] at S;subst S;exact⟨ob,Cp,rfl,hp,Y⟩
      .intro h;rw[F] at h;cases h
      .intro hnl _;have:=k3 hnl;simp[this]
    .cases h
   .cases h
  .cases h
 .rename_i ob u n Q;rw[Q] at d
  split at h
  .rename_i E t l A;have J:ob≠dst:=fun e=>by rw[e,R] at A;cases A
   split at h
   .rename_i l' D;obtain⟨e,rfl⟩:=kP D;cases e;simp only[gT] at h
    split at h
    .rename_i O;have O:=jb O;subst O;simp at h;subst h;simp only[vI] at r;obtain⟨p,hp,k1,k0,K⟩:=M.obs ob _ A;simp only[SV.den] at d;have d:=d p hp;cases p with
     |none=>obtain⟨_,K⟩:=K;exact absurd rfl K
     |some q=>
      obtain⟨bb,Cp⟩:=q;obtain⟨a,L,F,e2,e3,e4,W⟩:=d;have W:=W (.inl (by trivial));subst W;simp only[Nat.zero_mul] at F;have:L=Cp:=(by omega);subst this;obtain⟨k3,vs,hw,T,hlC,N,hr,Y⟩:=K;simp only[fzH] at Y;have G:(l.take n).length=n:=(by simp;omega);refine qT V I Z f j H M R hn (own:=some ob) (n:=n) (xs:=vs.toList.take (n*te.ty.size)) (by rw[F];exact Iu hw T e2 N) G (by omega)
       (sS (m:=n) hr (by omega)) ?_ s r.1 ?_ ?_ (cB σ _ J)
      .intro g S;rw[F] at S;simp[Value.ownBlock] at S;subst S;exact⟨ob,L,rfl,hp,Y⟩
      .intro h;rw[F] at h;cases h
      .intro hnl;cases hnl
    .cases h
   .cases h
  .rename_i E t l A;have J:ob≠dst:=fun e=>by rw[e,R] at A;cases A
   split at h
   .rename_i l' D;obtain⟨e,rfl⟩:=kP D;cases e;simp only[gT] at h
    split at h
    .rename_i O;have O:=jb O;subst O;simp at h;subst h;simp only[vI] at r;obtain⟨p,hp,k1,k0,K⟩:=M.obs ob _ A;simp only[SV.den] at d;have d:=d p hp;cases p with
     |none=>
      obtain⟨F,rfl⟩:=d;obtain⟨rfl,_⟩:=K;refine qT (l':=([]:List te.ty.Data).take 0) V I Z f j H M R hn (own:=some ob) (n:=0) (xs:=[]) (by rw[F];exact World.ownsRow_nil _ _ _ _) rfl (by omega) (by simp) (by rw[F];simp[Value.ownBlock]) s (by simpa using r.1) (fun _ _=>(by simp)) ?_ (cB σ _ J);intro h;cases h
     |some q=>
      obtain⟨bb,Cp⟩:=q;obtain⟨a,L,F,e2,e3,e4,W⟩:=d;have W:=W (.inl (by trivial));subst W;simp only[Nat.zero_mul] at F;have:L=Cp:=(by omega);subst this;obtain⟨k3,vs,hw,T,hlC,N,hr,Y⟩:=K;simp only[fzH] at Y;have G:(l.take n).length=n:=(by simp;omega);refine qT V I Z f j H M R hn (own:=some ob) (n:=n) (xs:=vs.toList.take (n*te.ty.size)) (by rw[F];exact Iu hw T e2 N) G (by omega)
       (sS (m:=n) hr (by omega)) ?_ s r.1 ?_ ?_ (cB σ _ J)
      .intro g S;rw[F] at S;simp[Value.ownBlock] at S;subst S;exact⟨ob,L,rfl,hp,Y⟩
      .intro h;rw[F] at h;cases h
      .intro hnl;cases hnl
    .cases h
   .cases h
  .rename_i E t l A;have J:ob≠dst:=fun e=>by rw[e,R] at A;cases A
   split at h
   .rename_i l' D;obtain⟨e,rfl⟩:=kP D;cases e;simp only[gT] at h
    split at h
    .rename_i y ys O;have O:=jb O;subst O;simp at h;subst h;simp only[vI] at r;obtain⟨p,hp,k1,k0,K⟩:=M.obs ob _ A;simp only[SV.den] at d;have d:=d p hp;cases p with
     |none=>
      obtain⟨F,rfl⟩:=d;obtain⟨rfl,_⟩:=K;refine qT (l':=([]:List te.ty.Data).take 0) V I Z f j H M R hn (own:=some ob) (n:=0) (xs:=[]) (by rw[F];exact World.ownsRow_nil _ _ _ _) rfl (by omega) (by simp) (by rw[F];simp[Value.ownBlock]) s (by simpa using r.1) (fun _ _=>(by simp)) ?_ (cB σ _ J);intro _ _;simp
     |some q=>
      obtain⟨bb,Cp⟩:=q;obtain⟨a,L,F,e2,e3,e4,W⟩:=d;have W:=W (.inl (by trivial));subst W;simp only[Nat.zero_mul] at F;have:L=Cp:=(by omega);subst this;obtain⟨k3,vs,hw,T,hlC,N,hr,Y⟩:=K;simp only[fzH] at Y;have G:(l.take n).length=n:=(by simp;omega);refine qT V I Z f j H M R hn (own:=some ob) (n:=n) (xs:=vs.toList.take (n*te.ty.size)) (by rw[F];exact Iu hw T e2 N) G (by omega)
       (sS (m:=n) hr (by omega)) ?_ s r.1 ?_ ?_ (cB σ _ J)
      .intro g S;rw[F] at S;simp[Value.ownBlock] at S;subst S;exact⟨ob,L,rfl,hp,Y⟩
      .intro h;rw[F] at h;cases h
      .intro _ _;simp
    .cases h
   .cases h
  .cases h
 .rename_i v Q;rw[Q] at d
  split at h
  .rename_i hn';simp at h;subst h;simp only[SV.den] at d;rw[yz hn'] at d;simp only[vI] at r;refine qT (l':=([]:List te.ty.Data)) V I Z f j H M R hn (own:=none) (n:=0) (xs:=[]) (by rw[d];exact World.ownsRow_nil _ _ _ _) rfl (by omega) (by simp) (by rw[d];simp[Value.ownBlock]) s (by simpa using r.1) (fun _ _=>(by simp)) ?_ (fg σ _);intro _ hnn;rw[d] at hnn;simpa using hnn
  .cases h
 .rename_i t l Q;rw[Q] at d
  split at h
  .rename_i l' y ys D;simp at h;subst h;obtain⟨e,rfl⟩:=kP D;cases e;simp only[gT,vI] at r⊢;simp only[SV.den] at d;obtain⟨hrv,a,n,X⟩:=d;have hv1:(l.length+(y::ys).length)*te.bytes<=140737488355328:=r.1;have hbs:=sR M (t:=te.ty) (sv:= .dat (.slice te.ty) l) (l:=l) (by simp[cw,qg,gT]) (v:=ev b) (by simpa only[SV.den] using hrv);obtain⟨a',n',c',f1,f2,f3,f4,f6,f5⟩:=w5 (t:= .slice te.ty) rfl hrv;rw[X] at f1;simp at f1;obtain⟨rfl,rfl,rfl⟩:=f1;cases a with
   |none=>
    have h0:=f6 rfl;have hl0:l=[]:=zk (by omega);subst hl0;subst h0;exact qT (l':=([]:List te.ty.Data)) V I Z f j H M R hn (own:=none) (n:=0) (xs:=[]) (by rw[X];exact World.ownsRow_nil _ _ _ _) rfl (by omega) (by simp) (by rw[X];simp[Value.ownBlock]) s (by simpa using r.1)
     (fun _ h=>by cases h) (fun h=>by cases h) (fg σ _)
   |some ad=>
    have hbs':=hbs.val;rcases hbs' with⟨g1,_⟩|⟨ad2,c2,olds,g1,g2,g3,g4,g5⟩
    .rw[X] at g1;cases g1
    .have hsv:=s.val;rcases hsv with⟨_,K⟩|⟨ad3,c3,us,k1,K,k3,k4,k5⟩
     .cases K
     .have hgx:ev b= .slice (some ad2) l.length l.length:=(by rw[X] at g1⊢;simp at g1;simp[g1.1,f2]);obtain⟨_,hte',_,hokE,hund,hka,hks,hpos⟩:=ql V H;obtain⟨i,z,i0,i1,i2,i3,i4,_⟩:=hokE.info;rw[hte'] at i0;have hbp:0<te.bytes:=(hokE.pos (pT H)).2;have hsm:(l.length+(y::ys).length)*1<=(l.length+(y::ys).length)*te.bytes:=z8 _ hbp;have hsz:i.size=te.ty.size:=(by rw[hks,i1]);have hzs:z.cells.size=te.ty.size:=(by rw[hks,<-hokE.zlen,<-i4];simp);have hml:l.length+(y::ys).length<=maxLen:=(by simp only[maxLen];omega);have hmp:l.length<l.length+(y::ys).length:=(by simp only[ze];omega);have hr:=run_append_grow (P:=P) w U o.type ti.elem i z hund i0 i3 ad2 l.length l.length olds (by rw[hsz];exact g2) g3 ad3 (y::ys).length c3 us (by rw[hsz];exact K) k3 hmp (by simp only[maxLen] at hml;omega) (growslice_fits hmp (by rw[i2];exact hv1));have hge:=grownCap_ge w (l.length+(y::ys).length) l.length ti.elem;have hcm:=grownCap_le_maxLen w (l.length+(y::ys).length) l.length ti.elem hml;have G:(olds++us).length=(l.length+(y::ys).length)*te.ty.size:=(by rw[jK,g2,K,zw]);refine pq V I Z f j H M R hn (own:=none) (row:=none) (n:=l.length) (xs:=olds) rfl g2 f4 g5 (fun g h=>by cases h)
       ⟨_,_,us,by rw[hgx,k1];exact hr,⟨G,.inr ⟨w.heap.size,_,_,rfl,jt _,heap_alloc_new w.drew _,hge,hcm,(by
        simp only[Array.size_append,List.size_toArray,size_zeroCells,hzs,g2,K,<-zw];congr 1;omega),(by
        simp only[Array.toList_append,jJ];rw[<-jJ,<-G];exact List.take_left)⟩⟩,⟨rfl,rfl,rfl,by simp,fun k hk _=>heap_alloc_old w.drew _ k hk⟩,⟨fun h=>by simp at h,fun h=>by cases h.2⟩,.inr rfl,K,k5⟩ hv1 (fun _ h=>by cases h) (fun h=>by cases h) (fg σ _)
  .cases h
 .cases h
theorem Dl {U n dst:Nat} {a:Array (Nat×Operand)} (hC:C.ok P) (X:o.op= .buildSlice U n a) (h:wd C σ dst (.buildSlice U n a)=some out) (hS:Sat P B ρ σ.obj w)
 (R:∀x,SV.den P ρ (wx σ x) (ev x)) (hd:σ.obj dst=none) (hn:vJ σ.obj dst):wh P o ev w (wb P B ρ σ out):=by
 simp only[wd] at h
 split at h
 case h_2=>cases h
 rename_i ti te hsl
 split at h
 case h_2=>cases h
 rename_i l fz hl
 split at h
 case h_2=>cases h
 rename_i u J;simp at h;subst h;have u:=jb u;subst u;have J:=jB J;obtain⟨_,hte,_,k,m,hka,S,G⟩:=ql hC hsl;obtain⟨i,z,O,g1,g2,g3,g4,_⟩:=k.info;rw[hte] at O;obtain⟨ρ1,r,g,hb1,hl1⟩:=wF fz hS;have F:∀x,SV.den P ρ1 (wx σ x) (ev x):=fun x=>SV.den_mono g _ _ (fun o W=>by simp at W) (R x)
 obtain⟨vs,M,e2,N,e4⟩:=dX r (v6 σ fz) F a.toList 0 l fz hl (fun o W=>W);have hzs:z.cells.size=te.size:=(by rw[<-k.zlen,<-g4];simp);have y:0<te.size:=G;have s:Instr.fill (fun i=>some (i*te.size,te.size)) ((Array.range (l.length*te.size)).map (z.cells[·%z.cells.size]!)) (a.map fun(i,x)=>(i,ev x)).toList=
  some (vs.flatMap fun v=>v.cells.toList).toArray:=by
  have:=Great.fill_whole y vs ((Array.range (l.length*te.size)).map (z.cells[·%z.cells.size]!)) (fun v hv=>by rw[N v hv,S]) (by simp[e2]);rw[<-this];congr 1;simpa using M
 have e:=Is vs N;have I:(execOp ev o).run P w= .ok (.value (.slice (some ⟨w.heap.size,0,none⟩) l.length l.length)) (w.alloc (.cells (vs.flatMap fun v=>v.cells.toList).toArray ti.elem)):=by
  have:(Instr.buildSlice U l.length (a.map fun(i,x)=>(i,ev x))).run P w= .ok (.slice (some ⟨w.heap.size,0,none⟩) l.length l.length) (w.alloc (.cells (vs.flatMap fun v=>v.cells.toList).toArray ti.elem)):=by
   have q:i.size=te.size:=g1;by_cases h0:l.length=0
   .have K:vs=[]:=zk (by omega);have Z:a= #[]:=by
     subst K;simp at M;exact M
    subst Z K;simp[Instr.buildSlice,jE m,sizeOf,typeInfo,O,h0,newRow,Instr.fill,show Array.range 0= #[] from rfl]
   .exact run_buildSlice w U ti.elem l.length _ _ i z m O g3 (by rw[q];omega) (by rw[q];have:=Nat.mul_pos (Nat.pos_of_ne_zero h0) y;omega) (by rw[q];exact s)
  simp only[execOp,X,jC];rw[this];simp
 refine wU I ?_;have Q:(σ.frz fz).obj dst=none:=(by rw[q9,hd];simp);have V:vJ (σ.frz fz).obj dst:=by
  intro o' T f cs d;rw[q9] at d
  split at d
  .cases D:σ.obj o' with
   |none=>rw[D] at d;cases d
   |some x=>
    rw[D] at d;cases x<;>simp[vi] at d
    obtain⟨rfl,_,rfl⟩:=d;exact hn o' _ _ _ D
  .exact hn o' _ _ _ d
 have L:l.length<=16777216:=by
  have:l.length*1<=l.length*te.size:=z8 _ y;omega
 obtain⟨A,q1,q2,q3,q4,q5⟩:=Dk r (own:=none) Q V (w.grownBy_alloc (.cells (vs.flatMap fun v=>v.cells.toList).toArray ti.elem) none) (jj _) (by simp) (some (w.heap.size,l.length)) (fun b C E=>by simp at E;exact .inr E.1.symm)
  l.length (.row ti.elem te.ty false .no l) (fun A hH t _=>by
   refine⟨t,by omega,by simp,_,heap_alloc_new w _,by simp[e,e2],jj _,by simp only[maxLen];omega,fun i x D=> ?_,?_⟩
   .rw[hH];have hi:i<vs.length:=(by have:=(jo.1 D).1;omega);have hv:=e4 i _ x (jr hi) D;refine te.ty.rd_congr _ _ _ (fun j hj=> ?_) hv.2.2;have:=Dj vs N i j _ (jr hi) hj;simpa using this.symm
   .rw[hH];simp only[fzH];cases hc:ρ1.H w.heap.size with
    |none=>rfl
    |some c=>have:=r.good.lt hc;omega)
 refine⟨A,?_,(g.weaken (by simp)).trans q2,?_,trivial⟩
 .show Sat P B A ({σ with ob:=[(dst,_)]++(ao σ fz++σ.ob)}:St).obj _;rw[show({σ with ob:=[(dst,some (Ob.row ti.elem te.ty false .no l))]++(ao σ fz++σ.ob)}:St)=({(σ.frz fz) with ob:=[(dst,some (Ob.row ti.elem te.ty false .no l))]++(σ.frz fz).ob}:St) from rfl,fg];exact q1
 .simp only[SV.den];intro p Y;rw[q3] at Y;simp at Y;subst Y;exact⟨by rw[q4],by rw[q4];exact jj _⟩
end
end Go.X
