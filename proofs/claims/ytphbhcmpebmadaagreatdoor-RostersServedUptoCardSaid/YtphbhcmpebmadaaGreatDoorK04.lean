/-
  Part 4 of the road: a checked reading of bodies, and what the functions on it do (X24 X27 X28 X29 X30 X31 X32 X33 X34 X35 X36 X37 X38 X39 X40 X41 X42 X43 X44 X47 X45 X46).
-/
import Derived.Test.YtphbhcmpebmadaaGreatDoorK03
import Derived.Laws.StructEq
import Derived.ChangeKeysEq
import Derived.TacticsIn
import Derived.OrdersIn
import Derived.RangeFuncIn
import Derived.RangeFuncRecord
import Derived.RangeFuncSeq
import Derived.RangeFuncLeaves
import Derived.Shelf.SlSortCmp.NoneTotal
import Derived.Shelf.SlSortCmp.WholeK
import Derived.Shelf.Sort.Plain
import Derived.Shelf.Slices.In.SortNone
namespace Go.X
open Go.RowKit (Below)
def jaU (a b:IntKind):Bool:=decide (a=b)
def jnF:Value->Value->Bool
 | .int k n,.int k' e=>(match jaU k k' with|true=>decide (n=e)|false=>false)
 | .bool b,.bool c=>(match b,c with|true,true=>true|false,false=>true|_,_=>false)
 | .slice none a b,.slice none d c=>(match Nat.beq a d,Nat.beq b c with|true,true=>true|_,_=>false)
 | .pointer none,.pointer none=>true
 | .map none,.map none=>true
 | .nilFunc,.nilFunc=>true
 | .nilIface,.nilIface=>true
 |_,_=>false
theorem jaT {a b:Value} (h:jnF a b=true):a=b:=by
 unfold jnF at h
 split at h
 .split at h
  .rename_i hk;simp[jaU] at hk h;rw[hk,h]
  .cases h
 .rename_i x y;cases x<;>cases y<;>simp_all
 .split at h
  .rename_i c d;rw[jG0 c,jG0 d]
  .cases h
 .rfl
 .rfl
 .rfl
 .rfl
 .cases h
def jup:List Value->List Value->Bool
 |[],[]=>true
 |a::r,b::s=>(match jnF a b with|true=>jup r s|false=>false)
 |_,_=>false
theorem jpJ:∀{a b:List Value},jup a b=true->a=b
 |[],[],_=>rfl
 |a::r,b::s,h=>by
  simp only[jup] at h
  split at h
  .rename_i c;rw[jaT c,jpJ h]
  .cases h
 |[],_::_,h=>by cases h
 |_::_,[],h=>by cases h
def jGh:Bool->Bool->Bool
 |true,true=>true
 |false,false=>true
 |_,_=>false
theorem jAB {a b:Bool} (h:jGh a b=true):a=b:=by cases a<;>cases b<;>simp_all [jGh]
def jcV:List Field->List (Nat×Nat)->Bool
 |[],[]=>true
 |f::r,p::s=>(match Nat.beq f.offset p.1,Nat.beq f.type p.2 with|true,true=>jcV r s|_,_=>false)
 |_,_=>false
theorem jfx:∀{a:List Field} {b:List (Nat×Nat)},jcV a b=true->a.length=b.length/\∀(k:Nat) (p:Nat×Nat),b[k]? =some p->∃f:Field,a[k]? =some f/\f.offset=p.1/\f.type=p.2
 |[],[],_=>⟨rfl,fun k p h=>by simp at h⟩
 |f::r,q::s,h=>by
  simp only[jcV] at h
  split at h
  .rename_i e g
   obtain⟨c,d⟩:=jfx h
   refine⟨by simp[c],fun k p hk=> ?_⟩
   cases k with
   |zero=>simp at hk;subst hk;exact⟨f,by simp,jG0 e,jG0 g⟩
   |succ k=>simpa using d k p (by simpa using hk)
  .cases h
 |[],_::_,h=>by cases h
 |_::_,[],h=>by cases h
def jq9 (P:Program) (go:Nat->Ty->Bool):List Field->Nat->Ty->Bool
 |[],_,.unit=>true
 |f::fs,off,.pair a b=>match f.name== "_",Nat.beq f.offset off,P.info? f.type,go f.type a with
  |false,true,some i,true=>(match Nat.beq i.size a.size with|true=>jq9 P go fs (off+a.size) b|false=>false)
  |_,_,_,_=>false
 |_,_,_=>false
def jaA (P:Program):Nat->Nat->Ty->Bool
 |0,_,_=>false
 |d+1,T,ty=>match ty,P.underlying T with
  | .int,some (.int .i64)=>true
  | .bool,some .bool=>true
  | .uint k,some (.int k')=>jaU k k'
  | .pair a b,some (.struct fs)=>(match P.stoodInHeld T with|false=>jq9 P (jaA P d) fs.toList 0 (.pair a b)|true=>false)
  |_,_=>false
section
variable {P:Program}
def jDt (P:Program) (D T:Nat) (ty:Ty):Prop:=∀(H:Imm) (w:World) (x y:Value) (a b:ty.Data),ty.rv H x a->ty.rv H y b->(Op.equalIn D T x y).run P w= .ok (@decide (a=b) (ty.decEq a b)) w
theorem ju7 {a b:Ty} (x y:(Ty.pair a b).Data): @decide (x=y) ((Ty.pair a b).decEq x y)=(@decide (x.1=y.1) (a.decEq _ _)&& @decide (x.2=y.2) (b.decEq _ _)):=by
 have e:= @Prod.ext_iff _ _ x y;by_cases c:x.1=y.1<;>by_cases d:x.2=y.2
 .rw[@decide_eq_true _ (_) (e.2 ⟨c,d⟩),@decide_eq_true _ (_) c,@decide_eq_true _ (_) d];rfl
 .rw[@decide_eq_false _ (_) (fun h=>d (e.1 h).2),@decide_eq_true _ (_) c,@decide_eq_false _ (_) d];rfl
 .rw[@decide_eq_false _ (_) (fun h=>c (e.1 h).1),@decide_eq_false _ (_) c];rfl
 .rw[@decide_eq_false _ (_) (fun h=>c (e.1 h).1),@decide_eq_false _ (_) c];rfl
theorem jzw {d T:Nat} {ty:Ty} (h:jaA P d T ty=true) (w:World):(isAgg T).run P w= .ok ty.agg w:=by
 cases d with
 |zero=>cases h
 |succ d=>
  unfold jaA at h
  split at h
  .rename_i e;simp[isAgg,run_underlying e,Ty.agg]
  .rename_i e;simp[isAgg,run_underlying e,Ty.agg]
  .rename_i e;simp[isAgg,run_underlying e,Ty.agg]
  .rename_i e;simp[isAgg,run_underlying e,Ty.agg]
  .cases h
theorem jsH {d T off:Nat} {ty:Ty} {i:TypeInfo} (h:jaA P d T ty=true) (hi:P.info? T=some i) (l:i.size=ty.size) {H:Imm} {xs:Array Value} {x:ty.Data} (f:ty.rd H (fun j=>xs[off+j]?) x)
 (e:off+ty.size<=xs.size) (w:World):∃v,(part T xs off).run P w= .ok v w/\ty.rv H v x:=by
 have c:=jzw h w;have g:(sizeOf T).run P w= .ok ty.size w:=(by simp[sizeOf,typeInfo,hi,l]);cases b:ty.agg with
 |true=>
  refine⟨.agg (xs.extract off (off+ty.size)),?_,?_,?_,?_⟩
  .rw[b] at c;simp[part,c,g]
  .simp[kU,b]
  .simp[Value.cells];omega
  .refine Ty.rd_congr ty _ _ _ (fun j k=> ?_) f;simp only[Value.cells];rw[Array.getElem?_extract];rw[if_pos (by omega)]
 |false=>
  have m:ty.size=1:=by
   cases d with
   |zero=>cases h
   |succ d=>
    unfold jaA at h
    split at h<;>first|(cases h;done)|rfl|(simp[Ty.agg] at b;done)
  have a:xs[off]? =some xs[off]:=jHv (by omega);refine⟨xs[off],?_,?_⟩
  .rw[b] at c;simp[part,c,a]
  .exact kG b (Ty.rd_congr ty _ _ _ (fun j k=>by
    have:j=0:=(by omega);subst this;simp[a]) f)
theorem jk1 {d D:Nat} (e:∀T ty,jaA P d T ty=true->jDt P D T ty) {H:Imm} {xs ys:Array Value} (w:World):∀(fs:List Field) (off:Nat) (ty:Ty),jq9 P (jaA P d) fs off ty=true->
 ∀x y:ty.Data,ty.rd H (fun j=>xs[off+j]?) x->ty.rd H (fun j=>ys[off+j]?) y->off+ty.size<=xs.size->off+ty.size<=ys.size->
  (Op.eqFields D xs ys fs).run P w= .ok (@decide (x=y) (ty.decEq x y)) w
 |[],off,ty,h,x,y,k,l,_,_=>by
  cases ty with
  |unit=>simp[Op.eqFields]
  |_=>cases h
 |f::fs,off,ty,h,x,y,k,l,hlx,hly=>by
  cases ty with
  |pair a b=>
   simp only[jq9] at h
   split at h
   case h_2=>cases h
   rename_i i p q n g
   split at h
   case h_2=>cases h
   rename_i r
   have m:=jG0 r
   have o:=jG0 q
   simp only[Ty.size] at hlx hly
   obtain⟨v,z,A⟩:=jsH (off:=off) g n m (xs:=xs) (x:=x.1) k.1 (by omega) w
   obtain⟨u,B,C⟩:=jsH (off:=off) g n m (xs:=ys) (x:=y.1) l.1 (by omega) w
   have s:=e _ _ g H w v u x.1 y.1 A C
   have t:=jk1 e w fs (off+a.size) b h x.2 y.2 (by
    refine Ty.rd_congr b _ _ _ (fun j _=> ?_) k.2
    rw[jIa]) (by
    refine Ty.rd_congr b _ _ _ (fun j _=> ?_) l.2
    rw[jIa]) (by omega) (by omega)
   have c:f.name≠ "_":=by simpa using p
   rw[ju7]
   unfold Op.eqFields
   rw[if_pos c,o]
   simp only[Sem.run_bind,z,B,s,Result.andThen_ok,Sem.run_ite]
   cases E: @decide (x.1=y.1) (a.decEq x.1 y.1) with
   |true=>simpa using t
   |false=>simp
  |_=>cases h
theorem jeS:∀(d:Nat) (T:Nat) (ty:Ty) (m:Nat),jaA P d T ty=true->jDt P (d+m) T ty
 |0,_,_,_,h=>by cases h
 |d+1,T,ty,m,h=>by
  intro H w x y a b c f
  rw[show d+1+m=(d+m)+1 by omega]
  unfold jaA at h
  split at h
  .rename_i e
   rw[zF c,zF f,run_equalIn_int w _ _ _ _ _ _ e]
   congr 1
  .rename_i e
   rw[zY c,zY f,run_equalIn_bool' w _ _ _ _ e]
   congr 1
  .rename_i k k' e
   rw[wO c,wO f,run_equalIn_int w _ _ _ _ _ _ e]
   congr 1
  .rename_i t u fs e
   split at h
   case h_2=>cases h
   rename_i g
   have l:P.underlying T=some (.struct (P.fieldsOf T)):=by simp[Program.fieldsOf,e]
   have n:(P.fieldsOf T)=fs:=by simp[Program.fieldsOf,e]
   obtain⟨o,p,i⟩:=c
   obtain⟨q,r,j⟩:=f
   have agg:∀{v:Value},kU v=true->∃vs,v= .agg vs:=fun{v} h=>by cases v<;>simp_all [kU]
   obtain⟨xs,rfl⟩:=agg o
   obtain⟨ys,rfl⟩:=agg q
   rw[run_equalIn_struct w _ _ _ _ l g,n]
   simp only[Value.cells] at p i r j
   exact jk1 (D:=d+m) (fun T ty h=>jeS d T ty m h) w fs.toList 0 _ h a b (by simpa using i) (by simpa using j) (by omega) (by omega)
  .cases h
def zIs:Ty->List Value->Option (List Value)
 | .unit,l=>some l
 | .pair a b,l=>match zIs a l with|some r=>zIs b r|none=>none
 | .int,v::r=>match jnF v (.int .i64 0) with|true=>some r|false=>none
 | .uint k,v::r=>match jnF v (.int k 0) with|true=>some r|false=>none
 | .bool,v::r=>match jnF v (.bool false) with|true=>some r|false=>none
 | .slice _,v::r=>match jnF v (.slice none 0 0) with|true=>some r|false=>none
 | .map _ _,v::r=>match jnF v (.map none) with|true=>some r|false=>none
 | .ptr _,v::r=>match jnF v (.pointer none) with|true=>some r|false=>none
 |_,[]=>none
theorem jxB (H:Imm):∀(t:Ty) (l r:List Value),zIs t l=some r->∃us,l=us++r/\us.length=t.size/\t.rd H (fun i=>us[i]?) t.dflt
 | .unit,l,r,h=>by simp[zIs] at h;subst h;exact⟨[],rfl,rfl,trivial⟩
 | .pair a b,l,r,h=>by
  simp only[zIs] at h
  split at h
  .rename_i d e
   obtain⟨us,rfl,g,j⟩:=jxB H a l d e
   obtain⟨vs,rfl,m,n⟩:=jxB H b d r h
   refine⟨us++vs,by simp,by simp[Ty.size,g,m],?_,?_⟩
   .exact Ty.rd_congr a _ _ _ (fun i hi=>by rw[jHf (by omega)]) j
   .refine Ty.rd_congr b _ _ _ (fun i hi=> ?_) n
    simp only
    rw[jHe (by omega)]
    congr 1;omega
  .cases h
 | .int,[],r,h=>by cases h
 | .uint _,[],r,h=>by cases h
 | .bool,[],r,h=>by cases h
 | .slice _,[],r,h=>by cases h
 | .map _ _,[],r,h=>by cases h
 | .ptr _,[],r,h=>by cases h
 | .int,v::l,r,h=>by
  simp only[zIs] at h
  split at h
  .rename_i c;simp at h;subst h;rw[jaT c];exact⟨[_],rfl,rfl,rfl⟩
  .cases h
 | .uint k,v::l,r,h=>by
  simp only[zIs] at h
  split at h
  .rename_i c;simp at h;subst h;rw[jaT c];exact⟨[_],rfl,rfl,rfl⟩
  .cases h
 | .bool,v::l,r,h=>by
  simp only[zIs] at h
  split at h
  .rename_i c;simp at h;subst h;rw[jaT c];exact⟨[_],rfl,rfl,rfl⟩
  .cases h
 | .slice _,v::l,r,h=>by
  simp only[zIs] at h
  split at h
  .rename_i c;simp at h;subst h;rw[jaT c];exact⟨[_],rfl,rfl,juw _⟩
  .cases h
 | .map _ _,v::l,r,h=>by
  simp only[zIs] at h
  split at h
  .rename_i c;simp at h;subst h;rw[jaT c];exact⟨[_],rfl,rfl,none,rfl,fun _=>rfl,fun b f=>(by cases f)⟩
  .cases h
 | .ptr _,v::l,r,h=>by
  simp only[zIs] at h
  split at h
  .rename_i c;simp at h;subst h;rw[jaT c];exact⟨[_],rfl,rfl,none,rfl,rfl⟩
  .cases h
def jC5:Value->Prop
 | .int _ _=>True
 | .bool _=>True
 |_=>False
theorem jlz {n:Nat} {v:Value} (h:jC5 v):Instr.sameBits n v v=true:=by
 cases v<;>first|exact h.elim|(cases n<;>simp[Instr.sameBits])
section
variable {P:Program}
def jEX (ty:Ty):Prop:=∀(H:Imm) (f g:Nat->Option Value) (d:ty.Data),ty.rd H f d->ty.rd H g d->∀i,i<ty.size->∃v,f i=some v/\g i=some v/\jC5 v
theorem jhA {go:Nat->Ty->Bool} (c:∀T ty,go T ty=true->jEX ty):∀(fs:List Field) (off:Nat) (ty:Ty),jq9 P go fs off ty=true->jEX ty
 |[],off,ty,h=>by
  cases ty with
  |unit=>intro H f g d _ _ i hi;simp[Ty.size] at hi
  |_=>cases h
 |f::fs,off,ty,h=>by
  cases ty with
  |pair a b=>
   simp only[jq9] at h
   split at h
   case h_2=>cases h
   rename_i i t u w q
   split at h
   case h_2=>cases h
   intro H p g d l m j r
   simp only[Ty.size] at r
   by_cases k:j<a.size
   .exact c _ _ q H p g d.1 l.1 m.1 j k
   .obtain⟨v,n,o,s⟩:=jhA c fs _ b h H _ _ d.2 l.2 m.2 (j-a.size) (by omega)
    have e:a.size+(j-a.size)=j:=by omega
    rw[e] at n o
    exact⟨v,n,o,s⟩
  |_=>cases h
theorem jq8:∀(d T:Nat) (ty:Ty),jaA P d T ty=true->jEX ty
 |0,_,_,h=>by cases h
 |d+1,T,ty,h=>by
  unfold jaA at h
  split at h
  .intro H f g d a b i hi
   have:i=0:=by simp[Ty.size] at hi;exact hi
   subst this;exact⟨_,a,b,trivial⟩
  .intro H f g d a b i hi
   have:i=0:=by simp[Ty.size] at hi;exact hi
   subst this;exact⟨_,a,b,trivial⟩
  .intro H f g d a b i hi
   have:i=0:=by simp[Ty.size] at hi;exact hi
   subst this;exact⟨_,a,b,trivial⟩
  .split at h
   case h_2=>cases h
   exact jhA (fun T ty h=>jq8 d T ty h) _ _ _ h
  .cases h
def jF6 (P:Program) (D T:Nat) (ty:Ty):Prop:=∀(H:Imm) (w:World) (x:Value) (a:ty.Data) (e:Bool),ty.rv H x a->(Instr.checkKey e D T x).run P w= .ok () w
theorem jmB {d D:Nat} (g:∀T ty,jaA P d T ty=true->jF6 P D T ty) {H:Imm} {xs:Array Value} (e:Bool) (w:World):∀(fs:List Field) (off:Nat) (ty:Ty),jq9 P (jaA P d) fs off ty=true->
 ∀x:ty.Data,ty.rd H (fun j=>xs[off+j]?) x->off+ty.size<=xs.size->(forIn (m:=Sem) fs PUnit.unit (fun f _=>
  if f.name≠ "_" then do
   let l <-part f.type xs f.offset
   Instr.checkKey e D f.type l
   pure (ForInStep.yield PUnit.unit)
  else pure (ForInStep.yield PUnit.unit))).run P w= .ok PUnit.unit w
 |[],off,ty,h,x,k,_=>by simp
 |f::fs,off,ty,h,x,k,hlx=>by
  cases ty with
  |pair a b=>
   simp only[jq9] at h
   split at h
   case h_2=>cases h
   rename_i i q r s n
   split at h
   case h_2=>cases h
   rename_i t
   have p:=jG0 t
   have o:=jG0 r
   simp only[Ty.size] at hlx
   obtain⟨v,z,A⟩:=jsH (off:=off) n s p (xs:=xs) (x:=x.1) k.1 (by omega) w
   have u:=g _ _ n H w v x.1 e A
   have y:=jmB g e w fs (off+a.size) b h x.2 (by
    refine Ty.rd_congr b _ _ _ (fun j _=> ?_) k.2
    rw[jIa]) (by omega)
   have c:f.name≠ "_":=by simpa using q
   rw[List.forIn_cons]
   simp only[Sem.run_bind,if_pos c,o,z,Result.andThen_ok,u,Sem.run_pure]
   exact y
  |_=>cases h
theorem jko:∀(d:Nat) (T:Nat) (ty:Ty) (m:Nat),jaA P d T ty=true->jF6 P (d+m) T ty
 |0,_,_,_,h=>by cases h
 |d+1,T,ty,m,h=>by
  intro H w x a e b
  rw[show d+1+m=(d+m)+1 by omega]
  unfold jaA at h
  split at h
  .rename_i u
   rw[zF b];simp[Instr.checkKey,run_underlying u]
  .rename_i u
   rw[zY b];simp[Instr.checkKey,run_underlying u]
  .rename_i u
   rw[wO b];simp[Instr.checkKey,run_underlying u]
  .rename_i t u fs f
   split at h
   case h_2=>cases h
   obtain⟨g,i,c⟩:=b
   have agg:∀{v:Value},kU v=true->∃vs,v= .agg vs:=fun{v} h=>by cases v<;>simp_all [kU]
   obtain⟨xs,rfl⟩:=agg g
   simp only[Value.cells] at i c
   have:=jmB (D:=d+m) (fun T ty h=>jko d T ty m h) e w fs.toList 0 _ h a (by simpa using c) (by omega)
   unfold Instr.checkKey
   simp only[Sem.run_bind,run_underlying f,Result.andThen_ok]
   rw[<-Array.forIn_toList,this]
   rfl
  .cases h
theorem jkN {H:Imm} (a:Int):∀(es:List MapEntry) (ks:List Int) (i:Nat),jm5 H .int es ks->Instr.findNow (.int .i64) (.int .i64 a) es i=some (vS .int a ks es i)
 |[],[],i,_=>rfl
 |[],_::_,_,h=>h.elim
 |_::_,[],_,h=>h.elim
 |e::es,k::ks,i,h=>by
  have b:=zF h.1
  simp only[Instr.findNow,b,Instr.sameNow,if_true,vS]
  by_cases hk:a=k
  .have:(a==k)=true:=by simpa using hk
   rw[this,if_pos (by simpa using hk)]
  .have:(a==k)=false:=by simpa using hk
   rw[this,if_neg (by simpa using hk)]
   exact jkN a es ks (i+1) h.2
theorem jbB {H:Imm} {T:Nat} {ty:Ty} (b:jaA P 20 T ty=true) {x:Value} {a:ty.Data} (c:ty.rv H x a) (w:World):∀(es:List MapEntry) (ks:List ty.Data) (i:Nat),jm5 H ty es ks->
 (Instr.findAsking T x es i).run P w= .ok (vS ty a ks es i) w
 |[],[],i,_=>by simp[Instr.findAsking,vS]
 |[],_::_,_,h=>h.elim
 |_::_,[],_,h=>h.elim
 |e::es,k::ks,i,h=>by
  have d:(Op.equal T x e.key).run P w= .ok (@decide (a=k) (ty.decEq a k)) w:=jeS 20 T ty 9980 b H w x e.key a k c h.1
  unfold Instr.findAsking vS
  simp only[Sem.run_bind,d,Result.andThen_ok,Sem.run_ite]
  split
  .simp
  .exact jbB b c w es ks (i+1) h.2
def jEh (P:Program) (T:Nat) (ty:Ty):Bool:=match ty,P.underlying T with
 | .int,some (.int .i64)=>true
 | .pair _ _,some (.struct _)=>jaA P 20 T ty
 |_,_=>false
theorem js6 {T:Nat} {ty:Ty} (h:jEh P T ty=true):
 (∀(H:Imm) (x:Value) (a:ty.Data) (w:World) (e:Bool),ty.rv H x a->(Instr.checkKey e 10000 T x).run P w= .ok () w)/\
 (∀(H:Imm) (es:List MapEntry) (ks:List ty.Data) (x:Value) (a:ty.Data) (w:World),ty.rv H x a->jm5 H ty es ks->(Instr.findKey T x es).run P w= .ok (vS ty a ks es 0) w)/\
 (∀(H:Imm) (x y:Value) (a:ty.Data),ty.rv H x a->ty.rv H y a->Instr.sameBits 10000 x y=true):=by
 unfold jEh at h
 split at h
 .rename_i m;have f:jaA P 20 T .int=true:=(by unfold jaA;rw[m]);refine⟨fun H x a w e b=>jko 20 T .int 9980 f H w x a e b,fun H es ks x a w b hk=> ?_,fun H x y a b j=> ?_⟩
  .rw[zF b];simp only[Instr.findKey,Sem.run_bind,run_underlying m,Result.andThen_ok,jkN a es ks 0 hk,Sem.run_pure]
  .rw[zF b,zF j];simp[Instr.sameBits]
 .rename_i t u fs m;have f:=h;refine⟨fun H x a w e b=>jko 20 T _ 9980 f H w x a e b,fun H es ks x a w b hk=> ?_,fun H x y a b j=> ?_⟩
  .have o:=jbB f b w es ks 0 hk;simp only[Instr.findKey,Sem.run_bind,run_underlying m,Result.andThen_ok];cases es with
   |nil=>
    cases ks with
    |nil=>simp[Instr.findNow,vS]
    |cons k ks=>exact hk.elim
   |cons e es=>
    have:Instr.findNow (.struct fs) x (e::es) 0=none:=(by simp[Instr.findNow,Instr.sameNow]);rw[this];exact o
  .have A:=jq8 20 T _ f H;have agg:∀{v:Value},kU v=true->∃vs,v= .agg vs:=fun{v} h=>by cases v<;>simp_all [kU]
   obtain⟨xs,rfl⟩:=agg b.1;obtain⟨ys,rfl⟩:=agg j.1;have B:=b.2.1;have C:=j.2.1;simp only[Value.cells] at B C;have g:=A (fun i=>xs[i]?) (fun i=>ys[i]?) a b.2.2 j.2.2;have s:xs=ys:=by
    refine Array.ext (by omega) (fun i d l=> ?_);obtain⟨v,c,n,_⟩:=g i (by omega);rw[jHv d] at c;rw[jHv l] at n;simp at c n;rw[c,n]
   subst s;unfold Instr.sameBits;simp only[beq_self_eq_true,Bool.true_and,jHE];intro p r;obtain⟨i,hi⟩:=jIi r;rw[List.getElem?_zip_eq_some] at hi;obtain⟨d,l⟩:=hi;have e:p.1=p.2:=(by rw[d] at l;simpa using l);rw[<-e];have q:=(jG6.1 d).1;obtain⟨v,c,_,z⟩:=g i (by simp at q;omega);have:xs.toList[i]? =some v:=(by simpa using c);rw[d] at this;simp at this;rw[this];exact jlz z
 .cases h
end
def jgv (e:Nat):List (Nat×Nat)->Nat->Bool
 |[],_=>true
 |p::r,k=>match Nat.beq p.1 k,Nat.beq p.2 e with
  |true,true=>jgv e r (k+1)
  |_,_=>false
theorem jgu {e:Nat}:∀(l:List (Nat×Nat)) (k:Nat),jgv e l k=true->∀(j:Nat) (p:Nat×Nat),l[j]? =some p->p=(k+j,e)
 |[],_,_,j,p,h=>by simp at h
 |q::l,k,h,j,p,hj=>by
  simp only[jgv] at h
  split at h
  case h_2=>cases h
  rename_i a b
  cases j with
  |zero=>
   simp at hj;subst hj
   exact Prod.ext (jG0 a) (jG0 b)
  |succ j=>
   have:=jgu l (k+1) h j p (by simpa using hj)
   rw[this];congr 1;omega
def jET (P:Program) (ti:TI) (n e:Nat):Bool:=Nat.beq e ti.elem&&(match P.info? e with|some ie=>Nat.beq ie.size 1|none=>false)&&Nat.beq ti.fields.length n&&Nat.beq ti.size n&&Nat.ble n 1000000&&jgv e ti.fields 0
def jhO:Ty->Nat->Bool
 | .unit,0=>true
 | .pair .int r,n+1=>jhO r n
 |_,_=>false
theorem jzy {e D:Nat} (f:P.underlying e=some (.int .i64)) (o:P.cellsOf e=1) {H:Imm} (w:World):∀(n off:Nat) (ty:Ty) (xs ys:Array Value) (x y:ty.Data),jhO ty n=true->ty.rd H (fun j=>xs[off+j]?) x->ty.rd H (fun j=>ys[off+j]?) y->
 (Op.eqItems (D+1) e 1 xs ys (List.range' off n)).run P w= .ok (@decide (x=y) (ty.decEq x y)) w
 |0,off,ty,xs,ys,x,y,h,_,_=>by
  cases ty with
  |unit=>simp[Op.eqItems]
  |_=>simp[jhO] at h
 |n+1,off,ty,xs,ys,x,y,h,i,k=>by
  cases ty with
  |pair a b=>
   cases a with
   |int=>
    simp only[jhO] at h
    have l:xs[off]? =some (.int .i64 x.1):=by have:=i.1;simpa[Ty.rd] using this
    have m:ys[off]? =some (.int .i64 y.1):=by have:=k.1;simpa[Ty.rd] using this
    have p:=jzy (D:=D) f o w n (off+1) b xs ys x.2 y.2 h (by
     refine Ty.rd_congr b _ _ _ (fun j _=> ?_) i.2
     simp only[Ty.size];rw[jIa]) (by
     refine Ty.rd_congr b _ _ _ (fun j _=> ?_) k.2
     simp only[Ty.size];rw[jIa])
    rw[List.range'_succ]
    have c:(isAgg e).run P w= .ok false w:=by simp[isAgg,run_underlying f]
    have q:(part e xs (off*1)).run P w= .ok (.int .i64 x.1) w:=by simp[part,c,l]
    have r:(part e ys (off*1)).run P w= .ok (.int .i64 y.1) w:=by simp[part,c,m]
    simp only[Op.eqItems,Sem.run_bind,q,r,Result.andThen_ok,run_equalIn_int w _ _ _ _ _ _ f]
    rw[ju7]
    cases g:(x.1==y.1) with
    |true=>
     have d:x.1=y.1:=by simpa using g
     rw[@decide_eq_true _ (_) d]
     simpa using p
    |false=>
     have d:x.1≠y.1:=by simpa using g
     rw[@decide_eq_false _ (_) d]
     simp
   |_=>simp[jhO] at h
  |_=>simp[jhO] at h
def jof:TypeDesc->Bool
 | .struct _=>true
 | .array _ _=>true
 | .interface _=>true
 |_=>false
def jF9 (P:Program) (ti:TI):Bool:=
 match P.info? ti.id,P.underlying ti.id with
 |some i,some d=>match i.zero with
  |some z=>(Nat.beq i.size ti.size&&Nat.beq i.bytes ti.bytes&&jup z.cells.toList ti.zero&&jGh (kU z) ti.agg&&ti.zero.all (·.oneCell')&&Nat.beq ti.zero.length ti.size)&&
   (ti.fields.all fun p=>(P.info? p.2).isSome)&&
   (match ti.agg with
    |true=>(match ti.arr,d with|false,.struct fs=>jcV fs.toList ti.fields|true,.array n e=>jET P ti n e|_,_=>false)&& !ti.sl
    |false=> !(jof d)&& !ti.arr&&(match ti.sl,d with|true,.slice e=>Nat.beq e ti.elem|true,_=>false|false,_=>true)&&
     (match ti.ty,d with| .int,.int .i64=>true| .int,_=>false| .uint k,.int k'=>jaU k k'| .uint _,_=>false|_,_=>true)&&(match ti.fields with|[]=>true|_=>false))&&
   (match kr ti.ty with|true=>jGh ti.ty.agg ti.agg&&Nat.beq ti.ty.size ti.size&&Nat.ble 1 ti.size&&Nat.ble 1 ti.bytes|false=>true)&&
   (match ti.cmp with
    |true=>(match ti.arr with
     |true=>(match d with| .array n _=>jhO ti.ty n|_=>false)&&(match P.underlying ti.elem with|some (.int .i64)=>true|_=>false)&& !(P.eqGuardType P.depth ti.id)
     |false=>(match ti.ty with| .pair _ _=> !(P.eqGuardType P.depth ti.id)| .bool=>true|_=>false)&&jaA P 20 ti.id ti.ty)
    |false=>true)&&
   (match ti.mp,d with|true,.map k e=>Nat.beq k ti.key&&Nat.beq e ti.elem|true,_=>false|false,_=>true)&&
   (match ti.pt,d with|true,.pointer _=>true|true,_=>false|false,_=>true)&&(match ti.fk,d with|true,.func _ _ _=>true|true,_=>false|false,_=>true)&&
   (match kr ti.ty with|true=>(match zIs ti.ty ti.zero with|some []=>true|_=>false)|false=>true)&&
   (match ti.kq with|true=>jEh P ti.id ti.ty|false=>true)
  |none=>false
 |_,_=>false
theorem jDG {ti:TI} (h:jF9 P ti=true):ti.ok P:=by
 unfold jF9 at h
 split at h
 case h_2=>cases h
 rename_i i d hi G
 split at h
 case h_2=>cases h
 rename_i z hz;simp only[jG3] at h;obtain⟨⟨⟨⟨⟨⟨⟨⟨⟨⟨⟨⟨⟨⟨a1,a2⟩,a3⟩,a4⟩,a5⟩,a6⟩,a7⟩,f⟩,E⟩,l⟩,s⟩,ap⟩,af⟩,B⟩,J⟩:=h;refine⟨⟨i,z,hi,jG0 a1,jG0 a2,hz,jpJ a3,jAB a4⟩,fun v hv=>jHE.1 a5 v hv,jG0 a6,?_,?_,?_,?_,?_,?_,?_,?_,?_,?_,?_,?_,?_,?_⟩
 .intro o j;rw[o] at f;simp only[jG3,j] at f
  split at f
  .rename_i fs _;obtain⟨R,e2⟩:=jfx f.1;exact⟨fs,G,by simpa using R,fun k p hk=>by simpa using e2 k p hk⟩
  .contradiction
  .cases f.1
 .intro j;cases o:ti.agg with
  |false=>rw[o] at f;simp[j] at f
  |true=>
   rw[o] at f;simp only[jG3,j] at f
   split at f
   .contradiction
   .rename_i n e _;unfold jET at f;simp only[jG3] at f;obtain⟨⟨⟨⟨⟨⟨C,r⟩,A⟩,T⟩,b5⟩,b6⟩,_⟩:=f;have C:=jG0 C;subst C
    split at r
    case h_2=>cases r
    rename_i ie q;exact⟨rfl,n,ie,G,q,jG0 r,jG0 A,jG0 T,jHg b5,fun k p hk=>by have:=jgu _ _ b6 k p hk;simpa using this⟩
   .cases f.1
 .intro k p hk;have:=jHE.1 a7 p (jH0 hk);exact Option.isSome_iff_exists.1 this
 .intro o;rw[o] at f;simp only[jG3,jHB] at f;obtain⟨⟨⟨⟨C,b1'⟩,r⟩,A⟩,T⟩:=f;refine⟨d,G,fun fs e=>by subst e;simp[jof] at C,fun n e F=>by subst F;simp[jof] at C,fun ms e=>by subst e;simp[jof] at C,fun W=> ?_,fun M=> ?_,fun k M=> ?_⟩
  .rw[W] at r
   split at r
   .rw[jG0 r]
   .cases r
   .contradiction
  .rw[M] at A;cases d with
   |int k=>cases k<;>first|rfl|cases A
   |_=>cases A
  .rw[M] at A;cases d with
   |int k'=>simp[jaU] at A;rw[A]
   |_=>cases A
 .intro W;cases o:ti.agg with
  |false=>rfl
  |true=>rw[o] at f;simp[W] at f
 .intro L;rw[L] at ap;cases d with
  |pointer e=>exact⟨e,G⟩
  |_=>cases ap
 .intro L;rw[L] at af;cases d with
  |func a b c=>exact⟨a,b,c,G⟩
  |_=>cases af
 .intro L;rw[L] at s;cases d with
  |map k e=>simp only[jG3] at s;rw[G,jG0 s.1,jG0 s.2]
  |_=>cases s
 .intro hk H;rw[hk] at B;simp only at B
  split at B
  .rename_i hz;obtain⟨us,R,_,e3⟩:=jxB H _ _ _ hz;rw[jHw] at R;rw[R];exact e3
  .cases B
 .intro hk;rw[hk] at J;exact js6 J
 .intro o;rw[o] at f;simp only[jG3] at f;have:=f.2
  split at this
  .assumption
  .cases this
 .intro hk;rw[hk] at E;simp only[jG3] at E;exact⟨jAB E.1.1.1,jG0 E.1.1.2⟩
 .intro hk;rw[hk] at E;simp only[jG3] at E;exact⟨jHg E.1.2,jHg E.2⟩
 .intro hc H x y a b w O Q op X Y I;rw[hc] at l;simp only[jG3] at l;cases j:ti.arr with
  |true=>
   rw[j] at l;simp only[jG3,jHB] at l;obtain⟨⟨c1,c2⟩,c3⟩:=l
   split at c1
   case h_2=>cases c1
   rename_i n e
   split at c2
   case h_2=>cases c2
   rename_i hue;have S:∃ie,e=ti.elem/\P.info? e=some ie/\ie.size=1:=by
    cases o:ti.agg with
    |false=>rw[o] at f;simp[j] at f
    |true=>
     rw[o] at f;simp only[jG3,j] at f;have f:=f.1;unfold jET at f;simp only[jG3] at f;obtain⟨⟨⟨⟨⟨C,r⟩,A⟩,T⟩,b5⟩,b6⟩:=f
     split at r
     case h_2=>cases r
     rename_i ie q;exact⟨ie,jG0 C,q,jG0 r⟩
   obtain⟨ie,rfl,q,Z⟩:=S;have m:P.cellsOf ti.elem=1:=(by simp[Program.cellsOf,q,Z]);have agg:∀{v:Value},kU v=true->∃vs,v= .agg vs:=fun{v} h=>by cases v<;>simp_all [kU]
   have N:ti.ty.agg=true:=by
    cases M:ti.ty with
    |unit=>rfl
    |pair a b=>rfl
    |_=>rw[M] at c1;simp[jhO] at c1
   obtain⟨xs,rfl⟩:=agg (O.1.trans N);obtain⟨ys,rfl⟩:=agg (Q.1.trans N);have F:(Op.equalIn 10000 ti.id (.agg xs) (.agg ys)).run P w= .ok (@decide (a=b) (ti.ty.decEq a b)) w:=by
    rw[run_equalIn_array w 9999 xs ys G q,m,List.range_eq_range'];exact jzy (D:=9998) hue m w n 0 ti.ty xs ys a b c1 (by simpa[Value.cells] using O.2.2) (by simpa[Value.cells] using Q.2.2)
   rcases I with rfl|rfl
   .simp only[Sem.run_bind,run_eqGuard_agg w _ _ _ _ _ _ c3,Result.andThen_ok,run_eql_struct w,F]
   .simp only[Sem.run_bind,run_eqGuard_agg w _ _ _ _ _ _ c3,Result.andThen_ok,run_neq_struct w,F]
  |false=>
  rw[j] at l;simp only[jG3] at l;obtain⟨c1,c2⟩:=l;have F:=jeS 20 ti.id ti.ty 9980 c2 H w x y a b O Q;rcases ti with⟨id,ty,size,agg,fields,sl,elem,bytes,zero,cmp⟩;simp only at*
  split at c1
  .rename_i t u;have agg:∀{v:Value},kU v=true->∃vs,v= .agg vs:=fun{v} h=>by cases v<;>simp_all [kU]
   obtain⟨xs,rfl⟩:=agg O.1;obtain⟨ys,rfl⟩:=agg Q.1;simp only[jHB] at c1;rcases I with rfl|rfl
   .simp only[Sem.run_bind,run_eqGuard_agg w _ _ _ _ _ _ c1,Result.andThen_ok,run_eql_struct w,F]
   .simp only[Sem.run_bind,run_eqGuard_agg w _ _ _ _ _ _ c1,Result.andThen_ok,run_neq_struct w,F]
  .have ex:=zY O;have ey:=zY Q;subst ex;subst ey;have K:(Op.equal id (.bool a) (.bool b)).run P w= .ok (@decide (a=b) (Ty.bool.decEq a b)) w:=F;rcases I with rfl|rfl
   .have g:(eqGuard .eql id X Y (.bool a) (.bool b)).run P w= .ok () w:=(by simp[eqGuard]);have V:binOp .eql id (.bool a) (.bool b)=(do pure (.bool (<-Op.equal id (.bool a) (.bool b)))):=rfl;simp only[Sem.run_bind,g,Result.andThen_ok,V,K,Sem.run_pure]
   .have g:(eqGuard .neq id X Y (.bool a) (.bool b)).run P w= .ok () w:=(by simp[eqGuard]);have V:binOp .neq id (.bool a) (.bool b)=(do pure (.bool (!(<-Op.equal id (.bool a) (.bool b))))):=rfl;simp only[Sem.run_bind,g,Result.andThen_ok,V,K,Sem.run_pure]
  .cases c1
theorem jxO {l:List TI} (h:l.all (jF9 P)=true):∀T x,jqN l T=some x->x.id=T/\x.ok P:=by
 induction l with
 |nil=>intro T x a;simp[jqN] at a
 |cons t r c=>
  intro T x a;simp only[List.all_cons,jG3] at h;simp only[jqN] at a
  split at a
  .rename_i b;simp at a;subst a;exact⟨jG0 b,jDG h.1⟩
  .exact c h.2 T x a
end
end Go.X
namespace Go.X
open Go.RowKit (Below)
inductive Cl where
 |dat (t:Ty)
 |row (E:Nat) (t:Ty) (nl:Nl)
 |map (kt vt:Ty)
@[reducible] def Cl.D:Cl->Type
 | .dat t=>t.Data
 | .row _ t _=>List t.Data
 | .map k v=>List (k.Data×v.Data)
@[reducible] def Cl.Ds:List Cl->Type
 |[]=>Unit
 |c::r=>c.D×Cl.Ds r
inductive Sh where
 |cl (c:Cl)
 |box (T:Nat) (cs:List Cl)
 |fbox (f T:Nat) (cs:List Cl)--a closure that captured a pointer to such a block
 |agg (cs:List Cl)--the cells themselves,aZ one value
@[reducible] def Sh.D:Sh->Type
 | .cl c=>c.D
 | .box _ cs=>Cl.Ds cs
 | .fbox _ _ cs=>Cl.Ds cs
 | .agg cs=>Cl.Ds cs
def jxS:Nl->Nl->Bool
 | .unk,_=>true
 | .no,.no=>true
 |_,_=>false
def jwJ (σ:St):(c:Cl)->SV->Option (c.D×List Nat×List Nat)
 | .dat t,v=>match qn σ t v with
  |some (x,f)=>some (x,[],f)
  |none=>none
 | .row E t nl,.own o _=>match σ.obj o with
  |some (.row b e false a l)=>match Nat.beq E b,jxT nl a,zz (.slice e) (.slice t) l with
   |true,true,some l'=>some (l',[o],[])
   |_,_,_=>none
  |_=>none
 | .row E t nl,.osl o _ 0 n=>match σ.obj o with
  |some (.row b e false a l)=>match Nat.beq E b,jxS nl a,zz (.slice e) (.slice t) l with
   |true,true,some l'=>some (l'.take n,[o],[])
   |_,_,_=>none
  |_=>none
 | .row _ _ nl,.lit v=>match zv v,nl with
  |true,.no=>none
  |true,_=>some ([],[],[])
  |false,_=>none
 | .map kt vt,.mp o=>match σ.obj o with
  |some (.map false d g l)=>match zz (.map d g) (.map kt vt) l with
   |some l'=>some (l',[o],[])
   |none=>none
  |_=>none
 |_,_=>none
def jgc (σ:St):(cs:List Cl)->List SV->Option (Cl.Ds cs×List Nat×List Nat)
 |[],[]=>some ((),[],[])
 |c::cs,v::vs=>match jwJ σ c v with
  |some (x,os,f)=>match jgc σ cs vs with
   |some (y,a,b)=>some ((x,y),os++a,f++b)
   |none=>none
  |none=>none
 |_,_=>none
def jkF (σ:St):(s:Sh)->SV->Option (s.D×List Nat×List Nat)
 | .cl c,v=>jwJ σ c v
 | .box T cs,.bp o 0=>match σ.obj o with
  |some (.box a false vs)=>match Nat.beq T a,jgc σ cs vs with
   |true,some (x,os,f)=>some (x,o::os,f)
   |_,_=>none
  |_=>none
 | .fbox g T cs,.clo b [.bp o 0]=>match σ.obj o with
  |some (.box a false vs)=>match Nat.beq b g,Nat.beq T a,jgc σ cs vs with
   |true,true,some (x,os,f)=>some (x,o::os,f)
   |_,_,_=>none
  |_=>none
 | .agg cs,.agg vs=>match jgc σ cs vs with
  |some (x,os,f)=>some (x,os,f)
  |none=>none
 |_,_=>none
def ClV (H:Imm) (w:World):(c:Cl)->Value->c.D->List Nat->Prop
 | .dat t,v,x,bs=>t.rv H v x/\bs=[]
 | .row E t nl,v,x,bs=>x.length<4611686018427387904/\((v= .slice none 0 0/\x=[]/\nl≠.no/\bs=[])\/
  ∃b C vs,v= .slice (some ⟨b,0,none⟩) x.length C/\bs=[b]/\H b=none/\(nl= .yes->x≠[])/\w.heap[b]? =some (.cells vs E (0,0))/\vs.size=C*t.size/\x.length<=C/\C<=maxLen/\
   ∀i y,x[i]? =some y->t.rd H (fun j=>vs[i*t.size+j]?) y)
 | .map kt vt,v,x,bs=>∃b es clock,v= .map (some b)/\bs=[b]/\H b=none/\w.heap[b]? =some (.map es clock)/\jcQ H kt vt es clock x
def jA1 (H:Imm) (w:World):(cs:List Cl)->List Value->Cl.Ds cs->List Nat->Prop
 |[],vs,_,bs=>vs=[]/\bs=[]
 |c::cs,v::vs,d,bs=>∃a b,bs=a++b/\ClV H w c v d.1 a/\v.oneCell'=true/\jA1 H w cs vs d.2 b
 |_::_,[],_,_=>False
def ShV (H:Imm) (w:World):(s:Sh)->Value->s.D->List Nat->Prop
 | .cl c,v,x,bs=>ClV H w c v x bs
 | .box T cs,v,x,bs=>∃b vs bs',v= .pointer (some ⟨b,0,none⟩)/\bs=b::bs'/\H b=none/\w.heap[b]? =some (.cells vs T (0,0))/\jA1 H w cs vs.toList x bs'
 | .fbox f T cs,v,x,bs=>∃b vs bs',v= .func (.func f) #[] #[.pointer (some ⟨b,0,none⟩)]/\bs=b::bs'/\H b=none/\w.heap[b]? =some (.cells vs T (0,0))/\jA1 H w cs vs.toList x bs'
 | .agg cs,v,x,bs=>∃vs,v= .agg vs/\jA1 H w cs vs.toList x bs
section
variable {P:Program} {B:zV} {σ τ:St} {ρ:Env} {w:World}
theorem wc (ρ:Env):∀(a b:List Nat),zl ρ (a++b)=zl ρ a++zl ρ b
 |[],b=>rfl
 |o::a,b=>by
  simp only[jHx,zl]
  split<;>simp[wc ρ a b]
theorem qZ (a:Sat P B ρ τ.obj w):∀(os:List Nat),os.Nodup->(zl ρ os).Nodup
 |[],_=>by simp[zl]
 |o::r,h=>by
  rw[jHV] at h
  simp only[zl]
  split
  .rename_i b C e
   rw[jHV]
   refine⟨fun f=> ?_,qZ a r h.2⟩
   obtain⟨o',C',c,d⟩:=(zj r).1 f
   have:=a.inj o o' b C C' e d
   subst this
   exact h.1 c
  .exact qZ a r h.2
def jgA (σ τ:St) (os:List Nat):Prop:=∀o,o∈os->τ.obj o=σ.obj o
theorem jkG (M:Sat P B ρ τ.obj w) {fz:List Nat} (hF:Frz σ τ fz) {c:Cl} {sv:SV} {x:c.D} {os f:List Nat} (h:jwJ σ c sv=some (x,os,f)) (hf:∀o,o∈f->o∈fz) (hk:jgA σ τ os)
 {v:Value} (d:SV.den P ρ sv v):ClV ρ.H w c v x (zl ρ os):=by
 unfold jwJ at h
 split at h
 .split at h
  .rename_i x' f' hd;simp at h;obtain⟨rfl,rfl,rfl⟩:=h;exact⟨jT M hF hd hf d,rfl⟩
  .cases h
 .rename_i E t nl o u
  split at h
  case h_2=>cases h
  rename_i E' z g l J
  split at h
  case h_2=>cases h
  rename_i l' V h2 W;simp at h;obtain⟨rfl,rfl,rfl⟩:=h;have r:=jG0 V;subst r;obtain⟨e,rfl⟩:=jm W;have T:z=t:=(by injection e);subst T;have j:τ.obj o=some (.row E z false g l):=(by rw[hk o (by simp),J]);obtain⟨p,k,Q,k0,A⟩:=M.obs o _ j;simp only[SV.den] at d;have d:=d p k;show ClV ρ.H w (.row E z nl) v l _;refine⟨k0,?_⟩;cases p with
  |none=>
   obtain⟨m,v2⟩:=d;refine .inl ⟨m,A.1,?_,by simp[zl,k]⟩;cases nl<;>cases g<;>simp_all [jxT]
  |some q=>
   obtain⟨b,C⟩:=q;obtain⟨m,v2⟩:=d;obtain⟨R,vs,Z,k5,k6,k7,k9,s⟩:=A;refine .inr ⟨b,C,vs,by rw[m,Q],by simp[zl,k],by simpa[fzH] using s,fun N=>R ?_,Z,k5,k6,k7,k9⟩;cases nl<;>cases g<;>simp_all [jxT]
 .rename_i E t nl o u n
  split at h
  case h_2=>cases h
  rename_i E' z g l J
  split at h
  case h_2=>cases h
  rename_i l' V h2 W;simp at h;obtain⟨rfl,rfl,rfl⟩:=h;have r:=jG0 V;subst r;obtain⟨e,rfl⟩:=jm W;have T:z=t:=(by injection e);subst T;have j:τ.obj o=some (.row E z false g l):=(by rw[hk o (by simp),J]);obtain⟨p,k,Q,k0,A⟩:=M.obs o _ j;simp only[SV.den] at d;have d:=d p k;show ClV ρ.H w (.row E z nl) v (l.take n) _;have Y:nl≠.yes:=by cases nl<;>cases g<;>simp_all [jxS]
  cases p with
  |none=>
   obtain⟨m,rfl⟩:=d;refine⟨by simp,.inl ⟨m,by simp,?_,by simp[zl,k]⟩⟩;cases nl<;>cases g<;>simp_all [jxS]
  |some q=>
   obtain⟨b,C⟩:=q;obtain⟨a,F,m,v2,v3,v4,S⟩:=d;obtain⟨R,vs,Z,k5,k6,k7,k9,s⟩:=A;have S:=S (.inl trivial);simp only[Nat.zero_mul] at S;subst S;have G:F=C:=(by omega);subst G;have I:(l.take n).length=n:=(by rw[jHC];omega);refine⟨by omega,.inr ⟨b,F,vs,by rw[m,I],by simp[zl,k],by simpa[fzH] using s,fun N=>absurd N Y,Z,k5,by omega,k7,fun i y O=>k9 i y ?_⟩⟩;by_cases hi:i<n
   .rw[jHr hi] at O;exact O
   .rw[List.getElem?_eq_none (by omega)] at O;cases O
 .rename_i E t nl u
  split at h
  .cases h
  .rename_i N X;simp at h;obtain⟨rfl,rfl,rfl⟩:=h;simp only[SV.den] at d;subst d;refine⟨by simp,.inl ⟨wz N,rfl,?_,rfl⟩⟩;intro e;subst e;exact X rfl
  .cases h
 .rename_i kt vt o
  split at h
  case h_2=>cases h
  rename_i K L l J
  split at h
  case h_2=>cases h
  rename_i l' hc;simp at h;obtain⟨rfl,rfl,rfl⟩:=h;obtain⟨e,rfl⟩:=jm hc;obtain⟨r,e2⟩:K=kt/\L=vt:=by injection e with a b;exact⟨a,b⟩
  subst r;subst e2;have j:τ.obj o=some (.map false K L l):=(by rw[hk o (by simp),J]);obtain⟨p,k,hs⟩:=M.obs o _ j;simp only[zq,fzM] at hs;obtain⟨b,C,es,clock,rfl,Q,A,R⟩:=hs;simp only[SV.den] at d;obtain⟨b',C',r,m⟩:=d _ k;simp at r;obtain⟨rfl,rfl⟩:=r;exact⟨b,es,clock,m,by simp[zl,k],R,Q,A⟩
 .cases h
theorem y5 (g:Sat P B ρ τ.obj w) {fz:List Nat} (e:Frz σ τ fz):∀{cs:List Cl} {svs:List SV} {x:Cl.Ds cs} {os f:List Nat},jgc σ cs svs=some (x,os,f)->(∀o,o∈f->o∈fz)->jgA σ τ os->
 ∀{vs:List Value},SV.denL P ρ svs vs->(∀v∈vs,v.oneCell'=true)->jA1 ρ.H w cs vs x (zl ρ os)
 |[],[],x,os,f,h,_,_,vs,b,_=>by
  simp[jgc] at h
  obtain⟨rfl,rfl⟩:=h
  simp[SV.denL] at b
  exact⟨b,rfl⟩
 |[],_::_,x,os,f,h,_,_,vs,b,_=>by simp[jgc] at h
 |_::_,[],x,os,f,h,_,_,vs,b,_=>by simp[jgc] at h
 |c::cs,sv::svs,x,os,f,h,hf,hk,vs,b,h1=>by
  simp only[jgc] at h
  split at h
  case h_2=>cases h
  rename_i p o1 m i
  split at h
  case h_2=>cases h
  rename_i q o2 n d
  simp at h
  obtain⟨rfl,rfl,rfl⟩:=h
  simp only[SV.denL] at b
  obtain⟨v,r,rfl,k,l⟩:=b
  refine⟨zl ρ o1,zl ρ o2,wc ρ o1 o2,?_,h1 v (by simp),?_⟩
  .exact jkG g e i (fun o a=>hf o (jG2 _ a)) (fun o a=>hk o (jG2 _ a)) k
  .exact y5 g e d (fun o a=>hf o (jG1 _ a)) (fun o a=>hk o (jG1 _ a)) l (fun u j=>h1 u (by simp[j]))
theorem yC (i:Sat P B ρ τ.obj w) {fz:List Nat} (q:Frz σ τ fz) {s:Sh} {sv:SV} {x:s.D} {os f:List Nat} (h:jkF σ s sv=some (x,os,f)) (t:∀o,o∈f->o∈fz) (hk:jgA σ τ os)
 {v:Value} (e:SV.den P ρ sv v):ShV ρ.H w s v x (zl ρ os):=by
 unfold jkF at h
 split at h
 .exact jkG i q h t hk e
 .rename_i T cs o
  split at h
  case h_2=>cases h
  rename_i J vs c
  split at h
  case h_2=>cases h
  rename_i I o1 G y j;simp at h;obtain⟨rfl,rfl,rfl⟩:=h;have a:=jG0 y;subst a;have d:τ.obj o=some (.box T false vs):=(by rw[hk o (by simp),c]);obtain⟨p,k,l⟩:=i.obs o _ d;simp only[zq,fzH] at l;obtain⟨b,C,us,rfl,A,m,n,E⟩:=l;simp only[SV.den] at e;obtain⟨K,C',a,F⟩:=e _ k;simp at a;obtain⟨rfl,rfl⟩:=a;exact⟨b,us,zl ρ o1,F,by simp[zl,k],E,A,y5 i q j t (fun o c=>hk o (jHb _ c)) m n⟩
 .rename_i g T cs R o
  split at h
  case h_2=>cases h
  rename_i J vs c
  split at h
  case h_2=>cases h
  rename_i I o1 G M y j;simp at h;obtain⟨rfl,rfl,rfl⟩:=h;have L:=jG0 M;subst L;have a:=jG0 y;subst a;have d:τ.obj o=some (.box T false vs):=(by rw[hk o (by simp),c]);obtain⟨p,k,l⟩:=i.obs o _ d;simp only[zq,fzH] at l;obtain⟨b,C,us,rfl,A,m,n,E⟩:=l;simp only[SV.den,SV.denL] at e;obtain⟨lb,rfl,u,r,N,Q,O⟩:=e;subst O;obtain⟨K,C',a,F⟩:=Q _ k;simp at a;obtain⟨rfl,rfl⟩:=a;have z:lb= #[u]:=jHp.1 (by simpa using N);subst z;subst F;exact⟨b,us,zl ρ o1,rfl,by simp[zl,k],E,A,y5 i q j t (fun o c=>hk o (jHb _ c)) m n⟩
 .split at h
  case h_2=>cases h
  rename_i I o1 G j;simp at h;obtain⟨rfl,rfl,rfl⟩:=h;simp only[SV.den] at e;obtain⟨us,rfl,m,n⟩:=e;exact⟨us,rfl,y5 i q j t hk m n⟩
 .cases h
end
end Go.X
namespace Go.X
open Go.RowKit (Below)
def joS (k:Nat):(c:Cl)->c.D->SV
 | .dat t,x=> .dat t x
 | .row _ t _,_=> .own k t
 | .map _ _,_=> .mp k
def jy0 (k:Nat):(c:Cl)->c.D->List (Nat×Option Ob)
 | .dat _,_=>[]
 | .row E t nl,x=>[(k,some (.row E t false nl x))]
 | .map kt vt,x=>[(k,some (.map false kt vt x))]
def jjo (nm:Nat->Nat):(cs:List Cl)->Cl.Ds cs->Nat->List SV
 |[],_,_=>[]
 |c::cs,d,j=>joS (nm j) c d.1::jjo nm cs d.2 (j+1)
def jfR (nm:Nat->Nat):(cs:List Cl)->Cl.Ds cs->Nat->List (Nat×Option Ob)
 |[],_,_=>[]
 |c::cs,d,j=>jfR nm cs d.2 (j+1)++jy0 (nm j) c d.1
def nmA (k j:Nat):Nat:=1000*(k+1)+500+j
def jjn (k:Nat):(s:Sh)->s.D->SV
 | .cl c,x=>joS k c x
 | .box _ _,_=> .bp k 0
 | .fbox f _ _,_=> .clo f [.bp k 0]
 | .agg cs,x=> .agg (jjo (nmA k) cs x 0)
def jqj (k:Nat) (nm:Nat->Nat):(s:Sh)->s.D->List (Nat×Option Ob)
 | .cl c,x=>jy0 k c x
 | .box T cs,x=>(k,some (.box T false (jjo nm cs x 0)))::jfR nm cs x 0
 | .fbox _ T cs,x=>(k,some (.box T false (jjo nm cs x 0)))::jfR nm cs x 0
 | .agg cs,x=>jfR (nmA k) cs x 0
def w7 (k:Nat):Cl->List Nat
 | .dat _=>[]
 |_=>[k]
def wH (nm:Nat->Nat):List Cl->Nat->List Nat
 |[],_=>[]
 |c::r,j=>w7 (nm j) c++wH nm r (j+1)
def kl (k:Nat) (nm:Nat->Nat):Sh->List Nat
 | .cl c=>w7 k c
 | .box _ cs=>k::wH nm cs 0
 | .fbox _ _ cs=>k::wH nm cs 0
 | .agg cs=>wH (nmA k) cs 0
def jyF (c:Nat):Cl->Value->Option (Nat×Nat)
 | .row _ _ _,.slice (some a) _ C=>some (a.block,C)
 | .map _ _,.map (some b)=>some (b,c)
 |_,_=>none
def jzq (a:Nat):Cl->Value->Nat
 | .row _ _ _,.slice _ n _=>n
 |_,_=>a
def jv6 (b:Nat):Sh->Value->Option (Nat×Nat)
 | .cl c,v=>jyF b c v
 | .box _ _,.pointer (some a)=>some (a.block,b)
 | .fbox _ _ _,.func _ _ lb=>(match lb.toList with|[.pointer (some a)]=>some (a.block,b)|_=>none)
 |_,_=>none
def jzp (a:Nat):Sh->Value->Nat
 | .cl c,v=>jzq a c v
 | .box _ _,_=>a
 | .fbox _ _ _,_=>a
 | .agg _,_=>a
def oo (ob:List (Nat×Option Ob)):Nat->Option Ob:=(St.mk [] ob).obj
section
variable {P:Program} {B:zV} {ρ:Env} {w:World}
def OkB (B:zV) (ρ:Env) (b:Nat):Prop:=(B.w.heap.size<=b\/b∈B.bor)/\∀o C,ρ.blk o≠some (some (b,C))
theorem jrm {obj:Nat->Option Ob} (d:Sat P B ρ obj w) {k:Nat} (hk:obj k=none) (v:kN obj k) (p:Option (Nat×Nat)) (len:Nat) (x:Ob)
 (r:∀b C,p=some (b,C)->OkB B ρ b) (D:∀a:Env,a.H=ρ.H->a.len k=len->ρ.le a [k]->zq P a w k p x):
 ∃a:Env,Sat P B a (jgC obj k (some x)) w/\ρ.le a [k]/\a.H=ρ.H/\a.blk=(fun o=>if o=k then some p else ρ.blk o)/\a.len=fun o=>if o=k then len else ρ.len o:=by
 let a:Env:={H:=ρ.H,blk:=fun o=>if o=k then some p else ρ.blk o,len:=fun o=>if o=k then len else ρ.len o}
 have j:ρ.le a [k]:=⟨fun _ _ h=>h,fun o p g r=>by simpa[a,show o≠k by simpa using g] using r,fun o g=>by simp[a,show o≠k by simpa using g]⟩;refine⟨a,⟨d.os,d.tape,d.output,d.drawn,d.size,d.good,d.oldH,d.old,?_,?_,?_,?_⟩,j,rfl,rfl,rfl⟩
 .intro o E c;unfold jgC at c;by_cases e:o=k
  .subst e;rw[if_pos rfl] at c;simp at c;subst c;exact⟨p,by simp[a],D a rfl (by simp[a]) j⟩
  .rw[if_neg e] at c;obtain⟨q,z,A⟩:=d.obs o E c;refine⟨q,by simp[a,e,z],jU j (by simpa using e) (fun T fz cs u o' n=> ?_) (fun b C y=>⟨rfl,rfl⟩) A⟩;simp at n;subst n;exact v o T fz cs (by rw[c,u])
 .intro o g;unfold jgC at g;by_cases e:o=k
  .rw[if_pos e] at g;cases g
  .rw[if_neg e] at g;simp[a,e,d.dead o g]
 .intro o o' b l t f m;by_cases i:o=k<;>by_cases s:o'=k
  .rw[i,s]
  .simp[a,i] at f;simp[a,s] at m;exact absurd m ((r b l f).2 o' t)
  .simp[a,i] at f;simp[a,s] at m;exact absurd f ((r b t m).2 o l)
  .simp[a,i] at f;simp[a,s] at m;exact d.inj o o' b l t f m
 .intro o b l f;by_cases i:o=k
  .simp[a,i] at f;exact(r b l f).1
  .simp[a,i] at f;exact d.own o b l f
theorem jer (k:Nat) (x:Option Ob) (ob:List (Nat×Option Ob)):oo ((k,x)::ob)=jgC (oo ob) k x:=ww ⟨[],ob⟩ k x
structure je6 (P:Program) (B:zV) (ρ:Env) (w:World) (ob new:List (Nat×Option Ob)) (nms:List Nat) (bs:List Nat) (ρ':Env):Prop where
 sat:Sat P B ρ' (oo (new++ob)) w
 le:ρ.le ρ' nms
 H:ρ'.H=ρ.H
 same:∀o,o∉nms->ρ'.blk o=ρ.blk o/\ρ'.len o=ρ.len o
 blk:∀o b C,ρ'.blk o=some (some (b,C))->ρ.blk o=some (some (b,C))\/b∈bs
theorem jAO {ob:List (Nat×Option Ob)} (G:Sat P B ρ (oo ob) w) {c:Cl} {k:Nat} {v:Value} {x:c.D} {bs:List Nat} (s:ClV ρ.H w c v x bs) (S:∀b,b∈bs->OkB B ρ b)
 (hk:∀n,n∈w7 k c->oo ob n=none/\kN (oo ob) n) (F V:Nat):
 ∃a,je6 P B ρ w ob (jy0 k c x) (w7 k c) bs a/\SV.den P a (joS k c x) v/\(∀n,n∈w7 k c->a.blk n=some (jyF F c v)/\a.len n=jzq V c v):=by
 cases c with
 |dat t=>
  obtain⟨Z,rfl⟩:=s;exact⟨ρ,⟨G,Env.le.refl _ _,rfl,fun _ _=>⟨rfl,rfl⟩,fun _ _ _ h=> .inl h⟩,by simp only[joS,SV.den];exact Z,fun n q=>by simp[w7] at q⟩
 |row E t nl=>
  obtain⟨I,J⟩:=hk k (by simp[w7]);obtain⟨T,s⟩:=s;rcases s with⟨rfl,Q,O,rfl⟩|⟨b,C,vs,rfl,rfl,N,L,M,W,R,X,Y⟩
  .have j:x=([]:List t.Data):=Q;obtain⟨a,u,z,A,d,g⟩:=jrm G I J none 0 (.row E t false nl x) (fun b C h=>by cases h) (fun a _ e _=>⟨by rw[e,j];rfl,T,j,O⟩);refine⟨a,⟨by simp only[jy0,List.singleton_append];rw[jer];exact u,by simpa[w7] using z,A,fun o r=> ?_,fun o b C h=> ?_⟩,?_,fun n q=> ?_⟩
   .have:o≠k:=(by simpa[w7] using r);rw[d,g];simp[this]
   .rw[d] at h;simp only at h
    split at h
    .simp at h
    .exact .inl h
   .simp only[joS,SV.den];intro p f;rw[d] at f;simp at f;subst f;exact⟨trivial,by rw[g];simp⟩
   .have:n=k:=(by simpa[w7] using q);subst this;rw[d,g];simp[jyF,jzq]
  .obtain⟨a,u,z,A,d,g⟩:=jrm G I J (some (b,C)) x.length (.row E t false nl x) (fun K C' h=>by simp at h;rw[<-h.1];exact S b (by simp))
    (fun a l e m=>⟨by rw[e],T,L,vs,M,W,R,X,fun i y hy=>t.rd_mono m.H _ _ (Y i y hy),by rw[l,N];rfl⟩)
   refine⟨a,⟨by simp only[jy0,List.singleton_append];rw[jer];exact u,by simpa[w7] using z,A,fun o r=> ?_,fun o K C' h=> ?_⟩,?_,fun n q=> ?_⟩
   .have:o≠k:=(by simpa[w7] using r);rw[d,g];simp[this]
   .rw[d] at h;simp only at h
    split at h
    .simp at h;exact .inr (by simp[h.1])
    .exact .inl h
   .simp only[joS,SV.den];intro p f;rw[d] at f;simp at f;subst f;simp only;rw[g];simp only[if_true];exact⟨trivial,R⟩
   .have:n=k:=(by simpa[w7] using q);subst this;rw[d,g];simp[jyF,jzq]
 |map kt vt=>
  obtain⟨I,J⟩:=hk k (by simp[w7]);obtain⟨b,es,clock,rfl,rfl,N,L,M⟩:=s;obtain⟨a,u,z,A,d,g⟩:=jrm G I J (some (b,F)) V (.map false kt vt x) (fun K C' h=>by simp at h;rw[<-h.1];exact S b (by simp))
   (fun a l _ m=>⟨b,F,es,clock,rfl,L,M.mono m.H,by rw[l,N];rfl⟩)
  refine⟨a,⟨by simp only[jy0,List.singleton_append];rw[jer];exact u,by simpa[w7] using z,A,fun o r=> ?_,fun o K C' h=> ?_⟩,?_,fun n q=> ?_⟩
  .have:o≠k:=(by simpa[w7] using r);rw[d,g];simp[this]
  .rw[d] at h;simp only at h
   split at h
   .simp at h;exact .inr (by simp[h.1])
   .exact .inl h
  .simp only[joS,SV.den];intro p f;rw[d] at f;simp at f;subst f;exact⟨b,F,rfl,rfl⟩
  .have:n=k:=(by simpa[w7] using q);subst this;rw[d,g];simp[jyF,jzq]
theorem qe {new ob:List (Nat×Option Ob)} {n:Nat} (h:n∉km new):oo (new++ob) n=oo ob n:=by
 simp only[oo,St.obj];rw[jj,jw _ _ h]
theorem jfW {α:Type} (a b:List (Nat×α)) (n:Nat):n∈km (a++b)↔n∈km a\/n∈km b:=by
 induction a with
 |nil=>simp[km]
 |cons x a c=>obtain⟨j,y⟩:=x;simp only[jHx,km,jG4,c];exact or_assoc.symm
theorem jkn (k:Nat) (c:Cl) (x:c.D):km (jy0 k c x)=w7 k c:=by cases c<;>rfl
theorem v8 (nm:Nat->Nat):∀(cs:List Cl) (x:Cl.Ds cs) (j n:Nat),n∈km (jfR nm cs x j)↔n∈wH nm cs j
 |[],_,_,n=>by simp[jfR,wH,km]
 |c::cs,x,j,n=>by
  simp only[jfR,wH,jfW,jkn,jHa,v8 nm cs x.2 (j+1) n]
  exact or_comm
theorem jct (k:Nat) (nm:Nat->Nat) (s:Sh) (x:s.D) (n:Nat):n∈km (jqj k nm s x)↔n∈kl k nm s:=by
 cases s with
 |cl c=>simp only[jqj,kl];rw[jkn]
 |box T cs=>simp only[jqj,kl,km,jG4,v8 nm cs x 0 n]
 |fbox f T cs=>simp only[jqj,kl,km,jG4,v8 nm cs x 0 n]
 |agg cs=>simp only[jqj,kl,v8 (nmA k) cs x 0 n]
theorem jmt {nm:Nat->Nat}:∀(cs:List Cl) (j:Nat) {n:Nat},n∈wH nm cs j->∃i,n=nm i
 |[],_,_,h=>by simp[wH] at h
 |c::cs,j,n,h=>by
  simp only[wH,jHa] at h
  rcases h with h|h
  .cases c<;>simp[w7] at h<;>exact⟨j,h⟩
  .exact jmt cs (j+1) h
theorem jFt {k:Nat} {cs:List Cl} (h:k∈wH (nmA k) cs 0):False:=by
 obtain⟨i,e⟩:=jmt cs 0 h;unfold nmA at e;omega
def jEY (new:List (Nat×Option Ob)):Prop:=∀o T fz cs,(o,some (.box T fz cs))∉new
theorem jcZ (k:Nat) (c:Cl) (x:c.D):jEY (jy0 k c x):=by
 intro o T fz cs h;cases c<;>simp[jy0] at h
theorem wg (nm:Nat->Nat):∀(cs:List Cl) (x:Cl.Ds cs) (j:Nat),jEY (jfR nm cs x j)
 |[],_,_=>by intro o T fz cs h;simp[jfR] at h
 |c::cs,x,j=>by
  intro o T fz a h
  simp only[jfR,jHa] at h
  rcases h with h|h
  .exact wg nm cs x.2 (j+1) o T fz a h
  .exact jcZ _ _ _ o T fz a h
theorem yv {new ob:List (Nat×Option Ob)} {n:Nat} (c:jEY new) (h:kN (oo ob) n):kN (oo (new++ob)) n:=by
 intro o T fz cs a;simp only[oo,St.obj] at a;rw[jj] at a;cases b:jD new o with
 |none=>rw[b] at a;exact h o T fz cs a
 |some y=>rw[b] at a;simp only at a;subst a;exact absurd (zD _ _ _ b) (c o T fz cs)
theorem jiZ {nm:Nat->Nat}:∀(cs:List Cl) (j:Nat) {ob:List (Nat×Option Ob)} {ρ:Env} (_:Sat P B ρ (oo ob) w) {vs:List Value} {x:Cl.Ds cs} {bs:List Nat} (_:jA1 ρ.H w cs vs x bs) (_:bs.Nodup) (_:∀b,b∈bs->OkB B ρ b)
 (_:(wH nm cs j).Nodup) (_:∀n,n∈wH nm cs j->oo ob n=none/\kN (oo ob) n),
 ∃k,je6 P B ρ w ob (jfR nm cs x j) (wH nm cs j) bs k/\SV.denL P k (jjo nm cs x j) vs
 |[],j,ob,ρ,l,vs,x,bs,i,_,_,_,_=>by
  obtain⟨rfl,rfl⟩:=i
  exact⟨ρ,⟨l,Env.le.refl _ _,rfl,fun _ _=>⟨rfl,rfl⟩,fun _ _ _ h=> .inl h⟩,by simp[jjo,SV.denL]⟩
 |c::cs,j,ob,ρ,l,[],x,bs,i,_,_,_,_=>i.elim
 |c::cs,j,ob,ρ,l,v::vs,x,bs,i,hnd,hb,hnn,hk=>by
  obtain⟨M,s,rfl,K,Q,L⟩:=i
  simp only[wH] at hnn hk
  rw[jHZ] at hnn hnd
  obtain⟨O,G,q⟩:=hnn
  obtain⟨N,u,y⟩:=hnd
  obtain⟨ρ1,e,z,_⟩:=jAO l K (fun b a=>hb b (jG2 _ a)) (fun n m=>hk n (jG2 _ m)) 0 0
  have p:∀n,n∈wH nm cs (j+1)->oo (jy0 (nm j) c x.1++ob) n=none/\kN (oo (jy0 (nm j) c x.1++ob)) n:=by
   intro n m;obtain⟨D,F⟩:=hk n (jG1 _ m);refine⟨?_,yv (jcZ _ _ _) F⟩;rw[qe,D];rw[jkn];exact fun h=>q n h n m rfl
  obtain⟨r,g,A⟩:=jiZ cs (j+1) e.sat (vs:=vs) (x:=x.2) (bs:=s) (by rw[e.H];exact L) u (fun b a=>⟨(hb b (jG1 _ a)).1,fun o C h=>by
   rcases e.blk o b C h with h|h
   .exact(hb b (jG1 _ a)).2 o C h
   .exact y b h b a rfl⟩) G p
  refine⟨r,⟨by simp only[jfR,jHn];exact g.sat,?_,g.H.trans e.H,fun o d=> ?_,fun o b C h=> ?_⟩,?_⟩
  .exact(e.le.weaken (fun o d=>jG2 _ d)).trans (g.le.weaken (fun o d=>jG1 _ d))
  .simp only[wH,jHa,not_or] at d;obtain⟨s1,s2⟩:=e.same o d.1;obtain⟨I,J⟩:=g.same o d.2;exact⟨I.trans s1,J.trans s2⟩
  .rcases g.blk o b C h with h|h
   .rcases e.blk o b C h with h|h
    .exact .inl h
    .exact .inr (jG2 _ h)
   .exact .inr (jG1 _ h)
  .simp only[jjo,SV.denL];refine⟨v,vs,rfl,SV.den_mono g.le _ _ (fun o d=> ?_) z,A⟩;cases c with
   |dat t=>rfl
   |row E t nl=>
    have f:nm j≠o:=fun h=>q (nm j) (by simp[w7]) o d h
    simp only[joS,SV.refs];cases a:Nat.beq o (nm j) with
    |false=>rfl
    |true=>exact absurd (jG0 a).symm f
   |map kt vt=>
    have f:nm j≠o:=fun h=>q (nm j) (by simp[w7]) o d h
    simp only[joS,SV.refs];cases a:Nat.beq o (nm j) with
    |false=>rfl
    |true=>exact absurd (jG0 a).symm f
theorem wP {nm:Nat->Nat} {k:Nat}:∀(cs:List Cl) (x:Cl.Ds cs) (j:Nat),k∉wH nm cs j->SV.refs.refsL k (jjo nm cs x j)=false
 |[],_,_,_=>rfl
 |c::cs,x,j,h=>by
  simp only[wH,jHa,not_or] at h
  simp only[jjo,SV.refs.refsL]
  have d:(joS (nm j) c x.1).refs k=false:=by
   cases c with
   |dat t=>rfl
   |row E t nl=>
    have b:k≠nm j:=fun e=>h.1 (by simp[w7,e])
    simp only[joS,SV.refs];cases a:Nat.beq k (nm j) with
    |false=>rfl
    |true=>exact absurd (jG0 a) b
   |map kt vt=>
    have b:k≠nm j:=fun e=>h.1 (by simp[w7,e])
    simp only[joS,SV.refs];cases a:Nat.beq k (nm j) with
    |false=>rfl
    |true=>exact absurd (jG0 a) b
  rw[d];exact wP cs x.2 (j+1) h.2
theorem juD {H:Imm}:∀(cs:List Cl) (vs:List Value) (x:Cl.Ds cs) (bs:List Nat),jA1 H w cs vs x bs->∀v∈vs,v.oneCell'=true
 |[],vs,x,bs,h,v,a=>by obtain⟨rfl,_⟩:=h;simp at a
 |c::cs,[],x,bs,h,v,a=>h.elim
 |c::cs,u::vs,x,bs,h,v,a=>by
  obtain⟨_,_,_,_,b,d⟩:=h
  rcases jG4.1 a with rfl|a
  .exact b
  .exact juD cs vs x.2 _ d v a
theorem jt5 {nm:Nat->Nat} {ob:List (Nat×Option Ob)} (M:Sat P B ρ (oo ob) w) {s:Sh} {k:Nat} {v:Value} {x:s.D} {bs:List Nat} (N:ShV ρ.H w s v x bs) (m:bs.Nodup) (z:∀b,b∈bs->OkB B ρ b)
 (g:(kl k nm s).Nodup) (hk:∀n,n∈kl k nm s->oo ob n=none/\kN (oo ob) n) (y O:Nat):
 ∃l,je6 P B ρ w ob (jqj k nm s x) (kl k nm s) bs l/\SV.den P l (jjn k s x) v/\(k∈kl k nm s->l.blk k=some (jv6 y s v)/\l.len k=jzp O s v):=by
 cases s with
 |cl c=>
  obtain⟨l,a,e,r⟩:=jAO M N z hk y O;exact⟨l,a,e,fun h=>r k h⟩
 |box T cs=>
  obtain⟨b,vs,bs',rfl,rfl,Q,S,j⟩:=N;simp only[kl,jHV] at g;rw[jHV] at m;obtain⟨ρ1,i,K⟩:=jiZ cs 0 M j m.2 (fun t E=>z t (jHb _ E)) g.2 (fun n R=>hk n (jHb _ R));obtain⟨V,W⟩:=hk k (by simp[kl]);have F:oo (jfR nm cs x 0++ob) k=none:=by
   rw[qe,V];rw[v8];exact g.1
  obtain⟨J,X,Y,Z,u,L⟩:=jrm i.sat F (yv (wg _ _ _ _) W) (some (b,y)) O (.box T false (jjo nm cs x 0)) (fun t C' h=>by
   simp at h;rw[<-h.1];refine⟨(z b (by simp)).1,fun o C q=> ?_⟩;rcases i.blk o b C q with q|q
   .exact(z b (by simp)).2 o C q
   .exact m.1 q) (fun l A _ G=>⟨b,y,vs,rfl,S,SV.denL_mono G _ _ (fun o d=>by simp at d;subst d;exact wP cs x 0 g.1) K,juD cs vs.toList x bs' j,by rw[A,i.H,Q];rfl⟩)
  refine⟨J,⟨by simp only[jqj,jHx];rw[jer];exact X,?_,Z.trans i.H,fun o d=> ?_,fun o t C' h=> ?_⟩,?_,fun _=> ?_⟩
  .exact(i.le.weaken (fun o d=>jHb _ d)).trans (Y.weaken (fun o d=>by simp at d;subst d;simp[]))
  .simp only[kl,jG4,not_or] at d;obtain⟨s1,s2⟩:=i.same o d.2;rw[u,L];simp only[d.1,if_false];exact⟨s1,s2⟩
  .rw[u] at h;simp only at h
   split at h
   .simp at h;exact .inr (by simp[h.1])
   .rcases i.blk o t C' h with h|h
    .exact .inl h
    .exact .inr (jHb _ h)
  .simp only[jjn,SV.den];intro p I;rw[u] at I;simp at I;subst I;exact⟨b,y,rfl,rfl⟩
  .rw[u,L];simp[jv6,jzp]
 |fbox f T cs=>
  obtain⟨b,vs,bs',rfl,rfl,Q,S,j⟩:=N;simp only[kl,jHV] at g;rw[jHV] at m;obtain⟨ρ1,i,K⟩:=jiZ cs 0 M j m.2 (fun t E=>z t (jHb _ E)) g.2 (fun n R=>hk n (jHb _ R));obtain⟨V,W⟩:=hk k (by simp[kl]);have F:oo (jfR nm cs x 0++ob) k=none:=by
   rw[qe,V];rw[v8];exact g.1
  obtain⟨J,X,Y,Z,u,L⟩:=jrm i.sat F (yv (wg _ _ _ _) W) (some (b,y)) O (.box T false (jjo nm cs x 0)) (fun t C' h=>by
   simp at h;rw[<-h.1];refine⟨(z b (by simp)).1,fun o C q=> ?_⟩;rcases i.blk o b C q with q|q
   .exact(z b (by simp)).2 o C q
   .exact m.1 q) (fun l A _ G=>⟨b,y,vs,rfl,S,SV.denL_mono G _ _ (fun o d=>by simp at d;subst d;exact wP cs x 0 g.1) K,juD cs vs.toList x bs' j,by rw[A,i.H,Q];rfl⟩)
  refine⟨J,⟨by simp only[jqj,jHx];rw[jer];exact X,?_,Z.trans i.H,fun o d=> ?_,fun o t C' h=> ?_⟩,?_,fun _=> ?_⟩
  .exact(i.le.weaken (fun o d=>jHb _ d)).trans (Y.weaken (fun o d=>by simp at d;subst d;simp[]))
  .simp only[kl,jG4,not_or] at d;obtain⟨s1,s2⟩:=i.same o d.2;rw[u,L];simp only[d.1,if_false];exact⟨s1,s2⟩
  .rw[u] at h;simp only at h
   split at h
   .simp at h;exact .inr (by simp[h.1])
   .rcases i.blk o t C' h with h|h
    .exact .inl h
    .exact .inr (jHb _ h)
  .simp only[jjn,SV.den,SV.denL];refine⟨#[.pointer (some ⟨b,0,none⟩)],rfl,_,[],rfl,fun p I=> ?_,rfl⟩;rw[u] at I;simp at I;subst I;exact⟨b,y,rfl,rfl⟩
  .rw[u,L];simp[jv6,jzp]
 |agg cs=>
  obtain⟨vs,rfl,j⟩:=N;obtain⟨ρ1,i,K⟩:=jiZ (nm:=nmA k) cs 0 M j m z g hk;exact⟨ρ1,i,by simp only[jjn,SV.den];exact⟨vs,rfl,K,juD cs vs.toList x bs j⟩,fun h=>(jFt h).elim⟩
end
end Go.X
namespace Go.X
open Go.RowKit (Below)
def jGd:Bool->Value
 |true=> .nilFunc
 |false=> .slice none 0 0
def jzv:Bool->Value->Bool
 |true,v=>jg7 v
 |false,v=>zv v
inductive vZ where
 |val (t:Ty)
 |ref (t:Ty)
 |nil (fn:Bool)
 |clo (f:Nat)
 |fn (ps rs:List Ty)
 |own (s:Sh) (kept:Bool)
@[reducible] def vZ.Data:vZ->Type
 | .val t=>t.Data
 | .ref t=>t.Data
 | .nil _=>Unit
 | .clo _=>Unit
 | .fn ps rs=>FnD ps rs
 | .own s _=>s.D
@[reducible] def OD:List vZ->Type
 |[]=>Unit
 |p::ps=>p.Data×OD ps
@[reducible] def KD:List vZ->Type
 |[]=>Unit
 | .own s true::ps=>s.D×KD ps
 |_::ps=>KD ps
@[reducible] def RD:List Sh->Type
 |[]=>Unit
 |s::r=>s.D×RD r
structure zP where
 ps:List vZ
 rs:List Sh
 pre:OD ps->List Prop
 F:OD ps->RD rs×KD ps
def jGi (P:Program) (H:Imm) (w:World):(p:vZ)->Value->p.Data->List Nat->Prop
 | .val t,v,d,bs=>t.rv H v d/\bs=[]
 | .ref t,v,d,bs=>jyz H t v d/\bs=[]
 | .nil b,v,_,bs=>v=jGd b/\bs=[]
 | .clo f,v,_,bs=>v= .func (.func f) #[] #[]/\bs=[]
 | .fn ps rs,v,d,bs=>FnV P H ps rs d.pre d.F v/\bs=[]
 | .own s _,v,d,bs=>ShV H w s v d bs
def jaG (P:Program) (H:Imm) (w:World):(ps:List vZ)->List Value->OD ps->List Nat->Prop
 |[],vs,_,bs=>vs=[]/\bs=[]
 |p::ps,v::vs,d,bs=>∃a b,bs=a++b/\jGi P H w p v d.1 a/\jaG P H w ps vs d.2 b
 |_::_,[],_,_=>False
def jCR (H:Imm) (w:World):(rs:List Sh)->List Value->RD rs->List Nat->Prop
 |[],vs,_,bs=>vs=[]/\bs=[]
 |s::rs,v::vs,d,bs=>∃a b,bs=a++b/\ShV H w s v d.1 a/\jCR H w rs vs d.2 b
 |_::_,[],_,_=>False
def jD2:List Value->Value
 |[v]=>v
 |vs=> .tuple vs.toArray
def jht (H:Imm) (w:World):(ps:List vZ)->List Value->KD ps->List Nat->Prop
 |[],_,_,bs=>bs=[]
 | .own s true::ps,v::vs,d,bs=>∃a b,bs=a++b/\ShV H w s v d.1 a/\jht H w ps vs d.2 b
 | .own _ false::ps,_::vs,d,bs=>jht H w ps vs d bs
 | .val _::ps,_::vs,d,bs=>jht H w ps vs d bs
 | .ref _::ps,_::vs,d,bs=>jht H w ps vs d bs
 | .nil _::ps,_::vs,d,bs=>jht H w ps vs d bs
 | .clo _::ps,_::vs,d,bs=>jht H w ps vs d bs
 | .fn _ _::ps,_::vs,d,bs=>jht H w ps vs d bs
 |_::_,[],_,_=>False
def jrp (H:Imm) (w:World) (bs:List Nat) (s:zP) (vals:List Value) (d:OD s.ps):Ending->World->Prop:=
 fun e w'=>∃vs H' c a,e= .returned (jD2 vs)/\jE0 bs H w H' w'/\jCR H' w' s.rs vs (s.F d).1 c/\jht H' w' s.ps vals (s.F d).2 a/\(c++a).Nodup/\∀b,b∈c++a->b∈bs\/w.heap.size<=b
structure qa (P:Program) (f:Nat) (s:zP):Prop where
 enters:enters P f
 calls:∀H w vals d bs,jbT H w->jaG P H w s.ps vals d bs->bs.Nodup->k8 (s.pre d)->Calls P f vals.toArray w (jrp H w bs s vals d)
def yN (i:Nat):Nat:=1000000+i
def jzb (i j:Nat):Nat:=400000+20*i+j
def oSl:(ps:List vZ)->OD ps->Nat->List (Nat×SV)
 |[],_,_=>[]
 | .val t::ps,d,i=>(i,.dat t d.1)::oSl ps d.2 (i+1)
 | .ref t::ps,d,i=>(i,.ep t d.1)::oSl ps d.2 (i+1)
 | .nil b::ps,d,i=>(i,.lit (jGd b))::oSl ps d.2 (i+1)
 | .clo f::ps,d,i=>(i,.clo f [])::oSl ps d.2 (i+1)
 | .fn a rs::ps,d,i=>(i,.fn a rs d.1.pre d.1.F)::oSl ps d.2 (i+1)
 | .own s _::ps,d,i=>(i,jjn (yN i) s d.1)::oSl ps d.2 (i+1)
def oOb:(ps:List vZ)->OD ps->Nat->List (Nat×Option Ob)
 |[],_,_=>[]
 | .own s _::ps,d,i=>oOb ps d.2 (i+1)++jqj (yN i) (jzb i) s d.1
 | .val _::ps,d,i=>oOb ps d.2 (i+1)
 | .ref _::ps,d,i=>oOb ps d.2 (i+1)
 | .nil _::ps,d,i=>oOb ps d.2 (i+1)
 | .clo _::ps,d,i=>oOb ps d.2 (i+1)
 | .fn _ _::ps,d,i=>oOb ps d.2 (i+1)
def js2:List vZ->Nat->List Nat
 |[],_=>[]
 | .own s _::ps,i=>kl (yN i) (jzb i) s++js2 ps (i+1)
 |_::ps,i=>js2 ps (i+1)
def jdD (k:Nat):Sh->SV
 | .cl (.row _ t _)=> .own k t
 | .cl (.map _ _)=> .mp k
 | .cl (.dat _)=> .any
 | .box _ _=> .bp k 0
 | .fbox f _ _=> .clo f [.bp k 0]
 | .agg _=> .any
def jy3:Sh->Bool
 | .cl (.dat _)=>false
 | .agg _=>false
 |_=>true
def jgb (σ:St):(rs:List Sh)->List ResultVar->Option (RD rs×List Nat×List Nat)
 |[],[]=>some ((),[],[])
 |s::rs,.tmp t::rv=>match jkF σ s (σ.get t) with
  |some (x,os,f)=>match jgb σ rs rv with
   |some (y,a,b)=>some ((x,y),os++a,f++b)
   |none=>none
  |none=>none
 |_,_=>none
def jcD (C:Ctx) (σ:St):(rs:List Sh)->List ResultVar->Option (RD rs×List Nat×List Nat)
 |[],[]=>some ((),[],[])
 |s::rs,v::rv=>match jkF σ s (jgU C σ v) with
  |some (x,os,f)=>match jcD C σ rs rv with
   |some (y,a,b)=>some ((x,y),os++a,f++b)
   |none=>none
  |none=>none
 |_,_=>none
def qV (σ:St):(ps:List vZ)->Nat->Option (KD ps×List Nat×List Nat)
 |[],_=>some ((),[],[])
 | .own s true::ps,i=>match jkF σ s (jdD (yN i) s) with
  |some (x,os,f)=>match qV σ ps (i+1) with
   |some (y,a,b)=>some ((x,y),os++a,f++b)
   |none=>none
  |none=>none
 | .own _ false::ps,i=>qV σ ps (i+1)
 | .val _::ps,i=>qV σ ps (i+1)
 | .ref _::ps,i=>qV σ ps (i+1)
 | .nil _::ps,i=>qV σ ps (i+1)
 | .clo _::ps,i=>qV σ ps (i+1)
 | .fn _ _::ps,i=>qV σ ps (i+1)
def qh:List Nat->Bool
 |[]=>true
 |o::r=>match yx r o with|true=>false|false=>qh r
def jEt (C:Ctx) (fn:Func) (s:zP) (want:RD s.rs×KD s.ps):Ex->St->Prop
 | .exit _,_=>False
 |_,σ=>match jcD C σ s.rs fn.results.toList,qV σ s.ps 0 with
  |some (r,o1,a),some (k,o2,b)=>match qh (o1++o2),jcq (a++b) (o1++o2) with
   |true,false=>r=want.1/\k=want.2
   |_,_=>False
  |_,_=>False
@[irreducible] def jwi (C:Ctx) (A:Ann) (fn:Func) (body:Code) (s:zP):Prop:=
 ∀d:OD s.ps,jop (s.pre d) (vcg C A body ⟨oSl s.ps d 0,oOb s.ps d 0⟩ (jEt C fn s (s.F d)))
section
variable {P:Program} {B:zV} {C:Ctx} {ρ:Env} {w:World}
theorem kH:∀(l:List Nat),qh l=true->l.Nodup
 |[],_=>List.nodup_nil
 |o::r,h=>by
  simp only[qh] at h
  split at h
  .cases h
  .rename_i a
   rw[jHV]
   exact⟨qi a,kH r h⟩
theorem jn3 {k:Nat} {nm:Nat->Nat} {s:Sh} {x:s.D} {ob:List (Nat×Option Ob)} {n:Nat} (d:n∉kl k nm s) (h:kN (oo ob) n):kN (oo (jqj k nm s x++ob)) n:=by
 cases s with
 |cl c=>exact yv (jcZ k c x) h
 |box T cs=>
  intro o e fz b a;simp only[kl,jG4,not_or] at d;simp only[jqj,jHx] at a;rw[jer] at a;unfold jgC at a
  split at a
  .simp at a;obtain⟨rfl,rfl,rfl⟩:=a;exact wP cs x 0 d.2
  .exact yv (wg nm cs x 0) h o e fz b a
 |fbox f T cs=>
  intro o e fz b a;simp only[kl,jG4,not_or] at d;simp only[jqj,jHx] at a;rw[jer] at a;unfold jgC at a
  split at a
  .simp at a;obtain⟨rfl,rfl,rfl⟩:=a;exact wP cs x 0 d.2
  .exact yv (wg nm cs x 0) h o e fz b a
 |agg cs=>exact yv (wg (nmA k) cs x 0) h
theorem juH:∀(ps:List vZ) (d:OD ps) (i s:Nat) (v:SV),jD (oSl ps d i) s=some v->i<=s
 |[],_,_,_,_,h=>by simp[oSl,jD] at h
 |p::ps,d,i,s,v,h=>by
  have:∃sv,oSl (p::ps) d i=(i,sv)::oSl ps d.2 (i+1):=by cases p<;>exact⟨_,rfl⟩
  obtain⟨sv,e⟩:=this
  rw[e] at h
  simp only[jD] at h
  cases a:Nat.beq i s with
  |true=>have:=jG0 a;omega
  |false=>rw[a] at h;have:=juH ps d.2 (i+1) s v h;omega
theorem jiQ:∀(ps:List vZ) (i:Nat) {ob:List (Nat×Option Ob)} {ρ:Env} (_:Sat P B ρ (oo ob) w) {vs:List Value} {d:OD ps} {bs:List Nat} (_:jaG P ρ.H w ps vs d bs) (_:bs.Nodup) (_:∀b,b∈bs->OkB B ρ b)
 (_:(js2 ps i).Nodup) (_:∀n,n∈js2 ps i->oo ob n=none/\kN (oo ob) n),
 ∃r,je6 P B ρ w ob (oOb ps d i) (js2 ps i) bs r/\∀s v,jD (oSl ps d i) s=some v->∃x,vs[s-i]? =some x/\SV.den P r v x
 |[],i,ob,ρ,D,vs,d,bs,I,_,_,_,_=>by
  obtain⟨rfl,rfl⟩:=I
  exact⟨ρ,⟨D,Env.le.refl _ _,rfl,fun _ _=>⟨rfl,rfl⟩,fun _ _ _ h=> .inl h⟩,fun s v h=>by simp[oSl,jD] at h⟩
 |p::ps,i,ob,ρ,D,[],d,bs,I,_,_,_,_=>I.elim
 |p::ps,i,ob,ρ,D,v::vs,d,bs,I,hnd,hb,j,hk=>by
  obtain⟨S,V,rfl,y,X⟩:=I
  have plain:∀(sv:SV),S=[]->SV.den P ρ sv v->(∀o,sv.refs o=false)->oSl (p::ps) d i=(i,sv)::oSl ps d.2 (i+1)->oOb (p::ps) d i=oOb ps d.2 (i+1)->js2 (p::ps) i=js2 ps (i+1)->
   ∃r,je6 P B ρ w ob (oOb (p::ps) d i) (js2 (p::ps) i) (S++V) r/\∀s u,jD (oSl (p::ps) d i) s=some u->∃x,(v::vs)[s-i]? =some x/\SV.den P r u x:=by
   intro sv L G hr e2 e3 e4;subst L;rw[e4] at j hk⊢;rw[e3,e2];obtain⟨r,a,N⟩:=jiQ ps (i+1) D X (by simpa using hnd) (fun b g=>hb b (by simpa using g)) j hk;refine⟨r,by simpa using a,fun s u q=> ?_⟩;simp only[jD] at q;cases l:Nat.beq i s with
   |true=>
    have:=jG0 l;subst this;rw[l] at q;simp at q;subst q;exact⟨v,by simp,SV.den_mono a.le _ _ (fun o _=>hr o) G⟩
   |false=>
    rw[l] at q;have M:=juH ps d.2 (i+1) s u q;obtain⟨x,O,Q⟩:=N s u q;exact⟨x,by rw[show s-i=(s-(i+1))+1 by omega];simpa using O,Q⟩
  cases p with
  |val t=>exact plain (.dat t d.1) y.2 (by simp only[SV.den];exact y.1) (fun _=>rfl) rfl rfl rfl
  |ref t=>exact plain (.ep t d.1) y.2 (by simp only[SV.den];exact y.1) (fun _=>rfl) rfl rfl rfl
  |nil b=>exact plain (.lit (jGd b)) y.2 (by simp only[SV.den];exact y.1) (fun _=>rfl) rfl rfl rfl
  |clo f=>exact plain (.clo f []) y.2 (by simp only[SV.den,SV.denL];exact⟨#[],y.1,rfl⟩) (fun _=>rfl) rfl rfl rfl
  |fn qs rs=>exact plain (.fn qs rs d.1.pre d.1.F) y.2 (by simp only[SV.den];exact y.1) (fun _=>rfl) rfl rfl rfl
  |own s kp=>
   simp only[js2] at j hk⊢;rw[jHZ] at j hnd;obtain⟨n1,n2,W⟩:=j;obtain⟨Y,Z,d3⟩:=hnd;obtain⟨ρ1,A,L,_⟩:=jt5 D (s:=s) (k:=yN i) (nm:=jzb i) y Y (fun b g=>hb b (jG2 _ g)) n1 (fun n K=>hk n (jG2 _ K)) 0 0;obtain⟨R,C,N⟩:=jiQ ps (i+1) A.sat (vs:=vs) (d:=d.2) (bs:=V) (by
    rw[A.H];exact X) Z (fun b g=>⟨(hb b (jG1 _ g)).1,fun o C' h=>by
    rcases A.blk o b C' h with h|h
    .exact(hb b (jG1 _ g)).2 o C' h
    .exact d3 b h b g rfl⟩) n2 (fun n K=>by
    obtain⟨k1,k2⟩:=hk n (jG1 _ K);have j:n∉kl (yN i) (jzb i) s:=fun h=>W n h n K rfl
    exact⟨by rw[qe (by rw[jct];exact j)];exact k1,jn3 j k2⟩)
   refine⟨R,⟨by simp only[oOb,jHn];exact C.sat,?_,C.H.trans A.H,fun o z=> ?_,fun o b C' h=> ?_⟩,fun J u q=> ?_⟩
   .exact(A.le.weaken (fun o z=>jG2 _ z)).trans (C.le.weaken (fun o z=>jG1 _ z))
   .simp only[jHa,not_or] at z;obtain⟨s1,s2⟩:=A.same o z.1;obtain⟨s3,s4⟩:=C.same o z.2;exact⟨s3.trans s1,s4.trans s2⟩
   .rcases C.blk o b C' h with h|h
    .rcases A.blk o b C' h with h|h
     .exact .inl h
     .exact .inr (jG2 _ h)
    .exact .inr (jG1 _ h)
   .simp only[oSl,jD] at q;cases l:Nat.beq i J with
    |true=>
     have:=jG0 l;subst this;rw[l] at q;simp at q;subst q;refine⟨v,by simp,SV.den_mono C.le _ _ (fun o z=> ?_) L⟩;have:o∉kl (yN i) (jzb i) s:=fun h=>W o h o z rfl
     cases s with
     |cl c=>
      cases c with
      |dat t=>rfl
      |row E t nl=>
       have m:o≠yN i:=fun e=>this (by simp[kl,w7,e])
       simp only[jjn,joS,SV.refs];cases g:Nat.beq o (yN i) with
       |false=>rfl
       |true=>exact absurd (jG0 g) m
      |map kt vt=>
       have m:o≠yN i:=fun e=>this (by simp[kl,w7,e])
       simp only[jjn,joS,SV.refs];cases g:Nat.beq o (yN i) with
       |false=>rfl
       |true=>exact absurd (jG0 g) m
     |box T cs=>
      have m:o≠yN i:=fun e=>this (by simp[kl,e])
      simp only[jjn,SV.refs];cases g:Nat.beq o (yN i) with
      |false=>rfl
      |true=>exact absurd (jG0 g) m
     |fbox f T cs=>
      have m:o≠yN i:=fun e=>this (by simp[kl,e])
      simp only[jjn,SV.refs,SV.refs.refsL];cases g:Nat.beq o (yN i) with
      |false=>simp
      |true=>exact absurd (jG0 g) m
     |agg cs=>simp only[jjn,SV.refs];exact wP cs d.1 0 this
    |false=>
     rw[l] at q;have M:=juH ps d.2 (i+1) J u q;obtain⟨x,O,Q⟩:=N J u q;exact⟨x,by rw[show J-i=(J-(i+1))+1 by omega];simpa using O,Q⟩
theorem jcp {H:Imm}:∀(ps:List vZ) (vs:List Value) (d:OD ps) (bs:List Nat),jaG P H w ps vs d bs->vs.length=ps.length
 |[],vs,d,bs,h=>by obtain⟨rfl,_⟩:=h;rfl
 |p::ps,[],d,bs,h=>h.elim
 |p::ps,v::vs,d,bs,h=>by
  obtain⟨_,a,_,_,h⟩:=h
  simp[jcp ps vs d.2 a h]
theorem jun {B':zV} {obj:Nat->Option Ob} (h:Sat P B ρ obj w) (a:B'.w=B.w) (c:B'.H=B.H) (b:B'.bor=B.bor):Sat P B' ρ obj w:=
 ⟨by rw[a];exact h.os,by rw[a];exact h.tape,by rw[a];exact h.output,by rw[a];exact h.drawn,by rw[a];exact h.size,h.good,by rw[a,c,b];exact h.oldH,by rw[a,b];exact h.old,h.obs,h.dead,h.inj,by rw[a,b];exact h.own⟩
theorem jAk {b:Env} {k:Nat} {s:Sh} {x:s.D} {v:Value} (d:∀p,b.blk k=some p->ρ.blk k=some p/\b.len k=ρ.len k) (h:SV.den P ρ (jjn k s x) v):SV.den P b (jdD k s) v:=by
 cases s with
 |cl c=>
  cases c with
  |dat t=>simp[jdD,SV.den]
  |row E t nl=>
   simp only[jjn,joS,jdD,SV.den] at h⊢;intro p a;obtain⟨g,i⟩:=d p a;rw[i];exact h p g
  |map kt vt=>
   simp only[jjn,joS,jdD,SV.den] at h⊢;intro p a;exact h p (d p a).1
 |box T cs=>
  simp only[jjn,jdD,SV.den] at h⊢;intro p a;exact h p (d p a).1
 |fbox f T cs=>
  simp only[jjn,jdD,SV.den,SV.denL] at h⊢;obtain⟨lb,e,u,r,j,m,l⟩:=h;exact⟨lb,e,u,r,j,fun p a=>m p (d p a).1,l⟩
 |agg cs=>simp[jdD,SV.den]
theorem jhP {σ τ:St} {fz:List Nat} (c:Sat P B ρ τ.obj w) (b:Frz σ τ fz) {tmps:Array Value} (d:∀s,SV.den P ρ (σ.get s) (tmps.getD s undef)):
 ∀(rs:List Sh) (rv:List ResultVar) (r:RD rs) (os f:List Nat),jgb σ rs rv=some (r,os,f)->(∀o,o∈f->o∈fz)->jgA σ τ os->
  ∃ss:List Nat,rv=ss.map ResultVar.tmp/\jCR ρ.H w rs (ss.map fun s=>tmps.getD s undef) r (zl ρ os)
 |[],[],r,os,f,h,_,_=>by
  simp[jgb] at h
  obtain⟨rfl,rfl⟩:=h
  exact⟨[],rfl,rfl,rfl⟩
 |[],_::_,r,os,f,h,_,_=>by simp[jgb] at h
 |_::_,[],r,os,f,h,_,_=>by simp[jgb] at h
 |s::rs,.cell _ _::rv,r,os,f,h,_,_=>by simp[jgb] at h
 |s::rs,.tmp t::rv,r,os,f,h,hf,hk=>by
  simp only[jgb] at h
  split at h
  case h_2=>cases h
  rename_i x o1 l j
  split at h
  case h_2=>cases h
  rename_i y o2 g k
  simp at h
  obtain⟨rfl,rfl,rfl⟩:=h
  obtain⟨ss,e,i⟩:=jhP c b d rs rv y o2 g k (fun o a=>hf o (jG1 _ a)) (fun o a=>hk o (jG1 _ a))
  exact⟨t::ss,by simp[e],zl ρ o1,zl ρ o2,wc ρ o1 o2,yC c b j (fun o a=>hf o (jG2 _ a)) (fun o a=>hk o (jG2 _ a)) (d t),i⟩
theorem jzP {σ:St}:∀{s:Sh},jkF σ s .any=none
 | .cl (.dat t)=>by simp only[jkF,jwJ,jpg]
 | .cl (.row _ _ _)=>rfl
 | .cl (.map _ _)=>rfl
 | .box _ _=>rfl
 | .fbox _ _ _=>rfl
 | .agg _=>rfl
theorem jga {σ τ:St} {fz:List Nat} {a:Act} (i:C.ok P) (d:Sat P B ρ τ.obj w) (c:Frz σ τ fz) (j:∀s,SV.den P ρ (σ.get s) (a.tmps.getD s undef)):
 ∀(rs:List Sh) (rv:List ResultVar) (r:RD rs) (os f:List Nat),jcD C σ rs rv=some (r,os,f)->(∀o,o∈f->o∈fz)->jgA σ τ os->
  ∃vs:List Value,jaZ P w a.tmps rv vs/\jCR ρ.H w rs vs r (zl ρ os)
 |[],[],r,os,f,h,_,_=>by
  simp[jcD] at h
  obtain⟨rfl,rfl⟩:=h
  exact⟨[],rfl,rfl,rfl⟩
 |[],_::_,r,os,f,h,_,_=>by simp[jcD] at h
 |_::_,[],r,os,f,h,_,_=>by simp[jcD] at h
 |s::rs,t::rv,r,os,f,h,hf,hk=>by
  simp only[jcD] at h
  split at h
  case h_2=>cases h
  rename_i x o1 q g
  split at h
  case h_2=>cases h
  rename_i y o2 k p
  simp at h
  obtain⟨rfl,rfl,rfl⟩:=h
  obtain⟨vs,e,n⟩:=jga i d c j rs rv y o2 k p (fun o b=>hf o (jG1 _ b)) (fun o b=>hk o (jG1 _ b))
  obtain⟨u,l,m⟩:=jjH i d c j t (fun e=>by rw[e,jzP] at g;cases g)
  exact⟨u::vs,⟨l,e⟩,zl ρ o1,zl ρ o2,wc ρ o1 o2,yC d c g (fun o b=>hf o (jG2 _ b)) (fun o b=>hk o (jG2 _ b)) m,n⟩
theorem ki {σ τ:St} {fz:List Nat} (e:Sat P B ρ τ.obj w) (d:Frz σ τ fz):
 ∀(ps:List vZ) (i:Nat) (vs:List Value) (k:KD ps) (os f:List Nat),qV σ ps i=some (k,os,f)->vs.length=ps.length->(∀(j:Nat) s b v,ps[j]? =some (.own s b)->vs[j]? =some v->SV.den P ρ (jdD (yN (i+j)) s) v)->
  (∀o,o∈f->o∈fz)->jgA σ τ os->jht ρ.H w ps vs k (zl ρ os)
 |[],i,vs,k,os,f,h,_,_,_,_=>by
  simp[qV] at h
  obtain⟨rfl,rfl⟩:=h
  exact rfl
 |p::ps,i,[],k,os,f,h,hl,_,_,_=>by simp at hl
 |p::ps,i,v::vs,k,os,f,h,hl,hd,hf,hk=>by
  have a:∀(j:Nat) s b u,ps[j]? =some (.own s b)->vs[j]? =some u->SV.den P ρ (jdD (yN (i+1+j)) s) u:=fun j s b u n q=>by
   have:=hd (j+1) s b u (by simpa using n) (by simpa using q)
   rwa [show i+(j+1)=i+1+j by omega] at this
  have c:vs.length=ps.length:=by simpa using hl
  cases p with
  |val t=>exact ki e d ps (i+1) vs k os f h c a hf hk
  |ref t=>exact ki e d ps (i+1) vs k os f h c a hf hk
  |nil _=>exact ki e d ps (i+1) vs k os f h c a hf hk
  |clo _=>exact ki e d ps (i+1) vs k os f h c a hf hk
  |fn C rs=>exact ki e d ps (i+1) vs k os f h c a hf hk
  |own s b=>
   cases b with
   |false=>exact ki e d ps (i+1) vs k os f h c a hf hk
   |true=>
    simp only[qV] at h
    split at h
    case h_2=>cases h
    rename_i x o1 A r
    split at h
    case h_2=>cases h
    rename_i y o2 l z
    simp at h
    obtain⟨rfl,rfl,rfl⟩:=h
    have m:=hd 0 s true v rfl rfl
    exact⟨zl ρ o1,zl ρ o2,wc ρ o1 o2,yC e d r (fun o g=>hf o (jG2 _ g)) (fun o g=>hk o (jG2 _ g)) m,
     ki e d ps (i+1) vs y o2 l z c a (fun o g=>hf o (jG1 _ g)) (fun o g=>hk o (jG1 _ g))⟩
theorem jnO:∀(ps:List vZ) (d:OD ps) (i j:Nat) s b,ps[j]? =some (.own s b)->∃x:s.D,jD (oSl ps d i) (i+j)=some (jjn (yN (i+j)) s x)
 |[],d,i,j,s,b,h=>by simp at h
 |p::ps,d,i,j,s,b,h=>by
  have:∃sv,oSl (p::ps) d i=(i,sv)::oSl ps d.2 (i+1):=by cases p<;>exact⟨_,rfl⟩
  obtain⟨sv,e⟩:=this
  cases j with
  |zero=>
   simp at h
   subst h
   exact⟨d.1,by simp[oSl,jD]⟩
  |succ j=>
   obtain⟨x,a⟩:=jnO ps d.2 (i+1) j s b (by simpa using h)
   refine⟨x,?_⟩
   rw[e,jB (by omega),show i+(j+1)=i+1+j by omega]
   exact a
theorem jFp (hC:C.ok P) (hm:P.follows .mixedOrders=true) {f:Nat} {fn:Func} {body:Code} {s:zP} (hf:P.funcs[f]? =some fn) (g:fn.body=some body)
 (I:(fn.name== "runtime.NumGoroutine")=false) (hn:fn.ntmps=C.n) (hps:s.ps.length<=C.n) (hnm:qh (js2 s.ps 0)=true) (A:Ann) (h:jwi C A fn body s):qa P f s:=by
 unfold jwi at h;refine⟨w9 hf g I,fun H w vals d bs hg i hnd O=> ?_⟩;have M:=jcp s.ps vals d bs i;refine calls_of_wp hf g ?_;have hv:=vw _ _ (h d) O
 let B0:zV:=⟨w,H,bs,fun _=>none,fun _=>0⟩
 let t:Env:=⟨H,fun _=>none,fun _=>0⟩
 have hS0:Sat P B0 t (oo []) w:=by
  refine⟨rfl,rfl,rfl,jG5 _,jG5 _,hg,fun _ _ _=>rfl,fun _ _ _=>rfl,?_,fun _ _=>rfl,?_,?_⟩
  .intro o x hx;simp[oo,St.obj,jD] at hx
  .intro o o' b C1 C2 q;simp[t] at q
  .intro o b C1 q;simp[t] at q
 obtain⟨z,a,S⟩:=jiQ s.ps 0 hS0 (d:=d) i hnd (fun b g=>⟨.inr g,fun o C' h=>by simp[t] at h⟩) (kH _ hnm)
  (fun n _=>⟨by simp[oo,St.obj,jD],fun o T fz cs h=>by simp[oo,St.obj,jD] at h⟩)
 let B:zV:=⟨w,H,bs,z.blk,z.len⟩
 have hSf:Sat P B z (⟨oSl s.ps d 0,oOb s.ps d 0⟩:St).obj w:=by
  have:=jun (B':=B) a.sat rfl rfl rfl;rw[jHw] at this;exact this
 have hR:Rel P B C.n ⟨oSl s.ps d 0,oOb s.ps d 0⟩ {tmps:=vals.toArray++Array.replicate (fn.ntmps-vals.toArray.size) undef,defers:=[]} w:=by
  refine⟨rfl,by simp;omega,z,hSf,?_,fun o p _ X=>⟨X,rfl⟩,fun _ _ g=>by rw[a.H];exact g⟩;intro k v hk;obtain⟨x,q,h2⟩:=S k v hk;have N:=(jG6.1 q).1;simp only[Nat.sub_zero] at q N;have:(vals.toArray++Array.replicate (fn.ntmps-vals.toArray.size) undef).getD k undef=x:=by
   rw[jG9,jHQ (by simpa using N)];simp[q]
  rw[this];exact h2
 refine wE hC hm A body _ _ _ _ w hv hR (fun e σ V w' _ Y Z=> ?_);have D:(match jcD C σ s.rs fn.results.toList,qV σ s.ps 0 with
  |some (r,o1,W),some (k,o2,J)=>match qh (o1++o2),jcq (W++J) (o1++o2) with
   |true,false=>r=(s.F d).1/\k=(s.F d).2
   |_,_=>False
  |_,_=>False)->V.defers=[]/\∃v,(Go.results fn V.tmps).run P w'= .ok v w'/\jrp H w bs s vals d (.returned v) w':=by
  intro Q
  split at Q
  case h_2=>exact Q.elim
  rename_i r o1 W k o2 J R G
  split at Q
  case h_2=>exact Q.elim
  rename_i hno hme;obtain⟨hr1,hr2⟩:=Q;obtain⟨q,h2,ρ',hS',hSl,K⟩:=Z;obtain⟨u,c,hle,L,hln⟩:=jX (σ:=σ) (W++J) hS';have hd:∀k,SV.den P u (σ.get k) (V.tmps.getD k undef):=by
   intro k;have:=jO (P:=P) (a:=V) hSl (.tmp k);exact SV.den_mono hle _ _ (fun o m=>by simp at m) this
  have l:jgA σ (σ.frz (W++J)) (o1++o2):=by
   intro o m;rw[kL,if_neg];exact fun hm=>wj _ _ hme o hm m
  obtain⟨us,e1,e2⟩:=jga hC c (w8 σ _) hd s.rs _ _ _ _ R (fun o m=>jG2 _ m) (fun o m=>l o (jG2 _ m));have e3:=ki c (w8 σ _) s.ps 0 vals k o2 J G M (fun j sh b v hj hvj=>by
   obtain⟨x,hx⟩:=jnO s.ps d 0 j sh b hj;obtain⟨y,y1,y2⟩:=S (0+j) _ hx;have:y=v:=by
    rw[show 0+j-0=j by omega,hvj] at y1;simpa using y1.symm
   subst this;refine jAk (fun p X=> ?_) y2;rw[L] at X;obtain⟨q1,q2⟩:=K.1 (yN (0+j)) p (by unfold yN;omega) X;exact⟨q1,by rw[hln];exact q2⟩) (fun o m=>jG1 _ m) (fun o m=>l o (jG1 _ m))
  refine⟨q,_,vj e1,us,u.H,zl u o1,zl u o2,rfl,?_,by rw[<-hr1];exact e2,by rw[<-hr2];exact e3,?_,?_⟩
  .exact⟨c.os,c.tape,c.output,c.drawn,c.size,fun b g E=>c.old b g E,fun b g E=>c.oldH b g E,c.good⟩
  .rw[<-wc];exact qZ c _ (kH _ hno)
  .rw[<-wc];intro b g;obtain⟨o,Cp,_,h3⟩:=(zj _).1 g;rcases c.own o b Cp h3 with h|h
   .exact .inr h
   .exact .inl h
 cases e with
 |normal=>exact D Y
 |ret=>exact D Y
 |exit id=>exact Y.elim
end
end Go.X
namespace Go.X
open Go.RowKit (Below)
def jfB:SV->Option Nat
 | .own o _=>some o
 | .mp o=>some o
 | .bp o 0=>some o
 | .clo _ [.bp o 0]=>some o
 |_=>none
def jl0 (C:Ctx) (σ:St):(p:vZ)->SV->Option (p.Data×List Nat×List Nat)
 | .val t,v=>match qn σ t v with|some (x,f)=>some (x,[],f)|none=>none
 | .ref t,v=>match jrV σ t v with|some (x,f)=>some (x,[],f)|none=>none
 | .nil b,v=>match v with| .lit u=>(match jzv b u with|true=>some ((),[],[])|false=>none)|_=>none
 | .clo f,v=>match v with| .clo g []=>(match Nat.beq g f with|true=>some ((),[],[])|false=>none)|_=>none
 | .fn ps rs,v=>match jDD C σ ps rs v with|some (x,f)=>some (x,[],f)|none=>none
 | .own s true,v=>match jy3 s,jfB v with
  |true,some _=>jkF σ s v
  |_,_=>none
 | .own s false,v=>match jy3 s with|true=>jkF σ s v|false=>none
def jrz (C:Ctx) (σ:St):(ps:List vZ)->List SV->Option (OD ps×List Nat×List Nat)
 |[],[]=>some ((),[],[])
 |p::ps,v::vs=>match jl0 C σ p v with
  |some (x,os,f)=>match jrz C σ ps vs with
   |some (y,a,b)=>some ((x,y),os++a,f++b)
   |none=>none
  |none=>none
 |_,_=>none
def jjF (v:SV):Nat:=match jfB v with|some o=>o|none=>0
def kn (dst i j:Nat):Nat:=1000*(dst+1)+50*i+j
def rn (dst j:Nat):Nat:=match j with|0=>dst|_=>1000*(dst+1)+900+j
def rnn (dst j i:Nat):Nat:=1000*(dst+1)+500+50*j+i
def kM (dst:Nat):(ps:List vZ)->List SV->KD ps->Nat->List (Nat×Option Ob)
 | .own s true::ps,v::vs,d,i=>kM dst ps vs d.2 (i+1)++jqj (jjF v) (kn dst i) s d.1
 | .own _ false::ps,_::vs,d,i=>kM dst ps vs d (i+1)
 | .val _::ps,_::vs,d,i=>kM dst ps vs d (i+1)
 | .ref _::ps,_::vs,d,i=>kM dst ps vs d (i+1)
 | .nil _::ps,_::vs,d,i=>kM dst ps vs d (i+1)
 | .clo _::ps,_::vs,d,i=>kM dst ps vs d (i+1)
 | .fn _ _::ps,_::vs,d,i=>kM dst ps vs d (i+1)
 |_,_,_,_=>[]
def zt (dst:Nat):List vZ->List SV->Nat->List Nat
 | .own s true::ps,v::vs,i=>kl (jjF v) (kn dst i) s++zt dst ps vs (i+1)
 | .own _ false::ps,_::vs,i=>zt dst ps vs (i+1)
 | .val _::ps,_::vs,i=>zt dst ps vs (i+1)
 | .ref _::ps,_::vs,i=>zt dst ps vs (i+1)
 | .nil _::ps,_::vs,i=>zt dst ps vs (i+1)
 | .clo _::ps,_::vs,i=>zt dst ps vs (i+1)
 | .fn _ _::ps,_::vs,i=>zt dst ps vs (i+1)
 |_,_,_=>[]
def zJ (dst:Nat):List vZ->List SV->Nat->List Nat
 | .own (.box _ cs) true::ps,_::vs,i=>wH (kn dst i) cs 0++zJ dst ps vs (i+1)
 | .own (.fbox _ _ cs) true::ps,_::vs,i=>wH (kn dst i) cs 0++zJ dst ps vs (i+1)
 | .own (.agg cs) true::ps,v::vs,i=>wH (nmA (jjF v)) cs 0++zJ dst ps vs (i+1)
 | .own _ _::ps,_::vs,i=>zJ dst ps vs (i+1)
 | .val _::ps,_::vs,i=>zJ dst ps vs (i+1)
 | .ref _::ps,_::vs,i=>zJ dst ps vs (i+1)
 | .nil _::ps,_::vs,i=>zJ dst ps vs (i+1)
 | .clo _::ps,_::vs,i=>zJ dst ps vs (i+1)
 | .fn _ _::ps,_::vs,i=>zJ dst ps vs (i+1)
 |_,_,_=>[]
def jaX (dst:Nat):(rs:List Sh)->RD rs->Nat->List (Nat×Option Ob)
 |[],_,_=>[]
 |s::rs,d,j=>jaX dst rs d.2 (j+1)++jqj (rn dst j) (rnn dst j) s d.1
def qJ (dst:Nat):List Sh->Nat->List Nat
 |[],_=>[]
 |s::rs,j=>kl (rn dst j) (rnn dst j) s++qJ dst rs (j+1)
def jfD (dst:Nat):(rs:List Sh)->RD rs->Nat->List SV
 |[],_,_=>[]
 |s::rs,d,j=>jjn (rn dst j) s d.1::jfD dst rs d.2 (j+1)
def jp2:List SV->SV
 |[v]=>v
 |vs=> .tup vs
def jcr:List Nat->List (Nat×Option Ob)
 |[]=>[]
 |o::r=>(o,none)::jcr r
def jiR (σ:St):List Nat->Bool
 |[]=>true
 |n::r=>match σ.obj n,qX n σ.ob with
  |none,true=>jiR σ r
  |_,_=>false
def jj5 (C:Ctx) (s:zP) (dst:Nat) (σ:St) (svs:List SV):Option Out:=
 match jrz C σ s.ps svs with
 |none=>none
 |some (d,os,fz)=>match qh os,jcq fz os,qh (qJ dst s.rs 0++zt dst s.ps svs 0),jiR σ (qJ dst s.rs 0++zJ dst s.ps svs 0) with
  |true,false,true,true=>some ⟨s.pre d,[],jp2 (jfD dst s.rs (s.F d).1 0),fz,kM dst s.ps svs (s.F d).2 0++(jaX dst s.rs (s.F d).1 0++jcr os),qJ dst s.rs 0++zJ dst s.ps svs 0⟩
  |_,_,_,_=>none
def jGq (C:Ctx) (l:List (Nat×zP)) (f dst:Nat) (σ:St) (svs:List SV):Option Out:=
 match jD l f with
 |some s=>jj5 C s dst σ svs
 |none=>none
section
variable {P:Program} {B:zV} {C:Ctx} {σ τ:St} {ρ:Env} {w:World}
theorem jzu {b:Bool} {v:Value} (h:jzv b v=true):v=jGd b:=by
 cases b with
 |true=>
  simp only[jzv,jg7] at h
  split at h
  .rfl
  .cases h
 |false=>exact wz h
theorem jtX (k:C.ok P) (e:Sat P B ρ τ.obj w) {fz:List Nat} (d:Frz σ τ fz) {p:vZ} {sv:SV} {x:p.Data} {os f:List Nat} (h:jl0 C σ p sv=some (x,os,f)) (i:∀o,o∈f->o∈fz) (hk:jgA σ τ os)
 {v:Value} (a:SV.den P ρ sv v):jGi P ρ.H w p v x (zl ρ os):=by
 cases p with
 |val t=>
  simp only[jl0] at h
  split at h
  .rename_i y j g;simp at h;obtain⟨rfl,rfl,rfl⟩:=h;exact⟨jT e d g i a,rfl⟩
  .cases h
 |ref t=>
  simp only[jl0] at h
  split at h
  .rename_i y j g;simp at h;obtain⟨rfl,rfl,rfl⟩:=h;exact⟨jaQ e d g i a,rfl⟩
  .cases h
 |nil _=>
  simp only[jl0] at h
  split at h
  case h_2=>cases h
  split at h
  case h_2=>cases h
  rename_i m;simp at h;obtain⟨rfl,rfl⟩:=h;simp only[SV.den] at a;exact⟨by rw[a,jzu m],rfl⟩
 |clo f=>
  simp only[jl0] at h
  split at h
  case h_2=>cases h
  split at h
  case h_2=>cases h
  rename_i l;simp at h;obtain⟨rfl,rfl⟩:=h;simp only[SV.den,SV.denL] at a;obtain⟨vs,rfl,c⟩:=a;have c:vs= #[]:=jHp.1 (by simpa using c);have:=jG0 l;subst this;subst c;exact⟨rfl,rfl⟩
 |fn ps rs=>
  simp only[jl0] at h
  split at h
  .rename_i y j g;simp at h;obtain⟨rfl,rfl,rfl⟩:=h;exact⟨jmb k e d g i a,rfl⟩
  .cases h
 |own s b=>
  cases b with
  |true=>
   simp only[jl0] at h
   split at h
   .exact yC e d h i hk a
   .cases h
  |false=>
   simp only[jl0] at h
   split at h
   .exact yC e d h i hk a
   .cases h
theorem jl5 (c:C.ok P) (g:Sat P B ρ τ.obj w) {fz:List Nat} (e:Frz σ τ fz):∀{ps:List vZ} {svs:List SV} {d:OD ps} {os f:List Nat},jrz C σ ps svs=some (d,os,f)->(∀o,o∈f->o∈fz)->jgA σ τ os->
 ∀{vs:List Value},SV.denL P ρ svs vs->jaG P ρ.H w ps vs d (zl ρ os)
 |[],[],d,os,f,h,_,_,vs,b=>by
  simp[jrz] at h
  obtain⟨rfl,rfl⟩:=h
  simp[SV.denL] at b
  exact⟨b,rfl⟩
 |[],_::_,d,os,f,h,_,_,vs,b=>by simp[jrz] at h
 |_::_,[],d,os,f,h,_,_,vs,b=>by simp[jrz] at h
 |p::ps,sv::svs,d,os,f,h,hf,hk,vs,b=>by
  simp only[jrz] at h
  split at h
  case h_2=>cases h
  rename_i x o1 m i
  split at h
  case h_2=>cases h
  rename_i y o2 n j
  simp at h
  obtain⟨rfl,rfl,rfl⟩:=h
  simp only[SV.denL] at b
  obtain⟨v,r,rfl,k,l⟩:=b
  exact⟨zl ρ o1,zl ρ o2,wc ρ o1 o2,jtX c g e i (fun o a=>hf o (jG2 _ a)) (fun o a=>hk o (jG2 _ a)) k,
   jl5 c g e j (fun o a=>hf o (jG1 _ a)) (fun o a=>hk o (jG1 _ a)) l⟩
theorem jFX {H:Imm} {c:Cl} {v:Value} {x:c.D} {bs:List Nat} (h:ClV H w c v x bs):∀b,b∈bs->H b=none:=by
 intro b a;cases c with
 |dat t=>obtain⟨_,rfl⟩:=h;simp at a
 |row E t nl=>
  rcases h.2 with⟨_,_,_,rfl⟩|⟨e,_,_,_,rfl,d,_⟩
  .simp at a
  .simp at a;subst a;exact d
 |map kt vt=>obtain⟨e,_,_,_,rfl,d,_⟩:=h;simp at a;subst a;exact d
theorem ju9 {H:Imm}:∀(cs:List Cl) (vs:List Value) (x:Cl.Ds cs) (bs:List Nat),jA1 H w cs vs x bs->∀b,b∈bs->H b=none
 |[],vs,x,bs,h,b,a=>by obtain⟨_,rfl⟩:=h;simp at a
 |c::cs,[],x,bs,h,b,a=>h.elim
 |c::cs,v::vs,x,bs,h,b,a=>by
  obtain⟨g,d,rfl,e,_,f⟩:=h
  rcases jHa.1 a with a|a
  .exact jFX e b a
  .exact ju9 cs vs x.2 d f b a
theorem jGn {H:Imm} {s:Sh} {v:Value} {x:s.D} {bs:List Nat} (h:ShV H w s v x bs):∀b,b∈bs->H b=none:=by
 intro b d;cases s with
 |cl c=>exact jFX h b d
 |box T cs=>
  obtain⟨g,vs,bs',_,rfl,e,_,a⟩:=h;rcases jG4.1 d with rfl|d
  .exact e
  .exact ju9 cs _ x bs' a b d
 |fbox f T cs=>
  obtain⟨g,vs,bs',_,rfl,e,_,a⟩:=h;rcases jG4.1 d with rfl|d
  .exact e
  .exact ju9 cs _ x bs' a b d
 |agg cs=>
  obtain⟨vs,_,a⟩:=h;exact ju9 cs _ x bs a b d
theorem jy1 {H:Imm}:∀(ps:List vZ) (vs:List Value) (d:OD ps) (bs:List Nat),jaG P H w ps vs d bs->∀b,b∈bs->H b=none
 |[],vs,d,bs,h,b,a=>by obtain⟨_,rfl⟩:=h;simp at a
 |p::ps,[],d,bs,h,b,a=>h.elim
 |p::ps,v::vs,d,bs,h,b,a=>by
  obtain⟨g,e,rfl,c,f⟩:=h
  rcases jHa.1 a with a|a
  .cases p with
   |val t=>obtain⟨_,rfl⟩:=c;simp at a
   |ref t=>obtain⟨_,rfl⟩:=c;simp at a
   |nil _=>obtain⟨_,rfl⟩:=c;simp at a
   |clo _=>obtain⟨_,rfl⟩:=c;simp at a
   |fn i rs=>obtain⟨_,rfl⟩:=c;simp at a
   |own s k=>exact jGn c b a
  .exact jy1 ps vs d.2 e f b a
def jgB (ρ:Env):List vZ->List SV->List Value->Prop
 | .own s true::ps,sv::svs,v::vs=>(∃a b,ρ.blk (jjF sv)=some (jv6 a s v)/\ρ.len (jjF sv)=jzp b s v)/\jgB ρ ps svs vs
 | .own _ false::ps,_::svs,_::vs=>jgB ρ ps svs vs
 | .val _::ps,_::svs,_::vs=>jgB ρ ps svs vs
 | .ref _::ps,_::svs,_::vs=>jgB ρ ps svs vs
 | .nil _::ps,_::svs,_::vs=>jgB ρ ps svs vs
 | .clo _::ps,_::svs,_::vs=>jgB ρ ps svs vs
 | .fn _ _::ps,_::svs,_::vs=>jgB ρ ps svs vs
 |_,_,_=>True
theorem jDQ (m:Sat P B ρ τ.obj w) {s:Sh} {sv:SV} {x:s.D} {os f:List Nat} (h:jkF σ s sv=some (x,os,f)) (z:jy3 s=true) {r:Nat} (e:jfB sv=some r) (hk:jgA σ τ os) {v:Value} (i:SV.den P ρ sv v):
 r∈os/\∃j I,ρ.blk r=some (jv6 j s v)/\ρ.len r=jzp I s v:=by
 unfold jkF at h
 split at h
 .rename_i c;unfold jwJ at h
  split at h
  .cases z
  .rename_i E t nl o u;simp[jfB] at e;subst e
   split at h
   case h_2=>cases h
   rename_i M O J l k
   split at h
   case h_2=>cases h
   simp at h;obtain⟨_,rfl,_⟩:=h;have a:=hk o (by simp);rw[k] at a;obtain⟨p,d,_⟩:=m.obs o _ a;simp only[SV.den] at i;have i:=i p d;refine⟨by simp,0,0,?_⟩;cases p with
   |none=>obtain⟨y,K⟩:=i;subst y;exact⟨d,K⟩
   |some q=>obtain⟨y,_⟩:=i;subst y;exact⟨d,rfl⟩
  .rename_i E t nl o u n;simp[jfB] at e
  .rename_i E t nl u;simp[jfB] at e
  .rename_i kt vt o;simp[jfB] at e;subst e
   split at h
   case h_2=>cases h
   rename_i H L l k
   split at h
   case h_2=>cases h
   simp at h;obtain⟨_,rfl,_⟩:=h;have a:=hk o (by simp);rw[k] at a;obtain⟨p,d,A⟩:=m.obs o _ a;simp only[SV.den] at i;obtain⟨b,j,rfl,rfl⟩:=i p d;exact⟨by simp,j,ρ.len o,d,rfl⟩
  .cases h
 .rename_i T cs o;simp[jfB] at e;subst e
  split at h
  case h_2=>cases h
  rename_i C vs k
  split at h
  case h_2=>cases h
  simp at h;obtain⟨_,rfl,_⟩:=h;have a:=hk o (by simp);rw[k] at a;obtain⟨p,d,A⟩:=m.obs o _ a;simp only[SV.den] at i;obtain⟨b,j,rfl,rfl⟩:=i p d;exact⟨by simp,j,ρ.len o,d,rfl⟩
 .rename_i g T cs N o;simp[jfB] at e;subst e
  split at h
  case h_2=>cases h
  rename_i C vs k
  split at h
  case h_2=>cases h
  simp at h;obtain⟨_,rfl,_⟩:=h;have a:=hk o (by simp);rw[k] at a;obtain⟨p,d,A⟩:=m.obs o _ a;simp only[SV.den,SV.denL] at i;obtain⟨lb,rfl,u,r,F,G,e⟩:=i;obtain⟨b,j,rfl,rfl⟩:=G p d;subst e;refine⟨by simp,j,ρ.len o,?_,rfl⟩;simp only[jv6,F];exact d
 .cases z
 .cases h
theorem jl6 (A:Sat P B ρ τ.obj w):∀{ps:List vZ} {svs:List SV} {d:OD ps} {os f:List Nat},jrz C σ ps svs=some (d,os,f)->jgA σ τ os->
 ∀{vs:List Value},SV.denL P ρ svs vs->jgB ρ ps svs vs/\∀dst i n,n∈zt dst ps svs i->n∈os\/n∈zJ dst ps svs i
 |[],[],d,os,f,h,_,vs,m=>⟨trivial,fun dst i n a=>by simp[zt] at a⟩
 |[],_::_,d,os,f,h,_,vs,m=>by simp[jrz] at h
 |_::_,[],d,os,f,h,_,vs,m=>by simp[jrz] at h
 |p::ps,sv::svs,d,os,f,h,hk,vs,m=>by
  simp only[jrz] at h
  split at h
  case h_2=>cases h
  rename_i x o1 K q
  split at h
  case h_2=>cases h
  rename_i y o2 L F
  simp at h
  obtain⟨rfl,rfl,rfl⟩:=h
  simp only[SV.denL] at m
  obtain⟨v,r,rfl,I,J⟩:=m
  obtain⟨k,G⟩:=jl6 A F (fun o u=>hk o (jG1 _ u)) J
  have e:∀dst i n,n∈zt dst ps svs (i+1)->n∈o1++o2\/n∈zJ dst ps svs (i+1):=fun dst i n a=>by
   rcases G dst (i+1) n a with h|h
   .exact .inl (jG1 _ h)
   .exact .inr h
  cases p with
  |val t=>exact⟨k,fun dst i n a=>e dst i n a⟩
  |ref t=>exact⟨k,fun dst i n a=>e dst i n a⟩
  |nil _=>exact⟨k,fun dst i n a=>e dst i n a⟩
  |clo _=>exact⟨k,fun dst i n a=>e dst i n a⟩
  |fn M rs=>exact⟨k,fun dst i n a=>e dst i n a⟩
  |own s b=>
   cases b with
   |false=>exact⟨k,fun dst i n a=>by
    have:=e dst i n a
    cases s<;>exact this⟩
   |true=>
    simp only[jl0] at q
    split at q
    case h_2=>cases q
    rename_i D j l
    obtain⟨z,H⟩:=jDQ A q j l (fun o u=>hk o (jG2 _ u)) I
    have g:jjF sv=D:=by unfold jjF;rw[l]
    refine⟨⟨by rw[g];exact H,k⟩,fun dst i n a=> ?_⟩
    simp only[zt,jHa] at a
    rcases a with a|a
    .cases s with
     |cl c=>
      have:n=D:=by
       cases c with
       |dat t=>cases j
       |row E t nl=>simpa[kl,w7,g] using a
       |map kt vt=>simpa[kl,w7,g] using a
      subst this;exact .inl (jG2 _ z)
     |box T cs=>
      simp only[kl,jG4] at a;rcases a with a|a
      .rw[g] at a;subst a;exact .inl (jG2 _ z)
      .exact .inr (by simp only[zJ];exact jG2 _ a)
     |fbox f T cs=>
      simp only[kl,jG4] at a;rcases a with a|a
      .rw[g] at a;subst a;exact .inl (jG2 _ z)
      .exact .inr (by simp only[zJ];exact jG2 _ a)
     |agg cs=>cases j
    .rcases e dst i n a with h|h
     .exact .inl h
     .refine .inr ?_;cases s with
      |cl c=>exact h
      |box T cs=>simp only[zJ];exact jG1 _ h
      |fbox f T cs=>simp only[zJ];exact jG1 _ h
      |agg cs=>cases j
theorem joO (dst:Nat):∀(rs:List Sh) (j:Nat) {ob:List (Nat×Option Ob)} {ρ:Env} (_:Sat P B ρ (oo ob) w) {vs:List Value} {d:RD rs} {bs:List Nat} (_:jCR ρ.H w rs vs d bs) (_:bs.Nodup) (_:∀b,b∈bs->OkB B ρ b)
 (_:(qJ dst rs j).Nodup) (_:∀n,n∈qJ dst rs j->oo ob n=none/\kN (oo ob) n),
 ∃r,je6 P B ρ w ob (jaX dst rs d j) (qJ dst rs j) bs r/\SV.denL P r (jfD dst rs d j) vs
 |[],j,ob,ρ,u,vs,d,bs,q,_,_,_,_=>by
  obtain⟨rfl,rfl⟩:=q
  exact⟨ρ,⟨u,Env.le.refl _ _,rfl,fun _ _=>⟨rfl,rfl⟩,fun _ _ _ h=> .inl h⟩,by simp[jfD,SV.denL]⟩
 |s::rs,j,ob,ρ,u,[],d,bs,q,_,_,_,_=>q.elim
 |s::rs,j,ob,ρ,u,v::vs,d,bs,q,hnd,hb,i,hk=>by
  obtain⟨W,C,rfl,S,V⟩:=q
  simp only[qJ] at i hk
  rw[jHZ] at i hnd
  obtain⟨N,O,A⟩:=i
  obtain⟨F,G,I⟩:=hnd
  obtain⟨ρ1,m,J,_⟩:=jt5 u (s:=s) (k:=rn dst j) (nm:=rnn dst j) S F (fun b a=>hb b (jG2 _ a)) N (fun n y=>hk n (jG2 _ y)) 0 0
  obtain⟨z,p,K⟩:=joO dst rs (j+1) m.sat (vs:=vs) (d:=d.2) (bs:=C) (by rw[m.H];exact V) G (fun b a=>⟨(hb b (jG1 _ a)).1,fun o C' h=>by
   rcases m.blk o b C' h with h|h
   .exact(hb b (jG1 _ a)).2 o C' h
   .exact I b h b a rfl⟩) O (fun n y=>by
   obtain⟨L,M⟩:=hk n (jG1 _ y)
   have i:n∉kl (rn dst j) (rnn dst j) s:=fun h=>A n h n y rfl
   exact⟨by rw[qe (by rw[jct];exact i)];exact L,jn3 i M⟩)
  refine⟨z,⟨by simp only[jaX,jHn];exact p.sat,?_,p.H.trans m.H,fun o l=> ?_,fun o b C' h=> ?_⟩,?_⟩
  .exact(m.le.weaken (fun o l=>jG2 _ l)).trans (p.le.weaken (fun o l=>jG1 _ l))
  .simp only[qJ,jHa,not_or] at l
   obtain⟨s1,s2⟩:=m.same o l.1
   obtain⟨Q,R⟩:=p.same o l.2
   exact⟨Q.trans s1,R.trans s2⟩
  .rcases p.blk o b C' h with h|h
   .rcases m.blk o b C' h with h|h
    .exact .inl h
    .exact .inr (jG2 _ h)
   .exact .inr (jG1 _ h)
  .simp only[jfD,SV.denL]
   refine⟨v,vs,rfl,SV.den_mono p.le _ _ (fun o l=> ?_) J,K⟩
   exact svSh_refs (fun h=>A o h o l rfl)
where
 svSh_refs {o k:Nat} {nm:Nat->Nat} {s:Sh} {x:s.D} (h:o∉kl k nm s):(jjn k s x).refs o=false:=by
  cases s with
  |cl c=>
   cases c with
   |dat t=>rfl
   |row E t nl=>
    have g:o≠k:=fun e=>h (by simp[kl,w7,e])
    simp only[jjn,joS,SV.refs];cases a:Nat.beq o k with
    |false=>rfl
    |true=>exact absurd (jG0 a) g
   |map kt vt=>
    have g:o≠k:=fun e=>h (by simp[kl,w7,e])
    simp only[jjn,joS,SV.refs];cases a:Nat.beq o k with
    |false=>rfl
    |true=>exact absurd (jG0 a) g
  |box T cs=>
   have g:o≠k:=fun e=>h (by simp[kl,e])
   simp only[jjn,SV.refs];cases a:Nat.beq o k with
   |false=>rfl
   |true=>exact absurd (jG0 a) g
  |fbox f T cs=>
   have g:o≠k:=fun e=>h (by simp[kl,e])
   simp only[jjn,SV.refs,SV.refs.refsL];cases a:Nat.beq o k with
   |false=>simp
   |true=>exact absurd (jG0 a) g
  |agg cs=>simp only[jjn,SV.refs];exact wP cs x 0 h
theorem vD {ρ1:Env} (dst:Nat):∀(ps:List vZ) (i:Nat) {ob:List (Nat×Option Ob)} {ρ:Env} (_:Sat P B ρ (oo ob) w) {svs:List SV} {vs:List Value} {d:KD ps} {bs:List Nat} (_:svs.length=vs.length) (_:jht ρ.H w ps vs d bs) (_:bs.Nodup)
 (_:∀b,b∈bs->OkB B ρ b) (_:(zt dst ps svs i).Nodup) (_:∀n,n∈zt dst ps svs i->oo ob n=none/\kN (oo ob) n) (_:jgB ρ1 ps svs vs),
 ∃u,je6 P B ρ w ob (kM dst ps svs d i) (zt dst ps svs i) bs u/\∀n,n∈zt dst ps svs i->n∈zJ dst ps svs i\/(u.blk n=ρ1.blk n/\u.len n=ρ1.len n)
 |[],i,ob,ρ,m,svs,vs,d,bs,_,q,_,_,_,_,_=>by
  have:bs=[]:=q
  subst this
  have A:kM dst [] svs d i=[]:=rfl
  have C:zt dst [] svs i=[]:=rfl
  rw[A,C]
  exact⟨ρ,⟨m,Env.le.refl _ _,rfl,fun _ _=>⟨rfl,rfl⟩,fun _ _ _ h=> .inl h⟩,fun n e=>by simp at e⟩
 |p::ps,i,ob,ρ,m,[],[],d,bs,_,q,_,_,_,_,_=>by
  cases p with
  |own s b=>cases b<;>exact q.elim
  |_=>exact q.elim
 |p::ps,i,ob,ρ,m,[],v::vs,d,bs,hl,_,_,_,_,_,_=>by simp at hl
 |p::ps,i,ob,ρ,m,sv::svs,[],d,bs,hl,_,_,_,_,_,_=>by simp at hl
 |p::ps,i,ob,ρ,m,sv::svs,v::vs,d,bs,hl,q,hnd,hb,g,hk,hr=>by
  have l:svs.length=vs.length:=by simpa using hl
  cases p with
  |val t=>exact vD dst ps (i+1) m l q hnd hb g hk hr
  |ref t=>exact vD dst ps (i+1) m l q hnd hb g hk hr
  |nil _=>exact vD dst ps (i+1) m l q hnd hb g hk hr
  |clo _=>exact vD dst ps (i+1) m l q hnd hb g hk hr
  |fn qs rs=>exact vD dst ps (i+1) m l q hnd hb g hk hr
  |own s b=>
   cases b with
   |false=>
    obtain⟨u,a,h⟩:=vD dst ps (i+1) m l q hnd hb g hk hr
    exact⟨u,a,fun n e=>by
     have:=h n e
     cases s<;>exact this⟩
   |true=>
    obtain⟨b1,I,rfl,v1,v2⟩:=q
    obtain⟨⟨G,O,Y,Z⟩,r3⟩:=hr
    simp only[zt] at g hk
    rw[jHZ] at g hnd
    obtain⟨Q,R,F⟩:=g
    obtain⟨J,K,L⟩:=hnd
    obtain⟨ρ2,x,_,A⟩:=jt5 m (s:=s) (k:=jjF sv) (nm:=kn dst i) v1 J (fun b r=>hb b (jG2 _ r)) Q (fun n e=>hk n (jG2 _ e)) G O
    obtain⟨D,z,C⟩:=vD (ρ1:=ρ1) dst ps (i+1) x.sat (svs:=svs) (vs:=vs) (d:=d.2) (bs:=I) l (by rw[x.H];exact v2) K (fun b r=>⟨(hb b (jG1 _ r)).1,fun o C' h=>by
     rcases x.blk o b C' h with h|h
     .exact(hb b (jG1 _ r)).2 o C' h
     .exact L b h b r rfl⟩) R (fun n e=>by
     obtain⟨M,N⟩:=hk n (jG1 _ e)
     have g:n∉kl (jjF sv) (kn dst i) s:=fun h=>F n h n e rfl
     exact⟨by rw[qe (by rw[jct];exact g)];exact M,jn3 g N⟩) r3
    refine⟨D,⟨by simp only[kM,jHn];exact z.sat,?_,z.H.trans x.H,fun o y=> ?_,fun o b C' h=> ?_⟩,fun n e=> ?_⟩
    .exact(x.le.weaken (fun o y=>jG2 _ y)).trans (z.le.weaken (fun o y=>jG1 _ y))
    .simp only[zt,jHa,not_or] at y
     obtain⟨s1,s2⟩:=x.same o y.1
     obtain⟨s3,s4⟩:=z.same o y.2
     exact⟨s3.trans s1,s4.trans s2⟩
    .rcases z.blk o b C' h with h|h
     .rcases x.blk o b C' h with h|h
      .exact .inl h
      .exact .inr (jG2 _ h)
     .exact .inr (jG1 _ h)
    .simp only[zt,jHa] at e
     rcases e with e|e
     .by_cases j:n=jjF sv
      .subst j
       obtain⟨S,V⟩:=A e
       obtain⟨W,X⟩:=z.same (jjF sv) (fun h=>F _ e _ h rfl)
       exact .inr ⟨by rw[W,S,Y],by rw[X,V,Z]⟩
      .cases s with
       |cl c=>
        cases c with
        |dat t=>simp[kl,w7] at e
        |row E t nl=>exact absurd (by simpa[kl,w7] using e) j
        |map kt vt=>exact absurd (by simpa[kl,w7] using e) j
       |box T cs=>
        simp only[kl,jG4] at e
        rcases e with e|e
        .exact absurd e j
        .exact .inl (by simp only[zJ];exact jG2 _ e)
       |fbox f T cs=>
        simp only[kl,jG4] at e
        rcases e with e|e
        .exact absurd e j
        .exact .inl (by simp only[zJ];exact jG2 _ e)
       |agg cs=>exact .inl (by simp only[zJ];exact jG2 _ e)
     .rcases C n e with h|h
      .refine .inl ?_
       cases s with
       |cl c=>exact h
       |box T cs=>simp only[zJ];exact jG1 _ h
       |fbox f T cs=>simp only[zJ];exact jG1 _ h
       |agg cs=>simp only[zJ];exact jG1 _ h
      .exact .inr h
end
end Go.X
namespace Go.X
open Go.RowKit (Below)
section
variable {P:Program} {B:zV} {C:Ctx} {σ τ:St} {ρ:Env} {w:World}
theorem wl (dst:Nat):∀(ps:List vZ) (svs:List SV) (d:KD ps) (i n:Nat),n∈km (kM dst ps svs d i)↔n∈zt dst ps svs i
 |[],svs,d,i,n=>by
  have a:kM dst [] svs d i=[]:=rfl
  have c:zt dst [] svs i=[]:=rfl
  rw[a,c];simp[km]
 |p::ps,[],d,i,n=>by
  cases p with
  |own s b=>cases b<;>simp[kM,zt,km]
  |_=>simp[kM,zt,km]
 |p::ps,sv::svs,d,i,n=>by
  cases p with
  |val t=>exact wl dst ps svs d (i+1) n
  |ref t=>exact wl dst ps svs d (i+1) n
  |nil _=>exact wl dst ps svs d (i+1) n
  |clo _=>exact wl dst ps svs d (i+1) n
  |fn e rs=>exact wl dst ps svs d (i+1) n
  |own s b=>
   cases b with
   |false=>exact wl dst ps svs d (i+1) n
   |true=>
    simp only[kM,zt,jfW,jHa,jct,wl dst ps svs d.2 (i+1) n]
    exact or_comm
theorem jc6 (dst:Nat):∀(rs:List Sh) (d:RD rs) (j n:Nat),n∈km (jaX dst rs d j)↔n∈qJ dst rs j
 |[],d,j,n=>by simp[jaX,qJ,km]
 |s::rs,d,j,n=>by
  simp only[jaX,qJ,jfW,jHa,jct,jc6 dst rs d.2 (j+1) n]
  exact or_comm
theorem kT (dst:Nat):∀(ps:List vZ) (svs:List SV) (i n:Nat),n∈zJ dst ps svs i->n∈zt dst ps svs i
 |[],svs,i,n,h=>by
  have a:zJ dst [] svs i=[]:=rfl
  rw[a] at h;simp at h
 |p::ps,[],i,n,h=>by
  cases p with
  |own s b=>cases s<;>cases b<;>simp[zJ] at h
  |_=>simp[zJ] at h
 |p::ps,sv::svs,i,n,h=>by
  cases p with
  |val t=>exact kT dst ps svs (i+1) n h
  |ref t=>exact kT dst ps svs (i+1) n h
  |nil _=>exact kT dst ps svs (i+1) n h
  |clo _=>exact kT dst ps svs (i+1) n h
  |fn d rs=>exact kT dst ps svs (i+1) n h
  |own s b=>
   cases b with
   |false=>cases s<;>exact kT dst ps svs (i+1) n h
   |true=>
    simp only[zt,jHa]
    cases s with
    |cl c=>exact .inr (kT dst ps svs (i+1) n h)
    |box T cs=>
     simp only[zJ,jHa] at h
     rcases h with h|h
     .exact .inl (by simp[kl,h])
     .exact .inr (kT dst ps svs (i+1) n h)
    |fbox f T cs=>
     simp only[zJ,jHa] at h
     rcases h with h|h
     .exact .inl (by simp[kl,h])
     .exact .inr (kT dst ps svs (i+1) n h)
    |agg cs=>
     simp only[zJ,jHa] at h
     rcases h with h|h
     .exact .inl (by simp[kl,h])
     .exact .inr (kT dst ps svs (i+1) n h)
theorem jDp {k:Nat} {nm:Nat->Nat} {s:Sh} {x:s.D} {o T:Nat} {fz:Bool} {cs:List SV} (h:(o,some (.box T fz cs))∈jqj k nm s x) {r:Nat} (b:SV.refs.refsL r cs=true):
 ∃cl,((∃a,s= .box a cl)\/∃f a,s= .fbox f a cl)/\r∈wH nm cl 0:=by
 cases s with
 |cl c=>exact absurd h (jcZ k c x o T fz cs)
 |box a cl=>
  simp only[jqj,jG4] at h;rcases h with h|h
  .simp at h;obtain⟨_,_,_,rfl⟩:=h;refine⟨cl,.inl ⟨a,rfl⟩,Classical.byContradiction fun d=> ?_⟩;rw[wP cl x 0 d] at b;cases b
  .exact absurd h (wg nm cl x 0 o T fz cs)
 |fbox f a cl=>
  simp only[jqj,jG4] at h;rcases h with h|h
  .simp at h;obtain⟨_,_,_,rfl⟩:=h;refine⟨cl,.inr ⟨f,a,rfl⟩,Classical.byContradiction fun d=> ?_⟩;rw[wP cl x 0 d] at b;cases b
  .exact absurd h (wg nm cl x 0 o T fz cs)
 |agg cl=>exact absurd h (wg (nmA k) cl x 0 o T fz cs)
theorem jtT (dst:Nat):∀(rs:List Sh) (d:RD rs) (j:Nat) {o T:Nat} {fz:Bool} {cs:List SV},(o,some (.box T fz cs))∈jaX dst rs d j->∀r,SV.refs.refsL r cs=true->r∈qJ dst rs j
 |[],d,j,o,T,fz,cs,h,r,a=>by simp[jaX] at h
 |s::rs,d,j,o,T,fz,cs,h,r,a=>by
  simp only[jaX,jHa] at h
  simp only[qJ,jHa]
  rcases h with h|h
  .exact .inr (jtT dst rs d.2 (j+1) h r a)
  .obtain⟨cl,e,b⟩:=jDp h a
   rcases e with⟨c,rfl⟩|⟨f,c,rfl⟩
   .exact .inl (by simp[kl,b])
   .exact .inl (by simp[kl,b])
theorem y9 (dst:Nat):∀(ps:List vZ) (svs:List SV) (d:KD ps) (i:Nat) {o T:Nat} {fz:Bool} {cs:List SV},(o,some (.box T fz cs))∈kM dst ps svs d i->∀r,SV.refs.refsL r cs=true->r∈zJ dst ps svs i
 |[],svs,d,i,o,T,fz,cs,h,r,a=>by
  have k:kM dst [] svs d i=[]:=rfl
  rw[k] at h;simp at h
 |p::ps,[],d,i,o,T,fz,cs,h,r,a=>by
  cases p with
  |own s b=>cases b<;>simp[kM] at h
  |_=>simp[kM] at h
 |p::ps,sv::svs,d,i,o,T,fz,cs,h,r,a=>by
  cases p with
  |val t=>exact y9 dst ps svs d (i+1) h r a
  |ref t=>exact y9 dst ps svs d (i+1) h r a
  |nil _=>exact y9 dst ps svs d (i+1) h r a
  |clo _=>exact y9 dst ps svs d (i+1) h r a
  |fn l rs=>exact y9 dst ps svs d (i+1) h r a
  |own s b=>
   cases b with
   |false=>cases s<;>exact y9 dst ps svs d (i+1) h r a
   |true=>
    simp only[kM,jHa] at h
    rcases h with h|h
    .have:=y9 dst ps svs d.2 (i+1) h r a
     cases s with
     |cl c=>exact this
     |box g cl=>simp only[zJ];exact jG1 _ this
     |fbox f g cl=>simp only[zJ];exact jG1 _ this
     |agg cl=>simp only[zJ];exact jG1 _ this
    .obtain⟨cl,e,j⟩:=jDp h a
     rcases e with⟨g,e⟩|⟨f,g,e⟩
     .subst e
      simp only[zJ];exact jG2 _ j
     .subst e
      simp only[zJ];exact jG2 _ j
theorem jgd:∀(l:List Nat),jiR σ l=true->∀n,n∈l->σ.obj n=none/\qX n σ.ob=true
 |[],_,n,h=>by simp at h
 |m::r,h,n,a=>by
  simp only[jiR] at h
  split at h
  .rename_i b c
   rcases jG4.1 a with rfl|a
   .exact⟨b,c⟩
   .exact jgd r h n a
  .cases h
theorem jmz:∀(os:List Nat) (o:Nat),jD (jcr os) o=if o∈os then some none else none
 |[],o=>by simp[jcr,jD]
 |k::r,o=>by
  simp only[jcr,jD]
  cases b:Nat.beq k o with
  |true=>have:=jG0 b;subst this;simp
  |false=>
   have a:=zb b
   rw[jmz r o]
   simp[jG4,Ne.symm a]
theorem jCo {vs:List Value}:∀{svs:List SV},SV.denL P ρ svs vs->SV.den P ρ (jp2 svs) (jD2 vs):=by
 intro svs h;cases svs with
 |nil=>
  simp only[SV.denL] at h;subst h;simp only[jp2,jD2,SV.den];exact⟨_,rfl,by simp[SV.denL]⟩
 |cons a r=>
  have d:=h;simp only[SV.denL] at h;obtain⟨v,us,rfl,e,c⟩:=h;cases r with
  |nil=>
   simp only[SV.denL] at c;subst c;exact e
  |cons b r=>
   have f:=c;simp only[SV.denL] at c;obtain⟨u,g,rfl,_,_⟩:=c;simp only[jp2,jD2,SV.den];exact⟨_,rfl,by simpa using d⟩
theorem jnL (dst:Nat):∀(rs:List Sh) (d:RD rs) (j r:Nat),SV.refs.refsL r (jfD dst rs d j)=true->r∈qJ dst rs j
 |[],d,j,r,h=>by simp[jfD,SV.refs.refsL] at h
 |s::rs,d,j,r,h=>by
  simp only[jfD,SV.refs.refsL] at h
  simp only[qJ,jHa]
  split at h
  .rename_i a
   refine .inl (Classical.byContradiction fun b=> ?_)
   rw[joO.svSh_refs b] at a;cases a
  .exact .inr (jnL dst rs d.2 (j+1) r h)
theorem jBr {r:Nat}:∀{svs:List SV},(jp2 svs).refs r=true->SV.refs.refsL r svs=true:=by
 intro svs h;cases svs with
 |nil=>simpa[jp2,SV.refs] using h
 |cons a l=>
  cases l with
  |nil=>simp only[jp2] at h;simp[SV.refs.refsL,h]
  |cons b l=>simpa[jp2,SV.refs] using h
theorem ja6 (hC:C.ok P) {dst:Nat} {ps:List vZ} {rs:List Sh} {pre:OD ps->List Prop} {svs:List SV} {d:OD ps} {os fz:List Nat} (hz:jrz C σ ps svs=some (d,os,fz)) (hno:qh os=true) (hme:jcq fz os=false)
 {vals:List Value} (hS:Sat P B ρ σ.obj w) (hd:SV.denL P ρ svs vals):
 ∃ρ1,ρ.le ρ1 []/\Sat P B ρ1 (σ.frz fz).obj w/\ρ1.blk=ρ.blk/\jaG P ρ1.H w ps vals d (zl ρ1 os)/\(zl ρ1 os).Nodup/\
  ∀(F:OD ps->RD rs×KD ps) (out:Out),jj5 C ⟨ps,rs,pre,F⟩ dst σ svs=some out->∀e w',jrp ρ1.H w (zl ρ1 os) ⟨ps,rs,pre,F⟩ vals d e w'->∃v,e= .returned v/\jF P B ρ σ out v w':=by
 obtain⟨ρ1,u,I,hb1,hn1⟩:=jX (σ:=σ) fz hS;have D:jgA σ (σ.frz fz) os:=by
  intro o g;rw[kL,if_neg];exact fun i=>wj _ _ hme o i g
 have hd1:=SV.denL_mono I _ _ (fun o g=>by simp at g) hd;have A:=jl5 hC u (w8 σ fz) hz (fun o g=>g) D hd1;obtain⟨R,G⟩:=jl6 u hz D hd1;have hbn:=qZ u os (kH _ hno);have hlen:svs.length=vals.length:=zO _ _ hd;refine⟨ρ1,I,u,hb1,A,hbn,fun F out h e w' he=> ?_⟩
 let s:zP:=⟨ps,rs,pre,F⟩
 have h:jj5 C s dst σ svs=some out:=h;have he:jrp ρ1.H w (zl ρ1 os) s vals d e w':=he;unfold jj5 at h;rw[show jrz C σ s.ps svs=some (d,os,fz) from hz] at h;simp only at h
 split at h
 case h_2=>cases h
 rename_i _ _ O X;simp at h;subst h;have O:=kH _ O;rw[jHZ] at O;obtain⟨hn1',hn2',S⟩:=O;have X:=jgd _ X;obtain⟨vs,H',rb,kb,rfl,N,hres,Y,V,Z⟩:=he;rw[jHZ] at V;obtain⟨hnd1,hnd2,hnd3⟩:=V
 let Bx:zV:=⟨w,ρ1.H,zl ρ1 os,fun _=>none,fun _=>0⟩
 let K:Env:=⟨H',fun _=>none,ρ1.len⟩
 have hSe:Sat P Bx K (oo []) w':=by
  refine⟨N.os,N.tape,N.output,N.drawn,N.size,N.good,N.old,N.block,?_,fun _ _=>rfl,?_,?_⟩
  .intro o x L;simp[oo,St.obj,jD] at L
  .intro o o' b C1 C2 h1;simp[K] at h1
  .intro o b C1 h1;simp[K] at h1
 have okB:∀b,b∈rb++kb->(Bx.w.heap.size<=b\/b∈Bx.bor):=fun b m=>(Z b m).symm
 obtain⟨ρ2,a1,e1⟩:=joO dst s.rs 0 hSe hres hnd1 (fun b m=>⟨okB b (jG2 _ m),fun o C' h=>by simp[K] at h⟩) hn1'
  (fun n _=>⟨by simp[oo,St.obj,jD],fun o T fz cs h=>by simp[oo,St.obj,jD] at h⟩)
 have M:∀n,n∈zt dst s.ps svs 0->oo (jaX dst s.rs (s.F d).1 0++[]) n=none/\kN (oo (jaX dst s.rs (s.F d).1 0++[])) n:=by
  intro n hn;have hnr:n∉qJ dst s.rs 0:=fun i=>S n i n hn rfl
  refine⟨by rw[qe (by rw[jc6];exact hnr)];simp[oo,St.obj,jD],fun o T fz' cs g=> ?_⟩;rw[jHw] at g;simp only[oo,St.obj] at g
  split at g
  .rename_i y hy;subst g;cases hc:SV.refs.refsL n cs with
   |false=>rfl
   |true=>exact absurd (jtT dst s.rs _ 0 (zD _ _ _ hy) n hc) hnr
  .cases g
 obtain⟨J,a2,e2⟩:=vD (ρ1:=ρ1) dst s.ps 0 a1.sat (svs:=svs) (vs:=vals) hlen (by rw[a1.H];exact Y) hnd2 (fun b m=>⟨okB b (jG1 _ m),fun o C' h=>by
  rcases a1.blk o b C' h with h|h
  .simp[K] at h
  .exact hnd3 b h b m rfl⟩) hn2' M R
 have hH3:J.H=H':=a2.H.trans a1.H
 let nw:=qJ dst s.rs 0++zJ dst s.ps svs 0
 have q:∀n,n∈nw->kN (σ.frz fz).obj n:=by
  intro n hn r T f cs z;obtain⟨_,q2⟩:=X n hn;rw[kL] at z;have base:∀T f cs,σ.obj r=some (.box T f cs)->SV.refs.refsL n cs=false:=by
   intro T f cs L;simp only[St.obj] at L
   split at L
   .rename_i y hy;subst L;exact qW _ _ _ _ _ _ q2 (zD _ _ _ hy)
   .cases L
  split at z
  .cases L:σ.obj r with
   |none=>rw[L] at z;cases z
   |some y=>
    rw[L] at z;cases y<;>simp[kB] at z
    obtain⟨rfl,_,rfl⟩:=z;exact base _ _ _ L
  .exact base _ _ _ z
 have t:∀o,o∉nw->o∉zt dst s.ps svs 0->J.blk o=none/\J.len o=ρ1.len o:=by
  intro o g hk;obtain⟨q1,q2⟩:=a2.same o hk;obtain⟨q3,q4⟩:=a1.same o (fun h=>g (jG2 _ h));exact⟨q1.trans q3,q2.trans q4⟩
 have hle:(jgX os ρ1).le J nw:=by
  refine⟨fun b c m=> ?_,fun o p g hp=> ?_,fun o g=> ?_⟩
  .have m:ρ1.H b=some c:=m;have hnb:b∉zl ρ1 os:=fun i=>by
    have:=jy1 s.ps vals d _ A b i;rw[this] at m;cases m
   rw[hH3,N.old b (u.good.lt m) hnb];exact m
  .by_cases hk:o∈zt dst s.ps svs 0
   .rcases e2 o hk with h|⟨h,_⟩
    .exact absurd (jG1 _ h) g
    .rcases G dst 0 o hk with i|i
     .simp only[jgX];rw[if_pos i,<-h];exact hp
     .exact absurd (jG1 _ i) g
   .rw[(t o g hk).1] at hp;cases hp
  .by_cases hk:o∈zt dst s.ps svs 0
   .rcases e2 o hk with h|⟨_,h⟩
    .exact absurd (jG1 _ h) g
    .exact h
   .exact(t o g hk).2
 have E:∀o,o∈km (kM dst s.ps svs (s.F d).2 0++jaX dst s.rs (s.F d).1 0)->o∈nw\/o∈os:=by
  intro o g;rw[jfW,wl,jc6] at g;rcases g with h|h
  .rcases G dst 0 o h with h|h
   .exact .inr h
   .exact .inl (jG1 _ h)
  .exact .inl (jG2 _ h)
 have hsat3:Sat P Bx J (oo (kM dst s.ps svs (s.F d).2 0++jaX dst s.rs (s.F d).1 0)) w':=by
  have:=a2.sat
  rwa [jHw] at this
 obtain⟨ρ4,g1,g2,g3⟩:=jqH (σ:=σ.frz fz) u os nw q hsat3 hle (fun o T f cs g r z=>by
  simp only[oo,St.obj] at g
  split at g
  .rename_i y hy;subst g;have i:=zD _ _ _ hy;rcases jHa.1 i with i|i
   .exact .inl (jG1 _ (y9 dst _ _ _ _ i r z))
   .exact .inl (jG2 _ (jtT dst _ _ _ i r z))
  .cases g)
 refine⟨_,rfl,ρ4,?_,(I.weaken (fun o g=>by simp at g)).trans g2,?_,trivial⟩
 .have:(fun o=>if o∈nw\/o∈os then oo (kM dst s.ps svs (s.F d).2 0++jaX dst s.rs (s.F d).1 0) o else(σ.frz fz).obj o)=
   ({σ with ob:=(kM dst s.ps svs (s.F d).2 0++(jaX dst s.rs (s.F d).1 0++jcr os))++(qG σ fz++σ.ob)}:St).obj:=by
   funext o;have e0:(kM dst s.ps svs (s.F d).2 0++(jaX dst s.rs (s.F d).1 0++jcr os))++(qG σ fz++σ.ob)=
    (kM dst s.ps svs (s.F d).2 0++jaX dst s.rs (s.F d).1 0)++(jcr os++(qG σ fz++σ.ob)):=by simp only[jHn]
   rw[e0];generalize W:kM dst s.ps svs (s.F d).2 0++jaX dst s.rs (s.F d).1 0=new;rw[W] at E;simp only[oo,St.obj,jj (a:=new)];cases hl:jD new o with
   |some y=>
    have hk:o∈km new:=vq (by rw[hl];simp);rw[if_pos (E o hk)]
   |none=>
    simp only;rw[jj,jmz];by_cases Q:o∈os
    .rw[if_pos (.inr Q),if_pos Q]
    .rw[if_neg Q];have hnw':o∉nw:=by
      intro i;have:o∈km new:=by
       rw[<-W,jfW,wl,jc6];rcases jHa.1 i with h|h
       .exact .inr h
       .exact .inl (kT dst _ _ _ _ h)
      exact look_none_not hl this
     rw[if_neg (by rintro(h|h);exact hnw' h;exact Q h)];rfl
  rw[<-this];exact g1
 .refine g3 _ _ (fun r z=> .inl (jG2 _ (jnL dst _ _ _ r (jBr z)))) ?_;refine jCo (SV.denL_mono a2.le _ _ (fun o g=> ?_) e1);cases hc:SV.refs.refsL o (jfD dst s.rs (s.F d).1 0) with
  |false=>rfl
  |true=>exact absurd rfl (S o (jnL dst _ _ _ o hc) o g)
where
 look_none_not {α:Type}:∀{l:List (Nat×α)} {k:Nat},jD l k=none->k∈km l->False
  |[],k,_,h=>by simp[km] at h
  | (j,x)::r,k,h,i=>by
   simp only[jD] at h;cases m:Nat.beq j k with
   |true=>rw[m] at h;cases h
   |false=>
    rw[m] at h;simp only[km,jG4] at i;rcases i with rfl|i
    .exact absurd rfl (zb m)
    .exact look_none_not h i
theorem jj4 (l:C.ok P) {f dst:Nat} {s:zP} {svs:List SV} {out:Out} (p:qa P f s) (h:jj5 C s dst σ svs=some out) {vals:List Value} (m:Sat P B ρ σ.obj w) (n:SV.denL P ρ svs vals) (c:k8 out.vc):
 Calls P f vals.toArray w (fun e w'=>∃v,e= .returned v/\jF P B ρ σ out v w'):=by
 have a:=h;unfold jj5 at a
 split at a
 .cases a
 rename_i d os fz q
 split at a
 case h_2=>cases a
 rename_i k j _ _;simp at a;obtain⟨ρ1,_,g,_,b,i,hk⟩:=ja6 (dst:=dst) (rs:=s.rs) (pre:=s.pre) l q k j m n;exact(p.calls ρ1.H w vals d (zl ρ1 os) g.good b i (by rw[<-a] at c;exact c)).mono fun e w' o=>hk s.F out h e w' o
theorem jwj (d:C.ok P) {l:List (Nat×zP)} (b:∀f s,jD l f=some s->qa P f s) {f dst:Nat} {svs:List SV} {out:Out} (h:jGq C l f dst σ svs=some out):
 enters P f/\∀B ρ w vals,Sat P B ρ σ.obj w->SV.denL P ρ svs vals->k8 out.vc->σ.obj dst=none->kN σ.obj dst->
  Calls P f vals.toArray w (fun e w'=>∃v,e= .returned v/\jF P B ρ σ out v w'):=by
 unfold jGq at h
 split at h
 .rename_i s c;exact⟨(b f s c).enters,fun B ρ w vals g i a _ _=>jj4 d (b f s c) h g i a⟩
 .cases h
end
end Go.X
namespace Go.X
open Go.RowKit (Below)
section
variable {P:Program} {C:Ctx} {w:World}
theorem jyu {H:Imm}:∀{rs:List Ty} {vs:List Value} {r:(Ty.st rs).Data},rvs H rs vs r->jE4 H rs (juC vs) r
 |[],_,_,h=>by simp only[rvs] at h;subst h;exact⟨_,rfl,rfl⟩
 |_::_,[],_,h=>h.elim
 |[_],[_],_,h=>h.1
 |[_],_::_::_,_,h=>by have:=h.2;simp[rvs] at this
 |_::_::_,[_],_,h=>h.2.elim
 |_::_::_,_::_::_,_,h=>⟨_,rfl,h⟩
end
end Go.X
namespace Go.X
open Go.RowKit (Below)
abbrev WF (r:Option Nat):Fence:={Fence.wide with round:=r}
section
variable {P:Program} {r:Option Nat}
theorem jde {n:Nat} {f:FuncId} {args:Array Value} {w:World} {R:Ending->World->Prop}:CallsIn (WF r) n P f args w R↔Calls P f args w R:=callsIn_wide (n:=n)
theorem jyn {n:Nat} {row:String} {args:Array Value} {w:World} {R:Value->World->Prop} (h:Rows P row args w R):RowsIn (WF r) n P row args w R:=
 fun c cs _=>let ⟨v,w',q,s⟩:=h c cs;⟨v,w',q,stepsIn_wide.2 s⟩
theorem jDy {c:Code} {Q:Exit->Act->World->Prop} {a:Act} {w:World}:c.wpIn (WF none) 0 P Q a w↔c.wp P Q a w:=wpIn_wide
def yR (ds:List Deferred) (a:Act):Act:={a with defers:=a.defers++ds}
theorem ga (ds:List Deferred) (a:Act) (d:Option Nat) (v:Value):yR ds (a.put d v)=(yR ds a).put d v:=by cases d<;>rfl
theorem jcO (ds:List Deferred) (a:Act):(yR ds a).eval=a.eval:=by funext o;cases o<;>rfl
def wG:List Oper->Bool
 |[]=>true
 |o::l=>match o.op with
  | .defer _=>false
  |_=>wG l
theorem jew:∀{l:List Oper},wG l=true->∀o,o∈l->∀c,o.op≠.defer c
 |[],_,o,a,_=>by simp at a
 |x::l,h,o,a,c=>by
  simp only[wG] at h
  split at h
  .cases h
  .rename_i b
   rcases jG4.1 a with rfl|a
   .exact fun e=>b c e
   .exact jew h o a c
theorem jyJ {o:Oper} {a:Act} {w:World} {ds:List Deferred} {K n:Act->World->Prop} {Q0 Q:Exit->Act->World->Prop} (j:∀e a w,Q0 e a w->e= .normal) (k:∀c,o.op≠.defer c)
 (h:o.wp P a w K Q0) (g:∀a w,K a w->n (yR ds a) w):o.wpIn (WF r) 0 P (yR ds a) w n Q:=by
 refine⟨fun _ _=>trivial,?_⟩;rw[jcO,Oper.semAt_eq _ _ _ k];unfold Oper.wp at h;generalize (execOp a.eval o).run P w=l at h;cases l with
 |ok x w'=>
  cases x with
  |value v=>simp only[Oper.upon] at h;simp only[Oper.uponIn];rw[<-ga];exact g _ _ h
  |skip=>simp only[Oper.upon] at h;simp only[Oper.uponIn];rw[<-ga];exact g _ _ h
  |defer d=>simp only[Oper.upon] at h;simp only[Oper.uponIn];have:=g _ _ h;rw[ga] at this;exact this
  |enter f args=>
   simp only[Oper.upon] at h;simp only[Oper.uponIn];refine⟨fun i=>by simp[Fence.wide] at i,jde.2 (h.mono fun e m b=> ?_)⟩;cases e with
   |returned v=>simp only at b⊢;rw[<-ga];exact g _ _ b
   |panicked c=>exact absurd (j _ _ _ b) (by simp)
   |outgrown=>obtain⟨q,s,p⟩:=b;exact absurd (j _ _ _ p) (by simp)
  |row row args=>
   simp only[Oper.upon] at h;simp only[Oper.uponIn];refine⟨fun i=>by simp[Fence.wide] at i,jyn (h.mono fun v m b=> ?_)⟩;rw[<-ga];exact g _ _ b
  |_=>simp only[Oper.upon] at h
 |halt x w'=>
  cases x with
  |panic v=>simp only[Oper.upon] at h;exact absurd (j _ _ _ h) (by simp)
  |_=>simp only[Oper.upon] at h
theorem jg5 {ops:Array Oper} {ds:List Deferred} {Q0 Q:Exit->Act->World->Prop} {rest:List Oper} (b:∀e a w,Q0 e a w->e= .normal) (c:∀a w,Q0 .normal a w->wpListIn (WF r) 0 P ops Q rest (yR ds a) w):
 ∀(l:List Oper),wG l=true->∀(a:Act) (w:World),wpList P ops Q0 l a w->wpListIn (WF r) 0 P ops Q (l++rest) (yR ds a) w
 |[],_,a,w,h=>c a w h
 |o::l,hnd,a,w,h=>by
  have f:wG l=true:=by simp only[wG] at hnd;split at hnd;cases hnd;exact hnd
  rw[jHx]
  unfold wpList at h
  unfold wpListIn
  have i:yielded ops (yR ds a).tmps=yielded ops a.tmps:=rfl
  rw[i]
  split at h
  .rename_i d
   rw[if_pos d]
   rcases h with h|⟨_,m,n,k⟩
   .exact jyJ b (jew hnd o (by simp)) h (fun g w' j=>jg5 b c l f g w' j)
   .exact absurd (b _ _ _ k) (by simp)
  .rename_i d
   rw[if_neg d]
   refine⟨fun _ _=>trivial,?_⟩
   rw[<-ga]
   exact jg5 b c l f _ w h
theorem jvg {p:Region.Mode} {ops:Array Oper} {ds:List Deferred} {Q0 Q:Exit->Act->World->Prop} (k:∀e a w,Q0 e a w->e= .normal) (g:∀a w,Q0 .normal a w->Q .normal (yR ds a) w) (f:wG ops.toList=true):
 ∀(c:Nat) (b:Array Bool) (a:Act) (w:World),wpAny P p ops Q0 c b a w->wpAnyIn (WF r) 0 P p ops Q c b (yR ds a) w
 |0,b,a,w,h=>⟨h.1,g _ _ h.2⟩
 |c+1,b,a,w,h=>by
  refine⟨fun v=>g _ _ (h.1 v),fun i hi=> ?_⟩
  have d:=h.2 i hi
  unfold wpOp at d
  unfold wpOpIn
  cases m:ops[i]? with
  |none=>rw[m] at d;exact jvg k g f c _ _ _ d
  |some o=>
   rw[m] at d
   simp only at d⊢
   have s:yielded ops (yR ds a).tmps=yielded ops a.tmps:=rfl
   rw[s]
   have j:o∈ops.toList:=by
    have:=jH0 (l:=ops.toList) (i:=i) (a:=o) (by simpa using m);exact this
   split at d
   .rename_i n;rw[if_pos n];rcases d with d|⟨_,x,y,u⟩
    .exact jyJ k (jew f o j) d (fun q w' t=>jvg k g f c _ q w' t)
    .exact absurd (k _ _ _ u) (by simp)
   .rename_i n;rw[if_neg n];refine⟨fun _ _=>trivial,?_⟩;rw[<-ga];exact jvg k g f c _ _ w d
theorem jDW (i:P.follows .mixedOrders=true) {id:Nat} {ops:Array Oper} {b:Bool} {ds:List Deferred} {Q0 Q:Exit->Act->World->Prop} (f:∀e a w,Q0 e a w->e= .normal) (d:∀a w,Q0 .normal a w->Q .normal (yR ds a) w)
 (c:wG ops.toList=true) {a:Act} {w:World} (h:jv1 P ops b Q0 a w):(Code.region id ops b).wpIn (WF r) 0 P Q (yR ds a) w:=by
 cases b with
 |false=>
  refine wpIn_region_list ?_;have:=jg5 (r:=r) (rest:=[]) f (fun a w g=>d a w g) ops.toList c a w h;simpa using this
 |true=>exact wpIn_region_any i (jvg f d c _ _ _ _ h)
def jhW (P:Program) (B:zV) (n:Nat) (ds:List Deferred) (σ:St) (a:Act) (w:World):Prop:=
 ∃b,a=yR ds b/\Rel P B n σ b w
theorem jDz {B:zV} {C:Ctx} (m:C.ok P) (p:P.follows .mixedOrders=true) {A:Ann} {id:Nat} {ops:Array Oper} {c:Bool} {ds:List Deferred} {σ:St} {K:Ex->St->Prop} {Q:Exit->Act->World->Prop} {a:Act} {w:World}
 (k:wG ops.toList=true) (h:vcg C A (.region id ops c) σ K) (j:jhW P B C.n ds σ a w) (o:∀b d w',Ext σ b->K .normal b->jhW P B C.n ds b d w'->Q .normal d w'):
 (Code.region id ops c).wpIn (WF r) 0 P Q a w:=by
 obtain⟨q,rfl,j⟩:=j;refine jDW p (Q0:=fun e d w'=>e= .normal/\∃b,Ext σ b/\K .normal b/\Rel P B C.n b d w') (fun e _ _ h=>h.1) (fun d w' l=> ?_) k (jma m h j (fun b d w' g i f=>⟨rfl,b,g,i,f⟩));obtain⟨_,b,g,i,f⟩:=l;exact o b _ w' g i ⟨d,rfl,f⟩
theorem joU {F:Fence} {n:Nat} {α:Type} (rl:α->α->Prop) (C:WellFounded rl) {Q:Exit->Act->World->Prop} {c:Code} {a:Act} {w:World} (I:α->Act->World->Prop) (j:α) (t:I j a w)
 (p:∀x a w,I x a w->c.wpIn F n P (Exit.then (fun q w'=>∃v,rl v x/\I v q w') Q) a w):(Code.loop c).wpIn F n P Q a w:=by
 intro b k cs B y A;have key:∀x a w,I x a w->∃e q w',Q e q w'/\ArrivesIn (Machine.fenced P F) P (lone (b.atR a (.code c:: .inLoop c::k)) cs w) b k cs e q w':=by
  intro x
  induction x using C.induction with
  |_ x E=>
   intro a w D;obtain⟨e,f,g,i,d⟩:=p x a w D b (.inLoop c::k) cs B y A;cases e with
   |normal=>
    obtain⟨v,z,m⟩:=i;obtain⟨s,r,u,o,h⟩:=E v z f g m;exact⟨s,r,u,o,.of_steps (StepsIn.trans d (.one (fenced_calm y A rfl) stepR_inLoop)) h⟩
   |exit id=>exact⟨_,f,g,i,.pass (x:= .inLoop c) rfl (fun _ _=> .inl (by simp)) d⟩
   |goto l=>exact⟨_,f,g,i,.pass (x:= .inLoop c) rfl (fun _ _=> .inl (by simp)) d⟩
   |ret=>exact⟨_,f,g,i,.pass (x:= .inLoop c) rfl (fun _ _=> .inl (by simp)) d⟩
   |panic ch=>exact⟨_,f,g,i,.pass (x:= .inLoop c) rfl (fun _ _=> .inl (by simp)) d⟩
   |outgrown=>exact⟨_,f,g,i,.pass (x:= .inLoop c) rfl (fun _ _=> .inl (by simp)) d⟩
 obtain⟨e,q,w',i,d⟩:=key j a w t;exact⟨e,q,w',i,.of_steps (.one (fenced_calm y A rfl) stepR_loop) d⟩
end
end Go.X
namespace Go.X
open Go.RowKit (Below)
structure jlk (Y:Type) where
 sp:Nat->Bool--is the call that fills this slot one of them?
 call:SV->List SV->St->Y->(SV->St->Y->Prop)->Prop
 rng:Operand->Array Tmp->Code->Code->St->Y->(Bool->St->Y->Prop)->Prop--is it left by 'return'?
def jGg:Bool->Ex
 |true=> .ret
 |false=> .normal
structure jAU (Y:Type) where
 X:Type
 sl:X->List (Nat×SV)
 ob:X->List (Nat×Option Ob)
 ys:X->Y
 inv:X->Prop
 mu:X->Nat
def jAU.plain {Y:Type} (L:jAU Y):je3:=⟨L.X,L.sl,L.ob,L.inv,L.mu⟩
abbrev ji0 (Y:Type):=Nat->Option (St->Y->jAU Y)
def jFE:Op->Bool
 | .call _=>true
 |_=>false
def jl7 (sp:Nat->Bool):List Oper->Option (List Oper×Oper×List Oper)
 |[]=>none
 |o::r=>match o.dst with
  |some d=>match sp d,jFE o.op with
   |true,true=>some ([],o,r)
   |_,_=>match jl7 sp r with
    |some (p,x,q)=>some (o::p,x,q)
    |none=>none
  |none=>match jl7 sp r with
   |some (p,x,q)=>some (o::p,x,q)
   |none=>none
def jhI (d:Nat) (g:Nat×Bool) (γ:Bool):Eff:=⟨some γ,[],[],[(d,.any)],[(d,g,.dat .bool false)],[],[]⟩
def yVC {Y:Type} (C:Ctx) (hk:jlk Y) (ops pre:List Oper) (o:Oper) (a:List Oper) (σ:St) (ys:Y) (K:Ex->St->Y->Prop):Prop:=
 match vP C ops pre ⟨σ,[]⟩ with
 |none=>False
 |some (ss,rs)=>match rs.gl,o.op,o.guard,o.dst with
  |[],.call c,none,some d=>match c.callee,Nat.blt d C.n with
   | .value f,true=>zQ false ss (hk.call (jQ rs.st f) (c.args.toList.map (jQ rs.st)) rs.st ys
    (fun sv τ h=>jce C ops a σ.ob.length ⟨(d,sv)::τ.sl,τ.ob⟩ (fun e b=>K e b h)))
   |_,_=>False
  |_,.call c,some g,some d=>match c.callee,Nat.blt d C.n,jdJ ops rs ops.length g with
   | .value f,true,some γ=>match fits C ops o rs (jhI d g γ) with
    |true=>zQ false ss (
     (γ=true->hk.call (jQ (ze rs (jho ops rs ops.length g)) f) (c.args.toList.map (jQ (ze rs (jho ops rs ops.length g)))) (ze rs (jho ops rs ops.length g)) ys
      (fun sv τ h=>jce C ops a σ.ob.length ⟨(d,sv)::τ.sl,τ.ob⟩ (fun e b=>K e b h)))/\
     (γ=false->jBo C ops a σ.ob.length (zr (jhI d g γ) rs) (fun e b=>K e b ys)))
    |false=>False
   |_,_,_=>False
  |_,_,_,_=>False
def jFz {Y:Type} (A:ji0 Y) (a:Code) (run:St->Y->(Ex->St->Y->Prop)->Prop) (σ:St) (ys:Y) (K:Ex->St->Y->Prop):Prop:=
 match A (jdL a) with
 |none=>False
 |some L=>
  (∃x:(L σ ys).X,sub σ (zM (L σ ys).plain (z8 a) σ x) (km ((L σ ys).sl x)) (km ((L σ ys).ob x))/\ys=(L σ ys).ys x/\(L σ ys).inv x)/\
  ∀x:(L σ ys).X,(L σ ys).inv x->run (zM (L σ ys).plain (z8 a) σ x) ((L σ ys).ys x) (fun e b d=>match e with
   | .normal=>∃c:(L σ ys).X,sub b (zM (L σ ys).plain (z8 a) σ c) (qB (km ((L σ ys).sl c)) (qB (km ((L σ ys).sl x)) (jcu b.sl (zM (L σ ys).plain (z8 a) σ x).sl.length)))
    (qB (km ((L σ ys).ob c)) (qB (km ((L σ ys).ob x)) (jcu b.ob (zM (L σ ys).plain (z8 a) σ x).ob.length)))/\d=(L σ ys).ys c/\(L σ ys).inv c/\(L σ ys).mu c<(L σ ys).mu x
   |e=>K e b d)
def jGr:Ann:=fun _=>none
def ji7 {Y:Type} (C:Ctx) (A:ji0 Y) (hk:jlk Y):Code->St->Y->(Ex->St->Y->Prop)->Prop
 | .skip,σ,ys,K=>K .normal σ ys
 | .region id ops h,σ,ys,K=>match wG ops.toList with
  |false=>False
  |true=>match jl7 hk.sp ops.toList with
   |some (pre,o,j)=>match h with
    |false=>yVC C hk ops.toList pre o j σ ys K
    |true=>False
   |none=>vcg C jGr (.region id ops h) σ (fun e d=>K e d ys)
 | .seq a b,σ,ys,K=>ji7 C A hk a σ ys (fun e d f=>match e with
  | .normal=>ji7 C A hk b d f K
  |e=>K e d f)
 | .cond c a b,σ,ys,K=>match jQ σ c with
  | .dat .bool k=>(k=true->ji7 C A hk a σ ys K)/\(k=false->ji7 C A hk b σ ys K)
  |_=>False
 | .block id a,σ,ys,K=>ji7 C A hk a σ ys (fun e d f=>match e with
  | .exit i=>match Nat.beq id i with
   |true=>K .normal d f
   |false=>K (.exit i) d f
  |e=>K e d f)
 | .loop a,σ,ys,K=>jFz A a (ji7 C A hk a) σ ys K
 | .exit id,σ,ys,K=>K (.exit id) σ ys
 | .ret,σ,ys,K=>K .ret σ ys
 | .rangeFunc g ps a b,σ,ys,K=>hk.rng g ps a b σ ys (fun x d f=>K (jGg x) d f)
 |_,_,_,_=>False
section
variable {P:Program} {C:Ctx} {Y:Type}
def jbC (P:Program) (C:Ctx) (r:Option Nat) (hk:jlk Y) (e:zV->List Deferred->Y->Prop):Prop:=
 ∀(o:Oper) (c:Call) (f:Operand) (d:Nat) (σ:St) (ys:Y) (K:SV->St->Y->Prop) (B:zV) (ds:List Deferred) (a:Act) (w:World) (next:Act->World->Prop) (Q:Exit->Act->World->Prop),
  o.op= .call c->c.callee= .value f->o.dst=some d->d<C.n->hk.call (jQ σ f) (c.args.toList.map (jQ σ)) σ ys K->e B ds ys->jhW P B C.n ds σ a w->
  (∀sv τ b v w' B',K sv τ b->Ext σ τ->e B' ds b->jhW P B' C.n ds ⟨(d,sv)::τ.sl,τ.ob⟩ (a.put (some d) v) w'->next (a.put (some d) v) w')->
  o.wpIn (WF r) 0 P a w next Q
def jli (P:Program) (C:Ctx) (r:Option Nat) (hk:jlk Y) (f:zV->List Deferred->Y->Prop):Prop:=
 ∀(g:Operand) (ps:Array Tmp) (aZ b:Code) (σ:St) (ys:Y) (K:Bool->St->Y->Prop) (B:zV) (ds:List Deferred) (a:Act) (w:World) (Q:Exit->Act->World->Prop),
  hk.rng g ps aZ b σ ys K->f B ds ys->jhW P B C.n ds σ a w->
  (∀x c e h w' B' d,K x c e->Ext σ c->f B' d e->jhW P B' C.n d c h w'->Q (jdB (jGg x)) h w')->(Code.rangeFunc g ps aZ b).wpIn (WF r) 0 P Q a w
theorem jdT {sp:Nat->Bool}:∀(l:List Oper) {pre a:List Oper} {o:Oper},jl7 sp l=some (pre,o,a)->l=pre++o::a
 |[],_,_,_,h=>by simp[jl7] at h
 |x::r,pre,a,o,h=>by
  simp only[jl7] at h
  split at h
  .split at h
   .simp at h;obtain⟨rfl,rfl,rfl⟩:=h;rfl
   .split at h
    .rename_i p y q b
     simp at h;obtain⟨rfl,rfl,rfl⟩:=h
     rw[jdT r b];rfl
    .cases h
  .split at h
   .rename_i p y q b
    simp at h;obtain⟨rfl,rfl,rfl⟩:=h
    rw[jdT r b];rfl
   .cases h
theorem jj7:∀(a b:List Oper),wG (a++b)=true->wG a=true/\wG b=true
 |[],b,h=>⟨rfl,h⟩
 |o::a,b,h=>by
  simp only[jHx,wG] at h⊢
  split at h
  .cases h
  .exact jj7 a b h
theorem jDv {r:Option Nat} (hC:C.ok P) {hk:jlk Y} {Lv:zV->List Deferred->Y->Prop} (E:jbC P C r hk Lv) {id:Nat} {ops:Array Oper} {pre k:List Oper} {o:Oper} {σ:St} {ys:Y} {K:Ex->St->Y->Prop}
 {B:zV} {ds:List Deferred} {a:Act} {w:World} {Q:Exit->Act->World->Prop} (hnd:wG ops.toList=true) (hs:ops.toList=pre++o::k) (h:yVC C hk ops.toList pre o k σ ys K) (hL:Lv B ds ys) (hR:jhW P B C.n ds σ a w)
 (hQ:∀l i z w' B',Ext σ l->K .normal l i->Lv B' ds i->jhW P B' C.n ds l z w'->Q .normal z w'):(Code.region id ops false).wpIn (WF r) 0 P Q a w:=by
 rw[hs] at hnd;obtain⟨hn1,M⟩:=jj7 _ _ hnd;have hn3:wG k=true:=by
  simp only[wG] at M
  split at M
  .cases M
  .exact M
 have hI:∀{a0:Act},Rel P B C.n σ a0 w->Inv P B C.n ops ⟨σ,[]⟩ a0 w:=by
  intro a0 hR;obtain⟨S,h2,ρ,h3,h4,h5⟩:=hR;exact⟨S,h2,ρ,h3,h4,(fun s g v hm=>by simp at hm),h5⟩
 have I:∀(B':zV) (i:Y) (N:RS) (y:Act) (w':World),Ext σ N.st->Lv B' ds i->Inv P B' C.n ops N y w'->jBo C ops.toList k σ.ob.length N (fun e l=>K e l i)->wpListIn (WF r) 0 P ops Q k (yR ds y) w':=by
  intro B' i N y w' hE u hI2 m;unfold jBo at m
  split at m
  .exact m.elim
  rename_i ss2 rs2 hr2;have:=jg5 (r:=r) (ds:=ds) (rest:=[]) (ops:=ops) (Q:=Q) (Q0:=fun e z w'=>e= .normal/\K .normal (wv ops.toList (gc σ.ob.length rs2.st)) i/\Inv P B' C.n ops rs2 z w')
   (fun e _ _ h=>h.1) (fun a3 w3 h3=> ?_) k hn3 y w' (wF hC _ _ _ _ _ _ hr2 m hI2 (fun G z w' A=>⟨rfl,G,A⟩))
  .simpa using this
  .obtain⟨_,hk3,i1,i2,ρ,i3,i4,_,i5⟩:=h3;exact hQ _ i _ w3 B' (hE.trans ((ql _ _ _ _ hr2).trans ((jdM _ _).trans (zG _ _)))) hk3 u ⟨a3,rfl,zC _ (jdE ⟨i1,i2,ρ,i3,i4,i5⟩)⟩
 have R:∀(B':zV) (i:Y) (J:St) (y:Act) (w':World),Ext σ J->Lv B' ds i->Rel P B' C.n J y w'->jce C ops.toList k σ.ob.length J (fun e l=>K e l i)->wpListIn (WF r) 0 P ops Q k (yR ds y) w':=by
  intro B' i J y w' hE u q m;refine I B' i ⟨J,[]⟩ y w' hE u ?_ m;obtain⟨S,h2,ρ,h3,h4,h5⟩:=q;exact⟨S,h2,ρ,h3,h4,(fun s g v hm=>by simp at hm),h5⟩
 unfold yVC at h
 split at h
 .exact h.elim
 rename_i ss rs hr;have V:Ext σ rs.st:=ql _ _ _ _ hr;obtain⟨a0,rfl,hR⟩:=hR;refine wpIn_region_list ?_;rw[hs]
 split at h
 .rename_i c d hgl hop F p
  split at h
  case h_2=>exact h.elim
  rename_i f D t;have t:d<C.n:=jHg t;refine jg5 (Q0:=fun e z w'=>e= .normal/\hk.call (jQ rs.st f) (c.args.toList.map (jQ rs.st)) rs.st ys (fun sv τ i=>jce C ops.toList k σ.ob.length ⟨(d,sv)::τ.sl,τ.ob⟩ (fun e l=>K e l i))/\Inv P B C.n ops rs z w')
   (fun e _ _ h=>h.1) (fun L w1 S=> ?_) pre hn1 a0 w (wF hC _ _ _ _ _ _ hr h (hI hR) (fun G z w' A=>⟨rfl,G,A⟩))
  obtain⟨_,hk1,hI1⟩:=S;unfold wpListIn;rw[if_pos (by simp[Region.wanted,F])];have W:jhW P B C.n ds rs.st (yR ds L) w1:=by
   obtain⟨i1,i2,ρ,i3,i4,_,i5⟩:=hI1;exact⟨L,rfl,i1,i2,ρ,i3,i4,i5⟩
  refine E o c f d rs.st ys _ B ds _ w1 _ _ hop D p t hk1 hL W (fun sv τ i v w' B' m T u q=> ?_);obtain⟨y,X,q⟩:=q;rw[X];exact R B' i ⟨(d,sv)::τ.sl,τ.ob⟩ y w' (V.trans (T.trans ⟨⟨[_],rfl⟩,⟨[],rfl⟩⟩)) u q m
 .rename_i c g d hop F p
  split at h
  case h_2=>exact h.elim
  rename_i f γ D t hγ;have t:d<C.n:=jHg t
  split at h
  case h_2=>exact h.elim
  rename_i hfit;refine jg5 (Q0:=fun e z w'=>e= .normal/\((γ=true->hk.call (jQ (ze rs (jho ops.toList rs ops.toList.length g)) f) (c.args.toList.map (jQ (ze rs (jho ops.toList rs ops.toList.length g)))) (ze rs (jho ops.toList rs ops.toList.length g)) ys
   (fun sv τ i=>jce C ops.toList k σ.ob.length ⟨(d,sv)::τ.sl,τ.ob⟩ (fun e l=>K e l i)))/\
   (γ=false->jBo C ops.toList k σ.ob.length (zr (jhI d g γ) rs) (fun e l=>K e l ys)))/\Inv P B C.n ops rs z w')
   (fun e _ _ h=>h.1) (fun L w1 S=> ?_) pre hn1 a0 w (wF hC _ _ _ _ _ _ hr h (hI hR) (fun G z w' A=>⟨rfl,G,A⟩))
  obtain⟨_,⟨hk1,hk0⟩,i1,i2,ρ,i3,i4,i6,i5⟩:=S;have O:=y4 i4 i6 _ _ _ hγ;have H:(Region.wanted o (yielded ops (yR ds L).tmps)=true)↔jgE ops L g:=by
   obtain⟨j,b⟩:=g;simp[Region.wanted,F,jgE,yR]
  unfold wpListIn;by_cases hH:jgE ops L g
  .rw[if_pos (H.2 hH)];have W:jhW P B C.n ds (ze rs (jho ops.toList rs ops.toList.length g)) (yR ds L) w1:=
    ⟨L,rfl,i1,i2,ρ,i3,v6 i4 i6 (jeT i6 _ _ hH),i5⟩
   have hE1:Ext rs.st (ze rs (jho ops.toList rs ops.toList.length g)):=⟨⟨_,rfl⟩,⟨[],rfl⟩⟩;refine E o c f d _ ys _ B ds _ w1 _ _ hop D p t (hk1 (O.1 hH)) hL W (fun sv τ i v w' B' m T u q=> ?_);obtain⟨y,X,q⟩:=q;rw[X];exact R B' i ⟨(d,sv)::τ.sl,τ.ob⟩ y w' ((V.trans hE1).trans (T.trans ⟨⟨[_],rfl⟩,⟨[],rfl⟩⟩)) u q m
  .rw[if_neg (fun h=>hH (H.1 h))];refine⟨fun _ _=>trivial,?_⟩;have hγ0:γ=false:=by cases γ with|true=>exact absurd (O.2 rfl) hH|false=>rfl
   have hIe:Inv P B C.n ops (zr (jhI d g γ) rs) (L.put o.dst undef) w1:=by
    refine jeC (ρ:=ρ) (ρ'':=ρ) (e:=jhI d g γ) (sv:= .any) (gv:= .dat .bool false) i1 i2 i4 i6 i5 i3 (Env.le.refl _ _) (qY hfit) (fun d' Z=>by rw[p] at Z;simp at Z;subst Z;exact t) (by simp[jhI,jpH,p]) (fun _ _=>wn _) (fun x hx=> ?_) (fun d' g' _ hg'=>⟨fun hh=> ?_,fun _=>rfl⟩)
    .simp only[jhI,jH2] at hx;exact⟨d,g,p,F,hx⟩
    .rw[F] at hg';simp at hg';subst hg';exact absurd hh hH
   have:=I B ys (zr (jhI d g γ) rs) (L.put o.dst undef) w1 (V.trans ⟨⟨[_],rfl⟩,⟨[],rfl⟩⟩) hL hIe (hk0 hγ0);rw[ga] at this;exact this
 .exact h.elim
theorem juv {B:zV} {n:Nat} {ds:List Deferred} {σ τ:St} {ks os:List Nat} (h:sub σ τ ks os) (d:∀s,s∉ks->τ.get s= .any\/τ.get s=σ.get s) (f:∀o,o∉os->τ.obj o=none\/τ.obj o=σ.obj o) {a:Act} {w:World}
 (b:jhW P B n ds σ a w):jhW P B n ds τ a w:=by
 obtain⟨c,e,b⟩:=b;exact⟨c,e,jsy h d f b⟩
def joQ (P:Program) (C:Ctx) (A:ji0 Y) (hk:jlk Y) (f:zV->List Deferred->Y->Prop) (x:Code) (K:Ex->St->Y->Prop) (σ:St) (ys:Y) (n:Nat) (a:Act) (w:World):Prop:=
 ∃L,A (jdL x)=some L/\(∀y:(L σ ys).X,(L σ ys).inv y->ji7 C A hk x (zM (L σ ys).plain (z8 x) σ y) ((L σ ys).ys y) (fun e b d=>match e with
  | .normal=>∃c:(L σ ys).X,sub b (zM (L σ ys).plain (z8 x) σ c) (qB (km ((L σ ys).sl c)) (qB (km ((L σ ys).sl y)) (jcu b.sl (zM (L σ ys).plain (z8 x) σ y).sl.length)))
   (qB (km ((L σ ys).ob c)) (qB (km ((L σ ys).ob y)) (jcu b.ob (zM (L σ ys).plain (z8 x) σ y).ob.length)))/\d=(L σ ys).ys c/\(L σ ys).inv c/\(L σ ys).mu c<(L σ ys).mu y
  |e=>K e b d))/\
  ∃y B ds,(L σ ys).inv y/\(L σ ys).mu y=n/\f B ds ((L σ ys).ys y)/\jhW P B C.n ds (zM (L σ ys).plain (z8 x) σ y) a w
theorem job {r:Option Nat} {A:ji0 Y} {hk:jlk Y} {k:zV->List Deferred->Y->Prop} {x:Code} {K:Ex->St->Y->Prop} {Q:Exit->Act->World->Prop} {n:Nat} {a:Act} {σ:St} {ys:Y} {w:World} {J:Act->World->Prop}
 (u:∀(σ:St) (ys:Y) (K:Ex->St->Y->Prop) (Q:Exit->Act->World->Prop) (a:Act) (w:World) (B:zV) (ds:List Deferred),ji7 C A hk x σ ys K->k B ds ys->jhW P B C.n ds σ a w->
  (∀e b f g w' B' c,Ext σ b->K e b f->k B' c f->jhW P B' C.n c b g w'->Q (jdB e) g w')->x.wpIn (WF r) 0 P Q a w)
 (hI:joQ P C A hk k x K σ ys n a w) (V:∀e b f g w' B' c,Ext σ b->K e b f->k B' c f->jhW P B' C.n c b g w'->Q (jdB e) g w')
 (hJ:∀Z,Z<n->∀g w',joQ P C A hk k x K σ ys Z g w'->J g w'):x.wpIn (WF r) 0 P (Exit.then J Q) a w:=by
 obtain⟨L,hL,d,y,B,ds,H,rfl,I,m⟩:=hI;generalize v:z8 x=ws at d m;refine u _ _ _ _ a w B ds (d y H) I m (fun e b f g w' B' c z F i h=> ?_);have l:Ext σ (zM (L σ ys).plain ws σ y):=⟨⟨(L σ ys).sl y++ws.map (fun s=>(s,SV.any)),by simp[zM,jAU.plain]⟩,⟨(L σ ys).ob y++ws.map (fun s=>(s,none)),by simp[zM,jAU.plain]⟩⟩;cases e with
 |ret=>exact V .ret b f g w' B' c (l.trans z) F i h
 |exit id=>exact V (.exit id) b f g w' B' c (l.trans z) F i h
 |normal=>
  obtain⟨D,N,O,G,M⟩:=F;have t:jhW P B' C.n c (zM (L σ ys).plain ws σ D) g w':=by
   refine juv N (fun s X=> ?_) (fun o W=> ?_) h
   .simp only[kd,not_or] at X;obtain⟨R,S,T⟩:=X;refine .inr ?_;obtain⟨p,q⟩:=z.sl;have j:s∉km p:=fun hk=>T (by rw[q];exact jan p _ s hk)
    have E:jD b.sl s=jD (ws.map (fun s=>(s,SV.any))++σ.sl) s:=by
     rw[q,jj,jw _ _ j];exact jf0 (L σ ys).plain ws σ y s S
    unfold St.get;rw[E,jf0 (L σ ys).plain ws σ D s R]
   .simp only[kd,not_or] at W;obtain⟨R,S,T⟩:=W;refine .inr ?_;obtain⟨p,q⟩:=z.ob;have j:o∉km p:=fun hk=>T (by rw[q];exact jan p _ o hk)
    have E:jD b.ob o=jD (ws.map (fun s=>(s,(none:Option Ob)))++σ.ob) o:=by
     rw[q,jj,jw _ _ j];exact jap (L σ ys).plain ws σ y o S
    simp only[St.obj];rw[E,jap (L σ ys).plain ws σ D o R]
  exact hJ _ M g w' ⟨L,hL,by rw[v];exact d,D,B',c,G,rfl,by rw[<-O];exact i,by rw[v];exact t⟩
theorem kP {r:Option Nat} (G:C.ok P) (I:P.follows .mixedOrders=true) (A:ji0 Y) (hk:jlk Y) (E:zV->List Deferred->Y->Prop) (k:jbC P C r hk E) (p:jli P C r hk E):
 ∀(c:Code) (σ:St) (ys:Y) (K:Ex->St->Y->Prop) (Q:Exit->Act->World->Prop) (a:Act) (w:World) (B:zV) (ds:List Deferred),ji7 C A hk c σ ys K->E B ds ys->jhW P B C.n ds σ a w->
 (∀e d f q w' B' j,Ext σ d->K e d f->E B' j f->jhW P B' C.n j d q w'->Q (jdB e) q w')->c.wpIn (WF r) 0 P Q a w
 | .skip,σ,ys,K,Q,a,w,B,ds,h,u,t,l=>wpIn_skip (l .normal σ ys a w B ds (Ext.refl _) h u t)
 | .region id ops draw,σ,ys,K,Q,a,w,B,ds,h,u,t,l=>by
  simp only[ji7] at h
  split at h
  .exact h.elim
  rename_i J
  split at h
  .rename_i pre o post X
   split at h
   case h_2=>exact h.elim
   exact jDv G k J (jdT _ X) h u t (fun d f q w' B' z v D i=>l .normal d f q w' B' ds z v D i)
  .exact jDz G I J h t (fun d q w' z v i=>l .normal d ys q w' B ds z v u i)
 | .seq x y,σ,ys,K,Q,a,w,B,ds,h,u,t,l=>by
  simp only[ji7] at h
  refine wpIn_seq (kP G I A hk E k p x σ ys _ _ a w B ds h u t (fun e d f q w' B' j z v D i=> ?_))
  cases e with
  |normal=>exact kP G I A hk E k p y d f K Q q w' B' j v D i (fun e2 σ2 ys2 a2 w2 B2 N R=>l e2 σ2 ys2 a2 w2 B2 N (z.trans R))
  |ret=>exact l .ret d f q w' B' j z v D i
  |exit id=>exact l (.exit id) d f q w' B' j z v D i
 | .cond c x y,σ,ys,K,Q,a,w,B,ds,h,u,t,l=>by
  simp only[ji7] at h
  split at h
  case h_2=>exact h.elim
  rename_i β hc
  have hv:a.eval c= .bool β:=by
   obtain⟨a0,rfl,_,_,ρ,_,T,_⟩:=t;have:=jO (P:=P) (ρ:=ρ) T c;rw[hc] at this;rw[jcO];exact zY (by simpa only[SV.den] using this)
  refine wpIn_cond_split hv (fun H=>kP G I A hk E k p x σ ys K Q a w B ds (h.1 H) u t l) (fun H=>kP G I A hk E k p y σ ys K Q a w B ds (h.2 H) u t l)
 | .block id x,σ,ys,K,Q,a,w,B,ds,h,u,t,l=>by
  simp only[ji7] at h;refine wpIn_block (kP G I A hk E k p x σ ys _ _ a w B ds h u t (fun e d f q w' B' j z v D i=> ?_));cases e with
  |normal=>exact l .normal d f q w' B' j z v D i
  |ret=>exact l .ret d f q w' B' j z v D i
  |exit id'=>
   simp only[jdB,Exit.inBlock];simp only at v
   split at v
   .rename_i H;have:=jG0 H;subst this;rw[if_pos rfl];exact l .normal d f q w' B' j z v D i
   .rename_i H;rw[if_neg (fun e=>zb H e.symm)];exact l (.exit id') d f q w' B' j z v D i
 | .loop x,σ,ys,K,Q,a,w,B,ds,h,u,t,l=>by
  simp only[ji7] at h;have M:=fun(σ:St) (ys:Y) (K:Ex->St->Y->Prop) (Q:Exit->Act->World->Prop) (a:Act) (w:World) (B:zV) (ds:List Deferred)=>kP G I A hk E k p x σ ys K Q a w B ds
  have O:∃n,joQ P C A hk E x K σ ys n a w:=by
   unfold jFz at h
   split at h
   .exact h.elim
   rename_i L S;obtain⟨⟨x0,Z,hy0,V⟩,F⟩:=h;exact⟨_,L,S,F,x0,B,ds,V,rfl,by rw[<-hy0];exact u,juv Z (fun s X=>juT (L σ ys).plain (z8 x) σ x0 s X) (fun o ho=>juS (L σ ys).plain (z8 x) σ x0 o ho) t⟩
  obtain⟨n0,O⟩:=O;refine joU (fun(m n:Nat)=>m<n) Nat.lt_wfRel.wf (fun n q w'=>joQ P C A hk E x K σ ys n q w') n0 O ?_;intro n a1 w1 hI;exact job M hI (fun e d f q w' B' j z v D i=>l e d f q w' B' j z v D i) (fun m' W q w' h'=>⟨m',W,h'⟩)
 | .exit id,σ,ys,K,Q,a,w,B,ds,h,u,t,l=>wpIn_exit (l (.exit id) σ ys a w B ds (Ext.refl _) h u t)
 | .ret,σ,ys,K,Q,a,w,B,ds,h,u,t,l=>wpIn_ret (l .ret σ ys a w B ds (Ext.refl _) h u t)
 | .rangeFunc g ps aZ b,σ,ys,K,Q,a,w,B,ds,h,u,t,l=>by
  simp only[ji7] at h;exact p g ps aZ b σ ys _ B ds a w Q h u t (fun x d f q w' B' j v z D i=>l (jGg x) d f q w' B' j z v D i)
 | .scope _,_,_,_,_,_,_,_,_,h,_,_,_=>h.elim
 | .label _,_,_,_,_,_,_,_,_,h,_,_,_=>h.elim
 | .goto _,_,_,_,_,_,_,_,_,h,_,_,_=>h.elim
 | .refuse _,_,_,_,_,_,_,_,_,h,_,_,_=>h.elim
end
end Go.X
namespace Go.X
open Go.RowKit (Below)
abbrev Res (D:Type):=List D->(Nat->Prop)->Imm->World->Prop
def Res.stable {D:Type} (R:Res D) (B0:Nat):Prop:=
 ∀pre fp H w H' w',R pre fp H w->w'.os=w.os->w'.tape=w.tape->w'.output=w.output->w.drawn<=w'.drawn->w.heap.size<=w'.heap.size->jbT H' w'->(∀b c,H b=some c->H' b=some c)->
  (∀b,b<w.heap.size->(b<B0\/fp b)->w'.heap[b]? =w.heap[b]?/\H' b=H b)->R pre fp H' w'
structure jEW (B0:Nat) (fp:Nat->Prop) (H:Imm) (w:World) (fp':Nat->Prop) (H':Imm) (w':World):Prop where
 size:w.heap.size<=w'.heap.size
 good:jbT H' w'
 mono:∀b c,H b=some c->H' b=some c
 own:∀b,b<w.heap.size->B0<=b->¬fp b->w'.heap[b]? =w.heap[b]?/\H' b=H b
 fp:∀b,fp' b->(fp b\/w.heap.size<=b)/\b<w'.heap.size/\B0<=b
def YB (P:Program) (ts:List Ty) (B0 l:Nat) (R d:Res (Ty.st ts).Data) (c:List (Ty.st ts).Data->Prop):Prop:=
 ∀pre x vals fp H w,c (pre++[x])->R pre fp H w->jbT H w->B0<=w.heap.size->(∀b,fp b->b<w.heap.size/\B0<=b)->rvs H ts vals x->
  YieldAt Fence.wide 0 P l vals.toArray w (fun e w'=>∃a fp' H',e= .returned (.bool a)/\jEW B0 fp H w fp' H' w'/\(match a with|true=>R (pre++[x]) fp' H' w'|false=>d (pre++[x]) fp' H' w'))
def jCP (P:Program) (H:Imm) (ts:List Ty) (L:List (Ty.st ts).Data->Prop) (v:Value):Prop:=
 ∃g lb,v= .func (.func g) #[] lb/\enters P g/\∀H1 w l (R a:Res (Ty.st ts).Data),(∀b c,H b=some c->H1 b=some c)->jbT H1 w->R.stable w.heap.size->a.stable w.heap.size->
  YB P ts w.heap.size l R a (fun q=>∃rest,L (q++rest))->R [] (fun _=>False) H1 w->
  Calls P g (#[.func (.yield l) #[] #[]]++lb) w (fun e w'=>∃v,e= .returned v/\((∃xs fp' H',L xs/\R xs fp' H' w')\/(∃q fp' H',a q fp' H' w')))
theorem jCP.mono {P:Program} {H H':Imm} (j:∀b c,H b=some c->H' b=some c) {ts:List Ty} {L:List (Ty.st ts).Data->Prop} {v:Value} (h:jCP P H ts L v):jCP P H' ts L v:=by
 obtain⟨g,lb,e,f,k⟩:=h;exact⟨g,lb,e,f,fun a w l R d i=>k a w l R d (fun b c m=>i b c (j b c m))⟩
abbrev YS (ts:List Ty):=List (Ty.st ts).Data×Bool
def jCT:Value->Option Nat
 | .func (.yield l) f c=>match f.toList,c.toList with
  |[],[]=>some l
  |_,_=>none
 |_=>none
abbrev Inl (ts:List Ty):=List SV->St->YS ts->(SV->St->YS ts->Prop)->Prop
def hkY (ts:List Ty) (l:Nat) (b:List Nat) (c:List (Ty.st ts).Data->Prop) (inl:Nat->Option (Inl ts)):jlk (YS ts):=
 ⟨fun d=>yx b d,fun a args τ ys K=>match ys.2 with
  |false=>False
  |true=>match a with
   | .lit v=>match jCT v with
    |some l'=>l'=l/\(match joT τ ts args with
     |some (d,fz)=>c (ys.1++[d])/\K (.dat .bool true) (τ.frz fz) (ys.1++[d],true)/\K (.dat .bool false) (τ.frz fz) (ys.1++[d],false)
     |none=>False)
    |none=>False
   | .clo f caps=>match inl f with
    |some run=>run (args++caps) τ ys K
    |none=>False
   |_=>False,fun _ _ _ _ _ _ _=>False⟩
def LvY (ts:List Ty) (B0:Nat) (R a:Res (Ty.st ts).Data) (B:zV) (ds:List Deferred) (ys:YS ts):Prop:=
 ds=[]/\B0<=B.w.heap.size/\(∀b,b∈B.bor->B0<=b)/\∃fp:Nat->Prop,(∀b,fp b->B0<=b/\b<B.w.heap.size/\b∉B.bor)/\(match ys.2 with|true=>R ys.1 fp B.H B.w|false=>a ys.1 fp B.H B.w)
section
variable {P:Program} {C:Ctx} {ts:List Ty}
theorem q8 (a:Act):yR [] a=a:=by simp[yR]
theorem jz4 (σ:St) (fz:List Nat):Ext σ (σ.frz fz):=⟨⟨[],rfl⟩,⟨_,rfl⟩⟩
def jGF (P:Program) (f:Nat) (run:Inl ts) (c:zV->List Deferred->YS ts->Prop):Prop:=
 enters P f/\∀svs σ ys K B ρ w vals,run svs σ ys K->Sat P B ρ σ.obj w->Pin B ρ->SV.denL P ρ svs vals->c B [] ys->
  Calls P f vals.toArray w (fun e w'=>∃v,e= .returned v/\∃sv τ b B' a,K sv τ b/\Ext σ τ/\(∀s,τ.get s= .any)/\c B' [] b/\Sat P B' a τ.obj w'/\Pin B' a/\SV.den P a sv v)
theorem jsw {o:Oper} {c:Call} {f:Operand} {ev:Operand->Value} {l:Nat} {w:World} (a:o.op= .call c) (b:c.callee= .value f) (e:ev f= .func (.yield l) #[] #[]):
 (execOp ev o).run P w=(Instr.yield l (c.args.map ev)).run P w:=by
 simp only[execOp,a,Sem.run_bind,resolve,b,Deferred.ofValue,e,Sem.run_pure,Result.andThen_ok,invoke];simp
theorem jCy {l B0:Nat} {R Rx:Res (Ty.st ts).Data} {sps:List Nat} {Pm:List (Ty.st ts).Data->Prop} {inl:Nat->Option (Inl ts)} (hR:R.stable B0) (hB:YB P ts B0 l R Rx Pm)
 (hinl:∀f run,inl f=some run->jGF P f run (LvY ts B0 R Rx)):jbC P C none (hkY ts l sps Pm inl) (LvY ts B0 R Rx):=by
 intro o c f d σ ys K B ds a w next Q hop hc V hd h hL hRel hK;obtain⟨rfl,W,A,fp,D,m⟩:=hL;obtain⟨T,rfl,hd0,N,ρ,hS,X,t⟩:=hRel;rw[q8] at hK⊢;have hnd:∀c,o.op≠.defer c:=fun c e=>by rw[hop] at e;cases e
 have q:=jO (P:=P) (ρ:=ρ) X f;have u:=y6 (P:=P) (ρ:=ρ) (σ:=σ) (fun x=>jO (P:=P) (ρ:=ρ) X x) c.args.toList;refine⟨fun _ _=>trivial,?_⟩;rw[Oper.semAt_eq _ _ _ hnd];simp only[hkY] at h
 split at h
 .exact h.elim
 rename_i G;rw[G] at m;simp only at m
 split at h
 .rename_i v hv
  split at h
  case h_2=>exact h.elim
  rename_i l' j;obtain⟨rfl,h⟩:=h
  split at h
  case h_2=>exact h.elim
  rename_i x fz hz;obtain⟨hPm,hK1,hK2⟩:=h;rw[hv] at q;simp only[SV.den] at q;have hev:T.eval f= .func (.yield l') #[] #[]:=by
   rw[q];unfold jCT at j
   split at j
   .split at j
    .rename_i e1 e2;simp at j;subst j;have e1:=jHp.1 (show _=(#[]:Array Value).toList from e1);have e2:=jHp.1 (show _=(#[]:Array Value).toList from e2);rw[e1,e2]
    .cases j
   .cases j
  rw[jsw hop hc hev];obtain⟨ρ1,g,E,Y,hlen1⟩:=jX fz hS;have hrv:=jaI g (w8 σ fz) hz (fun o ho=>ho) (SV.denL_mono E _ _ (fun o ho=>by simp at ho) u);have hmono:∀b c,B.H b=some c->ρ1.H b=some c:=fun b c i=>E.H b c (t.2 b c i)
  have hR1:R ys.1 fp ρ1.H w:=hR _ _ _ _ _ _ m g.os g.tape g.output g.drawn g.size g.good hmono (fun b i O=>by
   have hnb:b∉B.bor:=by
    rcases O with O|O
    .intro hm;have:=A b hm;omega
    .exact(D b O).2.2
   exact⟨g.old b i hnb,g.oldH b i hnb⟩)
  have z:∀o b J,ρ1.blk o=some (some (b,J))->b<w.heap.size/\B0<=b/\¬fp b:=by
   intro o b J i;refine⟨(vV (σ:=σ.frz fz) g i).1,?_,fun hf=> ?_⟩
   .rcases g.own o b J i with L|L
    .omega
    .exact A b L
   .have:=D b hf;rcases g.own o b J i with L|L
    .omega
    .exact this.2.2 L
  obtain⟨fn,tmps,aZ,body,hy,S⟩:=hB ys.1 x _ fp ρ1.H w hPm hR1 g.good (jHi W g.size) (fun b i=>⟨jH1 (D b i).2.1 g.size,(D b i).1⟩) hrv;have hy':(Instr.yield l' (c.args.map T.eval)).run P w= .ok (.round l' fn tmps aZ body) w:=by
   rw[<-hy];congr 2;apply jHp.1;simp
  rw[hy'];simp only[Oper.uponIn];refine⟨fun hd=>by simp[Fence.wide] at hd,?_⟩;refine RoundIn.mono (F:=WF none) (n:=0) S fun e w' he=> ?_
  obtain⟨β,fp',H',rfl,hY,hres'⟩:=he;simp only;rw[V]
  let B':zV:={B with w:=w',H:=H',bor:=zl ρ1 (km (σ.frz fz).ob)}
  have hS2:Sat P B' {ρ1 with H:=H'} (σ.frz fz).obj w':=jcU g hY.good hY.mono (fun o b J i=>by
   obtain⟨k1,k2,k3⟩:=z o b J i;exact hY.own b k1 k2 k3)
  have hle2:ρ.le {ρ1 with H:=H'} []:=E.trans ⟨hY.mono,fun _ _ _ h=>h,fun _ _=>rfl⟩;have M:LvY ts B0 R Rx B' [] (ys.1++[x],β):=by
   refine⟨rfl,jHi W (jHi g.size hY.size),fun b i=> ?_,fp',fun b i=> ?_,?_⟩
   .obtain⟨o,J,_,L⟩:=(zj _).1 i;exact(z o b J L).2.1
   .obtain⟨g1,g2,g3⟩:=hY.fp b i;refine⟨g3,g2,fun hm=> ?_⟩;obtain⟨o,J,_,L⟩:=(zj _).1 hm;obtain⟨k1,k2,k3⟩:=z o b J L;rcases g1 with g1|g1
    .exact k3 g1
    .omega
   .cases β<;>exact hres'
  have hP2:Pin B' {ρ1 with H:=H'}:=⟨fun o p ho hp=>by
   have:=t.1 o p ho (by rw[<-Y];exact hp);exact⟨this.1,by show ρ1.len o=_;rw[hlen1];exact this.2⟩,fun _ _ i=>i⟩
  have fin:jhW P B' C.n [] ⟨(d,.dat .bool β)::(σ.frz fz).sl,(σ.frz fz).ob⟩ (T.put (some d) (.bool β)) w':=by
   refine⟨_,(q8 _).symm,by simpa[Act.put] using hd0,by simpa[Act.put] using N,_,hS2,?_,hP2⟩;intro s y I;simp only[Act.put];by_cases hs:s=d
   .subst hs;rw[jK] at I;simp at I;subst I;simp only[jG9,jHl];simp only[if_true];rw[if_pos (by rw[N];exact hd)];exact wZ _
   .rw[jB (fun h=>hs h.symm)] at I;simp only[jG9,jHl];rw[if_neg (fun h=>hs h.symm)];have:=SV.den_mono hle2 _ _ (fun r hr=>by simp at hr) (X s y I);simpa only[jG9] using this
  cases β with
  |true=>exact hK _ _ _ _ _ _ hK1 (jz4 σ fz) M fin
  |false=>exact hK _ _ _ _ _ _ hK2 (jz4 σ fz) M fin
 .rename_i k caps hv
  split at h
  case h_2=>exact h.elim
  rename_i run hrun;obtain⟨hen,Z⟩:=hinl k run hrun;rw[hv] at q;simp only[SV.den] at q;obtain⟨vs,ef,hcaps⟩:=q;have hall:=wM _ _ _ _ u hcaps;have hex:(execOp T.eval o).run P w= .ok (.enter k (c.args.map T.eval++vs)) w:=by
   simp only[execOp,hop,Sem.run_bind,resolve,hc,Deferred.ofValue,ef,Sem.run_pure,Result.andThen_ok,invoke];rw[<-hen (c.args.map T.eval++vs) w];simp
  rw[hex];simp only[Oper.uponIn];refine⟨fun hd=>by simp[Fence.wide] at hd,jde.2 ?_⟩;have hc1:=Z _ σ ys K B ρ w _ h hS t hall ⟨rfl,W,A,fp,D,by rw[G];exact m⟩;rw[show(c.args.toList.map T.eval++vs.toList).toArray=c.args.map T.eval++vs from by apply jHp.1;simp] at hc1;refine hc1.mono fun e w' he=> ?_
  obtain⟨v,rfl,sv,τ,ys',B',ρ',hk,hE,hany,M,hS',hP',hdv⟩:=he;simp only;rw[V];refine hK sv τ ys' v w' B' hk hE M ⟨_,(q8 _).symm,by simpa[Act.put] using hd0,by simpa[Act.put] using N,ρ',hS',?_,hP'⟩;intro s y I;simp only[Act.put];by_cases hs:s=d
  .subst hs;rw[jK] at I;simp at I;subst I;simp only[jG9,jHl];simp only[if_true];rw[if_pos (by rw[N];exact hd)];exact hdv
  .rw[jB (fun h=>hs h.symm)] at I;have:=hany s;unfold St.get at this;rw[I] at this;simp only at this;subst this;simp[SV.den]
 .exact h.elim
theorem jDR {l B0:Nat} {R c:Res (Ty.st ts).Data} {a:List Nat} {b:List (Ty.st ts).Data->Prop} {inl:Nat->Option (Inl ts)} {r:Option Nat}:jli P C r (hkY ts l a b inl) (LvY ts B0 R c):=
 fun _ _ _ _ _ _ _ _ _ _ _ _ h _ _ _=>h.elim
end
end Go.X
namespace Go.X
open Go.RowKit (Below)
def jmH:List SV->Nat->List (Nat×SV)
 |[],_=>[]
 |v::r,i=>(i,v)::jmH r (i+1)
def jEB (σ:St):List (Nat×SV):=(km σ.sl).map (fun s=>(s,SV.any))
def jGO {ts:List Ty} (C:Ctx) (A:ji0 (YS ts)) (hk:jlk (YS ts)) (body:Code):Inl ts:=fun svs σ ys K=>
 match Nat.ble svs.length C.n with
 |false=>False
 |true=>ji7 C A hk body ⟨jmH svs 0,σ.ob⟩ ys (fun e b a=>match e with
  | .exit _=>False
  |_=>K .any ⟨jEB σ++σ.sl,b.ob⟩ a)
@[irreducible] def jBk (C:Ctx) (body:Code) (ts:List Ty) (caps:List Par) (L:PD caps->List (Ty.st ts).Data->Prop) (pre:PD caps->List Prop) (A:PD caps->Nat->ji0 (YS ts)) (hk:PD caps->Nat->jlk (YS ts)):Prop:=
 ∀(d:PD caps) (l:Nat),jop (pre d) (ji7 C (A d l) (hk d l) body ⟨(0,.lit (.func (.yield l) #[] #[]))::kI caps d 1,[]⟩ ([],true) (fun e _ ys=>match e with
  | .exit _=>False
  |_=>ys.2=true->L d ys.1))
section
variable {P:Program} {C:Ctx} {ts:List Ty}
theorem jmG {ρ:Env}:∀(svs:List SV) (vals:List Value) (i:Nat),SV.denL P ρ svs vals->∀s v,jD (jmH svs i) s=some v->∃x,vals[s-i]? =some x/\SV.den P ρ v x/\i<=s
 |[],_,_,_,_,_,h=>by simp[jmH,jD] at h
 |u::r,vals,i,hd,s,v,h=>by
  simp only[SV.denL] at hd
  obtain⟨x,f,rfl,b,c⟩:=hd
  simp only[jmH,jD] at h
  cases a:Nat.beq i s with
  |true=>
   have:=jG0 a;subst this
   rw[a] at h;simp at h;subst h
   exact⟨x,by simp,b,jG5 _⟩
  |false=>
   rw[a] at h
   obtain⟨y,d,e,g⟩:=jmG r f (i+1) c s v h
   exact⟨y,by rw[show s-i=(s-(i+1))+1 by omega];simpa using d,e,by omega⟩
theorem jcE {vals:List Value} {n k:Nat} {x:Value} (h:vals[k]? =some x):(vals.toArray++Array.replicate n undef).getD k undef=x:=by
 have a:=(jG6.1 h).1;rw[jG9,jHQ (by simpa using a)];simp[h]
theorem jC3 (hC:C.ok P) (W:P.follows .mixedOrders=true) {g:Nat} {fn:Func} {body:Code} (hf:P.funcs[g]? =some fn) (c:fn.body=some body) (u:(fn.name== "runtime.NumGoroutine")=false) (hn:fn.ntmps=C.n)
 (M:fn.results.toList=[]) {caps:List Par} (hps:caps.length+1<=C.n) {L:PD caps->List (Ty.st ts).Data->Prop} {pre:PD caps->List Prop} {A:PD caps->Nat->ji0 (YS ts)} {hk:PD caps->Nat->jlk (YS ts)}
 (h:jBk C body ts caps L pre A hk) (t:∀d l B0 R j,Res.stable R B0->Res.stable j B0->YB P ts B0 l R j (fun q=>∃rest,L d (q++rest))->jbC P C none (hk d l) (LvY ts B0 R j)/\jli P C none (hk d l) (LvY ts B0 R j))
 {H:Imm} {lb:Array Value} {d:PD caps} (hd:pvs P H caps lb.toList d) (K:k8 (pre d)):jCP P H ts (L d) (.func (.func g) #[] lb):=by
 unfold jBk at h;refine⟨g,lb,rfl,w9 hf c u,fun H1 w l R j hH hg hR E hY T=> ?_⟩;obtain⟨hc,hr⟩:=t d l w.heap.size R j hR E hY;have hv:=vw _ _ (h d l) K;have G:=pvs.mono hH hd;have I:=v7 G;refine calls_of_wp hf c (jDy.1 ?_)
 let ρ:Env:=⟨H1,fun _=>none,fun _=>0⟩
 let B:zV:=⟨w,H1,[],fun _=>none,fun _=>0⟩
 have hS:Sat P B ρ (⟨(0,.lit (.func (.yield l) #[] #[]))::kI caps d 1,[]⟩:St).obj w:=by
  refine⟨rfl,rfl,rfl,jG5 _,jG5 _,hg,fun _ _ _=>rfl,fun _ _ _=>rfl,?_,fun _ _=>rfl,?_,?_⟩
  .intro o x hx;simp[St.obj,jD] at hx
  .intro o o' b C1 C2 z;simp[ρ] at z
  .intro o b C1 z;simp[ρ] at z
 have y: #[Value.func (.yield l) #[] #[]]++lb=(Value.func (.yield l) #[] #[]::lb.toList).toArray:=(by apply jHp.1;simp);rw[y];have D:jhW P B C.n [] ⟨(0,.lit (.func (.yield l) #[] #[]))::kI caps d 1,[]⟩ {tmps:=(Value.func (.yield l) #[] #[]::lb.toList).toArray++Array.replicate (fn.ntmps-(Value.func (.yield l) #[] #[]::lb.toList).toArray.size) undef,defers:=[]} w:=by
  refine⟨_,(q8 _).symm,rfl,by simp at I⊢;omega,ρ,hS,?_,fun o p _ c=>by simp[ρ] at c,fun _ _ c=>c⟩;intro k v hk;cases k with
  |zero=>
   rw[jK] at hk;simp at hk;subst hk;rw[jcE (x:= .func (.yield l) #[] #[]) rfl];simp[SV.den]
  |succ k=>
   rw[jB (by omega)] at hk;obtain⟨x,z,h2⟩:=wU (P:=P) (ρ:=ρ) caps lb.toList d 1 G _ v hk;rw[jcE (x:=x) (by simpa using z)];exact h2
 refine kP hC W (A d l) (hk d l) _ hc hr body _ _ _ _ _ w B [] hv ⟨rfl,jG5 _,fun b c=>by simp[B] at c,fun _=>False,fun _ c=>c.elim,T⟩ D (fun e σ' f a' w' B' ds' hE N Q S=> ?_);obtain⟨rfl,hB0,F,fp,V,a⟩:=Q;obtain⟨a1,rfl,q1,q2,Y,s,q4,q5⟩:=S;rw[q8];have r:∀(Z:Res (Ty.st ts).Data),Z.stable w.heap.size->Z f.1 fp B'.H B'.w->Z f.1 fp Y.H w':=fun Z hZ hz=>
  hZ _ _ _ _ _ _ hz s.os s.tape s.output s.drawn s.size s.good q5.2 (fun b c i=>by
   have J:b∉B'.bor:=by
    rcases i with i|i
    .intro W;have:=F b W;omega
    .exact(V b i).2.2
   exact⟨s.old b c J,s.oldH b c J⟩)
 have m:(f.2=true->L d f.1)->a1.defers=[]/\∃v,(Go.results fn a1.tmps).run P w'= .ok v w'/\∃v',(Ending.returned v)= .returned v'/\((∃xs fp' H',L d xs/\R xs fp' H' w')\/(∃q fp' H',j q fp' H' w')):=by
  intro O;refine⟨q1,_,vj (vs:=[]) (by rw[M];rfl),_,rfl,?_⟩;cases X:f.2 with
  |true=>rw[X] at a;exact .inl ⟨_,fp,_,O X,r R hR a⟩
  |false=>rw[X] at a;exact .inr ⟨_,fp,_,r j E a⟩
 cases e with
 |normal=>exact m N
 |ret=>exact m N
 |exit id=>exact N.elim
end
end Go.X
namespace Go.X
open Go.RowKit (Below)
def jih:(ps:List vZ)->OD ps->KD ps->OD ps
 |[],_,_=>()
 | .own _ true::ps,d,k=>(k.1,jih ps d.2 k.2)
 | .own _ false::ps,d,k=>(d.1,jih ps d.2 k)
 | .val _::ps,d,k=>(d.1,jih ps d.2 k)
 | .ref _::ps,d,k=>(d.1,jih ps d.2 k)
 | .nil _::ps,d,k=>(d.1,jih ps d.2 k)
 | .clo _::ps,d,k=>(d.1,jih ps d.2 k)
 | .fn _ _::ps,d,k=>(d.1,jih ps d.2 k)
def je1:List vZ->Bool
 |[]=>true
 | .own _ false::_=>false
 |_::ps=>je1 ps
section
variable {P:Program} {H H':Imm} {w w':World}
theorem jva (g:∀b c,H b=some c->H' b=some c) {c:Cl} {v:Value} {x:c.D} {bs:List Nat} (h:ClV H w c v x bs) (hk:∀b,b∈bs->w'.heap[b]? =w.heap[b]?/\H' b=H b):ClV H' w' c v x bs:=by
 cases c with
 |dat t=>exact⟨Ty.rv_mono g h.1,h.2⟩
 |row E t nl=>
  obtain⟨p,f⟩:=h;refine⟨p,?_⟩;rcases f with f|⟨b,C,vs,rfl,rfl,a,d,e,l,m,n,o⟩
  .exact .inl f
  .obtain⟨j,k⟩:=hk b (by simp);exact .inr ⟨b,C,vs,rfl,rfl,by rw[k];exact a,d,by rw[j];exact e,l,m,n,fun i y q=>t.rd_mono g _ _ (o i y q)⟩
 |map kt vt=>
  obtain⟨b,es,clock,rfl,rfl,a,d,e⟩:=h;obtain⟨j,k⟩:=hk b (by simp);exact⟨b,es,clock,rfl,rfl,by rw[k];exact a,by rw[j];exact d,e.mono g⟩
theorem jgq (d:∀b c,H b=some c->H' b=some c):∀{cs:List Cl} {vs:List Value} {x:Cl.Ds cs} {bs:List Nat},jA1 H w cs vs x bs->(∀b,b∈bs->w'.heap[b]? =w.heap[b]?/\H' b=H b)->jA1 H' w' cs vs x bs
 |[],_,_,_,h,_=>h
 |_::_,[],_,_,h,_=>h.elim
 |c::cs,v::vs,x,bs,h,hk=>by
  obtain⟨e,f,rfl,g,i,j⟩:=h
  exact⟨e,f,rfl,jva d g (fun b a=>hk b (jG2 _ a)),i,jgq d j (fun b a=>hk b (jG1 _ a))⟩
theorem juj (a:∀b c,H b=some c->H' b=some c) {s:Sh} {v:Value} {x:s.D} {bs:List Nat} (h:ShV H w s v x bs) (hk:∀b,b∈bs->w'.heap[b]? =w.heap[b]?/\H' b=H b):ShV H' w' s v x bs:=by
 cases s with
 |cl c=>exact jva a h hk
 |box T cs=>
  obtain⟨b,vs,bs',rfl,rfl,d,g,i⟩:=h;obtain⟨k,l⟩:=hk b (by simp);exact⟨b,vs,bs',rfl,rfl,by rw[l];exact d,by rw[k];exact g,jgq a i (fun b j=>hk b (jHb _ j))⟩
 |fbox f T cs=>
  obtain⟨b,vs,bs',rfl,rfl,d,g,i⟩:=h;obtain⟨k,l⟩:=hk b (by simp);exact⟨b,vs,bs',rfl,rfl,by rw[l];exact d,by rw[k];exact g,jgq a i (fun b j=>hk b (jHb _ j))⟩
 |agg cs=>
  obtain⟨vs,rfl,e⟩:=h;exact⟨vs,rfl,jgq a e hk⟩
theorem jy2 (a:∀b c,H b=some c->H' b=some c) {p:vZ} {v:Value} {d:p.Data} {bs:List Nat} (h:jGi P H w p v d bs) (hk:∀b,b∈bs->w'.heap[b]? =w.heap[b]?/\H' b=H b):jGi P H' w' p v d bs:=by
 cases p with
 |val t=>exact⟨Ty.rv_mono a h.1,h.2⟩
 |ref t=>exact⟨jyz.mono a h.1,h.2⟩
 |nil _=>exact h
 |clo f=>exact h
 |fn ps rs=>exact⟨FnV.mono a h.1,h.2⟩
 |own s b=>exact juj a h hk
theorem jai (e:∀b c,H b=some c->H' b=some c):∀{ps:List vZ} {vs:List Value} {d:OD ps} {bs:List Nat},jaG P H w ps vs d bs->(∀b,b∈bs->w'.heap[b]? =w.heap[b]?/\H' b=H b)->jaG P H' w' ps vs d bs
 |[],_,_,_,h,_=>h
 |_::_,[],_,_,h,_=>h.elim
 |p::ps,v::vs,d,bs,h,hk=>by
  obtain⟨f,g,rfl,i,j⟩:=h
  exact⟨f,g,rfl,jy2 e i (fun b a=>hk b (jG2 _ a)),jai e j (fun b a=>hk b (jG1 _ a))⟩
theorem yu (i:∀b c,H b=some c->H' b=some c):∀{ps:List vZ} {vs:List Value} {d:OD ps} {k:KD ps} {bs a:List Nat},je1 ps=true->jaG P H w ps vs d bs->jht H' w' ps vs k a->jaG P H' w' ps vs (jih ps d k) a
 |[],_,_,_,_,_,_,h,hk=>⟨h.1,hk⟩
 |_::_,[],_,_,_,_,_,h,_=>h.elim
 | .own s true::ps,v::vs,d,k,bs,a,ha,h,hk=>by
  obtain⟨j,l,rfl,g,e⟩:=h
  obtain⟨c1,c2,rfl,m,n⟩:=hk
  exact⟨c1,c2,rfl,m,yu i ha e n⟩
 | .own s false::ps,v::vs,d,k,bs,a,ha,h,hk=>by simp[je1] at ha
 | .val t::ps,v::vs,d,k,bs,a,ha,h,hk=>by
  obtain⟨j,l,rfl,g,e⟩:=h
  exact⟨[],a,rfl,⟨Ty.rv_mono i g.1,rfl⟩,yu i ha e hk⟩
 | .ref t::ps,v::vs,d,k,bs,a,ha,h,hk=>by
  obtain⟨j,l,rfl,g,e⟩:=h
  exact⟨[],a,rfl,⟨jyz.mono i g.1,rfl⟩,yu i ha e hk⟩
 | .nil _::ps,v::vs,d,k,bs,a,ha,h,hk=>by
  obtain⟨j,l,rfl,g,e⟩:=h
  exact⟨[],a,rfl,⟨g.1,rfl⟩,yu i ha e hk⟩
 | .clo f::ps,v::vs,d,k,bs,a,ha,h,hk=>by
  obtain⟨j,l,rfl,g,e⟩:=h
  exact⟨[],a,rfl,⟨g.1,rfl⟩,yu i ha e hk⟩
 | .fn o rs::ps,v::vs,d,k,bs,a,ha,h,hk=>by
  obtain⟨j,l,rfl,g,e⟩:=h
  exact⟨[],a,rfl,⟨FnV.mono i g.1,rfl⟩,yu i ha e hk⟩
theorem we:∀{ps:List vZ} {vs:List Value} {d:OD ps} {k:KD ps} {bs:List Nat},je1 ps=true->jaG P H w ps vs (jih ps d k) bs->jht H w ps vs k bs
 |[],_,_,_,_,_,h=>h.2
 |_::_,[],_,_,_,_,h=>h.elim
 | .own s true::ps,v::vs,d,k,bs,ha,h=>by
  obtain⟨b,c,rfl,e,a⟩:=h
  exact⟨b,c,rfl,e,we (d:=d.2) ha a⟩
 | .own s false::ps,v::vs,d,k,bs,ha,h=>by simp[je1] at ha
 | .val t::ps,v::vs,d,k,bs,ha,h=>by
  obtain⟨b,c,rfl,⟨_,rfl⟩,a⟩:=h
  exact we (d:=d.2) (ps:=ps) ha a
 | .ref t::ps,v::vs,d,k,bs,ha,h=>by
  obtain⟨b,c,rfl,⟨_,rfl⟩,a⟩:=h
  exact we (d:=d.2) (ps:=ps) ha a
 | .nil _::ps,v::vs,d,k,bs,ha,h=>by
  obtain⟨b,c,rfl,⟨_,rfl⟩,a⟩:=h
  exact we (d:=d.2) (ps:=ps) ha a
 | .clo f::ps,v::vs,d,k,bs,ha,h=>by
  obtain⟨b,c,rfl,⟨_,rfl⟩,a⟩:=h
  exact we (d:=d.2) (ps:=ps) ha a
 | .fn g rs::ps,v::vs,d,k,bs,ha,h=>by
  obtain⟨b,c,rfl,⟨_,rfl⟩,a⟩:=h
  exact we (d:=d.2) (ps:=ps) ha a
theorem vg:∀(ps:List vZ) (d:OD ps) (k k':KD ps),jih ps (jih ps d k) k'=jih ps d k'
 |[],_,_,_=>rfl
 | .own _ true::ps,d,k,k'=>by simp only[jih,vg ps]
 | .own _ false::ps,d,k,k'=>by simp only[jih,vg ps]
 | .val _::ps,d,k,k'=>by simp only[jih,vg ps]
 | .ref _::ps,d,k,k'=>by simp only[jih,vg ps]
 | .nil _::ps,d,k,k'=>by simp only[jih,vg ps]
 | .clo _::ps,d,k,k'=>by simp only[jih,vg ps]
 | .fn _ _::ps,d,k,k'=>by simp only[jih,vg ps]
end
end Go.X
namespace Go.X
open Go.RowKit (Below)
structure jro (ts:List Ty) where
 ps:List vZ
 slots:List Nat
 dst:Nat
 pre:OD ps->List Prop
 G:OD ps->List (Ty.st ts).Data->KD ps
 stop:OD ps->List (Ty.st ts).Data->Bool:=fun _ _=>false
 seq:SV->Option (Prop×(List (Ty.st ts).Data->Prop))
def jmI:jlk Unit:=⟨fun _=>false,fun _ _ _ _ _=>False,fun _ _ _ _ _ _ _=>False⟩
def jui (slots:List Nat) (i:Nat):Nat:=match slots[i]? with|some s=>s|none=>1000000
def jE5 (slots:List Nat) (l:List (Nat×SV)):List (Nat×SV):=l.map (fun p=>(jui slots p.1,p.2))
def jm6:List Nat->List SV->List (Nat×SV)
 |p::ps,v::vs=>(p,v)::jm6 ps vs
 |_,_=>[]
def wx {D:Type} (stop:List D->Bool) (q:List D):Prop:=∀a x b,q=a++x::b->stop (a++[x])=false
def jvm {D:Type} (L:List D->Prop) (stop:List D->Bool) (q:List D):Prop:=∃a x rest,q=a++[x]/\L (a++x::rest)/\wx stop a/\stop q=true
def juR (σ:St) (ps:List vZ) (want:KD ps):Prop:=match qV σ ps 0 with
 |some (k,o2,a)=>match qh o2,jcq a o2 with
  |true,false=>k=want
  |_,_=>False
 |none=>False
def jtx (ps:List vZ) (want:KD ps) (b:Bool):Ex->St->Unit->Prop
 | .normal,σ,_=>b=false/\juR σ ps want
 | .ret,σ,_=>b=true/\juR σ ps want
 |_,_,_=>False
def jyo {ts:List Ty} (C:Ctx) (A:ji0 Unit) (rs:jro ts) (pl:List Nat) (aZ b:Code) (L:List (Ty.st ts).Data->Prop) (d:OD rs.ps):Prop:=
 ∀(q:List (Ty.st ts).Data) (x:(Ty.st ts).Data) (rest:List (Ty.st ts).Data),L (q++x::rest)->wx (rs.stop d) q->
  ji7 C A jmI aZ ⟨jm6 pl (results ts x)++jE5 rs.slots (oSl rs.ps (jih rs.ps d (rs.G d q)) 0),oOb rs.ps (jih rs.ps d (rs.G d q)) 0⟩ () (fun e a _=>match e with
   | .normal=>ji7 C A jmI b a () (jtx rs.ps (rs.G d (q++[x])) (rs.stop d (q++[x])))
   |_=>False)
def jnC (n k:Nat) (pl slots:List Nat):Bool:=match pl.all (fun p=>match Nat.blt p n,yx slots p with|true,false=>true|_,_=>false),qh pl,Nat.beq pl.length k,slots.all (fun s=>Nat.blt s n) with
 |true,true,true,true=>true
 |_,_,_,_=>false
def jvl {ts:List Ty} (C:Ctx) (rs:jro ts) (σ:St) (xs:List (Ty.st ts).Data) (d:OD rs.ps) (K:St->Unit->Prop):Prop:=
 match jj5 C ⟨rs.ps,[],rs.pre,fun d=>((),rs.G d xs)⟩ rs.dst σ (rs.slots.map σ.get) with
 |some out=>match jmv ⟨σ,[]⟩ out.nw with
  |true=>K ⟨σ.sl,out.wr++(qG σ out.fz++σ.ob)⟩ ()
  |false=>False
 |none=>False
def hkR (C:Ctx) (A:ji0 Unit) (a:Nat->Option ((ts:List Ty)×jro ts)):jlk Unit:=
 ⟨fun _=>false,fun _ _ _ _ _=>False,fun g ps aZ b σ _ K=>match a (jdL b) with
  |some ⟨ts,rs⟩=>
   match rs.seq (jQ σ g),jrz C σ rs.ps (rs.slots.map σ.get) with
   |some (c,L),some (d,os,fz)=>match qh os,jcq fz os,je1 rs.ps,qh (js2 rs.ps 0),jnC C.n ts.length ps.toList rs.slots with
    |true,false,true,true,true=>c/\k8 (rs.pre d)/\jih rs.ps d (rs.G d [])=d/\jyo C A rs ps.toList aZ b L d/\
     (∀xs,L xs->wx (rs.stop d) xs->jvl C rs σ xs d (K false))/\
     (∀q x rest,L (q++x::rest)->wx (rs.stop d) q->rs.stop d (q++[x])=true->jvl C rs σ (q++[x]) d (K true))
    |_,_,_,_,_=>False
   |_,_=>False
  |none=>False⟩
def jF4 (Bi B:zV) (ds:List Deferred):Prop:=
 ds.Nodup/\∀x,x∈ds->∃D,x={target:= .collected D,args:= #[]}/\Bi.w.heap.size<=D/\D∉B.bor/\B.w.heap[D]? =some (.deferred (some []))
def LvR (Bi:zV) (B:zV) (ds:List Deferred) (_:Unit):Prop:=jl4 Bi B/\jF4 Bi B ds
section
variable {P:Program} {C:Ctx}
theorem jk9 {r:Option Nat} {a:zV->List Deferred->Unit->Prop}:jbC P C r jmI a:=fun _ _ _ _ _ _ _ _ _ _ _ _ _ _ _ _ _ h _ _ _=>h.elim
theorem jmk {r:Option Nat} {a:zV->List Deferred->Unit->Prop}:jli P C r jmI a:=fun _ _ _ _ _ _ _ _ _ _ _ _ h _ _ _=>h.elim
theorem jmM {c:Fz} {r:Loop}:¬c.at (some (.loop r)):=by
 cases c with
 |cells c=>rintro⟨T,a,e⟩;cases e
 |map es clock=>intro e;simp[Fz.at] at e
theorem jdK {c:Fz} {ds:Option (List Deferred)}:¬c.at (some (.deferred ds)):=by
 cases c with
 |cells c=>rintro⟨T,a,e⟩;cases e
 |map es clock=>intro e;simp[Fz.at] at e
theorem jmr {ρ:Env} {w:World} {o b f:Nat} {x:Ob} (h:zq P ρ w o (some (b,f)) x):(∀r,w.heap[b]?≠some (.loop r))/\∀ds,w.heap[b]?≠some (.deferred ds):=by
 have key:∀y,w.heap[b]? =some y->((∀r,y≠.loop r)/\∀ds,y≠.deferred ds)->(∀r,w.heap[b]?≠some (.loop r))/\∀ds,w.heap[b]?≠some (.deferred ds):=by
  intro y i d;rw[i];exact⟨fun r e=>d.1 r (by simpa using e),fun ds e=>d.2 ds (by simpa using e)⟩
 cases x with
 |box T fz cs=>
  obtain⟨c,C',vs,e,a,_⟩:=h;simp at e;obtain⟨rfl,rfl⟩:=e;exact key _ a ⟨by simp,by simp⟩
 |row E t fz nl l=>
  obtain⟨_,_,_,vs,a,_⟩:=h;exact key _ a ⟨by simp,by simp⟩
 |map fz kt vt l=>
  obtain⟨c,C',es,clock,e,a,_⟩:=h;simp at e;obtain⟨rfl,rfl⟩:=e;exact key _ a ⟨by simp,by simp⟩
 |iter kt vt left cur=>
  obtain⟨c,C',y,e,a,g,_⟩:=h;simp at e;obtain⟨rfl,rfl⟩:=e;refine key _ a ⟨fun r e=> ?_,fun ds e=> ?_⟩<;>subst e<;>simp[jdR] at g
 |mape kt vt l k s=>
  obtain⟨c,C',es,clock,e,a,_⟩:=h;simp at e;obtain⟨rfl,rfl⟩:=e;exact key _ a ⟨by simp,by simp⟩
theorem jiX {B:zV} {ρ:Env} {σ:St} {w:World} (d:Sat P B ρ σ.obj w) {o b e:Nat} (h:ρ.blk o=some (some (b,e))):(∀r,w.heap[b]?≠some (.loop r))/\∀ds,w.heap[b]?≠some (.deferred ds):=by
 cases a:σ.obj o with
 |none=>rw[d.dead o a] at h;cases h
 |some g=>
  obtain⟨p,c,f⟩:=d.obs o g a;rw[h] at c;simp at c;subst c;exact jmr f
theorem jyi {B:zV} {ρ:Env} {obj:Nat->Option Ob} {w:World} (a:Sat P B ρ obj w) {l:Nat} {r:Loop} (o:Obj) (s:l<B.w.heap.size) (y:l∉B.bor) (m:w.heap[l]? =some (.loop r)):
 Sat P {B with w:=B.w.putObj l o} ρ obj (w.putObj l o):=by
 have j:∀b c,ρ.H b=some c->b≠l:=by
  intro b c d e;subst e;have:=a.good.1 _ _ d;rw[m] at this;exact jmM this
 refine⟨a.os,a.tape,a.output,a.drawn,by simpa using a.size,⟨fun b c d=> ?_,a.good.2⟩,fun b f i=>a.oldH b (by simpa using f) i,fun b f i=> ?_,?_,a.dead,a.inj,fun o' b n h=>by simpa using a.own o' b n h⟩
 .rw[World.putObj_heap_other (j b c d)];exact a.good.1 b c d
 .have g:b<B.w.heap.size:=(by simpa using f);show(w.putObj l o).heap[b]? =(B.w.putObj l o).heap[b]?;by_cases e:b=l
  .subst e;rw[World.putObj_heap_same (jHc.1 m).1,World.putObj_heap_same s]
  .rw[World.putObj_heap_other e,World.putObj_heap_other e];exact a.old b g i
 .intro o' x v;obtain⟨p,u,q⟩:=a.obs o' x v;refine⟨p,u,jU (Env.le.refl ρ []) (by simp) (fun _ _ _ _ _ t=>by simp at t) (fun b n k=>⟨rfl,?_⟩) q⟩;subst k;refine World.putObj_heap_other (fun e=> ?_);subst e;exact(jmr q).1 r m
theorem jqp {slots:List Nat}:∀(l:List (Nat×SV)) (s:Nat) (v:SV),jD (jE5 slots l) s=some v->∃i,(i,v)∈l/\jui slots i=s
 |[],s,v,h=>by simp[jE5,jD] at h
 | (i,u)::l,s,v,h=>by
  simp only[jE5,jH8,jD] at h
  cases a:Nat.beq (jui slots i) s with
  |true=>rw[a] at h;simp at h;subst h;exact⟨i,by simp,jG0 a⟩
  |false=>
   rw[a] at h
   obtain⟨j,b,c⟩:=jqp l s v h
   exact⟨j,by simp[b],c⟩
theorem juG:∀(ps:List vZ) (d:OD ps) (i:Nat) (j:Nat) (v:SV),(j,v)∈oSl ps d i->jD (oSl ps d i) j=some v
 |[],d,i,j,v,h=>by simp[oSl] at h
 |p::ps,d,i,j,v,h=>by
  have:∃sv,oSl (p::ps) d i=(i,sv)::oSl ps d.2 (i+1):=by cases p<;>exact⟨_,rfl⟩
  obtain⟨sv,e⟩:=this
  rw[e] at h⊢
  rcases jG4.1 h with h|h
  .simp at h;obtain⟨rfl,rfl⟩:=h;exact jK _ _ _
  .have a:=juG ps d.2 (i+1) j v h
   have:=juH ps d.2 (i+1) j v a
   rw[jB (by omega)]
   exact a
end
end Go.X
namespace Go.X
open Go.RowKit (Below)
def jwp:Bool->Option Code
 |true=>some .ret
 |false=>none
def jru (rec:Loop) (b:Bool):Loop:={rec with state:=(match b with|true=> .done|false=> .ready),pending:=jwp b}
structure jCQ (P:Program) (w:World) (H0:Imm) (bs:List Nat) (rec:Loop) (ps:List vZ) (vals:List Value) (d:OD ps) {D:Type} (G:List D->KD ps) (M:List D->Prop) (q:List D) (fp:Nat->Prop) (H:Imm) (W:World):Prop where
 mid:M q
 os:W.os=w.os
 tape:W.tape=w.tape
 output:W.output=w.output
 drawn:w.drawn<=W.drawn
 size:w.heap.size+2<=W.heap.size
 good:jbT H W
 mono:∀b c,H0 b=some c->H b=some c
 old:∀b,b<w.heap.size->b∉bs->W.heap[b]? =w.heap[b]?/\H b=H0 b
 mark:W.heap[w.heap.size]? =some (.deferred (some []))
 loop:W.heap[w.heap.size+1]? =some (.loop rec)
 args:∃bs',jaG P H W ps vals (jih ps d (G q)) bs'/\bs'.Nodup/\∀b,b∈bs'->(b∈bs\/(fp b/\w.heap.size+2<=b))/\b<W.heap.size
section
variable {P:Program} {C:Ctx}
theorem jjE {w:World} {H0:Imm} {bs:List Nat} {rec:Loop} {ps:List vZ} {vals:List Value} {d:OD ps} {D:Type} {G:List D->KD ps} {M:List D->Prop} (i:∀b,b∈bs->b<w.heap.size):
 Res.stable (jCQ P w H0 bs rec ps vals d G M) (w.heap.size+2):=by
 intro q fp H W H' W' h l m n g j s k hk;have low:∀b,b<w.heap.size+2->W'.heap[b]? =W.heap[b]?/\H' b=H b:=fun b a=>hk b (jH1 a h.size) (.inl a)
 refine⟨h.mid,l.trans h.os,m.trans h.tape,n.trans h.output,jHi h.drawn g,jHi h.size j,s,fun b c a=>k b c (h.mono b c a),fun b e r=> ?_,?_,?_,?_⟩
 .obtain⟨t,u⟩:=low b (by omega);obtain⟨v,x⟩:=h.old b e r;exact⟨t.trans v,u.trans x⟩
 .rw[(low _ (by omega)).1];exact h.mark
 .rw[(low _ (by omega)).1];exact h.loop
 .obtain⟨bs',o,p,f⟩:=h.args;refine⟨bs',jai k o (fun b a=> ?_),p,fun b a=>⟨(f b a).1,jH1 (f b a).2 j⟩⟩;refine hk b (f b a).2 ?_;rcases(f b a).1 with e|e
  .have:=i b e;exact .inl (by omega)
  .exact .inr e.1
def jbt:List Nat->List Value->Array Value->Array Value
 |p::ps,v::vs,t=>jbt ps vs (t.setIfInBounds p v)
 |_,_,t=>t
theorem jjR:∀(pl:List Nat) (vs:List Value) (t:Array Value),((pl.zip vs).foldl (fun tmps (x:Tmp×Value)=>match x with|(t,a)=>tmps.setIfInBounds t a) t)=jbt pl vs t
 |[],vs,t=>by cases vs<;>rfl
 |p::ps,[],t=>rfl
 |p::ps,v::vs,t=>by simp only[List.zip_cons_cons,List.foldl_cons,jbt];exact jjR ps vs _
theorem jjQ:∀(pl:List Nat) (vs:List Value) (t:Array Value),(jbt pl vs t).size=t.size
 |[],vs,t=>by cases vs<;>rfl
 |p::ps,[],t=>rfl
 |p::ps,v::vs,t=>by simp only[jbt];rw[jjQ];simp
theorem jcf:∀(pl:List Nat) (vs:List Value) (t:Array Value) (s:Nat),s∉pl->(jbt pl vs t).getD s undef=t.getD s undef
 |[],vs,t,s,_=>by cases vs<;>rfl
 |p::ps,[],t,s,_=>rfl
 |p::ps,v::vs,t,s,h=>by
  simp only[jbt]
  rw[jcf ps vs _ s (fun a=>h (jHb _ a))]
  simp only[jG9,jHl]
  rw[if_neg (fun e=>h (by rw[e];simp))]
theorem jpW:∀(pl:List Nat) (svs:List SV) (vs:List Value) (t:Array Value) {ρ:Env},pl.Nodup->(∀p,p∈pl->p<t.size)->SV.denL P ρ svs vs->∀(s:Nat) (y:SV),jD (jm6 pl svs) s=some y->SV.den P ρ y ((jbt pl vs t).getD s undef)
 |[],svs,vs,t,ρ,_,_,_,s,y,h=>by simp[jm6,jD] at h
 |p::ps,[],vs,t,ρ,_,_,_,s,y,h=>by simp[jm6,jD] at h
 |p::ps,sv::svs,vs,t,ρ,hn,hl,hd,s,y,h=>by
  simp only[SV.denL] at hd
  obtain⟨v,r,rfl,a,b⟩:=hd
  rw[jHV] at hn
  simp only[jbt]
  simp only[jm6] at h
  by_cases e:p=s
  .subst e
   rw[jK] at h
   simp only[Option.some.injEq] at h;subst h
   rw[jcf ps r _ p hn.1]
   simp only[jG9,jHl]
   simp only[if_true]
   rw[if_pos (hl p (by simp))]
   simpa using a
  .rw[jB e] at h
   exact jpW ps svs r _ hn.2 (fun q c=>by simpa using hl q (jHb _ c)) b s y h
theorem jnB {n k:Nat} {pl slots:List Nat} (h:jnC n k pl slots=true):(∀p,p∈pl->p<n/\p∉slots)/\pl.Nodup/\pl.length=k/\∀s,s∈slots->s<n:=by
 unfold jnC at h
 split at h
 .rename_i a b c d;refine⟨fun p e=> ?_,kH _ b,jG0 c,fun s f=>jHg (jHE.1 d s f)⟩;have:=jHE.1 a p e
  split at this
  .rename_i g i;exact⟨jHg g,qi i⟩
  .cases this
 .cases h
theorem jmi {H:Imm}:∀(ts:List Ty) (vs:List Value) (d:(Ty.st ts).Data),rvs H ts vs d->vs.length=ts.length
 |[],vs,d,h=>by simp only[rvs] at h;subst h;rfl
 |t::ts,[],d,h=>h.elim
 |t::ts,v::vs,d,h=>by obtain⟨_,a⟩:=h;simp only[jHD];rw[jmi ts vs d.2 a]
theorem jBm (hC:C.ok P) (hm:P.follows .mixedOrders=true) {ts:List Ty} {A:ji0 Unit} {rs:jro ts} {p:Array Tmp} {aZ b:Code} {L:List (Ty.st ts).Data->Prop} {d:OD rs.ps} (hround:jyo C A rs p.toList aZ b L d) (hall:je1 rs.ps=true)
 (hnm:qh (js2 rs.ps 0)=true) (hsl:jnC C.n ts.length p.toList rs.slots=true) {a0:Act} (hn0:a0.tmps.size=C.n) {fn:FuncId} {w:World} {H0:Imm} {bs:List Nat} (hbs:∀b,b∈bs->b<w.heap.size) {vals:List Value}
 (hvals:vals=rs.slots.map (fun s=>a0.tmps.getD s undef)) {rec:Loop} (R:rec={state:= .ready,pending:=none,fn,tmps:=a0.tmps,params:=p,assign:=aZ,body:=b,defers:=w.heap.size}):
 YB P ts (w.heap.size+2) (w.heap.size+1) (jCQ P w H0 bs (jru rec false) rs.ps vals d (rs.G d) (wx (rs.stop d))) (jCQ P w H0 bs (jru rec true) rs.ps vals d (rs.G d) (jvm L (rs.stop d))) (fun q=>∃rest,L (q++rest)):=by
 intro q x vx fp H W hPm N hgW hB0 hfpW hvx;obtain⟨rest,hL⟩:=hPm;have hL':L (q++x::rest):=(by simpa using hL);obtain⟨bs',r10,r11,r12⟩:=N.args;have hr0:jru rec false=rec:=(by rw[R];rfl);have l:=N.loop;rw[hr0] at l;have Y:w.heap.size+1<W.heap.size:=(jHc.1 l).1;have hlb:w.heap.size+1∉bs':=by
  intro m;rcases(r12 _ m).1 with h|h
  .have:=hbs _ h;omega
  .have:=h.2;omega
 have hDb:w.heap.size∉bs':=by
  intro m;rcases(r12 _ m).1 with h|h
  .have:=hbs _ h;omega
  .have:=h.2;omega
 obtain⟨hsp,hpn,hpl,hslt⟩:=jnB hsl;have hvl:=jmi _ _ _ hvx;have hy:=run_yield (P:=P) (args:=vx.toArray) l (by rw[R];simp[hvl,<-hpl]);rw[R] at hy;refine⟨fn,_,aZ,b,hy,?_⟩;refine roundIn_of_wpIn (F:=Fence.wide) trivial ?_;have ht:((p.zip vx.toArray).foldl (fun tmps (x:Tmp×Value)=>match x with|(t,a)=>tmps.setIfInBounds t a) a0.tmps)=jbt p.toList vx a0.tmps:=by
  rw[<-jjR,<-Array.foldl_toList];simp
 simp only at ht⊢;rw[ht]
 let d':=jih rs.ps d (rs.G d q)
 have hlen:=jcp rs.ps vals d' bs' r10
 let B0:zV:=⟨W,H,bs',fun _=>none,fun _=>0⟩
 let ρ0:Env:=⟨H,fun _=>none,fun _=>0⟩
 have hS0:Sat P B0 ρ0 (oo []) W:=by
  refine⟨rfl,rfl,rfl,jG5 _,jG5 _,hgW,fun _ _ _=>rfl,fun _ _ _=>rfl,?_,fun _ _=>rfl,?_,?_⟩
  .intro o x hx;simp[oo,St.obj,jD] at hx
  .intro o o' b C1 C2 Q;simp[ρ0] at Q
  .intro o b C1 Q;simp[ρ0] at Q
 obtain⟨ρf,ad,hslf⟩:=jiQ rs.ps 0 hS0 (d:=d') r10 r11 (fun b E=>⟨.inr E,fun o C' h=>by simp[ρ0] at h⟩) (kH _ hnm)
  (fun n _=>⟨by simp[oo,St.obj,jD],fun o T fz cs h=>by simp[oo,St.obj,jD] at h⟩)
 let Bx:zV:=⟨W,H,bs',ρf.blk,ρf.len⟩
 have hSf:Sat P Bx ρf (⟨jm6 p.toList (results ts x)++jE5 rs.slots (oSl rs.ps d' 0),oOb rs.ps d' 0⟩:St).obj W:=by
  have:=jun (B':=Bx) ad.sat rfl rfl rfl;rw[jHw] at this;exact this
 have hR0:jhW P Bx C.n [] ⟨jm6 p.toList (results ts x)++jE5 rs.slots (oSl rs.ps d' 0),oOb rs.ps d' 0⟩ {tmps:=jbt p.toList vx a0.tmps,defers:=[]} W:=by
  refine⟨_,(q8 _).symm,rfl,by rw[jjQ];exact hn0,ρf,hSf,?_,fun o p _ hp=>⟨hp,rfl⟩,fun _ _ E=>by rw[ad.H];exact E⟩;intro s y hy;rw[jj] at hy;cases hz:jD (jm6 p.toList (results ts x)) s with
  |some y'=>
   rw[hz] at hy;simp only[Option.some.injEq] at hy;subst hy;exact jpW p.toList _ vx _ hpn (fun q hq=>by rw[hn0];exact(hsp q hq).1) (jaW (H:=H) ad.H ts vx x hvx) s y' hz
  |none=>
   rw[hz] at hy;simp only at hy;obtain⟨i,hi,hsi⟩:=jqp _ s y hy;obtain⟨u,hu,hdu⟩:=hslf i y (juG _ _ _ _ _ hi);rw[hvals] at hu;simp only[Nat.sub_zero,jIj] at hu;unfold jui at hsi;cases Z:rs.slots[i]? with
   |none=>rw[Z] at hu;cases hu
   |some s'=>
    rw[Z] at hu hsi;simp only at hsi;subst hsi;simp only[Option.map_some,Option.some.injEq] at hu;subst hu;have:s'∉p.toList:=fun m=>(hsp s' m).2 (jH0 Z)
    show SV.den P ρf y ((jbt p.toList vx a0.tmps).getD s' undef);rw[jcf _ _ _ _ this];exact hdu
 refine kP (r:=some (w.heap.size+1)) hC hm A jmI (fun B ds _=>B=Bx/\ds=[]) jk9 jmk aZ _ () _ _ _ W Bx [] (hround q x rest hL' N.mid) ⟨rfl,rfl⟩ hR0 (fun e σ1 _ a1 w1 B1 ds1 _ hK1 hB1 hR1=> ?_);obtain⟨rfl,rfl⟩:=hB1;cases e with
 |ret=>exact hK1.elim
 |exit id=>exact hK1.elim
 |normal=>
 obtain⟨a1',rfl,q1,q2,ρ1,q3,q4,q5⟩:=hR1;rw[q8];have hl1:w1.heap[w.heap.size+1]? =some (.loop rec):=(by rw[q3.old _ Y hlb];exact l);refine⟨_,run_beginRound hl1 (by rw[R]),?_⟩
 let z:Obj:= .loop {rec with state:= .busy}
 let By:zV:={Bx with w:=W.putObj (w.heap.size+1) z}
 have hS2:Sat P By ρ1 σ1.obj (w1.putObj (w.heap.size+1) z):=jyi q3 z Y hlb hl1;have hR2:jhW P By C.n [] σ1 a1' (w1.putObj (w.heap.size+1) z):=⟨a1',(q8 _).symm,q1,q2,ρ1,hS2,q4,q5⟩;refine kP (r:=some (w.heap.size+1)) hC hm A jmI (fun B ds _=>B=By/\ds=[]) jk9 jmk b σ1 () _ _ _ _ By [] hK1 ⟨rfl,rfl⟩ hR2 (fun e J _ a3 S B3 ds3 _ K hB3 hR3=> ?_);obtain⟨rfl,rfl⟩:=hB3;obtain⟨a3',rfl,s1,s2,ρ3,s3,s4,s5⟩:=hR3;have X:By.w.heap.size=W.heap.size:=(by simp[By]);have hl3:S.heap[w.heap.size+1]? =some z:=by
  rw[s3.old _ (by rw[X];exact Y) hlb];exact World.putObj_heap_same Y
 have key:∀I:Bool,rs.stop d (q++[x])=I->juR J rs.ps (rs.G d (q++[x]))->∃v w',(Instr.endRound (w.heap.size+1) (jwp I)).run P S= .ok v w'/\
  (∃I fp' H',Ending.returned v= .returned (.bool I)/\jEW (w.heap.size+2) fp H W fp' H' w'/\(match I with
   |true=>jCQ P w H0 bs (jru rec false) rs.ps vals d (rs.G d) (wx (rs.stop d)) (q++[x]) fp' H' w'
   |false=>jCQ P w H0 bs (jru rec true) rs.ps vals d (rs.G d) (jvm L (rs.stop d)) (q++[x]) fp' H' w')):=by
  intro I hβ V;refine⟨_,_,run_endRound _ hl3,?_⟩;unfold juR at V
  split at V
  case h_2=>exact V.elim
  rename_i k o2 f2 hkept
  split at V
  case h_2=>exact V.elim
  rename_i hno hme;obtain⟨g,f,hle4,hblk4,hln4⟩:=jX (σ:=J) f2 s3;have hkeep:jgA J (J.frz f2) o2:=by
   intro o ho;rw[kL,if_neg];exact fun hm=>wj _ _ hme o hm ho
  have e3:=ki f (w8 J _) rs.ps 0 vals k o2 f2 hkept hlen (fun j sh bb v hj hvj=>by
   obtain⟨y0,hx⟩:=jnO rs.ps d' 0 j sh bb hj;obtain⟨y,y1,y2⟩:=hslf (0+j) _ hx;have:y=v:=by
    rw[show 0+j-0=j by omega,hvj] at y1;simpa using y1.symm
   subst this;refine jAk (fun p hp=> ?_) y2;rw[hblk4] at hp;obtain⟨q1,q2⟩:=s5.1 (yN (0+j)) p (by unfold yN;omega) hp;exact⟨q1,by rw[hln4];exact q2⟩) (fun o ho=>ho) hkeep
  have O:∀b c,H b=some c->g.H b=some c:=fun b c E=>hle4.H b c (s5.2 b c E)
  have e4:jaG P g.H S rs.ps vals (jih rs.ps d' k) (zl g o2):=yu O hall r10 e3;rw[vg,V] at e4;have hme':({rec with state:= .busy}:Loop)={rec with state:= .busy}:=rfl;obtain⟨D,hfin⟩:∃D:Obj,D= .loop (jru rec I):=⟨_,rfl⟩;have hfx:({rec with state:=if(jwp I).isNone=true then LoopState.ready else .done,pending:=(jwp I)}:Loop)=jru rec I:=by cases I<;>rfl
  have hS5:Sat P _ g (J.frz f2).obj (S.putObj (w.heap.size+1) D):=jyi f D (by rw[X];exact Y) hlb hl3;have hw3:∀b,b<W.heap.size->b∉bs'->b≠w.heap.size+1->(S.putObj (w.heap.size+1) D).heap[b]? =W.heap[b]?/\g.H b=H b:=by
   intro b Q h2 h3;rw[World.putObj_heap_other h3];refine⟨?_,f.oldH b (by rw[X];exact Q) h2⟩;rw[f.old b (by rw[X];exact Q) h2];exact World.putObj_heap_other h3
  have hkb:∀b,b∈zl g o2->b<S.heap.size/\(W.heap.size<=b\/b∈bs')/\b≠w.heap.size+1:=by
   intro b E;obtain⟨o,Cp,_,Q⟩:=(zj _).1 E;refine⟨(vV (σ:=J.frz f2) f Q).1,?_,fun e=> ?_⟩
   .have:=f.own o b Cp Q;rw[X] at this;exact this
   .subst e;exact(jiX (σ:=J.frz f2) f Q).1 _ hl3
  have hsz:W.heap.size<=S.heap.size:=(by have:=f.size;rw[X] at this;exact this);have eF:(S.putObj (w.heap.size+1) (.loop {rec with state:=if(jwp I).isNone=true then LoopState.ready else .done,pending:=(jwp I)}))=S.putObj (w.heap.size+1) D:=(by rw[hfin,hfx]);have hres:∀M:List (Ty.st ts).Data->Prop,M (q++[x])->jCQ P w H0 bs (jru rec I) rs.ps vals d (rs.G d) M (q++[x]) (fun b=>(fp b\/W.heap.size<=b)/\b<S.heap.size) g.H (S.putObj (w.heap.size+1) D):=by
   intro M hM;refine⟨hM,f.os.trans N.os,f.tape.trans N.tape,f.output.trans N.output,jHi N.drawn f.drawn,by have:=N.size;simp;omega,hS5.good,fun b c E=>O b c (N.mono b c E),fun b Q h2=> ?_,?_,?_,zl g o2,?_,?_,fun b E=> ?_⟩
   .have hnb:b∉bs':=by
     intro m;rcases(r12 _ m).1 with h|h
     .exact h2 h
     .have:=h.2;omega
    obtain⟨k1,k2⟩:=hw3 b (by have:=N.size;omega) hnb (by omega);obtain⟨k3,k4⟩:=N.old b Q h2;exact⟨k1.trans k3,k2.trans k4⟩
   .rw[(hw3 _ (by omega) hDb (by omega)).1];exact N.mark
   .rw[World.putObj_heap_same (jHc.1 hl3).1,hfin]
   .refine jai (fun _ _ h=>h) e4 (fun b E=>⟨World.putObj_heap_other (hkb b E).2.2,rfl⟩)
   .exact qZ f _ (kH _ hno)
   .obtain⟨k1,k2,_⟩:=hkb b E;refine⟨?_,by simpa using k1⟩;rcases k2 with h|h
    .exact .inr ⟨⟨.inr h,k1⟩,by have:=N.size;omega⟩
    .rcases(r12 b h).1 with h'|h'
     .exact .inl h'
     .exact .inr ⟨⟨.inl h'.1,k1⟩,h'.2⟩
  have hyl:jEW (w.heap.size+2) fp H W (fun b=>(fp b\/W.heap.size<=b)/\b<S.heap.size) g.H (S.putObj (w.heap.size+1) D):=by
   refine⟨by simpa using hsz,hS5.good,O,fun b Q h2 h3=> ?_,fun b E=>⟨E.1,by simpa using E.2,?_⟩⟩
   .have hnb:b∉bs':=by
     intro m;rcases(r12 _ m).1 with h|h
     .have:=hbs _ h;omega
     .exact h3 h.1
    exact hw3 b Q hnb (by omega)
   .rcases E.1 with h|h
    .exact(hfpW b h).2
    .omega
  refine⟨!I,fun b=>(fp b\/W.heap.size<=b)/\b<S.heap.size,g.H,by cases I<;>rfl,?_,?_⟩
  .have:=hyl;rw[<-eF] at this;exact this
  .cases I with
   |false=>
    have:=hres (wx (rs.stop d)) (by
     intro a y b' e;rcases List.append_eq_append_iff.1 e with⟨c,e1,e2⟩|⟨c,e1,e2⟩
     .cases c with
      |nil=>
       simp only[jHz,List.cons.injEq] at e2;obtain⟨rfl,e3⟩:=e2;rw[e1,jHw];exact hβ
      |cons c0 cs=>
       have e3:=congrArg List.length e2;simp at e3
     .cases c with
      |nil=>
       simp only[jHz,List.cons.injEq] at e2;obtain⟨rfl,e3⟩:=e2;rw[jHw] at e1;rw[<-e1];exact hβ
      |cons c0 cs=>
       simp only[jHx,List.cons.injEq] at e2;obtain⟨rfl,e3⟩:=e2;exact N.mid a y cs e1)
    rw[<-eF] at this;exact this
   |true=>
    have:=hres (jvm L (rs.stop d)) ⟨q,x,rest,rfl,hL',N.mid,hβ⟩;rw[<-eF] at this;exact this
 cases e with
 |exit id=>exact K.elim
 |normal=>
  simp only[jtx] at K;exact key false K.1 K.2
 |ret=>
  simp only[jtx] at K;exact key true K.1 K.2
end
end Go.X
namespace Go.X
open Go.RowKit (Below)
def jAS (P:Program) (a:Nat->Option ((ts:List Ty)×jro ts)):Prop:=
 ∀k ts (rs:jro ts) sv pr L v ρ,a k=some ⟨ts,rs⟩->rs.seq sv=some (pr,L)->pr->SV.den P ρ sv v->jCP P ρ.H ts L v
section
variable {P:Program} {C:Ctx}
theorem jB9 {H:Imm} {w:World} {l:Nat} {r:Loop} (a:jbT H w) (o:Obj) (g:w.heap[l]? =some (.loop r)):jbT H (w.putObj l o):=by
 refine⟨fun b c f=> ?_,a.2⟩;have d:b≠l:=by
  intro e;subst e;have:=a.1 _ _ f;rw[g] at this;exact jmM this
 rw[World.putObj_heap_other d];exact a.1 b c f
theorem jDS (hC:C.ok P) (hm:P.follows .mixedOrders=true) {A:ji0 Unit} {tbl:Nat->Option ((ts:List Ty)×jro ts)} {Bi:zV} (hseq:jAS P tbl):jli P C none (hkR C A tbl) (LvR Bi):=by
 intro g ps aZ b σ ys K B ds a w Q h hL hRel hQ;simp only[hkR] at h
 split at h
 case h_2=>exact h.elim
 rename_i ts rs htb
 split at h
 case h_2=>exact h.elim
 rename_i pr L d os fz hsq hz
 split at h
 case h_2=>exact h.elim
 rename_i hno hme hall hnm hsl;obtain⟨hpr,hpre,hset,hround,hcont,hcontX⟩:=h;obtain⟨V,rfl,hd0,hn0,ρ,hS,hSl,hPin⟩:=hRel;obtain⟨vals,S⟩:∃vals:List Value,vals=rs.slots.map (fun s=>V.tmps.getD s undef):=⟨_,rfl⟩;have hdl:SV.denL P ρ (rs.slots.map σ.get) vals:=by
  have:=y6 (P:=P) (ρ:=ρ) (σ:=σ) (fun x=>jO (P:=P) (ρ:=ρ) hSl x) (rs.slots.map Operand.tmp);rw[List.map_map,List.map_map] at this;rw[S];exact this
 obtain⟨ρ1,hle1,X,hb1,I,hbn,O⟩:=ja6 (dst:=rs.dst) (rs:=[]) (pre:=rs.pre) hC hz hno hme hS hdl;obtain⟨bs,hbs0⟩:∃bs,bs=zl ρ1 os:=⟨_,rfl⟩;rw[<-hbs0] at I hbn O;have E:∀b,b∈bs->b<w.heap.size:=by
  intro b j;rw[hbs0] at j;obtain⟨o,Cp,_,t⟩:=(zj _).1 j;exact(vV (σ:=σ.frz fz) X t).1
 have hgv:=jCP.mono hle1.H (hseq _ _ _ _ _ _ _ ρ htb hsq hpr (jO (P:=P) (ρ:=ρ) hSl g));obtain⟨gf,lb,ev,en,hit⟩:=hgv;have ev':(yR ds V).eval g= .func (.func gf) #[] lb:=(by rw[jcO];exact ev);refine wpIn_rangeFunc ?_;intro fn _;obtain⟨rec,R⟩:∃rec:Loop,rec={state:= .ready,pending:=none,fn,tmps:=V.tmps,params:=ps,assign:=aZ,body:=b,defers:=w.heap.size}:=⟨_,rfl⟩;have hr0:jru rec false=rec:=(by rw[R];rfl);obtain⟨p,z⟩:∃p,(w.alloc (.deferred (some []))).alloc (.loop rec)=p:=⟨_,rfl⟩;have m:p.heap.size=w.heap.size+2:=(by rw[<-z];simp);have N:∀b,b<w.heap.size->p.heap[b]? =w.heap[b]? :=by
  intro b j;rw[<-z];exact(Below.heap_alloc _ _ _ (by simp;omega)).trans (Below.heap_alloc _ _ _ j)
 have hD1:p.heap[w.heap.size]? =some (.deferred (some [])):=by
  rw[<-z];exact(Below.heap_alloc _ _ _ (by simp)).trans (World.alloc_heap_new w _)
 have hl1:p.heap[w.heap.size+1]? =some (.loop rec):=by
  rw[<-z];have:=World.alloc_heap_new (w.alloc (.deferred (some []))) (.loop rec);rwa [World.size_alloc] at this
 have hg1:jbT ρ1.H p:=by
  refine⟨fun b c Y=> ?_,X.good.2⟩;rw[N b (X.good.lt Y)];exact X.good.1 b c Y
 have W:p.os=w.os/\p.tape=w.tape/\p.output=w.output/\w.drawn<=p.drawn:=(by rw[<-z];exact⟨rfl,rfl,rfl,jG5 _⟩);have fin:∀(β:Bool) (M:List (Ty.st ts).Data->Prop) (xs:List (Ty.st ts).Data) (fp':Nat->Prop) (H':Imm) (W':World),jCQ P w ρ1.H bs (jru rec β) rs.ps vals d (rs.G d) M xs fp' H' W'->jvl C rs σ xs d (K β)->
  Q (jdB (jGg β)) {yR ds V with defers:=[{target:= .collected w.heap.size,args:= #[]}]++(yR ds V).defers} (W'.putObj (w.heap.size+1) (.loop {jru rec β with state:= .exhausted})):=by
  intro β M xs fp' H' W' f Y;have hlp:=f.loop;obtain⟨l,hexh⟩:∃l:Obj,l= .loop {jru rec β with state:= .exhausted}:=⟨_,rfl⟩;rw[<-hexh];unfold jvl at Y
  split at Y
  case h_2=>exact Y.elim
  rename_i out hout
  split at Y
  case h_2=>exact Y.elim
  rename_i hnew;obtain⟨bs',g1,g2,g3⟩:=f.args;have hne:∀b,b∈bs'->b≠w.heap.size+1:=by
   intro b j e;rcases(g3 b j).1 with h|h
   .have:=E b h;omega
   .have:=h.2;omega
  have hP:jrp ρ1.H w bs ⟨rs.ps,[],rs.pre,fun d=>((),rs.G d xs)⟩ vals d (.returned (jD2 [])) (W'.putObj (w.heap.size+1) l):=by
   refine⟨[],H',[],bs',rfl,⟨f.os,f.tape,f.output,f.drawn,by have:=f.size;simp;omega,fun b t h2=> ?_,fun b t h2=>(f.old b t h2).2,jB9 f.good l hlp⟩,⟨rfl,rfl⟩,
    we (d:=d) hall (jai (fun _ _ h=>h) g1 (fun b j=>⟨World.putObj_heap_other (hne b j),rfl⟩)),by simpa using g2,fun b j=> ?_⟩
   .rw[World.putObj_heap_other (by omega)];exact(f.old b t h2).1
   .have j:b∈bs':=(by simpa using j);rcases(g3 b j).1 with h|h
    .exact .inl h
    .exact .inr (by have:=h.2;omega)
  obtain⟨v',_,T,i,J,_,_⟩:=O _ out hout _ _ hP
  let k:St:=⟨σ.sl,out.wr++(qG σ out.fz++σ.ob)⟩
  let B':zV:={B with w:=W'.putObj (w.heap.size+1) l,H:=T.H,bor:=zl T (km k.ob)}
  have hS5:Sat P B' T k.obj (W'.putObj (w.heap.size+1) l):=jcU (σ:=k) i i.good (fun _ _ h=>h) (fun _ _ _ _=>⟨rfl,rfl⟩);have hnw:=fun n hn=>yB (jc0 _ hnew n hn)
  have hfin:jhW P B' C.n ({target:= .collected w.heap.size,args:= #[]}::ds) k (yR ({target:= .collected w.heap.size,args:= #[]}::ds) V) (W'.putObj (w.heap.size+1) l):=by
   refine⟨V,rfl,hd0,hn0,T,hS5,fun s sv hs=> ?_,?_⟩
   .exact SV.den_mono J _ _ (fun r hr=>(hnw r hr).sl s sv (zD _ _ _ hs)) (hSl s sv hs)
   .have h5:=hPin.mono J (fun n hn=>(hnw n hn).lt);exact⟨h5.1,fun _ _ h=>h⟩
  have u:∀b,b∈zl T (km k.ob)->B.w.heap.size<=b\/b∈B.bor:=by
   intro b j;obtain⟨o,Cp,_,t⟩:=(zj _).1 j;exact i.own o b Cp t
  have Z:jl4 Bi B':=by
   obtain⟨c1,c2,c3,c3',c4,c5,c6,c7,c8,c9⟩:=hL.1;refine⟨i.os.trans c1,i.tape.trans c2,i.output.trans c3,jHi c3' i.drawn,jHi c4 i.size,fun b c j=>J.H b c (hPin.2 b c (c5 b c j)),fun b t h2=> ?_,fun b j=> ?_,c8,c9⟩
   .obtain⟨k1,k2,k3⟩:=c6 b t h2;have F:b<B.w.heap.size:=jH1 t c4;refine⟨(i.old b F k3).trans k1,(i.oldH b F k3).trans k2,fun y=> ?_⟩;rcases u b y with h|h
    .omega
    .exact k3 h
   .rcases u b j with h|h
    .exact .inl (jHi c4 h)
    .exact c7 b h
  have hDw:(W'.putObj (w.heap.size+1) l).heap[w.heap.size]? =some (.deferred (some [])):=by
   rw[World.putObj_heap_other (by omega)];exact f.mark
  have hmarks:jF4 Bi B' ({target:= .collected w.heap.size,args:= #[]}::ds):=by
   obtain⟨m1,m2⟩:=hL.2;have F:∀x,x∈ds->∃D,x={target:= .collected D,args:= #[]}/\D<B.w.heap.size:=by
    intro x hx;obtain⟨D,e,_,_,h3⟩:=m2 x hx;exact⟨D,e,(jHc.1 h3).1⟩
   refine⟨jHV.2 ⟨fun y=> ?_,m1⟩,fun x hx=> ?_⟩
   .obtain⟨D,e,t⟩:=F _ y;simp at e;have:=hS.size;omega
   .rcases jG4.1 hx with rfl|hx
    .refine⟨w.heap.size,rfl,jHi hL.1.size hS.size,fun y=> ?_,hDw⟩;obtain⟨o,Cp,_,t⟩:=(zj _).1 y;exact(jiX (σ:=k) i t).2 _ hDw
    .obtain⟨D,e,k1,k2,k3⟩:=m2 x hx;have F:D<B.w.heap.size:=(jHc.1 k3).1;refine⟨D,e,k1,fun y=> ?_,(i.old D F k2).trans k3⟩;rcases u D y with h|h
     .omega
     .exact k2 h
  have hE:Ext σ k:=⟨⟨[],rfl⟩,⟨out.wr++qG σ out.fz,by simp[k]⟩⟩;have:=hQ β k () _ _ B' _ Y hE ⟨Z,hmarks⟩ hfin;have ea:(yR ({target:= .collected w.heap.size,args:= #[]}::ds) V)={yR ds V with defers:=[{target:= .collected w.heap.size,args:= #[]}]++(yR ds V).defers}:=(by simp[yR,hd0]);rw[ea] at this;exact this
 refine⟨w.heap.size+1,[{target:= .collected w.heap.size,args:= #[]}],p,{target:= .fn (.func gf) lb,args:= #[.func (.yield (w.heap.size+1)) #[] #[]]},p,gf,
  #[.func (.yield (w.heap.size+1)) #[] #[]]++lb,p,?_,?_,fun _ _=>trivial,?_,fun hd=>by simp[Fence.wide] at hd,?_⟩
 .rw[<-z,R];exact run_enterLoop_outer _ _ _ _ _
 .simp only[resolve,ev'];simp[go_sem]
 .simp[invoke,go_sem,en _ _]
 .refine jde.2 ((hit ρ1.H p (w.heap.size+1) (jCQ P w ρ1.H bs (jru rec false) rs.ps vals d (rs.G d) (wx (rs.stop d))) (jCQ P w ρ1.H bs (jru rec true) rs.ps vals d (rs.G d) (jvm L (rs.stop d))) (fun _ _ h=>h) hg1 ?_ ?_ ?_ ?_).mono ?_)
  .rw[m];exact jjE E
  .rw[m];exact jjE E
  .rw[m];exact jBm hC hm hround hall hnm hsl hn0 E S R
  .refine⟨fun a x b e=>by simp at e,W.1,W.2.1,W.2.2.1,W.2.2.2,by rw[m];exact jG5 _,hg1,fun _ _ h=>h,fun b t _=>⟨N b t,rfl⟩,hD1,by rw[hr0];exact hl1,bs,?_,hbn,fun b j=>⟨.inl j,by rw[m];have:=E b j;omega⟩⟩;rw[hset];exact jai (fun _ _ h=>h) I (fun b j=>⟨N b (E b j),rfl⟩)
  .rintro e W' ⟨v,rfl,h⟩;rcases h with⟨xs,fp',H',hxs,f⟩|⟨q,fp',H',f⟩
   .exact⟨none,_,run_endLoop (P:=P) f.loop (by simp[jru]),fin false _ xs fp' H' W' f (hcont xs hxs f.mid)⟩
   .obtain⟨a,x,rest,rfl,k1,k2,k3⟩:=f.mid;exact⟨some .ret,_,run_endLoop (P:=P) f.loop (by simp[jru]),wpIn_ret (fin true _ _ fp' H' W' f (hcontX a x rest k1 k2 k3))⟩
end
end Go.X
namespace Go.X
open Go.RowKit (Below)
def jvn (H:Imm) (w:World) (rs:List Sh) (r:RD rs):Ending->World->Prop:=
 fun e w'=>∃vs H' a,e= .returned (jD2 vs)/\jDs H w H' w'/\jCR H' w' rs vs r a/\a.Nodup/\∀b,b∈a->w.heap.size<=b
def jtw (fn:Func) (rs:List Sh) (a:RD rs->Prop):Ex->St->Unit->Prop
 | .exit _,_,_=>False
 |_,σ,_=>match jgb σ rs fn.results.toList with
  |some (r,o1,b)=>match qh o1,jcq b o1 with
   |true,false=>a r
   |_,_=>False
  |none=>False
section
variable {P:Program} {C:Ctx}
theorem jez {fn:Func} {tmps:Array Value} {R:Ending->World->Prop}:∀(ds:List Deferred) (w:World),ds.Nodup->(∀x,x∈ds->∃D,x={target:= .collected D,args:= #[]}/\w.heap[D]? =some (.deferred (some [])))->
 (∀w':World,w'.os=w.os->w'.tape=w.tape->w'.output=w.output->w.drawn<=w'.drawn->w'.heap.size=w.heap.size->(∀b,({target:= .collected b,args:= #[]}:Deferred)∉ds->w'.heap[b]? =w.heap[b]?)->∃v,(Go.results fn tmps).run P w'= .ok v w'/\R (.returned v) w')->
 LeavesInM Fence.wide 0 P fn tmps R ds .returning w
 |[],w,_,_,k=>k w rfl rfl rfl (jG5 _) rfl (fun _ _=>rfl)
 |x::ds,w,hnd,hds,k=>by
  rw[jHV] at hnd
  obtain⟨D,rfl,l⟩:=hds x (by simp)
  refine⟨by simp,.inl ⟨D,w.putObj D (.deferred none),rfl,run_takeDeferred l,jez ds _ hnd.2 (fun y e=> ?_) (fun w' f g i c j m=>k w' f g i c (by rw[j];simp) (fun b a=> ?_))⟩⟩
  .obtain⟨D',rfl,d⟩:=hds y (jHb _ e)
   refine⟨D',rfl,?_⟩
   rw[World.putObj_heap_other]
   .exact d
   .rintro rfl;exact hnd.1 e
  .rw[m b (fun h=>a (jHb _ h)),World.putObj_heap_other]
   rintro rfl;exact a (by simp)
theorem jpT (hC:C.ok P) (hm:P.follows .mixedOrders=true) {f:Nat} {fn:Func} {body:Code} (hf:P.funcs[f]? =some fn) (g:fn.body=some body) (hn:fn.ntmps=C.n) (A:ji0 Unit) {hk:jlk Unit} (N:∀B,jbC P C none hk (LvR B)/\jli P C none hk (LvR B))
 {sl:List (Nat×SV)} {vals:List Value} (hlen:vals.length<=C.n) {rs:List Sh} {Z:RD rs->Prop} (hv:ji7 C A hk body ⟨sl,[]⟩ () (jtw fn rs Z)) {H:Imm} {w:World} (hg:jbT H w)
 (hsl:∀ρ:Env,ρ.H=H->∀k v,jD sl k=some v->∃x,vals[k]? =some x/\SV.den P ρ v x):Calls P f vals.toArray w (fun e w'=>∃r,Z r/\jvn H w rs r e w'):=by
 refine(callsIn_wide (n:=0)).1 (callsIn_of_wp_marks hf g trivial ?_ rfl)
 let ρ:Env:=⟨H,fun _=>none,fun _=>0⟩
 let B:zV:=⟨w,H,[],fun _=>none,fun _=>0⟩
 have hS:Sat P B ρ (⟨sl,[]⟩:St).obj w:=by
  refine⟨rfl,rfl,rfl,jG5 _,jG5 _,hg,fun _ _ _=>rfl,fun _ _ _=>rfl,?_,fun _ _=>rfl,?_,?_⟩
  .intro o x I;simp[St.obj,jD] at I
  .intro o o' b C1 C2 l;simp[ρ] at l
  .intro o b C1 l;simp[ρ] at l
 have M:jhW P B C.n [] ⟨sl,[]⟩ {tmps:=vals.toArray++Array.replicate (fn.ntmps-vals.toArray.size) undef,defers:=[]} w:=by
  refine⟨_,(q8 _).symm,rfl,by simp;omega,ρ,hS,?_,fun o p _ g=>by simp[ρ] at g,fun _ _ g=>g⟩;intro k v hk;obtain⟨x,l,h2⟩:=hsl ρ rfl k v hk;rw[jcE (x:=x) l];exact h2
 have hL0:LvR B B [] ():=⟨⟨rfl,rfl,rfl,jG5 _,jG5 _,fun _ _ h=>h,fun b _ h=>⟨rfl,rfl,h⟩,fun b h=> .inr h,rfl,rfl⟩,List.nodup_nil,fun x I=>by simp at I⟩;refine kP (r:=none) hC hm A hk (LvR B) (N B).1 (N B).2 body _ () _ _ _ w B [] hv hL0 M (fun e σ ys a' w' B' ds hE hK hL hR=> ?_);obtain⟨y,rfl,q1,q2,ρ',q3,q4,q5⟩:=hR;obtain⟨i,Q⟩:=hL;have E:(match jgb σ rs fn.results.toList with
  |some (r,o1,L)=>match qh o1,jcq L o1 with
   |true,false=>Z r
   |_,_=>False
  |none=>False)->LeavesInM Fence.wide 0 P fn (yR ds y).tmps (fun e w'=>∃r,Z r/\jvn H w rs r e w') (yR ds y).defers .returning w':=by
  intro S
  split at S
  case h_2=>exact S.elim
  rename_i r o1 L V
  split at S
  case h_2=>exact S.elim
  rename_i hno hme;have ed:(yR ds y).defers=ds:=(by simp[yR,q1]);have et:(yR ds y).tmps=y.tmps:=rfl;rw[ed,et];obtain⟨j,d,hle,hblk,hln⟩:=jX (σ:=σ) L q3;have hd:∀k,SV.den P j (σ.get k) (y.tmps.getD k undef):=by
   intro k;have:=jO (P:=P) (a:=y) q4 (.tmp k);exact SV.den_mono hle _ _ (fun o R=>by simp at R) this
  have G:jgA σ (σ.frz L) o1:=by
   intro o R;rw[kL,if_neg];exact fun hm=>wj _ _ hme o hm R
  obtain⟨ss,e1,e2⟩:=jhP d (w8 σ _) hd rs _ _ _ _ V (fun o R=>R) G;have z:∀x,x∈ds->∃D,x={target:= .collected D,args:= #[]}/\w.heap.size<=D/\D∉B'.bor/\D<B'.w.heap.size/\w'.heap[D]? =some (.deferred (some [])):=by
   intro x I;obtain⟨D,e,W,X,J⟩:=Q.2 x I;have O:=(jHc.1 J).1;exact⟨D,e,W,X,O,(d.old D O X).trans J⟩
  refine jez ds w' Q.1 (fun x I=> ?_) (fun Y g1 g2 g3 g3' g4 g5=> ?_)
  .obtain⟨D,e,_,_,_,h⟩:=z x I;exact⟨D,e,h⟩
  have q:∀b,b<w.heap.size->({target:= .collected b,args:= #[]}:Deferred)∉ds:=by
   intro b g m;obtain⟨D,e,W,_⟩:=z _ m;simp at e;omega
  have t:∀o b K,j.blk o=some (some (b,K))->({target:= .collected b,args:= #[]}:Deferred)∉ds:=by
   intro o b K g m;obtain⟨D,e,_,_,_,h⟩:=z _ m;simp at e;subst e;exact(jiX (σ:=σ.frz L) d g).2 _ h
  have F:jbT j.H Y:=by
   refine⟨fun b c hc=> ?_,d.good.2⟩;have l:=d.good.1 b c hc;rw[g5 b (fun m=> ?_)]
   .exact l
   .obtain⟨D,e,_,_,_,h⟩:=z _ m;simp at e;subst e;rw[h] at l;exact jdK l
  have T:∀b,b∈zl j o1->w.heap.size<=b/\Y.heap[b]? =w'.heap[b]? :=by
   intro b g;obtain⟨o,K,_,l⟩:=(zj _).1 g;refine⟨?_,g5 b (t o b K l)⟩;rcases d.own o b K l with h|h
   .exact jHi i.size h
   .rcases i.own b h with h|h
    .exact h
    .simp[B] at h
  refine⟨_,jjC e1 y.tmps Y,r,S,ss.map (fun s=>y.tmps.getD s undef),j.H,zl j o1,rfl,⟨⟨g1.trans (d.os.trans i.os),g2.trans (d.tape.trans i.tape),g3.trans (d.output.trans i.output),?_,fun b g=> ?_⟩,F,fun b g=> ?_,jHi (jHi i.drawn d.drawn) g3'⟩,?_,qZ d _ (kH _ hno),fun b g=>(T b g).1⟩
  .rw[g4];exact jHi i.size d.size
  .obtain⟨W,X,J⟩:=i.old b g (by simp[B]);rw[g5 b (q b g)];exact(d.old b (jH1 g i.size) J).trans W
  .obtain⟨W,X,J⟩:=i.old b g (by simp[B]);exact(d.oldH b (jH1 g i.size) J).trans X
  .have u:∀(rs:List Sh) (vs:List Value) (r:RD rs) (bs:List Nat),jCR j.H w' rs vs r bs->(∀b,b∈bs->Y.heap[b]? =w'.heap[b]?)->jCR j.H Y rs vs r bs:=by
    intro rs
    induction rs with
    |nil=>intro vs r bs h _;exact h
    |cons s rs ih=>
     intro vs r bs h hk;cases vs with
     |nil=>exact h.elim
     |cons v vs=>
      obtain⟨b1,b2,rfl,l,h2⟩:=h;exact⟨b1,b2,rfl,juj (fun _ _ h=>h) l (fun b g=>⟨hk b (jG2 _ g),rfl⟩),ih vs r.2 b2 h2 (fun b g=>hk b (jG1 _ g))⟩
   exact u _ _ _ _ e2 (fun b g=>(T b g).2)
 cases e with
 |normal=>exact E hK
 |ret=>exact E hK
 |exit id=>exact hK.elim
def jF8:(rs:List Ty)->RD (rs.map fun t=> .cl (.dat t))->(Ty.st rs).Data
 |[],_=>()
 |_::rs,d=>(d.1,jF8 rs d.2)
theorem juI {H:Imm} {w:World}:∀(rs:List Ty) (vs:List Value) (r:RD (rs.map fun t=> .cl (.dat t))) (bs:List Nat),jCR H w (rs.map fun t=> .cl (.dat t)) vs r bs->rvs H rs vs (jF8 rs r)
 |[],vs,r,bs,h=>h.1
 |t::rs,[],r,bs,h=>h.elim
 |t::rs,v::vs,r,bs,h=>by
  obtain⟨d,a,_,b,c⟩:=h
  exact⟨b.1,juI rs vs r.2 a c⟩
theorem jDY {H:Imm} {w:World} {rs:List Ty} {r:RD (rs.map fun t=> .cl (.dat t))} {e:Ending} {w':World} (h:jvn H w (rs.map fun t=> .cl (.dat t)) r e w'):jDr H w rs (jF8 rs r) e w':=by
 obtain⟨vs,H',d,rfl,b,c,_,_⟩:=h;have a:=juI rs vs r d c;refine⟨_,H',rfl,b,?_⟩;have:=jyu a;unfold juC at this;unfold jD2;exact this
@[irreducible] def jDT (C:Ctx) (A:ji0 Unit) (hk:jlk Unit) (fn:Func) (body:Code) (s:j7):Prop:=
 ∀d:PD s.ps,jop (s.pre d) (ji7 C A hk body ⟨kI s.ps d 0,[]⟩ () (jtw fn (s.rs.map fun t=> .cl (.dat t)) (fun r=>jF8 s.rs r=s.F d)))
theorem jFh (t:C.ok P) (y:P.follows .mixedOrders=true) {f:Nat} {fn:Func} {body:Code} {s:j7} (l:P.funcs[f]? =some fn) (j:fn.body=some body) (a:(fn.name== "runtime.NumGoroutine")=false) (z:fn.ntmps=C.n) (D:s.ps.length<=C.n)
 {A:ji0 Unit} {hk:jlk Unit} (g:∀B,jbC P C none hk (LvR B)/\jli P C none hk (LvR B)) (h:jDT C A hk fn body s):zu P f s:=by
 unfold jDT at h;refine⟨w9 l j a,fun H w vals d u o c=> ?_⟩;have m:=v7 o;refine(jpT t y l j z A g (by omega) (vw _ _ (h d) c) u (fun ρ i k v hk=> ?_)).mono fun e w' ⟨r,E,b⟩=> ?_
 .obtain⟨x,p,q⟩:=wU (P:=P) (ρ:=ρ) s.ps vals d 0 (by rw[i];exact o) k v hk;exact⟨x,by simpa using p,q⟩
 .rw[<-E];exact jDY b
end
end Go.X
namespace Go.X
open Go.RowKit (Below)
structure je5 where
 ps:List Par
 pre:PD ps->List Prop
 g:Nat
 cs:List Ty
 F:PD ps->(Ty.st cs).Data
def jz7:(cs:List Ty)->(Ty.st cs).Data->List SV
 |[],_=>[]
 |t::ts,d=> .ep t d.1::jz7 ts d.2
def jsE (H:Imm):(cs:List Ty)->List Value->(Ty.st cs).Data->Prop
 |[],vs,_=>vs=[]
 |t::ts,v::vs,d=>jyz H t v d.1/\jsE H ts vs d.2
 |_::_,[],_=>False
def jdS (σ:St):(cs:List Ty)->List SV->Option ((Ty.st cs).Data×List Nat)
 |[],[]=>some ((),[])
 |t::ts,v::vs=>match jrV σ t v with
  |some (x,f)=>match jdS σ ts vs with
   |some (xs,a)=>some ((x,xs),f++a)
   |none=>none
  |none=>none
 |_,_=>none
def jEM (C:Ctx) (s:je5) (σ:St) (svs:List SV):Option Out:=match wd C σ s.ps svs with
 |some (d,fz)=>some ⟨s.pre d,[],.clo s.g (jz7 s.cs (s.F d)),fz,[],[]⟩
 |none=>none
structure jrr (P:Program) (f:Nat) (s:je5):Prop where
 enters:enters P f
 calls:∀H w vals d,jbT H w->pvs P H s.ps vals d->k8 (s.pre d)->Calls P f vals.toArray w (fun e w'=>∃lb H',e= .returned (.func (.func s.g) #[] lb)/\jDs H w H' w'/\jsE H' s.cs lb.toList (s.F d))
def jEu (fn:Func) (s:je5) (want:(Ty.st s.cs).Data):Ex->St->Prop
 | .exit _,_=>False
 |_,σ=>match fn.results.toList with
  |[.tmp r]=>match σ.get r with
   | .clo g caps=>match Nat.beq g s.g,jdS σ s.cs caps with
    |true,some (x,_)=>x=want
    |_,_=>False
   |_=>False
  |_=>False
@[irreducible] def jAw (C:Ctx) (A:Ann) (fn:Func) (body:Code) (s:je5):Prop:=
 ∀d:PD s.ps,jop (s.pre d) (vcg C A body ⟨kI s.ps d 0,[]⟩ (jEu fn s (s.F d)))
structure joP where
 g:Nat
 k:Nat
 s:zP
structure VOK (P:Program) (f:Nat) (v:joP):Prop where
 enters:enters P f
 calls:∀H w (lb rest:List Value) d bs,lb.length=v.k->jbT H w->jaG P H w v.s.ps (lb++rest) d bs->bs.Nodup->k8 (v.s.pre d)->Calls P f (Value.func (.func v.g) #[] lb.toArray::rest).toArray w (jrp H w bs v.s (lb++rest) d)
def jDA (C:Ctx) (v:joP) (dst:Nat) (σ:St):List SV->Option Out
 | .clo g caps::rest=>match Nat.beq g v.g,Nat.beq caps.length v.k with
  |true,true=>jj5 C v.s dst σ (caps++rest)
  |_,_=>none
 |_=>none
def jGk (C:Ctx) (os:List (Nat×zP)) (cs:List (Nat×je5)) (vs:List (Nat×joP)) (f dst:Nat) (σ:St) (svs:List SV):Option Out:=
 match jD os f with
 |some s=>jj5 C s dst σ svs
 |none=>match jD cs f with
  |some s=>jEM C s σ svs
  |none=>match jD vs f with
   |some v=>jDA C v dst σ svs
   |none=>none
section
variable {P:Program} {B:zV} {C:Ctx} {σ:St} {ρ:Env} {w:World}
theorem jpR {H:Imm}:∀(cs:List Ty) (vs:List Value) (d:(Ty.st cs).Data),jsE H cs vs d->ρ.H=H->SV.denL P ρ (jz7 cs d) vs
 |[],vs,d,h,_=>by simp only[jsE] at h;subst h;simp[jz7,SV.denL]
 |t::ts,[],d,h,_=>h.elim
 |t::ts,v::vs,d,h,hH=>by
  obtain⟨a,b⟩:=h
  simp only[jz7,SV.denL]
  refine⟨v,vs,rfl,?_,jpR ts vs d.2 b hH⟩
  simp only[SV.den]
  rw[hH];exact a
theorem je7 {τ:St} (i:Sat P B ρ τ.obj w) {fz:List Nat} (g:Frz σ τ fz):∀{cs:List Ty} {svs:List SV} {d:(Ty.st cs).Data} {a:List Nat},jdS σ cs svs=some (d,a)->(∀o,o∈a->o∈fz)->∀{vs:List Value},SV.denL P ρ svs vs->jsE ρ.H cs vs d
 |[],[],d,a,h,_,vs,b=>by simpa[SV.denL,jsE] using b
 |[],_::_,d,a,h,_,vs,b=>by simp[jdS] at h
 |_::_,[],d,a,h,_,vs,b=>by simp[jdS] at h
 |t::ts,v::svs,d,a,h,hf,vs,b=>by
  simp only[jdS] at h
  split at h
  case h_2=>cases h
  rename_i x f l
  split at h
  case h_2=>cases h
  rename_i xs m e
  simp at h
  obtain⟨rfl,rfl⟩:=h
  simp only[SV.denL] at b
  obtain⟨u,r,rfl,j,k⟩:=b
  exact⟨jaQ i g l (fun o c=>hf o (jG2 _ c)) j,je7 i g e (fun o c=>hf o (jG1 _ c)) k⟩
theorem jtP (m:C.ok P) {f:Nat} {s:je5} {svs:List SV} {out:Out} (u:jrr P f s) (h:jEM C s σ svs=some out) {vals:List Value} (p:Sat P B ρ σ.obj w) (r:SV.denL P ρ svs vals) (l:k8 out.vc):
 Calls P f vals.toArray w (fun e w'=>∃v,e= .returned v/\jF P B ρ σ out v w'):=by
 unfold jEM at h
 split at h
 case h_2=>cases h
 rename_i d fz y;simp at h;subst h;obtain⟨ρ1,a,c,_,_⟩:=jX fz p;have g:=SV.denL_mono c _ _ (fun o k=>by simp at k) r;refine(u.calls ρ1.H w _ d a.good (wN m a (w8 σ fz) y (fun o k=>k) g) l).mono fun e w' t=> ?_
 obtain⟨lb,H',rfl,n,x⟩:=t;obtain⟨j,i⟩:=jnE a (fun o b z q=>(vV (σ:=σ.frz fz) a q).1) n;refine⟨_,rfl,_,?_,c.trans i,?_,trivial⟩
 .show Sat P B _ (σ.frz fz).obj w';exact j
 .simp only[SV.den];exact⟨lb,rfl,jpR _ _ _ x rfl⟩
theorem jFY (X:C.ok P) (hm:P.follows .mixedOrders=true) {f:Nat} {fn:Func} {body:Code} {s:je5} (O:P.funcs[f]? =some fn) (i:fn.body=some body)
 (m:(fn.name== "runtime.NumGoroutine")=false) (hn:fn.ntmps=C.n) (hps:s.ps.length<=C.n) (A:Ann) (h:jAw C A fn body s):jrr P f s:=by
 unfold jAw at h;refine⟨w9 O i m,fun H w vals d hg R u=> ?_⟩;have Q:=v7 R;refine calls_of_wp O i ?_;have hv:=vw _ _ (h d) u
 let ρ:Env:=⟨H,fun _=>none,fun _=>0⟩
 have Z:Sat P ⟨w,H,[],fun _=>none,fun _=>0⟩ ρ (⟨kI s.ps d 0,[]⟩:St).obj w:=by
  refine⟨rfl,rfl,rfl,jG5 _,jG5 _,hg,fun _ _ _=>rfl,fun _ _ _=>rfl,?_,fun _ _=>rfl,?_,?_⟩
  .intro o x hx;simp[St.obj,jD] at hx
  .intro o o' b S C2 l;simp[ρ] at l
  .intro o b S l;simp[ρ] at l
 have Y:Rel P ⟨w,H,[],fun _=>none,fun _=>0⟩ C.n ⟨kI s.ps d 0,[]⟩ {tmps:=vals.toArray++Array.replicate (fn.ntmps-vals.toArray.size) undef,defers:=[]} w:=by
  refine⟨rfl,by simp;omega,ρ,Z,?_,fun o p _ i=>by simp[ρ] at i,fun _ _ i=>i⟩;intro k v hk;obtain⟨x,l,N⟩:=wU (P:=P) (ρ:=ρ) s.ps vals d 0 R k v hk;rw[jcE (x:=x) (by simpa using l)];exact N
 refine wE X hm A body _ _ _ _ w hv Y (fun e σ B w' _ D E=> ?_);have j:(match fn.results.toList with
  |[.tmp r]=>match σ.get r with
   | .clo g caps=>match Nat.beq g s.g,jdS σ s.cs caps with
    |true,some (x,_)=>x=s.F d
    |_,_=>False
   |_=>False
  |_=>False)->B.defers=[]/\∃v,(Go.results fn B.tmps).run P w'= .ok v w'/\∃lb H',Ending.returned v= .returned (.func (.func s.g) #[] lb)/\jDs H w H' w'/\jsE H' s.cs lb.toList (s.F d):=by
  intro q
  split at q
  case h_2=>exact q.elim
  rename_i r y
  split at q
  case h_2=>exact q.elim
  rename_i g caps t
  split at q
  case h_2=>exact q.elim
  rename_i x fz J hz;have:=jG0 J;subst this;subst q;obtain⟨l,N,ρ',G,I,_⟩:=E;obtain⟨M,c,K,_,_⟩:=jX (σ:=σ) fz G;have z:=jO (P:=P) (a:=B) I (.tmp r);simp only[jQ] at z;rw[t] at z;simp only[SV.den] at z;obtain⟨lb,T,V⟩:=z;have W:=je7 c (w8 σ _) hz (fun o L=>L) (SV.denL_mono K _ _ (fun o L=>by simp at L) V);refine⟨l,_,jjC (ss:=[r]) (by simpa using y) _ _,lb,M.H,?_,?_,W⟩
  .simp only[jH8,List.map_nil];exact congrArg Ending.returned T
  .have below:Below w.heap.size w w':=⟨c.os,c.tape,c.output,c.size,fun b i=>c.old b i (by simp)⟩;exact⟨below,c.good,fun b i=>c.oldH b i (by simp),c.drawn⟩
 cases e with
 |normal=>exact j D
 |ret=>exact j D
 |exit id=>exact D.elim
theorem jrT (y:C.ok P) {f dst:Nat} {v:joP} {svs:List SV} {out:Out} (D:VOK P f v) (h:jDA C v dst σ svs=some out) {vals:List Value} (z:Sat P B ρ σ.obj w) (t:SV.denL P ρ svs vals) (j:k8 out.vc):
 Calls P f vals.toArray w (fun e w'=>∃v,e= .returned v/\jF P B ρ σ out v w'):=by
 unfold jDA at h
 split at h
 case h_2=>cases h
 rename_i g caps rest
 split at h
 case h_2=>cases h
 rename_i m hk;have m:=jG0 m;have hk:=jG0 hk;subst m;simp only[SV.denL] at t;obtain⟨u,r,rfl,p,x⟩:=t;simp only[SV.den] at p;obtain⟨lb,rfl,q⟩:=p;have i:=wM _ _ _ _ q x;have a:=h;unfold jj5 at a
 split at a
 .cases a
 rename_i d os fz E
 split at a
 case h_2=>cases a
 rename_i o n _ _;simp at a;obtain⟨ρ1,_,k,_,b,l,c⟩:=ja6 (dst:=dst) (rs:=v.s.rs) (pre:=v.s.pre) y E o n z i;have:=D.calls ρ1.H w lb.toList r d (zl ρ1 os) (by rw[<-zO _ _ q,hk]) k.good b l (by rw[<-a] at j;exact j);rw[show(Value.func (.func v.g) #[] lb.toList.toArray::r).toArray=(Value.func (.func v.g) #[] lb::r).toArray from by simp] at this;exact this.mono fun e w' A=>c v.s.F out h e w' A
theorem jvq (g:C.ok P) {os:List (Nat×zP)} {cs:List (Nat×je5)} {vs:List (Nat×joP)} (j:∀f s,jD os f=some s->qa P f s) (i:∀f s,jD cs f=some s->jrr P f s) (k:∀f s,jD vs f=some s->VOK P f s)
 {f dst:Nat} {svs:List SV} {out:Out} (h:jGk C os cs vs f dst σ svs=some out):
 enters P f/\∀B ρ w vals,Sat P B ρ σ.obj w->SV.denL P ρ svs vals->k8 out.vc->σ.obj dst=none->kN σ.obj dst->
  Calls P f vals.toArray w (fun e w'=>∃v,e= .returned v/\jF P B ρ σ out v w'):=by
 unfold jGk at h
 split at h
 .rename_i s b;exact⟨(j f s b).enters,fun B ρ w vals c d a _ _=>jj4 g (j f s b) h c d a⟩
 .split at h
  .rename_i s b;exact⟨(i f s b).enters,fun B ρ w vals c d a _ _=>jtP g (i f s b) h c d a⟩
  .split at h
   .rename_i v b;exact⟨(k f v b).enters,fun B ρ w vals c d a _ _=>jrT g (k f v b) h c d a⟩
   .cases h
end
end Go.X
namespace Go.X
open Go.RowKit (Below)
structure je2 where
 aZ:List (Option (Nat×Nat))
 ps:List vZ
 rs:List Sh
 pre:OD ps->List Prop
 R:OD ps->RD rs×KD ps->Prop
def jou:List (Option (Nat×Nat))->List SV->Option (List SV)
 |[],[]=>some []
 |none::aZ,v::vs=>match jou aZ vs with
  |some r=>some (v::r)
  |none=>none
 |some a::aZ,.clo g' caps::vs=>match Nat.beq a.1 g',Nat.beq caps.length a.2,jou aZ vs with
  |true,true,some r=>some (caps++r)
  |_,_,_=>none
 |_,_=>none
def jzT:List (Option (Nat×Nat))->List Value->List Value->Prop
 |[],vs,fl=>vs=[]/\fl=[]
 |none::aZ,vs,fl=>∃v b a,vs=v::b/\fl=v::a/\jzT aZ b a
 |some c::aZ,vs,fl=>∃lb b a,vs= .func (.func c.1) #[] lb::b/\fl=lb.toList++a/\lb.size=c.2/\jzT aZ b a
def je2.at (s:je2) (r:RD s.rs×KD s.ps):zP:=⟨s.ps,s.rs,s.pre,fun _=>r⟩
structure ROK (P:Program) (f:Nat) (s:je2):Prop where
 enters:enters P f
 calls:∀H w vals fl d bs,jzT s.aZ vals fl->jbT H w->jaG P H w s.ps fl d bs->bs.Nodup->k8 (s.pre d)->
  Calls P f vals.toArray w (fun e w'=>∃r,s.R d r/\jrp H w bs (s.at r) fl d e w')
def hkC (C:Ctx) (A:ji0 Unit) (c:Nat->Option ((ts:List Ty)×jro ts)) (b:List Nat) (e:List (Nat×Nat×je2)):jlk Unit:=
 ⟨fun d=>yx b d,fun a args σ _ K=>match a with
  | .clo f []=>match jD e f with
   |some p=>match jou p.2.aZ args with
    |some svs=>match jrz C σ p.2.ps svs with
     |some (d,os,fz)=>match qh os,jcq fz os with
      |true,false=>k8 (p.2.pre d)/\∀r,p.2.R d r->(match jj5 C (p.2.at r) p.1 σ svs with
       |some out=>match jmv ⟨σ,[]⟩ out.nw with
        |true=>K out.sv ⟨σ.sl,out.wr++(qG σ out.fz++σ.ob)⟩ ()
        |false=>False
       |none=>False)
      |_,_=>False
     |none=>False
    |none=>False
   |none=>False
  |_=>False,(hkR C A c).rng⟩
section
variable {P:Program} {C:Ctx}
theorem jhk {ρ:Env}:∀(aZ:List (Option (Nat×Nat))) (svs fs:List SV) (vals:List Value),jou aZ svs=some fs->SV.denL P ρ svs vals->∃fl,jzT aZ vals fl/\SV.denL P ρ fs fl
 |[],svs,fs,vals,h,b=>by
  cases svs with
  |nil=>
   simp only[jou,Option.some.injEq] at h;subst h
   simp only[SV.denL] at b;subst b
   exact⟨[],⟨rfl,rfl⟩,by simp[SV.denL]⟩
  |cons a r=>simp[jou] at h
 |none::aZ,[],fs,vals,h,b=>by simp[jou] at h
 |none::aZ,v::vs,fs,vals,h,b=>by
  simp only[jou] at h
  split at h
  case h_2=>cases h
  rename_i r i
  simp only[Option.some.injEq] at h;subst h
  simp only[SV.denL] at b
  obtain⟨x,xs,rfl,c,d⟩:=b
  obtain⟨fl,j,k⟩:=jhk aZ vs r xs i d
  exact⟨x::fl,⟨x,xs,fl,rfl,rfl,j⟩,by simp only[SV.denL];exact⟨x,fl,rfl,c,k⟩⟩
 |some q::aZ,svs,fs,vals,h,b=>by
  unfold jou at h
  split at h
  .rename_i e;cases e
  .rename_i e;cases e
  .rename_i n m p caps vs e
   simp only[List.cons.injEq,Option.some.injEq] at e
   obtain⟨rfl,rfl⟩:=e
   split at h
   case h_2=>cases h
   rename_i r f g i
   simp only[Option.some.injEq] at h;subst h
   have f:=jG0 f
   have g:=jG0 g
   subst f
   simp only[SV.denL] at b
   obtain⟨x,xs,rfl,c,d⟩:=b
   simp only[SV.den] at c
   obtain⟨lb,rfl,l⟩:=c
   obtain⟨fl,j,k⟩:=jhk aZ vs r xs i d
   have o:=zO _ _ l
   refine⟨lb.toList++fl,⟨lb,xs,fl,rfl,rfl,?_,j⟩,wM _ _ _ _ l k⟩
   rw[<-g,o];simp
  .cases h
theorem jCz (hC:C.ok P) {A:ji0 Unit} {tbl:Nat->Option ((ts:List Ty)×jro ts)} {sps:List Nat} {rt:List (Nat×Nat×je2)} (hrt:∀f p,jD rt f=some p->ROK P f p.2) {Bi:zV}:jbC P C none (hkC C A tbl sps rt) (LvR Bi):=by
 intro o c f d σ ys K B ds a w next Q S hc I hd h hL F hK;obtain⟨b,rfl,hd0,M,ρ,hS,m,E⟩:=F;have hnd:∀c,o.op≠.defer c:=fun c e=>by rw[S] at e;cases e
 have u:=jO (P:=P) (ρ:=ρ) m f;have q:=y6 (P:=P) (ρ:=ρ) (σ:=σ) (fun x=>jO (P:=P) (ρ:=ρ) m x) c.args.toList;refine⟨fun _ _=>trivial,?_⟩;rw[Oper.semAt_eq _ _ _ hnd];simp only[hkC] at h
 split at h
 case h_2=>exact h.elim
 rename_i k hv
 split at h
 case h_2=>exact h.elim
 rename_i p hp
 split at h
 case h_2=>exact h.elim
 rename_i svs hfl
 split at h
 case h_2=>exact h.elim
 rename_i dd os fz hz
 split at h
 case h_2=>exact h.elim
 rename_i hno hme;obtain⟨V,t⟩:=h;have R:=hrt k p hp;rw[hv] at u;simp only[SV.den] at u;obtain⟨vs,ef,i⟩:=u;simp only[SV.denL,Array.toList_eq_nil_iff] at i;subst i;obtain⟨fl,L,J⟩:=jhk (P:=P) (ρ:=ρ) _ _ _ _ hfl q;obtain⟨ρ1,hle1,Y,hb1,j,hbn,z⟩:=ja6 (dst:=p.1) (rs:=p.2.rs) (pre:=p.2.pre) hC hz hno hme hS J;have hex:(execOp (yR ds b).eval o).run P w= .ok (.enter k (c.args.map b.eval)) w:=by
  have X:(yR ds b).eval f= .func (.func k) #[] #[]:=(by rw[jcO];exact ef);simp only[execOp,S,Sem.run_bind,resolve,hc,Deferred.ofValue,X,Sem.run_pure,Result.andThen_ok,invoke];have e2:(yR ds b).eval=b.eval:=(by exact jcO _ _);rw[e2,<-R.enters (c.args.map b.eval) w];simp
 rw[hex];simp only[Oper.uponIn];refine⟨fun hd=>by simp[Fence.wide] at hd,jde.2 ?_⟩;have G:=R.calls ρ1.H w _ fl dd (zl ρ1 os) L Y.good j hbn V;rw[show(c.args.toList.map b.eval).toArray=c.args.map b.eval from by apply jHp.1;simp] at G;refine G.mono fun e w' he=> ?_
 obtain⟨r,hr,hP⟩:=he;have g:=t r hr
 split at g
 case h_2=>exact g.elim
 rename_i out T
 split at g
 case h_2=>exact g.elim
 rename_i N;obtain⟨v,rfl,ρ4,Z,l,hdv,_⟩:=z _ out T e w' hP;simp only;rw[I];have O:=fun n hn=>yB (jc0 _ N n hn)
 have hE:Ext σ ⟨σ.sl,out.wr++(qG σ out.fz++σ.ob)⟩:=⟨⟨[],rfl⟩,⟨out.wr++qG σ out.fz,by simp⟩⟩;have W:(yR ds b).put (some d) v=yR ds (b.put (some d) v):=rfl;rw[W];refine hK out.sv _ () v w' B g hE hL ⟨b.put (some d) v,rfl,by simpa[Act.put] using hd0,by simpa[Act.put] using M,ρ4,Z,?_,E.mono l (fun n hn=>(O n hn).lt)⟩;intro s y D;simp only[Act.put];by_cases hs:s=d
 .subst hs;rw[jK] at D;simp at D;subst D;simp only[jG9,jHl];simp only[if_true];rw[if_pos (by rw[M];exact hd)];exact hdv
 .rw[jB (fun h=>hs h.symm)] at D;simp only[jG9,jHl];rw[if_neg (fun h=>hs h.symm)];have:=SV.den_mono l _ _ (fun r hr=>(O r hr).sl s y (zD _ _ _ D)) (m s y D);simpa only[jG9] using this
theorem jmJ (k:C.ok P) (l:P.follows .mixedOrders=true) {A:ji0 Unit} {c:Nat->Option ((ts:List Ty)×jro ts)} (d:jAS P c) {e:List Nat} {j:List (Nat×Nat×je2)} (i:∀f p,jD j f=some p->ROK P f p.2) (B:zV):
 jbC P C none (hkC C A c e j) (LvR B)/\jli P C none (hkC C A c e j) (LvR B):=
 ⟨jCz k i,fun g ps aZ b σ ys K B' ds a w Q h=>jDS k l d g ps aZ b σ ys K B' ds a w Q h⟩
def jDH:Nat->Option ((ts:List Ty)×jro ts):=fun _=>none
theorem jrY:jAS P jDH:=fun _ _ _ _ _ _ _ _ h=>by cases h
theorem jFs {ts:List Ty} {l B0:Nat} {R c:Res (Ty.st ts).Data} {a:List Nat} {b:List (Ty.st ts).Data->Prop} (e:R.stable B0) (d:YB P ts B0 l R c b):
 jbC P C none (hkY ts l a b (fun _=>none)) (LvY ts B0 R c)/\jli P C none (hkY ts l a b (fun _=>none)) (LvY ts B0 R c):=
 ⟨jCy e d (fun _ _ h=>by cases h),jDR⟩
def jBH:List vZ->Bool
 |[]=>true
 | .own _ _::_=>false
 |_::ps=>jBH ps
theorem qR {H H':Imm} {w w':World}:∀{ps:List vZ} {vs:List Value} {d:OD ps} {bs:List Nat} (k:KD ps),jBH ps=true->jaG P H w ps vs d bs->jht H' w' ps vs k []/\bs=[]
 |[],vs,d,bs,k,_,h=>⟨rfl,h.2⟩
 |p::ps,[],d,bs,k,_,h=>h.elim
 | .own _ _::ps,v::vs,d,bs,k,c,_=>by cases c
 | .val t::ps,v::vs,d,bs,k,c,h=>by
  obtain⟨l,m,rfl,e,g⟩:=h
  obtain⟨i,j⟩:=qR (ps:=ps) k c g
  exact⟨i,by rw[j,e.2];rfl⟩
 | .ref t::ps,v::vs,d,bs,k,c,h=>by
  obtain⟨l,m,rfl,e,g⟩:=h
  obtain⟨i,j⟩:=qR (ps:=ps) k c g
  exact⟨i,by rw[j,e.2];rfl⟩
 | .nil _::ps,v::vs,d,bs,k,c,h=>by
  obtain⟨l,m,rfl,e,g⟩:=h
  obtain⟨i,j⟩:=qR (ps:=ps) k c g
  exact⟨i,by rw[j,e.2];rfl⟩
 | .clo f::ps,v::vs,d,bs,k,c,h=>by
  obtain⟨l,m,rfl,e,g⟩:=h
  obtain⟨i,j⟩:=qR (ps:=ps) k c g
  exact⟨i,by rw[j,e.2];rfl⟩
 | .fn a b::ps,v::vs,d,bs,k,c,h=>by
  obtain⟨l,m,rfl,e,g⟩:=h
  obtain⟨i,j⟩:=qR (ps:=ps) k c g
  exact⟨i,by rw[j,e.2];rfl⟩
theorem jBA {H:Imm} {w:World} {ps:List vZ} {rs:List Sh} {pre:OD ps->List Prop} {vs:List Value} {d:OD ps} {bs:List Nat} (g:jBH ps=true) (i:jaG P H w ps vs d bs) {r:RD rs} (k:KD ps) {e:Ending} {w':World} (h:jvn H w rs r e w'):
 jrp H w bs ⟨ps,rs,pre,fun _=>(r,k)⟩ vs d e w':=by
 obtain⟨us,H',n,rfl,a,m,l,j⟩:=h;obtain⟨_,rfl⟩:=qR (H':=H') (w':=w') k g i;have hk:=fun H' w'=>(qR (P:=P) (H:=H) (w:=w) (H':=H') (w':=w') k g i).1
 refine⟨us,H',n,[],rfl,⟨a.below.os,a.below.tape,a.below.output,a.drawn,a.below.size,fun b c _=>a.below.block b c,fun b c _=>a.old b c,a.good⟩,m,hk _ _,by simpa using l,fun b f=> .inr (j b (by simpa using f))⟩
@[irreducible] def jyq (C:Ctx) (A:ji0 Unit) (hk:jlk Unit) (fn:Func) (body:Code) (s:je2) (args:OD s.ps->List SV):Prop:=
 ∀d,k8 (s.pre d)->ji7 C A hk body ⟨jmH (args d) 0,[]⟩ () (jtw fn s.rs (fun r=>∃k,s.R d (r,k)))
theorem jyp (F:C.ok P) (I:P.follows .mixedOrders=true) {f:Nat} {fn:Func} {body:Code} {s:je2} (u:P.funcs[f]? =some fn) (q:fn.body=some body) (a:(fn.name== "runtime.NumGoroutine")=false) (J:fn.ntmps=C.n) {A:ji0 Unit} {hk:jlk Unit}
 (l:∀B,jbC P C none hk (LvR B)/\jli P C none hk (LvR B)) {args:OD s.ps->List SV} (z:jBH s.ps=true)
 (g:∀H w vals fl d bs,jzT s.aZ vals fl->jaG P H w s.ps fl d bs->∀ρ:Env,ρ.H=H->SV.denL P ρ (args d) vals) (h:∀d,Nat.ble (args d).length C.n=true)
 (y:jyq C A hk fn body s args):ROK P f s:=by
 unfold jyq at y;refine⟨w9 u q a,fun H w vals fl d bs j G p K i=> ?_⟩;have t:=fun ρ c=>g H w vals fl d bs j p ρ c
 have M:=zO _ _ (t ⟨H,fun _=>none,fun _=>0⟩ rfl);have N:=jHg (h d);refine(jpT F I u q J A l (by omega) (y d i) G (fun ρ c k v o=> ?_)).mono fun e w' ⟨r,L,b⟩=> ?_
 .obtain⟨x,D,E,_⟩:=jmG _ _ 0 (t ρ c) k v o;exact⟨x,by simpa using D,E⟩
 .obtain⟨k,m⟩:=L;exact⟨(r,k),m,jBA z p k b⟩
end
end Go.X
namespace Go.X
namespace U
def jzz {α:Type} (lt:α->α->Bool) (x:α):List α->List α
 |[]=>[x]
 |y::r=>if lt y x=true then y::jzz lt x r else x::y::r
def jd {α:Type} (lt:α->α->Bool):List α->List α
 |[]=>[]
 |x::r=>jzz lt x (jd lt r)
end U
structure kZ {α:Type} (lt:α->α->Bool) (l:List α):Prop where
 irrefl:∀x,x∈l->lt x x=false
 trans:∀x y z,x∈l->y∈l->z∈l->lt x y=true->lt y z=true->lt x z=true
 total:∀x y,x∈l->y∈l->lt x y=false->lt y x=false->x=y
def jvo {α:Type} (lt:α->α->Bool) (l:List α):Prop:=l.Pairwise (fun a b=>lt b a=false)
section
variable {α:Type} {lt:α->α->Bool}
theorem jg8 (x:α):∀l:List α,(U.jzz lt x l).Perm (x::l)
 |[]=>List.Perm.refl _
 |y::r=>by
  unfold U.jzz
  split
  .exact((jg8 x r).cons y).trans (List.Perm.swap x y r)
  .exact List.Perm.refl _
theorem zB:∀l:List α,(U.jd lt l).Perm l
 |[]=>List.Perm.refl _
 |x::r=>(jg8 x _).trans ((zB r).cons x)
theorem kZ.perm {l l':List α} (h:kZ lt l) (a:l'.Perm l):kZ lt l':=
 ⟨fun x b=>h.irrefl x (a.mem_iff.1 b),fun x y z b c d=>h.trans x y z (a.mem_iff.1 b) (a.mem_iff.1 c) (a.mem_iff.1 d),fun x y b c=>h.total x y (a.mem_iff.1 b) (a.mem_iff.1 c)⟩
theorem kZ.sub {l l':List α} (h:kZ lt l) (a:∀x,x∈l'->x∈l):kZ lt l':=
 ⟨fun x b=>h.irrefl x (a _ b),fun x y z b c d=>h.trans x y z (a _ b) (a _ c) (a _ d),fun x y b c=>h.total x y (a _ b) (a _ c)⟩
theorem kZ.asymm {l:List α} (h:kZ lt l) {x y:α} (a:x∈l) (d:y∈l) (b:lt x y=true):lt y x=false:=by
 cases c:lt y x with
 |false=>rfl
 |true=>have:=h.trans x y x a d a b c;rw[h.irrefl x a] at this;cases this
theorem kZ.ntrans {l:List α} (h:kZ lt l) {x y z:α} (d:x∈l) (e:y∈l) (g:z∈l) (f:lt x y=false) (b:lt y z=false):lt x z=false:=by
 cases a:lt x z with
 |false=>rfl
 |true=>
  cases c:lt y x with
  |true=>have:=h.trans y x z e d g c a;rw[b] at this;cases this
  |false=>have:=h.total x y d e f c;subst this;rw[b] at a;cases a
theorem jqt {x:α}:∀{l:List α},kZ lt (x::l)->jvo lt l->jvo lt (U.jzz lt x l)
 |[],_,_=>List.pairwise_singleton _ _
 |y::r,h,ha=>by
  unfold U.jzz
  have c:=jHS.1 ha
  split
  .rename_i a
   refine jHS.2 ⟨fun z b=> ?_,jqt (h.sub (by intro z b;simp at b⊢;rcases b with rfl|b;exact .inl rfl;exact .inr (.inr b))) c.2⟩
   rcases jG4.1 ((jg8 x r).mem_iff.1 b) with rfl|b
   .exact h.asymm (by simp) (by simp) a
   .exact c.1 z b
  .rename_i a
   have a:lt y x=false:=by simpa using a
   refine jHS.2 ⟨fun z b=> ?_,ha⟩
   rcases jG4.1 b with rfl|b
   .exact a
   .exact h.ntrans (x:=z) (y:=y) (z:=x) (by simp[b]) (by simp) (by simp) (c.1 z b) a
theorem gO:∀{l:List α},kZ lt l->jvo lt (U.jd lt l)
 |[],_=>List.Pairwise.nil
 |x::r,h=>jqt ((h.perm ((zB r).cons x))) (gO (h.sub (fun z a=>jHb _ a)))
theorem jbj:∀{a b:List α},kZ lt a->a.Perm b->jvo lt a->jvo lt b->a=b
 |[],b,_,c,_,_=>(List.perm_nil.1 c.symm).symm
 |x::r,[],_,c,_,_=>absurd c.length_eq (by simp)
 |x::r,y::s,h,c,ha,hb=>by
  have d:=jHS.1 ha
  have f:=jHS.1 hb
  have j:y∈x::r:=c.mem_iff.2 (by simp)
  have k:x∈y::s:=c.mem_iff.1 (by simp)
  have e:x=y:=by
   rcases jG4.1 j with e|i
   .exact e.symm
   .rcases jG4.1 k with e|g
    .exact e
    .exact h.total x y (by simp) j (f.1 x g) (d.1 y i)
  subst e;rw[jbj (h.sub (fun z l=>jHb _ l)) (List.Perm.cons_inv c) d.2 f.2]
theorem jpB {l l':List α} (h:kZ lt l) (a:l'.Perm l) (b:jvo lt l'):l'=U.jd lt l:=
 jbj (h.perm a) (a.trans (zB l).symm) b (gO h)
end
namespace U
def ji (t:Ty) (F:(Ty.st [t,t]).Data->(Ty.st [.int]).Data) (x y:t.Data):Bool:=decide ((F (x,y,())).1<0)
def jG:List Prop->Prop
 |[]=>True
 |p::r=>p/\jG r
end U
theorem jvh:∀l:List Prop,U.jG l↔k8 l
 |[]=>Iff.rfl
 |p::r=>by simp only[U.jG,k8,jvh r]
def jC1 (t:Ty) (E:Nat):zP:=⟨[.own (.cl (.row E t .unk)) true,.fn [t,t] [.int]],[],fun d=>[∀x,x∈d.1->∀y,y∈d.1->U.jG (d.2.1.pre (x,y,())),kZ (U.ji t d.2.1.F) d.1],
 fun d=>((),(U.jd (U.ji t d.2.1.F) d.1,()))⟩
end Go.X
namespace Go.X
open Go.RowKit (Below)
def jEs (C:Ctx) (fn:Func) (s:j7) (want:(Ty.st s.rs).Data) (e:Ex) (σ:St) (_:Unit):Prop:=finish C fn s want e σ
@[irreducible] def juu (C:Ctx) (s:j7) (A:PD s.ps->ji0 Unit) (hk:jlk Unit) (fn:Func) (body:Code):Prop:=
 ∀d:PD s.ps,jop (s.pre d) (ji7 C (A d) hk body ⟨kI s.ps d 0,[]⟩ () (jEs C fn s (s.F d)))
section
variable {P:Program} {C:Ctx}
theorem jyt (hC:C.ok P) (hm:P.follows .mixedOrders=true) {f:Nat} {fn:Func} {body:Code} {s:j7} (hf:P.funcs[f]? =some fn) (j:fn.body=some body) (I:(fn.name== "runtime.NumGoroutine")=false) (hn:fn.ntmps=C.n) (hps:s.ps.length<=C.n)
 {A:PD s.ps->ji0 Unit} {hk:jlk Unit} (N:∀B,jbC P C none hk (LvR B)/\jli P C none hk (LvR B)) (h:juu C s A hk fn body):zu P f s:=by
 unfold juu at h;refine⟨w9 hf j I,fun H w vals d hg hp R=> ?_⟩;have hlen:=v7 hp;refine(callsIn_wide (n:=0)).1 (callsIn_of_wp_marks hf j trivial ?_ rfl)
 let ρ:Env:=⟨H,fun _=>none,fun _=>0⟩
 let B:zV:=⟨w,H,[],fun _=>none,fun _=>0⟩
 have hS:Sat P B ρ (⟨kI s.ps d 0,[]⟩:St).obj w:=by
  refine⟨rfl,rfl,rfl,jG5 _,jG5 _,hg,fun _ _ _=>rfl,fun _ _ _=>rfl,?_,fun _ _=>rfl,?_,?_⟩
  .intro o x J;simp[St.obj,jD] at J
  .intro o o' b C1 C2 y;simp[ρ] at y
  .intro o b C1 y;simp[ρ] at y
 have M:jhW P B C.n [] ⟨kI s.ps d 0,[]⟩ {tmps:=vals.toArray++Array.replicate (fn.ntmps-vals.toArray.size) undef,defers:=[]} w:=by
  refine⟨_,(q8 _).symm,rfl,by simp;omega,ρ,hS,?_,fun o p _ j=>by simp[ρ] at j,fun _ _ j=>j⟩;intro k v hk;obtain⟨x,y,h2⟩:=wU (P:=P) (ρ:=ρ) s.ps vals d 0 hp k v hk;rw[jcE (x:=x) (by simpa using y)];exact h2
 have hL0:LvR B B [] ():=⟨⟨rfl,rfl,rfl,jG5 _,jG5 _,fun _ _ h=>h,fun b _ h=>⟨rfl,rfl,h⟩,fun b h=> .inr h,rfl,rfl⟩,List.nodup_nil,fun x J=>by simp at J⟩;refine kP (r:=none) hC hm (A d) hk (LvR B) (N B).1 (N B).2 body _ () _ _ _ w B [] (vw _ _ (h d) R) hL0 M (fun e σ ys a' w' B' ds hE Z hL hR=> ?_);obtain⟨G,rfl,q1,q2,ρ',q3,q4,q5⟩:=hR;obtain⟨i,Q⟩:=hL;have E:(match jpN C σ s.rs fn.results.toList with|some r=>r=s.F d|none=>False)->LeavesInM Fence.wide 0 P fn (yR ds G).tmps (jDr H w s.rs (s.F d)) (yR ds G).defers .returning w':=by
  intro hr
  split at hr
  case h_2=>exact hr.elim
  rename_i r S;have ed:(yR ds G).defers=ds:=(by simp[yR,q1]);have et:(yR ds G).tmps=G.tmps:=rfl;rw[ed,et];obtain⟨L,hf1⟩:∃L,L=jyv C σ s.rs fn.results.toList:=⟨_,rfl⟩;obtain⟨u,g,hle,hblk,hln⟩:=jX (σ:=σ) L q3;have z:∀x,x∈ds->∃D,x={target:= .collected D,args:= #[]}/\w.heap.size<=D/\D∉B'.bor/\D<B'.w.heap.size/\w'.heap[D]? =some (.deferred (some [])):=by
   intro x J;obtain⟨D,e,T,V,K⟩:=Q.2 x J;have O:=(jHc.1 K).1;exact⟨D,e,T,V,O,(g.old D O V).trans K⟩
  refine jez ds w' Q.1 (fun x J=> ?_) (fun w2 g1 g2 g3 X g4 Y=> ?_)
  .obtain⟨D,e,_,_,_,h⟩:=z x J;exact⟨D,e,h⟩
  have q:∀b,b<w.heap.size->({target:= .collected b,args:= #[]}:Deferred)∉ds:=by
   intro b j m;obtain⟨D,e,T,_⟩:=z _ m;simp at e;omega
  have t:∀o b W,u.blk o=some (some (b,W))->({target:= .collected b,args:= #[]}:Deferred)∉ds:=by
   intro o b W j m;obtain⟨D,e,_,_,_,h⟩:=z _ m;simp at e;subst e;exact(jiX (σ:=σ.frz L) g j).2 _ h
  have l:jbT u.H w2:=by
   refine⟨fun b c hc=> ?_,g.good.2⟩;have y:=g.good.1 b c hc;rw[Y b (fun m=> ?_)]
   .exact y
   .obtain⟨D,e,_,_,_,h⟩:=z _ m;simp at e;subst e;rw[h] at y;exact jdK y
  have hS3:=jcU (σ:=σ.frz L) g l (fun _ _ h=>h) (fun o b W j=>⟨Y b (t o b W j),rfl⟩);have hd:∀k,SV.den P {u with H:=u.H} (σ.get k) (G.tmps.getD k undef):=by
   intro k;have:=jO (P:=P) (a:=G) q4 (.tmp k);exact SV.den_mono hle _ _ (fun o ho=>by simp at ho) this
  obtain⟨vs,e1,e2⟩:=jek hC hS3 (w8 σ _) hd s.rs _ _ S (fun o ho=>by rw[hf1];exact ho);refine⟨_,vj e1,⟨_,u.H,rfl,⟨⟨g1.trans (g.os.trans i.os),g2.trans (g.tape.trans i.tape),g3.trans (g.output.trans i.output),?_,fun b j=> ?_⟩,l,fun b j=> ?_,jHi (jHi i.drawn g.drawn) X⟩,?_⟩⟩
  .rw[g4];exact jHi i.size g.size
  .obtain⟨T,V,K⟩:=i.old b j (by simp[B]);rw[Y b (q b j)];exact(g.old b (jH1 j i.size) K).trans T
  .obtain⟨T,V,K⟩:=i.old b j (by simp[B]);exact(g.oldH b (jH1 j i.size) K).trans V
  .rw[<-hr];exact jyu e2
 cases e with
 |normal=>exact E Z
 |ret=>exact E Z
 |exit id=>exact Z.elim
end
end Go.X
namespace Go.X
open Go.RowKit (Below)
open Go.Sort (HoldsK putRowK flatK SWO PermIn SortedIn)
theorem jpS {H:Imm}:∀(t:Ty) (f:Nat->Option Value) (d:t.Data),t.rd H f d->∀j,j<t.size->∃v,f j=some v/\v.oneCell'=true
 | .int,f,d,h,j,g=>by obtain rfl:j=0:=Nat.lt_one_iff.1 g;exact⟨_,h,rfl⟩
 | .bool,f,d,h,j,g=>by obtain rfl:j=0:=Nat.lt_one_iff.1 g;exact⟨_,h,rfl⟩
 | .uint _,f,d,h,j,g=>by obtain rfl:j=0:=Nat.lt_one_iff.1 g;exact⟨_,h,rfl⟩
 | .slice _,f,d,h,j,g=>by obtain rfl:j=0:=Nat.lt_one_iff.1 g;obtain⟨a,n,c,h,_⟩:=h;exact⟨_,h,rfl⟩
 | .map _ _,f,d,h,j,g=>by obtain rfl:j=0:=Nat.lt_one_iff.1 g;obtain⟨p,h,_⟩:=h;exact⟨_,h,rfl⟩
 | .ptr _,f,d,h,j,g=>by obtain rfl:j=0:=Nat.lt_one_iff.1 g;obtain⟨p,h,_⟩:=h;exact⟨_,h,rfl⟩
 | .unit,f,d,h,j,g=>by simp[Ty.size] at g
 | .pair a b,f,d,h,j,g=>by
  simp only[Ty.size] at g
  by_cases i:j<a.size
  .exact jpS a f d.1 h.1 j i
  .obtain⟨v,e,k⟩:=jpS b _ d.2 h.2 (j-a.size) (by omega)
   exact⟨v,by rw[<-e];congr 1;omega,k⟩
theorem jtu {w w':World} (h:Below w.heap.size w w') (f:w.drawn<=w'.drawn):∃q d,w'=Go.Sort.grow (w.drewN q) d:=by
 refine⟨w'.drawn-w.drawn,w'.heap.extract w.heap.size w'.heap.size,?_⟩;obtain⟨a,e,b,d,c⟩:=w';have g:d=w.os:=h.os;have i:e=w.tape:=h.tape;have j:c=w.output:=h.output;have o:w.heap.size<=a.size:=h.size;have l:∀k,k<w.heap.size->a[k]? =w.heap[k]? :=h.block;have f:w.drawn<=b:=f;subst g i j;have n:a=w.heap++a.extract w.heap.size a.size:=by
  apply Array.ext_getElem?;intro k;by_cases hk:k<w.heap.size
  .rw[jHQ hk];exact l k hk
  .rw[Array.getElem?_append_right (by omega),Array.getElem?_extract];by_cases m:k<a.size
   .rw[if_pos (by omega)];congr 1;omega
   .rw[if_neg (by omega),Array.getElem?_eq_none (by omega)]
 simp only[Go.Sort.grow,World.drewN];rw[show w.drawn+(b-w.drawn)=b by omega];congr 1
section
variable {t:Ty}
structure LE (H:Imm) (t:Ty) (l:List t.Data) where
 cs:List Value
 d:t.Data
 mem:d∈l
 len:cs.length=t.size
 rd:t.rd H (fun j=>cs[j]?) d
variable {H:Imm} {l:List t.Data}
theorem LE.one (x:LE H t l):∀v,v∈x.cs->v.oneCell'=true:=by
 intro v f;obtain⟨j,b,e⟩:=List.mem_iff_getElem.1 f;obtain⟨u,a,c⟩:=jpS t _ x.d x.rd j (by rw[<-x.len];exact b);rw[jG8 b,e] at a;simp at a;subst a;exact c
theorem LE.rv (a:t.agg=true) (x:LE H t l):t.rv H (.agg x.cs.toArray) x.d:=
 ⟨by rw[a];rfl,by show x.cs.toArray.size=_;simp[x.len],Ty.rd_congr t _ _ _ (fun j _=>by show x.cs[j]? =x.cs.toArray[j]?;simp) x.rd⟩
def cfL (F:(Ty.st [t,t]).Data->(Ty.st [.int]).Data) (x y:LE H t l):Int:=(F (x.d,y.d,())).1
theorem ltL {F:(Ty.st [t,t]).Data->(Ty.st [.int]).Data} (x y:LE H t l):Go.Proofs.ltOf (cfL F) x y=U.ji t F x.d y.d:=rfl
theorem jGS {F:(Ty.st [t,t]).Data->(Ty.st [.int]).Data} (h:kZ (U.ji t F) l):SWO (Go.Proofs.ltOf (cfL F:LE H t l->LE H t l->Int)) where
 irrefl x:=by rw[ltL];exact h.irrefl _ x.mem
 trans x y z h1 h2:=by rw[ltL] at*;exact h.trans _ _ _ x.mem y.mem z.mem h1 h2
 ntrans x y z h1 h2:=by rw[ltL] at*;exact h.ntrans x.mem y.mem z.mem h1 h2
variable [Inhabited (LE H t l)]
theorem jjv {w:World} {b n:Nat} {d:Array (LE H t l)} {os:Array Obj}:w.grownBy (Go.Proofs.sortWorldK LE.cs t.size w b 0 n d os) (some b):=by
 refine⟨rfl,rfl,rfl,?_,fun k hk c=> ?_⟩
 .unfold Go.Proofs.sortWorldK Go.Sort.grow Go.Sort.putRowK Go.Sort.putRow Go.Sort.mapBlock Go.Sort.ahead;simp
 .have a:b≠k:=fun e=>c (by rw[e])
  unfold Go.Proofs.sortWorldK Go.Sort.grow Go.Sort.putRowK Go.Sort.putRow Go.Sort.mapBlock Go.Sort.ahead;simp only;rw[jHQ (by simpa using hk),jHW,if_neg a]
theorem jsp {w:World} {b n:Nat} {d:Array (LE H t l)} {os:Array Obj}:w.drawn<=(Go.Proofs.sortWorldK LE.cs t.size w b 0 n d os).drawn:=by
 unfold Go.Proofs.sortWorldK Go.Sort.grow Go.Sort.putRowK Go.Sort.putRow Go.Sort.mapBlock Go.Sort.ahead;simp
theorem jqF {w:World} {b n:Nat} {d:Array (LE H t l)} {os:Array Obj} (f:jbT H w) (i:H b=none):jbT H (Go.Proofs.sortWorldK LE.cs t.size w b 0 n d os):=by
 refine⟨fun k c a=> ?_,f.2⟩;have g:=jjv (w:=w) (b:=b) (n:=n) (d:=d) (os:=os);have h:b≠k:=fun e=>by subst e;rw[i] at a;cases a
 rw[g.block k (f.lt a) (fun e=>h (by simp at e;exact e.symm))];exact f.1 k c a
theorem jEF {P:Program} (q:t.agg=true) {F:(Ty.st [t,t]).Data->(Ty.st [.int]).Data} {pre:(Ty.st [t,t]).Data->List Prop} {g:Nat} {j:Array Value} {w:World} {b size:Nat} (z:jbT H w) (r:H b=none)
 (u:∀H' w vals x,(∀b c,H b=some c->H' b=some c)->jbT H' w->rvs H' [t,t] vals x->k8 (pre x)->Calls P g (vals.toArray++j) w (jDr H' w [.int] (F x)))
 (a:∀x,x∈l->∀y,y∈l->k8 (pre (x,y,()))):Go.Proofs.CmpLays P g j (LE.cs:LE H t l->List Value) t.size (cfL F) b 0 size w:=by
 intro m os k _ x y;have f:=jqF (n:=m) (d:=k) (os:=os) z r;have:=u H _ [.agg x.cs.toArray,.agg y.cs.toArray] (x.d,y.d,()) (fun _ _ h=>h) f ⟨x.rv q,y.rv q,rfl⟩ (a _ x.mem _ y.mem);refine Calls.mono (R:=jDr H (Go.Proofs.sortWorldK LE.cs t.size w b 0 m k os) [.int] (F (x.d,y.d,()))) this fun e w' s=> ?_
 obtain⟨v,H',rfl,p,i⟩:=s;refine⟨?_,jtu p.below p.drawn⟩;have i:Ty.int.rv H' v (F (x.d,y.d,())).1:=i;have o:=zp (t:= .int) rfl i;simp only[Ty.rd,Option.some.injEq] at o;rw[o];rfl
theorem jFG {w:World} {b E:Nat} {vs:Array Value} {d:Array (LE H t l)} (c:0<t.size) (m:w.heap[b]? =some (.cells vs E (0,0))) (n:∀(i:Nat) (y:LE H t l),d[i]? =some y->∀j,j<t.size->vs[i*t.size+j]? =y.cs[j]?):HoldsK LE.cs t.size w b 0 d:=by
 intro k hk;have a:k<d.size*t.size:=(by simpa using hk);have hi:k/t.size<d.size:=(Nat.div_lt_iff_lt_mul c).2 a;have h:=Nat.mod_lt k c;have e:=n (k/t.size) d[k/t.size]! (by rw[getElem!_pos d _ hi];exact jHv hi) (k%t.size) h;rw[show k/t.size*t.size+k%t.size=k by rw[Nat.mul_comm];exact Nat.div_add_mod k t.size] at e;have g:=d[k/t.size]!.len;obtain⟨u,f,o⟩:=jpS t _ _ d[k/t.size]!.rd (k%t.size) h;rw[Go.Sort.get_flatK _ _ _ k a,jH7,jk5 m,e];refine⟨?_,by simp[World.frozen?,m]⟩;rw[f,getElem!_def,f]<;>rfl
theorem jsl {w:World} {b n E:Nat} {vs:Array Value} {d:Array (LE H t l)} {os:Array Obj} (f:0<t.size) (m:w.heap[b]? =some (.cells vs E (0,0))) (q:d.size*t.size<=vs.size):
 ∃a:Array Value,(Go.Proofs.sortWorldK LE.cs t.size w b 0 n d os).heap[b]? =some (.cells a E (0,0))/\a.size=vs.size/\∀(i:Nat) (y:LE H t l),d[i]? =some y->∀j,j<t.size->a[i*t.size+j]? =y.cs[j]? :=by
 have e:b<w.heap.size:=(jHc.1 m).1;refine⟨Go.Sort.putCells id 0 (flatK LE.cs t.size d) vs,?_,by simp[Go.Sort.putCells],fun i y g j c=> ?_⟩
 .unfold Go.Proofs.sortWorldK Go.Sort.grow Go.Sort.putRowK Go.Sort.putRow Go.Sort.mapBlock Go.Sort.ahead;simp only;rw[jHQ (by simpa using e),jHW,if_pos rfl,m];rfl
 .have hi:i<d.size:=(jHc.1 g).1;have k:i*t.size+j<d.size*t.size:=by
   have:(i+1)*t.size<=d.size*t.size:=jHm _ hi;rw[jHM] at this;omega
  have r:i*t.size+j<vs.size:=(by omega);have o:(i*t.size+j)/t.size=i:=by
   rw[Nat.mul_comm,Nat.mul_add_div f,Nat.div_eq_of_lt c,jIh]
  have p:(i*t.size+j)%t.size=j:=by
   rw[Nat.mul_comm,Nat.mul_add_mod,Nat.mod_eq_of_lt c]
  unfold Go.Sort.putCells;rw[Array.getElem?_mapIdx,jHv r];simp only[Option.map_some,jHd,jH7,true_and,Go.Sort.size_flatK,k,if_true,Nat.sub_zero,id];rw[Go.Sort.get_flatK _ _ _ _ k,o,p];have:d[i]! =y:=by
   rw[getElem!_pos d i hi];rw[jHv hi] at g;simpa using g
  rw[this];obtain⟨u,h,_⟩:=jpS t _ _ y.rd j c;rw[h,getElem!_def,h]<;>rfl
theorem jsm {F:(Ty.st [t,t]).Data->(Ty.st [.int]).Data} (n:kZ (U.ji t F) l) {d a:Array (LE H t l)} (m:d.toList.map LE.d=l) (o:PermIn 0 d.size d a) (p:SortedIn (Go.Proofs.ltOf (cfL F)) 0 d.size a):
 a.toList.map LE.d=U.jd (U.ji t F) l:=by
 obtain⟨q,_,r⟩:=o;have b:a.toList.Perm d.toList:=by
  have h:d.extract 0 d.size=d:=(by simp);have k:a.extract 0 d.size=a:=by rw[<-q];simp
  rwa [h,k] at r
 have f:=b.map LE.d;rw[m] at f;refine jpB n f ?_;unfold jvo;rw[jH5];intro i j hi g c;simp only[jH6,jHA] at hi g;have e:=p i j (jHd _) c (by omega);rw[ltL,getElem!_pos a j g,getElem!_pos a i hi] at e;simpa using e
end
theorem jsq {P:Program} {q:Go.Shelf.Ren} (L:Go.Proofs.SlLaysF0.n6 P q) {t:Ty} (E:Nat) (ht:t.agg=true) (Q:0<t.size) (aE:∀w,(isAgg (q.t 24)).run P w= .ok true w) (zE:∀w,(Go.sizeOf (q.t 24)).run P w= .ok t.size w)
 (hen:enters P (q.f 6)):qa P (q.f 6) (jC1 t E):=by
 refine⟨hen,fun H w vals d bs hg c M O=> ?_⟩;obtain⟨l,u,⟨⟩⟩:=d;obtain⟨Y,W,_⟩:=O;have Y:∀x,x∈l->∀y,y∈l->k8 (u.pre (x,y,())):=fun x T y o=>(jvh _).1 (Y x T y o)
 have W:kZ (U.ji t u.F) l:=W
 match vals,c with
 |[],c=>exact c.elim
 |[_],c=>obtain⟨_,_,_,_,c⟩:=c;exact c.elim
 |v::fv::_::_,c=>
  obtain⟨_,_,_,_,_,_,_,_,c⟩:=c;have:=c.1;cases this
 |[v,fv],c=>
  obtain⟨X,b2,rfl,J,c1,c2,rfl,⟨hfv,rfl⟩,_,rfl⟩:=c;simp only[jHw] at M⊢;have ha0:ClV H w (.row E t .unk) v l X:=J;obtain⟨A,B⟩:=J;obtain⟨g,cb,rfl,hge,G⟩:=hfv;by_cases I:l=[]
  .subst I;obtain⟨p,D,rfl⟩:∃p D,v= .slice p 0 D:=by
    rcases B with⟨rfl,_⟩|⟨b,C,vs,rfl,_⟩
    .exact⟨_,_,rfl⟩
    .exact⟨_,_,rfl⟩
   refine(Go.Proofs.AnyF.slices_SortFunc_none L p D (.func (.func g) #[] cb) w).mono fun e w' he=> ?_
   obtain⟨rfl,rfl⟩:=he;exact⟨[],H,[],X,rfl,⟨rfl,rfl,rfl,jG5 _,jG5 _,fun _ _ _=>rfl,fun _ _ _=>rfl,hg⟩,⟨rfl,rfl⟩,⟨X,[],by simp,ha0,rfl⟩,by simpa using M,fun b hb=> .inl (by simpa using hb)⟩
  .rcases B with⟨_,e,_⟩|⟨b,C,vs,rfl,rfl,hH,_,hw,S,s,Z,hr⟩
   .exact absurd e I
   have s:l.length<=C:=s;have h:∀i,i<l.length->∀j,j<t.size->i*t.size+j<vs.size:=by
    intro i hi j z;have h3:(i+1)*t.size<=C*t.size:=jHm _ (by omega);rw[jHM] at h3;omega
   let mk:(i:Fin l.length)->LE H t l:=fun i=>⟨(List.range t.size).map (fun j=>vs[i.1*t.size+j]?.getD undef),l[i.1],List.getElem_mem _,by simp,by
    refine Ty.rd_congr t _ _ _ (fun j z=> ?_) (hr i.1 l[i.1] (jG8 i.2));rw[jIj,List.getElem?_range z,Option.map_some,jHv (h i.1 i.2 j z)];rfl⟩
   haveI:Inhabited (LE H t l):=⟨mk ⟨0,Nat.pos_of_ne_zero (fun e=>I (jHL e))⟩⟩
   obtain⟨d,r,hdm,hdc⟩:∃d:Array (LE H t l),d.size=l.length/\d.toList.map LE.d=l/\∀(i:Nat) (y:LE H t l),d[i]? =some y->∀j,j<t.size->vs[i*t.size+j]? =y.cs[j]? :=by
    refine⟨Array.ofFn mk,by simp,?_,fun i y o j z=> ?_⟩
    .apply List.ext_getElem
     .simp
     .intro i hi1 hi2;simp[mk]
    .have hi:i<l.length:=(by have:=(jHc.1 o).1;simpa using this);have:mk ⟨i,hi⟩=y:=by
      have:=(jHc.1 o).2;simpa using this
     subst this;show _=((List.range t.size).map (fun j=>vs[i*t.size+j]?.getD undef))[j]?;rw[jIj,List.getElem?_range z,Option.map_some,jHv (h i hi j z)];rfl
   have key:=Go.Proofs.AnyQ.slices_SortFunc L t.size aE zE (LE.cs:LE H t l->List Value) LE.len (fun x=>x.one) (cfL u.F) (jGS W) g cb b 0 C d w hge (jEF ht hg hH G Y) (jFG Q hw hdc) (jHc.1 hw).1 (by rw[r];exact A);rw[r] at key;refine Calls.mono (R:=_) key fun e w' he=> ?_
   obtain⟨rfl,V,n,os,hp,hs,rfl⟩:=he;rw[<-r] at hp hs;have N:=jsm W hdm hp hs;have K:V.size=d.size:=hp.1;obtain⟨vs2,k1,k2,k3⟩:=jsl (n:=n) (os:=os) (d:=V) Q hw (by
    rw[K,r,S];exact jHm _ s)
   have m:=jjv (w:=w) (b:=b) (n:=n) (d:=V) (os:=os);have a:(U.jd (U.ji t u.F) l).length=l.length:=(zB _).length_eq;refine⟨[],H,[],[b],rfl,⟨m.os,m.tape,m.output,jsp,m.size,fun k hk hb=>m.block k hk (fun e=>by simp at e;subst e;simp at hb),fun _ _ _=>rfl,jqF hg hH⟩,⟨rfl,rfl⟩,⟨[b],[],rfl,?_,rfl⟩,by simp,fun b' hb'=> .inl (by simpa using hb')⟩;show ClV H _ (.row E t .unk) _ (U.jd (U.ji t u.F) l) [b];refine⟨by rw[a];exact A,.inr ⟨b,C,vs2,by rw[a],rfl,hH,(fun e=>by cases e),k1,by rw[k2];exact S,by rw[a];exact s,Z,fun i y o=> ?_⟩⟩;rw[<-N,jIj,jHN] at o;cases T:V[i]? with
   |none=>rw[T] at o;cases o
   |some x=>
    rw[T] at o;simp at o;subst o;exact Ty.rd_congr t _ _ _ (fun j z=>(k3 i x T j z).symm) x.rd
end Go.X
namespace Go.X
open Go.RowKit (Below)
open Go.Sort (Holds putRow)
namespace U
def jfu (l:List Int):List Int:=l.mergeSort fun x y=>decide (x<=y)
end U
theorem jgP (l:List Int):(U.jfu l).Perm l:=List.mergeSort_perm l _
theorem jx9 (l:List Int):(U.jfu l).Pairwise (fun a b=>a<=b):=by
 have:=List.pairwise_mergeSort (le:=fun(x y:Int)=>decide (x<=y)) (fun a b c d e=>by simp at*;omega) (fun a b=>by simp;omega) l;exact this.imp (fun h=>by simpa using h)
theorem jdO:∀{a b:List Int},a.Perm b->a.Pairwise (fun x y=>x<=y)->b.Pairwise (fun x y=>x<=y)->a=b
 |[],b,c,_,_=>(List.perm_nil.1 c.symm).symm
 |x::r,[],c,_,_=>absurd c.length_eq (by simp)
 |x::r,y::s,c,ha,hb=>by
  have d:=jHS.1 ha
  have f:=jHS.1 hb
  have j:y∈x::r:=c.mem_iff.2 (by simp)
  have i:x∈y::s:=c.mem_iff.1 (by simp)
  have e:x=y:=by
   rcases jG4.1 j with e|h
   .exact e.symm
   .rcases jG4.1 i with e|g
    .exact e
    .have k:=d.1 y h;have l:=f.1 x g;omega
  subst e;rw[jdO (List.Perm.cons_inv c) d.2 f.2]
def jyb (E:Nat):zP:=⟨[.own (.cl (.row E .int .unk)) true],[],fun _=>[],fun d=>((),(U.jfu d.1,()))⟩
theorem jBh {P:Program} {B:Go.Shelf.Ren} (L:Go.Proofs.Lays.n189 P B) (E:Nat) (hen:enters P (B.f 189)):qa P (B.f 189) (jyb E):=by
 refine⟨hen,fun H w vals d bs O j K _=> ?_⟩;obtain⟨l,⟨⟩⟩:=d
 match vals,j with
 |[],j=>exact j.elim
 |v::fv::_,j=>
  obtain⟨_,_,_,_,j⟩:=j;have:=j.1;cases this
 |[v],j=>
  obtain⟨N,b2,rfl,F,_,rfl⟩:=j;simp only[jHw] at K⊢;have V:ClV H w (.row E .int .unk) v l N:=F;obtain⟨h,q⟩:=F;have h:l.length<4611686018427387904:=h;by_cases I:l=[]
  .subst I;obtain⟨p,r,rfl⟩:∃p r,v= .slice p 0 r:=by
    rcases q with⟨rfl,_⟩|⟨b,C,vs,rfl,_⟩
    .exact⟨_,_,rfl⟩
    .exact⟨_,_,rfl⟩
   refine(Go.Proofs.Any.slices_Sort_int_none L p r w).mono fun e w' he=> ?_
   obtain⟨rfl,rfl⟩:=he;exact⟨[],H,[],N,rfl,⟨rfl,rfl,rfl,jG5 _,jG5 _,fun _ _ _=>rfl,fun _ _ _=>rfl,O⟩,⟨rfl,rfl⟩,⟨N,[],by simp,(by
    have e0:U.jfu []=[]:=List.perm_nil.1 (jgP []);show ClV H _ (.row E .int .unk) _ (U.jfu []) N;rw[e0];exact V),rfl⟩,by simpa using K,fun b G=> .inl (by simpa using G)⟩
  .rcases q with⟨_,e,_⟩|⟨b,C,vs,rfl,rfl,hH,_,Q,A,u,S,hr⟩
   .exact absurd e I
   have u:l.length<=C:=u;have A:vs.size=C:=(by rw[A];exact Nat.mul_one C);have s:∀(i:Nat) (y:Int),l[i]? =some y->vs[i]? =some (.int .i64 y):=fun i y o=>by
    have:=hr i y o;simpa[Ty.rd,Ty.size] using this
   have J:b<w.heap.size:=(jHc.1 Q).1;refine Calls.mono (R:=_) (Go.Proofs.Any.slices_Sort_int L b 0 C l w ?_ J h) fun e w' he=> ?_
   .intro i hi;have hi:i<l.length:=(by simpa using hi);have h1:=s i l[i] (jG8 hi);rw[jH7,jk5 Q,h1];refine⟨?_,by simp[World.frozen?,Q]⟩;simp[getElem!_pos l.toArray i (by simpa using hi)]
   .obtain⟨rfl,n,os,rfl⟩:=he;have a:(U.jfu l).length=l.length:=(jgP _).length_eq;obtain⟨d,Y⟩:∃d,d=U.jfu l:=⟨_,rfl⟩;have Z:(l.mergeSort fun x y=>decide (x<=y))=d:=(by rw[Y];rfl);rw[Z];rw[<-Y] at a;obtain⟨W,T⟩:∃W,W=Go.Sort.grow (putRow (Value.int .i64) (Go.Sort.ahead w n) b 0 d.toArray) os:=⟨_,rfl⟩;rw[<-T];have g:w.grownBy W (some b)/\w.drawn<=W.drawn:=by
     rw[T];refine⟨⟨rfl,rfl,rfl,?_,fun k hk G=> ?_⟩,?_⟩
     .unfold Go.Sort.grow Go.Sort.putRow Go.Sort.mapBlock Go.Sort.ahead;simp
     .have z:b≠k:=fun e=>G (by rw[e])
      unfold Go.Sort.grow Go.Sort.putRow Go.Sort.mapBlock Go.Sort.ahead;simp only;rw[jHQ (by simpa using hk),jHW,if_neg z]
     .unfold Go.Sort.grow Go.Sort.putRow Go.Sort.mapBlock Go.Sort.ahead;simp
    have M:∃D:Array Value,W.heap[b]? =some (.cells D E (0,0))/\D.size=vs.size/\∀(i:Nat) (y:Int),d[i]? =some y->D[i]? =some (.int .i64 y):=by
     rw[T];refine⟨Go.Sort.putCells (Value.int .i64) 0 d.toArray vs,?_,by simp[Go.Sort.putCells],fun i y o=> ?_⟩
     .unfold Go.Sort.grow Go.Sort.putRow Go.Sort.mapBlock Go.Sort.ahead;simp only;rw[jHQ (by simpa using J),jHW,if_pos rfl,Q];rfl
     .have hi:i<d.length:=(jG6.1 o).1;unfold Go.Sort.putCells;rw[Array.getElem?_mapIdx,jHv (show i<vs.size by omega)];have e:d.toArray[i]! =y:=by
       rw[getElem!_pos d.toArray i (by simpa using hi)];rw[jG8 hi] at o;simpa using o
      simp[hi];rw[jG8 hi] at o;simpa using o
    obtain⟨vs2,k1,k2,k3⟩:=M;have t:jbT H W:=by
     refine⟨fun k c m=> ?_,O.2⟩;have z:b≠k:=fun e=>by subst e;rw[hH] at m;cases m
     rw[g.1.block k (O.lt m) (fun e=>z (by simp at e;exact e.symm))];exact O.1 k c m
    refine⟨[],H,[],[b],rfl,⟨g.1.os,g.1.tape,g.1.output,g.2,g.1.size,fun k hk G=>g.1.block k hk (fun e=>by simp at e;subst e;simp at G),fun _ _ _=>rfl,t⟩,⟨rfl,rfl⟩,⟨[b],[],rfl,?_,rfl⟩,by simp,fun b' X=> .inl (by simpa using X)⟩;show ClV H _ (.row E .int .unk) _ (U.jfu l) [b];rw[<-Y];refine⟨by rw[a];exact h,.inr ⟨b,C,vs2,by rw[a],rfl,hH,(fun e=>by cases e),k1,by rw[k2,A];exact(Nat.mul_one C).symm,by rw[a];exact u,S,fun i y o=> ?_⟩⟩;have:=k3 i y o;simpa[Ty.rd,Ty.size] using this
end Go.X
