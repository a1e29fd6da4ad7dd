/-
  Part 4 of the road: a checked reading of bodies, and what the functions on it do (X24 X27 X28 X29 X30 X31 X32 X33 X34 X35 X36 X37 X38 X39 X40 X41 X42 X43 X44 X47 X45 X46).
-/
import Derived.Test.YtclaaimmhneipaaGreatDoorK03
import Derived.Laws.StructEq
import Derived.ChangeKeysEq
import Derived.TacticsIn
import Derived.OrdersIn
import Derived.RangeFuncIn
import Derived.RangeFuncRecord
import Derived.RangeFuncSeq
import Derived.RangeFuncLeaves
import Derived.Shelf.SlSortCmp.NoneTotal
import Derived.Shelf.SlSortCmp.WholeK
import Derived.Shelf.Sort.Plain
import Derived.Shelf.Slices.In.SortNone
namespace Go.X
open Go.RowKit (Below)
def iR (a b:IntKind):Bool:=decide (a=b)
def IL:Value->Value->Bool
 | .int k n,.int k' e=>(match iR k k' with|true=>decide (n=e)|false=>false)
 | .bool b,.bool c=>(match b,c with|true,true=>true|false,false=>true|_,_=>false)
 | .slice none a b,.slice none d c=>(match Nat.beq a d,Nat.beq b c with|true,true=>true|_,_=>false)
 | .pointer none,.pointer none=>true
 | .map none,.map none=>true
 | .nilFunc,.nilFunc=>true
 | .nilIface,.nilIface=>true
 |_,_=>false
theorem iS {a b:Value} (h:IL a b=true):a=b:=by
 unfold IL at h
 split at h
 split at h
 rename_i hk;simp[iR] at hk h;rw[hk,h];cases h;rename_i x y;cases x<;>cases y<;>simp_all
 split at h
 rename_i c d;rw[jb c,jb d];cases h;rfl;rfl;rfl;rfl;cases h
def Q9:List Value->List Value->Bool
 |[],[]=>true
 |a::r,b::s=>(match IL a b with|true=>Q9 r s|false=>false)
 |_,_=>false
theorem K7:∀{a b:List Value},Q9 a b=true->a=b
 |[],[],_=>rfl
 |a::r,b::s,h=>by
  simp only[Q9] at h
  split at h
  rename_i c;rw[iS c,K7 h]
  cases h
 |[],_::_,h=>by cases h
 |_::_,[],h=>by cases h
def jfJ:Bool->Bool->Bool
 |true,true=>true
 |false,false=>true
 |_,_=>false
theorem VJ {a b:Bool} (h:jfJ a b=true):a=b:=by cases a<;>cases b<;>simp_all [jfJ]
def ow:List Field->List (Nat×Nat)->Bool
 |[],[]=>true
 |f::r,p::s=>(match Nat.beq f.offset p.1,Nat.beq f.type p.2 with|true,true=>ow r s|_,_=>false)
 |_,_=>false
theorem th:∀{a:List Field} {b:List (Nat×Nat)},ow a b=true->a.length=b.length/\∀(k:Nat) (p:Nat×Nat),b[k]? =some p->∃f:Field,a[k]? =some f/\f.offset=p.1/\f.type=p.2
 |[],[],_=>⟨rfl,fun k p h=>by simp at h⟩
 |f::r,q::s,h=>by
  simp only[ow] at h
  split at h
  rename_i d e
  obtain⟨c,e2⟩:=th h
  refine⟨by simp[c],fun k p hk=> ?_⟩
  cases k with
  |zero=>simp at hk;subst hk;exact⟨f,by simp,jb d,jb e⟩
  |succ k=>simpa using e2 k p (by simpa using hk)
  cases h
 |[],_::_,h=>by cases h
 |_::_,[],h=>by cases h
def K8 (P:Program) (go:Nat->Ty->Bool):List Field->Nat->Ty->Bool
 |[],_,.unit=>true
 |f::fs,off,.pair a b=>match f.name== "_",Nat.beq f.offset off,P.info? f.type,go f.type a with
  |false,true,some i,true=>(match Nat.beq i.size a.size with|true=>K8 P go fs (off+a.size) b|false=>false)
  |_,_,_,_=>false
 |_,_,_=>false
def fw (P:Program):Nat->Nat->Ty->Bool
 |0,_,_=>false
 |d+1,T,ty=>match ty,P.underlying T with
  | .int,some (.int .i64)=>true
  | .bool,some .bool=>true
  | .uint k,some (.int k')=>iR k k'
  | .pair a b,some (.struct fs)=>(match P.stoodInHeld T with|false=>K8 P (fw P d) fs.toList 0 (.pair a b)|true=>false)
  |_,_=>false
section
variable {P:Program}
def jbr (P:Program) (D T:Nat) (ty:Ty):Prop:=∀(H:Imm) (w:World) (x y:Value) (a b:ty.Data),ty.rv H x a->ty.rv H y b->(Op.equalIn D T x y).run P w= .ok (@decide (a=b) (ty.decEq a b)) w
theorem Ra {a b:Ty} (x y:(Ty.pair a b).Data): @decide (x=y) ((Ty.pair a b).decEq x y)=(@decide (x.1=y.1) (a.decEq _ _)&& @decide (x.2=y.2) (b.decEq _ _)):=by
 have e:= @Prod.ext_iff _ _ x y;by_cases c:x.1=y.1<;>by_cases d:x.2=y.2
 rw[@jH _ (_) (e.2 ⟨c,d⟩),@jH _ (_) c,@jH _ (_) d];rfl;rw[@zz _ (_) (fun h=>d (e.1 h).2),@jH _ (_) c,@zz _ (_) d];rfl;rw[@zz _ (_) (fun h=>c (e.1 h).1),@zz _ (_) c];rfl;rw[@zz _ (_) (fun h=>c (e.1 h).1),@zz _ (_) c];rfl
theorem VK {d T:Nat} {ty:Ty} (h:fw P d T ty=true) (w:World):(isAgg T).run P w= .ok ty.agg w:=by
 cases d with
 |zero=>cases h
 |succ d=>
  unfold fw at h
  split at h
  rename_i e;simp[isAgg,jE e,Ty.agg];rename_i e;simp[isAgg,jE e,Ty.agg];rename_i e;simp[isAgg,jE e,Ty.agg];rename_i e;simp[isAgg,jE e,Ty.agg];cases h
theorem Oz {d T off:Nat} {ty:Ty} {i:TypeInfo} (h:fw P d T ty=true) (hi:P.info? T=some i) (k:i.size=ty.size) {H:Imm} {xs:Array Value} {x:ty.Data} (f:ty.rd H (fun j=>xs[off+j]?) x)
 (e:off+ty.size<=xs.size) (w:World):∃v,(part T xs off).run P w= .ok v w/\ty.rv H v x:=by
 have c:=VK h w;have e2:(sizeOf T).run P w= .ok ty.size w:=(by simp[sizeOf,typeInfo,hi,k]);cases b:ty.agg with
 |true=>
  refine⟨.agg (xs.extract off (off+ty.size)),?_,?_,?_,?_⟩;rw[b] at c;simp[part,c,e2];simp[vN,b];simp[Value.cells];omega;refine Ty.rd_congr ty _ _ _ (fun j g=> ?_) f;simp only[Value.cells];rw[Array.getElem?_extract];rw[jd (by omega)]
 |false=>
  have l:ty.size=1:=by
   cases d with
   |zero=>cases h
   |succ d=>
    unfold fw at h
    split at h<;>first|(cases h;done)|rfl|(simp[Ty.agg] at b;done)
  have a:xs[off]? =some xs[off]:=jX (by omega);refine⟨xs[off],?_,?_⟩;rw[b] at c;simp[part,c,a];exact vz b (Ty.rd_congr ty _ _ _ (fun j g=>by
   have:j=0:=(by omega);subst this;simp[a]) f)
theorem DT {d D:Nat} (e:∀T ty,fw P d T ty=true->jbr P D T ty) {H:Imm} {xs ys:Array Value} (w:World):∀(fs:List Field) (off:Nat) (ty:Ty),K8 P (fw P d) fs off ty=true->
 ∀x y:ty.Data,ty.rd H (fun j=>xs[off+j]?) x->ty.rd H (fun j=>ys[off+j]?) y->off+ty.size<=xs.size->off+ty.size<=ys.size->
  (Op.eqFields D xs ys fs).run P w= .ok (@decide (x=y) (ty.decEq x y)) w
 |[],off,ty,h,x,y,k,l,_,_=>by
  cases ty with
  |unit=>simp[Op.eqFields]
  |_=>cases h
 |f::fs,off,ty,h,x,y,k,l,hlx,hly=>by
  cases ty with
  |pair a b=>
   simp only[K8] at h
   split at h
   case h_2=>cases h
   rename_i i o p n g
   split at h
   case h_2=>cases h
   rename_i q
   have m:=jb q
   have e2:=jb p
   simp only[Ty.size] at hlx hly
   obtain⟨v,t,z⟩:=Oz (off:=off) g n m (xs:=xs) (x:=x.1) k.1 (by omega) w
   obtain⟨u,A,B⟩:=Oz (off:=off) g n m (xs:=ys) (x:=y.1) l.1 (by omega) w
   have r:=e _ _ g H w v u x.1 y.1 z B
   have s:=DT e w fs (off+a.size) b h x.2 y.2 (by
    refine Ty.rd_congr b _ _ _ (fun j _=> ?_) k.2
    rw[zP]) (by
    refine Ty.rd_congr b _ _ _ (fun j _=> ?_) l.2
    rw[zP]) (by omega) (by omega)
   have c:f.name≠ "_":=by simpa using o
   rw[Ra]
   unfold Op.eqFields
   rw[jd c,e2]
   simp only[jC,t,A,r,js,Sem.run_ite]
   cases C: @decide (x.1=y.1) (a.decEq x.1 y.1) with
   |true=>simpa using s
   |false=>simp
  |_=>cases h
theorem p9:∀(d:Nat) (T:Nat) (ty:Ty) (m:Nat),fw P d T ty=true->jbr P (d+m) T ty
 |0,_,_,_,h=>by cases h
 |d+1,T,ty,m,h=>by
  intro H w x y a b c f
  rw[show d+1+m=(d+m)+1 by omega]
  unfold fw at h
  split at h
  .rename_i e
   rw[w6 c,w6 f,run_equalIn_int w _ _ _ _ _ _ e]
   congr 1
  .rename_i e
   rw[qJ c,qJ f,run_equalIn_bool' w _ _ _ _ e]
   congr 1
  .rename_i k k' e
   rw[yQ c,yQ f,run_equalIn_int w _ _ _ _ _ _ e]
   congr 1
  .rename_i t u fs e
   split at h
   case h_2=>cases h
   rename_i g
   have l:P.underlying T=some (.struct (P.fieldsOf T)):=by simp[Program.fieldsOf,e]
   have n:(P.fieldsOf T)=fs:=by simp[Program.fieldsOf,e]
   obtain⟨o,p,i⟩:=c
   obtain⟨q,r,j⟩:=f
   have agg:∀{v:Value},vN v=true->∃vs,v= .agg vs:=fun{v} h=>by cases v<;>simp_all [vN]
   obtain⟨xs,rfl⟩:=agg o
   obtain⟨ys,rfl⟩:=agg q
   rw[run_equalIn_struct w _ _ _ _ l g,n]
   simp only[Value.cells] at p i r j
   exact DT (D:=d+m) (fun T ty h=>p9 d T ty m h) w fs.toList 0 _ h a b (by simpa using i) (by simpa using j) (by omega) (by omega)
  .cases h
def zIs:Ty->List Value->Option (List Value)
 | .unit,l=>some l
 | .pair a b,l=>match zIs a l with|some r=>zIs b r|none=>none
 | .int,v::r=>match IL v (.int .i64 0) with|true=>some r|false=>none
 | .uint k,v::r=>match IL v (.int k 0) with|true=>some r|false=>none
 | .bool,v::r=>match IL v (.bool false) with|true=>some r|false=>none
 | .slice _,v::r=>match IL v (.slice none 0 0) with|true=>some r|false=>none
 | .map _ _,v::r=>match IL v (.map none) with|true=>some r|false=>none
 | .ptr _,v::r=>match IL v (.pointer none) with|true=>some r|false=>none
 |_,[]=>none
theorem VL (H:Imm):∀(t:Ty) (l r:List Value),zIs t l=some r->∃us,l=us++r/\us.length=t.size/\t.rd H (fun i=>us[i]?) t.dflt
 | .unit,l,r,h=>by simp[zIs] at h;subst h;exact⟨[],rfl,rfl,trivial⟩
 | .pair a b,l,r,h=>by
  simp only[zIs] at h
  split at h
  rename_i d e
  obtain⟨us,rfl,g,j⟩:=VL H a l d e
  obtain⟨vs,rfl,m,n⟩:=VL H b d r h
  refine⟨us++vs,by simp,by simp[Ty.size,g,m],?_,?_⟩
  exact Ty.rd_congr a _ _ _ (fun i hi=>by rw[jA (by omega)]) j
  refine Ty.rd_congr b _ _ _ (fun i hi=> ?_) n
  simp only
  rw[jx (by omega)]
  congr 1;omega
  cases h
 | .int,[],r,h=>by cases h
 | .uint _,[],r,h=>by cases h
 | .bool,[],r,h=>by cases h
 | .slice _,[],r,h=>by cases h
 | .map _ _,[],r,h=>by cases h
 | .ptr _,[],r,h=>by cases h
 | .int,v::l,r,h=>by
  simp only[zIs] at h
  split at h
  rename_i c;simp at h;subst h;rw[iS c];exact⟨[_],rfl,rfl,rfl⟩
  cases h
 | .uint k,v::l,r,h=>by
  simp only[zIs] at h
  split at h
  rename_i c;simp at h;subst h;rw[iS c];exact⟨[_],rfl,rfl,rfl⟩
  cases h
 | .bool,v::l,r,h=>by
  simp only[zIs] at h
  split at h
  rename_i c;simp at h;subst h;rw[iS c];exact⟨[_],rfl,rfl,rfl⟩
  cases h
 | .slice _,v::l,r,h=>by
  simp only[zIs] at h
  split at h
  rename_i c;simp at h;subst h;rw[iS c];exact⟨[_],rfl,rfl,QS _⟩
  cases h
 | .map _ _,v::l,r,h=>by
  simp only[zIs] at h
  split at h
  rename_i c;simp at h;subst h;rw[iS c];exact⟨[_],rfl,rfl,none,rfl,fun _=>rfl,fun b f=>(by cases f)⟩
  cases h
 | .ptr _,v::l,r,h=>by
  simp only[zIs] at h
  split at h
  rename_i c;simp at h;subst h;rw[iS c];exact⟨[_],rfl,rfl,none,rfl,rfl⟩
  cases h
def jbt:Value->Prop
 | .int _ _=>True
 | .bool _=>True
 |_=>False
theorem F7 {n:Nat} {v:Value} (h:jbt v):Instr.sameBits n v v=true:=by
 cases v<;>first|exact h.elim|(cases n<;>simp[Instr.sameBits])
section
variable {P:Program}
def jcs (ty:Ty):Prop:=∀(H:Imm) (f g:Nat->Option Value) (d:ty.Data),ty.rd H f d->ty.rd H g d->∀i,i<ty.size->∃v,f i=some v/\g i=some v/\jbt v
theorem AQ {go:Nat->Ty->Bool} (c:∀T ty,go T ty=true->jcs ty):∀(fs:List Field) (off:Nat) (ty:Ty),K8 P go fs off ty=true->jcs ty
 |[],off,ty,h=>by
  cases ty with
  |unit=>intro H f g d _ _ i hi;simp[Ty.size] at hi
  |_=>cases h
 |f::fs,off,ty,h=>by
  cases ty with
  |pair a b=>
   simp only[K8] at h
   split at h
   case h_2=>cases h
   rename_i i t u w q
   split at h
   case h_2=>cases h
   intro H p g d l m j r
   simp only[Ty.size] at r
   by_cases k:j<a.size
   .exact c _ _ q H p g d.1 l.1 m.1 j k
   .obtain⟨v,n,o,s⟩:=AQ c fs _ b h H _ _ d.2 l.2 m.2 (j-a.size) (by omega)
    have e:a.size+(j-a.size)=j:=by omega
    rw[e] at n o
    exact⟨v,n,o,s⟩
  |_=>cases h
theorem K9:∀(d T:Nat) (ty:Ty),fw P d T ty=true->jcs ty
 |0,_,_,h=>by cases h
 |d+1,T,ty,h=>by
  unfold fw at h
  split at h
  .intro H f g d a b i hi
   have:i=0:=by simp[Ty.size] at hi;exact hi
   subst this;exact⟨_,a,b,trivial⟩
  .intro H f g d a b i hi
   have:i=0:=by simp[Ty.size] at hi;exact hi
   subst this;exact⟨_,a,b,trivial⟩
  .intro H f g d a b i hi
   have:i=0:=by simp[Ty.size] at hi;exact hi
   subst this;exact⟨_,a,b,trivial⟩
  .split at h
   case h_2=>cases h
   exact AQ (fun T ty h=>K9 d T ty h) _ _ _ h
  .cases h
def jey (P:Program) (D T:Nat) (ty:Ty):Prop:=∀(H:Imm) (w:World) (x:Value) (a:ty.Data) (e:Bool),ty.rv H x a->(Instr.checkKey e D T x).run P w= .ok () w
theorem Hu {d D:Nat} (g:∀T ty,fw P d T ty=true->jey P D T ty) {H:Imm} {xs:Array Value} (e:Bool) (w:World):∀(fs:List Field) (off:Nat) (ty:Ty),K8 P (fw P d) fs off ty=true->
 ∀x:ty.Data,ty.rd H (fun j=>xs[off+j]?) x->off+ty.size<=xs.size->(forIn (m:=Sem) fs PUnit.unit (fun f _=>
  if f.name≠ "_" then do
   let l <-part f.type xs f.offset
   Instr.checkKey e D f.type l
   pure (ForInStep.yield PUnit.unit)
  else pure (ForInStep.yield PUnit.unit))).run P w= .ok PUnit.unit w
 |[],off,ty,h,x,k,_=>by simp
 |f::fs,off,ty,h,x,k,hlx=>by
  cases ty with
  |pair a b=>
   simp only[K8] at h
   split at h
   case h_2=>cases h
   rename_i i p q r n
   split at h
   case h_2=>cases h
   rename_i s
   have o:=jb s
   have e2:=jb q
   simp only[Ty.size] at hlx
   obtain⟨v,y,z⟩:=Oz (off:=off) n r o (xs:=xs) (x:=x.1) k.1 (by omega) w
   have t:=g _ _ n H w v x.1 e z
   have u:=Hu g e w fs (off+a.size) b h x.2 (by
    refine Ty.rd_congr b _ _ _ (fun j _=> ?_) k.2
    rw[zP]) (by omega)
   have c:f.name≠ "_":=by simpa using p
   rw[List.forIn_cons]
   simp only[jC,jd c,e2,y,js,t,jT]
   exact u
  |_=>cases h
theorem DU:∀(d:Nat) (T:Nat) (ty:Ty) (m:Nat),fw P d T ty=true->jey P (d+m) T ty
 |0,_,_,_,h=>by cases h
 |d+1,T,ty,m,h=>by
  intro H w x a e b
  rw[show d+1+m=(d+m)+1 by omega]
  unfold fw at h
  split at h
  .rename_i u
   rw[w6 b];simp[Instr.checkKey,jE u]
  .rename_i u
   rw[qJ b];simp[Instr.checkKey,jE u]
  .rename_i u
   rw[yQ b];simp[Instr.checkKey,jE u]
  .rename_i t u fs f
   split at h
   case h_2=>cases h
   obtain⟨g,i,c⟩:=b
   have agg:∀{v:Value},vN v=true->∃vs,v= .agg vs:=fun{v} h=>by cases v<;>simp_all [vN]
   obtain⟨xs,rfl⟩:=agg g
   simp only[Value.cells] at i c
   have:=Hu (D:=d+m) (fun T ty h=>DU d T ty m h) e w fs.toList 0 _ h a (by simpa using c) (by omega)
   unfold Instr.checkKey
   simp only[jC,jE f,js]
   rw[<-Array.forIn_toList,this]
   rfl
  .cases h
theorem DV {H:Imm} (a:Int):∀(es:List MapEntry) (ks:List Int) (i:Nat),Ha H .int es ks->Instr.findNow (.int .i64) (.int .i64 a) es i=some (bU .int a ks es i)
 |[],[],i,_=>rfl
 |[],_::_,_,h=>h.elim
 |_::_,[],_,h=>h.elim
 |e::es,k::ks,i,h=>by
  have b:=w6 h.1
  simp only[Instr.findNow,b,Instr.sameNow,if_true,bU]
  by_cases hk:a=k
  have:(a==k)=true:=by simpa using hk
  rw[this,jd (by simpa using hk)]
  have:(a==k)=false:=by simpa using hk
  rw[this,jc (by simpa using hk)]
  exact DV a es ks (i+1) h.2
theorem lC {H:Imm} {T:Nat} {ty:Ty} (b:fw P 20 T ty=true) {x:Value} {a:ty.Data} (c:ty.rv H x a) (w:World):∀(es:List MapEntry) (ks:List ty.Data) (i:Nat),Ha H ty es ks->
 (Instr.findAsking T x es i).run P w= .ok (bU ty a ks es i) w
 |[],[],i,_=>by simp[Instr.findAsking,bU]
 |[],_::_,_,h=>h.elim
 |_::_,[],_,h=>h.elim
 |e::es,k::ks,i,h=>by
  have d:(Op.equal T x e.key).run P w= .ok (@decide (a=k) (ty.decEq a k)) w:=p9 20 T ty 9980 b H w x e.key a k c h.1
  unfold Instr.findAsking bU
  simp only[jC,d,js,Sem.run_ite]
  split
  simp
  exact lC b c w es ks (i+1) h.2
def jct (P:Program) (T:Nat) (ty:Ty):Bool:=match ty,P.underlying T with
 | .int,some (.int .i64)=>true
 | .pair _ _,some (.struct _)=>fw P 20 T ty
 |_,_=>false
theorem OA {T:Nat} {ty:Ty} (h:jct P T ty=true):
 (∀(H:Imm) (x:Value) (a:ty.Data) (w:World) (e:Bool),ty.rv H x a->(Instr.checkKey e 10000 T x).run P w= .ok () w)/\
 (∀(H:Imm) (es:List MapEntry) (ks:List ty.Data) (x:Value) (a:ty.Data) (w:World),ty.rv H x a->Ha H ty es ks->(Instr.findKey T x es).run P w= .ok (bU ty a ks es 0) w)/\
 (∀(H:Imm) (x y:Value) (a:ty.Data),ty.rv H x a->ty.rv H y a->Instr.sameBits 10000 x y=true):=by
 unfold jct at h
 split at h
 rename_i m;have f:fw P 20 T .int=true:=(by unfold fw;rw[m]);refine⟨fun H x a w e b=>DU 20 T .int 9980 f H w x a e b,fun H es ks x a w b hk=> ?_,fun H x y a b j=> ?_⟩;rw[w6 b];simp only[Instr.findKey,jC,jE m,js,DV a es ks 0 hk,jT];rw[w6 b,w6 j];simp[Instr.sameBits];rename_i t u fs m;have f:=h;refine⟨fun H x a w e b=>DU 20 T _ 9980 f H w x a e b,fun H es ks x a w b hk=> ?_,fun H x y a b j=> ?_⟩;have n:=lC f b w es ks 0 hk;simp only[Instr.findKey,jC,jE m,js];cases es with
 |nil=>
  cases ks with
  |nil=>simp[Instr.findNow,bU]
  |cons k ks=>exact hk.elim
 |cons e es=>
  have:Instr.findNow (.struct fs) x (e::es) 0=none:=(by simp[Instr.findNow,Instr.sameNow]);rw[this];exact n
 have z:=K9 20 T _ f H;have agg:∀{v:Value},vN v=true->∃vs,v= .agg vs:=fun{v} h=>by cases v<;>simp_all [vN]
 obtain⟨xs,rfl⟩:=agg b.1;obtain⟨ys,rfl⟩:=agg j.1;have A:=b.2.1;have B:=j.2.1;simp only[Value.cells] at A B;have g:=z (fun i=>xs[i]?) (fun i=>ys[i]?) a b.2.2 j.2.2;have r:xs=ys:=by
  refine Array.ext (by omega) (fun i d l=> ?_);obtain⟨v,c,e2,_⟩:=g i (by omega);rw[jX d] at c;rw[jX l] at e2;simp at c e2;rw[c,e2]
 subst r;unfold Instr.sameBits;simp only[beq_self_eq_true,km,jR];intro p q;obtain⟨i,hi⟩:=z6 q;rw[List.getElem?_zip_eq_some] at hi;obtain⟨d,l⟩:=hi;have e:p.1=p.2:=(by rw[d] at l;simpa using l);rw[<-e];have o:=(jo.1 d).1;obtain⟨v,c,_,s⟩:=g i (by simp at o;omega);have:xs.toList[i]? =some v:=(by simpa using c);rw[d] at this;simp at this;rw[this];exact F7 s;cases h
end
def tn (e:Nat):List (Nat×Nat)->Nat->Bool
 |[],_=>true
 |p::r,k=>match Nat.beq p.1 k,Nat.beq p.2 e with
  |true,true=>tn e r (k+1)
  |_,_=>false
theorem tp {e:Nat}:∀(l:List (Nat×Nat)) (k:Nat),tn e l k=true->∀(j:Nat) (p:Nat×Nat),l[j]? =some p->p=(k+j,e)
 |[],_,_,j,p,h=>by simp at h
 |q::l,k,h,j,p,hj=>by
  simp only[tn] at h
  split at h
  case h_2=>cases h
  rename_i a b
  cases j with
  |zero=>
   simp at hj;subst hj
   exact Prod.ext (jb a) (jb b)
  |succ j=>
   have:=tp l (k+1) h j p (by simpa using hj)
   rw[this];congr 1;omega
def jcu (P:Program) (ti:TI) (n e:Nat):Bool:=Nat.beq e ti.elem&&(match P.info? e with|some ie=>Nat.beq ie.size 1|none=>false)&&Nat.beq ti.fields.length n&&Nat.beq ti.size n&&Nat.ble n 1000000&&tn e ti.fields 0
def AR:Ty->Nat->Bool
 | .unit,0=>true
 | .pair .int r,n+1=>AR r n
 |_,_=>false
theorem VM {e D:Nat} (f:P.underlying e=some (.int .i64)) (o:P.cellsOf e=1) {H:Imm} (w:World):∀(n off:Nat) (ty:Ty) (xs ys:Array Value) (x y:ty.Data),AR ty n=true->ty.rd H (fun j=>xs[off+j]?) x->ty.rd H (fun j=>ys[off+j]?) y->
 (Op.eqItems (D+1) e 1 xs ys (List.range' off n)).run P w= .ok (@decide (x=y) (ty.decEq x y)) w
 |0,off,ty,xs,ys,x,y,h,_,_=>by
  cases ty with
  |unit=>simp[Op.eqItems]
  |_=>simp[AR] at h
 |n+1,off,ty,xs,ys,x,y,h,i,k=>by
  cases ty with
  |pair a b=>
   cases a with
   |int=>
    simp only[AR] at h
    have l:xs[off]? =some (.int .i64 x.1):=by have:=i.1;simpa[Ty.rd] using this
    have m:ys[off]? =some (.int .i64 y.1):=by have:=k.1;simpa[Ty.rd] using this
    have p:=VM (D:=D) f o w n (off+1) b xs ys x.2 y.2 h (by
     refine Ty.rd_congr b _ _ _ (fun j _=> ?_) i.2
     simp only[Ty.size];rw[zP]) (by
     refine Ty.rd_congr b _ _ _ (fun j _=> ?_) k.2
     simp only[Ty.size];rw[zP])
    rw[List.range'_succ]
    have c:(isAgg e).run P w= .ok false w:=by simp[isAgg,jE f]
    have q:(part e xs (off*1)).run P w= .ok (.int .i64 x.1) w:=by simp[part,c,l]
    have r:(part e ys (off*1)).run P w= .ok (.int .i64 y.1) w:=by simp[part,c,m]
    simp only[Op.eqItems,jC,q,r,js,run_equalIn_int w _ _ _ _ _ _ f]
    rw[Ra]
    cases g:(x.1==y.1) with
    |true=>
     have d:x.1=y.1:=by simpa using g
     rw[@jH _ (_) d]
     simpa using p
    |false=>
     have d:x.1≠y.1:=by simpa using g
     rw[@zz _ (_) d]
     simp
   |_=>simp[AR] at h
  |_=>simp[AR] at h
def IM:TypeDesc->Bool
 | .struct _=>true
 | .array _ _=>true
 | .interface _=>true
 |_=>false
def jfK (P:Program) (ti:TI):Bool:=
 match P.info? ti.id,P.underlying ti.id with
 |some i,some d=>match i.zero with
  |some z=>(Nat.beq i.size ti.size&&Nat.beq i.bytes ti.bytes&&Q9 z.cells.toList ti.zero&&jfJ (vN z) ti.agg&&ti.zero.all (·.oneCell')&&Nat.beq ti.zero.length ti.size)&&
   (ti.fields.all fun p=>(P.info? p.2).isSome)&&
   (match ti.agg with
    |true=>(match ti.arr,d with|false,.struct fs=>ow fs.toList ti.fields|true,.array n e=>jcu P ti n e|_,_=>false)&& !ti.sl
    |false=> !(IM d)&& !ti.arr&&(match ti.sl,d with|true,.slice e=>Nat.beq e ti.elem|true,_=>false|false,_=>true)&&
     (match ti.ty,d with| .int,.int .i64=>true| .int,_=>false| .uint k,.int k'=>iR k k'| .uint _,_=>false|_,_=>true)&&(match ti.fields with|[]=>true|_=>false))&&
   (match q8 ti.ty with|true=>jfJ ti.ty.agg ti.agg&&Nat.beq ti.ty.size ti.size&&Nat.ble 1 ti.size&&Nat.ble 1 ti.bytes|false=>true)&&
   (match ti.cmp with
    |true=>(match ti.arr with
     |true=>(match d with| .array n _=>AR ti.ty n|_=>false)&&(match P.underlying ti.elem with|some (.int .i64)=>true|_=>false)&& !(P.eqGuardType P.depth ti.id)
     |false=>(match ti.ty with| .pair _ _=> !(P.eqGuardType P.depth ti.id)| .bool=>true|_=>false)&&fw P 20 ti.id ti.ty)
    |false=>true)&&
   (match ti.mp,d with|true,.map k e=>Nat.beq k ti.key&&Nat.beq e ti.elem|true,_=>false|false,_=>true)&&
   (match ti.pt,d with|true,.pointer _=>true|true,_=>false|false,_=>true)&&(match ti.fk,d with|true,.func _ _ _=>true|true,_=>false|false,_=>true)&&
   (match q8 ti.ty with|true=>(match zIs ti.ty ti.zero with|some []=>true|_=>false)|false=>true)&&
   (match ti.kq with|true=>jct P ti.id ti.ty|false=>true)
  |none=>false
 |_,_=>false
theorem jcv {ti:TI} (h:jfK P ti=true):ti.ok P:=by
 unfold jfK at h
 split at h
 case h_2=>cases h
 rename_i i d hi G
 split at h
 case h_2=>cases h
 rename_i z hz;simp only[ji] at h;obtain⟨⟨⟨⟨⟨⟨⟨⟨⟨⟨⟨⟨⟨⟨a1,a2⟩,a3⟩,a4⟩,a5⟩,a6⟩,a7⟩,f⟩,E⟩,l⟩,s⟩,ap⟩,af⟩,B⟩,J⟩:=h;refine⟨⟨i,z,hi,jb a1,jb a2,hz,K7 a3,VJ a4⟩,fun v hv=>jR.1 a5 v hv,jb a6,?_,?_,?_,?_,?_,?_,?_,?_,?_,?_,?_,?_,?_,?_⟩
 .intro o j;rw[o] at f;simp only[ji,j] at f
  split at f
  .rename_i fs _;obtain⟨R,e2⟩:=th f.1;exact⟨fs,G,by simpa using R,fun k p hk=>by simpa using e2 k p hk⟩
  .contradiction
  .cases f.1
 .intro j;cases o:ti.agg with
  |false=>rw[o] at f;simp[j] at f
  |true=>
   rw[o] at f;simp only[ji,j] at f
   split at f
   .contradiction
   .rename_i n e _;unfold jcu at f;simp only[ji] at f;obtain⟨⟨⟨⟨⟨⟨C,r⟩,A⟩,T⟩,b5⟩,b6⟩,_⟩:=f;have C:=jb C;subst C
    split at r
    case h_2=>cases r
    rename_i ie q;exact⟨rfl,n,ie,G,q,jb r,jb A,jb T,jB b5,fun k p hk=>by have:=tp _ _ b6 k p hk;simpa using this⟩
   .cases f.1
 .intro k p hk;have:=jR.1 a7 p (zD hk);exact Option.isSome_iff_exists.1 this
 .intro o;rw[o] at f;simp only[ji,jV] at f;obtain⟨⟨⟨⟨C,b1'⟩,r⟩,A⟩,T⟩:=f;refine⟨d,G,fun fs e=>by subst e;simp[IM] at C,fun n e F=>by subst F;simp[IM] at C,fun ms e=>by subst e;simp[IM] at C,fun W=> ?_,fun M=> ?_,fun k M=> ?_⟩
  .rw[W] at r
   split at r
   .rw[jb r]
   .cases r
   .contradiction
  .rw[M] at A;cases d with
   |int k=>cases k<;>first|rfl|cases A
   |_=>cases A
  .rw[M] at A;cases d with
   |int k'=>simp[iR] at A;rw[A]
   |_=>cases A
 .intro W;cases o:ti.agg with
  |false=>rfl
  |true=>rw[o] at f;simp[W] at f
 .intro L;rw[L] at ap;cases d with
  |pointer e=>exact⟨e,G⟩
  |_=>cases ap
 .intro L;rw[L] at af;cases d with
  |func a b c=>exact⟨a,b,c,G⟩
  |_=>cases af
 .intro L;rw[L] at s;cases d with
  |map k e=>simp only[ji] at s;rw[G,jb s.1,jb s.2]
  |_=>cases s
 .intro hk H;rw[hk] at B;simp only at B
  split at B
  .rename_i hz;obtain⟨us,R,_,e3⟩:=VL H _ _ _ hz;rw[jY] at R;rw[R];exact e3
  .cases B
 .intro hk;rw[hk] at J;exact OA J
 .intro o;rw[o] at f;simp only[ji] at f;have:=f.2
  split at this
  .assumption
  .cases this
 .intro hk;rw[hk] at E;simp only[ji] at E;exact⟨VJ E.1.1.1,jb E.1.1.2⟩
 .intro hk;rw[hk] at E;simp only[ji] at E;exact⟨jB E.1.2,jB E.2⟩
 .intro hc H x y a b w O Q op X Y I;rw[hc] at l;simp only at l;cases j:ti.arr with
  |true=>
   rw[j] at l;simp only[ji,jV] at l;obtain⟨⟨c1,c2⟩,c3⟩:=l
   split at c1
   case h_2=>cases c1
   rename_i n e
   split at c2
   case h_2=>cases c2
   rename_i hue;have S:∃ie,e=ti.elem/\P.info? e=some ie/\ie.size=1:=by
    cases o:ti.agg with
    |false=>rw[o] at f;simp[j] at f
    |true=>
     rw[o] at f;simp only[ji,j] at f;have f:=f.1;unfold jcu at f;simp only[ji] at f;obtain⟨⟨⟨⟨⟨C,r⟩,A⟩,T⟩,b5⟩,b6⟩:=f
     split at r
     case h_2=>cases r
     rename_i ie q;exact⟨ie,jb C,q,jb r⟩
   obtain⟨ie,rfl,q,Z⟩:=S;have m:P.cellsOf ti.elem=1:=(by simp[Program.cellsOf,q,Z]);have agg:∀{v:Value},vN v=true->∃vs,v= .agg vs:=fun{v} h=>by cases v<;>simp_all [vN]
   have N:ti.ty.agg=true:=by
    cases M:ti.ty with
    |unit=>rfl
    |pair a b=>rfl
    |_=>rw[M] at c1;simp[AR] at c1
   obtain⟨xs,rfl⟩:=agg (O.1.trans N);obtain⟨ys,rfl⟩:=agg (Q.1.trans N);have F:(Op.equalIn 10000 ti.id (.agg xs) (.agg ys)).run P w= .ok (@decide (a=b) (ti.ty.decEq a b)) w:=by
    rw[run_equalIn_array w 9999 xs ys G q,m,List.range_eq_range'];exact VM (D:=9998) hue m w n 0 ti.ty xs ys a b c1 (by simpa[Value.cells] using O.2.2) (by simpa[Value.cells] using Q.2.2)
   rcases I with rfl|rfl
   .simp only[jC,run_eqGuard_agg w _ _ _ _ _ _ c3,js,run_eql_struct w,F]
   .simp only[jC,run_eqGuard_agg w _ _ _ _ _ _ c3,js,run_neq_struct w,F]
  |false=>
  rw[j] at l;simp only[ji] at l;obtain⟨c1,c2⟩:=l;have F:=p9 20 ti.id ti.ty 9980 c2 H w x y a b O Q;rcases ti with⟨id,ty,size,agg,fields,sl,elem,bytes,zero,cmp⟩;simp only at*
  split at c1
  .rename_i t u;have agg:∀{v:Value},vN v=true->∃vs,v= .agg vs:=fun{v} h=>by cases v<;>simp_all [vN]
   obtain⟨xs,rfl⟩:=agg O.1;obtain⟨ys,rfl⟩:=agg Q.1;simp only[jV] at c1;rcases I with rfl|rfl
   .simp only[jC,run_eqGuard_agg w _ _ _ _ _ _ c1,js,run_eql_struct w,F]
   .simp only[jC,run_eqGuard_agg w _ _ _ _ _ _ c1,js,run_neq_struct w,F]
  .have ex:=qJ O;have ey:=qJ Q;subst ex;subst ey;have K:(Op.equal id (.bool a) (.bool b)).run P w= .ok (@decide (a=b) (Ty.bool.decEq a b)) w:=F;rcases I with rfl|rfl
   .have g:(eqGuard .eql id X Y (.bool a) (.bool b)).run P w= .ok () w:=(by simp[eqGuard]);have V:binOp .eql id (.bool a) (.bool b)=(do pure (.bool (<-Op.equal id (.bool a) (.bool b)))):=rfl;simp only[jC,g,js,V,K,jT]
   .have g:(eqGuard .neq id X Y (.bool a) (.bool b)).run P w= .ok () w:=(by simp[eqGuard]);have V:binOp .neq id (.bool a) (.bool b)=(do pure (.bool (!(<-Op.equal id (.bool a) (.bool b))))):=rfl;simp only[jC,g,js,V,K,jT]
  .cases c1
theorem Rb {l:List TI} (h:l.all (jfK P)=true):∀T x,KA l T=some x->x.id=T/\x.ok P:=by
 induction l with
 |nil=>intro T x a;simp[KA] at a
 |cons t r c=>
  intro T x a;simp only[List.all_cons,ji] at h;simp only[KA] at a
  split at a
  rename_i b;simp at a;subst a;exact⟨jb b,jcv h.1⟩;exact c h.2 T x a
end
end Go.X
namespace Go.X
open Go.RowKit (Below)
inductive Cl where
 |dat (t:Ty)
 |row (E:Nat) (t:Ty) (nl:Nl)
 |map (kt vt:Ty)
@[reducible] def Cl.D:Cl->Type
 | .dat t=>t.Data
 | .row _ t _=>List t.Data
 | .map k v=>List (k.Data×v.Data)
@[reducible] def Cl.Ds:List Cl->Type
 |[]=>Unit
 |c::r=>c.D×Cl.Ds r
inductive Sh where
 |cl (c:Cl)
 |box (T:Nat) (cs:List Cl)
 |fbox (f T:Nat) (cs:List Cl)--a closure that captured a pointer to such a block
 |agg (cs:List Cl)--the cells themselves,aZ one value
@[reducible] def Sh.D:Sh->Type
 | .cl c=>c.D
 | .box _ cs=>Cl.Ds cs
 | .fbox _ _ cs=>Cl.Ds cs
 | .agg cs=>Cl.Ds cs
def VN:Nl->Nl->Bool
 | .unk,_=>true
 | .no,.no=>true
 |_,_=>false
def SP (σ:St):(c:Cl)->SV->Option (c.D×List Nat×List Nat)
 | .dat t,v=>match yF σ t v with
  |some (x,f)=>some (x,[],f)
  |none=>none
 | .row E t nl,.own o _=>match σ.obj o with
  |some (.row b e false a l)=>match Nat.beq E b,U6 nl a,qg (.slice e) (.slice t) l with
   |true,true,some l'=>some (l',[o],[])
   |_,_,_=>none
  |_=>none
 | .row E t nl,.osl o _ 0 n=>match σ.obj o with
  |some (.row b e false a l)=>match Nat.beq E b,VN nl a,qg (.slice e) (.slice t) l with
   |true,true,some l'=>some (l'.take n,[o],[])
   |_,_,_=>none
  |_=>none
 | .row _ _ nl,.lit v=>match qa v,nl with
  |true,.no=>none
  |true,_=>some ([],[],[])
  |false,_=>none
 | .map kt vt,.mp o=>match σ.obj o with
  |some (.map false d g l)=>match qg (.map d g) (.map kt vt) l with
   |some l'=>some (l',[o],[])
   |none=>none
  |_=>none
 |_,_=>none
def tq (σ:St):(cs:List Cl)->List SV->Option (Cl.Ds cs×List Nat×List Nat)
 |[],[]=>some ((),[],[])
 |c::cs,v::vs=>match SP σ c v with
  |some (x,os,f)=>match tq σ cs vs with
   |some (y,a,b)=>some ((x,y),os++a,f++b)
   |none=>none
  |none=>none
 |_,_=>none
def DW (σ:St):(s:Sh)->SV->Option (s.D×List Nat×List Nat)
 | .cl c,v=>SP σ c v
 | .box T cs,.bp o 0=>match σ.obj o with
  |some (.box a false vs)=>match Nat.beq T a,tq σ cs vs with
   |true,some (x,os,f)=>some (x,o::os,f)
   |_,_=>none
  |_=>none
 | .fbox g T cs,.clo b [.bp o 0]=>match σ.obj o with
  |some (.box a false vs)=>match Nat.beq b g,Nat.beq T a,tq σ cs vs with
   |true,true,some (x,os,f)=>some (x,o::os,f)
   |_,_,_=>none
  |_=>none
 | .agg cs,.agg vs=>match tq σ cs vs with
  |some (x,os,f)=>some (x,os,f)
  |none=>none
 |_,_=>none
def ClV (H:Imm) (w:World):(c:Cl)->Value->c.D->List Nat->Prop
 | .dat t,v,x,bs=>t.rv H v x/\bs=[]
 | .row E t nl,v,x,bs=>x.length<4611686018427387904/\((v= .slice none 0 0/\x=[]/\nl≠.no/\bs=[])\/
  ∃b C vs,v= .slice (some ⟨b,0,none⟩) x.length C/\bs=[b]/\H b=none/\(nl= .yes->x≠[])/\w.heap[b]? =some (.cells vs E (0,0))/\vs.size=C*t.size/\x.length<=C/\C<=maxLen/\
   ∀i y,x[i]? =some y->t.rd H (fun j=>vs[i*t.size+j]?) y)
 | .map kt vt,v,x,bs=>∃b es clock,v= .map (some b)/\bs=[b]/\H b=none/\w.heap[b]? =some (.map es clock)/\mE H kt vt es clock x
def YR (H:Imm) (w:World):(cs:List Cl)->List Value->Cl.Ds cs->List Nat->Prop
 |[],vs,_,bs=>vs=[]/\bs=[]
 |c::cs,v::vs,d,bs=>∃a b,bs=a++b/\ClV H w c v d.1 a/\v.oneCell'=true/\YR H w cs vs d.2 b
 |_::_,[],_,_=>False
def ShV (H:Imm) (w:World):(s:Sh)->Value->s.D->List Nat->Prop
 | .cl c,v,x,bs=>ClV H w c v x bs
 | .box T cs,v,x,bs=>∃b vs bs',v= .pointer (some ⟨b,0,none⟩)/\bs=b::bs'/\H b=none/\w.heap[b]? =some (.cells vs T (0,0))/\YR H w cs vs.toList x bs'
 | .fbox f T cs,v,x,bs=>∃b vs bs',v= .func (.func f) #[] #[.pointer (some ⟨b,0,none⟩)]/\bs=b::bs'/\H b=none/\w.heap[b]? =some (.cells vs T (0,0))/\YR H w cs vs.toList x bs'
 | .agg cs,v,x,bs=>∃vs,v= .agg vs/\YR H w cs vs.toList x bs
section
variable {P:Program} {B:qw} {σ τ:St} {ρ:Env} {w:World}
theorem v7 (ρ:Env):∀(a b:List Nat),wV ρ (a++b)=wV ρ a++wV ρ b
 |[],b=>rfl
 |o::a,b=>by
  simp only[j9,wV]
  split<;>simp[v7 ρ a b]
theorem aG (a:Sat P B ρ τ.obj w):∀(os:List Nat),os.Nodup->(wV ρ os).Nodup
 |[],_=>by simp[wV]
 |o::r,h=>by
  rw[zy] at h
  simp only[wV]
  split
  rename_i b C e
  rw[zy]
  refine⟨fun f=> ?_,aG a r h.2⟩
  obtain⟨o',C',c,d⟩:=(wW r).1 f
  have:=a.inj o o' b C C' e d
  subst this
  exact h.1 c
  exact aG a r h.2
def tu (σ τ:St) (os:List Nat):Prop:=∀o,o∈os->τ.obj o=σ.obj o
theorem DX (M:Sat P B ρ τ.obj w) {fz:List Nat} (hF:Frz σ τ fz) {c:Cl} {sv:SV} {x:c.D} {os f:List Nat} (h:SP σ c sv=some (x,os,f)) (hf:∀o,o∈f->o∈fz) (hk:tu σ τ os)
 {v:Value} (d:SV.den P ρ sv v):ClV ρ.H w c v x (wV ρ os):=by
 unfold SP at h
 split at h
 .split at h
  .rename_i x' f' hd;simp at h;obtain⟨rfl,rfl,rfl⟩:=h;exact⟨we M hF hd hf d,rfl⟩
  .cases h
 .rename_i E t nl o u
  split at h
  case h_2=>cases h
  rename_i E' z g l J
  split at h
  case h_2=>cases h
  rename_i l' V h2 W;simp at h;obtain⟨rfl,rfl,rfl⟩:=h;have r:=jb V;subst r;obtain⟨e,rfl⟩:=kP W;have T:z=t:=(by injection e);subst T;have j:τ.obj o=some (.row E z false g l):=(by rw[hk o (by simp),J]);obtain⟨p,k,Q,k0,A⟩:=M.obs o _ j;simp only[SV.den] at d;have d:=d p k;show ClV ρ.H w (.row E z nl) v l _;refine⟨k0,?_⟩;cases p with
  |none=>
   obtain⟨m,v2⟩:=d;refine .inl ⟨m,A.1,?_,by simp[wV,k]⟩;cases nl<;>cases g<;>simp_all [U6]
  |some q=>
   obtain⟨b,C⟩:=q;obtain⟨m,v2⟩:=d;obtain⟨R,vs,Z,k5,k6,k7,k9,s⟩:=A;refine .inr ⟨b,C,vs,by rw[m,Q],by simp[wV,k],by simpa[fzH] using s,fun N=>R ?_,Z,k5,k6,k7,k9⟩;cases nl<;>cases g<;>simp_all [U6]
 .rename_i E t nl o u n
  split at h
  case h_2=>cases h
  rename_i E' z g l J
  split at h
  case h_2=>cases h
  rename_i l' V h2 W;simp at h;obtain⟨rfl,rfl,rfl⟩:=h;have r:=jb V;subst r;obtain⟨e,rfl⟩:=kP W;have T:z=t:=(by injection e);subst T;have j:τ.obj o=some (.row E z false g l):=(by rw[hk o (by simp),J]);obtain⟨p,k,Q,k0,A⟩:=M.obs o _ j;simp only[SV.den] at d;have d:=d p k;show ClV ρ.H w (.row E z nl) v (l.take n) _;have Y:nl≠.yes:=by cases nl<;>cases g<;>simp_all [VN]
  cases p with
  |none=>
   obtain⟨m,rfl⟩:=d;refine⟨by simp,.inl ⟨m,by simp,?_,by simp[wV,k]⟩⟩;cases nl<;>cases g<;>simp_all [VN]
  |some q=>
   obtain⟨b,C⟩:=q;obtain⟨a,F,m,v2,v3,v4,S⟩:=d;obtain⟨R,vs,Z,k5,k6,k7,k9,s⟩:=A;have S:=S (.inl trivial);simp only[Nat.zero_mul] at S;subst S;have G:F=C:=(by omega);subst G;have I:(l.take n).length=n:=(by rw[j0];omega);refine⟨by omega,.inr ⟨b,F,vs,by rw[m,I],by simp[wV,k],by simpa[fzH] using s,fun N=>absurd N Y,Z,k5,by omega,k7,fun i y O=>k9 i y ?_⟩⟩;by_cases hi:i<n
   .rw[jU hi] at O;exact O
   .rw[List.getElem?_eq_none (by omega)] at O;cases O
 .rename_i E t nl u
  split at h
  .cases h
  .rename_i N X;simp at h;obtain⟨rfl,rfl,rfl⟩:=h;simp only[SV.den] at d;subst d;refine⟨by simp,.inl ⟨yz N,rfl,?_,rfl⟩⟩;intro e;subst e;exact X rfl
  .cases h
 .rename_i kt vt o
  split at h
  case h_2=>cases h
  rename_i K L l J
  split at h
  case h_2=>cases h
  rename_i l' hc;simp at h;obtain⟨rfl,rfl,rfl⟩:=h;obtain⟨e,rfl⟩:=kP hc;obtain⟨r,e2⟩:K=kt/\L=vt:=by injection e with a b;exact⟨a,b⟩
  subst r;subst e2;have j:τ.obj o=some (.map false K L l):=(by rw[hk o (by simp),J]);obtain⟨p,k,hs⟩:=M.obs o _ j;simp only[w7,fzM] at hs;obtain⟨b,C,es,clock,rfl,Q,A,R⟩:=hs;simp only[SV.den] at d;obtain⟨b',C',r,m⟩:=d _ k;simp at r;obtain⟨rfl,rfl⟩:=r;exact⟨b,es,clock,m,by simp[wV,k],R,Q,A⟩
 .cases h
theorem dD (g:Sat P B ρ τ.obj w) {fz:List Nat} (e:Frz σ τ fz):∀{cs:List Cl} {svs:List SV} {x:Cl.Ds cs} {os f:List Nat},tq σ cs svs=some (x,os,f)->(∀o,o∈f->o∈fz)->tu σ τ os->
 ∀{vs:List Value},SV.denL P ρ svs vs->(∀v∈vs,v.oneCell'=true)->YR ρ.H w cs vs x (wV ρ os)
 |[],[],x,os,f,h,_,_,vs,b,_=>by
  simp[tq] at h
  obtain⟨rfl,rfl⟩:=h
  simp[SV.denL] at b
  exact⟨b,rfl⟩
 |[],_::_,x,os,f,h,_,_,vs,b,_=>by simp[tq] at h
 |_::_,[],x,os,f,h,_,_,vs,b,_=>by simp[tq] at h
 |c::cs,sv::svs,x,os,f,h,hf,hk,vs,b,h1=>by
  simp only[tq] at h
  split at h
  case h_2=>cases h
  rename_i p o1 m i
  split at h
  case h_2=>cases h
  rename_i q o2 n d
  simp at h
  obtain⟨rfl,rfl,rfl⟩:=h
  simp only[SV.denL] at b
  obtain⟨v,r,rfl,k,l⟩:=b
  refine⟨wV ρ o1,wV ρ o2,v7 ρ o1 o2,?_,h1 v (by simp),?_⟩
  .exact DX g e i (fun o a=>hf o (jh _ a)) (fun o a=>hk o (jh _ a)) k
  .exact dD g e d (fun o a=>hf o (jg _ a)) (fun o a=>hk o (jg _ a)) l (fun u j=>h1 u (by simp[j]))
theorem cF (i:Sat P B ρ τ.obj w) {fz:List Nat} (q:Frz σ τ fz) {s:Sh} {sv:SV} {x:s.D} {os f:List Nat} (h:DW σ s sv=some (x,os,f)) (t:∀o,o∈f->o∈fz) (hk:tu σ τ os)
 {v:Value} (e:SV.den P ρ sv v):ShV ρ.H w s v x (wV ρ os):=by
 unfold DW at h
 split at h
 .exact DX i q h t hk e
 .rename_i T cs o
  split at h
  case h_2=>cases h
  rename_i J vs c
  split at h
  case h_2=>cases h
  rename_i I o1 G y j;simp at h;obtain⟨rfl,rfl,rfl⟩:=h;have a:=jb y;subst a;have d:τ.obj o=some (.box T false vs):=(by rw[hk o (by simp),c]);obtain⟨p,k,l⟩:=i.obs o _ d;simp only[w7,fzH] at l;obtain⟨b,C,us,rfl,A,m,n,E⟩:=l;simp only[SV.den] at e;obtain⟨K,C',a,F⟩:=e _ k;simp at a;obtain⟨rfl,rfl⟩:=a;exact⟨b,us,wV ρ o1,F,by simp[wV,k],E,A,dD i q j t (fun o c=>hk o (jl _ c)) m n⟩
 .rename_i g T cs R o
  split at h
  case h_2=>cases h
  rename_i J vs c
  split at h
  case h_2=>cases h
  rename_i I o1 G M y j;simp at h;obtain⟨rfl,rfl,rfl⟩:=h;have L:=jb M;subst L;have a:=jb y;subst a;have d:τ.obj o=some (.box T false vs):=(by rw[hk o (by simp),c]);obtain⟨p,k,l⟩:=i.obs o _ d;simp only[w7,fzH] at l;obtain⟨b,C,us,rfl,A,m,n,E⟩:=l;simp only[SV.den,SV.denL] at e;obtain⟨lb,rfl,u,r,N,Q,O⟩:=e;subst O;obtain⟨K,C',a,F⟩:=Q _ k;simp at a;obtain⟨rfl,rfl⟩:=a;have z:lb= #[u]:=jL.1 (by simpa using N);subst z;subst F;exact⟨b,us,wV ρ o1,rfl,by simp[wV,k],E,A,dD i q j t (fun o c=>hk o (jl _ c)) m n⟩
 .split at h
  case h_2=>cases h
  rename_i I o1 G j;simp at h;obtain⟨rfl,rfl,rfl⟩:=h;simp only[SV.den] at e;obtain⟨us,rfl,m,n⟩:=e;exact⟨us,rfl,dD i q j t hk m n⟩
 .cases h
end
end Go.X
namespace Go.X
open Go.RowKit (Below)
def Kv (k:Nat):(c:Cl)->c.D->SV
 | .dat t,x=> .dat t x
 | .row _ t _,_=> .own k t
 | .map _ _,_=> .mp k
def VO (k:Nat):(c:Cl)->c.D->List (Nat×Option Ob)
 | .dat _,_=>[]
 | .row E t nl,x=>[(k,some (.row E t false nl x))]
 | .map kt vt,x=>[(k,some (.map false kt vt x))]
def DY (nm:Nat->Nat):(cs:List Cl)->Cl.Ds cs->Nat->List SV
 |[],_,_=>[]
 |c::cs,d,j=>Kv (nm j) c d.1::DY nm cs d.2 (j+1)
def tz (nm:Nat->Nat):(cs:List Cl)->Cl.Ds cs->Nat->List (Nat×Option Ob)
 |[],_,_=>[]
 |c::cs,d,j=>tz nm cs d.2 (j+1)++VO (nm j) c d.1
def nmA (k j:Nat):Nat:=1000*(k+1)+500+j
def DZ (k:Nat):(s:Sh)->s.D->SV
 | .cl c,x=>Kv k c x
 | .box _ _,_=> .bp k 0
 | .fbox f _ _,_=> .clo f [.bp k 0]
 | .agg cs,x=> .agg (DY (nmA k) cs x 0)
def La (k:Nat) (nm:Nat->Nat):(s:Sh)->s.D->List (Nat×Option Ob)
 | .cl c,x=>VO k c x
 | .box T cs,x=>(k,some (.box T false (DY nm cs x 0)))::tz nm cs x 0
 | .fbox _ T cs,x=>(k,some (.box T false (DY nm cs x 0)))::tz nm cs x 0
 | .agg cs,x=>tz (nmA k) cs x 0
def y9 (k:Nat):Cl->List Nat
 | .dat _=>[]
 |_=>[k]
def yK (nm:Nat->Nat):List Cl->Nat->List Nat
 |[],_=>[]
 |c::r,j=>y9 (nm j) c++yK nm r (j+1)
def qY (k:Nat) (nm:Nat->Nat):Sh->List Nat
 | .cl c=>y9 k c
 | .box _ cs=>k::yK nm cs 0
 | .fbox _ _ cs=>k::yK nm cs 0
 | .agg cs=>yK (nmA k) cs 0
def VP (c:Nat):Cl->Value->Option (Nat×Nat)
 | .row _ _ _,.slice (some a) _ C=>some (a.block,C)
 | .map _ _,.map (some b)=>some (b,c)
 |_,_=>none
def VQ (a:Nat):Cl->Value->Nat
 | .row _ _ _,.slice _ n _=>n
 |_,_=>a
def SQ (b:Nat):Sh->Value->Option (Nat×Nat)
 | .cl c,v=>VP b c v
 | .box _ _,.pointer (some a)=>some (a.block,b)
 | .fbox _ _ _,.func _ _ lb=>(match lb.toList with|[.pointer (some a)]=>some (a.block,b)|_=>none)
 |_,_=>none
def VR (a:Nat):Sh->Value->Nat
 | .cl c,v=>VQ a c v
 | .box _ _,_=>a
 | .fbox _ _ _,_=>a
 | .agg _,_=>a
def oo (ob:List (Nat×Option Ob)):Nat->Option Ob:=(St.mk [] ob).obj
section
variable {P:Program} {B:qw} {ρ:Env} {w:World}
def OkB (B:qw) (ρ:Env) (b:Nat):Prop:=(B.w.heap.size<=b\/b∈B.bor)/\∀o C,ρ.blk o≠some (some (b,C))
theorem Lb {obj:Nat->Option Ob} (d:Sat P B ρ obj w) {k:Nat} (hk:obj k=none) (u:vJ obj k) (p:Option (Nat×Nat)) (len:Nat) (x:Ob)
 (r:∀b C,p=some (b,C)->OkB B ρ b) (A:∀a:Env,a.H=ρ.H->a.len k=len->ρ.le a [k]->w7 P a w k p x):
 ∃a:Env,Sat P B a (u9 obj k (some x)) w/\ρ.le a [k]/\a.H=ρ.H/\a.blk=(fun o=>if o=k then some p else ρ.blk o)/\a.len=fun o=>if o=k then len else ρ.len o:=by
 let a:Env:={H:=ρ.H,blk:=fun o=>if o=k then some p else ρ.blk o,len:=fun o=>if o=k then len else ρ.len o}
 have j:ρ.le a [k]:=⟨fun _ _ h=>h,fun o p g r=>by simpa[a,show o≠k by simpa using g] using r,fun o g=>by simp[a,show o≠k by simpa using g]⟩;refine⟨a,⟨d.os,d.tape,d.output,d.drawn,d.size,d.good,d.oldH,d.old,?_,?_,?_,?_⟩,j,rfl,rfl,rfl⟩;intro o D c;unfold u9 at c;by_cases e:o=k;subst e;rw[jd rfl] at c;simp at c;subst c;exact⟨p,by simp[a],A a rfl (by simp[a]) j⟩;rw[jc e] at c;obtain⟨q,y,z⟩:=d.obs o D c;refine⟨q,by simp[a,e,y],wE j (by simpa using e) (fun T fz cs t o' n=> ?_) (fun b C v=>⟨rfl,rfl⟩) z⟩;simp at n;subst n;exact u o T fz cs (by rw[c,t]);intro o g;unfold u9 at g;by_cases e:o=k;rw[jd e] at g;cases g;rw[jc e] at g;simp[a,e,d.dead o g];intro o o' b l s f m;by_cases i:o=k<;>by_cases e2:o'=k
 rw[i,e2];simp[a,i] at f;simp[a,e2] at m;exact absurd m ((r b l f).2 o' s);simp[a,i] at f;simp[a,e2] at m;exact absurd f ((r b s m).2 o l);simp[a,i] at f;simp[a,e2] at m;exact d.inj o o' b l s f m;intro o b l f;by_cases i:o=k;simp[a,i] at f;exact(r b l f).1;simp[a,i] at f;exact d.own o b l f
theorem ra (k:Nat) (x:Option Ob) (ob:List (Nat×Option Ob)):oo ((k,x)::ob)=u9 (oo ob) k x:=yb ⟨[],ob⟩ k x
structure rc (P:Program) (B:qw) (ρ:Env) (w:World) (ob new:List (Nat×Option Ob)) (nms:List Nat) (bs:List Nat) (ρ':Env):Prop where
 sat:Sat P B ρ' (oo (new++ob)) w
 le:ρ.le ρ' nms
 H:ρ'.H=ρ.H
 same:∀o,o∉nms->ρ'.blk o=ρ.blk o/\ρ'.len o=ρ.len o
 blk:∀o b C,ρ'.blk o=some (some (b,C))->ρ.blk o=some (some (b,C))\/b∈bs
theorem VS {ob:List (Nat×Option Ob)} (G:Sat P B ρ (oo ob) w) {c:Cl} {k:Nat} {v:Value} {x:c.D} {bs:List Nat} (s:ClV ρ.H w c v x bs) (S:∀b,b∈bs->OkB B ρ b)
 (hk:∀n,n∈y9 k c->oo ob n=none/\vJ (oo ob) n) (F V:Nat):
 ∃a,rc P B ρ w ob (VO k c x) (y9 k c) bs a/\SV.den P a (Kv k c x) v/\(∀n,n∈y9 k c->a.blk n=some (VP F c v)/\a.len n=VQ V c v):=by
 cases c with
 |dat t=>
  obtain⟨Z,rfl⟩:=s;exact⟨ρ,⟨G,Env.le.refl _ _,rfl,fun _ _=>⟨rfl,rfl⟩,fun _ _ _ h=> .inl h⟩,by simp only[Kv,SV.den];exact Z,fun n q=>by simp[y9] at q⟩
 |row E t nl=>
  obtain⟨I,J⟩:=hk k (by simp[y9]);obtain⟨T,s⟩:=s;rcases s with⟨rfl,Q,O,rfl⟩|⟨b,C,vs,rfl,rfl,N,L,M,W,R,X,Y⟩;have j:x=([]:List t.Data):=Q;obtain⟨a,u,z,A,d,g⟩:=Lb G I J none 0 (.row E t false nl x) (fun b C h=>by cases h) (fun a _ e _=>⟨by rw[e,j];rfl,T,j,O⟩);refine⟨a,⟨by simp only[VO,List.singleton_append];rw[ra];exact u,by simpa[y9] using z,A,fun o r=> ?_,fun o b C h=> ?_⟩,?_,fun n q=> ?_⟩;have:o≠k:=(by simpa[y9] using r);rw[d,g];simp[this];rw[d] at h;simp only at h
  split at h
  simp at h;exact .inl h;simp only[Kv,SV.den];intro p f;rw[d] at f;simp at f;subst f;exact⟨trivial,by rw[g];simp⟩;have:n=k:=(by simpa[y9] using q);subst this;rw[d,g];simp[VP,VQ];obtain⟨a,u,z,A,d,g⟩:=Lb G I J (some (b,C)) x.length (.row E t false nl x) (fun K C' h=>by simp at h;rw[<-h.1];exact S b (by simp))
   (fun a l e m=>⟨by rw[e],T,L,vs,M,W,R,X,fun i y hy=>t.rd_mono m.H _ _ (Y i y hy),by rw[l,N];rfl⟩)
  refine⟨a,⟨by simp only[VO,List.singleton_append];rw[ra];exact u,by simpa[y9] using z,A,fun o r=> ?_,fun o K C' h=> ?_⟩,?_,fun n q=> ?_⟩;have:o≠k:=(by simpa[y9] using r);rw[d,g];simp[this];rw[d] at h;simp only at h
  split at h
  simp at h;exact .inr (by simp[h.1]);exact .inl h;simp only[Kv,SV.den];intro p f;rw[d] at f;simp at f;subst f;simp only;rw[g];simp only[if_true];exact⟨trivial,R⟩;have:n=k:=(by simpa[y9] using q);subst this;rw[d,g];simp[VP,VQ]
 |map kt vt=>
  obtain⟨I,J⟩:=hk k (by simp[y9]);obtain⟨b,es,clock,rfl,rfl,N,L,M⟩:=s;obtain⟨a,u,z,A,d,g⟩:=Lb G I J (some (b,F)) V (.map false kt vt x) (fun K C' h=>by simp at h;rw[<-h.1];exact S b (by simp))
   (fun a l _ m=>⟨b,F,es,clock,rfl,L,M.mono m.H,by rw[l,N];rfl⟩)
  refine⟨a,⟨by simp only[VO,List.singleton_append];rw[ra];exact u,by simpa[y9] using z,A,fun o r=> ?_,fun o K C' h=> ?_⟩,?_,fun n q=> ?_⟩;have:o≠k:=(by simpa[y9] using r);rw[d,g];simp[this];rw[d] at h;simp only at h
  split at h
  simp at h;exact .inr (by simp[h.1]);exact .inl h;simp only[Kv,SV.den];intro p f;rw[d] at f;simp at f;subst f;exact⟨b,F,rfl,rfl⟩;have:n=k:=(by simpa[y9] using q);subst this;rw[d,g];simp[VP,VQ]
theorem gA {new ob:List (Nat×Option Ob)} {n:Nat} (h:n∉q6 new):oo (new++ob) n=oo ob n:=by
 simp only[oo,St.obj];rw[kM,kX _ _ h]
theorem tA {α:Type} (a b:List (Nat×α)) (n:Nat):n∈q6 (a++b)↔n∈q6 a\/n∈q6 b:=by
 induction a with
 |nil=>simp[q6]
 |cons x a c=>obtain⟨j,y⟩:=x;simp only[j9,q6,jk,c];exact or_assoc.symm
theorem D0 (k:Nat) (c:Cl) (x:c.D):q6 (VO k c x)=y9 k c:=by cases c<;>rfl
theorem ct (nm:Nat->Nat):∀(cs:List Cl) (x:Cl.Ds cs) (j n:Nat),n∈q6 (tz nm cs x j)↔n∈yK nm cs j
 |[],_,_,n=>by simp[tz,yK,q6]
 |c::cs,x,j,n=>by
  simp only[tz,yK,tA,D0,ju,ct nm cs x.2 (j+1) n]
  exact or_comm
theorem mR (k:Nat) (nm:Nat->Nat) (s:Sh) (x:s.D) (n:Nat):n∈q6 (La k nm s x)↔n∈qY k nm s:=by
 cases s with
 |cl c=>simp only[La,qY];rw[D0]
 |box T cs=>simp only[La,qY,q6,jk,ct nm cs x 0 n]
 |fbox f T cs=>simp only[La,qY,q6,jk,ct nm cs x 0 n]
 |agg cs=>simp only[La,qY,ct (nmA k) cs x 0 n]
theorem Hv {nm:Nat->Nat}:∀(cs:List Cl) (j:Nat) {n:Nat},n∈yK nm cs j->∃i,n=nm i
 |[],_,_,h=>by simp[yK] at h
 |c::cs,j,n,h=>by
  simp only[yK,ju] at h
  rcases h with h|h
  cases c<;>simp[y9] at h<;>exact⟨j,h⟩
  exact Hv cs (j+1) h
theorem jez {k:Nat} {cs:List Cl} (h:k∈yK (nmA k) cs 0):False:=by
 obtain⟨i,e⟩:=Hv cs 0 h;unfold nmA at e;omega
def jcw (new:List (Nat×Option Ob)):Prop:=∀o T fz cs,(o,some (.box T fz cs))∉new
theorem ox (k:Nat) (c:Cl) (x:c.D):jcw (VO k c x):=by
 intro o T fz cs h;cases c<;>simp[VO] at h
theorem ye (nm:Nat->Nat):∀(cs:List Cl) (x:Cl.Ds cs) (j:Nat),jcw (tz nm cs x j)
 |[],_,_=>by intro o T fz cs h;simp[tz] at h
 |c::cs,x,j=>by
  intro o T fz a h
  simp only[tz,ju] at h
  rcases h with h|h
  exact ye nm cs x.2 (j+1) o T fz a h
  exact ox _ _ _ o T fz a h
theorem cG {new ob:List (Nat×Option Ob)} {n:Nat} (c:jcw new) (h:vJ (oo ob) n):vJ (oo (new++ob)) n:=by
 intro o T fz cs a;simp only[oo,St.obj] at a;rw[kM] at a;cases b:wc new o with
 |none=>rw[b] at a;exact h o T fz cs a
 |some y=>rw[b] at a;simp only at a;subst a;exact absurd (qh _ _ _ b) (c o T fz cs)
theorem CB {nm:Nat->Nat}:∀(cs:List Cl) (j:Nat) {ob:List (Nat×Option Ob)} {ρ:Env} (_:Sat P B ρ (oo ob) w) {vs:List Value} {x:Cl.Ds cs} {bs:List Nat} (_:YR ρ.H w cs vs x bs) (_:bs.Nodup) (_:∀b,b∈bs->OkB B ρ b)
 (_:(yK nm cs j).Nodup) (_:∀n,n∈yK nm cs j->oo ob n=none/\vJ (oo ob) n),
 ∃k,rc P B ρ w ob (tz nm cs x j) (yK nm cs j) bs k/\SV.denL P k (DY nm cs x j) vs
 |[],j,ob,ρ,l,vs,x,bs,i,_,_,_,_=>by
  obtain⟨rfl,rfl⟩:=i
  exact⟨ρ,⟨l,Env.le.refl _ _,rfl,fun _ _=>⟨rfl,rfl⟩,fun _ _ _ h=> .inl h⟩,by simp[DY,SV.denL]⟩
 |c::cs,j,ob,ρ,l,[],x,bs,i,_,_,_,_=>i.elim
 |c::cs,j,ob,ρ,l,v::vs,x,bs,i,hnd,hb,hnn,hk=>by
  obtain⟨L,s,rfl,J,O,K⟩:=i
  simp only[yK] at hnn hk
  rw[zK] at hnn hnd
  obtain⟨N,F,q⟩:=hnn
  obtain⟨M,u,y⟩:=hnd
  obtain⟨ρ1,e,z,_⟩:=VS l J (fun b a=>hb b (jh _ a)) (fun n m=>hk n (jh _ m)) 0 0
  have p:∀n,n∈yK nm cs (j+1)->oo (VO (nm j) c x.1++ob) n=none/\vJ (oo (VO (nm j) c x.1++ob)) n:=by
   intro n m;obtain⟨A,D⟩:=hk n (jg _ m);refine⟨?_,cG (ox _ _ _) D⟩;rw[gA,A];rw[D0];exact fun h=>q n h n m rfl
  obtain⟨r,g,e2⟩:=CB cs (j+1) e.sat (vs:=vs) (x:=x.2) (bs:=s) (by rw[e.H];exact K) u (fun b a=>⟨(hb b (jg _ a)).1,fun o C h=>by
   rcases e.blk o b C h with h|h;exact(hb b (jg _ a)).2 o C h;exact y b h b a rfl⟩) F p
  refine⟨r,⟨by simp only[tz,jJ];exact g.sat,?_,g.H.trans e.H,fun o d=> ?_,fun o b C h=> ?_⟩,?_⟩;exact(e.le.weaken (fun o d=>jh _ d)).trans (g.le.weaken (fun o d=>jg _ d));simp only[yK,ju,not_or] at d;obtain⟨s1,s2⟩:=e.same o d.1;obtain⟨G,I⟩:=g.same o d.2;exact⟨G.trans s1,I.trans s2⟩;rcases g.blk o b C h with h|h;rcases e.blk o b C h with h|h;exact .inl h;exact .inr (jh _ h);exact .inr (jg _ h);simp only[DY,SV.denL];refine⟨v,vs,rfl,SV.den_mono g.le _ _ (fun o d=> ?_) z,e2⟩;cases c with
  |dat t=>rfl
  |row E t nl=>
   have f:nm j≠o:=fun h=>q (nm j) (by simp[y9]) o d h
   simp only[Kv,SV.refs];cases a:Nat.beq o (nm j) with
   |false=>rfl
   |true=>exact absurd (jb a).symm f
  |map kt vt=>
   have f:nm j≠o:=fun h=>q (nm j) (by simp[y9]) o d h
   simp only[Kv,SV.refs];cases a:Nat.beq o (nm j) with
   |false=>rfl
   |true=>exact absurd (jb a).symm f
theorem yU {nm:Nat->Nat} {k:Nat}:∀(cs:List Cl) (x:Cl.Ds cs) (j:Nat),k∉yK nm cs j->SV.refs.refsL k (DY nm cs x j)=false
 |[],_,_,_=>rfl
 |c::cs,x,j,h=>by
  simp only[yK,ju,not_or] at h
  simp only[DY,SV.refs.refsL]
  have d:(Kv (nm j) c x.1).refs k=false:=by
   cases c with
   |dat t=>rfl
   |row E t nl=>
    have b:k≠nm j:=fun e=>h.1 (by simp[y9,e])
    simp only[Kv,SV.refs];cases a:Nat.beq k (nm j) with
    |false=>rfl
    |true=>exact absurd (jb a) b
   |map kt vt=>
    have b:k≠nm j:=fun e=>h.1 (by simp[y9,e])
    simp only[Kv,SV.refs];cases a:Nat.beq k (nm j) with
    |false=>rfl
    |true=>exact absurd (jb a) b
  rw[d];exact yU cs x.2 (j+1) h.2
theorem Rc {H:Imm}:∀(cs:List Cl) (vs:List Value) (x:Cl.Ds cs) (bs:List Nat),YR H w cs vs x bs->∀v∈vs,v.oneCell'=true
 |[],vs,x,bs,h,v,a=>by obtain⟨rfl,_⟩:=h;simp at a
 |c::cs,[],x,bs,h,v,a=>h.elim
 |c::cs,u::vs,x,bs,h,v,a=>by
  obtain⟨_,_,_,_,b,d⟩:=h
  rcases jk.1 a with rfl|a
  exact b
  exact Rc cs vs x.2 _ d v a
theorem OB {nm:Nat->Nat} {ob:List (Nat×Option Ob)} (M:Sat P B ρ (oo ob) w) {s:Sh} {k:Nat} {v:Value} {x:s.D} {bs:List Nat} (N:ShV ρ.H w s v x bs) (m:bs.Nodup) (z:∀b,b∈bs->OkB B ρ b)
 (g:(qY k nm s).Nodup) (hk:∀n,n∈qY k nm s->oo ob n=none/\vJ (oo ob) n) (y O:Nat):
 ∃l,rc P B ρ w ob (La k nm s x) (qY k nm s) bs l/\SV.den P l (DZ k s x) v/\(k∈qY k nm s->l.blk k=some (SQ y s v)/\l.len k=VR O s v):=by
 cases s with
 |cl c=>
  obtain⟨l,a,e,r⟩:=VS M N z hk y O;exact⟨l,a,e,fun h=>r k h⟩
 |box T cs=>
  obtain⟨b,vs,bs',rfl,rfl,Q,S,j⟩:=N;simp only[qY,zy] at g;rw[zy] at m;obtain⟨ρ1,i,K⟩:=CB cs 0 M j m.2 (fun t E=>z t (jl _ E)) g.2 (fun n R=>hk n (jl _ R));obtain⟨V,W⟩:=hk k (by simp[qY]);have F:oo (tz nm cs x 0++ob) k=none:=by
   rw[gA,V];rw[ct];exact g.1
  obtain⟨J,X,Y,Z,u,L⟩:=Lb i.sat F (cG (ye _ _ _ _) W) (some (b,y)) O (.box T false (DY nm cs x 0)) (fun t C' h=>by
   simp at h;rw[<-h.1];refine⟨(z b (by simp)).1,fun o C q=> ?_⟩;rcases i.blk o b C q with q|q;exact(z b (by simp)).2 o C q;exact m.1 q) (fun l A _ G=>⟨b,y,vs,rfl,S,SV.denL_mono G _ _ (fun o d=>by simp at d;subst d;exact yU cs x 0 g.1) K,Rc cs vs.toList x bs' j,by rw[A,i.H,Q];rfl⟩)
  refine⟨J,⟨by simp only[La,j9];rw[ra];exact X,?_,Z.trans i.H,fun o d=> ?_,fun o t C' h=> ?_⟩,?_,fun _=> ?_⟩;exact(i.le.weaken (fun o d=>jl _ d)).trans (Y.weaken (fun o d=>by simp at d;subst d;simp[]));simp only[qY,jk,not_or] at d;obtain⟨s1,s2⟩:=i.same o d.2;rw[u,L];simp only[d.1,if_false];exact⟨s1,s2⟩;rw[u] at h;simp only at h
  split at h
  simp at h;exact .inr (by simp[h.1]);rcases i.blk o t C' h with h|h;exact .inl h;exact .inr (jl _ h);simp only[DZ,SV.den];intro p I;rw[u] at I;simp at I;subst I;exact⟨b,y,rfl,rfl⟩;rw[u,L];simp[SQ,VR]
 |fbox f T cs=>
  obtain⟨b,vs,bs',rfl,rfl,Q,S,j⟩:=N;simp only[qY,zy] at g;rw[zy] at m;obtain⟨ρ1,i,K⟩:=CB cs 0 M j m.2 (fun t E=>z t (jl _ E)) g.2 (fun n R=>hk n (jl _ R));obtain⟨V,W⟩:=hk k (by simp[qY]);have F:oo (tz nm cs x 0++ob) k=none:=by
   rw[gA,V];rw[ct];exact g.1
  obtain⟨J,X,Y,Z,u,L⟩:=Lb i.sat F (cG (ye _ _ _ _) W) (some (b,y)) O (.box T false (DY nm cs x 0)) (fun t C' h=>by
   simp at h;rw[<-h.1];refine⟨(z b (by simp)).1,fun o C q=> ?_⟩;rcases i.blk o b C q with q|q;exact(z b (by simp)).2 o C q;exact m.1 q) (fun l A _ G=>⟨b,y,vs,rfl,S,SV.denL_mono G _ _ (fun o d=>by simp at d;subst d;exact yU cs x 0 g.1) K,Rc cs vs.toList x bs' j,by rw[A,i.H,Q];rfl⟩)
  refine⟨J,⟨by simp only[La,j9];rw[ra];exact X,?_,Z.trans i.H,fun o d=> ?_,fun o t C' h=> ?_⟩,?_,fun _=> ?_⟩;exact(i.le.weaken (fun o d=>jl _ d)).trans (Y.weaken (fun o d=>by simp at d;subst d;simp[]));simp only[qY,jk,not_or] at d;obtain⟨s1,s2⟩:=i.same o d.2;rw[u,L];simp only[d.1,if_false];exact⟨s1,s2⟩;rw[u] at h;simp only at h
  split at h
  simp at h;exact .inr (by simp[h.1]);rcases i.blk o t C' h with h|h;exact .inl h;exact .inr (jl _ h);simp only[DZ,SV.den,SV.denL];refine⟨#[.pointer (some ⟨b,0,none⟩)],rfl,_,[],rfl,fun p I=> ?_,rfl⟩;rw[u] at I;simp at I;subst I;exact⟨b,y,rfl,rfl⟩;rw[u,L];simp[SQ,VR]
 |agg cs=>
  obtain⟨vs,rfl,j⟩:=N;obtain⟨ρ1,i,K⟩:=CB (nm:=nmA k) cs 0 M j m z g hk;exact⟨ρ1,i,by simp only[DZ,SV.den];exact⟨vs,rfl,K,Rc cs vs.toList x bs j⟩,fun h=>(jez h).elim⟩
end
end Go.X
namespace Go.X
open Go.RowKit (Below)
def jfL:Bool->Value
 |true=> .nilFunc
 |false=> .slice none 0 0
def VT:Bool->Value->Bool
 |true,v=>xc v
 |false,v=>qa v
inductive cd where
 |val (t:Ty)
 |ref (t:Ty)
 |nil (fn:Bool)
 |clo (f:Nat)
 |fn (ps rs:List Ty)
 |own (s:Sh) (kept:Bool)
@[reducible] def cd.Data:cd->Type
 | .val t=>t.Data
 | .ref t=>t.Data
 | .nil _=>Unit
 | .clo _=>Unit
 | .fn ps rs=>FnD ps rs
 | .own s _=>s.D
@[reducible] def OD:List cd->Type
 |[]=>Unit
 |p::ps=>p.Data×OD ps
@[reducible] def KD:List cd->Type
 |[]=>Unit
 | .own s true::ps=>s.D×KD ps
 |_::ps=>KD ps
@[reducible] def RD:List Sh->Type
 |[]=>Unit
 |s::r=>s.D×RD r
structure qC where
 ps:List cd
 rs:List Sh
 pre:OD ps->List Prop
 F:OD ps->RD rs×KD ps
def jfM (P:Program) (H:Imm) (w:World):(p:cd)->Value->p.Data->List Nat->Prop
 | .val t,v,d,bs=>t.rv H v d/\bs=[]
 | .ref t,v,d,bs=>Vf H t v d/\bs=[]
 | .nil b,v,_,bs=>v=jfL b/\bs=[]
 | .clo f,v,_,bs=>v= .func (.func f) #[] #[]/\bs=[]
 | .fn ps rs,v,d,bs=>FnV P H ps rs d.pre d.F v/\bs=[]
 | .own s _,v,d,bs=>ShV H w s v d bs
def fx (P:Program) (H:Imm) (w:World):(ps:List cd)->List Value->OD ps->List Nat->Prop
 |[],vs,_,bs=>vs=[]/\bs=[]
 |p::ps,v::vs,d,bs=>∃a b,bs=a++b/\jfM P H w p v d.1 a/\fx P H w ps vs d.2 b
 |_::_,[],_,_=>False
def Zr (H:Imm) (w:World):(rs:List Sh)->List Value->RD rs->List Nat->Prop
 |[],vs,_,bs=>vs=[]/\bs=[]
 |s::rs,v::vs,d,bs=>∃a b,bs=a++b/\ShV H w s v d.1 a/\Zr H w rs vs d.2 b
 |_::_,[],_,_=>False
def jcx:List Value->Value
 |[v]=>v
 |vs=> .tuple vs.toArray
def xo (H:Imm) (w:World):(ps:List cd)->List Value->KD ps->List Nat->Prop
 |[],_,_,bs=>bs=[]
 | .own s true::ps,v::vs,d,bs=>∃a b,bs=a++b/\ShV H w s v d.1 a/\xo H w ps vs d.2 b
 | .own _ false::ps,_::vs,d,bs=>xo H w ps vs d bs
 | .val _::ps,_::vs,d,bs=>xo H w ps vs d bs
 | .ref _::ps,_::vs,d,bs=>xo H w ps vs d bs
 | .nil _::ps,_::vs,d,bs=>xo H w ps vs d bs
 | .clo _::ps,_::vs,d,bs=>xo H w ps vs d bs
 | .fn _ _::ps,_::vs,d,bs=>xo H w ps vs d bs
 |_::_,[],_,_=>False
def Lc (H:Imm) (w:World) (bs:List Nat) (s:qC) (vals:List Value) (d:OD s.ps):Ending->World->Prop:=
 fun e w'=>∃vs H' c a,e= .returned (jcx vs)/\jch bs H w H' w'/\Zr H' w' s.rs vs (s.F d).1 c/\xo H' w' s.ps vals (s.F d).2 a/\(c++a).Nodup/\∀b,b∈c++a->b∈bs\/w.heap.size<=b
structure ga (P:Program) (f:Nat) (s:qC):Prop where
 enters:enters P f
 calls:∀H w vals d bs,ir H w->fx P H w s.ps vals d bs->bs.Nodup->vI (s.pre d)->Calls P f vals.toArray w (Lc H w bs s vals d)
def df (i:Nat):Nat:=1000000+i
def VU (i j:Nat):Nat:=400000+20*i+j
def oSl:(ps:List cd)->OD ps->Nat->List (Nat×SV)
 |[],_,_=>[]
 | .val t::ps,d,i=>(i,.dat t d.1)::oSl ps d.2 (i+1)
 | .ref t::ps,d,i=>(i,.ep t d.1)::oSl ps d.2 (i+1)
 | .nil b::ps,d,i=>(i,.lit (jfL b))::oSl ps d.2 (i+1)
 | .clo f::ps,d,i=>(i,.clo f [])::oSl ps d.2 (i+1)
 | .fn a rs::ps,d,i=>(i,.fn a rs d.1.pre d.1.F)::oSl ps d.2 (i+1)
 | .own s _::ps,d,i=>(i,DZ (df i) s d.1)::oSl ps d.2 (i+1)
def oOb:(ps:List cd)->OD ps->Nat->List (Nat×Option Ob)
 |[],_,_=>[]
 | .own s _::ps,d,i=>oOb ps d.2 (i+1)++La (df i) (VU i) s d.1
 | .val _::ps,d,i=>oOb ps d.2 (i+1)
 | .ref _::ps,d,i=>oOb ps d.2 (i+1)
 | .nil _::ps,d,i=>oOb ps d.2 (i+1)
 | .clo _::ps,d,i=>oOb ps d.2 (i+1)
 | .fn _ _::ps,d,i=>oOb ps d.2 (i+1)
def OC:List cd->Nat->List Nat
 |[],_=>[]
 | .own s _::ps,i=>qY (df i) (VU i) s++OC ps (i+1)
 |_::ps,i=>OC ps (i+1)
def pz (k:Nat):Sh->SV
 | .cl (.row _ t _)=> .own k t
 | .cl (.map _ _)=> .mp k
 | .cl (.dat _)=> .any
 | .box _ _=> .bp k 0
 | .fbox f _ _=> .clo f [.bp k 0]
 | .agg _=> .any
def VV:Sh->Bool
 | .cl (.dat _)=>false
 | .agg _=>false
 |_=>true
def tB (σ:St):(rs:List Sh)->List ResultVar->Option (RD rs×List Nat×List Nat)
 |[],[]=>some ((),[],[])
 |s::rs,.tmp t::rv=>match DW σ s (σ.get t) with
  |some (x,os,f)=>match tB σ rs rv with
   |some (y,a,b)=>some ((x,y),os++a,f++b)
   |none=>none
  |none=>none
 |_,_=>none
def mS (C:Ctx) (σ:St):(rs:List Sh)->List ResultVar->Option (RD rs×List Nat×List Nat)
 |[],[]=>some ((),[],[])
 |s::rs,v::rv=>match DW σ s (xh C σ v) with
  |some (x,os,f)=>match mS C σ rs rv with
   |some (y,a,b)=>some ((x,y),os++a,f++b)
   |none=>none
  |none=>none
 |_,_=>none
def aH (σ:St):(ps:List cd)->Nat->Option (KD ps×List Nat×List Nat)
 |[],_=>some ((),[],[])
 | .own s true::ps,i=>match DW σ s (pz (df i) s) with
  |some (x,os,f)=>match aH σ ps (i+1) with
   |some (y,a,b)=>some ((x,y),os++a,f++b)
   |none=>none
  |none=>none
 | .own _ false::ps,i=>aH σ ps (i+1)
 | .val _::ps,i=>aH σ ps (i+1)
 | .ref _::ps,i=>aH σ ps (i+1)
 | .nil _::ps,i=>aH σ ps (i+1)
 | .clo _::ps,i=>aH σ ps (i+1)
 | .fn _ _::ps,i=>aH σ ps (i+1)
def gN:List Nat->Bool
 |[]=>true
 |o::r=>match aW r o with|true=>false|false=>gN r
def jcy (C:Ctx) (fn:Func) (s:qC) (want:RD s.rs×KD s.ps):Ex->St->Prop
 | .exit _,_=>False
 |_,σ=>match mS C σ s.rs fn.results.toList,aH σ s.ps 0 with
  |some (r,o1,a),some (k,o2,b)=>match gN (o1++o2),mB (a++b) (o1++o2) with
   |true,false=>r=want.1/\k=want.2
   |_,_=>False
  |_,_=>False
@[irreducible] def SR (C:Ctx) (A:Ann) (fn:Func) (body:Code) (s:qC):Prop:=
 ∀d:OD s.ps,Ih (s.pre d) (vcg C A body ⟨oSl s.ps d 0,oOb s.ps d 0⟩ (jcy C fn s (s.F d)))
section
variable {P:Program} {B:qw} {C:Ctx} {ρ:Env} {w:World}
theorem vA:∀(l:List Nat),gN l=true->l.Nodup
 |[],_=>List.nodup_nil
 |o::r,h=>by
  simp only[gN] at h
  split at h
  cases h
  rename_i a
  rw[zy]
  exact⟨yo a,vA r h⟩
theorem IN {k:Nat} {nm:Nat->Nat} {s:Sh} {x:s.D} {ob:List (Nat×Option Ob)} {n:Nat} (d:n∉qY k nm s) (h:vJ (oo ob) n):vJ (oo (La k nm s x++ob)) n:=by
 cases s with
 |cl c=>exact cG (ox k c x) h
 |box T cs=>
  intro o e fz b a;simp only[qY,jk,not_or] at d;simp only[La,j9] at a;rw[ra] at a;unfold u9 at a
  split at a
  simp at a;obtain⟨rfl,rfl,rfl⟩:=a;exact yU cs x 0 d.2;exact cG (ye nm cs x 0) h o e fz b a
 |fbox f T cs=>
  intro o e fz b a;simp only[qY,jk,not_or] at d;simp only[La,j9] at a;rw[ra] at a;unfold u9 at a
  split at a
  simp at a;obtain⟨rfl,rfl,rfl⟩:=a;exact yU cs x 0 d.2;exact cG (ye nm cs x 0) h o e fz b a
 |agg cs=>exact cG (ye (nmA k) cs x 0) h
theorem Re:∀(ps:List cd) (d:OD ps) (i s:Nat) (v:SV),wc (oSl ps d i) s=some v->i<=s
 |[],_,_,_,_,h=>by simp[oSl,wc] at h
 |p::ps,d,i,s,v,h=>by
  have:∃sv,oSl (p::ps) d i=(i,sv)::oSl ps d.2 (i+1):=by cases p<;>exact⟨_,rfl⟩
  obtain⟨sv,e⟩:=this
  rw[e] at h
  simp only[wc] at h
  cases a:Nat.beq i s with
  |true=>have:=jb a;omega
  |false=>rw[a] at h;have:=Re ps d.2 (i+1) s v h;omega
theorem CC:∀(ps:List cd) (i:Nat) {ob:List (Nat×Option Ob)} {ρ:Env} (_:Sat P B ρ (oo ob) w) {vs:List Value} {d:OD ps} {bs:List Nat} (_:fx P ρ.H w ps vs d bs) (_:bs.Nodup) (_:∀b,b∈bs->OkB B ρ b)
 (_:(OC ps i).Nodup) (_:∀n,n∈OC ps i->oo ob n=none/\vJ (oo ob) n),
 ∃r,rc P B ρ w ob (oOb ps d i) (OC ps i) bs r/\∀s v,wc (oSl ps d i) s=some v->∃x,vs[s-i]? =some x/\SV.den P r v x
 |[],i,ob,ρ,D,vs,d,bs,I,_,_,_,_=>by
  obtain⟨rfl,rfl⟩:=I
  exact⟨ρ,⟨D,Env.le.refl _ _,rfl,fun _ _=>⟨rfl,rfl⟩,fun _ _ _ h=> .inl h⟩,fun s v h=>by simp[oSl,wc] at h⟩
 |p::ps,i,ob,ρ,D,[],d,bs,I,_,_,_,_=>I.elim
 |p::ps,i,ob,ρ,D,v::vs,d,bs,I,hnd,hb,j,hk=>by
  obtain⟨S,V,rfl,y,X⟩:=I
  have plain:∀(sv:SV),S=[]->SV.den P ρ sv v->(∀o,sv.refs o=false)->oSl (p::ps) d i=(i,sv)::oSl ps d.2 (i+1)->oOb (p::ps) d i=oOb ps d.2 (i+1)->OC (p::ps) i=OC ps (i+1)->
   ∃r,rc P B ρ w ob (oOb (p::ps) d i) (OC (p::ps) i) (S++V) r/\∀s u,wc (oSl (p::ps) d i) s=some u->∃x,(v::vs)[s-i]? =some x/\SV.den P r u x:=by
   intro sv L G hr e2 e3 e4;subst L;rw[e4] at j hk⊢;rw[e3,e2];obtain⟨r,a,N⟩:=CC ps (i+1) D X (by simpa using hnd) (fun b g=>hb b (by simpa using g)) j hk;refine⟨r,by simpa using a,fun s u q=> ?_⟩;simp only[wc] at q;cases l:Nat.beq i s with
   |true=>
    have:=jb l;subst this;rw[l] at q;simp at q;subst q;exact⟨v,by simp,SV.den_mono a.le _ _ (fun o _=>hr o) G⟩
   |false=>
    rw[l] at q;have M:=Re ps d.2 (i+1) s u q;obtain⟨x,O,Q⟩:=N s u q;exact⟨x,by rw[show s-i=(s-(i+1))+1 by omega];simpa using O,Q⟩
  cases p with
  |val t=>exact plain (.dat t d.1) y.2 (by simp only[SV.den];exact y.1) (fun _=>rfl) rfl rfl rfl
  |ref t=>exact plain (.ep t d.1) y.2 (by simp only[SV.den];exact y.1) (fun _=>rfl) rfl rfl rfl
  |nil b=>exact plain (.lit (jfL b)) y.2 (by simp only[SV.den];exact y.1) (fun _=>rfl) rfl rfl rfl
  |clo f=>exact plain (.clo f []) y.2 (by simp only[SV.den,SV.denL];exact⟨#[],y.1,rfl⟩) (fun _=>rfl) rfl rfl rfl
  |fn qs rs=>exact plain (.fn qs rs d.1.pre d.1.F) y.2 (by simp only[SV.den];exact y.1) (fun _=>rfl) rfl rfl rfl
  |own s kp=>
   simp only[OC] at j hk⊢;rw[zK] at j hnd;obtain⟨n1,n2,W⟩:=j;obtain⟨Y,Z,d3⟩:=hnd;obtain⟨ρ1,A,L,_⟩:=OB D (s:=s) (k:=df i) (nm:=VU i) y Y (fun b g=>hb b (jh _ g)) n1 (fun n K=>hk n (jh _ K)) 0 0;obtain⟨R,C,N⟩:=CC ps (i+1) A.sat (vs:=vs) (d:=d.2) (bs:=V) (by
    rw[A.H];exact X) Z (fun b g=>⟨(hb b (jg _ g)).1,fun o C' h=>by
    rcases A.blk o b C' h with h|h;exact(hb b (jg _ g)).2 o C' h;exact d3 b h b g rfl⟩) n2 (fun n K=>by
    obtain⟨k1,k2⟩:=hk n (jg _ K);have j:n∉qY (df i) (VU i) s:=fun h=>W n h n K rfl
    exact⟨by rw[gA (by rw[mR];exact j)];exact k1,IN j k2⟩)
   refine⟨R,⟨by simp only[oOb,jJ];exact C.sat,?_,C.H.trans A.H,fun o z=> ?_,fun o b C' h=> ?_⟩,fun J u q=> ?_⟩;exact(A.le.weaken (fun o z=>jh _ z)).trans (C.le.weaken (fun o z=>jg _ z));simp only[ju,not_or] at z;obtain⟨s1,s2⟩:=A.same o z.1;obtain⟨s3,s4⟩:=C.same o z.2;exact⟨s3.trans s1,s4.trans s2⟩;rcases C.blk o b C' h with h|h;rcases A.blk o b C' h with h|h;exact .inl h;exact .inr (jh _ h);exact .inr (jg _ h);simp only[oSl,wc] at q;cases l:Nat.beq i J with
   |true=>
    have:=jb l;subst this;rw[l] at q;simp at q;subst q;refine⟨v,by simp,SV.den_mono C.le _ _ (fun o z=> ?_) L⟩;have:o∉qY (df i) (VU i) s:=fun h=>W o h o z rfl
    cases s with
    |cl c=>
     cases c with
     |dat t=>rfl
     |row E t nl=>
      have m:o≠df i:=fun e=>this (by simp[qY,y9,e])
      simp only[DZ,Kv,SV.refs];cases g:Nat.beq o (df i) with
      |false=>rfl
      |true=>exact absurd (jb g) m
     |map kt vt=>
      have m:o≠df i:=fun e=>this (by simp[qY,y9,e])
      simp only[DZ,Kv,SV.refs];cases g:Nat.beq o (df i) with
      |false=>rfl
      |true=>exact absurd (jb g) m
    |box T cs=>
     have m:o≠df i:=fun e=>this (by simp[qY,e])
     simp only[DZ,SV.refs];cases g:Nat.beq o (df i) with
     |false=>rfl
     |true=>exact absurd (jb g) m
    |fbox f T cs=>
     have m:o≠df i:=fun e=>this (by simp[qY,e])
     simp only[DZ,SV.refs,SV.refs.refsL];cases g:Nat.beq o (df i) with
     |false=>simp
     |true=>exact absurd (jb g) m
    |agg cs=>simp only[DZ,SV.refs];exact yU cs d.1 0 this
   |false=>
    rw[l] at q;have M:=Re ps d.2 (i+1) J u q;obtain⟨x,O,Q⟩:=N J u q;exact⟨x,by rw[show J-i=(J-(i+1))+1 by omega];simpa using O,Q⟩
theorem mT {H:Imm}:∀(ps:List cd) (vs:List Value) (d:OD ps) (bs:List Nat),fx P H w ps vs d bs->vs.length=ps.length
 |[],vs,d,bs,h=>by obtain⟨rfl,_⟩:=h;rfl
 |p::ps,[],d,bs,h=>h.elim
 |p::ps,v::vs,d,bs,h=>by
  obtain⟨_,a,_,_,h⟩:=h
  simp[mT ps vs d.2 a h]
theorem Rf {B':qw} {obj:Nat->Option Ob} (h:Sat P B ρ obj w) (a:B'.w=B.w) (c:B'.H=B.H) (b:B'.bor=B.bor):Sat P B' ρ obj w:=
 ⟨by rw[a];exact h.os,by rw[a];exact h.tape,by rw[a];exact h.output,by rw[a];exact h.drawn,by rw[a];exact h.size,h.good,by rw[a,c,b];exact h.oldH,by rw[a,b];exact h.old,h.obs,h.dead,h.inj,by rw[a,b];exact h.own⟩
theorem VW {b:Env} {k:Nat} {s:Sh} {x:s.D} {v:Value} (d:∀p,b.blk k=some p->ρ.blk k=some p/\b.len k=ρ.len k) (h:SV.den P ρ (DZ k s x) v):SV.den P b (pz k s) v:=by
 cases s with
 |cl c=>
  cases c with
  |dat t=>simp[pz,SV.den]
  |row E t nl=>
   simp only[DZ,Kv,pz,SV.den] at h⊢;intro p a;obtain⟨g,i⟩:=d p a;rw[i];exact h p g
  |map kt vt=>
   simp only[DZ,Kv,pz,SV.den] at h⊢;intro p a;exact h p (d p a).1
 |box T cs=>
  simp only[DZ,pz,SV.den] at h⊢;intro p a;exact h p (d p a).1
 |fbox f T cs=>
  simp only[DZ,pz,SV.den,SV.denL] at h⊢;obtain⟨lb,e,u,r,j,m,l⟩:=h;exact⟨lb,e,u,r,j,fun p a=>m p (d p a).1,l⟩
 |agg cs=>simp[pz,SV.den]
theorem AS {σ τ:St} {fz:List Nat} (c:Sat P B ρ τ.obj w) (b:Frz σ τ fz) {tmps:Array Value} (d:∀s,SV.den P ρ (σ.get s) (tmps.getD s undef)):
 ∀(rs:List Sh) (rv:List ResultVar) (r:RD rs) (os f:List Nat),tB σ rs rv=some (r,os,f)->(∀o,o∈f->o∈fz)->tu σ τ os->
  ∃ss:List Nat,rv=ss.map ResultVar.tmp/\Zr ρ.H w rs (ss.map fun s=>tmps.getD s undef) r (wV ρ os)
 |[],[],r,os,f,h,_,_=>by
  simp[tB] at h
  obtain⟨rfl,rfl⟩:=h
  exact⟨[],rfl,rfl,rfl⟩
 |[],_::_,r,os,f,h,_,_=>by simp[tB] at h
 |_::_,[],r,os,f,h,_,_=>by simp[tB] at h
 |s::rs,.cell _ _::rv,r,os,f,h,_,_=>by simp[tB] at h
 |s::rs,.tmp t::rv,r,os,f,h,hf,hk=>by
  simp only[tB] at h
  split at h
  case h_2=>cases h
  rename_i x o1 l j
  split at h
  case h_2=>cases h
  rename_i y o2 g k
  simp at h
  obtain⟨rfl,rfl,rfl⟩:=h
  obtain⟨ss,e,i⟩:=AS c b d rs rv y o2 g k (fun o a=>hf o (jg _ a)) (fun o a=>hk o (jg _ a))
  exact⟨t::ss,by simp[e],wV ρ o1,wV ρ o2,v7 ρ o1 o2,cF c b j (fun o a=>hf o (jh _ a)) (fun o a=>hk o (jh _ a)) (d t),i⟩
theorem VX {σ:St}:∀{s:Sh},DW σ s .any=none
 | .cl (.dat t)=>by simp only[DW,SP,K6]
 | .cl (.row _ _ _)=>rfl
 | .cl (.map _ _)=>rfl
 | .box _ _=>rfl
 | .fbox _ _ _=>rfl
 | .agg _=>rfl
theorem tC {σ τ:St} {fz:List Nat} {a:Act} (i:C.ok P) (d:Sat P B ρ τ.obj w) (c:Frz σ τ fz) (j:∀s,SV.den P ρ (σ.get s) (a.tmps.getD s undef)):
 ∀(rs:List Sh) (rv:List ResultVar) (r:RD rs) (os f:List Nat),mS C σ rs rv=some (r,os,f)->(∀o,o∈f->o∈fz)->tu σ τ os->
  ∃vs:List Value,iP P w a.tmps rv vs/\Zr ρ.H w rs vs r (wV ρ os)
 |[],[],r,os,f,h,_,_=>by
  simp[mS] at h
  obtain⟨rfl,rfl⟩:=h
  exact⟨[],rfl,rfl,rfl⟩
 |[],_::_,r,os,f,h,_,_=>by simp[mS] at h
 |_::_,[],r,os,f,h,_,_=>by simp[mS] at h
 |s::rs,t::rv,r,os,f,h,hf,hk=>by
  simp only[mS] at h
  split at h
  case h_2=>cases h
  rename_i x o1 q g
  split at h
  case h_2=>cases h
  rename_i y o2 k p
  simp at h
  obtain⟨rfl,rfl,rfl⟩:=h
  obtain⟨vs,e,n⟩:=tC i d c j rs rv y o2 k p (fun o b=>hf o (jg _ b)) (fun o b=>hk o (jg _ b))
  obtain⟨u,l,m⟩:=DR i d c j t (fun e=>by rw[e,VX] at g;cases g)
  exact⟨u::vs,⟨l,e⟩,wV ρ o1,wV ρ o2,v7 ρ o1 o2,cF d c g (fun o b=>hf o (jh _ b)) (fun o b=>hk o (jh _ b)) m,n⟩
theorem qU {σ τ:St} {fz:List Nat} (e:Sat P B ρ τ.obj w) (d:Frz σ τ fz):
 ∀(ps:List cd) (i:Nat) (vs:List Value) (k:KD ps) (os f:List Nat),aH σ ps i=some (k,os,f)->vs.length=ps.length->(∀(j:Nat) s b v,ps[j]? =some (.own s b)->vs[j]? =some v->SV.den P ρ (pz (df (i+j)) s) v)->
  (∀o,o∈f->o∈fz)->tu σ τ os->xo ρ.H w ps vs k (wV ρ os)
 |[],i,vs,k,os,f,h,_,_,_,_=>by
  simp[aH] at h
  obtain⟨rfl,rfl⟩:=h
  exact rfl
 |p::ps,i,[],k,os,f,h,hl,_,_,_=>by simp at hl
 |p::ps,i,v::vs,k,os,f,h,hl,hd,hf,hk=>by
  have a:∀(j:Nat) s b u,ps[j]? =some (.own s b)->vs[j]? =some u->SV.den P ρ (pz (df (i+1+j)) s) u:=fun j s b u n q=>by
   have:=hd (j+1) s b u (by simpa using n) (by simpa using q)
   rwa [show i+(j+1)=i+1+j by omega] at this
  have c:vs.length=ps.length:=by simpa using hl
  cases p with
  |val t=>exact qU e d ps (i+1) vs k os f h c a hf hk
  |ref t=>exact qU e d ps (i+1) vs k os f h c a hf hk
  |nil _=>exact qU e d ps (i+1) vs k os f h c a hf hk
  |clo _=>exact qU e d ps (i+1) vs k os f h c a hf hk
  |fn C rs=>exact qU e d ps (i+1) vs k os f h c a hf hk
  |own s b=>
   cases b with
   |false=>exact qU e d ps (i+1) vs k os f h c a hf hk
   |true=>
    simp only[aH] at h
    split at h
    case h_2=>cases h
    rename_i x o1 A r
    split at h
    case h_2=>cases h
    rename_i y o2 l z
    simp at h
    obtain⟨rfl,rfl,rfl⟩:=h
    have m:=hd 0 s true v rfl rfl
    exact⟨wV ρ o1,wV ρ o2,v7 ρ o1 o2,cF e d r (fun o g=>hf o (jh _ g)) (fun o g=>hk o (jh _ g)) m,
     qU e d ps (i+1) vs y o2 l z c a (fun o g=>hf o (jg _ g)) (fun o g=>hk o (jg _ g))⟩
theorem IP:∀(ps:List cd) (d:OD ps) (i j:Nat) s b,ps[j]? =some (.own s b)->∃x:s.D,wc (oSl ps d i) (i+j)=some (DZ (df (i+j)) s x)
 |[],d,i,j,s,b,h=>by simp at h
 |p::ps,d,i,j,s,b,h=>by
  have:∃sv,oSl (p::ps) d i=(i,sv)::oSl ps d.2 (i+1):=by cases p<;>exact⟨_,rfl⟩
  obtain⟨sv,e⟩:=this
  cases j with
  |zero=>
   simp at h
   subst h
   exact⟨d.1,by simp[oSl,wc]⟩
  |succ j=>
   obtain⟨x,a⟩:=IP ps d.2 (i+1) j s b (by simpa using h)
   refine⟨x,?_⟩
   rw[e,wa (by omega),show i+(j+1)=i+1+j by omega]
   exact a
theorem jeA (hC:C.ok P) (hm:P.follows .mixedOrders=true) {f:Nat} {fn:Func} {body:Code} {s:qC} (hf:P.funcs[f]? =some fn) (g:fn.body=some body)
 (I:(fn.name== "runtime.NumGoroutine")=false) (hn:fn.ntmps=C.n) (hps:s.ps.length<=C.n) (hnm:gN (OC s.ps 0)=true) (A:Ann) (h:SR C A fn body s):ga P f s:=by
 unfold SR at h;refine⟨qQ hf g I,fun H w vals d bs hg i hnd O=> ?_⟩;have M:=mT s.ps vals d bs i;refine calls_of_wp hf g ?_;have hv:=bi _ _ (h d) O
 let B0:qw:=⟨w,H,bs,fun _=>none,fun _=>0⟩
 let t:Env:=⟨H,fun _=>none,fun _=>0⟩
 have hS0:Sat P B0 t (oo []) w:=by
  refine⟨rfl,rfl,rfl,jj _,jj _,hg,fun _ _ _=>rfl,fun _ _ _=>rfl,?_,fun _ _=>rfl,?_,?_⟩
  .intro o x hx;simp[oo,St.obj,wc] at hx
  .intro o o' b C1 C2 q;simp[t] at q
  .intro o b C1 q;simp[t] at q
 obtain⟨z,a,S⟩:=CC s.ps 0 hS0 (d:=d) i hnd (fun b g=>⟨.inr g,fun o C' h=>by simp[t] at h⟩) (vA _ hnm)
  (fun n _=>⟨by simp[oo,St.obj,wc],fun o T fz cs h=>by simp[oo,St.obj,wc] at h⟩)
 let B:qw:=⟨w,H,bs,z.blk,z.len⟩
 have hSf:Sat P B z (⟨oSl s.ps d 0,oOb s.ps d 0⟩:St).obj w:=by
  have:=Rf (B':=B) a.sat rfl rfl rfl;rw[jY] at this;exact this
 have hR:Rel P B C.n ⟨oSl s.ps d 0,oOb s.ps d 0⟩ {tmps:=vals.toArray++Array.replicate (fn.ntmps-vals.toArray.size) undef,defers:=[]} w:=by
  refine⟨rfl,by simp;omega,z,hSf,?_,fun o p _ X=>⟨X,rfl⟩,fun _ _ g=>by rw[a.H];exact g⟩;intro k v hk;obtain⟨x,q,h2⟩:=S k v hk;have N:=(jo.1 q).1;simp only[Nat.sub_zero] at q N;have:(vals.toArray++Array.replicate (fn.ntmps-vals.toArray.size) undef).getD k undef=x:=by
   rw[jq,zn (by simpa using N)];simp[q]
  rw[this];exact h2
 refine yj hC hm A body _ _ _ _ w hv hR (fun e σ V w' _ Y Z=> ?_);have D:(match mS C σ s.rs fn.results.toList,aH σ s.ps 0 with
  |some (r,o1,W),some (k,o2,J)=>match gN (o1++o2),mB (W++J) (o1++o2) with
   |true,false=>r=(s.F d).1/\k=(s.F d).2
   |_,_=>False
  |_,_=>False)->V.defers=[]/\∃v,(Go.results fn V.tmps).run P w'= .ok v w'/\Lc H w bs s vals d (.returned v) w':=by
  intro Q
  split at Q
  case h_2=>exact Q.elim
  rename_i r o1 W k o2 J R G
  split at Q
  case h_2=>exact Q.elim
  rename_i hno hme;obtain⟨hr1,hr2⟩:=Q;obtain⟨q,h2,ρ',hS',hSl,K⟩:=Z;obtain⟨u,c,hle,L,hln⟩:=wF (σ:=σ) (W++J) hS';have hd:∀k,SV.den P u (σ.get k) (V.tmps.getD k undef):=by
   intro k;have:=wu (P:=P) (a:=V) hSl (.tmp k);exact SV.den_mono hle _ _ (fun o m=>by simp at m) this
  have l:tu σ (σ.frz (W++J)) (o1++o2):=by
   intro o m;rw[q9,jc];exact fun hm=>yd _ _ hme o hm m
  obtain⟨us,e1,e2⟩:=tC hC c (v6 σ _) hd s.rs _ _ _ _ R (fun o m=>jh _ m) (fun o m=>l o (jh _ m));have e3:=qU c (v6 σ _) s.ps 0 vals k o2 J G M (fun j sh b v hj hvj=>by
   obtain⟨x,hx⟩:=IP s.ps d 0 j sh b hj;obtain⟨y,y1,y2⟩:=S (0+j) _ hx;have:y=v:=by
    rw[show 0+j-0=j by omega,hvj] at y1;simpa using y1.symm
   subst this;refine VW (fun p X=> ?_) y2;rw[L] at X;obtain⟨q1,q2⟩:=K.1 (df (0+j)) p (by unfold df;omega) X;exact⟨q1,by rw[hln];exact q2⟩) (fun o m=>jg _ m) (fun o m=>l o (jg _ m))
  refine⟨q,_,gM e1,us,u.H,wV u o1,wV u o2,rfl,?_,by rw[<-hr1];exact e2,by rw[<-hr2];exact e3,?_,?_⟩
  .exact⟨c.os,c.tape,c.output,c.drawn,c.size,fun b g E=>c.old b g E,fun b g E=>c.oldH b g E,c.good⟩
  .rw[<-v7];exact aG c _ (vA _ hno)
  .rw[<-v7];intro b g;obtain⟨o,Cp,_,h3⟩:=(wW _).1 g;rcases c.own o b Cp h3 with h|h
   .exact .inr h
   .exact .inl h
 cases e with
 |normal=>exact D Y
 |ret=>exact D Y
 |exit id=>exact Y.elim
end
end Go.X
namespace Go.X
open Go.RowKit (Below)
def tD:SV->Option Nat
 | .own o _=>some o
 | .mp o=>some o
 | .bp o 0=>some o
 | .clo _ [.bp o 0]=>some o
 |_=>none
def F8 (C:Ctx) (σ:St):(p:cd)->SV->Option (p.Data×List Nat×List Nat)
 | .val t,v=>match yF σ t v with|some (x,f)=>some (x,[],f)|none=>none
 | .ref t,v=>match NU σ t v with|some (x,f)=>some (x,[],f)|none=>none
 | .nil b,v=>match v with| .lit u=>(match VT b u with|true=>some ((),[],[])|false=>none)|_=>none
 | .clo f,v=>match v with| .clo g []=>(match Nat.beq g f with|true=>some ((),[],[])|false=>none)|_=>none
 | .fn ps rs,v=>match jb1 C σ ps rs v with|some (x,f)=>some (x,[],f)|none=>none
 | .own s true,v=>match VV s,tD v with
  |true,some _=>DW σ s v
  |_,_=>none
 | .own s false,v=>match VV s with|true=>DW σ s v|false=>none
def OE (C:Ctx) (σ:St):(ps:List cd)->List SV->Option (OD ps×List Nat×List Nat)
 |[],[]=>some ((),[],[])
 |p::ps,v::vs=>match F8 C σ p v with
  |some (x,os,f)=>match OE C σ ps vs with
   |some (y,a,b)=>some ((x,y),os++a,f++b)
   |none=>none
  |none=>none
 |_,_=>none
def D1 (v:SV):Nat:=match tD v with|some o=>o|none=>0
def kn (dst i j:Nat):Nat:=1000*(dst+1)+50*i+j
def rn (dst j:Nat):Nat:=match j with|0=>dst|_=>1000*(dst+1)+900+j
def rnn (dst j i:Nat):Nat:=1000*(dst+1)+500+50*j+i
def vG (dst:Nat):(ps:List cd)->List SV->KD ps->Nat->List (Nat×Option Ob)
 | .own s true::ps,v::vs,d,i=>vG dst ps vs d.2 (i+1)++La (D1 v) (kn dst i) s d.1
 | .own _ false::ps,_::vs,d,i=>vG dst ps vs d (i+1)
 | .val _::ps,_::vs,d,i=>vG dst ps vs d (i+1)
 | .ref _::ps,_::vs,d,i=>vG dst ps vs d (i+1)
 | .nil _::ps,_::vs,d,i=>vG dst ps vs d (i+1)
 | .clo _::ps,_::vs,d,i=>vG dst ps vs d (i+1)
 | .fn _ _::ps,_::vs,d,i=>vG dst ps vs d (i+1)
 |_,_,_,_=>[]
def w9 (dst:Nat):List cd->List SV->Nat->List Nat
 | .own s true::ps,v::vs,i=>qY (D1 v) (kn dst i) s++w9 dst ps vs (i+1)
 | .own _ false::ps,_::vs,i=>w9 dst ps vs (i+1)
 | .val _::ps,_::vs,i=>w9 dst ps vs (i+1)
 | .ref _::ps,_::vs,i=>w9 dst ps vs (i+1)
 | .nil _::ps,_::vs,i=>w9 dst ps vs (i+1)
 | .clo _::ps,_::vs,i=>w9 dst ps vs (i+1)
 | .fn _ _::ps,_::vs,i=>w9 dst ps vs (i+1)
 |_,_,_=>[]
def qo (dst:Nat):List cd->List SV->Nat->List Nat
 | .own (.box _ cs) true::ps,_::vs,i=>yK (kn dst i) cs 0++qo dst ps vs (i+1)
 | .own (.fbox _ _ cs) true::ps,_::vs,i=>yK (kn dst i) cs 0++qo dst ps vs (i+1)
 | .own (.agg cs) true::ps,v::vs,i=>yK (nmA (D1 v)) cs 0++qo dst ps vs (i+1)
 | .own _ _::ps,_::vs,i=>qo dst ps vs (i+1)
 | .val _::ps,_::vs,i=>qo dst ps vs (i+1)
 | .ref _::ps,_::vs,i=>qo dst ps vs (i+1)
 | .nil _::ps,_::vs,i=>qo dst ps vs (i+1)
 | .clo _::ps,_::vs,i=>qo dst ps vs (i+1)
 | .fn _ _::ps,_::vs,i=>qo dst ps vs (i+1)
 |_,_,_=>[]
def iT (dst:Nat):(rs:List Sh)->RD rs->Nat->List (Nat×Option Ob)
 |[],_,_=>[]
 |s::rs,d,j=>iT dst rs d.2 (j+1)++La (rn dst j) (rnn dst j) s d.1
def aw (dst:Nat):List Sh->Nat->List Nat
 |[],_=>[]
 |s::rs,j=>qY (rn dst j) (rnn dst j) s++aw dst rs (j+1)
def tE (dst:Nat):(rs:List Sh)->RD rs->Nat->List SV
 |[],_,_=>[]
 |s::rs,d,j=>DZ (rn dst j) s d.1::tE dst rs d.2 (j+1)
def Ld:List SV->SV
 |[v]=>v
 |vs=> .tup vs
def mU:List Nat->List (Nat×Option Ob)
 |[]=>[]
 |o::r=>(o,none)::mU r
def CD (σ:St):List Nat->Bool
 |[]=>true
 |n::r=>match σ.obj n,ay n σ.ob with
  |none,true=>CD σ r
  |_,_=>false
def D2 (C:Ctx) (s:qC) (dst:Nat) (σ:St) (svs:List SV):Option Out:=
 match OE C σ s.ps svs with
 |none=>none
 |some (d,os,fz)=>match gN os,mB fz os,gN (aw dst s.rs 0++w9 dst s.ps svs 0),CD σ (aw dst s.rs 0++qo dst s.ps svs 0) with
  |true,false,true,true=>some ⟨s.pre d,[],Ld (tE dst s.rs (s.F d).1 0),fz,vG dst s.ps svs (s.F d).2 0++(iT dst s.rs (s.F d).1 0++mU os),aw dst s.rs 0++qo dst s.ps svs 0⟩
  |_,_,_,_=>none
def jf4 (C:Ctx) (l:List (Nat×qC)) (f dst:Nat) (σ:St) (svs:List SV):Option Out:=
 match wc l f with
 |some s=>D2 C s dst σ svs
 |none=>none
section
variable {P:Program} {B:qw} {C:Ctx} {σ τ:St} {ρ:Env} {w:World}
theorem VY {b:Bool} {v:Value} (h:VT b v=true):v=jfL b:=by
 cases b with
 |true=>
  simp only[VT,xc] at h
  split at h
  rfl;cases h
 |false=>exact yz h
theorem OF (k:C.ok P) (e:Sat P B ρ τ.obj w) {fz:List Nat} (d:Frz σ τ fz) {p:cd} {sv:SV} {x:p.Data} {os f:List Nat} (h:F8 C σ p sv=some (x,os,f)) (i:∀o,o∈f->o∈fz) (hk:tu σ τ os)
 {v:Value} (a:SV.den P ρ sv v):jfM P ρ.H w p v x (wV ρ os):=by
 cases p with
 |val t=>
  simp only[F8] at h
  split at h
  .rename_i y j g;simp at h;obtain⟨rfl,rfl,rfl⟩:=h;exact⟨we e d g i a,rfl⟩
  .cases h
 |ref t=>
  simp only[F8] at h
  split at h
  .rename_i y j g;simp at h;obtain⟨rfl,rfl,rfl⟩:=h;exact⟨iB e d g i a,rfl⟩
  .cases h
 |nil _=>
  simp only[F8] at h
  split at h
  case h_2=>cases h
  split at h
  case h_2=>cases h
  rename_i m;simp at h;obtain⟨rfl,rfl⟩:=h;simp only[SV.den] at a;exact⟨by rw[a,VY m],rfl⟩
 |clo f=>
  simp only[F8] at h
  split at h
  case h_2=>cases h
  split at h
  case h_2=>cases h
  rename_i l;simp at h;obtain⟨rfl,rfl⟩:=h;simp only[SV.den,SV.denL] at a;obtain⟨vs,rfl,c⟩:=a;have c:vs= #[]:=jL.1 (by simpa using c);have:=jb l;subst this;subst c;exact⟨rfl,rfl⟩
 |fn ps rs=>
  simp only[F8] at h
  split at h
  .rename_i y j g;simp at h;obtain⟨rfl,rfl,rfl⟩:=h;exact⟨Hd k e d g i a,rfl⟩
  .cases h
 |own s b=>
  cases b with
  |true=>
   simp only[F8] at h
   split at h
   .exact cF e d h i hk a
   .cases h
  |false=>
   simp only[F8] at h
   split at h
   .exact cF e d h i hk a
   .cases h
theorem Hw (c:C.ok P) (g:Sat P B ρ τ.obj w) {fz:List Nat} (e:Frz σ τ fz):∀{ps:List cd} {svs:List SV} {d:OD ps} {os f:List Nat},OE C σ ps svs=some (d,os,f)->(∀o,o∈f->o∈fz)->tu σ τ os->
 ∀{vs:List Value},SV.denL P ρ svs vs->fx P ρ.H w ps vs d (wV ρ os)
 |[],[],d,os,f,h,_,_,vs,b=>by
  simp[OE] at h
  obtain⟨rfl,rfl⟩:=h
  simp[SV.denL] at b
  exact⟨b,rfl⟩
 |[],_::_,d,os,f,h,_,_,vs,b=>by simp[OE] at h
 |_::_,[],d,os,f,h,_,_,vs,b=>by simp[OE] at h
 |p::ps,sv::svs,d,os,f,h,hf,hk,vs,b=>by
  simp only[OE] at h
  split at h
  case h_2=>cases h
  rename_i x o1 m i
  split at h
  case h_2=>cases h
  rename_i y o2 n j
  simp at h
  obtain⟨rfl,rfl,rfl⟩:=h
  simp only[SV.denL] at b
  obtain⟨v,r,rfl,k,l⟩:=b
  exact⟨wV ρ o1,wV ρ o2,v7 ρ o1 o2,OF c g e i (fun o a=>hf o (jh _ a)) (fun o a=>hk o (jh _ a)) k,
   Hw c g e j (fun o a=>hf o (jg _ a)) (fun o a=>hk o (jg _ a)) l⟩
theorem jeB {H:Imm} {c:Cl} {v:Value} {x:c.D} {bs:List Nat} (h:ClV H w c v x bs):∀b,b∈bs->H b=none:=by
 intro b a;cases c with
 |dat t=>obtain⟨_,rfl⟩:=h;simp at a
 |row E t nl=>
  rcases h.2 with⟨_,_,_,rfl⟩|⟨e,_,_,_,rfl,d,_⟩;simp at a;simp at a;subst a;exact d
 |map kt vt=>obtain⟨e,_,_,_,rfl,d,_⟩:=h;simp at a;subst a;exact d
theorem Rg {H:Imm}:∀(cs:List Cl) (vs:List Value) (x:Cl.Ds cs) (bs:List Nat),YR H w cs vs x bs->∀b,b∈bs->H b=none
 |[],vs,x,bs,h,b,a=>by obtain⟨_,rfl⟩:=h;simp at a
 |c::cs,[],x,bs,h,b,a=>h.elim
 |c::cs,v::vs,x,bs,h,b,a=>by
  obtain⟨g,d,rfl,e,_,f⟩:=h
  rcases ju.1 a with a|a
  exact jeB e b a
  exact Rg cs vs x.2 d f b a
theorem jf5 {H:Imm} {s:Sh} {v:Value} {x:s.D} {bs:List Nat} (h:ShV H w s v x bs):∀b,b∈bs->H b=none:=by
 intro b d;cases s with
 |cl c=>exact jeB h b d
 |box T cs=>
  obtain⟨g,vs,bs',_,rfl,e,_,a⟩:=h;rcases jk.1 d with rfl|d;exact e;exact Rg cs _ x bs' a b d
 |fbox f T cs=>
  obtain⟨g,vs,bs',_,rfl,e,_,a⟩:=h;rcases jk.1 d with rfl|d;exact e;exact Rg cs _ x bs' a b d
 |agg cs=>
  obtain⟨vs,_,a⟩:=h;exact Rg cs _ x bs a b d
theorem VZ {H:Imm}:∀(ps:List cd) (vs:List Value) (d:OD ps) (bs:List Nat),fx P H w ps vs d bs->∀b,b∈bs->H b=none
 |[],vs,d,bs,h,b,a=>by obtain⟨_,rfl⟩:=h;simp at a
 |p::ps,[],d,bs,h,b,a=>h.elim
 |p::ps,v::vs,d,bs,h,b,a=>by
  obtain⟨g,e,rfl,c,f⟩:=h
  rcases ju.1 a with a|a
  cases p with
  |val t=>obtain⟨_,rfl⟩:=c;simp at a
  |ref t=>obtain⟨_,rfl⟩:=c;simp at a
  |nil _=>obtain⟨_,rfl⟩:=c;simp at a
  |clo _=>obtain⟨_,rfl⟩:=c;simp at a
  |fn i rs=>obtain⟨_,rfl⟩:=c;simp at a
  |own s k=>exact jf5 c b a
  exact VZ ps vs d.2 e f b a
def tF (ρ:Env):List cd->List SV->List Value->Prop
 | .own s true::ps,sv::svs,v::vs=>(∃a b,ρ.blk (D1 sv)=some (SQ a s v)/\ρ.len (D1 sv)=VR b s v)/\tF ρ ps svs vs
 | .own _ false::ps,_::svs,_::vs=>tF ρ ps svs vs
 | .val _::ps,_::svs,_::vs=>tF ρ ps svs vs
 | .ref _::ps,_::svs,_::vs=>tF ρ ps svs vs
 | .nil _::ps,_::svs,_::vs=>tF ρ ps svs vs
 | .clo _::ps,_::svs,_::vs=>tF ρ ps svs vs
 | .fn _ _::ps,_::svs,_::vs=>tF ρ ps svs vs
 |_,_,_=>True
theorem jcz (m:Sat P B ρ τ.obj w) {s:Sh} {sv:SV} {x:s.D} {os f:List Nat} (h:DW σ s sv=some (x,os,f)) (z:VV s=true) {r:Nat} (e:tD sv=some r) (hk:tu σ τ os) {v:Value} (i:SV.den P ρ sv v):
 r∈os/\∃j I,ρ.blk r=some (SQ j s v)/\ρ.len r=VR I s v:=by
 unfold DW at h
 split at h
 .rename_i c;unfold SP at h
  split at h
  .cases z
  .rename_i E t nl o u;simp[tD] at e;subst e
   split at h
   case h_2=>cases h
   rename_i M O J l k
   split at h
   case h_2=>cases h
   simp at h;obtain⟨_,rfl,_⟩:=h;have a:=hk o (by simp);rw[k] at a;obtain⟨p,d,_⟩:=m.obs o _ a;simp only[SV.den] at i;have i:=i p d;refine⟨by simp,0,0,?_⟩;cases p with
   |none=>obtain⟨y,K⟩:=i;subst y;exact⟨d,K⟩
   |some q=>obtain⟨y,_⟩:=i;subst y;exact⟨d,rfl⟩
  .rename_i E t nl o u n;simp[tD] at e
  .rename_i E t nl u;simp[tD] at e
  .rename_i kt vt o;simp[tD] at e;subst e
   split at h
   case h_2=>cases h
   rename_i H L l k
   split at h
   case h_2=>cases h
   simp at h;obtain⟨_,rfl,_⟩:=h;have a:=hk o (by simp);rw[k] at a;obtain⟨p,d,A⟩:=m.obs o _ a;simp only[SV.den] at i;obtain⟨b,j,rfl,rfl⟩:=i p d;exact⟨by simp,j,ρ.len o,d,rfl⟩
  .cases h
 .rename_i T cs o;simp[tD] at e;subst e
  split at h
  case h_2=>cases h
  rename_i C vs k
  split at h
  case h_2=>cases h
  simp at h;obtain⟨_,rfl,_⟩:=h;have a:=hk o (by simp);rw[k] at a;obtain⟨p,d,A⟩:=m.obs o _ a;simp only[SV.den] at i;obtain⟨b,j,rfl,rfl⟩:=i p d;exact⟨by simp,j,ρ.len o,d,rfl⟩
 .rename_i g T cs N o;simp[tD] at e;subst e
  split at h
  case h_2=>cases h
  rename_i C vs k
  split at h
  case h_2=>cases h
  simp at h;obtain⟨_,rfl,_⟩:=h;have a:=hk o (by simp);rw[k] at a;obtain⟨p,d,A⟩:=m.obs o _ a;simp only[SV.den,SV.denL] at i;obtain⟨lb,rfl,u,r,F,G,e⟩:=i;obtain⟨b,j,rfl,rfl⟩:=G p d;subst e;refine⟨by simp,j,ρ.len o,?_,rfl⟩;simp only[SQ,F];exact d
 .cases z
 .cases h
theorem Hx (A:Sat P B ρ τ.obj w):∀{ps:List cd} {svs:List SV} {d:OD ps} {os f:List Nat},OE C σ ps svs=some (d,os,f)->tu σ τ os->
 ∀{vs:List Value},SV.denL P ρ svs vs->tF ρ ps svs vs/\∀dst i n,n∈w9 dst ps svs i->n∈os\/n∈qo dst ps svs i
 |[],[],d,os,f,h,_,vs,m=>⟨trivial,fun dst i n a=>by simp[w9] at a⟩
 |[],_::_,d,os,f,h,_,vs,m=>by simp[OE] at h
 |_::_,[],d,os,f,h,_,vs,m=>by simp[OE] at h
 |p::ps,sv::svs,d,os,f,h,hk,vs,m=>by
  simp only[OE] at h
  split at h
  case h_2=>cases h
  rename_i x o1 J q
  split at h
  case h_2=>cases h
  rename_i y o2 K D
  simp at h
  obtain⟨rfl,rfl,rfl⟩:=h
  simp only[SV.denL] at m
  obtain⟨v,r,rfl,H,I⟩:=m
  obtain⟨k,F⟩:=Hx A D (fun o u=>hk o (jg _ u)) I
  have e:∀dst i n,n∈w9 dst ps svs (i+1)->n∈o1++o2\/n∈qo dst ps svs (i+1):=fun dst i n a=>by
   rcases F dst (i+1) n a with h|h
   .exact .inl (jg _ h)
   .exact .inr h
  cases p with
  |val t=>exact⟨k,fun dst i n a=>e dst i n a⟩
  |ref t=>exact⟨k,fun dst i n a=>e dst i n a⟩
  |nil _=>exact⟨k,fun dst i n a=>e dst i n a⟩
  |clo _=>exact⟨k,fun dst i n a=>e dst i n a⟩
  |fn L rs=>exact⟨k,fun dst i n a=>e dst i n a⟩
  |own s b=>
   cases b with
   |false=>exact⟨k,fun dst i n a=>by
    have:=e dst i n a
    cases s<;>exact this⟩
   |true=>
    simp only[F8] at q
    split at q
    case h_2=>cases q
    rename_i rt j l
    obtain⟨z,G⟩:=jcz A q j l (fun o u=>hk o (jh _ u)) H
    have g:D1 sv=rt:=by unfold D1;rw[l]
    refine⟨⟨by rw[g];exact G,k⟩,fun dst i n a=> ?_⟩
    simp only[w9,ju] at a
    rcases a with a|a
    .cases s with
     |cl c=>
      have:n=rt:=by
       cases c with
       |dat t=>cases j
       |row E t nl=>simpa[qY,y9,g] using a
       |map kt vt=>simpa[qY,y9,g] using a
      subst this;exact .inl (jh _ z)
     |box T cs=>
      simp only[qY,jk] at a;rcases a with a|a
      .rw[g] at a;subst a;exact .inl (jh _ z)
      .exact .inr (by simp only[qo];exact jh _ a)
     |fbox f T cs=>
      simp only[qY,jk] at a;rcases a with a|a
      .rw[g] at a;subst a;exact .inl (jh _ z)
      .exact .inr (by simp only[qo];exact jh _ a)
     |agg cs=>cases j
    .rcases e dst i n a with h|h
     .exact .inl h
     .refine .inr ?_;cases s with
      |cl c=>exact h
      |box T cs=>simp only[qo];exact jg _ h
      |fbox f T cs=>simp only[qo];exact jg _ h
      |agg cs=>cases j
theorem IQ (dst:Nat):∀(rs:List Sh) (j:Nat) {ob:List (Nat×Option Ob)} {ρ:Env} (_:Sat P B ρ (oo ob) w) {vs:List Value} {d:RD rs} {bs:List Nat} (_:Zr ρ.H w rs vs d bs) (_:bs.Nodup) (_:∀b,b∈bs->OkB B ρ b)
 (_:(aw dst rs j).Nodup) (_:∀n,n∈aw dst rs j->oo ob n=none/\vJ (oo ob) n),
 ∃r,rc P B ρ w ob (iT dst rs d j) (aw dst rs j) bs r/\SV.denL P r (tE dst rs d j) vs
 |[],j,ob,ρ,u,vs,d,bs,q,_,_,_,_=>by
  obtain⟨rfl,rfl⟩:=q
  exact⟨ρ,⟨u,Env.le.refl _ _,rfl,fun _ _=>⟨rfl,rfl⟩,fun _ _ _ h=> .inl h⟩,by simp[tE,SV.denL]⟩
 |s::rs,j,ob,ρ,u,[],d,bs,q,_,_,_,_=>q.elim
 |s::rs,j,ob,ρ,u,v::vs,d,bs,q,hnd,hb,i,hk=>by
  obtain⟨V,C,rfl,R,S⟩:=q
  simp only[aw] at i hk
  rw[zK] at i hnd
  obtain⟨M,N,A⟩:=i
  obtain⟨F,G,I⟩:=hnd
  obtain⟨ρ1,m,J,_⟩:=OB u (s:=s) (k:=rn dst j) (nm:=rnn dst j) R F (fun b a=>hb b (jh _ a)) M (fun n y=>hk n (jh _ y)) 0 0
  obtain⟨z,p,e2⟩:=IQ dst rs (j+1) m.sat (vs:=vs) (d:=d.2) (bs:=C) (by rw[m.H];exact S) G (fun b a=>⟨(hb b (jg _ a)).1,fun o C' h=>by
   rcases m.blk o b C' h with h|h
   exact(hb b (jg _ a)).2 o C' h
   exact I b h b a rfl⟩) N (fun n y=>by
   obtain⟨K,L⟩:=hk n (jg _ y)
   have i:n∉qY (rn dst j) (rnn dst j) s:=fun h=>A n h n y rfl
   exact⟨by rw[gA (by rw[mR];exact i)];exact K,IN i L⟩)
  refine⟨z,⟨by simp only[iT,jJ];exact p.sat,?_,p.H.trans m.H,fun o l=> ?_,fun o b C' h=> ?_⟩,?_⟩
  exact(m.le.weaken (fun o l=>jh _ l)).trans (p.le.weaken (fun o l=>jg _ l))
  simp only[aw,ju,not_or] at l
  obtain⟨s1,s2⟩:=m.same o l.1
  obtain⟨O,Q⟩:=p.same o l.2
  exact⟨O.trans s1,Q.trans s2⟩
  rcases p.blk o b C' h with h|h
  rcases m.blk o b C' h with h|h
  exact .inl h
  exact .inr (jh _ h)
  exact .inr (jg _ h)
  simp only[tE,SV.denL]
  refine⟨v,vs,rfl,SV.den_mono p.le _ _ (fun o l=> ?_) J,e2⟩
  exact svSh_refs (fun h=>A o h o l rfl)
where
 svSh_refs {o k:Nat} {nm:Nat->Nat} {s:Sh} {x:s.D} (h:o∉qY k nm s):(DZ k s x).refs o=false:=by
  cases s with
  |cl c=>
   cases c with
   |dat t=>rfl
   |row E t nl=>
    have g:o≠k:=fun e=>h (by simp[qY,y9,e])
    simp only[DZ,Kv,SV.refs];cases a:Nat.beq o k with
    |false=>rfl
    |true=>exact absurd (jb a) g
   |map kt vt=>
    have g:o≠k:=fun e=>h (by simp[qY,y9,e])
    simp only[DZ,Kv,SV.refs];cases a:Nat.beq o k with
    |false=>rfl
    |true=>exact absurd (jb a) g
  |box T cs=>
   have g:o≠k:=fun e=>h (by simp[qY,e])
   simp only[DZ,SV.refs];cases a:Nat.beq o k with
   |false=>rfl
   |true=>exact absurd (jb a) g
  |fbox f T cs=>
   have g:o≠k:=fun e=>h (by simp[qY,e])
   simp only[DZ,SV.refs,SV.refs.refsL];cases a:Nat.beq o k with
   |false=>simp
   |true=>exact absurd (jb a) g
  |agg cs=>simp only[DZ,SV.refs];exact yU cs x 0 h
theorem bt {ρ1:Env} (dst:Nat):∀(ps:List cd) (i:Nat) {ob:List (Nat×Option Ob)} {ρ:Env} (_:Sat P B ρ (oo ob) w) {svs:List SV} {vs:List Value} {d:KD ps} {bs:List Nat} (_:svs.length=vs.length) (_:xo ρ.H w ps vs d bs) (_:bs.Nodup)
 (_:∀b,b∈bs->OkB B ρ b) (_:(w9 dst ps svs i).Nodup) (_:∀n,n∈w9 dst ps svs i->oo ob n=none/\vJ (oo ob) n) (_:tF ρ1 ps svs vs),
 ∃u,rc P B ρ w ob (vG dst ps svs d i) (w9 dst ps svs i) bs u/\∀n,n∈w9 dst ps svs i->n∈qo dst ps svs i\/(u.blk n=ρ1.blk n/\u.len n=ρ1.len n)
 |[],i,ob,ρ,m,svs,vs,d,bs,_,q,_,_,_,_,_=>by
  have:bs=[]:=q
  subst this
  have A:vG dst [] svs d i=[]:=rfl
  have e2:w9 dst [] svs i=[]:=rfl
  rw[A,e2]
  exact⟨ρ,⟨m,Env.le.refl _ _,rfl,fun _ _=>⟨rfl,rfl⟩,fun _ _ _ h=> .inl h⟩,fun n e=>by simp at e⟩
 |p::ps,i,ob,ρ,m,[],[],d,bs,_,q,_,_,_,_,_=>by
  cases p with
  |own s b=>cases b<;>exact q.elim
  |_=>exact q.elim
 |p::ps,i,ob,ρ,m,[],v::vs,d,bs,hl,_,_,_,_,_,_=>by simp at hl
 |p::ps,i,ob,ρ,m,sv::svs,[],d,bs,hl,_,_,_,_,_,_=>by simp at hl
 |p::ps,i,ob,ρ,m,sv::svs,v::vs,d,bs,hl,q,hnd,hb,g,hk,hr=>by
  have l:svs.length=vs.length:=by simpa using hl
  cases p with
  |val t=>exact bt dst ps (i+1) m l q hnd hb g hk hr
  |ref t=>exact bt dst ps (i+1) m l q hnd hb g hk hr
  |nil _=>exact bt dst ps (i+1) m l q hnd hb g hk hr
  |clo _=>exact bt dst ps (i+1) m l q hnd hb g hk hr
  |fn qs rs=>exact bt dst ps (i+1) m l q hnd hb g hk hr
  |own s b=>
   cases b with
   |false=>
    obtain⟨u,a,h⟩:=bt dst ps (i+1) m l q hnd hb g hk hr
    exact⟨u,a,fun n e=>by
     have:=h n e
     cases s<;>exact this⟩
   |true=>
    obtain⟨b1,G,rfl,v1,v2⟩:=q
    obtain⟨⟨F,N,X,Y⟩,Z⟩:=hr
    simp only[w9] at g hk
    rw[zK] at g hnd
    obtain⟨O,Q,D⟩:=g
    obtain⟨I,J,K⟩:=hnd
    obtain⟨ρ2,x,_,A⟩:=OB m (s:=s) (k:=D1 sv) (nm:=kn dst i) v1 I (fun b r=>hb b (jh _ r)) O (fun n e=>hk n (jh _ e)) F N
    obtain⟨C,z,e2⟩:=bt (ρ1:=ρ1) dst ps (i+1) x.sat (svs:=svs) (vs:=vs) (d:=d.2) (bs:=G) l (by rw[x.H];exact v2) J (fun b r=>⟨(hb b (jg _ r)).1,fun o C' h=>by
     rcases x.blk o b C' h with h|h
     exact(hb b (jg _ r)).2 o C' h
     exact K b h b r rfl⟩) Q (fun n e=>by
     obtain⟨L,M⟩:=hk n (jg _ e)
     have g:n∉qY (D1 sv) (kn dst i) s:=fun h=>D n h n e rfl
     exact⟨by rw[gA (by rw[mR];exact g)];exact L,IN g M⟩) Z
    refine⟨C,⟨by simp only[vG,jJ];exact z.sat,?_,z.H.trans x.H,fun o y=> ?_,fun o b C' h=> ?_⟩,fun n e=> ?_⟩
    exact(x.le.weaken (fun o y=>jh _ y)).trans (z.le.weaken (fun o y=>jg _ y))
    simp only[w9,ju,not_or] at y
    obtain⟨s1,s2⟩:=x.same o y.1
    obtain⟨s3,s4⟩:=z.same o y.2
    exact⟨s3.trans s1,s4.trans s2⟩
    rcases z.blk o b C' h with h|h
    rcases x.blk o b C' h with h|h
    exact .inl h
    exact .inr (jh _ h)
    exact .inr (jg _ h)
    simp only[w9,ju] at e
    rcases e with e|e
    by_cases j:n=D1 sv
    subst j
    obtain⟨R,S⟩:=A e
    obtain⟨V,W⟩:=z.same (D1 sv) (fun h=>D _ e _ h rfl)
    exact .inr ⟨by rw[V,R,X],by rw[W,S,Y]⟩
    cases s with
    |cl c=>
     cases c with
     |dat t=>simp[qY,y9] at e
     |row E t nl=>exact absurd (by simpa[qY,y9] using e) j
     |map kt vt=>exact absurd (by simpa[qY,y9] using e) j
    |box T cs=>
     simp only[qY,jk] at e
     rcases e with e|e
     exact absurd e j
     exact .inl (by simp only[qo];exact jh _ e)
    |fbox f T cs=>
     simp only[qY,jk] at e
     rcases e with e|e
     exact absurd e j
     exact .inl (by simp only[qo];exact jh _ e)
    |agg cs=>exact .inl (by simp only[qo];exact jh _ e)
    rcases e2 n e with h|h
    refine .inl ?_
    cases s with
    |cl c=>exact h
    |box T cs=>simp only[qo];exact jg _ h
    |fbox f T cs=>simp only[qo];exact jg _ h
    |agg cs=>simp only[qo];exact jg _ h
    exact .inr h
end
end Go.X
namespace Go.X
open Go.RowKit (Below)
section
variable {P:Program} {B:qw} {C:Ctx} {σ τ:St} {ρ:Env} {w:World}
theorem yf (dst:Nat):∀(ps:List cd) (svs:List SV) (d:KD ps) (i n:Nat),n∈q6 (vG dst ps svs d i)↔n∈w9 dst ps svs i
 |[],svs,d,i,n=>by
  have a:vG dst [] svs d i=[]:=rfl
  have e2:w9 dst [] svs i=[]:=rfl
  rw[a,e2];simp[q6]
 |p::ps,[],d,i,n=>by
  cases p with
  |own s b=>cases b<;>simp[vG,w9,q6]
  |_=>simp[vG,w9,q6]
 |p::ps,sv::svs,d,i,n=>by
  cases p with
  |val t=>exact yf dst ps svs d (i+1) n
  |ref t=>exact yf dst ps svs d (i+1) n
  |nil _=>exact yf dst ps svs d (i+1) n
  |clo _=>exact yf dst ps svs d (i+1) n
  |fn c rs=>exact yf dst ps svs d (i+1) n
  |own s b=>
   cases b with
   |false=>exact yf dst ps svs d (i+1) n
   |true=>
    simp only[vG,w9,tA,ju,mR,yf dst ps svs d.2 (i+1) n]
    exact or_comm
theorem oy (dst:Nat):∀(rs:List Sh) (d:RD rs) (j n:Nat),n∈q6 (iT dst rs d j)↔n∈aw dst rs j
 |[],d,j,n=>by simp[iT,aw,q6]
 |s::rs,d,j,n=>by
  simp only[iT,aw,tA,ju,mR,oy dst rs d.2 (j+1) n]
  exact or_comm
theorem vQ (dst:Nat):∀(ps:List cd) (svs:List SV) (i n:Nat),n∈qo dst ps svs i->n∈w9 dst ps svs i
 |[],svs,i,n,h=>by
  have a:qo dst [] svs i=[]:=rfl
  rw[a] at h;simp at h
 |p::ps,[],i,n,h=>by
  cases p with
  |own s b=>cases s<;>cases b<;>simp[qo] at h
  |_=>simp[qo] at h
 |p::ps,sv::svs,i,n,h=>by
  cases p with
  |val t=>exact vQ dst ps svs (i+1) n h
  |ref t=>exact vQ dst ps svs (i+1) n h
  |nil _=>exact vQ dst ps svs (i+1) n h
  |clo _=>exact vQ dst ps svs (i+1) n h
  |fn d rs=>exact vQ dst ps svs (i+1) n h
  |own s b=>
   cases b with
   |false=>cases s<;>exact vQ dst ps svs (i+1) n h
   |true=>
    simp only[w9,ju]
    cases s with
    |cl c=>exact .inr (vQ dst ps svs (i+1) n h)
    |box T cs=>
     simp only[qo,ju] at h
     rcases h with h|h
     exact .inl (by simp[qY,h])
     exact .inr (vQ dst ps svs (i+1) n h)
    |fbox f T cs=>
     simp only[qo,ju] at h
     rcases h with h|h
     exact .inl (by simp[qY,h])
     exact .inr (vQ dst ps svs (i+1) n h)
    |agg cs=>
     simp only[qo,ju] at h
     rcases h with h|h
     exact .inl (by simp[qY,h])
     exact .inr (vQ dst ps svs (i+1) n h)
theorem jbu {k:Nat} {nm:Nat->Nat} {s:Sh} {x:s.D} {o T:Nat} {fz:Bool} {cs:List SV} (h:(o,some (.box T fz cs))∈La k nm s x) {r:Nat} (b:SV.refs.refsL r cs=true):
 ∃cl,((∃a,s= .box a cl)\/∃f a,s= .fbox f a cl)/\r∈yK nm cl 0:=by
 cases s with
 |cl c=>exact absurd h (ox k c x o T fz cs)
 |box a cl=>
  simp only[La,jk] at h;rcases h with h|h;simp at h;obtain⟨_,_,_,rfl⟩:=h;refine⟨cl,.inl ⟨a,rfl⟩,Classical.byContradiction fun d=> ?_⟩;rw[yU cl x 0 d] at b;cases b;exact absurd h (ye nm cl x 0 o T fz cs)
 |fbox f a cl=>
  simp only[La,jk] at h;rcases h with h|h;simp at h;obtain⟨_,_,_,rfl⟩:=h;refine⟨cl,.inr ⟨f,a,rfl⟩,Classical.byContradiction fun d=> ?_⟩;rw[yU cl x 0 d] at b;cases b;exact absurd h (ye nm cl x 0 o T fz cs)
 |agg cl=>exact absurd h (ye (nmA k) cl x 0 o T fz cs)
theorem OG (dst:Nat):∀(rs:List Sh) (d:RD rs) (j:Nat) {o T:Nat} {fz:Bool} {cs:List SV},(o,some (.box T fz cs))∈iT dst rs d j->∀r,SV.refs.refsL r cs=true->r∈aw dst rs j
 |[],d,j,o,T,fz,cs,h,r,a=>by simp[iT] at h
 |s::rs,d,j,o,T,fz,cs,h,r,a=>by
  simp only[iT,ju] at h
  simp only[aw,ju]
  rcases h with h|h
  exact .inr (OG dst rs d.2 (j+1) h r a)
  obtain⟨cl,e,b⟩:=jbu h a
  rcases e with⟨c,rfl⟩|⟨f,c,rfl⟩
  exact .inl (by simp[qY,b])
  exact .inl (by simp[qY,b])
theorem dE (dst:Nat):∀(ps:List cd) (svs:List SV) (d:KD ps) (i:Nat) {o T:Nat} {fz:Bool} {cs:List SV},(o,some (.box T fz cs))∈vG dst ps svs d i->∀r,SV.refs.refsL r cs=true->r∈qo dst ps svs i
 |[],svs,d,i,o,T,fz,cs,h,r,a=>by
  have k:vG dst [] svs d i=[]:=rfl
  rw[k] at h;simp at h
 |p::ps,[],d,i,o,T,fz,cs,h,r,a=>by
  cases p with
  |own s b=>cases b<;>simp[vG] at h
  |_=>simp[vG] at h
 |p::ps,sv::svs,d,i,o,T,fz,cs,h,r,a=>by
  cases p with
  |val t=>exact dE dst ps svs d (i+1) h r a
  |ref t=>exact dE dst ps svs d (i+1) h r a
  |nil _=>exact dE dst ps svs d (i+1) h r a
  |clo _=>exact dE dst ps svs d (i+1) h r a
  |fn l rs=>exact dE dst ps svs d (i+1) h r a
  |own s b=>
   cases b with
   |false=>cases s<;>exact dE dst ps svs d (i+1) h r a
   |true=>
    simp only[vG,ju] at h
    rcases h with h|h
    have:=dE dst ps svs d.2 (i+1) h r a
    cases s with
    |cl c=>exact this
    |box g cl=>simp only[qo];exact jg _ this
    |fbox f g cl=>simp only[qo];exact jg _ this
    |agg cl=>simp only[qo];exact jg _ this
    obtain⟨cl,e,j⟩:=jbu h a
    rcases e with⟨g,e⟩|⟨f,g,e⟩
    subst e
    simp only[qo];exact jh _ j
    subst e
    simp only[qo];exact jh _ j
theorem tG:∀(l:List Nat),CD σ l=true->∀n,n∈l->σ.obj n=none/\ay n σ.ob=true
 |[],_,n,h=>by simp at h
 |m::r,h,n,a=>by
  simp only[CD] at h
  split at h
  rename_i b c
  rcases jk.1 a with rfl|a
  exact⟨b,c⟩
  exact tG r h n a
  cases h
theorem Hy:∀(os:List Nat) (o:Nat),wc (mU os) o=if o∈os then some none else none
 |[],o=>by simp[mU,wc]
 |k::r,o=>by
  simp only[mU,wc]
  cases b:Nat.beq k o with
  |true=>have:=jb b;subst this;simp
  |false=>
   have a:=wO b
   rw[Hy r o]
   simp[Ne.symm a]
theorem Zs {vs:List Value}:∀{svs:List SV},SV.denL P ρ svs vs->SV.den P ρ (Ld svs) (jcx vs):=by
 intro svs h;cases svs with
 |nil=>
  simp only[SV.denL] at h;subst h;simp only[Ld,jcx,SV.den];exact⟨_,rfl,by simp[SV.denL]⟩
 |cons a r=>
  have d:=h;simp only[SV.denL] at h;obtain⟨v,us,rfl,e,c⟩:=h;cases r with
  |nil=>
   simp only[SV.denL] at c;subst c;exact e
  |cons b r=>
   have f:=c;simp only[SV.denL] at c;obtain⟨u,g,rfl,_,_⟩:=c;simp only[Ld,jcx,SV.den];exact⟨_,rfl,by simpa using d⟩
theorem IR (dst:Nat):∀(rs:List Sh) (d:RD rs) (j r:Nat),SV.refs.refsL r (tE dst rs d j)=true->r∈aw dst rs j
 |[],d,j,r,h=>by simp[tE,SV.refs.refsL] at h
 |s::rs,d,j,r,h=>by
  simp only[tE,SV.refs.refsL] at h
  simp only[aw,ju]
  split at h
  rename_i a
  refine .inl (Classical.byContradiction fun b=> ?_)
  rw[IQ.svSh_refs b] at a;cases a
  exact .inr (IR dst rs d.2 (j+1) r h)
theorem Zt {r:Nat}:∀{svs:List SV},(Ld svs).refs r=true->SV.refs.refsL r svs=true:=by
 intro svs h;cases svs with
 |nil=>simpa[Ld,SV.refs] using h
 |cons a l=>
  cases l with
  |nil=>simp only[Ld] at h;simp[SV.refs.refsL,h]
  |cons b l=>simpa[Ld,SV.refs] using h
theorem iU (hC:C.ok P) {dst:Nat} {ps:List cd} {rs:List Sh} {pre:OD ps->List Prop} {svs:List SV} {d:OD ps} {os fz:List Nat} (hz:OE C σ ps svs=some (d,os,fz)) (hno:gN os=true) (hme:mB fz os=false)
 {vals:List Value} (hS:Sat P B ρ σ.obj w) (hd:SV.denL P ρ svs vals):
 ∃ρ1,ρ.le ρ1 []/\Sat P B ρ1 (σ.frz fz).obj w/\ρ1.blk=ρ.blk/\fx P ρ1.H w ps vals d (wV ρ1 os)/\(wV ρ1 os).Nodup/\
  ∀(F:OD ps->RD rs×KD ps) (out:Out),D2 C ⟨ps,rs,pre,F⟩ dst σ svs=some out->∀e w',Lc ρ1.H w (wV ρ1 os) ⟨ps,rs,pre,F⟩ vals d e w'->∃v,e= .returned v/\wb P B ρ σ out v w':=by
 obtain⟨ρ1,u,I,hb1,hn1⟩:=wF (σ:=σ) fz hS;have D:tu σ (σ.frz fz) os:=by
  intro o g;rw[q9,jc];exact fun i=>yd _ _ hme o i g
 have hd1:=SV.denL_mono I _ _ (fun o g=>by simp at g) hd;have A:=Hw hC u (v6 σ fz) hz (fun o g=>g) D hd1;obtain⟨R,G⟩:=Hx u hz D hd1;have hbn:=aG u os (vA _ hno);have hlen:svs.length=vals.length:=qx _ _ hd;refine⟨ρ1,I,u,hb1,A,hbn,fun F out h e w' he=> ?_⟩
 let s:qC:=⟨ps,rs,pre,F⟩
 have h:D2 C s dst σ svs=some out:=h;have he:Lc ρ1.H w (wV ρ1 os) s vals d e w':=he;unfold D2 at h;rw[show OE C σ s.ps svs=some (d,os,fz) from hz] at h;simp only at h
 split at h
 case h_2=>cases h
 rename_i _ _ O X;simp at h;subst h;have O:=vA _ O;rw[zK] at O;obtain⟨hn1',hn2',S⟩:=O;have X:=tG _ X;obtain⟨vs,H',rb,kb,rfl,N,hres,Y,V,Z⟩:=he;rw[zK] at V;obtain⟨hnd1,hnd2,hnd3⟩:=V
 let Bx:qw:=⟨w,ρ1.H,wV ρ1 os,fun _=>none,fun _=>0⟩
 let K:Env:=⟨H',fun _=>none,ρ1.len⟩
 have hSe:Sat P Bx K (oo []) w':=by
  refine⟨N.os,N.tape,N.output,N.drawn,N.size,N.good,N.old,N.block,?_,fun _ _=>rfl,?_,?_⟩
  .intro o x L;simp[oo,St.obj,wc] at L
  .intro o o' b C1 C2 h1;simp[K] at h1
  .intro o b C1 h1;simp[K] at h1
 have okB:∀b,b∈rb++kb->(Bx.w.heap.size<=b\/b∈Bx.bor):=fun b m=>(Z b m).symm
 obtain⟨ρ2,a1,e1⟩:=IQ dst s.rs 0 hSe hres hnd1 (fun b m=>⟨okB b (jh _ m),fun o C' h=>by simp[K] at h⟩) hn1'
  (fun n _=>⟨by simp[oo,St.obj,wc],fun o T fz cs h=>by simp[oo,St.obj,wc] at h⟩)
 have M:∀n,n∈w9 dst s.ps svs 0->oo (iT dst s.rs (s.F d).1 0++[]) n=none/\vJ (oo (iT dst s.rs (s.F d).1 0++[])) n:=by
  intro n hn;have hnr:n∉aw dst s.rs 0:=fun i=>S n i n hn rfl
  refine⟨by rw[gA (by rw[oy];exact hnr)];simp[oo,St.obj,wc],fun o T fz' cs g=> ?_⟩;rw[jY] at g;simp only[oo,St.obj] at g
  split at g
  .rename_i y hy;subst g;cases hc:SV.refs.refsL n cs with
   |false=>rfl
   |true=>exact absurd (OG dst s.rs _ 0 (qh _ _ _ hy) n hc) hnr
  .cases g
 obtain⟨J,a2,e2⟩:=bt (ρ1:=ρ1) dst s.ps 0 a1.sat (svs:=svs) (vs:=vals) hlen (by rw[a1.H];exact Y) hnd2 (fun b m=>⟨okB b (jg _ m),fun o C' h=>by
  rcases a1.blk o b C' h with h|h
  .simp[K] at h
  .exact hnd3 b h b m rfl⟩) hn2' M R
 have hH3:J.H=H':=a2.H.trans a1.H
 let nw:=aw dst s.rs 0++qo dst s.ps svs 0
 have q:∀n,n∈nw->vJ (σ.frz fz).obj n:=by
  intro n hn r T f cs z;obtain⟨_,q2⟩:=X n hn;rw[q9] at z;have base:∀T f cs,σ.obj r=some (.box T f cs)->SV.refs.refsL n cs=false:=by
   intro T f cs L;simp only[St.obj] at L
   split at L
   .rename_i y hy;subst L;exact aA _ _ _ _ _ _ q2 (qh _ _ _ hy)
   .cases L
  split at z
  .cases L:σ.obj r with
   |none=>rw[L] at z;cases z
   |some y=>
    rw[L] at z;cases y<;>simp[vi] at z
    obtain⟨rfl,_,rfl⟩:=z;exact base _ _ _ L
  .exact base _ _ _ z
 have t:∀o,o∉nw->o∉w9 dst s.ps svs 0->J.blk o=none/\J.len o=ρ1.len o:=by
  intro o g hk;obtain⟨q1,q2⟩:=a2.same o hk;obtain⟨q3,q4⟩:=a1.same o (fun h=>g (jh _ h));exact⟨q1.trans q3,q2.trans q4⟩
 have hle:(xi os ρ1).le J nw:=by
  refine⟨fun b c m=> ?_,fun o p g hp=> ?_,fun o g=> ?_⟩
  .have m:ρ1.H b=some c:=m;have hnb:b∉wV ρ1 os:=fun i=>by
    have:=VZ s.ps vals d _ A b i;rw[this] at m;cases m
   rw[hH3,N.old b (u.good.lt m) hnb];exact m
  .by_cases hk:o∈w9 dst s.ps svs 0
   .rcases e2 o hk with h|⟨h,_⟩
    .exact absurd (jg _ h) g
    .rcases G dst 0 o hk with i|i
     .simp only[xi];rw[jd i,<-h];exact hp
     .exact absurd (jg _ i) g
   .rw[(t o g hk).1] at hp;cases hp
  .by_cases hk:o∈w9 dst s.ps svs 0
   .rcases e2 o hk with h|⟨_,h⟩
    .exact absurd (jg _ h) g
    .exact h
   .exact(t o g hk).2
 have E:∀o,o∈q6 (vG dst s.ps svs (s.F d).2 0++iT dst s.rs (s.F d).1 0)->o∈nw\/o∈os:=by
  intro o g;rw[tA,yf,oy] at g;rcases g with h|h
  .rcases G dst 0 o h with h|h
   .exact .inr h
   .exact .inl (jg _ h)
  .exact .inl (jh _ h)
 have hsat3:Sat P Bx J (oo (vG dst s.ps svs (s.F d).2 0++iT dst s.rs (s.F d).1 0)) w':=by
  have:=a2.sat
  rwa [jY] at this
 obtain⟨ρ4,g1,g2,g3⟩:=KV (σ:=σ.frz fz) u os nw q hsat3 hle (fun o T f cs g r z=>by
  simp only[oo,St.obj] at g
  split at g
  .rename_i y hy;subst g;have i:=qh _ _ _ hy;rcases ju.1 i with i|i
   .exact .inl (jg _ (dE dst _ _ _ _ i r z))
   .exact .inl (jh _ (OG dst _ _ _ i r z))
  .cases g)
 refine⟨_,rfl,ρ4,?_,(I.weaken (fun o g=>by simp at g)).trans g2,?_,trivial⟩
 .have:(fun o=>if o∈nw\/o∈os then oo (vG dst s.ps svs (s.F d).2 0++iT dst s.rs (s.F d).1 0) o else(σ.frz fz).obj o)=
   ({σ with ob:=(vG dst s.ps svs (s.F d).2 0++(iT dst s.rs (s.F d).1 0++mU os))++(ao σ fz++σ.ob)}:St).obj:=by
   funext o;have e0:(vG dst s.ps svs (s.F d).2 0++(iT dst s.rs (s.F d).1 0++mU os))++(ao σ fz++σ.ob)=
    (vG dst s.ps svs (s.F d).2 0++iT dst s.rs (s.F d).1 0)++(mU os++(ao σ fz++σ.ob)):=by simp only[jJ]
   rw[e0];generalize W:vG dst s.ps svs (s.F d).2 0++iT dst s.rs (s.F d).1 0=new;rw[W] at E;simp only[oo,St.obj,kM (a:=new)];cases hl:wc new o with
   |some y=>
    have hk:o∈q6 new:=bn (by rw[hl];simp);rw[jd (E o hk)]
   |none=>
    simp only;rw[kM,Hy];by_cases Q:o∈os
    .rw[jd (.inr Q),jd Q]
    .rw[jc Q];have hnw':o∉nw:=by
      intro i;have:o∈q6 new:=by
       rw[<-W,tA,yf,oy];rcases ju.1 i with h|h
       .exact .inr h
       .exact .inl (vQ dst _ _ _ _ h)
      exact look_none_not hl this
     rw[jc (by rintro(h|h);exact hnw' h;exact Q h)];rfl
  rw[<-this];exact g1
 .refine g3 _ _ (fun r z=> .inl (jh _ (IR dst _ _ _ r (Zt z)))) ?_;refine Zs (SV.denL_mono a2.le _ _ (fun o g=> ?_) e1);cases hc:SV.refs.refsL o (tE dst s.rs (s.F d).1 0) with
  |false=>rfl
  |true=>exact absurd rfl (S o (IR dst _ _ _ o hc) o g)
where
 look_none_not {α:Type}:∀{l:List (Nat×α)} {k:Nat},wc l k=none->k∈q6 l->False
  |[],k,_,h=>by simp[q6] at h
  | (j,x)::r,k,h,i=>by
   simp only[wc] at h;cases m:Nat.beq j k with
   |true=>rw[m] at h;cases h
   |false=>
    rw[m] at h;simp only[q6,jk] at i;rcases i with rfl|i
    .exact absurd rfl (wO m)
    .exact look_none_not h i
theorem D3 (l:C.ok P) {f dst:Nat} {s:qC} {svs:List SV} {out:Out} (p:ga P f s) (h:D2 C s dst σ svs=some out) {vals:List Value} (m:Sat P B ρ σ.obj w) (n:SV.denL P ρ svs vals) (c:vI out.vc):
 Calls P f vals.toArray w (fun e w'=>∃v,e= .returned v/\wb P B ρ σ out v w'):=by
 have a:=h;unfold D2 at a
 split at a
 .cases a
 rename_i d os fz q
 split at a
 case h_2=>cases a
 rename_i k j _ _;simp at a;obtain⟨ρ1,_,g,_,b,i,hk⟩:=iU (dst:=dst) (rs:=s.rs) (pre:=s.pre) l q k j m n;exact(p.calls ρ1.H w vals d (wV ρ1 os) g.good b i (by rw[<-a] at c;exact c)).mono fun e w' o=>hk s.F out h e w' o
theorem SS (d:C.ok P) {l:List (Nat×qC)} (b:∀f s,wc l f=some s->ga P f s) {f dst:Nat} {svs:List SV} {out:Out} (h:jf4 C l f dst σ svs=some out):
 enters P f/\∀B ρ w vals,Sat P B ρ σ.obj w->SV.denL P ρ svs vals->vI out.vc->σ.obj dst=none->vJ σ.obj dst->
  Calls P f vals.toArray w (fun e w'=>∃v,e= .returned v/\wb P B ρ σ out v w'):=by
 unfold jf4 at h
 split at h
 rename_i s c;exact⟨(b f s c).enters,fun B ρ w vals g i a _ _=>D3 d (b f s c) h g i a⟩;cases h
end
end Go.X
namespace Go.X
open Go.RowKit (Below)
def yV:Nat:=1000000
def mV (C:Ctx) (fn:Func) (T:Nat) (st:Ty) (rs:List Ty) (want:(Ty.st rs).Data×st.Data):Ex->St->Prop
 | .exit _,_=>False
 |_,σ=>match FW C σ rs fn.results.toList,σ.obj yV with
  |some r,some (.box a false [c])=>match Nat.beq T a,aW (IK C σ rs fn.results.toList) yV,yF σ st c with
   |true,false,some (x,[])=>r=want.1/\x=want.2
   |_,_,_=>False
  |_,_=>False
section
variable {P:Program} {C:Ctx} {w:World}
theorem mW {B:qw} {σ:St} {ρ:Env} (D:Sat P B ρ σ.obj w) (fz:List Nat) {ob T:Nat} {z:SV} {st:Ty} {rs:List Ty} {r:(Ty.st rs).Data×st.Data} {vc:List Prop} {k:FuncId} {args:Array Value}
 (G:aW fz ob=false) (K:σ.obj ob=some (.box T false [z])) (x:st.agg=false)
 (h:∀ρ1 b n u,Sat P B ρ1 (σ.frz fz).obj w->ρ.le ρ1 []->ρ1.blk=ρ.blk->ρ1.blk ob=some (some (b,n))->ρ1.H b=none->w.heap[b]? =some (.cells #[u] T (0,0))->SV.den P ρ1 z u->Calls P k args w (Sl ρ1.H w b T st rs r)):
 Calls P k args w (fun e w'=>∃v,e= .returned v/\wb P B ρ σ ⟨vc,[],A9 rs r.1,fz,[(ob,some (.box T false [.dat st r.2]))],[]⟩ v w'):=by
 obtain⟨ρ1,a,c,g,_⟩:=wF fz D;have m:(σ.frz fz).obj ob=some (.box T false [z]):=(by rw[q9,jc (yo G)];exact K);obtain⟨p,A,b,n,vs,rfl,J,i,L,f⟩:=a.obs ob _ m;have f:ρ1.H b=none:=f;simp only[SV.denL] at i;obtain⟨u,M,d,t,rfl⟩:=i;have d:vs= #[u]:=jL.1 (by simpa using d);subst d;refine(h ρ1 b n u a c g A f J t).mono fun e w' F=> ?_
 obtain⟨v,H',N,rfl,C,q,y,l,I⟩:=F;obtain⟨s,j⟩:=KT a (fun o b n E=>(ba (σ:=σ.frz fz) a E).1) m A C q y (sv:= .dat st r.2) (by simp only[SV.den];exact l) (Do x l);refine⟨v,rfl,{ρ1 with H:=H'},?_,c.trans j,sU rfl I,trivial⟩;show Sat P B _ ({(σ.frz fz) with ob:=(ob,some (.box T false [.dat st r.2]))::(σ.frz fz).ob}:St).obj w';rw[yb];exact s
theorem OH {H:Imm}:∀{rs:List Ty} {vs:List Value} {r:(Ty.st rs).Data},rvs H rs vs r->jec H rs (Q8 vs) r
 |[],_,_,h=>by simp only[rvs] at h;subst h;exact⟨_,rfl,rfl⟩
 |_::_,[],_,h=>h.elim
 |[_],[_],_,h=>h.1
 |[_],_::_::_,_,h=>by have:=h.2;simp[rvs] at this
 |_::_::_,[_],_,h=>h.2.elim
 |_::_::_,_::_::_,_,h=>⟨_,rfl,h⟩
theorem jf6 (hC:C.ok P) (hm:P.follows .mixedOrders=true) {f:Nat} {fn:Func} {body:Code} (hf:P.funcs[f]? =some fn) (q:fn.body=some body)
 (hn:fn.ntmps=C.n) (A:Ann) {T:Nat} {st:Ty} {rs:List Ty} {want:(Ty.st rs).Data×st.Data} {s:st.Data} {sl:List (Nat×SV)} {vals:List Value} (hlen:vals.length<=C.n)
 (hv:vcg C A body ⟨sl,[(yV,some (.box T false [.dat st s]))]⟩ (mV C fn T st rs want))
 {H:Imm} {b:Nat} {u:Value} (hg:ir H w) (hH:H b=none) (hw:w.heap[b]? =some (.cells #[u] T (0,0))) (hst:st.agg=false) (hu:st.rv H u s)
 (hsl:∀ρ:Env,ρ.H=H->ρ.blk yV=some (some (b,0))->∀k v,wc sl k=some v->∃x,vals[k]? =some x/\SV.den P ρ v x):
 Calls P f vals.toArray w (Sl H w b T st rs want):=by
 refine calls_of_wp hf q ?_
 let g:Env:=⟨H,fun o=>if o=yV then some (some (b,0)) else none,fun _=>0⟩
 let B:qw:=⟨w,H,[b],g.blk,g.len⟩
 let σ0:St:=⟨sl,[(yV,some (.box T false [.dat st s]))]⟩
 have j:g.blk yV=some (some (b,0)):=(by simp[g]);have L:∀o x,σ0.obj o=some x->o=yV/\x= .box T false [.dat st s]:=by
  intro o x i;simp only[σ0,St.obj,wc] at i;cases y:Nat.beq yV o with
  |true=>rw[y] at i;simp at i;exact⟨(jb y).symm,i.symm⟩
  |false=>rw[y] at i;simp at i
 have Y:Sat P B g σ0.obj w:=by
  refine⟨rfl,rfl,rfl,jj _,jj _,hg,fun _ _ _=>rfl,fun _ _ _=>rfl,?_,?_,?_,?_⟩
  .intro o x i;obtain⟨rfl,rfl⟩:=L o x i;refine⟨_,j,b,0,#[u],rfl,hw,?_,by simpa using Do hst hu,hH⟩;simp only[SV.denL,SV.den];exact⟨u,[],rfl,hu,rfl⟩
  .intro o i;show(if o=yV then some (some (b,0)) else none)=none
   split
   .rename_i e;subst e;simp[σ0,St.obj,wc] at i
   .rfl
  .intro o o' b1 C1 C2 h G;simp only[g] at h G
   split at h
   .rename_i R
    split at G
    .rename_i e2;rw[R,e2]
    .cases G
   .cases h
  .intro o b1 C1 h;simp only[g] at h
   split at h
   .simp at h;obtain⟨rfl,rfl⟩:=h;exact .inr (by simp[B])
   .cases h
 have hR:Rel P B C.n σ0 {tmps:=vals.toArray++Array.replicate (fn.ntmps-vals.toArray.size) undef,defers:=[]} w:=by
  refine⟨rfl,by simp;omega,g,Y,?_,fun o p _ hp=>⟨hp,rfl⟩,fun _ _ q=>q⟩;intro k v hk;obtain⟨x,h,G⟩:=hsl g rfl j k v hk;have hlt:=(jo.1 h).1;have:(vals.toArray++Array.replicate (fn.ntmps-vals.toArray.size) undef).getD k undef=x:=by
   rw[jq,zn (by simpa using hlt)];simp[h]
  rw[this];exact G
 refine yj hC hm A body _ _ _ _ w hv hR (fun e σ Q w' _ V W=> ?_);have l:(match FW C σ rs fn.results.toList,σ.obj yV with
  |some r,some (.box T' false [c])=>match Nat.beq T T',aW (IK C σ rs fn.results.toList) yV,yF σ st c with
   |true,false,some (x,[])=>r=want.1/\x=want.2
   |_,_,_=>False
  |_,_=>False)->Q.defers=[]/\∃v,(Go.results fn Q.tmps).run P w'= .ok v w'/\Sl H w b T st rs want (.returned v) w':=by
  intro M
  split at M
  case h_2=>exact M.elim
  rename_i r T' c N D
  split at M
  case h_2=>exact M.elim
  rename_i x hT hm' i;obtain⟨hr1,hr2⟩:=M;have:=jb hT;subst this;obtain⟨h,G,ρ',X,Z,I⟩:=W;obtain⟨O,d,hle,t,_⟩:=wF (σ:=σ) (IK C σ rs fn.results.toList) X;have hd:∀k,SV.den P O (σ.get k) (Q.tmps.getD k undef):=by
   intro k;have:=wu (P:=P) (a:=Q) Z (.tmp k);exact SV.den_mono hle _ _ (fun o K=>by simp at K) this
  obtain⟨vs,R,e2⟩:=iQ hC d (v6 σ _) hd rs _ _ N (fun o K=>K);have E:(σ.frz (IK C σ rs fn.results.toList)).obj yV=some (.box T false [c]):=(by rw[q9,jc (yo hm')];exact D);obtain⟨p,hp,b2,C2,us,rfl,hw2,J,_,S⟩:=d.obs yV _ E;have F:=(I.1 yV _ (jj _) (by rw[<-t];exact hp)).1;rw[show B.blk0 yV=some (some (b,0)) from j] at F;simp at F;obtain⟨rfl,rfl⟩:=F;simp only[SV.denL] at J;obtain⟨u',r',m,hdu,rfl⟩:=J;have m:us= #[u']:=jL.1 (by simpa using m);subst m;have hsu:=we d (v6 σ _) i (fun o K=>by simp at K) hdu;refine⟨h,_,gM R,⟨_,O.H,u',rfl,?_,S,hw2,by rw[<-hr2];exact hsu,?_⟩⟩
  .exact⟨d.os,d.tape,d.output,d.drawn,d.size,fun b q z=>d.old b q z,fun b q z=>d.oldH b q z,d.good⟩
  .rw[<-hr1];exact OH e2
 cases e with
 |normal=>exact l V
 |ret=>exact l V
 |exit id=>exact V.elim
end
end Go.X
namespace Go.X
open Go.RowKit (Below)
abbrev WF (r:Option Nat):Fence:={Fence.wide with round:=r}
section
variable {P:Program} {r:Option Nat}
theorem oz {n:Nat} {f:FuncId} {args:Array Value} {w:World} {R:Ending->World->Prop}:CallsIn (WF r) n P f args w R↔Calls P f args w R:=callsIn_wide (n:=n)
theorem V0 {n:Nat} {row:String} {args:Array Value} {w:World} {R:Value->World->Prop} (h:Rows P row args w R):RowsIn (WF r) n P row args w R:=
 fun c cs _=>let ⟨v,w',q,s⟩:=h c cs;⟨v,w',q,stepsIn_wide.2 s⟩
theorem jcA {c:Code} {Q:Exit->Act->World->Prop} {a:Act} {w:World}:c.wpIn (WF none) 0 P Q a w↔c.wp P Q a w:=wpIn_wide
def dg (ds:List Deferred) (a:Act):Act:={a with defers:=a.defers++ds}
theorem dF (ds:List Deferred) (a:Act) (d:Option Nat) (v:Value):dg ds (a.put d v)=(dg ds a).put d v:=by cases d<;>rfl
theorem mX (ds:List Deferred) (a:Act):(dg ds a).eval=a.eval:=by funext o;cases o<;>rfl
def yL:List Oper->Bool
 |[]=>true
 |o::l=>match o.op with
  | .defer _=>false
  |_=>yL l
theorem re:∀{l:List Oper},yL l=true->∀o,o∈l->∀c,o.op≠.defer c
 |[],_,o,a,_=>by simp at a
 |x::l,h,o,a,c=>by
  simp only[yL] at h
  split at h
  cases h
  rename_i b
  rcases jk.1 a with rfl|a
  exact fun e=>b c e
  exact re h o a c
theorem V1 {o:Oper} {a:Act} {w:World} {ds:List Deferred} {K n:Act->World->Prop} {Q0 Q:Exit->Act->World->Prop} (j:∀e a w,Q0 e a w->e= .normal) (k:∀c,o.op≠.defer c)
 (h:o.wp P a w K Q0) (g:∀a w,K a w->n (dg ds a) w):o.wpIn (WF r) 0 P (dg ds a) w n Q:=by
 refine⟨fun _ _=>trivial,?_⟩;rw[mX,Oper.semAt_eq _ _ _ k];unfold Oper.wp at h;generalize (execOp a.eval o).run P w=l at h;cases l with
 |ok x w'=>
  cases x with
  |value v=>simp only[Oper.upon] at h;simp only[Oper.uponIn];rw[<-dF];exact g _ _ h
  |skip=>simp only[Oper.upon] at h;simp only[Oper.uponIn];rw[<-dF];exact g _ _ h
  |defer d=>simp only[Oper.upon] at h;simp only[Oper.uponIn];have:=g _ _ h;rw[dF] at this;exact this
  |enter f args=>
   simp only[Oper.upon] at h;simp only[Oper.uponIn];refine⟨fun i=>by simp[Fence.wide] at i,oz.2 (h.mono fun e m b=> ?_)⟩;cases e with
   |returned v=>simp only at b⊢;rw[<-dF];exact g _ _ b
   |panicked c=>exact absurd (j _ _ _ b) (by simp)
   |outgrown=>obtain⟨q,s,p⟩:=b;exact absurd (j _ _ _ p) (by simp)
  |row row args=>
   simp only[Oper.upon] at h;simp only[Oper.uponIn];refine⟨fun i=>by simp[Fence.wide] at i,V0 (h.mono fun v m b=> ?_)⟩;rw[<-dF];exact g _ _ b
  |_=>simp only[Oper.upon] at h
 |halt x w'=>
  cases x with
  |panic v=>simp only[Oper.upon] at h;exact absurd (j _ _ _ h) (by simp)
  |_=>simp only[Oper.upon] at h
theorem xp {ops:Array Oper} {ds:List Deferred} {Q0 Q:Exit->Act->World->Prop} {rest:List Oper} (b:∀e a w,Q0 e a w->e= .normal) (c:∀a w,Q0 .normal a w->wpListIn (WF r) 0 P ops Q rest (dg ds a) w):
 ∀(l:List Oper),yL l=true->∀(a:Act) (w:World),wpList P ops Q0 l a w->wpListIn (WF r) 0 P ops Q (l++rest) (dg ds a) w
 |[],_,a,w,h=>c a w h
 |o::l,hnd,a,w,h=>by
  have f:yL l=true:=by simp only[yL] at hnd;split at hnd;cases hnd;exact hnd
  rw[j9]
  unfold wpList at h
  unfold wpListIn
  have i:yielded ops (dg ds a).tmps=yielded ops a.tmps:=rfl
  rw[i]
  split at h
  rename_i d
  rw[jd d]
  rcases h with h|⟨_,m,n,k⟩
  exact V1 b (re hnd o (by simp)) h (fun g w' j=>xp b c l f g w' j)
  exact absurd (b _ _ _ k) (by simp)
  rename_i d
  rw[jc d]
  refine⟨fun _ _=>trivial,?_⟩
  rw[<-dF]
  exact xp b c l f _ w h
theorem Rh {p:Region.Mode} {ops:Array Oper} {ds:List Deferred} {Q0 Q:Exit->Act->World->Prop} (k:∀e a w,Q0 e a w->e= .normal) (g:∀a w,Q0 .normal a w->Q .normal (dg ds a) w) (f:yL ops.toList=true):
 ∀(c:Nat) (b:Array Bool) (a:Act) (w:World),wpAny P p ops Q0 c b a w->wpAnyIn (WF r) 0 P p ops Q c b (dg ds a) w
 |0,b,a,w,h=>⟨h.1,g _ _ h.2⟩
 |c+1,b,a,w,h=>by
  refine⟨fun v=>g _ _ (h.1 v),fun i hi=> ?_⟩
  have d:=h.2 i hi
  unfold wpOp at d
  unfold wpOpIn
  cases m:ops[i]? with
  |none=>rw[m] at d;exact Rh k g f c _ _ _ d
  |some o=>
   rw[m] at d
   simp only at d⊢
   have s:yielded ops (dg ds a).tmps=yielded ops a.tmps:=rfl
   rw[s]
   have j:o∈ops.toList:=by
    have:=zD (l:=ops.toList) (i:=i) (a:=o) (by simpa using m);exact this
   split at d
   rename_i n;rw[jd n];rcases d with d|⟨_,x,y,u⟩;exact V1 k (re f o j) d (fun q w' t=>Rh k g f c _ q w' t);exact absurd (k _ _ _ u) (by simp);rename_i n;rw[jc n];refine⟨fun _ _=>trivial,?_⟩;rw[<-dF];exact Rh k g f c _ _ w d
theorem jcB (i:P.follows .mixedOrders=true) {id:Nat} {ops:Array Oper} {b:Bool} {ds:List Deferred} {Q0 Q:Exit->Act->World->Prop} (f:∀e a w,Q0 e a w->e= .normal) (d:∀a w,Q0 .normal a w->Q .normal (dg ds a) w)
 (c:yL ops.toList=true) {a:Act} {w:World} (h:SD P ops b Q0 a w):(Code.region id ops b).wpIn (WF r) 0 P Q (dg ds a) w:=by
 cases b with
 |false=>
  refine wpIn_region_list ?_;have:=xp (r:=r) (rest:=[]) f (fun a w g=>d a w g) ops.toList c a w h;simpa using this
 |true=>exact wpIn_region_any i (Rh f d c _ _ _ _ h)
def AT (P:Program) (B:qw) (n:Nat) (ds:List Deferred) (σ:St) (a:Act) (w:World):Prop:=
 ∃b,a=dg ds b/\Rel P B n σ b w
theorem jcC {B:qw} {C:Ctx} (m:C.ok P) (p:P.follows .mixedOrders=true) {A:Ann} {id:Nat} {ops:Array Oper} {c:Bool} {ds:List Deferred} {σ:St} {K:Ex->St->Prop} {Q:Exit->Act->World->Prop} {a:Act} {w:World}
 (k:yL ops.toList=true) (h:vcg C A (.region id ops c) σ K) (j:AT P B C.n ds σ a w) (o:∀b d w',Ext σ b->K .normal b->AT P B C.n ds b d w'->Q .normal d w'):
 (Code.region id ops c).wpIn (WF r) 0 P Q a w:=by
 obtain⟨q,rfl,j⟩:=j;refine jcB p (Q0:=fun e d w'=>e= .normal/\∃b,Ext σ b/\K .normal b/\Rel P B C.n b d w') (fun e _ _ h=>h.1) (fun d w' l=> ?_) k (Ht m h j (fun b d w' g i f=>⟨rfl,b,g,i,f⟩));obtain⟨_,b,g,i,f⟩:=l;exact o b _ w' g i ⟨d,rfl,f⟩
theorem Le {F:Fence} {n:Nat} {α:Type} (rl:α->α->Prop) (C:WellFounded rl) {Q:Exit->Act->World->Prop} {c:Code} {a:Act} {w:World} (I:α->Act->World->Prop) (j:α) (t:I j a w)
 (p:∀x a w,I x a w->c.wpIn F n P (Exit.then (fun q w'=>∃v,rl v x/\I v q w') Q) a w):(Code.loop c).wpIn F n P Q a w:=by
 intro b k cs B y A;have key:∀x a w,I x a w->∃e q w',Q e q w'/\ArrivesIn (Machine.fenced P F) P (lone (b.atR a (.code c:: .inLoop c::k)) cs w) b k cs e q w':=by
  intro x
  induction x using C.induction with
  |_ x E=>
   intro a w D;obtain⟨e,f,g,i,d⟩:=p x a w D b (.inLoop c::k) cs B y A;cases e with
   |normal=>
    obtain⟨v,z,m⟩:=i;obtain⟨s,r,u,o,h⟩:=E v z f g m;exact⟨s,r,u,o,.of_steps (StepsIn.trans d (.one (fenced_calm y A rfl) stepR_inLoop)) h⟩
   |exit id=>exact⟨_,f,g,i,.pass (x:= .inLoop c) rfl (fun _ _=> .inl (by simp)) d⟩
   |goto l=>exact⟨_,f,g,i,.pass (x:= .inLoop c) rfl (fun _ _=> .inl (by simp)) d⟩
   |ret=>exact⟨_,f,g,i,.pass (x:= .inLoop c) rfl (fun _ _=> .inl (by simp)) d⟩
   |panic ch=>exact⟨_,f,g,i,.pass (x:= .inLoop c) rfl (fun _ _=> .inl (by simp)) d⟩
   |outgrown=>exact⟨_,f,g,i,.pass (x:= .inLoop c) rfl (fun _ _=> .inl (by simp)) d⟩
 obtain⟨e,q,w',i,d⟩:=key j a w t;exact⟨e,q,w',i,.of_steps (.one (fenced_calm y A rfl) stepR_loop) d⟩
end
end Go.X
namespace Go.X
open Go.RowKit (Below)
structure FR (Y:Type) where
 sp:Nat->Bool--is the call that fills this slot one of them?
 call:SV->List SV->St->Y->(SV->St->Y->Prop)->Prop
 rng:Operand->Array Tmp->Code->Code->St->Y->(Bool->St->Y->Prop)->Prop--is it left by 'return'?
def jfN:Bool->Ex
 |true=> .ret
 |false=> .normal
structure V2 (Y:Type) where
 X:Type
 sl:X->List (Nat×SV)
 ob:X->List (Nat×Option Ob)
 ys:X->Y
 inv:X->Prop
 mu:X->Nat
def V2.plain {Y:Type} (L:V2 Y):pP:=⟨L.X,L.sl,L.ob,L.inv,L.mu⟩
abbrev CE (Y:Type):=Nat->Option (St->Y->V2 Y)
def jeC:Op->Bool
 | .call _=>true
 |_=>false
def Hz (sp:Nat->Bool):List Oper->Option (List Oper×Oper×List Oper)
 |[]=>none
 |o::r=>match o.dst with
  |some d=>match sp d,jeC o.op with
   |true,true=>some ([],o,r)
   |_,_=>match Hz sp r with
    |some (p,x,q)=>some (o::p,x,q)
    |none=>none
  |none=>match Hz sp r with
   |some (p,x,q)=>some (o::p,x,q)
   |none=>none
def AU (d:Nat) (g:Nat×Bool) (γ:Bool):Eff:=⟨some γ,[],[],[(d,.any)],[(d,g,.dat .bool false)],[],[]⟩
def yVC {Y:Type} (C:Ctx) (hk:FR Y) (ops pre:List Oper) (o:Oper) (a:List Oper) (σ:St) (ys:Y) (K:Ex->St->Y->Prop):Prop:=
 match bS C ops pre ⟨σ,[]⟩ with
 |none=>False
 |some (ss,rs)=>match rs.gl,o.op,o.guard,o.dst with
  |[],.call c,none,some d=>match c.callee,Nat.blt d C.n with
   | .value f,true=>qD false ss (hk.call (wx rs.st f) (c.args.toList.map (wx rs.st)) rs.st ys
    (fun sv τ h=>mD C ops a σ.ob.length ⟨(d,sv)::τ.sl,τ.ob⟩ (fun e b=>K e b h)))
   |_,_=>False
  |_,.call c,some g,some d=>match c.callee,Nat.blt d C.n,pj ops rs ops.length g with
   | .value f,true,some γ=>match fits C ops o rs (AU d g γ) with
    |true=>qD false ss (
     (γ=true->hk.call (wx (wR rs (xd ops rs ops.length g)) f) (c.args.toList.map (wx (wR rs (xd ops rs ops.length g)))) (wR rs (xd ops rs ops.length g)) ys
      (fun sv τ h=>mD C ops a σ.ob.length ⟨(d,sv)::τ.sl,τ.ob⟩ (fun e b=>K e b h)))/\
     (γ=false->Zn C ops a σ.ob.length (w8 (AU d g γ) rs) (fun e b=>K e b ys)))
    |false=>False
   |_,_,_=>False
  |_,_,_,_=>False
def jeD {Y:Type} (A:CE Y) (a:Code) (run:St->Y->(Ex->St->Y->Prop)->Prop) (σ:St) (ys:Y) (K:Ex->St->Y->Prop):Prop:=
 match A (pk a) with
 |none=>False
 |some L=>
  (∃x:(L σ ys).X,sub σ (qt (L σ ys).plain (qO a) σ x) (q6 ((L σ ys).sl x)) (q6 ((L σ ys).ob x))/\ys=(L σ ys).ys x/\(L σ ys).inv x)/\
  ∀x:(L σ ys).X,(L σ ys).inv x->run (qt (L σ ys).plain (qO a) σ x) ((L σ ys).ys x) (fun e b d=>match e with
   | .normal=>∃c:(L σ ys).X,sub b (qt (L σ ys).plain (qO a) σ c) (ar (q6 ((L σ ys).sl c)) (ar (q6 ((L σ ys).sl x)) (mC b.sl (qt (L σ ys).plain (qO a) σ x).sl.length)))
    (ar (q6 ((L σ ys).ob c)) (ar (q6 ((L σ ys).ob x)) (mC b.ob (qt (L σ ys).plain (qO a) σ x).ob.length)))/\d=(L σ ys).ys c/\(L σ ys).inv c/\(L σ ys).mu c<(L σ ys).mu x
   |e=>K e b d)
def jf7:Ann:=fun _=>none
def D4 {Y:Type} (C:Ctx) (A:CE Y) (hk:FR Y):Code->St->Y->(Ex->St->Y->Prop)->Prop
 | .skip,σ,ys,K=>K .normal σ ys
 | .region id ops h,σ,ys,K=>match yL ops.toList with
  |false=>False
  |true=>match Hz hk.sp ops.toList with
   |some (pre,o,j)=>match h with
    |false=>yVC C hk ops.toList pre o j σ ys K
    |true=>False
   |none=>vcg C jf7 (.region id ops h) σ (fun e d=>K e d ys)
 | .seq a b,σ,ys,K=>D4 C A hk a σ ys (fun e d f=>match e with
  | .normal=>D4 C A hk b d f K
  |e=>K e d f)
 | .cond c a b,σ,ys,K=>match wx σ c with
  | .dat .bool β=>(β=true->D4 C A hk a σ ys K)/\(β=false->D4 C A hk b σ ys K)
  |_=>False
 | .block id a,σ,ys,K=>D4 C A hk a σ ys (fun e d f=>match e with
  | .exit i=>match Nat.beq id i with
   |true=>K .normal d f
   |false=>K (.exit i) d f
  |e=>K e d f)
 | .loop a,σ,ys,K=>jeD A a (D4 C A hk a) σ ys K
 | .exit id,σ,ys,K=>K (.exit id) σ ys
 | .ret,σ,ys,K=>K .ret σ ys
 | .rangeFunc g ps a b,σ,ys,K=>hk.rng g ps a b σ ys (fun x d f=>K (jfN x) d f)
 |_,_,_,_=>False
section
variable {P:Program} {C:Ctx} {Y:Type}
def lD (P:Program) (C:Ctx) (r:Option Nat) (hk:FR Y) (e:qw->List Deferred->Y->Prop):Prop:=
 ∀(o:Oper) (c:Call) (f:Operand) (d:Nat) (σ:St) (ys:Y) (K:SV->St->Y->Prop) (B:qw) (ds:List Deferred) (a:Act) (w:World) (next:Act->World->Prop) (Q:Exit->Act->World->Prop),
  o.op= .call c->c.callee= .value f->o.dst=some d->d<C.n->hk.call (wx σ f) (c.args.toList.map (wx σ)) σ ys K->e B ds ys->AT P B C.n ds σ a w->
  (∀sv τ b v w' B',K sv τ b->Ext σ τ->e B' ds b->AT P B' C.n ds ⟨(d,sv)::τ.sl,τ.ob⟩ (a.put (some d) v) w'->next (a.put (some d) v) w')->
  o.wpIn (WF r) 0 P a w next Q
def D5 (P:Program) (C:Ctx) (r:Option Nat) (hk:FR Y) (f:qw->List Deferred->Y->Prop):Prop:=
 ∀(g:Operand) (ps:Array Tmp) (aZ b:Code) (σ:St) (ys:Y) (K:Bool->St->Y->Prop) (B:qw) (ds:List Deferred) (a:Act) (w:World) (Q:Exit->Act->World->Prop),
  hk.rng g ps aZ b σ ys K->f B ds ys->AT P B C.n ds σ a w->
  (∀x c e h w' B' d,K x c e->Ext σ c->f B' d e->AT P B' C.n d c h w'->Q (pw (jfN x)) h w')->(Code.rangeFunc g ps aZ b).wpIn (WF r) 0 P Q a w
theorem rg {sp:Nat->Bool}:∀(l:List Oper) {pre a:List Oper} {o:Oper},Hz sp l=some (pre,o,a)->l=pre++o::a
 |[],_,_,_,h=>by simp[Hz] at h
 |x::r,pre,a,o,h=>by
  simp only[Hz] at h
  split at h
  split at h
  simp at h;obtain⟨rfl,rfl,rfl⟩:=h;rfl
  split at h
  rename_i p y q b
  simp at h;obtain⟨rfl,rfl,rfl⟩:=h
  rw[rg r b];rfl
  cases h
  split at h
  rename_i p y q b
  simp at h;obtain⟨rfl,rfl,rfl⟩:=h
  rw[rg r b];rfl
  cases h
theorem D6:∀(a b:List Oper),yL (a++b)=true->yL a=true/\yL b=true
 |[],b,h=>⟨rfl,h⟩
 |o::a,b,h=>by
  simp only[j9,yL] at h⊢
  split at h
  cases h
  exact D6 a b h
theorem jcD {r:Option Nat} (hC:C.ok P) {hk:FR Y} {Lv:qw->List Deferred->Y->Prop} (E:lD P C r hk Lv) {id:Nat} {ops:Array Oper} {pre k:List Oper} {o:Oper} {σ:St} {ys:Y} {K:Ex->St->Y->Prop}
 {B:qw} {ds:List Deferred} {a:Act} {w:World} {Q:Exit->Act->World->Prop} (hnd:yL ops.toList=true) (hs:ops.toList=pre++o::k) (h:yVC C hk ops.toList pre o k σ ys K) (hL:Lv B ds ys) (hR:AT P B C.n ds σ a w)
 (hQ:∀l i z w' B',Ext σ l->K .normal l i->Lv B' ds i->AT P B' C.n ds l z w'->Q .normal z w'):(Code.region id ops false).wpIn (WF r) 0 P Q a w:=by
 rw[hs] at hnd;obtain⟨hn1,M⟩:=D6 _ _ hnd;have hn3:yL k=true:=by
  simp only[yL] at M
  split at M
  .cases M
  .exact M
 have hI:∀{a0:Act},Rel P B C.n σ a0 w->Inv P B C.n ops ⟨σ,[]⟩ a0 w:=by
  intro a0 hR;obtain⟨S,h2,ρ,h3,h4,h5⟩:=hR;exact⟨S,h2,ρ,h3,h4,(fun s g v hm=>by simp at hm),h5⟩
 have I:∀(B':qw) (i:Y) (N:RS) (y:Act) (w':World),Ext σ N.st->Lv B' ds i->Inv P B' C.n ops N y w'->Zn C ops.toList k σ.ob.length N (fun e l=>K e l i)->wpListIn (WF r) 0 P ops Q k (dg ds y) w':=by
  intro B' i N y w' hE u hI2 m;unfold Zn at m
  split at m
  .exact m.elim
  rename_i ss2 rs2 hr2;have:=xp (r:=r) (ds:=ds) (rest:=[]) (ops:=ops) (Q:=Q) (Q0:=fun e z w'=>e= .normal/\K .normal (yt ops.toList (gc σ.ob.length rs2.st)) i/\Inv P B' C.n ops rs2 z w')
   (fun e _ _ h=>h.1) (fun a3 w3 h3=> ?_) k hn3 y w' (yJ hC _ _ _ _ _ _ hr2 m hI2 (fun G z w' A=>⟨rfl,G,A⟩))
  .simpa using this
  .obtain⟨_,hk3,i1,i2,ρ,i3,i4,_,i5⟩:=h3;exact hQ _ i _ w3 B' (hE.trans ((gL _ _ _ _ hr2).trans ((px _ _).trans (qj _ _)))) hk3 u ⟨a3,rfl,qi _ (pv ⟨i1,i2,ρ,i3,i4,i5⟩)⟩
 have R:∀(B':qw) (i:Y) (J:St) (y:Act) (w':World),Ext σ J->Lv B' ds i->Rel P B' C.n J y w'->mD C ops.toList k σ.ob.length J (fun e l=>K e l i)->wpListIn (WF r) 0 P ops Q k (dg ds y) w':=by
  intro B' i J y w' hE u q m;refine I B' i ⟨J,[]⟩ y w' hE u ?_ m;obtain⟨S,h2,ρ,h3,h4,h5⟩:=q;exact⟨S,h2,ρ,h3,h4,(fun s g v hm=>by simp at hm),h5⟩
 unfold yVC at h
 split at h
 .exact h.elim
 rename_i ss rs hr;have V:Ext σ rs.st:=gL _ _ _ _ hr;obtain⟨a0,rfl,hR⟩:=hR;refine wpIn_region_list ?_;rw[hs]
 split at h
 .rename_i c d hgl hop F p
  split at h
  case h_2=>exact h.elim
  rename_i f D t;have t:d<C.n:=jB t;refine xp (Q0:=fun e z w'=>e= .normal/\hk.call (wx rs.st f) (c.args.toList.map (wx rs.st)) rs.st ys (fun sv τ i=>mD C ops.toList k σ.ob.length ⟨(d,sv)::τ.sl,τ.ob⟩ (fun e l=>K e l i))/\Inv P B C.n ops rs z w')
   (fun e _ _ h=>h.1) (fun L w1 S=> ?_) pre hn1 a0 w (yJ hC _ _ _ _ _ _ hr h (hI hR) (fun G z w' A=>⟨rfl,G,A⟩))
  obtain⟨_,hk1,hI1⟩:=S;unfold wpListIn;rw[jd (by simp[Region.wanted,F])];have W:AT P B C.n ds rs.st (dg ds L) w1:=by
   obtain⟨i1,i2,ρ,i3,i4,_,i5⟩:=hI1;exact⟨L,rfl,i1,i2,ρ,i3,i4,i5⟩
  refine E o c f d rs.st ys _ B ds _ w1 _ _ hop D p t hk1 hL W (fun sv τ i v w' B' m T u q=> ?_);obtain⟨y,X,q⟩:=q;rw[X];exact R B' i ⟨(d,sv)::τ.sl,τ.ob⟩ y w' (V.trans (T.trans ⟨⟨[_],rfl⟩,⟨[],rfl⟩⟩)) u q m
 .rename_i c g d hop F p
  split at h
  case h_2=>exact h.elim
  rename_i f γ D t hγ;have t:d<C.n:=jB t
  split at h
  case h_2=>exact h.elim
  rename_i hfit;refine xp (Q0:=fun e z w'=>e= .normal/\((γ=true->hk.call (wx (wR rs (xd ops.toList rs ops.toList.length g)) f) (c.args.toList.map (wx (wR rs (xd ops.toList rs ops.toList.length g)))) (wR rs (xd ops.toList rs ops.toList.length g)) ys
   (fun sv τ i=>mD C ops.toList k σ.ob.length ⟨(d,sv)::τ.sl,τ.ob⟩ (fun e l=>K e l i)))/\
   (γ=false->Zn C ops.toList k σ.ob.length (w8 (AU d g γ) rs) (fun e l=>K e l ys)))/\Inv P B C.n ops rs z w')
   (fun e _ _ h=>h.1) (fun L w1 S=> ?_) pre hn1 a0 w (yJ hC _ _ _ _ _ _ hr h (hI hR) (fun G z w' A=>⟨rfl,G,A⟩))
  obtain⟨_,⟨hk1,hk0⟩,i1,i2,ρ,i3,i4,i6,i5⟩:=S;have O:=dC i4 i6 _ _ _ hγ;have H:(Region.wanted o (yielded ops (dg ds L).tmps)=true)↔xa ops L g:=by
   obtain⟨j,b⟩:=g;simp[Region.wanted,F,xa,dg]
  unfold wpListIn;by_cases hH:xa ops L g
  .rw[jd (H.2 hH)];have W:AT P B C.n ds (wR rs (xd ops.toList rs ops.toList.length g)) (dg ds L) w1:=
    ⟨L,rfl,i1,i2,ρ,i3,cq i4 i6 (pV i6 _ _ hH),i5⟩
   have hE1:Ext rs.st (wR rs (xd ops.toList rs ops.toList.length g)):=⟨⟨_,rfl⟩,⟨[],rfl⟩⟩;refine E o c f d _ ys _ B ds _ w1 _ _ hop D p t (hk1 (O.1 hH)) hL W (fun sv τ i v w' B' m T u q=> ?_);obtain⟨y,X,q⟩:=q;rw[X];exact R B' i ⟨(d,sv)::τ.sl,τ.ob⟩ y w' ((V.trans hE1).trans (T.trans ⟨⟨[_],rfl⟩,⟨[],rfl⟩⟩)) u q m
  .rw[jc (fun h=>hH (H.1 h))];refine⟨fun _ _=>trivial,?_⟩;have hγ0:γ=false:=by cases γ with|true=>exact absurd (O.2 rfl) hH|false=>rfl
   have hIe:Inv P B C.n ops (w8 (AU d g γ) rs) (L.put o.dst undef) w1:=by
    refine pY (ρ:=ρ) (ρ'':=ρ) (e:=AU d g γ) (sv:= .any) (gv:= .dat .bool false) i1 i2 i4 i6 i5 i3 (Env.le.refl _ _) (aB hfit) (fun d' Z=>by rw[p] at Z;simp at Z;subst Z;exact t) (by simp[AU,KF,p]) (fun _ _=>yc _) (fun x hx=> ?_) (fun d' g' _ hg'=>⟨fun hh=> ?_,fun _=>rfl⟩)
    .simp only[AU,ky] at hx;exact⟨d,g,p,F,hx⟩
    .rw[F] at hg';simp at hg';subst hg';exact absurd hh hH
   have:=I B ys (w8 (AU d g γ) rs) (L.put o.dst undef) w1 (V.trans ⟨⟨[_],rfl⟩,⟨[],rfl⟩⟩) hL hIe (hk0 hγ0);rw[dF] at this;exact this
 .exact h.elim
theorem Ri {B:qw} {n:Nat} {ds:List Deferred} {σ τ:St} {ks os:List Nat} (h:sub σ τ ks os) (d:∀s,s∉ks->τ.get s= .any\/τ.get s=σ.get s) (f:∀o,o∉os->τ.obj o=none\/τ.obj o=σ.obj o) {a:Act} {w:World}
 (b:AT P B n ds σ a w):AT P B n ds τ a w:=by
 obtain⟨c,e,b⟩:=b;exact⟨c,e,Oo h d f b⟩
def IT (P:Program) (C:Ctx) (A:CE Y) (hk:FR Y) (f:qw->List Deferred->Y->Prop) (x:Code) (K:Ex->St->Y->Prop) (σ:St) (ys:Y) (n:Nat) (a:Act) (w:World):Prop:=
 ∃L,A (pk x)=some L/\(∀y:(L σ ys).X,(L σ ys).inv y->D4 C A hk x (qt (L σ ys).plain (qO x) σ y) ((L σ ys).ys y) (fun e b d=>match e with
  | .normal=>∃c:(L σ ys).X,sub b (qt (L σ ys).plain (qO x) σ c) (ar (q6 ((L σ ys).sl c)) (ar (q6 ((L σ ys).sl y)) (mC b.sl (qt (L σ ys).plain (qO x) σ y).sl.length)))
   (ar (q6 ((L σ ys).ob c)) (ar (q6 ((L σ ys).ob y)) (mC b.ob (qt (L σ ys).plain (qO x) σ y).ob.length)))/\d=(L σ ys).ys c/\(L σ ys).inv c/\(L σ ys).mu c<(L σ ys).mu y
  |e=>K e b d))/\
  ∃y B ds,(L σ ys).inv y/\(L σ ys).mu y=n/\f B ds ((L σ ys).ys y)/\AT P B C.n ds (qt (L σ ys).plain (qO x) σ y) a w
theorem IU {r:Option Nat} {A:CE Y} {hk:FR Y} {k:qw->List Deferred->Y->Prop} {x:Code} {K:Ex->St->Y->Prop} {Q:Exit->Act->World->Prop} {n:Nat} {a:Act} {σ:St} {ys:Y} {w:World} {J:Act->World->Prop}
 (u:∀(σ:St) (ys:Y) (K:Ex->St->Y->Prop) (Q:Exit->Act->World->Prop) (a:Act) (w:World) (B:qw) (ds:List Deferred),D4 C A hk x σ ys K->k B ds ys->AT P B C.n ds σ a w->
  (∀e b f g w' B' c,Ext σ b->K e b f->k B' c f->AT P B' C.n c b g w'->Q (pw e) g w')->x.wpIn (WF r) 0 P Q a w)
 (hI:IT P C A hk k x K σ ys n a w) (V:∀e b f g w' B' c,Ext σ b->K e b f->k B' c f->AT P B' C.n c b g w'->Q (pw e) g w')
 (hJ:∀Z,Z<n->∀g w',IT P C A hk k x K σ ys Z g w'->J g w'):x.wpIn (WF r) 0 P (Exit.then J Q) a w:=by
 obtain⟨L,hL,d,y,B,ds,H,rfl,I,m⟩:=hI;generalize v:qO x=ws at d m;refine u _ _ _ _ a w B ds (d y H) I m (fun e b f g w' B' c z F i h=> ?_);have l:Ext σ (qt (L σ ys).plain ws σ y):=⟨⟨(L σ ys).sl y++ws.map (fun s=>(s,SV.any)),by simp[qt,V2.plain]⟩,⟨(L σ ys).ob y++ws.map (fun s=>(s,none)),by simp[qt,V2.plain]⟩⟩;cases e with
 |ret=>exact V .ret b f g w' B' c (l.trans z) F i h
 |exit id=>exact V (.exit id) b f g w' B' c (l.trans z) F i h
 |normal=>
  obtain⟨D,N,O,G,M⟩:=F;have t:AT P B' C.n c (qt (L σ ys).plain ws σ D) g w':=by
   refine Ri N (fun s X=> ?_) (fun o W=> ?_) h;simp only[qP,not_or] at X;obtain⟨R,S,T⟩:=X;refine .inr ?_;obtain⟨p,q⟩:=z.sl;have j:s∉q6 p:=fun hk=>T (by rw[q];exact fq p _ s hk)
   have E:wc b.sl s=wc (ws.map (fun s=>(s,SV.any))++σ.sl) s:=by
    rw[q,kM,kX _ _ j];exact tg (L σ ys).plain ws σ y s S
   unfold St.get;rw[E,tg (L σ ys).plain ws σ D s R];simp only[qP,not_or] at W;obtain⟨R,S,T⟩:=W;refine .inr ?_;obtain⟨p,q⟩:=z.ob;have j:o∉q6 p:=fun hk=>T (by rw[q];exact fq p _ o hk)
   have E:wc b.ob o=wc (ws.map (fun s=>(s,(none:Option Ob)))++σ.ob) o:=by
    rw[q,kM,kX _ _ j];exact fu (L σ ys).plain ws σ y o S
   simp only[St.obj];rw[E,fu (L σ ys).plain ws σ D o R]
  exact hJ _ M g w' ⟨L,hL,by rw[v];exact d,D,B',c,G,rfl,by rw[<-O];exact i,by rw[v];exact t⟩
theorem vR {r:Option Nat} (G:C.ok P) (I:P.follows .mixedOrders=true) (A:CE Y) (hk:FR Y) (E:qw->List Deferred->Y->Prop) (k:lD P C r hk E) (p:D5 P C r hk E):
 ∀(c:Code) (σ:St) (ys:Y) (K:Ex->St->Y->Prop) (Q:Exit->Act->World->Prop) (a:Act) (w:World) (B:qw) (ds:List Deferred),D4 C A hk c σ ys K->E B ds ys->AT P B C.n ds σ a w->
 (∀e d f q w' B' j,Ext σ d->K e d f->E B' j f->AT P B' C.n j d q w'->Q (pw e) q w')->c.wpIn (WF r) 0 P Q a w
 | .skip,σ,ys,K,Q,a,w,B,ds,h,u,t,l=>wpIn_skip (l .normal σ ys a w B ds (Ext.refl _) h u t)
 | .region id ops draw,σ,ys,K,Q,a,w,B,ds,h,u,t,l=>by
  simp only[D4] at h
  split at h
  .exact h.elim
  rename_i J
  split at h
  .rename_i pre o post X
   split at h
   case h_2=>exact h.elim
   exact jcD G k J (rg _ X) h u t (fun d f q w' B' z v D i=>l .normal d f q w' B' ds z v D i)
  .exact jcC G I J h t (fun d q w' z v i=>l .normal d ys q w' B ds z v u i)
 | .seq x y,σ,ys,K,Q,a,w,B,ds,h,u,t,l=>by
  simp only[D4] at h
  refine wpIn_seq (vR G I A hk E k p x σ ys _ _ a w B ds h u t (fun e d f q w' B' j z v D i=> ?_))
  cases e with
  |normal=>exact vR G I A hk E k p y d f K Q q w' B' j v D i (fun e2 σ2 ys2 a2 w2 B2 N R=>l e2 σ2 ys2 a2 w2 B2 N (z.trans R))
  |ret=>exact l .ret d f q w' B' j z v D i
  |exit id=>exact l (.exit id) d f q w' B' j z v D i
 | .cond c x y,σ,ys,K,Q,a,w,B,ds,h,u,t,l=>by
  simp only[D4] at h
  split at h
  case h_2=>exact h.elim
  rename_i β hc
  have hv:a.eval c= .bool β:=by
   obtain⟨a0,rfl,_,_,ρ,_,T,_⟩:=t;have:=wu (P:=P) (ρ:=ρ) T c;rw[hc] at this;rw[mX];exact qJ (by simpa only[SV.den] using this)
  refine wpIn_cond_split hv (fun H=>vR G I A hk E k p x σ ys K Q a w B ds (h.1 H) u t l) (fun H=>vR G I A hk E k p y σ ys K Q a w B ds (h.2 H) u t l)
 | .block id x,σ,ys,K,Q,a,w,B,ds,h,u,t,l=>by
  simp only[D4] at h;refine wpIn_block (vR G I A hk E k p x σ ys _ _ a w B ds h u t (fun e d f q w' B' j z v D i=> ?_));cases e with
  |normal=>exact l .normal d f q w' B' j z v D i
  |ret=>exact l .ret d f q w' B' j z v D i
  |exit id'=>
   simp only[pw,Exit.inBlock];simp only at v
   split at v
   .rename_i H;have:=jb H;subst this;rw[jd rfl];exact l .normal d f q w' B' j z v D i
   .rename_i H;rw[jc (fun e=>wO H e.symm)];exact l (.exit id') d f q w' B' j z v D i
 | .loop x,σ,ys,K,Q,a,w,B,ds,h,u,t,l=>by
  simp only[D4] at h;have M:=fun(σ:St) (ys:Y) (K:Ex->St->Y->Prop) (Q:Exit->Act->World->Prop) (a:Act) (w:World) (B:qw) (ds:List Deferred)=>vR G I A hk E k p x σ ys K Q a w B ds
  have O:∃n,IT P C A hk E x K σ ys n a w:=by
   unfold jeD at h
   split at h
   .exact h.elim
   rename_i L S;obtain⟨⟨x0,Z,hy0,V⟩,F⟩:=h;exact⟨_,L,S,F,x0,B,ds,V,rfl,by rw[<-hy0];exact u,Ri Z (fun s X=>Q5 (L σ ys).plain (qO x) σ x0 s X) (fun o ho=>Q6 (L σ ys).plain (qO x) σ x0 o ho) t⟩
  obtain⟨n0,O⟩:=O;refine Le (fun(m n:Nat)=>m<n) Nat.lt_wfRel.wf (fun n q w'=>IT P C A hk E x K σ ys n q w') n0 O ?_;intro n a1 w1 hI;exact IU M hI (fun e d f q w' B' j z v D i=>l e d f q w' B' j z v D i) (fun m' W q w' h'=>⟨m',W,h'⟩)
 | .exit id,σ,ys,K,Q,a,w,B,ds,h,u,t,l=>wpIn_exit (l (.exit id) σ ys a w B ds (Ext.refl _) h u t)
 | .ret,σ,ys,K,Q,a,w,B,ds,h,u,t,l=>wpIn_ret (l .ret σ ys a w B ds (Ext.refl _) h u t)
 | .rangeFunc g ps aZ b,σ,ys,K,Q,a,w,B,ds,h,u,t,l=>by
  simp only[D4] at h;exact p g ps aZ b σ ys _ B ds a w Q h u t (fun x d f q w' B' j v z D i=>l (jfN x) d f q w' B' j z v D i)
 | .scope _,_,_,_,_,_,_,_,_,h,_,_,_=>h.elim
 | .label _,_,_,_,_,_,_,_,_,h,_,_,_=>h.elim
 | .goto _,_,_,_,_,_,_,_,_,h,_,_,_=>h.elim
 | .refuse _,_,_,_,_,_,_,_,_,h,_,_,_=>h.elim
end
end Go.X
namespace Go.X
open Go.RowKit (Below)
abbrev Res (D:Type):=List D->(Nat->Prop)->Imm->World->Prop
def Res.stable {D:Type} (R:Res D) (B0:Nat):Prop:=
 ∀pre fp H w H' w',R pre fp H w->w'.os=w.os->w'.tape=w.tape->w'.output=w.output->w.drawn<=w'.drawn->w.heap.size<=w'.heap.size->ir H' w'->(∀b c,H b=some c->H' b=some c)->
  (∀b,b<w.heap.size->(b<B0\/fp b)->w'.heap[b]? =w.heap[b]?/\H' b=H b)->R pre fp H' w'
structure jcE (B0:Nat) (fp:Nat->Prop) (H:Imm) (w:World) (fp':Nat->Prop) (H':Imm) (w':World):Prop where
 size:w.heap.size<=w'.heap.size
 good:ir H' w'
 mono:∀b c,H b=some c->H' b=some c
 own:∀b,b<w.heap.size->B0<=b->¬fp b->w'.heap[b]? =w.heap[b]?/\H' b=H b
 fp:∀b,fp' b->(fp b\/w.heap.size<=b)/\b<w'.heap.size/\B0<=b
def YB (P:Program) (ts:List Ty) (B0 l:Nat) (R c:Res (Ty.st ts).Data) (a:List (Ty.st ts).Data->Prop):Prop:=
 ∀pre x vals fp H w,a (pre++[x])->R pre fp H w->ir H w->B0<=w.heap.size->(∀b,fp b->b<w.heap.size/\B0<=b)->rvs H ts vals x->
  YieldAt Fence.wide 0 P l vals.toArray w (fun e w'=>∃β fp' H',e= .returned (.bool β)/\jcE B0 fp H w fp' H' w'/\(match β with|true=>R (pre++[x]) fp' H' w'|false=>c (pre++[x]) fp' H' w'))
def Zu (P:Program) (H:Imm) (ts:List Ty) (L:List (Ty.st ts).Data->Prop) (v:Value):Prop:=
 ∃g lb,v= .func (.func g) #[] lb/\enters P g/\∀H1 w l (R a:Res (Ty.st ts).Data),(∀b c,H b=some c->H1 b=some c)->ir H1 w->R.stable w.heap.size->a.stable w.heap.size->
  YB P ts w.heap.size l R a (fun q=>∃rest,L (q++rest))->R [] (fun _=>False) H1 w->
  Calls P g (#[.func (.yield l) #[] #[]]++lb) w (fun e w'=>∃v,e= .returned v/\((∃xs fp' H',L xs/\R xs fp' H' w')\/(∃q fp' H',a q fp' H' w')))
theorem Zu.mono {P:Program} {H H':Imm} (i:∀b c,H b=some c->H' b=some c) {ts:List Ty} {L:List (Ty.st ts).Data->Prop} {v:Value} (h:Zu P H ts L v):Zu P H' ts L v:=by
 obtain⟨g,lb,e,en,k⟩:=h;exact⟨g,lb,e,en,fun a w l R d f=>k a w l R d (fun b c j=>f b c (i b c j))⟩
abbrev YS (ts:List Ty):=List (Ty.st ts).Data×Bool
def jbv:Value->Option Nat
 | .func (.yield l) f c=>match f.toList,c.toList with
  |[],[]=>some l
  |_,_=>none
 |_=>none
abbrev Inl (ts:List Ty):=List SV->St->YS ts->(SV->St->YS ts->Prop)->Prop
def hkY (ts:List Ty) (l:Nat) (b:List Nat) (c:List (Ty.st ts).Data->Prop) (inl:Nat->Option (Inl ts)):FR (YS ts):=
 ⟨fun d=>aW b d,fun a args τ ys K=>match ys.2 with
  |false=>False
  |true=>match a with
   | .lit v=>match jbv v with
    |some l'=>l'=l/\(match KB τ ts args with
     |some (d,fz)=>c (ys.1++[d])/\K (.dat .bool true) (τ.frz fz) (ys.1++[d],true)/\K (.dat .bool false) (τ.frz fz) (ys.1++[d],false)
     |none=>False)
    |none=>False
   | .clo f caps=>match inl f with
    |some run=>run (args++caps) τ ys K
    |none=>False
   |_=>False,fun _ _ _ _ _ _ _=>False⟩
def LvY (ts:List Ty) (B0:Nat) (R a:Res (Ty.st ts).Data) (B:qw) (ds:List Deferred) (ys:YS ts):Prop:=
 ds=[]/\B0<=B.w.heap.size/\(∀b,b∈B.bor->B0<=b)/\∃fp:Nat->Prop,(∀b,fp b->B0<=b/\b<B.w.heap.size/\b∉B.bor)/\(match ys.2 with|true=>R ys.1 fp B.H B.w|false=>a ys.1 fp B.H B.w)
section
variable {P:Program} {C:Ctx} {ts:List Ty}
theorem aT (a:Act):dg [] a=a:=by simp[dg]
theorem V3 (σ:St) (fz:List Nat):Ext σ (σ.frz fz):=⟨⟨[],rfl⟩,⟨_,rfl⟩⟩
def jf8 (P:Program) (f:Nat) (run:Inl ts) (c:qw->List Deferred->YS ts->Prop):Prop:=
 enters P f/\∀svs σ ys K B ρ w vals,run svs σ ys K->Sat P B ρ σ.obj w->Pin B ρ->SV.denL P ρ svs vals->c B [] ys->
  Calls P f vals.toArray w (fun e w'=>∃v,e= .returned v/\∃sv τ b B' a,K sv τ b/\Ext σ τ/\(∀s,τ.get s= .any)/\c B' [] b/\Sat P B' a τ.obj w'/\Pin B' a/\SV.den P a sv v)
theorem OI {o:Oper} {c:Call} {f:Operand} {ev:Operand->Value} {l:Nat} {w:World} (a:o.op= .call c) (b:c.callee= .value f) (e:ev f= .func (.yield l) #[] #[]):
 (execOp ev o).run P w=(Instr.yield l (c.args.map ev)).run P w:=by
 simp only[execOp,a,jC,resolve,b,Deferred.ofValue,e,jT,js,invoke];simp
theorem Zv {l B0:Nat} {R Rx:Res (Ty.st ts).Data} {sps:List Nat} {Pm:List (Ty.st ts).Data->Prop} {inl:Nat->Option (Inl ts)} (hR:R.stable B0) (hB:YB P ts B0 l R Rx Pm)
 (hinl:∀f run,inl f=some run->jf8 P f run (LvY ts B0 R Rx)):lD P C none (hkY ts l sps Pm inl) (LvY ts B0 R Rx):=by
 intro o c f d σ ys K B ds a w next Q hop hc V hd h hL hRel hK;obtain⟨rfl,W,A,fp,D,m⟩:=hL;obtain⟨T,rfl,hd0,N,ρ,hS,X,t⟩:=hRel;rw[aT] at hK⊢;have hnd:∀c,o.op≠.defer c:=fun c e=>by rw[hop] at e;cases e
 have q:=wu (P:=P) (ρ:=ρ) X f;have u:=dB (P:=P) (ρ:=ρ) (σ:=σ) (fun x=>wu (P:=P) (ρ:=ρ) X x) c.args.toList;refine⟨fun _ _=>trivial,?_⟩;rw[Oper.semAt_eq _ _ _ hnd];simp only[hkY] at h
 split at h
 .exact h.elim
 rename_i G;rw[G] at m;simp only at m
 split at h
 .rename_i v hv
  split at h
  case h_2=>exact h.elim
  rename_i l' j;obtain⟨rfl,h⟩:=h
  split at h
  case h_2=>exact h.elim
  rename_i x fz hz;obtain⟨hPm,hK1,hK2⟩:=h;rw[hv] at q;simp only[SV.den] at q;have hev:T.eval f= .func (.yield l') #[] #[]:=by
   rw[q];unfold jbv at j
   split at j
   .split at j
    .rename_i e1 e2;simp at j;subst j;have e1:=jL.1 (show _=(#[]:Array Value).toList from e1);have e2:=jL.1 (show _=(#[]:Array Value).toList from e2);rw[e1,e2]
    .cases j
   .cases j
  rw[OI hop hc hev];obtain⟨ρ1,g,E,Y,hlen1⟩:=wF fz hS;have hrv:=iC g (v6 σ fz) hz (fun o ho=>ho) (SV.denL_mono E _ _ (fun o ho=>by simp at ho) u);have hmono:∀b c,B.H b=some c->ρ1.H b=some c:=fun b c i=>E.H b c (t.2 b c i)
  have hR1:R ys.1 fp ρ1.H w:=hR _ _ _ _ _ _ m g.os g.tape g.output g.drawn g.size g.good hmono (fun b i O=>by
   have hnb:b∉B.bor:=by
    rcases O with O|O
    .intro hm;have:=A b hm;omega
    .exact(D b O).2.2
   exact⟨g.old b i hnb,g.oldH b i hnb⟩)
  have z:∀o b J,ρ1.blk o=some (some (b,J))->b<w.heap.size/\B0<=b/\¬fp b:=by
   intro o b J i;refine⟨(ba (σ:=σ.frz fz) g i).1,?_,fun hf=> ?_⟩
   .rcases g.own o b J i with L|L
    .omega
    .exact A b L
   .have:=D b hf;rcases g.own o b J i with L|L
    .omega
    .exact this.2.2 L
  obtain⟨fn,tmps,aZ,body,hy,S⟩:=hB ys.1 x _ fp ρ1.H w hPm hR1 g.good (jF W g.size) (fun b i=>⟨zB (D b i).2.1 g.size,(D b i).1⟩) hrv;have hy':(Instr.yield l' (c.args.map T.eval)).run P w= .ok (.round l' fn tmps aZ body) w:=by
   rw[<-hy];congr 2;apply jL.1;simp
  rw[hy'];simp only[Oper.uponIn];refine⟨fun hd=>by simp[Fence.wide] at hd,?_⟩;refine RoundIn.mono (F:=WF none) (n:=0) S fun e w' he=> ?_
  obtain⟨β,fp',H',rfl,hY,hres'⟩:=he;simp only;rw[V]
  let B':qw:={B with w:=w',H:=H',bor:=wV ρ1 (q6 (σ.frz fz).ob)}
  have hS2:Sat P B' {ρ1 with H:=H'} (σ.frz fz).obj w':=ou g hY.good hY.mono (fun o b J i=>by
   obtain⟨k1,k2,k3⟩:=z o b J i;exact hY.own b k1 k2 k3)
  have hle2:ρ.le {ρ1 with H:=H'} []:=E.trans ⟨hY.mono,fun _ _ _ h=>h,fun _ _=>rfl⟩;have M:LvY ts B0 R Rx B' [] (ys.1++[x],β):=by
   refine⟨rfl,jF W (jF g.size hY.size),fun b i=> ?_,fp',fun b i=> ?_,?_⟩
   .obtain⟨o,J,_,L⟩:=(wW _).1 i;exact(z o b J L).2.1
   .obtain⟨g1,g2,g3⟩:=hY.fp b i;refine⟨g3,g2,fun hm=> ?_⟩;obtain⟨o,J,_,L⟩:=(wW _).1 hm;obtain⟨k1,k2,k3⟩:=z o b J L;rcases g1 with g1|g1
    .exact k3 g1
    .omega
   .cases β<;>exact hres'
  have hP2:Pin B' {ρ1 with H:=H'}:=⟨fun o p ho hp=>by
   have:=t.1 o p ho (by rw[<-Y];exact hp);exact⟨this.1,by show ρ1.len o=_;rw[hlen1];exact this.2⟩,fun _ _ i=>i⟩
  have fin:AT P B' C.n [] ⟨(d,.dat .bool β)::(σ.frz fz).sl,(σ.frz fz).ob⟩ (T.put (some d) (.bool β)) w':=by
   refine⟨_,(aT _).symm,by simpa[Act.put] using hd0,by simpa[Act.put] using N,_,hS2,?_,hP2⟩;intro s y I;simp only[Act.put];by_cases hs:s=d
   .subst hs;rw[wl] at I;simp at I;subst I;simp only[jq,jM];simp only[if_true];rw[jd (by rw[N];exact hd)];exact y7 _
   .rw[wa (fun h=>hs h.symm)] at I;simp only[jq,jM];rw[jc (fun h=>hs h.symm)];have:=SV.den_mono hle2 _ _ (fun r hr=>by simp at hr) (X s y I);simpa only[jq] using this
  cases β with
  |true=>exact hK _ _ _ _ _ _ hK1 (V3 σ fz) M fin
  |false=>exact hK _ _ _ _ _ _ hK2 (V3 σ fz) M fin
 .rename_i k caps hv
  split at h
  case h_2=>exact h.elim
  rename_i run hrun;obtain⟨hen,Z⟩:=hinl k run hrun;rw[hv] at q;simp only[SV.den] at q;obtain⟨vs,ef,hcaps⟩:=q;have hall:=yI _ _ _ _ u hcaps;have hex:(execOp T.eval o).run P w= .ok (.enter k (c.args.map T.eval++vs)) w:=by
   simp only[execOp,hop,jC,resolve,hc,Deferred.ofValue,ef,jT,js,invoke];rw[<-hen (c.args.map T.eval++vs) w];simp
  rw[hex];simp only[Oper.uponIn];refine⟨fun hd=>by simp[Fence.wide] at hd,oz.2 ?_⟩;have hc1:=Z _ σ ys K B ρ w _ h hS t hall ⟨rfl,W,A,fp,D,by rw[G];exact m⟩;rw[show(c.args.toList.map T.eval++vs.toList).toArray=c.args.map T.eval++vs from by apply jL.1;simp] at hc1;refine hc1.mono fun e w' he=> ?_
  obtain⟨v,rfl,sv,τ,ys',B',ρ',hk,hE,hany,M,hS',hP',hdv⟩:=he;simp only;rw[V];refine hK sv τ ys' v w' B' hk hE M ⟨_,(aT _).symm,by simpa[Act.put] using hd0,by simpa[Act.put] using N,ρ',hS',?_,hP'⟩;intro s y I;simp only[Act.put];by_cases hs:s=d
  .subst hs;rw[wl] at I;simp at I;subst I;simp only[jq,jM];simp only[if_true];rw[jd (by rw[N];exact hd)];exact hdv
  .rw[wa (fun h=>hs h.symm)] at I;have:=hany s;unfold St.get at this;rw[I] at this;simp only at this;subst this;simp[SV.den]
 .exact h.elim
theorem jcF {l B0:Nat} {R c:Res (Ty.st ts).Data} {a:List Nat} {b:List (Ty.st ts).Data->Prop} {inl:Nat->Option (Inl ts)} {r:Option Nat}:D5 P C r (hkY ts l a b inl) (LvY ts B0 R c):=
 fun _ _ _ _ _ _ _ _ _ _ _ _ h _ _ _=>h.elim
end
end Go.X
namespace Go.X
open Go.RowKit (Below)
def HA:List SV->Nat->List (Nat×SV)
 |[],_=>[]
 |v::r,i=>(i,v)::HA r (i+1)
def jcG (σ:St):List (Nat×SV):=(q6 σ.sl).map (fun s=>(s,SV.any))
def jgE {ts:List Ty} (C:Ctx) (A:CE (YS ts)) (hk:FR (YS ts)) (body:Code):Inl ts:=fun svs σ ys K=>
 match Nat.ble svs.length C.n with
 |false=>False
 |true=>D4 C A hk body ⟨HA svs 0,σ.ob⟩ ys (fun e b a=>match e with
  | .exit _=>False
  |_=>K .any ⟨jcG σ++σ.sl,b.ob⟩ a)
@[irreducible] def Zw (C:Ctx) (body:Code) (ts:List Ty) (caps:List Par) (L:PD caps->List (Ty.st ts).Data->Prop) (pre:PD caps->List Prop) (A:PD caps->Nat->CE (YS ts)) (hk:PD caps->Nat->FR (YS ts)):Prop:=
 ∀(d:PD caps) (l:Nat),Ih (pre d) (D4 C (A d l) (hk d l) body ⟨(0,.lit (.func (.yield l) #[] #[]))::vw caps d 1,[]⟩ ([],true) (fun e _ ys=>match e with
  | .exit _=>False
  |_=>ys.2=true->L d ys.1))
section
variable {P:Program} {C:Ctx} {ts:List Ty}
theorem HB {ρ:Env}:∀(svs:List SV) (vals:List Value) (i:Nat),SV.denL P ρ svs vals->∀s v,wc (HA svs i) s=some v->∃x,vals[s-i]? =some x/\SV.den P ρ v x/\i<=s
 |[],_,_,_,_,_,h=>by simp[HA,wc] at h
 |u::r,vals,i,hd,s,v,h=>by
  simp only[SV.denL] at hd
  obtain⟨x,f,rfl,b,c⟩:=hd
  simp only[HA,wc] at h
  cases a:Nat.beq i s with
  |true=>
   have:=jb a;subst this
   rw[a] at h;simp at h;subst h
   exact⟨x,by simp,b,jj _⟩
  |false=>
   rw[a] at h
   obtain⟨y,d,e,g⟩:=HB r f (i+1) c s v h
   exact⟨y,by rw[show s-i=(s-(i+1))+1 by omega];simpa using d,e,by omega⟩
theorem mY {vals:List Value} {n k:Nat} {x:Value} (h:vals[k]? =some x):(vals.toArray++Array.replicate n undef).getD k undef=x:=by
 have a:=(jo.1 h).1;rw[jq,zn (by simpa using a)];simp[h]
theorem jbw (hC:C.ok P) (W:P.follows .mixedOrders=true) {g:Nat} {fn:Func} {body:Code} (hf:P.funcs[g]? =some fn) (c:fn.body=some body) (u:(fn.name== "runtime.NumGoroutine")=false) (hn:fn.ntmps=C.n)
 (M:fn.results.toList=[]) {caps:List Par} (hps:caps.length+1<=C.n) {L:PD caps->List (Ty.st ts).Data->Prop} {pre:PD caps->List Prop} {A:PD caps->Nat->CE (YS ts)} {hk:PD caps->Nat->FR (YS ts)}
 (h:Zw C body ts caps L pre A hk) (t:∀d l B0 R j,Res.stable R B0->Res.stable j B0->YB P ts B0 l R j (fun q=>∃rest,L d (q++rest))->lD P C none (hk d l) (LvY ts B0 R j)/\D5 P C none (hk d l) (LvY ts B0 R j))
 {H:Imm} {lb:Array Value} {d:PD caps} (hd:pvs P H caps lb.toList d) (K:vI (pre d)):Zu P H ts (L d) (.func (.func g) #[] lb):=by
 unfold Zw at h;refine⟨g,lb,rfl,qQ hf c u,fun H1 w l R j hH hg hR E hY T=> ?_⟩;obtain⟨hc,hr⟩:=t d l w.heap.size R j hR E hY;have hv:=bi _ _ (h d l) K;have G:=pvs.mono hH hd;have I:=cr G;refine calls_of_wp hf c (jcA.1 ?_)
 let ρ:Env:=⟨H1,fun _=>none,fun _=>0⟩
 let B:qw:=⟨w,H1,[],fun _=>none,fun _=>0⟩
 have hS:Sat P B ρ (⟨(0,.lit (.func (.yield l) #[] #[]))::vw caps d 1,[]⟩:St).obj w:=by
  refine⟨rfl,rfl,rfl,jj _,jj _,hg,fun _ _ _=>rfl,fun _ _ _=>rfl,?_,fun _ _=>rfl,?_,?_⟩;intro o x hx;simp[St.obj,wc] at hx;intro o o' b C1 C2 z;simp[ρ] at z;intro o b C1 z;simp[ρ] at z
 have y: #[Value.func (.yield l) #[] #[]]++lb=(Value.func (.yield l) #[] #[]::lb.toList).toArray:=(by apply jL.1;simp);rw[y];have D:AT P B C.n [] ⟨(0,.lit (.func (.yield l) #[] #[]))::vw caps d 1,[]⟩ {tmps:=(Value.func (.yield l) #[] #[]::lb.toList).toArray++Array.replicate (fn.ntmps-(Value.func (.yield l) #[] #[]::lb.toList).toArray.size) undef,defers:=[]} w:=by
  refine⟨_,(aT _).symm,rfl,by simp at I⊢;omega,ρ,hS,?_,fun o p _ c=>by simp[ρ] at c,fun _ _ c=>c⟩;intro k v hk;cases k with
  |zero=>
   rw[wl] at hk;simp at hk;subst hk;rw[mY (x:= .func (.yield l) #[] #[]) rfl];simp[SV.den]
  |succ k=>
   rw[wa (by omega)] at hk;obtain⟨x,z,h2⟩:=yT (P:=P) (ρ:=ρ) caps lb.toList d 1 G _ v hk;rw[mY (x:=x) (by simpa using z)];exact h2
 refine vR hC W (A d l) (hk d l) _ hc hr body _ _ _ _ _ w B [] hv ⟨rfl,jj _,fun b c=>by simp[B] at c,fun _=>False,fun _ c=>c.elim,T⟩ D (fun e σ' f a' w' B' ds' hE N Q S=> ?_);obtain⟨rfl,hB0,F,fp,V,a⟩:=Q;obtain⟨a1,rfl,q1,q2,Y,s,q4,q5⟩:=S;rw[aT];have r:∀(Z:Res (Ty.st ts).Data),Z.stable w.heap.size->Z f.1 fp B'.H B'.w->Z f.1 fp Y.H w':=fun Z hZ hz=>
  hZ _ _ _ _ _ _ hz s.os s.tape s.output s.drawn s.size s.good q5.2 (fun b c i=>by
   have J:b∉B'.bor:=by
    rcases i with i|i;intro W;have:=F b W;omega;exact(V b i).2.2
   exact⟨s.old b c J,s.oldH b c J⟩)
 have m:(f.2=true->L d f.1)->a1.defers=[]/\∃v,(Go.results fn a1.tmps).run P w'= .ok v w'/\∃v',(Ending.returned v)= .returned v'/\((∃xs fp' H',L d xs/\R xs fp' H' w')\/(∃q fp' H',j q fp' H' w')):=by
  intro O;refine⟨q1,_,gM (vs:=[]) (by rw[M];rfl),_,rfl,?_⟩;cases X:f.2 with
  |true=>rw[X] at a;exact .inl ⟨_,fp,_,O X,r R hR a⟩
  |false=>rw[X] at a;exact .inr ⟨_,fp,_,r j E a⟩
 cases e with
 |normal=>exact m N
 |ret=>exact m N
 |exit id=>exact N.elim
end
end Go.X
namespace Go.X
open Go.RowKit (Below)
def Bb:(ps:List cd)->OD ps->KD ps->OD ps
 |[],_,_=>()
 | .own _ true::ps,d,k=>(k.1,Bb ps d.2 k.2)
 | .own _ false::ps,d,k=>(d.1,Bb ps d.2 k)
 | .val _::ps,d,k=>(d.1,Bb ps d.2 k)
 | .ref _::ps,d,k=>(d.1,Bb ps d.2 k)
 | .nil _::ps,d,k=>(d.1,Bb ps d.2 k)
 | .clo _::ps,d,k=>(d.1,Bb ps d.2 k)
 | .fn _ _::ps,d,k=>(d.1,Bb ps d.2 k)
def rh:List cd->Bool
 |[]=>true
 | .own _ false::_=>false
 |_::ps=>rh ps
section
variable {P:Program} {H H':Imm} {w w':World}
theorem Rj (f:∀b c,H b=some c->H' b=some c) {c:Cl} {v:Value} {x:c.D} {bs:List Nat} (h:ClV H w c v x bs) (hk:∀b,b∈bs->w'.heap[b]? =w.heap[b]?/\H' b=H b):ClV H' w' c v x bs:=by
 cases c with
 |dat t=>exact⟨Ty.rv_mono f h.1,h.2⟩
 |row E t nl=>
  obtain⟨o,e⟩:=h;refine⟨o,?_⟩;rcases e with e|⟨b,C,vs,rfl,rfl,a,e2,d,k,l,m,n⟩;exact .inl e;obtain⟨g,j⟩:=hk b (by simp);exact .inr ⟨b,C,vs,rfl,rfl,by rw[j];exact a,e2,by rw[g];exact d,k,l,m,fun i y p=>t.rd_mono f _ _ (n i y p)⟩
 |map kt vt=>
  obtain⟨b,es,clock,rfl,rfl,a,e2,d⟩:=h;obtain⟨g,j⟩:=hk b (by simp);exact⟨b,es,clock,rfl,rfl,by rw[j];exact a,by rw[g];exact e2,d.mono f⟩
theorem tH (d:∀b c,H b=some c->H' b=some c):∀{cs:List Cl} {vs:List Value} {x:Cl.Ds cs} {bs:List Nat},YR H w cs vs x bs->(∀b,b∈bs->w'.heap[b]? =w.heap[b]?/\H' b=H b)->YR H' w' cs vs x bs
 |[],_,_,_,h,_=>h
 |_::_,[],_,_,h,_=>h.elim
 |c::cs,v::vs,x,bs,h,hk=>by
  obtain⟨e,f,rfl,g,i,j⟩:=h
  exact⟨e,f,rfl,Rj d g (fun b a=>hk b (jh _ a)),i,tH d j (fun b a=>hk b (jg _ a))⟩
theorem Rk (a:∀b c,H b=some c->H' b=some c) {s:Sh} {v:Value} {x:s.D} {bs:List Nat} (h:ShV H w s v x bs) (hk:∀b,b∈bs->w'.heap[b]? =w.heap[b]?/\H' b=H b):ShV H' w' s v x bs:=by
 cases s with
 |cl c=>exact Rj a h hk
 |box T cs=>
  obtain⟨b,vs,bs',rfl,rfl,d,e2,g⟩:=h;obtain⟨j,k⟩:=hk b (by simp);exact⟨b,vs,bs',rfl,rfl,by rw[k];exact d,by rw[j];exact e2,tH a g (fun b i=>hk b (jl _ i))⟩
 |fbox f T cs=>
  obtain⟨b,vs,bs',rfl,rfl,d,e2,g⟩:=h;obtain⟨j,k⟩:=hk b (by simp);exact⟨b,vs,bs',rfl,rfl,by rw[k];exact d,by rw[j];exact e2,tH a g (fun b i=>hk b (jl _ i))⟩
 |agg cs=>
  obtain⟨vs,rfl,e⟩:=h;exact⟨vs,rfl,tH a e hk⟩
theorem V4 (a:∀b c,H b=some c->H' b=some c) {p:cd} {v:Value} {d:p.Data} {bs:List Nat} (h:jfM P H w p v d bs) (hk:∀b,b∈bs->w'.heap[b]? =w.heap[b]?/\H' b=H b):jfM P H' w' p v d bs:=by
 cases p with
 |val t=>exact⟨Ty.rv_mono a h.1,h.2⟩
 |ref t=>exact⟨Vf.mono a h.1,h.2⟩
 |nil _=>exact h
 |clo f=>exact h
 |fn ps rs=>exact⟨FnV.mono a h.1,h.2⟩
 |own s b=>exact Rk a h hk
theorem fy (e:∀b c,H b=some c->H' b=some c):∀{ps:List cd} {vs:List Value} {d:OD ps} {bs:List Nat},fx P H w ps vs d bs->(∀b,b∈bs->w'.heap[b]? =w.heap[b]?/\H' b=H b)->fx P H' w' ps vs d bs
 |[],_,_,_,h,_=>h
 |_::_,[],_,_,h,_=>h.elim
 |p::ps,v::vs,d,bs,h,hk=>by
  obtain⟨f,g,rfl,i,j⟩:=h
  exact⟨f,g,rfl,V4 e i (fun b a=>hk b (jh _ a)),fy e j (fun b a=>hk b (jg _ a))⟩
theorem cH (i:∀b c,H b=some c->H' b=some c):∀{ps:List cd} {vs:List Value} {d:OD ps} {k:KD ps} {bs a:List Nat},rh ps=true->fx P H w ps vs d bs->xo H' w' ps vs k a->fx P H' w' ps vs (Bb ps d k) a
 |[],_,_,_,_,_,_,h,hk=>⟨h.1,hk⟩
 |_::_,[],_,_,_,_,_,h,_=>h.elim
 | .own s true::ps,v::vs,d,k,bs,a,ha,h,hk=>by
  obtain⟨j,l,rfl,g,e⟩:=h
  obtain⟨c1,c2,rfl,m,n⟩:=hk
  exact⟨c1,c2,rfl,m,cH i ha e n⟩
 | .own s false::ps,v::vs,d,k,bs,a,ha,h,hk=>by simp[rh] at ha
 | .val t::ps,v::vs,d,k,bs,a,ha,h,hk=>by
  obtain⟨j,l,rfl,g,e⟩:=h
  exact⟨[],a,rfl,⟨Ty.rv_mono i g.1,rfl⟩,cH i ha e hk⟩
 | .ref t::ps,v::vs,d,k,bs,a,ha,h,hk=>by
  obtain⟨j,l,rfl,g,e⟩:=h
  exact⟨[],a,rfl,⟨Vf.mono i g.1,rfl⟩,cH i ha e hk⟩
 | .nil _::ps,v::vs,d,k,bs,a,ha,h,hk=>by
  obtain⟨j,l,rfl,g,e⟩:=h
  exact⟨[],a,rfl,⟨g.1,rfl⟩,cH i ha e hk⟩
 | .clo f::ps,v::vs,d,k,bs,a,ha,h,hk=>by
  obtain⟨j,l,rfl,g,e⟩:=h
  exact⟨[],a,rfl,⟨g.1,rfl⟩,cH i ha e hk⟩
 | .fn o rs::ps,v::vs,d,k,bs,a,ha,h,hk=>by
  obtain⟨j,l,rfl,g,e⟩:=h
  exact⟨[],a,rfl,⟨FnV.mono i g.1,rfl⟩,cH i ha e hk⟩
theorem yg:∀{ps:List cd} {vs:List Value} {d:OD ps} {k:KD ps} {bs:List Nat},rh ps=true->fx P H w ps vs (Bb ps d k) bs->xo H w ps vs k bs
 |[],_,_,_,_,_,h=>h.2
 |_::_,[],_,_,_,_,h=>h.elim
 | .own s true::ps,v::vs,d,k,bs,ha,h=>by
  obtain⟨b,c,rfl,e,a⟩:=h
  exact⟨b,c,rfl,e,yg (d:=d.2) ha a⟩
 | .own s false::ps,v::vs,d,k,bs,ha,h=>by simp[rh] at ha
 | .val t::ps,v::vs,d,k,bs,ha,h=>by
  obtain⟨b,c,rfl,⟨_,rfl⟩,a⟩:=h
  exact yg (d:=d.2) (ps:=ps) ha a
 | .ref t::ps,v::vs,d,k,bs,ha,h=>by
  obtain⟨b,c,rfl,⟨_,rfl⟩,a⟩:=h
  exact yg (d:=d.2) (ps:=ps) ha a
 | .nil _::ps,v::vs,d,k,bs,ha,h=>by
  obtain⟨b,c,rfl,⟨_,rfl⟩,a⟩:=h
  exact yg (d:=d.2) (ps:=ps) ha a
 | .clo f::ps,v::vs,d,k,bs,ha,h=>by
  obtain⟨b,c,rfl,⟨_,rfl⟩,a⟩:=h
  exact yg (d:=d.2) (ps:=ps) ha a
 | .fn g rs::ps,v::vs,d,k,bs,ha,h=>by
  obtain⟨b,c,rfl,⟨_,rfl⟩,a⟩:=h
  exact yg (d:=d.2) (ps:=ps) ha a
theorem bu:∀(ps:List cd) (d:OD ps) (k k':KD ps),Bb ps (Bb ps d k) k'=Bb ps d k'
 |[],_,_,_=>rfl
 | .own _ true::ps,d,k,k'=>by simp only[Bb,bu ps]
 | .own _ false::ps,d,k,k'=>by simp only[Bb,bu ps]
 | .val _::ps,d,k,k'=>by simp only[Bb,bu ps]
 | .ref _::ps,d,k,k'=>by simp only[Bb,bu ps]
 | .nil _::ps,d,k,k'=>by simp only[Bb,bu ps]
 | .clo _::ps,d,k,k'=>by simp only[Bb,bu ps]
 | .fn _ _::ps,d,k,k'=>by simp only[Bb,bu ps]
end
end Go.X
namespace Go.X
open Go.RowKit (Below)
structure Lf (ts:List Ty) where
 ps:List cd
 slots:List Nat
 dst:Nat
 pre:OD ps->List Prop
 G:OD ps->List (Ty.st ts).Data->KD ps
 stop:OD ps->List (Ty.st ts).Data->Bool:=fun _ _=>false
 seq:SV->Option (Prop×(List (Ty.st ts).Data->Prop))
def HC:FR Unit:=⟨fun _=>false,fun _ _ _ _ _=>False,fun _ _ _ _ _ _ _=>False⟩
def Rm (slots:List Nat) (i:Nat):Nat:=match slots[i]? with|some s=>s|none=>1000000
def jed (slots:List Nat) (l:List (Nat×SV)):List (Nat×SV):=l.map (fun p=>(Rm slots p.1,p.2))
def IV:List Nat->List SV->List (Nat×SV)
 |p::ps,v::vs=>(p,v)::IV ps vs
 |_,_=>[]
def yu {D:Type} (stop:List D->Bool) (q:List D):Prop:=∀a x b,q=a++x::b->stop (a++[x])=false
def Rn {D:Type} (L:List D->Prop) (stop:List D->Bool) (q:List D):Prop:=∃a x rest,q=a++[x]/\L (a++x::rest)/\yu stop a/\stop q=true
def Ro (σ:St) (ps:List cd) (want:KD ps):Prop:=match aH σ ps 0 with
 |some (k,o2,a)=>match gN o2,mB a o2 with
  |true,false=>k=want
  |_,_=>False
 |none=>False
def OJ (ps:List cd) (want:KD ps) (b:Bool):Ex->St->Unit->Prop
 | .normal,σ,_=>b=false/\Ro σ ps want
 | .ret,σ,_=>b=true/\Ro σ ps want
 |_,_,_=>False
def V5 {ts:List Ty} (C:Ctx) (A:CE Unit) (rs:Lf ts) (pl:List Nat) (aZ b:Code) (L:List (Ty.st ts).Data->Prop) (d:OD rs.ps):Prop:=
 ∀(q:List (Ty.st ts).Data) (x:(Ty.st ts).Data) (rest:List (Ty.st ts).Data),L (q++x::rest)->yu (rs.stop d) q->
  D4 C A HC aZ ⟨IV pl (results ts x)++jed rs.slots (oSl rs.ps (Bb rs.ps d (rs.G d q)) 0),oOb rs.ps (Bb rs.ps d (rs.G d q)) 0⟩ () (fun e a _=>match e with
   | .normal=>D4 C A HC b a () (OJ rs.ps (rs.G d (q++[x])) (rs.stop d (q++[x])))
   |_=>False)
def IW (n k:Nat) (pl slots:List Nat):Bool:=match pl.all (fun p=>match Nat.blt p n,aW slots p with|true,false=>true|_,_=>false),gN pl,Nat.beq pl.length k,slots.all (fun s=>Nat.blt s n) with
 |true,true,true,true=>true
 |_,_,_,_=>false
def Rp {ts:List Ty} (C:Ctx) (rs:Lf ts) (σ:St) (xs:List (Ty.st ts).Data) (_:OD rs.ps) (K:St->Unit->Prop):Prop:=
 match D2 C ⟨rs.ps,[],rs.pre,fun d=>((),rs.G d xs)⟩ rs.dst σ (rs.slots.map σ.get) with
 |some out=>match G6 ⟨σ,[]⟩ out.nw with
  |true=>K ⟨σ.sl,out.wr++(ao σ out.fz++σ.ob)⟩ ()
  |false=>False
 |none=>False
def hkR (C:Ctx) (A:CE Unit) (a:Nat->Option ((ts:List Ty)×Lf ts)):FR Unit:=
 ⟨fun _=>false,fun _ _ _ _ _=>False,fun g ps aZ b σ _ K=>match a (pk b) with
  |some ⟨ts,rs⟩=>
   match rs.seq (wx σ g),OE C σ rs.ps (rs.slots.map σ.get) with
   |some (pr,L),some (d,os,fz)=>match gN os,mB fz os,rh rs.ps,gN (OC rs.ps 0),IW C.n ts.length ps.toList rs.slots with
    |true,false,true,true,true=>pr/\vI (rs.pre d)/\Bb rs.ps d (rs.G d [])=d/\V5 C A rs ps.toList aZ b L d/\
     (∀xs,L xs->yu (rs.stop d) xs->Rp C rs σ xs d (K false))/\
     (∀q x rest,L (q++x::rest)->yu (rs.stop d) q->rs.stop d (q++[x])=true->Rp C rs σ (q++[x]) d (K true))
    |_,_,_,_,_=>False
   |_,_=>False
  |none=>False⟩
def jeE (Bi B:qw) (ds:List Deferred):Prop:=
 ds.Nodup/\∀x,x∈ds->∃D,x={target:= .collected D,args:= #[]}/\Bi.w.heap.size<=D/\D∉B.bor/\B.w.heap[D]? =some (.deferred (some []))
def LvR (Bi:qw) (B:qw) (ds:List Deferred) (_:Unit):Prop:=F5 Bi B/\jeE Bi B ds
section
variable {P:Program} {C:Ctx}
theorem D7 {r:Option Nat} {a:qw->List Deferred->Unit->Prop}:lD P C r HC a:=fun _ _ _ _ _ _ _ _ _ _ _ _ _ _ _ _ _ h _ _ _=>h.elim
theorem HD {r:Option Nat} {a:qw->List Deferred->Unit->Prop}:D5 P C r HC a:=fun _ _ _ _ _ _ _ _ _ _ _ _ h _ _ _=>h.elim
theorem HE {c:Fz} {r:Loop}:¬c.at (some (.loop r)):=by
 cases c with
 |cells c=>rintro⟨T,a,e⟩;cases e
 |map es clock=>intro e;simp[Fz.at] at e
theorem pA {c:Fz} {ds:Option (List Deferred)}:¬c.at (some (.deferred ds)):=by
 cases c with
 |cells c=>rintro⟨T,a,e⟩;cases e
 |map es clock=>intro e;simp[Fz.at] at e
theorem HF {ρ:Env} {w:World} {o b f:Nat} {x:Ob} (h:w7 P ρ w o (some (b,f)) x):(∀r,w.heap[b]?≠some (.loop r))/\∀ds,w.heap[b]?≠some (.deferred ds):=by
 have key:∀y,w.heap[b]? =some y->((∀r,y≠.loop r)/\∀ds,y≠.deferred ds)->(∀r,w.heap[b]?≠some (.loop r))/\∀ds,w.heap[b]?≠some (.deferred ds):=by
  intro y i d;rw[i];exact⟨fun r e=>d.1 r (by simpa using e),fun ds e=>d.2 ds (by simpa using e)⟩
 cases x with
 |box T fz cs=>
  obtain⟨c,C',vs,e,a,_⟩:=h;simp at e;obtain⟨rfl,rfl⟩:=e;exact key _ a ⟨by simp,by simp⟩
 |row E t fz nl l=>
  obtain⟨_,_,_,vs,a,_⟩:=h;exact key _ a ⟨by simp,by simp⟩
 |map fz kt vt l=>
  obtain⟨c,C',es,clock,e,a,_⟩:=h;simp at e;obtain⟨rfl,rfl⟩:=e;exact key _ a ⟨by simp,by simp⟩
 |iter kt vt left cur=>
  obtain⟨c,C',y,e,a,g,_⟩:=h;simp at e;obtain⟨rfl,rfl⟩:=e;refine key _ a ⟨fun r e=> ?_,fun ds e=> ?_⟩<;>subst e<;>simp[pm] at g
 |mape kt vt l k s=>
  obtain⟨c,C',es,clock,e,a,_⟩:=h;simp at e;obtain⟨rfl,rfl⟩:=e;exact key _ a ⟨by simp,by simp⟩
theorem CF {B:qw} {ρ:Env} {σ:St} {w:World} (d:Sat P B ρ σ.obj w) {o b e:Nat} (h:ρ.blk o=some (some (b,e))):(∀r,w.heap[b]?≠some (.loop r))/\∀ds,w.heap[b]?≠some (.deferred ds):=by
 cases a:σ.obj o with
 |none=>rw[d.dead o a] at h;cases h
 |some g=>
  obtain⟨p,c,f⟩:=d.obs o g a;rw[h] at c;simp at c;subst c;exact HF f
theorem V6 {B:qw} {ρ:Env} {obj:Nat->Option Ob} {w:World} (a:Sat P B ρ obj w) {l:Nat} {r:Loop} (o:Obj) (s:l<B.w.heap.size) (y:l∉B.bor) (m:w.heap[l]? =some (.loop r)):
 Sat P {B with w:=B.w.putObj l o} ρ obj (w.putObj l o):=by
 have j:∀b c,ρ.H b=some c->b≠l:=by
  intro b c d e;subst e;have:=a.good.1 _ _ d;rw[m] at this;exact HE this
 refine⟨a.os,a.tape,a.output,a.drawn,by simpa using a.size,⟨fun b c d=> ?_,a.good.2⟩,fun b f i=>a.oldH b (by simpa using f) i,fun b f i=> ?_,?_,a.dead,a.inj,fun o' b n h=>by simpa using a.own o' b n h⟩;rw[World.putObj_heap_other (j b c d)];exact a.good.1 b c d;have g:b<B.w.heap.size:=(by simpa using f);show(w.putObj l o).heap[b]? =(B.w.putObj l o).heap[b]?;by_cases e:b=l;subst e;rw[World.putObj_heap_same (jw.1 m).1,World.putObj_heap_same s];rw[World.putObj_heap_other e,World.putObj_heap_other e];exact a.old b g i;intro o' x v;obtain⟨p,u,q⟩:=a.obs o' x v;refine⟨p,u,wE (Env.le.refl ρ []) (by simp) (fun _ _ _ _ _ t=>by simp at t) (fun b n k=>⟨rfl,?_⟩) q⟩;subst k;refine World.putObj_heap_other (fun e=> ?_);subst e;exact(HF q).1 r m
theorem Lg {slots:List Nat}:∀(l:List (Nat×SV)) (s:Nat) (v:SV),wc (jed slots l) s=some v->∃i,(i,v)∈l/\Rm slots i=s
 |[],s,v,h=>by simp[jed,wc] at h
 | (i,u)::l,s,v,h=>by
  simp only[jed,zg,wc] at h
  cases a:Nat.beq (Rm slots i) s with
  |true=>rw[a] at h;simp at h;subst h;exact⟨i,by simp,jb a⟩
  |false=>
   rw[a] at h
   obtain⟨j,b,c⟩:=Lg l s v h
   exact⟨j,by simp[b],c⟩
theorem Rq:∀(ps:List cd) (d:OD ps) (i:Nat) (j:Nat) (v:SV),(j,v)∈oSl ps d i->wc (oSl ps d i) j=some v
 |[],d,i,j,v,h=>by simp[oSl] at h
 |p::ps,d,i,j,v,h=>by
  have:∃sv,oSl (p::ps) d i=(i,sv)::oSl ps d.2 (i+1):=by cases p<;>exact⟨_,rfl⟩
  obtain⟨sv,e⟩:=this
  rw[e] at h⊢
  rcases jk.1 h with h|h
  simp at h;obtain⟨rfl,rfl⟩:=h;exact wl _ _ _
  have a:=Rq ps d.2 (i+1) j v h
  have:=Re ps d.2 (i+1) j v a
  rw[wa (by omega)]
  exact a
end
end Go.X
namespace Go.X
open Go.RowKit (Below)
def SU:Bool->Option Code
 |true=>some .ret
 |false=>none
def NM (rec:Loop) (b:Bool):Loop:={rec with state:=(match b with|true=> .done|false=> .ready),pending:=SU b}
structure Zx (P:Program) (w:World) (H0:Imm) (bs:List Nat) (rec:Loop) (ps:List cd) (vals:List Value) (d:OD ps) {D:Type} (G:List D->KD ps) (M:List D->Prop) (q:List D) (fp:Nat->Prop) (H:Imm) (W:World):Prop where
 mid:M q
 os:W.os=w.os
 tape:W.tape=w.tape
 output:W.output=w.output
 drawn:w.drawn<=W.drawn
 size:w.heap.size+2<=W.heap.size
 good:ir H W
 mono:∀b c,H0 b=some c->H b=some c
 old:∀b,b<w.heap.size->b∉bs->W.heap[b]? =w.heap[b]?/\H b=H0 b
 mark:W.heap[w.heap.size]? =some (.deferred (some []))
 loop:W.heap[w.heap.size+1]? =some (.loop rec)
 args:∃bs',fx P H W ps vals (Bb ps d (G q)) bs'/\bs'.Nodup/\∀b,b∈bs'->(b∈bs\/(fp b/\w.heap.size+2<=b))/\b<W.heap.size
section
variable {P:Program} {C:Ctx}
theorem D8 {w:World} {H0:Imm} {bs:List Nat} {rec:Loop} {ps:List cd} {vals:List Value} {d:OD ps} {D:Type} {G:List D->KD ps} {M:List D->Prop} (i:∀b,b∈bs->b<w.heap.size):
 Res.stable (Zx P w H0 bs rec ps vals d G M) (w.heap.size+2):=by
 intro q fp H W H' W' h l e2 m g j r k hk;have low:∀b,b<w.heap.size+2->W'.heap[b]? =W.heap[b]?/\H' b=H b:=fun b a=>hk b (zB a h.size) (.inl a)
 refine⟨h.mid,l.trans h.os,e2.trans h.tape,m.trans h.output,jF h.drawn g,jF h.size j,r,fun b c a=>k b c (h.mono b c a),fun b e p=> ?_,?_,?_,?_⟩;obtain⟨s,t⟩:=low b (by omega);obtain⟨u,v⟩:=h.old b e p;exact⟨s.trans u,t.trans v⟩;rw[(low _ (by omega)).1];exact h.mark;rw[(low _ (by omega)).1];exact h.loop;obtain⟨bs',n,o,f⟩:=h.args;refine⟨bs',fy k n (fun b a=> ?_),o,fun b a=>⟨(f b a).1,zB (f b a).2 j⟩⟩;refine hk b (f b a).2 ?_;rcases(f b a).1 with e|e;have:=i b e;exact .inl (by omega);exact .inr e.1
def lE:List Nat->List Value->Array Value->Array Value
 |p::ps,v::vs,t=>lE ps vs (t.setIfInBounds p v)
 |_,_,t=>t
theorem D9:∀(pl:List Nat) (vs:List Value) (t:Array Value),((pl.zip vs).foldl (fun tmps (x:Tmp×Value)=>match x with|(t,a)=>tmps.setIfInBounds t a) t)=lE pl vs t
 |[],vs,t=>by cases vs<;>rfl
 |p::ps,[],t=>rfl
 |p::ps,v::vs,t=>by simp only[List.zip_cons_cons,List.foldl_cons,lE];exact D9 ps vs _
theorem Ea:∀(pl:List Nat) (vs:List Value) (t:Array Value),(lE pl vs t).size=t.size
 |[],vs,t=>by cases vs<;>rfl
 |p::ps,[],t=>rfl
 |p::ps,v::vs,t=>by simp only[lE];rw[Ea];simp
theorem mZ:∀(pl:List Nat) (vs:List Value) (t:Array Value) (s:Nat),s∉pl->(lE pl vs t).getD s undef=t.getD s undef
 |[],vs,t,s,_=>by cases vs<;>rfl
 |p::ps,[],t,s,_=>rfl
 |p::ps,v::vs,t,s,h=>by
  simp only[lE]
  rw[mZ ps vs _ s (fun a=>h (jl _ a))]
  simp only[jq,jM]
  rw[jc (fun e=>h (by rw[e];simp))]
theorem Lh:∀(pl:List Nat) (svs:List SV) (vs:List Value) (t:Array Value) {ρ:Env},pl.Nodup->(∀p,p∈pl->p<t.size)->SV.denL P ρ svs vs->∀(s:Nat) (y:SV),wc (IV pl svs) s=some y->SV.den P ρ y ((lE pl vs t).getD s undef)
 |[],svs,vs,t,ρ,_,_,_,s,y,h=>by simp[IV,wc] at h
 |p::ps,[],vs,t,ρ,_,_,_,s,y,h=>by simp[IV,wc] at h
 |p::ps,sv::svs,vs,t,ρ,hn,hl,hd,s,y,h=>by
  simp only[SV.denL] at hd
  obtain⟨v,r,rfl,a,b⟩:=hd
  rw[zy] at hn
  simp only[lE]
  simp only[IV] at h
  by_cases e:p=s
  subst e
  rw[wl] at h
  simp only[jy] at h;subst h
  rw[mZ ps r _ p hn.1]
  simp only[jq,jM]
  simp only[if_true]
  rw[jd (hl p (by simp))]
  simpa using a
  rw[wa e] at h
  exact Lh ps svs r _ hn.2 (fun q c=>by simpa using hl q (jl _ c)) b s y h
theorem IX {n k:Nat} {pl slots:List Nat} (h:IW n k pl slots=true):(∀p,p∈pl->p<n/\p∉slots)/\pl.Nodup/\pl.length=k/\∀s,s∈slots->s<n:=by
 unfold IW at h
 split at h
 rename_i a b c d;refine⟨fun p e=> ?_,vA _ b,jb c,fun s f=>jB (jR.1 d s f)⟩;have:=jR.1 a p e
 split at this
 rename_i g i;exact⟨jB g,yo i⟩;cases this;cases h
theorem HG {H:Imm}:∀(ts:List Ty) (vs:List Value) (d:(Ty.st ts).Data),rvs H ts vs d->vs.length=ts.length
 |[],vs,d,h=>by simp only[rvs] at h;subst h;rfl
 |t::ts,[],d,h=>h.elim
 |t::ts,v::vs,d,h=>by obtain⟨_,a⟩:=h;simp only[ze];rw[HG ts vs d.2 a]
theorem Zy (hC:C.ok P) (hm:P.follows .mixedOrders=true) {ts:List Ty} {A:CE Unit} {rs:Lf ts} {p:Array Tmp} {aZ b:Code} {L:List (Ty.st ts).Data->Prop} {d:OD rs.ps} (hround:V5 C A rs p.toList aZ b L d) (hall:rh rs.ps=true)
 (hnm:gN (OC rs.ps 0)=true) (hsl:IW C.n ts.length p.toList rs.slots=true) {a0:Act} (hn0:a0.tmps.size=C.n) {fn:FuncId} {w:World} {H0:Imm} {bs:List Nat} (hbs:∀b,b∈bs->b<w.heap.size) {vals:List Value}
 (hvals:vals=rs.slots.map (fun s=>a0.tmps.getD s undef)) {rec:Loop} (Q:rec={state:= .ready,pending:=none,fn,tmps:=a0.tmps,params:=p,assign:=aZ,body:=b,defers:=w.heap.size}):
 YB P ts (w.heap.size+2) (w.heap.size+1) (Zx P w H0 bs (NM rec false) rs.ps vals d (rs.G d) (yu (rs.stop d))) (Zx P w H0 bs (NM rec true) rs.ps vals d (rs.G d) (Rn L (rs.stop d))) (fun q=>∃rest,L (q++rest)):=by
 intro q x vx fp H W hPm K hgW hB0 hfpW hvx;obtain⟨rest,hL⟩:=hPm;have hL':L (q++x::rest):=(by simpa using hL);obtain⟨bs',r10,r11,Z⟩:=K.args;have hr0:NM rec false=rec:=(by rw[Q];rfl);have l:=K.loop;rw[hr0] at l;have X:w.heap.size+1<W.heap.size:=(jw.1 l).1;have hlb:w.heap.size+1∉bs':=by
  intro m;rcases(Z _ m).1 with h|h
  .have:=hbs _ h;omega
  .have:=h.2;omega
 have hDb:w.heap.size∉bs':=by
  intro m;rcases(Z _ m).1 with h|h
  .have:=hbs _ h;omega
  .have:=h.2;omega
 obtain⟨hsp,hpn,hpl,hslt⟩:=IX hsl;have hvl:=HG _ _ _ hvx;have hy:=run_yield (P:=P) (args:=vx.toArray) l (by rw[Q];simp[hvl,<-hpl]);rw[Q] at hy;refine⟨fn,_,aZ,b,hy,?_⟩;refine roundIn_of_wpIn (F:=Fence.wide) trivial ?_;have ht:((p.zip vx.toArray).foldl (fun tmps (x:Tmp×Value)=>match x with|(t,a)=>tmps.setIfInBounds t a) a0.tmps)=lE p.toList vx a0.tmps:=by
  rw[<-D9,<-Array.foldl_toList];simp
 simp only at ht⊢;rw[ht]
 let d':=Bb rs.ps d (rs.G d q)
 have hlen:=mT rs.ps vals d' bs' r10
 let B0:qw:=⟨W,H,bs',fun _=>none,fun _=>0⟩
 let ρ0:Env:=⟨H,fun _=>none,fun _=>0⟩
 have hS0:Sat P B0 ρ0 (oo []) W:=by
  refine⟨rfl,rfl,rfl,jj _,jj _,hgW,fun _ _ _=>rfl,fun _ _ _=>rfl,?_,fun _ _=>rfl,?_,?_⟩
  .intro o x hx;simp[oo,St.obj,wc] at hx
  .intro o o' b C1 C2 O;simp[ρ0] at O
  .intro o b C1 O;simp[ρ0] at O
 obtain⟨ρf,ad,hslf⟩:=CC rs.ps 0 hS0 (d:=d') r10 r11 (fun b E=>⟨.inr E,fun o C' h=>by simp[ρ0] at h⟩) (vA _ hnm)
  (fun n _=>⟨by simp[oo,St.obj,wc],fun o T fz cs h=>by simp[oo,St.obj,wc] at h⟩)
 let Bx:qw:=⟨W,H,bs',ρf.blk,ρf.len⟩
 have hSf:Sat P Bx ρf (⟨IV p.toList (results ts x)++jed rs.slots (oSl rs.ps d' 0),oOb rs.ps d' 0⟩:St).obj W:=by
  have:=Rf (B':=Bx) ad.sat rfl rfl rfl;rw[jY] at this;exact this
 have hR0:AT P Bx C.n [] ⟨IV p.toList (results ts x)++jed rs.slots (oSl rs.ps d' 0),oOb rs.ps d' 0⟩ {tmps:=lE p.toList vx a0.tmps,defers:=[]} W:=by
  refine⟨_,(aT _).symm,rfl,by rw[Ea];exact hn0,ρf,hSf,?_,fun o p _ hp=>⟨hp,rfl⟩,fun _ _ E=>by rw[ad.H];exact E⟩;intro s y hy;rw[kM] at hy;cases hz:wc (IV p.toList (results ts x)) s with
  |some y'=>
   rw[hz] at hy;simp only[jy] at hy;subst hy;exact Lh p.toList _ vx _ hpn (fun q hq=>by rw[hn0];exact(hsp q hq).1) (iH (H:=H) ad.H ts vx x hvx) s y' hz
  |none=>
   rw[hz] at hy;simp only at hy;obtain⟨i,hi,hsi⟩:=Lg _ s y hy;obtain⟨u,hu,hdu⟩:=hslf i y (Rq _ _ _ _ _ hi);rw[hvals] at hu;simp only[Nat.sub_zero,z7] at hu;unfold Rm at hsi;cases Y:rs.slots[i]? with
   |none=>rw[Y] at hu;cases hu
   |some s'=>
    rw[Y] at hu hsi;simp only at hsi;subst hsi;simp only[Option.map_some,jy] at hu;subst hu;have:s'∉p.toList:=fun m=>(hsp s' m).2 (zD Y)
    show SV.den P ρf y ((lE p.toList vx a0.tmps).getD s' undef);rw[mZ _ _ _ _ this];exact hdu
 refine vR (r:=some (w.heap.size+1)) hC hm A HC (fun B ds _=>B=Bx/\ds=[]) D7 HD aZ _ () _ _ _ W Bx [] (hround q x rest hL' K.mid) ⟨rfl,rfl⟩ hR0 (fun e σ1 _ a1 w1 B1 ds1 _ hK1 hB1 hR1=> ?_);obtain⟨rfl,rfl⟩:=hB1;cases e with
 |ret=>exact hK1.elim
 |exit id=>exact hK1.elim
 |normal=>
 obtain⟨a1',rfl,q1,q2,ρ1,q3,q4,q5⟩:=hR1;rw[aT];have hl1:w1.heap[w.heap.size+1]? =some (.loop rec):=(by rw[q3.old _ X hlb];exact l);refine⟨_,run_beginRound hl1 (by rw[Q]),?_⟩
 let z:Obj:= .loop {rec with state:= .busy}
 let By:qw:={Bx with w:=W.putObj (w.heap.size+1) z}
 have hS2:Sat P By ρ1 σ1.obj (w1.putObj (w.heap.size+1) z):=V6 q3 z X hlb hl1;have hR2:AT P By C.n [] σ1 a1' (w1.putObj (w.heap.size+1) z):=⟨a1',(aT _).symm,q1,q2,ρ1,hS2,q4,q5⟩;refine vR (r:=some (w.heap.size+1)) hC hm A HC (fun B ds _=>B=By/\ds=[]) D7 HD b σ1 () _ _ _ _ By [] hK1 ⟨rfl,rfl⟩ hR2 (fun e I _ a3 R B3 ds3 _ J hB3 hR3=> ?_);obtain⟨rfl,rfl⟩:=hB3;obtain⟨a3',rfl,s1,s2,ρ3,s3,s4,s5⟩:=hR3;have V:By.w.heap.size=W.heap.size:=(by simp[By]);have hl3:R.heap[w.heap.size+1]? =some z:=by
  rw[s3.old _ (by rw[V];exact X) hlb];exact World.putObj_heap_same X
 have key:∀β:Bool,rs.stop d (q++[x])=β->Ro I rs.ps (rs.G d (q++[x]))->∃v w',(Instr.endRound (w.heap.size+1) (SU β)).run P R= .ok v w'/\
  (∃β fp' H',Ending.returned v= .returned (.bool β)/\jcE (w.heap.size+2) fp H W fp' H' w'/\(match β with
   |true=>Zx P w H0 bs (NM rec false) rs.ps vals d (rs.G d) (yu (rs.stop d)) (q++[x]) fp' H' w'
   |false=>Zx P w H0 bs (NM rec true) rs.ps vals d (rs.G d) (Rn L (rs.stop d)) (q++[x]) fp' H' w')):=by
  intro β hβ S;refine⟨_,_,run_endRound _ hl3,?_⟩;unfold Ro at S
  split at S
  case h_2=>exact S.elim
  rename_i k o2 f2 hkept
  split at S
  case h_2=>exact S.elim
  rename_i hno hme;obtain⟨g,f,hle4,hblk4,hln4⟩:=wF (σ:=I) f2 s3;have hkeep:tu I (I.frz f2) o2:=by
   intro o ho;rw[q9,jc];exact fun hm=>yd _ _ hme o hm ho
  have e3:=qU f (v6 I _) rs.ps 0 vals k o2 f2 hkept hlen (fun j sh bb v hj hvj=>by
   obtain⟨y0,hx⟩:=IP rs.ps d' 0 j sh bb hj;obtain⟨y,y1,y2⟩:=hslf (0+j) _ hx;have:y=v:=by
    rw[show 0+j-0=j by omega,hvj] at y1;simpa using y1.symm
   subst this;refine VW (fun p hp=> ?_) y2;rw[hblk4] at hp;obtain⟨q1,q2⟩:=s5.1 (df (0+j)) p (by unfold df;omega) hp;exact⟨q1,by rw[hln4];exact q2⟩) (fun o ho=>ho) hkeep
  have N:∀b c,H b=some c->g.H b=some c:=fun b c E=>hle4.H b c (s5.2 b c E)
  have e4:fx P g.H R rs.ps vals (Bb rs.ps d' k) (wV g o2):=cH N hall r10 e3;rw[bu,S] at e4;have hme':({rec with state:= .busy}:Loop)={rec with state:= .busy}:=rfl;obtain⟨D,hfin⟩:∃D:Obj,D= .loop (NM rec β):=⟨_,rfl⟩;have hfx:({rec with state:=if(SU β).isNone=true then LoopState.ready else .done,pending:=(SU β)}:Loop)=NM rec β:=by cases β<;>rfl
  have hS5:Sat P _ g (I.frz f2).obj (R.putObj (w.heap.size+1) D):=V6 f D (by rw[V];exact X) hlb hl3;have hw3:∀b,b<W.heap.size->b∉bs'->b≠w.heap.size+1->(R.putObj (w.heap.size+1) D).heap[b]? =W.heap[b]?/\g.H b=H b:=by
   intro b O h2 h3;rw[World.putObj_heap_other h3];refine⟨?_,f.oldH b (by rw[V];exact O) h2⟩;rw[f.old b (by rw[V];exact O) h2];exact World.putObj_heap_other h3
  have hkb:∀b,b∈wV g o2->b<R.heap.size/\(W.heap.size<=b\/b∈bs')/\b≠w.heap.size+1:=by
   intro b E;obtain⟨o,Cp,_,O⟩:=(wW _).1 E;refine⟨(ba (σ:=I.frz f2) f O).1,?_,fun e=> ?_⟩
   .have:=f.own o b Cp O;rw[V] at this;exact this
   .subst e;exact(CF (σ:=I.frz f2) f O).1 _ hl3
  have hsz:W.heap.size<=R.heap.size:=(by have:=f.size;rw[V] at this;exact this);have eF:(R.putObj (w.heap.size+1) (.loop {rec with state:=if(SU β).isNone=true then LoopState.ready else .done,pending:=(SU β)}))=R.putObj (w.heap.size+1) D:=(by rw[hfin,hfx]);have hres:∀M:List (Ty.st ts).Data->Prop,M (q++[x])->Zx P w H0 bs (NM rec β) rs.ps vals d (rs.G d) M (q++[x]) (fun b=>(fp b\/W.heap.size<=b)/\b<R.heap.size) g.H (R.putObj (w.heap.size+1) D):=by
   intro M hM;refine⟨hM,f.os.trans K.os,f.tape.trans K.tape,f.output.trans K.output,jF K.drawn f.drawn,by have:=K.size;simp;omega,hS5.good,fun b c E=>N b c (K.mono b c E),fun b O h2=> ?_,?_,?_,wV g o2,?_,?_,fun b E=> ?_⟩
   .have hnb:b∉bs':=by
     intro m;rcases(Z _ m).1 with h|h
     .exact h2 h
     .have:=h.2;omega
    obtain⟨k1,k2⟩:=hw3 b (by have:=K.size;omega) hnb (by omega);obtain⟨k3,k4⟩:=K.old b O h2;exact⟨k1.trans k3,k2.trans k4⟩
   .rw[(hw3 _ (by omega) hDb (by omega)).1];exact K.mark
   .rw[World.putObj_heap_same (jw.1 hl3).1,hfin]
   .refine fy (fun _ _ h=>h) e4 (fun b E=>⟨World.putObj_heap_other (hkb b E).2.2,rfl⟩)
   .exact aG f _ (vA _ hno)
   .obtain⟨k1,k2,_⟩:=hkb b E;refine⟨?_,by simpa using k1⟩;rcases k2 with h|h
    .exact .inr ⟨⟨.inr h,k1⟩,by have:=K.size;omega⟩
    .rcases(Z b h).1 with h'|h'
     .exact .inl h'
     .exact .inr ⟨⟨.inl h'.1,k1⟩,h'.2⟩
  have hyl:jcE (w.heap.size+2) fp H W (fun b=>(fp b\/W.heap.size<=b)/\b<R.heap.size) g.H (R.putObj (w.heap.size+1) D):=by
   refine⟨by simpa using hsz,hS5.good,N,fun b O h2 h3=> ?_,fun b E=>⟨E.1,by simpa using E.2,?_⟩⟩
   .have hnb:b∉bs':=by
     intro m;rcases(Z _ m).1 with h|h
     .have:=hbs _ h;omega
     .exact h3 h.1
    exact hw3 b O hnb (by omega)
   .rcases E.1 with h|h
    .exact(hfpW b h).2
    .omega
  refine⟨!β,fun b=>(fp b\/W.heap.size<=b)/\b<R.heap.size,g.H,by cases β<;>rfl,?_,?_⟩
  .have:=hyl;rw[<-eF] at this;exact this
  .cases β with
   |false=>
    have:=hres (yu (rs.stop d)) (by
     intro a y b' e;rcases List.append_eq_append_iff.1 e with⟨c,e1,e2⟩|⟨c,e1,e2⟩
     .cases c with
      |nil=>
       simp only[j6,List.cons.injEq] at e2;obtain⟨rfl,e3⟩:=e2;rw[e1,jY];exact hβ
      |cons c0 cs=>
       have e3:=jP List.length e2;simp at e3
     .cases c with
      |nil=>
       simp only[j6,List.cons.injEq] at e2;obtain⟨rfl,e3⟩:=e2;rw[jY] at e1;rw[<-e1];exact hβ
      |cons c0 cs=>
       simp only[j9,List.cons.injEq] at e2;obtain⟨rfl,e3⟩:=e2;exact K.mid a y cs e1)
    rw[<-eF] at this;exact this
   |true=>
    have:=hres (Rn L (rs.stop d)) ⟨q,x,rest,rfl,hL',K.mid,hβ⟩;rw[<-eF] at this;exact this
 cases e with
 |exit id=>exact J.elim
 |normal=>
  simp only[OJ] at J;exact key false J.1 J.2
 |ret=>
  simp only[OJ] at J;exact key true J.1 J.2
end
end Go.X
namespace Go.X
open Go.RowKit (Below)
def V7 (P:Program) (a:Nat->Option ((ts:List Ty)×Lf ts)):Prop:=
 ∀k ts (rs:Lf ts) sv pr L v ρ,a k=some ⟨ts,rs⟩->rs.seq sv=some (pr,L)->pr->SV.den P ρ sv v->Zu P ρ.H ts L v
section
variable {P:Program} {C:Ctx}
theorem Zz {H:Imm} {w:World} {l:Nat} {r:Loop} (a:ir H w) (o:Obj) (g:w.heap[l]? =some (.loop r)):ir H (w.putObj l o):=by
 refine⟨fun b c f=> ?_,a.2⟩;have d:b≠l:=by
  intro e;subst e;have:=a.1 _ _ f;rw[g] at this;exact HE this
 rw[World.putObj_heap_other d];exact a.1 b c f
theorem jcH (hC:C.ok P) (hm:P.follows .mixedOrders=true) {A:CE Unit} {tbl:Nat->Option ((ts:List Ty)×Lf ts)} {Bi:qw} (hseq:V7 P tbl):D5 P C none (hkR C A tbl) (LvR Bi):=by
 intro g ps aZ b σ ys K B ds a w Q h hL hRel hQ;simp only[hkR] at h
 split at h
 case h_2=>exact h.elim
 rename_i ts rs htb
 split at h
 case h_2=>exact h.elim
 rename_i pr L d os fz hsq hz
 split at h
 case h_2=>exact h.elim
 rename_i hno hme hall hnm hsl;obtain⟨hpr,hpre,hset,hround,hcont,hcontX⟩:=h;obtain⟨V,rfl,hd0,hn0,ρ,hS,hSl,hPin⟩:=hRel;obtain⟨vals,S⟩:∃vals:List Value,vals=rs.slots.map (fun s=>V.tmps.getD s undef):=⟨_,rfl⟩;have hdl:SV.denL P ρ (rs.slots.map σ.get) vals:=by
  have:=dB (P:=P) (ρ:=ρ) (σ:=σ) (fun x=>wu (P:=P) (ρ:=ρ) hSl x) (rs.slots.map Operand.tmp);rw[kj,kj] at this;rw[S];exact this
 obtain⟨ρ1,hle1,X,hb1,I,hbn,O⟩:=iU (dst:=rs.dst) (rs:=[]) (pre:=rs.pre) hC hz hno hme hS hdl;obtain⟨bs,hbs0⟩:∃bs,bs=wV ρ1 os:=⟨_,rfl⟩;rw[<-hbs0] at I hbn O;have E:∀b,b∈bs->b<w.heap.size:=by
  intro b j;rw[hbs0] at j;obtain⟨o,Cp,_,t⟩:=(wW _).1 j;exact(ba (σ:=σ.frz fz) X t).1
 have hgv:=Zu.mono hle1.H (hseq _ _ _ _ _ _ _ ρ htb hsq hpr (wu (P:=P) (ρ:=ρ) hSl g));obtain⟨gf,lb,ev,en,hit⟩:=hgv;have ev':(dg ds V).eval g= .func (.func gf) #[] lb:=(by rw[mX];exact ev);refine wpIn_rangeFunc ?_;intro fn _;obtain⟨rec,R⟩:∃rec:Loop,rec={state:= .ready,pending:=none,fn,tmps:=V.tmps,params:=ps,assign:=aZ,body:=b,defers:=w.heap.size}:=⟨_,rfl⟩;have hr0:NM rec false=rec:=(by rw[R];rfl);obtain⟨p,z⟩:∃p,(w.alloc (.deferred (some []))).alloc (.loop rec)=p:=⟨_,rfl⟩;have m:p.heap.size=w.heap.size+2:=(by rw[<-z];simp);have N:∀b,b<w.heap.size->p.heap[b]? =w.heap[b]? :=by
  intro b j;rw[<-z];exact(Below.heap_alloc _ _ _ (by simp;omega)).trans (Below.heap_alloc _ _ _ j)
 have hD1:p.heap[w.heap.size]? =some (.deferred (some [])):=by
  rw[<-z];exact(Below.heap_alloc _ _ _ (by simp)).trans (World.alloc_heap_new w _)
 have hl1:p.heap[w.heap.size+1]? =some (.loop rec):=by
  rw[<-z];have:=World.alloc_heap_new (w.alloc (.deferred (some []))) (.loop rec);rwa [World.size_alloc] at this
 have hg1:ir ρ1.H p:=by
  refine⟨fun b c Y=> ?_,X.good.2⟩;rw[N b (X.good.lt Y)];exact X.good.1 b c Y
 have W:p.os=w.os/\p.tape=w.tape/\p.output=w.output/\w.drawn<=p.drawn:=(by rw[<-z];exact⟨rfl,rfl,rfl,jj _⟩);have fin:∀(β:Bool) (M:List (Ty.st ts).Data->Prop) (xs:List (Ty.st ts).Data) (fp':Nat->Prop) (H':Imm) (W':World),Zx P w ρ1.H bs (NM rec β) rs.ps vals d (rs.G d) M xs fp' H' W'->Rp C rs σ xs d (K β)->
  Q (pw (jfN β)) {dg ds V with defers:=[{target:= .collected w.heap.size,args:= #[]}]++(dg ds V).defers} (W'.putObj (w.heap.size+1) (.loop {NM rec β with state:= .exhausted})):=by
  intro β M xs fp' H' W' f Y;have hlp:=f.loop;obtain⟨l,hexh⟩:∃l:Obj,l= .loop {NM rec β with state:= .exhausted}:=⟨_,rfl⟩;rw[<-hexh];unfold Rp at Y
  split at Y
  case h_2=>exact Y.elim
  rename_i out hout
  split at Y
  case h_2=>exact Y.elim
  rename_i hnew;obtain⟨bs',g1,g2,g3⟩:=f.args;have hne:∀b,b∈bs'->b≠w.heap.size+1:=by
   intro b j e;rcases(g3 b j).1 with h|h
   .have:=E b h;omega
   .have:=h.2;omega
  have hP:Lc ρ1.H w bs ⟨rs.ps,[],rs.pre,fun d=>((),rs.G d xs)⟩ vals d (.returned (jcx [])) (W'.putObj (w.heap.size+1) l):=by
   refine⟨[],H',[],bs',rfl,⟨f.os,f.tape,f.output,f.drawn,by have:=f.size;simp;omega,fun b t h2=> ?_,fun b t h2=>(f.old b t h2).2,Zz f.good l hlp⟩,⟨rfl,rfl⟩,
    yg (d:=d) hall (fy (fun _ _ h=>h) g1 (fun b j=>⟨World.putObj_heap_other (hne b j),rfl⟩)),by simpa using g2,fun b j=> ?_⟩
   .rw[World.putObj_heap_other (by omega)];exact(f.old b t h2).1
   .have j:b∈bs':=(by simpa using j);rcases(g3 b j).1 with h|h
    .exact .inl h
    .exact .inr (by have:=h.2;omega)
  obtain⟨v',_,T,i,J,_,_⟩:=O _ out hout _ _ hP
  let k:St:=⟨σ.sl,out.wr++(ao σ out.fz++σ.ob)⟩
  let B':qw:={B with w:=W'.putObj (w.heap.size+1) l,H:=T.H,bor:=wV T (q6 k.ob)}
  have hS5:Sat P B' T k.obj (W'.putObj (w.heap.size+1) l):=ou (σ:=k) i i.good (fun _ _ h=>h) (fun _ _ _ _=>⟨rfl,rfl⟩);have hnw:=fun n hn=>cC (om _ hnew n hn)
  have hfin:AT P B' C.n ({target:= .collected w.heap.size,args:= #[]}::ds) k (dg ({target:= .collected w.heap.size,args:= #[]}::ds) V) (W'.putObj (w.heap.size+1) l):=by
   refine⟨V,rfl,hd0,hn0,T,hS5,fun s sv hs=> ?_,?_⟩
   .exact SV.den_mono J _ _ (fun r hr=>(hnw r hr).sl s sv (qh _ _ _ hs)) (hSl s sv hs)
   .have h5:=hPin.mono J (fun n hn=>(hnw n hn).lt);exact⟨h5.1,fun _ _ h=>h⟩
  have u:∀b,b∈wV T (q6 k.ob)->B.w.heap.size<=b\/b∈B.bor:=by
   intro b j;obtain⟨o,Cp,_,t⟩:=(wW _).1 j;exact i.own o b Cp t
  have Z:F5 Bi B':=by
   obtain⟨c1,c2,c3,c3',c4,c5,c6,c7,c8,c9⟩:=hL.1;refine⟨i.os.trans c1,i.tape.trans c2,i.output.trans c3,jF c3' i.drawn,jF c4 i.size,fun b c j=>J.H b c (hPin.2 b c (c5 b c j)),fun b t h2=> ?_,fun b j=> ?_,c8,c9⟩
   .obtain⟨k1,k2,k3⟩:=c6 b t h2;have F:b<B.w.heap.size:=zB t c4;refine⟨(i.old b F k3).trans k1,(i.oldH b F k3).trans k2,fun y=> ?_⟩;rcases u b y with h|h
    .omega
    .exact k3 h
   .rcases u b j with h|h
    .exact .inl (jF c4 h)
    .exact c7 b h
  have hDw:(W'.putObj (w.heap.size+1) l).heap[w.heap.size]? =some (.deferred (some [])):=by
   rw[World.putObj_heap_other (by omega)];exact f.mark
  have hmarks:jeE Bi B' ({target:= .collected w.heap.size,args:= #[]}::ds):=by
   obtain⟨m1,m2⟩:=hL.2;have F:∀x,x∈ds->∃D,x={target:= .collected D,args:= #[]}/\D<B.w.heap.size:=by
    intro x hx;obtain⟨D,e,_,_,h3⟩:=m2 x hx;exact⟨D,e,(jw.1 h3).1⟩
   refine⟨zy.2 ⟨fun y=> ?_,m1⟩,fun x hx=> ?_⟩
   .obtain⟨D,e,t⟩:=F _ y;simp at e;have:=hS.size;omega
   .rcases jk.1 hx with rfl|hx
    .refine⟨w.heap.size,rfl,jF hL.1.size hS.size,fun y=> ?_,hDw⟩;obtain⟨o,Cp,_,t⟩:=(wW _).1 y;exact(CF (σ:=k) i t).2 _ hDw
    .obtain⟨D,e,k1,k2,k3⟩:=m2 x hx;have F:D<B.w.heap.size:=(jw.1 k3).1;refine⟨D,e,k1,fun y=> ?_,(i.old D F k2).trans k3⟩;rcases u D y with h|h
     .omega
     .exact k2 h
  have hE:Ext σ k:=⟨⟨[],rfl⟩,⟨out.wr++ao σ out.fz,by simp[k]⟩⟩;have:=hQ β k () _ _ B' _ Y hE ⟨Z,hmarks⟩ hfin;have ea:(dg ({target:= .collected w.heap.size,args:= #[]}::ds) V)={dg ds V with defers:=[{target:= .collected w.heap.size,args:= #[]}]++(dg ds V).defers}:=(by simp[dg,hd0]);rw[ea] at this;exact this
 refine⟨w.heap.size+1,[{target:= .collected w.heap.size,args:= #[]}],p,{target:= .fn (.func gf) lb,args:= #[.func (.yield (w.heap.size+1)) #[] #[]]},p,gf,
  #[.func (.yield (w.heap.size+1)) #[] #[]]++lb,p,?_,?_,fun _ _=>trivial,?_,fun hd=>by simp[Fence.wide] at hd,?_⟩
 .rw[<-z,R];exact run_enterLoop_outer _ _ _ _ _
 .simp only[resolve,ev'];simp[go_sem]
 .simp[invoke,go_sem,en _ _]
 .refine oz.2 ((hit ρ1.H p (w.heap.size+1) (Zx P w ρ1.H bs (NM rec false) rs.ps vals d (rs.G d) (yu (rs.stop d))) (Zx P w ρ1.H bs (NM rec true) rs.ps vals d (rs.G d) (Rn L (rs.stop d))) (fun _ _ h=>h) hg1 ?_ ?_ ?_ ?_).mono ?_)
  .rw[m];exact D8 E
  .rw[m];exact D8 E
  .rw[m];exact Zy hC hm hround hall hnm hsl hn0 E S R
  .refine⟨fun a x b e=>by simp at e,W.1,W.2.1,W.2.2.1,W.2.2.2,by rw[m];exact jj _,hg1,fun _ _ h=>h,fun b t _=>⟨N b t,rfl⟩,hD1,by rw[hr0];exact hl1,bs,?_,hbn,fun b j=>⟨.inl j,by rw[m];have:=E b j;omega⟩⟩;rw[hset];exact fy (fun _ _ h=>h) I (fun b j=>⟨N b (E b j),rfl⟩)
  .rintro e W' ⟨v,rfl,h⟩;rcases h with⟨xs,fp',H',hxs,f⟩|⟨q,fp',H',f⟩
   .exact⟨none,_,run_endLoop (P:=P) f.loop (by simp[NM]),fin false _ xs fp' H' W' f (hcont xs hxs f.mid)⟩
   .obtain⟨a,x,rest,rfl,k1,k2,k3⟩:=f.mid;exact⟨some .ret,_,run_endLoop (P:=P) f.loop (by simp[NM]),wpIn_ret (fin true _ _ fp' H' W' f (hcontX a x rest k1 k2 k3))⟩
end
end Go.X
namespace Go.X
open Go.RowKit (Below)
def Rr (H:Imm) (w:World) (rs:List Sh) (r:RD rs):Ending->World->Prop:=
 fun e w'=>∃vs H' a,e= .returned (jcx vs)/\jbl H w H' w'/\Zr H' w' rs vs r a/\a.Nodup/\∀b,b∈a->w.heap.size<=b
def OK (fn:Func) (rs:List Sh) (a:RD rs->Prop):Ex->St->Unit->Prop
 | .exit _,_,_=>False
 |_,σ,_=>match tB σ rs fn.results.toList with
  |some (r,o1,b)=>match gN o1,mB b o1 with
   |true,false=>a r
   |_,_=>False
  |none=>False
section
variable {P:Program} {C:Ctx}
theorem ri {fn:Func} {tmps:Array Value} {R:Ending->World->Prop}:∀(ds:List Deferred) (w:World),ds.Nodup->(∀x,x∈ds->∃D,x={target:= .collected D,args:= #[]}/\w.heap[D]? =some (.deferred (some [])))->
 (∀w':World,w'.os=w.os->w'.tape=w.tape->w'.output=w.output->w.drawn<=w'.drawn->w'.heap.size=w.heap.size->(∀b,({target:= .collected b,args:= #[]}:Deferred)∉ds->w'.heap[b]? =w.heap[b]?)->∃v,(Go.results fn tmps).run P w'= .ok v w'/\R (.returned v) w')->
 LeavesInM Fence.wide 0 P fn tmps R ds .returning w
 |[],w,_,_,k=>k w rfl rfl rfl (jj _) rfl (fun _ _=>rfl)
 |x::ds,w,hnd,hds,k=>by
  rw[zy] at hnd
  obtain⟨D,rfl,j⟩:=hds x (by simp)
  refine⟨by simp,.inl ⟨D,w.putObj D (.deferred none),rfl,run_takeDeferred j,ri ds _ hnd.2 (fun y e=> ?_) (fun w' f e2 g c i l=>k w' f e2 g c (by rw[i];simp) (fun b a=> ?_))⟩⟩
  obtain⟨D',rfl,d⟩:=hds y (jl _ e)
  refine⟨D',rfl,?_⟩
  rw[World.putObj_heap_other]
  exact d
  rintro rfl;exact hnd.1 e
  rw[l b (fun h=>a (jl _ h)),World.putObj_heap_other]
  rintro rfl;exact a (by simp)
theorem Li (hC:C.ok P) (hm:P.follows .mixedOrders=true) {f:Nat} {fn:Func} {body:Code} (hf:P.funcs[f]? =some fn) (g:fn.body=some body) (hn:fn.ntmps=C.n) (A:CE Unit) {hk:FR Unit} (N:∀B,lD P C none hk (LvR B)/\D5 P C none hk (LvR B))
 {sl:List (Nat×SV)} {vals:List Value} (hlen:vals.length<=C.n) {rs:List Sh} {Z:RD rs->Prop} (hv:D4 C A hk body ⟨sl,[]⟩ () (OK fn rs Z)) {H:Imm} {w:World} (hg:ir H w)
 (hsl:∀ρ:Env,ρ.H=H->∀k v,wc sl k=some v->∃x,vals[k]? =some x/\SV.den P ρ v x):Calls P f vals.toArray w (fun e w'=>∃r,Z r/\Rr H w rs r e w'):=by
 refine(callsIn_wide (n:=0)).1 (callsIn_of_wp_marks hf g trivial ?_ rfl)
 let ρ:Env:=⟨H,fun _=>none,fun _=>0⟩
 let B:qw:=⟨w,H,[],fun _=>none,fun _=>0⟩
 have hS:Sat P B ρ (⟨sl,[]⟩:St).obj w:=by
  refine⟨rfl,rfl,rfl,jj _,jj _,hg,fun _ _ _=>rfl,fun _ _ _=>rfl,?_,fun _ _=>rfl,?_,?_⟩
  .intro o x I;simp[St.obj,wc] at I
  .intro o o' b C1 C2 l;simp[ρ] at l
  .intro o b C1 l;simp[ρ] at l
 have M:AT P B C.n [] ⟨sl,[]⟩ {tmps:=vals.toArray++Array.replicate (fn.ntmps-vals.toArray.size) undef,defers:=[]} w:=by
  refine⟨_,(aT _).symm,rfl,by simp;omega,ρ,hS,?_,fun o p _ g=>by simp[ρ] at g,fun _ _ g=>g⟩;intro k v hk;obtain⟨x,l,h2⟩:=hsl ρ rfl k v hk;rw[mY (x:=x) l];exact h2
 have hL0:LvR B B [] ():=⟨⟨rfl,rfl,rfl,jj _,jj _,fun _ _ h=>h,fun b _ h=>⟨rfl,rfl,h⟩,fun b h=> .inr h,rfl,rfl⟩,List.nodup_nil,fun x I=>by simp at I⟩;refine vR (r:=none) hC hm A hk (LvR B) (N B).1 (N B).2 body _ () _ _ _ w B [] hv hL0 M (fun e σ ys a' w' B' ds hE hK hL hR=> ?_);obtain⟨y,rfl,q1,q2,ρ',q3,q4,q5⟩:=hR;obtain⟨i,Q⟩:=hL;have E:(match tB σ rs fn.results.toList with
  |some (r,o1,L)=>match gN o1,mB L o1 with
   |true,false=>Z r
   |_,_=>False
  |none=>False)->LeavesInM Fence.wide 0 P fn (dg ds y).tmps (fun e w'=>∃r,Z r/\Rr H w rs r e w') (dg ds y).defers .returning w':=by
  intro S
  split at S
  case h_2=>exact S.elim
  rename_i r o1 L V
  split at S
  case h_2=>exact S.elim
  rename_i hno hme;have ed:(dg ds y).defers=ds:=(by simp[dg,q1]);have et:(dg ds y).tmps=y.tmps:=rfl;rw[ed,et];obtain⟨j,d,hle,hblk,hln⟩:=wF (σ:=σ) L q3;have hd:∀k,SV.den P j (σ.get k) (y.tmps.getD k undef):=by
   intro k;have:=wu (P:=P) (a:=y) q4 (.tmp k);exact SV.den_mono hle _ _ (fun o R=>by simp at R) this
  have G:tu σ (σ.frz L) o1:=by
   intro o R;rw[q9,jc];exact fun hm=>yd _ _ hme o hm R
  obtain⟨ss,e1,e2⟩:=AS d (v6 σ _) hd rs _ _ _ _ V (fun o R=>R) G;have z:∀x,x∈ds->∃D,x={target:= .collected D,args:= #[]}/\w.heap.size<=D/\D∉B'.bor/\D<B'.w.heap.size/\w'.heap[D]? =some (.deferred (some [])):=by
   intro x I;obtain⟨D,e,W,X,J⟩:=Q.2 x I;have O:=(jw.1 J).1;exact⟨D,e,W,X,O,(d.old D O X).trans J⟩
  refine ri ds w' Q.1 (fun x I=> ?_) (fun Y g1 g2 g3 g3' g4 g5=> ?_)
  .obtain⟨D,e,_,_,_,h⟩:=z x I;exact⟨D,e,h⟩
  have q:∀b,b<w.heap.size->({target:= .collected b,args:= #[]}:Deferred)∉ds:=by
   intro b g m;obtain⟨D,e,W,_⟩:=z _ m;simp at e;omega
  have t:∀o b K,j.blk o=some (some (b,K))->({target:= .collected b,args:= #[]}:Deferred)∉ds:=by
   intro o b K g m;obtain⟨D,e,_,_,_,h⟩:=z _ m;simp at e;subst e;exact(CF (σ:=σ.frz L) d g).2 _ h
  have F:ir j.H Y:=by
   refine⟨fun b c hc=> ?_,d.good.2⟩;have l:=d.good.1 b c hc;rw[g5 b (fun m=> ?_)]
   .exact l
   .obtain⟨D,e,_,_,_,h⟩:=z _ m;simp at e;subst e;rw[h] at l;exact pA l
  have T:∀b,b∈wV j o1->w.heap.size<=b/\Y.heap[b]? =w'.heap[b]? :=by
   intro b g;obtain⟨o,K,_,l⟩:=(wW _).1 g;refine⟨?_,g5 b (t o b K l)⟩;rcases d.own o b K l with h|h
   .exact jF i.size h
   .rcases i.own b h with h|h
    .exact h
    .simp[B] at h
  refine⟨_,DS e1 y.tmps Y,r,S,ss.map (fun s=>y.tmps.getD s undef),j.H,wV j o1,rfl,⟨⟨g1.trans (d.os.trans i.os),g2.trans (d.tape.trans i.tape),g3.trans (d.output.trans i.output),?_,fun b g=> ?_⟩,F,fun b g=> ?_,jF (jF i.drawn d.drawn) g3'⟩,?_,aG d _ (vA _ hno),fun b g=>(T b g).1⟩
  .rw[g4];exact jF i.size d.size
  .obtain⟨W,X,J⟩:=i.old b g (by simp[B]);rw[g5 b (q b g)];exact(d.old b (zB g i.size) J).trans W
  .obtain⟨W,X,J⟩:=i.old b g (by simp[B]);exact(d.oldH b (zB g i.size) J).trans X
  .have u:∀(rs:List Sh) (vs:List Value) (r:RD rs) (bs:List Nat),Zr j.H w' rs vs r bs->(∀b,b∈bs->Y.heap[b]? =w'.heap[b]?)->Zr j.H Y rs vs r bs:=by
    intro rs
    induction rs with
    |nil=>intro vs r bs h _;exact h
    |cons s rs ih=>
     intro vs r bs h hk;cases vs with
     |nil=>exact h.elim
     |cons v vs=>
      obtain⟨b1,b2,rfl,l,h2⟩:=h;exact⟨b1,b2,rfl,Rk (fun _ _ h=>h) l (fun b g=>⟨hk b (jh _ g),rfl⟩),ih vs r.2 b2 h2 (fun b g=>hk b (jg _ g))⟩
   exact u _ _ _ _ e2 (fun b g=>(T b g).2)
 cases e with
 |normal=>exact E hK
 |ret=>exact E hK
 |exit id=>exact hK.elim
def jfO:(rs:List Ty)->RD (rs.map fun t=> .cl (.dat t))->(Ty.st rs).Data
 |[],_=>()
 |_::rs,d=>(d.1,jfO rs d.2)
theorem Rs {H:Imm} {w:World}:∀(rs:List Ty) (vs:List Value) (r:RD (rs.map fun t=> .cl (.dat t))) (bs:List Nat),Zr H w (rs.map fun t=> .cl (.dat t)) vs r bs->rvs H rs vs (jfO rs r)
 |[],vs,r,bs,h=>h.1
 |t::rs,[],r,bs,h=>h.elim
 |t::rs,v::vs,r,bs,h=>by
  obtain⟨d,a,_,b,c⟩:=h
  exact⟨b.1,Rs rs vs r.2 a c⟩
theorem jcI {H:Imm} {w:World} {rs:List Ty} {r:RD (rs.map fun t=> .cl (.dat t))} {e:Ending} {w':World} (h:Rr H w (rs.map fun t=> .cl (.dat t)) r e w'):jbm H w rs (jfO rs r) e w':=by
 obtain⟨vs,H',d,rfl,b,c,_,_⟩:=h;have a:=Rs rs vs r d c;refine⟨_,H',rfl,b,?_⟩;have:=OH a;unfold Q8 at this;unfold jcx;exact this
@[irreducible] def jcJ (C:Ctx) (A:CE Unit) (hk:FR Unit) (fn:Func) (body:Code) (s:wD):Prop:=
 ∀d:PD s.ps,Ih (s.pre d) (D4 C A hk body ⟨vw s.ps d 0,[]⟩ () (OK fn (s.rs.map fun t=> .cl (.dat t)) (fun r=>jfO s.rs r=s.F d)))
theorem jeF (t:C.ok P) (y:P.follows .mixedOrders=true) {f:Nat} {fn:Func} {body:Code} {s:wD} (l:P.funcs[f]? =some fn) (j:fn.body=some body) (a:(fn.name== "runtime.NumGoroutine")=false) (z:fn.ntmps=C.n) (D:s.ps.length<=C.n)
 {A:CE Unit} {hk:FR Unit} (g:∀B,lD P C none hk (LvR B)/\D5 P C none hk (LvR B)) (h:jcJ C A hk fn body s):wN P f s:=by
 unfold jcJ at h;refine⟨qQ l j a,fun H w vals d u o c=> ?_⟩;have m:=cr o;refine(Li t y l j z A g (by omega) (bi _ _ (h d) c) u (fun ρ i k v hk=> ?_)).mono fun e w' ⟨r,E,b⟩=> ?_
 obtain⟨x,p,q⟩:=yT (P:=P) (ρ:=ρ) s.ps vals d 0 (by rw[i];exact o) k v hk;exact⟨x,by simpa using p,q⟩;rw[<-E];exact jcI b
end
end Go.X
namespace Go.X
open Go.RowKit (Below)
structure rj where
 ps:List Par
 pre:PD ps->List Prop
 g:Nat
 cs:List Ty
 F:PD ps->(Ty.st cs).Data
def V8:(cs:List Ty)->(Ty.st cs).Data->List SV
 |[],_=>[]
 |t::ts,d=> .ep t d.1::V8 ts d.2
def OL (H:Imm):(cs:List Ty)->List Value->(Ty.st cs).Data->Prop
 |[],vs,_=>vs=[]
 |t::ts,v::vs,d=>Vf H t v d.1/\OL H ts vs d.2
 |_::_,[],_=>False
def rk (σ:St):(cs:List Ty)->List SV->Option ((Ty.st cs).Data×List Nat)
 |[],[]=>some ((),[])
 |t::ts,v::vs=>match NU σ t v with
  |some (x,f)=>match rk σ ts vs with
   |some (xs,a)=>some ((x,xs),f++a)
   |none=>none
  |none=>none
 |_,_=>none
def jcK (C:Ctx) (s:rj) (σ:St) (svs:List SV):Option Out:=match ya C σ s.ps svs with
 |some (d,fz)=>some ⟨s.pre d,[],.clo s.g (V8 s.cs (s.F d)),fz,[],[]⟩
 |none=>none
structure Lj (P:Program) (f:Nat) (s:rj):Prop where
 enters:enters P f
 calls:∀H w vals d,ir H w->pvs P H s.ps vals d->vI (s.pre d)->Calls P f vals.toArray w (fun e w'=>∃lb H',e= .returned (.func (.func s.g) #[] lb)/\jbl H w H' w'/\OL H' s.cs lb.toList (s.F d))
def jcL (fn:Func) (s:rj) (want:(Ty.st s.cs).Data):Ex->St->Prop
 | .exit _,_=>False
 |_,σ=>match fn.results.toList with
  |[.tmp r]=>match σ.get r with
   | .clo g caps=>match Nat.beq g s.g,rk σ s.cs caps with
    |true,some (x,_)=>x=want
    |_,_=>False
   |_=>False
  |_=>False
@[irreducible] def V9 (C:Ctx) (A:Ann) (fn:Func) (body:Code) (s:rj):Prop:=
 ∀d:PD s.ps,Ih (s.pre d) (vcg C A body ⟨vw s.ps d 0,[]⟩ (jcL fn s (s.F d)))
structure IY where
 g:Nat
 k:Nat
 s:qC
structure VOK (P:Program) (f:Nat) (v:IY):Prop where
 enters:enters P f
 calls:∀H w (lb rest:List Value) d bs,lb.length=v.k->ir H w->fx P H w v.s.ps (lb++rest) d bs->bs.Nodup->vI (v.s.pre d)->Calls P f (Value.func (.func v.g) #[] lb.toArray::rest).toArray w (Lc H w bs v.s (lb++rest) d)
def jcM (C:Ctx) (v:IY) (dst:Nat) (σ:St):List SV->Option Out
 | .clo g caps::rest=>match Nat.beq g v.g,Nat.beq caps.length v.k with
  |true,true=>D2 C v.s dst σ (caps++rest)
  |_,_=>none
 |_=>none
def jf9 (C:Ctx) (os:List (Nat×qC)) (cs:List (Nat×rj)) (vs:List (Nat×IY)) (f dst:Nat) (σ:St) (svs:List SV):Option Out:=
 match wc os f with
 |some s=>D2 C s dst σ svs
 |none=>match wc cs f with
  |some s=>jcK C s σ svs
  |none=>match wc vs f with
   |some v=>jcM C v dst σ svs
   |none=>none
section
variable {P:Program} {B:qw} {C:Ctx} {σ:St} {ρ:Env} {w:World}
theorem Lk {H:Imm}:∀(cs:List Ty) (vs:List Value) (d:(Ty.st cs).Data),OL H cs vs d->ρ.H=H->SV.denL P ρ (V8 cs d) vs
 |[],vs,d,h,_=>by simp only[OL] at h;subst h;simp[V8,SV.denL]
 |t::ts,[],d,h,_=>h.elim
 |t::ts,v::vs,d,h,hH=>by
  obtain⟨a,b⟩:=h
  simp only[V8,SV.denL]
  refine⟨v,vs,rfl,?_,Lk ts vs d.2 b hH⟩
  simp only[SV.den]
  rw[hH];exact a
theorem tI {τ:St} (i:Sat P B ρ τ.obj w) {fz:List Nat} (g:Frz σ τ fz):∀{cs:List Ty} {svs:List SV} {d:(Ty.st cs).Data} {a:List Nat},rk σ cs svs=some (d,a)->(∀o,o∈a->o∈fz)->∀{vs:List Value},SV.denL P ρ svs vs->OL ρ.H cs vs d
 |[],[],d,a,h,_,vs,b=>by simpa[SV.denL,OL] using b
 |[],_::_,d,a,h,_,vs,b=>by simp[rk] at h
 |_::_,[],d,a,h,_,vs,b=>by simp[rk] at h
 |t::ts,v::svs,d,a,h,hf,vs,b=>by
  simp only[rk] at h
  split at h
  case h_2=>cases h
  rename_i x f l
  split at h
  case h_2=>cases h
  rename_i xs m e
  simp at h
  obtain⟨rfl,rfl⟩:=h
  simp only[SV.denL] at b
  obtain⟨u,r,rfl,j,k⟩:=b
  exact⟨iB i g l (fun o c=>hf o (jh _ c)) j,tI i g e (fun o c=>hf o (jg _ c)) k⟩
theorem OM (m:C.ok P) {f:Nat} {s:rj} {svs:List SV} {out:Out} (u:Lj P f s) (h:jcK C s σ svs=some out) {vals:List Value} (p:Sat P B ρ σ.obj w) (r:SV.denL P ρ svs vals) (l:vI out.vc):
 Calls P f vals.toArray w (fun e w'=>∃v,e= .returned v/\wb P B ρ σ out v w'):=by
 unfold jcK at h
 split at h
 case h_2=>cases h
 rename_i d fz y;simp at h;subst h;obtain⟨ρ1,a,c,_,_⟩:=wF fz p;have g:=SV.denL_mono c _ _ (fun o k=>by simp at k) r;refine(u.calls ρ1.H w _ d a.good (yS m a (v6 σ fz) y (fun o k=>k) g) l).mono fun e w' t=> ?_
 obtain⟨lb,H',rfl,n,x⟩:=t;obtain⟨j,i⟩:=Iv a (fun o b z q=>(ba (σ:=σ.frz fz) a q).1) n;refine⟨_,rfl,_,?_,c.trans i,?_,trivial⟩
 .show Sat P B _ (σ.frz fz).obj w';exact j
 .simp only[SV.den];exact⟨lb,rfl,Lk _ _ _ x rfl⟩
theorem jeG (W:C.ok P) (hm:P.follows .mixedOrders=true) {f:Nat} {fn:Func} {body:Code} {s:rj} (O:P.funcs[f]? =some fn) (i:fn.body=some body)
 (m:(fn.name== "runtime.NumGoroutine")=false) (hn:fn.ntmps=C.n) (hps:s.ps.length<=C.n) (A:Ann) (h:V9 C A fn body s):Lj P f s:=by
 unfold V9 at h;refine⟨qQ O i m,fun H w vals d Z R u=> ?_⟩;have Q:=cr R;refine calls_of_wp O i ?_;have hv:=bi _ _ (h d) u
 let ρ:Env:=⟨H,fun _=>none,fun _=>0⟩
 have Y:Sat P ⟨w,H,[],fun _=>none,fun _=>0⟩ ρ (⟨vw s.ps d 0,[]⟩:St).obj w:=by
  refine⟨rfl,rfl,rfl,jj _,jj _,Z,fun _ _ _=>rfl,fun _ _ _=>rfl,?_,fun _ _=>rfl,?_,?_⟩
  .intro o x hx;simp[St.obj,wc] at hx
  .intro o o' b S C2 l;simp[ρ] at l
  .intro o b S l;simp[ρ] at l
 have X:Rel P ⟨w,H,[],fun _=>none,fun _=>0⟩ C.n ⟨vw s.ps d 0,[]⟩ {tmps:=vals.toArray++Array.replicate (fn.ntmps-vals.toArray.size) undef,defers:=[]} w:=by
  refine⟨rfl,by simp;omega,ρ,Y,?_,fun o p _ i=>by simp[ρ] at i,fun _ _ i=>i⟩;intro k v hk;obtain⟨x,l,N⟩:=yT (P:=P) (ρ:=ρ) s.ps vals d 0 R k v hk;rw[mY (x:=x) (by simpa using l)];exact N
 refine yj W hm A body _ _ _ _ w hv X (fun e σ B w' _ D E=> ?_);have j:(match fn.results.toList with
  |[.tmp r]=>match σ.get r with
   | .clo g caps=>match Nat.beq g s.g,rk σ s.cs caps with
    |true,some (x,_)=>x=s.F d
    |_,_=>False
   |_=>False
  |_=>False)->B.defers=[]/\∃v,(Go.results fn B.tmps).run P w'= .ok v w'/\∃lb H',Ending.returned v= .returned (.func (.func s.g) #[] lb)/\jbl H w H' w'/\OL H' s.cs lb.toList (s.F d):=by
  intro q
  split at q
  case h_2=>exact q.elim
  rename_i r y
  split at q
  case h_2=>exact q.elim
  rename_i g caps t
  split at q
  case h_2=>exact q.elim
  rename_i x fz J hz;have:=jb J;subst this;subst q;obtain⟨l,N,ρ',G,I,_⟩:=E;obtain⟨M,c,K,_,_⟩:=wF (σ:=σ) fz G;have z:=wu (P:=P) (a:=B) I (.tmp r);simp only[wx] at z;rw[t] at z;simp only[SV.den] at z;obtain⟨lb,T,e2⟩:=z;have V:=tI c (v6 σ _) hz (fun o L=>L) (SV.denL_mono K _ _ (fun o L=>by simp at L) e2);refine⟨l,_,DS (ss:=[r]) (by simpa using y) _ _,lb,M.H,?_,?_,V⟩
  .simp only[zg,List.map_nil];exact jP Ending.returned T
  .have below:Below w.heap.size w w':=⟨c.os,c.tape,c.output,c.size,fun b i=>c.old b i (by simp)⟩;exact⟨below,c.good,fun b i=>c.oldH b i (by simp),c.drawn⟩
 cases e with
 |normal=>exact j D
 |ret=>exact j D
 |exit id=>exact D.elim
theorem ON (y:C.ok P) {f dst:Nat} {v:IY} {svs:List SV} {out:Out} (D:VOK P f v) (h:jcM C v dst σ svs=some out) {vals:List Value} (z:Sat P B ρ σ.obj w) (t:SV.denL P ρ svs vals) (j:vI out.vc):
 Calls P f vals.toArray w (fun e w'=>∃v,e= .returned v/\wb P B ρ σ out v w'):=by
 unfold jcM at h
 split at h
 case h_2=>cases h
 rename_i g caps rest
 split at h
 case h_2=>cases h
 rename_i m hk;have m:=jb m;have hk:=jb hk;subst m;simp only[SV.denL] at t;obtain⟨u,r,rfl,p,x⟩:=t;simp only[SV.den] at p;obtain⟨lb,rfl,q⟩:=p;have i:=yI _ _ _ _ q x;have a:=h;unfold D2 at a
 split at a
 .cases a
 rename_i d os fz E
 split at a
 case h_2=>cases a
 rename_i o n _ _;simp at a;obtain⟨ρ1,_,k,_,b,l,c⟩:=iU (dst:=dst) (rs:=v.s.rs) (pre:=v.s.pre) y E o n z i;have:=D.calls ρ1.H w lb.toList r d (wV ρ1 os) (by rw[<-qx _ _ q,hk]) k.good b l (by rw[<-a] at j;exact j);rw[show(Value.func (.func v.g) #[] lb.toList.toArray::r).toArray=(Value.func (.func v.g) #[] lb::r).toArray from by simp] at this;exact this.mono fun e w' A=>c v.s.F out h e w' A
theorem SX (g:C.ok P) {os:List (Nat×qC)} {cs:List (Nat×rj)} {vs:List (Nat×IY)} (j:∀f s,wc os f=some s->ga P f s) (i:∀f s,wc cs f=some s->Lj P f s) (k:∀f s,wc vs f=some s->VOK P f s)
 {f dst:Nat} {svs:List SV} {out:Out} (h:jf9 C os cs vs f dst σ svs=some out):
 enters P f/\∀B ρ w vals,Sat P B ρ σ.obj w->SV.denL P ρ svs vals->vI out.vc->σ.obj dst=none->vJ σ.obj dst->
  Calls P f vals.toArray w (fun e w'=>∃v,e= .returned v/\wb P B ρ σ out v w'):=by
 unfold jf9 at h
 split at h
 rename_i s b;exact⟨(j f s b).enters,fun B ρ w vals c d a _ _=>D3 g (j f s b) h c d a⟩
 split at h
 rename_i s b;exact⟨(i f s b).enters,fun B ρ w vals c d a _ _=>OM g (i f s b) h c d a⟩
 split at h
 rename_i v b;exact⟨(k f v b).enters,fun B ρ w vals c d a _ _=>ON g (k f v b) h c d a⟩;cases h
end
end Go.X
namespace Go.X
open Go.RowKit (Below)
structure rm where
 aZ:List (Option (Nat×Nat))
 ps:List cd
 rs:List Sh
 pre:OD ps->List Prop
 R:OD ps->RD rs×KD ps->Prop
def IZ:List (Option (Nat×Nat))->List SV->Option (List SV)
 |[],[]=>some []
 |none::aZ,v::vs=>match IZ aZ vs with
  |some r=>some (v::r)
  |none=>none
 |some a::aZ,.clo g' caps::vs=>match Nat.beq a.1 g',Nat.beq caps.length a.2,IZ aZ vs with
  |true,true,some r=>some (caps++r)
  |_,_,_=>none
 |_,_=>none
def Wa:List (Option (Nat×Nat))->List Value->List Value->Prop
 |[],vs,fl=>vs=[]/\fl=[]
 |none::aZ,vs,fl=>∃v b a,vs=v::b/\fl=v::a/\Wa aZ b a
 |some c::aZ,vs,fl=>∃lb b a,vs= .func (.func c.1) #[] lb::b/\fl=lb.toList++a/\lb.size=c.2/\Wa aZ b a
def rm.at (s:rm) (r:RD s.rs×KD s.ps):qC:=⟨s.ps,s.rs,s.pre,fun _=>r⟩
structure ROK (P:Program) (f:Nat) (s:rm):Prop where
 enters:enters P f
 calls:∀H w vals fl d bs,Wa s.aZ vals fl->ir H w->fx P H w s.ps fl d bs->bs.Nodup->vI (s.pre d)->
  Calls P f vals.toArray w (fun e w'=>∃r,s.R d r/\Lc H w bs (s.at r) fl d e w')
def hkC (C:Ctx) (A:CE Unit) (c:Nat->Option ((ts:List Ty)×Lf ts)) (b:List Nat) (rt:List (Nat×Nat×rm)):FR Unit:=
 ⟨fun d=>aW b d,fun a args σ _ K=>match a with
  | .clo f []=>match wc rt f with
   |some p=>match IZ p.2.aZ args with
    |some svs=>match OE C σ p.2.ps svs with
     |some (d,os,fz)=>match gN os,mB fz os with
      |true,false=>vI (p.2.pre d)/\∀r,p.2.R d r->(match D2 C (p.2.at r) p.1 σ svs with
       |some out=>match G6 ⟨σ,[]⟩ out.nw with
        |true=>K out.sv ⟨σ.sl,out.wr++(ao σ out.fz++σ.ob)⟩ ()
        |false=>False
       |none=>False)
      |_,_=>False
     |none=>False
    |none=>False
   |none=>False
  |_=>False,(hkR C A c).rng⟩
section
variable {P:Program} {C:Ctx}
theorem xq {ρ:Env}:∀(aZ:List (Option (Nat×Nat))) (svs fs:List SV) (vals:List Value),IZ aZ svs=some fs->SV.denL P ρ svs vals->∃fl,Wa aZ vals fl/\SV.denL P ρ fs fl
 |[],svs,fs,vals,h,b=>by
  cases svs with
  |nil=>
   simp only[IZ,jy] at h;subst h
   simp only[SV.denL] at b;subst b
   exact⟨[],⟨rfl,rfl⟩,by simp[SV.denL]⟩
  |cons a r=>simp[IZ] at h
 |none::aZ,[],fs,vals,h,b=>by simp[IZ] at h
 |none::aZ,v::vs,fs,vals,h,b=>by
  simp only[IZ] at h
  split at h
  case h_2=>cases h
  rename_i r i
  simp only[jy] at h;subst h
  simp only[SV.denL] at b
  obtain⟨x,xs,rfl,c,d⟩:=b
  obtain⟨fl,j,k⟩:=xq aZ vs r xs i d
  exact⟨x::fl,⟨x,xs,fl,rfl,rfl,j⟩,by simp only[SV.denL];exact⟨x,fl,rfl,c,k⟩⟩
 |some q::aZ,svs,fs,vals,h,b=>by
  unfold IZ at h
  split at h
  .rename_i e;cases e
  .rename_i e;cases e
  .rename_i n m p caps vs e
   simp only[List.cons.injEq,jy] at e
   obtain⟨rfl,rfl⟩:=e
   split at h
   case h_2=>cases h
   rename_i r f g i
   simp only[jy] at h;subst h
   have f:=jb f
   have g:=jb g
   subst f
   simp only[SV.denL] at b
   obtain⟨x,xs,rfl,c,d⟩:=b
   simp only[SV.den] at c
   obtain⟨lb,rfl,l⟩:=c
   obtain⟨fl,j,k⟩:=xq aZ vs r xs i d
   have o:=qx _ _ l
   refine⟨lb.toList++fl,⟨lb,xs,fl,rfl,rfl,?_,j⟩,yI _ _ _ _ l k⟩
   rw[<-g,o];simp
  .cases h
theorem ZA (hC:C.ok P) {A:CE Unit} {tbl:Nat->Option ((ts:List Ty)×Lf ts)} {sps:List Nat} {rt:List (Nat×Nat×rm)} (hrt:∀f p,wc rt f=some p->ROK P f p.2) {Bi:qw}:lD P C none (hkC C A tbl sps rt) (LvR Bi):=by
 intro o c f d σ ys K B ds a w next Q S hc I hd h hL F hK;obtain⟨b,rfl,hd0,M,ρ,hS,m,E⟩:=F;have hnd:∀c,o.op≠.defer c:=fun c e=>by rw[S] at e;cases e
 have u:=wu (P:=P) (ρ:=ρ) m f;have q:=dB (P:=P) (ρ:=ρ) (σ:=σ) (fun x=>wu (P:=P) (ρ:=ρ) m x) c.args.toList;refine⟨fun _ _=>trivial,?_⟩;rw[Oper.semAt_eq _ _ _ hnd];simp only[hkC] at h
 split at h
 case h_2=>exact h.elim
 rename_i k hv
 split at h
 case h_2=>exact h.elim
 rename_i p hp
 split at h
 case h_2=>exact h.elim
 rename_i svs hfl
 split at h
 case h_2=>exact h.elim
 rename_i dd os fz hz
 split at h
 case h_2=>exact h.elim
 rename_i hno hme;obtain⟨V,t⟩:=h;have R:=hrt k p hp;rw[hv] at u;simp only[SV.den] at u;obtain⟨vs,ef,i⟩:=u;simp only[SV.denL,Array.toList_eq_nil_iff] at i;subst i;obtain⟨fl,L,J⟩:=xq (P:=P) (ρ:=ρ) _ _ _ _ hfl q;obtain⟨ρ1,hle1,Y,hb1,j,hbn,z⟩:=iU (dst:=p.1) (rs:=p.2.rs) (pre:=p.2.pre) hC hz hno hme hS J;have hex:(execOp (dg ds b).eval o).run P w= .ok (.enter k (c.args.map b.eval)) w:=by
  have X:(dg ds b).eval f= .func (.func k) #[] #[]:=(by rw[mX];exact ef);simp only[execOp,S,jC,resolve,hc,Deferred.ofValue,X,jT,js,invoke];have e2:(dg ds b).eval=b.eval:=(by exact mX _ _);rw[e2,<-R.enters (c.args.map b.eval) w];simp
 rw[hex];simp only[Oper.uponIn];refine⟨fun hd=>by simp[Fence.wide] at hd,oz.2 ?_⟩;have G:=R.calls ρ1.H w _ fl dd (wV ρ1 os) L Y.good j hbn V;rw[show(c.args.toList.map b.eval).toArray=c.args.map b.eval from by apply jL.1;simp] at G;refine G.mono fun e w' he=> ?_
 obtain⟨r,hr,hP⟩:=he;have g:=t r hr
 split at g
 case h_2=>exact g.elim
 rename_i out T
 split at g
 case h_2=>exact g.elim
 rename_i N;obtain⟨v,rfl,ρ4,Z,l,hdv,_⟩:=z _ out T e w' hP;simp only;rw[I];have O:=fun n hn=>cC (om _ N n hn)
 have hE:Ext σ ⟨σ.sl,out.wr++(ao σ out.fz++σ.ob)⟩:=⟨⟨[],rfl⟩,⟨out.wr++ao σ out.fz,by simp⟩⟩;have W:(dg ds b).put (some d) v=dg ds (b.put (some d) v):=rfl;rw[W];refine hK out.sv _ () v w' B g hE hL ⟨b.put (some d) v,rfl,by simpa[Act.put] using hd0,by simpa[Act.put] using M,ρ4,Z,?_,E.mono l (fun n hn=>(O n hn).lt)⟩;intro s y D;simp only[Act.put];by_cases hs:s=d
 .subst hs;rw[wl] at D;simp at D;subst D;simp only[jq,jM];simp only[if_true];rw[jd (by rw[M];exact hd)];exact hdv
 .rw[wa (fun h=>hs h.symm)] at D;simp only[jq,jM];rw[jc (fun h=>hs h.symm)];have:=SV.den_mono l _ _ (fun r hr=>(O r hr).sl s y (qh _ _ _ D)) (m s y D);simpa only[jq] using this
theorem HH (j:C.ok P) (k:P.follows .mixedOrders=true) {A:CE Unit} {c:Nat->Option ((ts:List Ty)×Lf ts)} (d:V7 P c) {e:List Nat} {rt:List (Nat×Nat×rm)} (i:∀f p,wc rt f=some p->ROK P f p.2) (B:qw):
 lD P C none (hkC C A c e rt) (LvR B)/\D5 P C none (hkC C A c e rt) (LvR B):=
 ⟨ZA j i,fun g ps aZ b σ ys K B' ds a w Q h=>jcH j k d g ps aZ b σ ys K B' ds a w Q h⟩
def jcN:Nat->Option ((ts:List Ty)×Lf ts):=fun _=>none
theorem OO:V7 P jcN:=fun _ _ _ _ _ _ _ _ h=>by cases h
theorem jeH {ts:List Ty} {l B0:Nat} {R c:Res (Ty.st ts).Data} {a:List Nat} {b:List (Ty.st ts).Data->Prop} (e:R.stable B0) (d:YB P ts B0 l R c b):
 lD P C none (hkY ts l a b (fun _=>none)) (LvY ts B0 R c)/\D5 P C none (hkY ts l a b (fun _=>none)) (LvY ts B0 R c):=
 ⟨Zv e d (fun _ _ h=>by cases h),jcF⟩
def ZB:List cd->Bool
 |[]=>true
 | .own _ _::_=>false
 |_::ps=>ZB ps
theorem aI {H H':Imm} {w w':World}:∀{ps:List cd} {vs:List Value} {d:OD ps} {bs:List Nat} (k:KD ps),ZB ps=true->fx P H w ps vs d bs->xo H' w' ps vs k []/\bs=[]
 |[],vs,d,bs,k,_,h=>⟨rfl,h.2⟩
 |p::ps,[],d,bs,k,_,h=>h.elim
 | .own _ _::ps,v::vs,d,bs,k,c,_=>by cases c
 | .val t::ps,v::vs,d,bs,k,c,h=>by
  obtain⟨l,m,rfl,e,g⟩:=h
  obtain⟨i,j⟩:=aI (ps:=ps) k c g
  exact⟨i,by rw[j,e.2];rfl⟩
 | .ref t::ps,v::vs,d,bs,k,c,h=>by
  obtain⟨l,m,rfl,e,g⟩:=h
  obtain⟨i,j⟩:=aI (ps:=ps) k c g
  exact⟨i,by rw[j,e.2];rfl⟩
 | .nil _::ps,v::vs,d,bs,k,c,h=>by
  obtain⟨l,m,rfl,e,g⟩:=h
  obtain⟨i,j⟩:=aI (ps:=ps) k c g
  exact⟨i,by rw[j,e.2];rfl⟩
 | .clo f::ps,v::vs,d,bs,k,c,h=>by
  obtain⟨l,m,rfl,e,g⟩:=h
  obtain⟨i,j⟩:=aI (ps:=ps) k c g
  exact⟨i,by rw[j,e.2];rfl⟩
 | .fn a b::ps,v::vs,d,bs,k,c,h=>by
  obtain⟨l,m,rfl,e,g⟩:=h
  obtain⟨i,j⟩:=aI (ps:=ps) k c g
  exact⟨i,by rw[j,e.2];rfl⟩
theorem ZC {H:Imm} {w:World} {ps:List cd} {rs:List Sh} {pre:OD ps->List Prop} {vs:List Value} {d:OD ps} {bs:List Nat} (g:ZB ps=true) (i:fx P H w ps vs d bs) {r:RD rs} (k:KD ps) {e:Ending} {w':World} (h:Rr H w rs r e w'):
 Lc H w bs ⟨ps,rs,pre,fun _=>(r,k)⟩ vs d e w':=by
 obtain⟨us,H',n,rfl,a,m,l,j⟩:=h;obtain⟨_,rfl⟩:=aI (H':=H') (w':=w') k g i;have hk:=fun H' w'=>(aI (P:=P) (H:=H) (w:=w) (H':=H') (w':=w') k g i).1
 refine⟨us,H',n,[],rfl,⟨a.below.os,a.below.tape,a.below.output,a.drawn,a.below.size,fun b c _=>a.below.block b c,fun b c _=>a.old b c,a.good⟩,m,hk _ _,by simpa using l,fun b f=> .inr (j b (by simpa using f))⟩
@[irreducible] def Wb (C:Ctx) (A:CE Unit) (hk:FR Unit) (fn:Func) (body:Code) (s:rm) (args:OD s.ps->List SV):Prop:=
 ∀d,vI (s.pre d)->D4 C A hk body ⟨HA (args d) 0,[]⟩ () (OK fn s.rs (fun r=>∃k,s.R d (r,k)))
theorem Wc (F:C.ok P) (I:P.follows .mixedOrders=true) {f:Nat} {fn:Func} {body:Code} {s:rm} (u:P.funcs[f]? =some fn) (q:fn.body=some body) (a:(fn.name== "runtime.NumGoroutine")=false) (J:fn.ntmps=C.n) {A:CE Unit} {hk:FR Unit}
 (l:∀B,lD P C none hk (LvR B)/\D5 P C none hk (LvR B)) {args:OD s.ps->List SV} (z:ZB s.ps=true)
 (g:∀H w vals fl d bs,Wa s.aZ vals fl->fx P H w s.ps fl d bs->∀ρ:Env,ρ.H=H->SV.denL P ρ (args d) vals) (h:∀d,Nat.ble (args d).length C.n=true)
 (y:Wb C A hk fn body s args):ROK P f s:=by
 unfold Wb at y;refine⟨qQ u q a,fun H w vals fl d bs j G p K i=> ?_⟩;have t:=fun ρ c=>g H w vals fl d bs j p ρ c
 have M:=qx _ _ (t ⟨H,fun _=>none,fun _=>0⟩ rfl);have N:=jB (h d);refine(Li F I u q J A l (by omega) (y d i) G (fun ρ c k v o=> ?_)).mono fun e w' ⟨r,L,b⟩=> ?_
 obtain⟨x,D,E,_⟩:=HB _ _ 0 (t ρ c) k v o;exact⟨x,by simpa using D,E⟩;obtain⟨k,m⟩:=L;exact⟨(r,k),m,ZC z p k b⟩
end
end Go.X
namespace Go.X
namespace U
def YD {α:Type} (lt:α->α->Bool) (x:α):List α->List α
 |[]=>[x]
 |y::r=>if lt y x=true then y::YD lt x r else x::y::r
def kG {α:Type} (lt:α->α->Bool):List α->List α
 |[]=>[]
 |x::r=>YD lt x (kG lt r)
end U
structure vB {α:Type} (lt:α->α->Bool) (l:List α):Prop where
 irrefl:∀x,x∈l->lt x x=false
 trans:∀x y z,x∈l->y∈l->z∈l->lt x y=true->lt y z=true->lt x z=true
 total:∀x y,x∈l->y∈l->lt x y=false->lt y x=false->x=y
def SY {α:Type} (lt:α->α->Bool) (l:List α):Prop:=l.Pairwise (fun a b=>lt b a=false)
section
variable {α:Type} {lt:α->α->Bool}
theorem xr (x:α):∀l:List α,(U.YD lt x l).Perm (x::l)
 |[]=>List.Perm.refl _
 |y::r=>by
  unfold U.YD
  split
  .exact((xr x r).cons y).trans (List.Perm.swap x y r)
  .exact List.Perm.refl _
theorem wJ:∀l:List α,(U.kG lt l).Perm l
 |[]=>List.Perm.refl _
 |x::r=>(xr x _).trans ((wJ r).cons x)
theorem vB.perm {l l':List α} (h:vB lt l) (a:l'.Perm l):vB lt l':=
 ⟨fun x b=>h.irrefl x (a.mem_iff.1 b),fun x y z b c d=>h.trans x y z (a.mem_iff.1 b) (a.mem_iff.1 c) (a.mem_iff.1 d),fun x y b c=>h.total x y (a.mem_iff.1 b) (a.mem_iff.1 c)⟩
theorem vB.sub {l l':List α} (h:vB lt l) (a:∀x,x∈l'->x∈l):vB lt l':=
 ⟨fun x b=>h.irrefl x (a _ b),fun x y z b c d=>h.trans x y z (a _ b) (a _ c) (a _ d),fun x y b c=>h.total x y (a _ b) (a _ c)⟩
theorem vB.asymm {l:List α} (h:vB lt l) {x y:α} (a:x∈l) (d:y∈l) (b:lt x y=true):lt y x=false:=by
 cases c:lt y x with
 |false=>rfl
 |true=>have:=h.trans x y x a d a b c;rw[h.irrefl x a] at this;cases this
theorem vB.ntrans {l:List α} (h:vB lt l) {x y z:α} (d:x∈l) (e:y∈l) (g:z∈l) (f:lt x y=false) (b:lt y z=false):lt x z=false:=by
 cases a:lt x z with
 |false=>rfl
 |true=>
  cases c:lt y x with
  |true=>have:=h.trans y x z e d g c a;rw[b] at this;cases this
  |false=>have:=h.total x y d e f c;subst this;rw[b] at a;cases a
theorem Ll {x:α}:∀{l:List α},vB lt (x::l)->SY lt l->SY lt (U.YD lt x l)
 |[],_,_=>List.pairwise_singleton _ _
 |y::r,h,ha=>by
  unfold U.YD
  have c:=zF.1 ha
  split
  rename_i a
  refine zF.2 ⟨fun z b=> ?_,Ll (h.sub (by intro z b;simp at b⊢;rcases b with rfl|b;exact .inl rfl;exact .inr (.inr b))) c.2⟩
  rcases jk.1 ((xr x r).mem_iff.1 b) with rfl|b
  exact h.asymm (by simp) (by simp) a
  exact c.1 z b
  rename_i a
  have a:lt y x=false:=by simpa using a
  refine zF.2 ⟨fun z b=> ?_,ha⟩
  rcases jk.1 b with rfl|b
  exact a
  exact h.ntrans (x:=z) (y:=y) (z:=x) (by simp[b]) (by simp) (by simp) (c.1 z b) a
theorem cu:∀{l:List α},vB lt l->SY lt (U.kG lt l)
 |[],_=>List.Pairwise.nil
 |x::r,h=>Ll ((h.perm ((wJ r).cons x))) (cu (h.sub (fun _ a=>jl _ a)))
theorem ru:∀{a b:List α},vB lt a->a.Perm b->SY lt a->SY lt b->a=b
 |[],b,_,c,_,_=>(List.perm_nil.1 c.symm).symm
 |x::r,[],_,c,_,_=>absurd c.length_eq (by simp)
 |x::r,y::s,h,c,ha,hb=>by
  have d:=zF.1 ha
  have f:=zF.1 hb
  have j:y∈x::r:=c.mem_iff.2 (by simp)
  have k:x∈y::s:=c.mem_iff.1 (by simp)
  have e:x=y:=by
   rcases jk.1 j with e|i;exact e.symm;rcases jk.1 k with e|g;exact e;exact h.total x y (by simp) j (f.1 x g) (d.1 y i)
  subst e;rw[ru (h.sub (fun z l=>jl _ l)) (List.Perm.cons_inv c) d.2 f.2]
theorem tJ {l l':List α} (h:vB lt l) (a:l'.Perm l) (b:SY lt l'):l'=U.kG lt l:=
 ru (h.perm a) (a.trans (wJ l).symm) b (cu h)
theorem Lm {l l':List α} (h:vB lt l) (a:l'.Perm l):U.kG lt l'=U.kG lt l:=
 tJ h ((wJ l').trans a) (cu (h.perm a))
end
namespace U
def kK (t:Ty) (F:(Ty.st [t,t]).Data->(Ty.st [.int]).Data) (x y:t.Data):Bool:=decide ((F (x,y,())).1<0)
def kV:List Prop->Prop
 |[]=>True
 |p::r=>p/\kV r
end U
theorem Rt:∀l:List Prop,U.kV l↔vI l
 |[]=>Iff.rfl
 |p::r=>by simp only[U.kV,vI,Rt r]
def Wd (t:Ty) (E:Nat):qC:=⟨[.own (.cl (.row E t .unk)) true,.fn [t,t] [.int]],[],fun d=>[∀x,x∈d.1->∀y,y∈d.1->U.kV (d.2.1.pre (x,y,())),vB (U.kK t d.2.1.F) d.1],
 fun d=>((),(U.kG (U.kK t d.2.1.F) d.1,()))⟩
end Go.X
namespace Go.X
open U
open Go.RowKit (Below)
def jcO (C:Ctx) (fn:Func) (s:wD) (want:(Ty.st s.rs).Data) (e:Ex) (σ:St) (_:Unit):Prop:=finish C fn s want e σ
@[irreducible] def Ru (C:Ctx) (s:wD) (A:PD s.ps->CE Unit) (hk:FR Unit) (fn:Func) (body:Code):Prop:=
 ∀d:PD s.ps,Ih (s.pre d) (D4 C (A d) hk body ⟨vw s.ps d 0,[]⟩ () (jcO C fn s (s.F d)))
section
variable {P:Program} {C:Ctx}
theorem We (hC:C.ok P) (hm:P.follows .mixedOrders=true) {f:Nat} {fn:Func} {body:Code} {s:wD} (hf:P.funcs[f]? =some fn) (j:fn.body=some body) (I:(fn.name== "runtime.NumGoroutine")=false) (hn:fn.ntmps=C.n) (hps:s.ps.length<=C.n)
 {A:PD s.ps->CE Unit} {hk:FR Unit} (N:∀B,lD P C none hk (LvR B)/\D5 P C none hk (LvR B)) (h:Ru C s A hk fn body):wN P f s:=by
 unfold Ru at h;refine⟨qQ hf j I,fun H w vals d hg hp R=> ?_⟩;have hlen:=cr hp;refine(callsIn_wide (n:=0)).1 (callsIn_of_wp_marks hf j trivial ?_ rfl)
 let ρ:Env:=⟨H,fun _=>none,fun _=>0⟩
 let B:qw:=⟨w,H,[],fun _=>none,fun _=>0⟩
 have hS:Sat P B ρ (⟨vw s.ps d 0,[]⟩:St).obj w:=by
  refine⟨rfl,rfl,rfl,jj _,jj _,hg,fun _ _ _=>rfl,fun _ _ _=>rfl,?_,fun _ _=>rfl,?_,?_⟩
  .intro o x J;simp[St.obj,wc] at J
  .intro o o' b C1 C2 y;simp[ρ] at y
  .intro o b C1 y;simp[ρ] at y
 have M:AT P B C.n [] ⟨vw s.ps d 0,[]⟩ {tmps:=vals.toArray++Array.replicate (fn.ntmps-vals.toArray.size) undef,defers:=[]} w:=by
  refine⟨_,(aT _).symm,rfl,by simp;omega,ρ,hS,?_,fun o p _ j=>by simp[ρ] at j,fun _ _ j=>j⟩;intro k v hk;obtain⟨x,y,h2⟩:=yT (P:=P) (ρ:=ρ) s.ps vals d 0 hp k v hk;rw[mY (x:=x) (by simpa using y)];exact h2
 have hL0:LvR B B [] ():=⟨⟨rfl,rfl,rfl,jj _,jj _,fun _ _ h=>h,fun b _ h=>⟨rfl,rfl,h⟩,fun b h=> .inr h,rfl,rfl⟩,List.nodup_nil,fun x J=>by simp at J⟩;refine vR (r:=none) hC hm (A d) hk (LvR B) (N B).1 (N B).2 body _ () _ _ _ w B [] (bi _ _ (h d) R) hL0 M (fun e σ ys a' w' B' ds hE Z hL hR=> ?_);obtain⟨G,rfl,q1,q2,ρ',q3,q4,q5⟩:=hR;obtain⟨i,Q⟩:=hL;have E:(match FW C σ s.rs fn.results.toList with|some r=>r=s.F d|none=>False)->LeavesInM Fence.wide 0 P fn (dg ds G).tmps (jbm H w s.rs (s.F d)) (dg ds G).defers .returning w':=by
  intro hr
  split at hr
  case h_2=>exact hr.elim
  rename_i r S;have ed:(dg ds G).defers=ds:=(by simp[dg,q1]);have et:(dg ds G).tmps=G.tmps:=rfl;rw[ed,et];obtain⟨L,hf1⟩:∃L,L=IK C σ s.rs fn.results.toList:=⟨_,rfl⟩;obtain⟨u,g,hle,hblk,hln⟩:=wF (σ:=σ) L q3;have z:∀x,x∈ds->∃D,x={target:= .collected D,args:= #[]}/\w.heap.size<=D/\D∉B'.bor/\D<B'.w.heap.size/\w'.heap[D]? =some (.deferred (some [])):=by
   intro x J;obtain⟨D,e,T,V,K⟩:=Q.2 x J;have O:=(jw.1 K).1;exact⟨D,e,T,V,O,(g.old D O V).trans K⟩
  refine ri ds w' Q.1 (fun x J=> ?_) (fun w2 g1 g2 g3 X g4 Y=> ?_)
  .obtain⟨D,e,_,_,_,h⟩:=z x J;exact⟨D,e,h⟩
  have q:∀b,b<w.heap.size->({target:= .collected b,args:= #[]}:Deferred)∉ds:=by
   intro b j m;obtain⟨D,e,T,_⟩:=z _ m;simp at e;omega
  have t:∀o b W,u.blk o=some (some (b,W))->({target:= .collected b,args:= #[]}:Deferred)∉ds:=by
   intro o b W j m;obtain⟨D,e,_,_,_,h⟩:=z _ m;simp at e;subst e;exact(CF (σ:=σ.frz L) g j).2 _ h
  have l:ir u.H w2:=by
   refine⟨fun b c hc=> ?_,g.good.2⟩;have y:=g.good.1 b c hc;rw[Y b (fun m=> ?_)]
   .exact y
   .obtain⟨D,e,_,_,_,h⟩:=z _ m;simp at e;subst e;rw[h] at y;exact pA y
  have hS3:=ou (σ:=σ.frz L) g l (fun _ _ h=>h) (fun o b W j=>⟨Y b (t o b W j),rfl⟩);have hd:∀k,SV.den P {u with H:=u.H} (σ.get k) (G.tmps.getD k undef):=by
   intro k;have:=wu (P:=P) (a:=G) q4 (.tmp k);exact SV.den_mono hle _ _ (fun o ho=>by simp at ho) this
  obtain⟨vs,e1,e2⟩:=iQ hC hS3 (v6 σ _) hd s.rs _ _ S (fun o ho=>by rw[hf1];exact ho);refine⟨_,gM e1,⟨_,u.H,rfl,⟨⟨g1.trans (g.os.trans i.os),g2.trans (g.tape.trans i.tape),g3.trans (g.output.trans i.output),?_,fun b j=> ?_⟩,l,fun b j=> ?_,jF (jF i.drawn g.drawn) X⟩,?_⟩⟩
  .rw[g4];exact jF i.size g.size
  .obtain⟨T,V,K⟩:=i.old b j (by simp[B]);rw[Y b (q b j)];exact(g.old b (zB j i.size) K).trans T
  .obtain⟨T,V,K⟩:=i.old b j (by simp[B]);exact(g.oldH b (zB j i.size) K).trans V
  .rw[<-hr];exact OH e2
 cases e with
 |normal=>exact E Z
 |ret=>exact E Z
 |exit id=>exact Z.elim
end
end Go.X
namespace Go.X
open U
open Go.RowKit (Below)
open Go.Sort (HoldsK putRowK flatK SWO PermIn SortedIn)
theorem Ln {H:Imm}:∀(t:Ty) (f:Nat->Option Value) (d:t.Data),t.rd H f d->∀j,j<t.size->∃v,f j=some v/\v.oneCell'=true
 | .int,f,d,h,j,g=>by obtain rfl:j=0:=Nat.lt_one_iff.1 g;exact⟨_,h,rfl⟩
 | .bool,f,d,h,j,g=>by obtain rfl:j=0:=Nat.lt_one_iff.1 g;exact⟨_,h,rfl⟩
 | .uint _,f,d,h,j,g=>by obtain rfl:j=0:=Nat.lt_one_iff.1 g;exact⟨_,h,rfl⟩
 | .slice _,f,d,h,j,g=>by obtain rfl:j=0:=Nat.lt_one_iff.1 g;obtain⟨a,n,c,h,_⟩:=h;exact⟨_,h,rfl⟩
 | .map _ _,f,d,h,j,g=>by obtain rfl:j=0:=Nat.lt_one_iff.1 g;obtain⟨p,h,_⟩:=h;exact⟨_,h,rfl⟩
 | .ptr _,f,d,h,j,g=>by obtain rfl:j=0:=Nat.lt_one_iff.1 g;obtain⟨p,h,_⟩:=h;exact⟨_,h,rfl⟩
 | .unit,f,d,h,j,g=>by simp[Ty.size] at g
 | .pair a b,f,d,h,j,g=>by
  simp only[Ty.size] at g
  by_cases i:j<a.size
  exact Ln a f d.1 h.1 j i
  obtain⟨v,e,k⟩:=Ln b _ d.2 h.2 (j-a.size) (by omega)
  exact⟨v,by rw[<-e];congr 1;omega,k⟩
theorem OP {w w':World} (h:Below w.heap.size w w') (f:w.drawn<=w'.drawn):∃q d,w'=Go.Sort.grow (w.drewN q) d:=by
 refine⟨w'.drawn-w.drawn,w'.heap.extract w.heap.size w'.heap.size,?_⟩;obtain⟨a,e,b,d,c⟩:=w';have g:d=w.os:=h.os;have e2:e=w.tape:=h.tape;have i:c=w.output:=h.output;have n:w.heap.size<=a.size:=h.size;have j:∀k,k<w.heap.size->a[k]? =w.heap[k]? :=h.block;have f:w.drawn<=b:=f;subst g e2 i;have m:a=w.heap++a.extract w.heap.size a.size:=by
  apply Array.ext_getElem?;intro k;by_cases hk:k<w.heap.size;rw[zn hk];exact j k hk;rw[Array.getElem?_append_right (by omega),Array.getElem?_extract];by_cases l:k<a.size;rw[jd (by omega)];congr 1;omega;rw[jc (by omega),Array.getElem?_eq_none (by omega)]
 simp only[Go.Sort.grow,World.drewN];rw[show w.drawn+(b-w.drawn)=b by omega];congr 1
section
variable {t:Ty}
structure LE (H:Imm) (t:Ty) (l:List t.Data) where
 cs:List Value
 d:t.Data
 mem:d∈l
 len:cs.length=t.size
 rd:t.rd H (fun j=>cs[j]?) d
variable {H:Imm} {l:List t.Data}
theorem LE.one (x:LE H t l):∀v,v∈x.cs->v.oneCell'=true:=by
 intro v f;obtain⟨j,b,e⟩:=List.mem_iff_getElem.1 f;obtain⟨u,a,c⟩:=Ln t _ x.d x.rd j (by rw[<-x.len];exact b);rw[jr b,e] at a;simp at a;subst a;exact c
theorem LE.rv (a:t.agg=true) (x:LE H t l):t.rv H (.agg x.cs.toArray) x.d:=
 ⟨by rw[a];rfl,by show x.cs.toArray.size=_;simp[x.len],Ty.rd_congr t _ _ _ (fun j _=>by show x.cs[j]? =x.cs.toArray[j]?;simp) x.rd⟩
def cfL (F:(Ty.st [t,t]).Data->(Ty.st [.int]).Data) (x y:LE H t l):Int:=(F (x.d,y.d,())).1
theorem ltL {F:(Ty.st [t,t]).Data->(Ty.st [.int]).Data} (x y:LE H t l):Go.Proofs.ltOf (cfL F) x y=kK t F x.d y.d:=rfl
theorem jgV {F:(Ty.st [t,t]).Data->(Ty.st [.int]).Data} (h:vB (kK t F) l):SWO (Go.Proofs.ltOf (cfL F:LE H t l->LE H t l->Int)) where
 irrefl x:=by rw[ltL];exact h.irrefl _ x.mem
 trans x y z h1 h2:=by rw[ltL] at*;exact h.trans _ _ _ x.mem y.mem z.mem h1 h2
 ntrans x y z h1 h2:=by rw[ltL] at*;exact h.ntrans x.mem y.mem z.mem h1 h2
variable [Inhabited (LE H t l)]
theorem Eb {w:World} {b n:Nat} {d:Array (LE H t l)} {os:Array Obj}:w.grownBy (Go.Proofs.sortWorldK LE.cs t.size w b 0 n d os) (some b):=by
 refine⟨rfl,rfl,rfl,?_,fun k hk c=> ?_⟩;unfold Go.Proofs.sortWorldK Go.Sort.grow Go.Sort.putRowK Go.Sort.putRow Go.Sort.mapBlock Go.Sort.ahead;simp;have a:b≠k:=fun e=>c (by rw[e])
 unfold Go.Proofs.sortWorldK Go.Sort.grow Go.Sort.putRowK Go.Sort.putRow Go.Sort.mapBlock Go.Sort.ahead;simp only;rw[zn (by simpa using hk),zC,jc a]
theorem OQ {w:World} {b n:Nat} {d:Array (LE H t l)} {os:Array Obj}:w.drawn<=(Go.Proofs.sortWorldK LE.cs t.size w b 0 n d os).drawn:=by
 unfold Go.Proofs.sortWorldK Go.Sort.grow Go.Sort.putRowK Go.Sort.putRow Go.Sort.mapBlock Go.Sort.ahead;simp
theorem Lo {w:World} {b n:Nat} {d:Array (LE H t l)} {os:Array Obj} (f:ir H w) (i:H b=none):ir H (Go.Proofs.sortWorldK LE.cs t.size w b 0 n d os):=by
 refine⟨fun k c a=> ?_,f.2⟩;have g:=Eb (w:=w) (b:=b) (n:=n) (d:=d) (os:=os);have h:b≠k:=fun e=>by subst e;rw[i] at a;cases a
 rw[g.block k (f.lt a) (fun e=>h (by simp at e;exact e.symm))];exact f.1 k c a
theorem jcP {P:Program} (p:t.agg=true) {F:(Ty.st [t,t]).Data->(Ty.st [.int]).Data} {pre:(Ty.st [t,t]).Data->List Prop} {g:Nat} {j:Array Value} {w:World} {b size:Nat} (u:ir H w) (q:H b=none)
 (s:∀H' w vals x,(∀b c,H b=some c->H' b=some c)->ir H' w->rvs H' [t,t] vals x->vI (pre x)->Calls P g (vals.toArray++j) w (jbm H' w [.int] (F x)))
 (a:∀x,x∈l->∀y,y∈l->vI (pre (x,y,()))):Go.Proofs.CmpLays P g j (LE.cs:LE H t l->List Value) t.size (cfL F) b 0 size w:=by
 intro m os dk _ x y;have f:=Lo (n:=m) (d:=dk) (os:=os) u q;have:=s H _ [.agg x.cs.toArray,.agg y.cs.toArray] (x.d,y.d,()) (fun _ _ h=>h) f ⟨x.rv p,y.rv p,rfl⟩ (a _ x.mem _ y.mem);refine Calls.mono (R:=jbm H (Go.Proofs.sortWorldK LE.cs t.size w b 0 m dk os) [.int] (F (x.d,y.d,()))) this fun e w' r=> ?_
 obtain⟨v,H',rfl,o,i⟩:=r;refine⟨?_,OP o.below o.drawn⟩;have i:Ty.int.rv H' v (F (x.d,y.d,())).1:=i;have k:=w5 (t:= .int) rfl i;simp only[Ty.rd,jy] at k;rw[k];rfl
theorem jeI {w:World} {b E:Nat} {vs:Array Value} {d:Array (LE H t l)} (c:0<t.size) (m:w.heap[b]? =some (.cells vs E (0,0))) (n:∀(i:Nat) (y:LE H t l),d[i]? =some y->∀j,j<t.size->vs[i*t.size+j]? =y.cs[j]?):HoldsK LE.cs t.size w b 0 d:=by
 intro k hk;have a:k<d.size*t.size:=(by simpa using hk);have hi:k/t.size<d.size:=(Nat.div_lt_iff_lt_mul c).2 a;have h:=Nat.mod_lt k c;have e:=n (k/t.size) d[k/t.size]! (by rw[getElem!_pos d _ hi];exact jX hi) (k%t.size) h;rw[show k/t.size*t.size+k%t.size=k by rw[Nat.mul_comm];exact Nat.div_add_mod k t.size] at e;have g:=d[k/t.size]!.len;obtain⟨u,f,o⟩:=Ln t _ _ d[k/t.size]!.rd (k%t.size) h;rw[Go.Sort.get_flatK _ _ _ k a,zI,Dh m,e];refine⟨?_,by simp[World.frozen?,m]⟩;rw[f,getElem!_def,f]<;>rfl
theorem OR {w:World} {b n E:Nat} {vs:Array Value} {d:Array (LE H t l)} {os:Array Obj} (f:0<t.size) (m:w.heap[b]? =some (.cells vs E (0,0))) (q:d.size*t.size<=vs.size):
 ∃a:Array Value,(Go.Proofs.sortWorldK LE.cs t.size w b 0 n d os).heap[b]? =some (.cells a E (0,0))/\a.size=vs.size/\∀(i:Nat) (y:LE H t l),d[i]? =some y->∀j,j<t.size->a[i*t.size+j]? =y.cs[j]? :=by
 have e:b<w.heap.size:=(jw.1 m).1;refine⟨Go.Sort.putCells id 0 (flatK LE.cs t.size d) vs,?_,by simp[Go.Sort.putCells],fun i y g j c=> ?_⟩;unfold Go.Proofs.sortWorldK Go.Sort.grow Go.Sort.putRowK Go.Sort.putRow Go.Sort.mapBlock Go.Sort.ahead;simp only;rw[zn (by simpa using e),zC,jd rfl,m];rfl;have hi:i<d.size:=(jw.1 g).1;have k:i*t.size+j<d.size*t.size:=by
  have:(i+1)*t.size<=d.size*t.size:=jO _ hi;rw[zl] at this;omega
 have r:i*t.size+j<vs.size:=(by omega);have o:(i*t.size+j)/t.size=i:=by
  rw[Nat.mul_comm,Nat.mul_add_div f,Nat.div_eq_of_lt c,zM]
 have p:(i*t.size+j)%t.size=j:=by
  rw[Nat.mul_comm,Nat.mul_add_mod,Nat.mod_eq_of_lt c]
 unfold Go.Sort.putCells;rw[Array.getElem?_mapIdx,jX r];simp only[Option.map_some,jt,zI,true_and,Go.Sort.size_flatK,k,if_true,Nat.sub_zero,id];rw[Go.Sort.get_flatK _ _ _ _ k,o,p];have:d[i]! =y:=by
  rw[getElem!_pos d i hi];rw[jX hi] at g;simpa using g
 rw[this];obtain⟨u,h,_⟩:=Ln t _ _ y.rd j c;rw[h,getElem!_def,h]<;>rfl
theorem OS {F:(Ty.st [t,t]).Data->(Ty.st [.int]).Data} (m:vB (kK t F) l) {d a:Array (LE H t l)} (k:d.toList.map LE.d=l) (n:PermIn 0 d.size d a) (o:SortedIn (Go.Proofs.ltOf (cfL F)) 0 d.size a):
 a.toList.map LE.d=kG (kK t F) l:=by
 obtain⟨p,_,q⟩:=n;have b:a.toList.Perm d.toList:=by
  have h:d.extract 0 d.size=d:=(by simp);have e2:a.extract 0 d.size=a:=by rw[<-p];simp
  rwa [h,e2] at q
 have f:=b.map LE.d;rw[k] at f;refine tJ m f ?_;unfold SY;rw[zq];intro i j hi g c;simp only[zc,zb] at hi g;have e:=o i j (jt _) c (by omega);rw[ltL,getElem!_pos a j g,getElem!_pos a i hi] at e;simpa using e
end
theorem Ec {P:Program} {q:Go.Shelf.Ren} (L:Go.Proofs.SlLaysF0.n6 P q) {t:Ty} (E:Nat) (ht:t.agg=true) (Q:0<t.size) (aE:∀w,(isAgg (q.t 24)).run P w= .ok true w) (zE:∀w,(Go.sizeOf (q.t 24)).run P w= .ok t.size w)
 (hen:enters P (q.f 6)):ga P (q.f 6) (Wd t E):=by
 refine⟨hen,fun H w vals d bs hg c M O=> ?_⟩;obtain⟨l,u,⟨⟩⟩:=d;obtain⟨Y,W,_⟩:=O;have Y:∀x,x∈l->∀y,y∈l->vI (u.pre (x,y,())):=fun x T y o=>(Rt _).1 (Y x T y o)
 have W:vB (kK t u.F) l:=W
 match vals,c with
 |[],c=>exact c.elim
 |[_],c=>obtain⟨_,_,_,_,c⟩:=c;exact c.elim
 |v::fv::_::_,c=>
  obtain⟨_,_,_,_,_,_,_,_,c⟩:=c;have:=c.1;cases this
 |[v,fv],c=>
  obtain⟨X,b2,rfl,J,c1,c2,rfl,⟨hfv,rfl⟩,_,rfl⟩:=c;simp only[jY] at M⊢;have ha0:ClV H w (.row E t .unk) v l X:=J;obtain⟨A,B⟩:=J;obtain⟨g,cb,rfl,hge,G⟩:=hfv;by_cases I:l=[];subst I;obtain⟨p,D,rfl⟩:∃p D,v= .slice p 0 D:=by
   rcases B with⟨rfl,_⟩|⟨b,C,vs,rfl,_⟩;exact⟨_,_,rfl⟩;exact⟨_,_,rfl⟩
  refine(Go.Proofs.AnyF.slices_SortFunc_none L p D (.func (.func g) #[] cb) w).mono fun e w' he=> ?_
  obtain⟨rfl,rfl⟩:=he;exact⟨[],H,[],X,rfl,⟨rfl,rfl,rfl,jj _,jj _,fun _ _ _=>rfl,fun _ _ _=>rfl,hg⟩,⟨rfl,rfl⟩,⟨X,[],by simp,ha0,rfl⟩,by simpa using M,fun b hb=> .inl (by simpa using hb)⟩;rcases B with⟨_,e,_⟩|⟨b,C,vs,rfl,rfl,hH,_,hw,S,s,Z,hr⟩;exact absurd e I;have s:l.length<=C:=s;have h:∀i,i<l.length->∀j,j<t.size->i*t.size+j<vs.size:=by
   intro i hi j z;have h3:(i+1)*t.size<=C*t.size:=jO _ (by omega);rw[zl] at h3;omega
  let mk:(i:Fin l.length)->LE H t l:=fun i=>⟨(List.range t.size).map (fun j=>vs[i.1*t.size+j]?.getD undef),l[i.1],List.getElem_mem _,by simp,by
   refine Ty.rd_congr t _ _ _ (fun j z=> ?_) (hr i.1 l[i.1] (jr i.2));rw[z7,List.getElem?_range z,Option.map_some,jX (h i.1 i.2 j z)];rfl⟩
  haveI:Inhabited (LE H t l):=⟨mk ⟨0,Nat.pos_of_ne_zero (fun e=>I (zk e))⟩⟩
  obtain⟨d,r,hdm,hdc⟩:∃d:Array (LE H t l),d.size=l.length/\d.toList.map LE.d=l/\∀(i:Nat) (y:LE H t l),d[i]? =some y->∀j,j<t.size->vs[i*t.size+j]? =y.cs[j]? :=by
   refine⟨Array.ofFn mk,by simp,?_,fun i y o j z=> ?_⟩;apply List.ext_getElem;simp;intro i hi1 hi2;simp[mk];have hi:i<l.length:=(by have:=(jw.1 o).1;simpa using this);have:mk ⟨i,hi⟩=y:=by
    have:=(jw.1 o).2;simpa using this
   subst this;show _=((List.range t.size).map (fun j=>vs[i*t.size+j]?.getD undef))[j]?;rw[z7,List.getElem?_range z,Option.map_some,jX (h i hi j z)];rfl
  have key:=Go.Proofs.AnyQ.slices_SortFunc L t.size aE zE (LE.cs:LE H t l->List Value) LE.len (fun x=>x.one) (cfL u.F) (jgV W) g cb b 0 C d w hge (jcP ht hg hH G Y) (jeI Q hw hdc) (jw.1 hw).1 (by rw[r];exact A);rw[r] at key;refine Calls.mono (R:=_) key fun e w' he=> ?_
  obtain⟨rfl,V,n,os,hp,hs,rfl⟩:=he;rw[<-r] at hp hs;have N:=OS W hdm hp hs;have K:V.size=d.size:=hp.1;obtain⟨vs2,k1,k2,k3⟩:=OR (n:=n) (os:=os) (d:=V) Q hw (by
   rw[K,r,S];exact jO _ s)
  have m:=Eb (w:=w) (b:=b) (n:=n) (d:=V) (os:=os);have a:(kG (kK t u.F) l).length=l.length:=(wJ _).length_eq;refine⟨[],H,[],[b],rfl,⟨m.os,m.tape,m.output,OQ,m.size,fun k hk hb=>m.block k hk (fun e=>by simp at e;subst e;simp at hb),fun _ _ _=>rfl,Lo hg hH⟩,⟨rfl,rfl⟩,⟨[b],[],rfl,?_,rfl⟩,by simp,fun b' hb'=> .inl (by simpa using hb')⟩;show ClV H _ (.row E t .unk) _ (kG (kK t u.F) l) [b];refine⟨by rw[a];exact A,.inr ⟨b,C,vs2,by rw[a],rfl,hH,(fun e=>by cases e),k1,by rw[k2];exact S,by rw[a];exact s,Z,fun i y o=> ?_⟩⟩;rw[<-N,z7,zr] at o;cases T:V[i]? with
  |none=>rw[T] at o;cases o
  |some x=>
   rw[T] at o;simp at o;subst o;exact Ty.rd_congr t _ _ _ (fun j z=>(k3 i x T j z).symm) x.rd
end Go.X
namespace Go.X
open U
open Go.RowKit (Below)
open Go.Sort (Holds putRow)
namespace U
def FD (l:List Int):List Int:=l.mergeSort fun x y=>decide (x<=y)
end U
theorem HI (l:List Int):(FD l).Perm l:=List.mergeSort_perm l _
def Wf (E:Nat):qC:=⟨[.own (.cl (.row E .int .unk)) true],[],fun _=>[],fun d=>((),(FD d.1,()))⟩
theorem ZD {P:Program} {B:Go.Shelf.Ren} (L:Go.Proofs.Lays.n189 P B) (E:Nat) (hen:enters P (B.f 189)):ga P (B.f 189) (Wf E):=by
 refine⟨hen,fun H w vals d bs O j K _=> ?_⟩;obtain⟨l,⟨⟩⟩:=d
 match vals,j with
 |[],j=>exact j.elim
 |v::fv::_,j=>
  obtain⟨_,_,_,_,j⟩:=j;have:=j.1;cases this
 |[v],j=>
  obtain⟨N,b2,rfl,F,_,rfl⟩:=j;simp only[jY] at K⊢;have V:ClV H w (.row E .int .unk) v l N:=F;obtain⟨h,q⟩:=F;have h:l.length<4611686018427387904:=h;by_cases I:l=[];subst I;obtain⟨p,r,rfl⟩:∃p r,v= .slice p 0 r:=by
   rcases q with⟨rfl,_⟩|⟨b,C,vs,rfl,_⟩;exact⟨_,_,rfl⟩;exact⟨_,_,rfl⟩
  refine(Go.Proofs.Any.slices_Sort_int_none L p r w).mono fun e w' he=> ?_
  obtain⟨rfl,rfl⟩:=he;exact⟨[],H,[],N,rfl,⟨rfl,rfl,rfl,jj _,jj _,fun _ _ _=>rfl,fun _ _ _=>rfl,O⟩,⟨rfl,rfl⟩,⟨N,[],by simp,(by
   have e0:FD []=[]:=List.perm_nil.1 (HI []);show ClV H _ (.row E .int .unk) _ (FD []) N;rw[e0];exact V),rfl⟩,by simpa using K,fun b G=> .inl (by simpa using G)⟩
  rcases q with⟨_,e,_⟩|⟨b,C,vs,rfl,rfl,hH,_,Q,A,u,S,hr⟩;exact absurd e I;have u:l.length<=C:=u;have A:vs.size=C:=(by rw[A];exact Nat.mul_one C);have s:∀(i:Nat) (y:Int),l[i]? =some y->vs[i]? =some (.int .i64 y):=fun i y o=>by
   have:=hr i y o;simpa[Ty.rd,Ty.size] using this
  have J:b<w.heap.size:=(jw.1 Q).1;refine Calls.mono (R:=_) (Go.Proofs.Any.slices_Sort_int L b 0 C l w ?_ J h) fun e w' he=> ?_
  intro i hi;have hi:i<l.length:=(by simpa using hi);have h1:=s i l[i] (jr hi);rw[zI,Dh Q,h1];refine⟨?_,by simp[World.frozen?,Q]⟩;simp[getElem!_pos l.toArray i (by simpa using hi)];obtain⟨rfl,n,os,rfl⟩:=he;have a:(FD l).length=l.length:=(HI _).length_eq;obtain⟨d,Y⟩:∃d,d=FD l:=⟨_,rfl⟩;have Z:(l.mergeSort fun x y=>decide (x<=y))=d:=(by rw[Y];rfl);rw[Z];rw[<-Y] at a;obtain⟨W,T⟩:∃W,W=Go.Sort.grow (putRow (Value.int .i64) (Go.Sort.ahead w n) b 0 d.toArray) os:=⟨_,rfl⟩;rw[<-T];have g:w.grownBy W (some b)/\w.drawn<=W.drawn:=by
   rw[T];refine⟨⟨rfl,rfl,rfl,?_,fun k hk G=> ?_⟩,?_⟩;unfold Go.Sort.grow Go.Sort.putRow Go.Sort.mapBlock Go.Sort.ahead;simp;have z:b≠k:=fun e=>G (by rw[e])
   unfold Go.Sort.grow Go.Sort.putRow Go.Sort.mapBlock Go.Sort.ahead;simp only;rw[zn (by simpa using hk),zC,jc z];unfold Go.Sort.grow Go.Sort.putRow Go.Sort.mapBlock Go.Sort.ahead;simp
  have M:∃D:Array Value,W.heap[b]? =some (.cells D E (0,0))/\D.size=vs.size/\∀(i:Nat) (y:Int),d[i]? =some y->D[i]? =some (.int .i64 y):=by
   rw[T];refine⟨Go.Sort.putCells (Value.int .i64) 0 d.toArray vs,?_,by simp[Go.Sort.putCells],fun i y o=> ?_⟩;unfold Go.Sort.grow Go.Sort.putRow Go.Sort.mapBlock Go.Sort.ahead;simp only;rw[zn (by simpa using J),zC,jd rfl,Q];rfl;have hi:i<d.length:=(jo.1 o).1;unfold Go.Sort.putCells;rw[Array.getElem?_mapIdx,jX (show i<vs.size by omega)];have e:d.toArray[i]! =y:=by
    rw[getElem!_pos d.toArray i (by simpa using hi)];rw[jr hi] at o;simpa using o
   simp[hi];rw[jr hi] at o;simpa using o
  obtain⟨vs2,k1,k2,k3⟩:=M;have t:ir H W:=by
   refine⟨fun k c m=> ?_,O.2⟩;have z:b≠k:=fun e=>by subst e;rw[hH] at m;cases m
   rw[g.1.block k (O.lt m) (fun e=>z (by simp at e;exact e.symm))];exact O.1 k c m
  refine⟨[],H,[],[b],rfl,⟨g.1.os,g.1.tape,g.1.output,g.2,g.1.size,fun k hk G=>g.1.block k hk (fun e=>by simp at e;subst e;simp at G),fun _ _ _=>rfl,t⟩,⟨rfl,rfl⟩,⟨[b],[],rfl,?_,rfl⟩,by simp,fun b' X=> .inl (by simpa using X)⟩;show ClV H _ (.row E .int .unk) _ (FD l) [b];rw[<-Y];refine⟨by rw[a];exact h,.inr ⟨b,C,vs2,by rw[a],rfl,hH,(fun e=>by cases e),k1,by rw[k2,A];exact(Nat.mul_one C).symm,by rw[a];exact u,S,fun i y o=> ?_⟩⟩;have:=k3 i y o;simpa[Ty.rd,Ty.size] using this
end Go.X
