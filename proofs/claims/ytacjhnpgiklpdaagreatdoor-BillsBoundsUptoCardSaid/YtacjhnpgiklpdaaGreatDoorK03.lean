/-
  Part 3 of the road: a checked reading of bodies, and what the functions on it do (X24 X27 X28 X29 X30 X31 X32 X33 X34 X35 X36 X37 X38 X39 X40 X41 X42 X43 X44 X47 X45 X46).
-/
import Derived.Test.YtacjhnpgiklpdaaGreatDoorK02
import Derived.Laws.StructEq
import Derived.ChangeKeysEq
import Derived.TacticsIn
import Derived.OrdersIn
import Derived.RangeFuncIn
import Derived.RangeFuncRecord
import Derived.RangeFuncSeq
import Derived.RangeFuncLeaves
import Derived.Shelf.SlSortCmp.NoneTotal
import Derived.Shelf.SlSortCmp.WholeK
import Derived.Shelf.Sort.Plain
import Derived.Shelf.Slices.In.SortNone
namespace Go.X
open Go.RowKit (Below)
def fg (a b:IntKind):Bool:=decide (a=b)
def F5:Value->Value->Bool
 | .int k n,.int k' e=>(match fg k k' with|true=>decide (n=e)|false=>false)
 | .bool b,.bool c=>(match b,c with|true,true=>true|false,false=>true|_,_=>false)
 | .slice none a b,.slice none d c=>(match Nat.beq a d,Nat.beq b c with|true,true=>true|_,_=>false)
 | .pointer none,.pointer none=>true
 | .map none,.map none=>true
 | .nilFunc,.nilFunc=>true
 | .nilIface,.nilIface=>true
 |_,_=>false
theorem fh {a b:Value} (h:F5 a b=true):a=b:=by
 unfold F5 at h
 split at h
 split at h
 rename_i hk;simp[fg] at hk h;rw[hk,h];cases h;rename_i x y;cases x<;>cases y<;>simp_all
 split at h
 rename_i c d;rw[ja c,ja d];cases h;rfl;rfl;rfl;rfl;cases h
def NG:List Value->List Value->Bool
 |[],[]=>true
 |a::r,b::s=>(match F5 a b with|true=>NG r s|false=>false)
 |_,_=>false
theorem H4:∀{a b:List Value},NG a b=true->a=b
 |[],[],_=>rfl
 |a::r,b::s,h=>by
  simp only[NG] at h
  split at h
  rename_i c;rw[fh c,H4 h]
  cases h
 |[],_::_,h=>by cases h
 |_::_,[],h=>by cases h
def jaS:Bool->Bool->Bool
 |true,true=>true
 |false,false=>true
 |_,_=>false
theorem RM {a b:Bool} (h:jaS a b=true):a=b:=by cases a<;>cases b<;>simp_all [jaS]
def mm:List Field->List (Nat×Nat)->Bool
 |[],[]=>true
 |f::r,p::s=>(match Nat.beq f.offset p.1,Nat.beq f.type p.2 with|true,true=>mm r s|_,_=>false)
 |_,_=>false
theorem pR:∀{a:List Field} {b:List (Nat×Nat)},mm a b=true->a.length=b.length/\∀(k:Nat) (p:Nat×Nat),b[k]? =some p->∃f:Field,a[k]? =some f/\f.offset=p.1/\f.type=p.2
 |[],[],_=>⟨rfl,fun k p h=>by simp at h⟩
 |f::r,q::s,h=>by
  simp only[mm] at h
  split at h
  rename_i d e
  obtain⟨c,e2⟩:=pR h
  refine⟨by simp[c],fun k p hk=> ?_⟩
  cases k with
  |zero=>simp at hk;subst hk;exact⟨f,by simp,ja d,ja e⟩
  |succ k=>simpa using e2 k p (by simpa using hk)
  cases h
 |[],_::_,h=>by cases h
 |_::_,[],h=>by cases h
def H5 (P:Program) (go:Nat->Ty->Bool):List Field->Nat->Ty->Bool
 |[],_,.unit=>true
 |f::fs,off,.pair a b=>match f.name== "_",Nat.beq f.offset off,P.info? f.type,go f.type a with
  |false,true,some i,true=>(match Nat.beq i.size a.size with|true=>H5 P go fs (off+a.size) b|false=>false)
  |_,_,_,_=>false
 |_,_,_=>false
def du (P:Program):Nat->Nat->Ty->Bool
 |0,_,_=>false
 |d+1,T,ty=>match ty,P.underlying T with
  | .int,some (.int .i64)=>true
  | .bool,some .bool=>true
  | .uint k,some (.int k')=>fg k k'
  | .pair a b,some (.struct fs)=>(match P.stoodInHeld T with|false=>H5 P (du P d) fs.toList 0 (.pair a b)|true=>false)
  |_,_=>false
section
variable {P:Program}
def WZ (P:Program) (D T:Nat) (ty:Ty):Prop:=∀(H:Imm) (w:World) (x y:Value) (a b:ty.Data),ty.rv H x a->ty.rv H y b->(Op.equalIn D T x y).run P w= .ok (@decide (a=b) (ty.decEq a b)) w
theorem NH {a b:Ty} (x y:(Ty.pair a b).Data): @decide (x=y) ((Ty.pair a b).decEq x y)=(@decide (x.1=y.1) (a.decEq _ _)&& @decide (x.2=y.2) (b.decEq _ _)):=by
 have e:= @Prod.ext_iff _ _ x y;by_cases c:x.1=y.1<;>by_cases d:x.2=y.2
 rw[@jI _ (_) (e.2 ⟨c,d⟩),@jI _ (_) c,@jI _ (_) d];rfl;rw[@za _ (_) (fun h=>d (e.1 h).2),@jI _ (_) c,@za _ (_) d];rfl;rw[@za _ (_) (fun h=>c (e.1 h).1),@za _ (_) c];rfl;rw[@za _ (_) (fun h=>c (e.1 h).1),@za _ (_) c];rfl
theorem RN {d T:Nat} {ty:Ty} (h:du P d T ty=true) (w:World):(isAgg T).run P w= .ok ty.agg w:=by
 cases d with
 |zero=>cases h
 |succ d=>
  unfold du at h
  split at h
  rename_i e;simp[isAgg,jB e,Ty.agg];rename_i e;simp[isAgg,jB e,Ty.agg];rename_i e;simp[isAgg,jB e,Ty.agg];rename_i e;simp[isAgg,jB e,Ty.agg];cases h
theorem K5 {d T off:Nat} {ty:Ty} {i:TypeInfo} (h:du P d T ty=true) (hi:P.info? T=some i) (k:i.size=ty.size) {H:Imm} {xs:Array Value} {x:ty.Data} (f:ty.rd H (fun j=>xs[off+j]?) x)
 (e:off+ty.size<=xs.size) (w:World):∃v,(part T xs off).run P w= .ok v w/\ty.rv H v x:=by
 have c:=RN h w;have e2:(sizeOf T).run P w= .ok ty.size w:=(by simp[sizeOf,typeInfo,hi,k]);cases b:ty.agg with
 |true=>
  refine⟨.agg (xs.extract off (off+ty.size)),?_,?_,?_,?_⟩;rw[b] at c;simp[part,c,e2];simp[vF,b];simp[Value.cells];omega;refine Ty.rd_congr ty _ _ _ (fun j g=> ?_) f;simp only[Value.cells];rw[Array.getElem?_extract];rw[jh (by omega)]
 |false=>
  have l:ty.size=1:=by
   cases d with
   |zero=>cases h
   |succ d=>
    unfold du at h
    split at h<;>first|(cases h;done)|rfl|(simp[Ty.agg] at b;done)
  have a:xs[off]? =some xs[off]:=jR (by omega);refine⟨xs[off],?_,?_⟩;rw[b] at c;simp[part,c,a];exact vp b (Ty.rd_congr ty _ _ _ (fun j g=>by
   have:j=0:=(by omega);subst this;simp[a]) f)
theorem Bm {d D:Nat} (e:∀T ty,du P d T ty=true->WZ P D T ty) {H:Imm} {xs ys:Array Value} (w:World):∀(fs:List Field) (off:Nat) (ty:Ty),H5 P (du P d) fs off ty=true->
 ∀x y:ty.Data,ty.rd H (fun j=>xs[off+j]?) x->ty.rd H (fun j=>ys[off+j]?) y->off+ty.size<=xs.size->off+ty.size<=ys.size->
  (Op.eqFields D xs ys fs).run P w= .ok (@decide (x=y) (ty.decEq x y)) w
 |[],off,ty,h,x,y,k,l,_,_=>by
  cases ty with
  |unit=>simp[Op.eqFields]
  |_=>cases h
 |f::fs,off,ty,h,x,y,k,l,hlx,hly=>by
  cases ty with
  |pair a b=>
   simp only[H5] at h
   split at h
   case h_2=>cases h
   rename_i i o p n g
   split at h
   case h_2=>cases h
   rename_i q
   have m:=ja q
   have e2:=ja p
   simp only[Ty.size] at hlx hly
   obtain⟨v,t,z⟩:=K5 (off:=off) g n m (xs:=xs) (x:=x.1) k.1 (by omega) w
   obtain⟨u,A,B⟩:=K5 (off:=off) g n m (xs:=ys) (x:=y.1) l.1 (by omega) w
   have r:=e _ _ g H w v u x.1 y.1 z B
   have s:=Bm e w fs (off+a.size) b h x.2 y.2 (by
    refine Ty.rd_congr b _ _ _ (fun j _=> ?_) k.2
    rw[zH]) (by
    refine Ty.rd_congr b _ _ _ (fun j _=> ?_) l.2
    rw[zH]) (by omega) (by omega)
   have c:f.name≠ "_":=by simpa using o
   rw[NH]
   unfold Op.eqFields
   rw[jh c,e2]
   simp only[jA,t,A,r,jm,Sem.run_ite]
   cases C: @decide (x.1=y.1) (a.decEq x.1 y.1) with
   |true=>simpa using s
   |false=>simp
  |_=>cases h
theorem oc:∀(d:Nat) (T:Nat) (ty:Ty) (m:Nat),du P d T ty=true->WZ P (d+m) T ty
 |0,_,_,_,h=>by cases h
 |d+1,T,ty,m,h=>by
  intro H w x y a b c f
  rw[show d+1+m=(d+m)+1 by omega]
  unfold du at h
  split at h
  .rename_i e
   rw[qk c,qk f,run_equalIn_int w _ _ _ _ _ _ e]
   congr 1
  .rename_i e
   rw[qC c,qC f,run_equalIn_bool' w _ _ _ _ e]
   congr 1
  .rename_i k k' e
   rw[yG c,yG f,run_equalIn_int w _ _ _ _ _ _ e]
   congr 1
  .rename_i t u fs e
   split at h
   case h_2=>cases h
   rename_i g
   have l:P.underlying T=some (.struct (P.fieldsOf T)):=by simp[Program.fieldsOf,e]
   have n:(P.fieldsOf T)=fs:=by simp[Program.fieldsOf,e]
   obtain⟨o,p,i⟩:=c
   obtain⟨q,r,j⟩:=f
   have agg:∀{v:Value},vF v=true->∃vs,v= .agg vs:=fun{v} h=>by cases v<;>simp_all [vF]
   obtain⟨xs,rfl⟩:=agg o
   obtain⟨ys,rfl⟩:=agg q
   rw[run_equalIn_struct w _ _ _ _ l g,n]
   simp only[Value.cells] at p i r j
   exact Bm (D:=d+m) (fun T ty h=>oc d T ty m h) w fs.toList 0 _ h a b (by simpa using i) (by simpa using j) (by omega) (by omega)
  .cases h
def zIs:Ty->List Value->Option (List Value)
 | .unit,l=>some l
 | .pair a b,l=>match zIs a l with|some r=>zIs b r|none=>none
 | .int,v::r=>match F5 v (.int .i64 0) with|true=>some r|false=>none
 | .uint k,v::r=>match F5 v (.int k 0) with|true=>some r|false=>none
 | .bool,v::r=>match F5 v (.bool false) with|true=>some r|false=>none
 | .slice _,v::r=>match F5 v (.slice none 0 0) with|true=>some r|false=>none
 | .map _ _,v::r=>match F5 v (.map none) with|true=>some r|false=>none
 | .ptr _,v::r=>match F5 v (.pointer none) with|true=>some r|false=>none
 |_,[]=>none
theorem RO (H:Imm):∀(t:Ty) (l r:List Value),zIs t l=some r->∃us,l=us++r/\us.length=t.size/\t.rd H (fun i=>us[i]?) t.dflt
 | .unit,l,r,h=>by simp[zIs] at h;subst h;exact⟨[],rfl,rfl,trivial⟩
 | .pair a b,l,r,h=>by
  simp only[zIs] at h
  split at h
  rename_i d e
  obtain⟨us,rfl,g,j⟩:=RO H a l d e
  obtain⟨vs,rfl,m,n⟩:=RO H b d r h
  refine⟨us++vs,by simp,by simp[Ty.size,g,m],?_,?_⟩
  exact Ty.rd_congr a _ _ _ (fun i hi=>by rw[jz (by omega)]) j
  refine Ty.rd_congr b _ _ _ (fun i hi=> ?_) n
  simp only
  rw[jv (by omega)]
  congr 1;omega
  cases h
 | .int,[],r,h=>by cases h
 | .uint _,[],r,h=>by cases h
 | .bool,[],r,h=>by cases h
 | .slice _,[],r,h=>by cases h
 | .map _ _,[],r,h=>by cases h
 | .ptr _,[],r,h=>by cases h
 | .int,v::l,r,h=>by
  simp only[zIs] at h
  split at h
  rename_i c;simp at h;subst h;rw[fh c];exact⟨[_],rfl,rfl,rfl⟩
  cases h
 | .uint k,v::l,r,h=>by
  simp only[zIs] at h
  split at h
  rename_i c;simp at h;subst h;rw[fh c];exact⟨[_],rfl,rfl,rfl⟩
  cases h
 | .bool,v::l,r,h=>by
  simp only[zIs] at h
  split at h
  rename_i c;simp at h;subst h;rw[fh c];exact⟨[_],rfl,rfl,rfl⟩
  cases h
 | .slice _,v::l,r,h=>by
  simp only[zIs] at h
  split at h
  rename_i c;simp at h;subst h;rw[fh c];exact⟨[_],rfl,rfl,Nr _⟩
  cases h
 | .map _ _,v::l,r,h=>by
  simp only[zIs] at h
  split at h
  rename_i c;simp at h;subst h;rw[fh c];exact⟨[_],rfl,rfl,none,rfl,fun _=>rfl,fun b f=>(by cases f)⟩
  cases h
 | .ptr _,v::l,r,h=>by
  simp only[zIs] at h
  split at h
  rename_i c;simp at h;subst h;rw[fh c];exact⟨[_],rfl,rfl,none,rfl,rfl⟩
  cases h
def W0:Value->Prop
 | .int _ _=>True
 | .bool _=>True
 |_=>False
theorem Dw {n:Nat} {v:Value} (h:W0 v):Instr.sameBits n v v=true:=by
 cases v<;>first|exact h.elim|(cases n<;>simp[Instr.sameBits])
section
variable {P:Program}
def XV (ty:Ty):Prop:=∀(H:Imm) (f g:Nat->Option Value) (d:ty.Data),ty.rd H f d->ty.rd H g d->∀i,i<ty.size->∃v,f i=some v/\g i=some v/\W0 v
theorem uu {go:Nat->Ty->Bool} (c:∀T ty,go T ty=true->XV ty):∀(fs:List Field) (off:Nat) (ty:Ty),H5 P go fs off ty=true->XV ty
 |[],off,ty,h=>by
  cases ty with
  |unit=>intro H f g d _ _ i hi;simp[Ty.size] at hi
  |_=>cases h
 |f::fs,off,ty,h=>by
  cases ty with
  |pair a b=>
   simp only[H5] at h
   split at h
   case h_2=>cases h
   rename_i i t u w q
   split at h
   case h_2=>cases h
   intro H p g d l m j r
   simp only[Ty.size] at r
   by_cases k:j<a.size
   .exact c _ _ q H p g d.1 l.1 m.1 j k
   .obtain⟨v,n,o,s⟩:=uu c fs _ b h H _ _ d.2 l.2 m.2 (j-a.size) (by omega)
    have e:a.size+(j-a.size)=j:=by omega
    rw[e] at n o
    exact⟨v,n,o,s⟩
  |_=>cases h
theorem H6:∀(d T:Nat) (ty:Ty),du P d T ty=true->XV ty
 |0,_,_,h=>by cases h
 |d+1,T,ty,h=>by
  unfold du at h
  split at h
  .intro H f g d a b i hi
   have:i=0:=by simp[Ty.size] at hi;exact hi
   subst this;exact⟨_,a,b,trivial⟩
  .intro H f g d a b i hi
   have:i=0:=by simp[Ty.size] at hi;exact hi
   subst this;exact⟨_,a,b,trivial⟩
  .intro H f g d a b i hi
   have:i=0:=by simp[Ty.size] at hi;exact hi
   subst this;exact⟨_,a,b,trivial⟩
  .split at h
   case h_2=>cases h
   exact uu (fun T ty h=>H6 d T ty h) _ _ _ h
  .cases h
def ZR (P:Program) (D T:Nat) (ty:Ty):Prop:=∀(H:Imm) (w:World) (x:Value) (a:ty.Data) (e:Bool),ty.rv H x a->(Instr.checkKey e D T x).run P w= .ok () w
theorem ES {d D:Nat} (g:∀T ty,du P d T ty=true->ZR P D T ty) {H:Imm} {xs:Array Value} (e:Bool) (w:World):∀(fs:List Field) (off:Nat) (ty:Ty),H5 P (du P d) fs off ty=true->
 ∀x:ty.Data,ty.rd H (fun j=>xs[off+j]?) x->off+ty.size<=xs.size->(forIn (m:=Sem) fs PUnit.unit (fun f _=>
  if f.name≠ "_" then do
   let l <-part f.type xs f.offset
   Instr.checkKey e D f.type l
   pure (ForInStep.yield PUnit.unit)
  else pure (ForInStep.yield PUnit.unit))).run P w= .ok PUnit.unit w
 |[],off,ty,h,x,k,_=>by simp
 |f::fs,off,ty,h,x,k,hlx=>by
  cases ty with
  |pair a b=>
   simp only[H5] at h
   split at h
   case h_2=>cases h
   rename_i i p q r n
   split at h
   case h_2=>cases h
   rename_i s
   have o:=ja s
   have e2:=ja q
   simp only[Ty.size] at hlx
   obtain⟨v,y,z⟩:=K5 (off:=off) n r o (xs:=xs) (x:=x.1) k.1 (by omega) w
   have t:=g _ _ n H w v x.1 e z
   have u:=ES g e w fs (off+a.size) b h x.2 (by
    refine Ty.rd_congr b _ _ _ (fun j _=> ?_) k.2
    rw[zH]) (by omega)
   have c:f.name≠ "_":=by simpa using p
   rw[List.forIn_cons]
   simp only[jA,jh c,e2,y,jm,t,jK]
   exact u
  |_=>cases h
theorem Bn:∀(d:Nat) (T:Nat) (ty:Ty) (m:Nat),du P d T ty=true->ZR P (d+m) T ty
 |0,_,_,_,h=>by cases h
 |d+1,T,ty,m,h=>by
  intro H w x a e b
  rw[show d+1+m=(d+m)+1 by omega]
  unfold du at h
  split at h
  .rename_i u
   rw[qk b];simp[Instr.checkKey,jB u]
  .rename_i u
   rw[qC b];simp[Instr.checkKey,jB u]
  .rename_i u
   rw[yG b];simp[Instr.checkKey,jB u]
  .rename_i t u fs f
   split at h
   case h_2=>cases h
   obtain⟨g,i,c⟩:=b
   have agg:∀{v:Value},vF v=true->∃vs,v= .agg vs:=fun{v} h=>by cases v<;>simp_all [vF]
   obtain⟨xs,rfl⟩:=agg g
   simp only[Value.cells] at i c
   have:=ES (D:=d+m) (fun T ty h=>Bn d T ty m h) e w fs.toList 0 _ h a (by simpa using c) (by omega)
   unfold Instr.checkKey
   simp only[jA,jB f,jm]
   rw[<-Array.forIn_toList,this]
   rfl
  .cases h
theorem Bo {H:Imm} (a:Int):∀(es:List MapEntry) (ks:List Int) (i:Nat),EA H .int es ks->Instr.findNow (.int .i64) (.int .i64 a) es i=some (aS .int a ks es i)
 |[],[],i,_=>rfl
 |[],_::_,_,h=>h.elim
 |_::_,[],_,h=>h.elim
 |e::es,k::ks,i,h=>by
  have b:=qk h.1
  simp only[Instr.findNow,b,Instr.sameNow,if_true,aS]
  by_cases hk:a=k
  have:(a==k)=true:=by simpa using hk
  rw[this,jh (by simpa using hk)]
  have:(a==k)=false:=by simpa using hk
  rw[this,jc (by simpa using hk)]
  exact Bo a es ks (i+1) h.2
theorem fT {H:Imm} {T:Nat} {ty:Ty} (b:du P 20 T ty=true) {x:Value} {a:ty.Data} (c:ty.rv H x a) (w:World):∀(es:List MapEntry) (ks:List ty.Data) (i:Nat),EA H ty es ks->
 (Instr.findAsking T x es i).run P w= .ok (aS ty a ks es i) w
 |[],[],i,_=>by simp[Instr.findAsking,aS]
 |[],_::_,_,h=>h.elim
 |_::_,[],_,h=>h.elim
 |e::es,k::ks,i,h=>by
  have d:(Op.equal T x e.key).run P w= .ok (@decide (a=k) (ty.decEq a k)) w:=oc 20 T ty 9980 b H w x e.key a k c h.1
  unfold Instr.findAsking aS
  simp only[jA,d,jm,Sem.run_ite]
  split
  simp
  exact fT b c w es ks (i+1) h.2
def XW (P:Program) (T:Nat) (ty:Ty):Bool:=match ty,P.underlying T with
 | .int,some (.int .i64)=>true
 | .pair _ _,some (.struct _)=>du P 20 T ty
 |_,_=>false
theorem K6 {T:Nat} {ty:Ty} (h:XW P T ty=true):
 (∀(H:Imm) (x:Value) (a:ty.Data) (w:World) (e:Bool),ty.rv H x a->(Instr.checkKey e 10000 T x).run P w= .ok () w)/\
 (∀(H:Imm) (es:List MapEntry) (ks:List ty.Data) (x:Value) (a:ty.Data) (w:World),ty.rv H x a->EA H ty es ks->(Instr.findKey T x es).run P w= .ok (aS ty a ks es 0) w)/\
 (∀(H:Imm) (x y:Value) (a:ty.Data),ty.rv H x a->ty.rv H y a->Instr.sameBits 10000 x y=true):=by
 unfold XW at h
 split at h
 rename_i m;have f:du P 20 T .int=true:=(by unfold du;rw[m]);refine⟨fun H x a w e b=>Bn 20 T .int 9980 f H w x a e b,fun H es ks x a w b hk=> ?_,fun H x y a b j=> ?_⟩;rw[qk b];simp only[Instr.findKey,jA,jB m,jm,Bo a es ks 0 hk,jK];rw[qk b,qk j];simp[Instr.sameBits];rename_i t u fs m;have f:=h;refine⟨fun H x a w e b=>Bn 20 T _ 9980 f H w x a e b,fun H es ks x a w b hk=> ?_,fun H x y a b j=> ?_⟩;have n:=fT f b w es ks 0 hk;simp only[Instr.findKey,jA,jB m,jm];cases es with
 |nil=>
  cases ks with
  |nil=>simp[Instr.findNow,aS]
  |cons k ks=>exact hk.elim
 |cons e es=>
  have:Instr.findNow (.struct fs) x (e::es) 0=none:=(by simp[Instr.findNow,Instr.sameNow]);rw[this];exact n
 have z:=H6 20 T _ f H;have agg:∀{v:Value},vF v=true->∃vs,v= .agg vs:=fun{v} h=>by cases v<;>simp_all [vF]
 obtain⟨xs,rfl⟩:=agg b.1;obtain⟨ys,rfl⟩:=agg j.1;have A:=b.2.1;have B:=j.2.1;simp only[Value.cells] at A B;have g:=z (fun i=>xs[i]?) (fun i=>ys[i]?) a b.2.2 j.2.2;have r:xs=ys:=by
  refine Array.ext (by omega) (fun i d l=> ?_);obtain⟨v,c,e2,_⟩:=g i (by omega);rw[jR d] at c;rw[jR l] at e2;simp at c e2;rw[c,e2]
 subst r;unfold Instr.sameBits;simp only[beq_self_eq_true,Bool.true_and,j6];intro p q;obtain⟨i,hi⟩:=zN q;rw[List.getElem?_zip_eq_some] at hi;obtain⟨d,l⟩:=hi;have e:p.1=p.2:=(by rw[d] at l;simpa using l);rw[<-e];have o:=(jo.1 d).1;obtain⟨v,c,_,s⟩:=g i (by simp at o;omega);have:xs.toList[i]? =some v:=(by simpa using c);rw[d] at this;simp at this;rw[this];exact Dw s;cases h
end
def pS (e:Nat):List (Nat×Nat)->Nat->Bool
 |[],_=>true
 |p::r,k=>match Nat.beq p.1 k,Nat.beq p.2 e with
  |true,true=>pS e r (k+1)
  |_,_=>false
theorem pT {e:Nat}:∀(l:List (Nat×Nat)) (k:Nat),pS e l k=true->∀(j:Nat) (p:Nat×Nat),l[j]? =some p->p=(k+j,e)
 |[],_,_,j,p,h=>by simp at h
 |q::l,k,h,j,p,hj=>by
  simp only[pS] at h
  split at h
  case h_2=>cases h
  rename_i a b
  cases j with
  |zero=>
   simp at hj;subst hj
   exact Prod.ext (ja a) (ja b)
  |succ j=>
   have:=pT l (k+1) h j p (by simpa using hj)
   rw[this];congr 1;omega
def XX (P:Program) (ti:TI) (n e:Nat):Bool:=Nat.beq e ti.elem&&(match P.info? e with|some ie=>Nat.beq ie.size 1|none=>false)&&Nat.beq ti.fields.length n&&Nat.beq ti.size n&&Nat.ble n 1000000&&pS e ti.fields 0
def uv:Ty->Nat->Bool
 | .unit,0=>true
 | .pair .int r,n+1=>uv r n
 |_,_=>false
theorem RP {e D:Nat} (f:P.underlying e=some (.int .i64)) (o:P.cellsOf e=1) {H:Imm} (w:World):∀(n off:Nat) (ty:Ty) (xs ys:Array Value) (x y:ty.Data),uv ty n=true->ty.rd H (fun j=>xs[off+j]?) x->ty.rd H (fun j=>ys[off+j]?) y->
 (Op.eqItems (D+1) e 1 xs ys (List.range' off n)).run P w= .ok (@decide (x=y) (ty.decEq x y)) w
 |0,off,ty,xs,ys,x,y,h,_,_=>by
  cases ty with
  |unit=>simp[Op.eqItems]
  |_=>simp[uv] at h
 |n+1,off,ty,xs,ys,x,y,h,i,k=>by
  cases ty with
  |pair a b=>
   cases a with
   |int=>
    simp only[uv] at h
    have l:xs[off]? =some (.int .i64 x.1):=by have:=i.1;simpa[Ty.rd] using this
    have m:ys[off]? =some (.int .i64 y.1):=by have:=k.1;simpa[Ty.rd] using this
    have p:=RP (D:=D) f o w n (off+1) b xs ys x.2 y.2 h (by
     refine Ty.rd_congr b _ _ _ (fun j _=> ?_) i.2
     simp only[Ty.size];rw[zH]) (by
     refine Ty.rd_congr b _ _ _ (fun j _=> ?_) k.2
     simp only[Ty.size];rw[zH])
    rw[List.range'_succ]
    have c:(isAgg e).run P w= .ok false w:=by simp[isAgg,jB f]
    have q:(part e xs (off*1)).run P w= .ok (.int .i64 x.1) w:=by simp[part,c,l]
    have r:(part e ys (off*1)).run P w= .ok (.int .i64 y.1) w:=by simp[part,c,m]
    simp only[Op.eqItems,jA,q,r,jm,run_equalIn_int w _ _ _ _ _ _ f]
    rw[NH]
    cases g:(x.1==y.1) with
    |true=>
     have d:x.1=y.1:=by simpa using g
     rw[@jI _ (_) d]
     simpa using p
    |false=>
     have d:x.1≠y.1:=by simpa using g
     rw[@za _ (_) d]
     simp
   |_=>simp[uv] at h
  |_=>simp[uv] at h
def F6:TypeDesc->Bool
 | .struct _=>true
 | .array _ _=>true
 | .interface _=>true
 |_=>false
def jaT (P:Program) (ti:TI):Bool:=
 match P.info? ti.id,P.underlying ti.id with
 |some i,some d=>match i.zero with
  |some z=>(Nat.beq i.size ti.size&&Nat.beq i.bytes ti.bytes&&NG z.cells.toList ti.zero&&jaS (vF z) ti.agg&&ti.zero.all (·.oneCell')&&Nat.beq ti.zero.length ti.size)&&
   (ti.fields.all fun p=>(P.info? p.2).isSome)&&
   (match ti.agg with
    |true=>(match ti.arr,d with|false,.struct fs=>mm fs.toList ti.fields|true,.array n e=>XX P ti n e|_,_=>false)&& !ti.sl
    |false=> !(F6 d)&& !ti.arr&&(match ti.sl,d with|true,.slice e=>Nat.beq e ti.elem|true,_=>false|false,_=>true)&&
     (match ti.ty,d with| .int,.int .i64=>true| .int,_=>false| .uint k,.int k'=>fg k k'| .uint _,_=>false|_,_=>true)&&(match ti.fields with|[]=>true|_=>false))&&
   (match qZ ti.ty with|true=>jaS ti.ty.agg ti.agg&&Nat.beq ti.ty.size ti.size&&Nat.ble 1 ti.size&&Nat.ble 1 ti.bytes|false=>true)&&
   (match ti.cmp with
    |true=>(match ti.arr with
     |true=>(match d with| .array n _=>uv ti.ty n|_=>false)&&(match P.underlying ti.elem with|some (.int .i64)=>true|_=>false)&& !(P.eqGuardType P.depth ti.id)
     |false=>(match ti.ty with| .pair _ _=> !(P.eqGuardType P.depth ti.id)| .bool=>true|_=>false)&&du P 20 ti.id ti.ty)
    |false=>true)&&
   (match ti.mp,d with|true,.map k e=>Nat.beq k ti.key&&Nat.beq e ti.elem|true,_=>false|false,_=>true)&&
   (match ti.pt,d with|true,.pointer _=>true|true,_=>false|false,_=>true)&&(match ti.fk,d with|true,.func _ _ _=>true|true,_=>false|false,_=>true)&&
   (match qZ ti.ty with|true=>(match zIs ti.ty ti.zero with|some []=>true|_=>false)|false=>true)&&
   (match ti.kq with|true=>XW P ti.id ti.ty|false=>true)
  |none=>false
 |_,_=>false
theorem XY {ti:TI} (h:jaT P ti=true):ti.ok P:=by
 unfold jaT at h
 split at h
 case h_2=>cases h
 rename_i i d hi G
 split at h
 case h_2=>cases h
 rename_i z hz;simp only[ji] at h;obtain⟨⟨⟨⟨⟨⟨⟨⟨⟨⟨⟨⟨⟨⟨a1,a2⟩,a3⟩,a4⟩,a5⟩,a6⟩,a7⟩,f⟩,E⟩,l⟩,s⟩,ap⟩,af⟩,B⟩,J⟩:=h;refine⟨⟨i,z,hi,ja a1,ja a2,hz,H4 a3,RM a4⟩,fun v hv=>j6.1 a5 v hv,ja a6,?_,?_,?_,?_,?_,?_,?_,?_,?_,?_,?_,?_,?_,?_⟩
 .intro o j;rw[o] at f;simp only[ji,j] at f
  split at f
  .rename_i fs _;obtain⟨R,e2⟩:=pR f.1;exact⟨fs,G,by simpa using R,fun k p hk=>by simpa using e2 k p hk⟩
  .contradiction
  .cases f.1
 .intro j;cases o:ti.agg with
  |false=>rw[o] at f;simp[j] at f
  |true=>
   rw[o] at f;simp only[ji,j] at f
   split at f
   .contradiction
   .rename_i n e _;unfold XX at f;simp only[ji] at f;obtain⟨⟨⟨⟨⟨⟨C,r⟩,A⟩,T⟩,b5⟩,b6⟩,_⟩:=f;have C:=ja C;subst C
    split at r
    case h_2=>cases r
    rename_i ie q;exact⟨rfl,n,ie,G,q,ja r,ja A,ja T,jx b5,fun k p hk=>by have:=pT _ _ b6 k p hk;simpa using this⟩
   .cases f.1
 .intro k p hk;have:=j6.1 a7 p (zx hk);exact Option.isSome_iff_exists.1 this
 .intro o;rw[o] at f;simp only[ji,jO] at f;obtain⟨⟨⟨⟨C,b1'⟩,r⟩,A⟩,T⟩:=f;refine⟨d,G,fun fs e=>by subst e;simp[F6] at C,fun n e F=>by subst F;simp[F6] at C,fun ms e=>by subst e;simp[F6] at C,fun W=> ?_,fun M=> ?_,fun k M=> ?_⟩
  .rw[W] at r
   split at r
   .rw[ja r]
   .cases r
   .contradiction
  .rw[M] at A;cases d with
   |int k=>cases k<;>first|rfl|cases A
   |_=>cases A
  .rw[M] at A;cases d with
   |int k'=>simp[fg] at A;rw[A]
   |_=>cases A
 .intro W;cases o:ti.agg with
  |false=>rfl
  |true=>rw[o] at f;simp[W] at f
 .intro L;rw[L] at ap;cases d with
  |pointer e=>exact⟨e,G⟩
  |_=>cases ap
 .intro L;rw[L] at af;cases d with
  |func a b c=>exact⟨a,b,c,G⟩
  |_=>cases af
 .intro L;rw[L] at s;cases d with
  |map k e=>simp only[ji] at s;rw[G,ja s.1,ja s.2]
  |_=>cases s
 .intro hk H;rw[hk] at B;simp only at B
  split at B
  .rename_i hz;obtain⟨us,R,_,e3⟩:=RO H _ _ _ hz;rw[j7] at R;rw[R];exact e3
  .cases B
 .intro hk;rw[hk] at J;exact K6 J
 .intro o;rw[o] at f;simp only[ji] at f;have:=f.2
  split at this
  .assumption
  .cases this
 .intro hk;rw[hk] at E;simp only[ji] at E;exact⟨RM E.1.1.1,ja E.1.1.2⟩
 .intro hk;rw[hk] at E;simp only[ji] at E;exact⟨jx E.1.2,jx E.2⟩
 .intro hc H x y a b w O Q op X Y I;rw[hc] at l;simp only at l;cases j:ti.arr with
  |true=>
   rw[j] at l;simp only[ji,jO] at l;obtain⟨⟨c1,c2⟩,c3⟩:=l
   split at c1
   case h_2=>cases c1
   rename_i n e
   split at c2
   case h_2=>cases c2
   rename_i hue;have S:∃ie,e=ti.elem/\P.info? e=some ie/\ie.size=1:=by
    cases o:ti.agg with
    |false=>rw[o] at f;simp[j] at f
    |true=>
     rw[o] at f;simp only[ji,j] at f;have f:=f.1;unfold XX at f;simp only[ji] at f;obtain⟨⟨⟨⟨⟨C,r⟩,A⟩,T⟩,b5⟩,b6⟩:=f
     split at r
     case h_2=>cases r
     rename_i ie q;exact⟨ie,ja C,q,ja r⟩
   obtain⟨ie,rfl,q,Z⟩:=S;have m:P.cellsOf ti.elem=1:=(by simp[Program.cellsOf,q,Z]);have agg:∀{v:Value},vF v=true->∃vs,v= .agg vs:=fun{v} h=>by cases v<;>simp_all [vF]
   have N:ti.ty.agg=true:=by
    cases M:ti.ty with
    |unit=>rfl
    |pair a b=>rfl
    |_=>rw[M] at c1;simp[uv] at c1
   obtain⟨xs,rfl⟩:=agg (O.1.trans N);obtain⟨ys,rfl⟩:=agg (Q.1.trans N);have F:(Op.equalIn 10000 ti.id (.agg xs) (.agg ys)).run P w= .ok (@decide (a=b) (ti.ty.decEq a b)) w:=by
    rw[run_equalIn_array w 9999 xs ys G q,m,List.range_eq_range'];exact RP (D:=9998) hue m w n 0 ti.ty xs ys a b c1 (by simpa[Value.cells] using O.2.2) (by simpa[Value.cells] using Q.2.2)
   rcases I with rfl|rfl
   .simp only[jA,run_eqGuard_agg w _ _ _ _ _ _ c3,jm,run_eql_struct w,F]
   .simp only[jA,run_eqGuard_agg w _ _ _ _ _ _ c3,jm,run_neq_struct w,F]
  |false=>
  rw[j] at l;simp only[ji] at l;obtain⟨c1,c2⟩:=l;have F:=oc 20 ti.id ti.ty 9980 c2 H w x y a b O Q;rcases ti with⟨id,ty,size,agg,fields,sl,elem,bytes,zero,cmp⟩;simp only at*
  split at c1
  .rename_i t u;have agg:∀{v:Value},vF v=true->∃vs,v= .agg vs:=fun{v} h=>by cases v<;>simp_all [vF]
   obtain⟨xs,rfl⟩:=agg O.1;obtain⟨ys,rfl⟩:=agg Q.1;simp only[jO] at c1;rcases I with rfl|rfl
   .simp only[jA,run_eqGuard_agg w _ _ _ _ _ _ c1,jm,run_eql_struct w,F]
   .simp only[jA,run_eqGuard_agg w _ _ _ _ _ _ c1,jm,run_neq_struct w,F]
  .have ex:=qC O;have ey:=qC Q;subst ex;subst ey;have K:(Op.equal id (.bool a) (.bool b)).run P w= .ok (@decide (a=b) (Ty.bool.decEq a b)) w:=F;rcases I with rfl|rfl
   .have g:(eqGuard .eql id X Y (.bool a) (.bool b)).run P w= .ok () w:=(by simp[eqGuard]);have V:binOp .eql id (.bool a) (.bool b)=(do pure (.bool (<-Op.equal id (.bool a) (.bool b)))):=rfl;simp only[jA,g,jm,V,K,jK]
   .have g:(eqGuard .neq id X Y (.bool a) (.bool b)).run P w= .ok () w:=(by simp[eqGuard]);have V:binOp .neq id (.bool a) (.bool b)=(do pure (.bool (!(<-Op.equal id (.bool a) (.bool b))))):=rfl;simp only[jA,g,jm,V,K,jK]
  .cases c1
theorem NI {l:List TI} (h:l.all (jaT P)=true):∀T x,Hv l T=some x->x.id=T/\x.ok P:=by
 induction l with
 |nil=>intro T x a;simp[Hv] at a
 |cons t r c=>
  intro T x a;simp only[List.all_cons,ji] at h;simp only[Hv] at a
  split at a
  rename_i b;simp at a;subst a;exact⟨ja b,XY h.1⟩;exact c h.2 T x a
end
end Go.X
namespace Go.X
open Go.RowKit (Below)
inductive Cl where
 |dat (t:Ty)
 |row (E:Nat) (t:Ty) (nl:Nl)
 |map (kt vt:Ty)
@[reducible] def Cl.D:Cl->Type
 | .dat t=>t.Data
 | .row _ t _=>List t.Data
 | .map k v=>List (k.Data×v.Data)
@[reducible] def Cl.Ds:List Cl->Type
 |[]=>Unit
 |c::r=>c.D×Cl.Ds r
inductive Sh where
 |cl (c:Cl)
 |box (T:Nat) (cs:List Cl)
 |fbox (f T:Nat) (cs:List Cl)--a closure that captured a pointer to such a block
 |agg (cs:List Cl)--the cells themselves,aZ one value
@[reducible] def Sh.D:Sh->Type
 | .cl c=>c.D
 | .box _ cs=>Cl.Ds cs
 | .fbox _ _ cs=>Cl.Ds cs
 | .agg cs=>Cl.Ds cs
def RQ:Nl->Nl->Bool
 | .unk,_=>true
 | .no,.no=>true
 |_,_=>false
def O8 (σ:St):(c:Cl)->SV->Option (c.D×List Nat×List Nat)
 | .dat t,v=>match yr σ t v with
  |some (x,f)=>some (x,[],f)
  |none=>none
 | .row E t nl,.own o _=>match σ.obj o with
  |some (.row b e false a l)=>match Nat.beq E b,Q8 nl a,qi (.slice e) (.slice t) l with
   |true,true,some l'=>some (l',[o],[])
   |_,_,_=>none
  |_=>none
 | .row E t nl,.osl o _ 0 n=>match σ.obj o with
  |some (.row b e false a l)=>match Nat.beq E b,RQ nl a,qi (.slice e) (.slice t) l with
   |true,true,some l'=>some (l'.take n,[o],[])
   |_,_,_=>none
  |_=>none
 | .row _ _ nl,.lit v=>match qe v,nl with
  |true,.no=>none
  |true,_=>some ([],[],[])
  |false,_=>none
 | .map kt vt,.mp o=>match σ.obj o with
  |some (.map false d g l)=>match qi (.map d g) (.map kt vt) l with
   |some l'=>some (l',[o],[])
   |none=>none
  |_=>none
 |_,_=>none
def pU (σ:St):(cs:List Cl)->List SV->Option (Cl.Ds cs×List Nat×List Nat)
 |[],[]=>some ((),[],[])
 |c::cs,v::vs=>match O8 σ c v with
  |some (x,os,f)=>match pU σ cs vs with
   |some (y,a,b)=>some ((x,y),os++a,f++b)
   |none=>none
  |none=>none
 |_,_=>none
def Bp (σ:St):(s:Sh)->SV->Option (s.D×List Nat×List Nat)
 | .cl c,v=>O8 σ c v
 | .box T cs,.bp o 0=>match σ.obj o with
  |some (.box a false vs)=>match Nat.beq T a,pU σ cs vs with
   |true,some (x,os,f)=>some (x,o::os,f)
   |_,_=>none
  |_=>none
 | .fbox g T cs,.clo b [.bp o 0]=>match σ.obj o with
  |some (.box a false vs)=>match Nat.beq b g,Nat.beq T a,pU σ cs vs with
   |true,true,some (x,os,f)=>some (x,o::os,f)
   |_,_,_=>none
  |_=>none
 | .agg cs,.agg vs=>match pU σ cs vs with
  |some (x,os,f)=>some (x,os,f)
  |none=>none
 |_,_=>none
def ClV (H:Imm) (w:World):(c:Cl)->Value->c.D->List Nat->Prop
 | .dat t,v,x,bs=>t.rv H v x/\bs=[]
 | .row E t nl,v,x,bs=>x.length<4611686018427387904/\((v= .slice none 0 0/\x=[]/\nl≠.no/\bs=[])\/
  ∃b C vs,v= .slice (some ⟨b,0,none⟩) x.length C/\bs=[b]/\H b=none/\(nl= .yes->x≠[])/\w.heap[b]? =some (.cells vs E (0,0))/\vs.size=C*t.size/\x.length<=C/\C<=maxLen/\
   ∀i y,x[i]? =some y->t.rd H (fun j=>vs[i*t.size+j]?) y)
 | .map kt vt,v,x,bs=>∃b es clock,v= .map (some b)/\bs=[b]/\H b=none/\w.heap[b]? =some (.map es clock)/\iT H kt vt es clock x
def UE (H:Imm) (w:World):(cs:List Cl)->List Value->Cl.Ds cs->List Nat->Prop
 |[],vs,_,bs=>vs=[]/\bs=[]
 |c::cs,v::vs,d,bs=>∃a b,bs=a++b/\ClV H w c v d.1 a/\v.oneCell'=true/\UE H w cs vs d.2 b
 |_::_,[],_,_=>False
def ShV (H:Imm) (w:World):(s:Sh)->Value->s.D->List Nat->Prop
 | .cl c,v,x,bs=>ClV H w c v x bs
 | .box T cs,v,x,bs=>∃b vs bs',v= .pointer (some ⟨b,0,none⟩)/\bs=b::bs'/\H b=none/\w.heap[b]? =some (.cells vs T (0,0))/\UE H w cs vs.toList x bs'
 | .fbox f T cs,v,x,bs=>∃b vs bs',v= .func (.func f) #[] #[.pointer (some ⟨b,0,none⟩)]/\bs=b::bs'/\H b=none/\w.heap[b]? =some (.cells vs T (0,0))/\UE H w cs vs.toList x bs'
 | .agg cs,v,x,bs=>∃vs,v= .agg vs/\UE H w cs vs.toList x bs
section
variable {P:Program} {B:qw} {σ τ:St} {ρ:Env} {w:World}
theorem vT (ρ:Env):∀(a b:List Nat),w6 ρ (a++b)=w6 ρ a++w6 ρ b
 |[],b=>rfl
 |o::a,b=>by
  simp only[jU,w6]
  split<;>simp[vT ρ a b]
theorem gZ (a:Sat P B ρ τ.obj w):∀(os:List Nat),os.Nodup->(w6 ρ os).Nodup
 |[],_=>by simp[w6]
 |o::r,h=>by
  rw[zn] at h
  simp only[w6]
  split
  rename_i b C e
  rw[zn]
  refine⟨fun f=> ?_,gZ a r h.2⟩
  obtain⟨o',C',c,d⟩:=(w7 r).1 f
  have:=a.inj o o' b C C' e d
  subst this
  exact h.1 c
  exact gZ a r h.2
def pV (σ τ:St) (os:List Nat):Prop:=∀o,o∈os->τ.obj o=σ.obj o
theorem Bq (M:Sat P B ρ τ.obj w) {fz:List Nat} (hF:Frz σ τ fz) {c:Cl} {sv:SV} {x:c.D} {os f:List Nat} (h:O8 σ c sv=some (x,os,f)) (hf:∀o,o∈f->o∈fz) (hk:pV σ τ os)
 {v:Value} (d:SV.den P ρ sv v):ClV ρ.H w c v x (w6 ρ os):=by
 unfold O8 at h
 split at h
 .split at h
  .rename_i x' f' hd;simp at h;obtain⟨rfl,rfl,rfl⟩:=h;exact⟨wx M hF hd hf d,rfl⟩
  .cases h
 .rename_i E t nl o u
  split at h
  case h_2=>cases h
  rename_i E' z g l J
  split at h
  case h_2=>cases h
  rename_i l' V h2 W;simp at h;obtain⟨rfl,rfl,rfl⟩:=h;have r:=ja V;subst r;obtain⟨e,rfl⟩:=wc W;have T:z=t:=(by injection e);subst T;have j:τ.obj o=some (.row E z false g l):=(by rw[hk o (by simp),J]);obtain⟨p,k,Q,k0,A⟩:=M.obs o _ j;simp only[SV.den] at d;have d:=d p k;show ClV ρ.H w (.row E z nl) v l _;refine⟨k0,?_⟩;cases p with
  |none=>
   obtain⟨m,v2⟩:=d;refine .inl ⟨m,A.1,?_,by simp[w6,k]⟩;cases nl<;>cases g<;>simp_all [Q8]
  |some q=>
   obtain⟨b,C⟩:=q;obtain⟨m,v2⟩:=d;obtain⟨R,vs,Z,k5,k6,k7,k9,s⟩:=A;refine .inr ⟨b,C,vs,by rw[m,Q],by simp[w6,k],by simpa[fzH] using s,fun N=>R ?_,Z,k5,k6,k7,k9⟩;cases nl<;>cases g<;>simp_all [Q8]
 .rename_i E t nl o u n
  split at h
  case h_2=>cases h
  rename_i E' z g l J
  split at h
  case h_2=>cases h
  rename_i l' V h2 W;simp at h;obtain⟨rfl,rfl,rfl⟩:=h;have r:=ja V;subst r;obtain⟨e,rfl⟩:=wc W;have T:z=t:=(by injection e);subst T;have j:τ.obj o=some (.row E z false g l):=(by rw[hk o (by simp),J]);obtain⟨p,k,Q,k0,A⟩:=M.obs o _ j;simp only[SV.den] at d;have d:=d p k;show ClV ρ.H w (.row E z nl) v (l.take n) _;have Y:nl≠.yes:=by cases nl<;>cases g<;>simp_all [RQ]
  cases p with
  |none=>
   obtain⟨m,rfl⟩:=d;refine⟨by simp,.inl ⟨m,by simp,?_,by simp[w6,k]⟩⟩;cases nl<;>cases g<;>simp_all [RQ]
  |some q=>
   obtain⟨b,C⟩:=q;obtain⟨a,F,m,v2,v3,v4,S⟩:=d;obtain⟨R,vs,Z,k5,k6,k7,k9,s⟩:=A;have S:=S (.inl trivial);simp only[kF] at S;subst S;have G:F=C:=(by omega);subst G;have I:(l.take n).length=n:=(by rw[j0];omega);refine⟨by omega,.inr ⟨b,F,vs,by rw[m,I],by simp[w6,k],by simpa[fzH] using s,fun N=>absurd N Y,Z,k5,by omega,k7,fun i y O=>k9 i y ?_⟩⟩;by_cases hi:i<n
   .rw[jM hi] at O;exact O
   .rw[List.getElem?_eq_none (by omega)] at O;cases O
 .rename_i E t nl u
  split at h
  .cases h
  .rename_i N X;simp at h;obtain⟨rfl,rfl,rfl⟩:=h;simp only[SV.den] at d;subst d;refine⟨by simp,.inl ⟨ym N,rfl,?_,rfl⟩⟩;intro e;subst e;exact X rfl
  .cases h
 .rename_i kt vt o
  split at h
  case h_2=>cases h
  rename_i K L l J
  split at h
  case h_2=>cases h
  rename_i l' hc;simp at h;obtain⟨rfl,rfl,rfl⟩:=h;obtain⟨e,rfl⟩:=wc hc;obtain⟨r,e2⟩:K=kt/\L=vt:=by injection e with a b;exact⟨a,b⟩
  subst r;subst e2;have j:τ.obj o=some (.map false K L l):=(by rw[hk o (by simp),J]);obtain⟨p,k,hs⟩:=M.obs o _ j;simp only[qb,fzM] at hs;obtain⟨b,C,es,clock,rfl,Q,A,R⟩:=hs;simp only[SV.den] at d;obtain⟨b',C',r,m⟩:=d _ k;simp at r;obtain⟨rfl,rfl⟩:=r;exact⟨b,es,clock,m,by simp[w6,k],R,Q,A⟩
 .cases h
theorem ct (g:Sat P B ρ τ.obj w) {fz:List Nat} (e:Frz σ τ fz):∀{cs:List Cl} {svs:List SV} {x:Cl.Ds cs} {os f:List Nat},pU σ cs svs=some (x,os,f)->(∀o,o∈f->o∈fz)->pV σ τ os->
 ∀{vs:List Value},SV.denL P ρ svs vs->(∀v∈vs,v.oneCell'=true)->UE ρ.H w cs vs x (w6 ρ os)
 |[],[],x,os,f,h,_,_,vs,b,_=>by
  simp[pU] at h
  obtain⟨rfl,rfl⟩:=h
  simp[SV.denL] at b
  exact⟨b,rfl⟩
 |[],_::_,x,os,f,h,_,_,vs,b,_=>by simp[pU] at h
 |_::_,[],x,os,f,h,_,_,vs,b,_=>by simp[pU] at h
 |c::cs,sv::svs,x,os,f,h,hf,hk,vs,b,h1=>by
  simp only[pU] at h
  split at h
  case h_2=>cases h
  rename_i p o1 m i
  split at h
  case h_2=>cases h
  rename_i q o2 n d
  simp at h
  obtain⟨rfl,rfl,rfl⟩:=h
  simp only[SV.denL] at b
  obtain⟨v,r,rfl,k,l⟩:=b
  refine⟨w6 ρ o1,w6 ρ o2,vT ρ o1 o2,?_,h1 v (by simp),?_⟩
  .exact Bq g e i (fun o a=>hf o (jg _ a)) (fun o a=>hk o (jg _ a)) k
  .exact ct g e d (fun o a=>hf o (jd _ a)) (fun o a=>hk o (jd _ a)) l (fun u j=>h1 u (by simp[j]))
theorem bD (i:Sat P B ρ τ.obj w) {fz:List Nat} (q:Frz σ τ fz) {s:Sh} {sv:SV} {x:s.D} {os f:List Nat} (h:Bp σ s sv=some (x,os,f)) (t:∀o,o∈f->o∈fz) (hk:pV σ τ os)
 {v:Value} (e:SV.den P ρ sv v):ShV ρ.H w s v x (w6 ρ os):=by
 unfold Bp at h
 split at h
 .exact Bq i q h t hk e
 .rename_i T cs o
  split at h
  case h_2=>cases h
  rename_i J vs c
  split at h
  case h_2=>cases h
  rename_i I o1 G y j;simp at h;obtain⟨rfl,rfl,rfl⟩:=h;have a:=ja y;subst a;have d:τ.obj o=some (.box T false vs):=(by rw[hk o (by simp),c]);obtain⟨p,k,l⟩:=i.obs o _ d;simp only[qb,fzH] at l;obtain⟨b,C,us,rfl,A,m,n,E⟩:=l;simp only[SV.den] at e;obtain⟨K,C',a,F⟩:=e _ k;simp at a;obtain⟨rfl,rfl⟩:=a;exact⟨b,us,w6 ρ o1,F,by simp[w6,k],E,A,ct i q j t (fun o c=>hk o (jl _ c)) m n⟩
 .rename_i g T cs R o
  split at h
  case h_2=>cases h
  rename_i J vs c
  split at h
  case h_2=>cases h
  rename_i I o1 G M y j;simp at h;obtain⟨rfl,rfl,rfl⟩:=h;have L:=ja M;subst L;have a:=ja y;subst a;have d:τ.obj o=some (.box T false vs):=(by rw[hk o (by simp),c]);obtain⟨p,k,l⟩:=i.obs o _ d;simp only[qb,fzH] at l;obtain⟨b,C,us,rfl,A,m,n,E⟩:=l;simp only[SV.den,SV.denL] at e;obtain⟨lb,rfl,u,r,N,Q,O⟩:=e;subst O;obtain⟨K,C',a,F⟩:=Q _ k;simp at a;obtain⟨rfl,rfl⟩:=a;have z:lb= #[u]:=jF.1 (by simpa using N);subst z;subst F;exact⟨b,us,w6 ρ o1,rfl,by simp[w6,k],E,A,ct i q j t (fun o c=>hk o (jl _ c)) m n⟩
 .split at h
  case h_2=>cases h
  rename_i I o1 G j;simp at h;obtain⟨rfl,rfl,rfl⟩:=h;simp only[SV.den] at e;obtain⟨us,rfl,m,n⟩:=e;exact⟨us,rfl,ct i q j t hk m n⟩
 .cases h
end
end Go.X
namespace Go.X
open Go.RowKit (Below)
def Ht (k:Nat):(c:Cl)->c.D->SV
 | .dat t,x=> .dat t x
 | .row _ t _,_=> .own k t
 | .map _ _,_=> .mp k
def RR (k:Nat):(c:Cl)->c.D->List (Nat×Option Ob)
 | .dat _,_=>[]
 | .row E t nl,x=>[(k,some (.row E t false nl x))]
 | .map kt vt,x=>[(k,some (.map false kt vt x))]
def Br (nm:Nat->Nat):(cs:List Cl)->Cl.Ds cs->Nat->List SV
 |[],_,_=>[]
 |c::cs,d,j=>Ht (nm j) c d.1::Br nm cs d.2 (j+1)
def pW (nm:Nat->Nat):(cs:List Cl)->Cl.Ds cs->Nat->List (Nat×Option Ob)
 |[],_,_=>[]
 |c::cs,d,j=>pW nm cs d.2 (j+1)++RR (nm j) c d.1
def nmA (k j:Nat):Nat:=1000*(k+1)+500+j
def Bs (k:Nat):(s:Sh)->s.D->SV
 | .cl c,x=>Ht k c x
 | .box _ _,_=> .bp k 0
 | .fbox f _ _,_=> .clo f [.bp k 0]
 | .agg cs,x=> .agg (Br (nmA k) cs x 0)
def H7 (k:Nat) (nm:Nat->Nat):(s:Sh)->s.D->List (Nat×Option Ob)
 | .cl c,x=>RR k c x
 | .box T cs,x=>(k,some (.box T false (Br nm cs x 0)))::pW nm cs x 0
 | .fbox _ T cs,x=>(k,some (.box T false (Br nm cs x 0)))::pW nm cs x 0
 | .agg cs,x=>pW (nmA k) cs x 0
def yV (k:Nat):Cl->List Nat
 | .dat _=>[]
 |_=>[k]
def yx (nm:Nat->Nat):List Cl->Nat->List Nat
 |[],_=>[]
 |c::r,j=>yV (nm j) c++yx nm r (j+1)
def qY (k:Nat) (nm:Nat->Nat):Sh->List Nat
 | .cl c=>yV k c
 | .box _ cs=>k::yx nm cs 0
 | .fbox _ _ cs=>k::yx nm cs 0
 | .agg cs=>yx (nmA k) cs 0
def RT (c:Nat):Cl->Value->Option (Nat×Nat)
 | .row _ _ _,.slice (some a) _ C=>some (a.block,C)
 | .map _ _,.map (some b)=>some (b,c)
 |_,_=>none
def RU (a:Nat):Cl->Value->Nat
 | .row _ _ _,.slice _ n _=>n
 |_,_=>a
def O9 (b:Nat):Sh->Value->Option (Nat×Nat)
 | .cl c,v=>RT b c v
 | .box _ _,.pointer (some a)=>some (a.block,b)
 | .fbox _ _ _,.func _ _ lb=>(match lb.toList with|[.pointer (some a)]=>some (a.block,b)|_=>none)
 |_,_=>none
def RV (a:Nat):Sh->Value->Nat
 | .cl c,v=>RU a c v
 | .box _ _,_=>a
 | .fbox _ _ _,_=>a
 | .agg _,_=>a
def oo (ob:List (Nat×Option Ob)):Nat->Option Ob:=(St.mk [] ob).obj
section
variable {P:Program} {B:qw} {ρ:Env} {w:World}
def OkB (B:qw) (ρ:Env) (b:Nat):Prop:=(B.w.heap.size<=b\/b∈B.bor)/\∀o C,ρ.blk o≠some (some (b,C))
theorem H8 {obj:Nat->Option Ob} (d:Sat P B ρ obj w) {k:Nat} (hk:obj k=none) (u:vD obj k) (p:Option (Nat×Nat)) (len:Nat) (x:Ob)
 (r:∀b C,p=some (b,C)->OkB B ρ b) (A:∀a:Env,a.H=ρ.H->a.len k=len->ρ.le a [k]->qb P a w k p x):
 ∃a:Env,Sat P B a (sA obj k (some x)) w/\ρ.le a [k]/\a.H=ρ.H/\a.blk=(fun o=>if o=k then some p else ρ.blk o)/\a.len=fun o=>if o=k then len else ρ.len o:=by
 let a:Env:={H:=ρ.H,blk:=fun o=>if o=k then some p else ρ.blk o,len:=fun o=>if o=k then len else ρ.len o}
 have j:ρ.le a [k]:=⟨fun _ _ h=>h,fun o p g r=>by simpa[a,show o≠k by simpa using g] using r,fun o g=>by simp[a,show o≠k by simpa using g]⟩;refine⟨a,⟨d.os,d.tape,d.output,d.drawn,d.size,d.good,d.oldH,d.old,?_,?_,?_,?_⟩,j,rfl,rfl,rfl⟩;intro o D c;unfold sA at c;by_cases e:o=k;subst e;rw[jh rfl] at c;simp at c;subst c;exact⟨p,by simp[a],A a rfl (by simp[a]) j⟩;rw[jc e] at c;obtain⟨q,y,z⟩:=d.obs o D c;refine⟨q,by simp[a,e,y],wM j (by simpa using e) (fun T fz cs t o' n=> ?_) (fun b C v=>⟨rfl,rfl⟩) z⟩;simp at n;subst n;exact u o T fz cs (by rw[c,t]);intro o g;unfold sA at g;by_cases e:o=k;rw[jh e] at g;cases g;rw[jc e] at g;simp[a,e,d.dead o g];intro o o' b l s f m;by_cases i:o=k<;>by_cases e2:o'=k
 rw[i,e2];simp[a,i] at f;simp[a,e2] at m;exact absurd m ((r b l f).2 o' s);simp[a,i] at f;simp[a,e2] at m;exact absurd f ((r b s m).2 o l);simp[a,i] at f;simp[a,e2] at m;exact d.inj o o' b l s f m;intro o b l f;by_cases i:o=k;simp[a,i] at f;exact(r b l f).1;simp[a,i] at f;exact d.own o b l f
theorem od (k:Nat) (x:Option Ob) (ob:List (Nat×Option Ob)):oo ((k,x)::ob)=sA (oo ob) k x:=vW ⟨[],ob⟩ k x
structure oe (P:Program) (B:qw) (ρ:Env) (w:World) (ob new:List (Nat×Option Ob)) (nms:List Nat) (bs:List Nat) (ρ':Env):Prop where
 sat:Sat P B ρ' (oo (new++ob)) w
 le:ρ.le ρ' nms
 H:ρ'.H=ρ.H
 same:∀o,o∉nms->ρ'.blk o=ρ.blk o/\ρ'.len o=ρ.len o
 blk:∀o b C,ρ'.blk o=some (some (b,C))->ρ.blk o=some (some (b,C))\/b∈bs
theorem RW {ob:List (Nat×Option Ob)} (G:Sat P B ρ (oo ob) w) {c:Cl} {k:Nat} {v:Value} {x:c.D} {bs:List Nat} (s:ClV ρ.H w c v x bs) (S:∀b,b∈bs->OkB B ρ b)
 (hk:∀n,n∈yV k c->oo ob n=none/\vD (oo ob) n) (F V:Nat):
 ∃a,oe P B ρ w ob (RR k c x) (yV k c) bs a/\SV.den P a (Ht k c x) v/\(∀n,n∈yV k c->a.blk n=some (RT F c v)/\a.len n=RU V c v):=by
 cases c with
 |dat t=>
  obtain⟨Z,rfl⟩:=s;exact⟨ρ,⟨G,Env.le.refl _ _,rfl,fun _ _=>⟨rfl,rfl⟩,fun _ _ _ h=> .inl h⟩,by simp only[Ht,SV.den];exact Z,fun n q=>by simp[yV] at q⟩
 |row E t nl=>
  obtain⟨I,J⟩:=hk k (by simp[yV]);obtain⟨T,s⟩:=s;rcases s with⟨rfl,Q,O,rfl⟩|⟨b,C,vs,rfl,rfl,N,L,M,W,R,X,Y⟩;have j:x=([]:List t.Data):=Q;obtain⟨a,u,z,A,d,g⟩:=H8 G I J none 0 (.row E t false nl x) (fun b C h=>by cases h) (fun a _ e _=>⟨by rw[e,j];rfl,T,j,O⟩);refine⟨a,⟨by simp only[RR,ki];rw[od];exact u,by simpa[yV] using z,A,fun o r=> ?_,fun o b C h=> ?_⟩,?_,fun n q=> ?_⟩;have:o≠k:=(by simpa[yV] using r);rw[d,g];simp[this];rw[d] at h;simp only at h
  split at h
  simp at h;exact .inl h;simp only[Ht,SV.den];intro p f;rw[d] at f;simp at f;subst f;exact⟨trivial,by rw[g];simp⟩;have:n=k:=(by simpa[yV] using q);subst this;rw[d,g];simp[RT,RU];obtain⟨a,u,z,A,d,g⟩:=H8 G I J (some (b,C)) x.length (.row E t false nl x) (fun K C' h=>by simp at h;rw[<-h.1];exact S b (by simp))
   (fun a l e m=>⟨by rw[e],T,L,vs,M,W,R,X,fun i y hy=>t.rd_mono m.H _ _ (Y i y hy),by rw[l,N];rfl⟩)
  refine⟨a,⟨by simp only[RR,ki];rw[od];exact u,by simpa[yV] using z,A,fun o r=> ?_,fun o K C' h=> ?_⟩,?_,fun n q=> ?_⟩;have:o≠k:=(by simpa[yV] using r);rw[d,g];simp[this];rw[d] at h;simp only at h
  split at h
  simp at h;exact .inr (by simp[h.1]);exact .inl h;simp only[Ht,SV.den];intro p f;rw[d] at f;simp at f;subst f;simp only;rw[g];simp only[if_true];exact⟨trivial,R⟩;have:n=k:=(by simpa[yV] using q);subst this;rw[d,g];simp[RT,RU]
 |map kt vt=>
  obtain⟨I,J⟩:=hk k (by simp[yV]);obtain⟨b,es,clock,rfl,rfl,N,L,M⟩:=s;obtain⟨a,u,z,A,d,g⟩:=H8 G I J (some (b,F)) V (.map false kt vt x) (fun K C' h=>by simp at h;rw[<-h.1];exact S b (by simp))
   (fun a l _ m=>⟨b,F,es,clock,rfl,L,M.mono m.H,by rw[l,N];rfl⟩)
  refine⟨a,⟨by simp only[RR,ki];rw[od];exact u,by simpa[yV] using z,A,fun o r=> ?_,fun o K C' h=> ?_⟩,?_,fun n q=> ?_⟩;have:o≠k:=(by simpa[yV] using r);rw[d,g];simp[this];rw[d] at h;simp only at h
  split at h
  simp at h;exact .inr (by simp[h.1]);exact .inl h;simp only[Ht,SV.den];intro p f;rw[d] at f;simp at f;subst f;exact⟨b,F,rfl,rfl⟩;have:n=k:=(by simpa[yV] using q);subst this;rw[d,g];simp[RT,RU]
theorem y5 {new ob:List (Nat×Option Ob)} {n:Nat} (h:n∉vk new):oo (new++ob) n=oo ob n:=by
 simp only[oo,St.obj];rw[wb,wv _ _ h]
theorem pX {α:Type} (a b:List (Nat×α)) (n:Nat):n∈vk (a++b)↔n∈vk a\/n∈vk b:=by
 induction a with
 |nil=>simp[vk]
 |cons x a c=>obtain⟨j,y⟩:=x;simp only[jU,vk,jj,c];exact or_assoc.symm
theorem Bt (k:Nat) (c:Cl) (x:c.D):vk (RR k c x)=yV k c:=by cases c<;>rfl
theorem bt (nm:Nat->Nat):∀(cs:List Cl) (x:Cl.Ds cs) (j n:Nat),n∈vk (pW nm cs x j)↔n∈yx nm cs j
 |[],_,_,n=>by simp[pW,yx,vk]
 |c::cs,x,j,n=>by
  simp only[pW,yx,pX,Bt,js,bt nm cs x.2 (j+1) n]
  exact or_comm
theorem lf (k:Nat) (nm:Nat->Nat) (s:Sh) (x:s.D) (n:Nat):n∈vk (H7 k nm s x)↔n∈qY k nm s:=by
 cases s with
 |cl c=>simp only[H7,qY];rw[Bt]
 |box T cs=>simp only[H7,qY,vk,jj,bt nm cs x 0 n]
 |fbox f T cs=>simp only[H7,qY,vk,jj,bt nm cs x 0 n]
 |agg cs=>simp only[H7,qY,bt (nmA k) cs x 0 n]
theorem ET {nm:Nat->Nat}:∀(cs:List Cl) (j:Nat) {n:Nat},n∈yx nm cs j->∃i,n=nm i
 |[],_,_,h=>by simp[yx] at h
 |c::cs,j,n,h=>by
  simp only[yx,js] at h
  rcases h with h|h
  cases c<;>simp[yV] at h<;>exact⟨j,h⟩
  exact ET cs (j+1) h
theorem ZS {k:Nat} {cs:List Cl} (h:k∈yx (nmA k) cs 0):False:=by
 obtain⟨i,e⟩:=ET cs 0 h;unfold nmA at e;omega
def XZ (new:List (Nat×Option Ob)):Prop:=∀o T fz cs,(o,some (.box T fz cs))∉new
theorem mn (k:Nat) (c:Cl) (x:c.D):XZ (RR k c x):=by
 intro o T fz cs h;cases c<;>simp[RR] at h
theorem vZ (nm:Nat->Nat):∀(cs:List Cl) (x:Cl.Ds cs) (j:Nat),XZ (pW nm cs x j)
 |[],_,_=>by intro o T fz cs h;simp[pW] at h
 |c::cs,x,j=>by
  intro o T fz a h
  simp only[pW,js] at h
  rcases h with h|h
  exact vZ nm cs x.2 (j+1) o T fz a h
  exact mn _ _ _ o T fz a h
theorem bE {new ob:List (Nat×Option Ob)} {n:Nat} (c:XZ new) (h:vD (oo ob) n):vD (oo (new++ob)) n:=by
 intro o T fz cs a;simp only[oo,St.obj] at a;rw[wb] at a;cases b:wA new o with
 |none=>rw[b] at a;exact h o T fz cs a
 |some y=>rw[b] at a;simp only at a;subst a;exact absurd (qj _ _ _ b) (c o T fz cs)
theorem Ah {nm:Nat->Nat}:∀(cs:List Cl) (j:Nat) {ob:List (Nat×Option Ob)} {ρ:Env} (_:Sat P B ρ (oo ob) w) {vs:List Value} {x:Cl.Ds cs} {bs:List Nat} (_:UE ρ.H w cs vs x bs) (_:bs.Nodup) (_:∀b,b∈bs->OkB B ρ b)
 (_:(yx nm cs j).Nodup) (_:∀n,n∈yx nm cs j->oo ob n=none/\vD (oo ob) n),
 ∃k,oe P B ρ w ob (pW nm cs x j) (yx nm cs j) bs k/\SV.denL P k (Br nm cs x j) vs
 |[],j,ob,ρ,l,vs,x,bs,i,_,_,_,_=>by
  obtain⟨rfl,rfl⟩:=i
  exact⟨ρ,⟨l,Env.le.refl _ _,rfl,fun _ _=>⟨rfl,rfl⟩,fun _ _ _ h=> .inl h⟩,by simp[Br,SV.denL]⟩
 |c::cs,j,ob,ρ,l,[],x,bs,i,_,_,_,_=>i.elim
 |c::cs,j,ob,ρ,l,v::vs,x,bs,i,hnd,hb,hnn,hk=>by
  obtain⟨L,s,rfl,J,O,K⟩:=i
  simp only[yx] at hnn hk
  rw[zB] at hnn hnd
  obtain⟨N,F,q⟩:=hnn
  obtain⟨M,u,y⟩:=hnd
  obtain⟨ρ1,e,z,_⟩:=RW l J (fun b a=>hb b (jg _ a)) (fun n m=>hk n (jg _ m)) 0 0
  have p:∀n,n∈yx nm cs (j+1)->oo (RR (nm j) c x.1++ob) n=none/\vD (oo (RR (nm j) c x.1++ob)) n:=by
   intro n m;obtain⟨A,D⟩:=hk n (jd _ m);refine⟨?_,bE (mn _ _ _) D⟩;rw[y5,A];rw[Bt];exact fun h=>q n h n m rfl
  obtain⟨r,g,e2⟩:=Ah cs (j+1) e.sat (vs:=vs) (x:=x.2) (bs:=s) (by rw[e.H];exact K) u (fun b a=>⟨(hb b (jd _ a)).1,fun o C h=>by
   rcases e.blk o b C h with h|h;exact(hb b (jd _ a)).2 o C h;exact y b h b a rfl⟩) F p
  refine⟨r,⟨by simp only[pW,jJ];exact g.sat,?_,g.H.trans e.H,fun o d=> ?_,fun o b C h=> ?_⟩,?_⟩;exact(e.le.weaken (fun o d=>jg _ d)).trans (g.le.weaken (fun o d=>jd _ d));simp only[yx,js,not_or] at d;obtain⟨s1,s2⟩:=e.same o d.1;obtain⟨G,I⟩:=g.same o d.2;exact⟨G.trans s1,I.trans s2⟩;rcases g.blk o b C h with h|h;rcases e.blk o b C h with h|h;exact .inl h;exact .inr (jg _ h);exact .inr (jd _ h);simp only[Br,SV.denL];refine⟨v,vs,rfl,SV.den_mono g.le _ _ (fun o d=> ?_) z,e2⟩;cases c with
  |dat t=>rfl
  |row E t nl=>
   have f:nm j≠o:=fun h=>q (nm j) (by simp[yV]) o d h
   simp only[Ht,SV.refs];cases a:Nat.beq o (nm j) with
   |false=>rfl
   |true=>exact absurd (ja a).symm f
  |map kt vt=>
   have f:nm j≠o:=fun h=>q (nm j) (by simp[yV]) o d h
   simp only[Ht,SV.refs];cases a:Nat.beq o (nm j) with
   |false=>rfl
   |true=>exact absurd (ja a).symm f
theorem yK {nm:Nat->Nat} {k:Nat}:∀(cs:List Cl) (x:Cl.Ds cs) (j:Nat),k∉yx nm cs j->SV.refs.refsL k (Br nm cs x j)=false
 |[],_,_,_=>rfl
 |c::cs,x,j,h=>by
  simp only[yx,js,not_or] at h
  simp only[Br,SV.refs.refsL]
  have d:(Ht (nm j) c x.1).refs k=false:=by
   cases c with
   |dat t=>rfl
   |row E t nl=>
    have b:k≠nm j:=fun e=>h.1 (by simp[yV,e])
    simp only[Ht,SV.refs];cases a:Nat.beq k (nm j) with
    |false=>rfl
    |true=>exact absurd (ja a) b
   |map kt vt=>
    have b:k≠nm j:=fun e=>h.1 (by simp[yV,e])
    simp only[Ht,SV.refs];cases a:Nat.beq k (nm j) with
    |false=>rfl
    |true=>exact absurd (ja a) b
  rw[d];exact yK cs x.2 (j+1) h.2
theorem NJ {H:Imm}:∀(cs:List Cl) (vs:List Value) (x:Cl.Ds cs) (bs:List Nat),UE H w cs vs x bs->∀v∈vs,v.oneCell'=true
 |[],vs,x,bs,h,v,a=>by obtain⟨rfl,_⟩:=h;simp at a
 |c::cs,[],x,bs,h,v,a=>h.elim
 |c::cs,u::vs,x,bs,h,v,a=>by
  obtain⟨_,_,_,_,b,d⟩:=h
  rcases jj.1 a with rfl|a
  exact b
  exact NJ cs vs x.2 _ d v a
theorem K7 {nm:Nat->Nat} {ob:List (Nat×Option Ob)} (M:Sat P B ρ (oo ob) w) {s:Sh} {k:Nat} {v:Value} {x:s.D} {bs:List Nat} (N:ShV ρ.H w s v x bs) (m:bs.Nodup) (z:∀b,b∈bs->OkB B ρ b)
 (g:(qY k nm s).Nodup) (hk:∀n,n∈qY k nm s->oo ob n=none/\vD (oo ob) n) (y O:Nat):
 ∃l,oe P B ρ w ob (H7 k nm s x) (qY k nm s) bs l/\SV.den P l (Bs k s x) v/\(k∈qY k nm s->l.blk k=some (O9 y s v)/\l.len k=RV O s v):=by
 cases s with
 |cl c=>
  obtain⟨l,a,e,r⟩:=RW M N z hk y O;exact⟨l,a,e,fun h=>r k h⟩
 |box T cs=>
  obtain⟨b,vs,bs',rfl,rfl,Q,S,j⟩:=N;simp only[qY,zn] at g;rw[zn] at m;obtain⟨ρ1,i,K⟩:=Ah cs 0 M j m.2 (fun t E=>z t (jl _ E)) g.2 (fun n R=>hk n (jl _ R));obtain⟨V,W⟩:=hk k (by simp[qY]);have F:oo (pW nm cs x 0++ob) k=none:=by
   rw[y5,V];rw[bt];exact g.1
  obtain⟨J,X,Y,Z,u,L⟩:=H8 i.sat F (bE (vZ _ _ _ _) W) (some (b,y)) O (.box T false (Br nm cs x 0)) (fun t C' h=>by
   simp at h;rw[<-h.1];refine⟨(z b (by simp)).1,fun o C q=> ?_⟩;rcases i.blk o b C q with q|q;exact(z b (by simp)).2 o C q;exact m.1 q) (fun l A _ G=>⟨b,y,vs,rfl,S,SV.denL_mono G _ _ (fun o d=>by simp at d;subst d;exact yK cs x 0 g.1) K,NJ cs vs.toList x bs' j,by rw[A,i.H,Q];rfl⟩)
  refine⟨J,⟨by simp only[H7,jU];rw[od];exact X,?_,Z.trans i.H,fun o d=> ?_,fun o t C' h=> ?_⟩,?_,fun _=> ?_⟩;exact(i.le.weaken (fun o d=>jl _ d)).trans (Y.weaken (fun o d=>by simp at d;subst d;simp[]));simp only[qY,jj,not_or] at d;obtain⟨s1,s2⟩:=i.same o d.2;rw[u,L];simp only[d.1,if_false];exact⟨s1,s2⟩;rw[u] at h;simp only at h
  split at h
  simp at h;exact .inr (by simp[h.1]);rcases i.blk o t C' h with h|h;exact .inl h;exact .inr (jl _ h);simp only[Bs,SV.den];intro p I;rw[u] at I;simp at I;subst I;exact⟨b,y,rfl,rfl⟩;rw[u,L];simp[O9,RV]
 |fbox f T cs=>
  obtain⟨b,vs,bs',rfl,rfl,Q,S,j⟩:=N;simp only[qY,zn] at g;rw[zn] at m;obtain⟨ρ1,i,K⟩:=Ah cs 0 M j m.2 (fun t E=>z t (jl _ E)) g.2 (fun n R=>hk n (jl _ R));obtain⟨V,W⟩:=hk k (by simp[qY]);have F:oo (pW nm cs x 0++ob) k=none:=by
   rw[y5,V];rw[bt];exact g.1
  obtain⟨J,X,Y,Z,u,L⟩:=H8 i.sat F (bE (vZ _ _ _ _) W) (some (b,y)) O (.box T false (Br nm cs x 0)) (fun t C' h=>by
   simp at h;rw[<-h.1];refine⟨(z b (by simp)).1,fun o C q=> ?_⟩;rcases i.blk o b C q with q|q;exact(z b (by simp)).2 o C q;exact m.1 q) (fun l A _ G=>⟨b,y,vs,rfl,S,SV.denL_mono G _ _ (fun o d=>by simp at d;subst d;exact yK cs x 0 g.1) K,NJ cs vs.toList x bs' j,by rw[A,i.H,Q];rfl⟩)
  refine⟨J,⟨by simp only[H7,jU];rw[od];exact X,?_,Z.trans i.H,fun o d=> ?_,fun o t C' h=> ?_⟩,?_,fun _=> ?_⟩;exact(i.le.weaken (fun o d=>jl _ d)).trans (Y.weaken (fun o d=>by simp at d;subst d;simp[]));simp only[qY,jj,not_or] at d;obtain⟨s1,s2⟩:=i.same o d.2;rw[u,L];simp only[d.1,if_false];exact⟨s1,s2⟩;rw[u] at h;simp only at h
  split at h
  simp at h;exact .inr (by simp[h.1]);rcases i.blk o t C' h with h|h;exact .inl h;exact .inr (jl _ h);simp only[Bs,SV.den,SV.denL];refine⟨#[.pointer (some ⟨b,0,none⟩)],rfl,_,[],rfl,fun p I=> ?_,rfl⟩;rw[u] at I;simp at I;subst I;exact⟨b,y,rfl,rfl⟩;rw[u,L];simp[O9,RV]
 |agg cs=>
  obtain⟨vs,rfl,j⟩:=N;obtain⟨ρ1,i,K⟩:=Ah (nm:=nmA k) cs 0 M j m z g hk;exact⟨ρ1,i,by simp only[Bs,SV.den];exact⟨vs,rfl,K,NJ cs vs.toList x bs j⟩,fun h=>(ZS h).elim⟩
end
end Go.X
namespace Go.X
open Go.RowKit (Below)
def jaU:Bool->Value
 |true=> .nilFunc
 |false=> .slice none 0 0
def RX:Bool->Value->Bool
 |true,v=>sD v
 |false,v=>qe v
inductive ba where
 |val (t:Ty)
 |ref (t:Ty)
 |nil (fn:Bool)
 |clo (f:Nat)
 |fn (ps rs:List Ty)
 |own (s:Sh) (kept:Bool)
@[reducible] def ba.Data:ba->Type
 | .val t=>t.Data
 | .ref t=>t.Data
 | .nil _=>Unit
 | .clo _=>Unit
 | .fn ps rs=>FnD ps rs
 | .own s _=>s.D
@[reducible] def OD:List ba->Type
 |[]=>Unit
 |p::ps=>p.Data×OD ps
@[reducible] def KD:List ba->Type
 |[]=>Unit
 | .own s true::ps=>s.D×KD ps
 |_::ps=>KD ps
@[reducible] def RD:List Sh->Type
 |[]=>Unit
 |s::r=>s.D×RD r
structure qB where
 ps:List ba
 rs:List Sh
 pre:OD ps->List Prop
 F:OD ps->RD rs×KD ps
def jaV (P:Program) (H:Imm) (w:World):(p:ba)->Value->p.Data->List Nat->Prop
 | .val t,v,d,bs=>t.rv H v d/\bs=[]
 | .ref t,v,d,bs=>Rh H t v d/\bs=[]
 | .nil b,v,_,bs=>v=jaU b/\bs=[]
 | .clo f,v,_,bs=>v= .func (.func f) #[] #[]/\bs=[]
 | .fn ps rs,v,d,bs=>FnV P H ps rs d.pre d.F v/\bs=[]
 | .own s _,v,d,bs=>ShV H w s v d bs
def dx (P:Program) (H:Imm) (w:World):(ps:List ba)->List Value->OD ps->List Nat->Prop
 |[],vs,_,bs=>vs=[]/\bs=[]
 |p::ps,v::vs,d,bs=>∃a b,bs=a++b/\jaV P H w p v d.1 a/\dx P H w ps vs d.2 b
 |_::_,[],_,_=>False
def Vf (H:Imm) (w:World):(rs:List Sh)->List Value->RD rs->List Nat->Prop
 |[],vs,_,bs=>vs=[]/\bs=[]
 |s::rs,v::vs,d,bs=>∃a b,bs=a++b/\ShV H w s v d.1 a/\Vf H w rs vs d.2 b
 |_::_,[],_,_=>False
def X0:List Value->Value
 |[v]=>v
 |vs=> .tuple vs.toArray
def sO (H:Imm) (w:World):(ps:List ba)->List Value->KD ps->List Nat->Prop
 |[],_,_,bs=>bs=[]
 | .own s true::ps,v::vs,d,bs=>∃a b,bs=a++b/\ShV H w s v d.1 a/\sO H w ps vs d.2 b
 | .own _ false::ps,_::vs,d,bs=>sO H w ps vs d bs
 | .val _::ps,_::vs,d,bs=>sO H w ps vs d bs
 | .ref _::ps,_::vs,d,bs=>sO H w ps vs d bs
 | .nil _::ps,_::vs,d,bs=>sO H w ps vs d bs
 | .clo _::ps,_::vs,d,bs=>sO H w ps vs d bs
 | .fn _ _::ps,_::vs,d,bs=>sO H w ps vs d bs
 |_::_,[],_,_=>False
def H9 (H:Imm) (w:World) (bs:List Nat) (s:qB) (vals:List Value) (d:OD s.ps):Ending->World->Prop:=
 fun e w'=>∃vs H' c a,e= .returned (X0 vs)/\XM bs H w H' w'/\Vf H' w' s.rs vs (s.F d).1 c/\sO H' w' s.ps vals (s.F d).2 a/\(c++a).Nodup/\∀b,b∈c++a->b∈bs\/w.heap.size<=b
structure gq (P:Program) (f:Nat) (s:qB):Prop where
 enters:enters P f
 calls:∀H w vals d bs,ew H w->dx P H w s.ps vals d bs->bs.Nodup->vC (s.pre d)->Calls P f vals.toArray w (H9 H w bs s vals d)
def b7 (i:Nat):Nat:=1000000+i
def RY (i j:Nat):Nat:=400000+20*i+j
def oSl:(ps:List ba)->OD ps->Nat->List (Nat×SV)
 |[],_,_=>[]
 | .val t::ps,d,i=>(i,.dat t d.1)::oSl ps d.2 (i+1)
 | .ref t::ps,d,i=>(i,.ep t d.1)::oSl ps d.2 (i+1)
 | .nil b::ps,d,i=>(i,.lit (jaU b))::oSl ps d.2 (i+1)
 | .clo f::ps,d,i=>(i,.clo f [])::oSl ps d.2 (i+1)
 | .fn a rs::ps,d,i=>(i,.fn a rs d.1.pre d.1.F)::oSl ps d.2 (i+1)
 | .own s _::ps,d,i=>(i,Bs (b7 i) s d.1)::oSl ps d.2 (i+1)
def oOb:(ps:List ba)->OD ps->Nat->List (Nat×Option Ob)
 |[],_,_=>[]
 | .own s _::ps,d,i=>oOb ps d.2 (i+1)++H7 (b7 i) (RY i) s d.1
 | .val _::ps,d,i=>oOb ps d.2 (i+1)
 | .ref _::ps,d,i=>oOb ps d.2 (i+1)
 | .nil _::ps,d,i=>oOb ps d.2 (i+1)
 | .clo _::ps,d,i=>oOb ps d.2 (i+1)
 | .fn _ _::ps,d,i=>oOb ps d.2 (i+1)
def K8:List ba->Nat->List Nat
 |[],_=>[]
 | .own s _::ps,i=>qY (b7 i) (RY i) s++K8 ps (i+1)
 |_::ps,i=>K8 ps (i+1)
def nv (k:Nat):Sh->SV
 | .cl (.row _ t _)=> .own k t
 | .cl (.map _ _)=> .mp k
 | .cl (.dat _)=> .any
 | .box _ _=> .bp k 0
 | .fbox f _ _=> .clo f [.bp k 0]
 | .agg _=> .any
def RZ:Sh->Bool
 | .cl (.dat _)=>false
 | .agg _=>false
 |_=>true
def pY (σ:St):(rs:List Sh)->List ResultVar->Option (RD rs×List Nat×List Nat)
 |[],[]=>some ((),[],[])
 |s::rs,.tmp t::rv=>match Bp σ s (σ.get t) with
  |some (x,os,f)=>match pY σ rs rv with
   |some (y,a,b)=>some ((x,y),os++a,f++b)
   |none=>none
  |none=>none
 |_,_=>none
def lg (C:Ctx) (σ:St):(rs:List Sh)->List ResultVar->Option (RD rs×List Nat×List Nat)
 |[],[]=>some ((),[],[])
 |s::rs,v::rv=>match Bp σ s (sI C σ v) with
  |some (x,os,f)=>match lg C σ rs rv with
   |some (y,a,b)=>some ((x,y),os++a,f++b)
   |none=>none
  |none=>none
 |_,_=>none
def aa (σ:St):(ps:List ba)->Nat->Option (KD ps×List Nat×List Nat)
 |[],_=>some ((),[],[])
 | .own s true::ps,i=>match Bp σ s (nv (b7 i) s) with
  |some (x,os,f)=>match aa σ ps (i+1) with
   |some (y,a,b)=>some ((x,y),os++a,f++b)
   |none=>none
  |none=>none
 | .own _ false::ps,i=>aa σ ps (i+1)
 | .val _::ps,i=>aa σ ps (i+1)
 | .ref _::ps,i=>aa σ ps (i+1)
 | .nil _::ps,i=>aa σ ps (i+1)
 | .clo _::ps,i=>aa σ ps (i+1)
 | .fn _ _::ps,i=>aa σ ps (i+1)
def gm:List Nat->Bool
 |[]=>true
 |o::r=>match aX r o with|true=>false|false=>gm r
def X1 (C:Ctx) (fn:Func) (s:qB) (a:RD s.rs×KD s.ps):Ex->St->Prop
 | .exit _,_=>False
 |_,σ=>match lg C σ s.rs fn.results.toList,aa σ s.ps 0 with
  |some (r,o1,b),some (k,o2,c)=>match gm (o1++o2),iP (b++c) (o1++o2) with
   |true,false=>r=a.1/\k=a.2
   |_,_=>False
  |_,_=>False
@[irreducible] def R0 (C:Ctx) (A:Ann) (fn:Func) (body:Code) (s:qB):Prop:=
 ∀d:OD s.ps,Fx (s.pre d) (vcg C A body ⟨oSl s.ps d 0,oOb s.ps d 0⟩ (X1 C fn s (s.F d)))
section
variable {P:Program} {B:qw} {C:Ctx} {ρ:Env} {w:World}
theorem vq:∀(l:List Nat),gm l=true->l.Nodup
 |[],_=>kT
 |o::r,h=>by
  simp only[gm] at h
  split at h
  cases h
  rename_i a
  rw[zn]
  exact⟨gh a,vq r h⟩
theorem F7 {k:Nat} {nm:Nat->Nat} {s:Sh} {x:s.D} {ob:List (Nat×Option Ob)} {n:Nat} (d:n∉qY k nm s) (h:vD (oo ob) n):vD (oo (H7 k nm s x++ob)) n:=by
 cases s with
 |cl c=>exact bE (mn k c x) h
 |box T cs=>
  intro o e fz b a;simp only[qY,jj,not_or] at d;simp only[H7,jU] at a;rw[od] at a;unfold sA at a
  split at a
  simp at a;obtain⟨rfl,rfl,rfl⟩:=a;exact yK cs x 0 d.2;exact bE (vZ nm cs x 0) h o e fz b a
 |fbox f T cs=>
  intro o e fz b a;simp only[qY,jj,not_or] at d;simp only[H7,jU] at a;rw[od] at a;unfold sA at a
  split at a
  simp at a;obtain⟨rfl,rfl,rfl⟩:=a;exact yK cs x 0 d.2;exact bE (vZ nm cs x 0) h o e fz b a
 |agg cs=>exact bE (vZ (nmA k) cs x 0) h
theorem NK:∀(ps:List ba) (d:OD ps) (i s:Nat) (v:SV),wA (oSl ps d i) s=some v->i<=s
 |[],_,_,_,_,h=>by simp[oSl,wA] at h
 |p::ps,d,i,s,v,h=>by
  have:∃sv,oSl (p::ps) d i=(i,sv)::oSl ps d.2 (i+1):=by cases p<;>exact⟨_,rfl⟩
  obtain⟨sv,e⟩:=this
  rw[e] at h
  simp only[wA] at h
  cases a:Nat.beq i s with
  |true=>have:=ja a;omega
  |false=>rw[a] at h;have:=NK ps d.2 (i+1) s v h;omega
theorem Ai:∀(ps:List ba) (i:Nat) {ob:List (Nat×Option Ob)} {ρ:Env} (_:Sat P B ρ (oo ob) w) {vs:List Value} {d:OD ps} {bs:List Nat} (_:dx P ρ.H w ps vs d bs) (_:bs.Nodup) (_:∀b,b∈bs->OkB B ρ b)
 (_:(K8 ps i).Nodup) (_:∀n,n∈K8 ps i->oo ob n=none/\vD (oo ob) n),
 ∃r,oe P B ρ w ob (oOb ps d i) (K8 ps i) bs r/\∀s v,wA (oSl ps d i) s=some v->∃x,vs[s-i]? =some x/\SV.den P r v x
 |[],i,ob,ρ,D,vs,d,bs,I,_,_,_,_=>by
  obtain⟨rfl,rfl⟩:=I
  exact⟨ρ,⟨D,Env.le.refl _ _,rfl,fun _ _=>⟨rfl,rfl⟩,fun _ _ _ h=> .inl h⟩,fun s v h=>by simp[oSl,wA] at h⟩
 |p::ps,i,ob,ρ,D,[],d,bs,I,_,_,_,_=>I.elim
 |p::ps,i,ob,ρ,D,v::vs,d,bs,I,hnd,hb,j,hk=>by
  obtain⟨S,V,rfl,y,X⟩:=I
  have plain:∀(sv:SV),S=[]->SV.den P ρ sv v->(∀o,sv.refs o=false)->oSl (p::ps) d i=(i,sv)::oSl ps d.2 (i+1)->oOb (p::ps) d i=oOb ps d.2 (i+1)->K8 (p::ps) i=K8 ps (i+1)->
   ∃r,oe P B ρ w ob (oOb (p::ps) d i) (K8 (p::ps) i) (S++V) r/\∀s u,wA (oSl (p::ps) d i) s=some u->∃x,(v::vs)[s-i]? =some x/\SV.den P r u x:=by
   intro sv L G hr e2 e3 e4;subst L;rw[e4] at j hk⊢;rw[e3,e2];obtain⟨r,a,N⟩:=Ai ps (i+1) D X (by simpa using hnd) (fun b g=>hb b (by simpa using g)) j hk;refine⟨r,by simpa using a,fun s u q=> ?_⟩;simp only[wA] at q;cases l:Nat.beq i s with
   |true=>
    have:=ja l;subst this;rw[l] at q;simp at q;subst q;exact⟨v,by simp,SV.den_mono a.le _ _ (fun o _=>hr o) G⟩
   |false=>
    rw[l] at q;have M:=NK ps d.2 (i+1) s u q;obtain⟨x,O,Q⟩:=N s u q;exact⟨x,by rw[show s-i=(s-(i+1))+1 by omega];simpa using O,Q⟩
  cases p with
  |val t=>exact plain (.dat t d.1) y.2 (by simp only[SV.den];exact y.1) (fun _=>rfl) rfl rfl rfl
  |ref t=>exact plain (.ep t d.1) y.2 (by simp only[SV.den];exact y.1) (fun _=>rfl) rfl rfl rfl
  |nil b=>exact plain (.lit (jaU b)) y.2 (by simp only[SV.den];exact y.1) (fun _=>rfl) rfl rfl rfl
  |clo f=>exact plain (.clo f []) y.2 (by simp only[SV.den,SV.denL];exact⟨#[],y.1,rfl⟩) (fun _=>rfl) rfl rfl rfl
  |fn qs rs=>exact plain (.fn qs rs d.1.pre d.1.F) y.2 (by simp only[SV.den];exact y.1) (fun _=>rfl) rfl rfl rfl
  |own s kp=>
   simp only[K8] at j hk⊢;rw[zB] at j hnd;obtain⟨n1,n2,W⟩:=j;obtain⟨Y,Z,d3⟩:=hnd;obtain⟨ρ1,A,L,_⟩:=K7 D (s:=s) (k:=b7 i) (nm:=RY i) y Y (fun b g=>hb b (jg _ g)) n1 (fun n K=>hk n (jg _ K)) 0 0;obtain⟨R,C,N⟩:=Ai ps (i+1) A.sat (vs:=vs) (d:=d.2) (bs:=V) (by
    rw[A.H];exact X) Z (fun b g=>⟨(hb b (jd _ g)).1,fun o C' h=>by
    rcases A.blk o b C' h with h|h;exact(hb b (jd _ g)).2 o C' h;exact d3 b h b g rfl⟩) n2 (fun n K=>by
    obtain⟨k1,k2⟩:=hk n (jd _ K);have j:n∉qY (b7 i) (RY i) s:=fun h=>W n h n K rfl
    exact⟨by rw[y5 (by rw[lf];exact j)];exact k1,F7 j k2⟩)
   refine⟨R,⟨by simp only[oOb,jJ];exact C.sat,?_,C.H.trans A.H,fun o z=> ?_,fun o b C' h=> ?_⟩,fun J u q=> ?_⟩;exact(A.le.weaken (fun o z=>jg _ z)).trans (C.le.weaken (fun o z=>jd _ z));simp only[js,not_or] at z;obtain⟨s1,s2⟩:=A.same o z.1;obtain⟨s3,s4⟩:=C.same o z.2;exact⟨s3.trans s1,s4.trans s2⟩;rcases C.blk o b C' h with h|h;rcases A.blk o b C' h with h|h;exact .inl h;exact .inr (jg _ h);exact .inr (jd _ h);simp only[oSl,wA] at q;cases l:Nat.beq i J with
   |true=>
    have:=ja l;subst this;rw[l] at q;simp at q;subst q;refine⟨v,by simp,SV.den_mono C.le _ _ (fun o z=> ?_) L⟩;have:o∉qY (b7 i) (RY i) s:=fun h=>W o h o z rfl
    cases s with
    |cl c=>
     cases c with
     |dat t=>rfl
     |row E t nl=>
      have m:o≠b7 i:=fun e=>this (by simp[qY,yV,e])
      simp only[Bs,Ht,SV.refs];cases g:Nat.beq o (b7 i) with
      |false=>rfl
      |true=>exact absurd (ja g) m
     |map kt vt=>
      have m:o≠b7 i:=fun e=>this (by simp[qY,yV,e])
      simp only[Bs,Ht,SV.refs];cases g:Nat.beq o (b7 i) with
      |false=>rfl
      |true=>exact absurd (ja g) m
    |box T cs=>
     have m:o≠b7 i:=fun e=>this (by simp[qY,e])
     simp only[Bs,SV.refs];cases g:Nat.beq o (b7 i) with
     |false=>rfl
     |true=>exact absurd (ja g) m
    |fbox f T cs=>
     have m:o≠b7 i:=fun e=>this (by simp[qY,e])
     simp only[Bs,SV.refs,SV.refs.refsL];cases g:Nat.beq o (b7 i) with
     |false=>simp
     |true=>exact absurd (ja g) m
    |agg cs=>simp only[Bs,SV.refs];exact yK cs d.1 0 this
   |false=>
    rw[l] at q;have M:=NK ps d.2 (i+1) J u q;obtain⟨x,O,Q⟩:=N J u q;exact⟨x,by rw[show J-i=(J-(i+1))+1 by omega];simpa using O,Q⟩
theorem lh {H:Imm}:∀(ps:List ba) (vs:List Value) (d:OD ps) (bs:List Nat),dx P H w ps vs d bs->vs.length=ps.length
 |[],vs,d,bs,h=>by obtain⟨rfl,_⟩:=h;rfl
 |p::ps,[],d,bs,h=>h.elim
 |p::ps,v::vs,d,bs,h=>by
  obtain⟨_,a,_,_,h⟩:=h
  simp[lh ps vs d.2 a h]
theorem NL {B':qw} {obj:Nat->Option Ob} (h:Sat P B ρ obj w) (a:B'.w=B.w) (c:B'.H=B.H) (b:B'.bor=B.bor):Sat P B' ρ obj w:=
 ⟨by rw[a];exact h.os,by rw[a];exact h.tape,by rw[a];exact h.output,by rw[a];exact h.drawn,by rw[a];exact h.size,h.good,by rw[a,c,b];exact h.oldH,by rw[a,b];exact h.old,h.obs,h.dead,h.inj,by rw[a,b];exact h.own⟩
theorem R1 {b:Env} {k:Nat} {s:Sh} {x:s.D} {v:Value} (d:∀p,b.blk k=some p->ρ.blk k=some p/\b.len k=ρ.len k) (h:SV.den P ρ (Bs k s x) v):SV.den P b (nv k s) v:=by
 cases s with
 |cl c=>
  cases c with
  |dat t=>simp[nv,SV.den]
  |row E t nl=>
   simp only[Bs,Ht,nv,SV.den] at h⊢;intro p a;obtain⟨g,i⟩:=d p a;rw[i];exact h p g
  |map kt vt=>
   simp only[Bs,Ht,nv,SV.den] at h⊢;intro p a;exact h p (d p a).1
 |box T cs=>
  simp only[Bs,nv,SV.den] at h⊢;intro p a;exact h p (d p a).1
 |fbox f T cs=>
  simp only[Bs,nv,SV.den,SV.denL] at h⊢;obtain⟨lb,e,u,r,j,m,l⟩:=h;exact⟨lb,e,u,r,j,fun p a=>m p (d p a).1,l⟩
 |agg cs=>simp[nv,SV.den]
theorem uw {σ τ:St} {fz:List Nat} (c:Sat P B ρ τ.obj w) (b:Frz σ τ fz) {tmps:Array Value} (d:∀s,SV.den P ρ (σ.get s) (tmps.getD s undef)):
 ∀(rs:List Sh) (rv:List ResultVar) (r:RD rs) (os f:List Nat),pY σ rs rv=some (r,os,f)->(∀o,o∈f->o∈fz)->pV σ τ os->
  ∃ss:List Nat,rv=ss.map ResultVar.tmp/\Vf ρ.H w rs (ss.map fun s=>tmps.getD s undef) r (w6 ρ os)
 |[],[],r,os,f,h,_,_=>by
  simp[pY] at h
  obtain⟨rfl,rfl⟩:=h
  exact⟨[],rfl,rfl,rfl⟩
 |[],_::_,r,os,f,h,_,_=>by simp[pY] at h
 |_::_,[],r,os,f,h,_,_=>by simp[pY] at h
 |s::rs,.cell _ _::rv,r,os,f,h,_,_=>by simp[pY] at h
 |s::rs,.tmp t::rv,r,os,f,h,hf,hk=>by
  simp only[pY] at h
  split at h
  case h_2=>cases h
  rename_i x o1 l j
  split at h
  case h_2=>cases h
  rename_i y o2 g k
  simp at h
  obtain⟨rfl,rfl,rfl⟩:=h
  obtain⟨ss,e,i⟩:=uw c b d rs rv y o2 g k (fun o a=>hf o (jd _ a)) (fun o a=>hk o (jd _ a))
  exact⟨t::ss,by simp[e],w6 ρ o1,w6 ρ o2,vT ρ o1 o2,bD c b j (fun o a=>hf o (jg _ a)) (fun o a=>hk o (jg _ a)) (d t),i⟩
theorem R2 {σ:St}:∀{s:Sh},Bp σ s .any=none
 | .cl (.dat t)=>by simp only[Bp,O8,H3]
 | .cl (.row _ _ _)=>rfl
 | .cl (.map _ _)=>rfl
 | .box _ _=>rfl
 | .fbox _ _ _=>rfl
 | .agg _=>rfl
theorem pZ {σ τ:St} {fz:List Nat} {a:Act} (i:C.ok P) (d:Sat P B ρ τ.obj w) (c:Frz σ τ fz) (j:∀s,SV.den P ρ (σ.get s) (a.tmps.getD s undef)):
 ∀(rs:List Sh) (rv:List ResultVar) (r:RD rs) (os f:List Nat),lg C σ rs rv=some (r,os,f)->(∀o,o∈f->o∈fz)->pV σ τ os->
  ∃vs:List Value,fc P w a.tmps rv vs/\Vf ρ.H w rs vs r (w6 ρ os)
 |[],[],r,os,f,h,_,_=>by
  simp[lg] at h
  obtain⟨rfl,rfl⟩:=h
  exact⟨[],rfl,rfl,rfl⟩
 |[],_::_,r,os,f,h,_,_=>by simp[lg] at h
 |_::_,[],r,os,f,h,_,_=>by simp[lg] at h
 |s::rs,t::rv,r,os,f,h,hf,hk=>by
  simp only[lg] at h
  split at h
  case h_2=>cases h
  rename_i x o1 q g
  split at h
  case h_2=>cases h
  rename_i y o2 k p
  simp at h
  obtain⟨rfl,rfl,rfl⟩:=h
  obtain⟨vs,e,n⟩:=pZ i d c j rs rv y o2 k p (fun o b=>hf o (jd _ b)) (fun o b=>hk o (jd _ b))
  obtain⟨u,l,m⟩:=Bk i d c j t (fun e=>by rw[e,R2] at g;cases g)
  exact⟨u::vs,⟨l,e⟩,w6 ρ o1,w6 ρ o2,vT ρ o1 o2,bD d c g (fun o b=>hf o (jg _ b)) (fun o b=>hk o (jg _ b)) m,n⟩
theorem qU {σ τ:St} {fz:List Nat} (e:Sat P B ρ τ.obj w) (d:Frz σ τ fz):
 ∀(ps:List ba) (i:Nat) (vs:List Value) (k:KD ps) (os f:List Nat),aa σ ps i=some (k,os,f)->vs.length=ps.length->(∀(j:Nat) s b v,ps[j]? =some (.own s b)->vs[j]? =some v->SV.den P ρ (nv (b7 (i+j)) s) v)->
  (∀o,o∈f->o∈fz)->pV σ τ os->sO ρ.H w ps vs k (w6 ρ os)
 |[],i,vs,k,os,f,h,_,_,_,_=>by
  simp[aa] at h
  obtain⟨rfl,rfl⟩:=h
  exact rfl
 |p::ps,i,[],k,os,f,h,hl,_,_,_=>by simp at hl
 |p::ps,i,v::vs,k,os,f,h,hl,hd,hf,hk=>by
  have a:∀(j:Nat) s b u,ps[j]? =some (.own s b)->vs[j]? =some u->SV.den P ρ (nv (b7 (i+1+j)) s) u:=fun j s b u n q=>by
   have:=hd (j+1) s b u (by simpa using n) (by simpa using q)
   rwa [show i+(j+1)=i+1+j by omega] at this
  have c:vs.length=ps.length:=by simpa using hl
  cases p with
  |val t=>exact qU e d ps (i+1) vs k os f h c a hf hk
  |ref t=>exact qU e d ps (i+1) vs k os f h c a hf hk
  |nil _=>exact qU e d ps (i+1) vs k os f h c a hf hk
  |clo _=>exact qU e d ps (i+1) vs k os f h c a hf hk
  |fn C rs=>exact qU e d ps (i+1) vs k os f h c a hf hk
  |own s b=>
   cases b with
   |false=>exact qU e d ps (i+1) vs k os f h c a hf hk
   |true=>
    simp only[aa] at h
    split at h
    case h_2=>cases h
    rename_i x o1 A r
    split at h
    case h_2=>cases h
    rename_i y o2 l z
    simp at h
    obtain⟨rfl,rfl,rfl⟩:=h
    have m:=hd 0 s true v rfl rfl
    exact⟨w6 ρ o1,w6 ρ o2,vT ρ o1 o2,bD e d r (fun o g=>hf o (jg _ g)) (fun o g=>hk o (jg _ g)) m,
     qU e d ps (i+1) vs y o2 l z c a (fun o g=>hf o (jd _ g)) (fun o g=>hk o (jd _ g))⟩
theorem F8:∀(ps:List ba) (d:OD ps) (i j:Nat) s b,ps[j]? =some (.own s b)->∃x:s.D,wA (oSl ps d i) (i+j)=some (Bs (b7 (i+j)) s x)
 |[],d,i,j,s,b,h=>by simp at h
 |p::ps,d,i,j,s,b,h=>by
  have:∃sv,oSl (p::ps) d i=(i,sv)::oSl ps d.2 (i+1):=by cases p<;>exact⟨_,rfl⟩
  obtain⟨sv,e⟩:=this
  cases j with
  |zero=>
   simp at h
   subst h
   exact⟨d.1,by simp[oSl,wA]⟩
  |succ j=>
   obtain⟨x,a⟩:=F8 ps d.2 (i+1) j s b (by simpa using h)
   refine⟨x,?_⟩
   rw[e,wt (by omega),show i+(j+1)=i+1+j by omega]
   exact a
theorem ZT (hC:C.ok P) (hm:P.follows .mixedOrders=true) {f:Nat} {fn:Func} {body:Code} {s:qB} (hf:P.funcs[f]? =some fn) (g:fn.body=some body)
 (I:(fn.name== "runtime.NumGoroutine")=false) (hn:fn.ntmps=C.n) (hps:s.ps.length<=C.n) (hnm:gm (K8 s.ps 0)=true) (A:Ann) (h:R0 C A fn body s):gq P f s:=by
 unfold R0 at h;refine⟨q8 hf g I,fun H w vals d bs hg i hnd O=> ?_⟩;have M:=lh s.ps vals d bs i;refine calls_of_wp hf g ?_;have hv:=ax _ _ (h d) O
 let B0:qw:=⟨w,H,bs,fun _=>none,fun _=>0⟩
 let t:Env:=⟨H,fun _=>none,fun _=>0⟩
 have hS0:Sat P B0 t (oo []) w:=by
  refine⟨rfl,rfl,rfl,jk _,jk _,hg,fun _ _ _=>rfl,fun _ _ _=>rfl,?_,fun _ _=>rfl,?_,?_⟩
  .intro o x hx;simp[oo,St.obj,wA] at hx
  .intro o o' b C1 C2 q;simp[t] at q
  .intro o b C1 q;simp[t] at q
 obtain⟨z,a,S⟩:=Ai s.ps 0 hS0 (d:=d) i hnd (fun b g=>⟨.inr g,fun o C' h=>by simp[t] at h⟩) (vq _ hnm)
  (fun n _=>⟨by simp[oo,St.obj,wA],fun o T fz cs h=>by simp[oo,St.obj,wA] at h⟩)
 let B:qw:=⟨w,H,bs,z.blk,z.len⟩
 have hSf:Sat P B z (⟨oSl s.ps d 0,oOb s.ps d 0⟩:St).obj w:=by
  have:=NL (B':=B) a.sat rfl rfl rfl;rw[j7] at this;exact this
 have hR:Rel P B C.n ⟨oSl s.ps d 0,oOb s.ps d 0⟩ {tmps:=vals.toArray++Array.replicate (fn.ntmps-vals.toArray.size) undef,defers:=[]} w:=by
  refine⟨rfl,by simp;omega,z,hSf,?_,fun o p _ X=>⟨X,rfl⟩,fun _ _ g=>by rw[a.H];exact g⟩;intro k v hk;obtain⟨x,q,h2⟩:=S k v hk;have N:=(jo.1 q).1;simp only[kH] at q N;have:(vals.toArray++Array.replicate (fn.ntmps-vals.toArray.size) undef).getD k undef=x:=by
   rw[jq,zg (by simpa using N)];simp[q]
  rw[this];exact h2
 refine yc hC hm A body _ _ _ _ w hv hR (fun e σ V w' _ Y Z=> ?_);have D:(match lg C σ s.rs fn.results.toList,aa σ s.ps 0 with
  |some (r,o1,W),some (k,o2,J)=>match gm (o1++o2),iP (W++J) (o1++o2) with
   |true,false=>r=(s.F d).1/\k=(s.F d).2
   |_,_=>False
  |_,_=>False)->V.defers=[]/\∃v,(Go.results fn V.tmps).run P w'= .ok v w'/\H9 H w bs s vals d (.returned v) w':=by
  intro Q
  split at Q
  case h_2=>exact Q.elim
  rename_i r o1 W k o2 J R G
  split at Q
  case h_2=>exact Q.elim
  rename_i hno hme;obtain⟨hr1,hr2⟩:=Q;obtain⟨q,h2,ρ',hS',hSl,K⟩:=Z;obtain⟨u,c,hle,L,hln⟩:=wN (σ:=σ) (W++J) hS';have hd:∀k,SV.den P u (σ.get k) (V.tmps.getD k undef):=by
   intro k;have:=wH (P:=P) (a:=V) hSl (.tmp k);exact SV.den_mono hle _ _ (fun o m=>by simp at m) this
  have l:pV σ (σ.frz (W++J)) (o1++o2):=by
   intro o m;rw[q7,jc];exact fun hm=>vY _ _ hme o hm m
  obtain⟨us,e1,e2⟩:=pZ hC c (vS σ _) hd s.rs _ _ _ _ R (fun o m=>jg _ m) (fun o m=>l o (jg _ m));have e3:=qU c (vS σ _) s.ps 0 vals k o2 J G M (fun j sh b v hj hvj=>by
   obtain⟨x,hx⟩:=F8 s.ps d 0 j sh b hj;obtain⟨y,y1,y2⟩:=S (0+j) _ hx;have:y=v:=by
    rw[show 0+j-0=j by omega,hvj] at y1;simpa using y1.symm
   subst this;refine R1 (fun p X=> ?_) y2;rw[L] at X;obtain⟨q1,q2⟩:=K.1 (b7 (0+j)) p (by unfold b7;omega) X;exact⟨q1,by rw[hln];exact q2⟩) (fun o m=>jd _ m) (fun o m=>l o (jd _ m))
  refine⟨q,_,gj e1,us,u.H,w6 u o1,w6 u o2,rfl,?_,by rw[<-hr1];exact e2,by rw[<-hr2];exact e3,?_,?_⟩
  .exact⟨c.os,c.tape,c.output,c.drawn,c.size,fun b g E=>c.old b g E,fun b g E=>c.oldH b g E,c.good⟩
  .rw[<-vT];exact gZ c _ (vq _ hno)
  .rw[<-vT];intro b g;obtain⟨o,Cp,_,h3⟩:=(w7 _).1 g;rcases c.own o b Cp h3 with h|h
   .exact .inr h
   .exact .inl h
 cases e with
 |normal=>exact D Y
 |ret=>exact D Y
 |exit id=>exact Y.elim
end
end Go.X
namespace Go.X
open Go.RowKit (Below)
def p4:SV->Option Nat
 | .own o _=>some o
 | .mp o=>some o
 | .bp o 0=>some o
 | .clo _ [.bp o 0]=>some o
 |_=>none
def Dx (C:Ctx) (σ:St):(p:ba)->SV->Option (p.Data×List Nat×List Nat)
 | .val t,v=>match yr σ t v with|some (x,f)=>some (x,[],f)|none=>none
 | .ref t,v=>match Kv σ t v with|some (x,f)=>some (x,[],f)|none=>none
 | .nil b,v=>match v with| .lit u=>(match RX b u with|true=>some ((),[],[])|false=>none)|_=>none
 | .clo f,v=>match v with| .clo g []=>(match Nat.beq g f with|true=>some ((),[],[])|false=>none)|_=>none
 | .fn ps rs,v=>match Xw C σ ps rs v with|some (x,f)=>some (x,[],f)|none=>none
 | .own s true,v=>match RZ s,p4 v with
  |true,some _=>Bp σ s v
  |_,_=>none
 | .own s false,v=>match RZ s with|true=>Bp σ s v|false=>none
def K9 (C:Ctx) (σ:St):(ps:List ba)->List SV->Option (OD ps×List Nat×List Nat)
 |[],[]=>some ((),[],[])
 |p::ps,v::vs=>match Dx C σ p v with
  |some (x,os,f)=>match K9 C σ ps vs with
   |some (y,a,b)=>some ((x,y),os++a,f++b)
   |none=>none
  |none=>none
 |_,_=>none
def Bu (v:SV):Nat:=match p4 v with|some o=>o|none=>0
def kn (dst i j:Nat):Nat:=1000*(dst+1)+50*i+j
def rn (dst j:Nat):Nat:=match j with|0=>dst|_=>1000*(dst+1)+900+j
def rnn (dst j i:Nat):Nat:=1000*(dst+1)+500+50*j+i
def vB (dst:Nat):(ps:List ba)->List SV->KD ps->Nat->List (Nat×Option Ob)
 | .own s true::ps,v::vs,d,i=>vB dst ps vs d.2 (i+1)++H7 (Bu v) (kn dst i) s d.1
 | .own _ false::ps,_::vs,d,i=>vB dst ps vs d (i+1)
 | .val _::ps,_::vs,d,i=>vB dst ps vs d (i+1)
 | .ref _::ps,_::vs,d,i=>vB dst ps vs d (i+1)
 | .nil _::ps,_::vs,d,i=>vB dst ps vs d (i+1)
 | .clo _::ps,_::vs,d,i=>vB dst ps vs d (i+1)
 | .fn _ _::ps,_::vs,d,i=>vB dst ps vs d (i+1)
 |_,_,_,_=>[]
def qd (dst:Nat):List ba->List SV->Nat->List Nat
 | .own s true::ps,v::vs,i=>qY (Bu v) (kn dst i) s++qd dst ps vs (i+1)
 | .own _ false::ps,_::vs,i=>qd dst ps vs (i+1)
 | .val _::ps,_::vs,i=>qd dst ps vs (i+1)
 | .ref _::ps,_::vs,i=>qd dst ps vs (i+1)
 | .nil _::ps,_::vs,i=>qd dst ps vs (i+1)
 | .clo _::ps,_::vs,i=>qd dst ps vs (i+1)
 | .fn _ _::ps,_::vs,i=>qd dst ps vs (i+1)
 |_,_,_=>[]
def qq (dst:Nat):List ba->List SV->Nat->List Nat
 | .own (.box _ cs) true::ps,_::vs,i=>yx (kn dst i) cs 0++qq dst ps vs (i+1)
 | .own (.fbox _ _ cs) true::ps,_::vs,i=>yx (kn dst i) cs 0++qq dst ps vs (i+1)
 | .own (.agg cs) true::ps,v::vs,i=>yx (nmA (Bu v)) cs 0++qq dst ps vs (i+1)
 | .own _ _::ps,_::vs,i=>qq dst ps vs (i+1)
 | .val _::ps,_::vs,i=>qq dst ps vs (i+1)
 | .ref _::ps,_::vs,i=>qq dst ps vs (i+1)
 | .nil _::ps,_::vs,i=>qq dst ps vs (i+1)
 | .clo _::ps,_::vs,i=>qq dst ps vs (i+1)
 | .fn _ _::ps,_::vs,i=>qq dst ps vs (i+1)
 |_,_,_=>[]
def fi (dst:Nat):(rs:List Sh)->RD rs->Nat->List (Nat×Option Ob)
 |[],_,_=>[]
 |s::rs,d,j=>fi dst rs d.2 (j+1)++H7 (rn dst j) (rnn dst j) s d.1
def gQ (dst:Nat):List Sh->Nat->List Nat
 |[],_=>[]
 |s::rs,j=>qY (rn dst j) (rnn dst j) s++gQ dst rs (j+1)
def p6 (dst:Nat):(rs:List Sh)->RD rs->Nat->List SV
 |[],_,_=>[]
 |s::rs,d,j=>Bs (rn dst j) s d.1::p6 dst rs d.2 (j+1)
def Ia:List SV->SV
 |[v]=>v
 |vs=> .tup vs
def li:List Nat->List (Nat×Option Ob)
 |[]=>[]
 |o::r=>(o,none)::li r
def Aj (σ:St):List Nat->Bool
 |[]=>true
 |n::r=>match σ.obj n,gT n σ.ob with
  |none,true=>Aj σ r
  |_,_=>false
def Bv (C:Ctx) (s:qB) (dst:Nat) (σ:St) (svs:List SV):Option Out:=
 match K9 C σ s.ps svs with
 |none=>none
 |some (d,os,fz)=>match gm os,iP fz os,gm (gQ dst s.rs 0++qd dst s.ps svs 0),Aj σ (gQ dst s.rs 0++qq dst s.ps svs 0) with
  |true,false,true,true=>some ⟨s.pre d,[],Ia (p6 dst s.rs (s.F d).1 0),fz,vB dst s.ps svs (s.F d).2 0++(fi dst s.rs (s.F d).1 0++li os),gQ dst s.rs 0++qq dst s.ps svs 0⟩
  |_,_,_,_=>none
def ja8 (C:Ctx) (l:List (Nat×qB)) (f dst:Nat) (σ:St) (svs:List SV):Option Out:=
 match wA l f with
 |some s=>Bv C s dst σ svs
 |none=>none
section
variable {P:Program} {B:qw} {C:Ctx} {σ τ:St} {ρ:Env} {w:World}
theorem R3 {b:Bool} {v:Value} (h:RX b v=true):v=jaU b:=by
 cases b with
 |true=>
  simp only[RX,sD] at h
  split at h
  rfl;cases h
 |false=>exact ym h
theorem La (k:C.ok P) (e:Sat P B ρ τ.obj w) {fz:List Nat} (d:Frz σ τ fz) {p:ba} {sv:SV} {x:p.Data} {os f:List Nat} (h:Dx C σ p sv=some (x,os,f)) (i:∀o,o∈f->o∈fz) (hk:pV σ τ os)
 {v:Value} (a:SV.den P ρ sv v):jaV P ρ.H w p v x (w6 ρ os):=by
 cases p with
 |val t=>
  simp only[Dx] at h
  split at h
  .rename_i y j g;simp at h;obtain⟨rfl,rfl,rfl⟩:=h;exact⟨wx e d g i a,rfl⟩
  .cases h
 |ref t=>
  simp only[Dx] at h
  split at h
  .rename_i y j g;simp at h;obtain⟨rfl,rfl,rfl⟩:=h;exact⟨eJ e d g i a,rfl⟩
  .cases h
 |nil _=>
  simp only[Dx] at h
  split at h
  case h_2=>cases h
  split at h
  case h_2=>cases h
  rename_i m;simp at h;obtain⟨rfl,rfl⟩:=h;simp only[SV.den] at a;exact⟨by rw[a,R3 m],rfl⟩
 |clo f=>
  simp only[Dx] at h
  split at h
  case h_2=>cases h
  split at h
  case h_2=>cases h
  rename_i l;simp at h;obtain⟨rfl,rfl⟩:=h;simp only[SV.den,SV.denL] at a;obtain⟨vs,rfl,c⟩:=a;have c:vs= #[]:=jF.1 (by simpa using c);have:=ja l;subst this;subst c;exact⟨rfl,rfl⟩
 |fn ps rs=>
  simp only[Dx] at h
  split at h
  .rename_i y j g;simp at h;obtain⟨rfl,rfl,rfl⟩:=h;exact⟨ED k e d g i a,rfl⟩
  .cases h
 |own s b=>
  cases b with
  |true=>
   simp only[Dx] at h
   split at h
   .exact bD e d h i hk a
   .cases h
  |false=>
   simp only[Dx] at h
   split at h
   .exact bD e d h i hk a
   .cases h
theorem EU (c:C.ok P) (g:Sat P B ρ τ.obj w) {fz:List Nat} (e:Frz σ τ fz):∀{ps:List ba} {svs:List SV} {d:OD ps} {os f:List Nat},K9 C σ ps svs=some (d,os,f)->(∀o,o∈f->o∈fz)->pV σ τ os->
 ∀{vs:List Value},SV.denL P ρ svs vs->dx P ρ.H w ps vs d (w6 ρ os)
 |[],[],d,os,f,h,_,_,vs,b=>by
  simp[K9] at h
  obtain⟨rfl,rfl⟩:=h
  simp[SV.denL] at b
  exact⟨b,rfl⟩
 |[],_::_,d,os,f,h,_,_,vs,b=>by simp[K9] at h
 |_::_,[],d,os,f,h,_,_,vs,b=>by simp[K9] at h
 |p::ps,sv::svs,d,os,f,h,hf,hk,vs,b=>by
  simp only[K9] at h
  split at h
  case h_2=>cases h
  rename_i x o1 m i
  split at h
  case h_2=>cases h
  rename_i y o2 n j
  simp at h
  obtain⟨rfl,rfl,rfl⟩:=h
  simp only[SV.denL] at b
  obtain⟨v,r,rfl,k,l⟩:=b
  exact⟨w6 ρ o1,w6 ρ o2,vT ρ o1 o2,La c g e i (fun o a=>hf o (jg _ a)) (fun o a=>hk o (jg _ a)) k,
   EU c g e j (fun o a=>hf o (jd _ a)) (fun o a=>hk o (jd _ a)) l⟩
theorem ZU {H:Imm} {c:Cl} {v:Value} {x:c.D} {bs:List Nat} (h:ClV H w c v x bs):∀b,b∈bs->H b=none:=by
 intro b a;cases c with
 |dat t=>obtain⟨_,rfl⟩:=h;simp at a
 |row E t nl=>
  rcases h.2 with⟨_,_,_,rfl⟩|⟨e,_,_,_,rfl,d,_⟩;simp at a;simp at a;subst a;exact d
 |map kt vt=>obtain⟨e,_,_,_,rfl,d,_⟩:=h;simp at a;subst a;exact d
theorem NM {H:Imm}:∀(cs:List Cl) (vs:List Value) (x:Cl.Ds cs) (bs:List Nat),UE H w cs vs x bs->∀b,b∈bs->H b=none
 |[],vs,x,bs,h,b,a=>by obtain⟨_,rfl⟩:=h;simp at a
 |c::cs,[],x,bs,h,b,a=>h.elim
 |c::cs,v::vs,x,bs,h,b,a=>by
  obtain⟨g,d,rfl,e,_,f⟩:=h
  rcases js.1 a with a|a
  exact ZU e b a
  exact NM cs vs x.2 d f b a
theorem ja9 {H:Imm} {s:Sh} {v:Value} {x:s.D} {bs:List Nat} (h:ShV H w s v x bs):∀b,b∈bs->H b=none:=by
 intro b d;cases s with
 |cl c=>exact ZU h b d
 |box T cs=>
  obtain⟨g,vs,bs',_,rfl,e,_,a⟩:=h;rcases jj.1 d with rfl|d;exact e;exact NM cs _ x bs' a b d
 |fbox f T cs=>
  obtain⟨g,vs,bs',_,rfl,e,_,a⟩:=h;rcases jj.1 d with rfl|d;exact e;exact NM cs _ x bs' a b d
 |agg cs=>
  obtain⟨vs,_,a⟩:=h;exact NM cs _ x bs a b d
theorem R4 {H:Imm}:∀(ps:List ba) (vs:List Value) (d:OD ps) (bs:List Nat),dx P H w ps vs d bs->∀b,b∈bs->H b=none
 |[],vs,d,bs,h,b,a=>by obtain⟨_,rfl⟩:=h;simp at a
 |p::ps,[],d,bs,h,b,a=>h.elim
 |p::ps,v::vs,d,bs,h,b,a=>by
  obtain⟨g,e,rfl,c,f⟩:=h
  rcases js.1 a with a|a
  cases p with
  |val t=>obtain⟨_,rfl⟩:=c;simp at a
  |ref t=>obtain⟨_,rfl⟩:=c;simp at a
  |nil _=>obtain⟨_,rfl⟩:=c;simp at a
  |clo _=>obtain⟨_,rfl⟩:=c;simp at a
  |fn i rs=>obtain⟨_,rfl⟩:=c;simp at a
  |own s k=>exact ja9 c b a
  exact R4 ps vs d.2 e f b a
def p7 (ρ:Env):List ba->List SV->List Value->Prop
 | .own s true::ps,sv::svs,v::vs=>(∃a b,ρ.blk (Bu sv)=some (O9 a s v)/\ρ.len (Bu sv)=RV b s v)/\p7 ρ ps svs vs
 | .own _ false::ps,_::svs,_::vs=>p7 ρ ps svs vs
 | .val _::ps,_::svs,_::vs=>p7 ρ ps svs vs
 | .ref _::ps,_::svs,_::vs=>p7 ρ ps svs vs
 | .nil _::ps,_::svs,_::vs=>p7 ρ ps svs vs
 | .clo _::ps,_::svs,_::vs=>p7 ρ ps svs vs
 | .fn _ _::ps,_::svs,_::vs=>p7 ρ ps svs vs
 |_,_,_=>True
theorem X2 (m:Sat P B ρ τ.obj w) {s:Sh} {sv:SV} {x:s.D} {os f:List Nat} (h:Bp σ s sv=some (x,os,f)) (z:RZ s=true) {r:Nat} (e:p4 sv=some r) (hk:pV σ τ os) {v:Value} (i:SV.den P ρ sv v):
 r∈os/\∃j I,ρ.blk r=some (O9 j s v)/\ρ.len r=RV I s v:=by
 unfold Bp at h
 split at h
 .rename_i c;unfold O8 at h
  split at h
  .cases z
  .rename_i E t nl o u;simp[p4] at e;subst e
   split at h
   case h_2=>cases h
   rename_i M O J l k
   split at h
   case h_2=>cases h
   simp at h;obtain⟨_,rfl,_⟩:=h;have a:=hk o (by simp);rw[k] at a;obtain⟨p,d,_⟩:=m.obs o _ a;simp only[SV.den] at i;have i:=i p d;refine⟨by simp,0,0,?_⟩;cases p with
   |none=>obtain⟨y,K⟩:=i;subst y;exact⟨d,K⟩
   |some q=>obtain⟨y,_⟩:=i;subst y;exact⟨d,rfl⟩
  .rename_i E t nl o u n;simp[p4] at e
  .rename_i E t nl u;simp[p4] at e
  .rename_i kt vt o;simp[p4] at e;subst e
   split at h
   case h_2=>cases h
   rename_i H L l k
   split at h
   case h_2=>cases h
   simp at h;obtain⟨_,rfl,_⟩:=h;have a:=hk o (by simp);rw[k] at a;obtain⟨p,d,A⟩:=m.obs o _ a;simp only[SV.den] at i;obtain⟨b,j,rfl,rfl⟩:=i p d;exact⟨by simp,j,ρ.len o,d,rfl⟩
  .cases h
 .rename_i T cs o;simp[p4] at e;subst e
  split at h
  case h_2=>cases h
  rename_i C vs k
  split at h
  case h_2=>cases h
  simp at h;obtain⟨_,rfl,_⟩:=h;have a:=hk o (by simp);rw[k] at a;obtain⟨p,d,A⟩:=m.obs o _ a;simp only[SV.den] at i;obtain⟨b,j,rfl,rfl⟩:=i p d;exact⟨by simp,j,ρ.len o,d,rfl⟩
 .rename_i g T cs N o;simp[p4] at e;subst e
  split at h
  case h_2=>cases h
  rename_i C vs k
  split at h
  case h_2=>cases h
  simp at h;obtain⟨_,rfl,_⟩:=h;have a:=hk o (by simp);rw[k] at a;obtain⟨p,d,A⟩:=m.obs o _ a;simp only[SV.den,SV.denL] at i;obtain⟨lb,rfl,u,r,F,G,e⟩:=i;obtain⟨b,j,rfl,rfl⟩:=G p d;subst e;refine⟨by simp,j,ρ.len o,?_,rfl⟩;simp only[O9,F];exact d
 .cases z
 .cases h
theorem EV (A:Sat P B ρ τ.obj w):∀{ps:List ba} {svs:List SV} {d:OD ps} {os f:List Nat},K9 C σ ps svs=some (d,os,f)->pV σ τ os->
 ∀{vs:List Value},SV.denL P ρ svs vs->p7 ρ ps svs vs/\∀dst i n,n∈qd dst ps svs i->n∈os\/n∈qq dst ps svs i
 |[],[],d,os,f,h,_,vs,m=>⟨trivial,fun dst i n a=>by simp[qd] at a⟩
 |[],_::_,d,os,f,h,_,vs,m=>by simp[K9] at h
 |_::_,[],d,os,f,h,_,vs,m=>by simp[K9] at h
 |p::ps,sv::svs,d,os,f,h,hk,vs,m=>by
  simp only[K9] at h
  split at h
  case h_2=>cases h
  rename_i x o1 J q
  split at h
  case h_2=>cases h
  rename_i y o2 K D
  simp at h
  obtain⟨rfl,rfl,rfl⟩:=h
  simp only[SV.denL] at m
  obtain⟨v,r,rfl,H,I⟩:=m
  obtain⟨k,F⟩:=EV A D (fun o u=>hk o (jd _ u)) I
  have e:∀dst i n,n∈qd dst ps svs (i+1)->n∈o1++o2\/n∈qq dst ps svs (i+1):=fun dst i n a=>by
   rcases F dst (i+1) n a with h|h
   .exact .inl (jd _ h)
   .exact .inr h
  cases p with
  |val t=>exact⟨k,fun dst i n a=>e dst i n a⟩
  |ref t=>exact⟨k,fun dst i n a=>e dst i n a⟩
  |nil _=>exact⟨k,fun dst i n a=>e dst i n a⟩
  |clo _=>exact⟨k,fun dst i n a=>e dst i n a⟩
  |fn L rs=>exact⟨k,fun dst i n a=>e dst i n a⟩
  |own s b=>
   cases b with
   |false=>exact⟨k,fun dst i n a=>by
    have:=e dst i n a
    cases s<;>exact this⟩
   |true=>
    simp only[Dx] at q
    split at q
    case h_2=>cases q
    rename_i rt j l
    obtain⟨z,G⟩:=X2 A q j l (fun o u=>hk o (jg _ u)) H
    have g:Bu sv=rt:=by unfold Bu;rw[l]
    refine⟨⟨by rw[g];exact G,k⟩,fun dst i n a=> ?_⟩
    simp only[qd,js] at a
    rcases a with a|a
    .cases s with
     |cl c=>
      have:n=rt:=by
       cases c with
       |dat t=>cases j
       |row E t nl=>simpa[qY,yV,g] using a
       |map kt vt=>simpa[qY,yV,g] using a
      subst this;exact .inl (jg _ z)
     |box T cs=>
      simp only[qY,jj] at a;rcases a with a|a
      .rw[g] at a;subst a;exact .inl (jg _ z)
      .exact .inr (by simp only[qq];exact jg _ a)
     |fbox f T cs=>
      simp only[qY,jj] at a;rcases a with a|a
      .rw[g] at a;subst a;exact .inl (jg _ z)
      .exact .inr (by simp only[qq];exact jg _ a)
     |agg cs=>cases j
    .rcases e dst i n a with h|h
     .exact .inl h
     .refine .inr ?_;cases s with
      |cl c=>exact h
      |box T cs=>simp only[qq];exact jd _ h
      |fbox f T cs=>simp only[qq];exact jd _ h
      |agg cs=>cases j
theorem F9 (dst:Nat):∀(rs:List Sh) (j:Nat) {ob:List (Nat×Option Ob)} {ρ:Env} (_:Sat P B ρ (oo ob) w) {vs:List Value} {d:RD rs} {bs:List Nat} (_:Vf ρ.H w rs vs d bs) (_:bs.Nodup) (_:∀b,b∈bs->OkB B ρ b)
 (_:(gQ dst rs j).Nodup) (_:∀n,n∈gQ dst rs j->oo ob n=none/\vD (oo ob) n),
 ∃r,oe P B ρ w ob (fi dst rs d j) (gQ dst rs j) bs r/\SV.denL P r (p6 dst rs d j) vs
 |[],j,ob,ρ,u,vs,d,bs,q,_,_,_,_=>by
  obtain⟨rfl,rfl⟩:=q
  exact⟨ρ,⟨u,Env.le.refl _ _,rfl,fun _ _=>⟨rfl,rfl⟩,fun _ _ _ h=> .inl h⟩,by simp[p6,SV.denL]⟩
 |s::rs,j,ob,ρ,u,[],d,bs,q,_,_,_,_=>q.elim
 |s::rs,j,ob,ρ,u,v::vs,d,bs,q,hnd,hb,i,hk=>by
  obtain⟨V,C,rfl,R,S⟩:=q
  simp only[gQ] at i hk
  rw[zB] at i hnd
  obtain⟨M,N,A⟩:=i
  obtain⟨F,G,I⟩:=hnd
  obtain⟨ρ1,m,J,_⟩:=K7 u (s:=s) (k:=rn dst j) (nm:=rnn dst j) R F (fun b a=>hb b (jg _ a)) M (fun n y=>hk n (jg _ y)) 0 0
  obtain⟨z,p,e2⟩:=F9 dst rs (j+1) m.sat (vs:=vs) (d:=d.2) (bs:=C) (by rw[m.H];exact S) G (fun b a=>⟨(hb b (jd _ a)).1,fun o C' h=>by
   rcases m.blk o b C' h with h|h
   exact(hb b (jd _ a)).2 o C' h
   exact I b h b a rfl⟩) N (fun n y=>by
   obtain⟨K,L⟩:=hk n (jd _ y)
   have i:n∉qY (rn dst j) (rnn dst j) s:=fun h=>A n h n y rfl
   exact⟨by rw[y5 (by rw[lf];exact i)];exact K,F7 i L⟩)
  refine⟨z,⟨by simp only[fi,jJ];exact p.sat,?_,p.H.trans m.H,fun o l=> ?_,fun o b C' h=> ?_⟩,?_⟩
  exact(m.le.weaken (fun o l=>jg _ l)).trans (p.le.weaken (fun o l=>jd _ l))
  simp only[gQ,js,not_or] at l
  obtain⟨s1,s2⟩:=m.same o l.1
  obtain⟨O,Q⟩:=p.same o l.2
  exact⟨O.trans s1,Q.trans s2⟩
  rcases p.blk o b C' h with h|h
  rcases m.blk o b C' h with h|h
  exact .inl h
  exact .inr (jg _ h)
  exact .inr (jd _ h)
  simp only[p6,SV.denL]
  refine⟨v,vs,rfl,SV.den_mono p.le _ _ (fun o l=> ?_) J,e2⟩
  exact svSh_refs (fun h=>A o h o l rfl)
where
 svSh_refs {o k:Nat} {nm:Nat->Nat} {s:Sh} {x:s.D} (h:o∉qY k nm s):(Bs k s x).refs o=false:=by
  cases s with
  |cl c=>
   cases c with
   |dat t=>rfl
   |row E t nl=>
    have g:o≠k:=fun e=>h (by simp[qY,yV,e])
    simp only[Bs,Ht,SV.refs];cases a:Nat.beq o k with
    |false=>rfl
    |true=>exact absurd (ja a) g
   |map kt vt=>
    have g:o≠k:=fun e=>h (by simp[qY,yV,e])
    simp only[Bs,Ht,SV.refs];cases a:Nat.beq o k with
    |false=>rfl
    |true=>exact absurd (ja a) g
  |box T cs=>
   have g:o≠k:=fun e=>h (by simp[qY,e])
   simp only[Bs,SV.refs];cases a:Nat.beq o k with
   |false=>rfl
   |true=>exact absurd (ja a) g
  |fbox f T cs=>
   have g:o≠k:=fun e=>h (by simp[qY,e])
   simp only[Bs,SV.refs,SV.refs.refsL];cases a:Nat.beq o k with
   |false=>simp
   |true=>exact absurd (ja a) g
  |agg cs=>simp only[Bs,SV.refs];exact yK cs x 0 h
theorem aA {ρ1:Env} (dst:Nat):∀(ps:List ba) (i:Nat) {ob:List (Nat×Option Ob)} {ρ:Env} (_:Sat P B ρ (oo ob) w) {svs:List SV} {vs:List Value} {d:KD ps} {bs:List Nat} (_:svs.length=vs.length) (_:sO ρ.H w ps vs d bs) (_:bs.Nodup)
 (_:∀b,b∈bs->OkB B ρ b) (_:(qd dst ps svs i).Nodup) (_:∀n,n∈qd dst ps svs i->oo ob n=none/\vD (oo ob) n) (_:p7 ρ1 ps svs vs),
 ∃u,oe P B ρ w ob (vB dst ps svs d i) (qd dst ps svs i) bs u/\∀n,n∈qd dst ps svs i->n∈qq dst ps svs i\/(u.blk n=ρ1.blk n/\u.len n=ρ1.len n)
 |[],i,ob,ρ,m,svs,vs,d,bs,_,q,_,_,_,_,_=>by
  have:bs=[]:=q
  subst this
  have A:vB dst [] svs d i=[]:=rfl
  have e2:qd dst [] svs i=[]:=rfl
  rw[A,e2]
  exact⟨ρ,⟨m,Env.le.refl _ _,rfl,fun _ _=>⟨rfl,rfl⟩,fun _ _ _ h=> .inl h⟩,fun n e=>by simp at e⟩
 |p::ps,i,ob,ρ,m,[],[],d,bs,_,q,_,_,_,_,_=>by
  cases p with
  |own s b=>cases b<;>exact q.elim
  |_=>exact q.elim
 |p::ps,i,ob,ρ,m,[],v::vs,d,bs,hl,_,_,_,_,_,_=>by simp at hl
 |p::ps,i,ob,ρ,m,sv::svs,[],d,bs,hl,_,_,_,_,_,_=>by simp at hl
 |p::ps,i,ob,ρ,m,sv::svs,v::vs,d,bs,hl,q,hnd,hb,g,hk,hr=>by
  have l:svs.length=vs.length:=by simpa using hl
  cases p with
  |val t=>exact aA dst ps (i+1) m l q hnd hb g hk hr
  |ref t=>exact aA dst ps (i+1) m l q hnd hb g hk hr
  |nil _=>exact aA dst ps (i+1) m l q hnd hb g hk hr
  |clo _=>exact aA dst ps (i+1) m l q hnd hb g hk hr
  |fn qs rs=>exact aA dst ps (i+1) m l q hnd hb g hk hr
  |own s b=>
   cases b with
   |false=>
    obtain⟨u,a,h⟩:=aA dst ps (i+1) m l q hnd hb g hk hr
    exact⟨u,a,fun n e=>by
     have:=h n e
     cases s<;>exact this⟩
   |true=>
    obtain⟨b1,G,rfl,v1,v2⟩:=q
    obtain⟨⟨F,N,X,Y⟩,Z⟩:=hr
    simp only[qd] at g hk
    rw[zB] at g hnd
    obtain⟨O,Q,D⟩:=g
    obtain⟨I,J,K⟩:=hnd
    obtain⟨ρ2,x,_,A⟩:=K7 m (s:=s) (k:=Bu sv) (nm:=kn dst i) v1 I (fun b r=>hb b (jg _ r)) O (fun n e=>hk n (jg _ e)) F N
    obtain⟨C,z,e2⟩:=aA (ρ1:=ρ1) dst ps (i+1) x.sat (svs:=svs) (vs:=vs) (d:=d.2) (bs:=G) l (by rw[x.H];exact v2) J (fun b r=>⟨(hb b (jd _ r)).1,fun o C' h=>by
     rcases x.blk o b C' h with h|h
     exact(hb b (jd _ r)).2 o C' h
     exact K b h b r rfl⟩) Q (fun n e=>by
     obtain⟨L,M⟩:=hk n (jd _ e)
     have g:n∉qY (Bu sv) (kn dst i) s:=fun h=>D n h n e rfl
     exact⟨by rw[y5 (by rw[lf];exact g)];exact L,F7 g M⟩) Z
    refine⟨C,⟨by simp only[vB,jJ];exact z.sat,?_,z.H.trans x.H,fun o y=> ?_,fun o b C' h=> ?_⟩,fun n e=> ?_⟩
    exact(x.le.weaken (fun o y=>jg _ y)).trans (z.le.weaken (fun o y=>jd _ y))
    simp only[qd,js,not_or] at y
    obtain⟨s1,s2⟩:=x.same o y.1
    obtain⟨s3,s4⟩:=z.same o y.2
    exact⟨s3.trans s1,s4.trans s2⟩
    rcases z.blk o b C' h with h|h
    rcases x.blk o b C' h with h|h
    exact .inl h
    exact .inr (jg _ h)
    exact .inr (jd _ h)
    simp only[qd,js] at e
    rcases e with e|e
    by_cases j:n=Bu sv
    subst j
    obtain⟨R,S⟩:=A e
    obtain⟨V,W⟩:=z.same (Bu sv) (fun h=>D _ e _ h rfl)
    exact .inr ⟨by rw[V,R,X],by rw[W,S,Y]⟩
    cases s with
    |cl c=>
     cases c with
     |dat t=>simp[qY,yV] at e
     |row E t nl=>exact absurd (by simpa[qY,yV] using e) j
     |map kt vt=>exact absurd (by simpa[qY,yV] using e) j
    |box T cs=>
     simp only[qY,jj] at e
     rcases e with e|e
     exact absurd e j
     exact .inl (by simp only[qq];exact jg _ e)
    |fbox f T cs=>
     simp only[qY,jj] at e
     rcases e with e|e
     exact absurd e j
     exact .inl (by simp only[qq];exact jg _ e)
    |agg cs=>exact .inl (by simp only[qq];exact jg _ e)
    rcases e2 n e with h|h
    refine .inl ?_
    cases s with
    |cl c=>exact h
    |box T cs=>simp only[qq];exact jd _ h
    |fbox f T cs=>simp only[qq];exact jd _ h
    |agg cs=>simp only[qq];exact jd _ h
    exact .inr h
end
end Go.X
namespace Go.X
open Go.RowKit (Below)
section
variable {P:Program} {B:qw} {C:Ctx} {σ τ:St} {ρ:Env} {w:World}
theorem v6 (dst:Nat):∀(ps:List ba) (svs:List SV) (d:KD ps) (i n:Nat),n∈vk (vB dst ps svs d i)↔n∈qd dst ps svs i
 |[],svs,d,i,n=>by
  have a:vB dst [] svs d i=[]:=rfl
  have e2:qd dst [] svs i=[]:=rfl
  rw[a,e2];simp[vk]
 |p::ps,[],d,i,n=>by
  cases p with
  |own s b=>cases b<;>simp[vB,qd,vk]
  |_=>simp[vB,qd,vk]
 |p::ps,sv::svs,d,i,n=>by
  cases p with
  |val t=>exact v6 dst ps svs d (i+1) n
  |ref t=>exact v6 dst ps svs d (i+1) n
  |nil _=>exact v6 dst ps svs d (i+1) n
  |clo _=>exact v6 dst ps svs d (i+1) n
  |fn c rs=>exact v6 dst ps svs d (i+1) n
  |own s b=>
   cases b with
   |false=>exact v6 dst ps svs d (i+1) n
   |true=>
    simp only[vB,qd,pX,js,lf,v6 dst ps svs d.2 (i+1) n]
    exact or_comm
theorem mo (dst:Nat):∀(rs:List Sh) (d:RD rs) (j n:Nat),n∈vk (fi dst rs d j)↔n∈gQ dst rs j
 |[],d,j,n=>by simp[fi,gQ,vk]
 |s::rs,d,j,n=>by
  simp only[fi,gQ,pX,js,lf,mo dst rs d.2 (j+1) n]
  exact or_comm
theorem vH (dst:Nat):∀(ps:List ba) (svs:List SV) (i n:Nat),n∈qq dst ps svs i->n∈qd dst ps svs i
 |[],svs,i,n,h=>by
  have a:qq dst [] svs i=[]:=rfl
  rw[a] at h;simp at h
 |p::ps,[],i,n,h=>by
  cases p with
  |own s b=>cases s<;>cases b<;>simp[qq] at h
  |_=>simp[qq] at h
 |p::ps,sv::svs,i,n,h=>by
  cases p with
  |val t=>exact vH dst ps svs (i+1) n h
  |ref t=>exact vH dst ps svs (i+1) n h
  |nil _=>exact vH dst ps svs (i+1) n h
  |clo _=>exact vH dst ps svs (i+1) n h
  |fn d rs=>exact vH dst ps svs (i+1) n h
  |own s b=>
   cases b with
   |false=>cases s<;>exact vH dst ps svs (i+1) n h
   |true=>
    simp only[qd,js]
    cases s with
    |cl c=>exact .inr (vH dst ps svs (i+1) n h)
    |box T cs=>
     simp only[qq,js] at h
     rcases h with h|h
     exact .inl (by simp[qY,h])
     exact .inr (vH dst ps svs (i+1) n h)
    |fbox f T cs=>
     simp only[qq,js] at h
     rcases h with h|h
     exact .inl (by simp[qY,h])
     exact .inr (vH dst ps svs (i+1) n h)
    |agg cs=>
     simp only[qq,js] at h
     rcases h with h|h
     exact .inl (by simp[qY,h])
     exact .inr (vH dst ps svs (i+1) n h)
theorem W2 {k:Nat} {nm:Nat->Nat} {s:Sh} {x:s.D} {o T:Nat} {fz:Bool} {cs:List SV} (h:(o,some (.box T fz cs))∈H7 k nm s x) {r:Nat} (b:SV.refs.refsL r cs=true):
 ∃cl,((∃a,s= .box a cl)\/∃f a,s= .fbox f a cl)/\r∈yx nm cl 0:=by
 cases s with
 |cl c=>exact absurd h (mn k c x o T fz cs)
 |box a cl=>
  simp only[H7,jj] at h;rcases h with h|h;simp at h;obtain⟨_,_,_,rfl⟩:=h;refine⟨cl,.inl ⟨a,rfl⟩,Classical.byContradiction fun d=> ?_⟩;rw[yK cl x 0 d] at b;cases b;exact absurd h (vZ nm cl x 0 o T fz cs)
 |fbox f a cl=>
  simp only[H7,jj] at h;rcases h with h|h;simp at h;obtain⟨_,_,_,rfl⟩:=h;refine⟨cl,.inr ⟨f,a,rfl⟩,Classical.byContradiction fun d=> ?_⟩;rw[yK cl x 0 d] at b;cases b;exact absurd h (vZ nm cl x 0 o T fz cs)
 |agg cl=>exact absurd h (vZ (nmA k) cl x 0 o T fz cs)
theorem Lb (dst:Nat):∀(rs:List Sh) (d:RD rs) (j:Nat) {o T:Nat} {fz:Bool} {cs:List SV},(o,some (.box T fz cs))∈fi dst rs d j->∀r,SV.refs.refsL r cs=true->r∈gQ dst rs j
 |[],d,j,o,T,fz,cs,h,r,a=>by simp[fi] at h
 |s::rs,d,j,o,T,fz,cs,h,r,a=>by
  simp only[fi,js] at h
  simp only[gQ,js]
  rcases h with h|h
  exact .inr (Lb dst rs d.2 (j+1) h r a)
  obtain⟨cl,e,b⟩:=W2 h a
  rcases e with⟨c,rfl⟩|⟨f,c,rfl⟩
  exact .inl (by simp[qY,b])
  exact .inl (by simp[qY,b])
theorem cu (dst:Nat):∀(ps:List ba) (svs:List SV) (d:KD ps) (i:Nat) {o T:Nat} {fz:Bool} {cs:List SV},(o,some (.box T fz cs))∈vB dst ps svs d i->∀r,SV.refs.refsL r cs=true->r∈qq dst ps svs i
 |[],svs,d,i,o,T,fz,cs,h,r,a=>by
  have k:vB dst [] svs d i=[]:=rfl
  rw[k] at h;simp at h
 |p::ps,[],d,i,o,T,fz,cs,h,r,a=>by
  cases p with
  |own s b=>cases b<;>simp[vB] at h
  |_=>simp[vB] at h
 |p::ps,sv::svs,d,i,o,T,fz,cs,h,r,a=>by
  cases p with
  |val t=>exact cu dst ps svs d (i+1) h r a
  |ref t=>exact cu dst ps svs d (i+1) h r a
  |nil _=>exact cu dst ps svs d (i+1) h r a
  |clo _=>exact cu dst ps svs d (i+1) h r a
  |fn l rs=>exact cu dst ps svs d (i+1) h r a
  |own s b=>
   cases b with
   |false=>cases s<;>exact cu dst ps svs d (i+1) h r a
   |true=>
    simp only[vB,js] at h
    rcases h with h|h
    have:=cu dst ps svs d.2 (i+1) h r a
    cases s with
    |cl c=>exact this
    |box g cl=>simp only[qq];exact jd _ this
    |fbox f g cl=>simp only[qq];exact jd _ this
    |agg cl=>simp only[qq];exact jd _ this
    obtain⟨cl,e,j⟩:=W2 h a
    rcases e with⟨g,e⟩|⟨f,g,e⟩
    subst e
    simp only[qq];exact jg _ j
    subst e
    simp only[qq];exact jg _ j
theorem p8:∀(l:List Nat),Aj σ l=true->∀n,n∈l->σ.obj n=none/\gT n σ.ob=true
 |[],_,n,h=>by simp at h
 |m::r,h,n,a=>by
  simp only[Aj] at h
  split at h
  rename_i b c
  rcases jj.1 a with rfl|a
  exact⟨b,c⟩
  exact p8 r h n a
  cases h
theorem EW:∀(os:List Nat) (o:Nat),wA (li os) o=if o∈os then some none else none
 |[],o=>by simp[li,wA]
 |k::r,o=>by
  simp only[li,wA]
  cases b:Nat.beq k o with
  |true=>have:=ja b;subst this;simp
  |false=>
   have a:=wX b
   rw[EW r o]
   simp[Ne.symm a]
theorem Vg {vs:List Value}:∀{svs:List SV},SV.denL P ρ svs vs->SV.den P ρ (Ia svs) (X0 vs):=by
 intro svs h;cases svs with
 |nil=>
  simp only[SV.denL] at h;subst h;simp only[Ia,X0,SV.den];exact⟨_,rfl,by simp[SV.denL]⟩
 |cons a r=>
  have d:=h;simp only[SV.denL] at h;obtain⟨v,us,rfl,e,c⟩:=h;cases r with
  |nil=>
   simp only[SV.denL] at c;subst c;exact e
  |cons b r=>
   have f:=c;simp only[SV.denL] at c;obtain⟨u,g,rfl,_,_⟩:=c;simp only[Ia,X0,SV.den];exact⟨_,rfl,by simpa using d⟩
theorem Ga (dst:Nat):∀(rs:List Sh) (d:RD rs) (j r:Nat),SV.refs.refsL r (p6 dst rs d j)=true->r∈gQ dst rs j
 |[],d,j,r,h=>by simp[p6,SV.refs.refsL] at h
 |s::rs,d,j,r,h=>by
  simp only[p6,SV.refs.refsL] at h
  simp only[gQ,js]
  split at h
  rename_i a
  refine .inl (Classical.byContradiction fun b=> ?_)
  rw[F9.svSh_refs b] at a;cases a
  exact .inr (Ga dst rs d.2 (j+1) r h)
theorem Vh {r:Nat}:∀{svs:List SV},(Ia svs).refs r=true->SV.refs.refsL r svs=true:=by
 intro svs h;cases svs with
 |nil=>simpa[Ia,SV.refs] using h
 |cons a l=>
  cases l with
  |nil=>simp only[Ia] at h;simp[SV.refs.refsL,h]
  |cons b l=>simpa[Ia,SV.refs] using h
theorem fj (hC:C.ok P) {dst:Nat} {ps:List ba} {rs:List Sh} {pre:OD ps->List Prop} {svs:List SV} {d:OD ps} {os fz:List Nat} (hz:K9 C σ ps svs=some (d,os,fz)) (hno:gm os=true) (hme:iP fz os=false)
 {vals:List Value} (hS:Sat P B ρ σ.obj w) (hd:SV.denL P ρ svs vals):
 ∃ρ1,ρ.le ρ1 []/\Sat P B ρ1 (σ.frz fz).obj w/\ρ1.blk=ρ.blk/\dx P ρ1.H w ps vals d (w6 ρ1 os)/\(w6 ρ1 os).Nodup/\
  ∀(F:OD ps->RD rs×KD ps) (out:Out),Bv C ⟨ps,rs,pre,F⟩ dst σ svs=some out->∀e w',H9 ρ1.H w (w6 ρ1 os) ⟨ps,rs,pre,F⟩ vals d e w'->∃v,e= .returned v/\wu P B ρ σ out v w':=by
 obtain⟨ρ1,u,I,hb1,hn1⟩:=wN (σ:=σ) fz hS;have D:pV σ (σ.frz fz) os:=by
  intro o g;rw[q7,jc];exact fun i=>vY _ _ hme o i g
 have hd1:=SV.denL_mono I _ _ (fun o g=>by simp at g) hd;have A:=EU hC u (vS σ fz) hz (fun o g=>g) D hd1;obtain⟨R,G⟩:=EV u hz D hd1;have hbn:=gZ u os (vq _ hno);have hlen:svs.length=vals.length:=qv _ _ hd;refine⟨ρ1,I,u,hb1,A,hbn,fun F out h e w' he=> ?_⟩
 let s:qB:=⟨ps,rs,pre,F⟩
 have h:Bv C s dst σ svs=some out:=h;have he:H9 ρ1.H w (w6 ρ1 os) s vals d e w':=he;unfold Bv at h;rw[show K9 C σ s.ps svs=some (d,os,fz) from hz] at h;simp only at h
 split at h
 case h_2=>cases h
 rename_i _ _ O X;simp at h;subst h;have O:=vq _ O;rw[zB] at O;obtain⟨hn1',hn2',S⟩:=O;have X:=p8 _ X;obtain⟨vs,H',rb,kb,rfl,N,hres,Y,V,Z⟩:=he;rw[zB] at V;obtain⟨hnd1,hnd2,hnd3⟩:=V
 let Bx:qw:=⟨w,ρ1.H,w6 ρ1 os,fun _=>none,fun _=>0⟩
 let K:Env:=⟨H',fun _=>none,ρ1.len⟩
 have hSe:Sat P Bx K (oo []) w':=by
  refine⟨N.os,N.tape,N.output,N.drawn,N.size,N.good,N.old,N.block,?_,fun _ _=>rfl,?_,?_⟩
  .intro o x L;simp[oo,St.obj,wA] at L
  .intro o o' b C1 C2 h1;simp[K] at h1
  .intro o b C1 h1;simp[K] at h1
 have okB:∀b,b∈rb++kb->(Bx.w.heap.size<=b\/b∈Bx.bor):=fun b m=>(Z b m).symm
 obtain⟨ρ2,a1,e1⟩:=F9 dst s.rs 0 hSe hres hnd1 (fun b m=>⟨okB b (jg _ m),fun o C' h=>by simp[K] at h⟩) hn1'
  (fun n _=>⟨by simp[oo,St.obj,wA],fun o T fz cs h=>by simp[oo,St.obj,wA] at h⟩)
 have M:∀n,n∈qd dst s.ps svs 0->oo (fi dst s.rs (s.F d).1 0++[]) n=none/\vD (oo (fi dst s.rs (s.F d).1 0++[])) n:=by
  intro n hn;have hnr:n∉gQ dst s.rs 0:=fun i=>S n i n hn rfl
  refine⟨by rw[y5 (by rw[mo];exact hnr)];simp[oo,St.obj,wA],fun o T fz' cs g=> ?_⟩;rw[j7] at g;simp only[oo,St.obj] at g
  split at g
  .rename_i y hy;subst g;cases hc:SV.refs.refsL n cs with
   |false=>rfl
   |true=>exact absurd (Lb dst s.rs _ 0 (qj _ _ _ hy) n hc) hnr
  .cases g
 obtain⟨J,a2,e2⟩:=aA (ρ1:=ρ1) dst s.ps 0 a1.sat (svs:=svs) (vs:=vals) hlen (by rw[a1.H];exact Y) hnd2 (fun b m=>⟨okB b (jd _ m),fun o C' h=>by
  rcases a1.blk o b C' h with h|h
  .simp[K] at h
  .exact hnd3 b h b m rfl⟩) hn2' M R
 have hH3:J.H=H':=a2.H.trans a1.H
 let nw:=gQ dst s.rs 0++qq dst s.ps svs 0
 have q:∀n,n∈nw->vD (σ.frz fz).obj n:=by
  intro n hn r T f cs z;obtain⟨_,q2⟩:=X n hn;rw[q7] at z;have base:∀T f cs,σ.obj r=some (.box T f cs)->SV.refs.refsL n cs=false:=by
   intro T f cs L;simp only[St.obj] at L
   split at L
   .rename_i y hy;subst L;exact gV _ _ _ _ _ _ q2 (qj _ _ _ hy)
   .cases L
  split at z
  .cases L:σ.obj r with
   |none=>rw[L] at z;cases z
   |some y=>
    rw[L] at z;cases y<;>simp[ve] at z
    obtain⟨rfl,_,rfl⟩:=z;exact base _ _ _ L
  .exact base _ _ _ z
 have t:∀o,o∉nw->o∉qd dst s.ps svs 0->J.blk o=none/\J.len o=ρ1.len o:=by
  intro o g hk;obtain⟨q1,q2⟩:=a2.same o hk;obtain⟨q3,q4⟩:=a1.same o (fun h=>g (jg _ h));exact⟨q1.trans q3,q2.trans q4⟩
 have hle:(sJ os ρ1).le J nw:=by
  refine⟨fun b c m=> ?_,fun o p g hp=> ?_,fun o g=> ?_⟩
  .have m:ρ1.H b=some c:=m;have hnb:b∉w6 ρ1 os:=fun i=>by
    have:=R4 s.ps vals d _ A b i;rw[this] at m;cases m
   rw[hH3,N.old b (u.good.lt m) hnb];exact m
  .by_cases hk:o∈qd dst s.ps svs 0
   .rcases e2 o hk with h|⟨h,_⟩
    .exact absurd (jd _ h) g
    .rcases G dst 0 o hk with i|i
     .simp only[sJ];rw[jh i,<-h];exact hp
     .exact absurd (jd _ i) g
   .rw[(t o g hk).1] at hp;cases hp
  .by_cases hk:o∈qd dst s.ps svs 0
   .rcases e2 o hk with h|⟨_,h⟩
    .exact absurd (jd _ h) g
    .exact h
   .exact(t o g hk).2
 have E:∀o,o∈vk (vB dst s.ps svs (s.F d).2 0++fi dst s.rs (s.F d).1 0)->o∈nw\/o∈os:=by
  intro o g;rw[pX,v6,mo] at g;rcases g with h|h
  .rcases G dst 0 o h with h|h
   .exact .inr h
   .exact .inl (jd _ h)
  .exact .inl (jg _ h)
 have hsat3:Sat P Bx J (oo (vB dst s.ps svs (s.F d).2 0++fi dst s.rs (s.F d).1 0)) w':=by
  have:=a2.sat
  rwa [j7] at this
 obtain⟨ρ4,g1,g2,g3⟩:=HP (σ:=σ.frz fz) u os nw q hsat3 hle (fun o T f cs g r z=>by
  simp only[oo,St.obj] at g
  split at g
  .rename_i y hy;subst g;have i:=qj _ _ _ hy;rcases js.1 i with i|i
   .exact .inl (jd _ (cu dst _ _ _ _ i r z))
   .exact .inl (jg _ (Lb dst _ _ _ i r z))
  .cases g)
 refine⟨_,rfl,ρ4,?_,(I.weaken (fun o g=>by simp at g)).trans g2,?_,trivial⟩
 .have:(fun o=>if o∈nw\/o∈os then oo (vB dst s.ps svs (s.F d).2 0++fi dst s.rs (s.F d).1 0) o else(σ.frz fz).obj o)=
   ({σ with ob:=(vB dst s.ps svs (s.F d).2 0++(fi dst s.rs (s.F d).1 0++li os))++(gM σ fz++σ.ob)}:St).obj:=by
   funext o;have e0:(vB dst s.ps svs (s.F d).2 0++(fi dst s.rs (s.F d).1 0++li os))++(gM σ fz++σ.ob)=
    (vB dst s.ps svs (s.F d).2 0++fi dst s.rs (s.F d).1 0)++(li os++(gM σ fz++σ.ob)):=by simp only[jJ]
   rw[e0];generalize W:vB dst s.ps svs (s.F d).2 0++fi dst s.rs (s.F d).1 0=new;rw[W] at E;simp only[oo,St.obj,wb (a:=new)];cases hl:wA new o with
   |some y=>
    have hk:o∈vk new:=dl (by rw[hl];simp);rw[jh (E o hk)]
   |none=>
    simp only;rw[wb,EW];by_cases Q:o∈os
    .rw[jh (.inr Q),jh Q]
    .rw[jc Q];have hnw':o∉nw:=by
      intro i;have:o∈vk new:=by
       rw[<-W,pX,v6,mo];rcases js.1 i with h|h
       .exact .inr h
       .exact .inl (vH dst _ _ _ _ h)
      exact look_none_not hl this
     rw[jc (by rintro(h|h);exact hnw' h;exact Q h)];rfl
  rw[<-this];exact g1
 .refine g3 _ _ (fun r z=> .inl (jg _ (Ga dst _ _ _ r (Vh z)))) ?_;refine Vg (SV.denL_mono a2.le _ _ (fun o g=> ?_) e1);cases hc:SV.refs.refsL o (p6 dst s.rs (s.F d).1 0) with
  |false=>rfl
  |true=>exact absurd rfl (S o (Ga dst _ _ _ o hc) o g)
where
 look_none_not {α:Type}:∀{l:List (Nat×α)} {k:Nat},wA l k=none->k∈vk l->False
  |[],k,_,h=>by simp[vk] at h
  | (j,x)::r,k,h,i=>by
   simp only[wA] at h;cases m:Nat.beq j k with
   |true=>rw[m] at h;cases h
   |false=>
    rw[m] at h;simp only[vk,jj] at i;rcases i with rfl|i
    .exact absurd rfl (wX m)
    .exact look_none_not h i
theorem Bw (l:C.ok P) {f dst:Nat} {s:qB} {svs:List SV} {out:Out} (p:gq P f s) (h:Bv C s dst σ svs=some out) {vals:List Value} (m:Sat P B ρ σ.obj w) (n:SV.denL P ρ svs vals) (c:vC out.vc):
 Calls P f vals.toArray w (fun e w'=>∃v,e= .returned v/\wu P B ρ σ out v w'):=by
 have a:=h;unfold Bv at a
 split at a
 .cases a
 rename_i d os fz q
 split at a
 case h_2=>cases a
 rename_i k j _ _;simp at a;obtain⟨ρ1,_,g,_,b,i,hk⟩:=fj (dst:=dst) (rs:=s.rs) (pre:=s.pre) l q k j m n;exact(p.calls ρ1.H w vals d (w6 ρ1 os) g.good b i (by rw[<-a] at c;exact c)).mono fun e w' o=>hk s.F out h e w' o
theorem Pa (d:C.ok P) {l:List (Nat×qB)} (b:∀f s,wA l f=some s->gq P f s) {f dst:Nat} {svs:List SV} {out:Out} (h:ja8 C l f dst σ svs=some out):
 enters P f/\∀B ρ w vals,Sat P B ρ σ.obj w->SV.denL P ρ svs vals->vC out.vc->σ.obj dst=none->vD σ.obj dst->
  Calls P f vals.toArray w (fun e w'=>∃v,e= .returned v/\wu P B ρ σ out v w'):=by
 unfold ja8 at h
 split at h
 rename_i s c;exact⟨(b f s c).enters,fun B ρ w vals g i a _ _=>Bw d (b f s c) h g i a⟩;cases h
end
end Go.X
namespace Go.X
open Go.RowKit (Below)
def yL:Nat:=1000000
def lj (C:Ctx) (fn:Func) (T:Nat) (st:Ty) (rs:List Ty) (a:(Ty.st rs).Data×st.Data):Ex->St->Prop
 | .exit _,_=>False
 |_,σ=>match Dm C σ rs fn.results.toList,σ.obj yL with
  |some r,some (.box b false [c])=>match Nat.beq T b,aX (F4 C σ rs fn.results.toList) yL,yr σ st c with
   |true,false,some (x,[])=>r=a.1/\x=a.2
   |_,_,_=>False
  |_,_=>False
section
variable {P:Program} {C:Ctx} {w:World}
theorem lk {B:qw} {σ:St} {ρ:Env} (D:Sat P B ρ σ.obj w) (fz:List Nat) {ob T:Nat} {z:SV} {st:Ty} {rs:List Ty} {r:(Ty.st rs).Data×st.Data} {vc:List Prop} {k:FuncId} {args:Array Value}
 (G:aX fz ob=false) (K:σ.obj ob=some (.box T false [z])) (x:st.agg=false)
 (h:∀ρ1 b n u,Sat P B ρ1 (σ.frz fz).obj w->ρ.le ρ1 []->ρ1.blk=ρ.blk->ρ1.blk ob=some (some (b,n))->ρ1.H b=none->w.heap[b]? =some (.cells #[u] T (0,0))->SV.den P ρ1 z u->Calls P k args w (OI ρ1.H w b T st rs r)):
 Calls P k args w (fun e w'=>∃v,e= .returned v/\wu P B ρ σ ⟨vc,[],uK rs r.1,fz,[(ob,some (.box T false [.dat st r.2]))],[]⟩ v w'):=by
 obtain⟨ρ1,a,c,g,_⟩:=wN fz D;have m:(σ.frz fz).obj ob=some (.box T false [z]):=(by rw[q7,jc (gh G)];exact K);obtain⟨p,A,b,n,vs,rfl,J,i,L,f⟩:=a.obs ob _ m;have f:ρ1.H b=none:=f;simp only[SV.denL] at i;obtain⟨u,M,d,t,rfl⟩:=i;have d:vs= #[u]:=jF.1 (by simpa using d);subst d;refine(h ρ1 b n u a c g A f J t).mono fun e w' F=> ?_
 obtain⟨v,H',N,rfl,C,q,y,l,I⟩:=F;obtain⟨s,j⟩:=HN a (fun o b n E=>(au (σ:=σ.frz fz) a E).1) m A C q y (sv:= .dat st r.2) (by simp only[SV.den];exact l) (AU x l);refine⟨v,rfl,{ρ1 with H:=H'},?_,c.trans j,pB rfl I,trivial⟩;show Sat P B _ ({(σ.frz fz) with ob:=(ob,some (.box T false [.dat st r.2]))::(σ.frz fz).ob}:St).obj w';rw[vW];exact s
theorem Lc {H:Imm}:∀{rs:List Ty} {vs:List Value} {r:(Ty.st rs).Data},rvs H rs vs r->Zt H rs (NF vs) r
 |[],_,_,h=>by simp only[rvs] at h;subst h;exact⟨_,rfl,rfl⟩
 |_::_,[],_,h=>h.elim
 |[_],[_],_,h=>h.1
 |[_],_::_::_,_,h=>by have:=h.2;simp[rvs] at this
 |_::_::_,[_],_,h=>h.2.elim
 |_::_::_,_::_::_,_,h=>⟨_,rfl,h⟩
theorem jba (hC:C.ok P) (hm:P.follows .mixedOrders=true) {f:Nat} {fn:Func} {body:Code} (hf:P.funcs[f]? =some fn) (t:fn.body=some body)
 (hn:fn.ntmps=C.n) (A:Ann) {T:Nat} {st:Ty} {rs:List Ty} {h:(Ty.st rs).Data×st.Data} {s:st.Data} {sl:List (Nat×SV)} {vals:List Value} (hlen:vals.length<=C.n)
 (hv:vcg C A body ⟨sl,[(yL,some (.box T false [.dat st s]))]⟩ (lj C fn T st rs h))
 {H:Imm} {b:Nat} {u:Value} (hg:ew H w) (hH:H b=none) (hw:w.heap[b]? =some (.cells #[u] T (0,0))) (hst:st.agg=false) (hu:st.rv H u s)
 (hsl:∀ρ:Env,ρ.H=H->ρ.blk yL=some (some (b,0))->∀k v,wA sl k=some v->∃x,vals[k]? =some x/\SV.den P ρ v x):
 Calls P f vals.toArray w (OI H w b T st rs h):=by
 refine calls_of_wp hf t ?_
 let g:Env:=⟨H,fun o=>if o=yL then some (some (b,0)) else none,fun _=>0⟩
 let B:qw:=⟨w,H,[b],g.blk,g.len⟩
 let σ0:St:=⟨sl,[(yL,some (.box T false [.dat st s]))]⟩
 have l:g.blk yL=some (some (b,0)):=(by simp[g]);have M:∀o x,σ0.obj o=some x->o=yL/\x= .box T false [.dat st s]:=by
  intro o x j;simp only[σ0,St.obj,wA] at j;cases z:Nat.beq yL o with
  |true=>rw[z] at j;simp at j;exact⟨(ja z).symm,j.symm⟩
  |false=>rw[z] at j;simp at j
 have Z:Sat P B g σ0.obj w:=by
  refine⟨rfl,rfl,rfl,jk _,jk _,hg,fun _ _ _=>rfl,fun _ _ _=>rfl,?_,?_,?_,?_⟩
  .intro o x j;obtain⟨rfl,rfl⟩:=M o x j;refine⟨_,l,b,0,#[u],rfl,hw,?_,by simpa using AU hst hu,hH⟩;simp only[SV.denL,SV.den];exact⟨u,[],rfl,hu,rfl⟩
  .intro o j;show(if o=yL then some (some (b,0)) else none)=none
   split
   .rename_i e;subst e;simp[σ0,St.obj,wA] at j
   .rfl
  .intro o o' b1 C1 C2 i I;simp only[g] at i I
   split at i
   .rename_i S
    split at I
    .rename_i e2;rw[S,e2]
    .cases I
   .cases i
  .intro o b1 C1 i;simp only[g] at i
   split at i
   .simp at i;obtain⟨rfl,rfl⟩:=i;exact .inr (by simp[B])
   .cases i
 have hR:Rel P B C.n σ0 {tmps:=vals.toArray++Array.replicate (fn.ntmps-vals.toArray.size) undef,defers:=[]} w:=by
  refine⟨rfl,by simp;omega,g,Z,?_,fun o p _ hp=>⟨hp,rfl⟩,fun _ _ t=>t⟩;intro k v hk;obtain⟨x,i,I⟩:=hsl g rfl l k v hk;have hlt:=(jo.1 i).1;have:(vals.toArray++Array.replicate (fn.ntmps-vals.toArray.size) undef).getD k undef=x:=by
   rw[jq,zg (by simpa using hlt)];simp[i]
  rw[this];exact I
 refine yc hC hm A body _ _ _ _ w hv hR (fun e σ R w' _ W X=> ?_);have m:(match Dm C σ rs fn.results.toList,σ.obj yL with
  |some r,some (.box T' false [c])=>match Nat.beq T T',aX (F4 C σ rs fn.results.toList) yL,yr σ st c with
   |true,false,some (x,[])=>r=h.1/\x=h.2
   |_,_,_=>False
  |_,_=>False)->R.defers=[]/\∃v,(Go.results fn R.tmps).run P w'= .ok v w'/\OI H w b T st rs h (.returned v) w':=by
  intro N
  split at N
  case h_2=>exact N.elim
  rename_i r T' c O E
  split at N
  case h_2=>exact N.elim
  rename_i x hT hm' j;obtain⟨hr1,hr2⟩:=N;have:=ja hT;subst this;obtain⟨i,I,ρ',Y,hSl,J⟩:=X;obtain⟨Q,d,hle,y,_⟩:=wN (σ:=σ) (F4 C σ rs fn.results.toList) Y;have hd:∀k,SV.den P Q (σ.get k) (R.tmps.getD k undef):=by
   intro k;have:=wH (P:=P) (a:=R) hSl (.tmp k);exact SV.den_mono hle _ _ (fun o L=>by simp at L) this
  obtain⟨vs,S,e2⟩:=ff hC d (vS σ _) hd rs _ _ O (fun o L=>L);have F:(σ.frz (F4 C σ rs fn.results.toList)).obj yL=some (.box T false [c]):=(by rw[q7,jc (gh hm')];exact E);obtain⟨p,hp,b2,C2,us,rfl,hw2,K,_,V⟩:=d.obs yL _ F;have G:=(J.1 yL _ (jk _) (by rw[<-y];exact hp)).1;rw[show B.blk0 yL=some (some (b,0)) from l] at G;simp at G;obtain⟨rfl,rfl⟩:=G;simp only[SV.denL] at K;obtain⟨u',r',q,hdu,rfl⟩:=K;have q:us= #[u']:=jF.1 (by simpa using q);subst q;have hsu:=wx d (vS σ _) j (fun o L=>by simp at L) hdu;refine⟨i,_,gj S,⟨_,Q.H,u',rfl,?_,V,hw2,by rw[<-hr2];exact hsu,?_⟩⟩
  .exact⟨d.os,d.tape,d.output,d.drawn,d.size,fun b t D=>d.old b t D,fun b t D=>d.oldH b t D,d.good⟩
  .rw[<-hr1];exact Lc e2
 cases e with
 |normal=>exact m W
 |ret=>exact m W
 |exit id=>exact W.elim
end
end Go.X
namespace Go.X
open Go.RowKit (Below)
abbrev WF (r:Option Nat):Fence:={Fence.wide with round:=r}
section
variable {P:Program} {r:Option Nat}
theorem mq {n:Nat} {f:FuncId} {args:Array Value} {w:World} {R:Ending->World->Prop}:CallsIn (WF r) n P f args w R↔Calls P f args w R:=callsIn_wide (n:=n)
theorem R5 {n:Nat} {row:String} {args:Array Value} {w:World} {R:Value->World->Prop} (h:Rows P row args w R):RowsIn (WF r) n P row args w R:=
 fun c cs _=>let ⟨v,w',q,s⟩:=h c cs;⟨v,w',q,stepsIn_wide.2 s⟩
theorem X3 {c:Code} {Q:Exit->Act->World->Prop} {a:Act} {w:World}:c.wpIn (WF none) 0 P Q a w↔c.wp P Q a w:=wpIn_wide
def b8 (ds:List Deferred) (a:Act):Act:={a with defers:=a.defers++ds}
theorem cv (ds:List Deferred) (a:Act) (d:Option Nat) (v:Value):b8 ds (a.put d v)=(b8 ds a).put d v:=by cases d<;>rfl
theorem ll (ds:List Deferred) (a:Act):(b8 ds a).eval=a.eval:=by funext o;cases o<;>rfl
def yy:List Oper->Bool
 |[]=>true
 |o::l=>match o.op with
  | .defer _=>false
  |_=>yy l
theorem og:∀{l:List Oper},yy l=true->∀o,o∈l->∀c,o.op≠.defer c
 |[],_,o,a,_=>by simp at a
 |x::l,h,o,a,c=>by
  simp only[yy] at h
  split at h
  cases h
  rename_i b
  rcases jj.1 a with rfl|a
  exact fun e=>b c e
  exact og h o a c
theorem R6 {o:Oper} {a:Act} {w:World} {ds:List Deferred} {K n:Act->World->Prop} {Q0 Q:Exit->Act->World->Prop} (j:∀e a w,Q0 e a w->e= .normal) (k:∀c,o.op≠.defer c)
 (h:o.wp P a w K Q0) (g:∀a w,K a w->n (b8 ds a) w):o.wpIn (WF r) 0 P (b8 ds a) w n Q:=by
 refine⟨fun _ _=>trivial,?_⟩;rw[ll,Oper.semAt_eq _ _ _ k];unfold Oper.wp at h;generalize (execOp a.eval o).run P w=l at h;cases l with
 |ok x w'=>
  cases x with
  |value v=>simp only[Oper.upon] at h;simp only[Oper.uponIn];rw[<-cv];exact g _ _ h
  |skip=>simp only[Oper.upon] at h;simp only[Oper.uponIn];rw[<-cv];exact g _ _ h
  |defer d=>simp only[Oper.upon] at h;simp only[Oper.uponIn];have:=g _ _ h;rw[cv] at this;exact this
  |enter f args=>
   simp only[Oper.upon] at h;simp only[Oper.uponIn];refine⟨fun i=>by simp[Fence.wide] at i,mq.2 (h.mono fun e m b=> ?_)⟩;cases e with
   |returned v=>simp only at b⊢;rw[<-cv];exact g _ _ b
   |panicked c=>exact absurd (j _ _ _ b) (by simp)
   |outgrown=>obtain⟨q,s,p⟩:=b;exact absurd (j _ _ _ p) (by simp)
  |row row args=>
   simp only[Oper.upon] at h;simp only[Oper.uponIn];refine⟨fun i=>by simp[Fence.wide] at i,R5 (h.mono fun v m b=> ?_)⟩;rw[<-cv];exact g _ _ b
  |_=>simp only[Oper.upon] at h
 |halt x w'=>
  cases x with
  |panic v=>simp only[Oper.upon] at h;exact absurd (j _ _ _ h) (by simp)
  |_=>simp only[Oper.upon] at h
theorem sP {ops:Array Oper} {ds:List Deferred} {Q0 Q:Exit->Act->World->Prop} {rest:List Oper} (b:∀e a w,Q0 e a w->e= .normal) (c:∀a w,Q0 .normal a w->wpListIn (WF r) 0 P ops Q rest (b8 ds a) w):
 ∀(l:List Oper),yy l=true->∀(a:Act) (w:World),wpList P ops Q0 l a w->wpListIn (WF r) 0 P ops Q (l++rest) (b8 ds a) w
 |[],_,a,w,h=>c a w h
 |o::l,hnd,a,w,h=>by
  have f:yy l=true:=by simp only[yy] at hnd;split at hnd;cases hnd;exact hnd
  rw[jU]
  unfold wpList at h
  unfold wpListIn
  have i:yielded ops (b8 ds a).tmps=yielded ops a.tmps:=rfl
  rw[i]
  split at h
  rename_i d
  rw[jh d]
  rcases h with h|⟨_,m,n,k⟩
  exact R6 b (og hnd o (by simp)) h (fun g w' j=>sP b c l f g w' j)
  exact absurd (b _ _ _ k) (by simp)
  rename_i d
  rw[jc d]
  refine⟨fun _ _=>trivial,?_⟩
  rw[<-cv]
  exact sP b c l f _ w h
theorem NN {p:Region.Mode} {ops:Array Oper} {ds:List Deferred} {Q0 Q:Exit->Act->World->Prop} (k:∀e a w,Q0 e a w->e= .normal) (g:∀a w,Q0 .normal a w->Q .normal (b8 ds a) w) (f:yy ops.toList=true):
 ∀(c:Nat) (b:Array Bool) (a:Act) (w:World),wpAny P p ops Q0 c b a w->wpAnyIn (WF r) 0 P p ops Q c b (b8 ds a) w
 |0,b,a,w,h=>⟨h.1,g _ _ h.2⟩
 |c+1,b,a,w,h=>by
  refine⟨fun v=>g _ _ (h.1 v),fun i hi=> ?_⟩
  have d:=h.2 i hi
  unfold wpOp at d
  unfold wpOpIn
  cases m:ops[i]? with
  |none=>rw[m] at d;exact NN k g f c _ _ _ d
  |some o=>
   rw[m] at d
   simp only at d⊢
   have s:yielded ops (b8 ds a).tmps=yielded ops a.tmps:=rfl
   rw[s]
   have j:o∈ops.toList:=by
    have:=zx (l:=ops.toList) (i:=i) (a:=o) (by simpa using m);exact this
   split at d
   rename_i n;rw[jh n];rcases d with d|⟨_,x,y,u⟩;exact R6 k (og f o j) d (fun q w' t=>NN k g f c _ q w' t);exact absurd (k _ _ _ u) (by simp);rename_i n;rw[jc n];refine⟨fun _ _=>trivial,?_⟩;rw[<-cv];exact NN k g f c _ _ w d
theorem X4 (i:P.follows .mixedOrders=true) {id:Nat} {ops:Array Oper} {b:Bool} {ds:List Deferred} {Q0 Q:Exit->Act->World->Prop} (f:∀e a w,Q0 e a w->e= .normal) (d:∀a w,Q0 .normal a w->Q .normal (b8 ds a) w)
 (c:yy ops.toList=true) {a:Act} {w:World} (h:RF P ops b Q0 a w):(Code.region id ops b).wpIn (WF r) 0 P Q (b8 ds a) w:=by
 cases b with
 |false=>
  refine wpIn_region_list ?_;have:=sP (r:=r) (rest:=[]) f (fun a w g=>d a w g) ops.toList c a w h;simpa using this
 |true=>exact wpIn_region_any i (NN f d c _ _ _ _ h)
def ux (P:Program) (B:qw) (n:Nat) (ds:List Deferred) (σ:St) (a:Act) (w:World):Prop:=
 ∃b,a=b8 ds b/\Rel P B n σ b w
theorem X5 {B:qw} {C:Ctx} (m:C.ok P) (p:P.follows .mixedOrders=true) {A:Ann} {id:Nat} {ops:Array Oper} {c:Bool} {ds:List Deferred} {σ:St} {K:Ex->St->Prop} {Q:Exit->Act->World->Prop} {a:Act} {w:World}
 (k:yy ops.toList=true) (h:vcg C A (.region id ops c) σ K) (j:ux P B C.n ds σ a w) (o:∀b d w',Ext σ b->K .normal b->ux P B C.n ds b d w'->Q .normal d w'):
 (Code.region id ops c).wpIn (WF r) 0 P Q a w:=by
 obtain⟨q,rfl,j⟩:=j;refine X4 p (Q0:=fun e d w'=>e= .normal/\∃b,Ext σ b/\K .normal b/\Rel P B C.n b d w') (fun e _ _ h=>h.1) (fun d w' l=> ?_) k (ER m h j (fun b d w' g i f=>⟨rfl,b,g,i,f⟩));obtain⟨_,b,g,i,f⟩:=l;exact o b _ w' g i ⟨d,rfl,f⟩
theorem Ib {F:Fence} {n:Nat} {α:Type} (rl:α->α->Prop) (C:WellFounded rl) {Q:Exit->Act->World->Prop} {c:Code} {a:Act} {w:World} (I:α->Act->World->Prop) (j:α) (t:I j a w)
 (p:∀x a w,I x a w->c.wpIn F n P (Exit.then (fun q w'=>∃v,rl v x/\I v q w') Q) a w):(Code.loop c).wpIn F n P Q a w:=by
 intro b k cs B y A;have key:∀x a w,I x a w->∃e q w',Q e q w'/\ArrivesIn (Machine.fenced P F) P (lone (b.atR a (.code c:: .inLoop c::k)) cs w) b k cs e q w':=by
  intro x
  induction x using C.induction with
  |_ x E=>
   intro a w D;obtain⟨e,f,g,i,d⟩:=p x a w D b (.inLoop c::k) cs B y A;cases e with
   |normal=>
    obtain⟨v,z,m⟩:=i;obtain⟨s,r,u,o,h⟩:=E v z f g m;exact⟨s,r,u,o,.of_steps (StepsIn.trans d (.one (fenced_calm y A rfl) stepR_inLoop)) h⟩
   |exit id=>exact⟨_,f,g,i,.pass (x:= .inLoop c) rfl (fun _ _=> .inl (by simp)) d⟩
   |goto l=>exact⟨_,f,g,i,.pass (x:= .inLoop c) rfl (fun _ _=> .inl (by simp)) d⟩
   |ret=>exact⟨_,f,g,i,.pass (x:= .inLoop c) rfl (fun _ _=> .inl (by simp)) d⟩
   |panic G=>exact⟨_,f,g,i,.pass (x:= .inLoop c) rfl (fun _ _=> .inl (by simp)) d⟩
   |outgrown=>exact⟨_,f,g,i,.pass (x:= .inLoop c) rfl (fun _ _=> .inl (by simp)) d⟩
 obtain⟨e,q,w',i,d⟩:=key j a w t;exact⟨e,q,w',i,.of_steps (.one (fenced_calm y A rfl) stepR_loop) d⟩
end
end Go.X
namespace Go.X
open Go.RowKit (Below)
structure Di (Y:Type) where
 sp:Nat->Bool--is the call that fills this slot one of them?
 call:SV->List SV->St->Y->(SV->St->Y->Prop)->Prop
 rng:Operand->Array Tmp->Code->Code->St->Y->(Bool->St->Y->Prop)->Prop--is it left by 'return'?
def jaW:Bool->Ex
 |true=> .ret
 |false=> .normal
structure R7 (Y:Type) where
 X:Type
 sl:X->List (Nat×SV)
 ob:X->List (Nat×Option Ob)
 ys:X->Y
 inv:X->Prop
 mu:X->Nat
def R7.plain {Y:Type} (L:R7 Y):nO:=⟨L.X,L.sl,L.ob,L.inv,L.mu⟩
abbrev Ak (Y:Type):=Nat->Option (St->Y->R7 Y)
def ZV:Op->Bool
 | .call _=>true
 |_=>false
def EX (sp:Nat->Bool):List Oper->Option (List Oper×Oper×List Oper)
 |[]=>none
 |o::r=>match o.dst with
  |some d=>match sp d,ZV o.op with
   |true,true=>some ([],o,r)
   |_,_=>match EX sp r with
    |some (p,x,q)=>some (o::p,x,q)
    |none=>none
  |none=>match EX sp r with
   |some (p,x,q)=>some (o::p,x,q)
   |none=>none
def uy (d:Nat) (g:Nat×Bool) (a:Bool):Eff:=⟨some a,[],[],[(d,.any)],[(d,g,.dat .bool false)],[],[]⟩
def yVC {Y:Type} (C:Ctx) (hk:Di Y) (ops pre:List Oper) (o:Oper) (a:List Oper) (σ:St) (ys:Y) (K:Ex->St->Y->Prop):Prop:=
 match aR C ops pre ⟨σ,[]⟩ with
 |none=>False
 |some (ss,rs)=>match rs.gl,o.op,o.guard,o.dst with
  |[],.call c,none,some d=>match c.callee,Nat.blt d C.n with
   | .value f,true=>q6 false ss (hk.call (wJ rs.st f) (c.args.toList.map (wJ rs.st)) rs.st ys
    (fun sv τ h=>iS C ops a σ.ob.length ⟨(d,sv)::τ.sl,τ.ob⟩ (fun e b=>K e b h)))
   |_,_=>False
  |_,.call c,some g,some d=>match c.callee,Nat.blt d C.n,nc ops rs ops.length g with
   | .value f,true,some i=>match fits C ops o rs (uy d g i) with
    |true=>q6 false ss (
     (i=true->hk.call (wJ (wZ rs (sE ops rs ops.length g)) f) (c.args.toList.map (wJ (wZ rs (sE ops rs ops.length g)))) (wZ rs (sE ops rs ops.length g)) ys
      (fun sv τ h=>iS C ops a σ.ob.length ⟨(d,sv)::τ.sl,τ.ob⟩ (fun e b=>K e b h)))/\
     (i=false->Vb C ops a σ.ob.length (qp (uy d g i) rs) (fun e b=>K e b ys)))
    |false=>False
   |_,_,_=>False
  |_,_,_,_=>False
def ZW {Y:Type} (A:Ak Y) (a:Code) (run:St->Y->(Ex->St->Y->Prop)->Prop) (σ:St) (ys:Y) (K:Ex->St->Y->Prop):Prop:=
 match A (nf a) with
 |none=>False
 |some L=>
  (∃x:(L σ ys).X,sub σ (qt (L σ ys).plain (qN a) σ x) (vk ((L σ ys).sl x)) (vk ((L σ ys).ob x))/\ys=(L σ ys).ys x/\(L σ ys).inv x)/\
  ∀x:(L σ ys).X,(L σ ys).inv x->run (qt (L σ ys).plain (qN a) σ x) ((L σ ys).ys x) (fun e b d=>match e with
   | .normal=>∃c:(L σ ys).X,sub b (qt (L σ ys).plain (qN a) σ c) (gO (vk ((L σ ys).sl c)) (gO (vk ((L σ ys).sl x)) (iR b.sl (qt (L σ ys).plain (qN a) σ x).sl.length)))
    (gO (vk ((L σ ys).ob c)) (gO (vk ((L σ ys).ob x)) (iR b.ob (qt (L σ ys).plain (qN a) σ x).ob.length)))/\d=(L σ ys).ys c/\(L σ ys).inv c/\(L σ ys).mu c<(L σ ys).mu x
   |e=>K e b d)
def jbb:Ann:=fun _=>none
def Bz {Y:Type} (C:Ctx) (A:Ak Y) (hk:Di Y):Code->St->Y->(Ex->St->Y->Prop)->Prop
 | .skip,σ,ys,K=>K .normal σ ys
 | .region id ops h,σ,ys,K=>match yy ops.toList with
  |false=>False
  |true=>match EX hk.sp ops.toList with
   |some (pre,o,j)=>match h with
    |false=>yVC C hk ops.toList pre o j σ ys K
    |true=>False
   |none=>vcg C jbb (.region id ops h) σ (fun e d=>K e d ys)
 | .seq a b,σ,ys,K=>Bz C A hk a σ ys (fun e d f=>match e with
  | .normal=>Bz C A hk b d f K
  |e=>K e d f)
 | .cond c a b,σ,ys,K=>match wJ σ c with
  | .dat .bool β=>(β=true->Bz C A hk a σ ys K)/\(β=false->Bz C A hk b σ ys K)
  |_=>False
 | .block id a,σ,ys,K=>Bz C A hk a σ ys (fun e d f=>match e with
  | .exit i=>match Nat.beq id i with
   |true=>K .normal d f
   |false=>K (.exit i) d f
  |e=>K e d f)
 | .loop a,σ,ys,K=>ZW A a (Bz C A hk a) σ ys K
 | .exit id,σ,ys,K=>K (.exit id) σ ys
 | .ret,σ,ys,K=>K .ret σ ys
 | .rangeFunc g ps a b,σ,ys,K=>hk.rng g ps a b σ ys (fun x d f=>K (jaW x) d f)
 |_,_,_,_=>False
section
variable {P:Program} {C:Ctx} {Y:Type}
def fU (P:Program) (C:Ctx) (r:Option Nat) (hk:Di Y) (e:qw->List Deferred->Y->Prop):Prop:=
 ∀(o:Oper) (c:Call) (f:Operand) (d:Nat) (σ:St) (ys:Y) (K:SV->St->Y->Prop) (B:qw) (ds:List Deferred) (a:Act) (w:World) (next:Act->World->Prop) (Q:Exit->Act->World->Prop),
  o.op= .call c->c.callee= .value f->o.dst=some d->d<C.n->hk.call (wJ σ f) (c.args.toList.map (wJ σ)) σ ys K->e B ds ys->ux P B C.n ds σ a w->
  (∀sv τ b v w' B',K sv τ b->Ext σ τ->e B' ds b->ux P B' C.n ds ⟨(d,sv)::τ.sl,τ.ob⟩ (a.put (some d) v) w'->next (a.put (some d) v) w')->
  o.wpIn (WF r) 0 P a w next Q
def BA (P:Program) (C:Ctx) (r:Option Nat) (hk:Di Y) (f:qw->List Deferred->Y->Prop):Prop:=
 ∀(g:Operand) (ps:Array Tmp) (aZ b:Code) (σ:St) (ys:Y) (K:Bool->St->Y->Prop) (B:qw) (ds:List Deferred) (a:Act) (w:World) (Q:Exit->Act->World->Prop),
  hk.rng g ps aZ b σ ys K->f B ds ys->ux P B C.n ds σ a w->
  (∀x c e h w' B' d,K x c e->Ext σ c->f B' d e->ux P B' C.n d c h w'->Q (nu (jaW x)) h w')->(Code.rangeFunc g ps aZ b).wpIn (WF r) 0 P Q a w
theorem oh {sp:Nat->Bool}:∀(l:List Oper) {pre a:List Oper} {o:Oper},EX sp l=some (pre,o,a)->l=pre++o::a
 |[],_,_,_,h=>by simp[EX] at h
 |x::r,pre,a,o,h=>by
  simp only[EX] at h
  split at h
  split at h
  simp at h;obtain⟨rfl,rfl,rfl⟩:=h;rfl
  split at h
  rename_i p y q b
  simp at h;obtain⟨rfl,rfl,rfl⟩:=h
  rw[oh r b];rfl
  cases h
  split at h
  rename_i p y q b
  simp at h;obtain⟨rfl,rfl,rfl⟩:=h
  rw[oh r b];rfl
  cases h
theorem BB:∀(a b:List Oper),yy (a++b)=true->yy a=true/\yy b=true
 |[],b,h=>⟨rfl,h⟩
 |o::a,b,h=>by
  simp only[jU,yy] at h⊢
  split at h
  cases h
  exact BB a b h
theorem X6 {r:Option Nat} (hC:C.ok P) {hk:Di Y} {Lv:qw->List Deferred->Y->Prop} (E:fU P C r hk Lv) {id:Nat} {ops:Array Oper} {pre k:List Oper} {o:Oper} {σ:St} {ys:Y} {K:Ex->St->Y->Prop}
 {B:qw} {ds:List Deferred} {a:Act} {w:World} {Q:Exit->Act->World->Prop} (hnd:yy ops.toList=true) (hs:ops.toList=pre++o::k) (h:yVC C hk ops.toList pre o k σ ys K) (hL:Lv B ds ys) (hR:ux P B C.n ds σ a w)
 (hQ:∀l i z w' B',Ext σ l->K .normal l i->Lv B' ds i->ux P B' C.n ds l z w'->Q .normal z w'):(Code.region id ops false).wpIn (WF r) 0 P Q a w:=by
 rw[hs] at hnd;obtain⟨hn1,M⟩:=BB _ _ hnd;have hn3:yy k=true:=by
  simp only[yy] at M
  split at M
  .cases M
  .exact M
 have hI:∀{a0:Act},Rel P B C.n σ a0 w->Inv P B C.n ops ⟨σ,[]⟩ a0 w:=by
  intro a0 hR;obtain⟨T,h2,ρ,h3,h4,h5⟩:=hR;exact⟨T,h2,ρ,h3,h4,(fun s g v hm=>by simp at hm),h5⟩
 have I:∀(B':qw) (i:Y) (N:RS) (y:Act) (w':World),Ext σ N.st->Lv B' ds i->Inv P B' C.n ops N y w'->Vb C ops.toList k σ.ob.length N (fun e l=>K e l i)->wpListIn (WF r) 0 P ops Q k (b8 ds y) w':=by
  intro B' i N y w' hE u hI2 m;unfold Vb at m
  split at m
  .exact m.elim
  rename_i ss2 rs2 hr2;have:=sP (r:=r) (ds:=ds) (rest:=[]) (ops:=ops) (Q:=Q) (Q0:=fun e z w'=>e= .normal/\K .normal (yR ops.toList (gc σ.ob.length rs2.st)) i/\Inv P B' C.n ops rs2 z w')
   (fun e _ _ h=>h.1) (fun a3 w3 h3=> ?_) k hn3 y w' (yw hC _ _ _ _ _ _ hr2 m hI2 (fun G z w' A=>⟨rfl,G,A⟩))
  .simpa using this
  .obtain⟨_,hk3,i1,i2,ρ,i3,i4,_,i5⟩:=h3;exact hQ _ i _ w3 B' (hE.trans ((gi _ _ _ _ hr2).trans ((um _ _).trans (qJ _ _)))) hk3 u ⟨a3,rfl,qI _ (uf ⟨i1,i2,ρ,i3,i4,i5⟩)⟩
 have R:∀(B':qw) (i:Y) (J:St) (y:Act) (w':World),Ext σ J->Lv B' ds i->Rel P B' C.n J y w'->iS C ops.toList k σ.ob.length J (fun e l=>K e l i)->wpListIn (WF r) 0 P ops Q k (b8 ds y) w':=by
  intro B' i J y w' hE u q m;refine I B' i ⟨J,[]⟩ y w' hE u ?_ m;obtain⟨T,h2,ρ,h3,h4,h5⟩:=q;exact⟨T,h2,ρ,h3,h4,(fun s g v hm=>by simp at hm),h5⟩
 unfold yVC at h
 split at h
 .exact h.elim
 rename_i ss rs hr;have W:Ext σ rs.st:=gi _ _ _ _ hr;obtain⟨a0,rfl,hR⟩:=hR;refine wpIn_region_list ?_;rw[hs]
 split at h
 .rename_i c d hgl hop F p
  split at h
  case h_2=>exact h.elim
  rename_i f D t;have t:d<C.n:=jx t;refine sP (Q0:=fun e z w'=>e= .normal/\hk.call (wJ rs.st f) (c.args.toList.map (wJ rs.st)) rs.st ys (fun sv τ i=>iS C ops.toList k σ.ob.length ⟨(d,sv)::τ.sl,τ.ob⟩ (fun e l=>K e l i))/\Inv P B C.n ops rs z w')
   (fun e _ _ h=>h.1) (fun L w1 T=> ?_) pre hn1 a0 w (yw hC _ _ _ _ _ _ hr h (hI hR) (fun G z w' A=>⟨rfl,G,A⟩))
  obtain⟨_,hk1,hI1⟩:=T;unfold wpListIn;rw[jh (by simp[Region.wanted,F])];have X:ux P B C.n ds rs.st (b8 ds L) w1:=by
   obtain⟨i1,i2,ρ,i3,i4,_,i5⟩:=hI1;exact⟨L,rfl,i1,i2,ρ,i3,i4,i5⟩
  refine E o c f d rs.st ys _ B ds _ w1 _ _ hop D p t hk1 hL X (fun sv τ i v w' B' m V u q=> ?_);obtain⟨y,Z,q⟩:=q;rw[Z];exact R B' i ⟨(d,sv)::τ.sl,τ.ob⟩ y w' (W.trans (V.trans ⟨⟨[_],rfl⟩,⟨[],rfl⟩⟩)) u q m
 .rename_i c g d hop F p
  split at h
  case h_2=>exact h.elim
  rename_i f S D t hγ;have t:d<C.n:=jx t
  split at h
  case h_2=>exact h.elim
  rename_i hfit;refine sP (Q0:=fun e z w'=>e= .normal/\((S=true->hk.call (wJ (wZ rs (sE ops.toList rs ops.toList.length g)) f) (c.args.toList.map (wJ (wZ rs (sE ops.toList rs ops.toList.length g)))) (wZ rs (sE ops.toList rs ops.toList.length g)) ys
   (fun sv τ i=>iS C ops.toList k σ.ob.length ⟨(d,sv)::τ.sl,τ.ob⟩ (fun e l=>K e l i)))/\
   (S=false->Vb C ops.toList k σ.ob.length (qp (uy d g S) rs) (fun e l=>K e l ys)))/\Inv P B C.n ops rs z w')
   (fun e _ _ h=>h.1) (fun L w1 T=> ?_) pre hn1 a0 w (yw hC _ _ _ _ _ _ hr h (hI hR) (fun G z w' A=>⟨rfl,G,A⟩))
  obtain⟨_,⟨hk1,hk0⟩,i1,i2,ρ,i3,i4,i6,i5⟩:=T;have O:=co i4 i6 _ _ _ hγ;have H:(Region.wanted o (yielded ops (b8 ds L).tmps)=true)↔uM ops L g:=by
   obtain⟨j,b⟩:=g;simp[Region.wanted,F,uM,b8]
  unfold wpListIn;by_cases hH:uM ops L g
  .rw[jh (H.2 hH)];have X:ux P B C.n ds (wZ rs (sE ops.toList rs ops.toList.length g)) (b8 ds L) w1:=
    ⟨L,rfl,i1,i2,ρ,i3,bn i4 i6 (nU i6 _ _ hH),i5⟩
   have hE1:Ext rs.st (wZ rs (sE ops.toList rs ops.toList.length g)):=⟨⟨_,rfl⟩,⟨[],rfl⟩⟩;refine E o c f d _ ys _ B ds _ w1 _ _ hop D p t (hk1 (O.1 hH)) hL X (fun sv τ i v w' B' m V u q=> ?_);obtain⟨y,Z,q⟩:=q;rw[Z];exact R B' i ⟨(d,sv)::τ.sl,τ.ob⟩ y w' ((W.trans hE1).trans (V.trans ⟨⟨[_],rfl⟩,⟨[],rfl⟩⟩)) u q m
  .rw[jc (fun h=>hH (H.1 h))];refine⟨fun _ _=>trivial,?_⟩;have hγ0:S=false:=by cases S with|true=>exact absurd (O.2 rfl) hH|false=>rfl
   have hIe:Inv P B C.n ops (qp (uy d g S) rs) (L.put o.dst undef) w1:=by
    refine nX (ρ:=ρ) (ρ'':=ρ) (e:=uy d g S) (sv:= .any) (gv:= .dat .bool false) i1 i2 i4 i6 i5 i3 (Env.le.refl _ _) (gW hfit) (fun d' hd'=>by rw[p] at hd';simp at hd';subst hd';exact t) (by simp[uy,Hz,p]) (fun _ _=>vX _) (fun x hx=> ?_) (fun d' g' _ hg'=>⟨fun hh=> ?_,fun _=>rfl⟩)
    .simp only[uy,kP] at hx;exact⟨d,g,p,F,hx⟩
    .rw[F] at hg';simp at hg';subst hg';exact absurd hh hH
   have:=I B ys (qp (uy d g S) rs) (L.put o.dst undef) w1 (W.trans ⟨⟨[_],rfl⟩,⟨[],rfl⟩⟩) hL hIe (hk0 hγ0);rw[cv] at this;exact this
 .exact h.elim
theorem NO {B:qw} {n:Nat} {ds:List Deferred} {σ τ:St} {ks os:List Nat} (h:sub σ τ ks os) (d:∀s,s∉ks->τ.get s= .any\/τ.get s=σ.get s) (f:∀o,o∉os->τ.obj o=none\/τ.obj o=σ.obj o) {a:Act} {w:World}
 (b:ux P B n ds σ a w):ux P B n ds τ a w:=by
 obtain⟨c,e,b⟩:=b;exact⟨c,e,KX h d f b⟩
def Gb (P:Program) (C:Ctx) (A:Ak Y) (hk:Di Y) (f:qw->List Deferred->Y->Prop) (x:Code) (K:Ex->St->Y->Prop) (σ:St) (ys:Y) (n:Nat) (a:Act) (w:World):Prop:=
 ∃L,A (nf x)=some L/\(∀y:(L σ ys).X,(L σ ys).inv y->Bz C A hk x (qt (L σ ys).plain (qN x) σ y) ((L σ ys).ys y) (fun e b d=>match e with
  | .normal=>∃c:(L σ ys).X,sub b (qt (L σ ys).plain (qN x) σ c) (gO (vk ((L σ ys).sl c)) (gO (vk ((L σ ys).sl y)) (iR b.sl (qt (L σ ys).plain (qN x) σ y).sl.length)))
   (gO (vk ((L σ ys).ob c)) (gO (vk ((L σ ys).ob y)) (iR b.ob (qt (L σ ys).plain (qN x) σ y).ob.length)))/\d=(L σ ys).ys c/\(L σ ys).inv c/\(L σ ys).mu c<(L σ ys).mu y
  |e=>K e b d))/\
  ∃y B ds,(L σ ys).inv y/\(L σ ys).mu y=n/\f B ds ((L σ ys).ys y)/\ux P B C.n ds (qt (L σ ys).plain (qN x) σ y) a w
theorem Gc {r:Option Nat} {A:Ak Y} {hk:Di Y} {k:qw->List Deferred->Y->Prop} {x:Code} {K:Ex->St->Y->Prop} {Q:Exit->Act->World->Prop} {n:Nat} {a:Act} {σ:St} {ys:Y} {w:World} {J:Act->World->Prop}
 (u:∀(σ:St) (ys:Y) (K:Ex->St->Y->Prop) (Q:Exit->Act->World->Prop) (a:Act) (w:World) (B:qw) (ds:List Deferred),Bz C A hk x σ ys K->k B ds ys->ux P B C.n ds σ a w->
  (∀e b f g w' B' c,Ext σ b->K e b f->k B' c f->ux P B' C.n c b g w'->Q (nu e) g w')->x.wpIn (WF r) 0 P Q a w)
 (hI:Gb P C A hk k x K σ ys n a w) (V:∀e b f g w' B' c,Ext σ b->K e b f->k B' c f->ux P B' C.n c b g w'->Q (nu e) g w')
 (hJ:∀Z,Z<n->∀g w',Gb P C A hk k x K σ ys Z g w'->J g w'):x.wpIn (WF r) 0 P (Exit.then J Q) a w:=by
 obtain⟨L,hL,d,y,B,ds,H,rfl,I,m⟩:=hI;generalize v:qN x=ws at d m;refine u _ _ _ _ a w B ds (d y H) I m (fun e b f g w' B' c z F i h=> ?_);have l:Ext σ (qt (L σ ys).plain ws σ y):=⟨⟨(L σ ys).sl y++ws.map (fun s=>(s,SV.any)),by simp[qt,R7.plain]⟩,⟨(L σ ys).ob y++ws.map (fun s=>(s,none)),by simp[qt,R7.plain]⟩⟩;cases e with
 |ret=>exact V .ret b f g w' B' c (l.trans z) F i h
 |exit id=>exact V (.exit id) b f g w' B' c (l.trans z) F i h
 |normal=>
  obtain⟨D,N,O,G,M⟩:=F;have t:ux P B' C.n c (qt (L σ ys).plain ws σ D) g w':=by
   refine NO N (fun s X=> ?_) (fun o W=> ?_) h;simp only[qO,not_or] at X;obtain⟨R,S,T⟩:=X;refine .inr ?_;obtain⟨p,q⟩:=z.sl;have j:s∉vk p:=fun hk=>T (by rw[q];exact dr p _ s hk)
   have E:wA b.sl s=wA (ws.map (fun s=>(s,SV.any))++σ.sl) s:=by
    rw[q,wb,wv _ _ j];exact pQ (L σ ys).plain ws σ y s S
   unfold St.get;rw[E,pQ (L σ ys).plain ws σ D s R];simp only[qO,not_or] at W;obtain⟨R,S,T⟩:=W;refine .inr ?_;obtain⟨p,q⟩:=z.ob;have j:o∉vk p:=fun hk=>T (by rw[q];exact dr p _ o hk)
   have E:wA b.ob o=wA (ws.map (fun s=>(s,(none:Option Ob)))++σ.ob) o:=by
    rw[q,wb,wv _ _ j];exact dt (L σ ys).plain ws σ y o S
   simp only[St.obj];rw[E,dt (L σ ys).plain ws σ D o R]
  exact hJ _ M g w' ⟨L,hL,by rw[v];exact d,D,B',c,G,rfl,by rw[<-O];exact i,by rw[v];exact t⟩
theorem vI {r:Option Nat} (G:C.ok P) (I:P.follows .mixedOrders=true) (A:Ak Y) (hk:Di Y) (E:qw->List Deferred->Y->Prop) (k:fU P C r hk E) (p:BA P C r hk E):
 ∀(c:Code) (σ:St) (ys:Y) (K:Ex->St->Y->Prop) (Q:Exit->Act->World->Prop) (a:Act) (w:World) (B:qw) (ds:List Deferred),Bz C A hk c σ ys K->E B ds ys->ux P B C.n ds σ a w->
 (∀e d f q w' B' j,Ext σ d->K e d f->E B' j f->ux P B' C.n j d q w'->Q (nu e) q w')->c.wpIn (WF r) 0 P Q a w
 | .skip,σ,ys,K,Q,a,w,B,ds,h,u,t,l=>wpIn_skip (l .normal σ ys a w B ds (Ext.refl _) h u t)
 | .region id ops draw,σ,ys,K,Q,a,w,B,ds,h,u,t,l=>by
  simp only[Bz] at h
  split at h
  .exact h.elim
  rename_i J
  split at h
  .rename_i pre o post X
   split at h
   case h_2=>exact h.elim
   exact X6 G k J (oh _ X) h u t (fun d f q w' B' z v D i=>l .normal d f q w' B' ds z v D i)
  .exact X5 G I J h t (fun d q w' z v i=>l .normal d ys q w' B ds z v u i)
 | .seq x y,σ,ys,K,Q,a,w,B,ds,h,u,t,l=>by
  simp only[Bz] at h
  refine wpIn_seq (vI G I A hk E k p x σ ys _ _ a w B ds h u t (fun e d f q w' B' j z v D i=> ?_))
  cases e with
  |normal=>exact vI G I A hk E k p y d f K Q q w' B' j v D i (fun e2 σ2 ys2 a2 w2 B2 N R=>l e2 σ2 ys2 a2 w2 B2 N (z.trans R))
  |ret=>exact l .ret d f q w' B' j z v D i
  |exit id=>exact l (.exit id) d f q w' B' j z v D i
 | .cond c x y,σ,ys,K,Q,a,w,B,ds,h,u,t,l=>by
  simp only[Bz] at h
  split at h
  case h_2=>exact h.elim
  rename_i β hc
  have hv:a.eval c= .bool β:=by
   obtain⟨a0,rfl,_,_,ρ,_,T,_⟩:=t;have:=wH (P:=P) (ρ:=ρ) T c;rw[hc] at this;rw[ll];exact qC (by simpa only[SV.den] using this)
  refine wpIn_cond_split hv (fun H=>vI G I A hk E k p x σ ys K Q a w B ds (h.1 H) u t l) (fun H=>vI G I A hk E k p y σ ys K Q a w B ds (h.2 H) u t l)
 | .block id x,σ,ys,K,Q,a,w,B,ds,h,u,t,l=>by
  simp only[Bz] at h;refine wpIn_block (vI G I A hk E k p x σ ys _ _ a w B ds h u t (fun e d f q w' B' j z v D i=> ?_));cases e with
  |normal=>exact l .normal d f q w' B' j z v D i
  |ret=>exact l .ret d f q w' B' j z v D i
  |exit id'=>
   simp only[nu,Exit.inBlock];simp only at v
   split at v
   .rename_i H;have:=ja H;subst this;rw[jh rfl];exact l .normal d f q w' B' j z v D i
   .rename_i H;rw[jc (fun e=>wX H e.symm)];exact l (.exit id') d f q w' B' j z v D i
 | .loop x,σ,ys,K,Q,a,w,B,ds,h,u,t,l=>by
  simp only[Bz] at h;have M:=fun(σ:St) (ys:Y) (K:Ex->St->Y->Prop) (Q:Exit->Act->World->Prop) (a:Act) (w:World) (B:qw) (ds:List Deferred)=>vI G I A hk E k p x σ ys K Q a w B ds
  have O:∃n,Gb P C A hk E x K σ ys n a w:=by
   unfold ZW at h
   split at h
   .exact h.elim
   rename_i L S;obtain⟨⟨x0,Z,hy0,V⟩,F⟩:=h;exact⟨_,L,S,F,x0,B,ds,V,rfl,by rw[<-hy0];exact u,NO Z (fun s X=>NC (L σ ys).plain (qN x) σ x0 s X) (fun o ho=>ND (L σ ys).plain (qN x) σ x0 o ho) t⟩
  obtain⟨n0,O⟩:=O;refine Ib (fun(m n:Nat)=>m<n) Nat.lt_wfRel.wf (fun n q w'=>Gb P C A hk E x K σ ys n q w') n0 O ?_;intro n a1 w1 hI;exact Gc M hI (fun e d f q w' B' j z v D i=>l e d f q w' B' j z v D i) (fun m' W q w' h'=>⟨m',W,h'⟩)
 | .exit id,σ,ys,K,Q,a,w,B,ds,h,u,t,l=>wpIn_exit (l (.exit id) σ ys a w B ds (Ext.refl _) h u t)
 | .ret,σ,ys,K,Q,a,w,B,ds,h,u,t,l=>wpIn_ret (l .ret σ ys a w B ds (Ext.refl _) h u t)
 | .rangeFunc g ps aZ b,σ,ys,K,Q,a,w,B,ds,h,u,t,l=>by
  simp only[Bz] at h;exact p g ps aZ b σ ys _ B ds a w Q h u t (fun x d f q w' B' j v z D i=>l (jaW x) d f q w' B' j z v D i)
 | .scope _,_,_,_,_,_,_,_,_,h,_,_,_=>h.elim
 | .label _,_,_,_,_,_,_,_,_,h,_,_,_=>h.elim
 | .goto _,_,_,_,_,_,_,_,_,h,_,_,_=>h.elim
 | .refuse _,_,_,_,_,_,_,_,_,h,_,_,_=>h.elim
end
end Go.X
namespace Go.X
open Go.RowKit (Below)
abbrev Res (D:Type):=List D->(Nat->Prop)->Imm->World->Prop
def Res.stable {D:Type} (R:Res D) (B0:Nat):Prop:=
 ∀pre fp H w H' w',R pre fp H w->w'.os=w.os->w'.tape=w.tape->w'.output=w.output->w.drawn<=w'.drawn->w.heap.size<=w'.heap.size->ew H' w'->(∀b c,H b=some c->H' b=some c)->
  (∀b,b<w.heap.size->(b<B0\/fp b)->w'.heap[b]? =w.heap[b]?/\H' b=H b)->R pre fp H' w'
structure X7 (B0:Nat) (fp:Nat->Prop) (H:Imm) (w:World) (fp':Nat->Prop) (H':Imm) (w':World):Prop where
 size:w.heap.size<=w'.heap.size
 good:ew H' w'
 mono:∀b c,H b=some c->H' b=some c
 own:∀b,b<w.heap.size->B0<=b->¬fp b->w'.heap[b]? =w.heap[b]?/\H' b=H b
 fp:∀b,fp' b->(fp b\/w.heap.size<=b)/\b<w'.heap.size/\B0<=b
def YB (P:Program) (ts:List Ty) (B0 l:Nat) (R c:Res (Ty.st ts).Data) (a:List (Ty.st ts).Data->Prop):Prop:=
 ∀pre x vals fp H w,a (pre++[x])->R pre fp H w->ew H w->B0<=w.heap.size->(∀b,fp b->b<w.heap.size/\B0<=b)->rvs H ts vals x->
  YieldAt Fence.wide 0 P l vals.toArray w (fun e w'=>∃β fp' H',e= .returned (.bool β)/\X7 B0 fp H w fp' H' w'/\(match β with|true=>R (pre++[x]) fp' H' w'|false=>c (pre++[x]) fp' H' w'))
def Vi (P:Program) (H:Imm) (ts:List Ty) (L:List (Ty.st ts).Data->Prop) (v:Value):Prop:=
 ∃g lb,v= .func (.func g) #[] lb/\enters P g/\∀H1 w l (R a:Res (Ty.st ts).Data),(∀b c,H b=some c->H1 b=some c)->ew H1 w->R.stable w.heap.size->a.stable w.heap.size->
  YB P ts w.heap.size l R a (fun q=>∃rest,L (q++rest))->R [] (fun _=>False) H1 w->
  Calls P g (#[.func (.yield l) #[] #[]]++lb) w (fun e w'=>∃v,e= .returned v/\((∃xs fp' H',L xs/\R xs fp' H' w')\/(∃q fp' H',a q fp' H' w')))
theorem Vi.mono {P:Program} {H H':Imm} (i:∀b c,H b=some c->H' b=some c) {ts:List Ty} {L:List (Ty.st ts).Data->Prop} {v:Value} (h:Vi P H ts L v):Vi P H' ts L v:=by
 obtain⟨g,lb,e,en,k⟩:=h;exact⟨g,lb,e,en,fun a w l R d f=>k a w l R d (fun b c j=>f b c (i b c j))⟩
abbrev YS (ts:List Ty):=List (Ty.st ts).Data×Bool
def W3:Value->Option Nat
 | .func (.yield l) f c=>match f.toList,c.toList with
  |[],[]=>some l
  |_,_=>none
 |_=>none
abbrev Inl (ts:List Ty):=List SV->St->YS ts->(SV->St->YS ts->Prop)->Prop
def hkY (ts:List Ty) (l:Nat) (b:List Nat) (c:List (Ty.st ts).Data->Prop) (inl:Nat->Option (Inl ts)):Di (YS ts):=
 ⟨fun d=>aX b d,fun a args τ ys K=>match ys.2 with
  |false=>False
  |true=>match a with
   | .lit v=>match W3 v with
    |some l'=>l'=l/\(match Hw τ ts args with
     |some (d,fz)=>c (ys.1++[d])/\K (.dat .bool true) (τ.frz fz) (ys.1++[d],true)/\K (.dat .bool false) (τ.frz fz) (ys.1++[d],false)
     |none=>False)
    |none=>False
   | .clo f caps=>match inl f with
    |some run=>run (args++caps) τ ys K
    |none=>False
   |_=>False,fun _ _ _ _ _ _ _=>False⟩
def LvY (ts:List Ty) (B0:Nat) (R a:Res (Ty.st ts).Data) (B:qw) (ds:List Deferred) (ys:YS ts):Prop:=
 ds=[]/\B0<=B.w.heap.size/\(∀b,b∈B.bor->B0<=b)/\∃fp:Nat->Prop,(∀b,fp b->B0<=b/\b<B.w.heap.size/\b∉B.bor)/\(match ys.2 with|true=>R ys.1 fp B.H B.w|false=>a ys.1 fp B.H B.w)
section
variable {P:Program} {C:Ctx} {ts:List Ty}
theorem ak (a:Act):b8 [] a=a:=by simp[b8]
theorem R8 (σ:St) (fz:List Nat):Ext σ (σ.frz fz):=⟨⟨[],rfl⟩,⟨_,rfl⟩⟩
def jbc (P:Program) (f:Nat) (run:Inl ts) (c:qw->List Deferred->YS ts->Prop):Prop:=
 enters P f/\∀svs σ ys K B ρ w vals,run svs σ ys K->Sat P B ρ σ.obj w->Pin B ρ->SV.denL P ρ svs vals->c B [] ys->
  Calls P f vals.toArray w (fun e w'=>∃v,e= .returned v/\∃sv τ b B' a,K sv τ b/\Ext σ τ/\(∀s,τ.get s= .any)/\c B' [] b/\Sat P B' a τ.obj w'/\Pin B' a/\SV.den P a sv v)
theorem Ld {o:Oper} {c:Call} {f:Operand} {ev:Operand->Value} {l:Nat} {w:World} (a:o.op= .call c) (b:c.callee= .value f) (e:ev f= .func (.yield l) #[] #[]):
 (execOp ev o).run P w=(Instr.yield l (c.args.map ev)).run P w:=by
 simp only[execOp,a,jA,resolve,b,Deferred.ofValue,e,jK,jm,invoke];simp
theorem Vj {l B0:Nat} {R Rx:Res (Ty.st ts).Data} {sps:List Nat} {Pm:List (Ty.st ts).Data->Prop} {inl:Nat->Option (Inl ts)} (hR:R.stable B0) (hB:YB P ts B0 l R Rx Pm)
 (hinl:∀f run,inl f=some run->jbc P f run (LvY ts B0 R Rx)):fU P C none (hkY ts l sps Pm inl) (LvY ts B0 R Rx):=by
 intro o c f d σ ys K B ds a w next Q hop hc V hd h hL hRel hK;obtain⟨rfl,W,A,fp,D,m⟩:=hL;obtain⟨T,rfl,hd0,N,ρ,hS,X,t⟩:=hRel;rw[ak] at hK⊢;have hnd:∀c,o.op≠.defer c:=fun c e=>by rw[hop] at e;cases e
 have q:=wH (P:=P) (ρ:=ρ) X f;have u:=cn (P:=P) (ρ:=ρ) (σ:=σ) (fun x=>wH (P:=P) (ρ:=ρ) X x) c.args.toList;refine⟨fun _ _=>trivial,?_⟩;rw[Oper.semAt_eq _ _ _ hnd];simp only[hkY] at h
 split at h
 .exact h.elim
 rename_i G;rw[G] at m;simp only at m
 split at h
 .rename_i v hv
  split at h
  case h_2=>exact h.elim
  rename_i l' j;obtain⟨rfl,h⟩:=h
  split at h
  case h_2=>exact h.elim
  rename_i x fz hz;obtain⟨hPm,hK1,hK2⟩:=h;rw[hv] at q;simp only[SV.den] at q;have hev:T.eval f= .func (.yield l') #[] #[]:=by
   rw[q];unfold W3 at j
   split at j
   .split at j
    .rename_i e1 e2;simp at j;subst j;have e1:=jF.1 (show _=(#[]:Array Value).toList from e1);have e2:=jF.1 (show _=(#[]:Array Value).toList from e2);rw[e1,e2]
    .cases j
   .cases j
  rw[Ld hop hc hev];obtain⟨ρ1,g,E,Y,hlen1⟩:=wN fz hS;have hrv:=eK g (vS σ fz) hz (fun o ho=>ho) (SV.denL_mono E _ _ (fun o ho=>by simp at ho) u);have hmono:∀b c,B.H b=some c->ρ1.H b=some c:=fun b c i=>E.H b c (t.2 b c i)
  have hR1:R ys.1 fp ρ1.H w:=hR _ _ _ _ _ _ m g.os g.tape g.output g.drawn g.size g.good hmono (fun b i O=>by
   have hnb:b∉B.bor:=by
    rcases O with O|O
    .intro hm;have:=A b hm;omega
    .exact(D b O).2.2
   exact⟨g.old b i hnb,g.oldH b i hnb⟩)
  have z:∀o b J,ρ1.blk o=some (some (b,J))->b<w.heap.size/\B0<=b/\¬fp b:=by
   intro o b J i;refine⟨(au (σ:=σ.frz fz) g i).1,?_,fun hf=> ?_⟩
   .rcases g.own o b J i with L|L
    .omega
    .exact A b L
   .have:=D b hf;rcases g.own o b J i with L|L
    .omega
    .exact this.2.2 L
  obtain⟨fn,tmps,aZ,body,hy,S⟩:=hB ys.1 x _ fp ρ1.H w hPm hR1 g.good (jD W g.size) (fun b i=>⟨zA (D b i).2.1 g.size,(D b i).1⟩) hrv;have hy':(Instr.yield l' (c.args.map T.eval)).run P w= .ok (.round l' fn tmps aZ body) w:=by
   rw[<-hy];congr 2;apply jF.1;simp
  rw[hy'];simp only[Oper.uponIn];refine⟨fun hd=>by simp[Fence.wide] at hd,?_⟩;refine RoundIn.mono (F:=WF none) (n:=0) S fun e w' he=> ?_
  obtain⟨β,fp',H',rfl,hY,hres'⟩:=he;simp only;rw[V]
  let B':qw:={B with w:=w',H:=H',bor:=w6 ρ1 (vk (σ.frz fz).ob)}
  have hS2:Sat P B' {ρ1 with H:=H'} (σ.frz fz).obj w':=ml g hY.good hY.mono (fun o b J i=>by
   obtain⟨k1,k2,k3⟩:=z o b J i;exact hY.own b k1 k2 k3)
  have hle2:ρ.le {ρ1 with H:=H'} []:=E.trans ⟨hY.mono,fun _ _ _ h=>h,fun _ _=>rfl⟩;have M:LvY ts B0 R Rx B' [] (ys.1++[x],β):=by
   refine⟨rfl,jD W (jD g.size hY.size),fun b i=> ?_,fp',fun b i=> ?_,?_⟩
   .obtain⟨o,J,_,L⟩:=(w7 _).1 i;exact(z o b J L).2.1
   .obtain⟨g1,g2,g3⟩:=hY.fp b i;refine⟨g3,g2,fun hm=> ?_⟩;obtain⟨o,J,_,L⟩:=(w7 _).1 hm;obtain⟨k1,k2,k3⟩:=z o b J L;rcases g1 with g1|g1
    .exact k3 g1
    .omega
   .cases β<;>exact hres'
  have hP2:Pin B' {ρ1 with H:=H'}:=⟨fun o p ho hp=>by
   have:=t.1 o p ho (by rw[<-Y];exact hp);exact⟨this.1,by show ρ1.len o=_;rw[hlen1];exact this.2⟩,fun _ _ i=>i⟩
  have fin:ux P B' C.n [] ⟨(d,.dat .bool β)::(σ.frz fz).sl,(σ.frz fz).ob⟩ (T.put (some d) (.bool β)) w':=by
   refine⟨_,(ak _).symm,by simpa[Act.put] using hd0,by simpa[Act.put] using N,_,hS2,?_,hP2⟩;intro s y I;simp only[Act.put];by_cases hs:s=d
   .subst hs;rw[wE] at I;simp at I;subst I;simp only[jq,jG];simp only[if_true];rw[jh (by rw[N];exact hd)];exact yS _
   .rw[wt (fun h=>hs h.symm)] at I;simp only[jq,jG];rw[jc (fun h=>hs h.symm)];have:=SV.den_mono hle2 _ _ (fun r hr=>by simp at hr) (X s y I);simpa only[jq] using this
  cases β with
  |true=>exact hK _ _ _ _ _ _ hK1 (R8 σ fz) M fin
  |false=>exact hK _ _ _ _ _ _ hK2 (R8 σ fz) M fin
 .rename_i k caps hv
  split at h
  case h_2=>exact h.elim
  rename_i run hrun;obtain⟨hen,Z⟩:=hinl k run hrun;rw[hv] at q;simp only[SV.den] at q;obtain⟨vs,ef,hcaps⟩:=q;have hall:=yu _ _ _ _ u hcaps;have hex:(execOp T.eval o).run P w= .ok (.enter k (c.args.map T.eval++vs)) w:=by
   simp only[execOp,hop,jA,resolve,hc,Deferred.ofValue,ef,jK,jm,invoke];rw[<-hen (c.args.map T.eval++vs) w];simp
  rw[hex];simp only[Oper.uponIn];refine⟨fun hd=>by simp[Fence.wide] at hd,mq.2 ?_⟩;have hc1:=Z _ σ ys K B ρ w _ h hS t hall ⟨rfl,W,A,fp,D,by rw[G];exact m⟩;rw[show(c.args.toList.map T.eval++vs.toList).toArray=c.args.map T.eval++vs from by apply jF.1;simp] at hc1;refine hc1.mono fun e w' he=> ?_
  obtain⟨v,rfl,sv,τ,ys',B',ρ',hk,hE,hany,M,hS',hP',hdv⟩:=he;simp only;rw[V];refine hK sv τ ys' v w' B' hk hE M ⟨_,(ak _).symm,by simpa[Act.put] using hd0,by simpa[Act.put] using N,ρ',hS',?_,hP'⟩;intro s y I;simp only[Act.put];by_cases hs:s=d
  .subst hs;rw[wE] at I;simp at I;subst I;simp only[jq,jG];simp only[if_true];rw[jh (by rw[N];exact hd)];exact hdv
  .rw[wt (fun h=>hs h.symm)] at I;have:=hany s;unfold St.get at this;rw[I] at this;simp only at this;subst this;simp[SV.den]
 .exact h.elim
theorem X8 {l B0:Nat} {R c:Res (Ty.st ts).Data} {a:List Nat} {b:List (Ty.st ts).Data->Prop} {inl:Nat->Option (Inl ts)} {r:Option Nat}:BA P C r (hkY ts l a b inl) (LvY ts B0 R c):=
 fun _ _ _ _ _ _ _ _ _ _ _ _ h _ _ _=>h.elim
end
end Go.X
namespace Go.X
open Go.RowKit (Below)
def EY:List SV->Nat->List (Nat×SV)
 |[],_=>[]
 |v::r,i=>(i,v)::EY r (i+1)
def X9 (σ:St):List (Nat×SV):=(vk σ.sl).map (fun s=>(s,SV.any))
def jbP {ts:List Ty} (C:Ctx) (A:Ak (YS ts)) (hk:Di (YS ts)) (body:Code):Inl ts:=fun svs σ ys K=>
 match Nat.ble svs.length C.n with
 |false=>False
 |true=>Bz C A hk body ⟨EY svs 0,σ.ob⟩ ys (fun e b a=>match e with
  | .exit _=>False
  |_=>K .any ⟨X9 σ++σ.sl,b.ob⟩ a)
@[irreducible] def Vk (C:Ctx) (body:Code) (ts:List Ty) (caps:List Par) (L:PD caps->List (Ty.st ts).Data->Prop) (pre:PD caps->List Prop) (A:PD caps->Nat->Ak (YS ts)) (hk:PD caps->Nat->Di (YS ts)):Prop:=
 ∀(d:PD caps) (l:Nat),Fx (pre d) (Bz C (A d l) (hk d l) body ⟨(0,.lit (.func (.yield l) #[] #[]))::vo caps d 1,[]⟩ ([],true) (fun e _ ys=>match e with
  | .exit _=>False
  |_=>ys.2=true->L d ys.1))
section
variable {P:Program} {C:Ctx} {ts:List Ty}
theorem EZ {ρ:Env}:∀(svs:List SV) (vals:List Value) (i:Nat),SV.denL P ρ svs vals->∀s v,wA (EY svs i) s=some v->∃x,vals[s-i]? =some x/\SV.den P ρ v x/\i<=s
 |[],_,_,_,_,_,h=>by simp[EY,wA] at h
 |u::r,vals,i,hd,s,v,h=>by
  simp only[SV.denL] at hd
  obtain⟨x,f,rfl,b,c⟩:=hd
  simp only[EY,wA] at h
  cases a:Nat.beq i s with
  |true=>
   have:=ja a;subst this
   rw[a] at h;simp at h;subst h
   exact⟨x,by simp,b,jk _⟩
  |false=>
   rw[a] at h
   obtain⟨y,d,e,g⟩:=EZ r f (i+1) c s v h
   exact⟨y,by rw[show s-i=(s-(i+1))+1 by omega];simpa using d,e,by omega⟩
theorem lm {vals:List Value} {n k:Nat} {x:Value} (h:vals[k]? =some x):(vals.toArray++Array.replicate n undef).getD k undef=x:=by
 have a:=(jo.1 h).1;rw[jq,zg (by simpa using a)];simp[h]
theorem W4 (hC:C.ok P) (W:P.follows .mixedOrders=true) {g:Nat} {fn:Func} {body:Code} (hf:P.funcs[g]? =some fn) (c:fn.body=some body) (u:(fn.name== "runtime.NumGoroutine")=false) (hn:fn.ntmps=C.n)
 (M:fn.results.toList=[]) {caps:List Par} (hps:caps.length+1<=C.n) {L:PD caps->List (Ty.st ts).Data->Prop} {pre:PD caps->List Prop} {A:PD caps->Nat->Ak (YS ts)} {hk:PD caps->Nat->Di (YS ts)}
 (h:Vk C body ts caps L pre A hk) (t:∀d l B0 R j,Res.stable R B0->Res.stable j B0->YB P ts B0 l R j (fun q=>∃rest,L d (q++rest))->fU P C none (hk d l) (LvY ts B0 R j)/\BA P C none (hk d l) (LvY ts B0 R j))
 {H:Imm} {lb:Array Value} {d:PD caps} (hd:pvs P H caps lb.toList d) (K:vC (pre d)):Vi P H ts (L d) (.func (.func g) #[] lb):=by
 unfold Vk at h;refine⟨g,lb,rfl,q8 hf c u,fun H1 w l R j hH hg hR E hY T=> ?_⟩;obtain⟨hc,hr⟩:=t d l w.heap.size R j hR E hY;have hv:=ax _ _ (h d l) K;have G:=pvs.mono hH hd;have I:=br G;refine calls_of_wp hf c (X3.1 ?_)
 let ρ:Env:=⟨H1,fun _=>none,fun _=>0⟩
 let B:qw:=⟨w,H1,[],fun _=>none,fun _=>0⟩
 have hS:Sat P B ρ (⟨(0,.lit (.func (.yield l) #[] #[]))::vo caps d 1,[]⟩:St).obj w:=by
  refine⟨rfl,rfl,rfl,jk _,jk _,hg,fun _ _ _=>rfl,fun _ _ _=>rfl,?_,fun _ _=>rfl,?_,?_⟩;intro o x hx;simp[St.obj,wA] at hx;intro o o' b C1 C2 z;simp[ρ] at z;intro o b C1 z;simp[ρ] at z
 have y: #[Value.func (.yield l) #[] #[]]++lb=(Value.func (.yield l) #[] #[]::lb.toList).toArray:=(by apply jF.1;simp);rw[y];have D:ux P B C.n [] ⟨(0,.lit (.func (.yield l) #[] #[]))::vo caps d 1,[]⟩ {tmps:=(Value.func (.yield l) #[] #[]::lb.toList).toArray++Array.replicate (fn.ntmps-(Value.func (.yield l) #[] #[]::lb.toList).toArray.size) undef,defers:=[]} w:=by
  refine⟨_,(ak _).symm,rfl,by simp at I⊢;omega,ρ,hS,?_,fun o p _ c=>by simp[ρ] at c,fun _ _ c=>c⟩;intro k v hk;cases k with
  |zero=>
   rw[wE] at hk;simp at hk;subst hk;rw[lm (x:= .func (.yield l) #[] #[]) rfl];simp[SV.den]
  |succ k=>
   rw[wt (by omega)] at hk;obtain⟨x,z,h2⟩:=yJ (P:=P) (ρ:=ρ) caps lb.toList d 1 G _ v hk;rw[lm (x:=x) (by simpa using z)];exact h2
 refine vI hC W (A d l) (hk d l) _ hc hr body _ _ _ _ _ w B [] hv ⟨rfl,jk _,fun b c=>by simp[B] at c,fun _=>False,fun _ c=>c.elim,T⟩ D (fun e σ' f a' w' B' ds' hE N Q S=> ?_);obtain⟨rfl,hB0,F,fp,V,a⟩:=Q;obtain⟨a1,rfl,q1,q2,Y,s,q4,q5⟩:=S;rw[ak];have r:∀(Z:Res (Ty.st ts).Data),Z.stable w.heap.size->Z f.1 fp B'.H B'.w->Z f.1 fp Y.H w':=fun Z hZ hz=>
  hZ _ _ _ _ _ _ hz s.os s.tape s.output s.drawn s.size s.good q5.2 (fun b c i=>by
   have J:b∉B'.bor:=by
    rcases i with i|i;intro W;have:=F b W;omega;exact(V b i).2.2
   exact⟨s.old b c J,s.oldH b c J⟩)
 have m:(f.2=true->L d f.1)->a1.defers=[]/\∃v,(Go.results fn a1.tmps).run P w'= .ok v w'/\∃v',(Ending.returned v)= .returned v'/\((∃xs fp' H',L d xs/\R xs fp' H' w')\/(∃q fp' H',j q fp' H' w')):=by
  intro O;refine⟨q1,_,gj (vs:=[]) (by rw[M];rfl),_,rfl,?_⟩;cases X:f.2 with
  |true=>rw[X] at a;exact .inl ⟨_,fp,_,O X,r R hR a⟩
  |false=>rw[X] at a;exact .inr ⟨_,fp,_,r j E a⟩
 cases e with
 |normal=>exact m N
 |ret=>exact m N
 |exit id=>exact N.elim
end
end Go.X
namespace Go.X
open Go.RowKit (Below)
def uN:(ps:List ba)->OD ps->KD ps->OD ps
 |[],_,_=>()
 | .own _ true::ps,d,k=>(k.1,uN ps d.2 k.2)
 | .own _ false::ps,d,k=>(d.1,uN ps d.2 k)
 | .val _::ps,d,k=>(d.1,uN ps d.2 k)
 | .ref _::ps,d,k=>(d.1,uN ps d.2 k)
 | .nil _::ps,d,k=>(d.1,uN ps d.2 k)
 | .clo _::ps,d,k=>(d.1,uN ps d.2 k)
 | .fn _ _::ps,d,k=>(d.1,uN ps d.2 k)
def oi:List ba->Bool
 |[]=>true
 | .own _ false::_=>false
 |_::ps=>oi ps
section
variable {P:Program} {H H':Imm} {w w':World}
theorem NP (f:∀b c,H b=some c->H' b=some c) {c:Cl} {v:Value} {x:c.D} {bs:List Nat} (h:ClV H w c v x bs) (hk:∀b,b∈bs->w'.heap[b]? =w.heap[b]?/\H' b=H b):ClV H' w' c v x bs:=by
 cases c with
 |dat t=>exact⟨Ty.rv_mono f h.1,h.2⟩
 |row E t nl=>
  obtain⟨o,e⟩:=h;refine⟨o,?_⟩;rcases e with e|⟨b,C,vs,rfl,rfl,a,e2,d,k,l,m,n⟩;exact .inl e;obtain⟨g,j⟩:=hk b (by simp);exact .inr ⟨b,C,vs,rfl,rfl,by rw[j];exact a,e2,by rw[g];exact d,k,l,m,fun i y p=>t.rd_mono f _ _ (n i y p)⟩
 |map kt vt=>
  obtain⟨b,es,clock,rfl,rfl,a,e2,d⟩:=h;obtain⟨g,j⟩:=hk b (by simp);exact⟨b,es,clock,rfl,rfl,by rw[j];exact a,by rw[g];exact e2,d.mono f⟩
theorem p9 (d:∀b c,H b=some c->H' b=some c):∀{cs:List Cl} {vs:List Value} {x:Cl.Ds cs} {bs:List Nat},UE H w cs vs x bs->(∀b,b∈bs->w'.heap[b]? =w.heap[b]?/\H' b=H b)->UE H' w' cs vs x bs
 |[],_,_,_,h,_=>h
 |_::_,[],_,_,h,_=>h.elim
 |c::cs,v::vs,x,bs,h,hk=>by
  obtain⟨e,f,rfl,g,i,j⟩:=h
  exact⟨e,f,rfl,NP d g (fun b a=>hk b (jg _ a)),i,p9 d j (fun b a=>hk b (jd _ a))⟩
theorem NQ (a:∀b c,H b=some c->H' b=some c) {s:Sh} {v:Value} {x:s.D} {bs:List Nat} (h:ShV H w s v x bs) (hk:∀b,b∈bs->w'.heap[b]? =w.heap[b]?/\H' b=H b):ShV H' w' s v x bs:=by
 cases s with
 |cl c=>exact NP a h hk
 |box T cs=>
  obtain⟨b,vs,bs',rfl,rfl,d,e2,g⟩:=h;obtain⟨j,k⟩:=hk b (by simp);exact⟨b,vs,bs',rfl,rfl,by rw[k];exact d,by rw[j];exact e2,p9 a g (fun b i=>hk b (jl _ i))⟩
 |fbox f T cs=>
  obtain⟨b,vs,bs',rfl,rfl,d,e2,g⟩:=h;obtain⟨j,k⟩:=hk b (by simp);exact⟨b,vs,bs',rfl,rfl,by rw[k];exact d,by rw[j];exact e2,p9 a g (fun b i=>hk b (jl _ i))⟩
 |agg cs=>
  obtain⟨vs,rfl,e⟩:=h;exact⟨vs,rfl,p9 a e hk⟩
theorem R9 (a:∀b c,H b=some c->H' b=some c) {p:ba} {v:Value} {d:p.Data} {bs:List Nat} (h:jaV P H w p v d bs) (hk:∀b,b∈bs->w'.heap[b]? =w.heap[b]?/\H' b=H b):jaV P H' w' p v d bs:=by
 cases p with
 |val t=>exact⟨Ty.rv_mono a h.1,h.2⟩
 |ref t=>exact⟨Rh.mono a h.1,h.2⟩
 |nil _=>exact h
 |clo f=>exact h
 |fn ps rs=>exact⟨FnV.mono a h.1,h.2⟩
 |own s b=>exact NQ a h hk
theorem dz (e:∀b c,H b=some c->H' b=some c):∀{ps:List ba} {vs:List Value} {d:OD ps} {bs:List Nat},dx P H w ps vs d bs->(∀b,b∈bs->w'.heap[b]? =w.heap[b]?/\H' b=H b)->dx P H' w' ps vs d bs
 |[],_,_,_,h,_=>h
 |_::_,[],_,_,h,_=>h.elim
 |p::ps,v::vs,d,bs,h,hk=>by
  obtain⟨f,g,rfl,i,j⟩:=h
  exact⟨f,g,rfl,R9 e i (fun b a=>hk b (jg _ a)),dz e j (fun b a=>hk b (jd _ a))⟩
theorem bG (i:∀b c,H b=some c->H' b=some c):∀{ps:List ba} {vs:List Value} {d:OD ps} {k:KD ps} {bs a:List Nat},oi ps=true->dx P H w ps vs d bs->sO H' w' ps vs k a->dx P H' w' ps vs (uN ps d k) a
 |[],_,_,_,_,_,_,h,hk=>⟨h.1,hk⟩
 |_::_,[],_,_,_,_,_,h,_=>h.elim
 | .own s true::ps,v::vs,d,k,bs,a,ha,h,hk=>by
  obtain⟨j,l,rfl,g,e⟩:=h
  obtain⟨c1,c2,rfl,m,n⟩:=hk
  exact⟨c1,c2,rfl,m,bG i ha e n⟩
 | .own s false::ps,v::vs,d,k,bs,a,ha,h,hk=>by simp[oi] at ha
 | .val t::ps,v::vs,d,k,bs,a,ha,h,hk=>by
  obtain⟨j,l,rfl,g,e⟩:=h
  exact⟨[],a,rfl,⟨Ty.rv_mono i g.1,rfl⟩,bG i ha e hk⟩
 | .ref t::ps,v::vs,d,k,bs,a,ha,h,hk=>by
  obtain⟨j,l,rfl,g,e⟩:=h
  exact⟨[],a,rfl,⟨Rh.mono i g.1,rfl⟩,bG i ha e hk⟩
 | .nil _::ps,v::vs,d,k,bs,a,ha,h,hk=>by
  obtain⟨j,l,rfl,g,e⟩:=h
  exact⟨[],a,rfl,⟨g.1,rfl⟩,bG i ha e hk⟩
 | .clo f::ps,v::vs,d,k,bs,a,ha,h,hk=>by
  obtain⟨j,l,rfl,g,e⟩:=h
  exact⟨[],a,rfl,⟨g.1,rfl⟩,bG i ha e hk⟩
 | .fn o rs::ps,v::vs,d,k,bs,a,ha,h,hk=>by
  obtain⟨j,l,rfl,g,e⟩:=h
  exact⟨[],a,rfl,⟨FnV.mono i g.1,rfl⟩,bG i ha e hk⟩
theorem v7:∀{ps:List ba} {vs:List Value} {d:OD ps} {k:KD ps} {bs:List Nat},oi ps=true->dx P H w ps vs (uN ps d k) bs->sO H w ps vs k bs
 |[],_,_,_,_,_,h=>h.2
 |_::_,[],_,_,_,_,h=>h.elim
 | .own s true::ps,v::vs,d,k,bs,ha,h=>by
  obtain⟨b,c,rfl,e,a⟩:=h
  exact⟨b,c,rfl,e,v7 (d:=d.2) ha a⟩
 | .own s false::ps,v::vs,d,k,bs,ha,h=>by simp[oi] at ha
 | .val t::ps,v::vs,d,k,bs,ha,h=>by
  obtain⟨b,c,rfl,⟨_,rfl⟩,a⟩:=h
  exact v7 (d:=d.2) (ps:=ps) ha a
 | .ref t::ps,v::vs,d,k,bs,ha,h=>by
  obtain⟨b,c,rfl,⟨_,rfl⟩,a⟩:=h
  exact v7 (d:=d.2) (ps:=ps) ha a
 | .nil _::ps,v::vs,d,k,bs,ha,h=>by
  obtain⟨b,c,rfl,⟨_,rfl⟩,a⟩:=h
  exact v7 (d:=d.2) (ps:=ps) ha a
 | .clo f::ps,v::vs,d,k,bs,ha,h=>by
  obtain⟨b,c,rfl,⟨_,rfl⟩,a⟩:=h
  exact v7 (d:=d.2) (ps:=ps) ha a
 | .fn g rs::ps,v::vs,d,k,bs,ha,h=>by
  obtain⟨b,c,rfl,⟨_,rfl⟩,a⟩:=h
  exact v7 (d:=d.2) (ps:=ps) ha a
theorem aB:∀(ps:List ba) (d:OD ps) (k k':KD ps),uN ps (uN ps d k) k'=uN ps d k'
 |[],_,_,_=>rfl
 | .own _ true::ps,d,k,k'=>by simp only[uN,aB ps]
 | .own _ false::ps,d,k,k'=>by simp only[uN,aB ps]
 | .val _::ps,d,k,k'=>by simp only[uN,aB ps]
 | .ref _::ps,d,k,k'=>by simp only[uN,aB ps]
 | .nil _::ps,d,k,k'=>by simp only[uN,aB ps]
 | .clo _::ps,d,k,k'=>by simp only[uN,aB ps]
 | .fn _ _::ps,d,k,k'=>by simp only[uN,aB ps]
end
end Go.X
namespace Go.X
open Go.RowKit (Below)
structure Ic (ts:List Ty) where
 ps:List ba
 slots:List Nat
 dst:Nat
 pre:OD ps->List Prop
 G:OD ps->List (Ty.st ts).Data->KD ps
 stop:OD ps->List (Ty.st ts).Data->Bool:=fun _ _=>false
 seq:SV->Option (Prop×(List (Ty.st ts).Data->Prop))
def E0:Di Unit:=⟨fun _=>false,fun _ _ _ _ _=>False,fun _ _ _ _ _ _ _=>False⟩
def NR (slots:List Nat) (i:Nat):Nat:=match slots[i]? with|some s=>s|none=>1000000
def Zu (slots:List Nat) (l:List (Nat×SV)):List (Nat×SV):=l.map (fun p=>(NR slots p.1,p.2))
def Gd:List Nat->List SV->List (Nat×SV)
 |p::ps,v::vs=>(p,v)::Gd ps vs
 |_,_=>[]
def yh {D:Type} (stop:List D->Bool) (q:List D):Prop:=∀a x b,q=a++x::b->stop (a++[x])=false
def NS {D:Type} (L:List D->Prop) (stop:List D->Bool) (q:List D):Prop:=∃a x rest,q=a++[x]/\L (a++x::rest)/\yh stop a/\stop q=true
def NU (σ:St) (ps:List ba) (a:KD ps):Prop:=match aa σ ps 0 with
 |some (k,o2,b)=>match gm o2,iP b o2 with
  |true,false=>k=a
  |_,_=>False
 |none=>False
def Le (ps:List ba) (a:KD ps) (b:Bool):Ex->St->Unit->Prop
 | .normal,σ,_=>b=false/\NU σ ps a
 | .ret,σ,_=>b=true/\NU σ ps a
 |_,_,_=>False
def Sa {ts:List Ty} (C:Ctx) (A:Ak Unit) (rs:Ic ts) (pl:List Nat) (aZ b:Code) (L:List (Ty.st ts).Data->Prop) (d:OD rs.ps):Prop:=
 ∀(q:List (Ty.st ts).Data) (x:(Ty.st ts).Data) (rest:List (Ty.st ts).Data),L (q++x::rest)->yh (rs.stop d) q->
  Bz C A E0 aZ ⟨Gd pl (results ts x)++Zu rs.slots (oSl rs.ps (uN rs.ps d (rs.G d q)) 0),oOb rs.ps (uN rs.ps d (rs.G d q)) 0⟩ () (fun e a _=>match e with
   | .normal=>Bz C A E0 b a () (Le rs.ps (rs.G d (q++[x])) (rs.stop d (q++[x])))
   |_=>False)
def Ge (n k:Nat) (pl slots:List Nat):Bool:=match pl.all (fun p=>match Nat.blt p n,aX slots p with|true,false=>true|_,_=>false),gm pl,Nat.beq pl.length k,slots.all (fun s=>Nat.blt s n) with
 |true,true,true,true=>true
 |_,_,_,_=>false
def NV {ts:List Ty} (C:Ctx) (rs:Ic ts) (σ:St) (xs:List (Ty.st ts).Data) (_:OD rs.ps) (K:St->Unit->Prop):Prop:=
 match Bv C ⟨rs.ps,[],rs.pre,fun d=>((),rs.G d xs)⟩ rs.dst σ (rs.slots.map σ.get) with
 |some out=>match Eu ⟨σ,[]⟩ out.nw with
  |true=>K ⟨σ.sl,out.wr++(gM σ out.fz++σ.ob)⟩ ()
  |false=>False
 |none=>False
def hkR (C:Ctx) (A:Ak Unit) (a:Nat->Option ((ts:List Ty)×Ic ts)):Di Unit:=
 ⟨fun _=>false,fun _ _ _ _ _=>False,fun g ps aZ b σ _ K=>match a (nf b) with
  |some ⟨ts,rs⟩=>
   match rs.seq (wJ σ g),K9 C σ rs.ps (rs.slots.map σ.get) with
   |some (pr,L),some (d,os,fz)=>match gm os,iP fz os,oi rs.ps,gm (K8 rs.ps 0),Ge C.n ts.length ps.toList rs.slots with
    |true,false,true,true,true=>pr/\vC (rs.pre d)/\uN rs.ps d (rs.G d [])=d/\Sa C A rs ps.toList aZ b L d/\
     (∀xs,L xs->yh (rs.stop d) xs->NV C rs σ xs d (K false))/\
     (∀q x rest,L (q++x::rest)->yh (rs.stop d) q->rs.stop d (q++[x])=true->NV C rs σ (q++[x]) d (K true))
    |_,_,_,_,_=>False
   |_,_=>False
  |none=>False⟩
def ZX (Bi B:qw) (ds:List Deferred):Prop:=
 ds.Nodup/\∀x,x∈ds->∃D,x={target:= .collected D,args:= #[]}/\Bi.w.heap.size<=D/\D∉B.bor/\B.w.heap[D]? =some (.deferred (some []))
def LvR (Bi:qw) (B:qw) (ds:List Deferred) (_:Unit):Prop:=Du Bi B/\ZX Bi B ds
section
variable {P:Program} {C:Ctx}
theorem BC {r:Option Nat} {a:qw->List Deferred->Unit->Prop}:fU P C r E0 a:=fun _ _ _ _ _ _ _ _ _ _ _ _ _ _ _ _ _ h _ _ _=>h.elim
theorem E1 {r:Option Nat} {a:qw->List Deferred->Unit->Prop}:BA P C r E0 a:=fun _ _ _ _ _ _ _ _ _ _ _ _ h _ _ _=>h.elim
theorem E2 {c:Fz} {r:Loop}:¬c.at (some (.loop r)):=by
 cases c with
 |cells c=>rintro⟨T,a,e⟩;cases e
 |map es clock=>intro e;simp[Fz.at] at e
theorem nx {c:Fz} {ds:Option (List Deferred)}:¬c.at (some (.deferred ds)):=by
 cases c with
 |cells c=>rintro⟨T,a,e⟩;cases e
 |map es clock=>intro e;simp[Fz.at] at e
theorem E3 {ρ:Env} {w:World} {o b f:Nat} {x:Ob} (h:qb P ρ w o (some (b,f)) x):(∀r,w.heap[b]?≠some (.loop r))/\∀ds,w.heap[b]?≠some (.deferred ds):=by
 have key:∀y,w.heap[b]? =some y->((∀r,y≠.loop r)/\∀ds,y≠.deferred ds)->(∀r,w.heap[b]?≠some (.loop r))/\∀ds,w.heap[b]?≠some (.deferred ds):=by
  intro y i d;rw[i];exact⟨fun r e=>d.1 r (by simpa using e),fun ds e=>d.2 ds (by simpa using e)⟩
 cases x with
 |box T fz cs=>
  obtain⟨c,C',vs,e,a,_⟩:=h;simp at e;obtain⟨rfl,rfl⟩:=e;exact key _ a ⟨by simp,by simp⟩
 |row E t fz nl l=>
  obtain⟨_,_,_,vs,a,_⟩:=h;exact key _ a ⟨by simp,by simp⟩
 |map fz kt vt l=>
  obtain⟨c,C',es,clock,e,a,_⟩:=h;simp at e;obtain⟨rfl,rfl⟩:=e;exact key _ a ⟨by simp,by simp⟩
 |iter kt vt left cur=>
  obtain⟨c,C',y,e,a,g,_⟩:=h;simp at e;obtain⟨rfl,rfl⟩:=e;refine key _ a ⟨fun r e=> ?_,fun ds e=> ?_⟩<;>subst e<;>simp[ng] at g
 |mape kt vt l k s=>
  obtain⟨c,C',es,clock,e,a,_⟩:=h;simp at e;obtain⟨rfl,rfl⟩:=e;exact key _ a ⟨by simp,by simp⟩
theorem Al {B:qw} {ρ:Env} {σ:St} {w:World} (d:Sat P B ρ σ.obj w) {o b e:Nat} (h:ρ.blk o=some (some (b,e))):(∀r,w.heap[b]?≠some (.loop r))/\∀ds,w.heap[b]?≠some (.deferred ds):=by
 cases a:σ.obj o with
 |none=>rw[d.dead o a] at h;cases h
 |some g=>
  obtain⟨p,c,f⟩:=d.obs o g a;rw[h] at c;simp at c;subst c;exact E3 f
theorem Sb {B:qw} {ρ:Env} {obj:Nat->Option Ob} {w:World} (a:Sat P B ρ obj w) {l:Nat} {r:Loop} (o:Obj) (s:l<B.w.heap.size) (y:l∉B.bor) (m:w.heap[l]? =some (.loop r)):
 Sat P {B with w:=B.w.putObj l o} ρ obj (w.putObj l o):=by
 have j:∀b c,ρ.H b=some c->b≠l:=by
  intro b c d e;subst e;have:=a.good.1 _ _ d;rw[m] at this;exact E2 this
 refine⟨a.os,a.tape,a.output,a.drawn,by simpa using a.size,⟨fun b c d=> ?_,a.good.2⟩,fun b f i=>a.oldH b (by simpa using f) i,fun b f i=> ?_,?_,a.dead,a.inj,fun o' b n h=>by simpa using a.own o' b n h⟩;rw[World.putObj_heap_other (j b c d)];exact a.good.1 b c d;have g:b<B.w.heap.size:=(by simpa using f);show(w.putObj l o).heap[b]? =(B.w.putObj l o).heap[b]?;by_cases e:b=l;subst e;rw[World.putObj_heap_same (jt.1 m).1,World.putObj_heap_same s];rw[World.putObj_heap_other e,World.putObj_heap_other e];exact a.old b g i;intro o' x v;obtain⟨p,u,q⟩:=a.obs o' x v;refine⟨p,u,wM (Env.le.refl ρ []) (by simp) (fun _ _ _ _ _ t=>by simp at t) (fun b n k=>⟨rfl,?_⟩) q⟩;subst k;refine World.putObj_heap_other (fun e=> ?_);subst e;exact(E3 q).1 r m
theorem Ie {slots:List Nat}:∀(l:List (Nat×SV)) (s:Nat) (v:SV),wA (Zu slots l) s=some v->∃i,(i,v)∈l/\NR slots i=s
 |[],s,v,h=>by simp[Zu,wA] at h
 | (i,u)::l,s,v,h=>by
  simp only[Zu,zu,wA] at h
  cases a:Nat.beq (NR slots i) s with
  |true=>rw[a] at h;simp at h;subst h;exact⟨i,by simp,ja a⟩
  |false=>
   rw[a] at h
   obtain⟨j,b,c⟩:=Ie l s v h
   exact⟨j,by simp[b],c⟩
theorem NW:∀(ps:List ba) (d:OD ps) (i:Nat) (j:Nat) (v:SV),(j,v)∈oSl ps d i->wA (oSl ps d i) j=some v
 |[],d,i,j,v,h=>by simp[oSl] at h
 |p::ps,d,i,j,v,h=>by
  have:∃sv,oSl (p::ps) d i=(i,sv)::oSl ps d.2 (i+1):=by cases p<;>exact⟨_,rfl⟩
  obtain⟨sv,e⟩:=this
  rw[e] at h⊢
  rcases jj.1 h with h|h
  simp at h;obtain⟨rfl,rfl⟩:=h;exact wE _ _ _
  have a:=NW ps d.2 (i+1) j v h
  have:=NK ps d.2 (i+1) j v a
  rw[wt (by omega)]
  exact a
end
end Go.X
namespace Go.X
open Go.RowKit (Below)
def Pb:Bool->Option Code
 |true=>some .ret
 |false=>none
def Kp (rec:Loop) (b:Bool):Loop:={rec with state:=(match b with|true=> .done|false=> .ready),pending:=Pb b}
structure Vl (P:Program) (w:World) (H0:Imm) (bs:List Nat) (rec:Loop) (ps:List ba) (vals:List Value) (d:OD ps) {D:Type} (G:List D->KD ps) (M:List D->Prop) (q:List D) (fp:Nat->Prop) (H:Imm) (W:World):Prop where
 mid:M q
 os:W.os=w.os
 tape:W.tape=w.tape
 output:W.output=w.output
 drawn:w.drawn<=W.drawn
 size:w.heap.size+2<=W.heap.size
 good:ew H W
 mono:∀b c,H0 b=some c->H b=some c
 old:∀b,b<w.heap.size->b∉bs->W.heap[b]? =w.heap[b]?/\H b=H0 b
 mark:W.heap[w.heap.size]? =some (.deferred (some []))
 loop:W.heap[w.heap.size+1]? =some (.loop rec)
 args:∃bs',dx P H W ps vals (uN ps d (G q)) bs'/\bs'.Nodup/\∀b,b∈bs'->(b∈bs\/(fp b/\w.heap.size+2<=b))/\b<W.heap.size
section
variable {P:Program} {C:Ctx}
theorem BD {w:World} {H0:Imm} {bs:List Nat} {rec:Loop} {ps:List ba} {vals:List Value} {d:OD ps} {D:Type} {G:List D->KD ps} {M:List D->Prop} (i:∀b,b∈bs->b<w.heap.size):
 Res.stable (Vl P w H0 bs rec ps vals d G M) (w.heap.size+2):=by
 intro q fp H W H' W' h l e2 m g j r k hk;have low:∀b,b<w.heap.size+2->W'.heap[b]? =W.heap[b]?/\H' b=H b:=fun b a=>hk b (zA a h.size) (.inl a)
 refine⟨h.mid,l.trans h.os,e2.trans h.tape,m.trans h.output,jD h.drawn g,jD h.size j,r,fun b c a=>k b c (h.mono b c a),fun b e p=> ?_,?_,?_,?_⟩;obtain⟨s,t⟩:=low b (by omega);obtain⟨u,v⟩:=h.old b e p;exact⟨s.trans u,t.trans v⟩;rw[(low _ (by omega)).1];exact h.mark;rw[(low _ (by omega)).1];exact h.loop;obtain⟨bs',n,o,f⟩:=h.args;refine⟨bs',dz k n (fun b a=> ?_),o,fun b a=>⟨(f b a).1,zA (f b a).2 j⟩⟩;refine hk b (f b a).2 ?_;rcases(f b a).1 with e|e;have:=i b e;exact .inl (by omega);exact .inr e.1
def fV:List Nat->List Value->Array Value->Array Value
 |p::ps,v::vs,t=>fV ps vs (t.setIfInBounds p v)
 |_,_,t=>t
theorem BE:∀(pl:List Nat) (vs:List Value) (t:Array Value),((pl.zip vs).foldl (fun tmps (x:Tmp×Value)=>match x with|(t,a)=>tmps.setIfInBounds t a) t)=fV pl vs t
 |[],vs,t=>by cases vs<;>rfl
 |p::ps,[],t=>rfl
 |p::ps,v::vs,t=>by simp only[List.zip_cons_cons,List.foldl_cons,fV];exact BE ps vs _
theorem BF:∀(pl:List Nat) (vs:List Value) (t:Array Value),(fV pl vs t).size=t.size
 |[],vs,t=>by cases vs<;>rfl
 |p::ps,[],t=>rfl
 |p::ps,v::vs,t=>by simp only[fV];rw[BF];simp
theorem ln:∀(pl:List Nat) (vs:List Value) (t:Array Value) (s:Nat),s∉pl->(fV pl vs t).getD s undef=t.getD s undef
 |[],vs,t,s,_=>by cases vs<;>rfl
 |p::ps,[],t,s,_=>rfl
 |p::ps,v::vs,t,s,h=>by
  simp only[fV]
  rw[ln ps vs _ s (fun a=>h (jl _ a))]
  simp only[jq,jG]
  rw[jc (fun e=>h (by rw[e];simp))]
theorem If:∀(pl:List Nat) (svs:List SV) (vs:List Value) (t:Array Value) {ρ:Env},pl.Nodup->(∀p,p∈pl->p<t.size)->SV.denL P ρ svs vs->∀(s:Nat) (y:SV),wA (Gd pl svs) s=some y->SV.den P ρ y ((fV pl vs t).getD s undef)
 |[],svs,vs,t,ρ,_,_,_,s,y,h=>by simp[Gd,wA] at h
 |p::ps,[],vs,t,ρ,_,_,_,s,y,h=>by simp[Gd,wA] at h
 |p::ps,sv::svs,vs,t,ρ,hn,hl,hd,s,y,h=>by
  simp only[SV.denL] at hd
  obtain⟨v,r,rfl,a,b⟩:=hd
  rw[zn] at hn
  simp only[fV]
  simp only[Gd] at h
  by_cases e:p=s
  subst e
  rw[wE] at h
  simp only[jy] at h;subst h
  rw[ln ps r _ p hn.1]
  simp only[jq,jG]
  simp only[if_true]
  rw[jh (hl p (by simp))]
  simpa using a
  rw[wt e] at h
  exact If ps svs r _ hn.2 (fun q c=>by simpa using hl q (jl _ c)) b s y h
theorem Gf {n k:Nat} {pl slots:List Nat} (h:Ge n k pl slots=true):(∀p,p∈pl->p<n/\p∉slots)/\pl.Nodup/\pl.length=k/\∀s,s∈slots->s<n:=by
 unfold Ge at h
 split at h
 rename_i a b c d;refine⟨fun p e=> ?_,vq _ b,ja c,fun s f=>jx (j6.1 d s f)⟩;have:=j6.1 a p e
 split at this
 rename_i g i;exact⟨jx g,gh i⟩;cases this;cases h
theorem E4 {H:Imm}:∀(ts:List Ty) (vs:List Value) (d:(Ty.st ts).Data),rvs H ts vs d->vs.length=ts.length
 |[],vs,d,h=>by simp only[rvs] at h;subst h;rfl
 |t::ts,[],d,h=>h.elim
 |t::ts,v::vs,d,h=>by obtain⟨_,a⟩:=h;simp only[jX];rw[E4 ts vs d.2 a]
theorem Vm (hC:C.ok P) (hm:P.follows .mixedOrders=true) {ts:List Ty} {A:Ak Unit} {rs:Ic ts} {p:Array Tmp} {aZ b:Code} {L:List (Ty.st ts).Data->Prop} {d:OD rs.ps} (hround:Sa C A rs p.toList aZ b L d) (hall:oi rs.ps=true)
 (hnm:gm (K8 rs.ps 0)=true) (hsl:Ge C.n ts.length p.toList rs.slots=true) {a0:Act} (hn0:a0.tmps.size=C.n) {fn:FuncId} {w:World} {H0:Imm} {bs:List Nat} (hbs:∀b,b∈bs->b<w.heap.size) {vals:List Value}
 (hvals:vals=rs.slots.map (fun s=>a0.tmps.getD s undef)) {rec:Loop} (Q:rec={state:= .ready,pending:=none,fn,tmps:=a0.tmps,params:=p,assign:=aZ,body:=b,defers:=w.heap.size}):
 YB P ts (w.heap.size+2) (w.heap.size+1) (Vl P w H0 bs (Kp rec false) rs.ps vals d (rs.G d) (yh (rs.stop d))) (Vl P w H0 bs (Kp rec true) rs.ps vals d (rs.G d) (NS L (rs.stop d))) (fun q=>∃rest,L (q++rest)):=by
 intro q x vx fp H W hPm K hgW hB0 hfpW hvx;obtain⟨rest,hL⟩:=hPm;have hL':L (q++x::rest):=(by simpa using hL);obtain⟨bs',r10,r11,Z⟩:=K.args;have hr0:Kp rec false=rec:=(by rw[Q];rfl);have l:=K.loop;rw[hr0] at l;have X:w.heap.size+1<W.heap.size:=(jt.1 l).1;have hlb:w.heap.size+1∉bs':=by
  intro m;rcases(Z _ m).1 with h|h
  .have:=hbs _ h;omega
  .have:=h.2;omega
 have hDb:w.heap.size∉bs':=by
  intro m;rcases(Z _ m).1 with h|h
  .have:=hbs _ h;omega
  .have:=h.2;omega
 obtain⟨hsp,hpn,hpl,hslt⟩:=Gf hsl;have hvl:=E4 _ _ _ hvx;have hy:=run_yield (P:=P) (args:=vx.toArray) l (by rw[Q];simp[hvl,<-hpl]);rw[Q] at hy;refine⟨fn,_,aZ,b,hy,?_⟩;refine roundIn_of_wpIn (F:=Fence.wide) trivial ?_;have ht:((p.zip vx.toArray).foldl (fun tmps (x:Tmp×Value)=>match x with|(t,a)=>tmps.setIfInBounds t a) a0.tmps)=fV p.toList vx a0.tmps:=by
  rw[<-BE,<-Array.foldl_toList];simp
 simp only at ht⊢;rw[ht]
 let d':=uN rs.ps d (rs.G d q)
 have hlen:=lh rs.ps vals d' bs' r10
 let B0:qw:=⟨W,H,bs',fun _=>none,fun _=>0⟩
 let ρ0:Env:=⟨H,fun _=>none,fun _=>0⟩
 have hS0:Sat P B0 ρ0 (oo []) W:=by
  refine⟨rfl,rfl,rfl,jk _,jk _,hgW,fun _ _ _=>rfl,fun _ _ _=>rfl,?_,fun _ _=>rfl,?_,?_⟩
  .intro o x hx;simp[oo,St.obj,wA] at hx
  .intro o o' b C1 C2 O;simp[ρ0] at O
  .intro o b C1 O;simp[ρ0] at O
 obtain⟨ρf,ad,hslf⟩:=Ai rs.ps 0 hS0 (d:=d') r10 r11 (fun b E=>⟨.inr E,fun o C' h=>by simp[ρ0] at h⟩) (vq _ hnm)
  (fun n _=>⟨by simp[oo,St.obj,wA],fun o T fz cs h=>by simp[oo,St.obj,wA] at h⟩)
 let Bx:qw:=⟨W,H,bs',ρf.blk,ρf.len⟩
 have hSf:Sat P Bx ρf (⟨Gd p.toList (results ts x)++Zu rs.slots (oSl rs.ps d' 0),oOb rs.ps d' 0⟩:St).obj W:=by
  have:=NL (B':=Bx) ad.sat rfl rfl rfl;rw[j7] at this;exact this
 have hR0:ux P Bx C.n [] ⟨Gd p.toList (results ts x)++Zu rs.slots (oSl rs.ps d' 0),oOb rs.ps d' 0⟩ {tmps:=fV p.toList vx a0.tmps,defers:=[]} W:=by
  refine⟨_,(ak _).symm,rfl,by rw[BF];exact hn0,ρf,hSf,?_,fun o p _ hp=>⟨hp,rfl⟩,fun _ _ E=>by rw[ad.H];exact E⟩;intro s y hy;rw[wb] at hy;cases hz:wA (Gd p.toList (results ts x)) s with
  |some y'=>
   rw[hz] at hy;simp only[jy] at hy;subst hy;exact If p.toList _ vx _ hpn (fun q hq=>by rw[hn0];exact(hsp q hq).1) (eR (H:=H) ad.H ts vx x hvx) s y' hz
  |none=>
   rw[hz] at hy;simp only at hy;obtain⟨i,hi,hsi⟩:=Ie _ s y hy;obtain⟨u,hu,hdu⟩:=hslf i y (NW _ _ _ _ _ hi);rw[hvals] at hu;simp only[kH,zO] at hu;unfold NR at hsi;cases Y:rs.slots[i]? with
   |none=>rw[Y] at hu;cases hu
   |some s'=>
    rw[Y] at hu hsi;simp only at hsi;subst hsi;simp only[kh,jy] at hu;subst hu;have:s'∉p.toList:=fun m=>(hsp s' m).2 (zx Y)
    show SV.den P ρf y ((fV p.toList vx a0.tmps).getD s' undef);rw[ln _ _ _ _ this];exact hdu
 refine vI (r:=some (w.heap.size+1)) hC hm A E0 (fun B ds _=>B=Bx/\ds=[]) BC E1 aZ _ () _ _ _ W Bx [] (hround q x rest hL' K.mid) ⟨rfl,rfl⟩ hR0 (fun e σ1 _ a1 w1 B1 ds1 _ hK1 hB1 hR1=> ?_);obtain⟨rfl,rfl⟩:=hB1;cases e with
 |ret=>exact hK1.elim
 |exit id=>exact hK1.elim
 |normal=>
 obtain⟨a1',rfl,q1,q2,ρ1,q3,q4,q5⟩:=hR1;rw[ak];have hl1:w1.heap[w.heap.size+1]? =some (.loop rec):=(by rw[q3.old _ X hlb];exact l);refine⟨_,run_beginRound hl1 (by rw[Q]),?_⟩
 let z:Obj:= .loop {rec with state:= .busy}
 let By:qw:={Bx with w:=W.putObj (w.heap.size+1) z}
 have hS2:Sat P By ρ1 σ1.obj (w1.putObj (w.heap.size+1) z):=Sb q3 z X hlb hl1;have hR2:ux P By C.n [] σ1 a1' (w1.putObj (w.heap.size+1) z):=⟨a1',(ak _).symm,q1,q2,ρ1,hS2,q4,q5⟩;refine vI (r:=some (w.heap.size+1)) hC hm A E0 (fun B ds _=>B=By/\ds=[]) BC E1 b σ1 () _ _ _ _ By [] hK1 ⟨rfl,rfl⟩ hR2 (fun e I _ a3 R B3 ds3 _ J hB3 hR3=> ?_);obtain⟨rfl,rfl⟩:=hB3;obtain⟨a3',rfl,s1,s2,ρ3,s3,s4,s5⟩:=hR3;have V:By.w.heap.size=W.heap.size:=(by simp[By]);have hl3:R.heap[w.heap.size+1]? =some z:=by
  rw[s3.old _ (by rw[V];exact X) hlb];exact World.putObj_heap_same X
 have key:∀β:Bool,rs.stop d (q++[x])=β->NU I rs.ps (rs.G d (q++[x]))->∃v w',(Instr.endRound (w.heap.size+1) (Pb β)).run P R= .ok v w'/\
  (∃β fp' H',Ending.returned v= .returned (.bool β)/\X7 (w.heap.size+2) fp H W fp' H' w'/\(match β with
   |true=>Vl P w H0 bs (Kp rec false) rs.ps vals d (rs.G d) (yh (rs.stop d)) (q++[x]) fp' H' w'
   |false=>Vl P w H0 bs (Kp rec true) rs.ps vals d (rs.G d) (NS L (rs.stop d)) (q++[x]) fp' H' w')):=by
  intro β hβ S;refine⟨_,_,run_endRound _ hl3,?_⟩;unfold NU at S
  split at S
  case h_2=>exact S.elim
  rename_i k o2 f2 hkept
  split at S
  case h_2=>exact S.elim
  rename_i hno hme;obtain⟨g,f,hle4,hblk4,hln4⟩:=wN (σ:=I) f2 s3;have hkeep:pV I (I.frz f2) o2:=by
   intro o ho;rw[q7,jc];exact fun hm=>vY _ _ hme o hm ho
  have e3:=qU f (vS I _) rs.ps 0 vals k o2 f2 hkept hlen (fun j sh bb v hj hvj=>by
   obtain⟨y0,hx⟩:=F8 rs.ps d' 0 j sh bb hj;obtain⟨y,y1,y2⟩:=hslf (0+j) _ hx;have:y=v:=by
    rw[show 0+j-0=j by omega,hvj] at y1;simpa using y1.symm
   subst this;refine R1 (fun p hp=> ?_) y2;rw[hblk4] at hp;obtain⟨q1,q2⟩:=s5.1 (b7 (0+j)) p (by unfold b7;omega) hp;exact⟨q1,by rw[hln4];exact q2⟩) (fun o ho=>ho) hkeep
  have N:∀b c,H b=some c->g.H b=some c:=fun b c E=>hle4.H b c (s5.2 b c E)
  have e4:dx P g.H R rs.ps vals (uN rs.ps d' k) (w6 g o2):=bG N hall r10 e3;rw[aB,S] at e4;have hme':({rec with state:= .busy}:Loop)={rec with state:= .busy}:=rfl;obtain⟨D,hfin⟩:∃D:Obj,D= .loop (Kp rec β):=⟨_,rfl⟩;have hfx:({rec with state:=if(Pb β).isNone=true then LoopState.ready else .done,pending:=(Pb β)}:Loop)=Kp rec β:=by cases β<;>rfl
  have hS5:Sat P _ g (I.frz f2).obj (R.putObj (w.heap.size+1) D):=Sb f D (by rw[V];exact X) hlb hl3;have hw3:∀b,b<W.heap.size->b∉bs'->b≠w.heap.size+1->(R.putObj (w.heap.size+1) D).heap[b]? =W.heap[b]?/\g.H b=H b:=by
   intro b O h2 h3;rw[World.putObj_heap_other h3];refine⟨?_,f.oldH b (by rw[V];exact O) h2⟩;rw[f.old b (by rw[V];exact O) h2];exact World.putObj_heap_other h3
  have hkb:∀b,b∈w6 g o2->b<R.heap.size/\(W.heap.size<=b\/b∈bs')/\b≠w.heap.size+1:=by
   intro b E;obtain⟨o,Cp,_,O⟩:=(w7 _).1 E;refine⟨(au (σ:=I.frz f2) f O).1,?_,fun e=> ?_⟩
   .have:=f.own o b Cp O;rw[V] at this;exact this
   .subst e;exact(Al (σ:=I.frz f2) f O).1 _ hl3
  have hsz:W.heap.size<=R.heap.size:=(by have:=f.size;rw[V] at this;exact this);have eF:(R.putObj (w.heap.size+1) (.loop {rec with state:=if(Pb β).isNone=true then LoopState.ready else .done,pending:=(Pb β)}))=R.putObj (w.heap.size+1) D:=(by rw[hfin,hfx]);have hres:∀M:List (Ty.st ts).Data->Prop,M (q++[x])->Vl P w H0 bs (Kp rec β) rs.ps vals d (rs.G d) M (q++[x]) (fun b=>(fp b\/W.heap.size<=b)/\b<R.heap.size) g.H (R.putObj (w.heap.size+1) D):=by
   intro M hM;refine⟨hM,f.os.trans K.os,f.tape.trans K.tape,f.output.trans K.output,jD K.drawn f.drawn,by have:=K.size;simp;omega,hS5.good,fun b c E=>N b c (K.mono b c E),fun b O h2=> ?_,?_,?_,w6 g o2,?_,?_,fun b E=> ?_⟩
   .have hnb:b∉bs':=by
     intro m;rcases(Z _ m).1 with h|h
     .exact h2 h
     .have:=h.2;omega
    obtain⟨k1,k2⟩:=hw3 b (by have:=K.size;omega) hnb (by omega);obtain⟨k3,k4⟩:=K.old b O h2;exact⟨k1.trans k3,k2.trans k4⟩
   .rw[(hw3 _ (by omega) hDb (by omega)).1];exact K.mark
   .rw[World.putObj_heap_same (jt.1 hl3).1,hfin]
   .refine dz (fun _ _ h=>h) e4 (fun b E=>⟨World.putObj_heap_other (hkb b E).2.2,rfl⟩)
   .exact gZ f _ (vq _ hno)
   .obtain⟨k1,k2,_⟩:=hkb b E;refine⟨?_,by simpa using k1⟩;rcases k2 with h|h
    .exact .inr ⟨⟨.inr h,k1⟩,by have:=K.size;omega⟩
    .rcases(Z b h).1 with h'|h'
     .exact .inl h'
     .exact .inr ⟨⟨.inl h'.1,k1⟩,h'.2⟩
  have hyl:X7 (w.heap.size+2) fp H W (fun b=>(fp b\/W.heap.size<=b)/\b<R.heap.size) g.H (R.putObj (w.heap.size+1) D):=by
   refine⟨by simpa using hsz,hS5.good,N,fun b O h2 h3=> ?_,fun b E=>⟨E.1,by simpa using E.2,?_⟩⟩
   .have hnb:b∉bs':=by
     intro m;rcases(Z _ m).1 with h|h
     .have:=hbs _ h;omega
     .exact h3 h.1
    exact hw3 b O hnb (by omega)
   .rcases E.1 with h|h
    .exact(hfpW b h).2
    .omega
  refine⟨!β,fun b=>(fp b\/W.heap.size<=b)/\b<R.heap.size,g.H,by cases β<;>rfl,?_,?_⟩
  .have:=hyl;rw[<-eF] at this;exact this
  .cases β with
   |false=>
    have:=hres (yh (rs.stop d)) (by
     intro a y b' e;rcases List.append_eq_append_iff.1 e with⟨c,e1,e2⟩|⟨c,e1,e2⟩
     .cases c with
      |nil=>
       simp only[jW,List.cons.injEq] at e2;obtain⟨rfl,e3⟩:=e2;rw[e1,j7];exact hβ
      |cons c0 cs=>
       have e3:=jS List.length e2;simp at e3
     .cases c with
      |nil=>
       simp only[jW,List.cons.injEq] at e2;obtain⟨rfl,e3⟩:=e2;rw[j7] at e1;rw[<-e1];exact hβ
      |cons c0 cs=>
       simp only[jU,List.cons.injEq] at e2;obtain⟨rfl,e3⟩:=e2;exact K.mid a y cs e1)
    rw[<-eF] at this;exact this
   |true=>
    have:=hres (NS L (rs.stop d)) ⟨q,x,rest,rfl,hL',K.mid,hβ⟩;rw[<-eF] at this;exact this
 cases e with
 |exit id=>exact J.elim
 |normal=>
  simp only[Le] at J;exact key false J.1 J.2
 |ret=>
  simp only[Le] at J;exact key true J.1 J.2
end
end Go.X
namespace Go.X
open Go.RowKit (Below)
def Sc (P:Program) (a:Nat->Option ((ts:List Ty)×Ic ts)):Prop:=
 ∀k ts (rs:Ic ts) sv pr L v ρ,a k=some ⟨ts,rs⟩->rs.seq sv=some (pr,L)->pr->SV.den P ρ sv v->Vi P ρ.H ts L v
section
variable {P:Program} {C:Ctx}
theorem Vn {H:Imm} {w:World} {l:Nat} {r:Loop} (a:ew H w) (o:Obj) (g:w.heap[l]? =some (.loop r)):ew H (w.putObj l o):=by
 refine⟨fun b c f=> ?_,a.2⟩;have d:b≠l:=by
  intro e;subst e;have:=a.1 _ _ f;rw[g] at this;exact E2 this
 rw[World.putObj_heap_other d];exact a.1 b c f
theorem Ya (hC:C.ok P) (hm:P.follows .mixedOrders=true) {A:Ak Unit} {tbl:Nat->Option ((ts:List Ty)×Ic ts)} {Bi:qw} (hseq:Sc P tbl):BA P C none (hkR C A tbl) (LvR Bi):=by
 intro g ps aZ b σ ys K B ds a w Q h hL hRel hQ;simp only[hkR] at h
 split at h
 case h_2=>exact h.elim
 rename_i ts rs htb
 split at h
 case h_2=>exact h.elim
 rename_i pr L d os fz hsq hz
 split at h
 case h_2=>exact h.elim
 rename_i hno hme hall hnm hsl;obtain⟨hpr,hpre,hset,hround,hcont,hcontX⟩:=h;obtain⟨V,rfl,hd0,hn0,ρ,hS,hSl,hPin⟩:=hRel;obtain⟨vals,S⟩:∃vals:List Value,vals=rs.slots.map (fun s=>V.tmps.getD s undef):=⟨_,rfl⟩;have hdl:SV.denL P ρ (rs.slots.map σ.get) vals:=by
  have:=cn (P:=P) (ρ:=ρ) (σ:=σ) (fun x=>wH (P:=P) (ρ:=ρ) hSl x) (rs.slots.map Operand.tmp);rw[kR,kR] at this;rw[S];exact this
 obtain⟨ρ1,hle1,X,hb1,I,hbn,O⟩:=fj (dst:=rs.dst) (rs:=[]) (pre:=rs.pre) hC hz hno hme hS hdl;obtain⟨bs,hbs0⟩:∃bs,bs=w6 ρ1 os:=⟨_,rfl⟩;rw[<-hbs0] at I hbn O;have E:∀b,b∈bs->b<w.heap.size:=by
  intro b j;rw[hbs0] at j;obtain⟨o,Cp,_,t⟩:=(w7 _).1 j;exact(au (σ:=σ.frz fz) X t).1
 have hgv:=Vi.mono hle1.H (hseq _ _ _ _ _ _ _ ρ htb hsq hpr (wH (P:=P) (ρ:=ρ) hSl g));obtain⟨gf,lb,ev,en,hit⟩:=hgv;have ev':(b8 ds V).eval g= .func (.func gf) #[] lb:=(by rw[ll];exact ev);refine wpIn_rangeFunc ?_;intro fn _;obtain⟨rec,R⟩:∃rec:Loop,rec={state:= .ready,pending:=none,fn,tmps:=V.tmps,params:=ps,assign:=aZ,body:=b,defers:=w.heap.size}:=⟨_,rfl⟩;have hr0:Kp rec false=rec:=(by rw[R];rfl);obtain⟨p,z⟩:∃p,(w.alloc (.deferred (some []))).alloc (.loop rec)=p:=⟨_,rfl⟩;have m:p.heap.size=w.heap.size+2:=(by rw[<-z];simp);have N:∀b,b<w.heap.size->p.heap[b]? =w.heap[b]? :=by
  intro b j;rw[<-z];exact(Below.heap_alloc _ _ _ (by simp;omega)).trans (Below.heap_alloc _ _ _ j)
 have hD1:p.heap[w.heap.size]? =some (.deferred (some [])):=by
  rw[<-z];exact(Below.heap_alloc _ _ _ (by simp)).trans (World.alloc_heap_new w _)
 have hl1:p.heap[w.heap.size+1]? =some (.loop rec):=by
  rw[<-z];have:=World.alloc_heap_new (w.alloc (.deferred (some []))) (.loop rec);rwa [World.size_alloc] at this
 have hg1:ew ρ1.H p:=by
  refine⟨fun b c Y=> ?_,X.good.2⟩;rw[N b (X.good.lt Y)];exact X.good.1 b c Y
 have W:p.os=w.os/\p.tape=w.tape/\p.output=w.output/\w.drawn<=p.drawn:=(by rw[<-z];exact⟨rfl,rfl,rfl,jk _⟩);have fin:∀(β:Bool) (M:List (Ty.st ts).Data->Prop) (xs:List (Ty.st ts).Data) (fp':Nat->Prop) (H':Imm) (W':World),Vl P w ρ1.H bs (Kp rec β) rs.ps vals d (rs.G d) M xs fp' H' W'->NV C rs σ xs d (K β)->
  Q (nu (jaW β)) {b8 ds V with defers:=[{target:= .collected w.heap.size,args:= #[]}]++(b8 ds V).defers} (W'.putObj (w.heap.size+1) (.loop {Kp rec β with state:= .exhausted})):=by
  intro β M xs fp' H' W' f Y;have hlp:=f.loop;obtain⟨l,hexh⟩:∃l:Obj,l= .loop {Kp rec β with state:= .exhausted}:=⟨_,rfl⟩;rw[<-hexh];unfold NV at Y
  split at Y
  case h_2=>exact Y.elim
  rename_i out hout
  split at Y
  case h_2=>exact Y.elim
  rename_i hnew;obtain⟨bs',g1,g2,g3⟩:=f.args;have hne:∀b,b∈bs'->b≠w.heap.size+1:=by
   intro b j e;rcases(g3 b j).1 with h|h
   .have:=E b h;omega
   .have:=h.2;omega
  have hP:H9 ρ1.H w bs ⟨rs.ps,[],rs.pre,fun d=>((),rs.G d xs)⟩ vals d (.returned (X0 [])) (W'.putObj (w.heap.size+1) l):=by
   refine⟨[],H',[],bs',rfl,⟨f.os,f.tape,f.output,f.drawn,by have:=f.size;simp;omega,fun b t h2=> ?_,fun b t h2=>(f.old b t h2).2,Vn f.good l hlp⟩,⟨rfl,rfl⟩,
    v7 (d:=d) hall (dz (fun _ _ h=>h) g1 (fun b j=>⟨World.putObj_heap_other (hne b j),rfl⟩)),by simpa using g2,fun b j=> ?_⟩
   .rw[World.putObj_heap_other (by omega)];exact(f.old b t h2).1
   .have j:b∈bs':=(by simpa using j);rcases(g3 b j).1 with h|h
    .exact .inl h
    .exact .inr (by have:=h.2;omega)
  obtain⟨v',_,T,i,J,_,_⟩:=O _ out hout _ _ hP
  let k:St:=⟨σ.sl,out.wr++(gM σ out.fz++σ.ob)⟩
  let B':qw:={B with w:=W'.putObj (w.heap.size+1) l,H:=T.H,bor:=w6 T (vk k.ob)}
  have hS5:Sat P B' T k.obj (W'.putObj (w.heap.size+1) l):=ml (σ:=k) i i.good (fun _ _ h=>h) (fun _ _ _ _=>⟨rfl,rfl⟩);have hnw:=fun n hn=>bC (mg _ hnew n hn)
  have hfin:ux P B' C.n ({target:= .collected w.heap.size,args:= #[]}::ds) k (b8 ({target:= .collected w.heap.size,args:= #[]}::ds) V) (W'.putObj (w.heap.size+1) l):=by
   refine⟨V,rfl,hd0,hn0,T,hS5,fun s sv hs=> ?_,?_⟩
   .exact SV.den_mono J _ _ (fun r hr=>(hnw r hr).sl s sv (qj _ _ _ hs)) (hSl s sv hs)
   .have h5:=hPin.mono J (fun n hn=>(hnw n hn).lt);exact⟨h5.1,fun _ _ h=>h⟩
  have u:∀b,b∈w6 T (vk k.ob)->B.w.heap.size<=b\/b∈B.bor:=by
   intro b j;obtain⟨o,Cp,_,t⟩:=(w7 _).1 j;exact i.own o b Cp t
  have Z:Du Bi B':=by
   obtain⟨c1,c2,c3,c3',c4,c5,c6,c7,c8,c9⟩:=hL.1;refine⟨i.os.trans c1,i.tape.trans c2,i.output.trans c3,jD c3' i.drawn,jD c4 i.size,fun b c j=>J.H b c (hPin.2 b c (c5 b c j)),fun b t h2=> ?_,fun b j=> ?_,c8,c9⟩
   .obtain⟨k1,k2,k3⟩:=c6 b t h2;have F:b<B.w.heap.size:=zA t c4;refine⟨(i.old b F k3).trans k1,(i.oldH b F k3).trans k2,fun y=> ?_⟩;rcases u b y with h|h
    .omega
    .exact k3 h
   .rcases u b j with h|h
    .exact .inl (jD c4 h)
    .exact c7 b h
  have hDw:(W'.putObj (w.heap.size+1) l).heap[w.heap.size]? =some (.deferred (some [])):=by
   rw[World.putObj_heap_other (by omega)];exact f.mark
  have hmarks:ZX Bi B' ({target:= .collected w.heap.size,args:= #[]}::ds):=by
   obtain⟨m1,m2⟩:=hL.2;have F:∀x,x∈ds->∃D,x={target:= .collected D,args:= #[]}/\D<B.w.heap.size:=by
    intro x hx;obtain⟨D,e,_,_,h3⟩:=m2 x hx;exact⟨D,e,(jt.1 h3).1⟩
   refine⟨zn.2 ⟨fun y=> ?_,m1⟩,fun x hx=> ?_⟩
   .obtain⟨D,e,t⟩:=F _ y;simp at e;have:=hS.size;omega
   .rcases jj.1 hx with rfl|hx
    .refine⟨w.heap.size,rfl,jD hL.1.size hS.size,fun y=> ?_,hDw⟩;obtain⟨o,Cp,_,t⟩:=(w7 _).1 y;exact(Al (σ:=k) i t).2 _ hDw
    .obtain⟨D,e,k1,k2,k3⟩:=m2 x hx;have F:D<B.w.heap.size:=(jt.1 k3).1;refine⟨D,e,k1,fun y=> ?_,(i.old D F k2).trans k3⟩;rcases u D y with h|h
     .omega
     .exact k2 h
  have hE:Ext σ k:=⟨⟨[],rfl⟩,⟨out.wr++gM σ out.fz,by simp[k]⟩⟩;have:=hQ β k () _ _ B' _ Y hE ⟨Z,hmarks⟩ hfin;have ea:(b8 ({target:= .collected w.heap.size,args:= #[]}::ds) V)={b8 ds V with defers:=[{target:= .collected w.heap.size,args:= #[]}]++(b8 ds V).defers}:=(by simp[b8,hd0]);rw[ea] at this;exact this
 refine⟨w.heap.size+1,[{target:= .collected w.heap.size,args:= #[]}],p,{target:= .fn (.func gf) lb,args:= #[.func (.yield (w.heap.size+1)) #[] #[]]},p,gf,
  #[.func (.yield (w.heap.size+1)) #[] #[]]++lb,p,?_,?_,fun _ _=>trivial,?_,fun hd=>by simp[Fence.wide] at hd,?_⟩
 .rw[<-z,R];exact run_enterLoop_outer _ _ _ _ _
 .simp only[resolve,ev'];simp[go_sem]
 .simp[invoke,go_sem,en _ _]
 .refine mq.2 ((hit ρ1.H p (w.heap.size+1) (Vl P w ρ1.H bs (Kp rec false) rs.ps vals d (rs.G d) (yh (rs.stop d))) (Vl P w ρ1.H bs (Kp rec true) rs.ps vals d (rs.G d) (NS L (rs.stop d))) (fun _ _ h=>h) hg1 ?_ ?_ ?_ ?_).mono ?_)
  .rw[m];exact BD E
  .rw[m];exact BD E
  .rw[m];exact Vm hC hm hround hall hnm hsl hn0 E S R
  .refine⟨fun a x b e=>by simp at e,W.1,W.2.1,W.2.2.1,W.2.2.2,by rw[m];exact jk _,hg1,fun _ _ h=>h,fun b t _=>⟨N b t,rfl⟩,hD1,by rw[hr0];exact hl1,bs,?_,hbn,fun b j=>⟨.inl j,by rw[m];have:=E b j;omega⟩⟩;rw[hset];exact dz (fun _ _ h=>h) I (fun b j=>⟨N b (E b j),rfl⟩)
  .rintro e W' ⟨v,rfl,h⟩;rcases h with⟨xs,fp',H',hxs,f⟩|⟨q,fp',H',f⟩
   .exact⟨none,_,run_endLoop (P:=P) f.loop (by simp[Kp]),fin false _ xs fp' H' W' f (hcont xs hxs f.mid)⟩
   .obtain⟨a,x,rest,rfl,k1,k2,k3⟩:=f.mid;exact⟨some .ret,_,run_endLoop (P:=P) f.loop (by simp[Kp]),wpIn_ret (fin true _ _ fp' H' W' f (hcontX a x rest k1 k2 k3))⟩
end
end Go.X
namespace Go.X
open Go.RowKit (Below)
def NX (H:Imm) (w:World) (rs:List Sh) (r:RD rs):Ending->World->Prop:=
 fun e w'=>∃vs H' a,e= .returned (X0 vs)/\WR H w H' w'/\Vf H' w' rs vs r a/\a.Nodup/\∀b,b∈a->w.heap.size<=b
def Lf (fn:Func) (rs:List Sh) (a:RD rs->Prop):Ex->St->Unit->Prop
 | .exit _,_,_=>False
 |_,σ,_=>match pY σ rs fn.results.toList with
  |some (r,o1,b)=>match gm o1,iP b o1 with
   |true,false=>a r
   |_,_=>False
  |none=>False
section
variable {P:Program} {C:Ctx}
theorem oj {fn:Func} {tmps:Array Value} {R:Ending->World->Prop}:∀(ds:List Deferred) (w:World),ds.Nodup->(∀x,x∈ds->∃D,x={target:= .collected D,args:= #[]}/\w.heap[D]? =some (.deferred (some [])))->
 (∀w':World,w'.os=w.os->w'.tape=w.tape->w'.output=w.output->w.drawn<=w'.drawn->w'.heap.size=w.heap.size->(∀b,({target:= .collected b,args:= #[]}:Deferred)∉ds->w'.heap[b]? =w.heap[b]?)->∃v,(Go.results fn tmps).run P w'= .ok v w'/\R (.returned v) w')->
 LeavesInM Fence.wide 0 P fn tmps R ds .returning w
 |[],w,_,_,k=>k w rfl rfl rfl (jk _) rfl (fun _ _=>rfl)
 |x::ds,w,hnd,hds,k=>by
  rw[zn] at hnd
  obtain⟨D,rfl,j⟩:=hds x (by simp)
  refine⟨by simp,.inl ⟨D,w.putObj D (.deferred none),rfl,run_takeDeferred j,oj ds _ hnd.2 (fun y e=> ?_) (fun w' f e2 g c i l=>k w' f e2 g c (by rw[i];simp) (fun b a=> ?_))⟩⟩
  obtain⟨D',rfl,d⟩:=hds y (jl _ e)
  refine⟨D',rfl,?_⟩
  rw[World.putObj_heap_other]
  exact d
  rintro rfl;exact hnd.1 e
  rw[l b (fun h=>a (jl _ h)),World.putObj_heap_other]
  rintro rfl;exact a (by simp)
theorem Ig (hC:C.ok P) (hm:P.follows .mixedOrders=true) {f:Nat} {fn:Func} {body:Code} (hf:P.funcs[f]? =some fn) (g:fn.body=some body) (hn:fn.ntmps=C.n) (A:Ak Unit) {hk:Di Unit} (N:∀B,fU P C none hk (LvR B)/\BA P C none hk (LvR B))
 {sl:List (Nat×SV)} {vals:List Value} (hlen:vals.length<=C.n) {rs:List Sh} {Z:RD rs->Prop} (hv:Bz C A hk body ⟨sl,[]⟩ () (Lf fn rs Z)) {H:Imm} {w:World} (hg:ew H w)
 (hsl:∀ρ:Env,ρ.H=H->∀k v,wA sl k=some v->∃x,vals[k]? =some x/\SV.den P ρ v x):Calls P f vals.toArray w (fun e w'=>∃r,Z r/\NX H w rs r e w'):=by
 refine(callsIn_wide (n:=0)).1 (callsIn_of_wp_marks hf g trivial ?_ rfl)
 let ρ:Env:=⟨H,fun _=>none,fun _=>0⟩
 let B:qw:=⟨w,H,[],fun _=>none,fun _=>0⟩
 have hS:Sat P B ρ (⟨sl,[]⟩:St).obj w:=by
  refine⟨rfl,rfl,rfl,jk _,jk _,hg,fun _ _ _=>rfl,fun _ _ _=>rfl,?_,fun _ _=>rfl,?_,?_⟩
  .intro o x I;simp[St.obj,wA] at I
  .intro o o' b C1 C2 l;simp[ρ] at l
  .intro o b C1 l;simp[ρ] at l
 have M:ux P B C.n [] ⟨sl,[]⟩ {tmps:=vals.toArray++Array.replicate (fn.ntmps-vals.toArray.size) undef,defers:=[]} w:=by
  refine⟨_,(ak _).symm,rfl,by simp;omega,ρ,hS,?_,fun o p _ g=>by simp[ρ] at g,fun _ _ g=>g⟩;intro k v hk;obtain⟨x,l,h2⟩:=hsl ρ rfl k v hk;rw[lm (x:=x) l];exact h2
 have hL0:LvR B B [] ():=⟨⟨rfl,rfl,rfl,jk _,jk _,fun _ _ h=>h,fun b _ h=>⟨rfl,rfl,h⟩,fun b h=> .inr h,rfl,rfl⟩,kT,fun x I=>by simp at I⟩;refine vI (r:=none) hC hm A hk (LvR B) (N B).1 (N B).2 body _ () _ _ _ w B [] hv hL0 M (fun e σ ys a' w' B' ds hE hK hL hR=> ?_);obtain⟨y,rfl,q1,q2,ρ',q3,q4,q5⟩:=hR;obtain⟨i,Q⟩:=hL;have E:(match pY σ rs fn.results.toList with
  |some (r,o1,L)=>match gm o1,iP L o1 with
   |true,false=>Z r
   |_,_=>False
  |none=>False)->LeavesInM Fence.wide 0 P fn (b8 ds y).tmps (fun e w'=>∃r,Z r/\NX H w rs r e w') (b8 ds y).defers .returning w':=by
  intro S
  split at S
  case h_2=>exact S.elim
  rename_i r o1 L V
  split at S
  case h_2=>exact S.elim
  rename_i hno hme;have ed:(b8 ds y).defers=ds:=(by simp[b8,q1]);have et:(b8 ds y).tmps=y.tmps:=rfl;rw[ed,et];obtain⟨j,d,hle,hblk,hln⟩:=wN (σ:=σ) L q3;have hd:∀k,SV.den P j (σ.get k) (y.tmps.getD k undef):=by
   intro k;have:=wH (P:=P) (a:=y) q4 (.tmp k);exact SV.den_mono hle _ _ (fun o R=>by simp at R) this
  have G:pV σ (σ.frz L) o1:=by
   intro o R;rw[q7,jc];exact fun hm=>vY _ _ hme o hm R
  obtain⟨ss,e1,e2⟩:=uw d (vS σ _) hd rs _ _ _ _ V (fun o R=>R) G;have z:∀x,x∈ds->∃D,x={target:= .collected D,args:= #[]}/\w.heap.size<=D/\D∉B'.bor/\D<B'.w.heap.size/\w'.heap[D]? =some (.deferred (some [])):=by
   intro x I;obtain⟨D,e,W,X,J⟩:=Q.2 x I;have O:=(jt.1 J).1;exact⟨D,e,W,X,O,(d.old D O X).trans J⟩
  refine oj ds w' Q.1 (fun x I=> ?_) (fun Y g1 g2 g3 g3' g4 g5=> ?_)
  .obtain⟨D,e,_,_,_,h⟩:=z x I;exact⟨D,e,h⟩
  have q:∀b,b<w.heap.size->({target:= .collected b,args:= #[]}:Deferred)∉ds:=by
   intro b g m;obtain⟨D,e,W,_⟩:=z _ m;simp at e;omega
  have t:∀o b K,j.blk o=some (some (b,K))->({target:= .collected b,args:= #[]}:Deferred)∉ds:=by
   intro o b K g m;obtain⟨D,e,_,_,_,h⟩:=z _ m;simp at e;subst e;exact(Al (σ:=σ.frz L) d g).2 _ h
  have F:ew j.H Y:=by
   refine⟨fun b c hc=> ?_,d.good.2⟩;have l:=d.good.1 b c hc;rw[g5 b (fun m=> ?_)]
   .exact l
   .obtain⟨D,e,_,_,_,h⟩:=z _ m;simp at e;subst e;rw[h] at l;exact nx l
  have T:∀b,b∈w6 j o1->w.heap.size<=b/\Y.heap[b]? =w'.heap[b]? :=by
   intro b g;obtain⟨o,K,_,l⟩:=(w7 _).1 g;refine⟨?_,g5 b (t o b K l)⟩;rcases d.own o b K l with h|h
   .exact jD i.size h
   .rcases i.own b h with h|h
    .exact h
    .simp[B] at h
  refine⟨_,Bl e1 y.tmps Y,r,S,ss.map (fun s=>y.tmps.getD s undef),j.H,w6 j o1,rfl,⟨⟨g1.trans (d.os.trans i.os),g2.trans (d.tape.trans i.tape),g3.trans (d.output.trans i.output),?_,fun b g=> ?_⟩,F,fun b g=> ?_,jD (jD i.drawn d.drawn) g3'⟩,?_,gZ d _ (vq _ hno),fun b g=>(T b g).1⟩
  .rw[g4];exact jD i.size d.size
  .obtain⟨W,X,J⟩:=i.old b g (by simp[B]);rw[g5 b (q b g)];exact(d.old b (zA g i.size) J).trans W
  .obtain⟨W,X,J⟩:=i.old b g (by simp[B]);exact(d.oldH b (zA g i.size) J).trans X
  .have u:∀(rs:List Sh) (vs:List Value) (r:RD rs) (bs:List Nat),Vf j.H w' rs vs r bs->(∀b,b∈bs->Y.heap[b]? =w'.heap[b]?)->Vf j.H Y rs vs r bs:=by
    intro rs
    induction rs with
    |nil=>intro vs r bs h _;exact h
    |cons s rs ih=>
     intro vs r bs h hk;cases vs with
     |nil=>exact h.elim
     |cons v vs=>
      obtain⟨b1,b2,rfl,l,h2⟩:=h;exact⟨b1,b2,rfl,NQ (fun _ _ h=>h) l (fun b g=>⟨hk b (jg _ g),rfl⟩),ih vs r.2 b2 h2 (fun b g=>hk b (jd _ g))⟩
   exact u _ _ _ _ e2 (fun b g=>(T b g).2)
 cases e with
 |normal=>exact E hK
 |ret=>exact E hK
 |exit id=>exact hK.elim
def jaX:(rs:List Ty)->RD (rs.map fun t=> .cl (.dat t))->(Ty.st rs).Data
 |[],_=>()
 |_::rs,d=>(d.1,jaX rs d.2)
theorem NY {H:Imm} {w:World}:∀(rs:List Ty) (vs:List Value) (r:RD (rs.map fun t=> .cl (.dat t))) (bs:List Nat),Vf H w (rs.map fun t=> .cl (.dat t)) vs r bs->rvs H rs vs (jaX rs r)
 |[],vs,r,bs,h=>h.1
 |t::rs,[],r,bs,h=>h.elim
 |t::rs,v::vs,r,bs,h=>by
  obtain⟨d,a,_,b,c⟩:=h
  exact⟨b.1,NY rs vs r.2 a c⟩
theorem Yb {H:Imm} {w:World} {rs:List Ty} {r:RD (rs.map fun t=> .cl (.dat t))} {e:Ending} {w':World} (h:NX H w (rs.map fun t=> .cl (.dat t)) r e w'):WS H w rs (jaX rs r) e w':=by
 obtain⟨vs,H',d,rfl,b,c,_,_⟩:=h;have a:=NY rs vs r d c;refine⟨_,H',rfl,b,?_⟩;have:=Lc a;unfold NF at this;unfold X0;exact this
@[irreducible] def Yc (C:Ctx) (A:Ak Unit) (hk:Di Unit) (fn:Func) (body:Code) (s:wL):Prop:=
 ∀d:PD s.ps,Fx (s.pre d) (Bz C A hk body ⟨vo s.ps d 0,[]⟩ () (Lf fn (s.rs.map fun t=> .cl (.dat t)) (fun r=>jaX s.rs r=s.F d)))
theorem ZY (t:C.ok P) (y:P.follows .mixedOrders=true) {f:Nat} {fn:Func} {body:Code} {s:wL} (l:P.funcs[f]? =some fn) (j:fn.body=some body) (a:(fn.name== "runtime.NumGoroutine")=false) (z:fn.ntmps=C.n) (D:s.ps.length<=C.n)
 {A:Ak Unit} {hk:Di Unit} (g:∀B,fU P C none hk (LvR B)/\BA P C none hk (LvR B)) (h:Yc C A hk fn body s):wU P f s:=by
 unfold Yc at h;refine⟨q8 l j a,fun H w vals d u o c=> ?_⟩;have m:=br o;refine(Ig t y l j z A g (by omega) (ax _ _ (h d) c) u (fun ρ i k v hk=> ?_)).mono fun e w' ⟨r,E,b⟩=> ?_
 obtain⟨x,p,q⟩:=yJ (P:=P) (ρ:=ρ) s.ps vals d 0 (by rw[i];exact o) k v hk;exact⟨x,by simpa using p,q⟩;rw[<-E];exact Yb b
end
end Go.X
namespace Go.X
open Go.RowKit (Below)
structure ol where
 ps:List Par
 pre:PD ps->List Prop
 g:Nat
 cs:List Ty
 F:PD ps->(Ty.st cs).Data
def Sd:(cs:List Ty)->(Ty.st cs).Data->List SV
 |[],_=>[]
 |t::ts,d=> .ep t d.1::Sd ts d.2
def Lg (H:Imm):(cs:List Ty)->List Value->(Ty.st cs).Data->Prop
 |[],vs,_=>vs=[]
 |t::ts,v::vs,d=>Rh H t v d.1/\Lg H ts vs d.2
 |_::_,[],_=>False
def om (σ:St):(cs:List Ty)->List SV->Option ((Ty.st cs).Data×List Nat)
 |[],[]=>some ((),[])
 |t::ts,v::vs=>match Kv σ t v with
  |some (x,f)=>match om σ ts vs with
   |some (xs,a)=>some ((x,xs),f++a)
   |none=>none
  |none=>none
 |_,_=>none
def Yd (C:Ctx) (s:ol) (σ:St) (svs:List SV):Option Out:=match vV C σ s.ps svs with
 |some (d,fz)=>some ⟨s.pre d,[],.clo s.g (Sd s.cs (s.F d)),fz,[],[]⟩
 |none=>none
structure Ih (P:Program) (f:Nat) (s:ol):Prop where
 enters:enters P f
 calls:∀H w vals d,ew H w->pvs P H s.ps vals d->vC (s.pre d)->Calls P f vals.toArray w (fun e w'=>∃lb H',e= .returned (.func (.func s.g) #[] lb)/\WR H w H' w'/\Lg H' s.cs lb.toList (s.F d))
def Ye (fn:Func) (s:ol) (a:(Ty.st s.cs).Data):Ex->St->Prop
 | .exit _,_=>False
 |_,σ=>match fn.results.toList with
  |[.tmp r]=>match σ.get r with
   | .clo g caps=>match Nat.beq g s.g,om σ s.cs caps with
    |true,some (x,_)=>x=a
    |_,_=>False
   |_=>False
  |_=>False
@[irreducible] def Se (C:Ctx) (A:Ann) (fn:Func) (body:Code) (s:ol):Prop:=
 ∀d:PD s.ps,Fx (s.pre d) (vcg C A body ⟨vo s.ps d 0,[]⟩ (Ye fn s (s.F d)))
structure Gg where
 g:Nat
 k:Nat
 s:qB
structure VOK (P:Program) (f:Nat) (v:Gg):Prop where
 enters:enters P f
 calls:∀H w (lb rest:List Value) d bs,lb.length=v.k->ew H w->dx P H w v.s.ps (lb++rest) d bs->bs.Nodup->vC (v.s.pre d)->Calls P f (Value.func (.func v.g) #[] lb.toArray::rest).toArray w (H9 H w bs v.s (lb++rest) d)
def Yf (C:Ctx) (v:Gg) (dst:Nat) (σ:St):List SV->Option Out
 | .clo g caps::rest=>match Nat.beq g v.g,Nat.beq caps.length v.k with
  |true,true=>Bv C v.s dst σ (caps++rest)
  |_,_=>none
 |_=>none
def jbd (C:Ctx) (os:List (Nat×qB)) (cs:List (Nat×ol)) (vs:List (Nat×Gg)) (f dst:Nat) (σ:St) (svs:List SV):Option Out:=
 match wA os f with
 |some s=>Bv C s dst σ svs
 |none=>match wA cs f with
  |some s=>Yd C s σ svs
  |none=>match wA vs f with
   |some v=>Yf C v dst σ svs
   |none=>none
section
variable {P:Program} {B:qw} {C:Ctx} {σ:St} {ρ:Env} {w:World}
theorem Ii {H:Imm}:∀(cs:List Ty) (vs:List Value) (d:(Ty.st cs).Data),Lg H cs vs d->ρ.H=H->SV.denL P ρ (Sd cs d) vs
 |[],vs,d,h,_=>by simp only[Lg] at h;subst h;simp[Sd,SV.denL]
 |t::ts,[],d,h,_=>h.elim
 |t::ts,v::vs,d,h,hH=>by
  obtain⟨a,b⟩:=h
  simp only[Sd,SV.denL]
  refine⟨v,vs,rfl,?_,Ii ts vs d.2 b hH⟩
  simp only[SV.den]
  rw[hH];exact a
theorem ra {τ:St} (i:Sat P B ρ τ.obj w) {fz:List Nat} (g:Frz σ τ fz):∀{cs:List Ty} {svs:List SV} {d:(Ty.st cs).Data} {a:List Nat},om σ cs svs=some (d,a)->(∀o,o∈a->o∈fz)->∀{vs:List Value},SV.denL P ρ svs vs->Lg ρ.H cs vs d
 |[],[],d,a,h,_,vs,b=>by simpa[SV.denL,Lg] using b
 |[],_::_,d,a,h,_,vs,b=>by simp[om] at h
 |_::_,[],d,a,h,_,vs,b=>by simp[om] at h
 |t::ts,v::svs,d,a,h,hf,vs,b=>by
  simp only[om] at h
  split at h
  case h_2=>cases h
  rename_i x f l
  split at h
  case h_2=>cases h
  rename_i xs m e
  simp at h
  obtain⟨rfl,rfl⟩:=h
  simp only[SV.denL] at b
  obtain⟨u,r,rfl,j,k⟩:=b
  exact⟨eJ i g l (fun o c=>hf o (jg _ c)) j,ra i g e (fun o c=>hf o (jd _ c)) k⟩
theorem Lh (m:C.ok P) {f:Nat} {s:ol} {svs:List SV} {out:Out} (u:Ih P f s) (h:Yd C s σ svs=some out) {vals:List Value} (p:Sat P B ρ σ.obj w) (r:SV.denL P ρ svs vals) (l:vC out.vc):
 Calls P f vals.toArray w (fun e w'=>∃v,e= .returned v/\wu P B ρ σ out v w'):=by
 unfold Yd at h
 split at h
 case h_2=>cases h
 rename_i d fz y;simp at h;subst h;obtain⟨ρ1,a,c,_,_⟩:=wN fz p;have g:=SV.denL_mono c _ _ (fun o k=>by simp at k) r;refine(u.calls ρ1.H w _ d a.good (yI m a (vS σ fz) y (fun o k=>k) g) l).mono fun e w' t=> ?_
 obtain⟨lb,H',rfl,n,x⟩:=t;obtain⟨j,i⟩:=FO a (fun o b z q=>(au (σ:=σ.frz fz) a q).1) n;refine⟨_,rfl,_,?_,c.trans i,?_,trivial⟩
 .show Sat P B _ (σ.frz fz).obj w';exact j
 .simp only[SV.den];exact⟨lb,rfl,Ii _ _ _ x rfl⟩
theorem ZZ (W:C.ok P) (hm:P.follows .mixedOrders=true) {f:Nat} {fn:Func} {body:Code} {s:ol} (O:P.funcs[f]? =some fn) (i:fn.body=some body)
 (m:(fn.name== "runtime.NumGoroutine")=false) (hn:fn.ntmps=C.n) (hps:s.ps.length<=C.n) (A:Ann) (h:Se C A fn body s):Ih P f s:=by
 unfold Se at h;refine⟨q8 O i m,fun H w vals d Z R u=> ?_⟩;have Q:=br R;refine calls_of_wp O i ?_;have hv:=ax _ _ (h d) u
 let ρ:Env:=⟨H,fun _=>none,fun _=>0⟩
 have Y:Sat P ⟨w,H,[],fun _=>none,fun _=>0⟩ ρ (⟨vo s.ps d 0,[]⟩:St).obj w:=by
  refine⟨rfl,rfl,rfl,jk _,jk _,Z,fun _ _ _=>rfl,fun _ _ _=>rfl,?_,fun _ _=>rfl,?_,?_⟩
  .intro o x hx;simp[St.obj,wA] at hx
  .intro o o' b S C2 l;simp[ρ] at l
  .intro o b S l;simp[ρ] at l
 have X:Rel P ⟨w,H,[],fun _=>none,fun _=>0⟩ C.n ⟨vo s.ps d 0,[]⟩ {tmps:=vals.toArray++Array.replicate (fn.ntmps-vals.toArray.size) undef,defers:=[]} w:=by
  refine⟨rfl,by simp;omega,ρ,Y,?_,fun o p _ i=>by simp[ρ] at i,fun _ _ i=>i⟩;intro k v hk;obtain⟨x,l,N⟩:=yJ (P:=P) (ρ:=ρ) s.ps vals d 0 R k v hk;rw[lm (x:=x) (by simpa using l)];exact N
 refine yc W hm A body _ _ _ _ w hv X (fun e σ B w' _ D E=> ?_);have j:(match fn.results.toList with
  |[.tmp r]=>match σ.get r with
   | .clo g caps=>match Nat.beq g s.g,om σ s.cs caps with
    |true,some (x,_)=>x=s.F d
    |_,_=>False
   |_=>False
  |_=>False)->B.defers=[]/\∃v,(Go.results fn B.tmps).run P w'= .ok v w'/\∃lb H',Ending.returned v= .returned (.func (.func s.g) #[] lb)/\WR H w H' w'/\Lg H' s.cs lb.toList (s.F d):=by
  intro q
  split at q
  case h_2=>exact q.elim
  rename_i r y
  split at q
  case h_2=>exact q.elim
  rename_i g caps t
  split at q
  case h_2=>exact q.elim
  rename_i x fz J hz;have:=ja J;subst this;subst q;obtain⟨l,N,ρ',G,I,_⟩:=E;obtain⟨M,c,K,_,_⟩:=wN (σ:=σ) fz G;have z:=wH (P:=P) (a:=B) I (.tmp r);simp only[wJ] at z;rw[t] at z;simp only[SV.den] at z;obtain⟨lb,T,e2⟩:=z;have V:=ra c (vS σ _) hz (fun o L=>L) (SV.denL_mono K _ _ (fun o L=>by simp at L) e2);refine⟨l,_,Bl (ss:=[r]) (by simpa using y) _ _,lb,M.H,?_,?_,V⟩
  .simp only[zu,List.map_nil];exact jS Ending.returned T
  .have below:Below w.heap.size w w':=⟨c.os,c.tape,c.output,c.size,fun b i=>c.old b i (by simp)⟩;exact⟨below,c.good,fun b i=>c.oldH b i (by simp),c.drawn⟩
 cases e with
 |normal=>exact j D
 |ret=>exact j D
 |exit id=>exact D.elim
theorem Li (y:C.ok P) {f dst:Nat} {v:Gg} {svs:List SV} {out:Out} (D:VOK P f v) (h:Yf C v dst σ svs=some out) {vals:List Value} (z:Sat P B ρ σ.obj w) (t:SV.denL P ρ svs vals) (j:vC out.vc):
 Calls P f vals.toArray w (fun e w'=>∃v,e= .returned v/\wu P B ρ σ out v w'):=by
 unfold Yf at h
 split at h
 case h_2=>cases h
 rename_i g caps rest
 split at h
 case h_2=>cases h
 rename_i m hk;have m:=ja m;have hk:=ja hk;subst m;simp only[SV.denL] at t;obtain⟨u,r,rfl,p,x⟩:=t;simp only[SV.den] at p;obtain⟨lb,rfl,q⟩:=p;have i:=yu _ _ _ _ q x;have a:=h;unfold Bv at a
 split at a
 .cases a
 rename_i d os fz E
 split at a
 case h_2=>cases a
 rename_i o n _ _;simp at a;obtain⟨ρ1,_,k,_,b,l,c⟩:=fj (dst:=dst) (rs:=v.s.rs) (pre:=v.s.pre) y E o n z i;have:=D.calls ρ1.H w lb.toList r d (w6 ρ1 os) (by rw[<-qv _ _ q,hk]) k.good b l (by rw[<-a] at j;exact j);rw[show(Value.func (.func v.g) #[] lb.toList.toArray::r).toArray=(Value.func (.func v.g) #[] lb::r).toArray from by simp] at this;exact this.mono fun e w' A=>c v.s.F out h e w' A
theorem Pc (g:C.ok P) {os:List (Nat×qB)} {cs:List (Nat×ol)} {vs:List (Nat×Gg)} (j:∀f s,wA os f=some s->gq P f s) (i:∀f s,wA cs f=some s->Ih P f s) (k:∀f s,wA vs f=some s->VOK P f s)
 {f dst:Nat} {svs:List SV} {out:Out} (h:jbd C os cs vs f dst σ svs=some out):
 enters P f/\∀B ρ w vals,Sat P B ρ σ.obj w->SV.denL P ρ svs vals->vC out.vc->σ.obj dst=none->vD σ.obj dst->
  Calls P f vals.toArray w (fun e w'=>∃v,e= .returned v/\wu P B ρ σ out v w'):=by
 unfold jbd at h
 split at h
 rename_i s b;exact⟨(j f s b).enters,fun B ρ w vals c d a _ _=>Bw g (j f s b) h c d a⟩
 split at h
 rename_i s b;exact⟨(i f s b).enters,fun B ρ w vals c d a _ _=>Lh g (i f s b) h c d a⟩
 split at h
 rename_i v b;exact⟨(k f v b).enters,fun B ρ w vals c d a _ _=>Li g (k f v b) h c d a⟩;cases h
end
end Go.X
namespace Go.X
open Go.RowKit (Below)
structure oq where
 aZ:List (Option (Nat×Nat))
 ps:List ba
 rs:List Sh
 pre:OD ps->List Prop
 R:OD ps->RD rs×KD ps->Prop
def Gh:List (Option (Nat×Nat))->List SV->Option (List SV)
 |[],[]=>some []
 |none::aZ,v::vs=>match Gh aZ vs with
  |some r=>some (v::r)
  |none=>none
 |some a::aZ,.clo g' caps::vs=>match Nat.beq a.1 g',Nat.beq caps.length a.2,Gh aZ vs with
  |true,true,some r=>some (caps++r)
  |_,_,_=>none
 |_,_=>none
def Sf:List (Option (Nat×Nat))->List Value->List Value->Prop
 |[],vs,fl=>vs=[]/\fl=[]
 |none::aZ,vs,fl=>∃v b a,vs=v::b/\fl=v::a/\Sf aZ b a
 |some c::aZ,vs,fl=>∃lb b a,vs= .func (.func c.1) #[] lb::b/\fl=lb.toList++a/\lb.size=c.2/\Sf aZ b a
def oq.at (s:oq) (r:RD s.rs×KD s.ps):qB:=⟨s.ps,s.rs,s.pre,fun _=>r⟩
structure ROK (P:Program) (f:Nat) (s:oq):Prop where
 enters:enters P f
 calls:∀H w vals fl d bs,Sf s.aZ vals fl->ew H w->dx P H w s.ps fl d bs->bs.Nodup->vC (s.pre d)->
  Calls P f vals.toArray w (fun e w'=>∃r,s.R d r/\H9 H w bs (s.at r) fl d e w')
def hkC (C:Ctx) (A:Ak Unit) (c:Nat->Option ((ts:List Ty)×Ic ts)) (b:List Nat) (rt:List (Nat×Nat×oq)):Di Unit:=
 ⟨fun d=>aX b d,fun a args σ _ K=>match a with
  | .clo f []=>match wA rt f with
   |some p=>match Gh p.2.aZ args with
    |some svs=>match K9 C σ p.2.ps svs with
     |some (d,os,fz)=>match gm os,iP fz os with
      |true,false=>vC (p.2.pre d)/\∀r,p.2.R d r->(match Bv C (p.2.at r) p.1 σ svs with
       |some out=>match Eu ⟨σ,[]⟩ out.nw with
        |true=>K out.sv ⟨σ.sl,out.wr++(gM σ out.fz++σ.ob)⟩ ()
        |false=>False
       |none=>False)
      |_,_=>False
     |none=>False
    |none=>False
   |none=>False
  |_=>False,(hkR C A c).rng⟩
section
variable {P:Program} {C:Ctx}
theorem sQ {ρ:Env}:∀(aZ:List (Option (Nat×Nat))) (svs fs:List SV) (vals:List Value),Gh aZ svs=some fs->SV.denL P ρ svs vals->∃fl,Sf aZ vals fl/\SV.denL P ρ fs fl
 |[],svs,fs,vals,h,b=>by
  cases svs with
  |nil=>
   simp only[Gh,jy] at h;subst h
   simp only[SV.denL] at b;subst b
   exact⟨[],⟨rfl,rfl⟩,by simp[SV.denL]⟩
  |cons a r=>simp[Gh] at h
 |none::aZ,[],fs,vals,h,b=>by simp[Gh] at h
 |none::aZ,v::vs,fs,vals,h,b=>by
  simp only[Gh] at h
  split at h
  case h_2=>cases h
  rename_i r i
  simp only[jy] at h;subst h
  simp only[SV.denL] at b
  obtain⟨x,xs,rfl,c,d⟩:=b
  obtain⟨fl,j,k⟩:=sQ aZ vs r xs i d
  exact⟨x::fl,⟨x,xs,fl,rfl,rfl,j⟩,by simp only[SV.denL];exact⟨x,fl,rfl,c,k⟩⟩
 |some q::aZ,svs,fs,vals,h,b=>by
  unfold Gh at h
  split at h
  .rename_i e;cases e
  .rename_i e;cases e
  .rename_i n m p caps vs e
   simp only[List.cons.injEq,jy] at e
   obtain⟨rfl,rfl⟩:=e
   split at h
   case h_2=>cases h
   rename_i r f g i
   simp only[jy] at h;subst h
   have f:=ja f
   have g:=ja g
   subst f
   simp only[SV.denL] at b
   obtain⟨x,xs,rfl,c,d⟩:=b
   simp only[SV.den] at c
   obtain⟨lb,rfl,l⟩:=c
   obtain⟨fl,j,k⟩:=sQ aZ vs r xs i d
   have o:=qv _ _ l
   refine⟨lb.toList++fl,⟨lb,xs,fl,rfl,rfl,?_,j⟩,yu _ _ _ _ l k⟩
   rw[<-g,o];simp
  .cases h
theorem Vo (hC:C.ok P) {A:Ak Unit} {tbl:Nat->Option ((ts:List Ty)×Ic ts)} {sps:List Nat} {rt:List (Nat×Nat×oq)} (hrt:∀f p,wA rt f=some p->ROK P f p.2) {Bi:qw}:fU P C none (hkC C A tbl sps rt) (LvR Bi):=by
 intro o c f d σ ys K B ds a w next Q S hc I hd h hL F hK;obtain⟨b,rfl,hd0,M,ρ,hS,m,E⟩:=F;have hnd:∀c,o.op≠.defer c:=fun c e=>by rw[S] at e;cases e
 have u:=wH (P:=P) (ρ:=ρ) m f;have q:=cn (P:=P) (ρ:=ρ) (σ:=σ) (fun x=>wH (P:=P) (ρ:=ρ) m x) c.args.toList;refine⟨fun _ _=>trivial,?_⟩;rw[Oper.semAt_eq _ _ _ hnd];simp only[hkC] at h
 split at h
 case h_2=>exact h.elim
 rename_i k hv
 split at h
 case h_2=>exact h.elim
 rename_i p hp
 split at h
 case h_2=>exact h.elim
 rename_i svs hfl
 split at h
 case h_2=>exact h.elim
 rename_i dd os fz hz
 split at h
 case h_2=>exact h.elim
 rename_i hno hme;obtain⟨V,t⟩:=h;have R:=hrt k p hp;rw[hv] at u;simp only[SV.den] at u;obtain⟨vs,ef,i⟩:=u;simp only[SV.denL,Array.toList_eq_nil_iff] at i;subst i;obtain⟨fl,L,J⟩:=sQ (P:=P) (ρ:=ρ) _ _ _ _ hfl q;obtain⟨ρ1,hle1,Y,hb1,j,hbn,z⟩:=fj (dst:=p.1) (rs:=p.2.rs) (pre:=p.2.pre) hC hz hno hme hS J;have hex:(execOp (b8 ds b).eval o).run P w= .ok (.enter k (c.args.map b.eval)) w:=by
  have X:(b8 ds b).eval f= .func (.func k) #[] #[]:=(by rw[ll];exact ef);simp only[execOp,S,jA,resolve,hc,Deferred.ofValue,X,jK,jm,invoke];have e2:(b8 ds b).eval=b.eval:=(by exact ll _ _);rw[e2,<-R.enters (c.args.map b.eval) w];simp
 rw[hex];simp only[Oper.uponIn];refine⟨fun hd=>by simp[Fence.wide] at hd,mq.2 ?_⟩;have G:=R.calls ρ1.H w _ fl dd (w6 ρ1 os) L Y.good j hbn V;rw[show(c.args.toList.map b.eval).toArray=c.args.map b.eval from by apply jF.1;simp] at G;refine G.mono fun e w' he=> ?_
 obtain⟨r,hr,hP⟩:=he;have g:=t r hr
 split at g
 case h_2=>exact g.elim
 rename_i out T
 split at g
 case h_2=>exact g.elim
 rename_i N;obtain⟨v,rfl,ρ4,Z,l,hdv,_⟩:=z _ out T e w' hP;simp only;rw[I];have O:=fun n hn=>bC (mg _ N n hn)
 have hE:Ext σ ⟨σ.sl,out.wr++(gM σ out.fz++σ.ob)⟩:=⟨⟨[],rfl⟩,⟨out.wr++gM σ out.fz,by simp⟩⟩;have W:(b8 ds b).put (some d) v=b8 ds (b.put (some d) v):=rfl;rw[W];refine hK out.sv _ () v w' B g hE hL ⟨b.put (some d) v,rfl,by simpa[Act.put] using hd0,by simpa[Act.put] using M,ρ4,Z,?_,E.mono l (fun n hn=>(O n hn).lt)⟩;intro s y D;simp only[Act.put];by_cases hs:s=d
 .subst hs;rw[wE] at D;simp at D;subst D;simp only[jq,jG];simp only[if_true];rw[jh (by rw[M];exact hd)];exact hdv
 .rw[wt (fun h=>hs h.symm)] at D;simp only[jq,jG];rw[jc (fun h=>hs h.symm)];have:=SV.den_mono l _ _ (fun r hr=>(O r hr).sl s y (qj _ _ _ D)) (m s y D);simpa only[jq] using this
theorem E5 (j:C.ok P) (k:P.follows .mixedOrders=true) {A:Ak Unit} {c:Nat->Option ((ts:List Ty)×Ic ts)} (d:Sc P c) {e:List Nat} {rt:List (Nat×Nat×oq)} (i:∀f p,wA rt f=some p->ROK P f p.2) (B:qw):
 fU P C none (hkC C A c e rt) (LvR B)/\BA P C none (hkC C A c e rt) (LvR B):=
 ⟨Vo j i,fun g ps aZ b σ ys K B' ds a w Q h=>Ya j k d g ps aZ b σ ys K B' ds a w Q h⟩
def Yg:Nat->Option ((ts:List Ty)×Ic ts):=fun _=>none
theorem Lj:Sc P Yg:=fun _ _ _ _ _ _ _ _ h=>by cases h
theorem Z0 {ts:List Ty} {l B0:Nat} {R c:Res (Ty.st ts).Data} {a:List Nat} {b:List (Ty.st ts).Data->Prop} (e:R.stable B0) (d:YB P ts B0 l R c b):
 fU P C none (hkY ts l a b (fun _=>none)) (LvY ts B0 R c)/\BA P C none (hkY ts l a b (fun _=>none)) (LvY ts B0 R c):=
 ⟨Vj e d (fun _ _ h=>by cases h),X8⟩
def Vp:List ba->Bool
 |[]=>true
 | .own _ _::_=>false
 |_::ps=>Vp ps
theorem ab {H H':Imm} {w w':World}:∀{ps:List ba} {vs:List Value} {d:OD ps} {bs:List Nat} (k:KD ps),Vp ps=true->dx P H w ps vs d bs->sO H' w' ps vs k []/\bs=[]
 |[],vs,d,bs,k,_,h=>⟨rfl,h.2⟩
 |p::ps,[],d,bs,k,_,h=>h.elim
 | .own _ _::ps,v::vs,d,bs,k,c,_=>by cases c
 | .val t::ps,v::vs,d,bs,k,c,h=>by
  obtain⟨l,m,rfl,e,g⟩:=h
  obtain⟨i,j⟩:=ab (ps:=ps) k c g
  exact⟨i,by rw[j,e.2];rfl⟩
 | .ref t::ps,v::vs,d,bs,k,c,h=>by
  obtain⟨l,m,rfl,e,g⟩:=h
  obtain⟨i,j⟩:=ab (ps:=ps) k c g
  exact⟨i,by rw[j,e.2];rfl⟩
 | .nil _::ps,v::vs,d,bs,k,c,h=>by
  obtain⟨l,m,rfl,e,g⟩:=h
  obtain⟨i,j⟩:=ab (ps:=ps) k c g
  exact⟨i,by rw[j,e.2];rfl⟩
 | .clo f::ps,v::vs,d,bs,k,c,h=>by
  obtain⟨l,m,rfl,e,g⟩:=h
  obtain⟨i,j⟩:=ab (ps:=ps) k c g
  exact⟨i,by rw[j,e.2];rfl⟩
 | .fn a b::ps,v::vs,d,bs,k,c,h=>by
  obtain⟨l,m,rfl,e,g⟩:=h
  obtain⟨i,j⟩:=ab (ps:=ps) k c g
  exact⟨i,by rw[j,e.2];rfl⟩
theorem Vq {H:Imm} {w:World} {ps:List ba} {rs:List Sh} {pre:OD ps->List Prop} {vs:List Value} {d:OD ps} {bs:List Nat} (g:Vp ps=true) (i:dx P H w ps vs d bs) {r:RD rs} (k:KD ps) {e:Ending} {w':World} (h:NX H w rs r e w'):
 H9 H w bs ⟨ps,rs,pre,fun _=>(r,k)⟩ vs d e w':=by
 obtain⟨us,H',n,rfl,a,m,l,j⟩:=h;obtain⟨_,rfl⟩:=ab (H':=H') (w':=w') k g i;have hk:=fun H' w'=>(ab (P:=P) (H:=H) (w:=w) (H':=H') (w':=w') k g i).1
 refine⟨us,H',n,[],rfl,⟨a.below.os,a.below.tape,a.below.output,a.drawn,a.below.size,fun b c _=>a.below.block b c,fun b c _=>a.old b c,a.good⟩,m,hk _ _,by simpa using l,fun b f=> .inr (j b (by simpa using f))⟩
@[irreducible] def Sg (C:Ctx) (A:Ak Unit) (hk:Di Unit) (fn:Func) (body:Code) (s:oq) (args:OD s.ps->List SV):Prop:=
 ∀d,vC (s.pre d)->Bz C A hk body ⟨EY (args d) 0,[]⟩ () (Lf fn s.rs (fun r=>∃k,s.R d (r,k)))
theorem Si (F:C.ok P) (I:P.follows .mixedOrders=true) {f:Nat} {fn:Func} {body:Code} {s:oq} (u:P.funcs[f]? =some fn) (q:fn.body=some body) (a:(fn.name== "runtime.NumGoroutine")=false) (J:fn.ntmps=C.n) {A:Ak Unit} {hk:Di Unit}
 (l:∀B,fU P C none hk (LvR B)/\BA P C none hk (LvR B)) {args:OD s.ps->List SV} (z:Vp s.ps=true)
 (g:∀H w vals fl d bs,Sf s.aZ vals fl->dx P H w s.ps fl d bs->∀ρ:Env,ρ.H=H->SV.denL P ρ (args d) vals) (h:∀d,Nat.ble (args d).length C.n=true)
 (y:Sg C A hk fn body s args):ROK P f s:=by
 unfold Sg at y;refine⟨q8 u q a,fun H w vals fl d bs j G p K i=> ?_⟩;have t:=fun ρ c=>g H w vals fl d bs j p ρ c
 have M:=qv _ _ (t ⟨H,fun _=>none,fun _=>0⟩ rfl);have N:=jx (h d);refine(Ig F I u q J A l (by omega) (y d i) G (fun ρ c k v o=> ?_)).mono fun e w' ⟨r,L,b⟩=> ?_
 obtain⟨x,D,E,_⟩:=EZ _ _ 0 (t ρ c) k v o;exact⟨x,by simpa using D,E⟩;obtain⟨k,m⟩:=L;exact⟨(r,k),m,Vq z p k b⟩
end
end Go.X
namespace Go.X
namespace U
def Un {α:Type} (lt:α->α->Bool) (x:α):List α->List α
 |[]=>[x]
 |y::r=>if lt y x=true then y::Un lt x r else x::y::r
def kZ {α:Type} (lt:α->α->Bool):List α->List α
 |[]=>[]
 |x::r=>Un lt x (kZ lt r)
end U
structure vu {α:Type} (lt:α->α->Bool) (l:List α):Prop where
 irrefl:∀x,x∈l->lt x x=false
 trans:∀x y z,x∈l->y∈l->z∈l->lt x y=true->lt y z=true->lt x z=true
 total:∀x y,x∈l->y∈l->lt x y=false->lt y x=false->x=y
def Pd {α:Type} (lt:α->α->Bool) (l:List α):Prop:=l.Pairwise (fun a b=>lt b a=false)
section
variable {α:Type} {lt:α->α->Bool}
theorem sR (x:α):∀l:List α,(U.Un lt x l).Perm (x::l)
 |[]=>List.Perm.refl _
 |y::r=>by
  unfold U.Un
  split
  .exact((sR x r).cons y).trans (List.Perm.swap x y r)
  .exact List.Perm.refl _
theorem wQ:∀l:List α,(U.kZ lt l).Perm l
 |[]=>List.Perm.refl _
 |x::r=>(sR x _).trans ((wQ r).cons x)
theorem vu.perm {l l':List α} (h:vu lt l) (a:l'.Perm l):vu lt l':=
 ⟨fun x b=>h.irrefl x (a.mem_iff.1 b),fun x y z b c d=>h.trans x y z (a.mem_iff.1 b) (a.mem_iff.1 c) (a.mem_iff.1 d),fun x y b c=>h.total x y (a.mem_iff.1 b) (a.mem_iff.1 c)⟩
theorem vu.sub {l l':List α} (h:vu lt l) (a:∀x,x∈l'->x∈l):vu lt l':=
 ⟨fun x b=>h.irrefl x (a _ b),fun x y z b c d=>h.trans x y z (a _ b) (a _ c) (a _ d),fun x y b c=>h.total x y (a _ b) (a _ c)⟩
theorem vu.asymm {l:List α} (h:vu lt l) {x y:α} (a:x∈l) (d:y∈l) (b:lt x y=true):lt y x=false:=by
 cases c:lt y x with
 |false=>rfl
 |true=>have:=h.trans x y x a d a b c;rw[h.irrefl x a] at this;cases this
theorem vu.ntrans {l:List α} (h:vu lt l) {x y z:α} (d:x∈l) (e:y∈l) (g:z∈l) (f:lt x y=false) (b:lt y z=false):lt x z=false:=by
 cases a:lt x z with
 |false=>rfl
 |true=>
  cases c:lt y x with
  |true=>have:=h.trans y x z e d g c a;rw[b] at this;cases this
  |false=>have:=h.total x y d e f c;subst this;rw[b] at a;cases a
theorem Ij {x:α}:∀{l:List α},vu lt (x::l)->Pd lt l->Pd lt (U.Un lt x l)
 |[],_,_=>List.pairwise_singleton _ _
 |y::r,h,ha=>by
  unfold U.Un
  have c:=zv.1 ha
  split
  rename_i a
  refine zv.2 ⟨fun z b=> ?_,Ij (h.sub (by intro z b;simp at b⊢;rcases b with rfl|b;exact .inl rfl;exact .inr (.inr b))) c.2⟩
  rcases jj.1 ((sR x r).mem_iff.1 b) with rfl|b
  exact h.asymm (by simp) (by simp) a
  exact c.1 z b
  rename_i a
  have a:lt y x=false:=by simpa using a
  refine zv.2 ⟨fun z b=> ?_,ha⟩
  rcases jj.1 b with rfl|b
  exact a
  exact h.ntrans (x:=z) (y:=y) (z:=x) (by simp[b]) (by simp) (by simp) (c.1 z b) a
theorem bu:∀{l:List α},vu lt l->Pd lt (U.kZ lt l)
 |[],_=>List.Pairwise.nil
 |x::r,h=>Ij ((h.perm ((wQ r).cons x))) (bu (h.sub (fun _ a=>jl _ a)))
theorem ot:∀{a b:List α},vu lt a->a.Perm b->Pd lt a->Pd lt b->a=b
 |[],b,_,c,_,_=>(List.perm_nil.1 c.symm).symm
 |x::r,[],_,c,_,_=>absurd c.length_eq (by simp)
 |x::r,y::s,h,c,ha,hb=>by
  have d:=zv.1 ha
  have f:=zv.1 hb
  have j:y∈x::r:=c.mem_iff.2 (by simp)
  have k:x∈y::s:=c.mem_iff.1 (by simp)
  have e:x=y:=by
   rcases jj.1 j with e|i;exact e.symm;rcases jj.1 k with e|g;exact e;exact h.total x y (by simp) j (f.1 x g) (d.1 y i)
  subst e;rw[ot (h.sub (fun z l=>jl _ l)) (List.Perm.cons_inv c) d.2 f.2]
theorem rc {l l':List α} (h:vu lt l) (a:l'.Perm l) (b:Pd lt l'):l'=U.kZ lt l:=
 ot (h.perm a) (a.trans (wQ l).symm) b (bu h)
theorem Ik {l l':List α} (h:vu lt l) (a:l'.Perm l):U.kZ lt l'=U.kZ lt l:=
 rc h ((wQ l').trans a) (bu (h.perm a))
end
namespace U
def k8 (t:Ty) (F:(Ty.st [t,t]).Data->(Ty.st [.int]).Data) (x y:t.Data):Bool:=decide ((F (x,y,())).1<0)
def wl:List Prop->Prop
 |[]=>True
 |p::r=>p/\wl r
end U
theorem NZ:∀l:List Prop,U.wl l↔vC l
 |[]=>Iff.rfl
 |p::r=>by simp only[U.wl,vC,NZ r]
def Sj (t:Ty) (E:Nat):qB:=⟨[.own (.cl (.row E t .unk)) true,.fn [t,t] [.int]],[],fun d=>[∀x,x∈d.1->∀y,y∈d.1->U.wl (d.2.1.pre (x,y,())),vu (U.k8 t d.2.1.F) d.1],
 fun d=>((),(U.kZ (U.k8 t d.2.1.F) d.1,()))⟩
end Go.X
namespace Go.X
open U
open Go.RowKit (Below)
def Yh (C:Ctx) (fn:Func) (s:wL) (a:(Ty.st s.rs).Data) (e:Ex) (σ:St) (_:Unit):Prop:=finish C fn s a e σ
@[irreducible] def N0 (C:Ctx) (s:wL) (A:PD s.ps->Ak Unit) (hk:Di Unit) (fn:Func) (body:Code):Prop:=
 ∀d:PD s.ps,Fx (s.pre d) (Bz C (A d) hk body ⟨vo s.ps d 0,[]⟩ () (Yh C fn s (s.F d)))
section
variable {P:Program} {C:Ctx}
theorem Sk (hC:C.ok P) (hm:P.follows .mixedOrders=true) {f:Nat} {fn:Func} {body:Code} {s:wL} (hf:P.funcs[f]? =some fn) (j:fn.body=some body) (I:(fn.name== "runtime.NumGoroutine")=false) (hn:fn.ntmps=C.n) (hps:s.ps.length<=C.n)
 {A:PD s.ps->Ak Unit} {hk:Di Unit} (N:∀B,fU P C none hk (LvR B)/\BA P C none hk (LvR B)) (h:N0 C s A hk fn body):wU P f s:=by
 unfold N0 at h;refine⟨q8 hf j I,fun H w vals d hg hp R=> ?_⟩;have hlen:=br hp;refine(callsIn_wide (n:=0)).1 (callsIn_of_wp_marks hf j trivial ?_ rfl)
 let ρ:Env:=⟨H,fun _=>none,fun _=>0⟩
 let B:qw:=⟨w,H,[],fun _=>none,fun _=>0⟩
 have hS:Sat P B ρ (⟨vo s.ps d 0,[]⟩:St).obj w:=by
  refine⟨rfl,rfl,rfl,jk _,jk _,hg,fun _ _ _=>rfl,fun _ _ _=>rfl,?_,fun _ _=>rfl,?_,?_⟩
  .intro o x J;simp[St.obj,wA] at J
  .intro o o' b C1 C2 y;simp[ρ] at y
  .intro o b C1 y;simp[ρ] at y
 have M:ux P B C.n [] ⟨vo s.ps d 0,[]⟩ {tmps:=vals.toArray++Array.replicate (fn.ntmps-vals.toArray.size) undef,defers:=[]} w:=by
  refine⟨_,(ak _).symm,rfl,by simp;omega,ρ,hS,?_,fun o p _ j=>by simp[ρ] at j,fun _ _ j=>j⟩;intro k v hk;obtain⟨x,y,h2⟩:=yJ (P:=P) (ρ:=ρ) s.ps vals d 0 hp k v hk;rw[lm (x:=x) (by simpa using y)];exact h2
 have hL0:LvR B B [] ():=⟨⟨rfl,rfl,rfl,jk _,jk _,fun _ _ h=>h,fun b _ h=>⟨rfl,rfl,h⟩,fun b h=> .inr h,rfl,rfl⟩,kT,fun x J=>by simp at J⟩;refine vI (r:=none) hC hm (A d) hk (LvR B) (N B).1 (N B).2 body _ () _ _ _ w B [] (ax _ _ (h d) R) hL0 M (fun e σ ys a' w' B' ds hE Z hL hR=> ?_);obtain⟨G,rfl,q1,q2,ρ',q3,q4,q5⟩:=hR;obtain⟨i,Q⟩:=hL;have E:(match Dm C σ s.rs fn.results.toList with|some r=>r=s.F d|none=>False)->LeavesInM Fence.wide 0 P fn (b8 ds G).tmps (WS H w s.rs (s.F d)) (b8 ds G).defers .returning w':=by
  intro hr
  split at hr
  case h_2=>exact hr.elim
  rename_i r S;have ed:(b8 ds G).defers=ds:=(by simp[b8,q1]);have et:(b8 ds G).tmps=G.tmps:=rfl;rw[ed,et];obtain⟨L,hf1⟩:∃L,L=F4 C σ s.rs fn.results.toList:=⟨_,rfl⟩;obtain⟨u,g,hle,hblk,hln⟩:=wN (σ:=σ) L q3;have z:∀x,x∈ds->∃D,x={target:= .collected D,args:= #[]}/\w.heap.size<=D/\D∉B'.bor/\D<B'.w.heap.size/\w'.heap[D]? =some (.deferred (some [])):=by
   intro x J;obtain⟨D,e,T,V,K⟩:=Q.2 x J;have O:=(jt.1 K).1;exact⟨D,e,T,V,O,(g.old D O V).trans K⟩
  refine oj ds w' Q.1 (fun x J=> ?_) (fun w2 g1 g2 g3 X g4 Y=> ?_)
  .obtain⟨D,e,_,_,_,h⟩:=z x J;exact⟨D,e,h⟩
  have q:∀b,b<w.heap.size->({target:= .collected b,args:= #[]}:Deferred)∉ds:=by
   intro b j m;obtain⟨D,e,T,_⟩:=z _ m;simp at e;omega
  have t:∀o b W,u.blk o=some (some (b,W))->({target:= .collected b,args:= #[]}:Deferred)∉ds:=by
   intro o b W j m;obtain⟨D,e,_,_,_,h⟩:=z _ m;simp at e;subst e;exact(Al (σ:=σ.frz L) g j).2 _ h
  have l:ew u.H w2:=by
   refine⟨fun b c hc=> ?_,g.good.2⟩;have y:=g.good.1 b c hc;rw[Y b (fun m=> ?_)]
   .exact y
   .obtain⟨D,e,_,_,_,h⟩:=z _ m;simp at e;subst e;rw[h] at y;exact nx y
  have hS3:=ml (σ:=σ.frz L) g l (fun _ _ h=>h) (fun o b W j=>⟨Y b (t o b W j),rfl⟩);have hd:∀k,SV.den P {u with H:=u.H} (σ.get k) (G.tmps.getD k undef):=by
   intro k;have:=wH (P:=P) (a:=G) q4 (.tmp k);exact SV.den_mono hle _ _ (fun o ho=>by simp at ho) this
  obtain⟨vs,e1,e2⟩:=ff hC hS3 (vS σ _) hd s.rs _ _ S (fun o ho=>by rw[hf1];exact ho);refine⟨_,gj e1,⟨_,u.H,rfl,⟨⟨g1.trans (g.os.trans i.os),g2.trans (g.tape.trans i.tape),g3.trans (g.output.trans i.output),?_,fun b j=> ?_⟩,l,fun b j=> ?_,jD (jD i.drawn g.drawn) X⟩,?_⟩⟩
  .rw[g4];exact jD i.size g.size
  .obtain⟨T,V,K⟩:=i.old b j (by simp[B]);rw[Y b (q b j)];exact(g.old b (zA j i.size) K).trans T
  .obtain⟨T,V,K⟩:=i.old b j (by simp[B]);exact(g.oldH b (zA j i.size) K).trans V
  .rw[<-hr];exact Lc e2
 cases e with
 |normal=>exact E Z
 |ret=>exact E Z
 |exit id=>exact Z.elim
end
end Go.X
namespace Go.X
open U
open Go.RowKit (Below)
open Go.Sort (HoldsK putRowK flatK SWO PermIn SortedIn)
theorem Il {H:Imm}:∀(t:Ty) (f:Nat->Option Value) (d:t.Data),t.rd H f d->∀j,j<t.size->∃v,f j=some v/\v.oneCell'=true
 | .int,f,d,h,j,g=>by obtain rfl:j=0:=kI.1 g;exact⟨_,h,rfl⟩
 | .bool,f,d,h,j,g=>by obtain rfl:j=0:=kI.1 g;exact⟨_,h,rfl⟩
 | .uint _,f,d,h,j,g=>by obtain rfl:j=0:=kI.1 g;exact⟨_,h,rfl⟩
 | .slice _,f,d,h,j,g=>by obtain rfl:j=0:=kI.1 g;obtain⟨a,n,c,h,_⟩:=h;exact⟨_,h,rfl⟩
 | .map _ _,f,d,h,j,g=>by obtain rfl:j=0:=kI.1 g;obtain⟨p,h,_⟩:=h;exact⟨_,h,rfl⟩
 | .ptr _,f,d,h,j,g=>by obtain rfl:j=0:=kI.1 g;obtain⟨p,h,_⟩:=h;exact⟨_,h,rfl⟩
 | .unit,f,d,h,j,g=>by simp[Ty.size] at g
 | .pair a b,f,d,h,j,g=>by
  simp only[Ty.size] at g
  by_cases i:j<a.size
  exact Il a f d.1 h.1 j i
  obtain⟨v,e,k⟩:=Il b _ d.2 h.2 (j-a.size) (by omega)
  exact⟨v,by rw[<-e];congr 1;omega,k⟩
theorem Lk {w w':World} (h:Below w.heap.size w w') (f:w.drawn<=w'.drawn):∃q d,w'=Go.Sort.grow (w.drewN q) d:=by
 refine⟨w'.drawn-w.drawn,w'.heap.extract w.heap.size w'.heap.size,?_⟩;obtain⟨a,e,b,d,c⟩:=w';have g:d=w.os:=h.os;have e2:e=w.tape:=h.tape;have i:c=w.output:=h.output;have n:w.heap.size<=a.size:=h.size;have j:∀k,k<w.heap.size->a[k]? =w.heap[k]? :=h.block;have f:w.drawn<=b:=f;subst g e2 i;have m:a=w.heap++a.extract w.heap.size a.size:=by
  apply Array.ext_getElem?;intro k;by_cases hk:k<w.heap.size;rw[zg hk];exact j k hk;rw[Array.getElem?_append_right (by omega),Array.getElem?_extract];by_cases l:k<a.size;rw[jh (by omega)];congr 1;omega;rw[jc (by omega),Array.getElem?_eq_none (by omega)]
 simp only[Go.Sort.grow,World.drewN];rw[show w.drawn+(b-w.drawn)=b by omega];congr 1
section
variable {t:Ty}
structure LE (H:Imm) (t:Ty) (l:List t.Data) where
 cs:List Value
 d:t.Data
 mem:d∈l
 len:cs.length=t.size
 rd:t.rd H (fun j=>cs[j]?) d
variable {H:Imm} {l:List t.Data}
theorem LE.one (x:LE H t l):∀v,v∈x.cs->v.oneCell'=true:=by
 intro v f;obtain⟨j,b,e⟩:=List.mem_iff_getElem.1 f;obtain⟨u,a,c⟩:=Il t _ x.d x.rd j (by rw[<-x.len];exact b);rw[jr b,e] at a;simp at a;subst a;exact c
theorem LE.rv (a:t.agg=true) (x:LE H t l):t.rv H (.agg x.cs.toArray) x.d:=
 ⟨by rw[a];rfl,by show x.cs.toArray.size=_;simp[x.len],Ty.rd_congr t _ _ _ (fun j _=>by show x.cs[j]? =x.cs.toArray[j]?;simp) x.rd⟩
def cfL (F:(Ty.st [t,t]).Data->(Ty.st [.int]).Data) (x y:LE H t l):Int:=(F (x.d,y.d,())).1
theorem ltL {F:(Ty.st [t,t]).Data->(Ty.st [.int]).Data} (x y:LE H t l):Go.Proofs.ltOf (cfL F) x y=k8 t F x.d y.d:=rfl
theorem jcc {F:(Ty.st [t,t]).Data->(Ty.st [.int]).Data} (h:vu (k8 t F) l):SWO (Go.Proofs.ltOf (cfL F:LE H t l->LE H t l->Int)) where
 irrefl x:=by rw[ltL];exact h.irrefl _ x.mem
 trans x y z h1 h2:=by rw[ltL] at*;exact h.trans _ _ _ x.mem y.mem z.mem h1 h2
 ntrans x y z h1 h2:=by rw[ltL] at*;exact h.ntrans x.mem y.mem z.mem h1 h2
variable [Inhabited (LE H t l)]
theorem BG {w:World} {b n:Nat} {d:Array (LE H t l)} {os:Array Obj}:w.grownBy (Go.Proofs.sortWorldK LE.cs t.size w b 0 n d os) (some b):=by
 refine⟨rfl,rfl,rfl,?_,fun k hk c=> ?_⟩;unfold Go.Proofs.sortWorldK Go.Sort.grow Go.Sort.putRowK Go.Sort.putRow Go.Sort.mapBlock Go.Sort.ahead;simp;have a:b≠k:=fun e=>c (by rw[e])
 unfold Go.Proofs.sortWorldK Go.Sort.grow Go.Sort.putRowK Go.Sort.putRow Go.Sort.mapBlock Go.Sort.ahead;simp only;rw[zg (by simpa using hk),zt,jc a]
theorem Ll {w:World} {b n:Nat} {d:Array (LE H t l)} {os:Array Obj}:w.drawn<=(Go.Proofs.sortWorldK LE.cs t.size w b 0 n d os).drawn:=by
 unfold Go.Proofs.sortWorldK Go.Sort.grow Go.Sort.putRowK Go.Sort.putRow Go.Sort.mapBlock Go.Sort.ahead;simp
theorem Im {w:World} {b n:Nat} {d:Array (LE H t l)} {os:Array Obj} (f:ew H w) (i:H b=none):ew H (Go.Proofs.sortWorldK LE.cs t.size w b 0 n d os):=by
 refine⟨fun k c a=> ?_,f.2⟩;have g:=BG (w:=w) (b:=b) (n:=n) (d:=d) (os:=os);have h:b≠k:=fun e=>by subst e;rw[i] at a;cases a
 rw[g.block k (f.lt a) (fun e=>h (by simp at e;exact e.symm))];exact f.1 k c a
theorem Yi {P:Program} (p:t.agg=true) {F:(Ty.st [t,t]).Data->(Ty.st [.int]).Data} {pre:(Ty.st [t,t]).Data->List Prop} {g:Nat} {j:Array Value} {w:World} {b size:Nat} (u:ew H w) (q:H b=none)
 (s:∀H' w vals x,(∀b c,H b=some c->H' b=some c)->ew H' w->rvs H' [t,t] vals x->vC (pre x)->Calls P g (vals.toArray++j) w (WS H' w [.int] (F x)))
 (a:∀x,x∈l->∀y,y∈l->vC (pre (x,y,()))):Go.Proofs.CmpLays P g j (LE.cs:LE H t l->List Value) t.size (cfL F) b 0 size w:=by
 intro m os dk _ x y;have f:=Im (n:=m) (d:=dk) (os:=os) u q;have:=s H _ [.agg x.cs.toArray,.agg y.cs.toArray] (x.d,y.d,()) (fun _ _ h=>h) f ⟨x.rv p,y.rv p,rfl⟩ (a _ x.mem _ y.mem);refine Calls.mono (R:=WS H (Go.Proofs.sortWorldK LE.cs t.size w b 0 m dk os) [.int] (F (x.d,y.d,()))) this fun e w' r=> ?_
 obtain⟨v,H',rfl,o,i⟩:=r;refine⟨?_,Lk o.below o.drawn⟩;have i:Ty.int.rv H' v (F (x.d,y.d,())).1:=i;have k:=qf (t:= .int) rfl i;simp only[Ty.rd,jy] at k;rw[k];rfl
theorem Z1 {w:World} {b E:Nat} {vs:Array Value} {d:Array (LE H t l)} (c:0<t.size) (m:w.heap[b]? =some (.cells vs E (0,0))) (n:∀(i:Nat) (y:LE H t l),d[i]? =some y->∀j,j<t.size->vs[i*t.size+j]? =y.cs[j]?):HoldsK LE.cs t.size w b 0 d:=by
 intro k hk;have a:k<d.size*t.size:=(by simpa using hk);have hi:k/t.size<d.size:=(Nat.div_lt_iff_lt_mul c).2 a;have h:=Nat.mod_lt k c;have e:=n (k/t.size) d[k/t.size]! (by rw[getElem!_pos d _ hi];exact jR hi) (k%t.size) h;rw[show k/t.size*t.size+k%t.size=k by rw[kG];exact Nat.div_add_mod k t.size] at e;have g:=d[k/t.size]!.len;obtain⟨u,f,o⟩:=Il t _ _ d[k/t.size]!.rd (k%t.size) h;rw[Go.Sort.get_flatK _ _ _ k a,zF,AN m,e];refine⟨?_,by simp[World.frozen?,m]⟩;rw[f,getElem!_def,f]<;>rfl
theorem Lm {w:World} {b n E:Nat} {vs:Array Value} {d:Array (LE H t l)} {os:Array Obj} (f:0<t.size) (m:w.heap[b]? =some (.cells vs E (0,0))) (q:d.size*t.size<=vs.size):
 ∃a:Array Value,(Go.Proofs.sortWorldK LE.cs t.size w b 0 n d os).heap[b]? =some (.cells a E (0,0))/\a.size=vs.size/\∀(i:Nat) (y:LE H t l),d[i]? =some y->∀j,j<t.size->a[i*t.size+j]? =y.cs[j]? :=by
 have e:b<w.heap.size:=(jt.1 m).1;refine⟨Go.Sort.putCells id 0 (flatK LE.cs t.size d) vs,?_,by simp[Go.Sort.putCells],fun i y g j c=> ?_⟩;unfold Go.Proofs.sortWorldK Go.Sort.grow Go.Sort.putRowK Go.Sort.putRow Go.Sort.mapBlock Go.Sort.ahead;simp only;rw[zg (by simpa using e),zt,jh rfl,m];rfl;have hi:i<d.size:=(jt.1 g).1;have k:i*t.size+j<d.size*t.size:=by
  have:(i+1)*t.size<=d.size*t.size:=jH _ hi;rw[zh] at this;omega
 have r:i*t.size+j<vs.size:=(by omega);have o:(i*t.size+j)/t.size=i:=by
  rw[kG,Nat.mul_add_div f,Nat.div_eq_of_lt c,zG]
 have p:(i*t.size+j)%t.size=j:=by
  rw[kG,Nat.mul_add_mod,kK c]
 unfold Go.Sort.putCells;rw[Array.getElem?_mapIdx,jR r];simp only[kh,jw,zF,true_and,Go.Sort.size_flatK,k,if_true,kH,id];rw[Go.Sort.get_flatK _ _ _ _ k,o,p];have:d[i]! =y:=by
  rw[getElem!_pos d i hi];rw[jR hi] at g;simpa using g
 rw[this];obtain⟨u,h,_⟩:=Il t _ _ y.rd j c;rw[h,getElem!_def,h]<;>rfl
theorem Ln {F:(Ty.st [t,t]).Data->(Ty.st [.int]).Data} (m:vu (k8 t F) l) {d a:Array (LE H t l)} (k:d.toList.map LE.d=l) (n:PermIn 0 d.size d a) (o:SortedIn (Go.Proofs.ltOf (cfL F)) 0 d.size a):
 a.toList.map LE.d=kZ (k8 t F) l:=by
 obtain⟨p,_,q⟩:=n;have b:a.toList.Perm d.toList:=by
  have h:d.extract 0 d.size=d:=(by simp);have e2:a.extract 0 d.size=a:=by rw[<-p];simp
  rwa [h,e2] at q
 have f:=b.map LE.d;rw[k] at f;refine rc m f ?_;unfold Pd;rw[zy];intro i j hi g c;simp only[zr,jY] at hi g;have e:=o i j (jw _) c (by omega);rw[ltL,getElem!_pos a j g,getElem!_pos a i hi] at e;simpa using e
end
theorem BH {P:Program} {q:Go.Shelf.Ren} (L:Go.Proofs.SlLaysF0.n6 P q) {t:Ty} (E:Nat) (ht:t.agg=true) (Q:0<t.size) (aE:∀w,(isAgg (q.t 24)).run P w= .ok true w) (zE:∀w,(Go.sizeOf (q.t 24)).run P w= .ok t.size w)
 (hen:enters P (q.f 6)):gq P (q.f 6) (Sj t E):=by
 refine⟨hen,fun H w vals d bs hg c M O=> ?_⟩;obtain⟨l,u,⟨⟩⟩:=d;obtain⟨Y,W,_⟩:=O;have Y:∀x,x∈l->∀y,y∈l->vC (u.pre (x,y,())):=fun x T y o=>(NZ _).1 (Y x T y o)
 have W:vu (k8 t u.F) l:=W
 match vals,c with
 |[],c=>exact c.elim
 |[_],c=>obtain⟨_,_,_,_,c⟩:=c;exact c.elim
 |v::fv::_::_,c=>
  obtain⟨_,_,_,_,_,_,_,_,c⟩:=c;have:=c.1;cases this
 |[v,fv],c=>
  obtain⟨X,b2,rfl,J,c1,c2,rfl,⟨hfv,rfl⟩,_,rfl⟩:=c;simp only[j7] at M⊢;have ha0:ClV H w (.row E t .unk) v l X:=J;obtain⟨A,B⟩:=J;obtain⟨g,cb,rfl,hge,G⟩:=hfv;by_cases I:l=[];subst I;obtain⟨p,D,rfl⟩:∃p D,v= .slice p 0 D:=by
   rcases B with⟨rfl,_⟩|⟨b,C,vs,rfl,_⟩;exact⟨_,_,rfl⟩;exact⟨_,_,rfl⟩
  refine(Go.Proofs.AnyF.slices_SortFunc_none L p D (.func (.func g) #[] cb) w).mono fun e w' he=> ?_
  obtain⟨rfl,rfl⟩:=he;exact⟨[],H,[],X,rfl,⟨rfl,rfl,rfl,jk _,jk _,fun _ _ _=>rfl,fun _ _ _=>rfl,hg⟩,⟨rfl,rfl⟩,⟨X,[],by simp,ha0,rfl⟩,by simpa using M,fun b hb=> .inl (by simpa using hb)⟩;rcases B with⟨_,e,_⟩|⟨b,C,vs,rfl,rfl,hH,_,hw,S,s,Z,hr⟩;exact absurd e I;have s:l.length<=C:=s;have h:∀i,i<l.length->∀j,j<t.size->i*t.size+j<vs.size:=by
   intro i hi j z;have h3:(i+1)*t.size<=C*t.size:=jH _ (by omega);rw[zh] at h3;omega
  let mk:(i:Fin l.length)->LE H t l:=fun i=>⟨(List.range t.size).map (fun j=>vs[i.1*t.size+j]?.getD undef),l[i.1],kL _,by simp,by
   refine Ty.rd_congr t _ _ _ (fun j z=> ?_) (hr i.1 l[i.1] (jr i.2));rw[zO,kz z,kh,jR (h i.1 i.2 j z)];rfl⟩
  haveI:Inhabited (LE H t l):=⟨mk ⟨0,Nat.pos_of_ne_zero (fun e=>I (zf e))⟩⟩
  obtain⟨d,r,hdm,hdc⟩:∃d:Array (LE H t l),d.size=l.length/\d.toList.map LE.d=l/\∀(i:Nat) (y:LE H t l),d[i]? =some y->∀j,j<t.size->vs[i*t.size+j]? =y.cs[j]? :=by
   refine⟨Array.ofFn mk,by simp,?_,fun i y o j z=> ?_⟩;apply List.ext_getElem;simp;intro i hi1 hi2;simp[mk];have hi:i<l.length:=(by have:=(jt.1 o).1;simpa using this);have:mk ⟨i,hi⟩=y:=by
    have:=(jt.1 o).2;simpa using this
   subst this;show _=((List.range t.size).map (fun j=>vs[i*t.size+j]?.getD undef))[j]?;rw[zO,kz z,kh,jR (h i hi j z)];rfl
  have key:=Go.Proofs.AnyQ.slices_SortFunc L t.size aE zE (LE.cs:LE H t l->List Value) LE.len (fun x=>x.one) (cfL u.F) (jcc W) g cb b 0 C d w hge (Yi ht hg hH G Y) (Z1 Q hw hdc) (jt.1 hw).1 (by rw[r];exact A);rw[r] at key;refine Calls.mono (R:=_) key fun e w' he=> ?_
  obtain⟨rfl,V,n,os,hp,hs,rfl⟩:=he;rw[<-r] at hp hs;have N:=Ln W hdm hp hs;have K:V.size=d.size:=hp.1;obtain⟨vs2,k1,k2,k3⟩:=Lm (n:=n) (os:=os) (d:=V) Q hw (by
   rw[K,r,S];exact jH _ s)
  have m:=BG (w:=w) (b:=b) (n:=n) (d:=V) (os:=os);have a:(kZ (k8 t u.F) l).length=l.length:=(wQ _).length_eq;refine⟨[],H,[],[b],rfl,⟨m.os,m.tape,m.output,Ll,m.size,fun k hk hb=>m.block k hk (fun e=>by simp at e;subst e;simp at hb),fun _ _ _=>rfl,Im hg hH⟩,⟨rfl,rfl⟩,⟨[b],[],rfl,?_,rfl⟩,by simp,fun b' hb'=> .inl (by simpa using hb')⟩;show ClV H _ (.row E t .unk) _ (kZ (k8 t u.F) l) [b];refine⟨by rw[a];exact A,.inr ⟨b,C,vs2,by rw[a],rfl,hH,(fun e=>by cases e),k1,by rw[k2];exact S,by rw[a];exact s,Z,fun i y o=> ?_⟩⟩;rw[<-N,zO,zi] at o;cases T:V[i]? with
  |none=>rw[T] at o;cases o
  |some x=>
   rw[T] at o;simp at o;subst o;exact Ty.rd_congr t _ _ _ (fun j z=>(k3 i x T j z).symm) x.rd
end Go.X
namespace Go.X
open U
open Go.RowKit (Below)
open Go.Sort (Holds putRow)
namespace U
def C9 (l:List Int):List Int:=l.mergeSort fun x y=>decide (x<=y)
end U
theorem E6 (l:List Int):(C9 l).Perm l:=List.mergeSort_perm l _
def Sl (E:Nat):qB:=⟨[.own (.cl (.row E .int .unk)) true],[],fun _=>[],fun d=>((),(C9 d.1,()))⟩
theorem Vr {P:Program} {B:Go.Shelf.Ren} (L:Go.Proofs.Lays.n189 P B) (E:Nat) (hen:enters P (B.f 189)):gq P (B.f 189) (Sl E):=by
 refine⟨hen,fun H w vals d bs O j K _=> ?_⟩;obtain⟨l,⟨⟩⟩:=d
 match vals,j with
 |[],j=>exact j.elim
 |v::fv::_,j=>
  obtain⟨_,_,_,_,j⟩:=j;have:=j.1;cases this
 |[v],j=>
  obtain⟨N,b2,rfl,F,_,rfl⟩:=j;simp only[j7] at K⊢;have V:ClV H w (.row E .int .unk) v l N:=F;obtain⟨h,q⟩:=F;have h:l.length<4611686018427387904:=h;by_cases I:l=[];subst I;obtain⟨p,r,rfl⟩:∃p r,v= .slice p 0 r:=by
   rcases q with⟨rfl,_⟩|⟨b,C,vs,rfl,_⟩;exact⟨_,_,rfl⟩;exact⟨_,_,rfl⟩
  refine(Go.Proofs.Any.slices_Sort_int_none L p r w).mono fun e w' he=> ?_
  obtain⟨rfl,rfl⟩:=he;exact⟨[],H,[],N,rfl,⟨rfl,rfl,rfl,jk _,jk _,fun _ _ _=>rfl,fun _ _ _=>rfl,O⟩,⟨rfl,rfl⟩,⟨N,[],by simp,(by
   have e0:C9 []=[]:=List.perm_nil.1 (E6 []);show ClV H _ (.row E .int .unk) _ (C9 []) N;rw[e0];exact V),rfl⟩,by simpa using K,fun b G=> .inl (by simpa using G)⟩
  rcases q with⟨_,e,_⟩|⟨b,C,vs,rfl,rfl,hH,_,Q,A,u,S,hr⟩;exact absurd e I;have u:l.length<=C:=u;have A:vs.size=C:=(by rw[A];exact Nat.mul_one C);have s:∀(i:Nat) (y:Int),l[i]? =some y->vs[i]? =some (.int .i64 y):=fun i y o=>by
   have:=hr i y o;simpa[Ty.rd,Ty.size] using this
  have J:b<w.heap.size:=(jt.1 Q).1;refine Calls.mono (R:=_) (Go.Proofs.Any.slices_Sort_int L b 0 C l w ?_ J h) fun e w' he=> ?_
  intro i hi;have hi:i<l.length:=(by simpa using hi);have h1:=s i l[i] (jr hi);rw[zF,AN Q,h1];refine⟨?_,by simp[World.frozen?,Q]⟩;simp[getElem!_pos l.toArray i (by simpa using hi)];obtain⟨rfl,n,os,rfl⟩:=he;have a:(C9 l).length=l.length:=(E6 _).length_eq;obtain⟨d,Y⟩:∃d,d=C9 l:=⟨_,rfl⟩;have Z:(l.mergeSort fun x y=>decide (x<=y))=d:=(by rw[Y];rfl);rw[Z];rw[<-Y] at a;obtain⟨W,T⟩:∃W,W=Go.Sort.grow (putRow (Value.int .i64) (Go.Sort.ahead w n) b 0 d.toArray) os:=⟨_,rfl⟩;rw[<-T];have g:w.grownBy W (some b)/\w.drawn<=W.drawn:=by
   rw[T];refine⟨⟨rfl,rfl,rfl,?_,fun k hk G=> ?_⟩,?_⟩;unfold Go.Sort.grow Go.Sort.putRow Go.Sort.mapBlock Go.Sort.ahead;simp;have z:b≠k:=fun e=>G (by rw[e])
   unfold Go.Sort.grow Go.Sort.putRow Go.Sort.mapBlock Go.Sort.ahead;simp only;rw[zg (by simpa using hk),zt,jc z];unfold Go.Sort.grow Go.Sort.putRow Go.Sort.mapBlock Go.Sort.ahead;simp
  have M:∃D:Array Value,W.heap[b]? =some (.cells D E (0,0))/\D.size=vs.size/\∀(i:Nat) (y:Int),d[i]? =some y->D[i]? =some (.int .i64 y):=by
   rw[T];refine⟨Go.Sort.putCells (Value.int .i64) 0 d.toArray vs,?_,by simp[Go.Sort.putCells],fun i y o=> ?_⟩;unfold Go.Sort.grow Go.Sort.putRow Go.Sort.mapBlock Go.Sort.ahead;simp only;rw[zg (by simpa using J),zt,jh rfl,Q];rfl;have hi:i<d.length:=(jo.1 o).1;unfold Go.Sort.putCells;rw[Array.getElem?_mapIdx,jR (show i<vs.size by omega)];have e:d.toArray[i]! =y:=by
    rw[getElem!_pos d.toArray i (by simpa using hi)];rw[jr hi] at o;simpa using o
   simp[hi];rw[jr hi] at o;simpa using o
  obtain⟨vs2,k1,k2,k3⟩:=M;have t:ew H W:=by
   refine⟨fun k c m=> ?_,O.2⟩;have z:b≠k:=fun e=>by subst e;rw[hH] at m;cases m
   rw[g.1.block k (O.lt m) (fun e=>z (by simp at e;exact e.symm))];exact O.1 k c m
  refine⟨[],H,[],[b],rfl,⟨g.1.os,g.1.tape,g.1.output,g.2,g.1.size,fun k hk G=>g.1.block k hk (fun e=>by simp at e;subst e;simp at G),fun _ _ _=>rfl,t⟩,⟨rfl,rfl⟩,⟨[b],[],rfl,?_,rfl⟩,by simp,fun b' X=> .inl (by simpa using X)⟩;show ClV H _ (.row E .int .unk) _ (C9 l) [b];rw[<-Y];refine⟨by rw[a];exact h,.inr ⟨b,C,vs2,by rw[a],rfl,hH,(fun e=>by cases e),k1,by rw[k2,A];exact(Nat.mul_one C).symm,by rw[a];exact u,S,fun i y o=> ?_⟩⟩;have:=k3 i y o;simpa[Ty.rd,Ty.size] using this
end Go.X
