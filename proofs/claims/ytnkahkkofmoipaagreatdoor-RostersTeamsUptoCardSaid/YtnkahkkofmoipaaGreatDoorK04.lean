/-
  Part 4 of the road: a checked reading of bodies, and what the functions on it do (X24 X27 X28 X29 X30 X31 X32 X33 X34 X35 X36 X37 X38 X39 X40 X41 X42 X43 X44 X47 X45 X46).
-/
import Derived.Test.YtnkahkkofmoipaaGreatDoorK03
import Derived.Laws.StructEq
import Derived.ChangeKeysEq
import Derived.TacticsIn
import Derived.OrdersIn
import Derived.RangeFuncIn
import Derived.RangeFuncRecord
import Derived.RangeFuncSeq
import Derived.RangeFuncLeaves
import Derived.Shelf.SlSortCmp.NoneTotal
import Derived.Shelf.SlSortCmp.WholeK
import Derived.Shelf.Sort.Plain
import Derived.Shelf.Slices.In.SortNone
namespace Go.X
open Go.RowKit (Below)
def jbS (a b:IntKind):Bool:=decide (a=b)
def jp1:Value→Value→Bool
  | .int k n,.int k' n'=>(match jbS k k' with|true=>decide (n=n')|false=>false)
  | .bool b,.bool b'=>(match b,b' with|true,true=>true|false,false=>true|_,_=>false)
  | .slice none a b,.slice none a' b'=>(match Nat.beq a a',Nat.beq b b' with|true,true=>true|_,_=>false)
  | .pointer none,.pointer none=>true
  | .map none,.map none=>true
  | .nilFunc,.nilFunc=>true
  | .nilIface,.nilIface=>true
  |_,_=>false
theorem jbR {a b:Value} (h:jp1 a b=true):a=b:=by
  unfold jp1 at h
  split at h
  · split at h
    · rename_i hk;simp[jbS] at hk h;rw[hk,h]
    · cases h
  · rename_i x y;cases x<;>cases y<;>simp_all
  · split at h
    · rename_i h1 h2;rw[jGP h1,jGP h2]
    · cases h
  · rfl
  · rfl
  · rfl
  · rfl
  · cases h
def jvM:List Value→List Value→Bool
  |[],[]=>true
  |a::r,b::s=>(match jp1 a b with|true=>jvM r s|false=>false)
  |_,_=>false
theorem jrG:∀{a b:List Value},jvM a b=true→a=b
  |[],[],_=>rfl
  |a::r,b::s,h=>by
    simp only[jvM] at h
    split at h
    · rename_i h1;rw[jbR h1,jrG h]
    · cases h
  |[],_::_,h=>by cases h
  |_::_,[],h=>by cases h
def jGa:Bool→Bool→Bool
  |true,true=>true
  |false,false=>true
  |_,_=>false
theorem jA0 {a b:Bool} (h:jGa a b=true):a=b:=by cases a<;>cases b<;>simp_all [jGa]
def jer:List Field→List (Nat×Nat)→Bool
  |[],[]=>true
  |f::r,p::s=>(match Nat.beq f.offset p.1,Nat.beq f.type p.2 with|true,true=>jer r s|_,_=>false)
  |_,_=>false
theorem jhl:∀{a:List Field} {b:List (Nat×Nat)},jer a b=true→a.length=b.length∧∀(k:Nat) (p:Nat×Nat),b[k]? =some p→∃f:Field,a[k]? =some f∧f.offset=p.1∧f.type=p.2
  |[],[],_=>⟨rfl,fun k p h=>by simp at h⟩
  |f::r,q::s,h=>by
    simp only[jer] at h
    split at h
    · rename_i h1 h2
      obtain⟨e1,e2⟩:=jhl h
      refine⟨by simp[e1],fun k p hk=> ?_⟩
      cases k with
      |zero=>simp at hk;subst hk;exact⟨f,by simp,jGP h1,jGP h2⟩
      |succ k=>simpa using e2 k p (by simpa using hk)
    · cases h
  |[],_::_,h=>by cases h
  |_::_,[],h=>by cases h
def js6 (P:Program) (go:Nat→Ty→Bool):List Field→Nat→Ty→Bool
  |[],_,.unit=>true
  |f::fs,off,.pair a b=>match f.name== "_",Nat.beq f.offset off,P.info? f.type,go f.type a with
    |false,true,some i,true=>(match Nat.beq i.size a.size with|true=>js6 P go fs (off+a.size) b|false=>false)
    |_,_,_,_=>false
  |_,_,_=>false
def jbp (P:Program):Nat→Nat→Ty→Bool
  |0,_,_=>false
  |d+1,T,ty=>match ty,P.underlying T with
    | .int,some (.int .i64)=>true
    | .bool,some .bool=>true
    | .uint k,some (.int k')=>jbS k k'
    | .pair a b,some (.struct fs)=>(match P.stoodInHeld T with|false=>js6 P (jbp P d) fs.toList 0 (.pair a b)|true=>false)
    |_,_=>false
section
variable {P:Program}
def jDq (P:Program) (D T:Nat) (ty:Ty):Prop:=∀(H:Imm) (w:World) (x y:Value) (a b:ty.Data),ty.rv H x a→ty.rv H y b→(Op.equalIn D T x y).run P w= .ok (@decide (a=b) (ty.decEq a b)) w
theorem jwm {a b:Ty} (x y:(Ty.pair a b).Data): @decide (x=y) ((Ty.pair a b).decEq x y)=(@decide (x.1=y.1) (a.decEq _ _)&& @decide (x.2=y.2) (b.decEq _ _)):=by
  have e:= @Prod.ext_iff _ _ x y;by_cases h1:x.1=y.1<;>by_cases h2:x.2=y.2
  · rw[@decide_eq_true _ (_) (e.2 ⟨h1,h2⟩),@decide_eq_true _ (_) h1,@decide_eq_true _ (_) h2];rfl
  · rw[@decide_eq_false _ (_) (fun h=>h2 (e.1 h).2),@decide_eq_true _ (_) h1,@decide_eq_false _ (_) h2];rfl
  · rw[@decide_eq_false _ (_) (fun h=>h1 (e.1 h).1),@decide_eq_false _ (_) h1];rfl
  · rw[@decide_eq_false _ (_) (fun h=>h1 (e.1 h).1),@decide_eq_false _ (_) h1];rfl
theorem jz4 {d T:Nat} {ty:Ty} (h:jbp P d T ty=true) (w:World):(isAgg T).run P w= .ok ty.agg w:=by
  cases d with
  |zero=>cases h
  |succ d=>
    unfold jbp at h
    split at h
    · rename_i e;simp[isAgg,run_underlying e,Ty.agg]
    · rename_i e;simp[isAgg,run_underlying e,Ty.agg]
    · rename_i e;simp[isAgg,run_underlying e,Ty.agg]
    · rename_i e;simp[isAgg,run_underlying e,Ty.agg]
    · cases h
theorem jt8 {d T off:Nat} {ty:Ty} {i:TypeInfo} (h:jbp P d T ty=true) (hi:P.info? T=some i) (hs:i.size=ty.size) {H:Imm} {xs:Array Value} {x:ty.Data} (hx:ty.rd H (fun j=>xs[off+j]?) x)
    (hlen:off+ty.size≤xs.size) (w:World):∃v,(part T xs off).run P w= .ok v w∧ty.rv H v x:=by
  have e1:=jz4 h w;have e2:(sizeOf T).run P w= .ok ty.size w:=(by simp[sizeOf,typeInfo,hi,hs]);cases ha:ty.agg with
  |true=>
    refine⟨.agg (xs.extract off (off+ty.size)),?_,?_,?_,?_⟩
    · rw[ha] at e1;simp[part,e1,e2]
    · simp[kJ,ha]
    · simp[Value.cells];omega
    · refine Ty.rd_congr ty _ _ _ (fun j hj=> ?_) hx;simp only[Value.cells];rw[Array.getElem?_extract];rw[if_pos (by omega)]
  |false=>
    have hsz:ty.size=1:=by
      cases d with
      |zero=>cases h
      |succ d=>
        unfold jbp at h
        split at h<;>first|(cases h;done)|rfl|(simp[Ty.agg] at ha;done)
    have hget:xs[off]? =some xs[off]:=jHe (by omega);refine⟨xs[off],?_,?_⟩
    · rw[ha] at e1;simp[part,e1,hget]
    · exact kl ha (Ty.rd_congr ty _ _ _ (fun j hj=>by
        have:j=0:=(by omega);subst this;simp[hget]) hx)
theorem jnc {d D:Nat} (hgo:∀T ty,jbp P d T ty=true→jDq P D T ty) {H:Imm} {xs ys:Array Value} (w:World):∀(fs:List Field) (off:Nat) (ty:Ty),js6 P (jbp P d) fs off ty=true→
    ∀x y:ty.Data,ty.rd H (fun j=>xs[off+j]?) x→ty.rd H (fun j=>ys[off+j]?) y→off+ty.size≤xs.size→off+ty.size≤ys.size→
      (Op.eqFields D xs ys fs).run P w= .ok (@decide (x=y) (ty.decEq x y)) w
  |[],off,ty,h,x,y,hx,hy,_,_=>by
    cases ty with
    |unit=>simp[Op.eqFields]
    |_=>cases h
  |f::fs,off,ty,h,x,y,hx,hy,hlx,hly=>by
    cases ty with
    |pair a b=>
      simp only[js6] at h
      split at h
      case h_2=>cases h
      rename_i i h1 h2 h3 h4
      split at h
      case h_2=>cases h
      rename_i h5
      have e5:=jGP h5
      have e2:=jGP h2
      simp only[Ty.size] at hlx hly
      obtain⟨v,p1,p2⟩:=jt8 (off:=off) h4 h3 e5 (xs:=xs) (x:=x.1) hx.1 (by omega) w
      obtain⟨u,q1,q2⟩:=jt8 (off:=off) h4 h3 e5 (xs:=ys) (x:=y.1) hy.1 (by omega) w
      have he:=hgo _ _ h4 H w v u x.1 y.1 p2 q2
      have hr:=jnc hgo w fs (off+a.size) b h x.2 y.2 (by
        refine Ty.rd_congr b _ _ _ (fun j _=> ?_) hx.2
        rw[jHZ]) (by
        refine Ty.rd_congr b _ _ _ (fun j _=> ?_) hy.2
        rw[jHZ]) (by omega) (by omega)
      have hname:f.name≠ "_":=by simpa using h1
      rw[jwm]
      unfold Op.eqFields
      rw[if_pos hname,e2]
      simp only[Sem.run_bind,p1,q1,he,Result.andThen_ok,Sem.run_ite]
      cases hd: @decide (x.1=y.1) (a.decEq x.1 y.1) with
      |true=>simpa using hr
      |false=>simp
    |_=>cases h
theorem jgE:∀(d:Nat) (T:Nat) (ty:Ty) (m:Nat),jbp P d T ty=true→jDq P (d+m) T ty
  |0,_,_,_,h=>by cases h
  |d+1,T,ty,m,h=>by
    intro H w x y a b hx hy
    rw[show d+1+m=(d+m)+1 by omega]
    unfold jbp at h
    split at h
    · rename_i e
      rw[zl hx,zl hy,run_equalIn_int w _ _ _ _ _ _ e]
      congr 1
    · rename_i e
      rw[zG hx,zG hy,run_equalIn_bool' w _ _ _ _ e]
      congr 1
    · rename_i k k' e
      rw[wR hx,wR hy,run_equalIn_int w _ _ _ _ _ _ e]
      congr 1
    · rename_i t u fs e
      split at h
      case h_2=>cases h
      rename_i hst
      have e':P.underlying T=some (.struct (P.fieldsOf T)):=by simp[Program.fieldsOf,e]
      have ef:(P.fieldsOf T)=fs:=by simp[Program.fieldsOf,e]
      obtain⟨x1,x2,x3⟩:=hx
      obtain⟨y1,y2,y3⟩:=hy
      have agg:∀{v:Value},kJ v=true→∃vs,v= .agg vs:=fun{v} h=>by cases v<;>simp_all [kJ]
      obtain⟨xs,rfl⟩:=agg x1
      obtain⟨ys,rfl⟩:=agg y1
      rw[run_equalIn_struct w _ _ _ _ e' hst,ef]
      simp only[Value.cells] at x2 x3 y2 y3
      exact jnc (D:=d+m) (fun T ty h=>jgE d T ty m h) w fs.toList 0 _ h a b (by simpa using x3) (by simpa using y3) (by omega) (by omega)
    · cases h
def zIs:Ty→List Value→Option (List Value)
  | .unit,l=>some l
  | .pair a b,l=>match zIs a l with|some r=>zIs b r|none=>none
  | .int,v::r=>match jp1 v (.int .i64 0) with|true=>some r|false=>none
  | .uint k,v::r=>match jp1 v (.int k 0) with|true=>some r|false=>none
  | .bool,v::r=>match jp1 v (.bool false) with|true=>some r|false=>none
  | .slice _,v::r=>match jp1 v (.slice none 0 0) with|true=>some r|false=>none
  | .map _ _,v::r=>match jp1 v (.map none) with|true=>some r|false=>none
  | .ptr _,v::r=>match jp1 v (.pointer none) with|true=>some r|false=>none
  |_,[]=>none
theorem jyl (H:Imm):∀(t:Ty) (l r:List Value),zIs t l=some r→∃us,l=us++r∧us.length=t.size∧t.rd H (fun i=>us[i]?) t.dflt
  | .unit,l,r,h=>by simp[zIs] at h;subst h;exact⟨[],rfl,rfl,trivial⟩
  | .pair a b,l,r,h=>by
    simp only[zIs] at h
    split at h
    · rename_i r1 h1
      obtain⟨us,rfl,u1,u2⟩:=jyl H a l r1 h1
      obtain⟨vs,rfl,v1,v2⟩:=jyl H b r1 r h
      refine⟨us++vs,by simp,by simp[Ty.size,u1,v1],?_,?_⟩
      · exact Ty.rd_congr a _ _ _ (fun i hi=>by rw[jG4 (by omega)]) u2
      · refine Ty.rd_congr b _ _ _ (fun i hi=> ?_) v2
        simp only
        rw[jG3 (by omega)]
        congr 1;omega
    · cases h
  | .int,[],r,h=>by cases h
  | .uint _,[],r,h=>by cases h
  | .bool,[],r,h=>by cases h
  | .slice _,[],r,h=>by cases h
  | .map _ _,[],r,h=>by cases h
  | .ptr _,[],r,h=>by cases h
  | .int,v::l,r,h=>by
    simp only[zIs] at h
    split at h
    · rename_i hv;simp at h;subst h;rw[jbR hv];exact⟨[_],rfl,rfl,rfl⟩
    · cases h
  | .uint k,v::l,r,h=>by
    simp only[zIs] at h
    split at h
    · rename_i hv;simp at h;subst h;rw[jbR hv];exact⟨[_],rfl,rfl,rfl⟩
    · cases h
  | .bool,v::l,r,h=>by
    simp only[zIs] at h
    split at h
    · rename_i hv;simp at h;subst h;rw[jbR hv];exact⟨[_],rfl,rfl,rfl⟩
    · cases h
  | .slice _,v::l,r,h=>by
    simp only[zIs] at h
    split at h
    · rename_i hv;simp at h;subst h;rw[jbR hv];exact⟨[_],rfl,rfl,jvT _⟩
    · cases h
  | .map _ _,v::l,r,h=>by
    simp only[zIs] at h
    split at h
    · rename_i hv;simp at h;subst h;rw[jbR hv];exact⟨[_],rfl,rfl,none,rfl,fun _=>rfl,fun b hb=>(by cases hb)⟩
    · cases h
  | .ptr _,v::l,r,h=>by
    simp only[zIs] at h
    split at h
    · rename_i hv;simp at h;subst h;rw[jbR hv];exact⟨[_],rfl,rfl,none,rfl,rfl⟩
    · cases h
def jC3:Value→Prop
  | .int _ _=>True
  | .bool _=>True
  |_=>False
theorem jnU {n:Nat} {v:Value} (h:jC3 v):Instr.sameBits n v v=true:=by
  cases v<;>first|exact h.elim|(cases n<;>simp[Instr.sameBits])
section
variable {P:Program}
def jEW (ty:Ty):Prop:=∀(H:Imm) (f g:Nat→Option Value) (d:ty.Data),ty.rd H f d→ty.rd H g d→∀i,i<ty.size→∃v,f i=some v∧g i=some v∧jC3 v
theorem jjI {go:Nat→Ty→Bool} (hgo:∀T ty,go T ty=true→jEW ty):∀(fs:List Field) (off:Nat) (ty:Ty),js6 P go fs off ty=true→jEW ty
  |[],off,ty,h=>by
    cases ty with
    |unit=>intro H f g d _ _ i hi;simp[Ty.size] at hi
    |_=>cases h
  |f::fs,off,ty,h=>by
    cases ty with
    |pair a b=>
      simp only[js6] at h
      split at h
      case h_2=>cases h
      rename_i i h1 h2 h3 h4
      split at h
      case h_2=>cases h
      intro H f' g d hf hg j hj
      simp only[Ty.size] at hj
      by_cases hja:j<a.size
      · exact hgo _ _ h4 H f' g d.1 hf.1 hg.1 j hja
      · obtain⟨v,k1,k2,k3⟩:=jjI hgo fs _ b h H _ _ d.2 hf.2 hg.2 (j-a.size) (by omega)
        have e:a.size+(j-a.size)=j:=by omega
        rw[e] at k1 k2
        exact⟨v,k1,k2,k3⟩
    |_=>cases h
theorem js5:∀(d T:Nat) (ty:Ty),jbp P d T ty=true→jEW ty
  |0,_,_,h=>by cases h
  |d+1,T,ty,h=>by
    unfold jbp at h
    split at h
    · intro H f g d hf hg i hi
      have:i=0:=by simp[Ty.size] at hi;exact hi
      subst this;exact⟨_,hf,hg,trivial⟩
    · intro H f g d hf hg i hi
      have:i=0:=by simp[Ty.size] at hi;exact hi
      subst this;exact⟨_,hf,hg,trivial⟩
    · intro H f g d hf hg i hi
      have:i=0:=by simp[Ty.size] at hi;exact hi
      subst this;exact⟨_,hf,hg,trivial⟩
    · split at h
      case h_2=>cases h
      exact jjI (fun T ty h=>js5 d T ty h) _ _ _ h
    · cases h
def jFZ (P:Program) (D T:Nat) (ty:Ty):Prop:=∀(H:Imm) (w:World) (x:Value) (a:ty.Data) (e:Bool),ty.rv H x a→(Instr.checkKey e D T x).run P w= .ok () w
theorem jo8 {d D:Nat} (hgo:∀T ty,jbp P d T ty=true→jFZ P D T ty) {H:Imm} {xs:Array Value} (e:Bool) (w:World):∀(fs:List Field) (off:Nat) (ty:Ty),js6 P (jbp P d) fs off ty=true→
    ∀x:ty.Data,ty.rd H (fun j=>xs[off+j]?) x→off+ty.size≤xs.size→(forIn (m:=Sem) fs PUnit.unit (fun f _=>
        if f.name≠ "_" then do
          let l ←part f.type xs f.offset
          Instr.checkKey e D f.type l
          pure (ForInStep.yield PUnit.unit)
        else pure (ForInStep.yield PUnit.unit))).run P w= .ok PUnit.unit w
  |[],off,ty,h,x,hx,_=>by simp
  |f::fs,off,ty,h,x,hx,hlx=>by
    cases ty with
    |pair a b=>
      simp only[js6] at h
      split at h
      case h_2=>cases h
      rename_i i h1 h2 h3 h4
      split at h
      case h_2=>cases h
      rename_i h5
      have e5:=jGP h5
      have e2:=jGP h2
      simp only[Ty.size] at hlx
      obtain⟨v,p1,p2⟩:=jt8 (off:=off) h4 h3 e5 (xs:=xs) (x:=x.1) hx.1 (by omega) w
      have he:=hgo _ _ h4 H w v x.1 e p2
      have hr:=jo8 hgo e w fs (off+a.size) b h x.2 (by
        refine Ty.rd_congr b _ _ _ (fun j _=> ?_) hx.2
        rw[jHZ]) (by omega)
      have hname:f.name≠ "_":=by simpa using h1
      rw[List.forIn_cons]
      simp only[Sem.run_bind,if_pos hname,e2,p1,Result.andThen_ok,he,Sem.run_pure]
      exact hr
    |_=>cases h
theorem jmE:∀(d:Nat) (T:Nat) (ty:Ty) (m:Nat),jbp P d T ty=true→jFZ P (d+m) T ty
  |0,_,_,_,h=>by cases h
  |d+1,T,ty,m,h=>by
    intro H w x a e hx
    rw[show d+1+m=(d+m)+1 by omega]
    unfold jbp at h
    split at h
    · rename_i u
      rw[zl hx];simp[Instr.checkKey,run_underlying u]
    · rename_i u
      rw[zG hx];simp[Instr.checkKey,run_underlying u]
    · rename_i u
      rw[wR hx];simp[Instr.checkKey,run_underlying u]
    · rename_i t u fs hu
      split at h
      case h_2=>cases h
      obtain⟨x1,x2,x3⟩:=hx
      have agg:∀{v:Value},kJ v=true→∃vs,v= .agg vs:=fun{v} h=>by cases v<;>simp_all [kJ]
      obtain⟨xs,rfl⟩:=agg x1
      simp only[Value.cells] at x2 x3
      have:=jo8 (D:=d+m) (fun T ty h=>jmE d T ty m h) e w fs.toList 0 _ h a (by simpa using x3) (by omega)
      unfold Instr.checkKey
      simp only[Sem.run_bind,run_underlying hu,Result.andThen_ok]
      rw[←Array.forIn_toList,this]
      rfl
    · cases h
theorem jm0 {H:Imm} (a:Int):∀(es:List MapEntry) (ks:List Int) (i:Nat),jpz H .int es ks→Instr.findNow (.int .i64) (.int .i64 a) es i=some (yB .int a ks es i)
  |[],[],i,_=>rfl
  |[],_::_,_,h=>h.elim
  |_::_,[],_,h=>h.elim
  |e::es,k::ks,i,h=>by
    have he:=zl h.1
    simp only[Instr.findNow,he,Instr.sameNow,if_true,yB]
    by_cases hk:a=k
    · have:(a==k)=true:=by simpa using hk
      rw[this,if_pos (by simpa using hk)]
    · have:(a==k)=false:=by simpa using hk
      rw[this,if_neg (by simpa using hk)]
      exact jm0 a es ks (i+1) h.2
theorem jcG {H:Imm} {T:Nat} {ty:Ty} (hc:jbp P 20 T ty=true) {x:Value} {a:ty.Data} (hx:ty.rv H x a) (w:World):∀(es:List MapEntry) (ks:List ty.Data) (i:Nat),jpz H ty es ks→
    (Instr.findAsking T x es i).run P w= .ok (yB ty a ks es i) w
  |[],[],i,_=>by simp[Instr.findAsking,yB]
  |[],_::_,_,h=>h.elim
  |_::_,[],_,h=>h.elim
  |e::es,k::ks,i,h=>by
    have he:(Op.equal T x e.key).run P w= .ok (@decide (a=k) (ty.decEq a k)) w:=jgE 20 T ty 9980 hc H w x e.key a k hx h.1
    unfold Instr.findAsking yB
    simp only[Sem.run_bind,he,Result.andThen_ok,Sem.run_ite]
    split
    · simp
    · exact jcG hc hx w es ks (i+1) h.2
def jEf (P:Program) (T:Nat) (ty:Ty):Bool:=match ty,P.underlying T with
  | .int,some (.int .i64)=>true
  | .pair _ _,some (.struct _)=>jbp P 20 T ty
  |_,_=>false
theorem jus {T:Nat} {ty:Ty} (h:jEf P T ty=true):
    (∀(H:Imm) (x:Value) (a:ty.Data) (w:World) (e:Bool),ty.rv H x a→(Instr.checkKey e 10000 T x).run P w= .ok () w)∧
    (∀(H:Imm) (es:List MapEntry) (ks:List ty.Data) (x:Value) (a:ty.Data) (w:World),ty.rv H x a→jpz H ty es ks→(Instr.findKey T x es).run P w= .ok (yB ty a ks es 0) w)∧
    (∀(H:Imm) (x y:Value) (a:ty.Data),ty.rv H x a→ty.rv H y a→Instr.sameBits 10000 x y=true):=by
  unfold jEf at h
  split at h
  · rename_i hu;have hc:jbp P 20 T .int=true:=(by unfold jbp;rw[hu]);refine⟨fun H x a w e hx=>jmE 20 T .int 9980 hc H w x a e hx,fun H es ks x a w hx hk=> ?_,fun H x y a hx hy=> ?_⟩
    · rw[zl hx];simp only[Instr.findKey,Sem.run_bind,run_underlying hu,Result.andThen_ok,jm0 a es ks 0 hk,Sem.run_pure]
    · rw[zl hx,zl hy];simp[Instr.sameBits]
  · rename_i t u fs hu;have hc:=h;refine⟨fun H x a w e hx=>jmE 20 T _ 9980 hc H w x a e hx,fun H es ks x a w hx hk=> ?_,fun H x y a hx hy=> ?_⟩
    · have hfa:=jcG hc hx w es ks 0 hk;simp only[Instr.findKey,Sem.run_bind,run_underlying hu,Result.andThen_ok];cases es with
      |nil=>
        cases ks with
        |nil=>simp[Instr.findNow,yB]
        |cons k ks=>exact hk.elim
      |cons e es=>
        have:Instr.findNow (.struct fs) x (e::es) 0=none:=(by simp[Instr.findNow,Instr.sameNow]);rw[this];exact hfa
    · have hp:=js5 20 T _ hc H;have agg:∀{v:Value},kJ v=true→∃vs,v= .agg vs:=fun{v} h=>by cases v<;>simp_all [kJ]
      obtain⟨xs,rfl⟩:=agg hx.1;obtain⟨ys,rfl⟩:=agg hy.1;have x2:=hx.2.1;have y2:=hy.2.1;simp only[Value.cells] at x2 y2;have hpl:=hp (fun i=>xs[i]?) (fun i=>ys[i]?) a hx.2.2 hy.2.2;have hxy:xs=ys:=by
        refine Array.ext (by omega) (fun i h1 h2=> ?_);obtain⟨v,e1,e2,_⟩:=hpl i (by omega);rw[jHe h1] at e1;rw[jHe h2] at e2;simp at e1 e2;rw[e1,e2]
      subst hxy;unfold Instr.sameBits;simp only[beq_self_eq_true,Bool.true_and,jHo];intro p hp';obtain⟨i,hi⟩:=jH5 hp';rw[List.getElem?_zip_eq_some] at hi;obtain⟨h1,h2⟩:=hi;have e:p.1=p.2:=(by rw[h1] at h2;simpa using h2);rw[←e];have hlt:=(jGW.1 h1).1;obtain⟨v,e1,_,e3⟩:=hpl i (by simp at hlt;omega);have:xs.toList[i]? =some v:=(by simpa using e1);rw[h1] at this;simp at this;rw[this];exact jnU e3
  · cases h
end
def jid (e:Nat):List (Nat×Nat)→Nat→Bool
  |[],_=>true
  |p::r,k=>match Nat.beq p.1 k,Nat.beq p.2 e with
    |true,true=>jid e r (k+1)
    |_,_=>false
theorem jic {e:Nat}:∀(l:List (Nat×Nat)) (k:Nat),jid e l k=true→∀(j:Nat) (p:Nat×Nat),l[j]? =some p→p=(k+j,e)
  |[],_,_,j,p,h=>by simp at h
  |q::l,k,h,j,p,hj=>by
    simp only[jid] at h
    split at h
    case h_2=>cases h
    rename_i h1 h2
    cases j with
    |zero=>
      simp at hj;subst hj
      exact Prod.ext (jGP h1) (jGP h2)
    |succ j=>
      have:=jic l (k+1) h j p (by simpa using hj)
      rw[this];congr 1;omega
def jER (P:Program) (ti:TI) (n e:Nat):Bool:=Nat.beq e ti.elem&&(match P.info? e with|some ie=>Nat.beq ie.size 1|none=>false)&&Nat.beq ti.fields.length n&&Nat.beq ti.size n&&Nat.ble n 1000000&&jid e ti.fields 0
def jjW:Ty→Nat→Bool
  | .unit,0=>true
  | .pair .int r,n+1=>jjW r n
  |_,_=>false
theorem jz6 {e D:Nat} (he:P.underlying e=some (.int .i64)) (hc:P.cellsOf e=1) {H:Imm} (w:World):∀(n off:Nat) (ty:Ty) (xs ys:Array Value) (x y:ty.Data),jjW ty n=true→ty.rd H (fun j=>xs[off+j]?) x→ty.rd H (fun j=>ys[off+j]?) y→
    (Op.eqItems (D+1) e 1 xs ys (List.range' off n)).run P w= .ok (@decide (x=y) (ty.decEq x y)) w
  |0,off,ty,xs,ys,x,y,h,_,_=>by
    cases ty with
    |unit=>simp[Op.eqItems]
    |_=>simp[jjW] at h
  |n+1,off,ty,xs,ys,x,y,h,hx,hy=>by
    cases ty with
    |pair a b=>
      cases a with
      |int=>
        simp only[jjW] at h
        have h1:xs[off]? =some (.int .i64 x.1):=by have:=hx.1;simpa[Ty.rd] using this
        have h2:ys[off]? =some (.int .i64 y.1):=by have:=hy.1;simpa[Ty.rd] using this
        have ih:=jz6 (D:=D) he hc w n (off+1) b xs ys x.2 y.2 h (by
          refine Ty.rd_congr b _ _ _ (fun j _=> ?_) hx.2
          simp only[Ty.size];rw[jHZ]) (by
          refine Ty.rd_congr b _ _ _ (fun j _=> ?_) hy.2
          simp only[Ty.size];rw[jHZ])
        rw[List.range'_succ]
        have hag:(isAgg e).run P w= .ok false w:=by simp[isAgg,run_underlying he]
        have p1:(part e xs (off*1)).run P w= .ok (.int .i64 x.1) w:=by simp[part,hag,h1]
        have p2:(part e ys (off*1)).run P w= .ok (.int .i64 y.1) w:=by simp[part,hag,h2]
        simp only[Op.eqItems,Sem.run_bind,p1,p2,Result.andThen_ok,run_equalIn_int w _ _ _ _ _ _ he]
        rw[jwm]
        cases hd:(x.1==y.1) with
        |true=>
          have e1:x.1=y.1:=by simpa using hd
          rw[@decide_eq_true _ (_) e1]
          simpa using ih
        |false=>
          have e1:x.1≠y.1:=by simpa using hd
          rw[@decide_eq_false _ (_) e1]
          simp
      |_=>simp[jjW] at h
    |_=>simp[jjW] at h
def jqw:TypeDesc→Bool
  | .struct _=>true
  | .array _ _=>true
  | .interface _=>true
  |_=>false
def jF1 (P:Program) (ti:TI):Bool:=
  match P.info? ti.id,P.underlying ti.id with
  |some i,some d=>match i.zero with
    |some z=>(Nat.beq i.size ti.size&&Nat.beq i.bytes ti.bytes&&jvM z.cells.toList ti.zero&&jGa (kJ z) ti.agg&&ti.zero.all (·.oneCell')&&Nat.beq ti.zero.length ti.size)&&
      (ti.fields.all fun p=>(P.info? p.2).isSome)&&
      (match ti.agg with
        |true=>(match ti.arr,d with|false,.struct fs=>jer fs.toList ti.fields|true,.array n e=>jER P ti n e|_,_=>false)&& !ti.sl
        |false=> !(jqw d)&& !ti.arr&&(match ti.sl,d with|true,.slice e=>Nat.beq e ti.elem|true,_=>false|false,_=>true)&&
            (match ti.ty,d with| .int,.int .i64=>true| .int,_=>false| .uint k,.int k'=>jbS k k'| .uint _,_=>false|_,_=>true)&&(match ti.fields with|[]=>true|_=>false))&&
      (match zW ti.ty with|true=>jGa ti.ty.agg ti.agg&&Nat.beq ti.ty.size ti.size&&Nat.ble 1 ti.size&&Nat.ble 1 ti.bytes|false=>true)&&
      (match ti.cmp with
        |true=>(match ti.arr with
          |true=>(match d with| .array n _=>jjW ti.ty n|_=>false)&&(match P.underlying ti.elem with|some (.int .i64)=>true|_=>false)&& !(P.eqGuardType P.depth ti.id)
          |false=>(match ti.ty with| .pair _ _=> !(P.eqGuardType P.depth ti.id)| .bool=>true|_=>false)&&jbp P 20 ti.id ti.ty)
        |false=>true)&&
      (match ti.mp,d with|true,.map k e=>Nat.beq k ti.key&&Nat.beq e ti.elem|true,_=>false|false,_=>true)&&
      (match ti.pt,d with|true,.pointer _=>true|true,_=>false|false,_=>true)&&(match ti.fk,d with|true,.func _ _ _=>true|true,_=>false|false,_=>true)&&
      (match zW ti.ty with|true=>(match zIs ti.ty ti.zero with|some []=>true|_=>false)|false=>true)&&
      (match ti.kq with|true=>jEf P ti.id ti.ty|false=>true)
    |none=>false
  |_,_=>false
theorem jDG {ti:TI} (h:jF1 P ti=true):ti.ok P:=by
  unfold jF1 at h
  split at h
  case h_2=>cases h
  rename_i i d hi hd
  split at h
  case h_2=>cases h
  rename_i z hz;simp only[jGT] at h;obtain⟨⟨⟨⟨⟨⟨⟨⟨⟨⟨⟨⟨⟨⟨a1,a2⟩,a3⟩,a4⟩,a5⟩,a6⟩,a7⟩,a8⟩,a9⟩,a10⟩,a11⟩,ap⟩,af⟩,a12⟩,a13⟩:=h;refine⟨⟨i,z,hi,jGP a1,jGP a2,hz,jrG a3,jA0 a4⟩,fun v hv=>jHo.1 a5 v hv,jGP a6,?_,?_,?_,?_,?_,?_,?_,?_,?_,?_,?_,?_,?_,?_⟩
  · intro ha har;rw[ha] at a8;simp only[jGT,har] at a8
    split at a8
    · rename_i fs _;obtain⟨e1,e2⟩:=jhl a8.1;exact⟨fs,hd,by simpa using e1,fun k p hk=>by simpa using e2 k p hk⟩
    · contradiction
    · cases a8.1
  · intro har;cases ha:ti.agg with
    |false=>rw[ha] at a8;simp[har] at a8
    |true=>
      rw[ha] at a8;simp only[jGT,har] at a8
      split at a8
      · contradiction
      · rename_i n e _;unfold jER at a8;simp only[jGT] at a8;obtain⟨⟨⟨⟨⟨⟨b1,b2⟩,b3⟩,b4⟩,b5⟩,b6⟩,_⟩:=a8;have b1:=jGP b1;subst b1
        split at b2
        case h_2=>cases b2
        rename_i ie hie;exact⟨rfl,n,ie,hd,hie,jGP b2,jGP b3,jGP b4,jG6 b5,fun k p hk=>by have:=jic _ _ b6 k p hk;simpa using this⟩
      · cases a8.1
  · intro k p hk;have:=jHo.1 a7 p (jHP hk);exact Option.isSome_iff_exists.1 this
  · intro ha;rw[ha] at a8;simp only[jGT,jHt] at a8;obtain⟨⟨⟨⟨b1,b1'⟩,b2⟩,b3⟩,b4⟩:=a8;refine⟨d,hd,fun fs e=>by subst e;simp[jqw] at b1,fun n e he=>by subst he;simp[jqw] at b1,fun ms e=>by subst e;simp[jqw] at b1,fun hs=> ?_,fun ht=> ?_,fun k ht=> ?_⟩
    · rw[hs] at b2
      split at b2
      · rw[jGP b2]
      · cases b2
      · contradiction
    · rw[ht] at b3;cases d with
      |int k=>cases k<;>first|rfl|cases b3
      |_=>cases b3
    · rw[ht] at b3;cases d with
      |int k'=>simp[jbS] at b3;rw[b3]
      |_=>cases b3
  · intro hs;cases ha:ti.agg with
    |false=>rfl
    |true=>rw[ha] at a8;simp[hs] at a8
  · intro hm;rw[hm] at ap;cases d with
    |pointer e=>exact⟨e,hd⟩
    |_=>cases ap
  · intro hm;rw[hm] at af;cases d with
    |func a b c=>exact⟨a,b,c,hd⟩
    |_=>cases af
  · intro hm;rw[hm] at a11;cases d with
    |map k e=>simp only[jGT] at a11;rw[hd,jGP a11.1,jGP a11.2]
    |_=>cases a11
  · intro hk H;rw[hk] at a12;simp only at a12
    split at a12
    · rename_i hz;obtain⟨us,e1,_,e3⟩:=jyl H _ _ _ hz;rw[jHf] at e1;rw[e1];exact e3
    · cases a12
  · intro hk;rw[hk] at a13;exact jus a13
  · intro ha;rw[ha] at a8;simp only[jGT] at a8;have:=a8.2
    split at this
    · assumption
    · cases this
  · intro hk;rw[hk] at a9;simp only[jGT] at a9;exact⟨jA0 a9.1.1.1,jGP a9.1.1.2⟩
  · intro hk;rw[hk] at a9;simp only[jGT] at a9;exact⟨jG6 a9.1.2,jG6 a9.2⟩
  · intro hc H x y a b w hx hy op X Y hop;rw[hc] at a10;simp only[jGT] at a10;cases har:ti.arr with
    |true=>
      rw[har] at a10;simp only[jGT,jHt] at a10;obtain⟨⟨c1,c2⟩,c3⟩:=a10
      split at c1
      case h_2=>cases c1
      rename_i n e
      split at c2
      case h_2=>cases c2
      rename_i hue;have a8':∃ie,e=ti.elem∧P.info? e=some ie∧ie.size=1:=by
        cases ha:ti.agg with
        |false=>rw[ha] at a8;simp[har] at a8
        |true=>
          rw[ha] at a8;simp only[jGT,har] at a8;have a8:=a8.1;unfold jER at a8;simp only[jGT] at a8;obtain⟨⟨⟨⟨⟨b1,b2⟩,b3⟩,b4⟩,b5⟩,b6⟩:=a8
          split at b2
          case h_2=>cases b2
          rename_i ie hie;exact⟨ie,jGP b1,hie,jGP b2⟩
      obtain⟨ie,rfl,hie,hs1⟩:=a8';have hcells:P.cellsOf ti.elem=1:=(by simp[Program.cellsOf,hie,hs1]);have agg:∀{v:Value},kJ v=true→∃vs,v= .agg vs:=fun{v} h=>by cases v<;>simp_all [kJ]
      have hta:ti.ty.agg=true:=by
        cases ht:ti.ty with
        |unit=>rfl
        |pair a b=>rfl
        |_=>rw[ht] at c1;simp[jjW] at c1
      obtain⟨xs,rfl⟩:=agg (hx.1.trans hta);obtain⟨ys,rfl⟩:=agg (hy.1.trans hta);have he:(Op.equalIn 10000 ti.id (.agg xs) (.agg ys)).run P w= .ok (@decide (a=b) (ti.ty.decEq a b)) w:=by
        rw[run_equalIn_array w 9999 xs ys hd hie,hcells,List.range_eq_range'];exact jz6 (D:=9998) hue hcells w n 0 ti.ty xs ys a b c1 (by simpa[Value.cells] using hx.2.2) (by simpa[Value.cells] using hy.2.2)
      rcases hop with rfl|rfl
      · simp only[Sem.run_bind,run_eqGuard_agg w _ _ _ _ _ _ c3,Result.andThen_ok,run_eql_struct w,he]
      · simp only[Sem.run_bind,run_eqGuard_agg w _ _ _ _ _ _ c3,Result.andThen_ok,run_neq_struct w,he]
    |false=>
    rw[har] at a10;simp only[jGT] at a10;obtain⟨c1,c2⟩:=a10;have he:=jgE 20 ti.id ti.ty 9980 c2 H w x y a b hx hy;rcases ti with⟨id,ty,size,agg,fields,sl,elem,bytes,zero,cmp⟩;simp only at*
    split at c1
    · rename_i t u;have agg:∀{v:Value},kJ v=true→∃vs,v= .agg vs:=fun{v} h=>by cases v<;>simp_all [kJ]
      obtain⟨xs,rfl⟩:=agg hx.1;obtain⟨ys,rfl⟩:=agg hy.1;simp only[jHt] at c1;rcases hop with rfl|rfl
      · simp only[Sem.run_bind,run_eqGuard_agg w _ _ _ _ _ _ c1,Result.andThen_ok,run_eql_struct w,he]
      · simp only[Sem.run_bind,run_eqGuard_agg w _ _ _ _ _ _ c1,Result.andThen_ok,run_neq_struct w,he]
    · have ex:=zG hx;have ey:=zG hy;subst ex;subst ey;have he':(Op.equal id (.bool a) (.bool b)).run P w= .ok (@decide (a=b) (Ty.bool.decEq a b)) w:=he;rcases hop with rfl|rfl
      · have g:(eqGuard .eql id X Y (.bool a) (.bool b)).run P w= .ok () w:=(by simp[eqGuard]);have g2:binOp .eql id (.bool a) (.bool b)=(do pure (.bool (←Op.equal id (.bool a) (.bool b)))):=rfl;simp only[Sem.run_bind,g,Result.andThen_ok,g2,he',Sem.run_pure]
      · have g:(eqGuard .neq id X Y (.bool a) (.bool b)).run P w= .ok () w:=(by simp[eqGuard]);have g2:binOp .neq id (.bool a) (.bool b)=(do pure (.bool (!(←Op.equal id (.bool a) (.bool b))))):=rfl;simp only[Sem.run_bind,g,Result.andThen_ok,g2,he',Sem.run_pure]
    · cases c1
theorem jyt {l:List TI} (h:l.all (jF1 P)=true):∀T x,jsM l T=some x→x.id=T∧x.ok P:=by
  induction l with
  |nil=>intro T x hx;simp[jsM] at hx
  |cons t r ih=>
    intro T x hx;simp only[List.all_cons,jGT] at h;simp only[jsM] at hx
    split at hx
    · rename_i hb;simp at hx;subst hx;exact⟨jGP hb,jDG h.1⟩
    · exact ih h.2 T x hx
end
end Go.X
namespace Go.X
open Go.RowKit (Below)
inductive Cl where
  |dat (t:Ty)
  |row (E:Nat) (t:Ty) (nl:Nl)
  |map (kt vt:Ty)
@[reducible] def Cl.D:Cl→Type
  | .dat t=>t.Data
  | .row _ t _=>List t.Data
  | .map k v=>List (k.Data×v.Data)
@[reducible] def Cl.Ds:List Cl→Type
  |[]=>Unit
  |c::r=>c.D×Cl.Ds r
inductive Sh where
  |cl (c:Cl)
  |box (T:Nat) (cs:List Cl)
  |fbox (f T:Nat) (cs:List Cl)--a closure that captured a pointer to such a block
@[reducible] def Sh.D:Sh→Type
  | .cl c=>c.D
  | .box _ cs=>Cl.Ds cs
  | .fbox _ _ cs=>Cl.Ds cs
def jyA:Nl→Nl→Bool
  | .unk,_=>true
  | .no,.no=>true
  |_,_=>false
def jAo (σ:St):(c:Cl)→SV→Option (c.D×List Nat×List Nat)
  | .dat t,v=>match qH σ t v with
    |some (x,f)=>some (x,[],f)
    |none=>none
  | .row E t nl,.own o _=>match σ.obj o with
    |some (.row E' t' false nl' l)=>match Nat.beq E E',jyB nl nl',zg (.slice t') (.slice t) l with
      |true,true,some l'=>some (l',[o],[])
      |_,_,_=>none
    |_=>none
  | .row E t nl,.osl o _ 0 n=>match σ.obj o with
    |some (.row E' t' false nl' l)=>match Nat.beq E E',jyA nl nl',zg (.slice t') (.slice t) l with
      |true,true,some l'=>some (l'.take n,[o],[])
      |_,_,_=>none
    |_=>none
  | .row _ _ nl,.lit v=>match zc v,nl with
    |true,.no=>none
    |true,_=>some ([],[],[])
    |false,_=>none
  | .map kt vt,.mp o=>match σ.obj o with
    |some (.map false kt' vt' l)=>match zg (.map kt' vt') (.map kt vt) l with
      |some l'=>some (l',[o],[])
      |none=>none
    |_=>none
  |_,_=>none
def jjX (σ:St):(cs:List Cl)→List SV→Option (Cl.Ds cs×List Nat×List Nat)
  |[],[]=>some ((),[],[])
  |c::cs,v::vs=>match jAo σ c v with
    |some (x,os,f)=>match jjX σ cs vs with
      |some (y,os',f')=>some ((x,y),os++os',f++f')
      |none=>none
    |none=>none
  |_,_=>none
def jsF (σ:St):(s:Sh)→SV→Option (s.D×List Nat×List Nat)
  | .cl c,v=>jAo σ c v
  | .box T cs,.bp o 0=>match σ.obj o with
    |some (.box T' false vs)=>match Nat.beq T T',jjX σ cs vs with
      |true,some (x,os,f)=>some (x,o::os,f)
      |_,_=>none
    |_=>none
  | .fbox g T cs,.clo g' [.bp o 0]=>match σ.obj o with
    |some (.box T' false vs)=>match Nat.beq g' g,Nat.beq T T',jjX σ cs vs with
      |true,true,some (x,os,f)=>some (x,o::os,f)
      |_,_,_=>none
    |_=>none
  |_,_=>none
def ClV (H:Imm) (w:World):(c:Cl)→Value→c.D→List Nat→Prop
  | .dat t,v,x,bs=>t.rv H v x∧bs=[]
  | .row E t nl,v,x,bs=>x.length<4611686018427387904∧((v= .slice none 0 0∧x=[]∧nl≠.no∧bs=[])∨
      ∃b C vs,v= .slice (some ⟨b,0,none⟩) x.length C∧bs=[b]∧H b=none∧(nl= .yes→x≠[])∧w.heap[b]? =some (.cells vs E (0,0))∧vs.size=C*t.size∧x.length≤C∧C≤maxLen∧
        ∀i y,x[i]? =some y→t.rd H (fun j=>vs[i*t.size+j]?) y)
  | .map kt vt,v,x,bs=>∃b es clock,v= .map (some b)∧bs=[b]∧H b=none∧w.heap[b]? =some (.map es clock)∧jei H kt vt es clock x
def jCS (H:Imm) (w:World):(cs:List Cl)→List Value→Cl.Ds cs→List Nat→Prop
  |[],vs,_,bs=>vs=[]∧bs=[]
  |c::cs,v::vs,d,bs=>∃b1 b2,bs=b1++b2∧ClV H w c v d.1 b1∧v.oneCell'=true∧jCS H w cs vs d.2 b2
  |_::_,[],_,_=>False
def ShV (H:Imm) (w:World):(s:Sh)→Value→s.D→List Nat→Prop
  | .cl c,v,x,bs=>ClV H w c v x bs
  | .box T cs,v,x,bs=>∃b vs bs',v= .pointer (some ⟨b,0,none⟩)∧bs=b::bs'∧H b=none∧w.heap[b]? =some (.cells vs T (0,0))∧jCS H w cs vs.toList x bs'
  | .fbox f T cs,v,x,bs=>∃b vs bs',v= .func (.func f) #[] #[.pointer (some ⟨b,0,none⟩)]∧bs=b::bs'∧H b=none∧w.heap[b]? =some (.cells vs T (0,0))∧jCS H w cs vs.toList x bs'
section
variable {P:Program} {B:zF} {σ τ:St} {ρ:Env} {w:World}
theorem wO (ρ:Env):∀(a b:List Nat),j8 ρ (a++b)=j8 ρ a++j8 ρ b
  |[],b=>rfl
  |o::a,b=>by
    simp only[jHi,j8]
    split<;>simp[wO ρ a b]
theorem vH (hS:Sat P B ρ τ.obj w):∀(os:List Nat),os.Nodup→(j8 ρ os).Nodup
  |[],_=>by simp[j8]
  |o::r,h=>by
    rw[jHJ] at h
    simp only[j8]
    split
    · rename_i b C hb
      rw[jHJ]
      refine⟨fun hm=> ?_,vH hS r h.2⟩
      obtain⟨o',C',h1,h2⟩:=(jX r).1 hm
      have:=hS.inj o o' b C C' hb h2
      subst this
      exact h.1 h1
    · exact vH hS r h.2
def jji (σ τ:St) (os:List Nat):Prop:=∀o,o∈os→τ.obj o=σ.obj o
theorem jmU (hS:Sat P B ρ τ.obj w) {fz:List Nat} (hF:Frz σ τ fz) {c:Cl} {sv:SV} {x:c.D} {os f:List Nat} (h:jAo σ c sv=some (x,os,f)) (hf:∀o,o∈f→o∈fz) (hk:jji σ τ os)
    {v:Value} (hv:SV.den P ρ sv v):ClV ρ.H w c v x (j8 ρ os):=by
  unfold jAo at h
  split at h
  · split at h
    · rename_i x' f' hd;simp at h;obtain⟨rfl,rfl,rfl⟩:=h;exact⟨jM hS hF hd hf hv,rfl⟩
    · cases h
  · rename_i E t nl o u
    split at h
    case h_2=>cases h
    rename_i E' t' nl' l ho
    split at h
    case h_2=>cases h
    rename_i l' h1 h2 h3;simp at h;obtain⟨rfl,rfl,rfl⟩:=h;have e1:=jGP h1;subst e1;obtain⟨e,rfl⟩:=jl h3;have e':t'=t:=(by injection e);subst e';have ho':τ.obj o=some (.row E t' false nl' l):=(by rw[hk o (by simp),ho]);obtain⟨p,hp,k1,k0,k2⟩:=hS.obs o _ ho';simp only[SV.den] at hv;have hv:=hv p hp;show ClV ρ.H w (.row E t' nl) v l _;refine⟨k0,?_⟩;cases p with
    |none=>
      obtain⟨v1,v2⟩:=hv;refine .inl ⟨v1,k2.1,?_,by simp[j8,hp]⟩;cases nl<;>cases nl'<;>simp_all [jyB]
    |some q=>
      obtain⟨b,C⟩:=q;obtain⟨v1,v2⟩:=hv;obtain⟨k3,vs,k4,k5,k6,k7,k9,k10⟩:=k2;refine .inr ⟨b,C,vs,by rw[v1,k1],by simp[j8,hp],by simpa[fzH] using k10,fun hn=>k3 ?_,k4,k5,k6,k7,k9⟩;cases nl<;>cases nl'<;>simp_all [jyB]
  · rename_i E t nl o u n
    split at h
    case h_2=>cases h
    rename_i E' t' nl' l ho
    split at h
    case h_2=>cases h
    rename_i l' h1 h2 h3;simp at h;obtain⟨rfl,rfl,rfl⟩:=h;have e1:=jGP h1;subst e1;obtain⟨e,rfl⟩:=jl h3;have e':t'=t:=(by injection e);subst e';have ho':τ.obj o=some (.row E t' false nl' l):=(by rw[hk o (by simp),ho]);obtain⟨p,hp,k1,k0,k2⟩:=hS.obs o _ ho';simp only[SV.den] at hv;have hv:=hv p hp;show ClV ρ.H w (.row E t' nl) v (l.take n) _;have hnl:nl≠.yes:=by cases nl<;>cases nl'<;>simp_all [jyA]
    cases p with
    |none=>
      obtain⟨v1,rfl⟩:=hv;refine⟨by simp,.inl ⟨v1,by simp,?_,by simp[j8,hp]⟩⟩;cases nl<;>cases nl'<;>simp_all [jyA]
    |some q=>
      obtain⟨b,C⟩:=q;obtain⟨a,cap,v1,v2,v3,v4,v5⟩:=hv;obtain⟨k3,vs,k4,k5,k6,k7,k9,k10⟩:=k2;have v5:=v5 (.inl trivial);simp only[Nat.zero_mul] at v5;subst v5;have hcap:cap=C:=(by omega);subst hcap;have hlen:(l.take n).length=n:=(by rw[jHj];omega);refine⟨by omega,.inr ⟨b,cap,vs,by rw[v1,hlen],by simp[j8,hp],by simpa[fzH] using k10,fun hn=>absurd hn hnl,k4,k5,by omega,k7,fun i y hy=>k9 i y ?_⟩⟩;by_cases hi:i<n
      · rw[jHd hi] at hy;exact hy
      · rw[List.getElem?_eq_none (by omega)] at hy;cases hy
  · rename_i E t nl u
    split at h
    · cases h
    · rename_i hn hne;simp at h;obtain⟨rfl,rfl,rfl⟩:=h;simp only[SV.den] at hv;subst hv;refine⟨by simp,.inl ⟨wy hn,rfl,?_,rfl⟩⟩;intro e;subst e;exact hne rfl
    · cases h
  · rename_i kt vt o
    split at h
    case h_2=>cases h
    rename_i kt' vt' l ho
    split at h
    case h_2=>cases h
    rename_i l' hc;simp at h;obtain⟨rfl,rfl,rfl⟩:=h;obtain⟨e,rfl⟩:=jl hc;obtain⟨e1,e2⟩:kt'=kt∧vt'=vt:=by injection e with a b;exact⟨a,b⟩
    subst e1;subst e2;have ho':τ.obj o=some (.map false kt' vt' l):=(by rw[hk o (by simp),ho]);obtain⟨p,hp,hs⟩:=hS.obs o _ ho';simp only[j9,fzM] at hs;obtain⟨b,C,es,clock,rfl,k1,k2,k3⟩:=hs;simp only[SV.den] at hv;obtain⟨b',C',e1,v1⟩:=hv _ hp;simp at e1;obtain⟨rfl,rfl⟩:=e1;exact⟨b,es,clock,v1,by simp[j8,hp],k3,k1,k2⟩
  · cases h
theorem jd4 (hS:Sat P B ρ τ.obj w) {fz:List Nat} (hF:Frz σ τ fz):∀{cs:List Cl} {svs:List SV} {x:Cl.Ds cs} {os f:List Nat},jjX σ cs svs=some (x,os,f)→(∀o,o∈f→o∈fz)→jji σ τ os→
    ∀{vs:List Value},SV.denL P ρ svs vs→(∀v∈vs,v.oneCell'=true)→jCS ρ.H w cs vs x (j8 ρ os)
  |[],[],x,os,f,h,_,_,vs,hv,_=>by
    simp[jjX] at h
    obtain⟨rfl,rfl⟩:=h
    simp[SV.denL] at hv
    exact⟨hv,rfl⟩
  |[],_::_,x,os,f,h,_,_,vs,hv,_=>by simp[jjX] at h
  |_::_,[],x,os,f,h,_,_,vs,hv,_=>by simp[jjX] at h
  |c::cs,sv::svs,x,os,f,h,hf,hk,vs,hv,h1=>by
    simp only[jjX] at h
    split at h
    case h_2=>cases h
    rename_i x1 o1 f1 hc
    split at h
    case h_2=>cases h
    rename_i x2 o2 f2 hcs
    simp at h
    obtain⟨rfl,rfl,rfl⟩:=h
    simp only[SV.denL] at hv
    obtain⟨v,r,rfl,v1,v2⟩:=hv
    refine⟨j8 ρ o1,j8 ρ o2,wO ρ o1 o2,?_,h1 v (by simp),?_⟩
    · exact jmU hS hF hc (fun o ho=>hf o (jGR _ ho)) (fun o ho=>hk o (jGR _ ho)) v1
    · exact jd4 hS hF hcs (fun o ho=>hf o (jGQ _ ho)) (fun o ho=>hk o (jGQ _ ho)) v2 (fun u hu=>h1 u (by simp[hu]))
theorem jcb (hS:Sat P B ρ τ.obj w) {fz:List Nat} (hF:Frz σ τ fz) {s:Sh} {sv:SV} {x:s.D} {os f:List Nat} (h:jsF σ s sv=some (x,os,f)) (hf:∀o,o∈f→o∈fz) (hk:jji σ τ os)
    {v:Value} (hv:SV.den P ρ sv v):ShV ρ.H w s v x (j8 ρ os):=by
  unfold jsF at h
  split at h
  · exact jmU hS hF h hf hk hv
  · rename_i T cs o
    split at h
    case h_2=>cases h
    rename_i T' vs ho
    split at h
    case h_2=>cases h
    rename_i x1 o1 f1 h1 h2;simp at h;obtain⟨rfl,rfl,rfl⟩:=h;have e1:=jGP h1;subst e1;have ho':τ.obj o=some (.box T false vs):=(by rw[hk o (by simp),ho]);obtain⟨p,hp,hs⟩:=hS.obs o _ ho';simp only[j9,fzH] at hs;obtain⟨b,C,us,rfl,k1,k2,k3,k4⟩:=hs;simp only[SV.den] at hv;obtain⟨b',C',e1,v1⟩:=hv _ hp;simp at e1;obtain⟨rfl,rfl⟩:=e1;exact⟨b,us,j8 ρ o1,v1,by simp[j8,hp],k4,k1,jd4 hS hF h2 hf (fun o ho=>hk o (jGV _ ho)) k2 k3⟩
  · rename_i g T cs g' o
    split at h
    case h_2=>cases h
    rename_i T' vs ho
    split at h
    case h_2=>cases h
    rename_i x1 o1 f1 h0 h1 h2;simp at h;obtain⟨rfl,rfl,rfl⟩:=h;have e0:=jGP h0;subst e0;have e1:=jGP h1;subst e1;have ho':τ.obj o=some (.box T false vs):=(by rw[hk o (by simp),ho]);obtain⟨p,hp,hs⟩:=hS.obs o _ ho';simp only[j9,fzH] at hs;obtain⟨b,C,us,rfl,k1,k2,k3,k4⟩:=hs;simp only[SV.den,SV.denL] at hv;obtain⟨lb,rfl,u,r,hl,hu,hr⟩:=hv;subst hr;obtain⟨b',C',e1,v1⟩:=hu _ hp;simp at e1;obtain⟨rfl,rfl⟩:=e1;have hlb:lb= #[u]:=jHb.1 (by simpa using hl);subst hlb;subst v1;exact⟨b,us,j8 ρ o1,rfl,by simp[j8,hp],k4,k1,jd4 hS hF h2 hf (fun o ho=>hk o (jGV _ ho)) k2 k3⟩
  · cases h
end
end Go.X
namespace Go.X
open Go.RowKit (Below)
def jq9 (k:Nat):(c:Cl)→c.D→SV
  | .dat t,x=> .dat t x
  | .row _ t _,_=> .own k t
  | .map _ _,_=> .mp k
def jzA (k:Nat):(c:Cl)→c.D→List (Nat×Option Ob)
  | .dat _,_=>[]
  | .row E t nl,x=>[(k,some (.row E t false nl x))]
  | .map kt vt,x=>[(k,some (.map false kt vt x))]
def jnR (nm:Nat→Nat):(cs:List Cl)→Cl.Ds cs→Nat→List SV
  |[],_,_=>[]
  |c::cs,d,j=>jq9 (nm j) c d.1::jnR nm cs d.2 (j+1)
def jiQ (nm:Nat→Nat):(cs:List Cl)→Cl.Ds cs→Nat→List (Nat×Option Ob)
  |[],_,_=>[]
  |c::cs,d,j=>jiQ nm cs d.2 (j+1)++jzA (nm j) c d.1
def joL (k:Nat):(s:Sh)→s.D→SV
  | .cl c,x=>jq9 k c x
  | .box _ _,_=> .bp k 0
  | .fbox f _ _,_=> .clo f [.bp k 0]
def jtt (k:Nat) (nm:Nat→Nat):(s:Sh)→s.D→List (Nat×Option Ob)
  | .cl c,x=>jzA k c x
  | .box T cs,x=>(k,some (.box T false (jnR nm cs x 0)))::jiQ nm cs x 0
  | .fbox _ T cs,x=>(k,some (.box T false (jnR nm cs x 0)))::jiQ nm cs x 0
def qq (k:Nat):Cl→List Nat
  | .dat _=>[]
  |_=>[k]
def vX (nm:Nat→Nat):List Cl→Nat→List Nat
  |[],_=>[]
  |c::r,j=>qq (nm j) c++vX nm r (j+1)
def ke (k:Nat) (nm:Nat→Nat):Sh→List Nat
  | .cl c=>qq k c
  | .box _ cs=>k::vX nm cs 0
  | .fbox _ _ cs=>k::vX nm cs 0
def jzj (Cp:Nat):Cl→Value→Option (Nat×Nat)
  | .row _ _ _,.slice (some a) _ C=>some (a.block,C)
  | .map _ _,.map (some b)=>some (b,Cp)
  |_,_=>none
def jzY (lp:Nat):Cl→Value→Nat
  | .row _ _ _,.slice _ n _=>n
  |_,_=>lp
def jwX (Cp:Nat):Sh→Value→Option (Nat×Nat)
  | .cl c,v=>jzj Cp c v
  | .box _ _,.pointer (some a)=>some (a.block,Cp)
  | .fbox _ _ _,.func _ _ lb=>(match lb.toList with|[.pointer (some a)]=>some (a.block,Cp)|_=>none)
  |_,_=>none
def jzX (lp:Nat):Sh→Value→Nat
  | .cl c,v=>jzY lp c v
  | .box _ _,_=>lp
  | .fbox _ _ _,_=>lp
def oo (ob:List (Nat×Option Ob)):Nat→Option Ob:=(St.mk [] ob).obj
section
variable {P:Program} {B:zF} {ρ:Env} {w:World}
def OkB (B:zF) (ρ:Env) (b:Nat):Prop:=(B.w.heap.size≤b∨b∈B.bor)∧∀o C,ρ.blk o≠some (some (b,C))
theorem jtj {obj:Nat→Option Ob} (hS:Sat P B ρ obj w) {k:Nat} (hk:obj k=none) (hn:kz obj k) (p:Option (Nat×Nat)) (len:Nat) (x:Ob)
    (hp:∀b C,p=some (b,C)→OkB B ρ b) (hx:∀ρ':Env,ρ'.H=ρ.H→ρ'.len k=len→ρ.le ρ' [k]→j9 P ρ' w k p x):
    ∃ρ':Env,Sat P B ρ' (jij obj k (some x)) w∧ρ.le ρ' [k]∧ρ'.H=ρ.H∧ρ'.blk=(fun o=>if o=k then some p else ρ.blk o)∧ρ'.len=fun o=>if o=k then len else ρ.len o:=by
  let ρ':Env:={H:=ρ.H,blk:=fun o=>if o=k then some p else ρ.blk o,len:=fun o=>if o=k then len else ρ.len o}
  have hle:ρ.le ρ' [k]:=⟨fun _ _ h=>h,fun o p ho hp=>by simpa[ρ',show o≠k by simpa using ho] using hp,fun o ho=>by simp[ρ',show o≠k by simpa using ho]⟩;refine⟨ρ',⟨hS.os,hS.tape,hS.output,hS.drawn,hS.size,hS.good,hS.oldH,hS.old,?_,?_,?_,?_⟩,hle,rfl,rfl,rfl⟩
  · intro o x' hx';unfold jij at hx';by_cases e:o=k
    · subst e;rw[if_pos rfl] at hx';simp at hx';subst hx';exact⟨p,by simp[ρ'],hx ρ' rfl (by simp[ρ']) hle⟩
    · rw[if_neg e] at hx';obtain⟨q,hq,hs⟩:=hS.obs o x' hx';refine⟨q,by simp[ρ',e,hq],jN hle (by simpa using e) (fun T fz cs hcs o' ho'=> ?_) (fun b C hpb=>⟨rfl,rfl⟩) hs⟩;simp at ho';subst ho';exact hn o T fz cs (by rw[hx',hcs])
  · intro o ho;unfold jij at ho;by_cases e:o=k
    · rw[if_pos e] at ho;cases ho
    · rw[if_neg e] at ho;simp[ρ',e,hS.dead o ho]
  · intro o o' b C1 C2 h1 h2;by_cases e1:o=k<;>by_cases e2:o'=k
    · rw[e1,e2]
    · simp[ρ',e1] at h1;simp[ρ',e2] at h2;exact absurd h2 ((hp b C1 h1).2 o' C2)
    · simp[ρ',e1] at h1;simp[ρ',e2] at h2;exact absurd h1 ((hp b C2 h2).2 o C1)
    · simp[ρ',e1] at h1;simp[ρ',e2] at h2;exact hS.inj o o' b C1 C2 h1 h2
  · intro o b C1 h1;by_cases e1:o=k
    · simp[ρ',e1] at h1;exact(hp b C1 h1).1
    · simp[ρ',e1] at h1;exact hS.own o b C1 h1
theorem jgb (k:Nat) (x:Option Ob) (ob:List (Nat×Option Ob)):oo ((k,x)::ob)=jij (oo ob) k x:=wt ⟨[],ob⟩ k x
structure jgR (P:Program) (B:zF) (ρ:Env) (w:World) (ob new:List (Nat×Option Ob)) (nms:List Nat) (bs:List Nat) (ρ':Env):Prop where
  sat:Sat P B ρ' (oo (new++ob)) w
  le:ρ.le ρ' nms
  H:ρ'.H=ρ.H
  same:∀o,o∉nms→ρ'.blk o=ρ.blk o∧ρ'.len o=ρ.len o
  blk:∀o b C,ρ'.blk o=some (some (b,C))→ρ.blk o=some (some (b,C))∨b∈bs
theorem jBb {ob:List (Nat×Option Ob)} (hS:Sat P B ρ (oo ob) w) {c:Cl} {k:Nat} {v:Value} {x:c.D} {bs:List Nat} (hv:ClV ρ.H w c v x bs) (hb:∀b,b∈bs→OkB B ρ b)
    (hk:∀n,n∈qq k c→oo ob n=none∧kz (oo ob) n) (Cp lp:Nat):
    ∃ρ',jgR P B ρ w ob (jzA k c x) (qq k c) bs ρ'∧SV.den P ρ' (jq9 k c x) v∧(∀n,n∈qq k c→ρ'.blk n=some (jzj Cp c v)∧ρ'.len n=jzY lp c v):=by
  cases c with
  |dat t=>
    obtain⟨h1,rfl⟩:=hv;exact⟨ρ,⟨hS,Env.le.refl _ _,rfl,fun _ _=>⟨rfl,rfl⟩,fun _ _ _ h=> .inl h⟩,by simp only[jq9,SV.den];exact h1,fun n hn=>by simp[qq] at hn⟩
  |row E t nl=>
    obtain⟨k1,k2⟩:=hk k (by simp[qq]);obtain⟨hl,hv⟩:=hv;rcases hv with⟨rfl,hx0,hnl,rfl⟩|⟨b,C,vs,rfl,rfl,hH,g1,g2,g3,g4,g5,g6⟩
    · have hx0':x=([]:List t.Data):=hx0;obtain⟨ρ',q1,q2,q3,q4,q5⟩:=jtj hS k1 k2 none 0 (.row E t false nl x) (fun b C h=>by cases h) (fun ρ' _ hlen _=>⟨by rw[hlen,hx0'];rfl,hl,hx0',hnl⟩);refine⟨ρ',⟨by simp only[jzA,List.singleton_append];rw[jgb];exact q1,by simpa[qq] using q2,q3,fun o ho=> ?_,fun o b C h=> ?_⟩,?_,fun n hn=> ?_⟩
      · have:o≠k:=(by simpa[qq] using ho);rw[q4,q5];simp[this]
      · rw[q4] at h;simp only at h
        split at h
        · simp at h
        · exact .inl h
      · simp only[jq9,SV.den];intro p hp;rw[q4] at hp;simp at hp;subst hp;exact⟨trivial,by rw[q5];simp⟩
      · have:n=k:=(by simpa[qq] using hn);subst this;rw[q4,q5];simp[jzj,jzY]
    · obtain⟨ρ',q1,q2,q3,q4,q5⟩:=jtj hS k1 k2 (some (b,C)) x.length (.row E t false nl x) (fun b' C' h=>by simp at h;rw[←h.1];exact hb b (by simp))
        (fun ρ' hH' hlen hle=>⟨by rw[hlen],hl,g1,vs,g2,g3,g4,g5,fun i y hy=>t.rd_mono hle.H _ _ (g6 i y hy),by rw[hH',hH];rfl⟩)
      refine⟨ρ',⟨by simp only[jzA,List.singleton_append];rw[jgb];exact q1,by simpa[qq] using q2,q3,fun o ho=> ?_,fun o b' C' h=> ?_⟩,?_,fun n hn=> ?_⟩
      · have:o≠k:=(by simpa[qq] using ho);rw[q4,q5];simp[this]
      · rw[q4] at h;simp only at h
        split at h
        · simp at h;exact .inr (by simp[h.1])
        · exact .inl h
      · simp only[jq9,SV.den];intro p hp;rw[q4] at hp;simp at hp;subst hp;simp only;rw[q5];simp only[if_true];exact⟨trivial,g4⟩
      · have:n=k:=(by simpa[qq] using hn);subst this;rw[q4,q5];simp[jzj,jzY]
  |map kt vt=>
    obtain⟨k1,k2⟩:=hk k (by simp[qq]);obtain⟨b,es,clock,rfl,rfl,hH,g1,g2⟩:=hv;obtain⟨ρ',q1,q2,q3,q4,q5⟩:=jtj hS k1 k2 (some (b,Cp)) lp (.map false kt vt x) (fun b' C' h=>by simp at h;rw[←h.1];exact hb b (by simp))
      (fun ρ' hH' _ hle=>⟨b,Cp,es,clock,rfl,g1,g2.mono hle.H,by rw[hH',hH];rfl⟩)
    refine⟨ρ',⟨by simp only[jzA,List.singleton_append];rw[jgb];exact q1,by simpa[qq] using q2,q3,fun o ho=> ?_,fun o b' C' h=> ?_⟩,?_,fun n hn=> ?_⟩
    · have:o≠k:=(by simpa[qq] using ho);rw[q4,q5];simp[this]
    · rw[q4] at h;simp only at h
      split at h
      · simp at h;exact .inr (by simp[h.1])
      · exact .inl h
    · simp only[jq9,SV.den];intro p hp;rw[q4] at hp;simp at hp;subst hp;exact⟨b,Cp,rfl,rfl⟩
    · have:n=k:=(by simpa[qq] using hn);subst this;rw[q4,q5];simp[jzj,jzY]
theorem qm {new ob:List (Nat×Option Ob)} {n:Nat} (h:n∉ki new):oo (new++ob) n=oo ob n:=by
  simp only[oo,St.obj];rw[jk,jy _ _ h]
theorem jhJ {α:Type} (a b:List (Nat×α)) (n:Nat):n∈ki (a++b)↔n∈ki a∨n∈ki b:=by
  induction a with
  |nil=>simp[ki]
  |cons x a ih=>obtain⟨j,y⟩:=x;simp only[jHi,ki,jGS,ih];exact or_assoc.symm
theorem jmD (k:Nat) (c:Cl) (x:c.D):ki (jzA k c x)=qq k c:=by cases c<;>rfl
theorem jbg (nm:Nat→Nat):∀(cs:List Cl) (x:Cl.Ds cs) (j n:Nat),n∈ki (jiQ nm cs x j)↔n∈vX nm cs j
  |[],_,_,n=>by simp[jiQ,vX,ki]
  |c::cs,x,j,n=>by
    simp only[jiQ,vX,jhJ,jmD,jG1,jbg nm cs x.2 (j+1) n]
    exact or_comm
theorem jdT (k:Nat) (nm:Nat→Nat) (s:Sh) (x:s.D) (n:Nat):n∈ki (jtt k nm s x)↔n∈ke k nm s:=by
  cases s with
  |cl c=>simp only[jtt,ke];rw[jmD]
  |box T cs=>simp only[jtt,ke,ki,jGS,jbg nm cs x 0 n]
  |fbox f T cs=>simp only[jtt,ke,ki,jGS,jbg nm cs x 0 n]
def jEX (new:List (Nat×Option Ob)):Prop:=∀o T fz cs,(o,some (.box T fz cs))∉new
theorem jev (k:Nat) (c:Cl) (x:c.D):jEX (jzA k c x):=by
  intro o T fz cs h;cases c<;>simp[jzA] at h
theorem qp (nm:Nat→Nat):∀(cs:List Cl) (x:Cl.Ds cs) (j:Nat),jEX (jiQ nm cs x j)
  |[],_,_=>by intro o T fz cs h;simp[jiQ] at h
  |c::cs,x,j=>by
    intro o T fz cs' h
    simp only[jiQ,jG1] at h
    rcases h with h|h
    · exact qp nm cs x.2 (j+1) o T fz cs' h
    · exact jev _ _ _ o T fz cs' h
theorem jba {new ob:List (Nat×Option Ob)} {n:Nat} (hb:jEX new) (h:kz (oo ob) n):kz (oo (new++ob)) n:=by
  intro o T fz cs ho;simp only[oo,St.obj] at ho;rw[jk] at ho;cases hl:jF new o with
  |none=>rw[hl] at ho;exact h o T fz cs ho
  |some y=>rw[hl] at ho;simp only at ho;subst ho;exact absurd (zk _ _ _ hl) (hb o T fz cs)
theorem jq5 {nm:Nat→Nat}:∀(cs:List Cl) (j:Nat) {ob:List (Nat×Option Ob)} {ρ:Env} (_:Sat P B ρ (oo ob) w) {vs:List Value} {x:Cl.Ds cs} {bs:List Nat} (_:jCS ρ.H w cs vs x bs) (_:bs.Nodup) (_:∀b,b∈bs→OkB B ρ b)
    (_:(vX nm cs j).Nodup) (_:∀n,n∈vX nm cs j→oo ob n=none∧kz (oo ob) n),
    ∃ρ',jgR P B ρ w ob (jiQ nm cs x j) (vX nm cs j) bs ρ'∧SV.denL P ρ' (jnR nm cs x j) vs
  |[],j,ob,ρ,hS,vs,x,bs,hv,_,_,_,_=>by
    obtain⟨rfl,rfl⟩:=hv
    exact⟨ρ,⟨hS,Env.le.refl _ _,rfl,fun _ _=>⟨rfl,rfl⟩,fun _ _ _ h=> .inl h⟩,by simp[jnR,SV.denL]⟩
  |c::cs,j,ob,ρ,hS,[],x,bs,hv,_,_,_,_=>hv.elim
  |c::cs,j,ob,ρ,hS,v::vs,x,bs,hv,hnd,hb,hnn,hk=>by
    obtain⟨b1,b2,rfl,v1,v2,v3⟩:=hv
    simp only[vX] at hnn hk
    rw[jHW] at hnn hnd
    obtain⟨n1,n2,n3⟩:=hnn
    obtain⟨d1,d2,d3⟩:=hnd
    obtain⟨ρ1,a1,e1,_⟩:=jBb hS v1 (fun b hb'=>hb b (jGR _ hb')) (fun n hn=>hk n (jGR _ hn)) 0 0
    have hfr:∀n,n∈vX nm cs (j+1)→oo (jzA (nm j) c x.1++ob) n=none∧kz (oo (jzA (nm j) c x.1++ob)) n:=by
      intro n hn;obtain⟨k1,k2⟩:=hk n (jGQ _ hn);refine⟨?_,jba (jev _ _ _) k2⟩;rw[qm,k1];rw[jmD];exact fun h=>n3 n h n hn rfl
    obtain⟨ρ2,a2,e2⟩:=jq5 cs (j+1) a1.sat (vs:=vs) (x:=x.2) (bs:=b2) (by rw[a1.H];exact v3) d2 (fun b hb'=>⟨(hb b (jGQ _ hb')).1,fun o C h=>by
        rcases a1.blk o b C h with h|h
        · exact(hb b (jGQ _ hb')).2 o C h
        · exact d3 b h b hb' rfl⟩) n2 hfr
    refine⟨ρ2,⟨by simp only[jiQ,jHc];exact a2.sat,?_,a2.H.trans a1.H,fun o ho=> ?_,fun o b C h=> ?_⟩,?_⟩
    · exact(a1.le.weaken (fun o ho=>jGR _ ho)).trans (a2.le.weaken (fun o ho=>jGQ _ ho))
    · simp only[vX,jG1,not_or] at ho;obtain⟨s1,s2⟩:=a1.same o ho.1;obtain⟨s3,s4⟩:=a2.same o ho.2;exact⟨s3.trans s1,s4.trans s2⟩
    · rcases a2.blk o b C h with h|h
      · rcases a1.blk o b C h with h|h
        · exact .inl h
        · exact .inr (jGR _ h)
      · exact .inr (jGQ _ h)
    · simp only[jnR,SV.denL];refine⟨v,vs,rfl,SV.den_mono a2.le _ _ (fun o ho=> ?_) e1,e2⟩;cases c with
      |dat t=>rfl
      |row E t nl=>
        have hne:nm j≠o:=fun h=>n3 (nm j) (by simp[qq]) o ho h
        simp only[jq9,SV.refs];cases hb':Nat.beq o (nm j) with
        |false=>rfl
        |true=>exact absurd (jGP hb').symm hne
      |map kt vt=>
        have hne:nm j≠o:=fun h=>n3 (nm j) (by simp[qq]) o ho h
        simp only[jq9,SV.refs];cases hb':Nat.beq o (nm j) with
        |false=>rfl
        |true=>exact absurd (jGP hb').symm hne
theorem vj {nm:Nat→Nat} {k:Nat}:∀(cs:List Cl) (x:Cl.Ds cs) (j:Nat),k∉vX nm cs j→SV.refs.refsL k (jnR nm cs x j)=false
  |[],_,_,_=>rfl
  |c::cs,x,j,h=>by
    simp only[vX,jG1,not_or] at h
    simp only[jnR,SV.refs.refsL]
    have h1:(jq9 (nm j) c x.1).refs k=false:=by
      cases c with
      |dat t=>rfl
      |row E t nl=>
        have hne:k≠nm j:=fun e=>h.1 (by simp[qq,e])
        simp only[jq9,SV.refs];cases hb':Nat.beq k (nm j) with
        |false=>rfl
        |true=>exact absurd (jGP hb') hne
      |map kt vt=>
        have hne:k≠nm j:=fun e=>h.1 (by simp[qq,e])
        simp only[jq9,SV.refs];cases hb':Nat.beq k (nm j) with
        |false=>rfl
        |true=>exact absurd (jGP hb') hne
    rw[h1];exact vj cs x.2 (j+1) h.2
theorem jzr {H:Imm}:∀(cs:List Cl) (vs:List Value) (x:Cl.Ds cs) (bs:List Nat),jCS H w cs vs x bs→∀v∈vs,v.oneCell'=true
  |[],vs,x,bs,h,v,hv=>by obtain⟨rfl,_⟩:=h;simp at hv
  |c::cs,[],x,bs,h,v,hv=>h.elim
  |c::cs,u::vs,x,bs,h,v,hv=>by
    obtain⟨_,_,_,_,h1,h2⟩:=h
    rcases jGS.1 hv with rfl|hv
    · exact h1
    · exact jzr cs vs x.2 _ h2 v hv
theorem jvt {nm:Nat→Nat} {ob:List (Nat×Option Ob)} (hS:Sat P B ρ (oo ob) w) {s:Sh} {k:Nat} {v:Value} {x:s.D} {bs:List Nat} (hv:ShV ρ.H w s v x bs) (hnd:bs.Nodup) (hb:∀b,b∈bs→OkB B ρ b)
    (hnn:(ke k nm s).Nodup) (hk:∀n,n∈ke k nm s→oo ob n=none∧kz (oo ob) n) (Cp lp:Nat):
    ∃ρ',jgR P B ρ w ob (jtt k nm s x) (ke k nm s) bs ρ'∧SV.den P ρ' (joL k s x) v∧(k∈ke k nm s→ρ'.blk k=some (jwX Cp s v)∧ρ'.len k=jzX lp s v):=by
  cases s with
  |cl c=>
    obtain⟨ρ',a,e,r⟩:=jBb hS hv hb hk Cp lp;exact⟨ρ',a,e,fun h=>r k h⟩
  |box T cs=>
    obtain⟨b,vs,bs',rfl,rfl,hH,hw,hcs⟩:=hv;simp only[ke,jHJ] at hnn;rw[jHJ] at hnd;obtain⟨ρ1,a1,e1⟩:=jq5 cs 0 hS hcs hnd.2 (fun b' hb'=>hb b' (jGV _ hb')) hnn.2 (fun n hn=>hk n (jGV _ hn));obtain⟨k1,k2⟩:=hk k (by simp[ke]);have hk1:oo (jiQ nm cs x 0++ob) k=none:=by
      rw[qm,k1];rw[jbg];exact hnn.1
    obtain⟨ρ2,q1,q2,q3,q4,q5⟩:=jtj a1.sat hk1 (jba (qp _ _ _ _) k2) (some (b,Cp)) lp (.box T false (jnR nm cs x 0)) (fun b' C' h=>by
        simp at h;rw[←h.1];refine⟨(hb b (by simp)).1,fun o C h'=> ?_⟩;rcases a1.blk o b C h' with h'|h'
        · exact(hb b (by simp)).2 o C h'
        · exact hnd.1 h') (fun ρ' hH' _ hle=>⟨b,Cp,vs,rfl,hw,SV.denL_mono hle _ _ (fun o ho=>by simp at ho;subst ho;exact vj cs x 0 hnn.1) e1,jzr cs vs.toList x bs' hcs,by rw[hH',a1.H,hH];rfl⟩)
    refine⟨ρ2,⟨by simp only[jtt,jHi];rw[jgb];exact q1,?_,q3.trans a1.H,fun o ho=> ?_,fun o b' C' h=> ?_⟩,?_,fun _=> ?_⟩
    · exact(a1.le.weaken (fun o ho=>jGV _ ho)).trans (q2.weaken (fun o ho=>by simp at ho;subst ho;simp[]))
    · simp only[ke,jGS,not_or] at ho;obtain⟨s1,s2⟩:=a1.same o ho.2;rw[q4,q5];simp only[ho.1,if_false];exact⟨s1,s2⟩
    · rw[q4] at h;simp only at h
      split at h
      · simp at h;exact .inr (by simp[h.1])
      · rcases a1.blk o b' C' h with h|h
        · exact .inl h
        · exact .inr (jGV _ h)
    · simp only[joL,SV.den];intro p hp;rw[q4] at hp;simp at hp;subst hp;exact⟨b,Cp,rfl,rfl⟩
    · rw[q4,q5];simp[jwX,jzX]
  |fbox f T cs=>
    obtain⟨b,vs,bs',rfl,rfl,hH,hw,hcs⟩:=hv;simp only[ke,jHJ] at hnn;rw[jHJ] at hnd;obtain⟨ρ1,a1,e1⟩:=jq5 cs 0 hS hcs hnd.2 (fun b' hb'=>hb b' (jGV _ hb')) hnn.2 (fun n hn=>hk n (jGV _ hn));obtain⟨k1,k2⟩:=hk k (by simp[ke]);have hk1:oo (jiQ nm cs x 0++ob) k=none:=by
      rw[qm,k1];rw[jbg];exact hnn.1
    obtain⟨ρ2,q1,q2,q3,q4,q5⟩:=jtj a1.sat hk1 (jba (qp _ _ _ _) k2) (some (b,Cp)) lp (.box T false (jnR nm cs x 0)) (fun b' C' h=>by
        simp at h;rw[←h.1];refine⟨(hb b (by simp)).1,fun o C h'=> ?_⟩;rcases a1.blk o b C h' with h'|h'
        · exact(hb b (by simp)).2 o C h'
        · exact hnd.1 h') (fun ρ' hH' _ hle=>⟨b,Cp,vs,rfl,hw,SV.denL_mono hle _ _ (fun o ho=>by simp at ho;subst ho;exact vj cs x 0 hnn.1) e1,jzr cs vs.toList x bs' hcs,by rw[hH',a1.H,hH];rfl⟩)
    refine⟨ρ2,⟨by simp only[jtt,jHi];rw[jgb];exact q1,?_,q3.trans a1.H,fun o ho=> ?_,fun o b' C' h=> ?_⟩,?_,fun _=> ?_⟩
    · exact(a1.le.weaken (fun o ho=>jGV _ ho)).trans (q2.weaken (fun o ho=>by simp at ho;subst ho;simp[]))
    · simp only[ke,jGS,not_or] at ho;obtain⟨s1,s2⟩:=a1.same o ho.2;rw[q4,q5];simp only[ho.1,if_false];exact⟨s1,s2⟩
    · rw[q4] at h;simp only at h
      split at h
      · simp at h;exact .inr (by simp[h.1])
      · rcases a1.blk o b' C' h with h|h
        · exact .inl h
        · exact .inr (jGV _ h)
    · simp only[joL,SV.den,SV.denL];refine⟨#[.pointer (some ⟨b,0,none⟩)],rfl,_,[],rfl,fun p hp=> ?_,rfl⟩;rw[q4] at hp;simp at hp;subst hp;exact⟨b,Cp,rfl,rfl⟩
    · rw[q4,q5];simp[jwX,jzX]
end
end Go.X
namespace Go.X
open Go.RowKit (Below)
def jF5:Bool→Value
  |true=> .nilFunc
  |false=> .slice none 0 0
def jz3:Bool→Value→Bool
  |true,v=>jiW v
  |false,v=>zc v
inductive yK where
  |val (t:Ty)
  |ref (t:Ty)
  |nil (fn:Bool)
  |clo (f:Nat)
  |fn (ps rs:List Ty)
  |own (s:Sh) (kept:Bool)
@[reducible] def yK.Data:yK→Type
  | .val t=>t.Data
  | .ref t=>t.Data
  | .nil _=>Unit
  | .clo _=>Unit
  | .fn ps rs=>FnD ps rs
  | .own s _=>s.D
@[reducible] def OD:List yK→Type
  |[]=>Unit
  |p::ps=>p.Data×OD ps
@[reducible] def KD:List yK→Type
  |[]=>Unit
  | .own s true::ps=>s.D×KD ps
  |_::ps=>KD ps
@[reducible] def RD:List Sh→Type
  |[]=>Unit
  |s::r=>s.D×RD r
structure kx where
  ps:List yK
  rs:List Sh
  pre:OD ps→List Prop
  F:OD ps→RD rs×KD ps
def jGb (P:Program) (H:Imm) (w:World):(p:yK)→Value→p.Data→List Nat→Prop
  | .val t,v,d,bs=>t.rv H v d∧bs=[]
  | .ref t,v,d,bs=>jzc H t v d∧bs=[]
  | .nil b,v,_,bs=>v=jF5 b∧bs=[]
  | .clo f,v,_,bs=>v= .func (.func f) #[] #[]∧bs=[]
  | .fn ps rs,v,d,bs=>FnV P H ps rs d.pre d.F v∧bs=[]
  | .own s _,v,d,bs=>ShV H w s v d bs
def jbu (P:Program) (H:Imm) (w:World):(ps:List yK)→List Value→OD ps→List Nat→Prop
  |[],vs,_,bs=>vs=[]∧bs=[]
  |p::ps,v::vs,d,bs=>∃b1 b2,bs=b1++b2∧jGb P H w p v d.1 b1∧jbu P H w ps vs d.2 b2
  |_::_,[],_,_=>False
def jDo (H:Imm) (w:World):(rs:List Sh)→List Value→RD rs→List Nat→Prop
  |[],vs,_,bs=>vs=[]∧bs=[]
  |s::rs,v::vs,d,bs=>∃b1 b2,bs=b1++b2∧ShV H w s v d.1 b1∧jDo H w rs vs d.2 b2
  |_::_,[],_,_=>False
def jD0:List Value→Value
  |[v]=>v
  |vs=> .tuple vs.toArray
def jjh (H:Imm) (w:World):(ps:List yK)→List Value→KD ps→List Nat→Prop
  |[],_,_,bs=>bs=[]
  | .own s true::ps,v::vs,d,bs=>∃b1 b2,bs=b1++b2∧ShV H w s v d.1 b1∧jjh H w ps vs d.2 b2
  | .own _ false::ps,_::vs,d,bs=>jjh H w ps vs d bs
  | .val _::ps,_::vs,d,bs=>jjh H w ps vs d bs
  | .ref _::ps,_::vs,d,bs=>jjh H w ps vs d bs
  | .nil _::ps,_::vs,d,bs=>jjh H w ps vs d bs
  | .clo _::ps,_::vs,d,bs=>jjh H w ps vs d bs
  | .fn _ _::ps,_::vs,d,bs=>jjh H w ps vs d bs
  |_::_,[],_,_=>False
def jtl (H:Imm) (w:World) (bs:List Nat) (s:kx) (vals:List Value) (d:OD s.ps):Ending→World→Prop:=
  fun e w'=>∃vs H' rb kb,e= .returned (jD0 vs)∧jEZ bs H w H' w'∧jDo H' w' s.rs vs (s.F d).1 rb∧jjh H' w' s.ps vals (s.F d).2 kb∧(rb++kb).Nodup∧∀b,b∈rb++kb→b∈bs∨w.heap.size≤b
structure yf (P:Program) (f:Nat) (s:kx):Prop where
  enters:enters P f
  calls:∀H w vals d bs,jcY H w→jbu P H w s.ps vals d bs→bs.Nodup→kR (s.pre d)→Calls P f vals.toArray w (jtl H w bs s vals d)
def gI (i:Nat):Nat:=1000000+i
def jzL (i j:Nat):Nat:=400000+20*i+j
def oSl:(ps:List yK)→OD ps→Nat→List (Nat×SV)
  |[],_,_=>[]
  | .val t::ps,d,i=>(i,.dat t d.1)::oSl ps d.2 (i+1)
  | .ref t::ps,d,i=>(i,.ep t d.1)::oSl ps d.2 (i+1)
  | .nil b::ps,d,i=>(i,.lit (jF5 b))::oSl ps d.2 (i+1)
  | .clo f::ps,d,i=>(i,.clo f [])::oSl ps d.2 (i+1)
  | .fn qs rs::ps,d,i=>(i,.fn qs rs d.1.pre d.1.F)::oSl ps d.2 (i+1)
  | .own s _::ps,d,i=>(i,joL (gI i) s d.1)::oSl ps d.2 (i+1)
def oOb:(ps:List yK)→OD ps→Nat→List (Nat×Option Ob)
  |[],_,_=>[]
  | .own s _::ps,d,i=>oOb ps d.2 (i+1)++jtt (gI i) (jzL i) s d.1
  | .val _::ps,d,i=>oOb ps d.2 (i+1)
  | .ref _::ps,d,i=>oOb ps d.2 (i+1)
  | .nil _::ps,d,i=>oOb ps d.2 (i+1)
  | .clo _::ps,d,i=>oOb ps d.2 (i+1)
  | .fn _ _::ps,d,i=>oOb ps d.2 (i+1)
def jw9:List yK→Nat→List Nat
  |[],_=>[]
  | .own s _::ps,i=>ke (gI i) (jzL i) s++jw9 ps (i+1)
  |_::ps,i=>jw9 ps (i+1)
def jhp (k:Nat):Sh→SV
  | .cl (.row _ t _)=> .own k t
  | .cl (.map _ _)=> .mp k
  | .cl (.dat _)=> .any
  | .box _ _=> .bp k 0
  | .fbox f _ _=> .clo f [.bp k 0]
def jzD:Sh→Bool
  | .cl (.dat _)=>false
  |_=>true
def jd3 (σ:St):(rs:List Sh)→List ResultVar→Option (RD rs×List Nat×List Nat)
  |[],[]=>some ((),[],[])
  |s::rs,.tmp t::rv=>match jsF σ s (σ.get t) with
    |some (x,os,f)=>match jd3 σ rs rv with
      |some (y,os',f')=>some ((x,y),os++os',f++f')
      |none=>none
    |none=>none
  |_,_=>none
def vD (σ:St):(ps:List yK)→Nat→Option (KD ps×List Nat×List Nat)
  |[],_=>some ((),[],[])
  | .own s true::ps,i=>match jsF σ s (jhp (gI i) s) with
    |some (x,os,f)=>match vD σ ps (i+1) with
      |some (y,os',f')=>some ((x,y),os++os',f++f')
      |none=>none
    |none=>none
  | .own _ false::ps,i=>vD σ ps (i+1)
  | .val _::ps,i=>vD σ ps (i+1)
  | .ref _::ps,i=>vD σ ps (i+1)
  | .nil _::ps,i=>vD σ ps (i+1)
  | .clo _::ps,i=>vD σ ps (i+1)
  | .fn _ _::ps,i=>vD σ ps (i+1)
def vf:List Nat→Bool
  |[]=>true
  |o::r=>match jaH r o with|true=>false|false=>vf r
def jEn (fn:Func) (s:kx) (want:RD s.rs×KD s.ps):Ex→St→Prop
  | .exit _,_=>False
  |_,σ=>match jd3 σ s.rs fn.results.toList,vD σ s.ps 0 with
    |some (r,o1,f1),some (k,o2,f2)=>match vf (o1++o2),jdP (f1++f2) (o1++o2) with
      |true,false=>r=want.1∧k=want.2
      |_,_=>False
    |_,_=>False
@[irreducible] def jcR (C:Ctx) (A:Ann) (fn:Func) (body:Code) (s:kx):Prop:=
  ∀d:OD s.ps,jqH (s.pre d) (vcg C A body ⟨oSl s.ps d 0,oOb s.ps d 0⟩ (jEn fn s (s.F d)))
section
variable {P:Program} {B:zF} {C:Ctx} {ρ:Env} {w:World}
theorem km:∀(l:List Nat),vf l=true→l.Nodup
  |[],_=>List.nodup_nil
  |o::r,h=>by
    simp only[vf] at h
    split at h
    · cases h
    · rename_i hm
      rw[jHJ]
      exact⟨yP hm,km r h⟩
theorem jql {k:Nat} {nm:Nat→Nat} {s:Sh} {x:s.D} {ob:List (Nat×Option Ob)} {n:Nat} (hn:n∉ke k nm s) (h:kz (oo ob) n):kz (oo (jtt k nm s x++ob)) n:=by
  cases s with
  |cl c=>exact jba (jev k c x) h
  |box T cs=>
    intro o T' fz cs' ho;simp only[ke,jGS,not_or] at hn;simp only[jtt,jHi] at ho;rw[jgb] at ho;unfold jij at ho
    split at ho
    · simp at ho;obtain⟨rfl,rfl,rfl⟩:=ho;exact vj cs x 0 hn.2
    · exact jba (qp nm cs x 0) h o T' fz cs' ho
  |fbox f T cs=>
    intro o T' fz cs' ho;simp only[ke,jGS,not_or] at hn;simp only[jtt,jHi] at ho;rw[jgb] at ho;unfold jij at ho
    split at ho
    · simp at ho;obtain⟨rfl,rfl,rfl⟩:=ho;exact vj cs x 0 hn.2
    · exact jba (qp nm cs x 0) h o T' fz cs' ho
theorem jv2:∀(ps:List yK) (d:OD ps) (i s:Nat) (v:SV),jF (oSl ps d i) s=some v→i≤s
  |[],_,_,_,_,h=>by simp[oSl,jF] at h
  |p::ps,d,i,s,v,h=>by
    have:∃sv,oSl (p::ps) d i=(i,sv)::oSl ps d.2 (i+1):=by cases p<;>exact⟨_,rfl⟩
    obtain⟨sv,e⟩:=this
    rw[e] at h
    simp only[jF] at h
    cases hb:Nat.beq i s with
    |true=>have:=jGP hb;omega
    |false=>rw[hb] at h;have:=jv2 ps d.2 (i+1) s v h;omega
theorem jkS:∀(ps:List yK) (i:Nat) {ob:List (Nat×Option Ob)} {ρ:Env} (_:Sat P B ρ (oo ob) w) {vs:List Value} {d:OD ps} {bs:List Nat} (_:jbu P ρ.H w ps vs d bs) (_:bs.Nodup) (_:∀b,b∈bs→OkB B ρ b)
    (_:(jw9 ps i).Nodup) (_:∀n,n∈jw9 ps i→oo ob n=none∧kz (oo ob) n),
    ∃ρ',jgR P B ρ w ob (oOb ps d i) (jw9 ps i) bs ρ'∧∀s v,jF (oSl ps d i) s=some v→∃x,vs[s-i]? =some x∧SV.den P ρ' v x
  |[],i,ob,ρ,hS,vs,d,bs,hv,_,_,_,_=>by
    obtain⟨rfl,rfl⟩:=hv
    exact⟨ρ,⟨hS,Env.le.refl _ _,rfl,fun _ _=>⟨rfl,rfl⟩,fun _ _ _ h=> .inl h⟩,fun s v h=>by simp[oSl,jF] at h⟩
  |p::ps,i,ob,ρ,hS,[],d,bs,hv,_,_,_,_=>hv.elim
  |p::ps,i,ob,ρ,hS,v::vs,d,bs,hv,hnd,hb,hnn,hk=>by
    obtain⟨b1,b2,rfl,v1,v2⟩:=hv
    have plain:∀(sv:SV),b1=[]→SV.den P ρ sv v→(∀o,sv.refs o=false)→oSl (p::ps) d i=(i,sv)::oSl ps d.2 (i+1)→oOb (p::ps) d i=oOb ps d.2 (i+1)→jw9 (p::ps) i=jw9 ps (i+1)→
        ∃ρ',jgR P B ρ w ob (oOb (p::ps) d i) (jw9 (p::ps) i) (b1++b2) ρ'∧∀s u,jF (oSl (p::ps) d i) s=some u→∃x,(v::vs)[s-i]? =some x∧SV.den P ρ' u x:=by
      intro sv e1 hden hr e2 e3 e4;subst e1;rw[e4] at hnn hk⊢;rw[e3,e2];obtain⟨ρ',a,hs⟩:=jkS ps (i+1) hS v2 (by simpa using hnd) (fun b hb'=>hb b (by simpa using hb')) hnn hk;refine⟨ρ',by simpa using a,fun s u hu=> ?_⟩;simp only[jF] at hu;cases hbq:Nat.beq i s with
      |true=>
        have:=jGP hbq;subst this;rw[hbq] at hu;simp at hu;subst hu;exact⟨v,by simp,SV.den_mono a.le _ _ (fun o _=>hr o) hden⟩
      |false=>
        rw[hbq] at hu;have hge:=jv2 ps d.2 (i+1) s u hu;obtain⟨x,x1,x2⟩:=hs s u hu;exact⟨x,by rw[show s-i=(s-(i+1))+1 by omega];simpa using x1,x2⟩
    cases p with
    |val t=>exact plain (.dat t d.1) v1.2 (by simp only[SV.den];exact v1.1) (fun _=>rfl) rfl rfl rfl
    |ref t=>exact plain (.ep t d.1) v1.2 (by simp only[SV.den];exact v1.1) (fun _=>rfl) rfl rfl rfl
    |nil b=>exact plain (.lit (jF5 b)) v1.2 (by simp only[SV.den];exact v1.1) (fun _=>rfl) rfl rfl rfl
    |clo f=>exact plain (.clo f []) v1.2 (by simp only[SV.den,SV.denL];exact⟨#[],v1.1,rfl⟩) (fun _=>rfl) rfl rfl rfl
    |fn qs rs=>exact plain (.fn qs rs d.1.pre d.1.F) v1.2 (by simp only[SV.den];exact v1.1) (fun _=>rfl) rfl rfl rfl
    |own s kp=>
      simp only[jw9] at hnn hk⊢;rw[jHW] at hnn hnd;obtain⟨n1,n2,n3⟩:=hnn;obtain⟨d1,d2,d3⟩:=hnd;obtain⟨ρ1,a1,e1,_⟩:=jvt hS (s:=s) (k:=gI i) (nm:=jzL i) v1 d1 (fun b hb'=>hb b (jGR _ hb')) n1 (fun n hn=>hk n (jGR _ hn)) 0 0;obtain⟨ρ2,a2,hs⟩:=jkS ps (i+1) a1.sat (vs:=vs) (d:=d.2) (bs:=b2) (by
          rw[a1.H];exact v2) d2 (fun b hb'=>⟨(hb b (jGQ _ hb')).1,fun o C' h=>by
          rcases a1.blk o b C' h with h|h
          · exact(hb b (jGQ _ hb')).2 o C' h
          · exact d3 b h b hb' rfl⟩) n2 (fun n hn=>by
          obtain⟨k1,k2⟩:=hk n (jGQ _ hn);have hnn:n∉ke (gI i) (jzL i) s:=fun h=>n3 n h n hn rfl
          exact⟨by rw[qm (by rw[jdT];exact hnn)];exact k1,jql hnn k2⟩)
      refine⟨ρ2,⟨by simp only[oOb,jHc];exact a2.sat,?_,a2.H.trans a1.H,fun o ho=> ?_,fun o b C' h=> ?_⟩,fun s' u hu=> ?_⟩
      · exact(a1.le.weaken (fun o ho=>jGR _ ho)).trans (a2.le.weaken (fun o ho=>jGQ _ ho))
      · simp only[jG1,not_or] at ho;obtain⟨s1,s2⟩:=a1.same o ho.1;obtain⟨s3,s4⟩:=a2.same o ho.2;exact⟨s3.trans s1,s4.trans s2⟩
      · rcases a2.blk o b C' h with h|h
        · rcases a1.blk o b C' h with h|h
          · exact .inl h
          · exact .inr (jGR _ h)
        · exact .inr (jGQ _ h)
      · simp only[oSl,jF] at hu;cases hbq:Nat.beq i s' with
        |true=>
          have:=jGP hbq;subst this;rw[hbq] at hu;simp at hu;subst hu;refine⟨v,by simp,SV.den_mono a2.le _ _ (fun o ho=> ?_) e1⟩;have:o∉ke (gI i) (jzL i) s:=fun h=>n3 o h o ho rfl
          cases s with
          |cl c=>
            cases c with
            |dat t=>rfl
            |row E t nl=>
              have hne:o≠gI i:=fun e=>this (by simp[ke,qq,e])
              simp only[joL,jq9,SV.refs];cases hb':Nat.beq o (gI i) with
              |false=>rfl
              |true=>exact absurd (jGP hb') hne
            |map kt vt=>
              have hne:o≠gI i:=fun e=>this (by simp[ke,qq,e])
              simp only[joL,jq9,SV.refs];cases hb':Nat.beq o (gI i) with
              |false=>rfl
              |true=>exact absurd (jGP hb') hne
          |box T cs=>
            have hne:o≠gI i:=fun e=>this (by simp[ke,e])
            simp only[joL,SV.refs];cases hb':Nat.beq o (gI i) with
            |false=>rfl
            |true=>exact absurd (jGP hb') hne
          |fbox f T cs=>
            have hne:o≠gI i:=fun e=>this (by simp[ke,e])
            simp only[joL,SV.refs,SV.refs.refsL];cases hb':Nat.beq o (gI i) with
            |false=>simp
            |true=>exact absurd (jGP hb') hne
        |false=>
          rw[hbq] at hu;have hge:=jv2 ps d.2 (i+1) s' u hu;obtain⟨x,x1,x2⟩:=hs s' u hu;exact⟨x,by rw[show s'-i=(s'-(i+1))+1 by omega];simpa using x1,x2⟩
theorem jdO {H:Imm}:∀(ps:List yK) (vs:List Value) (d:OD ps) (bs:List Nat),jbu P H w ps vs d bs→vs.length=ps.length
  |[],vs,d,bs,h=>by obtain⟨rfl,_⟩:=h;rfl
  |p::ps,[],d,bs,h=>h.elim
  |p::ps,v::vs,d,bs,h=>by
    obtain⟨_,b2,_,_,h⟩:=h
    simp[jdO ps vs d.2 b2 h]
theorem jvK {B':zF} {obj:Nat→Option Ob} (h:Sat P B ρ obj w) (h1:B'.w=B.w) (h2:B'.H=B.H) (h3:B'.bor=B.bor):Sat P B' ρ obj w:=
  ⟨by rw[h1];exact h.os,by rw[h1];exact h.tape,by rw[h1];exact h.output,by rw[h1];exact h.drawn,by rw[h1];exact h.size,h.good,by rw[h1,h2,h3];exact h.oldH,by rw[h1,h3];exact h.old,h.obs,h.dead,h.inj,by rw[h1,h3];exact h.own⟩
theorem jAK {ρ':Env} {k:Nat} {s:Sh} {x:s.D} {v:Value} (hp:∀p,ρ'.blk k=some p→ρ.blk k=some p∧ρ'.len k=ρ.len k) (h:SV.den P ρ (joL k s x) v):SV.den P ρ' (jhp k s) v:=by
  cases s with
  |cl c=>
    cases c with
    |dat t=>simp[jhp,SV.den]
    |row E t nl=>
      simp only[joL,jq9,jhp,SV.den] at h⊢;intro p hq;obtain⟨h1,h2⟩:=hp p hq;rw[h2];exact h p h1
    |map kt vt=>
      simp only[joL,jq9,jhp,SV.den] at h⊢;intro p hq;exact h p (hp p hq).1
  |box T cs=>
    simp only[joL,jhp,SV.den] at h⊢;intro p hq;exact h p (hp p hq).1
  |fbox f T cs=>
    simp only[joL,jhp,SV.den,SV.denL] at h⊢;obtain⟨lb,e,u,r,hl,hu,hr⟩:=h;exact⟨lb,e,u,r,hl,fun p hq=>hu p (hp p hq).1,hr⟩
theorem jd2 {σ τ:St} {fz:List Nat} (hS:Sat P B ρ τ.obj w) (hF:Frz σ τ fz) {tmps:Array Value} (hd:∀s,SV.den P ρ (σ.get s) (tmps.getD s undef)):
    ∀(rs:List Sh) (rv:List ResultVar) (r:RD rs) (os f:List Nat),jd3 σ rs rv=some (r,os,f)→(∀o,o∈f→o∈fz)→jji σ τ os→
      ∃ss:List Nat,rv=ss.map ResultVar.tmp∧jDo ρ.H w rs (ss.map fun s=>tmps.getD s undef) r (j8 ρ os)
  |[],[],r,os,f,h,_,_=>by
    simp[jd3] at h
    obtain⟨rfl,rfl⟩:=h
    exact⟨[],rfl,rfl,rfl⟩
  |[],_::_,r,os,f,h,_,_=>by simp[jd3] at h
  |_::_,[],r,os,f,h,_,_=>by simp[jd3] at h
  |s::rs,.cell _ _::rv,r,os,f,h,_,_=>by simp[jd3] at h
  |s::rs,.tmp t::rv,r,os,f,h,hf,hk=>by
    simp only[jd3] at h
    split at h
    case h_2=>cases h
    rename_i x o1 f1 hx
    split at h
    case h_2=>cases h
    rename_i y o2 f2 hy
    simp at h
    obtain⟨rfl,rfl,rfl⟩:=h
    obtain⟨ss,e,hr⟩:=jd2 hS hF hd rs rv y o2 f2 hy (fun o ho=>hf o (jGQ _ ho)) (fun o ho=>hk o (jGQ _ ho))
    exact⟨t::ss,by simp[e],j8 ρ o1,j8 ρ o2,wO ρ o1 o2,jcb hS hF hx (fun o ho=>hf o (jGR _ ho)) (fun o ho=>hk o (jGR _ ho)) (hd t),hr⟩
theorem zR {σ τ:St} {fz:List Nat} (hS:Sat P B ρ τ.obj w) (hF:Frz σ τ fz):
    ∀(ps:List yK) (i:Nat) (vs:List Value) (k:KD ps) (os f:List Nat),vD σ ps i=some (k,os,f)→vs.length=ps.length→(∀(j:Nat) s b v,ps[j]? =some (.own s b)→vs[j]? =some v→SV.den P ρ (jhp (gI (i+j)) s) v)→
      (∀o,o∈f→o∈fz)→jji σ τ os→jjh ρ.H w ps vs k (j8 ρ os)
  |[],i,vs,k,os,f,h,_,_,_,_=>by
    simp[vD] at h
    obtain⟨rfl,rfl⟩:=h
    exact rfl
  |p::ps,i,[],k,os,f,h,hl,_,_,_=>by simp at hl
  |p::ps,i,v::vs,k,os,f,h,hl,hd,hf,hk=>by
    have hd':∀(j:Nat) s b u,ps[j]? =some (.own s b)→vs[j]? =some u→SV.den P ρ (jhp (gI (i+1+j)) s) u:=fun j s b u h1 h2=>by
      have:=hd (j+1) s b u (by simpa using h1) (by simpa using h2)
      rwa [show i+(j+1)=i+1+j by omega] at this
    have hl':vs.length=ps.length:=by simpa using hl
    cases p with
    |val t=>exact zR hS hF ps (i+1) vs k os f h hl' hd' hf hk
    |ref t=>exact zR hS hF ps (i+1) vs k os f h hl' hd' hf hk
    |nil _=>exact zR hS hF ps (i+1) vs k os f h hl' hd' hf hk
    |clo _=>exact zR hS hF ps (i+1) vs k os f h hl' hd' hf hk
    |fn qs rs=>exact zR hS hF ps (i+1) vs k os f h hl' hd' hf hk
    |own s b=>
      cases b with
      |false=>exact zR hS hF ps (i+1) vs k os f h hl' hd' hf hk
      |true=>
        simp only[vD] at h
        split at h
        case h_2=>cases h
        rename_i x o1 f1 hx
        split at h
        case h_2=>cases h
        rename_i y o2 f2 hy
        simp at h
        obtain⟨rfl,rfl,rfl⟩:=h
        have h0:=hd 0 s true v rfl rfl
        exact⟨j8 ρ o1,j8 ρ o2,wO ρ o1 o2,jcb hS hF hx (fun o ho=>hf o (jGR _ ho)) (fun o ho=>hk o (jGR _ ho)) h0,
          zR hS hF ps (i+1) vs y o2 f2 hy hl' hd' (fun o ho=>hf o (jGQ _ ho)) (fun o ho=>hk o (jGQ _ ho))⟩
theorem jp7:∀(ps:List yK) (d:OD ps) (i j:Nat) s b,ps[j]? =some (.own s b)→∃x:s.D,jF (oSl ps d i) (i+j)=some (joL (gI (i+j)) s x)
  |[],d,i,j,s,b,h=>by simp at h
  |p::ps,d,i,j,s,b,h=>by
    have:∃sv,oSl (p::ps) d i=(i,sv)::oSl ps d.2 (i+1):=by cases p<;>exact⟨_,rfl⟩
    obtain⟨sv,e⟩:=this
    cases j with
    |zero=>
      simp at h
      subst h
      exact⟨d.1,by simp[oSl,jF]⟩
    |succ j=>
      obtain⟨x,hx⟩:=jp7 ps d.2 (i+1) j s b (by simpa using h)
      refine⟨x,?_⟩
      rw[e,jw (by omega),show i+(j+1)=i+1+j by omega]
      exact hx
theorem jFp (hC:C.ok P) (hm:P.follows .mixedOrders=true) {f:Nat} {fn:Func} {body:Code} {s:kx} (hf:P.funcs[f]? =some fn) (hb:fn.body=some body)
    (hname:(fn.name== "runtime.NumGoroutine")=false) (hn:fn.ntmps=C.n) (hps:s.ps.length≤C.n) (hnm:vf (jw9 s.ps 0)=true) (A:Ann) (h:jcR C A fn body s):yf P f s:=by
  unfold jcR at h;refine⟨qb hf hb hname,fun H w vals d bs hg hargs hnd hpre=> ?_⟩;have hlen:=jdO s.ps vals d bs hargs;refine calls_of_wp hf hb ?_;have hv:=vZ _ _ (h d) hpre
  let B0:zF:=⟨w,H,bs,fun _=>none,fun _=>0⟩
  let ρ0:Env:=⟨H,fun _=>none,fun _=>0⟩
  have hS0:Sat P B0 ρ0 (oo []) w:=by
    refine⟨rfl,rfl,rfl,jGU _,jGU _,hg,fun _ _ _=>rfl,fun _ _ _=>rfl,?_,fun _ _=>rfl,?_,?_⟩
    · intro o x hx;simp[oo,St.obj,jF] at hx
    · intro o o' b C1 C2 h1;simp[ρ0] at h1
    · intro o b C1 h1;simp[ρ0] at h1
  obtain⟨ρf,a,hsl⟩:=jkS s.ps 0 hS0 (d:=d) hargs hnd (fun b hb=>⟨.inr hb,fun o C' h=>by simp[ρ0] at h⟩) (km _ hnm)
    (fun n _=>⟨by simp[oo,St.obj,jF],fun o T fz cs h=>by simp[oo,St.obj,jF] at h⟩)
  let B:zF:=⟨w,H,bs,ρf.blk,ρf.len⟩
  have hSf:Sat P B ρf (⟨oSl s.ps d 0,oOb s.ps d 0⟩:St).obj w:=by
    have:=jvK (B':=B) a.sat rfl rfl rfl;rw[jHf] at this;exact this
  have hR:Rel P B C.n ⟨oSl s.ps d 0,oOb s.ps d 0⟩ {tmps:=vals.toArray++Array.replicate (fn.ntmps-vals.toArray.size) undef,defers:=[]} w:=by
    refine⟨rfl,by simp;omega,ρf,hSf,?_,fun o p _ hp=>⟨hp,rfl⟩,fun _ _ hb=>by rw[a.H];exact hb⟩;intro k v hk;obtain⟨x,h1,h2⟩:=hsl k v hk;have hlt:=(jGW.1 h1).1;simp only[Nat.sub_zero] at h1 hlt;have:(vals.toArray++Array.replicate (fn.ntmps-vals.toArray.size) undef).getD k undef=x:=by
      rw[jG0,jHE (by simpa using hlt)];simp[h1]
    rw[this];exact h2
  refine wC hC hm A body _ _ _ _ w hv hR (fun e σ a' w' _ hK hR'=> ?_);have main:(match jd3 σ s.rs fn.results.toList,vD σ s.ps 0 with
    |some (r,o1,f1),some (k,o2,f2)=>match vf (o1++o2),jdP (f1++f2) (o1++o2) with
      |true,false=>r=(s.F d).1∧k=(s.F d).2
      |_,_=>False
    |_,_=>False)→a'.defers=[]∧∃v,(Go.results fn a'.tmps).run P w'= .ok v w'∧jtl H w bs s vals d (.returned v) w':=by
    intro hr
    split at hr
    case h_2=>exact hr.elim
    rename_i r o1 f1 k o2 f2 hres hkept
    split at hr
    case h_2=>exact hr.elim
    rename_i hno hme;obtain⟨hr1,hr2⟩:=hr;obtain⟨h1,h2,ρ',hS',hSl,hPin⟩:=hR';obtain⟨ρ2,hS2,hle,hblk,hln⟩:=jP (σ:=σ) (f1++f2) hS';have hd:∀k,SV.den P ρ2 (σ.get k) (a'.tmps.getD k undef):=by
      intro k;have:=jK (P:=P) (a:=a') hSl (.tmp k);exact SV.den_mono hle _ _ (fun o ho=>by simp at ho) this
    have hkeep:jji σ (σ.frz (f1++f2)) (o1++o2):=by
      intro o ho;rw[ku,if_neg];exact fun hm=>wd _ _ hme o hm ho
    obtain⟨ss,e1,e2⟩:=jd2 hS2 (qa σ _) hd s.rs _ _ _ _ hres (fun o ho=>jGR _ ho) (fun o ho=>hkeep o (jGR _ ho));have e3:=zR hS2 (qa σ _) s.ps 0 vals k o2 f2 hkept hlen (fun j sh b v hj hvj=>by
      obtain⟨x,hx⟩:=jp7 s.ps d 0 j sh b hj;obtain⟨y,y1,y2⟩:=hsl (0+j) _ hx;have:y=v:=by
        rw[show 0+j-0=j by omega,hvj] at y1;simpa using y1.symm
      subst this;refine jAK (fun p hp=> ?_) y2;rw[hblk] at hp;obtain⟨q1,q2⟩:=hPin.1 (gI (0+j)) p (by unfold gI;omega) hp;exact⟨q1,by rw[hln];exact q2⟩) (fun o ho=>jGQ _ ho) (fun o ho=>hkeep o (jGQ _ ho))
    refine⟨h1,_,jf2 e1 a'.tmps w',ss.map (fun s=>a'.tmps.getD s undef),ρ2.H,j8 ρ2 o1,j8 ρ2 o2,rfl,?_,by rw[←hr1];exact e2,by rw[←hr2];exact e3,?_,?_⟩
    · exact⟨hS2.os,hS2.tape,hS2.output,hS2.drawn,hS2.size,fun b hb hbs=>hS2.old b hb hbs,fun b hb hbs=>hS2.oldH b hb hbs,hS2.good⟩
    · rw[←wO];exact vH hS2 _ (km _ hno)
    · rw[←wO];intro b hb;obtain⟨o,Cp,_,h3⟩:=(jX _).1 hb;rcases hS2.own o b Cp h3 with h|h
      · exact .inr h
      · exact .inl h
  cases e with
  |normal=>exact main hK
  |ret=>exact main hK
  |exit id=>exact hK.elim
end
end Go.X
namespace Go.X
open Go.RowKit (Below)
def jhq:SV→Option Nat
  | .own o _=>some o
  | .mp o=>some o
  | .bp o 0=>some o
  | .clo _ [.bp o 0]=>some o
  |_=>none
def jom (C:Ctx) (σ:St):(p:yK)→SV→Option (p.Data×List Nat×List Nat)
  | .val t,v=>match qH σ t v with|some (x,f)=>some (x,[],f)|none=>none
  | .ref t,v=>match jtE σ t v with|some (x,f)=>some (x,[],f)|none=>none
  | .nil b,v=>match v with| .lit u=>(match jz3 b u with|true=>some ((),[],[])|false=>none)|_=>none
  | .clo f,v=>match v with| .clo g []=>(match Nat.beq g f with|true=>some ((),[],[])|false=>none)|_=>none
  | .fn ps rs,v=>match jDE C σ ps rs v with|some (x,f)=>some (x,[],f)|none=>none
  | .own s true,v=>match jzD s,jhq v with
    |true,some _=>jsF σ s v
    |_,_=>none
  | .own s false,v=>match jzD s with|true=>jsF σ s v|false=>none
def jty (C:Ctx) (σ:St):(ps:List yK)→List SV→Option (OD ps×List Nat×List Nat)
  |[],[]=>some ((),[],[])
  |p::ps,v::vs=>match jom C σ p v with
    |some (x,os,f)=>match jty C σ ps vs with
      |some (y,os',f')=>some ((x,y),os++os',f++f')
      |none=>none
    |none=>none
  |_,_=>none
def jnW (v:SV):Nat:=match jhq v with|some o=>o|none=>0
def kn (dst i j:Nat):Nat:=1000*(dst+1)+50*i+j
def rn (dst j:Nat):Nat:=match j with|0=>dst|_=>1000*(dst+1)+900+j
def rnn (dst j i:Nat):Nat:=1000*(dst+1)+500+50*j+i
def ky (dst:Nat):(ps:List yK)→List SV→KD ps→Nat→List (Nat×Option Ob)
  | .own s true::ps,v::vs,d,i=>ky dst ps vs d.2 (i+1)++jtt (jnW v) (kn dst i) s d.1
  | .own _ false::ps,_::vs,d,i=>ky dst ps vs d (i+1)
  | .val _::ps,_::vs,d,i=>ky dst ps vs d (i+1)
  | .ref _::ps,_::vs,d,i=>ky dst ps vs d (i+1)
  | .nil _::ps,_::vs,d,i=>ky dst ps vs d (i+1)
  | .clo _::ps,_::vs,d,i=>ky dst ps vs d (i+1)
  | .fn _ _::ps,_::vs,d,i=>ky dst ps vs d (i+1)
  |_,_,_,_=>[]
def za (dst:Nat):List yK→List SV→Nat→List Nat
  | .own s true::ps,v::vs,i=>ke (jnW v) (kn dst i) s++za dst ps vs (i+1)
  | .own _ false::ps,_::vs,i=>za dst ps vs (i+1)
  | .val _::ps,_::vs,i=>za dst ps vs (i+1)
  | .ref _::ps,_::vs,i=>za dst ps vs (i+1)
  | .nil _::ps,_::vs,i=>za dst ps vs (i+1)
  | .clo _::ps,_::vs,i=>za dst ps vs (i+1)
  | .fn _ _::ps,_::vs,i=>za dst ps vs (i+1)
  |_,_,_=>[]
def zQ (dst:Nat):List yK→List SV→Nat→List Nat
  | .own (.box _ cs) true::ps,_::vs,i=>vX (kn dst i) cs 0++zQ dst ps vs (i+1)
  | .own (.fbox _ _ cs) true::ps,_::vs,i=>vX (kn dst i) cs 0++zQ dst ps vs (i+1)
  | .own _ _::ps,_::vs,i=>zQ dst ps vs (i+1)
  | .val _::ps,_::vs,i=>zQ dst ps vs (i+1)
  | .ref _::ps,_::vs,i=>zQ dst ps vs (i+1)
  | .nil _::ps,_::vs,i=>zQ dst ps vs (i+1)
  | .clo _::ps,_::vs,i=>zQ dst ps vs (i+1)
  | .fn _ _::ps,_::vs,i=>zQ dst ps vs (i+1)
  |_,_,_=>[]
def jbW (dst:Nat):(rs:List Sh)→RD rs→Nat→List (Nat×Option Ob)
  |[],_,_=>[]
  |s::rs,d,j=>jbW dst rs d.2 (j+1)++jtt (rn dst j) (rnn dst j) s d.1
def vd (dst:Nat):List Sh→Nat→List Nat
  |[],_=>[]
  |s::rs,j=>ke (rn dst j) (rnn dst j) s++vd dst rs (j+1)
def jhs (dst:Nat):(rs:List Sh)→RD rs→Nat→List SV
  |[],_,_=>[]
  |s::rs,d,j=>joL (rn dst j) s d.1::jhs dst rs d.2 (j+1)
def jrZ:List SV→SV
  |[v]=>v
  |vs=> .tup vs
def jdR:List Nat→List (Nat×Option Ob)
  |[]=>[]
  |o::r=>(o,none)::jdR r
def jkT (σ:St):List Nat→Bool
  |[]=>true
  |n::r=>match σ.obj n,vF n σ.ob with
    |none,true=>jkT σ r
    |_,_=>false
def jmp (C:Ctx) (s:kx) (dst:Nat) (σ:St) (svs:List SV):Option Out:=
  match jty C σ s.ps svs with
  |none=>none
  |some (d,os,fz)=>match vf os,jdP fz os,vf (vd dst s.rs 0++za dst s.ps svs 0),jkT σ (vd dst s.rs 0++zQ dst s.ps svs 0) with
    |true,false,true,true=>some ⟨s.pre d,[],jrZ (jhs dst s.rs (s.F d).1 0),fz,ky dst s.ps svs (s.F d).2 0++(jbW dst s.rs (s.F d).1 0++jdR os),vd dst s.rs 0++zQ dst s.ps svs 0⟩
    |_,_,_,_=>none
def jGj (C:Ctx) (l:List (Nat×kx)) (f dst:Nat) (σ:St) (svs:List SV):Option Out:=
  match jF l f with
  |some s=>jmp C s dst σ svs
  |none=>none
section
variable {P:Program} {B:zF} {C:Ctx} {σ τ:St} {ρ:Env} {w:World}
theorem jz2 {b:Bool} {v:Value} (h:jz3 b v=true):v=jF5 b:=by
  cases b with
  |true=>
    simp only[jz3,jiW] at h
    split at h
    · rfl
    · cases h
  |false=>exact wy h
theorem jvj (hC:C.ok P) (hS:Sat P B ρ τ.obj w) {fz:List Nat} (hF:Frz σ τ fz) {p:yK} {sv:SV} {x:p.Data} {os f:List Nat} (h:jom C σ p sv=some (x,os,f)) (hf:∀o,o∈f→o∈fz) (hk:jji σ τ os)
    {v:Value} (hv:SV.den P ρ sv v):jGb P ρ.H w p v x (j8 ρ os):=by
  cases p with
  |val t=>
    simp only[jom] at h
    split at h
    · rename_i y f' hd;simp at h;obtain⟨rfl,rfl,rfl⟩:=h;exact⟨jM hS hF hd hf hv,rfl⟩
    · cases h
  |ref t=>
    simp only[jom] at h
    split at h
    · rename_i y f' hd;simp at h;obtain⟨rfl,rfl,rfl⟩:=h;exact⟨jbG hS hF hd hf hv,rfl⟩
    · cases h
  |nil _=>
    simp only[jom] at h
    split at h
    case h_2=>cases h
    split at h
    case h_2=>cases h
    rename_i hn;simp at h;obtain⟨rfl,rfl⟩:=h;simp only[SV.den] at hv;exact⟨by rw[hv,jz2 hn],rfl⟩
  |clo f=>
    simp only[jom] at h
    split at h
    case h_2=>cases h
    split at h
    case h_2=>cases h
    rename_i hg;simp at h;obtain⟨rfl,rfl⟩:=h;simp only[SV.den,SV.denL] at hv;obtain⟨vs,rfl,hvs⟩:=hv;have hvs:vs= #[]:=jHb.1 (by simpa using hvs);have:=jGP hg;subst this;subst hvs;exact⟨rfl,rfl⟩
  |fn ps rs=>
    simp only[jom] at h
    split at h
    · rename_i y f' hd;simp at h;obtain⟨rfl,rfl,rfl⟩:=h;exact⟨joK hC hS hF hd hf hv,rfl⟩
    · cases h
  |own s b=>
    cases b with
    |true=>
      simp only[jom] at h
      split at h
      · exact jcb hS hF h hf hk hv
      · cases h
    |false=>
      simp only[jom] at h
      split at h
      · exact jcb hS hF h hf hk hv
      · cases h
theorem jos (hC:C.ok P) (hS:Sat P B ρ τ.obj w) {fz:List Nat} (hF:Frz σ τ fz):∀{ps:List yK} {svs:List SV} {d:OD ps} {os f:List Nat},jty C σ ps svs=some (d,os,f)→(∀o,o∈f→o∈fz)→jji σ τ os→
    ∀{vs:List Value},SV.denL P ρ svs vs→jbu P ρ.H w ps vs d (j8 ρ os)
  |[],[],d,os,f,h,_,_,vs,hv=>by
    simp[jty] at h
    obtain⟨rfl,rfl⟩:=h
    simp[SV.denL] at hv
    exact⟨hv,rfl⟩
  |[],_::_,d,os,f,h,_,_,vs,hv=>by simp[jty] at h
  |_::_,[],d,os,f,h,_,_,vs,hv=>by simp[jty] at h
  |p::ps,sv::svs,d,os,f,h,hf,hk,vs,hv=>by
    simp only[jty] at h
    split at h
    case h_2=>cases h
    rename_i x o1 f1 hx
    split at h
    case h_2=>cases h
    rename_i y o2 f2 hy
    simp at h
    obtain⟨rfl,rfl,rfl⟩:=h
    simp only[SV.denL] at hv
    obtain⟨v,r,rfl,v1,v2⟩:=hv
    exact⟨j8 ρ o1,j8 ρ o2,wO ρ o1 o2,jvj hC hS hF hx (fun o ho=>hf o (jGR _ ho)) (fun o ho=>hk o (jGR _ ho)) v1,
      jos hC hS hF hy (fun o ho=>hf o (jGQ _ ho)) (fun o ho=>hk o (jGQ _ ho)) v2⟩
theorem jFO {H:Imm} {c:Cl} {v:Value} {x:c.D} {bs:List Nat} (h:ClV H w c v x bs):∀b,b∈bs→H b=none:=by
  intro b hb;cases c with
  |dat t=>obtain⟨_,rfl⟩:=h;simp at hb
  |row E t nl=>
    rcases h.2 with⟨_,_,_,rfl⟩|⟨b',_,_,_,rfl,hH,_⟩
    · simp at hb
    · simp at hb;subst hb;exact hH
  |map kt vt=>obtain⟨b',_,_,_,rfl,hH,_⟩:=h;simp at hb;subst hb;exact hH
theorem jAT {H:Imm}:∀(cs:List Cl) (vs:List Value) (x:Cl.Ds cs) (bs:List Nat),jCS H w cs vs x bs→∀b,b∈bs→H b=none
  |[],vs,x,bs,h,b,hb=>by obtain⟨_,rfl⟩:=h;simp at hb
  |c::cs,[],x,bs,h,b,hb=>h.elim
  |c::cs,v::vs,x,bs,h,b,hb=>by
    obtain⟨b1,b2,rfl,h1,_,h2⟩:=h
    rcases jG1.1 hb with hb|hb
    · exact jFO h1 b hb
    · exact jAT cs vs x.2 b2 h2 b hb
theorem jGg {H:Imm} {s:Sh} {v:Value} {x:s.D} {bs:List Nat} (h:ShV H w s v x bs):∀b,b∈bs→H b=none:=by
  intro b hb;cases s with
  |cl c=>exact jFO h b hb
  |box T cs=>
    obtain⟨b',vs,bs',_,rfl,hH,_,hcs⟩:=h;rcases jGS.1 hb with rfl|hb
    · exact hH
    · exact jAT cs _ x bs' hcs b hb
  |fbox f T cs=>
    obtain⟨b',vs,bs',_,rfl,hH,_,hcs⟩:=h;rcases jGS.1 hb with rfl|hb
    · exact hH
    · exact jAT cs _ x bs' hcs b hb
theorem jzB {H:Imm}:∀(ps:List yK) (vs:List Value) (d:OD ps) (bs:List Nat),jbu P H w ps vs d bs→∀b,b∈bs→H b=none
  |[],vs,d,bs,h,b,hb=>by obtain⟨_,rfl⟩:=h;simp at hb
  |p::ps,[],d,bs,h,b,hb=>h.elim
  |p::ps,v::vs,d,bs,h,b,hb=>by
    obtain⟨b1,b2,rfl,h1,h2⟩:=h
    rcases jG1.1 hb with hb|hb
    · cases p with
      |val t=>obtain⟨_,rfl⟩:=h1;simp at hb
      |ref t=>obtain⟨_,rfl⟩:=h1;simp at hb
      |nil _=>obtain⟨_,rfl⟩:=h1;simp at hb
      |clo _=>obtain⟨_,rfl⟩:=h1;simp at hb
      |fn qs rs=>obtain⟨_,rfl⟩:=h1;simp at hb
      |own s k=>exact jGg h1 b hb
    · exact jzB ps vs d.2 b2 h2 b hb
def jii (ρ:Env):List yK→List SV→List Value→Prop
  | .own s true::ps,sv::svs,v::vs=>(∃Cp lp,ρ.blk (jnW sv)=some (jwX Cp s v)∧ρ.len (jnW sv)=jzX lp s v)∧jii ρ ps svs vs
  | .own _ false::ps,_::svs,_::vs=>jii ρ ps svs vs
  | .val _::ps,_::svs,_::vs=>jii ρ ps svs vs
  | .ref _::ps,_::svs,_::vs=>jii ρ ps svs vs
  | .nil _::ps,_::svs,_::vs=>jii ρ ps svs vs
  | .clo _::ps,_::svs,_::vs=>jii ρ ps svs vs
  | .fn _ _::ps,_::svs,_::vs=>jii ρ ps svs vs
  |_,_,_=>True
theorem jDP (hS:Sat P B ρ τ.obj w) {s:Sh} {sv:SV} {x:s.D} {os f:List Nat} (h:jsF σ s sv=some (x,os,f)) (hn:jzD s=true) {r:Nat} (hr:jhq sv=some r) (hk:jji σ τ os) {v:Value} (hv:SV.den P ρ sv v):
    r∈os∧∃Cp lp,ρ.blk r=some (jwX Cp s v)∧ρ.len r=jzX lp s v:=by
  unfold jsF at h
  split at h
  · rename_i c;unfold jAo at h
    split at h
    · cases hn
    · rename_i E t nl o u;simp[jhq] at hr;subst hr
      split at h
      case h_2=>cases h
      rename_i E' t' nl' l ho
      split at h
      case h_2=>cases h
      simp at h;obtain⟨_,rfl,_⟩:=h;have ho':=hk o (by simp);rw[ho] at ho';obtain⟨p,hp,_⟩:=hS.obs o _ ho';simp only[SV.den] at hv;have hv:=hv p hp;refine⟨by simp,0,0,?_⟩;cases p with
      |none=>obtain⟨v1,v2⟩:=hv;subst v1;exact⟨hp,v2⟩
      |some q=>obtain⟨v1,_⟩:=hv;subst v1;exact⟨hp,rfl⟩
    · rename_i E t nl o u n;simp[jhq] at hr
    · rename_i E t nl u;simp[jhq] at hr
    · rename_i kt vt o;simp[jhq] at hr;subst hr
      split at h
      case h_2=>cases h
      rename_i kt' vt' l ho
      split at h
      case h_2=>cases h
      simp at h;obtain⟨_,rfl,_⟩:=h;have ho':=hk o (by simp);rw[ho] at ho';obtain⟨p,hp,hs⟩:=hS.obs o _ ho';simp only[SV.den] at hv;obtain⟨b,Cp,rfl,rfl⟩:=hv p hp;exact⟨by simp,Cp,ρ.len o,hp,rfl⟩
    · cases h
  · rename_i T cs o;simp[jhq] at hr;subst hr
    split at h
    case h_2=>cases h
    rename_i T' vs ho
    split at h
    case h_2=>cases h
    simp at h;obtain⟨_,rfl,_⟩:=h;have ho':=hk o (by simp);rw[ho] at ho';obtain⟨p,hp,hs⟩:=hS.obs o _ ho';simp only[SV.den] at hv;obtain⟨b,Cp,rfl,rfl⟩:=hv p hp;exact⟨by simp,Cp,ρ.len o,hp,rfl⟩
  · rename_i g T cs g' o;simp[jhq] at hr;subst hr
    split at h
    case h_2=>cases h
    rename_i T' vs ho
    split at h
    case h_2=>cases h
    simp at h;obtain⟨_,rfl,_⟩:=h;have ho':=hk o (by simp);rw[ho] at ho';obtain⟨p,hp,hs⟩:=hS.obs o _ ho';simp only[SV.den,SV.denL] at hv;obtain⟨lb,rfl,u,r,hl,hu,hr⟩:=hv;obtain⟨b,Cp,rfl,rfl⟩:=hu p hp;subst hr;refine⟨by simp,Cp,ρ.len o,?_,rfl⟩;simp only[jwX,hl];exact hp
  · cases h
theorem jot (hS:Sat P B ρ τ.obj w):∀{ps:List yK} {svs:List SV} {d:OD ps} {os f:List Nat},jty C σ ps svs=some (d,os,f)→jji σ τ os→
    ∀{vs:List Value},SV.denL P ρ svs vs→jii ρ ps svs vs∧∀dst i n,n∈za dst ps svs i→n∈os∨n∈zQ dst ps svs i
  |[],[],d,os,f,h,_,vs,hv=>⟨trivial,fun dst i n hn=>by simp[za] at hn⟩
  |[],_::_,d,os,f,h,_,vs,hv=>by simp[jty] at h
  |_::_,[],d,os,f,h,_,vs,hv=>by simp[jty] at h
  |p::ps,sv::svs,d,os,f,h,hk,vs,hv=>by
    simp only[jty] at h
    split at h
    case h_2=>cases h
    rename_i x o1 f1 hx
    split at h
    case h_2=>cases h
    rename_i y o2 f2 hy
    simp at h
    obtain⟨rfl,rfl,rfl⟩:=h
    simp only[SV.denL] at hv
    obtain⟨v,r,rfl,v1,v2⟩:=hv
    obtain⟨i1,i2⟩:=jot hS hy (fun o ho=>hk o (jGQ _ ho)) v2
    have skip:∀dst i n,n∈za dst ps svs (i+1)→n∈o1++o2∨n∈zQ dst ps svs (i+1):=fun dst i n hn=>by
      rcases i2 dst (i+1) n hn with h|h
      · exact .inl (jGQ _ h)
      · exact .inr h
    cases p with
    |val t=>exact⟨i1,fun dst i n hn=>skip dst i n hn⟩
    |ref t=>exact⟨i1,fun dst i n hn=>skip dst i n hn⟩
    |nil _=>exact⟨i1,fun dst i n hn=>skip dst i n hn⟩
    |clo _=>exact⟨i1,fun dst i n hn=>skip dst i n hn⟩
    |fn qs rs=>exact⟨i1,fun dst i n hn=>skip dst i n hn⟩
    |own s b=>
      cases b with
      |false=>exact⟨i1,fun dst i n hn=>by
          have:=skip dst i n hn
          cases s<;>exact this⟩
      |true=>
        simp only[jom] at hx
        split at hx
        case h_2=>cases hx
        rename_i rt hnd hrt
        obtain⟨r1,r2⟩:=jDP hS hx hnd hrt (fun o ho=>hk o (jGR _ ho)) v1
        have hrd:jnW sv=rt:=by unfold jnW;rw[hrt]
        refine⟨⟨by rw[hrd];exact r2,i1⟩,fun dst i n hn=> ?_⟩
        simp only[za,jG1] at hn
        rcases hn with hn|hn
        · cases s with
          |cl c=>
            have:n=rt:=by
              cases c with
              |dat t=>cases hnd
              |row E t nl=>simpa[ke,qq,hrd] using hn
              |map kt vt=>simpa[ke,qq,hrd] using hn
            subst this;exact .inl (jGR _ r1)
          |box T cs=>
            simp only[ke,jGS] at hn;rcases hn with hn|hn
            · rw[hrd] at hn;subst hn;exact .inl (jGR _ r1)
            · exact .inr (by simp only[zQ];exact jGR _ hn)
          |fbox f T cs=>
            simp only[ke,jGS] at hn;rcases hn with hn|hn
            · rw[hrd] at hn;subst hn;exact .inl (jGR _ r1)
            · exact .inr (by simp only[zQ];exact jGR _ hn)
        · rcases skip dst i n hn with h|h
          · exact .inl h
          · refine .inr ?_;cases s with
            |cl c=>exact h
            |box T cs=>simp only[zQ];exact jGQ _ h
            |fbox f T cs=>simp only[zQ];exact jGQ _ h
theorem jq4 (dst:Nat):∀(rs:List Sh) (j:Nat) {ob:List (Nat×Option Ob)} {ρ:Env} (_:Sat P B ρ (oo ob) w) {vs:List Value} {d:RD rs} {bs:List Nat} (_:jDo ρ.H w rs vs d bs) (_:bs.Nodup) (_:∀b,b∈bs→OkB B ρ b)
    (_:(vd dst rs j).Nodup) (_:∀n,n∈vd dst rs j→oo ob n=none∧kz (oo ob) n),
    ∃ρ',jgR P B ρ w ob (jbW dst rs d j) (vd dst rs j) bs ρ'∧SV.denL P ρ' (jhs dst rs d j) vs
  |[],j,ob,ρ,hS,vs,d,bs,hv,_,_,_,_=>by
    obtain⟨rfl,rfl⟩:=hv
    exact⟨ρ,⟨hS,Env.le.refl _ _,rfl,fun _ _=>⟨rfl,rfl⟩,fun _ _ _ h=> .inl h⟩,by simp[jhs,SV.denL]⟩
  |s::rs,j,ob,ρ,hS,[],d,bs,hv,_,_,_,_=>hv.elim
  |s::rs,j,ob,ρ,hS,v::vs,d,bs,hv,hnd,hb,hnn,hk=>by
    obtain⟨b1,b2,rfl,v1,v2⟩:=hv
    simp only[vd] at hnn hk
    rw[jHW] at hnn hnd
    obtain⟨n1,n2,n3⟩:=hnn
    obtain⟨d1,d2,d3⟩:=hnd
    obtain⟨ρ1,a1,e1,_⟩:=jvt hS (s:=s) (k:=rn dst j) (nm:=rnn dst j) v1 d1 (fun b hb'=>hb b (jGR _ hb')) n1 (fun n hn=>hk n (jGR _ hn)) 0 0
    obtain⟨ρ2,a2,e2⟩:=jq4 dst rs (j+1) a1.sat (vs:=vs) (d:=d.2) (bs:=b2) (by rw[a1.H];exact v2) d2 (fun b hb'=>⟨(hb b (jGQ _ hb')).1,fun o C' h=>by
        rcases a1.blk o b C' h with h|h
        · exact(hb b (jGQ _ hb')).2 o C' h
        · exact d3 b h b hb' rfl⟩) n2 (fun n hn=>by
        obtain⟨k1,k2⟩:=hk n (jGQ _ hn)
        have hnn:n∉ke (rn dst j) (rnn dst j) s:=fun h=>n3 n h n hn rfl
        exact⟨by rw[qm (by rw[jdT];exact hnn)];exact k1,jql hnn k2⟩)
    refine⟨ρ2,⟨by simp only[jbW,jHc];exact a2.sat,?_,a2.H.trans a1.H,fun o ho=> ?_,fun o b C' h=> ?_⟩,?_⟩
    · exact(a1.le.weaken (fun o ho=>jGR _ ho)).trans (a2.le.weaken (fun o ho=>jGQ _ ho))
    · simp only[vd,jG1,not_or] at ho
      obtain⟨s1,s2⟩:=a1.same o ho.1
      obtain⟨s3,s4⟩:=a2.same o ho.2
      exact⟨s3.trans s1,s4.trans s2⟩
    · rcases a2.blk o b C' h with h|h
      · rcases a1.blk o b C' h with h|h
        · exact .inl h
        · exact .inr (jGR _ h)
      · exact .inr (jGQ _ h)
    · simp only[jhs,SV.denL]
      refine⟨v,vs,rfl,SV.den_mono a2.le _ _ (fun o ho=> ?_) e1,e2⟩
      exact svSh_refs (fun h=>n3 o h o ho rfl)
where
  svSh_refs {o k:Nat} {nm:Nat→Nat} {s:Sh} {x:s.D} (h:o∉ke k nm s):(joL k s x).refs o=false:=by
    cases s with
    |cl c=>
      cases c with
      |dat t=>rfl
      |row E t nl=>
        have hne:o≠k:=fun e=>h (by simp[ke,qq,e])
        simp only[joL,jq9,SV.refs];cases hb':Nat.beq o k with
        |false=>rfl
        |true=>exact absurd (jGP hb') hne
      |map kt vt=>
        have hne:o≠k:=fun e=>h (by simp[ke,qq,e])
        simp only[joL,jq9,SV.refs];cases hb':Nat.beq o k with
        |false=>rfl
        |true=>exact absurd (jGP hb') hne
    |box T cs=>
      have hne:o≠k:=fun e=>h (by simp[ke,e])
      simp only[joL,SV.refs];cases hb':Nat.beq o k with
      |false=>rfl
      |true=>exact absurd (jGP hb') hne
    |fbox f T cs=>
      have hne:o≠k:=fun e=>h (by simp[ke,e])
      simp only[joL,SV.refs,SV.refs.refsL];cases hb':Nat.beq o k with
      |false=>simp
      |true=>exact absurd (jGP hb') hne
theorem yd {ρ1:Env} (dst:Nat):∀(ps:List yK) (i:Nat) {ob:List (Nat×Option Ob)} {ρ:Env} (_:Sat P B ρ (oo ob) w) {svs:List SV} {vs:List Value} {d:KD ps} {bs:List Nat} (_:svs.length=vs.length) (_:jjh ρ.H w ps vs d bs) (_:bs.Nodup)
    (_:∀b,b∈bs→OkB B ρ b) (_:(za dst ps svs i).Nodup) (_:∀n,n∈za dst ps svs i→oo ob n=none∧kz (oo ob) n) (_:jii ρ1 ps svs vs),
    ∃ρ',jgR P B ρ w ob (ky dst ps svs d i) (za dst ps svs i) bs ρ'∧∀n,n∈za dst ps svs i→n∈zQ dst ps svs i∨(ρ'.blk n=ρ1.blk n∧ρ'.len n=ρ1.len n)
  |[],i,ob,ρ,hS,svs,vs,d,bs,_,hv,_,_,_,_,_=>by
    have:bs=[]:=hv
    subst this
    have e1:ky dst [] svs d i=[]:=rfl
    have e2:za dst [] svs i=[]:=rfl
    rw[e1,e2]
    exact⟨ρ,⟨hS,Env.le.refl _ _,rfl,fun _ _=>⟨rfl,rfl⟩,fun _ _ _ h=> .inl h⟩,fun n hn=>by simp at hn⟩
  |p::ps,i,ob,ρ,hS,[],[],d,bs,_,hv,_,_,_,_,_=>by
    cases p with
    |own s b=>cases b<;>exact hv.elim
    |_=>exact hv.elim
  |p::ps,i,ob,ρ,hS,[],v::vs,d,bs,hl,_,_,_,_,_,_=>by simp at hl
  |p::ps,i,ob,ρ,hS,sv::svs,[],d,bs,hl,_,_,_,_,_,_=>by simp at hl
  |p::ps,i,ob,ρ,hS,sv::svs,v::vs,d,bs,hl,hv,hnd,hb,hnn,hk,hr=>by
    have hl':svs.length=vs.length:=by simpa using hl
    cases p with
    |val t=>exact yd dst ps (i+1) hS hl' hv hnd hb hnn hk hr
    |ref t=>exact yd dst ps (i+1) hS hl' hv hnd hb hnn hk hr
    |nil _=>exact yd dst ps (i+1) hS hl' hv hnd hb hnn hk hr
    |clo _=>exact yd dst ps (i+1) hS hl' hv hnd hb hnn hk hr
    |fn qs rs=>exact yd dst ps (i+1) hS hl' hv hnd hb hnn hk hr
    |own s b=>
      cases b with
      |false=>
        obtain⟨ρ',a,h⟩:=yd dst ps (i+1) hS hl' hv hnd hb hnn hk hr
        exact⟨ρ',a,fun n hn=>by
          have:=h n hn
          cases s<;>exact this⟩
      |true=>
        obtain⟨b1,b2,rfl,v1,v2⟩:=hv
        obtain⟨⟨Cp,lp,r1,r2⟩,r3⟩:=hr
        simp only[za] at hnn hk
        rw[jHW] at hnn hnd
        obtain⟨n1,n2,n3⟩:=hnn
        obtain⟨d1,d2,d3⟩:=hnd
        obtain⟨ρ2,a1,_,e1⟩:=jvt hS (s:=s) (k:=jnW sv) (nm:=kn dst i) v1 d1 (fun b hb'=>hb b (jGR _ hb')) n1 (fun n hn=>hk n (jGR _ hn)) Cp lp
        obtain⟨ρ3,a2,e2⟩:=yd (ρ1:=ρ1) dst ps (i+1) a1.sat (svs:=svs) (vs:=vs) (d:=d.2) (bs:=b2) hl' (by rw[a1.H];exact v2) d2 (fun b hb'=>⟨(hb b (jGQ _ hb')).1,fun o C' h=>by
            rcases a1.blk o b C' h with h|h
            · exact(hb b (jGQ _ hb')).2 o C' h
            · exact d3 b h b hb' rfl⟩) n2 (fun n hn=>by
            obtain⟨k1,k2⟩:=hk n (jGQ _ hn)
            have hnn:n∉ke (jnW sv) (kn dst i) s:=fun h=>n3 n h n hn rfl
            exact⟨by rw[qm (by rw[jdT];exact hnn)];exact k1,jql hnn k2⟩) r3
        refine⟨ρ3,⟨by simp only[ky,jHc];exact a2.sat,?_,a2.H.trans a1.H,fun o ho=> ?_,fun o b C' h=> ?_⟩,fun n hn=> ?_⟩
        · exact(a1.le.weaken (fun o ho=>jGR _ ho)).trans (a2.le.weaken (fun o ho=>jGQ _ ho))
        · simp only[za,jG1,not_or] at ho
          obtain⟨s1,s2⟩:=a1.same o ho.1
          obtain⟨s3,s4⟩:=a2.same o ho.2
          exact⟨s3.trans s1,s4.trans s2⟩
        · rcases a2.blk o b C' h with h|h
          · rcases a1.blk o b C' h with h|h
            · exact .inl h
            · exact .inr (jGR _ h)
          · exact .inr (jGQ _ h)
        · simp only[za,jG1] at hn
          rcases hn with hn|hn
          · by_cases hroot:n=jnW sv
            · subst hroot
              obtain⟨q1,q2⟩:=e1 hn
              obtain⟨q3,q4⟩:=a2.same (jnW sv) (fun h=>n3 _ hn _ h rfl)
              exact .inr ⟨by rw[q3,q1,r1],by rw[q4,q2,r2]⟩
            · cases s with
              |cl c=>
                cases c with
                |dat t=>simp[ke,qq] at hn
                |row E t nl=>exact absurd (by simpa[ke,qq] using hn) hroot
                |map kt vt=>exact absurd (by simpa[ke,qq] using hn) hroot
              |box T cs=>
                simp only[ke,jGS] at hn
                rcases hn with hn|hn
                · exact absurd hn hroot
                · exact .inl (by simp only[zQ];exact jGR _ hn)
              |fbox f T cs=>
                simp only[ke,jGS] at hn
                rcases hn with hn|hn
                · exact absurd hn hroot
                · exact .inl (by simp only[zQ];exact jGR _ hn)
          · rcases e2 n hn with h|h
            · refine .inl ?_
              cases s with
              |cl c=>exact h
              |box T cs=>simp only[zQ];exact jGQ _ h
              |fbox f T cs=>simp only[zQ];exact jGQ _ h
            · exact .inr h
end
end Go.X
namespace Go.X
open Go.RowKit (Below)
section
variable {P:Program} {B:zF} {C:Ctx} {σ τ:St} {ρ:Env} {w:World}
theorem we (dst:Nat):∀(ps:List yK) (svs:List SV) (d:KD ps) (i n:Nat),n∈ki (ky dst ps svs d i)↔n∈za dst ps svs i
  |[],svs,d,i,n=>by
    have e1:ky dst [] svs d i=[]:=rfl
    have e2:za dst [] svs i=[]:=rfl
    rw[e1,e2];simp[ki]
  |p::ps,[],d,i,n=>by
    cases p with
    |own s b=>cases b<;>simp[ky,za,ki]
    |_=>simp[ky,za,ki]
  |p::ps,sv::svs,d,i,n=>by
    cases p with
    |val t=>exact we dst ps svs d (i+1) n
    |ref t=>exact we dst ps svs d (i+1) n
    |nil _=>exact we dst ps svs d (i+1) n
    |clo _=>exact we dst ps svs d (i+1) n
    |fn qs rs=>exact we dst ps svs d (i+1) n
    |own s b=>
      cases b with
      |false=>exact we dst ps svs d (i+1) n
      |true=>
        simp only[ky,za,jhJ,jG1,jdT,we dst ps svs d.2 (i+1) n]
        exact or_comm
theorem jeB (dst:Nat):∀(rs:List Sh) (d:RD rs) (j n:Nat),n∈ki (jbW dst rs d j)↔n∈vd dst rs j
  |[],d,j,n=>by simp[jbW,vd,ki]
  |s::rs,d,j,n=>by
    simp only[jbW,vd,jhJ,jG1,jdT,jeB dst rs d.2 (j+1) n]
    exact or_comm
theorem wm (dst:Nat):∀(ps:List yK) (svs:List SV) (i n:Nat),n∈zQ dst ps svs i→n∈za dst ps svs i
  |[],svs,i,n,h=>by
    have e1:zQ dst [] svs i=[]:=rfl
    rw[e1] at h;simp at h
  |p::ps,[],i,n,h=>by
    cases p with
    |own s b=>cases s<;>cases b<;>simp[zQ] at h
    |_=>simp[zQ] at h
  |p::ps,sv::svs,i,n,h=>by
    cases p with
    |val t=>exact wm dst ps svs (i+1) n h
    |ref t=>exact wm dst ps svs (i+1) n h
    |nil _=>exact wm dst ps svs (i+1) n h
    |clo _=>exact wm dst ps svs (i+1) n h
    |fn qs rs=>exact wm dst ps svs (i+1) n h
    |own s b=>
      cases b with
      |false=>cases s<;>exact wm dst ps svs (i+1) n h
      |true=>
        simp only[za,jG1]
        cases s with
        |cl c=>exact .inr (wm dst ps svs (i+1) n h)
        |box T cs=>
          simp only[zQ,jG1] at h
          rcases h with h|h
          · exact .inl (by simp[ke,h])
          · exact .inr (wm dst ps svs (i+1) n h)
        |fbox f T cs=>
          simp only[zQ,jG1] at h
          rcases h with h|h
          · exact .inl (by simp[ke,h])
          · exact .inr (wm dst ps svs (i+1) n h)
theorem jDl {k:Nat} {nm:Nat→Nat} {s:Sh} {x:s.D} {o T:Nat} {fz:Bool} {cs:List SV} (h:(o,some (.box T fz cs))∈jtt k nm s x) {r:Nat} (hr:SV.refs.refsL r cs=true):
    ∃cl,((∃T',s= .box T' cl)∨∃f T',s= .fbox f T' cl)∧r∈vX nm cl 0:=by
  cases s with
  |cl c=>exact absurd h (jev k c x o T fz cs)
  |box T' cl=>
    simp only[jtt,jGS] at h;rcases h with h|h
    · simp at h;obtain⟨_,_,_,rfl⟩:=h;refine⟨cl,.inl ⟨T',rfl⟩,Classical.byContradiction fun hn=> ?_⟩;rw[vj cl x 0 hn] at hr;cases hr
    · exact absurd h (qp nm cl x 0 o T fz cs)
  |fbox f T' cl=>
    simp only[jtt,jGS] at h;rcases h with h|h
    · simp at h;obtain⟨_,_,_,rfl⟩:=h;refine⟨cl,.inr ⟨f,T',rfl⟩,Classical.byContradiction fun hn=> ?_⟩;rw[vj cl x 0 hn] at hr;cases hr
    · exact absurd h (qp nm cl x 0 o T fz cs)
theorem jvg (dst:Nat):∀(rs:List Sh) (d:RD rs) (j:Nat) {o T:Nat} {fz:Bool} {cs:List SV},(o,some (.box T fz cs))∈jbW dst rs d j→∀r,SV.refs.refsL r cs=true→r∈vd dst rs j
  |[],d,j,o,T,fz,cs,h,r,hr=>by simp[jbW] at h
  |s::rs,d,j,o,T,fz,cs,h,r,hr=>by
    simp only[jbW,jG1] at h
    simp only[vd,jG1]
    rcases h with h|h
    · exact .inr (jvg dst rs d.2 (j+1) h r hr)
    · obtain⟨cl,he,hm⟩:=jDl h hr
      rcases he with⟨T',rfl⟩|⟨f,T',rfl⟩
      · exact .inl (by simp[ke,hm])
      · exact .inl (by simp[ke,hm])
theorem jaq (dst:Nat):∀(ps:List yK) (svs:List SV) (d:KD ps) (i:Nat) {o T:Nat} {fz:Bool} {cs:List SV},(o,some (.box T fz cs))∈ky dst ps svs d i→∀r,SV.refs.refsL r cs=true→r∈zQ dst ps svs i
  |[],svs,d,i,o,T,fz,cs,h,r,hr=>by
    have e1:ky dst [] svs d i=[]:=rfl
    rw[e1] at h;simp at h
  |p::ps,[],d,i,o,T,fz,cs,h,r,hr=>by
    cases p with
    |own s b=>cases b<;>simp[ky] at h
    |_=>simp[ky] at h
  |p::ps,sv::svs,d,i,o,T,fz,cs,h,r,hr=>by
    cases p with
    |val t=>exact jaq dst ps svs d (i+1) h r hr
    |ref t=>exact jaq dst ps svs d (i+1) h r hr
    |nil _=>exact jaq dst ps svs d (i+1) h r hr
    |clo _=>exact jaq dst ps svs d (i+1) h r hr
    |fn qs rs=>exact jaq dst ps svs d (i+1) h r hr
    |own s b=>
      cases b with
      |false=>cases s<;>exact jaq dst ps svs d (i+1) h r hr
      |true=>
        simp only[ky,jG1] at h
        rcases h with h|h
        · have:=jaq dst ps svs d.2 (i+1) h r hr
          cases s with
          |cl c=>exact this
          |box T' cl=>simp only[zQ];exact jGQ _ this
          |fbox f T' cl=>simp only[zQ];exact jGQ _ this
        · obtain⟨cl,e,hm⟩:=jDl h hr
          rcases e with⟨T',e⟩|⟨f,T',e⟩
          · subst e
            simp only[zQ];exact jGR _ hm
          · subst e
            simp only[zQ];exact jGR _ hm
theorem jhY:∀(l:List Nat),jkT σ l=true→∀n,n∈l→σ.obj n=none∧vF n σ.ob=true
  |[],_,n,h=>by simp at h
  |m::r,h,n,hm=>by
    simp only[jkT] at h
    split at h
    · rename_i h1 h2
      rcases jGS.1 hm with rfl|hm
      · exact⟨h1,h2⟩
      · exact jhY r h n hm
    · cases h
theorem jo4:∀(os:List Nat) (o:Nat),jF (jdR os) o=if o∈os then some none else none
  |[],o=>by simp[jdR,jF]
  |k::r,o=>by
    simp only[jdR,jF]
    cases hb:Nat.beq k o with
    |true=>have:=jGP hb;subst this;simp
    |false=>
      have hne:=jS hb
      rw[jo4 r o]
      simp[jGS,Ne.symm hne]
theorem jCx {vs:List Value}:∀{svs:List SV},SV.denL P ρ svs vs→SV.den P ρ (jrZ svs) (jD0 vs):=by
  intro svs h;cases svs with
  |nil=>
    simp only[SV.denL] at h;subst h;simp only[jrZ,jD0,SV.den];exact⟨_,rfl,by simp[SV.denL]⟩
  |cons a r=>
    have h':=h;simp only[SV.denL] at h;obtain⟨v,us,rfl,h1,h2⟩:=h;cases r with
    |nil=>
      simp only[SV.denL] at h2;subst h2;exact h1
    |cons b r=>
      have h2':=h2;simp only[SV.denL] at h2;obtain⟨u,us',rfl,_,_⟩:=h2;simp only[jrZ,jD0,SV.den];exact⟨_,rfl,by simpa using h'⟩
theorem jp3 (dst:Nat):∀(rs:List Sh) (d:RD rs) (j r:Nat),SV.refs.refsL r (jhs dst rs d j)=true→r∈vd dst rs j
  |[],d,j,r,h=>by simp[jhs,SV.refs.refsL] at h
  |s::rs,d,j,r,h=>by
    simp only[jhs,SV.refs.refsL] at h
    simp only[vd,jG1]
    split at h
    · rename_i h1
      refine .inl (Classical.byContradiction fun hn=> ?_)
      rw[jq4.svSh_refs hn] at h1;cases h1
    · exact .inr (jp3 dst rs d.2 (j+1) r h)
theorem jBI {r:Nat}:∀{svs:List SV},(jrZ svs).refs r=true→SV.refs.refsL r svs=true:=by
  intro svs h;cases svs with
  |nil=>simpa[jrZ,SV.refs] using h
  |cons a l=>
    cases l with
    |nil=>simp only[jrZ] at h;simp[SV.refs.refsL,h]
    |cons b l=>simpa[jrZ,SV.refs] using h
theorem jb4 (hC:C.ok P) {dst:Nat} {ps:List yK} {rs:List Sh} {pre:OD ps→List Prop} {svs:List SV} {d:OD ps} {os fz:List Nat} (hz:jty C σ ps svs=some (d,os,fz)) (hno:vf os=true) (hme:jdP fz os=false)
    {vals:List Value} (hS:Sat P B ρ σ.obj w) (hd:SV.denL P ρ svs vals):
    ∃ρ1,ρ.le ρ1 []∧Sat P B ρ1 (σ.frz fz).obj w∧ρ1.blk=ρ.blk∧jbu P ρ1.H w ps vals d (j8 ρ1 os)∧(j8 ρ1 os).Nodup∧
      ∀(F:OD ps→RD rs×KD ps) (out:Out),jmp C ⟨ps,rs,pre,F⟩ dst σ svs=some out→∀e w',jtl ρ1.H w (j8 ρ1 os) ⟨ps,rs,pre,F⟩ vals d e w'→∃v,e= .returned v∧jz P B ρ σ out v w':=by
  obtain⟨ρ1,hS1,hle1,hb1,hn1⟩:=jP (σ:=σ) fz hS;have hkeep:jji σ (σ.frz fz) os:=by
    intro o ho;rw[ku,if_neg];exact fun hm=>wd _ _ hme o hm ho
  have hd1:=SV.denL_mono hle1 _ _ (fun o ho=>by simp at ho) hd;have hargs:=jos hC hS1 (qa σ fz) hz (fun o ho=>ho) hkeep hd1;obtain⟨hroots,hknms⟩:=jot hS1 hz hkeep hd1;have hbn:=vH hS1 os (km _ hno);have hlen:svs.length=vals.length:=zw _ _ hd;refine⟨ρ1,hle1,hS1,hb1,hargs,hbn,fun F out h e w' he=> ?_⟩
  let s:kx:=⟨ps,rs,pre,F⟩
  have h:jmp C s dst σ svs=some out:=h;have he:jtl ρ1.H w (j8 ρ1 os) s vals d e w':=he;unfold jmp at h;rw[show jty C σ s.ps svs=some (d,os,fz) from hz] at h;simp only at h
  split at h
  case h_2=>cases h
  rename_i _ _ hnn hfr;simp at h;subst h;have hnn:=km _ hnn;rw[jHW] at hnn;obtain⟨hn1',hn2',hn3'⟩:=hnn;have hfr:=jhY _ hfr;obtain⟨vs,H',rb,kb,rfl,hE,hres,hkept,hndB,hownB⟩:=he;rw[jHW] at hndB;obtain⟨hnd1,hnd2,hnd3⟩:=hndB
  let Bx:zF:=⟨w,ρ1.H,j8 ρ1 os,fun _=>none,fun _=>0⟩
  let ρe:Env:=⟨H',fun _=>none,ρ1.len⟩
  have hSe:Sat P Bx ρe (oo []) w':=by
    refine⟨hE.os,hE.tape,hE.output,hE.drawn,hE.size,hE.good,hE.old,hE.block,?_,fun _ _=>rfl,?_,?_⟩
    · intro o x hx;simp[oo,St.obj,jF] at hx
    · intro o o' b C1 C2 h1;simp[ρe] at h1
    · intro o b C1 h1;simp[ρe] at h1
  have okB:∀b,b∈rb++kb→(Bx.w.heap.size≤b∨b∈Bx.bor):=fun b hb=>(hownB b hb).symm
  obtain⟨ρ2,a1,e1⟩:=jq4 dst s.rs 0 hSe hres hnd1 (fun b hb=>⟨okB b (jGR _ hb),fun o C' h=>by simp[ρe] at h⟩) hn1'
    (fun n _=>⟨by simp[oo,St.obj,jF],fun o T fz cs h=>by simp[oo,St.obj,jF] at h⟩)
  have fresh2:∀n,n∈za dst s.ps svs 0→oo (jbW dst s.rs (s.F d).1 0++[]) n=none∧kz (oo (jbW dst s.rs (s.F d).1 0++[])) n:=by
    intro n hn;have hnr:n∉vd dst s.rs 0:=fun hm=>hn3' n hm n hn rfl
    refine⟨by rw[qm (by rw[jeB];exact hnr)];simp[oo,St.obj,jF],fun o T fz' cs ho=> ?_⟩;rw[jHf] at ho;simp only[oo,St.obj] at ho
    split at ho
    · rename_i y hy;subst ho;cases hc:SV.refs.refsL n cs with
      |false=>rfl
      |true=>exact absurd (jvg dst s.rs _ 0 (zk _ _ _ hy) n hc) hnr
    · cases ho
  obtain⟨ρ3,a2,e2⟩:=yd (ρ1:=ρ1) dst s.ps 0 a1.sat (svs:=svs) (vs:=vals) hlen (by rw[a1.H];exact hkept) hnd2 (fun b hb=>⟨okB b (jGQ _ hb),fun o C' h=>by
      rcases a1.blk o b C' h with h|h
      · simp[ρe] at h
      · exact hnd3 b h b hb rfl⟩) hn2' fresh2 hroots
  have hH3:ρ3.H=H':=a2.H.trans a1.H
  let nw:=vd dst s.rs 0++zQ dst s.ps svs 0
  have hfrz_none:∀n,n∈nw→kz (σ.frz fz).obj n:=by
    intro n hn r T f cs hr;obtain⟨_,q2⟩:=hfr n hn;rw[ku] at hr;have base:∀T f cs,σ.obj r=some (.box T f cs)→SV.refs.refsL n cs=false:=by
      intro T f cs hx;simp only[St.obj] at hx
      split at hx
      · rename_i y hy;subst hx;exact vE _ _ _ _ _ _ q2 (zk _ _ _ hy)
      · cases hx
    split at hr
    · cases hx:σ.obj r with
      |none=>rw[hx] at hr;cases hr
      |some y=>
        rw[hx] at hr;cases y<;>simp[z8] at hr
        obtain⟨rfl,_,rfl⟩:=hr;exact base _ _ _ hx
    · exact base _ _ _ hr
  have others:∀o,o∉nw→o∉za dst s.ps svs 0→ρ3.blk o=none∧ρ3.len o=ρ1.len o:=by
    intro o ho hk;obtain⟨q1,q2⟩:=a2.same o hk;obtain⟨q3,q4⟩:=a1.same o (fun h=>ho (jGR _ h));exact⟨q1.trans q3,q2.trans q4⟩
  have hle:(jiJ os ρ1).le ρ3 nw:=by
    refine⟨fun b c hb=> ?_,fun o p ho hp=> ?_,fun o ho=> ?_⟩
    · have hb:ρ1.H b=some c:=hb;have hnb:b∉j8 ρ1 os:=fun hm=>by
        have:=jzB s.ps vals d _ hargs b hm;rw[this] at hb;cases hb
      rw[hH3,hE.old b (hS1.good.lt hb) hnb];exact hb
    · by_cases hk:o∈za dst s.ps svs 0
      · rcases e2 o hk with h|⟨h,_⟩
        · exact absurd (jGQ _ h) ho
        · rcases hknms dst 0 o hk with hm|hm
          · simp only[jiJ];rw[if_pos hm,←h];exact hp
          · exact absurd (jGQ _ hm) ho
      · rw[(others o ho hk).1] at hp;cases hp
    · by_cases hk:o∈za dst s.ps svs 0
      · rcases e2 o hk with h|⟨_,h⟩
        · exact absurd (jGQ _ h) ho
        · exact h
      · exact(others o ho hk).2
  have hkeys:∀o,o∈ki (ky dst s.ps svs (s.F d).2 0++jbW dst s.rs (s.F d).1 0)→o∈nw∨o∈os:=by
    intro o ho;rw[jhJ,we,jeB] at ho;rcases ho with h|h
    · rcases hknms dst 0 o h with h|h
      · exact .inr h
      · exact .inl (jGQ _ h)
    · exact .inl (jGR _ h)
  have hsat3:Sat P Bx ρ3 (oo (ky dst s.ps svs (s.F d).2 0++jbW dst s.rs (s.F d).1 0)) w':=by
    have:=a2.sat
    rwa [jHf] at this
  obtain⟨ρ4,g1,g2,g3⟩:=jsH (σ:=σ.frz fz) hS1 os nw hfrz_none hsat3 hle (fun o T f cs ho r hr=>by
    simp only[oo,St.obj] at ho
    split at ho
    · rename_i y hy;subst ho;have hm:=zk _ _ _ hy;rcases jG1.1 hm with hm|hm
      · exact .inl (jGQ _ (jaq dst _ _ _ _ hm r hr))
      · exact .inl (jGR _ (jvg dst _ _ _ hm r hr))
    · cases ho)
  refine⟨_,rfl,ρ4,?_,(hle1.weaken (fun o ho=>by simp at ho)).trans g2,?_,trivial⟩
  · have:(fun o=>if o∈nw∨o∈os then oo (ky dst s.ps svs (s.F d).2 0++jbW dst s.rs (s.F d).1 0) o else(σ.frz fz).obj o)=
        ({σ with ob:=(ky dst s.ps svs (s.F d).2 0++(jbW dst s.rs (s.F d).1 0++jdR os))++(q6 σ fz++σ.ob)}:St).obj:=by
      funext o;have e0:(ky dst s.ps svs (s.F d).2 0++(jbW dst s.rs (s.F d).1 0++jdR os))++(q6 σ fz++σ.ob)=
          (ky dst s.ps svs (s.F d).2 0++jbW dst s.rs (s.F d).1 0)++(jdR os++(q6 σ fz++σ.ob)):=by simp only[jHc]
      rw[e0];generalize hnew:ky dst s.ps svs (s.F d).2 0++jbW dst s.rs (s.F d).1 0=new;rw[hnew] at hkeys;simp only[oo,St.obj,jk (a:=new)];cases hl:jF new o with
      |some y=>
        have hk:o∈ki new:=jbf (by rw[hl];simp);rw[if_pos (hkeys o hk)]
      |none=>
        simp only;rw[jk,jo4];by_cases hos:o∈os
        · rw[if_pos (.inr hos),if_pos hos]
        · rw[if_neg hos];have hnw':o∉nw:=by
            intro hm;have:o∈ki new:=by
              rw[←hnew,jhJ,we,jeB];rcases jG1.1 hm with h|h
              · exact .inr h
              · exact .inl (wm dst _ _ _ _ h)
            exact look_none_not hl this
          rw[if_neg (by rintro(h|h);exact hnw' h;exact hos h)];rfl
    rw[←this];exact g1
  · refine g3 _ _ (fun r hr=> .inl (jGR _ (jp3 dst _ _ _ r (jBI hr)))) ?_;refine jCx (SV.denL_mono a2.le _ _ (fun o ho=> ?_) e1);cases hc:SV.refs.refsL o (jhs dst s.rs (s.F d).1 0) with
    |false=>rfl
    |true=>exact absurd rfl (hn3' o (jp3 dst _ _ _ o hc) o ho)
where
  look_none_not {α:Type}:∀{l:List (Nat×α)} {k:Nat},jF l k=none→k∈ki l→False
    |[],k,_,h=>by simp[ki] at h
    | (j,x)::r,k,h,hm=>by
      simp only[jF] at h;cases hb:Nat.beq j k with
      |true=>rw[hb] at h;cases h
      |false=>
        rw[hb] at h;simp only[ki,jGS] at hm;rcases hm with rfl|hm
        · exact absurd rfl (jS hb)
        · exact look_none_not h hm
theorem jmo (hC:C.ok P) {f dst:Nat} {s:kx} {svs:List SV} {out:Out} (hf:yf P f s) (h:jmp C s dst σ svs=some out) {vals:List Value} (hS:Sat P B ρ σ.obj w) (hd:SV.denL P ρ svs vals) (hvc:kR out.vc):
    Calls P f vals.toArray w (fun e w'=>∃v,e= .returned v∧jz P B ρ σ out v w'):=by
  have h0:=h;unfold jmp at h0
  split at h0
  · cases h0
  rename_i d os fz hz
  split at h0
  case h_2=>cases h0
  rename_i hno hme _ _;simp at h0;obtain⟨ρ1,_,hS1,_,hargs,hbn,hk⟩:=jb4 (dst:=dst) (rs:=s.rs) (pre:=s.pre) hC hz hno hme hS hd;exact(hf.calls ρ1.H w vals d (j8 ρ1 os) hS1.good hargs hbn (by rw[←h0] at hvc;exact hvc)).mono fun e w' he=>hk s.F out h e w' he
theorem jxa (hC:C.ok P) {l:List (Nat×kx)} (hl:∀f s,jF l f=some s→yf P f s) {f dst:Nat} {svs:List SV} {out:Out} (h:jGj C l f dst σ svs=some out):
    enters P f∧∀B ρ w vals,Sat P B ρ σ.obj w→SV.denL P ρ svs vals→kR out.vc→σ.obj dst=none→kz σ.obj dst→
      Calls P f vals.toArray w (fun e w'=>∃v,e= .returned v∧jz P B ρ σ out v w'):=by
  unfold jGj at h
  split at h
  · rename_i s hs;exact⟨(hl f s hs).enters,fun B ρ w vals hS hd hvc _ _=>jmo hC (hl f s hs) h hS hd hvc⟩
  · cases h
end
end Go.X
namespace Go.X
open Go.RowKit (Below)
section
variable {P:Program} {C:Ctx} {w:World}
theorem jy6 {H:Imm}:∀{rs:List Ty} {vs:List Value} {r:(Ty.st rs).Data},rvs H rs vs r→jE3 H rs (jvY vs) r
  |[],_,_,h=>by simp only[rvs] at h;subst h;exact⟨_,rfl,rfl⟩
  |_::_,[],_,h=>h.elim
  |[_],[_],_,h=>h.1
  |[_],_::_::_,_,h=>by have:=h.2;simp[rvs] at this
  |_::_::_,[_],_,h=>h.2.elim
  |_::_::_,_::_::_,_,h=>⟨_,rfl,h⟩
end
end Go.X
namespace Go.X
open Go.RowKit (Below)
abbrev WF (r:Option Nat):Fence:={Fence.wide with round:=r}
section
variable {P:Program} {r:Option Nat}
theorem jeJ {n:Nat} {f:FuncId} {args:Array Value} {w:World} {R:Ending→World→Prop}:CallsIn (WF r) n P f args w R↔Calls P f args w R:=callsIn_wide (n:=n)
theorem jyX {n:Nat} {row:String} {args:Array Value} {w:World} {R:Value→World→Prop} (h:Rows P row args w R):RowsIn (WF r) n P row args w R:=
  fun c cs _=>let ⟨v,w',q,s⟩:=h c cs;⟨v,w',q,stepsIn_wide.2 s⟩
theorem jDw {c:Code} {Q:Exit→Act→World→Prop} {a:Act} {w:World}:c.wpIn (WF none) 0 P Q a w↔c.wp P Q a w:=wpIn_wide
def gM (ds:List Deferred) (a:Act):Act:={a with defers:=a.defers++ds}
theorem jar (ds:List Deferred) (a:Act) (d:Option Nat) (v:Value):gM ds (a.put d v)=(gM ds a).put d v:=by cases d<;>rfl
theorem jeh (ds:List Deferred) (a:Act):(gM ds a).eval=a.eval:=by funext o;cases o<;>rfl
def wI:List Oper→Bool
  |[]=>true
  |o::l=>match o.op with
    | .defer _=>false
    |_=>wI l
theorem jgh:∀{l:List Oper},wI l=true→∀o,o∈l→∀c,o.op≠.defer c
  |[],_,o,ho,_=>by simp at ho
  |x::l,h,o,ho,c=>by
    simp only[wI] at h
    split at h
    · cases h
    · rename_i hx
      rcases jGS.1 ho with rfl|ho
      · exact fun e=>hx c e
      · exact jgh h o ho c
theorem jzn {o:Oper} {a:Act} {w:World} {ds:List Deferred} {K K':Act→World→Prop} {Q0 Q:Exit→Act→World→Prop} (hn:∀e a w,Q0 e a w→e= .normal) (hnd:∀c,o.op≠.defer c)
    (h:o.wp P a w K Q0) (hK:∀a w,K a w→K' (gM ds a) w):o.wpIn (WF r) 0 P (gM ds a) w K' Q:=by
  refine⟨fun _ _=>trivial,?_⟩;rw[jeh,Oper.semAt_eq _ _ _ hnd];unfold Oper.wp at h;generalize (execOp a.eval o).run P w=res at h;cases res with
  |ok x w'=>
    cases x with
    |value v=>simp only[Oper.upon] at h;simp only[Oper.uponIn];rw[←jar];exact hK _ _ h
    |skip=>simp only[Oper.upon] at h;simp only[Oper.uponIn];rw[←jar];exact hK _ _ h
    |defer d=>simp only[Oper.upon] at h;simp only[Oper.uponIn];have:=hK _ _ h;rw[jar] at this;exact this
    |enter f args=>
      simp only[Oper.upon] at h;simp only[Oper.uponIn];refine⟨fun hd=>by simp[Fence.wide] at hd,jeJ.2 (h.mono fun e w'' he=> ?_)⟩;cases e with
      |returned v=>simp only at he⊢;rw[←jar];exact hK _ _ he
      |panicked c=>exact absurd (hn _ _ _ he) (by simp)
      |outgrown=>obtain⟨a0,w0,h0⟩:=he;exact absurd (hn _ _ _ h0) (by simp)
    |row row args=>
      simp only[Oper.upon] at h;simp only[Oper.uponIn];refine⟨fun hd=>by simp[Fence.wide] at hd,jyX (h.mono fun v w'' he=> ?_)⟩;rw[←jar];exact hK _ _ he
    |_=>simp only[Oper.upon] at h
  |halt x w'=>
    cases x with
    |panic v=>simp only[Oper.upon] at h;exact absurd (hn _ _ _ h) (by simp)
    |_=>simp only[Oper.upon] at h
theorem jiU {ops:Array Oper} {ds:List Deferred} {Q0 Q:Exit→Act→World→Prop} {rest:List Oper} (hn:∀e a w,Q0 e a w→e= .normal) (hQ:∀a w,Q0 .normal a w→wpListIn (WF r) 0 P ops Q rest (gM ds a) w):
    ∀(l:List Oper),wI l=true→∀(a:Act) (w:World),wpList P ops Q0 l a w→wpListIn (WF r) 0 P ops Q (l++rest) (gM ds a) w
  |[],_,a,w,h=>hQ a w h
  |o::l,hnd,a,w,h=>by
    have hl:wI l=true:=by simp only[wI] at hnd;split at hnd;cases hnd;exact hnd
    rw[jHi]
    unfold wpList at h
    unfold wpListIn
    have ey:yielded ops (gM ds a).tmps=yielded ops a.tmps:=rfl
    rw[ey]
    split at h
    · rename_i hw
      rw[if_pos hw]
      rcases h with h|⟨_,a0,w0,h0⟩
      · exact jzn hn (jgh hnd o (by simp)) h (fun a' w' h'=>jiU hn hQ l hl a' w' h')
      · exact absurd (hn _ _ _ h0) (by simp)
    · rename_i hw
      rw[if_neg hw]
      refine⟨fun _ _=>trivial,?_⟩
      rw[←jar]
      exact jiU hn hQ l hl _ w h
theorem jwv {md:Region.Mode} {ops:Array Oper} {ds:List Deferred} {Q0 Q:Exit→Act→World→Prop} (hn:∀e a w,Q0 e a w→e= .normal) (hQ:∀a w,Q0 .normal a w→Q .normal (gM ds a) w) (hnd:wI ops.toList=true):
    ∀(fuel:Nat) (listed:Array Bool) (a:Act) (w:World),wpAny P md ops Q0 fuel listed a w→wpAnyIn (WF r) 0 P md ops Q fuel listed (gM ds a) w
  |0,listed,a,w,h=>⟨h.1,hQ _ _ h.2⟩
  |fuel+1,listed,a,w,h=>by
    refine⟨fun hr=>hQ _ _ (h.1 hr),fun i hi=> ?_⟩
    have h2:=h.2 i hi
    unfold wpOp at h2
    unfold wpOpIn
    cases ho:ops[i]? with
    |none=>rw[ho] at h2;exact jwv hn hQ hnd fuel _ _ _ h2
    |some o=>
      rw[ho] at h2
      simp only at h2⊢
      have ey:yielded ops (gM ds a).tmps=yielded ops a.tmps:=rfl
      rw[ey]
      have hmem:o∈ops.toList:=by
        have:=jHP (l:=ops.toList) (i:=i) (a:=o) (by simpa using ho);exact this
      split at h2
      · rename_i hw;rw[if_pos hw];rcases h2 with h2|⟨_,a0,w0,h0⟩
        · exact jzn hn (jgh hnd o hmem) h2 (fun a' w' h'=>jwv hn hQ hnd fuel _ a' w' h')
        · exact absurd (hn _ _ _ h0) (by simp)
      · rename_i hw;rw[if_neg hw];refine⟨fun _ _=>trivial,?_⟩;rw[←jar];exact jwv hn hQ hnd fuel _ _ w h2
theorem jDU (hm:P.follows .mixedOrders=true) {id:Nat} {ops:Array Oper} {draw:Bool} {ds:List Deferred} {Q0 Q:Exit→Act→World→Prop} (hn:∀e a w,Q0 e a w→e= .normal) (hQ:∀a w,Q0 .normal a w→Q .normal (gM ds a) w)
    (hnd:wI ops.toList=true) {a:Act} {w:World} (h:jy9 P ops draw Q0 a w):(Code.region id ops draw).wpIn (WF r) 0 P Q (gM ds a) w:=by
  cases draw with
  |false=>
    refine wpIn_region_list ?_;have:=jiU (r:=r) (rest:=[]) hn (fun a w h0=>hQ a w h0) ops.toList hnd a w h;simpa using this
  |true=>exact wpIn_region_any hm (jwv hn hQ hnd _ _ _ _ h)
def jj4 (P:Program) (B:zF) (n:Nat) (ds:List Deferred) (σ:St) (a:Act) (w:World):Prop:=
  ∃a0,a=gM ds a0∧Rel P B n σ a0 w
theorem jDA {B:zF} {C:Ctx} (hC:C.ok P) (hm:P.follows .mixedOrders=true) {A:Ann} {id:Nat} {ops:Array Oper} {draw:Bool} {ds:List Deferred} {σ:St} {K:Ex→St→Prop} {Q:Exit→Act→World→Prop} {a:Act} {w:World}
    (hnd:wI ops.toList=true) (h:vcg C A (.region id ops draw) σ K) (hR:jj4 P B C.n ds σ a w) (hQ:∀σ' a' w',Ext σ σ'→K .normal σ'→jj4 P B C.n ds σ' a' w'→Q .normal a' w'):
    (Code.region id ops draw).wpIn (WF r) 0 P Q a w:=by
  obtain⟨a0,rfl,hR⟩:=hR;refine jDU hm (Q0:=fun e a' w'=>e= .normal∧∃σ',Ext σ σ'∧K .normal σ'∧Rel P B C.n σ' a' w') (fun e _ _ h=>h.1) (fun a' w' h'=> ?_) hnd (jow hC h hR (fun σ' a' w' hE hK hR'=>⟨rfl,σ',hE,hK,hR'⟩));obtain⟨_,σ',hE,hK,hR'⟩:=h';exact hQ σ' _ w' hE hK ⟨a',rfl,hR'⟩
theorem jrc {F:Fence} {n:Nat} {α:Type} (rl:α→α→Prop) (hwf:WellFounded rl) {Q:Exit→Act→World→Prop} {c:Code} {a:Act} {w:World} (I:α→Act→World→Prop) (x₀:α) (h₀:I x₀ a w)
    (round:∀x a w,I x a w→c.wpIn F n P (Exit.then (fun a' w'=>∃x',rl x' x∧I x' a' w') Q) a w):(Code.loop c).wpIn F n P Q a w:=by
  intro b k cs hro hb hr;have key:∀x a w,I x a w→∃e a' w',Q e a' w'∧ArrivesIn (Machine.fenced P F) P (lone (b.atR a (.code c:: .inLoop c::k)) cs w) b k cs e a' w':=by
    intro x
    induction x using hwf.induction with
    |_ x ih=>
      intro a w hI;obtain⟨e,a₁,w₁,hq,harr⟩:=round x a w hI b (.inLoop c::k) cs hro hb hr;cases e with
      |normal=>
        obtain⟨x',hlt,hI₁⟩:=hq;obtain⟨e₂,a₂,w₂,hq₂,harr₂⟩:=ih x' hlt a₁ w₁ hI₁;exact⟨e₂,a₂,w₂,hq₂,.of_steps (StepsIn.trans harr (.one (fenced_calm hb hr rfl) stepR_inLoop)) harr₂⟩
      |exit id=>exact⟨_,a₁,w₁,hq,.pass (x:= .inLoop c) rfl (fun _ _=> .inl (by simp)) harr⟩
      |goto l=>exact⟨_,a₁,w₁,hq,.pass (x:= .inLoop c) rfl (fun _ _=> .inl (by simp)) harr⟩
      |ret=>exact⟨_,a₁,w₁,hq,.pass (x:= .inLoop c) rfl (fun _ _=> .inl (by simp)) harr⟩
      |panic ch=>exact⟨_,a₁,w₁,hq,.pass (x:= .inLoop c) rfl (fun _ _=> .inl (by simp)) harr⟩
      |outgrown=>exact⟨_,a₁,w₁,hq,.pass (x:= .inLoop c) rfl (fun _ _=> .inl (by simp)) harr⟩
  obtain⟨e,a',w',hq,harr⟩:=key x₀ a w h₀;exact⟨e,a',w',hq,.of_steps (.one (fenced_calm hb hr rfl) stepR_loop) harr⟩
end
end Go.X
namespace Go.X
open Go.RowKit (Below)
structure jnx (Y:Type) where
  sp:Nat→Bool--is the call that fills this slot one of them?
  call:SV→List SV→St→Y→(SV→St→Y→Prop)→Prop
  rng:Operand→Array Tmp→Code→Code→St→Y→(Bool→St→Y→Prop)→Prop--is it left by 'return'?
def jF8:Bool→Ex
  |true=> .ret
  |false=> .normal
structure jBe (Y:Type) where
  X:Type
  sl:X→List (Nat×SV)
  ob:X→List (Nat×Option Ob)
  ys:X→Y
  inv:X→Prop
  mu:X→Nat
def jBe.plain {Y:Type} (L:jBe Y):jgP:=⟨L.X,L.sl,L.ob,L.inv,L.mu⟩
abbrev jk0 (Y:Type):=Nat→Option (St→Y→jBe Y)
def jFA:Op→Bool
  | .call _=>true
  |_=>false
def jou (sp:Nat→Bool):List Oper→Option (List Oper×Oper×List Oper)
  |[]=>none
  |o::r=>match o.dst with
    |some d=>match sp d,jFA o.op with
      |true,true=>some ([],o,r)
      |_,_=>match jou sp r with
        |some (p,x,q)=>some (o::p,x,q)
        |none=>none
    |none=>match jou sp r with
      |some (p,x,q)=>some (o::p,x,q)
      |none=>none
def jjQ (d:Nat) (g:Nat×Bool) (γ:Bool):Eff:=⟨some γ,[],[],[(d,.any)],[(d,g,.dat .bool false)],[],[]⟩
def yVC {Y:Type} (C:Ctx) (hk:jnx Y) (ops pre:List Oper) (o:Oper) (post:List Oper) (σ:St) (ys:Y) (K:Ex→St→Y→Prop):Prop:=
  match yz C ops pre ⟨σ,[]⟩ with
  |none=>False
  |some (ss,rs)=>match rs.gl,o.op,o.guard,o.dst with
    |[],.call c,none,some d=>match c.callee,Nat.blt d C.n with
      | .value f,true=>zV false ss (hk.call (jL rs.st f) (c.args.toList.map (jL rs.st)) rs.st ys
          (fun sv τ ys'=>jdE C ops post σ.ob.length ⟨(d,sv)::τ.sl,τ.ob⟩ (fun e σ'=>K e σ' ys')))
      |_,_=>False
    |_,.call c,some g,some d=>match c.callee,Nat.blt d C.n,jfl ops rs ops.length g with
      | .value f,true,some γ=>match fits C ops o rs (jjQ d g γ) with
        |true=>zV false ss (
          (γ=true→hk.call (jL (zt rs (jjd ops rs ops.length g)) f) (c.args.toList.map (jL (zt rs (jjd ops rs ops.length g)))) (zt rs (jjd ops rs ops.length g)) ys
            (fun sv τ ys'=>jdE C ops post σ.ob.length ⟨(d,sv)::τ.sl,τ.ob⟩ (fun e σ'=>K e σ' ys')))∧
          (γ=false→jBF C ops post σ.ob.length (zp (jjQ d g γ) rs) (fun e σ'=>K e σ' ys)))
        |false=>False
      |_,_,_=>False
    |_,_,_,_=>False
def jFw {Y:Type} (A:jk0 Y) (a:Code) (run:St→Y→(Ex→St→Y→Prop)→Prop) (σ:St) (ys:Y) (K:Ex→St→Y→Prop):Prop:=
  match A (jfn a) with
  |none=>False
  |some L=>
    (∃x:(L σ ys).X,sub σ (zu (L σ ys).plain (zN a) σ x) (ki ((L σ ys).sl x)) (ki ((L σ ys).ob x))∧ys=(L σ ys).ys x∧(L σ ys).inv x)∧
    ∀x:(L σ ys).X,(L σ ys).inv x→run (zu (L σ ys).plain (zN a) σ x) ((L σ ys).ys x) (fun e σ' ys'=>match e with
      | .normal=>∃x':(L σ ys).X,sub σ' (zu (L σ ys).plain (zN a) σ x') (qX (ki ((L σ ys).sl x')) (qX (ki ((L σ ys).sl x)) (jdU σ'.sl (zu (L σ ys).plain (zN a) σ x).sl.length)))
            (qX (ki ((L σ ys).ob x')) (qX (ki ((L σ ys).ob x)) (jdU σ'.ob (zu (L σ ys).plain (zN a) σ x).ob.length)))∧ys'=(L σ ys).ys x'∧(L σ ys).inv x'∧(L σ ys).mu x'<(L σ ys).mu x
      |e=>K e σ' ys')
def jGk:Ann:=fun _=>none
def jk6 {Y:Type} (C:Ctx) (A:jk0 Y) (hk:jnx Y):Code→St→Y→(Ex→St→Y→Prop)→Prop
  | .skip,σ,ys,K=>K .normal σ ys
  | .region id ops draw,σ,ys,K=>match wI ops.toList with
    |false=>False
    |true=>match jou hk.sp ops.toList with
      |some (pre,o,post)=>match draw with
        |false=>yVC C hk ops.toList pre o post σ ys K
        |true=>False
      |none=>vcg C jGk (.region id ops draw) σ (fun e σ'=>K e σ' ys)
  | .seq a b,σ,ys,K=>jk6 C A hk a σ ys (fun e σ' ys'=>match e with
    | .normal=>jk6 C A hk b σ' ys' K
    |e=>K e σ' ys')
  | .cond c a b,σ,ys,K=>match jL σ c with
    | .dat .bool β=>(β=true→jk6 C A hk a σ ys K)∧(β=false→jk6 C A hk b σ ys K)
    |_=>False
  | .block id a,σ,ys,K=>jk6 C A hk a σ ys (fun e σ' ys'=>match e with
    | .exit id'=>match Nat.beq id id' with
      |true=>K .normal σ' ys'
      |false=>K (.exit id') σ' ys'
    |e=>K e σ' ys')
  | .loop a,σ,ys,K=>jFw A a (jk6 C A hk a) σ ys K
  | .exit id,σ,ys,K=>K (.exit id) σ ys
  | .ret,σ,ys,K=>K .ret σ ys
  | .rangeFunc g ps a b,σ,ys,K=>hk.rng g ps a b σ ys (fun x σ' ys'=>K (jF8 x) σ' ys')
  |_,_,_,_=>False
section
variable {P:Program} {C:Ctx} {Y:Type}
def jcI (P:Program) (C:Ctx) (r:Option Nat) (hk:jnx Y) (Lv:zF→List Deferred→Y→Prop):Prop:=
  ∀(o:Oper) (c:Call) (f:Operand) (d:Nat) (σ:St) (ys:Y) (K:SV→St→Y→Prop) (B:zF) (ds:List Deferred) (a:Act) (w:World) (next:Act→World→Prop) (Q:Exit→Act→World→Prop),
    o.op= .call c→c.callee= .value f→o.dst=some d→d<C.n→hk.call (jL σ f) (c.args.toList.map (jL σ)) σ ys K→Lv B ds ys→jj4 P B C.n ds σ a w→
    (∀sv τ ys' v w' B',K sv τ ys'→Ext σ τ→Lv B' ds ys'→jj4 P B' C.n ds ⟨(d,sv)::τ.sl,τ.ob⟩ (a.put (some d) v) w'→next (a.put (some d) v) w')→
    o.wpIn (WF r) 0 P a w next Q
def jnt (P:Program) (C:Ctx) (r:Option Nat) (hk:jnx Y) (Lv:zF→List Deferred→Y→Prop):Prop:=
  ∀(g:Operand) (ps:Array Tmp) (aZ b:Code) (σ:St) (ys:Y) (K:Bool→St→Y→Prop) (B:zF) (ds:List Deferred) (a:Act) (w:World) (Q:Exit→Act→World→Prop),
    hk.rng g ps aZ b σ ys K→Lv B ds ys→jj4 P B C.n ds σ a w→
    (∀x σ' ys' a' w' B' ds',K x σ' ys'→Ext σ σ'→Lv B' ds' ys'→jj4 P B' C.n ds' σ' a' w'→Q (jff (jF8 x)) a' w')→(Code.rangeFunc g ps aZ b).wpIn (WF r) 0 P Q a w
theorem jfw {sp:Nat→Bool}:∀(l:List Oper) {pre post:List Oper} {o:Oper},jou sp l=some (pre,o,post)→l=pre++o::post
  |[],_,_,_,h=>by simp[jou] at h
  |x::r,pre,post,o,h=>by
    simp only[jou] at h
    split at h
    · split at h
      · simp at h;obtain⟨rfl,rfl,rfl⟩:=h;rfl
      · split at h
        · rename_i p y q hr
          simp at h;obtain⟨rfl,rfl,rfl⟩:=h
          rw[jfw r hr];rfl
        · cases h
    · split at h
      · rename_i p y q hr
        simp at h;obtain⟨rfl,rfl,rfl⟩:=h
        rw[jfw r hr];rfl
      · cases h
theorem jmr:∀(a b:List Oper),wI (a++b)=true→wI a=true∧wI b=true
  |[],b,h=>⟨rfl,h⟩
  |o::a,b,h=>by
    simp only[jHi,wI] at h⊢
    split at h
    · cases h
    · exact jmr a b h
theorem jDt {r:Option Nat} (hC:C.ok P) {hk:jnx Y} {Lv:zF→List Deferred→Y→Prop} (hcall:jcI P C r hk Lv) {id:Nat} {ops:Array Oper} {pre post:List Oper} {o:Oper} {σ:St} {ys:Y} {K:Ex→St→Y→Prop}
    {B:zF} {ds:List Deferred} {a:Act} {w:World} {Q:Exit→Act→World→Prop} (hnd:wI ops.toList=true) (hs:ops.toList=pre++o::post) (h:yVC C hk ops.toList pre o post σ ys K) (hL:Lv B ds ys) (hR:jj4 P B C.n ds σ a w)
    (hQ:∀σ' ys' a' w' B',Ext σ σ'→K .normal σ' ys'→Lv B' ds ys'→jj4 P B' C.n ds σ' a' w'→Q .normal a' w'):(Code.region id ops false).wpIn (WF r) 0 P Q a w:=by
  rw[hs] at hnd;obtain⟨hn1,hn2⟩:=jmr _ _ hnd;have hn3:wI post=true:=by
    simp only[wI] at hn2
    split at hn2
    · cases hn2
    · exact hn2
  have hI:∀{a0:Act},Rel P B C.n σ a0 w→Inv P B C.n ops ⟨σ,[]⟩ a0 w:=by
    intro a0 hR;obtain⟨h1,h2,ρ,h3,h4,h5⟩:=hR;exact⟨h1,h2,ρ,h3,h4,(fun s g v hm=>by simp at hm),h5⟩
  have tailG:∀(B':zF) (ys':Y) (rs1:RS) (a2:Act) (w':World),Ext σ rs1.st→Lv B' ds ys'→Inv P B' C.n ops rs1 a2 w'→jBF C ops.toList post σ.ob.length rs1 (fun e σ'=>K e σ' ys')→wpListIn (WF r) 0 P ops Q post (gM ds a2) w':=by
    intro B' ys' rs1 a2 w' hE hL2 hI2 hk2;unfold jBF at hk2
    split at hk2
    · exact hk2.elim
    rename_i ss2 rs2 hr2;have:=jiU (r:=r) (ds:=ds) (rest:=[]) (ops:=ops) (Q:=Q) (Q0:=fun e a' w'=>e= .normal∧K .normal (w6 ops.toList (gc σ.ob.length rs2.st)) ys'∧Inv P B' C.n ops rs2 a' w')
      (fun e _ _ h=>h.1) (fun a3 w3 h3=> ?_) post hn3 a2 w' (wH hC _ _ _ _ _ _ hr2 hk2 hI2 (fun hk' a' w' hI'=>⟨rfl,hk',hI'⟩))
    · simpa using this
    · obtain⟨_,hk3,i1,i2,ρ,i3,i4,_,i5⟩:=h3;exact hQ _ ys' _ w3 B' (hE.trans ((qB _ _ _ _ hr2).trans ((jj0 _ _).trans (zL _ _)))) hk3 hL2 ⟨a3,rfl,zJ _ (jjG ⟨i1,i2,ρ,i3,i4,i5⟩)⟩
  have tail:∀(B':zF) (ys':Y) (σ2:St) (a2:Act) (w':World),Ext σ σ2→Lv B' ds ys'→Rel P B' C.n σ2 a2 w'→jdE C ops.toList post σ.ob.length σ2 (fun e σ'=>K e σ' ys')→wpListIn (WF r) 0 P ops Q post (gM ds a2) w':=by
    intro B' ys' σ2 a2 w' hE hL2 hR2 hk2;refine tailG B' ys' ⟨σ2,[]⟩ a2 w' hE hL2 ?_ hk2;obtain⟨h1,h2,ρ,h3,h4,h5⟩:=hR2;exact⟨h1,h2,ρ,h3,h4,(fun s g v hm=>by simp at hm),h5⟩
  unfold yVC at h
  split at h
  · exact h.elim
  rename_i ss rs hr;have hEx:Ext σ rs.st:=qB _ _ _ _ hr;obtain⟨a0,rfl,hR⟩:=hR;refine wpIn_region_list ?_;rw[hs]
  split at h
  · rename_i c d hgl hop hgd hdst
    split at h
    case h_2=>exact h.elim
    rename_i f hcal hfr;have hfr:d<C.n:=jG6 hfr;refine jiU (Q0:=fun e a' w'=>e= .normal∧hk.call (jL rs.st f) (c.args.toList.map (jL rs.st)) rs.st ys (fun sv τ ys'=>jdE C ops.toList post σ.ob.length ⟨(d,sv)::τ.sl,τ.ob⟩ (fun e σ'=>K e σ' ys'))∧Inv P B C.n ops rs a' w')
      (fun e _ _ h=>h.1) (fun a1 w1 h1=> ?_) pre hn1 a0 w (wH hC _ _ _ _ _ _ hr h (hI hR) (fun hk' a' w' hI'=>⟨rfl,hk',hI'⟩))
    obtain⟨_,hk1,hI1⟩:=h1;unfold wpListIn;rw[if_pos (by simp[Region.wanted,hgd])];have hR1:jj4 P B C.n ds rs.st (gM ds a1) w1:=by
      obtain⟨i1,i2,ρ,i3,i4,_,i5⟩:=hI1;exact⟨a1,rfl,i1,i2,ρ,i3,i4,i5⟩
    refine hcall o c f d rs.st ys _ B ds _ w1 _ _ hop hcal hdst hfr hk1 hL hR1 (fun sv τ ys' v w' B' hk2 hE2 hL2 hR2=> ?_);obtain⟨a2,ha2,hR2⟩:=hR2;rw[ha2];exact tail B' ys' ⟨(d,sv)::τ.sl,τ.ob⟩ a2 w' (hEx.trans (hE2.trans ⟨⟨[_],rfl⟩,⟨[],rfl⟩⟩)) hL2 hR2 hk2
  · rename_i c g d hop hgd hdst
    split at h
    case h_2=>exact h.elim
    rename_i f γ hcal hfr hγ;have hfr:d<C.n:=jG6 hfr
    split at h
    case h_2=>exact h.elim
    rename_i hfit;refine jiU (Q0:=fun e a' w'=>e= .normal∧((γ=true→hk.call (jL (zt rs (jjd ops.toList rs ops.toList.length g)) f) (c.args.toList.map (jL (zt rs (jjd ops.toList rs ops.toList.length g)))) (zt rs (jjd ops.toList rs ops.toList.length g)) ys
          (fun sv τ ys'=>jdE C ops.toList post σ.ob.length ⟨(d,sv)::τ.sl,τ.ob⟩ (fun e σ'=>K e σ' ys')))∧
        (γ=false→jBF C ops.toList post σ.ob.length (zp (jjQ d g γ) rs) (fun e σ'=>K e σ' ys)))∧Inv P B C.n ops rs a' w')
      (fun e _ _ h=>h.1) (fun a1 w1 h1=> ?_) pre hn1 a0 w (wH hC _ _ _ _ _ _ hr h (hI hR) (fun hk' a' w' hI'=>⟨rfl,hk',hI'⟩))
    obtain⟨_,⟨hk1,hk0⟩,i1,i2,ρ,i3,i4,i6,i5⟩:=h1;have hiff:=jam i4 i6 _ _ _ hγ;have hwant:(Region.wanted o (yielded ops (gM ds a1).tmps)=true)↔jkJ ops a1 g:=by
      obtain⟨j,b⟩:=g;simp[Region.wanted,hgd,jkJ,gM]
    unfold wpListIn;by_cases hH:jkJ ops a1 g
    · rw[if_pos (hwant.2 hH)];have hR1:jj4 P B C.n ds (zt rs (jjd ops.toList rs ops.toList.length g)) (gM ds a1) w1:=
        ⟨a1,rfl,i1,i2,ρ,i3,yM i4 i6 (jgF i6 _ _ hH),i5⟩
      have hE1:Ext rs.st (zt rs (jjd ops.toList rs ops.toList.length g)):=⟨⟨_,rfl⟩,⟨[],rfl⟩⟩;refine hcall o c f d _ ys _ B ds _ w1 _ _ hop hcal hdst hfr (hk1 (hiff.1 hH)) hL hR1 (fun sv τ ys' v w' B' hk2 hE2 hL2 hR2=> ?_);obtain⟨a2,ha2,hR2⟩:=hR2;rw[ha2];exact tail B' ys' ⟨(d,sv)::τ.sl,τ.ob⟩ a2 w' ((hEx.trans hE1).trans (hE2.trans ⟨⟨[_],rfl⟩,⟨[],rfl⟩⟩)) hL2 hR2 hk2
    · rw[if_neg (fun h=>hH (hwant.1 h))];refine⟨fun _ _=>trivial,?_⟩;have hγ0:γ=false:=by cases γ with|true=>exact absurd (hiff.2 rfl) hH|false=>rfl
      have hIe:Inv P B C.n ops (zp (jjQ d g γ) rs) (a1.put o.dst undef) w1:=by
        refine jgo (ρ:=ρ) (ρ'':=ρ) (e:=jjQ d g γ) (sv:= .any) (gv:= .dat .bool false) i1 i2 i4 i6 i5 i3 (Env.le.refl _ _) (vG hfit) (fun d' hd'=>by rw[hdst] at hd';simp at hd';subst hd';exact hfr) (by simp[jjQ,jrC,hdst]) (fun _ _=>wg _) (fun x hx=> ?_) (fun d' g' _ hg'=>⟨fun hh=> ?_,fun _=>rfl⟩)
        · simp only[jjQ,List.mem_singleton] at hx;exact⟨d,g,hdst,hgd,hx⟩
        · rw[hgd] at hg';simp at hg';subst hg';exact absurd hh hH
      have:=tailG B ys (zp (jjQ d g γ) rs) (a1.put o.dst undef) w1 (hEx.trans ⟨⟨[_],rfl⟩,⟨[],rfl⟩⟩) hL hIe (hk0 hγ0);rw[jar] at this;exact this
  · exact h.elim
theorem jvR {B:zF} {n:Nat} {ds:List Deferred} {σ τ:St} {ks os:List Nat} (h:sub σ τ ks os) (h1:∀s,s∉ks→τ.get s= .any∨τ.get s=σ.get s) (h2:∀o,o∉os→τ.obj o=none∨τ.obj o=σ.obj o) {a:Act} {w:World}
    (hR:jj4 P B n ds σ a w):jj4 P B n ds τ a w:=by
  obtain⟨a0,e,hR⟩:=hR;exact⟨a0,e,jt0 h h1 h2 hR⟩
def jq7 (P:Program) (C:Ctx) (A:jk0 Y) (hk:jnx Y) (Lv:zF→List Deferred→Y→Prop) (x:Code) (K:Ex→St→Y→Prop) (σ:St) (ys:Y) (n:Nat) (a:Act) (w:World):Prop:=
  ∃L,A (jfn x)=some L∧(∀y:(L σ ys).X,(L σ ys).inv y→jk6 C A hk x (zu (L σ ys).plain (zN x) σ y) ((L σ ys).ys y) (fun e σ' ys'=>match e with
      | .normal=>∃x':(L σ ys).X,sub σ' (zu (L σ ys).plain (zN x) σ x') (qX (ki ((L σ ys).sl x')) (qX (ki ((L σ ys).sl y)) (jdU σ'.sl (zu (L σ ys).plain (zN x) σ y).sl.length)))
            (qX (ki ((L σ ys).ob x')) (qX (ki ((L σ ys).ob y)) (jdU σ'.ob (zu (L σ ys).plain (zN x) σ y).ob.length)))∧ys'=(L σ ys).ys x'∧(L σ ys).inv x'∧(L σ ys).mu x'<(L σ ys).mu y
      |e=>K e σ' ys'))∧
    ∃y B ds,(L σ ys).inv y∧(L σ ys).mu y=n∧Lv B ds ((L σ ys).ys y)∧jj4 P B C.n ds (zu (L σ ys).plain (zN x) σ y) a w
theorem jqs {r:Option Nat} {A:jk0 Y} {hk:jnx Y} {Lv:zF→List Deferred→Y→Prop} {x:Code} {K:Ex→St→Y→Prop} {Q:Exit→Act→World→Prop} {n:Nat} {a:Act} {σ:St} {ys:Y} {w:World} {J:Act→World→Prop}
    (hrun:∀(σ:St) (ys:Y) (K:Ex→St→Y→Prop) (Q:Exit→Act→World→Prop) (a:Act) (w:World) (B:zF) (ds:List Deferred),jk6 C A hk x σ ys K→Lv B ds ys→jj4 P B C.n ds σ a w→
      (∀e σ' ys' a' w' B' ds',Ext σ σ'→K e σ' ys'→Lv B' ds' ys'→jj4 P B' C.n ds' σ' a' w'→Q (jff e) a' w')→x.wpIn (WF r) 0 P Q a w)
    (hI:jq7 P C A hk Lv x K σ ys n a w) (hQ:∀e σ' ys' a' w' B' ds',Ext σ σ'→K e σ' ys'→Lv B' ds' ys'→jj4 P B' C.n ds' σ' a' w'→Q (jff e) a' w')
    (hJ:∀n',n'<n→∀a' w',jq7 P C A hk Lv x K σ ys n' a' w'→J a' w'):x.wpIn (WF r) 0 P (Exit.then J Q) a w:=by
  obtain⟨L,hL,hround,y,B,ds,hiy,rfl,hlv,hR1⟩:=hI;generalize hws:zN x=ws at hround hR1;refine hrun _ _ _ _ a w B ds (hround y hiy) hlv hR1 (fun e σ' ys' a' w' B' ds' hE hK hl' hR'=> ?_);have hE0:Ext σ (zu (L σ ys).plain ws σ y):=⟨⟨(L σ ys).sl y++ws.map (fun s=>(s,SV.any)),by simp[zu,jBe.plain]⟩,⟨(L σ ys).ob y++ws.map (fun s=>(s,none)),by simp[zu,jBe.plain]⟩⟩;cases e with
  |ret=>exact hQ .ret σ' ys' a' w' B' ds' (hE0.trans hE) hK hl' hR'
  |exit id=>exact hQ (.exit id) σ' ys' a' w' B' ds' (hE0.trans hE) hK hl' hR'
  |normal=>
    obtain⟨y',hs',hys,hi',hmu⟩:=hK;have hrel:jj4 P B' C.n ds' (zu (L σ ys).plain ws σ y') a' w':=by
      refine jvR hs' (fun s hs=> ?_) (fun o ho=> ?_) hR'
      · simp only[zP,not_or] at hs;obtain⟨k1,k2,k3⟩:=hs;refine .inr ?_;obtain⟨p,hp⟩:=hE.sl;have hnp:s∉ki p:=fun hk=>k3 (by rw[hp];exact jbh p _ s hk)
        have e1:jF σ'.sl s=jF (ws.map (fun s=>(s,SV.any))++σ.sl) s:=by
          rw[hp,jk,jy _ _ hnp];exact jhP (L σ ys).plain ws σ y s k2
        unfold St.get;rw[e1,jhP (L σ ys).plain ws σ y' s k1]
      · simp only[zP,not_or] at ho;obtain⟨k1,k2,k3⟩:=ho;refine .inr ?_;obtain⟨p,hp⟩:=hE.ob;have hnp:o∉ki p:=fun hk=>k3 (by rw[hp];exact jbh p _ o hk)
        have e1:jF σ'.ob o=jF (ws.map (fun s=>(s,(none:Option Ob)))++σ.ob) o:=by
          rw[hp,jk,jy _ _ hnp];exact jbi (L σ ys).plain ws σ y o k2
        simp only[St.obj];rw[e1,jbi (L σ ys).plain ws σ y' o k1]
    exact hJ _ hmu a' w' ⟨L,hL,by rw[hws];exact hround,y',B',ds',hi',rfl,by rw[←hys];exact hl',by rw[hws];exact hrel⟩
theorem kB {r:Option Nat} (hC:C.ok P) (hm:P.follows .mixedOrders=true) (A:jk0 Y) (hk:jnx Y) (Lv:zF→List Deferred→Y→Prop) (hcall:jcI P C r hk Lv) (hrng:jnt P C r hk Lv):
    ∀(c:Code) (σ:St) (ys:Y) (K:Ex→St→Y→Prop) (Q:Exit→Act→World→Prop) (a:Act) (w:World) (B:zF) (ds:List Deferred),jk6 C A hk c σ ys K→Lv B ds ys→jj4 P B C.n ds σ a w→
    (∀e σ' ys' a' w' B' ds',Ext σ σ'→K e σ' ys'→Lv B' ds' ys'→jj4 P B' C.n ds' σ' a' w'→Q (jff e) a' w')→c.wpIn (WF r) 0 P Q a w
  | .skip,σ,ys,K,Q,a,w,B,ds,h,hL,hR,hQ=>wpIn_skip (hQ .normal σ ys a w B ds (Ext.refl _) h hL hR)
  | .region id ops draw,σ,ys,K,Q,a,w,B,ds,h,hL,hR,hQ=>by
    simp only[jk6] at h
    split at h
    · exact h.elim
    rename_i hnd
    split at h
    · rename_i pre o post hs
      split at h
      case h_2=>exact h.elim
      exact jDt hC hcall hnd (jfw _ hs) h hL hR (fun σ' ys' a' w' B' hE hK hl hR'=>hQ .normal σ' ys' a' w' B' ds hE hK hl hR')
    · exact jDA hC hm hnd h hR (fun σ' a' w' hE hK hR'=>hQ .normal σ' ys a' w' B ds hE hK hL hR')
  | .seq x y,σ,ys,K,Q,a,w,B,ds,h,hL,hR,hQ=>by
    simp only[jk6] at h
    refine wpIn_seq (kB hC hm A hk Lv hcall hrng x σ ys _ _ a w B ds h hL hR (fun e σ' ys' a' w' B' ds' hE hK hl hR'=> ?_))
    cases e with
    |normal=>exact kB hC hm A hk Lv hcall hrng y σ' ys' K Q a' w' B' ds' hK hl hR' (fun e2 σ2 ys2 a2 w2 B2 ds2 hE2=>hQ e2 σ2 ys2 a2 w2 B2 ds2 (hE.trans hE2))
    |ret=>exact hQ .ret σ' ys' a' w' B' ds' hE hK hl hR'
    |exit id=>exact hQ (.exit id) σ' ys' a' w' B' ds' hE hK hl hR'
  | .cond c x y,σ,ys,K,Q,a,w,B,ds,h,hL,hR,hQ=>by
    simp only[jk6] at h
    split at h
    case h_2=>exact h.elim
    rename_i β hc
    have hv:a.eval c= .bool β:=by
      obtain⟨a0,rfl,_,_,ρ,_,hSl,_⟩:=hR;have:=jK (P:=P) (ρ:=ρ) hSl c;rw[hc] at this;rw[jeh];exact zG (by simpa only[SV.den] using this)
    refine wpIn_cond_split hv (fun hb=>kB hC hm A hk Lv hcall hrng x σ ys K Q a w B ds (h.1 hb) hL hR hQ) (fun hb=>kB hC hm A hk Lv hcall hrng y σ ys K Q a w B ds (h.2 hb) hL hR hQ)
  | .block id x,σ,ys,K,Q,a,w,B,ds,h,hL,hR,hQ=>by
    simp only[jk6] at h;refine wpIn_block (kB hC hm A hk Lv hcall hrng x σ ys _ _ a w B ds h hL hR (fun e σ' ys' a' w' B' ds' hE hK hl hR'=> ?_));cases e with
    |normal=>exact hQ .normal σ' ys' a' w' B' ds' hE hK hl hR'
    |ret=>exact hQ .ret σ' ys' a' w' B' ds' hE hK hl hR'
    |exit id'=>
      simp only[jff,Exit.inBlock];simp only at hK
      split at hK
      · rename_i hb;have:=jGP hb;subst this;rw[if_pos rfl];exact hQ .normal σ' ys' a' w' B' ds' hE hK hl hR'
      · rename_i hb;rw[if_neg (fun e=>jS hb e.symm)];exact hQ (.exit id') σ' ys' a' w' B' ds' hE hK hl hR'
  | .loop x,σ,ys,K,Q,a,w,B,ds,h,hL,hR,hQ=>by
    simp only[jk6] at h;have hrun:=fun(σ:St) (ys:Y) (K:Ex→St→Y→Prop) (Q:Exit→Act→World→Prop) (a:Act) (w:World) (B:zF) (ds:List Deferred)=>kB hC hm A hk Lv hcall hrng x σ ys K Q a w B ds
    have h0:∃n,jq7 P C A hk Lv x K σ ys n a w:=by
      unfold jFw at h
      split at h
      · exact h.elim
      rename_i L hLA;obtain⟨⟨x0,hs0,hy0,hi0⟩,hround⟩:=h;exact⟨_,L,hLA,hround,x0,B,ds,hi0,rfl,by rw[←hy0];exact hL,jvR hs0 (fun s hs=>jwd (L σ ys).plain (zN x) σ x0 s hs) (fun o ho=>jwc (L σ ys).plain (zN x) σ x0 o ho) hR⟩
    obtain⟨n0,h0⟩:=h0;refine jrc (fun(m n:Nat)=>m<n) Nat.lt_wfRel.wf (fun n a' w'=>jq7 P C A hk Lv x K σ ys n a' w') n0 h0 ?_;intro n a1 w1 hI;exact jqs hrun hI (fun e σ' ys' a' w' B' ds' hE hK hl hR'=>hQ e σ' ys' a' w' B' ds' hE hK hl hR') (fun m' hlt a' w' h'=>⟨m',hlt,h'⟩)
  | .exit id,σ,ys,K,Q,a,w,B,ds,h,hL,hR,hQ=>wpIn_exit (hQ (.exit id) σ ys a w B ds (Ext.refl _) h hL hR)
  | .ret,σ,ys,K,Q,a,w,B,ds,h,hL,hR,hQ=>wpIn_ret (hQ .ret σ ys a w B ds (Ext.refl _) h hL hR)
  | .rangeFunc g ps aZ b,σ,ys,K,Q,a,w,B,ds,h,hL,hR,hQ=>by
    simp only[jk6] at h;exact hrng g ps aZ b σ ys _ B ds a w Q h hL hR (fun x σ' ys' a' w' B' ds' hK hE hl hR'=>hQ (jF8 x) σ' ys' a' w' B' ds' hE hK hl hR')
  | .scope _,_,_,_,_,_,_,_,_,h,_,_,_=>h.elim
  | .label _,_,_,_,_,_,_,_,_,h,_,_,_=>h.elim
  | .goto _,_,_,_,_,_,_,_,_,h,_,_,_=>h.elim
  | .refuse _,_,_,_,_,_,_,_,_,h,_,_,_=>h.elim
end
end Go.X
namespace Go.X
open Go.RowKit (Below)
abbrev Res (D:Type):=List D→(Nat→Prop)→Imm→World→Prop
def Res.stable {D:Type} (R:Res D) (B0:Nat):Prop:=
  ∀pre fp H w H' w',R pre fp H w→w'.os=w.os→w'.tape=w.tape→w'.output=w.output→w.drawn≤w'.drawn→w.heap.size≤w'.heap.size→jcY H' w'→(∀b c,H b=some c→H' b=some c)→
    (∀b,b<w.heap.size→(b<B0∨fp b)→w'.heap[b]? =w.heap[b]?∧H' b=H b)→R pre fp H' w'
structure jEU (B0:Nat) (fp:Nat→Prop) (H:Imm) (w:World) (fp':Nat→Prop) (H':Imm) (w':World):Prop where
  size:w.heap.size≤w'.heap.size
  good:jcY H' w'
  mono:∀b c,H b=some c→H' b=some c
  own:∀b,b<w.heap.size→B0≤b→¬fp b→w'.heap[b]? =w.heap[b]?∧H' b=H b
  fp:∀b,fp' b→(fp b∨w.heap.size≤b)∧b<w'.heap.size∧B0≤b
def YB (P:Program) (ts:List Ty) (B0 l:Nat) (R Rx:Res (Ty.st ts).Data) (Pm:List (Ty.st ts).Data→Prop):Prop:=
  ∀pre x vals fp H w,Pm (pre++[x])→R pre fp H w→jcY H w→B0≤w.heap.size→(∀b,fp b→b<w.heap.size∧B0≤b)→rvs H ts vals x→
    YieldAt Fence.wide 0 P l vals.toArray w (fun e w'=>∃β fp' H',e= .returned (.bool β)∧jEU B0 fp H w fp' H' w'∧(match β with|true=>R (pre++[x]) fp' H' w'|false=>Rx (pre++[x]) fp' H' w'))
def jCQ (P:Program) (H:Imm) (ts:List Ty) (L:List (Ty.st ts).Data→Prop) (v:Value):Prop:=
  ∃g lb,v= .func (.func g) #[] lb∧enters P g∧∀H1 w l (R Rx:Res (Ty.st ts).Data),(∀b c,H b=some c→H1 b=some c)→jcY H1 w→R.stable w.heap.size→Rx.stable w.heap.size→
    YB P ts w.heap.size l R Rx (fun q=>∃rest,L (q++rest))→R [] (fun _=>False) H1 w→
    Calls P g (#[.func (.yield l) #[] #[]]++lb) w (fun e w'=>∃v,e= .returned v∧((∃xs fp' H',L xs∧R xs fp' H' w')∨(∃q fp' H',Rx q fp' H' w')))
theorem jCQ.mono {P:Program} {H H':Imm} (hH:∀b c,H b=some c→H' b=some c) {ts:List Ty} {L:List (Ty.st ts).Data→Prop} {v:Value} (h:jCQ P H ts L v):jCQ P H' ts L v:=by
  obtain⟨g,lb,e,en,k⟩:=h;exact⟨g,lb,e,en,fun H1 w l R Rx h1=>k H1 w l R Rx (fun b c hb=>h1 b c (hH b c hb))⟩
abbrev YS (ts:List Ty):=List (Ty.st ts).Data×Bool
def jCT:Value→Option Nat
  | .func (.yield l) f c=>match f.toList,c.toList with
    |[],[]=>some l
    |_,_=>none
  |_=>none
abbrev Inl (ts:List Ty):=List SV→St→YS ts→(SV→St→YS ts→Prop)→Prop
def hkY (ts:List Ty) (l:Nat) (sps:List Nat) (Pm:List (Ty.st ts).Data→Prop) (inl:Nat→Option (Inl ts)):jnx (YS ts):=
  ⟨fun d=>jaH sps d,fun cal args τ ys K=>match ys.2 with
    |false=>False
    |true=>match cal with
      | .lit v=>match jCT v with
        |some l'=>l'=l∧(match jrb τ ts args with
          |some (d,fz)=>Pm (ys.1++[d])∧K (.dat .bool true) (τ.frz fz) (ys.1++[d],true)∧K (.dat .bool false) (τ.frz fz) (ys.1++[d],false)
          |none=>False)
        |none=>False
      | .clo f caps=>match inl f with
        |some run=>run (args++caps) τ ys K
        |none=>False
      |_=>False,fun _ _ _ _ _ _ _=>False⟩
def LvY (ts:List Ty) (B0:Nat) (R Rx:Res (Ty.st ts).Data) (B:zF) (ds:List Deferred) (ys:YS ts):Prop:=
  ds=[]∧B0≤B.w.heap.size∧(∀b,b∈B.bor→B0≤b)∧∃fp:Nat→Prop,(∀b,fp b→B0≤b∧b<B.w.heap.size∧b∉B.bor)∧(match ys.2 with|true=>R ys.1 fp B.H B.w|false=>Rx ys.1 fp B.H B.w)
section
variable {P:Program} {C:Ctx} {ts:List Ty}
theorem vK (a:Act):gM [] a=a:=by simp[gM]
theorem jAw (σ:St) (fz:List Nat):Ext σ (σ.frz fz):=⟨⟨[],rfl⟩,⟨_,rfl⟩⟩
def jGw (P:Program) (f:Nat) (run:Inl ts) (Lv:zF→List Deferred→YS ts→Prop):Prop:=
  enters P f∧∀svs σ ys K B ρ w vals,run svs σ ys K→Sat P B ρ σ.obj w→Pin B ρ→SV.denL P ρ svs vals→Lv B [] ys→
    Calls P f vals.toArray w (fun e w'=>∃v,e= .returned v∧∃sv τ ys' B' ρ',K sv τ ys'∧Ext σ τ∧(∀s,τ.get s= .any)∧Lv B' [] ys'∧Sat P B' ρ' τ.obj w'∧Pin B' ρ'∧SV.den P ρ' sv v)
theorem jtX {o:Oper} {c:Call} {f:Operand} {ev:Operand→Value} {l:Nat} {w:World} (hop:o.op= .call c) (hc:c.callee= .value f) (e:ev f= .func (.yield l) #[] #[]):
    (execOp ev o).run P w=(Instr.yield l (c.args.map ev)).run P w:=by
  simp only[execOp,hop,Sem.run_bind,resolve,hc,Deferred.ofValue,e,Sem.run_pure,Result.andThen_ok,invoke];simp
theorem jCG {l B0:Nat} {R Rx:Res (Ty.st ts).Data} {sps:List Nat} {Pm:List (Ty.st ts).Data→Prop} {inl:Nat→Option (Inl ts)} (hR:R.stable B0) (hB:YB P ts B0 l R Rx Pm)
    (hinl:∀f run,inl f=some run→jGw P f run (LvY ts B0 R Rx)):jcI P C none (hkY ts l sps Pm inl) (LvY ts B0 R Rx):=by
  intro o c f d σ ys K B ds a w next Q hop hc hdst hd h hL hRel hK;obtain⟨rfl,hB0,hbor,fp,hfp,hres⟩:=hL;obtain⟨a0,rfl,hd0,hn0,ρ,hS,hSl,hPin⟩:=hRel;rw[vK] at hK⊢;have hnd:∀c,o.op≠.defer c:=fun c e=>by rw[hop] at e;cases e
  have hfv:=jK (P:=P) (ρ:=ρ) hSl f;have hargs:=jan (P:=P) (ρ:=ρ) (σ:=σ) (fun x=>jK (P:=P) (ρ:=ρ) hSl x) c.args.toList;refine⟨fun _ _=>trivial,?_⟩;rw[Oper.semAt_eq _ _ _ hnd];simp only[hkY] at h
  split at h
  · exact h.elim
  rename_i hlive;rw[hlive] at hres;simp only at hres
  split at h
  · rename_i v hv
    split at h
    case h_2=>exact h.elim
    rename_i l' hl';obtain⟨rfl,h⟩:=h
    split at h
    case h_2=>exact h.elim
    rename_i x fz hz;obtain⟨hPm,hK1,hK2⟩:=h;rw[hv] at hfv;simp only[SV.den] at hfv;have hev:a0.eval f= .func (.yield l') #[] #[]:=by
      rw[hfv];unfold jCT at hl'
      split at hl'
      · split at hl'
        · rename_i e1 e2;simp at hl';subst hl';have e1:=jHb.1 (show _=(#[]:Array Value).toList from e1);have e2:=jHb.1 (show _=(#[]:Array Value).toList from e2);rw[e1,e2]
        · cases hl'
      · cases hl'
    rw[jtX hop hc hev];obtain⟨ρ1,hS1,hle1,hblk1,hlen1⟩:=jP fz hS;have hrv:=jbw hS1 (qa σ fz) hz (fun o ho=>ho) (SV.denL_mono hle1 _ _ (fun o ho=>by simp at ho) hargs);have hmono:∀b c,B.H b=some c→ρ1.H b=some c:=fun b c hb=>hle1.H b c (hPin.2 b c hb)
    have hR1:R ys.1 fp ρ1.H w:=hR _ _ _ _ _ _ hres hS1.os hS1.tape hS1.output hS1.drawn hS1.size hS1.good hmono (fun b hb hor=>by
      have hnb:b∉B.bor:=by
        rcases hor with hor|hor
        · intro hm;have:=hbor b hm;omega
        · exact(hfp b hor).2.2
      exact⟨hS1.old b hb hnb,hS1.oldH b hb hnb⟩)
    have hblk:∀o b Cp,ρ1.blk o=some (some (b,Cp))→b<w.heap.size∧B0≤b∧¬fp b:=by
      intro o b Cp hb;refine⟨(yD (σ:=σ.frz fz) hS1 hb).1,?_,fun hf=> ?_⟩
      · rcases hS1.own o b Cp hb with h1|h1
        · omega
        · exact hbor b h1
      · have:=hfp b hf;rcases hS1.own o b Cp hb with h1|h1
        · omega
        · exact this.2.2 h1
    obtain⟨fn,tmps,aZ,body,hy,hround⟩:=hB ys.1 x _ fp ρ1.H w hPm hR1 hS1.good (jG5 hB0 hS1.size) (fun b hb=>⟨jHQ (hfp b hb).2.1 hS1.size,(hfp b hb).1⟩) hrv;have hy':(Instr.yield l' (c.args.map a0.eval)).run P w= .ok (.round l' fn tmps aZ body) w:=by
      rw[←hy];congr 2;apply jHb.1;simp
    rw[hy'];simp only[Oper.uponIn];refine⟨fun hd=>by simp[Fence.wide] at hd,?_⟩;refine RoundIn.mono (F:=WF none) (n:=0) hround fun e w' he=> ?_
    obtain⟨β,fp',H',rfl,hY,hres'⟩:=he;simp only;rw[hdst]
    let B':zF:={B with w:=w',H:=H',bor:=j8 ρ1 (ki (σ.frz fz).ob)}
    have hS2:Sat P B' {ρ1 with H:=H'} (σ.frz fz).obj w':=jeq hS1 hY.good hY.mono (fun o b Cp hb=>by
      obtain⟨k1,k2,k3⟩:=hblk o b Cp hb;exact hY.own b k1 k2 k3)
    have hle2:ρ.le {ρ1 with H:=H'} []:=hle1.trans ⟨hY.mono,fun _ _ _ h=>h,fun _ _=>rfl⟩;have hL':LvY ts B0 R Rx B' [] (ys.1++[x],β):=by
      refine⟨rfl,jG5 hB0 (jG5 hS1.size hY.size),fun b hb=> ?_,fp',fun b hb=> ?_,?_⟩
      · obtain⟨o,Cp,_,h1⟩:=(jX _).1 hb;exact(hblk o b Cp h1).2.1
      · obtain⟨g1,g2,g3⟩:=hY.fp b hb;refine⟨g3,g2,fun hm=> ?_⟩;obtain⟨o,Cp,_,h1⟩:=(jX _).1 hm;obtain⟨k1,k2,k3⟩:=hblk o b Cp h1;rcases g1 with g1|g1
        · exact k3 g1
        · omega
      · cases β<;>exact hres'
    have hP2:Pin B' {ρ1 with H:=H'}:=⟨fun o p ho hp=>by
      have:=hPin.1 o p ho (by rw[←hblk1];exact hp);exact⟨this.1,by show ρ1.len o=_;rw[hlen1];exact this.2⟩,fun _ _ hb=>hb⟩
    have fin:jj4 P B' C.n [] ⟨(d,.dat .bool β)::(σ.frz fz).sl,(σ.frz fz).ob⟩ (a0.put (some d) (.bool β)) w':=by
      refine⟨_,(vK _).symm,by simpa[Act.put] using hd0,by simpa[Act.put] using hn0,_,hS2,?_,hP2⟩;intro s y hx;simp only[Act.put];by_cases hs:s=d
      · subst hs;rw[jH] at hx;simp at hx;subst hx;simp only[jG0,jG7];simp only[if_true];rw[if_pos (by rw[hn0];exact hd)];exact w5 _
      · rw[jw (fun h=>hs h.symm)] at hx;simp only[jG0,jG7];rw[if_neg (fun h=>hs h.symm)];have:=SV.den_mono hle2 _ _ (fun r hr=>by simp at hr) (hSl s y hx);simpa only[jG0] using this
    cases β with
    |true=>exact hK _ _ _ _ _ _ hK1 (jAw σ fz) hL' fin
    |false=>exact hK _ _ _ _ _ _ hK2 (jAw σ fz) hL' fin
  · rename_i k caps hv
    split at h
    case h_2=>exact h.elim
    rename_i run hrun;obtain⟨hen,hcall⟩:=hinl k run hrun;rw[hv] at hfv;simp only[SV.den] at hfv;obtain⟨vs,ef,hcaps⟩:=hfv;have hall:=wM _ _ _ _ hargs hcaps;have hex:(execOp a0.eval o).run P w= .ok (.enter k (c.args.map a0.eval++vs)) w:=by
      simp only[execOp,hop,Sem.run_bind,resolve,hc,Deferred.ofValue,ef,Sem.run_pure,Result.andThen_ok,invoke];rw[←hen (c.args.map a0.eval++vs) w];simp
    rw[hex];simp only[Oper.uponIn];refine⟨fun hd=>by simp[Fence.wide] at hd,jeJ.2 ?_⟩;have hc1:=hcall _ σ ys K B ρ w _ h hS hPin hall ⟨rfl,hB0,hbor,fp,hfp,by rw[hlive];exact hres⟩;rw[show(c.args.toList.map a0.eval++vs.toList).toArray=c.args.map a0.eval++vs from by apply jHb.1;simp] at hc1;refine hc1.mono fun e w' he=> ?_
    obtain⟨v,rfl,sv,τ,ys',B',ρ',hk,hE,hany,hL',hS',hP',hdv⟩:=he;simp only;rw[hdst];refine hK sv τ ys' v w' B' hk hE hL' ⟨_,(vK _).symm,by simpa[Act.put] using hd0,by simpa[Act.put] using hn0,ρ',hS',?_,hP'⟩;intro s y hx;simp only[Act.put];by_cases hs:s=d
    · subst hs;rw[jH] at hx;simp at hx;subst hx;simp only[jG0,jG7];simp only[if_true];rw[if_pos (by rw[hn0];exact hd)];exact hdv
    · rw[jw (fun h=>hs h.symm)] at hx;have:=hany s;unfold St.get at this;rw[hx] at this;simp only at this;subst this;simp[SV.den]
  · exact h.elim
theorem jDQ {l B0:Nat} {R Rx:Res (Ty.st ts).Data} {sps:List Nat} {Pm:List (Ty.st ts).Data→Prop} {inl:Nat→Option (Inl ts)} {r:Option Nat}:jnt P C r (hkY ts l sps Pm inl) (LvY ts B0 R Rx):=
  fun _ _ _ _ _ _ _ _ _ _ _ _ h _ _ _=>h.elim
end
end Go.X
namespace Go.X
open Go.RowKit (Below)
def jpe:List SV→Nat→List (Nat×SV)
  |[],_=>[]
  |v::r,i=>(i,v)::jpe r (i+1)
def jEu (σ:St):List (Nat×SV):=(ki σ.sl).map (fun s=>(s,SV.any))
def jGC {ts:List Ty} (C:Ctx) (A:jk0 (YS ts)) (hk:jnx (YS ts)) (body:Code):Inl ts:=fun svs σ ys K=>
  match Nat.ble svs.length C.n with
  |false=>False
  |true=>jk6 C A hk body ⟨jpe svs 0,σ.ob⟩ ys (fun e σ' ys'=>match e with
    | .exit _=>False
    |_=>K .any ⟨jEu σ++σ.sl,σ'.ob⟩ ys')
@[irreducible] def jBy (C:Ctx) (body:Code) (ts:List Ty) (caps:List Par) (L:PD caps→List (Ty.st ts).Data→Prop) (pre:PD caps→List Prop) (A:PD caps→Nat→jk0 (YS ts)) (hk:PD caps→Nat→jnx (YS ts)):Prop:=
  ∀(d:PD caps) (l:Nat),jqH (pre d) (jk6 C (A d l) (hk d l) body ⟨(0,.lit (.func (.yield l) #[] #[]))::ko caps d 1,[]⟩ ([],true) (fun e _ ys=>match e with
    | .exit _=>False
    |_=>ys.2=true→L d ys.1))
section
variable {P:Program} {C:Ctx} {ts:List Ty}
theorem jpd {ρ:Env}:∀(svs:List SV) (vals:List Value) (i:Nat),SV.denL P ρ svs vals→∀s v,jF (jpe svs i) s=some v→∃x,vals[s-i]? =some x∧SV.den P ρ v x∧i≤s
  |[],_,_,_,_,_,h=>by simp[jpe,jF] at h
  |u::r,vals,i,hd,s,v,h=>by
    simp only[SV.denL] at hd
    obtain⟨x,r',rfl,h1,h2⟩:=hd
    simp only[jpe,jF] at h
    cases hb:Nat.beq i s with
    |true=>
      have:=jGP hb;subst this
      rw[hb] at h;simp at h;subst h
      exact⟨x,by simp,h1,jGU _⟩
    |false=>
      rw[hb] at h
      obtain⟨y,k1,k2,k3⟩:=jpd r r' (i+1) h2 s v h
      exact⟨y,by rw[show s-i=(s-(i+1))+1 by omega];simpa using k1,k2,by omega⟩
theorem jd5 {vals:List Value} {n k:Nat} {x:Value} (h:vals[k]? =some x):(vals.toArray++Array.replicate n undef).getD k undef=x:=by
  have hlt:=(jGW.1 h).1;rw[jG0,jHE (by simpa using hlt)];simp[h]
theorem jC1 (hC:C.ok P) (hm:P.follows .mixedOrders=true) {g:Nat} {fn:Func} {body:Code} (hf:P.funcs[g]? =some fn) (hb:fn.body=some body) (hname:(fn.name== "runtime.NumGoroutine")=false) (hn:fn.ntmps=C.n)
    (hres:fn.results.toList=[]) {caps:List Par} (hps:caps.length+1≤C.n) {L:PD caps→List (Ty.st ts).Data→Prop} {pre:PD caps→List Prop} {A:PD caps→Nat→jk0 (YS ts)} {hk:PD caps→Nat→jnx (YS ts)}
    (h:jBy C body ts caps L pre A hk) (hcall:∀d l B0 R Rx,Res.stable R B0→Res.stable Rx B0→YB P ts B0 l R Rx (fun q=>∃rest,L d (q++rest))→jcI P C none (hk d l) (LvY ts B0 R Rx)∧jnt P C none (hk d l) (LvY ts B0 R Rx))
    {H:Imm} {lb:Array Value} {d:PD caps} (hd:pvs P H caps lb.toList d) (hpre:kR (pre d)):jCQ P H ts (L d) (.func (.func g) #[] lb):=by
  unfold jBy at h;refine⟨g,lb,rfl,qb hf hb hname,fun H1 w l R Rx hH hg hR hRx hY hR0=> ?_⟩;obtain⟨hc,hr⟩:=hcall d l w.heap.size R Rx hR hRx hY;have hv:=vZ _ _ (h d l) hpre;have hd1:=pvs.mono hH hd;have hlen:=yN hd1;refine calls_of_wp hf hb (jDw.1 ?_)
  let ρ:Env:=⟨H1,fun _=>none,fun _=>0⟩
  let B:zF:=⟨w,H1,[],fun _=>none,fun _=>0⟩
  have hS:Sat P B ρ (⟨(0,.lit (.func (.yield l) #[] #[]))::ko caps d 1,[]⟩:St).obj w:=by
    refine⟨rfl,rfl,rfl,jGU _,jGU _,hg,fun _ _ _=>rfl,fun _ _ _=>rfl,?_,fun _ _=>rfl,?_,?_⟩
    · intro o x hx;simp[St.obj,jF] at hx
    · intro o o' b C1 C2 h1;simp[ρ] at h1
    · intro o b C1 h1;simp[ρ] at h1
  have earr: #[Value.func (.yield l) #[] #[]]++lb=(Value.func (.yield l) #[] #[]::lb.toList).toArray:=(by apply jHb.1;simp);rw[earr];have hRel:jj4 P B C.n [] ⟨(0,.lit (.func (.yield l) #[] #[]))::ko caps d 1,[]⟩ {tmps:=(Value.func (.yield l) #[] #[]::lb.toList).toArray++Array.replicate (fn.ntmps-(Value.func (.yield l) #[] #[]::lb.toList).toArray.size) undef,defers:=[]} w:=by
    refine⟨_,(vK _).symm,rfl,by simp at hlen⊢;omega,ρ,hS,?_,fun o p _ hb=>by simp[ρ] at hb,fun _ _ hb=>hb⟩;intro k v hk;cases k with
    |zero=>
      rw[jH] at hk;simp at hk;subst hk;rw[jd5 (x:= .func (.yield l) #[] #[]) rfl];simp[SV.den]
    |succ k=>
      rw[jw (by omega)] at hk;obtain⟨x,h1,h2⟩:=wU (P:=P) (ρ:=ρ) caps lb.toList d 1 hd1 _ v hk;rw[jd5 (x:=x) (by simpa using h1)];exact h2
  refine kB hC hm (A d l) (hk d l) _ hc hr body _ _ _ _ _ w B [] hv ⟨rfl,jGU _,fun b hb=>by simp[B] at hb,fun _=>False,fun _ hb=>hb.elim,hR0⟩ hRel (fun e σ' ys' a' w' B' ds' hE hK hL' hR'=> ?_);obtain⟨rfl,hB0,hbor,fp,hfp,hlive⟩:=hL';obtain⟨a1,rfl,q1,q2,ρ',q3,q4,q5⟩:=hR';rw[vK];have move:∀(Z:Res (Ty.st ts).Data),Z.stable w.heap.size→Z ys'.1 fp B'.H B'.w→Z ys'.1 fp ρ'.H w':=fun Z hZ hz=>
    hZ _ _ _ _ _ _ hz q3.os q3.tape q3.output q3.drawn q3.size q3.good q5.2 (fun b hb hor=>by
      have hnb:b∉B'.bor:=by
        rcases hor with hor|hor
        · intro hm;have:=hbor b hm;omega
        · exact(hfp b hor).2.2
      exact⟨q3.old b hb hnb,q3.oldH b hb hnb⟩)
  have main:(ys'.2=true→L d ys'.1)→a1.defers=[]∧∃v,(Go.results fn a1.tmps).run P w'= .ok v w'∧∃v',(Ending.returned v)= .returned v'∧((∃xs fp' H',L d xs∧R xs fp' H' w')∨(∃q fp' H',Rx q fp' H' w')):=by
    intro hK';refine⟨q1,_,jae (vs:=[]) (by rw[hres];rfl),_,rfl,?_⟩;cases hy:ys'.2 with
    |true=>rw[hy] at hlive;exact .inl ⟨_,fp,_,hK' hy,move R hR hlive⟩
    |false=>rw[hy] at hlive;exact .inr ⟨_,fp,_,move Rx hRx hlive⟩
  cases e with
  |normal=>exact main hK
  |ret=>exact main hK
  |exit id=>exact hK.elim
end
end Go.X
namespace Go.X
open Go.RowKit (Below)
def jkh:(ps:List yK)→OD ps→KD ps→OD ps
  |[],_,_=>()
  | .own _ true::ps,d,k=>(k.1,jkh ps d.2 k.2)
  | .own _ false::ps,d,k=>(d.1,jkh ps d.2 k)
  | .val _::ps,d,k=>(d.1,jkh ps d.2 k)
  | .ref _::ps,d,k=>(d.1,jkh ps d.2 k)
  | .nil _::ps,d,k=>(d.1,jkh ps d.2 k)
  | .clo _::ps,d,k=>(d.1,jkh ps d.2 k)
  | .fn _ _::ps,d,k=>(d.1,jkh ps d.2 k)
def jgN:List yK→Bool
  |[]=>true
  | .own _ false::_=>false
  |_::ps=>jgN ps
section
variable {P:Program} {H H':Imm} {w w':World}
theorem jwo (hm:∀b c,H b=some c→H' b=some c) {c:Cl} {v:Value} {x:c.D} {bs:List Nat} (h:ClV H w c v x bs) (hk:∀b,b∈bs→w'.heap[b]? =w.heap[b]?∧H' b=H b):ClV H' w' c v x bs:=by
  cases c with
  |dat t=>exact⟨Ty.rv_mono hm h.1,h.2⟩
  |row E t nl=>
    obtain⟨h1,h2⟩:=h;refine⟨h1,?_⟩;rcases h2 with h2|⟨b,C,vs,rfl,rfl,e1,e2,e3,e4,e5,e6,e7⟩
    · exact .inl h2
    · obtain⟨k1,k2⟩:=hk b (by simp);exact .inr ⟨b,C,vs,rfl,rfl,by rw[k2];exact e1,e2,by rw[k1];exact e3,e4,e5,e6,fun i y hy=>t.rd_mono hm _ _ (e7 i y hy)⟩
  |map kt vt=>
    obtain⟨b,es,clock,rfl,rfl,e1,e2,e3⟩:=h;obtain⟨k1,k2⟩:=hk b (by simp);exact⟨b,es,clock,rfl,rfl,by rw[k2];exact e1,by rw[k1];exact e2,e3.mono hm⟩
theorem jne (hm:∀b c,H b=some c→H' b=some c):∀{cs:List Cl} {vs:List Value} {x:Cl.Ds cs} {bs:List Nat},jCS H w cs vs x bs→(∀b,b∈bs→w'.heap[b]? =w.heap[b]?∧H' b=H b)→jCS H' w' cs vs x bs
  |[],_,_,_,h,_=>h
  |_::_,[],_,_,h,_=>h.elim
  |c::cs,v::vs,x,bs,h,hk=>by
    obtain⟨b1,b2,rfl,h1,h2,h3⟩:=h
    exact⟨b1,b2,rfl,jwo hm h1 (fun b hb=>hk b (jGR _ hb)),h2,jne hm h3 (fun b hb=>hk b (jGQ _ hb))⟩
theorem jvG (hm:∀b c,H b=some c→H' b=some c) {s:Sh} {v:Value} {x:s.D} {bs:List Nat} (h:ShV H w s v x bs) (hk:∀b,b∈bs→w'.heap[b]? =w.heap[b]?∧H' b=H b):ShV H' w' s v x bs:=by
  cases s with
  |cl c=>exact jwo hm h hk
  |box T cs=>
    obtain⟨b,vs,bs',rfl,rfl,e1,e2,e3⟩:=h;obtain⟨k1,k2⟩:=hk b (by simp);exact⟨b,vs,bs',rfl,rfl,by rw[k2];exact e1,by rw[k1];exact e2,jne hm e3 (fun b hb=>hk b (jGV _ hb))⟩
  |fbox f T cs=>
    obtain⟨b,vs,bs',rfl,rfl,e1,e2,e3⟩:=h;obtain⟨k1,k2⟩:=hk b (by simp);exact⟨b,vs,bs',rfl,rfl,by rw[k2];exact e1,by rw[k1];exact e2,jne hm e3 (fun b hb=>hk b (jGV _ hb))⟩
theorem jzC (hm:∀b c,H b=some c→H' b=some c) {p:yK} {v:Value} {d:p.Data} {bs:List Nat} (h:jGb P H w p v d bs) (hk:∀b,b∈bs→w'.heap[b]? =w.heap[b]?∧H' b=H b):jGb P H' w' p v d bs:=by
  cases p with
  |val t=>exact⟨Ty.rv_mono hm h.1,h.2⟩
  |ref t=>exact⟨jzc.mono hm h.1,h.2⟩
  |nil _=>exact h
  |clo f=>exact h
  |fn ps rs=>exact⟨FnV.mono hm h.1,h.2⟩
  |own s b=>exact jvG hm h hk
theorem ja9 (hm:∀b c,H b=some c→H' b=some c):∀{ps:List yK} {vs:List Value} {d:OD ps} {bs:List Nat},jbu P H w ps vs d bs→(∀b,b∈bs→w'.heap[b]? =w.heap[b]?∧H' b=H b)→jbu P H' w' ps vs d bs
  |[],_,_,_,h,_=>h
  |_::_,[],_,_,h,_=>h.elim
  |p::ps,v::vs,d,bs,h,hk=>by
    obtain⟨b1,b2,rfl,h1,h2⟩:=h
    exact⟨b1,b2,rfl,jzC hm h1 (fun b hb=>hk b (jGR _ hb)),ja9 hm h2 (fun b hb=>hk b (jGQ _ hb))⟩
theorem gy (hm:∀b c,H b=some c→H' b=some c):∀{ps:List yK} {vs:List Value} {d:OD ps} {k:KD ps} {bs kb:List Nat},jgN ps=true→jbu P H w ps vs d bs→jjh H' w' ps vs k kb→jbu P H' w' ps vs (jkh ps d k) kb
  |[],_,_,_,_,_,_,h,hk=>⟨h.1,hk⟩
  |_::_,[],_,_,_,_,_,h,_=>h.elim
  | .own s true::ps,v::vs,d,k,bs,kb,ha,h,hk=>by
    obtain⟨b1,b2,rfl,h1,h2⟩:=h
    obtain⟨c1,c2,rfl,k1,k2⟩:=hk
    exact⟨c1,c2,rfl,k1,gy hm ha h2 k2⟩
  | .own s false::ps,v::vs,d,k,bs,kb,ha,h,hk=>by simp[jgN] at ha
  | .val t::ps,v::vs,d,k,bs,kb,ha,h,hk=>by
    obtain⟨b1,b2,rfl,h1,h2⟩:=h
    exact⟨[],kb,rfl,⟨Ty.rv_mono hm h1.1,rfl⟩,gy hm ha h2 hk⟩
  | .ref t::ps,v::vs,d,k,bs,kb,ha,h,hk=>by
    obtain⟨b1,b2,rfl,h1,h2⟩:=h
    exact⟨[],kb,rfl,⟨jzc.mono hm h1.1,rfl⟩,gy hm ha h2 hk⟩
  | .nil _::ps,v::vs,d,k,bs,kb,ha,h,hk=>by
    obtain⟨b1,b2,rfl,h1,h2⟩:=h
    exact⟨[],kb,rfl,⟨h1.1,rfl⟩,gy hm ha h2 hk⟩
  | .clo f::ps,v::vs,d,k,bs,kb,ha,h,hk=>by
    obtain⟨b1,b2,rfl,h1,h2⟩:=h
    exact⟨[],kb,rfl,⟨h1.1,rfl⟩,gy hm ha h2 hk⟩
  | .fn qs rs::ps,v::vs,d,k,bs,kb,ha,h,hk=>by
    obtain⟨b1,b2,rfl,h1,h2⟩:=h
    exact⟨[],kb,rfl,⟨FnV.mono hm h1.1,rfl⟩,gy hm ha h2 hk⟩
theorem wb:∀{ps:List yK} {vs:List Value} {d:OD ps} {k:KD ps} {bs:List Nat},jgN ps=true→jbu P H w ps vs (jkh ps d k) bs→jjh H w ps vs k bs
  |[],_,_,_,_,_,h=>h.2
  |_::_,[],_,_,_,_,h=>h.elim
  | .own s true::ps,v::vs,d,k,bs,ha,h=>by
    obtain⟨b1,b2,rfl,h1,h2⟩:=h
    exact⟨b1,b2,rfl,h1,wb (d:=d.2) ha h2⟩
  | .own s false::ps,v::vs,d,k,bs,ha,h=>by simp[jgN] at ha
  | .val t::ps,v::vs,d,k,bs,ha,h=>by
    obtain⟨b1,b2,rfl,⟨_,rfl⟩,h2⟩:=h
    exact wb (d:=d.2) (ps:=ps) ha h2
  | .ref t::ps,v::vs,d,k,bs,ha,h=>by
    obtain⟨b1,b2,rfl,⟨_,rfl⟩,h2⟩:=h
    exact wb (d:=d.2) (ps:=ps) ha h2
  | .nil _::ps,v::vs,d,k,bs,ha,h=>by
    obtain⟨b1,b2,rfl,⟨_,rfl⟩,h2⟩:=h
    exact wb (d:=d.2) (ps:=ps) ha h2
  | .clo f::ps,v::vs,d,k,bs,ha,h=>by
    obtain⟨b1,b2,rfl,⟨_,rfl⟩,h2⟩:=h
    exact wb (d:=d.2) (ps:=ps) ha h2
  | .fn qs rs::ps,v::vs,d,k,bs,ha,h=>by
    obtain⟨b1,b2,rfl,⟨_,rfl⟩,h2⟩:=h
    exact wb (d:=d.2) (ps:=ps) ha h2
theorem vU:∀(ps:List yK) (d:OD ps) (k k':KD ps),jkh ps (jkh ps d k) k'=jkh ps d k'
  |[],_,_,_=>rfl
  | .own _ true::ps,d,k,k'=>by simp only[jkh,vU ps]
  | .own _ false::ps,d,k,k'=>by simp only[jkh,vU ps]
  | .val _::ps,d,k,k'=>by simp only[jkh,vU ps]
  | .ref _::ps,d,k,k'=>by simp only[jkh,vU ps]
  | .nil _::ps,d,k,k'=>by simp only[jkh,vU ps]
  | .clo _::ps,d,k,k'=>by simp only[jkh,vU ps]
  | .fn _ _::ps,d,k,k'=>by simp only[jkh,vU ps]
end
end Go.X
namespace Go.X
open Go.RowKit (Below)
structure jtk (ts:List Ty) where
  ps:List yK
  slots:List Nat
  dst:Nat
  pre:OD ps→List Prop
  G:OD ps→List (Ty.st ts).Data→KD ps
  stop:OD ps→List (Ty.st ts).Data→Bool:=fun _ _=>false
  seq:SV→Option (Prop×(List (Ty.st ts).Data→Prop))
def jpf:jnx Unit:=⟨fun _=>false,fun _ _ _ _ _=>False,fun _ _ _ _ _ _ _=>False⟩
def jvF (slots:List Nat) (i:Nat):Nat:=match slots[i]? with|some s=>s|none=>1000000
def jE4 (slots:List Nat) (l:List (Nat×SV)):List (Nat×SV):=l.map (fun p=>(jvF slots p.1,p.2))
def jpA:List Nat→List SV→List (Nat×SV)
  |p::ps,v::vs=>(p,v)::jpA ps vs
  |_,_=>[]
def wv {D:Type} (stop:List D→Bool) (q:List D):Prop:=∀a x b,q=a++x::b→stop (a++[x])=false
def jwB {D:Type} (L:List D→Prop) (stop:List D→Bool) (q:List D):Prop:=∃a x rest,q=a++[x]∧L (a++x::rest)∧wv stop a∧stop q=true
def jwb (σ:St) (ps:List yK) (want:KD ps):Prop:=match vD σ ps 0 with
  |some (k,o2,f2)=>match vf o2,jdP f2 o2 with
    |true,false=>k=want
    |_,_=>False
  |none=>False
def juR (ps:List yK) (want:KD ps) (b:Bool):Ex→St→Unit→Prop
  | .normal,σ,_=>b=false∧jwb σ ps want
  | .ret,σ,_=>b=true∧jwb σ ps want
  |_,_,_=>False
def jyY {ts:List Ty} (C:Ctx) (A:jk0 Unit) (rs:jtk ts) (pl:List Nat) (aZ b:Code) (L:List (Ty.st ts).Data→Prop) (d:OD rs.ps):Prop:=
  ∀(q:List (Ty.st ts).Data) (x:(Ty.st ts).Data) (rest:List (Ty.st ts).Data),L (q++x::rest)→wv (rs.stop d) q→
    jk6 C A jpf aZ ⟨jpA pl (results ts x)++jE4 rs.slots (oSl rs.ps (jkh rs.ps d (rs.G d q)) 0),oOb rs.ps (jkh rs.ps d (rs.G d q)) 0⟩ () (fun e σ1 _=>match e with
      | .normal=>jk6 C A jpf b σ1 () (juR rs.ps (rs.G d (q++[x])) (rs.stop d (q++[x])))
      |_=>False)
def jpZ (n k:Nat) (pl slots:List Nat):Bool:=match pl.all (fun p=>match Nat.blt p n,jaH slots p with|true,false=>true|_,_=>false),vf pl,Nat.beq pl.length k,slots.all (fun s=>Nat.blt s n) with
  |true,true,true,true=>true
  |_,_,_,_=>false
def jwA {ts:List Ty} (C:Ctx) (rs:jtk ts) (σ:St) (xs:List (Ty.st ts).Data) (d:OD rs.ps) (K:St→Unit→Prop):Prop:=
  match jmp C ⟨rs.ps,[],rs.pre,fun d=>((),rs.G d xs)⟩ rs.dst σ (rs.slots.map σ.get) with
  |some out=>match jo1 ⟨σ,[]⟩ out.nw with
    |true=>K ⟨σ.sl,out.wr++(q6 σ out.fz++σ.ob)⟩ ()
    |false=>False
  |none=>False
def hkR (C:Ctx) (A:jk0 Unit) (tbl:Nat→Option ((ts:List Ty)×jtk ts)):jnx Unit:=
  ⟨fun _=>false,fun _ _ _ _ _=>False,fun g ps aZ b σ _ K=>match tbl (jfn b) with
    |some ⟨ts,rs⟩=>
      match rs.seq (jL σ g),jty C σ rs.ps (rs.slots.map σ.get) with
      |some (pr,L),some (d,os,fz)=>match vf os,jdP fz os,jgN rs.ps,vf (jw9 rs.ps 0),jpZ C.n ts.length ps.toList rs.slots with
        |true,false,true,true,true=>pr∧kR (rs.pre d)∧jkh rs.ps d (rs.G d [])=d∧jyY C A rs ps.toList aZ b L d∧
          (∀xs,L xs→wv (rs.stop d) xs→jwA C rs σ xs d (K false))∧
          (∀q x rest,L (q++x::rest)→wv (rs.stop d) q→rs.stop d (q++[x])=true→jwA C rs σ (q++[x]) d (K true))
        |_,_,_,_,_=>False
      |_,_=>False
    |none=>False⟩
def jFX (Bi B:zF) (ds:List Deferred):Prop:=
  ds.Nodup∧∀x,x∈ds→∃D,x={target:= .collected D,args:= #[]}∧Bi.w.heap.size≤D∧D∉B.bor∧B.w.heap[D]? =some (.deferred (some []))
def LvR (Bi:zF) (B:zF) (ds:List Deferred) (_:Unit):Prop:=jor Bi B∧jFX Bi B ds
section
variable {P:Program} {C:Ctx}
theorem jnk {r:Option Nat} {Lv:zF→List Deferred→Unit→Prop}:jcI P C r jpf Lv:=fun _ _ _ _ _ _ _ _ _ _ _ _ _ _ _ _ _ h _ _ _=>h.elim
theorem joR {r:Option Nat} {Lv:zF→List Deferred→Unit→Prop}:jnt P C r jpf Lv:=fun _ _ _ _ _ _ _ _ _ _ _ _ h _ _ _=>h.elim
theorem jpj {c:Fz} {r:Loop}:¬c.at (some (.loop r)):=by
  cases c with
  |cells c=>rintro⟨T,fr,e⟩;cases e
  |map es clock=>intro e;simp[Fz.at] at e
theorem jfm {c:Fz} {ds:Option (List Deferred)}:¬c.at (some (.deferred ds)):=by
  cases c with
  |cells c=>rintro⟨T,fr,e⟩;cases e
  |map es clock=>intro e;simp[Fz.at] at e
theorem joZ {ρ:Env} {w:World} {o b Cp:Nat} {x:Ob} (h:j9 P ρ w o (some (b,Cp)) x):(∀r,w.heap[b]?≠some (.loop r))∧∀ds,w.heap[b]?≠some (.deferred ds):=by
  have key:∀y,w.heap[b]? =some y→((∀r,y≠.loop r)∧∀ds,y≠.deferred ds)→(∀r,w.heap[b]?≠some (.loop r))∧∀ds,w.heap[b]?≠some (.deferred ds):=by
    intro y hy hn;rw[hy];exact⟨fun r e=>hn.1 r (by simpa using e),fun ds e=>hn.2 ds (by simpa using e)⟩
  cases x with
  |box T fz cs=>
    obtain⟨b',C',vs,e,h1,_⟩:=h;simp at e;obtain⟨rfl,rfl⟩:=e;exact key _ h1 ⟨by simp,by simp⟩
  |row E t fz nl l=>
    obtain⟨_,_,_,vs,h1,_⟩:=h;exact key _ h1 ⟨by simp,by simp⟩
  |map fz kt vt l=>
    obtain⟨b',C',es,clock,e,h1,_⟩:=h;simp at e;obtain⟨rfl,rfl⟩:=e;exact key _ h1 ⟨by simp,by simp⟩
  |iter kt vt left cur=>
    obtain⟨b',C',y,e,h1,h2,_⟩:=h;simp at e;obtain⟨rfl,rfl⟩:=e;refine key _ h1 ⟨fun r e=> ?_,fun ds e=> ?_⟩<;>subst e<;>simp[jfu] at h2
  |mape kt vt l k s=>
    obtain⟨b',C',es,clock,e,h1,_⟩:=h;simp at e;obtain⟨rfl,rfl⟩:=e;exact key _ h1 ⟨by simp,by simp⟩
theorem jkY {B:zF} {ρ:Env} {σ:St} {w:World} (hS:Sat P B ρ σ.obj w) {o b Cp:Nat} (h:ρ.blk o=some (some (b,Cp))):(∀r,w.heap[b]?≠some (.loop r))∧∀ds,w.heap[b]?≠some (.deferred ds):=by
  cases hobj:σ.obj o with
  |none=>rw[hS.dead o hobj] at h;cases h
  |some x'=>
    obtain⟨p,hp,hs⟩:=hS.obs o x' hobj;rw[h] at hp;simp at hp;subst hp;exact joZ hs
theorem jyT {B:zF} {ρ:Env} {obj:Nat→Option Ob} {w:World} (hS:Sat P B ρ obj w) {l:Nat} {r:Loop} (o:Obj) (hl:l<B.w.heap.size) (hb:l∉B.bor) (hr:w.heap[l]? =some (.loop r)):
    Sat P {B with w:=B.w.putObj l o} ρ obj (w.putObj l o):=by
  have hne:∀b c,ρ.H b=some c→b≠l:=by
    intro b c hc e;subst e;have:=hS.good.1 _ _ hc;rw[hr] at this;exact jpj this
  refine⟨hS.os,hS.tape,hS.output,hS.drawn,by simpa using hS.size,⟨fun b c hc=> ?_,hS.good.2⟩,fun b h1 h2=>hS.oldH b (by simpa using h1) h2,fun b h1 h2=> ?_,?_,hS.dead,hS.inj,fun o' b Cp h=>by simpa using hS.own o' b Cp h⟩
  · rw[World.putObj_heap_other (hne b c hc)];exact hS.good.1 b c hc
  · have h1':b<B.w.heap.size:=(by simpa using h1);show(w.putObj l o).heap[b]? =(B.w.putObj l o).heap[b]?;by_cases e:b=l
    · subst e;rw[World.putObj_heap_same (jGZ.1 hr).1,World.putObj_heap_same hl]
    · rw[World.putObj_heap_other e,World.putObj_heap_other e];exact hS.old b h1' h2
  · intro o' x hx;obtain⟨p,hp,hs⟩:=hS.obs o' x hx;refine⟨p,hp,jN (Env.le.refl ρ []) (by simp) (fun _ _ _ _ _ ho=>by simp at ho) (fun b Cp hpb=>⟨rfl,?_⟩) hs⟩;subst hpb;refine World.putObj_heap_other (fun e=> ?_);subst e;exact(joZ hs).1 r hr
theorem jsn {slots:List Nat}:∀(l:List (Nat×SV)) (s:Nat) (v:SV),jF (jE4 slots l) s=some v→∃i,(i,v)∈l∧jvF slots i=s
  |[],s,v,h=>by simp[jE4,jF] at h
  | (i,u)::l,s,v,h=>by
    simp only[jE4,jHU,jF] at h
    cases hb:Nat.beq (jvF slots i) s with
    |true=>rw[hb] at h;simp at h;subst h;exact⟨i,by simp,jGP hb⟩
    |false=>
      rw[hb] at h
      obtain⟨j,h1,h2⟩:=jsn l s v h
      exact⟨j,by simp[h1],h2⟩
theorem jv1:∀(ps:List yK) (d:OD ps) (i:Nat) (j:Nat) (v:SV),(j,v)∈oSl ps d i→jF (oSl ps d i) j=some v
  |[],d,i,j,v,h=>by simp[oSl] at h
  |p::ps,d,i,j,v,h=>by
    have:∃sv,oSl (p::ps) d i=(i,sv)::oSl ps d.2 (i+1):=by cases p<;>exact⟨_,rfl⟩
    obtain⟨sv,e⟩:=this
    rw[e] at h⊢
    rcases jGS.1 h with h|h
    · simp at h;obtain⟨rfl,rfl⟩:=h;exact jH _ _ _
    · have hl:=jv1 ps d.2 (i+1) j v h
      have:=jv2 ps d.2 (i+1) j v hl
      rw[jw (by omega)]
      exact hl
end
end Go.X
namespace Go.X
open Go.RowKit (Below)
def jxh:Bool→Option Code
  |true=>some .ret
  |false=>none
def jts (rec:Loop) (b:Bool):Loop:={rec with state:=(match b with|true=> .done|false=> .ready),pending:=jxh b}
structure jCR (P:Program) (w:World) (H0:Imm) (bs:List Nat) (rec:Loop) (ps:List yK) (vals:List Value) (d:OD ps) {D:Type} (G:List D→KD ps) (M:List D→Prop) (q:List D) (fp:Nat→Prop) (H:Imm) (W:World):Prop where
  mid:M q
  os:W.os=w.os
  tape:W.tape=w.tape
  output:W.output=w.output
  drawn:w.drawn≤W.drawn
  size:w.heap.size+2≤W.heap.size
  good:jcY H W
  mono:∀b c,H0 b=some c→H b=some c
  old:∀b,b<w.heap.size→b∉bs→W.heap[b]? =w.heap[b]?∧H b=H0 b
  mark:W.heap[w.heap.size]? =some (.deferred (some []))
  loop:W.heap[w.heap.size+1]? =some (.loop rec)
  args:∃bs',jbu P H W ps vals (jkh ps d (G q)) bs'∧bs'.Nodup∧∀b,b∈bs'→(b∈bs∨(fp b∧w.heap.size+2≤b))∧b<W.heap.size
section
variable {P:Program} {C:Ctx}
theorem jlZ {w:World} {H0:Imm} {bs:List Nat} {rec:Loop} {ps:List yK} {vals:List Value} {d:OD ps} {D:Type} {G:List D→KD ps} {M:List D→Prop} (hbs:∀b,b∈bs→b<w.heap.size):
    Res.stable (jCR P w H0 bs rec ps vals d G M) (w.heap.size+2):=by
  intro q fp H W H' W' h e1 e2 e3 e3' e4 hg hm hk;have low:∀b,b<w.heap.size+2→W'.heap[b]? =W.heap[b]?∧H' b=H b:=fun b hb=>hk b (jHQ hb h.size) (.inl hb)
  refine⟨h.mid,e1.trans h.os,e2.trans h.tape,e3.trans h.output,jG5 h.drawn e3',jG5 h.size e4,hg,fun b c hb=>hm b c (h.mono b c hb),fun b h1 h2=> ?_,?_,?_,?_⟩
  · obtain⟨k1,k2⟩:=low b (by omega);obtain⟨k3,k4⟩:=h.old b h1 h2;exact⟨k1.trans k3,k2.trans k4⟩
  · rw[(low _ (by omega)).1];exact h.mark
  · rw[(low _ (by omega)).1];exact h.loop
  · obtain⟨bs',g1,g2,g3⟩:=h.args;refine⟨bs',ja9 hm g1 (fun b hb=> ?_),g2,fun b hb=>⟨(g3 b hb).1,jHQ (g3 b hb).2 e4⟩⟩;refine hk b (g3 b hb).2 ?_;rcases(g3 b hb).1 with h1|h1
    · have:=hbs b h1;exact .inl (by omega)
    · exact .inr h1.1
def jcx:List Nat→List Value→Array Value→Array Value
  |p::ps,v::vs,t=>jcx ps vs (t.setIfInBounds p v)
  |_,_,t=>t
theorem jma:∀(pl:List Nat) (vs:List Value) (t:Array Value),((pl.zip vs).foldl (fun tmps (x:Tmp×Value)=>match x with|(t,a)=>tmps.setIfInBounds t a) t)=jcx pl vs t
  |[],vs,t=>by cases vs<;>rfl
  |p::ps,[],t=>rfl
  |p::ps,v::vs,t=>by simp only[List.zip_cons_cons,List.foldl_cons,jcx];exact jma ps vs _
theorem jl9:∀(pl:List Nat) (vs:List Value) (t:Array Value),(jcx pl vs t).size=t.size
  |[],vs,t=>by cases vs<;>rfl
  |p::ps,[],t=>rfl
  |p::ps,v::vs,t=>by simp only[jcx];rw[jl9];simp
theorem jdF:∀(pl:List Nat) (vs:List Value) (t:Array Value) (s:Nat),s∉pl→(jcx pl vs t).getD s undef=t.getD s undef
  |[],vs,t,s,_=>by cases vs<;>rfl
  |p::ps,[],t,s,_=>rfl
  |p::ps,v::vs,t,s,h=>by
    simp only[jcx]
    rw[jdF ps vs _ s (fun hm=>h (jGV _ hm))]
    simp only[jG0,jG7]
    rw[if_neg (fun e=>h (by rw[e];simp))]
theorem jrT:∀(pl:List Nat) (svs:List SV) (vs:List Value) (t:Array Value) {ρ:Env},pl.Nodup→(∀p,p∈pl→p<t.size)→SV.denL P ρ svs vs→∀(s:Nat) (y:SV),jF (jpA pl svs) s=some y→SV.den P ρ y ((jcx pl vs t).getD s undef)
  |[],svs,vs,t,ρ,_,_,_,s,y,h=>by simp[jpA,jF] at h
  |p::ps,[],vs,t,ρ,_,_,_,s,y,h=>by simp[jpA,jF] at h
  |p::ps,sv::svs,vs,t,ρ,hn,hl,hd,s,y,h=>by
    simp only[SV.denL] at hd
    obtain⟨v,r,rfl,h1,h2⟩:=hd
    rw[jHJ] at hn
    simp only[jcx]
    simp only[jpA] at h
    by_cases e:p=s
    · subst e
      rw[jH] at h
      simp only[Option.some.injEq] at h;subst h
      rw[jdF ps r _ p hn.1]
      simp only[jG0,jG7]
      simp only[if_true]
      rw[if_pos (hl p (by simp))]
      simpa using h1
    · rw[jw e] at h
      exact jrT ps svs r _ hn.2 (fun q hq=>by simpa using hl q (jGV _ hq)) h2 s y h
theorem jpY {n k:Nat} {pl slots:List Nat} (h:jpZ n k pl slots=true):(∀p,p∈pl→p<n∧p∉slots)∧pl.Nodup∧pl.length=k∧∀s,s∈slots→s<n:=by
  unfold jpZ at h
  split at h
  · rename_i h1 h2 h3 h4;refine⟨fun p hp=> ?_,km _ h2,jGP h3,fun s hs=>jG6 (jHo.1 h4 s hs)⟩;have:=jHo.1 h1 p hp
    split at this
    · rename_i k1 k2;exact⟨jG6 k1,yP k2⟩
    · cases this
  · cases h
theorem joO {H:Imm}:∀(ts:List Ty) (vs:List Value) (d:(Ty.st ts).Data),rvs H ts vs d→vs.length=ts.length
  |[],vs,d,h=>by simp only[rvs] at h;subst h;rfl
  |t::ts,[],d,h=>h.elim
  |t::ts,v::vs,d,h=>by obtain⟨_,h2⟩:=h;simp only[jHr];rw[joO ts vs d.2 h2]
theorem jBC (hC:C.ok P) (hm:P.follows .mixedOrders=true) {ts:List Ty} {A:jk0 Unit} {rs:jtk ts} {p:Array Tmp} {aZ b:Code} {L:List (Ty.st ts).Data→Prop} {d:OD rs.ps} (hround:jyY C A rs p.toList aZ b L d) (hall:jgN rs.ps=true)
    (hnm:vf (jw9 rs.ps 0)=true) (hsl:jpZ C.n ts.length p.toList rs.slots=true) {a0:Act} (hn0:a0.tmps.size=C.n) {fn:FuncId} {w:World} {H0:Imm} {bs:List Nat} (hbs:∀b,b∈bs→b<w.heap.size) {vals:List Value}
    (hvals:vals=rs.slots.map (fun s=>a0.tmps.getD s undef)) {rec:Loop} (hrec:rec={state:= .ready,pending:=none,fn,tmps:=a0.tmps,params:=p,assign:=aZ,body:=b,defers:=w.heap.size}):
    YB P ts (w.heap.size+2) (w.heap.size+1) (jCR P w H0 bs (jts rec false) rs.ps vals d (rs.G d) (wv (rs.stop d))) (jCR P w H0 bs (jts rec true) rs.ps vals d (rs.G d) (jwB L (rs.stop d))) (fun q=>∃rest,L (q++rest)):=by
  intro q x vx fp H W hPm hR hgW hB0 hfpW hvx;obtain⟨rest,hL⟩:=hPm;have hL':L (q++x::rest):=(by simpa using hL);obtain⟨bs',r10,r11,r12⟩:=hR.args;have hr0:jts rec false=rec:=(by rw[hrec];rfl);have hloop:=hR.loop;rw[hr0] at hloop;have hlW:w.heap.size+1<W.heap.size:=(jGZ.1 hloop).1;have hlb:w.heap.size+1∉bs':=by
    intro hm';rcases(r12 _ hm').1 with h|h
    · have:=hbs _ h;omega
    · have:=h.2;omega
  have hDb:w.heap.size∉bs':=by
    intro hm';rcases(r12 _ hm').1 with h|h
    · have:=hbs _ h;omega
    · have:=h.2;omega
  obtain⟨hsp,hpn,hpl,hslt⟩:=jpY hsl;have hvl:=joO _ _ _ hvx;have hy:=run_yield (P:=P) (args:=vx.toArray) hloop (by rw[hrec];simp[hvl,←hpl]);rw[hrec] at hy;refine⟨fn,_,aZ,b,hy,?_⟩;refine roundIn_of_wpIn (F:=Fence.wide) trivial ?_;have ht:((p.zip vx.toArray).foldl (fun tmps (x:Tmp×Value)=>match x with|(t,a)=>tmps.setIfInBounds t a) a0.tmps)=jcx p.toList vx a0.tmps:=by
    rw[←jma,←Array.foldl_toList];simp
  simp only at ht⊢;rw[ht]
  let d':=jkh rs.ps d (rs.G d q)
  have hlen:=jdO rs.ps vals d' bs' r10
  let B0:zF:=⟨W,H,bs',fun _=>none,fun _=>0⟩
  let ρ0:Env:=⟨H,fun _=>none,fun _=>0⟩
  have hS0:Sat P B0 ρ0 (oo []) W:=by
    refine⟨rfl,rfl,rfl,jGU _,jGU _,hgW,fun _ _ _=>rfl,fun _ _ _=>rfl,?_,fun _ _=>rfl,?_,?_⟩
    · intro o x hx;simp[oo,St.obj,jF] at hx
    · intro o o' b C1 C2 h1;simp[ρ0] at h1
    · intro o b C1 h1;simp[ρ0] at h1
  obtain⟨ρf,ad,hslf⟩:=jkS rs.ps 0 hS0 (d:=d') r10 r11 (fun b hb=>⟨.inr hb,fun o C' h=>by simp[ρ0] at h⟩) (km _ hnm)
    (fun n _=>⟨by simp[oo,St.obj,jF],fun o T fz cs h=>by simp[oo,St.obj,jF] at h⟩)
  let Bx:zF:=⟨W,H,bs',ρf.blk,ρf.len⟩
  have hSf:Sat P Bx ρf (⟨jpA p.toList (results ts x)++jE4 rs.slots (oSl rs.ps d' 0),oOb rs.ps d' 0⟩:St).obj W:=by
    have:=jvK (B':=Bx) ad.sat rfl rfl rfl;rw[jHf] at this;exact this
  have hR0:jj4 P Bx C.n [] ⟨jpA p.toList (results ts x)++jE4 rs.slots (oSl rs.ps d' 0),oOb rs.ps d' 0⟩ {tmps:=jcx p.toList vx a0.tmps,defers:=[]} W:=by
    refine⟨_,(vK _).symm,rfl,by rw[jl9];exact hn0,ρf,hSf,?_,fun o p _ hp=>⟨hp,rfl⟩,fun _ _ hb=>by rw[ad.H];exact hb⟩;intro s y hy;rw[jk] at hy;cases hz:jF (jpA p.toList (results ts x)) s with
    |some y'=>
      rw[hz] at hy;simp only[Option.some.injEq] at hy;subst hy;exact jrT p.toList _ vx _ hpn (fun q hq=>by rw[hn0];exact(hsp q hq).1) (jbV (H:=H) ad.H ts vx x hvx) s y' hz
    |none=>
      rw[hz] at hy;simp only at hy;obtain⟨i,hi,hsi⟩:=jsn _ s y hy;obtain⟨u,hu,hdu⟩:=hslf i y (jv1 _ _ _ _ _ hi);rw[hvals] at hu;simp only[Nat.sub_zero,jH6] at hu;unfold jvF at hsi;cases hsl2:rs.slots[i]? with
      |none=>rw[hsl2] at hu;cases hu
      |some s'=>
        rw[hsl2] at hu hsi;simp only at hsi;subst hsi;simp only[Option.map_some,Option.some.injEq] at hu;subst hu;have:s'∉p.toList:=fun hm'=>(hsp s' hm').2 (jHP hsl2)
        show SV.den P ρf y ((jcx p.toList vx a0.tmps).getD s' undef);rw[jdF _ _ _ _ this];exact hdu
  refine kB (r:=some (w.heap.size+1)) hC hm A jpf (fun B ds _=>B=Bx∧ds=[]) jnk joR aZ _ () _ _ _ W Bx [] (hround q x rest hL' hR.mid) ⟨rfl,rfl⟩ hR0 (fun e σ1 _ a1 w1 B1 ds1 _ hK1 hB1 hR1=> ?_);obtain⟨rfl,rfl⟩:=hB1;cases e with
  |ret=>exact hK1.elim
  |exit id=>exact hK1.elim
  |normal=>
  obtain⟨a1',rfl,q1,q2,ρ1,q3,q4,q5⟩:=hR1;rw[vK];have hl1:w1.heap[w.heap.size+1]? =some (.loop rec):=(by rw[q3.old _ hlW hlb];exact hloop);refine⟨_,run_beginRound hl1 (by rw[hrec]),?_⟩
  let busy:Obj:= .loop {rec with state:= .busy}
  let By:zF:={Bx with w:=W.putObj (w.heap.size+1) busy}
  have hS2:Sat P By ρ1 σ1.obj (w1.putObj (w.heap.size+1) busy):=jyT q3 busy hlW hlb hl1;have hR2:jj4 P By C.n [] σ1 a1' (w1.putObj (w.heap.size+1) busy):=⟨a1',(vK _).symm,q1,q2,ρ1,hS2,q4,q5⟩;refine kB (r:=some (w.heap.size+1)) hC hm A jpf (fun B ds _=>B=By∧ds=[]) jnk joR b σ1 () _ _ _ _ By [] hK1 ⟨rfl,rfl⟩ hR2 (fun e σ3 _ a3 w3 B3 ds3 _ hK3 hB3 hR3=> ?_);obtain⟨rfl,rfl⟩:=hB3;obtain⟨a3',rfl,s1,s2,ρ3,s3,s4,s5⟩:=hR3;have hWy:By.w.heap.size=W.heap.size:=(by simp[By]);have hl3:w3.heap[w.heap.size+1]? =some busy:=by
    rw[s3.old _ (by rw[hWy];exact hlW) hlb];exact World.putObj_heap_same hlW
  have key:∀β:Bool,rs.stop d (q++[x])=β→jwb σ3 rs.ps (rs.G d (q++[x]))→∃v w',(Instr.endRound (w.heap.size+1) (jxh β)).run P w3= .ok v w'∧
      (∃β fp' H',Ending.returned v= .returned (.bool β)∧jEU (w.heap.size+2) fp H W fp' H' w'∧(match β with
        |true=>jCR P w H0 bs (jts rec false) rs.ps vals d (rs.G d) (wv (rs.stop d)) (q++[x]) fp' H' w'
        |false=>jCR P w H0 bs (jts rec true) rs.ps vals d (rs.G d) (jwB L (rs.stop d)) (q++[x]) fp' H' w')):=by
    intro β hβ hK4;refine⟨_,_,run_endRound _ hl3,?_⟩;unfold jwb at hK4
    split at hK4
    case h_2=>exact hK4.elim
    rename_i k o2 f2 hkept
    split at hK4
    case h_2=>exact hK4.elim
    rename_i hno hme;obtain⟨ρ4,hS4,hle4,hblk4,hln4⟩:=jP (σ:=σ3) f2 s3;have hkeep:jji σ3 (σ3.frz f2) o2:=by
      intro o ho;rw[ku,if_neg];exact fun hm=>wd _ _ hme o hm ho
    have e3:=zR hS4 (qa σ3 _) rs.ps 0 vals k o2 f2 hkept hlen (fun j sh bb v hj hvj=>by
        obtain⟨y0,hx⟩:=jp7 rs.ps d' 0 j sh bb hj;obtain⟨y,y1,y2⟩:=hslf (0+j) _ hx;have:y=v:=by
          rw[show 0+j-0=j by omega,hvj] at y1;simpa using y1.symm
        subst this;refine jAK (fun p hp=> ?_) y2;rw[hblk4] at hp;obtain⟨q1,q2⟩:=s5.1 (gI (0+j)) p (by unfold gI;omega) hp;exact⟨q1,by rw[hln4];exact q2⟩) (fun o ho=>ho) hkeep
    have hmono:∀b c,H b=some c→ρ4.H b=some c:=fun b c hb=>hle4.H b c (s5.2 b c hb)
    have e4:jbu P ρ4.H w3 rs.ps vals (jkh rs.ps d' k) (j8 ρ4 o2):=gy hmono hall r10 e3;rw[vU,hK4] at e4;have hme':({rec with state:= .busy}:Loop)={rec with state:= .busy}:=rfl;obtain⟨fin,hfin⟩:∃fin:Obj,fin= .loop (jts rec β):=⟨_,rfl⟩;have hfx:({rec with state:=if(jxh β).isNone=true then LoopState.ready else .done,pending:=(jxh β)}:Loop)=jts rec β:=by cases β<;>rfl
    have hS5:Sat P _ ρ4 (σ3.frz f2).obj (w3.putObj (w.heap.size+1) fin):=jyT hS4 fin (by rw[hWy];exact hlW) hlb hl3;have hw3:∀b,b<W.heap.size→b∉bs'→b≠w.heap.size+1→(w3.putObj (w.heap.size+1) fin).heap[b]? =W.heap[b]?∧ρ4.H b=H b:=by
      intro b h1 h2 h3;rw[World.putObj_heap_other h3];refine⟨?_,hS4.oldH b (by rw[hWy];exact h1) h2⟩;rw[hS4.old b (by rw[hWy];exact h1) h2];exact World.putObj_heap_other h3
    have hkb:∀b,b∈j8 ρ4 o2→b<w3.heap.size∧(W.heap.size≤b∨b∈bs')∧b≠w.heap.size+1:=by
      intro b hb;obtain⟨o,Cp,_,h1⟩:=(jX _).1 hb;refine⟨(yD (σ:=σ3.frz f2) hS4 h1).1,?_,fun e=> ?_⟩
      · have:=hS4.own o b Cp h1;rw[hWy] at this;exact this
      · subst e;exact(jkY (σ:=σ3.frz f2) hS4 h1).1 _ hl3
    have hsz:W.heap.size≤w3.heap.size:=(by have:=hS4.size;rw[hWy] at this;exact this);have eF:(w3.putObj (w.heap.size+1) (.loop {rec with state:=if(jxh β).isNone=true then LoopState.ready else .done,pending:=(jxh β)}))=w3.putObj (w.heap.size+1) fin:=(by rw[hfin,hfx]);have hres:∀M:List (Ty.st ts).Data→Prop,M (q++[x])→jCR P w H0 bs (jts rec β) rs.ps vals d (rs.G d) M (q++[x]) (fun b=>(fp b∨W.heap.size≤b)∧b<w3.heap.size) ρ4.H (w3.putObj (w.heap.size+1) fin):=by
      intro M hM;refine⟨hM,hS4.os.trans hR.os,hS4.tape.trans hR.tape,hS4.output.trans hR.output,jG5 hR.drawn hS4.drawn,by have:=hR.size;simp;omega,hS5.good,fun b c hb=>hmono b c (hR.mono b c hb),fun b h1 h2=> ?_,?_,?_,j8 ρ4 o2,?_,?_,fun b hb=> ?_⟩
      · have hnb:b∉bs':=by
          intro hm';rcases(r12 _ hm').1 with h|h
          · exact h2 h
          · have:=h.2;omega
        obtain⟨k1,k2⟩:=hw3 b (by have:=hR.size;omega) hnb (by omega);obtain⟨k3,k4⟩:=hR.old b h1 h2;exact⟨k1.trans k3,k2.trans k4⟩
      · rw[(hw3 _ (by omega) hDb (by omega)).1];exact hR.mark
      · rw[World.putObj_heap_same (jGZ.1 hl3).1,hfin]
      · refine ja9 (fun _ _ h=>h) e4 (fun b hb=>⟨World.putObj_heap_other (hkb b hb).2.2,rfl⟩)
      · exact vH hS4 _ (km _ hno)
      · obtain⟨k1,k2,_⟩:=hkb b hb;refine⟨?_,by simpa using k1⟩;rcases k2 with h|h
        · exact .inr ⟨⟨.inr h,k1⟩,by have:=hR.size;omega⟩
        · rcases(r12 b h).1 with h'|h'
          · exact .inl h'
          · exact .inr ⟨⟨.inl h'.1,k1⟩,h'.2⟩
    have hyl:jEU (w.heap.size+2) fp H W (fun b=>(fp b∨W.heap.size≤b)∧b<w3.heap.size) ρ4.H (w3.putObj (w.heap.size+1) fin):=by
      refine⟨by simpa using hsz,hS5.good,hmono,fun b h1 h2 h3=> ?_,fun b hb=>⟨hb.1,by simpa using hb.2,?_⟩⟩
      · have hnb:b∉bs':=by
          intro hm';rcases(r12 _ hm').1 with h|h
          · have:=hbs _ h;omega
          · exact h3 h.1
        exact hw3 b h1 hnb (by omega)
      · rcases hb.1 with h|h
        · exact(hfpW b h).2
        · omega
    refine⟨!β,fun b=>(fp b∨W.heap.size≤b)∧b<w3.heap.size,ρ4.H,by cases β<;>rfl,?_,?_⟩
    · have:=hyl;rw[←eF] at this;exact this
    · cases β with
      |false=>
        have:=hres (wv (rs.stop d)) (by
          intro a y b' e;rcases List.append_eq_append_iff.1 e with⟨c,e1,e2⟩|⟨c,e1,e2⟩
          · cases c with
            |nil=>
              simp only[jHh,List.cons.injEq] at e2;obtain⟨rfl,e3⟩:=e2;rw[e1,jHf];exact hβ
            |cons c0 cs=>
              have e3:=congrArg List.length e2;simp at e3
          · cases c with
            |nil=>
              simp only[jHh,List.cons.injEq] at e2;obtain⟨rfl,e3⟩:=e2;rw[jHf] at e1;rw[←e1];exact hβ
            |cons c0 cs=>
              simp only[jHi,List.cons.injEq] at e2;obtain⟨rfl,e3⟩:=e2;exact hR.mid a y cs e1)
        rw[←eF] at this;exact this
      |true=>
        have:=hres (jwB L (rs.stop d)) ⟨q,x,rest,rfl,hL',hR.mid,hβ⟩;rw[←eF] at this;exact this
  cases e with
  |exit id=>exact hK3.elim
  |normal=>
    simp only[juR] at hK3;exact key false hK3.1 hK3.2
  |ret=>
    simp only[juR] at hK3;exact key true hK3.1 hK3.2
end
end Go.X
namespace Go.X
open Go.RowKit (Below)
def jBc (P:Program) (tbl:Nat→Option ((ts:List Ty)×jtk ts)):Prop:=
  ∀k ts (rs:jtk ts) sv pr L v ρ,tbl k=some ⟨ts,rs⟩→rs.seq sv=some (pr,L)→pr→SV.den P ρ sv v→jCQ P ρ.H ts L v
section
variable {P:Program} {C:Ctx}
theorem jCj {H:Imm} {w:World} {l:Nat} {r:Loop} (hg:jcY H w) (o:Obj) (hr:w.heap[l]? =some (.loop r)):jcY H (w.putObj l o):=by
  refine⟨fun b c hc=> ?_,hg.2⟩;have hne:b≠l:=by
    intro e;subst e;have:=hg.1 _ _ hc;rw[hr] at this;exact jpj this
  rw[World.putObj_heap_other hne];exact hg.1 b c hc
theorem jDR (hC:C.ok P) (hm:P.follows .mixedOrders=true) {A:jk0 Unit} {tbl:Nat→Option ((ts:List Ty)×jtk ts)} {Bi:zF} (hseq:jBc P tbl):jnt P C none (hkR C A tbl) (LvR Bi):=by
  intro g ps aZ b σ ys K B ds a w Q h hL hRel hQ;simp only[hkR] at h
  split at h
  case h_2=>exact h.elim
  rename_i ts rs htb
  split at h
  case h_2=>exact h.elim
  rename_i pr L d os fz hsq hz
  split at h
  case h_2=>exact h.elim
  rename_i hno hme hall hnm hsl;obtain⟨hpr,hpre,hset,hround,hcont,hcontX⟩:=h;obtain⟨a0,rfl,hd0,hn0,ρ,hS,hSl,hPin⟩:=hRel;obtain⟨vals,hvals⟩:∃vals:List Value,vals=rs.slots.map (fun s=>a0.tmps.getD s undef):=⟨_,rfl⟩;have hdl:SV.denL P ρ (rs.slots.map σ.get) vals:=by
    have:=jan (P:=P) (ρ:=ρ) (σ:=σ) (fun x=>jK (P:=P) (ρ:=ρ) hSl x) (rs.slots.map Operand.tmp);rw[List.map_map,List.map_map] at this;rw[hvals];exact this
  obtain⟨ρ1,hle1,hS1,hb1,hargs,hbn,hpost⟩:=jb4 (dst:=rs.dst) (rs:=[]) (pre:=rs.pre) hC hz hno hme hS hdl;obtain⟨bs,hbs0⟩:∃bs,bs=j8 ρ1 os:=⟨_,rfl⟩;rw[←hbs0] at hargs hbn hpost;have hbs:∀b,b∈bs→b<w.heap.size:=by
    intro b hb;rw[hbs0] at hb;obtain⟨o,Cp,_,h1⟩:=(jX _).1 hb;exact(yD (σ:=σ.frz fz) hS1 h1).1
  have hgv:=jCQ.mono hle1.H (hseq _ _ _ _ _ _ _ ρ htb hsq hpr (jK (P:=P) (ρ:=ρ) hSl g));obtain⟨gf,lb,ev,en,hit⟩:=hgv;have ev':(gM ds a0).eval g= .func (.func gf) #[] lb:=(by rw[jeh];exact ev);refine wpIn_rangeFunc ?_;intro fn _;obtain⟨rec,hrec⟩:∃rec:Loop,rec={state:= .ready,pending:=none,fn,tmps:=a0.tmps,params:=ps,assign:=aZ,body:=b,defers:=w.heap.size}:=⟨_,rfl⟩;have hr0:jts rec false=rec:=(by rw[hrec];rfl);obtain⟨W1,hW1⟩:∃W1,(w.alloc (.deferred (some []))).alloc (.loop rec)=W1:=⟨_,rfl⟩;have hsz1:W1.heap.size=w.heap.size+2:=(by rw[←hW1];simp);have hlow:∀b,b<w.heap.size→W1.heap[b]? =w.heap[b]? :=by
    intro b hb;rw[←hW1];exact(Below.heap_alloc _ _ _ (by simp;omega)).trans (Below.heap_alloc _ _ _ hb)
  have hD1:W1.heap[w.heap.size]? =some (.deferred (some [])):=by
    rw[←hW1];exact(Below.heap_alloc _ _ _ (by simp)).trans (World.alloc_heap_new w _)
  have hl1:W1.heap[w.heap.size+1]? =some (.loop rec):=by
    rw[←hW1];have:=World.alloc_heap_new (w.alloc (.deferred (some []))) (.loop rec);rwa [World.size_alloc] at this
  have hg1:jcY ρ1.H W1:=by
    refine⟨fun b c hc=> ?_,hS1.good.2⟩;rw[hlow b (hS1.good.lt hc)];exact hS1.good.1 b c hc
  have eos:W1.os=w.os∧W1.tape=w.tape∧W1.output=w.output∧w.drawn≤W1.drawn:=(by rw[←hW1];exact⟨rfl,rfl,rfl,jGU _⟩);have fin:∀(β:Bool) (M:List (Ty.st ts).Data→Prop) (xs:List (Ty.st ts).Data) (fp':Nat→Prop) (H':Imm) (W':World),jCR P w ρ1.H bs (jts rec β) rs.ps vals d (rs.G d) M xs fp' H' W'→jwA C rs σ xs d (K β)→
      Q (jff (jF8 β)) {gM ds a0 with defers:=[{target:= .collected w.heap.size,args:= #[]}]++(gM ds a0).defers} (W'.putObj (w.heap.size+1) (.loop {jts rec β with state:= .exhausted})):=by
    intro β M xs fp' H' W' hR' hc;have hlp:=hR'.loop;obtain⟨exh,hexh⟩:∃exh:Obj,exh= .loop {jts rec β with state:= .exhausted}:=⟨_,rfl⟩;rw[←hexh];unfold jwA at hc
    split at hc
    case h_2=>exact hc.elim
    rename_i out hout
    split at hc
    case h_2=>exact hc.elim
    rename_i hnew;obtain⟨bs',g1,g2,g3⟩:=hR'.args;have hne:∀b,b∈bs'→b≠w.heap.size+1:=by
      intro b hb e;rcases(g3 b hb).1 with h|h
      · have:=hbs b h;omega
      · have:=h.2;omega
    have hP:jtl ρ1.H w bs ⟨rs.ps,[],rs.pre,fun d=>((),rs.G d xs)⟩ vals d (.returned (jD0 [])) (W'.putObj (w.heap.size+1) exh):=by
      refine⟨[],H',[],bs',rfl,⟨hR'.os,hR'.tape,hR'.output,hR'.drawn,by have:=hR'.size;simp;omega,fun b h1 h2=> ?_,fun b h1 h2=>(hR'.old b h1 h2).2,jCj hR'.good exh hlp⟩,⟨rfl,rfl⟩,
        wb (d:=d) hall (ja9 (fun _ _ h=>h) g1 (fun b hb=>⟨World.putObj_heap_other (hne b hb),rfl⟩)),by simpa using g2,fun b hb=> ?_⟩
      · rw[World.putObj_heap_other (by omega)];exact(hR'.old b h1 h2).1
      · have hb:b∈bs':=(by simpa using hb);rcases(g3 b hb).1 with h|h
        · exact .inl h
        · exact .inr (by have:=h.2;omega)
    obtain⟨v',_,ρ4,hS4,hle4,_,_⟩:=hpost _ out hout _ _ hP
    let σ':St:=⟨σ.sl,out.wr++(q6 σ out.fz++σ.ob)⟩
    let B':zF:={B with w:=W'.putObj (w.heap.size+1) exh,H:=ρ4.H,bor:=j8 ρ4 (ki σ'.ob)}
    have hS5:Sat P B' ρ4 σ'.obj (W'.putObj (w.heap.size+1) exh):=jeq (σ:=σ') hS4 hS4.good (fun _ _ h=>h) (fun _ _ _ _=>⟨rfl,rfl⟩);have hnw:=fun n hn=>gA (jew _ hnew n hn)
    have hfin:jj4 P B' C.n ({target:= .collected w.heap.size,args:= #[]}::ds) σ' (gM ({target:= .collected w.heap.size,args:= #[]}::ds) a0) (W'.putObj (w.heap.size+1) exh):=by
      refine⟨a0,rfl,hd0,hn0,ρ4,hS5,fun s sv hs=> ?_,?_⟩
      · exact SV.den_mono hle4 _ _ (fun r hr=>(hnw r hr).sl s sv (zk _ _ _ hs)) (hSl s sv hs)
      · have h5:=hPin.mono hle4 (fun n hn=>(hnw n hn).lt);exact⟨h5.1,fun _ _ h=>h⟩
    have hborn:∀b,b∈j8 ρ4 (ki σ'.ob)→B.w.heap.size≤b∨b∈B.bor:=by
      intro b hb;obtain⟨o,Cp,_,h1⟩:=(jX _).1 hb;exact hS4.own o b Cp h1
    have hchain:jor Bi B':=by
      obtain⟨c1,c2,c3,c3',c4,c5,c6,c7,c8,c9⟩:=hL.1;refine⟨hS4.os.trans c1,hS4.tape.trans c2,hS4.output.trans c3,jG5 c3' hS4.drawn,jG5 c4 hS4.size,fun b c hb=>hle4.H b c (hPin.2 b c (c5 b c hb)),fun b h1 h2=> ?_,fun b hb=> ?_,c8,c9⟩
      · obtain⟨k1,k2,k3⟩:=c6 b h1 h2;have hlt:b<B.w.heap.size:=jHQ h1 c4;refine⟨(hS4.old b hlt k3).trans k1,(hS4.oldH b hlt k3).trans k2,fun hm'=> ?_⟩;rcases hborn b hm' with h|h
        · omega
        · exact k3 h
      · rcases hborn b hb with h|h
        · exact .inl (jG5 c4 h)
        · exact c7 b h
    have hDw:(W'.putObj (w.heap.size+1) exh).heap[w.heap.size]? =some (.deferred (some [])):=by
      rw[World.putObj_heap_other (by omega)];exact hR'.mark
    have hmarks:jFX Bi B' ({target:= .collected w.heap.size,args:= #[]}::ds):=by
      obtain⟨m1,m2⟩:=hL.2;have hlt:∀x,x∈ds→∃D,x={target:= .collected D,args:= #[]}∧D<B.w.heap.size:=by
        intro x hx;obtain⟨D,e,_,_,h3⟩:=m2 x hx;exact⟨D,e,(jGZ.1 h3).1⟩
      refine⟨jHJ.2 ⟨fun hm'=> ?_,m1⟩,fun x hx=> ?_⟩
      · obtain⟨D,e,h1⟩:=hlt _ hm';simp at e;have:=hS.size;omega
      · rcases jGS.1 hx with rfl|hx
        · refine⟨w.heap.size,rfl,jG5 hL.1.size hS.size,fun hm'=> ?_,hDw⟩;obtain⟨o,Cp,_,h1⟩:=(jX _).1 hm';exact(jkY (σ:=σ') hS4 h1).2 _ hDw
        · obtain⟨D,e,k1,k2,k3⟩:=m2 x hx;have hlt:D<B.w.heap.size:=(jGZ.1 k3).1;refine⟨D,e,k1,fun hm'=> ?_,(hS4.old D hlt k2).trans k3⟩;rcases hborn D hm' with h|h
          · omega
          · exact k2 h
    have hE:Ext σ σ':=⟨⟨[],rfl⟩,⟨out.wr++q6 σ out.fz,by simp[σ']⟩⟩;have:=hQ β σ' () _ _ B' _ hc hE ⟨hchain,hmarks⟩ hfin;have ea:(gM ({target:= .collected w.heap.size,args:= #[]}::ds) a0)={gM ds a0 with defers:=[{target:= .collected w.heap.size,args:= #[]}]++(gM ds a0).defers}:=(by simp[gM,hd0]);rw[ea] at this;exact this
  refine⟨w.heap.size+1,[{target:= .collected w.heap.size,args:= #[]}],W1,{target:= .fn (.func gf) lb,args:= #[.func (.yield (w.heap.size+1)) #[] #[]]},W1,gf,
    #[.func (.yield (w.heap.size+1)) #[] #[]]++lb,W1,?_,?_,fun _ _=>trivial,?_,fun hd=>by simp[Fence.wide] at hd,?_⟩
  · rw[←hW1,hrec];exact run_enterLoop_outer _ _ _ _ _
  · simp only[resolve,ev'];simp[go_sem]
  · simp[invoke,go_sem,en _ _]
  · refine jeJ.2 ((hit ρ1.H W1 (w.heap.size+1) (jCR P w ρ1.H bs (jts rec false) rs.ps vals d (rs.G d) (wv (rs.stop d))) (jCR P w ρ1.H bs (jts rec true) rs.ps vals d (rs.G d) (jwB L (rs.stop d))) (fun _ _ h=>h) hg1 ?_ ?_ ?_ ?_).mono ?_)
    · rw[hsz1];exact jlZ hbs
    · rw[hsz1];exact jlZ hbs
    · rw[hsz1];exact jBC hC hm hround hall hnm hsl hn0 hbs hvals hrec
    · refine⟨fun a x b e=>by simp at e,eos.1,eos.2.1,eos.2.2.1,eos.2.2.2,by rw[hsz1];exact jGU _,hg1,fun _ _ h=>h,fun b h1 _=>⟨hlow b h1,rfl⟩,hD1,by rw[hr0];exact hl1,bs,?_,hbn,fun b hb=>⟨.inl hb,by rw[hsz1];have:=hbs b hb;omega⟩⟩;rw[hset];exact ja9 (fun _ _ h=>h) hargs (fun b hb=>⟨hlow b (hbs b hb),rfl⟩)
    · rintro e W' ⟨v,rfl,h⟩;rcases h with⟨xs,fp',H',hxs,hR'⟩|⟨q,fp',H',hR'⟩
      · exact⟨none,_,run_endLoop (P:=P) hR'.loop (by simp[jts]),fin false _ xs fp' H' W' hR' (hcont xs hxs hR'.mid)⟩
      · obtain⟨a,x,rest,rfl,k1,k2,k3⟩:=hR'.mid;exact⟨some .ret,_,run_endLoop (P:=P) hR'.loop (by simp[jts]),wpIn_ret (fin true _ _ fp' H' W' hR' (hcontX a x rest k1 k2 k3))⟩
end
end Go.X
namespace Go.X
open Go.RowKit (Below)
def jwC (H:Imm) (w:World) (rs:List Sh) (r:RD rs):Ending→World→Prop:=
  fun e w'=>∃vs H' rb,e= .returned (jD0 vs)∧jDp H w H' w'∧jDo H' w' rs vs r rb∧rb.Nodup∧∀b,b∈rb→w.heap.size≤b
def juQ (fn:Func) (rs:List Sh) (Rl:RD rs→Prop):Ex→St→Unit→Prop
  | .exit _,_,_=>False
  |_,σ,_=>match jd3 σ rs fn.results.toList with
    |some (r,o1,f1)=>match vf o1,jdP f1 o1 with
      |true,false=>Rl r
      |_,_=>False
    |none=>False
section
variable {P:Program} {C:Ctx}
theorem jgm {fn:Func} {tmps:Array Value} {R:Ending→World→Prop}:∀(ds:List Deferred) (w:World),ds.Nodup→(∀x,x∈ds→∃D,x={target:= .collected D,args:= #[]}∧w.heap[D]? =some (.deferred (some [])))→
    (∀w':World,w'.os=w.os→w'.tape=w.tape→w'.output=w.output→w.drawn≤w'.drawn→w'.heap.size=w.heap.size→(∀b,({target:= .collected b,args:= #[]}:Deferred)∉ds→w'.heap[b]? =w.heap[b]?)→∃v,(Go.results fn tmps).run P w'= .ok v w'∧R (.returned v) w')→
    LeavesInM Fence.wide 0 P fn tmps R ds .returning w
  |[],w,_,_,k=>k w rfl rfl rfl (jGU _) rfl (fun _ _=>rfl)
  |x::ds,w,hnd,hds,k=>by
    rw[jHJ] at hnd
    obtain⟨D,rfl,hD⟩:=hds x (by simp)
    refine⟨by simp,.inl ⟨D,w.putObj D (.deferred none),rfl,run_takeDeferred hD,jgm ds _ hnd.2 (fun y hy=> ?_) (fun w' e1 e2 e3 e3' e4 hb=>k w' e1 e2 e3 e3' (by rw[e4];simp) (fun b hnb=> ?_))⟩⟩
    · obtain⟨D',rfl,hD'⟩:=hds y (jGV _ hy)
      refine⟨D',rfl,?_⟩
      rw[World.putObj_heap_other]
      · exact hD'
      · rintro rfl;exact hnd.1 hy
    · rw[hb b (fun h=>hnb (jGV _ h)),World.putObj_heap_other]
      rintro rfl;exact hnb (by simp)
theorem jrQ (hC:C.ok P) (hm:P.follows .mixedOrders=true) {f:Nat} {fn:Func} {body:Code} (hf:P.funcs[f]? =some fn) (hb:fn.body=some body) (hn:fn.ntmps=C.n) (A:jk0 Unit) {hk:jnx Unit} (hhk:∀B,jcI P C none hk (LvR B)∧jnt P C none hk (LvR B))
    {sl:List (Nat×SV)} {vals:List Value} (hlen:vals.length≤C.n) {rs:List Sh} {Rl:RD rs→Prop} (hv:jk6 C A hk body ⟨sl,[]⟩ () (juQ fn rs Rl)) {H:Imm} {w:World} (hg:jcY H w)
    (hsl:∀ρ:Env,ρ.H=H→∀k v,jF sl k=some v→∃x,vals[k]? =some x∧SV.den P ρ v x):Calls P f vals.toArray w (fun e w'=>∃r,Rl r∧jwC H w rs r e w'):=by
  refine(callsIn_wide (n:=0)).1 (callsIn_of_wp_marks hf hb trivial ?_ rfl)
  let ρ:Env:=⟨H,fun _=>none,fun _=>0⟩
  let B:zF:=⟨w,H,[],fun _=>none,fun _=>0⟩
  have hS:Sat P B ρ (⟨sl,[]⟩:St).obj w:=by
    refine⟨rfl,rfl,rfl,jGU _,jGU _,hg,fun _ _ _=>rfl,fun _ _ _=>rfl,?_,fun _ _=>rfl,?_,?_⟩
    · intro o x hx;simp[St.obj,jF] at hx
    · intro o o' b C1 C2 h1;simp[ρ] at h1
    · intro o b C1 h1;simp[ρ] at h1
  have hRel:jj4 P B C.n [] ⟨sl,[]⟩ {tmps:=vals.toArray++Array.replicate (fn.ntmps-vals.toArray.size) undef,defers:=[]} w:=by
    refine⟨_,(vK _).symm,rfl,by simp;omega,ρ,hS,?_,fun o p _ hb=>by simp[ρ] at hb,fun _ _ hb=>hb⟩;intro k v hk;obtain⟨x,h1,h2⟩:=hsl ρ rfl k v hk;rw[jd5 (x:=x) h1];exact h2
  have hL0:LvR B B [] ():=⟨⟨rfl,rfl,rfl,jGU _,jGU _,fun _ _ h=>h,fun b _ h=>⟨rfl,rfl,h⟩,fun b h=> .inr h,rfl,rfl⟩,List.nodup_nil,fun x hx=>by simp at hx⟩;refine kB (r:=none) hC hm A hk (LvR B) (hhk B).1 (hhk B).2 body _ () _ _ _ w B [] hv hL0 hRel (fun e σ ys a' w' B' ds hE hK hL hR=> ?_);obtain⟨a1,rfl,q1,q2,ρ',q3,q4,q5⟩:=hR;obtain⟨hch,hmk⟩:=hL;have main:(match jd3 σ rs fn.results.toList with
    |some (r,o1,f1)=>match vf o1,jdP f1 o1 with
      |true,false=>Rl r
      |_,_=>False
    |none=>False)→LeavesInM Fence.wide 0 P fn (gM ds a1).tmps (fun e w'=>∃r,Rl r∧jwC H w rs r e w') (gM ds a1).defers .returning w':=by
    intro hr
    split at hr
    case h_2=>exact hr.elim
    rename_i r o1 f1 hres
    split at hr
    case h_2=>exact hr.elim
    rename_i hno hme;have ed:(gM ds a1).defers=ds:=(by simp[gM,q1]);have et:(gM ds a1).tmps=a1.tmps:=rfl;rw[ed,et];obtain⟨ρ2,hS2,hle,hblk,hln⟩:=jP (σ:=σ) f1 q3;have hd:∀k,SV.den P ρ2 (σ.get k) (a1.tmps.getD k undef):=by
      intro k;have:=jK (P:=P) (a:=a1) q4 (.tmp k);exact SV.den_mono hle _ _ (fun o ho=>by simp at ho) this
    have hkeep:jji σ (σ.frz f1) o1:=by
      intro o ho;rw[ku,if_neg];exact fun hm=>wd _ _ hme o hm ho
    obtain⟨ss,e1,e2⟩:=jd2 hS2 (qa σ _) hd rs _ _ _ _ hres (fun o ho=>ho) hkeep;have hDs:∀x,x∈ds→∃D,x={target:= .collected D,args:= #[]}∧w.heap.size≤D∧D∉B'.bor∧D<B'.w.heap.size∧w'.heap[D]? =some (.deferred (some [])):=by
      intro x hx;obtain⟨D,e,k1,k2,k3⟩:=hmk.2 x hx;have hlt:=(jGZ.1 k3).1;exact⟨D,e,k1,k2,hlt,(hS2.old D hlt k2).trans k3⟩
    refine jgm ds w' hmk.1 (fun x hx=> ?_) (fun w2 g1 g2 g3 g3' g4 g5=> ?_)
    · obtain⟨D,e,_,_,_,h⟩:=hDs x hx;exact⟨D,e,h⟩
    have hno_low:∀b,b<w.heap.size→({target:= .collected b,args:= #[]}:Deferred)∉ds:=by
      intro b hb hm';obtain⟨D,e,k1,_⟩:=hDs _ hm';simp at e;omega
    have hno_obj:∀o b Cp,ρ2.blk o=some (some (b,Cp))→({target:= .collected b,args:= #[]}:Deferred)∉ds:=by
      intro o b Cp hb hm';obtain⟨D,e,_,_,_,h⟩:=hDs _ hm';simp at e;subst e;exact(jkY (σ:=σ.frz f1) hS2 hb).2 _ h
    have hgood:jcY ρ2.H w2:=by
      refine⟨fun b c hc=> ?_,hS2.good.2⟩;have h1:=hS2.good.1 b c hc;rw[g5 b (fun hm'=> ?_)]
      · exact h1
      · obtain⟨D,e,_,_,_,h⟩:=hDs _ hm';simp at e;subst e;rw[h] at h1;exact jfm h1
    have hrb:∀b,b∈j8 ρ2 o1→w.heap.size≤b∧w2.heap[b]? =w'.heap[b]? :=by
      intro b hb;obtain⟨o,Cp,_,h1⟩:=(jX _).1 hb;refine⟨?_,g5 b (hno_obj o b Cp h1)⟩;rcases hS2.own o b Cp h1 with h|h
      · exact jG5 hch.size h
      · rcases hch.own b h with h|h
        · exact h
        · simp[B] at h
    refine⟨_,jf2 e1 a1.tmps w2,r,hr,ss.map (fun s=>a1.tmps.getD s undef),ρ2.H,j8 ρ2 o1,rfl,⟨⟨g1.trans (hS2.os.trans hch.os),g2.trans (hS2.tape.trans hch.tape),g3.trans (hS2.output.trans hch.output),?_,fun b hb=> ?_⟩,hgood,fun b hb=> ?_,jG5 (jG5 hch.drawn hS2.drawn) g3'⟩,?_,vH hS2 _ (km _ hno),fun b hb=>(hrb b hb).1⟩
    · rw[g4];exact jG5 hch.size hS2.size
    · obtain⟨k1,k2,k3⟩:=hch.old b hb (by simp[B]);rw[g5 b (hno_low b hb)];exact(hS2.old b (jHQ hb hch.size) k3).trans k1
    · obtain⟨k1,k2,k3⟩:=hch.old b hb (by simp[B]);exact(hS2.oldH b (jHQ hb hch.size) k3).trans k2
    · have keepRes:∀(rs:List Sh) (vs:List Value) (r:RD rs) (bs:List Nat),jDo ρ2.H w' rs vs r bs→(∀b,b∈bs→w2.heap[b]? =w'.heap[b]?)→jDo ρ2.H w2 rs vs r bs:=by
        intro rs
        induction rs with
        |nil=>intro vs r bs h _;exact h
        |cons s rs ih=>
          intro vs r bs h hk;cases vs with
          |nil=>exact h.elim
          |cons v vs=>
            obtain⟨b1,b2,rfl,h1,h2⟩:=h;exact⟨b1,b2,rfl,jvG (fun _ _ h=>h) h1 (fun b hb=>⟨hk b (jGR _ hb),rfl⟩),ih vs r.2 b2 h2 (fun b hb=>hk b (jGQ _ hb))⟩
      exact keepRes _ _ _ _ e2 (fun b hb=>(hrb b hb).2)
  cases e with
  |normal=>exact main hK
  |ret=>exact main hK
  |exit id=>exact hK.elim
def jF0:(rs:List Ty)→RD (rs.map fun t=> .cl (.dat t))→(Ty.st rs).Data
  |[],_=>()
  |_::rs,d=>(d.1,jF0 rs d.2)
theorem jv3 {H:Imm} {w:World}:∀(rs:List Ty) (vs:List Value) (r:RD (rs.map fun t=> .cl (.dat t))) (bs:List Nat),jDo H w (rs.map fun t=> .cl (.dat t)) vs r bs→rvs H rs vs (jF0 rs r)
  |[],vs,r,bs,h=>h.1
  |t::rs,[],r,bs,h=>h.elim
  |t::rs,v::vs,r,bs,h=>by
    obtain⟨b1,b2,_,h1,h2⟩:=h
    exact⟨h1.1,jv3 rs vs r.2 b2 h2⟩
theorem jDW {H:Imm} {w:World} {rs:List Ty} {r:RD (rs.map fun t=> .cl (.dat t))} {e:Ending} {w':World} (h:jwC H w (rs.map fun t=> .cl (.dat t)) r e w'):jDn H w rs (jF0 rs r) e w':=by
  obtain⟨vs,H',rb,rfl,hE,hr,_,_⟩:=h;have h1:=jv3 rs vs r rb hr;refine⟨_,H',rfl,hE,?_⟩;have:=jy6 h1;unfold jvY at this;unfold jD0;exact this
@[irreducible] def jDS (C:Ctx) (A:jk0 Unit) (hk:jnx Unit) (fn:Func) (body:Code) (s:jW):Prop:=
  ∀d:PD s.ps,jqH (s.pre d) (jk6 C A hk body ⟨ko s.ps d 0,[]⟩ () (juQ fn (s.rs.map fun t=> .cl (.dat t)) (fun r=>jF0 s.rs r=s.F d)))
theorem jFh (hC:C.ok P) (hm:P.follows .mixedOrders=true) {f:Nat} {fn:Func} {body:Code} {s:jW} (hf:P.funcs[f]? =some fn) (hb:fn.body=some body) (hname:(fn.name== "runtime.NumGoroutine")=false) (hn:fn.ntmps=C.n) (hps:s.ps.length≤C.n)
    {A:jk0 Unit} {hk:jnx Unit} (hhk:∀B,jcI P C none hk (LvR B)∧jnt P C none hk (LvR B)) (h:jDS C A hk fn body s):ze P f s:=by
  unfold jDS at h;refine⟨qb hf hb hname,fun H w vals d hg hp hpre=> ?_⟩;have hlen:=yN hp;refine(jrQ hC hm hf hb hn A hhk (by omega) (vZ _ _ (h d) hpre) hg (fun ρ hρ k v hk=> ?_)).mono fun e w' ⟨r,hr,hpost⟩=> ?_
  · obtain⟨x,h1,h2⟩:=wU (P:=P) (ρ:=ρ) s.ps vals d 0 (by rw[hρ];exact hp) k v hk;exact⟨x,by simpa using h1,h2⟩
  · rw[←hr];exact jDW hpost
end
end Go.X
namespace Go.X
open Go.RowKit (Below)
structure jgQ where
  ps:List Par
  pre:PD ps→List Prop
  g:Nat
  cs:List Ty
  F:PD ps→(Ty.st cs).Data
def jAz:(cs:List Ty)→(Ty.st cs).Data→List SV
  |[],_=>[]
  |t::ts,d=> .ep t d.1::jAz ts d.2
def jt5 (H:Imm):(cs:List Ty)→List Value→(Ty.st cs).Data→Prop
  |[],vs,_=>vs=[]
  |t::ts,v::vs,d=>jzc H t v d.1∧jt5 H ts vs d.2
  |_::_,[],_=>False
def jfv (σ:St):(cs:List Ty)→List SV→Option ((Ty.st cs).Data×List Nat)
  |[],[]=>some ((),[])
  |t::ts,v::vs=>match jtE σ t v with
    |some (x,f)=>match jfv σ ts vs with
      |some (xs,f')=>some ((x,xs),f++f')
      |none=>none
    |none=>none
  |_,_=>none
def jEI (C:Ctx) (s:jgQ) (σ:St) (svs:List SV):Option Out:=match kV C σ s.ps svs with
  |some (d,fz)=>some ⟨s.pre d,[],.clo s.g (jAz s.cs (s.F d)),fz,[],[]⟩
  |none=>none
structure jtp (P:Program) (f:Nat) (s:jgQ):Prop where
  enters:enters P f
  calls:∀H w vals d,jcY H w→pvs P H s.ps vals d→kR (s.pre d)→Calls P f vals.toArray w (fun e w'=>∃lb H',e= .returned (.func (.func s.g) #[] lb)∧jDp H w H' w'∧jt5 H' s.cs lb.toList (s.F d))
def jEo (fn:Func) (s:jgQ) (want:(Ty.st s.cs).Data):Ex→St→Prop
  | .exit _,_=>False
  |_,σ=>match fn.results.toList with
    |[.tmp r]=>match σ.get r with
      | .clo g caps=>match Nat.beq g s.g,jfv σ s.cs caps with
        |true,some (x,_)=>x=want
        |_,_=>False
      |_=>False
    |_=>False
@[irreducible] def jAX (C:Ctx) (A:Ann) (fn:Func) (body:Code) (s:jgQ):Prop:=
  ∀d:PD s.ps,jqH (s.pre d) (vcg C A body ⟨ko s.ps d 0,[]⟩ (jEo fn s (s.F d)))
structure jq6 where
  g:Nat
  k:Nat
  s:kx
structure VOK (P:Program) (f:Nat) (v:jq6):Prop where
  enters:enters P f
  calls:∀H w (lb rest:List Value) d bs,lb.length=v.k→jcY H w→jbu P H w v.s.ps (lb++rest) d bs→bs.Nodup→kR (v.s.pre d)→Calls P f (Value.func (.func v.g) #[] lb.toArray::rest).toArray w (jtl H w bs v.s (lb++rest) d)
def jDB (C:Ctx) (v:jq6) (dst:Nat) (σ:St):List SV→Option Out
  | .clo g caps::rest=>match Nat.beq g v.g,Nat.beq caps.length v.k with
    |true,true=>jmp C v.s dst σ (caps++rest)
    |_,_=>none
  |_=>none
def jGd (C:Ctx) (os:List (Nat×kx)) (cs:List (Nat×jgQ)) (vs:List (Nat×jq6)) (f dst:Nat) (σ:St) (svs:List SV):Option Out:=
  match jF os f with
  |some s=>jmp C s dst σ svs
  |none=>match jF cs f with
    |some s=>jEI C s σ svs
    |none=>match jF vs f with
      |some v=>jDB C v dst σ svs
      |none=>none
section
variable {P:Program} {B:zF} {C:Ctx} {σ:St} {ρ:Env} {w:World}
theorem jrN {H:Imm}:∀(cs:List Ty) (vs:List Value) (d:(Ty.st cs).Data),jt5 H cs vs d→ρ.H=H→SV.denL P ρ (jAz cs d) vs
  |[],vs,d,h,_=>by simp only[jt5] at h;subst h;simp[jAz,SV.denL]
  |t::ts,[],d,h,_=>h.elim
  |t::ts,v::vs,d,h,hH=>by
    obtain⟨h1,h2⟩:=h
    simp only[jAz,SV.denL]
    refine⟨v,vs,rfl,?_,jrN ts vs d.2 h2 hH⟩
    simp only[SV.den]
    rw[hH];exact h1
theorem jgS {τ:St} (hS:Sat P B ρ τ.obj w) {fz:List Nat} (hF:Frz σ τ fz):∀{cs:List Ty} {svs:List SV} {d:(Ty.st cs).Data} {fz':List Nat},jfv σ cs svs=some (d,fz')→(∀o,o∈fz'→o∈fz)→∀{vs:List Value},SV.denL P ρ svs vs→jt5 ρ.H cs vs d
  |[],[],d,fz',h,_,vs,hv=>by simpa[SV.denL,jt5] using hv
  |[],_::_,d,fz',h,_,vs,hv=>by simp[jfv] at h
  |_::_,[],d,fz',h,_,vs,hv=>by simp[jfv] at h
  |t::ts,v::svs,d,fz',h,hf,vs,hv=>by
    simp only[jfv] at h
    split at h
    case h_2=>cases h
    rename_i x f hx
    split at h
    case h_2=>cases h
    rename_i xs f' hxs
    simp at h
    obtain⟨rfl,rfl⟩:=h
    simp only[SV.denL] at hv
    obtain⟨u,r,rfl,h1,h2⟩:=hv
    exact⟨jbG hS hF hx (fun o ho=>hf o (jGR _ ho)) h1,jgS hS hF hxs (fun o ho=>hf o (jGQ _ ho)) h2⟩
theorem jvc (hC:C.ok P) {f:Nat} {s:jgQ} {svs:List SV} {out:Out} (hf:jtp P f s) (h:jEI C s σ svs=some out) {vals:List Value} (hS:Sat P B ρ σ.obj w) (hd:SV.denL P ρ svs vals) (hvc:kR out.vc):
    Calls P f vals.toArray w (fun e w'=>∃v,e= .returned v∧jz P B ρ σ out v w'):=by
  unfold jEI at h
  split at h
  case h_2=>cases h
  rename_i d fz hz;simp at h;subst h;obtain⟨ρ1,hS1,hle1,_,_⟩:=jP fz hS;have hall:=SV.denL_mono hle1 _ _ (fun o ho=>by simp at ho) hd;refine(hf.calls ρ1.H w _ d hS1.good (wQ hC hS1 (qa σ fz) hz (fun o ho=>ho) hall) hvc).mono fun e w' he=> ?_
  obtain⟨lb,H',rfl,hE,hr⟩:=he;obtain⟨hS2,hle2⟩:=jp0 hS1 (fun o b Cp hb=>(yD (σ:=σ.frz fz) hS1 hb).1) hE;refine⟨_,rfl,_,?_,hle1.trans hle2,?_,trivial⟩
  · show Sat P B _ (σ.frz fz).obj w';exact hS2
  · simp only[SV.den];exact⟨lb,rfl,jrN _ _ _ hr rfl⟩
theorem jFP (hC:C.ok P) (hm:P.follows .mixedOrders=true) {f:Nat} {fn:Func} {body:Code} {s:jgQ} (hf:P.funcs[f]? =some fn) (hb:fn.body=some body)
    (hname:(fn.name== "runtime.NumGoroutine")=false) (hn:fn.ntmps=C.n) (hps:s.ps.length≤C.n) (A:Ann) (h:jAX C A fn body s):jtp P f s:=by
  unfold jAX at h;refine⟨qb hf hb hname,fun H w vals d hg hp hpre=> ?_⟩;have hlen:=yN hp;refine calls_of_wp hf hb ?_;have hv:=vZ _ _ (h d) hpre
  let ρ:Env:=⟨H,fun _=>none,fun _=>0⟩
  have hS:Sat P ⟨w,H,[],fun _=>none,fun _=>0⟩ ρ (⟨ko s.ps d 0,[]⟩:St).obj w:=by
    refine⟨rfl,rfl,rfl,jGU _,jGU _,hg,fun _ _ _=>rfl,fun _ _ _=>rfl,?_,fun _ _=>rfl,?_,?_⟩
    · intro o x hx;simp[St.obj,jF] at hx
    · intro o o' b C1 C2 h1;simp[ρ] at h1
    · intro o b C1 h1;simp[ρ] at h1
  have hR:Rel P ⟨w,H,[],fun _=>none,fun _=>0⟩ C.n ⟨ko s.ps d 0,[]⟩ {tmps:=vals.toArray++Array.replicate (fn.ntmps-vals.toArray.size) undef,defers:=[]} w:=by
    refine⟨rfl,by simp;omega,ρ,hS,?_,fun o p _ hb=>by simp[ρ] at hb,fun _ _ hb=>hb⟩;intro k v hk;obtain⟨x,h1,h2⟩:=wU (P:=P) (ρ:=ρ) s.ps vals d 0 hp k v hk;rw[jd5 (x:=x) (by simpa using h1)];exact h2
  refine wC hC hm A body _ _ _ _ w hv hR (fun e σ a' w' _ hK hR'=> ?_);have main:(match fn.results.toList with
    |[.tmp r]=>match σ.get r with
      | .clo g caps=>match Nat.beq g s.g,jfv σ s.cs caps with
        |true,some (x,_)=>x=s.F d
        |_,_=>False
      |_=>False
    |_=>False)→a'.defers=[]∧∃v,(Go.results fn a'.tmps).run P w'= .ok v w'∧∃lb H',Ending.returned v= .returned (.func (.func s.g) #[] lb)∧jDp H w H' w'∧jt5 H' s.cs lb.toList (s.F d):=by
    intro hr
    split at hr
    case h_2=>exact hr.elim
    rename_i r hres
    split at hr
    case h_2=>exact hr.elim
    rename_i g caps hget
    split at hr
    case h_2=>exact hr.elim
    rename_i x fz hg' hz;have:=jGP hg';subst this;subst hr;obtain⟨h1,h2,ρ',hS',hSl,_⟩:=hR';obtain⟨ρ2,hS2,hle,_,_⟩:=jP (σ:=σ) fz hS';have hd:=jK (P:=P) (a:=a') hSl (.tmp r);simp only[jL] at hd;rw[hget] at hd;simp only[SV.den] at hd;obtain⟨lb,e1,e2⟩:=hd;have e3:=jgS hS2 (qa σ _) hz (fun o ho=>ho) (SV.denL_mono hle _ _ (fun o ho=>by simp at ho) e2);refine⟨h1,_,jf2 (ss:=[r]) (by simpa using hres) _ _,lb,ρ2.H,?_,?_,e3⟩
    · simp only[jHU,List.map_nil];exact congrArg Ending.returned e1
    · have below:Below w.heap.size w w':=⟨hS2.os,hS2.tape,hS2.output,hS2.size,fun b hb=>hS2.old b hb (by simp)⟩;exact⟨below,hS2.good,fun b hb=>hS2.oldH b hb (by simp),hS2.drawn⟩
  cases e with
  |normal=>exact main hK
  |ret=>exact main hK
  |exit id=>exact hK.elim
theorem jtC (hC:C.ok P) {f dst:Nat} {v:jq6} {svs:List SV} {out:Out} (hf:VOK P f v) (h:jDB C v dst σ svs=some out) {vals:List Value} (hS:Sat P B ρ σ.obj w) (hd:SV.denL P ρ svs vals) (hvc:kR out.vc):
    Calls P f vals.toArray w (fun e w'=>∃v,e= .returned v∧jz P B ρ σ out v w'):=by
  unfold jDB at h
  split at h
  case h_2=>cases h
  rename_i g caps rest
  split at h
  case h_2=>cases h
  rename_i hg hk;have hg:=jGP hg;have hk:=jGP hk;subst hg;simp only[SV.denL] at hd;obtain⟨u,r,rfl,h1,h2⟩:=hd;simp only[SV.den] at h1;obtain⟨lb,rfl,h3⟩:=h1;have hall:=wM _ _ _ _ h3 h2;have h0:=h;unfold jmp at h0
  split at h0
  · cases h0
  rename_i d os fz hz
  split at h0
  case h_2=>cases h0
  rename_i hno hme _ _;simp at h0;obtain⟨ρ1,_,hS1,_,hargs,hbn,hpost⟩:=jb4 (dst:=dst) (rs:=v.s.rs) (pre:=v.s.pre) hC hz hno hme hS hall;have:=hf.calls ρ1.H w lb.toList r d (j8 ρ1 os) (by rw[←zw _ _ h3,hk]) hS1.good hargs hbn (by rw[←h0] at hvc;exact hvc);rw[show(Value.func (.func v.g) #[] lb.toList.toArray::r).toArray=(Value.func (.func v.g) #[] lb::r).toArray from by simp] at this;exact this.mono fun e w' he=>hpost v.s.F out h e w' he
theorem jwE (hC:C.ok P) {os:List (Nat×kx)} {cs:List (Nat×jgQ)} {vs:List (Nat×jq6)} (ho:∀f s,jF os f=some s→yf P f s) (hc:∀f s,jF cs f=some s→jtp P f s) (hv:∀f s,jF vs f=some s→VOK P f s)
    {f dst:Nat} {svs:List SV} {out:Out} (h:jGd C os cs vs f dst σ svs=some out):
    enters P f∧∀B ρ w vals,Sat P B ρ σ.obj w→SV.denL P ρ svs vals→kR out.vc→σ.obj dst=none→kz σ.obj dst→
      Calls P f vals.toArray w (fun e w'=>∃v,e= .returned v∧jz P B ρ σ out v w'):=by
  unfold jGd at h
  split at h
  · rename_i s hs;exact⟨(ho f s hs).enters,fun B ρ w vals hS hd hvc _ _=>jmo hC (ho f s hs) h hS hd hvc⟩
  · split at h
    · rename_i s hs;exact⟨(hc f s hs).enters,fun B ρ w vals hS hd hvc _ _=>jvc hC (hc f s hs) h hS hd hvc⟩
    · split at h
      · rename_i v hs;exact⟨(hv f v hs).enters,fun B ρ w vals hS hd hvc _ _=>jtC hC (hv f v hs) h hS hd hvc⟩
      · cases h
end
end Go.X
namespace Go.X
open Go.RowKit (Below)
structure jgO where
  aZ:List (Option (Nat×Nat))
  ps:List yK
  rs:List Sh
  pre:OD ps→List Prop
  R:OD ps→RD rs×KD ps→Prop
def jqM:List (Option (Nat×Nat))→List SV→Option (List SV)
  |[],[]=>some []
  |none::aZ,v::vs=>match jqM aZ vs with
    |some r=>some (v::r)
    |none=>none
  |some gk::aZ,.clo g' caps::vs=>match Nat.beq gk.1 g',Nat.beq caps.length gk.2,jqM aZ vs with
    |true,true,some r=>some (caps++r)
    |_,_,_=>none
  |_,_=>none
def jAq:List (Option (Nat×Nat))→List Value→List Value→Prop
  |[],vs,fl=>vs=[]∧fl=[]
  |none::aZ,vs,fl=>∃v vs' fl',vs=v::vs'∧fl=v::fl'∧jAq aZ vs' fl'
  |some gk::aZ,vs,fl=>∃lb vs' fl',vs= .func (.func gk.1) #[] lb::vs'∧fl=lb.toList++fl'∧lb.size=gk.2∧jAq aZ vs' fl'
def jgO.at (s:jgO) (r:RD s.rs×KD s.ps):kx:=⟨s.ps,s.rs,s.pre,fun _=>r⟩
structure ROK (P:Program) (f:Nat) (s:jgO):Prop where
  enters:enters P f
  calls:∀H w vals fl d bs,jAq s.aZ vals fl→jcY H w→jbu P H w s.ps fl d bs→bs.Nodup→kR (s.pre d)→
    Calls P f vals.toArray w (fun e w'=>∃r,s.R d r∧jtl H w bs (s.at r) fl d e w')
def hkC (C:Ctx) (A:jk0 Unit) (tbl:Nat→Option ((ts:List Ty)×jtk ts)) (sps:List Nat) (rt:List (Nat×Nat×jgO)):jnx Unit:=
  ⟨fun d=>jaH sps d,fun cal args σ _ K=>match cal with
    | .clo f []=>match jF rt f with
      |some p=>match jqM p.2.aZ args with
        |some svs=>match jty C σ p.2.ps svs with
          |some (d,os,fz)=>match vf os,jdP fz os with
            |true,false=>kR (p.2.pre d)∧∀r,p.2.R d r→(match jmp C (p.2.at r) p.1 σ svs with
              |some out=>match jo1 ⟨σ,[]⟩ out.nw with
                |true=>K out.sv ⟨σ.sl,out.wr++(q6 σ out.fz++σ.ob)⟩ ()
                |false=>False
              |none=>False)
            |_,_=>False
          |none=>False
        |none=>False
      |none=>False
    |_=>False,(hkR C A tbl).rng⟩
section
variable {P:Program} {C:Ctx}
theorem jja {ρ:Env}:∀(aZ:List (Option (Nat×Nat))) (svs fs:List SV) (vals:List Value),jqM aZ svs=some fs→SV.denL P ρ svs vals→∃fl,jAq aZ vals fl∧SV.denL P ρ fs fl
  |[],svs,fs,vals,h,hd=>by
    cases svs with
    |nil=>
      simp only[jqM,Option.some.injEq] at h;subst h
      simp only[SV.denL] at hd;subst hd
      exact⟨[],⟨rfl,rfl⟩,by simp[SV.denL]⟩
    |cons a r=>simp[jqM] at h
  |none::aZ,[],fs,vals,h,hd=>by simp[jqM] at h
  |none::aZ,v::vs,fs,vals,h,hd=>by
    simp only[jqM] at h
    split at h
    case h_2=>cases h
    rename_i r hr
    simp only[Option.some.injEq] at h;subst h
    simp only[SV.denL] at hd
    obtain⟨x,xs,rfl,h1,h2⟩:=hd
    obtain⟨fl,k1,k2⟩:=jja aZ vs r xs hr h2
    exact⟨x::fl,⟨x,xs,fl,rfl,rfl,k1⟩,by simp only[SV.denL];exact⟨x,fl,rfl,h1,k2⟩⟩
  |some gk::aZ,svs,fs,vals,h,hd=>by
    unfold jqM at h
    split at h
    · rename_i e;cases e
    · rename_i e;cases e
    · rename_i gk' as' g' caps vs e
      simp only[List.cons.injEq,Option.some.injEq] at e
      obtain⟨rfl,rfl⟩:=e
      split at h
      case h_2=>cases h
      rename_i r hg hl hr
      simp only[Option.some.injEq] at h;subst h
      have hg:=jGP hg
      have hl:=jGP hl
      subst hg
      simp only[SV.denL] at hd
      obtain⟨x,xs,rfl,h1,h2⟩:=hd
      simp only[SV.den] at h1
      obtain⟨lb,rfl,h3⟩:=h1
      obtain⟨fl,k1,k2⟩:=jja aZ vs r xs hr h2
      have hn:=zw _ _ h3
      refine⟨lb.toList++fl,⟨lb,xs,fl,rfl,rfl,?_,k1⟩,wM _ _ _ _ h3 k2⟩
      rw[←hl,hn];simp
    · cases h
theorem jCH (hC:C.ok P) {A:jk0 Unit} {tbl:Nat→Option ((ts:List Ty)×jtk ts)} {sps:List Nat} {rt:List (Nat×Nat×jgO)} (hrt:∀f p,jF rt f=some p→ROK P f p.2) {Bi:zF}:jcI P C none (hkC C A tbl sps rt) (LvR Bi):=by
  intro o c f d σ ys K B ds a w next Q hop hc hdst hd h hL hRel hK;obtain⟨a0,rfl,hd0,hn0,ρ,hS,hSl,hPin⟩:=hRel;have hnd:∀c,o.op≠.defer c:=fun c e=>by rw[hop] at e;cases e
  have hfv:=jK (P:=P) (ρ:=ρ) hSl f;have hargs:=jan (P:=P) (ρ:=ρ) (σ:=σ) (fun x=>jK (P:=P) (ρ:=ρ) hSl x) c.args.toList;refine⟨fun _ _=>trivial,?_⟩;rw[Oper.semAt_eq _ _ _ hnd];simp only[hkC] at h
  split at h
  case h_2=>exact h.elim
  rename_i k hv
  split at h
  case h_2=>exact h.elim
  rename_i p hp
  split at h
  case h_2=>exact h.elim
  rename_i svs hfl
  split at h
  case h_2=>exact h.elim
  rename_i dd os fz hz
  split at h
  case h_2=>exact h.elim
  rename_i hno hme;obtain⟨hpre,hcont⟩:=h;have hok:=hrt k p hp;rw[hv] at hfv;simp only[SV.den] at hfv;obtain⟨vs,ef,hcaps⟩:=hfv;simp only[SV.denL,Array.toList_eq_nil_iff] at hcaps;subst hcaps;obtain⟨fl,hflV,hflD⟩:=jja (P:=P) (ρ:=ρ) _ _ _ _ hfl hargs;obtain⟨ρ1,hle1,hS1,hb1,hoargs,hbn,hpost⟩:=jb4 (dst:=p.1) (rs:=p.2.rs) (pre:=p.2.pre) hC hz hno hme hS hflD;have hex:(execOp (gM ds a0).eval o).run P w= .ok (.enter k (c.args.map a0.eval)) w:=by
    have ef':(gM ds a0).eval f= .func (.func k) #[] #[]:=(by rw[jeh];exact ef);simp only[execOp,hop,Sem.run_bind,resolve,hc,Deferred.ofValue,ef',Sem.run_pure,Result.andThen_ok,invoke];have e2:(gM ds a0).eval=a0.eval:=(by exact jeh _ _);rw[e2,←hok.enters (c.args.map a0.eval) w];simp
  rw[hex];simp only[Oper.uponIn];refine⟨fun hd=>by simp[Fence.wide] at hd,jeJ.2 ?_⟩;have hc1:=hok.calls ρ1.H w _ fl dd (j8 ρ1 os) hflV hS1.good hoargs hbn hpre;rw[show(c.args.toList.map a0.eval).toArray=c.args.map a0.eval from by apply jHb.1;simp] at hc1;refine hc1.mono fun e w' he=> ?_
  obtain⟨r,hr,hP⟩:=he;have hc2:=hcont r hr
  split at hc2
  case h_2=>exact hc2.elim
  rename_i out hout
  split at hc2
  case h_2=>exact hc2.elim
  rename_i hnew;obtain⟨v,rfl,ρ4,hS4,hle4,hdv,_⟩:=hpost _ out hout e w' hP;simp only;rw[hdst];have hnw:=fun n hn=>gA (jew _ hnew n hn)
  have hE:Ext σ ⟨σ.sl,out.wr++(q6 σ out.fz++σ.ob)⟩:=⟨⟨[],rfl⟩,⟨out.wr++q6 σ out.fz,by simp⟩⟩;have hput:(gM ds a0).put (some d) v=gM ds (a0.put (some d) v):=rfl;rw[hput];refine hK out.sv _ () v w' B hc2 hE hL ⟨a0.put (some d) v,rfl,by simpa[Act.put] using hd0,by simpa[Act.put] using hn0,ρ4,hS4,?_,hPin.mono hle4 (fun n hn=>(hnw n hn).lt)⟩;intro s y hx;simp only[Act.put];by_cases hs:s=d
  · subst hs;rw[jH] at hx;simp at hx;subst hx;simp only[jG0,jG7];simp only[if_true];rw[if_pos (by rw[hn0];exact hd)];exact hdv
  · rw[jw (fun h=>hs h.symm)] at hx;simp only[jG0,jG7];rw[if_neg (fun h=>hs h.symm)];have:=SV.den_mono hle4 _ _ (fun r hr=>(hnw r hr).sl s y (zk _ _ _ hx)) (hSl s y hx);simpa only[jG0] using this
theorem jpg (hC:C.ok P) (hm:P.follows .mixedOrders=true) {A:jk0 Unit} {tbl:Nat→Option ((ts:List Ty)×jtk ts)} (hseq:jBc P tbl) {sps:List Nat} {rt:List (Nat×Nat×jgO)} (hrt:∀f p,jF rt f=some p→ROK P f p.2) (B:zF):
    jcI P C none (hkC C A tbl sps rt) (LvR B)∧jnt P C none (hkC C A tbl sps rt) (LvR B):=
  ⟨jCH hC hrt,fun g ps aZ b σ ys K B' ds a w Q h=>jDR hC hm hseq g ps aZ b σ ys K B' ds a w Q h⟩
def jDH:Nat→Option ((ts:List Ty)×jtk ts):=fun _=>none
theorem jtG:jBc P jDH:=fun _ _ _ _ _ _ _ _ h=>by cases h
theorem jFq {ts:List Ty} {l B0:Nat} {R Rx:Res (Ty.st ts).Data} {sps:List Nat} {Pm:List (Ty.st ts).Data→Prop} (hR:R.stable B0) (hB:YB P ts B0 l R Rx Pm):
    jcI P C none (hkY ts l sps Pm (fun _=>none)) (LvY ts B0 R Rx)∧jnt P C none (hkY ts l sps Pm (fun _=>none)) (LvY ts B0 R Rx):=
  ⟨jCG hR hB (fun _ _ h=>by cases h),jDQ⟩
def jBW:List yK→Bool
  |[]=>true
  | .own _ _::_=>false
  |_::ps=>jBW ps
theorem vA {H H':Imm} {w w':World}:∀{ps:List yK} {vs:List Value} {d:OD ps} {bs:List Nat} (k:KD ps),jBW ps=true→jbu P H w ps vs d bs→jjh H' w' ps vs k []∧bs=[]
  |[],vs,d,bs,k,_,h=>⟨rfl,h.2⟩
  |p::ps,[],d,bs,k,_,h=>h.elim
  | .own _ _::ps,v::vs,d,bs,k,h0,_=>by cases h0
  | .val t::ps,v::vs,d,bs,k,h0,h=>by
    obtain⟨b1,b2,rfl,h1,h2⟩:=h
    obtain⟨k1,k2⟩:=vA (ps:=ps) k h0 h2
    exact⟨k1,by rw[k2,h1.2];rfl⟩
  | .ref t::ps,v::vs,d,bs,k,h0,h=>by
    obtain⟨b1,b2,rfl,h1,h2⟩:=h
    obtain⟨k1,k2⟩:=vA (ps:=ps) k h0 h2
    exact⟨k1,by rw[k2,h1.2];rfl⟩
  | .nil _::ps,v::vs,d,bs,k,h0,h=>by
    obtain⟨b1,b2,rfl,h1,h2⟩:=h
    obtain⟨k1,k2⟩:=vA (ps:=ps) k h0 h2
    exact⟨k1,by rw[k2,h1.2];rfl⟩
  | .clo f::ps,v::vs,d,bs,k,h0,h=>by
    obtain⟨b1,b2,rfl,h1,h2⟩:=h
    obtain⟨k1,k2⟩:=vA (ps:=ps) k h0 h2
    exact⟨k1,by rw[k2,h1.2];rfl⟩
  | .fn a b::ps,v::vs,d,bs,k,h0,h=>by
    obtain⟨b1,b2,rfl,h1,h2⟩:=h
    obtain⟨k1,k2⟩:=vA (ps:=ps) k h0 h2
    exact⟨k1,by rw[k2,h1.2];rfl⟩
theorem jBP {H:Imm} {w:World} {ps:List yK} {rs:List Sh} {pre:OD ps→List Prop} {vs:List Value} {d:OD ps} {bs:List Nat} (h0:jBW ps=true) (ha:jbu P H w ps vs d bs) {r:RD rs} (k:KD ps) {e:Ending} {w':World} (h:jwC H w rs r e w'):
    jtl H w bs ⟨ps,rs,pre,fun _=>(r,k)⟩ vs d e w':=by
  obtain⟨us,H',rb,rfl,hE,hr,hn,hb⟩:=h;obtain⟨_,rfl⟩:=vA (H':=H') (w':=w') k h0 ha;have hk:=fun H' w'=>(vA (P:=P) (H:=H) (w:=w) (H':=H') (w':=w') k h0 ha).1
  refine⟨us,H',rb,[],rfl,⟨hE.below.os,hE.below.tape,hE.below.output,hE.drawn,hE.below.size,fun b h1 _=>hE.below.block b h1,fun b h1 _=>hE.old b h1,hE.good⟩,hr,hk _ _,by simpa using hn,fun b hb'=> .inr (hb b (by simpa using hb'))⟩
@[irreducible] def jy0 (C:Ctx) (A:jk0 Unit) (hk:jnx Unit) (fn:Func) (body:Code) (s:jgO) (args:OD s.ps→List SV):Prop:=
  ∀d,kR (s.pre d)→jk6 C A hk body ⟨jpe (args d) 0,[]⟩ () (juQ fn s.rs (fun r=>∃k,s.R d (r,k)))
theorem jyZ (hC:C.ok P) (hm:P.follows .mixedOrders=true) {f:Nat} {fn:Func} {body:Code} {s:jgO} (hf:P.funcs[f]? =some fn) (hb:fn.body=some body) (hname:(fn.name== "runtime.NumGoroutine")=false) (hn:fn.ntmps=C.n) {A:jk0 Unit} {hk:jnx Unit}
    (hhk:∀B,jcI P C none hk (LvR B)∧jnt P C none hk (LvR B)) {args:OD s.ps→List SV} (h0:jBW s.ps=true)
    (hden:∀H w vals fl d bs,jAq s.aZ vals fl→jbu P H w s.ps fl d bs→∀ρ:Env,ρ.H=H→SV.denL P ρ (args d) vals) (hlen:∀d,Nat.ble (args d).length C.n=true)
    (hv:jy0 C A hk fn body s args):ROK P f s:=by
  unfold jy0 at hv;refine⟨qb hf hb hname,fun H w vals fl d bs hfl hg ha hnd hpre=> ?_⟩;have hd:=fun ρ hρ=>hden H w vals fl d bs hfl ha ρ hρ
  have h1:=zw _ _ (hd ⟨H,fun _=>none,fun _=>0⟩ rfl);have h2:=jG6 (hlen d);refine(jrQ hC hm hf hb hn A hhk (by omega) (hv d hpre) hg (fun ρ hρ k v hkv=> ?_)).mono fun e w' ⟨r,hr,hpost⟩=> ?_
  · obtain⟨x,h3,h4,_⟩:=jpd _ _ 0 (hd ρ hρ) k v hkv;exact⟨x,by simpa using h3,h4⟩
  · obtain⟨k,hk'⟩:=hr;exact⟨(r,k),hk',jBP h0 ha k hpost⟩
end
end Go.X
namespace Go.X
namespace U
def jz7 {α:Type} (lt:α→α→Bool) (x:α):List α→List α
  |[]=>[x]
  |y::r=>if lt y x=true then y::jz7 lt x r else x::y::r
def ja {α:Type} (lt:α→α→Bool):List α→List α
  |[]=>[]
  |x::r=>jz7 lt x (ja lt r)
end U
structure kQ {α:Type} (lt:α→α→Bool) (l:List α):Prop where
  irrefl:∀x,x∈l→lt x x=false
  trans:∀x y z,x∈l→y∈l→z∈l→lt x y=true→lt y z=true→lt x z=true
  total:∀x y,x∈l→y∈l→lt x y=false→lt y x=false→x=y
def jye {α:Type} (lt:α→α→Bool) (l:List α):Prop:=l.Pairwise (fun a b=>lt b a=false)
section
variable {α:Type} {lt:α→α→Bool}
theorem jiY (x:α):∀l:List α,(U.jz7 lt x l).Perm (x::l)
  |[]=>List.Perm.refl _
  |y::r=>by
    unfold U.jz7
    split
    · exact((jiY x r).cons y).trans (List.Perm.swap x y r)
    · exact List.Perm.refl _
theorem zi:∀l:List α,(U.ja lt l).Perm l
  |[]=>List.Perm.refl _
  |x::r=>(jiY x _).trans ((zi r).cons x)
theorem kQ.perm {l l':List α} (h:kQ lt l) (hp:l'.Perm l):kQ lt l':=
  ⟨fun x hx=>h.irrefl x (hp.mem_iff.1 hx),fun x y z hx hy hz=>h.trans x y z (hp.mem_iff.1 hx) (hp.mem_iff.1 hy) (hp.mem_iff.1 hz),fun x y hx hy=>h.total x y (hp.mem_iff.1 hx) (hp.mem_iff.1 hy)⟩
theorem kQ.sub {l l':List α} (h:kQ lt l) (hp:∀x,x∈l'→x∈l):kQ lt l':=
  ⟨fun x hx=>h.irrefl x (hp _ hx),fun x y z hx hy hz=>h.trans x y z (hp _ hx) (hp _ hy) (hp _ hz),fun x y hx hy=>h.total x y (hp _ hx) (hp _ hy)⟩
theorem kQ.asymm {l:List α} (h:kQ lt l) {x y:α} (hx:x∈l) (hy:y∈l) (h1:lt x y=true):lt y x=false:=by
  cases h2:lt y x with
  |false=>rfl
  |true=>have:=h.trans x y x hx hy hx h1 h2;rw[h.irrefl x hx] at this;cases this
theorem kQ.ntrans {l:List α} (h:kQ lt l) {x y z:α} (hx:x∈l) (hy:y∈l) (hz:z∈l) (h1:lt x y=false) (h2:lt y z=false):lt x z=false:=by
  cases h3:lt x z with
  |false=>rfl
  |true=>
    cases h4:lt y x with
    |true=>have:=h.trans y x z hy hx hz h4 h3;rw[h2] at this;cases this
    |false=>have:=h.total x y hx hy h1 h4;subst this;rw[h2] at h3;cases h3
theorem jsr {x:α}:∀{l:List α},kQ lt (x::l)→jye lt l→jye lt (U.jz7 lt x l)
  |[],_,_=>List.pairwise_singleton _ _
  |y::r,h,ha=>by
    unfold U.jz7
    have ha':=jHG.1 ha
    split
    · rename_i hlt
      refine jHG.2 ⟨fun z hz=> ?_,jsr (h.sub (by intro z hz;simp at hz⊢;rcases hz with rfl|hz;exact .inl rfl;exact .inr (.inr hz))) ha'.2⟩
      rcases jGS.1 ((jiY x r).mem_iff.1 hz) with rfl|hz
      · exact h.asymm (by simp) (by simp) hlt
      · exact ha'.1 z hz
    · rename_i hlt
      have hlt:lt y x=false:=by simpa using hlt
      refine jHG.2 ⟨fun z hz=> ?_,ha⟩
      rcases jGS.1 hz with rfl|hz
      · exact hlt
      · exact h.ntrans (x:=z) (y:=y) (z:=x) (by simp[hz]) (by simp) (by simp) (ha'.1 z hz) hlt
theorem jaY:∀{l:List α},kQ lt l→jye lt (U.ja lt l)
  |[],_=>List.Pairwise.nil
  |x::r,h=>jsr ((h.perm ((zi r).cons x))) (jaY (h.sub (fun z hz=>jGV _ hz)))
theorem jgI:∀{a b:List α},kQ lt a→a.Perm b→jye lt a→jye lt b→a=b
  |[],b,_,hp,_,_=>(List.perm_nil.1 hp.symm).symm
  |x::r,[],_,hp,_,_=>absurd hp.length_eq (by simp)
  |x::r,y::s,h,hp,ha,hb=>by
    have ha':=jHG.1 ha
    have hb':=jHG.1 hb
    have hy:y∈x::r:=hp.mem_iff.2 (by simp)
    have hx:x∈y::s:=hp.mem_iff.1 (by simp)
    have e:x=y:=by
      rcases jGS.1 hy with e|hy'
      · exact e.symm
      · rcases jGS.1 hx with e|hx'
        · exact e
        · exact h.total x y (by simp) hy (hb'.1 x hx') (ha'.1 y hy')
    subst e;rw[jgI (h.sub (fun z hz=>jGV _ hz)) (List.Perm.cons_inv hp) ha'.2 hb'.2]
theorem jrz {l l':List α} (h:kQ lt l) (hp:l'.Perm l) (ha:jye lt l'):l'=U.ja lt l:=
  jgI (h.perm hp) (hp.trans (zi l).symm) ha (jaY h)
end
namespace U
def jg (t:Ty) (F:(Ty.st [t,t]).Data→(Ty.st [.int]).Data) (x y:t.Data):Bool:=decide ((F (x,y,())).1<0)
def jE:List Prop→Prop
  |[]=>True
  |p::r=>p∧jE r
end U
theorem jww:∀l:List Prop,U.jE l↔kR l
  |[]=>Iff.rfl
  |p::r=>by simp only[U.jE,kR,jww r]
def jCZ (t:Ty) (E:Nat):kx:=⟨[.own (.cl (.row E t .unk)) true,.fn [t,t] [.int]],[],fun d=>[∀x,x∈d.1→∀y,y∈d.1→U.jE (d.2.1.pre (x,y,())),kQ (U.jg t d.2.1.F) d.1],
  fun d=>((),(U.ja (U.jg t d.2.1.F) d.1,()))⟩
end Go.X
namespace Go.X
open Go.RowKit (Below)
def jEm (C:Ctx) (fn:Func) (s:jW) (want:(Ty.st s.rs).Data) (e:Ex) (σ:St) (_:Unit):Prop:=finish C fn s want e σ
@[irreducible] def jvQ (C:Ctx) (s:jW) (A:PD s.ps→jk0 Unit) (hk:jnx Unit) (fn:Func) (body:Code):Prop:=
  ∀d:PD s.ps,jqH (s.pre d) (jk6 C (A d) hk body ⟨ko s.ps d 0,[]⟩ () (jEm C fn s (s.F d)))
section
variable {P:Program} {C:Ctx}
theorem jy4 (hC:C.ok P) (hm:P.follows .mixedOrders=true) {f:Nat} {fn:Func} {body:Code} {s:jW} (hf:P.funcs[f]? =some fn) (hb:fn.body=some body) (hname:(fn.name== "runtime.NumGoroutine")=false) (hn:fn.ntmps=C.n) (hps:s.ps.length≤C.n)
    {A:PD s.ps→jk0 Unit} {hk:jnx Unit} (hhk:∀B,jcI P C none hk (LvR B)∧jnt P C none hk (LvR B)) (h:jvQ C s A hk fn body):ze P f s:=by
  unfold jvQ at h;refine⟨qb hf hb hname,fun H w vals d hg hp hpre=> ?_⟩;have hlen:=yN hp;refine(callsIn_wide (n:=0)).1 (callsIn_of_wp_marks hf hb trivial ?_ rfl)
  let ρ:Env:=⟨H,fun _=>none,fun _=>0⟩
  let B:zF:=⟨w,H,[],fun _=>none,fun _=>0⟩
  have hS:Sat P B ρ (⟨ko s.ps d 0,[]⟩:St).obj w:=by
    refine⟨rfl,rfl,rfl,jGU _,jGU _,hg,fun _ _ _=>rfl,fun _ _ _=>rfl,?_,fun _ _=>rfl,?_,?_⟩
    · intro o x hx;simp[St.obj,jF] at hx
    · intro o o' b C1 C2 h1;simp[ρ] at h1
    · intro o b C1 h1;simp[ρ] at h1
  have hRel:jj4 P B C.n [] ⟨ko s.ps d 0,[]⟩ {tmps:=vals.toArray++Array.replicate (fn.ntmps-vals.toArray.size) undef,defers:=[]} w:=by
    refine⟨_,(vK _).symm,rfl,by simp;omega,ρ,hS,?_,fun o p _ hb=>by simp[ρ] at hb,fun _ _ hb=>hb⟩;intro k v hk;obtain⟨x,h1,h2⟩:=wU (P:=P) (ρ:=ρ) s.ps vals d 0 hp k v hk;rw[jd5 (x:=x) (by simpa using h1)];exact h2
  have hL0:LvR B B [] ():=⟨⟨rfl,rfl,rfl,jGU _,jGU _,fun _ _ h=>h,fun b _ h=>⟨rfl,rfl,h⟩,fun b h=> .inr h,rfl,rfl⟩,List.nodup_nil,fun x hx=>by simp at hx⟩;refine kB (r:=none) hC hm (A d) hk (LvR B) (hhk B).1 (hhk B).2 body _ () _ _ _ w B [] (vZ _ _ (h d) hpre) hL0 hRel (fun e σ ys a' w' B' ds hE hK hL hR=> ?_);obtain⟨a1,rfl,q1,q2,ρ',q3,q4,q5⟩:=hR;obtain⟨hch,hmk⟩:=hL;have main:(match jrK C σ s.rs fn.results.toList with|some r=>r=s.F d|none=>False)→LeavesInM Fence.wide 0 P fn (gM ds a1).tmps (jDn H w s.rs (s.F d)) (gM ds a1).defers .returning w':=by
    intro hr
    split at hr
    case h_2=>exact hr.elim
    rename_i r hres;have ed:(gM ds a1).defers=ds:=(by simp[gM,q1]);have et:(gM ds a1).tmps=a1.tmps:=rfl;rw[ed,et];obtain⟨f1,hf1⟩:∃f1,f1=jy7 C σ s.rs fn.results.toList:=⟨_,rfl⟩;obtain⟨ρ2,hS2,hle,hblk,hln⟩:=jP (σ:=σ) f1 q3;have hDs:∀x,x∈ds→∃D,x={target:= .collected D,args:= #[]}∧w.heap.size≤D∧D∉B'.bor∧D<B'.w.heap.size∧w'.heap[D]? =some (.deferred (some [])):=by
      intro x hx;obtain⟨D,e,k1,k2,k3⟩:=hmk.2 x hx;have hlt:=(jGZ.1 k3).1;exact⟨D,e,k1,k2,hlt,(hS2.old D hlt k2).trans k3⟩
    refine jgm ds w' hmk.1 (fun x hx=> ?_) (fun w2 g1 g2 g3 g3' g4 g5=> ?_)
    · obtain⟨D,e,_,_,_,h⟩:=hDs x hx;exact⟨D,e,h⟩
    have hno_low:∀b,b<w.heap.size→({target:= .collected b,args:= #[]}:Deferred)∉ds:=by
      intro b hb hm';obtain⟨D,e,k1,_⟩:=hDs _ hm';simp at e;omega
    have hno_obj:∀o b Cp,ρ2.blk o=some (some (b,Cp))→({target:= .collected b,args:= #[]}:Deferred)∉ds:=by
      intro o b Cp hb hm';obtain⟨D,e,_,_,_,h⟩:=hDs _ hm';simp at e;subst e;exact(jkY (σ:=σ.frz f1) hS2 hb).2 _ h
    have hgood:jcY ρ2.H w2:=by
      refine⟨fun b c hc=> ?_,hS2.good.2⟩;have h1:=hS2.good.1 b c hc;rw[g5 b (fun hm'=> ?_)]
      · exact h1
      · obtain⟨D,e,_,_,_,h⟩:=hDs _ hm';simp at e;subst e;rw[h] at h1;exact jfm h1
    have hS3:=jeq (σ:=σ.frz f1) hS2 hgood (fun _ _ h=>h) (fun o b Cp hb=>⟨g5 b (hno_obj o b Cp hb),rfl⟩);have hd:∀k,SV.den P {ρ2 with H:=ρ2.H} (σ.get k) (a1.tmps.getD k undef):=by
      intro k;have:=jK (P:=P) (a:=a1) q4 (.tmp k);exact SV.den_mono hle _ _ (fun o ho=>by simp at ho) this
    obtain⟨vs,e1,e2⟩:=jf4 hC hS3 (qa σ _) hd s.rs _ _ hres (fun o ho=>by rw[hf1];exact ho);refine⟨_,jae e1,⟨_,ρ2.H,rfl,⟨⟨g1.trans (hS2.os.trans hch.os),g2.trans (hS2.tape.trans hch.tape),g3.trans (hS2.output.trans hch.output),?_,fun b hb=> ?_⟩,hgood,fun b hb=> ?_,jG5 (jG5 hch.drawn hS2.drawn) g3'⟩,?_⟩⟩
    · rw[g4];exact jG5 hch.size hS2.size
    · obtain⟨k1,k2,k3⟩:=hch.old b hb (by simp[B]);rw[g5 b (hno_low b hb)];exact(hS2.old b (jHQ hb hch.size) k3).trans k1
    · obtain⟨k1,k2,k3⟩:=hch.old b hb (by simp[B]);exact(hS2.oldH b (jHQ hb hch.size) k3).trans k2
    · rw[←hr];exact jy6 e2
  cases e with
  |normal=>exact main hK
  |ret=>exact main hK
  |exit id=>exact hK.elim
end
end Go.X
namespace Go.X
open Go.RowKit (Below)
open Go.Sort (HoldsK putRowK flatK SWO PermIn SortedIn)
theorem jrP {H:Imm}:∀(t:Ty) (f:Nat→Option Value) (d:t.Data),t.rd H f d→∀j,j<t.size→∃v,f j=some v∧v.oneCell'=true
  | .int,f,d,h,j,hj=>by obtain rfl:j=0:=Nat.lt_one_iff.1 hj;exact⟨_,h,rfl⟩
  | .bool,f,d,h,j,hj=>by obtain rfl:j=0:=Nat.lt_one_iff.1 hj;exact⟨_,h,rfl⟩
  | .uint _,f,d,h,j,hj=>by obtain rfl:j=0:=Nat.lt_one_iff.1 hj;exact⟨_,h,rfl⟩
  | .slice _,f,d,h,j,hj=>by obtain rfl:j=0:=Nat.lt_one_iff.1 hj;obtain⟨a,n,c,h,_⟩:=h;exact⟨_,h,rfl⟩
  | .map _ _,f,d,h,j,hj=>by obtain rfl:j=0:=Nat.lt_one_iff.1 hj;obtain⟨p,h,_⟩:=h;exact⟨_,h,rfl⟩
  | .ptr _,f,d,h,j,hj=>by obtain rfl:j=0:=Nat.lt_one_iff.1 hj;obtain⟨p,h,_⟩:=h;exact⟨_,h,rfl⟩
  | .unit,f,d,h,j,hj=>by simp[Ty.size] at hj
  | .pair a b,f,d,h,j,hj=>by
    simp only[Ty.size] at hj
    by_cases hja:j<a.size
    · exact jrP a f d.1 h.1 j hja
    · obtain⟨v,e,h1⟩:=jrP b _ d.2 h.2 (j-a.size) (by omega)
      exact⟨v,by rw[←e];congr 1;omega,h1⟩
theorem juP {w w':World} (h:Below w.heap.size w w') (hd:w.drawn≤w'.drawn):∃q os',w'=Go.Sort.grow (w.drewN q) os':=by
  refine⟨w'.drawn-w.drawn,w'.heap.extract w.heap.size w'.heap.size,?_⟩;obtain⟨heap',tape',drawn',os',output'⟩:=w';have e1:os'=w.os:=h.os;have e2:tape'=w.tape:=h.tape;have e3:output'=w.output:=h.output;have hs:w.heap.size≤heap'.size:=h.size;have hb:∀k,k<w.heap.size→heap'[k]? =w.heap[k]? :=h.block;have hd:w.drawn≤drawn':=hd;subst e1 e2 e3;have eh:heap'=w.heap++heap'.extract w.heap.size heap'.size:=by
    apply Array.ext_getElem?;intro k;by_cases hk:k<w.heap.size
    · rw[jHE hk];exact hb k hk
    · rw[Array.getElem?_append_right (by omega),Array.getElem?_extract];by_cases hk2:k<heap'.size
      · rw[if_pos (by omega)];congr 1;omega
      · rw[if_neg (by omega),Array.getElem?_eq_none (by omega)]
  simp only[Go.Sort.grow,World.drewN];rw[show w.drawn+(drawn'-w.drawn)=drawn' by omega];congr 1
section
variable {t:Ty}
structure LE (H:Imm) (t:Ty) (l:List t.Data) where
  cs:List Value
  d:t.Data
  mem:d∈l
  len:cs.length=t.size
  rd:t.rd H (fun j=>cs[j]?) d
variable {H:Imm} {l:List t.Data}
theorem LE.one (x:LE H t l):∀v,v∈x.cs→v.oneCell'=true:=by
  intro v hv;obtain⟨j,hj,e⟩:=List.mem_iff_getElem.1 hv;obtain⟨u,h1,h2⟩:=jrP t _ x.d x.rd j (by rw[←x.len];exact hj);rw[jGY hj,e] at h1;simp at h1;subst h1;exact h2
theorem LE.rv (ht:t.agg=true) (x:LE H t l):t.rv H (.agg x.cs.toArray) x.d:=
  ⟨by rw[ht];rfl,by show x.cs.toArray.size=_;simp[x.len],Ty.rd_congr t _ _ _ (fun j _=>by show x.cs[j]? =x.cs.toArray[j]?;simp) x.rd⟩
def cfL (F:(Ty.st [t,t]).Data→(Ty.st [.int]).Data) (x y:LE H t l):Int:=(F (x.d,y.d,())).1
theorem ltL {F:(Ty.st [t,t]).Data→(Ty.st [.int]).Data} (x y:LE H t l):Go.Proofs.ltOf (cfL F) x y=U.jg t F x.d y.d:=rfl
theorem jGG {F:(Ty.st [t,t]).Data→(Ty.st [.int]).Data} (h:kQ (U.jg t F) l):SWO (Go.Proofs.ltOf (cfL F:LE H t l→LE H t l→Int)) where
  irrefl x:=by rw[ltL];exact h.irrefl _ x.mem
  trans x y z h1 h2:=by rw[ltL] at*;exact h.trans _ _ _ x.mem y.mem z.mem h1 h2
  ntrans x y z h1 h2:=by rw[ltL] at*;exact h.ntrans x.mem y.mem z.mem h1 h2
variable [Inhabited (LE H t l)]
theorem jlV {w:World} {b n:Nat} {d:Array (LE H t l)} {os:Array Obj}:w.grownBy (Go.Proofs.sortWorldK LE.cs t.size w b 0 n d os) (some b):=by
  refine⟨rfl,rfl,rfl,?_,fun k hk hb=> ?_⟩
  · unfold Go.Proofs.sortWorldK Go.Sort.grow Go.Sort.putRowK Go.Sort.putRow Go.Sort.mapBlock Go.Sort.ahead;simp
  · have hne:b≠k:=fun e=>hb (by rw[e])
    unfold Go.Proofs.sortWorldK Go.Sort.grow Go.Sort.putRowK Go.Sort.putRow Go.Sort.mapBlock Go.Sort.ahead;simp only;rw[jHE (by simpa using hk),jHK,if_neg hne]
theorem jtT {w:World} {b n:Nat} {d:Array (LE H t l)} {os:Array Obj}:w.drawn≤(Go.Proofs.sortWorldK LE.cs t.size w b 0 n d os).drawn:=by
  unfold Go.Proofs.sortWorldK Go.Sort.grow Go.Sort.putRowK Go.Sort.putRow Go.Sort.mapBlock Go.Sort.ahead;simp
theorem jsE {w:World} {b n:Nat} {d:Array (LE H t l)} {os:Array Obj} (hg:jcY H w) (hH:H b=none):jcY H (Go.Proofs.sortWorldK LE.cs t.size w b 0 n d os):=by
  refine⟨fun k c hkc=> ?_,hg.2⟩;have hgr:=jlV (w:=w) (b:=b) (n:=n) (d:=d) (os:=os);have hne:b≠k:=fun e=>by subst e;rw[hH] at hkc;cases hkc
  rw[hgr.block k (hg.lt hkc) (fun e=>hne (by simp at e;exact e.symm))];exact hg.1 k c hkc
theorem jEA {P:Program} (ht:t.agg=true) {F:(Ty.st [t,t]).Data→(Ty.st [.int]).Data} {pre:(Ty.st [t,t]).Data→List Prop} {g:Nat} {cb:Array Value} {w:World} {b size:Nat} (hg:jcY H w) (hH:H b=none)
    (hf:∀H' w vals x,(∀b c,H b=some c→H' b=some c)→jcY H' w→rvs H' [t,t] vals x→kR (pre x)→Calls P g (vals.toArray++cb) w (jDn H' w [.int] (F x)))
    (hpre:∀x,x∈l→∀y,y∈l→kR (pre (x,y,()))):Go.Proofs.CmpLays P g cb (LE.cs:LE H t l→List Value) t.size (cfL F) b 0 size w:=by
  intro m os dk _ x y;have hg':=jsE (n:=m) (d:=dk) (os:=os) hg hH;have:=hf H _ [.agg x.cs.toArray,.agg y.cs.toArray] (x.d,y.d,()) (fun _ _ h=>h) hg' ⟨x.rv ht,y.rv ht,rfl⟩ (hpre _ x.mem _ y.mem);refine Calls.mono (R:=jDn H (Go.Proofs.sortWorldK LE.cs t.size w b 0 m dk os) [.int] (F (x.d,y.d,()))) this fun e w' he=> ?_
  obtain⟨v,H',rfl,hE,hr⟩:=he;refine⟨?_,juP hE.below hE.drawn⟩;have hr:Ty.int.rv H' v (F (x.d,y.d,())).1:=hr;have h1:=zb (t:= .int) rfl hr;simp only[Ty.rd,Option.some.injEq] at h1;rw[h1];rfl
theorem jFC {w:World} {b E:Nat} {vs:Array Value} {d:Array (LE H t l)} (hsz:0<t.size) (hw:w.heap[b]? =some (.cells vs E (0,0))) (hr:∀(i:Nat) (y:LE H t l),d[i]? =some y→∀j,j<t.size→vs[i*t.size+j]? =y.cs[j]?):HoldsK LE.cs t.size w b 0 d:=by
  intro k hk;have hk':k<d.size*t.size:=(by simpa using hk);have hi:k/t.size<d.size:=(Nat.div_lt_iff_lt_mul hsz).2 hk';have hm:=Nat.mod_lt k hsz;have h1:=hr (k/t.size) d[k/t.size]! (by rw[getElem!_pos d _ hi];exact jHe hi) (k%t.size) hm;rw[show k/t.size*t.size+k%t.size=k by rw[Nat.mul_comm];exact Nat.div_add_mod k t.size] at h1;have hlen:=d[k/t.size]!.len;obtain⟨u,h2,h3⟩:=jrP t _ _ d[k/t.size]!.rd (k%t.size) hm;rw[Go.Sort.get_flatK _ _ _ k hk',jHX,jng hw,h1];refine⟨?_,by simp[World.frozen?,hw]⟩;rw[h2,getElem!_def,h2]<;>rfl
theorem jtP {w:World} {b n E:Nat} {vs:Array Value} {d:Array (LE H t l)} {os:Array Obj} (hsz:0<t.size) (hw:w.heap[b]? =some (.cells vs E (0,0))) (hle:d.size*t.size≤vs.size):
    ∃vs':Array Value,(Go.Proofs.sortWorldK LE.cs t.size w b 0 n d os).heap[b]? =some (.cells vs' E (0,0))∧vs'.size=vs.size∧∀(i:Nat) (y:LE H t l),d[i]? =some y→∀j,j<t.size→vs'[i*t.size+j]? =y.cs[j]? :=by
  have hlt:b<w.heap.size:=(jGZ.1 hw).1;refine⟨Go.Sort.putCells id 0 (flatK LE.cs t.size d) vs,?_,by simp[Go.Sort.putCells],fun i y hy j hj=> ?_⟩
  · unfold Go.Proofs.sortWorldK Go.Sort.grow Go.Sort.putRowK Go.Sort.putRow Go.Sort.mapBlock Go.Sort.ahead;simp only;rw[jHE (by simpa using hlt),jHK,if_pos rfl,hw];rfl
  · have hi:i<d.size:=(jGZ.1 hy).1;have hm:i*t.size+j<d.size*t.size:=by
      have:(i+1)*t.size≤d.size*t.size:=jG8 _ hi;rw[jHA] at this;omega
    have hv:i*t.size+j<vs.size:=(by omega);have ed:(i*t.size+j)/t.size=i:=by
      rw[Nat.mul_comm,Nat.mul_add_div hsz,Nat.div_eq_of_lt hj,jH4]
    have em:(i*t.size+j)%t.size=j:=by
      rw[Nat.mul_comm,Nat.mul_add_mod,Nat.mod_eq_of_lt hj]
    unfold Go.Sort.putCells;rw[Array.getElem?_mapIdx,jHe hv];simp only[Option.map_some,jG2,jHX,true_and,Go.Sort.size_flatK,hm,if_true,Nat.sub_zero,id];rw[Go.Sort.get_flatK _ _ _ _ hm,ed,em];have:d[i]! =y:=by
      rw[getElem!_pos d i hi];rw[jHe hi] at hy;simpa using hy
    rw[this];obtain⟨u,h2,_⟩:=jrP t _ _ y.rd j hj;rw[h2,getElem!_def,h2]<;>rfl
theorem jtQ {F:(Ty.st [t,t]).Data→(Ty.st [.int]).Data} (ho:kQ (U.jg t F) l) {d d':Array (LE H t l)} (hl:d.toList.map LE.d=l) (hp:PermIn 0 d.size d d') (hs:SortedIn (Go.Proofs.ltOf (cfL F)) 0 d.size d'):
    d'.toList.map LE.d=U.ja (U.jg t F) l:=by
  obtain⟨p1,_,p3⟩:=hp;have hperm:d'.toList.Perm d.toList:=by
    have e1:d.extract 0 d.size=d:=(by simp);have e2:d'.extract 0 d.size=d':=by rw[←p1];simp
    rwa [e1,e2] at p3
  have h3:=hperm.map LE.d;rw[hl] at h3;refine jrz ho h3 ?_;unfold jye;rw[jHV];intro i j hi hj hij;simp only[jHO,jHm] at hi hj;have h1:=hs i j (jG2 _) hij (by omega);rw[ltL,getElem!_pos d' j hj,getElem!_pos d' i hi] at h1;simpa using h1
end
theorem jtU {P:Program} {ren:Go.Shelf.Ren} (L:Go.Proofs.SlLaysF0.n6 P ren) {t:Ty} (E:Nat) (ht:t.agg=true) (hsz:0<t.size) (aE:∀w,(isAgg (ren.t 24)).run P w= .ok true w) (zE:∀w,(Go.sizeOf (ren.t 24)).run P w= .ok t.size w)
    (hen:enters P (ren.f 6)):yf P (ren.f 6) (jCZ t E):=by
  refine⟨hen,fun H w vals d bs hg ha hnd hpre=> ?_⟩;obtain⟨l,u,⟨⟩⟩:=d;obtain⟨h1,h2,_⟩:=hpre;have h1:∀x,x∈l→∀y,y∈l→kR (u.pre (x,y,())):=fun x hx y hy=>(jww _).1 (h1 x hx y hy)
  have h2:kQ (U.jg t u.F) l:=h2
  match vals,ha with
  |[],ha=>exact ha.elim
  |[_],ha=>obtain⟨_,_,_,_,ha⟩:=ha;exact ha.elim
  |v::fv::_::_,ha=>
    obtain⟨_,_,_,_,_,_,_,_,ha⟩:=ha;have:=ha.1;cases this
  |[v,fv],ha=>
    obtain⟨b1,b2,rfl,ha1,c1,c2,rfl,⟨hfv,rfl⟩,_,rfl⟩:=ha;simp only[jHf] at hnd⊢;have ha0:ClV H w (.row E t .unk) v l b1:=ha1;obtain⟨hlen,hrow⟩:=ha1;obtain⟨g,cb,rfl,hge,hcall⟩:=hfv;by_cases hl0:l=[]
    · subst hl0;obtain⟨p,cap,rfl⟩:∃p cap,v= .slice p 0 cap:=by
        rcases hrow with⟨rfl,_⟩|⟨b,C,vs,rfl,_⟩
        · exact⟨_,_,rfl⟩
        · exact⟨_,_,rfl⟩
      refine(Go.Proofs.AnyF.slices_SortFunc_none L p cap (.func (.func g) #[] cb) w).mono fun e w' he=> ?_
      obtain⟨rfl,rfl⟩:=he;exact⟨[],H,[],b1,rfl,⟨rfl,rfl,rfl,jGU _,jGU _,fun _ _ _=>rfl,fun _ _ _=>rfl,hg⟩,⟨rfl,rfl⟩,⟨b1,[],by simp,ha0,rfl⟩,by simpa using hnd,fun b hb=> .inl (by simpa using hb)⟩
    · rcases hrow with⟨_,e,_⟩|⟨b,C,vs,rfl,rfl,hH,_,hw,hvs,hlC,hCm,hr⟩
      · exact absurd e hl0
      have hlC:l.length≤C:=hlC;have hcell:∀i,i<l.length→∀j,j<t.size→i*t.size+j<vs.size:=by
        intro i hi j hj;have h3:(i+1)*t.size≤C*t.size:=jG8 _ (by omega);rw[jHA] at h3;omega
      let mk:(i:Fin l.length)→LE H t l:=fun i=>⟨(List.range t.size).map (fun j=>vs[i.1*t.size+j]?.getD undef),l[i.1],List.getElem_mem _,by simp,by
        refine Ty.rd_congr t _ _ _ (fun j hj=> ?_) (hr i.1 l[i.1] (jGY i.2));rw[jH6,List.getElem?_range hj,Option.map_some,jHe (hcell i.1 i.2 j hj)];rfl⟩
      haveI:Inhabited (LE H t l):=⟨mk ⟨0,Nat.pos_of_ne_zero (fun e=>hl0 (jHy e))⟩⟩
      obtain⟨d,hds,hdm,hdc⟩:∃d:Array (LE H t l),d.size=l.length∧d.toList.map LE.d=l∧∀(i:Nat) (y:LE H t l),d[i]? =some y→∀j,j<t.size→vs[i*t.size+j]? =y.cs[j]? :=by
        refine⟨Array.ofFn mk,by simp,?_,fun i y hy j hj=> ?_⟩
        · apply List.ext_getElem
          · simp
          · intro i hi1 hi2;simp[mk]
        · have hi:i<l.length:=(by have:=(jGZ.1 hy).1;simpa using this);have:mk ⟨i,hi⟩=y:=by
            have:=(jGZ.1 hy).2;simpa using this
          subst this;show _=((List.range t.size).map (fun j=>vs[i*t.size+j]?.getD undef))[j]?;rw[jH6,List.getElem?_range hj,Option.map_some,jHe (hcell i hi j hj)];rfl
      have key:=Go.Proofs.AnyQ.slices_SortFunc L t.size aE zE (LE.cs:LE H t l→List Value) LE.len (fun x=>x.one) (cfL u.F) (jGG h2) g cb b 0 C d w hge (jEA ht hg hH hcall h1) (jFC hsz hw hdc) (jGZ.1 hw).1 (by rw[hds];exact hlen);rw[hds] at key;refine Calls.mono (R:=_) key fun e w' he=> ?_
      obtain⟨rfl,d',n,os,hp,hs,rfl⟩:=he;rw[←hds] at hp hs;have hone:=jtQ h2 hdm hp hs;have hd's:d'.size=d.size:=hp.1;obtain⟨vs2,k1,k2,k3⟩:=jtP (n:=n) (os:=os) (d:=d') hsz hw (by
        rw[hd's,hds,hvs];exact jG8 _ hlC)
      have hgr:=jlV (w:=w) (b:=b) (n:=n) (d:=d') (os:=os);have hlen':(U.ja (U.jg t u.F) l).length=l.length:=(zi _).length_eq;refine⟨[],H,[],[b],rfl,⟨hgr.os,hgr.tape,hgr.output,jtT,hgr.size,fun k hk hb=>hgr.block k hk (fun e=>by simp at e;subst e;simp at hb),fun _ _ _=>rfl,jsE hg hH⟩,⟨rfl,rfl⟩,⟨[b],[],rfl,?_,rfl⟩,by simp,fun b' hb'=> .inl (by simpa using hb')⟩;show ClV H _ (.row E t .unk) _ (U.ja (U.jg t u.F) l) [b];refine⟨by rw[hlen'];exact hlen,.inr ⟨b,C,vs2,by rw[hlen'],rfl,hH,(fun e=>by cases e),k1,by rw[k2];exact hvs,by rw[hlen'];exact hlC,hCm,fun i y hy=> ?_⟩⟩;rw[←hone,jH6,jHB] at hy;cases hx:d'[i]? with
      |none=>rw[hx] at hy;cases hy
      |some x=>
        rw[hx] at hy;simp at hy;subst hy;exact Ty.rd_congr t _ _ _ (fun j hj=>(k3 i x hx j hj).symm) x.rd
end Go.X
namespace Go.X
open Go.RowKit (Below)
open Go.Sort (Holds putRow)
namespace U
def jhh (l:List Int):List Int:=l.mergeSort fun x y=>decide (x≤y)
end U
theorem jiB (l:List Int):(U.jhh l).Perm l:=List.mergeSort_perm l _
theorem jyJ (l:List Int):(U.jhh l).Pairwise (fun a b=>a≤b):=by
  have:=List.pairwise_mergeSort (le:=fun(x y:Int)=>decide (x≤y)) (fun a b c h1 h2=>by simp at*;omega) (fun a b=>by simp;omega) l;exact this.imp (fun h=>by simpa using h)
theorem jfq:∀{a b:List Int},a.Perm b→a.Pairwise (fun x y=>x≤y)→b.Pairwise (fun x y=>x≤y)→a=b
  |[],b,hp,_,_=>(List.perm_nil.1 hp.symm).symm
  |x::r,[],hp,_,_=>absurd hp.length_eq (by simp)
  |x::r,y::s,hp,ha,hb=>by
    have ha':=jHG.1 ha
    have hb':=jHG.1 hb
    have hy:y∈x::r:=hp.mem_iff.2 (by simp)
    have hx:x∈y::s:=hp.mem_iff.1 (by simp)
    have e:x=y:=by
      rcases jGS.1 hy with e|hy'
      · exact e.symm
      · rcases jGS.1 hx with e|hx'
        · exact e
        · have h1:=ha'.1 y hy';have h2:=hb'.1 x hx';omega
    subst e;rw[jfq (List.Perm.cons_inv hp) ha'.2 hb'.2]
def jyL (E:Nat):kx:=⟨[.own (.cl (.row E .int .unk)) true],[],fun _=>[],fun d=>((),(U.jhh d.1,()))⟩
theorem jBw {P:Program} {ren:Go.Shelf.Ren} (L:Go.Proofs.Lays.n189 P ren) (E:Nat) (hen:enters P (ren.f 189)):yf P (ren.f 189) (jyL E):=by
  refine⟨hen,fun H w vals d bs hg ha hnd _=> ?_⟩;obtain⟨l,⟨⟩⟩:=d
  match vals,ha with
  |[],ha=>exact ha.elim
  |v::fv::_,ha=>
    obtain⟨_,_,_,_,ha⟩:=ha;have:=ha.1;cases this
  |[v],ha=>
    obtain⟨b1,b2,rfl,ha1,_,rfl⟩:=ha;simp only[jHf] at hnd⊢;have ha0:ClV H w (.row E .int .unk) v l b1:=ha1;obtain⟨hlen,hrow⟩:=ha1;have hlen:l.length<4611686018427387904:=hlen;by_cases hl0:l=[]
    · subst hl0;obtain⟨p,cap,rfl⟩:∃p cap,v= .slice p 0 cap:=by
        rcases hrow with⟨rfl,_⟩|⟨b,C,vs,rfl,_⟩
        · exact⟨_,_,rfl⟩
        · exact⟨_,_,rfl⟩
      refine(Go.Proofs.Any.slices_Sort_int_none L p cap w).mono fun e w' he=> ?_
      obtain⟨rfl,rfl⟩:=he;exact⟨[],H,[],b1,rfl,⟨rfl,rfl,rfl,jGU _,jGU _,fun _ _ _=>rfl,fun _ _ _=>rfl,hg⟩,⟨rfl,rfl⟩,⟨b1,[],by simp,(by
        have e0:U.jhh []=[]:=List.perm_nil.1 (jiB []);show ClV H _ (.row E .int .unk) _ (U.jhh []) b1;rw[e0];exact ha0),rfl⟩,by simpa using hnd,fun b hb=> .inl (by simpa using hb)⟩
    · rcases hrow with⟨_,e,_⟩|⟨b,C,vs,rfl,rfl,hH,_,hw,hvs,hlC,hCm,hr⟩
      · exact absurd e hl0
      have hlC:l.length≤C:=hlC;have hvs:vs.size=C:=(by rw[hvs];exact Nat.mul_one C);have hcell:∀(i:Nat) (y:Int),l[i]? =some y→vs[i]? =some (.int .i64 y):=fun i y hy=>by
        have:=hr i y hy;simpa[Ty.rd,Ty.size] using this
      have hlt:b<w.heap.size:=(jGZ.1 hw).1;refine Calls.mono (R:=_) (Go.Proofs.Any.slices_Sort_int L b 0 C l w ?_ hlt hlen) fun e w' he=> ?_
      · intro i hi;have hi:i<l.length:=(by simpa using hi);have h1:=hcell i l[i] (jGY hi);rw[jHX,jng hw,h1];refine⟨?_,by simp[World.frozen?,hw]⟩;simp[getElem!_pos l.toArray i (by simpa using hi)]
      · obtain⟨rfl,n,os,rfl⟩:=he;have hlen':(U.jhh l).length=l.length:=(jiB _).length_eq;obtain⟨d,hd⟩:∃d,d=U.jhh l:=⟨_,rfl⟩;have hd':(l.mergeSort fun x y=>decide (x≤y))=d:=(by rw[hd];rfl);rw[hd'];rw[←hd] at hlen';obtain⟨W,hW⟩:∃W,W=Go.Sort.grow (putRow (Value.int .i64) (Go.Sort.ahead w n) b 0 d.toArray) os:=⟨_,rfl⟩;rw[←hW];have hgr:w.grownBy W (some b)∧w.drawn≤W.drawn:=by
          rw[hW];refine⟨⟨rfl,rfl,rfl,?_,fun k hk hb=> ?_⟩,?_⟩
          · unfold Go.Sort.grow Go.Sort.putRow Go.Sort.mapBlock Go.Sort.ahead;simp
          · have hne:b≠k:=fun e=>hb (by rw[e])
            unfold Go.Sort.grow Go.Sort.putRow Go.Sort.mapBlock Go.Sort.ahead;simp only;rw[jHE (by simpa using hk),jHK,if_neg hne]
          · unfold Go.Sort.grow Go.Sort.putRow Go.Sort.mapBlock Go.Sort.ahead;simp
        have hvs2:∃vs':Array Value,W.heap[b]? =some (.cells vs' E (0,0))∧vs'.size=vs.size∧∀(i:Nat) (y:Int),d[i]? =some y→vs'[i]? =some (.int .i64 y):=by
          rw[hW];refine⟨Go.Sort.putCells (Value.int .i64) 0 d.toArray vs,?_,by simp[Go.Sort.putCells],fun i y hy=> ?_⟩
          · unfold Go.Sort.grow Go.Sort.putRow Go.Sort.mapBlock Go.Sort.ahead;simp only;rw[jHE (by simpa using hlt),jHK,if_pos rfl,hw];rfl
          · have hi:i<d.length:=(jGW.1 hy).1;unfold Go.Sort.putCells;rw[Array.getElem?_mapIdx,jHe (show i<vs.size by omega)];have e:d.toArray[i]! =y:=by
              rw[getElem!_pos d.toArray i (by simpa using hi)];rw[jGY hi] at hy;simpa using hy
            simp[hi];rw[jGY hi] at hy;simpa using hy
        obtain⟨vs2,k1,k2,k3⟩:=hvs2;have hgood:jcY H W:=by
          refine⟨fun k c hkc=> ?_,hg.2⟩;have hne:b≠k:=fun e=>by subst e;rw[hH] at hkc;cases hkc
          rw[hgr.1.block k (hg.lt hkc) (fun e=>hne (by simp at e;exact e.symm))];exact hg.1 k c hkc
        refine⟨[],H,[],[b],rfl,⟨hgr.1.os,hgr.1.tape,hgr.1.output,hgr.2,hgr.1.size,fun k hk hb=>hgr.1.block k hk (fun e=>by simp at e;subst e;simp at hb),fun _ _ _=>rfl,hgood⟩,⟨rfl,rfl⟩,⟨[b],[],rfl,?_,rfl⟩,by simp,fun b' hb'=> .inl (by simpa using hb')⟩;show ClV H _ (.row E .int .unk) _ (U.jhh l) [b];rw[←hd];refine⟨by rw[hlen'];exact hlen,.inr ⟨b,C,vs2,by rw[hlen'],rfl,hH,(fun e=>by cases e),k1,by rw[k2,hvs];exact(Nat.mul_one C).symm,by rw[hlen'];exact hlC,hCm,fun i y hy=> ?_⟩⟩;have:=k3 i y hy;simpa[Ty.rd,Ty.size] using this
end Go.X
