/-
  Part 7 of the road: a checked reading of bodies, and what the functions on it do (X25 X26 C5 PC15 C6 PC16 S6 S7 PC17 DM S8 S9 S10 VD VM VB V1 PV1 VE0 VE1 VE2 V3 PV3 O7 V5 PV5 V6 PV6 VBO DQ MQ LQ AQ NQ BQ OQ VQ1 PQ1 PR1 CQ TQ VQ2 PQ2 RQ PQ3 V4 PV4 V7 PV7 V8S V8 PV8 V9 PV9 VW1 PW1 VX1 PX1 VXC PXC LW).
-/
import Derived.Test.YtjmbjgjcdklgdaaGreatDoorK06
import Derived.Test.YtjmbjgjcdklgdaaGreatDoorRows
import Derived.WalkKit
import Derived.ProofKit
import Derived.OpenShut
import Derived.JoinedCond
import Derived.Carry
import Derived.ChangeArms
import Derived.Shelf.SlSortCmp.WholeK
import Derived.Test.YtjmbjgjcdklgdaaGreatDoorProg
import Derived.Test.YtjmbjgjcdklgdaaGreatDoorCards
import Derived.Test.YtjmbjgjcdklgdaaGreatDoorTie
import Derived.Deep.DeepHandedRow
import Derived.Lib.LaidTab
namespace Go.X
open U
open Go.RowKit (Below)
open Go.Proofs.YtjmbjgjcdklgdaaGreatDoor
def Hof (w:World):Imm:=fun b=>match w.heap[b]? with|some (.cells c _ _)=>some (.cells c)|_=>none
theorem WX (w:World) (d:YG (Hof w)):d8 (Hof w) w:=by
 refine⟨fun b c h=> ?_,d⟩;unfold Hof at h
 split at h
 rename_i f T a e;simp at h;subst h;exact⟨T,a,e⟩;cases h
def Ty.fits (N:Nat):(t:Ty)->t.Data->Prop
 | .int,x=>kK x
 | .bool,_=>True
 | .uint k,x=>k.min<=x/\x<=k.max
 | .slice t,l=>l.length<=N/\∀x∈l,t.fits N x
 | .unit,_=>True
 | .pair a b,d=>a.fits N d.1/\b.fits N d.2
 | .map k v,l=>l.length<=N/\∀x∈l,k.fits N x.1/\v.fits N x.2
 | .ptr t,d=>∀x,d=some x->t.fits N x
theorem Ty.fits_mono {N M:Nat} (h:N<=M):∀(t:Ty) (d:t.Data),t.fits N d->t.fits M d
 | .int,_,k=>k
 | .bool,_,k=>k
 | .uint _,_,k=>k
 | .unit,_,k=>k
 | .slice t,_,k=>⟨jE k.1 h,fun x c=>t.fits_mono h x (k.2 x c)⟩
 | .pair a b,_,k=>⟨a.fits_mono h _ k.1,b.fits_mono h _ k.2⟩
 | .map k v,_,q=>⟨jE q.1 h,fun x c=>⟨k.fits_mono h _ (q.2 x c).1,v.fits_mono h _ (q.2 x c).2⟩⟩
 | .ptr t,_,k=>fun x c=>t.fits_mono h x (k x c)
def jbf (P:Program) (go:Nat->Ty->Bool):List Field->Nat->Ty->Bool
 |[],_,.unit=>true
 |f::fs,off,.pair a b=>Nat.beq f.offset off&&Nat.beq (P.cellsOf f.type) a.size&&go f.type a&&jbf P go fs (off+a.size) b
 |_,_,_=>false
def ZM (P:Program):Nat->Nat->Ty->Bool
 |0,_,_=>false
 |d+1,T,ty=>match ty,P.underlying T with
  | .int,some (.int .i64)=>true
  | .bool,some .bool=>true
  | .uint k,some (.int k')=>eZ k k'
  | .slice t,some (.slice e)=>Nat.beq (P.cellsOf e) t.size&&Nat.ble 1 t.size&&ZM P d e t
  | .pair a b,some (.struct fs)=>Nat.beq (P.cellsOf T) (Ty.pair a b).size&&jbf P (ZM P d) fs.toList 0 (.pair a b)
  |_,_=>false
section
variable {P:Program} {K:Type} {enc:TypeId×Value->K} {w:World}
theorem jbg (d:DataW K):1<=Rows.uptoBulk d:=by
 cases d with
 |lit l=>cases l<;>simp[Rows.uptoBulk]
 |_=>simp[Rows.uptoBulk]
theorem J5 (l:List (DataW K)):l.length<=Rows.uptoBulkAll l:=by
 induction l with
 |nil=>simp[Rows.uptoBulkAll]
 |cons x r a=>have:=jbg x;simp only[Rows.uptoBulkAll,jX];omega
theorem ZN {d:DataW K} {l:List (DataW K)} (h:d∈l):Rows.uptoBulk d<=Rows.uptoBulkAll l:=by
 induction l with
 |nil=>cases h
 |cons x r a=>
  simp only[Rows.uptoBulkAll];cases jj.1 h with
  |inl e=>subst e;omega
  |inr e=>have:=a e;omega
theorem Ul {α:Type} {Q:Nat->α->Prop}:∀(n:Nat),(∀i,i<n->∃y,Q i y)->∃l:List α,l.length=n/\∀i y,l[i]? =some y->Q i y
 |0,_=>⟨[],rfl,fun i y h=>by simp at h⟩
 |n+1,h=>by
  obtain⟨l,b,c⟩:=Ul n (fun i hi=>h i (by omega))
  obtain⟨y,d⟩:=h n (by omega)
  refine⟨l++[y],by simp[b],fun i z a=> ?_⟩
  by_cases hi:i<l.length
  rw[jz hi] at a;exact c i z a
  rw[jx (by omega)] at a
  have:i=n:=by
   by_cases e:i-l.length=0;omega;obtain⟨k,hk⟩:∃k,i-l.length=k+1:=⟨i-l.length-1,by omega⟩;rw[hk] at a;simp at a
  subst this;rw[<-b] at a;simp at a;subst a;exact d
def jbh (P:Program) (w:World) (enc:TypeId×Value->K) (T:Nat) (ty:Ty):Prop:=
 ∀(a:Nat) (cs:List Value) (x:DataW K×List MemPlace),DataW.trod enc P w 0 (fun _=>true) true a T cs=some x->Rows.uptoBulk x.1<=1048576->
  ∃d:ty.Data,ty.rd (Hof w) (fun i=>cs[i]?) d/\cs.length=ty.size/\ty.fits (Rows.uptoBulk x.1) d
theorem jbi {n:Int} (h:(Lit.int .i64 n).wf=true):kK n:=by
 simp[Lit.wf,IntKind.min,IntKind.max,IntKind.signed,IntKind.bits] at h;exact h
theorem uC {go:Nat->Ty->Bool} (c:∀T ty,go T ty=true->jbh P w enc T ty) {n:Nat} {cs:List Value}:
 ∀(fs:List Field) (off:Nat) (ty:Ty) (xs:List (DataW K×List MemPlace)),jbf P go fs off ty=true->xs.length=fs.length->
  (∀(i:Nat) (f:Field),fs[i]? =some f->DataW.trod enc P w 0 (fun _=>true) true n f.type ((cs.drop f.offset).take (P.cellsOf f.type))=xs[i]?)->Rows.uptoBulkAll (xs.map (·.1))<=1048576->
  ∃d:ty.Data,ty.rd (Hof w) (fun i=>cs[off+i]?) d/\ty.fits (Rows.uptoBulkAll (xs.map (·.1))) d
 |[],off,ty,xs,h,g,e,j=>by
  cases ty<;>simp[jbf] at h
  exact⟨(),trivial,trivial⟩
 |f::fs,off,ty,[],h,g,e,j=>by simp at g
 |f::fs,off,ty,x::xs,h,g,e,j=>by
  cases ty<;>simp[jbf] at h
  rename_i a b
  obtain⟨⟨⟨q,v⟩,r⟩,s⟩:=h
  simp only[zu,Rows.uptoBulkAll] at j
  have k:=e 0 f (by simp)
  simp only[List.getElem?_cons_zero] at k
  obtain⟨d,t,y,u⟩:=c _ _ r _ _ _ k (by omega)
  obtain⟨l,o,p⟩:=uC c fs (off+a.size) b xs s (by simpa using g) (fun i m hi=>by simpa using e (i+1) m (by simpa using hi)) (by omega)
  refine⟨(d,l),⟨?_,?_⟩,?_,?_⟩
  refine Ty.rd_congr a _ _ _ (fun i hi=> ?_) t
  rw[jP (by omega),zc,q]
  refine Ty.rd_congr b _ _ _ (fun i hi=> ?_) o
  rw[zL]
  exact a.fits_mono (by simp[Rows.uptoBulkAll]) _ u
  exact b.fits_mono (by simp[Rows.uptoBulkAll]) _ p
theorem oZ:∀(d T:Nat) (ty:Ty),ZM P d T ty=true->jbh P w enc T ty
 |0,_,_,h=>by cases h
 |d+1,T,ty,h=>by
  intro fuel cs x B r
  unfold ZM at h
  split at h
  rename_i u
  obtain⟨n,rfl,rfl,H⟩:=DataW.trod_int u B
  exact⟨n,rfl,rfl,jbi H⟩
  rename_i u
  obtain⟨b,rfl,rfl⟩:=DataW.trod_bool u B
  exact⟨b,rfl,rfl,trivial⟩
  rename_i k k' u
  obtain⟨n,rfl,rfl,H⟩:=DataW.trod_int u B
  have:k=k':=by simpa[eZ] using h
  subst this
  refine⟨n,rfl,rfl,?_⟩
  simp[Lit.wf] at H
  exact H
  rename_i t e u
  simp only[ji] at h
  obtain⟨⟨L,M⟩,h3⟩:=h
  have e1:=ja L
  have e2:=jy M
  rcases DataW.trod_slice u B with⟨rfl,rfl⟩|⟨a,len,J,aW,rest,n,_,rfl,rfl,hb,hl,hm,A,D,_,_⟩
  refine⟨[],⟨none,0,0,rfl,rfl,jk _,by simp,fun _=>rfl,fun h=>absurd rfl h⟩,rfl,by simp,fun x B=>by simp at B⟩
  simp only[Rows.uptoBulk] at r
  have key:∀i,i<len->∃y:t.Data,(∃blk,Hof w a.block=some (.cells blk)/\a.spot=none/\t.rd (Hof w) (fun j=>blk[a.off+i*t.size+j]?) y)/\t.fits (Rows.uptoBulkAll (aW.map (·.1))) y:=by
   intro i hi;have h0:=D i hi;have X:aW[i]? =some aW[i]:=jp (by omega);rw[X,Option.bind_eq_some_iff] at h0;obtain⟨cl,c1,c2⟩:=h0;have Q:Rows.uptoBulk aW[i].1<=Rows.uptoBulkAll (aW.map (·.1)):=ZN (jT.2 ⟨aW[i],List.getElem_mem _,rfl⟩);obtain⟨y,y1,y2,y3⟩:=oZ d e t h3 _ _ _ c2 (by omega);unfold World.cells? at c1;rw[jg (jw _),e1] at c1;have z:∀j,j<t.size->w.cell? ((a.add (i*t.size)).add j)=cl[j]? :=fun j O=>by
    have:=mapM_some_get c1 j j (by simp[O]);simpa using this
   have N:cl.length=t.size:=(by simpa using mapM_some_length c1);have I:=z 0 (by omega);have g:cl[0]?≠none:=(by rw[jp (by omega)];simp);rw[<-I] at g;have m:∃blk T G,w.heap[a.block]? =some (.cells blk T G):=by
    unfold World.cell? at g;have q:((a.add (i*t.size)).add 0).block=a.block:=by unfold Addr.add;simp;split<;>rfl
    rw[q] at g
    split at g
    rename_i c T G e;exact⟨c,T,G,e⟩;exact absurd rfl g
   obtain⟨blk,T',G,m⟩:=m;have p:((a.add (i*t.size)).add 0).spot=none:=by
    unfold World.cell? at g;have q:((a.add (i*t.size)).add 0).block=a.block:=by unfold Addr.add;simp;split<;>rfl
    rw[q,m] at g;simp only at g;cases R:((a.add (i*t.size)).add 0).spot with
    |none=>rfl
    |some s=>rw[R] at g;simp at g
   have hH:Hof w a.block=some (.cells blk):=(by unfold Hof;rw[m]);refine⟨y,⟨blk,hH,?_,?_⟩,t.fits_mono Q _ y3⟩
   --the first element shows that the address is plain
   have C:=D 0 (by omega);have W:aW[0]? =some aW[0]:=jp (by omega);rw[W,Option.bind_eq_some_iff] at C;obtain⟨K,F,_⟩:=C;unfold World.cells? at F;rw[jg (jw _),e1] at F;have v:=mapM_some_get F 0 0 (by rw[List.getElem?_range (by omega)]);have hl0:K.length=t.size:=(by simpa using mapM_some_length F);rw[jp (by omega)] at v;simp only[Nat.zero_mul] at v;have ea:(a.add 0).add 0=a:=(by unfold Addr.add;simp);rw[ea] at v;unfold World.cell? at v;rw[m] at v;simp only at v;cases R:a.spot with
   |none=>rfl
   |some s=>rw[R] at v;simp at v
   refine Ty.rd_congr t _ _ _ (fun j O=> ?_) y1;rw[<-z j O];unfold World.cell?;have q:((a.add (i*t.size)).add j).block=a.block:=by unfold Addr.add;split<;>split<;>rfl
   have E:((a.add (i*t.size)).add j).off=a.off+i*t.size+j:=by
    unfold Addr.add;split<;>split<;>simp_all
   have V:((a.add (i*t.size)).add j).spot=none:=by
    have S:(a.add (i*t.size)).spot=none:=by
     have:(a.add (i*t.size)).add 0=a.add (i*t.size):=(by simp[Addr.add]);rw[this] at p;exact p
    unfold Addr.add at S⊢
    split<;>split<;>simp_all
   rw[q,m,E,V];simp
  obtain⟨l,l1,l2⟩:=Ul len key;refine⟨l,⟨some a,len,J,rfl,l1.symm,hl,?_,(fun h=>by cases h),fun g=> ?_⟩,rfl,?_,?_⟩;have:=J5 (aW.map (·.1));simp at this;omega;have hz:0<l.length:=List.length_pos_iff.2 g;obtain⟨blk,q1,q2,_⟩:=(l2 0 l[0] (jp hz)).1;refine⟨a.block,a.off,blk,?_,q1,fun i y Z=> ?_⟩;rcases a with⟨b,o,s⟩;simp only at q2;subst q2;rfl;obtain⟨blk',q3,_,q4⟩:=(l2 i y Z).1;rw[q1] at q3;simp at q3;subst q3;exact q4;simp only[Rows.uptoBulk];have:=J5 (aW.map (·.1));simp at this;omega;intro y Z;obtain⟨i,hi⟩:=zS Z;exact t.fits_mono (by simp only[Rows.uptoBulk];omega) _ (l2 i y hi).2;rename_i a b fs u;simp only[ji] at h;obtain⟨L,M⟩:=h;obtain⟨xs,n,_,rfl,A,Y,hf⟩:=DataW.trod_struct u B;simp only[Rows.uptoBulk] at r;obtain⟨y,y1,y2⟩:=uC (fun T ty h=>oZ d T ty h) (n:=n) (cs:=cs) fs.toList 0 (.pair a b) xs M (by simpa using Y) (fun i f hi=>hf i f (by simpa using hi)) (by omega);refine⟨y,by simpa using y1,by rw[A];exact ja L,?_⟩;exact Ty.fits_mono (by simp only[Rows.uptoBulk];omega) (.pair a b) _ y2;cases h
end
end Go.X
namespace Go.X
open U
open Go.RowKit (Below)
open Go.ChangeShapes Go.WideShapes Go.ChangeAt Go.RowKit
open Go.Proofs.YtjmbjgjcdklgdaaGreatDoor
def Hd (N:Nat):(ts:List Ty)->PD (ts.map Par.val)->Prop
 |[],_=>True
 |t::ts,d=>t.fits N d.1/\Hd N ts d.2
def Um (ts:List Ty):wd:=⟨ts.map Par.val,[.bool],false,fun d=>[Hd 1048576 ts d],fun _=>(true,())⟩
def uD (P:Program):List Nat->List Ty->Bool
 |[],[]=>true
 |T::Ts,t::ts=>ZM P 20 T t&&(P.readableRec T&&decide (T<P.types.size))&&uD P Ts ts
 |_,_=>false
section
variable {P:Program} {K:Type} {enc:TypeId×Value->K} {W W':World}
theorem rW (j:laidOutB P=true) (i:Below W.heap.size W W'):∀(a:List Nat) (ts:List Ty) (vs:List Value) (ds:List (DataW K)) (ps:List MemPlace),uD P a ts=true->
 DataW.TrodAll enc P W 0 (fun _=>true) true a vs ds ps->(∀x∈ps,x.block<W.heap.size)->DataW.TrodAll enc P W' 0 (fun b=>decide (b<W.heap.size)) true a vs ds ps
 |[],ts,vs,ds,ps,_,h,_=>by
  obtain⟨rfl,rfl,rfl⟩:=trodAll_nil h
  exact trodAll_mk0
 |T::a,[],vs,ds,ps,c,_,_=>by cases c
 |T::a,t::ts,vs,ds,ps,c,h,hlt=>by
  obtain⟨v,g,d,e,p,q,rfl,rfl,rfl,n,o⟩:=trodAll_cons h
  simp only[uD,ji] at c
  obtain⟨⟨_,k,l⟩,m⟩:=c
  exact trodAll_cons_mk (Below.trod j k (jb l) n i (fun x f=>hlt x (jh _ f)))
   (rW j i a ts g e q m o (fun x f=>hlt x (je _ f)))
theorem ZO {T:Nat} {t:Ty} {r:Reach} {c:Nat} {v:Value} (h:ZM P 20 T t=true) (b:Value.okWide P W r c T v):q7 v=t.agg:=by
 unfold ZM at h
 split at h
 rename_i a;obtain⟨n,rfl⟩:=okWide_int a b;rfl;rename_i a;obtain⟨n,rfl⟩:=okWide_bool a b;rfl;rename_i a;obtain⟨n,rfl⟩:=okWide_int a b;rfl;rename_i a;unfold Value.okWide at b;rw[a] at b;simp only[Cell.okWide,a] at b;cases v with
 |agg vs=>simp[Cell.ok,a] at b
 |_=>rfl
 rename_i a;unfold Value.okWide at b;rw[a] at b;obtain⟨cs,rfl,_⟩:=b;rfl;cases h
theorem Yg {r:Reach} {l:Nat}:∀(a:List Nat) (ts:List Ty) (vs:List Value) (ds:List (DataW K)) (ps:List MemPlace),uD P a ts=true->
 DataW.TrodAll enc P W 0 (fun _=>true) true a vs ds ps->(∀(j:Nat) t v,a[j]? =some t->vs[j]? =some v->Value.okWide P W r l t v)->Rows.uptoBulkAll ds<=1048576->
 ∃d:PD (ts.map Par.val),pvs P (Hof W) (ts.map Par.val) vs d/\Hd 1048576 ts d
 |[],ts,vs,ds,ps,b,h,_,_=>by
  obtain⟨rfl,rfl,rfl⟩:=trodAll_nil h
  cases ts with
  |nil=>exact⟨(),rfl,trivial⟩
  |cons t ts=>cases b
 |T::a,[],vs,ds,ps,b,_,_,_=>by cases b
 |T::a,t::ts,vs,ds,ps,b,h,hv,hb=>by
  obtain⟨v,g,d,e,p,q,rfl,rfl,rfl,n,o⟩:=trodAll_cons h
  simp only[uD,ji] at b
  obtain⟨⟨k,_⟩,m⟩:=b
  simp only[Rows.uptoBulkAll] at hb
  obtain⟨c,s⟩:=n
  obtain⟨x,w,z,A⟩:=oZ 20 T t k c _ _ s (by simp only;omega)
  obtain⟨y,B,C⟩:=Yg a ts g e q m o (fun j t v u f=>hv (j+1) t v (by simpa using u) (by simpa using f)) (by omega)
  refine⟨(x,y),⟨⟨ZO k (hv 0 T v rfl rfl),by simpa using z,?_⟩,B⟩,Ty.fits_mono (by simp only;omega) t x A,C⟩
  refine Ty.rd_congr t _ _ _ (fun i _=> ?_) w
  simp
theorem o4:∀(a:List Nat) (ts:List Ty) (vs:List Value) (ds:List (DataW K)) (ps:List MemPlace),uD P a ts=true->DataW.TrodAll enc P W 0 (fun _=>true) true a vs ds ps->ds.length=ts.length:=by
 intro a
 induction a with
 |nil=>intro ts vs ds ps b h;obtain⟨rfl,rfl,rfl⟩:=trodAll_nil h;cases ts with|nil=>rfl|cons=>cases b
 |cons T a g=>intro ts vs ds ps b h;cases ts with
  |nil=>cases b
  |cons t ts=>
   obtain⟨v,e,d,c,p,q,rfl,rfl,rfl,i,f⟩:=trodAll_cons h;simp only[uD,ji] at b;simp[g ts e c q b.2 f]
theorem Yh {f:Nat} {fn:Func} {s:ChangeSpec} {ts:List Ty} (I:laidOutB P=true) (k:uD P fn.params.toList ts=true) (L:fn.resultTypes= #[4]) (D:P.underlying 4=some .bool)
 (a:s.vars=[]) (m:∀(ds:List (DataW K)),ds.length=ts.length->s.fn K (ds++[])={results:=[.lit (.bool true)],args:=ds})
 (G:wm P f (Um ts)) (base:Nat) (args:Array Value) (ds o:List (DataW K)) (before:List MemPlace)
 (l:∀(j:Nat) t v,fn.params[j]? =some t->args[j]? =some v->Value.okWide P W .any base t v)
 (w:DataW.Whole enc P fn.params.toList s.vars false W args.toList ds o before) (hk:Rows.uptoSmall K (ds++o)=true) (E:YG (Hof W)):
 Calls P f args W fun e W'=>∃v,e= .returned v/\s.post enc P fn false true false false W args v W':=by
 have b:=w;obtain⟨p,q,i,u,rfl,H,J⟩:=w;rw[a] at u;obtain⟨rfl,rfl⟩:=trodVars_none u;simp only[j7] at b hk;have c:Rows.uptoBulkAll ds<=1048576:=jb hk;have g:∀(j:Nat) t v,fn.params.toList[j]? =some t->args.toList[j]? =some v->Value.okWide P W .any base t v:=fun j t v B C=>l j t v (by simpa using B) (by simpa using C)
 obtain⟨d,z,A⟩:=Yg fn.params.toList ts args.toList ds p k i g c;have y:=G.calls (Hof W) W args.toList d (WX W E) z ⟨A,trivial⟩;simp only[Array.toArray_toList] at y;refine y.mono fun e W' F=> ?_
 obtain⟨v,H',rfl,r,M⟩:=F;have n:v= .bool true:=qe M;subst n;refine⟨_,rfl,ds,[],p,[],p,[],b,?_,?_,?_,r.below.frame _,fun h=>by cases h⟩;rw[m ds ?_,L];exact trodAll_cons_mk (shut_bool D _) trodAll_mk0;exact o4 _ _ _ _ _ k i;rw[m ds ?_];exact rW I r.below _ ts _ _ _ k i (fun x N=>by simpa using b.lt x N);exact o4 _ _ _ _ _ k i;rw[a,m ds ?_];rfl;exact o4 _ _ _ _ _ k i
end
end Go.X
namespace Go.X
open U
open Go.Proofs
namespace U
def jcH (p:PeD):Prop:=(lv p).length<=20/\(yH p).length<=30
def HV (c:CrD):Prop:=(kB c).length<=20/\(vP c).length<=20/\∀p∈kB c,jcH p
def Dm (d:DyD):Prop:=HV (kE d)/\(wh d).length<=20/\(kA d).length<=20/\(qh d).length<=60/\∀r∈wh d,r.length<=20
def KL (p:PeD):Bool:=decide (20<((lv p).length:Int))||decide (30<((yH p).length:Int))
def iI (c:CrD):Bool:=(decide (20<((kB c).length:Int))||decide (20<((vP c).length:Int)))||((kB c).any KL||(kR c&&decide (5<((kB c).length:Int))))
def KM (r:List SpD):Bool:=decide (20<(r.length:Int))
def bK (d:DyD):Bool:=(((iI (kE d)||decide (20<((wh d).length:Int)))||decide (20<((kA d).length:Int)))||decide (60<((qh d).length:Int)))||(wh d).any KM
def HW (d:DyD):Bool:=bK d||(decide (dW d=0)&&decide (12<((qh d).length:Int)))
def jc2:CrD:=(3,[([5,4,0],3,15,[],false,50,()),([0,5,3],3,15,[],true,40,()),([4,0,4],1,3,[7],false,30,()),([3,3,3],255,1,[],false,10,())],[(2,1,false,()),(4,2,false,()),(3,2,true,()),(5,1,false,())],())
def Vz:List JbD:=[(0,2,7,1,2,1,()),(0,2,3,0,0,1,()),(0,2,7,1,1,1,())]
def jc3:DyD:=(jc2,[[(0,0,()),(10,20,())],[(10,25,()),(0,0,())]],[((0,2,3,0,0,1,()),0,60,120,()),((0,2,3,1,0,1,()),1,150,200,()),((0,2,7,1,2,1,()),0,230,300,())],10,140,
 [(1,5,1,0,3,()),(2,6,1,1,3,()),(3,4,1,2,2,()),(4,7,1,2,0,()),(5,8,1,2,1,()),(6,9,1,0,2,()),(7,10,2,0,2,())],())
end U
def Qx:wd:=⟨[.val tCr],[tCr],false,fun d=>[HV d.1],fun d=>(d.1,())⟩
def Qy:Ann:=fun r=>match r with
 |3=>some fun σ=>{X:=Nat,sl:=fun i=>[(4,.dat .int (i:Int))],ob:=fun i=>[(3,some (.box 25 false ((bx σ 3).set 1 (.own (ew 3 1) tPe)))),(ew 3 1,some (.row 138 tPe false .yes ((kB (gb tCr σ 1)).take i)))],inv:=fun i=>i<=(kB (gb tCr σ 1)).length,mu:=fun i=>(kB (gb tCr σ 1)).length-i}
 |_=>none
abbrev jdR (d:CrD×Unit)(x:Nat):=(nth d.1.2.1 (x:Int).toNat)
def Qz:Prop:=∀(d:CrD×Unit),HV d.1->(0+d.1.2.2.1.length)*24<=140737488355328/\(∃(x:Nat),((0=(x:Int)/\True)/\(d.1.1=d.1.1/\True/\True/\True)/\List.take x (kB d.1)=[]/\True)/\x<=(kB d.1).length)/\∀(x:Nat),x<=(kB d.1).length->d.1.2.1.length<4611686018427387904->(decide ((x:Int)<d.1.2.1.length)=true->0<=(x:Int)/\(x:Int)<d.1.2.1.length/\(0+(jdR d x).1.length)*8<=140737488355328/\(0+(jdR d x).2.2.2.1.length)*8<=140737488355328/\((List.take x (kB d.1)).length+[([]++(jdR d x).1,(jdR d x).2.1,(jdR d x).2.2.1,[]++(jdR d x).2.2.2.1,(jdR d x).q4)].length)*80<=140737488355328/\kK ((x:Int)+1)/\∃(a:Nat),(((x:Int)+1=(a:Int)/\True)/\(d.1.1=d.1.1/\True/\True/\True)/\List.take x (kB d.1)++[([]++(jdR d x).1,(jdR d x).2.1,(jdR d x).2.2.1,[]++(jdR d x).2.2.2.1,(jdR d x).q4)]=List.take a (kB d.1)/\True)/\a<=(kB d.1).length/\(kB d.1).length-a<(kB d.1).length-x)/\(decide ((x:Int)<d.1.2.1.length)=false->((d.1.1,List.take x (kB d.1),[]++d.1.2.2.1,()),())=d)
def QA:wd:=⟨[.val tDy],[tDy],false,fun d=>[Dm d.1],fun d=>(d.1,())⟩
def QB:Ann:=fun r=>match r with
 |5=>some fun σ=>{X:=Nat,sl:=fun i=>[(4,.dat .int (i:Int))],ob:=fun i=>[(3,some (.box 30 false ((bx σ 3).set 3 (.own (ew 3 3) (.slice tSp))))),(ew 3 3,some (.row 109 (.slice tSp) false .yes ((wh (gb tDy σ 1)).take i)))],inv:=fun i=>i<=(wh (gb tDy σ 1)).length,mu:=fun i=>(wh (gb tDy σ 1)).length-i}
 |_=>none
abbrev jha (d:DyD×Unit):=(d.1.1.1=d.1.1.1/\d.1.1.2.1=d.1.1.2.1/\d.1.1.2.2.1=d.1.1.2.2.1/\True/\d.1.2.2.1=d.1.2.2.1/\d.1.2.2.2.1=d.1.2.2.2.1/\d.1.q4.1=d.1.q4.1/\d.1.q4.2.1=d.1.q4.2.1/\True)
def QC:Prop:=∀(d:DyD×Unit),Dm d.1->HV d.1.1/\(∃(x:Nat),((0=(x:Int)/\True)/\(jha d)/\List.take x (wh d.1)=[]/\True)/\x<=(wh d.1).length)/\∀(x:Nat),x<=(wh d.1).length->d.1.2.1.length<4611686018427387904->(decide ((x:Int)<d.1.2.1.length)=true->0<=(x:Int)/\(x:Int)<d.1.2.1.length/\(0+(nth d.1.2.1 (x:Int).toNat).length)*16<=140737488355328/\((List.take x (wh d.1)).length+[[]++nth d.1.2.1 (x:Int).toNat].length)*24<=140737488355328/\kK ((x:Int)+1)/\∃(a:Nat),(((x:Int)+1=(a:Int)/\True)/\(jha d)/\List.take x (wh d.1)++[[]++nth d.1.2.1 (x:Int).toNat]=List.take a (wh d.1)/\True)/\a<=(wh d.1).length/\(wh d.1).length-a<(wh d.1).length-x)/\(decide ((x:Int)<d.1.2.1.length)=false->(0+d.1.2.2.1.length)*72<=140737488355328/\(0+d.1.q4.2.1.length)*40<=140737488355328/\((d.1.1,List.take x (wh d.1),[]++d.1.2.2.1,d.1.2.2.2.1,d.1.q4.1,[]++d.1.q4.2.1,()),())=d)
def Un:wd:=⟨[.val tCr],[.bool],false,fun _=>[],fun d=>(iI d.1,())⟩
def Uo:Ann:=fun r=>match r with
 |4=>some fun σ=>{X:=Nat,sl:=fun i=>[(3,.dat .int (i:Int))],ob:=fun _=>[],inv:=fun i=>i<=(kB (gb tCr σ 1)).length/\∀j:Nat,j<i->KL (nth (kB (gb tCr σ 1)) j)=false,mu:=fun i=>(kB (gb tCr σ 1)).length-i}
 |_=>none
abbrev jfQ (d:CrD×Unit)(x:Nat):=((20:Int)<(nth d.1.2.1 (x:Int).toNat).1.length)
abbrev jeC (d:CrD×Unit):=(d.1.2.1.length:Int)
abbrev jhb (d:CrD×Unit)(x:Nat):=(decide (jfQ d x)||decide ((30:Int)<(nth d.1.2.1 (x:Int).toNat).2.2.2.1.length))
abbrev jhc (d:CrD×Unit):=(decide (20<(jeC d))||decide (20<(d.1.2.2.1.length:Int)))
def Up:Prop:=∀(d:CrD×Unit),d.1.2.1.length<4611686018427387904->((!decide (20<(jeC d)))=true->d.1.2.2.1.length<4611686018427387904)->((jhc d)=true->(true,())=(iI d.1,()))/\((jhc d)=false->(∃(x:Nat),((0=(x:Int)/\True)/\True)/\x<=(kB d.1).length/\∀(j:Nat),j<x->KL (nth (kB d.1) j)=false)/\∀(x:Nat),(x<=(kB d.1).length/\∀(j:Nat),j<x->KL (nth (kB d.1) j)=false)->d.1.2.1.length<4611686018427387904->(decide ((x:Int)<(jeC d))=true->0<=(x:Int)/\(x:Int)<(jeC d)/\((nth d.1.2.1 (x:Int).toNat).1.length<4611686018427387904->((!decide (jfQ d x))=true->0<=(x:Int))/\((!decide (jfQ d x))=true->(x:Int)<(jeC d))/\(((!decide (jfQ d x))=true->(nth d.1.2.1 (x:Int).toNat).2.2.2.1.length<4611686018427387904)->((jhb d x)=true->(true,())=(iI d.1,()))/\((jhb d x)=false->kK ((x:Int)+1)/\∃(a:Nat),(((x:Int)+1=(a:Int)/\True)/\True)/\(a<=(kB d.1).length/\∀(j:Nat),j<a->KL (nth (kB d.1) j)=false)/\(kB d.1).length-a<(kB d.1).length-x))))/\(decide ((x:Int)<(jeC d))=false->(kR d.1=true->d.1.2.1.length<4611686018427387904)->(kR d.1&&decide (5<(jeC d)),())=(iI d.1,())))
def QD:wd:=⟨[.val tDy],[.bool],false,fun _=>[],fun d=>(bK d.1,())⟩
def QE:Ann:=fun r=>match r with
 |4=>some fun σ=>{X:=Nat,sl:=fun i=>[(3,.dat .int (i:Int))],ob:=fun _=>[],inv:=fun i=>i<=(wh (gb tDy σ 1)).length/\∀j:Nat,j<i->KM (nth (wh (gb tDy σ 1)) j)=false,mu:=fun i=>(wh (gb tDy σ 1)).length-i}
 |_=>none
abbrev jeX (d:DyD×Unit):=(d.1.2.1.length:Int)
abbrev jhd (d:DyD×Unit):=(iI d.1.1||decide (20<(jeX d))||decide (20<(d.1.2.2.1.length:Int))||decide (60<(d.1.q4.2.1.length:Int)))
def QF:Prop:=∀(d:DyD×Unit),((!iI d.1.1)=true->d.1.2.1.length<4611686018427387904)->((!(iI d.1.1||decide (20<(jeX d))))=true->d.1.2.2.1.length<4611686018427387904)->((!(iI d.1.1||decide (20<(jeX d))||decide (20<(d.1.2.2.1.length:Int))))=true->d.1.q4.2.1.length<4611686018427387904)->((jhd d)=true->(true,())=(bK d.1,()))/\((jhd d)=false->(∃(x:Nat),((0=(x:Int)/\True)/\True)/\x<=(wh d.1).length/\∀(j:Nat),j<x->KM (nth (wh d.1) j)=false)/\∀(x:Nat),(x<=(wh d.1).length/\∀(j:Nat),j<x->KM (nth (wh d.1) j)=false)->d.1.2.1.length<4611686018427387904->(decide ((x:Int)<(jeX d))=true->0<=(x:Int)/\(x:Int)<(jeX d)/\((nth d.1.2.1 (x:Int).toNat).length<4611686018427387904->(decide ((20:Int)<(nth d.1.2.1 (x:Int).toNat).length)=true->(true,())=(bK d.1,()))/\(decide ((20:Int)<(nth d.1.2.1 (x:Int).toNat).length)=false->kK ((x:Int)+1)/\∃(a:Nat),(((x:Int)+1=(a:Int)/\True)/\True)/\(a<=(wh d.1).length/\∀(j:Nat),j<a->KM (nth (wh d.1) j)=false)/\(wh d.1).length-a<(wh d.1).length-x)))/\(decide ((x:Int)<(jeX d))=false->(false,())=(bK d.1,())))
def Uq:wd:=⟨[.val tDy],[.bool],false,fun _=>[],fun d=>(HW d.1,())⟩
def Ur:Prop:=∀(d:DyD×Unit),((!bK d.1)=true->(kA d.1).length<=1000000)/\(((!bK d.1&&decide (dW d.1=0))=true->d.1.q4.2.1.length<4611686018427387904)->(bK d.1||decide (dW d.1=0)&&decide (12<(d.1.q4.2.1.length:Int)),())=(HW d.1,()))
def QG:wd:=⟨[.val .int,.val .int],[tSp],false,fun _=>[],fun d=>((d.1,d.2.1,()),())⟩
def QH:Prop:=∀(d:Int×Int×Unit),(d,())=(d,())
def He:wd:=⟨[],[tCr,.slice tJb],false,fun _=>[],fun _=>(jc2,Vz,())⟩
def Hf:Prop:=∀(_:Unit),(((3:Int),[([(5:Int),(4:Int),(0:Int)],(3:Int),(15:Int),[],false,(50:Int),()),([(0:Int),(5:Int),(3:Int)],(3:Int),(15:Int),[],true,(40:Int),()),([(4:Int),(0:Int),(4:Int)],(1:Int),(3:Int),[(7:Int)],false,(30:Int),()),([(3:Int),(3:Int),(3:Int)],(255:Int),(1:Int),[],false,(10:Int),())],[((2:Int),(1:Int),false,()),((4:Int),(2:Int),false,()),((3:Int),(2:Int),true,()),((5:Int),(1:Int),false,())],()),[((0:Int),(2:Int),(7:Int),(1:Int),(2:Int),(1:Int),()),((0:Int),(2:Int),(3:Int),(0:Int),(0:Int),(1:Int),()),((0:Int),(2:Int),(7:Int),(1:Int),(1:Int),(1:Int),())],())=(jc2,Vz,())
def Hg:wd:=⟨[],[tDy],false,fun _=>[],fun _=>(jc3,())⟩
abbrev jfR:=(nth Vz (Int.toNat 1))
def Hh:Prop:=∀(_:Unit),(0:Int)<=1/\1<(Vz.length:Int)/\(0:Int)<=1/\1<(Vz.length:Int)/\(0:Int)<=0/\0<(Vz.length:Int)/\((jc2,[[((0:Int),(0:Int),()),((10:Int),(20:Int),())],[((10:Int),(25:Int),()),((0:Int),(0:Int),())]],[(nth Vz (Int.toNat 1),(0:Int),(60:Int),(120:Int),()),((jfR.1,jfR.2.1,jfR.2.2.1,(1:Int),jfR.q4),(1:Int),(150:Int),(200:Int),()),(nth Vz (Int.toNat 0),(0:Int),(230:Int),(300:Int),())],(10:Int),(140:Int),[((1:Int),(5:Int),(1:Int),(0:Int),(3:Int),()),((2:Int),(6:Int),(1:Int),(1:Int),(3:Int),()),((3:Int),(4:Int),(1:Int),(2:Int),(2:Int),()),((4:Int),(7:Int),(1:Int),(2:Int),(0:Int),()),((5:Int),(8:Int),(1:Int),(2:Int),(1:Int),()),((6:Int),(9:Int),(1:Int),(0:Int),(2:Int),()),((7:Int),(10:Int),(2:Int),(0:Int),(2:Int),())],()),())=(jc3,())
theorem Us:Qz:=by
 unfold Qz jdR Prod.q4;rintro⟨c,⟨⟩⟩ g;obtain⟨m,j,a⟩:HV c:=g;refine⟨by show(0+(vP c).length)*24<=140737488355328;omega,⟨0,⟨⟨rfl,tZ⟩,⟨rfl,tZ,tZ,tZ⟩,rfl,tZ⟩,jw _⟩,fun x f _=>⟨fun h=> ?_,fun h=> ?_⟩⟩;have h:(x:Int)<(kB c).length:=jb h;have k:=L.wb (l:=kB c) (i:=x) (by omega);obtain⟨s1,s2⟩:=a _ (L.kx (l:=kB c) (i:=x) (by omega));have d:((kB c).take x).length<=20:=(by rw[j6];omega);refine⟨za _,h,by show(0+(U.lv (nth (kB c) x)).length)*8<=140737488355328;omega,by show(0+(yH (nth (kB c) x)).length)*8<=140737488355328;omega,by show(((kB c).take x).length+1)*80<=140737488355328;omega,iZ6,x+1,⟨⟨by simp,tZ⟩,⟨rfl,tZ,tZ,tZ⟩,k.symm,tZ⟩,by show x+1<=(kB c).length;omega,by show(kB c).length-(x+1)<(kB c).length-x;omega⟩;have h:¬(x:Int)<(kB c).length:=jd h;have f:x<=(kB c).length:=f;have b:x=(kB c).length:=(by omega);subst b;have e:(kB c).take (kB c).length=kB c:=zt;show((c.1,(kB c).take (kB c).length,c.2.2.1,()),())=(c,());rw[e];rfl
theorem QI:wm PR 53 Qx:=vd Qy Us Tryz.func53 kcN koN
theorem Ut:QC:=by
 unfold QC jha Prod.q4;rintro⟨d,⟨⟩⟩ g;obtain⟨k,o,j,n,a⟩:Dm d:=g;refine⟨k,⟨0,⟨⟨rfl,tZ⟩,⟨rfl,rfl,rfl,tZ,rfl,rfl,rfl,rfl,tZ⟩,rfl,tZ⟩,jw _⟩,fun x f _=>⟨fun h=> ?_,fun h=> ?_⟩⟩;have h:(x:Int)<(wh d).length:=jb h;have m:=L.wb (l:=wh d) (i:=x) (by omega);have p:=a _ (L.kx (l:=wh d) (i:=x) (by omega));have c:((wh d).take x).length<=20:=(by rw[j6];omega);refine⟨za _,h,by show(0+(nth (wh d) x).length)*16<=140737488355328;omega,by show(((wh d).take x).length+1)*24<=140737488355328;omega,iZ6,x+1,⟨⟨by simp,tZ⟩,⟨rfl,rfl,rfl,tZ,rfl,rfl,rfl,rfl,tZ⟩,m.symm,tZ⟩,by show x+1<=(wh d).length;omega,by show(wh d).length-(x+1)<(wh d).length-x;omega⟩;have h:¬(x:Int)<(wh d).length:=jd h;have f:x<=(wh d).length:=f;have b:x=(wh d).length:=(by omega);subst b;have e:(wh d).take (wh d).length=wh d:=zt;refine⟨by show(0+(kA d).length)*72<=140737488355328;omega,by show(0+(qh d).length)*40<=140737488355328;omega,?_⟩;show((kE d,(wh d).take (wh d).length,kA d,Rn d,jah d,qh d,()),())=(d,());rw[e];rfl
theorem QJ:wm PR 30 QA:=vd QB Ut Tryz.func30 (kcC QI kcN) koN
theorem WY:Up:=by
 unfold Up jhc jhb jeC jfQ;rintro⟨c,⟨⟩⟩ _ _;refine⟨fun h=> ?_,fun h=>⟨⟨0,⟨⟨rfl,tZ⟩,tZ⟩,jw _,fun j g=>by omega⟩,fun x f d=>⟨fun a=>⟨za _,jb a,fun _=>⟨fun _=>za _,fun _=>jb a,fun _=>⟨fun b=> ?_,fun b=> ?_⟩⟩⟩,fun a _=> ?_⟩⟩⟩;have h:(decide (20<((kB c).length:Int))||decide (20<((vP c).length:Int)))=true:=h;show(true,())=(iI c,());unfold iI;rw[h];rfl;have b:KL (nth (kB c) x)=true:=b;have a:(x:Int)<(kB c).length:=jb a;have:(kB c).any KL=true:=j9.2 ⟨_,L.kx (l:=kB c) (i:=x) (by omega),b⟩;show(true,())=(iI c,());unfold iI;rw[this,Bool.true_or,Bool.or_true];have b:KL (nth (kB c) x)=false:=b;have a:(x:Int)<(kB c).length:=jb a;have d:(kB c).length<4611686018427387904:=d;refine⟨iZ6,x+1,⟨⟨by simp,tZ⟩,tZ⟩,⟨by show x+1<=(kB c).length;omega,fun j g=> ?_⟩,by show(kB c).length-(x+1)<(kB c).length-x;omega⟩;by_cases e:j=x;subst e;exact b;exact f.2 j (by omega);have h:(decide (20<((kB c).length:Int))||decide (20<((vP c).length:Int)))=false:=h;have a:¬(x:Int)<(kB c).length:=jd a;have:(kB c).any KL=false:=zl.2 fun p k=>by
  obtain⟨i,hi,rfl⟩:=L.mem_iff.1 k;rw[f.2 i (by omega)];simp
 show(kR c&&decide (5<((kB c).length:Int)),())=(iI c,());unfold iI;rw[h,this,Bool.false_or,Bool.false_or]
theorem Uu:wm PR 114 Un:=vd Uo WY Tryz.func114 (kcC uB kcN) koN
theorem Uv:QF:=by
 unfold QF jhd jeX Prod.q4;rintro⟨d,⟨⟩⟩ _ _ _;refine⟨fun h=> ?_,fun h=>⟨⟨0,⟨⟨rfl,tZ⟩,tZ⟩,jw _,fun j g=>by omega⟩,fun x f c=>⟨fun a=>⟨za _,jb a,fun _=>⟨fun b=> ?_,fun b=> ?_⟩⟩,fun a=> ?_⟩⟩⟩;have h:(((iI (kE d)||decide (20<((wh d).length:Int)))||decide (20<((kA d).length:Int)))||decide (60<((qh d).length:Int)))=true:=h;show(true,())=(bK d,());unfold bK;rw[h];rfl;have b:KM (nth (wh d) x)=true:=b;have a:(x:Int)<(wh d).length:=jb a;have:(wh d).any KM=true:=j9.2 ⟨_,L.kx (l:=wh d) (i:=x) (by omega),b⟩;show(true,())=(bK d,());unfold bK;rw[this,Bool.or_true];have b:KM (nth (wh d) x)=false:=b;have a:(x:Int)<(wh d).length:=jb a;have c:(wh d).length<4611686018427387904:=c;refine⟨iZ6,x+1,⟨⟨by simp,tZ⟩,tZ⟩,⟨by show x+1<=(wh d).length;omega,fun j g=> ?_⟩,by show(wh d).length-(x+1)<(wh d).length-x;omega⟩;by_cases e:j=x;subst e;exact b;exact f.2 j (by omega);have h:(((iI (kE d)||decide (20<((wh d).length:Int)))||decide (20<((kA d).length:Int)))||decide (60<((qh d).length:Int)))=false:=h;have a:¬(x:Int)<(wh d).length:=jd a;have:(wh d).any KM=false:=zl.2 fun p k=>by
  obtain⟨i,hi,rfl⟩:=L.mem_iff.1 k;rw[f.2 i (by omega)];simp
 show(false,())=(bK d,());unfold bK;rw[h,this];rfl
theorem QK:wm PR 78 QD:=vd QE Uv Tryz.func78 (kcC Uu kcN) koN
theorem Uw {c:CrD} (h:iI c=false):HV c:=by
 unfold iI at h;rw[jM,jM,jM,jD] at h;have b:=jd h.1.2;refine⟨by have:=h.1.1;omega,by omega,fun p a=> ?_⟩;have:=zl.1 h.2.1 p a;unfold KL at this;rw[zm,decide_eq_true_iff,decide_eq_true_iff] at this;unfold jcH;omega
theorem Fx {d:DyD} (h:bK d=false):Dm d:=by
 unfold bK at h;rw[jM,jM,jM,jM] at h;obtain⟨⟨⟨⟨e,a⟩,b⟩,c⟩,f⟩:=h;have a:=jd a;have b:=jd b;have c:=jd c;refine⟨Uw e,by omega,by omega,by omega,fun r g=> ?_⟩;have:=zl.1 f r g;unfold KM at this;rw[decide_eq_true_iff] at this;omega
theorem WZ:Ur:=by
 unfold Ur Prod.q4;rintro⟨d,⟨⟩⟩;refine⟨fun h=> ?_,fun _=>rfl⟩;have h:(!bK d)=true:=h;rw[jI] at h;have:=(Fx h).2.2.1;show(kA d).length<=1000000;omega
theorem Ux:wm PR 51 Uq:=kZ WZ Tryz.func51 (kcC QK (kcC CB kcN)) koN
theorem Uy:QH:=fun _=>rfl
theorem QL:wm PR 80 QG:=kZ Uy Tryz.func80 kcN koN
theorem J6:Hf:=fun _=>rfl
theorem Hi:wm PR 79 He:=kZ J6 Tryz.func79 kcN koN
theorem J7:Hh:=by
 unfold Hh jfR Prod.q4;intro _;refine⟨by decide,by decide,by decide,by decide,by decide,by decide,rfl⟩
theorem Hj:wm PR 52 Hg:=kZ J7 Tryz.func52 (kcC Hi (kcC QL kcN)) koN
theorem W0 {d:DyD} (h:HW d=false):Dm d:=by
 unfold HW at h;rw[jM] at h;exact Fx h.1
end Go.X
namespace Go.X
open U
open Go.Proofs
section
attribute [local irreducible] Dl f7 U.on KY
end
section
attribute [local irreducible] KY
end
section
attribute [local irreducible] dW KY
end
end Go.X

namespace Go.X
open U
section
attribute [local irreducible] Dl Ez f7
end
section
attribute [local irreducible] Dl Ez f7
end
end Go.X
namespace Go.X
open U
open Go.Proofs
end Go.X




namespace Go.X
open U
abbrev tNo:Ty:= .st [.int,.int]
abbrev tTa:Ty:= .st [.int,.int,.int,.int,.int,.int,.int,.int,.slice .int,.slice tNo]
abbrev tCa:Ty:= .st [.int,.int,.int]
abbrev tLg:Ty:= .st [tDy,.slice .int,.slice .int,tTa,.slice tCa]
abbrev tLn:Ty:= .st [.int,.int,.int,.int,.int,.int]
abbrev tBl:Ty:= .st [tBk,tTa,.int,.int,.slice .int,.int,.int,.bool,.int]
abbrev tBo:Ty:= .st [tLg,.map .int (.ptr tBl)]
abbrev NoD:Type:=Int×Int×Unit
abbrev TaD:Type:=Int×Int×Int×Int×Int×Int×Int×Int×List Int×List NoD×Unit
abbrev CaD:Type:=Int×Int×Int×Unit
abbrev LgD:Type:=DyD×List Int×List Int×TaD×List CaD×Unit
abbrev LnD:Type:=Int×Int×Int×Int×Int×Int×Unit
abbrev BlD:Type:=BkD×TaD×Int×Int×List Int×Int×Int×Bool×Int×Unit
abbrev XbD:Type:=Int×Int×Int×Int×Int×Int×Int×Int×Int×Int×Int×Int×Int×Int×Int×Int×Int×List Int×List (Int×Int×Unit)×Int×Int×List Int×Int×Int×Bool×Int×Unit
abbrev BoD:Type:=LgD×List (Int×Option BlD)×Unit
namespace U
def VA (n:NoD):Int:=n.1
def tY (n:NoD):Int:=n.2.1
def Rq (t:TaD):Int:=t.1
def jam (t:TaD):Int:=t.2.1
def jan (t:TaD):Int:=t.2.2.1
def VB (t:TaD):Int:=t.2.2.2.1
def Yo (t:TaD):Int:=t.2.2.2.2.1
def O5 (t:TaD):Int:=t.2.2.2.2.2.1
def Yp (t:TaD):Int:=t.2.2.2.2.2.2.1
def Rr (t:TaD):Int:=t.2.2.2.2.2.2.2.1
def aF (t:TaD):List Int:=t.2.2.2.2.2.2.2.2.1
def qT (t:TaD):List NoD:=t.2.2.2.2.2.2.2.2.2.1
def RI (c:CaD):Int:=c.1
def yo (c:CaD):Int:=c.2.1
def aV (c:CaD):Int:=c.2.2.1
def kD (l:LgD):DyD:=l.1
def yw (l:LgD):List Int:=l.2.1
def uH (l:LgD):List Int:=l.2.2.1
def yt (l:LgD):TaD:=l.2.2.2.1
def wi (l:LgD):List CaD:=l.2.2.2.2.1
def pi (l:LnD):Int:=l.1
def yB (l:LnD):Int:=l.2.1
def jcI (l:LnD):Int:=l.2.2.1
def jcJ (l:LnD):Int:=l.2.2.2.1
def jcK (l:LnD):Int:=l.2.2.2.2.1
def bY (l:LnD):Int:=l.2.2.2.2.2.1
def qi (b:BlD):BkD:=b.1
def yC (b:BlD):TaD:=b.2.1
def ND (b:BlD):Int:=b.2.2.1
def NE (b:BlD):Int:=b.2.2.2.1
def qL (b:BlD):List Int:=b.2.2.2.2.1
def pj (b:BlD):Int:=b.2.2.2.2.2.1
def EB (b:BlD):Int:=b.2.2.2.2.2.2.1
def sF (b:BlD):Bool:=b.2.2.2.2.2.2.2.1
def pk (b:BlD):Int:=b.2.2.2.2.2.2.2.2.1
def bL (o:BoD):LgD:=o.1
def NF (o:BoD):List (Int×Option BlD):=o.2.1
def share (n:Int):Bool:=kk n 0 100
def HX (last:Int) (n:NoD):Bool:=kk (VA n) 0 (last-1)&&share (tY n)
def uI:Int->List NoD->Bool
 |_,[]=>true
 |last,n::r=>HX last n&&uI (VA n) r
def qZ (t:TaD):Bool:=(kk (Rq t) 1 240&&kk (jam t) 0 10000&&kk (jan t) 0 20&&kk (VB t) 0 1440&&kk (Yo t) 0 (VB t)&&share (O5 t)&&kk (Yp t) 0 10000)&&
 (decide ((aF t).length=4)&&(aF t).all share&&kk (Rr t) 0 1000000&&decide ((qT t).length<=4)&&uI 100001 (qT t))
def m9 (n:Nat) (c:CaD):Bool:=(kk (RI c) 0 99&&kk (yo c) 0 ((n:Int)-1))&&kk (aV c) (-100000) 1440
def KN (n:Int):Bool:=kk n 0 20
def uJ (n:Int):Bool:=kk n 0 300
def bZ (l:LgD):Bool:=((decide ((yw l).length=(kA (kD l)).length)&&(yw l).all KN)&&(decide ((uH l).length=(kA (kD l)).length)&&(uH l).all uJ))&&
 (qZ (yt l)&&(decide ((wi l).length<=10)&&(wi l).all (m9 (kA (kD l)).length)))
def ar (l:List CaD) (i:Nat):Bool:=(l.take i).any (fun x=>decide (RI x=RI (nth l i))&& !decide (x=nth l i))
def Dn (l:List CaD) (n:Nat):Bool:=(List.range n).any (ar l)
def bM (l:List CaD):Bool:=Dn l l.length
def kY (l:LgD):Int:=if wn (kD l)≠0 then wn (kD l) else if bZ l=false then 70 else if bM (wi l)=true then 71 else 0
def up (a b:Int):Int:=(a+b-1).tdiv b
def vX (m:Int) (b:BlD):BlD:=if m<=w8 (qi b)/\(sF b=false\/m<pk b) then(qi b,yC b,ND b,NE b,qL b,pj b,EB b,true,m,()) else b
def yx (b:BlD):Int:=max 0 (fK (qi b)-max (w8 (qi b)) (VB (yC b)))+max 0 (min (fK (qi b)) (Yo (yC b))-w8 (qi b))
def lY (b:BlD):Int:=(qL b).length*jam (yC b)*max (jan (yC b)) (up (fK (qi b)-w8 (qi b)) (Rq (yC b)))
def aG (b:BlD):Int:=lY b+up (lY b*O5 (yC b)*yx b) (100*(fK (qi b)-w8 (qi b)))
def bN (a:Int) (b:BlD):Int:=(qL b).length*Yp (yC b)*a
def chargeB (a:Int) (b:BlD):BlD:=(qi b,yC b,ND b,NE b,qL b,aG b,bN a b,sF b,pk b,())
def d6 (b:BlD) (n:NoD):Bool:=decide (VA n<=w8 (qi b)-pk b)
def Rs (b:BlD):Int:=vV (d6 b) (qT (yC b))
def qo (b:BlD):Int:=if sF b=true/\0<=Rs b then up (pj b*tY (nth (qT (yC b)) (Rs b).toNat)) 100 else pj b
def qM (b:BlD):Int:=if sF b=true then 0 else EB b
def nG (b:BlD):Int:=min (Rr (yC b)) (((qo b+qM b)*nth (aF (yC b)) (iH (yQ (qi b))).toNat).tdiv 100)
def wX (b:BlD):LnD:=(NE b,ND b,qo b,qM b,nG b,qo b+qM b-nG b,())
def yp (m:Int) (b:BlD):Int:=bY (wX (vX m b))
def EC (b:BlD):Prop:=qZ (yC b)=true/\0<=w8 (qi b)/\w8 (qi b)<fK (qi b)/\fK (qi b)<=1440/\0<=iH (yQ (qi b))/\iH (yQ (qi b))<=3/\(qL b).length<=8/\-100000<=pk b/\pk b<=1440
def pd (b:BlD):Prop:=EC b/\0<=pj b/\pj b<=100000000000000/\0<=EB b/\EB b<=1000000000
def sy (t:Int) (n:Nat):List Int:=((List.range n).filter (fun(p:Nat)=>yI t (p:Int))).map (fun(p:Nat)=>(p:Int))
def sA (l:LgD) (n:Int) (tm:List Int):BlD:=(nth (kA (kD l)) n.toNat,yt l,n,nth (yw l) n.toNat,tm,0,0,false,0,())
def wM (l:LgD) (n:Int) (k:Nat):List Int:=sy (nth (d4 (kD l)) n.toNat) k
def aH (l:LgD) (n:Int):BlD:=chargeB (nth (uH l) n.toNat) (sA l n (wM l n (kB (kE (kD l))).length))
def ga (n:Int) (b:BlD) (c:CaD):BlD:=if yo c=n then vX (aV c) b else b
def kC (l:LgD) (n:Int) (k:Nat):BlD:=((wi l).take k).foldl (ga n) (aH l n)
def kT (l:LgD) (n:Int):BlD:=kC l n (wi l).length
def jao (l:LgD) (m:List (Int×Option BlD)) (n:Int):List (Int×Option BlD):=d9 .int n (some (kT l n)) m
def x8 (l:LgD) (k:Nat):List (Int×Option BlD):=((kl (kD l)).take k).foldl (jao l) []
def H5 (l:LgD):List (Int×Option BlD):=x8 l (kl (kD l)).length
def zDy:DyD:=((0,[],[],()),[],[],0,0,[],())
def zTa:TaD:=(0,0,0,0,0,0,0,0,[],[],())
def zLg:LgD:=(zDy,[],[],zTa,[],())
def jcL:BoD:=(zLg,[],())
def wo (l:LgD) (wl:Bool):Int:=if kY l≠0 then kY l else if wl=true then 0 else 1
def wv (l:LgD) (wl:Bool):BoD:=if wo l wl=0 then(l,H5 l,()) else jcL
def wT (o:BoD) (n:Int):Bool:=kk n 0 (((kA (kD (bL o))).length:Int)-1)
def qH (m:List (Int×Option BlD)):List LnD:=m.map (fun e=>match e.2 with|some b=>wX b|none=>default)
def t6 (a b:LnD):Int:=vW [bP (pi a) (pi b),bP (yB a) (yB b)]
def kU (o:BoD):List LnD:=ko (kr tLn fun x=>(t6 x.1 x.2.1,())) (qH (NF o))
def gn (l:List Int):Int:=l.foldl max (nth l 0)
def XD (t:List Int) (x:LnD):List Int:=t.set (pi x).toNat (nth t (pi x).toNat+bY x)
def gu (n:Nat) (l:List LnD) (k:Nat):List Int:=(l.take k).foldl XD (List.replicate n 0)
def Rt (o:BoD):List Int:=if(yw (bL o)).length=0 then[] else gu (gn (yw (bL o))+1).toNat (kU o) (kU o).length
def HY (a:Int) (tm:List Int) (out:List Int) (i:Nat):List Int:=out.set (nth tm i).toNat (nth out (nth tm i).toNat+a.tdiv tm.length+(if(i:Int)<a.tmod tm.length then 1 else 0))
def wu (a:Int) (tm out:List Int) (k:Nat):List Int:=(List.range k).foldl (HY a tm) out
def XE (a:Int) (b:BlD) (out:List Int):List Int:=wu a (qL b) out (qL b).length
def jap (n:Nat):Option BlD->List Int
 |some b=>XE (qM b) b (XE (qo b) b (List.replicate n 0))
 |none=>List.replicate n 0
def O6 (o:BoD) (n:Int):Option BlD:=kW none (kJ .int n (NF o))
def Ru (o:BoD) (n:Int):List Int:=jap (kB (kE (kD (bL o)))).length (O6 o n)
end U
theorem ON {a b A B:Int} (d:0<=a/\a<=A) (c:0<=b/\b<=B):0<=a*b/\a*b<=A*B:=
 ⟨z6 d.1 c.1,Int.mul_le_mul d.2 c.2 c.1 (by omega)⟩
theorem CG {x B:Int} (h:0<=x/\x<=B) (a:B<=9223372036854775807):kK x:=iZ6
theorem ZP {a b:Int} (c:0<=a) (d:0<b):U.up a b=(a+b-1)/b:=zM (by omega)
theorem J8 {a b:Int} (e:0<=a) (c:0<b):0<=U.up a b/\U.up a b<=a:=by
 rw[ZP e c];refine⟨Int.ediv_nonneg (by omega) (by omega),?_⟩;by_cases h:a=0;subst h;rw[Int.ediv_eq_zero_of_lt (by omega) (by omega)];omega;have g:0<=(a-1)*(b-1):=z6 (by omega) (by omega);have d:a+b-1<(a+1)*b:=by
  have f:(a+1)*b=a*b+b:=(by rw[Int.add_mul];omega);have e2:(a-1)*(b-1)=a*b-a-b+1:=(by rw[Int.sub_mul,Int.mul_sub];omega);omega
 have:=Int.ediv_lt_of_lt_mul c d;omega
theorem W2 {a b A:Int} (c:0<=a/\a<=A) (f:0<b):0<=a.tdiv b/\a.tdiv b<=A:=by
 rw[zM c.1];have d:=Int.ediv_nonneg c.1 (show 0<=b by omega);have e:=Int.ediv_le_self b c.1;exact⟨d,by omega⟩
theorem w6 {n a b:Int}:kk n a b=true↔a<=n/\n<=b:=by
 unfold kk;simp only[ji,js]
structure jbZ (t:TaD):Prop where
 un:1<=Rq t/\Rq t<=240
 rt:0<=jam t/\jam t<=10000
 le:0<=jan t/\jan t<=20
 dk:0<=VB t/\VB t<=1440
 dw:0<=Yo t/\Yo t<=VB t
 ni:0<=O5 t/\O5 t<=100
 mi:0<=Yp t/\Yp t<=10000
 sl:(aF t).length=4
 sb:∀n∈aF t,0<=n/\n<=100
 cp:0<=Rr t/\Rr t<=1000000
 nl:(qT t).length<=4
 no:uI 100001 (qT t)=true
theorem fF {t:TaD}:qZ t=true↔jbZ t:=by
 unfold qZ U.share;simp only[ji,w6,js,jY];constructor;rintro⟨⟨⟨⟨⟨⟨⟨d,e⟩,f⟩,g⟩,h⟩,i⟩,j⟩,⟨⟨⟨k,l⟩,a⟩,b⟩,c⟩;exact⟨d,e,f,g,h,i,j,k,l,a,b,c⟩;rintro⟨d,e,f,g,h,i,j,k,l,a,b,c⟩;exact⟨⟨⟨⟨⟨⟨⟨d,e⟩,f⟩,g⟩,h⟩,i⟩,j⟩,⟨⟨⟨k,l⟩,a⟩,b⟩,c⟩
theorem rX:∀{last:Int} {l:List NoD},uI last l=true->∀n∈l,(0<=VA n/\VA n<=last-1)/\0<=tY n/\tY n<=100
 |_,[],_,n,a=>by cases a
 |last,m::r,h,n,a=>by
  unfold uI HX U.share at h
  simp only[ji,w6] at h
  obtain⟨⟨b,c⟩,d⟩:=h
  rcases jj.1 a with rfl|a
  exact⟨b,c⟩
  have:=rX d n a
  exact⟨⟨this.1.1,by omega⟩,this.2⟩
structure CH (b:BlD):Prop where
 ta:jbZ (yC b)
 st:0<=w8 (qi b)
 en:w8 (qi b)<fK (qi b)
 e2:fK (qi b)<=1440
 kd:0<=iH (yQ (qi b))/\iH (yQ (qi b))<=3
 tm:(qL b).length<=8
 mi: -100000<=pk b/\pk b<=1440
theorem rY {b:BlD}:EC b↔CH b:=by
 unfold EC;rw[fF];exact⟨fun⟨a,c,d,e,f,g,h,i,j⟩=>⟨a,c,d,e,⟨f,g⟩,h,⟨i,j⟩⟩,fun⟨a,c,d,e,⟨f,g⟩,h,⟨i,j⟩⟩=>⟨a,c,d,e,f,g,h,i,j⟩⟩
theorem OO {b:BlD} (h:CH b):0<=yx b/\yx b<=2880:=by
 have:=h.st;have:=h.en;have:=h.e2;have:=h.ta.dk;have:=h.ta.dw;unfold yx;omega
theorem jbj {b:BlD} (h:CH b):0<=U.up (fK (qi b)-w8 (qi b)) (Rq (yC b))/\U.up (fK (qi b)-w8 (qi b)) (Rq (yC b))<=1440:=by
 have:=h.st;have:=h.en;have:=h.e2;have:=h.ta.un;have:=J8 (a:=fK (qi b)-w8 (qi b)) (b:=Rq (yC b)) (by omega) (by omega);omega
theorem jbk {b:BlD} (h:CH b):0<=((qL b).length:Int)*jam (yC b)/\((qL b).length:Int)*jam (yC b)<=80000:=
 ON (A:=8) (B:=10000) (by have:=h.tm;omega) h.ta.rt
theorem MX {b:BlD} (h:CH b):0<=lY b/\lY b<=115200000:=by
 have c:=jbj h;have d:=h.ta.le;have a:0<=max (jan (yC b)) (U.up (fK (qi b)-w8 (qi b)) (Rq (yC b)))/\max (jan (yC b)) (U.up (fK (qi b)-w8 (qi b)) (Rq (yC b)))<=1440:=(by omega);exact ON (jbk h) a
theorem jbl {b:BlD} (h:CH b):0<=lY b*O5 (yC b)/\lY b*O5 (yC b)<=11520000000:=ON (MX h) h.ta.ni
theorem Yi {b:BlD} (h:CH b):0<=lY b*O5 (yC b)*yx b/\lY b*O5 (yC b)*yx b<=33177600000000:=ON (jbl h) (OO h)
theorem jbm {b:BlD} (h:CH b):0<100*(fK (qi b)-w8 (qi b))/\100*(fK (qi b)-w8 (qi b))<=144000:=by
 have:=h.st;have:=h.en;have:=h.e2;omega
theorem jbn {b:BlD} (h:CH b):0<=U.up (lY b*O5 (yC b)*yx b) (100*(fK (qi b)-w8 (qi b)))/\U.up (lY b*O5 (yC b)*yx b) (100*(fK (qi b)-w8 (qi b)))<=33177600000000:=by
 have a:=Yi h;have:=J8 a.1 (jbm h).1;omega
theorem Uz {b:BlD} (h:CH b):0<=aG b/\aG b<=100000000000000:=by
 have a:=MX h;have c:=jbn h;unfold aG;omega
theorem jbo {b:BlD} (h:CH b):0<=((qL b).length:Int)*Yp (yC b)/\((qL b).length:Int)*Yp (yC b)<=80000:=
 ON (A:=8) (B:=10000) (by have:=h.tm;omega) h.ta.mi
theorem UA {b:BlD} {t:Int} (h:CH b) (a:0<=t/\t<=300):0<=bN t b/\bN t b<=24000000:=ON (jbo h) a
theorem CI {α:Type} [Inhabited α] {p:α->Bool} {l:List α} (h:0<=vV p l):(vV p l).toNat<l.length/\vV p l<(l.length:Int)/\p (nth l (vV p l).toNat)=true:=by
 unfold vV at h⊢;cases e:l.findIdx? p with
 |none=>rw[e] at h;exact absurd h (by decide)
 |some i=>
  obtain⟨a,b,_⟩:=zJ.1 e;simp only[ju];refine⟨a,by omega,?_⟩;rw[L.wG a];exact b
structure J9 (b:BlD):Prop where
 bl:CH b
 wk:0<=pj b/\pj b<=100000000000000
 tr:0<=EB b/\EB b<=1000000000
theorem aL {b:BlD}:pd b↔J9 b:=by
 unfold pd;rw[rY];exact⟨fun⟨a,c,d,e,f⟩=>⟨a,⟨c,d⟩,⟨e,f⟩⟩,fun⟨a,⟨c,d⟩,⟨e,f⟩⟩=>⟨a,c,d,e,f⟩⟩
theorem OP {b:BlD} (h:J9 b) {i:Nat} (hi:i<(qT (yC b)).length):0<=pj b*tY (nth (qT (yC b)) i)/\pj b*tY (nth (qT (yC b)) i)<=10000000000000000:=
 ON h.wk (rX h.bl.ta.no _ (L.kx hi)).2
theorem Hk {b:BlD} (h:J9 b):0<=qo b/\qo b<=10000000000000000:=by
 unfold qo
 split
 rename_i c;have a:=OP h (CI c.2).1;have:=J8 (b:=100) a.1 (by omega);have e:U.up (pj b*tY (nth (qT (yC b)) (Rs b).toNat)) 100<=pj b*tY (nth (qT (yC b)) (Rs b).toNat):=this.2;exact⟨this.1,Int.le_trans e a.2⟩;have:=h.wk;omega
theorem Hl {b:BlD} (h:J9 b):0<=qM b/\qM b<=1000000000:=by
 unfold qM;have:=h.tr
 split<;>omega
theorem UB {b:BlD} (h:CH b):(iH (yQ (qi b))).toNat<(aF (yC b)).length:=by
 have:=h.kd;have:=h.ta.sl;omega
theorem UC {b:BlD} (h:CH b):0<=nth (aF (yC b)) (iH (yQ (qi b))).toNat/\nth (aF (yC b)) (iH (yQ (qi b))).toNat<=100:=h.ta.sb _ (L.kx (UB h))
theorem MY {w t cp pc k:Int} {n:Nat} {R:Prop} (i:0<=w/\w<=10000000000000000) (h:0<=t/\t<=1000000000) (g:0<=cp/\cp<=1000000) (e:0<=pc/\pc<=100) (hk:0<=k) (d:k<(n:Int)) (c:R):
 kK (w+t)/\0<=k/\k<(n:Int)/\kK ((w+t)*pc)/\(100:Int)≠0/\kK (((w+t)*pc).tdiv 100)/\kK (w+t)/\kK (w+t-min cp (((w+t)*pc).tdiv 100))/\R:=by
 have a:0<=(w+t)*pc/\(w+t)*pc<=10000001000000000*100:=ON (by omega) e;have f:=W2 (b:=100) a (by omega);exact⟨iZ6,hk,d,iZ6,by decide,iZ6,iZ6,iZ6,c⟩
theorem W3 {b:BlD} {m:Int} (h:CH b) (a: -100000<=m/\m<=1440):CH (vX m b):=by
 unfold vX
 split
 exact⟨h.ta,h.st,h.en,h.e2,h.kd,h.tm,a⟩;exact h
theorem Hm {b:BlD} {m:Int} (h:J9 b) (a: -100000<=m/\m<=1440):J9 (vX m b):=by
 refine⟨W3 h.bl a,?_,?_⟩;unfold vX
 split
 exact h.wk;exact h.wk;unfold vX
 split
 exact h.tr;exact h.tr
theorem OQ {β:Type} (k:Int) (v:β):∀m:List (Int×β),k∉m.map (·.1)->d9 .int k v m=m++[(k,v)]
 |[],_=>rfl
 |e::r,h=>by
  have a:k≠e.1:=fun e2=>h (by rw[e2];simp)
  have b:k∉r.map (·.1):=fun d=>h (by simp only[zu];exact jo _ d)
  rw[M.mput_cons (kt:= .int),jc (fun c=>a (jb c)),OQ k v r b];rfl
theorem MZ (d:DyD) (n:Nat):(yP d n).Nodup:=by
 unfold yP;exact zU.2 ((List.nodup_range.filter _).imp fun h e=>h (by omega))
theorem mw (d:DyD):(kl d).Nodup:=by
 unfold kl
 split
 exact MZ d _;exact List.nodup_nil
theorem Hn {d:DyD} {n:Int} (h:n∈kl d):0<=n/\n<((kA d).length:Int):=by
 unfold kl at h
 split at h
 unfold yP at h;obtain⟨b,a,rfl⟩:=jT.1 h;have:=jC.1 (jQ.1 a).1;omega;cases h
theorem Ka {l:LgD} {k:Nat} (h:k<(kl (kD l)).length):x8 l (k+1)=jao l (x8 l k) (nth (kl (kD l)) k):=by
 unfold x8;rw[L.wb h,jU];rfl
theorem UD (l:LgD):∀k,k<=(kl (kD l)).length->x8 l k=((kl (kD l)).take k).map (fun n=>(n,some (kT l n)))
 |0,_=>rfl
 |k+1,hk=>by
  have a:k<(kl (kD l)).length:=by omega
  have d:=L.wb a
  have b:((kl (kD l)).take (k+1)).Nodup:=(mw _).sublist (List.take_sublist _ _)
  rw[d,zD] at b
  rw[Ka a,UD l k (by omega),d,zA]
  unfold jao
  refine OQ _ _ _ fun c=> ?_
  rw[List.map_map] at c
  obtain⟨x,f,e⟩:=jT.1 c
  have e:x=nth (kl (kD l)) k:=e
  exact b.2.2 x f _ (by simp) e
theorem CJ (l:LgD):H5 l=(kl (kD l)).map (fun n=>(n,some (kT l n))):=by
 unfold H5;rw[UD l _ (jk _),zt]
structure mz (l:LgD):Prop where
 cp:wn (kD l)=0
 crw:kR (kE (kD l))=true
 jbs:KF (kD l)=true
 dy:wL (kD l)=true
 py:(yw l).length=(kA (kD l)).length/\∀n∈yw l,0<=n/\n<=20
 tr:(uH l).length=(kA (kD l)).length/\∀n∈uH l,0<=n/\n<=300
 ta:jbZ (yt l)
 cl:(wi l).length<=10/\∀c∈wi l,(0<=RI c/\RI c<=99)/\(0<=yo c/\yo c<=((kA (kD l)).length:Int)-1)/\-100000<=aV c/\aV c<=1440
 cc:bM (wi l)=false
theorem QM {d:DyD} (h:wn d=0):kR (kE d)=true/\KF d=true/\wL d=true:=by
 unfold wn at h
 split at h
 rename_i a;exact absurd h a;rename_i a
 split at h
 cases h;rename_i b;have a:tX d=0:=jN.1 a;unfold tX at a
 split at a
 cases a;rename_i c
 split at a
 cases a;rename_i e;exact⟨by simpa using c,by simpa using e,by simpa using b⟩
theorem bB {l:LgD} (h:kY l=0):mz l:=by
 unfold kY at h
 split at h
 rename_i a;exact absurd h a;rename_i a;have a:wn (kD l)=0:=jN.1 a
 split at h
 cases h;rename_i b
 split at h
 cases h;rename_i d;have b:bZ l=true:=(by simpa using b);have d:bM (wi l)=false:=(by simpa using d);obtain⟨p,q,r⟩:=QM a;unfold bZ at b;simp only[ji,js,jY] at b;obtain⟨⟨⟨f,g⟩,i,j⟩,k,m,o⟩:=b;refine⟨a,p,q,r,⟨f,fun n e=>w6.1 (g n e)⟩,⟨i,fun n e=>w6.1 (j n e)⟩,fF.1 k,⟨m,fun c s=> ?_⟩,d⟩;have:=o c s;unfold m9 at this;simp only[ji,w6] at this;exact⟨this.1.1,this.1.2,this.2⟩
theorem rZ {l:LgD} (h:mz l) {n:Int} (e:0<=n/\n<((kA (kD l)).length:Int)):
 (0<=w8 (nth (kA (kD l)) n.toNat)/\w8 (nth (kA (kD l)) n.toNat)<fK (nth (kA (kD l)) n.toNat)/\fK (nth (kA (kD l)) n.toNat)<=1440)/\
 0<=iH (yQ (nth (kA (kD l)) n.toNat))/\iH (yQ (nth (kA (kD l)) n.toNat))<=3:=by
 have d:nth (kA (kD l)) n.toNat∈kA (kD l):=L.kx (by omega);have c:=h.dy;unfold wL at c;simp only[ji,jY] at c;have b:=c.2.2.1 _ d;unfold lS at b;have b:=jb b;have a:=h.jbs;unfold KF at a;have a:=jY.1 a _ d;unfold wV at a;have a:=jb a;exact⟨⟨b.2.2.1,b.2.2.2.1,b.2.2.2.2⟩,a.2.2.2.2.2.2.2.2.2.1,a.2.2.2.2.2.2.2.2.2.2.1⟩
theorem OR {l:LgD} (h:mz l) {n:Int} (e:0<=n/\n<((kA (kD l)).length:Int)) {tm:List Int} (f:tm.length<=8):CH (sA l n tm):=by
 obtain⟨⟨a,b,c⟩,d⟩:=rZ h e;exact⟨h.ta,a,b,c,d,f,by show-100000<=(0:Int)/\(0:Int)<=1440;omega⟩
theorem CK (t:Int) (n:Nat):(sy t n).length<=n/\∀p∈sy t n,0<=p/\p<(n:Int):=by
 unfold sy;refine⟨?_,fun p c=> ?_⟩;rw[zr];exact jE (z7 _ _) (by rw[zG];exact jk _);obtain⟨b,a,rfl⟩:=jT.1 c;have:=jC.1 (jQ.1 a).1;omega
theorem jb0 {l:LgD} (h:mz l):(kB (kE (kD l))).length<=8:=by
 have a:=h.crw;unfold kR at a;rw[ji] at a;exact(jb a.1).2.2.1
theorem Ho {l:LgD} (h:mz l) {n:Int} (d:0<=n/\n<((kA (kD l)).length:Int)):J9 (aH l n):=by
 have g:=jb0 h;have f:=(CK (nth (d4 (kD l)) n.toNat) (kB (kE (kD l))).length).1;have a:CH (sA l n (wM l n (kB (kE (kD l))).length)):=OR h d (by unfold wM;omega);have e:=h.tr.2 _ (L.kx (show n.toNat<(uH l).length by rw[h.tr.1];omega));have c:=Uz a;have b:=UA a e;exact⟨⟨a.ta,a.st,a.en,a.e2,a.kd,a.tm,a.mi⟩,c,⟨b.1,Int.le_trans b.2 (by decide)⟩⟩
theorem cv {l:LgD} {n:Int} {k:Nat} (h:k<(wi l).length):kC l n (k+1)=ga n (kC l n k) (nth (wi l) k):=by
 unfold kC;rw[L.wb h,jU];rfl
theorem Fy {l:LgD} (h:mz l) {n:Int} (a:0<=n/\n<((kA (kD l)).length:Int)):∀k,k<=(wi l).length->J9 (kC l n k)
 |0,_=>Ho h a
 |k+1,hk=>by
  rw[cv (by omega)]
  unfold ga
  have b:=Fy h a k (by omega)
  split
  exact Hm b (h.cl.2 _ (L.kx (show k<(wi l).length by omega))).2.2
  exact b
theorem Kb {l:LgD} (h:mz l) {n:Int} (a:0<=n/\n<((kA (kD l)).length:Int)):J9 (kT l n):=Fy h a _ (jk _)
theorem QN (m:Int) (b:BlD):qi (vX m b)=qi b/\yC (vX m b)=yC b/\ND (vX m b)=ND b/\NE (vX m b)=NE b/\qL (vX m b)=qL b/\pj (vX m b)=pj b/\EB (vX m b)=EB b:=by
 unfold vX
 split
 exact⟨rfl,rfl,rfl,rfl,rfl,rfl,rfl⟩;exact⟨rfl,rfl,rfl,rfl,rfl,rfl,rfl⟩
theorem qS (l:LgD) (n:Int):∀k,k<=(wi l).length->qi (kC l n k)=qi (aH l n)/\yC (kC l n k)=yC (aH l n)/\ND (kC l n k)=ND (aH l n)/\NE (kC l n k)=NE (aH l n)/\qL (kC l n k)=qL (aH l n)/\
 pj (kC l n k)=pj (aH l n)/\EB (kC l n k)=EB (aH l n)
 |0,_=>⟨rfl,rfl,rfl,rfl,rfl,rfl,rfl⟩
 |k+1,hk=>by
  rw[cv (by omega)]
  unfold ga
  have a:=qS l n k (by omega)
  split
  obtain⟨c1,c2,b,c,d,e,f⟩:=QN (aV (nth (wi l) k)) (kC l n k)
  rw[c1,c2,b,c,d,e,f];exact a
  exact a
open Go.Proofs
abbrev blS:Sh:= .box 98 [.dat .int,.dat .int,.dat .int,.dat .int,.dat .int,.dat .int,.dat .int,.dat .int,.dat .int,.dat .int,.dat .int,.dat .int,.dat .int,.dat .int,.dat .int,.dat .int,.dat .int,.dat (.slice .int),.dat (.slice tNo),.dat .int,.dat .int,.dat (.slice .int),.dat .int,.dat .int,.dat .bool,.dat .int]
def blX (x:Sh.D blS) (w t:Int) (c:Bool) (m:Int):Sh.D blS:=(x.1,x.2.1,x.2.2.1,x.2.2.2.1,x.q4.1,x.q4.2.1,x.q4.2.2.1,x.q4.2.2.2.1,x.q4.q4.1,x.q4.q4.2.1,x.q4.q4.2.2.1,x.q4.q4.2.2.2.1,x.q4.q4.q4.1,x.q4.q4.q4.2.1,x.q4.q4.q4.2.2.1,x.q4.q4.q4.2.2.2.1,x.q4.q4.q4.q4.1,x.q4.q4.q4.q4.2.1,x.q4.q4.q4.q4.2.2.1,x.q4.q4.q4.q4.2.2.2.1,x.q4.q4.q4.q4.q4.1,x.q4.q4.q4.q4.q4.2.1,w,t,c,m,())
namespace U
def qq (x:Sh.D blS):BlD:=
 (((x.1,x.2.1,x.2.2.1,x.2.2.2.1,x.q4.1,x.q4.2.1,()),x.q4.2.2.1,x.q4.2.2.2.1,x.q4.q4.1,()),
  (x.q4.q4.2.1,x.q4.q4.2.2.1,x.q4.q4.2.2.2.1,x.q4.q4.q4.1,x.q4.q4.q4.2.1,x.q4.q4.q4.2.2.1,x.q4.q4.q4.2.2.2.1,x.q4.q4.q4.q4.1,x.q4.q4.q4.q4.2.1,x.q4.q4.q4.q4.2.2.1,()),
  x.q4.q4.q4.q4.2.2.2.1,x.q4.q4.q4.q4.q4.1,x.q4.q4.q4.q4.q4.2.1,x.q4.q4.q4.q4.q4.2.2.1,x.q4.q4.q4.q4.q4.2.2.2.1,x.q4.q4.q4.q4.q4.q4.1,x.q4.q4.q4.q4.q4.q4.2.1,())
def Vn (m:Int) (b:BlD):Bool:=sF (vX m b)
def Vo (m:Int) (b:BlD):Int:=pk (vX m b)
def Vp (m:Int) (c:CaD):Bool:=(kk (RI c) 0 99&&kk (yo c) 0 (m-1))&&kk (aV c) (-100000) 1440
end U
def gG:wd:=⟨[.val .int,.val .int,.val .int],[.bool],false,fun _=>[],fun d=>(kk d.1 d.2.1 d.2.2.1,())⟩
def M0:Prop:=∀(d:CaD),(decide (d.2.1<=d.1)&&decide (d.1<=d.2.2.1),())=(kk d.1 d.2.1 d.2.2.1,())
def aU:wd:=⟨[.val .int],[.bool],false,fun _=>[],fun d=>(U.share d.1,())⟩
def QO:Prop:=∀(d:Int×Unit),(kk d.1 (0:Int) (100:Int),())=(U.share d.1,())
def iA:wd:=⟨[.val (.slice tNo),.fn [tNo] [.bool]],[.int],false,fun d=>[∀g∈d.1,kG (d.2.1.pre (g,()))],fun d=>(vV (km (α:=NoD) d.2.1.F) d.1,())⟩
def iB:Ann:=fun r=>match r with
 |2=>some fun σ=>{X:=Nat,sl:=fun i=>[(8,.dat .int (i:Int))],ob:=fun _=>[],inv:=fun i=>i<=(gd (.slice tNo) σ 0).length/\∀b:Nat,b<i->km (gfb tNo σ 1) (nth (gd (.slice tNo) σ 0) b)=false,mu:=fun i=>(gd (.slice tNo) σ 0).length-i}
 |_=>none
def iC:Prop:=∀(d:List (Int×Int×Unit)×FnD [tNo] [Ty.bool]×Unit),(∀(g:Int×Int×Unit),g∈d.1->kG (d.2.1.1 (g,())))->d.1.length<4611686018427387904->(∃(x:Nat),((0=(x:Int)/\True)/\True)/\x<=d.1.length/\∀(b:Nat),b<x->km d.2.1.2 (nth d.1 b)=false)/\∀(x:Nat),(x<=d.1.length/\∀(b:Nat),b<x->km d.2.1.2 (nth d.1 b)=false)->(decide ((x:Int)<d.1.length)=true->0<=(x:Int)/\(x:Int)<d.1.length/\asks (d.2.1.1 (nth d.1 x,())) (((d.2.1.2 (nth d.1 x,())).1=true->((x:Int),())=(vV (km d.2.1.2) d.1,()))/\((d.2.1.2 (nth d.1 x,())).1=false->kK ((x:Int)+1)/\∃(a:Nat),(((x:Int)+1=(a:Int)/\True)/\True)/\(a<=d.1.length/\∀(b:Nat),b<a->km d.2.1.2 (nth d.1 b)=false)/\d.1.length-a<d.1.length-x)))/\(decide ((x:Int)<d.1.length)=false->((-1:Int),())=(vV (km d.2.1.2) d.1,()))
def mV:wd:=⟨[.val (.slice tCa),.fn [tCa] [.bool]],[.int],false,fun d=>[∀g∈d.1,kG (d.2.1.pre (g,()))],fun d=>(vV (km (α:=CaD) d.2.1.F) d.1,())⟩
def mW:Ann:=fun r=>match r with
 |2=>some fun σ=>{X:=Nat,sl:=fun i=>[(8,.dat .int (i:Int))],ob:=fun _=>[],inv:=fun i=>i<=(gd (.slice tCa) σ 0).length/\∀b:Nat,b<i->km (gfb tCa σ 1) (nth (gd (.slice tCa) σ 0) b)=false,mu:=fun i=>(gd (.slice tCa) σ 0).length-i}
 |_=>none
def mX:Prop:=∀(d:List CaD×FnD [tCa] [Ty.bool]×Unit),(∀(g:CaD),g∈d.1->kG (d.2.1.1 (g,())))->d.1.length<4611686018427387904->(∃(x:Nat),((0=(x:Int)/\True)/\True)/\x<=d.1.length/\∀(b:Nat),b<x->km d.2.1.2 (nth d.1 b)=false)/\∀(x:Nat),(x<=d.1.length/\∀(b:Nat),b<x->km d.2.1.2 (nth d.1 b)=false)->(decide ((x:Int)<d.1.length)=true->0<=(x:Int)/\(x:Int)<d.1.length/\asks (d.2.1.1 (nth d.1 x,())) (((d.2.1.2 (nth d.1 x,())).1=true->((x:Int),())=(vV (km d.2.1.2) d.1,()))/\((d.2.1.2 (nth d.1 x,())).1=false->kK ((x:Int)+1)/\∃(a:Nat),(((x:Int)+1=(a:Int)/\True)/\True)/\(a<=d.1.length/\∀(b:Nat),b<a->km d.2.1.2 (nth d.1 b)=false)/\d.1.length-a<d.1.length-x)))/\(decide ((x:Int)<d.1.length)=false->((-1:Int),())=(vV (km d.2.1.2) d.1,()))
def fG:wd:=⟨[.val (.slice tCa),.fn [tCa] [.bool]],[.bool],false,fun d=>[∀g∈d.1,kG (d.2.1.pre (g,()))],fun d=>(d.1.any (km (α:=CaD) d.2.1.F),())⟩
def fH:Prop:=∀(d:List CaD×FnD [tCa] [Ty.bool]×Unit),(∀(g:CaD),g∈d.1->kG (d.2.1.1 (g,())))->(∀(g:CaD),g∈d.1->kG (d.2.1.1 (g,())))/\(decide (0<=vV (km d.2.1.2) d.1),())=(d.1.any (km d.2.1.2),())
def xy:wd:=⟨[.val .int,.rfn [.int] [.bool]],[.bool],false,fun d=>[kG (d.2.1.pre (d.1,()))],fun d=>(!(km (α:=Int) d.2.1.F d.1),())⟩
def xz:Prop:=∀(d:Int×FnD [Ty.int] [Ty.bool]×Unit),kG (d.2.1.1 (d.1,()))->asks (d.2.1.1 (d.1,())) ((!(d.2.1.2 (d.1,())).1,())=(!km d.2.1.2 d.1,()))
def cM:wd:=⟨[.val (.slice .int),.fn [.int] [.bool]],[.bool],false,fun d=>[∀g∈d.1,kG (d.2.1.pre (g,()))],fun d=>(d.1.all (km (α:=Int) d.2.1.F),())⟩
def D8:Prop:=∀(d:List Int×FnD [Ty.int] [Ty.bool]×Unit),(∀(g:Int),g∈d.1->kG (d.2.1.1 (g,())))->(∀(g:Int),g∈d.1->kG [kG (d.2.1.1 (g,()))])/\(!d.1.any (km fun(a:Int×Unit)=>(!km d.2.1.2 a.1,())),())=(d.1.all (km d.2.1.2),())
def tN:wd:=⟨[.val tCa,.rfn [tCa] [.bool]],[.bool],false,fun d=>[kG (d.2.1.pre (d.1,()))],fun d=>(!(km (α:=CaD) d.2.1.F d.1),())⟩
def tO:Prop:=∀(d:CaD×FnD [tCa] [Ty.bool]×Unit),kG (d.2.1.1 (d.1,()))->asks (d.2.1.1 (d.1,())) ((!(d.2.1.2 (d.1,())).1,())=(!km d.2.1.2 d.1,()))
def CL:wd:=⟨[.val (.slice tCa),.fn [tCa] [.bool]],[.bool],false,fun d=>[∀g∈d.1,kG (d.2.1.pre (g,()))],fun d=>(d.1.all (km (α:=CaD) d.2.1.F),())⟩
def CM:Prop:=∀(d:List CaD×FnD [tCa] [Ty.bool]×Unit),(∀(g:CaD),g∈d.1->kG (d.2.1.1 (g,())))->(∀(g:CaD),g∈d.1->kG [kG (d.2.1.1 (g,()))])/\(!d.1.any (km fun(a:CaD×Unit)=>(!km d.2.1.2 a.1,())),())=(d.1.all (km d.2.1.2),())
def Kc:wd:=⟨[.val tCa,.ref .int],[.bool],false,fun d=>[0<=d.2.1,d.2.1<=4611686018427387904],fun d=>(Vp d.2.1 d.1,())⟩
def Kd:Prop:=∀(d:CaD×Int×Unit),0<=d.2.1->d.2.1<=4611686018427387904->(kk d.1.1 (0:Int) 99=true->kK (d.2.1-1))/\(kk d.1.1 (0:Int) (99:Int)&&kk d.1.2.1 (0:Int) (d.2.1-1)&&kk d.1.2.2.1 (-100000:Int) (1440:Int),())=(Vp d.2.1 d.1,())
def Ke:wd:=⟨[.val .int],[.bool],false,fun _=>[],fun d=>(KN d.1,())⟩
def Kf:Prop:=∀(d:Int×Unit),(kk d.1 (0:Int) (20:Int),())=(KN d.1,())
def Kg:wd:=⟨[.val .int],[.bool],false,fun _=>[],fun d=>(uJ d.1,())⟩
def Kh:Prop:=∀(d:Int×Unit),(kk d.1 (0:Int) (300:Int),())=(uJ d.1,())
def ZQ:wd:=⟨[.val .int,.val .int],[.int],false,fun d=>[0<=d.1,0<d.2.1,d.1<=4611686018427387904,d.2.1<=1000000000],fun d=>(U.up d.1 d.2.1,())⟩
def ZR:Prop:=∀(d:Int×Int×Unit),0<=d.1->0<d.2.1->d.1<=4611686018427387904->d.2.1<=1000000000->kK (d.1+d.2.1)/\kK (d.1+d.2.1-1)/\d.2.1≠0/\kK ((d.1+d.2.1-1).tdiv d.2.1)/\((d.1+d.2.1-1).tdiv d.2.1,())=(U.up d.1 d.2.1,())
def M1:wd:=⟨[.val tBo],[.bool],false,fun _=>[],fun _=>(true,())⟩
def M2:Prop:=∀(_:BoD×Unit),(true,())=(true,())
def r8:wd:=⟨[.val tBo,.val .int],[.bool],false,fun d=>[(kA (kD (bL d.1))).length<=100],fun d=>(wT d.1 d.2.1,())⟩
def r9:Prop:=∀(d:BoD×Int×Unit),(kA (kD (bL d.1))).length<=100->d.1.1.1.2.2.1.length<4611686018427387904->kK ((d.1.1.1.2.2.1.length:Int)-1)/\(kk d.2.1 (0:Int) ((d.1.1.1.2.2.1.length:Int)-1),())=(wT d.1 d.2.1,())
def CN:wd:=⟨[.ref tBl],[.int],false,fun d=>[EC d.1],fun d=>(yx d.1,())⟩
abbrev jgv (d:BlD×Unit):=(min d.1.1.2.2.2.1 d.1.2.1.q4.1-d.1.1.2.2.1)
abbrev jgw (d:BlD×Unit):=(d.1.1.2.2.2.1-max d.1.1.2.2.1 d.1.2.1.2.2.2.1)
def CO:Prop:=∀(d:BlD×Unit),EC d.1->kK (jgw d)/\kK (jgv d)/\kK (max (0:Int) (jgw d)+max (0:Int) (jgv d))/\(max (0:Int) (jgw d)+max (0:Int) (jgv d),())=(yx d.1,())
def xA:qb:=⟨[.own blS true,.val .int],[],fun d=>[EC (qq d.1),0<=d.2.1,d.2.1<=300],fun d=>((),(blX d.1 (aG (qq d.1)) (bN d.2.1 (qq d.1)) (sF (qq d.1)) (pk (qq d.1)),()))⟩
abbrev jeD (d:XbD×Int×Unit):=(d.1.q4.q4.1-d.1.q4.2.2.2.1)
abbrev jes (d:XbD×Int×Unit):=(U.up (jeD d) d.1.q4.q4.2.1)
abbrev jd0 (d:XbD×Int×Unit):=d.1.q4.q4.2.2.2.1
abbrev jdS (d:XbD×Int×Unit):=d.1.q4.q4.2.2.1
abbrev jeE (d:XbD×Int×Unit):=d.1.q4.q4.q4.2.2.1
abbrev jeY (d:XbD×Int×Unit):=d.1.q4.q4.q4.2.2.2.1
abbrev jfS (d:XbD×Int×Unit):=d.1.q4.q4.q4.q4.q4.2.1
abbrev jdT (d:XbD×Int×Unit):=((jfS d).length:Int)
abbrev jgx (d:XbD×Int×Unit):=d.1.q4.q4.q4.q4.q4.1
abbrev jgy (d:XbD×Int×Unit):=d.1.q4.q4.q4.q4.2.2.2.1
abbrev jfT (d:XbD×Int×Unit):=(((d.1.1,d.1.2.1,d.1.2.2.1,d.1.2.2.2.1,d.1.q4.1,d.1.q4.2.1,()),d.1.q4.2.2.1,d.1.q4.2.2.2.1,d.1.q4.q4.1,()),(d.1.q4.q4.2.1,(jdS d),(jd0 d),d.1.q4.q4.q4.1,d.1.q4.q4.q4.2.1,(jeE d),(jeY d),d.1.q4.q4.q4.q4.1,d.1.q4.q4.q4.q4.2.1,d.1.q4.q4.q4.q4.2.2.1,()),(jgy d),(jgx d),(jfS d),(jdT d)*(jdS d)*max (jd0 d) (jes d),d.1.q4.q4.q4.q4.q4.2.2.2)
abbrev jgz (d:XbD×Int×Unit):=((jdT d)*(jdS d)*max (jd0 d) (jes d)*(jeE d)*yx (jfT d))
def xB:Prop:=∀(d:XbD×Int×Unit),EC (qq d.1)->0<=d.2.1->d.2.1<=300->kK (jeD d)/\kK ((jdT d)*(jdS d))/\0<=d.1.q4.q4.1-d.1.q4.2.2.2.1/\0<d.1.q4.q4.2.1/\d.1.q4.q4.1-d.1.q4.2.2.2.1<=4611686018427387904/\d.1.q4.q4.2.1<=1000000000/\kK ((jdT d)*(jdS d)*max (jd0 d) (jes d))/\kK ((jdT d)*(jdS d)*max (jd0 d) (jes d)*(jeE d))/\EC (jfT d)/\kK (jgz d)/\kK ((100:Int)*(jeD d))/\0<=(jdT d)*(jdS d)*max (jd0 d) (jes d)*(jeE d)*yx (jfT d)/\(0:Int)<100*(jeD d)/\(jdT d)*(jdS d)*max (jd0 d) (jes d)*(jeE d)*yx (jfT d)<=4611686018427387904/\(100:Int)*(jeD d)<=1000000000/\kK ((jdT d)*(jdS d)*max (jd0 d) (jes d)+U.up (jgz d) ((100:Int)*(jeD d)))/\kK ((jdT d)*(jeY d))/\kK ((jdT d)*(jeY d)*d.2.1)/\()=()/\((d.1.1,d.1.2.1,d.1.2.2.1,d.1.2.2.2.1,d.1.q4.1,d.1.q4.2.1,d.1.q4.2.2.1,d.1.q4.2.2.2.1,d.1.q4.q4.1,d.1.q4.q4.2.1,(jdS d),(jd0 d),d.1.q4.q4.q4.1,d.1.q4.q4.q4.2.1,(jeE d),(jeY d),d.1.q4.q4.q4.q4.1,d.1.q4.q4.q4.q4.2.1,d.1.q4.q4.q4.q4.2.2.1,(jgy d),(jgx d),(jfS d),(jdT d)*(jdS d)*max (jd0 d) (jes d)+U.up (jgz d) ((100:Int)*(jeD d)),(jdT d)*(jeY d)*d.2.1,d.1.q4.q4.q4.q4.q4.q4),())=((d.1.1,d.1.2.1,d.1.2.2.1,d.1.2.2.2.1,d.1.q4.1,d.1.q4.2.1,d.1.q4.2.2.1,d.1.q4.2.2.2.1,d.1.q4.q4.1,d.1.q4.q4.2.1,(jdS d),(jd0 d),d.1.q4.q4.q4.1,d.1.q4.q4.q4.2.1,(jeE d),(jeY d),d.1.q4.q4.q4.q4.1,d.1.q4.q4.q4.q4.2.1,d.1.q4.q4.q4.q4.2.2.1,(jgy d),(jgx d),(jfS d),aG (qq d.1),bN d.2.1 (qq d.1),sF (qq d.1),pk (qq d.1),()),())
def D9:qb:=⟨[.own blS true,.val .int],[],fun _=>[],fun d=>((),(blX d.1 (pj (qq d.1)) (EB (qq d.1)) (Vn d.2.1 (qq d.1)) (Vo d.2.1 (qq d.1)),()))⟩
abbrev jhe (d:XbD×Int×Unit):=((d.1.1,d.1.2.1,d.1.2.2.1,d.1.2.2.2.1,d.1.q4.1,d.1.q4.2.1,d.1.q4.2.2.1,d.1.q4.2.2.2.1,d.1.q4.q4.1,d.1.q4.q4.2.1,d.1.q4.q4.2.2.1,d.1.q4.q4.2.2.2.1,d.1.q4.q4.q4.1,d.1.q4.q4.q4.2.1,d.1.q4.q4.q4.2.2.1,d.1.q4.q4.q4.2.2.2.1,d.1.q4.q4.q4.q4.1,d.1.q4.q4.q4.q4.2.1,d.1.q4.q4.q4.q4.2.2.1,d.1.q4.q4.q4.q4.2.2.2.1,d.1.q4.q4.q4.q4.q4.1,d.1.q4.q4.q4.q4.q4.2.1,pj (qq d.1),EB (qq d.1),Vn d.2.1 (qq d.1),Vo d.2.1 (qq d.1),()),())
abbrev jhf (d:XbD×Int×Unit):=(decide (d.2.1<=d.1.q4.2.2.2.1)&&(!d.1.q4.q4.q4.q4.q4.q4.1||decide (d.2.1<d.1.q4.q4.q4.q4.q4.q4.2.1)))
def Ea:Prop:=∀(d:XbD×Int×Unit),((jhf d)=true->()=()/\((d.1.1,d.1.2.1,d.1.2.2.1,d.1.2.2.2.1,d.1.q4.1,d.1.q4.2.1,d.1.q4.2.2.1,d.1.q4.2.2.2.1,d.1.q4.q4.1,d.1.q4.q4.2.1,d.1.q4.q4.2.2.1,d.1.q4.q4.2.2.2.1,d.1.q4.q4.q4.1,d.1.q4.q4.q4.2.1,d.1.q4.q4.q4.2.2.1,d.1.q4.q4.q4.2.2.2.1,d.1.q4.q4.q4.q4.1,d.1.q4.q4.q4.q4.2.1,d.1.q4.q4.q4.q4.2.2.1,d.1.q4.q4.q4.q4.2.2.2.1,d.1.q4.q4.q4.q4.q4.1,d.1.q4.q4.q4.q4.q4.2.1,d.1.q4.q4.q4.q4.q4.2.2.1,d.1.q4.q4.q4.q4.q4.2.2.2.1,true,d.2),())=(jhe d))/\((jhf d)=false->()=()/\(d.1,())=(jhe d))
def xC:wd:=⟨[.val tNo,.ref tBl],[.bool],false,fun d=>[EC d.2.1],fun d=>(d6 d.2.1 d.1,())⟩
def xD:Prop:=∀(d:(Int×Int×Unit)×BlD×Unit),EC d.2.1->kK (d.2.1.1.2.2.1-d.2.1.q4.q4.1)/\(decide (d.1.1<=d.2.1.1.2.2.1-d.2.1.q4.q4.1),())=(d6 d.2.1 d.1,())
def Eb:wd:=⟨[.val tBl],[tLn],false,fun d=>[pd d.1],fun d=>(wX d.1,())⟩
abbrev jfn (d:BlD×Unit):=(km fun(a:(Int×Int×Unit)×Unit)=>(d6 d.1 a.1,()))
abbrev jeh (d:BlD×Unit):=d.1.2.1.q4.2.2.2.1
abbrev jet (d:BlD×Unit):=d.1.2.1.q4.q4.2.1
abbrev jgA (d:BlD×Unit):=(nth (jet d) (vV (jfn d) (jet d)).toNat)
abbrev jdL (d:BlD×Unit):=d.1.q4.2.1
abbrev jfo (d:BlD×Unit):=(((jdL d)+d.1.q4.2.2.1)*nth d.1.2.1.q4.q4.1 d.1.1.1.q4.1.toNat)
abbrev jfp (d:BlD×Unit):=(((jdL d)+0)*nth d.1.2.1.q4.q4.1 d.1.1.1.q4.1.toNat)
abbrev jeF (d:BlD×Unit):=((jdL d)*(jgA d).2.1)
abbrev jfq (d:BlD×Unit):=((U.up (jeF d) (100:Int)+0)*nth d.1.2.1.q4.q4.1 d.1.1.1.q4.1.toNat)
abbrev jgB (d:BlD×Unit):=(d.1.2.1.q4.q4.1.length:Int)
def Ec:Prop:=∀(d:BlD×Unit),pd d.1->(d.1.q4.2.2.2.1=true->(∀(g:Int×Int×Unit),g∈(jet d)->kG [EC d.1])/\(decide (0<=vV (jfn d) (jet d))=true->0<=vV (jfn d) (jet d)/\vV (jfn d) (jet d)<((jet d).length:Int)/\kK (jeF d)/\0<=(jdL d)*(jgA d).2.1/\(0:Int)<100/\(jdL d)*(jgA d).2.1<=4611686018427387904/\(100:Int)<=1000000000/\kK (U.up (jeF d) (100:Int)+0)/\0<=d.1.1.1.q4.1/\d.1.1.1.q4.1<(jgB d)/\kK (jfq d)/\(100:Int)≠0/\kK ((jfq d).tdiv (100:Int))/\kK (U.up (jeF d) (100:Int)+0)/\kK (U.up (jeF d) (100:Int)+0-min (jeh d) ((jfq d).tdiv (100:Int)))/\((d.1.2.2.2.1,d.1.2.2.1,U.up (jeF d) (100:Int),(0:Int),min (jeh d) ((jfq d).tdiv (100:Int)),U.up (jeF d) (100:Int)+0-min (jeh d) ((jfq d).tdiv (100:Int)),()),())=(wX d.1,()))/\(decide (0<=vV (jfn d) (jet d))=false->kK ((jdL d)+0)/\0<=d.1.1.1.q4.1/\d.1.1.1.q4.1<(jgB d)/\kK (jfp d)/\(100:Int)≠0/\kK ((jfp d).tdiv (100:Int))/\kK ((jdL d)+0)/\kK ((jdL d)+0-min (jeh d) ((jfp d).tdiv (100:Int)))/\((d.1.2.2.2.1,d.1.2.2.1,(jdL d),(0:Int),min (jeh d) ((jfp d).tdiv (100:Int)),(jdL d)+0-min (jeh d) ((jfp d).tdiv (100:Int)),()),())=(wX d.1,())))/\(d.1.q4.2.2.2.1=false->kK ((jdL d)+d.1.q4.2.2.1)/\0<=d.1.1.1.q4.1/\d.1.1.1.q4.1<(jgB d)/\kK (jfo d)/\(100:Int)≠0/\kK ((jfo d).tdiv (100:Int))/\kK ((jdL d)+d.1.q4.2.2.1)/\kK ((jdL d)+d.1.q4.2.2.1-min (jeh d) ((jfo d).tdiv (100:Int)))/\((d.1.2.2.2.1,d.1.2.2.1,(jdL d),d.1.q4.2.2.1,min (jeh d) ((jfo d).tdiv (100:Int)),(jdL d)+d.1.q4.2.2.1-min (jeh d) ((jfo d).tdiv (100:Int)),()),())=(wX d.1,()))
def xE:wd:=⟨[.val tBl,.val .int],[.int],false,fun d=>[pd d.1,-100000<=d.2.1,d.2.1<=1440],fun d=>(yp d.2.1 d.1,())⟩
abbrev jfU (d:BlD×Int×Unit):=(qq (d.1.1.1.1,d.1.1.1.2.1,d.1.1.1.2.2.1,d.1.1.1.2.2.2.1,d.1.1.1.q4.1,d.1.1.1.q4.2.1,d.1.1.2.1,d.1.1.2.2.1,d.1.1.2.2.2.1,d.1.2.1.1,d.1.2.1.2.1,d.1.2.1.2.2.1,d.1.2.1.2.2.2.1,d.1.2.1.q4.1,d.1.2.1.q4.2.1,d.1.2.1.q4.2.2.1,d.1.2.1.q4.2.2.2.1,d.1.2.1.q4.q4.1,d.1.2.1.q4.q4.2.1,d.1.2.2))
abbrev jhg (d:BlD×Int×Unit):=(d.1.1,d.1.2.1,d.1.2.2.1,d.1.2.2.2.1,d.1.q4.1,pj (jfU d),EB (jfU d),Vn d.2.1 (jfU d),Vo d.2.1 (jfU d),())
def xF:Prop:=∀(d:BlD×Int×Unit),pd d.1->(-100000:Int)<=d.2.1->d.2.1<=1440->pd (jhg d)/\(wX (jhg d)).q4.2=(yp d.2.1 d.1,())
theorem QP:M0:=fun _=>rfl
theorem vE:wm PR 38 gG:=kZ QP Tryz.func38 kcN koN
theorem UE:QO:=fun _=>rfl
theorem FA:wm PR 118 aU:=kZ UE Tryz.func118 (kcC vE kcN) koN
theorem lP:iC:=by
 rintro⟨l,f,⟨⟩⟩ a g;refine⟨⟨0,⟨⟨rfl,tZ⟩,tZ⟩,jw _,fun b c=>by omega⟩,fun i hi=>⟨fun h=> ?_,fun h=> ?_⟩⟩;have h:i<l.length:=(by simpa using h);simp only at*;refine⟨by omega,by omega,qN _ (a _ (L.kx h)) ⟨fun c=> ?_,fun c=>⟨iZ6,i+1,⟨⟨by simp,tZ⟩,tZ⟩,⟨by omega,fun b d=> ?_⟩,by omega⟩⟩⟩;rw[vK (p:=km (α:=NoD) f.F) h hi.2 c];by_cases e:b=i;subst e;exact c;exact hi.2 b (by omega);have h:l.length<=i:=(by simpa using h);rw[qx (p:=km (α:=NoD) f.F) h hi.2]
theorem iD:wm PR 66 iA:=vd iB lP Tryz.func66 kcN koN
theorem o6:mX:=by
 rintro⟨l,f,⟨⟩⟩ a g;refine⟨⟨0,⟨⟨rfl,tZ⟩,tZ⟩,jw _,fun b c=>by omega⟩,fun i hi=>⟨fun h=> ?_,fun h=> ?_⟩⟩;have h:i<l.length:=(by simpa using h);simp only at*;refine⟨by omega,by omega,qN _ (a _ (L.kx h)) ⟨fun c=> ?_,fun c=>⟨iZ6,i+1,⟨⟨by simp,tZ⟩,tZ⟩,⟨by omega,fun b d=> ?_⟩,by omega⟩⟩⟩;rw[vK (p:=km (α:=CaD) f.F) h hi.2 c];by_cases e:b=i;subst e;exact c;exact hi.2 b (by omega);have h:l.length<=i:=(by simpa using h);rw[qx (p:=km (α:=CaD) f.F) h hi.2]
theorem mY:wm PR 165 mV:=vd mW o6 Tryz.func165 kcN koN
theorem iF:fH:=by
 rintro⟨l,f,⟨⟩⟩ a;refine⟨a,?_⟩;exact jS (·,()) (ff (km (α:=CaD) f.F) l)
theorem fI:wm PR 120 fG:=kZ iF Tryz.func120 (kcC mY kcN) koN
theorem CP:xz:=by
 intro d h;exact qN _ h rfl
theorem xG:wm PR 116 xy:=kZ CP Tryz.func116 kcN koN
theorem Hp:D8:=by
 intro d h;exact⟨fun g a=>⟨h g a,tZ⟩,jS (·,()) (rg d.snd.fst.2 d.fst)⟩
theorem nB:wm PR 86 cM:=kZ Hp Tryz.func86 (kcC vN (kcC xG kcN)) koN
theorem xH:tO:=by
 intro d h;exact qN _ h rfl
theorem tP:wm PR 121 tN:=kZ xH Tryz.func121 kcN koN
theorem Ed:CM:=by
 intro d h;exact⟨fun g a=>⟨h g a,tZ⟩,jS (·,()) (rg d.snd.fst.2 d.fst)⟩
theorem CQ:wm PR 90 CL:=kZ Ed Tryz.func90 (kcC fI (kcC tP kcN)) koN
theorem M3:Kd:=by
 rintro⟨c,m,⟨⟩⟩ a b;have a:0<=m:=a;have b:m<=4611686018427387904:=b;exact⟨fun _=>L.Du (by show _<=m-1;omega) (by show m-1<=_;omega),rfl⟩
theorem Ki:wm PR 85 Kc:=kZ M3 Tryz.func85 (kcC vE kcN) koN
theorem M4:Kf:=fun _=>rfl
theorem Kj:wm PR 87 Ke:=kZ M4 Tryz.func87 (kcC vE kcN) koN
theorem M5:Kh:=fun _=>rfl
theorem Kk:wm PR 88 Kg:=kZ M5 Tryz.func88 (kcC vE kcN) koN
theorem jbp:ZR:=by
 rintro⟨a,b,⟨⟩⟩ c d e f;have c:0<=a:=c;have d:0<b:=d;have e:a<=4611686018427387904:=e;have f:b<=1000000000:=f;have g:=J8 c d;refine⟨L.Du (by show _<=a+b;omega) (by show a+b<=_;omega),L.Du (by show _<=a+b-1;omega) (by show a+b-1<=_;omega),by show b≠0;omega,CG (x:=U.up a b) (B:=4611686018427387904) ⟨g.1,by omega⟩ (by omega),rfl⟩
theorem UF:wm PR 68 ZQ:=kZ jbp Tryz.func68 kcN koN
theorem QQ:M2:=fun _=>rfl
theorem CR:wm PR 34 M1:=kZ QQ Tryz.func34 kcN koN
theorem tQ:r9:=by
 intro d a b;have a:(kA (kD (bL d.1))).length<=100:=a;exact⟨L.Du (by show _<=((kA (kD (bL d.1))).length:Int)-1;omega) (by show((kA (kD (bL d.1))).length:Int)-1<=_;omega),rfl⟩
theorem yZ:wm PR 37 r8:=kZ tQ Tryz.func37 (kcC vE kcN) koN
theorem Ee:CO:=by
 unfold CO jgw jgv Prod.q4;rintro⟨b,⟨⟩⟩ a;have h:CH b:=rY.1 a;have d:=h.st;have e:=h.en;have f:=h.e2;have g:=h.ta.dk;have i:=h.ta.dw;have c:=OO h;refine⟨?_,?_,CG (B:=2880) c (by omega),rfl⟩;show kK (fK (qi b)-max (w8 (qi b)) (VB (yC b)));exact iZ6;show kK (min (fK (qi b)) (Yo (yC b))-w8 (qi b));exact iZ6
theorem CS:wm PR 91 CN:=kZ Ee Tryz.func91 kcN koN
theorem CT:xB:=by
 unfold xB jgz jfT jgy jgx jdT jfS jeY jeE jdS jd0 jes jeD Prod.q4;intro d k v w;obtain⟨b,B⟩:∃b,b=qq d.1:=⟨_,rfl⟩;have h:CH (qq d.1):=rY.1 k;have x:=h.st;have y:=h.en;have z:=h.e2;have A:=h.ta.un;have l:=jbm h;have j:=Yi h;have m:=Uz h;have n:kK (fK (qi (qq d.1))-w8 (qi (qq d.1))):=iZ6;have e2:0<=fK (qi (qq d.1))-w8 (qi (qq d.1)):=(by omega);have o:0<Rq (yC (qq d.1)):=(by omega);have p:fK (qi (qq d.1))-w8 (qi (qq d.1))<=4611686018427387904:=(by omega);have q:Rq (yC (qq d.1))<=1000000000:=(by omega);have r:kK (100*(fK (qi (qq d.1))-w8 (qi (qq d.1)))):=iZ6;have s:100*(fK (qi (qq d.1))-w8 (qi (qq d.1)))<=1000000000:=(by omega);have t:kK (aG (qq d.1)):=CG m (by omega);have u:kK (bN d.2.1 (qq d.1)):=CG (UA h ⟨v,w⟩) (by omega);have a:=CG (jbk h) (by omega);have c:=CG (MX h) (by omega);have e:=CG (jbl h) (by omega);have f:=CG j (by omega);have g:lY (qq d.1)*O5 (yC (qq d.1))*yx (qq d.1)<=4611686018427387904:=(by omega);have i:=CG (jbo h) (by omega);exact⟨n,a,e2,o,p,q,c,e,k,f,r,j.1,l.1,g,s,t,i,u,rfl,rfl⟩
theorem xI:yE PR 60 xA:=uy CT Tryz.func60 (kcC UF (kcC CS kcN)) koN
theorem M6 (m:Int) (b:BlD):vX m b=(qi b,yC b,ND b,NE b,qL b,pj b,EB b,Vn m b,Vo m b,()):=by
 unfold Vn Vo vX
 split
 rfl;rfl
theorem Hq:Ea:=by
 unfold Ea jhf jhe Prod.q4;intro d;have a:(decide (d.2.1<=w8 (qi (qq d.1)))&&(!sF (qq d.1)||decide (d.2.1<pk (qq d.1))))=true↔(d.2.1<=w8 (qi (qq d.1))/\(sF (qq d.1)=false\/d.2.1<pk (qq d.1))):=by
  simp only[ji,zm,js,jI]
 refine⟨fun h=>⟨rfl,?_⟩,fun h=>⟨rfl,?_⟩⟩;have e:vX d.2.1 (qq d.1)=(qi (qq d.1),yC (qq d.1),ND (qq d.1),NE (qq d.1),qL (qq d.1),pj (qq d.1),EB (qq d.1),true,d.2.1,()):=by
  unfold vX;rw[jg (a.1 h)]
 have b:Vn d.2.1 (qq d.1)=true:=jS sF e;have e2:Vo d.2.1 (qq d.1)=d.2.1:=jS pk e;rw[b,e2];rfl;have h:(decide (d.2.1<=w8 (qi (qq d.1)))&&(!sF (qq d.1)||decide (d.2.1<pk (qq d.1))))=false:=h;have e:vX d.2.1 (qq d.1)=qq d.1:=by
  unfold vX;rw[jc (fun c=>by rw[a.2 c] at h;cases h)]
 have b:Vn d.2.1 (qq d.1)=sF (qq d.1):=jS sF e;have e2:Vo d.2.1 (qq d.1)=pk (qq d.1):=jS pk e;rw[b,e2];rfl
theorem nC:yE PR 61 D9:=uy Hq Tryz.func61 kcN koN
theorem CU:xD:=by
 unfold xD Prod.q4;rintro⟨n,b,⟨⟩⟩ a;have h:CH b:=rY.1 a;have c:=h.st;have d:=h.en;have e:=h.e2;have f:=h.mi;refine⟨?_,rfl⟩;show kK (w8 (qi b)-pk b);exact iZ6
theorem xJ:wm PR 67 xC:=kZ CU Tryz.func67 kcN koN
theorem Hr:Ec:=by
 unfold Ec jgB jfq jeF jfp jfo jdL jgA jet jeh jfn Prod.q4;rintro⟨b,⟨⟩⟩ m;have h:J9 b:=aL.1 m;have hk:=h.bl.kd;have k:iH (yQ (qi b))<((aF (yC b)).length:Int):=(by have:=UB h.bl;omega);have l:=UC h.bl;have j:=h.bl.ta.cp;refine⟨fun a=>⟨fun g _=>⟨m.1,tZ⟩,fun hi=> ?_,fun hi=> ?_⟩,fun a=> ?_⟩;have hi:0<=Rs b:=jb hi;obtain⟨o,p,_⟩:=CI hi;have f:=OP h o;have n:=J8 (b:=100) f.1 (by omega);have d:qo b=U.up (pj b*tY (nth (qT (yC b)) (Rs b).toNat)) 100:=jg ⟨a,hi⟩;have c:qM b=0:=jg a;refine⟨hi,p,CG f (by omega),f.1,by decide,Int.le_trans f.2 (by decide),by decide,?_⟩;refine MY (w:=U.up (pj b*tY (nth (qT (yC b)) (Rs b).toNat)) 100) (t:=0) (cp:=Rr (yC b)) (pc:=nth (aF (yC b)) (iH (yQ (qi b))).toNat) ⟨n.1,Int.le_trans n.2 f.2⟩ ⟨by omega,by omega⟩ j l hk.1 k ?_;have e:wX b=(NE b,ND b,qo b,qM b,min (Rr (yC b)) (((qo b+qM b)*nth (aF (yC b)) (iH (yQ (qi b))).toNat).tdiv 100),qo b+qM b-min (Rr (yC b)) (((qo b+qM b)*nth (aF (yC b)) (iH (yQ (qi b))).toNat).tdiv 100),()):=rfl;rw[d,c] at e;show _=(wX b,());rw[e];rfl;have hi:¬0<=Rs b:=jd hi;have d:qo b=pj b:=jc (fun i=>hi i.2);have c:qM b=0:=jg a;refine MY (w:=pj b) (t:=0) (cp:=Rr (yC b)) (pc:=nth (aF (yC b)) (iH (yQ (qi b))).toNat) ⟨h.wk.1,by have:=h.wk.2;omega⟩ ⟨by omega,by omega⟩ j l hk.1 k ?_;have e:wX b=(NE b,ND b,qo b,qM b,min (Rr (yC b)) (((qo b+qM b)*nth (aF (yC b)) (iH (yQ (qi b))).toNat).tdiv 100),qo b+qM b-min (Rr (yC b)) (((qo b+qM b)*nth (aF (yC b)) (iH (yQ (qi b))).toNat).tdiv 100),()):=rfl;rw[d,c] at e;show _=(wX b,());rw[e];rfl;have a:sF b=false:=a;have d:qo b=pj b:=jc (fun i=>by rw[a] at i;cases i.1);have c:qM b=EB b:=jc (by rw[a];decide);refine MY (w:=pj b) (t:=EB b) (cp:=Rr (yC b)) (pc:=nth (aF (yC b)) (iH (yQ (qi b))).toNat) ⟨h.wk.1,by have:=h.wk.2;omega⟩ h.tr j l hk.1 k ?_;have e:wX b=(NE b,ND b,qo b,qM b,min (Rr (yC b)) (((qo b+qM b)*nth (aF (yC b)) (iH (yQ (qi b))).toNat).tdiv 100),qo b+qM b-min (Rr (yC b)) (((qo b+qM b)*nth (aF (yC b)) (iH (yQ (qi b))).toNat).tdiv 100),()):=rfl;rw[d,c] at e;show _=(wX b,());rw[e];rfl
theorem gP:wm PR 39 Eb:=kZ Hr Tryz.func39 (kcC UF (kcC iD (kcC xJ kcN))) koN
theorem CV:xF:=by
 unfold xF jhg jfU Prod.q4;rintro⟨b,m,⟨⟩⟩ a c d;have e:=M6 m b;have h:J9 b:=aL.1 a;have hk:=aL.2 (Hm (m:=m) h ⟨c,d⟩);refine⟨?_,?_⟩;show pd (qi b,yC b,ND b,NE b,qL b,pj b,EB b,Vn m b,Vo m b,());rw[<-e];exact hk;show(wX (qi b,yC b,ND b,NE b,qL b,pj b,EB b,Vn m b,Vo m b,())).2.2.2.2.2=_;rw[<-e];rfl
theorem fY:wm PR 40 xE:=kZ CV Tryz.func40 (kcC gP kcN) (koC nC koN)
@[irreducible] def W4 (C:Ctx) (A:Ann) (c:Code) (σ:St) (K:Ex->St->Prop):Prop:=vcg C A c σ K
theorem W5 {C:Ctx} {A:Ann} {c:Code} {σ:St} {K:Ex->St->Prop} (h:W4 C A c σ K):vcg C A c σ K:=by unfold W4 at h;exact h
structure FE where
 pre:NoD×Unit->Int->List Prop
 K:NoD×Unit->Int->(Bool×Unit)×Int
namespace U
def yS (K:NoD×Unit->Int->(Bool×Unit)×Int):NoD×Unit->Int->(Bool×Unit)×Int:=fun x s=>((!(K (x.1,()) s).1.1,()),(K (x.1,()) s).2)
def Do (pre:NoD×Unit->Int->List Prop):NoD×Unit->Int->List Prop:=fun x s=>[kG (pre (x.1,()) s)]
def qU (K:NoD×Unit->Int->(Bool×Unit)×Int):Nat->List NoD->Int->Int×Int
 |_,[],s=>(-1,s)
 |i,n::r,s=>match(K (n,()) s).1.1 with
  |true=>((i:Int),(K (n,()) s).2)
  |false=>qU K (i+1) r (K (n,()) s).2
def b7 (pre:NoD×Unit->Int->List Prop) (K:NoD×Unit->Int->(Bool×Unit)×Int):List NoD->Int->Prop
 |[],_=>True
 |n::r,s=>kG (pre (n,()) s)/\((K (n,()) s).1.1=false->b7 pre K r (K (n,()) s).2)
def O7:NoD×Unit->Int->(Bool×Unit)×Int:=fun x s=>((HX s x.1,()),VA x.1)
def jbJ:NoD×Unit->Int->List Prop:=fun _ s=>[-4611686018427387904<=s,s<=4611686018427387904]
end U
def ZS (st:Ty) (ps rs:List Ty) (pre:(Ty.st ps).Data->st.Data->List Prop) (K:(Ty.st ps).Data->st.Data->(Ty.st rs).Data×st.Data):Option FE:=
 if a:st= .int then if b:ps=[tNo] then if c:rs=[.bool] then some ⟨by subst a;subst b;exact pre,by subst a;subst b;subst c;exact K⟩ else none else none else none
def jb1:SV->Option (Nat×FE)
 | .fe false o T st ps rs pre K=>match Nat.beq T 3,ZS st ps rs pre K with
  |true,some y=>some (o,y)
  |_,_=>none
 |_=>none
def jcm (σ:St) (b:Nat):Option (Nat×FE):=match σ.obj b with
 |some (.box _ _ [c])=>jb1 c
 |_=>none
def UG (σ:St) (o:Nat):Option Int:=match σ.obj o with
 |some (.box T false [c])=>match Nat.beq T 3,vY σ .int c with
  |true,some (s,[])=>some s
  |_,_=>none
 |_=>none
def UH (σ:St):List SV->Option Out
 |[a,b]=>match vY σ (.slice tNo) a,jb1 b with
  |some (l,fz),some (o,y)=>match gQ fz o,UG σ o with
   |false,some s=>some ⟨[b7 y.pre y.K l s],[],uM [.int] ((qU y.K 0 l s).1,()),fz,[(o,some (.box 3 false [.dat .int (qU y.K 0 l s).2]))],[]⟩
   |_,_=>none
  |_,_=>none
 |_=>none
def UI (σ:St):List SV->Option Out
 |[a,.clo f [.bp b 0]]=>match Nat.beq f 164,vY σ (.slice tNo) a,jcm σ b with
  |true,some (l,fz),some (o,y)=>match gQ (b::fz) o,UG σ o with
   |false,some s=>some ⟨[b7 (Do y.pre) (yS y.K) l s],[],uM [.bool] (decide (0<=(qU (yS y.K) 0 l s).1),()),b::fz,[(o,some (.box 3 false [.dat .int (qU (yS y.K) 0 l s).2]))],[]⟩
   |_,_=>none
  |_,_,_=>none
 |_=>none
def W6 (σ:St):List SV->Option Out
 |[a,.clo f [.bp o 0]]=>match Nat.beq f 117,vY σ (.slice tNo) a with
  |true,some (l,fz)=>match gQ fz o,UG σ o with
   |false,some s=>some ⟨[b7 (Do jbJ) (yS O7) l s],[],uM [.bool] (!decide (0<=(qU (yS O7) 0 l s).1),()),fz,[(o,some (.box 3 false [.dat .int (qU (yS O7) 0 l s).2]))],[]⟩
   |_,_=>none
  |_,_=>none
 |_=>none
def Yj (n:Nat) (fs:List (Nat×wd)) (k:Nat) (e:St->List SV->Option Out):Ctx:=⟨n,ti,fs,fun f _ σ svs=>match Nat.beq f k with|true=>e σ svs|false=>none,strs,false⟩
def cN:Prop:=∀(n:NoD) (s:Int),-4611686018427387904<=s->s<=4611686018427387904->
 W4 (ctx 18 [(38,gG),(118,aU)] []) (fun _=>none) (wq Tryz.f117) ⟨[(0,.dat tNo n),(1,.bp yk 0)],[(yk,some (.box 3 false [.dat .int s]))]⟩
  (lf (ctx 18 [(38,gG),(118,aU)] []) Tryz.f117 3 .int [.bool] (O7 (n,()) s))
def lQ:Prop:=∀(n:NoD) (s:Int),(-4611686018427387904:Int)<=s->s<=4611686018427387904->kK (s-1)/\(kk n.1 (0:Int) (s-1)&&U.share n.2.1,())=(O7 (n,()) s).1/\n.1=(O7 (n,()) s).2
theorem sa:(cN)=lQ:=by kernel_rfl
def y4:Prop:=∀(n:NoD) (y:FE) (s:Int),kG (y.pre (n,()) s)->
 W4 (ctx 8 [] []) (fun _=>none) (wq Tryz.f164) ⟨[(0,.dat tNo n),(1,.fe true yk 3 .int [tNo] [.bool] y.pre y.K)],[(yk,some (.box 3 false [.dat .int s]))]⟩
  (lf (ctx 8 [] []) Tryz.f164 3 .int [.bool] (yS y.K (n,()) s))
def bC:Prop:=∀(n:NoD) (y:FE) (s:Int),kG (y.pre (n,()) s)->asks (y.1 (n,()) s) ((!(y.2 (n,()) s).1.1,())=(yS y.2 (n,()) s).1/\(y.2 (n,()) s).2=(yS y.2 (n,()) s).2)
theorem iG:(y4)=bC:=by kernel_rfl
def UJ (K:NoD×Unit->Int->(Bool×Unit)×Int) (pre:NoD×Unit->Int->List Prop) (s:Int):Ann:=fun r=>match r with
 |2=>some fun σ=>{X:=Nat×Int,sl:=fun x=>[(8,.dat .int (x.1:Int))],ob:=fun x=>[(yk,some (.box 3 false [.dat .int x.2]))],inv:=fun x=>x.1<=(gd (.slice tNo) σ 0).length/\qU K x.1 ((gd (.slice tNo) σ 0).drop x.1) x.2=qU K 0 (gd (.slice tNo) σ 0) s/\b7 pre K ((gd (.slice tNo) σ 0).drop x.1) x.2,mu:=fun x=>(gd (.slice tNo) σ 0).length-x.1}
 |_=>none
def dR:Prop:=∀(l:List NoD) (y:FE) (s:Int),b7 y.pre y.K l s->
 W4 (ctx 19 [] []) (UJ y.K y.pre s) (wq Tryz.f66) ⟨[(0,.dat (.slice tNo) l),(1,.fe false yk 3 .int [tNo] [.bool] y.pre y.K)],[(yk,some (.box 3 false [.dat .int s]))]⟩
  (lf (ctx 19 [] []) Tryz.f66 3 .int [.int] (((qU y.K 0 l s).1,()),(qU y.K 0 l s).2))
abbrev jfs (l:List NoD)(x:Nat×Int):=(nth l (x.1:Int).toNat,())
def yz:Prop:=∀(l:List NoD) (y:FE) (s:Int),b7 y.pre y.K l s->l.length<4611686018427387904->(∃(x:Nat×Int),((0=(x.1:Int)/\True)/\(s=x.2/\True)/\True)/\x.1<=l.length/\qU y.2 x.1 (List.drop x.1 l) x.2=qU y.2 0 l s/\b7 y.1 y.2 (List.drop x.1 l) x.2)/\∀(x:Nat×Int),x.1<=l.length/\qU y.2 x.1 (List.drop x.1 l) x.2=qU y.2 0 l s/\b7 y.1 y.2 (List.drop x.1 l) x.2->(decide ((x.1:Int)<l.length)=true->0<=(x.1:Int)/\(x.1:Int)<l.length/\asks (y.1 (jfs l x) x.2) (((y.2 (jfs l x) x.2).1.1=true->((x.1:Int),())=((qU y.2 0 l s).1,())/\(y.2 (jfs l x) x.2).2=(qU y.2 0 l s).2)/\((y.2 (jfs l x) x.2).1.1=false->kK ((x.1:Int)+1)/\∃(a:Nat×Int),(((x.1:Int)+1=(a.1:Int)/\True)/\((y.2 (jfs l x) x.2).2=a.2/\True)/\True)/\(a.1<=l.length/\qU y.2 a.1 (List.drop a.1 l) a.2=qU y.2 0 l s/\b7 y.1 y.2 (List.drop a.1 l) a.2)/\l.length-a.1<l.length-x.1)))/\(decide ((x.1:Int)<l.length)=false->((-1:Int),())=((qU y.2 0 l s).1,())/\x.2=(qU y.2 0 l s).2)
theorem aM:(dR)=yz:=by kernel_rfl
def bD:Prop:=∀(l:List NoD) (y:FE) (s:Int),b7 y.pre y.K l s->
 W4 (Yj 9 [] 66 UH) (fun _=>none) (wq Tryz.f163) ⟨[(0,.dat (.slice tNo) l),(1,.fe false yk 3 .int [tNo] [.bool] y.pre y.K)],[(yk,some (.box 3 false [.dat .int s]))]⟩
  (lf (Yj 9 [] 66 UH) Tryz.f163 3 .int [.bool] ((decide (0<=(qU y.K 0 l s).1),()),(qU y.K 0 l s).2))
def vT:Prop:=∀(l:List NoD) (y:FE) (s:Int),b7 y.pre y.K l s->b7 y.1 y.2 l s/\(decide (0<=(qU y.2 0 l s).1),())=(decide (0<=(qU y.2 0 l s).1),())/\(qU y.2 0 l s).2=(qU y.2 0 l s).2
theorem gH:(bD)=vT:=by kernel_rfl
def xK:Prop:=∀(l:List NoD) (y:FE) (s:Int),b7 (Do y.pre) (yS y.K) l s->
 W4 (Yj 9 [] 163 UI) (fun _=>none) (wq Tryz.f119) ⟨[(0,.dat (.slice tNo) l),(1,.fe false yk 3 .int [tNo] [.bool] y.pre y.K)],[(yk,some (.box 3 false [.dat .int s]))]⟩
  (lf (Yj 9 [] 163 UI) Tryz.f119 3 .int [.bool] ((!decide (0<=(qU (yS y.K) 0 l s).1),()),(qU (yS y.K) 0 l s).2))
def dS:Prop:=∀(l:List NoD) (y:FE) (s:Int),b7 (Do y.pre) (yS y.K) l s->b7 (Do y.1) (yS y.2) l s/\(!decide (0<=(qU (yS y.2) 0 l s).1),())=(!decide (0<=(qU (yS y.2) 0 l s).1),())/\(qU (yS y.2) 0 l s).2=(qU (yS y.2) 0 l s).2
theorem mZ:(xK)=dS:=by kernel_rfl
def sd:wd:=⟨[.val tTa],[.bool],false,fun _=>[],fun d=>(qZ d.1,())⟩
def se:Ann:=fun r=>match r with
 |3000003=>some fun _=>{X:=Unit,sl:=fun _=>[],ob:=fun _=>[],inv:=fun _=>True,mu:=fun _=>0}
 |_=>none
abbrev jeu:=(km fun(a:Int×Unit)=>(U.share a.1,()))
abbrev jd3 (d:TaD×Unit):=((d.1.q4.q4.2.1.length:Int)<=4)
abbrev jev (d:TaD×Unit):=((d.1.q4.q4.1.length:Int)=4)
abbrev jd4 (d:TaD×Unit):=d.1.q4.2.2.2.1
abbrev jdU (d:TaD×Unit):=(qZ d.1,())
abbrev jd5 (d:TaD×Unit):=d.1.q4.2.2.1
def sf:Prop:=∀(d:TaD×Unit),(kk d.1.1 (1:Int) 240=true->kk d.1.1 (1:Int) 240=true/\kk d.1.1 (1:Int) 240=true/\kk d.1.1 (1:Int) 240=true/\(kk d.1.2.1 (0:Int) 10000=true->kk d.1.2.1 (0:Int) 10000=true/\kk d.1.2.1 (0:Int) 10000=true/\kk d.1.2.1 (0:Int) 10000=true/\(kk d.1.2.2.1 (0:Int) 20=true->kk d.1.2.2.1 (0:Int) 20=true/\kk d.1.2.2.1 (0:Int) 20=true/\kk d.1.2.2.1 (0:Int) 20=true/\(kk d.1.2.2.2.1 (0:Int) 1440=true->kk d.1.2.2.2.1 (0:Int) 1440=true/\kk d.1.2.2.2.1 (0:Int) 1440=true/\kk d.1.2.2.2.1 (0:Int) 1440=true/\kk d.1.2.2.2.1 (0:Int) 1440=true/\kk d.1.2.2.2.1 (0:Int) 1440=true/\(kk d.1.q4.1 (0:Int) d.1.2.2.2.1=true->kk d.1.q4.1 (0:Int) d.1.2.2.2.1=true/\kk d.1.q4.1 (0:Int) d.1.2.2.2.1=true/\kk d.1.q4.1 (0:Int) d.1.2.2.2.1=true/\(U.share d.1.q4.2.1=true->U.share d.1.q4.2.1=true/\U.share d.1.q4.2.1=true/\U.share d.1.q4.2.1=true/\(kk (jd5 d) (0:Int) 10000=true->kk (jd5 d) (0:Int) 10000=true/\kk (jd5 d) (0:Int) 10000=true/\(d.1.q4.q4.1.length<4611686018427387904->kk (jd5 d) (0:Int) 10000=true/\kk (jd5 d) (0:Int) 10000=true/\(decide (jev d)=true->decide (jev d)=true/\decide (jev d)=true/\(∀(g:Int),g∈d.1.q4.q4.1->kG [])/\decide (jev d)=true/\(d.1.q4.q4.1.all jeu=true->d.1.q4.q4.1.all jeu=true/\d.1.q4.q4.1.all jeu=true/\d.1.q4.q4.1.all jeu=true/\(kk (jd4 d) (0:Int) 1000000=true->kk (jd4 d) (0:Int) 1000000=true/\kk (jd4 d) (0:Int) 1000000=true/\(d.1.q4.q4.2.1.length<4611686018427387904->kk (jd4 d) (0:Int) 1000000=true/\kk (jd4 d) (0:Int) 1000000=true/\(decide (jd3 d)=true->decide (jd3 d)=true/\decide (jd3 d)=true/\decide (jd3 d)=true/\b7 (Do jbJ) (yS O7) d.1.q4.q4.2.1 (100001:Int)/\decide (jd3 d)=true/\(!decide (0<=(qU (yS O7) 0 d.1.q4.q4.2.1 (100001:Int)).1),())=(jdU d))/\(decide (jd3 d)=false->decide (jd3 d)=false/\decide (jd3 d)=false/\decide (jd3 d)=false/\decide (jd3 d)=false/\(false,())=(jdU d))))/\(kk (jd4 d) (0:Int) 1000000=false->kk (jd4 d) (0:Int) 1000000=false/\kk (jd4 d) (0:Int) 1000000=false/\kk (jd4 d) (0:Int) 1000000=false/\kk (jd4 d) (0:Int) 1000000=false/\qF/\qF/\qF/\qF/\qF/\(false,())=(jdU d)))/\(d.1.q4.q4.1.all jeu=false->d.1.q4.q4.1.all jeu=false/\d.1.q4.q4.1.all jeu=false/\d.1.q4.q4.1.all jeu=false/\qF/\qF/\qF/\qF/\qF/\qF/\qF/\qF/\qF/\qF/\(false,())=(jdU d)))/\(decide (jev d)=false->decide (jev d)=false/\decide (jev d)=false/\decide (jev d)=false/\qF/\qF/\qF/\qF/\qF/\qF/\qF/\qF/\qF/\qF/\qF/\qF/\qF/\qF/\(false,())=(jdU d))))/\(kk (jd5 d) (0:Int) 10000=false->kk (jd5 d) (0:Int) 10000=false/\kk (jd5 d) (0:Int) 10000=false/\kk (jd5 d) (0:Int) 10000=false/\kk (jd5 d) (0:Int) 10000=false/\qF/\qF/\qF/\qF/\qF/\qF/\qF/\qF/\qF/\qF/\qF/\qF/\qF/\qF/\qF/\qF/\qF/\qF/\(false,())=(jdU d)))/\(U.share d.1.q4.2.1=false->U.share d.1.q4.2.1=false/\U.share d.1.q4.2.1=false/\U.share d.1.q4.2.1=false/\qF/\qF/\qF/\qF/\qF/\qF/\qF/\qF/\qF/\qF/\qF/\qF/\qF/\qF/\qF/\qF/\qF/\qF/\qF/\qF/\qF/\qF/\qF/\(false,())=(jdU d)))/\(kk d.1.q4.1 (0:Int) d.1.2.2.2.1=false->kk d.1.q4.1 (0:Int) d.1.2.2.2.1=false/\kk d.1.q4.1 (0:Int) d.1.2.2.2.1=false/\kk d.1.q4.1 (0:Int) d.1.2.2.2.1=false/\qF/\qF/\qF/\qF/\qF/\qF/\qF/\qF/\qF/\qF/\qF/\qF/\qF/\qF/\qF/\qF/\qF/\qF/\qF/\qF/\qF/\qF/\qF/\qF/\qF/\qF/\qF/\(false,())=(jdU d)))/\(kk d.1.2.2.2.1 (0:Int) 1440=false->kk d.1.2.2.2.1 (0:Int) 1440=false/\kk d.1.2.2.2.1 (0:Int) 1440=false/\kk d.1.2.2.2.1 (0:Int) 1440=false/\kk d.1.2.2.2.1 (0:Int) 1440=false/\kk d.1.2.2.2.1 (0:Int) 1440=false/\qF/\qF/\qF/\qF/\qF/\qF/\qF/\qF/\qF/\qF/\qF/\qF/\qF/\qF/\qF/\qF/\qF/\qF/\qF/\qF/\qF/\qF/\qF/\qF/\qF/\qF/\qF/\qF/\qF/\qF/\qF/\(false,())=(jdU d)))/\(kk d.1.2.2.1 (0:Int) 20=false->kk d.1.2.2.1 (0:Int) 20=false/\kk d.1.2.2.1 (0:Int) 20=false/\kk d.1.2.2.1 (0:Int) 20=false/\qF/\qF/\qF/\qF/\qF/\qF/\qF/\qF/\qF/\qF/\qF/\qF/\qF/\qF/\qF/\qF/\qF/\qF/\qF/\qF/\qF/\qF/\qF/\qF/\qF/\qF/\qF/\qF/\qF/\qF/\qF/\qF/\qF/\qF/\qF/\qF/\qF/\(false,())=(jdU d)))/\(kk d.1.2.1 (0:Int) 10000=false->kk d.1.2.1 (0:Int) 10000=false/\kk d.1.2.1 (0:Int) 10000=false/\kk d.1.2.1 (0:Int) 10000=false/\qF/\qF/\qF/\qF/\qF/\qF/\qF/\qF/\qF/\qF/\qF/\qF/\qF/\qF/\qF/\qF/\qF/\qF/\qF/\qF/\qF/\qF/\qF/\qF/\qF/\qF/\qF/\qF/\qF/\qF/\qF/\qF/\qF/\qF/\qF/\qF/\qF/\qF/\qF/\qF/\qF/\(false,())=(jdU d)))/\(kk d.1.1 (1:Int) 240=false->kk d.1.1 (1:Int) 240=false/\kk d.1.1 (1:Int) 240=false/\kk d.1.1 (1:Int) 240=false/\qF/\qF/\qF/\qF/\qF/\qF/\qF/\qF/\qF/\qF/\qF/\qF/\qF/\qF/\qF/\qF/\qF/\qF/\qF/\qF/\qF/\qF/\qF/\qF/\qF/\qF/\qF/\qF/\qF/\qF/\qF/\qF/\qF/\qF/\qF/\qF/\qF/\qF/\qF/\qF/\qF/\qF/\qF/\qF/\qF/\(false,())=(jdU d))
theorem xL:jat (Yj 69 [(38,gG),(118,aU),(86,cM)] 119 W6) (se) Tryz.f89 (wq Tryz.f89) sd=sf:=by kernel_rfl
theorem Kl (K:NoD×Unit->Int->(Bool×Unit)×Int) (i:Nat) (n:NoD) (r:List NoD) (s:Int):qU K i (n::r) s=if(K (n,()) s).1.1=true then((i:Int),(K (n,()) s).2) else qU K (i+1) r (K (n,()) s).2:=by
 rw[qU];cases (K (n,()) s).1.1 with
 |true=>rfl
 |false=>rfl
theorem Ef:lQ:=by
 intro n s a b;exact⟨iZ6,rfl,rfl⟩
theorem sg:bC:=by
 intro n y s h;exact qN _ h ⟨rfl,rfl⟩
theorem dT:yz:=by
 unfold yz jfs;intro l y s j m;refine⟨⟨(0,s),⟨⟨rfl,tZ⟩,⟨rfl,tZ⟩,tZ⟩,jw _,rfl,j⟩,fun x d=>⟨fun h=> ?_,fun h=> ?_⟩⟩;obtain⟨i,s1⟩:=x;have hi:i<l.length:=(by simpa using h);obtain⟨_,a,b⟩:=d;have g:l.drop i=nth l i::l.drop (i+1):=(by rw[L.wG hi];exact z8 hi);simp only at a b;rw[g] at a b;rw[Kl] at a;obtain⟨e,f⟩:=b;simp only[ju];refine⟨by omega,by omega,qN _ e ⟨fun k=> ?_,fun c=>⟨iZ6,(i+1,(y.2 (nth l i,()) s1).2),⟨⟨by simp,tZ⟩,⟨rfl,tZ⟩,tZ⟩,⟨hi,?_,f c⟩,by simp only;omega⟩⟩⟩;rw[jg k] at a;rw[<-a];exact⟨rfl,rfl⟩;rw[jc (by rw[c];decide)] at a;exact a;obtain⟨i,s1⟩:=x;have hi:l.length<=i:=(by simpa using h);obtain⟨_,a,_⟩:=d;simp only at a;rw[List.drop_eq_nil_of_le hi] at a;have a:((-1:Int),s1)=qU y.2 0 l s:=a;rw[<-a];exact⟨rfl,rfl⟩
theorem bE:vT:=fun _ _ _ h=>⟨h,rfl,rfl⟩
theorem xM:dS:=fun _ _ _ h=>⟨h,rfl,rfl⟩
theorem UK {P:Program} {C:Ctx} {w:World} (e:C.ok P) (l:P.follows .mixedOrders=true) {f:Nat} {fn:Func} {body:Code} (i:P.funcs[f]? =some fn) (h:fn.body=some body)
 (m:fn.ntmps=C.n) (A:Ann) {T:Nat} {st:Ty} {rs:List Ty} {want:(Ty.st rs).Data×st.Data} {s:st.Data} {sl:List (Nat×SV)} {vals:List Value}
 (p:W4 C A body ⟨sl,[(yk,some (.box T false [.dat st s]))]⟩ (lf C fn T st rs want)) (a:Nat.ble vals.length C.n=true)
 {H:Imm} {b:Nat} {u:Value} (j:d8 H w) (g:H b=none) (q:w.heap[b]? =some (.cells #[u] T (0,0))) (d:st.agg=false) (o:st.rv H u s)
 (c:∀ρ:Env,ρ.H=H->ρ.blk yk=some (some (b,0))->∀k v,kN sl k=some v->∃x,vals[k]? =some x/\SV.den P ρ v x):
 Calls P f vals.toArray w (Pd H w b T st rs want):=
 jcd e l i h m A (jy a) (W5 p) j g q d o c
abbrev FnG (H:Imm) (b:Nat) (y:FE) (v:Value):Prop:=FnE PR H b 3 .int [tNo] [.bool] y.pre y.K v
theorem UL {H:Imm} {t:Ty} {vals:List Value} {x:(Ty.st [t]).Data} (h:rvs H [t] vals x):∃v,vals=[v]/\t.rv H v x.1:=by
 match vals,h with
 |[v],h=>exact⟨v,rfl,h.1⟩
 |[],h=>exact h.elim
 |_::_::_,h=>have:=h.2;simp[rvs] at this
theorem UM (q:y4) {H:Imm} {b:Nat} {y:FE} {i:Value} {g:Nat} (l:FnG H b y i) (m:H g=some (.cells #[i])):
 FnG H b ⟨Do y.pre,yS y.K⟩ (.func (.func 164) #[] #[.pointer (some ⟨g,0,none⟩)]):=by
 refine⟨164,_,rfl,qD Tryz.func164 (c:=wq Tryz.f164) (by kernel_rfl) (by kernel_rfl),fun H' w vals x s u j o n z r t f=> ?_⟩;obtain⟨v,rfl,h⟩:=UL t;have key:=UK (P:=PR) (C:=ctx 8 [] []) (nz trivial trivial) mixed Tryz.func164 (body:=wq Tryz.f164) (by kernel_rfl) (by kernel_rfl) (fun _=>none) (T:=3) (st:= .int) (rs:=[.bool])
  (vals:=[v,.pointer (some ⟨g,0,none⟩)]) (q x.1 y s f.1) (by kernel_rfl) o n z rfl r
 refine key (fun ρ d e k sv hk=> ?_)
 match k,hk with
 |0,hk=>
  have hk:some (SV.dat tNo x.1)=some sv:=hk;simp only[jv] at hk;subst hk;exact⟨v,rfl,by simp only[SV.den];rw[d];exact h⟩
 |1,hk=>
  have hk:some (SV.fe true yk 3 .int [tNo] [.bool] y.pre y.K)=some sv:=hk;simp only[jv] at hk;subst hk;refine⟨_,rfl,?_⟩;simp only[SV.den];intro p a;rw[e] at a;simp at a;subst a;refine⟨b,0,rfl,i,?_,g,rfl,?_⟩;rw[d];exact FnE.mono j l;rw[d];exact j _ _ m
 |k+2,hk=>cases hk
theorem QR (j:cN) (H:Imm) (b:Nat):FnG H b ⟨jbJ,O7⟩ (.func (.func 117) #[] #[.pointer (some ⟨b,0,none⟩)]):=by
 refine⟨117,_,rfl,qD Tryz.func117 (c:=wq Tryz.f117) (by kernel_rfl) (by kernel_rfl),fun H' w vals x s u o i h n l m a=> ?_⟩;obtain⟨v,rfl,f⟩:=UL m;have key:=UK (P:=PR) (C:=ctx 18 [(38,gG),(118,aU)] []) (nz ⟨fun _=>vE,fun _=>FA,tZ⟩ trivial) mixed Tryz.func117 (body:=wq Tryz.f117) (by kernel_rfl) (by kernel_rfl) (fun _=>none) (T:=3) (st:= .int) (rs:=[.bool])
  (vals:=[v,.pointer (some ⟨b,0,none⟩)]) (j x.1 s a.1 a.2.1) (by kernel_rfl) i h n rfl l
 refine key (fun ρ g e k sv hk=> ?_)
 match k,hk with
 |0,hk=>
  have hk:some (SV.dat tNo x.1)=some sv:=hk;simp only[jv] at hk;subst hk;exact⟨v,rfl,by simp only[SV.den];rw[g];exact f⟩
 |1,hk=>
  have hk:some (SV.bp yk 0)=some sv:=hk;simp only[jv] at hk;subst hk;refine⟨_,rfl,?_⟩;simp only[SV.den];intro p d;rw[e] at d;simp at d;subst d;exact⟨b,0,rfl,rfl⟩
 |k+2,hk=>cases hk
def EN (f:Nat) (rs:List Ty) (pre:FE->List NoD->Int->Prop) (K:FE->List NoD->Int->(Ty.st rs).Data×Int):Prop:=
 ∀(l:List NoD) (y:FE) (s:Int) (H:Imm) (w:World) (b:Nat) (lv a u:Value),d8 H w->H b=none->w.heap[b]? =some (.cells #[u] 3 (0,0))->Ty.int.rv H u s->
  (Ty.slice tNo).rv H lv l->FnG H b y a->pre y l s->Calls PR f #[lv,a] w (Pd H w b 3 .int rs (K y l s))
theorem ZT {C:Ctx} (j:C.ok PR) {f:Nat} {fn:Func} {body:Code} (o:PR.funcs[f]? =some fn) (m:fn.body=some body) (t:fn.ntmps=C.n) (i:Nat.ble 2 C.n=true) (A:FE->Int->Ann) {rs:List Ty}
 {pre:FE->List NoD->Int->Prop} {K:FE->List NoD->Int->(Ty.st rs).Data×Int}
 (x:∀(l:List NoD) (y:FE) (s:Int),pre y l s->W4 C (A y s) body ⟨[(0,.dat (.slice tNo) l),(1,.fe false yk 3 .int [tNo] [.bool] y.pre y.K)],[(yk,some (.box 3 false [.dat .int s]))]⟩ (lf C fn 3 .int rs (K y l s))):EN f rs pre K:=by
 intro l y s H w b lv h u q g z v r B d;have key:=UK (P:=PR) j mixed o m t (A y s) (T:=3) (st:= .int) (rs:=rs) (vals:=[lv,h]) (x l y s d) i q g z rfl v;refine key (fun ρ e c k sv hk=> ?_)
 match k,hk with
 |0,hk=>
  have hk:some (SV.dat (.slice tNo) l)=some sv:=hk;simp only[jv] at hk;subst hk;exact⟨lv,rfl,by simp only[SV.den];rw[e];exact r⟩
 |1,hk=>
  have hk:some (SV.fe false yk 3 .int [tNo] [.bool] y.pre y.K)=some sv:=hk;simp only[jv] at hk;subst hk;refine⟨_,rfl,?_⟩;simp only[SV.den];intro p a;rw[c] at a;simp at a;subst a;exact⟨b,0,rfl,h,by rw[e];exact B,rfl⟩
 |k+2,hk=>cases hk
theorem tR {σ:St} {o:Nat} {s:Int} (h:UG σ o=some s):∃c,σ.obj o=some (.box 3 false [c])/\vY σ .int c=some (s,[]):=by
 unfold UG at h
 split at h
 case h_2=>cases h
 rename_i T c d
 split at h
 case h_2=>cases h
 rename_i e a b;simp at h;subst h;have:=ja a;subst this;exact⟨c,d,b⟩
theorem QS {q:Bool} {o T:Nat} {st:Ty} {ps rs:List Ty} {pre:(Ty.st ps).Data->st.Data->List Prop} {K:(Ty.st ps).Data->st.Data->(Ty.st rs).Data×st.Data} {y:FE} (h:ZS st ps rs pre K=some y):
 SV.fe q o T st ps rs pre K=SV.fe q o T .int [tNo] [.bool] y.pre y.K:=by
 unfold ZS at h
 split at h
 case isFalse=>cases h
 rename_i a
 split at h
 case isFalse=>cases h
 rename_i b
 split at h
 case isFalse=>cases h
 rename_i c;subst a;subst b;subst c;simp at h;subst h;rfl
theorem Km {v:SV} {o:Nat} {y:FE} (h:jb1 v=some (o,y)):v= .fe false o 3 .int [tNo] [.bool] y.pre y.K:=by
 unfold jb1 at h
 split at h
 case h_2=>cases h
 rename_i o' T st ps rs pre K
 split at h
 case h_2=>cases h
 rename_i c a b;simp at h;obtain⟨rfl,rfl⟩:=h;have:=ja a;subst this;exact QS b
theorem UN {σ:St} {b o:Nat} {y:FE} (h:jcm σ b=some (o,y)):∃T fz,σ.obj b=some (.box T fz [.fe false o 3 .int [tNo] [.bool] y.pre y.K]):=by
 unfold jcm at h
 split at h
 case h_2=>cases h
 rename_i d fz c a;rw[Km h] at a;exact⟨_,_,a⟩
abbrev jcn (y:FE) (l:List NoD) (s:Int):(Ty.st [.int]).Data×Int:=(((qU y.K 0 l s).1,()),(qU y.K 0 l s).2)
abbrev jco (y:FE) (l:List NoD) (s:Int):(Ty.st [.bool]).Data×Int:=((decide (0<=(qU y.K 0 l s).1),()),(qU y.K 0 l s).2)
abbrev jcp (y:FE) (l:List NoD) (s:Int):(Ty.st [.bool]).Data×Int:=((!decide (0<=(qU (yS y.K) 0 l s).1),()),(qU (yS y.K) 0 l s).2)
theorem M7 (L:EN 66 [.int] (fun y l s=>b7 y.pre y.K l s) jcn) {σ:St} {svs:List SV} {out:Out} (h:UH σ svs=some out) {B:wY} {ρ:Env} {w:World} {vals:List Value} (I:Sat PR B ρ σ.obj w) (C:SV.denL PR ρ svs vals)
 (t:qX out.vc):Calls PR 66 vals.toArray w (fun e w'=>∃v,e= .returned v/\kM PR B ρ σ out v w'):=by
 unfold UH at h
 split at h
 case h_2=>cases h
 rename_i a c
 split at h
 case h_2=>cases h
 rename_i l fz o y M n
 split at h
 case h_2=>cases h
 rename_i s q O;simp at h;subst h;obtain⟨S,_⟩:=t;have F:=Km n;subst F;simp only[SV.denL] at C;obtain⟨D,_,rfl,E,vc,_,rfl,x,rfl⟩:=C;obtain⟨c,R,J⟩:=tR O;refine lg (st:= .int) (rs:=[.int]) (r:=jcn y l s) I fz q R rfl (fun ρ1 b V u d g f N G Q m=> ?_);have A:=vo σ fz;have P:=kP d A J (fun o i=>by simp at i) m;have p:=kP d A M (fun o i=>i) (SV.den_mono g a D (fun o i=>by simp at i) E);simp only[SV.den] at x;obtain⟨W,C',z,T,k,j⟩:=x _ (by rw[<-f];exact N);simp at z;obtain⟨rfl,rfl⟩:=z;have j:vc=T:=j;subst j;exact L l y s ρ1.H w b D vc u d.good G Q P p (FnE.mono g.H k) S
theorem M8 (D:y4) (he:EN 163 [.bool] (fun y l s=>b7 y.pre y.K l s) jco) {σ:St} {svs:List SV} {out:Out} (h:UI σ svs=some out) {B:wY} {ρ:Env} {w:World} {vals:List Value} (hS:Sat PR B ρ σ.obj w)
 (R:SV.denL PR ρ svs vals) (L:qX out.vc):Calls PR 163 vals.toArray w (fun e w'=>∃v,e= .returned v/\kM PR B ρ σ out v w'):=by
 unfold UI at h
 split at h
 case h_2=>cases h
 rename_i a f j
 split at h
 case h_2=>cases h
 rename_i l fz o y hf hl E
 split at h
 case h_2=>cases h
 rename_i s I hs;simp at h;subst h;obtain⟨q1,_⟩:=L;simp only[SV.denL] at R;obtain⟨S,_,rfl,Z,vc,_,rfl,O,rfl⟩:=R;simp only[SV.den,SV.denL] at O;obtain⟨vs,rfl,v5,_,i,Y,rfl⟩:=O;have i:vs= #[v5]:=jF.1 (by simpa using i);subst i;have:=ja hf;subst this;obtain⟨c,hx,hc⟩:=tR hs;obtain⟨W,fz5,M⟩:=UN E;refine lg (st:= .int) (rs:=[.bool]) (r:=jco ⟨Do y.pre,yS y.K⟩ l s) hS (j::fz) I hx rfl (fun ρ1 b Cp u d G k hp hH hw C=> ?_);have x:=vo σ (j::fz);have hu:=kP d x hc (fun o m=>by simp at m) C;have F:=kP d x hl (fun o m=>jo _ m) (SV.den_mono G a S (fun o m=>by simp at m) Z);have n:(σ.frz (j::fz)).obj j=some (.box W true [.fe false o 3 .int [tNo] [.bool] y.pre y.K]):=(by rw[(x j).2 (by simp),M];rfl);obtain⟨p5,J,b5,C5,N,rfl,hw5,g,_,A⟩:=d.obs j _ n;obtain⟨X,V,Q,q⟩:=Y _ (by rw[<-k];exact J);simp at Q;obtain⟨rfl,rfl⟩:=Q;subst q;simp only[SV.denL,SV.den] at g;obtain⟨T,_,t,hy,rfl⟩:=g;have t:N= #[T]:=jF.1 (by simpa using t);subst t;obtain⟨b',C',P,u',z,p⟩:=hy _ hp;simp at P;obtain⟨rfl,rfl⟩:=P;have p:T=u':=p;subst p;exact he l ⟨Do y.pre,yS y.K⟩ s ρ1.H w b S _ u d.good hH hw hu F (UM D z A) q1
theorem M9 (P:cN) (J:EN 119 [.bool] (fun y l s=>b7 (Do y.pre) (yS y.K) l s) jcp) {σ:St} {svs:List SV} {out:Out} (h:W6 σ svs=some out) {B:wY} {ρ:Env} {w:World} {vals:List Value} (G:Sat PR B ρ σ.obj w)
 (A:SV.denL PR ρ svs vals) (q:qX out.vc):Calls PR 119 vals.toArray w (fun e w'=>∃v,e= .returned v/\kM PR B ρ σ out v w'):=by
 unfold W6 at h
 split at h
 case h_2=>cases h
 rename_i a f o
 split at h
 case h_2=>cases h
 rename_i l fz L M
 split at h
 case h_2=>cases h
 rename_i s p O;simp at h;subst h;obtain⟨T,_⟩:=q;simp only[SV.denL] at A;obtain⟨C,_,rfl,E,vc,_,rfl,t,rfl⟩:=A;simp only[SV.den,SV.denL] at t;obtain⟨vs,rfl,V,_,d,D,rfl⟩:=t;have d:vs= #[V]:=jF.1 (by simpa using d);subst d;have:=ja L;subst this;obtain⟨c,S,I⟩:=tR O;refine lg (st:= .int) (rs:=[.bool]) (r:=jcp ⟨jbJ,O7⟩ l s) G fz p S rfl (fun ρ1 b W u g n i N F R k=> ?_);have z:=vo σ fz;have Q:=kP g z I (fun o j=>by simp at j) k;have m:=kP g z M (fun o j=>j) (SV.den_mono n a C (fun o j=>by simp at j) E);obtain⟨X,C',x,ev⟩:=D _ (by rw[<-i];exact N);simp at x;obtain⟨rfl,rfl⟩:=x;subst ev;exact J l ⟨jbJ,O7⟩ s ρ1.H w b C _ u g.good F R Q m (QR P ρ1.H b) T
theorem Na {n:Nat} {fs:List (Nat×wd)} {k:Nat} {e:St->List SV->Option Out} (c:ig fs) (b:enters PR k)
 (j:∀σ svs out,e σ svs=some out->∀B ρ w vals,Sat PR B ρ σ.obj w->SV.denL PR ρ svs vals->qX out.vc->Calls PR k vals.toArray w (fun e w'=>∃v,e= .returned v/\kM PR B ρ σ out v w')):(Yj n fs k e).ok PR:=by
 refine⟨Oc Wg,dt c,Oy,rfl,fun f dst σ svs out h=> ?_⟩;have a:(match Nat.beq f k with|true=>e σ svs|false=>none)=some out:=h
 split at a
 case h_2=>cases a
 rename_i l;have:=ja l;subst this;exact⟨b,fun B ρ w vals g i d _ _=>j σ svs out a B ρ w vals g i d⟩
theorem enI:EN 66 [.int] (fun y l s=>b7 y.pre y.K l s) jcn:=
 ZT (C:=ctx 19 [] []) (nz trivial trivial) Tryz.func66 (body:=wq Tryz.f66) (by kernel_rfl) (by kernel_rfl) (by kernel_rfl) (fun y s=>UJ y.K y.pre s) (fun l y s h=>aM.mpr dT l y s h)
theorem enC:EN 163 [.bool] (fun y l s=>b7 y.pre y.K l s) jco:=
 ZT (C:=Yj 9 [] 66 UH) (Na trivial (qD Tryz.func66 (c:=wq Tryz.f66) (by kernel_rfl) (by kernel_rfl)) (fun _ _ _ h _ _ _ _ b d a=>M7 enI h b d a))
  Tryz.func163 (body:=wq Tryz.f163) (by kernel_rfl) (by kernel_rfl) (by kernel_rfl) (fun _ _ _=>none) (fun l y s h=>gH.mpr bE l y s h)
theorem enV:EN 119 [.bool] (fun y l s=>b7 (Do y.pre) (yS y.K) l s) jcp:=
 ZT (C:=Yj 9 [] 163 UI) (Na trivial (qD Tryz.func163 (c:=wq Tryz.f163) (by kernel_rfl) (by kernel_rfl)) (fun _ _ _ h _ _ _ _ b d a=>M8 (iG.mpr sg) enC h b d a))
  Tryz.func119 (body:=wq Tryz.f119) (by kernel_rfl) (by kernel_rfl) (by kernel_rfl) (fun _ _ _=>none) (fun l y s h=>mZ.mpr xM l y s h)
theorem noI:∀(l:List NoD) (i:Nat) (s:Int),(!decide (0<=(qU (yS O7) i l s).1))=uI s l
 |[],i,s=>rfl
 |n::r,i,s=>by
  rw[Kl,uI]
  have a:(yS O7 (n,()) s).1.1= !(HX s n):=rfl
  have e2:(yS O7 (n,()) s).2=VA n:=rfl
  rw[a,e2]
  cases b:HX s n with
  |true=>rw[jc (by decide),noI r (i+1) (VA n)];rfl
  |false=>
   rw[jg (by decide)]
   have:decide (0<=(i:Int))=true:=jK (by omega)
   show(!decide (0<=(i:Int)))=_
   rw[this];rfl
theorem jcV:∀(l:List NoD) (s:Int),-4611686018427387904<=s->s<=4611686018427387904->b7 (Do jbJ) (yS O7) l s
 |[],_,_,_=>trivial
 |n::r,s,h1,h2=>by
  refine⟨⟨⟨h1,h2,tZ⟩,tZ⟩,fun a=> ?_⟩
  have a:(!(HX s n))=false:=a
  have a:HX s n=true:=by simpa using a
  unfold HX at a
  rw[ji,w6] at a
  exact jcV r (VA n) (by omega) (by omega)
theorem Kn:sf:=by
 unfold sf jd5 jdU jd4 jev jd3 jeu Prod.q4;rintro⟨⟨un,rt,le,dk,dw,ni,mi,cp,sb,no,⟨⟩⟩,⟨⟩⟩;have e:qZ (un,rt,le,dk,dw,ni,mi,cp,sb,no,())=((kk un 1 240&&kk rt 0 10000&&kk le 0 20&&kk dk 0 1440&&kk dw 0 dk&&U.share ni&&kk mi 0 10000)&&
  (decide ((sb.length:Int)=4)&&sb.all (km fun(x:Int×Unit)=>(U.share x.fst,()))&&kk cp 0 1000000&&decide ((no.length:Int)<=4)&&uI 100001 no)):=by
  have n:decide ((sb.length:Int)=4)=decide (sb.length=4):=decide_eq_decide.2 (by omega);have e2:decide ((no.length:Int)<=4)=decide (no.length<=4):=decide_eq_decide.2 (by omega);rw[n,e2];rfl
 simp only;refine⟨fun f=>⟨f,f,f,fun g=>⟨g,g,g,fun i=>⟨i,i,i,fun c=>⟨c,c,c,c,c,fun j=>⟨j,j,j,fun k=>⟨k,k,k,fun d=>⟨d,d,fun _=>⟨d,d,fun l=>⟨l,l,fun _ _=>tZ,l,fun m=>⟨m,m,m,fun a=>⟨a,a,fun _=>⟨a,a,fun b=>⟨b,b,b,jcV no 100001 (by omega) (by omega),b,?_⟩,fun h=> ?_⟩⟩,fun h=> ?_⟩,fun h=> ?_⟩,fun h=> ?_⟩⟩,fun h=> ?_⟩,fun h=> ?_⟩,fun h=> ?_⟩,fun h=> ?_⟩,fun h=> ?_⟩,fun h=> ?_⟩,fun h=> ?_⟩
 .rw[noI,e];simp only[f,g,i,c,j,k,d,l,m,a,b,Bool.true_and]
 all_goals
  have q:=e;simp only[h,Bool.false_and,Bool.and_false] at q;simp only[h,q,and_self]
theorem Hs:wm PR 89 sd:=
 jaQ (Na (n:=69) (fs:=[(38,gG),(118,aU),(86,cM)]) (k:=119) (e:=W6) ⟨fun _=>vE,fun _=>FA,fun _=>nB,tZ⟩
  (qD Tryz.func119 (c:=wq Tryz.f119) (by kernel_rfl) (by kernel_rfl)) (fun _ _ _ h _ _ _ _ b d a=>M9 (sa.mpr Ef) enV h b d a))
  mixed Tryz.func89 (by kernel_rfl) (by kernel_rfl) (by kernel_rfl) (by decide) se (xL.mpr Kn)
namespace U
def cmStep (m:List (Int×CaD)) (c:CaD):List (Int×CaD):=d9 .int (RI c) c m
def pe (l:List CaD) (n:Nat):List (Int×CaD):=(l.take n).foldl cmStep []
def wl (l:LgD) (F:BoD×Unit->Bool×Unit):Bool:=(F ((l,[],()),())).1
end U
def QT:wd:=⟨[.val tLg],[.int],false,fun d=>[(qh (kD d.1)).length<=100000],fun d=>(kY d.1,())⟩
def QU:Ann:=fun r=>match r with
 |14=>some fun σ=>{X:=Nat,sl:=fun i=>[(68,.dat .int (i:Int))],ob:=fun i=>[(64,some (.map false .int tCa (pe (gd (.slice tCa) σ 66) i)))],inv:=fun i=>i<=(gd (.slice tCa) σ 66).length/\∀b:Nat,b<i->ar (gd (.slice tCa) σ 66) b=false,mu:=fun i=>(gd (.slice tCa) σ 66).length-i}
 |_=>none
abbrev jeG (d:LgD×Unit):=(d.1.1.2.2.1.length:Int)
abbrev jhh (d:LgD×Unit):=(decide ((d.1.2.2.1.length:Int)≠(jeG d))|| !d.1.2.2.1.all (km fun(a:Int×Unit)=>(uJ a.1,())))
abbrev jhi (d:LgD×Unit):=(decide ((d.1.2.1.length:Int)≠(jeG d))|| !d.1.2.1.all (km fun(a:Int×Unit)=>(KN a.1,())))
abbrev jft (d:LgD×Unit):=(d.1.q4.1.length:Int)
abbrev jhj (d:LgD×Unit):=(!qZ d.1.2.2.2.1||decide (10<(jft d))|| !d.1.q4.1.all (km fun(a:CaD×Unit)=>(Vp (jeG d) a.1,())))
abbrev jfV (d:LgD×Unit)(x:Nat):=(nth d.1.q4.1 x)
abbrev jhk (d:LgD×Unit)(x:Nat):=(XK (kJ Ty.int (jfV d x).1 (pe d.1.q4.1 x))&& !decide (kW ((0:Int),(0:Int),(0:Int),()) (kJ Ty.int (jfV d x).1 (pe d.1.q4.1 x))=nth d.1.q4.1 x))
def QV:Prop:=∀(d:LgD×Unit),(qh (kD d.1)).length<=100000->(qh d.1.1).length<=100000/\(decide (wn d.1.1≠0)=true->(wn d.1.1,())=(kY d.1,()))/\(decide (wn d.1.1≠0)=false->d.1.1.2.2.1.length<4611686018427387904->d.1.2.1.length<4611686018427387904->((!decide ((d.1.2.1.length:Int)≠(jeG d)))=true->∀(g:Int),g∈d.1.2.1->kG [])/\((jhi d)=true->((70:Int),())=(kY d.1,()))/\((jhi d)=false->d.1.2.2.1.length<4611686018427387904->((!decide ((d.1.2.2.1.length:Int)≠(jeG d)))=true->∀(g:Int),g∈d.1.2.2.1->kG [])/\((jhh d)=true->((70:Int),())=(kY d.1,()))/\((jhh d)=false->((!!qZ d.1.2.2.2.1)=true->d.1.q4.1.length<4611686018427387904)->((!(!qZ d.1.2.2.2.1||decide (10<(jft d))))=true->∀(c:CaD),c∈d.1.q4.1->kG [0<=(jeG d),(jeG d)<=4611686018427387904])/\((jhj d)=true->((70:Int),())=(kY d.1,()))/\((jhj d)=false->d.1.q4.1.length<4611686018427387904->(∃(x:Nat),((0=(x:Int)/\True)/\[]=pe d.1.q4.1 x/\True)/\x<=d.1.q4.1.length/\∀(b:Nat),b<x->ar d.1.q4.1 b=false)/\∀(x:Nat),(x<=d.1.q4.1.length/\∀(b:Nat),b<x->ar d.1.q4.1 b=false)->(decide ((x:Int)<(jft d))=true->0<=(x:Int)/\(x:Int)<(jft d)/\((jhk d x)=true->((71:Int),())=(kY d.1,()))/\((jhk d x)=false->kK ((x:Int)+1)/\∃(a:Nat),(((x:Int)+1=(a:Int)/\True)/\d9 Ty.int (jfV d x).1 (jfV d x) (pe d.1.q4.1 x)=pe d.1.q4.1 a/\True)/\(a<=d.1.q4.1.length/\∀(b:Nat),b<a->ar d.1.q4.1 b=false)/\d.1.q4.1.length-a<d.1.q4.1.length-x))/\(decide ((x:Int)<(jft d))=false->((0:Int),())=(kY d.1,()))))))
theorem Ko {l:List CaD} {n:Nat} (h:n<l.length):pe l (n+1)=d9 .int (RI (nth l n)) (nth l n) (pe l n):=by
 unfold pe;rw[L.wb h,jU];rfl
theorem UO (l:List CaD):∀x,x<=l.length->∀k:Int,(kJ .int k (pe l x)=none->∀j,j<x->RI (nth l j)≠k)/\(∀c,kJ .int k (pe l x)=some c->∃j,j<x/\nth l j=c/\RI c=k)
 |0,_,k=>⟨fun _ j a=>by omega,fun c h=>by cases h⟩
 |x+1,i,k=>by
  obtain⟨d,f⟩:=UO l x (by omega) k
  rw[Ko (show x<l.length by omega)]
  by_cases e:k=RI (nth l x)
  subst e
  rw[M.ph (kt:= .int)]
  refine⟨fun h=>(by cases h),fun c h=> ?_⟩
  simp only[jv] at h
  subst h
  exact⟨x,by omega,rfl,rfl⟩
  rw[M.cS (kt:= .int) e]
  refine⟨fun h j a=> ?_,fun c h=> ?_⟩
  by_cases e2:j=x
  subst e2;exact fun b=>e b.symm
  exact d h j (by omega)
  obtain⟨j,a,g⟩:=f c h
  exact⟨j,by omega,g⟩
theorem Kp {l:List CaD} {i:Nat} (hi:i<=l.length):ar l i=true↔∃j,j<i/\RI (nth l j)=RI (nth l i)/\nth l j≠nth l i:=by
 unfold ar;rw[j9];constructor;rintro⟨x,d,h⟩;obtain⟨j,c,rfl⟩:=ze.1 d;simp only[ji,js,jI,jD] at h;refine⟨j,by omega,?_⟩;rw[L.wG (show j<l.length by omega)];exact h;rintro⟨j,c,a,b⟩;refine⟨nth l j,ze.2 ⟨j,by omega,(L.wG (by omega)).symm⟩,?_⟩;simp only[ji,js,jI,jD];exact⟨a,b⟩
theorem ZU {l:List CaD} {x:Nat} (u:x<l.length) (h:∀b:Nat,b<x->ar l b=false):
 (XK (kJ .int (nth l x).1 (pe l x))&& !decide (kW ((0:Int),(0:Int),(0:Int),()) (kJ .int (nth l x).1 (pe l x))=nth l x))=ar l x:=by
 obtain⟨k,r⟩:=UO l x (by omega) (nth l x).1;have no:∀i j,i<j->j<x->RI (nth l i)=RI (nth l j)->nth l i=nth l j:=fun i j a f s=>by
  by_cases e:nth l i=nth l j;exact e;have:=(Kp (show j<=l.length by omega)).2 ⟨i,a,s,e⟩;rw[h j f] at this;cases this
 rw[j0,Kp (by omega)];cases p:kJ (β:=CaD) .int (nth l x).1 (pe l x) with
 |none=>
  have k:=k p;constructor;intro t;cases t;rintro⟨j,f,e,_⟩;exact absurd e (k j f)
 |some c=>
  obtain⟨j,f,d,o⟩:=r c p;show(!decide (c=nth l x))=true↔_;rw[jI,jD];constructor;intro m;exact⟨j,f,by rw[d];exact o,by rw[d];exact m⟩;rintro⟨i,hi,q,e2⟩ g;have n:RI (nth l i)=RI (nth l j):=(by rw[d,q];exact o.symm);rcases Nat.lt_trichotomy i j with a|a|a;exact e2 (by rw[no i j a f n,d,g]);subst a;exact e2 (by rw[d,g]);exact e2 (by rw[<-no j i a hi n.symm,d,g])
theorem Nb {l:List CaD} {x:Nat} (a:x<l.length) (h:ar l x=true):bM l=true:=by
 unfold bM Dn;rw[j9];exact⟨x,jC.2 a,h⟩
theorem Kq {l:List CaD} (h:∀b:Nat,b<l.length->ar l b=false):bM l=false:=by
 unfold bM Dn;rw[zl];intro b a;rw[h b (jC.1 a)];decide
theorem jcq {b:Bool} (h:(!b)=true):b=false:=by cases b with|false=>rfl|true=>cases h
theorem jcr {b:Bool} (h:(!b)=false):b=true:=by cases b with|true=>rfl|false=>cases h
theorem jcW (a b:Nat) (p:Bool):(decide ((a:Int)≠(b:Int))|| !p)= !(decide (a=b)&&p):=by
 by_cases e:a=b;subst e;simp;have:(a:Int)≠(b:Int):=(by omega);simp[e,this]
theorem ZV (l:LgD):bZ l=((decide ((yw l).length=(kA (kD l)).length)&&(yw l).all KN)&&(decide ((uH l).length=(kA (kD l)).length)&&(uH l).all uJ)&&(qZ (yt l)&&(decide ((wi l).length<=10)&&(wi l).all (m9 (kA (kD l)).length)))):=rfl
theorem UP:QV:=by
 unfold QV jhk jfV jhj jft jhi jhh jeG Prod.q4;rintro⟨l,⟨⟩⟩ C;have y:∀v,wn (kD l)≠0->v=wn (kD l)->((v:Int),())=(kY l,()):=fun v h e=>by
  unfold kY;rw[jg h,e]
 have c:¬(wn (kD l)≠0)->bZ l=false->((70:Int),())=(kY l,()):=fun h e=>by
  unfold kY;rw[jc h,jg e]
 have o:¬(wn (kD l)≠0)->bZ l=true->bM (wi l)=true->((71:Int),())=(kY l,()):=fun h e e2=>by
  unfold kY;rw[jc h,jc (by rw[e];decide),jg e2]
 have n:¬(wn (kD l)≠0)->bZ l=true->bM (wi l)=false->((0:Int),())=(kY l,()):=fun h e e2=>by
  unfold kY;rw[jc h,jc (by rw[e];decide),jc (by rw[e2];decide)]
 have q:=jcW (yw l).length (kA (kD l)).length ((yw l).all KN);have r:=jcW (uH l).length (kA (kD l)).length ((uH l).all uJ);have s:(!qZ (yt l)||decide ((10:Int)<(wi l).length)|| !(wi l).all (m9 (kA (kD l)).length))= !(qZ (yt l)&&(decide ((wi l).length<=10)&&(wi l).all (m9 (kA (kD l)).length))):=by
  have:decide ((10:Int)<(wi l).length)= !decide ((wi l).length<=10):=by
   by_cases e:(wi l).length<=10;rw[jK e,zi (by omega)];rfl;rw[zi e,jK (by omega)];rfl
  rw[this];cases qZ (yt l)<;>cases decide ((wi l).length<=10)<;>rfl
 have m:=ZV l;refine⟨C,fun h=>y _ (jb h) rfl,fun h k _=>⟨fun _ _ _=>tZ,fun g=> ?_,fun g _=>⟨fun _ _ _=>tZ,fun i=> ?_,fun i _=>⟨fun _ _ _=>⟨za _,?_,tZ⟩,fun j=> ?_,fun j w=>⟨⟨0,⟨⟨rfl,tZ⟩,rfl,tZ⟩,jw _,fun b u=>by omega⟩,fun x D=> ?_⟩⟩⟩⟩⟩;have g:=q.symm.trans g;refine c (jd h) ?_;rw[m,show(decide ((yw l).length=(kA (kD l)).length)&&(yw l).all KN)=false from jcq g];rfl;have i:=r.symm.trans i;refine c (jd h) ?_;rw[m,show(decide ((uH l).length=(kA (kD l)).length)&&(uH l).all uJ)=false from jcq i,Bool.and_false];rfl;have k:(kA (kD l)).length<4611686018427387904:=k;show((kA (kD l)).length:Int)<=4611686018427387904;omega;have j:=s.symm.trans j;refine c (jd h) ?_;rw[m,show(qZ (yt l)&&(decide ((wi l).length<=10)&&(wi l).all (m9 (kA (kD l)).length)))=false from jcq j,Bool.and_false];have z:=q.symm.trans g;have A:=r.symm.trans i;have B:=s.symm.trans j;have t:bZ l=true:=by
  rw[m,show(decide ((yw l).length=(kA (kD l)).length)&&(yw l).all KN)=true from jcr z,show(decide ((uH l).length=(kA (kD l)).length)&&(uH l).all uJ)=true from jcr A,show(qZ (yt l)&&(decide ((wi l).length<=10)&&(wi l).all (m9 (kA (kD l)).length)))=true from jcr B];rfl
 obtain⟨E,d⟩:x<=(wi l).length/\∀b:Nat,b<x->ar (wi l) b=false:=D;have w:(wi l).length<4611686018427387904:=w;refine⟨fun f=> ?_,fun f=> ?_⟩;have f:(x:Int)<(wi l).length:=jb f;have a:x<(wi l).length:=(by omega);have cc:=ZU a d;refine⟨za _,f,fun p=> ?_,fun p=>⟨iZ6,x+1,⟨⟨by simp,tZ⟩,(Ko a).symm,tZ⟩,⟨a,fun b u=> ?_⟩,by show(wi l).length-(x+1)<(wi l).length-x;omega⟩⟩;exact o (jd h) t (Nb a (cc.symm.trans p));by_cases e:b=x;subst e;exact cc.symm.trans p;exact d b (by omega);have f:¬(x:Int)<(wi l).length:=jd f;exact n (jd h) t (Kq fun b u=>d b (by omega))
theorem QW:wm PR 59 QT:=vd QU UP Tryz.func59 (kcC Fs (kcC Hs (kcC nB (kcC Ki (kcC Kj (kcC Kk (kcC CQ kcN))))))) koN
end Go.X
namespace Go.Proofs
open Go.Shelf
def Tryz.sortLn_ren:Go.Shelf.Ren:=⟨fun|6=>62|15=>93|14=>92|28=>130|29=>131|20=>122|21=>123|22=>124|23=>125|24=>126|25=>127|26=>128|27=>129|46=>166|47=>167|48=>168|49=>169|50=>170|57=>211|n=>n,fun|22=>45|24=>51|25=>117|3=>3|39=>105|0=>0|53=>180|55=>182|4=>4|46=>174|45=>173|50=>63|5=>5|9=>9|66=>207|70=>211|76=>234|77=>235|n=>n,fun|n=>n⟩
theorem Tryz.sortLn:Go.Proofs.SlLaysF0.n6 Tryz.prog Tryz.sortLn_ren:={
 mixed:=by kernel_rfl
 f6:=⟨Tryz.f62.name,by decide,xlay Tryz.func62⟩
 f14:=⟨Tryz.f92.name,by decide,xlay Tryz.func92⟩
 f15:=xlay Tryz.func93
 f20:=⟨Tryz.f122.name,by decide,xlay Tryz.func122⟩
 f21:=⟨Tryz.f123.name,by decide,xlay Tryz.func123⟩
 f22:=⟨Tryz.f124.name,by decide,xlay Tryz.func124⟩
 f23:=⟨Tryz.f125.name,by decide,xlay Tryz.func125⟩
 f24:=⟨Tryz.f126.name,by decide,xlay Tryz.func126⟩
 f25:=⟨Tryz.f127.name,by decide,xlay Tryz.func127⟩
 f26:=⟨Tryz.f128.name,by decide,xlay Tryz.func128⟩
 f27:=⟨Tryz.f129.name,by decide,xlay Tryz.func129⟩
 f28:=xlay Tryz.func130
 f29:=xlay Tryz.func131
 f46:=⟨Tryz.f166.name,by decide,xlay Tryz.func166⟩
 f47:=xlay Tryz.func167
 f48:=xlay Tryz.func168
 f49:=⟨Tryz.f169.name,by decide,xlay Tryz.func169⟩
 f50:=⟨Tryz.f170.name,by decide,xlay Tryz.func170⟩
 f57:=⟨Tryz.f211.name,by decide,xlay Tryz.func211⟩
 t0:=Tryz.underlying0
 a0:=Tryz.isAgg0
 z0:=Tryz.sizeOf0
 v0:=Tryz.zeroValue0
 t3:=Tryz.underlying3
 a3:=Tryz.isAgg3
 z3:=Tryz.sizeOf3
 v3:=Tryz.zeroValue3
 t4:=Tryz.underlying4
 a4:=Tryz.isAgg4
 z4:=Tryz.sizeOf4
 v4:=Tryz.zeroValue4
 t5:=Tryz.underlying5
 a5:=Tryz.isAgg5
 z5:=Tryz.sizeOf5
 v5:=Tryz.zeroValue5
 t9:=Tryz.underlying9
 a9:=Tryz.isAgg9
 z9:=Tryz.sizeOf9
 v9:=Tryz.zeroValue9
 t22:=Tryz.underlying45
 a22:=Tryz.isAgg45
 z22:=Tryz.sizeOf45
 v22:=Tryz.zeroValue45
 t25:=Tryz.underlying117
 a25:=Tryz.isAgg117
 z25:=Tryz.sizeOf117
 v25:=Tryz.zeroValue117
 t39:=Tryz.underlying105
 a39:=Tryz.isAgg105
 z39:=Tryz.sizeOf105
 v39:=Tryz.zeroValue105
 t45:=Tryz.underlying173
 a45:=Tryz.isAgg173
 z45:=Tryz.sizeOf173
 v45:=Tryz.zeroValue173
 t46:=Tryz.underlying174
 a46:=Tryz.isAgg174
 z46:=Tryz.sizeOf174
 v46:=Tryz.zeroValue174
 t50:=Tryz.underlying63
 a50:=Tryz.isAgg63
 z50:=Tryz.sizeOf63
 v50:=Tryz.zeroValue63
 t53:=Tryz.underlying180
 a53:=Tryz.isAgg180
 z53:=Tryz.sizeOf180
 v53:=Tryz.zeroValue180
 t55:=Tryz.underlying182
 a55:=Tryz.isAgg182
 z55:=Tryz.sizeOf182
 v55:=Tryz.zeroValue182
 t66:=Tryz.underlying207
 a66:=Tryz.isAgg207
 z66:=Tryz.sizeOf207
 v66:=Tryz.zeroValue207
 t70:=Tryz.underlying211
 a70:=Tryz.isAgg211
 z70:=Tryz.sizeOf211
 v70:=Tryz.zeroValue211
 t76:=Tryz.underlying234
 a76:=Tryz.isAgg234
 z76:=Tryz.sizeOf234
 v76:=Tryz.zeroValue234
 t77:=Tryz.underlying235
 a77:=Tryz.isAgg235
 z77:=Tryz.sizeOf235
 v77:=Tryz.zeroValue235}
end Go.Proofs
namespace Go.X
open U
open Go.Proofs
abbrev rwN:Sh:= .cl (.row 3 .int .no)
namespace U
def bl (o:Option BlD):BlD:=kQ (Ty.dflt tBl) o
def O8 (m:List (Int×Option BlD)):Prop:=∀e∈m,∃b,e.2=some b/\pd b
def KO (o:BoD):Prop:=O8 (NF o)/\(NF o).length<=100/\((NF o).map (·.1)).Nodup/\∀e∈NF o,∀b,e.2=some b->ND b=e.1
def O9 (b:BlD) (a:Int) (out:List Int):Prop:=(qL b).length<=8/\(∀p∈qL b,0<=p/\p<(out.length:Int))/\0<=a/\a<=100000000000000000/\∀x∈out,-1000000000000000000<=x/\x<=1000000000000000000
end U
def si:wd:=⟨[.val tLn,.val tLn],[.int],false,fun _=>[],fun d=>(t6 d.1 d.2.1,())⟩
def sj:Prop:=∀(d:JbD×JbD×Unit),(vW [bP d.1.1 d.2.1.1,bP d.1.2.1 d.2.1.2.1],())=(t6 d.1 d.2.1,())
abbrev o7:qb:=S7 tLn 51
def xN:wd:=⟨[.val tBo],[.slice tLn],false,fun d=>[KO d.1],fun d=>(kU d.1,())⟩
def xO:Ann:=fun r=>match r with
 |3=>some fun σ=>{X:=List (Int×Option BlD)×List LnD,sl:=fun _=>[(3,.own 3 tLn)],ob:=fun x=>[(8,some (.iter .int (.ptr tBl) x.1 none)),(3,some (.row 51 tLn false .yes x.2))],inv:=fun x=>(x.2++qH x.1).Perm (qH (NF (gb tBo σ 1)))/\O8 x.1,mu:=fun x=>x.1.length}
 |_=>none
abbrev jgC (a:Int×Option BlD):=(kQ ((((0:Int),(0:Int),(0:Int),(0:Int),(0:Int),(0:Int),()),(0:Int),(0:Int),(0:Int),()),((0:Int),(0:Int),(0:Int),(0:Int),(0:Int),(0:Int),(0:Int),(0:Int),[],[],()),(0:Int),(0:Int),[],(0:Int),(0:Int),false,(0:Int),()) a.2)
abbrev jfW:=(kr (Ty.int.pair (Ty.int.pair (Ty.int.pair (Ty.int.pair (Ty.int.pair (Ty.int.pair Ty.unit)))))) fun(a:JbD×JbD×Unit)=>(t6 a.1 a.2.1,()))
def xP:Prop:=∀(d:BoD×Unit),KO d.1->(∃(x:List (Int×Option BlD)×List JbD),((True/\True)/\d.1.2.1=x.1/\x.2=[]/\True)/\(x.2++qH x.1).Perm (qH (NF d.1))/\O8 x.1)/\∀(x:List (Int×Option BlD)×List JbD),(x.2++qH x.1).Perm (qH (NF d.1))/\O8 x.1->(x.1=[]->(false=true->False)/\(qF->(∀(e:JbD),e∈x.2->∀(y:JbD),y∈x.2->kG [])/\qR jfW x.2/\(ko jfW x.2,())=(kU d.1,())))/\∀(pre:List (Int×Option BlD)) (a:Int×Option BlD) (b:List (Int×Option BlD)),x.1=pre++a::b->(true=true->a.2.isSome=true/\pd (jgC a)/\(x.2.length+[wX (jgC a)].length)*48<=140737488355328/\∃(c:List (Int×Option BlD)×List JbD),((True/\True)/\x.2++[wX (jgC a)]=c.2/\pre++b=c.1/\True)/\((c.2++qH c.1).Perm (qH (NF d.1))/\O8 c.1)/\c.1.length<x.1.length)/\(true=false->(∀(f:JbD),f∈x.2->∀(y:JbD),y∈x.2->kG [])/\qR jfW x.2/\(ko jfW x.2,())=(kU d.1,()))
def Ht:wd:=⟨[.val (.slice .int)],[.int],false,fun d=>[d.1≠[]],fun d=>(gn d.1,())⟩
def Hu:Ann:=fun r=>match r with
 |5=>some fun σ=>{X:=Nat,sl:=fun i=>[(4,.dat .int (i:Int)),(3,.dat .int (((gd (.slice .int) σ 0).take i).foldl max (nth (gd (.slice .int) σ 0) 0)))],ob:=fun _=>[],inv:=fun i=>1<=i/\i<=(gd (.slice .int) σ 0).length,mu:=fun i=>(gd (.slice .int) σ 0).length-i}
 |_=>none
def Hv:Prop:=∀(d:List Int×Unit),d.1≠[]->d.1.length<4611686018427387904->(decide ((d.1.length:Int)<1)=true->False)/\(decide ((d.1.length:Int)<1)=false->(0:Int)<=0/\0<(d.1.length:Int)/\(∃(x:Nat),((1=(x:Int)/\nth d.1 (Int.toNat 0)=List.foldl max (nth d.1 0) (List.take x d.1)/\True)/\True)/\1<=x/\x<=d.1.length)/\∀(x:Nat),1<=x/\x<=d.1.length->d.1.length<4611686018427387904->(decide ((x:Int)<d.1.length)=true->0<=(x:Int)/\(x:Int)<d.1.length/\kK ((x:Int)+1)/\∃(a:Nat),(((x:Int)+1=(a:Int)/\max (List.foldl max (nth d.1 0) (List.take x d.1)) (nth d.1 x)=List.foldl max (nth d.1 0) (List.take a d.1)/\True)/\True)/\(1<=a/\a<=d.1.length)/\d.1.length-a<d.1.length-x)/\(decide ((x:Int)<d.1.length)=false->(List.foldl max (nth d.1 0) (List.take x d.1),())=(gn d.1,())))
def xQ:qb:=⟨[.val (.ptr tBl),.val .int,.own rwN true],[],fun d=>[d.1.isSome=true,O9 (U.bl d.1) d.2.1 d.2.2.1],fun d=>((),(XE d.2.1 (U.bl d.1) d.2.2.1,()))⟩
def xR:Ann:=fun r=>match r with
 |1=>some fun σ=>{X:=Nat,sl:=fun i=>[(13,.dat .int (i:Int))],ob:=fun i=>[(1000002,some (.row 3 .int false .no (wu (gd .int σ 1) (gd (.slice .int) σ 11) (gr .int σ 1000002) i)))],inv:=fun i=>i<=(gd (.slice .int) σ 11).length,mu:=fun i=>(gd (.slice .int) σ 11).length-i}
 |_=>none
abbrev jdA (d:Option BlD×Int×List Int×Unit):=(kQ ((((0:Int),(0:Int),(0:Int),(0:Int),(0:Int),(0:Int),()),(0:Int),(0:Int),(0:Int),()),((0:Int),(0:Int),(0:Int),(0:Int),(0:Int),(0:Int),(0:Int),(0:Int),[],[],()),(0:Int),(0:Int),[],(0:Int),(0:Int),false,(0:Int),()) d.1)
abbrev jei (d:Option BlD×Int×List Int×Unit):=(↑(jdA d).q4.1.length:Int)
abbrev jeZ (d:Option BlD×Int×List Int×Unit)(x:Nat):=(nth (jdA d).q4.1 x)
abbrev jfu (d:Option BlD×Int×List Int×Unit)(x:Nat):=(wu d.2.1 (jdA d).q4.1 d.2.2.1 x)
abbrev jgD (d:Option BlD×Int×List Int×Unit)(x:Nat):=(nth (jfu d x) (jeZ d x).toNat+d.2.1.tdiv (jei d))
abbrev jfv (d:Option BlD×Int×List Int×Unit)(x:Nat):=((jfu d x).set (jeZ d x).toNat (jgD d x))
def xS:Prop:=∀(d:Option BlD×Int×List Int×Unit),d.1.isSome=true->O9 (U.bl d.1) d.2.1 d.2.2.1->d.1.isSome=true/\((jdA d).q4.1.length<4611686018427387904->(∃(x:Nat),((0=(x:Int)/\True)/\d.2.2.1=wu d.2.1 (jdA d).q4.1 d.2.2.1 x/\True)/\x<=(jdA d).q4.1.length)/\∀(x:Nat),x<=(jdA d).q4.1.length->(decide ((x:Int)<(jei d))=true->0<=(x:Int)/\(x:Int)<(jei d)/\0<=nth (jdA d).q4.1 x/\nth (jdA d).q4.1 x<(↑(jfu d x).length:Int)/\d.1.isSome=true/\(jei d)≠0/\kK (d.2.1.tdiv (jei d))/\kK (jgD d x)/\0<=nth (jdA d).q4.1 x/\nth (jdA d).q4.1 x<(↑(jfu d x).length:Int)/\d.1.isSome=true/\((jdA d).q4.1.length<4611686018427387904->(jei d)≠0/\(decide ((x:Int)<d.2.1.tmod (jei d))=true->0<=nth (jdA d).q4.1 x/\nth (jdA d).q4.1 x<(↑(jfv d x).length:Int)/\kK (nth (jfv d x) (jeZ d x).toNat+1)/\0<=nth (jdA d).q4.1 x/\nth (jdA d).q4.1 x<(↑(jfv d x).length:Int)/\kK ((x:Int)+1)/\∃(a:Nat),(((x:Int)+1=(a:Int)/\True)/\(jfv d x).set (jeZ d x).toNat (nth (jfv d x) (jeZ d x).toNat+1)=wu d.2.1 (jdA d).q4.1 d.2.2.1 a/\True)/\a<=(jdA d).q4.1.length/\(jdA d).q4.1.length-a<(jdA d).q4.1.length-x)/\(decide ((x:Int)<d.2.1.tmod (jei d))=false->kK ((x:Int)+1)/\∃(a:Nat),(((x:Int)+1=(a:Int)/\True)/\(jfu d x).set (jeZ d x).toNat (jgD d x)=wu d.2.1 (jdA d).q4.1 d.2.2.1 a/\True)/\a<=(jdA d).q4.1.length/\(jdA d).q4.1.length-a<(jdA d).q4.1.length-x)))/\(decide ((x:Int)<(jei d))=false->()=()/\(wu d.2.1 (jdA d).q4.1 d.2.2.1 x,())=(XE d.2.1 (U.bl d.1) d.2.2.1,())))
theorem tS:sj:=fun _=>rfl
theorem sk:wm PR 63 si:=kZ tS Tryz.func63 (kcC vS (kcC aK kcN)) koN
theorem o8:yE PR 62 o7:=
 BL Tryz.sortLn 51 rfl (jy (by kernel_rfl)) Tryz.isAgg51 Tryz.sizeOf51 (qD Tryz.func62 (c:=wq Tryz.f62) (by kernel_rfl) (by kernel_rfl))
theorem W7:fg t6:=by
 have e:t6=RB (fun a b=>bP (pi a) (pi b)) (fun a b=>bP (yB a) (yB b)):=by
  funext a b;unfold t6;simp only[wx,RB]
  split<;>(try rfl)
  split<;>(try rfl)
  rename_i h;exact(jN.1 h).symm
 rw[e];exact oL (nA ly pi) (nA ly yB)
theorem UQ {a b:LnD} (h:t6 a b=0):yB a=yB b:=by
 unfold t6 at h;rw[wx] at h
 split at h
 contradiction;rw[qE] at h;exact gO.1 h
def jcX (l:List LnD):Prop:=∀a∈l,∀b∈l,yB a=yB b->a=b
theorem jcs {l:List LnD} (h:jcX l):qR (kr tLn fun x=>(t6 x.1 x.2.1,())) l:=Am W7 (fun a b d e c=>h a d b e (UQ c))
theorem FB {o:BoD} (h:KO o):jcX (qH (NF o)):=by
 obtain⟨j,_,c,d⟩:=h;intro a s b t e;obtain⟨x,f,rfl⟩:=jT.1 s;obtain⟨y,g,rfl⟩:=jT.1 t;obtain⟨p,l,_⟩:=j x f;obtain⟨q,m,_⟩:=j y g;have u:=d x f p l;have w:=d y g q m;rw[l,m] at e;have e:ND p=ND q:=e;have n:x.1=y.1:=(by rw[<-u,<-w,e]);have i:=(M.mD (kt:= .int) c (k:=x.1) (v:=x.2)).2 f;have r:=(M.mD (kt:= .int) c (k:=y.1) (v:=y.2)).2 g;rw[n,r] at i;have e2:y.2=x.2:=(by simpa using i);rw[e2]
theorem CW:xP:=by
 unfold xP jfW jgC;rintro⟨o,⟨⟩⟩ n;have p:=FB n;obtain⟨s,d,t,u⟩:=id n;have d:(NF o).length<=100:=d;refine⟨⟨(NF o,[]),⟨⟨tZ,tZ⟩,rfl,rfl,tZ⟩,List.Perm.refl _,s⟩,fun x q=>⟨fun i=>⟨fun h=>(by cases h),fun _=>⟨fun _ _ _ _=>tZ,?_⟩⟩,fun pre e c j=>⟨fun _=> ?_,fun h=>(by cases h)⟩⟩⟩;obtain⟨l,out⟩:=x;have i:l=[]:=i;subst i;have f:(out++[]).Perm (qH (NF o)):=q.1;rw[j7] at f;exact⟨jcs fun a r b g=>p a (f.mem_iff.1 r) b (f.mem_iff.1 g),jS (·,()) (IU (jcs p) f)⟩;obtain⟨l,out⟩:=x;have j:l=pre++e::c:=j;subst j;obtain⟨f,hk⟩:(out++qH (pre++e::c)).Perm (qH (NF o))/\O8 (pre++e::c):=q;obtain⟨b,g,v⟩:=hk e (by simp);have m:=f.length_eq;simp only[qH,jJ,zr,jX] at m;obtain⟨k,z⟩:=e;have g:z=some b:=g;subst g;refine⟨rfl,v,by simp only[jX,zo];omega,(pre++c,out++[wX b]),⟨⟨tZ,tZ⟩,rfl,rfl,tZ⟩,⟨?_,fun y w=>hk y ?_⟩,by simp only[jJ,jX];omega⟩;refine List.Perm.trans ?_ f;simp only[qH,zA,zu,jL,List.singleton_append];exact List.Perm.append_left out List.perm_middle.symm;rcases jr.1 w with h|h;exact jh _ h;exact je _ (jo _ h)
theorem fZ:wm PR 35 xN:=vd xO CW Tryz.func35 (kcC gP (kcC sk kcN)) (koC o8 koN)
theorem Kr:Hv:=by
 rintro⟨l,⟨⟩⟩ a c;have a:l≠[]:=a;have b:0<l.length:=List.length_pos_iff.2 a;refine⟨fun h=> ?_,fun _=>⟨by decide,by simp only;omega,⟨1,⟨⟨rfl,?_,tZ⟩,tZ⟩,jk _,b⟩,fun x d _=>⟨fun h=> ?_,fun h=> ?_⟩⟩⟩;have h:(l.length:Int)<1:=jb h;omega;show nth l 0=List.foldl max (nth l 0) (l.take 1);have:=L.wb (l:=l) (i:=0) b;rw[this];show nth l 0=max (nth l 0) (nth l 0);omega;have h:(x:Int)<l.length:=jb h;have c:l.length<4611686018427387904:=c;refine⟨za _,h,iZ6,x+1,⟨⟨by simp,?_,tZ⟩,tZ⟩,⟨by omega,by show x+1<=l.length;omega⟩,by show l.length-(x+1)<l.length-x;omega⟩;show max (List.foldl max (nth l 0) (l.take x)) (nth l x)=List.foldl max (nth l 0) (l.take (x+1));rw[L.wb (show x<l.length by omega),jU];rfl;have h:¬(x:Int)<l.length:=jd h;show(List.foldl max (nth l 0) (l.take x),())=(gn l,());rw[zy (by omega)];rfl
theorem Hw:wm PR 72 Ht:=vd Hu Kr Tryz.func72 kcN koN
theorem FD (a:Int) (tm out:List Int) (k:Nat):wu a tm out (k+1)=HY a tm (wu a tm out k) k:=by
 unfold wu;rw[zq,jU];rfl
theorem CX {a M:Int} {tm out:List Int} (h:0<=a/\a<=100000000000000000) (d:∀p∈tm,0<=p/\p<(out.length:Int)) (c:∀x∈out,-1000000000000000000<=x/\x<=M):
 ∀k,k<=tm.length->(wu a tm out k).length=out.length/\∀j,j<out.length->-1000000000000000000<=nth (wu a tm out k) j/\nth (wu a tm out k) j<=M+(k:Int)*100000000000000001
 |0,_=>⟨rfl,fun j e=>by
  have:=c _ (L.kx e)
  show _<=nth out j/\nth out j<=_
  omega⟩
 |k+1,hk=>by
  obtain⟨f,g⟩:=CX h d c k (by omega)
  have m:=d _ (L.kx (show k<tm.length by omega))
  have n:=W2 (b:=(tm.length:Int)) h (by omega)
  rw[FD]
  unfold HY
  refine⟨by rw[List.length_set,f],fun j e=> ?_⟩
  rw[L.aO (by rw[f];omega)]
  have i:=g j e
  have l:=g (nth tm k).toNat (by omega)
  split
  split<;>omega
  omega
theorem CY:xS:=by
 unfold xS jfv jgD jfu jeZ jei jdA Prod.q4;rintro⟨o,a,out,⟨⟩⟩ j w;obtain⟨b,rfl⟩:∃b,o=some b:=Option.isSome_iff_exists.1 j;obtain⟨z,p,q,r,v⟩:O9 b a out:=w;have F:=CX (tm:=qL b) ⟨q,r⟩ p v;refine⟨rfl,fun B=>⟨⟨0,⟨⟨rfl,tZ⟩,rfl,tZ⟩,jw _⟩,fun x t=>⟨fun h=> ?_,fun h=>⟨rfl,?_⟩⟩⟩⟩;have h:(x:Int)<(qL b).length:=jb h;have n:x<(qL b).length:=(by omega);obtain⟨k,u⟩:=F x (by omega);have d:=p _ (L.kx n);have y:=W2 (b:=((qL b).length:Int)) ⟨q,r⟩ (by omega);have A:=u (nth (qL b) x).toNat (by omega);have l:(nth (qL b) x).toNat<(wu a (qL b) out x).length:=(by rw[k];omega);have j:=FD a (qL b) out x;have f:((qL b).length:Int)≠0:=(by omega);have g:nth (qL b) x<((wu a (qL b) out x).length:Int):=(by rw[k];exact d.2);have s:nth ((wu a (qL b) out x).set (nth (qL b) x).toNat (nth (wu a (qL b) out x) (nth (qL b) x).toNat+a.tdiv ((qL b).length:Int))) (nth (qL b) x).toNat=nth (wu a (qL b) out x) (nth (qL b) x).toNat+a.tdiv ((qL b).length:Int):=by
  rw[L.aO l,jg rfl]
 refine⟨za _,h,d.1,g,rfl,f,CG y (by omega),L.Du (by show _<=nth (wu a (qL b) out x) (nth (qL b) x).toNat+a.tdiv ((qL b).length:Int);omega) (by show nth (wu a (qL b) out x) (nth (qL b) x).toNat+a.tdiv ((qL b).length:Int)<=_;omega),d.1,g,rfl,fun _=>⟨f,fun c=> ?_,fun c=> ?_⟩⟩;have c:(x:Int)<a.tmod ((qL b).length:Int):=jb c;have m:((wu a (qL b) out x).set (nth (qL b) x).toNat (nth (wu a (qL b) out x) (nth (qL b) x).toNat+a.tdiv ((qL b).length:Int))).length=out.length:=(by rw[List.length_set,k]);have i:nth (qL b) x<(((wu a (qL b) out x).set (nth (qL b) x).toNat (nth (wu a (qL b) out x) (nth (qL b) x).toNat+a.tdiv ((qL b).length:Int))).length:Int):=(by rw[m];exact d.2);refine⟨d.1,i,?_,d.1,i,iZ6,x+1,⟨⟨by simp,tZ⟩,?_,tZ⟩,by show x+1<=(qL b).length;omega,by show(qL b).length-(x+1)<(qL b).length-x;omega⟩;show kK (nth ((wu a (qL b) out x).set (nth (qL b) x).toNat (nth (wu a (qL b) out x) (nth (qL b) x).toNat+a.tdiv ((qL b).length:Int))) (nth (qL b) x).toNat+1);rw[s];exact iZ6;show((wu a (qL b) out x).set (nth (qL b) x).toNat (nth (wu a (qL b) out x) (nth (qL b) x).toNat+a.tdiv ((qL b).length:Int))).set (nth (qL b) x).toNat (nth ((wu a (qL b) out x).set (nth (qL b) x).toNat (nth (wu a (qL b) out x) (nth (qL b) x).toNat+a.tdiv ((qL b).length:Int))) (nth (qL b) x).toNat+1)=wu a (qL b) out (x+1);rw[s,List.set_set,j];unfold HY;rw[jg c];have c:¬(x:Int)<a.tmod ((qL b).length:Int):=jd c;refine⟨iZ6,x+1,⟨⟨by simp,tZ⟩,?_,tZ⟩,by show x+1<=(qL b).length;omega,by show(qL b).length-(x+1)<(qL b).length-x;omega⟩;show(wu a (qL b) out x).set (nth (qL b) x).toNat (nth (wu a (qL b) out x) (nth (qL b) x).toNat+a.tdiv ((qL b).length:Int))=wu a (qL b) out (x+1);rw[j];unfold HY;rw[jc c,Int.add_zero];have h:¬(x:Int)<(qL b).length:=jd h;have t:x<=(qL b).length:=t;have e:x=(qL b).length:=(by omega);subst e;rfl
theorem xT:yE PR 71 xQ:=ux xR CY Tryz.func71 kcN koN
namespace U
def Vq (o:BoD):Prop:=KO o/\(yw (bL o)).length<=100/\(∀n∈yw (bL o),0<=n/\n<=20)/\∀e∈NF o,∀b,e.2=some b->NE b∈yw (bL o)
def Vr (o:BoD):Prop:=KO o/\(kB (kE (kD (bL o)))).length<=100/\∀e∈NF o,∀b,e.2=some b->∀p∈qL b,0<=p/\p<((kB (kE (kD (bL o)))).length:Int)
end U
def tT:wd:=⟨[.val tBo],[.slice .int],false,fun d=>[Vq d.1],fun d=>(Rt d.1,())⟩
def tU:Ann:=fun r=>match r with
 |5=>some fun σ=>{X:=Nat,sl:=fun i=>[(20,.dat .int (i:Int))],ob:=fun i=>[(3,some (.row 3 .int false .no (gu (gn (yw (bL (gb tBo σ 1)))+1).toNat (gd (.slice tLn) σ 18) i)))],inv:=fun i=>i<=(gd (.slice tLn) σ 18).length,mu:=fun i=>(gd (.slice tLn) σ 18).length-i}
 |_=>none
abbrev jej (d:BoD×Unit)(x:Nat):=(nth (kU d.1) x)
abbrev jfX (d:BoD×Unit):=(gn (yw (bL d.1))+1)
abbrev jfw (d:BoD×Unit)(x:Nat):=(gu (jfX d).toNat (kU d.1) x)
def tV:Prop:=∀(d:BoD×Unit),Vq d.1->d.1.1.2.1.length<4611686018427387904->(decide ((d.1.1.2.1.length:Int)=0)=true->([],())=(Rt d.1,()))/\(decide ((d.1.1.2.1.length:Int)=0)=false->d.1.1.2.1≠[]/\kK (gn d.1.1.2.1+1)/\0<=gn d.1.1.2.1+1/\gn d.1.1.2.1+1=gn d.1.1.2.1+1/\(gn d.1.1.2.1+1).toNat*8<=140737488355328/\KO d.1/\((kU d.1).length<4611686018427387904->(∃(x:Nat),((0=(x:Int)/\True)/\List.replicate (gn d.1.1.2.1+1).toNat 0=gu (jfX d).toNat (kU d.1) x/\True)/\x<=(kU d.1).length)/\∀(x:Nat),x<=(kU d.1).length->(decide ((x:Int)<(kU d.1).length)=true->0<=(x:Int)/\(x:Int)<(kU d.1).length/\(0:Int)<=(jej d x).1/\(jej d x).1<(↑(jfw d x).length:Int)/\kK (nth (jfw d x) (jej d x).1.toNat+(jej d x).q4.2.1)/\(0:Int)<=(jej d x).1/\(jej d x).1<(↑(jfw d x).length:Int)/\kK ((x:Int)+1)/\∃(a:Nat),(((x:Int)+1=(a:Int)/\True)/\(jfw d x).set (jej d x).1.toNat (nth (jfw d x) (jej d x).1.toNat+(jej d x).q4.2.1)=gu (jfX d).toNat (kU d.1) a/\True)/\a<=(kU d.1).length/\(kU d.1).length-a<(kU d.1).length-x)/\(decide ((x:Int)<(kU d.1).length)=false->(gu (jfX d).toNat (kU d.1) x,())=(Rt d.1,()))))
def Eg:wd:=⟨[.val tBo,.val .int],[.slice .int],false,fun d=>[Vr d.1],fun d=>(Ru d.1 d.2.1,())⟩
abbrev jd6 (d:BoD×Int×Unit):=(kW none (kJ Ty.int d.2.1 d.1.2.1))
abbrev jfx (d:BoD×Int×Unit):=(kQ ((((0:Int),(0:Int),(0:Int),(0:Int),(0:Int),(0:Int),()),(0:Int),(0:Int),(0:Int),()),((0:Int),(0:Int),(0:Int),(0:Int),(0:Int),(0:Int),(0:Int),(0:Int),[],[],()),(0:Int),(0:Int),[],(0:Int),(0:Int),false,(0:Int),()) (jd6 d))
abbrev jeH (d:BoD×Int×Unit):=(d.1.1.1.1.2.1.length:Int)
abbrev jhl (d:BoD×Int×Unit):=(XE (wX (jfx d)).2.2.1 (U.bl (jd6 d)) (List.replicate (jeH d).toNat (0:Int)))
def Eh:Prop:=∀(d:BoD×Int×Unit),Vr d.1->d.1.1.1.1.2.1.length<4611686018427387904->0<=(jeH d)/\(jeH d)=(jeH d)/\(jeH d).toNat*8<=140737488355328/\((!(jd6 d).isNone)=true->(jd6 d).isSome=true/\pd (jfx d)/\(jd6 d).isSome=true/\O9 (U.bl (jd6 d)) (wX (jfx d)).2.2.1 (List.replicate (jeH d).toNat (0:Int))/\(jd6 d).isSome=true/\O9 (U.bl (jd6 d)) (wX (jfx d)).2.2.2.1 (jhl d)/\(XE (wX (jfx d)).2.2.2.1 (U.bl (jd6 d)) (jhl d),())=(Ru d.1 d.2.1,()))/\((!(jd6 d).isNone)=false->(List.replicate (jeH d).toNat (0:Int),())=(Ru d.1 d.2.1,()))
theorem Hx:Eh:=by
 unfold Eh jhl jeH jfx jd6;intro d A E;obtain⟨m,l,k⟩:Vr d.1:=A;have l:(kB (kE (kD (bL d.1)))).length<=100:=l;refine⟨za _,rfl,?_,fun h=> ?_,fun h=> ?_⟩;show(((kB (kE (kD (bL d.1)))).length:Int)).toNat*8<=140737488355328;omega;obtain⟨b,e⟩:∃b,kW none (kJ Ty.int d.2.1 d.1.2.1)=some b:=by
  cases g:kW none (kJ Ty.int d.2.1 d.1.2.1) with
  |none=>rw[g] at h;cases h
  |some b=>exact⟨b,rfl⟩
 have i:(d.2.1,some b)∈NF d.1:=by
  refine(M.mD (kt:= .int) m.2.2.1).1 ?_;cases g:kJ (β:=Option BlD) Ty.int d.2.1 d.1.2.1 with
  |none=>rw[g] at e;cases e
  |some v=>rw[g] at e;exact g.trans (jS some e)
 obtain⟨z,o,u⟩:=m.1 _ i;have o:some b=some z:=o;simp only[jv] at o;subst o;have w:J9 b:=aL.1 u;have D:=k _ i b rfl;have n:=w.bl.tm;have s:=Hk w;have C:=Hl w;have ep:Ru d.1 d.2.1=jap (kB (kE (kD (bL d.1)))).length (some b):=jS (jap (kB (kE (kD (bL d.1)))).length) e;rw[e,ep];have f:∀p∈qL b,0<=p/\p<((List.replicate (kB (kE (kD (bL d.1)))).length (0:Int)).length:Int):=fun p q=>by rw[zC];exact D p q
 obtain⟨r,y⟩:=CX (a:=qo b) (M:=0) (tm:=qL b) ⟨s.1,by omega⟩ f (fun x c=>by rw[List.eq_of_mem_replicate c];omega) (qL b).length (jk _);refine⟨rfl,u,rfl,⟨n,f,s.1,?_,fun x c=> ?_⟩,rfl,⟨n,fun p q=> ?_,C.1,?_,fun x c=> ?_⟩,rfl⟩;show qo b<=100000000000000000;omega;have c:x∈List.replicate (kB (kE (kD (bL d.1)))).length (0:Int):=c;rw[List.eq_of_mem_replicate c];omega;have B:=f p q;show 0<=p/\p<((wu (qo b) (qL b) (List.replicate (kB (kE (kD (bL d.1)))).length (0:Int)) (qL b).length).length:Int);rw[r];exact B;show qM b<=100000000000000000;omega;have c:x∈wu (qo b) (qL b) (List.replicate (kB (kE (kD (bL d.1)))).length (0:Int)) (qL b).length:=c;obtain⟨j,t,rfl⟩:=L.mem_iff.1 c;have:=y j (by rw[r] at t;exact t);omega;have e:kW none (kJ Ty.int d.2.1 d.1.2.1)=none:=by
  cases g:kW none (kJ Ty.int d.2.1 d.1.2.1) with
  |none=>rfl
  |some b=>rw[g] at h;cases h
 have ep:Ru d.1 d.2.1=jap (kB (kE (kD (bL d.1)))).length none:=jS (jap (kB (kE (kD (bL d.1)))).length) e;rw[ep];rfl
theorem Ei:wm PR 45 Eg:=kZ Hx Tryz.func45 (kcC gP kcN) (koC xT koN)
theorem Nc {b:BlD} (w:J9 b): -1000000<=bY (wX b)/\bY (wX b)<=20000000000000000:=by
 have c:=Hk w;have d:=Hl w;have e:=w.bl.ta.cp;have a:0<=(qo b+qM b)*nth (aF (yC b)) (iH (yQ (qi b))).toNat/\(qo b+qM b)*nth (aF (yC b)) (iH (yQ (qi b))).toNat<=10000001000000000*100:=ON (by omega) (UC w.bl);have f:=W2 (b:=100) a (by omega);show-1000000<=qo b+qM b-nG b/\qo b+qM b-nG b<=20000000000000000;unfold nG;omega
theorem QX {o:BoD} (h:KO o) {x:LnD} (c:x∈kU o):∃k b,(k,some b)∈NF o/\J9 b/\x=wX b:=by
 have c:x∈qH (NF o):=(wj _).mem_iff.1 c;obtain⟨⟨k,v⟩,d,rfl⟩:=jT.1 c;obtain⟨b,a,e⟩:=h.1 _ d;have a:v=some b:=a;subst a;exact⟨k,b,d,aL.1 e,rfl⟩
theorem QY {o:BoD} (h:KO o):(kU o).length<=100:=by
 have e:(kU o).length=(qH (NF o)).length:=(wj _).length_eq;have e2:(qH (NF o)).length=(NF o).length:=zr _;have:=h.2.1;omega
theorem CZ:∀(l:List Int) (a:Int),a<=l.foldl max a/\(∀n∈l,n<=l.foldl max a)/\(l.foldl max a=a\/l.foldl max a∈l)
 |[],a=>⟨zI _,fun n c=>(by cases c),Or.inl rfl⟩
 |x::r,a=>by
  obtain⟨e,d,b⟩:=CZ r (max a x)
  show a<=r.foldl max (max a x)/\_/\(r.foldl max (max a x)=a\/r.foldl max (max a x)∈x::r)
  refine⟨by omega,fun n c=> ?_,?_⟩
  show n<=r.foldl max (max a x)
  rcases jj.1 c with rfl|c
  omega
  exact d n c
  rcases b with b|b
  rcases Int.le_total a x with h|h
  right;rw[b,Int.max_eq_right h];simp
  left;rw[b,Int.max_eq_left h]
  right;exact jo _ b
theorem ZW {l:List Int} {n:Int} (h:n∈l):n<=gn l:=(CZ l (nth l 0)).2.1 n h
theorem W8 {l:List Int} (h:l≠[]):gn l∈l:=by
 rcases(CZ l (nth l 0)).2.2 with a|a;have:gn l=nth l 0:=a;rw[this];exact L.kx (List.length_pos_iff.2 h);exact a
theorem FF {n:Nat} {l:List LnD} {k:Nat} (h:k<l.length):gu n l (k+1)=XD (gu n l k) (nth l k):=by
 unfold gu;rw[L.wb h,jU];rfl
theorem Ks {n:Nat} {l:List LnD} (h:∀x∈l,(0<=pi x/\pi x<(n:Int))/\-1000000<=bY x/\bY x<=20000000000000000):
 ∀k,k<=l.length->(gu n l k).length=n/\∀j,j<n->-1000000*(k:Int)<=nth (gu n l k) j/\nth (gu n l k) j<=20000000000000000*(k:Int)
 |0,_=>⟨zC,fun j a=>by
  have:nth (gu n l 0) j=0:=L.nth_rep a
  rw[this];omega⟩
 |k+1,hk=>by
  obtain⟨b,c⟩:=Ks h k (by omega)
  obtain⟨⟨f,g⟩,i,m⟩:=h _ (L.kx (show k<l.length by omega))
  rw[FF (by omega)]
  unfold XD
  refine⟨by rw[List.length_set,b],fun j a=> ?_⟩
  rw[L.aO (by rw[b];omega)]
  have d:=c j a
  have e:=c (pi (nth l k)).toNat (by omega)
  split<;>omega
theorem xU:tV:=by
 unfold tV jfw jfX jej Prod.q4;intro d s C;obtain⟨c,a,i,w⟩:Vq d.1:=s;have a:(yw (bL d.1)).length<=100:=a;refine⟨fun h=> ?_,fun h=> ?_⟩;have h:((yw (bL d.1)).length:Int)=0:=jb h;have e:Rt d.1=[]:=jg (by omega);rw[e];have h:¬((yw (bL d.1)).length:Int)=0:=jd h;have g:yw (bL d.1)≠[]:=fun e=>h (by rw[e];rfl)
 have D:=i _ (W8 g);have e:Rt d.1=gu (gn (yw (bL d.1))+1).toNat (kU d.1) (kU d.1).length:=jc (by omega);have m:∀x∈kU d.1,(0<=pi x/\pi x<(((gn (yw (bL d.1))+1).toNat:Nat):Int))/\-1000000<=bY x/\bY x<=20000000000000000:=fun x m=>by
  obtain⟨k,b,t,u,rfl⟩:=QX c m;have n:=w _ t b rfl;have A:=ZW n;have v:=i _ n;refine⟨⟨v.1,?_⟩,Nc u⟩;show NE b<_;omega
 have F:=Ks m;have B:=QY c;refine⟨g,L.Du (by show _<=gn (yw (bL d.1))+1;omega) (by show gn (yw (bL d.1))+1<=_;omega),by show 0<=gn (yw (bL d.1))+1;omega,rfl,by show(gn (yw (bL d.1))+1).toNat*8<=140737488355328;omega,c,fun _=>⟨⟨0,⟨⟨rfl,tZ⟩,rfl,tZ⟩,jw _⟩,fun x j=>⟨fun f=> ?_,fun f=> ?_⟩⟩⟩;have f:(x:Int)<(kU d.1).length:=jb f;have l:x<(kU d.1).length:=(by omega);obtain⟨⟨o,y⟩,E,G⟩:=m _ (L.kx l);obtain⟨q,r⟩:=F x (by omega);have z:=r (pi (nth (kU d.1) x)).toNat (by omega);have p:pi (nth (kU d.1) x)<((gu (gn (yw (bL d.1))+1).toNat (kU d.1) x).length:Int):=(by rw[q];exact y);refine⟨za _,f,o,p,?_,o,p,iZ6,x+1,⟨⟨by simp,tZ⟩,(FF l).symm,tZ⟩,by show x+1<=(kU d.1).length;omega,by show(kU d.1).length-(x+1)<(kU d.1).length-x;omega⟩;show kK (nth (gu (gn (yw (bL d.1))+1).toNat (kU d.1) x) (pi (nth (kU d.1) x)).toNat+bY (nth (kU d.1) x));exact iZ6;have f:¬(x:Int)<(kU d.1).length:=jd f;have j:x<=(kU d.1).length:=j;have ex:x=(kU d.1).length:=(by omega);subst ex;rw[e]
theorem tW:wm PR 46 tT:=vd tU xU Tryz.func46 (kcC Hw (kcC fZ kcN)) koN
namespace U
def bo (l:LgD):BoD:=(l,H5 l,())
def ku (l:LgD):List LnD:=if kY l=0 then kU (bo l) else[]
def KP (l:LgD):List Int:=if kY l=0 then Rt (bo l) else[]
def qj (l:LgD) (n:Int):Bool:=kk n 0 (((kA (kD l)).length:Int)-1)
def KQ (l:LgD) (n:Int):List Int:=if wo l (qj l n)=0 then Ru (bo l) n else[]
def qw (m:Int):Bool:=kk m (-100000) 1440
def yd (m:Int):Bool:=kk m 0 1000000000
def bO (l:LgD) (n m:Int):Int:=if wo l (qj l n&&qw m)=0 then(match O6 (bo l) n with|some b=>bY (wX b)-yp m b|none=>0) else 0
end U
theorem Hy {l:LgD} {e:Int×Option BlD} (h:e∈H5 l):∃n,n∈kl (kD l)/\e=(n,some (kT l n)):=by
 rw[CJ] at h;obtain⟨n,a,rfl⟩:=jT.1 h;exact⟨n,a,rfl⟩
theorem OS {l:LgD} (h:mz l):(kl (kD l)).length<=4:=by
 have a:=h.dy;unfold wL at a;rw[ji] at a;have a:=(jb a.1).1;unfold kl
 split
 unfold yP;rw[zr];exact jE (z7 _ _) (by rw[zG];exact a);exact jw _
theorem UR {l:LgD} (h:mz l):KO (U.bo l):=by
 refine⟨fun e c=> ?_,?_,?_,fun e c b a=> ?_⟩;obtain⟨n,d,rfl⟩:=Hy c;exact⟨_,rfl,aL.2 (Kb h (Hn d))⟩;show(H5 l).length<=100;have:=OS h;rw[CJ,zr];omega;show((H5 l).map (·.1)).Nodup;rw[CJ,List.map_map];have e:((fun(x:Int×Option BlD)=>x.1)∘fun n=>(n,some (kT l n)))=id:=rfl;rw[e,List.map_id];exact mw _;obtain⟨n,d,rfl⟩:=Hy c;have a:some (kT l n)=some b:=a;simp only[jv] at a;subst a;exact(qS l n _ (jk _)).2.2.1
theorem jct {l:LgD} (h:mz l):Vq (U.bo l):=by
 have d:(kA (kD l)).length<=4:=by
  have c:=h.dy;unfold wL at c;rw[ji] at c;exact(jb c.1).1
 refine⟨UR h,?_,h.py.2,fun e f b a=> ?_⟩;show(yw l).length<=100;rw[h.py.1];omega;obtain⟨n,i,rfl⟩:=Hy f;have a:some (kT l n)=some b:=a;simp only[jv] at a;subst a;have e:NE (kT l n)=nth (yw l) n.toNat:=(qS l n _ (jk _)).2.2.2.1;rw[e];have:=Hn i;have g:n.toNat<(yw l).length:=(by rw[h.py.1];omega);exact L.kx g
theorem jcu {l:LgD} (h:mz l):Vr (U.bo l):=by
 refine⟨UR h,?_,fun e c b a=> ?_⟩;show(kB (kE (kD l))).length<=100;have:=jb0 h;omega;obtain⟨n,d,rfl⟩:=Hy c;have a:some (kT l n)=some b:=a;simp only[jv] at a;subst a;have e:qL (kT l n)=wM l n (kB (kE (kD l))).length:=(qS l n _ (jk _)).2.2.2.2.1;rw[e];exact(CK _ _).2
namespace U
def nI (l:LgD) (b:Int):BkD:=nth (kA (kD l)) b.toNat
def qp (l:LgD) (b:Int) (x:Int×Bool) (c:CaD):Int×Bool:=if yo c=b/\aV c<=w8 (nI l b)/\(x.2=false\/aV c<x.1) then(aV c,true) else x
def Dp (l:LgD) (b:Int) (k:Nat):Int×Bool:=((wi l).take k).foldl (qp l b) (0,false)
def t7 (l:LgD) (b:Int):Int×Bool:=Dp l b (wi l).length
def Dq (l:LgD) (b:Int) (i:Nat):Bool:=decide (VB (yt l)<=w8 (nI l b)+i)||decide (w8 (nI l b)+i<Yo (yt l))
def pf (l:LgD) (b:Int) (k:Nat):Int:=(((List.range k).countP (Dq l b):Nat):Int)
def Rv (l:LgD) (b:Int):Int:=pf l b (fK (nI l b)-w8 (nI l b)).toNat
def Dr (l:LgD) (b m:Int):Int:=m*jam (yt l)*max (jan (yt l)) (up (fK (nI l b)-w8 (nI l b)) (Rq (yt l)))
def FS (l:LgD) (b m:Int):Int:=Dr l b m+up (Dr l b m*O5 (yt l)*Rv l b) (100*(fK (nI l b)-w8 (nI l b)))
def uK (l:LgD) (b m:Int) (n:NoD):Bool:=decide (VA n<=w8 (nI l b)-m)
def HZ (l:LgD) (b m:Int):Int:=if 0<=vV (uK l b m) (qT (yt l)) then tY (nth (qT (yt l)) (vV (uK l b m) (qT (yt l))).toNat) else 100
def XF (l:LgD) (b t:Int):Int:=if(t7 l b).2=true then up (FS l b (BT.size t)*HZ l b (t7 l b).1) 100 else FS l b (BT.size t)
def XG (l:LgD) (b t:Int):Int:=if(t7 l b).2=true then 0 else Yp (yt l)*nth (uH l) b.toNat*BT.size t
def XH (l:LgD) (b t:Int):Int:=min (Rr (yt l)) (((XF l b t+XG l b t)*nth (aF (yt l)) (iH (yQ (nI l b))).toNat).tdiv 100)
def w7 (l:LgD) (b t:Int):LnD:=(nth (yw l) b.toNat,b,XF l b t,XG l b t,XH l b t,XF l b t+XG l b t-XH l b t,())
def mB (l:LgD) (b:Int):Int:=nth (O4 (kD l)) b.toNat
def K0 (l:LgD) (b:Int):Bool:=Dl (kE (kD l)) (yQ (nI l b)) (mB l b)
def jc4 (l:LgD) (p:Int) (b:Nat):Bool:=K0 l (b:Int)&&decide (nth (yw l) b=p)
def Vs (l:LgD) (p:Int) (k:Nat):List LnD:=((List.range k).filter (jc4 l p)).map (fun(b:Nat)=>w7 l (b:Int) (mB l (b:Int)))
def fN (l:LgD) (n:Nat):List LnD:=(List.range n).flatMap (fun(p:Nat)=>Vs l (p:Int) (yw l).length)
def vn (l:LgD):List LnD:=fN l 21
def cA (l:LgD) (k:Nat):Int:=((yw l).take k).foldl (fun m p=>max m (p+1)) 0
def jbK (l:LgD):Int:=cA l (yw l).length
def gK (l:LgD) (b:Int):Int:=if K0 l b=true then bY (w7 l b (mB l b)) else 0
def aI (l:LgD) (b m:Int):LgD:=(kD l,yw l,uH l,yt l,wi l++[(0,b,m,())],())
def jcM (l:LgD) (b:Int):Prop:=qZ (yt l)=true/\(0<=b/\b<((kA (kD l)).length:Int))/\(yw l).length=(kA (kD l)).length/\(uH l).length=(kA (kD l)).length/\(∀n∈uH l,0<=n/\n<=300)/\
 (0<=w8 (nI l b)/\w8 (nI l b)<fK (nI l b)/\fK (nI l b)<=1440)/\(0<=iH (yQ (nI l b))/\iH (yQ (nI l b))<=3)/\(wi l).length<=1000/\∀c∈wi l,-100000<=aV c/\aV c<=1440
end U
theorem jbq {l:LgD} (h:mz l) {b:Int} (a:0<=b/\b<((kA (kD l)).length:Int)):jcM l b:=by
 obtain⟨d,e⟩:=rZ h a;exact⟨fF.2 h.ta,a,h.py.1,h.tr.1,h.tr.2,d,e,by have:=h.cl.1;omega,fun c f=>(h.cl.2 c f).2.2⟩
theorem C4 {l:LgD} {b:Int} {k:Nat} (h:k<(wi l).length):Dp l b (k+1)=qp l b (Dp l b k) (nth (wi l) k):=by
 unfold Dp;rw[L.wb h,jU];rfl
theorem ZX {l:LgD} {b:Int} (h:∀c∈wi l,-100000<=aV c/\aV c<=1440):∀k,k<=(wi l).length->-100000<=(Dp l b k).1/\(Dp l b k).1<=1440
 |0,_=>by show-100000<=(0:Int)/\(0:Int)<=1440;omega
 |k+1,hk=>by
  rw[C4 (by omega)]
  unfold qp
  split
  exact h _ (L.kx (by omega))
  exact ZX h k (by omega)
theorem Kt {l:LgD} {n:Int}:∀k,k<=(wi l).length->(pk (kC l n k),sF (kC l n k))=Dp l n k
 |0,_=>rfl
 |k+1,hk=>by
  have d:=Kt (l:=l) (n:=n) k (by omega)
  have c:qi (kC l n k)=nI l n:=(qS l n k (by omega)).1
  rw[cv (by omega),C4 (by omega),<-d]
  unfold ga qp
  by_cases a:yo (nth (wi l) k)=n
  rw[jg a]
  unfold vX
  rw[c]
  by_cases b:aV (nth (wi l) k)<=w8 (nI l n)/\(sF (kC l n k)=false\/aV (nth (wi l) k)<pk (kC l n k))
  rw[jg b,jg ⟨a,b⟩];rfl
  rw[jc b,jc (fun h=>b h.2)]
  rw[jc a,jc (fun h=>a h.1)]
theorem US {l:LgD} {b:Int} (a:Yo (yt l)<=VB (yt l)):∀k:Nat,pf l b k=max 0 (w8 (nI l b)+k-max (w8 (nI l b)) (VB (yt l)))+max 0 (min (w8 (nI l b)+k) (Yo (yt l))-w8 (nI l b))
 |0=>by
  show(0:Int)=_
  omega
 |k+1=>by
  have c:=US (b:=b) a k
  have e:pf l b (k+1)=pf l b k+(if Dq l b k=true then 1 else 0):=by
   unfold pf;rw[zq,zR,List.countP_singleton]
   split<;>simp
  rw[e,c];by_cases h:Dq l b k=true;rw[jg h];unfold Dq at h;rw[zm,js,js] at h;omega;rw[jc h];unfold Dq at h;rw[zm,js,js] at h;omega
theorem ZY (l:LgD) (b:Int) (k:Nat):0<=pf l b k/\pf l b k<=(k:Int):=by
 unfold pf;have:=List.countP_le_length (p:=Dq l b) (l:=List.range k);rw[zG] at this;omega
theorem FG {w:Int} (h:0<=w):U.up (w*100) 100=w:=by
 unfold U.up;rw[zM (by omega)];omega
theorem OT {d:DyD} (h:dW d=0) {b:Nat} (g:b<(kA d).length):(((sy (nth (O4 d) b) (kB (kE d)).length).length:Nat):Int)=BT.size (nth (O4 d) b):=by
 have e:O4 d=(Vl d).1:=jg h;have a:=Yf h g;rw[<-e] at a;have l:(kB (kE d)).length<=8:=by
  have c:=(Yb h).1;unfold kR at c;rw[ji] at c;exact(jb c.1).2.2.1
 have k:BT.qV (nth (O4 d) b):=⟨a.1,Int.lt_trans a.2 (by
  have:(2:Int)^(kB (kE d)).length<2^62:=by
   rw[BT.two_nat,BT.two_nat];exact Int.ofNat_lt.2 (Nat.pow_lt_pow_right (by decide) (by omega))
  exact this)⟩
 unfold sy BT.size;rw[zr,<-List.countP_eq_length_filter];obtain⟨m,j⟩:∃m,62=(kB (kE d)).length+m:=⟨62-(kB (kE d)).length,by omega⟩;rw[j,List.range_add,zR];have z:List.countP (fun p=>BT.has (nth (O4 d) b) p) (List.map (fun x=>(kB (kE d)).length+x) (List.range m))=0:=by
  rw[zN];intro p f i;obtain⟨q,n,rfl⟩:=jT.1 f;have:=BT.has_lt a.1 a.2 i;omega
 rw[z,zK];congr 1;refine List.countP_congr fun p f=> ?_
 have:=Ar k (p:Int);rw[this];simp
theorem OU {l:LgD} (h:dW (kD l)=0) (u:Yo (yt l)<=VB (yt l)) {n:Int} (A:0<=n/\n<((kA (kD l)).length:Int)) (z:w8 (nI l n)<fK (nI l n)) (v:0<=pj (aH l n)):wX (kT l n)=w7 l n (mB l n):=by
 obtain⟨c1,c2,e,f,y,g,i⟩:=qS l n _ (jk _);have c1:qi (kT l n)=nI l n:=c1;have c2:yC (kT l n)=yt l:=c2;have e:ND (kT l n)=n:=e;have f:NE (kT l n)=nth (yw l) n.toNat:=f;have g:pj (kT l n)=pj (aH l n):=g;have i:EB (kT l n)=EB (aH l n):=i;have a:=Kt (l:=l) (n:=n) _ (jk _);have w:pk (kT l n)=(t7 l n).1:=jS (·.1) a;have s:sF (kT l n)=(t7 l n).2:=jS (·.2) a;have b:(((wM l n (kB (kE (kD l))).length).length:Nat):Int)=BT.size (mB l n):=by
  unfold wM mB;rw[ZI,jg h,<-(jg h:O4 (kD l)=_)];exact OT h (by omega)
 have k:yx (sA l n (wM l n (kB (kE (kD l))).length))=Rv l n:=by
  unfold Rv;rw[US u];show max 0 (fK (nI l n)-max (w8 (nI l n)) (VB (yt l)))+max 0 (min (fK (nI l n)) (Yo (yt l))-w8 (nI l n))=_;omega
 have p:pj (aH l n)=FS l n (BT.size (mB l n)):=by
  show lY (sA l n (wM l n (kB (kE (kD l))).length))+U.up (lY (sA l n (wM l n (kB (kE (kD l))).length))*O5 (yt l)*yx (sA l n (wM l n (kB (kE (kD l))).length))) (100*(fK (nI l n)-w8 (nI l n)))=_;have j:lY (sA l n (wM l n (kB (kE (kD l))).length))=Dr l n (BT.size (mB l n)):=by
   show(((wM l n (kB (kE (kD l))).length).length:Nat):Int)*jam (yt l)*max (jan (yt l)) (U.up (fK (nI l n)-w8 (nI l n)) (Rq (yt l)))=_;rw[b];rfl
  rw[j,k];rfl
 have o:EB (aH l n)=Yp (yt l)*nth (uH l) n.toNat*BT.size (mB l n):=by
  show(((wM l n (kB (kE (kD l))).length).length:Nat):Int)*Yp (yt l)*nth (uH l) n.toNat=_;rw[b,Int.mul_assoc,Int.mul_comm]
 have m:d6 (kT l n)=uK l n (t7 l n).1:=by
  funext x;unfold d6 uK;rw[c1,w]
 have r:qo (kT l n)=XF l n (mB l n):=by
  unfold qo XF Rs HZ;rw[s,c2,m,g,<-p];by_cases c:(t7 l n).2=true;rw[jg c];by_cases d:0<=vV (uK l n (t7 l n).1) (qT (yt l));rw[jg ⟨c,d⟩,jg d];rw[jc (fun h=>d h.2),jc d,FG v];rw[jc (fun h=>c h.1),jc c]
 have q:qM (kT l n)=XG l n (mB l n):=by
  unfold qM XG;rw[s,i,o]
 have t:nG (kT l n)=XH l n (mB l n):=by
  unfold nG XH;rw[r,q,c1,c2]
 unfold wX w7;rw[r,q,t,e,f]
theorem C6 {l:LgD} (h:mz l) {n:Int} (a:0<=n/\n<((kA (kD l)).length:Int)):wX (kT l n)=w7 l n (mB l n):=by
 obtain⟨b,e⟩:=rZ h a;have c:=(ct (kD l)).symm.trans h.cp;have d:=h.ta.dw;exact OU c (by omega) a b.2.1 (Ho h a).wk.1
theorem UT (l:LgD) (b m:Int):kT (aI l b m) b=vX m (kT l b):=by
 have e:kT (aI l b m) b=(wi l++[((0,b,m,()):CaD)]).foldl (ga b) (aH l b):=by
  show((wi l++[((0,b,m,()):CaD)]).take (wi l++[((0,b,m,()):CaD)]).length).foldl (ga b) (aH l b)=_;rw[zt]
 have e2:kT l b=(wi l).foldl (ga b) (aH l b):=by
  show((wi l).take (wi l).length).foldl (ga b) (aH l b)=_;rw[zt]
 rw[e,jU,<-e2];show ga b (kT l b) ((0,b,m,()):CaD)=_;exact jg rfl
theorem UU {l:LgD} (h:mz l) {n m:Int} (a:0<=n/\n<((kA (kD l)).length:Int)):wX (vX m (kT l n))=w7 (aI l n m) n (mB l n):=by
 obtain⟨b,e⟩:=rZ h a;have c:=(ct (kD l)).symm.trans h.cp;have d:=h.ta.dw;have:=OU (l:=aI l n m) c (show Yo (yt l)<=VB (yt l) by omega) a b.2.1 (Ho h a).wk.1;rw[UT] at this;exact this
theorem W9 {x y:LnD} (h:pi x<pi y\/(pi x=pi y/\yB x<yB y)):¬t6 y x<0:=by
 unfold t6;rw[wx,qE];unfold bP;rcases h with h|⟨b,a⟩;rw[jc (show¬pi y<pi x by omega),jg h,jg (by decide)];decide;rw[jc (show¬pi y<pi x by omega),jc (show¬pi x<pi y by omega),jc (by decide),jc (show¬yB y<yB x by omega),jg a];decide
theorem As (l:LgD):qH (H5 l)=(kl (kD l)).map (fun n=>wX (kT l n)):=by
 rw[CJ];unfold qH;rw[List.map_map];rfl
theorem OV (l:LgD) (n:Int):yB (wX (kT l n))=n:=(qS l n _ (jk _)).2.2.1
theorem ZZ {d:DyD} (h:dW d=0) {n:Int}:n∈kl d↔∃b:Nat,b<(kA d).length/\jc1 d (O4 d) b=true/\n=(b:Int):=by
 rw[Uk];unfold jcG;rw[jg h];unfold Vm;rw[jT];constructor;rintro⟨b,a,rfl⟩;have:=jQ.1 a;exact⟨b,by rw[<-Hc h];exact jC.1 this.1,this.2,rfl⟩;rintro⟨b,a,c,rfl⟩;exact⟨b,jQ.2 ⟨jC.2 (by rw[Hc h];exact a),c⟩,rfl⟩
theorem Hz {l:LgD} (h:mz l) {n:Int} (e:0<=n/\n<((kA (kD l)).length:Int)):n∈kl (kD l)↔K0 l n=true:=by
 have c:=(ct (kD l)).symm.trans h.cp;rw[ZZ c];constructor;rintro⟨b,d,a,rfl⟩;exact a;intro a;exact⟨n.toNat,by omega,a,by omega⟩
theorem fJ {l:LgD} {k:Nat} {x:LnD}:x∈fN l k↔∃p:Nat,p<k/\∃b:Nat,b<(yw l).length/\K0 l (b:Int)=true/\nth (yw l) b=(p:Int)/\x=w7 l (b:Int) (mB l (b:Int)):=by
 unfold fN;rw[List.mem_flatMap];constructor;rintro⟨p,d,h⟩;obtain⟨b,c,rfl⟩:=jT.1 h;have e:=jQ.1 c;have a:=e.2;unfold jc4 at a;rw[ji,js] at a;exact⟨p,jC.1 d,b,jC.1 e.1,a.1,a.2,rfl⟩;rintro⟨p,d,b,c,g,f,rfl⟩;refine⟨p,jC.2 d,jT.2 ⟨b,jQ.2 ⟨jC.2 c,?_⟩,rfl⟩⟩;unfold jc4;rw[g,jK f];rfl
theorem OW (l:LgD) (k:Nat):(fN l k).Pairwise (fun x y=>pi x<pi y\/(pi x=pi y/\yB x<yB y)):=by
 have d:∀(p:Nat) (x:LnD),x∈Vs l (p:Int) (yw l).length->pi x=(p:Int):=fun p x g=>by
  obtain⟨b,f,rfl⟩:=jT.1 g;have e:=(jQ.1 f).2;unfold jc4 at e;rw[ji,js] at e;exact e.2
 unfold fN;refine List.pairwise_flatMap.2 ⟨fun p _=> ?_,List.Pairwise.imp ?_ List.pairwise_lt_range⟩;have h:(Vs l (p:Int) (yw l).length).Pairwise (fun x y=>yB x<yB y):=by
  unfold Vs;exact zU.2 ((List.pairwise_lt_range.filter _).imp fun{a b} c=>by
   show(a:Int)<(b:Int);omega)
 exact List.Pairwise.imp_of_mem (fun{a b} i f c=>Or.inr ⟨by rw[d p a i,d p b f],c⟩) h;intro a b c x g y j;have:=d a x g;have:=d b y j;left;omega
theorem QZ (l:LgD) (k:Nat):(fN l k).Nodup:=(OW l k).imp fun{a b} h e=>by subst e;omega
theorem C7 {l:LgD} (h:mz l):kU (U.bo l)=vn l:=by
 have o:=FB (UR h);have f:(qH (H5 l)).Nodup:=by
  rw[As];exact zU.2 ((mw (kD l)).imp fun{a b} g e=>g (by
   have:=jS yB e;rw[OV,OV] at this;exact this))
 have s:=(ct (kD l)).symm.trans h.cp
 haveI:DecidableEq LnD:=fun a b=>Classical.propDecidable (a=b)
 have k:(vn l).Perm (qH (NF (U.bo l))):=L.nK (QZ l 21) f fun x=>by
  show x∈fN l 21↔x∈qH (H5 l);rw[fJ,As,jT];constructor;rintro⟨p,k,b,m,r,q,rfl⟩;have c:0<=(b:Int)/\(b:Int)<(kA (kD l)).length:=(by rw[h.py.1] at m;omega);exact⟨(b:Int),(Hz h c).2 r,C6 h c⟩;rintro⟨n,j,rfl⟩;have c:=Hn j;have i:n.toNat<(yw l).length:=(by rw[h.py.1];omega);have q:=h.py.2 _ (L.kx i);have en:((n.toNat:Nat):Int)=n:=(by omega);refine⟨(nth (yw l) n.toNat).toNat,by omega,n.toNat,i,?_,by omega,?_⟩;rw[en];exact(Hz h c).1 j;rw[en];exact C6 h c
 refine(re (jcs o) k ?_).symm;exact(OW l 21).imp fun{a b} d=>zi (W9 d)
theorem Q1 {l:LgD} {k:Nat} (h:k<(yw l).length):cA l (k+1)=max (cA l k) (nth (yw l) k+1):=by
 unfold cA;rw[L.wb h,jU];rfl
theorem C8 {l:LgD}:∀k,k<=(yw l).length->0<=cA l k/\(∀i,i<k->nth (yw l) i+1<=cA l k)/\(cA l k=0\/∃i,i<k/\cA l k=nth (yw l) i+1)
 |0,_=>⟨zI _,fun i hi=>by omega,Or.inl rfl⟩
 |k+1,hk=>by
  obtain⟨c,b,a⟩:=C8 (l:=l) k (by omega)
  rw[Q1 (by omega)]
  refine⟨by omega,fun i hi=> ?_,?_⟩
  by_cases e:i=k
  subst e;omega
  have:=b i (by omega);omega
  rcases Int.le_total (nth (yw l) k+1) (cA l k) with h|h
  rw[Int.max_eq_left h]
  rcases a with a|⟨i,hi,a⟩
  exact Or.inl a
  exact Or.inr ⟨i,by omega,a⟩
  rw[Int.max_eq_right h]
  exact Or.inr ⟨k,by omega,rfl⟩
theorem Q2 (t:Int) (k:Nat):sy t (k+1)=sy t k++(if yI t (k:Int)=true then[(k:Int)] else[]):=by
 unfold sy;rw[zq,List.filter_append,zA];congr 1;by_cases h:yI t (k:Int)=true;rw[jg h];simp only[List.filter,h,List.map];rw[jc h];rw[ki] at h;simp only[List.filter,h,List.map]
theorem jbr (l:LgD) (n:Int):O6 (U.bo l) n=if n∈kl (kD l) then some (kT l n) else none:=by
 show kW none (kJ .int n (H5 l))=_;have a:((H5 l).map (·.1)).Nodup:=by
  rw[CJ,List.map_map];have e:((fun(x:Int×Option BlD)=>x.1)∘fun n=>(n,some (kT l n)))=id:=rfl;rw[e,List.map_id];exact mw _
 by_cases h:n∈kl (kD l);rw[jg h];have:(n,some (kT l n))∈H5 l:=by
  rw[CJ];exact jT.2 ⟨n,h,rfl⟩
 rw[(M.mD (kt:= .int) a).2 this];rfl;rw[jc h];have b:n∉(H5 l).map (·.1):=by
  rw[CJ,List.map_map];have e:((fun(x:Int×Option BlD)=>x.1)∘fun n=>(n,some (kT l n)))=id:=rfl;rw[e,List.map_id];exact h
 rw[M.mfind_none (kt:= .int) b];rfl
theorem jbt {l:LgD} (h:mz l) {n m:Int} (c:0<=n/\n<((kA (kD l)).length:Int)):
 (match O6 (U.bo l) n with|some b=>bY (wX b)-yp m b|none=>0)=gK l n-gK (aI l n m) n:=by
 rw[jbr];have e:gK (aI l n m) n=if K0 l n=true then bY (w7 (aI l n m) n (mB l n)) else 0:=rfl;rw[e];unfold gK;by_cases d:n∈kl (kD l);have a:=(Hz h c).1 d;rw[jg d,jg a,jg a,<-C6 h c,<-UU h c];rfl;have a:¬K0 l n=true:=fun a=>d ((Hz h c).2 a)
 rw[jc d,jc a,jc a];rfl
namespace U
def d7 (b:BlD) (a:Int) (k:Nat):Bool:=decide (yp (w8 (qi b)-(k:Int)) b<=a)
def cR (b:BlD):Nat:=(w8 (qi b)+100001).toNat
def ED (b:BlD) (a:Int):Option Nat:=(List.range (cR b)).find? (d7 b a)
def jcN (b:BlD):Option Nat->Int
 |some k=>w8 (qi b)-(k:Int)
 |none=>0
def jcO:Option Nat->Int
 |some _=>0
 |none=>3
def jc5 (a:Int):Option BlD->Int
 |some b=>jcN b (ED b a)
 |none=>0
def jc6 (a:Int):Option BlD->Int
 |some b=>jcO (ED b a)
 |none=>3
def KR (l:LgD) (n a:Int):Int:=if wo l (qj l n&&yd a)=0 then jc5 a (O6 (bo l) n) else 0
def KS (l:LgD) (n a:Int):Int:=if wo l (qj l n&&yd a)=0 then jc6 a (O6 (bo l) n) else wo l (qj l n&&yd a)
end U
theorem C9 {α:Type} [Inhabited α] (p:α->Bool) (l:List α):(∃i:Nat,i<l.length/\vV p l=(i:Int)/\p (nth l i)=true/\∀j:Nat,j<i->p (nth l j)=false)\/(vV p l= -1/\∀x∈l,p x=false):=by
 cases e:l.findIdx? p with
 |some i=>
  left;have h:=zJ.1 e;obtain⟨a,b,c⟩:=h;refine⟨i,a,by unfold vV;rw[e],by rw[L.wG a];exact b,fun j d=> ?_⟩;have:=c j d;rw[L.wG (by omega)];simpa using this
 |none=>
  right;exact⟨by unfold vV;rw[e],kc.1 e⟩
theorem FH (b:BlD) (a:Int):(∃k:Nat,ED b a=some k/\k<cR b/\d7 b a k=true/\∀j:Nat,j<k->d7 b a j=false)\/(ED b a=none/\∀j:Nat,j<cR b->d7 b a j=false):=by
 cases e:ED b a with
 |some k=>
  left;unfold ED at e;obtain⟨l,d,rs,f,m⟩:=List.find?_eq_some_iff_append.1 e;have c:=jS List.length f;rw[zG,jJ,jX] at c;have hk:(List.range (cR b))[d.length]'(by rw[zG];omega)=k:=by
   have e2:(d++k::rs)[d.length]'(by rw[jJ,jX];omega)=k:=by
    rw[List.getElem_append_right (jk _)];simp
   have:=List.getElem_of_eq f (i:=d.length) (by rw[zG];omega);rw[this,e2]
  rw[List.getElem_range] at hk;refine⟨k,rfl,by omega,l,fun j h=> ?_⟩;have g:=List.getElem_of_eq f (i:=j) (by rw[zG];omega);rw[List.getElem_range,List.getElem_append_left (by omega)] at g;have:=m j (by rw[g];exact List.getElem_mem _);simpa using this
 |none=>
  right;unfold ED at e;rw[List.find?_eq_none] at e;refine⟨rfl,fun j h=> ?_⟩;have:=e j (jC.2 h);simpa using this
end Go.X

namespace Go.X
open U
theorem UV {l:LgD} {b:Bool} (h:wo l b=0):mz l/\b=true:=by
 unfold wo at h
 split at h
 rename_i a;exact absurd h a;rename_i a
 split at h
 rename_i c;exact⟨bB (jN.1 a),c⟩;cases h
theorem OX {l:LgD} {n:Int}:qj l n=true↔0<=n/\n<((kA (kD l)).length:Int):=by
 unfold qj;rw[w6];omega
structure jdi (l:LgD) (x:LnD):Prop where
 bk:0<=yB x/\yB x<((kA (kD l)).length:Int)
 py:pi x=nth (yw l) (yB x).toNat
 pr:0<=pi x/\pi x<=20/\pi x<jbK l
 wk:0<=jcI x/\jcI x<=10000000000000000
 tr:0<=jcJ x/\jcJ x<=1000000000
 sb:0<=jcK x/\jcK x<=Rr (yt l)
 tt:bY x=jcI x+jcJ x-jcK x/\0<=bY x
 kd:0<=iH (yQ (nth (kA (kD l)) (yB x).toNat))/\iH (yQ (nth (kA (kD l)) (yB x).toNat))<((aF (yt l)).length:Int)
 pc:0<=nth (aF (yt l)) (iH (yQ (nth (kA (kD l)) (yB x).toNat))).toNat/\nth (aF (yt l)) (iH (yQ (nth (kA (kD l)) (yB x).toNat))).toNat<=100
 pp:100*jcK x<=(jcI x+jcJ x)*nth (aF (yt l)) (iH (yQ (nth (kA (kD l)) (yB x).toNat))).toNat
theorem Xa {l:LgD} {i:Nat} (hi:i<(yw l).length):nth (yw l) i<jbK l:=by
 have:=(C8 (l:=l) (yw l).length (jk _)).2.1 i hi;show _<cA l (yw l).length;omega
theorem jcv {l:LgD} (h:mz l) {x:LnD} (t:x∈vn l):jdi l x:=by
 obtain⟨p,v,b,i,z,y,rfl⟩:=fJ.1 (show x∈fN l 21 from t);have c:0<=(b:Int)/\(b:Int)<(kA (kD l)).length:=(by rw[h.py.1] at i;omega);rw[<-C6 h c];have w:=Kb h c;obtain⟨c1,c2,e,f,_⟩:=qS l (b:Int) _ (jk _);have c1:qi (kT l (b:Int))=nth (kA (kD l)) b:=c1;have c2:yC (kT l (b:Int))=yt l:=c2;have e:ND (kT l (b:Int))=(b:Int):=e;have f:NE (kT l (b:Int))=nth (yw l) b:=f;have r:=Hk w;have q:=Hl w;have o:=w.bl.ta.cp;have d:=UC w.bl;have hk:=w.bl.kd;have j:=w.bl.ta.sl;rw[c1,c2] at d;rw[c1] at hk;rw[c2] at o j;have m:0<=(qo (kT l (b:Int))+qM (kT l (b:Int)))*nth (aF (yt l)) (iH (yQ (nth (kA (kD l)) b))).toNat:=z6 (by omega) d.1;have n:(qo (kT l (b:Int))+qM (kT l (b:Int)))*nth (aF (yt l)) (iH (yQ (nth (kA (kD l)) b))).toNat<=(qo (kT l (b:Int))+qM (kT l (b:Int)))*100:=Int.mul_le_mul_of_nonneg_left d.2 (by omega);have g:nG (kT l (b:Int))=min (Rr (yt l)) (((qo (kT l (b:Int))+qM (kT l (b:Int)))*nth (aF (yt l)) (iH (yQ (nth (kA (kD l)) b))).toNat)/100):=by
  unfold nG;rw[c1,c2,zM m]
 have u:=Xa i;have s:=h.py.2 _ (L.kx i);have k:yB (wX (kT l (b:Int)))=(b:Int):=e;have ep:pi (wX (kT l (b:Int)))=nth (yw l) b:=f;have a:(yB (wX (kT l (b:Int)))).toNat=b:=(by rw[k];rfl);refine⟨by rw[k];exact c,by rw[ep,a],by rw[ep];omega,r,q,?_,⟨rfl,?_⟩,by rw[a];omega,by rw[a];exact d,?_⟩;show 0<=nG _/\nG _<=_;rw[g];omega;show 0<=qo _+qM _-nG _;rw[g];omega;rw[a];show 100*nG _<=(qo _+qM _)*_;rw[g];omega
theorem Xb {l:LgD} (h:mz l):(vn l).length<=(kA (kD l)).length:=by
 rw[<-C7 h];have e:(kU (U.bo l)).length=(qH (H5 l)).length:=(wj _).length_eq;rw[e,As,zr];unfold kl
 split
 unfold yP;rw[zr];exact jE (z7 _ _) (by rw[zG];exact jk _);exact jw _
theorem UW {l:LgD} (h:mz l):(vn l).Perm (((List.range (kA (kD l)).length).filter (fun(b:Nat)=>K0 l (b:Int))).map (fun(b:Nat)=>w7 l (b:Int) (mB l (b:Int)))):=by
 have c:=(ct (kD l)).symm.trans h.cp;have a:(vn l).Perm (qH (H5 l)):=by
  rw[<-C7 h];exact wj _
 rw[As] at a;have d:kl (kD l)=((List.range (kA (kD l)).length).filter (fun(b:Nat)=>K0 l (b:Int))).map (fun(b:Nat)=>(b:Int)):=by
  rw[Uk];unfold jcG;rw[jg c];unfold Vm;rw[Hc c];rfl
 rw[d,List.map_map] at a;refine a.trans (List.Perm.of_eq ?_);refine List.map_congr_left fun b e=> ?_
 have:=jC.1 (jQ.1 e).1;exact C6 h (n:=(b:Int)) (by omega)
theorem FJ {l l':LgD} {b t:Int} (c:nI l' b=nI l b) (a:yt l'=yt l) (i:yw l'=yw l) (j:uH l'=uH l) (d:t7 l' b=t7 l b):w7 l' b t=w7 l b t:=by
 have k:Rv l' b=Rv l b:=by
  unfold Rv pf Dq;rw[c,a]
 have h:∀m,FS l' b m=FS l b m:=fun m=>by
  unfold FS Dr;rw[c,a,k]
 have o:∀m,HZ l' b m=HZ l b m:=fun m=>by
  have e:uK l' b m=uK l b m:=(by funext n;unfold uK;rw[c]);unfold HZ;rw[a,e]
 have g:XF l' b t=XF l b t:=by
  unfold XF;rw[d,h,o]
 have f:XG l' b t=XG l b t:=by
  unfold XG;rw[d,a,j]
 have s1:XH l' b t=XH l b t:=by
  unfold XH;rw[g,f,c,a]
 unfold w7;rw[g,f,s1,i]
open Go.Proofs
namespace U
def Rw (l:List NoD) (j:Nat):Bool:=(kk (VA (nth l j)) 0 100000&&kk (tY (nth l j)) 0 100)&&(decide (j=0)||decide (VA (nth l j)<VA (nth l (j-1))))
def Vt (a b:CaD):Bool:=decide (RI a=RI b)&& !decide (a=b)
def RJ (l:LgD) (j:Nat):Bool:=KN (nth (yw l) j)&&uJ (nth (uH l) j)
end U
def Ku:wd:=⟨[.val .int,.val .int,.val .int],[.bool],false,fun _=>[],fun d=>(kk d.1 d.2.1 d.2.2.1,())⟩
def Kv:Prop:=∀(d:CaD),(decide (d.2.1<=d.1)&&decide (d.1<=d.2.2.1),())=(kk d.1 d.2.1 d.2.2.1,())
def Ej:wd:=⟨[.val tTa],[.bool],false,fun _=>[],fun d=>(qZ d.1,())⟩
def Ek:Ann:=fun r=>match r with
 |4=>some fun σ=>{X:=Nat,sl:=fun i=>[(3,.dat .int (i:Int))],ob:=fun _=>[],inv:=fun i=>i<=(aF (gb tTa σ 1)).length/\∀j:Nat,j<i->kk (nth (aF (gb tTa σ 1)) j) 0 100=true,mu:=fun i=>(aF (gb tTa σ 1)).length-i}
 |9=>some fun σ=>{X:=Nat,sl:=fun i=>[(4,.dat .int (i:Int))],ob:=fun _=>[],inv:=fun i=>i<=(qT (gb tTa σ 1)).length/\∀j:Nat,j<i->Rw (qT (gb tTa σ 1)) j=true,mu:=fun i=>(qT (gb tTa σ 1)).length-i}
 |_=>none
abbrev jfy (d:TaD×Unit)(x:Nat):=(nth d.1.q4.q4.2.1 x)
abbrev jgE (d:TaD×Unit)(x:Nat):=(!(!kk (jfy d x).1 (0:Int) (100000:Int)|| !kk (jfy d x).2.1 (0:Int) (100:Int))&&decide (0<(x:Int)))
abbrev jhm (d:TaD×Unit)(x:Nat):=(!kk (jfy d x).1 (0:Int) (100000:Int)|| !kk (jfy d x).2.1 (0:Int) (100:Int)||decide (0<(x:Int))&&decide ((nth d.1.q4.q4.2.1 ((x:Int)-1).toNat).1<=(jfy d x).1))
abbrev jfz (d:TaD×Unit):=(d.1.q4.q4.2.1.length:Int)
abbrev jfA (d:TaD×Unit):=(d.1.q4.q4.1.length:Int)
abbrev jhn (d:TaD×Unit):=(!kk d.1.1 (1:Int) (240:Int)|| !kk d.1.2.1 (0:Int) (10000:Int)|| !kk d.1.2.2.1 (0:Int) (20:Int)|| !kk d.1.q4.1 (0:Int) d.1.2.2.2.1||decide (1440<d.1.2.2.2.1)|| !kk d.1.q4.2.1 (0:Int) (100:Int)|| !kk d.1.q4.2.2.1 (0:Int) (10000:Int)||decide ((jfA d)≠4)|| !kk d.1.q4.2.2.2.1 (0:Int) (1000000:Int)||decide (4<(jfz d)))
abbrev jho (d:TaD×Unit)(x:Nat):=(!kk (nth d.1.q4.q4.1 x) (0:Int) (100:Int))
def El:Prop:=∀(d:TaD×Unit),((!(!kk d.1.1 (1:Int) (240:Int)|| !kk d.1.2.1 (0:Int) (10000:Int)|| !kk d.1.2.2.1 (0:Int) (20:Int)|| !kk d.1.q4.1 (0:Int) d.1.2.2.2.1||decide (1440<d.1.2.2.2.1)|| !kk d.1.q4.2.1 (0:Int) (100:Int)|| !kk d.1.q4.2.2.1 (0:Int) (10000:Int)))=true->d.1.q4.q4.1.length<4611686018427387904)->((!(!kk d.1.1 (1:Int) (240:Int)|| !kk d.1.2.1 (0:Int) (10000:Int)|| !kk d.1.2.2.1 (0:Int) (20:Int)|| !kk d.1.q4.1 (0:Int) d.1.2.2.2.1||decide (1440<d.1.2.2.2.1)|| !kk d.1.q4.2.1 (0:Int) (100:Int)|| !kk d.1.q4.2.2.1 (0:Int) (10000:Int)||decide ((jfA d)≠4)|| !kk d.1.q4.2.2.2.1 (0:Int) (1000000:Int)))=true->d.1.q4.q4.2.1.length<4611686018427387904)->((jhn d)=true->(false,())=(qZ d.1,()))/\((jhn d)=false->(∃(x:Nat),((0=(x:Int)/\True)/\True)/\x<=(aF d.1).length/\∀(j:Nat),j<x->kk (nth (aF d.1) j) (0:Int) 100=true)/\∀(x:Nat),(x<=(aF d.1).length/\∀(j:Nat),j<x->kk (nth (aF d.1) j) (0:Int) 100=true)->d.1.q4.q4.1.length<4611686018427387904->(decide ((x:Int)<(jfA d))=true->0<=(x:Int)/\(x:Int)<(jfA d)/\((jho d x)=true->(false,())=(qZ d.1,()))/\((jho d x)=false->kK ((x:Int)+1)/\∃(a:Nat),(((x:Int)+1=(a:Int)/\True)/\True)/\(a<=(aF d.1).length/\∀(j:Nat),j<a->kk (nth (aF d.1) j) (0:Int) 100=true)/\(aF d.1).length-a<(aF d.1).length-x))/\(decide ((x:Int)<(jfA d))=false->(∃(x:Nat),((0=(x:Int)/\True)/\True)/\x<=(qT d.1).length/\∀(j:Nat),j<x->Rw (qT d.1) j=true)/\∀(x:Nat),(x<=(qT d.1).length/\∀(j:Nat),j<x->Rw (qT d.1) j=true)->d.1.q4.q4.2.1.length<4611686018427387904->(decide ((x:Int)<(jfz d))=true->0<=(x:Int)/\(x:Int)<(jfz d)/\((jgE d x)=true->kK ((x:Int)-1))/\((jgE d x)=true->0<=(x:Int)-1)/\((jgE d x)=true->(x:Int)-1<(jfz d))/\((jhm d x)=true->(false,())=(qZ d.1,()))/\((jhm d x)=false->kK ((x:Int)+1)/\∃(a:Nat),(((x:Int)+1=(a:Int)/\True)/\True)/\(a<=(qT d.1).length/\∀(j:Nat),j<a->Rw (qT d.1) j=true)/\(qT d.1).length-a<(qT d.1).length-x))/\(decide ((x:Int)<(jfz d))=false->(true,())=(qZ d.1,()))))
def Em:wd:=⟨[.val tLg],[.bool],false,fun _=>[],fun d=>(bZ d.1,())⟩
def En:Ann:=fun r=>match r with
 |5=>some fun σ=>{X:=Nat,sl:=fun i=>[(4,.dat .int (i:Int))],ob:=fun _=>[],inv:=fun i=>i<=(gd .int σ 3).toNat/\∀j:Nat,j<i->RJ (gb tLg σ 1) j=true,mu:=fun i=>(gd .int σ 3).toNat-i}
 |10=>some fun σ=>{X:=Nat,sl:=fun i=>[(5,.dat .int (i:Int))],ob:=fun _=>[],inv:=fun i=>i<=(wi (gb tLg σ 1)).length/\∀j:Nat,j<i->m9 (gd .int σ 3).toNat (nth (wi (gb tLg σ 1)) j)=true,mu:=fun i=>(wi (gb tLg σ 1)).length-i}
 |_=>none
abbrev jdM (d:LgD×Unit):=(d.1.1.2.2.1.length:Int)
abbrev jhp (d:LgD×Unit)(x:Nat):=(!kk (nth d.1.2.1 x) (0:Int) (20:Int)|| !kk (nth d.1.2.2.1 x) (0:Int) (300:Int))
abbrev jfY (d:LgD×Unit)(x:Nat):=(nth d.1.q4.1 x)
abbrev jhq (d:LgD×Unit)(x:Nat):=(!kk (jfY d x).1 (0:Int) (99:Int)|| !kk (jfY d x).2.1 (0:Int) ((jdM d)-1)|| !kk (jfY d x).2.2.1 (-100000:Int) (1440:Int))
abbrev jgF (d:LgD×Unit):=((d.1.2.1.length:Int)≠(jdM d))
abbrev jfZ (d:LgD×Unit):=(d.1.q4.1.length:Int)
abbrev jhr (d:LgD×Unit):=(decide (jgF d)||decide ((d.1.2.2.1.length:Int)≠(jdM d))|| !qZ d.1.2.2.2.1||decide (10<(jfZ d)))
def Eo:Prop:=∀(d:LgD×Unit),d.1.1.2.2.1.length<4611686018427387904->d.1.2.1.length<4611686018427387904->((!decide (jgF d))=true->d.1.2.2.1.length<4611686018427387904)->((!(decide (jgF d)||decide ((d.1.2.2.1.length:Int)≠(jdM d))|| !qZ d.1.2.2.2.1))=true->d.1.q4.1.length<4611686018427387904)->((jhr d)=true->(false,())=(bZ d.1,()))/\((jhr d)=false->(∃(x:Nat),((0=(x:Int)/\True)/\True)/\x<=(jdM d).toNat/\∀(j:Nat),j<x->RJ d.1 j=true)/\∀(x:Nat),(x<=(jdM d).toNat/\∀(j:Nat),j<x->RJ d.1 j=true)->(decide ((x:Int)<(jdM d))=true->0<=(x:Int)/\(x:Int)<d.1.2.1.length/\((!!kk (nth d.1.2.1 x) (0:Int) (20:Int))=true->0<=(x:Int))/\((!!kk (nth d.1.2.1 x) (0:Int) (20:Int))=true->(x:Int)<d.1.2.2.1.length)/\((jhp d x)=true->(false,())=(bZ d.1,()))/\((jhp d x)=false->kK ((x:Int)+1)/\∃(a:Nat),(((x:Int)+1=(a:Int)/\True)/\True)/\(a<=(jdM d).toNat/\∀(j:Nat),j<a->RJ d.1 j=true)/\(jdM d).toNat-a<(jdM d).toNat-x))/\(decide ((x:Int)<(jdM d))=false->(∃(x:Nat),((0=(x:Int)/\True)/\True)/\x<=(wi d.1).length/\∀(j:Nat),j<x->m9 (jdM d).toNat (nth (wi d.1) j)=true)/\∀(x:Nat),(x<=(wi d.1).length/\∀(j:Nat),j<x->m9 (jdM d).toNat (nth (wi d.1) j)=true)->d.1.q4.1.length<4611686018427387904->(decide ((x:Int)<(jfZ d))=true->0<=(x:Int)/\(x:Int)<(jfZ d)/\((!!kk (jfY d x).1 (0:Int) (99:Int))=true->kK ((jdM d)-1))/\((jhq d x)=true->(false,())=(bZ d.1,()))/\((jhq d x)=false->kK ((x:Int)+1)/\∃(a:Nat),(((x:Int)+1=(a:Int)/\True)/\True)/\(a<=(wi d.1).length/\∀(j:Nat),j<a->m9 (jdM d).toNat (nth (wi d.1) j)=true)/\(wi d.1).length-a<(wi d.1).length-x))/\(decide ((x:Int)<(jfZ d))=false->(true,())=(bZ d.1,()))))
def Nd:wd:=⟨[.val tLg],[.int],false,fun d=>[(kA (kD d.1)).length<=1000000],fun d=>(kY d.1,())⟩
def Nf:Ann:=fun r=>match r with
 |7=>some fun σ=>{X:=Nat,sl:=fun i=>[(4,.dat .int (i:Int))],ob:=fun _=>[],inv:=fun i=>i<=(wi (gb tLg σ 1)).length/\∀b:Nat,b<i->ar (wi (gb tLg σ 1)) b=false,mu:=fun i=>(wi (gb tLg σ 1)).length-i}
 |10=>some fun σ=>{X:=Nat,sl:=fun i=>[(5,.dat .int (i:Int))],ob:=fun _=>[],inv:=fun i=>i<=(gd .int σ 4).toNat/\∀j:Nat,j<i->Vt (nth (wi (gb tLg σ 1)) (gd .int σ 4).toNat) (nth (wi (gb tLg σ 1)) j)=false,mu:=fun i=>(gd .int σ 4).toNat-i}
 |_=>none
abbrev jfB (d:LgD×Unit)(x:Nat)(a:Nat):=((nth d.1.q4.1 x).1=(nth d.1.q4.1 a).1)
abbrev je0 (d:LgD×Unit):=(d.1.q4.1.length:Int)
abbrev jhs (d:LgD×Unit)(x:Nat)(a:Nat):=(decide (jfB d x a)&& !decide (nth d.1.q4.1 x=nth d.1.q4.1 a))
def Ng:Prop:=∀(d:LgD×Unit),(kA (kD d.1)).length<=1000000->(kA d.1.1).length<=1000000/\(decide (dW d.1.1≠0)=true->(dW d.1.1,())=(kY d.1,()))/\(decide (dW d.1.1≠0)=false->((!bZ d.1)=true->((70:Int),())=(kY d.1,()))/\((!bZ d.1)=false->(∃(x:Nat),((0=(x:Int)/\True)/\True)/\x<=(wi d.1).length/\∀(b:Nat),b<x->ar (wi d.1) b=false)/\∀(x:Nat),(x<=(wi d.1).length/\∀(b:Nat),b<x->ar (wi d.1) b=false)->d.1.q4.1.length<4611686018427387904->(decide ((x:Int)<(je0 d))=true->(∃(a:Nat),((0=(a:Int)/\True)/\True)/\a<=x/\∀(j:Nat),j<a->Vt (nth (wi d.1) x) (nth (wi d.1) j)=false)/\∀(a:Nat),(a<=x/\∀(j:Nat),j<a->Vt (nth (wi d.1) x) (nth (wi d.1) j)=false)->(decide ((a:Int)<(x:Int))=true->0<=(x:Int)/\(x:Int)<(je0 d)/\0<=(a:Int)/\(a:Int)<(je0 d)/\(decide (jfB d x a)=true->0<=(x:Int))/\(decide (jfB d x a)=true->(x:Int)<(je0 d))/\(decide (jfB d x a)=true->0<=(a:Int))/\(decide (jfB d x a)=true->(a:Int)<(je0 d))/\((jhs d x a)=true->((71:Int),())=(kY d.1,()))/\((jhs d x a)=false->kK ((a:Int)+1)/\∃(c:Nat),(((a:Int)+1=(c:Int)/\True)/\True)/\(c<=x/\∀(j:Nat),j<c->Vt (nth (wi d.1) x) (nth (wi d.1) j)=false)/\x-c<x-a))/\(decide ((a:Int)<(x:Int))=false->kK ((x:Int)+1)/\∃(c:Nat),(((x:Int)+1=(c:Int)/\True)/\True)/\(c<=(wi d.1).length/\∀(b:Nat),b<c->ar (wi d.1) b=false)/\(wi d.1).length-c<(wi d.1).length-x))/\(decide ((x:Int)<(je0 d))=false->((0:Int),())=(kY d.1,()))))
theorem Nh:Kv:=by
 rintro⟨n,a,b,⟨⟩⟩;rfl
theorem uE:wm PR 41 Ku:=kZ Nh Tryz.func41 kcN koN
theorem Da:∀{l:List NoD} {last:Int},uI last l=true↔∀j,j<l.length->HX (if j=0 then last else VA (nth l (j-1))) (nth l j)=true
 |[],_=>⟨fun _ j a=>(by cases a),fun _=>rfl⟩
 |n::r,last=>by
  have d:=Da (l:=r) (last:=VA n)
  show(HX last n&&uI (VA n) r)=true↔_
  rw[ji,d]
  constructor
  rintro⟨b,c⟩ j a
  cases j with
  |zero=>exact b
  |succ j=>
   rw[jc (by omega)]
   have:=c j (by simpa using a)
   cases j with
   |zero=>exact this
   |succ j=>exact this
  intro h
  refine⟨h 0 (by simp),fun j a=> ?_⟩
  have:=h (j+1) (by simpa using a)
  rw[jc (by omega)] at this
  cases j with
  |zero=>exact this
  |succ j=>exact this
theorem jbu {l:List NoD}:uI 100001 l=true↔∀j,j<l.length->Rw l j=true:=by
 constructor;intro h j b;have a:=(rX h _ (L.kx b));have c:=Da.1 h j b;unfold Rw;simp only[ji,zm,js,w6];refine⟨⟨by omega,by omega⟩,?_⟩;by_cases e:j=0;exact Or.inl e;rw[jc e] at c;unfold HX at c;rw[ji,w6] at c;right;omega;intro h;refine Da.2 fun j b=> ?_
 have a:=h j b;unfold Rw at a;simp only[ji,zm,js,w6] at a;unfold HX U.share;rw[ji,w6,w6];refine⟨?_,a.1.2⟩;by_cases e:j=0;rw[jg e];omega;rw[jc e];omega
def taH (t:TaD):Bool:= !kk (Rq t) 1 240|| !kk (jam t) 0 10000|| !kk (jan t) 0 20|| !kk (Yo t) 0 (VB t)||decide (1440<VB t)|| !kk (O5 t) 0 100|| !kk (Yp t) 0 10000||decide (((aF t).length:Int)≠4)|| !kk (Rr t) 0 1000000||decide (4<((qT t).length:Int))
theorem HA (t:TaD):qZ t=true↔taH t=false/\(∀j,j<(aF t).length->kk (nth (aF t) j) 0 100=true)/\∀j,j<(qT t).length->Rw (qT t) j=true:=by
 rw[<-jbu];unfold qZ taH U.share;simp only[jM,jD,zg,ji,js,w6,jY];constructor;rintro⟨⟨⟨⟨⟨⟨⟨a,b⟩,c⟩,l⟩,d⟩,e⟩,f⟩,⟨⟨⟨m,g⟩,h⟩,n⟩,i⟩;exact⟨⟨⟨⟨⟨⟨⟨⟨⟨⟨a,b⟩,c⟩,d⟩,by omega⟩,e⟩,f⟩,by omega⟩,h⟩,by omega⟩,fun j k=>g _ (L.kx k),i⟩;rintro⟨⟨⟨⟨⟨⟨⟨⟨⟨⟨a,b⟩,c⟩,d⟩,l⟩,e⟩,f⟩,m⟩,h⟩,n⟩,g,i⟩;refine⟨⟨⟨⟨⟨⟨⟨a,b⟩,c⟩,by omega⟩,d⟩,e⟩,f⟩,⟨⟨⟨by omega,fun x o=> ?_⟩,h⟩,by omega⟩,i⟩;obtain⟨j,k,rfl⟩:=L.mem_iff.1 o;exact g j k
theorem Z0 {t:TaD} (h:¬qZ t=true):(false,())=(qZ t,()):=by
 rw[ki] at h;rw[h]
theorem Db (l:LgD):bZ l=true↔((yw l).length=(kA (kD l)).length/\(uH l).length=(kA (kD l)).length/\qZ (yt l)=true/\(wi l).length<=10)/\(∀j,j<(kA (kD l)).length->RJ l j=true)/\∀j,j<(wi l).length->m9 (kA (kD l)).length (nth (wi l) j)=true:=by
 unfold bZ RJ;simp only[ji,js,jY];constructor;rintro⟨⟨⟨c,h⟩,d,i⟩,e,f,k⟩;exact⟨⟨c,d,e,f⟩,fun j a=>⟨h _ (L.kx (by omega)),i _ (L.kx (by omega))⟩,fun j a=>k _ (L.kx a)⟩;rintro⟨⟨c,d,e,f⟩,g,m⟩;refine⟨⟨⟨c,fun x b=> ?_⟩,d,fun x b=> ?_⟩,e,f,fun x b=> ?_⟩;obtain⟨j,a,rfl⟩:=L.mem_iff.1 b;exact(g j (by omega)).1;obtain⟨j,a,rfl⟩:=L.mem_iff.1 b;exact(g j (by omega)).2;obtain⟨j,a,rfl⟩:=L.mem_iff.1 b;exact m j a
theorem Z1 {l:LgD} (h:¬bZ l=true):(false,())=(bZ l,()):=by
 rw[ki] at h;rw[h]
theorem jbv {l:List CaD} {i:Nat} (h:∀j:Nat,j<i->Vt (nth l i) (nth l j)=false) (hi:i<=l.length):ar l i=false:=by
 unfold ar;rw[zl];intro x c;obtain⟨j,b,rfl⟩:=L.mem_iff.1 c;rw[j6] at b;rw[L.nth_take (by omega)];have:=h j (by omega);unfold Vt at this;rw[ki,Bool.and_eq_false_iff] at*;rcases this with a|a;left;exact zi fun e=>jd a e.symm
 right;rw[zg,js] at a;rw[a,jK rfl];rfl
theorem Z2 {l:List CaD} {i j:Nat} (hi:i<l.length) (a:j<i) (h:Vt (nth l i) (nth l j)=true):bM l=true:=by
 unfold bM Dn;rw[j9];refine⟨i,jC.2 hi,?_⟩;unfold ar;rw[j9];unfold Vt at h;rw[ji,js,jI,jD] at h;refine⟨nth l j,?_,?_⟩;exact L.mem_iff.2 ⟨j,by rw[j6];omega,L.nth_take (by omega)⟩;rw[ji,js,jI,jD];exact⟨h.1.symm,fun e=>h.2 e.symm⟩
theorem HB:El:=by
 unfold El jho jhn jfA jfz jhm jgE jfy Prod.q4;rintro⟨t,⟨⟩⟩ _ _;refine⟨fun h=>Z0 (t:=t) (fun c=> ?_),fun k=> ?_⟩;have h:taH t=true:=h;rw[((HA t).1 c).1] at h;cases h;have k:taH t=false:=k;refine⟨⟨0,⟨⟨rfl,tZ⟩,tZ⟩,jw _,fun j f=>by omega⟩,fun x d g=>⟨fun h=> ?_,fun h=> ?_⟩⟩;have g:(aF t).length<4611686018427387904:=g;have h:(x:Int)<(aF t).length:=jb h;refine⟨by omega,h,fun c=>Z0 (t:=t) (fun i=> ?_),fun c=>⟨iZ6,x+1,⟨⟨by simp,tZ⟩,tZ⟩,⟨by show x+1<=(aF t).length;omega,fun j f=> ?_⟩,by show(aF t).length-(x+1)<(aF t).length-x;omega⟩⟩;have c:(!kk (nth (aF t) x) 0 100)=true:=c;rw[((HA t).1 i).2.1 x (by omega)] at c;cases c;have c:kk (nth (aF t) x) 0 100=true:=(by simpa using(show(!kk (nth (aF t) x) 0 100)=false from c));by_cases e:j=x;subst e;exact c;exact d.2 j (by omega);have h:¬(x:Int)<(aF t).length:=jd h;have o:∀j,j<(aF t).length->kk (nth (aF t) j) 0 100=true:=fun j f=>d.2 j (by omega)
 clear d h;refine⟨⟨0,⟨⟨rfl,tZ⟩,tZ⟩,jw _,fun j f=>by omega⟩,fun x d g=>⟨fun h=> ?_,fun h=> ?_⟩⟩;have g:(qT t).length<4611686018427387904:=g;have h:(x:Int)<(qT t).length:=jb h;have l:(!kk (VA (nth (qT t) x)) 0 100000|| !kk (tY (nth (qT t) x)) 0 100||decide (0<(x:Int))&&decide (VA (nth (qT t) ((x:Int)-1).toNat)<=VA (nth (qT t) x)))= !Rw (qT t) x:=by
  have e2:((x:Int)-1).toNat=x-1:=(by omega);have m:∀a b:Int,(decide (0<(x:Int))&&decide (a<=b))= !(decide (x=0)||decide (b<a)):=fun a b=>by
   rw[j0];simp only[ji,js,jI,jM,jD];omega
  unfold Rw;rw[e2,m,Bool.not_and,Bool.not_and]
 refine⟨by omega,h,fun _=>iZ6,fun c=> ?_,fun _=>by show(x:Int)-1<((qT t).length:Int);omega,fun c=>Z0 (t:=t) (fun i=> ?_),fun c=>⟨iZ6,x+1,⟨⟨by simp,tZ⟩,tZ⟩,⟨by show x+1<=(qT t).length;omega,fun j f=> ?_⟩,by show(qT t).length-(x+1)<(qT t).length-x;omega⟩⟩;rw[ji] at c;have c:0<(x:Int):=jb c.2;show 0<=(x:Int)-1;omega;have c:(!Rw (qT t) x)=true:=l.symm.trans c;rw[((HA t).1 i).2.2 x (by omega)] at c;cases c;have c:(!Rw (qT t) x)=false:=l.symm.trans c;by_cases e:j=x;subst e;show Rw (qT t) j=true;simpa using c;exact d.2 j (by omega);have h:¬(x:Int)<(qT t).length:=jd h;have n:∀j,j<(qT t).length->Rw (qT t) j=true:=fun j f=>d.2 j (by omega)
 show(true,())=(qZ t,());rw[(HA t).2 ⟨k,o,n⟩]
theorem Ep:wm PR 58 Ej:=vd Ek HB Tryz.func58 (kcC uE kcN) koN
def lgH (l:LgD):Bool:=decide (((yw l).length:Int)≠(kA (kD l)).length)||decide (((uH l).length:Int)≠(kA (kD l)).length)|| !qZ (yt l)||decide (10<((wi l).length:Int))
theorem UX (l:LgD):lgH l=false↔((yw l).length=(kA (kD l)).length/\(uH l).length=(kA (kD l)).length/\qZ (yt l)=true/\(wi l).length<=10):=by
 unfold lgH;simp only[jM,jD,zg];constructor;rintro⟨⟨⟨b,c⟩,a⟩,d⟩;exact⟨by omega,by omega,a,by omega⟩;rintro⟨b,c,a,d⟩;exact⟨⟨⟨by omega,by omega⟩,a⟩,by omega⟩
theorem HC:Eo:=by
 unfold Eo jhr jfZ jgF jhq jfY jhp jdM Prod.q4;rintro⟨l,⟨⟩⟩ i _ _ _;have i:(kA (kD l)).length<4611686018427387904:=i;refine⟨fun h=>Z1 (l:=l) (fun a=> ?_),fun f=> ?_⟩;have h:lgH l=true:=h;rw[(UX l).2 ((Db l).1 a).1] at h;cases h;have f:=(UX l).1 (show lgH l=false from f);obtain⟨r,s,p,o⟩:=id f;refine⟨⟨0,⟨⟨rfl,tZ⟩,tZ⟩,jw _,fun j d=>by omega⟩,fun x b=>⟨fun h=> ?_,fun h=> ?_⟩⟩;have h:(x:Int)<(kA (kD l)).length:=jb h;have b:x<=(((kA (kD l)).length:Int)).toNat/\∀j:Nat,j<x->RJ l j=true:=b;have c:(!kk (nth (yw l) x) 0 20|| !kk (nth (uH l) x) 0 300)= !RJ l x:=by
  unfold RJ KN uJ;rw[Bool.not_and]
 refine⟨by omega,by show(x:Int)<(yw l).length;omega,fun _=>by omega,fun _=>by show(x:Int)<(uH l).length;omega,fun a=>Z1 (l:=l) (fun g=> ?_),fun a=>⟨iZ6,x+1,⟨⟨by simp,tZ⟩,tZ⟩,⟨by show x+1<=(((kA (kD l)).length:Int)).toNat;omega,fun j d=> ?_⟩,by show(((kA (kD l)).length:Int)).toNat-(x+1)<(((kA (kD l)).length:Int)).toNat-x;omega⟩⟩;have a:(!RJ l x)=true:=c.symm.trans a;rw[((Db l).1 g).2.1 x (by omega)] at a;cases a;have a:(!RJ l x)=false:=c.symm.trans a;by_cases e:j=x;subst e;show RJ l j=true;simpa using a;exact b.2 j (by omega);have h:¬(x:Int)<(kA (kD l)).length:=jd h;have n:∀j,j<(kA (kD l)).length->RJ l j=true:=fun j d=>b.2 j (by omega)
 clear b h;refine⟨⟨0,⟨⟨rfl,tZ⟩,tZ⟩,jw _,fun j d=>by omega⟩,fun x b k=>⟨fun h=> ?_,fun h=> ?_⟩⟩;have k:(wi l).length<4611686018427387904:=k;have h:(x:Int)<(wi l).length:=jb h;have q:(((kA (kD l)).length:Int)).toNat=(kA (kD l)).length:=(by omega);have c:(!kk (RI (nth (wi l) x)) 0 99|| !kk (yo (nth (wi l) x)) 0 (((kA (kD l)).length:Int)-1)|| !kk (aV (nth (wi l) x)) (-100000) 1440)= !m9 (kA (kD l)).length (nth (wi l) x):=by
  unfold m9;rw[Bool.not_and,Bool.not_and]
 refine⟨by omega,h,fun _=> ?_,fun a=>Z1 (l:=l) (fun g=> ?_),fun a=>⟨iZ6,x+1,⟨⟨by simp,tZ⟩,tZ⟩,⟨by show x+1<=(wi l).length;omega,fun j d=> ?_⟩,by show(wi l).length-(x+1)<(wi l).length-x;omega⟩⟩;show kK (((kA (kD l)).length:Int)-1);exact iZ6;have a:(!m9 (kA (kD l)).length (nth (wi l) x))=true:=c.symm.trans a;rw[((Db l).1 g).2.2 x (by omega)] at a;cases a;have a:(!m9 (kA (kD l)).length (nth (wi l) x))=false:=c.symm.trans a;by_cases e:j=x;subst e;show m9 (kA (kD l)).length (nth (wi l) j)=true;simpa using a;exact b.2 j (by omega);have h:¬(x:Int)<(wi l).length:=jd h;have m:∀j,j<(wi l).length->m9 (kA (kD l)).length (nth (wi l) j)=true:=fun j d=>b.2 j (by omega)
 show(true,())=(bZ l,());rw[(Db l).2 ⟨f,n,m⟩]
theorem Er:wm PR 32 Em:=vd En HC Tryz.func32 (kcC uE (kcC Ep kcN)) koN
theorem Q3:Ng:=by
 unfold Ng jhs je0 jfB Prod.q4;rintro⟨l,⟨⟩⟩ r;have f:wn (kD l)=dW (kD l):=ct _;refine⟨r,fun h=> ?_,fun h=> ?_⟩;have h:dW (kD l)≠0:=jb h;show(dW (kD l),())=(kY l,());unfold kY;rw[f,jg h];have h:¬dW (kD l)≠0:=jd h;refine⟨fun c=> ?_,fun c=> ?_⟩;have c:bZ l=false:=(by simpa using(show(!bZ l)=true from c));show((70:Int),())=(kY l,());unfold kY;rw[f,jc h,jg c];have c:bZ l=true:=(by simpa using(show(!bZ l)=false from c));have q:=((Db l).1 c).1.2.2.2;have n:∀v,(if bM (wi l)=true then(71:Int) else 0)=v->(v,())=(kY l,()):=fun v s=>by
  unfold kY;rw[f,jc h,jc (by rw[c];decide),s]
 refine⟨⟨0,⟨⟨rfl,tZ⟩,tZ⟩,jw _,fun j g=>by omega⟩,fun x p o=>⟨fun d=> ?_,fun d=> ?_⟩⟩;have o:(wi l).length<4611686018427387904:=o;have d:(x:Int)<(wi l).length:=jb d;refine⟨⟨0,⟨⟨rfl,tZ⟩,tZ⟩,jw _,fun j g=>by omega⟩,fun y i=>⟨fun b=> ?_,fun b=> ?_⟩⟩;have b:(y:Int)<(x:Int):=jb b;have i:y<=x/\∀j:Nat,j<y->Vt (nth (wi l) x) (nth (wi l) j)=false:=i;have k:(y:Int)<(wi l).length:=(by omega);refine⟨by omega,d,by omega,k,fun _=>by omega,fun _=>d,fun _=>by omega,fun _=>k,fun a=> ?_,fun a=>⟨iZ6,y+1,⟨⟨by simp,tZ⟩,tZ⟩,⟨by show y+1<=x;omega,fun j g=> ?_⟩,by show x-(y+1)<x-y;omega⟩⟩;have a:Vt (nth (wi l) x) (nth (wi l) y)=true:=a;exact n 71 (jg (Z2 (by omega) (by omega) a));have a:Vt (nth (wi l) x) (nth (wi l) y)=false:=a;by_cases e:j=y;subst e;exact a;exact i.2 j (by omega);have b:¬(y:Int)<(x:Int):=jd b;have i:y<=x/\∀j:Nat,j<y->Vt (nth (wi l) x) (nth (wi l) j)=false:=i;have m:y=x:=(by omega);subst m;refine⟨iZ6,y+1,⟨⟨by simp,tZ⟩,tZ⟩,⟨by show y+1<=(wi l).length;omega,fun j g=> ?_⟩,by show(wi l).length-(y+1)<(wi l).length-y;omega⟩;by_cases e:j=y;subst e;exact jbv i.2 (by omega);exact p.2 j (by omega);have d:¬(x:Int)<(wi l).length:=jd d;refine n 0 (jc fun b=> ?_);unfold bM Dn at b;rw[j9] at b;obtain⟨j,g,a⟩:=b;have g:=jC.1 g;have:=p.2 j (by omega);rw[this] at a;cases a
theorem Dc:wm PR 10 Nd:=vd Nf Q3 Tryz.func10 (kcC CB (kcC Er kcN)) koN
theorem Xc {l:LgD} {b m:Int} (h:jcM l b) (f:0<=m/\m<=8):0<=Dr l b m/\Dr l b m<=115200000:=by
 have c:=fF.1 h.1;obtain⟨g,i,j⟩:=h.2.2.2.2.2.1;have k:=J8 (a:=fK (nI l b)-w8 (nI l b)) (b:=Rq (yt l)) (by omega) (by have:=c.un;omega);have n:=c.le;have d:0<=max (jan (yt l)) (U.up (fK (nI l b)-w8 (nI l b)) (Rq (yt l)))/\max (jan (yt l)) (U.up (fK (nI l b)-w8 (nI l b)) (Rq (yt l)))<=1440:=(by omega);have e:0<=m*jam (yt l)/\m*jam (yt l)<=80000:=ON (A:=8) (B:=10000) f c.rt;exact ON e d
theorem Xd {l:LgD} {b m:Int} (h:jcM l b) (f:0<=m/\m<=8):0<=FS l b m/\FS l b m<=100000000000000:=by
 have g:=fF.1 h.1;obtain⟨i,j,k⟩:=h.2.2.2.2.2.1;have e:=Xc h f;have a:=ZY l b (fK (nI l b)-w8 (nI l b)).toNat;have c:0<=Dr l b m*O5 (yt l)/\Dr l b m*O5 (yt l)<=11520000000:=ON e g.ni;have d:0<=Dr l b m*O5 (yt l)*Rv l b/\Dr l b m*O5 (yt l)*Rv l b<=16588800000000:=ON c (B:=1440) ⟨a.1,Int.le_trans a.2 (by omega)⟩;have n:=J8 (b:=100*(fK (nI l b)-w8 (nI l b))) d.1 (by omega);unfold FS;omega
theorem Z3 {l:LgD} {b m:Int} (h:qZ (yt l)=true):0<=HZ l b m/\HZ l b m<=100:=by
 unfold HZ
 split
 rename_i a;have:=CI a;exact(rX (fF.1 h).no _ (L.kx this.1)).2;omega
theorem Xe {w p:Int} (e:0<=w/\w<=100000000000000) (d:0<=p/\p<=100):(0<=w*p/\w*p<=10000000000000000)/\0<=U.up (w*p) 100/\U.up (w*p) 100<=10000000000000000:=by
 have a:0<=w*p/\w*p<=10000000000000000:=ON e d;have c:=J8 (b:=100) a.1 (by omega);exact⟨a,c.1,by omega⟩
namespace U
def qd (l:LgD) (x:CaD):LgD:=(kD l,yw l,uH l,yt l,wi l++[x],())
def jc7 (l:LgD) (b t:Int) (s:Int×Bool):Int:=if s.2=true then up (FS l b (BT.size t)*HZ l b s.1) 100 else FS l b (BT.size t)
def jc8 (l:LgD) (b t:Int) (s:Int×Bool):Int:=if s.2=true then 0 else Yp (yt l)*nth (uH l) b.toNat*BT.size t
def XI (l:LgD) (b t:Int) (s:Int×Bool):Int:=jc7 l b t s+jc8 l b t s-min (Rr (yt l)) (((jc7 l b t s+jc8 l b t s)*nth (aF (yt l)) (iH (yQ (nI l b))).toNat).tdiv 100)
def jc9 (a b:Int×Bool):Prop:=b.2=false\/(a.2=true/\a.1<=b.1)
def Vu (l:List NoD):Prop:=∀i,i+1<l.length->tY (nth l i)<=tY (nth l (i+1))
end U
theorem Z4 (l:LgD) (b t:Int):bY (w7 l b t)=XI l b t (t7 l b):=rfl
theorem sm (l:LgD) (x:CaD) (b:Int):t7 (qd l x) b=qp l b (t7 l b) x:=by
 have e:t7 (qd l x) b=(wi l++[x]).foldl (qp l b) (0,false):=by
  show((wi l++[x]).take (wi l++[x]).length).foldl (qp l b) (0,false)=_;rw[zt]
 have e2:t7 l b=(wi l).foldl (qp l b) (0,false):=by
  show((wi l).take (wi l).length).foldl (qp l b) (0,false)=_;rw[zt]
 rw[e,jU,<-e2];rfl
theorem FK {l:LgD} {x:CaD} {b t:Int} (h:yo x≠b):w7 (qd l x) b t=w7 l b t:=by
 refine FJ rfl rfl rfl rfl ?_;rw[sm];exact jc (fun a=>h a.1)
theorem Xf {l:LgD} {x:CaD} {t:Int}:w7 (qd l x) (yo x) t=w7 (aI l (yo x) (aV x)) (yo x) t:=by
 refine FJ (l:=aI l (yo x) (aV x)) (l':=qd l x) rfl rfl rfl rfl ?_;have e:aI l (yo x) (aV x)=qd l (0,yo x,aV x,()):=rfl;rw[e,sm,sm];rfl
theorem UY {l:List NoD} (h:Vu l) {i:Nat}:∀j,i<=j->j<l.length->tY (nth l i)<=tY (nth l j)
 |0,a,_=>by obtain rfl:i=0:=by omega
            exact zI _
 |j+1,a,b=>by
  by_cases e:i=j+1
  subst e;exact zI _
  exact Int.le_trans (UY h j (by omega) (by omega)) (h j b)
theorem Xg {l:LgD} {b m n:Int} (t:jbZ (yt l)) (r:Vu (qT (yt l))) (u:n<=m):HZ l b n<=HZ l b m:=by
 have s:∀i,i<(qT (yt l)).length->tY (nth (qT (yt l)) i)<=100:=fun i hi=>(rX t.no _ (L.kx hi)).2.2
 unfold HZ;rcases C9 (uK l b n) (qT (yt l)) with⟨k,e,f,g,q⟩|⟨e,f⟩;rw[f,jg (by omega)];rcases C9 (uK l b m) (qT (yt l)) with⟨i,a,d,c,p⟩|⟨a,d⟩;rw[d,jg (by omega)];have j:k<=i:=by
  rcases Nat.lt_or_ge i k with h|h;have o:=q i h;have c:=jb c;have o:=jd o;omega;exact h
 exact UY r i j a;rw[a,jc (by omega)];exact s k e;rcases C9 (uK l b m) (qT (yt l)) with⟨i,a,d,c,p⟩|⟨a,d⟩;exfalso;have g:=f _ (L.kx a);have c:=jb c;have g:=jd g;omega;rw[e,a];exact zI _
theorem FL {w p a:Int} (b:0<=w) (d:0<=p) (h:p<=a):U.up (w*p) 100<=U.up (w*a) 100:=by
 have c:0<=w*p:=z6 b d;have e:w*p<=w*a:=Int.mul_le_mul_of_nonneg_left h b;rw[ZP c (by omega),ZP (by omega) (by omega)];omega
theorem FM {w p:Int} (b:0<=w) (c:0<=p) (h:p<=100):U.up (w*p) 100<=w:=by
 have a:=FL b c h;rw[FG b] at a;exact a
theorem jcw {v a s c:Int} (f:0<=v) (h:v<=a) (b:0<=s/\s<=100):v-min c ((v*s).tdiv 100)<=a-min c ((a*s).tdiv 100):=by
 have d:0<=v*s:=z6 f b.1;have e:0<=a*s:=z6 (by omega) b.1;have g:(a-v)*s<=(a-v)*100:=Int.mul_le_mul_of_nonneg_left b.2 (by omega);have i:(a-v)*s=a*s-v*s:=Int.sub_mul _ _ _;rw[zM d,zM e];omega
theorem UZ {l:LgD} {b t:Int} {s a:Int×Bool} (c:jcM l b) (r:BT.size t<=8) (p:Vu (qT (yt l))) (h:jc9 a s):XI l b t a<=XI l b t s:=by
 have i:=fF.1 c.1;have f:=BT.size_le t;have g:=Xd c (m:=BT.size t) ⟨f.1,r⟩;have o:=c.2.2.2.2.1 _ (L.kx (show b.toNat<(uH l).length by have:=c.2.1;have:=c.2.2.2.1;omega));have u:0<=Yp (yt l)*nth (uH l) b.toNat:=z6 i.mi.1 o.1;have v:0<=Yp (yt l)*nth (uH l) b.toNat*BT.size t:=z6 u f.1;have hk:(iH (yQ (nI l b))).toNat<(aF (yt l)).length:=(by have:=c.2.2.2.2.2.2.1;rw[i.sl];omega);have k:=i.sb _ (L.kx hk);have d:=fun m=>Z3 (l:=l) (b:=b) (m:=m) c.1
 have q:0<=jc7 l b t a+jc8 l b t a:=by
  unfold jc7 jc8;have j:=Xe g (d a.1)
  split<;>omega
 refine jcw q ?_ k;unfold jc7 jc8;rcases h with h|⟨j,n⟩;rw[jc (show¬s.2=true by rw[h];decide),jc (show¬s.2=true by rw[h];decide)];by_cases e:a.2=true;rw[jg e,jg e];have:=FM g.1 (d a.1).1 (d a.1).2;omega;rw[jc e,jc e];exact zI _;rw[jg j,jg j];by_cases e:s.2=true;rw[jg e,jg e];have:=FL g.1 (d a.1).1 (Xg (b:=b) i p n);omega;rw[jc e,jc e];have:=FM g.1 (d a.1).1 (d a.1).2;omega
theorem OY (l:LgD) (b:Int) (s:Int×Bool) (x:CaD):jc9 (qp l b s x) s:=by
 unfold qp;by_cases h:yo x=b/\aV x<=w8 (nI l b)/\(s.2=false\/aV x<s.1);rw[jg h];rcases h.2.2 with a|a;exact Or.inl a;exact Or.inr ⟨rfl,by show aV x<=s.1;omega⟩;rw[jc h];cases e:s.2 with
 |false=>exact Or.inl e
 |true=>exact Or.inr ⟨e,zI _⟩
theorem Xh (l:LgD) (b:Int) (s:Int×Bool) {x y:CaD} (d:yo y=yo x) (e:aV y<=aV x):jc9 (qp l b s y) (qp l b s x):=by
 by_cases h:yo x=b/\aV x<=w8 (nI l b)/\(s.2=false\/aV x<s.1);have c:yo y=b/\aV y<=w8 (nI l b)/\(s.2=false\/aV y<s.1):=⟨by rw[d];exact h.1,by omega,h.2.2.imp id (fun f=>by omega)⟩;have a:qp l b s x=(aV x,true):=jg h;have e2:qp l b s y=(aV y,true):=jg c;rw[a,e2];exact Or.inr ⟨rfl,e⟩;have a:qp l b s x=s:=jc h;rw[a];exact OY l b s y
namespace U
def jda:LnD:=(0,0,0,0,0,0,())
def nJ (b:Int) (x:LnD):Bool:=decide (yB x=b)
def findV:Option LnD->LnD×Bool
 |some x=>(x,true)
 |none=>(jda,false)
def kV (l:List LnD) (b:Int):LnD×Bool:=findV (l.find? (nJ b))
end U
theorem OZ {l:LgD} (h:mz l) {b:Int} (j:0<=b/\b<((kA (kD l)).length:Int)):kV (vn l) b=if K0 l b=true then(w7 l b (mB l b),true) else(jda,false):=by
 unfold kV;have key:∀x∈vn l,yB x=b->K0 l b=true/\x=w7 l b (mB l b):=fun x i e=>by
  obtain⟨p,_,c,_,a,_,rfl⟩:=fJ.1 (show x∈fN l 21 from i);have e:(c:Int)=b:=e;subst e;exact⟨a,rfl⟩
 by_cases a:K0 l b=true;rw[jg a];have g:w7 l b (mB l b)∈vn l:=by
  have k:=h.py.2 _ (L.kx (show b.toNat<(yw l).length by rw[h.py.1];omega));have en:((b.toNat:Nat):Int)=b:=(by omega);refine fJ.2 ⟨(nth (yw l) b.toNat).toNat,by omega,b.toNat,by rw[h.py.1];omega,?_,by omega,?_⟩;rw[en];exact a;rw[en]
 cases e:(vn l).find? (nJ b) with
 |some x=>
  have d:=List.find?_some e;have f:=List.mem_of_find?_eq_some e;have:=(key x f (jb d)).2;show(x,true)=_;rw[this]
 |none=>
  rw[List.find?_eq_none] at e;exact absurd (jK (rfl:yB (w7 l b (mB l b))=b)) (e _ g)
 rw[jc a];cases e:(vn l).find? (nJ b) with
 |some x=>
  have d:=List.find?_some e;have f:=List.mem_of_find?_eq_some e;exact absurd (key x f (jb d)).1 a
 |none=>rfl
namespace U
def jbL (l:LgD):List LnD:=if kY l=0 then vn l else[]
def jbM (l:LgD) (n m:Int):Int:=if wo l (qj l n&&qw m)=0 then gK l n-gK (aI l n m) n else 0
def Dt (l:LgD):Prop:=Dm (kD l)/\(yw l).length<=20/\(uH l).length<=20/\(aF (yt l)).length<=20/\(qT (yt l)).length<=20/\(wi l).length<=30
end U
end Go.X
namespace Go.X
open U
theorem Z5 {l:LgD} (h:mz l) {b:Int} (c:0<=b/\b<((kA (kD l)).length:Int)) (a:K0 l b=true):w7 l b (mB l b)∈vn l:=by
 have d:=h.py.2 _ (L.kx (show b.toNat<(yw l).length by rw[h.py.1];omega));have en:((b.toNat:Nat):Int)=b:=(by omega);refine fJ.2 ⟨(nth (yw l) b.toNat).toNat,by omega,b.toNat,by rw[h.py.1];omega,?_,by omega,?_⟩;rw[en];exact a;rw[en]
structure jcx (l:LgD) (x:CaD) (L L':List LnD):Prop where
 len:L'.length=L.length
 fnd:∀k,k<L.length->kV L' (yB (nth L k))=(w7 (qd l x) (yB (nth L k)) (mB l (yB (nth L k))),true)
theorem FN {l:LgD} (h:mz l):(vn l).length=((List.range (kA (kD l)).length).filter (fun(b:Nat)=>K0 l (b:Int))).length:=by
 rw[(UW h).length_eq,zr]
theorem Yk {l:LgD} {x:CaD} (h:mz l) (a:mz (qd l x)):jcx l x (vn l) (vn (qd l x)):=by
 refine⟨?_,fun k hk=> ?_⟩;rw[FN h,FN a];rfl;obtain⟨p,_,c,d,g,_,e⟩:=fJ.1 (show nth (vn l) k∈fN l 21 from L.kx hk);have f:c<(kA (kD l)).length:=(by rw[<-h.py.1];exact d);have e2:yB (nth (vn l) k)=(c:Int):=(by rw[e];rfl);rw[e2,OZ a (b:=(c:Int)) ⟨by omega,by show(c:Int)<(kA (kD l)).length;omega⟩];exact jg (show K0 (qd l x) (c:Int)=true from g)
theorem Dd {l:LgD} {k:Nat} (hk:k<(vn l).length):K0 l (yB (nth (vn l) k))=true/\nth (vn l) k=w7 l (yB (nth (vn l) k)) (mB l (yB (nth (vn l) k))):=by
 obtain⟨p,_,c,b,a,_,e⟩:=fJ.1 (show nth (vn l) k∈fN l 21 from L.kx hk);have e2:yB (nth (vn l) k)=(c:Int):=(by rw[e];rfl);rw[e2];exact⟨a,e⟩
theorem U0 {l:LgD} {x:CaD} {k:Nat} (hk:k<(vn l).length) (e:yB (nth (vn l) k)=yo x):gK l (yo x)-gK (aI l (yo x) (aV x)) (yo x)=bY (nth (vn l) k)-bY (w7 (qd l x) (yo x) (mB l (yo x))):=by
 obtain⟨a,b⟩:=Dd hk;rw[e] at a b;rw[b,Xf];have c:gK l (yo x)=bY (w7 l (yo x) (mB l (yo x))):=jg a;have d:gK (aI l (yo x) (aV x)) (yo x)=bY (w7 (aI l (yo x) (aV x)) (yo x) (mB l (yo x))):=jg (show K0 (aI l (yo x) (aV x)) (yo x)=true from a);rw[c,d]
theorem Xi {l:LgD} {x:CaD} (h:K0 l (yo x)=false):gK l (yo x)-gK (aI l (yo x) (aV x)) (yo x)=0:=by
 have a:gK l (yo x)=0:=jc (by rw[h];decide);have b:gK (aI l (yo x) (aV x)) (yo x)=0:=jc (by show¬K0 l (yo x)=true;rw[h];decide);rw[a,b];rfl
theorem Xj {l:LgD} {x y:CaD} (h:mz l) (c:Vu (qT (yt l))) (i:yo y=yo x) (k:aV y<=aV x) {b:Int} (m:0<=b/\b<((kA (kD l)).length:Int)):
 bY (w7 (qd l x) b (mB l b))<=bY (w7 l b (mB l b))/\bY (w7 (qd l y) b (mB l b))<=bY (w7 (qd l x) b (mB l b)):=by
 have a:=jbq h m;have j:=(ct (kD l)).symm.trans h.cp;have d:BT.size (mB l b)<=8:=by
  have e:=OT j (b:=b.toNat) (by omega);have p:=jb0 h;have g:∀(t:Int) (n:Nat),(sy t n).length<=n:=fun t n=>by
   induction n with
   |zero=>exact jk _
   |succ n q=>
    rw[Q2,jJ]
    split
    show _+1<=_;omega;show _+0<=_;omega
  have o:=g (nth (O4 (kD l)) b.toNat) (kB (kE (kD l))).length;show BT.size (nth (O4 (kD l)) b.toNat)<=8;omega
 have ex:bY (w7 (qd l x) b (mB l b))=XI l b (mB l b) (qp l b (t7 l b) x):=(by rw[Z4,sm];rfl);have f:bY (w7 (qd l y) b (mB l b))=XI l b (mB l b) (qp l b (t7 l b) y):=(by rw[Z4,sm];rfl);rw[ex,f,Z4];exact⟨UZ a d c (OY l b _ x),UZ a d c (Xh l b _ i k)⟩
namespace U
def pg (l:List NoD):Bool:=(List.range (l.length-1)).all (fun i=>decide (tY (nth l i)<=tY (nth l (i+1))))
end U
theorem HD {l:List NoD}:pg l=true↔Vu l:=by
 unfold pg Vu;rw[jY];constructor;intro h i hi;exact jb (h i (jC.2 (by omega)));intro h i hi;exact jK (h i (by have:=jC.1 hi;omega))
open Go.Proofs
def U1:wd:=⟨[.val tLg,.fn [tBo] [.bool]],[tBo,.int],false,fun d=>[(qh (kD d.1)).length<=100000,kY d.1=0->kG (d.2.1.pre ((d.1,[],()),()))],fun d=>(wv d.1 (wl d.1 d.2.1.F),wo d.1 (wl d.1 d.2.1.F),())⟩
def U2:Ann:=fun r=>match r with
 |10=>some fun σ=>{X:=Nat,sl:=fun i=>[(46,.dat .int (i:Int))],ob:=fun i=>[(25,some (.map false .int (.ptr tBl) (x8 (gb tLg σ 2) i)))],inv:=fun i=>i<=(gd (.slice .int) σ 44).length,mu:=fun i=>(gd (.slice .int) σ 44).length-i}
 |14=>some fun σ=>{X:=Nat,sl:=fun p=>[(71,.dat .int (p:Int))],ob:=fun p=>[(65,some (.box 98 false ((bx σ 65).set 21 (.own (ew 65 21) .int)))),(ew 65 21,some (.row 3 .int false .yes (wM (gb tLg σ 2) (gd .int σ 13) p)))],inv:=fun p=>p<=(kB (kE (kD (gb tLg σ 2)))).length,mu:=fun p=>(kB (kE (kD (gb tLg σ 2)))).length-p}
 |21=>some fun σ=>{X:=Nat,sl:=fun i=>[(103,.dat .int (i:Int))],ob:=fun i=>[(65,some (.box 98 false (((bx σ 65).set 24 (.dat .bool (sF (kC (gb tLg σ 2) (gd .int σ 13) i)))).set 25 (.dat .int (pk (kC (gb tLg σ 2) (gd .int σ 13) i))))))],inv:=fun i=>i<=(wi (gb tLg σ 2)).length,mu:=fun i=>(wi (gb tLg σ 2)).length-i}
 |_=>none
abbrev jd7 (d:LgD×FnD [tBo] [Ty.bool]×Unit):=d.1.2.2.2.1.q4.q4.2.1
abbrev jd8 (d:LgD×FnD [tBo] [Ty.bool]×Unit):=d.1.2.2.2.1.q4.q4.1
abbrev jd9 (d:LgD×FnD [tBo] [Ty.bool]×Unit):=d.1.2.2.2.1.q4.2.2.2.1
abbrev jea (d:LgD×FnD [tBo] [Ty.bool]×Unit):=d.1.2.2.2.1.q4.2.2.1
abbrev jew (d:LgD×FnD [tBo] [Ty.bool]×Unit):=(kB (kE (kD d.1)))
abbrev jgG (d:LgD×FnD [tBo] [Ty.bool]×Unit):=(wv d.1 (wl d.1 d.2.1.2),wo d.1 (wl d.1 d.2.1.2),())
abbrev jeb (d:LgD×FnD [tBo] [Ty.bool]×Unit):=d.1.2.2.2.1.q4.2.1
abbrev jdx (d:LgD×FnD [tBo] [Ty.bool]×Unit):=(kl d.1.1)
abbrev jdu (d:LgD×FnD [tBo] [Ty.bool]×Unit)(x:Nat):=(nth (jdx d) x)
abbrev jds (d:LgD×FnD [tBo] [Ty.bool]×Unit)(x:Nat):=(nth d.1.1.2.2.1 (jdu d x).toNat)
abbrev jeI (d:LgD×FnD [tBo] [Ty.bool]×Unit)(x:Nat):=(nth d.1.2.2.1 (jdu d x).toNat)
abbrev jec (d:LgD×FnD [tBo] [Ty.bool]×Unit):=d.1.2.2.2.1.q4.1
abbrev jdH (d:LgD×FnD [tBo] [Ty.bool]×Unit)(x:Nat)(a:Nat):=(qq ((jds d x).1.1,(jds d x).1.2.1,(jds d x).1.2.2.1,(jds d x).1.2.2.2.1,(jds d x).1.q4.1,(jds d x).1.q4.2.1,(jds d x).2.1,(jds d x).2.2.1,(jds d x).2.2.2.1,d.1.2.2.2.1.1,d.1.2.2.2.1.2.1,d.1.2.2.2.1.2.2.1,d.1.2.2.2.1.2.2.2.1,(jec d),(jeb d),(jea d),(jd9 d),(jd8 d),(jd7 d),nth (jdx d) x,nth d.1.2.1 (jdu d x).toNat,wM d.1 (jdu d x) a,(0:Int),(0:Int),false,(0:Int),()))
abbrev jgH (d:LgD×FnD [tBo] [Ty.bool]×Unit)(x:Nat):=((jds d x).1.1=(jds d x).1.1/\(jds d x).1.2.1=(jds d x).1.2.1/\(jds d x).1.2.2.1=(jds d x).1.2.2.1/\(jds d x).1.2.2.2.1=(jds d x).1.2.2.2.1/\(jds d x).1.q4.1=(jds d x).1.q4.1/\(jds d x).1.q4.2.1=(jds d x).1.q4.2.1/\(jds d x).2.1=(jds d x).2.1/\(jds d x).2.2.1=(jds d x).2.2.1/\(jds d x).2.2.2.1=(jds d x).2.2.2.1/\d.1.2.2.2.1.1=d.1.2.2.2.1.1/\d.1.2.2.2.1.2.1=d.1.2.2.2.1.2.1/\d.1.2.2.2.1.2.2.1=d.1.2.2.2.1.2.2.1/\d.1.2.2.2.1.2.2.2.1=d.1.2.2.2.1.2.2.2.1/\(jec d)=(jec d)/\(jeb d)=(jeb d)/\(jea d)=(jea d)/\(jd9 d)=(jd9 d)/\(jd8 d)=(jd8 d)/\(jd7 d)=(jd7 d)/\nth (jdx d) x=nth (jdx d) x/\nth d.1.2.1 (jdu d x).toNat=nth d.1.2.1 (jdu d x).toNat/\True/\(0:Int)=0/\(0:Int)=0/\qF/\(0:Int)=0/\True)
abbrev jex (d:LgD×FnD [tBo] [Ty.bool]×Unit)(x:Nat)(a:Nat):=(kC d.1 (jdu d x) a)
abbrev jf0 (d:LgD×FnD [tBo] [Ty.bool]×Unit)(x:Nat)(a:Nat)(b:Nat):=(qq ((jds d x).1.1,(jds d x).1.2.1,(jds d x).1.2.2.1,(jds d x).1.2.2.2.1,(jds d x).1.q4.1,(jds d x).1.q4.2.1,(jds d x).2.1,(jds d x).2.2.1,(jds d x).2.2.2.1,d.1.2.2.2.1.1,d.1.2.2.2.1.2.1,d.1.2.2.2.1.2.2.1,d.1.2.2.2.1.2.2.2.1,(jec d),(jeb d),(jea d),(jd9 d),(jd8 d),(jd7 d),nth (jdx d) x,nth d.1.2.1 (jdu d x).toNat,wM d.1 (jdu d x) a,aG (jdH d x a),bN (jeI d x) (jdH d x a),sF (jex d x b),pk (jex d x b),()))
def U3:Prop:=∀(d:LgD×FnD [tBo] [Ty.bool]×Unit),(qh (kD d.1)).length<=100000->(kY d.1=0->kG (d.2.1.1 ((d.1,[],()),())))->(qh (kD d.1)).length<=100000/\(decide (kY d.1≠0)=true->((((((0:Int),[],[],()),[],[],(0:Int),(0:Int),[],()),[],[],((0:Int),(0:Int),(0:Int),(0:Int),(0:Int),(0:Int),(0:Int),(0:Int),[],[],()),[],()),[],()),kY d.1,())=(jgG d))/\(decide (kY d.1≠0)=false->asks (d.2.1.1 ((d.1,[],()),())) (((!(d.2.1.2 ((d.1,[],()),())).1)=true->((((((0:Int),[],[],()),[],[],(0:Int),(0:Int),[],()),[],[],((0:Int),(0:Int),(0:Int),(0:Int),(0:Int),(0:Int),(0:Int),(0:Int),[],[],()),[],()),[],()),(1:Int),())=(jgG d))/\((!(d.2.1.2 ((d.1,[],()),())).1)=false->(qh d.1.1).length<=100000/\(qh d.1.1).length<=100000/\((jdx d).length<4611686018427387904->(∃(x:Nat),((0=(x:Int)/\True)/\[]=x8 d.1 x/\True)/\x<=(jdx d).length)/\∀(x:Nat),x<=(jdx d).length->(decide ((x:Int)<(jdx d).length)=true->0<=(x:Int)/\(x:Int)<(jdx d).length/\0<=nth (jdx d) x/\nth (jdx d) x<(d.1.1.2.2.1.length:Int)/\0<=nth (jdx d) x/\nth (jdx d) x<(d.1.2.1.length:Int)/\(d.1.1.1.2.1.length<4611686018427387904->(∃(a:Nat),((0=(a:Int)/\True)/\(jgH d x)/\wM d.1 (jdu d x) a=[]/\True)/\a<=(jew d).length)/\∀(a:Nat),a<=(jew d).length->(decide ((a:Int)<d.1.1.1.2.1.length)=true->0<=nth (jdx d) x/\nth (jdx d) x<(↑(d4 d.1.1).length:Int)/\0<=(a:Int)/\(a:Int)<=64/\(decide (nL (nth (d4 d.1.1) (jdu d x).toNat/(2:Int)^a) (1:Int)=1)=true->((wM d.1 (jdu d x) a).length+[(a:Int)].length)*8<=140737488355328/\kK ((a:Int)+1)/\∃(c:Nat),(((a:Int)+1=(c:Int)/\True)/\(jgH d x)/\wM d.1 (jdu d x) a++[(a:Int)]=wM d.1 (jdu d x) c/\True)/\c<=(jew d).length/\(jew d).length-c<(jew d).length-a)/\(decide (nL (nth (d4 d.1.1) (jdu d x).toNat/(2:Int)^a) (1:Int)=1)=false->kK ((a:Int)+1)/\∃(c:Nat),(((a:Int)+1=(c:Int)/\True)/\wM d.1 (jdu d x) a=wM d.1 (jdu d x) c/\(jgH d x)/\True)/\c<=(jew d).length/\(jew d).length-c<(jew d).length-a))/\(decide ((a:Int)<d.1.1.1.2.1.length)=false->0<=nth (jdx d) x/\nth (jdx d) x<(d.1.2.2.1.length:Int)/\EC (jdH d x a)/\0<=nth d.1.2.2.1 (jdu d x).toNat/\nth d.1.2.2.1 (jdu d x).toNat<=300/\(d.1.q4.1.length<4611686018427387904->(∃(b:Nat),((0=(b:Int)/\True)/\((jds d x).1.1=(jds d x).1.1/\(jds d x).1.2.1=(jds d x).1.2.1/\(jds d x).1.2.2.1=(jds d x).1.2.2.1/\(jds d x).1.2.2.2.1=(jds d x).1.2.2.2.1/\(jds d x).1.q4.1=(jds d x).1.q4.1/\(jds d x).1.q4.2.1=(jds d x).1.q4.2.1/\(jds d x).2.1=(jds d x).2.1/\(jds d x).2.2.1=(jds d x).2.2.1/\(jds d x).2.2.2.1=(jds d x).2.2.2.1/\d.1.2.2.2.1.1=d.1.2.2.2.1.1/\d.1.2.2.2.1.2.1=d.1.2.2.2.1.2.1/\d.1.2.2.2.1.2.2.1=d.1.2.2.2.1.2.2.1/\d.1.2.2.2.1.2.2.2.1=d.1.2.2.2.1.2.2.2.1/\(jec d)=(jec d)/\(jeb d)=(jeb d)/\(jea d)=(jea d)/\(jd9 d)=(jd9 d)/\(jd8 d)=(jd8 d)/\(jd7 d)=(jd7 d)/\nth (jdx d) x=nth (jdx d) x/\nth d.1.2.1 (jdu d x).toNat=nth d.1.2.1 (jdu d x).toNat/\wM d.1 (jdu d x) a=wM d.1 (jdu d x) a/\aG (jdH d x a)=aG (jdH d x a)/\bN (jeI d x) (jdH d x a)=bN (jeI d x) (jdH d x a)/\sF (jdH d x a)=sF (jex d x b)/\pk (jdH d x a)=pk (jex d x b)/\True)/\True)/\b<=(wi d.1).length)/\∀(b:Nat),b<=(wi d.1).length->(decide ((b:Int)<d.1.q4.1.length)=true->0<=(b:Int)/\(b:Int)<d.1.q4.1.length/\(decide ((nth d.1.q4.1 b).2.1=nth (jdx d) x)=true->kK ((b:Int)+1)/\∃(c:Nat),(((b:Int)+1=(c:Int)/\True)/\((jds d x).1.1=(jds d x).1.1/\(jds d x).1.2.1=(jds d x).1.2.1/\(jds d x).1.2.2.1=(jds d x).1.2.2.1/\(jds d x).1.2.2.2.1=(jds d x).1.2.2.2.1/\(jds d x).1.q4.1=(jds d x).1.q4.1/\(jds d x).1.q4.2.1=(jds d x).1.q4.2.1/\(jds d x).2.1=(jds d x).2.1/\(jds d x).2.2.1=(jds d x).2.2.1/\(jds d x).2.2.2.1=(jds d x).2.2.2.1/\d.1.2.2.2.1.1=d.1.2.2.2.1.1/\d.1.2.2.2.1.2.1=d.1.2.2.2.1.2.1/\d.1.2.2.2.1.2.2.1=d.1.2.2.2.1.2.2.1/\d.1.2.2.2.1.2.2.2.1=d.1.2.2.2.1.2.2.2.1/\(jec d)=(jec d)/\(jeb d)=(jeb d)/\(jea d)=(jea d)/\(jd9 d)=(jd9 d)/\(jd8 d)=(jd8 d)/\(jd7 d)=(jd7 d)/\nth (jdx d) x=nth (jdx d) x/\nth d.1.2.1 (jdu d x).toNat=nth d.1.2.1 (jdu d x).toNat/\wM d.1 (jdu d x) a=wM d.1 (jdu d x) a/\pj (jf0 d x a b)=aG (jdH d x a)/\EB (jf0 d x a b)=bN (jeI d x) (jdH d x a)/\Vn (nth d.1.q4.1 b).2.2.1 (jf0 d x a b)=sF (kC d.1 (jdu d x) c)/\Vo (nth d.1.q4.1 b).2.2.1 (jf0 d x a b)=pk (kC d.1 (jdu d x) c)/\True)/\True)/\c<=(wi d.1).length/\(wi d.1).length-c<(wi d.1).length-b)/\(decide ((nth d.1.q4.1 b).2.1=nth (jdx d) x)=false->kK ((b:Int)+1)/\∃(c:Nat),(((b:Int)+1=(c:Int)/\True)/\((jds d x).1.1=(jds d x).1.1/\(jds d x).1.2.1=(jds d x).1.2.1/\(jds d x).1.2.2.1=(jds d x).1.2.2.1/\(jds d x).1.2.2.2.1=(jds d x).1.2.2.2.1/\(jds d x).1.q4.1=(jds d x).1.q4.1/\(jds d x).1.q4.2.1=(jds d x).1.q4.2.1/\(jds d x).2.1=(jds d x).2.1/\(jds d x).2.2.1=(jds d x).2.2.1/\(jds d x).2.2.2.1=(jds d x).2.2.2.1/\d.1.2.2.2.1.1=d.1.2.2.2.1.1/\d.1.2.2.2.1.2.1=d.1.2.2.2.1.2.1/\d.1.2.2.2.1.2.2.1=d.1.2.2.2.1.2.2.1/\d.1.2.2.2.1.2.2.2.1=d.1.2.2.2.1.2.2.2.1/\(jec d)=(jec d)/\(jeb d)=(jeb d)/\(jea d)=(jea d)/\(jd9 d)=(jd9 d)/\(jd8 d)=(jd8 d)/\(jd7 d)=(jd7 d)/\nth (jdx d) x=nth (jdx d) x/\nth d.1.2.1 (jdu d x).toNat=nth d.1.2.1 (jdu d x).toNat/\wM d.1 (jdu d x) a=wM d.1 (jdu d x) a/\aG (jdH d x a)=aG (jdH d x a)/\bN (jeI d x) (jdH d x a)=bN (jeI d x) (jdH d x a)/\sF (jex d x b)=sF (kC d.1 (jdu d x) c)/\pk (jex d x b)=pk (kC d.1 (jdu d x) c)/\True)/\True)/\c<=(wi d.1).length/\(wi d.1).length-c<(wi d.1).length-b))/\(decide ((b:Int)<d.1.q4.1.length)=false->kK ((x:Int)+1)/\∃(c:Nat),(((x:Int)+1=(c:Int)/\True)/\d9 Ty.int (jdu d x) (some (nth d.1.1.2.2.1 (jdu d x).toNat,d.1.2.2.2.1,nth (jdx d) x,nth d.1.2.1 (jdu d x).toNat,wM d.1 (jdu d x) a,aG (jdH d x a),bN (jeI d x) (jdH d x a),sF (jex d x b),pk (jex d x b),())) (x8 d.1 x)=x8 d.1 c/\True)/\c<=(jdx d).length/\(jdx d).length-c<(jdx d).length-x)))))/\(decide ((x:Int)<(jdx d).length)=false->((d.1,x8 d.1 x,()),(0:Int),())=(jgG d))))))
def jax (l:LgD) (n:Int) (k:Nat):BlD:=
 (nth (kA (kD l)) n.toNat,yt l,n,nth (yw l) n.toNat,wM l n (kB (kE (kD l))).length,
  aG (sA l n (wM l n (kB (kE (kD l))).length)),bN (nth (uH l) n.toNat) (sA l n (wM l n (kB (kE (kD l))).length)),sF (kC l n k),pk (kC l n k),())
theorem Ni (l:LgD) (n:Int) {k:Nat} (hk:k<=(wi l).length):jax l n k=kC l n k:=by
 obtain⟨c1,c2,a,b,c,d,f⟩:=qS l n k hk;have e:kC l n k=(qi (kC l n k),yC (kC l n k),ND (kC l n k),NE (kC l n k),qL (kC l n k),pj (kC l n k),EB (kC l n k),sF (kC l n k),pk (kC l n k),()):=rfl;rw[c1,c2,a,b,c,d,f] at e;exact e.symm
theorem U4 (l:LgD) (n:Int) (k:Nat):wM l n (k+1)=wM l n k++(if yI (nth (d4 (kD l)) n.toNat) (k:Int)=true then[(k:Int)] else[]):=by
 unfold wM sy;rw[zq,List.filter_append,zA];congr 1;by_cases h:yI (nth (d4 (kD l)) n.toNat) (k:Int)=true;rw[jg h];simp only[List.filter,h,List.map];rw[jc h];rw[ki] at h;simp only[List.filter,h,List.map]
theorem Xk {l:LgD} (h:mz l):(d4 (kD l)).length=(kA (kD l)).length:=by
 unfold d4;rw[jg h.cp];unfold y9;rw[zr,zG]
theorem Xl:U3:=by
 unfold U3 jf0 jex jgH jdH jec jeI jds jdu jdx jeb jgG jew jea jd9 jd8 jd7 Prod.q4;rintro⟨l,told,⟨⟩⟩ w K;have w:(qh (kD l)).length<=100000:=w;refine⟨w,fun h=> ?_,fun h=> ?_⟩;have h:kY l≠0:=jb h;have e:∀t,wo l t=kY l:=fun t=>jg h
 have e2:∀t,wv l t=jcL:=fun t=>jc (by rw[e];exact h)
 show(jcL,kY l,())=(wv l (wl l told.2),wo l (wl l told.2),());rw[e,e2];have h:kY l=0:=jN.1 (jd h);have g:=bB h;refine qN _ (K h) ⟨fun o=> ?_,fun o=>⟨w,w,fun H=>⟨⟨0,⟨⟨rfl,tZ⟩,rfl,tZ⟩,jw _⟩,fun x I=>⟨fun q=> ?_,fun q=> ?_⟩⟩⟩⟩;have o:wl l told.2=false:=(by simpa using(show(!wl l told.2)=true from o));show(jcL,(1:Int),())=(wv l (wl l told.2),wo l (wl l told.2),());have e:wo l (wl l told.2)=1:=by
  unfold wo;rw[jc (fun z=>z h),o];rfl
 have e2:wv l (wl l told.2)=jcL:=jc (by rw[e];decide);rw[e,e2];have q:(x:Int)<(kl (kD l)).length:=jb q;have f:x<(kl (kD l)).length:=(by omega);obtain⟨n,en⟩:∃n,n=nth (kl (kD l)) x:=⟨_,rfl⟩;have c:0<=n/\n<((kA (kD l)).length:Int):=(by rw[en];exact Hn (L.kx f));have M:(kl (kD l)).length<=4:=OS g;have C:n<((yw l).length:Int):=(by rw[g.py.1];exact c.2);have F:n<((uH l).length:Int):=(by rw[g.tr.1];exact c.2);have E:n<((d4 (kD l)).length:Int):=(by rw[Xk g];exact c.2);have O:=jb0 g;have u:=CK (nth (d4 (kD l)) n.toNat);have G:=g.tr.2 _ (L.kx (show n.toNat<(uH l).length by omega));have D:x8 l (x+1)=d9 .int n (some (kT l n)) (x8 l x):=(by rw[Ka f,<-en];rfl);have N:=g.cl;have step:∀k,k<(wi l).length->kC l n (k+1)=ga n (jax l n k) (nth (wi l) k):=fun k hk=>by rw[cv hk,Ni l n (by omega)]
 subst en;refine⟨by omega,q,c.1,c.2,c.1,C,fun P=>⟨⟨0,⟨⟨rfl,tZ⟩,(by repeat' (first|exact trivial|exact rfl|apply And.intro)),rfl,tZ⟩,jw _⟩,fun p v=>⟨fun b=> ?_,fun b=> ?_⟩⟩⟩;have b:(p:Int)<(kB (kE (kD l))).length:=jb b;have d:=U4 l (nth (kl (kD l)) x) p;have s:=(u p).1;have s:(wM l (nth (kl (kD l)) x) p).length<=p:=s;have up:p+1<=(kB (kE (kD l))).length:=(by omega);have r:(kB (kE (kD l))).length-(p+1)<(kB (kE (kD l))).length-p:=(by omega);refine⟨c.1,E,by omega,by omega,fun j=> ?_,fun j=> ?_⟩;have j:yI (nth (d4 (kD l)) (nth (kl (kD l)) x).toNat) (p:Int)=true:=j;rw[jg j] at d;exact⟨by show((wM l (nth (kl (kD l)) x) p).length+1)*8<=140737488355328;omega,iZ6,p+1,⟨⟨by simp,tZ⟩,(by repeat' (first|exact trivial|exact rfl|apply And.intro)),d.symm,tZ⟩,up,r⟩;have j:yI (nth (d4 (kD l)) (nth (kl (kD l)) x).toNat) (p:Int)=false:=j;rw[jc (by rw[j];decide),j7] at d;exact⟨iZ6,p+1,⟨⟨by simp,tZ⟩,d.symm,(by repeat' (first|exact trivial|exact rfl|apply And.intro)),tZ⟩,up,r⟩;have b:¬(p:Int)<(kB (kE (kD l))).length:=jd b;have v:p<=(kB (kE (kD l))).length:=v;have B:p=(kB (kE (kD l))).length:=(by omega);subst B;have J:CH (sA l (nth (kl (kD l)) x) (wM l (nth (kl (kD l)) x) (kB (kE (kD l))).length)):=OR g c (by have:=(u (kB (kE (kD l))).length).1;unfold wM;omega);refine⟨c.1,F,rY.2 J,G.1,G.2,fun Q=>⟨⟨0,⟨⟨rfl,tZ⟩,(by repeat' (first|exact trivial|exact rfl|apply And.intro)),tZ⟩,jw _⟩,fun k hk=>⟨fun a=> ?_,fun a=> ?_⟩⟩⟩;have a:(k:Int)<(wi l).length:=jb a;have i:=step k (by omega);have up:k+1<=(wi l).length:=(by omega);have r:(wi l).length-(k+1)<(wi l).length-k:=(by omega);refine⟨by omega,a,fun m=> ?_,fun m=> ?_⟩;have m:yo (nth (wi l) k)=(nth (kl (kD l)) x):=jb m;have e:kC l (nth (kl (kD l)) x) (k+1)=vX (aV (nth (wi l) k)) (jax l (nth (kl (kD l)) x) k):=(by rw[i];exact jg m);have y:sF (vX (aV (nth (wi l) k)) (jax l (nth (kl (kD l)) x) k))=sF (kC l (nth (kl (kD l)) x) (k+1)):=(by rw[e]);have e2:pk (vX (aV (nth (wi l) k)) (jax l (nth (kl (kD l)) x) k))=pk (kC l (nth (kl (kD l)) x) (k+1)):=(by rw[e]);exact⟨iZ6,k+1,⟨⟨by simp,tZ⟩,(by repeat' (first|exact trivial|exact y|exact e2|exact rfl|apply And.intro)),tZ⟩,up,r⟩;have m:¬yo (nth (wi l) k)=(nth (kl (kD l)) x):=jd m;have e:kC l (nth (kl (kD l)) x) (k+1)=kC l (nth (kl (kD l)) x) k:=(by rw[i,Ni l (nth (kl (kD l)) x) (by omega)];exact jc m);have y:sF (kC l (nth (kl (kD l)) x) k)=sF (kC l (nth (kl (kD l)) x) (k+1)):=(by rw[e]);have e2:pk (kC l (nth (kl (kD l)) x) k)=pk (kC l (nth (kl (kD l)) x) (k+1)):=(by rw[e]);exact⟨iZ6,k+1,⟨⟨by simp,tZ⟩,(by repeat' (first|exact trivial|exact y|exact e2|exact rfl|apply And.intro)),tZ⟩,up,r⟩;have a:¬(k:Int)<(wi l).length:=jd a;have hk:k<=(wi l).length:=hk;have A:k=(wi l).length:=(by omega);subst A;have e:d9 .int (nth (kl (kD l)) x) (some (jax l (nth (kl (kD l)) x) (wi l).length)) (x8 l x)=x8 l (x+1):=by
  rw[D,Ni l (nth (kl (kD l)) x) (jk _)];rfl
 exact⟨iZ6,x+1,⟨⟨by simp,tZ⟩,e,tZ⟩,by show x+1<=(kl (kD l)).length;omega,by show(kl (kD l)).length-(x+1)<(kl (kD l)).length-x;omega⟩;have q:¬(x:Int)<(kl (kD l)).length:=jd q;have I:x<=(kl (kD l)).length:=I;have f:x=(kl (kD l)).length:=(by omega);subst f;have o:wl l told.2=true:=(by simpa using(show(!wl l told.2)=false from o));show((l,H5 l,()),(0:Int),())=(wv l (wl l told.2),wo l (wl l told.2),());have e:wo l (wl l told.2)=0:=by
  unfold wo;rw[jc (fun z=>z h),jg o]
 have e2:wv l (wl l told.2)=(l,H5 l,()):=jg e;rw[e,e2]
theorem lR:wm PR 33 U1:=vd U2 Xl Tryz.func33 (kcC QW (kcC Qm (kcC MD kcN))) (koC xI (koC nC koN))
def Q4:wd:=⟨[.val tLg],[.slice tLn,.int],false,fun d=>[(qh (kD d.1)).length<=100000],fun d=>(ku d.1,kY d.1,())⟩
abbrev jfC (d:LgD×Unit):=(wl d.1 fun(a:BoD×Unit)=>(true,()))
def Q5:Prop:=∀(d:LgD×Unit),(qh (kD d.1)).length<=100000->(qh (kD d.1)).length<=100000/\(kY d.1=0->kG [])/\(decide (wo d.1 (jfC d)≠0)=true->([],wo d.1 (jfC d),())=(ku d.1,kY d.1,()))/\(decide (wo d.1 (jfC d)≠0)=false->KO (wv d.1 (jfC d))/\(kU (wv d.1 (jfC d)),(0:Int),())=(ku d.1,kY d.1,()))
def Nj:wd:=⟨[.val tLg],[.slice .int,.int],false,fun d=>[(qh (kD d.1)).length<=100000],fun d=>(KP d.1,kY d.1,())⟩
abbrev jfD (d:LgD×Unit):=(wl d.1 fun(a:BoD×Unit)=>(true,()))
def Nk:Prop:=∀(d:LgD×Unit),(qh (kD d.1)).length<=100000->(qh (kD d.1)).length<=100000/\(kY d.1=0->kG [])/\(decide (wo d.1 (jfD d)≠0)=true->([],wo d.1 (jfD d),())=(KP d.1,kY d.1,()))/\(decide (wo d.1 (jfD d)≠0)=false->Vq (wv d.1 (jfD d))/\(Rt (wv d.1 (jfD d)),(0:Int),())=(KP d.1,kY d.1,()))
def Q6:wd:=⟨[.val tBo,.ref .int],[.bool],false,fun d=>[(kA (kD (bL d.1))).length<=100],fun d=>(wT d.1 d.2.1,())⟩
def Q7:Prop:=∀(d:BoD×Int×Unit),(kA (kD (bL d.1))).length<=100->(kA (kD (bL d.1))).length<=100/\(wT d.1 d.2.1,())=(wT d.1 d.2.1,())
def Xm:wd:=⟨[.val tLg,.val .int],[.slice .int,.int],false,fun d=>[(qh (kD d.1)).length<=100000],fun d=>(KQ d.1 d.2.1,wo d.1 (qj d.1 d.2.1),())⟩
abbrev jfE (d:LgD×Int×Unit):=(wl d.1 fun(a:BoD×Unit)=>(wT a.1 d.2.1,()))
def Xn:Prop:=∀(d:LgD×Int×Unit),(qh (kD d.1)).length<=100000->(qh (kD d.1)).length<=100000/\(kY d.1=0->kG [(kA (kD (bL (d.1,[],())))).length<=100])/\(decide (wo d.1 (jfE d)≠0)=true->([],wo d.1 (jfE d),())=(KQ d.1 d.2.1,wo d.1 (qj d.1 d.2.1),()))/\(decide (wo d.1 (jfE d)≠0)=false->Vr (wv d.1 (jfE d))/\(Ru (wv d.1 (jfE d)) d.2.1,(0:Int),())=(KQ d.1 d.2.1,wo d.1 (qj d.1 d.2.1),()))
def Kw:wd:=⟨[.val tBo,.ref .int,.ref .int],[.bool],false,fun d=>[(kA (kD (bL d.1))).length<=100],fun d=>(wT d.1 d.2.1&&qw d.2.2.1,())⟩
def Kx:Prop:=∀(d:BoD×Int×Int×Unit),(kA (kD (bL d.1))).length<=100->(kA (kD (bL d.1))).length<=100/\(wT d.1 d.2.1&&kk d.2.2.1 (-100000:Int) (1440:Int),())=(wT d.1 d.2.1&&qw d.2.2.1,())
def HE:wd:=⟨[.val tBo,.ref .int,.ref .int],[.bool],false,fun d=>[(kA (kD (bL d.1))).length<=100],fun d=>(wT d.1 d.2.1&&yd d.2.2.1,())⟩
def HF:Prop:=∀(d:BoD×Int×Int×Unit),(kA (kD (bL d.1))).length<=100->(kA (kD (bL d.1))).length<=100/\(wT d.1 d.2.1&&kk d.2.2.1 (0:Int) (1000000000:Int),())=(wT d.1 d.2.1&&yd d.2.2.1,())
def Q8:wd:=⟨[.val tLg,.val .int,.val .int],[.int,.int],false,fun d=>[(qh (kD d.1)).length<=100000],fun d=>(bO d.1 d.2.1 d.2.2.1,wo d.1 (qj d.1 d.2.1&&qw d.2.2.1),())⟩
abbrev jf1 (d:LgD×Int×Int×Unit):=(wl d.1 fun(a:BoD×Unit)=>(wT a.1 d.2.1&&qw d.2.2.1,()))
abbrev jfF (d:LgD×Int×Int×Unit):=(kW none (kJ Ty.int d.2.1 (wv d.1 (jf1 d)).2.1))
abbrev je1 (d:LgD×Int×Int×Unit):=(kQ ((((0:Int),(0:Int),(0:Int),(0:Int),(0:Int),(0:Int),()),(0:Int),(0:Int),(0:Int),()),((0:Int),(0:Int),(0:Int),(0:Int),(0:Int),(0:Int),(0:Int),(0:Int),[],[],()),(0:Int),(0:Int),[],(0:Int),(0:Int),false,(0:Int),()) (jfF d))
abbrev jgI (d:LgD×Int×Int×Unit):=(bO d.1 d.2.1 d.2.2.1,wo d.1 (qj d.1 d.2.1&&qw d.2.2.1),())
def Q9:Prop:=∀(d:LgD×Int×Int×Unit),(qh (kD d.1)).length<=100000->(qh (kD d.1)).length<=100000/\(kY d.1=0->kG [(kA (kD (bL (d.1,[],())))).length<=100])/\(decide (wo d.1 (jf1 d)≠0)=true->((0:Int),wo d.1 (jf1 d),())=(jgI d))/\(decide (wo d.1 (jf1 d)≠0)=false->((jfF d).isNone=true->((0:Int),(0:Int),())=(jgI d))/\((jfF d).isNone=false->(jfF d).isSome=true/\pd (je1 d)/\(jfF d).isSome=true/\pd (je1 d)/\(-100000:Int)<=d.2.2.1/\d.2.2.1<=1440/\kK ((wX (je1 d)).q4.2.1-yp d.2.2.1 (je1 d))/\((wX (je1 d)).q4.2.1-yp d.2.2.1 (je1 d),(0:Int),())=(jgI d)))
theorem U5:Q7:=fun _ h=>⟨h,rfl⟩
theorem Ra:wm PR 50 Q6:=kZ U5 Tryz.func50 (kcC yZ kcN) koN
theorem Nm:Kx:=fun _ h=>⟨h,rfl⟩
theorem Ky:wm PR 36 Kw:=kZ Nm Tryz.func36 (kcC yZ (kcC vE kcN)) koN
theorem Kz:HF:=fun _ h=>⟨h,rfl⟩
theorem HG:wm PR 42 HE:=kZ Kz Tryz.func42 (kcC yZ (kcC vE kcN)) koN
theorem jcy {l:LgD} (h:mz l):(kA (kD l)).length<=4:=by
 have a:=h.dy;unfold wL at a;rw[ji] at a;exact(jb a.1).1
theorem Au (l:LgD):wo l true=kY l:=by
 unfold wo;by_cases h:kY l=0;rw[jc (fun a=>a h),jg rfl,h];rw[jg h]
theorem De {l:LgD} {t:Bool} (h:wo l t=0):wv l t=U.bo l/\mz l/\t=true:=by
 have e:wv l t=U.bo l:=(by unfold wv;rw[jg h];rfl);unfold wo at h
 split at h
 rename_i a;exact absurd h a;rename_i a
 split at h
 rename_i b;exact⟨e,bB (jN.1 a),b⟩;cases h
theorem U6:Q5:=by
 unfold Q5 jfC;rintro⟨l,⟨⟩⟩ c;refine⟨c,fun _=>tZ,fun h=> ?_,fun h=> ?_⟩;have h:wo l true≠0:=jb h;show(([]:List LnD),wo l true,())=(ku l,kY l,());rw[Au] at h⊢;unfold ku;rw[jc h];have h:wo l true=0:=jN.1 (jd h);obtain⟨a,b,_⟩:=De h;rw[Au] at h;refine⟨?_,?_⟩;show KO (wv l true);rw[a];exact UR b;show(kU (wv l true),(0:Int),())=(ku l,kY l,());rw[a,h];unfold ku;rw[jg h]
theorem Rb:wm PR 11 Q4:=kZ U6 Tryz.func11 (kcC lR (kcC CR (kcC fZ kcN))) koN
theorem Rc:Nk:=by
 unfold Nk jfD;rintro⟨l,⟨⟩⟩ c;refine⟨c,fun _=>tZ,fun h=> ?_,fun h=> ?_⟩;have h:wo l true≠0:=jb h;show(([]:List Int),wo l true,())=(KP l,kY l,());rw[Au] at h⊢;unfold KP;rw[jc h];have h:wo l true=0:=jN.1 (jd h);obtain⟨a,b,_⟩:=De h;rw[Au] at h;refine⟨?_,?_⟩;show Vq (wv l true);rw[a];exact jct b;show(Rt (wv l true),(0:Int),())=(KP l,kY l,());rw[a,h];unfold KP;rw[jg h]
theorem Nn:wm PR 29 Nj:=kZ Rc Tryz.func29 (kcC lR (kcC CR (kcC tW kcN))) koN
theorem Z6:Xn:=by
 unfold Xn jfE;rintro⟨l,n,⟨⟩⟩ d;refine⟨d,fun b=> ?_,fun h=> ?_,fun h=> ?_⟩;have:(kA (kD l)).length<=4:=jcy (bB b);exact⟨by show(kA (kD l)).length<=100;omega,tZ⟩;have h:wo l (qj l n)≠0:=jb h;show(([]:List Int),wo l (qj l n),())=(KQ l n,wo l (qj l n),());unfold KQ;rw[jc h];have h:wo l (qj l n)=0:=jN.1 (jd h);obtain⟨a,c,_⟩:=De h;refine⟨?_,?_⟩;show Vr (wv l (qj l n));rw[a];exact jcu c;show(Ru (wv l (qj l n)) n,(0:Int),())=(KQ l n,wo l (qj l n),());rw[a,h];unfold KQ;rw[jg h]
theorem Xo:wm PR 23 Xm:=kZ Z6 Tryz.func23 (kcC lR (kcC Ra (kcC Ei kcN))) koN
theorem Yl {l:LgD} (i:mz l) {n:Int} {b:BlD} (h:O6 (U.bo l) n=some b):J9 b:=by
 have a:=UR i;have d:(n,some b)∈H5 l:=by
  refine(M.mD (kt:= .int) a.2.2.1).1 ?_;have e:kW none (kJ .int n (H5 l))=some b:=h;cases f:kJ (β:=Option BlD) Ty.int n (H5 l) with
  |none=>rw[f] at e;cases e
  |some v=>rw[f] at e;exact f.trans (jS some e)
 obtain⟨g,c,j⟩:=a.1 _ d;have c:some b=some g:=c;simp only[jv] at c;subst c;exact aL.1 j
theorem U7 {b:BlD} {m:Int} (w:J9 b) (a: -100000<=m/\m<=1440): -1000000<=yp m b/\yp m b<=20000000000000000:=Nc (Hm w a)
theorem U8:Q9:=by
 unfold Q9 jgI je1 jfF jf1 Prod.q4;rintro⟨l,n,m,⟨⟩⟩ j;refine⟨j,fun g=> ?_,fun h=> ?_,fun h=> ?_⟩;have:(kA (kD l)).length<=4:=jcy (bB g);exact⟨by show(kA (kD l)).length<=100;omega,tZ⟩;have h:wo l (qj l n&&qw m)≠0:=jb h;show((0:Int),wo l (qj l n&&qw m),())=(bO l n m,wo l (qj l n&&qw m),());unfold bO;rw[jc h];have h:wo l (qj l n&&qw m)=0:=jN.1 (jd h);obtain⟨f,i,c⟩:=De h;rw[ji] at c;have a: -100000<=m/\m<=1440:=w6.1 c.2;show((O6 (wv l (qj l n&&qw m)) n).isNone=true->((0:Int),(0:Int),())=(bO l n m,wo l (qj l n&&qw m),()))/\
  ((O6 (wv l (qj l n&&qw m)) n).isNone=false->(O6 (wv l (qj l n&&qw m)) n).isSome=true/\pd (kQ _ (O6 (wv l (qj l n&&qw m)) n))/\(O6 (wv l (qj l n&&qw m)) n).isSome=true/\pd (kQ _ (O6 (wv l (qj l n&&qw m)) n))/\-100000<=m/\m<=1440/\
    kK (bY (wX (kQ _ (O6 (wv l (qj l n&&qw m)) n)))-yp m (kQ _ (O6 (wv l (qj l n&&qw m)) n)))/\(bY (wX (kQ _ (O6 (wv l (qj l n&&qw m)) n)))-yp m (kQ _ (O6 (wv l (qj l n&&qw m)) n)),(0:Int),())=(bO l n m,wo l (qj l n&&qw m),()))
 rw[f,h];unfold bO;rw[jg h];cases e:O6 (U.bo l) n with
 |none=>exact⟨fun _=>rfl,fun h=>(by cases h)⟩
 |some b=>
  have w:=Yl i e;have d:=aL.2 w;have k:=Nc w;have o:=U7 w a;refine⟨fun h=>(by cases h),fun _=>⟨rfl,d,rfl,d,a.1,a.2,?_,rfl⟩⟩;show kK (bY (wX b)-yp m b);exact iZ6
theorem FO:wm PR 12 Q8:=kZ U8 Tryz.func12 (kcC lR (kcC Ky (kcC gP (kcC fY kcN)))) koN
namespace U
def vk (o:Option BlD):BlD:=o.getD default
end U
def No:wd:=⟨[.val tLg,.val .int,.val .int],[.int,.int],false,fun d=>[(qh (kD d.1)).length<=100000],fun d=>(KR d.1 d.2.1 d.2.2.1,KS d.1 d.2.1 d.2.2.1,())⟩
def Np:Ann:=fun r=>match r with
 |7=>some fun σ=>{X:=Nat,sl:=fun k=>[(11,.dat .int (w8 (qi (vk (gd (.ptr tBl) σ 10)))-(k:Int)))],ob:=fun _=>[],inv:=fun k=>k<=cR (vk (gd (.ptr tBl) σ 10))/\∀j:Nat,j<k->d7 (vk (gd (.ptr tBl) σ 10)) (gb .int σ 5) j=false,mu:=fun k=>cR (vk (gd (.ptr tBl) σ 10))-k}
 |_=>none
abbrev jf2 (d:LgD×Int×Int×Unit):=(wl d.1 fun(a:BoD×Unit)=>(wT a.1 d.2.1&&yd d.2.2.1,()))
abbrev je2 (d:LgD×Int×Int×Unit):=(kW none (kJ Ty.int d.2.1 (wv d.1 (jf2 d)).2.1))
abbrev jf3 (d:LgD×Int×Int×Unit):=(kQ ((((0:Int),(0:Int),(0:Int),(0:Int),(0:Int),(0:Int),()),(0:Int),(0:Int),(0:Int),()),((0:Int),(0:Int),(0:Int),(0:Int),(0:Int),(0:Int),(0:Int),(0:Int),[],[],()),(0:Int),(0:Int),[],(0:Int),(0:Int),false,(0:Int),()) (je2 d))
abbrev jf4 (d:LgD×Int×Int×Unit):=(KR d.1 d.2.1 d.2.2.1,KS d.1 d.2.1 d.2.2.1,())
abbrev jek (d:LgD×Int×Int×Unit):=(vk (je2 d))
abbrev jd1 (d:LgD×Int×Int×Unit):=(qi (jek d))
def Nq:Prop:=∀(d:LgD×Int×Int×Unit),(qh (kD d.1)).length<=100000->(qh (kD d.1)).length<=100000/\(kY d.1=0->kG [(kA (kD (bL (d.1,[],())))).length<=100])/\(decide (wo d.1 (jf2 d)≠0)=true->((0:Int),wo d.1 (jf2 d),())=(jf4 d))/\(decide (wo d.1 (jf2 d)≠0)=false->((!(je2 d).isNone)=true->(je2 d).isSome=true/\(∃(x:Nat),(((jf3 d).1.2.2.1=w8 (jd1 d)-(x:Int)/\True)/\True)/\x<=cR (jek d)/\∀(j:Nat),j<x->d7 (jek d) d.2.2.1 j=false)/\∀(x:Nat),(x<=cR (jek d)/\∀(j:Nat),j<x->d7 (jek d) d.2.2.1 j=false)->(decide ((-100000:Int)<=w8 (jd1 d)-(x:Int))=true->(je2 d).isSome=true/\pd (jf3 d)/\(-100000:Int)<=w8 (jd1 d)-(x:Int)/\w8 (jd1 d)-(x:Int)<=1440/\(decide (yp (w8 (jd1 d)-(x:Int)) (jf3 d)<=d.2.2.1)=true->(w8 (jd1 d)-(x:Int),(0:Int),())=(jf4 d))/\(decide (yp (w8 (jd1 d)-(x:Int)) (jf3 d)<=d.2.2.1)=false->kK (w8 (jd1 d)-(x:Int)-1)/\∃(a:Nat),((w8 (jd1 d)-(x:Int)-1=w8 (jd1 d)-(a:Int)/\True)/\True)/\(a<=cR (jek d)/\∀(j:Nat),j<a->d7 (jek d) d.2.2.1 j=false)/\cR (jek d)-a<cR (jek d)-x))/\(decide ((-100000:Int)<=w8 (jd1 d)-(x:Int))=false->((0:Int),(3:Int),())=(jf4 d)))/\((!(je2 d).isNone)=false->((0:Int),(3:Int),())=(jf4 d)))
theorem jbw {o:Option BlD} {Z:BlD} {a P E:Int} (t:∀b,o=some b->J9 b) (r:P=jc5 a o) (p:E=jc6 a o):
 ((!o.isNone)=true->o.isSome=true/\(∃(x:Nat),((w8 (qi (kQ Z o))=w8 (qi (vk o))-(x:Int)/\True)/\True)/\x<=cR (vk o)/\∀(j:Nat),j<x->d7 (vk o) a j=false)/\
   ∀(x:Nat),(x<=cR (vk o)/\∀(j:Nat),j<x->d7 (vk o) a j=false)->
    (decide (-100000<=w8 (qi (vk o))-(x:Int))=true->o.isSome=true/\pd (kQ Z o)/\-100000<=w8 (qi (vk o))-(x:Int)/\w8 (qi (vk o))-(x:Int)<=1440/\
     (decide (yp (w8 (qi (vk o))-(x:Int)) (kQ Z o)<=a)=true->(w8 (qi (vk o))-(x:Int),(0:Int),())=(P,E,()))/\
     (decide (yp (w8 (qi (vk o))-(x:Int)) (kQ Z o)<=a)=false->kK (w8 (qi (vk o))-(x:Int)-1)/\∃(m:Nat),((w8 (qi (vk o))-(x:Int)-1=w8 (qi (vk o))-(m:Int)/\True)/\True)/\(m<=cR (vk o)/\∀(j:Nat),j<m->d7 (vk o) a j=false)/\cR (vk o)-m<cR (vk o)-x))/\
    (decide (-100000<=w8 (qi (vk o))-(x:Int))=false->((0:Int),(3:Int),())=(P,E,())))/\
 ((!o.isNone)=false->((0:Int),(3:Int),())=(P,E,())):=by
 subst r p;cases o with
 |none=>exact⟨fun h=>(by cases h),fun _=>rfl⟩
 |some b=>
  have w:=t b rfl;have n:=w.bl;refine⟨fun _=>⟨rfl,⟨0,⟨⟨?_,tZ⟩,tZ⟩,jw _,fun j s=>by omega⟩,fun x d=>⟨fun f=> ?_,fun f=> ?_⟩⟩,fun h=>(by cases h)⟩;show w8 (qi b)=w8 (qi b)-((0:Nat):Int);omega;have d:x<=cR b/\∀j:Nat,j<x->d7 b a j=false:=d;have f: -100000<=w8 (qi b)-(x:Int):=jb f;have s1:=n.st;have s2:=n.en;have u:=n.e2;have q:cR b=(w8 (qi b)+100001).toNat:=rfl;refine⟨rfl,aL.2 w,f,?_,fun c=> ?_,fun c=> ?_⟩;show w8 (qi b)-(x:Int)<=1440;omega;have c:d7 b a x=true:=c;have e:ED b a=some x:=by
   rcases FH b a with⟨k,e,hk,g,i⟩|⟨e,i⟩;rw[e];have:k=x:=by
    rcases Nat.lt_trichotomy k x with l|l|l;rw[d.2 k l] at g;cases g;exact l;rw[i x l] at c;cases c
   rw[this];rw[i x (by omega)] at c;cases c
  show(w8 (qi b)-(x:Int),(0:Int),())=(jcN b (ED b a),jcO (ED b a),());rw[e];rfl;have c:d7 b a x=false:=c;refine⟨?_,x+1,⟨⟨?_,tZ⟩,tZ⟩,⟨?_,fun j s=> ?_⟩,?_⟩;show kK (w8 (qi b)-(x:Int)-1);exact iZ6;show w8 (qi b)-(x:Int)-1=w8 (qi b)-((x+1:Nat):Int);omega;show x+1<=cR b;omega;by_cases e:j=x;subst e;exact c;exact d.2 j (by omega);show cR b-(x+1)<cR b-x;omega;have d:x<=cR b/\∀j:Nat,j<x->d7 b a j=false:=d;have f:¬-100000<=w8 (qi b)-(x:Int):=jd f;have q:cR b=(w8 (qi b)+100001).toNat:=rfl;have e:ED b a=none:=by
   rcases FH b a with⟨k,e,hk,g,i⟩|⟨e,i⟩;rw[d.2 k (by omega)] at g;cases g;exact e
  show((0:Int),(3:Int),())=(jcN b (ED b a),jcO (ED b a),());rw[e];rfl
theorem Re:Nq:=by
 unfold Nq jd1 jek jf4 jf3 je2 jf2;rintro⟨l,n,a,⟨⟩⟩ g;refine⟨g,fun e=> ?_,fun h=> ?_,fun h=> ?_⟩;have:(kA (kD l)).length<=4:=jcy (bB e);exact⟨by show(kA (kD l)).length<=100;omega,tZ⟩;have h:wo l (qj l n&&yd a)≠0:=jb h;show((0:Int),wo l (qj l n&&yd a),())=(KR l n a,KS l n a,());unfold KR KS;rw[jc h,jc h];have h:wo l (qj l n&&yd a)=0:=jN.1 (jd h);obtain⟨c,f,i⟩:=De h;exact jbw (o:=O6 (wv l (qj l n&&yd a)) n) (fun b d=>by rw[c] at d;exact Yl f d) (by rw[c];exact jg h) (by rw[c];exact jg h)
theorem Nr:wm PR 16 No:=vd Np Re Tryz.func16 (kcC lR (kcC HG (kcC fY kcN))) koN
end Go.X
namespace Go.X
open U
open Go.Proofs
namespace U
def H2 (l:LgD):Bool:=((((HW (kD l)||decide (20<((yw l).length:Int)))||decide (20<((uH l).length:Int)))||decide (20<((aF (yt l)).length:Int)))||decide (20<((qT (yt l)).length:Int)))||decide (30<((wi l).length:Int))
def NG (l:LgD):Bool:= !H2 l&&decide (kY l=0)
def exT:TaD:=(30,100,2,1200,90,50,2,150,[0,10,25,50],[(1000,0,()),(60,50,())],())
def uL:LgD:=(jc3,[0,1,0],[30,0,45],exT,[(1,1,80,()),(2,1,120,())],())
end U
def U9:wd:=⟨[.val tLg],[.bool],false,fun _=>[],fun d=>(H2 d.1,())⟩
abbrev jht (d:LgD×Unit):=(20<(d.1.2.2.2.1.q4.q4.1.length:Int))
abbrev jf5 (d:LgD×Unit):=(20<(d.1.2.1.length:Int))
abbrev jgJ (d:LgD×Unit):=(20<(d.1.2.2.1.length:Int))
def Va:Prop:=∀(d:LgD×Unit),((!HW d.1.1)=true->d.1.2.1.length<4611686018427387904)->((!(HW d.1.1||decide (jf5 d)))=true->d.1.2.2.1.length<4611686018427387904)->((!(HW d.1.1||decide (jf5 d)||decide (jgJ d)))=true->d.1.2.2.2.1.q4.q4.1.length<4611686018427387904)->((!(HW d.1.1||decide (jf5 d)||decide (jgJ d)||decide (jht d)))=true->d.1.2.2.2.1.q4.q4.2.1.length<4611686018427387904)->((!(HW d.1.1||decide (jf5 d)||decide (jgJ d)||decide (jht d)||decide (20<(d.1.2.2.2.1.q4.q4.2.1.length:Int))))=true->d.1.q4.1.length<4611686018427387904)->(HW d.1.1||decide (jf5 d)||decide (jgJ d)||decide (jht d)||decide (20<(d.1.2.2.2.1.q4.q4.2.1.length:Int))||decide (30<(d.1.q4.1.length:Int)),())=(H2 d.1,())
def Ns:wd:=⟨[.val tLg],[.bool],false,fun _=>[],fun d=>(NG d.1,())⟩
def Nt:Prop:=∀(d:LgD×Unit),((!H2 d.1)=true->(kA (kD d.1)).length<=1000000)/\(!H2 d.1&&decide (kY d.1=0),())=(NG d.1,())
def Es:wd:=⟨[.val (.slice .int),.val (.slice .int)],[.bool],false,fun _=>[],fun d=>(decide (d.1=d.2.1),())⟩
def Et:Ann:=fun r=>match r with
 |4=>some fun σ=>{X:=Nat,sl:=fun i=>[(5,.dat .int (i:Int))],ob:=fun _=>[],inv:=fun i=>i<=(gd (.slice .int) σ 0).length/\∀j:Nat,j<i->nth (gd (.slice .int) σ 0) j=nth (gd (.slice .int) σ 1) j,mu:=fun i=>(gd (.slice .int) σ 0).length-i}
 |_=>none
def Eu:Prop:=∀(d:List Int×List Int×Unit),d.1.length<4611686018427387904->d.2.1.length<4611686018427387904->(decide ((d.1.length:Int)≠d.2.1.length)=true->(false,())=(decide (d.1=d.2.1),()))/\(decide ((d.1.length:Int)≠d.2.1.length)=false->(∃(x:Nat),((0=(x:Int)/\True)/\True)/\x<=d.1.length/\∀(j:Nat),j<x->nth d.1 j=nth d.2.1 j)/\∀(x:Nat),(x<=d.1.length/\∀(j:Nat),j<x->nth d.1 j=nth d.2.1 j)->d.1.length<4611686018427387904->(decide ((x:Int)<d.1.length)=true->0<=(x:Int)/\(x:Int)<d.1.length/\0<=(x:Int)/\(x:Int)<d.2.1.length/\(decide (nth d.1 x≠nth d.2.1 x)=true->(false,())=(decide (d.1=d.2.1),()))/\(decide (nth d.1 x≠nth d.2.1 x)=false->kK ((x:Int)+1)/\∃(a:Nat),(((x:Int)+1=(a:Int)/\True)/\True)/\(a<=d.1.length/\∀(j:Nat),j<a->nth d.1 j=nth d.2.1 j)/\d.1.length-a<d.1.length-x))/\(decide ((x:Int)<d.1.length)=false->(true,())=(decide (d.1=d.2.1),())))
def HH:wd:=⟨[],[tLg],false,fun _=>[],fun _=>(uL,())⟩
def HI:Prop:=∀(_:Unit),((jc3,[(0:Int),(1:Int),(0:Int)],[(30:Int),(0:Int),(45:Int)],((30:Int),(100:Int),(2:Int),(1200:Int),(90:Int),(50:Int),(2:Int),(150:Int),[(0:Int),(10:Int),(25:Int),(50:Int)],[((1000:Int),(0:Int),()),((60:Int),(50:Int),())],()),[((1:Int),(1:Int),(80:Int),()),((2:Int),(1:Int),(120:Int),())],()),())=(uL,())
def Nu:wd:=⟨[],[.bool],false,fun _=>[],fun _=>(true,())⟩
abbrev jf6:=(qh (kD uL))
def Nv:Prop:=∀(_:Unit),jf6.length<=100000/\jf6.length<=100000/\jf6.length<=100000/\jf6.length<=100000/\(decide (kY uL=0)&&decide (wo uL (qj uL (2:Int))=0)&&decide (wo uL (qj uL (0:Int)&&qw (0:Int))=0)&&decide (KS uL (0:Int) (0:Int)=0)&&decide (KP uL=[(940:Int),(100:Int)])&&decide (KQ uL (2:Int)=[(390:Int),(390:Int),(0:Int),(0:Int)])&&decide (bO uL (0:Int) (0:Int)=185)&&decide (KR uL (0:Int) (0:Int)=(-940:Int)),())=(true,())
theorem Nw (l:LgD):ku l=jbL l:=by
 unfold ku jbL
 split
 rename_i h;exact C7 (bB h);rfl
theorem Z7 (l:LgD) (n m:Int):bO l n m=jbM l n m:=by
 unfold bO jbM
 split
 rename_i h;obtain⟨b,a⟩:=UV h;rw[ji] at a;exact jbt b (OX.1 a.1);rfl
theorem Xp:Va:=fun _ _ _ _ _ _=>rfl
theorem Vb:wm PR 27 U9:=kZ Xp Tryz.func27 (kcC Ux kcN) koN
theorem FP {l:LgD} (h:H2 l=false):Dt l:=by
 unfold H2 at h;simp only[jM,jD] at h;obtain⟨⟨⟨⟨⟨a,b⟩,c⟩,d⟩,e⟩,f⟩:=h;exact⟨W0 a,by omega,by omega,by omega,by omega,by omega⟩
theorem Df {l:LgD} (h:H2 l=false):(qh (kD l)).length<=100000/\(kA (kD l)).length<=1000000:=by
 have a:=(FP h).1;have b:=a.2.2.2.1;have c:=a.2.2.1;omega
theorem Rf:Nt:=by
 rintro⟨l,⟨⟩⟩;refine⟨fun h=> ?_,rfl⟩;have h:(!H2 l)=true:=h;rw[jI] at h;exact(Df h).2
theorem Nx:wm PR 7 Ns:=kZ Rf Tryz.func7 (kcC Vb (kcC Dc kcN)) koN
theorem Z8 {l:LgD} (h:NG l=true):H2 l=false/\mz l/\kY l=0:=by
 unfold NG at h;rw[ji,jI,js] at h;exact⟨h.1,bB h.2,h.2⟩
theorem HJ:Eu:=by
 rintro⟨a,b,⟨⟩⟩ _ l;refine⟨fun h=> ?_,fun h=>⟨⟨0,⟨⟨rfl,tZ⟩,tZ⟩,jw _,fun j k=>by omega⟩,fun x g f=>⟨fun c=>⟨za _,jb c,za _,?_,fun d=> ?_,fun d=> ?_⟩,fun c=> ?_⟩⟩⟩;have h:(a.length:Int)≠b.length:=jb h;have:¬a=b:=fun e=>h (by rw[e])
 show(false,())=(decide (a=b),());rw[zi this];have h:(a.length:Int)=b.length:=jN.1 (jd h);have c:(x:Int)<a.length:=jb c;show(x:Int)<b.length;omega;have d:nth a x≠nth b x:=jb d;have:¬a=b:=fun e=>d (by rw[e])
 show(false,())=(decide (a=b),());rw[zi this];have c:(x:Int)<a.length:=jb c;have d:nth a x=nth b x:=jN.1 (jd d);have f:a.length<4611686018427387904:=f;refine⟨iZ6,x+1,⟨⟨by simp,tZ⟩,tZ⟩,⟨by show x+1<=a.length;omega,fun j k=> ?_⟩,by show a.length-(x+1)<a.length-x;omega⟩;by_cases e:j=x;subst e;exact d;exact g.2 j (by omega);have h:(a.length:Int)=b.length:=jN.1 (jd h);have c:¬(x:Int)<a.length:=jd c;have e:a=b:=L.ext_nth (by omega) fun i hi=>g.2 i (by omega)
 show(true,())=(decide (a=b),());rw[jK e]
theorem Ev:wm PR 26 Es:=vd Et HJ Tryz.func26 kcN koN
theorem KA:HI:=fun _=>rfl
theorem HK:wm PR 28 HH:=kZ KA Tryz.func28 (kcC Hj kcN) koN
theorem Z9:kY uL=0:=by decide+kernel
theorem jaa:KP uL=[940,100]:=by decide+kernel
theorem jab:KQ uL 2=[390,390,0,0]:=by decide+kernel
theorem jac:bO uL 0 0=185:=by decide+kernel
theorem Xq:KS uL 0 0=0:=by decide+kernel
theorem Xr:KR uL 0 0= -940:=by decide+kernel
theorem jbx:wo uL (qj uL 2)=0:=by decide+kernel
theorem jby:wo uL (qj uL 0&&qw 0)=0:=by decide+kernel
theorem Rg:Nv:=by
 unfold Nv jf6;intro _;have a:(qh (kD uL)).length<=100000:=(by decide+kernel);refine⟨a,a,a,a,?_⟩;rw[Z9,jbx,jby,Xq,jaa,jab,jac,Xr];rfl
theorem Ny:wm PR 8 Nu:=kZ Rg Tryz.func8 (kcC HK (kcC Nn (kcC Xo (kcC FO (kcC Nr (kcC Ev kcN)))))) koN
abbrev jcY:Sh:= .agg [.dat .int,.dat (.slice tPe),.dat (.slice tLw),.dat (.slice (.slice tSp)),.dat (.slice tBk),.dat .int,.dat .int,.dat (.slice tSh),.dat (.slice .int),.dat (.slice .int),.dat .int,.dat .int,.dat .int,.dat .int,.dat .int,.dat .int,.dat .int,.dat .int,.dat (.slice .int),.dat (.slice tNo),.row 39 tCa .no]
def jdj (l:LgD):jcY.D:=(l.1.1.1,l.1.1.2.1,l.1.1.2.2.1,l.1.2.1,l.1.2.2.1,l.1.2.2.2.1,l.1.2.2.2.2.1,l.1.2.2.2.2.2.1,l.2.1,l.2.2.1,l.2.2.2.1.1,l.2.2.2.1.2.1,l.2.2.2.1.2.2.1,l.2.2.2.1.2.2.2.1,l.2.2.2.1.2.2.2.2.1,l.2.2.2.1.2.2.2.2.2.1,l.2.2.2.1.2.2.2.2.2.2.1,l.2.2.2.1.2.2.2.2.2.2.2.1,l.2.2.2.1.2.2.2.2.2.2.2.2.1,l.2.2.2.1.2.2.2.2.2.2.2.2.2.1,l.2.2.2.2.1,())
def HL:qb:=⟨[.val tLg],[jcY],fun d=>[Dt d.1],fun d=>((jdj d.1,()),())⟩
def HM:Prop:=∀(d:LgD×Unit),Dt d.1->Dm d.1.1/\(0+d.1.2.1.length)*8<=140737488355328/\(0+d.1.2.2.1.length)*8<=140737488355328/\(0+d.1.2.2.2.1.q4.q4.1.length)*8<=140737488355328/\(0+d.1.2.2.2.1.q4.q4.2.1.length)*16<=140737488355328/\(0+d.1.q4.1.length)*24<=140737488355328/\((d.1.1.1.1,d.1.1.1.2.1,d.1.1.1.2.2.1,d.1.1.2.1,d.1.1.2.2.1,d.1.1.2.2.2.1,d.1.1.q4.1,d.1.1.q4.2.1,[]++d.1.2.1,[]++d.1.2.2.1,d.1.2.2.2.1.1,d.1.2.2.2.1.2.1,d.1.2.2.2.1.2.2.1,d.1.2.2.2.1.2.2.2.1,d.1.2.2.2.1.q4.1,d.1.2.2.2.1.q4.2.1,d.1.2.2.2.1.q4.2.2.1,d.1.2.2.2.1.q4.2.2.2.1,[]++d.1.2.2.2.1.q4.q4.1,[]++d.1.2.2.2.1.q4.q4.2.1,[]++d.1.q4.1,()),())=((d.1.1.1.1,d.1.1.1.2.1,d.1.1.1.2.2.1,d.1.1.2.1,d.1.1.2.2.1,d.1.1.2.2.2.1,d.1.1.q4.1,d.1.1.q4.2.1,d.1.2.1,d.1.2.2.1,d.1.2.2.2.1.1,d.1.2.2.2.1.2.1,d.1.2.2.2.1.2.2.1,d.1.2.2.2.1.2.2.2.1,d.1.2.2.2.1.q4.1,d.1.2.2.2.1.q4.2.1,d.1.2.2.2.1.q4.2.2.1,d.1.2.2.2.1.q4.2.2.2.1,d.1.2.2.2.1.q4.q4.1,d.1.2.2.2.1.q4.q4.2.1,d.1.q4),())/\()=()
def Rh:wd:=⟨[.val (.slice tLn),.val .int],[tLn,.bool],false,fun _=>[],fun d=>((kV d.1 d.2.1).1,(kV d.1 d.2.1).2,())⟩
def Ri:Ann:=fun r=>match r with
 |2=>some fun σ=>{X:=Nat,sl:=fun i=>[(6,.dat .int (i:Int))],ob:=fun _=>[],inv:=fun i=>i<=(gd (.slice tLn) σ 0).length/\∀j:Nat,j<i->nJ (gd .int σ 1) (nth (gd (.slice tLn) σ 0) j)=false,mu:=fun i=>(gd (.slice tLn) σ 0).length-i}
 |_=>none
def Rj:Prop:=∀(d:List JbD×Int×Unit),(∃(x:Nat),((0=(x:Int)/\True)/\True)/\x<=d.1.length/\∀(j:Nat),j<x->nJ d.2.1 (nth d.1 j)=false)/\∀(x:Nat),(x<=d.1.length/\∀(j:Nat),j<x->nJ d.2.1 (nth d.1 j)=false)->d.1.length<4611686018427387904->(decide ((x:Int)<d.1.length)=true->0<=(x:Int)/\(x:Int)<d.1.length/\(decide ((nth d.1 x).2.1=d.2.1)=true->0<=(x:Int)/\(x:Int)<d.1.length/\(nth d.1 x,true,())=((kV d.1 d.2.1).1,(kV d.1 d.2.1).2,()))/\(decide ((nth d.1 x).2.1=d.2.1)=false->kK ((x:Int)+1)/\∃(a:Nat),(((x:Int)+1=(a:Int)/\True)/\True)/\(a<=d.1.length/\∀(j:Nat),j<a->nJ d.2.1 (nth d.1 j)=false)/\d.1.length-a<d.1.length-x))/\(decide ((x:Int)<d.1.length)=false->(((0:Int),(0:Int),(0:Int),(0:Int),(0:Int),(0:Int),()),false,())=((kV d.1 d.2.1).1,(kV d.1 d.2.1).2,()))
def HN:wd:=⟨[.val tTa],[.bool],false,fun _=>[],fun d=>(pg (qT d.1),())⟩
def HO:Ann:=fun r=>match r with
 |2=>some fun σ=>{X:=Nat,sl:=fun i=>[(3,.dat .int ((i:Int)+1))],ob:=fun _=>[],inv:=fun i=>i<=(qT (gb tTa σ 1)).length/\∀j:Nat,j<i->tY (nth (qT (gb tTa σ 1)) j)<=tY (nth (qT (gb tTa σ 1)) (j+1)),mu:=fun i=>(qT (gb tTa σ 1)).length-i}
 |_=>none
abbrev jhu (d:TaD×Unit)(x:Nat):=((nth d.1.q4.q4.2.1 ((x:Int)+1).toNat).2.1<(nth d.1.q4.q4.2.1 ((x:Int)+1-1).toNat).2.1)
abbrev jf7 (d:TaD×Unit):=(d.1.q4.q4.2.1.length:Int)
def HP:Prop:=∀(d:TaD×Unit),(∃(x:Nat),((1=(x:Int)+1/\True)/\True)/\x<=(qT d.1).length/\∀(j:Nat),j<x->tY (nth (qT d.1) j)<=tY (nth (qT d.1) (j+1)))/\∀(x:Nat),(x<=(qT d.1).length/\∀(j:Nat),j<x->tY (nth (qT d.1) j)<=tY (nth (qT d.1) (j+1)))->d.1.q4.q4.2.1.length<4611686018427387904->(decide ((x:Int)+1<(jf7 d))=true->0<=(x:Int)+1/\(x:Int)+1<(jf7 d)/\kK ((x:Int)+1-1)/\0<=(x:Int)+1-1/\(x:Int)+1-1<(jf7 d)/\(decide (jhu d x)=true->(false,())=(pg (qT d.1),()))/\(decide (jhu d x)=false->kK ((x:Int)+1+1)/\∃(a:Nat),(((x:Int)+1+1=(a:Int)+1/\True)/\True)/\(a<=(qT d.1).length/\∀(j:Nat),j<a->tY (nth (qT d.1) j)<=tY (nth (qT d.1) (j+1)))/\(qT d.1).length-a<(qT d.1).length-x))/\(decide ((x:Int)+1<(jf7 d))=false->(true,())=(pg (qT d.1),()))
theorem KB:HM:=by
 unfold HM Prod.q4;rintro⟨l,⟨⟩⟩ h;obtain⟨a,b,c,d,e,f⟩:Dt l:=h;refine⟨a,?_,?_,?_,?_,?_,rfl,rfl⟩;show(0+(yw l).length)*8<=140737488355328;omega;show(0+(uH l).length)*8<=140737488355328;omega;show(0+(aF (yt l)).length)*8<=140737488355328;omega;show(0+(qT (yt l)).length)*16<=140737488355328;omega;show(0+(wi l).length)*24<=140737488355328;omega
theorem HQ:yE PR 9 HL:=uy KB Tryz.func9 (kcC QJ kcN) koN
theorem Xs {l:List LnD} {b:Int} {i:Nat} (hi:i<l.length) (a:∀j,j<i->nJ b (nth l j)=false) (h:nJ b (nth l i)=true):kV l b=(nth l i,true):=by
 have e:l.find? (nJ b)=some (nth l i):=by
  rw[List.find?_eq_some_iff_getElem];refine⟨h,i,hi,(L.wG hi).symm,fun j c=> ?_⟩;have:=a j c;rw[L.wG (by omega)] at this;simp[this]
 unfold kV;rw[e];rfl
theorem Rk {l:List LnD} {b:Int} (a:∀j,j<l.length->nJ b (nth l j)=false):kV l b=(jda,false):=by
 have e:l.find? (nJ b)=none:=by
  rw[List.find?_eq_none];intro x d;obtain⟨j,c,rfl⟩:=L.mem_iff.1 d;rw[a j c];decide
 unfold kV;rw[e];rfl
theorem Vc:Rj:=by
 rintro⟨l,b,⟨⟩⟩;refine⟨⟨0,⟨⟨rfl,tZ⟩,tZ⟩,jw _,fun j g=>by omega⟩,fun x d f=>⟨fun a=>⟨za _,jb a,fun c=>⟨za _,jb a,?_⟩,fun c=> ?_⟩,fun a=> ?_⟩⟩;have a:(x:Int)<l.length:=jb a;have e:=Xs (l:=l) (b:=b) (i:=x) (by omega) d.2 c;show(nth l x,true,())=((kV l b).1,(kV l b).2,());rw[e];have a:(x:Int)<l.length:=jb a;have f:l.length<4611686018427387904:=f;refine⟨iZ6,x+1,⟨⟨by simp,tZ⟩,tZ⟩,⟨by show x+1<=l.length;omega,fun j g=> ?_⟩,by show l.length-(x+1)<l.length-x;omega⟩;by_cases e:j=x;subst e;exact c;exact d.2 j (by omega);have a:¬(x:Int)<l.length:=jd a;have e:=Rk (l:=l) (b:=b) fun j g=>d.2 j (by omega)
 show(jda,false,())=((kV l b).1,(kV l b).2,());rw[e]
theorem Rm:wm PR 13 Rh:=vd Ri Vc Tryz.func13 kcN koN
theorem jad {l:List NoD} {i:Nat} (hi:i+1<l.length) (h:tY (nth l (i+1))<tY (nth l i)):pg l=false:=by
 cases e:pg l with
 |false=>rfl
 |true=>have:=HD.1 e i hi;omega
theorem KC:HP:=by
 unfold HP jf7 jhu Prod.q4;rintro⟨t,⟨⟩⟩;refine⟨⟨0,⟨⟨rfl,tZ⟩,tZ⟩,jw _,fun j g=>by omega⟩,fun x f d=>⟨fun b=> ?_,fun b=> ?_⟩⟩;have b:(x:Int)+1<((qT t).length:Int):=jb b;have d:(qT t).length<4611686018427387904:=d;have c:((x:Int)+1).toNat=x+1:=(by omega);have e2:((x:Int)+1-1).toNat=x:=(by omega);refine⟨by omega,b,iZ6,by omega,by show(x:Int)+1-1<((qT t).length:Int);omega,fun a=> ?_,fun a=> ?_⟩;have a:tY (nth (qT t) ((x:Int)+1).toNat)<tY (nth (qT t) ((x:Int)+1-1).toNat):=jb a;rw[c,e2] at a;show(false,())=(pg (qT t),());rw[jad (by omega) a];have a:¬tY (nth (qT t) ((x:Int)+1).toNat)<tY (nth (qT t) ((x:Int)+1-1).toNat):=jd a;rw[c,e2] at a;refine⟨iZ6,x+1,⟨⟨by simp,tZ⟩,tZ⟩,⟨by show x+1<=(qT t).length;omega,fun j g=> ?_⟩,by show(qT t).length-(x+1)<(qT t).length-x;omega⟩;by_cases e:j=x;subst e;show tY (nth (qT t) j)<=tY (nth (qT t) (j+1));omega;exact f.2 j (by omega);have b:¬(x:Int)+1<((qT t).length:Int):=jd b;have e:pg (qT t)=true:=HD.2 fun i hi=>f.2 i (by omega)
 show(true,())=(pg (qT t),());rw[e]
theorem HR:wm PR 14 HN:=vd HO KC Tryz.func14 kcN koN
def xV:wd:=Um [tLg,tCa,.int]
def xW:Ann:=fun r=>match r with
 |16=>some fun σ=>{X:=Nat,sl:=fun i=>[(17,.dat .int (i:Int))],ob:=fun _=>[],inv:=fun i=>i<=(gd (.slice tLn) σ 9).length,mu:=fun i=>(gd (.slice tLn) σ 9).length-i}
 |_=>none
abbrev je3 (d:LgD×CaD×Int×Unit):=(d.1.1,d.1.2.1,d.1.2.2.1,d.1.2.2.2.1,d.1.q4.1++[d.2.1],())
abbrev jed (d:LgD×CaD×Int×Unit)(x:Nat):=(nth (ku d.1) x)
abbrev jey (d:LgD×CaD×Int×Unit)(x:Nat):=(kV (ku (je3 d)) (jed d x).2.1)
abbrev jdN (d:LgD×CaD×Int×Unit):=(↑(ku d.1).length:Int)
abbrev jf8:=(Ty.int.pair (Ty.int.pair Ty.unit))
abbrev jfG (d:LgD×CaD×Int×Unit):=(↑(d.1.q4.1++[d.2.1]).length:Int)
abbrev jgK (d:LgD×CaD×Int×Unit):=(nth (d.1.q4.1++[d.2.1]) ((jfG d)-1).toNat)
abbrev jf9 (d:LgD×CaD×Int×Unit):=(wo d.1 (qj d.1 d.2.1.2.1&&qw (jgK d).2.2.1)≠0)
abbrev jgL (d:LgD×CaD×Int×Unit)(x:Nat):=((jed d x).q4.2.1-(jey d x).1.q4.2.1≠bO d.1 d.2.1.2.1 (jgK d).2.2.1)
abbrev jhv (d:LgD×CaD×Int×Unit):=(!NG d.1||decide (9<(d.1.q4.1.length:Int))||decide (d.2.2.1<0)||decide (200000<d.2.2.1))
abbrev jhw (d:LgD×CaD×Int×Unit):=(d.2.1.1,d.2.1.2.1,d.2.1.2.2.1-min d.2.2.1 (max (0:Int) (IntKind.i64.wrap (d.2.1.2.2.1+100000))),())
abbrev jeJ (d:LgD×CaD×Int×Unit):=(d.1.1,d.1.2.1,d.1.2.2.1,d.1.2.2.2.1,d.1.q4.1++[(jhw d)],())
abbrev jga (d:LgD×CaD×Int×Unit)(x:Nat):=(kV (ku (jeJ d)) (jed d x).2.1)
abbrev jhx (d:LgD×CaD×Int×Unit)(x:Nat):=(!(jey d x).2|| !(jga d x).2||decide ((jed d x).2.1≠d.2.1.2.1)&&(!decide ((jey d x).1=nth (ku d.1) x)|| !decide ((jga d x).1=nth (ku d.1) x)))
abbrev jgM (d:LgD×CaD×Int×Unit):=((jdN d)≠(↑(ku (je3 d)).length:Int))
abbrev jeK (d:LgD×CaD×Int×Unit):=(kY (je3 d)≠0)
abbrev jfH (d:LgD×CaD×Int×Unit)(x:Nat):=(!(jey d x).2|| !(jga d x).2)
abbrev jhy (d:LgD×CaD×Int×Unit)(x:Nat):=(!(jfH d x)&&decide ((jed d x).2.1≠d.2.1.2.1)&& !!decide ((jey d x).1=nth (ku d.1) x))
abbrev jhz (d:LgD×CaD×Int×Unit):=(!(kV (ku d.1) d.2.1.2.1).2&&decide (bO d.1 d.2.1.2.1 (jgK d).2.2.1≠0))
abbrev je4 (d:LgD×CaD×Int×Unit)(x:Nat):=((jed d x).2.1=d.2.1.2.1)
abbrev jhA (d:LgD×CaD×Int×Unit)(x:Nat):=(decide (je4 d x)&&decide (jgL d x)||pg (qT d.1.2.2.2.1)&&(decide ((jed d x).q4.2.1<(jey d x).1.q4.2.1)||decide ((jey d x).1.q4.2.1<(jga d x).1.q4.2.1)))
abbrev jgb:=(Ty.int.pair jf8)
abbrev je5 (d:LgD×CaD×Int×Unit):=(kY (jeJ d)≠0)
abbrev jhB (d:LgD×CaD×Int×Unit):=(decide (kY d.1≠0)||decide (jeK d)||decide (je5 d)||decide (jf9 d)||decide (jgM d)||decide ((jdN d)≠(↑(ku (jeJ d)).length:Int))||decide ((d.1.1.2.2.1.length:Int)<(jdN d)))
abbrev jhC (d:LgD×CaD×Int×Unit):=(!(decide (kY d.1≠0)||decide (jeK d)||decide (je5 d)||decide (jf9 d)||decide (jgM d)||decide ((jdN d)≠(↑(ku (jeJ d)).length:Int))))
abbrev jhD (d:LgD×CaD×Int×Unit):=(!(decide (kY d.1≠0)||decide (jeK d)||decide (je5 d)||decide (jf9 d)||decide (jgM d)))
abbrev jhE (d:LgD×CaD×Int×Unit):=(!(decide (kY d.1≠0)||decide (jeK d)||decide (je5 d)||decide (jf9 d)))
def xX:Prop:=∀(d:LgD×CaD×Int×Unit),Hd 1048576 [((Ty.int.pair ((Ty.int.slice.pair (Ty.int.pair (Ty.int.pair (Ty.int.slice.pair (Ty.bool.pair (Ty.int.pair Ty.unit)))))).slice.pair ((Ty.int.pair (Ty.int.pair (Ty.bool.pair Ty.unit))).slice.pair Ty.unit))).pair (jf8.slice.slice.pair (((Ty.int.pair (Ty.int.pair (Ty.int.pair jgb))).pair jgb).slice.pair (Ty.int.pair (Ty.int.pair ((Ty.int.pair (Ty.int.pair jgb)).slice.pair Ty.unit)))))).pair (Ty.int.slice.pair (Ty.int.slice.pair ((Ty.int.pair (Ty.int.pair (Ty.int.pair (Ty.int.pair (Ty.int.pair (Ty.int.pair (Ty.int.pair (Ty.int.pair (Ty.int.slice.pair (jf8.slice.pair Ty.unit)))))))))).pair (jgb.slice.pair Ty.unit)))),Ty.int.pair jf8,Ty.int] d->((!!NG d.1)=true->d.1.q4.1.length<4611686018427387904)->((jhv d)=true->(true,())=(true,()))/\((jhv d)=false->Dt d.1/\Dt d.1/\(d.1.q4.1.length+[d.2.1].length)*24<=140737488355328/\kK (d.2.1.2.2.1-min d.2.2.1 (max (0:Int) (IntKind.i64.wrap (d.2.1.2.2.1+100000))))/\(d.1.q4.1.length+[(jhw d)].length)*24<=140737488355328/\(kA (kD (je3 d))).length<=1000000/\((!decide (jeK d))=true->(kA (kD (jeJ d))).length<=1000000)/\((decide (jeK d)||decide (je5 d))=true->(true,())=(true,()))/\((decide (jeK d)||decide (je5 d))=false->(qh (kD d.1)).length<=100000/\(qh (kD (je3 d))).length<=100000/\(qh (kD (jeJ d))).length<=100000/\kK ((jfG d)-1)/\(0:Int)<=(jfG d)-1/\(jfG d)-1<(jfG d)/\(qh (kD d.1)).length<=100000/\(((jhE d)=true->(ku d.1).length<4611686018427387904)->((jhE d)=true->(ku (je3 d)).length<4611686018427387904)->((jhD d)=true->(ku d.1).length<4611686018427387904)->((jhD d)=true->(ku (jeJ d)).length<4611686018427387904)->((jhC d)=true->(ku d.1).length<4611686018427387904)->((jhC d)=true->d.1.1.2.2.1.length<4611686018427387904)->((jhB d)=true->(false,())=(true,()))/\((jhB d)=false->(∃(x:Nat),((0=(x:Int)/\True)/\True)/\x<=(ku d.1).length)/\∀(x:Nat),x<=(ku d.1).length->(ku d.1).length<4611686018427387904->(decide ((x:Int)<(jdN d))=true->0<=(x:Int)/\(x:Int)<(jdN d)/\0<=(x:Int)/\(x:Int)<(jdN d)/\((!(jfH d x))=true->0<=(x:Int))/\((!(jfH d x))=true->(x:Int)<(jdN d))/\((!(jfH d x)&&decide ((jed d x).2.1≠d.2.1.2.1))=true->0<=(x:Int))/\((!(jfH d x)&&decide ((jed d x).2.1≠d.2.1.2.1))=true->(x:Int)<(jdN d))/\((jhy d x)=true->0<=(x:Int))/\((jhy d x)=true->(x:Int)<(jdN d))/\((jhx d x)=true->(false,())=(true,()))/\((jhx d x)=false->0<=(x:Int)/\(x:Int)<(jdN d)/\(decide (je4 d x)=true->0<=(x:Int))/\(decide (je4 d x)=true->(x:Int)<(jdN d))/\(decide (je4 d x)=true->kK ((jed d x).q4.2.1-(jey d x).1.q4.2.1))/\((!(decide (je4 d x)&&decide (jgL d x))&&pg (qT d.1.2.2.2.1))=true->0<=(x:Int))/\((!(decide (je4 d x)&&decide (jgL d x))&&pg (qT d.1.2.2.2.1))=true->(x:Int)<(jdN d))/\((jhA d x)=true->(false,())=(true,()))/\((jhA d x)=false->kK ((x:Int)+1)/\∃(a:Nat),(((x:Int)+1=(a:Int)/\True)/\True)/\a<=(ku d.1).length/\(ku d.1).length-a<(ku d.1).length-x)))/\(decide ((x:Int)<(jdN d))=false->((jhz d)=true->(false,())=(true,()))/\((jhz d)=false->(true,())=(true,())))))))
namespace U
def jbN (x:CaD) (e:Int):CaD:=(RI x,yo x,aV x-min e (max 0 (IntKind.i64.wrap (aV x+100000))),())
end U
theorem jbz {m e:Int} (a:kK m) (b:0<=e/\e<=200000):kK (m-min e (max 0 (IntKind.i64.wrap (m+100000))))/\m-min e (max 0 (IntKind.i64.wrap (m+100000)))<=m:=by
 unfold kK at a;rw[IntKind.wrap_i64];have h:kK (m-min e (max 0 ((m+100000+9223372036854775808)%18446744073709551616-9223372036854775808))):=iZ6;exact⟨h,by omega⟩
theorem Vd {l:LgD} (h:H2 l=false) (x:CaD):(qh (kD (qd l x))).length<=100000/\(kA (kD (qd l x))).length<=1000000:=by
 show(qh (kD l)).length<=100000/\(kA (kD l)).length<=1000000;exact Df h
structure jdk (l:LgD) (x y:CaD):Prop where
 m:kY (qd l x)=0
 n:kY (qd l y)=0
 o:wo l (qj l (yo x)&&qw (aV x))=0
 lm:(ku (qd l x)).length=(ku l).length
 ln:(ku (qd l y)).length=(ku l).length
 lb:(ku l).length<=(kA (kD l)).length
 fm:∀k,k<(ku l).length->(kV (ku (qd l x)) (yB (nth (ku l) k))).2=true
 fn:∀k,k<(ku l).length->(kV (ku (qd l y)) (yB (nth (ku l) k))).2=true
 em:∀k,k<(ku l).length->yB (nth (ku l) k)≠yo x->(kV (ku (qd l x)) (yB (nth (ku l) k))).1=nth (ku l) k
 en:∀k,k<(ku l).length->yB (nth (ku l) k)≠yo x->(kV (ku (qd l y)) (yB (nth (ku l) k))).1=nth (ku l) k
 i:∀k,k<(ku l).length->kK (bY (nth (ku l) k)-bY (kV (ku (qd l x)) (yB (nth (ku l) k))).1)
 sv:∀k,k<(ku l).length->yB (nth (ku l) k)=yo x->bY (nth (ku l) k)-bY (kV (ku (qd l x)) (yB (nth (ku l) k))).1=bO l (yo x) (aV x)
 mo:∀k,k<(ku l).length->pg (qT (yt l))=true->bY (kV (ku (qd l x)) (yB (nth (ku l) k))).1<=bY (nth (ku l) k)/\bY (kV (ku (qd l y)) (yB (nth (ku l) k))).1<=bY (kV (ku (qd l x)) (yB (nth (ku l) k))).1
 no:(kV (ku l) (yo x)).2=false->bO l (yo x) (aV x)=0
theorem jae {l:LgD} {x:CaD} (a:mz (qd l x)):(0<=yo x/\yo x<((kA (kD l)).length:Int))/\-100000<=aV x/\aV x<=1440:=by
 have h:=a.cl.2 x (jr.2 (Or.inr (List.mem_singleton.2 rfl)));have b:0<=yo x/\yo x<=((kA (kD l)).length:Int)-1:=h.2.1;exact⟨by omega,h.2.2⟩
theorem Ym {l:LgD} {x:LnD} (h:mz l) (a:x∈vn l):0<=bY x/\bY x<=100000000000000000:=by
 have o:=jcv h a;have:=o.tt;have:=o.wk;have:=o.tr;have:=o.sb;omega
theorem jdl {l:LgD} {x y:CaD} (q:kY l=0) (t:kY (qd l x)=0) (u:kY (qd l y)=0) (w:yo y=yo x) (s:aV y<=aV x):jdk l x y:=by
 have c:=bB q;have o:=bB t;have B:=bB u;have eL:ku l=vn l:=(Nw l).trans (jg q);have f:ku (qd l x)=vn (qd l x):=(Nw _).trans (jg t);have m:ku (qd l y)=vn (qd l y):=(Nw _).trans (jg u);obtain⟨z,C⟩:=jae o;have d:=Yk c o;have j:=Yk c B;have i:∀k,k<(vn l).length->0<=yB (nth (vn l) k)/\yB (nth (vn l) k)<((kA (kD l)).length:Int):=fun k hk=>(jcv c (L.kx hk)).bk
 have o0:wo l (qj l (yo x)&&qw (aV x))=0:=by
  have g:qj l (yo x)=true:=OX.2 z;have n:qw (aV x)=true:=(by unfold qw;rw[w6];exact C);unfold wo;rw[jc (fun h=>h q),g,n];rfl
 have v:bO l (yo x) (aV x)=gK l (yo x)-gK (aI l (yo x) (aV x)) (yo x):=(Z7 l _ _).trans (jg o0);rw[<-eL] at i;refine⟨t,u,o0,by rw[f,eL];exact d.len,by rw[m,eL];exact j.len,by rw[eL];exact Xb c,fun k hk=> ?_,fun k hk=> ?_,fun k hk h=> ?_,fun k hk h=> ?_,fun k hk=> ?_,fun k hk h=> ?_,fun k hk A=> ?_,fun h=> ?_⟩;rw[eL] at hk;rw[f,eL,d.fnd k hk];rw[eL] at hk;rw[m,eL,j.fnd k hk];rw[eL] at hk h;rw[f,eL,d.fnd k hk];show w7 (qd l x) _ _=_;rw[FK (fun e=>h e.symm)];exact(Dd hk).2.symm;rw[eL] at hk h;rw[m,eL,j.fnd k hk];show w7 (qd l y) _ _=_;rw[FK (fun e=>h (e.symm.trans w))];exact(Dd hk).2.symm;have a:k<(vn l).length:=(by rw[<-eL];exact hk);have g:=Ym c (L.kx a);have n:0<=bY (w7 (qd l x) (yB (nth (vn l) k)) (mB l (yB (nth (vn l) k))))/\bY (w7 (qd l x) (yB (nth (vn l) k)) (mB l (yB (nth (vn l) k))))<=100000000000000000:=by
  have p:=(jcv c (L.kx a)).bk;have r:=Z5 o (b:=yB (nth (vn l) k)) p (Dd a).1;exact Ym o r
 rw[f,eL,d.fnd k a];exact L.Du (by show _<=_-bY (w7 _ _ _);omega) (by show _-bY (w7 _ _ _)<=_;omega);rw[eL] at hk h;rw[f,eL,d.fnd k hk,v];have:=U0 (l:=l) (x:=x) hk h;rw[this,h];have a:k<(vn l).length:=(by rw[<-eL];exact hk);have g:=Xj c (HD.1 A) w s (i k hk);rw[eL] at g;have n:=jS bY (Dd a).2;rw[f,m,eL,d.fnd k a,j.fnd k a,n];exact g;rw[v];refine Xi ?_;rw[eL,OZ c z] at h;cases e:K0 l (yo x) with
 |false=>rfl
 |true=>rw[e] at h;cases h
theorem Xt {l:List CaD} {x:CaD}:nth (l++[x]) (((l++[x]).length:Int)-1).toNat=x:=by
 have e:(((l++[x]).length:Int)-1).toNat=l.length:=(by rw[jJ,List.length_singleton];omega);rw[e,L.wG (by rw[jJ,List.length_singleton];omega),List.getElem_append_right (jk _)];simp
theorem Dg:xX:=by
 unfold xX jhE jhD jhC jhB je5 jgb jhA je4 jhz jhy jfH jeK jgM jhx jga jeJ jhw jhv jgL jf9 jgK jfG jf8 jdN jey jed je3 Prod.q4;rintro⟨l,x,e,⟨⟩⟩ p _;have u:kK (aV x):=p.2.1.2.2.1;refine⟨fun _=>rfl,fun h=> ?_⟩;have h:(!NG l||decide ((9:Int)<(wi l).length)||decide (e<0)||decide (200000<e))=false:=h;simp only[jM,zg,jD] at h;obtain⟨⟨⟨A,L⟩,M⟩,N⟩:=h;obtain⟨s,O,w⟩:=Z8 A;obtain⟨z,P⟩:=Df s;obtain⟨B,D⟩:=Vd s x;obtain⟨E,F⟩:=Vd s (jbN x e);obtain⟨J,K⟩:=jbz (e:=e) u ⟨by omega,by omega⟩;have y:=FP s;have j:((wi l).length+1)*24<=140737488355328:=(by omega);have Q:((wi l++[x]).length:Int)=(wi l).length+1:=(by rw[jJ,List.length_singleton];omega);refine⟨y,y,j,J,j,D,fun _=>F,fun _=>rfl,fun g=> ?_⟩;have g:(decide (kY (qd l x)≠0)||decide (kY (qd l (jbN x e))≠0))=false:=g;simp only[jM,jD] at g;have C:=jdl w (jN.1 g.1) (jN.1 g.2) rfl K;have eq:=Xt (l:=wi l) (x:=x);have G:kK (((wi l++[x]).length:Int)-1):=iZ6;have H:0<=((wi l++[x]).length:Int)-1:=(by omega);have I:((wi l++[x]).length:Int)-1<((wi l++[x]).length:Int):=(by omega);refine⟨z,B,E,G,H,I,z,fun _ _ _ _ _ _=>⟨fun r=> ?_,fun _=>⟨⟨0,⟨⟨rfl,tZ⟩,tZ⟩,jw _⟩,fun k hk q=>⟨fun c=> ?_,fun c=>⟨fun a=> ?_,fun _=>rfl⟩⟩⟩⟩⟩;exfalso;have r:(decide (kY l≠0)||decide (kY (qd l x)≠0)||decide (kY (qd l (jbN x e))≠0)||decide (wo l (qj l (yo x)&&qw (aV (nth (wi l++[x]) (((wi l++[x]).length:Int)-1).toNat)))≠0)||
  decide (((ku l).length:Int)≠(ku (qd l x)).length)||decide (((ku l).length:Int)≠(ku (qd l (jbN x e))).length)||decide (((kA (kD l)).length:Int)<(ku l).length))=true:=r
 have lb:=C.lb;rw[eq,w,C.m,C.n,C.o,C.lm,C.ln,zi (show¬((kA (kD l)).length:Int)<(ku l).length by omega)] at r;simp at r;have c:(k:Int)<(ku l).length:=jb c;have b:k<(ku l).length:=(by omega);have f:(0:Int)<=(k:Int):=za k;have q:(ku l).length<4611686018427387904:=q;refine⟨f,c,f,c,fun _=>f,fun _=>c,fun _=>f,fun _=>c,fun _=>f,fun _=>c,fun a=> ?_,fun _=>⟨f,c,fun _=>f,fun _=>c,fun _=>C.i k b,fun _=>f,fun _=>c,fun d=> ?_,fun _=>⟨iZ6,k+1,⟨⟨by simp,tZ⟩,tZ⟩,b,by show(ku l).length-(k+1)<(ku l).length-k;omega⟩⟩⟩;exfalso;rw[zm,zm,ji,zm,jI,jI,jI,jI] at a;rcases a with(a|a)|⟨a,d⟩;have a:(kV (ku (qd l x)) (yB (nth (ku l) k))).2=false:=a;rw[C.fm k b] at a;cases a;have a:(kV (ku (qd l (jbN x e))) (yB (nth (ku l) k))).2=false:=a;rw[C.fn k b] at a;cases a;have a:yB (nth (ku l) k)≠yo x:=jb a;rcases d with d|d;exact @jd _ _ d (C.em k b a);exact @jd _ _ d (C.en k b a);exfalso;have d:(decide (yB (nth (ku l) k)=yo x)&&decide (bY (nth (ku l) k)-bY (kV (ku (qd l x)) (yB (nth (ku l) k))).1≠bO l (yo x) (aV (nth (wi l++[x]) (((wi l++[x]).length:Int)-1).toNat)))||
  pg (qT (yt l))&&(decide (bY (nth (ku l) k)<bY (kV (ku (qd l x)) (yB (nth (ku l) k))).1)||decide (bY (kV (ku (qd l x)) (yB (nth (ku l) k))).1<bY (kV (ku (qd l (jbN x e))) (yB (nth (ku l) k))).1)))=true:=d
 rw[eq] at d;simp only[zm,ji,js] at d;rcases d with⟨t,v⟩|⟨t,v⟩;exact v (C.sv k b t);have:=C.mo k b t;omega;exfalso;have a:(!(kV (ku l) (yo x)).2&&decide (bO l (yo x) (aV (nth (wi l++[x]) (((wi l++[x]).length:Int)-1).toNat))≠0))=true:=a;rw[eq,ji,jI,js] at a;exact a.2 (C.no a.1)
theorem jcz (f:Nat) (h:spW.own=false):wm PR f spW:=by cases h
theorem RC:wm PR 3 xV:=vd xW Dg Tryz.func3 (kcM 1000057 (kcC Nx (kcC Ny (kcC Dc (kcC Rb (kcC FO (kcC Rm (kcC HR kcN)))))))) (koC HQ koN)
open Go.Proofs Go.Proofs.YtjmbjgjcdklgdaaGreatDoor
noncomputable def Xu:Array Field:=match Tryz.prog.underlying 60 with|some (.struct fs)=>fs|_=> #[]
theorem jbA:Tryz.prog.globalNamed "handshape/rosters.some"=some 0:=by kernel_rfl
theorem jbB:(Tryz.prog.globals[0]?).map (·.type)=some 60:=by kernel_rfl
theorem jdm:Tryz.prog.underlying 60=some (.struct Xu):=by kernel_rfl
theorem jdn:Tryz.prog.underlying 3=some (.int .i64):=by kernel_rfl
theorem jdo:Tryz.prog.cellsOf 3=1:=by kernel_rfl
noncomputable def cO (i:Nat):Bool:=match Xu[i]? with|some f=>Nat.beq f.type 3&&Nat.beq f.offset i|none=>false
theorem fields:(cO 0&&cO 1&&cO 2&&cO 3&&cO 4&&cO 5)=true:=by kernel_rfl
theorem Xv {i:Nat} (h:cO i=true):∃f,Xu[i]? =some f/\f.type=3/\f.offset=i:=by
 unfold cO at h
 split at h
 rename_i f a;rw[ji] at h;exact⟨f,a,ja h.1,ja h.2⟩;cases h
theorem Xw {H:Type} {enc:TypeId×Value->H} {w:World} {base:Nat} {sp:Nat->Bool} {a:Bool} {n:Nat} {cs:List Value} {xs:List (DataW H×List MemPlace)} {d:List Int} (o:xs.map (·.1)=d.map fun z=>(DataW.lit (.int .i64 z):DataW H))
 (k:∀(i:Nat) (f:Field),Xu[i]? =some f->DataW.trod enc Tryz.prog w base sp a n f.type ((cs.drop f.offset).take (Tryz.prog.cellsOf f.type))=xs[i]?) {i:Nat} {z:Int} (hi:cO i=true) (q:d[i]? =some z):cs[i]? =some (.int .i64 z):=by
 obtain⟨f,g,h,j⟩:=Xv hi;have b:=k i f g;rw[h,j,jdo] at b;have c:(xs.map (·.1))[i]? =some (DataW.lit (.int .i64 z):DataW H):=(by rw[o,zT,q];rfl);rw[zT] at c;obtain⟨y,p,e⟩:=kj.1 c;rw[p] at b;obtain⟨m,l,rfl,_⟩:=DataW.trod_int jdn b;have e:m=z:=by
  have e:(DataW.lit (.int .i64 m):DataW H)=DataW.lit (.int .i64 z):=e;simpa only[DataW.lit.injEq,Lit.int.injEq,true_and] using e
 subst e;have:=jS (·[0]?) l;simpa[zQ,zc] using this
theorem jcA {W:World} (h:laidMet Tryz.prog [("handshape/rosters.some",Rows.laid_handshape_rosters_some)] W):YG (Hof W):=by
 obtain⟨ps,⟨H,E,cs,k,p,q,d,f,a,A,_,_⟩,_⟩:=h;obtain rfl:=Option.some.inj (jbA.symm.trans d);obtain rfl:=Option.some.inj (jbB.symm.trans f);obtain⟨xs,n,_,C,I,l,B⟩:=DataW.trod_struct jdm A;have j:xs.map (·.1)=[0,1,0,0,0,1].map fun z=>(DataW.lit (.int .i64 z):DataW Unit):=by
  have e:=jS Prod.fst C;have e:(DataW.agg [.lit (.int .i64 0),.lit (.int .i64 1),.lit (.int .i64 0),.lit (.int .i64 0),.lit (.int .i64 0),.lit (.int .i64 1)]:DataW Unit)= .agg (xs.map (·.1)):=e;simp only[DataW.agg.injEq] at e;exact e.symm
 have fs:=fields;simp only[ji] at fs;obtain⟨⟨⟨⟨⟨o,r⟩,s⟩,u⟩,v⟩,w⟩:=fs;have c:∀{i:Nat} {z:Int},cO i=true->([0,1,0,0,0,1]:List Int)[i]? =some z->cs[i]? =some (.int .i64 z):=fun hi D=>by
  have:=Xw j B hi D;simpa using this
 unfold World.var? at a;rw[jbA] at a;intro g x b;have b:kN [(0,(⟨.st [.int,.int,.int,.int,.int,.int],((0:Int),(1:Int),(0:Int),(0:Int),(0:Int),(1:Int),())⟩:(t:Ty)×t.Data))] g=some x:=b;have y:Hof W 0=some (.cells cs):=by
  unfold Hof;simp only[Option.bind_some] at a
  split at a
  rename_i F E G e;rw[e];have:=Option.some.inj a;rw[this];cases a
 have m:=wO _ _ _ b;simp only[List.mem_singleton,Prod.mk.injEq] at m;obtain⟨rfl,rfl⟩:=m;exact⟨cs,y,c o rfl,c r rfl,c s rfl,c u rfl,c v rfl,c w rfl,tZ⟩
end Go.X
