/-
  Part 7 of the road: a checked reading of bodies, and what the functions on it do (X25 X26 C5 PC15 C6 PC16 S6 S7 PC17 DM S8 S9 S10 VD VM VB V1 PV1 VE0 VE1 VE2 V3 PV3 O7 V5 PV5 V6 PV6 VBO DQ MQ LQ AQ NQ BQ OQ VQ1 PQ1 PR1 CQ TQ VQ2 PQ2 RQ PQ3 V4 PV4 V7 PV7 V8S V8 PV8 V9 PV9 VW1 PW1 VX1 PX1 VXO PXO LW).
-/
import Derived.Test.YtjmbjgjcdklgdaaGreatDoorK06
import Derived.Test.YtjmbjgjcdklgdaaGreatDoorRows
import Derived.WalkKit
import Derived.ProofKit
import Derived.OpenShut
import Derived.JoinedCond
import Derived.Carry
import Derived.ChangeArms
import Derived.Shelf.SlSortCmp.WholeK
import Derived.Test.YtjmbjgjcdklgdaaGreatDoorProg
import Derived.Test.YtjmbjgjcdklgdaaGreatDoorCards
import Derived.Test.YtjmbjgjcdklgdaaGreatDoorTie
import Derived.Deep.DeepHandedRow
import Derived.Lib.LaidTab
namespace Go.X
open U
open Go.RowKit (Below)
open Go.Proofs.YtjmbjgjcdklgdaaGreatDoor
def Hof (w:World):Imm:=fun b=>match w.heap[b]? with|some (.cells c _ _)=>some (.cells c)|_=>none
theorem Xu (w:World) (d:Zg (Hof w)):eI (Hof w) w:=by
 refine⟨fun b c h=> ?_,d⟩;unfold Hof at h
 split at h
 rename_i f T a e;simp at h;subst h;exact⟨T,a,e⟩;cases h
def Ty.fits (N:Nat):(t:Ty)->t.Data->Prop
 | .int,x=>kM x
 | .bool,_=>True
 | .uint k,x=>k.min<=x/\x<=k.max
 | .slice t,l=>l.length<=N/\∀x∈l,t.fits N x
 | .unit,_=>True
 | .pair a b,d=>a.fits N d.1/\b.fits N d.2
 | .map k v,l=>l.length<=N/\∀x∈l,k.fits N x.1/\v.fits N x.2
 | .ptr t,d=>∀x,d=some x->t.fits N x
theorem Ty.fits_mono {N M:Nat} (h:N<=M):∀(t:Ty) (d:t.Data),t.fits N d->t.fits M d
 | .int,_,k=>k
 | .bool,_,k=>k
 | .uint _,_,k=>k
 | .unit,_,k=>k
 | .slice t,_,k=>⟨jE k.1 h,fun x c=>t.fits_mono h x (k.2 x c)⟩
 | .pair a b,_,k=>⟨a.fits_mono h _ k.1,b.fits_mono h _ k.2⟩
 | .map k v,_,q=>⟨jE q.1 h,fun x c=>⟨k.fits_mono h _ (q.2 x c).1,v.fits_mono h _ (q.2 x c).2⟩⟩
 | .ptr t,_,k=>fun x c=>t.fits_mono h x (k x c)
def jbJ (P:Program) (go:Nat->Ty->Bool):List Field->Nat->Ty->Bool
 |[],_,.unit=>true
 |f::fs,off,.pair a b=>Nat.beq f.offset off&&Nat.beq (P.cellsOf f.type) a.size&&go f.type a&&jbJ P go fs (off+a.size) b
 |_,_,_=>false
def jai (P:Program):Nat->Nat->Ty->Bool
 |0,_,_=>false
 |d+1,T,ty=>match ty,P.underlying T with
  | .int,some (.int .i64)=>true
  | .bool,some .bool=>true
  | .uint k,some (.int k')=>fu k k'
  | .slice t,some (.slice e)=>Nat.beq (P.cellsOf e) t.size&&Nat.ble 1 t.size&&jai P d e t
  | .pair a b,some (.struct fs)=>Nat.beq (P.cellsOf T) (Ty.pair a b).size&&jbJ P (jai P d) fs.toList 0 (.pair a b)
  |_,_=>false
section
variable {P:Program} {K:Type} {enc:TypeId×Value->K} {w:World}
theorem jbK (d:DataW K):1<=Rows.uptoBulk d:=by
 cases d with
 |lit l=>cases l<;>simp[Rows.uptoBulk]
 |_=>simp[Rows.uptoBulk]
theorem Ks (l:List (DataW K)):l.length<=Rows.uptoBulkAll l:=by
 induction l with
 |nil=>simp[Rows.uptoBulkAll]
 |cons x r a=>have:=jbK x;simp only[Rows.uptoBulkAll,jZ];omega
theorem jaj {d:DataW K} {l:List (DataW K)} (h:d∈l):Rows.uptoBulk d<=Rows.uptoBulkAll l:=by
 induction l with
 |nil=>cases h
 |cons x r a=>
  simp only[Rows.uptoBulkAll];cases jk.1 h with
  |inl e=>subst e;omega
  |inr e=>have:=a e;omega
theorem UN {α:Type} {Q:Nat->α->Prop}:∀(n:Nat),(∀i,i<n->∃y,Q i y)->∃l:List α,l.length=n/\∀i y,l[i]? =some y->Q i y
 |0,_=>⟨[],rfl,fun i y h=>by simp at h⟩
 |n+1,h=>by
  obtain⟨l,b,c⟩:=UN n (fun i hi=>h i (by omega))
  obtain⟨y,d⟩:=h n (by omega)
  refine⟨l++[y],by simp[b],fun i z a=> ?_⟩
  by_cases hi:i<l.length
  rw[jz hi] at a;exact c i z a
  rw[jx (by omega)] at a
  have:i=n:=by
   by_cases e:i-l.length=0;omega;obtain⟨k,hk⟩:∃k,i-l.length=k+1:=⟨i-l.length-1,by omega⟩;rw[hk] at a;simp at a
  subst this;rw[<-b] at a;simp at a;subst a;exact d
def jbL (P:Program) (w:World) (enc:TypeId×Value->K) (T:Nat) (ty:Ty):Prop:=
 ∀(a:Nat) (cs:List Value) (x:DataW K×List MemPlace),DataW.trod enc P w 0 (fun _=>true) true a T cs=some x->Rows.uptoBulk x.1<=1048576->
  ∃d:ty.Data,ty.rd (Hof w) (fun i=>cs[i]?) d/\cs.length=ty.size/\ty.fits (Rows.uptoBulk x.1) d
theorem jbM {n:Int} (h:(Lit.int .i64 n).wf=true):kM n:=by
 simp[Lit.wf,IntKind.min,IntKind.max,IntKind.signed,IntKind.bits] at h;exact h
theorem uS {go:Nat->Ty->Bool} (c:∀T ty,go T ty=true->jbL P w enc T ty) {n:Nat} {cs:List Value}:
 ∀(fs:List Field) (off:Nat) (ty:Ty) (xs:List (DataW K×List MemPlace)),jbJ P go fs off ty=true->xs.length=fs.length->
  (∀(i:Nat) (f:Field),fs[i]? =some f->DataW.trod enc P w 0 (fun _=>true) true n f.type ((cs.drop f.offset).take (P.cellsOf f.type))=xs[i]?)->Rows.uptoBulkAll (xs.map (·.1))<=1048576->
  ∃d:ty.Data,ty.rd (Hof w) (fun i=>cs[off+i]?) d/\ty.fits (Rows.uptoBulkAll (xs.map (·.1))) d
 |[],off,ty,xs,h,g,e,j=>by
  cases ty<;>simp[jbJ] at h
  exact⟨(),trivial,trivial⟩
 |f::fs,off,ty,[],h,g,e,j=>by simp at g
 |f::fs,off,ty,x::xs,h,g,e,j=>by
  cases ty<;>simp[jbJ] at h
  rename_i a b
  obtain⟨⟨⟨q,v⟩,r⟩,s⟩:=h
  simp only[zt,Rows.uptoBulkAll] at j
  have k:=e 0 f (by simp)
  simp only[List.getElem?_cons_zero] at k
  obtain⟨d,t,y,u⟩:=c _ _ r _ _ _ k (by omega)
  obtain⟨l,o,p⟩:=uS c fs (off+a.size) b xs s (by simpa using g) (fun i m hi=>by simpa using e (i+1) m (by simpa using hi)) (by omega)
  refine⟨(d,l),⟨?_,?_⟩,?_,?_⟩
  refine Ty.rd_congr a _ _ _ (fun i hi=> ?_) t
  rw[jQ (by omega),zg,q]
  refine Ty.rd_congr b _ _ _ (fun i hi=> ?_) o
  rw[zJ]
  exact a.fits_mono (by simp[Rows.uptoBulkAll]) _ u
  exact b.fits_mono (by simp[Rows.uptoBulkAll]) _ p
theorem ph:∀(d T:Nat) (ty:Ty),jai P d T ty=true->jbL P w enc T ty
 |0,_,_,h=>by cases h
 |d+1,T,ty,h=>by
  intro fuel cs x B r
  unfold jai at h
  split at h
  rename_i u
  obtain⟨n,rfl,rfl,H⟩:=DataW.trod_int u B
  exact⟨n,rfl,rfl,jbM H⟩
  rename_i u
  obtain⟨b,rfl,rfl⟩:=DataW.trod_bool u B
  exact⟨b,rfl,rfl,trivial⟩
  rename_i k k' u
  obtain⟨n,rfl,rfl,H⟩:=DataW.trod_int u B
  have:k=k':=by simpa[fu] using h
  subst this
  refine⟨n,rfl,rfl,?_⟩
  simp[Lit.wf] at H
  exact H
  rename_i t e u
  simp only[ji] at h
  obtain⟨⟨L,M⟩,h3⟩:=h
  have e1:=jb L
  have e2:=jy M
  rcases DataW.trod_slice u B with⟨rfl,rfl⟩|⟨a,len,J,bh,rest,n,_,rfl,rfl,hb,hl,hm,A,D,_,_⟩
  refine⟨[],⟨none,0,0,rfl,rfl,jj _,by simp,fun _=>rfl,fun h=>absurd rfl h⟩,rfl,by simp,fun x B=>by simp at B⟩
  simp only[Rows.uptoBulk] at r
  have key:∀i,i<len->∃y:t.Data,(∃blk,Hof w a.block=some (.cells blk)/\a.spot=none/\t.rd (Hof w) (fun j=>blk[a.off+i*t.size+j]?) y)/\t.fits (Rows.uptoBulkAll (bh.map (·.1))) y:=by
   intro i hi;have h0:=D i hi;have X:bh[i]? =some bh[i]:=jp (by omega);rw[X,Option.bind_eq_some_iff] at h0;obtain⟨cl,c1,c2⟩:=h0;have Q:Rows.uptoBulk bh[i].1<=Rows.uptoBulkAll (bh.map (·.1)):=jaj (jS.2 ⟨bh[i],List.getElem_mem _,rfl⟩);obtain⟨y,y1,y2,y3⟩:=ph d e t h3 _ _ _ c2 (by omega);unfold World.cells? at c1;rw[je (jv _),e1] at c1;have z:∀j,j<t.size->w.cell? ((a.add (i*t.size)).add j)=cl[j]? :=fun j O=>by
    have:=mapM_some_get c1 j j (by simp[O]);simpa using this
   have N:cl.length=t.size:=(by simpa using mapM_some_length c1);have I:=z 0 (by omega);have g:cl[0]?≠none:=(by rw[jp (by omega)];simp);rw[<-I] at g;have m:∃blk T G,w.heap[a.block]? =some (.cells blk T G):=by
    unfold World.cell? at g;have q:((a.add (i*t.size)).add 0).block=a.block:=by unfold Addr.add;simp;split<;>rfl
    rw[q] at g
    split at g
    rename_i c T G e;exact⟨c,T,G,e⟩;exact absurd rfl g
   obtain⟨blk,T',G,m⟩:=m;have p:((a.add (i*t.size)).add 0).spot=none:=by
    unfold World.cell? at g;have q:((a.add (i*t.size)).add 0).block=a.block:=by unfold Addr.add;simp;split<;>rfl
    rw[q,m] at g;simp only at g;cases R:((a.add (i*t.size)).add 0).spot with
    |none=>rfl
    |some s=>rw[R] at g;simp at g
   have hH:Hof w a.block=some (.cells blk):=(by unfold Hof;rw[m]);refine⟨y,⟨blk,hH,?_,?_⟩,t.fits_mono Q _ y3⟩
   --the first element shows that the address is plain
   have C:=D 0 (by omega);have W:bh[0]? =some bh[0]:=jp (by omega);rw[W,Option.bind_eq_some_iff] at C;obtain⟨K,F,_⟩:=C;unfold World.cells? at F;rw[je (jv _),e1] at F;have v:=mapM_some_get F 0 0 (by rw[List.getElem?_range (by omega)]);have hl0:K.length=t.size:=(by simpa using mapM_some_length F);rw[jp (by omega)] at v;simp only[Nat.zero_mul] at v;have ea:(a.add 0).add 0=a:=(by unfold Addr.add;simp);rw[ea] at v;unfold World.cell? at v;rw[m] at v;simp only at v;cases R:a.spot with
   |none=>rfl
   |some s=>rw[R] at v;simp at v
   refine Ty.rd_congr t _ _ _ (fun j O=> ?_) y1;rw[<-z j O];unfold World.cell?;have q:((a.add (i*t.size)).add j).block=a.block:=by unfold Addr.add;split<;>split<;>rfl
   have E:((a.add (i*t.size)).add j).off=a.off+i*t.size+j:=by
    unfold Addr.add;split<;>split<;>simp_all
   have V:((a.add (i*t.size)).add j).spot=none:=by
    have S:(a.add (i*t.size)).spot=none:=by
     have:(a.add (i*t.size)).add 0=a.add (i*t.size):=(by simp[Addr.add]);rw[this] at p;exact p
    unfold Addr.add at S⊢
    split<;>split<;>simp_all
   rw[q,m,E,V];simp
  obtain⟨l,l1,l2⟩:=UN len key;refine⟨l,⟨some a,len,J,rfl,l1.symm,hl,?_,(fun h=>by cases h),fun g=> ?_⟩,rfl,?_,?_⟩;have:=Ks (bh.map (·.1));simp at this;omega;have hz:0<l.length:=List.length_pos_iff.2 g;obtain⟨blk,q1,q2,_⟩:=(l2 0 l[0] (jp hz)).1;refine⟨a.block,a.off,blk,?_,q1,fun i y Z=> ?_⟩;rcases a with⟨b,o,s⟩;simp only at q2;subst q2;rfl;obtain⟨blk',q3,_,q4⟩:=(l2 i y Z).1;rw[q1] at q3;simp at q3;subst q3;exact q4;simp only[Rows.uptoBulk];have:=Ks (bh.map (·.1));simp at this;omega;intro y Z;obtain⟨i,hi⟩:=zT Z;exact t.fits_mono (by simp only[Rows.uptoBulk];omega) _ (l2 i y hi).2;rename_i a b fs u;simp only[ji] at h;obtain⟨L,M⟩:=h;obtain⟨xs,n,_,rfl,A,Y,hf⟩:=DataW.trod_struct u B;simp only[Rows.uptoBulk] at r;obtain⟨y,y1,y2⟩:=uS (fun T ty h=>ph d T ty h) (n:=n) (cs:=cs) fs.toList 0 (.pair a b) xs M (by simpa using Y) (fun i f hi=>hf i f (by simpa using hi)) (by omega);refine⟨y,by simpa using y1,by rw[A];exact jb L,?_⟩;exact Ty.fits_mono (by simp only[Rows.uptoBulk];omega) (.pair a b) _ y2;cases h
end
end Go.X
namespace Go.X
open U
open Go.RowKit (Below)
open Go.ChangeShapes Go.WideShapes Go.ChangeAt Go.RowKit
open Go.Proofs.YtjmbjgjcdklgdaaGreatDoor
def Hr (N:Nat):(ts:List Ty)->PD (ts.map Par.val)->Prop
 |[],_=>True
 |t::ts,d=>t.fits N d.1/\Hr N ts d.2
def UO (ts:List Ty):we:=⟨ts.map Par.val,[.bool],false,fun d=>[Hr 1048576 ts d],fun _=>(true,())⟩
def uT (P:Program):List Nat->List Ty->Bool
 |[],[]=>true
 |T::Ts,t::ts=>jai P 20 T t&&(P.readableRec T&&decide (T<P.types.size))&&uT P Ts ts
 |_,_=>false
section
variable {P:Program} {K:Type} {enc:TypeId×Value->K} {W W':World}
theorem sm (j:laidOutB P=true) (i:Below W.heap.size W W'):∀(a:List Nat) (ts:List Ty) (vs:List Value) (ds:List (DataW K)) (ps:List MemPlace),uT P a ts=true->
 DataW.TrodAll enc P W 0 (fun _=>true) true a vs ds ps->(∀x∈ps,x.block<W.heap.size)->DataW.TrodAll enc P W' 0 (fun b=>decide (b<W.heap.size)) true a vs ds ps
 |[],ts,vs,ds,ps,_,h,_=>by
  obtain⟨rfl,rfl,rfl⟩:=trodAll_nil h
  exact trodAll_mk0
 |T::a,[],vs,ds,ps,c,_,_=>by cases c
 |T::a,t::ts,vs,ds,ps,c,h,hlt=>by
  obtain⟨v,g,d,e,p,q,rfl,rfl,rfl,n,o⟩:=trodAll_cons h
  simp only[uT,ji] at c
  obtain⟨⟨_,k,l⟩,m⟩:=c
  exact trodAll_cons_mk (Below.trod j k (ja l) n i (fun x f=>hlt x (jh _ f)))
   (sm j i a ts g e q m o (fun x f=>hlt x (jg _ f)))
theorem jak {T:Nat} {t:Ty} {r:Reach} {c:Nat} {v:Value} (h:jai P 20 T t=true) (b:Value.okWide P W r c T v):qX v=t.agg:=by
 unfold jai at h
 split at h
 rename_i a;obtain⟨n,rfl⟩:=okWide_int a b;rfl;rename_i a;obtain⟨n,rfl⟩:=okWide_bool a b;rfl;rename_i a;obtain⟨n,rfl⟩:=okWide_int a b;rfl;rename_i a;unfold Value.okWide at b;rw[a] at b;simp only[Cell.okWide,a] at b;cases v with
 |agg vs=>simp[Cell.ok,a] at b
 |_=>rfl
 rename_i a;unfold Value.okWide at b;rw[a] at b;obtain⟨cs,rfl,_⟩:=b;rfl;cases h
theorem YN {r:Reach} {l:Nat}:∀(a:List Nat) (ts:List Ty) (vs:List Value) (ds:List (DataW K)) (ps:List MemPlace),uT P a ts=true->
 DataW.TrodAll enc P W 0 (fun _=>true) true a vs ds ps->(∀(j:Nat) t v,a[j]? =some t->vs[j]? =some v->Value.okWide P W r l t v)->Rows.uptoBulkAll ds<=1048576->
 ∃d:PD (ts.map Par.val),pvs P (Hof W) (ts.map Par.val) vs d/\Hr 1048576 ts d
 |[],ts,vs,ds,ps,b,h,_,_=>by
  obtain⟨rfl,rfl,rfl⟩:=trodAll_nil h
  cases ts with
  |nil=>exact⟨(),rfl,trivial⟩
  |cons t ts=>cases b
 |T::a,[],vs,ds,ps,b,_,_,_=>by cases b
 |T::a,t::ts,vs,ds,ps,b,h,hv,hb=>by
  obtain⟨v,g,d,e,p,q,rfl,rfl,rfl,n,o⟩:=trodAll_cons h
  simp only[uT,ji] at b
  obtain⟨⟨k,_⟩,m⟩:=b
  simp only[Rows.uptoBulkAll] at hb
  obtain⟨c,s⟩:=n
  obtain⟨x,w,z,A⟩:=ph 20 T t k c _ _ s (by simp only;omega)
  obtain⟨y,B,C⟩:=YN a ts g e q m o (fun j t v u f=>hv (j+1) t v (by simpa using u) (by simpa using f)) (by omega)
  refine⟨(x,y),⟨⟨jak k (hv 0 T v rfl rfl),by simpa using z,?_⟩,B⟩,Ty.fits_mono (by simp only;omega) t x A,C⟩
  refine Ty.rd_congr t _ _ _ (fun i _=> ?_) w
  simp
theorem pi:∀(a:List Nat) (ts:List Ty) (vs:List Value) (ds:List (DataW K)) (ps:List MemPlace),uT P a ts=true->DataW.TrodAll enc P W 0 (fun _=>true) true a vs ds ps->ds.length=ts.length:=by
 intro a
 induction a with
 |nil=>intro ts vs ds ps b h;obtain⟨rfl,rfl,rfl⟩:=trodAll_nil h;cases ts with|nil=>rfl|cons=>cases b
 |cons T a g=>intro ts vs ds ps b h;cases ts with
  |nil=>cases b
  |cons t ts=>
   obtain⟨v,e,d,c,p,q,rfl,rfl,rfl,i,f⟩:=trodAll_cons h;simp only[uT,ji] at b;simp[g ts e c q b.2 f]
theorem YO {f:Nat} {fn:Func} {s:ChangeSpec} {ts:List Ty} (I:laidOutB P=true) (k:uT P fn.params.toList ts=true) (L:fn.resultTypes= #[4]) (D:P.underlying 4=some .bool)
 (a:s.vars=[]) (m:∀(ds:List (DataW K)),ds.length=ts.length->s.fn K (ds++[])={results:=[.lit (.bool true)],args:=ds})
 (G:wo P f (UO ts)) (base:Nat) (args:Array Value) (ds o:List (DataW K)) (before:List MemPlace)
 (l:∀(j:Nat) t v,fn.params[j]? =some t->args[j]? =some v->Value.okWide P W .any base t v)
 (w:DataW.Whole enc P fn.params.toList s.vars false W args.toList ds o before) (hk:Rows.uptoSmall K (ds++o)=true) (E:Zg (Hof W)):
 Calls P f args W fun e W'=>∃v,e= .returned v/\s.post enc P fn false true false false W args v W':=by
 have b:=w;obtain⟨p,q,i,u,rfl,H,J⟩:=w;rw[a] at u;obtain⟨rfl,rfl⟩:=trodVars_none u;simp only[j9] at b hk;have c:Rows.uptoBulkAll ds<=1048576:=ja hk;have g:∀(j:Nat) t v,fn.params.toList[j]? =some t->args.toList[j]? =some v->Value.okWide P W .any base t v:=fun j t v B C=>l j t v (by simpa using B) (by simpa using C)
 obtain⟨d,z,A⟩:=YN fn.params.toList ts args.toList ds p k i g c;have y:=G.calls (Hof W) W args.toList d (Xu W E) z ⟨A,trivial⟩;simp only[Array.toArray_toList] at y;refine y.mono fun e W' F=> ?_
 obtain⟨v,H',rfl,r,M⟩:=F;have n:v= .bool true:=qe M;subst n;refine⟨_,rfl,ds,[],p,[],p,[],b,?_,?_,?_,r.below.frame _,fun h=>by cases h⟩;rw[m ds ?_,L];exact trodAll_cons_mk (shut_bool D _) trodAll_mk0;exact pi _ _ _ _ _ k i;rw[m ds ?_];exact sm I r.below _ ts _ _ _ k i (fun x N=>by simpa using b.lt x N);exact pi _ _ _ _ _ k i;rw[a,m ds ?_];rfl;exact pi _ _ _ _ _ k i
end
end Go.X
namespace Go.X
open U
open Go.Proofs
namespace U
def jdd (p:PeD):Prop:=(lv p).length<=20/\(yJ p).length<=30
def If (c:CrD):Prop:=(kC c).length<=20/\(vP c).length<=20/\∀p∈kC c,jdd p
def DB (d:DyD):Prop:=If (kE d)/\(wl d).length<=20/\(kB d).length<=20/\(kX d).length<=60/\∀r∈wl d,r.length<=20
def Ld (p:PeD):Bool:=decide (20<((lv p).length:Int))||decide (30<((yJ p).length:Int))
def iR (c:CrD):Bool:=(decide (20<((kC c).length:Int))||decide (20<((vP c).length:Int)))||((kC c).any Ld||(kU c&&decide (5<((kC c).length:Int))))
def Le (r:List SpD):Bool:=decide (20<(r.length:Int))
def bO (d:DyD):Bool:=(((iR (kE d)||decide (20<((wl d).length:Int)))||decide (20<((kB d).length:Int)))||decide (60<((kX d).length:Int)))||(wl d).any Le
def Ig (d:DyD):Bool:=bO d||(decide (gL d=0)&&decide (12<((kX d).length:Int)))
def jdu:CrD:=(3,[([5,4,0],3,15,[],false,50,()),([0,5,3],3,15,[],true,40,()),([4,0,4],1,3,[7],false,30,()),([3,3,3],255,1,[],false,10,())],[(2,1,false,()),(4,2,false,()),(3,2,true,()),(5,1,false,())],())
def V5:List JbD:=[(0,2,7,1,2,1,()),(0,2,3,0,0,1,()),(0,2,7,1,1,1,())]
def jdv:DyD:=(jdu,[[(0,0,()),(10,20,())],[(10,25,()),(0,0,())]],[((0,2,3,0,0,1,()),0,60,120,()),((0,2,3,1,0,1,()),1,150,200,()),((0,2,7,1,2,1,()),0,230,300,())],10,140,
 [(1,5,1,0,3,()),(2,6,1,1,3,()),(3,4,1,2,2,()),(4,7,1,2,0,()),(5,8,1,2,1,()),(6,9,1,0,2,()),(7,10,2,0,2,())],())
end U
def Q4:we:=⟨[.val tCr],[tCr],false,fun d=>[If d.1],fun d=>(d.1,())⟩
def Q5:Ann:=fun r=>match r with
 |3=>some fun σ=>{X:=Nat,sl:=fun i=>[(4,.dat .int (i:Int))],ob:=fun i=>[(3,some (.box 25 false ((bx σ 3).set 1 (.own (aB 3 1) tPe)))),(aB 3 1,some (.row 138 tPe false .yes ((kC (gb tCr σ 1)).take i)))],inv:=fun i=>i<=(kC (gb tCr σ 1)).length,mu:=fun i=>(kC (gb tCr σ 1)).length-i}
 |_=>none
abbrev jeh (d:CrD×Unit)(x:Nat):=(nth d.1.2.1 (x:Int).toNat)
def Q6:Prop:=∀(d:CrD×Unit),If d.1->(0+d.1.2.2.1.length)*24<=140737488355328/\(∃(x:Nat),((0=(x:Int)/\True)/\(d.1.1=d.1.1/\True/\True/\True)/\List.take x (kC d.1)=[]/\True)/\x<=(kC d.1).length)/\∀(x:Nat),x<=(kC d.1).length->d.1.2.1.length<4611686018427387904->(decide ((x:Int)<d.1.2.1.length)=true->0<=(x:Int)/\(x:Int)<d.1.2.1.length/\(0+(jeh d x).1.length)*8<=140737488355328/\(0+(jeh d x).2.2.2.1.length)*8<=140737488355328/\((List.take x (kC d.1)).length+[([]++(jeh d x).1,(jeh d x).2.1,(jeh d x).2.2.1,[]++(jeh d x).2.2.2.1,(jeh d x).q4)].length)*80<=140737488355328/\kM ((x:Int)+1)/\∃(a:Nat),(((x:Int)+1=(a:Int)/\True)/\(d.1.1=d.1.1/\True/\True/\True)/\List.take x (kC d.1)++[([]++(jeh d x).1,(jeh d x).2.1,(jeh d x).2.2.1,[]++(jeh d x).2.2.2.1,(jeh d x).q4)]=List.take a (kC d.1)/\True)/\a<=(kC d.1).length/\(kC d.1).length-a<(kC d.1).length-x)/\(decide ((x:Int)<d.1.2.1.length)=false->((d.1.1,List.take x (kC d.1),[]++d.1.2.2.1,()),())=d)
def Q7:we:=⟨[.val tDy],[tDy],false,fun d=>[DB d.1],fun d=>(d.1,())⟩
def Q8:Ann:=fun r=>match r with
 |5=>some fun σ=>{X:=Nat,sl:=fun i=>[(4,.dat .int (i:Int))],ob:=fun i=>[(3,some (.box 30 false ((bx σ 3).set 3 (.own (aB 3 3) (.slice tSp))))),(aB 3 3,some (.row 109 (.slice tSp) false .yes ((wl (gb tDy σ 1)).take i)))],inv:=fun i=>i<=(wl (gb tDy σ 1)).length,mu:=fun i=>(wl (gb tDy σ 1)).length-i}
 |_=>none
abbrev jhv (d:DyD×Unit):=(d.1.1.1=d.1.1.1/\d.1.1.2.1=d.1.1.2.1/\d.1.1.2.2.1=d.1.1.2.2.1/\True/\d.1.2.2.1=d.1.2.2.1/\d.1.2.2.2.1=d.1.2.2.2.1/\d.1.q4.1=d.1.q4.1/\d.1.q4.2.1=d.1.q4.2.1/\True)
def Q9:Prop:=∀(d:DyD×Unit),DB d.1->If d.1.1/\(∃(x:Nat),((0=(x:Int)/\True)/\(jhv d)/\List.take x (wl d.1)=[]/\True)/\x<=(wl d.1).length)/\∀(x:Nat),x<=(wl d.1).length->d.1.2.1.length<4611686018427387904->(decide ((x:Int)<d.1.2.1.length)=true->0<=(x:Int)/\(x:Int)<d.1.2.1.length/\(0+(nth d.1.2.1 (x:Int).toNat).length)*16<=140737488355328/\((List.take x (wl d.1)).length+[[]++nth d.1.2.1 (x:Int).toNat].length)*24<=140737488355328/\kM ((x:Int)+1)/\∃(a:Nat),(((x:Int)+1=(a:Int)/\True)/\(jhv d)/\List.take x (wl d.1)++[[]++nth d.1.2.1 (x:Int).toNat]=List.take a (wl d.1)/\True)/\a<=(wl d.1).length/\(wl d.1).length-a<(wl d.1).length-x)/\(decide ((x:Int)<d.1.2.1.length)=false->(0+d.1.2.2.1.length)*72<=140737488355328/\(0+d.1.q4.2.1.length)*40<=140737488355328/\((d.1.1,List.take x (wl d.1),[]++d.1.2.2.1,d.1.2.2.2.1,d.1.q4.1,[]++d.1.q4.2.1,()),())=d)
def UP:we:=⟨[.val tCr],[.bool],false,fun _=>[],fun d=>(iR d.1,())⟩
def UQ:Ann:=fun r=>match r with
 |4=>some fun σ=>{X:=Nat,sl:=fun i=>[(3,.dat .int (i:Int))],ob:=fun _=>[],inv:=fun i=>i<=(kC (gb tCr σ 1)).length/\∀j:Nat,j<i->Ld (nth (kC (gb tCr σ 1)) j)=false,mu:=fun i=>(kC (gb tCr σ 1)).length-i}
 |_=>none
abbrev jge (d:CrD×Unit)(x:Nat):=((20:Int)<(nth d.1.2.1 (x:Int).toNat).1.length)
abbrev je4 (d:CrD×Unit):=(d.1.2.1.length:Int)
abbrev jhw (d:CrD×Unit)(x:Nat):=(decide (jge d x)||decide ((30:Int)<(nth d.1.2.1 (x:Int).toNat).2.2.2.1.length))
abbrev jhx (d:CrD×Unit):=(decide (20<(je4 d))||decide (20<(d.1.2.2.1.length:Int)))
def UR:Prop:=∀(d:CrD×Unit),d.1.2.1.length<4611686018427387904->((!decide (20<(je4 d)))=true->d.1.2.2.1.length<4611686018427387904)->((jhx d)=true->(true,())=(iR d.1,()))/\((jhx d)=false->(∃(x:Nat),((0=(x:Int)/\True)/\True)/\x<=(kC d.1).length/\∀(j:Nat),j<x->Ld (nth (kC d.1) j)=false)/\∀(x:Nat),(x<=(kC d.1).length/\∀(j:Nat),j<x->Ld (nth (kC d.1) j)=false)->d.1.2.1.length<4611686018427387904->(decide ((x:Int)<(je4 d))=true->0<=(x:Int)/\(x:Int)<(je4 d)/\((nth d.1.2.1 (x:Int).toNat).1.length<4611686018427387904->((!decide (jge d x))=true->0<=(x:Int))/\((!decide (jge d x))=true->(x:Int)<(je4 d))/\(((!decide (jge d x))=true->(nth d.1.2.1 (x:Int).toNat).2.2.2.1.length<4611686018427387904)->((jhw d x)=true->(true,())=(iR d.1,()))/\((jhw d x)=false->kM ((x:Int)+1)/\∃(a:Nat),(((x:Int)+1=(a:Int)/\True)/\True)/\(a<=(kC d.1).length/\∀(j:Nat),j<a->Ld (nth (kC d.1) j)=false)/\(kC d.1).length-a<(kC d.1).length-x))))/\(decide ((x:Int)<(je4 d))=false->(kU d.1=true->d.1.2.1.length<4611686018427387904)->(kU d.1&&decide (5<(je4 d)),())=(iR d.1,())))
def Ra:we:=⟨[.val tDy],[.bool],false,fun _=>[],fun d=>(bO d.1,())⟩
def Rb:Ann:=fun r=>match r with
 |4=>some fun σ=>{X:=Nat,sl:=fun i=>[(3,.dat .int (i:Int))],ob:=fun _=>[],inv:=fun i=>i<=(wl (gb tDy σ 1)).length/\∀j:Nat,j<i->Le (nth (wl (gb tDy σ 1)) j)=false,mu:=fun i=>(wl (gb tDy σ 1)).length-i}
 |_=>none
abbrev jfo (d:DyD×Unit):=(d.1.2.1.length:Int)
abbrev jhy (d:DyD×Unit):=(iR d.1.1||decide (20<(jfo d))||decide (20<(d.1.2.2.1.length:Int))||decide (60<(d.1.q4.2.1.length:Int)))
def Rc:Prop:=∀(d:DyD×Unit),((!iR d.1.1)=true->d.1.2.1.length<4611686018427387904)->((!(iR d.1.1||decide (20<(jfo d))))=true->d.1.2.2.1.length<4611686018427387904)->((!(iR d.1.1||decide (20<(jfo d))||decide (20<(d.1.2.2.1.length:Int))))=true->d.1.q4.2.1.length<4611686018427387904)->((jhy d)=true->(true,())=(bO d.1,()))/\((jhy d)=false->(∃(x:Nat),((0=(x:Int)/\True)/\True)/\x<=(wl d.1).length/\∀(j:Nat),j<x->Le (nth (wl d.1) j)=false)/\∀(x:Nat),(x<=(wl d.1).length/\∀(j:Nat),j<x->Le (nth (wl d.1) j)=false)->d.1.2.1.length<4611686018427387904->(decide ((x:Int)<(jfo d))=true->0<=(x:Int)/\(x:Int)<(jfo d)/\((nth d.1.2.1 (x:Int).toNat).length<4611686018427387904->(decide ((20:Int)<(nth d.1.2.1 (x:Int).toNat).length)=true->(true,())=(bO d.1,()))/\(decide ((20:Int)<(nth d.1.2.1 (x:Int).toNat).length)=false->kM ((x:Int)+1)/\∃(a:Nat),(((x:Int)+1=(a:Int)/\True)/\True)/\(a<=(wl d.1).length/\∀(j:Nat),j<a->Le (nth (wl d.1) j)=false)/\(wl d.1).length-a<(wl d.1).length-x)))/\(decide ((x:Int)<(jfo d))=false->(false,())=(bO d.1,())))
def US:we:=⟨[.val tDy],[.bool],false,fun _=>[],fun d=>(Ig d.1,())⟩
def UT:Prop:=∀(d:DyD×Unit),((!bO d.1)=true->(kB d.1).length<=1000000)/\(((!bO d.1&&decide (gL d.1=0))=true->d.1.q4.2.1.length<4611686018427387904)->(bO d.1||decide (gL d.1=0)&&decide (12<(d.1.q4.2.1.length:Int)),())=(Ig d.1,()))
def Re:we:=⟨[.val .int,.val .int],[tSp],false,fun _=>[],fun d=>((d.1,d.2.1,()),())⟩
def Rf:Prop:=∀(d:Int×Int×Unit),(d,())=(d,())
def Hs:we:=⟨[],[tCr,.slice tJb],false,fun _=>[],fun _=>(jdu,V5,())⟩
def Ht:Prop:=∀(_:Unit),(((3:Int),[([(5:Int),(4:Int),(0:Int)],(3:Int),(15:Int),[],false,(50:Int),()),([(0:Int),(5:Int),(3:Int)],(3:Int),(15:Int),[],true,(40:Int),()),([(4:Int),(0:Int),(4:Int)],(1:Int),(3:Int),[(7:Int)],false,(30:Int),()),([(3:Int),(3:Int),(3:Int)],(255:Int),(1:Int),[],false,(10:Int),())],[((2:Int),(1:Int),false,()),((4:Int),(2:Int),false,()),((3:Int),(2:Int),true,()),((5:Int),(1:Int),false,())],()),[((0:Int),(2:Int),(7:Int),(1:Int),(2:Int),(1:Int),()),((0:Int),(2:Int),(3:Int),(0:Int),(0:Int),(1:Int),()),((0:Int),(2:Int),(7:Int),(1:Int),(1:Int),(1:Int),())],())=(jdu,V5,())
def Hu:we:=⟨[],[tDy],false,fun _=>[],fun _=>(jdv,())⟩
abbrev jgf:=(nth V5 (Int.toNat 1))
def Hv:Prop:=∀(_:Unit),(0:Int)<=1/\1<(V5.length:Int)/\(0:Int)<=1/\1<(V5.length:Int)/\(0:Int)<=0/\0<(V5.length:Int)/\((jdu,[[((0:Int),(0:Int),()),((10:Int),(20:Int),())],[((10:Int),(25:Int),()),((0:Int),(0:Int),())]],[(nth V5 (Int.toNat 1),(0:Int),(60:Int),(120:Int),()),((jgf.1,jgf.2.1,jgf.2.2.1,(1:Int),jgf.q4),(1:Int),(150:Int),(200:Int),()),(nth V5 (Int.toNat 0),(0:Int),(230:Int),(300:Int),())],(10:Int),(140:Int),[((1:Int),(5:Int),(1:Int),(0:Int),(3:Int),()),((2:Int),(6:Int),(1:Int),(1:Int),(3:Int),()),((3:Int),(4:Int),(1:Int),(2:Int),(2:Int),()),((4:Int),(7:Int),(1:Int),(2:Int),(0:Int),()),((5:Int),(8:Int),(1:Int),(2:Int),(1:Int),()),((6:Int),(9:Int),(1:Int),(0:Int),(2:Int),()),((7:Int),(10:Int),(2:Int),(0:Int),(2:Int),())],()),())=(jdv,())
theorem UU:Q6:=by
 unfold Q6 jeh Prod.q4;rintro⟨c,⟨⟩⟩ g;obtain⟨m,j,a⟩:If c:=g;refine⟨by show(0+(vP c).length)*24<=140737488355328;omega,⟨0,⟨⟨rfl,tZ⟩,⟨rfl,tZ,tZ,tZ⟩,rfl,tZ⟩,jv _⟩,fun x f _=>⟨fun h=> ?_,fun h=> ?_⟩⟩;have h:(x:Int)<(kC c).length:=ja h;have k:=L.k8 (l:=kC c) (i:=x) (by omega);obtain⟨s1,s2⟩:=a _ (L.kw (l:=kC c) (i:=x) (by omega));have d:((kC c).take x).length<=20:=(by rw[jX];omega);refine⟨zb _,h,by show(0+(U.lv (nth (kC c) x)).length)*8<=140737488355328;omega,by show(0+(yJ (nth (kC c) x)).length)*8<=140737488355328;omega,by show(((kC c).take x).length+1)*80<=140737488355328;omega,iZ6,x+1,⟨⟨by simp,tZ⟩,⟨rfl,tZ,tZ,tZ⟩,k.symm,tZ⟩,by show x+1<=(kC c).length;omega,by show(kC c).length-(x+1)<(kC c).length-x;omega⟩;have h:¬(x:Int)<(kC c).length:=jd h;have f:x<=(kC c).length:=f;have b:x=(kC c).length:=(by omega);subst b;have e:(kC c).take (kC c).length=kC c:=zD;show((c.1,(kC c).take (kC c).length,c.2.2.1,()),())=(c,());rw[e];rfl
theorem Rg:wo PR 53 Q4:=q7 Q5 UU Tryz.func53 kcN koN
theorem UV:Q9:=by
 unfold Q9 jhv Prod.q4;rintro⟨d,⟨⟩⟩ g;obtain⟨k,o,j,n,a⟩:DB d:=g;refine⟨k,⟨0,⟨⟨rfl,tZ⟩,⟨rfl,rfl,rfl,tZ,rfl,rfl,rfl,rfl,tZ⟩,rfl,tZ⟩,jv _⟩,fun x f _=>⟨fun h=> ?_,fun h=> ?_⟩⟩;have h:(x:Int)<(wl d).length:=ja h;have m:=L.k8 (l:=wl d) (i:=x) (by omega);have p:=a _ (L.kw (l:=wl d) (i:=x) (by omega));have c:((wl d).take x).length<=20:=(by rw[jX];omega);refine⟨zb _,h,by show(0+(nth (wl d) x).length)*16<=140737488355328;omega,by show(((wl d).take x).length+1)*24<=140737488355328;omega,iZ6,x+1,⟨⟨by simp,tZ⟩,⟨rfl,rfl,rfl,tZ,rfl,rfl,rfl,rfl,tZ⟩,m.symm,tZ⟩,by show x+1<=(wl d).length;omega,by show(wl d).length-(x+1)<(wl d).length-x;omega⟩;have h:¬(x:Int)<(wl d).length:=jd h;have f:x<=(wl d).length:=f;have b:x=(wl d).length:=(by omega);subst b;have e:(wl d).take (wl d).length=wl d:=zD;refine⟨by show(0+(kB d).length)*72<=140737488355328;omega,by show(0+(kX d).length)*40<=140737488355328;omega,?_⟩;show((kE d,(wl d).take (wl d).length,kB d,K5 d,X5 d,kX d,()),())=(d,());rw[e];rfl
theorem Rh:wo PR 30 Q7:=q7 Q8 UV Tryz.func30 (kcC Rg kcN) koN
theorem Xv:UR:=by
 unfold UR jhx jhw je4 jge;rintro⟨c,⟨⟩⟩ _ _;refine⟨fun h=> ?_,fun h=>⟨⟨0,⟨⟨rfl,tZ⟩,tZ⟩,jv _,fun j g=>by omega⟩,fun x f d=>⟨fun a=>⟨zb _,ja a,fun _=>⟨fun _=>zb _,fun _=>ja a,fun _=>⟨fun b=> ?_,fun b=> ?_⟩⟩⟩,fun a _=> ?_⟩⟩⟩;have h:(decide (20<((kC c).length:Int))||decide (20<((vP c).length:Int)))=true:=h;show(true,())=(iR c,());unfold iR;rw[h];rfl;have b:Ld (nth (kC c) x)=true:=b;have a:(x:Int)<(kC c).length:=ja a;have:(kC c).any Ld=true:=j8.2 ⟨_,L.kw (l:=kC c) (i:=x) (by omega),b⟩;show(true,())=(iR c,());unfold iR;rw[this,Bool.true_or,Bool.or_true];have b:Ld (nth (kC c) x)=false:=b;have a:(x:Int)<(kC c).length:=ja a;have d:(kC c).length<4611686018427387904:=d;refine⟨iZ6,x+1,⟨⟨by simp,tZ⟩,tZ⟩,⟨by show x+1<=(kC c).length;omega,fun j g=> ?_⟩,by show(kC c).length-(x+1)<(kC c).length-x;omega⟩;by_cases e:j=x;subst e;exact b;exact f.2 j (by omega);have h:(decide (20<((kC c).length:Int))||decide (20<((vP c).length:Int)))=false:=h;have a:¬(x:Int)<(kC c).length:=jd a;have:(kC c).any Ld=false:=zh.2 fun p k=>by
  obtain⟨i,hi,rfl⟩:=L.mem_iff.1 k;rw[f.2 i (by omega)];simp
 show(kU c&&decide (5<((kC c).length:Int)),())=(iR c,());unfold iR;rw[h,this,Bool.false_or,Bool.false_or]
theorem UW:wo PR 114 UP:=q7 UQ Xv Tryz.func114 (kcC uR kcN) koN
theorem UX:Rc:=by
 unfold Rc jhy jfo Prod.q4;rintro⟨d,⟨⟩⟩ _ _ _;refine⟨fun h=> ?_,fun h=>⟨⟨0,⟨⟨rfl,tZ⟩,tZ⟩,jv _,fun j g=>by omega⟩,fun x f c=>⟨fun a=>⟨zb _,ja a,fun _=>⟨fun b=> ?_,fun b=> ?_⟩⟩,fun a=> ?_⟩⟩⟩;have h:(((iR (kE d)||decide (20<((wl d).length:Int)))||decide (20<((kB d).length:Int)))||decide (60<((kX d).length:Int)))=true:=h;show(true,())=(bO d,());unfold bO;rw[h];rfl;have b:Le (nth (wl d) x)=true:=b;have a:(x:Int)<(wl d).length:=ja a;have:(wl d).any Le=true:=j8.2 ⟨_,L.kw (l:=wl d) (i:=x) (by omega),b⟩;show(true,())=(bO d,());unfold bO;rw[this,Bool.or_true];have b:Le (nth (wl d) x)=false:=b;have a:(x:Int)<(wl d).length:=ja a;have c:(wl d).length<4611686018427387904:=c;refine⟨iZ6,x+1,⟨⟨by simp,tZ⟩,tZ⟩,⟨by show x+1<=(wl d).length;omega,fun j g=> ?_⟩,by show(wl d).length-(x+1)<(wl d).length-x;omega⟩;by_cases e:j=x;subst e;exact b;exact f.2 j (by omega);have h:(((iR (kE d)||decide (20<((wl d).length:Int)))||decide (20<((kB d).length:Int)))||decide (60<((kX d).length:Int)))=false:=h;have a:¬(x:Int)<(wl d).length:=jd a;have:(wl d).any Le=false:=zh.2 fun p k=>by
  obtain⟨i,hi,rfl⟩:=L.mem_iff.1 k;rw[f.2 i (by omega)];simp
 show(false,())=(bO d,());unfold bO;rw[h,this];rfl
theorem Ri:wo PR 78 Ra:=q7 Rb UX Tryz.func78 (kcC UW kcN) koN
theorem UY {c:CrD} (h:iR c=false):If c:=by
 unfold iR at h;rw[jP,jP,jP,jD] at h;have b:=jd h.1.2;refine⟨by have:=h.1.1;omega,by omega,fun p a=> ?_⟩;have:=zh.1 h.2.1 p a;unfold Ld at this;rw[zy,decide_eq_true_iff,decide_eq_true_iff] at this;unfold jdd;omega
theorem FO {d:DyD} (h:bO d=false):DB d:=by
 unfold bO at h;rw[jP,jP,jP,jP] at h;obtain⟨⟨⟨⟨e,a⟩,b⟩,c⟩,f⟩:=h;have a:=jd a;have b:=jd b;have c:=jd c;refine⟨UY e,by omega,by omega,by omega,fun r g=> ?_⟩;have:=zh.1 f r g;unfold Le at this;rw[decide_eq_true_iff] at this;omega
theorem Xw:UT:=by
 unfold UT Prod.q4;rintro⟨d,⟨⟩⟩;refine⟨fun h=> ?_,fun _=>rfl⟩;have h:(!bO d)=true:=h;rw[jN] at h;have:=(FO h).2.2.1;show(kB d).length<=1000000;omega
theorem UZ:wo PR 51 US:=wb Xw Tryz.func51 (kcC Ri (kcC CV kcN)) koN
theorem U0:Rf:=fun _=>rfl
theorem Rj:wo PR 80 Re:=wb U0 Tryz.func80 kcN koN
theorem Kt:Ht:=fun _=>rfl
theorem Hw:wo PR 79 Hs:=wb Kt Tryz.func79 kcN koN
theorem Ku:Hv:=by
 unfold Hv jgf Prod.q4;intro _;refine⟨by decide,by decide,by decide,by decide,by decide,by decide,rfl⟩
theorem Hx:wo PR 52 Hu:=wb Ku Tryz.func52 (kcC Hw (kcC Rj kcN)) koN
theorem Xx {d:DyD} (h:Ig d=false):DB d:=by
 unfold Ig at h;rw[jP] at h;exact FO h.1
end Go.X
namespace Go.X
open U
open Go.Proofs
section
attribute [local irreducible] DA il U.on Iq
end
section
attribute [local irreducible] Iq
end
section
attribute [local irreducible] gL Iq
end
end Go.X

namespace Go.X
open U
section
attribute [local irreducible] DA EI il
end
section
attribute [local irreducible] DA EI il
end
end Go.X
namespace Go.X
open U
open Go.Proofs
end Go.X

namespace Go.X
open U
theorem Xy {l:List ShD} (h:∀s∈l,0<=yc s/\yc s<=99) (s:ShD):s∈Dx l↔s∈l:=⟨Pg,fun a=>UF a (h s a).1 (h s a).2⟩
theorem jbN {d:DyD} (h:gL d=0):∀s∈kX d,0<=yc s/\yc s<=99:=fun _ a=>Kp (qL ((gx d).trans h)).1.2.2 a
theorem Hy {d:DyD} (h:gL d=0) (s:ShD):s∈PE d↔s∈kX d/\V4 s=1/\∀t∈kX d,bZ t=bZ s->yC t s=false:=by
 have hi:=fun s=>Xy (l:=kX d) (jbN h) s
 rw[(AK d).mem_iff,Hp,jL,CY,hi s];exact and_congr_right fun _=>and_congr_right fun _=>⟨fun g t a=>g t ((hi t).2 a),fun g t a=>g t ((hi t).1 a)⟩
theorem Kv (d:DyD):(PE d).Nodup:=(AK d).nodup_iff.2 (by rw[Hp];exact List.Pairwise.filter _ (FN _))
theorem jal {d:DyD} (h:gL d=0):∀a∈kX d,∀b∈kX d,yc a=yc b->a=b:=(qL ((gx d).trans h)).2
theorem Rk {d:DyD} (h:gL d=0) (q:ShD->Bool) {l:List ShD} (i:l.Nodup) (g:∀s,s∈l↔s∈PE d/\q s=true) (c:O5 VL l):(PE d).filter q=l:=by
 refine fA (UD ?_) (L.cS (List.Pairwise.filter _ (Kv d)) i fun s=> ?_) (List.Pairwise.filter _ (Nt d)) c;intro a c b f e;exact jal h a ((Hy h a).1 (jL.1 c).1).1 b ((Hy h b).1 (jL.1 f).1).1 e;rw[jL,g]
theorem U1 {d:DyD}:gL d=0↔Iq d/\∀a∈kX d,∀b∈kX d,yc a=yc b->a=b:=by
 refine⟨fun h=>qL ((gx d).trans h),fun⟨⟨c,e,f⟩,g⟩=> ?_⟩;unfold gL;rw[c,e,f,(J7 _).2 g];rfl
theorem Xz {d:DyD} {l:List ShD} (h:wE d=true) (a:l.length<=30) (b:∀s∈l,d6 (kB d).length (kC (kE d)).length s=true):wE (l4 d l)=true:=by
 have f:=vb h;show(decide ((kB d).length<=4/\1<=(wl d).length/\(wl d).length<=5/\0<=K5 d/\K5 d<=300/\0<=X5 d/\X5 d<=1440/\l.length<=30)&&
  ((wl d).all (aM (wl d).length)&&((kB d).all (iQ (wl d).length)&&l.all (d6 (kB d).length (kC (kE d)).length))))=true
 simp only[ji,jr,jV];exact⟨⟨f.1,f.2.1.1,f.2.1.2,f.2.2.1.1,f.2.2.1.2,f.2.2.2.1.1,f.2.2.2.1.2,a⟩,f.2.2.2.2.2.1,f.2.2.2.2.2.2.1,b⟩
theorem XA {d:DyD} {l:List ShD} (h:Iq d) (c:l.length<=30) (e:∀s∈l,d6 (kB d).length (kC (kE d)).length s=true) (hi:∀a∈l,∀b∈l,yc a=yc b->a=b):gL (l4 d l)=0:=
 U1.2 ⟨⟨h.1,h.2.1,Xz h.2.2 c e⟩,hi⟩
theorem U2 {d:DyD} {l:List ShD} (h:gL d=0) (j:l.length<=30) (c:∀s∈l,s∈kX d):gL (l4 d l)=0:=by
 have f:=U1.1 h;exact XA f.1 j (fun s e=>(vb f.1.2.2).2.2.2.2.2.2.2 _ (c s e)) fun a g b i=>f.2 a (c a g) b (c b i)
theorem XB {d:DyD} {l:List ShD} (h:gL d=0) (c:gL (l4 d l)=0) (a:∀s,s∈l↔s∈kX d):PE (l4 d l)=PE d:=by
 have e:(PE d).filter (fun _=>true)=PE d:=List.filter_eq_self.2 fun _ _=>rfl
 rw[<-e];refine(Rk h _ (Kv _) (fun s=> ?_) (Nt _)).symm;rw[Hy c,Hy h];refine⟨fun g=>⟨⟨(a s).1 g.1,g.2.1,fun t b=>g.2.2 t ((a t).2 b)⟩,rfl⟩,fun g=>⟨(a s).2 g.1.1,g.1.2.1,fun t b=>g.1.2.2 t ((a t).1 b)⟩⟩
theorem XC {d:DyD} {l:List ShD} (h:gL d=0) (a:gL (l4 d l)=0) (b:∀s,s∈l↔s∈kX d):PF (l4 d l)=PF d:=by
 unfold PF YY;rw[XB h a b];rfl
abbrev tNo:Ty:= .st [.int,.int]
abbrev tTa:Ty:= .st [.int,.int,.int,.int,.int,.int,.int,.int,.slice .int,.slice tNo]
abbrev tCa:Ty:= .st [.int,.int,.int]
abbrev tLg:Ty:= .st [tDy,.slice .int,.slice .int,tTa,.slice tCa]
abbrev tLn:Ty:= .st [.int,.int,.int,.int,.int,.int]
abbrev tBl:Ty:= .st [tBk,tTa,.int,.int,.slice .int,.int,.int,.bool,.int]
abbrev tBo:Ty:= .st [tLg,.map .int (.ptr tBl)]
abbrev NoD:Type:=Int×Int×Unit
abbrev TaD:Type:=Int×Int×Int×Int×Int×Int×Int×Int×List Int×List NoD×Unit
abbrev CaD:Type:=Int×Int×Int×Unit
abbrev LgD:Type:=DyD×List Int×List Int×TaD×List CaD×Unit
abbrev LnD:Type:=Int×Int×Int×Int×Int×Int×Unit
abbrev BlD:Type:=BkD×TaD×Int×Int×List Int×Int×Int×Bool×Int×Unit
abbrev XbD:Type:=Int×Int×Int×Int×Int×Int×Int×Int×Int×Int×Int×Int×Int×Int×Int×Int×Int×List Int×List (Int×Int×Unit)×Int×Int×List Int×Int×Int×Bool×Int×Unit
abbrev BoD:Type:=LgD×List (Int×Option BlD)×Unit
namespace U
def V6 (n:NoD):Int:=n.1
def Y0 (n:NoD):Int:=n.2.1
def V7 (t:TaD):Int:=t.1
def jcf (t:TaD):Int:=t.2.1
def jcg (t:TaD):Int:=t.2.2.1
def X9 (t:TaD):Int:=t.2.2.2.1
def jaQ (t:TaD):Int:=t.2.2.2.2.1
def V8 (t:TaD):Int:=t.2.2.2.2.2.1
def ja7 (t:TaD):Int:=t.2.2.2.2.2.2.1
def RZ (t:TaD):Int:=t.2.2.2.2.2.2.2.1
def aT (t:TaD):List Int:=t.2.2.2.2.2.2.2.2.1
def d9 (t:TaD):List NoD:=t.2.2.2.2.2.2.2.2.2.1
def Lw (c:CaD):Int:=c.1
def ja8 (c:CaD):Int:=c.2.1
def F6 (c:CaD):Int:=c.2.2.1
def ku (l:LgD):DyD:=l.1
def vQ (l:LgD):List Int:=l.2.1
def DC (l:LgD):List Int:=l.2.2.1
def eJ (l:LgD):TaD:=l.2.2.2.1
def kP (l:LgD):List CaD:=l.2.2.2.2.1
def nW (l:LnD):Int:=l.1
def uX (l:LnD):Int:=l.2.1
def jch (l:LnD):Int:=l.2.2.1
def jci (l:LnD):Int:=l.2.2.2.1
def VR (l:LnD):Int:=l.2.2.2.2.1
def R0 (l:LnD):Int:=l.2.2.2.2.2.1
def qi (b:BlD):BkD:=b.1
def yE (b:BlD):TaD:=b.2.1
def Od (b:BlD):Int:=b.2.2.1
def Lx (b:BlD):Int:=b.2.2.2.1
def wZ (b:BlD):List Int:=b.2.2.2.2.1
def pD (b:BlD):Int:=b.2.2.2.2.2.1
def EK (b:BlD):Int:=b.2.2.2.2.2.2.1
def sU (b:BlD):Bool:=b.2.2.2.2.2.2.2.1
def pE (b:BlD):Int:=b.2.2.2.2.2.2.2.2.1
def gO (o:BoD):LgD:=o.1
def Ir (o:BoD):List (Int×Option BlD):=o.2.1
def share (n:Int):Bool:=kj n 0 100
def Ih (last:Int) (n:NoD):Bool:=kj (V6 n) 0 (last-1)&&share (Y0 n)
def uY:Int->List NoD->Bool
 |_,[]=>true
 |last,n::r=>Ih last n&&uY (V6 n) r
def vg (t:TaD):Bool:=(kj (V7 t) 1 240&&kj (jcf t) 0 10000&&kj (jcg t) 0 20&&kj (X9 t) 0 1440&&kj (jaQ t) 0 (X9 t)&&share (V8 t)&&kj (ja7 t) 0 10000)&&
 (decide ((aT t).length=4)&&(aT t).all share&&kj (RZ t) 0 1000000&&decide ((d9 t).length<=4)&&uY 100001 (d9 t))
def iS (n:Nat) (c:CaD):Bool:=(kj (Lw c) 0 99&&kj (ja8 c) 0 ((n:Int)-1))&&kj (F6 c) (-100000) 1440
def Lf (n:Int):Bool:=kj n 0 20
def uZ (n:Int):Bool:=kj n 0 300
def ay (l:LgD):Bool:=((decide ((vQ l).length=(kB (ku l)).length)&&(vQ l).all Lf)&&(decide ((DC l).length=(kB (ku l)).length)&&(DC l).all uZ))&&
 (vg (eJ l)&&(decide ((kP l).length<=10)&&(kP l).all (iS (kB (ku l)).length)))
def gj (l:List CaD) (i:Nat):Bool:=(l.take i).any (fun x=>decide (Lw x=Lw (nth l i))&& !decide (x=nth l i))
def l9 (l:List CaD) (n:Nat):Bool:=(List.range n).any (gj l)
def vR (l:List CaD):Bool:=l9 l l.length
def wa (l:LgD):Int:=if wm (ku l)≠0 then wm (ku l) else if ay l=false then 70 else if vR (kP l)=true then 71 else 0
def up (a b:Int):Int:=(a+b-1).tdiv b
def yt (m:Int) (b:BlD):BlD:=if m<=qn (qi b)/\(sU b=false\/m<pE b) then(qi b,yE b,Od b,Lx b,wZ b,pD b,EK b,true,m,()) else b
def yw (b:BlD):Int:=max 0 (mN (qi b)-max (qn (qi b)) (X9 (yE b)))+max 0 (min (mN (qi b)) (jaQ (yE b))-qn (qi b))
def ma (b:BlD):Int:=(wZ b).length*jcf (yE b)*max (jcg (yE b)) (up (mN (qi b)-qn (qi b)) (V7 (yE b)))
def aO (b:BlD):Int:=ma b+up (ma b*V8 (yE b)*yw b) (100*(mN (qi b)-qn (qi b)))
def bP (a:Int) (b:BlD):Int:=(wZ b).length*ja7 (yE b)*a
def chargeB (a:Int) (b:BlD):BlD:=(qi b,yE b,Od b,Lx b,wZ b,aO b,bP a b,sU b,pE b,())
def ee (b:BlD) (n:NoD):Bool:=decide (V6 n<=qn (qi b)-pE b)
def R1 (b:BlD):Int:=yg (ee b) (d9 (yE b))
def wT (b:BlD):Int:=if sU b=true/\0<=R1 b then up (pD b*Y0 (nth (d9 (yE b)) (R1 b).toNat)) 100 else pD b
def qb (b:BlD):Int:=if sU b=true then 0 else EK b
def nX (b:BlD):Int:=min (RZ (yE b)) (((wT b+qb b)*nth (aT (yE b)) (iT (yV (qi b))).toNat).tdiv 100)
def qc (b:BlD):LnD:=(Lx b,Od b,wT b,qb b,nX b,wT b+qb b-nX b,())
def yF (m:Int) (b:BlD):Int:=R0 (qc (yt m b))
def EL (b:BlD):Prop:=vg (yE b)=true/\0<=qn (qi b)/\qn (qi b)<mN (qi b)/\mN (qi b)<=1440/\0<=iT (yV (qi b))/\iT (yV (qi b))<=3/\(wZ b).length<=8/\-100000<=pE b/\pE b<=1440
def pz (b:BlD):Prop:=EL b/\0<=pD b/\pD b<=100000000000000/\0<=EK b/\EK b<=1000000000
def wN (t:Int) (n:Nat):List Int:=((List.range n).filter (fun(p:Nat)=>vD t (p:Int))).map (fun(p:Nat)=>(p:Int))
def sN (l:LgD) (n:Int) (tm:List Int):BlD:=(nth (kB (ku l)) n.toNat,eJ l,n,nth (vQ l) n.toNat,tm,0,0,false,0,())
def wM (l:LgD) (n:Int) (k:Nat):List Int:=wN (nth (b7 (ku l)) n.toNat) k
def ir (l:LgD) (n:Int):BlD:=chargeB (nth (DC l) n.toNat) (sN l n (wM l n (kC (kE (ku l))).length))
def sO (n:Int) (b:BlD) (c:CaD):BlD:=if ja8 c=n then yt (F6 c) b else b
def kD (l:LgD) (n:Int) (k:Nat):BlD:=((kP l).take k).foldl (sO n) (ir l n)
def kY (l:LgD) (n:Int):BlD:=kD l n (kP l).length
def jaR (l:LgD) (m:List (Int×Option BlD)) (n:Int):List (Int×Option BlD):=eK .int n (some (kY l n)) m
def Aq (l:LgD) (k:Nat):List (Int×Option BlD):=((kk (ku l)).take k).foldl (jaR l) []
def Lg (l:LgD):List (Int×Option BlD):=Aq l (kk (ku l)).length
def zDy:DyD:=((0,[],[],()),[],[],0,0,[],())
def zTa:TaD:=(0,0,0,0,0,0,0,0,[],[],())
def zLg:LgD:=(zDy,[],[],zTa,[],())
def jde:BoD:=(zLg,[],())
def wC (l:LgD) (kH:Bool):Int:=if wa l≠0 then wa l else if kH=true then 0 else 1
def kA (l:LgD) (kH:Bool):BoD:=if wC l kH=0 then(l,Lg l,()) else jde
def wW (o:BoD) (n:Int):Bool:=kj n 0 (((kB (ku (gO o))).length:Int)-1)
def qK (m:List (Int×Option BlD)):List LnD:=m.map (fun e=>match e.2 with|some b=>qc b|none=>default)
def uq (a b:LnD):Int:=vY [bQ (nW a) (nW b),bQ (uX a) (uX b)]
def ky (o:BoD):List LnD:=km (ko tLn fun x=>(uq x.1 x.2.1,())) (qK (Ir o))
def yL (l:List Int):Int:=l.foldl max (nth l 0)
def Ya (t:List Int) (x:LnD):List Int:=t.set (nW x).toNat (nth t (nW x).toNat+R0 x)
def gm (n:Nat) (l:List LnD) (k:Nat):List Int:=(l.take k).foldl Ya (List.replicate n 0)
def qQ (o:BoD):List Int:=if(vQ (gO o)).length=0 then[] else gm (yL (vQ (gO o))+1).toNat (ky o) (ky o).length
def mP (a:Int) (tm:List Int) (out:List Int) (i:Nat):List Int:=out.set (nth tm i).toNat (nth out (nth tm i).toNat+a.tdiv tm.length+(if(i:Int)<a.tmod tm.length then 1 else 0))
def wh (a:Int) (tm out:List Int) (k:Nat):List Int:=(List.range k).foldl (mP a tm) out
def Yb (a:Int) (b:BlD) (out:List Int):List Int:=wh a (wZ b) out (wZ b).length
def R2 (n:Nat):Option BlD->List Int
 |some b=>Yb (qb b) b (Yb (wT b) b (List.replicate n 0))
 |none=>List.replicate n 0
def Oe (o:BoD) (n:Int):Option BlD:=kW none (kL .int n (Ir o))
def vi (o:BoD) (n:Int):List Int:=R2 (kC (kE (ku (gO o)))).length (Oe o n)
end U
theorem XD {a b A B:Int} (d:0<=a/\a<=A) (c:0<=b/\b<=B):0<=a*b/\a*b<=A*B:=
 ⟨Int.mul_nonneg d.1 c.1,Int.mul_le_mul d.2 c.2 c.1 (by omega)⟩
theorem C6 {x B:Int} (h:0<=x/\x<=B) (a:B<=9223372036854775807):kM x:=iZ6
theorem jcV {a b:Int} (c:0<=a) (d:0<b):U.up a b=(a+b-1)/b:=Int.tdiv_eq_ediv_of_nonneg (by omega)
theorem U3 {a b:Int} (e:0<=a) (c:0<b):0<=U.up a b/\U.up a b<=a:=by
 rw[jcV e c];refine⟨Int.ediv_nonneg (by omega) (by omega),?_⟩;by_cases h:a=0;subst h;rw[Int.ediv_eq_zero_of_lt (by omega) (by omega)];omega;have g:0<=(a-1)*(b-1):=Int.mul_nonneg (by omega) (by omega);have d:a+b-1<(a+1)*b:=by
  have f:(a+1)*b=a*b+b:=(by rw[Int.add_mul];omega);have e2:(a-1)*(b-1)=a*b-a-b+1:=(by rw[Int.sub_mul,Int.mul_sub];omega);omega
 have:=Int.ediv_lt_of_lt_mul c d;omega
theorem XE {a b A:Int} (c:0<=a/\a<=A) (f:0<b):0<=a.tdiv b/\a.tdiv b<=A:=by
 rw[Int.tdiv_eq_ediv_of_nonneg c.1];have d:=Int.ediv_nonneg c.1 (show 0<=b by omega);have e:=Int.ediv_le_self b c.1;exact⟨d,by omega⟩
theorem qx {n a b:Int}:kj n a b=true↔a<=n/\n<=b:=by
 unfold kj;simp only[ji,jr]
structure jcW (t:TaD):Prop where
 un:1<=V7 t/\V7 t<=240
 rt:0<=jcf t/\jcf t<=10000
 le:0<=jcg t/\jcg t<=20
 dk:0<=X9 t/\X9 t<=1440
 dw:0<=jaQ t/\jaQ t<=X9 t
 ni:0<=V8 t/\V8 t<=100
 mi:0<=ja7 t/\ja7 t<=10000
 sl:(aT t).length=4
 sb:∀n∈aT t,0<=n/\n<=100
 cp:0<=RZ t/\RZ t<=1000000
 nl:(d9 t).length<=4
 no:uY 100001 (d9 t)=true
theorem Pn {t:TaD}:vg t=true↔jcW t:=by
 unfold vg U.share;simp only[ji,qx,jr,jV];constructor;rintro⟨⟨⟨⟨⟨⟨⟨d,e⟩,f⟩,g⟩,h⟩,i⟩,j⟩,⟨⟨⟨k,l⟩,a⟩,b⟩,c⟩;exact⟨d,e,f,g,h,i,j,k,l,a,b,c⟩;rintro⟨d,e,f,g,h,i,j,k,l,a,b,c⟩;exact⟨⟨⟨⟨⟨⟨⟨d,e⟩,f⟩,g⟩,h⟩,i⟩,j⟩,⟨⟨⟨k,l⟩,a⟩,b⟩,c⟩
theorem Hz:∀{last:Int} {l:List NoD},uY last l=true->∀n∈l,(0<=V6 n/\V6 n<=last-1)/\0<=Y0 n/\Y0 n<=100
 |_,[],_,n,a=>by cases a
 |last,m::r,h,n,a=>by
  unfold uY Ih U.share at h
  simp only[ji,qx] at h
  obtain⟨⟨b,c⟩,d⟩:=h
  rcases jk.1 a with rfl|a
  exact⟨b,c⟩
  have:=Hz d n a
  exact⟨⟨this.1.1,by omega⟩,this.2⟩
structure C7 (b:BlD):Prop where
 ta:jcW (yE b)
 st:0<=qn (qi b)
 en:qn (qi b)<mN (qi b)
 e2:mN (qi b)<=1440
 kd:0<=iT (yV (qi b))/\iT (yV (qi b))<=3
 tm:(wZ b).length<=8
 mi: -100000<=pE b/\pE b<=1440
theorem sn {b:BlD}:EL b↔C7 b:=by
 unfold EL;rw[Pn];exact⟨fun⟨a,c,d,e,f,g,h,i,j⟩=>⟨a,c,d,e,⟨f,g⟩,h,⟨i,j⟩⟩,fun⟨a,c,d,e,⟨f,g⟩,h,⟨i,j⟩⟩=>⟨a,c,d,e,f,g,h,i,j⟩⟩
theorem Po {b:BlD} (h:C7 b):0<=yw b/\yw b<=2880:=by
 have:=h.st;have:=h.en;have:=h.e2;have:=h.ta.dk;have:=h.ta.dw;unfold yw;omega
theorem jbO {b:BlD} (h:C7 b):0<=U.up (mN (qi b)-qn (qi b)) (V7 (yE b))/\U.up (mN (qi b)-qn (qi b)) (V7 (yE b))<=1440:=by
 have:=h.st;have:=h.en;have:=h.e2;have:=h.ta.un;have:=U3 (a:=mN (qi b)-qn (qi b)) (b:=V7 (yE b)) (by omega) (by omega);omega
theorem jbP {b:BlD} (h:C7 b):0<=((wZ b).length:Int)*jcf (yE b)/\((wZ b).length:Int)*jcf (yE b)<=80000:=
 XD (A:=8) (B:=10000) (by have:=h.tm;omega) h.ta.rt
theorem Nw {b:BlD} (h:C7 b):0<=ma b/\ma b<=115200000:=by
 have c:=jbO h;have d:=h.ta.le;have a:0<=max (jcg (yE b)) (U.up (mN (qi b)-qn (qi b)) (V7 (yE b)))/\max (jcg (yE b)) (U.up (mN (qi b)-qn (qi b)) (V7 (yE b)))<=1440:=(by omega);exact XD (jbP h) a
theorem jbQ {b:BlD} (h:C7 b):0<=ma b*V8 (yE b)/\ma b*V8 (yE b)<=11520000000:=XD (Nw h) h.ta.ni
theorem YP {b:BlD} (h:C7 b):0<=ma b*V8 (yE b)*yw b/\ma b*V8 (yE b)*yw b<=33177600000000:=XD (jbQ h) (Po h)
theorem jbR {b:BlD} (h:C7 b):0<100*(mN (qi b)-qn (qi b))/\100*(mN (qi b)-qn (qi b))<=144000:=by
 have:=h.st;have:=h.en;have:=h.e2;omega
theorem jbS {b:BlD} (h:C7 b):0<=U.up (ma b*V8 (yE b)*yw b) (100*(mN (qi b)-qn (qi b)))/\U.up (ma b*V8 (yE b)*yw b) (100*(mN (qi b)-qn (qi b)))<=33177600000000:=by
 have a:=YP h;have:=U3 a.1 (jbR h).1;omega
theorem U4 {b:BlD} (h:C7 b):0<=aO b/\aO b<=100000000000000:=by
 have a:=Nw h;have c:=jbS h;unfold aO;omega
theorem jbT {b:BlD} (h:C7 b):0<=((wZ b).length:Int)*ja7 (yE b)/\((wZ b).length:Int)*ja7 (yE b)<=80000:=
 XD (A:=8) (B:=10000) (by have:=h.tm;omega) h.ta.mi
theorem U5 {b:BlD} {t:Int} (h:C7 b) (a:0<=t/\t<=300):0<=bP t b/\bP t b<=24000000:=XD (jbT h) a
theorem Kw {α:Type} [Inhabited α] {p:α->Bool} {l:List α} (h:0<=yg p l):(yg p l).toNat<l.length/\yg p l<(l.length:Int)/\p (nth l (yg p l).toNat)=true:=by
 unfold yg at h⊢;cases e:l.findIdx? p with
 |none=>rw[e] at h;exact absurd h (by decide)
 |some i=>
  obtain⟨a,b,_⟩:=zZ.1 e;simp only[ju];refine⟨a,by omega,?_⟩;rw[L.wD a];exact b
structure Io (b:BlD):Prop where
 bl:C7 b
 wk:0<=pD b/\pD b<=100000000000000
 tr:0<=EK b/\EK b<=1000000000
theorem gT {b:BlD}:pz b↔Io b:=by
 unfold pz;rw[sn];exact⟨fun⟨a,c,d,e,f⟩=>⟨a,⟨c,d⟩,⟨e,f⟩⟩,fun⟨a,⟨c,d⟩,⟨e,f⟩⟩=>⟨a,c,d,e,f⟩⟩
theorem Pp {b:BlD} (h:Io b) {i:Nat} (hi:i<(d9 (yE b)).length):0<=pD b*Y0 (nth (d9 (yE b)) i)/\pD b*Y0 (nth (d9 (yE b)) i)<=10000000000000000:=
 XD h.wk (Hz h.bl.ta.no _ (L.kw hi)).2
theorem AM {b:BlD} (h:Io b):0<=wT b/\wT b<=10000000000000000:=by
 unfold wT
 split
 rename_i c;have a:=Pp h (Kw c.2).1;have:=U3 (b:=100) a.1 (by omega);have e:U.up (pD b*Y0 (nth (d9 (yE b)) (R1 b).toNat)) 100<=pD b*Y0 (nth (d9 (yE b)) (R1 b).toNat):=this.2;exact⟨this.1,Int.le_trans e a.2⟩;have:=h.wk;omega
theorem AN {b:BlD} (h:Io b):0<=qb b/\qb b<=1000000000:=by
 unfold qb;have:=h.tr
 split<;>omega
theorem U6 {b:BlD} (h:C7 b):(iT (yV (qi b))).toNat<(aT (yE b)).length:=by
 have:=h.kd;have:=h.ta.sl;omega
theorem U7 {b:BlD} (h:C7 b):0<=nth (aT (yE b)) (iT (yV (qi b))).toNat/\nth (aT (yE b)) (iT (yV (qi b))).toNat<=100:=h.ta.sb _ (L.kw (U6 h))
theorem Nx {w t cp pc k:Int} {n:Nat} {R:Prop} (i:0<=w/\w<=10000000000000000) (h:0<=t/\t<=1000000000) (g:0<=cp/\cp<=1000000) (e:0<=pc/\pc<=100) (hk:0<=k) (d:k<(n:Int)) (c:R):
 kM (w+t)/\0<=k/\k<(n:Int)/\kM ((w+t)*pc)/\(100:Int)≠0/\kM (((w+t)*pc).tdiv 100)/\kM (w+t)/\kM (w+t-min cp (((w+t)*pc).tdiv 100))/\R:=by
 have a:0<=(w+t)*pc/\(w+t)*pc<=10000001000000000*100:=XD (by omega) e;have f:=XE (b:=100) a (by omega);exact⟨iZ6,hk,d,iZ6,by decide,iZ6,iZ6,iZ6,c⟩
theorem XF {b:BlD} {m:Int} (h:C7 b) (a: -100000<=m/\m<=1440):C7 (yt m b):=by
 unfold yt
 split
 exact⟨h.ta,h.st,h.en,h.e2,h.kd,h.tm,a⟩;exact h
theorem HA {b:BlD} {m:Int} (h:Io b) (a: -100000<=m/\m<=1440):Io (yt m b):=by
 refine⟨XF h.bl a,?_,?_⟩;unfold yt
 split
 exact h.wk;exact h.wk;unfold yt
 split
 exact h.tr;exact h.tr
theorem Pq {β:Type} (k:Int) (v:β):∀m:List (Int×β),k∉m.map (·.1)->eK .int k v m=m++[(k,v)]
 |[],_=>rfl
 |e::r,h=>by
  have a:k≠e.1:=fun e2=>h (by rw[e2];simp)
  have b:k∉r.map (·.1):=fun d=>h (by simp only[zt];exact jo _ d)
  rw[M.mput_cons (kt:= .int),jc (fun c=>a (ja c)),Pq k v r b];rfl
theorem Ny (d:DyD) (n:Nat):(yR d n).Nodup:=by
 unfold yR;exact zL.2 ((List.nodup_range.filter _).imp fun h e=>h (by omega))
theorem mI (d:DyD):(kk d).Nodup:=by
 unfold kk
 split
 exact Ny d _;exact List.nodup_nil
theorem HB {d:DyD} {n:Int} (h:n∈kk d):0<=n/\n<((kB d).length:Int):=by
 unfold kk at h
 split at h
 unfold yR at h;obtain⟨b,a,rfl⟩:=jS.1 h;have:=jC.1 (jL.1 a).1;omega;cases h
theorem Kx {l:LgD} {k:Nat} (h:k<(kk (ku l)).length):Aq l (k+1)=jaR l (Aq l k) (nth (kk (ku l)) k):=by
 unfold Aq;rw[L.k8 h,jT];rfl
theorem U8 (l:LgD):∀k,k<=(kk (ku l)).length->Aq l k=((kk (ku l)).take k).map (fun n=>(n,some (kY l n)))
 |0,_=>rfl
 |k+1,hk=>by
  have a:k<(kk (ku l)).length:=by omega
  have d:=L.k8 a
  have b:((kk (ku l)).take (k+1)).Nodup:=(mI _).sublist (List.take_sublist _ _)
  rw[d,zF] at b
  rw[Kx a,U8 l k (by omega),d,zv]
  unfold jaR
  refine Pq _ _ _ fun c=> ?_
  rw[List.map_map] at c
  obtain⟨x,f,e⟩:=jS.1 c
  have e:x=nth (kk (ku l)) k:=e
  exact b.2.2 x f _ (by simp) e
theorem C8 (l:LgD):Lg l=(kk (ku l)).map (fun n=>(n,some (kY l n))):=by
 unfold Lg;rw[U8 l _ (jj _),zD]
structure xP (l:LgD):Prop where
 cp:wm (ku l)=0
 crw:kU (kE (ku l))=true
 jbs:K6 (ku l)=true
 dy:wE (ku l)=true
 py:(vQ l).length=(kB (ku l)).length/\∀n∈vQ l,0<=n/\n<=20
 tr:(DC l).length=(kB (ku l)).length/\∀n∈DC l,0<=n/\n<=300
 ta:jcW (eJ l)
 cl:(kP l).length<=10/\∀c∈kP l,(0<=Lw c/\Lw c<=99)/\(0<=ja8 c/\ja8 c<=((kB (ku l)).length:Int)-1)/\-100000<=F6 c/\F6 c<=1440
 cc:vR (kP l)=false
theorem Rm {d:DyD} (h:wm d=0):kU (kE d)=true/\K6 d=true/\wE d=true:=by
 unfold wm at h
 split at h
 rename_i a;exact absurd h a;rename_i a
 split at h
 cases h;rename_i b;have a:uo d=0:=jM.1 a;unfold uo at a
 split at a
 cases a;rename_i c
 split at a
 cases a;rename_i e;exact⟨by simpa using c,by simpa using e,by simpa using b⟩
theorem fR {l:LgD} (h:wa l=0):xP l:=by
 unfold wa at h
 split at h
 rename_i a;exact absurd h a;rename_i a;have a:wm (ku l)=0:=jM.1 a
 split at h
 cases h;rename_i b
 split at h
 cases h;rename_i d;have b:ay l=true:=(by simpa using b);have d:vR (kP l)=false:=(by simpa using d);obtain⟨p,q,r⟩:=Rm a;unfold ay at b;simp only[ji,jr,jV] at b;obtain⟨⟨⟨f,g⟩,i,j⟩,k,m,o⟩:=b;refine⟨a,p,q,r,⟨f,fun n e=>qx.1 (g n e)⟩,⟨i,fun n e=>qx.1 (j n e)⟩,Pn.1 k,⟨m,fun c s=> ?_⟩,d⟩;have:=o c s;unfold iS at this;simp only[ji,qx] at this;exact⟨this.1.1,this.1.2,this.2⟩
theorem Ky {l:LgD} (h:xP l) {n:Int} (e:0<=n/\n<((kB (ku l)).length:Int)):
 (0<=qn (nth (kB (ku l)) n.toNat)/\qn (nth (kB (ku l)) n.toNat)<mN (nth (kB (ku l)) n.toNat)/\mN (nth (kB (ku l)) n.toNat)<=1440)/\
 0<=iT (yV (nth (kB (ku l)) n.toNat))/\iT (yV (nth (kB (ku l)) n.toNat))<=3:=by
 have d:nth (kB (ku l)) n.toNat∈kB (ku l):=L.kw (by omega);have c:=h.dy;unfold wE at c;simp only[ji,jV] at c;have b:=c.2.2.1 _ d;unfold iQ at b;have b:=ja b;have a:=h.jbs;unfold K6 at a;have a:=jV.1 a _ d;unfold wY at a;have a:=ja a;exact⟨⟨b.2.2.1,b.2.2.2.1,b.2.2.2.2⟩,a.2.2.2.2.2.2.2.2.2.1,a.2.2.2.2.2.2.2.2.2.2.1⟩
theorem Pr {l:LgD} (h:xP l) {n:Int} (e:0<=n/\n<((kB (ku l)).length:Int)) {tm:List Int} (f:tm.length<=8):C7 (sN l n tm):=by
 obtain⟨⟨a,b,c⟩,d⟩:=Ky h e;exact⟨h.ta,a,b,c,d,f,by show-100000<=(0:Int)/\(0:Int)<=1440;omega⟩
theorem so (t:Int) (n:Nat):(wN t n).length<=n/\∀p∈wN t n,0<=p/\p<(n:Int):=by
 unfold wN;refine⟨?_,fun p c=> ?_⟩;rw[zr];exact jE (z8 _ _) (by rw[zG];exact jj _);obtain⟨b,a,rfl⟩:=jS.1 c;have:=jC.1 (jL.1 a).1;omega
theorem jcA {l:LgD} (h:xP l):(kC (kE (ku l))).length<=8:=by
 have a:=h.crw;unfold kU at a;rw[ji] at a;exact(ja a.1).2.2.1
theorem Ps {l:LgD} (h:xP l) {n:Int} (d:0<=n/\n<((kB (ku l)).length:Int)):Io (ir l n):=by
 have g:=jcA h;have f:=(so (nth (b7 (ku l)) n.toNat) (kC (kE (ku l))).length).1;have a:C7 (sN l n (wM l n (kC (kE (ku l))).length)):=Pr h d (by unfold wM;omega);have e:=h.tr.2 _ (L.kw (show n.toNat<(DC l).length by rw[h.tr.1];omega));have c:=U4 a;have b:=U5 a e;exact⟨⟨a.ta,a.st,a.en,a.e2,a.kd,a.tm,a.mi⟩,c,⟨b.1,Int.le_trans b.2 (by decide)⟩⟩
theorem ct {l:LgD} {n:Int} {k:Nat} (h:k<(kP l).length):kD l n (k+1)=sO n (kD l n k) (nth (kP l) k):=by
 unfold kD;rw[L.k8 h,jT];rfl
theorem FP {l:LgD} (h:xP l) {n:Int} (a:0<=n/\n<((kB (ku l)).length:Int)):∀k,k<=(kP l).length->Io (kD l n k)
 |0,_=>Ps h a
 |k+1,hk=>by
  rw[ct (by omega)]
  unfold sO
  have b:=FP h a k (by omega)
  split
  exact HA b (h.cl.2 _ (L.kw (show k<(kP l).length by omega))).2.2
  exact b
theorem Kz {l:LgD} (h:xP l) {n:Int} (a:0<=n/\n<((kB (ku l)).length:Int)):Io (kY l n):=FP h a _ (jj _)
theorem Rn (m:Int) (b:BlD):qi (yt m b)=qi b/\yE (yt m b)=yE b/\Od (yt m b)=Od b/\Lx (yt m b)=Lx b/\wZ (yt m b)=wZ b/\pD (yt m b)=pD b/\EK (yt m b)=EK b:=by
 unfold yt
 split
 exact⟨rfl,rfl,rfl,rfl,rfl,rfl,rfl⟩;exact⟨rfl,rfl,rfl,rfl,rfl,rfl,rfl⟩
theorem qv (l:LgD) (n:Int):∀k,k<=(kP l).length->qi (kD l n k)=qi (ir l n)/\yE (kD l n k)=yE (ir l n)/\Od (kD l n k)=Od (ir l n)/\Lx (kD l n k)=Lx (ir l n)/\wZ (kD l n k)=wZ (ir l n)/\
 pD (kD l n k)=pD (ir l n)/\EK (kD l n k)=EK (ir l n)
 |0,_=>⟨rfl,rfl,rfl,rfl,rfl,rfl,rfl⟩
 |k+1,hk=>by
  rw[ct (by omega)]
  unfold sO
  have a:=qv l n k (by omega)
  split
  obtain⟨c1,c2,b,c,d,e,f⟩:=Rn (F6 (nth (kP l) k)) (kD l n k)
  rw[c1,c2,b,c,d,e,f];exact a
  exact a
open Go.Proofs
abbrev blS:Sh:= .box 98 [.dat .int,.dat .int,.dat .int,.dat .int,.dat .int,.dat .int,.dat .int,.dat .int,.dat .int,.dat .int,.dat .int,.dat .int,.dat .int,.dat .int,.dat .int,.dat .int,.dat .int,.dat (.slice .int),.dat (.slice tNo),.dat .int,.dat .int,.dat (.slice .int),.dat .int,.dat .int,.dat .bool,.dat .int]
def blX (x:Sh.D blS) (w t:Int) (c:Bool) (m:Int):Sh.D blS:=(x.1,x.2.1,x.2.2.1,x.2.2.2.1,x.q4.1,x.q4.2.1,x.q4.2.2.1,x.q4.2.2.2.1,x.q4.q4.1,x.q4.q4.2.1,x.q4.q4.2.2.1,x.q4.q4.2.2.2.1,x.q4.q4.q4.1,x.q4.q4.q4.2.1,x.q4.q4.q4.2.2.1,x.q4.q4.q4.2.2.2.1,x.q4.q4.q4.q4.1,x.q4.q4.q4.q4.2.1,x.q4.q4.q4.q4.2.2.1,x.q4.q4.q4.q4.2.2.2.1,x.q4.q4.q4.q4.q4.1,x.q4.q4.q4.q4.q4.2.1,w,t,c,m,())
namespace U
def qo (x:Sh.D blS):BlD:=
 (((x.1,x.2.1,x.2.2.1,x.2.2.2.1,x.q4.1,x.q4.2.1,()),x.q4.2.2.1,x.q4.2.2.2.1,x.q4.q4.1,()),
  (x.q4.q4.2.1,x.q4.q4.2.2.1,x.q4.q4.2.2.2.1,x.q4.q4.q4.1,x.q4.q4.q4.2.1,x.q4.q4.q4.2.2.1,x.q4.q4.q4.2.2.2.1,x.q4.q4.q4.q4.1,x.q4.q4.q4.q4.2.1,x.q4.q4.q4.q4.2.2.1,()),
  x.q4.q4.q4.q4.2.2.2.1,x.q4.q4.q4.q4.q4.1,x.q4.q4.q4.q4.q4.2.1,x.q4.q4.q4.q4.q4.2.2.1,x.q4.q4.q4.q4.q4.2.2.2.1,x.q4.q4.q4.q4.q4.q4.1,x.q4.q4.q4.q4.q4.q4.2.1,())
def VS (m:Int) (b:BlD):Bool:=sU (yt m b)
def VT (m:Int) (b:BlD):Int:=pE (yt m b)
def VU (m:Int) (c:CaD):Bool:=(kj (Lw c) 0 99&&kj (ja8 c) 0 (m-1))&&kj (F6 c) (-100000) 1440
end U
def gJ:we:=⟨[.val .int,.val .int,.val .int],[.bool],false,fun _=>[],fun d=>(kj d.1 d.2.1 d.2.2.1,())⟩
def Nz:Prop:=∀(d:CaD),(decide (d.2.1<=d.1)&&decide (d.1<=d.2.2.1),())=(kj d.1 d.2.1 d.2.2.1,())
def bg:we:=⟨[.val .int],[.bool],false,fun _=>[],fun d=>(U.share d.1,())⟩
def Ro:Prop:=∀(d:Int×Unit),(kj d.1 (0:Int) (100:Int),())=(U.share d.1,())
def iK:we:=⟨[.val (.slice tNo),.fn [tNo] [.bool]],[.int],false,fun d=>[∀g∈d.1,kG (d.2.1.pre (g,()))],fun d=>(yg (kl (α:=NoD) d.2.1.F) d.1,())⟩
def iL:Ann:=fun r=>match r with
 |2=>some fun σ=>{X:=Nat,sl:=fun i=>[(8,.dat .int (i:Int))],ob:=fun _=>[],inv:=fun i=>i<=(gd (.slice tNo) σ 0).length/\∀b:Nat,b<i->kl (gfb tNo σ 1) (nth (gd (.slice tNo) σ 0) b)=false,mu:=fun i=>(gd (.slice tNo) σ 0).length-i}
 |_=>none
def iM:Prop:=∀(d:List (Int×Int×Unit)×FnD [tNo] [Ty.bool]×Unit),(∀(g:Int×Int×Unit),g∈d.1->kG (d.2.1.1 (g,())))->d.1.length<4611686018427387904->(∃(x:Nat),((0=(x:Int)/\True)/\True)/\x<=d.1.length/\∀(b:Nat),b<x->kl d.2.1.2 (nth d.1 b)=false)/\∀(x:Nat),(x<=d.1.length/\∀(b:Nat),b<x->kl d.2.1.2 (nth d.1 b)=false)->(decide ((x:Int)<d.1.length)=true->0<=(x:Int)/\(x:Int)<d.1.length/\asks (d.2.1.1 (nth d.1 x,())) (((d.2.1.2 (nth d.1 x,())).1=true->((x:Int),())=(yg (kl d.2.1.2) d.1,()))/\((d.2.1.2 (nth d.1 x,())).1=false->kM ((x:Int)+1)/\∃(a:Nat),(((x:Int)+1=(a:Int)/\True)/\True)/\(a<=d.1.length/\∀(b:Nat),b<a->kl d.2.1.2 (nth d.1 b)=false)/\d.1.length-a<d.1.length-x)))/\(decide ((x:Int)<d.1.length)=false->((-1:Int),())=(yg (kl d.2.1.2) d.1,()))
def nr:we:=⟨[.val (.slice tCa),.fn [tCa] [.bool]],[.int],false,fun d=>[∀g∈d.1,kG (d.2.1.pre (g,()))],fun d=>(yg (kl (α:=CaD) d.2.1.F) d.1,())⟩
def nu:Ann:=fun r=>match r with
 |2=>some fun σ=>{X:=Nat,sl:=fun i=>[(8,.dat .int (i:Int))],ob:=fun _=>[],inv:=fun i=>i<=(gd (.slice tCa) σ 0).length/\∀b:Nat,b<i->kl (gfb tCa σ 1) (nth (gd (.slice tCa) σ 0) b)=false,mu:=fun i=>(gd (.slice tCa) σ 0).length-i}
 |_=>none
def nv:Prop:=∀(d:List CaD×FnD [tCa] [Ty.bool]×Unit),(∀(g:CaD),g∈d.1->kG (d.2.1.1 (g,())))->d.1.length<4611686018427387904->(∃(x:Nat),((0=(x:Int)/\True)/\True)/\x<=d.1.length/\∀(b:Nat),b<x->kl d.2.1.2 (nth d.1 b)=false)/\∀(x:Nat),(x<=d.1.length/\∀(b:Nat),b<x->kl d.2.1.2 (nth d.1 b)=false)->(decide ((x:Int)<d.1.length)=true->0<=(x:Int)/\(x:Int)<d.1.length/\asks (d.2.1.1 (nth d.1 x,())) (((d.2.1.2 (nth d.1 x,())).1=true->((x:Int),())=(yg (kl d.2.1.2) d.1,()))/\((d.2.1.2 (nth d.1 x,())).1=false->kM ((x:Int)+1)/\∃(a:Nat),(((x:Int)+1=(a:Int)/\True)/\True)/\(a<=d.1.length/\∀(b:Nat),b<a->kl d.2.1.2 (nth d.1 b)=false)/\d.1.length-a<d.1.length-x)))/\(decide ((x:Int)<d.1.length)=false->((-1:Int),())=(yg (kl d.2.1.2) d.1,()))
def fS:we:=⟨[.val (.slice tCa),.fn [tCa] [.bool]],[.bool],false,fun d=>[∀g∈d.1,kG (d.2.1.pre (g,()))],fun d=>(d.1.any (kl (α:=CaD) d.2.1.F),())⟩
def fT:Prop:=∀(d:List CaD×FnD [tCa] [Ty.bool]×Unit),(∀(g:CaD),g∈d.1->kG (d.2.1.1 (g,())))->(∀(g:CaD),g∈d.1->kG (d.2.1.1 (g,())))/\(decide (0<=yg (kl d.2.1.2) d.1),())=(d.1.any (kl d.2.1.2),())
def xQ:we:=⟨[.val .int,.rfn [.int] [.bool]],[.bool],false,fun d=>[kG (d.2.1.pre (d.1,()))],fun d=>(!(kl (α:=Int) d.2.1.F d.1),())⟩
def xR:Prop:=∀(d:Int×FnD [Ty.int] [Ty.bool]×Unit),kG (d.2.1.1 (d.1,()))->asks (d.2.1.1 (d.1,())) ((!(d.2.1.2 (d.1,())).1,())=(!kl d.2.1.2 d.1,()))
def cL:we:=⟨[.val (.slice .int),.fn [.int] [.bool]],[.bool],false,fun d=>[∀g∈d.1,kG (d.2.1.pre (g,()))],fun d=>(d.1.all (kl (α:=Int) d.2.1.F),())⟩
def Ej:Prop:=∀(d:List Int×FnD [Ty.int] [Ty.bool]×Unit),(∀(g:Int),g∈d.1->kG (d.2.1.1 (g,())))->(∀(g:Int),g∈d.1->kG [kG (d.2.1.1 (g,()))])/\(!d.1.any (kl fun(a:Int×Unit)=>(!kl d.2.1.2 a.1,())),())=(d.1.all (kl d.2.1.2),())
def ub:we:=⟨[.val tCa,.rfn [tCa] [.bool]],[.bool],false,fun d=>[kG (d.2.1.pre (d.1,()))],fun d=>(!(kl (α:=CaD) d.2.1.F d.1),())⟩
def uc:Prop:=∀(d:CaD×FnD [tCa] [Ty.bool]×Unit),kG (d.2.1.1 (d.1,()))->asks (d.2.1.1 (d.1,())) ((!(d.2.1.2 (d.1,())).1,())=(!kl d.2.1.2 d.1,()))
def C9:we:=⟨[.val (.slice tCa),.fn [tCa] [.bool]],[.bool],false,fun d=>[∀g∈d.1,kG (d.2.1.pre (g,()))],fun d=>(d.1.all (kl (α:=CaD) d.2.1.F),())⟩
def Da:Prop:=∀(d:List CaD×FnD [tCa] [Ty.bool]×Unit),(∀(g:CaD),g∈d.1->kG (d.2.1.1 (g,())))->(∀(g:CaD),g∈d.1->kG [kG (d.2.1.1 (g,()))])/\(!d.1.any (kl fun(a:CaD×Unit)=>(!kl d.2.1.2 a.1,())),())=(d.1.all (kl d.2.1.2),())
def KA:we:=⟨[.val tCa,.ref .int],[.bool],false,fun d=>[0<=d.2.1,d.2.1<=4611686018427387904],fun d=>(VU d.2.1 d.1,())⟩
def KB:Prop:=∀(d:CaD×Int×Unit),0<=d.2.1->d.2.1<=4611686018427387904->(kj d.1.1 (0:Int) 99=true->kM (d.2.1-1))/\(kj d.1.1 (0:Int) (99:Int)&&kj d.1.2.1 (0:Int) (d.2.1-1)&&kj d.1.2.2.1 (-100000:Int) (1440:Int),())=(VU d.2.1 d.1,())
def KC:we:=⟨[.val .int],[.bool],false,fun _=>[],fun d=>(Lf d.1,())⟩
def KE:Prop:=∀(d:Int×Unit),(kj d.1 (0:Int) (20:Int),())=(Lf d.1,())
def KF:we:=⟨[.val .int],[.bool],false,fun _=>[],fun d=>(uZ d.1,())⟩
def KG:Prop:=∀(d:Int×Unit),(kj d.1 (0:Int) (300:Int),())=(uZ d.1,())
def jam:we:=⟨[.val .int,.val .int],[.int],false,fun d=>[0<=d.1,0<d.2.1,d.1<=4611686018427387904,d.2.1<=1000000000],fun d=>(U.up d.1 d.2.1,())⟩
def jan:Prop:=∀(d:Int×Int×Unit),0<=d.1->0<d.2.1->d.1<=4611686018427387904->d.2.1<=1000000000->kM (d.1+d.2.1)/\kM (d.1+d.2.1-1)/\d.2.1≠0/\kM ((d.1+d.2.1-1).tdiv d.2.1)/\((d.1+d.2.1-1).tdiv d.2.1,())=(U.up d.1 d.2.1,())
def NA:we:=⟨[.val tBo],[.bool],false,fun _=>[],fun _=>(true,())⟩
def NB:Prop:=∀(_:BoD×Unit),(true,())=(true,())
def sq:we:=⟨[.val tBo,.val .int],[.bool],false,fun d=>[(kB (ku (gO d.1))).length<=100],fun d=>(wW d.1 d.2.1,())⟩
def sr:Prop:=∀(d:BoD×Int×Unit),(kB (ku (gO d.1))).length<=100->d.1.1.1.2.2.1.length<4611686018427387904->kM ((d.1.1.1.2.2.1.length:Int)-1)/\(kj d.2.1 (0:Int) ((d.1.1.1.2.2.1.length:Int)-1),())=(wW d.1 d.2.1,())
def Db:we:=⟨[.ref tBl],[.int],false,fun d=>[EL d.1],fun d=>(yw d.1,())⟩
abbrev jgS (d:BlD×Unit):=(min d.1.1.2.2.2.1 d.1.2.1.q4.1-d.1.1.2.2.1)
abbrev jgT (d:BlD×Unit):=(d.1.1.2.2.2.1-max d.1.1.2.2.1 d.1.2.1.2.2.2.1)
def Dc:Prop:=∀(d:BlD×Unit),EL d.1->kM (jgT d)/\kM (jgS d)/\kM (max (0:Int) (jgT d)+max (0:Int) (jgS d))/\(max (0:Int) (jgT d)+max (0:Int) (jgS d),())=(yw d.1,())
def xS:qd:=⟨[.own blS true,.val .int],[],fun d=>[EL (qo d.1),0<=d.2.1,d.2.1<=300],fun d=>((),(blX d.1 (aO (qo d.1)) (bP d.2.1 (qo d.1)) (sU (qo d.1)) (pE (qo d.1)),()))⟩
abbrev je5 (d:XbD×Int×Unit):=(d.1.q4.q4.1-d.1.q4.2.2.2.1)
abbrev jeR (d:XbD×Int×Unit):=(U.up (je5 d) d.1.q4.q4.2.1)
abbrev jeq (d:XbD×Int×Unit):=d.1.q4.q4.2.2.2.1
abbrev jei (d:XbD×Int×Unit):=d.1.q4.q4.2.2.1
abbrev je6 (d:XbD×Int×Unit):=d.1.q4.q4.q4.2.2.1
abbrev jfp (d:XbD×Int×Unit):=d.1.q4.q4.q4.2.2.2.1
abbrev jgg (d:XbD×Int×Unit):=d.1.q4.q4.q4.q4.q4.2.1
abbrev jej (d:XbD×Int×Unit):=((jgg d).length:Int)
abbrev jgU (d:XbD×Int×Unit):=d.1.q4.q4.q4.q4.q4.1
abbrev jgV (d:XbD×Int×Unit):=d.1.q4.q4.q4.q4.2.2.2.1
abbrev jgh (d:XbD×Int×Unit):=(((d.1.1,d.1.2.1,d.1.2.2.1,d.1.2.2.2.1,d.1.q4.1,d.1.q4.2.1,()),d.1.q4.2.2.1,d.1.q4.2.2.2.1,d.1.q4.q4.1,()),(d.1.q4.q4.2.1,(jei d),(jeq d),d.1.q4.q4.q4.1,d.1.q4.q4.q4.2.1,(je6 d),(jfp d),d.1.q4.q4.q4.q4.1,d.1.q4.q4.q4.q4.2.1,d.1.q4.q4.q4.q4.2.2.1,()),(jgV d),(jgU d),(jgg d),(jej d)*(jei d)*max (jeq d) (jeR d),d.1.q4.q4.q4.q4.q4.2.2.2)
abbrev jgW (d:XbD×Int×Unit):=((jej d)*(jei d)*max (jeq d) (jeR d)*(je6 d)*yw (jgh d))
def xT:Prop:=∀(d:XbD×Int×Unit),EL (qo d.1)->0<=d.2.1->d.2.1<=300->kM (je5 d)/\kM ((jej d)*(jei d))/\0<=d.1.q4.q4.1-d.1.q4.2.2.2.1/\0<d.1.q4.q4.2.1/\d.1.q4.q4.1-d.1.q4.2.2.2.1<=4611686018427387904/\d.1.q4.q4.2.1<=1000000000/\kM ((jej d)*(jei d)*max (jeq d) (jeR d))/\kM ((jej d)*(jei d)*max (jeq d) (jeR d)*(je6 d))/\EL (jgh d)/\kM (jgW d)/\kM ((100:Int)*(je5 d))/\0<=(jej d)*(jei d)*max (jeq d) (jeR d)*(je6 d)*yw (jgh d)/\(0:Int)<100*(je5 d)/\(jej d)*(jei d)*max (jeq d) (jeR d)*(je6 d)*yw (jgh d)<=4611686018427387904/\(100:Int)*(je5 d)<=1000000000/\kM ((jej d)*(jei d)*max (jeq d) (jeR d)+U.up (jgW d) ((100:Int)*(je5 d)))/\kM ((jej d)*(jfp d))/\kM ((jej d)*(jfp d)*d.2.1)/\()=()/\((d.1.1,d.1.2.1,d.1.2.2.1,d.1.2.2.2.1,d.1.q4.1,d.1.q4.2.1,d.1.q4.2.2.1,d.1.q4.2.2.2.1,d.1.q4.q4.1,d.1.q4.q4.2.1,(jei d),(jeq d),d.1.q4.q4.q4.1,d.1.q4.q4.q4.2.1,(je6 d),(jfp d),d.1.q4.q4.q4.q4.1,d.1.q4.q4.q4.q4.2.1,d.1.q4.q4.q4.q4.2.2.1,(jgV d),(jgU d),(jgg d),(jej d)*(jei d)*max (jeq d) (jeR d)+U.up (jgW d) ((100:Int)*(je5 d)),(jej d)*(jfp d)*d.2.1,d.1.q4.q4.q4.q4.q4.q4),())=((d.1.1,d.1.2.1,d.1.2.2.1,d.1.2.2.2.1,d.1.q4.1,d.1.q4.2.1,d.1.q4.2.2.1,d.1.q4.2.2.2.1,d.1.q4.q4.1,d.1.q4.q4.2.1,(jei d),(jeq d),d.1.q4.q4.q4.1,d.1.q4.q4.q4.2.1,(je6 d),(jfp d),d.1.q4.q4.q4.q4.1,d.1.q4.q4.q4.q4.2.1,d.1.q4.q4.q4.q4.2.2.1,(jgV d),(jgU d),(jgg d),aO (qo d.1),bP d.2.1 (qo d.1),sU (qo d.1),pE (qo d.1),()),())
def Ek:qd:=⟨[.own blS true,.val .int],[],fun _=>[],fun d=>((),(blX d.1 (pD (qo d.1)) (EK (qo d.1)) (VS d.2.1 (qo d.1)) (VT d.2.1 (qo d.1)),()))⟩
abbrev jhz (d:XbD×Int×Unit):=((d.1.1,d.1.2.1,d.1.2.2.1,d.1.2.2.2.1,d.1.q4.1,d.1.q4.2.1,d.1.q4.2.2.1,d.1.q4.2.2.2.1,d.1.q4.q4.1,d.1.q4.q4.2.1,d.1.q4.q4.2.2.1,d.1.q4.q4.2.2.2.1,d.1.q4.q4.q4.1,d.1.q4.q4.q4.2.1,d.1.q4.q4.q4.2.2.1,d.1.q4.q4.q4.2.2.2.1,d.1.q4.q4.q4.q4.1,d.1.q4.q4.q4.q4.2.1,d.1.q4.q4.q4.q4.2.2.1,d.1.q4.q4.q4.q4.2.2.2.1,d.1.q4.q4.q4.q4.q4.1,d.1.q4.q4.q4.q4.q4.2.1,pD (qo d.1),EK (qo d.1),VS d.2.1 (qo d.1),VT d.2.1 (qo d.1),()),())
abbrev jhA (d:XbD×Int×Unit):=(decide (d.2.1<=d.1.q4.2.2.2.1)&&(!d.1.q4.q4.q4.q4.q4.q4.1||decide (d.2.1<d.1.q4.q4.q4.q4.q4.q4.2.1)))
def El:Prop:=∀(d:XbD×Int×Unit),((jhA d)=true->()=()/\((d.1.1,d.1.2.1,d.1.2.2.1,d.1.2.2.2.1,d.1.q4.1,d.1.q4.2.1,d.1.q4.2.2.1,d.1.q4.2.2.2.1,d.1.q4.q4.1,d.1.q4.q4.2.1,d.1.q4.q4.2.2.1,d.1.q4.q4.2.2.2.1,d.1.q4.q4.q4.1,d.1.q4.q4.q4.2.1,d.1.q4.q4.q4.2.2.1,d.1.q4.q4.q4.2.2.2.1,d.1.q4.q4.q4.q4.1,d.1.q4.q4.q4.q4.2.1,d.1.q4.q4.q4.q4.2.2.1,d.1.q4.q4.q4.q4.2.2.2.1,d.1.q4.q4.q4.q4.q4.1,d.1.q4.q4.q4.q4.q4.2.1,d.1.q4.q4.q4.q4.q4.2.2.1,d.1.q4.q4.q4.q4.q4.2.2.2.1,true,d.2),())=(jhz d))/\((jhA d)=false->()=()/\(d.1,())=(jhz d))
def xU:we:=⟨[.val tNo,.ref tBl],[.bool],false,fun d=>[EL d.2.1],fun d=>(ee d.2.1 d.1,())⟩
def xV:Prop:=∀(d:(Int×Int×Unit)×BlD×Unit),EL d.2.1->kM (d.2.1.1.2.2.1-d.2.1.q4.q4.1)/\(decide (d.1.1<=d.2.1.1.2.2.1-d.2.1.q4.q4.1),())=(ee d.2.1 d.1,())
def Em:we:=⟨[.val tBl],[tLn],false,fun d=>[pz d.1],fun d=>(qc d.1,())⟩
abbrev jfM (d:BlD×Unit):=(kl fun(a:(Int×Int×Unit)×Unit)=>(ee d.1 a.1,()))
abbrev jeG (d:BlD×Unit):=d.1.2.1.q4.2.2.2.1
abbrev jeS (d:BlD×Unit):=d.1.2.1.q4.q4.2.1
abbrev jgX (d:BlD×Unit):=(nth (jeS d) (yg (jfM d) (jeS d)).toNat)
abbrev jd9 (d:BlD×Unit):=d.1.q4.2.1
abbrev jfN (d:BlD×Unit):=(((jd9 d)+d.1.q4.2.2.1)*nth d.1.2.1.q4.q4.1 d.1.1.1.q4.1.toNat)
abbrev jfO (d:BlD×Unit):=(((jd9 d)+0)*nth d.1.2.1.q4.q4.1 d.1.1.1.q4.1.toNat)
abbrev je7 (d:BlD×Unit):=((jd9 d)*(jgX d).2.1)
abbrev jfP (d:BlD×Unit):=((U.up (je7 d) (100:Int)+0)*nth d.1.2.1.q4.q4.1 d.1.1.1.q4.1.toNat)
abbrev jgY (d:BlD×Unit):=(d.1.2.1.q4.q4.1.length:Int)
def En:Prop:=∀(d:BlD×Unit),pz d.1->(d.1.q4.2.2.2.1=true->(∀(g:Int×Int×Unit),g∈(jeS d)->kG [EL d.1])/\(decide (0<=yg (jfM d) (jeS d))=true->0<=yg (jfM d) (jeS d)/\yg (jfM d) (jeS d)<((jeS d).length:Int)/\kM (je7 d)/\0<=(jd9 d)*(jgX d).2.1/\(0:Int)<100/\(jd9 d)*(jgX d).2.1<=4611686018427387904/\(100:Int)<=1000000000/\kM (U.up (je7 d) (100:Int)+0)/\0<=d.1.1.1.q4.1/\d.1.1.1.q4.1<(jgY d)/\kM (jfP d)/\(100:Int)≠0/\kM ((jfP d).tdiv (100:Int))/\kM (U.up (je7 d) (100:Int)+0)/\kM (U.up (je7 d) (100:Int)+0-min (jeG d) ((jfP d).tdiv (100:Int)))/\((d.1.2.2.2.1,d.1.2.2.1,U.up (je7 d) (100:Int),(0:Int),min (jeG d) ((jfP d).tdiv (100:Int)),U.up (je7 d) (100:Int)+0-min (jeG d) ((jfP d).tdiv (100:Int)),()),())=(qc d.1,()))/\(decide (0<=yg (jfM d) (jeS d))=false->kM ((jd9 d)+0)/\0<=d.1.1.1.q4.1/\d.1.1.1.q4.1<(jgY d)/\kM (jfO d)/\(100:Int)≠0/\kM ((jfO d).tdiv (100:Int))/\kM ((jd9 d)+0)/\kM ((jd9 d)+0-min (jeG d) ((jfO d).tdiv (100:Int)))/\((d.1.2.2.2.1,d.1.2.2.1,(jd9 d),(0:Int),min (jeG d) ((jfO d).tdiv (100:Int)),(jd9 d)+0-min (jeG d) ((jfO d).tdiv (100:Int)),()),())=(qc d.1,())))/\(d.1.q4.2.2.2.1=false->kM ((jd9 d)+d.1.q4.2.2.1)/\0<=d.1.1.1.q4.1/\d.1.1.1.q4.1<(jgY d)/\kM (jfN d)/\(100:Int)≠0/\kM ((jfN d).tdiv (100:Int))/\kM ((jd9 d)+d.1.q4.2.2.1)/\kM ((jd9 d)+d.1.q4.2.2.1-min (jeG d) ((jfN d).tdiv (100:Int)))/\((d.1.2.2.2.1,d.1.2.2.1,(jd9 d),d.1.q4.2.2.1,min (jeG d) ((jfN d).tdiv (100:Int)),(jd9 d)+d.1.q4.2.2.1-min (jeG d) ((jfN d).tdiv (100:Int)),()),())=(qc d.1,()))
def xW:we:=⟨[.val tBl,.val .int],[.int],false,fun d=>[pz d.1,-100000<=d.2.1,d.2.1<=1440],fun d=>(yF d.2.1 d.1,())⟩
abbrev jgi (d:BlD×Int×Unit):=(qo (d.1.1.1.1,d.1.1.1.2.1,d.1.1.1.2.2.1,d.1.1.1.2.2.2.1,d.1.1.1.q4.1,d.1.1.1.q4.2.1,d.1.1.2.1,d.1.1.2.2.1,d.1.1.2.2.2.1,d.1.2.1.1,d.1.2.1.2.1,d.1.2.1.2.2.1,d.1.2.1.2.2.2.1,d.1.2.1.q4.1,d.1.2.1.q4.2.1,d.1.2.1.q4.2.2.1,d.1.2.1.q4.2.2.2.1,d.1.2.1.q4.q4.1,d.1.2.1.q4.q4.2.1,d.1.2.2))
abbrev jhB (d:BlD×Int×Unit):=(d.1.1,d.1.2.1,d.1.2.2.1,d.1.2.2.2.1,d.1.q4.1,pD (jgi d),EK (jgi d),VS d.2.1 (jgi d),VT d.2.1 (jgi d),())
def xX:Prop:=∀(d:BlD×Int×Unit),pz d.1->(-100000:Int)<=d.2.1->d.2.1<=1440->pz (jhB d)/\(qc (jhB d)).q4.2=(yF d.2.1 d.1,())
theorem Rp:Nz:=fun _=>rfl
theorem vC:wo PR 38 gJ:=wb Rp Tryz.func38 kcN koN
theorem U9:Ro:=fun _=>rfl
theorem FQ:wo PR 118 bg:=wb U9 Tryz.func118 (kcC vC kcN) koN
theorem lX:iM:=by
 rintro⟨l,f,⟨⟩⟩ a g;refine⟨⟨0,⟨⟨rfl,tZ⟩,tZ⟩,jv _,fun b c=>by omega⟩,fun i hi=>⟨fun h=> ?_,fun h=> ?_⟩⟩;have h:i<l.length:=(by simpa using h);simp only at*;refine⟨by omega,by omega,qJ _ (a _ (L.kw h)) ⟨fun c=> ?_,fun c=>⟨iZ6,i+1,⟨⟨by simp,tZ⟩,tZ⟩,⟨by omega,fun b d=> ?_⟩,by omega⟩⟩⟩;rw[vK (p:=kl (α:=NoD) f.F) h hi.2 c];by_cases e:b=i;subst e;exact c;exact hi.2 b (by omega);have h:l.length<=i:=(by simpa using h);rw[qt (p:=kl (α:=NoD) f.F) h hi.2]
theorem iN:wo PR 66 iK:=q7 iL lX Tryz.func66 kcN koN
theorem pj:nv:=by
 rintro⟨l,f,⟨⟩⟩ a g;refine⟨⟨0,⟨⟨rfl,tZ⟩,tZ⟩,jv _,fun b c=>by omega⟩,fun i hi=>⟨fun h=> ?_,fun h=> ?_⟩⟩;have h:i<l.length:=(by simpa using h);simp only at*;refine⟨by omega,by omega,qJ _ (a _ (L.kw h)) ⟨fun c=> ?_,fun c=>⟨iZ6,i+1,⟨⟨by simp,tZ⟩,tZ⟩,⟨by omega,fun b d=> ?_⟩,by omega⟩⟩⟩;rw[vK (p:=kl (α:=CaD) f.F) h hi.2 c];by_cases e:b=i;subst e;exact c;exact hi.2 b (by omega);have h:l.length<=i:=(by simpa using h);rw[qt (p:=kl (α:=CaD) f.F) h hi.2]
theorem nx:wo PR 165 nr:=q7 nu pj Tryz.func165 kcN koN
theorem iO:fT:=by
 rintro⟨l,f,⟨⟩⟩ a;refine⟨a,?_⟩;exact jR (·,()) (fB (kl (α:=CaD) f.F) l)
theorem fU:wo PR 120 fS:=wb iO Tryz.func120 (kcC nx kcN) koN
theorem Dd:xR:=by
 intro d h;exact qJ _ h rfl
theorem xY:wo PR 116 xQ:=wb Dd Tryz.func116 kcN koN
theorem HC:Ej:=by
 intro d h;exact⟨fun g a=>⟨h g a,tZ⟩,jR (·,()) (rG d.snd.fst.2 d.fst)⟩
theorem nP:wo PR 86 cL:=wb HC Tryz.func86 (kcC vN (kcC xY kcN)) koN
theorem xZ:uc:=by
 intro d h;exact qJ _ h rfl
theorem ud:wo PR 121 ub:=wb xZ Tryz.func121 kcN koN
theorem Eo:Da:=by
 intro d h;exact⟨fun g a=>⟨h g a,tZ⟩,jR (·,()) (rG d.snd.fst.2 d.fst)⟩
theorem De:wo PR 90 C9:=wb Eo Tryz.func90 (kcC fU (kcC ud kcN)) koN
theorem NC:KB:=by
 rintro⟨c,m,⟨⟩⟩ a b;have a:0<=m:=a;have b:m<=4611686018427387904:=b;exact⟨fun _=>L.EQ (by show _<=m-1;omega) (by show m-1<=_;omega),rfl⟩
theorem KH:wo PR 85 KA:=wb NC Tryz.func85 (kcC vC kcN) koN
theorem ND:KE:=fun _=>rfl
theorem KI:wo PR 87 KC:=wb ND Tryz.func87 (kcC vC kcN) koN
theorem NE:KG:=fun _=>rfl
theorem KJ:wo PR 88 KF:=wb NE Tryz.func88 (kcC vC kcN) koN
theorem jbU:jan:=by
 rintro⟨a,b,⟨⟩⟩ c d e f;have c:0<=a:=c;have d:0<b:=d;have e:a<=4611686018427387904:=e;have f:b<=1000000000:=f;have g:=U3 c d;refine⟨L.EQ (by show _<=a+b;omega) (by show a+b<=_;omega),L.EQ (by show _<=a+b-1;omega) (by show a+b-1<=_;omega),by show b≠0;omega,C6 (x:=U.up a b) (B:=4611686018427387904) ⟨g.1,by omega⟩ (by omega),rfl⟩
theorem Va:wo PR 68 jam:=wb jbU Tryz.func68 kcN koN
theorem Rq:NB:=fun _=>rfl
theorem pk:wo PR 34 NA:=wb Rq Tryz.func34 kcN koN
theorem ue:sr:=by
 intro d a b;have a:(kB (ku (gO d.1))).length<=100:=a;exact⟨L.EQ (by show _<=((kB (ku (gO d.1))).length:Int)-1;omega) (by show((kB (ku (gO d.1))).length:Int)-1<=_;omega),rfl⟩
theorem y6:wo PR 37 sq:=wb ue Tryz.func37 (kcC vC kcN) koN
theorem Ep:Dc:=by
 unfold Dc jgT jgS Prod.q4;rintro⟨b,⟨⟩⟩ a;have h:C7 b:=sn.1 a;have d:=h.st;have e:=h.en;have f:=h.e2;have g:=h.ta.dk;have i:=h.ta.dw;have c:=Po h;refine⟨?_,?_,C6 (B:=2880) c (by omega),rfl⟩;show kM (mN (qi b)-max (qn (qi b)) (X9 (yE b)));exact iZ6;show kM (min (mN (qi b)) (jaQ (yE b))-qn (qi b));exact iZ6
theorem Df:wo PR 91 Db:=wb Ep Tryz.func91 kcN koN
theorem Dg:xT:=by
 unfold xT jgW jgh jgV jgU jej jgg jfp je6 jei jeq jeR je5 Prod.q4;intro d k v w;obtain⟨b,B⟩:∃b,b=qo d.1:=⟨_,rfl⟩;have h:C7 (qo d.1):=sn.1 k;have x:=h.st;have y:=h.en;have z:=h.e2;have A:=h.ta.un;have l:=jbR h;have j:=YP h;have m:=U4 h;have n:kM (mN (qi (qo d.1))-qn (qi (qo d.1))):=iZ6;have e2:0<=mN (qi (qo d.1))-qn (qi (qo d.1)):=(by omega);have o:0<V7 (yE (qo d.1)):=(by omega);have p:mN (qi (qo d.1))-qn (qi (qo d.1))<=4611686018427387904:=(by omega);have q:V7 (yE (qo d.1))<=1000000000:=(by omega);have r:kM (100*(mN (qi (qo d.1))-qn (qi (qo d.1)))):=iZ6;have s:100*(mN (qi (qo d.1))-qn (qi (qo d.1)))<=1000000000:=(by omega);have t:kM (aO (qo d.1)):=C6 m (by omega);have u:kM (bP d.2.1 (qo d.1)):=C6 (U5 h ⟨v,w⟩) (by omega);have a:=C6 (jbP h) (by omega);have c:=C6 (Nw h) (by omega);have e:=C6 (jbQ h) (by omega);have f:=C6 j (by omega);have g:ma (qo d.1)*V8 (yE (qo d.1))*yw (qo d.1)<=4611686018427387904:=(by omega);have i:=C6 (jbT h) (by omega);exact⟨n,a,e2,o,p,q,c,e,k,f,r,j.1,l.1,g,s,t,i,u,rfl,rfl⟩
theorem x7:yS PR 60 xS:=Ca Dg Tryz.func60 (kcC Va (kcC Df kcN)) koN
theorem NF (m:Int) (b:BlD):yt m b=(qi b,yE b,Od b,Lx b,wZ b,pD b,EK b,VS m b,VT m b,()):=by
 unfold VS VT yt
 split
 rfl;rfl
theorem HD:El:=by
 unfold El jhA jhz Prod.q4;intro d;have a:(decide (d.2.1<=qn (qi (qo d.1)))&&(!sU (qo d.1)||decide (d.2.1<pE (qo d.1))))=true↔(d.2.1<=qn (qi (qo d.1))/\(sU (qo d.1)=false\/d.2.1<pE (qo d.1))):=by
  simp only[ji,zy,jr,jN]
 refine⟨fun h=>⟨rfl,?_⟩,fun h=>⟨rfl,?_⟩⟩;have e:yt d.2.1 (qo d.1)=(qi (qo d.1),yE (qo d.1),Od (qo d.1),Lx (qo d.1),wZ (qo d.1),pD (qo d.1),EK (qo d.1),true,d.2.1,()):=by
  unfold yt;rw[je (a.1 h)]
 have b:VS d.2.1 (qo d.1)=true:=jR sU e;have e2:VT d.2.1 (qo d.1)=d.2.1:=jR pE e;rw[b,e2];rfl;have h:(decide (d.2.1<=qn (qi (qo d.1)))&&(!sU (qo d.1)||decide (d.2.1<pE (qo d.1))))=false:=h;have e:yt d.2.1 (qo d.1)=qo d.1:=by
  unfold yt;rw[jc (fun c=>by rw[a.2 c] at h;cases h)]
 have b:VS d.2.1 (qo d.1)=sU (qo d.1):=jR sU e;have e2:VT d.2.1 (qo d.1)=pE (qo d.1):=jR pE e;rw[b,e2];rfl
theorem nQ:yS PR 61 Ek:=Ca HD Tryz.func61 kcN koN
theorem Dh:xV:=by
 unfold xV Prod.q4;rintro⟨n,b,⟨⟩⟩ a;have h:C7 b:=sn.1 a;have c:=h.st;have d:=h.en;have e:=h.e2;have f:=h.mi;refine⟨?_,rfl⟩;show kM (qn (qi b)-pE b);exact iZ6
theorem x8:wo PR 67 xU:=wb Dh Tryz.func67 kcN koN
theorem HE:En:=by
 unfold En jgY jfP je7 jfO jfN jd9 jgX jeS jeG jfM Prod.q4;rintro⟨b,⟨⟩⟩ m;have h:Io b:=gT.1 m;have hk:=h.bl.kd;have k:iT (yV (qi b))<((aT (yE b)).length:Int):=(by have:=U6 h.bl;omega);have l:=U7 h.bl;have j:=h.bl.ta.cp;refine⟨fun a=>⟨fun g _=>⟨m.1,tZ⟩,fun hi=> ?_,fun hi=> ?_⟩,fun a=> ?_⟩;have hi:0<=R1 b:=ja hi;obtain⟨o,p,_⟩:=Kw hi;have f:=Pp h o;have n:=U3 (b:=100) f.1 (by omega);have d:wT b=U.up (pD b*Y0 (nth (d9 (yE b)) (R1 b).toNat)) 100:=je ⟨a,hi⟩;have c:qb b=0:=je a;refine⟨hi,p,C6 f (by omega),f.1,by decide,Int.le_trans f.2 (by decide),by decide,?_⟩;refine Nx (w:=U.up (pD b*Y0 (nth (d9 (yE b)) (R1 b).toNat)) 100) (t:=0) (cp:=RZ (yE b)) (pc:=nth (aT (yE b)) (iT (yV (qi b))).toNat) ⟨n.1,Int.le_trans n.2 f.2⟩ ⟨by omega,by omega⟩ j l hk.1 k ?_;have e:qc b=(Lx b,Od b,wT b,qb b,min (RZ (yE b)) (((wT b+qb b)*nth (aT (yE b)) (iT (yV (qi b))).toNat).tdiv 100),wT b+qb b-min (RZ (yE b)) (((wT b+qb b)*nth (aT (yE b)) (iT (yV (qi b))).toNat).tdiv 100),()):=rfl;rw[d,c] at e;show _=(qc b,());rw[e];rfl;have hi:¬0<=R1 b:=jd hi;have d:wT b=pD b:=jc (fun i=>hi i.2);have c:qb b=0:=je a;refine Nx (w:=pD b) (t:=0) (cp:=RZ (yE b)) (pc:=nth (aT (yE b)) (iT (yV (qi b))).toNat) ⟨h.wk.1,by have:=h.wk.2;omega⟩ ⟨by omega,by omega⟩ j l hk.1 k ?_;have e:qc b=(Lx b,Od b,wT b,qb b,min (RZ (yE b)) (((wT b+qb b)*nth (aT (yE b)) (iT (yV (qi b))).toNat).tdiv 100),wT b+qb b-min (RZ (yE b)) (((wT b+qb b)*nth (aT (yE b)) (iT (yV (qi b))).toNat).tdiv 100),()):=rfl;rw[d,c] at e;show _=(qc b,());rw[e];rfl;have a:sU b=false:=a;have d:wT b=pD b:=jc (fun i=>by rw[a] at i;cases i.1);have c:qb b=EK b:=jc (by rw[a];decide);refine Nx (w:=pD b) (t:=EK b) (cp:=RZ (yE b)) (pc:=nth (aT (yE b)) (iT (yV (qi b))).toNat) ⟨h.wk.1,by have:=h.wk.2;omega⟩ h.tr j l hk.1 k ?_;have e:qc b=(Lx b,Od b,wT b,qb b,min (RZ (yE b)) (((wT b+qb b)*nth (aT (yE b)) (iT (yV (qi b))).toNat).tdiv 100),wT b+qb b-min (RZ (yE b)) (((wT b+qb b)*nth (aT (yE b)) (iT (yV (qi b))).toNat).tdiv 100),()):=rfl;rw[d,c] at e;show _=(qc b,());rw[e];rfl
theorem gU:wo PR 39 Em:=wb HE Tryz.func39 (kcC Va (kcC iN (kcC x8 kcN))) koN
theorem Di:xX:=by
 unfold xX jhB jgi Prod.q4;rintro⟨b,m,⟨⟩⟩ a c d;have e:=NF m b;have h:Io b:=gT.1 a;have hk:=gT.2 (HA (m:=m) h ⟨c,d⟩);refine⟨?_,?_⟩;show pz (qi b,yE b,Od b,Lx b,wZ b,pD b,EK b,VS m b,VT m b,());rw[<-e];exact hk;show(qc (qi b,yE b,Od b,Lx b,wZ b,pD b,EK b,VS m b,VT m b,())).2.2.2.2.2=_;rw[<-e];rfl
theorem ik:wo PR 40 xW:=wb Di Tryz.func40 (kcC gU kcN) (koC nQ koN)
@[irreducible] def XG (C:Ctx) (A:Ann) (c:Code) (σ:St) (K:Ex->St->Prop):Prop:=vcg C A c σ K
theorem XH {C:Ctx} {A:Ann} {c:Code} {σ:St} {K:Ex->St->Prop} (h:XG C A c σ K):vcg C A c σ K:=by unfold XG at h;exact h
structure FE where
 pre:NoD×Unit->Int->List Prop
 K:NoD×Unit->Int->(Bool×Unit)×Int
namespace U
def yT (K:NoD×Unit->Int->(Bool×Unit)×Int):NoD×Unit->Int->(Bool×Unit)×Int:=fun x s=>((!(K (x.1,()) s).1.1,()),(K (x.1,()) s).2)
def DD (pre:NoD×Unit->Int->List Prop):NoD×Unit->Int->List Prop:=fun x s=>[kG (pre (x.1,()) s)]
def qR (K:NoD×Unit->Int->(Bool×Unit)×Int):Nat->List NoD->Int->Int×Int
 |_,[],s=>(-1,s)
 |i,n::r,s=>match(K (n,()) s).1.1 with
  |true=>((i:Int),(K (n,()) s).2)
  |false=>qR K (i+1) r (K (n,()) s).2
def b8 (pre:NoD×Unit->Int->List Prop) (K:NoD×Unit->Int->(Bool×Unit)×Int):List NoD->Int->Prop
 |[],_=>True
 |n::r,s=>kG (pre (n,()) s)/\((K (n,()) s).1.1=false->b8 pre K r (K (n,()) s).2)
def PG:NoD×Unit->Int->(Bool×Unit)×Int:=fun x s=>((Ih s x.1,()),V6 x.1)
def jcj:NoD×Unit->Int->List Prop:=fun _ s=>[-4611686018427387904<=s,s<=4611686018427387904]
end U
def jao (st:Ty) (ps rs:List Ty) (pre:(Ty.st ps).Data->st.Data->List Prop) (K:(Ty.st ps).Data->st.Data->(Ty.st rs).Data×st.Data):Option FE:=
 if a:st= .int then if b:ps=[tNo] then if c:rs=[.bool] then some ⟨by subst a;subst b;exact pre,by subst a;subst b;subst c;exact K⟩ else none else none else none
def jcB:SV->Option (Nat×FE)
 | .fe false o T st ps rs pre K=>match Nat.beq T 3,jao st ps rs pre K with
  |true,some y=>some (o,y)
  |_,_=>none
 |_=>none
def jcX (σ:St) (b:Nat):Option (Nat×FE):=match σ.obj b with
 |some (.box _ _ [c])=>jcB c
 |_=>none
def Vb (σ:St) (o:Nat):Option Int:=match σ.obj o with
 |some (.box T false [c])=>match Nat.beq T 3,vZ σ .int c with
  |true,some (s,[])=>some s
  |_,_=>none
 |_=>none
def Vc (σ:St):List SV->Option Out
 |[a,b]=>match vZ σ (.slice tNo) a,jcB b with
  |some (l,fz),some (o,y)=>match gV fz o,Vb σ o with
   |false,some s=>some ⟨[b8 y.pre y.K l s],[],u9 [.int] ((qR y.K 0 l s).1,()),fz,[(o,some (.box 3 false [.dat .int (qR y.K 0 l s).2]))],[]⟩
   |_,_=>none
  |_,_=>none
 |_=>none
def Vd (σ:St):List SV->Option Out
 |[a,.clo f [.bp b 0]]=>match Nat.beq f 164,vZ σ (.slice tNo) a,jcX σ b with
  |true,some (l,fz),some (o,y)=>match gV (b::fz) o,Vb σ o with
   |false,some s=>some ⟨[b8 (DD y.pre) (yT y.K) l s],[],u9 [.bool] (decide (0<=(qR (yT y.K) 0 l s).1),()),b::fz,[(o,some (.box 3 false [.dat .int (qR (yT y.K) 0 l s).2]))],[]⟩
   |_,_=>none
  |_,_,_=>none
 |_=>none
def XI (σ:St):List SV->Option Out
 |[a,.clo f [.bp o 0]]=>match Nat.beq f 117,vZ σ (.slice tNo) a with
  |true,some (l,fz)=>match gV fz o,Vb σ o with
   |false,some s=>some ⟨[b8 (DD jcj) (yT PG) l s],[],u9 [.bool] (!decide (0<=(qR (yT PG) 0 l s).1),()),fz,[(o,some (.box 3 false [.dat .int (qR (yT PG) 0 l s).2]))],[]⟩
   |_,_=>none
  |_,_=>none
 |_=>none
def YQ (n:Nat) (fs:List (Nat×we)) (k:Nat) (e:St->List SV->Option Out):Ctx:=⟨n,ti,fs,fun f _ σ svs=>match Nat.beq f k with|true=>e σ svs|false=>none,strs,false⟩
def cM:Prop:=∀(n:NoD) (s:Int),-4611686018427387904<=s->s<=4611686018427387904->
 XG (ctx 18 [(38,gJ),(118,bg)] []) (fun _=>none) (wt Tryz.f117) ⟨[(0,.dat tNo n),(1,.bp yn 0)],[(yn,some (.box 3 false [.dat .int s]))]⟩
  (lu (ctx 18 [(38,gJ),(118,bg)] []) Tryz.f117 3 .int [.bool] (PG (n,()) s))
def lY:Prop:=∀(n:NoD) (s:Int),(-4611686018427387904:Int)<=s->s<=4611686018427387904->kM (s-1)/\(kj n.1 (0:Int) (s-1)&&U.share n.2.1,())=(PG (n,()) s).1/\n.1=(PG (n,()) s).2
theorem su:(cM)=lY:=by kernel_rfl
def y7:Prop:=∀(n:NoD) (y:FE) (s:Int),kG (y.pre (n,()) s)->
 XG (ctx 8 [] []) (fun _=>none) (wt Tryz.f164) ⟨[(0,.dat tNo n),(1,.fe true yn 3 .int [tNo] [.bool] y.pre y.K)],[(yn,some (.box 3 false [.dat .int s]))]⟩
  (lu (ctx 8 [] []) Tryz.f164 3 .int [.bool] (yT y.K (n,()) s))
def bH:Prop:=∀(n:NoD) (y:FE) (s:Int),kG (y.pre (n,()) s)->asks (y.1 (n,()) s) ((!(y.2 (n,()) s).1.1,())=(yT y.2 (n,()) s).1/\(y.2 (n,()) s).2=(yT y.2 (n,()) s).2)
theorem iP:(y7)=bH:=by kernel_rfl
def Ve (K:NoD×Unit->Int->(Bool×Unit)×Int) (pre:NoD×Unit->Int->List Prop) (s:Int):Ann:=fun r=>match r with
 |2=>some fun σ=>{X:=Nat×Int,sl:=fun x=>[(8,.dat .int (x.1:Int))],ob:=fun x=>[(yn,some (.box 3 false [.dat .int x.2]))],inv:=fun x=>x.1<=(gd (.slice tNo) σ 0).length/\qR K x.1 ((gd (.slice tNo) σ 0).drop x.1) x.2=qR K 0 (gd (.slice tNo) σ 0) s/\b8 pre K ((gd (.slice tNo) σ 0).drop x.1) x.2,mu:=fun x=>(gd (.slice tNo) σ 0).length-x.1}
 |_=>none
def dS:Prop:=∀(l:List NoD) (y:FE) (s:Int),b8 y.pre y.K l s->
 XG (ctx 19 [] []) (Ve y.K y.pre s) (wt Tryz.f66) ⟨[(0,.dat (.slice tNo) l),(1,.fe false yn 3 .int [tNo] [.bool] y.pre y.K)],[(yn,some (.box 3 false [.dat .int s]))]⟩
  (lu (ctx 19 [] []) Tryz.f66 3 .int [.int] (((qR y.K 0 l s).1,()),(qR y.K 0 l s).2))
abbrev jfQ (l:List NoD)(x:Nat×Int):=(nth l (x.1:Int).toNat,())
def yA:Prop:=∀(l:List NoD) (y:FE) (s:Int),b8 y.pre y.K l s->l.length<4611686018427387904->(∃(x:Nat×Int),((0=(x.1:Int)/\True)/\(s=x.2/\True)/\True)/\x.1<=l.length/\qR y.2 x.1 (List.drop x.1 l) x.2=qR y.2 0 l s/\b8 y.1 y.2 (List.drop x.1 l) x.2)/\∀(x:Nat×Int),x.1<=l.length/\qR y.2 x.1 (List.drop x.1 l) x.2=qR y.2 0 l s/\b8 y.1 y.2 (List.drop x.1 l) x.2->(decide ((x.1:Int)<l.length)=true->0<=(x.1:Int)/\(x.1:Int)<l.length/\asks (y.1 (jfQ l x) x.2) (((y.2 (jfQ l x) x.2).1.1=true->((x.1:Int),())=((qR y.2 0 l s).1,())/\(y.2 (jfQ l x) x.2).2=(qR y.2 0 l s).2)/\((y.2 (jfQ l x) x.2).1.1=false->kM ((x.1:Int)+1)/\∃(a:Nat×Int),(((x.1:Int)+1=(a.1:Int)/\True)/\((y.2 (jfQ l x) x.2).2=a.2/\True)/\True)/\(a.1<=l.length/\qR y.2 a.1 (List.drop a.1 l) a.2=qR y.2 0 l s/\b8 y.1 y.2 (List.drop a.1 l) a.2)/\l.length-a.1<l.length-x.1)))/\(decide ((x.1:Int)<l.length)=false->((-1:Int),())=((qR y.2 0 l s).1,())/\x.2=(qR y.2 0 l s).2)
theorem aR:(dS)=yA:=by kernel_rfl
def bI:Prop:=∀(l:List NoD) (y:FE) (s:Int),b8 y.pre y.K l s->
 XG (YQ 9 [] 66 Vc) (fun _=>none) (wt Tryz.f163) ⟨[(0,.dat (.slice tNo) l),(1,.fe false yn 3 .int [tNo] [.bool] y.pre y.K)],[(yn,some (.box 3 false [.dat .int s]))]⟩
  (lu (YQ 9 [] 66 Vc) Tryz.f163 3 .int [.bool] ((decide (0<=(qR y.K 0 l s).1),()),(qR y.K 0 l s).2))
def vW:Prop:=∀(l:List NoD) (y:FE) (s:Int),b8 y.pre y.K l s->b8 y.1 y.2 l s/\(decide (0<=(qR y.2 0 l s).1),())=(decide (0<=(qR y.2 0 l s).1),())/\(qR y.2 0 l s).2=(qR y.2 0 l s).2
theorem gK:(bI)=vW:=by kernel_rfl
def x9:Prop:=∀(l:List NoD) (y:FE) (s:Int),b8 (DD y.pre) (yT y.K) l s->
 XG (YQ 9 [] 163 Vd) (fun _=>none) (wt Tryz.f119) ⟨[(0,.dat (.slice tNo) l),(1,.fe false yn 3 .int [tNo] [.bool] y.pre y.K)],[(yn,some (.box 3 false [.dat .int s]))]⟩
  (lu (YQ 9 [] 163 Vd) Tryz.f119 3 .int [.bool] ((!decide (0<=(qR (yT y.K) 0 l s).1),()),(qR (yT y.K) 0 l s).2))
def dT:Prop:=∀(l:List NoD) (y:FE) (s:Int),b8 (DD y.pre) (yT y.K) l s->b8 (DD y.1) (yT y.2) l s/\(!decide (0<=(qR (yT y.2) 0 l s).1),())=(!decide (0<=(qR (yT y.2) 0 l s).1),())/\(qR (yT y.2) 0 l s).2=(qR (yT y.2) 0 l s).2
theorem ny:(x9)=dT:=by kernel_rfl
def sw:we:=⟨[.val tTa],[.bool],false,fun _=>[],fun d=>(vg d.1,())⟩
def sx:Ann:=fun r=>match r with
 |3000003=>some fun _=>{X:=Unit,sl:=fun _=>[],ob:=fun _=>[],inv:=fun _=>True,mu:=fun _=>0}
 |_=>none
abbrev jeT:=(kl fun(a:Int×Unit)=>(U.share a.1,()))
abbrev jet (d:TaD×Unit):=((d.1.q4.q4.2.1.length:Int)<=4)
abbrev jeU (d:TaD×Unit):=((d.1.q4.q4.1.length:Int)=4)
abbrev jeu (d:TaD×Unit):=d.1.q4.2.2.2.1
abbrev jek (d:TaD×Unit):=(vg d.1,())
abbrev jev (d:TaD×Unit):=d.1.q4.2.2.1
def sy:Prop:=∀(d:TaD×Unit),(kj d.1.1 (1:Int) 240=true->kj d.1.1 (1:Int) 240=true/\kj d.1.1 (1:Int) 240=true/\kj d.1.1 (1:Int) 240=true/\(kj d.1.2.1 (0:Int) 10000=true->kj d.1.2.1 (0:Int) 10000=true/\kj d.1.2.1 (0:Int) 10000=true/\kj d.1.2.1 (0:Int) 10000=true/\(kj d.1.2.2.1 (0:Int) 20=true->kj d.1.2.2.1 (0:Int) 20=true/\kj d.1.2.2.1 (0:Int) 20=true/\kj d.1.2.2.1 (0:Int) 20=true/\(kj d.1.2.2.2.1 (0:Int) 1440=true->kj d.1.2.2.2.1 (0:Int) 1440=true/\kj d.1.2.2.2.1 (0:Int) 1440=true/\kj d.1.2.2.2.1 (0:Int) 1440=true/\kj d.1.2.2.2.1 (0:Int) 1440=true/\kj d.1.2.2.2.1 (0:Int) 1440=true/\(kj d.1.q4.1 (0:Int) d.1.2.2.2.1=true->kj d.1.q4.1 (0:Int) d.1.2.2.2.1=true/\kj d.1.q4.1 (0:Int) d.1.2.2.2.1=true/\kj d.1.q4.1 (0:Int) d.1.2.2.2.1=true/\(U.share d.1.q4.2.1=true->U.share d.1.q4.2.1=true/\U.share d.1.q4.2.1=true/\U.share d.1.q4.2.1=true/\(kj (jev d) (0:Int) 10000=true->kj (jev d) (0:Int) 10000=true/\kj (jev d) (0:Int) 10000=true/\(d.1.q4.q4.1.length<4611686018427387904->kj (jev d) (0:Int) 10000=true/\kj (jev d) (0:Int) 10000=true/\(decide (jeU d)=true->decide (jeU d)=true/\decide (jeU d)=true/\(∀(g:Int),g∈d.1.q4.q4.1->kG [])/\decide (jeU d)=true/\(d.1.q4.q4.1.all jeT=true->d.1.q4.q4.1.all jeT=true/\d.1.q4.q4.1.all jeT=true/\d.1.q4.q4.1.all jeT=true/\(kj (jeu d) (0:Int) 1000000=true->kj (jeu d) (0:Int) 1000000=true/\kj (jeu d) (0:Int) 1000000=true/\(d.1.q4.q4.2.1.length<4611686018427387904->kj (jeu d) (0:Int) 1000000=true/\kj (jeu d) (0:Int) 1000000=true/\(decide (jet d)=true->decide (jet d)=true/\decide (jet d)=true/\decide (jet d)=true/\b8 (DD jcj) (yT PG) d.1.q4.q4.2.1 (100001:Int)/\decide (jet d)=true/\(!decide (0<=(qR (yT PG) 0 d.1.q4.q4.2.1 (100001:Int)).1),())=(jek d))/\(decide (jet d)=false->decide (jet d)=false/\decide (jet d)=false/\decide (jet d)=false/\decide (jet d)=false/\(false,())=(jek d))))/\(kj (jeu d) (0:Int) 1000000=false->kj (jeu d) (0:Int) 1000000=false/\kj (jeu d) (0:Int) 1000000=false/\kj (jeu d) (0:Int) 1000000=false/\kj (jeu d) (0:Int) 1000000=false/\qF/\qF/\qF/\qF/\qF/\(false,())=(jek d)))/\(d.1.q4.q4.1.all jeT=false->d.1.q4.q4.1.all jeT=false/\d.1.q4.q4.1.all jeT=false/\d.1.q4.q4.1.all jeT=false/\qF/\qF/\qF/\qF/\qF/\qF/\qF/\qF/\qF/\qF/\(false,())=(jek d)))/\(decide (jeU d)=false->decide (jeU d)=false/\decide (jeU d)=false/\decide (jeU d)=false/\qF/\qF/\qF/\qF/\qF/\qF/\qF/\qF/\qF/\qF/\qF/\qF/\qF/\qF/\(false,())=(jek d))))/\(kj (jev d) (0:Int) 10000=false->kj (jev d) (0:Int) 10000=false/\kj (jev d) (0:Int) 10000=false/\kj (jev d) (0:Int) 10000=false/\kj (jev d) (0:Int) 10000=false/\qF/\qF/\qF/\qF/\qF/\qF/\qF/\qF/\qF/\qF/\qF/\qF/\qF/\qF/\qF/\qF/\qF/\qF/\(false,())=(jek d)))/\(U.share d.1.q4.2.1=false->U.share d.1.q4.2.1=false/\U.share d.1.q4.2.1=false/\U.share d.1.q4.2.1=false/\qF/\qF/\qF/\qF/\qF/\qF/\qF/\qF/\qF/\qF/\qF/\qF/\qF/\qF/\qF/\qF/\qF/\qF/\qF/\qF/\qF/\qF/\qF/\(false,())=(jek d)))/\(kj d.1.q4.1 (0:Int) d.1.2.2.2.1=false->kj d.1.q4.1 (0:Int) d.1.2.2.2.1=false/\kj d.1.q4.1 (0:Int) d.1.2.2.2.1=false/\kj d.1.q4.1 (0:Int) d.1.2.2.2.1=false/\qF/\qF/\qF/\qF/\qF/\qF/\qF/\qF/\qF/\qF/\qF/\qF/\qF/\qF/\qF/\qF/\qF/\qF/\qF/\qF/\qF/\qF/\qF/\qF/\qF/\qF/\qF/\(false,())=(jek d)))/\(kj d.1.2.2.2.1 (0:Int) 1440=false->kj d.1.2.2.2.1 (0:Int) 1440=false/\kj d.1.2.2.2.1 (0:Int) 1440=false/\kj d.1.2.2.2.1 (0:Int) 1440=false/\kj d.1.2.2.2.1 (0:Int) 1440=false/\kj d.1.2.2.2.1 (0:Int) 1440=false/\qF/\qF/\qF/\qF/\qF/\qF/\qF/\qF/\qF/\qF/\qF/\qF/\qF/\qF/\qF/\qF/\qF/\qF/\qF/\qF/\qF/\qF/\qF/\qF/\qF/\qF/\qF/\qF/\qF/\qF/\qF/\(false,())=(jek d)))/\(kj d.1.2.2.1 (0:Int) 20=false->kj d.1.2.2.1 (0:Int) 20=false/\kj d.1.2.2.1 (0:Int) 20=false/\kj d.1.2.2.1 (0:Int) 20=false/\qF/\qF/\qF/\qF/\qF/\qF/\qF/\qF/\qF/\qF/\qF/\qF/\qF/\qF/\qF/\qF/\qF/\qF/\qF/\qF/\qF/\qF/\qF/\qF/\qF/\qF/\qF/\qF/\qF/\qF/\qF/\qF/\qF/\qF/\qF/\qF/\qF/\(false,())=(jek d)))/\(kj d.1.2.1 (0:Int) 10000=false->kj d.1.2.1 (0:Int) 10000=false/\kj d.1.2.1 (0:Int) 10000=false/\kj d.1.2.1 (0:Int) 10000=false/\qF/\qF/\qF/\qF/\qF/\qF/\qF/\qF/\qF/\qF/\qF/\qF/\qF/\qF/\qF/\qF/\qF/\qF/\qF/\qF/\qF/\qF/\qF/\qF/\qF/\qF/\qF/\qF/\qF/\qF/\qF/\qF/\qF/\qF/\qF/\qF/\qF/\qF/\qF/\qF/\qF/\(false,())=(jek d)))/\(kj d.1.1 (1:Int) 240=false->kj d.1.1 (1:Int) 240=false/\kj d.1.1 (1:Int) 240=false/\kj d.1.1 (1:Int) 240=false/\qF/\qF/\qF/\qF/\qF/\qF/\qF/\qF/\qF/\qF/\qF/\qF/\qF/\qF/\qF/\qF/\qF/\qF/\qF/\qF/\qF/\qF/\qF/\qF/\qF/\qF/\qF/\qF/\qF/\qF/\qF/\qF/\qF/\qF/\qF/\qF/\qF/\qF/\qF/\qF/\qF/\qF/\qF/\qF/\qF/\(false,())=(jek d))
theorem Aa:jaW (YQ 69 [(38,gJ),(118,bg),(86,cL)] 119 XI) (sx) Tryz.f89 (wt Tryz.f89) sw=sy:=by kernel_rfl
theorem KK (K:NoD×Unit->Int->(Bool×Unit)×Int) (i:Nat) (n:NoD) (r:List NoD) (s:Int):qR K i (n::r) s=if(K (n,()) s).1.1=true then((i:Int),(K (n,()) s).2) else qR K (i+1) r (K (n,()) s).2:=by
 rw[qR];cases (K (n,()) s).1.1 with
 |true=>rfl
 |false=>rfl
theorem Er:lY:=by
 intro n s a b;exact⟨iZ6,rfl,rfl⟩
theorem sA:bH:=by
 intro n y s h;exact qJ _ h ⟨rfl,rfl⟩
theorem dU:yA:=by
 unfold yA jfQ;intro l y s j m;refine⟨⟨(0,s),⟨⟨rfl,tZ⟩,⟨rfl,tZ⟩,tZ⟩,jv _,rfl,j⟩,fun x d=>⟨fun h=> ?_,fun h=> ?_⟩⟩;obtain⟨i,s1⟩:=x;have hi:i<l.length:=(by simpa using h);obtain⟨_,a,b⟩:=d;have g:l.drop i=nth l i::l.drop (i+1):=(by rw[L.wD hi];exact kc hi);simp only at a b;rw[g] at a b;rw[KK] at a;obtain⟨e,f⟩:=b;simp only[ju];refine⟨by omega,by omega,qJ _ e ⟨fun k=> ?_,fun c=>⟨iZ6,(i+1,(y.2 (nth l i,()) s1).2),⟨⟨by simp,tZ⟩,⟨rfl,tZ⟩,tZ⟩,⟨hi,?_,f c⟩,by simp only;omega⟩⟩⟩;rw[je k] at a;rw[<-a];exact⟨rfl,rfl⟩;rw[jc (by rw[c];decide)] at a;exact a;obtain⟨i,s1⟩:=x;have hi:l.length<=i:=(by simpa using h);obtain⟨_,a,_⟩:=d;simp only at a;rw[List.drop_eq_nil_of_le hi] at a;have a:((-1:Int),s1)=qR y.2 0 l s:=a;rw[<-a];exact⟨rfl,rfl⟩
theorem bJ:vW:=fun _ _ _ h=>⟨h,rfl,rfl⟩
theorem Ab:dT:=fun _ _ _ h=>⟨h,rfl,rfl⟩
theorem Vf {P:Program} {C:Ctx} {w:World} (e:C.ok P) (l:P.follows .mixedOrders=true) {f:Nat} {fn:Func} {body:Code} (i:P.funcs[f]? =some fn) (h:fn.body=some body)
 (m:fn.ntmps=C.n) (A:Ann) {T:Nat} {st:Ty} {rs:List Ty} {want:(Ty.st rs).Data×st.Data} {s:st.Data} {sl:List (Nat×SV)} {vals:List Value}
 (p:XG C A body ⟨sl,[(yn,some (.box T false [.dat st s]))]⟩ (lu C fn T st rs want)) (a:Nat.ble vals.length C.n=true)
 {H:Imm} {b:Nat} {u:Value} (j:eI H w) (g:H b=none) (q:w.heap[b]? =some (.cells #[u] T (0,0))) (d:st.agg=false) (o:st.rv H u s)
 (c:∀ρ:Env,ρ.H=H->ρ.blk yn=some (some (b,0))->∀k v,kQ sl k=some v->∃x,vals[k]? =some x/\SV.den P ρ v x):
 Calls P f vals.toArray w (PN H w b T st rs want):=
 jcN e l i h m A (jy a) (XH p) j g q d o c
abbrev FnG (H:Imm) (b:Nat) (y:FE) (v:Value):Prop:=FnE PR H b 3 .int [tNo] [.bool] y.pre y.K v
theorem Vg {H:Imm} {t:Ty} {vals:List Value} {x:(Ty.st [t]).Data} (h:rvs H [t] vals x):∃v,vals=[v]/\t.rv H v x.1:=by
 match vals,h with
 |[v],h=>exact⟨v,rfl,h.1⟩
 |[],h=>exact h.elim
 |_::_::_,h=>have:=h.2;simp[rvs] at this
theorem Vh (q:y7) {H:Imm} {b:Nat} {y:FE} {i:Value} {g:Nat} (l:FnG H b y i) (m:H g=some (.cells #[i])):
 FnG H b ⟨DD y.pre,yT y.K⟩ (.func (.func 164) #[] #[.pointer (some ⟨g,0,none⟩)]):=by
 refine⟨164,_,rfl,qC Tryz.func164 (c:=wt Tryz.f164) (by kernel_rfl) (by kernel_rfl),fun H' w vals x s u j o n z r t f=> ?_⟩;obtain⟨v,rfl,h⟩:=Vg t;have key:=Vf (P:=PR) (C:=ctx 8 [] []) (nN trivial trivial) mixed Tryz.func164 (body:=wt Tryz.f164) (by kernel_rfl) (by kernel_rfl) (fun _=>none) (T:=3) (st:= .int) (rs:=[.bool])
  (vals:=[v,.pointer (some ⟨g,0,none⟩)]) (q x.1 y s f.1) (by kernel_rfl) o n z rfl r
 refine key (fun ρ d e k sv hk=> ?_)
 match k,hk with
 |0,hk=>
  have hk:some (SV.dat tNo x.1)=some sv:=hk;simp only[jw] at hk;subst hk;exact⟨v,rfl,by simp only[SV.den];rw[d];exact h⟩
 |1,hk=>
  have hk:some (SV.fe true yn 3 .int [tNo] [.bool] y.pre y.K)=some sv:=hk;simp only[jw] at hk;subst hk;refine⟨_,rfl,?_⟩;simp only[SV.den];intro p a;rw[e] at a;simp at a;subst a;refine⟨b,0,rfl,i,?_,g,rfl,?_⟩;rw[d];exact FnE.mono j l;rw[d];exact j _ _ m
 |k+2,hk=>cases hk
theorem Rr (j:cM) (H:Imm) (b:Nat):FnG H b ⟨jcj,PG⟩ (.func (.func 117) #[] #[.pointer (some ⟨b,0,none⟩)]):=by
 refine⟨117,_,rfl,qC Tryz.func117 (c:=wt Tryz.f117) (by kernel_rfl) (by kernel_rfl),fun H' w vals x s u o i h n l m a=> ?_⟩;obtain⟨v,rfl,f⟩:=Vg m;have key:=Vf (P:=PR) (C:=ctx 18 [(38,gJ),(118,bg)] []) (nN ⟨fun _=>vC,fun _=>FQ,tZ⟩ trivial) mixed Tryz.func117 (body:=wt Tryz.f117) (by kernel_rfl) (by kernel_rfl) (fun _=>none) (T:=3) (st:= .int) (rs:=[.bool])
  (vals:=[v,.pointer (some ⟨b,0,none⟩)]) (j x.1 s a.1 a.2.1) (by kernel_rfl) i h n rfl l
 refine key (fun ρ g e k sv hk=> ?_)
 match k,hk with
 |0,hk=>
  have hk:some (SV.dat tNo x.1)=some sv:=hk;simp only[jw] at hk;subst hk;exact⟨v,rfl,by simp only[SV.den];rw[g];exact f⟩
 |1,hk=>
  have hk:some (SV.bp yn 0)=some sv:=hk;simp only[jw] at hk;subst hk;refine⟨_,rfl,?_⟩;simp only[SV.den];intro p d;rw[e] at d;simp at d;subst d;exact⟨b,0,rfl,rfl⟩
 |k+2,hk=>cases hk
def EN (f:Nat) (rs:List Ty) (pre:FE->List NoD->Int->Prop) (K:FE->List NoD->Int->(Ty.st rs).Data×Int):Prop:=
 ∀(l:List NoD) (y:FE) (s:Int) (H:Imm) (w:World) (b:Nat) (lv a u:Value),eI H w->H b=none->w.heap[b]? =some (.cells #[u] 3 (0,0))->Ty.int.rv H u s->
  (Ty.slice tNo).rv H lv l->FnG H b y a->pre y l s->Calls PR f #[lv,a] w (PN H w b 3 .int rs (K y l s))
theorem jap {C:Ctx} (j:C.ok PR) {f:Nat} {fn:Func} {body:Code} (o:PR.funcs[f]? =some fn) (m:fn.body=some body) (t:fn.ntmps=C.n) (i:Nat.ble 2 C.n=true) (A:FE->Int->Ann) {rs:List Ty}
 {pre:FE->List NoD->Int->Prop} {K:FE->List NoD->Int->(Ty.st rs).Data×Int}
 (x:∀(l:List NoD) (y:FE) (s:Int),pre y l s->XG C (A y s) body ⟨[(0,.dat (.slice tNo) l),(1,.fe false yn 3 .int [tNo] [.bool] y.pre y.K)],[(yn,some (.box 3 false [.dat .int s]))]⟩ (lu C fn 3 .int rs (K y l s))):EN f rs pre K:=by
 intro l y s H w b lv h u q g z v r B d;have key:=Vf (P:=PR) j mixed o m t (A y s) (T:=3) (st:= .int) (rs:=rs) (vals:=[lv,h]) (x l y s d) i q g z rfl v;refine key (fun ρ e c k sv hk=> ?_)
 match k,hk with
 |0,hk=>
  have hk:some (SV.dat (.slice tNo) l)=some sv:=hk;simp only[jw] at hk;subst hk;exact⟨lv,rfl,by simp only[SV.den];rw[e];exact r⟩
 |1,hk=>
  have hk:some (SV.fe false yn 3 .int [tNo] [.bool] y.pre y.K)=some sv:=hk;simp only[jw] at hk;subst hk;refine⟨_,rfl,?_⟩;simp only[SV.den];intro p a;rw[c] at a;simp at a;subst a;exact⟨b,0,rfl,h,by rw[e];exact B,rfl⟩
 |k+2,hk=>cases hk
theorem uf {σ:St} {o:Nat} {s:Int} (h:Vb σ o=some s):∃c,σ.obj o=some (.box 3 false [c])/\vZ σ .int c=some (s,[]):=by
 unfold Vb at h
 split at h
 case h_2=>cases h
 rename_i T c d
 split at h
 case h_2=>cases h
 rename_i e a b;simp at h;subst h;have:=jb a;subst this;exact⟨c,d,b⟩
theorem Rs {q:Bool} {o T:Nat} {st:Ty} {ps rs:List Ty} {pre:(Ty.st ps).Data->st.Data->List Prop} {K:(Ty.st ps).Data->st.Data->(Ty.st rs).Data×st.Data} {y:FE} (h:jao st ps rs pre K=some y):
 SV.fe q o T st ps rs pre K=SV.fe q o T .int [tNo] [.bool] y.pre y.K:=by
 unfold jao at h
 split at h
 case isFalse=>cases h
 rename_i a
 split at h
 case isFalse=>cases h
 rename_i b
 split at h
 case isFalse=>cases h
 rename_i c;subst a;subst b;subst c;simp at h;subst h;rfl
theorem KL {v:SV} {o:Nat} {y:FE} (h:jcB v=some (o,y)):v= .fe false o 3 .int [tNo] [.bool] y.pre y.K:=by
 unfold jcB at h
 split at h
 case h_2=>cases h
 rename_i o' T st ps rs pre K
 split at h
 case h_2=>cases h
 rename_i c a b;simp at h;obtain⟨rfl,rfl⟩:=h;have:=jb a;subst this;exact Rs b
theorem Vi {σ:St} {b o:Nat} {y:FE} (h:jcX σ b=some (o,y)):∃T fz,σ.obj b=some (.box T fz [.fe false o 3 .int [tNo] [.bool] y.pre y.K]):=by
 unfold jcX at h
 split at h
 case h_2=>cases h
 rename_i d fz c a;rw[KL h] at a;exact⟨_,_,a⟩
abbrev jcY (y:FE) (l:List NoD) (s:Int):(Ty.st [.int]).Data×Int:=(((qR y.K 0 l s).1,()),(qR y.K 0 l s).2)
abbrev jcZ (y:FE) (l:List NoD) (s:Int):(Ty.st [.bool]).Data×Int:=((decide (0<=(qR y.K 0 l s).1),()),(qR y.K 0 l s).2)
abbrev jc0 (y:FE) (l:List NoD) (s:Int):(Ty.st [.bool]).Data×Int:=((!decide (0<=(qR (yT y.K) 0 l s).1),()),(qR (yT y.K) 0 l s).2)
theorem NG (L:EN 66 [.int] (fun y l s=>b8 y.pre y.K l s) jcY) {σ:St} {svs:List SV} {out:Out} (h:Vc σ svs=some out) {B:w5} {ρ:Env} {w:World} {vals:List Value} (I:Sat PR B ρ σ.obj w) (C:SV.denL PR ρ svs vals)
 (t:qU out.vc):Calls PR 66 vals.toArray w (fun e w'=>∃v,e= .returned v/\kO PR B ρ σ out v w'):=by
 unfold Vc at h
 split at h
 case h_2=>cases h
 rename_i a c
 split at h
 case h_2=>cases h
 rename_i l fz o y M n
 split at h
 case h_2=>cases h
 rename_i s q O;simp at h;subst h;obtain⟨S,_⟩:=t;have F:=KL n;subst F;simp only[SV.denL] at C;obtain⟨D,_,rfl,E,vc,_,rfl,x,rfl⟩:=C;obtain⟨c,R,J⟩:=uf O;refine lw (st:= .int) (rs:=[.int]) (r:=jcY y l s) I fz q R rfl (fun ρ1 b V u d g f N G Q m=> ?_);have A:=vl σ fz;have P:=kS d A J (fun o i=>by simp at i) m;have p:=kS d A M (fun o i=>i) (SV.den_mono g a D (fun o i=>by simp at i) E);simp only[SV.den] at x;obtain⟨W,C',z,T,k,j⟩:=x _ (by rw[<-f];exact N);simp at z;obtain⟨rfl,rfl⟩:=z;have j:vc=T:=j;subst j;exact L l y s ρ1.H w b D vc u d.good G Q P p (FnE.mono g.H k) S
theorem NH (D:y7) (he:EN 163 [.bool] (fun y l s=>b8 y.pre y.K l s) jcZ) {σ:St} {svs:List SV} {out:Out} (h:Vd σ svs=some out) {B:w5} {ρ:Env} {w:World} {vals:List Value} (hS:Sat PR B ρ σ.obj w)
 (R:SV.denL PR ρ svs vals) (L:qU out.vc):Calls PR 163 vals.toArray w (fun e w'=>∃v,e= .returned v/\kO PR B ρ σ out v w'):=by
 unfold Vd at h
 split at h
 case h_2=>cases h
 rename_i a f j
 split at h
 case h_2=>cases h
 rename_i l fz o y hf hl E
 split at h
 case h_2=>cases h
 rename_i s I hs;simp at h;subst h;obtain⟨q1,_⟩:=L;simp only[SV.denL] at R;obtain⟨S,_,rfl,Z,vc,_,rfl,O,rfl⟩:=R;simp only[SV.den,SV.denL] at O;obtain⟨vs,rfl,v5,_,i,Y,rfl⟩:=O;have i:vs= #[v5]:=jF.1 (by simpa using i);subst i;have:=jb hf;subst this;obtain⟨c,hx,hc⟩:=uf hs;obtain⟨W,fz5,M⟩:=Vi E;refine lw (st:= .int) (rs:=[.bool]) (r:=jcZ ⟨DD y.pre,yT y.K⟩ l s) hS (j::fz) I hx rfl (fun ρ1 b Cp u d G k hp hH hw C=> ?_);have x:=vl σ (j::fz);have hu:=kS d x hc (fun o m=>by simp at m) C;have F:=kS d x hl (fun o m=>jo _ m) (SV.den_mono G a S (fun o m=>by simp at m) Z);have n:(σ.frz (j::fz)).obj j=some (.box W true [.fe false o 3 .int [tNo] [.bool] y.pre y.K]):=(by rw[(x j).2 (by simp),M];rfl);obtain⟨p5,J,b5,C5,N,rfl,hw5,g,_,A⟩:=d.obs j _ n;obtain⟨X,V,Q,q⟩:=Y _ (by rw[<-k];exact J);simp at Q;obtain⟨rfl,rfl⟩:=Q;subst q;simp only[SV.denL,SV.den] at g;obtain⟨T,_,t,hy,rfl⟩:=g;have t:N= #[T]:=jF.1 (by simpa using t);subst t;obtain⟨b',C',P,u',z,p⟩:=hy _ hp;simp at P;obtain⟨rfl,rfl⟩:=P;have p:T=u':=p;subst p;exact he l ⟨DD y.pre,yT y.K⟩ s ρ1.H w b S _ u d.good hH hw hu F (Vh D z A) q1
theorem NI (P:cM) (J:EN 119 [.bool] (fun y l s=>b8 (DD y.pre) (yT y.K) l s) jc0) {σ:St} {svs:List SV} {out:Out} (h:XI σ svs=some out) {B:w5} {ρ:Env} {w:World} {vals:List Value} (G:Sat PR B ρ σ.obj w)
 (A:SV.denL PR ρ svs vals) (q:qU out.vc):Calls PR 119 vals.toArray w (fun e w'=>∃v,e= .returned v/\kO PR B ρ σ out v w'):=by
 unfold XI at h
 split at h
 case h_2=>cases h
 rename_i a f o
 split at h
 case h_2=>cases h
 rename_i l fz L M
 split at h
 case h_2=>cases h
 rename_i s p O;simp at h;subst h;obtain⟨T,_⟩:=q;simp only[SV.denL] at A;obtain⟨C,_,rfl,E,vc,_,rfl,t,rfl⟩:=A;simp only[SV.den,SV.denL] at t;obtain⟨vs,rfl,V,_,d,D,rfl⟩:=t;have d:vs= #[V]:=jF.1 (by simpa using d);subst d;have:=jb L;subst this;obtain⟨c,S,I⟩:=uf O;refine lw (st:= .int) (rs:=[.bool]) (r:=jc0 ⟨jcj,PG⟩ l s) G fz p S rfl (fun ρ1 b W u g n i N F R k=> ?_);have z:=vl σ fz;have Q:=kS g z I (fun o j=>by simp at j) k;have m:=kS g z M (fun o j=>j) (SV.den_mono n a C (fun o j=>by simp at j) E);obtain⟨X,C',x,ev⟩:=D _ (by rw[<-i];exact N);simp at x;obtain⟨rfl,rfl⟩:=x;subst ev;exact J l ⟨jcj,PG⟩ s ρ1.H w b C _ u g.good F R Q m (Rr P ρ1.H b) T
theorem NJ {n:Nat} {fs:List (Nat×we)} {k:Nat} {e:St->List SV->Option Out} (c:mS fs) (b:enters PR k)
 (j:∀σ svs out,e σ svs=some out->∀B ρ w vals,Sat PR B ρ σ.obj w->SV.denL PR ρ svs vals->qU out.vc->Calls PR k vals.toArray w (fun e w'=>∃v,e= .returned v/\kO PR B ρ σ out v w')):(YQ n fs k e).ok PR:=by
 refine⟨OP WO,du c,O8,rfl,fun f dst σ svs out h=> ?_⟩;have a:(match Nat.beq f k with|true=>e σ svs|false=>none)=some out:=h
 split at a
 case h_2=>cases a
 rename_i l;have:=jb l;subst this;exact⟨b,fun B ρ w vals g i d _ _=>j σ svs out a B ρ w vals g i d⟩
theorem enI:EN 66 [.int] (fun y l s=>b8 y.pre y.K l s) jcY:=
 jap (C:=ctx 19 [] []) (nN trivial trivial) Tryz.func66 (body:=wt Tryz.f66) (by kernel_rfl) (by kernel_rfl) (by kernel_rfl) (fun y s=>Ve y.K y.pre s) (fun l y s h=>aR.mpr dU l y s h)
theorem enC:EN 163 [.bool] (fun y l s=>b8 y.pre y.K l s) jcZ:=
 jap (C:=YQ 9 [] 66 Vc) (NJ trivial (qC Tryz.func66 (c:=wt Tryz.f66) (by kernel_rfl) (by kernel_rfl)) (fun _ _ _ h _ _ _ _ b d a=>NG enI h b d a))
  Tryz.func163 (body:=wt Tryz.f163) (by kernel_rfl) (by kernel_rfl) (by kernel_rfl) (fun _ _ _=>none) (fun l y s h=>gK.mpr bJ l y s h)
theorem enV:EN 119 [.bool] (fun y l s=>b8 (DD y.pre) (yT y.K) l s) jc0:=
 jap (C:=YQ 9 [] 163 Vd) (NJ trivial (qC Tryz.func163 (c:=wt Tryz.f163) (by kernel_rfl) (by kernel_rfl)) (fun _ _ _ h _ _ _ _ b d a=>NH (iP.mpr sA) enC h b d a))
  Tryz.func119 (body:=wt Tryz.f119) (by kernel_rfl) (by kernel_rfl) (by kernel_rfl) (fun _ _ _=>none) (fun l y s h=>ny.mpr Ab l y s h)
theorem noI:∀(l:List NoD) (i:Nat) (s:Int),(!decide (0<=(qR (yT PG) i l s).1))=uY s l
 |[],i,s=>rfl
 |n::r,i,s=>by
  rw[KK,uY]
  have a:(yT PG (n,()) s).1.1= !(Ih s n):=rfl
  have e2:(yT PG (n,()) s).2=V6 n:=rfl
  rw[a,e2]
  cases b:Ih s n with
  |true=>rw[jc (by decide),noI r (i+1) (V6 n)];rfl
  |false=>
   rw[je (by decide)]
   have:decide (0<=(i:Int))=true:=jJ (by omega)
   show(!decide (0<=(i:Int)))=_
   rw[this];rfl
theorem jdn:∀(l:List NoD) (s:Int),-4611686018427387904<=s->s<=4611686018427387904->b8 (DD jcj) (yT PG) l s
 |[],_,_,_=>trivial
 |n::r,s,h1,h2=>by
  refine⟨⟨⟨h1,h2,tZ⟩,tZ⟩,fun a=> ?_⟩
  have a:(!(Ih s n))=false:=a
  have a:Ih s n=true:=by simpa using a
  unfold Ih at a
  rw[ji,qx] at a
  exact jdn r (V6 n) (by omega) (by omega)
theorem KM:sy:=by
 unfold sy jev jek jeu jeU jet jeT Prod.q4;rintro⟨⟨un,rt,le,dk,dw,ni,mi,cp,sb,no,⟨⟩⟩,⟨⟩⟩;have e:vg (un,rt,le,dk,dw,ni,mi,cp,sb,no,())=((kj un 1 240&&kj rt 0 10000&&kj le 0 20&&kj dk 0 1440&&kj dw 0 dk&&U.share ni&&kj mi 0 10000)&&
  (decide ((sb.length:Int)=4)&&sb.all (kl fun(x:Int×Unit)=>(U.share x.fst,()))&&kj cp 0 1000000&&decide ((no.length:Int)<=4)&&uY 100001 no)):=by
  have n:decide ((sb.length:Int)=4)=decide (sb.length=4):=decide_eq_decide.2 (by omega);have e2:decide ((no.length:Int)<=4)=decide (no.length<=4):=decide_eq_decide.2 (by omega);rw[n,e2];rfl
 simp only;refine⟨fun f=>⟨f,f,f,fun g=>⟨g,g,g,fun i=>⟨i,i,i,fun c=>⟨c,c,c,c,c,fun j=>⟨j,j,j,fun k=>⟨k,k,k,fun d=>⟨d,d,fun _=>⟨d,d,fun l=>⟨l,l,fun _ _=>tZ,l,fun m=>⟨m,m,m,fun a=>⟨a,a,fun _=>⟨a,a,fun b=>⟨b,b,b,jdn no 100001 (by omega) (by omega),b,?_⟩,fun h=> ?_⟩⟩,fun h=> ?_⟩,fun h=> ?_⟩,fun h=> ?_⟩⟩,fun h=> ?_⟩,fun h=> ?_⟩,fun h=> ?_⟩,fun h=> ?_⟩,fun h=> ?_⟩,fun h=> ?_⟩,fun h=> ?_⟩
 .rw[noI,e];simp only[f,g,i,c,j,k,d,l,m,a,b,Bool.true_and]
 all_goals
  have q:=e;simp only[h,Bool.false_and,Bool.and_false] at q;simp only[h,q,and_self]
theorem HF:wo PR 89 sw:=
 jbj (NJ (n:=69) (fs:=[(38,gJ),(118,bg),(86,cL)]) (k:=119) (e:=XI) ⟨fun _=>vC,fun _=>FQ,fun _=>nP,tZ⟩
  (qC Tryz.func119 (c:=wt Tryz.f119) (by kernel_rfl) (by kernel_rfl)) (fun _ _ _ h _ _ _ _ b d a=>NI (su.mpr Er) enV h b d a))
  mixed Tryz.func89 (by kernel_rfl) (by kernel_rfl) (by kernel_rfl) (by decide) sx (Aa.mpr KM)
namespace U
def cmStep (m:List (Int×CaD)) (c:CaD):List (Int×CaD):=eK .int (Lw c) c m
def pA (l:List CaD) (n:Nat):List (Int×CaD):=(l.take n).foldl cmStep []
def kH (l:LgD) (F:BoD×Unit->Bool×Unit):Bool:=(F ((l,[],()),())).1
end U
def Rt:we:=⟨[.val tLg],[.int],false,fun d=>[(kX (ku d.1)).length<=100000],fun d=>(wa d.1,())⟩
def Ru:Ann:=fun r=>match r with
 |14=>some fun σ=>{X:=Nat,sl:=fun i=>[(68,.dat .int (i:Int))],ob:=fun i=>[(64,some (.map false .int tCa (pA (gd (.slice tCa) σ 66) i)))],inv:=fun i=>i<=(gd (.slice tCa) σ 66).length/\∀b:Nat,b<i->gj (gd (.slice tCa) σ 66) b=false,mu:=fun i=>(gd (.slice tCa) σ 66).length-i}
 |_=>none
abbrev je8 (d:LgD×Unit):=(d.1.1.2.2.1.length:Int)
abbrev jhC (d:LgD×Unit):=(decide ((d.1.2.2.1.length:Int)≠(je8 d))|| !d.1.2.2.1.all (kl fun(a:Int×Unit)=>(uZ a.1,())))
abbrev jhD (d:LgD×Unit):=(decide ((d.1.2.1.length:Int)≠(je8 d))|| !d.1.2.1.all (kl fun(a:Int×Unit)=>(Lf a.1,())))
abbrev jfR (d:LgD×Unit):=(d.1.q4.1.length:Int)
abbrev jhE (d:LgD×Unit):=(!vg d.1.2.2.2.1||decide (10<(jfR d))|| !d.1.q4.1.all (kl fun(a:CaD×Unit)=>(VU (je8 d) a.1,())))
abbrev jgj (d:LgD×Unit)(x:Nat):=(nth d.1.q4.1 x)
abbrev jhF (d:LgD×Unit)(x:Nat):=(Yg (kL Ty.int (jgj d x).1 (pA d.1.q4.1 x))&& !decide (kW ((0:Int),(0:Int),(0:Int),()) (kL Ty.int (jgj d x).1 (pA d.1.q4.1 x))=nth d.1.q4.1 x))
def Rv:Prop:=∀(d:LgD×Unit),(kX (ku d.1)).length<=100000->(kX d.1.1).length<=100000/\(decide (wm d.1.1≠0)=true->(wm d.1.1,())=(wa d.1,()))/\(decide (wm d.1.1≠0)=false->d.1.1.2.2.1.length<4611686018427387904->d.1.2.1.length<4611686018427387904->((!decide ((d.1.2.1.length:Int)≠(je8 d)))=true->∀(g:Int),g∈d.1.2.1->kG [])/\((jhD d)=true->((70:Int),())=(wa d.1,()))/\((jhD d)=false->d.1.2.2.1.length<4611686018427387904->((!decide ((d.1.2.2.1.length:Int)≠(je8 d)))=true->∀(g:Int),g∈d.1.2.2.1->kG [])/\((jhC d)=true->((70:Int),())=(wa d.1,()))/\((jhC d)=false->((!!vg d.1.2.2.2.1)=true->d.1.q4.1.length<4611686018427387904)->((!(!vg d.1.2.2.2.1||decide (10<(jfR d))))=true->∀(c:CaD),c∈d.1.q4.1->kG [0<=(je8 d),(je8 d)<=4611686018427387904])/\((jhE d)=true->((70:Int),())=(wa d.1,()))/\((jhE d)=false->d.1.q4.1.length<4611686018427387904->(∃(x:Nat),((0=(x:Int)/\True)/\[]=pA d.1.q4.1 x/\True)/\x<=d.1.q4.1.length/\∀(b:Nat),b<x->gj d.1.q4.1 b=false)/\∀(x:Nat),(x<=d.1.q4.1.length/\∀(b:Nat),b<x->gj d.1.q4.1 b=false)->(decide ((x:Int)<(jfR d))=true->0<=(x:Int)/\(x:Int)<(jfR d)/\((jhF d x)=true->((71:Int),())=(wa d.1,()))/\((jhF d x)=false->kM ((x:Int)+1)/\∃(a:Nat),(((x:Int)+1=(a:Int)/\True)/\eK Ty.int (jgj d x).1 (jgj d x) (pA d.1.q4.1 x)=pA d.1.q4.1 a/\True)/\(a<=d.1.q4.1.length/\∀(b:Nat),b<a->gj d.1.q4.1 b=false)/\d.1.q4.1.length-a<d.1.q4.1.length-x))/\(decide ((x:Int)<(jfR d))=false->((0:Int),())=(wa d.1,()))))))
theorem KN {l:List CaD} {n:Nat} (h:n<l.length):pA l (n+1)=eK .int (Lw (nth l n)) (nth l n) (pA l n):=by
 unfold pA;rw[L.k8 h,jT];rfl
theorem Vj (l:List CaD):∀x,x<=l.length->∀k:Int,(kL .int k (pA l x)=none->∀j,j<x->Lw (nth l j)≠k)/\(∀c,kL .int k (pA l x)=some c->∃j,j<x/\nth l j=c/\Lw c=k)
 |0,_,k=>⟨fun _ j a=>by omega,fun c h=>by cases h⟩
 |x+1,i,k=>by
  obtain⟨d,f⟩:=Vj l x (by omega) k
  rw[KN (show x<l.length by omega)]
  by_cases e:k=Lw (nth l x)
  subst e
  rw[M.pC (kt:= .int)]
  refine⟨fun h=>(by cases h),fun c h=> ?_⟩
  simp only[jw] at h
  subst h
  exact⟨x,by omega,rfl,rfl⟩
  rw[M.cT (kt:= .int) e]
  refine⟨fun h j a=> ?_,fun c h=> ?_⟩
  by_cases e2:j=x
  subst e2;exact fun b=>e b.symm
  exact d h j (by omega)
  obtain⟨j,a,g⟩:=f c h
  exact⟨j,by omega,g⟩
theorem KO {l:List CaD} {i:Nat} (hi:i<=l.length):gj l i=true↔∃j,j<i/\Lw (nth l j)=Lw (nth l i)/\nth l j≠nth l i:=by
 unfold gj;rw[j8];constructor;rintro⟨x,d,h⟩;obtain⟨j,c,rfl⟩:=zi.1 d;simp only[ji,jr,jN,jD] at h;refine⟨j,by omega,?_⟩;rw[L.wD (show j<l.length by omega)];exact h;rintro⟨j,c,a,b⟩;refine⟨nth l j,zi.2 ⟨j,by omega,(L.wD (by omega)).symm⟩,?_⟩;simp only[ji,jr,jN,jD];exact⟨a,b⟩
theorem jaq {l:List CaD} {x:Nat} (u:x<l.length) (h:∀b:Nat,b<x->gj l b=false):
 (Yg (kL .int (nth l x).1 (pA l x))&& !decide (kW ((0:Int),(0:Int),(0:Int),()) (kL .int (nth l x).1 (pA l x))=nth l x))=gj l x:=by
 obtain⟨k,r⟩:=Vj l x (by omega) (nth l x).1;have no:∀i j,i<j->j<x->Lw (nth l i)=Lw (nth l j)->nth l i=nth l j:=fun i j a f s=>by
  by_cases e:nth l i=nth l j;exact e;have:=(KO (show j<=l.length by omega)).2 ⟨i,a,s,e⟩;rw[h j f] at this;cases this
 rw[j6,KO (by omega)];cases p:kL (β:=CaD) .int (nth l x).1 (pA l x) with
 |none=>
  have k:=k p;constructor;intro t;cases t;rintro⟨j,f,e,_⟩;exact absurd e (k j f)
 |some c=>
  obtain⟨j,f,d,o⟩:=r c p;show(!decide (c=nth l x))=true↔_;rw[jN,jD];constructor;intro m;exact⟨j,f,by rw[d];exact o,by rw[d];exact m⟩;rintro⟨i,hi,q,e2⟩ g;have n:Lw (nth l i)=Lw (nth l j):=(by rw[d,q];exact o.symm);rcases Nat.lt_trichotomy i j with a|a|a;exact e2 (by rw[no i j a f n,d,g]);subst a;exact e2 (by rw[d,g]);exact e2 (by rw[<-no j i a hi n.symm,d,g])
theorem NK {l:List CaD} {x:Nat} (a:x<l.length) (h:gj l x=true):vR l=true:=by
 unfold vR l9;rw[j8];exact⟨x,jC.2 a,h⟩
theorem KP {l:List CaD} (h:∀b:Nat,b<l.length->gj l b=false):vR l=false:=by
 unfold vR l9;rw[zh];intro b a;rw[h b (jC.1 a)];decide
theorem jc1 {b:Bool} (h:(!b)=true):b=false:=by cases b with|false=>rfl|true=>cases h
theorem jc2 {b:Bool} (h:(!b)=false):b=true:=by cases b with|true=>rfl|false=>cases h
theorem jdo (a b:Nat) (p:Bool):(decide ((a:Int)≠(b:Int))|| !p)= !(decide (a=b)&&p):=by
 by_cases e:a=b;subst e;simp;have:(a:Int)≠(b:Int):=(by omega);simp[e,this]
theorem jar (l:LgD):ay l=((decide ((vQ l).length=(kB (ku l)).length)&&(vQ l).all Lf)&&(decide ((DC l).length=(kB (ku l)).length)&&(DC l).all uZ)&&(vg (eJ l)&&(decide ((kP l).length<=10)&&(kP l).all (iS (kB (ku l)).length)))):=rfl
theorem Vk:Rv:=by
 unfold Rv jhF jgj jhE jfR jhD jhC je8 Prod.q4;rintro⟨l,⟨⟩⟩ C;have y:∀v,wm (ku l)≠0->v=wm (ku l)->((v:Int),())=(wa l,()):=fun v h e=>by
  unfold wa;rw[je h,e]
 have c:¬(wm (ku l)≠0)->ay l=false->((70:Int),())=(wa l,()):=fun h e=>by
  unfold wa;rw[jc h,je e]
 have o:¬(wm (ku l)≠0)->ay l=true->vR (kP l)=true->((71:Int),())=(wa l,()):=fun h e e2=>by
  unfold wa;rw[jc h,jc (by rw[e];decide),je e2]
 have n:¬(wm (ku l)≠0)->ay l=true->vR (kP l)=false->((0:Int),())=(wa l,()):=fun h e e2=>by
  unfold wa;rw[jc h,jc (by rw[e];decide),jc (by rw[e2];decide)]
 have q:=jdo (vQ l).length (kB (ku l)).length ((vQ l).all Lf);have r:=jdo (DC l).length (kB (ku l)).length ((DC l).all uZ);have s:(!vg (eJ l)||decide ((10:Int)<(kP l).length)|| !(kP l).all (iS (kB (ku l)).length))= !(vg (eJ l)&&(decide ((kP l).length<=10)&&(kP l).all (iS (kB (ku l)).length))):=by
  have:decide ((10:Int)<(kP l).length)= !decide ((kP l).length<=10):=by
   by_cases e:(kP l).length<=10;rw[jJ e,zl (by omega)];rfl;rw[zl e,jJ (by omega)];rfl
  rw[this];cases vg (eJ l)<;>cases decide ((kP l).length<=10)<;>rfl
 have m:=jar l;refine⟨C,fun h=>y _ (ja h) rfl,fun h k _=>⟨fun _ _ _=>tZ,fun g=> ?_,fun g _=>⟨fun _ _ _=>tZ,fun i=> ?_,fun i _=>⟨fun _ _ _=>⟨zb _,?_,tZ⟩,fun j=> ?_,fun j w=>⟨⟨0,⟨⟨rfl,tZ⟩,rfl,tZ⟩,jv _,fun b u=>by omega⟩,fun x D=> ?_⟩⟩⟩⟩⟩;have g:=q.symm.trans g;refine c (jd h) ?_;rw[m,show(decide ((vQ l).length=(kB (ku l)).length)&&(vQ l).all Lf)=false from jc1 g];rfl;have i:=r.symm.trans i;refine c (jd h) ?_;rw[m,show(decide ((DC l).length=(kB (ku l)).length)&&(DC l).all uZ)=false from jc1 i,Bool.and_false];rfl;have k:(kB (ku l)).length<4611686018427387904:=k;show((kB (ku l)).length:Int)<=4611686018427387904;omega;have j:=s.symm.trans j;refine c (jd h) ?_;rw[m,show(vg (eJ l)&&(decide ((kP l).length<=10)&&(kP l).all (iS (kB (ku l)).length)))=false from jc1 j,Bool.and_false];have z:=q.symm.trans g;have A:=r.symm.trans i;have B:=s.symm.trans j;have t:ay l=true:=by
  rw[m,show(decide ((vQ l).length=(kB (ku l)).length)&&(vQ l).all Lf)=true from jc2 z,show(decide ((DC l).length=(kB (ku l)).length)&&(DC l).all uZ)=true from jc2 A,show(vg (eJ l)&&(decide ((kP l).length<=10)&&(kP l).all (iS (kB (ku l)).length)))=true from jc2 B];rfl
 obtain⟨E,d⟩:x<=(kP l).length/\∀b:Nat,b<x->gj (kP l) b=false:=D;have w:(kP l).length<4611686018427387904:=w;refine⟨fun f=> ?_,fun f=> ?_⟩;have f:(x:Int)<(kP l).length:=ja f;have a:x<(kP l).length:=(by omega);have cc:=jaq a d;refine⟨zb _,f,fun p=> ?_,fun p=>⟨iZ6,x+1,⟨⟨by simp,tZ⟩,(KN a).symm,tZ⟩,⟨a,fun b u=> ?_⟩,by show(kP l).length-(x+1)<(kP l).length-x;omega⟩⟩;exact o (jd h) t (NK a (cc.symm.trans p));by_cases e:b=x;subst e;exact cc.symm.trans p;exact d b (by omega);have f:¬(x:Int)<(kP l).length:=jd f;exact n (jd h) t (KP fun b u=>d b (by omega))
theorem Rw:wo PR 59 Rt:=q7 Ru Vk Tryz.func59 (kcC FH (kcC HF (kcC nP (kcC KH (kcC KI (kcC KJ (kcC De kcN))))))) koN
end Go.X
namespace Go.Proofs
open Go.Shelf
def Tryz.sortLn_ren:Go.Shelf.Ren:=⟨fun|6=>62|15=>93|14=>92|28=>130|29=>131|20=>122|21=>123|22=>124|23=>125|24=>126|25=>127|26=>128|27=>129|46=>166|47=>167|48=>168|49=>169|50=>170|57=>211|n=>n,fun|22=>45|24=>51|25=>117|3=>3|39=>105|0=>0|53=>180|55=>182|4=>4|46=>174|45=>173|50=>63|5=>5|9=>9|66=>207|70=>211|76=>234|77=>235|n=>n,fun|n=>n⟩
theorem Tryz.sortLn:Go.Proofs.SlLaysF0.n6 Tryz.prog Tryz.sortLn_ren:={
 mixed:=by kernel_rfl
 f6:=⟨Tryz.f62.name,by decide,xlay Tryz.func62⟩
 f14:=⟨Tryz.f92.name,by decide,xlay Tryz.func92⟩
 f15:=xlay Tryz.func93
 f20:=⟨Tryz.f122.name,by decide,xlay Tryz.func122⟩
 f21:=⟨Tryz.f123.name,by decide,xlay Tryz.func123⟩
 f22:=⟨Tryz.f124.name,by decide,xlay Tryz.func124⟩
 f23:=⟨Tryz.f125.name,by decide,xlay Tryz.func125⟩
 f24:=⟨Tryz.f126.name,by decide,xlay Tryz.func126⟩
 f25:=⟨Tryz.f127.name,by decide,xlay Tryz.func127⟩
 f26:=⟨Tryz.f128.name,by decide,xlay Tryz.func128⟩
 f27:=⟨Tryz.f129.name,by decide,xlay Tryz.func129⟩
 f28:=xlay Tryz.func130
 f29:=xlay Tryz.func131
 f46:=⟨Tryz.f166.name,by decide,xlay Tryz.func166⟩
 f47:=xlay Tryz.func167
 f48:=xlay Tryz.func168
 f49:=⟨Tryz.f169.name,by decide,xlay Tryz.func169⟩
 f50:=⟨Tryz.f170.name,by decide,xlay Tryz.func170⟩
 f57:=⟨Tryz.f211.name,by decide,xlay Tryz.func211⟩
 t0:=Tryz.underlying0
 a0:=Tryz.isAgg0
 z0:=Tryz.sizeOf0
 v0:=Tryz.zeroValue0
 t3:=Tryz.underlying3
 a3:=Tryz.isAgg3
 z3:=Tryz.sizeOf3
 v3:=Tryz.zeroValue3
 t4:=Tryz.underlying4
 a4:=Tryz.isAgg4
 z4:=Tryz.sizeOf4
 v4:=Tryz.zeroValue4
 t5:=Tryz.underlying5
 a5:=Tryz.isAgg5
 z5:=Tryz.sizeOf5
 v5:=Tryz.zeroValue5
 t9:=Tryz.underlying9
 a9:=Tryz.isAgg9
 z9:=Tryz.sizeOf9
 v9:=Tryz.zeroValue9
 t22:=Tryz.underlying45
 a22:=Tryz.isAgg45
 z22:=Tryz.sizeOf45
 v22:=Tryz.zeroValue45
 t25:=Tryz.underlying117
 a25:=Tryz.isAgg117
 z25:=Tryz.sizeOf117
 v25:=Tryz.zeroValue117
 t39:=Tryz.underlying105
 a39:=Tryz.isAgg105
 z39:=Tryz.sizeOf105
 v39:=Tryz.zeroValue105
 t45:=Tryz.underlying173
 a45:=Tryz.isAgg173
 z45:=Tryz.sizeOf173
 v45:=Tryz.zeroValue173
 t46:=Tryz.underlying174
 a46:=Tryz.isAgg174
 z46:=Tryz.sizeOf174
 v46:=Tryz.zeroValue174
 t50:=Tryz.underlying63
 a50:=Tryz.isAgg63
 z50:=Tryz.sizeOf63
 v50:=Tryz.zeroValue63
 t53:=Tryz.underlying180
 a53:=Tryz.isAgg180
 z53:=Tryz.sizeOf180
 v53:=Tryz.zeroValue180
 t55:=Tryz.underlying182
 a55:=Tryz.isAgg182
 z55:=Tryz.sizeOf182
 v55:=Tryz.zeroValue182
 t66:=Tryz.underlying207
 a66:=Tryz.isAgg207
 z66:=Tryz.sizeOf207
 v66:=Tryz.zeroValue207
 t70:=Tryz.underlying211
 a70:=Tryz.isAgg211
 z70:=Tryz.sizeOf211
 v70:=Tryz.zeroValue211
 t76:=Tryz.underlying234
 a76:=Tryz.isAgg234
 z76:=Tryz.sizeOf234
 v76:=Tryz.zeroValue234
 t77:=Tryz.underlying235
 a77:=Tryz.isAgg235
 z77:=Tryz.sizeOf235
 v77:=Tryz.zeroValue235}
end Go.Proofs
namespace Go.X
open U
open Go.Proofs
abbrev rwN:Sh:= .cl (.row 3 .int .no)
namespace U
def bl (o:Option BlD):BlD:=kT (Ty.dflt tBl) o
def PH (m:List (Int×Option BlD)):Prop:=∀e∈m,∃b,e.2=some b/\pz b
def EM (o:BoD):Prop:=PH (Ir o)/\(Ir o).length<=100/\((Ir o).map (·.1)).Nodup/\∀e∈Ir o,∀b,e.2=some b->Od b=e.1
def PI (b:BlD) (a:Int) (out:List Int):Prop:=(wZ b).length<=8/\(∀p∈wZ b,0<=p/\p<(out.length:Int))/\0<=a/\a<=100000000000000000/\∀x∈out,-1000000000000000000<=x/\x<=1000000000000000000
end U
def sB:we:=⟨[.val tLn,.val tLn],[.int],false,fun _=>[],fun d=>(uq d.1 d.2.1,())⟩
def sC:Prop:=∀(d:JbD×JbD×Unit),(vY [bQ d.1.1 d.2.1.1,bQ d.1.2.1 d.2.1.2.1],())=(uq d.1 d.2.1,())
abbrev pm:qd:=TC tLn 51
def Ac:we:=⟨[.val tBo],[.slice tLn],false,fun d=>[EM d.1],fun d=>(ky d.1,())⟩
def Ad:Ann:=fun r=>match r with
 |3=>some fun σ=>{X:=List (Int×Option BlD)×List LnD,sl:=fun _=>[(3,.own 3 tLn)],ob:=fun x=>[(8,some (.iter .int (.ptr tBl) x.1 none)),(3,some (.row 51 tLn false .yes x.2))],inv:=fun x=>(x.2++qK x.1).Perm (qK (Ir (gb tBo σ 1)))/\PH x.1,mu:=fun x=>x.1.length}
 |_=>none
abbrev jgZ (a:Int×Option BlD):=(kT ((((0:Int),(0:Int),(0:Int),(0:Int),(0:Int),(0:Int),()),(0:Int),(0:Int),(0:Int),()),((0:Int),(0:Int),(0:Int),(0:Int),(0:Int),(0:Int),(0:Int),(0:Int),[],[],()),(0:Int),(0:Int),[],(0:Int),(0:Int),false,(0:Int),()) a.2)
abbrev jgk:=(ko (Ty.int.pair (Ty.int.pair (Ty.int.pair (Ty.int.pair (Ty.int.pair (Ty.int.pair Ty.unit)))))) fun(a:JbD×JbD×Unit)=>(uq a.1 a.2.1,()))
def Ae:Prop:=∀(d:BoD×Unit),EM d.1->(∃(x:List (Int×Option BlD)×List JbD),((True/\True)/\d.1.2.1=x.1/\x.2=[]/\True)/\(x.2++qK x.1).Perm (qK (Ir d.1))/\PH x.1)/\∀(x:List (Int×Option BlD)×List JbD),(x.2++qK x.1).Perm (qK (Ir d.1))/\PH x.1->(x.1=[]->(false=true->False)/\(qF->(∀(e:JbD),e∈x.2->∀(y:JbD),y∈x.2->kG [])/\qP jgk x.2/\(km jgk x.2,())=(ky d.1,())))/\∀(pre:List (Int×Option BlD)) (a:Int×Option BlD) (b:List (Int×Option BlD)),x.1=pre++a::b->(true=true->a.2.isSome=true/\pz (jgZ a)/\(x.2.length+[qc (jgZ a)].length)*48<=140737488355328/\∃(c:List (Int×Option BlD)×List JbD),((True/\True)/\x.2++[qc (jgZ a)]=c.2/\pre++b=c.1/\True)/\((c.2++qK c.1).Perm (qK (Ir d.1))/\PH c.1)/\c.1.length<x.1.length)/\(true=false->(∀(f:JbD),f∈x.2->∀(y:JbD),y∈x.2->kG [])/\qP jgk x.2/\(km jgk x.2,())=(ky d.1,()))
def HG:we:=⟨[.val (.slice .int)],[.int],false,fun d=>[d.1≠[]],fun d=>(yL d.1,())⟩
def HH:Ann:=fun r=>match r with
 |5=>some fun σ=>{X:=Nat,sl:=fun i=>[(4,.dat .int (i:Int)),(3,.dat .int (((gd (.slice .int) σ 0).take i).foldl max (nth (gd (.slice .int) σ 0) 0)))],ob:=fun _=>[],inv:=fun i=>1<=i/\i<=(gd (.slice .int) σ 0).length,mu:=fun i=>(gd (.slice .int) σ 0).length-i}
 |_=>none
def HI:Prop:=∀(d:List Int×Unit),d.1≠[]->d.1.length<4611686018427387904->(decide ((d.1.length:Int)<1)=true->False)/\(decide ((d.1.length:Int)<1)=false->(0:Int)<=0/\0<(d.1.length:Int)/\(∃(x:Nat),((1=(x:Int)/\nth d.1 (Int.toNat 0)=List.foldl max (nth d.1 0) (List.take x d.1)/\True)/\True)/\1<=x/\x<=d.1.length)/\∀(x:Nat),1<=x/\x<=d.1.length->d.1.length<4611686018427387904->(decide ((x:Int)<d.1.length)=true->0<=(x:Int)/\(x:Int)<d.1.length/\kM ((x:Int)+1)/\∃(a:Nat),(((x:Int)+1=(a:Int)/\max (List.foldl max (nth d.1 0) (List.take x d.1)) (nth d.1 x)=List.foldl max (nth d.1 0) (List.take a d.1)/\True)/\True)/\(1<=a/\a<=d.1.length)/\d.1.length-a<d.1.length-x)/\(decide ((x:Int)<d.1.length)=false->(List.foldl max (nth d.1 0) (List.take x d.1),())=(yL d.1,())))
def Af:qd:=⟨[.val (.ptr tBl),.val .int,.own rwN true],[],fun d=>[d.1.isSome=true,PI (U.bl d.1) d.2.1 d.2.2.1],fun d=>((),(Yb d.2.1 (U.bl d.1) d.2.2.1,()))⟩
def Ag:Ann:=fun r=>match r with
 |1=>some fun σ=>{X:=Nat,sl:=fun i=>[(13,.dat .int (i:Int))],ob:=fun i=>[(1000002,some (.row 3 .int false .no (wh (gd .int σ 1) (gd (.slice .int) σ 11) (gr .int σ 1000002) i)))],inv:=fun i=>i<=(gd (.slice .int) σ 11).length,mu:=fun i=>(gd (.slice .int) σ 11).length-i}
 |_=>none
abbrev jdV (d:Option BlD×Int×List Int×Unit):=(kT ((((0:Int),(0:Int),(0:Int),(0:Int),(0:Int),(0:Int),()),(0:Int),(0:Int),(0:Int),()),((0:Int),(0:Int),(0:Int),(0:Int),(0:Int),(0:Int),(0:Int),(0:Int),[],[],()),(0:Int),(0:Int),[],(0:Int),(0:Int),false,(0:Int),()) d.1)
abbrev jeH (d:Option BlD×Int×List Int×Unit):=(↑(jdV d).q4.1.length:Int)
abbrev jfq (d:Option BlD×Int×List Int×Unit)(x:Nat):=(nth (jdV d).q4.1 x)
abbrev jfS (d:Option BlD×Int×List Int×Unit)(x:Nat):=(wh d.2.1 (jdV d).q4.1 d.2.2.1 x)
abbrev jg0 (d:Option BlD×Int×List Int×Unit)(x:Nat):=(nth (jfS d x) (jfq d x).toNat+d.2.1.tdiv (jeH d))
abbrev jfT (d:Option BlD×Int×List Int×Unit)(x:Nat):=((jfS d x).set (jfq d x).toNat (jg0 d x))
def Ah:Prop:=∀(d:Option BlD×Int×List Int×Unit),d.1.isSome=true->PI (U.bl d.1) d.2.1 d.2.2.1->d.1.isSome=true/\((jdV d).q4.1.length<4611686018427387904->(∃(x:Nat),((0=(x:Int)/\True)/\d.2.2.1=wh d.2.1 (jdV d).q4.1 d.2.2.1 x/\True)/\x<=(jdV d).q4.1.length)/\∀(x:Nat),x<=(jdV d).q4.1.length->(decide ((x:Int)<(jeH d))=true->0<=(x:Int)/\(x:Int)<(jeH d)/\0<=nth (jdV d).q4.1 x/\nth (jdV d).q4.1 x<(↑(jfS d x).length:Int)/\d.1.isSome=true/\(jeH d)≠0/\kM (d.2.1.tdiv (jeH d))/\kM (jg0 d x)/\0<=nth (jdV d).q4.1 x/\nth (jdV d).q4.1 x<(↑(jfS d x).length:Int)/\d.1.isSome=true/\((jdV d).q4.1.length<4611686018427387904->(jeH d)≠0/\(decide ((x:Int)<d.2.1.tmod (jeH d))=true->0<=nth (jdV d).q4.1 x/\nth (jdV d).q4.1 x<(↑(jfT d x).length:Int)/\kM (nth (jfT d x) (jfq d x).toNat+1)/\0<=nth (jdV d).q4.1 x/\nth (jdV d).q4.1 x<(↑(jfT d x).length:Int)/\kM ((x:Int)+1)/\∃(a:Nat),(((x:Int)+1=(a:Int)/\True)/\(jfT d x).set (jfq d x).toNat (nth (jfT d x) (jfq d x).toNat+1)=wh d.2.1 (jdV d).q4.1 d.2.2.1 a/\True)/\a<=(jdV d).q4.1.length/\(jdV d).q4.1.length-a<(jdV d).q4.1.length-x)/\(decide ((x:Int)<d.2.1.tmod (jeH d))=false->kM ((x:Int)+1)/\∃(a:Nat),(((x:Int)+1=(a:Int)/\True)/\(jfS d x).set (jfq d x).toNat (jg0 d x)=wh d.2.1 (jdV d).q4.1 d.2.2.1 a/\True)/\a<=(jdV d).q4.1.length/\(jdV d).q4.1.length-a<(jdV d).q4.1.length-x)))/\(decide ((x:Int)<(jeH d))=false->()=()/\(wh d.2.1 (jdV d).q4.1 d.2.2.1 x,())=(Yb d.2.1 (U.bl d.1) d.2.2.1,())))
theorem ug:sC:=fun _=>rfl
theorem sD:wo PR 63 sB:=wb ug Tryz.func63 (kcC vV (kcC aQ kcN)) koN
theorem pn:yS PR 62 pm:=
 B9 Tryz.sortLn 51 rfl (jy (by kernel_rfl)) Tryz.isAgg51 Tryz.sizeOf51 (qC Tryz.func62 (c:=wt Tryz.f62) (by kernel_rfl) (by kernel_rfl))
theorem XJ:fC uq:=by
 have e:uq=R8 (fun a b=>bQ (nW a) (nW b)) (fun a b=>bQ (uX a) (uX b)):=by
  funext a b;unfold uq;simp only[ww,R8]
  split<;>(try rfl)
  split<;>(try rfl)
  rename_i h;exact(jM.1 h).symm
 rw[e];exact oX (nO lG nW) (nO lG uX)
theorem Vl {a b:LnD} (h:uq a b=0):uX a=uX b:=by
 unfold uq at h;rw[ww] at h
 split at h
 contradiction;rw[qD] at h;exact gS.1 h
def jdp (l:List LnD):Prop:=∀a∈l,∀b∈l,uX a=uX b->a=b
theorem jc3 {l:List LnD} (h:jdp l):qP (ko tLn fun x=>(uq x.1 x.2.1,())) l:=AF XJ (fun a b d e c=>h a d b e (Vl c))
theorem FR {o:BoD} (h:EM o):jdp (qK (Ir o)):=by
 obtain⟨j,_,c,d⟩:=h;intro a s b t e;obtain⟨x,f,rfl⟩:=jS.1 s;obtain⟨y,g,rfl⟩:=jS.1 t;obtain⟨p,l,_⟩:=j x f;obtain⟨q,m,_⟩:=j y g;have u:=d x f p l;have w:=d y g q m;rw[l,m] at e;have e:Od p=Od q:=e;have n:x.1=y.1:=(by rw[<-u,<-w,e]);have i:=(M.eH (kt:= .int) c (k:=x.1) (v:=x.2)).2 f;have r:=(M.eH (kt:= .int) c (k:=y.1) (v:=y.2)).2 g;rw[n,r] at i;have e2:y.2=x.2:=(by simpa using i);rw[e2]
theorem Dj:Ae:=by
 unfold Ae jgk jgZ;rintro⟨o,⟨⟩⟩ n;have p:=FR n;obtain⟨s,d,t,u⟩:=id n;have d:(Ir o).length<=100:=d;refine⟨⟨(Ir o,[]),⟨⟨tZ,tZ⟩,rfl,rfl,tZ⟩,List.Perm.refl _,s⟩,fun x q=>⟨fun i=>⟨fun h=>(by cases h),fun _=>⟨fun _ _ _ _=>tZ,?_⟩⟩,fun pre e c j=>⟨fun _=> ?_,fun h=>(by cases h)⟩⟩⟩;obtain⟨l,out⟩:=x;have i:l=[]:=i;subst i;have f:(out++[]).Perm (qK (Ir o)):=q.1;rw[j9] at f;exact⟨jc3 fun a r b g=>p a (f.mem_iff.1 r) b (f.mem_iff.1 g),jR (·,()) (Jf (jc3 p) f)⟩;obtain⟨l,out⟩:=x;have j:l=pre++e::c:=j;subst j;obtain⟨f,hk⟩:(out++qK (pre++e::c)).Perm (qK (Ir o))/\PH (pre++e::c):=q;obtain⟨b,g,v⟩:=hk e (by simp);have m:=f.length_eq;simp only[qK,jI,zr,jZ] at m;obtain⟨k,z⟩:=e;have g:z=some b:=g;subst g;refine⟨rfl,v,by simp only[jZ,zp];omega,(pre++c,out++[qc b]),⟨⟨tZ,tZ⟩,rfl,rfl,tZ⟩,⟨?_,fun y w=>hk y ?_⟩,by simp only[jI,jZ];omega⟩;refine List.Perm.trans ?_ f;simp only[qK,zv,zt,jK,List.singleton_append];exact List.Perm.append_left out List.perm_middle.symm;rcases js.1 w with h|h;exact jh _ h;exact jg _ (jo _ h)
theorem aD:wo PR 35 Ac:=q7 Ad Dj Tryz.func35 (kcC gU (kcC sD kcN)) (koC pn koN)
theorem KQ:HI:=by
 rintro⟨l,⟨⟩⟩ a c;have a:l≠[]:=a;have b:0<l.length:=List.length_pos_iff.2 a;refine⟨fun h=> ?_,fun _=>⟨by decide,by simp only;omega,⟨1,⟨⟨rfl,?_,tZ⟩,tZ⟩,jj _,b⟩,fun x d _=>⟨fun h=> ?_,fun h=> ?_⟩⟩⟩;have h:(l.length:Int)<1:=ja h;omega;show nth l 0=List.foldl max (nth l 0) (l.take 1);have:=L.k8 (l:=l) (i:=0) b;rw[this];show nth l 0=max (nth l 0) (nth l 0);omega;have h:(x:Int)<l.length:=ja h;have c:l.length<4611686018427387904:=c;refine⟨zb _,h,iZ6,x+1,⟨⟨by simp,?_,tZ⟩,tZ⟩,⟨by omega,by show x+1<=l.length;omega⟩,by show l.length-(x+1)<l.length-x;omega⟩;show max (List.foldl max (nth l 0) (l.take x)) (nth l x)=List.foldl max (nth l 0) (l.take (x+1));rw[L.k8 (show x<l.length by omega),jT];rfl;have h:¬(x:Int)<l.length:=jd h;show(List.foldl max (nth l 0) (l.take x),())=(yL l,());rw[zA (by omega)];rfl
theorem HJ:wo PR 72 HG:=q7 HH KQ Tryz.func72 kcN koN
theorem dV (a:Int) (tm out:List Int) (k:Nat):wh a tm out (k+1)=mP a tm (wh a tm out k) k:=by
 unfold wh;rw[ze,jT];rfl
theorem lZ {a M:Int} {tm out:List Int} (h:0<=a/\a<=100000000000000000) (d:∀p∈tm,0<=p/\p<(out.length:Int)) (c:∀x∈out,-1000000000000000000<=x/\x<=M):
 ∀k,k<=tm.length->(wh a tm out k).length=out.length/\∀j,j<out.length->-1000000000000000000<=nth (wh a tm out k) j/\nth (wh a tm out k) j<=M+(k:Int)*100000000000000001
 |0,_=>⟨rfl,fun j e=>by
  have:=c _ (L.kw e)
  show _<=nth out j/\nth out j<=_
  omega⟩
 |k+1,hk=>by
  obtain⟨f,g⟩:=lZ h d c k (by omega)
  have m:=d _ (L.kw (show k<tm.length by omega))
  have n:=XE (b:=(tm.length:Int)) h (by omega)
  rw[dV]
  unfold mP
  refine⟨by rw[zW,f],fun j e=> ?_⟩
  rw[L.yq (by rw[f];omega)]
  have i:=g j e
  have l:=g (nth tm k).toNat (by omega)
  split
  split<;>omega
  omega
theorem Dk:Ah:=by
 unfold Ah jfT jg0 jfS jfq jeH jdV Prod.q4;rintro⟨o,a,out,⟨⟩⟩ j w;obtain⟨b,rfl⟩:∃b,o=some b:=Option.isSome_iff_exists.1 j;obtain⟨z,p,q,r,v⟩:PI b a out:=w;have F:=lZ (tm:=wZ b) ⟨q,r⟩ p v;refine⟨rfl,fun B=>⟨⟨0,⟨⟨rfl,tZ⟩,rfl,tZ⟩,jv _⟩,fun x t=>⟨fun h=> ?_,fun h=>⟨rfl,?_⟩⟩⟩⟩;have h:(x:Int)<(wZ b).length:=ja h;have n:x<(wZ b).length:=(by omega);obtain⟨k,u⟩:=F x (by omega);have d:=p _ (L.kw n);have y:=XE (b:=((wZ b).length:Int)) ⟨q,r⟩ (by omega);have A:=u (nth (wZ b) x).toNat (by omega);have l:(nth (wZ b) x).toNat<(wh a (wZ b) out x).length:=(by rw[k];omega);have j:=dV a (wZ b) out x;have f:((wZ b).length:Int)≠0:=(by omega);have g:nth (wZ b) x<((wh a (wZ b) out x).length:Int):=(by rw[k];exact d.2);have s:nth ((wh a (wZ b) out x).set (nth (wZ b) x).toNat (nth (wh a (wZ b) out x) (nth (wZ b) x).toNat+a.tdiv ((wZ b).length:Int))) (nth (wZ b) x).toNat=nth (wh a (wZ b) out x) (nth (wZ b) x).toNat+a.tdiv ((wZ b).length:Int):=by
  rw[L.yq l,je rfl]
 refine⟨zb _,h,d.1,g,rfl,f,C6 y (by omega),L.EQ (by show _<=nth (wh a (wZ b) out x) (nth (wZ b) x).toNat+a.tdiv ((wZ b).length:Int);omega) (by show nth (wh a (wZ b) out x) (nth (wZ b) x).toNat+a.tdiv ((wZ b).length:Int)<=_;omega),d.1,g,rfl,fun _=>⟨f,fun c=> ?_,fun c=> ?_⟩⟩;have c:(x:Int)<a.tmod ((wZ b).length:Int):=ja c;have m:((wh a (wZ b) out x).set (nth (wZ b) x).toNat (nth (wh a (wZ b) out x) (nth (wZ b) x).toNat+a.tdiv ((wZ b).length:Int))).length=out.length:=(by rw[zW,k]);have i:nth (wZ b) x<(((wh a (wZ b) out x).set (nth (wZ b) x).toNat (nth (wh a (wZ b) out x) (nth (wZ b) x).toNat+a.tdiv ((wZ b).length:Int))).length:Int):=(by rw[m];exact d.2);refine⟨d.1,i,?_,d.1,i,iZ6,x+1,⟨⟨by simp,tZ⟩,?_,tZ⟩,by show x+1<=(wZ b).length;omega,by show(wZ b).length-(x+1)<(wZ b).length-x;omega⟩;show kM (nth ((wh a (wZ b) out x).set (nth (wZ b) x).toNat (nth (wh a (wZ b) out x) (nth (wZ b) x).toNat+a.tdiv ((wZ b).length:Int))) (nth (wZ b) x).toNat+1);rw[s];exact iZ6;show((wh a (wZ b) out x).set (nth (wZ b) x).toNat (nth (wh a (wZ b) out x) (nth (wZ b) x).toNat+a.tdiv ((wZ b).length:Int))).set (nth (wZ b) x).toNat (nth ((wh a (wZ b) out x).set (nth (wZ b) x).toNat (nth (wh a (wZ b) out x) (nth (wZ b) x).toNat+a.tdiv ((wZ b).length:Int))) (nth (wZ b) x).toNat+1)=wh a (wZ b) out (x+1);rw[s,List.set_set,j];unfold mP;rw[je c];have c:¬(x:Int)<a.tmod ((wZ b).length:Int):=jd c;refine⟨iZ6,x+1,⟨⟨by simp,tZ⟩,?_,tZ⟩,by show x+1<=(wZ b).length;omega,by show(wZ b).length-(x+1)<(wZ b).length-x;omega⟩;show(wh a (wZ b) out x).set (nth (wZ b) x).toNat (nth (wh a (wZ b) out x) (nth (wZ b) x).toNat+a.tdiv ((wZ b).length:Int))=wh a (wZ b) out (x+1);rw[j];unfold mP;rw[jc c,Int.add_zero];have h:¬(x:Int)<(wZ b).length:=jd h;have t:x<=(wZ b).length:=t;have e:x=(wZ b).length:=(by omega);subst e;rfl
theorem Ai:yS PR 71 Af:=uO Ag Dk Tryz.func71 kcN koN
namespace U
def Lh (o:BoD):Prop:=EM o/\(vQ (gO o)).length<=100/\(∀n∈vQ (gO o),0<=n/\n<=20)/\∀e∈Ir o,∀b,e.2=some b->Lx b∈vQ (gO o)
def Li (o:BoD):Prop:=EM o/\(kC (kE (ku (gO o)))).length<=100/\∀e∈Ir o,∀b,e.2=some b->∀p∈wZ b,0<=p/\p<((kC (kE (ku (gO o)))).length:Int)
end U
def uh:we:=⟨[.val tBo],[.slice .int],false,fun d=>[Lh d.1],fun d=>(qQ d.1,())⟩
def ui:Ann:=fun r=>match r with
 |5=>some fun σ=>{X:=Nat,sl:=fun i=>[(20,.dat .int (i:Int))],ob:=fun i=>[(3,some (.row 3 .int false .no (gm (yL (vQ (gO (gb tBo σ 1)))+1).toNat (gd (.slice tLn) σ 18) i)))],inv:=fun i=>i<=(gd (.slice tLn) σ 18).length,mu:=fun i=>(gd (.slice tLn) σ 18).length-i}
 |_=>none
abbrev jeI (d:BoD×Unit)(x:Nat):=(nth (ky d.1) x)
abbrev jgl (d:BoD×Unit):=(yL (vQ (gO d.1))+1)
abbrev jfU (d:BoD×Unit)(x:Nat):=(gm (jgl d).toNat (ky d.1) x)
def uj:Prop:=∀(d:BoD×Unit),Lh d.1->d.1.1.2.1.length<4611686018427387904->(decide ((d.1.1.2.1.length:Int)=0)=true->([],())=(qQ d.1,()))/\(decide ((d.1.1.2.1.length:Int)=0)=false->d.1.1.2.1≠[]/\kM (yL d.1.1.2.1+1)/\0<=yL d.1.1.2.1+1/\yL d.1.1.2.1+1=yL d.1.1.2.1+1/\(yL d.1.1.2.1+1).toNat*8<=140737488355328/\EM d.1/\((ky d.1).length<4611686018427387904->(∃(x:Nat),((0=(x:Int)/\True)/\List.replicate (yL d.1.1.2.1+1).toNat 0=gm (jgl d).toNat (ky d.1) x/\True)/\x<=(ky d.1).length)/\∀(x:Nat),x<=(ky d.1).length->(decide ((x:Int)<(ky d.1).length)=true->0<=(x:Int)/\(x:Int)<(ky d.1).length/\(0:Int)<=(jeI d x).1/\(jeI d x).1<(↑(jfU d x).length:Int)/\kM (nth (jfU d x) (jeI d x).1.toNat+(jeI d x).q4.2.1)/\(0:Int)<=(jeI d x).1/\(jeI d x).1<(↑(jfU d x).length:Int)/\kM ((x:Int)+1)/\∃(a:Nat),(((x:Int)+1=(a:Int)/\True)/\(jfU d x).set (jeI d x).1.toNat (nth (jfU d x) (jeI d x).1.toNat+(jeI d x).q4.2.1)=gm (jgl d).toNat (ky d.1) a/\True)/\a<=(ky d.1).length/\(ky d.1).length-a<(ky d.1).length-x)/\(decide ((x:Int)<(ky d.1).length)=false->(gm (jgl d).toNat (ky d.1) x,())=(qQ d.1,()))))
def Es:we:=⟨[.val tBo,.val .int],[.slice .int],false,fun d=>[Li d.1],fun d=>(vi d.1 d.2.1,())⟩
abbrev jew (d:BoD×Int×Unit):=(kW none (kL Ty.int d.2.1 d.1.2.1))
abbrev jfV (d:BoD×Int×Unit):=(kT ((((0:Int),(0:Int),(0:Int),(0:Int),(0:Int),(0:Int),()),(0:Int),(0:Int),(0:Int),()),((0:Int),(0:Int),(0:Int),(0:Int),(0:Int),(0:Int),(0:Int),(0:Int),[],[],()),(0:Int),(0:Int),[],(0:Int),(0:Int),false,(0:Int),()) (jew d))
abbrev je9 (d:BoD×Int×Unit):=(d.1.1.1.1.2.1.length:Int)
abbrev jhG (d:BoD×Int×Unit):=(Yb (qc (jfV d)).2.2.1 (U.bl (jew d)) (List.replicate (je9 d).toNat (0:Int)))
def Et:Prop:=∀(d:BoD×Int×Unit),Li d.1->d.1.1.1.1.2.1.length<4611686018427387904->0<=(je9 d)/\(je9 d)=(je9 d)/\(je9 d).toNat*8<=140737488355328/\((!(jew d).isNone)=true->(jew d).isSome=true/\pz (jfV d)/\(jew d).isSome=true/\PI (U.bl (jew d)) (qc (jfV d)).2.2.1 (List.replicate (je9 d).toNat (0:Int))/\(jew d).isSome=true/\PI (U.bl (jew d)) (qc (jfV d)).2.2.2.1 (jhG d)/\(Yb (qc (jfV d)).2.2.2.1 (U.bl (jew d)) (jhG d),())=(vi d.1 d.2.1,()))/\((!(jew d).isNone)=false->(List.replicate (je9 d).toNat (0:Int),())=(vi d.1 d.2.1,()))
theorem HK:Et:=by
 unfold Et jhG je9 jfV jew;intro d A E;obtain⟨m,l,k⟩:Li d.1:=A;have l:(kC (kE (ku (gO d.1)))).length<=100:=l;refine⟨zb _,rfl,?_,fun h=> ?_,fun h=> ?_⟩;show(((kC (kE (ku (gO d.1)))).length:Int)).toNat*8<=140737488355328;omega;obtain⟨b,e⟩:∃b,kW none (kL Ty.int d.2.1 d.1.2.1)=some b:=by
  cases g:kW none (kL Ty.int d.2.1 d.1.2.1) with
  |none=>rw[g] at h;cases h
  |some b=>exact⟨b,rfl⟩
 have i:(d.2.1,some b)∈Ir d.1:=by
  refine(M.eH (kt:= .int) m.2.2.1).1 ?_;cases g:kL (β:=Option BlD) Ty.int d.2.1 d.1.2.1 with
  |none=>rw[g] at e;cases e
  |some v=>rw[g] at e;exact g.trans (jR some e)
 obtain⟨z,o,u⟩:=m.1 _ i;have o:some b=some z:=o;simp only[jw] at o;subst o;have w:Io b:=gT.1 u;have D:=k _ i b rfl;have n:=w.bl.tm;have s:=AM w;have C:=AN w;have ep:vi d.1 d.2.1=R2 (kC (kE (ku (gO d.1)))).length (some b):=jR (R2 (kC (kE (ku (gO d.1)))).length) e;rw[e,ep];have f:∀p∈wZ b,0<=p/\p<((List.replicate (kC (kE (ku (gO d.1)))).length (0:Int)).length:Int):=fun p q=>by rw[j7];exact D p q
 obtain⟨r,y⟩:=lZ (a:=wT b) (M:=0) (tm:=wZ b) ⟨s.1,by omega⟩ f (fun x c=>by rw[List.eq_of_mem_replicate c];omega) (wZ b).length (jj _);refine⟨rfl,u,rfl,⟨n,f,s.1,?_,fun x c=> ?_⟩,rfl,⟨n,fun p q=> ?_,C.1,?_,fun x c=> ?_⟩,rfl⟩;show wT b<=100000000000000000;omega;have c:x∈List.replicate (kC (kE (ku (gO d.1)))).length (0:Int):=c;rw[List.eq_of_mem_replicate c];omega;have B:=f p q;show 0<=p/\p<((wh (wT b) (wZ b) (List.replicate (kC (kE (ku (gO d.1)))).length (0:Int)) (wZ b).length).length:Int);rw[r];exact B;show qb b<=100000000000000000;omega;have c:x∈wh (wT b) (wZ b) (List.replicate (kC (kE (ku (gO d.1)))).length (0:Int)) (wZ b).length:=c;obtain⟨j,t,rfl⟩:=L.mem_iff.1 c;have:=y j (by rw[r] at t;exact t);omega;have e:kW none (kL Ty.int d.2.1 d.1.2.1)=none:=by
  cases g:kW none (kL Ty.int d.2.1 d.1.2.1) with
  |none=>rfl
  |some b=>rw[g] at h;cases h
 have ep:vi d.1 d.2.1=R2 (kC (kE (ku (gO d.1)))).length none:=jR (R2 (kC (kE (ku (gO d.1)))).length) e;rw[ep];rfl
theorem nR:wo PR 45 Es:=wb HK Tryz.func45 (kcC gU kcN) (koC Ai koN)
theorem HL {b:BlD} (w:Io b): -1000000<=R0 (qc b)/\R0 (qc b)<=20000000000000000:=by
 have c:=AM w;have d:=AN w;have e:=w.bl.ta.cp;have a:0<=(wT b+qb b)*nth (aT (yE b)) (iT (yV (qi b))).toNat/\(wT b+qb b)*nth (aT (yE b)) (iT (yV (qi b))).toNat<=10000001000000000*100:=XD (by omega) (U7 w.bl);have f:=XE (b:=100) a (by omega);show-1000000<=wT b+qb b-nX b/\wT b+qb b-nX b<=20000000000000000;unfold nX;omega
theorem FS {o:BoD} (h:EM o) {x:LnD} (c:x∈ky o):∃k b,(k,some b)∈Ir o/\Io b/\x=qc b:=by
 have c:x∈qK (Ir o):=(wq _).mem_iff.1 c;obtain⟨⟨k,v⟩,d,rfl⟩:=jS.1 c;obtain⟨b,a,e⟩:=h.1 _ d;have a:v=some b:=a;subst a;exact⟨k,b,d,gT.1 e,rfl⟩
theorem FT {o:BoD} (h:EM o):(ky o).length<=100:=by
 have e:(ky o).length=(qK (Ir o)).length:=(wq _).length_eq;have e2:(qK (Ir o)).length=(Ir o).length:=zr _;have:=h.2.1;omega
theorem Dl:∀(l:List Int) (a:Int),a<=l.foldl max a/\(∀n∈l,n<=l.foldl max a)/\(l.foldl max a=a\/l.foldl max a∈l)
 |[],a=>⟨zK _,fun n c=>(by cases c),Or.inl rfl⟩
 |x::r,a=>by
  obtain⟨e,d,b⟩:=Dl r (max a x)
  show a<=r.foldl max (max a x)/\_/\(r.foldl max (max a x)=a\/r.foldl max (max a x)∈x::r)
  refine⟨by omega,fun n c=> ?_,?_⟩
  show n<=r.foldl max (max a x)
  rcases jk.1 c with rfl|c
  omega
  exact d n c
  rcases b with b|b
  rcases Int.le_total a x with h|h
  right;rw[b,Int.max_eq_right h];simp
  left;rw[b,Int.max_eq_left h]
  right;exact jo _ b
theorem NL {l:List Int} {n:Int} (h:n∈l):n<=yL l:=(Dl l (nth l 0)).2.1 n h
theorem HM {l:List Int} (h:l≠[]):yL l∈l:=by
 rcases(Dl l (nth l 0)).2.2 with a|a;have:yL l=nth l 0:=a;rw[this];exact L.kw (List.length_pos_iff.2 h);exact a
theorem FU {n:Nat} {l:List LnD} {k:Nat} (h:k<l.length):gm n l (k+1)=Ya (gm n l k) (nth l k):=by
 unfold gm;rw[L.k8 h,jT];rfl
theorem Dm {n:Nat} {l:List LnD} (h:∀x∈l,(0<=nW x/\nW x<(n:Int))/\-1000000<=R0 x/\R0 x<=20000000000000000):
 ∀k,k<=l.length->(gm n l k).length=n/\∀j,j<n->-1000000*(k:Int)<=nth (gm n l k) j/\nth (gm n l k) j<=20000000000000000*(k:Int)
 |0,_=>⟨j7,fun j a=>by
  have:nth (gm n l 0) j=0:=L.cz a
  rw[this];omega⟩
 |k+1,hk=>by
  obtain⟨b,c⟩:=Dm h k (by omega)
  obtain⟨⟨f,g⟩,i,m⟩:=h _ (L.kw (show k<l.length by omega))
  rw[FU (by omega)]
  unfold Ya
  refine⟨by rw[zW,b],fun j a=> ?_⟩
  rw[L.yq (by rw[b];omega)]
  have d:=c j a
  have e:=c (nW (nth l k)).toNat (by omega)
  split<;>omega
theorem Aj:uj:=by
 unfold uj jfU jgl jeI Prod.q4;intro d s C;obtain⟨c,a,i,w⟩:Lh d.1:=s;have a:(vQ (gO d.1)).length<=100:=a;refine⟨fun h=> ?_,fun h=> ?_⟩;have h:((vQ (gO d.1)).length:Int)=0:=ja h;have e:qQ d.1=[]:=je (by omega);rw[e];have h:¬((vQ (gO d.1)).length:Int)=0:=jd h;have g:vQ (gO d.1)≠[]:=fun e=>h (by rw[e];rfl)
 have D:=i _ (HM g);have e:qQ d.1=gm (yL (vQ (gO d.1))+1).toNat (ky d.1) (ky d.1).length:=jc (by omega);have m:∀x∈ky d.1,(0<=nW x/\nW x<(((yL (vQ (gO d.1))+1).toNat:Nat):Int))/\-1000000<=R0 x/\R0 x<=20000000000000000:=fun x m=>by
  obtain⟨k,b,t,u,rfl⟩:=FS c m;have n:=w _ t b rfl;have A:=NL n;have v:=i _ n;refine⟨⟨v.1,?_⟩,HL u⟩;show Lx b<_;omega
 have F:=Dm m;have B:=FT c;refine⟨g,L.EQ (by show _<=yL (vQ (gO d.1))+1;omega) (by show yL (vQ (gO d.1))+1<=_;omega),by show 0<=yL (vQ (gO d.1))+1;omega,rfl,by show(yL (vQ (gO d.1))+1).toNat*8<=140737488355328;omega,c,fun _=>⟨⟨0,⟨⟨rfl,tZ⟩,rfl,tZ⟩,jv _⟩,fun x j=>⟨fun f=> ?_,fun f=> ?_⟩⟩⟩;have f:(x:Int)<(ky d.1).length:=ja f;have l:x<(ky d.1).length:=(by omega);obtain⟨⟨o,y⟩,E,G⟩:=m _ (L.kw l);obtain⟨q,r⟩:=F x (by omega);have z:=r (nW (nth (ky d.1) x)).toNat (by omega);have p:nW (nth (ky d.1) x)<((gm (yL (vQ (gO d.1))+1).toNat (ky d.1) x).length:Int):=(by rw[q];exact y);refine⟨zb _,f,o,p,?_,o,p,iZ6,x+1,⟨⟨by simp,tZ⟩,(FU l).symm,tZ⟩,by show x+1<=(ky d.1).length;omega,by show(ky d.1).length-(x+1)<(ky d.1).length-x;omega⟩;show kM (nth (gm (yL (vQ (gO d.1))+1).toNat (ky d.1) x) (nW (nth (ky d.1) x)).toNat+R0 (nth (ky d.1) x));exact iZ6;have f:¬(x:Int)<(ky d.1).length:=jd f;have j:x<=(ky d.1).length:=j;have ex:x=(ky d.1).length:=(by omega);subst ex;rw[e]
theorem dW:wo PR 46 uh:=q7 ui Aj Tryz.func46 (kcC HJ (kcC aD kcN)) koN
namespace U
def bo (l:LgD):BoD:=(l,Lg l,())
def eg (l:LgD):List LnD:=if wa l=0 then ky (bo l) else[]
def Lj (l:LgD):List Int:=if wa l=0 then qQ (bo l) else[]
def vS (l:LgD) (n:Int):Bool:=kj n 0 (((kB (ku l)).length:Int)-1)
def Lk (l:LgD) (n:Int):List Int:=if wC l (vS l n)=0 then vi (bo l) n else[]
def v6 (m:Int):Bool:=kj m (-100000) 1440
def yf (m:Int):Bool:=kj m 0 1000000000
def EO (l:LgD) (n m:Int):Int:=if wC l (vS l n&&v6 m)=0 then(match Oe (bo l) n with|some b=>R0 (qc b)-yF m b|none=>0) else 0
end U
theorem HN {l:LgD} {e:Int×Option BlD} (h:e∈Lg l):∃n,n∈kk (ku l)/\e=(n,some (kY l n)):=by
 rw[C8] at h;obtain⟨n,a,rfl⟩:=jS.1 h;exact⟨n,a,rfl⟩
theorem Pt {l:LgD} (h:xP l):(kk (ku l)).length<=4:=by
 have a:=h.dy;unfold wE at a;rw[ji] at a;have a:=(ja a.1).1;unfold kk
 split
 unfold yR;rw[zr];exact jE (z8 _ _) (by rw[zG];exact a);exact jv _
theorem Ry {l:LgD} (h:xP l):EM (U.bo l):=by
 refine⟨fun e c=> ?_,?_,?_,fun e c b a=> ?_⟩;obtain⟨n,d,rfl⟩:=HN c;exact⟨_,rfl,gT.2 (Kz h (HB d))⟩;show(Lg l).length<=100;have:=Pt h;rw[C8,zr];omega;show((Lg l).map (·.1)).Nodup;rw[C8,List.map_map];have e:((fun(x:Int×Option BlD)=>x.1)∘fun n=>(n,some (kY l n)))=id:=rfl;rw[e,List.map_id];exact mI _;obtain⟨n,d,rfl⟩:=HN c;have a:some (kY l n)=some b:=a;simp only[jw] at a;subst a;exact(qv l n _ (jj _)).2.2.1
theorem jbV {l:LgD} (h:xP l):Lh (U.bo l):=by
 have d:(kB (ku l)).length<=4:=by
  have c:=h.dy;unfold wE at c;rw[ji] at c;exact(ja c.1).1
 refine⟨Ry h,?_,h.py.2,fun e f b a=> ?_⟩;show(vQ l).length<=100;rw[h.py.1];omega;obtain⟨n,i,rfl⟩:=HN f;have a:some (kY l n)=some b:=a;simp only[jw] at a;subst a;have e:Lx (kY l n)=nth (vQ l) n.toNat:=(qv l n _ (jj _)).2.2.2.1;rw[e];have:=HB i;have g:n.toNat<(vQ l).length:=(by rw[h.py.1];omega);exact L.kw g
theorem jas {l:LgD} (h:xP l):Li (U.bo l):=by
 refine⟨Ry h,?_,fun e c b a=> ?_⟩;show(kC (kE (ku l))).length<=100;have:=jcA h;omega;obtain⟨n,d,rfl⟩:=HN c;have a:some (kY l n)=some b:=a;simp only[jw] at a;subst a;have e:wZ (kY l n)=wM l n (kC (kE (ku l))).length:=(qv l n _ (jj _)).2.2.2.2.1;rw[e];exact(so _ _).2
namespace U
def DE (l:LgD) (b:Int):BkD:=nth (kB (ku l)) b.toNat
def DF (l:LgD) (b:Int) (x:Int×Bool) (c:CaD):Int×Bool:=if ja8 c=b/\F6 c<=qn (DE l b)/\(x.2=false\/F6 c<x.1) then(F6 c,true) else x
def yM (l:LgD) (b:Int) (k:Nat):Int×Bool:=((kP l).take k).foldl (DF l b) (0,false)
def yU (l:LgD) (b:Int):Int×Bool:=yM l b (kP l).length
def Ii (l:LgD) (b:Int) (i:Nat):Bool:=decide (X9 (eJ l)<=qn (DE l b)+i)||decide (qn (DE l b)+i<jaQ (eJ l))
def Ij (l:LgD) (b:Int) (k:Nat):Int:=(((List.range k).countP (Ii l b):Nat):Int)
def Yc (l:LgD) (b:Int):Int:=Ij l b (mN (DE l b)-qn (DE l b)).toNat
def jck (l:LgD) (b m:Int):Int:=m*jcf (eJ l)*max (jcg (eJ l)) (up (mN (DE l b)-qn (DE l b)) (V7 (eJ l)))
def VV (l:LgD) (b m:Int):Int:=jck l b m+up (jck l b m*V8 (eJ l)*Yc l b) (100*(mN (DE l b)-qn (DE l b)))
def Ll (l:LgD) (b m:Int) (n:NoD):Bool:=decide (V6 n<=qn (DE l b)-m)
def jaS (l:LgD) (b m:Int):Int:=if 0<=yg (Ll l b m) (d9 (eJ l)) then Y0 (nth (d9 (eJ l)) (yg (Ll l b m) (d9 (eJ l))).toNat) else 100
def Of (l:LgD) (b t:Int):Int:=if(yU l b).2=true then up (VV l b (BT.size t)*jaS l b (yU l b).1) 100 else VV l b (BT.size t)
def Og (l:LgD) (b t:Int):Int:=if(yU l b).2=true then 0 else ja7 (eJ l)*nth (DC l) b.toNat*BT.size t
def Yd (l:LgD) (b t:Int):Int:=min (RZ (eJ l)) (((Of l b t+Og l b t)*nth (aT (eJ l)) (iT (yV (DE l b))).toNat).tdiv 100)
def u5 (l:LgD) (b t:Int):LnD:=(nth (vQ l) b.toNat,b,Of l b t,Og l b t,Yd l b t,Of l b t+Og l b t-Yd l b t,())
def u6 (l:LgD) (b:Int):Int:=nth (Lc (ku l)) b.toNat
def jcC (l:LgD) (b:Int):Bool:=DA (kE (ku l)) (yV (DE l b)) (u6 l b)
def jcm (l:LgD) (p:Int) (b:Nat):Bool:=jcC l (b:Int)&&decide (nth (vQ l) b=p)
def pB (l:LgD) (p:Int) (k:Nat):List LnD:=((List.range k).filter (jcm l p)).map (fun(b:Nat)=>u5 l (b:Int) (u6 l (b:Int)))
def mb (l:LgD) (n:Nat):List LnD:=(List.range n).flatMap (fun(p:Nat)=>pB l (p:Int) (vQ l).length)
def ur (l:LgD):List LnD:=mb l 21
def aU (l:LgD) (k:Nat):Int:=((vQ l).take k).foldl (fun m p=>max m (p+1)) 0
def PJ (l:LgD):Int:=aU l (vQ l).length
def jcn (l:LgD):List Int:=gm (PJ l).toNat (ur l) (ur l).length
def VW (a m:Int) (i:Nat):Int:=a.tdiv m+(if(i:Int)<a.tmod m then 1 else 0)
def VX (a m:Int) (k:Nat):List Int:=(List.range k).map (VW a m)
def Ik (a m:Int):List Int:=VX a m m.toNat
def VY (w t:List Int) (a:Int) (x:List Int×Int) (p:Nat):List Int×Int:=if vD a (p:Int)=true then(x.1.set p (nth w x.2.toNat+nth t x.2.toNat),x.2+1) else x
def cQ (w t:List Int) (a:Int) (n k:Nat):List Int×Int:=(List.range k).foldl (VY w t a) (List.replicate n 0,0)
def yx (l:LgD):Nat:=(kC (kE (ku l))).length
def R3 (l:LgD) (b:Int):List Int:=if jcC l b=true then(cQ (Ik (Of l b (u6 l b)) (BT.size (u6 l b))) (Ik (Og l b (u6 l b)) (BT.size (u6 l b))) (u6 l b) (yx l) (yx l)).1 else List.replicate (yx l) 0
end U
theorem po {l:LgD} {b:Int} {k:Nat} (h:k<(kP l).length):yM l b (k+1)=DF l b (yM l b k) (nth (kP l) k):=by
 unfold yM;rw[L.k8 h,jT];rfl
theorem jat {l:LgD} {b:Int} (h:∀c∈kP l,-100000<=F6 c/\F6 c<=1440):∀k,k<=(kP l).length->-100000<=(yM l b k).1/\(yM l b k).1<=1440
 |0,_=>by show-100000<=(0:Int)/\(0:Int)<=1440;omega
 |k+1,hk=>by
  rw[po (by omega)]
  unfold DF
  split
  exact h _ (L.kw (by omega))
  exact jat h k (by omega)
theorem KR {l:LgD} {n:Int}:∀k,k<=(kP l).length->(pE (kD l n k),sU (kD l n k))=yM l n k
 |0,_=>rfl
 |k+1,hk=>by
  have d:=KR (l:=l) (n:=n) k (by omega)
  have c:qi (kD l n k)=DE l n:=(qv l n k (by omega)).1
  rw[ct (by omega),po (by omega),<-d]
  unfold sO DF
  by_cases a:ja8 (nth (kP l) k)=n
  rw[je a]
  unfold yt
  rw[c]
  by_cases b:F6 (nth (kP l) k)<=qn (DE l n)/\(sU (kD l n k)=false\/F6 (nth (kP l) k)<pE (kD l n k))
  rw[je b,je ⟨a,b⟩];rfl
  rw[jc b,jc (fun h=>b h.2)]
  rw[jc a,jc (fun h=>a h.1)]
theorem Vm {l:LgD} {b:Int} (a:jaQ (eJ l)<=X9 (eJ l)):∀k:Nat,Ij l b k=max 0 (qn (DE l b)+k-max (qn (DE l b)) (X9 (eJ l)))+max 0 (min (qn (DE l b)+k) (jaQ (eJ l))-qn (DE l b))
 |0=>by
  show(0:Int)=_
  omega
 |k+1=>by
  have c:=Vm (b:=b) a k
  have e:Ij l b (k+1)=Ij l b k+(if Ii l b k=true then 1 else 0):=by
   unfold Ij;rw[ze,zQ,List.countP_singleton]
   split<;>simp
  rw[e,c];by_cases h:Ii l b k=true;rw[je h];unfold Ii at h;rw[zy,jr,jr] at h;omega;rw[jc h];unfold Ii at h;rw[zy,jr,jr] at h;omega
theorem Rz {w:Int} (h:0<=w):U.up (w*100) 100=w:=by
 unfold U.up;rw[Int.tdiv_eq_ediv_of_nonneg (by omega)];omega
theorem Pu {d:DyD} (h:gL d=0) {b:Nat} (g:b<(kB d).length):(((wN (nth (Lc d) b) (kC (kE d)).length).length:Nat):Int)=BT.size (nth (Lc d) b):=by
 have e:Lc d=(PF d).1:=je h;have a:=YM h g;rw[<-e] at a;have l:(kC (kE d)).length<=8:=by
  have c:=(YI h).1;unfold kU at c;rw[ji] at c;exact(ja c.1).2.2.1
 have k:BT.qS (nth (Lc d) b):=⟨a.1,Int.lt_trans a.2 (by
  have:(2:Int)^(kC (kE d)).length<2^62:=by
   rw[BT.two_nat,BT.two_nat];exact Int.ofNat_lt.2 (Nat.pow_lt_pow_right (by decide) (by omega))
  exact this)⟩
 unfold wN BT.size;rw[zr,<-List.countP_eq_length_filter];obtain⟨m,j⟩:∃m,62=(kC (kE d)).length+m:=⟨62-(kC (kE d)).length,by omega⟩;rw[j,List.range_add,zQ];have z:List.countP (fun p=>BT.has (nth (Lc d) b) p) (List.map (fun x=>(kC (kE d)).length+x) (List.range m))=0:=by
  rw[zM];intro p f i;obtain⟨q,n,rfl⟩:=jS.1 f;have:=BT.has_lt a.1 a.2 i;omega
 rw[z,zI];congr 1;refine List.countP_congr fun p f=> ?_
 have:=AL k (p:Int);rw[this];simp
theorem XK {l:LgD} (h:gL (ku l)=0) (u:jaQ (eJ l)<=X9 (eJ l)) {n:Int} (A:0<=n/\n<((kB (ku l)).length:Int)) (z:qn (DE l n)<mN (DE l n)) (v:0<=pD (ir l n)):qc (kY l n)=u5 l n (u6 l n):=by
 obtain⟨c1,c2,e,f,y,g,i⟩:=qv l n _ (jj _);have c1:qi (kY l n)=DE l n:=c1;have c2:yE (kY l n)=eJ l:=c2;have e:Od (kY l n)=n:=e;have f:Lx (kY l n)=nth (vQ l) n.toNat:=f;have g:pD (kY l n)=pD (ir l n):=g;have i:EK (kY l n)=EK (ir l n):=i;have a:=KR (l:=l) (n:=n) _ (jj _);have w:pE (kY l n)=(yU l n).1:=jR (·.1) a;have s:sU (kY l n)=(yU l n).2:=jR (·.2) a;have b:(((wM l n (kC (kE (ku l))).length).length:Nat):Int)=BT.size (u6 l n):=by
  unfold wM u6;rw[UL,je h,<-(je h:Lc (ku l)=_)];exact Pu h (by omega)
 have k:yw (sN l n (wM l n (kC (kE (ku l))).length))=Yc l n:=by
  unfold Yc;rw[Vm u];show max 0 (mN (DE l n)-max (qn (DE l n)) (X9 (eJ l)))+max 0 (min (mN (DE l n)) (jaQ (eJ l))-qn (DE l n))=_;omega
 have p:pD (ir l n)=VV l n (BT.size (u6 l n)):=by
  show ma (sN l n (wM l n (kC (kE (ku l))).length))+U.up (ma (sN l n (wM l n (kC (kE (ku l))).length))*V8 (eJ l)*yw (sN l n (wM l n (kC (kE (ku l))).length))) (100*(mN (DE l n)-qn (DE l n)))=_;have j:ma (sN l n (wM l n (kC (kE (ku l))).length))=jck l n (BT.size (u6 l n)):=by
   show(((wM l n (kC (kE (ku l))).length).length:Nat):Int)*jcf (eJ l)*max (jcg (eJ l)) (U.up (mN (DE l n)-qn (DE l n)) (V7 (eJ l)))=_;rw[b];rfl
  rw[j,k];rfl
 have o:EK (ir l n)=ja7 (eJ l)*nth (DC l) n.toNat*BT.size (u6 l n):=by
  show(((wM l n (kC (kE (ku l))).length).length:Nat):Int)*ja7 (eJ l)*nth (DC l) n.toNat=_;rw[b,Int.mul_assoc,Int.mul_comm]
 have m:ee (kY l n)=Ll l n (yU l n).1:=by
  funext x;unfold ee Ll;rw[c1,w]
 have r:wT (kY l n)=Of l n (u6 l n):=by
  unfold wT Of R1 jaS;rw[s,c2,m,g,<-p];by_cases c:(yU l n).2=true;rw[je c];by_cases d:0<=yg (Ll l n (yU l n).1) (d9 (eJ l));rw[je ⟨c,d⟩,je d];rw[jc (fun h=>d h.2),jc d,Rz v];rw[jc (fun h=>c h.1),jc c]
 have q:qb (kY l n)=Og l n (u6 l n):=by
  unfold qb Og;rw[s,i,o]
 have t:nX (kY l n)=Yd l n (u6 l n):=by
  unfold nX Yd;rw[r,q,c1,c2]
 unfold qc u5;rw[r,q,t,e,f]
theorem HO {l:LgD} (h:xP l) {n:Int} (a:0<=n/\n<((kB (ku l)).length:Int)):qc (kY l n)=u5 l n (u6 l n):=by
 obtain⟨b,e⟩:=Ky h a;have c:=(gx (ku l)).symm.trans h.cp;have d:=h.ta.dw;exact XK c (by omega) a b.2.1 (Ps h a).wk.1
theorem XL {x y:LnD} (h:nW x<nW y\/(nW x=nW y/\uX x<uX y)):¬uq y x<0:=by
 unfold uq;rw[ww,qD];unfold bQ;rcases h with h|⟨b,a⟩;rw[jc (show¬nW y<nW x by omega),je h,je (by decide)];decide;rw[jc (show¬nW y<nW x by omega),jc (show¬nW x<nW y by omega),jc (by decide),jc (show¬uX y<uX x by omega),je a];decide
theorem HP (l:LgD):qK (Lg l)=(kk (ku l)).map (fun n=>qc (kY l n)):=by
 rw[C8];unfold qK;rw[List.map_map];rfl
theorem Pv (l:LgD) (n:Int):uX (qc (kY l n))=n:=(qv l n _ (jj _)).2.2.1
theorem jau {d:DyD} (h:gL d=0) {n:Int}:n∈kk d↔∃b:Nat,b<(kB d).length/\jds d (Lc d) b=true/\n=(b:Int):=by
 rw[jah];unfold jdt;rw[je h];unfold YZ;rw[jS];constructor;rintro⟨b,a,rfl⟩;have:=jL.1 a;exact⟨b,by rw[<-Nu h];exact jC.1 this.1,this.2,rfl⟩;rintro⟨b,a,c,rfl⟩;exact⟨b,jL.2 ⟨jC.2 (by rw[Nu h];exact a),c⟩,rfl⟩
theorem HQ {l:LgD} (h:xP l) {n:Int} (e:0<=n/\n<((kB (ku l)).length:Int)):n∈kk (ku l)↔jcC l n=true:=by
 have c:=(gx (ku l)).symm.trans h.cp;rw[jau c];constructor;rintro⟨b,d,a,rfl⟩;exact a;intro a;exact⟨n.toNat,by omega,a,by omega⟩
theorem HR {l:LgD} {k:Nat} {x:LnD}:x∈mb l k↔∃p:Nat,p<k/\∃b:Nat,b<(vQ l).length/\jcC l (b:Int)=true/\nth (vQ l) b=(p:Int)/\x=u5 l (b:Int) (u6 l (b:Int)):=by
 unfold mb;rw[List.mem_flatMap];constructor;rintro⟨p,d,h⟩;obtain⟨b,c,rfl⟩:=jS.1 h;have e:=jL.1 c;have a:=e.2;unfold jcm at a;rw[ji,jr] at a;exact⟨p,jC.1 d,b,jC.1 e.1,a.1,a.2,rfl⟩;rintro⟨p,d,b,c,g,f,rfl⟩;refine⟨p,jC.2 d,jS.2 ⟨b,jL.2 ⟨jC.2 c,?_⟩,rfl⟩⟩;unfold jcm;rw[g,jJ f];rfl
theorem Pw (l:LgD) (k:Nat):(mb l k).Pairwise (fun x y=>nW x<nW y\/(nW x=nW y/\uX x<uX y)):=by
 have d:∀(p:Nat) (x:LnD),x∈pB l (p:Int) (vQ l).length->nW x=(p:Int):=fun p x g=>by
  obtain⟨b,f,rfl⟩:=jS.1 g;have e:=(jL.1 f).2;unfold jcm at e;rw[ji,jr] at e;exact e.2
 unfold mb;refine List.pairwise_flatMap.2 ⟨fun p _=> ?_,List.Pairwise.imp ?_ List.pairwise_lt_range⟩;have h:(pB l (p:Int) (vQ l).length).Pairwise (fun x y=>uX x<uX y):=by
  unfold pB;exact zL.2 ((List.pairwise_lt_range.filter _).imp fun{a b} c=>by
   show(a:Int)<(b:Int);omega)
 exact List.Pairwise.imp_of_mem (fun{a b} i f c=>Or.inr ⟨by rw[d p a i,d p b f],c⟩) h;intro a b c x g y j;have:=d a x g;have:=d b y j;left;omega
theorem RA (l:LgD) (k:Nat):(mb l k).Nodup:=(Pw l k).imp fun{a b} h e=>by subst e;omega
theorem dX {l:LgD} (h:xP l):ky (U.bo l)=ur l:=by
 have o:=FR (Ry h);have f:(qK (Lg l)).Nodup:=by
  rw[HP];exact zL.2 ((mI (ku l)).imp fun{a b} g e=>g (by
   have:=jR uX e;rw[Pv,Pv] at this;exact this))
 have s:=(gx (ku l)).symm.trans h.cp
 haveI:DecidableEq LnD:=fun a b=>Classical.propDecidable (a=b)
 have k:(ur l).Perm (qK (Ir (U.bo l))):=L.cS (RA l 21) f fun x=>by
  show x∈mb l 21↔x∈qK (Lg l);rw[HR,HP,jS];constructor;rintro⟨p,k,b,m,r,q,rfl⟩;have c:0<=(b:Int)/\(b:Int)<(kB (ku l)).length:=(by rw[h.py.1] at m;omega);exact⟨(b:Int),(HQ h c).2 r,HO h c⟩;rintro⟨n,j,rfl⟩;have c:=HB j;have i:n.toNat<(vQ l).length:=(by rw[h.py.1];omega);have q:=h.py.2 _ (L.kw i);have en:((n.toNat:Nat):Int)=n:=(by omega);refine⟨(nth (vQ l) n.toNat).toNat,by omega,n.toNat,i,?_,by omega,?_⟩;rw[en];exact(HQ h c).1 j;rw[en];exact HO h c
 refine(rF (jc3 o) k ?_).symm;exact(Pw l 21).imp fun{a b} d=>zl (XL d)
theorem RB {l:LgD} {k:Nat} (h:k<(vQ l).length):aU l (k+1)=max (aU l k) (nth (vQ l) k+1):=by
 unfold aU;rw[L.k8 h,jT];rfl
theorem pq {l:LgD}:∀k,k<=(vQ l).length->0<=aU l k/\(∀i,i<k->nth (vQ l) i+1<=aU l k)/\(aU l k=0\/∃i,i<k/\aU l k=nth (vQ l) i+1)
 |0,_=>⟨zK _,fun i hi=>by omega,Or.inl rfl⟩
 |k+1,hk=>by
  obtain⟨c,b,a⟩:=pq (l:=l) k (by omega)
  rw[RB (by omega)]
  refine⟨by omega,fun i hi=> ?_,?_⟩
  by_cases e:i=k
  subst e;omega
  have:=b i (by omega);omega
  rcases Int.le_total (nth (vQ l) k+1) (aU l k) with h|h
  rw[Int.max_eq_left h]
  rcases a with a|⟨i,hi,a⟩
  exact Or.inl a
  exact Or.inr ⟨i,by omega,a⟩
  rw[Int.max_eq_right h]
  exact Or.inr ⟨k,by omega,rfl⟩
theorem Vn {l:LgD} (h:xP l):qQ (U.bo l)=jcn l:=by
 have m:=dX h;unfold qQ jcn;rw[m];show(if(vQ l).length=0 then[] else gm (yL (vQ l)+1).toNat (ur l) (ur l).length)=_;by_cases e:(vQ l).length=0;rw[je e];have f:ur l=[]:=by
  refine kf.2 fun x o=> ?_
  obtain⟨p,_,b,t,_⟩:=HR.1 (show x∈mb l 21 from o);omega
 have e2:PJ l=0:=(by unfold PJ;rw[e];rfl);rw[f,e2];rfl;rw[jc e];obtain⟨r,k,a⟩:=pq (l:=l) (vQ l).length (jj _);have c:vQ l≠[]:=fun e2=>e (by rw[e2];rfl)
 have d:=HM c;have u:=h.py.2 _ d;obtain⟨i,hi,q⟩:=L.mem_iff.1 d;have s:=k i hi;have g:PJ l=yL (vQ l)+1:=by
  show aU l (vQ l).length=_;rcases a with a|⟨j,n,a⟩;omega;have:=NL (L.kw n);omega
 rw[g]
theorem yB (a:Int) (tm out:List Int):∀k,(wh a tm out k).length=out.length
 |0=>rfl
 |k+1=>by
  rw[dV];unfold mP
  rw[zW,yB a tm out k]
theorem sE {a:Int} {tm out:List Int} {j:Nat} (b:∀p∈tm,0<=p/\p<(out.length:Int)):∀k,k<=tm.length->(∀i,i<k->(nth tm i).toNat≠j)->nth (wh a tm out k) j=nth out j
 |0,_,_=>rfl
 |k+1,hk,h=>by
  have c:=b _ (L.kw (show k<tm.length by omega))
  rw[dV];unfold mP
  rw[L.yq (by rw[yB];omega),jc (h k (by omega))]
  exact sE b k (by omega) fun i hi=>h i (by omega)
theorem HS {a:Int} {tm out:List Int} (c:∀p∈tm,0<=p/\p<(out.length:Int)) (b:∀i j,i<tm.length->j<tm.length->(nth tm i).toNat=(nth tm j).toNat->i=j) {i:Nat}:∀k,k<=tm.length->i<k->
 nth (wh a tm out k) (nth tm i).toNat=nth out (nth tm i).toNat+VW a tm.length i
 |0,_,h=>by omega
 |k+1,hk,h=>by
  have f:=c _ (L.kw (show k<tm.length by omega))
  rw[dV];unfold mP
  rw[L.yq (by rw[yB];omega)]
  by_cases e:i=k
  subst e
  rw[je rfl,sE c i (by omega) (fun m d e2=>by have:=b m i (by omega) (by omega) e2;omega)]
  unfold VW
  rw[Int.add_assoc]
  rw[jc (fun e2=>e (b i k (by omega) (by omega) e2.symm))]
  exact HS c b k (by omega) (by omega)
theorem FV (t:Int) (k:Nat):wN t (k+1)=wN t k++(if vD t (k:Int)=true then[(k:Int)] else[]):=by
 unfold wN;rw[ze,List.filter_append,zv];congr 1;by_cases h:vD t (k:Int)=true;rw[je h];simp only[List.filter,h,List.map];rw[jc h];rw[zR] at h;simp only[List.filter,h,List.map]
def rnk (t:Int) (k:Nat):Nat:=(wN t k).length
theorem Px (t:Int) (k:Nat):rnk t (k+1)=rnk t k+(if vD t (k:Int)=true then 1 else 0):=by
 unfold rnk;rw[FV,jI]
 split<;>rfl
theorem jav {α:Type} [Inhabited α] {a b:List α} {i:Nat} (h:i<a.length):nth (a++b) i=nth a i:=by
 rw[L.wD h,L.wD (by rw[jI];omega),List.getElem_append_left h]
theorem XM {α:Type} [Inhabited α] {a:List α} {x:α}:nth (a++[x]) a.length=x:=by
 rw[L.wD (by rw[jI];show _<_+1;omega),List.getElem_append_right (jj _)];simp
theorem YR {t:Int} {p:Nat} (a:vD t (p:Int)=true):∀n,p<n->rnk t p<rnk t n/\nth (wN t n) (rnk t p)=(p:Int)
 |0,h=>by omega
 |n+1,h=>by
  have b:=Px t n
  rw[FV]
  by_cases e:p=n
  subst e
  rw[je a] at b⊢
  exact⟨by omega,XM⟩
  obtain⟨c,d⟩:=YR a n (by omega)
  refine⟨by rw[b];omega,?_⟩
  rw[jav c,d]
theorem jaw {t:Int} {n i j:Nat} (hi:i<(wN t n).length) (f:j<(wN t n).length) (h:(nth (wN t n) i).toNat=(nth (wN t n) j).toNat):i=j:=by
 have c:(wN t n).Pairwise (fun a b=>a.toNat<b.toNat):=by
  unfold wN;exact zL.2 ((List.pairwise_lt_range.filter _).imp fun{a b} e=>e)
 rw[zz] at c;rw[L.wD hi,L.wD f] at h;rcases Nat.lt_trichotomy i j with d|d|d;have:=c i j hi f d;omega;exact d;have:=c j i f hi d;omega
theorem jax {t:Int} {n i:Nat} (hi:i<(wN t n).length):vD t (nth (wN t n) i)=true:=by
 have a:=L.kw hi;unfold wN at a;obtain⟨p,b,e⟩:=jS.1 a;have:=(jL.1 b).2;unfold wN;rw[<-e];exact this
theorem NM (w t:List Int) (a:Int) (n k:Nat):cQ w t a n (k+1)=VY w t a (cQ w t a n k) k:=by
 unfold cQ;rw[ze,jT];rfl
theorem FW (w t:List Int) (a:Int) (n:Nat):∀k,k<=n->(cQ w t a n k).1.length=n/\(cQ w t a n k).2=(rnk a k:Int)/\
 ∀j,j<n->nth (cQ w t a n k).1 j=if j<k/\vD a (j:Int)=true then nth w (rnk a j)+nth t (rnk a j) else 0
 |0,_=>⟨j7,rfl,fun j c=>by
  rw[jc (fun h=>by omega)]
  exact L.cz c⟩
 |k+1,hk=>by
  obtain⟨f,g,i⟩:=FW w t a n k (by omega)
  have d:=Px a k
  rw[NM];unfold VY
  by_cases e:vD a (k:Int)=true
  rw[je e]
  rw[je e] at d
  have l:(cQ w t a n k).2.toNat=rnk a k:=by rw[g];rfl
  refine⟨by rw[zW,f],by rw[g,d];rfl,fun j c=> ?_⟩
  show nth ((cQ w t a n k).1.set k (nth w (cQ w t a n k).2.toNat+nth t (cQ w t a n k).2.toNat)) j=_
  rw[L.yq (by rw[f];omega),l]
  by_cases e2:k=j
  subst e2
  rw[je rfl,je ⟨by omega,e⟩]
  rw[jc e2,i j c]
  by_cases b:j<k/\vD a (j:Int)=true
  rw[je b,je ⟨by omega,b.2⟩]
  rw[jc b,jc (fun h=>b ⟨by omega,h.2⟩)]
  rw[jc e]
  rw[jc e] at d
  refine⟨f,by rw[g,d];rfl,fun j c=> ?_⟩
  rw[i j c]
  by_cases b:j<k/\vD a (j:Int)=true
  rw[je b,je ⟨by omega,b.2⟩]
  rw[jc b,jc (fun h=>b ⟨by
   by_cases e2:j=k
   subst e2;exact absurd h.2 e
   omega,h.2⟩)]
theorem RC {a m:Int} {k i:Nat} (h:i<k):nth (VX a m k) i=VW a m i:=by
 unfold VX;rw[L.nth_map (by rw[zG];exact h)];congr 1;rw[L.wD (by rw[zG];exact h),List.getElem_range]
theorem jay {b:BlD} {c W T:Int} {n:Nat} (q:wZ b=wN c n) (z:wT b=W) (y:qb b=T):
 R2 n (some b)=(cQ (Ik W (wN c n).length) (Ik T (wN c n).length) c n n).1:=by
 obtain⟨w,C,x⟩:=FW (Ik W (wN c n).length) (Ik T (wN c n).length) c n n (jj _);have u:=(so c n).2;have f:=fun i j=> @jaw c n i j
 show wh (qb b) (wZ b) (wh (wT b) (wZ b) (List.replicate n 0) (wZ b).length) (wZ b).length=_;rw[q,z,y];have g:∀p∈wN c n,0<=p/\p<((List.replicate n (0:Int)).length:Int):=fun p k=>by rw[j7];exact u p k
 have m:∀p∈wN c n,0<=p/\p<((wh W (wN c n) (List.replicate n (0:Int)) (wN c n).length).length:Int):=fun p k=>by rw[yB];exact g p k
 refine L.ext_nth (by rw[yB,yB,j7,w]) fun j d=> ?_
 rw[yB,yB,j7] at d;rw[x j d];by_cases e:vD c (j:Int)=true;rw[je ⟨d,e⟩];obtain⟨o,B⟩:=YR e n d;have o:rnk c j<(wN c n).length:=o;have A:(nth (wN c n) (rnk c j)).toNat=j:=(by rw[B];rfl);have r:=HS (a:=W) g (fun i j hi d h=>f i j hi d h) (i:=rnk c j) _ (jj _) o;have s:=HS (a:=T) m (fun i j hi d h=>f i j hi d h) (i:=rnk c j) _ (jj _) o;rw[A] at r s;rw[s,r,L.cz d,Int.zero_add];have k:∀a:Int,nth (Ik a ((wN c n).length:Int)) (rnk c j)=VW a ((wN c n).length:Int) (rnk c j):=fun a=>RC (by show _<((((wN c n).length:Nat):Int)).toNat;omega)
 rw[k,k];rw[jc (fun h=>e h.2)];have l:∀i,i<(wN c n).length->(nth (wN c n) i).toNat≠j:=fun i hi e2=>e (by
  have t:=jax hi;have D:=u _ (L.kw hi);have v:nth (wN c n) i=(j:Int):=(by omega);rw[v] at t;exact t)
 rw[sE m _ (jj _) l,sE g _ (jj _) l,L.cz d]
theorem jbW (l:LgD) (n:Int):Oe (U.bo l) n=if n∈kk (ku l) then some (kY l n) else none:=by
 show kW none (kL .int n (Lg l))=_;have a:((Lg l).map (·.1)).Nodup:=by
  rw[C8,List.map_map];have e:((fun(x:Int×Option BlD)=>x.1)∘fun n=>(n,some (kY l n)))=id:=rfl;rw[e,List.map_id];exact mI _
 by_cases h:n∈kk (ku l);rw[je h];have:(n,some (kY l n))∈Lg l:=by
  rw[C8];exact jS.2 ⟨n,h,rfl⟩
 rw[(M.eH (kt:= .int) a).2 this];rfl;rw[jc h];have b:n∉(Lg l).map (·.1):=by
  rw[C8,List.map_map];have e:((fun(x:Int×Option BlD)=>x.1)∘fun n=>(n,some (kY l n)))=id:=rfl;rw[e,List.map_id];exact h
 rw[M.mfind_none (kt:= .int) b];rfl
theorem YT {l:LgD} (h:xP l) {n:Int} (b:0<=n/\n<((kB (ku l)).length:Int)):vi (U.bo l) n=R3 l n:=by
 have i:=(gx (ku l)).symm.trans h.cp;show R2 (yx l) (Oe (U.bo l) n)=_;rw[jbW];unfold R3;by_cases a:n∈kk (ku l);rw[je a,je ((HQ h b).1 a)];have d:=HO h b;have e:wT (kY l n)=Of l n (u6 l n):=jR jch d;have e2:qb (kY l n)=Og l n (u6 l n):=jR jci d;have f:wZ (kY l n)=wN (u6 l n) (yx l):=by
  have:=(qv l n _ (jj _)).2.2.2.2.1;show wZ (kD l n _)=_;rw[this];show wN (nth (b7 (ku l)) n.toNat) (yx l)=_;rw[show b7 (ku l)=Lc (ku l) from UL _];rfl
 have c:(((wN (u6 l n) (yx l)).length:Nat):Int)=BT.size (u6 l n):=Pu i (by omega);rw[jay f e e2,c];rw[jc a,jc (fun g=>a ((HQ h b).2 g))];rfl
namespace U
def ew (b:BlD) (a:Int) (k:Nat):Bool:=decide (yF (qn (qi b)-(k:Int)) b<=a)
def cR (b:BlD):Nat:=(qn (qi b)+100001).toNat
def EP (b:BlD) (a:Int):Option Nat:=(List.range (cR b)).find? (ew b a)
def jdf (b:BlD):Option Nat->Int
 |some k=>qn (qi b)-(k:Int)
 |none=>0
def jdg:Option Nat->Int
 |some _=>0
 |none=>3
def jdw (a:Int):Option BlD->Int
 |some b=>jdf b (EP b a)
 |none=>0
def jdx (a:Int):Option BlD->Int
 |some b=>jdg (EP b a)
 |none=>3
def Lm (l:LgD) (n a:Int):Int:=if wC l (vS l n&&yf a)=0 then jdw a (Oe (bo l) n) else 0
def Ln (l:LgD) (n a:Int):Int:=if wC l (vS l n&&yf a)=0 then jdx a (Oe (bo l) n) else wC l (vS l n&&yf a)
end U
theorem FX (b:BlD) (a:Int):(∃k:Nat,EP b a=some k/\k<cR b/\ew b a k=true/\∀j:Nat,j<k->ew b a j=false)\/(EP b a=none/\∀j:Nat,j<cR b->ew b a j=false):=by
 cases e:EP b a with
 |some k=>
  left;unfold EP at e;obtain⟨l,d,rs,f,m⟩:=List.find?_eq_some_iff_append.1 e;have c:=jR List.length f;rw[zG,jI,jZ] at c;have hk:(List.range (cR b))[d.length]'(by rw[zG];omega)=k:=by
   have e2:(d++k::rs)[d.length]'(by rw[jI,jZ];omega)=k:=by
    rw[List.getElem_append_right (jj _)];simp
   have:=List.getElem_of_eq f (i:=d.length) (by rw[zG];omega);rw[this,e2]
  rw[List.getElem_range] at hk;refine⟨k,rfl,by omega,l,fun j h=> ?_⟩;have g:=List.getElem_of_eq f (i:=j) (by rw[zG];omega);rw[List.getElem_range,List.getElem_append_left (by omega)] at g;have:=m j (by rw[g];exact List.getElem_mem _);simpa using this
 |none=>
  right;unfold EP at e;rw[List.find?_eq_none] at e;refine⟨rfl,fun j h=> ?_⟩;have:=e j (jC.2 h);simpa using this
namespace U
def vE (a b:List Int) (k:Nat):List Int:=(List.range k).foldl (fun x p=>x.set p (nth x p+nth b p)) a
def wK (f:Nat->List Int) (n k:Nat):List Int:=(List.range k).foldl (fun a b=>vE a (f b) n) (List.replicate n 0)
def sP (l:List Int):List Int:=l.map (fun x=> -x)
def cy (l:List LnD) (k:Nat):Int:=(l.take k).foldl (fun s x=>s-VR x) 0
def az (l:LgD) (b:Nat):List Int:=vi (bo l) (b:Int)
def eD (l:LgD):List Int:=if wa l=0 then wK (az l) (yx l) (kB (ku l)).length else[]
def eE (l:LgD):List Int:=if wa l=0 then sP (qQ (bo l)) else[]
def eG (l:LgD):Int:=if wa l=0 then cy (ky (bo l)) (ky (bo l)).length else 0
end U
theorem pu (a b:List Int) (k:Nat):vE a b (k+1)=(vE a b k).set k (nth (vE a b k) k+nth b k):=by
 unfold vE;rw[ze,jT];rfl
theorem mJ (a b:List Int):∀k,(vE a b k).length=a.length
 |0=>rfl
 |k+1=>by rw[pu,zW,mJ a b k]
theorem uk {a b:List Int}:∀k,k<=a.length->∀j,nth (vE a b k) j=if j<k then nth a j+nth b j else nth a j
 |0,_,j=>by rw[jc (by omega)];rfl
 |k+1,hk,j=>by
  have c:=uk (a:=a) (b:=b) k (by omega)
  rw[pu,L.yq (by rw[mJ];omega)]
  by_cases e:k=j
  subst e
  rw[je rfl,c k,jc (by omega),je (by omega)]
  rw[jc e,c j]
  by_cases e2:j<k
  rw[je e2,je (by omega)]
  rw[jc e2,jc (by omega)]
theorem bK (f:Nat->List Int) (n k:Nat):wK f n (k+1)=vE (wK f n k) (f k) n:=by
 unfold wK;rw[ze,jT];rfl
theorem mK (f:Nat->List Int) (n:Nat):∀k,(wK f n k).length=n
 |0=>j7
 |k+1=>by rw[bK,mJ,mK f n k]
theorem YU {f:Nat->List Int} {n:Nat} {A B:Int}:∀k,(∀b,b<k->∀j,j<n->A<=nth (f b) j/\nth (f b) j<=B)->∀j,j<n->A*(k:Int)<=nth (wK f n k) j/\nth (wK f n k) j<=B*(k:Int)
 |0,_,j,a=>by
  have:nth (wK f n 0) j=0:=L.cz a
  rw[this];simp
 |k+1,h,j,a=>by
  have g:=YU (f:=f) (n:=n) (A:=A) (B:=B) k (fun b e=>h b (by omega)) j a
  have d:=h k (by omega) j a
  rw[bK,uk n (by rw[mK];exact jj _),je a]
  have c:A*((k+1:Nat):Int)=A*(k:Int)+A:=by rw[Int.natCast_add,Int.mul_add];simp
  have e2:B*((k+1:Nat):Int)=B*(k:Int)+B:=by rw[Int.natCast_add,Int.mul_add];simp
  rw[c,e2];omega
theorem KS {f g:Nat->List Int} {n:Nat}:∀k,(∀b,b<k->f b=g b)->wK f n k=wK g n k
 |0,_=>rfl
 |k+1,h=>by rw[bK,bK,KS k (fun b a=>h b (by omega)),h k (by omega)]
theorem FY {l:List LnD} {k:Nat} (h:k<l.length):cy l (k+1)=cy l k-VR (nth l k):=by
 unfold cy;rw[L.k8 h,jT];rfl
theorem XN (n:Nat) (b:Option BlD):(R2 n b).length=n:=by
 cases b with
 |none=>exact j7
 |some b=>
  show(wh (qb b) (wZ b) (wh (wT b) (wZ b) (List.replicate n 0) (wZ b).length) (wZ b).length).length=n;rw[yB,yB,j7]
theorem XO (o:BoD) (n:Int):(vi o n).length=(kC (kE (ku (gO o)))).length:=XN _ _
theorem jbX {o:BoD} (h:Li o) {n:Int}:∀j,j<(kC (kE (ku (gO o)))).length->-1000000000000000000<=nth (vi o n) j/\nth (vi o n) j<=1700000000000000000:=by
 obtain⟨k,g,f⟩:=h;intro j u;have g:(kC (kE (ku (gO o)))).length<=100:=g;unfold vi;cases e:Oe o n with
 |none=>
  show _<=nth (List.replicate _ 0) j/\nth (List.replicate _ 0) j<=_;rw[L.cz u];omega
 |some b=>
  have c:(n,some b)∈Ir o:=by
   refine(M.eH (kt:= .int) k.2.2.1).1 ?_;have e:kW none (kL .int n (Ir o))=some b:=e;cases s:kL (β:=Option BlD) Ty.int n (Ir o) with
   |none=>rw[s] at e;cases e
   |some v=>rw[s] at e;exact jR some e
  obtain⟨A,l,F⟩:=k.1 _ c;have l:some b=some A:=l;simp only[jw] at l;subst l;have w:Io b:=gT.1 F;have D:=f _ c b rfl;have E:=w.bl.tm;have C:=AM w;have B:=AN w;have d:∀p∈wZ b,0<=p/\p<((List.replicate (kC (kE (ku (gO o)))).length (0:Int)).length:Int):=fun p r=>by rw[j7];exact D p r
  obtain⟨m,y⟩:=lZ (a:=wT b) (M:=0) (tm:=wZ b) ⟨C.1,by omega⟩ d (fun x t=>by rw[List.eq_of_mem_replicate t];omega) (wZ b).length (jj _);have q:∀p∈wZ b,0<=p/\p<((wh (wT b) (wZ b) (List.replicate (kC (kE (ku (gO o)))).length (0:Int)) (wZ b).length).length:Int):=fun p r=>by rw[m];exact d p r
  obtain⟨G,z⟩:=lZ (a:=qb b) (M:=800000000000000008) (tm:=wZ b) ⟨B.1,by omega⟩ q (fun x t=>by
   obtain⟨i,hi,rfl⟩:=L.mem_iff.1 t;have:=y i (by rw[m] at hi;exact hi);omega) (wZ b).length (jj _)
  have:=z j (by rw[m,j7];exact u);have key:∀v:Int,-1000000000000000000<=v/\v<=800000000000000008+((wZ b).length:Int)*100000000000000001->-1000000000000000000<=v/\v<=1700000000000000000:=fun v s=>by omega
  exact key _ this
theorem jaz {o:BoD} (h:Lh o):(qQ o).length<=21/\∀x∈qQ o,-100000000<=x/\x<=2000000000000000000:=by
 obtain⟨c,m,d,s⟩:=h;unfold qQ;by_cases h:(vQ (gO o)).length=0;rw[je h];exact⟨jv _,fun x a=>by cases a⟩;rw[jc h];have f:vQ (gO o)≠[]:=fun e=>h (by rw[e];rfl)
 have v:=d _ (HM f);have a:∀x∈ky o,(0<=nW x/\nW x<(((yL (vQ (gO o))+1).toNat:Nat):Int))/\-1000000<=R0 x/\R0 x<=20000000000000000:=fun x a=>by
  obtain⟨k,b,p,q,rfl⟩:=FS c a;have i:=s _ p b rfl;have t:=NL i;have r:=d _ i;refine⟨⟨r.1,?_⟩,HL q⟩;show Lx b<_;omega
 have F:=Dm a;have u:=FT c;obtain⟨g,n⟩:=F (ky o).length (jj _);refine⟨by rw[g];omega,fun x a=> ?_⟩;obtain⟨j,l,rfl⟩:=L.mem_iff.1 a;have:=n j (by rw[g] at l;exact l);omega
theorem YV {l:List LnD} (h:∀x∈l,0<=VR x/\VR x<=1000000):∀k,k<=l.length->-1000000*(k:Int)<=cy l k/\cy l k<=0
 |0,_=>by show _<=(0:Int)/\(0:Int)<=0;omega
 |k+1,hk=>by
  have b:=YV h k (by omega)
  have a:=h _ (L.kw (show k<l.length by omega))
  rw[FY (by omega)];omega
theorem jc4 {l:LgD} (h:xP l):(kB (ku l)).length<=4:=by
 have a:=h.dy;unfold wE at a;rw[ji] at a;exact(ja a.1).1
structure jdF (l:LgD) (x:LnD):Prop where
 bk:0<=uX x/\uX x<((kB (ku l)).length:Int)
 py:nW x=nth (vQ l) (uX x).toNat
 pr:0<=nW x/\nW x<=20/\nW x<PJ l
 wk:0<=jch x/\jch x<=10000000000000000
 tr:0<=jci x/\jci x<=1000000000
 sb:0<=VR x/\VR x<=RZ (eJ l)
 tt:R0 x=jch x+jci x-VR x/\0<=R0 x
 kd:0<=iT (yV (nth (kB (ku l)) (uX x).toNat))/\iT (yV (nth (kB (ku l)) (uX x).toNat))<((aT (eJ l)).length:Int)
 pc:0<=nth (aT (eJ l)) (iT (yV (nth (kB (ku l)) (uX x).toNat))).toNat/\nth (aT (eJ l)) (iT (yV (nth (kB (ku l)) (uX x).toNat))).toNat<=100
 pp:100*VR x<=(jch x+jci x)*nth (aT (eJ l)) (iT (yV (nth (kB (ku l)) (uX x).toNat))).toNat
theorem XP {l:LgD} {i:Nat} (hi:i<(vQ l).length):nth (vQ l) i<PJ l:=by
 have:=(pq (l:=l) (vQ l).length (jj _)).2.1 i hi;show _<aU l (vQ l).length;omega
theorem jdG {l:LgD} (h:xP l) {x:LnD} (t:x∈ur l):jdF l x:=by
 obtain⟨p,v,b,i,z,y,rfl⟩:=HR.1 (show x∈mb l 21 from t);have c:0<=(b:Int)/\(b:Int)<(kB (ku l)).length:=(by rw[h.py.1] at i;omega);rw[<-HO h c];have w:=Kz h c;obtain⟨c1,c2,e,f,_⟩:=qv l (b:Int) _ (jj _);have c1:qi (kY l (b:Int))=nth (kB (ku l)) b:=c1;have c2:yE (kY l (b:Int))=eJ l:=c2;have e:Od (kY l (b:Int))=(b:Int):=e;have f:Lx (kY l (b:Int))=nth (vQ l) b:=f;have r:=AM w;have q:=AN w;have o:=w.bl.ta.cp;have d:=U7 w.bl;have hk:=w.bl.kd;have j:=w.bl.ta.sl;rw[c1,c2] at d;rw[c1] at hk;rw[c2] at o j;have m:0<=(wT (kY l (b:Int))+qb (kY l (b:Int)))*nth (aT (eJ l)) (iT (yV (nth (kB (ku l)) b))).toNat:=Int.mul_nonneg (by omega) d.1;have n:(wT (kY l (b:Int))+qb (kY l (b:Int)))*nth (aT (eJ l)) (iT (yV (nth (kB (ku l)) b))).toNat<=(wT (kY l (b:Int))+qb (kY l (b:Int)))*100:=Int.mul_le_mul_of_nonneg_left d.2 (by omega);have g:nX (kY l (b:Int))=min (RZ (eJ l)) (((wT (kY l (b:Int))+qb (kY l (b:Int)))*nth (aT (eJ l)) (iT (yV (nth (kB (ku l)) b))).toNat)/100):=by
  unfold nX;rw[c1,c2,Int.tdiv_eq_ediv_of_nonneg m]
 have u:=XP i;have s:=h.py.2 _ (L.kw i);have k:uX (qc (kY l (b:Int)))=(b:Int):=e;have ep:nW (qc (kY l (b:Int)))=nth (vQ l) b:=f;have a:(uX (qc (kY l (b:Int)))).toNat=b:=(by rw[k];rfl);refine⟨by rw[k];exact c,by rw[ep,a],by rw[ep];omega,r,q,?_,⟨rfl,?_⟩,by rw[a];omega,by rw[a];exact d,?_⟩;show 0<=nX _/\nX _<=_;rw[g];omega;show 0<=wT _+qb _-nX _;rw[g];omega;rw[a];show 100*nX _<=(wT _+qb _)*_;rw[g];omega
theorem XQ {l:LgD} (h:xP l):(ur l).length<=(kB (ku l)).length:=by
 rw[<-dX h];have e:(ky (U.bo l)).length=(qK (Lg l)).length:=(wq _).length_eq;rw[e,HP,zr];unfold kk
 split
 unfold yR;rw[zr];exact jE (z8 _ _) (by rw[zG];exact jj _);exact jv _
end Go.X

namespace Go.X
open U
namespace U
def wn (l:LgD) (ss:List ShD) (cs:List CaD):LgD:=(l4 (ku l) ss,vQ l,DC l,eJ l,cs,())
def mc (l:LgD) (b:Int) (c:CaD):Prop:=ja8 c=b/\F6 c<=qn (DE l b)
end U
theorem ul {l:LgD} {b:Int}:∀k,k<=(kP l).length->
 ((yM l b k).2=true->∃i,i<k/\mc l b (nth (kP l) i)/\(yM l b k).1=F6 (nth (kP l) i))/\
 (∀i,i<k->mc l b (nth (kP l) i)->(yM l b k).2=true/\(yM l b k).1<=F6 (nth (kP l) i))/\((yM l b k).2=false->(yM l b k).1=0)
 |0,_=>⟨fun h=>(by cases h),fun i hi=>by omega,fun _=>rfl⟩
 |k+1,hk=>by
  obtain⟨m,g,n⟩:=ul (l:=l) (b:=b) k (by omega)
  rw[po (by omega)]
  unfold DF
  by_cases h:ja8 (nth (kP l) k)=b/\F6 (nth (kP l) k)<=qn (DE l b)/\((yM l b k).2=false\/F6 (nth (kP l) k)<(yM l b k).1)
  rw[je h]
  refine⟨fun _=>⟨k,by omega,⟨h.1,h.2.1⟩,rfl⟩,fun i hi a=>⟨rfl,?_⟩,fun d=>(by cases d)⟩
  show F6 (nth (kP l) k)<=_
  by_cases e:i=k
  subst e;exact zK _
  obtain⟨j,o⟩:=g i (by omega) a
  rcases h.2.2 with c|c
  rw[j] at c;cases c
  omega
  rw[jc h]
  refine⟨fun d=> ?_,fun i hi a=> ?_,n⟩
  obtain⟨i,hi,a,e⟩:=m d
  exact⟨i,by omega,a,e⟩
  by_cases e:i=k
  subst e
  cases c:(yM l b i).2 with
  |false=>exact absurd ⟨a.1,a.2,Or.inl c⟩ h
  |true=>
   refine⟨rfl,?_⟩
   rcases Int.lt_or_le (F6 (nth (kP l) i)) (yM l b i).1 with f|f
   exact absurd ⟨a.1,a.2,Or.inr f⟩ h
   exact f
  exact g i (by omega) a
theorem Vo {l l':LgD} {b:Int} (w:DE l' b=DE l b) (h:∀c,c∈kP l'↔c∈kP l):yU l' b=yU l b:=by
 obtain⟨k,m,n⟩:=ul (l:=l) (b:=b) _ (jj _);obtain⟨o,p,q⟩:=ul (l:=l') (b:=b) _ (jj _);have k:(yU l b).2=true->∃i,i<(kP l).length/\mc l b (nth (kP l) i)/\(yU l b).1=F6 (nth (kP l) i):=k;have m:∀i,i<(kP l).length->mc l b (nth (kP l) i)->(yU l b).2=true/\(yU l b).1<=F6 (nth (kP l) i):=m;have n:(yU l b).2=false->(yU l b).1=0:=n;have o:(yU l' b).2=true->∃i,i<(kP l').length/\mc l' b (nth (kP l') i)/\(yU l' b).1=F6 (nth (kP l') i):=o;have p:∀i,i<(kP l').length->mc l' b (nth (kP l') i)->(yU l' b).2=true/\(yU l' b).1<=F6 (nth (kP l') i):=p;have q:(yU l' b).2=false->(yU l' b).1=0:=q;have hi:∀c,mc l' b c↔mc l b c:=fun c=>by unfold mc;rw[w]
 have g:(yU l' b).2=true->(yU l b).2=true/\(yU l b).1<=(yU l' b).1:=fun s=>by
  obtain⟨i,a,t,e⟩:=o s;obtain⟨j,r,f⟩:=L.mem_iff.1 ((h _).1 (L.kw a));have:=m j r (by rw[f];exact(hi _).1 t);rw[f,<-e] at this;exact this
 have u:(yU l b).2=true->(yU l' b).2=true/\(yU l' b).1<=(yU l b).1:=fun s=>by
  obtain⟨i,a,t,e⟩:=k s;obtain⟨j,r,f⟩:=L.mem_iff.1 ((h _).2 (L.kw a));have:=p j r (by rw[f];exact(hi _).2 t);rw[f,<-e] at this;exact this
 cases d:(yU l b).2 with
 |true=>
  have v:=u d;have x:=g v.1;exact Prod.ext (by omega) (by rw[v.1,d])
 |false=>
  cases e2:(yU l' b).2 with
  |true=>have:=(g e2).1;rw[d] at this;cases this
  |false=>exact Prod.ext (by rw[n d,q e2]) (by rw[d,e2])
theorem RE {l l':LgD} {b t:Int} (c:DE l' b=DE l b) (a:eJ l'=eJ l) (i:vQ l'=vQ l) (j:DC l'=DC l) (d:yU l' b=yU l b):u5 l' b t=u5 l b t:=by
 have k:Yc l' b=Yc l b:=by
  unfold Yc Ij Ii;rw[c,a]
 have h:∀m,VV l' b m=VV l b m:=fun m=>by
  unfold VV jck;rw[c,a,k]
 have o:∀m,jaS l' b m=jaS l b m:=fun m=>by
  have e:Ll l' b m=Ll l b m:=(by funext n;unfold Ll;rw[c]);unfold jaS;rw[a,e]
 have g:Of l' b t=Of l b t:=by
  unfold Of;rw[d,h,o]
 have f:Og l' b t=Og l b t:=by
  unfold Og;rw[d,a,j]
 have s1:Yd l' b t=Yd l b t:=by
  unfold Yd;rw[g,f,c,a]
 unfold u5;rw[g,f,s1,i]
theorem FZ {l:List CaD}:vR l=false↔∀a∈l,∀b∈l,Lw a=Lw b->a=b:=by
 constructor;intro h;have key:∀i j,j<i->i<l.length->Lw (nth l j)=Lw (nth l i)->nth l j=nth l i:=fun i j f hi e=>by
  unfold vR l9 at h;rw[zh] at h;have d:=h i (jC.2 hi);unfold gj at d;rw[zR,zh] at d;have g:=d (nth l j) (L.mem_iff.2 ⟨j,by rw[jX];omega,L.nth_take f⟩);rw[zR,jJ e,Bool.true_and,zc,jr] at g;exact g
 intro a k b m e;obtain⟨i,hi,rfl⟩:=L.mem_iff.1 k;obtain⟨j,f,rfl⟩:=L.mem_iff.1 m;rcases Nat.lt_trichotomy i j with c|c|c;exact key j i c f e;rw[c];exact(key i j c hi e.symm).symm;intro h;cases e:vR l with
 |false=>rfl
 |true=>
  exfalso;unfold vR l9 at e;rw[j8] at e;obtain⟨i,hi,e⟩:=e;have hi:=jC.1 hi;unfold gj at e;rw[j8] at e;obtain⟨x,n,e⟩:=e;rw[ji,jr,jN,jD] at e;exact e.2 (h x (zS n) _ (L.kw hi) e.1)
theorem mL {l:LgD} (h:wa l=0):wm (ku l)=0/\ay l=true/\vR (kP l)=false:=by
 unfold wa at h
 split at h
 rename_i a;exact absurd h a;rename_i a
 split at h
 cases h;rename_i b
 split at h
 cases h;rename_i c;exact⟨jM.1 a,by simpa using b,by simpa using c⟩
theorem jaA {l:LgD} (a:wm (ku l)=0) (b:ay l=true) (c:vR (kP l)=false):wa l=0:=by
 unfold wa;rw[jc (fun h=>h a),jc (by rw[b];decide),jc (by rw[c];decide)]
theorem jbY {l:LgD} {ss:List ShD} {cs:List CaD} (h:wa l=0) (m:∀s,s∈ss↔s∈kX (ku l)) (i:ss.length<=30) (f:∀c∈cs,iS (kB (ku l)).length c=true) (e:cs.length<=10) (d:vR cs=false):wa (wn l ss cs)=0:=by
 obtain⟨j,a,n⟩:=mL h;have k:=(gx (ku l)).symm.trans j;have b:=U2 k i (fun s g=>(m s).1 g);refine jaA ((gx _).trans b) ?_ d;unfold ay at a⊢;simp only[ji,jr,jV] at a⊢;exact⟨a.1,a.2.1,e,f⟩
theorem jc5 {l:LgD} {ss:List ShD} {cs:List CaD} (h:wa l=0) (e:∀s,s∈ss↔s∈kX (ku l)) (d:ss.length<=30):Lc (ku (wn l ss cs))=Lc (ku l):=by
 have b:=(gx (ku l)).symm.trans (mL h).1;have a:gL (l4 (ku l) ss)=0:=U2 b d (fun s c=>(e s).1 c);show Lc (l4 (ku l) ss)=_;unfold Lc;rw[je a,je b,XC b a e]
theorem Vp {l:LgD} {ss:List ShD} {cs:List CaD} (h:wa l=0) (g:∀s,s∈ss↔s∈kX (ku l)) (e:ss.length<=30) (d:∀c,c∈cs↔c∈kP l):
 (∀b,u6 (wn l ss cs) b=u6 l b)/\(∀b,jcC (wn l ss cs) b=jcC l b)/\∀b t,u5 (wn l ss cs) b t=u5 l b t:=by
 have i:=jc5 (cs:=cs) h g e;have f:∀b,u6 (wn l ss cs) b=u6 l b:=fun b=>by unfold u6;rw[i]
 have a:∀b,DE (wn l ss cs) b=DE l b:=fun b=>rfl
 refine⟨f,fun b=> ?_,fun b t=>RE (a b) rfl rfl rfl (Vo (a b) d)⟩;unfold jcC;rw[f,a];rfl
theorem jbZ {l:LgD} {ss:List ShD} {cs:List CaD} (h:wa l=0) (m:∀s,s∈ss↔s∈kX (ku l)) (d:ss.length<=30) (a:∀c,c∈cs↔c∈kP l):ur (wn l ss cs)=ur l:=by
 obtain⟨g,i,j⟩:=Vp h m d a;have e:∀p,jcm (wn l ss cs) p=jcm l p:=fun p=>by
  funext b;unfold jcm;rw[i];rfl
 have e2:∀p k,pB (wn l ss cs) p k=pB l p k:=fun p k=>by
  unfold pB;rw[e];refine List.map_congr_left fun b _=> ?_
  rw[j,g]
 unfold ur mb;have f:(fun p:Nat=>pB (wn l ss cs) (p:Int) (vQ (wn l ss cs)).length)=fun p:Nat=>pB l (p:Int) (vQ l).length:=by
  funext p;exact e2 _ _
 rw[f]
theorem jb0 {l:LgD} {ss:List ShD} {cs:List CaD} (h:wa l=0) (i:∀s,s∈ss↔s∈kX (ku l)) (d:ss.length<=30) (a:∀c,c∈cs↔c∈kP l) (b:Int):R3 (wn l ss cs) b=R3 l b:=by
 obtain⟨f,g,e⟩:=Vp h i d a;have w:=jR jch (e b (u6 l b));have t:=jR jci (e b (u6 l b));have w:Of (wn l ss cs) b (u6 l b)=Of l b (u6 l b):=w;have t:Og (wn l ss cs) b (u6 l b)=Og l b (u6 l b):=t;unfold R3;rw[f,g,w,t];rfl
open Go.Proofs
namespace U
def R4 (l:List NoD) (j:Nat):Bool:=(kj (V6 (nth l j)) 0 100000&&kj (Y0 (nth l j)) 0 100)&&(decide (j=0)||decide (V6 (nth l j)<V6 (nth l (j-1))))
def VZ (a b:CaD):Bool:=decide (Lw a=Lw b)&& !decide (a=b)
def Se (l:LgD) (j:Nat):Bool:=Lf (nth (vQ l) j)&&uZ (nth (DC l) j)
end U
def KT:we:=⟨[.val .int,.val .int,.val .int],[.bool],false,fun _=>[],fun d=>(kj d.1 d.2.1 d.2.2.1,())⟩
def KU:Prop:=∀(d:CaD),(decide (d.2.1<=d.1)&&decide (d.1<=d.2.2.1),())=(kj d.1 d.2.1 d.2.2.1,())
def Eu:we:=⟨[.val tTa],[.bool],false,fun _=>[],fun d=>(vg d.1,())⟩
def Ev:Ann:=fun r=>match r with
 |4=>some fun σ=>{X:=Nat,sl:=fun i=>[(3,.dat .int (i:Int))],ob:=fun _=>[],inv:=fun i=>i<=(aT (gb tTa σ 1)).length/\∀j:Nat,j<i->kj (nth (aT (gb tTa σ 1)) j) 0 100=true,mu:=fun i=>(aT (gb tTa σ 1)).length-i}
 |9=>some fun σ=>{X:=Nat,sl:=fun i=>[(4,.dat .int (i:Int))],ob:=fun _=>[],inv:=fun i=>i<=(d9 (gb tTa σ 1)).length/\∀j:Nat,j<i->R4 (d9 (gb tTa σ 1)) j=true,mu:=fun i=>(d9 (gb tTa σ 1)).length-i}
 |_=>none
abbrev jfW (d:TaD×Unit)(x:Nat):=(nth d.1.q4.q4.2.1 x)
abbrev jg1 (d:TaD×Unit)(x:Nat):=(!(!kj (jfW d x).1 (0:Int) (100000:Int)|| !kj (jfW d x).2.1 (0:Int) (100:Int))&&decide (0<(x:Int)))
abbrev jhH (d:TaD×Unit)(x:Nat):=(!kj (jfW d x).1 (0:Int) (100000:Int)|| !kj (jfW d x).2.1 (0:Int) (100:Int)||decide (0<(x:Int))&&decide ((nth d.1.q4.q4.2.1 ((x:Int)-1).toNat).1<=(jfW d x).1))
abbrev jfX (d:TaD×Unit):=(d.1.q4.q4.2.1.length:Int)
abbrev jfY (d:TaD×Unit):=(d.1.q4.q4.1.length:Int)
abbrev jhI (d:TaD×Unit):=(!kj d.1.1 (1:Int) (240:Int)|| !kj d.1.2.1 (0:Int) (10000:Int)|| !kj d.1.2.2.1 (0:Int) (20:Int)|| !kj d.1.q4.1 (0:Int) d.1.2.2.2.1||decide (1440<d.1.2.2.2.1)|| !kj d.1.q4.2.1 (0:Int) (100:Int)|| !kj d.1.q4.2.2.1 (0:Int) (10000:Int)||decide ((jfY d)≠4)|| !kj d.1.q4.2.2.2.1 (0:Int) (1000000:Int)||decide (4<(jfX d)))
abbrev jhJ (d:TaD×Unit)(x:Nat):=(!kj (nth d.1.q4.q4.1 x) (0:Int) (100:Int))
def Ew:Prop:=∀(d:TaD×Unit),((!(!kj d.1.1 (1:Int) (240:Int)|| !kj d.1.2.1 (0:Int) (10000:Int)|| !kj d.1.2.2.1 (0:Int) (20:Int)|| !kj d.1.q4.1 (0:Int) d.1.2.2.2.1||decide (1440<d.1.2.2.2.1)|| !kj d.1.q4.2.1 (0:Int) (100:Int)|| !kj d.1.q4.2.2.1 (0:Int) (10000:Int)))=true->d.1.q4.q4.1.length<4611686018427387904)->((!(!kj d.1.1 (1:Int) (240:Int)|| !kj d.1.2.1 (0:Int) (10000:Int)|| !kj d.1.2.2.1 (0:Int) (20:Int)|| !kj d.1.q4.1 (0:Int) d.1.2.2.2.1||decide (1440<d.1.2.2.2.1)|| !kj d.1.q4.2.1 (0:Int) (100:Int)|| !kj d.1.q4.2.2.1 (0:Int) (10000:Int)||decide ((jfY d)≠4)|| !kj d.1.q4.2.2.2.1 (0:Int) (1000000:Int)))=true->d.1.q4.q4.2.1.length<4611686018427387904)->((jhI d)=true->(false,())=(vg d.1,()))/\((jhI d)=false->(∃(x:Nat),((0=(x:Int)/\True)/\True)/\x<=(aT d.1).length/\∀(j:Nat),j<x->kj (nth (aT d.1) j) (0:Int) 100=true)/\∀(x:Nat),(x<=(aT d.1).length/\∀(j:Nat),j<x->kj (nth (aT d.1) j) (0:Int) 100=true)->d.1.q4.q4.1.length<4611686018427387904->(decide ((x:Int)<(jfY d))=true->0<=(x:Int)/\(x:Int)<(jfY d)/\((jhJ d x)=true->(false,())=(vg d.1,()))/\((jhJ d x)=false->kM ((x:Int)+1)/\∃(a:Nat),(((x:Int)+1=(a:Int)/\True)/\True)/\(a<=(aT d.1).length/\∀(j:Nat),j<a->kj (nth (aT d.1) j) (0:Int) 100=true)/\(aT d.1).length-a<(aT d.1).length-x))/\(decide ((x:Int)<(jfY d))=false->(∃(x:Nat),((0=(x:Int)/\True)/\True)/\x<=(d9 d.1).length/\∀(j:Nat),j<x->R4 (d9 d.1) j=true)/\∀(x:Nat),(x<=(d9 d.1).length/\∀(j:Nat),j<x->R4 (d9 d.1) j=true)->d.1.q4.q4.2.1.length<4611686018427387904->(decide ((x:Int)<(jfX d))=true->0<=(x:Int)/\(x:Int)<(jfX d)/\((jg1 d x)=true->kM ((x:Int)-1))/\((jg1 d x)=true->0<=(x:Int)-1)/\((jg1 d x)=true->(x:Int)-1<(jfX d))/\((jhH d x)=true->(false,())=(vg d.1,()))/\((jhH d x)=false->kM ((x:Int)+1)/\∃(a:Nat),(((x:Int)+1=(a:Int)/\True)/\True)/\(a<=(d9 d.1).length/\∀(j:Nat),j<a->R4 (d9 d.1) j=true)/\(d9 d.1).length-a<(d9 d.1).length-x))/\(decide ((x:Int)<(jfX d))=false->(true,())=(vg d.1,()))))
def Ey:we:=⟨[.val tLg],[.bool],false,fun _=>[],fun d=>(ay d.1,())⟩
def Ez:Ann:=fun r=>match r with
 |5=>some fun σ=>{X:=Nat,sl:=fun i=>[(4,.dat .int (i:Int))],ob:=fun _=>[],inv:=fun i=>i<=(gd .int σ 3).toNat/\∀j:Nat,j<i->Se (gb tLg σ 1) j=true,mu:=fun i=>(gd .int σ 3).toNat-i}
 |10=>some fun σ=>{X:=Nat,sl:=fun i=>[(5,.dat .int (i:Int))],ob:=fun _=>[],inv:=fun i=>i<=(kP (gb tLg σ 1)).length/\∀j:Nat,j<i->iS (gd .int σ 3).toNat (nth (kP (gb tLg σ 1)) j)=true,mu:=fun i=>(kP (gb tLg σ 1)).length-i}
 |_=>none
abbrev jea (d:LgD×Unit):=(d.1.1.2.2.1.length:Int)
abbrev jhK (d:LgD×Unit)(x:Nat):=(!kj (nth d.1.2.1 x) (0:Int) (20:Int)|| !kj (nth d.1.2.2.1 x) (0:Int) (300:Int))
abbrev jgm (d:LgD×Unit)(x:Nat):=(nth d.1.q4.1 x)
abbrev jhL (d:LgD×Unit)(x:Nat):=(!kj (jgm d x).1 (0:Int) (99:Int)|| !kj (jgm d x).2.1 (0:Int) ((jea d)-1)|| !kj (jgm d x).2.2.1 (-100000:Int) (1440:Int))
abbrev jg2 (d:LgD×Unit):=((d.1.2.1.length:Int)≠(jea d))
abbrev jgn (d:LgD×Unit):=(d.1.q4.1.length:Int)
abbrev jhM (d:LgD×Unit):=(decide (jg2 d)||decide ((d.1.2.2.1.length:Int)≠(jea d))|| !vg d.1.2.2.2.1||decide (10<(jgn d)))
def EA:Prop:=∀(d:LgD×Unit),d.1.1.2.2.1.length<4611686018427387904->d.1.2.1.length<4611686018427387904->((!decide (jg2 d))=true->d.1.2.2.1.length<4611686018427387904)->((!(decide (jg2 d)||decide ((d.1.2.2.1.length:Int)≠(jea d))|| !vg d.1.2.2.2.1))=true->d.1.q4.1.length<4611686018427387904)->((jhM d)=true->(false,())=(ay d.1,()))/\((jhM d)=false->(∃(x:Nat),((0=(x:Int)/\True)/\True)/\x<=(jea d).toNat/\∀(j:Nat),j<x->Se d.1 j=true)/\∀(x:Nat),(x<=(jea d).toNat/\∀(j:Nat),j<x->Se d.1 j=true)->(decide ((x:Int)<(jea d))=true->0<=(x:Int)/\(x:Int)<d.1.2.1.length/\((!!kj (nth d.1.2.1 x) (0:Int) (20:Int))=true->0<=(x:Int))/\((!!kj (nth d.1.2.1 x) (0:Int) (20:Int))=true->(x:Int)<d.1.2.2.1.length)/\((jhK d x)=true->(false,())=(ay d.1,()))/\((jhK d x)=false->kM ((x:Int)+1)/\∃(a:Nat),(((x:Int)+1=(a:Int)/\True)/\True)/\(a<=(jea d).toNat/\∀(j:Nat),j<a->Se d.1 j=true)/\(jea d).toNat-a<(jea d).toNat-x))/\(decide ((x:Int)<(jea d))=false->(∃(x:Nat),((0=(x:Int)/\True)/\True)/\x<=(kP d.1).length/\∀(j:Nat),j<x->iS (jea d).toNat (nth (kP d.1) j)=true)/\∀(x:Nat),(x<=(kP d.1).length/\∀(j:Nat),j<x->iS (jea d).toNat (nth (kP d.1) j)=true)->d.1.q4.1.length<4611686018427387904->(decide ((x:Int)<(jgn d))=true->0<=(x:Int)/\(x:Int)<(jgn d)/\((!!kj (jgm d x).1 (0:Int) (99:Int))=true->kM ((jea d)-1))/\((jhL d x)=true->(false,())=(ay d.1,()))/\((jhL d x)=false->kM ((x:Int)+1)/\∃(a:Nat),(((x:Int)+1=(a:Int)/\True)/\True)/\(a<=(kP d.1).length/\∀(j:Nat),j<a->iS (jea d).toNat (nth (kP d.1) j)=true)/\(kP d.1).length-a<(kP d.1).length-x))/\(decide ((x:Int)<(jgn d))=false->(true,())=(ay d.1,()))))
def NN:we:=⟨[.val tLg],[.int],false,fun d=>[(kB (ku d.1)).length<=1000000],fun d=>(wa d.1,())⟩
def NO:Ann:=fun r=>match r with
 |7=>some fun σ=>{X:=Nat,sl:=fun i=>[(4,.dat .int (i:Int))],ob:=fun _=>[],inv:=fun i=>i<=(kP (gb tLg σ 1)).length/\∀b:Nat,b<i->gj (kP (gb tLg σ 1)) b=false,mu:=fun i=>(kP (gb tLg σ 1)).length-i}
 |10=>some fun σ=>{X:=Nat,sl:=fun i=>[(5,.dat .int (i:Int))],ob:=fun _=>[],inv:=fun i=>i<=(gd .int σ 4).toNat/\∀j:Nat,j<i->VZ (nth (kP (gb tLg σ 1)) (gd .int σ 4).toNat) (nth (kP (gb tLg σ 1)) j)=false,mu:=fun i=>(gd .int σ 4).toNat-i}
 |_=>none
abbrev jfZ (d:LgD×Unit)(x:Nat)(a:Nat):=((nth d.1.q4.1 x).1=(nth d.1.q4.1 a).1)
abbrev jfs (d:LgD×Unit):=(d.1.q4.1.length:Int)
abbrev jhN (d:LgD×Unit)(x:Nat)(a:Nat):=(decide (jfZ d x a)&& !decide (nth d.1.q4.1 x=nth d.1.q4.1 a))
def NP:Prop:=∀(d:LgD×Unit),(kB (ku d.1)).length<=1000000->(kB d.1.1).length<=1000000/\(decide (gL d.1.1≠0)=true->(gL d.1.1,())=(wa d.1,()))/\(decide (gL d.1.1≠0)=false->((!ay d.1)=true->((70:Int),())=(wa d.1,()))/\((!ay d.1)=false->(∃(x:Nat),((0=(x:Int)/\True)/\True)/\x<=(kP d.1).length/\∀(b:Nat),b<x->gj (kP d.1) b=false)/\∀(x:Nat),(x<=(kP d.1).length/\∀(b:Nat),b<x->gj (kP d.1) b=false)->d.1.q4.1.length<4611686018427387904->(decide ((x:Int)<(jfs d))=true->(∃(a:Nat),((0=(a:Int)/\True)/\True)/\a<=x/\∀(j:Nat),j<a->VZ (nth (kP d.1) x) (nth (kP d.1) j)=false)/\∀(a:Nat),(a<=x/\∀(j:Nat),j<a->VZ (nth (kP d.1) x) (nth (kP d.1) j)=false)->(decide ((a:Int)<(x:Int))=true->0<=(x:Int)/\(x:Int)<(jfs d)/\0<=(a:Int)/\(a:Int)<(jfs d)/\(decide (jfZ d x a)=true->0<=(x:Int))/\(decide (jfZ d x a)=true->(x:Int)<(jfs d))/\(decide (jfZ d x a)=true->0<=(a:Int))/\(decide (jfZ d x a)=true->(a:Int)<(jfs d))/\((jhN d x a)=true->((71:Int),())=(wa d.1,()))/\((jhN d x a)=false->kM ((a:Int)+1)/\∃(c:Nat),(((a:Int)+1=(c:Int)/\True)/\True)/\(c<=x/\∀(j:Nat),j<c->VZ (nth (kP d.1) x) (nth (kP d.1) j)=false)/\x-c<x-a))/\(decide ((a:Int)<(x:Int))=false->kM ((x:Int)+1)/\∃(c:Nat),(((x:Int)+1=(c:Int)/\True)/\True)/\(c<=(kP d.1).length/\∀(b:Nat),b<c->gj (kP d.1) b=false)/\(kP d.1).length-c<(kP d.1).length-x))/\(decide ((x:Int)<(jfs d))=false->((0:Int),())=(wa d.1,()))))
theorem NQ:KU:=by
 rintro⟨n,a,b,⟨⟩⟩;rfl
theorem uU:wo PR 41 KT:=wb NQ Tryz.func41 kcN koN
theorem Dn:∀{l:List NoD} {last:Int},uY last l=true↔∀j,j<l.length->Ih (if j=0 then last else V6 (nth l (j-1))) (nth l j)=true
 |[],_=>⟨fun _ j a=>(by cases a),fun _=>rfl⟩
 |n::r,last=>by
  have d:=Dn (l:=r) (last:=V6 n)
  show(Ih last n&&uY (V6 n) r)=true↔_
  rw[ji,d]
  constructor
  rintro⟨b,c⟩ j a
  cases j with
  |zero=>exact b
  |succ j=>
   rw[jc (by omega)]
   have:=c j (by simpa using a)
   cases j with
   |zero=>exact this
   |succ j=>exact this
  intro h
  refine⟨h 0 (by simp),fun j a=> ?_⟩
  have:=h (j+1) (by simpa using a)
  rw[jc (by omega)] at this
  cases j with
  |zero=>exact this
  |succ j=>exact this
theorem jb1 {l:List NoD}:uY 100001 l=true↔∀j,j<l.length->R4 l j=true:=by
 constructor;intro h j b;have a:=(Hz h _ (L.kw b));have c:=Dn.1 h j b;unfold R4;simp only[ji,zy,jr,qx];refine⟨⟨by omega,by omega⟩,?_⟩;by_cases e:j=0;exact Or.inl e;rw[jc e] at c;unfold Ih at c;rw[ji,qx] at c;right;omega;intro h;refine Dn.2 fun j b=> ?_
 have a:=h j b;unfold R4 at a;simp only[ji,zy,jr,qx] at a;unfold Ih U.share;rw[ji,qx,qx];refine⟨?_,a.1.2⟩;by_cases e:j=0;rw[je e];omega;rw[jc e];omega
def taH (t:TaD):Bool:= !kj (V7 t) 1 240|| !kj (jcf t) 0 10000|| !kj (jcg t) 0 20|| !kj (jaQ t) 0 (X9 t)||decide (1440<X9 t)|| !kj (V8 t) 0 100|| !kj (ja7 t) 0 10000||decide (((aT t).length:Int)≠4)|| !kj (RZ t) 0 1000000||decide (4<((d9 t).length:Int))
theorem HT (t:TaD):vg t=true↔taH t=false/\(∀j,j<(aT t).length->kj (nth (aT t) j) 0 100=true)/\∀j,j<(d9 t).length->R4 (d9 t) j=true:=by
 rw[<-jb1];unfold vg taH U.share;simp only[jP,jD,zc,ji,jr,qx,jV];constructor;rintro⟨⟨⟨⟨⟨⟨⟨a,b⟩,c⟩,l⟩,d⟩,e⟩,f⟩,⟨⟨⟨m,g⟩,h⟩,n⟩,i⟩;exact⟨⟨⟨⟨⟨⟨⟨⟨⟨⟨a,b⟩,c⟩,d⟩,by omega⟩,e⟩,f⟩,by omega⟩,h⟩,by omega⟩,fun j k=>g _ (L.kw k),i⟩;rintro⟨⟨⟨⟨⟨⟨⟨⟨⟨⟨a,b⟩,c⟩,d⟩,l⟩,e⟩,f⟩,m⟩,h⟩,n⟩,g,i⟩;refine⟨⟨⟨⟨⟨⟨⟨a,b⟩,c⟩,by omega⟩,d⟩,e⟩,f⟩,⟨⟨⟨by omega,fun x o=> ?_⟩,h⟩,by omega⟩,i⟩;obtain⟨j,k,rfl⟩:=L.mem_iff.1 o;exact g j k
theorem jaB {t:TaD} (h:¬vg t=true):(false,())=(vg t,()):=by
 rw[zR] at h;rw[h]
theorem Do (l:LgD):ay l=true↔((vQ l).length=(kB (ku l)).length/\(DC l).length=(kB (ku l)).length/\vg (eJ l)=true/\(kP l).length<=10)/\(∀j,j<(kB (ku l)).length->Se l j=true)/\∀j,j<(kP l).length->iS (kB (ku l)).length (nth (kP l) j)=true:=by
 unfold ay Se;simp only[ji,jr,jV];constructor;rintro⟨⟨⟨c,h⟩,d,i⟩,e,f,k⟩;exact⟨⟨c,d,e,f⟩,fun j a=>⟨h _ (L.kw (by omega)),i _ (L.kw (by omega))⟩,fun j a=>k _ (L.kw a)⟩;rintro⟨⟨c,d,e,f⟩,g,m⟩;refine⟨⟨⟨c,fun x b=> ?_⟩,d,fun x b=> ?_⟩,e,f,fun x b=> ?_⟩;obtain⟨j,a,rfl⟩:=L.mem_iff.1 b;exact(g j (by omega)).1;obtain⟨j,a,rfl⟩:=L.mem_iff.1 b;exact(g j (by omega)).2;obtain⟨j,a,rfl⟩:=L.mem_iff.1 b;exact m j a
theorem jaC {l:LgD} (h:¬ay l=true):(false,())=(ay l,()):=by
 rw[zR] at h;rw[h]
theorem jb2 {l:List CaD} {i:Nat} (h:∀j:Nat,j<i->VZ (nth l i) (nth l j)=false) (hi:i<=l.length):gj l i=false:=by
 unfold gj;rw[zh];intro x c;obtain⟨j,b,rfl⟩:=L.mem_iff.1 c;rw[jX] at b;rw[L.nth_take (by omega)];have:=h j (by omega);unfold VZ at this;rw[zR,Bool.and_eq_false_iff] at*;rcases this with a|a;left;exact zl fun e=>jd a e.symm
 right;rw[zc,jr] at a;rw[a,jJ rfl];rfl
theorem jaD {l:List CaD} {i j:Nat} (hi:i<l.length) (a:j<i) (h:VZ (nth l i) (nth l j)=true):vR l=true:=by
 unfold vR l9;rw[j8];refine⟨i,jC.2 hi,?_⟩;unfold gj;rw[j8];unfold VZ at h;rw[ji,jr,jN,jD] at h;refine⟨nth l j,?_,?_⟩;exact L.mem_iff.2 ⟨j,by rw[jX];omega,L.nth_take (by omega)⟩;rw[ji,jr,jN,jD];exact⟨h.1.symm,fun e=>h.2 e.symm⟩
theorem HU:Ew:=by
 unfold Ew jhJ jhI jfY jfX jhH jg1 jfW Prod.q4;rintro⟨t,⟨⟩⟩ _ _;refine⟨fun h=>jaB (t:=t) (fun c=> ?_),fun k=> ?_⟩;have h:taH t=true:=h;rw[((HT t).1 c).1] at h;cases h;have k:taH t=false:=k;refine⟨⟨0,⟨⟨rfl,tZ⟩,tZ⟩,jv _,fun j f=>by omega⟩,fun x d g=>⟨fun h=> ?_,fun h=> ?_⟩⟩;have g:(aT t).length<4611686018427387904:=g;have h:(x:Int)<(aT t).length:=ja h;refine⟨by omega,h,fun c=>jaB (t:=t) (fun i=> ?_),fun c=>⟨iZ6,x+1,⟨⟨by simp,tZ⟩,tZ⟩,⟨by show x+1<=(aT t).length;omega,fun j f=> ?_⟩,by show(aT t).length-(x+1)<(aT t).length-x;omega⟩⟩;have c:(!kj (nth (aT t) x) 0 100)=true:=c;rw[((HT t).1 i).2.1 x (by omega)] at c;cases c;have c:kj (nth (aT t) x) 0 100=true:=(by simpa using(show(!kj (nth (aT t) x) 0 100)=false from c));by_cases e:j=x;subst e;exact c;exact d.2 j (by omega);have h:¬(x:Int)<(aT t).length:=jd h;have o:∀j,j<(aT t).length->kj (nth (aT t) j) 0 100=true:=fun j f=>d.2 j (by omega)
 clear d h;refine⟨⟨0,⟨⟨rfl,tZ⟩,tZ⟩,jv _,fun j f=>by omega⟩,fun x d g=>⟨fun h=> ?_,fun h=> ?_⟩⟩;have g:(d9 t).length<4611686018427387904:=g;have h:(x:Int)<(d9 t).length:=ja h;have l:(!kj (V6 (nth (d9 t) x)) 0 100000|| !kj (Y0 (nth (d9 t) x)) 0 100||decide (0<(x:Int))&&decide (V6 (nth (d9 t) ((x:Int)-1).toNat)<=V6 (nth (d9 t) x)))= !R4 (d9 t) x:=by
  have e2:((x:Int)-1).toNat=x-1:=(by omega);have m:∀a b:Int,(decide (0<(x:Int))&&decide (a<=b))= !(decide (x=0)||decide (b<a)):=fun a b=>by
   rw[j6];simp only[ji,jr,jN,jP,jD];omega
  unfold R4;rw[e2,m,Bool.not_and,Bool.not_and]
 refine⟨by omega,h,fun _=>iZ6,fun c=> ?_,fun _=>by show(x:Int)-1<((d9 t).length:Int);omega,fun c=>jaB (t:=t) (fun i=> ?_),fun c=>⟨iZ6,x+1,⟨⟨by simp,tZ⟩,tZ⟩,⟨by show x+1<=(d9 t).length;omega,fun j f=> ?_⟩,by show(d9 t).length-(x+1)<(d9 t).length-x;omega⟩⟩;rw[ji] at c;have c:0<(x:Int):=ja c.2;show 0<=(x:Int)-1;omega;have c:(!R4 (d9 t) x)=true:=l.symm.trans c;rw[((HT t).1 i).2.2 x (by omega)] at c;cases c;have c:(!R4 (d9 t) x)=false:=l.symm.trans c;by_cases e:j=x;subst e;show R4 (d9 t) j=true;simpa using c;exact d.2 j (by omega);have h:¬(x:Int)<(d9 t).length:=jd h;have n:∀j,j<(d9 t).length->R4 (d9 t) j=true:=fun j f=>d.2 j (by omega)
 show(true,())=(vg t,());rw[(HT t).2 ⟨k,o,n⟩]
theorem EB:wo PR 58 Eu:=q7 Ev HU Tryz.func58 (kcC uU kcN) koN
def lgH (l:LgD):Bool:=decide (((vQ l).length:Int)≠(kB (ku l)).length)||decide (((DC l).length:Int)≠(kB (ku l)).length)|| !vg (eJ l)||decide (10<((kP l).length:Int))
theorem Vq (l:LgD):lgH l=false↔((vQ l).length=(kB (ku l)).length/\(DC l).length=(kB (ku l)).length/\vg (eJ l)=true/\(kP l).length<=10):=by
 unfold lgH;simp only[jP,jD,zc];constructor;rintro⟨⟨⟨b,c⟩,a⟩,d⟩;exact⟨by omega,by omega,a,by omega⟩;rintro⟨b,c,a,d⟩;exact⟨⟨⟨by omega,by omega⟩,a⟩,by omega⟩
theorem HV:EA:=by
 unfold EA jhM jgn jg2 jhL jgm jhK jea Prod.q4;rintro⟨l,⟨⟩⟩ i _ _ _;have i:(kB (ku l)).length<4611686018427387904:=i;refine⟨fun h=>jaC (l:=l) (fun a=> ?_),fun f=> ?_⟩;have h:lgH l=true:=h;rw[(Vq l).2 ((Do l).1 a).1] at h;cases h;have f:=(Vq l).1 (show lgH l=false from f);obtain⟨r,s,p,o⟩:=id f;refine⟨⟨0,⟨⟨rfl,tZ⟩,tZ⟩,jv _,fun j d=>by omega⟩,fun x b=>⟨fun h=> ?_,fun h=> ?_⟩⟩;have h:(x:Int)<(kB (ku l)).length:=ja h;have b:x<=(((kB (ku l)).length:Int)).toNat/\∀j:Nat,j<x->Se l j=true:=b;have c:(!kj (nth (vQ l) x) 0 20|| !kj (nth (DC l) x) 0 300)= !Se l x:=by
  unfold Se Lf uZ;rw[Bool.not_and]
 refine⟨by omega,by show(x:Int)<(vQ l).length;omega,fun _=>by omega,fun _=>by show(x:Int)<(DC l).length;omega,fun a=>jaC (l:=l) (fun g=> ?_),fun a=>⟨iZ6,x+1,⟨⟨by simp,tZ⟩,tZ⟩,⟨by show x+1<=(((kB (ku l)).length:Int)).toNat;omega,fun j d=> ?_⟩,by show(((kB (ku l)).length:Int)).toNat-(x+1)<(((kB (ku l)).length:Int)).toNat-x;omega⟩⟩;have a:(!Se l x)=true:=c.symm.trans a;rw[((Do l).1 g).2.1 x (by omega)] at a;cases a;have a:(!Se l x)=false:=c.symm.trans a;by_cases e:j=x;subst e;show Se l j=true;simpa using a;exact b.2 j (by omega);have h:¬(x:Int)<(kB (ku l)).length:=jd h;have n:∀j,j<(kB (ku l)).length->Se l j=true:=fun j d=>b.2 j (by omega)
 clear b h;refine⟨⟨0,⟨⟨rfl,tZ⟩,tZ⟩,jv _,fun j d=>by omega⟩,fun x b k=>⟨fun h=> ?_,fun h=> ?_⟩⟩;have k:(kP l).length<4611686018427387904:=k;have h:(x:Int)<(kP l).length:=ja h;have q:(((kB (ku l)).length:Int)).toNat=(kB (ku l)).length:=(by omega);have c:(!kj (Lw (nth (kP l) x)) 0 99|| !kj (ja8 (nth (kP l) x)) 0 (((kB (ku l)).length:Int)-1)|| !kj (F6 (nth (kP l) x)) (-100000) 1440)= !iS (kB (ku l)).length (nth (kP l) x):=by
  unfold iS;rw[Bool.not_and,Bool.not_and]
 refine⟨by omega,h,fun _=> ?_,fun a=>jaC (l:=l) (fun g=> ?_),fun a=>⟨iZ6,x+1,⟨⟨by simp,tZ⟩,tZ⟩,⟨by show x+1<=(kP l).length;omega,fun j d=> ?_⟩,by show(kP l).length-(x+1)<(kP l).length-x;omega⟩⟩;show kM (((kB (ku l)).length:Int)-1);exact iZ6;have a:(!iS (kB (ku l)).length (nth (kP l) x))=true:=c.symm.trans a;rw[((Do l).1 g).2.2 x (by omega)] at a;cases a;have a:(!iS (kB (ku l)).length (nth (kP l) x))=false:=c.symm.trans a;by_cases e:j=x;subst e;show iS (kB (ku l)).length (nth (kP l) j)=true;simpa using a;exact b.2 j (by omega);have h:¬(x:Int)<(kP l).length:=jd h;have m:∀j,j<(kP l).length->iS (kB (ku l)).length (nth (kP l) j)=true:=fun j d=>b.2 j (by omega)
 show(true,())=(ay l,());rw[(Do l).2 ⟨f,n,m⟩]
theorem EC:wo PR 32 Ey:=q7 Ez HV Tryz.func32 (kcC uU (kcC EB kcN)) koN
theorem RF:NP:=by
 unfold NP jhN jfs jfZ Prod.q4;rintro⟨l,⟨⟩⟩ r;have f:wm (ku l)=gL (ku l):=gx _;refine⟨r,fun h=> ?_,fun h=> ?_⟩;have h:gL (ku l)≠0:=ja h;show(gL (ku l),())=(wa l,());unfold wa;rw[f,je h];have h:¬gL (ku l)≠0:=jd h;refine⟨fun c=> ?_,fun c=> ?_⟩;have c:ay l=false:=(by simpa using(show(!ay l)=true from c));show((70:Int),())=(wa l,());unfold wa;rw[f,jc h,je c];have c:ay l=true:=(by simpa using(show(!ay l)=false from c));have q:=((Do l).1 c).1.2.2.2;have n:∀v,(if vR (kP l)=true then(71:Int) else 0)=v->(v,())=(wa l,()):=fun v s=>by
  unfold wa;rw[f,jc h,jc (by rw[c];decide),s]
 refine⟨⟨0,⟨⟨rfl,tZ⟩,tZ⟩,jv _,fun j g=>by omega⟩,fun x p o=>⟨fun d=> ?_,fun d=> ?_⟩⟩;have o:(kP l).length<4611686018427387904:=o;have d:(x:Int)<(kP l).length:=ja d;refine⟨⟨0,⟨⟨rfl,tZ⟩,tZ⟩,jv _,fun j g=>by omega⟩,fun y i=>⟨fun b=> ?_,fun b=> ?_⟩⟩;have b:(y:Int)<(x:Int):=ja b;have i:y<=x/\∀j:Nat,j<y->VZ (nth (kP l) x) (nth (kP l) j)=false:=i;have k:(y:Int)<(kP l).length:=(by omega);refine⟨by omega,d,by omega,k,fun _=>by omega,fun _=>d,fun _=>by omega,fun _=>k,fun a=> ?_,fun a=>⟨iZ6,y+1,⟨⟨by simp,tZ⟩,tZ⟩,⟨by show y+1<=x;omega,fun j g=> ?_⟩,by show x-(y+1)<x-y;omega⟩⟩;have a:VZ (nth (kP l) x) (nth (kP l) y)=true:=a;exact n 71 (je (jaD (by omega) (by omega) a));have a:VZ (nth (kP l) x) (nth (kP l) y)=false:=a;by_cases e:j=y;subst e;exact a;exact i.2 j (by omega);have b:¬(y:Int)<(x:Int):=jd b;have i:y<=x/\∀j:Nat,j<y->VZ (nth (kP l) x) (nth (kP l) j)=false:=i;have m:y=x:=(by omega);subst m;refine⟨iZ6,y+1,⟨⟨by simp,tZ⟩,tZ⟩,⟨by show y+1<=(kP l).length;omega,fun j g=> ?_⟩,by show(kP l).length-(y+1)<(kP l).length-y;omega⟩;by_cases e:j=y;subst e;exact jb2 i.2 (by omega);exact p.2 j (by omega);have d:¬(x:Int)<(kP l).length:=jd d;refine n 0 (jc fun b=> ?_);unfold vR l9 at b;rw[j8] at b;obtain⟨j,g,a⟩:=b;have g:=jC.1 g;have:=p.2 j (by omega);rw[this] at a;cases a
theorem NR:wo PR 10 NN:=q7 NO RF Tryz.func10 (kcC CV (kcC EC kcN)) koN
end Go.X


namespace Go.X
open U
open Go.Proofs
namespace U
def jco (l:LgD):List LnD:=if wa l=0 then ur l else[]
def Il (l:LgD):Prop:=DB (ku l)/\(vQ l).length<=20/\(DC l).length<=20/\(aT (eJ l)).length<=20/\(d9 (eJ l)).length<=20/\(kP l).length<=30
end U
def RG:we:=⟨[.val tLg],[tLg],false,fun d=>[Il d.1],fun d=>(d.1,())⟩
def RH:Prop:=∀(d:LgD×Unit),Il d.1->DB d.1.1/\(0+d.1.2.1.length)*8<=140737488355328/\(0+d.1.2.2.1.length)*8<=140737488355328/\(0+d.1.2.2.2.1.q4.q4.1.length)*8<=140737488355328/\(0+d.1.2.2.2.1.q4.q4.2.1.length)*16<=140737488355328/\(0+d.1.q4.1.length)*24<=140737488355328/\((d.1.1,[]++d.1.2.1,[]++d.1.2.2.1,(d.1.2.2.2.1.1,d.1.2.2.2.1.2.1,d.1.2.2.2.1.2.2.1,d.1.2.2.2.1.2.2.2.1,d.1.2.2.2.1.q4.1,d.1.2.2.2.1.q4.2.1,d.1.2.2.2.1.q4.2.2.1,d.1.2.2.2.1.q4.2.2.2.1,[]++d.1.2.2.2.1.q4.q4.1,[]++d.1.2.2.2.1.q4.q4.2.1,()),[]++d.1.q4.1,()),())=d
end Go.X
namespace Go.X
open U
theorem jaE {l:LgD} (h:wa l=0):∀c∈kP l,iS (kB (ku l)).length c=true:=by
 have a:=(mL h).2.1;unfold ay at a;simp only[ji,jr,jV] at a;exact a.2.2.2
theorem jb3 {l:LgD} {ss:List ShD} {cs:List CaD} (h:wa l=0) (q:∀s,s∈ss↔s∈kX (ku l)) (g:ss.length<=30) (d:∀c,c∈cs↔c∈kP l) (o:cs.length<=10):
 wa (wn l ss cs)=0/\ur (wn l ss cs)=ur l/\eD (wn l ss cs)=eD l/\eE (wn l ss cs)=eE l/\eG (wn l ss cs)=eG l:=by
 have n:=FZ.1 (mL h).2.2;have e:=jbY h q g (fun c e=>jaE h c ((d c).1 e)) o (FZ.2 fun a w b r=>n a ((d a).1 w) b ((d b).1 r));have p:=fR h;have f:=fR e;have i:=jbZ h q g d;have t:eD l=wK (az l) (yx l) (kB (ku l)).length:=je h;have j:eD (wn l ss cs)=wK (az (wn l ss cs)) (yx l) (kB (ku l)).length:=je e;have u:eE l=sP (qQ (U.bo l)):=je h;have k:eE (wn l ss cs)=sP (qQ (U.bo (wn l ss cs))):=je e;have v:eG l=cy (ky (U.bo l)) (ky (U.bo l)).length:=je h;have m:eG (wn l ss cs)=cy (ky (U.bo (wn l ss cs))) (ky (U.bo (wn l ss cs))).length:=je e;refine⟨e,i,?_,?_,?_⟩;rw[t,j];refine KS _ fun b r=> ?_
 have x:az (wn l ss cs) b=R3 (wn l ss cs) (b:Int):=YT f ⟨by omega,by show(b:Int)<(kB (ku l)).length;omega⟩;have y:az l b=R3 l (b:Int):=YT p (by omega);rw[x,y,jb0 h q g d];rw[u,k,Vn p,Vn f];unfold jcn;rw[i];rfl;rw[v,m,dX p,dX f,i]
namespace U
def kI {α:Type} [Inhabited α] (l:List α) (t:Int) (i:Nat):List α:=(List.range i).map (fun(k:Nat)=>nth l (((k:Int)+t).tmod (l.length:Int)).toNat)
end U
theorem F0 {α:Type} [Inhabited α] (l:List α) (t:Int) (i:Nat):kI l t (i+1)=kI l t i++[nth l (((i:Int)+t).tmod (l.length:Int)).toNat]:=by
 unfold kI;rw[ze,zv];rfl
theorem sF {α:Type} [Inhabited α] (l:List α) (t:Int) (i:Nat):(kI l t i).length=i:=by unfold kI;simp
theorem Vr {α:Type} [Inhabited α] {l:List α} {t:Int} (f:0<=t) (s:α):s∈kI l t l.length↔s∈l:=by
 unfold kI;rw[jS];constructor;rintro⟨k,hk,rfl⟩;have hk:=jC.1 hk;have b:=Int.tmod_lt_of_pos ((k:Int)+t) (show(0:Int)<l.length by omega);have d:=Int.tmod_nonneg (l.length:Int) (show(0:Int)<=(k:Int)+t by omega);exact L.kw (by omega);intro h;obtain⟨i,hi,rfl⟩:=L.mem_iff.1 h;have c:(0:Int)<l.length:=(by omega);have b:=Int.emod_lt_of_pos ((i:Int)-t) c;have a:=Int.emod_nonneg ((i:Int)-t) (show(l.length:Int)≠0 by omega);refine⟨(((i:Int)-t)%(l.length:Int)).toNat,jC.2 (by omega),?_⟩;have e:((((((i:Int)-t)%(l.length:Int)).toNat:Nat):Int)+t).tmod (l.length:Int)=(i:Int):=by
  rw[Int.toNat_of_nonneg a,Int.tmod_eq_emod_of_nonneg (by omega),Int.emod_add_emod,Int.sub_add_cancel];exact Int.emod_eq_of_lt (by omega) (by omega)
 rw[e,ju]
open Go.Proofs
theorem Vs:RH:=by
 unfold RH Prod.q4;rintro⟨l,⟨⟩⟩ h;obtain⟨a,b,c,d,e,f⟩:Il l:=h;refine⟨a,?_,?_,?_,?_,?_,rfl⟩;show(0+(vQ l).length)*8<=_;omega;show(0+(DC l).length)*8<=_;omega;show(0+(aT (eJ l)).length)*8<=_;omega;show(0+(d9 (eJ l)).length)*16<=_;omega;show(0+(kP l).length)*24<=_;omega
theorem RI:wo PR 9 RG:=wb Vs Tryz.func9 (kcC Rh kcN) koN
theorem Vt {l:List Int} {k:Nat} (h:k<l.length):sP (l.take (k+1))=sP (l.take k)++[-nth l k]:=by
 unfold sP;rw[L.k8 h,zv];rfl
theorem XR (l:List Int) (k:Nat):(sP (l.take k)).length<=k:=by
 unfold sP;rw[zr,jX];omega
theorem jaF {f:Nat->List Int} {n k:Nat} (hk:k<4) (a:∀b,b<=k->∀j,j<n->-1000000000000000000<=nth (f b) j/\nth (f b) j<=1700000000000000000) {j:Nat} (c:j<n):
 kM (nth (vE (wK f n k) (f k) j) j+nth (f k) j):=by
 have d:=YU (A:= -1000000000000000000) (B:=1700000000000000000) k (fun b h=>a b (by omega)) j c;have g:=a k (jj _) j c;have e:nth (vE (wK f n k) (f k) j) j=nth (wK f n k) j:=by
  rw[uk j (by rw[mK];omega),jc (by omega)]
 rw[e];exact iZ6
theorem Vu {l:LgD} (h:xP l):∀x∈ur l,0<=VR x/\VR x<=1000000:=fun x a=>by
 have:=(jdG h a).sb
 have:=h.ta.cp
 omega
def Vv:we:=⟨[.val tLg,.fn [tBo] [.bool]],[tBo,.int],false,fun d=>[(kX (ku d.1)).length<=100000,wa d.1=0->kG (d.2.1.pre ((d.1,[],()),()))],fun d=>(kA d.1 (kH d.1 d.2.1.F),wC d.1 (kH d.1 d.2.1.F),())⟩
def Vw:Ann:=fun r=>match r with
 |10=>some fun σ=>{X:=Nat,sl:=fun i=>[(46,.dat .int (i:Int))],ob:=fun i=>[(25,some (.map false .int (.ptr tBl) (Aq (gb tLg σ 2) i)))],inv:=fun i=>i<=(gd (.slice .int) σ 44).length,mu:=fun i=>(gd (.slice .int) σ 44).length-i}
 |14=>some fun σ=>{X:=Nat,sl:=fun p=>[(71,.dat .int (p:Int))],ob:=fun p=>[(65,some (.box 98 false ((bx σ 65).set 21 (.own (aB 65 21) .int)))),(aB 65 21,some (.row 3 .int false .yes (wM (gb tLg σ 2) (gd .int σ 13) p)))],inv:=fun p=>p<=(kC (kE (ku (gb tLg σ 2)))).length,mu:=fun p=>(kC (kE (ku (gb tLg σ 2)))).length-p}
 |21=>some fun σ=>{X:=Nat,sl:=fun i=>[(103,.dat .int (i:Int))],ob:=fun i=>[(65,some (.box 98 false (((bx σ 65).set 24 (.dat .bool (sU (kD (gb tLg σ 2) (gd .int σ 13) i)))).set 25 (.dat .int (pE (kD (gb tLg σ 2) (gd .int σ 13) i))))))],inv:=fun i=>i<=(kP (gb tLg σ 2)).length,mu:=fun i=>(kP (gb tLg σ 2)).length-i}
 |_=>none
abbrev jex (d:LgD×FnD [tBo] [Ty.bool]×Unit):=d.1.2.2.2.1.q4.q4.2.1
abbrev jey (d:LgD×FnD [tBo] [Ty.bool]×Unit):=d.1.2.2.2.1.q4.q4.1
abbrev jez (d:LgD×FnD [tBo] [Ty.bool]×Unit):=d.1.2.2.2.1.q4.2.2.2.1
abbrev jeA (d:LgD×FnD [tBo] [Ty.bool]×Unit):=d.1.2.2.2.1.q4.2.2.1
abbrev jeV (d:LgD×FnD [tBo] [Ty.bool]×Unit):=(kC (kE (ku d.1)))
abbrev jg3 (d:LgD×FnD [tBo] [Ty.bool]×Unit):=(kA d.1 (kH d.1 d.2.1.2),wC d.1 (kH d.1 d.2.1.2),())
abbrev jeB (d:LgD×FnD [tBo] [Ty.bool]×Unit):=d.1.2.2.2.1.q4.2.1
abbrev jdS (d:LgD×FnD [tBo] [Ty.bool]×Unit):=(kk d.1.1)
abbrev jdP (d:LgD×FnD [tBo] [Ty.bool]×Unit)(x:Nat):=(nth (jdS d) x)
abbrev jdN (d:LgD×FnD [tBo] [Ty.bool]×Unit)(x:Nat):=(nth d.1.1.2.2.1 (jdP d x).toNat)
abbrev jfa (d:LgD×FnD [tBo] [Ty.bool]×Unit)(x:Nat):=(nth d.1.2.2.1 (jdP d x).toNat)
abbrev jeC (d:LgD×FnD [tBo] [Ty.bool]×Unit):=d.1.2.2.2.1.q4.1
abbrev jd3 (d:LgD×FnD [tBo] [Ty.bool]×Unit)(x:Nat)(a:Nat):=(qo ((jdN d x).1.1,(jdN d x).1.2.1,(jdN d x).1.2.2.1,(jdN d x).1.2.2.2.1,(jdN d x).1.q4.1,(jdN d x).1.q4.2.1,(jdN d x).2.1,(jdN d x).2.2.1,(jdN d x).2.2.2.1,d.1.2.2.2.1.1,d.1.2.2.2.1.2.1,d.1.2.2.2.1.2.2.1,d.1.2.2.2.1.2.2.2.1,(jeC d),(jeB d),(jeA d),(jez d),(jey d),(jex d),nth (jdS d) x,nth d.1.2.1 (jdP d x).toNat,wM d.1 (jdP d x) a,(0:Int),(0:Int),false,(0:Int),()))
abbrev jg4 (d:LgD×FnD [tBo] [Ty.bool]×Unit)(x:Nat):=((jdN d x).1.1=(jdN d x).1.1/\(jdN d x).1.2.1=(jdN d x).1.2.1/\(jdN d x).1.2.2.1=(jdN d x).1.2.2.1/\(jdN d x).1.2.2.2.1=(jdN d x).1.2.2.2.1/\(jdN d x).1.q4.1=(jdN d x).1.q4.1/\(jdN d x).1.q4.2.1=(jdN d x).1.q4.2.1/\(jdN d x).2.1=(jdN d x).2.1/\(jdN d x).2.2.1=(jdN d x).2.2.1/\(jdN d x).2.2.2.1=(jdN d x).2.2.2.1/\d.1.2.2.2.1.1=d.1.2.2.2.1.1/\d.1.2.2.2.1.2.1=d.1.2.2.2.1.2.1/\d.1.2.2.2.1.2.2.1=d.1.2.2.2.1.2.2.1/\d.1.2.2.2.1.2.2.2.1=d.1.2.2.2.1.2.2.2.1/\(jeC d)=(jeC d)/\(jeB d)=(jeB d)/\(jeA d)=(jeA d)/\(jez d)=(jez d)/\(jey d)=(jey d)/\(jex d)=(jex d)/\nth (jdS d) x=nth (jdS d) x/\nth d.1.2.1 (jdP d x).toNat=nth d.1.2.1 (jdP d x).toNat/\True/\(0:Int)=0/\(0:Int)=0/\qF/\(0:Int)=0/\True)
abbrev jeW (d:LgD×FnD [tBo] [Ty.bool]×Unit)(x:Nat)(a:Nat):=(kD d.1 (jdP d x) a)
abbrev jgo (d:LgD×FnD [tBo] [Ty.bool]×Unit)(x:Nat)(a:Nat)(b:Nat):=(qo ((jdN d x).1.1,(jdN d x).1.2.1,(jdN d x).1.2.2.1,(jdN d x).1.2.2.2.1,(jdN d x).1.q4.1,(jdN d x).1.q4.2.1,(jdN d x).2.1,(jdN d x).2.2.1,(jdN d x).2.2.2.1,d.1.2.2.2.1.1,d.1.2.2.2.1.2.1,d.1.2.2.2.1.2.2.1,d.1.2.2.2.1.2.2.2.1,(jeC d),(jeB d),(jeA d),(jez d),(jey d),(jex d),nth (jdS d) x,nth d.1.2.1 (jdP d x).toNat,wM d.1 (jdP d x) a,aO (jd3 d x a),bP (jfa d x) (jd3 d x a),sU (jeW d x b),pE (jeW d x b),()))
def Vx:Prop:=∀(d:LgD×FnD [tBo] [Ty.bool]×Unit),(kX (ku d.1)).length<=100000->(wa d.1=0->kG (d.2.1.1 ((d.1,[],()),())))->(kX (ku d.1)).length<=100000/\(decide (wa d.1≠0)=true->((((((0:Int),[],[],()),[],[],(0:Int),(0:Int),[],()),[],[],((0:Int),(0:Int),(0:Int),(0:Int),(0:Int),(0:Int),(0:Int),(0:Int),[],[],()),[],()),[],()),wa d.1,())=(jg3 d))/\(decide (wa d.1≠0)=false->asks (d.2.1.1 ((d.1,[],()),())) (((!(d.2.1.2 ((d.1,[],()),())).1)=true->((((((0:Int),[],[],()),[],[],(0:Int),(0:Int),[],()),[],[],((0:Int),(0:Int),(0:Int),(0:Int),(0:Int),(0:Int),(0:Int),(0:Int),[],[],()),[],()),[],()),(1:Int),())=(jg3 d))/\((!(d.2.1.2 ((d.1,[],()),())).1)=false->(kX d.1.1).length<=100000/\(kX d.1.1).length<=100000/\((jdS d).length<4611686018427387904->(∃(x:Nat),((0=(x:Int)/\True)/\[]=Aq d.1 x/\True)/\x<=(jdS d).length)/\∀(x:Nat),x<=(jdS d).length->(decide ((x:Int)<(jdS d).length)=true->0<=(x:Int)/\(x:Int)<(jdS d).length/\0<=nth (jdS d) x/\nth (jdS d) x<(d.1.1.2.2.1.length:Int)/\0<=nth (jdS d) x/\nth (jdS d) x<(d.1.2.1.length:Int)/\(d.1.1.1.2.1.length<4611686018427387904->(∃(a:Nat),((0=(a:Int)/\True)/\(jg4 d x)/\wM d.1 (jdP d x) a=[]/\True)/\a<=(jeV d).length)/\∀(a:Nat),a<=(jeV d).length->(decide ((a:Int)<d.1.1.1.2.1.length)=true->0<=nth (jdS d) x/\nth (jdS d) x<(↑(b7 d.1.1).length:Int)/\0<=(a:Int)/\(a:Int)<=64/\(decide (nY (nth (b7 d.1.1) (jdP d x).toNat/(2:Int)^a) (1:Int)=1)=true->((wM d.1 (jdP d x) a).length+[(a:Int)].length)*8<=140737488355328/\kM ((a:Int)+1)/\∃(c:Nat),(((a:Int)+1=(c:Int)/\True)/\(jg4 d x)/\wM d.1 (jdP d x) a++[(a:Int)]=wM d.1 (jdP d x) c/\True)/\c<=(jeV d).length/\(jeV d).length-c<(jeV d).length-a)/\(decide (nY (nth (b7 d.1.1) (jdP d x).toNat/(2:Int)^a) (1:Int)=1)=false->kM ((a:Int)+1)/\∃(c:Nat),(((a:Int)+1=(c:Int)/\True)/\wM d.1 (jdP d x) a=wM d.1 (jdP d x) c/\(jg4 d x)/\True)/\c<=(jeV d).length/\(jeV d).length-c<(jeV d).length-a))/\(decide ((a:Int)<d.1.1.1.2.1.length)=false->0<=nth (jdS d) x/\nth (jdS d) x<(d.1.2.2.1.length:Int)/\EL (jd3 d x a)/\0<=nth d.1.2.2.1 (jdP d x).toNat/\nth d.1.2.2.1 (jdP d x).toNat<=300/\(d.1.q4.1.length<4611686018427387904->(∃(b:Nat),((0=(b:Int)/\True)/\((jdN d x).1.1=(jdN d x).1.1/\(jdN d x).1.2.1=(jdN d x).1.2.1/\(jdN d x).1.2.2.1=(jdN d x).1.2.2.1/\(jdN d x).1.2.2.2.1=(jdN d x).1.2.2.2.1/\(jdN d x).1.q4.1=(jdN d x).1.q4.1/\(jdN d x).1.q4.2.1=(jdN d x).1.q4.2.1/\(jdN d x).2.1=(jdN d x).2.1/\(jdN d x).2.2.1=(jdN d x).2.2.1/\(jdN d x).2.2.2.1=(jdN d x).2.2.2.1/\d.1.2.2.2.1.1=d.1.2.2.2.1.1/\d.1.2.2.2.1.2.1=d.1.2.2.2.1.2.1/\d.1.2.2.2.1.2.2.1=d.1.2.2.2.1.2.2.1/\d.1.2.2.2.1.2.2.2.1=d.1.2.2.2.1.2.2.2.1/\(jeC d)=(jeC d)/\(jeB d)=(jeB d)/\(jeA d)=(jeA d)/\(jez d)=(jez d)/\(jey d)=(jey d)/\(jex d)=(jex d)/\nth (jdS d) x=nth (jdS d) x/\nth d.1.2.1 (jdP d x).toNat=nth d.1.2.1 (jdP d x).toNat/\wM d.1 (jdP d x) a=wM d.1 (jdP d x) a/\aO (jd3 d x a)=aO (jd3 d x a)/\bP (jfa d x) (jd3 d x a)=bP (jfa d x) (jd3 d x a)/\sU (jd3 d x a)=sU (jeW d x b)/\pE (jd3 d x a)=pE (jeW d x b)/\True)/\True)/\b<=(kP d.1).length)/\∀(b:Nat),b<=(kP d.1).length->(decide ((b:Int)<d.1.q4.1.length)=true->0<=(b:Int)/\(b:Int)<d.1.q4.1.length/\(decide ((nth d.1.q4.1 b).2.1=nth (jdS d) x)=true->kM ((b:Int)+1)/\∃(c:Nat),(((b:Int)+1=(c:Int)/\True)/\((jdN d x).1.1=(jdN d x).1.1/\(jdN d x).1.2.1=(jdN d x).1.2.1/\(jdN d x).1.2.2.1=(jdN d x).1.2.2.1/\(jdN d x).1.2.2.2.1=(jdN d x).1.2.2.2.1/\(jdN d x).1.q4.1=(jdN d x).1.q4.1/\(jdN d x).1.q4.2.1=(jdN d x).1.q4.2.1/\(jdN d x).2.1=(jdN d x).2.1/\(jdN d x).2.2.1=(jdN d x).2.2.1/\(jdN d x).2.2.2.1=(jdN d x).2.2.2.1/\d.1.2.2.2.1.1=d.1.2.2.2.1.1/\d.1.2.2.2.1.2.1=d.1.2.2.2.1.2.1/\d.1.2.2.2.1.2.2.1=d.1.2.2.2.1.2.2.1/\d.1.2.2.2.1.2.2.2.1=d.1.2.2.2.1.2.2.2.1/\(jeC d)=(jeC d)/\(jeB d)=(jeB d)/\(jeA d)=(jeA d)/\(jez d)=(jez d)/\(jey d)=(jey d)/\(jex d)=(jex d)/\nth (jdS d) x=nth (jdS d) x/\nth d.1.2.1 (jdP d x).toNat=nth d.1.2.1 (jdP d x).toNat/\wM d.1 (jdP d x) a=wM d.1 (jdP d x) a/\pD (jgo d x a b)=aO (jd3 d x a)/\EK (jgo d x a b)=bP (jfa d x) (jd3 d x a)/\VS (nth d.1.q4.1 b).2.2.1 (jgo d x a b)=sU (kD d.1 (jdP d x) c)/\VT (nth d.1.q4.1 b).2.2.1 (jgo d x a b)=pE (kD d.1 (jdP d x) c)/\True)/\True)/\c<=(kP d.1).length/\(kP d.1).length-c<(kP d.1).length-b)/\(decide ((nth d.1.q4.1 b).2.1=nth (jdS d) x)=false->kM ((b:Int)+1)/\∃(c:Nat),(((b:Int)+1=(c:Int)/\True)/\((jdN d x).1.1=(jdN d x).1.1/\(jdN d x).1.2.1=(jdN d x).1.2.1/\(jdN d x).1.2.2.1=(jdN d x).1.2.2.1/\(jdN d x).1.2.2.2.1=(jdN d x).1.2.2.2.1/\(jdN d x).1.q4.1=(jdN d x).1.q4.1/\(jdN d x).1.q4.2.1=(jdN d x).1.q4.2.1/\(jdN d x).2.1=(jdN d x).2.1/\(jdN d x).2.2.1=(jdN d x).2.2.1/\(jdN d x).2.2.2.1=(jdN d x).2.2.2.1/\d.1.2.2.2.1.1=d.1.2.2.2.1.1/\d.1.2.2.2.1.2.1=d.1.2.2.2.1.2.1/\d.1.2.2.2.1.2.2.1=d.1.2.2.2.1.2.2.1/\d.1.2.2.2.1.2.2.2.1=d.1.2.2.2.1.2.2.2.1/\(jeC d)=(jeC d)/\(jeB d)=(jeB d)/\(jeA d)=(jeA d)/\(jez d)=(jez d)/\(jey d)=(jey d)/\(jex d)=(jex d)/\nth (jdS d) x=nth (jdS d) x/\nth d.1.2.1 (jdP d x).toNat=nth d.1.2.1 (jdP d x).toNat/\wM d.1 (jdP d x) a=wM d.1 (jdP d x) a/\aO (jd3 d x a)=aO (jd3 d x a)/\bP (jfa d x) (jd3 d x a)=bP (jfa d x) (jd3 d x a)/\sU (jeW d x b)=sU (kD d.1 (jdP d x) c)/\pE (jeW d x b)=pE (kD d.1 (jdP d x) c)/\True)/\True)/\c<=(kP d.1).length/\(kP d.1).length-c<(kP d.1).length-b))/\(decide ((b:Int)<d.1.q4.1.length)=false->kM ((x:Int)+1)/\∃(c:Nat),(((x:Int)+1=(c:Int)/\True)/\eK Ty.int (jdP d x) (some (nth d.1.1.2.2.1 (jdP d x).toNat,d.1.2.2.2.1,nth (jdS d) x,nth d.1.2.1 (jdP d x).toNat,wM d.1 (jdP d x) a,aO (jd3 d x a),bP (jfa d x) (jd3 d x a),sU (jeW d x b),pE (jeW d x b),())) (Aq d.1 x)=Aq d.1 c/\True)/\c<=(jdS d).length/\(jdS d).length-c<(jdS d).length-x)))))/\(decide ((x:Int)<(jdS d).length)=false->((d.1,Aq d.1 x,()),(0:Int),())=(jg3 d))))))
def ja0 (l:LgD) (n:Int) (k:Nat):BlD:=
 (nth (kB (ku l)) n.toNat,eJ l,n,nth (vQ l) n.toNat,wM l n (kC (kE (ku l))).length,
  aO (sN l n (wM l n (kC (kE (ku l))).length)),bP (nth (DC l) n.toNat) (sN l n (wM l n (kC (kE (ku l))).length)),sU (kD l n k),pE (kD l n k),())
theorem NS (l:LgD) (n:Int) {k:Nat} (hk:k<=(kP l).length):ja0 l n k=kD l n k:=by
 obtain⟨c1,c2,a,b,c,d,f⟩:=qv l n k hk;have e:kD l n k=(qi (kD l n k),yE (kD l n k),Od (kD l n k),Lx (kD l n k),wZ (kD l n k),pD (kD l n k),EK (kD l n k),sU (kD l n k),pE (kD l n k),()):=rfl;rw[c1,c2,a,b,c,d,f] at e;exact e.symm
theorem Vy (l:LgD) (n:Int) (k:Nat):wM l n (k+1)=wM l n k++(if vD (nth (b7 (ku l)) n.toNat) (k:Int)=true then[(k:Int)] else[]):=by
 unfold wM wN;rw[ze,List.filter_append,zv];congr 1;by_cases h:vD (nth (b7 (ku l)) n.toNat) (k:Int)=true;rw[je h];simp only[List.filter,h,List.map];rw[jc h];rw[zR] at h;simp only[List.filter,h,List.map]
theorem XS {l:LgD} (h:xP l):(b7 (ku l)).length=(kB (ku l)).length:=by
 unfold b7;rw[je h.cp];unfold gi;rw[zr,zG]
theorem XT:Vx:=by
 unfold Vx jgo jeW jg4 jd3 jeC jfa jdN jdP jdS jeB jg3 jeV jeA jez jey jex Prod.q4;rintro⟨l,told,⟨⟩⟩ w K;have w:(kX (ku l)).length<=100000:=w;refine⟨w,fun h=> ?_,fun h=> ?_⟩;have h:wa l≠0:=ja h;have e:∀t,wC l t=wa l:=fun t=>je h
 have e2:∀t,kA l t=jde:=fun t=>jc (by rw[e];exact h)
 show(jde,wa l,())=(kA l (kH l told.2),wC l (kH l told.2),());rw[e,e2];have h:wa l=0:=jM.1 (jd h);have g:=fR h;refine qJ _ (K h) ⟨fun o=> ?_,fun o=>⟨w,w,fun H=>⟨⟨0,⟨⟨rfl,tZ⟩,rfl,tZ⟩,jv _⟩,fun x I=>⟨fun q=> ?_,fun q=> ?_⟩⟩⟩⟩;have o:kH l told.2=false:=(by simpa using(show(!kH l told.2)=true from o));show(jde,(1:Int),())=(kA l (kH l told.2),wC l (kH l told.2),());have e:wC l (kH l told.2)=1:=by
  unfold wC;rw[jc (fun z=>z h),o];rfl
 have e2:kA l (kH l told.2)=jde:=jc (by rw[e];decide);rw[e,e2];have q:(x:Int)<(kk (ku l)).length:=ja q;have f:x<(kk (ku l)).length:=(by omega);obtain⟨n,en⟩:∃n,n=nth (kk (ku l)) x:=⟨_,rfl⟩;have c:0<=n/\n<((kB (ku l)).length:Int):=(by rw[en];exact HB (L.kw f));have M:(kk (ku l)).length<=4:=Pt g;have C:n<((vQ l).length:Int):=(by rw[g.py.1];exact c.2);have F:n<((DC l).length:Int):=(by rw[g.tr.1];exact c.2);have E:n<((b7 (ku l)).length:Int):=(by rw[XS g];exact c.2);have O:=jcA g;have u:=so (nth (b7 (ku l)) n.toNat);have G:=g.tr.2 _ (L.kw (show n.toNat<(DC l).length by omega));have D:Aq l (x+1)=eK .int n (some (kY l n)) (Aq l x):=(by rw[Kx f,<-en];rfl);have N:=g.cl;have step:∀k,k<(kP l).length->kD l n (k+1)=sO n (ja0 l n k) (nth (kP l) k):=fun k hk=>by rw[ct hk,NS l n (by omega)]
 subst en;refine⟨by omega,q,c.1,c.2,c.1,C,fun P=>⟨⟨0,⟨⟨rfl,tZ⟩,(by repeat' (first|exact trivial|exact rfl|apply And.intro)),rfl,tZ⟩,jv _⟩,fun p v=>⟨fun b=> ?_,fun b=> ?_⟩⟩⟩;have b:(p:Int)<(kC (kE (ku l))).length:=ja b;have d:=Vy l (nth (kk (ku l)) x) p;have s:=(u p).1;have s:(wM l (nth (kk (ku l)) x) p).length<=p:=s;have up:p+1<=(kC (kE (ku l))).length:=(by omega);have r:(kC (kE (ku l))).length-(p+1)<(kC (kE (ku l))).length-p:=(by omega);refine⟨c.1,E,by omega,by omega,fun j=> ?_,fun j=> ?_⟩;have j:vD (nth (b7 (ku l)) (nth (kk (ku l)) x).toNat) (p:Int)=true:=j;rw[je j] at d;exact⟨by show((wM l (nth (kk (ku l)) x) p).length+1)*8<=140737488355328;omega,iZ6,p+1,⟨⟨by simp,tZ⟩,(by repeat' (first|exact trivial|exact rfl|apply And.intro)),d.symm,tZ⟩,up,r⟩;have j:vD (nth (b7 (ku l)) (nth (kk (ku l)) x).toNat) (p:Int)=false:=j;rw[jc (by rw[j];decide),j9] at d;exact⟨iZ6,p+1,⟨⟨by simp,tZ⟩,d.symm,(by repeat' (first|exact trivial|exact rfl|apply And.intro)),tZ⟩,up,r⟩;have b:¬(p:Int)<(kC (kE (ku l))).length:=jd b;have v:p<=(kC (kE (ku l))).length:=v;have B:p=(kC (kE (ku l))).length:=(by omega);subst B;have J:C7 (sN l (nth (kk (ku l)) x) (wM l (nth (kk (ku l)) x) (kC (kE (ku l))).length)):=Pr g c (by have:=(u (kC (kE (ku l))).length).1;unfold wM;omega);refine⟨c.1,F,sn.2 J,G.1,G.2,fun Q=>⟨⟨0,⟨⟨rfl,tZ⟩,(by repeat' (first|exact trivial|exact rfl|apply And.intro)),tZ⟩,jv _⟩,fun k hk=>⟨fun a=> ?_,fun a=> ?_⟩⟩⟩;have a:(k:Int)<(kP l).length:=ja a;have i:=step k (by omega);have up:k+1<=(kP l).length:=(by omega);have r:(kP l).length-(k+1)<(kP l).length-k:=(by omega);refine⟨by omega,a,fun m=> ?_,fun m=> ?_⟩;have m:ja8 (nth (kP l) k)=(nth (kk (ku l)) x):=ja m;have e:kD l (nth (kk (ku l)) x) (k+1)=yt (F6 (nth (kP l) k)) (ja0 l (nth (kk (ku l)) x) k):=(by rw[i];exact je m);have y:sU (yt (F6 (nth (kP l) k)) (ja0 l (nth (kk (ku l)) x) k))=sU (kD l (nth (kk (ku l)) x) (k+1)):=(by rw[e]);have e2:pE (yt (F6 (nth (kP l) k)) (ja0 l (nth (kk (ku l)) x) k))=pE (kD l (nth (kk (ku l)) x) (k+1)):=(by rw[e]);exact⟨iZ6,k+1,⟨⟨by simp,tZ⟩,(by repeat' (first|exact trivial|exact y|exact e2|exact rfl|apply And.intro)),tZ⟩,up,r⟩;have m:¬ja8 (nth (kP l) k)=(nth (kk (ku l)) x):=jd m;have e:kD l (nth (kk (ku l)) x) (k+1)=kD l (nth (kk (ku l)) x) k:=(by rw[i,NS l (nth (kk (ku l)) x) (by omega)];exact jc m);have y:sU (kD l (nth (kk (ku l)) x) k)=sU (kD l (nth (kk (ku l)) x) (k+1)):=(by rw[e]);have e2:pE (kD l (nth (kk (ku l)) x) k)=pE (kD l (nth (kk (ku l)) x) (k+1)):=(by rw[e]);exact⟨iZ6,k+1,⟨⟨by simp,tZ⟩,(by repeat' (first|exact trivial|exact y|exact e2|exact rfl|apply And.intro)),tZ⟩,up,r⟩;have a:¬(k:Int)<(kP l).length:=jd a;have hk:k<=(kP l).length:=hk;have A:k=(kP l).length:=(by omega);subst A;have e:eK .int (nth (kk (ku l)) x) (some (ja0 l (nth (kk (ku l)) x) (kP l).length)) (Aq l x)=Aq l (x+1):=by
  rw[D,NS l (nth (kk (ku l)) x) (jj _)];rfl
 exact⟨iZ6,x+1,⟨⟨by simp,tZ⟩,e,tZ⟩,by show x+1<=(kk (ku l)).length;omega,by show(kk (ku l)).length-(x+1)<(kk (ku l)).length-x;omega⟩;have q:¬(x:Int)<(kk (ku l)).length:=jd q;have I:x<=(kk (ku l)).length:=I;have f:x=(kk (ku l)).length:=(by omega);subst f;have o:kH l told.2=true:=(by simpa using(show(!kH l told.2)=false from o));show((l,Lg l,()),(0:Int),())=(kA l (kH l told.2),wC l (kH l told.2),());have e:wC l (kH l told.2)=0:=by
  unfold wC;rw[jc (fun z=>z h),je o]
 have e2:kA l (kH l told.2)=(l,Lg l,()):=je e;rw[e,e2]
theorem dY:wo PR 33 Vv:=q7 Vw XT Tryz.func33 (kcC Rw (kcC QT (kcC M9 kcN))) (koC x7 (koC nQ koN))
def RJ:we:=⟨[.val tLg],[.slice tLn,.int],false,fun d=>[(kX (ku d.1)).length<=100000],fun d=>(eg d.1,wa d.1,())⟩
abbrev jf0 (d:LgD×Unit):=(kH d.1 fun(a:BoD×Unit)=>(true,()))
def RK:Prop:=∀(d:LgD×Unit),(kX (ku d.1)).length<=100000->(kX (ku d.1)).length<=100000/\(wa d.1=0->kG [])/\(decide (wC d.1 (jf0 d)≠0)=true->([],wC d.1 (jf0 d),())=(eg d.1,wa d.1,()))/\(decide (wC d.1 (jf0 d)≠0)=false->EM (kA d.1 (jf0 d))/\(ky (kA d.1 (jf0 d)),(0:Int),())=(eg d.1,wa d.1,()))
def NU:we:=⟨[.val tLg],[.slice .int,.int],false,fun d=>[(kX (ku d.1)).length<=100000],fun d=>(Lj d.1,wa d.1,())⟩
abbrev jf1 (d:LgD×Unit):=(kH d.1 fun(a:BoD×Unit)=>(true,()))
def NV:Prop:=∀(d:LgD×Unit),(kX (ku d.1)).length<=100000->(kX (ku d.1)).length<=100000/\(wa d.1=0->kG [])/\(decide (wC d.1 (jf1 d)≠0)=true->([],wC d.1 (jf1 d),())=(Lj d.1,wa d.1,()))/\(decide (wC d.1 (jf1 d)≠0)=false->Lh (kA d.1 (jf1 d))/\(qQ (kA d.1 (jf1 d)),(0:Int),())=(Lj d.1,wa d.1,()))
def RL:we:=⟨[.val tBo,.ref .int],[.bool],false,fun d=>[(kB (ku (gO d.1))).length<=100],fun d=>(wW d.1 d.2.1,())⟩
def RM:Prop:=∀(d:BoD×Int×Unit),(kB (ku (gO d.1))).length<=100->(kB (ku (gO d.1))).length<=100/\(wW d.1 d.2.1,())=(wW d.1 d.2.1,())
def XU:we:=⟨[.val tLg,.val .int],[.slice .int,.int],false,fun d=>[(kX (ku d.1)).length<=100000],fun d=>(Lk d.1 d.2.1,wC d.1 (vS d.1 d.2.1),())⟩
abbrev jf2 (d:LgD×Int×Unit):=(kH d.1 fun(a:BoD×Unit)=>(wW a.1 d.2.1,()))
def XV:Prop:=∀(d:LgD×Int×Unit),(kX (ku d.1)).length<=100000->(kX (ku d.1)).length<=100000/\(wa d.1=0->kG [(kB (ku (gO (d.1,[],())))).length<=100])/\(decide (wC d.1 (jf2 d)≠0)=true->([],wC d.1 (jf2 d),())=(Lk d.1 d.2.1,wC d.1 (vS d.1 d.2.1),()))/\(decide (wC d.1 (jf2 d)≠0)=false->Li (kA d.1 (jf2 d))/\(vi (kA d.1 (jf2 d)) d.2.1,(0:Int),())=(Lk d.1 d.2.1,wC d.1 (vS d.1 d.2.1),()))
def KV:we:=⟨[.val tBo,.ref .int,.ref .int],[.bool],false,fun d=>[(kB (ku (gO d.1))).length<=100],fun d=>(wW d.1 d.2.1&&v6 d.2.2.1,())⟩
def KW:Prop:=∀(d:BoD×Int×Int×Unit),(kB (ku (gO d.1))).length<=100->(kB (ku (gO d.1))).length<=100/\(wW d.1 d.2.1&&kj d.2.2.1 (-100000:Int) (1440:Int),())=(wW d.1 d.2.1&&v6 d.2.2.1,())
def HW:we:=⟨[.val tBo,.ref .int,.ref .int],[.bool],false,fun d=>[(kB (ku (gO d.1))).length<=100],fun d=>(wW d.1 d.2.1&&yf d.2.2.1,())⟩
def HX:Prop:=∀(d:BoD×Int×Int×Unit),(kB (ku (gO d.1))).length<=100->(kB (ku (gO d.1))).length<=100/\(wW d.1 d.2.1&&kj d.2.2.1 (0:Int) (1000000000:Int),())=(wW d.1 d.2.1&&yf d.2.2.1,())
def RN:we:=⟨[.val tLg,.val .int,.val .int],[.int,.int],false,fun d=>[(kX (ku d.1)).length<=100000],fun d=>(EO d.1 d.2.1 d.2.2.1,wC d.1 (vS d.1 d.2.1&&v6 d.2.2.1),())⟩
abbrev jgp (d:LgD×Int×Int×Unit):=(kH d.1 fun(a:BoD×Unit)=>(wW a.1 d.2.1&&v6 d.2.2.1,()))
abbrev jf3 (d:LgD×Int×Int×Unit):=(kW none (kL Ty.int d.2.1 (kA d.1 (jgp d)).2.1))
abbrev jft (d:LgD×Int×Int×Unit):=(kT ((((0:Int),(0:Int),(0:Int),(0:Int),(0:Int),(0:Int),()),(0:Int),(0:Int),(0:Int),()),((0:Int),(0:Int),(0:Int),(0:Int),(0:Int),(0:Int),(0:Int),(0:Int),[],[],()),(0:Int),(0:Int),[],(0:Int),(0:Int),false,(0:Int),()) (jf3 d))
abbrev jg5 (d:LgD×Int×Int×Unit):=(EO d.1 d.2.1 d.2.2.1,wC d.1 (vS d.1 d.2.1&&v6 d.2.2.1),())
def RO:Prop:=∀(d:LgD×Int×Int×Unit),(kX (ku d.1)).length<=100000->(kX (ku d.1)).length<=100000/\(wa d.1=0->kG [(kB (ku (gO (d.1,[],())))).length<=100])/\(decide (wC d.1 (jgp d)≠0)=true->((0:Int),wC d.1 (jgp d),())=(jg5 d))/\(decide (wC d.1 (jgp d)≠0)=false->((jf3 d).isNone=true->((0:Int),(0:Int),())=(jg5 d))/\((jf3 d).isNone=false->(jf3 d).isSome=true/\pz (jft d)/\(jf3 d).isSome=true/\pz (jft d)/\(-100000:Int)<=d.2.2.1/\d.2.2.1<=1440/\kM ((qc (jft d)).q4.2.1-yF d.2.2.1 (jft d))/\((qc (jft d)).q4.2.1-yF d.2.2.1 (jft d),(0:Int),())=(jg5 d)))
theorem Vz:RM:=fun _ h=>⟨h,rfl⟩
theorem RP:wo PR 50 RL:=wb Vz Tryz.func50 (kcC y6 kcN) koN
theorem NW:KW:=fun _ h=>⟨h,rfl⟩
theorem KX:wo PR 36 KV:=wb NW Tryz.func36 (kcC y6 (kcC vC kcN)) koN
theorem KY:HX:=fun _ h=>⟨h,rfl⟩
theorem HY:wo PR 42 HW:=wb KY Tryz.func42 (kcC y6 (kcC vC kcN)) koN
theorem jc6 {l:LgD} (h:xP l):(kB (ku l)).length<=4:=by
 have a:=h.dy;unfold wE at a;rw[ji] at a;exact(ja a.1).1
theorem mM (l:LgD):wC l true=wa l:=by
 unfold wC;by_cases h:wa l=0;rw[jc (fun a=>a h),je rfl,h];rw[je h]
theorem um {l:LgD} {t:Bool} (h:wC l t=0):kA l t=U.bo l/\xP l/\t=true:=by
 have e:kA l t=U.bo l:=(by unfold kA;rw[je h];rfl);unfold wC at h
 split at h
 rename_i a;exact absurd h a;rename_i a
 split at h
 rename_i b;exact⟨e,fR (jM.1 a),b⟩;cases h
theorem VA:RK:=by
 unfold RK jf0;rintro⟨l,⟨⟩⟩ c;refine⟨c,fun _=>tZ,fun h=> ?_,fun h=> ?_⟩;have h:wC l true≠0:=ja h;show(([]:List LnD),wC l true,())=(eg l,wa l,());rw[mM] at h⊢;unfold eg;rw[jc h];have h:wC l true=0:=jM.1 (jd h);obtain⟨a,b,_⟩:=um h;rw[mM] at h;refine⟨?_,?_⟩;show EM (kA l true);rw[a];exact Ry b;show(ky (kA l true),(0:Int),())=(eg l,wa l,());rw[a,h];unfold eg;rw[je h]
theorem RQ:wo PR 11 RJ:=wb VA Tryz.func11 (kcC dY (kcC pk (kcC aD kcN))) koN
theorem RR:NV:=by
 unfold NV jf1;rintro⟨l,⟨⟩⟩ c;refine⟨c,fun _=>tZ,fun h=> ?_,fun h=> ?_⟩;have h:wC l true≠0:=ja h;show(([]:List Int),wC l true,())=(Lj l,wa l,());rw[mM] at h⊢;unfold Lj;rw[jc h];have h:wC l true=0:=jM.1 (jd h);obtain⟨a,b,_⟩:=um h;rw[mM] at h;refine⟨?_,?_⟩;show Lh (kA l true);rw[a];exact jbV b;show(qQ (kA l true),(0:Int),())=(Lj l,wa l,());rw[a,h];unfold Lj;rw[je h]
theorem NX:wo PR 29 NU:=wb RR Tryz.func29 (kcC dY (kcC pk (kcC dW kcN))) koN
theorem jaG:XV:=by
 unfold XV jf2;rintro⟨l,n,⟨⟩⟩ d;refine⟨d,fun b=> ?_,fun h=> ?_,fun h=> ?_⟩;have:(kB (ku l)).length<=4:=jc6 (fR b);exact⟨by show(kB (ku l)).length<=100;omega,tZ⟩;have h:wC l (vS l n)≠0:=ja h;show(([]:List Int),wC l (vS l n),())=(Lk l n,wC l (vS l n),());unfold Lk;rw[jc h];have h:wC l (vS l n)=0:=jM.1 (jd h);obtain⟨a,c,_⟩:=um h;refine⟨?_,?_⟩;show Li (kA l (vS l n));rw[a];exact jas c;show(vi (kA l (vS l n)) n,(0:Int),())=(Lk l n,wC l (vS l n),());rw[a,h];unfold Lk;rw[je h]
theorem XW:wo PR 23 XU:=wb jaG Tryz.func23 (kcC dY (kcC RP (kcC nR kcN))) koN
theorem YW {l:LgD} (i:xP l) {n:Int} {b:BlD} (h:Oe (U.bo l) n=some b):Io b:=by
 have a:=Ry i;have d:(n,some b)∈Lg l:=by
  refine(M.eH (kt:= .int) a.2.2.1).1 ?_;have e:kW none (kL .int n (Lg l))=some b:=h;cases f:kL (β:=Option BlD) Ty.int n (Lg l) with
  |none=>rw[f] at e;cases e
  |some v=>rw[f] at e;exact f.trans (jR some e)
 obtain⟨g,c,j⟩:=a.1 _ d;have c:some b=some g:=c;simp only[jw] at c;subst c;exact gT.1 j
theorem VB {b:BlD} {m:Int} (w:Io b) (a: -100000<=m/\m<=1440): -1000000<=yF m b/\yF m b<=20000000000000000:=HL (HA w a)
theorem VC:RO:=by
 unfold RO jg5 jft jf3 jgp Prod.q4;rintro⟨l,n,m,⟨⟩⟩ j;refine⟨j,fun g=> ?_,fun h=> ?_,fun h=> ?_⟩;have:(kB (ku l)).length<=4:=jc6 (fR g);exact⟨by show(kB (ku l)).length<=100;omega,tZ⟩;have h:wC l (vS l n&&v6 m)≠0:=ja h;show((0:Int),wC l (vS l n&&v6 m),())=(EO l n m,wC l (vS l n&&v6 m),());unfold EO;rw[jc h];have h:wC l (vS l n&&v6 m)=0:=jM.1 (jd h);obtain⟨f,i,c⟩:=um h;rw[ji] at c;have a: -100000<=m/\m<=1440:=qx.1 c.2;show((Oe (kA l (vS l n&&v6 m)) n).isNone=true->((0:Int),(0:Int),())=(EO l n m,wC l (vS l n&&v6 m),()))/\
  ((Oe (kA l (vS l n&&v6 m)) n).isNone=false->(Oe (kA l (vS l n&&v6 m)) n).isSome=true/\pz (kT _ (Oe (kA l (vS l n&&v6 m)) n))/\(Oe (kA l (vS l n&&v6 m)) n).isSome=true/\pz (kT _ (Oe (kA l (vS l n&&v6 m)) n))/\-100000<=m/\m<=1440/\
    kM (R0 (qc (kT _ (Oe (kA l (vS l n&&v6 m)) n)))-yF m (kT _ (Oe (kA l (vS l n&&v6 m)) n)))/\(R0 (qc (kT _ (Oe (kA l (vS l n&&v6 m)) n)))-yF m (kT _ (Oe (kA l (vS l n&&v6 m)) n)),(0:Int),())=(EO l n m,wC l (vS l n&&v6 m),()))
 rw[f,h];unfold EO;rw[je h];cases e:Oe (U.bo l) n with
 |none=>exact⟨fun _=>rfl,fun h=>(by cases h)⟩
 |some b=>
  have w:=YW i e;have d:=gT.2 w;have k:=HL w;have o:=VB w a;refine⟨fun h=>(by cases h),fun _=>⟨rfl,d,rfl,d,a.1,a.2,?_,rfl⟩⟩;show kM (R0 (qc b)-yF m b);exact iZ6
theorem RT:wo PR 12 RN:=wb VC Tryz.func12 (kcC dY (kcC KX (kcC gU (kcC ik kcN)))) koN
namespace U
def vj (o:Option BlD):BlD:=o.getD default
end U
def NY:we:=⟨[.val tLg,.val .int,.val .int],[.int,.int],false,fun d=>[(kX (ku d.1)).length<=100000],fun d=>(Lm d.1 d.2.1 d.2.2.1,Ln d.1 d.2.1 d.2.2.1,())⟩
def HZ:we:=⟨[.val tLg],[.slice .int,.slice .int,.int,.int],false,fun d=>[(kX (ku d.1)).length<=100000],fun d=>(eD d.1,eE d.1,eG d.1,wa d.1,())⟩
def NZ:Ann:=fun r=>match r with
 |7=>some fun σ=>{X:=Nat,sl:=fun k=>[(11,.dat .int (qn (qi (vj (gd (.ptr tBl) σ 10)))-(k:Int)))],ob:=fun _=>[],inv:=fun k=>k<=cR (vj (gd (.ptr tBl) σ 10))/\∀j:Nat,j<k->ew (vj (gd (.ptr tBl) σ 10)) (gb .int σ 5) j=false,mu:=fun k=>cR (vj (gd (.ptr tBl) σ 10))-k}
 |_=>none
abbrev jgq (d:LgD×Int×Int×Unit):=(kH d.1 fun(a:BoD×Unit)=>(wW a.1 d.2.1&&yf d.2.2.1,()))
abbrev jfu (d:LgD×Int×Int×Unit):=(kW none (kL Ty.int d.2.1 (kA d.1 (jgq d)).2.1))
abbrev jgr (d:LgD×Int×Int×Unit):=(kT ((((0:Int),(0:Int),(0:Int),(0:Int),(0:Int),(0:Int),()),(0:Int),(0:Int),(0:Int),()),((0:Int),(0:Int),(0:Int),(0:Int),(0:Int),(0:Int),(0:Int),(0:Int),[],[],()),(0:Int),(0:Int),[],(0:Int),(0:Int),false,(0:Int),()) (jfu d))
abbrev jgs (d:LgD×Int×Int×Unit):=(Lm d.1 d.2.1 d.2.2.1,Ln d.1 d.2.1 d.2.2.1,())
abbrev jeJ (d:LgD×Int×Int×Unit):=(vj (jfu d))
abbrev jer (d:LgD×Int×Int×Unit):=(qi (jeJ d))
def N0:Prop:=∀(d:LgD×Int×Int×Unit),(kX (ku d.1)).length<=100000->(kX (ku d.1)).length<=100000/\(wa d.1=0->kG [(kB (ku (gO (d.1,[],())))).length<=100])/\(decide (wC d.1 (jgq d)≠0)=true->((0:Int),wC d.1 (jgq d),())=(jgs d))/\(decide (wC d.1 (jgq d)≠0)=false->((!(jfu d).isNone)=true->(jfu d).isSome=true/\(∃(x:Nat),(((jgr d).1.2.2.1=qn (jer d)-(x:Int)/\True)/\True)/\x<=cR (jeJ d)/\∀(j:Nat),j<x->ew (jeJ d) d.2.2.1 j=false)/\∀(x:Nat),(x<=cR (jeJ d)/\∀(j:Nat),j<x->ew (jeJ d) d.2.2.1 j=false)->(decide ((-100000:Int)<=qn (jer d)-(x:Int))=true->(jfu d).isSome=true/\pz (jgr d)/\(-100000:Int)<=qn (jer d)-(x:Int)/\qn (jer d)-(x:Int)<=1440/\(decide (yF (qn (jer d)-(x:Int)) (jgr d)<=d.2.2.1)=true->(qn (jer d)-(x:Int),(0:Int),())=(jgs d))/\(decide (yF (qn (jer d)-(x:Int)) (jgr d)<=d.2.2.1)=false->kM (qn (jer d)-(x:Int)-1)/\∃(a:Nat),((qn (jer d)-(x:Int)-1=qn (jer d)-(a:Int)/\True)/\True)/\(a<=cR (jeJ d)/\∀(j:Nat),j<a->ew (jeJ d) d.2.2.1 j=false)/\cR (jeJ d)-a<cR (jeJ d)-x))/\(decide ((-100000:Int)<=qn (jer d)-(x:Int))=false->((0:Int),(3:Int),())=(jgs d)))/\((!(jfu d).isNone)=false->((0:Int),(3:Int),())=(jgs d)))
theorem jb4 {o:Option BlD} {Z:BlD} {a P E:Int} (t:∀b,o=some b->Io b) (r:P=jdw a o) (p:E=jdx a o):
 ((!o.isNone)=true->o.isSome=true/\(∃(x:Nat),((qn (qi (kT Z o))=qn (qi (vj o))-(x:Int)/\True)/\True)/\x<=cR (vj o)/\∀(j:Nat),j<x->ew (vj o) a j=false)/\
   ∀(x:Nat),(x<=cR (vj o)/\∀(j:Nat),j<x->ew (vj o) a j=false)->
    (decide (-100000<=qn (qi (vj o))-(x:Int))=true->o.isSome=true/\pz (kT Z o)/\-100000<=qn (qi (vj o))-(x:Int)/\qn (qi (vj o))-(x:Int)<=1440/\
     (decide (yF (qn (qi (vj o))-(x:Int)) (kT Z o)<=a)=true->(qn (qi (vj o))-(x:Int),(0:Int),())=(P,E,()))/\
     (decide (yF (qn (qi (vj o))-(x:Int)) (kT Z o)<=a)=false->kM (qn (qi (vj o))-(x:Int)-1)/\∃(m:Nat),((qn (qi (vj o))-(x:Int)-1=qn (qi (vj o))-(m:Int)/\True)/\True)/\(m<=cR (vj o)/\∀(j:Nat),j<m->ew (vj o) a j=false)/\cR (vj o)-m<cR (vj o)-x))/\
    (decide (-100000<=qn (qi (vj o))-(x:Int))=false->((0:Int),(3:Int),())=(P,E,())))/\
 ((!o.isNone)=false->((0:Int),(3:Int),())=(P,E,())):=by
 subst r p;cases o with
 |none=>exact⟨fun h=>(by cases h),fun _=>rfl⟩
 |some b=>
  have w:=t b rfl;have n:=w.bl;refine⟨fun _=>⟨rfl,⟨0,⟨⟨?_,tZ⟩,tZ⟩,jv _,fun j s=>by omega⟩,fun x d=>⟨fun f=> ?_,fun f=> ?_⟩⟩,fun h=>(by cases h)⟩;show qn (qi b)=qn (qi b)-((0:Nat):Int);omega;have d:x<=cR b/\∀j:Nat,j<x->ew b a j=false:=d;have f: -100000<=qn (qi b)-(x:Int):=ja f;have s1:=n.st;have s2:=n.en;have u:=n.e2;have q:cR b=(qn (qi b)+100001).toNat:=rfl;refine⟨rfl,gT.2 w,f,?_,fun c=> ?_,fun c=> ?_⟩;show qn (qi b)-(x:Int)<=1440;omega;have c:ew b a x=true:=c;have e:EP b a=some x:=by
   rcases FX b a with⟨k,e,hk,g,i⟩|⟨e,i⟩;rw[e];have:k=x:=by
    rcases Nat.lt_trichotomy k x with l|l|l;rw[d.2 k l] at g;cases g;exact l;rw[i x l] at c;cases c
   rw[this];rw[i x (by omega)] at c;cases c
  show(qn (qi b)-(x:Int),(0:Int),())=(jdf b (EP b a),jdg (EP b a),());rw[e];rfl;have c:ew b a x=false:=c;refine⟨?_,x+1,⟨⟨?_,tZ⟩,tZ⟩,⟨?_,fun j s=> ?_⟩,?_⟩;show kM (qn (qi b)-(x:Int)-1);exact iZ6;show qn (qi b)-(x:Int)-1=qn (qi b)-((x+1:Nat):Int);omega;show x+1<=cR b;omega;by_cases e:j=x;subst e;exact c;exact d.2 j (by omega);show cR b-(x+1)<cR b-x;omega;have d:x<=cR b/\∀j:Nat,j<x->ew b a j=false:=d;have f:¬-100000<=qn (qi b)-(x:Int):=jd f;have q:cR b=(qn (qi b)+100001).toNat:=rfl;have e:EP b a=none:=by
   rcases FX b a with⟨k,e,hk,g,i⟩|⟨e,i⟩;rw[d.2 k (by omega)] at g;cases g;exact e
  show((0:Int),(3:Int),())=(jdf b (EP b a),jdg (EP b a),());rw[e];rfl
theorem RU:N0:=by
 unfold N0 jer jeJ jgs jgr jfu jgq;rintro⟨l,n,a,⟨⟩⟩ g;refine⟨g,fun e=> ?_,fun h=> ?_,fun h=> ?_⟩;have:(kB (ku l)).length<=4:=jc6 (fR e);exact⟨by show(kB (ku l)).length<=100;omega,tZ⟩;have h:wC l (vS l n&&yf a)≠0:=ja h;show((0:Int),wC l (vS l n&&yf a),())=(Lm l n a,Ln l n a,());unfold Lm Ln;rw[jc h,jc h];have h:wC l (vS l n&&yf a)=0:=jM.1 (jd h);obtain⟨c,f,i⟩:=um h;exact jb4 (o:=Oe (kA l (vS l n&&yf a)) n) (fun b d=>by rw[c] at d;exact YW f d) (by rw[c];exact je h) (by rw[c];exact je h)
theorem N1:wo PR 16 NY:=q7 NZ RU Tryz.func16 (kcC dY (kcC HY (kcC ik kcN))) koN
def H2:Ann:=fun r=>match r with
 |6=>some fun σ=>{X:=Nat,sl:=fun k=>[(32,.dat .int (k:Int))],ob:=fun k=>[(2,some (.row 3 .int false .no (wK (az (gb tLg σ 1)) (yx (gb tLg σ 1)) k)))],inv:=fun k=>k<=(kB (ku (gb tLg σ 1))).length,mu:=fun k=>(kB (ku (gb tLg σ 1))).length-k}
 |9=>some fun σ=>{X:=Nat,sl:=fun k=>[(39,.dat .int (k:Int))],ob:=fun k=>[(2,some (.row 3 .int false .no (vE (gr .int σ 2) (gd (.slice .int) σ 37) k)))],inv:=fun k=>k<=(gd (.slice .int) σ 37).length,mu:=fun k=>(gd (.slice .int) σ 37).length-k}
 |15=>some fun σ=>{X:=Nat,sl:=fun k=>[(56,.dat .int (k:Int)),(3,.own 3 .int)],ob:=fun k=>[(3,some (.row 3 .int false .yes (sP ((gd (.slice .int) σ 54).take k))))],inv:=fun k=>k<=(gd (.slice .int) σ 54).length,mu:=fun k=>(gd (.slice .int) σ 54).length-k}
 |20=>some fun σ=>{X:=Nat,sl:=fun k=>[(69,.dat .int (k:Int)),(4,.dat .int (cy (gd (.slice tLn) σ 67) k))],ob:=fun _=>[],inv:=fun k=>k<=(gd (.slice tLn) σ 67).length,mu:=fun k=>(gd (.slice tLn) σ 67).length-k}
 |_=>none
abbrev jgt (d:LgD×Unit):=(kH d.1 fun(a:BoD×Unit)=>(true,()))
abbrev jfv (d:LgD×Unit):=(kA d.1 (jgt d))
abbrev jeb (d:LgD×Unit)(x:Nat):=(vi (jfv d) (x:Int))
abbrev jd8 (d:LgD×Unit):=(ky (jfv d))
abbrev jd4 (d:LgD×Unit):=(qQ (jfv d))
abbrev jgu (d:LgD×Unit)(x:Nat):=(wK (az d.1) (yx d.1) x)
abbrev jf4 (d:LgD×Unit)(x:Nat)(a:Nat):=(vE (jgu d x) (jeb d x) a)
abbrev jf5 (d:LgD×Unit):=(d.1.1.1.2.1.length:Int)
def H3:Prop:=∀(d:LgD×Unit),(kX (ku d.1)).length<=100000->(kX (ku d.1)).length<=100000/\(wa d.1=0->kG [])/\(decide (wC d.1 (jgt d)≠0)=true->([],[],(0:Int),wC d.1 (jgt d),())=(eD d.1,eE d.1,eG d.1,wa d.1,()))/\(decide (wC d.1 (jgt d)≠0)=false->d.1.1.1.2.1.length<4611686018427387904->0<=(jf5 d)/\(jf5 d)=(jf5 d)/\(jf5 d).toNat*8<=140737488355328/\(d.1.1.2.2.1.length<4611686018427387904->(∃(x:Nat),((0=(x:Int)/\True)/\List.replicate (jf5 d).toNat 0=wK (az d.1) (yx d.1) x/\True)/\x<=(kB (ku d.1)).length)/\∀(x:Nat),x<=(kB (ku d.1)).length->(decide ((x:Int)<d.1.1.2.2.1.length)=true->Li (jfv d)/\((jeb d x).length<4611686018427387904->(∃(a:Nat),((0=(a:Int)/\True)/\wK (az d.1) (yx d.1) x=vE (jgu d x) (jeb d x) a/\True)/\a<=(jeb d x).length)/\∀(a:Nat),a<=(jeb d x).length->(decide ((a:Int)<(jeb d x).length)=true->0<=(a:Int)/\(a:Int)<(jeb d x).length/\0<=(a:Int)/\(a:Int)<(jf4 d x a).length/\kM (nth (jf4 d x a) a+nth (jeb d x) a)/\0<=(a:Int)/\(a:Int)<(jf4 d x a).length/\kM ((a:Int)+1)/\∃(c:Nat),(((a:Int)+1=(c:Int)/\True)/\(jf4 d x a).set a (nth (jf4 d x a) a+nth (jeb d x) a)=vE (jgu d x) (jeb d x) c/\True)/\c<=(jeb d x).length/\(jeb d x).length-c<(jeb d x).length-a)/\(decide ((a:Int)<(jeb d x).length)=false->kM ((x:Int)+1)/\∃(c:Nat),(((x:Int)+1=(c:Int)/\True)/\vE (jgu d x) (jeb d x) a=wK (az d.1) (yx d.1) c/\True)/\c<=(kB (ku d.1)).length/\(kB (ku d.1)).length-c<(kB (ku d.1)).length-x)))/\(decide ((x:Int)<d.1.1.2.2.1.length)=false->Lh (jfv d)/\((jd4 d).length<4611686018427387904->(∃(x:Nat),((0=(x:Int)/\True/\True)/\sP (List.take x (jd4 d))=[]/\True)/\x<=(jd4 d).length)/\∀(a:Nat),a<=(jd4 d).length->(decide ((a:Int)<(jd4 d).length)=true->0<=(a:Int)/\(a:Int)<(jd4 d).length/\kM (-nth (jd4 d) a)/\((sP (List.take a (jd4 d))).length+[-nth (jd4 d) a].length)*8<=140737488355328/\kM ((a:Int)+1)/\∃(c:Nat),(((a:Int)+1=(c:Int)/\True/\True)/\sP (List.take a (jd4 d))++[-nth (jd4 d) a]=sP (List.take c (jd4 d))/\True)/\c<=(jd4 d).length/\(jd4 d).length-c<(jd4 d).length-a)/\(decide ((a:Int)<(jd4 d).length)=false->EM (jfv d)/\((jd8 d).length<4611686018427387904->(∃(x:Nat),((0=(x:Int)/\0=cy (jd8 d) x/\True)/\True)/\x<=(jd8 d).length)/\∀(b:Nat),b<=(jd8 d).length->(decide ((b:Int)<(jd8 d).length)=true->0<=(b:Int)/\(b:Int)<(jd8 d).length/\kM (cy (jd8 d) b-(nth (jd8 d) b).q4.1)/\kM ((b:Int)+1)/\∃(c:Nat),(((b:Int)+1=(c:Int)/\cy (jd8 d) b-(nth (jd8 d) b).q4.1=cy (jd8 d) c/\True)/\True)/\c<=(jd8 d).length/\(jd8 d).length-c<(jd8 d).length-b)/\(decide ((b:Int)<(jd8 d).length)=false->(wK (az d.1) (yx d.1) x,sP (List.take a (jd4 d)),cy (jd8 d) b,(0:Int),())=(eD d.1,eE d.1,eG d.1,wa d.1,()))))))))
theorem KZ:H3:=by
 unfold H3 jf5 jf4 jgu jd4 jd8 jeb jfv jgt Prod.q4;rintro⟨l,⟨⟩⟩ D;refine⟨D,fun _=>tZ,fun h=> ?_,fun h=> ?_⟩;have h:wC l true≠0:=ja h;show(([]:List Int),([]:List Int),(0:Int),wC l true,())=(eD l,eE l,eG l,wa l,());rw[mM] at h⊢;unfold eD eE eG;rw[jc h,jc h,jc h];have h:wC l true=0:=jM.1 (jd h);obtain⟨i,d,_⟩:=um h;rw[mM] at h;have M:=jc4 d;have T:yx l<=8:=jcA d;have B:Li (kA l true):=(by rw[i];exact jas d);have q:Lh (kA l true):=(by rw[i];exact jbV d);have A:EM (kA l true):=(by rw[i];exact Ry d);have g:∀b:Nat,vi (kA l true) (b:Int)=az l b:=fun b=>by rw[i];rfl
 have m:∀b:Nat,(vi (kA l true) (b:Int)).length=yx l:=fun b=>by rw[i];exact XO _ _
 have s:∀b:Nat,∀j,j<yx l->-1000000000000000000<=nth (az l b) j/\nth (az l b) j<=1700000000000000000:=fun b j C=>jbX (jas d) (n:=(b:Int)) j C
 obtain⟨Y,Q⟩:=jaz q;have eL:ky (kA l true)=ur l:=(by rw[i];exact dX d);have N:(ky (kA l true)).length<=4:=(by rw[eL];have:=XQ d;omega);have t:=YV (Vu d);rw[<-eL] at t;have E:∀x∈ky (kA l true),0<=VR x/\VR x<=1000000:=(by rw[eL];exact Vu d);refine fun P=>⟨zb _,rfl,by show(((yx l:Nat):Int)).toNat*8<=_;omega,fun _=>⟨⟨0,⟨⟨rfl,tZ⟩,rfl,tZ⟩,jv _⟩,fun x G=>⟨fun p=> ?_,fun p=> ?_⟩⟩⟩
 have p:(x:Int)<(kB (ku l)).length:=ja p;have v:x<(kB (ku l)).length:=(by omega);have K:(wK (az l) (yx l) x).length=yx l:=mK _ _ _;have u:=bK (az l) (yx l) x;have W:=m x;refine⟨B,fun _=>⟨⟨0,⟨⟨rfl,tZ⟩,rfl,tZ⟩,jv _⟩,fun y w=>⟨fun c=> ?_,fun c=> ?_⟩⟩⟩;have c:(y:Int)<(vi (kA l true) (x:Int)).length:=ja c;have a:y<yx l:=(by omega);have V:(vE (wK (az l) (yx l) x) (vi (kA l true) (x:Int)) y).length=yx l:=(by rw[mJ,K]);have r:(y:Int)<(vE (wK (az l) (yx l) x) (vi (kA l true) (x:Int)) y).length:=(by omega);have I:=jaF (f:=az l) (k:=x) (n:=yx l) (by omega) (fun b _ j C=>s b j C) a;rw[<-g] at I;have D:=pu (wK (az l) (yx l) x) (vi (kA l true) (x:Int)) y;exact⟨by omega,c,by omega,r,I,by omega,r,iZ6,y+1,⟨⟨by simp,tZ⟩,D.symm,tZ⟩,by show y+1<=(vi (kA l true) (x:Int)).length;omega,by show(vi (kA l true) (x:Int)).length-(y+1)<(vi (kA l true) (x:Int)).length-y;omega⟩;have c:¬(y:Int)<(vi (kA l true) (x:Int)).length:=jd c;have w:y<=(vi (kA l true) (x:Int)).length:=w;have a:y=yx l:=(by omega);subst a;rw[<-g] at u;exact⟨iZ6,x+1,⟨⟨by simp,tZ⟩,u.symm,tZ⟩,by show x+1<=(kB (ku l)).length;omega,by show(kB (ku l)).length-(x+1)<(kB (ku l)).length-x;omega⟩;have p:¬(x:Int)<(kB (ku l)).length:=jd p;have G:x<=(kB (ku l)).length:=G;have v:x=(kB (ku l)).length:=(by omega);subst v;refine⟨q,fun _=>⟨⟨0,⟨⟨rfl,tZ,tZ⟩,rfl,tZ⟩,jv _⟩,fun y w=>⟨fun c=> ?_,fun c=> ?_⟩⟩⟩;have c:(y:Int)<(qQ (kA l true)).length:=ja c;have a:y<(qQ (kA l true)).length:=(by omega);have X:=Q _ (L.kw a);have O:=Vt a;have F:=XR (qQ (kA l true)) y;refine⟨by omega,c,?_,?_,iZ6,y+1,⟨⟨by simp,tZ,tZ⟩,O.symm,tZ⟩,by show y+1<=(qQ (kA l true)).length;omega,by show(qQ (kA l true)).length-(y+1)<(qQ (kA l true)).length-y;omega⟩;show kM (-nth (qQ (kA l true)) y);exact iZ6;show((sP ((qQ (kA l true)).take y)).length+1)*8<=_;omega;have c:¬(y:Int)<(qQ (kA l true)).length:=jd c;have w:y<=(qQ (kA l true)).length:=w;have a:y=(qQ (kA l true)).length:=(by omega);subst a;refine⟨A,fun _=>⟨⟨0,⟨⟨rfl,rfl,tZ⟩,tZ⟩,jv _⟩,fun z H=>⟨fun o=> ?_,fun o=> ?_⟩⟩⟩;have o:(z:Int)<(ky (kA l true)).length:=ja o;have e:z<(ky (kA l true)).length:=(by omega);have R:=t z (by omega);have S:=E _ (L.kw e);have J:=FY e;refine⟨by omega,o,?_,iZ6,z+1,⟨⟨by simp,J.symm,tZ⟩,tZ⟩,by show z+1<=(ky (kA l true)).length;omega,by show(ky (kA l true)).length-(z+1)<(ky (kA l true)).length-z;omega⟩;show kM (cy (ky (kA l true)) z-VR (nth (ky (kA l true)) z));exact iZ6;have o:¬(z:Int)<(ky (kA l true)).length:=jd o;have H:z<=(ky (kA l true)).length:=H;have e:z=(ky (kA l true)).length:=(by omega);subst e;show(wK (az l) (yx l) (kB (ku l)).length,sP ((qQ (kA l true)).take (qQ (kA l true)).length),cy (ky (kA l true)) (ky (kA l true)).length,(0:Int),())=(eD l,eE l,eG l,wa l,());unfold eD eE eG;rw[je h,je h,je h,h,zD,i]
theorem H4:wo PR 19 HZ:=q7 H2 KZ Tryz.func19 (kcC dY (kcC pk (kcC nR (kcC dW (kcC aD kcN))))) koN
namespace U
def Lo (l:LgD):Bool:=((((Ig (ku l)||decide (20<((vQ l).length:Int)))||decide (20<((DC l).length:Int)))||decide (20<((aT (eJ l)).length:Int)))||decide (20<((d9 (eJ l)).length:Int)))||decide (30<((kP l).length:Int))
def Im (l:LgD):Bool:= !Lo l&&decide (wa l=0)
def exT:TaD:=(30,100,2,1200,90,50,2,150,[0,10,25,50],[(1000,0,()),(60,50,())],())
def u7:LgD:=(jdv,[0,1,0],[30,0,45],exT,[(1,1,80,()),(2,1,120,())],())
def iu (a b:List LnD):Bool:= @decide (a=b) ((Ty.slice tLn).decEq a b)
end U
def VD:we:=⟨[.val tLg],[.bool],false,fun _=>[],fun d=>(Lo d.1,())⟩
abbrev jhO (d:LgD×Unit):=(20<(d.1.2.2.2.1.q4.q4.1.length:Int))
abbrev jgv (d:LgD×Unit):=(20<(d.1.2.1.length:Int))
abbrev jg6 (d:LgD×Unit):=(20<(d.1.2.2.1.length:Int))
def VE:Prop:=∀(d:LgD×Unit),((!Ig d.1.1)=true->d.1.2.1.length<4611686018427387904)->((!(Ig d.1.1||decide (jgv d)))=true->d.1.2.2.1.length<4611686018427387904)->((!(Ig d.1.1||decide (jgv d)||decide (jg6 d)))=true->d.1.2.2.2.1.q4.q4.1.length<4611686018427387904)->((!(Ig d.1.1||decide (jgv d)||decide (jg6 d)||decide (jhO d)))=true->d.1.2.2.2.1.q4.q4.2.1.length<4611686018427387904)->((!(Ig d.1.1||decide (jgv d)||decide (jg6 d)||decide (jhO d)||decide (20<(d.1.2.2.2.1.q4.q4.2.1.length:Int))))=true->d.1.q4.1.length<4611686018427387904)->(Ig d.1.1||decide (jgv d)||decide (jg6 d)||decide (jhO d)||decide (20<(d.1.2.2.2.1.q4.q4.2.1.length:Int))||decide (30<(d.1.q4.1.length:Int)),())=(Lo d.1,())
def N2:we:=⟨[.val tLg],[.bool],false,fun _=>[],fun d=>(Im d.1,())⟩
def N3:Prop:=∀(d:LgD×Unit),((!Lo d.1)=true->(kB (ku d.1)).length<=1000000)/\(!Lo d.1&&decide (wa d.1=0),())=(Im d.1,())
def ED:we:=⟨[.val (.slice .int),.val (.slice .int)],[.bool],false,fun _=>[],fun d=>(decide (d.1=d.2.1),())⟩
def EE:Ann:=fun r=>match r with
 |4=>some fun σ=>{X:=Nat,sl:=fun i=>[(5,.dat .int (i:Int))],ob:=fun _=>[],inv:=fun i=>i<=(gd (.slice .int) σ 0).length/\∀j:Nat,j<i->nth (gd (.slice .int) σ 0) j=nth (gd (.slice .int) σ 1) j,mu:=fun i=>(gd (.slice .int) σ 0).length-i}
 |_=>none
def EF:Prop:=∀(d:List Int×List Int×Unit),d.1.length<4611686018427387904->d.2.1.length<4611686018427387904->(decide ((d.1.length:Int)≠d.2.1.length)=true->(false,())=(decide (d.1=d.2.1),()))/\(decide ((d.1.length:Int)≠d.2.1.length)=false->(∃(x:Nat),((0=(x:Int)/\True)/\True)/\x<=d.1.length/\∀(j:Nat),j<x->nth d.1 j=nth d.2.1 j)/\∀(x:Nat),(x<=d.1.length/\∀(j:Nat),j<x->nth d.1 j=nth d.2.1 j)->d.1.length<4611686018427387904->(decide ((x:Int)<d.1.length)=true->0<=(x:Int)/\(x:Int)<d.1.length/\0<=(x:Int)/\(x:Int)<d.2.1.length/\(decide (nth d.1 x≠nth d.2.1 x)=true->(false,())=(decide (d.1=d.2.1),()))/\(decide (nth d.1 x≠nth d.2.1 x)=false->kM ((x:Int)+1)/\∃(a:Nat),(((x:Int)+1=(a:Int)/\True)/\True)/\(a<=d.1.length/\∀(j:Nat),j<a->nth d.1 j=nth d.2.1 j)/\d.1.length-a<d.1.length-x))/\(decide ((x:Int)<d.1.length)=false->(true,())=(decide (d.1=d.2.1),())))
def Dp:we:=⟨[.val (.slice tLn),.val (.slice tLn)],[.bool],false,fun _=>[],fun d=>(iu d.1 d.2.1,())⟩
def Dq:Ann:=fun r=>match r with
 |4=>some fun σ=>{X:=Nat,sl:=fun i=>[(5,.dat .int (i:Int))],ob:=fun _=>[],inv:=fun i=>i<=(gd (.slice tLn) σ 0).length/\∀j:Nat,j<i->nth (gd (.slice tLn) σ 0) j=nth (gd (.slice tLn) σ 1) j,mu:=fun i=>(gd (.slice tLn) σ 0).length-i}
 |_=>none
def Dr:Prop:=∀(d:List JbD×List JbD×Unit),d.1.length<4611686018427387904->d.2.1.length<4611686018427387904->(decide ((d.1.length:Int)≠d.2.1.length)=true->(false,())=(iu d.1 d.2.1,()))/\(decide ((d.1.length:Int)≠d.2.1.length)=false->(∃(x:Nat),((0=(x:Int)/\True)/\True)/\x<=d.1.length/\∀(j:Nat),j<x->nth d.1 j=nth d.2.1 j)/\∀(x:Nat),(x<=d.1.length/\∀(j:Nat),j<x->nth d.1 j=nth d.2.1 j)->d.1.length<4611686018427387904->(decide ((x:Int)<d.1.length)=true->0<=(x:Int)/\(x:Int)<d.1.length/\0<=(x:Int)/\(x:Int)<d.2.1.length/\((!decide (nth d.1 x=nth d.2.1 x))=true->(false,())=(iu d.1 d.2.1,()))/\((!decide (nth d.1 x=nth d.2.1 x))=false->kM ((x:Int)+1)/\∃(a:Nat),(((x:Int)+1=(a:Int)/\True)/\True)/\(a<=d.1.length/\∀(j:Nat),j<a->nth d.1 j=nth d.2.1 j)/\d.1.length-a<d.1.length-x))/\(decide ((x:Int)<d.1.length)=false->(true,())=(iu d.1 d.2.1,())))
def H5:we:=⟨[],[tLg],false,fun _=>[],fun _=>(u7,())⟩
def H6:Prop:=∀(_:Unit),((jdv,[(0:Int),(1:Int),(0:Int)],[(30:Int),(0:Int),(45:Int)],((30:Int),(100:Int),(2:Int),(1200:Int),(90:Int),(50:Int),(2:Int),(150:Int),[(0:Int),(10:Int),(25:Int),(50:Int)],[((1000:Int),(0:Int),()),((60:Int),(50:Int),())],()),[((1:Int),(1:Int),(80:Int),()),((2:Int),(1:Int),(120:Int),())],()),())=(u7,())
def N4:we:=⟨[],[.bool],false,fun _=>[],fun _=>(true,())⟩
abbrev jgw:=(kX (ku u7))
def N5:Prop:=∀(_:Unit),jgw.length<=100000/\jgw.length<=100000/\jgw.length<=100000/\jgw.length<=100000/\(decide (wa u7=0)&&decide (wC u7 (vS u7 (2:Int))=0)&&decide (wC u7 (vS u7 (0:Int)&&v6 (0:Int))=0)&&decide (Ln u7 (0:Int) (0:Int)=0)&&decide (Lj u7=[(940:Int),(100:Int)])&&decide (Lk u7 (2:Int)=[(390:Int),(390:Int),(0:Int),(0:Int)])&&decide (EO u7 (0:Int) (0:Int)=185)&&decide (Lm u7 (0:Int) (0:Int)=(-940:Int)),())=(true,())
theorem VF (l:LgD):eg l=jco l:=by
 unfold eg jco
 split
 rename_i h;exact dX (fR h);rfl
theorem XX:VE:=fun _ _ _ _ _ _=>rfl
theorem VG:wo PR 27 VD:=wb XX Tryz.func27 (kcC UZ kcN) koN
theorem F3 {l:LgD} (h:Lo l=false):Il l:=by
 unfold Lo at h;simp only[jP,jD] at h;obtain⟨⟨⟨⟨⟨a,b⟩,c⟩,d⟩,e⟩,f⟩:=h;exact⟨Xx a,by omega,by omega,by omega,by omega,by omega⟩
theorem K0 {l:LgD} (h:Lo l=false):(kX (ku l)).length<=100000/\(kB (ku l)).length<=1000000:=by
 have a:=(F3 h).1;have b:=a.2.2.2.1;have c:=a.2.2.1;omega
theorem RV:N3:=by
 rintro⟨l,⟨⟩⟩;refine⟨fun h=> ?_,rfl⟩;have h:(!Lo l)=true:=h;rw[jN] at h;exact(K0 h).2
theorem N6:wo PR 7 N2:=wb RV Tryz.func7 (kcC VG (kcC NR kcN)) koN
theorem VH {l:LgD} (h:Im l=true):Lo l=false/\xP l/\wa l=0:=by
 unfold Im at h;rw[ji,jN,jr] at h;exact⟨h.1,fR h.2,h.2⟩
theorem H7:EF:=by
 rintro⟨a,b,⟨⟩⟩ _ l;refine⟨fun h=> ?_,fun h=>⟨⟨0,⟨⟨rfl,tZ⟩,tZ⟩,jv _,fun j k=>by omega⟩,fun x g f=>⟨fun c=>⟨zb _,ja c,zb _,?_,fun d=> ?_,fun d=> ?_⟩,fun c=> ?_⟩⟩⟩;have h:(a.length:Int)≠b.length:=ja h;have:¬a=b:=fun e=>h (by rw[e])
 show(false,())=(decide (a=b),());rw[zl this];have h:(a.length:Int)=b.length:=jM.1 (jd h);have c:(x:Int)<a.length:=ja c;show(x:Int)<b.length;omega;have d:nth a x≠nth b x:=ja d;have:¬a=b:=fun e=>d (by rw[e])
 show(false,())=(decide (a=b),());rw[zl this];have c:(x:Int)<a.length:=ja c;have d:nth a x=nth b x:=jM.1 (jd d);have f:a.length<4611686018427387904:=f;refine⟨iZ6,x+1,⟨⟨by simp,tZ⟩,tZ⟩,⟨by show x+1<=a.length;omega,fun j k=> ?_⟩,by show a.length-(x+1)<a.length-x;omega⟩;by_cases e:j=x;subst e;exact d;exact g.2 j (by omega);have h:(a.length:Int)=b.length:=jM.1 (jd h);have c:¬(x:Int)<a.length:=jd c;have e:a=b:=L.ext_nth (by omega) fun i hi=>g.2 i (by omega)
 show(true,())=(decide (a=b),());rw[jJ e]
theorem nS:wo PR 26 ED:=q7 EE H7 Tryz.func26 kcN koN
theorem Py {a b:List LnD} (h:¬a=b):(false,())=(iu a b,()):=by
 unfold iu;rw[@zl _ ((Ty.slice tLn).decEq a b) h]
theorem K1 {a b:List LnD} (h:a=b):iu a b=true:= @jJ _ ((Ty.slice tLn).decEq a b) h
theorem EG:Dr:=by
 rintro⟨a,b,⟨⟩⟩ _ l;refine⟨fun h=> ?_,fun h=>⟨⟨0,⟨⟨rfl,tZ⟩,tZ⟩,jv _,fun j k=>by omega⟩,fun x g f=>⟨fun d=>⟨zb _,ja d,zb _,?_,fun c=> ?_,fun c=> ?_⟩,fun d=> ?_⟩⟩⟩;have h:(a.length:Int)≠b.length:=ja h;exact Py (a:=a) (b:=b) (fun e=>h (by rw[e]));have h:(a.length:Int)=b.length:=jM.1 (jd h);have d:(x:Int)<a.length:=ja d;show(x:Int)<b.length;omega;rw[jN] at c;have c:nth a x≠nth b x:= @jd _ _ c;exact Py (a:=a) (b:=b) (fun e=>c (by rw[e]));have d:(x:Int)<a.length:=ja d;rw[zc] at c;have c:nth a x=nth b x:= @ja _ _ c;have f:a.length<4611686018427387904:=f;refine⟨iZ6,x+1,⟨⟨by simp,tZ⟩,tZ⟩,⟨by show x+1<=a.length;omega,fun j k=> ?_⟩,by show a.length-(x+1)<a.length-x;omega⟩;by_cases e:j=x;subst e;exact c;exact g.2 j (by omega);have h:(a.length:Int)=b.length:=jM.1 (jd h);have d:¬(x:Int)<a.length:=jd d;have e:a=b:=L.ext_nth (by omega) fun i hi=>g.2 i (by omega)
 show(true,())=(iu a b,());rw[K1 e]
theorem Dt:wo PR 25 Dp:=q7 Dq EG Tryz.func25 kcN koN
theorem K2:H6:=fun _=>rfl
theorem H8:wo PR 28 H5:=wb K2 Tryz.func28 (kcC Hx kcN) koN
theorem jaH:wa u7=0:=by decide+kernel
theorem jaI:Lj u7=[940,100]:=by decide+kernel
theorem jaJ:Lk u7 2=[390,390,0,0]:=by decide+kernel
theorem jaK:EO u7 0 0=185:=by decide+kernel
theorem XY:Ln u7 0 0=0:=by decide+kernel
theorem XZ:Lm u7 0 0= -940:=by decide+kernel
theorem jb5:wC u7 (vS u7 2)=0:=by decide+kernel
theorem jb6:wC u7 (vS u7 0&&v6 0)=0:=by decide+kernel
theorem RW:N5:=by
 unfold N5 jgw;intro _;have a:(kX (ku u7)).length<=100000:=(by decide+kernel);refine⟨a,a,a,a,?_⟩;rw[jaH,jb5,jb6,XY,jaI,jaJ,jaK,XZ];rfl
theorem N7:wo PR 8 N4:=wb RW Tryz.func8 (kcC H8 (kcC NX (kcC XW (kcC RT (kcC N1 (kcC nS kcN)))))) koN
end Go.X
namespace Go.X
open U
open Go.Proofs
namespace U
def Ye:List ShD:=[]
end U
def Ak:we:=UO [tLg,.int,.int]
def Al:Ann:=fun r=>match r with
 |6=>some fun σ=>{X:=Nat,sl:=fun i=>[(8,.dat .int (i:Int))],ob:=fun i=>[(7,some (.box 37 false (((bx σ 7).set 20 (.own (aB 7 20) tCa)).set 7 (.own (aB 7 7) tSh)))),(aB 7 7,some (.row 75 tSh false .yes Ye)),(aB 7 20,some (.row 39 tCa false .yes (kI (kP (gb tLg σ 3)) (gd .int σ 1) i)))],inv:=fun i=>i<=(kP (gb tLg σ 3)).length,mu:=fun i=>(kP (gb tLg σ 3)).length-i}
 |10=>some fun σ=>{X:=Nat,sl:=fun i=>[(9,.dat .int (i:Int))],ob:=fun i=>[(7,some (.box 37 false ((bx σ 7).set 7 (.own (aB 7 7) tSh)))),(aB 7 7,some (.row 75 tSh false .yes (kI (kX (ku (gb tLg σ 3))) (gd .int σ 2) i)))],inv:=fun i=>i<=(kX (ku (gb tLg σ 3))).length,mu:=fun i=>(kX (ku (gb tLg σ 3))).length-i}
 |_=>none
abbrev jgx (d:LgD×Int×Int×Unit):=(d.1.1.1.1=d.1.1.1.1/\d.1.1.1.2.1=d.1.1.1.2.1/\d.1.1.1.2.2.1=d.1.1.1.2.2.1/\d.1.1.2.1=d.1.1.2.1/\d.1.1.2.2.1=d.1.1.2.2.1/\d.1.1.2.2.2.1=d.1.1.2.2.2.1/\d.1.1.q4.1=d.1.1.q4.1/\True/\d.1.2.1=d.1.2.1/\d.1.2.2.1=d.1.2.2.1/\d.1.2.2.2.1.1=d.1.2.2.2.1.1/\d.1.2.2.2.1.2.1=d.1.2.2.2.1.2.1/\d.1.2.2.2.1.2.2.1=d.1.2.2.2.1.2.2.1/\d.1.2.2.2.1.2.2.2.1=d.1.2.2.2.1.2.2.2.1/\d.1.2.2.2.1.q4.1=d.1.2.2.2.1.q4.1/\d.1.2.2.2.1.q4.2.1=d.1.2.2.2.1.q4.2.1/\d.1.2.2.2.1.q4.2.2.1=d.1.2.2.2.1.q4.2.2.1/\d.1.2.2.2.1.q4.2.2.2.1=d.1.2.2.2.1.q4.2.2.2.1/\d.1.2.2.2.1.q4.q4.1=d.1.2.2.2.1.q4.q4.1/\d.1.2.2.2.1.q4.q4.2.1=d.1.2.2.2.1.q4.q4.2.1/\True/\True)
abbrev jec (d:LgD×Int×Int×Unit):=(d.1.1.q4.2.1.length:Int)
abbrev jee (d:LgD×Int×Int×Unit):=(d.1.q4.1.length:Int)
abbrev jdY (d:LgD×Int×Int×Unit):=(kX (ku d.1))
abbrev jhP (d:LgD×Int×Int×Unit)(a:Nat):=(d.1.1.1,d.1.1.2.1,d.1.1.2.2.1,d.1.1.2.2.2.1,d.1.1.q4.1,kI (jdY d) d.2.2.1 a++[nth d.1.1.q4.2.1 (Int.toNat 0)],())
abbrev jhQ (d:LgD×Int×Int×Unit)(a:Nat):=(d.1.1.1,d.1.1.2.1,d.1.1.2.2.1,d.1.1.2.2.2.1,d.1.1.q4.1,kI (jdY d) d.2.2.1 a,())
abbrev jeX (d:LgD×Int×Int×Unit)(a:Nat)(x:Nat):=((jhP d a),d.1.2.1,d.1.2.2.1,d.1.2.2.2.1,kI (kP d.1) d.2.1 x++[nth d.1.q4.1 (Int.toNat 0)],())
abbrev jeY (d:LgD×Int×Int×Unit)(a:Nat)(x:Nat):=((jhQ d a),d.1.2.1,d.1.2.2.1,d.1.2.2.2.1,kI (kP d.1) d.2.1 x++[nth d.1.q4.1 (Int.toNat 0)],())
abbrev jeZ (d:LgD×Int×Int×Unit)(a:Nat)(x:Nat):=((jhP d a),d.1.2.1,d.1.2.2.1,d.1.2.2.2.1,kI (kP d.1) d.2.1 x,())
abbrev je0 (d:LgD×Int×Int×Unit)(a:Nat)(x:Nat):=((jhQ d a),d.1.2.1,d.1.2.2.1,d.1.2.2.2.1,kI (kP d.1) d.2.1 x,())
abbrev jg7:=(Ty.int.pair (Ty.int.pair Ty.unit))
abbrev jhR (d:LgD×Int×Int×Unit):=(!Im d.1||decide (9<(jee d))||decide (11<(jec d))||decide (d.2.1<0)||decide (1000<d.2.1)||decide (d.2.2.1<0)||decide (1000<d.2.2.1))
abbrev jgy:=(Ty.int.pair jg7)
def Am:Prop:=∀(d:LgD×Int×Int×Unit),Hr 1048576 [((Ty.int.pair ((Ty.int.slice.pair (Ty.int.pair (Ty.int.pair (Ty.int.slice.pair (Ty.bool.pair (Ty.int.pair Ty.unit)))))).slice.pair ((Ty.int.pair (Ty.int.pair (Ty.bool.pair Ty.unit))).slice.pair Ty.unit))).pair (jg7.slice.slice.pair (((Ty.int.pair (Ty.int.pair (Ty.int.pair jgy))).pair jgy).slice.pair (Ty.int.pair (Ty.int.pair ((Ty.int.pair (Ty.int.pair jgy)).slice.pair Ty.unit)))))).pair (Ty.int.slice.pair (Ty.int.slice.pair ((Ty.int.pair (Ty.int.pair (Ty.int.pair (Ty.int.pair (Ty.int.pair (Ty.int.pair (Ty.int.pair (Ty.int.pair (Ty.int.slice.pair (jg7.slice.pair Ty.unit)))))))))).pair (jgy.slice.pair Ty.unit)))),Ty.int,Ty.int] d->((!!Im d.1)=true->d.1.q4.1.length<4611686018427387904)->((!(!Im d.1||decide (9<(jee d))))=true->d.1.1.q4.2.1.length<4611686018427387904)->((jhR d)=true->(true,())=(true,()))/\((jhR d)=false->Il d.1/\(∃(x:Nat),((0=(x:Int)/\True)/\(jgx d)/\Ye=[]/\kI (kP d.1) d.2.1 x=[]/\True)/\x<=(kP d.1).length)/\∀(x:Nat),x<=(kP d.1).length->d.1.q4.1.length<4611686018427387904->(decide ((x:Int)<(jee d))=true->kM ((x:Int)+d.2.1)/\(jee d)≠0/\(0:Int)<=((x:Int)+d.2.1).tmod (jee d)/\((x:Int)+d.2.1).tmod (jee d)<(jee d)/\((kI (kP d.1) d.2.1 x).length+[nth d.1.q4.1 (((x:Int)+d.2.1).tmod (jee d)).toNat].length)*24<=140737488355328/\kM ((x:Int)+1)/\∃(b:Nat),(((x:Int)+1=(b:Int)/\True)/\Ye=Ye/\(jgx d)/\kI (kP d.1) d.2.1 x++[nth d.1.q4.1 (((x:Int)+d.2.1).tmod (jee d)).toNat]=kI (kP d.1) d.2.1 b/\True)/\b<=(kP d.1).length/\(kP d.1).length-b<(kP d.1).length-x)/\(decide ((x:Int)<(jee d))=false->(∃(x:Nat),((0=(x:Int)/\True)/\(jgx d)/\Ye=kI (jdY d) d.2.2.1 x/\True)/\x<=(jdY d).length)/\∀(a:Nat),a<=(jdY d).length->d.1.1.q4.2.1.length<4611686018427387904->(decide ((a:Int)<(jec d))=true->kM ((a:Int)+d.2.2.1)/\(jec d)≠0/\(0:Int)<=((a:Int)+d.2.2.1).tmod (jec d)/\((a:Int)+d.2.2.1).tmod (jec d)<(jec d)/\((kI (jdY d) d.2.2.1 a).length+[nth d.1.1.q4.2.1 (((a:Int)+d.2.2.1).tmod (jec d)).toNat].length)*40<=140737488355328/\kM ((a:Int)+1)/\∃(b:Nat),(((a:Int)+1=(b:Int)/\True)/\(jgx d)/\kI (jdY d) d.2.2.1 a++[nth d.1.1.q4.2.1 (((a:Int)+d.2.2.1).tmod (jec d)).toNat]=kI (jdY d) d.2.2.1 b/\True)/\b<=(jdY d).length/\(jdY d).length-b<(jdY d).length-a)/\(decide ((a:Int)<(jec d))=false->d.1.q4.1.length<4611686018427387904->(decide (0<(jee d))=true->(0:Int)<=0/\0<(jee d)/\((kI (kP d.1) d.2.1 x).length+[nth d.1.q4.1 (Int.toNat 0)].length)*24<=140737488355328/\(d.1.1.q4.2.1.length<4611686018427387904->(decide (0<(jec d))=true->(0:Int)<=0/\0<(jec d)/\((kI (jdY d) d.2.2.1 a).length+[nth d.1.1.q4.2.1 (Int.toNat 0)].length)*40<=140737488355328/\(jdY d).length<=100000/\(kX (ku (jeX d a x))).length<=100000/\(jdY d).length<=100000/\(kX (ku (jeX d a x))).length<=100000/\(decide (wa d.1=0)&&decide (wa (jeX d a x)=0)&&decide (wa d.1=0)&&decide (wa (jeX d a x)=0)&&iu (eg d.1) (eg (jeX d a x))&&decide (eD d.1=eD (jeX d a x))&&decide (eE d.1=eE (jeX d a x))&&decide (eG d.1=eG (jeX d a x))&&true,())=(true,()))/\(decide (0<(jec d))=false->(jdY d).length<=100000/\(kX (ku (jeY d a x))).length<=100000/\(jdY d).length<=100000/\(kX (ku (jeY d a x))).length<=100000/\(decide (wa d.1=0)&&decide (wa (jeY d a x)=0)&&decide (wa d.1=0)&&decide (wa (jeY d a x)=0)&&iu (eg d.1) (eg (jeY d a x))&&decide (eD d.1=eD (jeY d a x))&&decide (eE d.1=eE (jeY d a x))&&decide (eG d.1=eG (jeY d a x))&&true,())=(true,()))))/\(decide (0<(jee d))=false->d.1.1.q4.2.1.length<4611686018427387904->(decide (0<(jec d))=true->(0:Int)<=0/\0<(jec d)/\((kI (jdY d) d.2.2.1 a).length+[nth d.1.1.q4.2.1 (Int.toNat 0)].length)*40<=140737488355328/\(jdY d).length<=100000/\(kX (ku (jeZ d a x))).length<=100000/\(jdY d).length<=100000/\(kX (ku (jeZ d a x))).length<=100000/\(decide (wa d.1=0)&&decide (wa (jeZ d a x)=0)&&decide (wa d.1=0)&&decide (wa (jeZ d a x)=0)&&iu (eg d.1) (eg (jeZ d a x))&&decide (eD d.1=eD (jeZ d a x))&&decide (eE d.1=eE (jeZ d a x))&&decide (eG d.1=eG (jeZ d a x))&&true,())=(true,()))/\(decide (0<(jec d))=false->(jdY d).length<=100000/\(kX (ku (je0 d a x))).length<=100000/\(jdY d).length<=100000/\(kX (ku (je0 d a x))).length<=100000/\(decide (wa d.1=0)&&decide (wa (je0 d a x)=0)&&decide (wa d.1=0)&&decide (wa (je0 d a x)=0)&&iu (eg d.1) (eg (je0 d a x))&&decide (eD d.1=eD (je0 d a x))&&decide (eE d.1=eE (je0 d a x))&&decide (eG d.1=eG (je0 d a x))&&true,())=(true,()))))))
theorem H9 {l:LgD} {ss:List ShD} {cs:List CaD} (h:Im l=true) (q:∀s,s∈ss↔s∈kX (ku l)) (e:ss.length<=30) (d:∀c,c∈cs↔c∈kP l) (b:cs.length<=10):
 (kX (ku l)).length<=100000/\(kX (ku (wn l ss cs))).length<=100000/\(kX (ku l)).length<=100000/\(kX (ku (wn l ss cs))).length<=100000/\
  (decide (wa l=0)&&decide (wa (wn l ss cs)=0)&&decide (wa l=0)&&decide (wa (wn l ss cs)=0)&&iu (eg l) (eg (wn l ss cs))&&decide (eD l=eD (wn l ss cs))&&decide (eE l=eE (wn l ss cs))&&decide (eG l=eG (wn l ss cs))&&true,())=(true,()):=by
 obtain⟨p,r,a⟩:=VH h;obtain⟨g,t⟩:=K0 p;obtain⟨f,k,m,n,o⟩:=jb3 a q e d b;have j:eg l=eg (wn l ss cs):=((VF l).trans (je a)).trans (k.symm.trans ((VF _).trans (je f)).symm);have i:(kX (ku (wn l ss cs))).length<=100000:=(by show ss.length<=100000;omega);refine⟨g,i,g,i,?_⟩;rw[a,f,K1 j,m,n,o];simp only[decide_true,Bool.and_self]
theorem Ia {α:Type} [Inhabited α] {l:List α} {t:Int} (a:0<=t) {x:Nat} (b:x=l.length) (s:α):s∈kI l t x↔s∈l:=by
 subst b;exact Vr a s
theorem K3 {α:Type} [Inhabited α] {l:List α} {t:Int} (b:0<=t) {x:Nat} (c:x=l.length) (a:0<l.length) (s:α):s∈kI l t x++[nth l (Int.toNat 0)]↔s∈l:=by
 rw[js,Ia b c,List.mem_singleton];constructor;rintro(h|rfl);exact h;exact L.kw a;exact Or.inl
theorem VI {n:Nat} {x:Nat} {t:Int} (a:0<=t/\t<=1000) (b:(x:Int)<(n:Int)):kM ((x:Int)+t)->(n:Int)≠0/\0<=((x:Int)+t).tmod (n:Int)/\((x:Int)+t).tmod (n:Int)<(n:Int):=fun _=>
 ⟨by omega,Int.tmod_nonneg _ (by omega),Int.tmod_lt_of_pos _ (by omega)⟩
theorem Du:Am:=by
 unfold Am jgy jhR jg7 je0 jeZ jeY jeX jhQ jhP jdY jee jec jgx Prod.q4;rintro⟨l,t,u,⟨⟩⟩ _ _ _;refine⟨fun _=>rfl,fun h=> ?_⟩;have h:(!Im l||decide ((9:Int)<(kP l).length)||decide ((11:Int)<(kX (ku l)).length)||decide (t<0)||decide (1000<t)||decide (u<0)||decide (1000<u))=false:=h;simp only[jP,zc,jD] at h;obtain⟨⟨⟨⟨⟨⟨d,B⟩,C⟩,D⟩,E⟩,F⟩,G⟩:=h;obtain⟨A,I,H⟩:=VH d;refine⟨F3 A,⟨0,⟨⟨rfl,tZ⟩,⟨rfl,rfl,rfl,rfl,rfl,rfl,rfl,tZ,rfl,rfl,rfl,rfl,rfl,rfl,rfl,rfl,rfl,rfl,rfl,rfl,tZ,tZ⟩,rfl,rfl,tZ⟩,jv _⟩,fun x w _=>⟨fun g=> ?_,fun g=>⟨⟨0,⟨⟨rfl,tZ⟩,⟨rfl,rfl,rfl,rfl,rfl,rfl,rfl,tZ,rfl,rfl,rfl,rfl,rfl,rfl,rfl,rfl,rfl,rfl,rfl,rfl,tZ,tZ⟩,rfl,tZ⟩,jv _⟩,fun y z _=>⟨fun b=> ?_,fun b=> ?_⟩⟩⟩⟩;have g:(x:Int)<(kP l).length:=ja g;have e:kM ((x:Int)+t):=iZ6;obtain⟨m,n,o⟩:=VI ⟨by omega,by omega⟩ g e;refine⟨e,m,n,o,?_,iZ6,x+1,⟨⟨by simp,tZ⟩,rfl,⟨rfl,rfl,rfl,rfl,rfl,rfl,rfl,tZ,rfl,rfl,rfl,rfl,rfl,rfl,rfl,rfl,rfl,rfl,rfl,rfl,tZ,tZ⟩,(F0 (kP l) t x).symm,tZ⟩,by show x+1<=(kP l).length;omega,by show(kP l).length-(x+1)<(kP l).length-x;omega⟩;show((kI (kP l) t x).length+1)*24<=140737488355328;rw[sF];omega;have b:(y:Int)<(kX (ku l)).length:=ja b;have e:kM ((y:Int)+u):=iZ6;obtain⟨m,n,o⟩:=VI ⟨by omega,by omega⟩ b e;refine⟨e,m,n,o,?_,iZ6,y+1,⟨⟨by simp,tZ⟩,⟨rfl,rfl,rfl,rfl,rfl,rfl,rfl,tZ,rfl,rfl,rfl,rfl,rfl,rfl,rfl,rfl,rfl,rfl,rfl,rfl,tZ,tZ⟩,(F0 (kX (ku l)) u y).symm,tZ⟩,by show y+1<=(kX (ku l)).length;omega,by show(kX (ku l)).length-(y+1)<(kX (ku l)).length-y;omega⟩;show((kI (kX (ku l)) u y).length+1)*40<=140737488355328;rw[sF];omega;have g:¬(x:Int)<(kP l).length:=jd g;have b:¬(y:Int)<(kX (ku l)).length:=jd b;have w:x<=(kP l).length:=w;have z:y<=(kX (ku l)).length:=z;have ex:x=(kP l).length:=(by omega);have v:y=(kX (ku l)).length:=(by omega);have tl:=sF (kP l) t x;have j:=sF (kX (ku l)) u y;have f:(kI (kP l) t x++[nth (kP l) (Int.toNat 0)]).length<=10:=(by rw[jI,tl];show _+1<=10;omega);have i:(kI (kX (ku l)) u y++[nth (kX (ku l)) (Int.toNat 0)]).length<=30:=(by rw[jI,j];show _+1<=30;omega);have p:=fun(k:0<(kP l).length)=>K3 (l:=kP l) (t:=t) (x:=x) (by omega) ex k
 have q:=Ia (l:=kP l) (t:=t) (x:=x) (by omega) ex;have r:=fun(k:0<(kX (ku l)).length)=>K3 (l:=kX (ku l)) (t:=u) (x:=y) (by omega) v k
 have s:=Ia (l:=kX (ku l)) (t:=u) (x:=y) (by omega) v;have c:((kI (kP l) t x).length+1)*24<=140737488355328:=(by rw[tl];omega);have a:((kI (kX (ku l)) u y).length+1)*40<=140737488355328:=(by rw[j];omega);refine fun _=>⟨fun c1=>⟨zK 0,ja c1,c,fun _=>⟨fun c2=>⟨zK 0,ja c2,a,?_⟩,fun c2=> ?_⟩⟩,fun c1 _=>⟨fun c2=>⟨zK 0,ja c2,a,?_⟩,fun c2=> ?_⟩⟩
 have c1:(0:Int)<(kP l).length:=ja c1;have c2:(0:Int)<(kX (ku l)).length:=ja c2;exact H9 d (r (by omega)) i (p (by omega)) f;have c1:(0:Int)<(kP l).length:=ja c1;exact H9 d s (by rw[j];omega) (p (by omega)) f;have c2:(0:Int)<(kX (ku l)).length:=ja c2;exact H9 d (r (by omega)) i q (by rw[tl];omega);exact H9 d s (by rw[j];omega) q (by rw[tl];omega)
theorem R9:wo PR 6 Ak:=q7 Al Du Tryz.func6 (kcC N6 (kcC N7 (kcC RI (kcC RQ (kcC H4 (kcC Dt (kcC nS kcN))))))) koN
open Go.Proofs Go.Proofs.YtjmbjgjcdklgdaaGreatDoor
noncomputable def X0:Array Field:=match Tryz.prog.underlying 60 with|some (.struct fs)=>fs|_=> #[]
theorem jb7:Tryz.prog.globalNamed "handshape/rosters.some"=some 0:=by kernel_rfl
theorem jb8:(Tryz.prog.globals[0]?).map (·.type)=some 60:=by kernel_rfl
theorem jdH:Tryz.prog.underlying 60=some (.struct X0):=by kernel_rfl
theorem jdI:Tryz.prog.underlying 3=some (.int .i64):=by kernel_rfl
theorem jdJ:Tryz.prog.cellsOf 3=1:=by kernel_rfl
noncomputable def cN (i:Nat):Bool:=match X0[i]? with|some f=>Nat.beq f.type 3&&Nat.beq f.offset i|none=>false
theorem fields:(cN 0&&cN 1&&cN 2&&cN 3&&cN 4&&cN 5)=true:=by kernel_rfl
theorem X1 {i:Nat} (h:cN i=true):∃f,X0[i]? =some f/\f.type=3/\f.offset=i:=by
 unfold cN at h
 split at h
 rename_i f a;rw[ji] at h;exact⟨f,a,jb h.1,jb h.2⟩;cases h
theorem X2 {H:Type} {enc:TypeId×Value->H} {w:World} {base:Nat} {sp:Nat->Bool} {a:Bool} {n:Nat} {cs:List Value} {xs:List (DataW H×List MemPlace)} {d:List Int} (o:xs.map (·.1)=d.map fun z=>(DataW.lit (.int .i64 z):DataW H))
 (k:∀(i:Nat) (f:Field),X0[i]? =some f->DataW.trod enc Tryz.prog w base sp a n f.type ((cs.drop f.offset).take (Tryz.prog.cellsOf f.type))=xs[i]?) {i:Nat} {z:Int} (hi:cN i=true) (q:d[i]? =some z):cs[i]? =some (.int .i64 z):=by
 obtain⟨f,g,h,j⟩:=X1 hi;have b:=k i f g;rw[h,j,jdJ] at b;have c:(xs.map (·.1))[i]? =some (DataW.lit (.int .i64 z):DataW H):=(by rw[o,zU,q];rfl);rw[zU] at c;obtain⟨y,p,e⟩:=ki.1 c;rw[p] at b;obtain⟨m,l,rfl,_⟩:=DataW.trod_int jdI b;have e:m=z:=by
  have e:(DataW.lit (.int .i64 m):DataW H)=DataW.lit (.int .i64 z):=e;simpa only[DataW.lit.injEq,Lit.int.injEq,true_and] using e
 subst e;have:=jR (·[0]?) l;simpa[zP,zg] using this
theorem jc7 {W:World} (h:laidMet Tryz.prog [("handshape/rosters.some",Rows.laid_handshape_rosters_some)] W):Zg (Hof W):=by
 obtain⟨ps,⟨H,E,cs,k,p,q,d,f,a,A,_,_⟩,_⟩:=h;obtain rfl:=Option.some.inj (jb7.symm.trans d);obtain rfl:=Option.some.inj (jb8.symm.trans f);obtain⟨xs,n,_,C,I,l,B⟩:=DataW.trod_struct jdH A;have j:xs.map (·.1)=[0,1,0,0,0,1].map fun z=>(DataW.lit (.int .i64 z):DataW Unit):=by
  have e:=jR Prod.fst C;have e:(DataW.agg [.lit (.int .i64 0),.lit (.int .i64 1),.lit (.int .i64 0),.lit (.int .i64 0),.lit (.int .i64 0),.lit (.int .i64 1)]:DataW Unit)= .agg (xs.map (·.1)):=e;simp only[DataW.agg.injEq] at e;exact e.symm
 have fs:=fields;simp only[ji] at fs;obtain⟨⟨⟨⟨⟨o,r⟩,s⟩,u⟩,v⟩,w⟩:=fs;have c:∀{i:Nat} {z:Int},cN i=true->([0,1,0,0,0,1]:List Int)[i]? =some z->cs[i]? =some (.int .i64 z):=fun hi D=>by
  have:=X2 j B hi D;simpa using this
 unfold World.var? at a;rw[jb7] at a;intro g x b;have b:kQ [(0,(⟨.st [.int,.int,.int,.int,.int,.int],((0:Int),(1:Int),(0:Int),(0:Int),(0:Int),(1:Int),())⟩:(t:Ty)×t.Data))] g=some x:=b;have y:Hof W 0=some (.cells cs):=by
  unfold Hof;simp only[Option.bind_some] at a
  split at a
  rename_i F E G e;rw[e];have:=Option.some.inj a;rw[this];cases a
 have m:=wP _ _ _ b;simp only[List.mem_singleton,Prod.mk.injEq] at m;obtain⟨rfl,rfl⟩:=m;exact⟨cs,y,c o rfl,c r rfl,c s rfl,c u rfl,c v rfl,c w rfl,tZ⟩
end Go.X
