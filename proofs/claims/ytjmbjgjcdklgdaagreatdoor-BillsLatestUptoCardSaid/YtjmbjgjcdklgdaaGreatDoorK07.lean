/-
  Part 7 of the road: a checked reading of bodies, and what the functions on it do (X25 X26 C5 PC15 C6 PC16 S6 S7 PC17 DM S8 S9 S10 VD VM VB V1 PV1 VE0 VE1 VE2 V3 PV3 O7 V5 PV5 V6 PV6 VBO DQ MQ LQ AQ NQ BQ OQ VQ1 PQ1 PR1 CQ TQ VQ2 PQ2 RQ PQ3 V4 PV4 V7 PV7 V8S V8 PV8 V9 PV9 VW1 PW1 VX1 PX1 VXL PXL LW).
-/
import Derived.Test.YtjmbjgjcdklgdaaGreatDoorK06
import Derived.Test.YtjmbjgjcdklgdaaGreatDoorRows
import Derived.WalkKit
import Derived.ProofKit
import Derived.OpenShut
import Derived.JoinedCond
import Derived.Carry
import Derived.ChangeArms
import Derived.Shelf.SlSortCmp.WholeK
import Derived.Test.YtjmbjgjcdklgdaaGreatDoorProg
import Derived.Test.YtjmbjgjcdklgdaaGreatDoorCards
import Derived.Test.YtjmbjgjcdklgdaaGreatDoorTie
import Derived.Deep.DeepHandedRow
import Derived.Lib.LaidTab
namespace Go.X
open U
open Go.RowKit (Below)
open Go.Proofs.YtjmbjgjcdklgdaaGreatDoor
def Hof (w:World):Imm:=fun b=>match w.heap[b]? with|some (.cells c _ _)=>some (.cells c)|_=>none
theorem YM (w:World) (d:jaj (Hof w)):eN (Hof w) w:=by
 refine⟨fun b c h=> ?_,d⟩;unfold Hof at h
 split at h
 rename_i f T a e;simp at h;subst h;exact⟨T,a,e⟩;cases h
def Ty.fits (N:Nat):(t:Ty)->t.Data->Prop
 | .int,x=>kH x
 | .bool,_=>True
 | .uint k,x=>k.min<=x/\x<=k.max
 | .slice t,l=>l.length<=N/\∀x∈l,t.fits N x
 | .unit,_=>True
 | .pair a b,d=>a.fits N d.1/\b.fits N d.2
 | .map k v,l=>l.length<=N/\∀x∈l,k.fits N x.1/\v.fits N x.2
 | .ptr t,d=>∀x,d=some x->t.fits N x
theorem Ty.fits_mono {N M:Nat} (h:N<=M):∀(t:Ty) (d:t.Data),t.fits N d->t.fits M d
 | .int,_,k=>k
 | .bool,_,k=>k
 | .uint _,_,k=>k
 | .unit,_,k=>k
 | .slice t,_,k=>⟨jE k.1 h,fun x c=>t.fits_mono h x (k.2 x c)⟩
 | .pair a b,_,k=>⟨a.fits_mono h _ k.1,b.fits_mono h _ k.2⟩
 | .map k v,_,q=>⟨jE q.1 h,fun x c=>⟨k.fits_mono h _ (q.2 x c).1,v.fits_mono h _ (q.2 x c).2⟩⟩
 | .ptr t,_,k=>fun x c=>t.fits_mono h x (k x c)
def jcX (P:Program) (go:Nat->Ty->Bool):List Field->Nat->Ty->Bool
 |[],_,.unit=>true
 |f::fs,off,.pair a b=>Nat.beq f.offset off&&Nat.beq (P.cellsOf f.type) a.size&&go f.type a&&jcX P go fs (off+a.size) b
 |_,_,_=>false
def jbw (P:Program):Nat->Nat->Ty->Bool
 |0,_,_=>false
 |d+1,T,ty=>match ty,P.underlying T with
  | .int,some (.int .i64)=>true
  | .bool,some .bool=>true
  | .uint k,some (.int k')=>fB k k'
  | .slice t,some (.slice e)=>Nat.beq (P.cellsOf e) t.size&&Nat.ble 1 t.size&&jbw P d e t
  | .pair a b,some (.struct fs)=>Nat.beq (P.cellsOf T) (Ty.pair a b).size&&jcX P (jbw P d) fs.toList 0 (.pair a b)
  |_,_=>false
section
variable {P:Program} {K:Type} {enc:TypeId×Value->K} {w:World}
theorem jcY (d:DataW K):1<=Rows.uptoBulk d:=by
 cases d with
 |lit l=>cases l<;>simp[Rows.uptoBulk]
 |_=>simp[Rows.uptoBulk]
theorem KE (l:List (DataW K)):l.length<=Rows.uptoBulkAll l:=by
 induction l with
 |nil=>simp[Rows.uptoBulkAll]
 |cons x r a=>have:=jcY x;simp only[Rows.uptoBulkAll,j7];omega
theorem jbx {d:DataW K} {l:List (DataW K)} (h:d∈l):Rows.uptoBulk d<=Rows.uptoBulkAll l:=by
 induction l with
 |nil=>cases h
 |cons x r a=>
  simp only[Rows.uptoBulkAll];cases jj.1 h with
  |inl e=>subst e;omega
  |inr e=>have:=a e;omega
theorem V9 {α:Type} {Q:Nat->α->Prop}:∀(n:Nat),(∀i,i<n->∃y,Q i y)->∃l:List α,l.length=n/\∀i y,l[i]? =some y->Q i y
 |0,_=>⟨[],rfl,fun i y h=>by simp at h⟩
 |n+1,h=>by
  obtain⟨l,b,c⟩:=V9 n (fun i hi=>h i (by omega))
  obtain⟨y,d⟩:=h n (by omega)
  refine⟨l++[y],by simp[b],fun i z a=> ?_⟩
  by_cases hi:i<l.length
  rw[jB hi] at a;exact c i z a
  rw[jx (by omega)] at a
  have:i=n:=by
   by_cases e:i-l.length=0;omega;obtain⟨k,hk⟩:∃k,i-l.length=k+1:=⟨i-l.length-1,by omega⟩;rw[hk] at a;simp at a
  subst this;rw[<-b] at a;simp at a;subst a;exact d
def jcZ (P:Program) (w:World) (enc:TypeId×Value->K) (T:Nat) (ty:Ty):Prop:=
 ∀(a:Nat) (cs:List Value) (x:DataW K×List MemPlace),DataW.trod enc P w 0 (fun _=>true) true a T cs=some x->Rows.uptoBulk x.1<=1048576->
  ∃d:ty.Data,ty.rd (Hof w) (fun i=>cs[i]?) d/\cs.length=ty.size/\ty.fits (Rows.uptoBulk x.1) d
theorem jc0 {n:Int} (h:(Lit.int .i64 n).wf=true):kH n:=by
 simp[Lit.wf,IntKind.min,IntKind.max,IntKind.signed,IntKind.bits] at h;exact h
theorem u5 {go:Nat->Ty->Bool} (c:∀T ty,go T ty=true->jcZ P w enc T ty) {n:Nat} {cs:List Value}:
 ∀(fs:List Field) (off:Nat) (ty:Ty) (xs:List (DataW K×List MemPlace)),jcX P go fs off ty=true->xs.length=fs.length->
  (∀(i:Nat) (f:Field),fs[i]? =some f->DataW.trod enc P w 0 (fun _=>true) true n f.type ((cs.drop f.offset).take (P.cellsOf f.type))=xs[i]?)->Rows.uptoBulkAll (xs.map (·.1))<=1048576->
  ∃d:ty.Data,ty.rd (Hof w) (fun i=>cs[off+i]?) d/\ty.fits (Rows.uptoBulkAll (xs.map (·.1))) d
 |[],off,ty,xs,h,g,e,j=>by
  cases ty<;>simp[jcX] at h
  exact⟨(),trivial,trivial⟩
 |f::fs,off,ty,[],h,g,e,j=>by simp at g
 |f::fs,off,ty,x::xs,h,g,e,j=>by
  cases ty<;>simp[jcX] at h
  rename_i a b
  obtain⟨⟨⟨q,v⟩,r⟩,s⟩:=h
  simp only[zx,Rows.uptoBulkAll] at j
  have k:=e 0 f (by simp)
  simp only[List.getElem?_cons_zero] at k
  obtain⟨d,t,y,u⟩:=c _ _ r _ _ _ k (by omega)
  obtain⟨l,o,p⟩:=u5 c fs (off+a.size) b xs s (by simpa using g) (fun i m hi=>by simpa using e (i+1) m (by simpa using hi)) (by omega)
  refine⟨(d,l),⟨?_,?_⟩,?_,?_⟩
  refine Ty.rd_congr a _ _ _ (fun i hi=> ?_) t
  rw[jS (by omega),zh,q]
  refine Ty.rd_congr b _ _ _ (fun i hi=> ?_) o
  rw[zL]
  exact a.fits_mono (by simp[Rows.uptoBulkAll]) _ u
  exact b.fits_mono (by simp[Rows.uptoBulkAll]) _ p
theorem pu:∀(d T:Nat) (ty:Ty),jbw P d T ty=true->jcZ P w enc T ty
 |0,_,_,h=>by cases h
 |d+1,T,ty,h=>by
  intro fuel cs x B r
  unfold jbw at h
  split at h
  rename_i u
  obtain⟨n,rfl,rfl,H⟩:=DataW.trod_int u B
  exact⟨n,rfl,rfl,jc0 H⟩
  rename_i u
  obtain⟨b,rfl,rfl⟩:=DataW.trod_bool u B
  exact⟨b,rfl,rfl,trivial⟩
  rename_i k k' u
  obtain⟨n,rfl,rfl,H⟩:=DataW.trod_int u B
  have:k=k':=by simpa[fB] using h
  subst this
  refine⟨n,rfl,rfl,?_⟩
  simp[Lit.wf] at H
  exact H
  rename_i t e u
  simp only[ji] at h
  obtain⟨⟨L,M⟩,h3⟩:=h
  have e1:=jb L
  have e2:=jz M
  rcases DataW.trod_slice u B with⟨rfl,rfl⟩|⟨a,len,J,bw,rest,n,_,rfl,rfl,hb,hl,hm,A,D,_,_⟩
  refine⟨[],⟨none,0,0,rfl,rfl,jk _,by simp,fun _=>rfl,fun h=>absurd rfl h⟩,rfl,by simp,fun x B=>by simp at B⟩
  simp only[Rows.uptoBulk] at r
  have key:∀i,i<len->∃y:t.Data,(∃blk,Hof w a.block=some (.cells blk)/\a.spot=none/\t.rd (Hof w) (fun j=>blk[a.off+i*t.size+j]?) y)/\t.fits (Rows.uptoBulkAll (bw.map (·.1))) y:=by
   intro i hi;have h0:=D i hi;have X:bw[i]? =some bw[i]:=jq (by omega);rw[X,Option.bind_eq_some_iff] at h0;obtain⟨cl,c1,c2⟩:=h0;have Q:Rows.uptoBulk bw[i].1<=Rows.uptoBulkAll (bw.map (·.1)):=jbx (jV.2 ⟨bw[i],List.getElem_mem _,rfl⟩);obtain⟨y,y1,y2,y3⟩:=pu d e t h3 _ _ _ c2 (by omega);unfold World.cells? at c1;rw[jh (ju _),e1] at c1;have z:∀j,j<t.size->w.cell? ((a.add (i*t.size)).add j)=cl[j]? :=fun j O=>by
    have:=mapM_some_get c1 j j (by simp[O]);simpa using this
   have N:cl.length=t.size:=(by simpa using mapM_some_length c1);have I:=z 0 (by omega);have g:cl[0]?≠none:=(by rw[jq (by omega)];simp);rw[<-I] at g;have m:∃blk T G,w.heap[a.block]? =some (.cells blk T G):=by
    unfold World.cell? at g;have q:((a.add (i*t.size)).add 0).block=a.block:=by unfold Addr.add;simp;split<;>rfl
    rw[q] at g
    split at g
    rename_i c T G e;exact⟨c,T,G,e⟩;exact absurd rfl g
   obtain⟨blk,T',G,m⟩:=m;have p:((a.add (i*t.size)).add 0).spot=none:=by
    unfold World.cell? at g;have q:((a.add (i*t.size)).add 0).block=a.block:=by unfold Addr.add;simp;split<;>rfl
    rw[q,m] at g;simp only at g;cases R:((a.add (i*t.size)).add 0).spot with
    |none=>rfl
    |some s=>rw[R] at g;simp at g
   have hH:Hof w a.block=some (.cells blk):=(by unfold Hof;rw[m]);refine⟨y,⟨blk,hH,?_,?_⟩,t.fits_mono Q _ y3⟩
   --the first element shows that the address is plain
   have C:=D 0 (by omega);have W:bw[0]? =some bw[0]:=jq (by omega);rw[W,Option.bind_eq_some_iff] at C;obtain⟨K,F,_⟩:=C;unfold World.cells? at F;rw[jh (ju _),e1] at F;have v:=mapM_some_get F 0 0 (by rw[List.getElem?_range (by omega)]);have hl0:K.length=t.size:=(by simpa using mapM_some_length F);rw[jq (by omega)] at v;simp only[Nat.zero_mul] at v;have ea:(a.add 0).add 0=a:=(by unfold Addr.add;simp);rw[ea] at v;unfold World.cell? at v;rw[m] at v;simp only at v;cases R:a.spot with
   |none=>rfl
   |some s=>rw[R] at v;simp at v
   refine Ty.rd_congr t _ _ _ (fun j O=> ?_) y1;rw[<-z j O];unfold World.cell?;have q:((a.add (i*t.size)).add j).block=a.block:=by unfold Addr.add;split<;>split<;>rfl
   have E:((a.add (i*t.size)).add j).off=a.off+i*t.size+j:=by
    unfold Addr.add;split<;>split<;>simp_all
   have V:((a.add (i*t.size)).add j).spot=none:=by
    have S:(a.add (i*t.size)).spot=none:=by
     have:(a.add (i*t.size)).add 0=a.add (i*t.size):=(by simp[Addr.add]);rw[this] at p;exact p
    unfold Addr.add at S⊢
    split<;>split<;>simp_all
   rw[q,m,E,V];simp
  obtain⟨l,l1,l2⟩:=V9 len key;refine⟨l,⟨some a,len,J,rfl,l1.symm,hl,?_,(fun h=>by cases h),fun g=> ?_⟩,rfl,?_,?_⟩;have:=KE (bw.map (·.1));simp at this;omega;have hz:0<l.length:=List.length_pos_iff.2 g;obtain⟨blk,q1,q2,_⟩:=(l2 0 l[0] (jq hz)).1;refine⟨a.block,a.off,blk,?_,q1,fun i y Z=> ?_⟩;rcases a with⟨b,o,s⟩;simp only at q2;subst q2;rfl;obtain⟨blk',q3,_,q4⟩:=(l2 i y Z).1;rw[q1] at q3;simp at q3;subst q3;exact q4;simp only[Rows.uptoBulk];have:=KE (bw.map (·.1));simp at this;omega;intro y Z;obtain⟨i,hi⟩:=zV Z;exact t.fits_mono (by simp only[Rows.uptoBulk];omega) _ (l2 i y hi).2;rename_i a b fs u;simp only[ji] at h;obtain⟨L,M⟩:=h;obtain⟨xs,n,_,rfl,A,Y,hf⟩:=DataW.trod_struct u B;simp only[Rows.uptoBulk] at r;obtain⟨y,y1,y2⟩:=u5 (fun T ty h=>pu d T ty h) (n:=n) (cs:=cs) fs.toList 0 (.pair a b) xs M (by simpa using Y) (fun i f hi=>hf i f (by simpa using hi)) (by omega);refine⟨y,by simpa using y1,by rw[A];exact jb L,?_⟩;exact Ty.fits_mono (by simp only[Rows.uptoBulk];omega) (.pair a b) _ y2;cases h
end
end Go.X
namespace Go.X
open U
open Go.RowKit (Below)
open Go.ChangeShapes Go.WideShapes Go.ChangeAt Go.RowKit
open Go.Proofs.YtjmbjgjcdklgdaaGreatDoor
def Hz (N:Nat):(ts:List Ty)->PD (ts.map Par.val)->Prop
 |[],_=>True
 |t::ts,d=>t.fits N d.1/\Hz N ts d.2
def Wa (ts:List Ty):we:=⟨ts.map Par.val,[.bool],false,fun d=>[Hz 1048576 ts d],fun _=>(true,())⟩
def u6 (P:Program):List Nat->List Ty->Bool
 |[],[]=>true
 |T::Ts,t::ts=>jbw P 20 T t&&(P.readableRec T&&decide (T<P.types.size))&&u6 P Ts ts
 |_,_=>false
section
variable {P:Program} {K:Type} {enc:TypeId×Value->K} {W W':World}
theorem sx (j:laidOutB P=true) (i:Below W.heap.size W W'):∀(a:List Nat) (ts:List Ty) (vs:List Value) (ds:List (DataW K)) (ps:List MemPlace),u6 P a ts=true->
 DataW.TrodAll enc P W 0 (fun _=>true) true a vs ds ps->(∀x∈ps,x.block<W.heap.size)->DataW.TrodAll enc P W' 0 (fun b=>decide (b<W.heap.size)) true a vs ds ps
 |[],ts,vs,ds,ps,_,h,_=>by
  obtain⟨rfl,rfl,rfl⟩:=trodAll_nil h
  exact trodAll_mk0
 |T::a,[],vs,ds,ps,c,_,_=>by cases c
 |T::a,t::ts,vs,ds,ps,c,h,hlt=>by
  obtain⟨v,g,d,e,p,q,rfl,rfl,rfl,n,o⟩:=trodAll_cons h
  simp only[u6,ji] at c
  obtain⟨⟨_,k,l⟩,m⟩:=c
  exact trodAll_cons_mk (Below.trod j k (ja l) n i (fun x f=>hlt x (jg _ f)))
   (sx j i a ts g e q m o (fun x f=>hlt x (je _ f)))
theorem jby {T:Nat} {t:Ty} {r:Reach} {c:Nat} {v:Value} (h:jbw P 20 T t=true) (b:Value.okWide P W r c T v):vo v=t.agg:=by
 unfold jbw at h
 split at h
 rename_i a;obtain⟨n,rfl⟩:=okWide_int a b;rfl;rename_i a;obtain⟨n,rfl⟩:=okWide_bool a b;rfl;rename_i a;obtain⟨n,rfl⟩:=okWide_int a b;rfl;rename_i a;unfold Value.okWide at b;rw[a] at b;simp only[Cell.okWide,a] at b;cases v with
 |agg vs=>simp[Cell.ok,a] at b
 |_=>rfl
 rename_i a;unfold Value.okWide at b;rw[a] at b;obtain⟨cs,rfl,_⟩:=b;rfl;cases h
theorem ZU {r:Reach} {l:Nat}:∀(a:List Nat) (ts:List Ty) (vs:List Value) (ds:List (DataW K)) (ps:List MemPlace),u6 P a ts=true->
 DataW.TrodAll enc P W 0 (fun _=>true) true a vs ds ps->(∀(j:Nat) t v,a[j]? =some t->vs[j]? =some v->Value.okWide P W r l t v)->Rows.uptoBulkAll ds<=1048576->
 ∃d:PD (ts.map Par.val),pvs P (Hof W) (ts.map Par.val) vs d/\Hz 1048576 ts d
 |[],ts,vs,ds,ps,b,h,_,_=>by
  obtain⟨rfl,rfl,rfl⟩:=trodAll_nil h
  cases ts with
  |nil=>exact⟨(),rfl,trivial⟩
  |cons t ts=>cases b
 |T::a,[],vs,ds,ps,b,_,_,_=>by cases b
 |T::a,t::ts,vs,ds,ps,b,h,hv,hb=>by
  obtain⟨v,g,d,e,p,q,rfl,rfl,rfl,n,o⟩:=trodAll_cons h
  simp only[u6,ji] at b
  obtain⟨⟨k,_⟩,m⟩:=b
  simp only[Rows.uptoBulkAll] at hb
  obtain⟨c,s⟩:=n
  obtain⟨x,w,z,A⟩:=pu 20 T t k c _ _ s (by simp only;omega)
  obtain⟨y,B,C⟩:=ZU a ts g e q m o (fun j t v u f=>hv (j+1) t v (by simpa using u) (by simpa using f)) (by omega)
  refine⟨(x,y),⟨⟨jby k (hv 0 T v rfl rfl),by simpa using z,?_⟩,B⟩,Ty.fits_mono (by simp only;omega) t x A,C⟩
  refine Ty.rd_congr t _ _ _ (fun i _=> ?_) w
  simp
theorem pv:∀(a:List Nat) (ts:List Ty) (vs:List Value) (ds:List (DataW K)) (ps:List MemPlace),u6 P a ts=true->DataW.TrodAll enc P W 0 (fun _=>true) true a vs ds ps->ds.length=ts.length:=by
 intro a
 induction a with
 |nil=>intro ts vs ds ps b h;obtain⟨rfl,rfl,rfl⟩:=trodAll_nil h;cases ts with|nil=>rfl|cons=>cases b
 |cons T a g=>intro ts vs ds ps b h;cases ts with
  |nil=>cases b
  |cons t ts=>
   obtain⟨v,e,d,c,p,q,rfl,rfl,rfl,i,f⟩:=trodAll_cons h;simp only[u6,ji] at b;simp[g ts e c q b.2 f]
theorem ZV {f:Nat} {fn:Func} {s:ChangeSpec} {ts:List Ty} (I:laidOutB P=true) (k:u6 P fn.params.toList ts=true) (L:fn.resultTypes= #[4]) (D:P.underlying 4=some .bool)
 (a:s.vars=[]) (m:∀(ds:List (DataW K)),ds.length=ts.length->s.fn K (ds++[])={results:=[.lit (.bool true)],args:=ds})
 (G:wn P f (Wa ts)) (base:Nat) (args:Array Value) (ds o:List (DataW K)) (before:List MemPlace)
 (l:∀(j:Nat) t v,fn.params[j]? =some t->args[j]? =some v->Value.okWide P W .any base t v)
 (w:DataW.Whole enc P fn.params.toList s.vars false W args.toList ds o before) (hk:Rows.uptoSmall K (ds++o)=true) (E:jaj (Hof W)):
 Calls P f args W fun e W'=>∃v,e= .returned v/\s.post enc P fn false true false false W args v W':=by
 have b:=w;obtain⟨p,q,i,u,rfl,H,J⟩:=w;rw[a] at u;obtain⟨rfl,rfl⟩:=trodVars_none u;simp only[j8] at b hk;have c:Rows.uptoBulkAll ds<=1048576:=ja hk;have g:∀(j:Nat) t v,fn.params.toList[j]? =some t->args.toList[j]? =some v->Value.okWide P W .any base t v:=fun j t v B C=>l j t v (by simpa using B) (by simpa using C)
 obtain⟨d,z,A⟩:=ZU fn.params.toList ts args.toList ds p k i g c;have y:=G.calls (Hof W) W args.toList d (YM W E) z ⟨A,trivial⟩;simp only[Array.toArray_toList] at y;refine y.mono fun e W' F=> ?_
 obtain⟨v,H',rfl,r,M⟩:=F;have n:v= .bool true:=qq M;subst n;refine⟨_,rfl,ds,[],p,[],p,[],b,?_,?_,?_,r.below.frame _,fun h=>by cases h⟩;rw[m ds ?_,L];exact trodAll_cons_mk (shut_bool D _) trodAll_mk0;exact pv _ _ _ _ _ k i;rw[m ds ?_];exact sx I r.below _ ts _ _ _ k i (fun x N=>by simpa using b.lt x N);exact pv _ _ _ _ _ k i;rw[a,m ds ?_];rfl;exact pv _ _ _ _ _ k i
end
end Go.X
namespace Go.X
open U
open Go.Proofs
namespace U
def jec (p:PeD):Prop:=(lv p).length<=20/\(qo p).length<=30
def Ig (c:CrD):Prop:=(kz c).length<=20/\(vZ c).length<=20/\∀p∈kz c,jec p
def DD (d:DyD):Prop:=Ig (kD d)/\(wt d).length<=20/\(kE d).length<=20/\(wu d).length<=60/\∀r∈wt d,r.length<=20
def Ll (p:PeD):Bool:=decide (20<((lv p).length:Int))||decide (30<((qo p).length:Int))
def iT (c:CrD):Bool:=(decide (20<((kz c).length:Int))||decide (20<((vZ c).length:Int)))||((kz c).any Ll||(kG c&&decide (5<((kz c).length:Int))))
def Lm (r:List SpD):Bool:=decide (20<(r.length:Int))
def b8 (d:DyD):Bool:=(((iT (kD d)||decide (20<((wt d).length:Int)))||decide (20<((kE d).length:Int)))||decide (60<((wu d).length:Int)))||(wt d).any Lm
def Ih (d:DyD):Bool:=b8 d||(decide (ga d=0)&&decide (12<((wu d).length:Int)))
def jeq:CrD:=(3,[([5,4,0],3,15,[],false,50,()),([0,5,3],3,15,[],true,40,()),([4,0,4],1,3,[7],false,30,()),([3,3,3],255,1,[],false,10,())],[(2,1,false,()),(4,2,false,()),(3,2,true,()),(5,1,false,())],())
def Xk:List JbD:=[(0,2,7,1,2,1,()),(0,2,3,0,0,1,()),(0,2,7,1,1,1,())]
def jer:DyD:=(jeq,[[(0,0,()),(10,20,())],[(10,25,()),(0,0,())]],[((0,2,3,0,0,1,()),0,60,120,()),((0,2,3,1,0,1,()),1,150,200,()),((0,2,7,1,2,1,()),0,230,300,())],10,140,
 [(1,5,1,0,3,()),(2,6,1,1,3,()),(3,4,1,2,2,()),(4,7,1,2,0,()),(5,8,1,2,1,()),(6,9,1,0,2,()),(7,10,2,0,2,())],())
end U
def Sd:we:=⟨[.val tCr],[tCr],false,fun d=>[Ig d.1],fun d=>(d.1,())⟩
def Se:Ann:=fun r=>match r with
 |3=>some fun σ=>{X:=Nat,sl:=fun i=>[(4,.dat .int (i:Int))],ob:=fun i=>[(3,some (.box 25 false ((bx σ 3).set 1 (.own (eV 3 1) tPe)))),(eV 3 1,some (.row 138 tPe false .yes ((kz (gb tCr σ 1)).take i)))],inv:=fun i=>i<=(kz (gb tCr σ 1)).length,mu:=fun i=>(kz (gb tCr σ 1)).length-i}
 |_=>none
abbrev jff (d:CrD×Unit)(x:Nat):=(nth d.1.2.1 (x:Int).toNat)
def Sf:Prop:=∀(d:CrD×Unit),Ig d.1->(0+d.1.2.2.1.length)*24<=140737488355328/\(∃(x:Nat),((0=(x:Int)/\True)/\(d.1.1=d.1.1/\True/\True/\True)/\List.take x (kz d.1)=[]/\True)/\x<=(kz d.1).length)/\∀(x:Nat),x<=(kz d.1).length->d.1.2.1.length<4611686018427387904->(decide ((x:Int)<d.1.2.1.length)=true->0<=(x:Int)/\(x:Int)<d.1.2.1.length/\(0+(jff d x).1.length)*8<=140737488355328/\(0+(jff d x).2.2.2.1.length)*8<=140737488355328/\((List.take x (kz d.1)).length+[([]++(jff d x).1,(jff d x).2.1,(jff d x).2.2.1,[]++(jff d x).2.2.2.1,(jff d x).q4)].length)*80<=140737488355328/\kH ((x:Int)+1)/\∃(a:Nat),(((x:Int)+1=(a:Int)/\True)/\(d.1.1=d.1.1/\True/\True/\True)/\List.take x (kz d.1)++[([]++(jff d x).1,(jff d x).2.1,(jff d x).2.2.1,[]++(jff d x).2.2.2.1,(jff d x).q4)]=List.take a (kz d.1)/\True)/\a<=(kz d.1).length/\(kz d.1).length-a<(kz d.1).length-x)/\(decide ((x:Int)<d.1.2.1.length)=false->((d.1.1,List.take x (kz d.1),[]++d.1.2.2.1,()),())=d)
def Sg:we:=⟨[.val tDy],[tDy],false,fun d=>[DD d.1],fun d=>(d.1,())⟩
def Si:Ann:=fun r=>match r with
 |5=>some fun σ=>{X:=Nat,sl:=fun i=>[(4,.dat .int (i:Int))],ob:=fun i=>[(3,some (.box 30 false ((bx σ 3).set 3 (.own (eV 3 3) (.slice tSp))))),(eV 3 3,some (.row 109 (.slice tSp) false .yes ((wt (gb tDy σ 1)).take i)))],inv:=fun i=>i<=(wt (gb tDy σ 1)).length,mu:=fun i=>(wt (gb tDy σ 1)).length-i}
 |_=>none
abbrev jiV (d:DyD×Unit):=(d.1.1.1=d.1.1.1/\d.1.1.2.1=d.1.1.2.1/\d.1.1.2.2.1=d.1.1.2.2.1/\True/\d.1.2.2.1=d.1.2.2.1/\d.1.2.2.2.1=d.1.2.2.2.1/\d.1.q4.1=d.1.q4.1/\d.1.q4.2.1=d.1.q4.2.1/\True)
def Sj:Prop:=∀(d:DyD×Unit),DD d.1->Ig d.1.1/\(∃(x:Nat),((0=(x:Int)/\True)/\(jiV d)/\List.take x (wt d.1)=[]/\True)/\x<=(wt d.1).length)/\∀(x:Nat),x<=(wt d.1).length->d.1.2.1.length<4611686018427387904->(decide ((x:Int)<d.1.2.1.length)=true->0<=(x:Int)/\(x:Int)<d.1.2.1.length/\(0+(nth d.1.2.1 (x:Int).toNat).length)*16<=140737488355328/\((List.take x (wt d.1)).length+[[]++nth d.1.2.1 (x:Int).toNat].length)*24<=140737488355328/\kH ((x:Int)+1)/\∃(a:Nat),(((x:Int)+1=(a:Int)/\True)/\(jiV d)/\List.take x (wt d.1)++[[]++nth d.1.2.1 (x:Int).toNat]=List.take a (wt d.1)/\True)/\a<=(wt d.1).length/\(wt d.1).length-a<(wt d.1).length-x)/\(decide ((x:Int)<d.1.2.1.length)=false->(0+d.1.2.2.1.length)*72<=140737488355328/\(0+d.1.q4.2.1.length)*40<=140737488355328/\((d.1.1,List.take x (wt d.1),[]++d.1.2.2.1,d.1.2.2.2.1,d.1.q4.1,[]++d.1.q4.2.1,()),())=d)
def Wb:we:=⟨[.val tCr],[.bool],false,fun _=>[],fun d=>(iT d.1,())⟩
def Wc:Ann:=fun r=>match r with
 |4=>some fun σ=>{X:=Nat,sl:=fun i=>[(3,.dat .int (i:Int))],ob:=fun _=>[],inv:=fun i=>i<=(kz (gb tCr σ 1)).length/\∀j:Nat,j<i->Ll (nth (kz (gb tCr σ 1)) j)=false,mu:=fun i=>(kz (gb tCr σ 1)).length-i}
 |_=>none
abbrev jhu (d:CrD×Unit)(x:Nat):=((20:Int)<(nth d.1.2.1 (x:Int).toNat).1.length)
abbrev jga (d:CrD×Unit):=(d.1.2.1.length:Int)
abbrev jiW (d:CrD×Unit)(x:Nat):=(decide (jhu d x)||decide ((30:Int)<(nth d.1.2.1 (x:Int).toNat).2.2.2.1.length))
abbrev jiX (d:CrD×Unit):=(decide (20<(jga d))||decide (20<(d.1.2.2.1.length:Int)))
def Wd:Prop:=∀(d:CrD×Unit),d.1.2.1.length<4611686018427387904->((!decide (20<(jga d)))=true->d.1.2.2.1.length<4611686018427387904)->((jiX d)=true->(true,())=(iT d.1,()))/\((jiX d)=false->(∃(x:Nat),((0=(x:Int)/\True)/\True)/\x<=(kz d.1).length/\∀(j:Nat),j<x->Ll (nth (kz d.1) j)=false)/\∀(x:Nat),(x<=(kz d.1).length/\∀(j:Nat),j<x->Ll (nth (kz d.1) j)=false)->d.1.2.1.length<4611686018427387904->(decide ((x:Int)<(jga d))=true->0<=(x:Int)/\(x:Int)<(jga d)/\((nth d.1.2.1 (x:Int).toNat).1.length<4611686018427387904->((!decide (jhu d x))=true->0<=(x:Int))/\((!decide (jhu d x))=true->(x:Int)<(jga d))/\(((!decide (jhu d x))=true->(nth d.1.2.1 (x:Int).toNat).2.2.2.1.length<4611686018427387904)->((jiW d x)=true->(true,())=(iT d.1,()))/\((jiW d x)=false->kH ((x:Int)+1)/\∃(a:Nat),(((x:Int)+1=(a:Int)/\True)/\True)/\(a<=(kz d.1).length/\∀(j:Nat),j<a->Ll (nth (kz d.1) j)=false)/\(kz d.1).length-a<(kz d.1).length-x))))/\(decide ((x:Int)<(jga d))=false->(kG d.1=true->d.1.2.1.length<4611686018427387904)->(kG d.1&&decide (5<(jga d)),())=(iT d.1,())))
def Sk:we:=⟨[.val tDy],[.bool],false,fun _=>[],fun d=>(b8 d.1,())⟩
def Sl:Ann:=fun r=>match r with
 |4=>some fun σ=>{X:=Nat,sl:=fun i=>[(3,.dat .int (i:Int))],ob:=fun _=>[],inv:=fun i=>i<=(wt (gb tDy σ 1)).length/\∀j:Nat,j<i->Lm (nth (wt (gb tDy σ 1)) j)=false,mu:=fun i=>(wt (gb tDy σ 1)).length-i}
 |_=>none
abbrev jgw (d:DyD×Unit):=(d.1.2.1.length:Int)
abbrev jiY (d:DyD×Unit):=(iT d.1.1||decide (20<(jgw d))||decide (20<(d.1.2.2.1.length:Int))||decide (60<(d.1.q4.2.1.length:Int)))
def Sm:Prop:=∀(d:DyD×Unit),((!iT d.1.1)=true->d.1.2.1.length<4611686018427387904)->((!(iT d.1.1||decide (20<(jgw d))))=true->d.1.2.2.1.length<4611686018427387904)->((!(iT d.1.1||decide (20<(jgw d))||decide (20<(d.1.2.2.1.length:Int))))=true->d.1.q4.2.1.length<4611686018427387904)->((jiY d)=true->(true,())=(b8 d.1,()))/\((jiY d)=false->(∃(x:Nat),((0=(x:Int)/\True)/\True)/\x<=(wt d.1).length/\∀(j:Nat),j<x->Lm (nth (wt d.1) j)=false)/\∀(x:Nat),(x<=(wt d.1).length/\∀(j:Nat),j<x->Lm (nth (wt d.1) j)=false)->d.1.2.1.length<4611686018427387904->(decide ((x:Int)<(jgw d))=true->0<=(x:Int)/\(x:Int)<(jgw d)/\((nth d.1.2.1 (x:Int).toNat).length<4611686018427387904->(decide ((20:Int)<(nth d.1.2.1 (x:Int).toNat).length)=true->(true,())=(b8 d.1,()))/\(decide ((20:Int)<(nth d.1.2.1 (x:Int).toNat).length)=false->kH ((x:Int)+1)/\∃(a:Nat),(((x:Int)+1=(a:Int)/\True)/\True)/\(a<=(wt d.1).length/\∀(j:Nat),j<a->Lm (nth (wt d.1) j)=false)/\(wt d.1).length-a<(wt d.1).length-x)))/\(decide ((x:Int)<(jgw d))=false->(false,())=(b8 d.1,())))
def We:we:=⟨[.val tDy],[.bool],false,fun _=>[],fun d=>(Ih d.1,())⟩
def Wf:Prop:=∀(d:DyD×Unit),((!b8 d.1)=true->(kE d.1).length<=1000000)/\(((!b8 d.1&&decide (ga d.1=0))=true->d.1.q4.2.1.length<4611686018427387904)->(b8 d.1||decide (ga d.1=0)&&decide (12<(d.1.q4.2.1.length:Int)),())=(Ih d.1,()))
def Sn:we:=⟨[.val .int,.val .int],[tSp],false,fun _=>[],fun d=>((d.1,d.2.1,()),())⟩
def So:Prop:=∀(d:Int×Int×Unit),(d,())=(d,())
def HA:we:=⟨[],[tCr,.slice tJb],false,fun _=>[],fun _=>(jeq,Xk,())⟩
def HB:Prop:=∀(_:Unit),(((3:Int),[([(5:Int),(4:Int),(0:Int)],(3:Int),(15:Int),[],false,(50:Int),()),([(0:Int),(5:Int),(3:Int)],(3:Int),(15:Int),[],true,(40:Int),()),([(4:Int),(0:Int),(4:Int)],(1:Int),(3:Int),[(7:Int)],false,(30:Int),()),([(3:Int),(3:Int),(3:Int)],(255:Int),(1:Int),[],false,(10:Int),())],[((2:Int),(1:Int),false,()),((4:Int),(2:Int),false,()),((3:Int),(2:Int),true,()),((5:Int),(1:Int),false,())],()),[((0:Int),(2:Int),(7:Int),(1:Int),(2:Int),(1:Int),()),((0:Int),(2:Int),(3:Int),(0:Int),(0:Int),(1:Int),()),((0:Int),(2:Int),(7:Int),(1:Int),(1:Int),(1:Int),())],())=(jeq,Xk,())
def HC:we:=⟨[],[tDy],false,fun _=>[],fun _=>(jer,())⟩
abbrev jhv:=(nth Xk (Int.toNat 1))
def HD:Prop:=∀(_:Unit),(0:Int)<=1/\1<(Xk.length:Int)/\(0:Int)<=1/\1<(Xk.length:Int)/\(0:Int)<=0/\0<(Xk.length:Int)/\((jeq,[[((0:Int),(0:Int),()),((10:Int),(20:Int),())],[((10:Int),(25:Int),()),((0:Int),(0:Int),())]],[(nth Xk (Int.toNat 1),(0:Int),(60:Int),(120:Int),()),((jhv.1,jhv.2.1,jhv.2.2.1,(1:Int),jhv.q4),(1:Int),(150:Int),(200:Int),()),(nth Xk (Int.toNat 0),(0:Int),(230:Int),(300:Int),())],(10:Int),(140:Int),[((1:Int),(5:Int),(1:Int),(0:Int),(3:Int),()),((2:Int),(6:Int),(1:Int),(1:Int),(3:Int),()),((3:Int),(4:Int),(1:Int),(2:Int),(2:Int),()),((4:Int),(7:Int),(1:Int),(2:Int),(0:Int),()),((5:Int),(8:Int),(1:Int),(2:Int),(1:Int),()),((6:Int),(9:Int),(1:Int),(0:Int),(2:Int),()),((7:Int),(10:Int),(2:Int),(0:Int),(2:Int),())],()),())=(jer,())
theorem Wg:Sf:=by
 unfold Sf jff Prod.q4;rintro⟨c,⟨⟩⟩ g;obtain⟨m,j,a⟩:Ig c:=g;refine⟨by show(0+(vZ c).length)*24<=140737488355328;omega,⟨0,⟨⟨rfl,tZ⟩,⟨rfl,tZ,tZ,tZ⟩,rfl,tZ⟩,ju _⟩,fun x f _=>⟨fun h=> ?_,fun h=> ?_⟩⟩;have h:(x:Int)<(kz c).length:=ja h;have k:=L.wd (l:=kz c) (i:=x) (by omega);obtain⟨s1,s2⟩:=a _ (L.kB (l:=kz c) (i:=x) (by omega));have d:((kz c).take x).length<=20:=(by rw[jY];omega);refine⟨jW _,h,by show(0+(U.lv (nth (kz c) x)).length)*8<=140737488355328;omega,by show(0+(qo (nth (kz c) x)).length)*8<=140737488355328;omega,by show(((kz c).take x).length+1)*80<=140737488355328;omega,iZ6,x+1,⟨⟨by simp,tZ⟩,⟨rfl,tZ,tZ,tZ⟩,k.symm,tZ⟩,by show x+1<=(kz c).length;omega,by show(kz c).length-(x+1)<(kz c).length-x;omega⟩;have h:¬(x:Int)<(kz c).length:=jc h;have f:x<=(kz c).length:=f;have b:x=(kz c).length:=(by omega);subst b;have e:(kz c).take (kz c).length=kz c:=zw;show((c.1,(kz c).take (kz c).length,c.2.2.1,()),())=(c,());rw[e];rfl
theorem Sp:wn PR 53 Sd:=qG Se Wg Tryz.func53 kcN koN
theorem Wh:Sj:=by
 unfold Sj jiV Prod.q4;rintro⟨d,⟨⟩⟩ g;obtain⟨k,o,j,n,a⟩:DD d:=g;refine⟨k,⟨0,⟨⟨rfl,tZ⟩,⟨rfl,rfl,rfl,tZ,rfl,rfl,rfl,rfl,tZ⟩,rfl,tZ⟩,ju _⟩,fun x f _=>⟨fun h=> ?_,fun h=> ?_⟩⟩;have h:(x:Int)<(wt d).length:=ja h;have m:=L.wd (l:=wt d) (i:=x) (by omega);have p:=a _ (L.kB (l:=wt d) (i:=x) (by omega));have c:((wt d).take x).length<=20:=(by rw[jY];omega);refine⟨jW _,h,by show(0+(nth (wt d) x).length)*16<=140737488355328;omega,by show(((wt d).take x).length+1)*24<=140737488355328;omega,iZ6,x+1,⟨⟨by simp,tZ⟩,⟨rfl,rfl,rfl,tZ,rfl,rfl,rfl,rfl,tZ⟩,m.symm,tZ⟩,by show x+1<=(wt d).length;omega,by show(wt d).length-(x+1)<(wt d).length-x;omega⟩;have h:¬(x:Int)<(wt d).length:=jc h;have f:x<=(wt d).length:=f;have b:x=(wt d).length:=(by omega);subst b;have e:(wt d).take (wt d).length=wt d:=zw;refine⟨by show(0+(kE d).length)*72<=140737488355328;omega,by show(0+(wu d).length)*40<=140737488355328;omega,?_⟩;show((kD d,(wt d).take (wt d).length,kE d,Ao d,Zh d,wu d,()),())=(d,());rw[e];rfl
theorem Sq:wn PR 30 Sg:=qG Si Wh Tryz.func30 (kcC Sp kcN) koN
theorem YN:Wd:=by
 unfold Wd jiX jiW jga jhu;rintro⟨c,⟨⟩⟩ _ _;refine⟨fun h=> ?_,fun h=>⟨⟨0,⟨⟨rfl,tZ⟩,tZ⟩,ju _,fun j g=>by omega⟩,fun x f d=>⟨fun a=>⟨jW _,ja a,fun _=>⟨fun _=>jW _,fun _=>ja a,fun _=>⟨fun b=> ?_,fun b=> ?_⟩⟩⟩,fun a _=> ?_⟩⟩⟩;have h:(decide (20<((kz c).length:Int))||decide (20<((vZ c).length:Int)))=true:=h;show(true,())=(iT c,());unfold iT;rw[h];rfl;have b:Ll (nth (kz c) x)=true:=b;have a:(x:Int)<(kz c).length:=ja a;have:(kz c).any Ll=true:=j9.2 ⟨_,L.kB (l:=kz c) (i:=x) (by omega),b⟩;show(true,())=(iT c,());unfold iT;rw[this,Bool.true_or,Bool.or_true];have b:Ll (nth (kz c) x)=false:=b;have a:(x:Int)<(kz c).length:=ja a;have d:(kz c).length<4611686018427387904:=d;refine⟨iZ6,x+1,⟨⟨by simp,tZ⟩,tZ⟩,⟨by show x+1<=(kz c).length;omega,fun j g=> ?_⟩,by show(kz c).length-(x+1)<(kz c).length-x;omega⟩;by_cases e:j=x;subst e;exact b;exact f.2 j (by omega);have h:(decide (20<((kz c).length:Int))||decide (20<((vZ c).length:Int)))=false:=h;have a:¬(x:Int)<(kz c).length:=jc a;have:(kz c).any Ll=false:=ze.2 fun p k=>by
  obtain⟨i,hi,rfl⟩:=L.mem_iff.1 k;rw[f.2 i (by omega)];simp
 show(kG c&&decide (5<((kz c).length:Int)),())=(iT c,());unfold iT;rw[h,this,Bool.false_or,Bool.false_or]
theorem Wi:wn PR 114 Wb:=qG Wc YN Tryz.func114 (kcC uZ kcN) koN
theorem Wj:Sm:=by
 unfold Sm jiY jgw Prod.q4;rintro⟨d,⟨⟩⟩ _ _ _;refine⟨fun h=> ?_,fun h=>⟨⟨0,⟨⟨rfl,tZ⟩,tZ⟩,ju _,fun j g=>by omega⟩,fun x f c=>⟨fun a=>⟨jW _,ja a,fun _=>⟨fun b=> ?_,fun b=> ?_⟩⟩,fun a=> ?_⟩⟩⟩;have h:(((iT (kD d)||decide (20<((wt d).length:Int)))||decide (20<((kE d).length:Int)))||decide (60<((wu d).length:Int)))=true:=h;show(true,())=(b8 d,());unfold b8;rw[h];rfl;have b:Lm (nth (wt d) x)=true:=b;have a:(x:Int)<(wt d).length:=ja a;have:(wt d).any Lm=true:=j9.2 ⟨_,L.kB (l:=wt d) (i:=x) (by omega),b⟩;show(true,())=(b8 d,());unfold b8;rw[this,Bool.or_true];have b:Lm (nth (wt d) x)=false:=b;have a:(x:Int)<(wt d).length:=ja a;have c:(wt d).length<4611686018427387904:=c;refine⟨iZ6,x+1,⟨⟨by simp,tZ⟩,tZ⟩,⟨by show x+1<=(wt d).length;omega,fun j g=> ?_⟩,by show(wt d).length-(x+1)<(wt d).length-x;omega⟩;by_cases e:j=x;subst e;exact b;exact f.2 j (by omega);have h:(((iT (kD d)||decide (20<((wt d).length:Int)))||decide (20<((kE d).length:Int)))||decide (60<((wu d).length:Int)))=false:=h;have a:¬(x:Int)<(wt d).length:=jc a;have:(wt d).any Lm=false:=ze.2 fun p k=>by
  obtain⟨i,hi,rfl⟩:=L.mem_iff.1 k;rw[f.2 i (by omega)];simp
 show(false,())=(b8 d,());unfold b8;rw[h,this];rfl
theorem Sr:wn PR 78 Sk:=qG Sl Wj Tryz.func78 (kcC Wi kcN) koN
theorem Wk {c:CrD} (h:iT c=false):Ig c:=by
 unfold iT at h;rw[jN,jN,jN,jF] at h;have b:=jc h.1.2;refine⟨by have:=h.1.1;omega,by omega,fun p a=> ?_⟩;have:=ze.1 h.2.1 p a;unfold Ll at this;rw[zr,decide_eq_true_iff,decide_eq_true_iff] at this;unfold jec;omega
theorem FX {d:DyD} (h:b8 d=false):DD d:=by
 unfold b8 at h;rw[jN,jN,jN,jN] at h;obtain⟨⟨⟨⟨e,a⟩,b⟩,c⟩,f⟩:=h;have a:=jc a;have b:=jc b;have c:=jc c;refine⟨Wk e,by omega,by omega,by omega,fun r g=> ?_⟩;have:=ze.1 f r g;unfold Lm at this;rw[decide_eq_true_iff] at this;omega
theorem YO:Wf:=by
 unfold Wf Prod.q4;rintro⟨d,⟨⟩⟩;refine⟨fun h=> ?_,fun _=>rfl⟩;have h:(!b8 d)=true:=h;rw[jO] at h;have:=(FX h).2.2.1;show(kE d).length<=1000000;omega
theorem Wl:wn PR 51 We:=kY YO Tryz.func51 (kcC Sr (kcC pq kcN)) koN
theorem Wm:So:=fun _=>rfl
theorem Ss:wn PR 80 Sn:=kY Wm Tryz.func80 kcN koN
theorem KF:HB:=fun _=>rfl
theorem HE:wn PR 79 HA:=kY KF Tryz.func79 kcN koN
theorem KG:HD:=by
 unfold HD jhv Prod.q4;intro _;refine⟨by decide,by decide,by decide,by decide,by decide,by decide,rfl⟩
theorem HF:wn PR 52 HC:=kY KG Tryz.func52 (kcC HE (kcC Ss kcN)) koN
theorem YP {d:DyD} (h:Ih d=false):DD d:=by
 unfold Ih at h;rw[jN] at h;exact FX h.1
end Go.X
namespace Go.X
open U
open Go.Proofs
section
attribute [local irreducible] nY vL U.on AM Tq
end
section
attribute [local irreducible] AM Tq
end
section
attribute [local irreducible] ga AM
end
end Go.X

namespace Go.X
open U
section
attribute [local irreducible] nY EV vL
end
section
attribute [local irreducible] nY EV vL
end
end Go.X
namespace Go.X
open U
open Go.Proofs
end Go.X




namespace Go.X
open U
abbrev tNo:Ty:= .st [.int,.int]
abbrev tTa:Ty:= .st [.int,.int,.int,.int,.int,.int,.int,.int,.slice .int,.slice tNo]
abbrev tCa:Ty:= .st [.int,.int,.int]
abbrev tLg:Ty:= .st [tDy,.slice .int,.slice .int,tTa,.slice tCa]
abbrev tLn:Ty:= .st [.int,.int,.int,.int,.int,.int]
abbrev tBl:Ty:= .st [tBk,tTa,.int,.int,.slice .int,.int,.int,.bool,.int]
abbrev tBo:Ty:= .st [tLg,.map .int (.ptr tBl)]
abbrev NoD:Type:=Int×Int×Unit
abbrev TaD:Type:=Int×Int×Int×Int×Int×Int×Int×Int×List Int×List NoD×Unit
abbrev CaD:Type:=Int×Int×Int×Unit
abbrev LgD:Type:=DyD×List Int×List Int×TaD×List CaD×Unit
abbrev LnD:Type:=Int×Int×Int×Int×Int×Int×Unit
abbrev BlD:Type:=BkD×TaD×Int×Int×List Int×Int×Int×Bool×Int×Unit
abbrev XbD:Type:=Int×Int×Int×Int×Int×Int×Int×Int×Int×Int×Int×Int×Int×Int×Int×Int×Int×List Int×List (Int×Int×Unit)×Int×Int×List Int×Int×Int×Bool×Int×Unit
abbrev BoD:Type:=LgD×List (Int×Option BlD)×Unit
namespace U
def Xl (n:NoD):Int:=n.1
def Z2 (n:NoD):Int:=n.2.1
def Xm (t:TaD):Int:=t.1
def jdk (t:TaD):Int:=t.2.1
def jdl (t:TaD):Int:=t.2.2.1
def Xn (t:TaD):Int:=t.2.2.2.1
def Z3 (t:TaD):Int:=t.2.2.2.2.1
def Xo (t:TaD):Int:=t.2.2.2.2.2.1
def jcg (t:TaD):Int:=t.2.2.2.2.2.2.1
def W7 (t:TaD):Int:=t.2.2.2.2.2.2.2.1
def dp (t:TaD):List Int:=t.2.2.2.2.2.2.2.2.1
def eJ (t:TaD):List NoD:=t.2.2.2.2.2.2.2.2.2.1
def Ii (c:CaD):Int:=c.1
def LC (c:CaD):Int:=c.2.1
def OQ (c:CaD):Int:=c.2.2.1
def kL (l:LgD):DyD:=l.1
def aL (l:LgD):List Int:=l.2.1
def DE (l:LgD):List Int:=l.2.2.1
def nZ (l:LgD):TaD:=l.2.2.2.1
def wi (l:LgD):List CaD:=l.2.2.2.2.1
def Aq (l:LnD):Int:=l.1
def Iq (l:LnD):Int:=l.2.1
def Tr (l:LnD):Int:=l.2.2.2.2.2.1
def qt (b:BlD):BkD:=b.1
def yX (b:BlD):TaD:=b.2.1
def Ql (b:BlD):Int:=b.2.2.1
def Qm (b:BlD):Int:=b.2.2.2.1
def qX (b:BlD):List Int:=b.2.2.2.2.1
def pG (b:BlD):Int:=b.2.2.2.2.2.1
def EW (b:BlD):Int:=b.2.2.2.2.2.2.1
def sW (b:BlD):Bool:=b.2.2.2.2.2.2.2.1
def pH (b:BlD):Int:=b.2.2.2.2.2.2.2.2.1
def b9 (o:BoD):LgD:=o.1
def OR (o:BoD):List (Int×Option BlD):=o.2.1
def share (n:Int):Bool:=kl n 0 100
def Ij (last:Int) (n:NoD):Bool:=kl (Xl n) 0 (last-1)&&share (Z2 n)
def xa:Int->List NoD->Bool
 |_,[]=>true
 |last,n::r=>Ij last n&&xa (Xl n) r
def vD (t:TaD):Bool:=(kl (Xm t) 1 240&&kl (jdk t) 0 10000&&kl (jdl t) 0 20&&kl (Xn t) 0 1440&&kl (Z3 t) 0 (Xn t)&&share (Xo t)&&kl (jcg t) 0 10000)&&
 (decide ((dp t).length=4)&&(dp t).all share&&kl (W7 t) 0 1000000&&decide ((eJ t).length<=4)&&xa 100001 (eJ t))
def iU (n:Nat) (c:CaD):Bool:=(kl (Ii c) 0 99&&kl (LC c) 0 ((n:Int)-1))&&kl (OQ c) (-100000) 1440
def Ln (n:Int):Bool:=kl n 0 20
def xb (n:Int):Bool:=kl n 0 300
def aQ (l:LgD):Bool:=((decide ((aL l).length=(kE (kL l)).length)&&(aL l).all Ln)&&(decide ((DE l).length=(kE (kL l)).length)&&(DE l).all xb))&&
 (vD (nZ l)&&(decide ((wi l).length<=10)&&(wi l).all (iU (kE (kL l)).length)))
def gD (l:List CaD) (i:Nat):Bool:=(l.take i).any (fun x=>decide (Ii x=Ii (nth l i))&& !decide (x=nth l i))
def mj (l:List CaD) (n:Nat):Bool:=(List.range n).any (gD l)
def yx (l:List CaD):Bool:=mj l l.length
def wC (l:LgD):Int:=if wx (kL l)≠0 then wx (kL l) else if aQ l=false then 70 else if yx (wi l)=true then 71 else 0
def up (a b:Int):Int:=(a+b-1).tdiv b
def yl (m:Int) (b:BlD):BlD:=if m<=wP (qt b)/\(sW b=false\/m<pH b) then(qt b,yX b,Ql b,Qm b,qX b,pG b,EW b,true,m,()) else b
def yO (b:BlD):Int:=max 0 (cj (qt b)-max (wP (qt b)) (Xn (yX b)))+max 0 (min (cj (qt b)) (Z3 (yX b))-wP (qt b))
def ml (b:BlD):Int:=(qX b).length*jdk (yX b)*max (jdl (yX b)) (up (cj (qt b)-wP (qt b)) (Xm (yX b)))
def aW (b:BlD):Int:=ml b+up (ml b*Xo (yX b)*yO b) (100*(cj (qt b)-wP (qt b)))
def ca (a:Int) (b:BlD):Int:=(qX b).length*jcg (yX b)*a
def chargeB (a:Int) (b:BlD):BlD:=(qt b,yX b,Ql b,Qm b,qX b,aW b,ca a b,sW b,pH b,())
def eK (b:BlD) (n:NoD):Bool:=decide (Xl n<=wP (qt b)-pH b)
def Td (b:BlD):Int:=yz (eK b) (eJ (yX b))
def vE (b:BlD):Int:=if sW b=true/\0<=Td b then up (pG b*Z2 (nth (eJ (yX b)) (Td b).toNat)) 100 else pG b
def ym (b:BlD):Int:=if sW b=true then 0 else EW b
def Qn (b:BlD):Int:=min (W7 (yX b)) (((vE b+ym b)*nth (dp (yX b)) (l8 (y7 (qt b))).toNat).tdiv 100)
def qB (b:BlD):LnD:=(Qm b,Ql b,vE b,ym b,Qn b,vE b+ym b-Qn b,())
def qf (m:Int) (b:BlD):Int:=Tr (qB (yl m b))
def EX (b:BlD):Prop:=vD (yX b)=true/\0<=wP (qt b)/\wP (qt b)<cj (qt b)/\cj (qt b)<=1440/\0<=l8 (y7 (qt b))/\l8 (y7 (qt b))<=3/\(qX b).length<=8/\-100000<=pH b/\pH b<=1440
def pD (b:BlD):Prop:=EX b/\0<=pG b/\pG b<=100000000000000/\0<=EW b/\EW b<=1000000000
def Lo (t:Int) (n:Nat):List Int:=((List.range n).filter (fun(p:Nat)=>wy t (p:Int))).map (fun(p:Nat)=>(p:Int))
def sR (l:LgD) (n:Int) (tm:List Int):BlD:=(nth (kE (kL l)) n.toNat,nZ l,n,nth (aL l) n.toNat,tm,0,0,false,0,())
def wY (l:LgD) (n:Int) (k:Nat):List Int:=Lo (nth (eI (kL l)) n.toNat) k
def aX (l:LgD) (n:Int):BlD:=chargeB (nth (DE l) n.toNat) (sR l n (wY l n (kz (kD (kL l))).length))
def gE (n:Int) (b:BlD) (c:CaD):BlD:=if LC c=n then yl (OQ c) b else b
def kF (l:LgD) (n:Int) (k:Nat):BlD:=((wi l).take k).foldl (gE n) (aX l n)
def kP (l:LgD) (n:Int):BlD:=kF l n (wi l).length
def jb0 (l:LgD) (m:List (Int×Option BlD)) (n:Int):List (Int×Option BlD):=eQ .int n (some (kP l n)) m
def Ar (l:LgD) (k:Nat):List (Int×Option BlD):=((km (kL l)).take k).foldl (jb0 l) []
def LD (l:LgD):List (Int×Option BlD):=Ar l (km (kL l)).length
def zDy:DyD:=((0,[],[],()),[],[],0,0,[],())
def zTa:TaD:=(0,0,0,0,0,0,0,0,[],[],())
def zLg:LgD:=(zDy,[],[],zTa,[],())
def jed:BoD:=(zLg,[],())
def wV (l:LgD) (wv:Bool):Int:=if wC l≠0 then wC l else if wv=true then 0 else 1
def wD (l:LgD) (wv:Bool):BoD:=if wV l wv=0 then(l,LD l,()) else jed
def qd (o:BoD) (n:Int):Bool:=kl n 0 (((kE (kL (b9 o))).length:Int)-1)
def vg (m:List (Int×Option BlD)):List LnD:=m.map (fun e=>match e.2 with|some b=>qB b|none=>default)
def ux (a b:LnD):Int:=yj [ck (Aq a) (Aq b),ck (Iq a) (Iq b)]
def kZ (o:BoD):List LnD:=kr (ku tLn fun x=>(ux x.1 x.2.1,())) (vg (OR o))
def gJ (l:List Int):Int:=l.foldl max (nth l 0)
def Zj (t:List Int) (x:LnD):List Int:=t.set (Aq x).toNat (nth t (Aq x).toNat+Tr x)
def gM (n:Nat) (l:List LnD) (k:Nat):List Int:=(l.take k).foldl Zj (List.replicate n 0)
def Te (o:BoD):List Int:=if(aL (b9 o)).length=0 then[] else gM (gJ (aL (b9 o))+1).toNat (kZ o) (kZ o).length
def Ik (a:Int) (tm:List Int) (out:List Int) (i:Nat):List Int:=out.set (nth tm i).toNat (nth out (nth tm i).toNat+a.tdiv tm.length+(if(i:Int)<a.tmod tm.length then 1 else 0))
def wB (a:Int) (tm out:List Int) (k:Nat):List Int:=(List.range k).foldl (Ik a tm) out
def Zk (a:Int) (b:BlD) (out:List Int):List Int:=wB a (qX b) out (qX b).length
def jb1 (n:Nat):Option BlD->List Int
 |some b=>Zk (ym b) b (Zk (vE b) b (List.replicate n 0))
 |none=>List.replicate n 0
def OS (o:BoD) (n:Int):Option BlD:=wa none (kO .int n (OR o))
def Tf (o:BoD) (n:Int):List Int:=jb1 (kz (kD (kL (b9 o)))).length (OS o n)
end U
theorem YQ {a b A B:Int} (d:0<=a/\a<=A) (c:0<=b/\b<=B):0<=a*b/\a*b<=A*B:=
 ⟨Int.mul_nonneg d.1 c.1,Int.mul_le_mul d.2 c.2 c.1 (by omega)⟩
theorem C6 {x B:Int} (h:0<=x/\x<=B) (a:B<=9223372036854775807):kH x:=iZ6
theorem jdV {a b:Int} (c:0<=a) (d:0<b):U.up a b=(a+b-1)/b:=Int.tdiv_eq_ediv_of_nonneg (by omega)
theorem Wn {a b:Int} (e:0<=a) (c:0<b):0<=U.up a b/\U.up a b<=a:=by
 rw[jdV e c];refine⟨Int.ediv_nonneg (by omega) (by omega),?_⟩;by_cases h:a=0;subst h;rw[Int.ediv_eq_zero_of_lt (by omega) (by omega)];omega;have g:0<=(a-1)*(b-1):=Int.mul_nonneg (by omega) (by omega);have d:a+b-1<(a+1)*b:=by
  have f:(a+1)*b=a*b+b:=(by rw[Int.add_mul];omega);have e2:(a-1)*(b-1)=a*b-a-b+1:=(by rw[Int.sub_mul,Int.mul_sub];omega);omega
 have:=Int.ediv_lt_of_lt_mul c d;omega
theorem YR {a b A:Int} (c:0<=a/\a<=A) (f:0<b):0<=a.tdiv b/\a.tdiv b<=A:=by
 rw[Int.tdiv_eq_ediv_of_nonneg c.1];have d:=Int.ediv_nonneg c.1 (show 0<=b by omega);have e:=Int.ediv_le_self b c.1;exact⟨d,by omega⟩
theorem wO {n a b:Int}:kl n a b=true↔a<=n/\n<=b:=by
 unfold kl;simp only[ji,jm]
structure jdW (t:TaD):Prop where
 un:1<=Xm t/\Xm t<=240
 rt:0<=jdk t/\jdk t<=10000
 le:0<=jdl t/\jdl t<=20
 dk:0<=Xn t/\Xn t<=1440
 dw:0<=Z3 t/\Z3 t<=Xn t
 ni:0<=Xo t/\Xo t<=100
 mi:0<=jcg t/\jcg t<=10000
 sl:(dp t).length=4
 sb:∀n∈dp t,0<=n/\n<=100
 cp:0<=W7 t/\W7 t<=1000000
 nl:(eJ t).length<=4
 no:xa 100001 (eJ t)=true
theorem P2 {t:TaD}:vD t=true↔jdW t:=by
 unfold vD U.share;simp only[ji,wO,jm,jT];constructor;rintro⟨⟨⟨⟨⟨⟨⟨d,e⟩,f⟩,g⟩,h⟩,i⟩,j⟩,⟨⟨⟨k,l⟩,a⟩,b⟩,c⟩;exact⟨d,e,f,g,h,i,j,k,l,a,b,c⟩;rintro⟨d,e,f,g,h,i,j,k,l,a,b,c⟩;exact⟨⟨⟨⟨⟨⟨⟨d,e⟩,f⟩,g⟩,h⟩,i⟩,j⟩,⟨⟨⟨k,l⟩,a⟩,b⟩,c⟩
theorem HG:∀{last:Int} {l:List NoD},xa last l=true->∀n∈l,(0<=Xl n/\Xl n<=last-1)/\0<=Z2 n/\Z2 n<=100
 |_,[],_,n,a=>by cases a
 |last,m::r,h,n,a=>by
  unfold xa Ij U.share at h
  simp only[ji,wO] at h
  obtain⟨⟨b,c⟩,d⟩:=h
  rcases jj.1 a with rfl|a
  exact⟨b,c⟩
  have:=HG d n a
  exact⟨⟨this.1.1,by omega⟩,this.2⟩
structure C7 (b:BlD):Prop where
 ta:jdW (yX b)
 st:0<=wP (qt b)
 en:wP (qt b)<cj (qt b)
 e2:cj (qt b)<=1440
 kd:0<=l8 (y7 (qt b))/\l8 (y7 (qt b))<=3
 tm:(qX b).length<=8
 mi: -100000<=pH b/\pH b<=1440
theorem sy {b:BlD}:EX b↔C7 b:=by
 unfold EX;rw[P2];exact⟨fun⟨a,c,d,e,f,g,h,i,j⟩=>⟨a,c,d,e,⟨f,g⟩,h,⟨i,j⟩⟩,fun⟨a,c,d,e,⟨f,g⟩,h,⟨i,j⟩⟩=>⟨a,c,d,e,f,g,h,i,j⟩⟩
theorem P3 {b:BlD} (h:C7 b):0<=yO b/\yO b<=2880:=by
 have:=h.st;have:=h.en;have:=h.e2;have:=h.ta.dk;have:=h.ta.dw;unfold yO;omega
theorem jc1 {b:BlD} (h:C7 b):0<=U.up (cj (qt b)-wP (qt b)) (Xm (yX b))/\U.up (cj (qt b)-wP (qt b)) (Xm (yX b))<=1440:=by
 have:=h.st;have:=h.en;have:=h.e2;have:=h.ta.un;have:=Wn (a:=cj (qt b)-wP (qt b)) (b:=Xm (yX b)) (by omega) (by omega);omega
theorem jc2 {b:BlD} (h:C7 b):0<=((qX b).length:Int)*jdk (yX b)/\((qX b).length:Int)*jdk (yX b)<=80000:=
 YQ (A:=8) (B:=10000) (by have:=h.tm;omega) h.ta.rt
theorem N4 {b:BlD} (h:C7 b):0<=ml b/\ml b<=115200000:=by
 have c:=jc1 h;have d:=h.ta.le;have a:0<=max (jdl (yX b)) (U.up (cj (qt b)-wP (qt b)) (Xm (yX b)))/\max (jdl (yX b)) (U.up (cj (qt b)-wP (qt b)) (Xm (yX b)))<=1440:=(by omega);exact YQ (jc2 h) a
theorem jc3 {b:BlD} (h:C7 b):0<=ml b*Xo (yX b)/\ml b*Xo (yX b)<=11520000000:=YQ (N4 h) h.ta.ni
theorem ZW {b:BlD} (h:C7 b):0<=ml b*Xo (yX b)*yO b/\ml b*Xo (yX b)*yO b<=33177600000000:=YQ (jc3 h) (P3 h)
theorem jc4 {b:BlD} (h:C7 b):0<100*(cj (qt b)-wP (qt b))/\100*(cj (qt b)-wP (qt b))<=144000:=by
 have:=h.st;have:=h.en;have:=h.e2;omega
theorem jc5 {b:BlD} (h:C7 b):0<=U.up (ml b*Xo (yX b)*yO b) (100*(cj (qt b)-wP (qt b)))/\U.up (ml b*Xo (yX b)*yO b) (100*(cj (qt b)-wP (qt b)))<=33177600000000:=by
 have a:=ZW h;have:=Wn a.1 (jc4 h).1;omega
theorem Wo {b:BlD} (h:C7 b):0<=aW b/\aW b<=100000000000000:=by
 have a:=N4 h;have c:=jc5 h;unfold aW;omega
theorem jc6 {b:BlD} (h:C7 b):0<=((qX b).length:Int)*jcg (yX b)/\((qX b).length:Int)*jcg (yX b)<=80000:=
 YQ (A:=8) (B:=10000) (by have:=h.tm;omega) h.ta.mi
theorem Wp {b:BlD} {t:Int} (h:C7 b) (a:0<=t/\t<=300):0<=ca t b/\ca t b<=24000000:=YQ (jc6 h) a
theorem KH {α:Type} [Inhabited α] {p:α->Bool} {l:List α} (h:0<=yz p l):(yz p l).toNat<l.length/\yz p l<(l.length:Int)/\p (nth l (yz p l).toNat)=true:=by
 unfold yz at h⊢;cases e:l.findIdx? p with
 |none=>rw[e] at h;exact absurd h (by decide)
 |some i=>
  obtain⟨a,b,_⟩:=z8.1 e;simp only[jw];refine⟨a,by omega,?_⟩;rw[L.wW a];exact b
structure KI (b:BlD):Prop where
 bl:C7 b
 wk:0<=pG b/\pG b<=100000000000000
 tr:0<=EW b/\EW b<=1000000000
theorem bh {b:BlD}:pD b↔KI b:=by
 unfold pD;rw[sy];exact⟨fun⟨a,c,d,e,f⟩=>⟨a,⟨c,d⟩,⟨e,f⟩⟩,fun⟨a,⟨c,d⟩,⟨e,f⟩⟩=>⟨a,c,d,e,f⟩⟩
theorem P4 {b:BlD} (h:KI b) {i:Nat} (hi:i<(eJ (yX b)).length):0<=pG b*Z2 (nth (eJ (yX b)) i)/\pG b*Z2 (nth (eJ (yX b)) i)<=10000000000000000:=
 YQ h.wk (HG h.bl.ta.no _ (L.kB hi)).2
theorem P5 {b:BlD} (h:KI b):0<=vE b/\vE b<=10000000000000000:=by
 unfold vE
 split
 rename_i c;have a:=P4 h (KH c.2).1;have:=Wn (b:=100) a.1 (by omega);have e:U.up (pG b*Z2 (nth (eJ (yX b)) (Td b).toNat)) 100<=pG b*Z2 (nth (eJ (yX b)) (Td b).toNat):=this.2;exact⟨this.1,Int.le_trans e a.2⟩;have:=h.wk;omega
theorem P6 {b:BlD} (h:KI b):0<=ym b/\ym b<=1000000000:=by
 unfold ym;have:=h.tr
 split<;>omega
theorem Wq {b:BlD} (h:C7 b):(l8 (y7 (qt b))).toNat<(dp (yX b)).length:=by
 have:=h.kd;have:=h.ta.sl;omega
theorem ZX {b:BlD} (h:C7 b):0<=nth (dp (yX b)) (l8 (y7 (qt b))).toNat/\nth (dp (yX b)) (l8 (y7 (qt b))).toNat<=100:=h.ta.sb _ (L.kB (Wq h))
theorem N5 {w t cp pc k:Int} {n:Nat} {R:Prop} (i:0<=w/\w<=10000000000000000) (h:0<=t/\t<=1000000000) (g:0<=cp/\cp<=1000000) (e:0<=pc/\pc<=100) (hk:0<=k) (d:k<(n:Int)) (c:R):
 kH (w+t)/\0<=k/\k<(n:Int)/\kH ((w+t)*pc)/\(100:Int)≠0/\kH (((w+t)*pc).tdiv 100)/\kH (w+t)/\kH (w+t-min cp (((w+t)*pc).tdiv 100))/\R:=by
 have a:0<=(w+t)*pc/\(w+t)*pc<=10000001000000000*100:=YQ (by omega) e;have f:=YR (b:=100) a (by omega);exact⟨iZ6,hk,d,iZ6,by decide,iZ6,iZ6,iZ6,c⟩
theorem YT {b:BlD} {m:Int} (h:C7 b) (a: -100000<=m/\m<=1440):C7 (yl m b):=by
 unfold yl
 split
 exact⟨h.ta,h.st,h.en,h.e2,h.kd,h.tm,a⟩;exact h
theorem HH {b:BlD} {m:Int} (h:KI b) (a: -100000<=m/\m<=1440):KI (yl m b):=by
 refine⟨YT h.bl a,?_,?_⟩;unfold yl
 split
 exact h.wk;exact h.wk;unfold yl
 split
 exact h.tr;exact h.tr
theorem P7 {β:Type} (k:Int) (v:β):∀m:List (Int×β),k∉m.map (·.1)->eQ .int k v m=m++[(k,v)]
 |[],_=>rfl
 |e::r,h=>by
  have a:k≠e.1:=fun e2=>h (by rw[e2];simp)
  have b:k∉r.map (·.1):=fun d=>h (by simp only[zx];exact jp _ d)
  rw[M.mput_cons (kt:= .int),jd (fun c=>a (ja c)),P7 k v r b];rfl
theorem N6 (d:DyD) (n:Nat):(gC d n).Nodup:=by
 unfold gC;exact zX.2 ((List.nodup_range.filter _).imp fun h e=>h (by omega))
theorem mQ (d:DyD):(km d).Nodup:=by
 unfold km
 split
 exact N6 d _;exact List.nodup_nil
theorem HI {d:DyD} {n:Int} (h:n∈km d):0<=n/\n<((kE d).length:Int):=by
 unfold km at h
 split at h
 unfold gC at h;obtain⟨b,a,rfl⟩:=jV.1 h;have:=jA.1 (jR.1 a).1;omega;cases h
theorem KJ {l:LgD} {k:Nat} (h:k<(km (kL l)).length):Ar l (k+1)=jb0 l (Ar l k) (nth (km (kL l)) k):=by
 unfold Ar;rw[L.wd h,jU];rfl
theorem Wr (l:LgD):∀k,k<=(km (kL l)).length->Ar l k=((km (kL l)).take k).map (fun n=>(n,some (kP l n)))
 |0,_=>rfl
 |k+1,hk=>by
  have a:k<(km (kL l)).length:=by omega
  have d:=L.wd a
  have b:((km (kL l)).take (k+1)).Nodup:=(mQ _).sublist (List.take_sublist _ _)
  rw[d,zH] at b
  rw[KJ a,Wr l k (by omega),d,zz]
  unfold jb0
  refine P7 _ _ _ fun c=> ?_
  rw[List.map_map] at c
  obtain⟨x,f,e⟩:=jV.1 c
  have e:x=nth (km (kL l)) k:=e
  exact b.2.2 x f _ (by simp) e
theorem C8 (l:LgD):LD l=(km (kL l)).map (fun n=>(n,some (kP l n))):=by
 unfold LD;rw[Wr l _ (jk _),zw]
structure DK (l:LgD):Prop where
 cp:wx (kL l)=0
 crw:kG (kD (kL l))=true
 jbs:Ib (kL l)=true
 dy:wR (kL l)=true
 py:(aL l).length=(kE (kL l)).length/\∀n∈aL l,0<=n/\n<=20
 tr:(DE l).length=(kE (kL l)).length/\∀n∈DE l,0<=n/\n<=300
 ta:jdW (nZ l)
 cl:(wi l).length<=10/\∀c∈wi l,(0<=Ii c/\Ii c<=99)/\(0<=LC c/\LC c<=((kE (kL l)).length:Int)-1)/\-100000<=OQ c/\OQ c<=1440
 cc:yx (wi l)=false
theorem Su {d:DyD} (h:wx d=0):kG (kD d)=true/\Ib d=true/\wR d=true:=by
 unfold wx at h
 split at h
 rename_i a;exact absurd h a;rename_i a
 split at h
 cases h;rename_i b;have a:uv d=0:=jP.1 a;unfold uv at a
 split at a
 cases a;rename_i c
 split at a
 cases a;rename_i e;exact⟨by simpa using c,by simpa using e,by simpa using b⟩
theorem de {l:LgD} (h:wC l=0):DK l:=by
 unfold wC at h
 split at h
 rename_i a;exact absurd h a;rename_i a;have a:wx (kL l)=0:=jP.1 a
 split at h
 cases h;rename_i b
 split at h
 cases h;rename_i d;have b:aQ l=true:=(by simpa using b);have d:yx (wi l)=false:=(by simpa using d);obtain⟨p,q,r⟩:=Su a;unfold aQ at b;simp only[ji,jm,jT] at b;obtain⟨⟨⟨f,g⟩,i,j⟩,k,m,o⟩:=b;refine⟨a,p,q,r,⟨f,fun n e=>wO.1 (g n e)⟩,⟨i,fun n e=>wO.1 (j n e)⟩,P2.1 k,⟨m,fun c s=> ?_⟩,d⟩;have:=o c s;unfold iU at this;simp only[ji,wO] at this;exact⟨this.1.1,this.1.2,this.2⟩
theorem l3 {l:LgD} (h:DK l) {n:Int} (e:0<=n/\n<((kE (kL l)).length:Int)):
 (0<=wP (nth (kE (kL l)) n.toNat)/\wP (nth (kE (kL l)) n.toNat)<cj (nth (kE (kL l)) n.toNat)/\cj (nth (kE (kL l)) n.toNat)<=1440)/\
 0<=l8 (y7 (nth (kE (kL l)) n.toNat))/\l8 (y7 (nth (kE (kL l)) n.toNat))<=3:=by
 have d:nth (kE (kL l)) n.toNat∈kE (kL l):=L.kB (by omega);have c:=h.dy;unfold wR at c;simp only[ji,jT] at c;have b:=c.2.2.1 _ d;unfold l9 at b;have b:=ja b;have a:=h.jbs;unfold Ib at a;have a:=jT.1 a _ d;unfold ww at a;have a:=ja a;exact⟨⟨b.2.2.1,b.2.2.2.1,b.2.2.2.2⟩,a.2.2.2.2.2.2.2.2.2.1,a.2.2.2.2.2.2.2.2.2.2.1⟩
theorem P8 {l:LgD} (h:DK l) {n:Int} (e:0<=n/\n<((kE (kL l)).length:Int)) {tm:List Int} (f:tm.length<=8):C7 (sR l n tm):=by
 obtain⟨⟨a,b,c⟩,d⟩:=l3 h e;exact⟨h.ta,a,b,c,d,f,by show-100000<=(0:Int)/\(0:Int)<=1440;omega⟩
theorem C9 (t:Int) (n:Nat):(Lo t n).length<=n/\∀p∈Lo t n,0<=p/\p<(n:Int):=by
 unfold Lo;refine⟨?_,fun p c=> ?_⟩;rw[zp];exact jE (zG _ _) (by rw[zZ];exact jk _);obtain⟨b,a,rfl⟩:=jV.1 c;have:=jA.1 (jR.1 a).1;omega
theorem jdX {l:LgD} (h:DK l):(kz (kD (kL l))).length<=8:=by
 have a:=h.crw;unfold kG at a;rw[ji] at a;exact(ja a.1).2.2.1
theorem HJ {l:LgD} (h:DK l) {n:Int} (d:0<=n/\n<((kE (kL l)).length:Int)):KI (aX l n):=by
 have g:=jdX h;have f:=(C9 (nth (eI (kL l)) n.toNat) (kz (kD (kL l))).length).1;have a:C7 (sR l n (wY l n (kz (kD (kL l))).length)):=P8 h d (by unfold wY;omega);have e:=h.tr.2 _ (L.kB (show n.toNat<(DE l).length by rw[h.tr.1];omega));have c:=Wo a;have b:=Wp a e;exact⟨⟨a.ta,a.st,a.en,a.e2,a.kd,a.tm,a.mi⟩,c,⟨b.1,Int.le_trans b.2 (by decide)⟩⟩
theorem cN {l:LgD} {n:Int} {k:Nat} (h:k<(wi l).length):kF l n (k+1)=gE n (kF l n k) (nth (wi l) k):=by
 unfold kF;rw[L.wd h,jU];rfl
theorem FY {l:LgD} (h:DK l) {n:Int} (a:0<=n/\n<((kE (kL l)).length:Int)):∀k,k<=(wi l).length->KI (kF l n k)
 |0,_=>HJ h a
 |k+1,hk=>by
  rw[cN (by omega)]
  unfold gE
  have b:=FY h a k (by omega)
  split
  exact HH b (h.cl.2 _ (L.kB (show k<(wi l).length by omega))).2.2
  exact b
theorem Ws {l:LgD} (h:DK l) {n:Int} (a:0<=n/\n<((kE (kL l)).length:Int)):KI (kP l n):=FY h a _ (jk _)
theorem Sv (m:Int) (b:BlD):qt (yl m b)=qt b/\yX (yl m b)=yX b/\Ql (yl m b)=Ql b/\Qm (yl m b)=Qm b/\qX (yl m b)=qX b/\pG (yl m b)=pG b/\EW (yl m b)=EW b:=by
 unfold yl
 split
 exact⟨rfl,rfl,rfl,rfl,rfl,rfl,rfl⟩;exact⟨rfl,rfl,rfl,rfl,rfl,rfl,rfl⟩
theorem vd (l:LgD) (n:Int):∀k,k<=(wi l).length->qt (kF l n k)=qt (aX l n)/\yX (kF l n k)=yX (aX l n)/\Ql (kF l n k)=Ql (aX l n)/\Qm (kF l n k)=Qm (aX l n)/\qX (kF l n k)=qX (aX l n)/\
 pG (kF l n k)=pG (aX l n)/\EW (kF l n k)=EW (aX l n)
 |0,_=>⟨rfl,rfl,rfl,rfl,rfl,rfl,rfl⟩
 |k+1,hk=>by
  rw[cN (by omega)]
  unfold gE
  have a:=vd l n k (by omega)
  split
  obtain⟨c1,c2,b,c,d,e,f⟩:=Sv (OQ (nth (wi l) k)) (kF l n k)
  rw[c1,c2,b,c,d,e,f];exact a
  exact a
open Go.Proofs
abbrev blS:Sh:= .box 98 [.dat .int,.dat .int,.dat .int,.dat .int,.dat .int,.dat .int,.dat .int,.dat .int,.dat .int,.dat .int,.dat .int,.dat .int,.dat .int,.dat .int,.dat .int,.dat .int,.dat .int,.dat (.slice .int),.dat (.slice tNo),.dat .int,.dat .int,.dat (.slice .int),.dat .int,.dat .int,.dat .bool,.dat .int]
def blX (x:Sh.D blS) (w t:Int) (c:Bool) (m:Int):Sh.D blS:=(x.1,x.2.1,x.2.2.1,x.2.2.2.1,x.q4.1,x.q4.2.1,x.q4.2.2.1,x.q4.2.2.2.1,x.q4.q4.1,x.q4.q4.2.1,x.q4.q4.2.2.1,x.q4.q4.2.2.2.1,x.q4.q4.q4.1,x.q4.q4.q4.2.1,x.q4.q4.q4.2.2.1,x.q4.q4.q4.2.2.2.1,x.q4.q4.q4.q4.1,x.q4.q4.q4.q4.2.1,x.q4.q4.q4.q4.2.2.1,x.q4.q4.q4.q4.2.2.2.1,x.q4.q4.q4.q4.q4.1,x.q4.q4.q4.q4.q4.2.1,w,t,c,m,())
namespace U
def qC (x:Sh.D blS):BlD:=
 (((x.1,x.2.1,x.2.2.1,x.2.2.2.1,x.q4.1,x.q4.2.1,()),x.q4.2.2.1,x.q4.2.2.2.1,x.q4.q4.1,()),
  (x.q4.q4.2.1,x.q4.q4.2.2.1,x.q4.q4.2.2.2.1,x.q4.q4.q4.1,x.q4.q4.q4.2.1,x.q4.q4.q4.2.2.1,x.q4.q4.q4.2.2.2.1,x.q4.q4.q4.q4.1,x.q4.q4.q4.q4.2.1,x.q4.q4.q4.q4.2.2.1,()),
  x.q4.q4.q4.q4.2.2.2.1,x.q4.q4.q4.q4.q4.1,x.q4.q4.q4.q4.q4.2.1,x.q4.q4.q4.q4.q4.2.2.1,x.q4.q4.q4.q4.q4.2.2.2.1,x.q4.q4.q4.q4.q4.q4.1,x.q4.q4.q4.q4.q4.q4.2.1,())
def W8 (m:Int) (b:BlD):Bool:=sW (yl m b)
def W9 (m:Int) (b:BlD):Int:=pH (yl m b)
def Xa (m:Int) (c:CaD):Bool:=(kl (Ii c) 0 99&&kl (LC c) 0 (m-1))&&kl (OQ c) (-100000) 1440
end U
def gX:we:=⟨[.val .int,.val .int,.val .int],[.bool],false,fun _=>[],fun d=>(kl d.1 d.2.1 d.2.2.1,())⟩
def N7:Prop:=∀(d:CaD),(decide (d.2.1<=d.1)&&decide (d.1<=d.2.2.1),())=(kl d.1 d.2.1 d.2.2.1,())
def bu:we:=⟨[.val .int],[.bool],false,fun _=>[],fun d=>(U.share d.1,())⟩
def Sw:Prop:=∀(d:Int×Unit),(kl d.1 (0:Int) (100:Int),())=(U.share d.1,())
def iN:we:=⟨[.val (.slice tNo),.fn [tNo] [.bool]],[.int],false,fun d=>[∀g∈d.1,kK (d.2.1.pre (g,()))],fun d=>(yz (ko (α:=NoD) d.2.1.F) d.1,())⟩
def iO:Ann:=fun r=>match r with
 |2=>some fun σ=>{X:=Nat,sl:=fun i=>[(8,.dat .int (i:Int))],ob:=fun _=>[],inv:=fun i=>i<=(gd (.slice tNo) σ 0).length/\∀b:Nat,b<i->ko (gfb tNo σ 1) (nth (gd (.slice tNo) σ 0) b)=false,mu:=fun i=>(gd (.slice tNo) σ 0).length-i}
 |_=>none
def iP:Prop:=∀(d:List (Int×Int×Unit)×FnD [tNo] [Ty.bool]×Unit),(∀(g:Int×Int×Unit),g∈d.1->kK (d.2.1.1 (g,())))->d.1.length<4611686018427387904->(∃(x:Nat),((0=(x:Int)/\True)/\True)/\x<=d.1.length/\∀(b:Nat),b<x->ko d.2.1.2 (nth d.1 b)=false)/\∀(x:Nat),(x<=d.1.length/\∀(b:Nat),b<x->ko d.2.1.2 (nth d.1 b)=false)->(decide ((x:Int)<d.1.length)=true->0<=(x:Int)/\(x:Int)<d.1.length/\asks (d.2.1.1 (nth d.1 x,())) (((d.2.1.2 (nth d.1 x,())).1=true->((x:Int),())=(yz (ko d.2.1.2) d.1,()))/\((d.2.1.2 (nth d.1 x,())).1=false->kH ((x:Int)+1)/\∃(a:Nat),(((x:Int)+1=(a:Int)/\True)/\True)/\(a<=d.1.length/\∀(b:Nat),b<a->ko d.2.1.2 (nth d.1 b)=false)/\d.1.length-a<d.1.length-x)))/\(decide ((x:Int)<d.1.length)=false->((-1:Int),())=(yz (ko d.2.1.2) d.1,()))
def nx:we:=⟨[.val (.slice tCa),.fn [tCa] [.bool]],[.int],false,fun d=>[∀g∈d.1,kK (d.2.1.pre (g,()))],fun d=>(yz (ko (α:=CaD) d.2.1.F) d.1,())⟩
def ny:Ann:=fun r=>match r with
 |2=>some fun σ=>{X:=Nat,sl:=fun i=>[(8,.dat .int (i:Int))],ob:=fun _=>[],inv:=fun i=>i<=(gd (.slice tCa) σ 0).length/\∀b:Nat,b<i->ko (gfb tCa σ 1) (nth (gd (.slice tCa) σ 0) b)=false,mu:=fun i=>(gd (.slice tCa) σ 0).length-i}
 |_=>none
def nz:Prop:=∀(d:List CaD×FnD [tCa] [Ty.bool]×Unit),(∀(g:CaD),g∈d.1->kK (d.2.1.1 (g,())))->d.1.length<4611686018427387904->(∃(x:Nat),((0=(x:Int)/\True)/\True)/\x<=d.1.length/\∀(b:Nat),b<x->ko d.2.1.2 (nth d.1 b)=false)/\∀(x:Nat),(x<=d.1.length/\∀(b:Nat),b<x->ko d.2.1.2 (nth d.1 b)=false)->(decide ((x:Int)<d.1.length)=true->0<=(x:Int)/\(x:Int)<d.1.length/\asks (d.2.1.1 (nth d.1 x,())) (((d.2.1.2 (nth d.1 x,())).1=true->((x:Int),())=(yz (ko d.2.1.2) d.1,()))/\((d.2.1.2 (nth d.1 x,())).1=false->kH ((x:Int)+1)/\∃(a:Nat),(((x:Int)+1=(a:Int)/\True)/\True)/\(a<=d.1.length/\∀(b:Nat),b<a->ko d.2.1.2 (nth d.1 b)=false)/\d.1.length-a<d.1.length-x)))/\(decide ((x:Int)<d.1.length)=false->((-1:Int),())=(yz (ko d.2.1.2) d.1,()))
def fV:we:=⟨[.val (.slice tCa),.fn [tCa] [.bool]],[.bool],false,fun d=>[∀g∈d.1,kK (d.2.1.pre (g,()))],fun d=>(d.1.any (ko (α:=CaD) d.2.1.F),())⟩
def fW:Prop:=∀(d:List CaD×FnD [tCa] [Ty.bool]×Unit),(∀(g:CaD),g∈d.1->kK (d.2.1.1 (g,())))->(∀(g:CaD),g∈d.1->kK (d.2.1.1 (g,())))/\(decide (0<=yz (ko d.2.1.2) d.1),())=(d.1.any (ko d.2.1.2),())
def xT:we:=⟨[.val .int,.rfn [.int] [.bool]],[.bool],false,fun d=>[kK (d.2.1.pre (d.1,()))],fun d=>(!(ko (α:=Int) d.2.1.F d.1),())⟩
def xU:Prop:=∀(d:Int×FnD [Ty.int] [Ty.bool]×Unit),kK (d.2.1.1 (d.1,()))->asks (d.2.1.1 (d.1,())) ((!(d.2.1.2 (d.1,())).1,())=(!ko d.2.1.2 d.1,()))
def df:we:=⟨[.val (.slice .int),.fn [.int] [.bool]],[.bool],false,fun d=>[∀g∈d.1,kK (d.2.1.pre (g,()))],fun d=>(d.1.all (ko (α:=Int) d.2.1.F),())⟩
def Eu:Prop:=∀(d:List Int×FnD [Ty.int] [Ty.bool]×Unit),(∀(g:Int),g∈d.1->kK (d.2.1.1 (g,())))->(∀(g:Int),g∈d.1->kK [kK (d.2.1.1 (g,()))])/\(!d.1.any (ko fun(a:Int×Unit)=>(!ko d.2.1.2 a.1,())),())=(d.1.all (ko d.2.1.2),())
def ud:we:=⟨[.val tCa,.rfn [tCa] [.bool]],[.bool],false,fun d=>[kK (d.2.1.pre (d.1,()))],fun d=>(!(ko (α:=CaD) d.2.1.F d.1),())⟩
def ue:Prop:=∀(d:CaD×FnD [tCa] [Ty.bool]×Unit),kK (d.2.1.1 (d.1,()))->asks (d.2.1.1 (d.1,())) ((!(d.2.1.2 (d.1,())).1,())=(!ko d.2.1.2 d.1,()))
def Da:we:=⟨[.val (.slice tCa),.fn [tCa] [.bool]],[.bool],false,fun d=>[∀g∈d.1,kK (d.2.1.pre (g,()))],fun d=>(d.1.all (ko (α:=CaD) d.2.1.F),())⟩
def Db:Prop:=∀(d:List CaD×FnD [tCa] [Ty.bool]×Unit),(∀(g:CaD),g∈d.1->kK (d.2.1.1 (g,())))->(∀(g:CaD),g∈d.1->kK [kK (d.2.1.1 (g,()))])/\(!d.1.any (ko fun(a:CaD×Unit)=>(!ko d.2.1.2 a.1,())),())=(d.1.all (ko d.2.1.2),())
def KK:we:=⟨[.val tCa,.ref .int],[.bool],false,fun d=>[0<=d.2.1,d.2.1<=4611686018427387904],fun d=>(Xa d.2.1 d.1,())⟩
def KL:Prop:=∀(d:CaD×Int×Unit),0<=d.2.1->d.2.1<=4611686018427387904->(kl d.1.1 (0:Int) 99=true->kH (d.2.1-1))/\(kl d.1.1 (0:Int) (99:Int)&&kl d.1.2.1 (0:Int) (d.2.1-1)&&kl d.1.2.2.1 (-100000:Int) (1440:Int),())=(Xa d.2.1 d.1,())
def KM:we:=⟨[.val .int],[.bool],false,fun _=>[],fun d=>(Ln d.1,())⟩
def KN:Prop:=∀(d:Int×Unit),(kl d.1 (0:Int) (20:Int),())=(Ln d.1,())
def KO:we:=⟨[.val .int],[.bool],false,fun _=>[],fun d=>(xb d.1,())⟩
def KP:Prop:=∀(d:Int×Unit),(kl d.1 (0:Int) (300:Int),())=(xb d.1,())
def jbz:we:=⟨[.val .int,.val .int],[.int],false,fun d=>[0<=d.1,0<d.2.1,d.1<=4611686018427387904,d.2.1<=1000000000],fun d=>(U.up d.1 d.2.1,())⟩
def jbA:Prop:=∀(d:Int×Int×Unit),0<=d.1->0<d.2.1->d.1<=4611686018427387904->d.2.1<=1000000000->kH (d.1+d.2.1)/\kH (d.1+d.2.1-1)/\d.2.1≠0/\kH ((d.1+d.2.1-1).tdiv d.2.1)/\((d.1+d.2.1-1).tdiv d.2.1,())=(U.up d.1 d.2.1,())
def N8:we:=⟨[.val tBo],[.bool],false,fun _=>[],fun _=>(true,())⟩
def N9:Prop:=∀(_:BoD×Unit),(true,())=(true,())
def sA:we:=⟨[.val tBo,.val .int],[.bool],false,fun d=>[(kE (kL (b9 d.1))).length<=100],fun d=>(qd d.1 d.2.1,())⟩
def sB:Prop:=∀(d:BoD×Int×Unit),(kE (kL (b9 d.1))).length<=100->d.1.1.1.2.2.1.length<4611686018427387904->kH ((d.1.1.1.2.2.1.length:Int)-1)/\(kl d.2.1 (0:Int) ((d.1.1.1.2.2.1.length:Int)-1),())=(qd d.1 d.2.1,())
def Dc:we:=⟨[.ref tBl],[.int],false,fun d=>[EX d.1],fun d=>(yO d.1,())⟩
abbrev jia (d:BlD×Unit):=(min d.1.1.2.2.2.1 d.1.2.1.q4.1-d.1.1.2.2.1)
abbrev jib (d:BlD×Unit):=(d.1.1.2.2.2.1-max d.1.1.2.2.1 d.1.2.1.2.2.2.1)
def Dd:Prop:=∀(d:BlD×Unit),EX d.1->kH (jib d)/\kH (jia d)/\kH (max (0:Int) (jib d)+max (0:Int) (jia d))/\(max (0:Int) (jib d)+max (0:Int) (jia d),())=(yO d.1,())
def xV:qk:=⟨[.own blS true,.val .int],[],fun d=>[EX (qC d.1),0<=d.2.1,d.2.1<=300],fun d=>((),(blX d.1 (aW (qC d.1)) (ca d.2.1 (qC d.1)) (sW (qC d.1)) (pH (qC d.1)),()))⟩
abbrev jgb (d:XbD×Int×Unit):=(d.1.q4.q4.1-d.1.q4.2.2.2.1)
abbrev jfY (d:XbD×Int×Unit):=(U.up (jgb d) d.1.q4.q4.2.1)
abbrev jfo (d:XbD×Int×Unit):=d.1.q4.q4.2.2.2.1
abbrev jfg (d:XbD×Int×Unit):=d.1.q4.q4.2.2.1
abbrev jgc (d:XbD×Int×Unit):=d.1.q4.q4.q4.2.2.1
abbrev jgx (d:XbD×Int×Unit):=d.1.q4.q4.q4.2.2.2.1
abbrev jhw (d:XbD×Int×Unit):=d.1.q4.q4.q4.q4.q4.2.1
abbrev jfh (d:XbD×Int×Unit):=((jhw d).length:Int)
abbrev jic (d:XbD×Int×Unit):=d.1.q4.q4.q4.q4.q4.1
abbrev jid (d:XbD×Int×Unit):=d.1.q4.q4.q4.q4.2.2.2.1
abbrev jhx (d:XbD×Int×Unit):=(((d.1.1,d.1.2.1,d.1.2.2.1,d.1.2.2.2.1,d.1.q4.1,d.1.q4.2.1,()),d.1.q4.2.2.1,d.1.q4.2.2.2.1,d.1.q4.q4.1,()),(d.1.q4.q4.2.1,(jfg d),(jfo d),d.1.q4.q4.q4.1,d.1.q4.q4.q4.2.1,(jgc d),(jgx d),d.1.q4.q4.q4.q4.1,d.1.q4.q4.q4.q4.2.1,d.1.q4.q4.q4.q4.2.2.1,()),(jid d),(jic d),(jhw d),(jfh d)*(jfg d)*max (jfo d) (jfY d),d.1.q4.q4.q4.q4.q4.2.2.2)
abbrev jie (d:XbD×Int×Unit):=((jfh d)*(jfg d)*max (jfo d) (jfY d)*(jgc d)*yO (jhx d))
def xW:Prop:=∀(d:XbD×Int×Unit),EX (qC d.1)->0<=d.2.1->d.2.1<=300->kH (jgb d)/\kH ((jfh d)*(jfg d))/\0<=d.1.q4.q4.1-d.1.q4.2.2.2.1/\0<d.1.q4.q4.2.1/\d.1.q4.q4.1-d.1.q4.2.2.2.1<=4611686018427387904/\d.1.q4.q4.2.1<=1000000000/\kH ((jfh d)*(jfg d)*max (jfo d) (jfY d))/\kH ((jfh d)*(jfg d)*max (jfo d) (jfY d)*(jgc d))/\EX (jhx d)/\kH (jie d)/\kH ((100:Int)*(jgb d))/\0<=(jfh d)*(jfg d)*max (jfo d) (jfY d)*(jgc d)*yO (jhx d)/\(0:Int)<100*(jgb d)/\(jfh d)*(jfg d)*max (jfo d) (jfY d)*(jgc d)*yO (jhx d)<=4611686018427387904/\(100:Int)*(jgb d)<=1000000000/\kH ((jfh d)*(jfg d)*max (jfo d) (jfY d)+U.up (jie d) ((100:Int)*(jgb d)))/\kH ((jfh d)*(jgx d))/\kH ((jfh d)*(jgx d)*d.2.1)/\()=()/\((d.1.1,d.1.2.1,d.1.2.2.1,d.1.2.2.2.1,d.1.q4.1,d.1.q4.2.1,d.1.q4.2.2.1,d.1.q4.2.2.2.1,d.1.q4.q4.1,d.1.q4.q4.2.1,(jfg d),(jfo d),d.1.q4.q4.q4.1,d.1.q4.q4.q4.2.1,(jgc d),(jgx d),d.1.q4.q4.q4.q4.1,d.1.q4.q4.q4.q4.2.1,d.1.q4.q4.q4.q4.2.2.1,(jid d),(jic d),(jhw d),(jfh d)*(jfg d)*max (jfo d) (jfY d)+U.up (jie d) ((100:Int)*(jgb d)),(jfh d)*(jgx d)*d.2.1,d.1.q4.q4.q4.q4.q4.q4),())=((d.1.1,d.1.2.1,d.1.2.2.1,d.1.2.2.2.1,d.1.q4.1,d.1.q4.2.1,d.1.q4.2.2.1,d.1.q4.2.2.2.1,d.1.q4.q4.1,d.1.q4.q4.2.1,(jfg d),(jfo d),d.1.q4.q4.q4.1,d.1.q4.q4.q4.2.1,(jgc d),(jgx d),d.1.q4.q4.q4.q4.1,d.1.q4.q4.q4.q4.2.1,d.1.q4.q4.q4.q4.2.2.1,(jid d),(jic d),(jhw d),aW (qC d.1),ca d.2.1 (qC d.1),sW (qC d.1),pH (qC d.1),()),())
def Ev:qk:=⟨[.own blS true,.val .int],[],fun _=>[],fun d=>((),(blX d.1 (pG (qC d.1)) (EW (qC d.1)) (W8 d.2.1 (qC d.1)) (W9 d.2.1 (qC d.1)),()))⟩
abbrev jiZ (d:XbD×Int×Unit):=((d.1.1,d.1.2.1,d.1.2.2.1,d.1.2.2.2.1,d.1.q4.1,d.1.q4.2.1,d.1.q4.2.2.1,d.1.q4.2.2.2.1,d.1.q4.q4.1,d.1.q4.q4.2.1,d.1.q4.q4.2.2.1,d.1.q4.q4.2.2.2.1,d.1.q4.q4.q4.1,d.1.q4.q4.q4.2.1,d.1.q4.q4.q4.2.2.1,d.1.q4.q4.q4.2.2.2.1,d.1.q4.q4.q4.q4.1,d.1.q4.q4.q4.q4.2.1,d.1.q4.q4.q4.q4.2.2.1,d.1.q4.q4.q4.q4.2.2.2.1,d.1.q4.q4.q4.q4.q4.1,d.1.q4.q4.q4.q4.q4.2.1,pG (qC d.1),EW (qC d.1),W8 d.2.1 (qC d.1),W9 d.2.1 (qC d.1),()),())
abbrev ji0 (d:XbD×Int×Unit):=(decide (d.2.1<=d.1.q4.2.2.2.1)&&(!d.1.q4.q4.q4.q4.q4.q4.1||decide (d.2.1<d.1.q4.q4.q4.q4.q4.q4.2.1)))
def Ew:Prop:=∀(d:XbD×Int×Unit),((ji0 d)=true->()=()/\((d.1.1,d.1.2.1,d.1.2.2.1,d.1.2.2.2.1,d.1.q4.1,d.1.q4.2.1,d.1.q4.2.2.1,d.1.q4.2.2.2.1,d.1.q4.q4.1,d.1.q4.q4.2.1,d.1.q4.q4.2.2.1,d.1.q4.q4.2.2.2.1,d.1.q4.q4.q4.1,d.1.q4.q4.q4.2.1,d.1.q4.q4.q4.2.2.1,d.1.q4.q4.q4.2.2.2.1,d.1.q4.q4.q4.q4.1,d.1.q4.q4.q4.q4.2.1,d.1.q4.q4.q4.q4.2.2.1,d.1.q4.q4.q4.q4.2.2.2.1,d.1.q4.q4.q4.q4.q4.1,d.1.q4.q4.q4.q4.q4.2.1,d.1.q4.q4.q4.q4.q4.2.2.1,d.1.q4.q4.q4.q4.q4.2.2.2.1,true,d.2),())=(jiZ d))/\((ji0 d)=false->()=()/\(d.1,())=(jiZ d))
def xX:we:=⟨[.val tNo,.ref tBl],[.bool],false,fun d=>[EX d.2.1],fun d=>(eK d.2.1 d.1,())⟩
def xY:Prop:=∀(d:(Int×Int×Unit)×BlD×Unit),EX d.2.1->kH (d.2.1.1.2.2.1-d.2.1.q4.q4.1)/\(decide (d.1.1<=d.2.1.1.2.2.1-d.2.1.q4.q4.1),())=(eK d.2.1 d.1,())
def Ey:we:=⟨[.val tBl],[tLn],false,fun d=>[pD d.1],fun d=>(qB d.1,())⟩
abbrev jgX (d:BlD×Unit):=(ko fun(a:(Int×Int×Unit)×Unit)=>(eK d.1 a.1,()))
abbrev jfH (d:BlD×Unit):=d.1.2.1.q4.2.2.2.1
abbrev jfZ (d:BlD×Unit):=d.1.2.1.q4.q4.2.1
abbrev jif (d:BlD×Unit):=(nth (jfZ d) (yz (jgX d) (jfZ d)).toNat)
abbrev je7 (d:BlD×Unit):=d.1.q4.2.1
abbrev jgY (d:BlD×Unit):=(((je7 d)+d.1.q4.2.2.1)*nth d.1.2.1.q4.q4.1 d.1.1.1.q4.1.toNat)
abbrev jgZ (d:BlD×Unit):=(((je7 d)+0)*nth d.1.2.1.q4.q4.1 d.1.1.1.q4.1.toNat)
abbrev jgd (d:BlD×Unit):=((je7 d)*(jif d).2.1)
abbrev jg0 (d:BlD×Unit):=((U.up (jgd d) (100:Int)+0)*nth d.1.2.1.q4.q4.1 d.1.1.1.q4.1.toNat)
abbrev jig (d:BlD×Unit):=(d.1.2.1.q4.q4.1.length:Int)
def Ez:Prop:=∀(d:BlD×Unit),pD d.1->(d.1.q4.2.2.2.1=true->(∀(g:Int×Int×Unit),g∈(jfZ d)->kK [EX d.1])/\(decide (0<=yz (jgX d) (jfZ d))=true->0<=yz (jgX d) (jfZ d)/\yz (jgX d) (jfZ d)<((jfZ d).length:Int)/\kH (jgd d)/\0<=(je7 d)*(jif d).2.1/\(0:Int)<100/\(je7 d)*(jif d).2.1<=4611686018427387904/\(100:Int)<=1000000000/\kH (U.up (jgd d) (100:Int)+0)/\0<=d.1.1.1.q4.1/\d.1.1.1.q4.1<(jig d)/\kH (jg0 d)/\(100:Int)≠0/\kH ((jg0 d).tdiv (100:Int))/\kH (U.up (jgd d) (100:Int)+0)/\kH (U.up (jgd d) (100:Int)+0-min (jfH d) ((jg0 d).tdiv (100:Int)))/\((d.1.2.2.2.1,d.1.2.2.1,U.up (jgd d) (100:Int),(0:Int),min (jfH d) ((jg0 d).tdiv (100:Int)),U.up (jgd d) (100:Int)+0-min (jfH d) ((jg0 d).tdiv (100:Int)),()),())=(qB d.1,()))/\(decide (0<=yz (jgX d) (jfZ d))=false->kH ((je7 d)+0)/\0<=d.1.1.1.q4.1/\d.1.1.1.q4.1<(jig d)/\kH (jgZ d)/\(100:Int)≠0/\kH ((jgZ d).tdiv (100:Int))/\kH ((je7 d)+0)/\kH ((je7 d)+0-min (jfH d) ((jgZ d).tdiv (100:Int)))/\((d.1.2.2.2.1,d.1.2.2.1,(je7 d),(0:Int),min (jfH d) ((jgZ d).tdiv (100:Int)),(je7 d)+0-min (jfH d) ((jgZ d).tdiv (100:Int)),()),())=(qB d.1,())))/\(d.1.q4.2.2.2.1=false->kH ((je7 d)+d.1.q4.2.2.1)/\0<=d.1.1.1.q4.1/\d.1.1.1.q4.1<(jig d)/\kH (jgY d)/\(100:Int)≠0/\kH ((jgY d).tdiv (100:Int))/\kH ((je7 d)+d.1.q4.2.2.1)/\kH ((je7 d)+d.1.q4.2.2.1-min (jfH d) ((jgY d).tdiv (100:Int)))/\((d.1.2.2.2.1,d.1.2.2.1,(je7 d),d.1.q4.2.2.1,min (jfH d) ((jgY d).tdiv (100:Int)),(je7 d)+d.1.q4.2.2.1-min (jfH d) ((jgY d).tdiv (100:Int)),()),())=(qB d.1,()))
def xZ:we:=⟨[.val tBl,.val .int],[.int],false,fun d=>[pD d.1,-100000<=d.2.1,d.2.1<=1440],fun d=>(qf d.2.1 d.1,())⟩
abbrev jhy (d:BlD×Int×Unit):=(qC (d.1.1.1.1,d.1.1.1.2.1,d.1.1.1.2.2.1,d.1.1.1.2.2.2.1,d.1.1.1.q4.1,d.1.1.1.q4.2.1,d.1.1.2.1,d.1.1.2.2.1,d.1.1.2.2.2.1,d.1.2.1.1,d.1.2.1.2.1,d.1.2.1.2.2.1,d.1.2.1.2.2.2.1,d.1.2.1.q4.1,d.1.2.1.q4.2.1,d.1.2.1.q4.2.2.1,d.1.2.1.q4.2.2.2.1,d.1.2.1.q4.q4.1,d.1.2.1.q4.q4.2.1,d.1.2.2))
abbrev ji1 (d:BlD×Int×Unit):=(d.1.1,d.1.2.1,d.1.2.2.1,d.1.2.2.2.1,d.1.q4.1,pG (jhy d),EW (jhy d),W8 d.2.1 (jhy d),W9 d.2.1 (jhy d),())
def x7:Prop:=∀(d:BlD×Int×Unit),pD d.1->(-100000:Int)<=d.2.1->d.2.1<=1440->pD (ji1 d)/\(qB (ji1 d)).q4.2=(qf d.2.1 d.1,())
theorem Sx:N7:=fun _=>rfl
theorem vV:wn PR 38 gX:=kY Sx Tryz.func38 kcN koN
theorem Wt:Sw:=fun _=>rfl
theorem FZ:wn PR 118 bu:=kY Wt Tryz.func118 (kcC vV kcN) koN
theorem l4:iP:=by
 rintro⟨l,f,⟨⟩⟩ a g;refine⟨⟨0,⟨⟨rfl,tZ⟩,tZ⟩,ju _,fun b c=>by omega⟩,fun i hi=>⟨fun h=> ?_,fun h=> ?_⟩⟩;have h:i<l.length:=(by simpa using h);simp only at*;refine⟨by omega,by omega,qY _ (a _ (L.kB h)) ⟨fun c=> ?_,fun c=>⟨iZ6,i+1,⟨⟨by simp,tZ⟩,tZ⟩,⟨by omega,fun b d=> ?_⟩,by omega⟩⟩⟩;rw[ya (p:=ko (α:=NoD) f.F) h hi.2 c];by_cases e:b=i;subst e;exact c;exact hi.2 b (by omega);have h:l.length<=i:=(by simpa using h);rw[qI (p:=ko (α:=NoD) f.F) h hi.2]
theorem iQ:wn PR 66 iN:=qG iO l4 Tryz.func66 kcN koN
theorem pw:nz:=by
 rintro⟨l,f,⟨⟩⟩ a g;refine⟨⟨0,⟨⟨rfl,tZ⟩,tZ⟩,ju _,fun b c=>by omega⟩,fun i hi=>⟨fun h=> ?_,fun h=> ?_⟩⟩;have h:i<l.length:=(by simpa using h);simp only at*;refine⟨by omega,by omega,qY _ (a _ (L.kB h)) ⟨fun c=> ?_,fun c=>⟨iZ6,i+1,⟨⟨by simp,tZ⟩,tZ⟩,⟨by omega,fun b d=> ?_⟩,by omega⟩⟩⟩;rw[ya (p:=ko (α:=CaD) f.F) h hi.2 c];by_cases e:b=i;subst e;exact c;exact hi.2 b (by omega);have h:l.length<=i:=(by simpa using h);rw[qI (p:=ko (α:=CaD) f.F) h hi.2]
theorem nA:wn PR 165 nx:=qG ny pw Tryz.func165 kcN koN
theorem iR:fW:=by
 rintro⟨l,f,⟨⟩⟩ a;refine⟨a,?_⟩;exact jG (·,()) (fF (ko (α:=CaD) f.F) l)
theorem fX:wn PR 120 fV:=kY iR Tryz.func120 (kcC nA kcN) koN
theorem De:xU:=by
 intro d h;exact qY _ h rfl
theorem x8:wn PR 116 xT:=kY De Tryz.func116 kcN koN
theorem HK:Eu:=by
 intro d h;exact⟨fun g a=>⟨h g a,tZ⟩,jG (·,()) (rL d.snd.fst.2 d.fst)⟩
theorem nV:wn PR 86 df:=kY HK Tryz.func86 (kcC yd (kcC x8 kcN)) koN
theorem x9:ue:=by
 intro d h;exact qY _ h rfl
theorem uf:wn PR 121 ud:=kY x9 Tryz.func121 kcN koN
theorem EA:Db:=by
 intro d h;exact⟨fun g a=>⟨h g a,tZ⟩,jG (·,()) (rL d.snd.fst.2 d.fst)⟩
theorem Df:wn PR 90 Da:=kY EA Tryz.func90 (kcC fX (kcC uf kcN)) koN
theorem Oa:KL:=by
 rintro⟨c,m,⟨⟩⟩ a b;have a:0<=m:=a;have b:m<=4611686018427387904:=b;exact⟨fun _=>L.E0 (by show _<=m-1;omega) (by show m-1<=_;omega),rfl⟩
theorem KQ:wn PR 85 KK:=kY Oa Tryz.func85 (kcC vV kcN) koN
theorem Oc:KN:=fun _=>rfl
theorem KR:wn PR 87 KM:=kY Oc Tryz.func87 (kcC vV kcN) koN
theorem Od:KP:=fun _=>rfl
theorem KS:wn PR 88 KO:=kY Od Tryz.func88 (kcC vV kcN) koN
theorem jc7:jbA:=by
 rintro⟨a,b,⟨⟩⟩ c d e f;have c:0<=a:=c;have d:0<b:=d;have e:a<=4611686018427387904:=e;have f:b<=1000000000:=f;have g:=Wn c d;refine⟨L.E0 (by show _<=a+b;omega) (by show a+b<=_;omega),L.E0 (by show _<=a+b-1;omega) (by show a+b-1<=_;omega),by show b≠0;omega,C6 (x:=U.up a b) (B:=4611686018427387904) ⟨g.1,by omega⟩ (by omega),rfl⟩
theorem Wu:wn PR 68 jbz:=kY jc7 Tryz.func68 kcN koN
theorem Sy:N9:=fun _=>rfl
theorem Dg:wn PR 34 N8:=kY Sy Tryz.func34 kcN koN
theorem ug:sB:=by
 intro d a b;have a:(kE (kL (b9 d.1))).length<=100:=a;exact⟨L.E0 (by show _<=((kE (kL (b9 d.1))).length:Int)-1;omega) (by show((kE (kL (b9 d.1))).length:Int)-1<=_;omega),rfl⟩
theorem gw:wn PR 37 sA:=kY ug Tryz.func37 (kcC vV kcN) koN
theorem EB:Dd:=by
 unfold Dd jib jia Prod.q4;rintro⟨b,⟨⟩⟩ a;have h:C7 b:=sy.1 a;have d:=h.st;have e:=h.en;have f:=h.e2;have g:=h.ta.dk;have i:=h.ta.dw;have c:=P3 h;refine⟨?_,?_,C6 (B:=2880) c (by omega),rfl⟩;show kH (cj (qt b)-max (wP (qt b)) (Xn (yX b)));exact iZ6;show kH (min (cj (qt b)) (Z3 (yX b))-wP (qt b));exact iZ6
theorem Dh:wn PR 91 Dc:=kY EB Tryz.func91 kcN koN
theorem Di:xW:=by
 unfold xW jie jhx jid jic jfh jhw jgx jgc jfg jfo jfY jgb Prod.q4;intro d k v w;obtain⟨b,B⟩:∃b,b=qC d.1:=⟨_,rfl⟩;have h:C7 (qC d.1):=sy.1 k;have x:=h.st;have y:=h.en;have z:=h.e2;have A:=h.ta.un;have l:=jc4 h;have j:=ZW h;have m:=Wo h;have n:kH (cj (qt (qC d.1))-wP (qt (qC d.1))):=iZ6;have e2:0<=cj (qt (qC d.1))-wP (qt (qC d.1)):=(by omega);have o:0<Xm (yX (qC d.1)):=(by omega);have p:cj (qt (qC d.1))-wP (qt (qC d.1))<=4611686018427387904:=(by omega);have q:Xm (yX (qC d.1))<=1000000000:=(by omega);have r:kH (100*(cj (qt (qC d.1))-wP (qt (qC d.1)))):=iZ6;have s:100*(cj (qt (qC d.1))-wP (qt (qC d.1)))<=1000000000:=(by omega);have t:kH (aW (qC d.1)):=C6 m (by omega);have u:kH (ca d.2.1 (qC d.1)):=C6 (Wp h ⟨v,w⟩) (by omega);have a:=C6 (jc2 h) (by omega);have c:=C6 (N4 h) (by omega);have e:=C6 (jc3 h) (by omega);have f:=C6 j (by omega);have g:ml (qC d.1)*Xo (yX (qC d.1))*yO (qC d.1)<=4611686018427387904:=(by omega);have i:=C6 (jc6 h) (by omega);exact⟨n,a,e2,o,p,q,c,e,k,f,r,j.1,l.1,g,s,t,i,u,rfl,rfl⟩
theorem Aa:yR PR 60 xV:=uW Di Tryz.func60 (kcC Wu (kcC Dh kcN)) koN
theorem Oe (m:Int) (b:BlD):yl m b=(qt b,yX b,Ql b,Qm b,qX b,pG b,EW b,W8 m b,W9 m b,()):=by
 unfold W8 W9 yl
 split
 rfl;rfl
theorem HL:Ew:=by
 unfold Ew ji0 jiZ Prod.q4;intro d;have a:(decide (d.2.1<=wP (qt (qC d.1)))&&(!sW (qC d.1)||decide (d.2.1<pH (qC d.1))))=true↔(d.2.1<=wP (qt (qC d.1))/\(sW (qC d.1)=false\/d.2.1<pH (qC d.1))):=by
  simp only[ji,zr,jm,jO]
 refine⟨fun h=>⟨rfl,?_⟩,fun h=>⟨rfl,?_⟩⟩;have e:yl d.2.1 (qC d.1)=(qt (qC d.1),yX (qC d.1),Ql (qC d.1),Qm (qC d.1),qX (qC d.1),pG (qC d.1),EW (qC d.1),true,d.2.1,()):=by
  unfold yl;rw[jh (a.1 h)]
 have b:W8 d.2.1 (qC d.1)=true:=jG sW e;have e2:W9 d.2.1 (qC d.1)=d.2.1:=jG pH e;rw[b,e2];rfl;have h:(decide (d.2.1<=wP (qt (qC d.1)))&&(!sW (qC d.1)||decide (d.2.1<pH (qC d.1))))=false:=h;have e:yl d.2.1 (qC d.1)=qC d.1:=by
  unfold yl;rw[jd (fun c=>by rw[a.2 c] at h;cases h)]
 have b:W8 d.2.1 (qC d.1)=sW (qC d.1):=jG sW e;have e2:W9 d.2.1 (qC d.1)=pH (qC d.1):=jG pH e;rw[b,e2];rfl
theorem nW:yR PR 61 Ev:=uW HL Tryz.func61 kcN koN
theorem Dj:xY:=by
 unfold xY Prod.q4;rintro⟨n,b,⟨⟩⟩ a;have h:C7 b:=sy.1 a;have c:=h.st;have d:=h.en;have e:=h.e2;have f:=h.mi;refine⟨?_,rfl⟩;show kH (wP (qt b)-pH b);exact iZ6
theorem Ab:wn PR 67 xX:=kY Dj Tryz.func67 kcN koN
theorem HM:Ez:=by
 unfold Ez jig jg0 jgd jgZ jgY je7 jif jfZ jfH jgX Prod.q4;rintro⟨b,⟨⟩⟩ m;have h:KI b:=bh.1 m;have hk:=h.bl.kd;have k:l8 (y7 (qt b))<((dp (yX b)).length:Int):=(by have:=Wq h.bl;omega);have l:=ZX h.bl;have j:=h.bl.ta.cp;refine⟨fun a=>⟨fun g _=>⟨m.1,tZ⟩,fun hi=> ?_,fun hi=> ?_⟩,fun a=> ?_⟩;have hi:0<=Td b:=ja hi;obtain⟨o,p,_⟩:=KH hi;have f:=P4 h o;have n:=Wn (b:=100) f.1 (by omega);have d:vE b=U.up (pG b*Z2 (nth (eJ (yX b)) (Td b).toNat)) 100:=jh ⟨a,hi⟩;have c:ym b=0:=jh a;refine⟨hi,p,C6 f (by omega),f.1,by decide,Int.le_trans f.2 (by decide),by decide,?_⟩;refine N5 (w:=U.up (pG b*Z2 (nth (eJ (yX b)) (Td b).toNat)) 100) (t:=0) (cp:=W7 (yX b)) (pc:=nth (dp (yX b)) (l8 (y7 (qt b))).toNat) ⟨n.1,Int.le_trans n.2 f.2⟩ ⟨by omega,by omega⟩ j l hk.1 k ?_;have e:qB b=(Qm b,Ql b,vE b,ym b,min (W7 (yX b)) (((vE b+ym b)*nth (dp (yX b)) (l8 (y7 (qt b))).toNat).tdiv 100),vE b+ym b-min (W7 (yX b)) (((vE b+ym b)*nth (dp (yX b)) (l8 (y7 (qt b))).toNat).tdiv 100),()):=rfl;rw[d,c] at e;show _=(qB b,());rw[e];rfl;have hi:¬0<=Td b:=jc hi;have d:vE b=pG b:=jd (fun i=>hi i.2);have c:ym b=0:=jh a;refine N5 (w:=pG b) (t:=0) (cp:=W7 (yX b)) (pc:=nth (dp (yX b)) (l8 (y7 (qt b))).toNat) ⟨h.wk.1,by have:=h.wk.2;omega⟩ ⟨by omega,by omega⟩ j l hk.1 k ?_;have e:qB b=(Qm b,Ql b,vE b,ym b,min (W7 (yX b)) (((vE b+ym b)*nth (dp (yX b)) (l8 (y7 (qt b))).toNat).tdiv 100),vE b+ym b-min (W7 (yX b)) (((vE b+ym b)*nth (dp (yX b)) (l8 (y7 (qt b))).toNat).tdiv 100),()):=rfl;rw[d,c] at e;show _=(qB b,());rw[e];rfl;have a:sW b=false:=a;have d:vE b=pG b:=jd (fun i=>by rw[a] at i;cases i.1);have c:ym b=EW b:=jd (by rw[a];decide);refine N5 (w:=pG b) (t:=EW b) (cp:=W7 (yX b)) (pc:=nth (dp (yX b)) (l8 (y7 (qt b))).toNat) ⟨h.wk.1,by have:=h.wk.2;omega⟩ h.tr j l hk.1 k ?_;have e:qB b=(Qm b,Ql b,vE b,ym b,min (W7 (yX b)) (((vE b+ym b)*nth (dp (yX b)) (l8 (y7 (qt b))).toNat).tdiv 100),vE b+ym b-min (W7 (yX b)) (((vE b+ym b)*nth (dp (yX b)) (l8 (y7 (qt b))).toNat).tdiv 100),()):=rfl;rw[d,c] at e;show _=(qB b,());rw[e];rfl
theorem ag:wn PR 39 Ey:=kY HM Tryz.func39 (kcC Wu (kcC iQ (kcC Ab kcN))) koN
theorem Dk:x7:=by
 unfold x7 ji1 jhy Prod.q4;rintro⟨b,m,⟨⟩⟩ a c d;have e:=Oe m b;have h:KI b:=bh.1 a;have hk:=bh.2 (HH (m:=m) h ⟨c,d⟩);refine⟨?_,?_⟩;show pD (qt b,yX b,Ql b,Qm b,qX b,pG b,EW b,W8 m b,W9 m b,());rw[<-e];exact hk;show(qB (qt b,yX b,Ql b,Qm b,qX b,pG b,EW b,W8 m b,W9 m b,())).2.2.2.2.2=_;rw[<-e];rfl
theorem io:wn PR 40 xZ:=kY Dk Tryz.func40 (kcC ag kcN) (koC nW koN)
@[irreducible] def YU (C:Ctx) (A:Ann) (c:Code) (σ:St) (K:Ex->St->Prop):Prop:=vcg C A c σ K
theorem YV {C:Ctx} {A:Ann} {c:Code} {σ:St} {K:Ex->St->Prop} (h:YU C A c σ K):vcg C A c σ K:=by unfold YU at h;exact h
structure FE where
 pre:NoD×Unit->Int->List Prop
 K:NoD×Unit->Int->(Bool×Unit)×Int
namespace U
def gi (K:NoD×Unit->Int->(Bool×Unit)×Int):NoD×Unit->Int->(Bool×Unit)×Int:=fun x s=>((!(K (x.1,()) s).1.1,()),(K (x.1,()) s).2)
def DF (pre:NoD×Unit->Int->List Prop):NoD×Unit->Int->List Prop:=fun x s=>[kK (pre (x.1,()) s)]
def vi (K:NoD×Unit->Int->(Bool×Unit)×Int):Nat->List NoD->Int->Int×Int
 |_,[],s=>(-1,s)
 |i,n::r,s=>match(K (n,()) s).1.1 with
  |true=>((i:Int),(K (n,()) s).2)
  |false=>vi K (i+1) r (K (n,()) s).2
def cx (pre:NoD×Unit->Int->List Prop) (K:NoD×Unit->Int->(Bool×Unit)×Int):List NoD->Int->Prop
 |[],_=>True
 |n::r,s=>kK (pre (n,()) s)/\((K (n,()) s).1.1=false->cx pre K r (K (n,()) s).2)
def Qo:NoD×Unit->Int->(Bool×Unit)×Int:=fun x s=>((Ij s x.1,()),Xl x.1)
def jdm:NoD×Unit->Int->List Prop:=fun _ s=>[-4611686018427387904<=s,s<=4611686018427387904]
end U
def jbB (st:Ty) (ps rs:List Ty) (pre:(Ty.st ps).Data->st.Data->List Prop) (K:(Ty.st ps).Data->st.Data->(Ty.st rs).Data×st.Data):Option FE:=
 if a:st= .int then if b:ps=[tNo] then if c:rs=[.bool] then some ⟨by subst a;subst b;exact pre,by subst a;subst b;subst c;exact K⟩ else none else none else none
def jdC:SV->Option (Nat×FE)
 | .fe false o T st ps rs pre K=>match Nat.beq T 3,jbB st ps rs pre K with
  |true,some y=>some (o,y)
  |_,_=>none
 |_=>none
def jdY (σ:St) (b:Nat):Option (Nat×FE):=match σ.obj b with
 |some (.box _ _ [c])=>jdC c
 |_=>none
def Wv (σ:St) (o:Nat):Option Int:=match σ.obj o with
 |some (.box T false [c])=>match Nat.beq T 3,yn σ .int c with
  |true,some (s,[])=>some s
  |_,_=>none
 |_=>none
def Ww (σ:St):List SV->Option Out
 |[a,b]=>match yn σ (.slice tNo) a,jdC b with
  |some (l,fz),some (o,y)=>match aj fz o,Wv σ o with
   |false,some s=>some ⟨[cx y.pre y.K l s],[],xd [.int] ((vi y.K 0 l s).1,()),fz,[(o,some (.box 3 false [.dat .int (vi y.K 0 l s).2]))],[]⟩
   |_,_=>none
  |_,_=>none
 |_=>none
def Wx (σ:St):List SV->Option Out
 |[a,.clo f [.bp b 0]]=>match Nat.beq f 164,yn σ (.slice tNo) a,jdY σ b with
  |true,some (l,fz),some (o,y)=>match aj (b::fz) o,Wv σ o with
   |false,some s=>some ⟨[cx (DF y.pre) (gi y.K) l s],[],xd [.bool] (decide (0<=(vi (gi y.K) 0 l s).1),()),b::fz,[(o,some (.box 3 false [.dat .int (vi (gi y.K) 0 l s).2]))],[]⟩
   |_,_=>none
  |_,_,_=>none
 |_=>none
def YW (σ:St):List SV->Option Out
 |[a,.clo f [.bp o 0]]=>match Nat.beq f 117,yn σ (.slice tNo) a with
  |true,some (l,fz)=>match aj fz o,Wv σ o with
   |false,some s=>some ⟨[cx (DF jdm) (gi Qo) l s],[],xd [.bool] (!decide (0<=(vi (gi Qo) 0 l s).1),()),fz,[(o,some (.box 3 false [.dat .int (vi (gi Qo) 0 l s).2]))],[]⟩
   |_,_=>none
  |_,_=>none
 |_=>none
def ZY (n:Nat) (fs:List (Nat×we)) (k:Nat) (e:St->List SV->Option Out):Ctx:=⟨n,ti,fs,fun f _ σ svs=>match Nat.beq f k with|true=>e σ svs|false=>none,strs,false⟩
def dg:Prop:=∀(n:NoD) (s:Int),-4611686018427387904<=s->s<=4611686018427387904->
 YU (ctx 18 [(38,gX),(118,bu)] []) (fun _=>none) (wz Tryz.f117) ⟨[(0,.dat tNo n),(1,.bp yG 0)],[(yG,some (.box 3 false [.dat .int s]))]⟩
  (lx (ctx 18 [(38,gX),(118,bu)] []) Tryz.f117 3 .int [.bool] (Qo (n,()) s))
def l5:Prop:=∀(n:NoD) (s:Int),(-4611686018427387904:Int)<=s->s<=4611686018427387904->kH (s-1)/\(kl n.1 (0:Int) (s-1)&&U.share n.2.1,())=(Qo (n,()) s).1/\n.1=(Qo (n,()) s).2
theorem sC:(dg)=l5:=by kernel_rfl
def gx:Prop:=∀(n:NoD) (y:FE) (s:Int),kK (y.pre (n,()) s)->
 YU (ctx 8 [] []) (fun _=>none) (wz Tryz.f164) ⟨[(0,.dat tNo n),(1,.fe true yG 3 .int [tNo] [.bool] y.pre y.K)],[(yG,some (.box 3 false [.dat .int s]))]⟩
  (lx (ctx 8 [] []) Tryz.f164 3 .int [.bool] (gi y.K (n,()) s))
def bR:Prop:=∀(n:NoD) (y:FE) (s:Int),kK (y.pre (n,()) s)->asks (y.1 (n,()) s) ((!(y.2 (n,()) s).1.1,())=(gi y.2 (n,()) s).1/\(y.2 (n,()) s).2=(gi y.2 (n,()) s).2)
theorem iS:(gx)=bR:=by kernel_rfl
def Wy (K:NoD×Unit->Int->(Bool×Unit)×Int) (pre:NoD×Unit->Int->List Prop) (s:Int):Ann:=fun r=>match r with
 |2=>some fun σ=>{X:=Nat×Int,sl:=fun x=>[(8,.dat .int (x.1:Int))],ob:=fun x=>[(yG,some (.box 3 false [.dat .int x.2]))],inv:=fun x=>x.1<=(gd (.slice tNo) σ 0).length/\vi K x.1 ((gd (.slice tNo) σ 0).drop x.1) x.2=vi K 0 (gd (.slice tNo) σ 0) s/\cx pre K ((gd (.slice tNo) σ 0).drop x.1) x.2,mu:=fun x=>(gd (.slice tNo) σ 0).length-x.1}
 |_=>none
def ei:Prop:=∀(l:List NoD) (y:FE) (s:Int),cx y.pre y.K l s->
 YU (ctx 19 [] []) (Wy y.K y.pre s) (wz Tryz.f66) ⟨[(0,.dat (.slice tNo) l),(1,.fe false yG 3 .int [tNo] [.bool] y.pre y.K)],[(yG,some (.box 3 false [.dat .int s]))]⟩
  (lx (ctx 19 [] []) Tryz.f66 3 .int [.int] (((vi y.K 0 l s).1,()),(vi y.K 0 l s).2))
abbrev jg1 (l:List NoD)(x:Nat×Int):=(nth l (x.1:Int).toNat,())
def yS:Prop:=∀(l:List NoD) (y:FE) (s:Int),cx y.pre y.K l s->l.length<4611686018427387904->(∃(x:Nat×Int),((0=(x.1:Int)/\True)/\(s=x.2/\True)/\True)/\x.1<=l.length/\vi y.2 x.1 (List.drop x.1 l) x.2=vi y.2 0 l s/\cx y.1 y.2 (List.drop x.1 l) x.2)/\∀(x:Nat×Int),x.1<=l.length/\vi y.2 x.1 (List.drop x.1 l) x.2=vi y.2 0 l s/\cx y.1 y.2 (List.drop x.1 l) x.2->(decide ((x.1:Int)<l.length)=true->0<=(x.1:Int)/\(x.1:Int)<l.length/\asks (y.1 (jg1 l x) x.2) (((y.2 (jg1 l x) x.2).1.1=true->((x.1:Int),())=((vi y.2 0 l s).1,())/\(y.2 (jg1 l x) x.2).2=(vi y.2 0 l s).2)/\((y.2 (jg1 l x) x.2).1.1=false->kH ((x.1:Int)+1)/\∃(a:Nat×Int),(((x.1:Int)+1=(a.1:Int)/\True)/\((y.2 (jg1 l x) x.2).2=a.2/\True)/\True)/\(a.1<=l.length/\vi y.2 a.1 (List.drop a.1 l) a.2=vi y.2 0 l s/\cx y.1 y.2 (List.drop a.1 l) a.2)/\l.length-a.1<l.length-x.1)))/\(decide ((x.1:Int)<l.length)=false->((-1:Int),())=((vi y.2 0 l s).1,())/\x.2=(vi y.2 0 l s).2)
theorem bi:(ei)=yS:=by kernel_rfl
def bS:Prop:=∀(l:List NoD) (y:FE) (s:Int),cx y.pre y.K l s->
 YU (ZY 9 [] 66 Ww) (fun _=>none) (wz Tryz.f163) ⟨[(0,.dat (.slice tNo) l),(1,.fe false yG 3 .int [tNo] [.bool] y.pre y.K)],[(yG,some (.box 3 false [.dat .int s]))]⟩
  (lx (ZY 9 [] 66 Ww) Tryz.f163 3 .int [.bool] ((decide (0<=(vi y.K 0 l s).1),()),(vi y.K 0 l s).2))
def yh:Prop:=∀(l:List NoD) (y:FE) (s:Int),cx y.pre y.K l s->cx y.1 y.2 l s/\(decide (0<=(vi y.2 0 l s).1),())=(decide (0<=(vi y.2 0 l s).1),())/\(vi y.2 0 l s).2=(vi y.2 0 l s).2
theorem gY:(bS)=yh:=by kernel_rfl
def Ac:Prop:=∀(l:List NoD) (y:FE) (s:Int),cx (DF y.pre) (gi y.K) l s->
 YU (ZY 9 [] 163 Wx) (fun _=>none) (wz Tryz.f119) ⟨[(0,.dat (.slice tNo) l),(1,.fe false yG 3 .int [tNo] [.bool] y.pre y.K)],[(yG,some (.box 3 false [.dat .int s]))]⟩
  (lx (ZY 9 [] 163 Wx) Tryz.f119 3 .int [.bool] ((!decide (0<=(vi (gi y.K) 0 l s).1),()),(vi (gi y.K) 0 l s).2))
def ew:Prop:=∀(l:List NoD) (y:FE) (s:Int),cx (DF y.pre) (gi y.K) l s->cx (DF y.1) (gi y.2) l s/\(!decide (0<=(vi (gi y.2) 0 l s).1),())=(!decide (0<=(vi (gi y.2) 0 l s).1),())/\(vi (gi y.2) 0 l s).2=(vi (gi y.2) 0 l s).2
theorem nB:(Ac)=ew:=by kernel_rfl
def sD:we:=⟨[.val tTa],[.bool],false,fun _=>[],fun d=>(vD d.1,())⟩
def sE:Ann:=fun r=>match r with
 |3000003=>some fun _=>{X:=Unit,sl:=fun _=>[],ob:=fun _=>[],inv:=fun _=>True,mu:=fun _=>0}
 |_=>none
abbrev jf0:=(ko fun(a:Int×Unit)=>(U.share a.1,()))
abbrev jfs (d:TaD×Unit):=((d.1.q4.q4.2.1.length:Int)<=4)
abbrev jf1 (d:TaD×Unit):=((d.1.q4.q4.1.length:Int)=4)
abbrev jft (d:TaD×Unit):=d.1.q4.2.2.2.1
abbrev jfi (d:TaD×Unit):=(vD d.1,())
abbrev jfu (d:TaD×Unit):=d.1.q4.2.2.1
def sF:Prop:=∀(d:TaD×Unit),(kl d.1.1 (1:Int) 240=true->kl d.1.1 (1:Int) 240=true/\kl d.1.1 (1:Int) 240=true/\kl d.1.1 (1:Int) 240=true/\(kl d.1.2.1 (0:Int) 10000=true->kl d.1.2.1 (0:Int) 10000=true/\kl d.1.2.1 (0:Int) 10000=true/\kl d.1.2.1 (0:Int) 10000=true/\(kl d.1.2.2.1 (0:Int) 20=true->kl d.1.2.2.1 (0:Int) 20=true/\kl d.1.2.2.1 (0:Int) 20=true/\kl d.1.2.2.1 (0:Int) 20=true/\(kl d.1.2.2.2.1 (0:Int) 1440=true->kl d.1.2.2.2.1 (0:Int) 1440=true/\kl d.1.2.2.2.1 (0:Int) 1440=true/\kl d.1.2.2.2.1 (0:Int) 1440=true/\kl d.1.2.2.2.1 (0:Int) 1440=true/\kl d.1.2.2.2.1 (0:Int) 1440=true/\(kl d.1.q4.1 (0:Int) d.1.2.2.2.1=true->kl d.1.q4.1 (0:Int) d.1.2.2.2.1=true/\kl d.1.q4.1 (0:Int) d.1.2.2.2.1=true/\kl d.1.q4.1 (0:Int) d.1.2.2.2.1=true/\(U.share d.1.q4.2.1=true->U.share d.1.q4.2.1=true/\U.share d.1.q4.2.1=true/\U.share d.1.q4.2.1=true/\(kl (jfu d) (0:Int) 10000=true->kl (jfu d) (0:Int) 10000=true/\kl (jfu d) (0:Int) 10000=true/\(d.1.q4.q4.1.length<4611686018427387904->kl (jfu d) (0:Int) 10000=true/\kl (jfu d) (0:Int) 10000=true/\(decide (jf1 d)=true->decide (jf1 d)=true/\decide (jf1 d)=true/\(∀(g:Int),g∈d.1.q4.q4.1->kK [])/\decide (jf1 d)=true/\(d.1.q4.q4.1.all jf0=true->d.1.q4.q4.1.all jf0=true/\d.1.q4.q4.1.all jf0=true/\d.1.q4.q4.1.all jf0=true/\(kl (jft d) (0:Int) 1000000=true->kl (jft d) (0:Int) 1000000=true/\kl (jft d) (0:Int) 1000000=true/\(d.1.q4.q4.2.1.length<4611686018427387904->kl (jft d) (0:Int) 1000000=true/\kl (jft d) (0:Int) 1000000=true/\(decide (jfs d)=true->decide (jfs d)=true/\decide (jfs d)=true/\decide (jfs d)=true/\cx (DF jdm) (gi Qo) d.1.q4.q4.2.1 (100001:Int)/\decide (jfs d)=true/\(!decide (0<=(vi (gi Qo) 0 d.1.q4.q4.2.1 (100001:Int)).1),())=(jfi d))/\(decide (jfs d)=false->decide (jfs d)=false/\decide (jfs d)=false/\decide (jfs d)=false/\decide (jfs d)=false/\(false,())=(jfi d))))/\(kl (jft d) (0:Int) 1000000=false->kl (jft d) (0:Int) 1000000=false/\kl (jft d) (0:Int) 1000000=false/\kl (jft d) (0:Int) 1000000=false/\kl (jft d) (0:Int) 1000000=false/\qF/\qF/\qF/\qF/\qF/\(false,())=(jfi d)))/\(d.1.q4.q4.1.all jf0=false->d.1.q4.q4.1.all jf0=false/\d.1.q4.q4.1.all jf0=false/\d.1.q4.q4.1.all jf0=false/\qF/\qF/\qF/\qF/\qF/\qF/\qF/\qF/\qF/\qF/\(false,())=(jfi d)))/\(decide (jf1 d)=false->decide (jf1 d)=false/\decide (jf1 d)=false/\decide (jf1 d)=false/\qF/\qF/\qF/\qF/\qF/\qF/\qF/\qF/\qF/\qF/\qF/\qF/\qF/\qF/\(false,())=(jfi d))))/\(kl (jfu d) (0:Int) 10000=false->kl (jfu d) (0:Int) 10000=false/\kl (jfu d) (0:Int) 10000=false/\kl (jfu d) (0:Int) 10000=false/\kl (jfu d) (0:Int) 10000=false/\qF/\qF/\qF/\qF/\qF/\qF/\qF/\qF/\qF/\qF/\qF/\qF/\qF/\qF/\qF/\qF/\qF/\qF/\(false,())=(jfi d)))/\(U.share d.1.q4.2.1=false->U.share d.1.q4.2.1=false/\U.share d.1.q4.2.1=false/\U.share d.1.q4.2.1=false/\qF/\qF/\qF/\qF/\qF/\qF/\qF/\qF/\qF/\qF/\qF/\qF/\qF/\qF/\qF/\qF/\qF/\qF/\qF/\qF/\qF/\qF/\qF/\(false,())=(jfi d)))/\(kl d.1.q4.1 (0:Int) d.1.2.2.2.1=false->kl d.1.q4.1 (0:Int) d.1.2.2.2.1=false/\kl d.1.q4.1 (0:Int) d.1.2.2.2.1=false/\kl d.1.q4.1 (0:Int) d.1.2.2.2.1=false/\qF/\qF/\qF/\qF/\qF/\qF/\qF/\qF/\qF/\qF/\qF/\qF/\qF/\qF/\qF/\qF/\qF/\qF/\qF/\qF/\qF/\qF/\qF/\qF/\qF/\qF/\qF/\(false,())=(jfi d)))/\(kl d.1.2.2.2.1 (0:Int) 1440=false->kl d.1.2.2.2.1 (0:Int) 1440=false/\kl d.1.2.2.2.1 (0:Int) 1440=false/\kl d.1.2.2.2.1 (0:Int) 1440=false/\kl d.1.2.2.2.1 (0:Int) 1440=false/\kl d.1.2.2.2.1 (0:Int) 1440=false/\qF/\qF/\qF/\qF/\qF/\qF/\qF/\qF/\qF/\qF/\qF/\qF/\qF/\qF/\qF/\qF/\qF/\qF/\qF/\qF/\qF/\qF/\qF/\qF/\qF/\qF/\qF/\qF/\qF/\qF/\qF/\(false,())=(jfi d)))/\(kl d.1.2.2.1 (0:Int) 20=false->kl d.1.2.2.1 (0:Int) 20=false/\kl d.1.2.2.1 (0:Int) 20=false/\kl d.1.2.2.1 (0:Int) 20=false/\qF/\qF/\qF/\qF/\qF/\qF/\qF/\qF/\qF/\qF/\qF/\qF/\qF/\qF/\qF/\qF/\qF/\qF/\qF/\qF/\qF/\qF/\qF/\qF/\qF/\qF/\qF/\qF/\qF/\qF/\qF/\qF/\qF/\qF/\qF/\qF/\qF/\(false,())=(jfi d)))/\(kl d.1.2.1 (0:Int) 10000=false->kl d.1.2.1 (0:Int) 10000=false/\kl d.1.2.1 (0:Int) 10000=false/\kl d.1.2.1 (0:Int) 10000=false/\qF/\qF/\qF/\qF/\qF/\qF/\qF/\qF/\qF/\qF/\qF/\qF/\qF/\qF/\qF/\qF/\qF/\qF/\qF/\qF/\qF/\qF/\qF/\qF/\qF/\qF/\qF/\qF/\qF/\qF/\qF/\qF/\qF/\qF/\qF/\qF/\qF/\qF/\qF/\qF/\qF/\(false,())=(jfi d)))/\(kl d.1.1 (1:Int) 240=false->kl d.1.1 (1:Int) 240=false/\kl d.1.1 (1:Int) 240=false/\kl d.1.1 (1:Int) 240=false/\qF/\qF/\qF/\qF/\qF/\qF/\qF/\qF/\qF/\qF/\qF/\qF/\qF/\qF/\qF/\qF/\qF/\qF/\qF/\qF/\qF/\qF/\qF/\qF/\qF/\qF/\qF/\qF/\qF/\qF/\qF/\qF/\qF/\qF/\qF/\qF/\qF/\qF/\qF/\qF/\qF/\qF/\qF/\qF/\qF/\(false,())=(jfi d))
theorem Ad:jb7 (ZY 69 [(38,gX),(118,bu),(86,df)] 119 YW) (sE) Tryz.f89 (wz Tryz.f89) sD=sF:=by kernel_rfl
theorem KT (K:NoD×Unit->Int->(Bool×Unit)×Int) (i:Nat) (n:NoD) (r:List NoD) (s:Int):vi K i (n::r) s=if(K (n,()) s).1.1=true then((i:Int),(K (n,()) s).2) else vi K (i+1) r (K (n,()) s).2:=by
 rw[vi];cases (K (n,()) s).1.1 with
 |true=>rfl
 |false=>rfl
theorem EC:l5:=by
 intro n s a b;exact⟨iZ6,rfl,rfl⟩
theorem sG:bR:=by
 intro n y s h;exact qY _ h ⟨rfl,rfl⟩
theorem eA:yS:=by
 unfold yS jg1;intro l y s j m;refine⟨⟨(0,s),⟨⟨rfl,tZ⟩,⟨rfl,tZ⟩,tZ⟩,ju _,rfl,j⟩,fun x d=>⟨fun h=> ?_,fun h=> ?_⟩⟩;obtain⟨i,s1⟩:=x;have hi:i<l.length:=(by simpa using h);obtain⟨_,a,b⟩:=d;have g:l.drop i=nth l i::l.drop (i+1):=(by rw[L.wW hi];exact kf hi);simp only at a b;rw[g] at a b;rw[KT] at a;obtain⟨e,f⟩:=b;simp only[jw];refine⟨by omega,by omega,qY _ e ⟨fun k=> ?_,fun c=>⟨iZ6,(i+1,(y.2 (nth l i,()) s1).2),⟨⟨by simp,tZ⟩,⟨rfl,tZ⟩,tZ⟩,⟨hi,?_,f c⟩,by simp only;omega⟩⟩⟩;rw[jh k] at a;rw[<-a];exact⟨rfl,rfl⟩;rw[jd (by rw[c];decide)] at a;exact a;obtain⟨i,s1⟩:=x;have hi:l.length<=i:=(by simpa using h);obtain⟨_,a,_⟩:=d;simp only at a;rw[List.drop_eq_nil_of_le hi] at a;have a:((-1:Int),s1)=vi y.2 0 l s:=a;rw[<-a];exact⟨rfl,rfl⟩
theorem bU:yh:=fun _ _ _ h=>⟨h,rfl,rfl⟩
theorem Ae:ew:=fun _ _ _ h=>⟨h,rfl,rfl⟩
theorem Wz {P:Program} {C:Ctx} {w:World} (e:C.ok P) (l:P.follows .mixedOrders=true) {f:Nat} {fn:Func} {body:Code} (i:P.funcs[f]? =some fn) (h:fn.body=some body)
 (m:fn.ntmps=C.n) (A:Ann) {T:Nat} {st:Ty} {rs:List Ty} {want:(Ty.st rs).Data×st.Data} {s:st.Data} {sl:List (Nat×SV)} {vals:List Value}
 (p:YU C A body ⟨sl,[(yG,some (.box T false [.dat st s]))]⟩ (lx C fn T st rs want)) (a:Nat.ble vals.length C.n=true)
 {H:Imm} {b:Nat} {u:Value} (j:eN H w) (g:H b=none) (q:w.heap[b]? =some (.cells #[u] T (0,0))) (d:st.agg=false) (o:st.rv H u s)
 (c:∀ρ:Env,ρ.H=H->ρ.blk yG=some (some (b,0))->∀k v,kS sl k=some v->∃x,vals[k]? =some x/\SV.den P ρ v x):
 Calls P f vals.toArray w (Qv H w b T st rs want):=
 jdO e l i h m A (jz a) (YV p) j g q d o c
abbrev FnG (H:Imm) (b:Nat) (y:FE) (v:Value):Prop:=FnE PR H b 3 .int [tNo] [.bool] y.pre y.K v
theorem WA {H:Imm} {t:Ty} {vals:List Value} {x:(Ty.st [t]).Data} (h:rvs H [t] vals x):∃v,vals=[v]/\t.rv H v x.1:=by
 match vals,h with
 |[v],h=>exact⟨v,rfl,h.1⟩
 |[],h=>exact h.elim
 |_::_::_,h=>have:=h.2;simp[rvs] at this
theorem WB (q:gx) {H:Imm} {b:Nat} {y:FE} {i:Value} {g:Nat} (l:FnG H b y i) (m:H g=some (.cells #[i])):
 FnG H b ⟨DF y.pre,gi y.K⟩ (.func (.func 164) #[] #[.pointer (some ⟨g,0,none⟩)]):=by
 refine⟨164,_,rfl,qO Tryz.func164 (c:=wz Tryz.f164) (by kernel_rfl) (by kernel_rfl),fun H' w vals x s u j o n z r t f=> ?_⟩;obtain⟨v,rfl,h⟩:=WA t;have key:=Wz (P:=PR) (C:=ctx 8 [] []) (nT trivial trivial) mixed Tryz.func164 (body:=wz Tryz.f164) (by kernel_rfl) (by kernel_rfl) (fun _=>none) (T:=3) (st:= .int) (rs:=[.bool])
  (vals:=[v,.pointer (some ⟨g,0,none⟩)]) (q x.1 y s f.1) (by kernel_rfl) o n z rfl r
 refine key (fun ρ d e k sv hk=> ?_)
 match k,hk with
 |0,hk=>
  have hk:some (SV.dat tNo x.1)=some sv:=hk;simp only[jy] at hk;subst hk;exact⟨v,rfl,by simp only[SV.den];rw[d];exact h⟩
 |1,hk=>
  have hk:some (SV.fe true yG 3 .int [tNo] [.bool] y.pre y.K)=some sv:=hk;simp only[jy] at hk;subst hk;refine⟨_,rfl,?_⟩;simp only[SV.den];intro p a;rw[e] at a;simp at a;subst a;refine⟨b,0,rfl,i,?_,g,rfl,?_⟩;rw[d];exact FnE.mono j l;rw[d];exact j _ _ m
 |k+2,hk=>cases hk
theorem Sz (j:dg) (H:Imm) (b:Nat):FnG H b ⟨jdm,Qo⟩ (.func (.func 117) #[] #[.pointer (some ⟨b,0,none⟩)]):=by
 refine⟨117,_,rfl,qO Tryz.func117 (c:=wz Tryz.f117) (by kernel_rfl) (by kernel_rfl),fun H' w vals x s u o i h n l m a=> ?_⟩;obtain⟨v,rfl,f⟩:=WA m;have key:=Wz (P:=PR) (C:=ctx 18 [(38,gX),(118,bu)] []) (nT ⟨fun _=>vV,fun _=>FZ,tZ⟩ trivial) mixed Tryz.func117 (body:=wz Tryz.f117) (by kernel_rfl) (by kernel_rfl) (fun _=>none) (T:=3) (st:= .int) (rs:=[.bool])
  (vals:=[v,.pointer (some ⟨b,0,none⟩)]) (j x.1 s a.1 a.2.1) (by kernel_rfl) i h n rfl l
 refine key (fun ρ g e k sv hk=> ?_)
 match k,hk with
 |0,hk=>
  have hk:some (SV.dat tNo x.1)=some sv:=hk;simp only[jy] at hk;subst hk;exact⟨v,rfl,by simp only[SV.den];rw[g];exact f⟩
 |1,hk=>
  have hk:some (SV.bp yG 0)=some sv:=hk;simp only[jy] at hk;subst hk;refine⟨_,rfl,?_⟩;simp only[SV.den];intro p d;rw[e] at d;simp at d;subst d;exact⟨b,0,rfl,rfl⟩
 |k+2,hk=>cases hk
def EN (f:Nat) (rs:List Ty) (pre:FE->List NoD->Int->Prop) (K:FE->List NoD->Int->(Ty.st rs).Data×Int):Prop:=
 ∀(l:List NoD) (y:FE) (s:Int) (H:Imm) (w:World) (b:Nat) (lv a u:Value),eN H w->H b=none->w.heap[b]? =some (.cells #[u] 3 (0,0))->Ty.int.rv H u s->
  (Ty.slice tNo).rv H lv l->FnG H b y a->pre y l s->Calls PR f #[lv,a] w (Qv H w b 3 .int rs (K y l s))
theorem jbC {C:Ctx} (j:C.ok PR) {f:Nat} {fn:Func} {body:Code} (o:PR.funcs[f]? =some fn) (m:fn.body=some body) (t:fn.ntmps=C.n) (i:Nat.ble 2 C.n=true) (A:FE->Int->Ann) {rs:List Ty}
 {pre:FE->List NoD->Int->Prop} {K:FE->List NoD->Int->(Ty.st rs).Data×Int}
 (x:∀(l:List NoD) (y:FE) (s:Int),pre y l s->YU C (A y s) body ⟨[(0,.dat (.slice tNo) l),(1,.fe false yG 3 .int [tNo] [.bool] y.pre y.K)],[(yG,some (.box 3 false [.dat .int s]))]⟩ (lx C fn 3 .int rs (K y l s))):EN f rs pre K:=by
 intro l y s H w b lv h u q g z v r B d;have key:=Wz (P:=PR) j mixed o m t (A y s) (T:=3) (st:= .int) (rs:=rs) (vals:=[lv,h]) (x l y s d) i q g z rfl v;refine key (fun ρ e c k sv hk=> ?_)
 match k,hk with
 |0,hk=>
  have hk:some (SV.dat (.slice tNo) l)=some sv:=hk;simp only[jy] at hk;subst hk;exact⟨lv,rfl,by simp only[SV.den];rw[e];exact r⟩
 |1,hk=>
  have hk:some (SV.fe false yG 3 .int [tNo] [.bool] y.pre y.K)=some sv:=hk;simp only[jy] at hk;subst hk;refine⟨_,rfl,?_⟩;simp only[SV.den];intro p a;rw[c] at a;simp at a;subst a;exact⟨b,0,rfl,h,by rw[e];exact B,rfl⟩
 |k+2,hk=>cases hk
theorem uh {σ:St} {o:Nat} {s:Int} (h:Wv σ o=some s):∃c,σ.obj o=some (.box 3 false [c])/\yn σ .int c=some (s,[]):=by
 unfold Wv at h
 split at h
 case h_2=>cases h
 rename_i T c d
 split at h
 case h_2=>cases h
 rename_i e a b;simp at h;subst h;have:=jb a;subst this;exact⟨c,d,b⟩
theorem SA {q:Bool} {o T:Nat} {st:Ty} {ps rs:List Ty} {pre:(Ty.st ps).Data->st.Data->List Prop} {K:(Ty.st ps).Data->st.Data->(Ty.st rs).Data×st.Data} {y:FE} (h:jbB st ps rs pre K=some y):
 SV.fe q o T st ps rs pre K=SV.fe q o T .int [tNo] [.bool] y.pre y.K:=by
 unfold jbB at h
 split at h
 case isFalse=>cases h
 rename_i a
 split at h
 case isFalse=>cases h
 rename_i b
 split at h
 case isFalse=>cases h
 rename_i c;subst a;subst b;subst c;simp at h;subst h;rfl
theorem KU {v:SV} {o:Nat} {y:FE} (h:jdC v=some (o,y)):v= .fe false o 3 .int [tNo] [.bool] y.pre y.K:=by
 unfold jdC at h
 split at h
 case h_2=>cases h
 rename_i o' T st ps rs pre K
 split at h
 case h_2=>cases h
 rename_i c a b;simp at h;obtain⟨rfl,rfl⟩:=h;have:=jb a;subst this;exact SA b
theorem WC {σ:St} {b o:Nat} {y:FE} (h:jdY σ b=some (o,y)):∃T fz,σ.obj b=some (.box T fz [.fe false o 3 .int [tNo] [.bool] y.pre y.K]):=by
 unfold jdY at h
 split at h
 case h_2=>cases h
 rename_i d fz c a;rw[KU h] at a;exact⟨_,_,a⟩
abbrev jdZ (y:FE) (l:List NoD) (s:Int):(Ty.st [.int]).Data×Int:=(((vi y.K 0 l s).1,()),(vi y.K 0 l s).2)
abbrev jd0 (y:FE) (l:List NoD) (s:Int):(Ty.st [.bool]).Data×Int:=((decide (0<=(vi y.K 0 l s).1),()),(vi y.K 0 l s).2)
abbrev jd1 (y:FE) (l:List NoD) (s:Int):(Ty.st [.bool]).Data×Int:=((!decide (0<=(vi (gi y.K) 0 l s).1),()),(vi (gi y.K) 0 l s).2)
theorem Of (L:EN 66 [.int] (fun y l s=>cx y.pre y.K l s) jdZ) {σ:St} {svs:List SV} {out:Out} (h:Ww σ svs=some out) {B:qh} {ρ:Env} {w:World} {vals:List Value} (I:Sat PR B ρ σ.obj w) (C:SV.denL PR ρ svs vals)
 (t:vk out.vc):Calls PR 66 vals.toArray w (fun e w'=>∃v,e= .returned v/\kR PR B ρ σ out v w'):=by
 unfold Ww at h
 split at h
 case h_2=>cases h
 rename_i a c
 split at h
 case h_2=>cases h
 rename_i l fz o y M n
 split at h
 case h_2=>cases h
 rename_i s q O;simp at h;subst h;obtain⟨S,_⟩:=t;have F:=KU n;subst F;simp only[SV.denL] at C;obtain⟨D,_,rfl,E,vc,_,rfl,x,rfl⟩:=C;obtain⟨c,R,J⟩:=uh O;refine ly (st:= .int) (rs:=[.int]) (r:=jdZ y l s) I fz q R rfl (fun ρ1 b V u d g f N G Q m=> ?_);have A:=vJ σ fz;have P:=kU d A J (fun o i=>by simp at i) m;have p:=kU d A M (fun o i=>i) (SV.den_mono g a D (fun o i=>by simp at i) E);simp only[SV.den] at x;obtain⟨W,C',z,T,k,j⟩:=x _ (by rw[<-f];exact N);simp at z;obtain⟨rfl,rfl⟩:=z;have j:vc=T:=j;subst j;exact L l y s ρ1.H w b D vc u d.good G Q P p (FnE.mono g.H k) S
theorem Og (D:gx) (he:EN 163 [.bool] (fun y l s=>cx y.pre y.K l s) jd0) {σ:St} {svs:List SV} {out:Out} (h:Wx σ svs=some out) {B:qh} {ρ:Env} {w:World} {vals:List Value} (hS:Sat PR B ρ σ.obj w)
 (R:SV.denL PR ρ svs vals) (L:vk out.vc):Calls PR 163 vals.toArray w (fun e w'=>∃v,e= .returned v/\kR PR B ρ σ out v w'):=by
 unfold Wx at h
 split at h
 case h_2=>cases h
 rename_i a f j
 split at h
 case h_2=>cases h
 rename_i l fz o y hf hl E
 split at h
 case h_2=>cases h
 rename_i s I hs;simp at h;subst h;obtain⟨q1,_⟩:=L;simp only[SV.denL] at R;obtain⟨S,_,rfl,Z,vc,_,rfl,O,rfl⟩:=R;simp only[SV.den,SV.denL] at O;obtain⟨vs,rfl,v5,_,i,Y,rfl⟩:=O;have i:vs= #[v5]:=jI.1 (by simpa using i);subst i;have:=jb hf;subst this;obtain⟨c,hx,hc⟩:=uh hs;obtain⟨W,fz5,M⟩:=WC E;refine ly (st:= .int) (rs:=[.bool]) (r:=jd0 ⟨DF y.pre,gi y.K⟩ l s) hS (j::fz) I hx rfl (fun ρ1 b Cp u d G k hp hH hw C=> ?_);have x:=vJ σ (j::fz);have hu:=kU d x hc (fun o m=>by simp at m) C;have F:=kU d x hl (fun o m=>jp _ m) (SV.den_mono G a S (fun o m=>by simp at m) Z);have n:(σ.frz (j::fz)).obj j=some (.box W true [.fe false o 3 .int [tNo] [.bool] y.pre y.K]):=(by rw[(x j).2 (by simp),M];rfl);obtain⟨p5,J,b5,C5,N,rfl,hw5,g,_,A⟩:=d.obs j _ n;obtain⟨X,V,Q,q⟩:=Y _ (by rw[<-k];exact J);simp at Q;obtain⟨rfl,rfl⟩:=Q;subst q;simp only[SV.denL,SV.den] at g;obtain⟨T,_,t,hy,rfl⟩:=g;have t:N= #[T]:=jI.1 (by simpa using t);subst t;obtain⟨b',C',P,u',z,p⟩:=hy _ hp;simp at P;obtain⟨rfl,rfl⟩:=P;have p:T=u':=p;subst p;exact he l ⟨DF y.pre,gi y.K⟩ s ρ1.H w b S _ u d.good hH hw hu F (WB D z A) q1
theorem Oh (P:dg) (J:EN 119 [.bool] (fun y l s=>cx (DF y.pre) (gi y.K) l s) jd1) {σ:St} {svs:List SV} {out:Out} (h:YW σ svs=some out) {B:qh} {ρ:Env} {w:World} {vals:List Value} (G:Sat PR B ρ σ.obj w)
 (A:SV.denL PR ρ svs vals) (q:vk out.vc):Calls PR 119 vals.toArray w (fun e w'=>∃v,e= .returned v/\kR PR B ρ σ out v w'):=by
 unfold YW at h
 split at h
 case h_2=>cases h
 rename_i a f o
 split at h
 case h_2=>cases h
 rename_i l fz L M
 split at h
 case h_2=>cases h
 rename_i s p O;simp at h;subst h;obtain⟨T,_⟩:=q;simp only[SV.denL] at A;obtain⟨C,_,rfl,E,vc,_,rfl,t,rfl⟩:=A;simp only[SV.den,SV.denL] at t;obtain⟨vs,rfl,V,_,d,D,rfl⟩:=t;have d:vs= #[V]:=jI.1 (by simpa using d);subst d;have:=jb L;subst this;obtain⟨c,S,I⟩:=uh O;refine ly (st:= .int) (rs:=[.bool]) (r:=jd1 ⟨jdm,Qo⟩ l s) G fz p S rfl (fun ρ1 b W u g n i N F R k=> ?_);have z:=vJ σ fz;have Q:=kU g z I (fun o j=>by simp at j) k;have m:=kU g z M (fun o j=>j) (SV.den_mono n a C (fun o j=>by simp at j) E);obtain⟨X,C',x,ev⟩:=D _ (by rw[<-i];exact N);simp at x;obtain⟨rfl,rfl⟩:=x;subst ev;exact J l ⟨jdm,Qo⟩ s ρ1.H w b C _ u g.good F R Q m (Sz P ρ1.H b) T
theorem Oi {n:Nat} {fs:List (Nat×we)} {k:Nat} {e:St->List SV->Option Out} (c:mV fs) (b:enters PR k)
 (j:∀σ svs out,e σ svs=some out->∀B ρ w vals,Sat PR B ρ σ.obj w->SV.denL PR ρ svs vals->vk out.vc->Calls PR k vals.toArray w (fun e w'=>∃v,e= .returned v/\kR PR B ρ σ out v w')):(ZY n fs k e).ok PR:=by
 refine⟨Pp X3,dM c,PI,rfl,fun f dst σ svs out h=> ?_⟩;have a:(match Nat.beq f k with|true=>e σ svs|false=>none)=some out:=h
 split at a
 case h_2=>cases a
 rename_i l;have:=jb l;subst this;exact⟨b,fun B ρ w vals g i d _ _=>j σ svs out a B ρ w vals g i d⟩
theorem enI:EN 66 [.int] (fun y l s=>cx y.pre y.K l s) jdZ:=
 jbC (C:=ctx 19 [] []) (nT trivial trivial) Tryz.func66 (body:=wz Tryz.f66) (by kernel_rfl) (by kernel_rfl) (by kernel_rfl) (fun y s=>Wy y.K y.pre s) (fun l y s h=>bi.mpr eA l y s h)
theorem enC:EN 163 [.bool] (fun y l s=>cx y.pre y.K l s) jd0:=
 jbC (C:=ZY 9 [] 66 Ww) (Oi trivial (qO Tryz.func66 (c:=wz Tryz.f66) (by kernel_rfl) (by kernel_rfl)) (fun _ _ _ h _ _ _ _ b d a=>Of enI h b d a))
  Tryz.func163 (body:=wz Tryz.f163) (by kernel_rfl) (by kernel_rfl) (by kernel_rfl) (fun _ _ _=>none) (fun l y s h=>gY.mpr bU l y s h)
theorem enV:EN 119 [.bool] (fun y l s=>cx (DF y.pre) (gi y.K) l s) jd1:=
 jbC (C:=ZY 9 [] 163 Wx) (Oi trivial (qO Tryz.func163 (c:=wz Tryz.f163) (by kernel_rfl) (by kernel_rfl)) (fun _ _ _ h _ _ _ _ b d a=>Og (iS.mpr sG) enC h b d a))
  Tryz.func119 (body:=wz Tryz.f119) (by kernel_rfl) (by kernel_rfl) (by kernel_rfl) (fun _ _ _=>none) (fun l y s h=>nB.mpr Ae l y s h)
theorem noI:∀(l:List NoD) (i:Nat) (s:Int),(!decide (0<=(vi (gi Qo) i l s).1))=xa s l
 |[],i,s=>rfl
 |n::r,i,s=>by
  rw[KT,xa]
  have a:(gi Qo (n,()) s).1.1= !(Ij s n):=rfl
  have e2:(gi Qo (n,()) s).2=Xl n:=rfl
  rw[a,e2]
  cases b:Ij s n with
  |true=>rw[jd (by decide),noI r (i+1) (Xl n)];rfl
  |false=>
   rw[jh (by decide)]
   have:decide (0<=(i:Int))=true:=jH (by omega)
   show(!decide (0<=(i:Int)))=_
   rw[this];rfl
theorem jek:∀(l:List NoD) (s:Int),-4611686018427387904<=s->s<=4611686018427387904->cx (DF jdm) (gi Qo) l s
 |[],_,_,_=>trivial
 |n::r,s,h1,h2=>by
  refine⟨⟨⟨h1,h2,tZ⟩,tZ⟩,fun a=> ?_⟩
  have a:(!(Ij s n))=false:=a
  have a:Ij s n=true:=by simpa using a
  unfold Ij at a
  rw[ji,wO] at a
  exact jek r (Xl n) (by omega) (by omega)
theorem KV:sF:=by
 unfold sF jfu jfi jft jf1 jfs jf0 Prod.q4;rintro⟨⟨un,rt,le,dk,dw,ni,mi,cp,sb,no,⟨⟩⟩,⟨⟩⟩;have e:vD (un,rt,le,dk,dw,ni,mi,cp,sb,no,())=((kl un 1 240&&kl rt 0 10000&&kl le 0 20&&kl dk 0 1440&&kl dw 0 dk&&U.share ni&&kl mi 0 10000)&&
  (decide ((sb.length:Int)=4)&&sb.all (ko fun(x:Int×Unit)=>(U.share x.fst,()))&&kl cp 0 1000000&&decide ((no.length:Int)<=4)&&xa 100001 no)):=by
  have n:decide ((sb.length:Int)=4)=decide (sb.length=4):=decide_eq_decide.2 (by omega);have e2:decide ((no.length:Int)<=4)=decide (no.length<=4):=decide_eq_decide.2 (by omega);rw[n,e2];rfl
 simp only;refine⟨fun f=>⟨f,f,f,fun g=>⟨g,g,g,fun i=>⟨i,i,i,fun c=>⟨c,c,c,c,c,fun j=>⟨j,j,j,fun k=>⟨k,k,k,fun d=>⟨d,d,fun _=>⟨d,d,fun l=>⟨l,l,fun _ _=>tZ,l,fun m=>⟨m,m,m,fun a=>⟨a,a,fun _=>⟨a,a,fun b=>⟨b,b,b,jek no 100001 (by omega) (by omega),b,?_⟩,fun h=> ?_⟩⟩,fun h=> ?_⟩,fun h=> ?_⟩,fun h=> ?_⟩⟩,fun h=> ?_⟩,fun h=> ?_⟩,fun h=> ?_⟩,fun h=> ?_⟩,fun h=> ?_⟩,fun h=> ?_⟩,fun h=> ?_⟩
 .rw[noI,e];simp only[f,g,i,c,j,k,d,l,m,a,b,Bool.true_and]
 all_goals
  have q:=e;simp only[h,Bool.false_and,Bool.and_false] at q;simp only[h,q,and_self]
theorem HN:wn PR 89 sD:=
 jcs (Oi (n:=69) (fs:=[(38,gX),(118,bu),(86,df)]) (k:=119) (e:=YW) ⟨fun _=>vV,fun _=>FZ,fun _=>nV,tZ⟩
  (qO Tryz.func119 (c:=wz Tryz.f119) (by kernel_rfl) (by kernel_rfl)) (fun _ _ _ h _ _ _ _ b d a=>Oh (sC.mpr EC) enV h b d a))
  mixed Tryz.func89 (by kernel_rfl) (by kernel_rfl) (by kernel_rfl) (by decide) sE (Ad.mpr KV)
namespace U
def cmStep (m:List (Int×CaD)) (c:CaD):List (Int×CaD):=eQ .int (Ii c) c m
def pE (l:List CaD) (n:Nat):List (Int×CaD):=(l.take n).foldl cmStep []
def wv (l:LgD) (F:BoD×Unit->Bool×Unit):Bool:=(F ((l,[],()),())).1
end U
def SB:we:=⟨[.val tLg],[.int],false,fun d=>[(wu (kL d.1)).length<=100000],fun d=>(wC d.1,())⟩
def SC:Ann:=fun r=>match r with
 |14=>some fun σ=>{X:=Nat,sl:=fun i=>[(68,.dat .int (i:Int))],ob:=fun i=>[(64,some (.map false .int tCa (pE (gd (.slice tCa) σ 66) i)))],inv:=fun i=>i<=(gd (.slice tCa) σ 66).length/\∀b:Nat,b<i->gD (gd (.slice tCa) σ 66) b=false,mu:=fun i=>(gd (.slice tCa) σ 66).length-i}
 |_=>none
abbrev jge (d:LgD×Unit):=(d.1.1.2.2.1.length:Int)
abbrev ji2 (d:LgD×Unit):=(decide ((d.1.2.2.1.length:Int)≠(jge d))|| !d.1.2.2.1.all (ko fun(a:Int×Unit)=>(xb a.1,())))
abbrev ji3 (d:LgD×Unit):=(decide ((d.1.2.1.length:Int)≠(jge d))|| !d.1.2.1.all (ko fun(a:Int×Unit)=>(Ln a.1,())))
abbrev jg2 (d:LgD×Unit):=(d.1.q4.1.length:Int)
abbrev ji4 (d:LgD×Unit):=(!vD d.1.2.2.2.1||decide (10<(jg2 d))|| !d.1.q4.1.all (ko fun(a:CaD×Unit)=>(Xa (jge d) a.1,())))
abbrev jhz (d:LgD×Unit)(x:Nat):=(nth d.1.q4.1 x)
abbrev ji5 (d:LgD×Unit)(x:Nat):=(Zr (kO Ty.int (jhz d x).1 (pE d.1.q4.1 x))&& !decide (wa ((0:Int),(0:Int),(0:Int),()) (kO Ty.int (jhz d x).1 (pE d.1.q4.1 x))=nth d.1.q4.1 x))
def SD:Prop:=∀(d:LgD×Unit),(wu (kL d.1)).length<=100000->(wu d.1.1).length<=100000/\(decide (wx d.1.1≠0)=true->(wx d.1.1,())=(wC d.1,()))/\(decide (wx d.1.1≠0)=false->d.1.1.2.2.1.length<4611686018427387904->d.1.2.1.length<4611686018427387904->((!decide ((d.1.2.1.length:Int)≠(jge d)))=true->∀(g:Int),g∈d.1.2.1->kK [])/\((ji3 d)=true->((70:Int),())=(wC d.1,()))/\((ji3 d)=false->d.1.2.2.1.length<4611686018427387904->((!decide ((d.1.2.2.1.length:Int)≠(jge d)))=true->∀(g:Int),g∈d.1.2.2.1->kK [])/\((ji2 d)=true->((70:Int),())=(wC d.1,()))/\((ji2 d)=false->((!!vD d.1.2.2.2.1)=true->d.1.q4.1.length<4611686018427387904)->((!(!vD d.1.2.2.2.1||decide (10<(jg2 d))))=true->∀(c:CaD),c∈d.1.q4.1->kK [0<=(jge d),(jge d)<=4611686018427387904])/\((ji4 d)=true->((70:Int),())=(wC d.1,()))/\((ji4 d)=false->d.1.q4.1.length<4611686018427387904->(∃(x:Nat),((0=(x:Int)/\True)/\[]=pE d.1.q4.1 x/\True)/\x<=d.1.q4.1.length/\∀(b:Nat),b<x->gD d.1.q4.1 b=false)/\∀(x:Nat),(x<=d.1.q4.1.length/\∀(b:Nat),b<x->gD d.1.q4.1 b=false)->(decide ((x:Int)<(jg2 d))=true->0<=(x:Int)/\(x:Int)<(jg2 d)/\((ji5 d x)=true->((71:Int),())=(wC d.1,()))/\((ji5 d x)=false->kH ((x:Int)+1)/\∃(a:Nat),(((x:Int)+1=(a:Int)/\True)/\eQ Ty.int (jhz d x).1 (jhz d x) (pE d.1.q4.1 x)=pE d.1.q4.1 a/\True)/\(a<=d.1.q4.1.length/\∀(b:Nat),b<a->gD d.1.q4.1 b=false)/\d.1.q4.1.length-a<d.1.q4.1.length-x))/\(decide ((x:Int)<(jg2 d))=false->((0:Int),())=(wC d.1,()))))))
theorem KW {l:List CaD} {n:Nat} (h:n<l.length):pE l (n+1)=eQ .int (Ii (nth l n)) (nth l n) (pE l n):=by
 unfold pE;rw[L.wd h,jU];rfl
theorem WD (l:List CaD):∀x,x<=l.length->∀k:Int,(kO .int k (pE l x)=none->∀j,j<x->Ii (nth l j)≠k)/\(∀c,kO .int k (pE l x)=some c->∃j,j<x/\nth l j=c/\Ii c=k)
 |0,_,k=>⟨fun _ j a=>by omega,fun c h=>by cases h⟩
 |x+1,i,k=>by
  obtain⟨d,f⟩:=WD l x (by omega) k
  rw[KW (show x<l.length by omega)]
  by_cases e:k=Ii (nth l x)
  subst e
  rw[M.pF (kt:= .int)]
  refine⟨fun h=>(by cases h),fun c h=> ?_⟩
  simp only[jy] at h
  subst h
  exact⟨x,by omega,rfl,rfl⟩
  rw[M.dm (kt:= .int) e]
  refine⟨fun h j a=> ?_,fun c h=> ?_⟩
  by_cases e2:j=x
  subst e2;exact fun b=>e b.symm
  exact d h j (by omega)
  obtain⟨j,a,g⟩:=f c h
  exact⟨j,by omega,g⟩
theorem KX {l:List CaD} {i:Nat} (hi:i<=l.length):gD l i=true↔∃j,j<i/\Ii (nth l j)=Ii (nth l i)/\nth l j≠nth l i:=by
 unfold gD;rw[j9];constructor;rintro⟨x,d,h⟩;obtain⟨j,c,rfl⟩:=zc.1 d;simp only[ji,jm,jO,jF] at h;refine⟨j,by omega,?_⟩;rw[L.wW (show j<l.length by omega)];exact h;rintro⟨j,c,a,b⟩;refine⟨nth l j,zc.2 ⟨j,by omega,(L.wW (by omega)).symm⟩,?_⟩;simp only[ji,jm,jO,jF];exact⟨a,b⟩
theorem jbD {l:List CaD} {x:Nat} (u:x<l.length) (h:∀b:Nat,b<x->gD l b=false):
 (Zr (kO .int (nth l x).1 (pE l x))&& !decide (wa ((0:Int),(0:Int),(0:Int),()) (kO .int (nth l x).1 (pE l x))=nth l x))=gD l x:=by
 obtain⟨k,r⟩:=WD l x (by omega) (nth l x).1;have no:∀i j,i<j->j<x->Ii (nth l i)=Ii (nth l j)->nth l i=nth l j:=fun i j a f s=>by
  by_cases e:nth l i=nth l j;exact e;have:=(KX (show j<=l.length by omega)).2 ⟨i,a,s,e⟩;rw[h j f] at this;cases this
 rw[j0,KX (by omega)];cases p:kO (β:=CaD) .int (nth l x).1 (pE l x) with
 |none=>
  have k:=k p;constructor;intro t;cases t;rintro⟨j,f,e,_⟩;exact absurd e (k j f)
 |some c=>
  obtain⟨j,f,d,o⟩:=r c p;show(!decide (c=nth l x))=true↔_;rw[jO,jF];constructor;intro m;exact⟨j,f,by rw[d];exact o,by rw[d];exact m⟩;rintro⟨i,hi,q,e2⟩ g;have n:Ii (nth l i)=Ii (nth l j):=(by rw[d,q];exact o.symm);rcases Nat.lt_trichotomy i j with a|a|a;exact e2 (by rw[no i j a f n,d,g]);subst a;exact e2 (by rw[d,g]);exact e2 (by rw[<-no j i a hi n.symm,d,g])
theorem Oj {l:List CaD} {x:Nat} (a:x<l.length) (h:gD l x=true):yx l=true:=by
 unfold yx mj;rw[j9];exact⟨x,jA.2 a,h⟩
theorem KY {l:List CaD} (h:∀b:Nat,b<l.length->gD l b=false):yx l=false:=by
 unfold yx mj;rw[ze];intro b a;rw[h b (jA.1 a)];decide
theorem jd2 {b:Bool} (h:(!b)=true):b=false:=by cases b with|false=>rfl|true=>cases h
theorem jd3 {b:Bool} (h:(!b)=false):b=true:=by cases b with|true=>rfl|false=>cases h
theorem jel (a b:Nat) (p:Bool):(decide ((a:Int)≠(b:Int))|| !p)= !(decide (a=b)&&p):=by
 by_cases e:a=b;subst e;simp;have:(a:Int)≠(b:Int):=(by omega);simp[e,this]
theorem jbE (l:LgD):aQ l=((decide ((aL l).length=(kE (kL l)).length)&&(aL l).all Ln)&&(decide ((DE l).length=(kE (kL l)).length)&&(DE l).all xb)&&(vD (nZ l)&&(decide ((wi l).length<=10)&&(wi l).all (iU (kE (kL l)).length)))):=rfl
theorem WE:SD:=by
 unfold SD ji5 jhz ji4 jg2 ji3 ji2 jge Prod.q4;rintro⟨l,⟨⟩⟩ C;have y:∀v,wx (kL l)≠0->v=wx (kL l)->((v:Int),())=(wC l,()):=fun v h e=>by
  unfold wC;rw[jh h,e]
 have c:¬(wx (kL l)≠0)->aQ l=false->((70:Int),())=(wC l,()):=fun h e=>by
  unfold wC;rw[jd h,jh e]
 have o:¬(wx (kL l)≠0)->aQ l=true->yx (wi l)=true->((71:Int),())=(wC l,()):=fun h e e2=>by
  unfold wC;rw[jd h,jd (by rw[e];decide),jh e2]
 have n:¬(wx (kL l)≠0)->aQ l=true->yx (wi l)=false->((0:Int),())=(wC l,()):=fun h e e2=>by
  unfold wC;rw[jd h,jd (by rw[e];decide),jd (by rw[e2];decide)]
 have q:=jel (aL l).length (kE (kL l)).length ((aL l).all Ln);have r:=jel (DE l).length (kE (kL l)).length ((DE l).all xb);have s:(!vD (nZ l)||decide ((10:Int)<(wi l).length)|| !(wi l).all (iU (kE (kL l)).length))= !(vD (nZ l)&&(decide ((wi l).length<=10)&&(wi l).all (iU (kE (kL l)).length))):=by
  have:decide ((10:Int)<(wi l).length)= !decide ((wi l).length<=10):=by
   by_cases e:(wi l).length<=10;rw[jH e,zl (by omega)];rfl;rw[zl e,jH (by omega)];rfl
  rw[this];cases vD (nZ l)<;>cases decide ((wi l).length<=10)<;>rfl
 have m:=jbE l;refine⟨C,fun h=>y _ (ja h) rfl,fun h k _=>⟨fun _ _ _=>tZ,fun g=> ?_,fun g _=>⟨fun _ _ _=>tZ,fun i=> ?_,fun i _=>⟨fun _ _ _=>⟨jW _,?_,tZ⟩,fun j=> ?_,fun j w=>⟨⟨0,⟨⟨rfl,tZ⟩,rfl,tZ⟩,ju _,fun b u=>by omega⟩,fun x D=> ?_⟩⟩⟩⟩⟩;have g:=q.symm.trans g;refine c (jc h) ?_;rw[m,show(decide ((aL l).length=(kE (kL l)).length)&&(aL l).all Ln)=false from jd2 g];rfl;have i:=r.symm.trans i;refine c (jc h) ?_;rw[m,show(decide ((DE l).length=(kE (kL l)).length)&&(DE l).all xb)=false from jd2 i,Bool.and_false];rfl;have k:(kE (kL l)).length<4611686018427387904:=k;show((kE (kL l)).length:Int)<=4611686018427387904;omega;have j:=s.symm.trans j;refine c (jc h) ?_;rw[m,show(vD (nZ l)&&(decide ((wi l).length<=10)&&(wi l).all (iU (kE (kL l)).length)))=false from jd2 j,Bool.and_false];have z:=q.symm.trans g;have A:=r.symm.trans i;have B:=s.symm.trans j;have t:aQ l=true:=by
  rw[m,show(decide ((aL l).length=(kE (kL l)).length)&&(aL l).all Ln)=true from jd3 z,show(decide ((DE l).length=(kE (kL l)).length)&&(DE l).all xb)=true from jd3 A,show(vD (nZ l)&&(decide ((wi l).length<=10)&&(wi l).all (iU (kE (kL l)).length)))=true from jd3 B];rfl
 obtain⟨E,d⟩:x<=(wi l).length/\∀b:Nat,b<x->gD (wi l) b=false:=D;have w:(wi l).length<4611686018427387904:=w;refine⟨fun f=> ?_,fun f=> ?_⟩;have f:(x:Int)<(wi l).length:=ja f;have a:x<(wi l).length:=(by omega);have cc:=jbD a d;refine⟨jW _,f,fun p=> ?_,fun p=>⟨iZ6,x+1,⟨⟨by simp,tZ⟩,(KW a).symm,tZ⟩,⟨a,fun b u=> ?_⟩,by show(wi l).length-(x+1)<(wi l).length-x;omega⟩⟩;exact o (jc h) t (Oj a (cc.symm.trans p));by_cases e:b=x;subst e;exact cc.symm.trans p;exact d b (by omega);have f:¬(x:Int)<(wi l).length:=jc f;exact n (jc h) t (KY fun b u=>d b (by omega))
theorem SE:wn PR 59 SB:=qG SC WE Tryz.func59 (kcC FS (kcC HN (kcC nV (kcC KQ (kcC KR (kcC KS (kcC Df kcN))))))) koN
end Go.X
namespace Go.Proofs
open Go.Shelf
def Tryz.sortLn_ren:Go.Shelf.Ren:=⟨fun|6=>62|15=>93|14=>92|28=>130|29=>131|20=>122|21=>123|22=>124|23=>125|24=>126|25=>127|26=>128|27=>129|46=>166|47=>167|48=>168|49=>169|50=>170|57=>211|n=>n,fun|22=>45|24=>51|25=>117|3=>3|39=>105|0=>0|53=>180|55=>182|4=>4|46=>174|45=>173|50=>63|5=>5|9=>9|66=>207|70=>211|76=>234|77=>235|n=>n,fun|n=>n⟩
theorem Tryz.sortLn:Go.Proofs.SlLaysF0.n6 Tryz.prog Tryz.sortLn_ren:={
 mixed:=by kernel_rfl
 f6:=⟨Tryz.f62.name,by decide,xlay Tryz.func62⟩
 f14:=⟨Tryz.f92.name,by decide,xlay Tryz.func92⟩
 f15:=xlay Tryz.func93
 f20:=⟨Tryz.f122.name,by decide,xlay Tryz.func122⟩
 f21:=⟨Tryz.f123.name,by decide,xlay Tryz.func123⟩
 f22:=⟨Tryz.f124.name,by decide,xlay Tryz.func124⟩
 f23:=⟨Tryz.f125.name,by decide,xlay Tryz.func125⟩
 f24:=⟨Tryz.f126.name,by decide,xlay Tryz.func126⟩
 f25:=⟨Tryz.f127.name,by decide,xlay Tryz.func127⟩
 f26:=⟨Tryz.f128.name,by decide,xlay Tryz.func128⟩
 f27:=⟨Tryz.f129.name,by decide,xlay Tryz.func129⟩
 f28:=xlay Tryz.func130
 f29:=xlay Tryz.func131
 f46:=⟨Tryz.f166.name,by decide,xlay Tryz.func166⟩
 f47:=xlay Tryz.func167
 f48:=xlay Tryz.func168
 f49:=⟨Tryz.f169.name,by decide,xlay Tryz.func169⟩
 f50:=⟨Tryz.f170.name,by decide,xlay Tryz.func170⟩
 f57:=⟨Tryz.f211.name,by decide,xlay Tryz.func211⟩
 t0:=Tryz.underlying0
 a0:=Tryz.isAgg0
 z0:=Tryz.sizeOf0
 v0:=Tryz.zeroValue0
 t3:=Tryz.underlying3
 a3:=Tryz.isAgg3
 z3:=Tryz.sizeOf3
 v3:=Tryz.zeroValue3
 t4:=Tryz.underlying4
 a4:=Tryz.isAgg4
 z4:=Tryz.sizeOf4
 v4:=Tryz.zeroValue4
 t5:=Tryz.underlying5
 a5:=Tryz.isAgg5
 z5:=Tryz.sizeOf5
 v5:=Tryz.zeroValue5
 t9:=Tryz.underlying9
 a9:=Tryz.isAgg9
 z9:=Tryz.sizeOf9
 v9:=Tryz.zeroValue9
 t22:=Tryz.underlying45
 a22:=Tryz.isAgg45
 z22:=Tryz.sizeOf45
 v22:=Tryz.zeroValue45
 t25:=Tryz.underlying117
 a25:=Tryz.isAgg117
 z25:=Tryz.sizeOf117
 v25:=Tryz.zeroValue117
 t39:=Tryz.underlying105
 a39:=Tryz.isAgg105
 z39:=Tryz.sizeOf105
 v39:=Tryz.zeroValue105
 t45:=Tryz.underlying173
 a45:=Tryz.isAgg173
 z45:=Tryz.sizeOf173
 v45:=Tryz.zeroValue173
 t46:=Tryz.underlying174
 a46:=Tryz.isAgg174
 z46:=Tryz.sizeOf174
 v46:=Tryz.zeroValue174
 t50:=Tryz.underlying63
 a50:=Tryz.isAgg63
 z50:=Tryz.sizeOf63
 v50:=Tryz.zeroValue63
 t53:=Tryz.underlying180
 a53:=Tryz.isAgg180
 z53:=Tryz.sizeOf180
 v53:=Tryz.zeroValue180
 t55:=Tryz.underlying182
 a55:=Tryz.isAgg182
 z55:=Tryz.sizeOf182
 v55:=Tryz.zeroValue182
 t66:=Tryz.underlying207
 a66:=Tryz.isAgg207
 z66:=Tryz.sizeOf207
 v66:=Tryz.zeroValue207
 t70:=Tryz.underlying211
 a70:=Tryz.isAgg211
 z70:=Tryz.sizeOf211
 v70:=Tryz.zeroValue211
 t76:=Tryz.underlying234
 a76:=Tryz.isAgg234
 z76:=Tryz.sizeOf234
 v76:=Tryz.zeroValue234
 t77:=Tryz.underlying235
 a77:=Tryz.isAgg235
 z77:=Tryz.sizeOf235
 v77:=Tryz.zeroValue235}
end Go.Proofs
namespace Go.X
open U
open Go.Proofs
abbrev rwN:Sh:= .cl (.row 3 .int .no)
namespace U
def bl (o:Option BlD):BlD:=kV (Ty.dflt tBl) o
def Qp (m:List (Int×Option BlD)):Prop:=∀e∈m,∃b,e.2=some b/\pD b
def Lp (o:BoD):Prop:=Qp (OR o)/\(OR o).length<=100/\((OR o).map (·.1)).Nodup/\∀e∈OR o,∀b,e.2=some b->Ql b=e.1
def Qq (b:BlD) (a:Int) (out:List Int):Prop:=(qX b).length<=8/\(∀p∈qX b,0<=p/\p<(out.length:Int))/\0<=a/\a<=100000000000000000/\∀x∈out,-1000000000000000000<=x/\x<=1000000000000000000
end U
def sH:we:=⟨[.val tLn,.val tLn],[.int],false,fun _=>[],fun d=>(ux d.1 d.2.1,())⟩
def sI:Prop:=∀(d:JbD×JbD×Unit),(yj [ck d.1.1 d.2.1.1,ck d.1.2.1 d.2.1.2.1],())=(ux d.1 d.2.1,())
abbrev px:qk:=UQ tLn 51
def Af:we:=⟨[.val tBo],[.slice tLn],false,fun d=>[Lp d.1],fun d=>(kZ d.1,())⟩
def Ag:Ann:=fun r=>match r with
 |3=>some fun σ=>{X:=List (Int×Option BlD)×List LnD,sl:=fun _=>[(3,.own 3 tLn)],ob:=fun x=>[(8,some (.iter .int (.ptr tBl) x.1 none)),(3,some (.row 51 tLn false .yes x.2))],inv:=fun x=>(x.2++vg x.1).Perm (vg (OR (gb tBo σ 1)))/\Qp x.1,mu:=fun x=>x.1.length}
 |_=>none
abbrev jih (a:Int×Option BlD):=(kV ((((0:Int),(0:Int),(0:Int),(0:Int),(0:Int),(0:Int),()),(0:Int),(0:Int),(0:Int),()),((0:Int),(0:Int),(0:Int),(0:Int),(0:Int),(0:Int),(0:Int),(0:Int),[],[],()),(0:Int),(0:Int),[],(0:Int),(0:Int),false,(0:Int),()) a.2)
abbrev jhA:=(ku (Ty.int.pair (Ty.int.pair (Ty.int.pair (Ty.int.pair (Ty.int.pair (Ty.int.pair Ty.unit)))))) fun(a:JbD×JbD×Unit)=>(ux a.1 a.2.1,()))
def Ah:Prop:=∀(d:BoD×Unit),Lp d.1->(∃(x:List (Int×Option BlD)×List JbD),((True/\True)/\d.1.2.1=x.1/\x.2=[]/\True)/\(x.2++vg x.1).Perm (vg (OR d.1))/\Qp x.1)/\∀(x:List (Int×Option BlD)×List JbD),(x.2++vg x.1).Perm (vg (OR d.1))/\Qp x.1->(x.1=[]->(false=true->False)/\(qF->(∀(e:JbD),e∈x.2->∀(y:JbD),y∈x.2->kK [])/\q9 jhA x.2/\(kr jhA x.2,())=(kZ d.1,())))/\∀(pre:List (Int×Option BlD)) (a:Int×Option BlD) (b:List (Int×Option BlD)),x.1=pre++a::b->(true=true->a.2.isSome=true/\pD (jih a)/\(x.2.length+[qB (jih a)].length)*48<=140737488355328/\∃(c:List (Int×Option BlD)×List JbD),((True/\True)/\x.2++[qB (jih a)]=c.2/\pre++b=c.1/\True)/\((c.2++vg c.1).Perm (vg (OR d.1))/\Qp c.1)/\c.1.length<x.1.length)/\(true=false->(∀(f:JbD),f∈x.2->∀(y:JbD),y∈x.2->kK [])/\q9 jhA x.2/\(kr jhA x.2,())=(kZ d.1,()))
def HO:we:=⟨[.val (.slice .int)],[.int],false,fun d=>[d.1≠[]],fun d=>(gJ d.1,())⟩
def HP:Ann:=fun r=>match r with
 |5=>some fun σ=>{X:=Nat,sl:=fun i=>[(4,.dat .int (i:Int)),(3,.dat .int (((gd (.slice .int) σ 0).take i).foldl max (nth (gd (.slice .int) σ 0) 0)))],ob:=fun _=>[],inv:=fun i=>1<=i/\i<=(gd (.slice .int) σ 0).length,mu:=fun i=>(gd (.slice .int) σ 0).length-i}
 |_=>none
def HQ:Prop:=∀(d:List Int×Unit),d.1≠[]->d.1.length<4611686018427387904->(decide ((d.1.length:Int)<1)=true->False)/\(decide ((d.1.length:Int)<1)=false->(0:Int)<=0/\0<(d.1.length:Int)/\(∃(x:Nat),((1=(x:Int)/\nth d.1 (Int.toNat 0)=List.foldl max (nth d.1 0) (List.take x d.1)/\True)/\True)/\1<=x/\x<=d.1.length)/\∀(x:Nat),1<=x/\x<=d.1.length->d.1.length<4611686018427387904->(decide ((x:Int)<d.1.length)=true->0<=(x:Int)/\(x:Int)<d.1.length/\kH ((x:Int)+1)/\∃(a:Nat),(((x:Int)+1=(a:Int)/\max (List.foldl max (nth d.1 0) (List.take x d.1)) (nth d.1 x)=List.foldl max (nth d.1 0) (List.take a d.1)/\True)/\True)/\(1<=a/\a<=d.1.length)/\d.1.length-a<d.1.length-x)/\(decide ((x:Int)<d.1.length)=false->(List.foldl max (nth d.1 0) (List.take x d.1),())=(gJ d.1,())))
def Ai:qk:=⟨[.val (.ptr tBl),.val .int,.own rwN true],[],fun d=>[d.1.isSome=true,Qq (U.bl d.1) d.2.1 d.2.2.1],fun d=>((),(Zk d.2.1 (U.bl d.1) d.2.2.1,()))⟩
def Aj:Ann:=fun r=>match r with
 |1=>some fun σ=>{X:=Nat,sl:=fun i=>[(13,.dat .int (i:Int))],ob:=fun i=>[(1000002,some (.row 3 .int false .no (wB (gd .int σ 1) (gd (.slice .int) σ 11) (gr .int σ 1000002) i)))],inv:=fun i=>i<=(gd (.slice .int) σ 11).length,mu:=fun i=>(gd (.slice .int) σ 11).length-i}
 |_=>none
abbrev jeQ (d:Option BlD×Int×List Int×Unit):=(kV ((((0:Int),(0:Int),(0:Int),(0:Int),(0:Int),(0:Int),()),(0:Int),(0:Int),(0:Int),()),((0:Int),(0:Int),(0:Int),(0:Int),(0:Int),(0:Int),(0:Int),(0:Int),[],[],()),(0:Int),(0:Int),[],(0:Int),(0:Int),false,(0:Int),()) d.1)
abbrev jfI (d:Option BlD×Int×List Int×Unit):=(↑(jeQ d).q4.1.length:Int)
abbrev jgy (d:Option BlD×Int×List Int×Unit)(x:Nat):=(nth (jeQ d).q4.1 x)
abbrev jg3 (d:Option BlD×Int×List Int×Unit)(x:Nat):=(wB d.2.1 (jeQ d).q4.1 d.2.2.1 x)
abbrev jii (d:Option BlD×Int×List Int×Unit)(x:Nat):=(nth (jg3 d x) (jgy d x).toNat+d.2.1.tdiv (jfI d))
abbrev jg4 (d:Option BlD×Int×List Int×Unit)(x:Nat):=((jg3 d x).set (jgy d x).toNat (jii d x))
def Ak:Prop:=∀(d:Option BlD×Int×List Int×Unit),d.1.isSome=true->Qq (U.bl d.1) d.2.1 d.2.2.1->d.1.isSome=true/\((jeQ d).q4.1.length<4611686018427387904->(∃(x:Nat),((0=(x:Int)/\True)/\d.2.2.1=wB d.2.1 (jeQ d).q4.1 d.2.2.1 x/\True)/\x<=(jeQ d).q4.1.length)/\∀(x:Nat),x<=(jeQ d).q4.1.length->(decide ((x:Int)<(jfI d))=true->0<=(x:Int)/\(x:Int)<(jfI d)/\0<=nth (jeQ d).q4.1 x/\nth (jeQ d).q4.1 x<(↑(jg3 d x).length:Int)/\d.1.isSome=true/\(jfI d)≠0/\kH (d.2.1.tdiv (jfI d))/\kH (jii d x)/\0<=nth (jeQ d).q4.1 x/\nth (jeQ d).q4.1 x<(↑(jg3 d x).length:Int)/\d.1.isSome=true/\((jeQ d).q4.1.length<4611686018427387904->(jfI d)≠0/\(decide ((x:Int)<d.2.1.tmod (jfI d))=true->0<=nth (jeQ d).q4.1 x/\nth (jeQ d).q4.1 x<(↑(jg4 d x).length:Int)/\kH (nth (jg4 d x) (jgy d x).toNat+1)/\0<=nth (jeQ d).q4.1 x/\nth (jeQ d).q4.1 x<(↑(jg4 d x).length:Int)/\kH ((x:Int)+1)/\∃(a:Nat),(((x:Int)+1=(a:Int)/\True)/\(jg4 d x).set (jgy d x).toNat (nth (jg4 d x) (jgy d x).toNat+1)=wB d.2.1 (jeQ d).q4.1 d.2.2.1 a/\True)/\a<=(jeQ d).q4.1.length/\(jeQ d).q4.1.length-a<(jeQ d).q4.1.length-x)/\(decide ((x:Int)<d.2.1.tmod (jfI d))=false->kH ((x:Int)+1)/\∃(a:Nat),(((x:Int)+1=(a:Int)/\True)/\(jg3 d x).set (jgy d x).toNat (jii d x)=wB d.2.1 (jeQ d).q4.1 d.2.2.1 a/\True)/\a<=(jeQ d).q4.1.length/\(jeQ d).q4.1.length-a<(jeQ d).q4.1.length-x)))/\(decide ((x:Int)<(jfI d))=false->()=()/\(wB d.2.1 (jeQ d).q4.1 d.2.2.1 x,())=(Zk d.2.1 (U.bl d.1) d.2.2.1,())))
theorem ui:sI:=fun _=>rfl
theorem sJ:wn PR 63 sH:=kY ui Tryz.func63 (kcC yg (kcC ba kcN)) koN
theorem pz:yR PR 62 px:=
 B8 Tryz.sortLn 51 rfl (jz (by kernel_rfl)) Tryz.isAgg51 Tryz.sizeOf51 (qO Tryz.func62 (c:=wz Tryz.f62) (by kernel_rfl) (by kernel_rfl))
theorem YX:fG ux:=by
 have e:ux=Tm (fun a b=>ck (Aq a) (Aq b)) (fun a b=>ck (Iq a) (Iq b)):=by
  funext a b;unfold ux;simp only[wG,Tm]
  split<;>(try rfl)
  split<;>(try rfl)
  rename_i h;exact(jP.1 h).symm
 rw[e];exact o8 (nU lI Aq) (nU lI Iq)
theorem WG {a b:LnD} (h:ux a b=0):Iq a=Iq b:=by
 unfold ux at h;rw[wG] at h
 split at h
 contradiction;rw[qP] at h;exact ae.1 h
def jem (l:List LnD):Prop:=∀a∈l,∀b∈l,Iq a=Iq b->a=b
theorem jd4 {l:List LnD} (h:jem l):q9 (ku tLn fun x=>(ux x.1 x.2.1,())) l:=AG YX (fun a b d e c=>h a d b e (WG c))
theorem F0 {o:BoD} (h:Lp o):jem (vg (OR o)):=by
 obtain⟨j,_,c,d⟩:=h;intro a s b t e;obtain⟨x,f,rfl⟩:=jV.1 s;obtain⟨y,g,rfl⟩:=jV.1 t;obtain⟨p,l,_⟩:=j x f;obtain⟨q,m,_⟩:=j y g;have u:=d x f p l;have w:=d y g q m;rw[l,m] at e;have e:Ql p=Ql q:=e;have n:x.1=y.1:=(by rw[<-u,<-w,e]);have i:=(M.mT (kt:= .int) c (k:=x.1) (v:=x.2)).2 f;have r:=(M.mT (kt:= .int) c (k:=y.1) (v:=y.2)).2 g;rw[n,r] at i;have e2:y.2=x.2:=(by simpa using i);rw[e2]
theorem Dl:Ah:=by
 unfold Ah jhA jih;rintro⟨o,⟨⟩⟩ n;have p:=F0 n;obtain⟨s,d,t,u⟩:=id n;have d:(OR o).length<=100:=d;refine⟨⟨(OR o,[]),⟨⟨tZ,tZ⟩,rfl,rfl,tZ⟩,List.Perm.refl _,s⟩,fun x q=>⟨fun i=>⟨fun h=>(by cases h),fun _=>⟨fun _ _ _ _=>tZ,?_⟩⟩,fun pre e c j=>⟨fun _=> ?_,fun h=>(by cases h)⟩⟩⟩;obtain⟨l,out⟩:=x;have i:l=[]:=i;subst i;have f:(out++[]).Perm (vg (OR o)):=q.1;rw[j8] at f;exact⟨jd4 fun a r b g=>p a (f.mem_iff.1 r) b (f.mem_iff.1 g),jG (·,()) (Je (jd4 p) f)⟩;obtain⟨l,out⟩:=x;have j:l=pre++e::c:=j;subst j;obtain⟨f,hk⟩:(out++vg (pre++e::c)).Perm (vg (OR o))/\Qp (pre++e::c):=q;obtain⟨b,g,v⟩:=hk e (by simp);have m:=f.length_eq;simp only[vg,jL,zp,j7] at m;obtain⟨k,z⟩:=e;have g:z=some b:=g;subst g;refine⟨rfl,v,by simp only[j7,zo];omega,(pre++c,out++[qB b]),⟨⟨tZ,tZ⟩,rfl,rfl,tZ⟩,⟨?_,fun y w=>hk y ?_⟩,by simp only[jL,j7];omega⟩;refine List.Perm.trans ?_ f;simp only[vg,zz,zx,jM,List.singleton_append];exact List.Perm.append_left out List.perm_middle.symm;rcases js.1 w with h|h;exact jg _ h;exact je _ (jp _ h)
theorem iq:wn PR 35 Af:=qG Ag Dl Tryz.func35 (kcC ag (kcC sJ kcN)) (koC pz koN)
theorem KZ:HQ:=by
 rintro⟨l,⟨⟩⟩ a c;have a:l≠[]:=a;have b:0<l.length:=List.length_pos_iff.2 a;refine⟨fun h=> ?_,fun _=>⟨by decide,by simp only;omega,⟨1,⟨⟨rfl,?_,tZ⟩,tZ⟩,jk _,b⟩,fun x d _=>⟨fun h=> ?_,fun h=> ?_⟩⟩⟩;have h:(l.length:Int)<1:=ja h;omega;show nth l 0=List.foldl max (nth l 0) (l.take 1);have:=L.wd (l:=l) (i:=0) b;rw[this];show nth l 0=max (nth l 0) (nth l 0);omega;have h:(x:Int)<l.length:=ja h;have c:l.length<4611686018427387904:=c;refine⟨jW _,h,iZ6,x+1,⟨⟨by simp,?_,tZ⟩,tZ⟩,⟨by omega,by show x+1<=l.length;omega⟩,by show l.length-(x+1)<l.length-x;omega⟩;show max (List.foldl max (nth l 0) (l.take x)) (nth l x)=List.foldl max (nth l 0) (l.take (x+1));rw[L.wd (show x<l.length by omega),jU];rfl;have h:¬(x:Int)<l.length:=jc h;show(List.foldl max (nth l 0) (l.take x),())=(gJ l,());rw[zv (by omega)];rfl
theorem HR:wn PR 72 HO:=qG HP KZ Tryz.func72 kcN koN
theorem F3 (a:Int) (tm out:List Int) (k:Nat):wB a tm out (k+1)=Ik a tm (wB a tm out k) k:=by
 unfold wB;rw[zi,jU];rfl
theorem Dm {a M:Int} {tm out:List Int} (h:0<=a/\a<=100000000000000000) (d:∀p∈tm,0<=p/\p<(out.length:Int)) (c:∀x∈out,-1000000000000000000<=x/\x<=M):
 ∀k,k<=tm.length->(wB a tm out k).length=out.length/\∀j,j<out.length->-1000000000000000000<=nth (wB a tm out k) j/\nth (wB a tm out k) j<=M+(k:Int)*100000000000000001
 |0,_=>⟨rfl,fun j e=>by
  have:=c _ (L.kB e)
  show _<=nth out j/\nth out j<=_
  omega⟩
 |k+1,hk=>by
  obtain⟨f,g⟩:=Dm h d c k (by omega)
  have m:=d _ (L.kB (show k<tm.length by omega))
  have n:=YR (b:=(tm.length:Int)) h (by omega)
  rw[F3]
  unfold Ik
  refine⟨by rw[ki,f],fun j e=> ?_⟩
  rw[L.ai (by rw[f];omega)]
  have i:=g j e
  have l:=g (nth tm k).toNat (by omega)
  split
  split<;>omega
  omega
theorem Dn:Ak:=by
 unfold Ak jg4 jii jg3 jgy jfI jeQ Prod.q4;rintro⟨o,a,out,⟨⟩⟩ j w;obtain⟨b,rfl⟩:∃b,o=some b:=Option.isSome_iff_exists.1 j;obtain⟨z,p,q,r,v⟩:Qq b a out:=w;have F:=Dm (tm:=qX b) ⟨q,r⟩ p v;refine⟨rfl,fun B=>⟨⟨0,⟨⟨rfl,tZ⟩,rfl,tZ⟩,ju _⟩,fun x t=>⟨fun h=> ?_,fun h=>⟨rfl,?_⟩⟩⟩⟩;have h:(x:Int)<(qX b).length:=ja h;have n:x<(qX b).length:=(by omega);obtain⟨k,u⟩:=F x (by omega);have d:=p _ (L.kB n);have y:=YR (b:=((qX b).length:Int)) ⟨q,r⟩ (by omega);have A:=u (nth (qX b) x).toNat (by omega);have l:(nth (qX b) x).toNat<(wB a (qX b) out x).length:=(by rw[k];omega);have j:=F3 a (qX b) out x;have f:((qX b).length:Int)≠0:=(by omega);have g:nth (qX b) x<((wB a (qX b) out x).length:Int):=(by rw[k];exact d.2);have s:nth ((wB a (qX b) out x).set (nth (qX b) x).toNat (nth (wB a (qX b) out x) (nth (qX b) x).toNat+a.tdiv ((qX b).length:Int))) (nth (qX b) x).toNat=nth (wB a (qX b) out x) (nth (qX b) x).toNat+a.tdiv ((qX b).length:Int):=by
  rw[L.ai l,jh rfl]
 refine⟨jW _,h,d.1,g,rfl,f,C6 y (by omega),L.E0 (by show _<=nth (wB a (qX b) out x) (nth (qX b) x).toNat+a.tdiv ((qX b).length:Int);omega) (by show nth (wB a (qX b) out x) (nth (qX b) x).toNat+a.tdiv ((qX b).length:Int)<=_;omega),d.1,g,rfl,fun _=>⟨f,fun c=> ?_,fun c=> ?_⟩⟩;have c:(x:Int)<a.tmod ((qX b).length:Int):=ja c;have m:((wB a (qX b) out x).set (nth (qX b) x).toNat (nth (wB a (qX b) out x) (nth (qX b) x).toNat+a.tdiv ((qX b).length:Int))).length=out.length:=(by rw[ki,k]);have i:nth (qX b) x<(((wB a (qX b) out x).set (nth (qX b) x).toNat (nth (wB a (qX b) out x) (nth (qX b) x).toNat+a.tdiv ((qX b).length:Int))).length:Int):=(by rw[m];exact d.2);refine⟨d.1,i,?_,d.1,i,iZ6,x+1,⟨⟨by simp,tZ⟩,?_,tZ⟩,by show x+1<=(qX b).length;omega,by show(qX b).length-(x+1)<(qX b).length-x;omega⟩;show kH (nth ((wB a (qX b) out x).set (nth (qX b) x).toNat (nth (wB a (qX b) out x) (nth (qX b) x).toNat+a.tdiv ((qX b).length:Int))) (nth (qX b) x).toNat+1);rw[s];exact iZ6;show((wB a (qX b) out x).set (nth (qX b) x).toNat (nth (wB a (qX b) out x) (nth (qX b) x).toNat+a.tdiv ((qX b).length:Int))).set (nth (qX b) x).toNat (nth ((wB a (qX b) out x).set (nth (qX b) x).toNat (nth (wB a (qX b) out x) (nth (qX b) x).toNat+a.tdiv ((qX b).length:Int))) (nth (qX b) x).toNat+1)=wB a (qX b) out (x+1);rw[s,List.set_set,j];unfold Ik;rw[jh c];have c:¬(x:Int)<a.tmod ((qX b).length:Int):=jc c;refine⟨iZ6,x+1,⟨⟨by simp,tZ⟩,?_,tZ⟩,by show x+1<=(qX b).length;omega,by show(qX b).length-(x+1)<(qX b).length-x;omega⟩;show(wB a (qX b) out x).set (nth (qX b) x).toNat (nth (wB a (qX b) out x) (nth (qX b) x).toNat+a.tdiv ((qX b).length:Int))=wB a (qX b) out (x+1);rw[j];unfold Ik;rw[jd c,Int.add_zero];have h:¬(x:Int)<(qX b).length:=jc h;have t:x<=(qX b).length:=t;have e:x=(qX b).length:=(by omega);subst e;rfl
theorem Al:yR PR 71 Ai:=rK Aj Dn Tryz.func71 kcN koN
namespace U
def Xb (o:BoD):Prop:=Lp o/\(aL (b9 o)).length<=100/\(∀n∈aL (b9 o),0<=n/\n<=20)/\∀e∈OR o,∀b,e.2=some b->Qm b∈aL (b9 o)
def Xc (o:BoD):Prop:=Lp o/\(kz (kD (kL (b9 o)))).length<=100/\∀e∈OR o,∀b,e.2=some b->∀p∈qX b,0<=p/\p<((kz (kD (kL (b9 o)))).length:Int)
end U
def uj:we:=⟨[.val tBo],[.slice .int],false,fun d=>[Xb d.1],fun d=>(Te d.1,())⟩
def uk:Ann:=fun r=>match r with
 |5=>some fun σ=>{X:=Nat,sl:=fun i=>[(20,.dat .int (i:Int))],ob:=fun i=>[(3,some (.row 3 .int false .no (gM (gJ (aL (b9 (gb tBo σ 1)))+1).toNat (gd (.slice tLn) σ 18) i)))],inv:=fun i=>i<=(gd (.slice tLn) σ 18).length,mu:=fun i=>(gd (.slice tLn) σ 18).length-i}
 |_=>none
abbrev jfJ (d:BoD×Unit)(x:Nat):=(nth (kZ d.1) x)
abbrev jhB (d:BoD×Unit):=(gJ (aL (b9 d.1))+1)
abbrev jg5 (d:BoD×Unit)(x:Nat):=(gM (jhB d).toNat (kZ d.1) x)
def ul:Prop:=∀(d:BoD×Unit),Xb d.1->d.1.1.2.1.length<4611686018427387904->(decide ((d.1.1.2.1.length:Int)=0)=true->([],())=(Te d.1,()))/\(decide ((d.1.1.2.1.length:Int)=0)=false->d.1.1.2.1≠[]/\kH (gJ d.1.1.2.1+1)/\0<=gJ d.1.1.2.1+1/\gJ d.1.1.2.1+1=gJ d.1.1.2.1+1/\(gJ d.1.1.2.1+1).toNat*8<=140737488355328/\Lp d.1/\((kZ d.1).length<4611686018427387904->(∃(x:Nat),((0=(x:Int)/\True)/\List.replicate (gJ d.1.1.2.1+1).toNat 0=gM (jhB d).toNat (kZ d.1) x/\True)/\x<=(kZ d.1).length)/\∀(x:Nat),x<=(kZ d.1).length->(decide ((x:Int)<(kZ d.1).length)=true->0<=(x:Int)/\(x:Int)<(kZ d.1).length/\(0:Int)<=(jfJ d x).1/\(jfJ d x).1<(↑(jg5 d x).length:Int)/\kH (nth (jg5 d x) (jfJ d x).1.toNat+(jfJ d x).q4.2.1)/\(0:Int)<=(jfJ d x).1/\(jfJ d x).1<(↑(jg5 d x).length:Int)/\kH ((x:Int)+1)/\∃(a:Nat),(((x:Int)+1=(a:Int)/\True)/\(jg5 d x).set (jfJ d x).1.toNat (nth (jg5 d x) (jfJ d x).1.toNat+(jfJ d x).q4.2.1)=gM (jhB d).toNat (kZ d.1) a/\True)/\a<=(kZ d.1).length/\(kZ d.1).length-a<(kZ d.1).length-x)/\(decide ((x:Int)<(kZ d.1).length)=false->(gM (jhB d).toNat (kZ d.1) x,())=(Te d.1,()))))
def ED:we:=⟨[.val tBo,.val .int],[.slice .int],false,fun d=>[Xc d.1],fun d=>(Tf d.1 d.2.1,())⟩
abbrev jfv (d:BoD×Int×Unit):=(wa none (kO Ty.int d.2.1 d.1.2.1))
abbrev jg6 (d:BoD×Int×Unit):=(kV ((((0:Int),(0:Int),(0:Int),(0:Int),(0:Int),(0:Int),()),(0:Int),(0:Int),(0:Int),()),((0:Int),(0:Int),(0:Int),(0:Int),(0:Int),(0:Int),(0:Int),(0:Int),[],[],()),(0:Int),(0:Int),[],(0:Int),(0:Int),false,(0:Int),()) (jfv d))
abbrev jgf (d:BoD×Int×Unit):=(d.1.1.1.1.2.1.length:Int)
abbrev ji6 (d:BoD×Int×Unit):=(Zk (qB (jg6 d)).2.2.1 (U.bl (jfv d)) (List.replicate (jgf d).toNat (0:Int)))
def EE:Prop:=∀(d:BoD×Int×Unit),Xc d.1->d.1.1.1.1.2.1.length<4611686018427387904->0<=(jgf d)/\(jgf d)=(jgf d)/\(jgf d).toNat*8<=140737488355328/\((!(jfv d).isNone)=true->(jfv d).isSome=true/\pD (jg6 d)/\(jfv d).isSome=true/\Qq (U.bl (jfv d)) (qB (jg6 d)).2.2.1 (List.replicate (jgf d).toNat (0:Int))/\(jfv d).isSome=true/\Qq (U.bl (jfv d)) (qB (jg6 d)).2.2.2.1 (ji6 d)/\(Zk (qB (jg6 d)).2.2.2.1 (U.bl (jfv d)) (ji6 d),())=(Tf d.1 d.2.1,()))/\((!(jfv d).isNone)=false->(List.replicate (jgf d).toNat (0:Int),())=(Tf d.1 d.2.1,()))
theorem HS:EE:=by
 unfold EE ji6 jgf jg6 jfv;intro d A E;obtain⟨m,l,k⟩:Xc d.1:=A;have l:(kz (kD (kL (b9 d.1)))).length<=100:=l;refine⟨jW _,rfl,?_,fun h=> ?_,fun h=> ?_⟩;show(((kz (kD (kL (b9 d.1)))).length:Int)).toNat*8<=140737488355328;omega;obtain⟨b,e⟩:∃b,wa none (kO Ty.int d.2.1 d.1.2.1)=some b:=by
  cases g:wa none (kO Ty.int d.2.1 d.1.2.1) with
  |none=>rw[g] at h;cases h
  |some b=>exact⟨b,rfl⟩
 have i:(d.2.1,some b)∈OR d.1:=by
  refine(M.mT (kt:= .int) m.2.2.1).1 ?_;cases g:kO (β:=Option BlD) Ty.int d.2.1 d.1.2.1 with
  |none=>rw[g] at e;cases e
  |some v=>rw[g] at e;exact g.trans (jG some e)
 obtain⟨z,o,u⟩:=m.1 _ i;have o:some b=some z:=o;simp only[jy] at o;subst o;have w:KI b:=bh.1 u;have D:=k _ i b rfl;have n:=w.bl.tm;have s:=P5 w;have C:=P6 w;have ep:Tf d.1 d.2.1=jb1 (kz (kD (kL (b9 d.1)))).length (some b):=jG (jb1 (kz (kD (kL (b9 d.1)))).length) e;rw[e,ep];have f:∀p∈qX b,0<=p/\p<((List.replicate (kz (kD (kL (b9 d.1)))).length (0:Int)).length:Int):=fun p q=>by rw[zu];exact D p q
 obtain⟨r,y⟩:=Dm (a:=vE b) (M:=0) (tm:=qX b) ⟨s.1,by omega⟩ f (fun x c=>by rw[List.eq_of_mem_replicate c];omega) (qX b).length (jk _);refine⟨rfl,u,rfl,⟨n,f,s.1,?_,fun x c=> ?_⟩,rfl,⟨n,fun p q=> ?_,C.1,?_,fun x c=> ?_⟩,rfl⟩;show vE b<=100000000000000000;omega;have c:x∈List.replicate (kz (kD (kL (b9 d.1)))).length (0:Int):=c;rw[List.eq_of_mem_replicate c];omega;have B:=f p q;show 0<=p/\p<((wB (vE b) (qX b) (List.replicate (kz (kD (kL (b9 d.1)))).length (0:Int)) (qX b).length).length:Int);rw[r];exact B;show ym b<=100000000000000000;omega;have c:x∈wB (vE b) (qX b) (List.replicate (kz (kD (kL (b9 d.1)))).length (0:Int)) (qX b).length:=c;obtain⟨j,t,rfl⟩:=L.mem_iff.1 c;have:=y j (by rw[r] at t;exact t);omega;have e:wa none (kO Ty.int d.2.1 d.1.2.1)=none:=by
  cases g:wa none (kO Ty.int d.2.1 d.1.2.1) with
  |none=>rfl
  |some b=>rw[g] at h;cases h
 have ep:Tf d.1 d.2.1=jb1 (kz (kD (kL (b9 d.1)))).length none:=jG (jb1 (kz (kD (kL (b9 d.1)))).length) e;rw[ep];rfl
theorem EF:wn PR 45 ED:=kY HS Tryz.func45 (kcC ag kcN) (koC Al koN)
theorem Ol {b:BlD} (w:KI b): -1000000<=Tr (qB b)/\Tr (qB b)<=20000000000000000:=by
 have c:=P5 w;have d:=P6 w;have e:=w.bl.ta.cp;have a:0<=(vE b+ym b)*nth (dp (yX b)) (l8 (y7 (qt b))).toNat/\(vE b+ym b)*nth (dp (yX b)) (l8 (y7 (qt b))).toNat<=10000001000000000*100:=YQ (by omega) (ZX w.bl);have f:=YR (b:=100) a (by omega);show-1000000<=vE b+ym b-Qn b/\vE b+ym b-Qn b<=20000000000000000;unfold Qn;omega
theorem SF {o:BoD} (h:Lp o) {x:LnD} (c:x∈kZ o):∃k b,(k,some b)∈OR o/\KI b/\x=qB b:=by
 have c:x∈vg (OR o):=(wF _).mem_iff.1 c;obtain⟨⟨k,v⟩,d,rfl⟩:=jV.1 c;obtain⟨b,a,e⟩:=h.1 _ d;have a:v=some b:=a;subst a;exact⟨k,b,d,bh.1 e,rfl⟩
theorem SG {o:BoD} (h:Lp o):(kZ o).length<=100:=by
 have e:(kZ o).length=(vg (OR o)).length:=(wF _).length_eq;have e2:(vg (OR o)).length=(OR o).length:=zp _;have:=h.2.1;omega
theorem Do:∀(l:List Int) (a:Int),a<=l.foldl max a/\(∀n∈l,n<=l.foldl max a)/\(l.foldl max a=a\/l.foldl max a∈l)
 |[],a=>⟨zT _,fun n c=>(by cases c),Or.inl rfl⟩
 |x::r,a=>by
  obtain⟨e,d,b⟩:=Do r (max a x)
  show a<=r.foldl max (max a x)/\_/\(r.foldl max (max a x)=a\/r.foldl max (max a x)∈x::r)
  refine⟨by omega,fun n c=> ?_,?_⟩
  show n<=r.foldl max (max a x)
  rcases jj.1 c with rfl|c
  omega
  exact d n c
  rcases b with b|b
  rcases Int.le_total a x with h|h
  right;rw[b,Int.max_eq_right h];simp
  left;rw[b,Int.max_eq_left h]
  right;exact jp _ b
theorem jbF {l:List Int} {n:Int} (h:n∈l):n<=gJ l:=(Do l (nth l 0)).2.1 n h
theorem YY {l:List Int} (h:l≠[]):gJ l∈l:=by
 rcases(Do l (nth l 0)).2.2 with a|a;have:gJ l=nth l 0:=a;rw[this];exact L.kB (List.length_pos_iff.2 h);exact a
theorem F4 {n:Nat} {l:List LnD} {k:Nat} (h:k<l.length):gM n l (k+1)=Zj (gM n l k) (nth l k):=by
 unfold gM;rw[L.wd h,jU];rfl
theorem K0 {n:Nat} {l:List LnD} (h:∀x∈l,(0<=Aq x/\Aq x<(n:Int))/\-1000000<=Tr x/\Tr x<=20000000000000000):
 ∀k,k<=l.length->(gM n l k).length=n/\∀j,j<n->-1000000*(k:Int)<=nth (gM n l k) j/\nth (gM n l k) j<=20000000000000000*(k:Int)
 |0,_=>⟨zu,fun j a=>by
  have:nth (gM n l 0) j=0:=L.AP a
  rw[this];omega⟩
 |k+1,hk=>by
  obtain⟨b,c⟩:=K0 h k (by omega)
  obtain⟨⟨f,g⟩,i,m⟩:=h _ (L.kB (show k<l.length by omega))
  rw[F4 (by omega)]
  unfold Zj
  refine⟨by rw[ki,b],fun j a=> ?_⟩
  rw[L.ai (by rw[b];omega)]
  have d:=c j a
  have e:=c (Aq (nth l k)).toNat (by omega)
  split<;>omega
theorem Am:ul:=by
 unfold ul jg5 jhB jfJ Prod.q4;intro d s C;obtain⟨c,a,i,w⟩:Xb d.1:=s;have a:(aL (b9 d.1)).length<=100:=a;refine⟨fun h=> ?_,fun h=> ?_⟩;have h:((aL (b9 d.1)).length:Int)=0:=ja h;have e:Te d.1=[]:=jh (by omega);rw[e];have h:¬((aL (b9 d.1)).length:Int)=0:=jc h;have g:aL (b9 d.1)≠[]:=fun e=>h (by rw[e];rfl)
 have D:=i _ (YY g);have e:Te d.1=gM (gJ (aL (b9 d.1))+1).toNat (kZ d.1) (kZ d.1).length:=jd (by omega);have m:∀x∈kZ d.1,(0<=Aq x/\Aq x<(((gJ (aL (b9 d.1))+1).toNat:Nat):Int))/\-1000000<=Tr x/\Tr x<=20000000000000000:=fun x m=>by
  obtain⟨k,b,t,u,rfl⟩:=SF c m;have n:=w _ t b rfl;have A:=jbF n;have v:=i _ n;refine⟨⟨v.1,?_⟩,Ol u⟩;show Qm b<_;omega
 have F:=K0 m;have B:=SG c;refine⟨g,L.E0 (by show _<=gJ (aL (b9 d.1))+1;omega) (by show gJ (aL (b9 d.1))+1<=_;omega),by show 0<=gJ (aL (b9 d.1))+1;omega,rfl,by show(gJ (aL (b9 d.1))+1).toNat*8<=140737488355328;omega,c,fun _=>⟨⟨0,⟨⟨rfl,tZ⟩,rfl,tZ⟩,ju _⟩,fun x j=>⟨fun f=> ?_,fun f=> ?_⟩⟩⟩;have f:(x:Int)<(kZ d.1).length:=ja f;have l:x<(kZ d.1).length:=(by omega);obtain⟨⟨o,y⟩,E,G⟩:=m _ (L.kB l);obtain⟨q,r⟩:=F x (by omega);have z:=r (Aq (nth (kZ d.1) x)).toNat (by omega);have p:Aq (nth (kZ d.1) x)<((gM (gJ (aL (b9 d.1))+1).toNat (kZ d.1) x).length:Int):=(by rw[q];exact y);refine⟨jW _,f,o,p,?_,o,p,iZ6,x+1,⟨⟨by simp,tZ⟩,(F4 l).symm,tZ⟩,by show x+1<=(kZ d.1).length;omega,by show(kZ d.1).length-(x+1)<(kZ d.1).length-x;omega⟩;show kH (nth (gM (gJ (aL (b9 d.1))+1).toNat (kZ d.1) x) (Aq (nth (kZ d.1) x)).toNat+Tr (nth (kZ d.1) x));exact iZ6;have f:¬(x:Int)<(kZ d.1).length:=jc f;have j:x<=(kZ d.1).length:=j;have ex:x=(kZ d.1).length:=(by omega);subst ex;rw[e]
theorem um:wn PR 46 uj:=qG uk Am Tryz.func46 (kcC HR (kcC iq kcN)) koN
namespace U
def bo (l:LgD):BoD:=(l,LD l,())
def nE (l:LgD):List LnD:=if wC l=0 then kZ (bo l) else[]
def Lq (l:LgD):List Int:=if wC l=0 then Te (bo l) else[]
def qT (l:LgD) (n:Int):Bool:=kl n 0 (((kE (kL l)).length:Int)-1)
def Lr (l:LgD) (n:Int):List Int:=if wV l (qT l n)=0 then Tf (bo l) n else[]
def yo (m:Int):Bool:=kl m (-100000) 1440
def vW (m:Int):Bool:=kl m 0 1000000000
def EY (l:LgD) (n m:Int):Int:=if wV l (qT l n&&yo m)=0 then(match OS (bo l) n with|some b=>Tr (qB b)-qf m b|none=>0) else 0
end U
theorem HT {l:LgD} {e:Int×Option BlD} (h:e∈LD l):∃n,n∈km (kL l)/\e=(n,some (kP l n)):=by
 rw[C8] at h;obtain⟨n,a,rfl⟩:=jV.1 h;exact⟨n,a,rfl⟩
theorem P9 {l:LgD} (h:DK l):(km (kL l)).length<=4:=by
 have a:=h.dy;unfold wR at a;rw[ji] at a;have a:=(ja a.1).1;unfold km
 split
 unfold gC;rw[zp];exact jE (zG _ _) (by rw[zZ];exact a);exact ju _
theorem WH {l:LgD} (h:DK l):Lp (U.bo l):=by
 refine⟨fun e c=> ?_,?_,?_,fun e c b a=> ?_⟩;obtain⟨n,d,rfl⟩:=HT c;exact⟨_,rfl,bh.2 (Ws h (HI d))⟩;show(LD l).length<=100;have:=P9 h;rw[C8,zp];omega;show((LD l).map (·.1)).Nodup;rw[C8,List.map_map];have e:((fun(x:Int×Option BlD)=>x.1)∘fun n=>(n,some (kP l n)))=id:=rfl;rw[e,List.map_id];exact mQ _;obtain⟨n,d,rfl⟩:=HT c;have a:some (kP l n)=some b:=a;simp only[jy] at a;subst a;exact(vd l n _ (jk _)).2.2.1
theorem jd5 {l:LgD} (h:DK l):Xb (U.bo l):=by
 have d:(kE (kL l)).length<=4:=by
  have c:=h.dy;unfold wR at c;rw[ji] at c;exact(ja c.1).1
 refine⟨WH h,?_,h.py.2,fun e f b a=> ?_⟩;show(aL l).length<=100;rw[h.py.1];omega;obtain⟨n,i,rfl⟩:=HT f;have a:some (kP l n)=some b:=a;simp only[jy] at a;subst a;have e:Qm (kP l n)=nth (aL l) n.toNat:=(vd l n _ (jk _)).2.2.2.1;rw[e];have:=HI i;have g:n.toNat<(aL l).length:=(by rw[h.py.1];omega);exact L.kB g
theorem jd6 {l:LgD} (h:DK l):Xc (U.bo l):=by
 refine⟨WH h,?_,fun e c b a=> ?_⟩;show(kz (kD (kL l))).length<=100;have:=jdX h;omega;obtain⟨n,d,rfl⟩:=HT c;have a:some (kP l n)=some b:=a;simp only[jy] at a;subst a;have e:qX (kP l n)=wY l n (kz (kD (kL l))).length:=(vd l n _ (jk _)).2.2.2.2.1;rw[e];exact(C9 _ _).2
namespace U
def cm (l:LgD) (b:Int):BkD:=nth (kE (kL l)) b.toNat
def cd (l:LgD) (b:Int) (x:Int×Bool) (c:CaD):Int×Bool:=if LC c=b/\OQ c<=wP (cm l b)/\(x.2=false\/OQ c<x.1) then(OQ c,true) else x
def DG (l:LgD) (b:Int) (k:Nat):Int×Bool:=((wi l).take k).foldl (cd l b) (0,false)
def EZ (l:LgD) (b:Int):Int×Bool:=DG l b (wi l).length
def Il (l:LgD) (b:Int) (i:Nat):Bool:=decide (Xn (nZ l)<=wP (cm l b)+i)||decide (wP (cm l b)+i<Z3 (nZ l))
def Im (l:LgD) (b:Int) (k:Nat):Int:=(((List.range k).countP (Il l b):Nat):Int)
def Zl (l:LgD) (b:Int):Int:=Im l b (cj (cm l b)-wP (cm l b)).toNat
def jdn (l:LgD) (b m:Int):Int:=m*jdk (nZ l)*max (jdl (nZ l)) (up (cj (cm l b)-wP (cm l b)) (Xm (nZ l)))
def Xd (l:LgD) (b m:Int):Int:=jdn l b m+up (jdn l b m*Xo (nZ l)*Zl l b) (100*(cj (cm l b)-wP (cm l b)))
def Ls (l:LgD) (b m:Int) (n:NoD):Bool:=decide (Xl n<=wP (cm l b)-m)
def jb2 (l:LgD) (b m:Int):Int:=if 0<=yz (Ls l b m) (eJ (nZ l)) then Z2 (nth (eJ (nZ l)) (yz (Ls l b m) (eJ (nZ l))).toNat) else 100
def Zm (l:LgD) (b t:Int):Int:=if(EZ l b).2=true then up (Xd l b (BT.size t)*jb2 l b (EZ l b).1) 100 else Xd l b (BT.size t)
def Zn (l:LgD) (b t:Int):Int:=if(EZ l b).2=true then 0 else jcg (nZ l)*nth (DE l) b.toNat*BT.size t
def Zo (l:LgD) (b t:Int):Int:=min (W7 (nZ l)) (((Zm l b t+Zn l b t)*nth (dp (nZ l)) (l8 (y7 (cm l b))).toNat).tdiv 100)
def ce (l:LgD) (b t:Int):LnD:=(nth (aL l) b.toNat,b,Zm l b t,Zn l b t,Zo l b t,Zm l b t+Zn l b t-Zo l b t,())
def In (l:LgD) (b:Int):Int:=nth (uw (kL l)) b.toNat
def Tg (l:LgD) (b:Int):Bool:=nY (kD (kL l)) (y7 (cm l b)) (In l b)
def jes (l:LgD) (p:Int) (b:Nat):Bool:=Tg l (b:Int)&&decide (nth (aL l) b=p)
def Xe (l:LgD) (p:Int) (k:Nat):List LnD:=((List.range k).filter (jes l p)).map (fun(b:Nat)=>ce l (b:Int) (In l (b:Int)))
def uy (l:LgD) (n:Nat):List LnD:=(List.range n).flatMap (fun(p:Nat)=>Xe l (p:Int) (aL l).length)
def OT (l:LgD):List LnD:=uy l 21
def F8 (l:LgD) (b m:Int):LgD:=(kL l,aL l,DE l,nZ l,wi l++[(0,b,m,())],())
end U
theorem Dp {l:LgD} {b:Int} {k:Nat} (h:k<(wi l).length):DG l b (k+1)=cd l b (DG l b k) (nth (wi l) k):=by
 unfold DG;rw[L.wd h,jU];rfl
theorem jbG {l:LgD} {b:Int} (h:∀c∈wi l,-100000<=OQ c/\OQ c<=1440):∀k,k<=(wi l).length->-100000<=(DG l b k).1/\(DG l b k).1<=1440
 |0,_=>by show-100000<=(0:Int)/\(0:Int)<=1440;omega
 |k+1,hk=>by
  rw[Dp (by omega)]
  unfold cd
  split
  exact h _ (L.kB (by omega))
  exact jbG h k (by omega)
theorem K1 {l:LgD} {n:Int}:∀k,k<=(wi l).length->(pH (kF l n k),sW (kF l n k))=DG l n k
 |0,_=>rfl
 |k+1,hk=>by
  have d:=K1 (l:=l) (n:=n) k (by omega)
  have c:qt (kF l n k)=cm l n:=(vd l n k (by omega)).1
  rw[cN (by omega),Dp (by omega),<-d]
  unfold gE cd
  by_cases a:LC (nth (wi l) k)=n
  rw[jh a]
  unfold yl
  rw[c]
  by_cases b:OQ (nth (wi l) k)<=wP (cm l n)/\(sW (kF l n k)=false\/OQ (nth (wi l) k)<pH (kF l n k))
  rw[jh b,jh ⟨a,b⟩];rfl
  rw[jd b,jd (fun h=>b h.2)]
  rw[jd a,jd (fun h=>a h.1)]
theorem WI {l:LgD} {b:Int} (a:Z3 (nZ l)<=Xn (nZ l)):∀k:Nat,Im l b k=max 0 (wP (cm l b)+k-max (wP (cm l b)) (Xn (nZ l)))+max 0 (min (wP (cm l b)+k) (Z3 (nZ l))-wP (cm l b))
 |0=>by
  show(0:Int)=_
  omega
 |k+1=>by
  have c:=WI (b:=b) a k
  have e:Im l b (k+1)=Im l b k+(if Il l b k=true then 1 else 0):=by
   unfold Im;rw[zi,zQ,List.countP_singleton]
   split<;>simp
  rw[e,c];by_cases h:Il l b k=true;rw[jh h];unfold Il at h;rw[zr,jm,jm] at h;omega;rw[jd h];unfold Il at h;rw[zr,jm,jm] at h;omega
theorem SH {w:Int} (h:0<=w):U.up (w*100) 100=w:=by
 unfold U.up;rw[Int.tdiv_eq_ediv_of_nonneg (by omega)];omega
theorem YZ {d:DyD} (h:ga d=0) {b:Nat} (g:b<(kE d).length):(((Lo (nth (uw d) b) (kz (kD d)).length).length:Nat):Int)=BT.size (nth (uw d) b):=by
 have e:uw d=(Ip d).1:=jh h;have a:=ZT h g;rw[<-e] at a;have l:(kz (kD d)).length<=8:=by
  have c:=(Ku h).1;unfold kG at c;rw[ji] at c;exact(ja c.1).2.2.1
 have k:BT.w4 (nth (uw d) b):=⟨a.1,Int.lt_trans a.2 (by
  have:(2:Int)^(kz (kD d)).length<2^62:=by
   rw[BT.AN,BT.AN];exact Int.ofNat_lt.2 (Nat.pow_lt_pow_right (by decide) (by omega))
  exact this)⟩
 unfold Lo BT.size;rw[zp,<-List.countP_eq_length_filter];obtain⟨m,j⟩:∃m,62=(kz (kD d)).length+m:=⟨62-(kz (kD d)).length,by omega⟩;rw[j,List.range_add,zQ];have z:List.countP (fun p=>BT.has (nth (uw d) b) p) (List.map (fun x=>(kz (kD d)).length+x) (List.range m))=0:=by
  rw[zM];intro p f i;obtain⟨q,n,rfl⟩:=jV.1 f;have:=BT.has_lt a.1 a.2 i;omega
 rw[z,zK];congr 1;refine List.countP_congr fun p f=> ?_
 have:=AI k (p:Int);rw[this];simp
theorem Qa {l:LgD} (h:ga (kL l)=0) (u:Z3 (nZ l)<=Xn (nZ l)) {n:Int} (A:0<=n/\n<((kE (kL l)).length:Int)) (z:wP (cm l n)<cj (cm l n)) (v:0<=pG (aX l n)):qB (kP l n)=ce l n (In l n):=by
 obtain⟨c1,c2,e,f,y,g,i⟩:=vd l n _ (jk _);have c1:qt (kP l n)=cm l n:=c1;have c2:yX (kP l n)=nZ l:=c2;have e:Ql (kP l n)=n:=e;have f:Qm (kP l n)=nth (aL l) n.toNat:=f;have g:pG (kP l n)=pG (aX l n):=g;have i:EW (kP l n)=EW (aX l n):=i;have a:=K1 (l:=l) (n:=n) _ (jk _);have w:pH (kP l n)=(EZ l n).1:=jG (·.1) a;have s:sW (kP l n)=(EZ l n).2:=jG (·.2) a;have b:(((wY l n (kz (kD (kL l))).length).length:Nat):Int)=BT.size (In l n):=by
  unfold wY In;rw[jbn,jh h,<-(jh h:uw (kL l)=_)];exact YZ h (by omega)
 have k:yO (sR l n (wY l n (kz (kD (kL l))).length))=Zl l n:=by
  unfold Zl;rw[WI u];show max 0 (cj (cm l n)-max (wP (cm l n)) (Xn (nZ l)))+max 0 (min (cj (cm l n)) (Z3 (nZ l))-wP (cm l n))=_;omega
 have p:pG (aX l n)=Xd l n (BT.size (In l n)):=by
  show ml (sR l n (wY l n (kz (kD (kL l))).length))+U.up (ml (sR l n (wY l n (kz (kD (kL l))).length))*Xo (nZ l)*yO (sR l n (wY l n (kz (kD (kL l))).length))) (100*(cj (cm l n)-wP (cm l n)))=_;have j:ml (sR l n (wY l n (kz (kD (kL l))).length))=jdn l n (BT.size (In l n)):=by
   show(((wY l n (kz (kD (kL l))).length).length:Nat):Int)*jdk (nZ l)*max (jdl (nZ l)) (U.up (cj (cm l n)-wP (cm l n)) (Xm (nZ l)))=_;rw[b];rfl
  rw[j,k];rfl
 have o:EW (aX l n)=jcg (nZ l)*nth (DE l) n.toNat*BT.size (In l n):=by
  show(((wY l n (kz (kD (kL l))).length).length:Nat):Int)*jcg (nZ l)*nth (DE l) n.toNat=_;rw[b,Int.mul_assoc,Int.mul_comm]
 have m:eK (kP l n)=Ls l n (EZ l n).1:=by
  funext x;unfold eK Ls;rw[c1,w]
 have r:vE (kP l n)=Zm l n (In l n):=by
  unfold vE Zm Td jb2;rw[s,c2,m,g,<-p];by_cases c:(EZ l n).2=true;rw[jh c];by_cases d:0<=yz (Ls l n (EZ l n).1) (eJ (nZ l));rw[jh ⟨c,d⟩,jh d];rw[jd (fun h=>d h.2),jd d,SH v];rw[jd (fun h=>c h.1),jd c]
 have q:ym (kP l n)=Zn l n (In l n):=by
  unfold ym Zn;rw[s,i,o]
 have t:Qn (kP l n)=Zo l n (In l n):=by
  unfold Qn Zo;rw[r,q,c1,c2]
 unfold qB ce;rw[r,q,t,e,f]
theorem WJ {l:LgD} (h:DK l) {n:Int} (a:0<=n/\n<((kE (kL l)).length:Int)):qB (kP l n)=ce l n (In l n):=by
 obtain⟨b,e⟩:=l3 h a;have c:=(cL (kL l)).symm.trans h.cp;have d:=h.ta.dw;exact Qa c (by omega) a b.2.1 (HJ h a).wk.1
theorem WK (l:LgD) (b m:Int):kP (F8 l b m) b=yl m (kP l b):=by
 have e:kP (F8 l b m) b=(wi l++[((0,b,m,()):CaD)]).foldl (gE b) (aX l b):=by
  show((wi l++[((0,b,m,()):CaD)]).take (wi l++[((0,b,m,()):CaD)]).length).foldl (gE b) (aX l b)=_;rw[zw]
 have e2:kP l b=(wi l).foldl (gE b) (aX l b):=by
  show((wi l).take (wi l).length).foldl (gE b) (aX l b)=_;rw[zw]
 rw[e,jU,<-e2];show gE b (kP l b) ((0,b,m,()):CaD)=_;exact jh rfl
theorem WL {l:LgD} (h:DK l) {n m:Int} (a:0<=n/\n<((kE (kL l)).length:Int)):qB (yl m (kP l n))=ce (F8 l n m) n (In l n):=by
 obtain⟨b,e⟩:=l3 h a;have c:=(cL (kL l)).symm.trans h.cp;have d:=h.ta.dw;have:=Qa (l:=F8 l n m) c (show Z3 (nZ l)<=Xn (nZ l) by omega) a b.2.1 (HJ h a).wk.1;rw[WK] at this;exact this
theorem Y0 {x y:LnD} (h:Aq x<Aq y\/(Aq x=Aq y/\Iq x<Iq y)):¬ux y x<0:=by
 unfold ux;rw[wG,qP];unfold ck;rcases h with h|⟨b,a⟩;rw[jd (show¬Aq y<Aq x by omega),jh h,jh (by decide)];decide;rw[jd (show¬Aq y<Aq x by omega),jd (show¬Aq x<Aq y by omega),jd (by decide),jd (show¬Iq y<Iq x by omega),jh a];decide
theorem Qb (l:LgD):vg (LD l)=(km (kL l)).map (fun n=>qB (kP l n)):=by
 rw[C8];unfold vg;rw[List.map_map];rfl
theorem Qc (l:LgD) (n:Int):Iq (qB (kP l n))=n:=(vd l n _ (jk _)).2.2.1
theorem jbH {d:DyD} (h:ga d=0) {n:Int}:n∈km d↔∃b:Nat,b<(kE d).length/\jeo d (uw d) b=true/\n=(b:Int):=by
 rw[jbv];unfold jep;rw[jh h];unfold Z1;rw[jV];constructor;rintro⟨b,a,rfl⟩;have:=jR.1 a;exact⟨b,by rw[<-Hy h];exact jA.1 this.1,this.2,rfl⟩;rintro⟨b,a,c,rfl⟩;exact⟨b,jR.2 ⟨jA.2 (by rw[Hy h];exact a),c⟩,rfl⟩
theorem HU {l:LgD} (h:DK l) {n:Int} (e:0<=n/\n<((kE (kL l)).length:Int)):n∈km (kL l)↔Tg l n=true:=by
 have c:=(cL (kL l)).symm.trans h.cp;rw[jbH c];constructor;rintro⟨b,d,a,rfl⟩;exact a;intro a;exact⟨n.toNat,by omega,a,by omega⟩
theorem HV {l:LgD} {k:Nat} {x:LnD}:x∈uy l k↔∃p:Nat,p<k/\∃b:Nat,b<(aL l).length/\Tg l (b:Int)=true/\nth (aL l) b=(p:Int)/\x=ce l (b:Int) (In l (b:Int)):=by
 unfold uy;rw[List.mem_flatMap];constructor;rintro⟨p,d,h⟩;obtain⟨b,c,rfl⟩:=jV.1 h;have e:=jR.1 c;have a:=e.2;unfold jes at a;rw[ji,jm] at a;exact⟨p,jA.1 d,b,jA.1 e.1,a.1,a.2,rfl⟩;rintro⟨p,d,b,c,g,f,rfl⟩;refine⟨p,jA.2 d,jV.2 ⟨b,jR.2 ⟨jA.2 c,?_⟩,rfl⟩⟩;unfold jes;rw[g,jH f];rfl
theorem Qd (l:LgD) (k:Nat):(uy l k).Pairwise (fun x y=>Aq x<Aq y\/(Aq x=Aq y/\Iq x<Iq y)):=by
 have d:∀(p:Nat) (x:LnD),x∈Xe l (p:Int) (aL l).length->Aq x=(p:Int):=fun p x g=>by
  obtain⟨b,f,rfl⟩:=jV.1 g;have e:=(jR.1 f).2;unfold jes at e;rw[ji,jm] at e;exact e.2
 unfold uy;refine List.pairwise_flatMap.2 ⟨fun p _=> ?_,List.Pairwise.imp ?_ List.pairwise_lt_range⟩;have h:(Xe l (p:Int) (aL l).length).Pairwise (fun x y=>Iq x<Iq y):=by
  unfold Xe;exact zX.2 ((List.pairwise_lt_range.filter _).imp fun{a b} c=>by
   show(a:Int)<(b:Int);omega)
 exact List.Pairwise.imp_of_mem (fun{a b} i f c=>Or.inr ⟨by rw[d p a i,d p b f],c⟩) h;intro a b c x g y j;have:=d a x g;have:=d b y j;left;omega
theorem SI (l:LgD) (k:Nat):(uy l k).Nodup:=(Qd l k).imp fun{a b} h e=>by subst e;omega
theorem WM {l:LgD} (h:DK l):kZ (U.bo l)=OT l:=by
 have o:=F0 (WH h);have f:(vg (LD l)).Nodup:=by
  rw[Qb];exact zX.2 ((mQ (kL l)).imp fun{a b} g e=>g (by
   have:=jG Iq e;rw[Qc,Qc] at this;exact this))
 have s:=(cL (kL l)).symm.trans h.cp
 haveI:DecidableEq LnD:=fun a b=>Classical.propDecidable (a=b)
 have k:(OT l).Perm (vg (OR (U.bo l))):=L.n7 (SI l 21) f fun x=>by
  show x∈uy l 21↔x∈vg (LD l);rw[HV,Qb,jV];constructor;rintro⟨p,k,b,m,r,q,rfl⟩;have c:0<=(b:Int)/\(b:Int)<(kE (kL l)).length:=(by rw[h.py.1] at m;omega);exact⟨(b:Int),(HU h c).2 r,WJ h c⟩;rintro⟨n,j,rfl⟩;have c:=HI j;have i:n.toNat<(aL l).length:=(by rw[h.py.1];omega);have q:=h.py.2 _ (L.kB i);have en:((n.toNat:Nat):Int)=n:=(by omega);refine⟨(nth (aL l) n.toNat).toNat,by omega,n.toNat,i,?_,by omega,?_⟩;rw[en];exact(HU h c).1 j;rw[en];exact WJ h c
 refine(rJ (jd4 o) k ?_).symm;exact(Qd l 21).imp fun{a b} d=>zl (Y0 d)
theorem jc8 (l:LgD) (n:Int):OS (U.bo l) n=if n∈km (kL l) then some (kP l n) else none:=by
 show wa none (kO .int n (LD l))=_;have a:((LD l).map (·.1)).Nodup:=by
  rw[C8,List.map_map];have e:((fun(x:Int×Option BlD)=>x.1)∘fun n=>(n,some (kP l n)))=id:=rfl;rw[e,List.map_id];exact mQ _
 by_cases h:n∈km (kL l);rw[jh h];have:(n,some (kP l n))∈LD l:=by
  rw[C8];exact jV.2 ⟨n,h,rfl⟩
 rw[(M.mT (kt:= .int) a).2 this];rfl;rw[jd h];have b:n∉(LD l).map (·.1):=by
  rw[C8,List.map_map];have e:((fun(x:Int×Option BlD)=>x.1)∘fun n=>(n,some (kP l n)))=id:=rfl;rw[e,List.map_id];exact h
 rw[M.mfind_none (kt:= .int) b];rfl
namespace U
def cf (b:BlD) (a:Int) (k:Nat):Bool:=decide (qf (wP (qt b)-(k:Int)) b<=a)
def cg (b:BlD):Nat:=(wP (qt b)+100001).toNat
def nF (b:BlD) (a:Int):Option Nat:=(List.range (cg b)).find? (cf b a)
def Th (b:BlD):Option Nat->Int
 |some k=>wP (qt b)-(k:Int)
 |none=>0
def jb3:Option Nat->Int
 |some _=>0
 |none=>3
def jdo (a:Int):Option BlD->Int
 |some b=>Th b (nF b a)
 |none=>0
def jdp (a:Int):Option BlD->Int
 |some b=>jb3 (nF b a)
 |none=>3
def yY (l:LgD) (n a:Int):Int:=if wV l (qT l n&&vW a)=0 then jdo a (OS (bo l) n) else 0
def yK (l:LgD) (n a:Int):Int:=if wV l (qT l n&&vW a)=0 then jdp a (OS (bo l) n) else wV l (qT l n&&vW a)
end U
theorem uo (b:BlD) (a:Int):(∃k:Nat,nF b a=some k/\k<cg b/\cf b a k=true/\∀j:Nat,j<k->cf b a j=false)\/(nF b a=none/\∀j:Nat,j<cg b->cf b a j=false):=by
 cases e:nF b a with
 |some k=>
  left;unfold nF at e;obtain⟨l,d,rs,f,m⟩:=List.find?_eq_some_iff_append.1 e;have c:=jG List.length f;rw[zZ,jL,j7] at c;have hk:(List.range (cg b))[d.length]'(by rw[zZ];omega)=k:=by
   have e2:(d++k::rs)[d.length]'(by rw[jL,j7];omega)=k:=by
    rw[List.getElem_append_right (jk _)];simp
   have:=List.getElem_of_eq f (i:=d.length) (by rw[zZ];omega);rw[this,e2]
  rw[List.getElem_range] at hk;refine⟨k,rfl,by omega,l,fun j h=> ?_⟩;have g:=List.getElem_of_eq f (i:=j) (by rw[zZ];omega);rw[List.getElem_range,List.getElem_append_left (by omega)] at g;have:=m j (by rw[g];exact List.getElem_mem _);simpa using this
 |none=>
  right;unfold nF at e;rw[List.find?_eq_none] at e;refine⟨rfl,fun j h=> ?_⟩;have:=e j (jA.2 h);simpa using this
end Go.X

namespace Go.X
open U
theorem Qe {l:LgD} {n:Int}:qT l n=true↔0<=n/\n<((kE (kL l)).length:Int):=by
 unfold qT;rw[wO];omega
end Go.X

namespace Go.X
open U
theorem SJ {l l':LgD} {b t:Int} (c:cm l' b=cm l b) (a:nZ l'=nZ l) (i:aL l'=aL l) (j:DE l'=DE l) (d:EZ l' b=EZ l b):ce l' b t=ce l b t:=by
 have k:Zl l' b=Zl l b:=by
  unfold Zl Im Il;rw[c,a]
 have h:∀m,Xd l' b m=Xd l b m:=fun m=>by
  unfold Xd jdn;rw[c,a,k]
 have o:∀m,jb2 l' b m=jb2 l b m:=fun m=>by
  have e:Ls l' b m=Ls l b m:=(by funext n;unfold Ls;rw[c]);unfold jb2;rw[a,e]
 have g:Zm l' b t=Zm l b t:=by
  unfold Zm;rw[d,h,o]
 have f:Zn l' b t=Zn l b t:=by
  unfold Zn;rw[d,a,j]
 have s1:Zo l' b t=Zo l b t:=by
  unfold Zo;rw[g,f,c,a]
 unfold ce;rw[g,f,s1,i]
theorem F5 {l:List CaD}:yx l=false↔∀a∈l,∀b∈l,Ii a=Ii b->a=b:=by
 constructor;intro h;have key:∀i j,j<i->i<l.length->Ii (nth l j)=Ii (nth l i)->nth l j=nth l i:=fun i j f hi e=>by
  unfold yx mj at h;rw[ze] at h;have d:=h i (jA.2 hi);unfold gD at d;rw[zS,ze] at d;have g:=d (nth l j) (L.mem_iff.2 ⟨j,by rw[jY];omega,L.nth_take f⟩);rw[zS,jH e,Bool.true_and,zb,jm] at g;exact g
 intro a k b m e;obtain⟨i,hi,rfl⟩:=L.mem_iff.1 k;obtain⟨j,f,rfl⟩:=L.mem_iff.1 m;rcases Nat.lt_trichotomy i j with c|c|c;exact key j i c f e;rw[c];exact(key i j c hi e.symm).symm;intro h;cases e:yx l with
 |false=>rfl
 |true=>
  exfalso;unfold yx mj at e;rw[j9] at e;obtain⟨i,hi,e⟩:=e;have hi:=jA.1 hi;unfold gD at e;rw[j9] at e;obtain⟨x,n,e⟩:=e;rw[ji,jm,jO,jF] at e;exact e.2 (h x (zU n) _ (L.kB hi) e.1)
theorem SK {l:LgD} (h:wC l=0):wx (kL l)=0/\aQ l=true/\yx (wi l)=false:=by
 unfold wC at h
 split at h
 rename_i a;exact absurd h a;rename_i a
 split at h
 cases h;rename_i b
 split at h
 cases h;rename_i c;exact⟨jP.1 a,by simpa using b,by simpa using c⟩
theorem jbI {l:LgD} (a:wx (kL l)=0) (b:aQ l=true) (c:yx (wi l)=false):wC l=0:=by
 unfold wC;rw[jd (fun h=>h a),jd (by rw[b];decide),jd (by rw[c];decide)]
open Go.Proofs
namespace U
def Ti (l:List NoD) (j:Nat):Bool:=(kl (Xl (nth l j)) 0 100000&&kl (Z2 (nth l j)) 0 100)&&(decide (j=0)||decide (Xl (nth l j)<Xl (nth l (j-1))))
def Xf (a b:CaD):Bool:=decide (Ii a=Ii b)&& !decide (a=b)
def Tt (l:LgD) (j:Nat):Bool:=Ln (nth (aL l) j)&&xb (nth (DE l) j)
end U
def K2:we:=⟨[.val .int,.val .int,.val .int],[.bool],false,fun _=>[],fun d=>(kl d.1 d.2.1 d.2.2.1,())⟩
def K3:Prop:=∀(d:CaD),(decide (d.2.1<=d.1)&&decide (d.1<=d.2.2.1),())=(kl d.1 d.2.1 d.2.2.1,())
def EG:we:=⟨[.val tTa],[.bool],false,fun _=>[],fun d=>(vD d.1,())⟩
def EH:Ann:=fun r=>match r with
 |4=>some fun σ=>{X:=Nat,sl:=fun i=>[(3,.dat .int (i:Int))],ob:=fun _=>[],inv:=fun i=>i<=(dp (gb tTa σ 1)).length/\∀j:Nat,j<i->kl (nth (dp (gb tTa σ 1)) j) 0 100=true,mu:=fun i=>(dp (gb tTa σ 1)).length-i}
 |9=>some fun σ=>{X:=Nat,sl:=fun i=>[(4,.dat .int (i:Int))],ob:=fun _=>[],inv:=fun i=>i<=(eJ (gb tTa σ 1)).length/\∀j:Nat,j<i->Ti (eJ (gb tTa σ 1)) j=true,mu:=fun i=>(eJ (gb tTa σ 1)).length-i}
 |_=>none
abbrev jg7 (d:TaD×Unit)(x:Nat):=(nth d.1.q4.q4.2.1 x)
abbrev jij (d:TaD×Unit)(x:Nat):=(!(!kl (jg7 d x).1 (0:Int) (100000:Int)|| !kl (jg7 d x).2.1 (0:Int) (100:Int))&&decide (0<(x:Int)))
abbrev ji7 (d:TaD×Unit)(x:Nat):=(!kl (jg7 d x).1 (0:Int) (100000:Int)|| !kl (jg7 d x).2.1 (0:Int) (100:Int)||decide (0<(x:Int))&&decide ((nth d.1.q4.q4.2.1 ((x:Int)-1).toNat).1<=(jg7 d x).1))
abbrev jg8 (d:TaD×Unit):=(d.1.q4.q4.2.1.length:Int)
abbrev jg9 (d:TaD×Unit):=(d.1.q4.q4.1.length:Int)
abbrev ji8 (d:TaD×Unit):=(!kl d.1.1 (1:Int) (240:Int)|| !kl d.1.2.1 (0:Int) (10000:Int)|| !kl d.1.2.2.1 (0:Int) (20:Int)|| !kl d.1.q4.1 (0:Int) d.1.2.2.2.1||decide (1440<d.1.2.2.2.1)|| !kl d.1.q4.2.1 (0:Int) (100:Int)|| !kl d.1.q4.2.2.1 (0:Int) (10000:Int)||decide ((jg9 d)≠4)|| !kl d.1.q4.2.2.2.1 (0:Int) (1000000:Int)||decide (4<(jg8 d)))
abbrev ji9 (d:TaD×Unit)(x:Nat):=(!kl (nth d.1.q4.q4.1 x) (0:Int) (100:Int))
def EI:Prop:=∀(d:TaD×Unit),((!(!kl d.1.1 (1:Int) (240:Int)|| !kl d.1.2.1 (0:Int) (10000:Int)|| !kl d.1.2.2.1 (0:Int) (20:Int)|| !kl d.1.q4.1 (0:Int) d.1.2.2.2.1||decide (1440<d.1.2.2.2.1)|| !kl d.1.q4.2.1 (0:Int) (100:Int)|| !kl d.1.q4.2.2.1 (0:Int) (10000:Int)))=true->d.1.q4.q4.1.length<4611686018427387904)->((!(!kl d.1.1 (1:Int) (240:Int)|| !kl d.1.2.1 (0:Int) (10000:Int)|| !kl d.1.2.2.1 (0:Int) (20:Int)|| !kl d.1.q4.1 (0:Int) d.1.2.2.2.1||decide (1440<d.1.2.2.2.1)|| !kl d.1.q4.2.1 (0:Int) (100:Int)|| !kl d.1.q4.2.2.1 (0:Int) (10000:Int)||decide ((jg9 d)≠4)|| !kl d.1.q4.2.2.2.1 (0:Int) (1000000:Int)))=true->d.1.q4.q4.2.1.length<4611686018427387904)->((ji8 d)=true->(false,())=(vD d.1,()))/\((ji8 d)=false->(∃(x:Nat),((0=(x:Int)/\True)/\True)/\x<=(dp d.1).length/\∀(j:Nat),j<x->kl (nth (dp d.1) j) (0:Int) 100=true)/\∀(x:Nat),(x<=(dp d.1).length/\∀(j:Nat),j<x->kl (nth (dp d.1) j) (0:Int) 100=true)->d.1.q4.q4.1.length<4611686018427387904->(decide ((x:Int)<(jg9 d))=true->0<=(x:Int)/\(x:Int)<(jg9 d)/\((ji9 d x)=true->(false,())=(vD d.1,()))/\((ji9 d x)=false->kH ((x:Int)+1)/\∃(a:Nat),(((x:Int)+1=(a:Int)/\True)/\True)/\(a<=(dp d.1).length/\∀(j:Nat),j<a->kl (nth (dp d.1) j) (0:Int) 100=true)/\(dp d.1).length-a<(dp d.1).length-x))/\(decide ((x:Int)<(jg9 d))=false->(∃(x:Nat),((0=(x:Int)/\True)/\True)/\x<=(eJ d.1).length/\∀(j:Nat),j<x->Ti (eJ d.1) j=true)/\∀(x:Nat),(x<=(eJ d.1).length/\∀(j:Nat),j<x->Ti (eJ d.1) j=true)->d.1.q4.q4.2.1.length<4611686018427387904->(decide ((x:Int)<(jg8 d))=true->0<=(x:Int)/\(x:Int)<(jg8 d)/\((jij d x)=true->kH ((x:Int)-1))/\((jij d x)=true->0<=(x:Int)-1)/\((jij d x)=true->(x:Int)-1<(jg8 d))/\((ji7 d x)=true->(false,())=(vD d.1,()))/\((ji7 d x)=false->kH ((x:Int)+1)/\∃(a:Nat),(((x:Int)+1=(a:Int)/\True)/\True)/\(a<=(eJ d.1).length/\∀(j:Nat),j<a->Ti (eJ d.1) j=true)/\(eJ d.1).length-a<(eJ d.1).length-x))/\(decide ((x:Int)<(jg8 d))=false->(true,())=(vD d.1,()))))
def EJ:we:=⟨[.val tLg],[.bool],false,fun _=>[],fun d=>(aQ d.1,())⟩
def EK:Ann:=fun r=>match r with
 |5=>some fun σ=>{X:=Nat,sl:=fun i=>[(4,.dat .int (i:Int))],ob:=fun _=>[],inv:=fun i=>i<=(gd .int σ 3).toNat/\∀j:Nat,j<i->Tt (gb tLg σ 1) j=true,mu:=fun i=>(gd .int σ 3).toNat-i}
 |10=>some fun σ=>{X:=Nat,sl:=fun i=>[(5,.dat .int (i:Int))],ob:=fun _=>[],inv:=fun i=>i<=(wi (gb tLg σ 1)).length/\∀j:Nat,j<i->iU (gd .int σ 3).toNat (nth (wi (gb tLg σ 1)) j)=true,mu:=fun i=>(wi (gb tLg σ 1)).length-i}
 |_=>none
abbrev je8 (d:LgD×Unit):=(d.1.1.2.2.1.length:Int)
abbrev jja (d:LgD×Unit)(x:Nat):=(!kl (nth d.1.2.1 x) (0:Int) (20:Int)|| !kl (nth d.1.2.2.1 x) (0:Int) (300:Int))
abbrev jhC (d:LgD×Unit)(x:Nat):=(nth d.1.q4.1 x)
abbrev jjb (d:LgD×Unit)(x:Nat):=(!kl (jhC d x).1 (0:Int) (99:Int)|| !kl (jhC d x).2.1 (0:Int) ((je8 d)-1)|| !kl (jhC d x).2.2.1 (-100000:Int) (1440:Int))
abbrev jik (d:LgD×Unit):=((d.1.2.1.length:Int)≠(je8 d))
abbrev jhD (d:LgD×Unit):=(d.1.q4.1.length:Int)
abbrev jjc (d:LgD×Unit):=(decide (jik d)||decide ((d.1.2.2.1.length:Int)≠(je8 d))|| !vD d.1.2.2.2.1||decide (10<(jhD d)))
def EL:Prop:=∀(d:LgD×Unit),d.1.1.2.2.1.length<4611686018427387904->d.1.2.1.length<4611686018427387904->((!decide (jik d))=true->d.1.2.2.1.length<4611686018427387904)->((!(decide (jik d)||decide ((d.1.2.2.1.length:Int)≠(je8 d))|| !vD d.1.2.2.2.1))=true->d.1.q4.1.length<4611686018427387904)->((jjc d)=true->(false,())=(aQ d.1,()))/\((jjc d)=false->(∃(x:Nat),((0=(x:Int)/\True)/\True)/\x<=(je8 d).toNat/\∀(j:Nat),j<x->Tt d.1 j=true)/\∀(x:Nat),(x<=(je8 d).toNat/\∀(j:Nat),j<x->Tt d.1 j=true)->(decide ((x:Int)<(je8 d))=true->0<=(x:Int)/\(x:Int)<d.1.2.1.length/\((!!kl (nth d.1.2.1 x) (0:Int) (20:Int))=true->0<=(x:Int))/\((!!kl (nth d.1.2.1 x) (0:Int) (20:Int))=true->(x:Int)<d.1.2.2.1.length)/\((jja d x)=true->(false,())=(aQ d.1,()))/\((jja d x)=false->kH ((x:Int)+1)/\∃(a:Nat),(((x:Int)+1=(a:Int)/\True)/\True)/\(a<=(je8 d).toNat/\∀(j:Nat),j<a->Tt d.1 j=true)/\(je8 d).toNat-a<(je8 d).toNat-x))/\(decide ((x:Int)<(je8 d))=false->(∃(x:Nat),((0=(x:Int)/\True)/\True)/\x<=(wi d.1).length/\∀(j:Nat),j<x->iU (je8 d).toNat (nth (wi d.1) j)=true)/\∀(x:Nat),(x<=(wi d.1).length/\∀(j:Nat),j<x->iU (je8 d).toNat (nth (wi d.1) j)=true)->d.1.q4.1.length<4611686018427387904->(decide ((x:Int)<(jhD d))=true->0<=(x:Int)/\(x:Int)<(jhD d)/\((!!kl (jhC d x).1 (0:Int) (99:Int))=true->kH ((je8 d)-1))/\((jjb d x)=true->(false,())=(aQ d.1,()))/\((jjb d x)=false->kH ((x:Int)+1)/\∃(a:Nat),(((x:Int)+1=(a:Int)/\True)/\True)/\(a<=(wi d.1).length/\∀(j:Nat),j<a->iU (je8 d).toNat (nth (wi d.1) j)=true)/\(wi d.1).length-a<(wi d.1).length-x))/\(decide ((x:Int)<(jhD d))=false->(true,())=(aQ d.1,()))))
def Om:we:=⟨[.val tLg],[.int],false,fun d=>[(kE (kL d.1)).length<=1000000],fun d=>(wC d.1,())⟩
def On:Ann:=fun r=>match r with
 |7=>some fun σ=>{X:=Nat,sl:=fun i=>[(4,.dat .int (i:Int))],ob:=fun _=>[],inv:=fun i=>i<=(wi (gb tLg σ 1)).length/\∀b:Nat,b<i->gD (wi (gb tLg σ 1)) b=false,mu:=fun i=>(wi (gb tLg σ 1)).length-i}
 |10=>some fun σ=>{X:=Nat,sl:=fun i=>[(5,.dat .int (i:Int))],ob:=fun _=>[],inv:=fun i=>i<=(gd .int σ 4).toNat/\∀j:Nat,j<i->Xf (nth (wi (gb tLg σ 1)) (gd .int σ 4).toNat) (nth (wi (gb tLg σ 1)) j)=false,mu:=fun i=>(gd .int σ 4).toNat-i}
 |_=>none
abbrev jha (d:LgD×Unit)(x:Nat)(a:Nat):=((nth d.1.q4.1 x).1=(nth d.1.q4.1 a).1)
abbrev jgz (d:LgD×Unit):=(d.1.q4.1.length:Int)
abbrev jjd (d:LgD×Unit)(x:Nat)(a:Nat):=(decide (jha d x a)&& !decide (nth d.1.q4.1 x=nth d.1.q4.1 a))
def Oo:Prop:=∀(d:LgD×Unit),(kE (kL d.1)).length<=1000000->(kE d.1.1).length<=1000000/\(decide (ga d.1.1≠0)=true->(ga d.1.1,())=(wC d.1,()))/\(decide (ga d.1.1≠0)=false->((!aQ d.1)=true->((70:Int),())=(wC d.1,()))/\((!aQ d.1)=false->(∃(x:Nat),((0=(x:Int)/\True)/\True)/\x<=(wi d.1).length/\∀(b:Nat),b<x->gD (wi d.1) b=false)/\∀(x:Nat),(x<=(wi d.1).length/\∀(b:Nat),b<x->gD (wi d.1) b=false)->d.1.q4.1.length<4611686018427387904->(decide ((x:Int)<(jgz d))=true->(∃(a:Nat),((0=(a:Int)/\True)/\True)/\a<=x/\∀(j:Nat),j<a->Xf (nth (wi d.1) x) (nth (wi d.1) j)=false)/\∀(a:Nat),(a<=x/\∀(j:Nat),j<a->Xf (nth (wi d.1) x) (nth (wi d.1) j)=false)->(decide ((a:Int)<(x:Int))=true->0<=(x:Int)/\(x:Int)<(jgz d)/\0<=(a:Int)/\(a:Int)<(jgz d)/\(decide (jha d x a)=true->0<=(x:Int))/\(decide (jha d x a)=true->(x:Int)<(jgz d))/\(decide (jha d x a)=true->0<=(a:Int))/\(decide (jha d x a)=true->(a:Int)<(jgz d))/\((jjd d x a)=true->((71:Int),())=(wC d.1,()))/\((jjd d x a)=false->kH ((a:Int)+1)/\∃(c:Nat),(((a:Int)+1=(c:Int)/\True)/\True)/\(c<=x/\∀(j:Nat),j<c->Xf (nth (wi d.1) x) (nth (wi d.1) j)=false)/\x-c<x-a))/\(decide ((a:Int)<(x:Int))=false->kH ((x:Int)+1)/\∃(c:Nat),(((x:Int)+1=(c:Int)/\True)/\True)/\(c<=(wi d.1).length/\∀(b:Nat),b<c->gD (wi d.1) b=false)/\(wi d.1).length-c<(wi d.1).length-x))/\(decide ((x:Int)<(jgz d))=false->((0:Int),())=(wC d.1,()))))
def Dq:we:=⟨[.val tLg,.val .int],[.bool],false,fun _=>[],fun d=>(qT d.1 d.2.1,())⟩
def Dr:Prop:=∀(d:LgD×Int×Unit),d.1.1.2.2.1.length<4611686018427387904->kH ((d.1.1.2.2.1.length:Int)-1)/\(kl d.2.1 (0:Int) ((d.1.1.2.2.1.length:Int)-1),())=(qT d.1 d.2.1,())
def K4:we:=⟨[.val tLg,.val .int],[.int,.bool],false,fun d=>[ga (kL d.1)=0,0<=d.2.1/\d.2.1<((kE (kL d.1)).length:Int)],fun d=>(In d.1 d.2.1,Tg d.1 d.2.1,())⟩
def K5:Prop:=∀(d:LgD×Int×Unit),ga (kL d.1)=0->0<=d.2.1/\d.2.1<(↑(kE (kL d.1)).length:Int)->(kE d.1.1).length<=1000000/\0<=d.2.1/\d.2.1<(↑(uw d.1.1).length:Int)/\0<=d.2.1/\d.2.1<(d.1.1.2.2.1.length:Int)/\0<=d.2.1/\d.2.1<(↑(uw d.1.1).length:Int)/\kG d.1.1.1=true/\ww d.1.1.1 (nth d.1.1.2.2.1 d.2.1.toNat).1=true/\Tq (nth (uw d.1.1) d.2.1.toNat)/\(nth (uw d.1.1) d.2.1.toNat,nY d.1.1.1 (nth d.1.1.2.2.1 d.2.1.toNat).1 (nth (uw d.1.1) d.2.1.toNat),())=(In d.1 d.2.1,Tg d.1 d.2.1,())
theorem Oq:K3:=by
 rintro⟨n,a,b,⟨⟩⟩;rfl
theorem l6:wn PR 41 K2:=kY Oq Tryz.func41 kcN koN
theorem Dt:∀{l:List NoD} {last:Int},xa last l=true↔∀j,j<l.length->Ij (if j=0 then last else Xl (nth l (j-1))) (nth l j)=true
 |[],_=>⟨fun _ j a=>(by cases a),fun _=>rfl⟩
 |n::r,last=>by
  have d:=Dt (l:=r) (last:=Xl n)
  show(Ij last n&&xa (Xl n) r)=true↔_
  rw[ji,d]
  constructor
  rintro⟨b,c⟩ j a
  cases j with
  |zero=>exact b
  |succ j=>
   rw[jd (by omega)]
   have:=c j (by simpa using a)
   cases j with
   |zero=>exact this
   |succ j=>exact this
  intro h
  refine⟨h 0 (by simp),fun j a=> ?_⟩
  have:=h (j+1) (by simpa using a)
  rw[jd (by omega)] at this
  cases j with
  |zero=>exact this
  |succ j=>exact this
theorem jc9 {l:List NoD}:xa 100001 l=true↔∀j,j<l.length->Ti l j=true:=by
 constructor;intro h j b;have a:=(HG h _ (L.kB b));have c:=Dt.1 h j b;unfold Ti;simp only[ji,zr,jm,wO];refine⟨⟨by omega,by omega⟩,?_⟩;by_cases e:j=0;exact Or.inl e;rw[jd e] at c;unfold Ij at c;rw[ji,wO] at c;right;omega;intro h;refine Dt.2 fun j b=> ?_
 have a:=h j b;unfold Ti at a;simp only[ji,zr,jm,wO] at a;unfold Ij U.share;rw[ji,wO,wO];refine⟨?_,a.1.2⟩;by_cases e:j=0;rw[jh e];omega;rw[jd e];omega
def taH (t:TaD):Bool:= !kl (Xm t) 1 240|| !kl (jdk t) 0 10000|| !kl (jdl t) 0 20|| !kl (Z3 t) 0 (Xn t)||decide (1440<Xn t)|| !kl (Xo t) 0 100|| !kl (jcg t) 0 10000||decide (((dp t).length:Int)≠4)|| !kl (W7 t) 0 1000000||decide (4<((eJ t).length:Int))
theorem HW (t:TaD):vD t=true↔taH t=false/\(∀j,j<(dp t).length->kl (nth (dp t) j) 0 100=true)/\∀j,j<(eJ t).length->Ti (eJ t) j=true:=by
 rw[<-jc9];unfold vD taH U.share;simp only[jN,jF,zb,ji,jm,wO,jT];constructor;rintro⟨⟨⟨⟨⟨⟨⟨a,b⟩,c⟩,l⟩,d⟩,e⟩,f⟩,⟨⟨⟨m,g⟩,h⟩,n⟩,i⟩;exact⟨⟨⟨⟨⟨⟨⟨⟨⟨⟨a,b⟩,c⟩,d⟩,by omega⟩,e⟩,f⟩,by omega⟩,h⟩,by omega⟩,fun j k=>g _ (L.kB k),i⟩;rintro⟨⟨⟨⟨⟨⟨⟨⟨⟨⟨a,b⟩,c⟩,d⟩,l⟩,e⟩,f⟩,m⟩,h⟩,n⟩,g,i⟩;refine⟨⟨⟨⟨⟨⟨⟨a,b⟩,c⟩,by omega⟩,d⟩,e⟩,f⟩,⟨⟨⟨by omega,fun x o=> ?_⟩,h⟩,by omega⟩,i⟩;obtain⟨j,k,rfl⟩:=L.mem_iff.1 o;exact g j k
theorem jbJ {t:TaD} (h:¬vD t=true):(false,())=(vD t,()):=by
 rw[zS] at h;rw[h]
theorem Du (l:LgD):aQ l=true↔((aL l).length=(kE (kL l)).length/\(DE l).length=(kE (kL l)).length/\vD (nZ l)=true/\(wi l).length<=10)/\(∀j,j<(kE (kL l)).length->Tt l j=true)/\∀j,j<(wi l).length->iU (kE (kL l)).length (nth (wi l) j)=true:=by
 unfold aQ Tt;simp only[ji,jm,jT];constructor;rintro⟨⟨⟨c,h⟩,d,i⟩,e,f,k⟩;exact⟨⟨c,d,e,f⟩,fun j a=>⟨h _ (L.kB (by omega)),i _ (L.kB (by omega))⟩,fun j a=>k _ (L.kB a)⟩;rintro⟨⟨c,d,e,f⟩,g,m⟩;refine⟨⟨⟨c,fun x b=> ?_⟩,d,fun x b=> ?_⟩,e,f,fun x b=> ?_⟩;obtain⟨j,a,rfl⟩:=L.mem_iff.1 b;exact(g j (by omega)).1;obtain⟨j,a,rfl⟩:=L.mem_iff.1 b;exact(g j (by omega)).2;obtain⟨j,a,rfl⟩:=L.mem_iff.1 b;exact m j a
theorem jbK {l:LgD} (h:¬aQ l=true):(false,())=(aQ l,()):=by
 rw[zS] at h;rw[h]
theorem jda {l:List CaD} {i:Nat} (h:∀j:Nat,j<i->Xf (nth l i) (nth l j)=false) (hi:i<=l.length):gD l i=false:=by
 unfold gD;rw[ze];intro x c;obtain⟨j,b,rfl⟩:=L.mem_iff.1 c;rw[jY] at b;rw[L.nth_take (by omega)];have:=h j (by omega);unfold Xf at this;rw[zS,ke] at*;rcases this with a|a;left;exact zl fun e=>jc a e.symm
 right;rw[zb,jm] at a;rw[a,jH rfl];rfl
theorem jbL {l:List CaD} {i j:Nat} (hi:i<l.length) (a:j<i) (h:Xf (nth l i) (nth l j)=true):yx l=true:=by
 unfold yx mj;rw[j9];refine⟨i,jA.2 hi,?_⟩;unfold gD;rw[j9];unfold Xf at h;rw[ji,jm,jO,jF] at h;refine⟨nth l j,?_,?_⟩;exact L.mem_iff.2 ⟨j,by rw[jY];omega,L.nth_take (by omega)⟩;rw[ji,jm,jO,jF];exact⟨h.1.symm,fun e=>h.2 e.symm⟩
theorem HX:EI:=by
 unfold EI ji9 ji8 jg9 jg8 ji7 jij jg7 Prod.q4;rintro⟨t,⟨⟩⟩ _ _;refine⟨fun h=>jbJ (t:=t) (fun c=> ?_),fun k=> ?_⟩;have h:taH t=true:=h;rw[((HW t).1 c).1] at h;cases h;have k:taH t=false:=k;refine⟨⟨0,⟨⟨rfl,tZ⟩,tZ⟩,ju _,fun j f=>by omega⟩,fun x d g=>⟨fun h=> ?_,fun h=> ?_⟩⟩;have g:(dp t).length<4611686018427387904:=g;have h:(x:Int)<(dp t).length:=ja h;refine⟨by omega,h,fun c=>jbJ (t:=t) (fun i=> ?_),fun c=>⟨iZ6,x+1,⟨⟨by simp,tZ⟩,tZ⟩,⟨by show x+1<=(dp t).length;omega,fun j f=> ?_⟩,by show(dp t).length-(x+1)<(dp t).length-x;omega⟩⟩;have c:(!kl (nth (dp t) x) 0 100)=true:=c;rw[((HW t).1 i).2.1 x (by omega)] at c;cases c;have c:kl (nth (dp t) x) 0 100=true:=(by simpa using(show(!kl (nth (dp t) x) 0 100)=false from c));by_cases e:j=x;subst e;exact c;exact d.2 j (by omega);have h:¬(x:Int)<(dp t).length:=jc h;have o:∀j,j<(dp t).length->kl (nth (dp t) j) 0 100=true:=fun j f=>d.2 j (by omega)
 clear d h;refine⟨⟨0,⟨⟨rfl,tZ⟩,tZ⟩,ju _,fun j f=>by omega⟩,fun x d g=>⟨fun h=> ?_,fun h=> ?_⟩⟩;have g:(eJ t).length<4611686018427387904:=g;have h:(x:Int)<(eJ t).length:=ja h;have l:(!kl (Xl (nth (eJ t) x)) 0 100000|| !kl (Z2 (nth (eJ t) x)) 0 100||decide (0<(x:Int))&&decide (Xl (nth (eJ t) ((x:Int)-1).toNat)<=Xl (nth (eJ t) x)))= !Ti (eJ t) x:=by
  have e2:((x:Int)-1).toNat=x-1:=(by omega);have m:∀a b:Int,(decide (0<(x:Int))&&decide (a<=b))= !(decide (x=0)||decide (b<a)):=fun a b=>by
   rw[j0];simp only[ji,jm,jO,jN,jF];omega
  unfold Ti;rw[e2,m,Bool.not_and,Bool.not_and]
 refine⟨by omega,h,fun _=>iZ6,fun c=> ?_,fun _=>by show(x:Int)-1<((eJ t).length:Int);omega,fun c=>jbJ (t:=t) (fun i=> ?_),fun c=>⟨iZ6,x+1,⟨⟨by simp,tZ⟩,tZ⟩,⟨by show x+1<=(eJ t).length;omega,fun j f=> ?_⟩,by show(eJ t).length-(x+1)<(eJ t).length-x;omega⟩⟩;rw[ji] at c;have c:0<(x:Int):=ja c.2;show 0<=(x:Int)-1;omega;have c:(!Ti (eJ t) x)=true:=l.symm.trans c;rw[((HW t).1 i).2.2 x (by omega)] at c;cases c;have c:(!Ti (eJ t) x)=false:=l.symm.trans c;by_cases e:j=x;subst e;show Ti (eJ t) j=true;simpa using c;exact d.2 j (by omega);have h:¬(x:Int)<(eJ t).length:=jc h;have n:∀j,j<(eJ t).length->Ti (eJ t) j=true:=fun j f=>d.2 j (by omega)
 show(true,())=(vD t,());rw[(HW t).2 ⟨k,o,n⟩]
theorem EM:wn PR 58 EG:=qG EH HX Tryz.func58 (kcC l6 kcN) koN
def lgH (l:LgD):Bool:=decide (((aL l).length:Int)≠(kE (kL l)).length)||decide (((DE l).length:Int)≠(kE (kL l)).length)|| !vD (nZ l)||decide (10<((wi l).length:Int))
theorem WN (l:LgD):lgH l=false↔((aL l).length=(kE (kL l)).length/\(DE l).length=(kE (kL l)).length/\vD (nZ l)=true/\(wi l).length<=10):=by
 unfold lgH;simp only[jN,jF,zb];constructor;rintro⟨⟨⟨b,c⟩,a⟩,d⟩;exact⟨by omega,by omega,a,by omega⟩;rintro⟨b,c,a,d⟩;exact⟨⟨⟨by omega,by omega⟩,a⟩,by omega⟩
theorem HY:EL:=by
 unfold EL jjc jhD jik jjb jhC jja je8 Prod.q4;rintro⟨l,⟨⟩⟩ i _ _ _;have i:(kE (kL l)).length<4611686018427387904:=i;refine⟨fun h=>jbK (l:=l) (fun a=> ?_),fun f=> ?_⟩;have h:lgH l=true:=h;rw[(WN l).2 ((Du l).1 a).1] at h;cases h;have f:=(WN l).1 (show lgH l=false from f);obtain⟨r,s,p,o⟩:=id f;refine⟨⟨0,⟨⟨rfl,tZ⟩,tZ⟩,ju _,fun j d=>by omega⟩,fun x b=>⟨fun h=> ?_,fun h=> ?_⟩⟩;have h:(x:Int)<(kE (kL l)).length:=ja h;have b:x<=(((kE (kL l)).length:Int)).toNat/\∀j:Nat,j<x->Tt l j=true:=b;have c:(!kl (nth (aL l) x) 0 20|| !kl (nth (DE l) x) 0 300)= !Tt l x:=by
  unfold Tt Ln xb;rw[Bool.not_and]
 refine⟨by omega,by show(x:Int)<(aL l).length;omega,fun _=>by omega,fun _=>by show(x:Int)<(DE l).length;omega,fun a=>jbK (l:=l) (fun g=> ?_),fun a=>⟨iZ6,x+1,⟨⟨by simp,tZ⟩,tZ⟩,⟨by show x+1<=(((kE (kL l)).length:Int)).toNat;omega,fun j d=> ?_⟩,by show(((kE (kL l)).length:Int)).toNat-(x+1)<(((kE (kL l)).length:Int)).toNat-x;omega⟩⟩;have a:(!Tt l x)=true:=c.symm.trans a;rw[((Du l).1 g).2.1 x (by omega)] at a;cases a;have a:(!Tt l x)=false:=c.symm.trans a;by_cases e:j=x;subst e;show Tt l j=true;simpa using a;exact b.2 j (by omega);have h:¬(x:Int)<(kE (kL l)).length:=jc h;have n:∀j,j<(kE (kL l)).length->Tt l j=true:=fun j d=>b.2 j (by omega)
 clear b h;refine⟨⟨0,⟨⟨rfl,tZ⟩,tZ⟩,ju _,fun j d=>by omega⟩,fun x b k=>⟨fun h=> ?_,fun h=> ?_⟩⟩;have k:(wi l).length<4611686018427387904:=k;have h:(x:Int)<(wi l).length:=ja h;have q:(((kE (kL l)).length:Int)).toNat=(kE (kL l)).length:=(by omega);have c:(!kl (Ii (nth (wi l) x)) 0 99|| !kl (LC (nth (wi l) x)) 0 (((kE (kL l)).length:Int)-1)|| !kl (OQ (nth (wi l) x)) (-100000) 1440)= !iU (kE (kL l)).length (nth (wi l) x):=by
  unfold iU;rw[Bool.not_and,Bool.not_and]
 refine⟨by omega,h,fun _=> ?_,fun a=>jbK (l:=l) (fun g=> ?_),fun a=>⟨iZ6,x+1,⟨⟨by simp,tZ⟩,tZ⟩,⟨by show x+1<=(wi l).length;omega,fun j d=> ?_⟩,by show(wi l).length-(x+1)<(wi l).length-x;omega⟩⟩;show kH (((kE (kL l)).length:Int)-1);exact iZ6;have a:(!iU (kE (kL l)).length (nth (wi l) x))=true:=c.symm.trans a;rw[((Du l).1 g).2.2 x (by omega)] at a;cases a;have a:(!iU (kE (kL l)).length (nth (wi l) x))=false:=c.symm.trans a;by_cases e:j=x;subst e;show iU (kE (kL l)).length (nth (wi l) j)=true;simpa using a;exact b.2 j (by omega);have h:¬(x:Int)<(wi l).length:=jc h;have m:∀j,j<(wi l).length->iU (kE (kL l)).length (nth (wi l) j)=true:=fun j d=>b.2 j (by omega)
 show(true,())=(aQ l,());rw[(Du l).2 ⟨f,n,m⟩]
theorem EO:wn PR 32 EJ:=qG EK HY Tryz.func32 (kcC l6 (kcC EM kcN)) koN
theorem SL:Oo:=by
 unfold Oo jjd jgz jha Prod.q4;rintro⟨l,⟨⟩⟩ r;have f:wx (kL l)=ga (kL l):=cL _;refine⟨r,fun h=> ?_,fun h=> ?_⟩;have h:ga (kL l)≠0:=ja h;show(ga (kL l),())=(wC l,());unfold wC;rw[f,jh h];have h:¬ga (kL l)≠0:=jc h;refine⟨fun c=> ?_,fun c=> ?_⟩;have c:aQ l=false:=(by simpa using(show(!aQ l)=true from c));show((70:Int),())=(wC l,());unfold wC;rw[f,jd h,jh c];have c:aQ l=true:=(by simpa using(show(!aQ l)=false from c));have q:=((Du l).1 c).1.2.2.2;have n:∀v,(if yx (wi l)=true then(71:Int) else 0)=v->(v,())=(wC l,()):=fun v s=>by
  unfold wC;rw[f,jd h,jd (by rw[c];decide),s]
 refine⟨⟨0,⟨⟨rfl,tZ⟩,tZ⟩,ju _,fun j g=>by omega⟩,fun x p o=>⟨fun d=> ?_,fun d=> ?_⟩⟩;have o:(wi l).length<4611686018427387904:=o;have d:(x:Int)<(wi l).length:=ja d;refine⟨⟨0,⟨⟨rfl,tZ⟩,tZ⟩,ju _,fun j g=>by omega⟩,fun y i=>⟨fun b=> ?_,fun b=> ?_⟩⟩;have b:(y:Int)<(x:Int):=ja b;have i:y<=x/\∀j:Nat,j<y->Xf (nth (wi l) x) (nth (wi l) j)=false:=i;have k:(y:Int)<(wi l).length:=(by omega);refine⟨by omega,d,by omega,k,fun _=>by omega,fun _=>d,fun _=>by omega,fun _=>k,fun a=> ?_,fun a=>⟨iZ6,y+1,⟨⟨by simp,tZ⟩,tZ⟩,⟨by show y+1<=x;omega,fun j g=> ?_⟩,by show x-(y+1)<x-y;omega⟩⟩;have a:Xf (nth (wi l) x) (nth (wi l) y)=true:=a;exact n 71 (jh (jbL (by omega) (by omega) a));have a:Xf (nth (wi l) x) (nth (wi l) y)=false:=a;by_cases e:j=y;subst e;exact a;exact i.2 j (by omega);have b:¬(y:Int)<(x:Int):=jc b;have i:y<=x/\∀j:Nat,j<y->Xf (nth (wi l) x) (nth (wi l) j)=false:=i;have m:y=x:=(by omega);subst m;refine⟨iZ6,y+1,⟨⟨by simp,tZ⟩,tZ⟩,⟨by show y+1<=(wi l).length;omega,fun j g=> ?_⟩,by show(wi l).length-(y+1)<(wi l).length-y;omega⟩;by_cases e:j=y;subst e;exact jda i.2 (by omega);exact p.2 j (by omega);have d:¬(x:Int)<(wi l).length:=jc d;refine n 0 (jd fun b=> ?_);unfold yx mj at b;rw[j9] at b;obtain⟨j,g,a⟩:=b;have g:=jA.1 g;have:=p.2 j (by omega);rw[this] at a;cases a
theorem Ot:wn PR 10 Om:=qG On SL Tryz.func10 (kcC pq (kcC EO kcN)) koN
theorem EP:Dr:=by
 rintro⟨l,n,⟨⟩⟩ a;have a:(kE (kL l)).length<4611686018427387904:=a;exact⟨by show kH (((kE (kL l)).length:Int)-1);exact iZ6,rfl⟩
theorem Dv:wn PR 15 Dq:=kY EP Tryz.func15 (kcC l6 kcN) koN
theorem Ou:K5:=by
 rintro⟨l,b,⟨⟩⟩ c a;have c:ga (kL l)=0:=c;have a:0<=b/\b<((kE (kL l)).length:Int):=a;have g:((uw (kL l)).length:Int)=(kE (kL l)).length:=(by rw[Hy c]);have d:b<((uw (kL l)).length:Int):=(by omega);have f:=Ku c;have h:=VU f (b:=b.toNat) (by omega);have i:Tq (nth (uw (kL l)) b.toNat):=(by rw[V7 c];exact jbr c (by omega));have j:(kE (kL l)).length<=4:=by
  have e:=f.2.2;unfold wR at e;rw[ji] at e;exact(ja e.1).1
 exact⟨by show(kE (kL l)).length<=1000000;omega,a.1,d,a.1,a.2,a.1,d,f.1,h,i,rfl⟩
theorem K6:wn PR 17 K4:=kY Ou Tryz.func17 (kcC N2 (kcC RV kcN)) koN
namespace U
def eM (l:LgD) (x:CaD):LgD:=(kL l,aL l,DE l,nZ l,wi l++[x],())
end U
theorem Qf (l:LgD) (x:CaD) (b:Int):EZ (eM l x) b=cd l b (EZ l b) x:=by
 have e:EZ (eM l x) b=(wi l++[x]).foldl (cd l b) (0,false):=by
  show((wi l++[x]).take (wi l++[x]).length).foldl (cd l b) (0,false)=_;rw[zw]
 have e2:EZ l b=(wi l).foldl (cd l b) (0,false):=by
  show((wi l).take (wi l).length).foldl (cd l b) (0,false)=_;rw[zw]
 rw[e,jU,<-e2];rfl
theorem Y1 {l:LgD} {x:CaD} {t:Int}:ce (eM l x) (LC x) t=ce (F8 l (LC x) (OQ x)) (LC x) t:=by
 refine SJ (l:=F8 l (LC x) (OQ x)) (l':=eM l x) rfl rfl rfl rfl ?_;have e:F8 l (LC x) (OQ x)=eM l (0,LC x,OQ x,()):=rfl;rw[e,Qf,Qf];rfl
namespace U
def jet:LnD:=(0,0,0,0,0,0,())
def n4 (b:Int) (x:LnD):Bool:=decide (Iq x=b)
def findV:Option LnD->LnD×Bool
 |some x=>(x,true)
 |none=>(jet,false)
def yM (l:List LnD) (b:Int):LnD×Bool:=findV (l.find? (n4 b))
end U
theorem Y2 {l:LgD} (h:DK l) {b:Int} (j:0<=b/\b<((kE (kL l)).length:Int)):yM (OT l) b=if Tg l b=true then(ce l b (In l b),true) else(jet,false):=by
 unfold yM;have key:∀x∈OT l,Iq x=b->Tg l b=true/\x=ce l b (In l b):=fun x i e=>by
  obtain⟨p,_,c,_,a,_,rfl⟩:=HV.1 (show x∈uy l 21 from i);have e:(c:Int)=b:=e;subst e;exact⟨a,rfl⟩
 by_cases a:Tg l b=true;rw[jh a];have g:ce l b (In l b)∈OT l:=by
  have k:=h.py.2 _ (L.kB (show b.toNat<(aL l).length by rw[h.py.1];omega));have en:((b.toNat:Nat):Int)=b:=(by omega);refine HV.2 ⟨(nth (aL l) b.toNat).toNat,by omega,b.toNat,by rw[h.py.1];omega,?_,by omega,?_⟩;rw[en];exact a;rw[en]
 cases e:(OT l).find? (n4 b) with
 |some x=>
  have d:=List.find?_some e;have f:=List.mem_of_find?_eq_some e;have:=(key x f (ja d)).2;show(x,true)=_;rw[this]
 |none=>
  rw[List.find?_eq_none] at e;exact absurd (jH (rfl:Iq (ce l b (In l b))=b)) (e _ g)
 rw[jd a];cases e:(OT l).find? (n4 b) with
 |some x=>
  have d:=List.find?_some e;have f:=List.mem_of_find?_eq_some e;exact absurd (key x f (ja d)).1 a
 |none=>rfl
theorem jbM {l:LgD} {x:CaD} (h:wC l=0) (q:(wi l).length<=9) (p:iU (kE (kL l)).length x=true) (hi:∀c∈wi l,Ii c=Ii x->c=x):wC (eM l x)=0:=by
 obtain⟨k,g,m⟩:=SK h;have i:=F5.1 m;refine jbI k ?_ (F5.2 fun a n b j e=> ?_);unfold aQ at g⊢;simp only[ji,jm,jT] at g⊢;refine⟨g.1,g.2.1,?_,fun c o=> ?_⟩;show(wi l++[x]).length<=10;rw[jL];show _+1<=_;omega;rcases js.1 (show c∈wi l++[x] from o) with d|d;exact g.2.2.2 c d;rw[zR] at d;subst d;exact p;rcases js.1 (show a∈wi l++[x] from n) with d|d;rcases js.1 (show b∈wi l++[x] from j) with f|f;exact i a d b f e;rw[zR] at f;subst f;exact hi a d e;rw[zR] at d;subst d;rcases js.1 (show b∈wi l++[a] from j) with f|f;exact(hi b f e.symm).symm;rw[zR] at f;exact f.symm
theorem SM {l:LgD} (h:DK l) {x:CaD} (a:0<=LC x/\LC x<((kE (kL l)).length:Int)):Tr (ce (eM l x) (LC x) (In l (LC x)))=qf (OQ x) (kP l (LC x)):=by
 rw[Y1,<-WL h a];rfl
theorem Y3 {l:LgD} (h:wC l=0) {b a:Int} (n:(qT l b&&vW a)=true):
 (Tg l b=false->yK l b a=3)/\
 (Tg l b=true->(yK l b a=0/\-100000<=yY l b a/\yY l b a<=wP (cm l b)/\qf (yY l b a) (kP l b)<=a/\∀m,yY l b a<m->m<=wP (cm l b)->a<qf m (kP l b))\/
  (yK l b a=3/\∀m,-100000<=m->m<=wP (cm l b)->a<qf m (kP l b))):=by
 have o:=de h;have p:0<=b/\b<((kE (kL l)).length:Int):=by
  rw[ji] at n;exact Qe.1 n.1
 have o0:wV l (qT l b&&vW a)=0:=by
  unfold wV;rw[jd (fun c=>c h),jh n]
 have t:yY l b a=jdo a (OS (U.bo l) b):=jh o0;have s:yK l b a=jdp a (OS (U.bo l) b):=jh o0;obtain⟨c1,_⟩:=vd l b _ (jk _);have c1:qt (kP l b)=cm l b:=c1;have r:cg (kP l b)=(wP (cm l b)+100001).toNat:=(by unfold cg;rw[c1]);have g:=(l3 o p).1;have g:0<=wP (cm l b)/\wP (cm l b)<cj (cm l b)/\cj (cm l b)<=1440:=g;have d:∀m,m<=wP (cm l b)->cf (kP l b) a (wP (cm l b)-m).toNat=decide (qf m (kP l b)<=a):=fun m x=>by
  have:wP (cm l b)-(((wP (cm l b)-m).toNat:Nat):Int)=m:=(by omega);unfold cf;rw[c1,this]
 rw[t,s,jc8];refine⟨fun i=> ?_,fun i=> ?_⟩;rw[jd (fun c=>by rw[(HU o p).1 c] at i;cases i)];rfl;rw[jh ((HU o p).2 i)];show(jb3 (nF (kP l b) a)=0/\-100000<=Th (kP l b) (nF (kP l b) a)/\Th (kP l b) (nF (kP l b) a)<=wP (cm l b)/\qf (Th (kP l b) (nF (kP l b) a)) (kP l b)<=a/\∀m,Th (kP l b) (nF (kP l b) a)<m->m<=wP (cm l b)->a<qf m (kP l b))\/
  (jb3 (nF (kP l b) a)=3/\∀m,-100000<=m->m<=wP (cm l b)->a<qf m (kP l b))
 rcases uo (kP l b) a with⟨k,e,hk,v,j⟩|⟨e,j⟩;left;rw[r] at hk;rw[e];have ev:Th (kP l b) (some k)=wP (cm l b)-(k:Int):=(by show wP (qt (kP l b))-(k:Int)=_;rw[c1]);rw[ev];have u:(wP (cm l b)-(wP (cm l b)-(k:Int))).toNat=k:=(by omega);have q:=d (wP (cm l b)-(k:Int)) (by omega);rw[u,v] at q;refine⟨rfl,by omega,by omega,ja q.symm,fun m w c=> ?_⟩;have f:=d m c;rw[j _ (by omega)] at f;have:=jc f.symm;omega;right;rw[e];refine⟨rfl,fun m w c=> ?_⟩;have f:=d m c;rw[j _ (by rw[r];omega)] at f;have:=jc f.symm;omega
namespace U
def jdq (l:LgD):List LnD:=if wC l=0 then OT l else[]
def ci (l:LgD):Prop:=DD (kL l)/\(aL l).length<=20/\(DE l).length<=20/\(dp (nZ l)).length<=20/\(eJ (nZ l)).length<=20/\(wi l).length<=30
end U
end Go.X
namespace Go.X
open U
namespace U
def Qr (b m:Int):CaD:=(99,b,m,())
end U
open Go.Proofs
def WO:we:=⟨[.val tLg,.fn [tBo] [.bool]],[tBo,.int],false,fun d=>[(wu (kL d.1)).length<=100000,wC d.1=0->kK (d.2.1.pre ((d.1,[],()),()))],fun d=>(wD d.1 (wv d.1 d.2.1.F),wV d.1 (wv d.1 d.2.1.F),())⟩
def WP:Ann:=fun r=>match r with
 |10=>some fun σ=>{X:=Nat,sl:=fun i=>[(46,.dat .int (i:Int))],ob:=fun i=>[(25,some (.map false .int (.ptr tBl) (Ar (gb tLg σ 2) i)))],inv:=fun i=>i<=(gd (.slice .int) σ 44).length,mu:=fun i=>(gd (.slice .int) σ 44).length-i}
 |14=>some fun σ=>{X:=Nat,sl:=fun p=>[(71,.dat .int (p:Int))],ob:=fun p=>[(65,some (.box 98 false ((bx σ 65).set 21 (.own (eV 65 21) .int)))),(eV 65 21,some (.row 3 .int false .yes (wY (gb tLg σ 2) (gd .int σ 13) p)))],inv:=fun p=>p<=(kz (kD (kL (gb tLg σ 2)))).length,mu:=fun p=>(kz (kD (kL (gb tLg σ 2)))).length-p}
 |21=>some fun σ=>{X:=Nat,sl:=fun i=>[(103,.dat .int (i:Int))],ob:=fun i=>[(65,some (.box 98 false (((bx σ 65).set 24 (.dat .bool (sW (kF (gb tLg σ 2) (gd .int σ 13) i)))).set 25 (.dat .int (pH (kF (gb tLg σ 2) (gd .int σ 13) i))))))],inv:=fun i=>i<=(wi (gb tLg σ 2)).length,mu:=fun i=>(wi (gb tLg σ 2)).length-i}
 |_=>none
abbrev jfw (d:LgD×FnD [tBo] [Ty.bool]×Unit):=d.1.2.2.2.1.q4.q4.2.1
abbrev jfx (d:LgD×FnD [tBo] [Ty.bool]×Unit):=d.1.2.2.2.1.q4.q4.1
abbrev jfy (d:LgD×FnD [tBo] [Ty.bool]×Unit):=d.1.2.2.2.1.q4.2.2.2.1
abbrev jfz (d:LgD×FnD [tBo] [Ty.bool]×Unit):=d.1.2.2.2.1.q4.2.2.1
abbrev jf2 (d:LgD×FnD [tBo] [Ty.bool]×Unit):=(kz (kD (kL d.1)))
abbrev jil (d:LgD×FnD [tBo] [Ty.bool]×Unit):=(wD d.1 (wv d.1 d.2.1.2),wV d.1 (wv d.1 d.2.1.2),())
abbrev jfA (d:LgD×FnD [tBo] [Ty.bool]×Unit):=d.1.2.2.2.1.q4.2.1
abbrev jeL (d:LgD×FnD [tBo] [Ty.bool]×Unit):=(km d.1.1)
abbrev jeI (d:LgD×FnD [tBo] [Ty.bool]×Unit)(x:Nat):=(nth (jeL d) x)
abbrev jeF (d:LgD×FnD [tBo] [Ty.bool]×Unit)(x:Nat):=(nth d.1.1.2.2.1 (jeI d x).toNat)
abbrev jgg (d:LgD×FnD [tBo] [Ty.bool]×Unit)(x:Nat):=(nth d.1.2.2.1 (jeI d x).toNat)
abbrev jfB (d:LgD×FnD [tBo] [Ty.bool]×Unit):=d.1.2.2.2.1.q4.1
abbrev je0 (d:LgD×FnD [tBo] [Ty.bool]×Unit)(x:Nat)(a:Nat):=(qC ((jeF d x).1.1,(jeF d x).1.2.1,(jeF d x).1.2.2.1,(jeF d x).1.2.2.2.1,(jeF d x).1.q4.1,(jeF d x).1.q4.2.1,(jeF d x).2.1,(jeF d x).2.2.1,(jeF d x).2.2.2.1,d.1.2.2.2.1.1,d.1.2.2.2.1.2.1,d.1.2.2.2.1.2.2.1,d.1.2.2.2.1.2.2.2.1,(jfB d),(jfA d),(jfz d),(jfy d),(jfx d),(jfw d),nth (jeL d) x,nth d.1.2.1 (jeI d x).toNat,wY d.1 (jeI d x) a,(0:Int),(0:Int),false,(0:Int),()))
abbrev jim (d:LgD×FnD [tBo] [Ty.bool]×Unit)(x:Nat):=((jeF d x).1.1=(jeF d x).1.1/\(jeF d x).1.2.1=(jeF d x).1.2.1/\(jeF d x).1.2.2.1=(jeF d x).1.2.2.1/\(jeF d x).1.2.2.2.1=(jeF d x).1.2.2.2.1/\(jeF d x).1.q4.1=(jeF d x).1.q4.1/\(jeF d x).1.q4.2.1=(jeF d x).1.q4.2.1/\(jeF d x).2.1=(jeF d x).2.1/\(jeF d x).2.2.1=(jeF d x).2.2.1/\(jeF d x).2.2.2.1=(jeF d x).2.2.2.1/\d.1.2.2.2.1.1=d.1.2.2.2.1.1/\d.1.2.2.2.1.2.1=d.1.2.2.2.1.2.1/\d.1.2.2.2.1.2.2.1=d.1.2.2.2.1.2.2.1/\d.1.2.2.2.1.2.2.2.1=d.1.2.2.2.1.2.2.2.1/\(jfB d)=(jfB d)/\(jfA d)=(jfA d)/\(jfz d)=(jfz d)/\(jfy d)=(jfy d)/\(jfx d)=(jfx d)/\(jfw d)=(jfw d)/\nth (jeL d) x=nth (jeL d) x/\nth d.1.2.1 (jeI d x).toNat=nth d.1.2.1 (jeI d x).toNat/\True/\(0:Int)=0/\(0:Int)=0/\qF/\(0:Int)=0/\True)
abbrev jf3 (d:LgD×FnD [tBo] [Ty.bool]×Unit)(x:Nat)(a:Nat):=(kF d.1 (jeI d x) a)
abbrev jhE (d:LgD×FnD [tBo] [Ty.bool]×Unit)(x:Nat)(a:Nat)(b:Nat):=(qC ((jeF d x).1.1,(jeF d x).1.2.1,(jeF d x).1.2.2.1,(jeF d x).1.2.2.2.1,(jeF d x).1.q4.1,(jeF d x).1.q4.2.1,(jeF d x).2.1,(jeF d x).2.2.1,(jeF d x).2.2.2.1,d.1.2.2.2.1.1,d.1.2.2.2.1.2.1,d.1.2.2.2.1.2.2.1,d.1.2.2.2.1.2.2.2.1,(jfB d),(jfA d),(jfz d),(jfy d),(jfx d),(jfw d),nth (jeL d) x,nth d.1.2.1 (jeI d x).toNat,wY d.1 (jeI d x) a,aW (je0 d x a),ca (jgg d x) (je0 d x a),sW (jf3 d x b),pH (jf3 d x b),()))
def WQ:Prop:=∀(d:LgD×FnD [tBo] [Ty.bool]×Unit),(wu (kL d.1)).length<=100000->(wC d.1=0->kK (d.2.1.1 ((d.1,[],()),())))->(wu (kL d.1)).length<=100000/\(decide (wC d.1≠0)=true->((((((0:Int),[],[],()),[],[],(0:Int),(0:Int),[],()),[],[],((0:Int),(0:Int),(0:Int),(0:Int),(0:Int),(0:Int),(0:Int),(0:Int),[],[],()),[],()),[],()),wC d.1,())=(jil d))/\(decide (wC d.1≠0)=false->asks (d.2.1.1 ((d.1,[],()),())) (((!(d.2.1.2 ((d.1,[],()),())).1)=true->((((((0:Int),[],[],()),[],[],(0:Int),(0:Int),[],()),[],[],((0:Int),(0:Int),(0:Int),(0:Int),(0:Int),(0:Int),(0:Int),(0:Int),[],[],()),[],()),[],()),(1:Int),())=(jil d))/\((!(d.2.1.2 ((d.1,[],()),())).1)=false->(wu d.1.1).length<=100000/\(wu d.1.1).length<=100000/\((jeL d).length<4611686018427387904->(∃(x:Nat),((0=(x:Int)/\True)/\[]=Ar d.1 x/\True)/\x<=(jeL d).length)/\∀(x:Nat),x<=(jeL d).length->(decide ((x:Int)<(jeL d).length)=true->0<=(x:Int)/\(x:Int)<(jeL d).length/\0<=nth (jeL d) x/\nth (jeL d) x<(d.1.1.2.2.1.length:Int)/\0<=nth (jeL d) x/\nth (jeL d) x<(d.1.2.1.length:Int)/\(d.1.1.1.2.1.length<4611686018427387904->(∃(a:Nat),((0=(a:Int)/\True)/\(jim d x)/\wY d.1 (jeI d x) a=[]/\True)/\a<=(jf2 d).length)/\∀(a:Nat),a<=(jf2 d).length->(decide ((a:Int)<d.1.1.1.2.1.length)=true->0<=nth (jeL d) x/\nth (jeL d) x<(↑(eI d.1.1).length:Int)/\0<=(a:Int)/\(a:Int)<=64/\(decide (iy (nth (eI d.1.1) (jeI d x).toNat/(2:Int)^a) (1:Int)=1)=true->((wY d.1 (jeI d x) a).length+[(a:Int)].length)*8<=140737488355328/\kH ((a:Int)+1)/\∃(c:Nat),(((a:Int)+1=(c:Int)/\True)/\(jim d x)/\wY d.1 (jeI d x) a++[(a:Int)]=wY d.1 (jeI d x) c/\True)/\c<=(jf2 d).length/\(jf2 d).length-c<(jf2 d).length-a)/\(decide (iy (nth (eI d.1.1) (jeI d x).toNat/(2:Int)^a) (1:Int)=1)=false->kH ((a:Int)+1)/\∃(c:Nat),(((a:Int)+1=(c:Int)/\True)/\wY d.1 (jeI d x) a=wY d.1 (jeI d x) c/\(jim d x)/\True)/\c<=(jf2 d).length/\(jf2 d).length-c<(jf2 d).length-a))/\(decide ((a:Int)<d.1.1.1.2.1.length)=false->0<=nth (jeL d) x/\nth (jeL d) x<(d.1.2.2.1.length:Int)/\EX (je0 d x a)/\0<=nth d.1.2.2.1 (jeI d x).toNat/\nth d.1.2.2.1 (jeI d x).toNat<=300/\(d.1.q4.1.length<4611686018427387904->(∃(b:Nat),((0=(b:Int)/\True)/\((jeF d x).1.1=(jeF d x).1.1/\(jeF d x).1.2.1=(jeF d x).1.2.1/\(jeF d x).1.2.2.1=(jeF d x).1.2.2.1/\(jeF d x).1.2.2.2.1=(jeF d x).1.2.2.2.1/\(jeF d x).1.q4.1=(jeF d x).1.q4.1/\(jeF d x).1.q4.2.1=(jeF d x).1.q4.2.1/\(jeF d x).2.1=(jeF d x).2.1/\(jeF d x).2.2.1=(jeF d x).2.2.1/\(jeF d x).2.2.2.1=(jeF d x).2.2.2.1/\d.1.2.2.2.1.1=d.1.2.2.2.1.1/\d.1.2.2.2.1.2.1=d.1.2.2.2.1.2.1/\d.1.2.2.2.1.2.2.1=d.1.2.2.2.1.2.2.1/\d.1.2.2.2.1.2.2.2.1=d.1.2.2.2.1.2.2.2.1/\(jfB d)=(jfB d)/\(jfA d)=(jfA d)/\(jfz d)=(jfz d)/\(jfy d)=(jfy d)/\(jfx d)=(jfx d)/\(jfw d)=(jfw d)/\nth (jeL d) x=nth (jeL d) x/\nth d.1.2.1 (jeI d x).toNat=nth d.1.2.1 (jeI d x).toNat/\wY d.1 (jeI d x) a=wY d.1 (jeI d x) a/\aW (je0 d x a)=aW (je0 d x a)/\ca (jgg d x) (je0 d x a)=ca (jgg d x) (je0 d x a)/\sW (je0 d x a)=sW (jf3 d x b)/\pH (je0 d x a)=pH (jf3 d x b)/\True)/\True)/\b<=(wi d.1).length)/\∀(b:Nat),b<=(wi d.1).length->(decide ((b:Int)<d.1.q4.1.length)=true->0<=(b:Int)/\(b:Int)<d.1.q4.1.length/\(decide ((nth d.1.q4.1 b).2.1=nth (jeL d) x)=true->kH ((b:Int)+1)/\∃(c:Nat),(((b:Int)+1=(c:Int)/\True)/\((jeF d x).1.1=(jeF d x).1.1/\(jeF d x).1.2.1=(jeF d x).1.2.1/\(jeF d x).1.2.2.1=(jeF d x).1.2.2.1/\(jeF d x).1.2.2.2.1=(jeF d x).1.2.2.2.1/\(jeF d x).1.q4.1=(jeF d x).1.q4.1/\(jeF d x).1.q4.2.1=(jeF d x).1.q4.2.1/\(jeF d x).2.1=(jeF d x).2.1/\(jeF d x).2.2.1=(jeF d x).2.2.1/\(jeF d x).2.2.2.1=(jeF d x).2.2.2.1/\d.1.2.2.2.1.1=d.1.2.2.2.1.1/\d.1.2.2.2.1.2.1=d.1.2.2.2.1.2.1/\d.1.2.2.2.1.2.2.1=d.1.2.2.2.1.2.2.1/\d.1.2.2.2.1.2.2.2.1=d.1.2.2.2.1.2.2.2.1/\(jfB d)=(jfB d)/\(jfA d)=(jfA d)/\(jfz d)=(jfz d)/\(jfy d)=(jfy d)/\(jfx d)=(jfx d)/\(jfw d)=(jfw d)/\nth (jeL d) x=nth (jeL d) x/\nth d.1.2.1 (jeI d x).toNat=nth d.1.2.1 (jeI d x).toNat/\wY d.1 (jeI d x) a=wY d.1 (jeI d x) a/\pG (jhE d x a b)=aW (je0 d x a)/\EW (jhE d x a b)=ca (jgg d x) (je0 d x a)/\W8 (nth d.1.q4.1 b).2.2.1 (jhE d x a b)=sW (kF d.1 (jeI d x) c)/\W9 (nth d.1.q4.1 b).2.2.1 (jhE d x a b)=pH (kF d.1 (jeI d x) c)/\True)/\True)/\c<=(wi d.1).length/\(wi d.1).length-c<(wi d.1).length-b)/\(decide ((nth d.1.q4.1 b).2.1=nth (jeL d) x)=false->kH ((b:Int)+1)/\∃(c:Nat),(((b:Int)+1=(c:Int)/\True)/\((jeF d x).1.1=(jeF d x).1.1/\(jeF d x).1.2.1=(jeF d x).1.2.1/\(jeF d x).1.2.2.1=(jeF d x).1.2.2.1/\(jeF d x).1.2.2.2.1=(jeF d x).1.2.2.2.1/\(jeF d x).1.q4.1=(jeF d x).1.q4.1/\(jeF d x).1.q4.2.1=(jeF d x).1.q4.2.1/\(jeF d x).2.1=(jeF d x).2.1/\(jeF d x).2.2.1=(jeF d x).2.2.1/\(jeF d x).2.2.2.1=(jeF d x).2.2.2.1/\d.1.2.2.2.1.1=d.1.2.2.2.1.1/\d.1.2.2.2.1.2.1=d.1.2.2.2.1.2.1/\d.1.2.2.2.1.2.2.1=d.1.2.2.2.1.2.2.1/\d.1.2.2.2.1.2.2.2.1=d.1.2.2.2.1.2.2.2.1/\(jfB d)=(jfB d)/\(jfA d)=(jfA d)/\(jfz d)=(jfz d)/\(jfy d)=(jfy d)/\(jfx d)=(jfx d)/\(jfw d)=(jfw d)/\nth (jeL d) x=nth (jeL d) x/\nth d.1.2.1 (jeI d x).toNat=nth d.1.2.1 (jeI d x).toNat/\wY d.1 (jeI d x) a=wY d.1 (jeI d x) a/\aW (je0 d x a)=aW (je0 d x a)/\ca (jgg d x) (je0 d x a)=ca (jgg d x) (je0 d x a)/\sW (jf3 d x b)=sW (kF d.1 (jeI d x) c)/\pH (jf3 d x b)=pH (kF d.1 (jeI d x) c)/\True)/\True)/\c<=(wi d.1).length/\(wi d.1).length-c<(wi d.1).length-b))/\(decide ((b:Int)<d.1.q4.1.length)=false->kH ((x:Int)+1)/\∃(c:Nat),(((x:Int)+1=(c:Int)/\True)/\eQ Ty.int (jeI d x) (some (nth d.1.1.2.2.1 (jeI d x).toNat,d.1.2.2.2.1,nth (jeL d) x,nth d.1.2.1 (jeI d x).toNat,wY d.1 (jeI d x) a,aW (je0 d x a),ca (jgg d x) (je0 d x a),sW (jf3 d x b),pH (jf3 d x b),())) (Ar d.1 x)=Ar d.1 c/\True)/\c<=(jeL d).length/\(jeL d).length-c<(jeL d).length-x)))))/\(decide ((x:Int)<(jeL d).length)=false->((d.1,Ar d.1 x,()),(0:Int),())=(jil d))))))
def jcb (l:LgD) (n:Int) (k:Nat):BlD:=
 (nth (kE (kL l)) n.toNat,nZ l,n,nth (aL l) n.toNat,wY l n (kz (kD (kL l))).length,
  aW (sR l n (wY l n (kz (kD (kL l))).length)),ca (nth (DE l) n.toNat) (sR l n (wY l n (kz (kD (kL l))).length)),sW (kF l n k),pH (kF l n k),())
theorem Ov (l:LgD) (n:Int) {k:Nat} (hk:k<=(wi l).length):jcb l n k=kF l n k:=by
 obtain⟨c1,c2,a,b,c,d,f⟩:=vd l n k hk;have e:kF l n k=(qt (kF l n k),yX (kF l n k),Ql (kF l n k),Qm (kF l n k),qX (kF l n k),pG (kF l n k),EW (kF l n k),sW (kF l n k),pH (kF l n k),()):=rfl;rw[c1,c2,a,b,c,d,f] at e;exact e.symm
theorem WR (l:LgD) (n:Int) (k:Nat):wY l n (k+1)=wY l n k++(if wy (nth (eI (kL l)) n.toNat) (k:Int)=true then[(k:Int)] else[]):=by
 unfold wY Lo;rw[zi,List.filter_append,zz];congr 1;by_cases h:wy (nth (eI (kL l)) n.toNat) (k:Int)=true;rw[jh h];simp only[List.filter,h,List.map];rw[jd h];rw[zS] at h;simp only[List.filter,h,List.map]
theorem Y4 {l:LgD} (h:DK l):(eI (kL l)).length=(kE (kL l)).length:=by
 unfold eI;rw[jh h.cp];unfold gB;rw[zp,zZ]
theorem Y5:WQ:=by
 unfold WQ jhE jf3 jim je0 jfB jgg jeF jeI jeL jfA jil jf2 jfz jfy jfx jfw Prod.q4;rintro⟨l,told,⟨⟩⟩ w K;have w:(wu (kL l)).length<=100000:=w;refine⟨w,fun h=> ?_,fun h=> ?_⟩;have h:wC l≠0:=ja h;have e:∀t,wV l t=wC l:=fun t=>jh h
 have e2:∀t,wD l t=jed:=fun t=>jd (by rw[e];exact h)
 show(jed,wC l,())=(wD l (wv l told.2),wV l (wv l told.2),());rw[e,e2];have h:wC l=0:=jP.1 (jc h);have g:=de h;refine qY _ (K h) ⟨fun o=> ?_,fun o=>⟨w,w,fun H=>⟨⟨0,⟨⟨rfl,tZ⟩,rfl,tZ⟩,ju _⟩,fun x I=>⟨fun q=> ?_,fun q=> ?_⟩⟩⟩⟩;have o:wv l told.2=false:=(by simpa using(show(!wv l told.2)=true from o));show(jed,(1:Int),())=(wD l (wv l told.2),wV l (wv l told.2),());have e:wV l (wv l told.2)=1:=by
  unfold wV;rw[jd (fun z=>z h),o];rfl
 have e2:wD l (wv l told.2)=jed:=jd (by rw[e];decide);rw[e,e2];have q:(x:Int)<(km (kL l)).length:=ja q;have f:x<(km (kL l)).length:=(by omega);obtain⟨n,en⟩:∃n,n=nth (km (kL l)) x:=⟨_,rfl⟩;have c:0<=n/\n<((kE (kL l)).length:Int):=(by rw[en];exact HI (L.kB f));have M:(km (kL l)).length<=4:=P9 g;have C:n<((aL l).length:Int):=(by rw[g.py.1];exact c.2);have F:n<((DE l).length:Int):=(by rw[g.tr.1];exact c.2);have E:n<((eI (kL l)).length:Int):=(by rw[Y4 g];exact c.2);have O:=jdX g;have u:=C9 (nth (eI (kL l)) n.toNat);have G:=g.tr.2 _ (L.kB (show n.toNat<(DE l).length by omega));have D:Ar l (x+1)=eQ .int n (some (kP l n)) (Ar l x):=(by rw[KJ f,<-en];rfl);have N:=g.cl;have step:∀k,k<(wi l).length->kF l n (k+1)=gE n (jcb l n k) (nth (wi l) k):=fun k hk=>by rw[cN hk,Ov l n (by omega)]
 subst en;refine⟨by omega,q,c.1,c.2,c.1,C,fun P=>⟨⟨0,⟨⟨rfl,tZ⟩,(by repeat' (first|exact trivial|exact rfl|apply And.intro)),rfl,tZ⟩,ju _⟩,fun p v=>⟨fun b=> ?_,fun b=> ?_⟩⟩⟩;have b:(p:Int)<(kz (kD (kL l))).length:=ja b;have d:=WR l (nth (km (kL l)) x) p;have s:=(u p).1;have s:(wY l (nth (km (kL l)) x) p).length<=p:=s;have up:p+1<=(kz (kD (kL l))).length:=(by omega);have r:(kz (kD (kL l))).length-(p+1)<(kz (kD (kL l))).length-p:=(by omega);refine⟨c.1,E,by omega,by omega,fun j=> ?_,fun j=> ?_⟩;have j:wy (nth (eI (kL l)) (nth (km (kL l)) x).toNat) (p:Int)=true:=j;rw[jh j] at d;exact⟨by show((wY l (nth (km (kL l)) x) p).length+1)*8<=140737488355328;omega,iZ6,p+1,⟨⟨by simp,tZ⟩,(by repeat' (first|exact trivial|exact rfl|apply And.intro)),d.symm,tZ⟩,up,r⟩;have j:wy (nth (eI (kL l)) (nth (km (kL l)) x).toNat) (p:Int)=false:=j;rw[jd (by rw[j];decide),j8] at d;exact⟨iZ6,p+1,⟨⟨by simp,tZ⟩,d.symm,(by repeat' (first|exact trivial|exact rfl|apply And.intro)),tZ⟩,up,r⟩;have b:¬(p:Int)<(kz (kD (kL l))).length:=jc b;have v:p<=(kz (kD (kL l))).length:=v;have B:p=(kz (kD (kL l))).length:=(by omega);subst B;have J:C7 (sR l (nth (km (kL l)) x) (wY l (nth (km (kL l)) x) (kz (kD (kL l))).length)):=P8 g c (by have:=(u (kz (kD (kL l))).length).1;unfold wY;omega);refine⟨c.1,F,sy.2 J,G.1,G.2,fun Q=>⟨⟨0,⟨⟨rfl,tZ⟩,(by repeat' (first|exact trivial|exact rfl|apply And.intro)),tZ⟩,ju _⟩,fun k hk=>⟨fun a=> ?_,fun a=> ?_⟩⟩⟩;have a:(k:Int)<(wi l).length:=ja a;have i:=step k (by omega);have up:k+1<=(wi l).length:=(by omega);have r:(wi l).length-(k+1)<(wi l).length-k:=(by omega);refine⟨by omega,a,fun m=> ?_,fun m=> ?_⟩;have m:LC (nth (wi l) k)=(nth (km (kL l)) x):=ja m;have e:kF l (nth (km (kL l)) x) (k+1)=yl (OQ (nth (wi l) k)) (jcb l (nth (km (kL l)) x) k):=(by rw[i];exact jh m);have y:sW (yl (OQ (nth (wi l) k)) (jcb l (nth (km (kL l)) x) k))=sW (kF l (nth (km (kL l)) x) (k+1)):=(by rw[e]);have e2:pH (yl (OQ (nth (wi l) k)) (jcb l (nth (km (kL l)) x) k))=pH (kF l (nth (km (kL l)) x) (k+1)):=(by rw[e]);exact⟨iZ6,k+1,⟨⟨by simp,tZ⟩,(by repeat' (first|exact trivial|exact y|exact e2|exact rfl|apply And.intro)),tZ⟩,up,r⟩;have m:¬LC (nth (wi l) k)=(nth (km (kL l)) x):=jc m;have e:kF l (nth (km (kL l)) x) (k+1)=kF l (nth (km (kL l)) x) k:=(by rw[i,Ov l (nth (km (kL l)) x) (by omega)];exact jd m);have y:sW (kF l (nth (km (kL l)) x) k)=sW (kF l (nth (km (kL l)) x) (k+1)):=(by rw[e]);have e2:pH (kF l (nth (km (kL l)) x) k)=pH (kF l (nth (km (kL l)) x) (k+1)):=(by rw[e]);exact⟨iZ6,k+1,⟨⟨by simp,tZ⟩,(by repeat' (first|exact trivial|exact y|exact e2|exact rfl|apply And.intro)),tZ⟩,up,r⟩;have a:¬(k:Int)<(wi l).length:=jc a;have hk:k<=(wi l).length:=hk;have A:k=(wi l).length:=(by omega);subst A;have e:eQ .int (nth (km (kL l)) x) (some (jcb l (nth (km (kL l)) x) (wi l).length)) (Ar l x)=Ar l (x+1):=by
  rw[D,Ov l (nth (km (kL l)) x) (jk _)];rfl
 exact⟨iZ6,x+1,⟨⟨by simp,tZ⟩,e,tZ⟩,by show x+1<=(km (kL l)).length;omega,by show(km (kL l)).length-(x+1)<(km (kL l)).length-x;omega⟩;have q:¬(x:Int)<(km (kL l)).length:=jc q;have I:x<=(km (kL l)).length:=I;have f:x=(km (kL l)).length:=(by omega);subst f;have o:wv l told.2=true:=(by simpa using(show(!wv l told.2)=false from o));show((l,LD l,()),(0:Int),())=(wD l (wv l told.2),wV l (wv l told.2),());have e:wV l (wv l told.2)=0:=by
  unfold wV;rw[jd (fun z=>z h),jh o]
 have e2:wD l (wv l told.2)=(l,LD l,()):=jh e;rw[e,e2]
theorem l7:wn PR 33 WO:=qG WP Y5 Tryz.func33 (kcC SE (kcC RG (kcC Nh kcN))) (koC Aa (koC nW koN))
def SN:we:=⟨[.val tLg],[.slice tLn,.int],false,fun d=>[(wu (kL d.1)).length<=100000],fun d=>(nE d.1,wC d.1,())⟩
abbrev jhb (d:LgD×Unit):=(wv d.1 fun(a:BoD×Unit)=>(true,()))
def SO:Prop:=∀(d:LgD×Unit),(wu (kL d.1)).length<=100000->(wu (kL d.1)).length<=100000/\(wC d.1=0->kK [])/\(decide (wV d.1 (jhb d)≠0)=true->([],wV d.1 (jhb d),())=(nE d.1,wC d.1,()))/\(decide (wV d.1 (jhb d)≠0)=false->Lp (wD d.1 (jhb d))/\(kZ (wD d.1 (jhb d)),(0:Int),())=(nE d.1,wC d.1,()))
def Ow:we:=⟨[.val tLg],[.slice .int,.int],false,fun d=>[(wu (kL d.1)).length<=100000],fun d=>(Lq d.1,wC d.1,())⟩
abbrev jhc (d:LgD×Unit):=(wv d.1 fun(a:BoD×Unit)=>(true,()))
def Ox:Prop:=∀(d:LgD×Unit),(wu (kL d.1)).length<=100000->(wu (kL d.1)).length<=100000/\(wC d.1=0->kK [])/\(decide (wV d.1 (jhc d)≠0)=true->([],wV d.1 (jhc d),())=(Lq d.1,wC d.1,()))/\(decide (wV d.1 (jhc d)≠0)=false->Xb (wD d.1 (jhc d))/\(Te (wD d.1 (jhc d)),(0:Int),())=(Lq d.1,wC d.1,()))
def SP:we:=⟨[.val tBo,.ref .int],[.bool],false,fun d=>[(kE (kL (b9 d.1))).length<=100],fun d=>(qd d.1 d.2.1,())⟩
def SQ:Prop:=∀(d:BoD×Int×Unit),(kE (kL (b9 d.1))).length<=100->(kE (kL (b9 d.1))).length<=100/\(qd d.1 d.2.1,())=(qd d.1 d.2.1,())
def Y6:we:=⟨[.val tLg,.val .int],[.slice .int,.int],false,fun d=>[(wu (kL d.1)).length<=100000],fun d=>(Lr d.1 d.2.1,wV d.1 (qT d.1 d.2.1),())⟩
abbrev jhd (d:LgD×Int×Unit):=(wv d.1 fun(a:BoD×Unit)=>(qd a.1 d.2.1,()))
def Y7:Prop:=∀(d:LgD×Int×Unit),(wu (kL d.1)).length<=100000->(wu (kL d.1)).length<=100000/\(wC d.1=0->kK [(kE (kL (b9 (d.1,[],())))).length<=100])/\(decide (wV d.1 (jhd d)≠0)=true->([],wV d.1 (jhd d),())=(Lr d.1 d.2.1,wV d.1 (qT d.1 d.2.1),()))/\(decide (wV d.1 (jhd d)≠0)=false->Xc (wD d.1 (jhd d))/\(Tf (wD d.1 (jhd d)) d.2.1,(0:Int),())=(Lr d.1 d.2.1,wV d.1 (qT d.1 d.2.1),()))
def K7:we:=⟨[.val tBo,.ref .int,.ref .int],[.bool],false,fun d=>[(kE (kL (b9 d.1))).length<=100],fun d=>(qd d.1 d.2.1&&yo d.2.2.1,())⟩
def K8:Prop:=∀(d:BoD×Int×Int×Unit),(kE (kL (b9 d.1))).length<=100->(kE (kL (b9 d.1))).length<=100/\(qd d.1 d.2.1&&kl d.2.2.1 (-100000:Int) (1440:Int),())=(qd d.1 d.2.1&&yo d.2.2.1,())
def HZ:we:=⟨[.val tBo,.ref .int,.ref .int],[.bool],false,fun d=>[(kE (kL (b9 d.1))).length<=100],fun d=>(qd d.1 d.2.1&&vW d.2.2.1,())⟩
def H2:Prop:=∀(d:BoD×Int×Int×Unit),(kE (kL (b9 d.1))).length<=100->(kE (kL (b9 d.1))).length<=100/\(qd d.1 d.2.1&&kl d.2.2.1 (0:Int) (1000000000:Int),())=(qd d.1 d.2.1&&vW d.2.2.1,())
def SR:we:=⟨[.val tLg,.val .int,.val .int],[.int,.int],false,fun d=>[(wu (kL d.1)).length<=100000],fun d=>(EY d.1 d.2.1 d.2.2.1,wV d.1 (qT d.1 d.2.1&&yo d.2.2.1),())⟩
abbrev jhF (d:LgD×Int×Int×Unit):=(wv d.1 fun(a:BoD×Unit)=>(qd a.1 d.2.1&&yo d.2.2.1,()))
abbrev jhe (d:LgD×Int×Int×Unit):=(wa none (kO Ty.int d.2.1 (wD d.1 (jhF d)).2.1))
abbrev jgA (d:LgD×Int×Int×Unit):=(kV ((((0:Int),(0:Int),(0:Int),(0:Int),(0:Int),(0:Int),()),(0:Int),(0:Int),(0:Int),()),((0:Int),(0:Int),(0:Int),(0:Int),(0:Int),(0:Int),(0:Int),(0:Int),[],[],()),(0:Int),(0:Int),[],(0:Int),(0:Int),false,(0:Int),()) (jhe d))
abbrev jin (d:LgD×Int×Int×Unit):=(EY d.1 d.2.1 d.2.2.1,wV d.1 (qT d.1 d.2.1&&yo d.2.2.1),())
def SS:Prop:=∀(d:LgD×Int×Int×Unit),(wu (kL d.1)).length<=100000->(wu (kL d.1)).length<=100000/\(wC d.1=0->kK [(kE (kL (b9 (d.1,[],())))).length<=100])/\(decide (wV d.1 (jhF d)≠0)=true->((0:Int),wV d.1 (jhF d),())=(jin d))/\(decide (wV d.1 (jhF d)≠0)=false->((jhe d).isNone=true->((0:Int),(0:Int),())=(jin d))/\((jhe d).isNone=false->(jhe d).isSome=true/\pD (jgA d)/\(jhe d).isSome=true/\pD (jgA d)/\(-100000:Int)<=d.2.2.1/\d.2.2.1<=1440/\kH ((qB (jgA d)).q4.2.1-qf d.2.2.1 (jgA d))/\((qB (jgA d)).q4.2.1-qf d.2.2.1 (jgA d),(0:Int),())=(jin d)))
theorem WS:SQ:=fun _ h=>⟨h,rfl⟩
theorem SU:wn PR 50 SP:=kY WS Tryz.func50 (kcC gw kcN) koN
theorem Oy:K8:=fun _ h=>⟨h,rfl⟩
theorem K9:wn PR 36 K7:=kY Oy Tryz.func36 (kcC gw (kcC vV kcN)) koN
theorem La:H2:=fun _ h=>⟨h,rfl⟩
theorem H3:wn PR 42 HZ:=kY La Tryz.func42 (kcC gw (kcC vV kcN)) koN
theorem jd7 {l:LgD} (h:DK l):(kE (kL l)).length<=4:=by
 have a:=h.dy;unfold wR at a;rw[ji] at a;exact(ja a.1).1
theorem AJ (l:LgD):wV l true=wC l:=by
 unfold wV;by_cases h:wC l=0;rw[jd (fun a=>a h),jh rfl,h];rw[jh h]
theorem Dw {l:LgD} {t:Bool} (h:wV l t=0):wD l t=U.bo l/\DK l/\t=true:=by
 have e:wD l t=U.bo l:=(by unfold wD;rw[jh h];rfl);unfold wV at h
 split at h
 rename_i a;exact absurd h a;rename_i a
 split at h
 rename_i b;exact⟨e,de (jP.1 a),b⟩;cases h
theorem WT:SO:=by
 unfold SO jhb;rintro⟨l,⟨⟩⟩ c;refine⟨c,fun _=>tZ,fun h=> ?_,fun h=> ?_⟩;have h:wV l true≠0:=ja h;show(([]:List LnD),wV l true,())=(nE l,wC l,());rw[AJ] at h⊢;unfold nE;rw[jd h];have h:wV l true=0:=jP.1 (jc h);obtain⟨a,b,_⟩:=Dw h;rw[AJ] at h;refine⟨?_,?_⟩;show Lp (wD l true);rw[a];exact WH b;show(kZ (wD l true),(0:Int),())=(nE l,wC l,());rw[a,h];unfold nE;rw[jh h]
theorem SX:wn PR 11 SN:=kY WT Tryz.func11 (kcC l7 (kcC Dg (kcC iq kcN))) koN
theorem SY:Ox:=by
 unfold Ox jhc;rintro⟨l,⟨⟩⟩ c;refine⟨c,fun _=>tZ,fun h=> ?_,fun h=> ?_⟩;have h:wV l true≠0:=ja h;show(([]:List Int),wV l true,())=(Lq l,wC l,());rw[AJ] at h⊢;unfold Lq;rw[jd h];have h:wV l true=0:=jP.1 (jc h);obtain⟨a,b,_⟩:=Dw h;rw[AJ] at h;refine⟨?_,?_⟩;show Xb (wD l true);rw[a];exact jd5 b;show(Te (wD l true),(0:Int),())=(Lq l,wC l,());rw[a,h];unfold Lq;rw[jh h]
theorem Oz:wn PR 29 Ow:=kY SY Tryz.func29 (kcC l7 (kcC Dg (kcC um kcN))) koN
theorem jbN:Y7:=by
 unfold Y7 jhd;rintro⟨l,n,⟨⟩⟩ d;refine⟨d,fun b=> ?_,fun h=> ?_,fun h=> ?_⟩;have:(kE (kL l)).length<=4:=jd7 (de b);exact⟨by show(kE (kL l)).length<=100;omega,tZ⟩;have h:wV l (qT l n)≠0:=ja h;show(([]:List Int),wV l (qT l n),())=(Lr l n,wV l (qT l n),());unfold Lr;rw[jd h];have h:wV l (qT l n)=0:=jP.1 (jc h);obtain⟨a,c,_⟩:=Dw h;refine⟨?_,?_⟩;show Xc (wD l (qT l n));rw[a];exact jd6 c;show(Tf (wD l (qT l n)) n,(0:Int),())=(Lr l n,wV l (qT l n),());rw[a,h];unfold Lr;rw[jh h]
theorem Y8:wn PR 23 Y6:=kY jbN Tryz.func23 (kcC l7 (kcC SU (kcC EF kcN))) koN
theorem ZZ {l:LgD} (i:DK l) {n:Int} {b:BlD} (h:OS (U.bo l) n=some b):KI b:=by
 have a:=WH i;have d:(n,some b)∈LD l:=by
  refine(M.mT (kt:= .int) a.2.2.1).1 ?_;have e:wa none (kO .int n (LD l))=some b:=h;cases f:kO (β:=Option BlD) Ty.int n (LD l) with
  |none=>rw[f] at e;cases e
  |some v=>rw[f] at e;exact f.trans (jG some e)
 obtain⟨g,c,j⟩:=a.1 _ d;have c:some b=some g:=c;simp only[jy] at c;subst c;exact bh.1 j
theorem WU {b:BlD} {m:Int} (w:KI b) (a: -100000<=m/\m<=1440): -1000000<=qf m b/\qf m b<=20000000000000000:=Ol (HH w a)
theorem WV:SS:=by
 unfold SS jin jgA jhe jhF Prod.q4;rintro⟨l,n,m,⟨⟩⟩ j;refine⟨j,fun g=> ?_,fun h=> ?_,fun h=> ?_⟩;have:(kE (kL l)).length<=4:=jd7 (de g);exact⟨by show(kE (kL l)).length<=100;omega,tZ⟩;have h:wV l (qT l n&&yo m)≠0:=ja h;show((0:Int),wV l (qT l n&&yo m),())=(EY l n m,wV l (qT l n&&yo m),());unfold EY;rw[jd h];have h:wV l (qT l n&&yo m)=0:=jP.1 (jc h);obtain⟨f,i,c⟩:=Dw h;rw[ji] at c;have a: -100000<=m/\m<=1440:=wO.1 c.2;show((OS (wD l (qT l n&&yo m)) n).isNone=true->((0:Int),(0:Int),())=(EY l n m,wV l (qT l n&&yo m),()))/\
  ((OS (wD l (qT l n&&yo m)) n).isNone=false->(OS (wD l (qT l n&&yo m)) n).isSome=true/\pD (kV _ (OS (wD l (qT l n&&yo m)) n))/\(OS (wD l (qT l n&&yo m)) n).isSome=true/\pD (kV _ (OS (wD l (qT l n&&yo m)) n))/\-100000<=m/\m<=1440/\
    kH (Tr (qB (kV _ (OS (wD l (qT l n&&yo m)) n)))-qf m (kV _ (OS (wD l (qT l n&&yo m)) n)))/\(Tr (qB (kV _ (OS (wD l (qT l n&&yo m)) n)))-qf m (kV _ (OS (wD l (qT l n&&yo m)) n)),(0:Int),())=(EY l n m,wV l (qT l n&&yo m),()))
 rw[f,h];unfold EY;rw[jh h];cases e:OS (U.bo l) n with
 |none=>exact⟨fun _=>rfl,fun h=>(by cases h)⟩
 |some b=>
  have w:=ZZ i e;have d:=bh.2 w;have k:=Ol w;have o:=WU w a;refine⟨fun h=>(by cases h),fun _=>⟨rfl,d,rfl,d,a.1,a.2,?_,rfl⟩⟩;show kH (Tr (qB b)-qf m b);exact iZ6
theorem SZ:wn PR 12 SR:=kY WV Tryz.func12 (kcC l7 (kcC K9 (kcC ag (kcC io kcN)))) koN
namespace U
def vF (o:Option BlD):BlD:=o.getD default
end U
def OA:we:=⟨[.val tLg,.val .int,.val .int],[.int,.int],false,fun d=>[(wu (kL d.1)).length<=100000],fun d=>(yY d.1 d.2.1 d.2.2.1,yK d.1 d.2.1 d.2.2.1,())⟩
def OB:Ann:=fun r=>match r with
 |7=>some fun σ=>{X:=Nat,sl:=fun k=>[(11,.dat .int (wP (qt (vF (gd (.ptr tBl) σ 10)))-(k:Int)))],ob:=fun _=>[],inv:=fun k=>k<=cg (vF (gd (.ptr tBl) σ 10))/\∀j:Nat,j<k->cf (vF (gd (.ptr tBl) σ 10)) (gb .int σ 5) j=false,mu:=fun k=>cg (vF (gd (.ptr tBl) σ 10))-k}
 |_=>none
abbrev jhG (d:LgD×Int×Int×Unit):=(wv d.1 fun(a:BoD×Unit)=>(qd a.1 d.2.1&&vW d.2.2.1,()))
abbrev jgB (d:LgD×Int×Int×Unit):=(wa none (kO Ty.int d.2.1 (wD d.1 (jhG d)).2.1))
abbrev jhH (d:LgD×Int×Int×Unit):=(kV ((((0:Int),(0:Int),(0:Int),(0:Int),(0:Int),(0:Int),()),(0:Int),(0:Int),(0:Int),()),((0:Int),(0:Int),(0:Int),(0:Int),(0:Int),(0:Int),(0:Int),(0:Int),[],[],()),(0:Int),(0:Int),[],(0:Int),(0:Int),false,(0:Int),()) (jgB d))
abbrev jhI (d:LgD×Int×Int×Unit):=(yY d.1 d.2.1 d.2.2.1,yK d.1 d.2.1 d.2.2.1,())
abbrev jfK (d:LgD×Int×Int×Unit):=(vF (jgB d))
abbrev jfp (d:LgD×Int×Int×Unit):=(qt (jfK d))
def OC:Prop:=∀(d:LgD×Int×Int×Unit),(wu (kL d.1)).length<=100000->(wu (kL d.1)).length<=100000/\(wC d.1=0->kK [(kE (kL (b9 (d.1,[],())))).length<=100])/\(decide (wV d.1 (jhG d)≠0)=true->((0:Int),wV d.1 (jhG d),())=(jhI d))/\(decide (wV d.1 (jhG d)≠0)=false->((!(jgB d).isNone)=true->(jgB d).isSome=true/\(∃(x:Nat),(((jhH d).1.2.2.1=wP (jfp d)-(x:Int)/\True)/\True)/\x<=cg (jfK d)/\∀(j:Nat),j<x->cf (jfK d) d.2.2.1 j=false)/\∀(x:Nat),(x<=cg (jfK d)/\∀(j:Nat),j<x->cf (jfK d) d.2.2.1 j=false)->(decide ((-100000:Int)<=wP (jfp d)-(x:Int))=true->(jgB d).isSome=true/\pD (jhH d)/\(-100000:Int)<=wP (jfp d)-(x:Int)/\wP (jfp d)-(x:Int)<=1440/\(decide (qf (wP (jfp d)-(x:Int)) (jhH d)<=d.2.2.1)=true->(wP (jfp d)-(x:Int),(0:Int),())=(jhI d))/\(decide (qf (wP (jfp d)-(x:Int)) (jhH d)<=d.2.2.1)=false->kH (wP (jfp d)-(x:Int)-1)/\∃(a:Nat),((wP (jfp d)-(x:Int)-1=wP (jfp d)-(a:Int)/\True)/\True)/\(a<=cg (jfK d)/\∀(j:Nat),j<a->cf (jfK d) d.2.2.1 j=false)/\cg (jfK d)-a<cg (jfK d)-x))/\(decide ((-100000:Int)<=wP (jfp d)-(x:Int))=false->((0:Int),(3:Int),())=(jhI d)))/\((!(jgB d).isNone)=false->((0:Int),(3:Int),())=(jhI d)))
theorem jdb {o:Option BlD} {Z:BlD} {a P E:Int} (t:∀b,o=some b->KI b) (r:P=jdo a o) (p:E=jdp a o):
 ((!o.isNone)=true->o.isSome=true/\(∃(x:Nat),((wP (qt (kV Z o))=wP (qt (vF o))-(x:Int)/\True)/\True)/\x<=cg (vF o)/\∀(j:Nat),j<x->cf (vF o) a j=false)/\
   ∀(x:Nat),(x<=cg (vF o)/\∀(j:Nat),j<x->cf (vF o) a j=false)->
    (decide (-100000<=wP (qt (vF o))-(x:Int))=true->o.isSome=true/\pD (kV Z o)/\-100000<=wP (qt (vF o))-(x:Int)/\wP (qt (vF o))-(x:Int)<=1440/\
     (decide (qf (wP (qt (vF o))-(x:Int)) (kV Z o)<=a)=true->(wP (qt (vF o))-(x:Int),(0:Int),())=(P,E,()))/\
     (decide (qf (wP (qt (vF o))-(x:Int)) (kV Z o)<=a)=false->kH (wP (qt (vF o))-(x:Int)-1)/\∃(m:Nat),((wP (qt (vF o))-(x:Int)-1=wP (qt (vF o))-(m:Int)/\True)/\True)/\(m<=cg (vF o)/\∀(j:Nat),j<m->cf (vF o) a j=false)/\cg (vF o)-m<cg (vF o)-x))/\
    (decide (-100000<=wP (qt (vF o))-(x:Int))=false->((0:Int),(3:Int),())=(P,E,())))/\
 ((!o.isNone)=false->((0:Int),(3:Int),())=(P,E,())):=by
 subst r p;cases o with
 |none=>exact⟨fun h=>(by cases h),fun _=>rfl⟩
 |some b=>
  have w:=t b rfl;have n:=w.bl;refine⟨fun _=>⟨rfl,⟨0,⟨⟨?_,tZ⟩,tZ⟩,ju _,fun j s=>by omega⟩,fun x d=>⟨fun f=> ?_,fun f=> ?_⟩⟩,fun h=>(by cases h)⟩;show wP (qt b)=wP (qt b)-((0:Nat):Int);omega;have d:x<=cg b/\∀j:Nat,j<x->cf b a j=false:=d;have f: -100000<=wP (qt b)-(x:Int):=ja f;have s1:=n.st;have s2:=n.en;have u:=n.e2;have q:cg b=(wP (qt b)+100001).toNat:=rfl;refine⟨rfl,bh.2 w,f,?_,fun c=> ?_,fun c=> ?_⟩;show wP (qt b)-(x:Int)<=1440;omega;have c:cf b a x=true:=c;have e:nF b a=some x:=by
   rcases uo b a with⟨k,e,hk,g,i⟩|⟨e,i⟩;rw[e];have:k=x:=by
    rcases Nat.lt_trichotomy k x with l|l|l;rw[d.2 k l] at g;cases g;exact l;rw[i x l] at c;cases c
   rw[this];rw[i x (by omega)] at c;cases c
  show(wP (qt b)-(x:Int),(0:Int),())=(Th b (nF b a),jb3 (nF b a),());rw[e];rfl;have c:cf b a x=false:=c;refine⟨?_,x+1,⟨⟨?_,tZ⟩,tZ⟩,⟨?_,fun j s=> ?_⟩,?_⟩;show kH (wP (qt b)-(x:Int)-1);exact iZ6;show wP (qt b)-(x:Int)-1=wP (qt b)-((x+1:Nat):Int);omega;show x+1<=cg b;omega;by_cases e:j=x;subst e;exact c;exact d.2 j (by omega);show cg b-(x+1)<cg b-x;omega;have d:x<=cg b/\∀j:Nat,j<x->cf b a j=false:=d;have f:¬-100000<=wP (qt b)-(x:Int):=jc f;have q:cg b=(wP (qt b)+100001).toNat:=rfl;have e:nF b a=none:=by
   rcases uo b a with⟨k,e,hk,g,i⟩|⟨e,i⟩;rw[d.2 k (by omega)] at g;cases g;exact e
  show((0:Int),(3:Int),())=(Th b (nF b a),jb3 (nF b a),());rw[e];rfl
theorem S0:OC:=by
 unfold OC jfp jfK jhI jhH jgB jhG;rintro⟨l,n,a,⟨⟩⟩ g;refine⟨g,fun e=> ?_,fun h=> ?_,fun h=> ?_⟩;have:(kE (kL l)).length<=4:=jd7 (de e);exact⟨by show(kE (kL l)).length<=100;omega,tZ⟩;have h:wV l (qT l n&&vW a)≠0:=ja h;show((0:Int),wV l (qT l n&&vW a),())=(yY l n a,yK l n a,());unfold yY yK;rw[jd h,jd h];have h:wV l (qT l n&&vW a)=0:=jP.1 (jc h);obtain⟨c,f,i⟩:=Dw h;exact jdb (o:=OS (wD l (qT l n&&vW a)) n) (fun b d=>by rw[c] at d;exact ZZ f d) (by rw[c];exact jh h) (by rw[c];exact jh h)
theorem Dx:wn PR 16 OA:=qG OB S0 Tryz.func16 (kcC l7 (kcC H3 (kcC io kcN))) koN
end Go.X
namespace Go.X
open U
open Go.Proofs
abbrev tA7:Ty:= .st [.int,.int,.int]
namespace U
def Lt (l:LgD):Bool:=((((Ih (kL l)||decide (20<((aL l).length:Int)))||decide (20<((DE l).length:Int)))||decide (20<((dp (nZ l)).length:Int)))||decide (20<((eJ (nZ l)).length:Int)))||decide (30<((wi l).length:Int))
def OU (l:LgD):Bool:= !Lt l&&decide (wC l=0)
def exT:TaD:=(30,100,2,1200,90,50,2,150,[0,10,25,50],[(1000,0,()),(60,50,())],())
def xc:LgD:=(jer,[0,1,0],[30,0,45],exT,[(1,1,80,()),(2,1,120,())],())
end U
def WW:we:=⟨[.val tLg],[.bool],false,fun _=>[],fun d=>(Lt d.1,())⟩
abbrev jje (d:LgD×Unit):=(20<(d.1.2.2.2.1.q4.q4.1.length:Int))
abbrev jhJ (d:LgD×Unit):=(20<(d.1.2.1.length:Int))
abbrev jio (d:LgD×Unit):=(20<(d.1.2.2.1.length:Int))
def WX:Prop:=∀(d:LgD×Unit),((!Ih d.1.1)=true->d.1.2.1.length<4611686018427387904)->((!(Ih d.1.1||decide (jhJ d)))=true->d.1.2.2.1.length<4611686018427387904)->((!(Ih d.1.1||decide (jhJ d)||decide (jio d)))=true->d.1.2.2.2.1.q4.q4.1.length<4611686018427387904)->((!(Ih d.1.1||decide (jhJ d)||decide (jio d)||decide (jje d)))=true->d.1.2.2.2.1.q4.q4.2.1.length<4611686018427387904)->((!(Ih d.1.1||decide (jhJ d)||decide (jio d)||decide (jje d)||decide (20<(d.1.2.2.2.1.q4.q4.2.1.length:Int))))=true->d.1.q4.1.length<4611686018427387904)->(Ih d.1.1||decide (jhJ d)||decide (jio d)||decide (jje d)||decide (20<(d.1.2.2.2.1.q4.q4.2.1.length:Int))||decide (30<(d.1.q4.1.length:Int)),())=(Lt d.1,())
def OE:we:=⟨[.val tLg],[.bool],false,fun _=>[],fun d=>(OU d.1,())⟩
def OF:Prop:=∀(d:LgD×Unit),((!Lt d.1)=true->(kE (kL d.1)).length<=1000000)/\(!Lt d.1&&decide (wC d.1=0),())=(OU d.1,())
def EQ:we:=⟨[.val (.slice .int),.val (.slice .int)],[.bool],false,fun _=>[],fun d=>(decide (d.1=d.2.1),())⟩
def ER:Ann:=fun r=>match r with
 |4=>some fun σ=>{X:=Nat,sl:=fun i=>[(5,.dat .int (i:Int))],ob:=fun _=>[],inv:=fun i=>i<=(gd (.slice .int) σ 0).length/\∀j:Nat,j<i->nth (gd (.slice .int) σ 0) j=nth (gd (.slice .int) σ 1) j,mu:=fun i=>(gd (.slice .int) σ 0).length-i}
 |_=>none
def ES:Prop:=∀(d:List Int×List Int×Unit),d.1.length<4611686018427387904->d.2.1.length<4611686018427387904->(decide ((d.1.length:Int)≠d.2.1.length)=true->(false,())=(decide (d.1=d.2.1),()))/\(decide ((d.1.length:Int)≠d.2.1.length)=false->(∃(x:Nat),((0=(x:Int)/\True)/\True)/\x<=d.1.length/\∀(j:Nat),j<x->nth d.1 j=nth d.2.1 j)/\∀(x:Nat),(x<=d.1.length/\∀(j:Nat),j<x->nth d.1 j=nth d.2.1 j)->d.1.length<4611686018427387904->(decide ((x:Int)<d.1.length)=true->0<=(x:Int)/\(x:Int)<d.1.length/\0<=(x:Int)/\(x:Int)<d.2.1.length/\(decide (nth d.1 x≠nth d.2.1 x)=true->(false,())=(decide (d.1=d.2.1),()))/\(decide (nth d.1 x≠nth d.2.1 x)=false->kH ((x:Int)+1)/\∃(a:Nat),(((x:Int)+1=(a:Int)/\True)/\True)/\(a<=d.1.length/\∀(j:Nat),j<a->nth d.1 j=nth d.2.1 j)/\d.1.length-a<d.1.length-x))/\(decide ((x:Int)<d.1.length)=false->(true,())=(decide (d.1=d.2.1),())))
def H4:we:=⟨[],[tLg],false,fun _=>[],fun _=>(xc,())⟩
def H5:Prop:=∀(_:Unit),((jer,[(0:Int),(1:Int),(0:Int)],[(30:Int),(0:Int),(45:Int)],((30:Int),(100:Int),(2:Int),(1200:Int),(90:Int),(50:Int),(2:Int),(150:Int),[(0:Int),(10:Int),(25:Int),(50:Int)],[((1000:Int),(0:Int),()),((60:Int),(50:Int),())],()),[((1:Int),(1:Int),(80:Int),()),((2:Int),(1:Int),(120:Int),())],()),())=(xc,())
def OG:we:=⟨[],[.bool],false,fun _=>[],fun _=>(true,())⟩
abbrev jhK:=(wu (kL xc))
def OH:Prop:=∀(_:Unit),jhK.length<=100000/\jhK.length<=100000/\jhK.length<=100000/\jhK.length<=100000/\(decide (wC xc=0)&&decide (wV xc (qT xc (2:Int))=0)&&decide (wV xc (qT xc (0:Int)&&yo (0:Int))=0)&&decide (yK xc (0:Int) (0:Int)=0)&&decide (Lq xc=[(940:Int),(100:Int)])&&decide (Lr xc (2:Int)=[(390:Int),(390:Int),(0:Int),(0:Int)])&&decide (EY xc (0:Int) (0:Int)=185)&&decide (yY xc (0:Int) (0:Int)=(-940:Int)),())=(true,())
theorem jbO (l:LgD):nE l=jdq l:=by
 unfold nE jdq
 split
 rename_i h;exact WM (de h);rfl
theorem Y9:WX:=fun _ _ _ _ _ _=>rfl
theorem WY:wn PR 27 WW:=kY Y9 Tryz.func27 (kcC Wl kcN) koN
theorem uq {l:LgD} (h:Lt l=false):ci l:=by
 unfold Lt at h;simp only[jN,jF] at h;obtain⟨⟨⟨⟨⟨a,b⟩,c⟩,d⟩,e⟩,f⟩:=h;exact⟨YP a,by omega,by omega,by omega,by omega,by omega⟩
theorem Lb {l:LgD} (h:Lt l=false):(wu (kL l)).length<=100000/\(kE (kL l)).length<=1000000:=by
 have a:=(uq h).1;have b:=a.2.2.2.1;have c:=a.2.2.1;omega
theorem S1:OF:=by
 rintro⟨l,⟨⟩⟩;refine⟨fun h=> ?_,rfl⟩;have h:(!Lt l)=true:=h;rw[jO] at h;exact(Lb h).2
theorem OI:wn PR 7 OE:=kY S1 Tryz.func7 (kcC WY (kcC Ot kcN)) koN
theorem jbP {l:LgD} (h:OU l=true):Lt l=false/\DK l/\wC l=0:=by
 unfold OU at h;rw[ji,jO,jm] at h;exact⟨h.1,de h.2,h.2⟩
theorem H6:ES:=by
 rintro⟨a,b,⟨⟩⟩ _ l;refine⟨fun h=> ?_,fun h=>⟨⟨0,⟨⟨rfl,tZ⟩,tZ⟩,ju _,fun j k=>by omega⟩,fun x g f=>⟨fun c=>⟨jW _,ja c,jW _,?_,fun d=> ?_,fun d=> ?_⟩,fun c=> ?_⟩⟩⟩;have h:(a.length:Int)≠b.length:=ja h;have:¬a=b:=fun e=>h (by rw[e])
 show(false,())=(decide (a=b),());rw[zl this];have h:(a.length:Int)=b.length:=jP.1 (jc h);have c:(x:Int)<a.length:=ja c;show(x:Int)<b.length;omega;have d:nth a x≠nth b x:=ja d;have:¬a=b:=fun e=>d (by rw[e])
 show(false,())=(decide (a=b),());rw[zl this];have c:(x:Int)<a.length:=ja c;have d:nth a x=nth b x:=jP.1 (jc d);have f:a.length<4611686018427387904:=f;refine⟨iZ6,x+1,⟨⟨by simp,tZ⟩,tZ⟩,⟨by show x+1<=a.length;omega,fun j k=> ?_⟩,by show a.length-(x+1)<a.length-x;omega⟩;by_cases e:j=x;subst e;exact d;exact g.2 j (by omega);have h:(a.length:Int)=b.length:=jP.1 (jc h);have c:¬(x:Int)<a.length:=jc c;have e:a=b:=L.ext_nth (by omega) fun i hi=>g.2 i (by omega)
 show(true,())=(decide (a=b),());rw[jH e]
theorem ET:wn PR 26 EQ:=qG ER H6 Tryz.func26 kcN koN
theorem Lc:H5:=fun _=>rfl
theorem H7:wn PR 28 H4:=kY Lc Tryz.func28 (kcC HF kcN) koN
theorem jbQ:wC xc=0:=by decide+kernel
theorem jbR:Lq xc=[940,100]:=by decide+kernel
theorem jbS:Lr xc 2=[390,390,0,0]:=by decide+kernel
theorem jbT:EY xc 0 0=185:=by decide+kernel
theorem Za:yK xc 0 0=0:=by decide+kernel
theorem Zb:yY xc 0 0= -940:=by decide+kernel
theorem jdc:wV xc (qT xc 2)=0:=by decide+kernel
theorem jdd:wV xc (qT xc 0&&yo 0)=0:=by decide+kernel
theorem S2:OH:=by
 unfold OH jhK;intro _;have a:(wu (kL xc)).length<=100000:=(by decide+kernel);refine⟨a,a,a,a,?_⟩;rw[jbQ,jdc,jdd,Za,jbR,jbS,jbT,Zb];rfl
theorem OJ:wn PR 8 OG:=kY S2 Tryz.func8 (kcC H7 (kcC Oz (kcC Y8 (kcC SZ (kcC Dx (kcC ET kcN)))))) koN
abbrev jen:Sh:= .agg [.dat .int,.dat (.slice tPe),.dat (.slice tLw),.dat (.slice (.slice tSp)),.dat (.slice tBk),.dat .int,.dat .int,.dat (.slice tSh),.dat (.slice .int),.dat (.slice .int),.dat .int,.dat .int,.dat .int,.dat .int,.dat .int,.dat .int,.dat .int,.dat .int,.dat (.slice .int),.dat (.slice tNo),.row 39 tCa .no]
namespace U
def kW (l:LgD):jen.D:=(la (kD (kL l)),kz (kD (kL l)),vZ (kD (kL l)),wt (kL l),kE (kL l),Ao (kL l),Zh (kL l),wu (kL l),aL l,DE l,Xm (nZ l),jdk (nZ l),jdl (nZ l),Xn (nZ l),Z3 (nZ l),Xo (nZ l),jcg (nZ l),W7 (nZ l),dp (nZ l),eJ (nZ l),wi l,())
def uz (l:LgD) (b m:Int):Int:=if wC (eM l (Qr b m))=0 then Tr (yM (nE (eM l (Qr b m))) b).1 else 0
def uA (l:LgD) (b m:Int):Bool:=if wC (eM l (Qr b m))=0 then(yM (nE (eM l (Qr b m))) b).2 else false
end U
def H8:qk:=⟨[.val tLg],[jen],fun d=>[ci d.1],fun d=>((kW d.1,()),())⟩
def H9:Prop:=∀(d:LgD×Unit),ci d.1->DD d.1.1/\(0+d.1.2.1.length)*8<=140737488355328/\(0+d.1.2.2.1.length)*8<=140737488355328/\(0+d.1.2.2.2.1.q4.q4.1.length)*8<=140737488355328/\(0+d.1.2.2.2.1.q4.q4.2.1.length)*16<=140737488355328/\(0+d.1.q4.1.length)*24<=140737488355328/\((d.1.1.1.1,d.1.1.1.2.1,d.1.1.1.2.2.1,d.1.1.2.1,d.1.1.2.2.1,d.1.1.2.2.2.1,d.1.1.q4.1,d.1.1.q4.2.1,[]++d.1.2.1,[]++d.1.2.2.1,d.1.2.2.2.1.1,d.1.2.2.2.1.2.1,d.1.2.2.2.1.2.2.1,d.1.2.2.2.1.2.2.2.1,d.1.2.2.2.1.q4.1,d.1.2.2.2.1.q4.2.1,d.1.2.2.2.1.q4.2.2.1,d.1.2.2.2.1.q4.2.2.2.1,[]++d.1.2.2.2.1.q4.q4.1,[]++d.1.2.2.2.1.q4.q4.2.1,[]++d.1.q4.1,()),())=(kW d.1,())/\()=()
def S3:we:=⟨[.val (.slice tLn),.val .int],[tLn,.bool],false,fun _=>[],fun d=>((yM d.1 d.2.1).1,(yM d.1 d.2.1).2,())⟩
def S4:Ann:=fun r=>match r with
 |2=>some fun σ=>{X:=Nat,sl:=fun i=>[(6,.dat .int (i:Int))],ob:=fun _=>[],inv:=fun i=>i<=(gd (.slice tLn) σ 0).length/\∀j:Nat,j<i->n4 (gd .int σ 1) (nth (gd (.slice tLn) σ 0) j)=false,mu:=fun i=>(gd (.slice tLn) σ 0).length-i}
 |_=>none
def S5:Prop:=∀(d:List JbD×Int×Unit),(∃(x:Nat),((0=(x:Int)/\True)/\True)/\x<=d.1.length/\∀(j:Nat),j<x->n4 d.2.1 (nth d.1 j)=false)/\∀(x:Nat),(x<=d.1.length/\∀(j:Nat),j<x->n4 d.2.1 (nth d.1 j)=false)->d.1.length<4611686018427387904->(decide ((x:Int)<d.1.length)=true->0<=(x:Int)/\(x:Int)<d.1.length/\(decide ((nth d.1 x).2.1=d.2.1)=true->0<=(x:Int)/\(x:Int)<d.1.length/\(nth d.1 x,true,())=((yM d.1 d.2.1).1,(yM d.1 d.2.1).2,()))/\(decide ((nth d.1 x).2.1=d.2.1)=false->kH ((x:Int)+1)/\∃(a:Nat),(((x:Int)+1=(a:Int)/\True)/\True)/\(a<=d.1.length/\∀(j:Nat),j<a->n4 d.2.1 (nth d.1 j)=false)/\d.1.length-a<d.1.length-x))/\(decide ((x:Int)<d.1.length)=false->(((0:Int),(0:Int),(0:Int),(0:Int),(0:Int),(0:Int),()),false,())=((yM d.1 d.2.1).1,(yM d.1 d.2.1).2,()))
def Ld:we:=⟨[.val tLg,.val .int,.val .int],[.int,.bool],false,fun d=>[ci d.1],fun d=>(uz d.1 d.2.1 d.2.2.1,uA d.1 d.2.1 d.2.2.1,())⟩
abbrev jhf (d:LgD×Int×Int×Unit):=((((kW d.1).1,(kW d.1).2.1,(kW d.1).2.2.1,()),(kW d.1).2.2.2.1,(kW d.1).q4.1,(kW d.1).q4.2.1,(kW d.1).q4.2.2.1,(kW d.1).q4.2.2.2.1,()),(kW d.1).q4.q4.1,(kW d.1).q4.q4.2.1,((kW d.1).q4.q4.2.2.1,(kW d.1).q4.q4.2.2.2.1,(kW d.1).q4.q4.q4.1,(kW d.1).q4.q4.q4.2.1,(kW d.1).q4.q4.q4.2.2.1,(kW d.1).q4.q4.q4.2.2.2.1,(kW d.1).q4.q4.q4.q4.1,(kW d.1).q4.q4.q4.q4.2.1,(kW d.1).q4.q4.q4.q4.2.2.1,(kW d.1).q4.q4.q4.q4.2.2.2.1,()),(kW d.1).q4.q4.q4.q4.q4.1++[((99:Int),d.2)],())
def Le:Prop:=∀(d:LgD×Int×Int×Unit),ci d.1->ci d.1/\(List.length (kW d.1).q4.q4.q4.q4.q4.1+[((99:Int),d.2)].length)*24<=140737488355328/\(wu (kL (jhf d))).length<=100000/\(decide (wC (jhf d)≠0)=true->((0:Int),false,())=(uz d.1 d.2.1 d.2.2.1,uA d.1 d.2.1 d.2.2.1,()))/\(decide (wC (jhf d)≠0)=false->((yM (nE (jhf d)) d.2.1).1.q4.2.1,(yM (nE (jhf d)) d.2.1).2,())=(uz d.1 d.2.1 d.2.2.1,uA d.1 d.2.1 d.2.2.1,()))
theorem Lf:H9:=by
 unfold H9 Prod.q4;rintro⟨l,⟨⟩⟩ h;obtain⟨a,b,c,d,e,f⟩:ci l:=h;refine⟨a,?_,?_,?_,?_,?_,rfl,rfl⟩;show(0+(aL l).length)*8<=140737488355328;omega;show(0+(DE l).length)*8<=140737488355328;omega;show(0+(dp (nZ l)).length)*8<=140737488355328;omega;show(0+(eJ (nZ l)).length)*16<=140737488355328;omega;show(0+(wi l).length)*24<=140737488355328;omega
theorem Ia:yR PR 9 H8:=uW Lf Tryz.func9 (kcC Sq kcN) koN
theorem Zc {l:List LnD} {b:Int} {i:Nat} (hi:i<l.length) (a:∀j,j<i->n4 b (nth l j)=false) (h:n4 b (nth l i)=true):yM l b=(nth l i,true):=by
 have e:l.find? (n4 b)=some (nth l i):=by
  rw[List.find?_eq_some_iff_getElem];refine⟨h,i,hi,(L.wW hi).symm,fun j c=> ?_⟩;have:=a j c;rw[L.wW (by omega)] at this;simp[this]
 unfold yM;rw[e];rfl
theorem S6 {l:List LnD} {b:Int} (a:∀j,j<l.length->n4 b (nth l j)=false):yM l b=(jet,false):=by
 have e:l.find? (n4 b)=none:=by
  rw[List.find?_eq_none];intro x d;obtain⟨j,c,rfl⟩:=L.mem_iff.1 d;rw[a j c];decide
 unfold yM;rw[e];rfl
theorem WZ:S5:=by
 rintro⟨l,b,⟨⟩⟩;refine⟨⟨0,⟨⟨rfl,tZ⟩,tZ⟩,ju _,fun j g=>by omega⟩,fun x d f=>⟨fun a=>⟨jW _,ja a,fun c=>⟨jW _,ja a,?_⟩,fun c=> ?_⟩,fun a=> ?_⟩⟩;have a:(x:Int)<l.length:=ja a;have e:=Zc (l:=l) (b:=b) (i:=x) (by omega) d.2 c;show(nth l x,true,())=((yM l b).1,(yM l b).2,());rw[e];have a:(x:Int)<l.length:=ja a;have f:l.length<4611686018427387904:=f;refine⟨iZ6,x+1,⟨⟨by simp,tZ⟩,tZ⟩,⟨by show x+1<=l.length;omega,fun j g=> ?_⟩,by show l.length-(x+1)<l.length-x;omega⟩;by_cases e:j=x;subst e;exact c;exact d.2 j (by omega);have a:¬(x:Int)<l.length:=jc a;have e:=S6 (l:=l) (b:=b) fun j g=>d.2 j (by omega)
 show(jet,false,())=((yM l b).1,(yM l b).2,());rw[e]
theorem S7:wn PR 13 S3:=qG S4 WZ Tryz.func13 kcN koN
theorem jde {l:LgD} {b m:Int} (h:¬wC (eM l (Qr b m))=0):uz l b m=0/\uA l b m=false:=⟨jd h,jd h⟩
theorem W0 {l:LgD} {b m:Int} (h:wC (eM l (Qr b m))=0):uz l b m=Tr (yM (nE (eM l (Qr b m))) b).1/\uA l b m=(yM (nE (eM l (Qr b m))) b).2:=⟨jh h,jh h⟩
theorem OK:Le:=by
 unfold Le jhf Prod.q4;rintro⟨l,b,m,⟨⟩⟩ h;have e:ci l:=h;obtain⟨f,g,i,j,k,n⟩:=e;have d:(wu (kL l)).length<=100000:=(by have:=f.2.2.2.1;omega);refine⟨h,?_,d,fun a=> ?_,fun a=> ?_⟩;show((wi l).length+1)*24<=140737488355328;omega;have a:decide (wC (eM l (Qr b m))≠0)=true:=a;obtain⟨c,e2⟩:=jde (ja a);show((0:Int),false,())=(uz l b m,uA l b m,());rw[c,e2];have a:decide (wC (eM l (Qr b m))≠0)=false:=a;obtain⟨c,e2⟩:=W0 (jP.1 (jc a));show(Tr (yM (nE (eM l (Qr b m))) b).1,(yM (nE (eM l (Qr b m))) b).2,())=(uz l b m,uA l b m,());rw[c,e2]
theorem Lg:wn PR 18 Ld:=kY OK Tryz.func18 (kcC SX (kcC S7 kcN)) (koC Ia koN)
namespace U
def Zp (l:List CaD) (n:Nat):Prop:=∀j:Nat,j<n->Ii (nth l j)≠99
end U
def ur:we:=Wa [tLg,tA7]
def ut:Ann:=fun r=>match r with
 |4=>some fun σ=>{X:=Nat,sl:=fun i=>[(5,.dat .int (i:Int))],ob:=fun _=>[],inv:=fun i=>i<=(wi (gb tLg σ 2)).length/\Zp (wi (gb tLg σ 2)) i,mu:=fun i=>(wi (gb tLg σ 2)).length-i}
 |_=>none
abbrev jhL:=(Ty.int.pair (Ty.int.pair Ty.unit))
abbrev jjf (d:LgD×CaD×Unit):=(!OU d.1||decide (9<(d.1.q4.1.length:Int))|| !qT d.1 d.2.1.1||decide (d.2.1.2.2.1<0)||decide (1000000000<d.2.1.2.2.1))
abbrev jjg (d:LgD×CaD×Unit):=(!uA d.1 d.2.1.1 (yY d.1 d.2.1.1 d.2.1.2.2.1)||decide (d.2.1.2.2.1<uz d.1 d.2.1.1 (yY d.1 d.2.1.1 d.2.1.2.2.1)))
abbrev jhM (d:LgD×CaD×Unit):=(yK d.1 d.2.1.1 d.2.1.2.2.1=0)
abbrev jip (d:LgD×CaD×Unit):=(decide (d.2.1.2.1<(-100000:Int))||decide ((nth d.1.1.2.2.1 d.2.1.1.toNat).2.2.1<d.2.1.2.1)||decide (jhM d)&&decide (d.2.1.2.1<=yY d.1 d.2.1.1 d.2.1.2.2.1))
abbrev jjh (d:LgD×CaD×Unit):=(decide (yK d.1 d.2.1.1 d.2.1.2.2.1≠0)&&decide (yK d.1 d.2.1.1 d.2.1.2.2.1≠3)||decide (jhM d)&&(decide ((nth d.1.1.2.2.1 d.2.1.1.toNat).2.2.1<yY d.1 d.2.1.1 d.2.1.2.2.1)||decide (yY d.1 d.2.1.1 d.2.1.2.2.1<(-100000:Int))))
abbrev jji (d:LgD×CaD×Unit):=((jip d)=false->ci d.1/\(uA d.1 d.2.1.1 d.2.1.2.1&&decide (d.2.1.2.2.1<uz d.1 d.2.1.1 d.2.1.2.1)&&true,())=(true,()))
abbrev jhN:=(Ty.int.pair jhL)
def uu:Prop:=∀(d:LgD×CaD×Unit),Hz 1048576 [((Ty.int.pair ((Ty.int.slice.pair (Ty.int.pair (Ty.int.pair (Ty.int.slice.pair (Ty.bool.pair (Ty.int.pair Ty.unit)))))).slice.pair ((Ty.int.pair (Ty.int.pair (Ty.bool.pair Ty.unit))).slice.pair Ty.unit))).pair (jhL.slice.slice.pair (((Ty.int.pair (Ty.int.pair (Ty.int.pair jhN))).pair jhN).slice.pair (Ty.int.pair (Ty.int.pair ((Ty.int.pair (Ty.int.pair jhN)).slice.pair Ty.unit)))))).pair (Ty.int.slice.pair (Ty.int.slice.pair ((Ty.int.pair (Ty.int.pair (Ty.int.pair (Ty.int.pair (Ty.int.pair (Ty.int.pair (Ty.int.pair (Ty.int.pair (Ty.int.slice.pair (jhL.slice.pair Ty.unit)))))))))).pair (jhN.slice.pair Ty.unit)))),Ty.int.pair jhL] d->((!!OU d.1)=true->d.1.q4.1.length<4611686018427387904)->((jjf d)=true->(true,())=(true,()))/\((jjf d)=false->(∃(x:Nat),((0=(x:Int)/\True)/\True)/\x<=(wi d.1).length/\Zp (wi d.1) x)/\∀(x:Nat),x<=(wi d.1).length/\Zp (wi d.1) x->d.1.q4.1.length<4611686018427387904->(decide ((x:Int)<d.1.q4.1.length)=true->0<=(x:Int)/\(x:Int)<d.1.q4.1.length/\(decide ((nth d.1.q4.1 x).1=99)=true->(true,())=(true,()))/\(decide ((nth d.1.q4.1 x).1=99)=false->kH ((x:Int)+1)/\∃(a:Nat),(((x:Int)+1=(a:Int)/\True)/\True)/\(a<=(wi d.1).length/\Zp (wi d.1) a)/\(wi d.1).length-a<(wi d.1).length-x))/\(decide ((x:Int)<d.1.q4.1.length)=false->0<=d.2.1.1/\d.2.1.1<(d.1.1.2.2.1.length:Int)/\(wu (kL d.1)).length<=100000/\ga (kL d.1)=0/\(0<=d.2.1.1/\d.2.1.1<(↑(kE (kL d.1)).length:Int))/\((!Tg d.1 d.2.1.1)=true->(decide (yK d.1 d.2.1.1 d.2.1.2.2.1=3)&&true,())=(true,()))/\((!Tg d.1 d.2.1.1)=false->((jjh d)=true->(false,())=(true,()))/\((jjh d)=false->(decide (jhM d)=true->ci d.1/\((jjg d)=true->(false,())=(true,()))/\((jjg d)=false->((jip d)=true->(true,())=(true,()))/\(jji d)))/\(decide (jhM d)=false->((jip d)=true->(true,())=(true,()))/\(jji d))))))
theorem jdf {l:LgD} {b m:Int} (h:wC l=0) (n:(wi l).length<=9) (p:Zp (wi l) (wi l).length) (f:0<=b/\b<((kE (kL l)).length:Int)) (s: -100000<=m/\m<=wP (cm l b)) (q:Tg l b=true):
 uA l b m=true/\uz l b m=qf m (kP l b):=by
 have i:=de h;have d:=(l3 i f).1;have d:0<=wP (cm l b)/\wP (cm l b)<cj (cm l b)/\cj (cm l b)<=1440:=d;have a:wC (eM l (Qr b m))=0:=by
  refine jbM h n ?_ fun c a e=> ?_
  unfold iU;rw[ji,ji,wO,wO,wO];show((0<=(99:Int)/\(99:Int)<=99)/\0<=b/\b<=_)/\-100000<=m/\m<=1440;omega;obtain⟨j,o,rfl⟩:=L.mem_iff.1 a;exact absurd e (p j o)
 obtain⟨g,e2⟩:=W0 a;have r:=de a;have eL:nE (eM l (Qr b m))=OT (eM l (Qr b m)):=(jbO _).trans (jh a);have k:yM (nE (eM l (Qr b m))) b=(ce (eM l (Qr b m)) b (In l b),true):=by
  rw[eL,Y2 r f];exact jh (show Tg (eM l (Qr b m)) b=true from q)
 rw[k] at g e2;exact⟨e2,g.trans (SM i (x:=Qr b m) f)⟩
theorem An:uu:=by
 unfold uu jhN jji jjh jip jhM jjg jjf jhL Prod.q4;rintro⟨l,⟨b,m,a,⟨⟩⟩,⟨⟩⟩ _ _;refine⟨fun _=>rfl,fun h=> ?_⟩;have h:(!OU l||decide ((9:Int)<(wi l).length)|| !qT l b||decide (a<0)||decide (1000000000<a))=false:=h;simp only[jN,zb,jF] at h;obtain⟨⟨⟨⟨I,Q⟩,C⟩,R⟩,S⟩:=h;obtain⟨v,K,E⟩:=jbP I;obtain⟨N,T⟩:=Lb v;have r:=Qe.1 C;have u:=(cL (kL l)).symm.trans K.cp;have w:(qT l b&&vW a)=true:=by
  rw[C,Bool.true_and];unfold vW;rw[wO];omega
 obtain⟨s1,s2⟩:=Y3 E w;refine⟨⟨0,⟨⟨rfl,tZ⟩,tZ⟩,ju _,fun j J=>by omega⟩,fun x y F=>⟨fun g=>⟨jW _,ja g,fun _=>rfl,fun c=> ?_⟩,fun g=> ?_⟩⟩;have g:(x:Int)<(wi l).length:=ja g;have c:¬Ii (nth (wi l) x)=99:=jc c;have F:(wi l).length<4611686018427387904:=F;refine⟨iZ6,x+1,⟨⟨by simp,tZ⟩,tZ⟩,⟨by show x+1<=(wi l).length;omega,fun j J=> ?_⟩,by show(wi l).length-(x+1)<(wi l).length-x;omega⟩;by_cases e:j=x;subst e;exact c;exact y.2 j (by omega);have g:¬(x:Int)<(wi l).length:=jc g;have M:x<=(wi l).length:=y.1;have e:x=(wi l).length:=(by omega);subst e;have key:=fun m L s=>jdf (m:=m) E (by omega) y.2 r L s
 have last:∀(s:Tg l b=true),(∀n,-100000<=n->n<=wP (cm l b)->(yK l b a=0->yY l b a<n)->a<qf n (kP l b))->
  (decide (m< -100000)||decide (wP (cm l b)<m)||decide (yK l b a=0)&&decide (m<=yY l b a))=false->ci l/\(uA l b m&&decide (a<uz l b m)&&true,())=(true,()):=fun s p D=>by
  simp only[jN,ke,jF] at D;obtain⟨⟨f,o⟩,i⟩:=D;obtain⟨z,A⟩:=key m ⟨by omega,by omega⟩ s;have:=p m (by omega) (by omega) fun e=>by
   rcases i with i|i;exact absurd e i;omega
  rw[z,A,jH this];exact⟨uq v,rfl⟩
 refine⟨r.1,r.2,N,u,r,fun d=> ?_,fun d=>⟨fun c=> ?_,fun _=>⟨fun k=>⟨uq v,fun q=> ?_,fun _=>⟨fun _=>rfl,fun t=> ?_⟩⟩,fun k=>⟨fun _=>rfl,fun t=> ?_⟩⟩⟩⟩;rw[jO] at d;show(decide (yK l b a=3)&&true,())=(true,());rw[jH (s1 d)];rfl;exfalso;rw[zb] at d;have c:(decide (yK l b a≠0)&&decide (yK l b a≠3)||decide (yK l b a=0)&&(decide (wP (cm l b)<yY l b a)||decide (yY l b a< -100000)))=true:=c;simp only[zr,ji,jm] at c;rcases s2 d with⟨f,o,i,_⟩|⟨f,_⟩;rcases c with c|c;exact c.1 f;omega;rcases c with c|c;exact c.2 f;have:=c.1;omega;exfalso;rw[zb] at d;have k:yK l b a=0:=ja k;rcases s2 d with⟨f,o,i,G,_⟩|⟨f,_⟩;obtain⟨z,A⟩:=key _ ⟨o,i⟩ d;have q:(!uA l b (yY l b a)||decide (a<uz l b (yY l b a)))=true:=q;rw[z,A,zl (by omega)] at q;cases q;omega;rw[zb] at d;have k:yK l b a=0:=ja k;rcases s2 d with⟨f,o,i,G,H⟩|⟨f,_⟩;exact last d (fun n _ B P=>H n (P f) B) t;omega;rw[zb] at d;have k:¬yK l b a=0:=jc k;rcases s2 d with⟨f,_⟩|⟨f,o⟩;exact absurd f k;exact last d (fun n O B _=>o n O B) t
theorem S8:wn PR 4 ur:=qG ut An Tryz.func4 (kcC OI (kcC OJ (kcC Dv (kcC Dx (kcC K6 (kcC Lg kcN)))))) koN
open Go.Proofs Go.Proofs.YtjmbjgjcdklgdaaGreatDoor
noncomputable def Zd:Array Field:=match Tryz.prog.underlying 60 with|some (.struct fs)=>fs|_=> #[]
theorem jdg:Tryz.prog.globalNamed "handshape/rosters.some"=some 0:=by kernel_rfl
theorem jdh:(Tryz.prog.globals[0]?).map (·.type)=some 60:=by kernel_rfl
theorem jeB:Tryz.prog.underlying 60=some (.struct Zd):=by kernel_rfl
theorem jeC:Tryz.prog.underlying 3=some (.int .i64):=by kernel_rfl
theorem jeD:Tryz.prog.cellsOf 3=1:=by kernel_rfl
noncomputable def dh (i:Nat):Bool:=match Zd[i]? with|some f=>Nat.beq f.type 3&&Nat.beq f.offset i|none=>false
theorem fields:(dh 0&&dh 1&&dh 2&&dh 3&&dh 4&&dh 5)=true:=by kernel_rfl
theorem Ze {i:Nat} (h:dh i=true):∃f,Zd[i]? =some f/\f.type=3/\f.offset=i:=by
 unfold dh at h
 split at h
 rename_i f a;rw[ji] at h;exact⟨f,a,jb h.1,jb h.2⟩;cases h
theorem Zf {H:Type} {enc:TypeId×Value->H} {w:World} {base:Nat} {sp:Nat->Bool} {a:Bool} {n:Nat} {cs:List Value} {xs:List (DataW H×List MemPlace)} {d:List Int} (o:xs.map (·.1)=d.map fun z=>(DataW.lit (.int .i64 z):DataW H))
 (k:∀(i:Nat) (f:Field),Zd[i]? =some f->DataW.trod enc Tryz.prog w base sp a n f.type ((cs.drop f.offset).take (Tryz.prog.cellsOf f.type))=xs[i]?) {i:Nat} {z:Int} (hi:dh i=true) (q:d[i]? =some z):cs[i]? =some (.int .i64 z):=by
 obtain⟨f,g,h,j⟩:=Ze hi;have b:=k i f g;rw[h,j,jeD] at b;have c:(xs.map (·.1))[i]? =some (DataW.lit (.int .i64 z):DataW H):=(by rw[o,zW,q];rfl);rw[zW] at c;obtain⟨y,p,e⟩:=kk.1 c;rw[p] at b;obtain⟨m,l,rfl,_⟩:=DataW.trod_int jeC b;have e:m=z:=by
  have e:(DataW.lit (.int .i64 m):DataW H)=DataW.lit (.int .i64 z):=e;simpa only[DataW.lit.injEq,Lit.int.injEq,true_and] using e
 subst e;have:=jG (·[0]?) l;simpa[zP,zh] using this
theorem jd8 {W:World} (h:laidMet Tryz.prog [("handshape/rosters.some",Rows.laid_handshape_rosters_some)] W):jaj (Hof W):=by
 obtain⟨ps,⟨H,E,cs,k,p,q,d,f,a,A,_,_⟩,_⟩:=h;obtain rfl:=Option.some.inj (jdg.symm.trans d);obtain rfl:=Option.some.inj (jdh.symm.trans f);obtain⟨xs,n,_,C,I,l,B⟩:=DataW.trod_struct jeB A;have j:xs.map (·.1)=[0,1,0,0,0,1].map fun z=>(DataW.lit (.int .i64 z):DataW Unit):=by
  have e:=jG Prod.fst C;have e:(DataW.agg [.lit (.int .i64 0),.lit (.int .i64 1),.lit (.int .i64 0),.lit (.int .i64 0),.lit (.int .i64 0),.lit (.int .i64 1)]:DataW Unit)= .agg (xs.map (·.1)):=e;simp only[DataW.agg.injEq] at e;exact e.symm
 have fs:=fields;simp only[ji] at fs;obtain⟨⟨⟨⟨⟨o,r⟩,s⟩,u⟩,v⟩,w⟩:=fs;have c:∀{i:Nat} {z:Int},dh i=true->([0,1,0,0,0,1]:List Int)[i]? =some z->cs[i]? =some (.int .i64 z):=fun hi D=>by
  have:=Zf j B hi D;simpa using this
 unfold World.var? at a;rw[jdg] at a;intro g x b;have b:kS [(0,(⟨.st [.int,.int,.int,.int,.int,.int],((0:Int),(1:Int),(0:Int),(0:Int),(0:Int),(1:Int),())⟩:(t:Ty)×t.Data))] g=some x:=b;have y:Hof W 0=some (.cells cs):=by
  unfold Hof;simp only[Option.bind_some] at a
  split at a
  rename_i F E G e;rw[e];have:=Option.some.inj a;rw[this];cases a
 have m:=w7 _ _ _ b;simp only[zR,Prod.mk.injEq] at m;obtain⟨rfl,rfl⟩:=m;exact⟨cs,y,c o rfl,c r rfl,c s rfl,c u rfl,c v rfl,c w rfl,tZ⟩
end Go.X
