/-
  Part 7 of the road: a checked reading of bodies, and what the functions on it do (X25 X26 C5 PC15 C6 PC16 S6 S7 PC17 DM S8 S9 S10 S11 S12 S13 S14 C7 PC18 S15 S16 C9 PC21 PC22 C10 PC23 C11 LW).
-/
import Derived.Test.YtphbhcmpebmadaaGreatDoorK06
import Derived.Test.YtphbhcmpebmadaaGreatDoorRows
import Derived.WalkKit
import Derived.ProofKit
import Derived.OpenShut
import Derived.JoinedCond
import Derived.Carry
import Derived.ChangeArms
import Derived.Test.YtphbhcmpebmadaaGreatDoorCards
import Derived.Test.YtphbhcmpebmadaaGreatDoorTie
import Derived.Deep.DeepHandedRow
import Derived.Lib.LaidTab
namespace Go.X
open Go.RowKit (Below)
open Go.Proofs.YtphbhcmpebmadaaGreatDoor
def Hof (w:World):Imm:=fun b=>match w.heap[b]? with|some (.cells c _ _)=>some (.cells c)|_=>none
theorem jBS (w:World) (d:jER (Hof w)):jbv (Hof w) w:=by
 refine⟨fun b c h=> ?_,d⟩;unfold Hof at h
 split at h
 .rename_i f T a e;simp at h;subst h;exact⟨T,a,e⟩
 .cases h
def Ty.fits (N:Nat):(t:Ty)->t.Data->Prop
 | .int,x=>jw x
 | .bool,_=>True
 | .uint k,x=>k.min<=x/\x<=k.max
 | .slice t,l=>l.length<=N/\∀x∈l,t.fits N x
 | .unit,_=>True
 | .pair a b,d=>a.fits N d.1/\b.fits N d.2
 | .map k v,l=>l.length<=N/\∀x∈l,k.fits N x.1/\v.fits N x.2
 | .ptr t,d=>∀x,d=some x->t.fits N x
theorem Ty.fits_mono {N M:Nat} (h:N<=M):∀(t:Ty) (d:t.Data),t.fits N d->t.fits M d
 | .int,_,k=>k
 | .bool,_,k=>k
 | .uint _,_,k=>k
 | .unit,_,k=>k
 | .slice t,_,k=>⟨jHb k.1 h,fun x c=>t.fits_mono h x (k.2 x c)⟩
 | .pair a b,_,k=>⟨a.fits_mono h _ k.1,b.fits_mono h _ k.2⟩
 | .map k v,_,q=>⟨jHb q.1 h,fun x c=>⟨k.fits_mono h _ (q.2 x c).1,v.fits_mono h _ (q.2 x c).2⟩⟩
 | .ptr t,_,k=>fun x c=>t.fits_mono h x (k x c)
def jFa (P:Program) (go:Nat->Ty->Bool):List Field->Nat->Ty->Bool
 |[],_,.unit=>true
 |f::fs,off,.pair a b=>Nat.beq f.offset off&&Nat.beq (P.cellsOf f.type) a.size&&go f.type a&&jFa P go fs (off+a.size) b
 |_,_,_=>false
def jDI (P:Program):Nat->Nat->Ty->Bool
 |0,_,_=>false
 |d+1,T,ty=>match ty,P.underlying T with
  | .int,some (.int .i64)=>true
  | .bool,some .bool=>true
  | .uint k,some (.int k')=>jaz k k'
  | .slice t,some (.slice e)=>Nat.beq (P.cellsOf e) t.size&&Nat.ble 1 t.size&&jDI P d e t
  | .pair a b,some (.struct fs)=>Nat.beq (P.cellsOf T) (Ty.pair a b).size&&jFa P (jDI P d) fs.toList 0 (.pair a b)
  |_,_=>false
section
variable {P:Program} {K:Type} {enc:TypeId×Value->K} {w:World}
theorem jFd (d:DataW K):1<=Rows.uptoBulk d:=by
 cases d with
 |lit l=>cases l<;>simp[Rows.uptoBulk]
 |_=>simp[Rows.uptoBulk]
theorem jqo (l:List (DataW K)):l.length<=Rows.uptoBulkAll l:=by
 induction l with
 |nil=>simp[Rows.uptoBulkAll]
 |cons x r a=>have:=jFd x;simp only[Rows.uptoBulkAll,jHy];omega
theorem jDN {d:DataW K} {l:List (DataW K)} (h:d∈l):Rows.uptoBulk d<=Rows.uptoBulkAll l:=by
 induction l with
 |nil=>cases h
 |cons x r a=>
  simp only[Rows.uptoBulkAll];cases jGX.1 h with
  |inl e=>subst e;omega
  |inr e=>have:=a e;omega
theorem jy1 {α:Type} {Q:Nat->α->Prop}:∀(n:Nat),(∀i,i<n->∃y,Q i y)->∃l:List α,l.length=n/\∀i y,l[i]? =some y->Q i y
 |0,_=>⟨[],rfl,fun i y h=>by simp at h⟩
 |n+1,h=>by
  obtain⟨l,b,c⟩:=jy1 n (fun i hi=>h i (by omega))
  obtain⟨y,d⟩:=h n (by omega)
  refine⟨l++[y],by simp[b],fun i z a=> ?_⟩
  by_cases hi:i<l.length
  .rw[jG9 hi] at a;exact c i z a
  .rw[jG8 (by omega)] at a
   have:i=n:=by
    by_cases e:i-l.length=0
    .omega
    .obtain⟨k,hk⟩:∃k,i-l.length=k+1:=⟨i-l.length-1,by omega⟩;rw[hk] at a;simp at a
   subst this;rw[<-b] at a;simp at a;subst a;exact d
def jFV (P:Program) (w:World) (enc:TypeId×Value->K) (T:Nat) (ty:Ty):Prop:=
 ∀(a:Nat) (cs:List Value) (x:DataW K×List MemPlace),DataW.trod enc P w 0 (fun _=>true) true a T cs=some x->Rows.uptoBulk x.1<=1048576->
  ∃d:ty.Data,ty.rd (Hof w) (fun i=>cs[i]?) d/\cs.length=ty.size/\ty.fits (Rows.uptoBulk x.1) d
theorem jE3 {n:Int} (h:(Lit.int .i64 n).wf=true):jw n:=by
 simp[Lit.wf,IntKind.min,IntKind.max,IntKind.signed,IntKind.bits] at h;exact h
theorem jhm {go:Nat->Ty->Bool} (c:∀T ty,go T ty=true->jFV P w enc T ty) {n:Nat} {cs:List Value}:
 ∀(fs:List Field) (off:Nat) (ty:Ty) (xs:List (DataW K×List MemPlace)),jFa P go fs off ty=true->xs.length=fs.length->
  (∀(i:Nat) (f:Field),fs[i]? =some f->DataW.trod enc P w 0 (fun _=>true) true n f.type ((cs.drop f.offset).take (P.cellsOf f.type))=xs[i]?)->Rows.uptoBulkAll (xs.map (·.1))<=1048576->
  ∃d:ty.Data,ty.rd (Hof w) (fun i=>cs[off+i]?) d/\ty.fits (Rows.uptoBulkAll (xs.map (·.1))) d
 |[],off,ty,xs,h,g,e,j=>by
  cases ty<;>simp[jFa] at h
  exact⟨(),trivial,trivial⟩
 |f::fs,off,ty,[],h,g,e,j=>by simp at g
 |f::fs,off,ty,x::xs,h,g,e,j=>by
  cases ty<;>simp[jFa] at h
  rename_i a b
  obtain⟨⟨⟨q,v⟩,r⟩,s⟩:=h
  simp only[jHW,Rows.uptoBulkAll] at j
  have k:=e 0 f (by simp)
  simp only[List.getElem?_cons_zero] at k
  obtain⟨d,t,y,u⟩:=c _ _ r _ _ _ k (by omega)
  obtain⟨l,o,p⟩:=jhm c fs (off+a.size) b xs s (by simpa using g) (fun i m hi=>by simpa using e (i+1) m (by simpa using hi)) (by omega)
  refine⟨(d,l),⟨?_,?_⟩,?_,?_⟩
  .refine Ty.rd_congr a _ _ _ (fun i hi=> ?_) t
   rw[jHl (by omega),jHB,q]
  .refine Ty.rd_congr b _ _ _ (fun i hi=> ?_) o
   rw[jH4]
  .exact a.fits_mono (by simp[Rows.uptoBulkAll]) _ u
  .exact b.fits_mono (by simp[Rows.uptoBulkAll]) _ p
theorem jdY:∀(d T:Nat) (ty:Ty),jDI P d T ty=true->jFV P w enc T ty
 |0,_,_,h=>by cases h
 |d+1,T,ty,h=>by
  intro fuel cs x B r
  unfold jDI at h
  split at h
  .rename_i u
   obtain⟨n,rfl,rfl,H⟩:=DataW.trod_int u B
   exact⟨n,rfl,rfl,jE3 H⟩
  .rename_i u
   obtain⟨b,rfl,rfl⟩:=DataW.trod_bool u B
   exact⟨b,rfl,rfl,trivial⟩
  .rename_i k k' u
   obtain⟨n,rfl,rfl,H⟩:=DataW.trod_int u B
   have:k=k':=by simpa[jaz] using h
   subst this
   refine⟨n,rfl,rfl,?_⟩
   simp[Lit.wf] at H
   exact H
  .rename_i t e u
   simp only[jGW] at h
   obtain⟨⟨L,M⟩,h3⟩:=h
   have e1:=jGT L
   have e2:=jHa M
   rcases DataW.trod_slice u B with⟨rfl,rfl⟩|⟨a,len,J,ym,rest,n,_,rfl,rfl,hb,hl,hm,A,D,_,_⟩
   .refine⟨[],⟨none,0,0,rfl,rfl,jGY _,by simp,fun _=>rfl,fun h=>absurd rfl h⟩,rfl,by simp,fun x B=>by simp at B⟩
   .simp only[Rows.uptoBulk] at r
    have key:∀i,i<len->∃y:t.Data,(∃blk,Hof w a.block=some (.cells blk)/\a.spot=none/\t.rd (Hof w) (fun j=>blk[a.off+i*t.size+j]?) y)/\t.fits (Rows.uptoBulkAll (ym.map (·.1))) y:=by
     intro i hi;have h0:=D i hi;have X:ym[i]? =some ym[i]:=jG2 (by omega);rw[X,Option.bind_eq_some_iff] at h0;obtain⟨cl,c1,c2⟩:=h0;have Q:Rows.uptoBulk ym[i].1<=Rows.uptoBulkAll (ym.map (·.1)):=jDN (jHm.2 ⟨ym[i],List.getElem_mem _,rfl⟩);obtain⟨y,y1,y2,y3⟩:=jdY d e t h3 _ _ _ c2 (by omega);unfold World.cells? at c1;rw[if_pos (jG7 _),e1] at c1;have z:∀j,j<t.size->w.cell? ((a.add (i*t.size)).add j)=cl[j]? :=fun j O=>by
      have:=mapM_some_get c1 j j (by simp[O]);simpa using this
     have N:cl.length=t.size:=(by simpa using mapM_some_length c1);have I:=z 0 (by omega);have g:cl[0]?≠none:=(by rw[jG2 (by omega)];simp);rw[<-I] at g;have m:∃blk T G,w.heap[a.block]? =some (.cells blk T G):=by
      unfold World.cell? at g;have q:((a.add (i*t.size)).add 0).block=a.block:=by unfold Addr.add;simp;split<;>rfl
      rw[q] at g
      split at g
      .rename_i c T G e;exact⟨c,T,G,e⟩
      .exact absurd rfl g
     obtain⟨blk,T',G,m⟩:=m;have p:((a.add (i*t.size)).add 0).spot=none:=by
      unfold World.cell? at g;have q:((a.add (i*t.size)).add 0).block=a.block:=by unfold Addr.add;simp;split<;>rfl
      rw[q,m] at g;simp only at g;cases R:((a.add (i*t.size)).add 0).spot with
      |none=>rfl
      |some s=>rw[R] at g;simp at g
     have hH:Hof w a.block=some (.cells blk):=(by unfold Hof;rw[m]);refine⟨y,⟨blk,hH,?_,?_⟩,t.fits_mono Q _ y3⟩
     .--the first element shows that the address is plain
      have C:=D 0 (by omega);have W:ym[0]? =some ym[0]:=jG2 (by omega);rw[W,Option.bind_eq_some_iff] at C;obtain⟨K,F,_⟩:=C;unfold World.cells? at F;rw[if_pos (jG7 _),e1] at F;have v:=mapM_some_get F 0 0 (by rw[List.getElem?_range (by omega)]);have hl0:K.length=t.size:=(by simpa using mapM_some_length F);rw[jG2 (by omega)] at v;simp only[Nat.zero_mul] at v;have ea:(a.add 0).add 0=a:=(by unfold Addr.add;simp);rw[ea] at v;unfold World.cell? at v;rw[m] at v;simp only at v;cases R:a.spot with
      |none=>rfl
      |some s=>rw[R] at v;simp at v
     .refine Ty.rd_congr t _ _ _ (fun j O=> ?_) y1;rw[<-z j O];unfold World.cell?;have q:((a.add (i*t.size)).add j).block=a.block:=by unfold Addr.add;split<;>split<;>rfl
      have E:((a.add (i*t.size)).add j).off=a.off+i*t.size+j:=by
       unfold Addr.add;split<;>split<;>simp_all
      have V:((a.add (i*t.size)).add j).spot=none:=by
       have S:(a.add (i*t.size)).spot=none:=by
        have:(a.add (i*t.size)).add 0=a.add (i*t.size):=(by simp[Addr.add]);rw[this] at p;exact p
       unfold Addr.add at S⊢
       split<;>split<;>simp_all
      rw[q,m,E,V];simp
    obtain⟨l,l1,l2⟩:=jy1 len key;refine⟨l,⟨some a,len,J,rfl,l1.symm,hl,?_,(fun h=>by cases h),fun g=> ?_⟩,rfl,?_,?_⟩
    .have:=jqo (ym.map (·.1));simp at this;omega
    .have hz:0<l.length:=List.length_pos_iff.2 g;obtain⟨blk,q1,q2,_⟩:=(l2 0 l[0] (jG2 hz)).1;refine⟨a.block,a.off,blk,?_,q1,fun i y Z=> ?_⟩
     .rcases a with⟨b,o,s⟩;simp only at q2;subst q2;rfl
     .obtain⟨blk',q3,_,q4⟩:=(l2 i y Z).1;rw[q1] at q3;simp at q3;subst q3;exact q4
    .simp only[Rows.uptoBulk];have:=jqo (ym.map (·.1));simp at this;omega
    .intro y Z;obtain⟨i,hi⟩:=jIb Z;exact t.fits_mono (by simp only[Rows.uptoBulk];omega) _ (l2 i y hi).2
  .rename_i a b fs u;simp only[jGW] at h;obtain⟨L,M⟩:=h;obtain⟨xs,n,_,rfl,A,Y,hf⟩:=DataW.trod_struct u B;simp only[Rows.uptoBulk] at r;obtain⟨y,y1,y2⟩:=jhm (fun T ty h=>jdY d T ty h) (n:=n) (cs:=cs) fs.toList 0 (.pair a b) xs M (by simpa using Y) (fun i f hi=>hf i f (by simpa using hi)) (by omega);refine⟨y,by simpa using y1,by rw[A];exact jGT L,?_⟩;exact Ty.fits_mono (by simp only[Rows.uptoBulk];omega) (.pair a b) _ y2
  .cases h
end
end Go.X
namespace Go.X
open Go.RowKit (Below)
open Go.ChangeShapes Go.WideShapes Go.ChangeAt Go.RowKit
open Go.Proofs.YtphbhcmpebmadaaGreatDoor
def jok (N:Nat):(ts:List Ty)->PD (ts.map Par.val)->Prop
 |[],_=>True
 |t::ts,d=>t.fits N d.1/\jok N ts d.2
def jy3 (ts:List Ty):jT:=⟨ts.map Par.val,[.bool],false,fun d=>[jok 1048576 ts d],fun _=>(true,())⟩
def jhp (P:Program):List Nat->List Ty->Bool
 |[],[]=>true
 |T::Ts,t::ts=>jDI P 20 T t&&(P.readableRec T&&decide (T<P.types.size))&&jhp P Ts ts
 |_,_=>false
section
variable {P:Program} {K:Type} {enc:TypeId×Value->K} {W W':World}
theorem jeU (j:laidOutB P=true) (i:Below W.heap.size W W'):∀(a:List Nat) (ts:List Ty) (vs:List Value) (ds:List (DataW K)) (ps:List MemPlace),jhp P a ts=true->
 DataW.TrodAll enc P W 0 (fun _=>true) true a vs ds ps->(∀x∈ps,x.block<W.heap.size)->DataW.TrodAll enc P W' 0 (fun b=>decide (b<W.heap.size)) true a vs ds ps
 |[],ts,vs,ds,ps,_,h,_=>by
  obtain⟨rfl,rfl,rfl⟩:=trodAll_nil h
  exact trodAll_mk0
 |T::a,[],vs,ds,ps,c,_,_=>by cases c
 |T::a,t::ts,vs,ds,ps,c,h,hlt=>by
  obtain⟨v,g,d,e,p,q,rfl,rfl,rfl,n,o⟩:=trodAll_cons h
  simp only[jhp,jGW] at c
  obtain⟨⟨_,k,l⟩,m⟩:=c
  exact trodAll_cons_mk (Below.trod j k (of_decide_eq_true l) n i (fun x f=>hlt x (jGV _ f)))
   (jeU j i a ts g e q m o (fun x f=>hlt x (jGU _ f)))
theorem jEJ {T:Nat} {t:Ty} {r:Reach} {c:Nat} {v:Value} (h:jDI P 20 T t=true) (b:Value.okWide P W r c T v):kF v=t.agg:=by
 unfold jDI at h
 split at h
 .rename_i a;obtain⟨n,rfl⟩:=okWide_int a b;rfl
 .rename_i a;obtain⟨n,rfl⟩:=okWide_bool a b;rfl
 .rename_i a;obtain⟨n,rfl⟩:=okWide_int a b;rfl
 .rename_i a;unfold Value.okWide at b;rw[a] at b;simp only[Cell.okWide,a] at b;cases v with
  |agg vs=>simp[Cell.ok,a] at b
  |_=>rfl
 .rename_i a;unfold Value.okWide at b;rw[a] at b;obtain⟨cs,rfl,_⟩:=b;rfl
 .cases h
theorem jCL {r:Reach} {l:Nat}:∀(a:List Nat) (ts:List Ty) (vs:List Value) (ds:List (DataW K)) (ps:List MemPlace),jhp P a ts=true->
 DataW.TrodAll enc P W 0 (fun _=>true) true a vs ds ps->(∀(j:Nat) t v,a[j]? =some t->vs[j]? =some v->Value.okWide P W r l t v)->Rows.uptoBulkAll ds<=1048576->
 ∃d:PD (ts.map Par.val),pvs P (Hof W) (ts.map Par.val) vs d/\jok 1048576 ts d
 |[],ts,vs,ds,ps,b,h,_,_=>by
  obtain⟨rfl,rfl,rfl⟩:=trodAll_nil h
  cases ts with
  |nil=>exact⟨(),rfl,trivial⟩
  |cons t ts=>cases b
 |T::a,[],vs,ds,ps,b,_,_,_=>by cases b
 |T::a,t::ts,vs,ds,ps,b,h,hv,hb=>by
  obtain⟨v,g,d,e,p,q,rfl,rfl,rfl,n,o⟩:=trodAll_cons h
  simp only[jhp,jGW] at b
  obtain⟨⟨k,_⟩,m⟩:=b
  simp only[Rows.uptoBulkAll] at hb
  obtain⟨c,s⟩:=n
  obtain⟨x,w,z,A⟩:=jdY 20 T t k c _ _ s (by simp only;omega)
  obtain⟨y,B,C⟩:=jCL a ts g e q m o (fun j t v u f=>hv (j+1) t v (by simpa using u) (by simpa using f)) (by omega)
  refine⟨(x,y),⟨⟨jEJ k (hv 0 T v rfl rfl),by simpa using z,?_⟩,B⟩,Ty.fits_mono (by simp only;omega) t x A,C⟩
  refine Ty.rd_congr t _ _ _ (fun i _=> ?_) w
  simp
theorem jdK:∀(a:List Nat) (ts:List Ty) (vs:List Value) (ds:List (DataW K)) (ps:List MemPlace),jhp P a ts=true->DataW.TrodAll enc P W 0 (fun _=>true) true a vs ds ps->ds.length=ts.length:=by
 intro a
 induction a with
 |nil=>intro ts vs ds ps b h;obtain⟨rfl,rfl,rfl⟩:=trodAll_nil h;cases ts with|nil=>rfl|cons=>cases b
 |cons T a g=>intro ts vs ds ps b h;cases ts with
  |nil=>cases b
  |cons t ts=>
   obtain⟨v,e,d,c,p,q,rfl,rfl,rfl,i,f⟩:=trodAll_cons h;simp only[jhp,jGW] at b;simp[g ts e c q b.2 f]
theorem jCV {f:Nat} {fn:Func} {s:ChangeSpec} {ts:List Ty} (I:laidOutB P=true) (k:jhp P fn.params.toList ts=true) (L:fn.resultTypes= #[4]) (D:P.underlying 4=some .bool)
 (a:s.vars=[]) (m:∀(ds:List (DataW K)),ds.length=ts.length->s.fn K (ds++[])={results:=[.lit (.bool true)],args:=ds})
 (G:zk P f (jy3 ts)) (base:Nat) (args:Array Value) (ds o:List (DataW K)) (before:List MemPlace)
 (l:∀(j:Nat) t v,fn.params[j]? =some t->args[j]? =some v->Value.okWide P W .any base t v)
 (w:DataW.Whole enc P fn.params.toList s.vars false W args.toList ds o before) (hk:Rows.uptoSmall K (ds++o)=true) (E:jER (Hof W)):
 Calls P f args W fun e W'=>∃v,e= .returned v/\s.post enc P fn false true false false W args v W':=by
 have b:=w;obtain⟨p,q,i,u,rfl,H,J⟩:=w;rw[a] at u;obtain⟨rfl,rfl⟩:=trodVars_none u;simp only[jHq] at b hk;have c:Rows.uptoBulkAll ds<=1048576:=of_decide_eq_true hk;have g:∀(j:Nat) t v,fn.params.toList[j]? =some t->args.toList[j]? =some v->Value.okWide P W .any base t v:=fun j t v B C=>l j t v (by simpa using B) (by simpa using C)
 obtain⟨d,z,A⟩:=jCL fn.params.toList ts args.toList ds p k i g c;have y:=G.calls (Hof W) W args.toList d (jBS W E) z ⟨A,trivial⟩;simp only[Array.toArray_toList] at y;refine y.mono fun e W' F=> ?_
 obtain⟨v,H',rfl,r,M⟩:=F;have n:v= .bool true:=zL M;subst n;refine⟨_,rfl,ds,[],p,[],p,[],b,?_,?_,?_,r.below.frame _,fun h=>by cases h⟩
 .rw[m ds ?_,L]
  .exact trodAll_cons_mk (shut_bool D _) trodAll_mk0
  .exact jdK _ _ _ _ _ k i
 .rw[m ds ?_]
  .exact jeU I r.below _ ts _ _ _ k i (fun x N=>by simpa using b.lt x N)
  .exact jdK _ _ _ _ _ k i
 .rw[a,m ds ?_]
  .rfl
  .exact jdK _ _ _ _ _ k i
end
end Go.X
namespace Go.X
open Go.Proofs
namespace U
def jGd (p:PeD):Prop:=(lv p).length<=20/\(zF p).length<=30
def jnj (c:CrD):Prop:=(je c).length<=20/\(kX c).length<=20/\∀p∈je c,jGd p
def jji (d:DyD):Prop:=jnj (jc d)/\(jK d).length<=20/\(jm d).length<=20/\(kl d).length<=60/\∀r∈jK d,r.length<=20
def jrd (p:PeD):Bool:=decide (20<((lv p).length:Int))||decide (30<((zF p).length:Int))
def jbs (c:CrD):Bool:=(decide (20<((je c).length:Int))||decide (20<((kX c).length:Int)))||((je c).any jrd||(jj c&&decide (5<((je c).length:Int))))
def jrc (r:List SpD):Bool:=decide (20<(r.length:Int))
def yi (d:DyD):Bool:=(((jbs (jc d)||decide (20<((jK d).length:Int)))||decide (20<((jm d).length:Int)))||decide (60<((kl d).length:Int)))||(jK d).any jrc
def jfX (d:DyD):Bool:=yi d||(decide (wG d=0)&&decide (12<((kl d).length:Int)))
def jGI:CrD:=(3,[([5,4,0],3,15,[],false,50,()),([0,5,3],3,15,[],true,40,()),([4,0,4],1,3,[7],false,30,()),([3,3,3],255,1,[],false,10,())],[(2,1,false,()),(4,2,false,()),(3,2,true,()),(5,1,false,())],())
def jAF:List JbD:=[(0,2,7,1,2,1,()),(0,2,3,0,0,1,()),(0,2,7,1,1,1,())]
def jlH:DyD:=(jGI,[[(0,0,()),(10,20,())],[(10,25,()),(0,0,())]],[((0,2,3,0,0,1,()),0,60,120,()),((0,2,3,1,0,1,()),1,150,200,()),((0,2,7,1,2,1,()),0,230,300,())],10,140,
 [(1,5,1,0,3,()),(2,6,1,1,3,()),(3,4,1,2,2,()),(4,7,1,2,0,()),(5,8,1,2,1,()),(6,9,1,0,2,()),(7,10,2,0,2,())],())
end U
def jvC:jT:=⟨[.val tCr],[tCr],false,fun d=>[U.jnj d.1],fun d=>(d.1,())⟩
def jw3:Ann:=fun r=>match r with
 |3=>some fun σ=>{X:=Nat,sl:=fun i=>[(4,.dat .int (i:Int))],ob:=fun i=>[(3,some (.box 25 false ((bx σ 3).set 1 (.own (yf 3 1) tPe)))),(yf 3 1,some (.row 92 tPe false .yes ((U.je (gb tCr σ 1)).take i)))],inv:=fun i=>i<=(U.je (gb tCr σ 1)).length,mu:=fun i=>(U.je (gb tCr σ 1)).length-i}
 |_=>none
abbrev q121_0 (d:CrD×Unit)(x:Nat):=(nth d.1.2.1 (x:Int).toNat)
def jvh:Prop:=∀(d:CrD×Unit),U.jnj d.1->(0+d.1.2.2.1.length)*24<=140737488355328/\(∃(x:Nat),((0=(x:Int)/\True)/\(d.1.1=d.1.1/\True/\True/\True)/\List.take x (U.je d.1)=[]/\True)/\x<=(U.je d.1).length)/\∀(x:Nat),x<=(U.je d.1).length->d.1.2.1.length<4611686018427387904->(decide ((x:Int)<(d.1.2.1.length:Int))=true->0<=(x:Int)/\(x:Int)<(d.1.2.1.length:Int)/\(0+(q121_0 d x).1.length)*8<=140737488355328/\(0+(q121_0 d x).2.2.2.1.length)*8<=140737488355328/\((List.take x (U.je d.1)).length+[([]++(q121_0 d x).1,(q121_0 d x).2.1,(q121_0 d x).2.2.1,[]++(q121_0 d x).2.2.2.1,(q121_0 d x).2.2.2.2)].length)*80<=140737488355328/\jw ((x:Int)+1)/\∃(a:Nat),(((x:Int)+1=(a:Int)/\True)/\(d.1.1=d.1.1/\True/\True/\True)/\List.take x (U.je d.1)++[([]++(q121_0 d x).1,(q121_0 d x).2.1,(q121_0 d x).2.2.1,[]++(q121_0 d x).2.2.2.1,(q121_0 d x).2.2.2.2)]=List.take a (U.je d.1)/\True)/\a<=(U.je d.1).length/\(U.je d.1).length-a<(U.je d.1).length-x)/\(decide ((x:Int)<(d.1.2.1.length:Int))=false->((d.1.1,List.take x (U.je d.1),[]++d.1.2.2.1,()),())=d)
def jvy:jT:=⟨[.val tDy],[tDy],false,fun d=>[U.jji d.1],fun d=>(d.1,())⟩
def jw0:Ann:=fun r=>match r with
 |5=>some fun σ=>{X:=Nat,sl:=fun i=>[(4,.dat .int (i:Int))],ob:=fun i=>[(3,some (.box 30 false ((bx σ 3).set 3 (.own (yf 3 3) (.slice tSp))))),(yf 3 3,some (.row 37 (.slice tSp) false .yes ((U.jK (gb tDy σ 1)).take i)))],inv:=fun i=>i<=(U.jK (gb tDy σ 1)).length,mu:=fun i=>(U.jK (gb tDy σ 1)).length-i}
 |_=>none
abbrev q122_0 (d:DyD×Unit):=(d.1.1.1=d.1.1.1/\d.1.1.2.1=d.1.1.2.1/\d.1.1.2.2.1=d.1.1.2.2.1/\True/\d.1.2.2.1=d.1.2.2.1/\d.1.2.2.2.1=d.1.2.2.2.1/\d.1.2.2.2.2.1=d.1.2.2.2.2.1/\d.1.2.2.2.2.2.1=d.1.2.2.2.2.2.1/\True)
def jvd:Prop:=∀(d:DyD×Unit),U.jji d.1->U.jnj d.1.1/\(∃(x:Nat),((0=(x:Int)/\True)/\(q122_0 d)/\List.take x (U.jK d.1)=[]/\True)/\x<=(U.jK d.1).length)/\∀(x:Nat),x<=(U.jK d.1).length->d.1.2.1.length<4611686018427387904->(decide ((x:Int)<(d.1.2.1.length:Int))=true->0<=(x:Int)/\(x:Int)<(d.1.2.1.length:Int)/\(0+(nth d.1.2.1 (x:Int).toNat).length)*16<=140737488355328/\((List.take x (U.jK d.1)).length+[[]++nth d.1.2.1 (x:Int).toNat].length)*24<=140737488355328/\jw ((x:Int)+1)/\∃(a:Nat),(((x:Int)+1=(a:Int)/\True)/\(q122_0 d)/\List.take x (U.jK d.1)++[[]++nth d.1.2.1 (x:Int).toNat]=List.take a (U.jK d.1)/\True)/\a<=(U.jK d.1).length/\(U.jK d.1).length-a<(U.jK d.1).length-x)/\(decide ((x:Int)<(d.1.2.1.length:Int))=false->(0+d.1.2.2.1.length)*72<=140737488355328/\(0+d.1.2.2.2.2.2.1.length)*40<=140737488355328/\((d.1.1,List.take x (U.jK d.1),[]++d.1.2.2.1,d.1.2.2.2.1,d.1.2.2.2.2.1,[]++d.1.2.2.2.2.2.1,()),())=d)
def jlg:jT:=⟨[.val (.slice .int),.val (.slice .int)],[.bool],false,fun _=>[],fun d=>(decide (d.1=d.2.1),())⟩
def jlN:Ann:=fun r=>match r with
 |4=>some fun σ=>{X:=Nat,sl:=fun i=>[(5,.dat .int (i:Int))],ob:=fun _=>[],inv:=fun i=>i<=(gd (.slice .int) σ 0).length/\∀j:Nat,j<i->nth (gd (.slice .int) σ 0) j=nth (gd (.slice .int) σ 1) j,mu:=fun i=>(gd (.slice .int) σ 0).length-i}
 |_=>none
def jk9:Prop:=∀(d:List Int×List Int×Unit),d.1.length<4611686018427387904->d.2.1.length<4611686018427387904->(decide ((d.1.length:Int)≠(d.2.1.length:Int))=true->(false,())=(decide (d.1=d.2.1),()))/\(decide ((d.1.length:Int)≠(d.2.1.length:Int))=false->(∃(x:Nat),((0=(x:Int)/\True)/\True)/\x<=d.1.length/\∀(j:Nat),j<x->nth d.1 j=nth d.2.1 j)/\∀(x:Nat),(x<=d.1.length/\∀(j:Nat),j<x->nth d.1 j=nth d.2.1 j)->d.1.length<4611686018427387904->(decide ((x:Int)<(d.1.length:Int))=true->0<=(x:Int)/\(x:Int)<(d.1.length:Int)/\0<=(x:Int)/\(x:Int)<(d.2.1.length:Int)/\(decide (nth d.1 (x:Int).toNat≠nth d.2.1 (x:Int).toNat)=true->(false,())=(decide (d.1=d.2.1),()))/\(decide (nth d.1 (x:Int).toNat≠nth d.2.1 (x:Int).toNat)=false->jw ((x:Int)+1)/\∃(a:Nat),(((x:Int)+1=(a:Int)/\True)/\True)/\(a<=d.1.length/\∀(j:Nat),j<a->nth d.1 j=nth d.2.1 j)/\d.1.length-a<d.1.length-x))/\(decide ((x:Int)<(d.1.length:Int))=false->(true,())=(decide (d.1=d.2.1),())))
def jxK:jT:=⟨[.val tCr],[.bool],false,fun _=>[],fun d=>(U.jbs d.1,())⟩
def jAm:Ann:=fun r=>match r with
 |4=>some fun σ=>{X:=Nat,sl:=fun i=>[(3,.dat .int (i:Int))],ob:=fun _=>[],inv:=fun i=>i<=(U.je (gb tCr σ 1)).length/\∀j:Nat,j<i->U.jrd (nth (U.je (gb tCr σ 1)) j)=false,mu:=fun i=>(U.je (gb tCr σ 1)).length-i}
 |_=>none
abbrev q124_0 (d:CrD×Unit)(x:Nat):=((20:Int)<(↑(nth d.1.2.1 (x:Int).toNat).1.length:Int))
abbrev q124_1 (d:CrD×Unit):=(d.1.2.1.length:Int)
abbrev q124_2 (d:CrD×Unit)(x:Nat):=(decide (q124_0 d x)||decide ((30:Int)<(↑(nth d.1.2.1 (x:Int).toNat).2.2.2.1.length:Int)))
abbrev q124_3 (d:CrD×Unit):=(decide (20<(q124_1 d))||decide (20<(d.1.2.2.1.length:Int)))
def jxl:Prop:=∀(d:CrD×Unit),d.1.2.1.length<4611686018427387904->((!decide (20<(q124_1 d)))=true->d.1.2.2.1.length<4611686018427387904)->((q124_3 d)=true->(true,())=(U.jbs d.1,()))/\((q124_3 d)=false->(∃(x:Nat),((0=(x:Int)/\True)/\True)/\x<=(U.je d.1).length/\∀(j:Nat),j<x->U.jrd (nth (U.je d.1) j)=false)/\∀(x:Nat),(x<=(U.je d.1).length/\∀(j:Nat),j<x->U.jrd (nth (U.je d.1) j)=false)->d.1.2.1.length<4611686018427387904->(decide ((x:Int)<(q124_1 d))=true->0<=(x:Int)/\(x:Int)<(q124_1 d)/\((nth d.1.2.1 (x:Int).toNat).1.length<4611686018427387904->((!decide (q124_0 d x))=true->0<=(x:Int))/\((!decide (q124_0 d x))=true->(x:Int)<(q124_1 d))/\(((!decide (q124_0 d x))=true->(nth d.1.2.1 (x:Int).toNat).2.2.2.1.length<4611686018427387904)->((q124_2 d x)=true->(true,())=(U.jbs d.1,()))/\((q124_2 d x)=false->jw ((x:Int)+1)/\∃(a:Nat),(((x:Int)+1=(a:Int)/\True)/\True)/\(a<=(U.je d.1).length/\∀(j:Nat),j<a->U.jrd (nth (U.je d.1) j)=false)/\(U.je d.1).length-a<(U.je d.1).length-x))))/\(decide ((x:Int)<(q124_1 d))=false->(U.jj d.1=true->d.1.2.1.length<4611686018427387904)->(U.jj d.1&&decide (5<(q124_1 d)),())=(U.jbs d.1,())))
def jvq:jT:=⟨[.val tDy],[.bool],false,fun _=>[],fun d=>(U.yi d.1,())⟩
def jwX:Ann:=fun r=>match r with
 |4=>some fun σ=>{X:=Nat,sl:=fun i=>[(3,.dat .int (i:Int))],ob:=fun _=>[],inv:=fun i=>i<=(U.jK (gb tDy σ 1)).length/\∀j:Nat,j<i->U.jrc (nth (U.jK (gb tDy σ 1)) j)=false,mu:=fun i=>(U.jK (gb tDy σ 1)).length-i}
 |_=>none
abbrev q125_1 (d:DyD×Unit):=(d.1.2.1.length:Int)
abbrev q125_0 (d:DyD×Unit):=(U.jbs d.1.1||decide (20<(q125_1 d))||decide (20<(d.1.2.2.1.length:Int))||decide (60<(d.1.2.2.2.2.2.1.length:Int)))
def ju5:Prop:=∀(d:DyD×Unit),((!U.jbs d.1.1)=true->d.1.2.1.length<4611686018427387904)->((!(U.jbs d.1.1||decide (20<(q125_1 d))))=true->d.1.2.2.1.length<4611686018427387904)->((!(U.jbs d.1.1||decide (20<(q125_1 d))||decide (20<(d.1.2.2.1.length:Int))))=true->d.1.2.2.2.2.2.1.length<4611686018427387904)->((q125_0 d)=true->(true,())=(U.yi d.1,()))/\((q125_0 d)=false->(∃(x:Nat),((0=(x:Int)/\True)/\True)/\x<=(U.jK d.1).length/\∀(j:Nat),j<x->U.jrc (nth (U.jK d.1) j)=false)/\∀(x:Nat),(x<=(U.jK d.1).length/\∀(j:Nat),j<x->U.jrc (nth (U.jK d.1) j)=false)->d.1.2.1.length<4611686018427387904->(decide ((x:Int)<(q125_1 d))=true->0<=(x:Int)/\(x:Int)<(q125_1 d)/\((nth d.1.2.1 (x:Int).toNat).length<4611686018427387904->(decide ((20:Int)<(↑(nth d.1.2.1 (x:Int).toNat).length:Int))=true->(true,())=(U.yi d.1,()))/\(decide ((20:Int)<(↑(nth d.1.2.1 (x:Int).toNat).length:Int))=false->jw ((x:Int)+1)/\∃(a:Nat),(((x:Int)+1=(a:Int)/\True)/\True)/\(a<=(U.jK d.1).length/\∀(j:Nat),j<a->U.jrc (nth (U.jK d.1) j)=false)/\(U.jK d.1).length-a<(U.jK d.1).length-x)))/\(decide ((x:Int)<(q125_1 d))=false->(false,())=(U.yi d.1,())))
def jxJ:jT:=⟨[.val tDy],[.bool],false,fun _=>[],fun d=>(U.jfX d.1,())⟩
def jxk:Prop:=∀(d:DyD×Unit),((!U.yi d.1)=true->(U.jm d.1).length<=1000000)/\(((!U.yi d.1&&decide (U.wG d.1=0))=true->d.1.2.2.2.2.2.1.length<4611686018427387904)->(U.yi d.1||decide (U.wG d.1=0)&&decide (12<(d.1.2.2.2.2.2.1.length:Int)),())=(U.jfX d.1,()))
def jvp:jT:=⟨[.val .int,.val .int],[tSp],false,fun _=>[],fun d=>((d.1,d.2.1,()),())⟩
def ju4:Prop:=∀(d:Int×Int×Unit),(d,())=(d,())
def jnb:jT:=⟨[],[tCr,.slice tJb],false,fun _=>[],fun _=>(U.jGI,U.jAF,())⟩
def jmU:Prop:=∀(d:Unit),(((3:Int),[([(5:Int),(4:Int),(0:Int)],(3:Int),(15:Int),[],false,(50:Int),()),([(0:Int),(5:Int),(3:Int)],(3:Int),(15:Int),[],true,(40:Int),()),([(4:Int),(0:Int),(4:Int)],(1:Int),(3:Int),[(7:Int)],false,(30:Int),()),([(3:Int),(3:Int),(3:Int)],(255:Int),(1:Int),[],false,(10:Int),())],[((2:Int),(1:Int),false,()),((4:Int),(2:Int),false,()),((3:Int),(2:Int),true,()),((5:Int),(1:Int),false,())],()),[((0:Int),(2:Int),(7:Int),(1:Int),(2:Int),(1:Int),()),((0:Int),(2:Int),(3:Int),(0:Int),(0:Int),(1:Int),()),((0:Int),(2:Int),(7:Int),(1:Int),(1:Int),(1:Int),())],())=(U.jGI,U.jAF,())
def jna:jT:=⟨[],[tDy],false,fun _=>[],fun _=>(U.jlH,())⟩
abbrev q129_0:=(nth U.jAF (Int.toNat 1))
def jmT:Prop:=∀(d:Unit),(0:Int)<=1/\1<(U.jAF.length:Int)/\(0:Int)<=1/\1<(U.jAF.length:Int)/\(0:Int)<=0/\0<(U.jAF.length:Int)/\((U.jGI,[[((0:Int),(0:Int),()),((10:Int),(20:Int),())],[((10:Int),(25:Int),()),((0:Int),(0:Int),())]],[(nth U.jAF (Int.toNat 1),(0:Int),(60:Int),(120:Int),()),((q129_0.1,q129_0.2.1,q129_0.2.2.1,(1:Int),q129_0.2.2.2.2),(1:Int),(150:Int),(200:Int),()),(nth U.jAF (Int.toNat 0),(0:Int),(230:Int),(300:Int),())],(10:Int),(140:Int),[((1:Int),(5:Int),(1:Int),(0:Int),(3:Int),()),((2:Int),(6:Int),(1:Int),(1:Int),(3:Int),()),((3:Int),(4:Int),(1:Int),(2:Int),(2:Int),()),((4:Int),(7:Int),(1:Int),(2:Int),(0:Int),()),((5:Int),(8:Int),(1:Int),(2:Int),(1:Int),()),((6:Int),(9:Int),(1:Int),(0:Int),(2:Int),()),((7:Int),(10:Int),(2:Int),(0:Int),(2:Int),())],()),())=(U.jlH,())
def jr0:jT:=⟨[],[.bool],false,fun _=>[],fun _=>(true,())⟩
def jrA:Prop:=∀(d:Unit),(U.kl U.jlH).length<=100000/\(U.kl U.jlH).length<=100000/\(U.kl U.jlH).length<=100000/\(decide (U.ju U.jlH=0)&&decide (U.ju U.jlH=0)&&decide (U.kd U.jlH=0)&&decide (U.jbD U.jlH=[(8:Int),(8:Int),(3:Int)])&&decide (U.jbR U.jlH=[(3:Int)])&&decide (U.jo U.jlH=[(8:Int),(8:Int),(3:Int)])&&decide (U.wc U.jlH=110),())=(true,())
end Go.X
namespace Go.X
open Go.Proofs
theorem jzw:jvh:=by
 unfold jvh q121_0;rintro⟨c,⟨⟩⟩ g;obtain⟨m,j,a⟩:U.jnj c:=g;refine⟨by show(0+(U.kX c).length)*24<=140737488355328;omega,⟨0,⟨⟨rfl,trivial⟩,⟨rfl,trivial,trivial,trivial⟩,rfl,trivial⟩,jG7 _⟩,fun x f _=>⟨fun h=> ?_,fun h=> ?_⟩⟩
 .have h:(x:Int)<((U.je c).length:Int):=of_decide_eq_true h;have k:=L.take_succ (l:=U.je c) (i:=x) (by omega);obtain⟨s1,s2⟩:=a _ (L.mem_nth (l:=U.je c) (i:=x) (by omega));have d:((U.je c).take x).length<=20:=(by rw[jHv];omega);refine⟨jHi _,h,by show(0+(U.lv (nth (U.je c) x)).length)*8<=140737488355328;omega,by show(0+(U.zF (nth (U.je c) x)).length)*8<=140737488355328;omega,by show(((U.je c).take x).length+1)*80<=140737488355328;omega,L.in64 (by omega) (by omega),x+1,⟨⟨by simp,trivial⟩,⟨rfl,trivial,trivial,trivial⟩,k.symm,trivial⟩,by show x+1<=(U.je c).length;omega,by show(U.je c).length-(x+1)<(U.je c).length-x;omega⟩
 .have h:¬(x:Int)<((U.je c).length:Int):=of_decide_eq_false h;have f:x<=(U.je c).length:=f;have b:x=(U.je c).length:=(by omega);subst b;have e:(U.je c).take (U.je c).length=U.je c:=jHS;show((c.1,(U.je c).take (U.je c).length,c.2.2.1,()),())=(c,());rw[e];rfl
theorem jvX:zk PR 43 jvC:=kI jw3 jzw Tryz.func43 kcN koN
theorem jzs:jvd:=by
 unfold jvd q122_0;rintro⟨d,⟨⟩⟩ g;obtain⟨k,o,j,n,a⟩:U.jji d:=g;refine⟨k,⟨0,⟨⟨rfl,trivial⟩,⟨rfl,rfl,rfl,trivial,rfl,rfl,rfl,rfl,trivial⟩,rfl,trivial⟩,jG7 _⟩,fun x f _=>⟨fun h=> ?_,fun h=> ?_⟩⟩
 .have h:(x:Int)<((U.jK d).length:Int):=of_decide_eq_true h;have m:=L.take_succ (l:=U.jK d) (i:=x) (by omega);have p:=a _ (L.mem_nth (l:=U.jK d) (i:=x) (by omega));have c:((U.jK d).take x).length<=20:=(by rw[jHv];omega);refine⟨jHi _,h,by show(0+(nth (U.jK d) x).length)*16<=140737488355328;omega,by show(((U.jK d).take x).length+1)*24<=140737488355328;omega,L.in64 (by omega) (by omega),x+1,⟨⟨by simp,trivial⟩,⟨rfl,rfl,rfl,trivial,rfl,rfl,rfl,rfl,trivial⟩,m.symm,trivial⟩,by show x+1<=(U.jK d).length;omega,by show(U.jK d).length-(x+1)<(U.jK d).length-x;omega⟩
 .have h:¬(x:Int)<((U.jK d).length:Int):=of_decide_eq_false h;have f:x<=(U.jK d).length:=f;have b:x=(U.jK d).length:=(by omega);subst b;have e:(U.jK d).take (U.jK d).length=U.jK d:=jHS;refine⟨by show(0+(U.jm d).length)*72<=140737488355328;omega,by show(0+(U.kl d).length)*40<=140737488355328;omega,?_⟩;show((U.jc d,(U.jK d).take (U.jK d).length,U.jm d,U.jfe d,U.jrs d,U.kl d,()),())=(d,());rw[e];rfl
theorem jvU:zk PR 18 jvy:=kI jw0 jzs Tryz.func18 (kcC jvX kcN) koN
theorem jn7:jk9:=by
 rintro⟨a,b,⟨⟩⟩ _ l;refine⟨fun h=> ?_,fun h=>⟨⟨0,⟨⟨rfl,trivial⟩,trivial⟩,jG7 _,fun j k=>by omega⟩,fun x g f=>⟨fun c=>⟨jHi _,of_decide_eq_true c,jHi _,?_,fun d=> ?_,fun d=> ?_⟩,fun c=> ?_⟩⟩⟩
 .have h:(a.length:Int)≠(b.length:Int):=of_decide_eq_true h;have:¬a=b:=fun e=>h (by rw[e])
  show(false,())=(decide (a=b),());rw[decide_eq_false this]
 .have h:(a.length:Int)=(b.length:Int):=Classical.not_not.1 (of_decide_eq_false h);have c:(x:Int)<(a.length:Int):=of_decide_eq_true c;show(x:Int)<(b.length:Int);omega
 .have d:nth a x≠nth b x:=of_decide_eq_true d;have:¬a=b:=fun e=>d (by rw[e])
  show(false,())=(decide (a=b),());rw[decide_eq_false this]
 .have c:(x:Int)<(a.length:Int):=of_decide_eq_true c;have d:nth a x=nth b x:=Classical.not_not.1 (of_decide_eq_false d);have f:a.length<4611686018427387904:=f;refine⟨L.in64 (by omega) (by omega),x+1,⟨⟨by simp,trivial⟩,trivial⟩,⟨by show x+1<=a.length;omega,fun j k=> ?_⟩,by show a.length-(x+1)<a.length-x;omega⟩;by_cases e:j=x
  .subst e;exact d
  .exact g.2 j (by omega)
 .have h:(a.length:Int)=(b.length:Int):=Classical.not_not.1 (of_decide_eq_false h);have c:¬(x:Int)<(a.length:Int):=of_decide_eq_false c;have e:a=b:=L.ext_nth (by omega) fun i hi=>g.2 i (by omega)
  show(true,())=(decide (a=b),());rw[decide_eq_true e]
theorem jdm:zk PR 21 jlg:=kI jlN jn7 Tryz.func21 kcN koN
theorem jBK:jxl:=by
 unfold jxl q124_3 q124_2 q124_1 q124_0;rintro⟨c,⟨⟩⟩ _ _;refine⟨fun h=> ?_,fun h=>⟨⟨0,⟨⟨rfl,trivial⟩,trivial⟩,jG7 _,fun j g=>by omega⟩,fun x f d=>⟨fun a=>⟨jHi _,of_decide_eq_true a,fun _=>⟨fun _=>jHi _,fun _=>of_decide_eq_true a,fun _=>⟨fun b=> ?_,fun b=> ?_⟩⟩⟩,fun a _=> ?_⟩⟩⟩
 .have h:(decide (20<((U.je c).length:Int))||decide (20<((U.kX c).length:Int)))=true:=h;show(true,())=(U.jbs c,());unfold U.jbs;rw[h];rfl
 .have b:U.jrd (nth (U.je c) x)=true:=b;have a:(x:Int)<((U.je c).length:Int):=of_decide_eq_true a;have:(U.je c).any U.jrd=true:=jHG.2 ⟨_,L.mem_nth (l:=U.je c) (i:=x) (by omega),b⟩;show(true,())=(U.jbs c,());unfold U.jbs;rw[this,Bool.true_or,Bool.or_true]
 .have b:U.jrd (nth (U.je c) x)=false:=b;have a:(x:Int)<((U.je c).length:Int):=of_decide_eq_true a;have d:(U.je c).length<4611686018427387904:=d;refine⟨L.in64 (by omega) (by omega),x+1,⟨⟨by simp,trivial⟩,trivial⟩,⟨by show x+1<=(U.je c).length;omega,fun j g=> ?_⟩,by show(U.je c).length-(x+1)<(U.je c).length-x;omega⟩;by_cases e:j=x
  .subst e;exact b
  .exact f.2 j (by omega)
 .have h:(decide (20<((U.je c).length:Int))||decide (20<((U.kX c).length:Int)))=false:=h;have a:¬(x:Int)<((U.je c).length:Int):=of_decide_eq_false a;have:(U.je c).any U.jrd=false:=jHJ.2 fun p k=>by
   obtain⟨i,hi,rfl⟩:=L.mem_iff.1 k;rw[f.2 i (by omega)];simp
  show(U.jj c&&decide (5<((U.je c).length:Int)),())=(U.jbs c,());unfold U.jbs;rw[h,this,Bool.false_or,Bool.false_or]
theorem jyC:zk PR 93 jxK:=kI jAm jBK Tryz.func93 (kcC jhs kcN) koN
theorem jzk:ju5:=by
 unfold ju5 q125_0 q125_1;rintro⟨d,⟨⟩⟩ _ _ _;refine⟨fun h=> ?_,fun h=>⟨⟨0,⟨⟨rfl,trivial⟩,trivial⟩,jG7 _,fun j g=>by omega⟩,fun x f c=>⟨fun a=>⟨jHi _,of_decide_eq_true a,fun _=>⟨fun b=> ?_,fun b=> ?_⟩⟩,fun a=> ?_⟩⟩⟩
 .have h:(((U.jbs (U.jc d)||decide (20<((U.jK d).length:Int)))||decide (20<((U.jm d).length:Int)))||decide (60<((U.kl d).length:Int)))=true:=h;show(true,())=(U.yi d,());unfold U.yi;rw[h];rfl
 .have b:U.jrc (nth (U.jK d) x)=true:=b;have a:(x:Int)<((U.jK d).length:Int):=of_decide_eq_true a;have:(U.jK d).any U.jrc=true:=jHG.2 ⟨_,L.mem_nth (l:=U.jK d) (i:=x) (by omega),b⟩;show(true,())=(U.yi d,());unfold U.yi;rw[this,Bool.or_true]
 .have b:U.jrc (nth (U.jK d) x)=false:=b;have a:(x:Int)<((U.jK d).length:Int):=of_decide_eq_true a;have c:(U.jK d).length<4611686018427387904:=c;refine⟨L.in64 (by omega) (by omega),x+1,⟨⟨by simp,trivial⟩,trivial⟩,⟨by show x+1<=(U.jK d).length;omega,fun j g=> ?_⟩,by show(U.jK d).length-(x+1)<(U.jK d).length-x;omega⟩;by_cases e:j=x
  .subst e;exact b
  .exact f.2 j (by omega)
 .have h:(((U.jbs (U.jc d)||decide (20<((U.jK d).length:Int)))||decide (20<((U.jm d).length:Int)))||decide (60<((U.kl d).length:Int)))=false:=h;have a:¬(x:Int)<((U.jK d).length:Int):=of_decide_eq_false a;have:(U.jK d).any U.jrc=false:=jHJ.2 fun p k=>by
   obtain⟨i,hi,rfl⟩:=L.mem_iff.1 k;rw[f.2 i (by omega)];simp
  show(false,())=(U.yi d,());unfold U.yi;rw[h,this];rfl
theorem jvO:zk PR 58 jvq:=kI jwX jzk Tryz.func58 (kcC jyC kcN) koN
theorem jzH {c:CrD} (h:U.jbs c=false):U.jnj c:=by
 unfold U.jbs at h;rw[jHp,jHp,jHp,decide_eq_false_iff_not] at h;have b:=of_decide_eq_false h.1.2;refine⟨by have:=h.1.1;omega,by omega,fun p a=> ?_⟩;have:=jHJ.1 h.2.1 p a;unfold U.jrd at this;rw[jH5,decide_eq_true_iff,decide_eq_true_iff] at this;unfold U.jGd;omega
theorem jmm {d:DyD} (h:U.yi d=false):U.jji d:=by
 unfold U.yi at h;rw[jHp,jHp,jHp,jHp] at h;obtain⟨⟨⟨⟨e,a⟩,b⟩,c⟩,f⟩:=h;have a:=of_decide_eq_false a;have b:=of_decide_eq_false b;have c:=of_decide_eq_false c;refine⟨jzH e,by omega,by omega,by omega,fun r g=> ?_⟩;have:=jHJ.1 f r g;unfold U.jrc at this;rw[decide_eq_true_iff] at this;omega
theorem jBJ:jxk:=by
 rintro⟨d,⟨⟩⟩;refine⟨fun h=> ?_,fun _=>rfl⟩;have h:(!U.yi d)=true:=h;rw[jHw] at h;have:=(jmm h).2.2.1;show(U.jm d).length<=1000000;omega
theorem jyB:zk PR 31 jxJ:=jU jBJ Tryz.func31 (kcC jvO (kcC jd6 kcN)) koN
theorem jzj:ju4:=fun _=>rfl
theorem jvN:zk PR 64 jvp:=jU jzj Tryz.func64 kcN koN
theorem jqw:jmU:=fun _=>rfl
theorem jnK:zk PR 63 jnb:=jU jqw Tryz.func63 kcN koN
theorem jqv:jmT:=by
 unfold jmT q129_0;intro _;refine⟨by decide,by decide,by decide,by decide,by decide,by decide,rfl⟩
theorem jnJ:zk PR 33 jna:=jU jqv Tryz.func33 (kcC jnK (kcC jvN kcN)) koN
theorem jzL:U.wG U.jlH=0:=by decide+kernel
theorem jFI:(U.joL U.jlH).1=[8,8,3]:=by decide+kernel
theorem jFJ:U.jfh (U.joL U.jlH).2 100=[3]:=by decide+kernel
theorem jzK:(U.jEW U.jlH).2=([8,8,3],110,true):=by decide+kernel
theorem jv9:jrA:=by
 intro _;refine⟨by decide,by decide,by decide,?_⟩;have b:U.ju U.jlH=0:=(qi _).trans jzL;have c:U.jbD U.jlH=[8,8,3]:=(by rw[jxu,if_pos jzL];exact jFI);have d:U.jbR U.jlH=[3]:=(by rw[jyd,if_pos jzL];exact jFJ);have a:U.kd U.jlH=0:=(by unfold U.kd;rw[if_pos b,jzK,if_pos rfl]);have e:U.jo U.jlH=[8,8,3]:=(by unfold U.jo;rw[if_pos a,jzK]);have f:U.wc U.jlH=110:=(by unfold U.wc;rw[if_pos a,jzK]);rw[b,c,d,a,e,f];rfl
theorem jsD:zk PR 8 jr0:=jU jv9 Tryz.func8 (kcC jnJ (kcC jdm (kcC jma (kcC jhr (kcC jqb kcN))))) koN
theorem jon {d:DyD} (h:U.jfX d=false):U.jji d:=by
 unfold U.jfX at h;rw[jHp] at h;exact jmm h.1
end Go.X
namespace Go.X
open Go.Proofs
namespace U
def jwU (d:DyD) (t:List Int) (b:Nat):Bool:=qg (jc d) (vJ (nth (jm d) b)) (nth t b)
def jwV (d:DyD) (t:List Int) (p:Nat):Bool:=zg d (p:Int) (on t (p:Int))
def jP (d:DyD) (t:List Int):Bool:=(List.range t.length).all (jwU d t)&&(List.range (je (jc d)).length).all (jwV d t)
def wI (d:DyD) (t:List Int) (n:Nat):Int:=(List.range n).foldl (fun s b=>s+jg7 (jc d) (nth t b)) 0
def j9 (d:DyD) (t:List Int):Int:=wI d t t.length
def qy (d:DyD):Nat->List Int->List (List Int)
 |0,_=>[]
 |k+1,t=>if jP d t=true then(if t.length=(jm d).length then[t] else(List.range (2^(je (jc d)).length-1)).flatMap (fun(i:Nat)=>qy d k (t++[(i:Int)+1]))) else[]
def jCM (d:DyD) (k:Nat) (t:List Int) (n:Nat):List (List Int):=(List.range n).flatMap (fun(i:Nat)=>qy d k (t++[(i:Int)+1]))
def jvY (d:DyD) (t:List Int):Prop:=t.length<=(jm d).length/\∀x∈t,jxb x
def kW (d:DyD) (l:List (List Int)) (n:Nat):List Int×Int:=(List.range n).foldl (fun x i=>if j9 d (nth l i)<x.2 then(nth l i,j9 d (nth l i)) else x) (nth l 0,j9 d (nth l 0))
def jnA (d:DyD):List (List Int):=qy d 5 []
def jCQ (d:DyD):Int:=if wG d=0 then(if(jnA d).length=0 then 3 else 0) else wG d
def jGi (d:DyD):List Int:=if jCQ d=0 then(kW d (jnA d) (jnA d).length).1 else[]
def jGh (d:DyD):Int:=if jCQ d=0 then(kW d (jnA d) (jnA d).length).2 else 0
def jmB (d:DyD):Bool:=decide (wG d=0)&&(decide (4<((je (jc d)).length:Int))||decide (3<((jm d).length:Int)))
end U
def jnc:jT:=⟨[.val tDy,.val (.slice .int)],[.bool],false,fun d=>[U.vK d.1,U.jvY d.1 d.2.1],fun d=>(U.jP d.1 d.2.1,())⟩
def joE:Ann:=fun r=>match r with
 |2=>some fun σ=>{X:=Nat,sl:=fun b=>[(5,.dat .int (b:Int))],ob:=fun _=>[],inv:=fun b=>b<=(gd (.slice .int) σ 1).length/\∀j:Nat,j<b->U.jwU (gb tDy σ 2) (gd (.slice .int) σ 1) j=true,mu:=fun b=>(gd (.slice .int) σ 1).length-b}
 |7=>some fun σ=>{X:=Nat,sl:=fun p=>[(6,.dat .int (p:Int))],ob:=fun _=>[],inv:=fun p=>p<=(U.je (U.jc (gb tDy σ 2))).length/\∀j:Nat,j<p->U.jwV (gb tDy σ 2) (gd (.slice .int) σ 1) j=true,mu:=fun p=>(U.je (U.jc (gb tDy σ 2))).length-p}
 |_=>none
def jmY:Prop:=∀(d:DyD×List Int×Unit),U.vK d.1->U.jvY d.1 d.2.1->(∃(x:Nat),((0=(x:Int)/\True)/\True)/\x<=d.2.1.length/\∀(j:Nat),j<x->U.jwU d.1 d.2.1 j=true)/\∀(x:Nat),(x<=d.2.1.length/\∀(j:Nat),j<x->U.jwU d.1 d.2.1 j=true)->d.2.1.length<4611686018427387904->(decide ((x:Int)<(d.2.1.length:Int))=true->0<=(x:Int)/\(x:Int)<(d.1.2.2.1.length:Int)/\0<=(x:Int)/\(x:Int)<(d.2.1.length:Int)/\U.jj d.1.1=true/\U.jQ d.1.1 (nth d.1.2.2.1 (x:Int).toNat).1=true/\U.jxb (nth d.2.1 (x:Int).toNat)/\((!U.qg d.1.1 (nth d.1.2.2.1 (x:Int).toNat).1 (nth d.2.1 (x:Int).toNat))=true->(false,())=(U.jP d.1 d.2.1,()))/\((!U.qg d.1.1 (nth d.1.2.2.1 (x:Int).toNat).1 (nth d.2.1 (x:Int).toNat))=false->jw ((x:Int)+1)/\∃(a:Nat),(((x:Int)+1=(a:Int)/\True)/\True)/\(a<=d.2.1.length/\∀(j:Nat),j<a->U.jwU d.1 d.2.1 j=true)/\d.2.1.length-a<d.2.1.length-x))/\(decide ((x:Int)<(d.2.1.length:Int))=false->(∃(x:Nat),((0=(x:Int)/\True)/\True)/\x<=(U.je (U.jc d.1)).length/\∀(j:Nat),j<x->U.jwV d.1 d.2.1 j=true)/\∀(x:Nat),(x<=(U.je (U.jc d.1)).length/\∀(j:Nat),j<x->U.jwV d.1 d.2.1 j=true)->d.1.1.2.1.length<4611686018427387904->(decide ((x:Int)<(d.1.1.2.1.length:Int))=true->d.2.1.length<=1000/\(0<=(x:Int)/\(x:Int)<=63)/\U.vK d.1/\U.joN d.1 (x:Int)/\U.jib d.1 (U.on d.2.1 (x:Int))/\((!U.zg d.1 (x:Int) (U.on d.2.1 (x:Int)))=true->(false,())=(U.jP d.1 d.2.1,()))/\((!U.zg d.1 (x:Int) (U.on d.2.1 (x:Int)))=false->jw ((x:Int)+1)/\∃(a:Nat),(((x:Int)+1=(a:Int)/\True)/\True)/\(a<=(U.je (U.jc d.1)).length/\∀(j:Nat),j<a->U.jwV d.1 d.2.1 j=true)/\(U.je (U.jc d.1)).length-a<(U.je (U.jc d.1)).length-x))/\(decide ((x:Int)<(d.1.1.2.1.length:Int))=false->(true,())=(U.jP d.1 d.2.1,())))
def jvx:jT:=⟨[.val tDy,.val (.slice .int)],[.int],false,fun d=>[U.vK d.1,d.2.1.length<=100],fun d=>(U.j9 d.1 d.2.1,())⟩
def jwZ:Ann:=fun r=>match r with
 |3=>some fun σ=>{X:=Nat,sl:=fun b=>[(6,.dat .int (b:Int)),(5,.dat .int (U.wI (gb tDy σ 2) (gd (.slice .int) σ 1) b))],ob:=fun _=>[],inv:=fun b=>b<=(gd (.slice .int) σ 1).length,mu:=fun b=>(gd (.slice .int) σ 1).length-b}
 |_=>none
def jvc:Prop:=∀(d:DyD×List Int×Unit),U.vK d.1->d.2.1.length<=100->(∃(x:Nat),((0=(x:Int)/\0=U.wI d.1 d.2.1 x/\True)/\True)/\x<=d.2.1.length)/\∀(x:Nat),x<=d.2.1.length->d.2.1.length<4611686018427387904->(decide ((x:Int)<(d.2.1.length:Int))=true->0<=(x:Int)/\(x:Int)<(d.2.1.length:Int)/\U.jj d.1.1=true/\jw (U.wI d.1 d.2.1 x+U.jg7 d.1.1 (nth d.2.1 (x:Int).toNat))/\jw ((x:Int)+1)/\∃(a:Nat),(((x:Int)+1=(a:Int)/\U.wI d.1 d.2.1 x+U.jg7 d.1.1 (nth d.2.1 (x:Int).toNat)=U.wI d.1 d.2.1 a/\True)/\True)/\a<=d.2.1.length/\d.2.1.length-a<d.2.1.length-x)/\(decide ((x:Int)<(d.2.1.length:Int))=false->(U.wI d.1 d.2.1 x,())=(U.j9 d.1 d.2.1,()))
def jm9:jT:=⟨[.val tDy],[.bool],false,fun d=>[(U.jm d.1).length<=1000000],fun d=>(U.jmB d.1,())⟩
def jmS:Prop:=∀(d:DyD×Unit),(U.jm d.1).length<=1000000->(U.jm d.1).length<=1000000/\((decide (U.wG d.1=0)=true->d.1.1.2.1.length<4611686018427387904)->((decide (U.wG d.1=0)&& !decide (4<(d.1.1.2.1.length:Int)))=true->d.1.2.2.1.length<4611686018427387904)->(decide (U.wG d.1=0)&&(decide (4<(d.1.1.2.1.length:Int))||decide (3<(d.1.2.2.1.length:Int))),())=(U.jmB d.1,()))
end Go.X
namespace Go.X
open Go.Proofs
theorem jwT {d:DyD} {t:List Int} {x:Nat} (a:x<t.length) (h:U.jwU d t x=false):U.jP d t=false:=by
 unfold U.jP;have:(List.range t.length).all (U.jwU d t)=false:=jHZ.2 ⟨x,jG4.2 a,by rw[h];simp⟩;rw[this];rfl
theorem jAk {d:DyD} {t:List Int} {x:Nat} (a:x<(U.je (U.jc d)).length) (h:U.jwV d t x=false):U.jP d t=false:=by
 unfold U.jP;have:(List.range (U.je (U.jc d)).length).all (U.jwV d t)=false:=jHZ.2 ⟨x,jG4.2 a,by rw[h];simp⟩;rw[this,Bool.and_false]
theorem jAi {d:DyD} {t:List Int} (b:∀j:Nat,j<t.length->U.jwU d t j=true) (c:∀j:Nat,j<(U.je (U.jc d)).length->U.jwV d t j=true):U.jP d t=true:=by
 unfold U.jP;rw[jGW,jHg,jHg];exact⟨fun j a=>b j (jG4.1 a),fun j a=>c j (jG4.1 a)⟩
section
attribute [local irreducible] U.jP U.qg U.zg U.on U.vK U.jxb
theorem jqA:jmY:=by
 rintro⟨d,t,⟨⟩⟩ g v;have g:U.vK d:=g;have f:=g;unfold U.vK at f;obtain⟨w,m⟩:U.jvY d t:=v;have z:(U.je (U.jc d)).length<=8:=(jA f.1).2.2.1;have s:(U.jm d).length<=4:=(zc f.2.2).1;refine⟨⟨0,⟨⟨rfl,trivial⟩,trivial⟩,jG7 _,fun j k=>by omega⟩,fun x o A=>⟨fun h=> ?_,fun h=>⟨⟨0,⟨⟨rfl,trivial⟩,trivial⟩,jG7 _,fun j k=>by omega⟩,fun y q _=>⟨fun a=> ?_,fun a=> ?_⟩⟩⟩⟩
 .have h:(x:Int)<(t.length:Int):=of_decide_eq_true h;have x0:(0:Int)<=(x:Int):=jHi x;have n:(x:Int)<((U.jm d).length:Int):=(by omega);refine⟨x0,n,x0,h,f.1,jy8 g (by omega),m _ (L.mem_nth (l:=t) (i:=x) (by omega)),fun a=> ?_,fun a=>⟨L.in64 (by omega) (by omega),x+1,⟨⟨by simp,trivial⟩,trivial⟩,⟨by show x+1<=t.length;omega,fun j k=> ?_⟩,by show t.length-(x+1)<t.length-x;omega⟩⟩
  .have a:(!U.jwU d t x)=true:=a;rw[jHw] at a;have e:=jwT (d:=d) (t:=t) (x:=x) (by omega) a;show(false,())=(U.jP d t,());rw[e]
  .have a:(!U.jwU d t x)=false:=a;rw[jHC] at a;by_cases e:j=x
   .subst e;exact a
   .exact o.2 j (by omega)
 .have a:(y:Int)<((U.je (U.jc d)).length:Int):=of_decide_eq_true a;have r:(0:Int)<=(y:Int):=jHi y;have B:=jFe t (y:Int);refine⟨by show t.length<=1000;omega,⟨r,by omega⟩,g,⟨r,a⟩,⟨by show(U.on t (y:Int)).length<=12;omega,fun c u=> ?_⟩,fun b=> ?_,fun b=>⟨L.in64 (by omega) (by omega),y+1,⟨⟨by simp,trivial⟩,trivial⟩,⟨by show y+1<=(U.je (U.jc d)).length;omega,fun j k=> ?_⟩,by show(U.je (U.jc d)).length-(y+1)<(U.je (U.jc d)).length-y;omega⟩⟩
  .have:=jup (t:=t) (p:=(y:Int)) u;exact⟨this.1,by show c<((U.jm d).length:Int);omega⟩
  .have b:(!U.jwV d t y)=true:=b;rw[jHw] at b;have e:=jAk (d:=d) (t:=t) (x:=y) (by omega) b;show(false,())=(U.jP d t,());rw[e]
  .have b:(!U.jwV d t y)=false:=b;rw[jHC] at b;by_cases e:j=y
   .subst e;exact b
   .exact q.2 j (by omega)
 .have h:¬(x:Int)<(t.length:Int):=of_decide_eq_false h;have a:¬(y:Int)<((U.je (U.jc d)).length:Int):=of_decide_eq_false a;have e:=jAi (d:=d) (t:=t) (fun j k=>o.2 j (by omega)) (fun j k=>q.2 j (by omega));show(true,())=(U.jP d t,());rw[e]
end
theorem jnN:zk PR 16 jnc:=kI joE jqA Tryz.func16 (kcC jvW (kcC jBk (kcC jsK kcN))) koN
theorem jg6 {c:CrD} (h:U.jj c=true) (t:Int):0<=U.jg7 c t/\U.jg7 c t<=8000:=by
 have b:(U.je c).length<=8:=(jA h).2.2.1;have:∀n,n<=(U.je c).length->0<=U.zR c t n/\U.zR c t n<=1000*(n:Int):=by
  intro n
  induction n with
  |zero=>intro _;show(0:Int)<=0/\(0:Int)<=_;omega
  |succ n a=>
   intro f;have a:=a (by omega);have d:=jfW h (i:=n) (by omega);have e:U.zR c t (n+1)=if U.jG t (n:Int)=true then U.zR c t n+U.fe (nth (U.je c) n) else U.zR c t n:=by
    unfold U.zR;rw[jHn,jHh];rfl
   rw[e]
   split<;>omega
 have:=this _ (jGY _);unfold U.jg7;omega
theorem yn (d:DyD) (t:List Int) (n:Nat):U.wI d t (n+1)=U.wI d t n+U.jg7 (U.jc d) (nth t n):=by
 unfold U.wI;rw[jHn,jHh];rfl
theorem jhG {d:DyD} (h:U.jj (U.jc d)=true) (t:List Int):∀n,0<=U.wI d t n/\U.wI d t n<=8000*(n:Int)
 |0=>by show(0:Int)<=0/\(0:Int)<=_;omega
 |n+1=>by
  have a:=jhG h t n
  have:=jg6 h (nth t n)
  rw[yn];omega
section
attribute [local irreducible] U.wI U.jg7
theorem jco (d:DyD) (t:List Int):U.wI d t 0=0:=by unfold U.wI;rfl
theorem jzr:jvc:=by
 rintro⟨d,t,⟨⟩⟩ a c;have a:U.vK d:=a;have c:t.length<=100:=c;refine⟨⟨0,⟨⟨rfl,(jco _ _).symm,trivial⟩,trivial⟩,jG7 _⟩,fun x e _=>⟨fun h=> ?_,fun h=> ?_⟩⟩
 .have h:(x:Int)<(t.length:Int):=of_decide_eq_true h;have f:=jhG a.1 t x;have g:=jg6 a.1 (nth t x);exact⟨jHi _,h,a.1,by show jw (U.wI d t x+U.jg7 (U.jc d) (nth t x));exact L.in64 (by omega) (by omega),L.in64 (by omega) (by omega),x+1,⟨⟨by simp,(yn d t x).symm,trivial⟩,trivial⟩,by show x+1<=t.length;omega,by show t.length-(x+1)<t.length-x;omega⟩
 .have h:¬(x:Int)<(t.length:Int):=of_decide_eq_false h;have e:x<=t.length:=e;have b:x=t.length:=(by omega);subst b;rfl
end
theorem jvT:zk PR 17 jvx:=kI jwZ jzr Tryz.func17 (kcC jyF kcN) koN
theorem jgH (d:DyD) (k:Nat) (t:List Int):U.qy d (k+1) t=if U.jP d t=true then(if t.length=(U.jm d).length then[t] else U.jCM d k t (2^(U.je (U.jc d)).length-1)) else[]:=rfl
section
attribute [local irreducible] U.qy U.jCM U.jP U.vK U.jxb
end
theorem jkX (d:DyD) (l:List (List Int)) (n:Nat):U.kW d l (n+1)=if U.j9 d (nth l n)<(U.kW d l n).2 then(nth l n,U.j9 d (nth l n)) else U.kW d l n:=by
 unfold U.kW;rw[jHn,jHh];rfl
theorem jtH (d:DyD) (l:List (List Int)):U.kW d l 0=(nth l 0,U.j9 d (nth l 0)):=rfl
section
attribute [local irreducible] U.qy U.kW U.j9 U.wG U.jGi U.jGh U.jCQ U.vK
end
theorem jqu:jmS:=by
 rintro⟨d,⟨⟩⟩ a;exact⟨a,fun _ _=>rfl⟩
theorem jnH:zk PR 14 jm9:=jU jqu Tryz.func14 (kcC jd6 kcN) koN
end Go.X
namespace Go.X
def upd (d:DyD) (x:List Int×Int×Bool) (l:List Int):List Int×Int×Bool:=if(x.2.2&&decide (x.2.1<=U.j9 d l))=true then x else(l,U.j9 d l,true)
theorem jtV (d:DyD) (l:List (List Int)):∀n,n<=l.length->0<n->(l.take n).foldl (upd d) (U.vn,0,false)=((U.kW d l n).1,(U.kW d l n).2,true)
 |0,_,h=>absurd h (by omega)
 |1,b,_=>by
  rw[L.take_succ (by omega),jHh]
  have a:U.kW d l 1=(nth l 0,U.j9 d (nth l 0)):=by
   rw[jkX,jtH];show(if U.j9 d (nth l 0)<U.j9 d (nth l 0) then _ else _)=_;rw[if_neg (by omega)]
  rw[a];rfl
 |n+2,b,_=>by
  have e:=jtV d l (n+1) (by omega) (by omega);have c:U.kW d l (n+2)=if U.j9 d (nth l (n+1))<(U.kW d l (n+1)).2 then(nth l (n+1),U.j9 d (nth l (n+1))) else U.kW d l (n+1):=jkX d l (n+1);rw[L.take_succ (by omega),jHh,e,c];generalize U.kW d l (n+1)=B;show upd d (B.1,B.2,true) (nth l (n+1))=_;unfold upd;by_cases h:U.j9 d (nth l (n+1))<B.2
  .rw[if_pos h,if_neg (by simp;omega)]
  .rw[if_neg h,if_pos (by simp;omega)]
theorem jfx {a b:List Int} {i:Nat} (h:i<a.length):nth (a++b) i=nth a i:=by
 rw[L.nth_lt (by rw[jHk];omega),L.nth_lt h,List.getElem_append_left h]
theorem jnS (a:List Int) (x:Int):nth (a++[x]) a.length=x:=by
 rw[L.nth_lt (by simp)];simp
theorem jCa (d:DyD):U.j9 d []=0:=rfl
theorem jtz (d:DyD) (a b:List Int) (n:Nat) (e:n<=a.length):U.wI d (a++b) n=U.wI d a n:=by
 induction n with
 |zero=>rw[jco,jco]
 |succ n c=>rw[yn,yn,c (by omega),jfx (by omega)]
theorem jq5 (d:DyD) (a:List Int) (x:Int):U.j9 d (a++[x])=U.j9 d a+U.jg7 (U.jc d) x:=by
 unfold U.j9;have:(a++[x]).length=a.length+1:=(by simp);rw[this,yn,jtz d a [x] _ (jGY _),jnS]
theorem jCb {d:DyD} (h:U.jj (U.jc d)=true) (a:List Int):∀b:List Int,U.j9 d a<=U.j9 d (a++b):=by
 intro b
 induction b generalizing a with
 |nil=>rw[jHq];exact jHV _
 |cons x b c=>
  have e:a++x::b=(a++[x])++b:=(by simp);have f:=c (a++[x]);have g:=jq5 d a x;have i:=jg6 h x;rw[e];omega
theorem jfj {d:DyD}:∀(k:Nat) (t:List Int),∀l∈U.qy d k t,∃s,l=t++s
 |0,_,l,h=>by cases h
 |k+1,t,l,h=>by
  have h:l∈(if U.jP d t=true then(if t.length=(U.jm d).length then[t] else(List.range (2^(U.je (U.jc d)).length-1)).flatMap (fun(i:Nat)=>U.qy d k (t++[(i:Int)+1]))) else[]):=h
  split at h
  .split at h
   .simp at h;subst h;exact⟨[],by simp⟩
   .obtain⟨i,_,h⟩:=jIp.1 h
    obtain⟨s,a⟩:=jfj k _ l h
    exact⟨((i:Int)+1)::s,by rw[a];simp⟩
  .cases h
theorem jtU {d:DyD} {x:List Int×Int×Bool}:∀l:List (List Int),(∀t∈l,(x.2.2&&decide (x.2.1<=U.j9 d t))=true)->l.foldl (upd d) x=x
 |[],_=>rfl
 |t::r,h=>by
  have e:upd d x t=x:=by unfold upd;rw[if_pos (h t (by simp))]
  show r.foldl (upd d) (upd d x t)=x
  rw[e]
  exact jtU r fun t a=>h t (jG0 _ a)
theorem jFb {ts t:List Int} {p:Int} {n:Nat} (h:ts.take n=t) (b:n<=ts.length):U.kC ts p n=U.on t p:=by
 have a:t.length=n:=(by rw[<-h,jHv];omega);unfold U.kC U.on U.yy;rw[a];congr 1;refine List.filter_congr fun i hi=> ?_
 have hi:=jG4.1 hi;have e:nth t i=nth ts i:=(by rw[<-h];exact L.nth_take hi);rw[e];rfl
theorem jEw {d:DyD} (h:U.ju d=0) {p:Int} (e:U.joN d p) {t:List Int} (f:t.length<=(U.jm d).length):U.jaf (U.qa d) p (U.on t p)=U.zg d p (U.on t p):=by
 have a:=(jO h).1;show U.jin d (U.zP d (U.jm d).length) p (U.on t p)=_;refine joz (jfm _ _) fun b c=>jj0 a ?_ e
 have:=jup c;exact⟨this.1,by omega⟩
theorem jmN {d:DyD} {t:List Int} (a:U.jP d t=true) (s:Int):U.jP d (t++[s])=(U.qg (U.jc d) (U.vJ (nth (U.jm d) t.length)) s&&(List.range (U.je (U.jc d)).length).all (U.jwV d (t++[s]))):=by
 unfold U.jP at a⊢;rw[jGW,jHg] at a;have c:(t++[s]).length=t.length+1:=(by simp);have e:(List.range (t++[s]).length).all (U.jwU d (t++[s]))=U.qg (U.jc d) (U.vJ (nth (U.jm d) t.length)) s:=by
  rw[c,jHn,List.all_append];have b:(List.range t.length).all (U.jwU d (t++[s]))=true:=by
   rw[jHg];intro i hi;have:=a.1 i hi;unfold U.jwU at this⊢;rw[jfx (jG4.1 hi)];exact this
  rw[b,Bool.true_and];show(U.jwU d (t++[s]) t.length&&true)=_;unfold U.jwU;rw[jnS,Bool.and_true]
 rw[e]
theorem jFn {d:DyD} (h:U.ju d=0) {t:List Int} {s:Nat} (u:t.length<(U.jm d).length) (z:s<2^(U.je (U.jc d)).length) (v:(List.range (U.je (U.jc d)).length).all (U.jwV d (t++[(s:Int)]))=true):
 jkY (s:Int) (nth (U.qG (U.qa d)) t.length)=0:=by
 have f:=(jO h).1;have A:=(jaF f.1).2;have l:(s:Int)<2^(U.je (U.jc d)).length:=(by rw[BT.two_nat];exact Int.ofNat_lt.2 z);have ss:BT.Set' (s:Int):=(by unfold BT.Set';omega);have x:=fun q (y:q∈U.yr (U.jc d) (U.vJ (nth (U.jm d) t.length)))=>jsS f.1 y
 have r:nth (U.qG (U.qa d)) t.length=U.jpC (U.yr (U.jc d) (U.vJ (nth (U.jm d) t.length))):=jux u;have m:BT.Set' (nth (U.qG (U.qa d)) t.length):=(by rw[r];exact(jax x _ (jGY _)).1);refine BT.ext (BT.bandn_set ss m) BT.zero_set fun p=> ?_
 rw[BT.has_bandn ss m,BT.has_zero];cases n:BT.has (s:Int) p with
 |false=>rfl
 |true=>
  have k:p<(U.je (U.jc d)).length:=BT.has_lt (by omega) l n;have i:=jHg.1 v p (jG4.2 k);have j:((t.length:Nat):Int)∈U.on (t++[(s:Int)]) (p:Int):=by
   unfold U.on U.yy;refine jHm.2 ⟨t.length,jHc.2 ⟨jG4.2 (by simp),?_⟩,rfl⟩;show U.jG (nth (t++[(s:Int)]) t.length) (p:Int)=true;rw[jnS,jaM ss];exact n
  have g:U.ze (U.jc d) (U.vJ (U.bk d (t.length:Int))) (p:Int)=true:=((jcU d (p:Int) (jfm _ _)).1 i).1 _ j;have a:=jj0 f (b:=(t.length:Int)) (p:=(p:Int)) ⟨jHi _,by omega⟩ ⟨jHi _,by omega⟩;rw[g] at a;have c:¬qO (nth (U.zP d (U.jm d).length) t.length/2^p) 1=0:=of_decide_eq_false a;have e:=BT.bit_num m p;have o:nth (U.qG (U.qa d)) t.length=nth (U.zP d (U.jm d).length) t.length:=rfl;rw[o] at e⊢;rw[e] at c;cases w:BT.has (nth (U.zP d (U.jm d).length) t.length) p with
  |true=>rfl
  |false=>rw[w] at c;exact absurd rfl c
theorem jD0 {d:DyD} (h:U.ju d=0) {t ts:List Int} (r:U.jP d t=true) (m:t.length<(U.jm d).length) {s:Nat} (g:s<2^(U.je (U.jc d)).length) (k:ts.take (t.length+1)=t++[(s:Int)]) (q:t.length+1<=ts.length):
 U.jP d (t++[(s:Int)])=(U.jox (U.qa d) (t.length:Int) s&&U.wW (U.qa d) ts t.length (U.wa (U.qa d)).length):=by
 have l:=(jO h).1;have f:(s:Int)<2^(U.je (U.jc d)).length:=(by rw[BT.two_nat];exact Int.ofNat_lt.2 g);have o:=jzB l (b:=(t.length:Int)) ⟨jHi _,by omega⟩ (t:=(s:Int)) (jHi _) f;have j:U.wW (U.qa d) ts t.length (U.wa (U.qa d)).length=(List.range (U.je (U.jc d)).length).all (U.jwV d (t++[(s:Int)])):=by
  unfold U.wW;rw[(jl4 h).len];refine jHs.2 ?_;rw[jHg,jHg];have:∀p∈List.range (U.je (U.jc d)).length,U.jaf (U.qa d) (p:Int) (U.kC ts (p:Int) (t.length+1))=U.jwV d (t++[(s:Int)]) p:=fun p a=>by
   rw[jFb k q];exact jEw h ⟨jHi _,by have:=jG4.1 a;omega⟩ (by simp;omega)
  exact⟨fun c p a=>(this p a)▸c p a,fun c p a=>(this p a).symm▸c p a⟩
 have i:U.jdr (U.rd (U.qa d)) (t.length:Int) (s:Int)=U.qg (U.jc d) (U.vJ (nth (U.jm d) t.length)) (s:Int):=o;rw[jmN r,j];unfold U.jox;rw[i];cases n:(List.range (U.je (U.jc d)).length).all (U.jwV d (t++[(s:Int)])) with
 |false=>rw[Bool.and_false,Bool.and_false]
 |true=>
  have:=jFn h m g n;have e:nth (U.qG (U.qa d)) ((t.length:Int)).toNat=nth (U.qG (U.qa d)) t.length:=rfl;rw[e,decide_eq_true this,Bool.true_and]
end Go.X
namespace Go.X
theorem jeX {l:List Int} {b:Nat} (v:Int):(l.set b v).take b=l.take b:=by
 rw[List.take_set_of_le (jGY _)]
theorem jm5 {l:List Int} {b:Nat} (v:Int) (h:b<l.length):(l.set b v).take (b+1)=l.take b++[v]:=by
 rw[L.take_succ (by rw[jH6];exact h),jeX,L.nth_lt (by rw[jH6];exact h),List.getElem_set_self]
theorem jAQ {l:List Int} {b:Nat} {t:List Int} {v:Int} (h:l.take (b+1)=t++[v]) (a:t.length=b):l.take b=t:=by
 have e:=congrArg (List.take b) h;rw[List.take_take,Nat.min_eq_left (by omega),<-a,List.take_left] at e;rw[<-a];exact e
theorem jgG {d:DyD} {t:List Int} (h:U.jP d t=false):∀k,U.qy d k t=[]
 |0=>rfl
 |k+1=>by rw[jgH,h,if_neg (by simp)]
section
attribute [local irreducible] U.qy U.jP U.wj U.qg U.j9 U.jaf U.kg U.zg
structure jEL (d:DyD) (t:List Int) (x:StD):Prop where
 len:x.1.length=(U.jm d).length
 pre:x.1.take t.length=t
theorem jm7 {d:DyD} (h:U.ju d=0) {ch:List (List Int)} {k:Nat} {t:List Int} {fee:Int} (u:U.jP d t=true) (n:t.length<(U.jm d).length) (a:fee=U.j9 d t)
 (v:∀(i:List Int) (b:Int) (x:StD),U.jP d i=true->i.length=t.length+1->b=U.j9 d i->jEL d i x->jEL d i (U.wj (U.qa d) ch k i.length b x)/\(U.wj (U.qa d) ch k i.length b x).2=(U.qy d k i).foldl (upd d) x.2):
 ∀(L:List Nat) (x:StD),(∀s∈L,s<2^(U.je (U.jc d)).length)->jEL d t x->
  jEL d t (((L.filter (U.jox (U.qa d) (t.length:Int))).map (fun(s:Nat)=>(s:Int))).foldl (U.yX (U.qa d) ch k t.length fee) x)/\
  (((L.filter (U.jox (U.qa d) (t.length:Int))).map (fun(s:Nat)=>(s:Int))).foldl (U.yX (U.qa d) ch k t.length fee) x).2=(L.flatMap (fun(s:Nat)=>U.qy d k (t++[(s:Int)]))).foldl (upd d) x.2
 |[],x,_,m=>⟨m,rfl⟩
 |s::L,x,hL,m=>by
  have q:=hL s (by simp)
  have j:∀s∈L,s<2^(U.je (U.jc d)).length:=fun s q=>hL s (jG0 _ q)
  have g:(x.1.set t.length (s:Int)).take (t.length+1)=t++[(s:Int)]:=by rw[jm5 _ (by rw[m.len];exact n),m.pre]
  have f:(x.1.set t.length (s:Int)).length=(U.jm d).length:=by rw[jH6];exact m.len
  have l:=jD0 h u n q (ts:=x.1.set t.length (s:Int)) g (by rw[f];omega)
  rw[List.flatMap_cons,jHh]
  cases o:U.jox (U.qa d) (t.length:Int) s with
  |false=>
   rw[o,Bool.false_and] at l
   rw[List.filter_cons_of_neg (by rw[o];simp),jgG l]
   exact jm7 h u n a v L x j m
  |true=>
   rw[o,Bool.true_and] at l
   rw[List.filter_cons_of_pos o,jHW,List.foldl_cons]
   cases p:U.wW (U.qa d) (x.1.set t.length (s:Int)) t.length (U.wa (U.qa d)).length with
   |false=>
    rw[p] at l
    have e:U.yX (U.qa d) ch k t.length fee x (s:Int)=(x.1.set t.length (s:Int),x.2):=by unfold U.yX;rw[p,if_neg (by simp)]
    rw[jgG l,e]
    exact jm7 h u n a v L (x.1.set t.length (s:Int),x.2) j ⟨f,(jeX _).trans m.pre⟩
   |true=>
    rw[p] at l
    have e:U.yX (U.qa d) ch k t.length fee x (s:Int)=U.wj (U.qa d) ch k (t.length+1) (fee+U.wP d (s:Int)) (x.1.set t.length (s:Int),x.2):=by
     unfold U.yX;rw[p,if_pos rfl];rfl
    have c:(t++[(s:Int)]).length=t.length+1:=(by simp);have ss:BT.Set' (s:Int):=by
     have A:=(jaF (jO h).1.1).2;have f:(s:Int)<2^(U.je (U.jc d)).length:=(by rw[BT.two_nat];exact Int.ofNat_lt.2 q);unfold BT.Set';omega
    have z:fee+U.wP d (s:Int)=U.j9 d (t++[(s:Int)]):=(by rw[jq5,a,jFF ss]);have r:=v (t++[(s:Int)]) (fee+U.wP d (s:Int)) (x.1.set t.length (s:Int),x.2) l c z ⟨f,by rw[c];exact g⟩;rw[c] at r;rw[e];generalize B:U.wj (U.qa d) ch k (t.length+1) (fee+U.wP d (s:Int)) (x.1.set t.length (s:Int),x.2)=y at r⊢;have w:=jm7 h u n a v L y j ⟨r.1.len,jAQ (by have:=r.1.pre;rw[c] at this;exact this) rfl⟩;refine⟨w.1,?_⟩;rw[w.2,r.2]
end
theorem jwq (c:CrD) (j:JbD):U.qg c j 0=false:=by unfold U.qg;rfl
theorem jvJ {d:DyD} {t:List Int} (a:U.jP d t=true) (k:Nat):U.qy d k (t++[((0:Nat):Int)])=[]:=by
 refine jgG ?_ k;rw[jmN a];have e:((0:Nat):Int)=0:=rfl;rw[e,jwq,Bool.false_and]
theorem jvK {d:DyD} {t:List Int} (a:U.jP d t=true) (k n:Nat):(List.range (n+1)).flatMap (fun(s:Nat)=>U.qy d k (t++[(s:Int)]))=U.jCM d k t n:=by
 rw[List.range_succ_eq_map,List.flatMap_cons,jvJ a,jHr,List.flatMap_map];rfl
theorem jCf (r:RoD) {n b:Nat} (h:b<n):nth (U.kg r n) b=U.wR r (b:Int) (2^(U.je (U.jc (U.rd r))).length):=by
 unfold U.kg;rw[L.nth_lt (by simp;exact h)];simp
section
attribute [local irreducible] U.jP U.qg U.j9 U.jaf U.kg U.zg U.wR
theorem jxG {d:DyD} (h:U.ju d=0):∀(k:Nat) (t:List Int) (fee:Int) (x:StD),U.jP d t=true->t.length<=(U.jm d).length->(U.jm d).length<t.length+k->fee=U.j9 d t->jEL d t x->
 jEL d t (U.wj (U.qa d) (U.kg (U.qa d) (U.jm d).length) k t.length fee x)/\(U.wj (U.qa d) (U.kg (U.qa d) (U.jm d).length) k t.length fee x).2=(U.qy d k t).foldl (upd d) x.2
 |0,t,fee,x,_,v,j,_,_=>absurd j (by omega)
 |k+1,t,fee,x,i,v,j,a,c=>by
  have w:=(jO h).1.1
  by_cases b:(x.2.2.2&&decide (x.2.2.1<=fee))=true
  .have e:U.wj (U.qa d) (U.kg (U.qa d) (U.jm d).length) (k+1) t.length fee x=x:=by
    show(if(x.2.2.2&&decide (x.2.2.1<=fee))=true then x else _)=x;rw[if_pos b]
   rw[e];refine⟨c,(jtU _ fun l z=> ?_).symm⟩;obtain⟨s,rfl⟩:=jfj _ _ _ z;have y:=jCb w t s;rw[jGW,decide_eq_true_iff] at b⊢;exact⟨b.1,by omega⟩
  .by_cases g:t.length=(U.jm d).length
   .have e:U.wj (U.qa d) (U.kg (U.qa d) (U.jm d).length) (k+1) t.length fee x=(x.1,x.1,fee,true):=by
     show(if(x.2.2.2&&decide (x.2.2.1<=fee))=true then x else if t.length=(U.jm d).length then(x.1,x.1,fee,true) else _)=_;rw[if_neg b,if_pos g]
    have u:x.1=t:=by
     have:=c.pre;rw[jHA (by rw[c.len];omega)] at this;exact this
    rw[e,jgH,if_pos i,if_pos g];refine⟨⟨c.len,c.pre⟩,?_⟩;show(x.1,fee,true)=upd d x.2 t;unfold upd;rw[<-a,if_neg b,u]
   .have m:t.length<(U.jm d).length:=(by omega);rw[jjc (Bool.eq_false_iff.2 b) g,jgH,if_pos i,if_neg g];unfold U.jq;rw[jHA (jGY _),jCf _ m];have C:U.wR (U.qa d) (t.length:Int) (2^(U.je (U.jc (U.rd (U.qa d)))).length)=((List.range (2^(U.je (U.jc d)).length)).filter (U.jox (U.qa d) (t.length:Int))).map (fun(s:Nat)=>(s:Int)):=(by unfold U.wR;rfl);rw[C];have r:=jm7 h (ch:=U.kg (U.qa d) (U.jm d).length) (k:=k) i m a (fun E f F o G p q=>jxG h k E f F o (by omega) (by omega) p q) (List.range (2^(U.je (U.jc d)).length)) x (fun s D=>jG4.1 D) c;refine⟨r.1,?_⟩;rw[r.2];have B:0<2^(U.je (U.jc d)).length:=Nat.pow_pos (by decide);obtain⟨n,A⟩:∃n,2^(U.je (U.jc d)).length=n+1:=⟨_,(Nat.succ_pred_eq_of_pos B).symm⟩;rw[A,jvK i];rfl
theorem jAj {d:DyD} (h:U.vK d):U.jP d []=true:=by
 unfold U.jP;rw[jGW,jHg,jHg];refine⟨fun i hi=> ?_,fun p _=> ?_⟩
 .cases hi
 .have a:=zc h.2.2;show U.zg d (p:Int) []=true;unfold U.zg;have:(0:Int)<=U.jrs d:=(by omega);show(true&&(true&&decide ((0:Int)<=U.jrs d)))=true;rw[decide_eq_true this];rfl
end
end Go.X
namespace Go.X
open Go.Proofs
section
attribute [local irreducible] U.qy U.jP U.wj U.j9 U.kg U.kW
theorem jyn (d:DyD):jEL d [] (List.replicate (U.jm d).length 0,U.vn,0,false):=⟨jHR ..,rfl⟩
theorem jCN {d:DyD} (h:U.ju d=0):(U.jEW d).2=(U.jnA d).foldl (upd d) (U.vn,0,false):=by
 have a:=(jO h).1;have b:(U.jm d).length<=4:=(zc a.2.2).1;exact(jxG h 5 [] 0 _ (jAj a) (jG7 _) (by simp;omega) (jCa d).symm (jyn d)).2
theorem jBa {d:DyD} (h:U.ju d=0) (a:(U.jnA d).length=0):(U.jEW d).2=(U.vn,0,false):=by
 rw[jCN h,List.length_eq_zero_iff.1 a];rfl
theorem jnB {d:DyD} (h:U.ju d=0) (a:¬(U.jnA d).length=0):(U.jEW d).2=((U.kW d (U.jnA d) (U.jnA d).length).1,(U.kW d (U.jnA d) (U.jnA d).length).2,true):=by
 have e:=jtV d (U.jnA d) (U.jnA d).length (jGY _) (by omega);rw[jHA (jGY _)] at e;rw[jCN h,e]
theorem jjD (d:DyD):U.kd d=U.jCQ d:=by
 unfold U.kd U.jCQ;rw[qi];by_cases h:U.wG d=0
 .rw[if_pos h,if_pos h];have b:U.ju d=0:=(qi d).trans h;by_cases a:(U.jnA d).length=0
  .rw[jBa b a,if_pos a,if_neg (by simp)]
  .rw[jnB b a,if_neg a,if_pos rfl]
 .rw[if_neg h,if_neg h]
theorem jnC {d:DyD} (h:U.jCQ d=0):U.wG d=0/\¬(U.jnA d).length=0:=by
 unfold U.jCQ at h;by_cases a:U.wG d=0
 .rw[if_pos a] at h;by_cases b:(U.jnA d).length=0
  .rw[if_pos b] at h;omega
  .exact⟨a,b⟩
 .rw[if_neg a] at h;exact absurd h a
theorem jDM (d:DyD):U.jo d=U.jGi d:=by
 unfold U.jo U.jGi;rw[jjD];by_cases h:U.jCQ d=0
 .obtain⟨a,b⟩:=jnC h;rw[if_pos h,if_pos h,jnB ((qi d).trans a) b]
 .rw[if_neg h,if_neg h]
theorem jDL (d:DyD):U.wc d=U.jGh d:=by
 unfold U.wc U.jGh;rw[jjD];by_cases h:U.jCQ d=0
 .obtain⟨a,b⟩:=jnC h;rw[if_pos h,if_pos h,jnB ((qi d).trans a) b]
 .rw[if_neg h,if_neg h]
end
end Go.X
namespace Go.X
namespace U
def jic (c:CrD) (t:Int):Bool:=ja t 0 (2^(je c).length-1)
def jz (l:List ShD) (t:Int) (i:Nat):List ShD:=(List.range i).map (fun(k:Nat)=>nth l (((k:Int)+t).tmod (l.length:Int)).toNat)
end U
end Go.X
namespace Go.X
theorem jB4 {l:List ShD} (h:∀s∈l,0<=U.wv s/\U.wv s<=99) (s:ShD):s∈U.jil l↔s∈l:=⟨jf2,fun a=>jzW a (h s a).1 (h s a).2⟩
theorem jFy {d:DyD} (h:U.wG d=0):∀s∈U.kl d,0<=U.wv s/\U.wv s<=99:=fun _ a=>jjj (jO ((qi d).trans h)).1.2.2 a
end Go.X
namespace Go.X
namespace U
def jCE (d:DyD) (p:Int) (a:List Int) (s:ShD):List Int:=if zg d p (a++[vq s])=true then a++[vq s] else a
def jis (d:DyD) (p:Int) (l:List ShD):List Int:=l.foldl (jCE d p) []
def jBp (p:Int) (s:ShD):Bool:=decide (qq s=p)
def jby (d:DyD) (p:Int):List ShD:=(jrz d).filter (jBp p)
end U
theorem jGc {α:Type} {P:List α->Prop} (nil:P []) (snoc:∀l s,P l->P (l++[s])):∀l,P l:=by
 have h:∀r:List α,P r.reverse:=by
  intro r
  induction r with
  |nil=>exact nil
  |cons a r b=>rw[List.reverse_cons];exact snoc _ _ b
 intro l;have:=h l.reverse
 rwa [List.reverse_reverse] at this
theorem jri (d:DyD) (p:Int) (l:List ShD) (s:ShD):U.jis d p (l++[s])=U.jCE d p (U.jis d p l) s:=by
 unfold U.jis;rw[jHh];rfl
theorem jAd {d:DyD} (h:0<=U.jrs d) (p:Int):U.zg d p []=true:=by
 show(true&&(true&&decide ((0:Int)<=U.jrs d)))=true;rw[decide_eq_true h];rfl
attribute [local irreducible] U.zN U.zg U.jin U.on U.jF jim U.yq U.zP in
theorem jCu {d:DyD} (h:U.ju d=0) {i:Nat} (hi:i<(U.jF d).length) (p:Nat) (ih:∀q:Nat,nth (U.zN (U.yq d) (U.jF d) i).1 q=U.jis d (q:Int) ((((U.jF d).take i).filter (jim d)).filter (U.jBp (q:Int)))) (hrd:U.rd (U.yq d)=d) (hml:U.qG (U.yq d)=U.zP d (U.jm d).length)
 (hx:(U.zN (U.yq d) (U.jF d) i).1.length=(U.je (U.jc d)).length) (hdec:jim d=U.kf (U.zz (U.jF d) (U.jF d).length))
 (hnew:jim d (nth (U.jF d) i)=true->(nth (U.zN (U.yq d) (U.jF d) i).1 (U.qq (nth (U.jF d) i)).toNat++[U.vq (nth (U.jF d) i)]).Nodup/\∀b∈nth (U.zN (U.yq d) (U.jF d) i).1 (U.qq (nth (U.jF d) i)).toNat++[U.vq (nth (U.jF d) i)],U.wJ d b):
 nth (U.zN (U.yq d) (U.jF d) (i+1)).1 p=U.jis d (p:Int) ((((U.jF d).take (i+1)).filter (jim d)).filter (U.jBp (p:Int))):=by
 have hD:=(jO h).1
 have hsf:=jcA hD.2.2 (wU.1 (L.mem_nth (l:=U.jF d) (i:=i) hi))
 rw[L.filter_take hi,List.filter_append]
 cases hc:jim d (nth (U.jF d) i) with
 |false=>
  rw[hdec] at hc
  rw[jiu hi hc,if_neg (by simp),List.filter_nil,jHq]
  exact ih p
 |true=>
  have hn:=hnew hc
  have hcan:U.jin d (U.zP d (U.jm d).length) (U.qq (nth (U.jF d) i)) (nth (U.zN (U.yq d) (U.jF d) i).1 (U.qq (nth (U.jF d) i)).toNat++[U.vq (nth (U.jF d) i)])=U.zg d (U.qq (nth (U.jF d) i)) (nth (U.zN (U.yq d) (U.jF d) i).1 (U.qq (nth (U.jF d) i)).toNat++[U.vq (nth (U.jF d) i)]):=
   joz hn.1 (fun c hc=>jj0 hD (hn.2 c hc) hsf.1)
  rw[hdec] at hc
  rw[if_pos rfl]
  have hsp:((U.qq (nth (U.jF d) i)).toNat:Int)=U.qq (nth (U.jF d) i):=by omega
  by_cases hp:U.qq (nth (U.jF d) i)=(p:Int)
  .have e1:List.filter (U.jBp (p:Int)) [nth (U.jF d) i]=[nth (U.jF d) i]:=by
    rw[List.filter_cons_of_pos]
    .rfl
    .exact decide_eq_true hp
   have ep:(U.qq (nth (U.jF d) i)).toNat=p:=by omega
   rw[e1,jri,<-ih p]
   rw[ep,hp] at hcan
   unfold U.jCE
   cases hk:U.zg d (p:Int) (nth (U.zN (U.yq d) (U.jF d) i).1 p++[U.vq (nth (U.jF d) i)]) with
   |true=>
    rw[hk] at hcan
    rw[jja hi hc (by rw[hrd,hml,ep,hp];exact hcan),if_pos rfl,ep]
    show nth ((U.zN (U.yq d) (U.jF d) i).1.set p _) p=_
    rw[L.nth_set (by omega),if_pos rfl]
   |false=>
    rw[hk] at hcan
    rw[jt1 hi hc (by rw[hrd,hml,ep,hp];exact hcan),if_neg (by simp)]
  .have e1:List.filter (U.jBp (p:Int)) [nth (U.jF d) i]=[]:=by
    rw[List.filter_cons_of_neg]
    .rfl
    .unfold U.jBp;simpa using hp
   rw[e1,jHq,<-ih p]
   cases hk:U.zg d (U.qq (nth (U.jF d) i)) (nth (U.zN (U.yq d) (U.jF d) i).1 (U.qq (nth (U.jF d) i)).toNat++[U.vq (nth (U.jF d) i)]) with
   |true=>
    rw[hk] at hcan
    rw[jja hi hc (by rw[hrd,hml];exact hcan)]
    show nth ((U.zN (U.yq d) (U.jF d) i).1.set _ _) p=_
    rw[L.nth_set (by omega),if_neg (by omega)]
   |false=>
    rw[hk] at hcan
    rw[jt1 hi hc (by rw[hrd,hml];exact hcan)]
theorem jtS {d:DyD} (h:U.ju d=0):∀i,i<=(U.jF d).length->∀p:Nat,nth (U.zN (U.yq d) (U.jF d) i).1 p=U.jis d (p:Int) ((((U.jF d).take i).filter (jim d)).filter (U.jBp (p:Int)))
 |0,_=>fun p=>by
  have j:U.jBs (U.jDT d):=fun x m=>(List.mem_replicate.1 m).2
  exact jnV j p
 |i+1,hi=>fun p=>by
  have n:=jtS h i (by omega)
  obtain⟨⟨_,o⟩,⟨k,b⟩,c⟩:=jpF h
  have f:=(jO h).1
  have a:=jjb (r:=U.yq d) (l:=U.jF d) f.2.2 (fun s e=>wU.1 e) (wK d) k b c i (by omega)
  refine jCu h hi p n rfl rfl a.1 rfl fun g=> ?_
  have:=jpe (r:=U.yq d) (l:=U.jF d) f.2.2 (fun s e=>wU.1 e) (wK d) hi a g
  exact⟨this.1,this.2.1⟩
theorem jFg {d:DyD} (h:U.ju d=0) (p:Nat):nth (U.wa (U.qa d)) p=U.jis d (p:Int) (U.jby d (p:Int)):=by
 have:=jtS h _ (jGY _) p;rw[jHS,jxj h] at this;exact this
theorem jDi {d:DyD} (h:U.wG d=0) (s:ShD):s∈U.jrz d↔s∈U.kl d/\U.jAB s=1/\∀t∈U.kl d,U.yw t=U.yw s->U.wN t s=false:=by
 have hi:=fun s=>jB4 (l:=U.kl d) (jFy h) s
 rw[(jeL d).mem_iff,jiP,jHc,jkL,hi s];exact and_congr_right fun _=>and_congr_right fun _=>⟨fun g t a=>g t ((hi t).2 a),fun g t a=>g t ((hi t).1 a)⟩
theorem jxi (d:DyD):(U.jrz d).Nodup:=(jeL d).nodup_iff.2 (by rw[jiP];exact List.Pairwise.filter _ (jg8 _))
end Go.X
namespace Go.X
theorem jcp {d:DyD}:U.wG d=0↔U.vK d/\∀a∈U.kl d,∀b∈U.kl d,U.wv a=U.wv b->a=b:=by
 refine⟨fun h=>jO ((qi d).trans h),fun⟨⟨c,e,f⟩,g⟩=> ?_⟩;unfold U.wG;rw[c,e,f,(jq8 _).2 g];rfl
theorem jB8 {d:DyD} {l:List ShD} (h:U.zA d=true) (a:l.length<=30) (b:∀s∈l,U.gN (U.jm d).length (U.je (U.jc d)).length s=true):U.zA (U.jV d l)=true:=by
 have f:=zc h;show(decide ((U.jm d).length<=4/\1<=(U.jK d).length/\(U.jK d).length<=5/\0<=U.jfe d/\U.jfe d<=300/\0<=U.jrs d/\U.jrs d<=1440/\l.length<=30)&&
  ((U.jK d).all (U.vE (U.jK d).length)&&((U.jm d).all (U.jb3 (U.jK d).length)&&l.all (U.gN (U.jm d).length (U.je (U.jc d)).length))))=true
 simp only[jGW,decide_eq_true_eq,jHg];exact⟨⟨f.1,f.2.1.1,f.2.1.2,f.2.2.1.1,f.2.2.1.2,f.2.2.2.1.1,f.2.2.2.1.2,a⟩,f.2.2.2.2.2.1,f.2.2.2.2.2.2.1,b⟩
theorem jCe {d:DyD} {l:List ShD} (h:U.vK d) (c:l.length<=30) (e:∀s∈l,U.gN (U.jm d).length (U.je (U.jc d)).length s=true) (hi:∀a∈l,∀b∈l,U.wv a=U.wv b->a=b):U.wG (U.jV d l)=0:=
 jcp.2 ⟨⟨h.1,h.2.1,jB8 h.2.2 c e⟩,hi⟩
theorem jFr {d:DyD} (h:U.wG d=0):0<=U.jrs d:=(zc (jcp.1 h).1.2.2).2.2.2.1.1
end Go.X
namespace Go.X
theorem jjY (d:DyD) (b:Int) (l:List Int):U.jfy d (b::l)=U.joB (U.bk d b)-U.jag (U.bk d b)+U.jfy d l:=by
 have h:∀(m:List Int) (a:Int),m.foldl (·+·) a=a+m.foldl (·+·) 0:=by
  intro m
  induction m with
  |nil=>intro a;simp
  |cons x m c=>intro a;rw[List.foldl_cons,c,List.foldl_cons,c (0+x)];omega
 unfold U.jfy;rw[jHW,List.foldl_cons,h];omega
theorem jBu {d:DyD} {l l':List Int} (h:l'.Sublist l) (e:∀b∈l,U.jag (U.bk d b)<=U.joB (U.bk d b)):U.jfy d l'<=U.jfy d l:=by
 induction h with
 |slnil=>exact jHV _
 |cons a _ f=>
  rw[jjY];have:=e a jHz;have:=f fun b c=>e b (jG0 _ c)
  omega
 |cons_cons a _ f=>
  rw[jjY,jjY];have:=f fun b c=>e b (jG0 _ c)
  omega
theorem joy {d:DyD} {p:Int} {l l':List Int} (g:U.vK d) (c:l.Nodup) (i:∀b∈l,U.wJ d b) (h:l'.Sublist l) (j:U.zg d p l=true):U.zg d p l'=true:=by
 obtain⟨e,f,k⟩:=(jcU d p c).1 j;refine(jcU d p (List.Pairwise.sublist h c)).2 ⟨fun b a=>e b (h.subset a),List.Pairwise.sublist h f,?_⟩;have:=jBu (d:=d) h fun b a=>by
  have:=(qR g.2.2 (i b a)).2;omega
 omega
theorem jrj {d:DyD} {p:Int} (h:U.vK d):∀{l:List ShD},(l.map U.vq).Nodup->(∀b∈l.map U.vq,U.wJ d b)->U.zg d p (l.map U.vq)=true->U.jis d p l=l.map U.vq:=by
 intro l
 induction l using jGc with
 |nil=>intro _ _ _;rfl
 |snoc l s i=>
  intro f a e;rw[jHH] at f a e⊢;have g:(l.map U.vq).Sublist (l.map U.vq++[s].map U.vq):=List.sublist_append_left _ _;have:=i (List.Pairwise.sublist g f) (fun b c=>a b (g.subset c)) (joy h f a g e);rw[jri,this];unfold U.jCE;exact if_pos e
def Lex (a b:List Int):Prop:=∃i,i<a.length/\i<b.length/\(∀j,j<i->nth a j=nth b j)/\nth a i<nth b i
theorem jpR {d:DyD}:∀(k:Nat) (t:List Int),(U.qy d k t).Pairwise Lex
 |0,_=>List.Pairwise.nil
 |k+1,t=>by
  unfold U.qy
  split
  .split
   .exact List.pairwise_singleton _ _
   .refine List.pairwise_flatMap.2 ⟨fun i _=>jpR k _,List.Pairwise.imp ?_ jH0⟩
    intro i j h a f b g
    obtain⟨u,rfl⟩:=jfj k _ a f
    obtain⟨v,rfl⟩:=jfj k _ b g
    have e:∀(v:Int) (u:List Int),nth (t++[v]++u) t.length=v:=fun v u=>by
     rw[jfx (a:=t++[v]) (b:=u) (by simp)]
     exact jnS t v
    refine⟨t.length,by simp,by simp,fun m c=> ?_,?_⟩
    .rw[jHf,jHf,jfx c,jfx c]
    .rw[e,e]
     omega
  .exact List.Pairwise.nil
theorem jDR {t:List Int} {p:Int} (n:Nat) (h:n<=t.length):(U.on (t.take n) p).Sublist (U.on t p):=by
 unfold U.on U.yy;refine List.Sublist.map _ ?_;have e:(t.take n).length=n:=(by rw[jHv];omega);rw[e];have a:(List.range n).filter (fun b=>U.jG (nth (t.take n) b) p)=(List.range n).filter (fun b=>U.jG (nth t b) p):=by
  refine List.filter_congr fun b c=> ?_
  rw[L.nth_take (jG4.1 c)]
 rw[a];exact List.Sublist.filter _ (List.range_sublist.2 h)
theorem jgc {d:DyD} {t:List Int}:U.jP d t=true↔(∀b,b<t.length->U.qg (U.jc d) (U.vJ (nth (U.jm d) b)) (nth t b)=true)/\∀p:Nat,p<(U.je (U.jc d)).length->U.zg d (p:Int) (U.on t (p:Int))=true:=by
 unfold U.jP;rw[jGW,jHg,jHg];exact⟨fun h=>⟨fun b a=>h.1 b (jG4.2 a),fun p c=>h.2 p (jG4.2 c)⟩,fun h=>⟨fun b a=>h.1 b (jG4.1 a),fun p c=>h.2 p (jG4.1 c)⟩⟩
theorem jwS {d:DyD} (c:U.vK d) {t:List Int} (g:t.length<=(U.jm d).length) (h:U.jP d t=true) (n:Nat):U.jP d (t.take n)=true:=by
 by_cases e:n<=t.length
 .rw[jgc] at h⊢;refine⟨fun b a=> ?_,fun p f=>joy c (jfm _ _) (fun b a=> ?_) (jDR n e) (h.2 p f)⟩
  .rw[jHv] at a;rw[L.nth_take (by omega)];exact h.1 b (by omega)
  .have:=jup a;exact⟨this.1,by omega⟩
 .rw[jHA (by omega)];exact h
theorem jxx {t:List Int} {n:Nat} (h:n<t.length):t.take (n+1)=t.take n++[nth t n]:=L.take_succ h
theorem jpS {d:DyD} (g:U.vK d) {o:List Int} (c:o.length=(U.jm d).length) (j:∀x∈o,0<x/\x<2^(U.je (U.jc d)).length) (h:U.jP d o=true):∀(k n:Nat),n<=o.length->o.length<n+k->o∈U.qy d k (o.take n)
 |0,_,p,f=>absurd f (by omega)
 |k+1,n,p,f=>by
  unfold U.qy
  rw[if_pos (jwS g (by omega) h n)]
  by_cases e:n=o.length
  .have b:o.take n=o:=by rw[e,jHS]
   rw[b,if_pos c]
   exact jIj.2 rfl
  .have a:n<o.length:=by omega
   have b:(o.take n).length=n:=by rw[jHv];omega
   rw[if_neg (by rw[b,<-c];exact e)]
   have r:=j _ (L.mem_nth (l:=o) (i:=n) a)
   have q:(2:Int)^(U.je (U.jc d)).length=((2^(U.je (U.jc d)).length:Nat):Int):=by rw[BT.two_nat]
   refine jIp.2 ⟨(nth o n-1).toNat,jG4.2 (by omega),?_⟩
   have m:(((nth o n-1).toNat:Nat):Int)+1=nth o n:=by omega
   rw[m,<-jxx a]
   exact jpS g c j h k (n+1) (by omega) (by omega)
theorem jmK (d:DyD) (l:List (List Int)):∀n,0<n->n<=l.length->∃j,j<n/\U.kW d l n=(nth l j,U.j9 d (nth l j))/\(∀i,i<n->U.j9 d (nth l j)<=U.j9 d (nth l i))/\∀i,i<j->U.j9 d (nth l j)<U.j9 d (nth l i)
 |0,h,_=>absurd h (by omega)
 |n+1,_,p=>by
  have e:U.kW d l (n+1)=(fun x i=>if U.j9 d (nth l i)<x.2 then(nth l i,U.j9 d (nth l i)) else x) (U.kW d l n) n:=by
   unfold U.kW;rw[jHn,jHh];rfl
  rw[e];by_cases k:n=0
  .subst k;refine⟨0,by omega,?_,fun i hi=> ?_,fun i hi=>by omega⟩
   .show(if U.j9 d (nth l 0)<U.j9 d (nth l 0) then _ else(nth l 0,U.j9 d (nth l 0)))=_;rw[if_neg (by omega)]
   .have:i=0:=(by omega);subst this;exact jHV _
  .obtain⟨j,o,c,a,f⟩:=jmK d l n (by omega) (by omega);rw[c];show∃m,m<n+1/\(if U.j9 d (nth l n)<U.j9 d (nth l j) then(nth l n,U.j9 d (nth l n)) else(nth l j,U.j9 d (nth l j)))=_/\_;by_cases b:U.j9 d (nth l n)<U.j9 d (nth l j)
   .rw[if_pos b];refine⟨n,by omega,rfl,fun i hi=> ?_,fun i hi=> ?_⟩
    .by_cases g:i=n
     .subst g;exact jHV _
     .have:=a i (by omega);omega
    .have:=a i (by omega);omega
   .rw[if_neg b];refine⟨j,by omega,rfl,fun i hi=> ?_,f⟩;by_cases g:i=n
    .subst g;omega
    .exact a i (by omega)
end Go.X
namespace Go.X
attribute [local irreducible] U.zN U.zg U.jin U.on U.jF jim U.yq U.zP in
theorem jA7 {d:DyD} (h:U.ju d=0) {i:Nat} (hi:i<(U.jF d).length) (hac:∀q:Nat,nth (U.zN (U.yq d) (U.jF d) i).1 q=U.jis d (q:Int) ((((U.jF d).take i).filter (jim d)).filter (U.jBp (q:Int)))) (hrd:U.rd (U.yq d)=d) (hml:U.qG (U.yq d)=U.zP d (U.jm d).length)
 (hdec:jim d=U.kf (U.zz (U.jF d) (U.jF d).length)) (ih:(U.zN (U.yq d) (U.jF d) i).2=[])
 (hnew:jim d (nth (U.jF d) i)=true->(nth (U.zN (U.yq d) (U.jF d) i).1 (U.qq (nth (U.jF d) i)).toNat++[U.vq (nth (U.jF d) i)]).Nodup/\∀b∈nth (U.zN (U.yq d) (U.jF d) i).1 (U.qq (nth (U.jF d) i)).toNat++[U.vq (nth (U.jF d) i)],U.wJ d b)
 (hgood:∀q l s,(l++[s]:List ShD)<+:U.jby d q->U.zg d q (U.jis d q l++[U.vq s])=true):(U.zN (U.yq d) (U.jF d) (i+1)).2=[]:=by
 have hD:=(jO h).1
 have hsf:=jcA hD.2.2 (wU.1 (L.mem_nth (l:=U.jF d) (i:=i) hi))
 cases hc:jim d (nth (U.jF d) i) with
 |false=>
  rw[hdec] at hc
  rw[jiu hi hc]
  exact ih
 |true=>
  have hn:=hnew hc
  have hcan:U.jin d (U.zP d (U.jm d).length) (U.qq (nth (U.jF d) i)) (nth (U.zN (U.yq d) (U.jF d) i).1 (U.qq (nth (U.jF d) i)).toNat++[U.vq (nth (U.jF d) i)])=U.zg d (U.qq (nth (U.jF d) i)) (nth (U.zN (U.yq d) (U.jF d) i).1 (U.qq (nth (U.jF d) i)).toNat++[U.vq (nth (U.jF d) i)]):=
   joz hn.1 (fun c hc=>jj0 hD (hn.2 c hc) hsf.1)
  have hsp:((U.qq (nth (U.jF d) i)).toNat:Int)=U.qq (nth (U.jF d) i):=by omega
  have hpre:(((((U.jF d).take i).filter (jim d)).filter (U.jBp (U.qq (nth (U.jF d) i))))++[nth (U.jF d) i])<+:U.jby d (U.qq (nth (U.jF d) i)):=by
   have e1:((((U.jF d).take (i+1)).filter (jim d)).filter (U.jBp (U.qq (nth (U.jF d) i))))=((((U.jF d).take i).filter (jim d)).filter (U.jBp (U.qq (nth (U.jF d) i))))++[nth (U.jF d) i]:=by
    rw[L.filter_take hi,List.filter_append,hc,if_pos rfl,List.filter_cons_of_pos (by exact decide_eq_true rfl),List.filter_nil]
   rw[<-e1]
   unfold U.jby
   rw[<-jxj h]
   exact List.IsPrefix.filter _ (List.IsPrefix.filter _ (List.take_prefix _ _))
  have hk:=hgood _ _ _ hpre
  have ha:=hac (U.qq (nth (U.jF d) i)).toNat
  rw[hsp] at ha
  rw[<-ha] at hk
  rw[hk] at hcan
  rw[hdec] at hc
  rw[jja hi hc (by rw[hrd,hml];exact hcan)]
  exact ih
theorem jug {d:DyD} (h:U.ju d=0) (a:∀q l s,(l++[s]:List ShD)<+:U.jby d q->U.zg d q (U.jis d q l++[U.vq s])=true):∀i,i<=(U.jF d).length->(U.zN (U.yq d) (U.jF d) i).2=[]
 |0,_=>rfl
 |i+1,hi=>by
  obtain⟨⟨_,m⟩,⟨k,c⟩,e⟩:=jpF h
  have g:=(jO h).1
  have b:=jjb (r:=U.yq d) (l:=U.jF d) g.2.2 (fun s f=>wU.1 f) (wK d) k c e i (by omega)
  refine jA7 h hi (jtS h i (by omega)) rfl rfl rfl (jug h a i (by omega)) (fun j=> ?_) a
  have:=jpe (r:=U.yq d) (l:=U.jF d) g.2.2 (fun s f=>wU.1 f) (wK d) hi b j
  exact⟨this.1,this.2.1⟩
theorem jDJ {l:List ShD} {s:ShD} {m:List ShD} (h:(l++[s])<+:m):(l.map U.vq++[U.vq s]).Sublist (m.map U.vq):=by
 have:=(List.IsPrefix.sublist h).map U.vq;rw[jHH] at this;exact this
theorem jAs {d:DyD} (h:U.wG d=0) (a:∀q:Int,((U.jby d q).map U.vq).Nodup/\(∀b∈(U.jby d q).map U.vq,U.wJ d b)/\U.zg d q ((U.jby d q).map U.vq)=true):
 (U.joL d).2=[]/\∀q:Int,U.jis d q (U.jby d q)=(U.jby d q).map U.vq:=by
 have e:=(jcp.1 h).1;have f:=(qi d).trans h;refine⟨?_,fun q=>jrj e (a q).1 (a q).2.1 (a q).2.2⟩;have k:=(jdS f).ref;rw[<-k];refine jug f (fun q l s j=> ?_) _ (jGY _);have g:=jDJ j;have c:(l.map U.vq).Sublist ((U.jby d q).map U.vq):=(List.sublist_append_left _ _).trans g;rw[jrj e (List.Pairwise.sublist c (a q).1) (fun b i=>(a q).2.1 b (c.subset i)) (joy e (a q).1 (a q).2.1 c (a q).2.2)];exact joy e (a q).1 (a q).2.1 g (a q).2.2
end Go.X
namespace Go.X
namespace U
def jgF (t:List Int) (b n:Nat):List (Nat×Nat):=((List.range n).filter (fun(p:Nat)=>jG (nth t b) (p:Int))).map (fun p=>(b,p))
def gG (t:List Int) (a n:Nat):List (Nat×Nat):=(List.range n).flatMap (fun b=>jgF t b a)
def jBt (i:Nat) (x:Nat×Nat):ShD:=((i:Int),((i:Int)*7).tmod 5,1,(x.1:Int),(x.2:Int),())
def jnn (l:List (Nat×Nat)):List ShD:=(List.range l.length).map (fun i=>jBt i (nth l i))
end U
instance:Inhabited (Nat×Nat):=⟨(0,0)⟩
theorem jxW (l:List (Nat×Nat)) (x:Nat×Nat):U.jnn (l++[x])=U.jnn l++[U.jBt l.length x]:=by
 unfold U.jnn;rw[jHk,List.length_singleton,jHn,jHH];congr 1
 .refine List.map_congr_left fun i hi=> ?_
  have:=jG4.1 hi;congr 1;unfold nth;rw[jHu,jHu,jG9 this]
 .rw[List.map_singleton];congr 2;unfold nth;rw[jHu,jG8 (jGY _)];simp
theorem jnm (l:List (Nat×Nat)):(U.jnn l).length=l.length:=by unfold U.jnn;simp
theorem jAY {l:List (Nat×Nat)} {s:ShD}:s∈U.jnn l↔∃i,i<l.length/\s=U.jBt i (nth l i):=by
 unfold U.jnn;rw[jHm];exact⟨fun⟨i,hi,e⟩=>⟨i,jG4.1 hi,e.symm⟩,fun⟨i,hi,e⟩=>⟨i,jG4.2 hi,e.symm⟩⟩
theorem jnz {t:List Int} {c n:Nat} {x:Nat×Nat}:x∈U.gG t c n↔x.1<n/\x.2<c/\U.jG (nth t x.1) (x.2:Int)=true:=by
 unfold U.gG U.jgF;rw[jIp];constructor
 .rintro⟨b,g,h⟩;obtain⟨p,a,rfl⟩:=jHm.1 h;have a:=jHc.1 a;exact⟨jG4.1 g,jG4.1 a.1,a.2⟩
 .rintro⟨d,e,f⟩;exact⟨x.1,jG4.2 d,jHm.2 ⟨x.2,jHc.2 ⟨jG4.2 e,f⟩,rfl⟩⟩
theorem jl7 (t:List Int) (h n:Nat):(U.gG t h n).Nodup:=by
 unfold U.gG;refine List.pairwise_flatMap.2 ⟨fun b _=> ?_,List.Pairwise.imp ?_ jH0⟩
 .unfold U.jgF;refine jId.2 ((List.Pairwise.filter _ jH0).imp ?_);intro i j g e;have:=congrArg (·.2) e;simp at this;omega
 .intro a b f x c y d e;unfold U.jgF at c d;obtain⟨p,_,rfl⟩:=jHm.1 c;obtain⟨q,_,rfl⟩:=jHm.1 d;have:=congrArg (·.1) e;simp at this;omega
theorem jix (t:List Int) (a:Nat):∀n,(U.gG t a n).length<=n*a
 |0=>by unfold U.gG;simp
 |n+1=>by
  have c:=jix t a n
  have e:U.gG t a (n+1)=U.gG t a n++U.jgF t n a:=by
   unfold U.gG;rw[jHn,List.flatMap_append];simp
  have b:(U.jgF t n a).length<=a:=by
   unfold U.jgF;rw[jHX];have:=jH3 (fun(p:Nat)=>U.jG (nth t n) (p:Int)) (List.range a);rw[List.length_range] at this;exact this
  rw[e,jHk,jHF];omega
structure jrl (d:DyD) (t:List Int) (l:List ShD):Prop where
 day:U.wG d=0
 len:t.length=(U.jm d).length
 pl:U.jP d t=true
 rng:∀x∈t,0<=x/\x<2^(U.je (U.jc d)).length
 mem:∀s,s∈l↔s∈U.jnn (U.gG t (U.je (U.jc d)).length (U.jm d).length)
 few:l.length<=30
theorem jrl.form {d:DyD} {t:List Int} {l:List ShD} (h:jrl d t l) {s:ShD}:s∈l↔∃i b p:Nat,i<(U.gG t (U.je (U.jc d)).length (U.jm d).length).length/\nth (U.gG t (U.je (U.jc d)).length (U.jm d).length) i=(b,p)/\(b<(U.jm d).length/\p<(U.je (U.jc d)).length/\U.jG (nth t b) (p:Int)=true)/\s=U.jBt i (b,p):=by
 rw[h.mem,jAY];constructor
 .rintro⟨i,hi,e⟩;have c:=jnz.1 (L.mem_nth (l:=U.gG t (U.je (U.jc d)).length (U.jm d).length) (i:=i) hi);exact⟨i,(nth (U.gG t (U.je (U.jc d)).length (U.jm d).length) i).1,(nth (U.gG t (U.je (U.jc d)).length (U.jm d).length) i).2,hi,rfl,c,e⟩
 .rintro⟨i,b,p,hi,e,_,a⟩;exact⟨i,hi,by rw[e];exact a⟩
theorem jqi {α:Type} [Inhabited α] {l:List α} (h:l.Nodup) {i j:Nat} (hi:i<l.length) (a:j<l.length) (e:nth l i=nth l j):i=j:=by
 rw[L.nth_lt hi,L.nth_lt a] at e;rcases Nat.lt_trichotomy i j with g|g|g
 .exact absurd e (jHO.1 h i j hi a g)
 .exact g
 .exact absurd e.symm (jHO.1 h j i a hi g)
theorem jrl.chk {d:DyD} {t:List Int} {l:List ShD} (h:jrl d t l) (c:(U.jm d).length<=4) (r:(U.je (U.jc d)).length<=5):U.wG (U.jV d l)=0:=by
 have q:=jcp.1 h.day;have g:=jix t (U.je (U.jc d)).length (U.jm d).length;have m:(U.jm d).length*(U.je (U.jc d)).length<=4*5:=Nat.mul_le_mul c r;refine jCe q.1 h.few (fun s u=> ?_) fun a o b c e=> ?_
 .obtain⟨i,b,p,hi,_,y,rfl⟩:=h.form.1 u;have n:0<=((i:Int)*7).tmod 5/\((i:Int)*7).tmod 5<=4:=by
   rw[Int.tmod_eq_emod_of_nonneg (by omega)];omega
  refine decide_eq_true ⟨jHi i,?_,n.1,?_,?_,?_,jHi b,?_,jHi p,?_⟩
  .show(i:Int)<=99;omega
  .show((i:Int)*7).tmod 5<=9999;omega
  .show(1:Int)<=1;omega
  .show(1:Int)<=2;omega
  .show(b:Int)<=((U.jm d).length:Int)-1;omega
  .show(p:Int)<=((U.je (U.jc d)).length:Int)-1;omega
 .obtain⟨i,v,z,hi,k,_,rfl⟩:=h.form.1 o;obtain⟨j,w,A,x,f,_,rfl⟩:=h.form.1 c;have e:(i:Int)=(j:Int):=e;have:i=j:=(by omega);subst this;rw[k] at f;rw[f]
theorem jrl.wnt {d:DyD} {t:List Int} {l:List ShD} (h:jrl d t l) (r:U.wG (U.jV d l)=0) (s:ShD):s∈U.jrz (U.jV d l)↔s∈l:=by
 rw[jDi r];refine⟨fun g=>g.1,fun g=>⟨g,?_,fun u w e=> ?_⟩⟩
 .obtain⟨i,b,p,_,_,_,rfl⟩:=h.form.1 g;rfl
 .obtain⟨i,a,m,hi,o,_,rfl⟩:=h.form.1 g;obtain⟨j,c,n,v,q,_,rfl⟩:=h.form.1 w;have e:=(jnp _ _).1 e;have f:(c:Int)=(a:Int):=e.1;have k:(n:Int)=(m:Int):=e.2;have f:c=a:=(by omega);have k:n=m:=(by omega);subst f;subst k;have:i=j:=jqi (jl7 _ _ _) hi v (o.trans q.symm);subst this;exact vd _
theorem jrl.bks {d:DyD} {t:List Int} {l:List ShD} (h:jrl d t l) (H:U.wG (U.jV d l)=0) (q:Int):((U.jby (U.jV d l) q).map U.vq).Nodup/\∀n,n∈(U.jby (U.jV d l) q).map U.vq↔((0<=q/\q<((U.je (U.jc d)).length:Int))/\n∈U.on t q):=by
 have m:=fun s=>h.wnt H s
 refine⟨?_,fun n=> ?_⟩
 .refine jId.2 ?_;unfold U.jby;refine List.Pairwise.imp_of_mem ?_ (List.Pairwise.filter _ (jxi _));intro a b G c r e;have f:=jHc.1 G;have g:=jHc.1 c;obtain⟨i,u,A,hi,D,_,rfl⟩:=h.form.1 ((m _).1 f.1);obtain⟨j,v,B,I,E,_,rfl⟩:=h.form.1 ((m _).1 g.1);have C:(A:Int)=q:=of_decide_eq_true f.2;have K:(B:Int)=q:=of_decide_eq_true g.2;have w:(u:Int)=(v:Int):=e;have w:u=v:=(by omega);have F:A=B:=(by omega);subst w;subst F;have:i=j:=jqi (jl7 _ _ _) hi I (D.trans E.symm);subst this;exact r rfl
 .rw[jHm];constructor
  .rintro⟨s,k,rfl⟩;have k:=jHc.1 k;obtain⟨i,b,p,hi,e,z,rfl⟩:=h.form.1 ((m _).1 k.1);have C:(p:Int)=q:=of_decide_eq_true k.2;refine⟨by omega,?_⟩;unfold U.on U.yy;refine jHm.2 ⟨b,jHc.2 ⟨jG4.2 (by rw[h.len];exact z.1),?_⟩,rfl⟩;rw[<-C];exact z.2.2
  .rintro⟨J,y⟩;unfold U.on U.yy at y;obtain⟨b,c,rfl⟩:=jHm.1 y;have c:=jHc.1 c;have o:=jG4.1 c.1;have x:(b,q.toNat)∈U.gG t (U.je (U.jc d)).length (U.jm d).length:=jnz.2 ⟨by rw[<-h.len];exact o,by show q.toNat<_;omega,by
    show U.jG (nth t b) ((q.toNat:Nat):Int)=true;rw[show((q.toNat:Nat):Int)=q by omega];exact c.2⟩
   obtain⟨i,hi,e⟩:=L.mem_iff.1 x;refine⟨U.jBt i (b,q.toNat),jHc.2 ⟨(m _).2 (h.form.2 ⟨i,b,q.toNat,hi,e,jnz.1 x,rfl⟩),decide_eq_true ?_⟩,rfl⟩;show((q.toNat:Nat):Int)=q;omega
theorem jrl.stand {d:DyD} {t:List Int} {l:List ShD} (h:jrl d t l) (e:U.wG (U.jV d l)=0):
 (U.joL (U.jV d l)).2=[]/\∀q:Int,U.jis (U.jV d l) q (U.jby (U.jV d l) q)=(U.jby (U.jV d l) q).map U.vq:=by
 refine jAs e fun q=> ?_
 obtain⟨a,c⟩:=h.bks e q;refine⟨a,fun b i=> ?_,?_⟩
 .have:=jup ((c b).1 i).2;have k:=h.len;show 0<=b/\b<((U.jm d).length:Int);omega
 .by_cases f:0<=q/\q<((U.je (U.jc d)).length:Int)
  .have j:=L.perm_of_nodup a (jfm t q) fun n=>(c n).trans ⟨fun g=>g.2,fun g=>⟨f,g⟩⟩
   have:=(jgc.1 h.pl).2 q.toNat (by omega);rw[show((q.toNat:Nat):Int)=q by omega] at this;show U.zg d q _=true;rw[jhc d q j a];exact this
  .have:(U.jby (U.jV d l) q).map U.vq=[]:=jIm.2 fun n a=>f ((c n).1 a).1
   rw[this];exact jAd (jFr h.day) q
theorem jrl.teams {d:DyD} {t:List Int} {l:List ShD} (h:jrl d t l) (k:U.wG (U.jV d l)=0):(U.joL (U.jV d l)).1=t:=by
 have o:=(qi (U.jV d l)).trans k;have m:=jdS o;have r:=(jcp.1 h.day).1;have v:=(jaF r.1).2;refine L.ext_nth (m.len.trans h.len.symm) fun b j=> ?_
 have j:b<(U.jm d).length:=(by have:=m.len;have e:(U.jm (U.jV d l)).length=(U.jm d).length:=rfl;omega);have q:=h.rng _ (L.mem_nth (l:=t) (i:=b) (by rw[h.len];exact j));have u:(2:Int)^(U.je (U.jc d)).length=((2^(U.je (U.jc d)).length:Nat):Int):=(by rw[BT.two_nat]);have a:BT.Set' (nth t b):=(by unfold BT.Set';omega);refine BT.ext (m.set b j) a fun p=>jHs.2 ?_
 rw[m.bit b j p];have f:nth (U.wa (U.qa (U.jV d l))) p=(U.jby (U.jV d l) (p:Int)).map U.vq:=(jFg o p).trans ((h.stand k).2 (p:Int));show p<(U.je (U.jc d)).length/\(b:Int)∈nth (U.wa (U.qa (U.jV d l))) p↔_;rw[f,(h.bks k (p:Int)).2];have n:(b:Int)∈U.on t (p:Int)↔BT.has (nth t b) p=true:=by
  unfold U.on U.yy;rw[jHm];constructor
  .rintro⟨c,k,e⟩;have:c=b:=(by omega);subst this;have:=(jHc.1 k).2;rw[jaM a] at this;exact this
  .intro g;exact⟨b,jHc.2 ⟨jG4.2 (by rw[h.len];exact j),by rw[jaM a];exact g⟩,rfl⟩
 rw[n];refine⟨fun g=>g.2.2,fun g=> ?_⟩;have s:=BT.has_lt q.1 q.2 g;exact⟨s,by omega,g⟩
end Go.X
namespace Go.X
theorem jBd {α:Type} [Inhabited α] {R:α->α->Prop} {l:List α} (h:l.Pairwise R) {i j:Nat} (a:i<j) (b:j<l.length):R (nth l i) (nth l j):=by
 rw[L.nth_lt (by omega),L.nth_lt b];exact jHO.1 h i j (by omega) b a
end Go.X
namespace Go.X
open Go.Proofs
def jr1:jT:=⟨[.val tDy],[.bool],false,fun _=>[],fun d=>(!U.jfX d.1&&decide (U.wG d.1=0),())⟩
def jrB:Prop:=∀(d:DyD×Unit),((!U.jfX d.1)=true->(U.jm d.1).length<=1000000)/\(!U.jfX d.1&&decide (U.wG d.1=0),())=(!U.jfX d.1&&decide (U.wG d.1=0),())
def jpu:jT:=⟨[.val tCr,.val .int],[.bool],false,fun d=>[U.jj d.1=true],fun d=>(U.jic d.1 d.2.1,())⟩
abbrev q135_0 (d:CrD×Int×Unit):=(d.1.2.1.length:Int)
def jo6:Prop:=∀(d:CrD×Int×Unit),U.jj d.1=true->d.1.2.1.length<4611686018427387904->0<=(q135_0 d)/\(q135_0 d)<=18446744073709551615/\0<=(q135_0 d)/\(q135_0 d)<=64/\jw ((1:Int)*2^(q135_0 d).toNat)/\jw ((1:Int)*2^(q135_0 d).toNat-1)/\(U.ja d.2.1 (0:Int) ((1:Int)*2^(q135_0 d).toNat-1),())=(U.jic d.1 d.2.1,())
end Go.X
namespace Go.X
open Go.Proofs
theorem jwa:jrB:=by
 rintro⟨d,⟨⟩⟩;refine⟨fun h=> ?_,rfl⟩;have h:(!U.jfX d)=true:=h;rw[jHw] at h;have:=(jon (d:=d) h).2.2.1;show(U.jm d).length<=1000000;omega
theorem jsE:zk PR 7 jr1:=jU jwa Tryz.func7 (kcC jyB (kcC jd6 kcN)) koN
theorem jtd:jo6:=by
 unfold jo6 q135_0;rintro⟨c,t,⟨⟩⟩ d _;have b:(U.je c).length<=8:=(jA d).2.2.1;have a:(2:Int)^(U.je c).length=((2^(U.je c).length:Nat):Int):=(by rw[BT.two_nat]);have f:2^(U.je c).length<=2^8:=Nat.pow_le_pow_right (by omega) b;have e:(2:Int)^(((U.je c).length:Nat):Int).toNat=((2^(U.je c).length:Nat):Int):=(by rw[jG1];exact a);have g:0<2^(U.je c).length:=Nat.pow_pos (by omega);refine⟨jHi _,by show((U.je c).length:Int)<=_;omega,jHi _,by show((U.je c).length:Int)<=_;omega,?_,?_,?_⟩
 .show jw (1*(2:Int)^(((U.je c).length:Nat):Int).toNat);rw[e];exact L.in64 (by omega) (by omega)
 .show jw (1*(2:Int)^(((U.je c).length:Nat):Int).toNat-1);rw[e];exact L.in64 (by omega) (by omega)
 .show(U.ja t 0 (1*(2:Int)^(((U.je c).length:Nat):Int).toNat-1),())=(U.jic c t,());unfold U.jic;rw[e,a,Int.one_mul]
theorem jqd:zk PR 22 jpu:=jU jtd Tryz.func22 (kcC jb2 kcN) koN
end Go.X

namespace Go.X
theorem jrR (l:List ShD) (t:Int) (i:Nat):U.jz l t (i+1)=U.jz l t i++[nth l (((i:Int)+t).tmod (l.length:Int)).toNat]:=by
 unfold U.jz;rw[jHn,jHH];rfl
theorem jlW (l:List ShD) (t:Int) (i:Nat):(U.jz l t i).length=i:=by unfold U.jz;simp
theorem jvi {l:List ShD} {t:Int} (f:0<=t) (s:ShD):s∈U.jz l t l.length↔s∈l:=by
 unfold U.jz;rw[jHm];constructor
 .rintro⟨k,hk,rfl⟩;have hk:=jG4.1 hk;have b:=Int.tmod_lt_of_pos ((k:Int)+t) (show(0:Int)<(l.length:Int) by omega);have d:=Int.tmod_nonneg (l.length:Int) (show(0:Int)<=(k:Int)+t by omega);exact L.mem_nth (by omega)
 .intro h;obtain⟨i,hi,rfl⟩:=L.mem_iff.1 h;have c:(0:Int)<(l.length:Int):=(by omega);have b:=Int.emod_lt_of_pos ((i:Int)-t) c;have a:=Int.emod_nonneg ((i:Int)-t) (show(l.length:Int)≠0 by omega);refine⟨(((i:Int)-t)%(l.length:Int)).toNat,jG4.2 (by omega),?_⟩;have e:((((((i:Int)-t)%(l.length:Int)).toNat:Nat):Int)+t).tmod (l.length:Int)=(i:Int):=by
   rw[Int.toNat_of_nonneg a,Int.tmod_eq_emod_of_nonneg (by omega),Int.emod_add_emod,Int.sub_add_cancel];exact Int.emod_eq_of_lt (by omega) (by omega)
  rw[e,jG1]
theorem jdZ {d:DyD}:∀(k:Nat) (t:List Int),(∀x∈t,0<=x/\x<2^(U.je (U.jc d)).length)->∀l∈U.qy d k t,U.jP d l=true/\l.length=(U.jm d).length/\∀x∈l,0<=x/\x<2^(U.je (U.jc d)).length
 |0,_,_,l,a=>by cases a
 |k+1,t,c,l,a=>by
  unfold U.qy at a
  split at a
  .rename_i f
   split at a
   .rename_i g
    have e:=jIj.1 a
    subst e
    exact⟨f,g,c⟩
   .obtain⟨i,hi,a⟩:=jIp.1 a
    have hi:=jG4.1 hi
    have h:(2:Int)^(U.je (U.jc d)).length=((2^(U.je (U.jc d)).length:Nat):Int):=by rw[BT.two_nat]
    refine jdZ k _ (fun x b=> ?_) l a
    rcases jG5.1 b with b|b
    .exact c x b
    .rw[jIj.1 b]
     omega
  .cases a
theorem jzE {c:CrD} {j:JbD} {t:Int} (h:U.qg c j t=true):0<t:=by
 unfold U.qg at h;rw[jGW] at h;exact of_decide_eq_true h.1
theorem jjE {d:DyD} (h:U.wG d=0) (k:U.kd d=0):U.jo d∈U.jnA d/\U.wc d=U.j9 d (U.jo d)/\∀o∈U.jnA d,U.wc d<=U.j9 d o/\(U.wc d=U.j9 d o->o≠U.jo d->Lex (U.jo d) o):=by
 have a:=(jjD d).symm.trans k;obtain⟨_,r⟩:=jnC a;obtain⟨j,l,e,n,p⟩:=jmK d (U.jnA d) (U.jnA d).length (by omega) (jGY _);have c:U.jo d=nth (U.jnA d) j:=by
  rw[jDM];unfold U.jGi;rw[if_pos a,e]
 have f:U.wc d=U.j9 d (nth (U.jnA d) j):=by
  rw[jDL];unfold U.jGh;rw[if_pos a,e]
 rw[c,f];refine⟨L.mem_nth l,rfl,fun o m=> ?_⟩;obtain⟨i,hi,rfl⟩:=L.mem_iff.1 m;refine⟨n i hi,fun q b=> ?_⟩;rcases Nat.lt_trichotomy i j with g|g|g
 .have:=p i g;omega
 .subst g;exact absurd rfl b
 .exact jBd (jpR 5 []) g hi
theorem jBb {d:DyD} (h:U.wG d=0) {o:List Int} (f:o.length=(U.jm d).length) (g:∀x∈o,0<=x/\x<2^(U.je (U.jc d)).length) (b:U.jP d o=true):o∈U.jnA d:=by
 have a:=(jcp.1 h).1;have e:(U.jm d).length<=4:=(zc a.2.2).1;refine jpS a f (fun x c=>⟨?_,(g x c).2⟩) b 5 0 (jG7 _) (by omega);obtain⟨i,hi,rfl⟩:=L.mem_iff.1 c;exact jzE ((jgc.1 b).1 i hi)
theorem jFs {a b:List Int} (h:Lex a b) {i:Nat} (e:∀j:Nat,j<i->nth b j=nth a j) (f:nth b i≠nth a i):nth a i<nth b i:=by
 obtain⟨m,_,_,c,d⟩:=h;rcases Nat.lt_trichotomy m i with g|g|g
 .have:=e m g;omega
 .subst g;exact d
 .exact absurd (c i g).symm f
theorem jym (t:List Int) (b n:Nat):U.jgF t b (n+1)=U.jgF t b n++(if U.jG (nth t b) (n:Int)=true then[(b,n)] else[]):=by
 unfold U.jgF;rw[L.range_filter_succ,jHH];by_cases h:U.jG (nth t b) (n:Int)=true
 .rw[if_pos h,if_pos h];rfl
 .rw[if_neg h,if_neg h];rfl
theorem jyl (t:List Int) (a n:Nat):U.gG t a (n+1)=U.gG t a n++U.jgF t n a:=by
 unfold U.gG;rw[jHn,List.flatMap_append];simp
theorem jA9 (t:List Int) (b n:Nat):(U.jgF t b n).length<=n:=by
 unfold U.jgF;rw[jHX];have:=jH3 (fun(p:Nat)=>U.jG (nth t b) (p:Int)) (List.range n);rw[List.length_range] at this;exact this
theorem jrl.served {d:DyD} {t:List Int} {l:List ShD} (h:jrl d t l) (a:U.wG (U.jV d l)=0):(U.jgr (U.jV d l)).length=t.length:=by
 have c:U.jDq (U.jV d l)=t:=(by unfold U.jDq;rw[if_pos a,h.teams a]);rw[jDw];unfold U.jGC U.jCF;rw[if_pos a,c,jHX];have e:(List.range t.length).filter (U.jGB (U.jV d l) t)=List.range t.length:=
  List.filter_eq_self.2 fun b f=>(jgc.1 h.pl).1 b (jG4.1 f)
 rw[e,List.length_range]
theorem jrl.refused {d:DyD} {t:List Int} {l:List ShD} (h:jrl d t l) (a:U.wG (U.jV d l)=0):U.jbR (U.jV d l)=[]:=by
 rw[jyd,if_pos a,(h.stand a).1];rfl
end Go.X
namespace Go.X
open Go.Proofs
end Go.X
namespace Go.X
open Go.Proofs
theorem jCR {α:Type} [DecidableEq α] {a b:α} (h:decide (a≠b)=false):a=b:=Decidable.not_not.1 (of_decide_eq_false h)
end Go.X
namespace Go.X
open Go.Proofs
end Go.X
namespace Go.X
open Go.Proofs
namespace U
def zi (d:DyD) (t:List Int) (b:Nat):List ShD:=jnn (gG t (je (jc d)).length b)
def qE (d:DyD) (t:List Int) (b p:Nat):List ShD:=jnn (gG t (je (jc d)).length b++jgF t b p)
def jAP (d:DyD) (t:List Int) (n:Nat):Prop:=∀j:Nat,j<n->jic (jc d) (nth t j)=true
end U
def jc3:jT:=jy3 [tDy,.slice .int,.int]
def jdg:Ann:=fun r=>match r with
 |11=>some fun σ=>{X:=Nat,sl:=fun b=>[(11,.dat .int (b:Int)),(10,.own 10 tSh)],ob:=fun b=>[(10,some (.row 55 tSh false .yes (U.zi (gb tDy σ 3) (gd (.slice .int) σ 7) b)))],inv:=fun b=>b<=(gd (.slice .int) σ 7).length,mu:=fun b=>(gd (.slice .int) σ 7).length-b}
 |14=>some fun σ=>{X:=Nat,sl:=fun p=>[(12,.dat .int (p:Int)),(10,.own 10 tSh)],ob:=fun p=>[(10,some (.row 55 tSh false .yes (U.qE (gb tDy σ 3) (gd (.slice .int) σ 7) (gd .int σ 11).toNat p)))],inv:=fun p=>p<=(U.je (U.jc (gb tDy σ 3))).length,mu:=fun p=>(U.je (U.jc (gb tDy σ 3))).length-p}
 |21=>some fun σ=>{X:=Nat,sl:=fun i=>[(14,.dat .int (i:Int))],ob:=fun i=>[(13,some (.box 30 false ((bx σ 13).set 7 (.own (yf 13 7) tSh)))),(yf 13 7,some (.row 55 tSh false .yes (U.jz (gr tSh σ 10) (gd .int σ 2) i)))],inv:=fun i=>i<=(gr tSh σ 10).length,mu:=fun i=>(gr tSh σ 10).length-i}
 |32=>some fun σ=>{X:=Nat,sl:=fun b=>[(21,.dat .int (b:Int))],ob:=fun _=>[],inv:=fun b=>b<=(gd (.slice .int) σ 1).length/\U.jAP (gb tDy σ 3) (gd (.slice .int) σ 1) b,mu:=fun b=>(gd (.slice .int) σ 1).length-b}
 |41=>some fun σ=>{X:=Nat,sl:=fun b=>[(22,.dat .int (b:Int))],ob:=fun _=>[],inv:=fun b=>b<=(gd (.slice .int) σ 1).length/\∀j:Nat,j<b->nth (gd (.slice .int) σ 1) j=nth (gd (.slice .int) σ 7) j,mu:=fun b=>(gd (.slice .int) σ 1).length-b}
 |_=>none
abbrev q136_2 (d:DyD×List Int×Int×Unit)(x:Nat):=(U.zi d.1 (U.jo d.1) x)
abbrev q136_0 (d:DyD×List Int×Int×Unit)(x:Nat)(a:Nat):=(d.1.1,d.1.2.1,d.1.2.2.1,d.1.2.2.2.1,d.1.2.2.2.2.1,U.jz (q136_2 d x) d.2.2.1 a,())
abbrev q136_5 (x:Nat)(d:DyD×List Int×Int×Unit):=((x:Int)<(d.2.1.length:Int))
abbrev q136_7 (d:DyD×List Int×Int×Unit):=(d.1.1.1=d.1.1.1/\d.1.1.2.1=d.1.1.2.1/\d.1.1.2.2.1=d.1.1.2.2.1/\d.1.2.1=d.1.2.1/\d.1.2.2.1=d.1.2.2.1/\d.1.2.2.2.1=d.1.2.2.2.1/\d.1.2.2.2.2.1=d.1.2.2.2.2.1/\True/\True)
abbrev q136_8 (d:DyD×List Int×Int×Unit)(x:Nat)(a:Nat):=(U.qE d.1 (U.jo d.1) (x:Int).toNat a)
abbrev q136_9 (d:DyD×List Int×Int×Unit):=(decide (U.kd d.1≠0)||decide (U.j9 d.1 d.2.1<U.wc d.1))
abbrev q136_10 (x:Nat)(d:DyD×List Int×Int×Unit):=(decide (q136_5 x d)&&decide (U.j9 d.1 d.2.1=U.wc d.1))
abbrev q136_11 (d:DyD×List Int×Int×Unit):=(!(!U.jfX d.1&&decide (U.wG d.1=0))||U.jmB d.1||decide (20<(d.2.1.length:Int))||decide (d.2.2.1<0)||decide (1000<d.2.2.1))
abbrev q136_12 (d:DyD×List Int×Int×Unit):=(↑(U.jo d.1).length:Int)
abbrev q136_4 (d:DyD×List Int×Int×Unit):=((q136_12 d)≠(d.1.2.2.1.length:Int))
abbrev q136_13:=(Ty.int.pair (Ty.int.pair Ty.unit))
abbrev q136_14 (d:DyD×List Int×Int×Unit):=((d.2.1.length:Int)≠(d.1.2.2.1.length:Int))
abbrev q136_15 (x:Nat)(a:Nat):=(((x:Int)+1=(a:Int)/\True)/\True)
abbrev q136_16 (d:DyD×List Int×Int×Unit)(x:Nat):=(↑(q136_2 d x).length:Int)
abbrev q136_17 (x:Nat):=((0=(x:Int)/\True)/\True)
abbrev q136_18 (d:DyD×List Int×Int×Unit)(x:Nat)(a:Nat):=((↑(q136_8 d x a).length:Int),((↑(q136_8 d x a).length:Int)*7).tmod (5:Int),(1:Int),(x:Int),(a:Int),())
abbrev q136_19 (d:DyD×List Int×Int×Unit)(x:Nat):=(nth d.2.1 (x:Int).toNat≠nth (U.jo d.1) (x:Int).toNat)
abbrev q136_3 (d:DyD×List Int×Int×Unit)(x:Nat):=(decide (q136_19 d x)=true->0<=(x:Int)/\(x:Int)<(d.2.1.length:Int)/\0<=(x:Int)/\(x:Int)<(q136_12 d)/\(decide (nth (U.jo d.1) (x:Int).toNat<nth d.2.1 (x:Int).toNat)&&true,())=(true,()))
abbrev q136_20 (d:DyD×List Int×Int×Unit)(x:Nat)(a:Nat):=(U.ju (q136_0 d x a)≠0)
abbrev q136_1 (d:DyD×List Int×Int×Unit)(x:Nat)(a:Nat):=(decide (q136_20 d x a)||decide (q136_20 d x a)||decide (q136_20 d x a)|| !decide (U.jbD (q136_0 d x a)=U.jo d.1)||decide ((0:Int)<(↑(U.jbR (q136_0 d x a)).length:Int))||decide ((↑(U.jgr (q136_0 d x a)).length:Int)≠(q136_12 d)))
abbrev q136_6 (d:DyD×List Int×Int×Unit)(x:Nat)(a:Nat):=(!(decide (q136_20 d x a)||decide (q136_20 d x a)||decide (q136_20 d x a)|| !decide (U.jbD (q136_0 d x a)=U.jo d.1)||decide ((0:Int)<(↑(U.jbR (q136_0 d x a)).length:Int))))
abbrev q136_21 (d:DyD×List Int×Int×Unit):=(decide (q136_4 d)|| !U.jP d.1 (U.jo d.1)||decide (U.wc d.1≠U.j9 d.1 (U.jo d.1)))
abbrev q136_22 (d:DyD×List Int×Int×Unit)(x:Nat):=(!U.jic d.1.1 (nth d.2.1 (x:Int).toNat))
abbrev q136_23:=(Ty.int.pair (Ty.int.pair (Ty.int.pair q136_13)))
def jcX:Prop:=∀(d:DyD×List Int×Int×Unit),jok 1048576 [(Ty.int.pair ((Ty.int.slice.pair (Ty.int.pair (Ty.int.pair (Ty.int.slice.pair (Ty.bool.pair (Ty.int.pair Ty.unit)))))).slice.pair ((Ty.int.pair (Ty.int.pair (Ty.bool.pair Ty.unit))).slice.pair Ty.unit))).pair (q136_13.slice.slice.pair (((Ty.int.pair q136_23).pair (Ty.int.pair q136_13)).slice.pair (Ty.int.pair (Ty.int.pair (q136_23.slice.pair Ty.unit))))),Ty.int.slice,Ty.int] d->((!!(!U.jfX d.1&&decide (U.wG d.1=0)))=true->(U.jm d.1).length<=1000000)/\(((!(!(!U.jfX d.1&&decide (U.wG d.1=0))||U.jmB d.1))=true->d.2.1.length<4611686018427387904)->((q136_11 d)=true->(true,())=(true,()))/\((q136_11 d)=false->(U.kl d.1).length<=100000/\((decide (U.kd d.1≠0)&&decide (U.kd d.1≠3))=true->(false,())=(true,()))/\((decide (U.kd d.1≠0)&&decide (U.kd d.1≠3))=false->(decide (U.kd d.1=0)=true->(U.jo d.1).length<4611686018427387904->d.1.2.2.1.length<4611686018427387904->((!decide (q136_4 d))=true->U.vK d.1)/\((!decide (q136_4 d))=true->U.jvY d.1 (U.jo d.1))/\((!(decide (q136_4 d)|| !U.jP d.1 (U.jo d.1)))=true->U.vK d.1)/\((!(decide (q136_4 d)|| !U.jP d.1 (U.jo d.1)))=true->(U.jo d.1).length<=100)/\((q136_21 d)=true->(false,())=(true,()))/\((q136_21 d)=false->(∃(x:Nat),((0=(x:Int)/\True/\True)/\U.zi d.1 (U.jo d.1) x=[]/\True)/\x<=(U.jo d.1).length)/\∀(x:Nat),x<=(U.jo d.1).length->(U.jo d.1).length<4611686018427387904->(decide ((x:Int)<(q136_12 d))=true->(∃(a:Nat),((0=(a:Int)/\True/\True)/\U.zi d.1 (U.jo d.1) x=U.qE d.1 (U.jo d.1) (x:Int).toNat a/\True)/\a<=(U.je (U.jc d.1)).length)/\∀(a:Nat),a<=(U.je (U.jc d.1)).length->d.1.1.2.1.length<4611686018427387904->(decide ((a:Int)<(d.1.1.2.1.length:Int))=true->0<=(x:Int)/\(x:Int)<(q136_12 d)/\(0<=(a:Int)/\(a:Int)<=63)/\(U.jG (nth (U.jo d.1) (x:Int).toNat) (a:Int)=true->(q136_8 d x a).length<4611686018427387904->(q136_8 d x a).length<4611686018427387904->jw ((↑(q136_8 d x a).length:Int)*7)/\(5:Int)≠0/\((q136_8 d x a).length+[(q136_18 d x a)].length)*40<=140737488355328/\jw ((a:Int)+1)/\∃(b:Nat),(((a:Int)+1=(b:Int)/\True/\True)/\U.qE d.1 (U.jo d.1) (x:Int).toNat a++[(q136_18 d x a)]=U.qE d.1 (U.jo d.1) (x:Int).toNat b/\True)/\b<=(U.je (U.jc d.1)).length/\(U.je (U.jc d.1)).length-b<(U.je (U.jc d.1)).length-a)/\(U.jG (nth (U.jo d.1) (x:Int).toNat) (a:Int)=false->jw ((a:Int)+1)/\∃(b:Nat),((True/\(a:Int)+1=(b:Int)/\True)/\U.qE d.1 (U.jo d.1) (x:Int).toNat a=U.qE d.1 (U.jo d.1) (x:Int).toNat b/\True)/\b<=(U.je (U.jc d.1)).length/\(U.je (U.jc d.1)).length-b<(U.je (U.jc d.1)).length-a))/\(decide ((a:Int)<(d.1.1.2.1.length:Int))=false->jw ((x:Int)+1)/\∃(b:Nat),(((x:Int)+1=(b:Int)/\True/\True)/\U.qE d.1 (U.jo d.1) (x:Int).toNat a=U.zi d.1 (U.jo d.1) b/\True)/\b<=(U.jo d.1).length/\(U.jo d.1).length-b<(U.jo d.1).length-x))/\(decide ((x:Int)<(q136_12 d))=false->U.jji d.1/\(∃(a:Nat),((0=(a:Int)/\True)/\(q136_7 d)/\U.jz (q136_2 d x) d.2.2.1 a=[]/\True)/\a<=(q136_2 d x).length)/\∀(a:Nat),a<=(q136_2 d x).length->(q136_2 d x).length<4611686018427387904->(decide ((a:Int)<(q136_16 d x))=true->jw ((a:Int)+d.2.2.1)/\(q136_16 d x)≠0/\(0:Int)<=((a:Int)+d.2.2.1).tmod (q136_16 d x)/\((a:Int)+d.2.2.1).tmod (q136_16 d x)<(q136_16 d x)/\((U.jz (q136_2 d x) d.2.2.1 a).length+[nth (q136_2 d x) (((a:Int)+d.2.2.1).tmod (q136_16 d x)).toNat].length)*40<=140737488355328/\jw ((a:Int)+1)/\∃(b:Nat),(((a:Int)+1=(b:Int)/\True)/\(q136_7 d)/\U.jz (q136_2 d x) d.2.2.1 a++[nth (q136_2 d x) (((a:Int)+d.2.2.1).tmod (q136_16 d x)).toNat]=U.jz (q136_2 d x) d.2.2.1 b/\True)/\b<=(q136_2 d x).length/\(q136_2 d x).length-b<(q136_2 d x).length-a)/\(decide ((a:Int)<(q136_16 d x))=false->(U.kl (q136_0 d x a)).length<=100000/\(U.kl (q136_0 d x a)).length<=100000/\(U.kl (q136_0 d x a)).length<=100000/\(((!(decide (q136_20 d x a)||decide (q136_20 d x a)||decide (q136_20 d x a)|| !decide (U.jbD (q136_0 d x a)=U.jo d.1)))=true->(U.jbR (q136_0 d x a)).length<4611686018427387904)->((q136_6 d x a)=true->(U.jgr (q136_0 d x a)).length<4611686018427387904)->((q136_6 d x a)=true->(U.jo d.1).length<4611686018427387904)->((q136_1 d x a)=true->(false,())=(true,()))/\((q136_1 d x a)=false->d.2.1.length<4611686018427387904->d.1.2.2.1.length<4611686018427387904->(decide (q136_14 d)=true->(true,())=(true,()))/\(decide (q136_14 d)=false->(∃(x:Nat),(q136_17 x)/\x<=d.2.1.length/\U.jAP d.1 d.2.1 x)/\∀(x:Nat),x<=d.2.1.length/\U.jAP d.1 d.2.1 x->d.2.1.length<4611686018427387904->(decide (q136_5 x d)=true->0<=(x:Int)/\(x:Int)<(d.2.1.length:Int)/\U.jj d.1.1=true/\((q136_22 d x)=true->(true,())=(true,()))/\((q136_22 d x)=false->jw ((x:Int)+1)/\∃(b:Nat),(q136_15 x b)/\(b<=d.2.1.length/\U.jAP d.1 d.2.1 b)/\d.2.1.length-b<d.2.1.length-x))/\(decide (q136_5 x d)=false->U.vK d.1/\U.jvY d.1 d.2.1/\((!U.jP d.1 d.2.1)=true->(true,())=(true,()))/\((!U.jP d.1 d.2.1)=false->((!decide (U.kd d.1≠0))=true->U.vK d.1)/\((!decide (U.kd d.1≠0))=true->d.2.1.length<=100)/\((q136_9 d)=true->(false,())=(true,()))/\((q136_9 d)=false->(∃(x:Nat),(q136_17 x)/\x<=d.2.1.length/\∀(j:Nat),j<x->nth d.2.1 j=nth (U.jo d.1) j)/\∀(x:Nat),(x<=d.2.1.length/\∀(j:Nat),j<x->nth d.2.1 j=nth (U.jo d.1) j)->d.2.1.length<4611686018427387904->(decide (q136_5 x d)=true->U.vK d.1)/\(decide (q136_5 x d)=true->d.2.1.length<=100)/\((q136_10 x d)=true->0<=(x:Int)/\(x:Int)<(d.2.1.length:Int)/\0<=(x:Int)/\(x:Int)<(q136_12 d)/\(q136_3 d x)/\(decide (q136_19 d x)=false->jw ((x:Int)+1)/\∃(b:Nat),(q136_15 x b)/\(b<=d.2.1.length/\∀(j:Nat),j<b->nth d.2.1 j=nth (U.jo d.1) j)/\d.2.1.length-b<d.2.1.length-x))/\((q136_10 x d)=false->(true,())=(true,()))))))))))))/\(decide (U.kd d.1=0)=false->d.2.1.length<4611686018427387904->d.1.2.2.1.length<4611686018427387904->(decide (q136_14 d)=true->(true,())=(true,()))/\(decide (q136_14 d)=false->(∃(x:Nat),(q136_17 x)/\x<=d.2.1.length/\U.jAP d.1 d.2.1 x)/\∀(x:Nat),x<=d.2.1.length/\U.jAP d.1 d.2.1 x->d.2.1.length<4611686018427387904->(decide (q136_5 x d)=true->0<=(x:Int)/\(x:Int)<(d.2.1.length:Int)/\U.jj d.1.1=true/\((q136_22 d x)=true->(true,())=(true,()))/\((q136_22 d x)=false->jw ((x:Int)+1)/\∃(b:Nat),(q136_15 x b)/\(b<=d.2.1.length/\U.jAP d.1 d.2.1 b)/\d.2.1.length-b<d.2.1.length-x))/\(decide (q136_5 x d)=false->U.vK d.1/\U.jvY d.1 d.2.1/\((!U.jP d.1 d.2.1)=true->(true,())=(true,()))/\((!U.jP d.1 d.2.1)=false->((!decide (U.kd d.1≠0))=true->U.vK d.1)/\((!decide (U.kd d.1≠0))=true->d.2.1.length<=100)/\((q136_9 d)=true->(false,())=(true,()))/\((q136_9 d)=false->(∃(x:Nat),(q136_17 x)/\x<=d.2.1.length/\∀(j:Nat),j<x->nth d.2.1 j=nth (U.jo d.1) j)/\∀(x:Nat),(x<=d.2.1.length/\∀(j:Nat),j<x->nth d.2.1 j=nth (U.jo d.1) j)->d.2.1.length<4611686018427387904->(decide (q136_5 x d)=true->U.vK d.1)/\(decide (q136_5 x d)=true->d.2.1.length<=100)/\((q136_10 x d)=true->0<=(x:Int)/\(x:Int)<(d.2.1.length:Int)/\0<=(x:Int)/\(x:Int)<(q136_12 d)/\(q136_3 d x)/\(decide (q136_19 d x)=false->jw ((x:Int)+1)/\∃(b:Nat),(q136_15 x b)/\(b<=d.2.1.length/\∀(j:Nat),j<b->nth d.2.1 j=nth (U.jo d.1) j)/\d.2.1.length-b<d.2.1.length-x))/\((q136_10 x d)=false->(true,())=(true,()))))))))))
end Go.X
namespace Go.X
open Go.Proofs
def juj (d:DyD) (o:List Int):Prop:=
 o.length<(4611686018427387904:Nat)->d.snd.snd.fst.length<(4611686018427387904:Nat)->(decide ((↑o.length:Int)≠(↑d.snd.snd.fst.length:Int))=true->(true,())=(true,()))/\(decide ((↑o.length:Int)≠(↑d.snd.snd.fst.length:Int))=false->(∃(x:Nat),(((0:Int)=(↑x:Int)/\True)/\True)/\x<=o.length/\U.jAP d o x)/\∀(x:Nat),x<=o.length/\U.jAP d o x->o.length<(4611686018427387904:Nat)->(decide ((↑x:Int)<(↑o.length:Int))=true->(0:Int)<=(↑x:Int)/\(↑x:Int)<(↑o.length:Int)/\U.jj d.fst=true/\((!U.jic d.fst (nth o (↑x:Int).toNat))=true->(true,())=(true,()))/\((!U.jic d.fst (nth o (↑x:Int).toNat))=false->jw ((↑x:Int)+(1:Int))/\∃(a:Nat),(((↑x:Int)+(1:Int)=(↑a:Int)/\True)/\True)/\(a<=o.length/\U.jAP d o a)/\o.length-a<o.length-x))/\(decide ((↑x:Int)<(↑o.length:Int))=false->U.vK d/\U.jvY d o/\((!U.jP d o)=true->(true,())=(true,()))/\((!U.jP d o)=false->((!decide (U.kd d≠(0:Int)))=true->U.vK d)/\((!decide (U.kd d≠(0:Int)))=true->o.length<=(100:Nat))/\((decide (U.kd d≠(0:Int))||decide (U.j9 d o<U.wc d))=true->(false,())=(true,()))/\((decide (U.kd d≠(0:Int))||decide (U.j9 d o<U.wc d))=false->(∃(x:Nat),(((0:Int)=(↑x:Int)/\True)/\True)/\x<=o.length/\∀(j:Nat),j<x->nth o j=nth (U.jo d) j)/\∀(x:Nat),(x<=o.length/\∀(j:Nat),j<x->nth o j=nth (U.jo d) j)->o.length<(4611686018427387904:Nat)->(decide ((↑x:Int)<(↑o.length:Int))=true->U.vK d)/\(decide ((↑x:Int)<(↑o.length:Int))=true->o.length<=(100:Nat))/\((decide ((↑x:Int)<(↑o.length:Int))&&decide (U.j9 d o=U.wc d))=true->(0:Int)<=(↑x:Int)/\(↑x:Int)<(↑o.length:Int)/\(0:Int)<=(↑x:Int)/\(↑x:Int)<(↑(U.jo d).length:Int)/\(decide (nth o (↑x:Int).toNat≠nth (U.jo d) (↑x:Int).toNat)=true->(0:Int)<=(↑x:Int)/\(↑x:Int)<(↑o.length:Int)/\(0:Int)<=(↑x:Int)/\(↑x:Int)<(↑(U.jo d).length:Int)/\(decide (nth (U.jo d) (↑x:Int).toNat<nth o (↑x:Int).toNat)&&true,())=(true,()))/\(decide (nth o (↑x:Int).toNat≠nth (U.jo d) (↑x:Int).toNat)=false->jw ((↑x:Int)+(1:Int))/\∃(a:Nat),(((↑x:Int)+(1:Int)=(↑a:Int)/\True)/\True)/\(a<=o.length/\∀(j:Nat),j<a->nth o j=nth (U.jo d) j)/\o.length-a<o.length-x))/\((decide ((↑x:Int)<(↑o.length:Int))&&decide (U.j9 d o=U.wc d))=false->(true,())=(true,()))))))
theorem jFc {d:DyD} {o:List Int} (c:U.wG d=0) (q:o.length=(U.jm d).length) (r:∀x∈o,0<=x/\x<2^(U.je (U.jc d)).length) (n:U.jP d o=true) (l:U.kd d=0\/U.kd d=3):
 U.kd d=0/\U.wc d<=U.j9 d o/\(U.j9 d o=U.wc d->∀i:Nat,(∀j:Nat,j<i->nth o j=nth (U.jo d) j)->nth o i≠nth (U.jo d) i->nth (U.jo d) i<nth o i):=by
 have f:=jBb c q r n;have a:U.kd d=0:=by
  rcases l with e|e
  .exact e
  .have b:=(jjD d).symm.trans e;unfold U.jCQ at b;rw[if_pos c] at b;by_cases g:(U.jnA d).length=0
   .rw[List.length_eq_zero_iff.1 g] at f;cases f
   .rw[if_neg g] at b;omega
 obtain⟨_,_,m⟩:=jjE c a;obtain⟨s,t⟩:=m o f;exact⟨a,s,fun k i p h=>jFs (t k.symm fun e=>h (by rw[e])) p h⟩
theorem jBF {c:CrD} {t:Int}:U.jic c t=true↔0<=t/\t<2^(U.je c).length:=by
 unfold U.jic U.ja;rw[jGW,decide_eq_true_iff,decide_eq_true_iff];omega
theorem jyp {d:DyD} {o:List Int} (m:U.wG d=0) (E:(U.jm d).length<=3) (B:U.kd d=0\/U.kd d=3):juj d o:=by
 unfold juj;have a:=(jcp.1 m).1;have F:(U.je (U.jc d)).length<=8:=(jA a.1).2.2.1;have t:=(jaF a.1).2;have C:(2:Int)^(U.je (U.jc d)).length=((2^(U.je (U.jc d)).length:Nat):Int):=(by rw[BT.two_nat]);intro no _;refine⟨fun _=>rfl,fun h=> ?_⟩;have h:(o.length:Int)=((U.jm d).length:Int):=jCR h;have h:o.length=(U.jm d).length:=(by omega);refine⟨⟨0,⟨⟨rfl,trivial⟩,trivial⟩,jG7 _,fun j f=>by omega⟩,fun x ⟨z,w⟩ _=>⟨fun g=> ?_,fun g=> ?_⟩⟩
 .have g:(x:Int)<(o.length:Int):=of_decide_eq_true g;have x0:(0:Int)<=(x:Int):=jHi x;rw[jG1];refine⟨x0,g,a.1,fun _=>rfl,fun k=>⟨L.in64 (by omega) (by omega),x+1,⟨⟨by simp,trivial⟩,trivial⟩,⟨by omega,fun j f=> ?_⟩,by omega⟩⟩;by_cases e:j=x
  .subst e;have k:(!U.jic (U.jc d) (nth o j))=false:=k;rw[jHC] at k;exact k
  .exact w j (by omega)
 .have g:¬(x:Int)<(o.length:Int):=of_decide_eq_false g;have v:∀y∈o,0<=y/\y<2^(U.je (U.jc d)).length:=fun y i=>by
   obtain⟨j,f,rfl⟩:=L.mem_iff.1 i;exact jBF.1 (w j (by omega))
  refine⟨a,⟨by omega,fun y i=> ?_⟩,fun _=>rfl,fun u=> ?_⟩
  .have:=v y i;unfold U.jxb;omega
  .rw[jHC] at u;obtain⟨r,G,D⟩:=jFc m h v u B;have n:=jjE m r;have p:=jdZ 5 [] (fun x z=>by cases z) _ n.1;refine⟨fun _=>a,fun _=>by omega,fun k=> ?_,fun _=>⟨⟨0,⟨⟨rfl,trivial⟩,trivial⟩,jG7 _,fun j f=>by omega⟩,fun y ⟨i,c⟩ _=>⟨fun _=>a,fun _=>by omega,fun k=> ?_,fun _=>rfl⟩⟩⟩
   .rw[r,decide_eq_false (show¬U.j9 d o<U.wc d by omega)] at k;simp at k
   .rw[jGW] at k;have s:(y:Int)<(o.length:Int):=of_decide_eq_true k.1;have A:U.j9 d o=U.wc d:=of_decide_eq_true k.2;have l:(0:Int)<=(y:Int):=jHi y;have b:(y:Int)<((U.jo d).length:Int):=(by have:=p.2.1;omega);rw[jG1];refine⟨l,s,l,b,fun q=>⟨l,s,l,b,?_⟩,fun q=>⟨L.in64 (by omega) (by omega),y+1,⟨⟨by simp,trivial⟩,trivial⟩,⟨by omega,fun j f=> ?_⟩,by omega⟩⟩
    .rw[decide_eq_true (D A y c (of_decide_eq_true q))];rfl
    .by_cases e:j=y
     .subst e;exact jCR q
     .exact c j (by omega)
theorem jeg:jcX:=by
 unfold jcX q136_23 q136_22 q136_21 q136_6 q136_1 q136_20 q136_3 q136_19 q136_18 q136_17 q136_16 q136_15 q136_14 q136_13 q136_4 q136_12 q136_11 q136_10 q136_9 q136_8 q136_7 q136_5 q136_0 q136_2;rintro⟨d,o,t,⟨⟩⟩ _;refine⟨fun h=> ?_,fun _=>⟨fun _=>rfl,fun h=> ?_⟩⟩
 .have h:(!!(!U.jfX d&&decide (U.wG d=0)))=true:=h;rw[Bool.not_not,jGW,jHw] at h;have:=(jon h.1).2.2.1;show(U.jm d).length<=1000000;omega
 have h:(!(!U.jfX d&&decide (U.wG d=0))||U.jmB d||decide ((20:Int)<(o.length:Int))||decide (t<0)||decide ((1000:Int)<t))=false:=h;simp only[jHp,jHC,jGW,jHw] at h;obtain⟨⟨⟨⟨⟨hf,n⟩,j⟩,_⟩,y⟩,z⟩:=h;have n:U.wG d=0:=of_decide_eq_true n;have y:=of_decide_eq_false y;have z:=of_decide_eq_false z;have C:=(jcp.1 n).1;have w:=jon hf;unfold U.jmB at j;rw[decide_eq_true n,Bool.true_and,jHp] at j;have hp4:=of_decide_eq_false j.1;have hb3:=of_decide_eq_false j.2;have K:U.kd d=0\/U.kd d=3:=by
  rw[jjD];unfold U.jCQ;rw[if_pos n]
  split
  .exact .inr rfl
  .exact .inl rfl
 have a:juj d o:=jyp n (by omega) K;have F:(U.kl d).length<=100000:=(by have:=w.2.2.2.1;omega);refine⟨F,fun k=> ?_,fun _=>⟨fun B N nb=> ?_,fun _=>a⟩⟩
 .have k:(decide (U.kd d≠0)&&decide (U.kd d≠3))=true:=k;rw[jGW] at k;rcases K with e|e
  .exact absurd e (of_decide_eq_true k.1)
  .exact absurd e (of_decide_eq_true k.2)
 .have B:U.kd d=0:=of_decide_eq_true B;have v:=jjE n B;have f:=jdZ 5 [] (fun x G=>by cases G) _ v.1;have Y:=v.2.1;have N:(U.jo d).length<4611686018427387904:=N;unfold juj at a;generalize U.jo d=T at*;have q:T.length=(U.jm d).length:=f.2.1;have J:=(jaF C.1).2;have hp2:(2:Int)^(U.je (U.jc d)).length=((2^(U.je (U.jc d)).length:Nat):Int):=(by rw[BT.two_nat]);have H:∀b p:Nat,b<=3->p<=(U.je (U.jc d)).length->(U.qE d T b p).length<=16:=fun b p r E=>by
   unfold U.qE;rw[jnm,jHk];have W:=jix T (U.je (U.jc d)).length b;have h2:=jA9 T b p;have X:b*(U.je (U.jc d)).length<=3*4:=Nat.mul_le_mul r (by omega);omega
  have I:∀b:Nat,b<=3->(U.zi d T b).length<=12:=fun b r=>by
   unfold U.zi;rw[jnm];have W:=jix T (U.je (U.jc d)).length b;have X:b*(U.je (U.jc d)).length<=3*4:=Nat.mul_le_mul r (by omega);omega
  refine⟨fun _=>C,fun _=>⟨by show T.length<=(U.jm d).length;omega,fun x G=> ?_⟩,fun _=>C,fun _=>by show T.length<=100;omega,fun k=> ?_,fun _=>⟨⟨0,⟨⟨rfl,trivial,trivial⟩,rfl,trivial⟩,jG7 _⟩,fun b r _=>⟨fun g=>⟨⟨0,⟨⟨rfl,trivial,trivial⟩,?_,trivial⟩,jG7 _⟩,fun p E _=>⟨fun c=> ?_,fun c=> ?_⟩⟩,fun g=> ?_⟩⟩⟩
  .have:=f.2.2 x G;unfold U.jxb;omega
  .have k:(decide ((T.length:Int)≠((U.jm d).length:Int))|| !U.jP d T||decide (U.wc d≠U.j9 d T))=true:=k;rw[q,f.1,Y] at k;simp at k
  .show U.zi d T b=U.qE d T (b:Int).toNat 0;rw[jG1];unfold U.zi U.qE;rw[show U.jgF T b 0=[] from rfl,jHq]
  .have g:(b:Int)<(T.length:Int):=of_decide_eq_true g;have c:(p:Int)<((U.je (U.jc d)).length:Int):=of_decide_eq_true c;have O:(0:Int)<=(b:Int):=jHi b;have p0:(0:Int)<=(p:Int):=jHi p;have A:=H b p (by omega) (by omega);have es:U.qE d T b (p+1)=U.jnn ((U.gG T (U.je (U.jc d)).length b++U.jgF T b p)++(if U.jG (nth T b) (p:Int)=true then[(b,p)] else[])):=by
    unfold U.qE;rw[jym,jHf]
   simp only[jG1];refine⟨O,g,⟨p0,by omega⟩,fun k _ _=>⟨L.in64 (by omega) (by omega),by omega,?_,L.in64 (by omega) (by omega),p+1,⟨⟨by simp,trivial,trivial⟩,?_,trivial⟩,by show p+1<=(U.je (U.jc d)).length;omega,by show(U.je (U.jc d)).length-(p+1)<(U.je (U.jc d)).length-p;omega⟩,fun k=>⟨L.in64 (by omega) (by omega),p+1,⟨⟨trivial,by simp,trivial⟩,?_,trivial⟩,by show p+1<=(U.je (U.jc d)).length;omega,by show(U.je (U.jc d)).length-(p+1)<(U.je (U.jc d)).length-p;omega⟩⟩
   .show((U.qE d T b p).length+1)*40<=_;omega
   .have k:U.jG (nth T b) (p:Int)=true:=k;show _=U.qE d T b (p+1);rw[es,if_pos k,jxW];show U.qE d T b p++[_]=U.qE d T b p++[U.jBt _ (b,p)];rw[<-jnm];rfl
   .have k:U.jG (nth T b) (p:Int)=false:=k;show _=U.qE d T b (p+1);rw[es,k,if_neg (by simp),jHq];rfl
  .have g:(b:Int)<(T.length:Int):=of_decide_eq_true g;have c:¬(p:Int)<((U.je (U.jc d)).length:Int):=of_decide_eq_false c;have E:p<=(U.je (U.jc d)).length:=E;have ep:p=(U.je (U.jc d)).length:=(by omega);refine⟨L.in64 (by omega) (by omega),b+1,⟨⟨by simp,trivial,trivial⟩,?_,trivial⟩,by show b+1<=T.length;omega,by show T.length-(b+1)<T.length-b;omega⟩;show U.qE d T (b:Int).toNat p=U.zi d T (b+1);rw[jG1,ep];unfold U.qE U.zi;rw[jyl]
  .have r:b<=T.length:=r;have g:¬(b:Int)<(T.length:Int):=of_decide_eq_false g;have S:b=T.length:=(by omega);have lL:=I b (by omega);have eL:U.zi d T b=U.jnn (U.gG T (U.je (U.jc d)).length (U.jm d).length):=(by unfold U.zi;rw[S,q]);generalize U.zi d T b=M at*;refine⟨w,⟨0,⟨⟨rfl,trivial⟩,⟨rfl,rfl,rfl,rfl,rfl,rfl,rfl,trivial,trivial⟩,rfl,trivial⟩,jG7 _⟩,fun i hi _=>⟨fun c=> ?_,fun c=> ?_⟩⟩
   .have c:(i:Int)<(M.length:Int):=of_decide_eq_true c;have i0:(0:Int)<=(i:Int):=jHi i;have m1:=Int.tmod_lt_of_pos ((i:Int)+t) (show(0:Int)<(M.length:Int) by omega);have m2:=Int.tmod_nonneg (M.length:Int) (show(0:Int)<=(i:Int)+t by omega);have Z:=jlW M t i;refine⟨L.in64 (by simp only;omega) (by simp only;omega),by omega,m2,m1,?_,L.in64 (by omega) (by omega),i+1,⟨⟨by simp,trivial⟩,⟨rfl,rfl,rfl,rfl,rfl,rfl,rfl,trivial,trivial⟩,(jrR _ _ _).symm,trivial⟩,by omega,by omega⟩;show((U.jz M t i).length+1)*40<=_;omega
   .have hi:i<=M.length:=hi;have c:¬(i:Int)<(M.length:Int):=of_decide_eq_false c;have V:i=M.length:=(by omega);subst V;have Z:=jlW M t M.length;have hm:=jvi (l:=M) (t:=t) (by omega);have m:jrl d T (U.jz M t M.length):=⟨n,q,f.1,f.2.2,fun s=>(hm s).trans (by rw[eL]),by omega⟩;have u:=m.chk (by omega) (by omega);have D:U.ju (U.jV d (U.jz M t M.length))=0:=(qi _).trans u;have P:U.jbD (U.jV d (U.jz M t M.length))=T:=(by rw[jxu,if_pos u,m.teams u]);have Q:=m.refused u;have R:=m.served u;have A:(U.kl (U.jV d (U.jz M t M.length))).length<=100000:=(by show(U.jz M t M.length).length<=100000;omega);refine⟨A,A,A,fun _ _ _=>⟨fun k=> ?_,fun _=>a⟩⟩;have k:(decide (U.ju (U.jV d (U.jz M t M.length))≠0)||decide (U.ju (U.jV d (U.jz M t M.length))≠0)||decide (U.ju (U.jV d (U.jz M t M.length))≠0)|| !decide (U.jbD (U.jV d (U.jz M t M.length))=T)||decide ((0:Int)<((U.jbR (U.jV d (U.jz M t M.length))).length:Int))||decide (((U.jgr (U.jV d (U.jz M t M.length))).length:Int)≠(T.length:Int)))=true:=k;rw[D,P,Q,R] at k;simp at k
theorem jrr:zk PR 4 jc3:=kI jdg jeg Tryz.func4 (kcC jsE (kcC jnH (kcC jsD (kcC jqb (kcC jnN (kcC jvT (kcC gM (kcC jvU (kcC jma (kcC jhr (kcC jsH (kcC jdm (kcC jqd kcN))))))))))))) koN
end Go.X
namespace Go.X
open Go.Proofs
end Go.X
namespace Go.X
open Go.Proofs Go.Proofs.YtphbhcmpebmadaaGreatDoor
noncomputable def jBE:Array Field:=match Tryz.prog.underlying 47 with|some (.struct fs)=>fs|_=> #[]
theorem jFC:Tryz.prog.globalNamed "handshape/rosters.some"=some 0:=by kernel_rfl
theorem jFB:(Tryz.prog.globals[0]?).map (·.type)=some 47:=by kernel_rfl
theorem jGO:Tryz.prog.underlying 47=some (.struct jBE):=by kernel_rfl
theorem jGP:Tryz.prog.underlying 3=some (.int .i64):=by kernel_rfl
theorem jGQ:Tryz.prog.cellsOf 3=1:=by kernel_rfl
noncomputable def ga (i:Nat):Bool:=match jBE[i]? with|some f=>Nat.beq f.type 3&&Nat.beq f.offset i|none=>false
theorem fields:(ga 0&&ga 1&&ga 2&&ga 3&&ga 4&&ga 5)=true:=by kernel_rfl
theorem jBX {i:Nat} (h:ga i=true):∃f,jBE[i]? =some f/\f.type=3/\f.offset=i:=by
 unfold ga at h
 split at h
 .rename_i f a;rw[jGW] at h;exact⟨f,a,jGT h.1,jGT h.2⟩
 .cases h
theorem jBD {H:Type} {enc:TypeId×Value->H} {w:World} {base:Nat} {sp:Nat->Bool} {a:Bool} {n:Nat} {cs:List Value} {xs:List (DataW H×List MemPlace)} {d:List Int} (o:xs.map (·.1)=d.map fun z=>(DataW.lit (.int .i64 z):DataW H))
 (k:∀(i:Nat) (f:Field),jBE[i]? =some f->DataW.trod enc Tryz.prog w base sp a n f.type ((cs.drop f.offset).take (Tryz.prog.cellsOf f.type))=xs[i]?) {i:Nat} {z:Int} (hi:ga i=true) (q:d[i]? =some z):cs[i]? =some (.int .i64 z):=by
 obtain⟨f,g,h,j⟩:=jBX hi;have b:=k i f g;rw[h,j,jGQ] at b;have c:(xs.map (·.1))[i]? =some (DataW.lit (.int .i64 z):DataW H):=(by rw[o,jIc,q];rfl);rw[jIc] at c;obtain⟨y,p,e⟩:=jIq.1 c;rw[p] at b;obtain⟨m,l,rfl,_⟩:=DataW.trod_int jGP b;have e:m=z:=by
  have e:(DataW.lit (.int .i64 m):DataW H)=DataW.lit (.int .i64 z):=e;simpa only[DataW.lit.injEq,Lit.int.injEq,true_and] using e
 subst e;have:=congrArg (·[0]?) l;simpa[jH9,jHB] using this
theorem jGm {W:World} (h:laidMet Tryz.prog [("handshape/rosters.some",Rows.laid_handshape_rosters_some)] W):jER (Hof W):=by
 obtain⟨ps,⟨H,E,cs,k,p,q,d,f,a,A,_,_⟩,_⟩:=h;obtain rfl:=Option.some.inj (jFC.symm.trans d);obtain rfl:=Option.some.inj (jFB.symm.trans f);obtain⟨xs,n,_,C,I,l,B⟩:=DataW.trod_struct jGO A;have j:xs.map (·.1)=[0,1,0,0,0,1].map fun z=>(DataW.lit (.int .i64 z):DataW Unit):=by
  have e:=congrArg Prod.fst C;have e:(DataW.agg [.lit (.int .i64 0),.lit (.int .i64 1),.lit (.int .i64 0),.lit (.int .i64 0),.lit (.int .i64 0),.lit (.int .i64 1)]:DataW Unit)= .agg (xs.map (·.1)):=e;simp only[DataW.agg.injEq] at e;exact e.symm
 have fs:=fields;simp only[jGW] at fs;obtain⟨⟨⟨⟨⟨o,r⟩,s⟩,u⟩,v⟩,w⟩:=fs;have c:∀{i:Nat} {z:Int},ga i=true->([0,1,0,0,0,1]:List Int)[i]? =some z->cs[i]? =some (.int .i64 z):=fun hi D=>by
  have:=jBD j B hi D;simpa using this
 unfold World.var? at a;rw[jFC] at a;intro g x b;have b:jy [(0,(⟨.st [.int,.int,.int,.int,.int,.int],((0:Int),(1:Int),(0:Int),(0:Int),(0:Int),(1:Int),())⟩:(t:Ty)×t.Data))] g=some x:=b;have y:Hof W 0=some (.cells cs):=by
  unfold Hof;simp only[Option.bind_some] at a
  split at a
  .rename_i F E G e;rw[e];have:=Option.some.inj a;rw[this]
  .cases a
 have m:=zr _ _ _ b;simp only[jIj,Prod.mk.injEq] at m;obtain⟨rfl,rfl⟩:=m;exact⟨cs,y,c o rfl,c r rfl,c s rfl,c u rfl,c v rfl,c w rfl,trivial⟩
end Go.X
