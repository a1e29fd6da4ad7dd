/-
  Part 7 of the road: a checked reading of bodies, and what the functions on it do (X25 X26 C5 PC15 C6 PC16 S6 S7 PC17 DM S8 S9 S10 S11 S12 S13 S14 C7 PC18 S15 S16 C9 PC21 PC22 C10 PC23 C11 LW).
-/
import Derived.Test.YtphbhcmpebmadaaGreatDoorK06
import Derived.Test.YtphbhcmpebmadaaGreatDoorRows
import Derived.WalkKit
import Derived.ProofKit
import Derived.OpenShut
import Derived.JoinedCond
import Derived.Carry
import Derived.ChangeArms
import Derived.Test.YtphbhcmpebmadaaGreatDoorCards
import Derived.Test.YtphbhcmpebmadaaGreatDoorTie
import Derived.Deep.DeepHandedRow
import Derived.Lib.LaidTab
namespace Go.X
open Go.RowKit (Below)
open Go.Proofs.YtphbhcmpebmadaaGreatDoor
def Hof (w:World):Imm:=fun b=>match w.heap[b]? with|some (.cells c _ _)=>some (.cells c)|_=>none
theorem jy9 (w:World) (d:jBL (Hof w)):jaW (Hof w) w:=by
 refine⟨fun b c h=> ?_,d⟩;unfold Hof at h
 split at h
 .rename_i f T a e;simp at h;subst h;exact⟨T,a,e⟩
 .cases h
def Ty.fits (N:Nat):(t:Ty)->t.Data->Prop
 | .int,x=>jD x
 | .bool,_=>True
 | .uint k,x=>k.min<=x/\x<=k.max
 | .slice t,l=>l.length<=N/\∀x∈l,t.fits N x
 | .unit,_=>True
 | .pair a b,d=>a.fits N d.1/\b.fits N d.2
 | .map k v,l=>l.length<=N/\∀x∈l,k.fits N x.1/\v.fits N x.2
 | .ptr t,d=>∀x,d=some x->t.fits N x
theorem Ty.fits_mono {N M:Nat} (h:N<=M):∀(t:Ty) (d:t.Data),t.fits N d->t.fits M d
 | .int,_,k=>k
 | .bool,_,k=>k
 | .uint _,_,k=>k
 | .unit,_,k=>k
 | .slice t,_,k=>⟨jD7 k.1 h,fun x c=>t.fits_mono h x (k.2 x c)⟩
 | .pair a b,_,k=>⟨a.fits_mono h _ k.1,b.fits_mono h _ k.2⟩
 | .map k v,_,q=>⟨jD7 q.1 h,fun x c=>⟨k.fits_mono h _ (q.2 x c).1,v.fits_mono h _ (q.2 x c).2⟩⟩
 | .ptr t,_,k=>fun x c=>t.fits_mono h x (k x c)
def jB3 (P:Program) (go:Nat->Ty->Bool):List Field->Nat->Ty->Bool
 |[],_,.unit=>true
 |f::fs,off,.pair a b=>Nat.beq f.offset off&&Nat.beq (P.cellsOf f.type) a.size&&go f.type a&&jB3 P go fs (off+a.size) b
 |_,_,_=>false
def jAL (P:Program):Nat->Nat->Ty->Bool
 |0,_,_=>false
 |d+1,T,ty=>match ty,P.underlying T with
  | .int,some (.int .i64)=>true
  | .bool,some .bool=>true
  | .uint k,some (.int k')=>gQ k k'
  | .slice t,some (.slice e)=>Nat.beq (P.cellsOf e) t.size&&Nat.ble 1 t.size&&jAL P d e t
  | .pair a b,some (.struct fs)=>Nat.beq (P.cellsOf T) (Ty.pair a b).size&&jB3 P (jAL P d) fs.toList 0 (.pair a b)
  |_,_=>false
section
variable {P:Program} {K:Type} {enc:TypeId×Value->K} {w:World}
theorem jB5 (d:DataW K):1<=Rows.uptoBulk d:=by
 cases d with
 |lit l=>cases l<;>simp[Rows.uptoBulk]
 |_=>simp[Rows.uptoBulk]
theorem jpi (l:List (DataW K)):l.length<=Rows.uptoBulkAll l:=by
 induction l with
 |nil=>simp[Rows.uptoBulkAll]
 |cons x r a=>have:=jB5 x;simp only[Rows.uptoBulkAll,jEr];omega
theorem jAN {d:DataW K} {l:List (DataW K)} (h:d∈l):Rows.uptoBulk d<=Rows.uptoBulkAll l:=by
 induction l with
 |nil=>cases h
 |cons x r a=>
  simp only[Rows.uptoBulkAll];cases jDT.1 h with
  |inl e=>subst e;omega
  |inr e=>have:=a e;omega
theorem jwI {α:Type} {Q:Nat->α->Prop}:∀(n:Nat),(∀i,i<n->∃y,Q i y)->∃l:List α,l.length=n/\∀i y,l[i]? =some y->Q i y
 |0,_=>⟨[],rfl,fun i y h=>by simp at h⟩
 |n+1,h=>by
  obtain⟨l,b,c⟩:=jwI n (fun i hi=>h i (by omega))
  obtain⟨y,d⟩:=h n (by omega)
  refine⟨l++[y],by simp[b],fun i z a=> ?_⟩
  by_cases hi:i<l.length
  .rw[jD4 hi] at a;exact c i z a
  .rw[jD3 (by omega)] at a
   have:i=n:=by
    by_cases e:i-l.length=0
    .omega
    .obtain⟨k,hk⟩:∃k,i-l.length=k+1:=⟨i-l.length-1,by omega⟩;rw[hk] at a;simp at a
   subst this;rw[<-b] at a;simp at a;subst a;exact d
def jCN (P:Program) (w:World) (enc:TypeId×Value->K) (T:Nat) (ty:Ty):Prop:=
 ∀(a:Nat) (cs:List Value) (x:DataW K×List MemPlace),DataW.trod enc P w 0 (fun _=>true) true a T cs=some x->Rows.uptoBulk x.1<=1048576->
  ∃d:ty.Data,ty.rd (Hof w) (fun i=>cs[i]?) d/\cs.length=ty.size/\ty.fits (Rows.uptoBulk x.1) d
theorem jBY {n:Int} (h:(Lit.int .i64 n).wf=true):jD n:=by
 simp[Lit.wf,IntKind.min,IntKind.max,IntKind.signed,IntKind.bits] at h;exact h
theorem jgO {go:Nat->Ty->Bool} (c:∀T ty,go T ty=true->jCN P w enc T ty) {n:Nat} {cs:List Value}:
 ∀(fs:List Field) (off:Nat) (ty:Ty) (xs:List (DataW K×List MemPlace)),jB3 P go fs off ty=true->xs.length=fs.length->
  (∀(i:Nat) (f:Field),fs[i]? =some f->DataW.trod enc P w 0 (fun _=>true) true n f.type ((cs.drop f.offset).take (P.cellsOf f.type))=xs[i]?)->Rows.uptoBulkAll (xs.map (·.1))<=1048576->
  ∃d:ty.Data,ty.rd (Hof w) (fun i=>cs[off+i]?) d/\ty.fits (Rows.uptoBulkAll (xs.map (·.1))) d
 |[],off,ty,xs,h,g,e,j=>by
  cases ty<;>simp[jB3] at h
  exact⟨(),trivial,trivial⟩
 |f::fs,off,ty,[],h,g,e,j=>by simp at g
 |f::fs,off,ty,x::xs,h,g,e,j=>by
  cases ty<;>simp[jB3] at h
  rename_i a b
  obtain⟨⟨⟨q,v⟩,r⟩,s⟩:=h
  simp only[jEV,Rows.uptoBulkAll] at j
  have k:=e 0 f (by simp)
  simp only[List.getElem?_cons_zero] at k
  obtain⟨d,t,y,u⟩:=c _ _ r _ _ _ k (by omega)
  obtain⟨l,o,p⟩:=jgO c fs (off+a.size) b xs s (by simpa using g) (fun i m hi=>by simpa using e (i+1) m (by simpa using hi)) (by omega)
  refine⟨(d,l),⟨?_,?_⟩,?_,?_⟩
  .refine Ty.rd_congr a _ _ _ (fun i hi=> ?_) t
   rw[jEe (by omega),jEu,q]
  .refine Ty.rd_congr b _ _ _ (fun i hi=> ?_) o
   rw[jEY]
  .exact a.fits_mono (by simp[Rows.uptoBulkAll]) _ u
  .exact b.fits_mono (by simp[Rows.uptoBulkAll]) _ p
theorem jdl:∀(d T:Nat) (ty:Ty),jAL P d T ty=true->jCN P w enc T ty
 |0,_,_,h=>by cases h
 |d+1,T,ty,h=>by
  intro fuel cs x B r
  unfold jAL at h
  split at h
  .rename_i u
   obtain⟨n,rfl,rfl,H⟩:=DataW.trod_int u B
   exact⟨n,rfl,rfl,jBY H⟩
  .rename_i u
   obtain⟨b,rfl,rfl⟩:=DataW.trod_bool u B
   exact⟨b,rfl,rfl,trivial⟩
  .rename_i k k' u
   obtain⟨n,rfl,rfl,H⟩:=DataW.trod_int u B
   have:k=k':=by simpa[gQ] using h
   subst this
   refine⟨n,rfl,rfl,?_⟩
   simp[Lit.wf] at H
   exact H
  .rename_i t e u
   simp only[jDV] at h
   obtain⟨⟨L,M⟩,h3⟩:=h
   have e1:=jDQ L
   have e2:=jD5 M
   rcases DataW.trod_slice u B with⟨rfl,rfl⟩|⟨a,len,J,vP,rest,n,_,rfl,rfl,hb,hl,hm,A,D,_,_⟩
   .refine⟨[],⟨none,0,0,rfl,rfl,jDW _,by simp,fun _=>rfl,fun h=>absurd rfl h⟩,rfl,by simp,fun x B=>by simp at B⟩
   .simp only[Rows.uptoBulk] at r
    have key:∀i,i<len->∃y:t.Data,(∃blk,Hof w a.block=some (.cells blk)/\a.spot=none/\t.rd (Hof w) (fun j=>blk[a.off+i*t.size+j]?) y)/\t.fits (Rows.uptoBulkAll (vP.map (·.1))) y:=by
     intro i hi;have h0:=D i hi;have X:vP[i]? =some vP[i]:=jDX (by omega);rw[X,Option.bind_eq_some_iff] at h0;obtain⟨cl,c1,c2⟩:=h0;have Q:Rows.uptoBulk vP[i].1<=Rows.uptoBulkAll (vP.map (·.1)):=jAN (jEx.2 ⟨vP[i],List.getElem_mem _,rfl⟩);obtain⟨y,y1,y2,y3⟩:=jdl d e t h3 _ _ _ c2 (by omega);unfold World.cells? at c1;rw[if_pos (jD6 _),e1] at c1;have z:∀j,j<t.size->w.cell? ((a.add (i*t.size)).add j)=cl[j]? :=fun j O=>by
      have:=mapM_some_get c1 j j (by simp[O]);simpa using this
     have N:cl.length=t.size:=(by simpa using mapM_some_length c1);have I:=z 0 (by omega);have g:cl[0]?≠none:=(by rw[jDX (by omega)];simp);rw[<-I] at g;have m:∃blk T G,w.heap[a.block]? =some (.cells blk T G):=by
      unfold World.cell? at g;have q:((a.add (i*t.size)).add 0).block=a.block:=by unfold Addr.add;simp;split<;>rfl
      rw[q] at g
      split at g
      .rename_i c T G e;exact⟨c,T,G,e⟩
      .exact absurd rfl g
     obtain⟨blk,T',G,m⟩:=m;have p:((a.add (i*t.size)).add 0).spot=none:=by
      unfold World.cell? at g;have q:((a.add (i*t.size)).add 0).block=a.block:=by unfold Addr.add;simp;split<;>rfl
      rw[q,m] at g;simp only at g;cases R:((a.add (i*t.size)).add 0).spot with
      |none=>rfl
      |some s=>rw[R] at g;simp at g
     have hH:Hof w a.block=some (.cells blk):=(by unfold Hof;rw[m]);refine⟨y,⟨blk,hH,?_,?_⟩,t.fits_mono Q _ y3⟩
     .--the first element shows that the address is plain
      have C:=D 0 (by omega);have W:vP[0]? =some vP[0]:=jDX (by omega);rw[W,Option.bind_eq_some_iff] at C;obtain⟨K,F,_⟩:=C;unfold World.cells? at F;rw[if_pos (jD6 _),e1] at F;have v:=mapM_some_get F 0 0 (by rw[List.getElem?_range (by omega)]);have hl0:K.length=t.size:=(by simpa using mapM_some_length F);rw[jDX (by omega)] at v;simp only[Nat.zero_mul] at v;have ea:(a.add 0).add 0=a:=(by unfold Addr.add;simp);rw[ea] at v;unfold World.cell? at v;rw[m] at v;simp only at v;cases R:a.spot with
      |none=>rfl
      |some s=>rw[R] at v;simp at v
     .refine Ty.rd_congr t _ _ _ (fun j O=> ?_) y1;rw[<-z j O];unfold World.cell?;have q:((a.add (i*t.size)).add j).block=a.block:=by unfold Addr.add;split<;>split<;>rfl
      have E:((a.add (i*t.size)).add j).off=a.off+i*t.size+j:=by
       unfold Addr.add;split<;>split<;>simp_all
      have V:((a.add (i*t.size)).add j).spot=none:=by
       have S:(a.add (i*t.size)).spot=none:=by
        have:(a.add (i*t.size)).add 0=a.add (i*t.size):=(by simp[Addr.add]);rw[this] at p;exact p
       unfold Addr.add at S⊢
       split<;>split<;>simp_all
      rw[q,m,E,V];simp
    obtain⟨l,l1,l2⟩:=jwI len key;refine⟨l,⟨some a,len,J,rfl,l1.symm,hl,?_,(fun h=>by cases h),fun g=> ?_⟩,rfl,?_,?_⟩
    .have:=jpi (vP.map (·.1));simp at this;omega
    .have hz:0<l.length:=List.length_pos_iff.2 g;obtain⟨blk,q1,q2,_⟩:=(l2 0 l[0] (jDX hz)).1;refine⟨a.block,a.off,blk,?_,q1,fun i y Z=> ?_⟩
     .rcases a with⟨b,o,s⟩;simp only at q2;subst q2;rfl
     .obtain⟨blk',q3,_,q4⟩:=(l2 i y Z).1;rw[q1] at q3;simp at q3;subst q3;exact q4
    .simp only[Rows.uptoBulk];have:=jpi (vP.map (·.1));simp at this;omega
    .intro y Z;obtain⟨i,hi⟩:=jE4 Z;exact t.fits_mono (by simp only[Rows.uptoBulk];omega) _ (l2 i y hi).2
  .rename_i a b fs u;simp only[jDV] at h;obtain⟨L,M⟩:=h;obtain⟨xs,n,_,rfl,A,Y,hf⟩:=DataW.trod_struct u B;simp only[Rows.uptoBulk] at r;obtain⟨y,y1,y2⟩:=jgO (fun T ty h=>jdl d T ty h) (n:=n) (cs:=cs) fs.toList 0 (.pair a b) xs M (by simpa using Y) (fun i f hi=>hf i f (by simpa using hi)) (by omega);refine⟨y,by simpa using y1,by rw[A];exact jDQ L,?_⟩;exact Ty.fits_mono (by simp only[Rows.uptoBulk];omega) (.pair a b) _ y2
  .cases h
end
end Go.X
namespace Go.X
open Go.RowKit (Below)
open Go.ChangeShapes Go.WideShapes Go.ChangeAt Go.RowKit
open Go.Proofs.YtphbhcmpebmadaaGreatDoor
def jnn (N:Nat):(ts:List Ty)->PD (ts.map Par.val)->Prop
 |[],_=>True
 |t::ts,d=>t.fits N d.1/\jnn N ts d.2
def jwJ (ts:List Ty):jU:=⟨ts.map Par.val,[.bool],false,fun d=>[jnn 1048576 ts d],fun _=>(true,())⟩
def jgR (P:Program):List Nat->List Ty->Bool
 |[],[]=>true
 |T::Ts,t::ts=>jAL P 20 T t&&(P.readableRec T&&decide (T<P.types.size))&&jgR P Ts ts
 |_,_=>false
section
variable {P:Program} {K:Type} {enc:TypeId×Value->K} {W W':World}
theorem jeh (j:laidOutB P=true) (i:Below W.heap.size W W'):∀(a:List Nat) (ts:List Ty) (vs:List Value) (ds:List (DataW K)) (ps:List MemPlace),jgR P a ts=true->
 DataW.TrodAll enc P W 0 (fun _=>true) true a vs ds ps->(∀x∈ps,x.block<W.heap.size)->DataW.TrodAll enc P W' 0 (fun b=>decide (b<W.heap.size)) true a vs ds ps
 |[],ts,vs,ds,ps,_,h,_=>by
  obtain⟨rfl,rfl,rfl⟩:=trodAll_nil h
  exact trodAll_mk0
 |T::a,[],vs,ds,ps,c,_,_=>by cases c
 |T::a,t::ts,vs,ds,ps,c,h,hlt=>by
  obtain⟨v,g,d,e,p,q,rfl,rfl,rfl,n,o⟩:=trodAll_cons h
  simp only[jgR,jDV] at c
  obtain⟨⟨_,k,l⟩,m⟩:=c
  exact trodAll_cons_mk (Below.trod j k (of_decide_eq_true l) n i (fun x f=>hlt x (jDS _ f)))
   (jeh j i a ts g e q m o (fun x f=>hlt x (jDR _ f)))
theorem jBF {T:Nat} {t:Ty} {r:Reach} {c:Nat} {v:Value} (h:jAL P 20 T t=true) (b:Value.okWide P W r c T v):kh v=t.agg:=by
 unfold jAL at h
 split at h
 .rename_i a;obtain⟨n,rfl⟩:=okWide_int a b;rfl
 .rename_i a;obtain⟨n,rfl⟩:=okWide_bool a b;rfl
 .rename_i a;obtain⟨n,rfl⟩:=okWide_int a b;rfl
 .rename_i a;unfold Value.okWide at b;rw[a] at b;simp only[Cell.okWide,a] at b;cases v with
  |agg vs=>simp[Cell.ok,a] at b
  |_=>rfl
 .rename_i a;unfold Value.okWide at b;rw[a] at b;obtain⟨cs,rfl,_⟩:=b;rfl
 .cases h
theorem jz0 {r:Reach} {l:Nat}:∀(a:List Nat) (ts:List Ty) (vs:List Value) (ds:List (DataW K)) (ps:List MemPlace),jgR P a ts=true->
 DataW.TrodAll enc P W 0 (fun _=>true) true a vs ds ps->(∀(j:Nat) t v,a[j]? =some t->vs[j]? =some v->Value.okWide P W r l t v)->Rows.uptoBulkAll ds<=1048576->
 ∃d:PD (ts.map Par.val),pvs P (Hof W) (ts.map Par.val) vs d/\jnn 1048576 ts d
 |[],ts,vs,ds,ps,b,h,_,_=>by
  obtain⟨rfl,rfl,rfl⟩:=trodAll_nil h
  cases ts with
  |nil=>exact⟨(),rfl,trivial⟩
  |cons t ts=>cases b
 |T::a,[],vs,ds,ps,b,_,_,_=>by cases b
 |T::a,t::ts,vs,ds,ps,b,h,hv,hb=>by
  obtain⟨v,g,d,e,p,q,rfl,rfl,rfl,n,o⟩:=trodAll_cons h
  simp only[jgR,jDV] at b
  obtain⟨⟨k,_⟩,m⟩:=b
  simp only[Rows.uptoBulkAll] at hb
  obtain⟨c,s⟩:=n
  obtain⟨x,w,z,A⟩:=jdl 20 T t k c _ _ s (by simp only;omega)
  obtain⟨y,B,C⟩:=jz0 a ts g e q m o (fun j t v u f=>hv (j+1) t v (by simpa using u) (by simpa using f)) (by omega)
  refine⟨(x,y),⟨⟨jBF k (hv 0 T v rfl rfl),by simpa using z,?_⟩,B⟩,Ty.fits_mono (by simp only;omega) t x A,C⟩
  refine Ty.rd_congr t _ _ _ (fun i _=> ?_) w
  simp
theorem jc6:∀(a:List Nat) (ts:List Ty) (vs:List Value) (ds:List (DataW K)) (ps:List MemPlace),jgR P a ts=true->DataW.TrodAll enc P W 0 (fun _=>true) true a vs ds ps->ds.length=ts.length:=by
 intro a
 induction a with
 |nil=>intro ts vs ds ps b h;obtain⟨rfl,rfl,rfl⟩:=trodAll_nil h;cases ts with|nil=>rfl|cons=>cases b
 |cons T a g=>intro ts vs ds ps b h;cases ts with
  |nil=>cases b
  |cons t ts=>
   obtain⟨v,e,d,c,p,q,rfl,rfl,rfl,i,f⟩:=trodAll_cons h;simp only[jgR,jDV] at b;simp[g ts e c q b.2 f]
theorem jz5 {f:Nat} {fn:Func} {s:ChangeSpec} {ts:List Ty} (I:laidOutB P=true) (k:jgR P fn.params.toList ts=true) (L:fn.resultTypes= #[4]) (D:P.underlying 4=some .bool)
 (a:s.vars=[]) (m:∀(ds:List (DataW K)),ds.length=ts.length->s.fn K (ds++[])={results:=[.lit (.bool true)],args:=ds})
 (G:zk P f (jwJ ts)) (base:Nat) (args:Array Value) (ds o:List (DataW K)) (before:List MemPlace)
 (l:∀(j:Nat) t v,fn.params[j]? =some t->args[j]? =some v->Value.okWide P W .any base t v)
 (w:DataW.Whole enc P fn.params.toList s.vars false W args.toList ds o before) (hk:Rows.uptoSmall K (ds++o)=true) (E:jBL (Hof W)):
 Calls P f args W fun e W'=>∃v,e= .returned v/\s.post enc P fn false true false false W args v W':=by
 have b:=w;obtain⟨p,q,i,u,rfl,H,J⟩:=w;rw[a] at u;obtain⟨rfl,rfl⟩:=trodVars_none u;simp only[jEm] at b hk;have c:Rows.uptoBulkAll ds<=1048576:=of_decide_eq_true hk;have g:∀(j:Nat) t v,fn.params.toList[j]? =some t->args.toList[j]? =some v->Value.okWide P W .any base t v:=fun j t v B C=>l j t v (by simpa using B) (by simpa using C)
 obtain⟨d,z,A⟩:=jz0 fn.params.toList ts args.toList ds p k i g c;have y:=G.calls (Hof W) W args.toList d (jy9 W E) z ⟨A,trivial⟩;simp only[Array.toArray_toList] at y;refine y.mono fun e W' F=> ?_
 obtain⟨v,H',rfl,r,M⟩:=F;have n:v= .bool true:=zy M;subst n;refine⟨_,rfl,ds,[],p,[],p,[],b,?_,?_,?_,r.below.frame _,fun h=>by cases h⟩
 .rw[m ds ?_,L]
  .exact trodAll_cons_mk (shut_bool D _) trodAll_mk0
  .exact jc6 _ _ _ _ _ k i
 .rw[m ds ?_]
  .exact jeh I r.below _ ts _ _ _ k i (fun x N=>by simpa using b.lt x N)
  .exact jc6 _ _ _ _ _ k i
 .rw[a,m ds ?_]
  .rfl
  .exact jc6 _ _ _ _ _ k i
end
end Go.X
namespace Go.X
open Go.Proofs
namespace U
def jC5 (p:PeD):Prop:=(lv p).length<=20/\(wk p).length<=30
def jqS (c:CrD):Prop:=(ji c).length<=20/\(kB c).length<=20/\∀p∈ji c,jC5 p
def jbd (d:DyD):Prop:=jqS (jf d)/\(jA d).length<=20/\(jp d).length<=20/\(jH d).length<=60/\∀r∈jA d,r.length<=20
def jpY (p:PeD):Bool:=decide (20<((lv p).length:Int))||decide (30<((wk p).length:Int))
def jaS (c:CrD):Bool:=(decide (20<((ji c).length:Int))||decide (20<((kB c).length:Int)))||((ji c).any jpY||(ju c&&decide (5<((ji c).length:Int))))
def jpX (r:List SpD):Bool:=decide (20<(r.length:Int))
def vJ (d:DyD):Bool:=(((jaS (jf d)||decide (20<((jA d).length:Int)))||decide (20<((jp d).length:Int)))||decide (60<((jH d).length:Int)))||(jA d).any jpX
def jgB (d:DyD):Bool:=vJ d||(decide (wH d=0)&&decide (12<((jH d).length:Int)))
def jDE:CrD:=(3,[([5,4,0],3,15,[],false,50,()),([0,5,3],3,15,[],true,40,()),([4,0,4],1,3,[7],false,30,()),([3,3,3],255,1,[],false,10,())],[(2,1,false,()),(4,2,false,()),(3,2,true,()),(5,1,false,())],())
def jx9:List JbD:=[(0,2,7,1,2,1,()),(0,2,3,0,0,1,()),(0,2,7,1,1,1,())]
def jk4:DyD:=(jDE,[[(0,0,()),(10,20,())],[(10,25,()),(0,0,())]],[((0,2,3,0,0,1,()),0,60,120,()),((0,2,3,1,0,1,()),1,150,200,()),((0,2,7,1,2,1,()),0,230,300,())],10,140,
 [(1,5,1,0,3,()),(2,6,1,1,3,()),(3,4,1,2,2,()),(4,7,1,2,0,()),(5,8,1,2,1,()),(6,9,1,0,2,()),(7,10,2,0,2,())],())
end U
abbrev q109_0 (d:CrD×Unit)(x:Nat):=(nth d.1.2.1 (x:Int).toNat)
def jty:Prop:=∀(d:CrD×Unit),U.jqS d.1->(0+d.1.2.2.1.length)*24<=140737488355328/\(∃(x:Nat),((0=(x:Int)/\True)/\(d.1.1=d.1.1/\True/\True/\True)/\List.take x (U.ji d.1)=[]/\True)/\x<=(U.ji d.1).length)/\∀(x:Nat),x<=(U.ji d.1).length->d.1.2.1.length<4611686018427387904->(decide ((x:Int)<(d.1.2.1.length:Int))=true->0<=(x:Int)/\(x:Int)<(d.1.2.1.length:Int)/\(0+(q109_0 d x).1.length)*8<=140737488355328/\(0+(q109_0 d x).2.2.2.1.length)*8<=140737488355328/\((List.take x (U.ji d.1)).length+[([]++(q109_0 d x).1,(q109_0 d x).2.1,(q109_0 d x).2.2.1,[]++(q109_0 d x).2.2.2.1,(q109_0 d x).2.2.2.2)].length)*80<=140737488355328/\jD ((x:Int)+1)/\∃(a:Nat),(((x:Int)+1=(a:Int)/\True)/\(d.1.1=d.1.1/\True/\True/\True)/\List.take x (U.ji d.1)++[([]++(q109_0 d x).1,(q109_0 d x).2.1,(q109_0 d x).2.2.1,[]++(q109_0 d x).2.2.2.1,(q109_0 d x).2.2.2.2)]=List.take a (U.ji d.1)/\True)/\a<=(U.ji d.1).length/\(U.ji d.1).length-a<(U.ji d.1).length-x)/\(decide ((x:Int)<(d.1.2.1.length:Int))=false->((d.1.1,List.take x (U.ji d.1),[]++d.1.2.2.1,()),())=d)
abbrev q110_0 (d:DyD×Unit):=(d.1.1.1=d.1.1.1/\d.1.1.2.1=d.1.1.2.1/\d.1.1.2.2.1=d.1.1.2.2.1/\True/\d.1.2.2.1=d.1.2.2.1/\d.1.2.2.2.1=d.1.2.2.2.1/\d.1.2.2.2.2.1=d.1.2.2.2.2.1/\d.1.2.2.2.2.2.1=d.1.2.2.2.2.2.1/\True)
def jtx:Prop:=∀(d:DyD×Unit),U.jbd d.1->U.jqS d.1.1/\(∃(x:Nat),((0=(x:Int)/\True)/\(q110_0 d)/\List.take x (U.jA d.1)=[]/\True)/\x<=(U.jA d.1).length)/\∀(x:Nat),x<=(U.jA d.1).length->d.1.2.1.length<4611686018427387904->(decide ((x:Int)<(d.1.2.1.length:Int))=true->0<=(x:Int)/\(x:Int)<(d.1.2.1.length:Int)/\(0+(nth d.1.2.1 (x:Int).toNat).length)*16<=140737488355328/\((List.take x (U.jA d.1)).length+[[]++nth d.1.2.1 (x:Int).toNat].length)*24<=140737488355328/\jD ((x:Int)+1)/\∃(a:Nat),(((x:Int)+1=(a:Int)/\True)/\(q110_0 d)/\List.take x (U.jA d.1)++[[]++nth d.1.2.1 (x:Int).toNat]=List.take a (U.jA d.1)/\True)/\a<=(U.jA d.1).length/\(U.jA d.1).length-a<(U.jA d.1).length-x)/\(decide ((x:Int)<(d.1.2.1.length:Int))=false->(0+d.1.2.2.1.length)*72<=140737488355328/\(0+d.1.2.2.2.2.2.1.length)*40<=140737488355328/\((d.1.1,List.take x (U.jA d.1),[]++d.1.2.2.1,d.1.2.2.2.1,d.1.2.2.2.2.1,[]++d.1.2.2.2.2.2.1,()),())=d)
def jkC:jU:=⟨[.val (.slice .int),.val (.slice .int)],[.bool],false,fun _=>[],fun d=>(decide (d.1=d.2.1),())⟩
def jla:Ann:=fun r=>match r with
 |4=>some fun σ=>{X:=Nat,sl:=fun i=>[(5,.dat .int (i:Int))],ob:=fun _=>[],inv:=fun i=>i<=(gd (.slice .int) σ 0).length/\∀j:Nat,j<i->nth (gd (.slice .int) σ 0) j=nth (gd (.slice .int) σ 1) j,mu:=fun i=>(gd (.slice .int) σ 0).length-i}
 |_=>none
def jkw:Prop:=∀(d:List Int×List Int×Unit),d.1.length<4611686018427387904->d.2.1.length<4611686018427387904->(decide ((d.1.length:Int)≠(d.2.1.length:Int))=true->(false,())=(decide (d.1=d.2.1),()))/\(decide ((d.1.length:Int)≠(d.2.1.length:Int))=false->(∃(x:Nat),((0=(x:Int)/\True)/\True)/\x<=d.1.length/\∀(j:Nat),j<x->nth d.1 j=nth d.2.1 j)/\∀(x:Nat),(x<=d.1.length/\∀(j:Nat),j<x->nth d.1 j=nth d.2.1 j)->d.1.length<4611686018427387904->(decide ((x:Int)<(d.1.length:Int))=true->0<=(x:Int)/\(x:Int)<(d.1.length:Int)/\0<=(x:Int)/\(x:Int)<(d.2.1.length:Int)/\(decide (nth d.1 (x:Int).toNat≠nth d.2.1 (x:Int).toNat)=true->(false,())=(decide (d.1=d.2.1),()))/\(decide (nth d.1 (x:Int).toNat≠nth d.2.1 (x:Int).toNat)=false->jD ((x:Int)+1)/\∃(a:Nat),(((x:Int)+1=(a:Int)/\True)/\True)/\(a<=d.1.length/\∀(j:Nat),j<a->nth d.1 j=nth d.2.1 j)/\d.1.length-a<d.1.length-x))/\(decide ((x:Int)<(d.1.length:Int))=false->(true,())=(decide (d.1=d.2.1),())))
def jvs:jU:=⟨[.val tCr],[.bool],false,fun _=>[],fun d=>(U.jaS d.1,())⟩
def jxU:Ann:=fun r=>match r with
 |4=>some fun σ=>{X:=Nat,sl:=fun i=>[(3,.dat .int (i:Int))],ob:=fun _=>[],inv:=fun i=>i<=(U.ji (gb tCr σ 1)).length/\∀j:Nat,j<i->U.jpY (nth (U.ji (gb tCr σ 1)) j)=false,mu:=fun i=>(U.ji (gb tCr σ 1)).length-i}
 |_=>none
abbrev q112_0 (d:CrD×Unit)(x:Nat):=((20:Int)<(↑(nth d.1.2.1 (x:Int).toNat).1.length:Int))
abbrev q112_1 (d:CrD×Unit):=(d.1.2.1.length:Int)
abbrev q112_2 (d:CrD×Unit)(x:Nat):=(decide (q112_0 d x)||decide ((30:Int)<(↑(nth d.1.2.1 (x:Int).toNat).2.2.2.1.length:Int)))
abbrev q112_3 (d:CrD×Unit):=(decide (20<(q112_1 d))||decide (20<(d.1.2.2.1.length:Int)))
def ju7:Prop:=∀(d:CrD×Unit),d.1.2.1.length<4611686018427387904->((!decide (20<(q112_1 d)))=true->d.1.2.2.1.length<4611686018427387904)->((q112_3 d)=true->(true,())=(U.jaS d.1,()))/\((q112_3 d)=false->(∃(x:Nat),((0=(x:Int)/\True)/\True)/\x<=(U.ji d.1).length/\∀(j:Nat),j<x->U.jpY (nth (U.ji d.1) j)=false)/\∀(x:Nat),(x<=(U.ji d.1).length/\∀(j:Nat),j<x->U.jpY (nth (U.ji d.1) j)=false)->d.1.2.1.length<4611686018427387904->(decide ((x:Int)<(q112_1 d))=true->0<=(x:Int)/\(x:Int)<(q112_1 d)/\((nth d.1.2.1 (x:Int).toNat).1.length<4611686018427387904->((!decide (q112_0 d x))=true->0<=(x:Int))/\((!decide (q112_0 d x))=true->(x:Int)<(q112_1 d))/\(((!decide (q112_0 d x))=true->(nth d.1.2.1 (x:Int).toNat).2.2.2.1.length<4611686018427387904)->((q112_2 d x)=true->(true,())=(U.jaS d.1,()))/\((q112_2 d x)=false->jD ((x:Int)+1)/\∃(a:Nat),(((x:Int)+1=(a:Int)/\True)/\True)/\(a<=(U.ji d.1).length/\∀(j:Nat),j<a->U.jpY (nth (U.ji d.1) j)=false)/\(U.ji d.1).length-a<(U.ji d.1).length-x))))/\(decide ((x:Int)<(q112_1 d))=false->(U.ju d.1=true->d.1.2.1.length<4611686018427387904)->(U.ju d.1&&decide (5<(q112_1 d)),())=(U.jaS d.1,())))
def jtF:jU:=⟨[.val tDy],[.bool],false,fun _=>[],fun d=>(U.vJ d.1,())⟩
def juT:Ann:=fun r=>match r with
 |4=>some fun σ=>{X:=Nat,sl:=fun i=>[(3,.dat .int (i:Int))],ob:=fun _=>[],inv:=fun i=>i<=(U.jA (gb tDy σ 1)).length/\∀j:Nat,j<i->U.jpX (nth (U.jA (gb tDy σ 1)) j)=false,mu:=fun i=>(U.jA (gb tDy σ 1)).length-i}
 |_=>none
abbrev q113_1 (d:DyD×Unit):=(d.1.2.1.length:Int)
abbrev q113_0 (d:DyD×Unit):=(U.jaS d.1.1||decide (20<(q113_1 d))||decide (20<(d.1.2.2.1.length:Int))||decide (60<(d.1.2.2.2.2.2.1.length:Int)))
def jtp:Prop:=∀(d:DyD×Unit),((!U.jaS d.1.1)=true->d.1.2.1.length<4611686018427387904)->((!(U.jaS d.1.1||decide (20<(q113_1 d))))=true->d.1.2.2.1.length<4611686018427387904)->((!(U.jaS d.1.1||decide (20<(q113_1 d))||decide (20<(d.1.2.2.1.length:Int))))=true->d.1.2.2.2.2.2.1.length<4611686018427387904)->((q113_0 d)=true->(true,())=(U.vJ d.1,()))/\((q113_0 d)=false->(∃(x:Nat),((0=(x:Int)/\True)/\True)/\x<=(U.jA d.1).length/\∀(j:Nat),j<x->U.jpX (nth (U.jA d.1) j)=false)/\∀(x:Nat),(x<=(U.jA d.1).length/\∀(j:Nat),j<x->U.jpX (nth (U.jA d.1) j)=false)->d.1.2.1.length<4611686018427387904->(decide ((x:Int)<(q113_1 d))=true->0<=(x:Int)/\(x:Int)<(q113_1 d)/\((nth d.1.2.1 (x:Int).toNat).length<4611686018427387904->(decide ((20:Int)<(↑(nth d.1.2.1 (x:Int).toNat).length:Int))=true->(true,())=(U.vJ d.1,()))/\(decide ((20:Int)<(↑(nth d.1.2.1 (x:Int).toNat).length:Int))=false->jD ((x:Int)+1)/\∃(a:Nat),(((x:Int)+1=(a:Int)/\True)/\True)/\(a<=(U.jA d.1).length/\∀(j:Nat),j<a->U.jpX (nth (U.jA d.1) j)=false)/\(U.jA d.1).length-a<(U.jA d.1).length-x)))/\(decide ((x:Int)<(q113_1 d))=false->(false,())=(U.vJ d.1,())))
def jvr:jU:=⟨[.val tDy],[.bool],false,fun _=>[],fun d=>(U.jgB d.1,())⟩
def ju6:Prop:=∀(d:DyD×Unit),((!U.vJ d.1)=true->(U.jp d.1).length<=1000000)/\(((!U.vJ d.1&&decide (U.wH d.1=0))=true->d.1.2.2.2.2.2.1.length<4611686018427387904)->(U.vJ d.1||decide (U.wH d.1=0)&&decide (12<(d.1.2.2.2.2.2.1.length:Int)),())=(U.jgB d.1,()))
def jtE:jU:=⟨[.val .int,.val .int],[tSp],false,fun _=>[],fun d=>((d.1,d.2.1,()),())⟩
def jtn:Prop:=∀(d:Int×Int×Unit),(d,())=(d,())
def jmu:jU:=⟨[],[tCr,.slice tJb],false,fun _=>[],fun _=>(U.jDE,U.jx9,())⟩
def jme:Prop:=∀(d:Unit),(((3:Int),[([(5:Int),(4:Int),(0:Int)],(3:Int),(15:Int),[],false,(50:Int),()),([(0:Int),(5:Int),(3:Int)],(3:Int),(15:Int),[],true,(40:Int),()),([(4:Int),(0:Int),(4:Int)],(1:Int),(3:Int),[(7:Int)],false,(30:Int),()),([(3:Int),(3:Int),(3:Int)],(255:Int),(1:Int),[],false,(10:Int),())],[((2:Int),(1:Int),false,()),((4:Int),(2:Int),false,()),((3:Int),(2:Int),true,()),((5:Int),(1:Int),false,())],()),[((0:Int),(2:Int),(7:Int),(1:Int),(2:Int),(1:Int),()),((0:Int),(2:Int),(3:Int),(0:Int),(0:Int),(1:Int),()),((0:Int),(2:Int),(7:Int),(1:Int),(1:Int),(1:Int),())],())=(U.jDE,U.jx9,())
def jmt:jU:=⟨[],[tDy],false,fun _=>[],fun _=>(U.jk4,())⟩
abbrev q117_0:=(nth U.jx9 (Int.toNat 1))
def jmd:Prop:=∀(d:Unit),(0:Int)<=1/\1<(U.jx9.length:Int)/\(0:Int)<=1/\1<(U.jx9.length:Int)/\(0:Int)<=0/\0<(U.jx9.length:Int)/\((U.jDE,[[((0:Int),(0:Int),()),((10:Int),(20:Int),())],[((10:Int),(25:Int),()),((0:Int),(0:Int),())]],[(nth U.jx9 (Int.toNat 1),(0:Int),(60:Int),(120:Int),()),((q117_0.1,q117_0.2.1,q117_0.2.2.1,(1:Int),q117_0.2.2.2.2),(1:Int),(150:Int),(200:Int),()),(nth U.jx9 (Int.toNat 0),(0:Int),(230:Int),(300:Int),())],(10:Int),(140:Int),[((1:Int),(5:Int),(1:Int),(0:Int),(3:Int),()),((2:Int),(6:Int),(1:Int),(1:Int),(3:Int),()),((3:Int),(4:Int),(1:Int),(2:Int),(2:Int),()),((4:Int),(7:Int),(1:Int),(2:Int),(0:Int),()),((5:Int),(8:Int),(1:Int),(2:Int),(1:Int),()),((6:Int),(9:Int),(1:Int),(0:Int),(2:Int),()),((7:Int),(10:Int),(2:Int),(0:Int),(2:Int),())],()),())=(U.jk4,())
def jqA:jU:=⟨[],[.bool],false,fun _=>[],fun _=>(true,())⟩
def jqe:Prop:=∀(d:Unit),(U.jH U.jk4).length<=100000/\(U.jH U.jk4).length<=100000/\(U.jH U.jk4).length<=100000/\(decide (U.jr U.jk4=0)&&decide (U.jr U.jk4=0)&&decide (U.jdm U.jk4=0)&&decide (U.kO U.jk4=[(8:Int),(8:Int),(3:Int)])&&decide (U.jkK U.jk4=[(3:Int)])&&decide (U.jhy U.jk4=[(8:Int),(8:Int),(3:Int)])&&decide (U.jhx U.jk4=110),())=(true,())
end Go.X
namespace Go.X
open Go.Proofs
theorem jCv:jty:=by
 unfold jty q109_0;rintro⟨c,⟨⟩⟩ g;obtain⟨m,j,a⟩:U.jqS c:=g;refine⟨by show(0+(U.kB c).length)*24<=140737488355328;omega,⟨0,⟨⟨rfl,trivial⟩,⟨rfl,trivial,trivial,trivial⟩,rfl,trivial⟩,jD6 _⟩,fun x f _=>⟨fun h=> ?_,fun h=> ?_⟩⟩
 .have h:(x:Int)<((U.ji c).length:Int):=of_decide_eq_true h;have k:=L.take_succ (l:=U.ji c) (i:=x) (by omega);obtain⟨s1,s2⟩:=a _ (L.mem_nth (l:=U.ji c) (i:=x) (by omega));have d:((U.ji c).take x).length<=20:=(by rw[jEp];omega);refine⟨jEo _,h,by show(0+(U.lv (nth (U.ji c) x)).length)*8<=140737488355328;omega,by show(0+(U.wk (nth (U.ji c) x)).length)*8<=140737488355328;omega,by show(((U.ji c).take x).length+1)*80<=140737488355328;omega,L.in64 (by omega) (by omega),x+1,⟨⟨by simp,trivial⟩,⟨rfl,trivial,trivial,trivial⟩,k.symm,trivial⟩,by show x+1<=(U.ji c).length;omega,by show(U.ji c).length-(x+1)<(U.ji c).length-x;omega⟩
 .have h:¬(x:Int)<((U.ji c).length:Int):=of_decide_eq_false h;have f:x<=(U.ji c).length:=f;have b:x=(U.ji c).length:=(by omega);subst b;have e:(U.ji c).take (U.ji c).length=U.ji c:=jEK;show((c.1,(U.ji c).take (U.ji c).length,c.2.2.1,()),())=(c,());rw[e];rfl
theorem jCu:jtx:=by
 unfold jtx q110_0;rintro⟨d,⟨⟩⟩ g;obtain⟨k,o,j,n,a⟩:U.jbd d:=g;refine⟨k,⟨0,⟨⟨rfl,trivial⟩,⟨rfl,rfl,rfl,trivial,rfl,rfl,rfl,rfl,trivial⟩,rfl,trivial⟩,jD6 _⟩,fun x f _=>⟨fun h=> ?_,fun h=> ?_⟩⟩
 .have h:(x:Int)<((U.jA d).length:Int):=of_decide_eq_true h;have m:=L.take_succ (l:=U.jA d) (i:=x) (by omega);have p:=a _ (L.mem_nth (l:=U.jA d) (i:=x) (by omega));have c:((U.jA d).take x).length<=20:=(by rw[jEp];omega);refine⟨jEo _,h,by show(0+(nth (U.jA d) x).length)*16<=140737488355328;omega,by show(((U.jA d).take x).length+1)*24<=140737488355328;omega,L.in64 (by omega) (by omega),x+1,⟨⟨by simp,trivial⟩,⟨rfl,rfl,rfl,trivial,rfl,rfl,rfl,rfl,trivial⟩,m.symm,trivial⟩,by show x+1<=(U.jA d).length;omega,by show(U.jA d).length-(x+1)<(U.jA d).length-x;omega⟩
 .have h:¬(x:Int)<((U.jA d).length:Int):=of_decide_eq_false h;have f:x<=(U.jA d).length:=f;have b:x=(U.jA d).length:=(by omega);subst b;have e:(U.jA d).take (U.jA d).length=U.jA d:=jEK;refine⟨by show(0+(U.jp d).length)*72<=140737488355328;omega,by show(0+(U.jH d).length)*40<=140737488355328;omega,?_⟩;show((U.jf d,(U.jA d).take (U.jA d).length,U.jp d,U.joz d,U.jyT d,U.jH d,()),())=(d,());rw[e];rfl
theorem jnc:jkw:=by
 rintro⟨a,b,⟨⟩⟩ _ l;refine⟨fun h=> ?_,fun h=>⟨⟨0,⟨⟨rfl,trivial⟩,trivial⟩,jD6 _,fun j k=>by omega⟩,fun x g f=>⟨fun c=>⟨jEo _,of_decide_eq_true c,jEo _,?_,fun d=> ?_,fun d=> ?_⟩,fun c=> ?_⟩⟩⟩
 .have h:(a.length:Int)≠(b.length:Int):=of_decide_eq_true h;have:¬a=b:=fun e=>h (by rw[e])
  show(false,())=(decide (a=b),());rw[decide_eq_false this]
 .have h:(a.length:Int)=(b.length:Int):=Classical.not_not.1 (of_decide_eq_false h);have c:(x:Int)<(a.length:Int):=of_decide_eq_true c;show(x:Int)<(b.length:Int);omega
 .have d:nth a x≠nth b x:=of_decide_eq_true d;have:¬a=b:=fun e=>d (by rw[e])
  show(false,())=(decide (a=b),());rw[decide_eq_false this]
 .have c:(x:Int)<(a.length:Int):=of_decide_eq_true c;have d:nth a x=nth b x:=Classical.not_not.1 (of_decide_eq_false d);have f:a.length<4611686018427387904:=f;refine⟨L.in64 (by omega) (by omega),x+1,⟨⟨by simp,trivial⟩,trivial⟩,⟨by show x+1<=a.length;omega,fun j k=> ?_⟩,by show a.length-(x+1)<a.length-x;omega⟩;by_cases e:j=x
  .subst e;exact d
  .exact g.2 j (by omega)
 .have h:(a.length:Int)=(b.length:Int):=Classical.not_not.1 (of_decide_eq_false h);have c:¬(x:Int)<(a.length:Int):=of_decide_eq_false c;have e:a=b:=L.ext_nth (by omega) fun i hi=>g.2 i (by omega)
  show(true,())=(decide (a=b),());rw[decide_eq_true e]
theorem jkL:zk PR 21 jkC:=wF jla jnc Tryz.func21 kcN koN
theorem jy3:ju7:=by
 unfold ju7 q112_3 q112_2 q112_1 q112_0;rintro⟨c,⟨⟩⟩ _ _;refine⟨fun h=> ?_,fun h=>⟨⟨0,⟨⟨rfl,trivial⟩,trivial⟩,jD6 _,fun j g=>by omega⟩,fun x f d=>⟨fun a=>⟨jEo _,of_decide_eq_true a,fun _=>⟨fun _=>jEo _,fun _=>of_decide_eq_true a,fun _=>⟨fun b=> ?_,fun b=> ?_⟩⟩⟩,fun a _=> ?_⟩⟩⟩
 .have h:(decide (20<((U.ji c).length:Int))||decide (20<((U.kB c).length:Int)))=true:=h;show(true,())=(U.jaS c,());unfold U.jaS;rw[h];rfl
 .have b:U.jpY (nth (U.ji c) x)=true:=b;have a:(x:Int)<((U.ji c).length:Int):=of_decide_eq_true a;have:(U.ji c).any U.jpY=true:=jES.2 ⟨_,L.mem_nth (l:=U.ji c) (i:=x) (by omega),b⟩;show(true,())=(U.jaS c,());unfold U.jaS;rw[this,Bool.true_or,Bool.or_true]
 .have b:U.jpY (nth (U.ji c) x)=false:=b;have a:(x:Int)<((U.ji c).length:Int):=of_decide_eq_true a;have d:(U.ji c).length<4611686018427387904:=d;refine⟨L.in64 (by omega) (by omega),x+1,⟨⟨by simp,trivial⟩,trivial⟩,⟨by show x+1<=(U.ji c).length;omega,fun j g=> ?_⟩,by show(U.ji c).length-(x+1)<(U.ji c).length-x;omega⟩;by_cases e:j=x
  .subst e;exact b
  .exact f.2 j (by omega)
 .have h:(decide (20<((U.ji c).length:Int))||decide (20<((U.kB c).length:Int)))=false:=h;have a:¬(x:Int)<((U.ji c).length:Int):=of_decide_eq_false a;have:(U.ji c).any U.jpY=false:=jEH.2 fun p k=>by
   obtain⟨i,hi,rfl⟩:=L.mem_iff.1 k;rw[f.2 i (by omega)];simp
  show(U.ju c&&decide (5<((U.ji c).length:Int)),())=(U.jaS c,());unfold U.jaS;rw[h,this,Bool.false_or,Bool.false_or]
theorem jwd:zk PR 93 jvs:=wF jxU jy3 Tryz.func93 (kcC jgU kcN) koN
theorem jw1:jtp:=by
 unfold jtp q113_0 q113_1;rintro⟨d,⟨⟩⟩ _ _ _;refine⟨fun h=> ?_,fun h=>⟨⟨0,⟨⟨rfl,trivial⟩,trivial⟩,jD6 _,fun j g=>by omega⟩,fun x f c=>⟨fun a=>⟨jEo _,of_decide_eq_true a,fun _=>⟨fun b=> ?_,fun b=> ?_⟩⟩,fun a=> ?_⟩⟩⟩
 .have h:(((U.jaS (U.jf d)||decide (20<((U.jA d).length:Int)))||decide (20<((U.jp d).length:Int)))||decide (60<((U.jH d).length:Int)))=true:=h;show(true,())=(U.vJ d,());unfold U.vJ;rw[h];rfl
 .have b:U.jpX (nth (U.jA d) x)=true:=b;have a:(x:Int)<((U.jA d).length:Int):=of_decide_eq_true a;have:(U.jA d).any U.jpX=true:=jES.2 ⟨_,L.mem_nth (l:=U.jA d) (i:=x) (by omega),b⟩;show(true,())=(U.vJ d,());unfold U.vJ;rw[this,Bool.or_true]
 .have b:U.jpX (nth (U.jA d) x)=false:=b;have a:(x:Int)<((U.jA d).length:Int):=of_decide_eq_true a;have c:(U.jA d).length<4611686018427387904:=c;refine⟨L.in64 (by omega) (by omega),x+1,⟨⟨by simp,trivial⟩,trivial⟩,⟨by show x+1<=(U.jA d).length;omega,fun j g=> ?_⟩,by show(U.jA d).length-(x+1)<(U.jA d).length-x;omega⟩;by_cases e:j=x
  .subst e;exact b
  .exact f.2 j (by omega)
 .have h:(((U.jaS (U.jf d)||decide (20<((U.jA d).length:Int)))||decide (20<((U.jp d).length:Int)))||decide (60<((U.jH d).length:Int)))=false:=h;have a:¬(x:Int)<((U.jA d).length:Int):=of_decide_eq_false a;have:(U.jA d).any U.jpX=false:=jEH.2 fun p k=>by
   obtain⟨i,hi,rfl⟩:=L.mem_iff.1 k;rw[f.2 i (by omega)];simp
  show(false,())=(U.vJ d,());unfold U.vJ;rw[h,this];rfl
theorem jtW:zk PR 58 jtF:=wF juT jw1 Tryz.func58 (kcC jwd kcN) koN
theorem jxh {c:CrD} (h:U.jaS c=false):U.jqS c:=by
 unfold U.jaS at h;rw[jEh,jEh,jEh,decide_eq_false_iff_not] at h;have b:=of_decide_eq_false h.1.2;refine⟨by have:=h.1.1;omega,by omega,fun p a=> ?_⟩;have:=jEH.1 h.2.1 p a;unfold U.jpY at this;rw[jE6,decide_eq_true_iff,decide_eq_true_iff] at this;unfold U.jC5;omega
theorem jlH {d:DyD} (h:U.vJ d=false):U.jbd d:=by
 unfold U.vJ at h;rw[jEh,jEh,jEh,jEh] at h;obtain⟨⟨⟨⟨e,a⟩,b⟩,c⟩,f⟩:=h;have a:=of_decide_eq_false a;have b:=of_decide_eq_false b;have c:=of_decide_eq_false c;refine⟨jxh e,by omega,by omega,by omega,fun r g=> ?_⟩;have:=jEH.1 f r g;unfold U.jpX at this;rw[decide_eq_true_iff] at this;omega
theorem jy2:ju6:=by
 rintro⟨d,⟨⟩⟩;refine⟨fun h=> ?_,fun _=>rfl⟩;have h:(!U.vJ d)=true:=h;rw[jEl] at h;have:=(jlH h).2.2.1;show(U.jp d).length<=1000000;omega
theorem jwc:zk PR 31 jvr:=jN jy2 Tryz.func31 (kcC jtW (kcC jjf kcN)) koN
theorem jw0:jtn:=fun _=>rfl
theorem jtV:zk PR 64 jtE:=jN jw0 Tryz.func64 kcN koN
theorem jpp:jme:=fun _=>rfl
theorem jmS:zk PR 63 jmu:=jN jpp Tryz.func63 kcN koN
theorem jpo:jmd:=by
 unfold jmd q117_0;intro _;refine⟨by decide,by decide,by decide,by decide,by decide,by decide,rfl⟩
theorem jmR:zk PR 33 jmt:=jN jpo Tryz.func33 (kcC jmS (kcC jtV kcN)) koN
theorem jxm:U.wH U.jk4=0:=by decide+kernel
theorem jCD:(U.jcF U.jk4).1=[8,8,3]:=by decide+kernel
theorem jCE:U.jeD (U.jcF U.jk4).2 100=[3]:=by decide+kernel
theorem jxl:(U.jC8 U.jk4).2=([8,8,3],110,true):=by decide+kernel
theorem jud:jqe:=by
 intro _;refine⟨by decide,by decide,by decide,?_⟩;have b:U.jr U.jk4=0:=(gy _).trans jxm;have c:U.kO U.jk4=[8,8,3]:=(by rw[jqs,if_pos jxm];exact jCD);have d:U.jkK U.jk4=[3]:=(by rw[jAH,if_pos jxm];exact jCE);have a:U.jdm U.jk4=0:=(by unfold U.jdm;rw[if_pos b,jxl,if_pos rfl]);have e:U.jhy U.jk4=[8,8,3]:=(by unfold U.jhy;rw[if_pos a,jxl]);have f:U.jhx U.jk4=110:=(by unfold U.jhx;rw[if_pos a,jxl]);rw[b,c,d,a,e,f];rfl
theorem jre:zk PR 8 jqA:=jN jud Tryz.func8 (kcC jmR (kcC jkL (kcC jlw (kcC jo3 (kcC jwf kcN))))) koN
theorem jzg {d:DyD} (h:U.jgB d=false):U.jbd d:=by
 unfold U.jgB at h;rw[jEh] at h;exact jlH h.1
end Go.X
namespace Go.X
open Go.Proofs
end Go.X
namespace Go.X
open Go.Proofs
section
attribute [local irreducible] U.qY U.on U.jo7
end
section
attribute [local irreducible] U.jo7
end
section
attribute [local irreducible] U.wH U.jo7
end
end Go.X

namespace Go.X
section
attribute [local irreducible] U.wW U.jaT U.kj U.qY
end
section
attribute [local irreducible] U.jaT U.kj U.qY U.w8
end
end Go.X
namespace Go.X
open Go.Proofs
section
attribute [local irreducible] U.wW U.kj
end
end Go.X
namespace Go.X
namespace U
def jwn:DyD:=((0,[],[],()),[],[],0,0,[],())
def jCW:List ShD:=[]
def flatS (l:List (List ShD)) (i:Nat):List ShD:=(l.take i).flatten
def jCi (d:DyD) (m:List ShD):List ShD:=jJ (flatS [jH d,m] 2)
def jpd (d:DyD) (m:List ShD):Int:=if jr d≠0 then jr d else if jr (jz d m)≠0 then jr (jz d m) else if 30<(jCi d m).length then 2 else if jrU (jCi d m)=true then 51 else 0
def jcz (d:DyD) (m:List ShD):DyD:=if jpd d m=0 then jz d (jCi d m) else jwn
def jfI (d:DyD) (m:List ShD):List ShD:=gn (jH d++m)
def jwF (d:DyD) (m:List ShD):Int:=if wH d≠0 then wH d else if wH (jz d m)≠0 then wH (jz d m) else if 30<(jfI d m).length then 2 else if kM (jfI d m)=true then 51 else 0
def jDB (d:DyD) (m:List ShD):DyD:=if jwF d m=0 then jz d (jfI d m) else jwn
end U
end Go.X
namespace Go.X
abbrev jDf:ShD->ShD->Bool:=U.jd tSh fun x=>(U.w7 x.1 x.2.1,())
theorem jCG (l:List ShD):(U.jJ l).Pairwise (fun a b=>jDf a b=true):=by
 have e:U.jJ l=U.qJ (fun a b=>decide (a=b)) (U.jc (U.jd tSh fun x=>(U.w7 x.1 x.2.1,())) l):=by
  unfold U.jJ;congr 1
 rw[e];exact L.comp_asc (jmP _) (va (jmP l))
theorem jzS {α:Type} {lt:α->α->Bool} {l:List α} (e:ki lt l) (h:l.Pairwise (fun a b=>lt a b=true)):jsj lt l:=
 List.Pairwise.imp_of_mem (fun{a b} c f d=>by
  cases h:lt b a with
  |false=>rfl
  |true=>have:=e.trans _ _ _ c f c d h;rw[e.irrefl _ c] at this;cases this) h
theorem jA2 {a b:ShD} (h:U.zJ a<U.zJ b):jDf a b=true:=by
 have e:U.w7 a b<0:=by
  unfold U.w7;rw[j6];have:=jr4.2 h;rw[if_pos (by omega)];exact this
 exact decide_eq_true e
theorem jBn {l:List ShD} (k:∀a∈l,∀b∈l,U.zJ a=U.zJ b->a=b):(U.gn l).Pairwise (fun a b=>jDf a b=true):=by
 have o:=vg l;have c:(U.gn l).Pairwise (fun a b=>U.zJ a<=U.zJ b):=by
  unfold U.gn U.jrZ;refine List.pairwise_flatMap.2 ⟨fun m _=> ?_,?_⟩
  .exact jEO.2 fun i j hi n _=>by
    have d:=jci (List.getElem_mem hi);have c:=jci (List.getElem_mem n);omega
  .refine List.Pairwise.imp ?_ jFa;intro a b g x p y q;have d:=jci p;have c:=jci q;omega
 refine List.Pairwise.imp_of_mem ?_ (List.Pairwise.and c o);intro a b f h ⟨h3,h4⟩;refine jA2 ?_;have:U.zJ a≠U.zJ b:=fun e=>h4 (k a (we f) b (we h) e)
 omega
theorem jfm {l:List ShD} (h:∀s∈l,0<=U.zJ s/\U.zJ s<=99) (s:ShD):s∈U.gn l↔s∈l:=⟨we,fun a=>jxw a (h s a).1 (h s a).2⟩
theorem jfo {l:List ShD} (h:∀s∈l,0<=U.zJ s/\U.zJ s<=99):(U.jJ l).Perm (U.gn l):=
 L.perm_of_nodup (jfn l) (vg l) fun s=>jak.trans (jfm h s).symm
theorem jzo {l:List ShD} (h:∀s∈l,0<=U.zJ s/\U.zJ s<=99) (c:∀a∈l,∀b∈l,U.zJ a=U.zJ b->a=b):U.jJ l=U.gn l:=
 vT (jmP _) (jfo h) (jzS (jmP _) (jCG l)) (jzS (jmP _) (jBn c))
theorem jlY {l:List ShD} (h:∀s∈l,0<=U.zJ s/\U.zJ s<=99):U.kM (U.gn l)=U.kM l:=by
 have:U.kM (U.gn l)=false↔U.kM l=false:=by
  rw[vQ,vQ];exact⟨fun g a d b e=>g a ((jfm h a).2 d) b ((jfm h b).2 e),fun g a d b e=>g a (we d) b (we e)⟩
 cases c:U.kM (U.gn l) with
 |false=>exact(this.1 c).symm
 |true=>
  cases f:U.kM l with
  |false=>rw[this.2 f] at c;cases c
  |true=>rfl
theorem jzd (a b:List ShD):U.flatS [a,b] 2=a++b:=by
 show[a,b].flatten=a++b;simp
theorem jwX {d:DyD} (h:U.wH d=0):∀s∈U.jH d,0<=U.zJ s/\U.zJ s<=99:=fun _ a=>jiN (zh ((gy d).trans h)).1.2.2 a
theorem jrt {d:DyD} {m:List ShD} (h:U.wH d=0) (b:U.wH (U.jz d m)=0):∀s∈U.jH d++m,0<=U.zJ s/\U.zJ s<=99:=by
 intro s a;rcases jDY.1 a with a|a
 .exact jwX h s a
 .exact jwX b s a
theorem jwz (d:DyD) (m:List ShD):U.jpd d m=U.jwF d m:=by
 unfold U.jpd U.jwF U.jCi U.jfI;rw[gy,gy,jzd,jpG];by_cases h:U.wH d=0
 .by_cases a:U.wH (U.jz d m)=0
  .have b:=jrt h a;rw[(jfo b).length_eq,jlY b]
  .rw[if_neg (fun g=>g h),if_pos a,if_neg (fun g=>g h),if_pos a]
 .rw[if_pos h,if_pos h]
theorem jbx {d:DyD} {m:List ShD} (h:U.jwF d m=0):U.wH d=0/\U.wH (U.jz d m)=0/\(U.jfI d m).length<=30/\U.kM (U.jfI d m)=false:=by
 unfold U.jwF at h
 split at h
 .exact absurd h (by assumption)
 rename_i a
 split at h
 .exact absurd h (by assumption)
 rename_i b
 split at h
 .omega
 rename_i e
 split at h
 .omega
 rename_i c;exact⟨Decidable.not_not.1 a,Decidable.not_not.1 b,by omega,by simpa using c⟩
theorem jCh {d:DyD} {m:List ShD} (h:U.jwF d m=0):U.jCi d m=U.jfI d m:=by
 obtain⟨c,e,_,a⟩:=jbx h;have b:=jrt c e;unfold U.jCi U.jfI;rw[jzd];unfold U.jfI at a;rw[jlY b] at a;exact jzo b ((vQ _).1 a)
theorem jCg (d:DyD) (m:List ShD):U.jcz d m=U.jDB d m:=by
 unfold U.jcz U.jDB;rw[jwz];by_cases h:U.jwF d m=0
 .rw[if_pos h,if_pos h,jCh h]
 .rw[if_neg h,if_neg h]
end Go.X
namespace Go.X
namespace U
def jvg (d:DyD) (p:Int) (a:List Int) (s:ShD):List Int:=if qY d p (a++[w4 s])=true then a++[w4 s] else a
def jks (d:DyD) (p:Int) (l:List ShD):List Int:=l.foldl (jvg d p) []
def jB9 (p:Int) (s:ShD):Bool:=decide (zZ s=p)
def jfL (d:DyD) (p:Int):List ShD:=(jp8 d).filter (jB9 p)
end U
theorem jC4 {α:Type} {P:List α->Prop} (nil:P []) (snoc:∀l s,P l->P (l++[s])):∀l,P l:=by
 have h:∀r:List α,P r.reverse:=by
  intro r
  induction r with
  |nil=>exact nil
  |cons a r b=>rw[List.reverse_cons];exact snoc _ _ b
 intro l;have:=h l.reverse
 rwa [List.reverse_reverse] at this
theorem jkr (d:DyD) (p:Int) (l:List ShD) (s:ShD):U.jks d p (l++[s])=U.jvg d p (U.jks d p l) s:=by
 unfold U.jks;rw[jEv];rfl
theorem jzJ {d:DyD} {p:Int} {b:Int}:∀{l:List ShD},b∈U.jks d p l->∃s∈l,U.w4 s=b:=by
 intro l
 induction l using jC4 with
 |nil=>intro h;cases h
 |snoc l s c=>
  intro h;rw[jkr] at h;unfold U.jvg at h
  split at h
  .rcases jDY.1 h with h|h
   .obtain⟨t,a,e⟩:=c h;exact⟨t,jDS _ a,e⟩
   .exact⟨s,jDR _ (jEn.2 rfl),(jEn.1 h).symm⟩
  .obtain⟨t,a,e⟩:=c h;exact⟨t,jDS _ a,e⟩
attribute [local irreducible] U.zP U.qY U.jnw U.on U.jM jpN U.jcv U.zU in
theorem jzI {d:DyD} (h:U.jr d=0) {i:Nat} (hi:i<(U.jM d).length) (p:Nat) (ih:∀q:Nat,nth (U.zP (U.jcv d) (U.jM d) i).1 q=U.jks d (q:Int) ((((U.jM d).take i).filter (jpN d)).filter (U.jB9 (q:Int)))) (hrd:U.rd (U.jcv d)=d) (hml:U.y5 (U.jcv d)=U.zU d (U.jp d).length)
 (hx:(U.zP (U.jcv d) (U.jM d) i).1.length=(U.ji (U.jf d)).length) (hdec:jpN d=U.zW (U.zm (U.jM d) (U.jM d).length))
 (hnew:jpN d (nth (U.jM d) i)=true->(nth (U.zP (U.jcv d) (U.jM d) i).1 (U.zZ (nth (U.jM d) i)).toNat++[U.w4 (nth (U.jM d) i)]).Nodup/\∀b∈nth (U.zP (U.jcv d) (U.jM d) i).1 (U.zZ (nth (U.jM d) i)).toNat++[U.w4 (nth (U.jM d) i)],U.q6 d b):
 nth (U.zP (U.jcv d) (U.jM d) (i+1)).1 p=U.jks d (p:Int) ((((U.jM d).take (i+1)).filter (jpN d)).filter (U.jB9 (p:Int))):=by
 have hD:=(zh h).1
 have hsf:=jbX hD.2.2 (qQ.1 (L.mem_nth (l:=U.jM d) (i:=i) hi))
 rw[L.filter_take hi,List.filter_append]
 cases hc:jpN d (nth (U.jM d) i) with
 |false=>
  rw[hdec] at hc
  rw[jmp hi hc,if_neg (by simp),List.filter_nil,jEm]
  exact ih p
 |true=>
  have hn:=hnew hc
  have hcan:U.jnw d (U.zU d (U.jp d).length) (U.zZ (nth (U.jM d) i)) (nth (U.zP (U.jcv d) (U.jM d) i).1 (U.zZ (nth (U.jM d) i)).toNat++[U.w4 (nth (U.jM d) i)])=U.qY d (U.zZ (nth (U.jM d) i)) (nth (U.zP (U.jcv d) (U.jM d) i).1 (U.zZ (nth (U.jM d) i)).toNat++[U.w4 (nth (U.jM d) i)]):=
   jxL hn.1 (fun c hc=>jwC hD (hn.2 c hc) hsf.1)
  rw[hdec] at hc
  rw[if_pos rfl]
  have hsp:((U.zZ (nth (U.jM d) i)).toNat:Int)=U.zZ (nth (U.jM d) i):=by omega
  by_cases hp:U.zZ (nth (U.jM d) i)=(p:Int)
  .have e1:List.filter (U.jB9 (p:Int)) [nth (U.jM d) i]=[nth (U.jM d) i]:=by
    rw[List.filter_cons_of_pos]
    .rfl
    .exact decide_eq_true hp
   have ep:(U.zZ (nth (U.jM d) i)).toNat=p:=by omega
   rw[e1,jkr,<-ih p]
   rw[ep,hp] at hcan
   unfold U.jvg
   cases hk:U.qY d (p:Int) (nth (U.zP (U.jcv d) (U.jM d) i).1 p++[U.w4 (nth (U.jM d) i)]) with
   |true=>
    rw[hk] at hcan
    rw[jmo hi hc (by rw[hrd,hml,ep,hp];exact hcan),if_pos rfl,ep]
    show nth ((U.zP (U.jcv d) (U.jM d) i).1.set p _) p=_
    rw[L.nth_set (by omega),if_pos rfl]
   |false=>
    rw[hk] at hcan
    rw[jsp hi hc (by rw[hrd,hml,ep,hp];exact hcan),if_neg (by simp)]
  .have e1:List.filter (U.jB9 (p:Int)) [nth (U.jM d) i]=[]:=by
    rw[List.filter_cons_of_neg]
    .rfl
    .unfold U.jB9;simpa using hp
   rw[e1,jEm,<-ih p]
   cases hk:U.qY d (U.zZ (nth (U.jM d) i)) (nth (U.zP (U.jcv d) (U.jM d) i).1 (U.zZ (nth (U.jM d) i)).toNat++[U.w4 (nth (U.jM d) i)]) with
   |true=>
    rw[hk] at hcan
    rw[jmo hi hc (by rw[hrd,hml];exact hcan)]
    show nth ((U.zP (U.jcv d) (U.jM d) i).1.set _ _) p=_
    rw[L.nth_set (by omega),if_neg (by omega)]
   |false=>
    rw[hk] at hcan
    rw[jsp hi hc (by rw[hrd,hml];exact hcan)]
theorem jx0 {d:DyD} (h:U.jr d=0):∀i,i<=(U.jM d).length->∀p:Nat,nth (U.zP (U.jcv d) (U.jM d) i).1 p=U.jks d (p:Int) ((((U.jM d).take i).filter (jpN d)).filter (U.jB9 (p:Int)))
 |0,_=>fun p=>by
  have j:U.jyN (U.jAS d):=fun x m=>(List.mem_replicate.1 m).2
  exact jm0 j p
 |i+1,hi=>fun p=>by
  have n:=jx0 h i (by omega)
  obtain⟨⟨_,o⟩,⟨k,b⟩,c⟩:=jsC h
  have f:=(zh h).1
  have a:=jmq (r:=U.jcv d) (l:=U.jM d) f.2.2 (fun s e=>qQ.1 e) (qr d) k b c i (by omega)
  refine jzI h hi p n rfl rfl a.1 rfl fun g=> ?_
  have:=jso (r:=U.jcv d) (l:=U.jM d) f.2.2 (fun s e=>qQ.1 e) (qr d) hi a g
  exact⟨this.1,this.2.1⟩
theorem jB7 {d:DyD} (h:U.jr d=0) (p:Nat):nth (U.wm (U.jnH d)) p=U.jks d (p:Int) (U.jfL d (p:Int)):=by
 have:=jx0 h _ (jDW _) p;rw[jEK,jzP h] at this;exact this
theorem jsa {d:DyD} (h:U.wH d=0) {b:Nat} (c:b<(U.jp d).length) {p:Nat} (f:p<(U.ji (U.jf d)).length):U.wG (nth (U.jcF d).1 b) (p:Int)=true↔(b:Int)∈U.jks d (p:Int) (U.jfL d (p:Int)):=by
 have a:U.jr d=0:=(gy d).trans h;have e:=jf5 a;rw[jna (e.set b c)];refine(e.bit b c p).trans ?_;rw[<-jB7 a p];exact⟨fun h=>h.2,fun h=>⟨f,h⟩⟩
theorem jaZ {d:DyD} (h:U.wH d=0) (s:ShD):s∈U.jp8 d↔s∈U.jH d/\U.jqT s=1/\∀t∈U.jH d,U.qw t=U.qw s->U.kS t s=false:=by
 have hi:=fun s=>jfm (l:=U.jH d) (jwX h) s
 rw[(jd5 d).mem_iff,jil,jEa,jkb,hi s];exact and_congr_right fun _=>and_congr_right fun _=>⟨fun g t a=>g t ((hi t).2 a),fun g t a=>g t ((hi t).1 a)⟩
theorem jik (d:DyD):(U.jp8 d).Nodup:=(jd5 d).nodup_iff.2 (by rw[jil];exact List.Pairwise.filter _ (vg _))
theorem jwY {d:DyD} (h:U.wH d=0):∀a∈U.jH d,∀b∈U.jH d,U.zJ a=U.zJ b->a=b:=(zh ((gy d).trans h)).2
theorem jli {d:DyD} (h:U.wH d=0) (q:ShD->Bool) {l:List ShD} (i:l.Nodup) (g:∀s,s∈l↔s∈U.jp8 d/\q s=true) (c:jsj U.jxP l):(U.jp8 d).filter q=l:=by
 refine vT (jxQ ?_) (L.perm_of_nodup (List.Pairwise.filter _ (jik d)) i fun s=> ?_) (List.Pairwise.filter _ (jmc d)) c
 .intro a c b f e;exact jwY h a ((jaZ h a).1 (jEa.1 c).1).1 b ((jaZ h b).1 (jEa.1 f).1).1 e
 .rw[jEa,g]
end Go.X
namespace Go.X
theorem jbM {d:DyD}:U.wH d=0↔U.jo7 d/\∀a∈U.jH d,∀b∈U.jH d,U.zJ a=U.zJ b->a=b:=by
 refine⟨fun h=>zh ((gy d).trans h),fun⟨⟨c,e,f⟩,g⟩=> ?_⟩;unfold U.wH;rw[c,e,f,(vQ _).2 g];rfl
theorem jzr {d:DyD} {l:List ShD} (h:U.zj d=true) (a:l.length<=30) (b:∀s∈l,U.yx (U.jp d).length (U.ji (U.jf d)).length s=true):U.zj (U.jz d l)=true:=by
 have f:=j7 h;show(decide ((U.jp d).length<=4/\1<=(U.jA d).length/\(U.jA d).length<=5/\0<=U.joz d/\U.joz d<=300/\0<=U.jyT d/\U.jyT d<=1440/\l.length<=30)&&
  ((U.jA d).all (U.qB (U.jA d).length)&&((U.jp d).all (U.jbu (U.jA d).length)&&l.all (U.yx (U.jp d).length (U.ji (U.jf d)).length))))=true
 simp only[jDV,decide_eq_true_eq,jEw];exact⟨⟨f.1,f.2.1.1,f.2.1.2,f.2.2.1.1,f.2.2.1.2,f.2.2.2.1.1,f.2.2.2.1.2,a⟩,f.2.2.2.2.2.1,f.2.2.2.2.2.2.1,b⟩
theorem jzv {d:DyD} {l:List ShD} (h:U.jo7 d) (c:l.length<=30) (e:∀s∈l,U.yx (U.jp d).length (U.ji (U.jf d)).length s=true) (hi:∀a∈l,∀b∈l,U.zJ a=U.zJ b->a=b):U.wH (U.jz d l)=0:=
 jbM.2 ⟨⟨h.1,h.2.1,jzr h.2.2 c e⟩,hi⟩
theorem jyd {d:DyD} {m:List ShD} {q:Int} (h:U.wH d=0) (j:U.wH (U.jz d m)=0) (c:∀s,U.zZ s=q->(s∈m↔s∈U.jH d)):U.jfL (U.jz d m) q=U.jfL d q:=by
 unfold U.jfL;refine(jli h _ (List.Pairwise.filter _ (jik _)) (fun s=> ?_) (List.Pairwise.filter _ (jmc _))).symm;rw[jEa];refine and_congr_left fun a=> ?_
 have a:U.zZ s=q:=of_decide_eq_true a;rw[jaZ j,jaZ h];have i:∀t,U.qw t=U.qw s->(t∈m↔t∈U.jH d):=fun t e=>c t (((jbY t s).1 e).2.trans a)
 refine⟨fun g=>⟨(c s a).1 g.1,g.2.1,fun t f b=>g.2.2 t ((i t b).2 f) b⟩,fun g=>⟨(c s a).2 g.1,g.2.1,fun t f b=>g.2.2 t ((i t b).1 f) b⟩⟩
theorem jyc {d:DyD} {m:List ShD} {x:ShD} (h:U.wH d=0) (z:U.wH (U.jz d m)=0) (n:∀s,U.zZ s=U.zZ x->(s∈m↔s∈U.jH d\/s=x)) (r:∀s∈U.jH d,U.kS x s=true):
 U.jfL (U.jz d m) (U.zZ x)=(U.jfL d (U.zZ x)).filter (fun s=> !decide (U.w4 s=U.w4 x))++(if U.jqT x=1 then[x] else[]):=by
 have y:x∉U.jH d:=fun C=>by have:=r x C;rw[wC] at this;cases this
 have l:∀s∈(U.jfL d (U.zZ x)).filter (fun s=> !decide (U.w4 s=U.w4 x)),s∈U.jH d:=fun s B=>((jaZ h s).1 (jEa.1 (jEa.1 B).1).1).1
 unfold U.jfL at l⊢;refine jli z _ (jEU.2 ⟨List.Pairwise.filter _ (List.Pairwise.filter _ (jik _)),?_,fun a u b i e=> ?_⟩) (fun s=> ?_) (List.pairwise_append.2 ⟨List.Pairwise.filter _ (List.Pairwise.filter _ (jmc _)),?_,fun a u b i=> ?_⟩)
 .split<;>simp
 .split at i
  .rw[jEn] at i;subst i;subst e;exact y (l a u)
  .cases i
 .rw[jDY,jEa,jEa,jaZ z,jaZ h];have w:∀t,U.qw t=U.qw s->U.zZ s=U.zZ x->(t∈m↔t∈U.jH d\/t=x):=fun t e A=>n t (((jbY t s).1 e).2.trans A)
  constructor
  .rintro(⟨⟨⟨j,p,q⟩,o⟩,v⟩|g)
   .have c:U.zZ s=U.zZ x:=of_decide_eq_true o;refine⟨⟨(n s c).2 (.inl j),p,fun t f k=> ?_⟩,o⟩;rcases(w t k c).1 f with f|f
    .exact q t f k
    .subst f;have:=((jbY t s).1 k).1;simp[this] at v
   .split at g
    .rename_i hk;rw[jEn] at g;subst g;refine⟨⟨(n s rfl).2 (.inr rfl),hk,fun t f k=> ?_⟩,decide_eq_true rfl⟩;rcases(w t k rfl).1 f with f|f
     .exact jb6 (r t f)
     .subst f;exact wC _
    .cases g
  .rintro⟨⟨j,p,q⟩,o⟩;have c:U.zZ s=U.zZ x:=of_decide_eq_true o;rcases(n s c).1 j with j|j
   .refine .inl ⟨⟨⟨j,p,fun t f k=>q t ((w t k c).2 (.inl f)) k⟩,o⟩,?_⟩;by_cases e:U.w4 s=U.w4 x
    .have:=q x ((n x rfl).2 (.inr rfl)) ((jbY x s).2 ⟨e.symm,c.symm⟩);rw[r s j] at this;cases this
    .simp[e]
   .subst j;refine .inr ?_;rw[if_pos p];exact jEn.2 rfl
 .split<;>simp
 .split at i
  .rw[jEn] at i;subst i;show U.kS a b=false;exact jb6 (r a (l a u))
  .cases i
end Go.X


namespace Go.X
instance:Inhabited (Nat×Nat):=⟨(0,0)⟩
end Go.X

namespace Go.X
open Go.Proofs
abbrev rwP:Sh:= .cl (.row 92 tPe .unk)
def jeo:jU:=⟨[.val (.slice .int)],[.slice .int],false,fun d=>[d.1.length<=100000],fun d=>(d.1,())⟩
def jea:Prop:=∀(d:List Int×Unit),d.1.length<=100000->∀(a:Bool),(a=true->d.1=[])->(a=true->([],())=d)/\(a=false->(0+d.1.length)*8<=140737488355328/\([]++d.1,())=d)
def jho:jU:=⟨[.val (.slice tSp)],[.slice tSp],false,fun d=>[d.1.length<=100000],fun d=>(d.1,())⟩
def jhf:Prop:=∀(d:List (Int×Int×Unit)×Unit),d.1.length<=100000->∀(a:Bool),(a=true->d.1=[])->(a=true->([],())=d)/\(a=false->(0+d.1.length)*16<=140737488355328/\([]++d.1,())=d)
def jdc:jU:=⟨[.val (.slice tBk)],[.slice tBk],false,fun d=>[d.1.length<=100000],fun d=>(d.1,())⟩
def jc3:Prop:=∀(d:List BkD×Unit),d.1.length<=100000->∀(a:Bool),(a=true->d.1=[])->(a=true->([],())=d)/\(a=false->(0+d.1.length)*72<=140737488355328/\([]++d.1,())=d)
def jiI:jU:=⟨[.val (.slice tLw)],[.slice tLw],false,fun d=>[d.1.length<=100000],fun d=>(d.1,())⟩
def jir:Prop:=∀(d:List LwD×Unit),d.1.length<=100000->∀(a:Bool),(a=true->d.1=[])->(a=true->([],())=d)/\(a=false->(0+d.1.length)*24<=140737488355328/\([]++d.1,())=d)
def jev:zv:=⟨[.val (.slice tPe)],[rwP],fun d=>[d.1.length<=100000],fun d=>((d.1,()),())⟩
def jec:Prop:=∀(d:List PeD×Unit),d.1.length<=100000->∀(a:Bool),(a=true->d.1=[])->(a=true->([],())=d/\()=())/\(a=false->(0+d.1.length)*80<=140737488355328/\([]++d.1,())=d/\()=())
def joj:jU:=⟨[.val tDy,.val (.slice tSh)],[tDy],false,fun d=>[U.jbd d.1],fun d=>(U.jz d.1 d.2.1,())⟩
def jpZ:Ann:=fun r=>match r with
 |7=>some fun σ=>{X:=Nat,sl:=fun i=>[(33,.dat .int (i:Int))],ob:=fun _=>[(yZ 5 1,some (.row 92 tPe false .unk (U.ji (U.jf (gb tDy σ 2)))))],inv:=fun i=>i<=(U.ji (U.jf (gb tDy σ 2))).length,mu:=fun i=>(U.ji (U.jf (gb tDy σ 2))).length-i}
 |13=>some fun σ=>{X:=Nat,sl:=fun i=>[(61,.dat .int (i:Int))],ob:=fun i=>[(5,some (.box 30 false ((bx σ 5).set 3 (.own (yZ 5 3) (.slice tSp))))),(yZ 5 3,some (.row 37 (.slice tSp) false .yes ((U.jA (gb tDy σ 2)).take i)))],inv:=fun i=>i<=(U.jA (gb tDy σ 2)).length,mu:=fun i=>(U.jA (gb tDy σ 2)).length-i}
 |_=>none
abbrev q124_1 (d:DyD×List ShD×Unit):=(d.1.1.1=d.1.1.1/\True/\d.1.1.2.2.1=d.1.1.2.2.1/\True/\d.1.2.2.1=d.1.2.2.1/\d.1.2.2.2.1=d.1.2.2.2.1/\d.1.2.2.2.2.1=d.1.2.2.2.2.1/\d.2.1=d.2.1/\True)
abbrev q124_2 (d:DyD×List ShD×Unit):=(U.ji (U.jf d.1))
abbrev q124_0 (d:DyD×List ShD×Unit)(x:Nat):=((q124_2 d).set (x:Int).toNat (nth (q124_2 d) (x:Int).toNat))
def jnW:Prop:=∀(d:DyD×List ShD×Unit),U.jbd d.1->d.1.2.2.1.length<=100000/\d.1.1.2.2.1.length<=100000/\d.1.1.2.1.length<=100000/\(d.1.1.2.1.length<4611686018427387904->(∃(x:Nat),((0=(x:Int)/\True)/\d.1.1.2.1=U.ji (U.jf d.1)/\True)/\x<=(q124_2 d).length)/\∀(x:Nat),x<=(q124_2 d).length->(decide ((x:Int)<(d.1.1.2.1.length:Int))=true->0<=(x:Int)/\(x:Int)<(↑(q124_2 d).length:Int)/\(nth (q124_2 d) (x:Int).toNat).1.length<=100000/\(nth (q124_2 d) (x:Int).toNat).2.2.2.1.length<=100000/\0<=(x:Int)/\(x:Int)<(↑(q124_2 d).length:Int)/\0<=(x:Int)/\(x:Int)<(↑(q124_0 d x).length:Int)/\jD ((x:Int)+1)/\∃(a:Nat),(((x:Int)+1=(a:Int)/\True)/\(q124_0 d x).set (x:Int).toNat ((nth (q124_0 d x) (x:Int).toNat).1,(nth (q124_0 d x) (x:Int).toNat).2.1,(nth (q124_0 d x) (x:Int).toNat).2.2.1,(nth (q124_2 d) (x:Int).toNat).2.2.2.1,(nth (q124_0 d x) (x:Int).toNat).2.2.2.2)=U.ji (U.jf d.1)/\True)/\a<=(q124_2 d).length/\(q124_2 d).length-a<(q124_2 d).length-x)/\(decide ((x:Int)<(d.1.1.2.1.length:Int))=false->d.1.2.1.length<4611686018427387904->(∃(x:Nat),((0=(x:Int)/\True)/\(q124_1 d)/\List.take x (U.jA d.1)=[]/\True)/\x<=(U.jA d.1).length)/\∀(x:Nat),x<=(U.jA d.1).length->(decide ((x:Int)<(d.1.2.1.length:Int))=true->0<=(x:Int)/\(x:Int)<(d.1.2.1.length:Int)/\(nth d.1.2.1 (x:Int).toNat).length<=100000/\((List.take x (U.jA d.1)).length+[nth d.1.2.1 (x:Int).toNat].length)*24<=140737488355328/\jD ((x:Int)+1)/\∃(a:Nat),(((x:Int)+1=(a:Int)/\True)/\(q124_1 d)/\List.take x (U.jA d.1)++[nth d.1.2.1 (x:Int).toNat]=List.take a (U.jA d.1)/\True)/\a<=(U.jA d.1).length/\(U.jA d.1).length-a<(U.jA d.1).length-x)/\(decide ((x:Int)<(d.1.2.1.length:Int))=false->(((d.1.1.1,U.ji (U.jf d.1),d.1.1.2.2),List.take x (U.jA d.1),d.1.2.2.1,d.1.2.2.2.1,d.1.2.2.2.2.1,d.2),())=(U.jz d.1 d.2.1,()))))
def jhv:zv:=⟨[.nil false,.val .int],[.cl (.row 55 tSh .unk)],fun d=>[0<=d.2.1/\d.2.1<=100000],fun _=>((U.jCW,()),())⟩
abbrev q125_0:=((0:Int)-(↑0:Int))
abbrev q125_1 (d:Unit×Int×Unit):=(List.replicate (d.2.1-q125_0).toNat ((0:Int),(0:Int),(0:Int),(0:Int),(0:Int),()))
def jhe:Prop:=∀(d:Unit×Int×Unit),0<=d.2.1/\d.2.1<=100000->(decide (d.2.1<0)=true->False)/\(decide (d.2.1<0)=false->jD q125_0/\jD (d.2.1-q125_0)/\(decide (0<d.2.1-q125_0)=true->(0:Int)<=0/\(0:Int)<=0/\(0:Int)<=0/\0<d.2.1-q125_0/\(d.2.1-q125_0).toNat*40<=140737488355328/\(0:Int)<=0/\(0:Int)<=(↑0:Int)/\(↑0:Int)<=(↑(q125_1 d).length:Int)/\(List.take ((↑0:Int).toNat-Int.toNat 0) (q125_1 d),())=(U.jCW,())/\()=())/\(decide (0<d.2.1-q125_0)=false->([],())=(U.jCW,())/\()=()))
def jen:jU:=⟨[.val (.slice (.slice tSh))],[.slice tSh],false,fun d=>[d.1.length<=100,∀x∈d.1,x.length<=1000],fun d=>(U.flatS d.1 d.1.length,())⟩
def jfB:Ann:=fun r=>match r with
 |3=>some fun σ=>{X:=Nat,sl:=fun i=>[(11,.dat .int (i:Int)),(3,.dat .int (((U.flatS (gd (.slice (.slice tSh)) σ 0) i).length:Nat):Int))],ob:=fun _=>[],inv:=fun i=>i<=(gd (.slice (.slice tSh)) σ 0).length,mu:=fun i=>(gd (.slice (.slice tSh)) σ 0).length-i}
 |11=>some fun σ=>{X:=Nat,sl:=fun i=>[(27,.dat .int (i:Int)),(6,.own 6 tSh)],ob:=fun i=>[(6,some (.row 55 tSh false .unk (U.flatS (gd (.slice (.slice tSh)) σ 0) i)))],inv:=fun i=>i<=(gd (.slice (.slice tSh)) σ 0).length,mu:=fun i=>(gd (.slice (.slice tSh)) σ 0).length-i}
 |_=>none
abbrev q126_0 (d:List (List ShD)×Unit)(x:Nat):=(↑(U.flatS d.1 x).length:Int)
abbrev q126_1 (d:List (List ShD)×Unit)(x:Nat):=(↑(nth d.1 (x:Int).toNat).length:Int)
def jd9:Prop:=∀(d:List (List ShD)×Unit),d.1.length<=100->(∀(b:List ShD),b∈d.1->b.length<=1000)->d.1.length<4611686018427387904->(∃(x:Nat),((0=(x:Int)/\(0:Int)=(q126_0 d x)/\True)/\True)/\x<=d.1.length)/\∀(x:Nat),x<=d.1.length->(decide ((x:Int)<(d.1.length:Int))=true->0<=(x:Int)/\(x:Int)<(d.1.length:Int)/\((nth d.1 (x:Int).toNat).length<4611686018427387904->jD ((q126_0 d x)+(q126_1 d x))/\(decide ((q126_0 d x)+(q126_1 d x)<0)=true->False)/\(decide ((q126_0 d x)+(q126_1 d x)<0)=false->jD ((x:Int)+1)/\∃(a:Nat),(((x:Int)+1=(a:Int)/\(q126_0 d x)+(q126_1 d x)=(↑(U.flatS d.1 a).length:Int)/\True)/\True)/\a<=d.1.length/\d.1.length-a<d.1.length-x)))/\(decide ((x:Int)<(d.1.length:Int))=false->((0:Int)<=(q126_0 d x)/\(q126_0 d x)<=100000)/\(d.1.length<4611686018427387904->(∃(x:Nat),((0=(x:Int)/\True/\True)/\U.jCW=U.flatS d.1 x/\True)/\x<=d.1.length)/\∀(x:Nat),x<=d.1.length->(decide ((x:Int)<(d.1.length:Int))=true->0<=(x:Int)/\(x:Int)<(d.1.length:Int)/\((U.flatS d.1 x).length+(nth d.1 (x:Int).toNat).length)*40<=140737488355328/\jD ((x:Int)+1)/\∃(a:Nat),(((x:Int)+1=(a:Int)/\True/\True)/\U.flatS d.1 x++nth d.1 (x:Int).toNat=U.flatS d.1 a/\True)/\a<=d.1.length/\d.1.length-a<d.1.length-x)/\(decide ((x:Int)<(d.1.length:Int))=false->(U.flatS d.1 x,())=(U.flatS d.1 d.1.length,()))))
def jtL:jU:=⟨[.val tDy,.val (.slice tSh)],[tDy,.int],false,fun d=>[(U.jH d.1).length<=100000,d.2.1.length<=100000],fun d=>(U.jcz d.1 d.2.1,U.jpd d.1 d.2.1,())⟩
def juV:Ann:=fun r=>match r with
 |4=>some fun σ=>{X:=Nat,sl:=fun i=>[(18,.dat .int (i:Int))],ob:=fun _=>[],inv:=fun i=>i<=2/\(0<i->U.jr (gb tDy σ 2)=0)/\(1<i->U.jr (U.jz (gb tDy σ 2) (gd (.slice tSh) σ 1))=0),mu:=fun i=>2-i}
 |_=>none
abbrev q127_0 (d:DyD×List ShD×Unit):=(U.flatS [d.1.2.2.2.2.2.1,d.2.1] [d.1.2.2.2.2.2.1,d.2.1].length)
abbrev q127_1 (d:DyD×List ShD×Unit):=(d.1.1,d.1.2.1,d.1.2.2.1,d.1.2.2.2.1,d.1.2.2.2.2.1,d.2)
abbrev q127_2 (d:DyD×List ShD×Unit):=(U.jcz d.1 d.2.1,U.jpd d.1 d.2.1,())
abbrev q127_3 (d:DyD×List ShD×Unit)(x:Nat):=(nth [d.1,(q127_1 d)] (x:Int).toNat)
def jtv:Prop:=∀(d:DyD×List ShD×Unit),(U.jH d.1).length<=100000->d.2.1.length<=100000->[d.1,(q127_1 d)].length<4611686018427387904->(∃(x:Nat),((0=(x:Int)/\True)/\True)/\x<=2/\(0<x->U.jr d.1=0)/\(1<x->U.jr (U.jz d.1 d.2.1)=0))/\∀(x:Nat),x<=2/\(0<x->U.jr d.1=0)/\(1<x->U.jr (U.jz d.1 d.2.1)=0)->(decide ((x:Int)<(↑[d.1,(q127_1 d)].length:Int))=true->0<=(x:Int)/\(x:Int)<(↑[d.1,(q127_1 d)].length:Int)/\(U.jH (q127_3 d x)).length<=100000/\(decide (U.jr (q127_3 d x)≠0)=true->((((0:Int),[],[],()),[],[],(0:Int),(0:Int),[],()),U.jr (q127_3 d x),())=(q127_2 d))/\(decide (U.jr (q127_3 d x)≠0)=false->jD ((x:Int)+1)/\∃(a:Nat),(((x:Int)+1=(a:Int)/\True)/\True)/\(a<=2/\(0<a->U.jr d.1=0)/\(1<a->U.jr (U.jz d.1 d.2.1)=0))/\2-a<2-x))/\(decide ((x:Int)<(↑[d.1,(q127_1 d)].length:Int))=false->[d.1.2.2.2.2.2.1,d.2.1].length<=100/\(∀(b:List ShD),b∈[d.1.2.2.2.2.2.1,d.2.1]->b.length<=1000)/\(q127_0 d).length<=100000/\((U.jJ (q127_0 d)).length<4611686018427387904->(decide ((30:Int)<(↑(U.jJ (q127_0 d)).length:Int))=true->((((0:Int),[],[],()),[],[],(0:Int),(0:Int),[],()),(2:Int),())=(q127_2 d))/\(decide ((30:Int)<(↑(U.jJ (q127_0 d)).length:Int))=false->(U.jJ (q127_0 d)).length<=100000/\(U.jrU (U.jJ (q127_0 d))=true->((((0:Int),[],[],()),[],[],(0:Int),(0:Int),[],()),(51:Int),())=(q127_2 d))/\(U.jrU (U.jJ (q127_0 d))=false->U.jbd d.1/\(U.jz d.1 (U.jJ (q127_0 d)),(0:Int),())=(q127_2 d)))))
def jqB:jU:=⟨[.val tDy],[.bool],false,fun _=>[],fun d=>(!U.jgB d.1&&decide (U.wH d.1=0),())⟩
def jqf:Prop:=∀(d:DyD×Unit),((!U.jgB d.1)=true->(U.jp d.1).length<=1000000)/\(!U.jgB d.1&&decide (U.wH d.1=0),())=(!U.jgB d.1&&decide (U.wH d.1=0),())
end Go.X
namespace Go.X
open Go.Proofs
theorem jgr:jea:=by
 rintro⟨l,⟨⟩⟩ b c a;have b:l.length<=100000:=b;refine⟨fun h=> ?_,fun _=>⟨by simp only;omega,by simp⟩⟩;have:l=[]:=a h;rw[this]
theorem jeJ:zk PR 75 jeo:=jN jgr Tryz.func75 kcN koN
theorem jjM:jhf:=by
 rintro⟨l,⟨⟩⟩ b c a;have b:l.length<=100000:=b;refine⟨fun h=> ?_,fun _=>⟨by simp only;omega,by simp⟩⟩;have:l=[]:=a h;rw[this]
theorem jhG:zk PR 92 jho:=jN jjM Tryz.func92 kcN koN
theorem je7:jc3:=by
 rintro⟨l,⟨⟩⟩ b c a;have b:l.length<=100000:=b;refine⟨fun h=> ?_,fun _=>⟨by simp only;omega,by simp⟩⟩;have:l=[]:=a h;rw[this]
theorem jds:zk PR 89 jdc:=jN je7 Tryz.func89 kcN koN
theorem jkW:jir:=by
 rintro⟨l,⟨⟩⟩ b c a;have b:l.length<=100000:=b;refine⟨fun h=> ?_,fun _=>⟨by simp only;omega,by simp⟩⟩;have:l=[]:=a h;rw[this]
theorem jja:zk PR 90 jiI:=jN jkW Tryz.func90 kcN koN
theorem jgt:jec:=by
 rintro⟨l,⟨⟩⟩ b c a;have b:l.length<=100000:=b;refine⟨fun h=>⟨?_,rfl⟩,fun _=>⟨by simp only;omega,by simp,rfl⟩⟩;have:l=[]:=a h;rw[this]
theorem jeL:wI PR 91 jev:=jgX jgt Tryz.func91 kcN koN
theorem jov {α:Type} [Inhabited α] (l:List α) (i:Nat):l.set i (nth l i)=l:=by
 by_cases h:i<l.length
 .refine L.ext_nth (by simp) fun j a=> ?_
  rw[L.nth_set h]
  split
  .rename_i e;rw[e]
  .rfl
 .exact List.set_eq_of_length_le (by omega)
theorem jrF:jnW:=by
 unfold jnW q124_0 q124_2 q124_1;rintro⟨d,m,⟨⟩⟩ j;obtain⟨⟨q,s,c⟩,r,o,k,f⟩:U.jbd d:=j;refine⟨by show(U.jp d).length<=100000;omega,by show(U.kB (U.jf d)).length<=100000;omega,by show(U.ji (U.jf d)).length<=100000;omega,fun _=>⟨⟨0,⟨⟨rfl,trivial⟩,rfl,trivial⟩,jD6 _⟩,fun x t=>⟨fun h=> ?_,fun h=> ?_⟩⟩⟩
 .have h:(x:Int)<((U.ji (U.jf d)).length:Int):=of_decide_eq_true h;have b:=c _ (L.mem_nth (l:=U.ji (U.jf d)) (i:=x) (by omega));have x0:(0:Int)<=(x:Int):=jEo x;have e:=jov (U.ji (U.jf d)) x;simp only[jD0];refine⟨x0,h,by have:=b.1;unfold U.lv at this;omega,by have:=b.2;unfold U.wk at this;omega,x0,h,x0,by rw[e];exact h,L.in64 (by omega) (by omega),x+1,⟨⟨by simp,trivial⟩,?_,trivial⟩,by omega,by omega⟩;rw[e];exact e
 .refine fun _=>⟨⟨0,⟨⟨rfl,trivial⟩,⟨rfl,trivial,rfl,trivial,rfl,rfl,rfl,rfl,trivial⟩,rfl,trivial⟩,jD6 _⟩,fun y u=>⟨fun a=> ?_,fun a=> ?_⟩⟩
  .have a:(y:Int)<((U.jA d).length:Int):=of_decide_eq_true a;have g:=f _ (L.mem_nth (l:=U.jA d) (i:=y) (by omega));have n:(0:Int)<=(y:Int):=jEo y;have p:(List.take y (U.jA d)).length=y:=(by rw[jEp];omega);refine⟨n,a,?_,?_,L.in64 (by omega) (by omega),y+1,⟨⟨by simp,trivial⟩,⟨rfl,trivial,rfl,trivial,rfl,rfl,rfl,rfl,trivial⟩,?_,trivial⟩,by show y+1<=(U.jA d).length;omega,by show(U.jA d).length-(y+1)<(U.jA d).length-y;omega⟩
   .show(nth (U.jA d) (y:Int).toNat).length<=100000;rw[jD0];omega
   .show((List.take y (U.jA d)).length+1)*24<=140737488355328;omega
   .show List.take y (U.jA d)++[nth (U.jA d) (y:Int).toNat]=_;rw[jD0,L.take_succ (l:=U.jA d) (by omega)]
  .have a:¬(y:Int)<((U.jA d).length:Int):=of_decide_eq_false a;have e:List.take y (U.jA d)=U.jA d:=jEL (by omega);rw[e];rfl
theorem jo1:zk PR 57 joj:=wF jpZ jrF Tryz.func57 (kcC jds (kcC jja (kcC jeJ (kcC jhG kcN)))) (koC jeL koN)
theorem jjL:jhe:=by
 unfold jhe q125_1 q125_0;rintro⟨⟨⟩,n,⟨⟩⟩ ⟨a,b⟩;have a:0<=n:=a;have b:n<=100000:=b;refine⟨fun h=> ?_,fun _=>⟨L.in64 (by simp) (by simp),L.in64 (by simp only;omega) (by simp only;omega),fun h=> ?_,fun _=>⟨rfl,rfl⟩⟩⟩
 .have h:n<0:=of_decide_eq_true h;omega
 .have h:0<n-(0-((0:Nat):Int)):=of_decide_eq_true h;refine⟨jEP _,jEP _,jEP _,h,?_,jEP _,jEP _,by rw[jET];exact jEo _,?_,rfl⟩
  .show(n-(0-((0:Nat):Int))).toNat*40<=_;omega
  .show(List.take 0 _,())=(U.jCW,());rw[List.take_zero];rfl
theorem jhF:wI PR 86 jhv:=jgX jjL Tryz.func86 kcN koN
theorem jgA {l:List (List ShD)} {i:Nat} (h:i<l.length):U.flatS l (i+1)=U.flatS l i++nth l i:=by
 unfold U.flatS;rw[L.take_succ h,List.flatten_append];simp
theorem jfg {l:List (List ShD)} (a:∀x∈l,x.length<=1000):∀i,i<=l.length->(U.flatS l i).length<=1000*i
 |0,_=>by unfold U.flatS;simp
 |i+1,hi=>by
  have:=jfg a i (by omega)
  have:=a _ (L.mem_nth (l:=l) (i:=i) (by omega))
  rw[jgA (by omega),jEd]
  omega
theorem jgq:jd9:=by
 unfold jd9 q126_1 q126_0;rintro⟨l,⟨⟩⟩ f c _;have f:l.length<=100:=f;have c:∀x∈l,x.length<=1000:=c;refine⟨⟨0,⟨⟨rfl,rfl,trivial⟩,trivial⟩,jD6 _⟩,fun x a=>⟨fun h=> ?_,fun h=> ?_⟩⟩
 .have a:x<=l.length:=a;have h:(x:Int)<(l.length:Int):=of_decide_eq_true h;have x0:(0:Int)<=(x:Int):=jEo x;have j:=c _ (L.mem_nth (l:=l) (i:=x) (by omega));have g:=jfg c x (by omega);simp only[jD0];refine⟨x0,h,fun _=>⟨L.in64 (by omega) (by omega),fun b=> ?_,fun _=>⟨L.in64 (by omega) (by omega),x+1,⟨⟨by simp,?_,trivial⟩,trivial⟩,by omega,by omega⟩⟩⟩
  .have b:=of_decide_eq_true b;omega
  .rw[jgA (by omega),jEd];omega
 .have a:x<=l.length:=a;have g:=jfg c x a;refine⟨⟨jEo _,by show((U.flatS l x).length:Int)<=100000;omega⟩,fun _=>⟨⟨0,⟨⟨rfl,trivial,trivial⟩,rfl,trivial⟩,jD6 _⟩,fun y d=>⟨fun b=> ?_,fun b=> ?_⟩⟩⟩
  .have d:y<=l.length:=d;have b:(y:Int)<(l.length:Int):=of_decide_eq_true b;have k:(0:Int)<=(y:Int):=jEo y;have j:=c _ (L.mem_nth (l:=l) (i:=y) (by omega));have m:=jfg c y (by omega);simp only[jD0];refine⟨k,b,by omega,L.in64 (by omega) (by omega),y+1,⟨⟨by simp,trivial,trivial⟩,(jgA (by omega)).symm,trivial⟩,by omega,by omega⟩
  .have d:y<=l.length:=d;have b:¬(y:Int)<(l.length:Int):=of_decide_eq_false b;have e:y=l.length:=(by omega);subst e;rfl
theorem jeI:zk PR 55 jen:=wF jfB jgq Tryz.func55 kcN (koC jhF koN)
theorem jyG {d:DyD} (h:U.jo7 d):U.jbd d:=by
 have b:=jI h.1;have a:=j7 h.2.2;refine⟨⟨by have:=b.2.2.1;omega,by have:=b.2.2.2.1;omega,fun p e=> ?_⟩,by have:=a.2.1.2;omega,by have:=a.1;omega,by have:=a.2.2.2.2.1;omega,fun r f=> ?_⟩
 .have:=b.2.2.2.2.1 p e;unfold U.yy at this;rw[jDV] at this;have c:=of_decide_eq_true this.1;have:=b.2.1;exact⟨by omega,by omega⟩
 .have:=a.2.2.2.2.2.1 r f;unfold U.qB at this;rw[jDV] at this;have c:=of_decide_eq_true this.1;have:=a.2.1.2;omega
theorem jou {d:DyD} (h:U.jr d=0):(U.jH d).length<=30:=(j7 (zh h).1.2.2).2.2.2.2.1
theorem jw7:jtv:=by
 unfold jtv q127_3 q127_2 q127_1 q127_0;rintro⟨d,m,⟨⟩⟩ l r _;have l:(U.jH d).length<=100000:=l;have r:m.length<=100000:=r;have v:∀x:Nat,x<2->nth [d,U.jz d m] x=if x=0 then d else U.jz d m:=fun x q=>by
  match x,q with
  |0,_=>rfl
  |1,_=>rfl
 refine⟨⟨0,⟨⟨rfl,trivial⟩,trivial⟩,by omega,fun h=>by omega,fun h=>by omega⟩,fun x q=>⟨fun h=> ?_,fun h=> ?_⟩⟩
 .have h:(x:Int)<2:=of_decide_eq_true h;have x0:(0:Int)<=(x:Int):=jEo x;obtain⟨t,b,f⟩:=q;have b:0<x->U.jr d=0:=b;have f:1<x->U.jr (U.jz d m)=0:=f;rw[jD0];have o:=v x (by omega);refine⟨x0,h,?_,fun a=> ?_,fun a=>⟨L.in64 (by omega) (by omega),x+1,⟨⟨by simp,trivial⟩,trivial⟩,⟨by omega,fun _=> ?_,fun p=> ?_⟩,by omega⟩⟩
  .show(U.jH (nth [d,U.jz d m] x)).length<=100000;rw[o]
   split
   .exact l
   .exact r
  .have a:U.jr (nth [d,U.jz d m] x)≠0:=of_decide_eq_true a;show(U.jwn,U.jr (nth [d,U.jz d m] x),())=(U.jcz d m,U.jpd d m,());rw[o] at a⊢;have e:U.jpd d m=U.jr (if x=0 then d else U.jz d m):=by
    unfold U.jpd;by_cases g:x=0
    .rw[if_pos g] at a⊢;rw[if_pos a]
    .rw[if_neg g] at a⊢;rw[if_neg (fun k=>k (b (by omega))),if_pos a]
   have i:U.jcz d m=U.jwn:=by
    unfold U.jcz;rw[if_neg (by rw[e];exact a)]
   rw[e,i]
  .by_cases g:x=0
   .have a:¬U.jr (nth [d,U.jz d m] x)≠0:=of_decide_eq_false a;rw[o,if_pos g] at a;exact Decidable.not_not.1 a
   .exact b (by omega)
  .have a:¬U.jr (nth [d,U.jz d m] x)≠0:=of_decide_eq_false a;rw[o,if_neg (by omega)] at a;exact Decidable.not_not.1 a
 .have h:¬(x:Int)<2:=of_decide_eq_false h;obtain⟨t,b,f⟩:=q;have c1:U.jr d=0:=b (by omega);have c2:U.jr (U.jz d m)=0:=f (by omega);have z:=jou c1;have A:m.length<=30:=jou c2;have w:U.flatS [d.2.2.2.2.2.1,m] [d.2.2.2.2.2.1,m].length=U.jH d++m:=jzd (U.jH d) m;have u:U.jCi d m=U.jJ (U.jH d++m):=congrArg U.jJ (jzd (U.jH d) m);have j:(U.jJ (U.jH d++m)).length<=(U.jH d++m).length:=L.nodup_len _ _ (jfn _) fun s l=>jak.1 l
  rw[jEd] at j;have c:U.jpd d m=if 30<(U.jCi d m).length then 2 else if U.jrU (U.jCi d m)=true then 51 else 0:=by
   unfold U.jpd;rw[if_neg (fun k=>k c1),if_neg (fun k=>k c2)]
  rw[w];rw[u] at c;refine⟨by show(2:Nat)<=100;omega,fun y n=> ?_,by rw[jEd];omega,fun _=>⟨fun a=> ?_,fun a=>⟨by omega,fun p=> ?_,fun p=>⟨jyG (zh c1).1,?_⟩⟩⟩⟩
  .rcases jDT.1 n with rfl|n
   .show(U.jH d).length<=1000;omega
   .rcases jDT.1 n with rfl|n
    .omega
    .cases n
  .have a:(30:Int)<((U.jJ (U.jH d++m)).length:Int):=of_decide_eq_true a;rw[if_pos (by omega)] at c;have i:U.jcz d m=U.jwn:=by
    unfold U.jcz;rw[if_neg (by rw[c];omega)]
   rw[c,i];rfl
  .have a:¬(30:Int)<((U.jJ (U.jH d++m)).length:Int):=of_decide_eq_false a;rw[if_neg (by omega),if_pos p] at c;have i:U.jcz d m=U.jwn:=by
    unfold U.jcz;rw[if_neg (by rw[c];omega)]
   rw[c,i];rfl
  .have a:¬(30:Int)<((U.jJ (U.jH d++m)).length:Int):=of_decide_eq_false a;rw[if_neg (by omega),if_neg (by rw[p];simp)] at c;have i:U.jcz d m=U.jz d (U.jJ (U.jH d++m)):=by
    unfold U.jcz;rw[if_pos c,u]
   rw[c,i]
theorem jt0:zk PR 30 jtL:=wF juV jw7 Tryz.func30 (kcC jlx (kcC jeI (kcC jlv (kcC jo1 kcN)))) (koC gY koN)
theorem jue:jqf:=by
 rintro⟨d,⟨⟩⟩;refine⟨fun h=> ?_,rfl⟩;have h:(!U.jgB d)=true:=h;rw[jEl] at h;have:=(jzg (d:=d) h).2.2.1;show(U.jp d).length<=1000000;omega
theorem jrf:zk PR 7 jqB:=jN jue Tryz.func7 (kcC jwc (kcC jjf kcN)) koN
end Go.X
namespace Go.X
theorem jpe {d:DyD} {m:List ShD} (h:U.jwF d m=0):U.wH (U.jz d (U.jfI d m))=0/\∀s,s∈U.jfI d m↔s∈U.jH d\/s∈m:=by
 obtain⟨c1,c2,c,e⟩:=jbx h;have b:=(jbM.1 c1).1;have hi:∀s,s∈U.jfI d m↔s∈U.jH d\/s∈m:=fun s=>(jfm (jrt c1 c2) s).trans jDY
 refine⟨jzv b c (fun s a=> ?_) ((vQ _).1 e),hi⟩;rcases(hi s).1 a with a|a
 .exact(j7 b.2.2).2.2.2.2.2.2.2 s a
 .exact(j7 (jbM.1 c2).1.2.2).2.2.2.2.2.2.2 s a
theorem jyV {d:DyD} {x:ShD} (h:U.wH d=0) (q:(U.jH d).length<=11) (g:∀s∈U.jH d,U.zJ s≠U.zJ x):U.jwF d [x]=0\/U.jwF d [x]=50:=by
 have j:=(jbM.1 h).1;unfold U.jwF;rw[if_neg (fun k=>k h)];cases l:U.zj (U.jz d [x]) with
 |false=>
  have e:U.wH (U.jz d [x])=50:=by
   unfold U.wH;have m:U.ju (U.jf (U.jz d [x]))=true:=j.1;have n:U.juc (U.jz d [x])=true:=j.2.1;rw[m,n,l];rfl
  rw[e];exact .inr (if_pos (by omega))
 |true=>
  have e:U.wH (U.jz d [x])=0:=by
   refine jbM.2 ⟨⟨j.1,j.2.1,l⟩,fun a f b c _=> ?_⟩;have f:a∈[x]:=f;have c:b∈[x]:=c;rw[jEn.1 f,jEn.1 c]
  rw[if_neg (fun k=>k e)];have i:(U.jfI d [x]).length<=(U.jH d++[x]).length:=L.nodup_len _ _ (vg _) fun s p=>we p
  rw[jEd,List.length_singleton] at i;have o:U.kM (U.jfI d [x])=false:=by
   refine(vQ _).2 fun a f b c eq=> ?_
   rcases jDY.1 (we f) with f|f
   .rcases jDY.1 (we c) with c|c
    .exact jwY h a f b c eq
    .rw[jEn.1 c] at eq;exact absurd eq (g a f)
   .rcases jDY.1 (we c) with c|c
    .rw[jEn.1 f] at eq;exact absurd eq.symm (g b c)
    .rw[jEn.1 f,jEn.1 c]
  rw[if_neg (by omega),o];exact .inl rfl
theorem jCt {d a:DyD} (h:U.wH d=0) (g:U.wH a=0) {b p:Nat} (i:b<(U.jp d).length) (c:b<(U.jp a).length) (j:p<(U.ji (U.jf d)).length) (f:p<(U.ji (U.jf a)).length)
 (e:(b:Int)∈U.jks d (p:Int) (U.jfL d (p:Int))↔(b:Int)∈U.jks a (p:Int) (U.jfL a (p:Int))):U.wG (nth (U.jcF d).1 b) (p:Int)=U.wG (nth (U.jcF a).1 b) (p:Int):=
 jEs.2 ((jsa h i j).trans (e.trans (jsa g c f).symm))
theorem jA5 {d:DyD} {x:ShD} (h:U.jwF d [x]=0) (q:∀s∈U.jH d,U.jh0 s<U.jh0 x):
 (U.jqT x=2->0<=U.w4 x->U.w4 x<((U.jp d).length:Int)->0<=U.zZ x->U.zZ x<((U.ji (U.jf d)).length:Int)->U.wG (nth (U.jcF (U.jz d (U.jfI d [x]))).1 (U.w4 x).toNat) (U.zZ x)=false)/\
 ∀b p:Nat,b<(U.jp d).length->p<(U.ji (U.jf d)).length->¬((p:Int)=U.zZ x/\((∃s∈U.jH d,U.w4 s=U.w4 x/\U.zZ s=U.zZ x)\/(b:Int)=U.w4 x))->U.wG (nth (U.jcF d).1 b) (p:Int)=U.wG (nth (U.jcF (U.jz d (U.jfI d [x]))).1 b) (p:Int):=by
 obtain⟨l,hi⟩:=jpe h;have j:=(jbx h).1;have f:=jyc (d:=d) (m:=U.jfI d [x]) (x:=x) j l (fun s _=>(hi s).trans (or_congr_right jEn)) (fun s c=>(y7 x s).2 (.inl (q s c)));refine⟨fun hk A B C D=> ?_,fun b p t v g=> ?_⟩
 .cases u:U.wG (nth (U.jcF (U.jz d (U.jfI d [x]))).1 (U.w4 x).toNat) (U.zZ x) with
  |false=>rfl
  |true=>
   have r:(((U.zZ x).toNat:Nat):Int)=U.zZ x:=(by omega);have w:(((U.w4 x).toNat:Nat):Int)=U.w4 x:=(by omega);rw[<-r] at u;have:=(jsa l (b:=(U.w4 x).toNat) (p:=(U.zZ x).toNat) (show(U.w4 x).toNat<(U.jp d).length by omega) (show(U.zZ x).toNat<(U.ji (U.jf d)).length by omega)).1 u;rw[r,w,f,if_neg (by omega),jEm] at this;obtain⟨s,c,e⟩:=jzJ this;have:=(jEa.1 c).2;simp[e] at this
 .refine jCt j l t t v v ?_;show _↔(b:Int)∈U.jks d (p:Int) (U.jfL (U.jz d (U.jfI d [x])) (p:Int));by_cases a:(p:Int)=U.zZ x
  .have o:¬∃s∈U.jH d,U.w4 s=U.w4 x/\U.zZ s=U.zZ x:=fun k=>g ⟨a,.inl k⟩
   have n:¬(b:Int)=U.w4 x:=fun k=>g ⟨a,.inr k⟩
   rw[a,f];have e:(U.jfL d (U.zZ x)).filter (fun s=> !decide (U.w4 s=U.w4 x))=U.jfL d (U.zZ x):=by
    refine List.filter_eq_self.2 fun s c=> ?_
    have i:=jEa.1 c;have y:=((jaZ j s).1 i.1).1;have z:U.zZ s=U.zZ x:=of_decide_eq_true i.2;rw[jEl];exact decide_eq_false fun k=>o ⟨s,y,k,z⟩
   rw[e]
   split
   .rw[jkr];unfold U.jvg
    split
    .rw[jDY,jEn];exact⟨.inl,fun k=>k.elim id fun k=>absurd k n⟩
    .exact Iff.rfl
   .rw[jEm]
  .rw[jyd j l fun s c=>(hi s).trans ⟨fun k=>k.elim id fun k=> ?_,.inl⟩];rw[jEn.1 k] at c;exact absurd c.symm a
end Go.X

namespace Go.X
open Go.Proofs
namespace U
def w9 (l:List ShD) (x:ShD) (i:Nat):Bool:=(l.take i).any (fun s=>decide (w4 s=w4 x)&&decide (zZ s=zZ x))
def jCk (l:List ShD) (x:ShD) (i:Nat):Prop:=∀j:Nat,j<i->zJ (nth l j)≠zJ x/\jh0 (nth l j)<jh0 x
end U
def jfU:jU:=jwJ [tDy,tSh]
def jgG:Ann:=fun r=>match r with
 |5=>some fun σ=>{X:=Nat,sl:=fun i=>[(6,.dat .int (i:Int)),(5,.dat .bool (U.w9 (U.jH (gb tDy σ 2)) (gb tSh σ 3) i))],ob:=fun _=>[],inv:=fun i=>i<=(U.jH (gb tDy σ 2)).length/\U.jCk (U.jH (gb tDy σ 2)) (gb tSh σ 3) i,mu:=fun i=>(U.jH (gb tDy σ 2)).length-i}
 |21=>some fun σ=>{X:=Nat,sl:=fun b=>[(14,.dat .int (b:Int))],ob:=fun _=>[],inv:=fun b=>b<=(U.jp (gb tDy σ 2)).length,mu:=fun b=>(U.jp (gb tDy σ 2)).length-b}
 |24=>some fun σ=>{X:=Nat,sl:=fun p=>[(15,.dat .int (p:Int))],ob:=fun _=>[],inv:=fun p=>p<=(U.ji (U.jf (gb tDy σ 2))).length,mu:=fun p=>(U.ji (U.jf (gb tDy σ 2))).length-p}
 |_=>none
abbrev q129_0 (b:Nat)(d:DyD×ShD×Unit)(x:Nat)(a:Nat):=(decide ((b:Int)=d.2.1.2.2.2.2.1)&&(U.w9 (U.jH d.1) d.2.1 x||decide ((a:Int)=d.2.1.2.2.2.1)))
abbrev q129_2:=(Ty.int.pair (Ty.int.pair (Ty.int.pair Ty.unit)))
abbrev q129_4 (d:DyD×ShD×Unit):=(U.kO (U.jcz d.1 [d.2.1]))
abbrev q129_5 (d:DyD×ShD×Unit)(x:Nat):=(nth d.1.2.2.2.2.2.1 (x:Int).toNat)
abbrev q129_6 (d:DyD×ShD×Unit):=(↑(U.kO d.1).length:Int)
abbrev q129_7 (b:Nat)(d:DyD×ShD×Unit)(x:Nat)(a:Nat):=(!(q129_0 b d x a)&& !decide (U.wG (nth (U.kO d.1) (a:Int).toNat) (b:Int)=U.wG (nth (q129_4 d) (a:Int).toNat) (b:Int)))
abbrev q129_8 (d:DyD×ShD×Unit):=(d.1.2.2.2.2.2.1.length:Int)
abbrev q129_9 (d:DyD×ShD×Unit):=(decide (d.2.1.2.2.1=2)&&U.wG (nth (q129_4 d) d.2.1.2.2.2.1.toNat) d.2.1.2.2.2.2.1)
abbrev q129_10 (d:DyD×ShD×Unit):=(U.jr (U.jcz d.1 [d.2.1])≠0)
abbrev q129_1 (d:DyD×ShD×Unit):=(decide (U.jr d.1≠0)||decide (q129_10 d)||decide ((q129_6 d)≠(d.1.2.2.1.length:Int))||decide ((↑(q129_4 d).length:Int)≠(q129_6 d)))
abbrev q129_3 (d:DyD×ShD×Unit):=(!(decide (U.jr d.1≠0)||decide (q129_10 d)||decide ((q129_6 d)≠(d.1.2.2.1.length:Int))))
def jfM:Prop:=∀(d:DyD×ShD×Unit),jnn 1048576 [(Ty.int.pair ((Ty.int.slice.pair (Ty.int.pair (Ty.int.pair (Ty.int.slice.pair (Ty.bool.pair (Ty.int.pair Ty.unit)))))).slice.pair ((Ty.int.pair (Ty.int.pair (Ty.bool.pair Ty.unit))).slice.pair Ty.unit))).pair ((Ty.int.pair (Ty.int.pair Ty.unit)).slice.slice.pair (((Ty.int.pair (Ty.int.pair (Ty.int.pair q129_2))).pair q129_2).slice.pair (Ty.int.pair (Ty.int.pair ((Ty.int.pair (Ty.int.pair q129_2)).slice.pair Ty.unit))))),Ty.int.pair (Ty.int.pair q129_2)] d->((!!(!U.jgB d.1&&decide (U.wH d.1=0)))=true->d.1.2.2.2.2.2.1.length<4611686018427387904)->((!(!U.jgB d.1&&decide (U.wH d.1=0))||decide (11<(q129_8 d)))=true->(true,())=(true,()))/\((!(!U.jgB d.1&&decide (U.wH d.1=0))||decide (11<(q129_8 d)))=false->(∃(x:Nat),((0=(x:Int)/\false=U.w9 (U.jH d.1) d.2.1 x/\True)/\True)/\x<=(U.jH d.1).length/\U.jCk (U.jH d.1) d.2.1 x)/\∀(x:Nat),x<=(U.jH d.1).length/\U.jCk (U.jH d.1) d.2.1 x->d.1.2.2.2.2.2.1.length<4611686018427387904->(decide ((x:Int)<(q129_8 d))=true->0<=(x:Int)/\(x:Int)<(q129_8 d)/\((decide ((q129_5 d x).1=d.2.1.1)||decide (d.2.1.2.1<=(q129_5 d x).2.1))=true->(true,())=(true,()))/\((decide ((q129_5 d x).1=d.2.1.1)||decide (d.2.1.2.1<=(q129_5 d x).2.1))=false->jD ((x:Int)+1)/\∃(c:Nat),(((x:Int)+1=(c:Int)/\(U.w9 (U.jH d.1) d.2.1 x||decide ((q129_5 d x).2.2.2.1=d.2.1.2.2.2.1)&&decide ((q129_5 d x).2.2.2.2.1=d.2.1.2.2.2.2.1))=U.w9 (U.jH d.1) d.2.1 c/\True)/\True)/\(c<=(U.jH d.1).length/\U.jCk (U.jH d.1) d.2.1 c)/\(U.jH d.1).length-c<(U.jH d.1).length-x))/\(decide ((x:Int)<(q129_8 d))=false->(U.jH d.1).length<=100000/\[d.2.1].length<=100000/\(decide (U.jpd d.1 [d.2.1]≠0)=true->(decide (U.jpd d.1 [d.2.1]=50)&&true,())=(true,()))/\(decide (U.jpd d.1 [d.2.1]≠0)=false->(U.jH d.1).length<=100000/\(U.jH (U.jcz d.1 [d.2.1])).length<=100000/\(((!(decide (U.jr d.1≠0)||decide (q129_10 d)))=true->(U.kO d.1).length<4611686018427387904)->((!(decide (U.jr d.1≠0)||decide (q129_10 d)))=true->d.1.2.2.1.length<4611686018427387904)->((q129_3 d)=true->(q129_4 d).length<4611686018427387904)->((q129_3 d)=true->(U.kO d.1).length<4611686018427387904)->((q129_1 d)=true->(false,())=(true,()))/\((q129_1 d)=false->(decide (d.2.1.2.2.1=2)=true->0<=d.2.1.2.2.2.1)/\(decide (d.2.1.2.2.1=2)=true->d.2.1.2.2.2.1<(↑(q129_4 d).length:Int))/\(decide (d.2.1.2.2.1=2)=true->0<=d.2.1.2.2.2.2.1/\d.2.1.2.2.2.2.1<=63)/\((q129_9 d)=true->(false,())=(true,()))/\((q129_9 d)=false->(∃(x:Nat),((0=(x:Int)/\True)/\True)/\x<=(U.jp d.1).length)/\∀(a:Nat),a<=(U.jp d.1).length->(U.kO d.1).length<4611686018427387904->(decide ((a:Int)<(q129_6 d))=true->(∃(x:Nat),((0=(x:Int)/\True)/\True)/\x<=(U.ji (U.jf d.1)).length)/\∀(b:Nat),b<=(U.ji (U.jf d.1)).length->d.1.1.2.1.length<4611686018427387904->(decide ((b:Int)<(d.1.1.2.1.length:Int))=true->((!(q129_0 b d x a))=true->0<=(a:Int))/\((!(q129_0 b d x a))=true->(a:Int)<(q129_6 d))/\((!(q129_0 b d x a))=true->0<=(b:Int)/\(b:Int)<=63)/\((!(q129_0 b d x a))=true->0<=(a:Int))/\((!(q129_0 b d x a))=true->(a:Int)<(↑(q129_4 d).length:Int))/\((!(q129_0 b d x a))=true->0<=(b:Int)/\(b:Int)<=63)/\((q129_7 b d x a)=true->(false,())=(true,()))/\((q129_7 b d x a)=false->jD ((b:Int)+1)/\∃(c:Nat),(((b:Int)+1=(c:Int)/\True)/\True)/\c<=(U.ji (U.jf d.1)).length/\(U.ji (U.jf d.1)).length-c<(U.ji (U.jf d.1)).length-b))/\(decide ((b:Int)<(d.1.1.2.1.length:Int))=false->jD ((a:Int)+1)/\∃(c:Nat),(((a:Int)+1=(c:Int)/\True)/\True)/\c<=(U.jp d.1).length/\(U.jp d.1).length-c<(U.jp d.1).length-a))/\(decide ((a:Int)<(q129_6 d))=false->(true,())=(true,()))))))))
end Go.X
namespace Go.X
open Go.Proofs
theorem jCa {α:Type} [DecidableEq α] {a b:α} (h:decide (a≠b)=false):a=b:=Decidable.not_not.1 (of_decide_eq_false h)
theorem jxR {l:List ShD} {x:ShD}:U.w9 l x l.length=true↔∃s∈l,U.w4 s=U.w4 x/\U.zZ s=U.zZ x:=by
 unfold U.w9;rw[jEK,jES];simp only[jDV,decide_eq_true_eq]
theorem juQ {l:List ShD} {x:ShD} {i:Nat} (h:i<l.length):U.w9 l x (i+1)=(U.w9 l x i||(decide (U.w4 (nth l i)=U.w4 x)&&decide (U.zZ (nth l i)=U.zZ x))):=by
 unfold U.w9;rw[L.take_succ h,List.any_append];simp
theorem jhM:jfM:=by
 unfold jfM q129_3 q129_1 q129_10 q129_9 q129_8 q129_7 q129_6 q129_5 q129_4 q129_2 q129_0;rintro⟨d,x,⟨⟩⟩ _ _;refine⟨fun _=>rfl,fun h=>⟨⟨0,⟨⟨rfl,rfl,trivial⟩,trivial⟩,jD6 _,fun j w=>by omega⟩,fun i ⟨hi,a⟩ _=>⟨fun g=> ?_,fun g=> ?_⟩⟩⟩
 .have hi:i<=(U.jH d).length:=hi;have a:U.jCk (U.jH d) x i:=a;have h:(!(!U.jgB d&&decide (U.wH d=0))||decide ((11:Int)<((U.jH d).length:Int)))=false:=h;rw[jEh] at h;have m:=of_decide_eq_false h.2;have g:(i:Int)<((U.jH d).length:Int):=of_decide_eq_true g;have M:(0:Int)<=(i:Int):=jEo i;simp only[jD0];refine⟨M,g,fun _=>trivial,fun k=>⟨L.in64 (by omega) (by omega),i+1,⟨⟨by simp,?_,trivial⟩,trivial⟩,⟨by show i+1<=(U.jH d).length;omega,fun j w=> ?_⟩,by show(U.jH d).length-(i+1)<(U.jH d).length-i;omega⟩⟩
  .exact(juQ (l:=U.jH d) (x:=x) (i:=i) (by omega)).symm
  .by_cases e:j=i
   .subst e;have k:(decide (U.zJ (nth (U.jH d) j)=U.zJ x)||decide (U.jh0 x<=U.jh0 (nth (U.jH d) j)))=false:=k;rw[jEh] at k;have N:=of_decide_eq_false k.1;have Y:=of_decide_eq_false k.2;exact⟨N,by omega⟩
   .exact a j (by omega)
 .have hi:i<=(U.jH d).length:=hi;have h:(!(!U.jgB d&&decide (U.wH d=0))||decide ((11:Int)<((U.jH d).length:Int)))=false:=h;simp only[jEh,jEN,jDV,jEl] at h;obtain⟨⟨W,n⟩,m⟩:=h;have n:U.wH d=0:=of_decide_eq_true n;have m:=of_decide_eq_false m;have A:=(jbM.1 n).1;have g:¬(i:Int)<((U.jH d).length:Int):=of_decide_eq_false g;have G:i=(U.jH d).length:=(by omega);subst G;have a:U.jCk (U.jH d) x (U.jH d).length:=a;have c:∀s∈U.jH d,U.zJ s≠U.zJ x/\U.jh0 s<U.jh0 x:=fun s r=>by
   obtain⟨j,w,rfl⟩:=L.mem_iff.1 r;exact a j w
  refine⟨by show(U.jH d).length<=100000;omega,by show(1:Nat)<=100000;omega,fun k=> ?_,fun k=> ?_⟩
  .have k:U.jpd d [x]≠0:=of_decide_eq_true k;show(decide (U.jpd d [x]=50)&&true,())=(true,());rw[jwz] at k⊢;rcases jyV n (by omega) (fun s r=>(c s r).1) with e|e
   .exact absurd e k
   .rw[e];rfl
  .have k:U.jpd d [x]=0:=jCa k;have o:U.jwF d [x]=0:=(jwz d [x]).symm.trans k;have F:U.jcz d [x]=U.jz d (U.jfI d [x]):=(by rw[jCg];unfold U.jDB;rw[if_pos o]);obtain⟨B,_⟩:=jpe o;obtain⟨R,S⟩:=jA5 o (fun s r=>(c s r).2);have f:(0<=U.jqT x/\U.jqT x<=2)/\(0<=U.zZ x/\U.zZ x<((U.ji (U.jf d)).length:Int))/\0<=U.w4 x/\U.w4 x<((U.jp d).length:Int):=by
    have c2:=(jbx o).2.1;have t:=jbX (d:=U.jz d [x]) (jbM.1 c2).1.2.2 (s:=x) (jEn.2 rfl);have u:=(j7 (jbM.1 c2).1.2.2).2.2.2.2.2.2.2 x (jEn.2 rfl);unfold U.yx at u;have u:=of_decide_eq_true u;exact⟨by omega,t.1,t.2⟩
   have K:(U.jfI d [x]).length<=30:=(jbx o).2.2.1;show(U.jH d).length<=100000/\(U.jH (U.jcz d [x])).length<=100000/\_;rw[F];have I:U.kO d=(U.jcF d).1:=(by rw[jqs,if_pos n]);have v:U.kO (U.jz d (U.jfI d [x]))=(U.jcF (U.jz d (U.jfI d [x]))).1:=(by rw[jqs,if_pos B]);have C:U.jr d=0:=(gy _).trans n;have q:U.jr (U.jz d (U.jfI d [x]))=0:=(gy _).trans B;have O:(U.jcF d).1.length=(U.jp d).length:=(jf5 C).len;have D:(U.jcF (U.jz d (U.jfI d [x]))).1.length=(U.jp d).length:=(jf5 q).len;have J:(U.jp d).length<=4:=(j7 A.2.2).1;have T:(U.ji (U.jf d)).length<=8:=(jI A.1).2.2.1;rw[I,v];refine⟨by omega,by show(U.jfI d [x]).length<=100000;omega,fun _ _ _ _=>⟨fun k=> ?_,fun _=>⟨fun _=>f.2.2.1,fun _=> ?_,fun _=>⟨f.2.1.1,by have:=f.2.1.2;show U.zZ x<=63;omega⟩,fun k=> ?_,fun _=>⟨⟨0,⟨⟨rfl,trivial⟩,trivial⟩,jD6 _⟩,fun b V _=>⟨fun g=>⟨⟨0,⟨⟨rfl,trivial⟩,trivial⟩,jD6 _⟩,fun p X _=>⟨fun z=> ?_,fun _=> ?_⟩⟩,fun _=>rfl⟩⟩⟩⟩⟩
   .have k:(decide (U.jr d≠0)||decide (U.jr (U.jz d (U.jfI d [x]))≠0)||decide (((U.jcF d).1.length:Int)≠((U.jp d).length:Int))||decide (((U.jcF (U.jz d (U.jfI d [x]))).1.length:Int)≠((U.jcF d).1.length:Int)))=true:=k;rw[C,q,O,D] at k;simp at k
   .show U.w4 x<((U.jcF (U.jz d (U.jfI d [x]))).1.length:Int);rw[D];exact f.2.2.2
   .have k:(decide (U.jqT x=2)&&U.wG (nth (U.jcF (U.jz d (U.jfI d [x]))).1 (U.w4 x).toNat) (U.zZ x))=true:=k;rw[jDV] at k;have:=R (of_decide_eq_true k.1) f.2.2.1 f.2.2.2 f.2.1.1 f.2.1.2;rw[this] at k;exact absurd k.2 (by simp)
   .have g:(b:Int)<((U.jcF d).1.length:Int):=of_decide_eq_true g;have z:(p:Int)<((U.ji (U.jf d)).length:Int):=of_decide_eq_true z;have y:(0:Int)<=(b:Int):=jEo b;have E:(0:Int)<=(p:Int):=jEo p;have H:(b:Int)<((U.jcF (U.jz d (U.jfI d [x]))).1.length:Int):=(by omega);simp only[jD0];refine⟨fun _=>y,fun _=>g,fun _=>⟨E,by omega⟩,fun _=>y,fun _=>H,fun _=>⟨E,by omega⟩,fun k=> ?_,fun _=>⟨L.in64 (by omega) (by omega),p+1,⟨⟨by simp,trivial⟩,trivial⟩,by show p+1<=(U.ji (U.jf d)).length;omega,by show(U.ji (U.jf d)).length-(p+1)<(U.ji (U.jf d)).length-p;omega⟩⟩;have k:(!(decide ((p:Int)=U.zZ x)&&(U.w9 (U.jH d) x (U.jH d).length||decide ((b:Int)=U.w4 x)))&& !decide (U.wG (nth (U.jcF d).1 b) (p:Int)=U.wG (nth (U.jcF (U.jz d (U.jfI d [x]))).1 b) (p:Int)))=true:=k;rw[jDV,jEl,jEl] at k;refine absurd (S b p (by omega) (by omega) fun⟨P,Q⟩=> ?_) (of_decide_eq_false k.2);have:(decide ((p:Int)=U.zZ x)&&(U.w9 (U.jH d) x (U.jH d).length||decide ((b:Int)=U.w4 x)))=true:=by
     rw[decide_eq_true P,Bool.true_and,jE6,jxR,decide_eq_true_iff];exact Q
    rw[this] at k;exact absurd k.1 (by simp)
   .have g:(b:Int)<((U.jcF d).1.length:Int):=of_decide_eq_true g;exact⟨L.in64 (by omega) (by omega),b+1,⟨⟨by simp,trivial⟩,trivial⟩,by show b+1<=(U.jp d).length;omega,by show(U.jp d).length-(b+1)<(U.jp d).length-b;omega⟩
theorem jtX:zk PR 6 jfU:=wF jgG jhM Tryz.func6 (kcC jrf (kcC jre (kcC jt0 (kcC jlw (kcC jwg kcN))))) koN
end Go.X
namespace Go.X
open Go.Proofs
end Go.X
namespace Go.X
open Go.Proofs
end Go.X
namespace Go.X
open Go.Proofs
end Go.X
namespace Go.X
open Go.Proofs
end Go.X
namespace Go.X
open Go.Proofs Go.Proofs.YtphbhcmpebmadaaGreatDoor
noncomputable def jyZ:Array Field:=match Tryz.prog.underlying 47 with|some (.struct fs)=>fs|_=> #[]
theorem jCy:Tryz.prog.globalNamed "handshape/rosters.some"=some 0:=by kernel_rfl
theorem jCx:(Tryz.prog.globals[0]?).map (·.type)=some 47:=by kernel_rfl
theorem jDK:Tryz.prog.underlying 47=some (.struct jyZ):=by kernel_rfl
theorem jDL:Tryz.prog.underlying 3=some (.int .i64):=by kernel_rfl
theorem jDM:Tryz.prog.cellsOf 3=1:=by kernel_rfl
noncomputable def yA (i:Nat):Bool:=match jyZ[i]? with|some f=>Nat.beq f.type 3&&Nat.beq f.offset i|none=>false
theorem fields:(yA 0&&yA 1&&yA 2&&yA 3&&yA 4&&yA 5)=true:=by kernel_rfl
theorem jzf {i:Nat} (h:yA i=true):∃f,jyZ[i]? =some f/\f.type=3/\f.offset=i:=by
 unfold yA at h
 split at h
 .rename_i f a;rw[jDV] at h;exact⟨f,a,jDQ h.1,jDQ h.2⟩
 .cases h
theorem jyY {H:Type} {enc:TypeId×Value->H} {w:World} {base:Nat} {sp:Nat->Bool} {a:Bool} {n:Nat} {cs:List Value} {xs:List (DataW H×List MemPlace)} {d:List Int} (o:xs.map (·.1)=d.map fun z=>(DataW.lit (.int .i64 z):DataW H))
 (k:∀(i:Nat) (f:Field),jyZ[i]? =some f->DataW.trod enc Tryz.prog w base sp a n f.type ((cs.drop f.offset).take (Tryz.prog.cellsOf f.type))=xs[i]?) {i:Nat} {z:Int} (hi:yA i=true) (q:d[i]? =some z):cs[i]? =some (.int .i64 z):=by
 obtain⟨f,g,h,j⟩:=jzf hi;have b:=k i f g;rw[h,j,jDM] at b;have c:(xs.map (·.1))[i]? =some (DataW.lit (.int .i64 z):DataW H):=(by rw[o,jE5,q];rfl);rw[jE5] at c;obtain⟨y,p,e⟩:=jFh.1 c;rw[p] at b;obtain⟨m,l,rfl,_⟩:=DataW.trod_int jDL b;have e:m=z:=by
  have e:(DataW.lit (.int .i64 m):DataW H)=DataW.lit (.int .i64 z):=e;simpa only[DataW.lit.injEq,Lit.int.injEq,true_and] using e
 subst e;have:=congrArg (·[0]?) l;simpa[jE2,jEu] using this
theorem jDh {W:World} (h:laidMet Tryz.prog [("handshape/rosters.some",Rows.laid_handshape_rosters_some)] W):jBL (Hof W):=by
 obtain⟨ps,⟨H,E,cs,k,p,q,d,f,a,A,_,_⟩,_⟩:=h;obtain rfl:=Option.some.inj (jCy.symm.trans d);obtain rfl:=Option.some.inj (jCx.symm.trans f);obtain⟨xs,n,_,C,I,l,B⟩:=DataW.trod_struct jDK A;have j:xs.map (·.1)=[0,1,0,0,0,1].map fun z=>(DataW.lit (.int .i64 z):DataW Unit):=by
  have e:=congrArg Prod.fst C;have e:(DataW.agg [.lit (.int .i64 0),.lit (.int .i64 1),.lit (.int .i64 0),.lit (.int .i64 0),.lit (.int .i64 0),.lit (.int .i64 1)]:DataW Unit)= .agg (xs.map (·.1)):=e;simp only[DataW.agg.injEq] at e;exact e.symm
 have fs:=fields;simp only[jDV] at fs;obtain⟨⟨⟨⟨⟨o,r⟩,s⟩,u⟩,v⟩,w⟩:=fs;have c:∀{i:Nat} {z:Int},yA i=true->([0,1,0,0,0,1]:List Int)[i]? =some z->cs[i]? =some (.int .i64 z):=fun hi D=>by
  have:=jyY j B hi D;simpa using this
 unfold World.var? at a;rw[jCy] at a;intro g x b;have b:jt [(0,(⟨.st [.int,.int,.int,.int,.int,.int],((0:Int),(1:Int),(0:Int),(0:Int),(0:Int),(1:Int),())⟩:(t:Ty)×t.Data))] g=some x:=b;have y:Hof W 0=some (.cells cs):=by
  unfold Hof;simp only[Option.bind_some] at a
  split at a
  .rename_i F E G e;rw[e];have:=Option.some.inj a;rw[this]
  .cases a
 have m:=zb _ _ _ b;simp only[jEn,Prod.mk.injEq] at m;obtain⟨rfl,rfl⟩:=m;exact⟨cs,y,c o rfl,c r rfl,c s rfl,c u rfl,c v rfl,c w rfl,trivial⟩
end Go.X
