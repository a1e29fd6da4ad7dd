/-
  Part 7 of the road: a checked reading of bodies, and what the functions on it do (X25 X26 C5 PC15 C6 PC16 S6 S7 PC17 DM S8 S9 S10 S11 S12 S13 S14 C7 PC18 C8 PC19 PC20 LW).
-/
import Derived.Test.YtnkahkkofmoipaaGreatDoorK06
import Derived.Test.YtnkahkkofmoipaaGreatDoorRows
import Derived.WalkKit
import Derived.ProofKit
import Derived.OpenShut
import Derived.JoinedCond
import Derived.Carry
import Derived.ChangeArms
import Derived.Test.YtnkahkkofmoipaaGreatDoorCards
import Derived.Test.YtnkahkkofmoipaaGreatDoorTie
import Derived.Deep.DeepHandedRow
import Derived.Lib.LaidTab
namespace Go.X
open Go.RowKit (Below)
open Go.Proofs.YtnkahkkofmoipaaGreatDoor
def Hof (w:World):Imm:=fun b=>match w.heap[b]? with|some (.cells c _ _)=>some (.cells c)|_=>none
theorem jzb (w:World) (d:jBQ (Hof w)):jaS (Hof w) w:=by
 refine⟨fun b c h=> ?_,d⟩;unfold Hof at h
 split at h
 .rename_i f T a e;simp at h;subst h;exact⟨T,a,e⟩
 .cases h
def Ty.fits (N:Nat):(t:Ty)->t.Data->Prop
 | .int,x=>jD x
 | .bool,_=>True
 | .uint k,x=>k.min<=x/\x<=k.max
 | .slice t,l=>l.length<=N/\∀x∈l,t.fits N x
 | .unit,_=>True
 | .pair a b,d=>a.fits N d.1/\b.fits N d.2
 | .map k v,l=>l.length<=N/\∀x∈l,k.fits N x.1/\v.fits N x.2
 | .ptr t,d=>∀x,d=some x->t.fits N x
theorem Ty.fits_mono {N M:Nat} (h:N<=M):∀(t:Ty) (d:t.Data),t.fits N d->t.fits M d
 | .int,_,k=>k
 | .bool,_,k=>k
 | .uint _,_,k=>k
 | .unit,_,k=>k
 | .slice t,_,k=>⟨jD3 k.1 h,fun x c=>t.fits_mono h x (k.2 x c)⟩
 | .pair a b,_,k=>⟨a.fits_mono h _ k.1,b.fits_mono h _ k.2⟩
 | .map k v,_,q=>⟨jD3 q.1 h,fun x c=>⟨k.fits_mono h _ (q.2 x c).1,v.fits_mono h _ (q.2 x c).2⟩⟩
 | .ptr t,_,k=>fun x c=>t.fits_mono h x (k x c)
def jCa (P:Program) (go:Nat->Ty->Bool):List Field->Nat->Ty->Bool
 |[],_,.unit=>true
 |f::fs,off,.pair a b=>Nat.beq f.offset off&&Nat.beq (P.cellsOf f.type) a.size&&go f.type a&&jCa P go fs (off+a.size) b
 |_,_,_=>false
def jAL (P:Program):Nat->Nat->Ty->Bool
 |0,_,_=>false
 |d+1,T,ty=>match ty,P.underlying T with
  | .int,some (.int .i64)=>true
  | .bool,some .bool=>true
  | .uint k,some (.int k')=>gJ k k'
  | .slice t,some (.slice e)=>Nat.beq (P.cellsOf e) t.size&&Nat.ble 1 t.size&&jAL P d e t
  | .pair a b,some (.struct fs)=>Nat.beq (P.cellsOf T) (Ty.pair a b).size&&jCa P (jAL P d) fs.toList 0 (.pair a b)
  |_,_=>false
section
variable {P:Program} {K:Type} {enc:TypeId×Value->K} {w:World}
theorem jCc (d:DataW K):1<=Rows.uptoBulk d:=by
 cases d with
 |lit l=>cases l<;>simp[Rows.uptoBulk]
 |_=>simp[Rows.uptoBulk]
theorem joY (l:List (DataW K)):l.length<=Rows.uptoBulkAll l:=by
 induction l with
 |nil=>simp[Rows.uptoBulkAll]
 |cons x r a=>have:=jCc x;simp only[Rows.uptoBulkAll,jEm];omega
theorem jAN {d:DataW K} {l:List (DataW K)} (h:d∈l):Rows.uptoBulk d<=Rows.uptoBulkAll l:=by
 induction l with
 |nil=>cases h
 |cons x r a=>
  simp only[Rows.uptoBulkAll];cases jDP.1 h with
  |inl e=>subst e;omega
  |inr e=>have:=a e;omega
theorem jwH {α:Type} {Q:Nat->α->Prop}:∀(n:Nat),(∀i,i<n->∃y,Q i y)->∃l:List α,l.length=n/\∀i y,l[i]? =some y->Q i y
 |0,_=>⟨[],rfl,fun i y h=>by simp at h⟩
 |n+1,h=>by
  obtain⟨l,b,c⟩:=jwH n (fun i hi=>h i (by omega))
  obtain⟨y,d⟩:=h n (by omega)
  refine⟨l++[y],by simp[b],fun i z a=> ?_⟩
  by_cases hi:i<l.length
  .rw[jD1 hi] at a;exact c i z a
  .rw[jDZ (by omega)] at a
   have:i=n:=by
    by_cases e:i-l.length=0
    .omega
    .obtain⟨k,hk⟩:∃k,i-l.length=k+1:=⟨i-l.length-1,by omega⟩;rw[hk] at a;simp at a
   subst this;rw[<-b] at a;simp at a;subst a;exact d
def jCK (P:Program) (w:World) (enc:TypeId×Value->K) (T:Nat) (ty:Ty):Prop:=
 ∀(a:Nat) (cs:List Value) (x:DataW K×List MemPlace),DataW.trod enc P w 0 (fun _=>true) true a T cs=some x->Rows.uptoBulk x.1<=1048576->
  ∃d:ty.Data,ty.rd (Hof w) (fun i=>cs[i]?) d/\cs.length=ty.size/\ty.fits (Rows.uptoBulk x.1) d
theorem jB5 {n:Int} (h:(Lit.int .i64 n).wf=true):jD n:=by
 simp[Lit.wf,IntKind.min,IntKind.max,IntKind.signed,IntKind.bits] at h;exact h
theorem jgD {go:Nat->Ty->Bool} (c:∀T ty,go T ty=true->jCK P w enc T ty) {n:Nat} {cs:List Value}:
 ∀(fs:List Field) (off:Nat) (ty:Ty) (xs:List (DataW K×List MemPlace)),jCa P go fs off ty=true->xs.length=fs.length->
  (∀(i:Nat) (f:Field),fs[i]? =some f->DataW.trod enc P w 0 (fun _=>true) true n f.type ((cs.drop f.offset).take (P.cellsOf f.type))=xs[i]?)->Rows.uptoBulkAll (xs.map (·.1))<=1048576->
  ∃d:ty.Data,ty.rd (Hof w) (fun i=>cs[off+i]?) d/\ty.fits (Rows.uptoBulkAll (xs.map (·.1))) d
 |[],off,ty,xs,h,g,e,j=>by
  cases ty<;>simp[jCa] at h
  exact⟨(),trivial,trivial⟩
 |f::fs,off,ty,[],h,g,e,j=>by simp at g
 |f::fs,off,ty,x::xs,h,g,e,j=>by
  cases ty<;>simp[jCa] at h
  rename_i a b
  obtain⟨⟨⟨q,v⟩,r⟩,s⟩:=h
  simp only[jEO,Rows.uptoBulkAll] at j
  have k:=e 0 f (by simp)
  simp only[List.getElem?_cons_zero] at k
  obtain⟨d,t,y,u⟩:=c _ _ r _ _ _ k (by omega)
  obtain⟨l,o,p⟩:=jgD c fs (off+a.size) b xs s (by simpa using g) (fun i m hi=>by simpa using e (i+1) m (by simpa using hi)) (by omega)
  refine⟨(d,l),⟨?_,?_⟩,?_,?_⟩
  .refine Ty.rd_congr a _ _ _ (fun i hi=> ?_) t
   rw[jEa (by omega),jEp,q]
  .refine Ty.rd_congr b _ _ _ (fun i hi=> ?_) o
   rw[jEU]
  .exact a.fits_mono (by simp[Rows.uptoBulkAll]) _ u
  .exact b.fits_mono (by simp[Rows.uptoBulkAll]) _ p
theorem jdd:∀(d T:Nat) (ty:Ty),jAL P d T ty=true->jCK P w enc T ty
 |0,_,_,h=>by cases h
 |d+1,T,ty,h=>by
  intro fuel cs x B r
  unfold jAL at h
  split at h
  .rename_i u
   obtain⟨n,rfl,rfl,H⟩:=DataW.trod_int u B
   exact⟨n,rfl,rfl,jB5 H⟩
  .rename_i u
   obtain⟨b,rfl,rfl⟩:=DataW.trod_bool u B
   exact⟨b,rfl,rfl,trivial⟩
  .rename_i k k' u
   obtain⟨n,rfl,rfl,H⟩:=DataW.trod_int u B
   have:k=k':=by simpa[gJ] using h
   subst this
   refine⟨n,rfl,rfl,?_⟩
   simp[Lit.wf] at H
   exact H
  .rename_i t e u
   simp only[jDT] at h
   obtain⟨⟨L,M⟩,h3⟩:=h
   have e1:=jDM L
   have e2:=jD2 M
   rcases DataW.trod_slice u B with⟨rfl,rfl⟩|⟨a,len,J,vB,rest,n,_,rfl,rfl,hb,hl,hm,A,D,_,_⟩
   .refine⟨[],⟨none,0,0,rfl,rfl,jDS _,by simp,fun _=>rfl,fun h=>absurd rfl h⟩,rfl,by simp,fun x B=>by simp at B⟩
   .simp only[Rows.uptoBulk] at r
    have key:∀i,i<len->∃y:t.Data,(∃blk,Hof w a.block=some (.cells blk)/\a.spot=none/\t.rd (Hof w) (fun j=>blk[a.off+i*t.size+j]?) y)/\t.fits (Rows.uptoBulkAll (vB.map (·.1))) y:=by
     intro i hi;have h0:=D i hi;have X:vB[i]? =some vB[i]:=jDU (by omega);rw[X,Option.bind_eq_some_iff] at h0;obtain⟨cl,c1,c2⟩:=h0;have Q:Rows.uptoBulk vB[i].1<=Rows.uptoBulkAll (vB.map (·.1)):=jAN (jEn.2 ⟨vB[i],List.getElem_mem _,rfl⟩);obtain⟨y,y1,y2,y3⟩:=jdd d e t h3 _ _ _ c2 (by omega);unfold World.cells? at c1;rw[if_pos (jD0 _),e1] at c1;have z:∀j,j<t.size->w.cell? ((a.add (i*t.size)).add j)=cl[j]? :=fun j O=>by
      have:=mapM_some_get c1 j j (by simp[O]);simpa using this
     have N:cl.length=t.size:=(by simpa using mapM_some_length c1);have I:=z 0 (by omega);have g:cl[0]?≠none:=(by rw[jDU (by omega)];simp);rw[<-I] at g;have m:∃blk T G,w.heap[a.block]? =some (.cells blk T G):=by
      unfold World.cell? at g;have q:((a.add (i*t.size)).add 0).block=a.block:=by unfold Addr.add;simp;split<;>rfl
      rw[q] at g
      split at g
      .rename_i c T G e;exact⟨c,T,G,e⟩
      .exact absurd rfl g
     obtain⟨blk,T',G,m⟩:=m;have p:((a.add (i*t.size)).add 0).spot=none:=by
      unfold World.cell? at g;have q:((a.add (i*t.size)).add 0).block=a.block:=by unfold Addr.add;simp;split<;>rfl
      rw[q,m] at g;simp only at g;cases R:((a.add (i*t.size)).add 0).spot with
      |none=>rfl
      |some s=>rw[R] at g;simp at g
     have hH:Hof w a.block=some (.cells blk):=(by unfold Hof;rw[m]);refine⟨y,⟨blk,hH,?_,?_⟩,t.fits_mono Q _ y3⟩
     .--the first element shows that the address is plain
      have C:=D 0 (by omega);have W:vB[0]? =some vB[0]:=jDU (by omega);rw[W,Option.bind_eq_some_iff] at C;obtain⟨K,F,_⟩:=C;unfold World.cells? at F;rw[if_pos (jD0 _),e1] at F;have v:=mapM_some_get F 0 0 (by rw[List.getElem?_range (by omega)]);have hl0:K.length=t.size:=(by simpa using mapM_some_length F);rw[jDU (by omega)] at v;simp only[Nat.zero_mul] at v;have ea:(a.add 0).add 0=a:=(by unfold Addr.add;simp);rw[ea] at v;unfold World.cell? at v;rw[m] at v;simp only at v;cases R:a.spot with
      |none=>rfl
      |some s=>rw[R] at v;simp at v
     .refine Ty.rd_congr t _ _ _ (fun j O=> ?_) y1;rw[<-z j O];unfold World.cell?;have q:((a.add (i*t.size)).add j).block=a.block:=by unfold Addr.add;split<;>split<;>rfl
      have E:((a.add (i*t.size)).add j).off=a.off+i*t.size+j:=by
       unfold Addr.add;split<;>split<;>simp_all
      have V:((a.add (i*t.size)).add j).spot=none:=by
       have S:(a.add (i*t.size)).spot=none:=by
        have:(a.add (i*t.size)).add 0=a.add (i*t.size):=(by simp[Addr.add]);rw[this] at p;exact p
       unfold Addr.add at S⊢
       split<;>split<;>simp_all
      rw[q,m,E,V];simp
    obtain⟨l,l1,l2⟩:=jwH len key;refine⟨l,⟨some a,len,J,rfl,l1.symm,hl,?_,(fun h=>by cases h),fun g=> ?_⟩,rfl,?_,?_⟩
    .have:=joY (vB.map (·.1));simp at this;omega
    .have hz:0<l.length:=List.length_pos_iff.2 g;obtain⟨blk,q1,q2,_⟩:=(l2 0 l[0] (jDU hz)).1;refine⟨a.block,a.off,blk,?_,q1,fun i y Z=> ?_⟩
     .rcases a with⟨b,o,s⟩;simp only at q2;subst q2;rfl
     .obtain⟨blk',q3,_,q4⟩:=(l2 i y Z).1;rw[q1] at q3;simp at q3;subst q3;exact q4
    .simp only[Rows.uptoBulk];have:=joY (vB.map (·.1));simp at this;omega
    .intro y Z;obtain⟨i,hi⟩:=jE1 Z;exact t.fits_mono (by simp only[Rows.uptoBulk];omega) _ (l2 i y hi).2
  .rename_i a b fs u;simp only[jDT] at h;obtain⟨L,M⟩:=h;obtain⟨xs,n,_,rfl,A,Y,hf⟩:=DataW.trod_struct u B;simp only[Rows.uptoBulk] at r;obtain⟨y,y1,y2⟩:=jgD (fun T ty h=>jdd d T ty h) (n:=n) (cs:=cs) fs.toList 0 (.pair a b) xs M (by simpa using Y) (fun i f hi=>hf i f (by simpa using hi)) (by omega);refine⟨y,by simpa using y1,by rw[A];exact jDM L,?_⟩;exact Ty.fits_mono (by simp only[Rows.uptoBulk];omega) (.pair a b) _ y2
  .cases h
end
end Go.X
namespace Go.X
open Go.RowKit (Below)
open Go.ChangeShapes Go.WideShapes Go.ChangeAt Go.RowKit
open Go.Proofs.YtnkahkkofmoipaaGreatDoor
def jm6 (N:Nat):(ts:List Ty)->PD (ts.map Par.val)->Prop
 |[],_=>True
 |t::ts,d=>t.fits N d.1/\jm6 N ts d.2
def jwI (ts:List Ty):jR:=⟨ts.map Par.val,[.bool],false,fun d=>[jm6 1048576 ts d],fun _=>(true,())⟩
def jgG (P:Program):List Nat->List Ty->Bool
 |[],[]=>true
 |T::Ts,t::ts=>jAL P 20 T t&&(P.readableRec T&&decide (T<P.types.size))&&jgG P Ts ts
 |_,_=>false
section
variable {P:Program} {K:Type} {enc:TypeId×Value->K} {W W':World}
theorem jeb (j:laidOutB P=true) (i:Below W.heap.size W W'):∀(a:List Nat) (ts:List Ty) (vs:List Value) (ds:List (DataW K)) (ps:List MemPlace),jgG P a ts=true->
 DataW.TrodAll enc P W 0 (fun _=>true) true a vs ds ps->(∀x∈ps,x.block<W.heap.size)->DataW.TrodAll enc P W' 0 (fun b=>decide (b<W.heap.size)) true a vs ds ps
 |[],ts,vs,ds,ps,_,h,_=>by
  obtain⟨rfl,rfl,rfl⟩:=trodAll_nil h
  exact trodAll_mk0
 |T::a,[],vs,ds,ps,c,_,_=>by cases c
 |T::a,t::ts,vs,ds,ps,c,h,hlt=>by
  obtain⟨v,g,d,e,p,q,rfl,rfl,rfl,n,o⟩:=trodAll_cons h
  simp only[jgG,jDT] at c
  obtain⟨⟨_,k,l⟩,m⟩:=c
  exact trodAll_cons_mk (Below.trod j k (of_decide_eq_true l) n i (fun x f=>hlt x (jDO _ f)))
   (jeb j i a ts g e q m o (fun x f=>hlt x (jDN _ f)))
theorem jBK {T:Nat} {t:Ty} {r:Reach} {c:Nat} {v:Value} (h:jAL P 20 T t=true) (b:Value.okWide P W r c T v):kf v=t.agg:=by
 unfold jAL at h
 split at h
 .rename_i a;obtain⟨n,rfl⟩:=okWide_int a b;rfl
 .rename_i a;obtain⟨n,rfl⟩:=okWide_bool a b;rfl
 .rename_i a;obtain⟨n,rfl⟩:=okWide_int a b;rfl
 .rename_i a;unfold Value.okWide at b;rw[a] at b;simp only[Cell.okWide,a] at b;cases v with
  |agg vs=>simp[Cell.ok,a] at b
  |_=>rfl
 .rename_i a;unfold Value.okWide at b;rw[a] at b;obtain⟨cs,rfl,_⟩:=b;rfl
 .cases h
theorem jz0 {r:Reach} {l:Nat}:∀(a:List Nat) (ts:List Ty) (vs:List Value) (ds:List (DataW K)) (ps:List MemPlace),jgG P a ts=true->
 DataW.TrodAll enc P W 0 (fun _=>true) true a vs ds ps->(∀(j:Nat) t v,a[j]? =some t->vs[j]? =some v->Value.okWide P W r l t v)->Rows.uptoBulkAll ds<=1048576->
 ∃d:PD (ts.map Par.val),pvs P (Hof W) (ts.map Par.val) vs d/\jm6 1048576 ts d
 |[],ts,vs,ds,ps,b,h,_,_=>by
  obtain⟨rfl,rfl,rfl⟩:=trodAll_nil h
  cases ts with
  |nil=>exact⟨(),rfl,trivial⟩
  |cons t ts=>cases b
 |T::a,[],vs,ds,ps,b,_,_,_=>by cases b
 |T::a,t::ts,vs,ds,ps,b,h,hv,hb=>by
  obtain⟨v,g,d,e,p,q,rfl,rfl,rfl,n,o⟩:=trodAll_cons h
  simp only[jgG,jDT] at b
  obtain⟨⟨k,_⟩,m⟩:=b
  simp only[Rows.uptoBulkAll] at hb
  obtain⟨c,s⟩:=n
  obtain⟨x,w,z,A⟩:=jdd 20 T t k c _ _ s (by simp only;omega)
  obtain⟨y,B,C⟩:=jz0 a ts g e q m o (fun j t v u f=>hv (j+1) t v (by simpa using u) (by simpa using f)) (by omega)
  refine⟨(x,y),⟨⟨jBK k (hv 0 T v rfl rfl),by simpa using z,?_⟩,B⟩,Ty.fits_mono (by simp only;omega) t x A,C⟩
  refine Ty.rd_congr t _ _ _ (fun i _=> ?_) w
  simp
theorem jcX:∀(a:List Nat) (ts:List Ty) (vs:List Value) (ds:List (DataW K)) (ps:List MemPlace),jgG P a ts=true->DataW.TrodAll enc P W 0 (fun _=>true) true a vs ds ps->ds.length=ts.length:=by
 intro a
 induction a with
 |nil=>intro ts vs ds ps b h;obtain⟨rfl,rfl,rfl⟩:=trodAll_nil h;cases ts with|nil=>rfl|cons=>cases b
 |cons T a g=>intro ts vs ds ps b h;cases ts with
  |nil=>cases b
  |cons t ts=>
   obtain⟨v,e,d,c,p,q,rfl,rfl,rfl,i,f⟩:=trodAll_cons h;simp only[jgG,jDT] at b;simp[g ts e c q b.2 f]
theorem jz5 {f:Nat} {fn:Func} {s:ChangeSpec} {ts:List Ty} (I:laidOutB P=true) (k:jgG P fn.params.toList ts=true) (L:fn.resultTypes= #[4]) (D:P.underlying 4=some .bool)
 (a:s.vars=[]) (m:∀(ds:List (DataW K)),ds.length=ts.length->s.fn K (ds++[])={results:=[.lit (.bool true)],args:=ds})
 (G:zg P f (jwI ts)) (base:Nat) (args:Array Value) (ds o:List (DataW K)) (before:List MemPlace)
 (l:∀(j:Nat) t v,fn.params[j]? =some t->args[j]? =some v->Value.okWide P W .any base t v)
 (w:DataW.Whole enc P fn.params.toList s.vars false W args.toList ds o before) (hk:Rows.uptoSmall K (ds++o)=true) (E:jBQ (Hof W)):
 Calls P f args W fun e W'=>∃v,e= .returned v/\s.post enc P fn false true false false W args v W':=by
 have b:=w;obtain⟨p,q,i,u,rfl,H,J⟩:=w;rw[a] at u;obtain⟨rfl,rfl⟩:=trodVars_none u;simp only[jEk] at b hk;have c:Rows.uptoBulkAll ds<=1048576:=of_decide_eq_true hk;have g:∀(j:Nat) t v,fn.params.toList[j]? =some t->args.toList[j]? =some v->Value.okWide P W .any base t v:=fun j t v B C=>l j t v (by simpa using B) (by simpa using C)
 obtain⟨d,z,A⟩:=jz0 fn.params.toList ts args.toList ds p k i g c;have y:=G.calls (Hof W) W args.toList d (jzb W E) z ⟨A,trivial⟩;simp only[Array.toArray_toList] at y;refine y.mono fun e W' F=> ?_
 obtain⟨v,H',rfl,r,M⟩:=F;have n:v= .bool true:=zy M;subst n;refine⟨_,rfl,ds,[],p,[],p,[],b,?_,?_,?_,r.below.frame _,fun h=>by cases h⟩
 .rw[m ds ?_,L]
  .exact trodAll_cons_mk (shut_bool D _) trodAll_mk0
  .exact jcX _ _ _ _ _ k i
 .rw[m ds ?_]
  .exact jeb I r.below _ ts _ _ _ k i (fun x N=>by simpa using b.lt x N)
  .exact jcX _ _ _ _ _ k i
 .rw[a,m ds ?_]
  .rfl
  .exact jcX _ _ _ _ _ k i
end
end Go.X
namespace Go.X
open Go.Proofs
namespace U
def jC2 (p:PeD):Prop:=(lv p).length<=20/\(zN p).length<=30
def jml (c:CrD):Prop:=(jk c).length<=20/\(zq c).length<=20/\∀p∈jk c,jC2 p
def wn (d:DyD):Prop:=jml (jg d)/\(ju d).length<=20/\(jr d).length<=20/\(jh d).length<=60/\∀r∈ju d,r.length<=20
def jpE (p:PeD):Bool:=decide (20<((lv p).length:Int))||decide (30<((zN p).length:Int))
def jaO (c:CrD):Bool:=(decide (20<((jk c).length:Int))||decide (20<((zq c).length:Int)))||((jk c).any jpE||(jx c&&decide (5<((jk c).length:Int))))
def jpD (r:List SpD):Bool:=decide (20<(r.length:Int))
def vu (d:DyD):Bool:=(((jaO (jg d)||decide (20<((ju d).length:Int)))||decide (20<((jr d).length:Int)))||decide (60<((jh d).length:Int)))||(ju d).any jpD
def jgp (d:DyD):Bool:=vu d||(decide (wO d=0)&&decide (12<((jh d).length:Int)))
def jDz:CrD:=(3,[([5,4,0],3,15,[],false,50,()),([0,5,3],3,15,[],true,40,()),([4,0,4],1,3,[7],false,30,()),([3,3,3],255,1,[],false,10,())],[(2,1,false,()),(4,2,false,()),(3,2,true,()),(5,1,false,())],())
def jyb:List JbD:=[(0,2,7,1,2,1,()),(0,2,3,0,0,1,()),(0,2,7,1,1,1,())]
def jkQ:DyD:=(jDz,[[(0,0,()),(10,20,())],[(10,25,()),(0,0,())]],[((0,2,3,0,0,1,()),0,60,120,()),((0,2,3,1,0,1,()),1,150,200,()),((0,2,7,1,2,1,()),0,230,300,())],10,140,
 [(1,5,1,0,3,()),(2,6,1,1,3,()),(3,4,1,2,2,()),(4,7,1,2,0,()),(5,8,1,2,1,()),(6,9,1,0,2,()),(7,10,2,0,2,())],())
end U
def jtK:jR:=⟨[.val tCr],[tCr],false,fun d=>[U.jml d.1],fun d=>(d.1,())⟩
def juV:Ann:=fun r=>match r with
 |3=>some fun σ=>{X:=Nat,sl:=fun i=>[(4,.dat .int (i:Int))],ob:=fun i=>[(3,some (.box 25 false ((bx σ 3).set 1 (.own (qR 3 1) tPe)))),(qR 3 1,some (.row 102 tPe false .yes ((U.jk (gb tCr σ 1)).take i)))],inv:=fun i=>i<=(U.jk (gb tCr σ 1)).length,mu:=fun i=>(U.jk (gb tCr σ 1)).length-i}
 |_=>none
abbrev q108_0 (d:CrD×Unit)(x:Nat):=(nth d.1.2.1 (x:Int).toNat)
def jts:Prop:=∀(d:CrD×Unit),U.jml d.1->(0+d.1.2.2.1.length)*24<=140737488355328/\(∃(x:Nat),((0=(x:Int)/\True)/\(d.1.1=d.1.1/\True/\True/\True)/\List.take x (U.jk d.1)=[]/\True)/\x<=(U.jk d.1).length)/\∀(x:Nat),x<=(U.jk d.1).length->d.1.2.1.length<4611686018427387904->(decide ((x:Int)<(d.1.2.1.length:Int))=true->0<=(x:Int)/\(x:Int)<(d.1.2.1.length:Int)/\(0+(q108_0 d x).1.length)*8<=140737488355328/\(0+(q108_0 d x).2.2.2.1.length)*8<=140737488355328/\((List.take x (U.jk d.1)).length+[([]++(q108_0 d x).1,(q108_0 d x).2.1,(q108_0 d x).2.2.1,[]++(q108_0 d x).2.2.2.1,(q108_0 d x).2.2.2.2)].length)*80<=140737488355328/\jD ((x:Int)+1)/\∃(a:Nat),(((x:Int)+1=(a:Int)/\True)/\(d.1.1=d.1.1/\True/\True/\True)/\List.take x (U.jk d.1)++[([]++(q108_0 d x).1,(q108_0 d x).2.1,(q108_0 d x).2.2.1,[]++(q108_0 d x).2.2.2.1,(q108_0 d x).2.2.2.2)]=List.take a (U.jk d.1)/\True)/\a<=(U.jk d.1).length/\(U.jk d.1).length-a<(U.jk d.1).length-x)/\(decide ((x:Int)<(d.1.2.1.length:Int))=false->((d.1.1,List.take x (U.jk d.1),[]++d.1.2.2.1,()),())=d)
def jtJ:jR:=⟨[.val tDy],[tDy],false,fun d=>[U.wn d.1],fun d=>(d.1,())⟩
def juU:Ann:=fun r=>match r with
 |5=>some fun σ=>{X:=Nat,sl:=fun i=>[(4,.dat .int (i:Int))],ob:=fun i=>[(3,some (.box 30 false ((bx σ 3).set 3 (.own (qR 3 3) (.slice tSp))))),(qR 3 3,some (.row 75 (.slice tSp) false .yes ((U.ju (gb tDy σ 1)).take i)))],inv:=fun i=>i<=(U.ju (gb tDy σ 1)).length,mu:=fun i=>(U.ju (gb tDy σ 1)).length-i}
 |_=>none
abbrev q109_0 (d:DyD×Unit):=(d.1.1.1=d.1.1.1/\d.1.1.2.1=d.1.1.2.1/\d.1.1.2.2.1=d.1.1.2.2.1/\True/\d.1.2.2.1=d.1.2.2.1/\d.1.2.2.2.1=d.1.2.2.2.1/\d.1.2.2.2.2.1=d.1.2.2.2.2.1/\d.1.2.2.2.2.2.1=d.1.2.2.2.2.2.1/\True)
def jtr:Prop:=∀(d:DyD×Unit),U.wn d.1->U.jml d.1.1/\(∃(x:Nat),((0=(x:Int)/\True)/\(q109_0 d)/\List.take x (U.ju d.1)=[]/\True)/\x<=(U.ju d.1).length)/\∀(x:Nat),x<=(U.ju d.1).length->d.1.2.1.length<4611686018427387904->(decide ((x:Int)<(d.1.2.1.length:Int))=true->0<=(x:Int)/\(x:Int)<(d.1.2.1.length:Int)/\(0+(nth d.1.2.1 (x:Int).toNat).length)*16<=140737488355328/\((List.take x (U.ju d.1)).length+[[]++nth d.1.2.1 (x:Int).toNat].length)*24<=140737488355328/\jD ((x:Int)+1)/\∃(a:Nat),(((x:Int)+1=(a:Int)/\True)/\(q109_0 d)/\List.take x (U.ju d.1)++[[]++nth d.1.2.1 (x:Int).toNat]=List.take a (U.ju d.1)/\True)/\a<=(U.ju d.1).length/\(U.ju d.1).length-a<(U.ju d.1).length-x)/\(decide ((x:Int)<(d.1.2.1.length:Int))=false->(0+d.1.2.2.1.length)*72<=140737488355328/\(0+d.1.2.2.2.2.2.1.length)*40<=140737488355328/\((d.1.1,List.take x (U.ju d.1),[]++d.1.2.2.1,d.1.2.2.2.1,d.1.2.2.2.2.1,[]++d.1.2.2.2.2.2.1,()),())=d)
def jko:jR:=⟨[.val (.slice .int),.val (.slice .int)],[.bool],false,fun _=>[],fun d=>(decide (d.1=d.2.1),())⟩
def jkW:Ann:=fun r=>match r with
 |4=>some fun σ=>{X:=Nat,sl:=fun i=>[(5,.dat .int (i:Int))],ob:=fun _=>[],inv:=fun i=>i<=(gd (.slice .int) σ 0).length/\∀j:Nat,j<i->nth (gd (.slice .int) σ 0) j=nth (gd (.slice .int) σ 1) j,mu:=fun i=>(gd (.slice .int) σ 0).length-i}
 |_=>none
def jkh:Prop:=∀(d:List Int×List Int×Unit),d.1.length<4611686018427387904->d.2.1.length<4611686018427387904->(decide ((d.1.length:Int)≠(d.2.1.length:Int))=true->(false,())=(decide (d.1=d.2.1),()))/\(decide ((d.1.length:Int)≠(d.2.1.length:Int))=false->(∃(x:Nat),((0=(x:Int)/\True)/\True)/\x<=d.1.length/\∀(j:Nat),j<x->nth d.1 j=nth d.2.1 j)/\∀(x:Nat),(x<=d.1.length/\∀(j:Nat),j<x->nth d.1 j=nth d.2.1 j)->d.1.length<4611686018427387904->(decide ((x:Int)<(d.1.length:Int))=true->0<=(x:Int)/\(x:Int)<(d.1.length:Int)/\0<=(x:Int)/\(x:Int)<(d.2.1.length:Int)/\(decide (nth d.1 (x:Int).toNat≠nth d.2.1 (x:Int).toNat)=true->(false,())=(decide (d.1=d.2.1),()))/\(decide (nth d.1 (x:Int).toNat≠nth d.2.1 (x:Int).toNat)=false->jD ((x:Int)+1)/\∃(a:Nat),(((x:Int)+1=(a:Int)/\True)/\True)/\(a<=d.1.length/\∀(j:Nat),j<a->nth d.1 j=nth d.2.1 j)/\d.1.length-a<d.1.length-x))/\(decide ((x:Int)<(d.1.length:Int))=false->(true,())=(decide (d.1=d.2.1),())))
def jvt:jR:=⟨[.val tCr],[.bool],false,fun _=>[],fun d=>(U.jaO d.1,())⟩
def jxW:Ann:=fun r=>match r with
 |4=>some fun σ=>{X:=Nat,sl:=fun i=>[(3,.dat .int (i:Int))],ob:=fun _=>[],inv:=fun i=>i<=(U.jk (gb tCr σ 1)).length/\∀j:Nat,j<i->U.jpE (nth (U.jk (gb tCr σ 1)) j)=false,mu:=fun i=>(U.jk (gb tCr σ 1)).length-i}
 |_=>none
abbrev q111_0 (d:CrD×Unit)(x:Nat):=((20:Int)<(↑(nth d.1.2.1 (x:Int).toNat).1.length:Int))
abbrev q111_1 (d:CrD×Unit):=(d.1.2.1.length:Int)
abbrev q111_2 (d:CrD×Unit)(x:Nat):=(decide (q111_0 d x)||decide ((30:Int)<(↑(nth d.1.2.1 (x:Int).toNat).2.2.2.1.length:Int)))
abbrev q111_3 (d:CrD×Unit):=(decide (20<(q111_1 d))||decide (20<(d.1.2.2.1.length:Int)))
def ju7:Prop:=∀(d:CrD×Unit),d.1.2.1.length<4611686018427387904->((!decide (20<(q111_1 d)))=true->d.1.2.2.1.length<4611686018427387904)->((q111_3 d)=true->(true,())=(U.jaO d.1,()))/\((q111_3 d)=false->(∃(x:Nat),((0=(x:Int)/\True)/\True)/\x<=(U.jk d.1).length/\∀(j:Nat),j<x->U.jpE (nth (U.jk d.1) j)=false)/\∀(x:Nat),(x<=(U.jk d.1).length/\∀(j:Nat),j<x->U.jpE (nth (U.jk d.1) j)=false)->d.1.2.1.length<4611686018427387904->(decide ((x:Int)<(q111_1 d))=true->0<=(x:Int)/\(x:Int)<(q111_1 d)/\((nth d.1.2.1 (x:Int).toNat).1.length<4611686018427387904->((!decide (q111_0 d x))=true->0<=(x:Int))/\((!decide (q111_0 d x))=true->(x:Int)<(q111_1 d))/\(((!decide (q111_0 d x))=true->(nth d.1.2.1 (x:Int).toNat).2.2.2.1.length<4611686018427387904)->((q111_2 d x)=true->(true,())=(U.jaO d.1,()))/\((q111_2 d x)=false->jD ((x:Int)+1)/\∃(a:Nat),(((x:Int)+1=(a:Int)/\True)/\True)/\(a<=(U.jk d.1).length/\∀(j:Nat),j<a->U.jpE (nth (U.jk d.1) j)=false)/\(U.jk d.1).length-a<(U.jk d.1).length-x))))/\(decide ((x:Int)<(q111_1 d))=false->(U.jx d.1=true->d.1.2.1.length<4611686018427387904)->(U.jx d.1&&decide (5<(q111_1 d)),())=(U.jaO d.1,())))
def jtA:jR:=⟨[.val tDy],[.bool],false,fun _=>[],fun d=>(U.vu d.1,())⟩
def juQ:Ann:=fun r=>match r with
 |4=>some fun σ=>{X:=Nat,sl:=fun i=>[(3,.dat .int (i:Int))],ob:=fun _=>[],inv:=fun i=>i<=(U.ju (gb tDy σ 1)).length/\∀j:Nat,j<i->U.jpD (nth (U.ju (gb tDy σ 1)) j)=false,mu:=fun i=>(U.ju (gb tDy σ 1)).length-i}
 |_=>none
abbrev q112_1 (d:DyD×Unit):=(d.1.2.1.length:Int)
abbrev q112_0 (d:DyD×Unit):=(U.jaO d.1.1||decide (20<(q112_1 d))||decide (20<(d.1.2.2.1.length:Int))||decide (60<(d.1.2.2.2.2.2.1.length:Int)))
def jth:Prop:=∀(d:DyD×Unit),((!U.jaO d.1.1)=true->d.1.2.1.length<4611686018427387904)->((!(U.jaO d.1.1||decide (20<(q112_1 d))))=true->d.1.2.2.1.length<4611686018427387904)->((!(U.jaO d.1.1||decide (20<(q112_1 d))||decide (20<(d.1.2.2.1.length:Int))))=true->d.1.2.2.2.2.2.1.length<4611686018427387904)->((q112_0 d)=true->(true,())=(U.vu d.1,()))/\((q112_0 d)=false->(∃(x:Nat),((0=(x:Int)/\True)/\True)/\x<=(U.ju d.1).length/\∀(j:Nat),j<x->U.jpD (nth (U.ju d.1) j)=false)/\∀(x:Nat),(x<=(U.ju d.1).length/\∀(j:Nat),j<x->U.jpD (nth (U.ju d.1) j)=false)->d.1.2.1.length<4611686018427387904->(decide ((x:Int)<(q112_1 d))=true->0<=(x:Int)/\(x:Int)<(q112_1 d)/\((nth d.1.2.1 (x:Int).toNat).length<4611686018427387904->(decide ((20:Int)<(↑(nth d.1.2.1 (x:Int).toNat).length:Int))=true->(true,())=(U.vu d.1,()))/\(decide ((20:Int)<(↑(nth d.1.2.1 (x:Int).toNat).length:Int))=false->jD ((x:Int)+1)/\∃(a:Nat),(((x:Int)+1=(a:Int)/\True)/\True)/\(a<=(U.ju d.1).length/\∀(j:Nat),j<a->U.jpD (nth (U.ju d.1) j)=false)/\(U.ju d.1).length-a<(U.ju d.1).length-x)))/\(decide ((x:Int)<(q112_1 d))=false->(false,())=(U.vu d.1,())))
def jvs:jR:=⟨[.val tDy],[.bool],false,fun _=>[],fun d=>(U.jgp d.1,())⟩
def ju6:Prop:=∀(d:DyD×Unit),((!U.vu d.1)=true->(U.jr d.1).length<=1000000)/\(((!U.vu d.1&&decide (U.wO d.1=0))=true->d.1.2.2.2.2.2.1.length<4611686018427387904)->(U.vu d.1||decide (U.wO d.1=0)&&decide (12<(d.1.2.2.2.2.2.1.length:Int)),())=(U.jgp d.1,()))
def jtz:jR:=⟨[.val .int,.val .int],[tSp],false,fun _=>[],fun d=>((d.1,d.2.1,()),())⟩
def jtg:Prop:=∀(d:Int×Int×Unit),(d,())=(d,())
def jmf:jR:=⟨[],[tCr,.slice tJb],false,fun _=>[],fun _=>(U.jDz,U.jyb,())⟩
def jl2:Prop:=∀(d:Unit),(((3:Int),[([(5:Int),(4:Int),(0:Int)],(3:Int),(15:Int),[],false,(50:Int),()),([(0:Int),(5:Int),(3:Int)],(3:Int),(15:Int),[],true,(40:Int),()),([(4:Int),(0:Int),(4:Int)],(1:Int),(3:Int),[(7:Int)],false,(30:Int),()),([(3:Int),(3:Int),(3:Int)],(255:Int),(1:Int),[],false,(10:Int),())],[((2:Int),(1:Int),false,()),((4:Int),(2:Int),false,()),((3:Int),(2:Int),true,()),((5:Int),(1:Int),false,())],()),[((0:Int),(2:Int),(7:Int),(1:Int),(2:Int),(1:Int),()),((0:Int),(2:Int),(3:Int),(0:Int),(0:Int),(1:Int),()),((0:Int),(2:Int),(7:Int),(1:Int),(1:Int),(1:Int),())],())=(U.jDz,U.jyb,())
def jme:jR:=⟨[],[tDy],false,fun _=>[],fun _=>(U.jkQ,())⟩
abbrev q116_0:=(nth U.jyb (Int.toNat 1))
def jl1:Prop:=∀(d:Unit),(0:Int)<=1/\1<(U.jyb.length:Int)/\(0:Int)<=1/\1<(U.jyb.length:Int)/\(0:Int)<=0/\0<(U.jyb.length:Int)/\((U.jDz,[[((0:Int),(0:Int),()),((10:Int),(20:Int),())],[((10:Int),(25:Int),()),((0:Int),(0:Int),())]],[(nth U.jyb (Int.toNat 1),(0:Int),(60:Int),(120:Int),()),((q116_0.1,q116_0.2.1,q116_0.2.2.1,(1:Int),q116_0.2.2.2.2),(1:Int),(150:Int),(200:Int),()),(nth U.jyb (Int.toNat 0),(0:Int),(230:Int),(300:Int),())],(10:Int),(140:Int),[((1:Int),(5:Int),(1:Int),(0:Int),(3:Int),()),((2:Int),(6:Int),(1:Int),(1:Int),(3:Int),()),((3:Int),(4:Int),(1:Int),(2:Int),(2:Int),()),((4:Int),(7:Int),(1:Int),(2:Int),(0:Int),()),((5:Int),(8:Int),(1:Int),(2:Int),(1:Int),()),((6:Int),(9:Int),(1:Int),(0:Int),(2:Int),()),((7:Int),(10:Int),(2:Int),(0:Int),(2:Int),())],()),())=(U.jkQ,())
def jql:jR:=⟨[],[.bool],false,fun _=>[],fun _=>(true,())⟩
def jpX:Prop:=∀(d:Unit),(U.jh U.jkQ).length<=100000/\(U.jh U.jkQ).length<=100000/\(U.jh U.jkQ).length<=100000/\(decide (U.jt U.jkQ=0)&&decide (U.jt U.jkQ=0)&&decide (U.jde U.jkQ=0)&&decide (U.vI U.jkQ=[(8:Int),(8:Int),(3:Int)])&&decide (U.vM U.jkQ=[(3:Int)])&&decide (U.jhq U.jkQ=[(8:Int),(8:Int),(3:Int)])&&decide (U.jhp U.jkQ=110),())=(true,())
end Go.X
namespace Go.X
open Go.Proofs
theorem jw9:jts:=by
 unfold jts q108_0;rintro⟨c,⟨⟩⟩ g;obtain⟨m,j,a⟩:U.jml c:=g;refine⟨by show(0+(U.zq c).length)*24<=140737488355328;omega,⟨0,⟨⟨rfl,trivial⟩,⟨rfl,trivial,trivial,trivial⟩,rfl,trivial⟩,jD0 _⟩,fun x f _=>⟨fun h=> ?_,fun h=> ?_⟩⟩
 .have h:(x:Int)<((U.jk c).length:Int):=of_decide_eq_true h;have k:=L.take_succ (l:=U.jk c) (i:=x) (by omega);obtain⟨s1,s2⟩:=a _ (L.mem_nth (l:=U.jk c) (i:=x) (by omega));have d:((U.jk c).take x).length<=20:=(by rw[jEj];omega);refine⟨jD9 _,h,by show(0+(U.lv (nth (U.jk c) x)).length)*8<=140737488355328;omega,by show(0+(U.zN (nth (U.jk c) x)).length)*8<=140737488355328;omega,by show(((U.jk c).take x).length+1)*80<=140737488355328;omega,L.in64 (by omega) (by omega),x+1,⟨⟨by simp,trivial⟩,⟨rfl,trivial,trivial,trivial⟩,k.symm,trivial⟩,by show x+1<=(U.jk c).length;omega,by show(U.jk c).length-(x+1)<(U.jk c).length-x;omega⟩
 .have h:¬(x:Int)<((U.jk c).length:Int):=of_decide_eq_false h;have f:x<=(U.jk c).length:=f;have b:x=(U.jk c).length:=(by omega);subst b;have e:(U.jk c).take (U.jk c).length=U.jk c:=jEM;show((c.1,(U.jk c).take (U.jk c).length,c.2.2.1,()),())=(c,());rw[e];rfl
theorem jt0:zg PR 42 jtK:=kX juV jw9 Tryz.func42 kcN koN
theorem jw8:jtr:=by
 unfold jtr q109_0;rintro⟨d,⟨⟩⟩ g;obtain⟨k,o,j,n,a⟩:U.wn d:=g;refine⟨k,⟨0,⟨⟨rfl,trivial⟩,⟨rfl,rfl,rfl,trivial,rfl,rfl,rfl,rfl,trivial⟩,rfl,trivial⟩,jD0 _⟩,fun x f _=>⟨fun h=> ?_,fun h=> ?_⟩⟩
 .have h:(x:Int)<((U.ju d).length:Int):=of_decide_eq_true h;have m:=L.take_succ (l:=U.ju d) (i:=x) (by omega);have p:=a _ (L.mem_nth (l:=U.ju d) (i:=x) (by omega));have c:((U.ju d).take x).length<=20:=(by rw[jEj];omega);refine⟨jD9 _,h,by show(0+(nth (U.ju d) x).length)*16<=140737488355328;omega,by show(((U.ju d).take x).length+1)*24<=140737488355328;omega,L.in64 (by omega) (by omega),x+1,⟨⟨by simp,trivial⟩,⟨rfl,rfl,rfl,trivial,rfl,rfl,rfl,rfl,trivial⟩,m.symm,trivial⟩,by show x+1<=(U.ju d).length;omega,by show(U.ju d).length-(x+1)<(U.ju d).length-x;omega⟩
 .have h:¬(x:Int)<((U.ju d).length:Int):=of_decide_eq_false h;have f:x<=(U.ju d).length:=f;have b:x=(U.ju d).length:=(by omega);subst b;have e:(U.ju d).take (U.ju d).length=U.ju d:=jEM;refine⟨by show(0+(U.jr d).length)*72<=140737488355328;omega,by show(0+(U.jh d).length)*40<=140737488355328;omega,?_⟩;show((U.jg d,(U.ju d).take (U.ju d).length,U.jr d,U.jok d,U.jyX d,U.jh d,()),())=(d,());rw[e];rfl
theorem jtZ:zg PR 13 jtJ:=kX juU jw8 Tryz.func13 (kcC jt0 kcN) koN
theorem jmV:jkh:=by
 rintro⟨a,b,⟨⟩⟩ _ l;refine⟨fun h=> ?_,fun h=>⟨⟨0,⟨⟨rfl,trivial⟩,trivial⟩,jD0 _,fun j k=>by omega⟩,fun x g f=>⟨fun c=>⟨jD9 _,of_decide_eq_true c,jD9 _,?_,fun d=> ?_,fun d=> ?_⟩,fun c=> ?_⟩⟩⟩
 .have h:(a.length:Int)≠(b.length:Int):=of_decide_eq_true h;have:¬a=b:=fun e=>h (by rw[e])
  show(false,())=(decide (a=b),());rw[decide_eq_false this]
 .have h:(a.length:Int)=(b.length:Int):=Classical.not_not.1 (of_decide_eq_false h);have c:(x:Int)<(a.length:Int):=of_decide_eq_true c;show(x:Int)<(b.length:Int);omega
 .have d:nth a x≠nth b x:=of_decide_eq_true d;have:¬a=b:=fun e=>d (by rw[e])
  show(false,())=(decide (a=b),());rw[decide_eq_false this]
 .have c:(x:Int)<(a.length:Int):=of_decide_eq_true c;have d:nth a x=nth b x:=Classical.not_not.1 (of_decide_eq_false d);have f:a.length<4611686018427387904:=f;refine⟨L.in64 (by omega) (by omega),x+1,⟨⟨by simp,trivial⟩,trivial⟩,⟨by show x+1<=a.length;omega,fun j k=> ?_⟩,by show a.length-(x+1)<a.length-x;omega⟩;by_cases e:j=x
  .subst e;exact d
  .exact g.2 j (by omega)
 .have h:(a.length:Int)=(b.length:Int):=Classical.not_not.1 (of_decide_eq_false h);have c:¬(x:Int)<(a.length:Int):=of_decide_eq_false c;have e:a=b:=L.ext_nth (by omega) fun i hi=>g.2 i (by omega)
  show(true,())=(decide (a=b),());rw[decide_eq_true e]
theorem jcz:zg PR 15 jko:=kX jkW jmV Tryz.func15 kcN koN
theorem jy6:ju7:=by
 unfold ju7 q111_3 q111_2 q111_1 q111_0;rintro⟨c,⟨⟩⟩ _ _;refine⟨fun h=> ?_,fun h=>⟨⟨0,⟨⟨rfl,trivial⟩,trivial⟩,jD0 _,fun j g=>by omega⟩,fun x f d=>⟨fun a=>⟨jD9 _,of_decide_eq_true a,fun _=>⟨fun _=>jD9 _,fun _=>of_decide_eq_true a,fun _=>⟨fun b=> ?_,fun b=> ?_⟩⟩⟩,fun a _=> ?_⟩⟩⟩
 .have h:(decide (20<((U.jk c).length:Int))||decide (20<((U.zq c).length:Int)))=true:=h;show(true,())=(U.jaO c,());unfold U.jaO;rw[h];rfl
 .have b:U.jpE (nth (U.jk c) x)=true:=b;have a:(x:Int)<((U.jk c).length:Int):=of_decide_eq_true a;have:(U.jk c).any U.jpE=true:=jEP.2 ⟨_,L.mem_nth (l:=U.jk c) (i:=x) (by omega),b⟩;show(true,())=(U.jaO c,());unfold U.jaO;rw[this,Bool.true_or,Bool.or_true]
 .have b:U.jpE (nth (U.jk c) x)=false:=b;have a:(x:Int)<((U.jk c).length:Int):=of_decide_eq_true a;have d:(U.jk c).length<4611686018427387904:=d;refine⟨L.in64 (by omega) (by omega),x+1,⟨⟨by simp,trivial⟩,trivial⟩,⟨by show x+1<=(U.jk c).length;omega,fun j g=> ?_⟩,by show(U.jk c).length-(x+1)<(U.jk c).length-x;omega⟩;by_cases e:j=x
  .subst e;exact b
  .exact f.2 j (by omega)
 .have h:(decide (20<((U.jk c).length:Int))||decide (20<((U.zq c).length:Int)))=false:=h;have a:¬(x:Int)<((U.jk c).length:Int):=of_decide_eq_false a;have:(U.jk c).any U.jpE=false:=jEF.2 fun p k=>by
   obtain⟨i,hi,rfl⟩:=L.mem_iff.1 k;rw[f.2 i (by omega)];simp
  show(U.jx c&&decide (5<((U.jk c).length:Int)),())=(U.jaO c,());unfold U.jaO;rw[h,this,Bool.false_or,Bool.false_or]
theorem jwg:zg PR 70 jvt:=kX jxW jy6 Tryz.func70 (kcC jgK kcN) koN
theorem jwZ:jth:=by
 unfold jth q112_0 q112_1;rintro⟨d,⟨⟩⟩ _ _ _;refine⟨fun h=> ?_,fun h=>⟨⟨0,⟨⟨rfl,trivial⟩,trivial⟩,jD0 _,fun j g=>by omega⟩,fun x f c=>⟨fun a=>⟨jD9 _,of_decide_eq_true a,fun _=>⟨fun b=> ?_,fun b=> ?_⟩⟩,fun a=> ?_⟩⟩⟩
 .have h:(((U.jaO (U.jg d)||decide (20<((U.ju d).length:Int)))||decide (20<((U.jr d).length:Int)))||decide (60<((U.jh d).length:Int)))=true:=h;show(true,())=(U.vu d,());unfold U.vu;rw[h];rfl
 .have b:U.jpD (nth (U.ju d) x)=true:=b;have a:(x:Int)<((U.ju d).length:Int):=of_decide_eq_true a;have:(U.ju d).any U.jpD=true:=jEP.2 ⟨_,L.mem_nth (l:=U.ju d) (i:=x) (by omega),b⟩;show(true,())=(U.vu d,());unfold U.vu;rw[this,Bool.or_true]
 .have b:U.jpD (nth (U.ju d) x)=false:=b;have a:(x:Int)<((U.ju d).length:Int):=of_decide_eq_true a;have c:(U.ju d).length<4611686018427387904:=c;refine⟨L.in64 (by omega) (by omega),x+1,⟨⟨by simp,trivial⟩,trivial⟩,⟨by show x+1<=(U.ju d).length;omega,fun j g=> ?_⟩,by show(U.ju d).length-(x+1)<(U.ju d).length-x;omega⟩;by_cases e:j=x
  .subst e;exact b
  .exact f.2 j (by omega)
 .have h:(((U.jaO (U.jg d)||decide (20<((U.ju d).length:Int)))||decide (20<((U.jr d).length:Int)))||decide (60<((U.jh d).length:Int)))=false:=h;have a:¬(x:Int)<((U.ju d).length:Int):=of_decide_eq_false a;have:(U.ju d).any U.jpD=false:=jEF.2 fun p k=>by
   obtain⟨i,hi,rfl⟩:=L.mem_iff.1 k;rw[f.2 i (by omega)];simp
  show(false,())=(U.vu d,());unfold U.vu;rw[h,this];rfl
theorem jtU:zg PR 30 jtA:=kX juQ jwZ Tryz.func30 (kcC jwg kcN) koN
theorem jxi {c:CrD} (h:U.jaO c=false):U.jml c:=by
 unfold U.jaO at h;rw[jEg,jEg,jEg,decide_eq_false_iff_not] at h;have b:=of_decide_eq_false h.1.2;refine⟨by have:=h.1.1;omega,by omega,fun p a=> ?_⟩;have:=jEF.1 h.2.1 p a;unfold U.jpE at this;rw[jE8,decide_eq_true_iff,decide_eq_true_iff] at this;unfold U.jC2;omega
theorem jlv {d:DyD} (h:U.vu d=false):U.wn d:=by
 unfold U.vu at h;rw[jEg,jEg,jEg,jEg] at h;obtain⟨⟨⟨⟨e,a⟩,b⟩,c⟩,f⟩:=h;have a:=of_decide_eq_false a;have b:=of_decide_eq_false b;have c:=of_decide_eq_false c;refine⟨jxi e,by omega,by omega,by omega,fun r g=> ?_⟩;have:=jEF.1 f r g;unfold U.jpD at this;rw[decide_eq_true_iff] at this;omega
theorem jy5:ju6:=by
 rintro⟨d,⟨⟩⟩;refine⟨fun h=> ?_,fun _=>rfl⟩;have h:(!U.vu d)=true:=h;rw[jEe] at h;have:=(jlv h).2.2.1;show(U.jr d).length<=1000000;omega
theorem jwf:zg PR 9 jvs:=jO jy5 Tryz.func9 (kcC jtU (kcC ji2 kcN)) koN
theorem jwY:jtg:=fun _=>rfl
theorem jtT:zg PR 78 jtz:=jO jwY Tryz.func78 kcN koN
theorem jo5:jl2:=fun _=>rfl
theorem jmC:zg PR 77 jmf:=jO jo5 Tryz.func77 kcN koN
theorem jo4:jl1:=by
 unfold jl1 q116_0;intro _;refine⟨by decide,by decide,by decide,by decide,by decide,by decide,rfl⟩
theorem jmB:zg PR 38 jme:=jO jo4 Tryz.func38 (kcC jmC (kcC jtT kcN)) koN
theorem jxn:U.wO U.jkQ=0:=by decide+kernel
theorem jCA:(U.jsd U.jkQ).1=[8,8,3]:=by decide+kernel
theorem jCB:U.jez (U.jsd U.jkQ).2 100=[3]:=by decide+kernel
theorem jxm:(U.jC5 U.jkQ).2=([8,8,3],110,true):=by decide+kernel
theorem juc:jpX:=by
 intro _;refine⟨by decide,by decide,by decide,?_⟩;have b:U.jt U.jkQ=0:=(jay _).trans jxn;have c:U.vI U.jkQ=[8,8,3]:=(by rw[jqc,if_pos jxn];exact jCA);have d:U.vM U.jkQ=[3]:=(by rw[jqK,if_pos jxn];exact jCB);have a:U.jde U.jkQ=0:=(by unfold U.jde;rw[if_pos b,jxm,if_pos rfl]);have e:U.jhq U.jkQ=[8,8,3]:=(by unfold U.jhq;rw[if_pos a,jxm]);have f:U.jhp U.jkQ=110:=(by unfold U.jhp;rw[if_pos a,jxm]);rw[b,c,d,a,e,f];rfl
theorem jq2:zg PR 11 jql:=jO juc Tryz.func11 (kcC jmB (kcC jcz (kcC jll (kcC jgI (kcC jwi kcN))))) koN
theorem jsT {d:DyD} (h:U.jgp d=false):U.wn d:=by
 unfold U.jgp at h;rw[jEg] at h;exact jlv h.1
end Go.X
namespace Go.X
open Go.Proofs
end Go.X
namespace Go.X
open Go.Proofs
section
attribute [local irreducible] U.jaz U.on U.joQ
end
section
attribute [local irreducible] U.joQ
end
section
attribute [local irreducible] U.wO U.joQ
end
end Go.X

namespace Go.X
section
attribute [local irreducible] U.wR U.jaP U.kj U.jaz
end
section
attribute [local irreducible] U.jaP U.kj U.jaz U.wX
end
end Go.X
namespace Go.X
open Go.Proofs
section
attribute [local irreducible] U.wR U.kj
end
end Go.X
namespace Go.X
namespace U
def jwp:DyD:=((0,[],[],()),[],[],0,0,[],())
def jCT:List ShD:=[]
def jfa (a b:PeD):Bool:= @decide (a=b) (tPe.decEq a b)
def jad (a b:DyD):Bool:= @decide (a=b) (tDy.decEq a b)
def flatS (l:List (List ShD)) (i:Nat):List ShD:=(l.take i).flatten
def jCV (d:DyD) (m:List ShD):List ShD:=jJ (flatS [jh d,m] 2)
def jkD (d:DyD) (m:List ShD):Int:=if jt d≠0 then jt d else if jt (jA d m)≠0 then jt (jA d m) else if 30<(jCV d m).length then 2 else if jpS (jCV d m)=true then 51 else 0
def jf2 (d:DyD) (m:List ShD):DyD:=if jkD d m=0 then jA d (jCV d m) else jwp
def jb (l:List ShD) (t:Int) (i:Nat):List ShD:=(List.range i).map (fun(k:Nat)=>nth l (((k:Int)+t).tmod (l.length:Int)).toNat)
end U
end Go.X
namespace Go.X
abbrev jDF:ShD->ShD->Bool:=U.je tSh fun x=>(U.qO x.1 x.2.1,())
theorem jAc (l:List ShD):(U.jJ l).Pairwise (fun a b=>jDF a b=true):=by
 have e:U.jJ l=U.qA (fun a b=>decide (a=b)) (U.jd (U.je tSh fun x=>(U.qO x.1 x.2.1,())) l):=by
  unfold U.jJ;congr 1
 rw[e];exact L.comp_asc (jmz _) (qV (jmz l))
theorem jzR {α:Type} {lt:α->α->Bool} {l:List α} (e:kh lt l) (h:l.Pairwise (fun a b=>lt a b=true)):jr6 lt l:=
 List.Pairwise.imp_of_mem (fun{a b} c f d=>by
  cases h:lt b a with
  |false=>rfl
  |true=>have:=e.trans _ _ _ c f c d h;rw[e.irrefl _ c] at this;cases this) h
theorem jzq {a b:List ShD} (h:∀s,s∈a↔s∈b):U.jJ a=U.jJ b:=
 vG (jmz _) (L.perm_of_nodup (y8 a) (y8 b) fun s=>vC.trans ((h s).trans vC.symm)) (jzR (jmz _) (jAc a)) (jzR (jmz _) (jAc b))
theorem jzp {l:List ShD} (h:∀s∈l,0<=U.kK s/\U.kK s<=99) (s:ShD):s∈U.jhO l↔s∈l:=⟨jfg,fun a=>jxx a (h s a).1 (h s a).2⟩
theorem jBf (a b:List ShD):U.flatS [a,b] 2=a++b:=by
 show[a,b].flatten=a++b;simp
theorem jCr {d:DyD} (h:U.wO d=0):∀s∈U.jh d,0<=U.kK s/\U.kK s<=99:=fun _ a=>jiE (zx ((jay d).trans h)).1.2.2 a
end Go.X
namespace Go.X
theorem jl0 {d:DyD} (h:U.wO d=0) (s:ShD):s∈U.jk4 d↔s∈U.jh d/\U.jx8 s=1/\∀t∈U.jh d,U.vK t=U.vK s->U.wh t s=false:=by
 have hi:=fun s=>jzp (l:=U.jh d) (jCr h) s
 rw[(jdY d).mem_iff,jie,jEb,jjW,hi s];exact and_congr_right fun _=>and_congr_right fun _=>⟨fun g t a=>g t ((hi t).2 a),fun g t a=>g t ((hi t).1 a)⟩
theorem jnu (d:DyD):(U.jk4 d).Nodup:=(jdY d).nodup_iff.2 (by rw[jie];exact List.Pairwise.filter _ (jgq _))
theorem jBc {d:DyD} (h:U.wO d=0):∀a∈U.jh d,∀b∈U.jh d,U.kK a=U.kK b->a=b:=(zx ((jay d).trans h)).2
theorem jtf {d:DyD} (h:U.wO d=0) (q:ShD->Bool) {l:List ShD} (i:l.Nodup) (g:∀s,s∈l↔s∈U.jk4 d/\q s=true) (c:jr6 U.jxS l):(U.jk4 d).filter q=l:=by
 refine vG (jxT ?_) (L.perm_of_nodup (List.Pairwise.filter _ (jnu d)) i fun s=> ?_) (List.Pairwise.filter _ (jpW d)) c
 .intro a c b f e;exact jBc h a ((jl0 h a).1 (jEb.1 c).1).1 b ((jl0 h b).1 (jEb.1 f).1).1 e
 .rw[jEb,g]
end Go.X
namespace Go.X
theorem jnf {d:DyD}:U.wO d=0↔U.joQ d/\∀a∈U.jh d,∀b∈U.jh d,U.kK a=U.kK b->a=b:=by
 refine⟨fun h=>zx ((jay d).trans h),fun⟨⟨c,e,f⟩,g⟩=> ?_⟩;unfold U.wO;rw[c,e,f,(jj1 _).2 g];rfl
theorem jzt {d:DyD} {l:List ShD} (h:U.zi d=true) (a:l.length<=30) (b:∀s∈l,U.yQ (U.jr d).length (U.jk (U.jg d)).length s=true):U.zi (U.jA d l)=true:=by
 have f:=zc h;show(decide ((U.jr d).length<=4/\1<=(U.ju d).length/\(U.ju d).length<=5/\0<=U.jok d/\U.jok d<=300/\0<=U.jyX d/\U.jyX d<=1440/\l.length<=30)&&
  ((U.ju d).all (U.qp (U.ju d).length)&&((U.jr d).all (U.jbo (U.ju d).length)&&l.all (U.yQ (U.jr d).length (U.jk (U.jg d)).length))))=true
 simp only[jDT,decide_eq_true_eq,jEr];exact⟨⟨f.1,f.2.1.1,f.2.1.2,f.2.2.1.1,f.2.2.1.2,f.2.2.2.1.1,f.2.2.2.1.2,a⟩,f.2.2.2.2.2.1,f.2.2.2.2.2.2.1,b⟩
theorem jzx {d:DyD} {l:List ShD} (h:U.joQ d) (c:l.length<=30) (e:∀s∈l,U.yQ (U.jr d).length (U.jk (U.jg d)).length s=true) (hi:∀a∈l,∀b∈l,U.kK a=U.kK b->a=b):U.wO (U.jA d l)=0:=
 jnf.2 ⟨⟨h.1,h.2.1,jzt h.2.2 c e⟩,hi⟩
theorem jrR {d:DyD} {l:List ShD} (h:U.wO d=0) (j:l.length<=30) (c:∀s∈l,s∈U.jh d):U.wO (U.jA d l)=0:=by
 have f:=jnf.1 h;exact jzx f.1 j (fun s e=>(zc f.1.2.2).2.2.2.2.2.2.2 _ (c s e)) fun a g b i=>f.2 a (c a g) b (c b i)
theorem jye {d:DyD} {l:List ShD} (h:U.wO d=0) (c:U.wO (U.jA d l)=0) (a:∀s,s∈l↔s∈U.jh d):U.jk4 (U.jA d l)=U.jk4 d:=by
 have e:(U.jk4 d).filter (fun _=>true)=U.jk4 d:=List.filter_eq_self.2 fun _ _=>rfl
 rw[<-e];refine(jtf h _ (jnu _) (fun s=> ?_) (jpW _)).symm;rw[jl0 c,jl0 h];refine⟨fun g=>⟨⟨(a s).1 g.1,g.2.1,fun t b=>g.2.2 t ((a t).2 b)⟩,rfl⟩,fun g=>⟨(a s).2 g.1.1,g.1.2.1,fun t b=>g.1.2.2 t ((a t).1 b)⟩⟩
theorem jsc {d:DyD} {l:List ShD} (h:U.wO d=0) (a:U.wO (U.jA d l)=0) (b:∀s,s∈l↔s∈U.jh d):U.jsd (U.jA d l)=U.jsd d:=by
 unfold U.jsd U.jlb;rw[jye h a b];rfl
theorem jyl {d:DyD} {l:List ShD} (h:U.wO d=0) (a:U.wO (U.jA d l)=0) (b:∀s,s∈l↔s∈U.jh d):U.vI (U.jA d l)=U.vI d:=by
 rw[jqc,jqc,if_pos h,if_pos a,jsc h a b]
theorem jyw {d:DyD} {l:List ShD} (h:U.wO d=0) (a:U.wO (U.jA d l)=0) (b:∀s,s∈l↔s∈U.jh d):U.vM (U.jA d l)=U.vM d:=by
 rw[jqK,jqK,if_pos h,if_pos a,jsc h a b]
theorem jA1 {d:DyD} {a m:List ShD} (h:U.wO d=0) (c:∀s,s∈a++m↔s∈U.jh d) (l:a.length<=30) (o:m.length<=30):
 U.jkD (U.jA d a) m=0/\U.jf2 (U.jA d a) m=U.jA d (U.jJ (U.jh d)):=by
 have f:=jnf.1 h;have j:U.wO (U.jA d a)=0:=jrR h l fun s b=>(c s).1 (jDO _ b)
 have k:U.wO (U.jA (U.jA d a) m)=0:=jrR (d:=d) h o fun s b=>(c s).1 (jDN _ b)
 have e:U.jCV (U.jA d a) m=U.jJ (U.jh d):=by
  unfold U.jCV;rw[jBf];exact jzq c
 have i:(U.jJ (U.jh d)).length<=30:=by
  have:=L.nodup_len (U.jJ (U.jh d)) (U.jh d) (y8 _) (fun s b=>vC.1 b);have:=(zc f.1.2.2).2.2.2.2.1;omega
 have n:U.jpS (U.jJ (U.jh d))=false:=(by rw[jpn];exact(jj1 _).2 f.2);have g:U.jkD (U.jA d a) m=0:=by
  unfold U.jkD;rw[jay,jay,j,k,e,n,if_neg (by simp),if_neg (by simp),if_neg (by omega),if_neg (by simp)]
 refine⟨g,?_⟩;unfold U.jf2;rw[if_pos g,e];rfl
end Go.X


namespace Go.X
instance:Inhabited (Nat×Nat):=⟨(0,0)⟩
end Go.X

namespace Go.X
open Go.Proofs
abbrev rwP:Sh:= .cl (.row 102 tPe .unk)
def jej:jR:=⟨[.val (.slice .int)],[.slice .int],false,fun d=>[d.1.length<=100000],fun d=>(d.1,())⟩
def jd4:Prop:=∀(d:List Int×Unit),d.1.length<=100000->∀(a:Bool),(a=true->d.1=[])->(a=true->([],())=d)/\(a=false->(0+d.1.length)*8<=140737488355328/\([]++d.1,())=d)
def jhf:jR:=⟨[.val (.slice tSp)],[.slice tSp],false,fun d=>[d.1.length<=100000],fun d=>(d.1,())⟩
def jg5:Prop:=∀(d:List (Int×Int×Unit)×Unit),d.1.length<=100000->∀(a:Bool),(a=true->d.1=[])->(a=true->([],())=d)/\(a=false->(0+d.1.length)*16<=140737488355328/\([]++d.1,())=d)
def jc3:jR:=⟨[.val (.slice tBk)],[.slice tBk],false,fun d=>[d.1.length<=100000],fun d=>(d.1,())⟩
def jcU:Prop:=∀(d:List BkD×Unit),d.1.length<=100000->∀(a:Bool),(a=true->d.1=[])->(a=true->([],())=d)/\(a=false->(0+d.1.length)*72<=140737488355328/\([]++d.1,())=d)
def jiz:jR:=⟨[.val (.slice tLw)],[.slice tLw],false,fun d=>[d.1.length<=100000],fun d=>(d.1,())⟩
def jik:Prop:=∀(d:List LwD×Unit),d.1.length<=100000->∀(a:Bool),(a=true->d.1=[])->(a=true->([],())=d)/\(a=false->(0+d.1.length)*24<=140737488355328/\([]++d.1,())=d)
def jeq:zu:=⟨[.val (.slice tPe)],[rwP],fun d=>[d.1.length<=100000],fun d=>((d.1,()),())⟩
def jd6:Prop:=∀(d:List PeD×Unit),d.1.length<=100000->∀(a:Bool),(a=true->d.1=[])->(a=true->([],())=d/\()=())/\(a=false->(0+d.1.length)*80<=140737488355328/\([]++d.1,())=d/\()=())
def jn2:jR:=⟨[.val tDy,.val (.slice tSh)],[tDy],false,fun d=>[U.wn d.1],fun d=>(U.jA d.1 d.2.1,())⟩
def jpF:Ann:=fun r=>match r with
 |7=>some fun σ=>{X:=Nat,sl:=fun i=>[(33,.dat .int (i:Int))],ob:=fun _=>[(qR 5 1,some (.row 102 tPe false .unk (U.jk (U.jg (gb tDy σ 2)))))],inv:=fun i=>i<=(U.jk (U.jg (gb tDy σ 2))).length,mu:=fun i=>(U.jk (U.jg (gb tDy σ 2))).length-i}
 |13=>some fun σ=>{X:=Nat,sl:=fun i=>[(61,.dat .int (i:Int))],ob:=fun i=>[(5,some (.box 30 false ((bx σ 5).set 3 (.own (qR 5 3) (.slice tSp))))),(qR 5 3,some (.row 75 (.slice tSp) false .yes ((U.ju (gb tDy σ 2)).take i)))],inv:=fun i=>i<=(U.ju (gb tDy σ 2)).length,mu:=fun i=>(U.ju (gb tDy σ 2)).length-i}
 |_=>none
abbrev q123_1 (d:DyD×List ShD×Unit):=(d.1.1.1=d.1.1.1/\True/\d.1.1.2.2.1=d.1.1.2.2.1/\True/\d.1.2.2.1=d.1.2.2.1/\d.1.2.2.2.1=d.1.2.2.2.1/\d.1.2.2.2.2.1=d.1.2.2.2.2.1/\d.2.1=d.2.1/\True)
abbrev q123_2 (d:DyD×List ShD×Unit):=(U.jk (U.jg d.1))
abbrev q123_0 (d:DyD×List ShD×Unit)(x:Nat):=((q123_2 d).set (x:Int).toNat (nth (q123_2 d) (x:Int).toNat))
def jnG:Prop:=∀(d:DyD×List ShD×Unit),U.wn d.1->d.1.2.2.1.length<=100000/\d.1.1.2.2.1.length<=100000/\d.1.1.2.1.length<=100000/\(d.1.1.2.1.length<4611686018427387904->(∃(x:Nat),((0=(x:Int)/\True)/\d.1.1.2.1=U.jk (U.jg d.1)/\True)/\x<=(q123_2 d).length)/\∀(x:Nat),x<=(q123_2 d).length->(decide ((x:Int)<(d.1.1.2.1.length:Int))=true->0<=(x:Int)/\(x:Int)<(↑(q123_2 d).length:Int)/\(nth (q123_2 d) (x:Int).toNat).1.length<=100000/\(nth (q123_2 d) (x:Int).toNat).2.2.2.1.length<=100000/\0<=(x:Int)/\(x:Int)<(↑(q123_2 d).length:Int)/\0<=(x:Int)/\(x:Int)<(↑(q123_0 d x).length:Int)/\jD ((x:Int)+1)/\∃(a:Nat),(((x:Int)+1=(a:Int)/\True)/\(q123_0 d x).set (x:Int).toNat ((nth (q123_0 d x) (x:Int).toNat).1,(nth (q123_0 d x) (x:Int).toNat).2.1,(nth (q123_0 d x) (x:Int).toNat).2.2.1,(nth (q123_2 d) (x:Int).toNat).2.2.2.1,(nth (q123_0 d x) (x:Int).toNat).2.2.2.2)=U.jk (U.jg d.1)/\True)/\a<=(q123_2 d).length/\(q123_2 d).length-a<(q123_2 d).length-x)/\(decide ((x:Int)<(d.1.1.2.1.length:Int))=false->d.1.2.1.length<4611686018427387904->(∃(x:Nat),((0=(x:Int)/\True)/\(q123_1 d)/\List.take x (U.ju d.1)=[]/\True)/\x<=(U.ju d.1).length)/\∀(x:Nat),x<=(U.ju d.1).length->(decide ((x:Int)<(d.1.2.1.length:Int))=true->0<=(x:Int)/\(x:Int)<(d.1.2.1.length:Int)/\(nth d.1.2.1 (x:Int).toNat).length<=100000/\((List.take x (U.ju d.1)).length+[nth d.1.2.1 (x:Int).toNat].length)*24<=140737488355328/\jD ((x:Int)+1)/\∃(a:Nat),(((x:Int)+1=(a:Int)/\True)/\(q123_1 d)/\List.take x (U.ju d.1)++[nth d.1.2.1 (x:Int).toNat]=List.take a (U.ju d.1)/\True)/\a<=(U.ju d.1).length/\(U.ju d.1).length-a<(U.ju d.1).length-x)/\(decide ((x:Int)<(d.1.2.1.length:Int))=false->(((d.1.1.1,U.jk (U.jg d.1),d.1.1.2.2),List.take x (U.ju d.1),d.1.2.2.1,d.1.2.2.2.1,d.1.2.2.2.2.1,d.2),())=(U.jA d.1 d.2.1,()))))
def jhn:zu:=⟨[.nil false,.val .int],[.cl (.row 54 tSh .unk)],fun d=>[0<=d.2.1/\d.2.1<=100000],fun _=>((U.jCT,()),())⟩
abbrev q124_0:=((0:Int)-(↑0:Int))
abbrev q124_1 (d:Unit×Int×Unit):=(List.replicate (d.2.1-q124_0).toNat ((0:Int),(0:Int),(0:Int),(0:Int),(0:Int),()))
def jg4:Prop:=∀(d:Unit×Int×Unit),0<=d.2.1/\d.2.1<=100000->(decide (d.2.1<0)=true->False)/\(decide (d.2.1<0)=false->jD q124_0/\jD (d.2.1-q124_0)/\(decide (0<d.2.1-q124_0)=true->(0:Int)<=0/\(0:Int)<=0/\(0:Int)<=0/\0<d.2.1-q124_0/\(d.2.1-q124_0).toNat*40<=140737488355328/\(0:Int)<=0/\(0:Int)<=(↑0:Int)/\(↑0:Int)<=(↑(q124_1 d).length:Int)/\(List.take ((↑0:Int).toNat-Int.toNat 0) (q124_1 d),())=(U.jCT,())/\()=())/\(decide (0<d.2.1-q124_0)=false->([],())=(U.jCT,())/\()=()))
def jei:jR:=⟨[.val (.slice (.slice tSh))],[.slice tSh],false,fun d=>[d.1.length<=100,∀x∈d.1,x.length<=1000],fun d=>(U.flatS d.1 d.1.length,())⟩
def jft:Ann:=fun r=>match r with
 |3=>some fun σ=>{X:=Nat,sl:=fun i=>[(11,.dat .int (i:Int)),(3,.dat .int (((U.flatS (gd (.slice (.slice tSh)) σ 0) i).length:Nat):Int))],ob:=fun _=>[],inv:=fun i=>i<=(gd (.slice (.slice tSh)) σ 0).length,mu:=fun i=>(gd (.slice (.slice tSh)) σ 0).length-i}
 |11=>some fun σ=>{X:=Nat,sl:=fun i=>[(27,.dat .int (i:Int)),(6,.own 6 tSh)],ob:=fun i=>[(6,some (.row 54 tSh false .unk (U.flatS (gd (.slice (.slice tSh)) σ 0) i)))],inv:=fun i=>i<=(gd (.slice (.slice tSh)) σ 0).length,mu:=fun i=>(gd (.slice (.slice tSh)) σ 0).length-i}
 |_=>none
abbrev q125_0 (d:List (List ShD)×Unit)(x:Nat):=(↑(U.flatS d.1 x).length:Int)
abbrev q125_1 (d:List (List ShD)×Unit)(x:Nat):=(↑(nth d.1 (x:Int).toNat).length:Int)
def jd3:Prop:=∀(d:List (List ShD)×Unit),d.1.length<=100->(∀(b:List ShD),b∈d.1->b.length<=1000)->d.1.length<4611686018427387904->(∃(x:Nat),((0=(x:Int)/\(0:Int)=(q125_0 d x)/\True)/\True)/\x<=d.1.length)/\∀(x:Nat),x<=d.1.length->(decide ((x:Int)<(d.1.length:Int))=true->0<=(x:Int)/\(x:Int)<(d.1.length:Int)/\((nth d.1 (x:Int).toNat).length<4611686018427387904->jD ((q125_0 d x)+(q125_1 d x))/\(decide ((q125_0 d x)+(q125_1 d x)<0)=true->False)/\(decide ((q125_0 d x)+(q125_1 d x)<0)=false->jD ((x:Int)+1)/\∃(a:Nat),(((x:Int)+1=(a:Int)/\(q125_0 d x)+(q125_1 d x)=(↑(U.flatS d.1 a).length:Int)/\True)/\True)/\a<=d.1.length/\d.1.length-a<d.1.length-x)))/\(decide ((x:Int)<(d.1.length:Int))=false->((0:Int)<=(q125_0 d x)/\(q125_0 d x)<=100000)/\(d.1.length<4611686018427387904->(∃(x:Nat),((0=(x:Int)/\True/\True)/\U.jCT=U.flatS d.1 x/\True)/\x<=d.1.length)/\∀(x:Nat),x<=d.1.length->(decide ((x:Int)<(d.1.length:Int))=true->0<=(x:Int)/\(x:Int)<(d.1.length:Int)/\((U.flatS d.1 x).length+(nth d.1 (x:Int).toNat).length)*40<=140737488355328/\jD ((x:Int)+1)/\∃(a:Nat),(((x:Int)+1=(a:Int)/\True/\True)/\U.flatS d.1 x++nth d.1 (x:Int).toNat=U.flatS d.1 a/\True)/\a<=d.1.length/\d.1.length-a<d.1.length-x)/\(decide ((x:Int)<(d.1.length:Int))=false->(U.flatS d.1 x,())=(U.flatS d.1 d.1.length,()))))
def jtG:jR:=⟨[.val tDy,.val (.slice tSh)],[tDy,.int],false,fun d=>[(U.jh d.1).length<=100000,d.2.1.length<=100000],fun d=>(U.jf2 d.1 d.2.1,U.jkD d.1 d.2.1,())⟩
def juS:Ann:=fun r=>match r with
 |4=>some fun σ=>{X:=Nat,sl:=fun i=>[(18,.dat .int (i:Int))],ob:=fun _=>[],inv:=fun i=>i<=2/\(0<i->U.jt (gb tDy σ 2)=0)/\(1<i->U.jt (U.jA (gb tDy σ 2) (gd (.slice tSh) σ 1))=0),mu:=fun i=>2-i}
 |_=>none
abbrev q126_0 (d:DyD×List ShD×Unit):=(U.flatS [d.1.2.2.2.2.2.1,d.2.1] [d.1.2.2.2.2.2.1,d.2.1].length)
abbrev q126_1 (d:DyD×List ShD×Unit):=(d.1.1,d.1.2.1,d.1.2.2.1,d.1.2.2.2.1,d.1.2.2.2.2.1,d.2)
abbrev q126_2 (d:DyD×List ShD×Unit):=(U.jf2 d.1 d.2.1,U.jkD d.1 d.2.1,())
abbrev q126_3 (d:DyD×List ShD×Unit)(x:Nat):=(nth [d.1,(q126_1 d)] (x:Int).toNat)
def jtn:Prop:=∀(d:DyD×List ShD×Unit),(U.jh d.1).length<=100000->d.2.1.length<=100000->[d.1,(q126_1 d)].length<4611686018427387904->(∃(x:Nat),((0=(x:Int)/\True)/\True)/\x<=2/\(0<x->U.jt d.1=0)/\(1<x->U.jt (U.jA d.1 d.2.1)=0))/\∀(x:Nat),x<=2/\(0<x->U.jt d.1=0)/\(1<x->U.jt (U.jA d.1 d.2.1)=0)->(decide ((x:Int)<(↑[d.1,(q126_1 d)].length:Int))=true->0<=(x:Int)/\(x:Int)<(↑[d.1,(q126_1 d)].length:Int)/\(U.jh (q126_3 d x)).length<=100000/\(decide (U.jt (q126_3 d x)≠0)=true->((((0:Int),[],[],()),[],[],(0:Int),(0:Int),[],()),U.jt (q126_3 d x),())=(q126_2 d))/\(decide (U.jt (q126_3 d x)≠0)=false->jD ((x:Int)+1)/\∃(a:Nat),(((x:Int)+1=(a:Int)/\True)/\True)/\(a<=2/\(0<a->U.jt d.1=0)/\(1<a->U.jt (U.jA d.1 d.2.1)=0))/\2-a<2-x))/\(decide ((x:Int)<(↑[d.1,(q126_1 d)].length:Int))=false->[d.1.2.2.2.2.2.1,d.2.1].length<=100/\(∀(b:List ShD),b∈[d.1.2.2.2.2.2.1,d.2.1]->b.length<=1000)/\(q126_0 d).length<=100000/\((U.jJ (q126_0 d)).length<4611686018427387904->(decide ((30:Int)<(↑(U.jJ (q126_0 d)).length:Int))=true->((((0:Int),[],[],()),[],[],(0:Int),(0:Int),[],()),(2:Int),())=(q126_2 d))/\(decide ((30:Int)<(↑(U.jJ (q126_0 d)).length:Int))=false->(U.jJ (q126_0 d)).length<=100000/\(U.jpS (U.jJ (q126_0 d))=true->((((0:Int),[],[],()),[],[],(0:Int),(0:Int),[],()),(51:Int),())=(q126_2 d))/\(U.jpS (U.jJ (q126_0 d))=false->U.wn d.1/\(U.jA d.1 (U.jJ (q126_0 d)),(0:Int),())=(q126_2 d)))))
def jqm:jR:=⟨[.val tDy],[.bool],false,fun _=>[],fun d=>(!U.jgp d.1&&decide (U.wO d.1=0),())⟩
def jpY:Prop:=∀(d:DyD×Unit),((!U.jgp d.1)=true->(U.jr d.1).length<=1000000)/\(!U.jgp d.1&&decide (U.wO d.1=0),())=(!U.jgp d.1&&decide (U.wO d.1=0),())
end Go.X
namespace Go.X
open Go.Proofs
theorem jgf:jd4:=by
 rintro⟨l,⟨⟩⟩ b c a;have b:l.length<=100000:=b;refine⟨fun h=> ?_,fun _=>⟨by simp only;omega,by simp⟩⟩;have:l=[]:=a h;rw[this]
theorem jeF:zg PR 82 jej:=jO jgf Tryz.func82 kcN koN
theorem jjz:jg5:=by
 rintro⟨l,⟨⟩⟩ b c a;have b:l.length<=100000:=b;refine⟨fun h=> ?_,fun _=>⟨by simp only;omega,by simp⟩⟩;have:l=[]:=a h;rw[this]
theorem jhy:zg PR 116 jhf:=jO jjz Tryz.func116 kcN koN
theorem je3:jcU:=by
 rintro⟨l,⟨⟩⟩ b c a;have b:l.length<=100000:=b;refine⟨fun h=> ?_,fun _=>⟨by simp only;omega,by simp⟩⟩;have:l=[]:=a h;rw[this]
theorem jdk:zg PR 113 jc3:=jO je3 Tryz.func113 kcN koN
theorem jkI:jik:=by
 rintro⟨l,⟨⟩⟩ b c a;have b:l.length<=100000:=b;refine⟨fun h=> ?_,fun _=>⟨by simp only;omega,by simp⟩⟩;have:l=[]:=a h;rw[this]
theorem jiX:zg PR 114 jiz:=jO jkI Tryz.func114 kcN koN
theorem jgh:jd6:=by
 rintro⟨l,⟨⟩⟩ b c a;have b:l.length<=100000:=b;refine⟨fun h=>⟨?_,rfl⟩,fun _=>⟨by simp only;omega,by simp,rfl⟩⟩;have:l=[]:=a h;rw[this]
theorem jeH:wC PR 115 jeq:=jgN jgh Tryz.func115 kcN koN
theorem joe {α:Type} [Inhabited α] (l:List α) (i:Nat):l.set i (nth l i)=l:=by
 by_cases h:i<l.length
 .refine L.ext_nth (by simp) fun j a=> ?_
  rw[L.nth_set h]
  split
  .rename_i e;rw[e]
  .rfl
 .exact List.set_eq_of_length_le (by omega)
theorem jrs:jnG:=by
 unfold jnG q123_0 q123_2 q123_1;rintro⟨d,m,⟨⟩⟩ j;obtain⟨⟨q,s,c⟩,r,o,k,f⟩:U.wn d:=j;refine⟨by show(U.jr d).length<=100000;omega,by show(U.zq (U.jg d)).length<=100000;omega,by show(U.jk (U.jg d)).length<=100000;omega,fun _=>⟨⟨0,⟨⟨rfl,trivial⟩,rfl,trivial⟩,jD0 _⟩,fun x t=>⟨fun h=> ?_,fun h=> ?_⟩⟩⟩
 .have h:(x:Int)<((U.jk (U.jg d)).length:Int):=of_decide_eq_true h;have b:=c _ (L.mem_nth (l:=U.jk (U.jg d)) (i:=x) (by omega));have x0:(0:Int)<=(x:Int):=jD9 x;have e:=joe (U.jk (U.jg d)) x;simp only[jDR];refine⟨x0,h,by have:=b.1;unfold U.lv at this;omega,by have:=b.2;unfold U.zN at this;omega,x0,h,x0,by rw[e];exact h,L.in64 (by omega) (by omega),x+1,⟨⟨by simp,trivial⟩,?_,trivial⟩,by omega,by omega⟩;rw[e];exact e
 .refine fun _=>⟨⟨0,⟨⟨rfl,trivial⟩,⟨rfl,trivial,rfl,trivial,rfl,rfl,rfl,rfl,trivial⟩,rfl,trivial⟩,jD0 _⟩,fun y u=>⟨fun a=> ?_,fun a=> ?_⟩⟩
  .have a:(y:Int)<((U.ju d).length:Int):=of_decide_eq_true a;have g:=f _ (L.mem_nth (l:=U.ju d) (i:=y) (by omega));have n:(0:Int)<=(y:Int):=jD9 y;have p:(List.take y (U.ju d)).length=y:=(by rw[jEj];omega);refine⟨n,a,?_,?_,L.in64 (by omega) (by omega),y+1,⟨⟨by simp,trivial⟩,⟨rfl,trivial,rfl,trivial,rfl,rfl,rfl,rfl,trivial⟩,?_,trivial⟩,by show y+1<=(U.ju d).length;omega,by show(U.ju d).length-(y+1)<(U.ju d).length-y;omega⟩
   .show(nth (U.ju d) (y:Int).toNat).length<=100000;rw[jDR];omega
   .show((List.take y (U.ju d)).length+1)*24<=140737488355328;omega
   .show List.take y (U.ju d)++[nth (U.ju d) (y:Int).toNat]=_;rw[jDR,L.take_succ (l:=U.ju d) (by omega)]
  .have a:¬(y:Int)<((U.ju d).length:Int):=of_decide_eq_false a;have e:List.take y (U.ju d)=U.ju d:=jEB (by omega);rw[e];rfl
theorem joL:zg PR 72 jn2:=kX jpF jrs Tryz.func72 (kcC jdk (kcC jiX (kcC jeF (kcC jhy kcN)))) (koC jeH koN)
theorem jjy:jg4:=by
 unfold jg4 q124_1 q124_0;rintro⟨⟨⟩,n,⟨⟩⟩ ⟨a,b⟩;have a:0<=n:=a;have b:n<=100000:=b;refine⟨fun h=> ?_,fun _=>⟨L.in64 (by simp) (by simp),L.in64 (by simp only;omega) (by simp only;omega),fun h=> ?_,fun _=>⟨rfl,rfl⟩⟩⟩
 .have h:n<0:=of_decide_eq_true h;omega
 .have h:0<n-(0-((0:Nat):Int)):=of_decide_eq_true h;refine⟨jEI _,jEI _,jEI _,h,?_,jEI _,jEI _,by rw[jEN];exact jD9 _,?_,rfl⟩
  .show(n-(0-((0:Nat):Int))).toNat*40<=_;omega
  .show(List.take 0 _,())=(U.jCT,());rw[List.take_zero];rfl
theorem jhx:wC PR 112 jhn:=jgN jjy Tryz.func112 kcN koN
theorem jgo {l:List (List ShD)} {i:Nat} (h:i<l.length):U.flatS l (i+1)=U.flatS l i++nth l i:=by
 unfold U.flatS;rw[L.take_succ h,List.flatten_append];simp
theorem je8 {l:List (List ShD)} (a:∀x∈l,x.length<=1000):∀i,i<=l.length->(U.flatS l i).length<=1000*i
 |0,_=>by unfold U.flatS;simp
 |i+1,hi=>by
  have:=je8 a i (by omega)
  have:=a _ (L.mem_nth (l:=l) (i:=i) (by omega))
  rw[jgo (by omega),jD7]
  omega
theorem jge:jd3:=by
 unfold jd3 q125_1 q125_0;rintro⟨l,⟨⟩⟩ f c _;have f:l.length<=100:=f;have c:∀x∈l,x.length<=1000:=c;refine⟨⟨0,⟨⟨rfl,rfl,trivial⟩,trivial⟩,jD0 _⟩,fun x a=>⟨fun h=> ?_,fun h=> ?_⟩⟩
 .have a:x<=l.length:=a;have h:(x:Int)<(l.length:Int):=of_decide_eq_true h;have x0:(0:Int)<=(x:Int):=jD9 x;have j:=c _ (L.mem_nth (l:=l) (i:=x) (by omega));have g:=je8 c x (by omega);simp only[jDR];refine⟨x0,h,fun _=>⟨L.in64 (by omega) (by omega),fun b=> ?_,fun _=>⟨L.in64 (by omega) (by omega),x+1,⟨⟨by simp,?_,trivial⟩,trivial⟩,by omega,by omega⟩⟩⟩
  .have b:=of_decide_eq_true b;omega
  .rw[jgo (by omega),jD7];omega
 .have a:x<=l.length:=a;have g:=je8 c x a;refine⟨⟨jD9 _,by show((U.flatS l x).length:Int)<=100000;omega⟩,fun _=>⟨⟨0,⟨⟨rfl,trivial,trivial⟩,rfl,trivial⟩,jD0 _⟩,fun y d=>⟨fun b=> ?_,fun b=> ?_⟩⟩⟩
  .have d:y<=l.length:=d;have b:(y:Int)<(l.length:Int):=of_decide_eq_true b;have k:(0:Int)<=(y:Int):=jD9 y;have j:=c _ (L.mem_nth (l:=l) (i:=y) (by omega));have m:=je8 c y (by omega);simp only[jDR];refine⟨k,b,by omega,L.in64 (by omega) (by omega),y+1,⟨⟨by simp,trivial,trivial⟩,(jgo (by omega)).symm,trivial⟩,by omega,by omega⟩
  .have d:y<=l.length:=d;have b:¬(y:Int)<(l.length:Int):=of_decide_eq_false b;have e:y=l.length:=(by omega);subst e;rfl
theorem jeE:zg PR 71 jei:=kX jft jge Tryz.func71 kcN (koC jhx koN)
theorem jyL {d:DyD} (h:U.joQ d):U.wn d:=by
 have b:=jL h.1;have a:=zc h.2.2;refine⟨⟨by have:=b.2.2.1;omega,by have:=b.2.2.2.1;omega,fun p e=> ?_⟩,by have:=a.2.1.2;omega,by have:=a.1;omega,by have:=a.2.2.2.2.1;omega,fun r f=> ?_⟩
 .have:=b.2.2.2.2.1 p e;unfold U.yp at this;rw[jDT] at this;have c:=of_decide_eq_true this.1;have:=b.2.1;exact⟨by omega,by omega⟩
 .have:=a.2.2.2.2.2.1 r f;unfold U.qp at this;rw[jDT] at this;have c:=of_decide_eq_true this.1;have:=a.2.1.2;omega
theorem jod {d:DyD} (h:U.jt d=0):(U.jh d).length<=30:=(zc (zx h).1.2.2).2.2.2.2.1
theorem jw5:jtn:=by
 unfold jtn q126_3 q126_2 q126_1 q126_0;rintro⟨d,m,⟨⟩⟩ l r _;have l:(U.jh d).length<=100000:=l;have r:m.length<=100000:=r;have v:∀x:Nat,x<2->nth [d,U.jA d m] x=if x=0 then d else U.jA d m:=fun x q=>by
  match x,q with
  |0,_=>rfl
  |1,_=>rfl
 refine⟨⟨0,⟨⟨rfl,trivial⟩,trivial⟩,by omega,fun h=>by omega,fun h=>by omega⟩,fun x q=>⟨fun h=> ?_,fun h=> ?_⟩⟩
 .have h:(x:Int)<2:=of_decide_eq_true h;have x0:(0:Int)<=(x:Int):=jD9 x;obtain⟨t,b,f⟩:=q;have b:0<x->U.jt d=0:=b;have f:1<x->U.jt (U.jA d m)=0:=f;rw[jDR];have o:=v x (by omega);refine⟨x0,h,?_,fun a=> ?_,fun a=>⟨L.in64 (by omega) (by omega),x+1,⟨⟨by simp,trivial⟩,trivial⟩,⟨by omega,fun _=> ?_,fun p=> ?_⟩,by omega⟩⟩
  .show(U.jh (nth [d,U.jA d m] x)).length<=100000;rw[o]
   split
   .exact l
   .exact r
  .have a:U.jt (nth [d,U.jA d m] x)≠0:=of_decide_eq_true a;show(U.jwp,U.jt (nth [d,U.jA d m] x),())=(U.jf2 d m,U.jkD d m,());rw[o] at a⊢;have e:U.jkD d m=U.jt (if x=0 then d else U.jA d m):=by
    unfold U.jkD;by_cases g:x=0
    .rw[if_pos g] at a⊢;rw[if_pos a]
    .rw[if_neg g] at a⊢;rw[if_neg (fun k=>k (b (by omega))),if_pos a]
   have i:U.jf2 d m=U.jwp:=by
    unfold U.jf2;rw[if_neg (by rw[e];exact a)]
   rw[e,i]
  .by_cases g:x=0
   .have a:¬U.jt (nth [d,U.jA d m] x)≠0:=of_decide_eq_false a;rw[o,if_pos g] at a;exact Decidable.not_not.1 a
   .exact b (by omega)
  .have a:¬U.jt (nth [d,U.jA d m] x)≠0:=of_decide_eq_false a;rw[o,if_neg (by omega)] at a;exact Decidable.not_not.1 a
 .have h:¬(x:Int)<2:=of_decide_eq_false h;obtain⟨t,b,f⟩:=q;have c1:U.jt d=0:=b (by omega);have c2:U.jt (U.jA d m)=0:=f (by omega);have z:=jod c1;have A:m.length<=30:=jod c2;have w:U.flatS [d.2.2.2.2.2.1,m] [d.2.2.2.2.2.1,m].length=U.jh d++m:=jBf (U.jh d) m;have u:U.jCV d m=U.jJ (U.jh d++m):=congrArg U.jJ (jBf (U.jh d) m);have j:(U.jJ (U.jh d++m)).length<=(U.jh d++m).length:=L.nodup_len _ _ (y8 _) fun s l=>vC.1 l
  rw[jD7] at j;have c:U.jkD d m=if 30<(U.jCV d m).length then 2 else if U.jpS (U.jCV d m)=true then 51 else 0:=by
   unfold U.jkD;rw[if_neg (fun k=>k c1),if_neg (fun k=>k c2)]
  rw[w];rw[u] at c;refine⟨by show(2:Nat)<=100;omega,fun y n=> ?_,by rw[jD7];omega,fun _=>⟨fun a=> ?_,fun a=>⟨by omega,fun p=> ?_,fun p=>⟨jyL (zx c1).1,?_⟩⟩⟩⟩
  .rcases jDP.1 n with rfl|n
   .show(U.jh d).length<=1000;omega
   .rcases jDP.1 n with rfl|n
    .omega
    .cases n
  .have a:(30:Int)<((U.jJ (U.jh d++m)).length:Int):=of_decide_eq_true a;rw[if_pos (by omega)] at c;have i:U.jf2 d m=U.jwp:=by
    unfold U.jf2;rw[if_neg (by rw[c];omega)]
   rw[c,i];rfl
  .have a:¬(30:Int)<((U.jJ (U.jh d++m)).length:Int):=of_decide_eq_false a;rw[if_neg (by omega),if_pos p] at c;have i:U.jf2 d m=U.jwp:=by
    unfold U.jf2;rw[if_neg (by rw[c];omega)]
   rw[c,i];rfl
  .have a:¬(30:Int)<((U.jJ (U.jh d++m)).length:Int):=of_decide_eq_false a;rw[if_neg (by omega),if_neg (by rw[p];simp)] at c;have i:U.jf2 d m=U.jA d (U.jJ (U.jh d++m)):=by
    unfold U.jf2;rw[if_pos c,u]
   rw[c,i]
theorem jtX:zg PR 31 jtG:=kX juS jw5 Tryz.func31 (kcC jlm (kcC jeE (kcC jlk (kcC joL kcN)))) (koC gQ koN)
theorem jud:jpY:=by
 rintro⟨d,⟨⟩⟩;refine⟨fun h=> ?_,rfl⟩;have h:(!U.jgp d)=true:=h;rw[jEe] at h;have:=(jsT (d:=d) h).2.2.1;show(U.jr d).length<=1000000;omega
theorem jq3:zg PR 34 jqm:=jO jud Tryz.func34 (kcC jwf (kcC ji2 kcN)) koN
end Go.X
namespace Go.X
open Go.Proofs
instance (a b:BkD):Decidable (a=b):=tBk.decEq a b
def jhk:jR:=⟨[.val tPe,.val tPe],[.bool],false,fun _=>[],fun d=>(U.jfa d.1 d.2.1,())⟩
def jhT:Ann:=fun r=>match r with
 |4=>some fun σ=>{X:=Nat,sl:=fun i=>[(5,.dat .int (i:Int))],ob:=fun _=>[],inv:=fun i=>i<=(U.lv (gb tPe σ 2)).length/\∀j:Nat,j<i->nth (U.lv (gb tPe σ 2)) j=nth (U.lv (gb tPe σ 3)) j,mu:=fun i=>(U.lv (gb tPe σ 2)).length-i}
 |9=>some fun σ=>{X:=Nat,sl:=fun i=>[(6,.dat .int (i:Int))],ob:=fun _=>[],inv:=fun i=>i<=(U.zN (gb tPe σ 2)).length/\∀j:Nat,j<i->nth (U.zN (gb tPe σ 2)) j=nth (U.zN (gb tPe σ 3)) j,mu:=fun i=>(U.zN (gb tPe σ 2)).length-i}
 |_=>none
abbrev q128_0 (d:PeD×PeD×Unit):=(decide (d.1.2.1≠d.2.1.2.1)||decide (d.1.2.2.1≠d.2.1.2.2.1)|| !decide (d.1.2.2.2.2.1=d.2.1.2.2.2.2.1)||decide (d.1.2.2.2.2.2.1≠d.2.1.2.2.2.2.2.1)||decide ((d.1.1.length:Int)≠(d.2.1.1.length:Int))||decide ((d.1.2.2.2.1.length:Int)≠(d.2.1.2.2.2.1.length:Int)))
abbrev q128_1 (d:PeD×PeD×Unit):=(!(decide (d.1.2.1≠d.2.1.2.1)||decide (d.1.2.2.1≠d.2.1.2.2.1)|| !decide (d.1.2.2.2.2.1=d.2.1.2.2.2.2.1)||decide (d.1.2.2.2.2.2.1≠d.2.1.2.2.2.2.2.1)||decide ((d.1.1.length:Int)≠(d.2.1.1.length:Int))))
abbrev q128_2 (d:PeD×PeD×Unit):=(!(decide (d.1.2.1≠d.2.1.2.1)||decide (d.1.2.2.1≠d.2.1.2.2.1)|| !decide (d.1.2.2.2.2.1=d.2.1.2.2.2.2.1)||decide (d.1.2.2.2.2.2.1≠d.2.1.2.2.2.2.2.1)))
def jha:Prop:=∀(d:PeD×PeD×Unit),((q128_2 d)=true->d.1.1.length<4611686018427387904)->((q128_2 d)=true->d.2.1.1.length<4611686018427387904)->((q128_1 d)=true->d.1.2.2.2.1.length<4611686018427387904)->((q128_1 d)=true->d.2.1.2.2.2.1.length<4611686018427387904)->((q128_0 d)=true->(false,())=(U.jfa d.1 d.2.1,()))/\((q128_0 d)=false->(∃(x:Nat),((0=(x:Int)/\True)/\True)/\x<=(U.lv d.1).length/\∀(j:Nat),j<x->nth (U.lv d.1) j=nth (U.lv d.2.1) j)/\∀(x:Nat),(x<=(U.lv d.1).length/\∀(j:Nat),j<x->nth (U.lv d.1) j=nth (U.lv d.2.1) j)->d.1.1.length<4611686018427387904->(decide ((x:Int)<(d.1.1.length:Int))=true->0<=(x:Int)/\(x:Int)<(d.1.1.length:Int)/\0<=(x:Int)/\(x:Int)<(d.2.1.1.length:Int)/\(decide (nth d.1.1 (x:Int).toNat≠nth d.2.1.1 (x:Int).toNat)=true->(false,())=(U.jfa d.1 d.2.1,()))/\(decide (nth d.1.1 (x:Int).toNat≠nth d.2.1.1 (x:Int).toNat)=false->jD ((x:Int)+1)/\∃(a:Nat),(((x:Int)+1=(a:Int)/\True)/\True)/\(a<=(U.lv d.1).length/\∀(j:Nat),j<a->nth (U.lv d.1) j=nth (U.lv d.2.1) j)/\(U.lv d.1).length-a<(U.lv d.1).length-x))/\(decide ((x:Int)<(d.1.1.length:Int))=false->(∃(x:Nat),((0=(x:Int)/\True)/\True)/\x<=(U.zN d.1).length/\∀(j:Nat),j<x->nth (U.zN d.1) j=nth (U.zN d.2.1) j)/\∀(x:Nat),(x<=(U.zN d.1).length/\∀(j:Nat),j<x->nth (U.zN d.1) j=nth (U.zN d.2.1) j)->d.1.2.2.2.1.length<4611686018427387904->(decide ((x:Int)<(d.1.2.2.2.1.length:Int))=true->0<=(x:Int)/\(x:Int)<(d.1.2.2.2.1.length:Int)/\0<=(x:Int)/\(x:Int)<(d.2.1.2.2.2.1.length:Int)/\(decide (nth d.1.2.2.2.1 (x:Int).toNat≠nth d.2.1.2.2.2.1 (x:Int).toNat)=true->(false,())=(U.jfa d.1 d.2.1,()))/\(decide (nth d.1.2.2.2.1 (x:Int).toNat≠nth d.2.1.2.2.2.1 (x:Int).toNat)=false->jD ((x:Int)+1)/\∃(a:Nat),(((x:Int)+1=(a:Int)/\True)/\True)/\(a<=(U.zN d.1).length/\∀(j:Nat),j<a->nth (U.zN d.1) j=nth (U.zN d.2.1) j)/\(U.zN d.1).length-a<(U.zN d.1).length-x))/\(decide ((x:Int)<(d.1.2.2.2.1.length:Int))=false->(true,())=(U.jfa d.1 d.2.1,()))))
def jtI:jR:=⟨[.val tDy,.val tDy],[.bool],false,fun _=>[],fun d=>(U.jad d.1 d.2.1,())⟩
def juT:Ann:=fun r=>match r with
 |4=>some fun σ=>{X:=Nat,sl:=fun i=>[(5,.dat .int (i:Int))],ob:=fun _=>[],inv:=fun i=>i<=(U.jk (U.jg (gb tDy σ 2))).length/\∀j:Nat,j<i->nth (U.jk (U.jg (gb tDy σ 2))) j=nth (U.jk (U.jg (gb tDy σ 3))) j,mu:=fun i=>(U.jk (U.jg (gb tDy σ 2))).length-i}
 |9=>some fun σ=>{X:=Nat,sl:=fun i=>[(6,.dat .int (i:Int))],ob:=fun _=>[],inv:=fun i=>i<=(U.zq (U.jg (gb tDy σ 2))).length/\∀j:Nat,j<i->nth (U.zq (U.jg (gb tDy σ 2))) j=nth (U.zq (U.jg (gb tDy σ 3))) j,mu:=fun i=>(U.zq (U.jg (gb tDy σ 2))).length-i}
 |14=>some fun σ=>{X:=Nat,sl:=fun i=>[(7,.dat .int (i:Int))],ob:=fun _=>[],inv:=fun i=>i<=(U.ju (gb tDy σ 2)).length/\∀j:Nat,j<i->nth (U.ju (gb tDy σ 2)) j=nth (U.ju (gb tDy σ 3)) j,mu:=fun i=>(U.ju (gb tDy σ 2)).length-i}
 |19=>some fun σ=>{X:=Nat,sl:=fun i=>[(8,.dat .int (i:Int))],ob:=fun _=>[],inv:=fun i=>i<=(nth (U.ju (gb tDy σ 2)) (gd .int σ 7).toNat).length/\∀j:Nat,j<i->nth (nth (U.ju (gb tDy σ 2)) (gd .int σ 7).toNat) j=nth (nth (U.ju (gb tDy σ 3)) (gd .int σ 7).toNat) j,mu:=fun i=>(nth (U.ju (gb tDy σ 2)) (gd .int σ 7).toNat).length-i}
 |24=>some fun σ=>{X:=Nat,sl:=fun i=>[(9,.dat .int (i:Int))],ob:=fun _=>[],inv:=fun i=>i<=(U.jr (gb tDy σ 2)).length/\∀j:Nat,j<i->nth (U.jr (gb tDy σ 2)) j=nth (U.jr (gb tDy σ 3)) j,mu:=fun i=>(U.jr (gb tDy σ 2)).length-i}
 |29=>some fun σ=>{X:=Nat,sl:=fun i=>[(10,.dat .int (i:Int))],ob:=fun _=>[],inv:=fun i=>i<=(U.jh (gb tDy σ 2)).length/\∀j:Nat,j<i->nth (U.jh (gb tDy σ 2)) j=nth (U.jh (gb tDy σ 3)) j,mu:=fun i=>(U.jh (gb tDy σ 2)).length-i}
 |_=>none
abbrev q129_2 (d:DyD×DyD×Unit):=((d.1.1.2.1.length:Int)≠(d.2.1.1.2.1.length:Int))
abbrev q129_3 (d:DyD×DyD×Unit):=((d.1.1.2.2.1.length:Int)≠(d.2.1.1.2.2.1.length:Int))
abbrev q129_4 (x:Nat)(a:Nat):=(((x:Int)+1=(a:Int)/\True)/\True)
abbrev q129_5 (d:DyD×DyD×Unit)(x:Nat):=(nth (U.ju d.1) (x:Int).toNat)
abbrev q129_7 (d:DyD×DyD×Unit)(x:Nat):=(↑(nth d.1.2.1 (x:Int).toNat).length:Int)
abbrev q129_8 (x:Nat):=((0=(x:Int)/\True)/\True)
abbrev q129_9 (d:DyD×DyD×Unit):=((d.1.2.1.length:Int)≠(d.2.1.2.1.length:Int))
abbrev q129_10 (d:DyD×DyD×Unit)(x:Nat)(a:Nat):=(!decide (nth (nth d.1.2.1 (x:Int).toNat) (a:Int).toNat=nth (nth d.2.1.2.1 (x:Int).toNat) (a:Int).toNat))
abbrev q129_11 (d:DyD×DyD×Unit):=(U.jad d.1 d.2.1,())
abbrev q129_12 (d:DyD×DyD×Unit):=(d.1.1.1≠d.2.1.1.1)
abbrev q129_0 (d:DyD×DyD×Unit):=(decide (q129_2 d)||decide (q129_12 d)||decide (q129_3 d)||decide (q129_9 d)||decide ((d.1.2.2.1.length:Int)≠(d.2.1.2.2.1.length:Int))||decide (d.1.2.2.2.1≠d.2.1.2.2.2.1)||decide (d.1.2.2.2.2.1≠d.2.1.2.2.2.2.1)||decide ((d.1.2.2.2.2.2.1.length:Int)≠(d.2.1.2.2.2.2.2.1.length:Int)))
abbrev q129_1 (d:DyD×DyD×Unit):=(!(decide (q129_2 d)||decide (q129_12 d)||decide (q129_3 d)||decide (q129_9 d)||decide ((d.1.2.2.1.length:Int)≠(d.2.1.2.2.1.length:Int))||decide (d.1.2.2.2.1≠d.2.1.2.2.2.1)||decide (d.1.2.2.2.2.1≠d.2.1.2.2.2.2.1)))
abbrev q129_6 (d:DyD×DyD×Unit):=(!(decide (q129_2 d)||decide (q129_12 d)||decide (q129_3 d)||decide (q129_9 d)))
abbrev q129_13 (d:DyD×DyD×Unit):=(U.zq (U.jg d.1))
abbrev q129_14 (d:DyD×DyD×Unit)(x:Nat):=(!decide (nth d.1.2.2.2.2.2.1 (x:Int).toNat=nth d.2.1.2.2.2.2.2.1 (x:Int).toNat))
abbrev q129_15 (d:DyD×DyD×Unit):=(U.jk (U.jg d.1))
abbrev q129_16 (d:DyD×DyD×Unit)(x:Nat):=(↑(nth d.2.1.2.1 (x:Int).toNat).length:Int)
def jtq:Prop:=∀(d:DyD×DyD×Unit),d.1.1.2.1.length<4611686018427387904->d.2.1.1.2.1.length<4611686018427387904->((!(decide (q129_2 d)||decide (q129_12 d)))=true->d.1.1.2.2.1.length<4611686018427387904)->((!(decide (q129_2 d)||decide (q129_12 d)))=true->d.2.1.1.2.2.1.length<4611686018427387904)->((!(decide (q129_2 d)||decide (q129_12 d)||decide (q129_3 d)))=true->d.1.2.1.length<4611686018427387904)->((!(decide (q129_2 d)||decide (q129_12 d)||decide (q129_3 d)))=true->d.2.1.2.1.length<4611686018427387904)->((q129_6 d)=true->d.1.2.2.1.length<4611686018427387904)->((q129_6 d)=true->d.2.1.2.2.1.length<4611686018427387904)->((q129_1 d)=true->d.1.2.2.2.2.2.1.length<4611686018427387904)->((q129_1 d)=true->d.2.1.2.2.2.2.2.1.length<4611686018427387904)->((q129_0 d)=true->(false,())=(q129_11 d))/\((q129_0 d)=false->(∃(x:Nat),(q129_8 x)/\x<=(q129_15 d).length/\∀(j:Nat),j<x->nth (q129_15 d) j=nth (U.jk (U.jg d.2.1)) j)/\∀(x:Nat),(x<=(q129_15 d).length/\∀(j:Nat),j<x->nth (q129_15 d) j=nth (U.jk (U.jg d.2.1)) j)->d.1.1.2.1.length<4611686018427387904->(decide ((x:Int)<(d.1.1.2.1.length:Int))=true->0<=(x:Int)/\(x:Int)<(d.1.1.2.1.length:Int)/\0<=(x:Int)/\(x:Int)<(d.2.1.1.2.1.length:Int)/\((!U.jfa (nth d.1.1.2.1 (x:Int).toNat) (nth d.2.1.1.2.1 (x:Int).toNat))=true->(false,())=(q129_11 d))/\((!U.jfa (nth d.1.1.2.1 (x:Int).toNat) (nth d.2.1.1.2.1 (x:Int).toNat))=false->jD ((x:Int)+1)/\∃(b:Nat),(q129_4 x b)/\(b<=(q129_15 d).length/\∀(j:Nat),j<b->nth (q129_15 d) j=nth (U.jk (U.jg d.2.1)) j)/\(q129_15 d).length-b<(q129_15 d).length-x))/\(decide ((x:Int)<(d.1.1.2.1.length:Int))=false->(∃(x:Nat),(q129_8 x)/\x<=(q129_13 d).length/\∀(j:Nat),j<x->nth (q129_13 d) j=nth (U.zq (U.jg d.2.1)) j)/\∀(x:Nat),(x<=(q129_13 d).length/\∀(j:Nat),j<x->nth (q129_13 d) j=nth (U.zq (U.jg d.2.1)) j)->d.1.1.2.2.1.length<4611686018427387904->(decide ((x:Int)<(d.1.1.2.2.1.length:Int))=true->0<=(x:Int)/\(x:Int)<(d.1.1.2.2.1.length:Int)/\0<=(x:Int)/\(x:Int)<(d.2.1.1.2.2.1.length:Int)/\((!decide (nth d.1.1.2.2.1 (x:Int).toNat=nth d.2.1.1.2.2.1 (x:Int).toNat))=true->(false,())=(q129_11 d))/\((!decide (nth d.1.1.2.2.1 (x:Int).toNat=nth d.2.1.1.2.2.1 (x:Int).toNat))=false->jD ((x:Int)+1)/\∃(b:Nat),(q129_4 x b)/\(b<=(q129_13 d).length/\∀(j:Nat),j<b->nth (q129_13 d) j=nth (U.zq (U.jg d.2.1)) j)/\(q129_13 d).length-b<(q129_13 d).length-x))/\(decide ((x:Int)<(d.1.1.2.2.1.length:Int))=false->(∃(x:Nat),(q129_8 x)/\x<=(U.ju d.1).length/\∀(j:Nat),j<x->nth (U.ju d.1) j=nth (U.ju d.2.1) j)/\∀(x:Nat),(x<=(U.ju d.1).length/\∀(j:Nat),j<x->nth (U.ju d.1) j=nth (U.ju d.2.1) j)->d.1.2.1.length<4611686018427387904->(decide ((x:Int)<(d.1.2.1.length:Int))=true->0<=(x:Int)/\(x:Int)<(d.1.2.1.length:Int)/\0<=(x:Int)/\(x:Int)<(d.2.1.2.1.length:Int)/\(decide ((q129_7 d x)≠(q129_16 d x))=true->(false,())=(q129_11 d))/\(decide ((q129_7 d x)≠(q129_16 d x))=false->(∃(a:Nat),((0=(a:Int)/\True)/\True)/\a<=(q129_5 d x).length/\∀(j:Nat),j<a->nth (q129_5 d x) j=nth (nth (U.ju d.2.1) (x:Int).toNat) j)/\∀(a:Nat),(a<=(q129_5 d x).length/\∀(j:Nat),j<a->nth (q129_5 d x) j=nth (nth (U.ju d.2.1) (x:Int).toNat) j)->0<=(x:Int)/\(x:Int)<(d.1.2.1.length:Int)/\((nth d.1.2.1 (x:Int).toNat).length<4611686018427387904->(decide ((a:Int)<(q129_7 d x))=true->0<=(x:Int)/\(x:Int)<(d.1.2.1.length:Int)/\0<=(a:Int)/\(a:Int)<(q129_7 d x)/\0<=(x:Int)/\(x:Int)<(d.2.1.2.1.length:Int)/\0<=(a:Int)/\(a:Int)<(q129_16 d x)/\((q129_10 d x a)=true->(false,())=(q129_11 d))/\((q129_10 d x a)=false->jD ((a:Int)+1)/\∃(b:Nat),(((a:Int)+1=(b:Int)/\True)/\True)/\(b<=(q129_5 d x).length/\∀(j:Nat),j<b->nth (q129_5 d x) j=nth (nth (U.ju d.2.1) (x:Int).toNat) j)/\(q129_5 d x).length-b<(q129_5 d x).length-a))/\(decide ((a:Int)<(q129_7 d x))=false->jD ((x:Int)+1)/\∃(b:Nat),(q129_4 x b)/\(b<=(U.ju d.1).length/\∀(j:Nat),j<b->nth (U.ju d.1) j=nth (U.ju d.2.1) j)/\(U.ju d.1).length-b<(U.ju d.1).length-x))))/\(decide ((x:Int)<(d.1.2.1.length:Int))=false->(∃(x:Nat),(q129_8 x)/\x<=(U.jr d.1).length/\∀(j:Nat),j<x->nth (U.jr d.1) j=nth (U.jr d.2.1) j)/\∀(x:Nat),(x<=(U.jr d.1).length/\∀(j:Nat),j<x->nth (U.jr d.1) j=nth (U.jr d.2.1) j)->d.1.2.2.1.length<4611686018427387904->(decide ((x:Int)<(d.1.2.2.1.length:Int))=true->0<=(x:Int)/\(x:Int)<(d.1.2.2.1.length:Int)/\0<=(x:Int)/\(x:Int)<(d.2.1.2.2.1.length:Int)/\((!decide (nth d.1.2.2.1 (x:Int).toNat=nth d.2.1.2.2.1 (x:Int).toNat))=true->(false,())=(q129_11 d))/\((!decide (nth d.1.2.2.1 (x:Int).toNat=nth d.2.1.2.2.1 (x:Int).toNat))=false->jD ((x:Int)+1)/\∃(b:Nat),(q129_4 x b)/\(b<=(U.jr d.1).length/\∀(j:Nat),j<b->nth (U.jr d.1) j=nth (U.jr d.2.1) j)/\(U.jr d.1).length-b<(U.jr d.1).length-x))/\(decide ((x:Int)<(d.1.2.2.1.length:Int))=false->(∃(x:Nat),(q129_8 x)/\x<=(U.jh d.1).length/\∀(j:Nat),j<x->nth (U.jh d.1) j=nth (U.jh d.2.1) j)/\∀(x:Nat),(x<=(U.jh d.1).length/\∀(j:Nat),j<x->nth (U.jh d.1) j=nth (U.jh d.2.1) j)->d.1.2.2.2.2.2.1.length<4611686018427387904->(decide ((x:Int)<(d.1.2.2.2.2.2.1.length:Int))=true->0<=(x:Int)/\(x:Int)<(d.1.2.2.2.2.2.1.length:Int)/\0<=(x:Int)/\(x:Int)<(d.2.1.2.2.2.2.2.1.length:Int)/\((q129_14 d x)=true->(false,())=(q129_11 d))/\((q129_14 d x)=false->jD ((x:Int)+1)/\∃(b:Nat),(q129_4 x b)/\(b<=(U.jh d.1).length/\∀(j:Nat),j<b->nth (U.jh d.1) j=nth (U.jh d.2.1) j)/\(U.jh d.1).length-b<(U.jh d.1).length-x))/\(decide ((x:Int)<(d.1.2.2.2.2.2.1.length:Int))=false->(true,())=(q129_11 d)))))))
def jeg:jR:=jwI [tDy,.int,.int]
def jfq:Ann:=fun r=>match r with
 |5=>some fun σ=>{X:=Nat,sl:=fun i=>[(8,.dat .int (i:Int)),(7,.own 7 tSh)],ob:=fun i=>[(7,some (.row 54 tSh false .yes (U.jb (U.jh (gb tDy σ 3)) (gd .int σ 2) i)))],inv:=fun i=>i<=(U.jh (gb tDy σ 3)).length,mu:=fun i=>(U.jh (gb tDy σ 3)).length-i}
 |_=>none
abbrev q130_2 (d:DyD×Int×Int×Unit)(x:Nat):=(d.1.1,d.1.2.1,d.1.2.2.1,d.1.2.2.2.1,d.1.2.2.2.2.1,U.jb (U.jh d.1) d.2.2.1 x,())
abbrev q130_3 (d:DyD×Int×Int×Unit)(x:Nat):=(U.jb (U.jh d.1) d.2.2.1 x)
abbrev q130_4 (d:DyD×Int×Int×Unit)(x:Nat):=(↑(q130_3 d x).length:Int)
abbrev q130_0 (d:DyD×Int×Int×Unit)(x:Nat):=(U.jb (U.jh d.1) d.2.2.1 x++[nth (q130_3 d x) (Int.toNat 0),nth (q130_3 d x) ((q130_4 d x)-1).toNat])
abbrev q130_1 (d:DyD×Int×Int×Unit)(x:Nat):=(d.1.1,d.1.2.1,d.1.2.2.1,d.1.2.2.2.1,d.1.2.2.2.2.1,U.jb (U.jh d.1) d.2.2.1 x++[nth (q130_3 d x) (Int.toNat 0),nth (q130_3 d x) ((q130_4 d x)-1).toNat],())
abbrev q130_5 (d:DyD×Int×Int×Unit):=(d.1.2.2.2.2.2.1.length:Int)
abbrev q130_6 (d:DyD×Int×Int×Unit)(x:Nat):=(decide (U.jt d.1≠0)||decide (U.jt (q130_1 d x)≠0)||decide (U.jt d.1≠0)||decide (U.jt (q130_1 d x)≠0)|| !decide (U.vI d.1=U.vI (q130_1 d x))|| !decide (U.vM d.1=U.vM (q130_1 d x)))
abbrev q130_7 (d:DyD×Int×Int×Unit)(x:Nat):=(decide (U.jt d.1≠0)||decide (U.jt (q130_2 d x)≠0)||decide (U.jt d.1≠0)||decide (U.jt (q130_2 d x)≠0)|| !decide (U.vI d.1=U.vI (q130_2 d x))|| !decide (U.vM d.1=U.vM (q130_2 d x)))
abbrev q130_8 (d:DyD×Int×Int×Unit)(x:Nat):=(List.take ((↑(q130_0 d x).length:Int).toNat-d.2.1.toNat) (List.drop d.2.1.toNat (q130_0 d x)))
abbrev q130_9 (d:DyD×Int×Int×Unit):=(!(!U.jgp d.1&&decide (U.wO d.1=0))||decide (10<(q130_5 d))||decide (d.2.1<0)||decide ((q130_5 d)<d.2.1)||decide (d.2.2.1<0)||decide (1000<d.2.2.1))
abbrev q130_10 (d:DyD×Int×Int×Unit)(x:Nat):=(List.take ((q130_4 d x).toNat-d.2.1.toNat) (List.drop d.2.1.toNat (q130_3 d x)))
abbrev q130_11:=(Ty.int.pair (Ty.int.pair Ty.unit))
abbrev q130_12 (d:DyD×Int×Int×Unit):=(d.2.1.toNat-Int.toNat 0)
abbrev q130_13:=(Ty.int.pair (Ty.int.pair (Ty.int.pair q130_11)))
def jd0:Prop:=∀(d:DyD×Int×Int×Unit),jm6 1048576 [(Ty.int.pair ((Ty.int.slice.pair (Ty.int.pair (Ty.int.pair (Ty.int.slice.pair (Ty.bool.pair (Ty.int.pair Ty.unit)))))).slice.pair ((Ty.int.pair (Ty.int.pair (Ty.bool.pair Ty.unit))).slice.pair Ty.unit))).pair (q130_11.slice.slice.pair (((Ty.int.pair q130_13).pair (Ty.int.pair q130_11)).slice.pair (Ty.int.pair (Ty.int.pair (q130_13.slice.pair Ty.unit))))),Ty.int,Ty.int] d->((!!(!U.jgp d.1&&decide (U.wO d.1=0)))=true->d.1.2.2.2.2.2.1.length<4611686018427387904)->((!(!(!U.jgp d.1&&decide (U.wO d.1=0))||decide (10<(q130_5 d))||decide (d.2.1<0)))=true->d.1.2.2.2.2.2.1.length<4611686018427387904)->((q130_9 d)=true->(true,())=(true,()))/\((q130_9 d)=false->(∃(x:Nat),((0=(x:Int)/\True/\True)/\U.jb (U.jh d.1) d.2.2.1 x=[]/\True)/\x<=(U.jh d.1).length)/\∀(x:Nat),x<=(U.jh d.1).length->d.1.2.2.2.2.2.1.length<4611686018427387904->(decide ((x:Int)<(q130_5 d))=true->jD ((x:Int)+d.2.2.1)/\(q130_5 d)≠0/\(0:Int)<=((x:Int)+d.2.2.1).tmod (q130_5 d)/\((x:Int)+d.2.2.1).tmod (q130_5 d)<(q130_5 d)/\((q130_3 d x).length+[nth d.1.2.2.2.2.2.1 (((x:Int)+d.2.2.1).tmod (q130_5 d)).toNat].length)*40<=140737488355328/\jD ((x:Int)+1)/\∃(a:Nat),(((x:Int)+1=(a:Int)/\True/\True)/\U.jb (U.jh d.1) d.2.2.1 x++[nth d.1.2.2.2.2.2.1 (((x:Int)+d.2.2.1).tmod (q130_5 d)).toNat]=U.jb (U.jh d.1) d.2.2.1 a/\True)/\a<=(U.jh d.1).length/\(U.jh d.1).length-a<(U.jh d.1).length-x)/\(decide ((x:Int)<(q130_5 d))=false->(q130_3 d x).length<4611686018427387904->(decide ((0:Int)<(q130_4 d x))=true->(0:Int)<=0/\(0:Int)<(q130_4 d x)/\jD ((q130_4 d x)-1)/\(0:Int)<=(q130_4 d x)-1/\(q130_4 d x)-1<(q130_4 d x)/\((q130_3 d x).length+[nth (q130_3 d x) (Int.toNat 0),nth (q130_3 d x) ((q130_4 d x)-1).toNat].length)*40<=140737488355328/\U.wn d.1/\(U.jh d.1).length<=100000/\(U.jh (q130_1 d x)).length<=100000/\(U.jh d.1).length<=100000/\(U.jh (q130_1 d x)).length<=100000/\((q130_6 d x)=true->(false,())=(true,()))/\((q130_6 d x)=false->(U.jh d.1).length<=100000/\0<=100000/\U.wn d.1/\(0:Int)<=0/\0<=d.2.1/\d.2.1<=(↑(q130_0 d x).length:Int)/\(0+(List.take (q130_12 d) (List.drop (Int.toNat 0) (q130_0 d x))).length)*40<=140737488355328/\0<=d.2.1/\d.2.1<=(↑(q130_0 d x).length:Int)/\(↑(q130_0 d x).length:Int)<=(↑(q130_0 d x).length:Int)/\(U.jh (d.1.1,d.1.2.1,d.1.2.2.1,d.1.2.2.2.1,d.1.2.2.2.2.1,[]++List.take (q130_12 d) (List.drop (Int.toNat 0) (q130_0 d x)),())).length<=100000/\(q130_8 d x).length<=100000/\(U.jh (d.1.1,d.1.2.1,d.1.2.2.1,d.1.2.2.2.1,d.1.2.2.2.2.1,[],())).length<=100000/\(q130_0 d x).length<=100000/\(decide (U.jkD d.1 []=0)&&decide (U.jkD (d.1.1,d.1.2.1,d.1.2.2.1,d.1.2.2.2.1,d.1.2.2.2.2.1,[]++List.take (q130_12 d) (List.drop (Int.toNat 0) (q130_0 d x)),()) (q130_8 d x)=0)&&decide (U.jkD (d.1.1,d.1.2.1,d.1.2.2.1,d.1.2.2.2.1,d.1.2.2.2.2.1,[],()) (q130_0 d x)=0)&&U.jad (U.jf2 d.1 []) (U.jf2 (d.1.1,d.1.2.1,d.1.2.2.1,d.1.2.2.2.1,d.1.2.2.2.2.1,[]++List.take (q130_12 d) (List.drop (Int.toNat 0) (q130_0 d x)),()) (q130_8 d x))&&U.jad (U.jf2 d.1 []) (U.jf2 (d.1.1,d.1.2.1,d.1.2.2.1,d.1.2.2.2.1,d.1.2.2.2.2.1,[],()) (q130_0 d x))&&true,())=(true,())))/\(decide ((0:Int)<(q130_4 d x))=false->U.wn d.1/\(U.jh d.1).length<=100000/\(U.jh (q130_2 d x)).length<=100000/\(U.jh d.1).length<=100000/\(U.jh (q130_2 d x)).length<=100000/\((q130_7 d x)=true->(false,())=(true,()))/\((q130_7 d x)=false->(U.jh d.1).length<=100000/\0<=100000/\U.wn d.1/\(0:Int)<=0/\0<=d.2.1/\d.2.1<=(q130_4 d x)/\(0+(List.take (q130_12 d) (List.drop (Int.toNat 0) (q130_3 d x))).length)*40<=140737488355328/\0<=d.2.1/\d.2.1<=(q130_4 d x)/\(q130_4 d x)<=(q130_4 d x)/\(U.jh (d.1.1,d.1.2.1,d.1.2.2.1,d.1.2.2.2.1,d.1.2.2.2.2.1,[]++List.take (q130_12 d) (List.drop (Int.toNat 0) (q130_3 d x)),())).length<=100000/\(q130_10 d x).length<=100000/\(U.jh (d.1.1,d.1.2.1,d.1.2.2.1,d.1.2.2.2.1,d.1.2.2.2.2.1,[],())).length<=100000/\(q130_3 d x).length<=100000/\(decide (U.jkD d.1 []=0)&&decide (U.jkD (d.1.1,d.1.2.1,d.1.2.2.1,d.1.2.2.2.1,d.1.2.2.2.2.1,[]++List.take (q130_12 d) (List.drop (Int.toNat 0) (q130_3 d x)),()) (q130_10 d x)=0)&&decide (U.jkD (d.1.1,d.1.2.1,d.1.2.2.1,d.1.2.2.2.1,d.1.2.2.2.2.1,[],()) (q130_3 d x)=0)&&U.jad (U.jf2 d.1 []) (U.jf2 (d.1.1,d.1.2.1,d.1.2.2.1,d.1.2.2.2.1,d.1.2.2.2.2.1,[]++List.take (q130_12 d) (List.drop (Int.toNat 0) (q130_3 d x)),()) (q130_10 d x))&&U.jad (U.jf2 d.1 []) (U.jf2 (d.1.1,d.1.2.1,d.1.2.2.1,d.1.2.2.2.1,d.1.2.2.2.2.1,[],()) (q130_3 d x))&&true,())=(true,())))))
end Go.X
namespace Go.X
open Go.Proofs
theorem jzj {a b:PeD} (h:a=b):U.jfa a b=true:= @decide_eq_true _ (tPe.decEq a b) h
theorem jrF {a b:PeD} (h:a≠b):U.jfa a b=false:= @decide_eq_false _ (tPe.decEq a b) h
theorem jBm {a b:PeD} (h:U.jfa a b=true):a=b:= @of_decide_eq_true _ (tPe.decEq a b) h
theorem jBn {a b:PeD} (h:U.jfa a b=false):a≠b:= @of_decide_eq_false _ (tPe.decEq a b) h
theorem jsU {a b:DyD} (h:a=b):U.jad a b=true:= @decide_eq_true _ (tDy.decEq a b) h
theorem jdC {a b:DyD} (h:a≠b):U.jad a b=false:= @decide_eq_false _ (tDy.decEq a b) h
theorem jmI {α:Type} [DecidableEq α] {a b:α} (h:decide (a≠b)=false):a=b:=Decidable.not_not.1 (of_decide_eq_false h)
theorem jeP {a b:Nat} (h:decide ((a:Int)≠(b:Int))=false):a=b:=by have:=jmI h;omega
theorem v7 {α:Type} [Inhabited α] {a b:List α} {x:Nat} (c:a.length=b.length) (h:∀j:Nat,j<x->nth a j=nth b j) (d:¬(x:Int)<(a.length:Int)):a=b:=
 L.ext_nth c fun i hi=>h i (by omega)
theorem jbr {α:Type} [Inhabited α] {a b:List α} {x:Nat} (h:nth a x≠nth b x):a≠b:=fun e=>h (by rw[e])
theorem jjF:jha:=by
 unfold jha q128_2 q128_1 q128_0;rintro⟨⟨c,o,p,d,q,r,⟨⟩⟩,⟨l,s,t,m,u,v,⟨⟩⟩,⟨⟩⟩ _ _ _ _;refine⟨fun h=> ?_,fun h=> ?_⟩
 .show(false,())=(U.jfa (c,o,p,d,q,r,()) (l,s,t,m,u,v,()),());rw[jrF];intro e;cases e;simp at h
 .simp only[jEg] at h;obtain⟨⟨⟨⟨⟨J,K⟩,M⟩,N⟩,O⟩,P⟩:=h;have D:o=s:=jmI J;have E:p=t:=jmI K;have F:q=u:=(by simpa using M);have G:r=v:=jmI N;have H:c.length=l.length:=jeP O;have I:d.length=m.length:=jeP P;subst D E F G;refine⟨⟨0,⟨⟨rfl,trivial⟩,trivial⟩,jD0 _,fun j n=>by omega⟩,fun x ⟨Q,f⟩ w=>⟨fun g=> ?_,fun g=>⟨⟨0,⟨⟨rfl,trivial⟩,trivial⟩,jD0 _,fun j n=>by omega⟩,fun y ⟨R,i⟩ z=>⟨fun k=> ?_,fun k=> ?_⟩⟩⟩⟩
  .have g:(x:Int)<(c.length:Int):=of_decide_eq_true g;have w:c.length<4611686018427387904:=w;have f:∀j:Nat,j<x->nth c j=nth l j:=f;have x0:(0:Int)<=(x:Int):=jD9 x;simp only[jDR];refine⟨x0,g,x0,by omega,fun k=> ?_,fun k=>⟨L.in64 (by omega) (by omega),x+1,⟨⟨by simp,trivial⟩,trivial⟩,⟨by show x+1<=c.length;omega,fun j n=> ?_⟩,by show c.length-(x+1)<c.length-x;omega⟩⟩
   .rw[jrF];intro e;exact jbr (of_decide_eq_true k) (congrArg (·.1) e)
   .by_cases e:j=x
    .subst e;exact jmI k
    .exact f j (by omega)
  .have k:(y:Int)<(d.length:Int):=of_decide_eq_true k;have z:d.length<4611686018427387904:=z;have i:∀j:Nat,j<y->nth d j=nth m j:=i;have A:(0:Int)<=(y:Int):=jD9 y;simp only[jDR];refine⟨A,k,A,by omega,fun k=> ?_,fun k=>⟨L.in64 (by omega) (by omega),y+1,⟨⟨by simp,trivial⟩,trivial⟩,⟨by show y+1<=d.length;omega,fun j n=> ?_⟩,by show d.length-(y+1)<d.length-y;omega⟩⟩
   .rw[jrF];intro e;exact jbr (of_decide_eq_true k) (congrArg (·.2.2.2.1) e)
   .by_cases e:j=y
    .subst e;exact jmI k
    .exact i j (by omega)
  .have B:=v7 (a:=c) (b:=l) H f (of_decide_eq_false g);have C:=v7 (a:=d) (b:=m) I i (of_decide_eq_false k);subst B C;show(true,())=(U.jfa _ _,());rw[jzj rfl]
theorem jhD:zg PR 74 jhk:=kX jhT jjF Tryz.func74 kcN koN
theorem jw7:jtq:=by
 unfold jtq q129_16 q129_15 q129_14 q129_13 q129_6 q129_1 q129_0 q129_12 q129_11 q129_10 q129_9 q129_8 q129_7 q129_5 q129_4 q129_3 q129_2;rintro⟨⟨⟨K,d,f,⟨⟩⟩,c,m,M,N,n,⟨⟩⟩,⟨⟨Q,A,C,⟨⟩⟩,i,D,R,S,E,⟨⟩⟩,⟨⟩⟩ _ _ _ _ _ _ _ _ _ _;refine⟨fun h=> ?_,fun h=> ?_⟩
 .show(false,())=(U.jad ((K,d,f,()),c,m,M,N,n,()) ((Q,A,C,()),i,D,R,S,E,()),());rw[jdC];intro e;cases e;simp at h
 .simp only[jEg] at h;obtain⟨⟨⟨⟨⟨⟨⟨k1,k2⟩,k3⟩,k4⟩,k5⟩,k6⟩,k7⟩,k8⟩:=h;have h1:d.length=A.length:=jeP k1;have h2:K=Q:=jmI k2;have h3:f.length=C.length:=jeP k3;have h4:c.length=i.length:=jeP k4;have h5:m.length=D.length:=jeP k5;have h6:M=R:=jmI k6;have h7:N=S:=jmI k7;have h8:n.length=E.length:=jeP k8;subst h2 h6 h7;have P:∀{x:Nat},nth f x≠nth C x->(false,())=(U.jad ((K,d,f,()),c,m,M,N,n,()) ((K,A,C,()),i,D,M,N,E,()),()):=fun g=>by
   rw[jdC];intro e;exact jbr g (congrArg (·.1.2.2.1) e)
  refine⟨⟨0,⟨⟨rfl,trivial⟩,trivial⟩,jD0 _,fun j l=>by omega⟩,fun x ⟨hx,r⟩ W=>⟨fun g=> ?_,fun g=>⟨⟨0,⟨⟨rfl,trivial⟩,trivial⟩,jD0 _,fun j l=>by omega⟩,fun y ⟨hy,s⟩ X=>⟨fun k=> ?_,fun k=>
   ⟨⟨0,⟨⟨rfl,trivial⟩,trivial⟩,jD0 _,fun j l=>by omega⟩,fun z ⟨hz,t⟩ Y=>⟨fun B=> ?_,fun B=>⟨⟨0,⟨⟨rfl,trivial⟩,trivial⟩,jD0 _,fun j l=>by omega⟩,fun u ⟨hu,o⟩ T=>⟨fun G=> ?_,fun G=>
   ⟨⟨0,⟨⟨rfl,trivial⟩,trivial⟩,jD0 _,fun j l=>by omega⟩,fun v ⟨hv,p⟩ V=>⟨fun H=> ?_,fun H=> ?_⟩⟩⟩⟩⟩⟩⟩⟩⟩⟩
  .have g:(x:Int)<(d.length:Int):=of_decide_eq_true g;have W:d.length<4611686018427387904:=W;have r:∀j:Nat,j<x->nth d j=nth A j:=r;have x0:(0:Int)<=(x:Int):=jD9 x;simp only[jDR];refine⟨x0,g,x0,by omega,fun k=> ?_,fun k=>⟨L.in64 (by omega) (by omega),x+1,⟨⟨by simp,trivial⟩,trivial⟩,⟨by show x+1<=d.length;omega,fun j l=> ?_⟩,by show d.length-(x+1)<d.length-x;omega⟩⟩
   .rw[jdC];intro e;have k:(!U.jfa (nth d x) (nth A x))=true:=k;rw[jEe] at k;exact jbr (jBn k) (congrArg (·.1.2.1) e)
   .by_cases e:j=x
    .subst e;have k:(!U.jfa (nth d j) (nth A j))=false:=k;rw[jEq] at k;exact jBm k
    .exact r j (by omega)
  .have k:(y:Int)<(f.length:Int):=of_decide_eq_true k;have X:f.length<4611686018427387904:=X;have s:∀j:Nat,j<y->nth f j=nth C j:=s;have y0:(0:Int)<=(y:Int):=jD9 y;simp only[jDR];refine⟨y0,k,y0,by omega,fun k=> ?_,fun k=>⟨L.in64 (by omega) (by omega),y+1,⟨⟨by simp,trivial⟩,trivial⟩,⟨by show y+1<=f.length;omega,fun j l=> ?_⟩,by show f.length-(y+1)<f.length-y;omega⟩⟩
   .rw[jEe] at k;exact P (of_decide_eq_false k)
   .by_cases e:j=y
    .subst e;rw[jEq] at k;exact of_decide_eq_true k
    .exact s j (by omega)
  .have B:(z:Int)<(c.length:Int):=of_decide_eq_true B;have Y:c.length<4611686018427387904:=Y;have t:∀j:Nat,j<z->nth c j=nth i j:=t;have J:(0:Int)<=(z:Int):=jD9 z;simp only[jDR];refine⟨J,B,J,by omega,fun k=> ?_,fun k=>⟨⟨0,⟨⟨rfl,trivial⟩,trivial⟩,jD0 _,fun j l=>by omega⟩,fun w ⟨hw,q⟩=>⟨J,B,fun nw=>⟨fun I=> ?_,fun I=>⟨L.in64 (by omega) (by omega),z+1,⟨⟨by simp,trivial⟩,trivial⟩,⟨by show z+1<=c.length;omega,fun j l=> ?_⟩,by show c.length-(z+1)<c.length-z;omega⟩⟩⟩⟩⟩
   .have k:=of_decide_eq_true k;rw[jdC];intro e;refine jbr (a:=c) (b:=i) (x:=z) (fun F=>k ?_) (congrArg (·.2.1) e);rw[F]
   .have O:=jeP k;have nw:(nth c z).length<4611686018427387904:=nw;have I:(w:Int)<((nth c z).length:Int):=of_decide_eq_true I;have q:∀j:Nat,j<w->nth (nth c z) j=nth (nth i z) j:=q;have w0:(0:Int)<=(w:Int):=jD9 w;have O:(nth c z).length=(nth i z).length:=O;refine⟨J,B,w0,I,J,by omega,w0,by omega,fun k=> ?_,fun k=>⟨L.in64 (by omega) (by omega),w+1,⟨⟨by simp,trivial⟩,trivial⟩,⟨by show w+1<=(nth c z).length;omega,fun j l=> ?_⟩,by show(nth c z).length-(w+1)<(nth c z).length-w;omega⟩⟩
    .rw[jEe] at k;rw[jdC];intro e;refine jbr (a:=c) (b:=i) (x:=z) (fun F=>of_decide_eq_false k ?_) (congrArg (·.2.1) e);show nth (nth c z) w=nth (nth i z) w;rw[F]
    .by_cases e:j=w
     .subst e;rw[jEq] at k;exact of_decide_eq_true k
     .exact q j (by omega)
   .by_cases e:j=z
    .subst e;have O:(nth c j).length=(nth i j).length:=jeP k;exact v7 O q (of_decide_eq_false I)
    .exact t j (by omega)
  .have G:(u:Int)<(m.length:Int):=of_decide_eq_true G;have T:m.length<4611686018427387904:=T;have o:∀j:Nat,j<u->nth m j=nth D j:=o;have Z:(0:Int)<=(u:Int):=jD9 u;simp only[jDR];refine⟨Z,G,Z,by omega,fun k=> ?_,fun k=>⟨L.in64 (by omega) (by omega),u+1,⟨⟨by simp,trivial⟩,trivial⟩,⟨by show u+1<=m.length;omega,fun j l=> ?_⟩,by show m.length-(u+1)<m.length-u;omega⟩⟩
   .rw[jEe] at k;rw[jdC];intro e;exact jbr (of_decide_eq_false k) (congrArg (·.2.2.1) e)
   .by_cases e:j=u
    .subst e;rw[jEq] at k;exact of_decide_eq_true k
    .exact o j (by omega)
  .have H:(v:Int)<(n.length:Int):=of_decide_eq_true H;have V:n.length<4611686018427387904:=V;have p:∀j:Nat,j<v->nth n j=nth E j:=p;have v0:(0:Int)<=(v:Int):=jD9 v;simp only[jDR];refine⟨v0,H,v0,by omega,fun k=> ?_,fun k=>⟨L.in64 (by omega) (by omega),v+1,⟨⟨by simp,trivial⟩,trivial⟩,⟨by show v+1<=n.length;omega,fun j l=> ?_⟩,by show n.length-(v+1)<n.length-v;omega⟩⟩
   .rw[jEe] at k;rw[jdC];intro e;exact jbr (of_decide_eq_false k) (congrArg (·.2.2.2.2.2.1) e)
   .by_cases e:j=v
    .subst e;rw[jEq] at k;exact of_decide_eq_true k
    .exact p j (by omega)
  .have e1:=v7 (a:=d) (b:=A) h1 r (of_decide_eq_false g);have F:=v7 (a:=f) (b:=C) h3 s (of_decide_eq_false k);have e3:=v7 (a:=c) (b:=i) h4 t (of_decide_eq_false B);have e4:=v7 (a:=m) (b:=D) h5 o (of_decide_eq_false G);have e5:=v7 (a:=n) (b:=E) h8 p (of_decide_eq_false H);subst e1 F e3 e4 e5;show(true,())=(U.jad _ _,());rw[jsU rfl]
theorem jtY:zg PR 33 jtI:=kX juT jw7 Tryz.func33 (kcC jhD kcN) koN
end Go.X
namespace Go.X
open Go.Proofs
theorem jqa (l:List ShD) (t:Int) (i:Nat):U.jb l t (i+1)=U.jb l t i++[nth l (((i:Int)+t).tmod (l.length:Int)).toNat]:=by
 unfold U.jb;rw[jEE,jEK];rfl
theorem jk6 (l:List ShD) (t:Int) (i:Nat):(U.jb l t i).length=i:=by unfold U.jb;simp
theorem jtt {l:List ShD} {t:Int} (f:0<=t) (s:ShD):s∈U.jb l t l.length↔s∈l:=by
 unfold U.jb;rw[jEn];constructor
 .rintro⟨k,hk,rfl⟩;have hk:=jEd.1 hk;have b:=Int.tmod_lt_of_pos ((k:Int)+t) (show(0:Int)<(l.length:Int) by omega);have d:=Int.tmod_nonneg (l.length:Int) (show(0:Int)<=(k:Int)+t by omega);exact L.mem_nth (by omega)
 .intro h;obtain⟨i,hi,rfl⟩:=L.mem_iff.1 h;have c:(0:Int)<(l.length:Int):=(by omega);have b:=Int.emod_lt_of_pos ((i:Int)-t) c;have a:=Int.emod_nonneg ((i:Int)-t) (show(l.length:Int)≠0 by omega);refine⟨(((i:Int)-t)%(l.length:Int)).toNat,jEd.2 (by omega),?_⟩;have e:((((((i:Int)-t)%(l.length:Int)).toNat:Nat):Int)+t).tmod (l.length:Int)=(i:Int):=by
   rw[Int.toNat_of_nonneg a,Int.tmod_eq_emod_of_nonneg (by omega),Int.emod_add_emod,Int.sub_add_cancel];exact Int.emod_eq_of_lt (by omega) (by omega)
  rw[e,jDR]
def jyG (d:DyD) (L:List ShD):Bool:=decide (U.jt d≠0)||decide (U.jt (U.jA d L)≠0)||decide (U.jt d≠0)||decide (U.jt (U.jA d L)≠0)|| !decide (U.vI d=U.vI (U.jA d L))|| !decide (U.vM d=U.vM (U.jA d L))
def jAQ (d:DyD) (A B L:List ShD):Bool:=decide (U.jkD d []=0)&&decide (U.jkD (U.jA d A) B=0)&&decide (U.jkD (U.jA d []) L=0)&&U.jad (U.jf2 d []) (U.jf2 (U.jA d A) B)&&U.jad (U.jf2 d []) (U.jf2 (U.jA d []) L)&&true
theorem jyF {d:DyD} {L:List ShD} (h:U.wO d=0) (b:∀s,s∈L↔s∈U.jh d) (c:L.length<=30):jyG d L=false:=by
 have a:U.wO (U.jA d L)=0:=jrR h c fun s e=>(b s).1 e
 unfold jyG;rw[jay,jay,h,a,jyl h a b,jyw h a b];simp
theorem jv5 {d:DyD} {A B L:List ShD} (h:U.wO d=0) (j:∀s,s∈L↔s∈U.jh d) (g:L.length<=30) (f:A++B=L):jAQ d A B L=true:=by
 have i:A.length+B.length<=30:=(by rw[<-jD7,f];exact g);have l:(U.jh d).length<=30:=(zc (jnf.1 h).1.2.2).2.2.2.2.1;have b:=jA1 (d:=d) (a:=U.jh d) (m:=[]) h (fun s=>by rw[jEk]) l (by simp);have c:=jA1 (d:=d) (a:=A) (m:=B) h (fun s=>by rw[f];exact j s) (by omega) (by omega);have e:=jA1 (d:=d) (a:=[]) (m:=L) h (fun s=>by rw[jEf];exact j s) (by simp) g;have k:U.jA d (U.jh d)=d:=rfl;rw[k] at b;unfold jAQ;rw[b.1,b.2,c.1,c.2,e.1,e.2,jsU rfl];rfl
theorem jga:jd0:=by
 unfold jd0 q130_13 q130_12 q130_11 q130_10 q130_9 q130_8 q130_7 q130_6 q130_5 q130_1 q130_0 q130_4 q130_3 q130_2;rintro⟨d,c,t,⟨⟩⟩ _ _ _;refine⟨fun _=>rfl,fun h=>⟨⟨0,⟨⟨rfl,trivial,trivial⟩,rfl,trivial⟩,jD0 _⟩,fun x v _=>⟨fun g=> ?_,fun g _=> ?_⟩⟩⟩
 all_goals
  have h:(!(!U.jgp d&&decide (U.wO d=0))||decide ((10:Int)<((U.jh d).length:Int))||decide (c<0)||decide (((U.jh d).length:Int)<c)||decide (t<0)||decide ((1000:Int)<t))=false:=h;simp only[jEg,jEq,jDT,jEe] at h;obtain⟨⟨⟨⟨⟨⟨C,i⟩,m⟩,n⟩,o⟩,p⟩,q⟩:=h;have i:=of_decide_eq_true i;have m:=of_decide_eq_false m;have n:=of_decide_eq_false n;have o:=of_decide_eq_false o;have p:=of_decide_eq_false p;have q:=of_decide_eq_false q;have v:x<=(U.jh d).length:=v;have x0:(0:Int)<=(x:Int):=jD9 x
 .have g:(x:Int)<((U.jh d).length:Int):=of_decide_eq_true g;have E:=Int.tmod_lt_of_pos ((x:Int)+t) (show(0:Int)<((U.jh d).length:Int) by omega);have F:=Int.tmod_nonneg ((U.jh d).length:Int) (show(0:Int)<=(x:Int)+t by omega);have z:=jk6 (U.jh d) t x;refine⟨L.in64 (by simp only;omega) (by simp only;omega),?_,F,E,?_,L.in64 (by omega) (by omega),x+1,⟨⟨by simp,trivial,trivial⟩,(jqa _ _ _).symm,trivial⟩,by show x+1<=(U.jh d).length;omega,by show(U.jh d).length-(x+1)<(U.jh d).length-x;omega⟩
  .show((U.jh d).length:Int)≠0;omega
  .show((U.jb (U.jh d) t x).length+1)*40<=_;omega
 .have g:¬(x:Int)<((U.jh d).length:Int):=of_decide_eq_false g;have ex:x=(U.jh d).length:=(by omega);subst ex;have z:=jk6 (U.jh d) t (U.jh d).length;have e:=jtt (l:=U.jh d) (t:=t) (by omega);have f:=jsT C;have key:∀L:List ShD,(∀s,s∈L↔s∈U.jh d)->L.length<=12->c<=(L.length:Int)->
   U.wn d/\(U.jh d).length<=100000/\(U.jh (U.jA d L)).length<=100000/\(U.jh d).length<=100000/\(U.jh (U.jA d L)).length<=100000/\(jyG d L=true->(false,())=(true,()))/\(jyG d L=false->
    (U.jh d).length<=100000/\(0:Nat)<=100000/\U.wn d/\(0:Int)<=0/\0<=c/\c<=(L.length:Int)/\(0+(List.take (c.toNat-Int.toNat 0) (List.drop (Int.toNat 0) L)).length)*40<=140737488355328/\0<=c/\c<=(L.length:Int)/\(L.length:Int)<=(L.length:Int)/\
    (U.jh (U.jA d ([]++List.take (c.toNat-Int.toNat 0) (List.drop (Int.toNat 0) L)))).length<=100000/\(List.take ((L.length:Int).toNat-c.toNat) (List.drop c.toNat L)).length<=100000/\(U.jh (U.jA d [])).length<=100000/\L.length<=100000/\
    (jAQ d ([]++List.take (c.toNat-Int.toNat 0) (List.drop (Int.toNat 0) L)) (List.take ((L.length:Int).toNat-c.toNat) (List.drop c.toNat L)) L,())=(true,())):=by
   intro L r G u;have w:([]:List ShD)++List.take (c.toNat-Int.toNat 0) (List.drop (Int.toNat 0) L)=L.take c.toNat:=rfl;have j:List.take ((L.length:Int).toNat-c.toNat) (List.drop c.toNat L)=L.drop c.toNat:=jEB (by rw[jET];omega);have H:(L.take c.toNat).length<=12:=(by rw[jEj];omega);have I:(L.drop c.toNat).length<=12:=(by rw[jET];omega);have y:=jv5 (A:=L.take c.toNat) (B:=L.drop c.toNat) i r (by omega) (jEW _ _);have a:(U.jh (U.jA d L)).length<=100000:=(by show L.length<=100000;omega);have b:(U.jh d).length<=100000:=(by omega);rw[w,j];refine⟨f,b,a,b,a,fun k=> ?_,fun _=>⟨b,by omega,f,by omega,by omega,u,?_,by omega,u,by omega,by show(L.take c.toNat).length<=100000;omega,by omega,by show 0<=100000;omega,by omega,by rw[y]⟩⟩
   .rw[jyF i r (by omega)] at k;cases k
   .show(0+(L.take c.toNat).length)*40<=_;omega
  refine⟨fun k=> ?_,fun k=> ?_⟩
  .have k:(0:Int)<((U.jb (U.jh d) t (U.jh d).length).length:Int):=of_decide_eq_true k;have D:(0:Int)<=((U.jb (U.jh d) t (U.jh d).length).length:Int)-1:=(by omega);refine⟨jEI _,k,L.in64 (by show _<=((U.jb (U.jh d) t (U.jh d).length).length:Int)-1;omega) (by show((U.jb (U.jh d) t (U.jh d).length).length:Int)-1<=_;omega),D,by show((U.jb (U.jh d) t (U.jh d).length).length:Int)-1<((U.jb (U.jh d) t (U.jh d).length).length:Int);omega,by show((U.jb (U.jh d) t (U.jh d).length).length+2)*40<=_;omega,?_⟩;have j:(U.jb (U.jh d) t (U.jh d).length++[nth (U.jb (U.jh d) t (U.jh d).length) (Int.toNat 0),nth (U.jb (U.jh d) t (U.jh d).length) (((U.jb (U.jh d) t (U.jh d).length).length:Int)-1).toNat]).length=(U.jb (U.jh d) t (U.jh d).length).length+2:=(by rw[jD7];rfl);refine key (U.jb (U.jh d) t (U.jh d).length++[nth (U.jb (U.jh d) t (U.jh d).length) (Int.toNat 0),nth (U.jb (U.jh d) t (U.jh d).length) (((U.jb (U.jh d) t (U.jh d).length).length:Int)-1).toNat]) (fun s=> ?_) (by omega) (by omega);rw[jDY];refine⟨fun a=>a.elim (e s).1 fun a=> ?_,fun a=> .inl ((e s).2 a)⟩;rcases jDP.1 a with rfl|a
   .exact(e _).1 (L.mem_nth (by show 0<_;omega))
   .rcases jDP.1 a with rfl|a
    .exact(e _).1 (L.mem_nth (by omega))
    .cases a
  .exact key (U.jb (U.jh d) t (U.jh d).length) e (by omega) (by omega)
theorem jsy:zg PR 7 jeg:=kX jfq jga Tryz.func7 (kcC jq3 (kcC jq2 (kcC jtZ (kcC jll (kcC jgI (kcC jcz (kcC jtX (kcC jtY kcN)))))))) koN
end Go.X
namespace Go.X
open Go.Proofs Go.Proofs.YtnkahkkofmoipaaGreatDoor
noncomputable def jy2:Array Field:=match Tryz.prog.underlying 60 with|some (.struct fs)=>fs|_=> #[]
theorem jCv:Tryz.prog.globalNamed "handshape/rosters.some"=some 0:=by kernel_rfl
theorem jCu:(Tryz.prog.globals[0]?).map (·.type)=some 60:=by kernel_rfl
theorem jDG:Tryz.prog.underlying 60=some (.struct jy2):=by kernel_rfl
theorem jDH:Tryz.prog.underlying 3=some (.int .i64):=by kernel_rfl
theorem jDI:Tryz.prog.cellsOf 3=1:=by kernel_rfl
noncomputable def yr (i:Nat):Bool:=match jy2[i]? with|some f=>Nat.beq f.type 3&&Nat.beq f.offset i|none=>false
theorem fields:(yr 0&&yr 1&&yr 2&&yr 3&&yr 4&&yr 5)=true:=by kernel_rfl
theorem jzg {i:Nat} (h:yr i=true):∃f,jy2[i]? =some f/\f.type=3/\f.offset=i:=by
 unfold yr at h
 split at h
 .rename_i f a;rw[jDT] at h;exact⟨f,a,jDM h.1,jDM h.2⟩
 .cases h
theorem jy1 {H:Type} {enc:TypeId×Value->H} {w:World} {base:Nat} {sp:Nat->Bool} {a:Bool} {n:Nat} {cs:List Value} {xs:List (DataW H×List MemPlace)} {d:List Int} (o:xs.map (·.1)=d.map fun z=>(DataW.lit (.int .i64 z):DataW H))
 (k:∀(i:Nat) (f:Field),jy2[i]? =some f->DataW.trod enc Tryz.prog w base sp a n f.type ((cs.drop f.offset).take (Tryz.prog.cellsOf f.type))=xs[i]?) {i:Nat} {z:Int} (hi:yr i=true) (q:d[i]? =some z):cs[i]? =some (.int .i64 z):=by
 obtain⟨f,g,h,j⟩:=jzg hi;have b:=k i f g;rw[h,j,jDI] at b;have c:(xs.map (·.1))[i]? =some (DataW.lit (.int .i64 z):DataW H):=(by rw[o,jE2,q];rfl);rw[jE2] at c;obtain⟨y,p,e⟩:=jFb.1 c;rw[p] at b;obtain⟨m,l,rfl,_⟩:=DataW.trod_int jDH b;have e:m=z:=by
  have e:(DataW.lit (.int .i64 m):DataW H)=DataW.lit (.int .i64 z):=e;simpa only[DataW.lit.injEq,Lit.int.injEq,true_and] using e
 subst e;have:=congrArg (·[0]?) l;simpa[jEZ,jEp] using this
theorem jDd {W:World} (h:laidMet Tryz.prog [("handshape/rosters.some",Rows.laid_handshape_rosters_some)] W):jBQ (Hof W):=by
 obtain⟨ps,⟨H,E,cs,k,p,q,d,f,a,A,_,_⟩,_⟩:=h;obtain rfl:=Option.some.inj (jCv.symm.trans d);obtain rfl:=Option.some.inj (jCu.symm.trans f);obtain⟨xs,n,_,C,I,l,B⟩:=DataW.trod_struct jDG A;have j:xs.map (·.1)=[0,1,0,0,0,1].map fun z=>(DataW.lit (.int .i64 z):DataW Unit):=by
  have e:=congrArg Prod.fst C;have e:(DataW.agg [.lit (.int .i64 0),.lit (.int .i64 1),.lit (.int .i64 0),.lit (.int .i64 0),.lit (.int .i64 0),.lit (.int .i64 1)]:DataW Unit)= .agg (xs.map (·.1)):=e;simp only[DataW.agg.injEq] at e;exact e.symm
 have fs:=fields;simp only[jDT] at fs;obtain⟨⟨⟨⟨⟨o,r⟩,s⟩,u⟩,v⟩,w⟩:=fs;have c:∀{i:Nat} {z:Int},yr i=true->([0,1,0,0,0,1]:List Int)[i]? =some z->cs[i]? =some (.int .i64 z):=fun hi D=>by
  have:=jy1 j B hi D;simpa using this
 unfold World.var? at a;rw[jCv] at a;intro g x b;have b:jw [(0,(⟨.st [.int,.int,.int,.int,.int,.int],((0:Int),(1:Int),(0:Int),(0:Int),(0:Int),(1:Int),())⟩:(t:Ty)×t.Data))] g=some x:=b;have y:Hof W 0=some (.cells cs):=by
  unfold Hof;simp only[Option.bind_some] at a
  split at a
  .rename_i F E G e;rw[e];have:=Option.some.inj a;rw[this]
  .cases a
 have m:=j9 _ _ _ b;simp only[List.mem_singleton,Prod.mk.injEq] at m;obtain⟨rfl,rfl⟩:=m;exact⟨cs,y,c o rfl,c r rfl,c s rfl,c u rfl,c v rfl,c w rfl,trivial⟩
end Go.X
