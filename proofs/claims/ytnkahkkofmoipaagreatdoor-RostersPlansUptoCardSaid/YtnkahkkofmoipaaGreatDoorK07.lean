/-
  Part 7 of the road: a checked reading of bodies, and what the functions on it do (X25 X26 C5 PC15 C6 PC16 S6 S7 PC17 DM S8 S9 S10 S11 S12 S13 S14 C7 PC18 C8 PC19 PC20 LW).
-/
import Derived.Test.YtnkahkkofmoipaaGreatDoorK06
import Derived.Test.YtnkahkkofmoipaaGreatDoorRows
import Derived.WalkKit
import Derived.ProofKit
import Derived.OpenShut
import Derived.JoinedCond
import Derived.Carry
import Derived.ChangeArms
import Derived.Test.YtnkahkkofmoipaaGreatDoorCards
import Derived.Test.YtnkahkkofmoipaaGreatDoorTie
import Derived.Deep.DeepHandedRow
import Derived.Lib.LaidTab
namespace Go.X
open Go.RowKit (Below)
open Go.Proofs.YtnkahkkofmoipaaGreatDoor
def Hof (w:World):Imm:=fun b=>match w.heap[b]? with|some (.cells c _ _)=>some (.cells c)|_=>none
theorem jAN (w:World) (d:jDD (Hof w)):jbb (Hof w) w:=by
 refine⟨fun b c h=> ?_,d⟩;unfold Hof at h
 split at h
 .rename_i f T a e;simp at h;subst h;exact⟨T,a,e⟩
 .cases h
def Ty.fits (N:Nat):(t:Ty)->t.Data->Prop
 | .int,x=>jz x
 | .bool,_=>True
 | .uint k,x=>k.min<=x/\x<=k.max
 | .slice t,l=>l.length<=N/\∀x∈l,t.fits N x
 | .unit,_=>True
 | .pair a b,d=>a.fits N d.1/\b.fits N d.2
 | .map k v,l=>l.length<=N/\∀x∈l,k.fits N x.1/\v.fits N x.2
 | .ptr t,d=>∀x,d=some x->t.fits N x
theorem Ty.fits_mono {N M:Nat} (h:N<=M):∀(t:Ty) (d:t.Data),t.fits N d->t.fits M d
 | .int,_,k=>k
 | .bool,_,k=>k
 | .uint _,_,k=>k
 | .unit,_,k=>k
 | .slice t,_,k=>⟨jFR k.1 h,fun x c=>t.fits_mono h x (k.2 x c)⟩
 | .pair a b,_,k=>⟨a.fits_mono h _ k.1,b.fits_mono h _ k.2⟩
 | .map k v,_,q=>⟨jFR q.1 h,fun x c=>⟨k.fits_mono h _ (q.2 x c).1,v.fits_mono h _ (q.2 x c).2⟩⟩
 | .ptr t,_,k=>fun x c=>t.fits_mono h x (k x c)
def jDX (P:Program) (go:Nat->Ty->Bool):List Field->Nat->Ty->Bool
 |[],_,.unit=>true
 |f::fs,off,.pair a b=>Nat.beq f.offset off&&Nat.beq (P.cellsOf f.type) a.size&&go f.type a&&jDX P go fs (off+a.size) b
 |_,_,_=>false
def jCt (P:Program):Nat->Nat->Ty->Bool
 |0,_,_=>false
 |d+1,T,ty=>match ty,P.underlying T with
  | .int,some (.int .i64)=>true
  | .bool,some .bool=>true
  | .uint k,some (.int k')=>jaf k k'
  | .slice t,some (.slice e)=>Nat.beq (P.cellsOf e) t.size&&Nat.ble 1 t.size&&jCt P d e t
  | .pair a b,some (.struct fs)=>Nat.beq (P.cellsOf T) (Ty.pair a b).size&&jDX P (jCt P d) fs.toList 0 (.pair a b)
  |_,_=>false
section
variable {P:Program} {K:Type} {enc:TypeId×Value->K} {w:World}
theorem jD0 (d:DataW K):1<=Rows.uptoBulk d:=by
 cases d with
 |lit l=>cases l<;>simp[Rows.uptoBulk]
 |_=>simp[Rows.uptoBulk]
theorem jpq (l:List (DataW K)):l.length<=Rows.uptoBulkAll l:=by
 induction l with
 |nil=>simp[Rows.uptoBulkAll]
 |cons x r a=>have:=jD0 x;simp only[Rows.uptoBulkAll,jGe];omega
theorem jCy {d:DataW K} {l:List (DataW K)} (h:d∈l):Rows.uptoBulk d<=Rows.uptoBulkAll l:=by
 induction l with
 |nil=>cases h
 |cons x r a=>
  simp only[Rows.uptoBulkAll];cases jFC.1 h with
  |inl e=>subst e;omega
  |inr e=>have:=a e;omega
theorem jx5 {α:Type} {Q:Nat->α->Prop}:∀(n:Nat),(∀i,i<n->∃y,Q i y)->∃l:List α,l.length=n/\∀i y,l[i]? =some y->Q i y
 |0,_=>⟨[],rfl,fun i y h=>by simp at h⟩
 |n+1,h=>by
  obtain⟨l,b,c⟩:=jx5 n (fun i hi=>h i (by omega))
  obtain⟨y,d⟩:=h n (by omega)
  refine⟨l++[y],by simp[b],fun i z a=> ?_⟩
  by_cases hi:i<l.length
  .rw[jFO hi] at a;exact c i z a
  .rw[jFN (by omega)] at a
   have:i=n:=by
    by_cases e:i-l.length=0
    .omega
    .obtain⟨k,hk⟩:∃k,i-l.length=k+1:=⟨i-l.length-1,by omega⟩;rw[hk] at a;simp at a
   subst this;rw[<-b] at a;simp at a;subst a;exact d
def jEE (P:Program) (w:World) (enc:TypeId×Value->K) (T:Nat) (ty:Ty):Prop:=
 ∀(a:Nat) (cs:List Value) (x:DataW K×List MemPlace),DataW.trod enc P w 0 (fun _=>true) true a T cs=some x->Rows.uptoBulk x.1<=1048576->
  ∃d:ty.Data,ty.rd (Hof w) (fun i=>cs[i]?) d/\cs.length=ty.size/\ty.fits (Rows.uptoBulk x.1) d
theorem jDR {n:Int} (h:(Lit.int .i64 n).wf=true):jz n:=by
 simp[Lit.wf,IntKind.min,IntKind.max,IntKind.signed,IntKind.bits] at h;exact h
theorem jgQ {go:Nat->Ty->Bool} (c:∀T ty,go T ty=true->jEE P w enc T ty) {n:Nat} {cs:List Value}:
 ∀(fs:List Field) (off:Nat) (ty:Ty) (xs:List (DataW K×List MemPlace)),jDX P go fs off ty=true->xs.length=fs.length->
  (∀(i:Nat) (f:Field),fs[i]? =some f->DataW.trod enc P w 0 (fun _=>true) true n f.type ((cs.drop f.offset).take (P.cellsOf f.type))=xs[i]?)->Rows.uptoBulkAll (xs.map (·.1))<=1048576->
  ∃d:ty.Data,ty.rd (Hof w) (fun i=>cs[off+i]?) d/\ty.fits (Rows.uptoBulkAll (xs.map (·.1))) d
 |[],off,ty,xs,h,g,e,j=>by
  cases ty<;>simp[jDX] at h
  exact⟨(),trivial,trivial⟩
 |f::fs,off,ty,[],h,g,e,j=>by simp at g
 |f::fs,off,ty,x::xs,h,g,e,j=>by
  cases ty<;>simp[jDX] at h
  rename_i a b
  obtain⟨⟨⟨q,v⟩,r⟩,s⟩:=h
  simp only[jGz,Rows.uptoBulkAll] at j
  have k:=e 0 f (by simp)
  simp only[List.getElem?_cons_zero] at k
  obtain⟨d,t,y,u⟩:=c _ _ r _ _ _ k (by omega)
  obtain⟨l,o,p⟩:=jgQ c fs (off+a.size) b xs s (by simpa using g) (fun i m hi=>by simpa using e (i+1) m (by simpa using hi)) (by omega)
  refine⟨(d,l),⟨?_,?_⟩,?_,?_⟩
  .refine Ty.rd_congr a _ _ _ (fun i hi=> ?_) t
   rw[jFZ (by omega),jGg,q]
  .refine Ty.rd_congr b _ _ _ (fun i hi=> ?_) o
   rw[jGI]
  .exact a.fits_mono (by simp[Rows.uptoBulkAll]) _ u
  .exact b.fits_mono (by simp[Rows.uptoBulkAll]) _ p
theorem jdD:∀(d T:Nat) (ty:Ty),jCt P d T ty=true->jEE P w enc T ty
 |0,_,_,h=>by cases h
 |d+1,T,ty,h=>by
  intro fuel cs x B r
  unfold jCt at h
  split at h
  .rename_i u
   obtain⟨n,rfl,rfl,H⟩:=DataW.trod_int u B
   exact⟨n,rfl,rfl,jDR H⟩
  .rename_i u
   obtain⟨b,rfl,rfl⟩:=DataW.trod_bool u B
   exact⟨b,rfl,rfl,trivial⟩
  .rename_i k k' u
   obtain⟨n,rfl,rfl,H⟩:=DataW.trod_int u B
   have:k=k':=by simpa[jaf] using h
   subst this
   refine⟨n,rfl,rfl,?_⟩
   simp[Lit.wf] at H
   exact H
  .rename_i t e u
   simp only[jFD] at h
   obtain⟨⟨L,M⟩,h3⟩:=h
   have e1:=jFz L
   have e2:=jFQ M
   rcases DataW.trod_slice u B with⟨rfl,rfl⟩|⟨a,len,J,vW,rest,n,_,rfl,rfl,hb,hl,hm,A,D,_,_⟩
   .refine⟨[],⟨none,0,0,rfl,rfl,jFE _,by simp,fun _=>rfl,fun h=>absurd rfl h⟩,rfl,by simp,fun x B=>by simp at B⟩
   .simp only[Rows.uptoBulk] at r
    have key:∀i,i<len->∃y:t.Data,(∃blk,Hof w a.block=some (.cells blk)/\a.spot=none/\t.rd (Hof w) (fun j=>blk[a.off+i*t.size+j]?) y)/\t.fits (Rows.uptoBulkAll (vW.map (·.1))) y:=by
     intro i hi;have h0:=D i hi;have X:vW[i]? =some vW[i]:=jFG (by omega);rw[X,Option.bind_eq_some_iff] at h0;obtain⟨cl,c1,c2⟩:=h0;have Q:Rows.uptoBulk vW[i].1<=Rows.uptoBulkAll (vW.map (·.1)):=jCy (jGc.2 ⟨vW[i],List.getElem_mem _,rfl⟩);obtain⟨y,y1,y2,y3⟩:=jdD d e t h3 _ _ _ c2 (by omega);unfold World.cells? at c1;rw[if_pos (jFM _),e1] at c1;have z:∀j,j<t.size->w.cell? ((a.add (i*t.size)).add j)=cl[j]? :=fun j O=>by
      have:=mapM_some_get c1 j j (by simp[O]);simpa using this
     have N:cl.length=t.size:=(by simpa using mapM_some_length c1);have I:=z 0 (by omega);have g:cl[0]?≠none:=(by rw[jFG (by omega)];simp);rw[<-I] at g;have m:∃blk T G,w.heap[a.block]? =some (.cells blk T G):=by
      unfold World.cell? at g;have q:((a.add (i*t.size)).add 0).block=a.block:=by unfold Addr.add;simp;split<;>rfl
      rw[q] at g
      split at g
      .rename_i c T G e;exact⟨c,T,G,e⟩
      .exact absurd rfl g
     obtain⟨blk,T',G,m⟩:=m;have p:((a.add (i*t.size)).add 0).spot=none:=by
      unfold World.cell? at g;have q:((a.add (i*t.size)).add 0).block=a.block:=by unfold Addr.add;simp;split<;>rfl
      rw[q,m] at g;simp only at g;cases R:((a.add (i*t.size)).add 0).spot with
      |none=>rfl
      |some s=>rw[R] at g;simp at g
     have hH:Hof w a.block=some (.cells blk):=(by unfold Hof;rw[m]);refine⟨y,⟨blk,hH,?_,?_⟩,t.fits_mono Q _ y3⟩
     .--the first element shows that the address is plain
      have C:=D 0 (by omega);have W:vW[0]? =some vW[0]:=jFG (by omega);rw[W,Option.bind_eq_some_iff] at C;obtain⟨K,F,_⟩:=C;unfold World.cells? at F;rw[if_pos (jFM _),e1] at F;have v:=mapM_some_get F 0 0 (by rw[List.getElem?_range (by omega)]);have hl0:K.length=t.size:=(by simpa using mapM_some_length F);rw[jFG (by omega)] at v;simp only[Nat.zero_mul] at v;have ea:(a.add 0).add 0=a:=(by unfold Addr.add;simp);rw[ea] at v;unfold World.cell? at v;rw[m] at v;simp only at v;cases R:a.spot with
      |none=>rfl
      |some s=>rw[R] at v;simp at v
     .refine Ty.rd_congr t _ _ _ (fun j O=> ?_) y1;rw[<-z j O];unfold World.cell?;have q:((a.add (i*t.size)).add j).block=a.block:=by unfold Addr.add;split<;>split<;>rfl
      have E:((a.add (i*t.size)).add j).off=a.off+i*t.size+j:=by
       unfold Addr.add;split<;>split<;>simp_all
      have V:((a.add (i*t.size)).add j).spot=none:=by
       have S:(a.add (i*t.size)).spot=none:=by
        have:(a.add (i*t.size)).add 0=a.add (i*t.size):=(by simp[Addr.add]);rw[this] at p;exact p
       unfold Addr.add at S⊢
       split<;>split<;>simp_all
      rw[q,m,E,V];simp
    obtain⟨l,l1,l2⟩:=jx5 len key;refine⟨l,⟨some a,len,J,rfl,l1.symm,hl,?_,(fun h=>by cases h),fun g=> ?_⟩,rfl,?_,?_⟩
    .have:=jpq (vW.map (·.1));simp at this;omega
    .have hz:0<l.length:=List.length_pos_iff.2 g;obtain⟨blk,q1,q2,_⟩:=(l2 0 l[0] (jFG hz)).1;refine⟨a.block,a.off,blk,?_,q1,fun i y Z=> ?_⟩
     .rcases a with⟨b,o,s⟩;simp only at q2;subst q2;rfl
     .obtain⟨blk',q3,_,q4⟩:=(l2 i y Z).1;rw[q1] at q3;simp at q3;subst q3;exact q4
    .simp only[Rows.uptoBulk];have:=jpq (vW.map (·.1));simp at this;omega
    .intro y Z;obtain⟨i,hi⟩:=jGP Z;exact t.fits_mono (by simp only[Rows.uptoBulk];omega) _ (l2 i y hi).2
  .rename_i a b fs u;simp only[jFD] at h;obtain⟨L,M⟩:=h;obtain⟨xs,n,_,rfl,A,Y,hf⟩:=DataW.trod_struct u B;simp only[Rows.uptoBulk] at r;obtain⟨y,y1,y2⟩:=jgQ (fun T ty h=>jdD d T ty h) (n:=n) (cs:=cs) fs.toList 0 (.pair a b) xs M (by simpa using Y) (fun i f hi=>hf i f (by simpa using hi)) (by omega);refine⟨y,by simpa using y1,by rw[A];exact jFz L,?_⟩;exact Ty.fits_mono (by simp only[Rows.uptoBulk];omega) (.pair a b) _ y2
  .cases h
end
end Go.X
namespace Go.X
open Go.RowKit (Below)
open Go.ChangeShapes Go.WideShapes Go.ChangeAt Go.RowKit
open Go.Proofs.YtnkahkkofmoipaaGreatDoor
def jnu (N:Nat):(ts:List Ty)->PD (ts.map Par.val)->Prop
 |[],_=>True
 |t::ts,d=>t.fits N d.1/\jnu N ts d.2
def jx8 (ts:List Ty):jQ:=⟨ts.map Par.val,[.bool],false,fun d=>[jnu 1048576 ts d],fun _=>(true,())⟩
def jgT (P:Program):List Nat->List Ty->Bool
 |[],[]=>true
 |T::Ts,t::ts=>jCt P 20 T t&&(P.readableRec T&&decide (T<P.types.size))&&jgT P Ts ts
 |_,_=>false
section
variable {P:Program} {K:Type} {enc:TypeId×Value->K} {W W':World}
theorem jey (j:laidOutB P=true) (i:Below W.heap.size W W'):∀(a:List Nat) (ts:List Ty) (vs:List Value) (ds:List (DataW K)) (ps:List MemPlace),jgT P a ts=true->
 DataW.TrodAll enc P W 0 (fun _=>true) true a vs ds ps->(∀x∈ps,x.block<W.heap.size)->DataW.TrodAll enc P W' 0 (fun b=>decide (b<W.heap.size)) true a vs ds ps
 |[],ts,vs,ds,ps,_,h,_=>by
  obtain⟨rfl,rfl,rfl⟩:=trodAll_nil h
  exact trodAll_mk0
 |T::a,[],vs,ds,ps,c,_,_=>by cases c
 |T::a,t::ts,vs,ds,ps,c,h,hlt=>by
  obtain⟨v,g,d,e,p,q,rfl,rfl,rfl,n,o⟩:=trodAll_cons h
  simp only[jgT,jFD] at c
  obtain⟨⟨_,k,l⟩,m⟩:=c
  exact trodAll_cons_mk (Below.trod j k (of_decide_eq_true l) n i (fun x f=>hlt x (jFB _ f)))
   (jey j i a ts g e q m o (fun x f=>hlt x (jFA _ f)))
theorem jDv {T:Nat} {t:Ty} {r:Reach} {c:Nat} {v:Value} (h:jCt P 20 T t=true) (b:Value.okWide P W r c T v):kw v=t.agg:=by
 unfold jCt at h
 split at h
 .rename_i a;obtain⟨n,rfl⟩:=okWide_int a b;rfl
 .rename_i a;obtain⟨n,rfl⟩:=okWide_bool a b;rfl
 .rename_i a;obtain⟨n,rfl⟩:=okWide_int a b;rfl
 .rename_i a;unfold Value.okWide at b;rw[a] at b;simp only[Cell.okWide,a] at b;cases v with
  |agg vs=>simp[Cell.ok,a] at b
  |_=>rfl
 .rename_i a;unfold Value.okWide at b;rw[a] at b;obtain⟨cs,rfl,_⟩:=b;rfl
 .cases h
theorem jBA {r:Reach} {l:Nat}:∀(a:List Nat) (ts:List Ty) (vs:List Value) (ds:List (DataW K)) (ps:List MemPlace),jgT P a ts=true->
 DataW.TrodAll enc P W 0 (fun _=>true) true a vs ds ps->(∀(j:Nat) t v,a[j]? =some t->vs[j]? =some v->Value.okWide P W r l t v)->Rows.uptoBulkAll ds<=1048576->
 ∃d:PD (ts.map Par.val),pvs P (Hof W) (ts.map Par.val) vs d/\jnu 1048576 ts d
 |[],ts,vs,ds,ps,b,h,_,_=>by
  obtain⟨rfl,rfl,rfl⟩:=trodAll_nil h
  cases ts with
  |nil=>exact⟨(),rfl,trivial⟩
  |cons t ts=>cases b
 |T::a,[],vs,ds,ps,b,_,_,_=>by cases b
 |T::a,t::ts,vs,ds,ps,b,h,hv,hb=>by
  obtain⟨v,g,d,e,p,q,rfl,rfl,rfl,n,o⟩:=trodAll_cons h
  simp only[jgT,jFD] at b
  obtain⟨⟨k,_⟩,m⟩:=b
  simp only[Rows.uptoBulkAll] at hb
  obtain⟨c,s⟩:=n
  obtain⟨x,w,z,A⟩:=jdD 20 T t k c _ _ s (by simp only;omega)
  obtain⟨y,B,C⟩:=jBA a ts g e q m o (fun j t v u f=>hv (j+1) t v (by simpa using u) (by simpa using f)) (by omega)
  refine⟨(x,y),⟨⟨jDv k (hv 0 T v rfl rfl),by simpa using z,?_⟩,B⟩,Ty.fits_mono (by simp only;omega) t x A,C⟩
  refine Ty.rd_congr t _ _ _ (fun i _=> ?_) w
  simp
theorem jdo:∀(a:List Nat) (ts:List Ty) (vs:List Value) (ds:List (DataW K)) (ps:List MemPlace),jgT P a ts=true->DataW.TrodAll enc P W 0 (fun _=>true) true a vs ds ps->ds.length=ts.length:=by
 intro a
 induction a with
 |nil=>intro ts vs ds ps b h;obtain⟨rfl,rfl,rfl⟩:=trodAll_nil h;cases ts with|nil=>rfl|cons=>cases b
 |cons T a g=>intro ts vs ds ps b h;cases ts with
  |nil=>cases b
  |cons t ts=>
   obtain⟨v,e,d,c,p,q,rfl,rfl,rfl,i,f⟩:=trodAll_cons h;simp only[jgT,jFD] at b;simp[g ts e c q b.2 f]
theorem jBI {f:Nat} {fn:Func} {s:ChangeSpec} {ts:List Ty} (I:laidOutB P=true) (k:jgT P fn.params.toList ts=true) (L:fn.resultTypes= #[4]) (D:P.underlying 4=some .bool)
 (a:s.vars=[]) (m:∀(ds:List (DataW K)),ds.length=ts.length->s.fn K (ds++[])={results:=[.lit (.bool true)],args:=ds})
 (G:zc P f (jx8 ts)) (base:Nat) (args:Array Value) (ds o:List (DataW K)) (before:List MemPlace)
 (l:∀(j:Nat) t v,fn.params[j]? =some t->args[j]? =some v->Value.okWide P W .any base t v)
 (w:DataW.Whole enc P fn.params.toList s.vars false W args.toList ds o before) (hk:Rows.uptoSmall K (ds++o)=true) (E:jDD (Hof W)):
 Calls P f args W fun e W'=>∃v,e= .returned v/\s.post enc P fn false true false false W args v W':=by
 have b:=w;obtain⟨p,q,i,u,rfl,H,J⟩:=w;rw[a] at u;obtain⟨rfl,rfl⟩:=trodVars_none u;simp only[jGb] at b hk;have c:Rows.uptoBulkAll ds<=1048576:=of_decide_eq_true hk;have g:∀(j:Nat) t v,fn.params.toList[j]? =some t->args.toList[j]? =some v->Value.okWide P W .any base t v:=fun j t v B C=>l j t v (by simpa using B) (by simpa using C)
 obtain⟨d,z,A⟩:=jBA fn.params.toList ts args.toList ds p k i g c;have y:=G.calls (Hof W) W args.toList d (jAN W E) z ⟨A,trivial⟩;simp only[Array.toArray_toList] at y;refine y.mono fun e W' F=> ?_
 obtain⟨v,H',rfl,r,M⟩:=F;have n:v= .bool true:=zG M;subst n;refine⟨_,rfl,ds,[],p,[],p,[],b,?_,?_,?_,r.below.frame _,fun h=>by cases h⟩
 .rw[m ds ?_,L]
  .exact trodAll_cons_mk (shut_bool D _) trodAll_mk0
  .exact jdo _ _ _ _ _ k i
 .rw[m ds ?_]
  .exact jey I r.below _ ts _ _ _ k i (fun x N=>by simpa using b.lt x N)
  .exact jdo _ _ _ _ _ k i
 .rw[a,m ds ?_]
  .rfl
  .exact jdo _ _ _ _ _ k i
end
end Go.X
namespace Go.X
open Go.Proofs
namespace U
def jEV (p:PeD):Prop:=(lv p).length<=20/\(zw p).length<=30
def jmB (c:CrD):Prop:=(je c).length<=20/\(kO c).length<=20/\∀p∈je c,jEV p
def jiG (d:DyD):Prop:=jmB (jd d)/\(jK d).length<=20/\(jq d).length<=20/\(kR d).length<=60/\∀r∈jK d,r.length<=20
def jqh (p:PeD):Bool:=decide (20<((lv p).length:Int))||decide (30<((zw p).length:Int))
def ja8 (c:CrD):Bool:=(decide (20<((je c).length:Int))||decide (20<((kO c).length:Int)))||((je c).any jqh||(jl c&&decide (5<((je c).length:Int))))
def jqg (r:List SpD):Bool:=decide (20<(r.length:Int))
def vS (d:DyD):Bool:=(((ja8 (jd d)||decide (20<((jK d).length:Int)))||decide (20<((jq d).length:Int)))||decide (60<((kR d).length:Int)))||(jK d).any jqg
def jpR (d:DyD):Bool:=vS d||(decide (yu d=0)&&decide (12<((kR d).length:Int)))
def jFo:CrD:=(3,[([5,4,0],3,15,[],false,50,()),([0,5,3],3,15,[],true,40,()),([4,0,4],1,3,[7],false,30,()),([3,3,3],255,1,[],false,10,())],[(2,1,false,()),(4,2,false,()),(3,2,true,()),(5,1,false,())],())
def jzI:List JbD:=[(0,2,7,1,2,1,()),(0,2,3,0,0,1,()),(0,2,7,1,1,1,())]
def jk1:DyD:=(jFo,[[(0,0,()),(10,20,())],[(10,25,()),(0,0,())]],[((0,2,3,0,0,1,()),0,60,120,()),((0,2,3,1,0,1,()),1,150,200,()),((0,2,7,1,2,1,()),0,230,300,())],10,140,
 [(1,5,1,0,3,()),(2,6,1,1,3,()),(3,4,1,2,2,()),(4,7,1,2,0,()),(5,8,1,2,1,()),(6,9,1,0,2,()),(7,10,2,0,2,())],())
end U
def juI:jQ:=⟨[.val tCr],[tCr],false,fun d=>[U.jmB d.1],fun d=>(d.1,())⟩
def jv9:Ann:=fun r=>match r with
 |3=>some fun σ=>{X:=Nat,sl:=fun i=>[(4,.dat .int (i:Int))],ob:=fun i=>[(3,some (.box 25 false ((bx σ 3).set 1 (.own (yJ 3 1) tPe)))),(yJ 3 1,some (.row 102 tPe false .yes ((U.je (gb tCr σ 1)).take i)))],inv:=fun i=>i<=(U.je (gb tCr σ 1)).length,mu:=fun i=>(U.je (gb tCr σ 1)).length-i}
 |_=>none
abbrev q120_0 (d:CrD×Unit)(x:Nat):=(nth d.1.2.1 (x:Int).toNat)
def juo:Prop:=∀(d:CrD×Unit),U.jmB d.1->(0+d.1.2.2.1.length)*24<=140737488355328/\(∃(x:Nat),((0=(x:Int)/\True)/\(d.1.1=d.1.1/\True/\True/\True)/\List.take x (U.je d.1)=[]/\True)/\x<=(U.je d.1).length)/\∀(x:Nat),x<=(U.je d.1).length->d.1.2.1.length<4611686018427387904->(decide ((x:Int)<(d.1.2.1.length:Int))=true->0<=(x:Int)/\(x:Int)<(d.1.2.1.length:Int)/\(0+(q120_0 d x).1.length)*8<=140737488355328/\(0+(q120_0 d x).2.2.2.1.length)*8<=140737488355328/\((List.take x (U.je d.1)).length+[([]++(q120_0 d x).1,(q120_0 d x).2.1,(q120_0 d x).2.2.1,[]++(q120_0 d x).2.2.2.1,(q120_0 d x).2.2.2.2)].length)*80<=140737488355328/\jz ((x:Int)+1)/\∃(a:Nat),(((x:Int)+1=(a:Int)/\True)/\(d.1.1=d.1.1/\True/\True/\True)/\List.take x (U.je d.1)++[([]++(q120_0 d x).1,(q120_0 d x).2.1,(q120_0 d x).2.2.1,[]++(q120_0 d x).2.2.2.1,(q120_0 d x).2.2.2.2)]=List.take a (U.je d.1)/\True)/\a<=(U.je d.1).length/\(U.je d.1).length-a<(U.je d.1).length-x)/\(decide ((x:Int)<(d.1.2.1.length:Int))=false->((d.1.1,List.take x (U.je d.1),[]++d.1.2.2.1,()),())=d)
def juE:jQ:=⟨[.val tDy],[tDy],false,fun d=>[U.jiG d.1],fun d=>(d.1,())⟩
def jv6:Ann:=fun r=>match r with
 |5=>some fun σ=>{X:=Nat,sl:=fun i=>[(4,.dat .int (i:Int))],ob:=fun i=>[(3,some (.box 30 false ((bx σ 3).set 3 (.own (yJ 3 3) (.slice tSp))))),(yJ 3 3,some (.row 75 (.slice tSp) false .yes ((U.jK (gb tDy σ 1)).take i)))],inv:=fun i=>i<=(U.jK (gb tDy σ 1)).length,mu:=fun i=>(U.jK (gb tDy σ 1)).length-i}
 |_=>none
abbrev q121_0 (d:DyD×Unit):=(d.1.1.1=d.1.1.1/\d.1.1.2.1=d.1.1.2.1/\d.1.1.2.2.1=d.1.1.2.2.1/\True/\d.1.2.2.1=d.1.2.2.1/\d.1.2.2.2.1=d.1.2.2.2.1/\d.1.2.2.2.2.1=d.1.2.2.2.2.1/\d.1.2.2.2.2.2.1=d.1.2.2.2.2.2.1/\True)
def juk:Prop:=∀(d:DyD×Unit),U.jiG d.1->U.jmB d.1.1/\(∃(x:Nat),((0=(x:Int)/\True)/\(q121_0 d)/\List.take x (U.jK d.1)=[]/\True)/\x<=(U.jK d.1).length)/\∀(x:Nat),x<=(U.jK d.1).length->d.1.2.1.length<4611686018427387904->(decide ((x:Int)<(d.1.2.1.length:Int))=true->0<=(x:Int)/\(x:Int)<(d.1.2.1.length:Int)/\(0+(nth d.1.2.1 (x:Int).toNat).length)*16<=140737488355328/\((List.take x (U.jK d.1)).length+[[]++nth d.1.2.1 (x:Int).toNat].length)*24<=140737488355328/\jz ((x:Int)+1)/\∃(a:Nat),(((x:Int)+1=(a:Int)/\True)/\(q121_0 d)/\List.take x (U.jK d.1)++[[]++nth d.1.2.1 (x:Int).toNat]=List.take a (U.jK d.1)/\True)/\a<=(U.jK d.1).length/\(U.jK d.1).length-a<(U.jK d.1).length-x)/\(decide ((x:Int)<(d.1.2.1.length:Int))=false->(0+d.1.2.2.1.length)*72<=140737488355328/\(0+d.1.2.2.2.2.2.1.length)*40<=140737488355328/\((d.1.1,List.take x (U.jK d.1),[]++d.1.2.2.1,d.1.2.2.2.1,d.1.2.2.2.2.1,[]++d.1.2.2.2.2.2.1,()),())=d)
def jkx:jQ:=⟨[.val (.slice .int),.val (.slice .int)],[.bool],false,fun _=>[],fun d=>(decide (d.1=d.2.1),())⟩
def jk7:Ann:=fun r=>match r with
 |4=>some fun σ=>{X:=Nat,sl:=fun i=>[(5,.dat .int (i:Int))],ob:=fun _=>[],inv:=fun i=>i<=(gd (.slice .int) σ 0).length/\∀j:Nat,j<i->nth (gd (.slice .int) σ 0) j=nth (gd (.slice .int) σ 1) j,mu:=fun i=>(gd (.slice .int) σ 0).length-i}
 |_=>none
def jkn:Prop:=∀(d:List Int×List Int×Unit),d.1.length<4611686018427387904->d.2.1.length<4611686018427387904->(decide ((d.1.length:Int)≠(d.2.1.length:Int))=true->(false,())=(decide (d.1=d.2.1),()))/\(decide ((d.1.length:Int)≠(d.2.1.length:Int))=false->(∃(x:Nat),((0=(x:Int)/\True)/\True)/\x<=d.1.length/\∀(j:Nat),j<x->nth d.1 j=nth d.2.1 j)/\∀(x:Nat),(x<=d.1.length/\∀(j:Nat),j<x->nth d.1 j=nth d.2.1 j)->d.1.length<4611686018427387904->(decide ((x:Int)<(d.1.length:Int))=true->0<=(x:Int)/\(x:Int)<(d.1.length:Int)/\0<=(x:Int)/\(x:Int)<(d.2.1.length:Int)/\(decide (nth d.1 (x:Int).toNat≠nth d.2.1 (x:Int).toNat)=true->(false,())=(decide (d.1=d.2.1),()))/\(decide (nth d.1 (x:Int).toNat≠nth d.2.1 (x:Int).toNat)=false->jz ((x:Int)+1)/\∃(a:Nat),(((x:Int)+1=(a:Int)/\True)/\True)/\(a<=d.1.length/\∀(j:Nat),j<a->nth d.1 j=nth d.2.1 j)/\d.1.length-a<d.1.length-x))/\(decide ((x:Int)<(d.1.length:Int))=false->(true,())=(decide (d.1=d.2.1),())))
def jwP:jQ:=⟨[.val tCr],[.bool],false,fun _=>[],fun d=>(U.ja8 d.1,())⟩
def jzr:Ann:=fun r=>match r with
 |4=>some fun σ=>{X:=Nat,sl:=fun i=>[(3,.dat .int (i:Int))],ob:=fun _=>[],inv:=fun i=>i<=(U.je (gb tCr σ 1)).length/\∀j:Nat,j<i->U.jqh (nth (U.je (gb tCr σ 1)) j)=false,mu:=fun i=>(U.je (gb tCr σ 1)).length-i}
 |_=>none
abbrev q123_0 (d:CrD×Unit)(x:Nat):=((20:Int)<(↑(nth d.1.2.1 (x:Int).toNat).1.length:Int))
abbrev q123_1 (d:CrD×Unit):=(d.1.2.1.length:Int)
abbrev q123_2 (d:CrD×Unit)(x:Nat):=(decide (q123_0 d x)||decide ((30:Int)<(↑(nth d.1.2.1 (x:Int).toNat).2.2.2.1.length:Int)))
abbrev q123_3 (d:CrD×Unit):=(decide (20<(q123_1 d))||decide (20<(d.1.2.2.1.length:Int)))
def jwp:Prop:=∀(d:CrD×Unit),d.1.2.1.length<4611686018427387904->((!decide (20<(q123_1 d)))=true->d.1.2.2.1.length<4611686018427387904)->((q123_3 d)=true->(true,())=(U.ja8 d.1,()))/\((q123_3 d)=false->(∃(x:Nat),((0=(x:Int)/\True)/\True)/\x<=(U.je d.1).length/\∀(j:Nat),j<x->U.jqh (nth (U.je d.1) j)=false)/\∀(x:Nat),(x<=(U.je d.1).length/\∀(j:Nat),j<x->U.jqh (nth (U.je d.1) j)=false)->d.1.2.1.length<4611686018427387904->(decide ((x:Int)<(q123_1 d))=true->0<=(x:Int)/\(x:Int)<(q123_1 d)/\((nth d.1.2.1 (x:Int).toNat).1.length<4611686018427387904->((!decide (q123_0 d x))=true->0<=(x:Int))/\((!decide (q123_0 d x))=true->(x:Int)<(q123_1 d))/\(((!decide (q123_0 d x))=true->(nth d.1.2.1 (x:Int).toNat).2.2.2.1.length<4611686018427387904)->((q123_2 d x)=true->(true,())=(U.ja8 d.1,()))/\((q123_2 d x)=false->jz ((x:Int)+1)/\∃(a:Nat),(((x:Int)+1=(a:Int)/\True)/\True)/\(a<=(U.je d.1).length/\∀(j:Nat),j<a->U.jqh (nth (U.je d.1) j)=false)/\(U.je d.1).length-a<(U.je d.1).length-x))))/\(decide ((x:Int)<(q123_1 d))=false->(U.jl d.1=true->d.1.2.1.length<4611686018427387904)->(U.jl d.1&&decide (5<(q123_1 d)),())=(U.ja8 d.1,())))
def juv:jQ:=⟨[.val tDy],[.bool],false,fun _=>[],fun d=>(U.vS d.1,())⟩
def jv2:Ann:=fun r=>match r with
 |4=>some fun σ=>{X:=Nat,sl:=fun i=>[(3,.dat .int (i:Int))],ob:=fun _=>[],inv:=fun i=>i<=(U.jK (gb tDy σ 1)).length/\∀j:Nat,j<i->U.jqg (nth (U.jK (gb tDy σ 1)) j)=false,mu:=fun i=>(U.jK (gb tDy σ 1)).length-i}
 |_=>none
abbrev q124_1 (d:DyD×Unit):=(d.1.2.1.length:Int)
abbrev q124_0 (d:DyD×Unit):=(U.ja8 d.1.1||decide (20<(q124_1 d))||decide (20<(d.1.2.2.1.length:Int))||decide (60<(d.1.2.2.2.2.2.1.length:Int)))
def jub:Prop:=∀(d:DyD×Unit),((!U.ja8 d.1.1)=true->d.1.2.1.length<4611686018427387904)->((!(U.ja8 d.1.1||decide (20<(q124_1 d))))=true->d.1.2.2.1.length<4611686018427387904)->((!(U.ja8 d.1.1||decide (20<(q124_1 d))||decide (20<(d.1.2.2.1.length:Int))))=true->d.1.2.2.2.2.2.1.length<4611686018427387904)->((q124_0 d)=true->(true,())=(U.vS d.1,()))/\((q124_0 d)=false->(∃(x:Nat),((0=(x:Int)/\True)/\True)/\x<=(U.jK d.1).length/\∀(j:Nat),j<x->U.jqg (nth (U.jK d.1) j)=false)/\∀(x:Nat),(x<=(U.jK d.1).length/\∀(j:Nat),j<x->U.jqg (nth (U.jK d.1) j)=false)->d.1.2.1.length<4611686018427387904->(decide ((x:Int)<(q124_1 d))=true->0<=(x:Int)/\(x:Int)<(q124_1 d)/\((nth d.1.2.1 (x:Int).toNat).length<4611686018427387904->(decide ((20:Int)<(↑(nth d.1.2.1 (x:Int).toNat).length:Int))=true->(true,())=(U.vS d.1,()))/\(decide ((20:Int)<(↑(nth d.1.2.1 (x:Int).toNat).length:Int))=false->jz ((x:Int)+1)/\∃(a:Nat),(((x:Int)+1=(a:Int)/\True)/\True)/\(a<=(U.jK d.1).length/\∀(j:Nat),j<a->U.jqg (nth (U.jK d.1) j)=false)/\(U.jK d.1).length-a<(U.jK d.1).length-x)))/\(decide ((x:Int)<(q124_1 d))=false->(false,())=(U.vS d.1,())))
def jwO:jQ:=⟨[.val tDy],[.bool],false,fun _=>[],fun d=>(U.jpR d.1,())⟩
def jwo:Prop:=∀(d:DyD×Unit),((!U.vS d.1)=true->(U.jq d.1).length<=1000000)/\(((!U.vS d.1&&decide (U.yu d.1=0))=true->d.1.2.2.2.2.2.1.length<4611686018427387904)->(U.vS d.1||decide (U.yu d.1=0)&&decide (12<(d.1.2.2.2.2.2.1.length:Int)),())=(U.jpR d.1,()))
def juu:jQ:=⟨[.val .int,.val .int],[tSp],false,fun _=>[],fun d=>((d.1,d.2.1,()),())⟩
def jua:Prop:=∀(d:Int×Int×Unit),(d,())=(d,())
def jmu:jQ:=⟨[],[tCr,.slice tJb],false,fun _=>[],fun _=>(U.jFo,U.jzI,())⟩
def jmd:Prop:=∀(d:Unit),(((3:Int),[([(5:Int),(4:Int),(0:Int)],(3:Int),(15:Int),[],false,(50:Int),()),([(0:Int),(5:Int),(3:Int)],(3:Int),(15:Int),[],true,(40:Int),()),([(4:Int),(0:Int),(4:Int)],(1:Int),(3:Int),[(7:Int)],false,(30:Int),()),([(3:Int),(3:Int),(3:Int)],(255:Int),(1:Int),[],false,(10:Int),())],[((2:Int),(1:Int),false,()),((4:Int),(2:Int),false,()),((3:Int),(2:Int),true,()),((5:Int),(1:Int),false,())],()),[((0:Int),(2:Int),(7:Int),(1:Int),(2:Int),(1:Int),()),((0:Int),(2:Int),(3:Int),(0:Int),(0:Int),(1:Int),()),((0:Int),(2:Int),(7:Int),(1:Int),(1:Int),(1:Int),())],())=(U.jFo,U.jzI,())
def jmt:jQ:=⟨[],[tDy],false,fun _=>[],fun _=>(U.jk1,())⟩
abbrev q128_0:=(nth U.jzI (Int.toNat 1))
def jmc:Prop:=∀(d:Unit),(0:Int)<=1/\1<(U.jzI.length:Int)/\(0:Int)<=1/\1<(U.jzI.length:Int)/\(0:Int)<=0/\0<(U.jzI.length:Int)/\((U.jFo,[[((0:Int),(0:Int),()),((10:Int),(20:Int),())],[((10:Int),(25:Int),()),((0:Int),(0:Int),())]],[(nth U.jzI (Int.toNat 1),(0:Int),(60:Int),(120:Int),()),((q128_0.1,q128_0.2.1,q128_0.2.2.1,(1:Int),q128_0.2.2.2.2),(1:Int),(150:Int),(200:Int),()),(nth U.jzI (Int.toNat 0),(0:Int),(230:Int),(300:Int),())],(10:Int),(140:Int),[((1:Int),(5:Int),(1:Int),(0:Int),(3:Int),()),((2:Int),(6:Int),(1:Int),(1:Int),(3:Int),()),((3:Int),(4:Int),(1:Int),(2:Int),(2:Int),()),((4:Int),(7:Int),(1:Int),(2:Int),(0:Int),()),((5:Int),(8:Int),(1:Int),(2:Int),(1:Int),()),((6:Int),(9:Int),(1:Int),(0:Int),(2:Int),()),((7:Int),(10:Int),(2:Int),(0:Int),(2:Int),())],()),())=(U.jk1,())
def jq0:jQ:=⟨[],[.bool],false,fun _=>[],fun _=>(true,())⟩
def jqC:Prop:=∀(d:Unit),(U.kR U.jk1).length<=100000/\(U.kR U.jk1).length<=100000/\(U.kR U.jk1).length<=100000/\(decide (U.jJ U.jk1=0)&&decide (U.jJ U.jk1=0)&&decide (U.jak U.jk1=0)&&decide (U.jku U.jk1=[(8:Int),(8:Int),(3:Int)])&&decide (U.jkH U.jk1=[(3:Int)])&&decide (U.jcN U.jk1=[(8:Int),(8:Int),(3:Int)])&&decide (U.jcM U.jk1=110),())=(true,())
end Go.X
namespace Go.X
open Go.Proofs
theorem jyC:juo:=by
 unfold juo q120_0;rintro⟨c,⟨⟩⟩ g;obtain⟨m,j,a⟩:U.jmB c:=g;refine⟨by show(0+(U.kO c).length)*24<=140737488355328;omega,⟨0,⟨⟨rfl,trivial⟩,⟨rfl,trivial,trivial,trivial⟩,rfl,trivial⟩,jFM _⟩,fun x f _=>⟨fun h=> ?_,fun h=> ?_⟩⟩
 .have h:(x:Int)<((U.je c).length:Int):=of_decide_eq_true h;have k:=L.take_succ (l:=U.je c) (i:=x) (by omega);obtain⟨s1,s2⟩:=a _ (L.mem_nth (l:=U.je c) (i:=x) (by omega));have d:((U.je c).take x).length<=20:=(by rw[jGa];omega);refine⟨jF8 _,h,by show(0+(U.lv (nth (U.je c) x)).length)*8<=140737488355328;omega,by show(0+(U.zw (nth (U.je c) x)).length)*8<=140737488355328;omega,by show(((U.je c).take x).length+1)*80<=140737488355328;omega,L.in64 (by omega) (by omega),x+1,⟨⟨by simp,trivial⟩,⟨rfl,trivial,trivial,trivial⟩,k.symm,trivial⟩,by show x+1<=(U.je c).length;omega,by show(U.je c).length-(x+1)<(U.je c).length-x;omega⟩
 .have h:¬(x:Int)<((U.je c).length:Int):=of_decide_eq_false h;have f:x<=(U.je c).length:=f;have b:x=(U.je c).length:=(by omega);subst b;have e:(U.je c).take (U.je c).length=U.je c:=jGC;show((c.1,(U.je c).take (U.je c).length,c.2.2.1,()),())=(c,());rw[e];rfl
theorem ju7:zc PR 42 juI:=kK jv9 jyC Tryz.func42 kcN koN
theorem jyy:juk:=by
 unfold juk q121_0;rintro⟨d,⟨⟩⟩ g;obtain⟨k,o,j,n,a⟩:U.jiG d:=g;refine⟨k,⟨0,⟨⟨rfl,trivial⟩,⟨rfl,rfl,rfl,trivial,rfl,rfl,rfl,rfl,trivial⟩,rfl,trivial⟩,jFM _⟩,fun x f _=>⟨fun h=> ?_,fun h=> ?_⟩⟩
 .have h:(x:Int)<((U.jK d).length:Int):=of_decide_eq_true h;have m:=L.take_succ (l:=U.jK d) (i:=x) (by omega);have p:=a _ (L.mem_nth (l:=U.jK d) (i:=x) (by omega));have c:((U.jK d).take x).length<=20:=(by rw[jGa];omega);refine⟨jF8 _,h,by show(0+(nth (U.jK d) x).length)*16<=140737488355328;omega,by show(((U.jK d).take x).length+1)*24<=140737488355328;omega,L.in64 (by omega) (by omega),x+1,⟨⟨by simp,trivial⟩,⟨rfl,rfl,rfl,trivial,rfl,rfl,rfl,rfl,trivial⟩,m.symm,trivial⟩,by show x+1<=(U.jK d).length;omega,by show(U.jK d).length-(x+1)<(U.jK d).length-x;omega⟩
 .have h:¬(x:Int)<((U.jK d).length:Int):=of_decide_eq_false h;have f:x<=(U.jK d).length:=f;have b:x=(U.jK d).length:=(by omega);subst b;have e:(U.jK d).take (U.jK d).length=U.jK d:=jGC;refine⟨by show(0+(U.jq d).length)*72<=140737488355328;omega,by show(0+(U.kR d).length)*40<=140737488355328;omega,?_⟩;show((U.jd d,(U.jK d).take (U.jK d).length,U.jq d,U.jhw d,U.jx6 d,U.kR d,()),())=(d,());rw[e];rfl
theorem ju4:zc PR 13 juE:=kK jv6 jyy Tryz.func13 (kcC ju7 kcN) koN
theorem jnh:jkn:=by
 rintro⟨a,b,⟨⟩⟩ _ l;refine⟨fun h=> ?_,fun h=>⟨⟨0,⟨⟨rfl,trivial⟩,trivial⟩,jFM _,fun j k=>by omega⟩,fun x g f=>⟨fun c=>⟨jF8 _,of_decide_eq_true c,jF8 _,?_,fun d=> ?_,fun d=> ?_⟩,fun c=> ?_⟩⟩⟩
 .have h:(a.length:Int)≠(b.length:Int):=of_decide_eq_true h;have:¬a=b:=fun e=>h (by rw[e])
  show(false,())=(decide (a=b),());rw[decide_eq_false this]
 .have h:(a.length:Int)=(b.length:Int):=Classical.not_not.1 (of_decide_eq_false h);have c:(x:Int)<(a.length:Int):=of_decide_eq_true c;show(x:Int)<(b.length:Int);omega
 .have d:nth a x≠nth b x:=of_decide_eq_true d;have:¬a=b:=fun e=>d (by rw[e])
  show(false,())=(decide (a=b),());rw[decide_eq_false this]
 .have c:(x:Int)<(a.length:Int):=of_decide_eq_true c;have d:nth a x=nth b x:=Classical.not_not.1 (of_decide_eq_false d);have f:a.length<4611686018427387904:=f;refine⟨L.in64 (by omega) (by omega),x+1,⟨⟨by simp,trivial⟩,trivial⟩,⟨by show x+1<=a.length;omega,fun j k=> ?_⟩,by show a.length-(x+1)<a.length-x;omega⟩;by_cases e:j=x
  .subst e;exact d
  .exact g.2 j (by omega)
 .have h:(a.length:Int)=(b.length:Int):=Classical.not_not.1 (of_decide_eq_false h);have c:¬(x:Int)<(a.length:Int):=of_decide_eq_false c;have e:a=b:=L.ext_nth (by omega) fun i hi=>g.2 i (by omega)
  show(true,())=(decide (a=b),());rw[decide_eq_true e]
theorem jc0:zc PR 15 jkx:=kK jk7 jnh Tryz.func15 kcN koN
theorem jAF:jwp:=by
 unfold jwp q123_3 q123_2 q123_1 q123_0;rintro⟨c,⟨⟩⟩ _ _;refine⟨fun h=> ?_,fun h=>⟨⟨0,⟨⟨rfl,trivial⟩,trivial⟩,jFM _,fun j g=>by omega⟩,fun x f d=>⟨fun a=>⟨jF8 _,of_decide_eq_true a,fun _=>⟨fun _=>jF8 _,fun _=>of_decide_eq_true a,fun _=>⟨fun b=> ?_,fun b=> ?_⟩⟩⟩,fun a _=> ?_⟩⟩⟩
 .have h:(decide (20<((U.je c).length:Int))||decide (20<((U.kO c).length:Int)))=true:=h;show(true,())=(U.ja8 c,());unfold U.ja8;rw[h];rfl
 .have b:U.jqh (nth (U.je c) x)=true:=b;have a:(x:Int)<((U.je c).length:Int):=of_decide_eq_true a;have:(U.je c).any U.jqh=true:=jGk.2 ⟨_,L.mem_nth (l:=U.je c) (i:=x) (by omega),b⟩;show(true,())=(U.ja8 c,());unfold U.ja8;rw[this,Bool.true_or,Bool.or_true]
 .have b:U.jqh (nth (U.je c) x)=false:=b;have a:(x:Int)<((U.je c).length:Int):=of_decide_eq_true a;have d:(U.je c).length<4611686018427387904:=d;refine⟨L.in64 (by omega) (by omega),x+1,⟨⟨by simp,trivial⟩,trivial⟩,⟨by show x+1<=(U.je c).length;omega,fun j g=> ?_⟩,by show(U.je c).length-(x+1)<(U.je c).length-x;omega⟩;by_cases e:j=x
  .subst e;exact b
  .exact f.2 j (by omega)
 .have h:(decide (20<((U.je c).length:Int))||decide (20<((U.kO c).length:Int)))=false:=h;have a:¬(x:Int)<((U.je c).length:Int):=of_decide_eq_false a;have:(U.je c).any U.jqh=false:=jGo.2 fun p k=>by
   obtain⟨i,hi,rfl⟩:=L.mem_iff.1 k;rw[f.2 i (by omega)];simp
  show(U.jl c&&decide (5<((U.je c).length:Int)),())=(U.ja8 c,());unfold U.ja8;rw[h,this,Bool.false_or,Bool.false_or]
theorem jxF:zc PR 70 jwP:=kK jzr jAF Tryz.func70 (kcC jgW kcN) koN
theorem jyp:jub:=by
 unfold jub q124_0 q124_1;rintro⟨d,⟨⟩⟩ _ _ _;refine⟨fun h=> ?_,fun h=>⟨⟨0,⟨⟨rfl,trivial⟩,trivial⟩,jFM _,fun j g=>by omega⟩,fun x f c=>⟨fun a=>⟨jF8 _,of_decide_eq_true a,fun _=>⟨fun b=> ?_,fun b=> ?_⟩⟩,fun a=> ?_⟩⟩⟩
 .have h:(((U.ja8 (U.jd d)||decide (20<((U.jK d).length:Int)))||decide (20<((U.jq d).length:Int)))||decide (60<((U.kR d).length:Int)))=true:=h;show(true,())=(U.vS d,());unfold U.vS;rw[h];rfl
 .have b:U.jqg (nth (U.jK d) x)=true:=b;have a:(x:Int)<((U.jK d).length:Int):=of_decide_eq_true a;have:(U.jK d).any U.jqg=true:=jGk.2 ⟨_,L.mem_nth (l:=U.jK d) (i:=x) (by omega),b⟩;show(true,())=(U.vS d,());unfold U.vS;rw[this,Bool.or_true]
 .have b:U.jqg (nth (U.jK d) x)=false:=b;have a:(x:Int)<((U.jK d).length:Int):=of_decide_eq_true a;have c:(U.jK d).length<4611686018427387904:=c;refine⟨L.in64 (by omega) (by omega),x+1,⟨⟨by simp,trivial⟩,trivial⟩,⟨by show x+1<=(U.jK d).length;omega,fun j g=> ?_⟩,by show(U.jK d).length-(x+1)<(U.jK d).length-x;omega⟩;by_cases e:j=x
  .subst e;exact b
  .exact f.2 j (by omega)
 .have h:(((U.ja8 (U.jd d)||decide (20<((U.jK d).length:Int)))||decide (20<((U.jq d).length:Int)))||decide (60<((U.kR d).length:Int)))=false:=h;have a:¬(x:Int)<((U.jK d).length:Int):=of_decide_eq_false a;have:(U.jK d).any U.jqg=false:=jGo.2 fun p k=>by
   obtain⟨i,hi,rfl⟩:=L.mem_iff.1 k;rw[f.2 i (by omega)];simp
  show(false,())=(U.vS d,());unfold U.vS;rw[h,this];rfl
theorem juW:zc PR 30 juv:=kK jv2 jyp Tryz.func30 (kcC jxF kcN) koN
theorem jyL {c:CrD} (h:U.ja8 c=false):U.jmB c:=by
 unfold U.ja8 at h;rw[jF3,jF3,jF3,decide_eq_false_iff_not] at h;have b:=of_decide_eq_false h.1.2;refine⟨by have:=h.1.1;omega,by omega,fun p a=> ?_⟩;have:=jGo.1 h.2.1 p a;unfold U.jqh at this;rw[jGJ,decide_eq_true_iff,decide_eq_true_iff] at this;unfold U.jEV;omega
theorem jlD {d:DyD} (h:U.vS d=false):U.jiG d:=by
 unfold U.vS at h;rw[jF3,jF3,jF3,jF3] at h;obtain⟨⟨⟨⟨e,a⟩,b⟩,c⟩,f⟩:=h;have a:=of_decide_eq_false a;have b:=of_decide_eq_false b;have c:=of_decide_eq_false c;refine⟨jyL e,by omega,by omega,by omega,fun r g=> ?_⟩;have:=jGo.1 f r g;unfold U.jqg at this;rw[decide_eq_true_iff] at this;omega
theorem jAE:jwo:=by
 rintro⟨d,⟨⟩⟩;refine⟨fun h=> ?_,fun _=>rfl⟩;have h:(!U.vS d)=true:=h;rw[jF9] at h;have:=(jlD h).2.2.1;show(U.jq d).length<=1000000;omega
theorem jxE:zc PR 9 jwO:=jR jAE Tryz.func9 (kcC juW (kcC jdK kcN)) koN
theorem jyo:jua:=fun _=>rfl
theorem juV:zc PR 78 juu:=jR jyo Tryz.func78 kcN koN
theorem jpy:jmd:=fun _=>rfl
theorem jmV:zc PR 77 jmu:=jR jpy Tryz.func77 kcN koN
theorem jpx:jmc:=by
 unfold jmc q128_0;intro _;refine⟨by decide,by decide,by decide,by decide,by decide,by decide,rfl⟩
theorem jmU:zc PR 38 jmt:=jR jpx Tryz.func38 (kcC jmV (kcC juV kcN)) koN
theorem jyP:U.yu U.jk1=0:=by decide+kernel
theorem jEq:(U.jwK U.jk1).1=[8,8,3]:=by decide+kernel
theorem jEr:U.jeW (U.jwK U.jk1).2 100=[3]:=by decide+kernel
theorem jyO:(U.jDI U.jk1).2=([8,8,3],110,true):=by decide+kernel
theorem jvh:jqC:=by
 intro _;refine⟨by decide,by decide,by decide,?_⟩;have b:U.jJ U.jk1=0:=(jc8 _).trans jyP;have c:U.jku U.jk1=[8,8,3]:=(by rw[jCb,if_pos jyP];exact jEq);have d:U.jkH U.jk1=[3]:=(by rw[jCp,if_pos jyP];exact jEr);have a:U.jak U.jk1=0:=(by unfold U.jak;rw[if_pos b,jyO,if_pos rfl]);have e:U.jcN U.jk1=[8,8,3]:=(by unfold U.jcN;rw[if_pos a,jyO]);have f:U.jcM U.jk1=110:=(by unfold U.jcM;rw[if_pos a,jyO]);rw[b,c,d,a,e,f];rfl
theorem jrF:zc PR 11 jq0:=jR jvh Tryz.func11 (kcC jmU (kcC jc0 (kcC ju0 (kcC jpf (kcC jpg kcN))))) koN
theorem jtN {d:DyD} (h:U.jpR d=false):U.jiG d:=by
 unfold U.jpR at h;rw[jF3] at h;exact jlD h.1
end Go.X
namespace Go.X
open Go.Proofs
namespace U
def jvZ (d:DyD) (t:List Int) (b:Nat):Bool:=vU (jd d) (vz (nth (jq d) b)) (nth t b)
def jv0 (d:DyD) (t:List Int) (p:Nat):Bool:=ky d (p:Int) (on t (p:Int))
def zm (d:DyD) (t:List Int):Bool:=(List.range t.length).all (jvZ d t)&&(List.range (je (jd d)).length).all (jv0 d t)
def wz (d:DyD) (t:List Int) (n:Nat):Int:=(List.range n).foldl (fun s b=>s+jgC (jd d) (nth t b)) 0
def wa (d:DyD) (t:List Int):Int:=wz d t t.length
def jm (d:DyD):Nat->List Int->List (List Int)
 |0,_=>[]
 |k+1,t=>if zm d t=true then(if t.length=(jq d).length then[t] else(List.range (2^(je (jd d)).length-1)).flatMap (fun(i:Nat)=>jm d k (t++[(i:Int)+1]))) else[]
def ve (d:DyD) (k:Nat) (t:List Int) (n:Nat):List (List Int):=(List.range n).flatMap (fun(i:Nat)=>jm d k (t++[(i:Int)+1]))
def jCD (d:DyD) (t:List Int):Prop:=t.length<=(jq d).length/\∀x∈t,jxJ x
def jAm (k:Nat) (d:DyD) (t:List Int):Prop:=ja5 d/\jCD d t/\(jq d).length<t.length+k/\k<=5
def jL (d:DyD) (l:List (List Int)) (n:Nat):List Int×Int:=(List.range n).foldl (fun x i=>if wa d (nth l i)<x.2 then(nth l i,wa d (nth l i)) else x) (nth l 0,wa d (nth l 0))
def jtk (d:DyD):List (List Int):=jm d 5 []
def jkI (d:DyD):Int:=if yu d=0 then(if(jtk d).length=0 then 3 else 0) else yu d
def jtn (d:DyD):List Int:=if jkI d=0 then(jL d (jtk d) (jtk d).length).1 else[]
def jtl (d:DyD):Int:=if jkI d=0 then(jL d (jtk d) (jtk d).length).2 else 0
def jtO (d:DyD):Bool:=decide (yu d=0)&&(decide (4<((je (jd d)).length:Int))||decide (3<((jq d).length:Int)))
end U
def jeJ:jQ:=⟨[.val tDy,.val (.slice .int)],[.bool],false,fun d=>[U.ja5 d.1,U.jCD d.1 d.2.1],fun d=>(U.zm d.1 d.2.1,())⟩
def jnL:Ann:=fun r=>match r with
 |2=>some fun σ=>{X:=Nat,sl:=fun b=>[(5,.dat .int (b:Int))],ob:=fun _=>[],inv:=fun b=>b<=(gd (.slice .int) σ 1).length/\∀j:Nat,j<b->U.jvZ (gb tDy σ 2) (gd (.slice .int) σ 1) j=true,mu:=fun b=>(gd (.slice .int) σ 1).length-b}
 |7=>some fun σ=>{X:=Nat,sl:=fun p=>[(6,.dat .int (p:Int))],ob:=fun _=>[],inv:=fun p=>p<=(U.je (U.jd (gb tDy σ 2))).length/\∀j:Nat,j<p->U.jv0 (gb tDy σ 2) (gd (.slice .int) σ 1) j=true,mu:=fun p=>(U.je (U.jd (gb tDy σ 2))).length-p}
 |_=>none
def jmh:Prop:=∀(d:DyD×List Int×Unit),U.ja5 d.1->U.jCD d.1 d.2.1->(∃(x:Nat),((0=(x:Int)/\True)/\True)/\x<=d.2.1.length/\∀(j:Nat),j<x->U.jvZ d.1 d.2.1 j=true)/\∀(x:Nat),(x<=d.2.1.length/\∀(j:Nat),j<x->U.jvZ d.1 d.2.1 j=true)->d.2.1.length<4611686018427387904->(decide ((x:Int)<(d.2.1.length:Int))=true->0<=(x:Int)/\(x:Int)<(d.1.2.2.1.length:Int)/\0<=(x:Int)/\(x:Int)<(d.2.1.length:Int)/\U.jl d.1.1=true/\U.jN d.1.1 (nth d.1.2.2.1 (x:Int).toNat).1=true/\U.jxJ (nth d.2.1 (x:Int).toNat)/\((!U.vU d.1.1 (nth d.1.2.2.1 (x:Int).toNat).1 (nth d.2.1 (x:Int).toNat))=true->(false,())=(U.zm d.1 d.2.1,()))/\((!U.vU d.1.1 (nth d.1.2.2.1 (x:Int).toNat).1 (nth d.2.1 (x:Int).toNat))=false->jz ((x:Int)+1)/\∃(a:Nat),(((x:Int)+1=(a:Int)/\True)/\True)/\(a<=d.2.1.length/\∀(j:Nat),j<a->U.jvZ d.1 d.2.1 j=true)/\d.2.1.length-a<d.2.1.length-x))/\(decide ((x:Int)<(d.2.1.length:Int))=false->(∃(x:Nat),((0=(x:Int)/\True)/\True)/\x<=(U.je (U.jd d.1)).length/\∀(j:Nat),j<x->U.jv0 d.1 d.2.1 j=true)/\∀(x:Nat),(x<=(U.je (U.jd d.1)).length/\∀(j:Nat),j<x->U.jv0 d.1 d.2.1 j=true)->d.1.1.2.1.length<4611686018427387904->(decide ((x:Int)<(d.1.1.2.1.length:Int))=true->d.2.1.length<=1000/\(0<=(x:Int)/\(x:Int)<=63)/\U.ja5 d.1/\U.jnU d.1 (x:Int)/\U.jhI d.1 (U.on d.2.1 (x:Int))/\((!U.ky d.1 (x:Int) (U.on d.2.1 (x:Int)))=true->(false,())=(U.zm d.1 d.2.1,()))/\((!U.ky d.1 (x:Int) (U.on d.2.1 (x:Int)))=false->jz ((x:Int)+1)/\∃(a:Nat),(((x:Int)+1=(a:Int)/\True)/\True)/\(a<=(U.je (U.jd d.1)).length/\∀(j:Nat),j<a->U.jv0 d.1 d.2.1 j=true)/\(U.je (U.jd d.1)).length-a<(U.je (U.jd d.1)).length-x))/\(decide ((x:Int)<(d.1.1.2.1.length:Int))=false->(true,())=(U.zm d.1 d.2.1,())))
def juD:jQ:=⟨[.val tDy,.val (.slice .int)],[.int],false,fun d=>[U.ja5 d.1,d.2.1.length<=100],fun d=>(U.wa d.1 d.2.1,())⟩
def jv5:Ann:=fun r=>match r with
 |3=>some fun σ=>{X:=Nat,sl:=fun b=>[(6,.dat .int (b:Int)),(5,.dat .int (U.wz (gb tDy σ 2) (gd (.slice .int) σ 1) b))],ob:=fun _=>[],inv:=fun b=>b<=(gd (.slice .int) σ 1).length,mu:=fun b=>(gd (.slice .int) σ 1).length-b}
 |_=>none
def juj:Prop:=∀(d:DyD×List Int×Unit),U.ja5 d.1->d.2.1.length<=100->(∃(x:Nat),((0=(x:Int)/\0=U.wz d.1 d.2.1 x/\True)/\True)/\x<=d.2.1.length)/\∀(x:Nat),x<=d.2.1.length->d.2.1.length<4611686018427387904->(decide ((x:Int)<(d.2.1.length:Int))=true->0<=(x:Int)/\(x:Int)<(d.2.1.length:Int)/\U.jl d.1.1=true/\jz (U.wz d.1 d.2.1 x+U.jgC d.1.1 (nth d.2.1 (x:Int).toNat))/\jz ((x:Int)+1)/\∃(a:Nat),(((x:Int)+1=(a:Int)/\U.wz d.1 d.2.1 x+U.jgC d.1.1 (nth d.2.1 (x:Int).toNat)=U.wz d.1 d.2.1 a/\True)/\True)/\a<=d.2.1.length/\d.2.1.length-a<d.2.1.length-x)/\(decide ((x:Int)<(d.2.1.length:Int))=false->(U.wz d.1 d.2.1 x,())=(U.wa d.1 d.2.1,()))
def jdv (k:Nat):zK:=⟨[.val tDy,.val (.slice .int)],[.cl (.dat (.slice (.slice .int)))],fun d=>[U.jAm k d.1 d.2.1],fun d=>((U.jm d.1 k d.2.1,()),())⟩
def jsN (k:Nat):Ann:=fun r=>match r with
 |7=>some fun σ=>{X:=Nat,sl:=fun n=>[(6,.dat .int ((n:Int)+1)),(5,.own 5 (.slice .int))],ob:=fun n=>[(5,some (.row 33 (.slice .int) false .yes (U.ve (gb tDy σ 2) k (gd (.slice .int) σ 1) n)))],inv:=fun n=>n<=2^(U.je (U.jd (gb tDy σ 2))).length-1,mu:=fun n=>2^(U.je (U.jd (gb tDy σ 2))).length-n}
 |_=>none
def juS:Prop:=∀k:Nat,jrP (ctx 40 [(84,jeJ)] [(43,jdv k)]) (jsN k) Tryz.f43 (zu Tryz.f43) (jdv (k+1))
abbrev q132_0 (d:DyD×List Int×Unit):=(d.1.1.2.1.length:Int)
def jiq:Prop:=∀(k:Nat) (d:DyD×List Int×Unit),U.jAm (k+1) d.1 d.2.1->U.ja5 d.1/\U.jCD d.1 d.2.1/\((!U.zm d.1 d.2.1)=true->([],())=(U.jm d.1 (k+1) d.2.1,())/\()=())/\((!U.zm d.1 d.2.1)=false->d.2.1.length<4611686018427387904->d.1.2.2.1.length<4611686018427387904->(decide ((d.2.1.length:Int)=(d.1.2.2.1.length:Int))=true->([d.2.1],())=(U.jm d.1 (k+1) d.2.1,())/\()=())/\(decide ((d.2.1.length:Int)=(d.1.2.2.1.length:Int))=false->(∃(x:Nat),((1=(x:Int)+1/\True/\True)/\U.ve d.1 k d.2.1 x=[]/\True)/\x<=2^(U.je (U.jd d.1)).length-1)/\∀(x:Nat),x<=2^(U.je (U.jd d.1)).length-1->d.1.1.2.1.length<4611686018427387904->0<=(q132_0 d)/\(q132_0 d)<=18446744073709551615/\0<=(q132_0 d)/\(q132_0 d)<=64/\jz ((1:Int)*2^(q132_0 d).toNat)/\(decide ((x:Int)+1<1*2^(q132_0 d).toNat)=true->(0+d.2.1.length)*8<=140737488355328/\(([]++d.2.1).length+[(x:Int)+1].length)*8<=140737488355328/\U.jAm k d.1 ([]++d.2.1++[(x:Int)+1])/\((U.ve d.1 k d.2.1 x).length+(U.jm d.1 k ([]++d.2.1++[(x:Int)+1])).length)*24<=140737488355328/\jz ((x:Int)+1+1)/\∃(a:Nat),(((x:Int)+1+1=(a:Int)+1/\True/\True)/\U.ve d.1 k d.2.1 x++U.jm d.1 k ([]++d.2.1++[(x:Int)+1])=U.ve d.1 k d.2.1 a/\True)/\a<=2^(U.je (U.jd d.1)).length-1/\2^(U.je (U.jd d.1)).length-a<2^(U.je (U.jd d.1)).length-x)/\(decide ((x:Int)+1<1*2^(q132_0 d).toNat)=false->(U.ve d.1 k d.2.1 x,())=(U.jm d.1 (k+1) d.2.1,())/\()=())))
theorem jkr:(juS)=jiq:=by kernel_rfl
def juC:jQ:=⟨[.val tDy],[.slice .int,.int,.int],false,fun d=>[(U.jq d.1).length<=1000000],fun d=>(U.jtn d.1,U.jtl d.1,U.jkI d.1,())⟩
def jv4:Ann:=fun r=>match r with
 |9=>some fun σ=>{X:=Nat,sl:=fun i=>[(7,.dat .int (i:Int)),(2,.dat (.slice .int) (U.jL (gb tDy σ 1) (gd (.slice (.slice .int)) σ 6) i).1),(3,.dat .int (U.jL (gb tDy σ 1) (gd (.slice (.slice .int)) σ 6) i).2)],ob:=fun _=>[],inv:=fun i=>i<=(gd (.slice (.slice .int)) σ 6).length,mu:=fun i=>(gd (.slice (.slice .int)) σ 6).length-i}
 |_=>none
abbrev q133_0 (d:DyD×Unit):=(U.jm d.1 5 [])
abbrev q133_1 (d:DyD×Unit):=(↑(q133_0 d).length:Int)
abbrev q133_2 (d:DyD×Unit)(x:Nat):=(U.jL d.1 (q133_0 d) x)
abbrev q133_3 (d:DyD×Unit):=(U.jtn d.1,U.jtl d.1,U.jkI d.1,())
def jui:Prop:=∀(d:DyD×Unit),(U.jq d.1).length<=1000000->(U.jq d.1).length<=1000000/\(decide (U.yu d.1≠0)=true->([],(0:Int),U.yu d.1,())=(q133_3 d))/\(decide (U.yu d.1≠0)=false->U.jAm 5 d.1 []/\((q133_0 d).length<4611686018427387904->(decide ((q133_1 d)=0)=true->([],(0:Int),(3:Int),())=(q133_3 d))/\(decide ((q133_1 d)=0)=false->(0:Int)<=0/\(0:Int)<(q133_1 d)/\(0:Int)<=0/\(0:Int)<(q133_1 d)/\U.ja5 d.1/\(nth (q133_0 d) (Int.toNat 0)).length<=100/\(∃(x:Nat),((0=(x:Int)/\nth (q133_0 d) (Int.toNat 0)=(q133_2 d x).1/\U.wa d.1 (nth (q133_0 d) (Int.toNat 0))=(q133_2 d x).2/\True)/\True)/\x<=(q133_0 d).length)/\∀(x:Nat),x<=(q133_0 d).length->(q133_0 d).length<4611686018427387904->(decide ((x:Int)<(q133_1 d))=true->0<=(x:Int)/\(x:Int)<(q133_1 d)/\U.ja5 d.1/\(nth (q133_0 d) (x:Int).toNat).length<=100/\(decide (U.wa d.1 (nth (q133_0 d) (x:Int).toNat)<(q133_2 d x).2)=true->0<=(x:Int)/\(x:Int)<(q133_1 d)/\jz ((x:Int)+1)/\∃(a:Nat),(((x:Int)+1=(a:Int)/\U.wa d.1 (nth (q133_0 d) (x:Int).toNat)=(U.jL d.1 (q133_0 d) a).2/\nth (q133_0 d) (x:Int).toNat=(U.jL d.1 (q133_0 d) a).1/\True)/\True)/\a<=(q133_0 d).length/\(q133_0 d).length-a<(q133_0 d).length-x)/\(decide (U.wa d.1 (nth (q133_0 d) (x:Int).toNat)<(q133_2 d x).2)=false->jz ((x:Int)+1)/\∃(a:Nat),(((q133_2 d x).2=(U.jL d.1 (q133_0 d) a).2/\(q133_2 d x).1=(U.jL d.1 (q133_0 d) a).1/\(x:Int)+1=(a:Int)/\True)/\True)/\a<=(q133_0 d).length/\(q133_0 d).length-a<(q133_0 d).length-x))/\(decide ((x:Int)<(q133_1 d))=false->((q133_2 d x).1,(q133_2 d x).2,(0:Int),())=(q133_3 d)))))
def jms:jQ:=⟨[.val tDy],[.bool],false,fun d=>[(U.jq d.1).length<=1000000],fun d=>(U.jtO d.1,())⟩
def jmb:Prop:=∀(d:DyD×Unit),(U.jq d.1).length<=1000000->(U.jq d.1).length<=1000000/\((decide (U.yu d.1=0)=true->d.1.1.2.1.length<4611686018427387904)->((decide (U.yu d.1=0)&& !decide (4<(d.1.1.2.1.length:Int)))=true->d.1.2.2.1.length<4611686018427387904)->(decide (U.yu d.1=0)&&(decide (4<(d.1.1.2.1.length:Int))||decide (3<(d.1.2.2.1.length:Int))),())=(U.jtO d.1,()))
def jeE:jQ:=jx8 [tDy]
abbrev q135_0:=(Ty.int.pair (Ty.int.pair Ty.unit))
abbrev q135_1:=(Ty.int.pair (Ty.int.pair (Ty.int.pair q135_0)))
def jeq:Prop:=∀(d:DyD×Unit),jnu 1048576 [(Ty.int.pair ((Ty.int.slice.pair (Ty.int.pair (Ty.int.pair (Ty.int.slice.pair (Ty.bool.pair (Ty.int.pair Ty.unit)))))).slice.pair ((Ty.int.pair (Ty.int.pair (Ty.bool.pair Ty.unit))).slice.pair Ty.unit))).pair (q135_0.slice.slice.pair (((Ty.int.pair q135_1).pair (Ty.int.pair q135_0)).slice.pair (Ty.int.pair (Ty.int.pair (q135_1.slice.pair Ty.unit)))))] d->((!U.jpR d.1)=true->(U.jq d.1).length<=1000000)/\((U.jpR d.1||U.jtO d.1)=true->(true,())=(true,()))/\((U.jpR d.1||U.jtO d.1)=false->U.jiG d.1/\(U.kR d.1).length<=100000/\(U.jq d.1).length<=1000000/\(decide (U.jcN d.1=U.jtn d.1)&&decide (U.jcM d.1=U.jtl d.1)&&decide (U.jak d.1=U.jkI d.1)&&true,())=(true,()))
end Go.X
namespace Go.X
open Go.Proofs
theorem jvY {d:DyD} {t:List Int} {x:Nat} (a:x<t.length) (h:U.jvZ d t x=false):U.zm d t=false:=by
 unfold U.zm;have:(List.range t.length).all (U.jvZ d t)=false:=jGD.2 ⟨x,jFP.2 a,by rw[h];simp⟩;rw[this];rfl
theorem jzp {d:DyD} {t:List Int} {x:Nat} (a:x<(U.je (U.jd d)).length) (h:U.jv0 d t x=false):U.zm d t=false:=by
 unfold U.zm;have:(List.range (U.je (U.jd d)).length).all (U.jv0 d t)=false:=jGD.2 ⟨x,jFP.2 a,by rw[h];simp⟩;rw[this,Bool.and_false]
theorem jzn {d:DyD} {t:List Int} (b:∀j:Nat,j<t.length->U.jvZ d t j=true) (c:∀j:Nat,j<(U.je (U.jd d)).length->U.jv0 d t j=true):U.zm d t=true:=by
 unfold U.zm;rw[jFD,jFW,jFW];exact⟨fun j a=>b j (jFP.1 a),fun j a=>c j (jFP.1 a)⟩
section
attribute [local irreducible] U.zm U.vU U.ky U.on U.ja5 U.jxJ
theorem jpC:jmh:=by
 rintro⟨d,t,⟨⟩⟩ g v;have g:U.ja5 d:=g;have f:=g;unfold U.ja5 at f;obtain⟨w,m⟩:U.jCD d t:=v;have z:(U.je (U.jd d)).length<=8:=(jx f.1).2.2.1;have s:(U.jq d).length<=4:=(zl f.2.2).1;refine⟨⟨0,⟨⟨rfl,trivial⟩,trivial⟩,jFM _,fun j k=>by omega⟩,fun x o A=>⟨fun h=> ?_,fun h=>⟨⟨0,⟨⟨rfl,trivial⟩,trivial⟩,jFM _,fun j k=>by omega⟩,fun y q _=>⟨fun a=> ?_,fun a=> ?_⟩⟩⟩⟩
 .have h:(x:Int)<(t.length:Int):=of_decide_eq_true h;have x0:(0:Int)<=(x:Int):=jF8 x;have n:(x:Int)<((U.jq d).length:Int):=(by omega);refine⟨x0,n,x0,h,f.1,jyd g (by omega),m _ (L.mem_nth (l:=t) (i:=x) (by omega)),fun a=> ?_,fun a=>⟨L.in64 (by omega) (by omega),x+1,⟨⟨by simp,trivial⟩,trivial⟩,⟨by show x+1<=t.length;omega,fun j k=> ?_⟩,by show t.length-(x+1)<t.length-x;omega⟩⟩
  .have a:(!U.jvZ d t x)=true:=a;rw[jF9] at a;have e:=jvY (d:=d) (t:=t) (x:=x) (by omega) a;show(false,())=(U.zm d t,());rw[e]
  .have a:(!U.jvZ d t x)=false:=a;rw[jGl] at a;by_cases e:j=x
   .subst e;exact a
   .exact o.2 j (by omega)
 .have a:(y:Int)<((U.je (U.jd d)).length:Int):=of_decide_eq_true a;have r:(0:Int)<=(y:Int):=jF8 y;have B:=jD1 t (y:Int);refine⟨by show t.length<=1000;omega,⟨r,by omega⟩,g,⟨r,a⟩,⟨by show(U.on t (y:Int)).length<=12;omega,fun c u=> ?_⟩,fun b=> ?_,fun b=>⟨L.in64 (by omega) (by omega),y+1,⟨⟨by simp,trivial⟩,trivial⟩,⟨by show y+1<=(U.je (U.jd d)).length;omega,fun j k=> ?_⟩,by show(U.je (U.jd d)).length-(y+1)<(U.je (U.jd d)).length-y;omega⟩⟩
  .have:=jBE (t:=t) (p:=(y:Int)) u;exact⟨this.1,by show c<((U.jq d).length:Int);omega⟩
  .have b:(!U.jv0 d t y)=true:=b;rw[jF9] at b;have e:=jzp (d:=d) (t:=t) (x:=y) (by omega) b;show(false,())=(U.zm d t,());rw[e]
  .have b:(!U.jv0 d t y)=false:=b;rw[jGl] at b;by_cases e:j=y
   .subst e;exact b
   .exact q.2 j (by omega)
 .have h:¬(x:Int)<(t.length:Int):=of_decide_eq_false h;have a:¬(y:Int)<((U.je (U.jd d)).length:Int):=of_decide_eq_false a;have e:=jzn (d:=d) (t:=t) (fun j k=>o.2 j (by omega)) (fun j k=>q.2 j (by omega));show(true,())=(U.zm d t,());rw[e]
end
theorem jmY:zc PR 84 jeJ:=kK jnL jpC Tryz.func84 (kcC ju6 (kcC jAi (kcC jrK kcN))) koN
theorem jgB {c:CrD} (h:U.jl c=true) (t:Int):0<=U.jgC c t/\U.jgC c t<=8000:=by
 have b:(U.je c).length<=8:=(jx h).2.2.1;have:∀n,n<=(U.je c).length->0<=U.zJ c t n/\U.zJ c t n<=1000*(n:Int):=by
  intro n
  induction n with
  |zero=>intro _;show(0:Int)<=0/\(0:Int)<=_;omega
  |succ n a=>
   intro f;have a:=a (by omega);have d:=jfw h (i:=n) (by omega);have e:U.zJ c t (n+1)=if U.jM t (n:Int)=true then U.zJ c t n+U.fe (nth (U.je c) n) else U.zJ c t n:=by
    unfold U.zJ;rw[jF5,jFX];rfl
   rw[e]
   split<;>omega
 have:=this _ (jFE _);unfold U.jgC;omega
theorem vX (d:DyD) (t:List Int) (n:Nat):U.wz d t (n+1)=U.wz d t n+U.jgC (U.jd d) (nth t n):=by
 unfold U.wz;rw[jF5,jFX];rfl
theorem jha {d:DyD} (h:U.jl (U.jd d)=true) (t:List Int):∀n,0<=U.wz d t n/\U.wz d t n<=8000*(n:Int)
 |0=>by show(0:Int)<=0/\(0:Int)<=_;omega
 |n+1=>by
  have a:=jha h t n
  have:=jgB h (nth t n)
  rw[vX];omega
section
attribute [local irreducible] U.wz U.jgC
theorem jb2 (d:DyD) (t:List Int):U.wz d t 0=0:=by unfold U.wz;rfl
theorem jyx:juj:=by
 rintro⟨d,t,⟨⟩⟩ a c;have a:U.ja5 d:=a;have c:t.length<=100:=c;refine⟨⟨0,⟨⟨rfl,(jb2 _ _).symm,trivial⟩,trivial⟩,jFM _⟩,fun x e _=>⟨fun h=> ?_,fun h=> ?_⟩⟩
 .have h:(x:Int)<(t.length:Int):=of_decide_eq_true h;have f:=jha a.1 t x;have g:=jgB a.1 (nth t x);exact⟨jF8 _,h,a.1,by show jz (U.wz d t x+U.jgC (U.jd d) (nth t x));exact L.in64 (by omega) (by omega),L.in64 (by omega) (by omega),x+1,⟨⟨by simp,(vX d t x).symm,trivial⟩,trivial⟩,by show x+1<=t.length;omega,by show t.length-(x+1)<t.length-x;omega⟩
 .have h:¬(x:Int)<(t.length:Int):=of_decide_eq_false h;have e:x<=t.length:=e;have b:x=t.length:=(by omega);subst b;rfl
end
theorem ju3:zc PR 44 juD:=kK jv5 jyx Tryz.func44 (kcC jxI kcN) koN
theorem jlq (d:DyD) (k:Nat) (t:List Int) (n:Nat):U.ve d k t (n+1)=U.ve d k t n++U.jm d k (t++[(n:Int)+1]):=by
 unfold U.ve;rw[jF5,List.flatMap_append];simp
theorem jmM {d:DyD} {k:Nat} {t:List Int} {N:Nat} (h:∀x:Int,(U.jm d k (t++[x])).length<=N):∀n,(U.ve d k t n).length<=n*N
 |0=>jFM _
 |n+1=>by
  have a:=jmM h n
  have:=h ((n:Int)+1)
  rw[jlq,jFY,jGj]
  omega
theorem jeY {d:DyD} (a:(U.je (U.jd d)).length<=8):∀(k:Nat) (t:List Int),(U.jm d k t).length<=256^k
 |0,_=>jFM _
 |k+1,t=>by
  have c:=jeY a k
  have b:(2:Nat)^(U.je (U.jd d)).length<=2^8:=jGH (by decide) a
  have h:0<256^k:=Nat.pow_pos (by decide)
  have f:=jmM (d:=d) (k:=k) (t:=t) (fun x=>c _) (2^(U.je (U.jd d)).length-1)
  have g:(2^(U.je (U.jd d)).length-1)*256^k<=256*256^k:=jFS _ (by omega)
  have e:256^(k+1)=256*256^k:=by rw[Nat.pow_succ,Nat.mul_comm]
  rw[e]
  show(if U.zm d t=true then(if t.length=(U.jq d).length then[t] else U.ve d k t (2^(U.je (U.jd d)).length-1)) else[]).length<=_
  split
  .split
   .show 1<=_;omega
   .omega
  .exact jFM _
theorem joW {d:DyD}:∀(k:Nat) (t:List Int),∀l∈U.jm d k t,l.length=(U.jq d).length
 |0,_,l,h=>by cases h
 |k+1,t,l,h=>by
  have h:l∈(if U.zm d t=true then(if t.length=(U.jq d).length then[t] else(List.range (2^(U.je (U.jd d)).length-1)).flatMap (fun(i:Nat)=>U.jm d k (t++[(i:Int)+1]))) else[]):=h
  split at h
  .split at h
   .rename_i a
    simp at h;subst h;exact a
   .obtain⟨i,_,h⟩:=List.mem_flatMap.1 h
    exact joW k _ l h
  .cases h
theorem jch (d:DyD) (k:Nat) (t:List Int):U.jm d (k+1) t=if U.zm d t=true then(if t.length=(U.jq d).length then[t] else U.ve d k t (2^(U.je (U.jd d)).length-1)) else[]:=rfl
theorem juP (d:DyD) (k:Nat) (t:List Int):U.ve d k t 0=[]:=rfl
section
attribute [local irreducible] U.jm U.ve U.zm U.ja5 U.jxJ
theorem jvm:jiq:=by
 unfold jiq q132_0;rintro k ⟨d,t,⟨⟩⟩ u;obtain⟨n,⟨q,j⟩,z,y⟩:U.jAm (k+1) d t:=u;have g:=n;unfold U.ja5 at g;have l:(U.je (U.jd d)).length<=8:=(jx g.1).2.2.1;have v:(U.jq d).length<=4:=(zl g.2.2).1;have i:=jch d k t;refine⟨n,⟨q,j⟩,fun h=>⟨?_,rfl⟩,fun h _ _=>⟨fun f=>⟨?_,rfl⟩,fun f=>⟨⟨0,⟨⟨rfl,trivial,trivial⟩,juP _ _ _,trivial⟩,jFM _⟩,fun x r _=>⟨jF8 _,by show((U.je (U.jd d)).length:Int)<=18446744073709551615;omega,jF8 _,by show((U.je (U.jd d)).length:Int)<=64;omega,?_,fun b=> ?_,fun b=>⟨?_,rfl⟩⟩⟩⟩⟩
 .have h:(!U.zm d t)=true:=h;rw[jF9] at h;show([],())=(U.jm d (k+1) t,());rw[i,h,if_neg (by simp)]
 .have h:(!U.zm d t)=false:=h;rw[jGl] at h;have f:(t.length:Int)=((U.jq d).length:Int):=of_decide_eq_true f;show([t],())=(U.jm d (k+1) t,());rw[i,if_pos h,if_pos (by omega)]
 .show jz (1*2^(U.je (U.jd d)).length);have a:(2:Nat)^(U.je (U.jd d)).length<=2^8:=jGH (by decide) l;rw[vK,BT.two_nat];clear r;generalize 2^(U.je (U.jd d)).length=m at a⊢;have a:m<=256:=a;exact L.in64 (by omega) (by omega)
 .have f:¬(t.length:Int)=((U.jq d).length:Int):=of_decide_eq_false f;have b:(x:Int)+1<1*2^(U.je (U.jd d)).length:=of_decide_eq_true b;have a:(2:Nat)^(U.je (U.jd d)).length<=2^8:=jGH (by decide) l;have B:x+1<2^(U.je (U.jd d)).length:=jCu (x:=x+1) (by simpa using b);have A:=jlq d k t x;have o:k<=4:=(by omega);have p:256^k<=256^4:=jGH (by decide) o;have C:=jmM (d:=d) (k:=k) (t:=t) (fun x=>jeY l k _) x;have D:=jeY l k ([]++t++[(x:Int)+1]);have E:x*256^k<=256*256^4:=Nat.mul_le_mul (by omega) p;refine⟨by show(0+t.length)*8<=140737488355328;omega,by show(t.length+1)*8<=140737488355328;omega,⟨n,⟨?_,fun c e=> ?_⟩,?_,by omega⟩,?_,L.in64 (by omega) (by omega),x+1,⟨⟨by simp,trivial,trivial⟩,A.symm,trivial⟩,by show x+1<=2^(U.je (U.jd d)).length-1;omega,by show 2^(U.je (U.jd d)).length-(x+1)<2^(U.je (U.jd d)).length-x;omega⟩
  .show(t++[(x:Int)+1]).length<=(U.jq d).length;rw[jFY];simp;omega
  .have e:c∈t++[(x:Int)+1]:=e;rcases jFL.1 e with e|e
   .exact j c e
   .simp at e;subst e;unfold U.jxJ;omega
  .show(U.jq d).length<(t++[(x:Int)+1]).length+k;rw[jFY];simp;omega
  .show((U.ve d k t x).length+(U.jm d k ([]++t++[(x:Int)+1])).length)*24<=140737488355328;omega
 .have h:(!U.zm d t)=false:=h;rw[jGl] at h;have f:¬(t.length:Int)=((U.jq d).length:Int):=of_decide_eq_false f;have b:¬(x:Int)+1<1*2^(U.je (U.jd d)).length:=of_decide_eq_false b;rw[vK,BT.two_nat] at b;have r:x<=2^(U.je (U.jd d)).length-1:=r;have s:x=2^(U.je (U.jd d)).length-1:=by
   have:¬x+1<2^(U.je (U.jd d)).length:=fun w=>b (by have:=Int.ofNat_lt.2 w;simpa using this)
   omega
  subst s;show(U.ve d k t (2^(U.je (U.jd d)).length-1),())=(U.jm d (k+1) t,());rw[i,if_pos h,if_neg (by omega)]
end
theorem ji5:∀k:Nat,qa PR 43 (jdv k)
 |0=>⟨wi Tryz.func43 (c:=zu Tryz.f43) (by kernel_rfl) (by kernel_rfl),fun H w vals d bs _ _ _ b=>by
  obtain⟨⟨_,⟨e,_⟩,a,_⟩,_⟩:=b
  exact absurd a (by omega)⟩
 |k+1=>jAq (jkr.mpr jvm k) Tryz.func43 (by kernel_rfl) (by kernel_rfl) (by kernel_rfl) (by kernel_rfl) (by kernel_rfl) ⟨fun _=>jmY,trivial⟩ ⟨ji5 k,trivial⟩
theorem jeb (d:DyD) (l:List (List Int)) (n:Nat):U.jL d l (n+1)=if U.wa d (nth l n)<(U.jL d l n).2 then(nth l n,U.wa d (nth l n)) else U.jL d l n:=by
 unfold U.jL;rw[jF5,jFX];rfl
theorem jka (d:DyD) (l:List (List Int)):U.jL d l 0=(nth l 0,U.wa d (nth l 0)):=rfl
theorem jE0 {d:DyD} (h:U.yu d≠0):([],(0:Int),U.yu d,())=(U.jtn d,U.jtl d,U.jkI d,()):=by
 have e:U.jkI d=U.yu d:=(by unfold U.jkI;rw[if_neg h]);unfold U.jtn U.jtl;rw[e,if_neg h,if_neg h]
theorem jEZ {d:DyD} (h:U.yu d=0) (a:(U.jm d 5 []).length=0):([],(0:Int),(3:Int),())=(U.jtn d,U.jtl d,U.jkI d,()):=by
 have e:U.jkI d=3:=(by unfold U.jkI U.jtk;rw[if_pos h,if_pos a]);unfold U.jtn U.jtl;rw[e,if_neg (by decide),if_neg (by decide)]
theorem jDY {d:DyD} (h:U.yu d=0) (a:¬(U.jm d 5 []).length=0):((U.jL d (U.jm d 5 []) (U.jm d 5 []).length).1,(U.jL d (U.jm d 5 []) (U.jm d 5 []).length).2,(0:Int),())=(U.jtn d,U.jtl d,U.jkI d,()):=by
 have e:U.jkI d=0:=(by unfold U.jkI U.jtk;rw[if_pos h,if_neg a]);unfold U.jtn U.jtl U.jtk;rw[e,if_pos rfl,if_pos rfl]
section
attribute [local irreducible] U.jm U.jL U.wa U.yu U.jtn U.jtl U.jkI U.ja5
theorem jyw:jui:=by
 unfold jui q133_3 q133_2 q133_1 q133_0;rintro⟨d,⟨⟩⟩ t;refine⟨t,fun h=> ?_,fun h=> ?_⟩
 .have h:U.yu d≠0:=of_decide_eq_true h;exact jE0 h
 .have h:U.yu d=0:=Classical.not_not.1 (of_decide_eq_false h);have k:=jEw h;have g:=k;unfold U.ja5 at g;have s:(U.jq d).length<=4:=(zl g.2.2).1;have b:∀i,i<(U.jm d 5 []).length->(nth (U.jm d 5 []) i).length<=100:=fun i hi=>by
   have:=joW 5 [] _ (L.mem_nth hi);omega
  refine⟨⟨k,⟨jFM _,fun x m=>by cases m⟩,by show(U.jq d).length<0+5;omega,jFE _⟩,fun _=>⟨fun j=> ?_,fun j=> ?_⟩⟩
  .have j:((U.jm d 5 []).length:Int)=0:=of_decide_eq_true j;have c:(U.jm d 5 []).length=0:=(by omega);exact jEZ h c
  .have j:¬((U.jm d 5 []).length:Int)=0:=of_decide_eq_false j;have c:¬(U.jm d 5 []).length=0:=fun e=>j (by rw[e];rfl)
   have p:(0:Int)<((U.jm d 5 []).length:Int):=(by omega);have q:=jka d (U.jm d 5 []);refine⟨jGy 0,p,jGy 0,p,k,b 0 (by omega),⟨0,⟨⟨rfl,by rw[q];rfl,by rw[q];rfl,trivial⟩,trivial⟩,jFM _⟩,fun x m _=>⟨fun f=> ?_,fun f=> ?_⟩⟩
   .have f:(x:Int)<((U.jm d 5 []).length:Int):=of_decide_eq_true f;have x0:(0:Int)<=(x:Int):=jF8 x;have l:=jeb d (U.jm d 5 []) x;have i64:jz ((x:Int)+1):=by
     have u:(U.jm d 5 []).length<=256^5:=jeY ((jx g.1).2.2.1) 5 [];exact L.in64 (by omega) (by omega)
    have r:x+1<=(U.jm d 5 []).length:=(by omega);have o:(U.jm d 5 []).length-(x+1)<(U.jm d 5 []).length-x:=(by omega);refine⟨x0,f,k,b x (by omega),fun a=>⟨x0,f,i64,x+1,⟨⟨by simp,?_,?_,trivial⟩,trivial⟩,r,o⟩,fun a=>⟨i64,x+1,⟨⟨?_,?_,by simp,trivial⟩,trivial⟩,r,o⟩⟩
    .have a:U.wa d (nth (U.jm d 5 []) x)<(U.jL d (U.jm d 5 []) x).2:=of_decide_eq_true a;show U.wa d (nth (U.jm d 5 []) x)=(U.jL d (U.jm d 5 []) (x+1)).2;rw[l,if_pos a]
    .have a:U.wa d (nth (U.jm d 5 []) x)<(U.jL d (U.jm d 5 []) x).2:=of_decide_eq_true a;show nth (U.jm d 5 []) x=(U.jL d (U.jm d 5 []) (x+1)).1;rw[l,if_pos a]
    .have a:¬U.wa d (nth (U.jm d 5 []) x)<(U.jL d (U.jm d 5 []) x).2:=of_decide_eq_false a;show _=(U.jL d (U.jm d 5 []) (x+1)).2;rw[l,if_neg a]
    .have a:¬U.wa d (nth (U.jm d 5 []) x)<(U.jL d (U.jm d 5 []) x).2:=of_decide_eq_false a;show _=(U.jL d (U.jm d 5 []) (x+1)).1;rw[l,if_neg a]
   .have f:¬(x:Int)<((U.jm d 5 []).length:Int):=of_decide_eq_false f;have m:x<=(U.jm d 5 []).length:=m;have n:x=(U.jm d 5 []).length:=(by omega);subst n;exact jDY h c
end
theorem ju2:zc PR 14 juC:=kK jv4 jyw Tryz.func14 (kcC jdK (kcC ju3 kcN)) (koC (ji5 5) koN)
theorem jpw:jmb:=by
 rintro⟨d,⟨⟩⟩ a;exact⟨a,fun _ _=>rfl⟩
theorem jmT:zc PR 10 jms:=jR jpw Tryz.func10 (kcC jdK kcN) koN
end Go.X
namespace Go.X
def upd (d:DyD) (x:List Int×Int×Bool) (l:List Int):List Int×Int×Bool:=if(x.2.2&&decide (x.2.1<=U.wa d l))=true then x else(l,U.wa d l,true)
theorem jsX (d:DyD) (l:List (List Int)):∀n,n<=l.length->0<n->(l.take n).foldl (upd d) (U.qX,0,false)=((U.jL d l n).1,(U.jL d l n).2,true)
 |0,_,h=>absurd h (by omega)
 |1,b,_=>by
  rw[L.take_succ (by omega),jFX]
  have a:U.jL d l 1=(nth l 0,U.wa d (nth l 0)):=by
   rw[jeb,jka];show(if U.wa d (nth l 0)<U.wa d (nth l 0) then _ else _)=_;rw[if_neg (by omega)]
  rw[a];rfl
 |n+2,b,_=>by
  have e:=jsX d l (n+1) (by omega) (by omega);have c:U.jL d l (n+2)=if U.wa d (nth l (n+1))<(U.jL d l (n+1)).2 then(nth l (n+1),U.wa d (nth l (n+1))) else U.jL d l (n+1):=jeb d l (n+1);rw[L.take_succ (by omega),jFX,e,c];generalize U.jL d l (n+1)=B;show upd d (B.1,B.2,true) (nth l (n+1))=_;unfold upd;by_cases h:U.wa d (nth l (n+1))<B.2
  .rw[if_pos h,if_neg (by simp;omega)]
  .rw[if_neg h,if_pos (by simp;omega)]
theorem jtx {a b:List Int} {i:Nat} (h:i<a.length):nth (a++b) i=nth a i:=by
 rw[L.nth_lt (by rw[jFY];omega),L.nth_lt h,List.getElem_append_left h]
theorem jrR (a:List Int) (x:Int):nth (a++[x]) a.length=x:=by
 rw[L.nth_lt (by simp)];simp
theorem jA3 (d:DyD):U.wa d []=0:=rfl
theorem jsD (d:DyD) (a b:List Int) (n:Nat) (e:n<=a.length):U.wz d (a++b) n=U.wz d a n:=by
 induction n with
 |zero=>rw[jb2,jb2]
 |succ n c=>rw[vX,vX,c (by omega),jtx (by omega)]
theorem jp9 (d:DyD) (a:List Int) (x:Int):U.wa d (a++[x])=U.wa d a+U.jgC (U.jd d) x:=by
 unfold U.wa;have:(a++[x]).length=a.length+1:=(by simp);rw[this,vX,jsD d a [x] _ (jFE _),jrR]
theorem jA4 {d:DyD} (h:U.jl (U.jd d)=true) (a:List Int):∀b:List Int,U.wa d a<=U.wa d (a++b):=by
 intro b
 induction b generalizing a with
 |nil=>rw[jGb];exact jGy _
 |cons x b c=>
  have e:a++x::b=(a++[x])++b:=(by simp);have f:=c (a++[x]);have g:=jp9 d a x;have i:=jgB h x;rw[e];omega
theorem joV {d:DyD}:∀(k:Nat) (t:List Int),∀l∈U.jm d k t,∃s,l=t++s
 |0,_,l,h=>by cases h
 |k+1,t,l,h=>by
  have h:l∈(if U.zm d t=true then(if t.length=(U.jq d).length then[t] else(List.range (2^(U.je (U.jd d)).length-1)).flatMap (fun(i:Nat)=>U.jm d k (t++[(i:Int)+1]))) else[]):=h
  split at h
  .split at h
   .simp at h;subst h;exact⟨[],by simp⟩
   .obtain⟨i,_,h⟩:=List.mem_flatMap.1 h
    obtain⟨s,a⟩:=joV k _ l h
    exact⟨((i:Int)+1)::s,by rw[a];simp⟩
  .cases h
theorem jsW {d:DyD} {x:List Int×Int×Bool}:∀l:List (List Int),(∀t∈l,(x.2.2&&decide (x.2.1<=U.wa d t))=true)->l.foldl (upd d) x=x
 |[],_=>rfl
 |t::r,h=>by
  have e:upd d x t=x:=by unfold upd;rw[if_pos (h t (by simp))]
  show r.foldl (upd d) (upd d x t)=x
  rw[e]
  exact jsW r fun t a=>h t (jFI _ a)
theorem jDZ {ts t:List Int} {p:Int} {n:Nat} (h:ts.take n=t) (b:n<=ts.length):U.kr ts p n=U.on t p:=by
 have a:t.length=n:=(by rw[<-h,jGa];omega);unfold U.kr U.on U.ja2;rw[a];congr 1;refine List.filter_congr fun i hi=> ?_
 have hi:=jFP.1 hi;have e:nth t i=nth ts i:=(by rw[<-h];exact L.nth_take hi);rw[e];rfl
theorem jDi {d:DyD} (h:U.jJ d=0) {p:Int} (e:U.jnU d p) {t:List Int} (f:t.length<=(U.jq d).length):U.gL (U.qh d) p (U.on t p)=U.ky d p (U.on t p):=by
 have a:=(zp h).1;show U.jqe d (U.kc d (U.jq d).length) p (U.on t p)=_;refine jzi (jmS _ _) fun b c=>jrV a ?_ e
 have:=jBE c;exact⟨this.1,by omega⟩
theorem jl5 {d:DyD} {t:List Int} (a:U.zm d t=true) (s:Int):U.zm d (t++[s])=(U.vU (U.jd d) (U.vz (nth (U.jq d) t.length)) s&&(List.range (U.je (U.jd d)).length).all (U.jv0 d (t++[s]))):=by
 unfold U.zm at a⊢;rw[jFD,jFW] at a;have c:(t++[s]).length=t.length+1:=(by simp);have e:(List.range (t++[s]).length).all (U.jvZ d (t++[s]))=U.vU (U.jd d) (U.vz (nth (U.jq d) t.length)) s:=by
  rw[c,jF5,List.all_append];have b:(List.range t.length).all (U.jvZ d (t++[s]))=true:=by
   rw[jFW];intro i hi;have:=a.1 i hi;unfold U.jvZ at this⊢;rw[jtx (jFP.1 hi)];exact this
  rw[b,Bool.true_and];show(U.jvZ d (t++[s]) t.length&&true)=_;unfold U.jvZ;rw[jrR,Bool.and_true]
 rw[e]
theorem jD8 {d:DyD} (h:U.jJ d=0) {t:List Int} {s:Nat} (u:t.length<(U.jq d).length) (z:s<2^(U.je (U.jd d)).length) (v:(List.range (U.je (U.jd d)).length).all (U.jv0 d (t++[(s:Int)]))=true):
 jkb (s:Int) (nth (U.q6 (U.qh d)) t.length)=0:=by
 have f:=(zp h).1;have A:=(jf9 f.1).2;have l:(s:Int)<2^(U.je (U.jd d)).length:=(by rw[BT.two_nat];exact Int.ofNat_lt.2 z);have ss:BT.Set' (s:Int):=(by unfold BT.Set';omega);have x:=fun q (y:q∈U.v6 (U.jd d) (U.vz (nth (U.jq d) t.length)))=>jrU f.1 y
 have r:nth (U.q6 (U.qh d)) t.length=U.joG (U.v6 (U.jd d) (U.vz (nth (U.jq d) t.length))):=jtC u;have m:BT.Set' (nth (U.q6 (U.qh d)) t.length):=(by rw[r];exact(jad x _ (jFE _)).1);refine BT.ext (BT.bandn_set ss m) BT.zero_set fun p=> ?_
 rw[BT.has_bandn ss m,BT.has_zero];cases n:BT.has (s:Int) p with
 |false=>rfl
 |true=>
  have k:p<(U.je (U.jd d)).length:=BT.has_lt (by omega) l n;have i:=jFW.1 v p (jFP.2 k);have j:((t.length:Nat):Int)∈U.on (t++[(s:Int)]) (p:Int):=by
   unfold U.on U.ja2;refine jGc.2 ⟨t.length,jF0.2 ⟨jFP.2 (by simp),?_⟩,rfl⟩;show U.jM (nth (t++[(s:Int)]) t.length) (p:Int)=true;rw[jrR,jfk ss];exact n
  have g:U.j7 (U.jd d) (U.vz (U.bk d (t.length:Int))) (p:Int)=true:=((jib d (p:Int) (jmS _ _)).1 i).1 _ j;have a:=jrV f (b:=(t.length:Int)) (p:=(p:Int)) ⟨jF8 _,by omega⟩ ⟨jF8 _,by omega⟩;rw[g] at a;have c:¬qz (nth (U.kc d (U.jq d).length) t.length/2^p) 1=0:=of_decide_eq_false a;have e:=BT.bit_num m p;have o:nth (U.q6 (U.qh d)) t.length=nth (U.kc d (U.jq d).length) t.length:=rfl;rw[o] at e⊢;rw[e] at c;cases w:BT.has (nth (U.kc d (U.jq d).length) t.length) p with
  |true=>rfl
  |false=>rw[w] at c;exact absurd rfl c
theorem jCL {d:DyD} (h:U.jJ d=0) {t ts:List Int} (r:U.zm d t=true) (m:t.length<(U.jq d).length) {s:Nat} (g:s<2^(U.je (U.jd d)).length) (k:ts.take (t.length+1)=t++[(s:Int)]) (q:t.length+1<=ts.length):
 U.zm d (t++[(s:Int)])=(U.jnG (U.qh d) (t.length:Int) s&&U.wH (U.qh d) ts t.length (U.wy (U.qh d)).length):=by
 have l:=(zp h).1;have f:(s:Int)<2^(U.je (U.jd d)).length:=(by rw[BT.two_nat];exact Int.ofNat_lt.2 g);have o:=jCY l (b:=(t.length:Int)) ⟨jF8 _,by omega⟩ (t:=(s:Int)) (jF8 _) f;have j:U.wH (U.qh d) ts t.length (U.wy (U.qh d)).length=(List.range (U.je (U.jd d)).length).all (U.jv0 d (t++[(s:Int)])):=by
  unfold U.wH;rw[(joK h).len];refine jF6.2 ?_;rw[jFW,jFW];have:∀p∈List.range (U.je (U.jd d)).length,U.gL (U.qh d) (p:Int) (U.kr ts (p:Int) (t.length+1))=U.jv0 d (t++[(s:Int)]) p:=fun p a=>by
   rw[jDZ k q];exact jDi h ⟨jF8 _,by have:=jFP.1 a;omega⟩ (by simp;omega)
  exact⟨fun c p a=>(this p a)▸c p a,fun c p a=>(this p a).symm▸c p a⟩
 have i:U.jlR (U.rd (U.qh d)) (t.length:Int) (s:Int)=U.vU (U.jd d) (U.vz (nth (U.jq d) t.length)) (s:Int):=o;rw[jl5 r,j];unfold U.jnG;rw[i];cases n:(List.range (U.je (U.jd d)).length).all (U.jv0 d (t++[(s:Int)])) with
 |false=>rw[Bool.and_false,Bool.and_false]
 |true=>
  have:=jD8 h m g n;have e:nth (U.q6 (U.qh d)) ((t.length:Int)).toNat=nth (U.q6 (U.qh d)) t.length:=rfl;rw[e,decide_eq_true this,Bool.true_and]
end Go.X
namespace Go.X
theorem jeB {l:List Int} {b:Nat} (v:Int):(l.set b v).take b=l.take b:=by
 rw[List.take_set_of_le (jFE _)]
theorem jmo {l:List Int} {b:Nat} (v:Int) (h:b<l.length):(l.set b v).take (b+1)=l.take b++[v]:=by
 rw[L.take_succ (by rw[jGK];exact h),jeB,L.nth_lt (by rw[jGK];exact h),List.getElem_set_self]
theorem jzS {l:List Int} {b:Nat} {t:List Int} {v:Int} (h:l.take (b+1)=t++[v]) (a:t.length=b):l.take b=t:=by
 have e:=congrArg (List.take b) h;rw[List.take_take,Nat.min_eq_left (by omega),<-a,List.take_left] at e;rw[<-a];exact e
theorem jga {d:DyD} {t:List Int} (h:U.zm d t=false):∀k,U.jm d k t=[]
 |0=>rfl
 |k+1=>by rw[jch,h,if_neg (by simp)]
section
attribute [local irreducible] U.jm U.zm U.k8 U.vU U.wa U.gL U.zY U.ky
structure jDx (d:DyD) (t:List Int) (x:StD):Prop where
 len:x.1.length=(U.jq d).length
 pre:x.1.take t.length=t
theorem jmq {d:DyD} (h:U.jJ d=0) {ch:List (List Int)} {k:Nat} {t:List Int} {fee:Int} (u:U.zm d t=true) (n:t.length<(U.jq d).length) (a:fee=U.wa d t)
 (v:∀(i:List Int) (b:Int) (x:StD),U.zm d i=true->i.length=t.length+1->b=U.wa d i->jDx d i x->jDx d i (U.k8 (U.qh d) ch k i.length b x)/\(U.k8 (U.qh d) ch k i.length b x).2=(U.jm d k i).foldl (upd d) x.2):
 ∀(L:List Nat) (x:StD),(∀s∈L,s<2^(U.je (U.jd d)).length)->jDx d t x->
  jDx d t (((L.filter (U.jnG (U.qh d) (t.length:Int))).map (fun(s:Nat)=>(s:Int))).foldl (U.yB (U.qh d) ch k t.length fee) x)/\
  (((L.filter (U.jnG (U.qh d) (t.length:Int))).map (fun(s:Nat)=>(s:Int))).foldl (U.yB (U.qh d) ch k t.length fee) x).2=(L.flatMap (fun(s:Nat)=>U.jm d k (t++[(s:Int)]))).foldl (upd d) x.2
 |[],x,_,m=>⟨m,rfl⟩
 |s::L,x,hL,m=>by
  have q:=hL s (by simp)
  have j:∀s∈L,s<2^(U.je (U.jd d)).length:=fun s q=>hL s (jFI _ q)
  have g:(x.1.set t.length (s:Int)).take (t.length+1)=t++[(s:Int)]:=by rw[jmo _ (by rw[m.len];exact n),m.pre]
  have f:(x.1.set t.length (s:Int)).length=(U.jq d).length:=by rw[jGK];exact m.len
  have l:=jCL h u n q (ts:=x.1.set t.length (s:Int)) g (by rw[f];omega)
  rw[List.flatMap_cons,jFX]
  cases o:U.jnG (U.qh d) (t.length:Int) s with
  |false=>
   rw[o,Bool.false_and] at l
   rw[List.filter_cons_of_neg (by rw[o];simp),jga l]
   exact jmq h u n a v L x j m
  |true=>
   rw[o,Bool.true_and] at l
   rw[List.filter_cons_of_pos o,jGz,List.foldl_cons]
   cases p:U.wH (U.qh d) (x.1.set t.length (s:Int)) t.length (U.wy (U.qh d)).length with
   |false=>
    rw[p] at l
    have e:U.yB (U.qh d) ch k t.length fee x (s:Int)=(x.1.set t.length (s:Int),x.2):=by unfold U.yB;rw[p,if_neg (by simp)]
    rw[jga l,e]
    exact jmq h u n a v L (x.1.set t.length (s:Int),x.2) j ⟨f,(jeB _).trans m.pre⟩
   |true=>
    rw[p] at l
    have e:U.yB (U.qh d) ch k t.length fee x (s:Int)=U.k8 (U.qh d) ch k (t.length+1) (fee+U.wC d (s:Int)) (x.1.set t.length (s:Int),x.2):=by
     unfold U.yB;rw[p,if_pos rfl];rfl
    have c:(t++[(s:Int)]).length=t.length+1:=(by simp);have ss:BT.Set' (s:Int):=by
     have A:=(jf9 (zp h).1.1).2;have f:(s:Int)<2^(U.je (U.jd d)).length:=(by rw[BT.two_nat];exact Int.ofNat_lt.2 q);unfold BT.Set';omega
    have z:fee+U.wC d (s:Int)=U.wa d (t++[(s:Int)]):=(by rw[jp9,a,jEn ss]);have r:=v (t++[(s:Int)]) (fee+U.wC d (s:Int)) (x.1.set t.length (s:Int),x.2) l c z ⟨f,by rw[c];exact g⟩;rw[c] at r;rw[e];generalize B:U.k8 (U.qh d) ch k (t.length+1) (fee+U.wC d (s:Int)) (x.1.set t.length (s:Int),x.2)=y at r⊢;have w:=jmq h u n a v L y j ⟨r.1.len,jzS (by have:=r.1.pre;rw[c] at this;exact this) rfl⟩;refine⟨w.1,?_⟩;rw[w.2,r.2]
end
theorem jvw (c:CrD) (j:JbD):U.vU c j 0=false:=by unfold U.vU;rfl
theorem juQ {d:DyD} {t:List Int} (a:U.zm d t=true) (k:Nat):U.jm d k (t++[((0:Nat):Int)])=[]:=by
 refine jga ?_ k;rw[jl5 a];have e:((0:Nat):Int)=0:=rfl;rw[e,jvw,Bool.false_and]
theorem juR {d:DyD} {t:List Int} (a:U.zm d t=true) (k n:Nat):(List.range (n+1)).flatMap (fun(s:Nat)=>U.jm d k (t++[(s:Int)]))=U.ve d k t n:=by
 rw[List.range_succ_eq_map,List.flatMap_cons,juQ a,jF2,List.flatMap_map];rfl
theorem jA7 (r:RoD) {n b:Nat} (h:b<n):nth (U.zY r n) b=U.wD r (b:Int) (2^(U.je (U.jd (U.rd r))).length):=by
 unfold U.zY;rw[L.nth_lt (by simp;exact h)];simp
section
attribute [local irreducible] U.zm U.vU U.wa U.gL U.zY U.ky U.wD
theorem jwL {d:DyD} (h:U.jJ d=0):∀(k:Nat) (t:List Int) (fee:Int) (x:StD),U.zm d t=true->t.length<=(U.jq d).length->(U.jq d).length<t.length+k->fee=U.wa d t->jDx d t x->
 jDx d t (U.k8 (U.qh d) (U.zY (U.qh d) (U.jq d).length) k t.length fee x)/\(U.k8 (U.qh d) (U.zY (U.qh d) (U.jq d).length) k t.length fee x).2=(U.jm d k t).foldl (upd d) x.2
 |0,t,fee,x,_,v,j,_,_=>absurd j (by omega)
 |k+1,t,fee,x,i,v,j,a,c=>by
  have w:=(zp h).1.1
  by_cases b:(x.2.2.2&&decide (x.2.2.1<=fee))=true
  .have e:U.k8 (U.qh d) (U.zY (U.qh d) (U.jq d).length) (k+1) t.length fee x=x:=by
    show(if(x.2.2.2&&decide (x.2.2.1<=fee))=true then x else _)=x;rw[if_pos b]
   rw[e];refine⟨c,(jsW _ fun l z=> ?_).symm⟩;obtain⟨s,rfl⟩:=joV _ _ _ z;have y:=jA4 w t s;rw[jFD,decide_eq_true_iff] at b⊢;exact⟨b.1,by omega⟩
  .by_cases g:t.length=(U.jq d).length
   .have e:U.k8 (U.qh d) (U.zY (U.qh d) (U.jq d).length) (k+1) t.length fee x=(x.1,x.1,fee,true):=by
     show(if(x.2.2.2&&decide (x.2.2.1<=fee))=true then x else if t.length=(U.jq d).length then(x.1,x.1,fee,true) else _)=_;rw[if_neg b,if_pos g]
    have u:x.1=t:=by
     have:=c.pre;rw[jGm (by rw[c.len];omega)] at this;exact this
    rw[e,jch,if_pos i,if_pos g];refine⟨⟨c.len,c.pre⟩,?_⟩;show(x.1,fee,true)=upd d x.2 t;unfold upd;rw[<-a,if_neg b,u]
   .have m:t.length<(U.jq d).length:=(by omega);rw[jiA (Bool.eq_false_iff.2 b) g,jch,if_pos i,if_neg g];unfold U.jp;rw[jGm (jFE _),jA7 _ m];have C:U.wD (U.qh d) (t.length:Int) (2^(U.je (U.jd (U.rd (U.qh d)))).length)=((List.range (2^(U.je (U.jd d)).length)).filter (U.jnG (U.qh d) (t.length:Int))).map (fun(s:Nat)=>(s:Int)):=(by unfold U.wD;rfl);rw[C];have r:=jmq h (ch:=U.zY (U.qh d) (U.jq d).length) (k:=k) i m a (fun E f F o G p q=>jwL h k E f F o (by omega) (by omega) p q) (List.range (2^(U.je (U.jd d)).length)) x (fun s D=>jFP.1 D) c;refine⟨r.1,?_⟩;rw[r.2];have B:0<2^(U.je (U.jd d)).length:=Nat.pow_pos (by decide);obtain⟨n,A⟩:∃n,2^(U.je (U.jd d)).length=n+1:=⟨_,(Nat.succ_pred_eq_of_pos B).symm⟩;rw[A,juR i];rfl
theorem jzo {d:DyD} (h:U.ja5 d):U.zm d []=true:=by
 unfold U.zm;rw[jFD,jFW,jFW];refine⟨fun i hi=> ?_,fun p _=> ?_⟩
 .cases hi
 .have a:=zl h.2.2;show U.ky d (p:Int) []=true;unfold U.ky;have:(0:Int)<=U.jx6 d:=(by omega);show(true&&(true&&decide ((0:Int)<=U.jx6 d)))=true;rw[decide_eq_true this];rfl
end
end Go.X
namespace Go.X
open Go.Proofs
section
attribute [local irreducible] U.jm U.zm U.k8 U.wa U.zY U.jL
theorem jxp (d:DyD):jDx d [] (List.replicate (U.jq d).length 0,U.qX,0,false):=⟨jGv ..,rfl⟩
theorem jBB {d:DyD} (h:U.jJ d=0):(U.jDI d).2=(U.jtk d).foldl (upd d) (U.qX,0,false):=by
 have a:=(zp h).1;have b:(U.jq d).length<=4:=(zl a.2.2).1;exact(jwL h 5 [] 0 _ (jzo a) (jFM _) (by simp;omega) (jA3 d).symm (jxp d)).2
theorem jAa {d:DyD} (h:U.jJ d=0) (a:(U.jtk d).length=0):(U.jDI d).2=(U.qX,0,false):=by
 rw[jBB h,List.length_eq_zero_iff.1 a];rfl
theorem jmN {d:DyD} (h:U.jJ d=0) (a:¬(U.jtk d).length=0):(U.jDI d).2=((U.jL d (U.jtk d) (U.jtk d).length).1,(U.jL d (U.jtk d) (U.jtk d).length).2,true):=by
 have e:=jsX d (U.jtk d) (U.jtk d).length (jFE _) (by omega);rw[jGm (jFE _)] at e;rw[jBB h,e]
theorem jrz (d:DyD):U.jak d=U.jkI d:=by
 unfold U.jak U.jkI;rw[jc8];by_cases h:U.yu d=0
 .rw[if_pos h,if_pos h];have b:U.jJ d=0:=(jc8 d).trans h;by_cases a:(U.jtk d).length=0
  .rw[jAa b a,if_pos a,if_neg (by simp)]
  .rw[jmN b a,if_neg a,if_pos rfl]
 .rw[if_neg h,if_neg h]
theorem jtm {d:DyD} (h:U.jkI d=0):U.yu d=0/\¬(U.jtk d).length=0:=by
 unfold U.jkI at h;by_cases a:U.yu d=0
 .rw[if_pos a] at h;by_cases b:(U.jtk d).length=0
  .rw[if_pos b] at h;omega
  .exact⟨a,b⟩
 .rw[if_neg a] at h;exact absurd h a
theorem jCx (d:DyD):U.jcN d=U.jtn d:=by
 unfold U.jcN U.jtn;rw[jrz];by_cases h:U.jkI d=0
 .obtain⟨a,b⟩:=jtm h;rw[if_pos h,if_pos h,jmN ((jc8 d).trans a) b]
 .rw[if_neg h,if_neg h]
theorem jCw (d:DyD):U.jcM d=U.jtl d:=by
 unfold U.jcM U.jtl;rw[jrz];by_cases h:U.jkI d=0
 .obtain⟨a,b⟩:=jtm h;rw[if_pos h,if_pos h,jmN ((jc8 d).trans a) b]
 .rw[if_neg h,if_neg h]
end
theorem jgq:jeq:=by
 unfold jeq q135_1 q135_0;rintro⟨d,⟨⟩⟩ _;refine⟨fun h=> ?_,fun _=>rfl,fun h=> ?_⟩
 .have h:(!U.jpR d)=true:=h;rw[jF9] at h;have:=(jtN (d:=d) h).2.2.1;show(U.jq d).length<=1000000;omega
 .have h:(U.jpR d||U.jtO d)=false:=h;rw[jF3] at h;have a:=jtN (d:=d) h.1;refine⟨a,by have:=a.2.2.2.1;show(U.kR d).length<=100000;omega,by have:=a.2.2.1;show(U.jq d).length<=1000000;omega,?_⟩;show(decide (U.jcN d=U.jtn d)&&decide (U.jcM d=U.jtl d)&&decide (U.jak d=U.jkI d)&&true,())=(true,());rw[decide_eq_true (jCx d),decide_eq_true (jCw d),decide_eq_true (jrz d)];rfl
theorem jtt:zc PR 3 jeE:=jR jgq Tryz.func3 (kcC jxE (kcC jmT (kcC jrF (kcC ju4 (kcC jpg (kcC ju2 (kcC jc0 kcN))))))) koN
end Go.X






namespace Go.X
instance:Inhabited (Nat×Nat):=⟨(0,0)⟩
end Go.X

namespace Go.X
open Go.Proofs
end Go.X
namespace Go.X
open Go.Proofs
end Go.X
namespace Go.X
open Go.Proofs
instance (a b:BkD):Decidable (a=b):=tBk.decEq a b
end Go.X
namespace Go.X
open Go.Proofs
end Go.X
namespace Go.X
open Go.Proofs
end Go.X
namespace Go.X
open Go.Proofs Go.Proofs.YtnkahkkofmoipaaGreatDoor
noncomputable def jAA:Array Field:=match Tryz.prog.underlying 60 with|some (.struct fs)=>fs|_=> #[]
theorem jEk:Tryz.prog.globalNamed "handshape/rosters.some"=some 0:=by kernel_rfl
theorem jEj:(Tryz.prog.globals[0]?).map (·.type)=some 60:=by kernel_rfl
theorem jFu:Tryz.prog.underlying 60=some (.struct jAA):=by kernel_rfl
theorem jFv:Tryz.prog.underlying 3=some (.int .i64):=by kernel_rfl
theorem jFw:Tryz.prog.cellsOf 3=1:=by kernel_rfl
noncomputable def yL (i:Nat):Bool:=match jAA[i]? with|some f=>Nat.beq f.type 3&&Nat.beq f.offset i|none=>false
theorem fields:(yL 0&&yL 1&&yL 2&&yL 3&&yL 4&&yL 5)=true:=by kernel_rfl
theorem jAS {i:Nat} (h:yL i=true):∃f,jAA[i]? =some f/\f.type=3/\f.offset=i:=by
 unfold yL at h
 split at h
 .rename_i f a;rw[jFD] at h;exact⟨f,a,jFz h.1,jFz h.2⟩
 .cases h
theorem jAz {H:Type} {enc:TypeId×Value->H} {w:World} {base:Nat} {sp:Nat->Bool} {a:Bool} {n:Nat} {cs:List Value} {xs:List (DataW H×List MemPlace)} {d:List Int} (o:xs.map (·.1)=d.map fun z=>(DataW.lit (.int .i64 z):DataW H))
 (k:∀(i:Nat) (f:Field),jAA[i]? =some f->DataW.trod enc Tryz.prog w base sp a n f.type ((cs.drop f.offset).take (Tryz.prog.cellsOf f.type))=xs[i]?) {i:Nat} {z:Int} (hi:yL i=true) (q:d[i]? =some z):cs[i]? =some (.int .i64 z):=by
 obtain⟨f,g,h,j⟩:=jAS hi;have b:=k i f g;rw[h,j,jFw] at b;have c:(xs.map (·.1))[i]? =some (DataW.lit (.int .i64 z):DataW H):=(by rw[o,jGQ,q];rfl);rw[jGQ] at c;obtain⟨y,p,e⟩:=jG1.1 c;rw[p] at b;obtain⟨m,l,rfl,_⟩:=DataW.trod_int jFv b;have e:m=z:=by
  have e:(DataW.lit (.int .i64 m):DataW H)=DataW.lit (.int .i64 z):=e;simpa only[DataW.lit.injEq,Lit.int.injEq,true_and] using e
 subst e;have:=congrArg (·[0]?) l;simpa[jGN,jGg] using this
theorem jE4 {W:World} (h:laidMet Tryz.prog [("handshape/rosters.some",Rows.laid_handshape_rosters_some)] W):jDD (Hof W):=by
 obtain⟨ps,⟨H,E,cs,k,p,q,d,f,a,A,_,_⟩,_⟩:=h;obtain rfl:=Option.some.inj (jEk.symm.trans d);obtain rfl:=Option.some.inj (jEj.symm.trans f);obtain⟨xs,n,_,C,I,l,B⟩:=DataW.trod_struct jFu A;have j:xs.map (·.1)=[0,1,0,0,0,1].map fun z=>(DataW.lit (.int .i64 z):DataW Unit):=by
  have e:=congrArg Prod.fst C;have e:(DataW.agg [.lit (.int .i64 0),.lit (.int .i64 1),.lit (.int .i64 0),.lit (.int .i64 0),.lit (.int .i64 0),.lit (.int .i64 1)]:DataW Unit)= .agg (xs.map (·.1)):=e;simp only[DataW.agg.injEq] at e;exact e.symm
 have fs:=fields;simp only[jFD] at fs;obtain⟨⟨⟨⟨⟨o,r⟩,s⟩,u⟩,v⟩,w⟩:=fs;have c:∀{i:Nat} {z:Int},yL i=true->([0,1,0,0,0,1]:List Int)[i]? =some z->cs[i]? =some (.int .i64 z):=fun hi D=>by
  have:=jAz j B hi D;simpa using this
 unfold World.var? at a;rw[jEk] at a;intro g x b;have b:jw [(0,(⟨.st [.int,.int,.int,.int,.int,.int],((0:Int),(1:Int),(0:Int),(0:Int),(0:Int),(1:Int),())⟩:(t:Ty)×t.Data))] g=some x:=b;have y:Hof W 0=some (.cells cs):=by
  unfold Hof;simp only[Option.bind_some] at a
  split at a
  .rename_i F E G e;rw[e];have:=Option.some.inj a;rw[this]
  .cases a
 have m:=zi _ _ _ b;simp only[List.mem_singleton,Prod.mk.injEq] at m;obtain⟨rfl,rfl⟩:=m;exact⟨cs,y,c o rfl,c r rfl,c s rfl,c u rfl,c v rfl,c w rfl,trivial⟩
end Go.X
