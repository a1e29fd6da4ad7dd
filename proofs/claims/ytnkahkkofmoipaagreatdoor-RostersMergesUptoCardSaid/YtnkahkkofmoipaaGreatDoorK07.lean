/-
  Part 7 of the road: a checked reading of bodies, and what the functions on it do (X25 X26 C5 PC15 C6 PC16 S6 S7 PC17 DM S8 S9 S10 S11 S12 S13 S14 C7 PC18 C8 PC19 PC20 LW).
-/
import Derived.Test.YtnkahkkofmoipaaGreatDoorK06
import Derived.Test.YtnkahkkofmoipaaGreatDoorRows
import Derived.WalkKit
import Derived.ProofKit
import Derived.OpenShut
import Derived.JoinedCond
import Derived.Carry
import Derived.ChangeArms
import Derived.Test.YtnkahkkofmoipaaGreatDoorCards
import Derived.Test.YtnkahkkofmoipaaGreatDoorTie
import Derived.Deep.DeepHandedRow
import Derived.Lib.LaidTab
namespace Go.X
open Go.RowKit (Below)
open Go.Proofs.YtnkahkkofmoipaaGreatDoor
def Hof (w:World):Imm:=fun b=>match w.heap[b]? with|some (.cells c _ _)=>some (.cells c)|_=>none
theorem jy2 (w:World) (d:jBK (Hof w)):jaR (Hof w) w:=by
 refine⟨fun b c h=> ?_,d⟩;unfold Hof at h
 split at h
 .rename_i f T a e;simp at h;subst h;exact⟨T,a,e⟩
 .cases h
def Ty.fits (N:Nat):(t:Ty)->t.Data->Prop
 | .int,x=>jA x
 | .bool,_=>True
 | .uint k,x=>k.min<=x/\x<=k.max
 | .slice t,l=>l.length<=N/\∀x∈l,t.fits N x
 | .unit,_=>True
 | .pair a b,d=>a.fits N d.1/\b.fits N d.2
 | .map k v,l=>l.length<=N/\∀x∈l,k.fits N x.1/\v.fits N x.2
 | .ptr t,d=>∀x,d=some x->t.fits N x
theorem Ty.fits_mono {N M:Nat} (h:N<=M):∀(t:Ty) (d:t.Data),t.fits N d->t.fits M d
 | .int,_,k=>k
 | .bool,_,k=>k
 | .uint _,_,k=>k
 | .unit,_,k=>k
 | .slice t,_,k=>⟨jDZ k.1 h,fun x c=>t.fits_mono h x (k.2 x c)⟩
 | .pair a b,_,k=>⟨a.fits_mono h _ k.1,b.fits_mono h _ k.2⟩
 | .map k v,_,q=>⟨jDZ q.1 h,fun x c=>⟨k.fits_mono h _ (q.2 x c).1,v.fits_mono h _ (q.2 x c).2⟩⟩
 | .ptr t,_,k=>fun x c=>t.fits_mono h x (k x c)
def jB4 (P:Program) (go:Nat->Ty->Bool):List Field->Nat->Ty->Bool
 |[],_,.unit=>true
 |f::fs,off,.pair a b=>Nat.beq f.offset off&&Nat.beq (P.cellsOf f.type) a.size&&go f.type a&&jB4 P go fs (off+a.size) b
 |_,_,_=>false
def jAD (P:Program):Nat->Nat->Ty->Bool
 |0,_,_=>false
 |d+1,T,ty=>match ty,P.underlying T with
  | .int,some (.int .i64)=>true
  | .bool,some .bool=>true
  | .uint k,some (.int k')=>gI k k'
  | .slice t,some (.slice e)=>Nat.beq (P.cellsOf e) t.size&&Nat.ble 1 t.size&&jAD P d e t
  | .pair a b,some (.struct fs)=>Nat.beq (P.cellsOf T) (Ty.pair a b).size&&jB4 P (jAD P d) fs.toList 0 (.pair a b)
  |_,_=>false
section
variable {P:Program} {K:Type} {enc:TypeId×Value->K} {w:World}
theorem jB6 (d:DataW K):1<=Rows.uptoBulk d:=by
 cases d with
 |lit l=>cases l<;>simp[Rows.uptoBulk]
 |_=>simp[Rows.uptoBulk]
theorem jo1 (l:List (DataW K)):l.length<=Rows.uptoBulkAll l:=by
 induction l with
 |nil=>simp[Rows.uptoBulkAll]
 |cons x r a=>have:=jB6 x;simp only[Rows.uptoBulkAll,jEi];omega
theorem jAF {d:DataW K} {l:List (DataW K)} (h:d∈l):Rows.uptoBulk d<=Rows.uptoBulkAll l:=by
 induction l with
 |nil=>cases h
 |cons x r a=>
  simp only[Rows.uptoBulkAll];cases jDL.1 h with
  |inl e=>subst e;omega
  |inr e=>have:=a e;omega
theorem jwI {α:Type} {Q:Nat->α->Prop}:∀(n:Nat),(∀i,i<n->∃y,Q i y)->∃l:List α,l.length=n/\∀i y,l[i]? =some y->Q i y
 |0,_=>⟨[],rfl,fun i y h=>by simp at h⟩
 |n+1,h=>by
  obtain⟨l,b,c⟩:=jwI n (fun i hi=>h i (by omega))
  obtain⟨y,d⟩:=h n (by omega)
  refine⟨l++[y],by simp[b],fun i z a=> ?_⟩
  by_cases hi:i<l.length
  .rw[jDX hi] at a;exact c i z a
  .rw[jDW (by omega)] at a
   have:i=n:=by
    by_cases e:i-l.length=0
    .omega
    .obtain⟨k,hk⟩:∃k,i-l.length=k+1:=⟨i-l.length-1,by omega⟩;rw[hk] at a;simp at a
   subst this;rw[<-b] at a;simp at a;subst a;exact d
def jCH (P:Program) (w:World) (enc:TypeId×Value->K) (T:Nat) (ty:Ty):Prop:=
 ∀(a:Nat) (cs:List Value) (x:DataW K×List MemPlace),DataW.trod enc P w 0 (fun _=>true) true a T cs=some x->Rows.uptoBulk x.1<=1048576->
  ∃d:ty.Data,ty.rd (Hof w) (fun i=>cs[i]?) d/\cs.length=ty.size/\ty.fits (Rows.uptoBulk x.1) d
theorem jBZ {n:Int} (h:(Lit.int .i64 n).wf=true):jA n:=by
 simp[Lit.wf,IntKind.min,IntKind.max,IntKind.signed,IntKind.bits] at h;exact h
theorem jgE {go:Nat->Ty->Bool} (c:∀T ty,go T ty=true->jCH P w enc T ty) {n:Nat} {cs:List Value}:
 ∀(fs:List Field) (off:Nat) (ty:Ty) (xs:List (DataW K×List MemPlace)),jB4 P go fs off ty=true->xs.length=fs.length->
  (∀(i:Nat) (f:Field),fs[i]? =some f->DataW.trod enc P w 0 (fun _=>true) true n f.type ((cs.drop f.offset).take (P.cellsOf f.type))=xs[i]?)->Rows.uptoBulkAll (xs.map (·.1))<=1048576->
  ∃d:ty.Data,ty.rd (Hof w) (fun i=>cs[off+i]?) d/\ty.fits (Rows.uptoBulkAll (xs.map (·.1))) d
 |[],off,ty,xs,h,g,e,j=>by
  cases ty<;>simp[jB4] at h
  exact⟨(),trivial,trivial⟩
 |f::fs,off,ty,[],h,g,e,j=>by simp at g
 |f::fs,off,ty,x::xs,h,g,e,j=>by
  cases ty<;>simp[jB4] at h
  rename_i a b
  obtain⟨⟨⟨q,v⟩,r⟩,s⟩:=h
  simp only[jEL,Rows.uptoBulkAll] at j
  have k:=e 0 f (by simp)
  simp only[List.getElem?_cons_zero] at k
  obtain⟨d,t,y,u⟩:=c _ _ r _ _ _ k (by omega)
  obtain⟨l,o,p⟩:=jgE c fs (off+a.size) b xs s (by simpa using g) (fun i m hi=>by simpa using e (i+1) m (by simpa using hi)) (by omega)
  refine⟨(d,l),⟨?_,?_⟩,?_,?_⟩
  .refine Ty.rd_congr a _ _ _ (fun i hi=> ?_) t
   rw[jD5 (by omega),jEk,q]
  .refine Ty.rd_congr b _ _ _ (fun i hi=> ?_) o
   rw[jEP]
  .exact a.fits_mono (by simp[Rows.uptoBulkAll]) _ u
  .exact b.fits_mono (by simp[Rows.uptoBulkAll]) _ p
theorem jdh:∀(d T:Nat) (ty:Ty),jAD P d T ty=true->jCH P w enc T ty
 |0,_,_,h=>by cases h
 |d+1,T,ty,h=>by
  intro fuel cs x B r
  unfold jAD at h
  split at h
  .rename_i u
   obtain⟨n,rfl,rfl,H⟩:=DataW.trod_int u B
   exact⟨n,rfl,rfl,jBZ H⟩
  .rename_i u
   obtain⟨b,rfl,rfl⟩:=DataW.trod_bool u B
   exact⟨b,rfl,rfl,trivial⟩
  .rename_i k k' u
   obtain⟨n,rfl,rfl,H⟩:=DataW.trod_int u B
   have:k=k':=by simpa[gI] using h
   subst this
   refine⟨n,rfl,rfl,?_⟩
   simp[Lit.wf] at H
   exact H
  .rename_i t e u
   simp only[jDR] at h
   obtain⟨⟨L,M⟩,h3⟩:=h
   have e1:=jDI L
   have e2:=jDY M
   rcases DataW.trod_slice u B with⟨rfl,rfl⟩|⟨a,len,J,vD,rest,n,_,rfl,rfl,hb,hl,hm,A,D,_,_⟩
   .refine⟨[],⟨none,0,0,rfl,rfl,jDO _,by simp,fun _=>rfl,fun h=>absurd rfl h⟩,rfl,by simp,fun x B=>by simp at B⟩
   .simp only[Rows.uptoBulk] at r
    have key:∀i,i<len->∃y:t.Data,(∃blk,Hof w a.block=some (.cells blk)/\a.spot=none/\t.rd (Hof w) (fun j=>blk[a.off+i*t.size+j]?) y)/\t.fits (Rows.uptoBulkAll (vD.map (·.1))) y:=by
     intro i hi;have h0:=D i hi;have X:vD[i]? =some vD[i]:=jDP (by omega);rw[X,Option.bind_eq_some_iff] at h0;obtain⟨cl,c1,c2⟩:=h0;have Q:Rows.uptoBulk vD[i].1<=Rows.uptoBulkAll (vD.map (·.1)):=jAF (jEl.2 ⟨vD[i],List.getElem_mem _,rfl⟩);obtain⟨y,y1,y2,y3⟩:=jdh d e t h3 _ _ _ c2 (by omega);unfold World.cells? at c1;rw[if_pos (jDV _),e1] at c1;have z:∀j,j<t.size->w.cell? ((a.add (i*t.size)).add j)=cl[j]? :=fun j O=>by
      have:=mapM_some_get c1 j j (by simp[O]);simpa using this
     have N:cl.length=t.size:=(by simpa using mapM_some_length c1);have I:=z 0 (by omega);have g:cl[0]?≠none:=(by rw[jDP (by omega)];simp);rw[<-I] at g;have m:∃blk T G,w.heap[a.block]? =some (.cells blk T G):=by
      unfold World.cell? at g;have q:((a.add (i*t.size)).add 0).block=a.block:=by unfold Addr.add;simp;split<;>rfl
      rw[q] at g
      split at g
      .rename_i c T G e;exact⟨c,T,G,e⟩
      .exact absurd rfl g
     obtain⟨blk,T',G,m⟩:=m;have p:((a.add (i*t.size)).add 0).spot=none:=by
      unfold World.cell? at g;have q:((a.add (i*t.size)).add 0).block=a.block:=by unfold Addr.add;simp;split<;>rfl
      rw[q,m] at g;simp only at g;cases R:((a.add (i*t.size)).add 0).spot with
      |none=>rfl
      |some s=>rw[R] at g;simp at g
     have hH:Hof w a.block=some (.cells blk):=(by unfold Hof;rw[m]);refine⟨y,⟨blk,hH,?_,?_⟩,t.fits_mono Q _ y3⟩
     .--the first element shows that the address is plain
      have C:=D 0 (by omega);have W:vD[0]? =some vD[0]:=jDP (by omega);rw[W,Option.bind_eq_some_iff] at C;obtain⟨K,F,_⟩:=C;unfold World.cells? at F;rw[if_pos (jDV _),e1] at F;have v:=mapM_some_get F 0 0 (by rw[List.getElem?_range (by omega)]);have hl0:K.length=t.size:=(by simpa using mapM_some_length F);rw[jDP (by omega)] at v;simp only[Nat.zero_mul] at v;have ea:(a.add 0).add 0=a:=(by unfold Addr.add;simp);rw[ea] at v;unfold World.cell? at v;rw[m] at v;simp only at v;cases R:a.spot with
      |none=>rfl
      |some s=>rw[R] at v;simp at v
     .refine Ty.rd_congr t _ _ _ (fun j O=> ?_) y1;rw[<-z j O];unfold World.cell?;have q:((a.add (i*t.size)).add j).block=a.block:=by unfold Addr.add;split<;>split<;>rfl
      have E:((a.add (i*t.size)).add j).off=a.off+i*t.size+j:=by
       unfold Addr.add;split<;>split<;>simp_all
      have V:((a.add (i*t.size)).add j).spot=none:=by
       have S:(a.add (i*t.size)).spot=none:=by
        have:(a.add (i*t.size)).add 0=a.add (i*t.size):=(by simp[Addr.add]);rw[this] at p;exact p
       unfold Addr.add at S⊢
       split<;>split<;>simp_all
      rw[q,m,E,V];simp
    obtain⟨l,l1,l2⟩:=jwI len key;refine⟨l,⟨some a,len,J,rfl,l1.symm,hl,?_,(fun h=>by cases h),fun g=> ?_⟩,rfl,?_,?_⟩
    .have:=jo1 (vD.map (·.1));simp at this;omega
    .have hz:0<l.length:=List.length_pos_iff.2 g;obtain⟨blk,q1,q2,_⟩:=(l2 0 l[0] (jDP hz)).1;refine⟨a.block,a.off,blk,?_,q1,fun i y Z=> ?_⟩
     .rcases a with⟨b,o,s⟩;simp only at q2;subst q2;rfl
     .obtain⟨blk',q3,_,q4⟩:=(l2 i y Z).1;rw[q1] at q3;simp at q3;subst q3;exact q4
    .simp only[Rows.uptoBulk];have:=jo1 (vD.map (·.1));simp at this;omega
    .intro y Z;obtain⟨i,hi⟩:=jEV Z;exact t.fits_mono (by simp only[Rows.uptoBulk];omega) _ (l2 i y hi).2
  .rename_i a b fs u;simp only[jDR] at h;obtain⟨L,M⟩:=h;obtain⟨xs,n,_,rfl,A,Y,hf⟩:=DataW.trod_struct u B;simp only[Rows.uptoBulk] at r;obtain⟨y,y1,y2⟩:=jgE (fun T ty h=>jdh d T ty h) (n:=n) (cs:=cs) fs.toList 0 (.pair a b) xs M (by simpa using Y) (fun i f hi=>hf i f (by simpa using hi)) (by omega);refine⟨y,by simpa using y1,by rw[A];exact jDI L,?_⟩;exact Ty.fits_mono (by simp only[Rows.uptoBulk];omega) (.pair a b) _ y2
  .cases h
end
end Go.X
namespace Go.X
open Go.RowKit (Below)
open Go.ChangeShapes Go.WideShapes Go.ChangeAt Go.RowKit
open Go.Proofs.YtnkahkkofmoipaaGreatDoor
def jna (N:Nat):(ts:List Ty)->PD (ts.map Par.val)->Prop
 |[],_=>True
 |t::ts,d=>t.fits N d.1/\jna N ts d.2
def jwJ (ts:List Ty):jO:=⟨ts.map Par.val,[.bool],false,fun d=>[jna 1048576 ts d],fun _=>(true,())⟩
def jgH (P:Program):List Nat->List Ty->Bool
 |[],[]=>true
 |T::Ts,t::ts=>jAD P 20 T t&&(P.readableRec T&&decide (T<P.types.size))&&jgH P Ts ts
 |_,_=>false
section
variable {P:Program} {K:Type} {enc:TypeId×Value->K} {W W':World}
theorem jee (j:laidOutB P=true) (i:Below W.heap.size W W'):∀(a:List Nat) (ts:List Ty) (vs:List Value) (ds:List (DataW K)) (ps:List MemPlace),jgH P a ts=true->
 DataW.TrodAll enc P W 0 (fun _=>true) true a vs ds ps->(∀x∈ps,x.block<W.heap.size)->DataW.TrodAll enc P W' 0 (fun b=>decide (b<W.heap.size)) true a vs ds ps
 |[],ts,vs,ds,ps,_,h,_=>by
  obtain⟨rfl,rfl,rfl⟩:=trodAll_nil h
  exact trodAll_mk0
 |T::a,[],vs,ds,ps,c,_,_=>by cases c
 |T::a,t::ts,vs,ds,ps,c,h,hlt=>by
  obtain⟨v,g,d,e,p,q,rfl,rfl,rfl,n,o⟩:=trodAll_cons h
  simp only[jgH,jDR] at c
  obtain⟨⟨_,k,l⟩,m⟩:=c
  exact trodAll_cons_mk (Below.trod j k (of_decide_eq_true l) n i (fun x f=>hlt x (jDK _ f)))
   (jee j i a ts g e q m o (fun x f=>hlt x (jDJ _ f)))
theorem jBE {T:Nat} {t:Ty} {r:Reach} {c:Nat} {v:Value} (h:jAD P 20 T t=true) (b:Value.okWide P W r c T v):kh v=t.agg:=by
 unfold jAD at h
 split at h
 .rename_i a;obtain⟨n,rfl⟩:=okWide_int a b;rfl
 .rename_i a;obtain⟨n,rfl⟩:=okWide_bool a b;rfl
 .rename_i a;obtain⟨n,rfl⟩:=okWide_int a b;rfl
 .rename_i a;unfold Value.okWide at b;rw[a] at b;simp only[Cell.okWide,a] at b;cases v with
  |agg vs=>simp[Cell.ok,a] at b
  |_=>rfl
 .rename_i a;unfold Value.okWide at b;rw[a] at b;obtain⟨cs,rfl,_⟩:=b;rfl
 .cases h
theorem jzO {r:Reach} {l:Nat}:∀(a:List Nat) (ts:List Ty) (vs:List Value) (ds:List (DataW K)) (ps:List MemPlace),jgH P a ts=true->
 DataW.TrodAll enc P W 0 (fun _=>true) true a vs ds ps->(∀(j:Nat) t v,a[j]? =some t->vs[j]? =some v->Value.okWide P W r l t v)->Rows.uptoBulkAll ds<=1048576->
 ∃d:PD (ts.map Par.val),pvs P (Hof W) (ts.map Par.val) vs d/\jna 1048576 ts d
 |[],ts,vs,ds,ps,b,h,_,_=>by
  obtain⟨rfl,rfl,rfl⟩:=trodAll_nil h
  cases ts with
  |nil=>exact⟨(),rfl,trivial⟩
  |cons t ts=>cases b
 |T::a,[],vs,ds,ps,b,_,_,_=>by cases b
 |T::a,t::ts,vs,ds,ps,b,h,hv,hb=>by
  obtain⟨v,g,d,e,p,q,rfl,rfl,rfl,n,o⟩:=trodAll_cons h
  simp only[jgH,jDR] at b
  obtain⟨⟨k,_⟩,m⟩:=b
  simp only[Rows.uptoBulkAll] at hb
  obtain⟨c,s⟩:=n
  obtain⟨x,w,z,A⟩:=jdh 20 T t k c _ _ s (by simp only;omega)
  obtain⟨y,B,C⟩:=jzO a ts g e q m o (fun j t v u f=>hv (j+1) t v (by simpa using u) (by simpa using f)) (by omega)
  refine⟨(x,y),⟨⟨jBE k (hv 0 T v rfl rfl),by simpa using z,?_⟩,B⟩,Ty.fits_mono (by simp only;omega) t x A,C⟩
  refine Ty.rd_congr t _ _ _ (fun i _=> ?_) w
  simp
theorem jc0:∀(a:List Nat) (ts:List Ty) (vs:List Value) (ds:List (DataW K)) (ps:List MemPlace),jgH P a ts=true->DataW.TrodAll enc P W 0 (fun _=>true) true a vs ds ps->ds.length=ts.length:=by
 intro a
 induction a with
 |nil=>intro ts vs ds ps b h;obtain⟨rfl,rfl,rfl⟩:=trodAll_nil h;cases ts with|nil=>rfl|cons=>cases b
 |cons T a g=>intro ts vs ds ps b h;cases ts with
  |nil=>cases b
  |cons t ts=>
   obtain⟨v,e,d,c,p,q,rfl,rfl,rfl,i,f⟩:=trodAll_cons h;simp only[jgH,jDR] at b;simp[g ts e c q b.2 f]
theorem jzU {f:Nat} {fn:Func} {s:ChangeSpec} {ts:List Ty} (I:laidOutB P=true) (k:jgH P fn.params.toList ts=true) (L:fn.resultTypes= #[4]) (D:P.underlying 4=some .bool)
 (a:s.vars=[]) (m:∀(ds:List (DataW K)),ds.length=ts.length->s.fn K (ds++[])={results:=[.lit (.bool true)],args:=ds})
 (G:ze P f (jwJ ts)) (base:Nat) (args:Array Value) (ds o:List (DataW K)) (before:List MemPlace)
 (l:∀(j:Nat) t v,fn.params[j]? =some t->args[j]? =some v->Value.okWide P W .any base t v)
 (w:DataW.Whole enc P fn.params.toList s.vars false W args.toList ds o before) (hk:Rows.uptoSmall K (ds++o)=true) (E:jBK (Hof W)):
 Calls P f args W fun e W'=>∃v,e= .returned v/\s.post enc P fn false true false false W args v W':=by
 have b:=w;obtain⟨p,q,i,u,rfl,H,J⟩:=w;rw[a] at u;obtain⟨rfl,rfl⟩:=trodVars_none u;simp only[jEg] at b hk;have c:Rows.uptoBulkAll ds<=1048576:=of_decide_eq_true hk;have g:∀(j:Nat) t v,fn.params.toList[j]? =some t->args.toList[j]? =some v->Value.okWide P W .any base t v:=fun j t v B C=>l j t v (by simpa using B) (by simpa using C)
 obtain⟨d,z,A⟩:=jzO fn.params.toList ts args.toList ds p k i g c;have y:=G.calls (Hof W) W args.toList d (jy2 W E) z ⟨A,trivial⟩;simp only[Array.toArray_toList] at y;refine y.mono fun e W' F=> ?_
 obtain⟨v,H',rfl,r,M⟩:=F;have n:v= .bool true:=zv M;subst n;refine⟨_,rfl,ds,[],p,[],p,[],b,?_,?_,?_,r.below.frame _,fun h=>by cases h⟩
 .rw[m ds ?_,L]
  .exact trodAll_cons_mk (shut_bool D _) trodAll_mk0
  .exact jc0 _ _ _ _ _ k i
 .rw[m ds ?_]
  .exact jee I r.below _ ts _ _ _ k i (fun x N=>by simpa using b.lt x N)
  .exact jc0 _ _ _ _ _ k i
 .rw[a,m ds ?_]
  .rfl
  .exact jc0 _ _ _ _ _ k i
end
end Go.X
namespace Go.X
open Go.Proofs
namespace U
def jCY (p:PeD):Prop:=(lv p).length<=20/\(zN p).length<=30
def jmn (c:CrD):Prop:=(jj c).length<=20/\(zm c).length<=20/\∀p∈jj c,jCY p
def yi (d:DyD):Prop:=jmn (jf d)/\(jt d).length<=20/\(jp d).length<=20/\(jW d).length<=60/\∀r∈jt d,r.length<=20
def jpI (p:PeD):Bool:=decide (20<((lv p).length:Int))||decide (30<((zN p).length:Int))
def jaN (c:CrD):Bool:=(decide (20<((jj c).length:Int))||decide (20<((zm c).length:Int)))||((jj c).any jpI||(ju c&&decide (5<((jj c).length:Int))))
def jpH (r:List SpD):Bool:=decide (20<(r.length:Int))
def vz (d:DyD):Bool:=(((jaN (jf d)||decide (20<((jt d).length:Int)))||decide (20<((jp d).length:Int)))||decide (60<((jW d).length:Int)))||(jt d).any jpH
def jDw:CrD:=(3,[([5,4,0],3,15,[],false,50,()),([0,5,3],3,15,[],true,40,()),([4,0,4],1,3,[7],false,30,()),([3,3,3],255,1,[],false,10,())],[(2,1,false,()),(4,2,false,()),(3,2,true,()),(5,1,false,())],())
def jx9:List JbD:=[(0,2,7,1,2,1,()),(0,2,3,0,0,1,()),(0,2,7,1,1,1,())]
def jkT:DyD:=(jDw,[[(0,0,()),(10,20,())],[(10,25,()),(0,0,())]],[((0,2,3,0,0,1,()),0,60,120,()),((0,2,3,1,0,1,()),1,150,200,()),((0,2,7,1,2,1,()),0,230,300,())],10,140,
 [(1,5,1,0,3,()),(2,6,1,1,3,()),(3,4,1,2,2,()),(4,7,1,2,0,()),(5,8,1,2,1,()),(6,9,1,0,2,()),(7,10,2,0,2,())],())
end U
def jtK:jO:=⟨[.val tCr],[tCr],false,fun d=>[U.jmn d.1],fun d=>(d.1,())⟩
def juY:Ann:=fun r=>match r with
 |3=>some fun σ=>{X:=Nat,sl:=fun i=>[(4,.dat .int (i:Int))],ob:=fun i=>[(3,some (.box 25 false ((bx σ 3).set 1 (.own (qS 3 1) tPe)))),(qS 3 1,some (.row 102 tPe false .yes ((U.jj (gb tCr σ 1)).take i)))],inv:=fun i=>i<=(U.jj (gb tCr σ 1)).length,mu:=fun i=>(U.jj (gb tCr σ 1)).length-i}
 |_=>none
abbrev q109_0 (d:CrD×Unit)(x:Nat):=(nth d.1.2.1 (x:Int).toNat)
def jtt:Prop:=∀(d:CrD×Unit),U.jmn d.1->(0+d.1.2.2.1.length)*24<=140737488355328/\(∃(x:Nat),((0=(x:Int)/\True)/\(d.1.1=d.1.1/\True/\True/\True)/\List.take x (U.jj d.1)=[]/\True)/\x<=(U.jj d.1).length)/\∀(x:Nat),x<=(U.jj d.1).length->d.1.2.1.length<4611686018427387904->(decide ((x:Int)<(d.1.2.1.length:Int))=true->0<=(x:Int)/\(x:Int)<(d.1.2.1.length:Int)/\(0+(q109_0 d x).1.length)*8<=140737488355328/\(0+(q109_0 d x).2.2.2.1.length)*8<=140737488355328/\((List.take x (U.jj d.1)).length+[([]++(q109_0 d x).1,(q109_0 d x).2.1,(q109_0 d x).2.2.1,[]++(q109_0 d x).2.2.2.1,(q109_0 d x).2.2.2.2)].length)*80<=140737488355328/\jA ((x:Int)+1)/\∃(a:Nat),(((x:Int)+1=(a:Int)/\True)/\(d.1.1=d.1.1/\True/\True/\True)/\List.take x (U.jj d.1)++[([]++(q109_0 d x).1,(q109_0 d x).2.1,(q109_0 d x).2.2.1,[]++(q109_0 d x).2.2.2.1,(q109_0 d x).2.2.2.2)]=List.take a (U.jj d.1)/\True)/\a<=(U.jj d.1).length/\(U.jj d.1).length-a<(U.jj d.1).length-x)/\(decide ((x:Int)<(d.1.2.1.length:Int))=false->((d.1.1,List.take x (U.jj d.1),[]++d.1.2.2.1,()),())=d)
def jtJ:jO:=⟨[.val tDy],[tDy],false,fun d=>[U.yi d.1],fun d=>(d.1,())⟩
def juX:Ann:=fun r=>match r with
 |5=>some fun σ=>{X:=Nat,sl:=fun i=>[(4,.dat .int (i:Int))],ob:=fun i=>[(3,some (.box 30 false ((bx σ 3).set 3 (.own (qS 3 3) (.slice tSp))))),(qS 3 3,some (.row 75 (.slice tSp) false .yes ((U.jt (gb tDy σ 1)).take i)))],inv:=fun i=>i<=(U.jt (gb tDy σ 1)).length,mu:=fun i=>(U.jt (gb tDy σ 1)).length-i}
 |_=>none
abbrev q110_0 (d:DyD×Unit):=(d.1.1.1=d.1.1.1/\d.1.1.2.1=d.1.1.2.1/\d.1.1.2.2.1=d.1.1.2.2.1/\True/\d.1.2.2.1=d.1.2.2.1/\d.1.2.2.2.1=d.1.2.2.2.1/\d.1.2.2.2.2.1=d.1.2.2.2.2.1/\d.1.2.2.2.2.2.1=d.1.2.2.2.2.2.1/\True)
def jts:Prop:=∀(d:DyD×Unit),U.yi d.1->U.jmn d.1.1/\(∃(x:Nat),((0=(x:Int)/\True)/\(q110_0 d)/\List.take x (U.jt d.1)=[]/\True)/\x<=(U.jt d.1).length)/\∀(x:Nat),x<=(U.jt d.1).length->d.1.2.1.length<4611686018427387904->(decide ((x:Int)<(d.1.2.1.length:Int))=true->0<=(x:Int)/\(x:Int)<(d.1.2.1.length:Int)/\(0+(nth d.1.2.1 (x:Int).toNat).length)*16<=140737488355328/\((List.take x (U.jt d.1)).length+[[]++nth d.1.2.1 (x:Int).toNat].length)*24<=140737488355328/\jA ((x:Int)+1)/\∃(a:Nat),(((x:Int)+1=(a:Int)/\True)/\(q110_0 d)/\List.take x (U.jt d.1)++[[]++nth d.1.2.1 (x:Int).toNat]=List.take a (U.jt d.1)/\True)/\a<=(U.jt d.1).length/\(U.jt d.1).length-a<(U.jt d.1).length-x)/\(decide ((x:Int)<(d.1.2.1.length:Int))=false->(0+d.1.2.2.1.length)*72<=140737488355328/\(0+d.1.2.2.2.2.2.1.length)*40<=140737488355328/\((d.1.1,List.take x (U.jt d.1),[]++d.1.2.2.1,d.1.2.2.2.1,d.1.2.2.2.2.1,[]++d.1.2.2.2.2.2.1,()),())=d)
def jko:jO:=⟨[.val (.slice .int),.val (.slice .int)],[.bool],false,fun _=>[],fun d=>(decide (d.1=d.2.1),())⟩
def jkZ:Ann:=fun r=>match r with
 |4=>some fun σ=>{X:=Nat,sl:=fun i=>[(5,.dat .int (i:Int))],ob:=fun _=>[],inv:=fun i=>i<=(gd (.slice .int) σ 0).length/\∀j:Nat,j<i->nth (gd (.slice .int) σ 0) j=nth (gd (.slice .int) σ 1) j,mu:=fun i=>(gd (.slice .int) σ 0).length-i}
 |_=>none
def jkf:Prop:=∀(d:List Int×List Int×Unit),d.1.length<4611686018427387904->d.2.1.length<4611686018427387904->(decide ((d.1.length:Int)≠(d.2.1.length:Int))=true->(false,())=(decide (d.1=d.2.1),()))/\(decide ((d.1.length:Int)≠(d.2.1.length:Int))=false->(∃(x:Nat),((0=(x:Int)/\True)/\True)/\x<=d.1.length/\∀(j:Nat),j<x->nth d.1 j=nth d.2.1 j)/\∀(x:Nat),(x<=d.1.length/\∀(j:Nat),j<x->nth d.1 j=nth d.2.1 j)->d.1.length<4611686018427387904->(decide ((x:Int)<(d.1.length:Int))=true->0<=(x:Int)/\(x:Int)<(d.1.length:Int)/\0<=(x:Int)/\(x:Int)<(d.2.1.length:Int)/\(decide (nth d.1 (x:Int).toNat≠nth d.2.1 (x:Int).toNat)=true->(false,())=(decide (d.1=d.2.1),()))/\(decide (nth d.1 (x:Int).toNat≠nth d.2.1 (x:Int).toNat)=false->jA ((x:Int)+1)/\∃(a:Nat),(((x:Int)+1=(a:Int)/\True)/\True)/\(a<=d.1.length/\∀(j:Nat),j<a->nth d.1 j=nth d.2.1 j)/\d.1.length-a<d.1.length-x))/\(decide ((x:Int)<(d.1.length:Int))=false->(true,())=(decide (d.1=d.2.1),())))
def jvw:jO:=⟨[.val tCr],[.bool],false,fun _=>[],fun d=>(U.jaN d.1,())⟩
def jxV:Ann:=fun r=>match r with
 |4=>some fun σ=>{X:=Nat,sl:=fun i=>[(3,.dat .int (i:Int))],ob:=fun _=>[],inv:=fun i=>i<=(U.jj (gb tCr σ 1)).length/\∀j:Nat,j<i->U.jpI (nth (U.jj (gb tCr σ 1)) j)=false,mu:=fun i=>(U.jj (gb tCr σ 1)).length-i}
 |_=>none
abbrev q112_0 (d:CrD×Unit)(x:Nat):=((20:Int)<(↑(nth d.1.2.1 (x:Int).toNat).1.length:Int))
abbrev q112_1 (d:CrD×Unit):=(d.1.2.1.length:Int)
abbrev q112_2 (d:CrD×Unit)(x:Nat):=(decide (q112_0 d x)||decide ((30:Int)<(↑(nth d.1.2.1 (x:Int).toNat).2.2.2.1.length:Int)))
abbrev q112_3 (d:CrD×Unit):=(decide (20<(q112_1 d))||decide (20<(d.1.2.2.1.length:Int)))
def jva:Prop:=∀(d:CrD×Unit),d.1.2.1.length<4611686018427387904->((!decide (20<(q112_1 d)))=true->d.1.2.2.1.length<4611686018427387904)->((q112_3 d)=true->(true,())=(U.jaN d.1,()))/\((q112_3 d)=false->(∃(x:Nat),((0=(x:Int)/\True)/\True)/\x<=(U.jj d.1).length/\∀(j:Nat),j<x->U.jpI (nth (U.jj d.1) j)=false)/\∀(x:Nat),(x<=(U.jj d.1).length/\∀(j:Nat),j<x->U.jpI (nth (U.jj d.1) j)=false)->d.1.2.1.length<4611686018427387904->(decide ((x:Int)<(q112_1 d))=true->0<=(x:Int)/\(x:Int)<(q112_1 d)/\((nth d.1.2.1 (x:Int).toNat).1.length<4611686018427387904->((!decide (q112_0 d x))=true->0<=(x:Int))/\((!decide (q112_0 d x))=true->(x:Int)<(q112_1 d))/\(((!decide (q112_0 d x))=true->(nth d.1.2.1 (x:Int).toNat).2.2.2.1.length<4611686018427387904)->((q112_2 d x)=true->(true,())=(U.jaN d.1,()))/\((q112_2 d x)=false->jA ((x:Int)+1)/\∃(a:Nat),(((x:Int)+1=(a:Int)/\True)/\True)/\(a<=(U.jj d.1).length/\∀(j:Nat),j<a->U.jpI (nth (U.jj d.1) j)=false)/\(U.jj d.1).length-a<(U.jj d.1).length-x))))/\(decide ((x:Int)<(q112_1 d))=false->(U.ju d.1=true->d.1.2.1.length<4611686018427387904)->(U.ju d.1&&decide (5<(q112_1 d)),())=(U.jaN d.1,())))
def jtA:jO:=⟨[.val tDy],[.bool],false,fun _=>[],fun d=>(U.vz d.1,())⟩
def juT:Ann:=fun r=>match r with
 |4=>some fun σ=>{X:=Nat,sl:=fun i=>[(3,.dat .int (i:Int))],ob:=fun _=>[],inv:=fun i=>i<=(U.jt (gb tDy σ 1)).length/\∀j:Nat,j<i->U.jpH (nth (U.jt (gb tDy σ 1)) j)=false,mu:=fun i=>(U.jt (gb tDy σ 1)).length-i}
 |_=>none
abbrev q113_1 (d:DyD×Unit):=(d.1.2.1.length:Int)
abbrev q113_0 (d:DyD×Unit):=(U.jaN d.1.1||decide (20<(q113_1 d))||decide (20<(d.1.2.2.1.length:Int))||decide (60<(d.1.2.2.2.2.2.1.length:Int)))
def jti:Prop:=∀(d:DyD×Unit),((!U.jaN d.1.1)=true->d.1.2.1.length<4611686018427387904)->((!(U.jaN d.1.1||decide (20<(q113_1 d))))=true->d.1.2.2.1.length<4611686018427387904)->((!(U.jaN d.1.1||decide (20<(q113_1 d))||decide (20<(d.1.2.2.1.length:Int))))=true->d.1.2.2.2.2.2.1.length<4611686018427387904)->((q113_0 d)=true->(true,())=(U.vz d.1,()))/\((q113_0 d)=false->(∃(x:Nat),((0=(x:Int)/\True)/\True)/\x<=(U.jt d.1).length/\∀(j:Nat),j<x->U.jpH (nth (U.jt d.1) j)=false)/\∀(x:Nat),(x<=(U.jt d.1).length/\∀(j:Nat),j<x->U.jpH (nth (U.jt d.1) j)=false)->d.1.2.1.length<4611686018427387904->(decide ((x:Int)<(q113_1 d))=true->0<=(x:Int)/\(x:Int)<(q113_1 d)/\((nth d.1.2.1 (x:Int).toNat).length<4611686018427387904->(decide ((20:Int)<(↑(nth d.1.2.1 (x:Int).toNat).length:Int))=true->(true,())=(U.vz d.1,()))/\(decide ((20:Int)<(↑(nth d.1.2.1 (x:Int).toNat).length:Int))=false->jA ((x:Int)+1)/\∃(a:Nat),(((x:Int)+1=(a:Int)/\True)/\True)/\(a<=(U.jt d.1).length/\∀(j:Nat),j<a->U.jpH (nth (U.jt d.1) j)=false)/\(U.jt d.1).length-a<(U.jt d.1).length-x)))/\(decide ((x:Int)<(q113_1 d))=false->(false,())=(U.vz d.1,())))
def jtz:jO:=⟨[.val .int,.val .int],[tSp],false,fun _=>[],fun d=>((d.1,d.2.1,()),())⟩
def jth:Prop:=∀(d:Int×Int×Unit),(d,())=(d,())
def jmh:jO:=⟨[],[tCr,.slice tJb],false,fun _=>[],fun _=>(U.jDw,U.jx9,())⟩
def jl4:Prop:=∀(d:Unit),(((3:Int),[([(5:Int),(4:Int),(0:Int)],(3:Int),(15:Int),[],false,(50:Int),()),([(0:Int),(5:Int),(3:Int)],(3:Int),(15:Int),[],true,(40:Int),()),([(4:Int),(0:Int),(4:Int)],(1:Int),(3:Int),[(7:Int)],false,(30:Int),()),([(3:Int),(3:Int),(3:Int)],(255:Int),(1:Int),[],false,(10:Int),())],[((2:Int),(1:Int),false,()),((4:Int),(2:Int),false,()),((3:Int),(2:Int),true,()),((5:Int),(1:Int),false,())],()),[((0:Int),(2:Int),(7:Int),(1:Int),(2:Int),(1:Int),()),((0:Int),(2:Int),(3:Int),(0:Int),(0:Int),(1:Int),()),((0:Int),(2:Int),(7:Int),(1:Int),(1:Int),(1:Int),())],())=(U.jDw,U.jx9,())
def jmg:jO:=⟨[],[tDy],false,fun _=>[],fun _=>(U.jkT,())⟩
abbrev q116_0:=(nth U.jx9 (Int.toNat 1))
def jl3:Prop:=∀(d:Unit),(0:Int)<=1/\1<(U.jx9.length:Int)/\(0:Int)<=1/\1<(U.jx9.length:Int)/\(0:Int)<=0/\0<(U.jx9.length:Int)/\((U.jDw,[[((0:Int),(0:Int),()),((10:Int),(20:Int),())],[((10:Int),(25:Int),()),((0:Int),(0:Int),())]],[(nth U.jx9 (Int.toNat 1),(0:Int),(60:Int),(120:Int),()),((q116_0.1,q116_0.2.1,q116_0.2.2.1,(1:Int),q116_0.2.2.2.2),(1:Int),(150:Int),(200:Int),()),(nth U.jx9 (Int.toNat 0),(0:Int),(230:Int),(300:Int),())],(10:Int),(140:Int),[((1:Int),(5:Int),(1:Int),(0:Int),(3:Int),()),((2:Int),(6:Int),(1:Int),(1:Int),(3:Int),()),((3:Int),(4:Int),(1:Int),(2:Int),(2:Int),()),((4:Int),(7:Int),(1:Int),(2:Int),(0:Int),()),((5:Int),(8:Int),(1:Int),(2:Int),(1:Int),()),((6:Int),(9:Int),(1:Int),(0:Int),(2:Int),()),((7:Int),(10:Int),(2:Int),(0:Int),(2:Int),())],()),())=(U.jkT,())
def jqn:jO:=⟨[],[.bool],false,fun _=>[],fun _=>(true,())⟩
def jp1:Prop:=∀(d:Unit),(U.jW U.jkT).length<=100000/\(U.jW U.jkT).length<=100000/\(U.jW U.jkT).length<=100000/\(decide (U.jz U.jkT=0)&&decide (U.jz U.jkT=0)&&decide (U.jdi U.jkT=0)&&decide (U.jkl U.jkT=[(8:Int),(8:Int),(3:Int)])&&decide (U.jky U.jkT=[(3:Int)])&&decide (U.jhq U.jkT=[(8:Int),(8:Int),(3:Int)])&&decide (U.jhp U.jkT=110),())=(true,())
end Go.X
namespace Go.X
open Go.Proofs
theorem jxb:jtt:=by
 unfold jtt q109_0;rintro⟨c,⟨⟩⟩ g;obtain⟨m,j,a⟩:U.jmn c:=g;refine⟨by show(0+(U.zm c).length)*24<=140737488355328;omega,⟨0,⟨⟨rfl,trivial⟩,⟨rfl,trivial,trivial,trivial⟩,rfl,trivial⟩,jDV _⟩,fun x f _=>⟨fun h=> ?_,fun h=> ?_⟩⟩
 .have h:(x:Int)<((U.jj c).length:Int):=of_decide_eq_true h;have k:=L.take_succ (l:=U.jj c) (i:=x) (by omega);obtain⟨s1,s2⟩:=a _ (L.mem_nth (l:=U.jj c) (i:=x) (by omega));have d:((U.jj c).take x).length<=20:=(by rw[jEf];omega);refine⟨jD6 _,h,by show(0+(U.lv (nth (U.jj c) x)).length)*8<=140737488355328;omega,by show(0+(U.zN (nth (U.jj c) x)).length)*8<=140737488355328;omega,by show(((U.jj c).take x).length+1)*80<=140737488355328;omega,L.in64 (by omega) (by omega),x+1,⟨⟨by simp,trivial⟩,⟨rfl,trivial,trivial,trivial⟩,k.symm,trivial⟩,by show x+1<=(U.jj c).length;omega,by show(U.jj c).length-(x+1)<(U.jj c).length-x;omega⟩
 .have h:¬(x:Int)<((U.jj c).length:Int):=of_decide_eq_false h;have f:x<=(U.jj c).length:=f;have b:x=(U.jj c).length:=(by omega);subst b;have e:(U.jj c).take (U.jj c).length=U.jj c:=jEJ;show((c.1,(U.jj c).take (U.jj c).length,c.2.2.1,()),())=(c,());rw[e];rfl
theorem jt1:ze PR 42 jtK:=wa juY jxb Tryz.func42 kcN koN
theorem jxa:jts:=by
 unfold jts q110_0;rintro⟨d,⟨⟩⟩ g;obtain⟨k,o,j,n,a⟩:U.yi d:=g;refine⟨k,⟨0,⟨⟨rfl,trivial⟩,⟨rfl,rfl,rfl,trivial,rfl,rfl,rfl,rfl,trivial⟩,rfl,trivial⟩,jDV _⟩,fun x f _=>⟨fun h=> ?_,fun h=> ?_⟩⟩
 .have h:(x:Int)<((U.jt d).length:Int):=of_decide_eq_true h;have m:=L.take_succ (l:=U.jt d) (i:=x) (by omega);have p:=a _ (L.mem_nth (l:=U.jt d) (i:=x) (by omega));have c:((U.jt d).take x).length<=20:=(by rw[jEf];omega);refine⟨jD6 _,h,by show(0+(nth (U.jt d) x).length)*16<=140737488355328;omega,by show(((U.jt d).take x).length+1)*24<=140737488355328;omega,L.in64 (by omega) (by omega),x+1,⟨⟨by simp,trivial⟩,⟨rfl,rfl,rfl,trivial,rfl,rfl,rfl,rfl,trivial⟩,m.symm,trivial⟩,by show x+1<=(U.jt d).length;omega,by show(U.jt d).length-(x+1)<(U.jt d).length-x;omega⟩
 .have h:¬(x:Int)<((U.jt d).length:Int):=of_decide_eq_false h;have f:x<=(U.jt d).length:=f;have b:x=(U.jt d).length:=(by omega);subst b;have e:(U.jt d).take (U.jt d).length=U.jt d:=jEJ;refine⟨by show(0+(U.jp d).length)*72<=140737488355328;omega,by show(0+(U.jW d).length)*40<=140737488355328;omega,?_⟩;show((U.jf d,(U.jt d).take (U.jt d).length,U.jp d,U.jtN d,U.jAY d,U.jW d,()),())=(d,());rw[e];rfl
theorem jln:ze PR 13 jtJ:=wa juX jxa Tryz.func13 (kcC jt1 kcN) koN
theorem jmY:jkf:=by
 rintro⟨a,b,⟨⟩⟩ _ l;refine⟨fun h=> ?_,fun h=>⟨⟨0,⟨⟨rfl,trivial⟩,trivial⟩,jDV _,fun j k=>by omega⟩,fun x g f=>⟨fun c=>⟨jD6 _,of_decide_eq_true c,jD6 _,?_,fun d=> ?_,fun d=> ?_⟩,fun c=> ?_⟩⟩⟩
 .have h:(a.length:Int)≠(b.length:Int):=of_decide_eq_true h;have:¬a=b:=fun e=>h (by rw[e])
  show(false,())=(decide (a=b),());rw[decide_eq_false this]
 .have h:(a.length:Int)=(b.length:Int):=Classical.not_not.1 (of_decide_eq_false h);have c:(x:Int)<(a.length:Int):=of_decide_eq_true c;show(x:Int)<(b.length:Int);omega
 .have d:nth a x≠nth b x:=of_decide_eq_true d;have:¬a=b:=fun e=>d (by rw[e])
  show(false,())=(decide (a=b),());rw[decide_eq_false this]
 .have c:(x:Int)<(a.length:Int):=of_decide_eq_true c;have d:nth a x=nth b x:=Classical.not_not.1 (of_decide_eq_false d);have f:a.length<4611686018427387904:=f;refine⟨L.in64 (by omega) (by omega),x+1,⟨⟨by simp,trivial⟩,trivial⟩,⟨by show x+1<=a.length;omega,fun j k=> ?_⟩,by show a.length-(x+1)<a.length-x;omega⟩;by_cases e:j=x
  .subst e;exact d
  .exact g.2 j (by omega)
 .have h:(a.length:Int)=(b.length:Int):=Classical.not_not.1 (of_decide_eq_false h);have c:¬(x:Int)<(a.length:Int):=of_decide_eq_false c;have e:a=b:=L.ext_nth (by omega) fun i hi=>g.2 i (by omega)
  show(true,())=(decide (a=b),());rw[decide_eq_true e]
theorem jkz:ze PR 15 jko:=wa jkZ jmY Tryz.func15 kcN koN
theorem jyX:jva:=by
 unfold jva q112_3 q112_2 q112_1 q112_0;rintro⟨c,⟨⟩⟩ _ _;refine⟨fun h=> ?_,fun h=>⟨⟨0,⟨⟨rfl,trivial⟩,trivial⟩,jDV _,fun j g=>by omega⟩,fun x f d=>⟨fun a=>⟨jD6 _,of_decide_eq_true a,fun _=>⟨fun _=>jD6 _,fun _=>of_decide_eq_true a,fun _=>⟨fun b=> ?_,fun b=> ?_⟩⟩⟩,fun a _=> ?_⟩⟩⟩
 .have h:(decide (20<((U.jj c).length:Int))||decide (20<((U.zm c).length:Int)))=true:=h;show(true,())=(U.jaN c,());unfold U.jaN;rw[h];rfl
 .have b:U.jpI (nth (U.jj c) x)=true:=b;have a:(x:Int)<((U.jj c).length:Int):=of_decide_eq_true a;have:(U.jj c).any U.jpI=true:=jEM.2 ⟨_,L.mem_nth (l:=U.jj c) (i:=x) (by omega),b⟩;show(true,())=(U.jaN c,());unfold U.jaN;rw[this,Bool.true_or,Bool.or_true]
 .have b:U.jpI (nth (U.jj c) x)=false:=b;have a:(x:Int)<((U.jj c).length:Int):=of_decide_eq_true a;have d:(U.jj c).length<4611686018427387904:=d;refine⟨L.in64 (by omega) (by omega),x+1,⟨⟨by simp,trivial⟩,trivial⟩,⟨by show x+1<=(U.jj c).length;omega,fun j g=> ?_⟩,by show(U.jj c).length-(x+1)<(U.jj c).length-x;omega⟩;by_cases e:j=x
  .subst e;exact b
  .exact f.2 j (by omega)
 .have h:(decide (20<((U.jj c).length:Int))||decide (20<((U.zm c).length:Int)))=false:=h;have a:¬(x:Int)<((U.jj c).length:Int):=of_decide_eq_false a;have:(U.jj c).any U.jpI=false:=jEA.2 fun p k=>by
   obtain⟨i,hi,rfl⟩:=L.mem_iff.1 k;rw[f.2 i (by omega)];simp
  show(U.ju c&&decide (5<((U.jj c).length:Int)),())=(U.jaN c,());unfold U.jaN;rw[h,this,Bool.false_or,Bool.false_or]
theorem jwh:ze PR 70 jvw:=wa jxV jyX Tryz.func70 (kcC jgK kcN) koN
theorem jw1:jti:=by
 unfold jti q113_0 q113_1;rintro⟨d,⟨⟩⟩ _ _ _;refine⟨fun h=> ?_,fun h=>⟨⟨0,⟨⟨rfl,trivial⟩,trivial⟩,jDV _,fun j g=>by omega⟩,fun x f c=>⟨fun a=>⟨jD6 _,of_decide_eq_true a,fun _=>⟨fun b=> ?_,fun b=> ?_⟩⟩,fun a=> ?_⟩⟩⟩
 .have h:(((U.jaN (U.jf d)||decide (20<((U.jt d).length:Int)))||decide (20<((U.jp d).length:Int)))||decide (60<((U.jW d).length:Int)))=true:=h;show(true,())=(U.vz d,());unfold U.vz;rw[h];rfl
 .have b:U.jpH (nth (U.jt d) x)=true:=b;have a:(x:Int)<((U.jt d).length:Int):=of_decide_eq_true a;have:(U.jt d).any U.jpH=true:=jEM.2 ⟨_,L.mem_nth (l:=U.jt d) (i:=x) (by omega),b⟩;show(true,())=(U.vz d,());unfold U.vz;rw[this,Bool.or_true]
 .have b:U.jpH (nth (U.jt d) x)=false:=b;have a:(x:Int)<((U.jt d).length:Int):=of_decide_eq_true a;have c:(U.jt d).length<4611686018427387904:=c;refine⟨L.in64 (by omega) (by omega),x+1,⟨⟨by simp,trivial⟩,trivial⟩,⟨by show x+1<=(U.jt d).length;omega,fun j g=> ?_⟩,by show(U.jt d).length-(x+1)<(U.jt d).length-x;omega⟩;by_cases e:j=x
  .subst e;exact b
  .exact f.2 j (by omega)
 .have h:(((U.jaN (U.jf d)||decide (20<((U.jt d).length:Int)))||decide (20<((U.jp d).length:Int)))||decide (60<((U.jW d).length:Int)))=false:=h;have a:¬(x:Int)<((U.jt d).length:Int):=of_decide_eq_false a;have:(U.jt d).any U.jpH=false:=jEA.2 fun p k=>by
   obtain⟨i,hi,rfl⟩:=L.mem_iff.1 k;rw[f.2 i (by omega)];simp
  show(false,())=(U.vz d,());unfold U.vz;rw[h,this];rfl
theorem jtV:ze PR 30 jtA:=wa juT jw1 Tryz.func30 (kcC jwh kcN) koN
theorem jxk {c:CrD} (h:U.jaN c=false):U.jmn c:=by
 unfold U.jaN at h;rw[jEc,jEc,jEc,decide_eq_false_iff_not] at h;have b:=of_decide_eq_false h.1.2;refine⟨by have:=h.1.1;omega,by omega,fun p a=> ?_⟩;have:=jEA.1 h.2.1 p a;unfold U.jpI at this;rw[jE6,decide_eq_true_iff,decide_eq_true_iff] at this;unfold U.jCY;omega
theorem jub {d:DyD} (h:U.vz d=false):U.yi d:=by
 unfold U.vz at h;rw[jEc,jEc,jEc,jEc] at h;obtain⟨⟨⟨⟨e,a⟩,b⟩,c⟩,f⟩:=h;have a:=of_decide_eq_false a;have b:=of_decide_eq_false b;have c:=of_decide_eq_false c;refine⟨jxk e,by omega,by omega,by omega,fun r g=> ?_⟩;have:=jEA.1 f r g;unfold U.jpH at this;rw[decide_eq_true_iff] at this;omega
theorem jw0:jth:=fun _=>rfl
theorem jtU:ze PR 78 jtz:=jL jw0 Tryz.func78 kcN koN
theorem jo8:jl4:=fun _=>rfl
theorem jmE:ze PR 77 jmh:=jL jo8 Tryz.func77 kcN koN
theorem jo7:jl3:=by
 unfold jl3 q116_0;intro _;refine⟨by decide,by decide,by decide,by decide,by decide,by decide,rfl⟩
theorem jmD:ze PR 38 jmg:=jL jo7 Tryz.func38 (kcC jmE (kcC jtU kcN)) koN
theorem jxp:U.qV U.jkT=0:=by decide+kernel
theorem jCw:(U.jvt U.jkT).1=[8,8,3]:=by decide+kernel
theorem jCx:U.jeB (U.jvt U.jkT).2 100=[3]:=by decide+kernel
theorem jxo:(U.jC1 U.jkT).2=([8,8,3],110,true):=by decide+kernel
theorem juf:jp1:=by
 intro _;refine⟨by decide,by decide,by decide,?_⟩;have b:U.jz U.jkT=0:=(jfq _).trans jxp;have c:U.jkl U.jkT=[8,8,3]:=(by rw[jAl,if_pos jxp];exact jCw);have d:U.jky U.jkT=[3]:=(by rw[jAz,if_pos jxp];exact jCx);have a:U.jdi U.jkT=0:=(by unfold U.jdi;rw[if_pos b,jxo,if_pos rfl]);have e:U.jhq U.jkT=[8,8,3]:=(by unfold U.jhq;rw[if_pos a,jxo]);have f:U.jhp U.jkT=110:=(by unfold U.jhp;rw[if_pos a,jxo]);rw[b,c,d,a,e,f];rfl
theorem jq3:ze PR 11 jqn:=jL juf Tryz.func11 (kcC jmD (kcC jkz (kcC jtY (kcC joP (kcC jwj kcN))))) koN
end Go.X
namespace Go.X
open Go.Proofs
end Go.X
namespace Go.X
open Go.Proofs
section
attribute [local irreducible] U.jay U.on U.jpV
end
section
attribute [local irreducible] U.jpV
end
section
attribute [local irreducible] U.qV U.jpV
end
end Go.X

namespace Go.X
section
attribute [local irreducible] U.wS U.jaO U.kl U.jay
end
section
attribute [local irreducible] U.jaO U.kl U.jay U.wZ
end
end Go.X
namespace Go.X
open Go.Proofs
section
attribute [local irreducible] U.wS U.kl
end
end Go.X
namespace Go.X
namespace U
def jeP:DyD:=((0,[],[],()),[],[],0,0,[],())
def jCQ:List ShD:=[]
def jff (a b:PeD):Bool:= @decide (a=b) (tPe.decEq a b)
def jdH (a b:DyD):Bool:= @decide (a=b) (tDy.decEq a b)
def flatS (l:List (List ShD)) (i:Nat):List ShD:=(l.take i).flatten
def jCf (d:DyD) (m:List ShD):List ShD:=jG (flatS [jW d,m] 2)
def jt8 (d:DyD) (m:List ShD):Int:=if jz d≠0 then jz d else if jz (zx d m)≠0 then jz (zx d m) else if 30<(jCf d m).length then 2 else if jrL (jCf d m)=true then 51 else 0
def joX (d:DyD) (m:List ShD):DyD:=if jt8 d m=0 then zx d (jCf d m) else jeP
def jAV (d:DyD) (m:List ShD):List ShD:=kA (jW d++m)
def jmR (d:DyD) (m:List ShD):Int:=if qV d≠0 then qV d else if qV (zx d m)≠0 then qV (zx d m) else if 30<(jAV d m).length then 2 else if zZ (jAV d m)=true then 51 else 0
def jmS (d:DyD) (m:List ShD):DyD:=if jmR d m=0 then zx d (jAV d m) else jeP
end U
end Go.X
namespace Go.X
abbrev jC8:ShD->ShD->Bool:=U.jd tSh fun x=>(U.wY x.1 x.2.1,())
theorem jCz (l:List ShD):(U.jG l).Pairwise (fun a b=>jC8 a b=true):=by
 have e:U.jG l=U.qC (fun a b=>decide (a=b)) (U.jc (U.jd tSh fun x=>(U.wY x.1 x.2.1,())) l):=by
  unfold U.jG;congr 1
 rw[e];exact L.comp_asc (jmB _) (qX (jmB l))
theorem jzF {α:Type} {lt:α->α->Bool} {l:List α} (e:kj lt l) (h:l.Pairwise (fun a b=>lt a b=true)):jte lt l:=
 List.Pairwise.imp_of_mem (fun{a b} c f d=>by
  cases h:lt b a with
  |false=>rfl
  |true=>have:=e.trans _ _ _ c f c d h;rw[e.irrefl _ c] at this;cases this) h
theorem jAW {a b:ShD} (h:U.zT a<U.zT b):jC8 a b=true:=by
 have e:U.wY a b<0:=by
  unfold U.wY;rw[jZ];have:=jrV.2 h;rw[if_pos (by omega)];exact this
 exact decide_eq_true e
theorem jBj {l:List ShD} (k:∀a∈l,∀b∈l,U.zT a=U.zT b->a=b):(U.kA l).Pairwise (fun a b=>jC8 a b=true):=by
 have o:=y7 l;have c:(U.kA l).Pairwise (fun a b=>U.zT a<=U.zT b):=by
  unfold U.kA U.zH;refine List.pairwise_flatMap.2 ⟨fun m _=> ?_,?_⟩
  .exact jEE.2 fun i j hi n _=>by
    have d:=jcd (List.getElem_mem hi);have c:=jcd (List.getElem_mem n);omega
  .refine List.Pairwise.imp ?_ jE1;intro a b g x p y q;have d:=jcd p;have c:=jcd q;omega
 refine List.Pairwise.imp_of_mem ?_ (List.Pairwise.and c o);intro a b f h ⟨h3,h4⟩;refine jAW ?_;have:U.zT a≠U.zT b:=fun e=>h4 (k a (qj f) b (qj h) e)
 omega
theorem jng {l:List ShD} (h:∀s∈l,0<=U.zT s/\U.zT s<=99) (s:ShD):s∈U.kA l↔s∈l:=⟨qj,fun a=>jxz a (h s a).1 (h s a).2⟩
theorem jfl {l:List ShD} (h:∀s∈l,0<=U.zT s/\U.zT s<=99):(U.jG l).Perm (U.kA l):=
 L.perm_of_nodup (jfk l) (y7 l) fun s=>jad.trans (jng h s).symm
theorem jzh {l:List ShD} (h:∀s∈l,0<=U.zT s/\U.zT s<=99) (c:∀a∈l,∀b∈l,U.zT a=U.zT b->a=b):U.jG l=U.kA l:=
 jag (jmB _) (jfl h) (jzF (jmB _) (jCz l)) (jzF (jmB _) (jBj c))
theorem jlO {l:List ShD} (h:∀s∈l,0<=U.zT s/\U.zT s<=99):U.zZ (U.kA l)=U.zZ l:=by
 have:U.zZ (U.kA l)=false↔U.zZ l=false:=by
  rw[jbJ,jbJ];exact⟨fun g a d b e=>g a ((jng h a).2 d) b ((jng h b).2 e),fun g a d b e=>g a (qj d) b (qj e)⟩
 cases c:U.zZ (U.kA l) with
 |false=>exact(this.1 c).symm
 |true=>
  cases f:U.zZ l with
  |false=>rw[this.2 f] at c;cases c
  |true=>rfl
theorem jy6 (a b:List ShD):U.flatS [a,b] 2=a++b:=by
 show[a,b].flatten=a++b;simp
theorem jzW {d:DyD} (h:U.qV d=0):∀s∈U.jW d,0<=U.zT s/\U.zT s<=99:=fun _ a=>jiD (zJ ((jfq d).trans h)).1.2.2 a
theorem jwY {d:DyD} {m:List ShD} (h:U.qV d=0) (b:U.qV (U.zx d m)=0):∀s∈U.jW d++m,0<=U.zT s/\U.zT s<=99:=by
 intro s a;rcases jDU.1 a with a|a
 .exact jzW h s a
 .exact jzW b s a
theorem jzT (d:DyD) (m:List ShD):U.jt8 d m=U.jmR d m:=by
 unfold U.jt8 U.jmR U.jCf U.jAV;rw[jfq,jfq,jy6,jpr];by_cases h:U.qV d=0
 .by_cases a:U.qV (U.zx d m)=0
  .have b:=jwY h a;rw[(jfl b).length_eq,jlO b]
  .rw[if_neg (fun g=>g h),if_pos a,if_neg (fun g=>g h),if_pos a]
 .rw[if_pos h,if_pos h]
theorem jwF {d:DyD} {m:List ShD} (h:U.jmR d m=0):U.qV d=0/\U.qV (U.zx d m)=0/\(U.jAV d m).length<=30/\U.zZ (U.jAV d m)=false:=by
 unfold U.jmR at h
 split at h
 .exact absurd h (by assumption)
 rename_i a
 split at h
 .exact absurd h (by assumption)
 rename_i b
 split at h
 .omega
 rename_i e
 split at h
 .omega
 rename_i c;exact⟨Decidable.not_not.1 a,Decidable.not_not.1 b,by omega,by simpa using c⟩
theorem jCe {d:DyD} {m:List ShD} (h:U.jmR d m=0):U.jCf d m=U.jAV d m:=by
 obtain⟨c,e,_,a⟩:=jwF h;have b:=jwY c e;unfold U.jCf U.jAV;rw[jy6];unfold U.jAV at a;rw[jlO b] at a;exact jzh b ((jbJ _).1 a)
theorem jCd (d:DyD) (m:List ShD):U.joX d m=U.jmS d m:=by
 unfold U.joX U.jmS;rw[jzT];by_cases h:U.jmR d m=0
 .rw[if_pos h,if_pos h,jCe h]
 .rw[if_neg h,if_neg h]
end Go.X

namespace Go.X
theorem jrW {d:DyD}:U.qV d=0↔U.jpV d/\∀a∈U.jW d,∀b∈U.jW d,U.zT a=U.zT b->a=b:=by
 refine⟨fun h=>zJ ((jfq d).trans h),fun⟨⟨c,e,f⟩,g⟩=> ?_⟩;unfold U.qV;rw[c,e,f,(jbJ _).2 g];rfl
end Go.X


namespace Go.X
instance:Inhabited (Nat×Nat):=⟨(0,0)⟩
end Go.X

namespace Go.X
open Go.Proofs
abbrev rwP:Sh:= .cl (.row 102 tPe .unk)
def jel:jO:=⟨[.val (.slice .int)],[.slice .int],false,fun d=>[d.1.length<=100000],fun d=>(d.1,())⟩
def jd7:Prop:=∀(d:List Int×Unit),d.1.length<=100000->∀(a:Bool),(a=true->d.1=[])->(a=true->([],())=d)/\(a=false->(0+d.1.length)*8<=140737488355328/\([]++d.1,())=d)
def jhf:jO:=⟨[.val (.slice tSp)],[.slice tSp],false,fun d=>[d.1.length<=100000],fun d=>(d.1,())⟩
def jg5:Prop:=∀(d:List (Int×Int×Unit)×Unit),d.1.length<=100000->∀(a:Bool),(a=true->d.1=[])->(a=true->([],())=d)/\(a=false->(0+d.1.length)*16<=140737488355328/\([]++d.1,())=d)
def jc7:jO:=⟨[.val (.slice tBk)],[.slice tBk],false,fun d=>[d.1.length<=100000],fun d=>(d.1,())⟩
def jcX:Prop:=∀(d:List BkD×Unit),d.1.length<=100000->∀(a:Bool),(a=true->d.1=[])->(a=true->([],())=d)/\(a=false->(0+d.1.length)*72<=140737488355328/\([]++d.1,())=d)
def jiy:jO:=⟨[.val (.slice tLw)],[.slice tLw],false,fun d=>[d.1.length<=100000],fun d=>(d.1,())⟩
def jij:Prop:=∀(d:List LwD×Unit),d.1.length<=100000->∀(a:Bool),(a=true->d.1=[])->(a=true->([],())=d)/\(a=false->(0+d.1.length)*24<=140737488355328/\([]++d.1,())=d)
def jes:zr:=⟨[.val (.slice tPe)],[rwP],fun d=>[d.1.length<=100000],fun d=>((d.1,()),())⟩
def jd9:Prop:=∀(d:List PeD×Unit),d.1.length<=100000->∀(a:Bool),(a=true->d.1=[])->(a=true->([],())=d/\()=())/\(a=false->(0+d.1.length)*80<=140737488355328/\([]++d.1,())=d/\()=())
def jn5:jO:=⟨[.val tDy,.val (.slice tSh)],[tDy],false,fun d=>[U.yi d.1],fun d=>(U.zx d.1 d.2.1,())⟩
def jpJ:Ann:=fun r=>match r with
 |7=>some fun σ=>{X:=Nat,sl:=fun i=>[(33,.dat .int (i:Int))],ob:=fun _=>[(qS 5 1,some (.row 102 tPe false .unk (U.jj (U.jf (gb tDy σ 2)))))],inv:=fun i=>i<=(U.jj (U.jf (gb tDy σ 2))).length,mu:=fun i=>(U.jj (U.jf (gb tDy σ 2))).length-i}
 |13=>some fun σ=>{X:=Nat,sl:=fun i=>[(61,.dat .int (i:Int))],ob:=fun i=>[(5,some (.box 30 false ((bx σ 5).set 3 (.own (qS 5 3) (.slice tSp))))),(qS 5 3,some (.row 75 (.slice tSp) false .yes ((U.jt (gb tDy σ 2)).take i)))],inv:=fun i=>i<=(U.jt (gb tDy σ 2)).length,mu:=fun i=>(U.jt (gb tDy σ 2)).length-i}
 |_=>none
abbrev q123_1 (d:DyD×List ShD×Unit):=(d.1.1.1=d.1.1.1/\True/\d.1.1.2.2.1=d.1.1.2.2.1/\True/\d.1.2.2.1=d.1.2.2.1/\d.1.2.2.2.1=d.1.2.2.2.1/\d.1.2.2.2.2.1=d.1.2.2.2.2.1/\d.2.1=d.2.1/\True)
abbrev q123_2 (d:DyD×List ShD×Unit):=(U.jj (U.jf d.1))
abbrev q123_0 (d:DyD×List ShD×Unit)(x:Nat):=((q123_2 d).set (x:Int).toNat (nth (q123_2 d) (x:Int).toNat))
def jnJ:Prop:=∀(d:DyD×List ShD×Unit),U.yi d.1->d.1.2.2.1.length<=100000/\d.1.1.2.2.1.length<=100000/\d.1.1.2.1.length<=100000/\(d.1.1.2.1.length<4611686018427387904->(∃(x:Nat),((0=(x:Int)/\True)/\d.1.1.2.1=U.jj (U.jf d.1)/\True)/\x<=(q123_2 d).length)/\∀(x:Nat),x<=(q123_2 d).length->(decide ((x:Int)<(d.1.1.2.1.length:Int))=true->0<=(x:Int)/\(x:Int)<(↑(q123_2 d).length:Int)/\(nth (q123_2 d) (x:Int).toNat).1.length<=100000/\(nth (q123_2 d) (x:Int).toNat).2.2.2.1.length<=100000/\0<=(x:Int)/\(x:Int)<(↑(q123_2 d).length:Int)/\0<=(x:Int)/\(x:Int)<(↑(q123_0 d x).length:Int)/\jA ((x:Int)+1)/\∃(a:Nat),(((x:Int)+1=(a:Int)/\True)/\(q123_0 d x).set (x:Int).toNat ((nth (q123_0 d x) (x:Int).toNat).1,(nth (q123_0 d x) (x:Int).toNat).2.1,(nth (q123_0 d x) (x:Int).toNat).2.2.1,(nth (q123_2 d) (x:Int).toNat).2.2.2.1,(nth (q123_0 d x) (x:Int).toNat).2.2.2.2)=U.jj (U.jf d.1)/\True)/\a<=(q123_2 d).length/\(q123_2 d).length-a<(q123_2 d).length-x)/\(decide ((x:Int)<(d.1.1.2.1.length:Int))=false->d.1.2.1.length<4611686018427387904->(∃(x:Nat),((0=(x:Int)/\True)/\(q123_1 d)/\List.take x (U.jt d.1)=[]/\True)/\x<=(U.jt d.1).length)/\∀(x:Nat),x<=(U.jt d.1).length->(decide ((x:Int)<(d.1.2.1.length:Int))=true->0<=(x:Int)/\(x:Int)<(d.1.2.1.length:Int)/\(nth d.1.2.1 (x:Int).toNat).length<=100000/\((List.take x (U.jt d.1)).length+[nth d.1.2.1 (x:Int).toNat].length)*24<=140737488355328/\jA ((x:Int)+1)/\∃(a:Nat),(((x:Int)+1=(a:Int)/\True)/\(q123_1 d)/\List.take x (U.jt d.1)++[nth d.1.2.1 (x:Int).toNat]=List.take a (U.jt d.1)/\True)/\a<=(U.jt d.1).length/\(U.jt d.1).length-a<(U.jt d.1).length-x)/\(decide ((x:Int)<(d.1.2.1.length:Int))=false->(((d.1.1.1,U.jj (U.jf d.1),d.1.1.2.2),List.take x (U.jt d.1),d.1.2.2.1,d.1.2.2.2.1,d.1.2.2.2.2.1,d.2),())=(U.zx d.1 d.2.1,()))))
def jhn:zr:=⟨[.nil false,.val .int],[.cl (.row 54 tSh .unk)],fun d=>[0<=d.2.1/\d.2.1<=100000],fun _=>((U.jCQ,()),())⟩
abbrev q124_0:=((0:Int)-(↑0:Int))
abbrev q124_1 (d:Unit×Int×Unit):=(List.replicate (d.2.1-q124_0).toNat ((0:Int),(0:Int),(0:Int),(0:Int),(0:Int),()))
def jg4:Prop:=∀(d:Unit×Int×Unit),0<=d.2.1/\d.2.1<=100000->(decide (d.2.1<0)=true->False)/\(decide (d.2.1<0)=false->jA q124_0/\jA (d.2.1-q124_0)/\(decide (0<d.2.1-q124_0)=true->(0:Int)<=0/\(0:Int)<=0/\(0:Int)<=0/\0<d.2.1-q124_0/\(d.2.1-q124_0).toNat*40<=140737488355328/\(0:Int)<=0/\(0:Int)<=(↑0:Int)/\(↑0:Int)<=(↑(q124_1 d).length:Int)/\(List.take ((↑0:Int).toNat-Int.toNat 0) (q124_1 d),())=(U.jCQ,())/\()=())/\(decide (0<d.2.1-q124_0)=false->([],())=(U.jCQ,())/\()=()))
def jek:jO:=⟨[.val (.slice (.slice tSh))],[.slice tSh],false,fun d=>[d.1.length<=100,∀x∈d.1,x.length<=1000],fun d=>(U.flatS d.1 d.1.length,())⟩
def jfy:Ann:=fun r=>match r with
 |3=>some fun σ=>{X:=Nat,sl:=fun i=>[(11,.dat .int (i:Int)),(3,.dat .int (((U.flatS (gd (.slice (.slice tSh)) σ 0) i).length:Nat):Int))],ob:=fun _=>[],inv:=fun i=>i<=(gd (.slice (.slice tSh)) σ 0).length,mu:=fun i=>(gd (.slice (.slice tSh)) σ 0).length-i}
 |11=>some fun σ=>{X:=Nat,sl:=fun i=>[(27,.dat .int (i:Int)),(6,.own 6 tSh)],ob:=fun i=>[(6,some (.row 54 tSh false .unk (U.flatS (gd (.slice (.slice tSh)) σ 0) i)))],inv:=fun i=>i<=(gd (.slice (.slice tSh)) σ 0).length,mu:=fun i=>(gd (.slice (.slice tSh)) σ 0).length-i}
 |_=>none
abbrev q125_0 (d:List (List ShD)×Unit)(x:Nat):=(↑(U.flatS d.1 x).length:Int)
abbrev q125_1 (d:List (List ShD)×Unit)(x:Nat):=(↑(nth d.1 (x:Int).toNat).length:Int)
def jd6:Prop:=∀(d:List (List ShD)×Unit),d.1.length<=100->(∀(b:List ShD),b∈d.1->b.length<=1000)->d.1.length<4611686018427387904->(∃(x:Nat),((0=(x:Int)/\(0:Int)=(q125_0 d x)/\True)/\True)/\x<=d.1.length)/\∀(x:Nat),x<=d.1.length->(decide ((x:Int)<(d.1.length:Int))=true->0<=(x:Int)/\(x:Int)<(d.1.length:Int)/\((nth d.1 (x:Int).toNat).length<4611686018427387904->jA ((q125_0 d x)+(q125_1 d x))/\(decide ((q125_0 d x)+(q125_1 d x)<0)=true->False)/\(decide ((q125_0 d x)+(q125_1 d x)<0)=false->jA ((x:Int)+1)/\∃(a:Nat),(((x:Int)+1=(a:Int)/\(q125_0 d x)+(q125_1 d x)=(↑(U.flatS d.1 a).length:Int)/\True)/\True)/\a<=d.1.length/\d.1.length-a<d.1.length-x)))/\(decide ((x:Int)<(d.1.length:Int))=false->((0:Int)<=(q125_0 d x)/\(q125_0 d x)<=100000)/\(d.1.length<4611686018427387904->(∃(x:Nat),((0=(x:Int)/\True/\True)/\U.jCQ=U.flatS d.1 x/\True)/\x<=d.1.length)/\∀(x:Nat),x<=d.1.length->(decide ((x:Int)<(d.1.length:Int))=true->0<=(x:Int)/\(x:Int)<(d.1.length:Int)/\((U.flatS d.1 x).length+(nth d.1 (x:Int).toNat).length)*40<=140737488355328/\jA ((x:Int)+1)/\∃(a:Nat),(((x:Int)+1=(a:Int)/\True/\True)/\U.flatS d.1 x++nth d.1 (x:Int).toNat=U.flatS d.1 a/\True)/\a<=d.1.length/\d.1.length-a<d.1.length-x)/\(decide ((x:Int)<(d.1.length:Int))=false->(U.flatS d.1 x,())=(U.flatS d.1 d.1.length,()))))
def jtG:jO:=⟨[.val tDy,.val (.slice tSh)],[tDy,.int],false,fun d=>[(U.jW d.1).length<=100000,d.2.1.length<=100000],fun d=>(U.joX d.1 d.2.1,U.jt8 d.1 d.2.1,())⟩
def juV:Ann:=fun r=>match r with
 |4=>some fun σ=>{X:=Nat,sl:=fun i=>[(18,.dat .int (i:Int))],ob:=fun _=>[],inv:=fun i=>i<=2/\(0<i->U.jz (gb tDy σ 2)=0)/\(1<i->U.jz (U.zx (gb tDy σ 2) (gd (.slice tSh) σ 1))=0),mu:=fun i=>2-i}
 |_=>none
abbrev q126_0 (d:DyD×List ShD×Unit):=(U.flatS [d.1.2.2.2.2.2.1,d.2.1] [d.1.2.2.2.2.2.1,d.2.1].length)
abbrev q126_1 (d:DyD×List ShD×Unit):=(d.1.1,d.1.2.1,d.1.2.2.1,d.1.2.2.2.1,d.1.2.2.2.2.1,d.2)
abbrev q126_2 (d:DyD×List ShD×Unit):=(U.joX d.1 d.2.1,U.jt8 d.1 d.2.1,())
abbrev q126_3 (d:DyD×List ShD×Unit)(x:Nat):=(nth [d.1,(q126_1 d)] (x:Int).toNat)
def jtp:Prop:=∀(d:DyD×List ShD×Unit),(U.jW d.1).length<=100000->d.2.1.length<=100000->[d.1,(q126_1 d)].length<4611686018427387904->(∃(x:Nat),((0=(x:Int)/\True)/\True)/\x<=2/\(0<x->U.jz d.1=0)/\(1<x->U.jz (U.zx d.1 d.2.1)=0))/\∀(x:Nat),x<=2/\(0<x->U.jz d.1=0)/\(1<x->U.jz (U.zx d.1 d.2.1)=0)->(decide ((x:Int)<(↑[d.1,(q126_1 d)].length:Int))=true->0<=(x:Int)/\(x:Int)<(↑[d.1,(q126_1 d)].length:Int)/\(U.jW (q126_3 d x)).length<=100000/\(decide (U.jz (q126_3 d x)≠0)=true->((((0:Int),[],[],()),[],[],(0:Int),(0:Int),[],()),U.jz (q126_3 d x),())=(q126_2 d))/\(decide (U.jz (q126_3 d x)≠0)=false->jA ((x:Int)+1)/\∃(a:Nat),(((x:Int)+1=(a:Int)/\True)/\True)/\(a<=2/\(0<a->U.jz d.1=0)/\(1<a->U.jz (U.zx d.1 d.2.1)=0))/\2-a<2-x))/\(decide ((x:Int)<(↑[d.1,(q126_1 d)].length:Int))=false->[d.1.2.2.2.2.2.1,d.2.1].length<=100/\(∀(b:List ShD),b∈[d.1.2.2.2.2.2.1,d.2.1]->b.length<=1000)/\(q126_0 d).length<=100000/\((U.jG (q126_0 d)).length<4611686018427387904->(decide ((30:Int)<(↑(U.jG (q126_0 d)).length:Int))=true->((((0:Int),[],[],()),[],[],(0:Int),(0:Int),[],()),(2:Int),())=(q126_2 d))/\(decide ((30:Int)<(↑(U.jG (q126_0 d)).length:Int))=false->(U.jG (q126_0 d)).length<=100000/\(U.jrL (U.jG (q126_0 d))=true->((((0:Int),[],[],()),[],[],(0:Int),(0:Int),[],()),(51:Int),())=(q126_2 d))/\(U.jrL (U.jG (q126_0 d))=false->U.yi d.1/\(U.zx d.1 (U.jG (q126_0 d)),(0:Int),())=(q126_2 d)))))
end Go.X
namespace Go.X
open Go.Proofs
theorem jgi:jd7:=by
 rintro⟨l,⟨⟩⟩ b c a;have b:l.length<=100000:=b;refine⟨fun h=> ?_,fun _=>⟨by simp only;omega,by simp⟩⟩;have:l=[]:=a h;rw[this]
theorem jeH:ze PR 82 jel:=jL jgi Tryz.func82 kcN koN
theorem jjy:jg5:=by
 rintro⟨l,⟨⟩⟩ b c a;have b:l.length<=100000:=b;refine⟨fun h=> ?_,fun _=>⟨by simp only;omega,by simp⟩⟩;have:l=[]:=a h;rw[this]
theorem jhy:ze PR 116 jhf:=jL jjy Tryz.func116 kcN koN
theorem je7:jcX:=by
 rintro⟨l,⟨⟩⟩ b c a;have b:l.length<=100000:=b;refine⟨fun h=> ?_,fun _=>⟨by simp only;omega,by simp⟩⟩;have:l=[]:=a h;rw[this]
theorem jdo:ze PR 113 jc7:=jL je7 Tryz.func113 kcN koN
theorem jkL:jij:=by
 rintro⟨l,⟨⟩⟩ b c a;have b:l.length<=100000:=b;refine⟨fun h=> ?_,fun _=>⟨by simp only;omega,by simp⟩⟩;have:l=[]:=a h;rw[this]
theorem jiW:ze PR 114 jiy:=jL jkL Tryz.func114 kcN koN
theorem jgk:jd9:=by
 rintro⟨l,⟨⟩⟩ b c a;have b:l.length<=100000:=b;refine⟨fun h=>⟨?_,rfl⟩,fun _=>⟨by simp only;omega,by simp,rfl⟩⟩;have:l=[]:=a h;rw[this]
theorem jeJ:wE PR 115 jes:=jgN jgk Tryz.func115 kcN koN
theorem joh {α:Type} [Inhabited α] (l:List α) (i:Nat):l.set i (nth l i)=l:=by
 by_cases h:i<l.length
 .refine L.ext_nth (by simp) fun j a=> ?_
  rw[L.nth_set h]
  split
  .rename_i e;rw[e]
  .rfl
 .exact List.set_eq_of_length_le (by omega)
theorem jru:jnJ:=by
 unfold jnJ q123_0 q123_2 q123_1;rintro⟨d,m,⟨⟩⟩ j;obtain⟨⟨q,s,c⟩,r,o,k,f⟩:U.yi d:=j;refine⟨by show(U.jp d).length<=100000;omega,by show(U.zm (U.jf d)).length<=100000;omega,by show(U.jj (U.jf d)).length<=100000;omega,fun _=>⟨⟨0,⟨⟨rfl,trivial⟩,rfl,trivial⟩,jDV _⟩,fun x t=>⟨fun h=> ?_,fun h=> ?_⟩⟩⟩
 .have h:(x:Int)<((U.jj (U.jf d)).length:Int):=of_decide_eq_true h;have b:=c _ (L.mem_nth (l:=U.jj (U.jf d)) (i:=x) (by omega));have x0:(0:Int)<=(x:Int):=jD6 x;have e:=joh (U.jj (U.jf d)) x;simp only[jDN];refine⟨x0,h,by have:=b.1;unfold U.lv at this;omega,by have:=b.2;unfold U.zN at this;omega,x0,h,x0,by rw[e];exact h,L.in64 (by omega) (by omega),x+1,⟨⟨by simp,trivial⟩,?_,trivial⟩,by omega,by omega⟩;rw[e];exact e
 .refine fun _=>⟨⟨0,⟨⟨rfl,trivial⟩,⟨rfl,trivial,rfl,trivial,rfl,rfl,rfl,rfl,trivial⟩,rfl,trivial⟩,jDV _⟩,fun y u=>⟨fun a=> ?_,fun a=> ?_⟩⟩
  .have a:(y:Int)<((U.jt d).length:Int):=of_decide_eq_true a;have g:=f _ (L.mem_nth (l:=U.jt d) (i:=y) (by omega));have n:(0:Int)<=(y:Int):=jD6 y;have p:(List.take y (U.jt d)).length=y:=(by rw[jEf];omega);refine⟨n,a,?_,?_,L.in64 (by omega) (by omega),y+1,⟨⟨by simp,trivial⟩,⟨rfl,trivial,rfl,trivial,rfl,rfl,rfl,rfl,trivial⟩,?_,trivial⟩,by show y+1<=(U.jt d).length;omega,by show(U.jt d).length-(y+1)<(U.jt d).length-y;omega⟩
   .show(nth (U.jt d) (y:Int).toNat).length<=100000;rw[jDN];omega
   .show((List.take y (U.jt d)).length+1)*24<=140737488355328;omega
   .show List.take y (U.jt d)++[nth (U.jt d) (y:Int).toNat]=_;rw[jDN,L.take_succ (l:=U.jt d) (by omega)]
  .have a:¬(y:Int)<((U.jt d).length:Int):=of_decide_eq_false a;have e:List.take y (U.jt d)=U.jt d:=jEC (by omega);rw[e];rfl
theorem joN:ze PR 72 jn5:=wa jpJ jru Tryz.func72 (kcC jdo (kcC jiW (kcC jeH (kcC jhy kcN)))) (koC jeJ koN)
theorem jjx:jg4:=by
 unfold jg4 q124_1 q124_0;rintro⟨⟨⟩,n,⟨⟩⟩ ⟨a,b⟩;have a:0<=n:=a;have b:n<=100000:=b;refine⟨fun h=> ?_,fun _=>⟨L.in64 (by simp) (by simp),L.in64 (by simp only;omega) (by simp only;omega),fun h=> ?_,fun _=>⟨rfl,rfl⟩⟩⟩
 .have h:n<0:=of_decide_eq_true h;omega
 .have h:0<n-(0-((0:Nat):Int)):=of_decide_eq_true h;refine⟨jEF _,jEF _,jEF _,h,?_,jEF _,jEF _,by rw[jEK];exact jD6 _,?_,rfl⟩
  .show(n-(0-((0:Nat):Int))).toNat*40<=_;omega
  .show(List.take 0 _,())=(U.jCQ,());rw[List.take_zero];rfl
theorem jhx:wE PR 112 jhn:=jgN jjx Tryz.func112 kcN koN
theorem jgr {l:List (List ShD)} {i:Nat} (h:i<l.length):U.flatS l (i+1)=U.flatS l i++nth l i:=by
 unfold U.flatS;rw[L.take_succ h,List.flatten_append];simp
theorem jfc {l:List (List ShD)} (a:∀x∈l,x.length<=1000):∀i,i<=l.length->(U.flatS l i).length<=1000*i
 |0,_=>by unfold U.flatS;simp
 |i+1,hi=>by
  have:=jfc a i (by omega)
  have:=a _ (L.mem_nth (l:=l) (i:=i) (by omega))
  rw[jgr (by omega),jD2]
  omega
theorem jgh:jd6:=by
 unfold jd6 q125_1 q125_0;rintro⟨l,⟨⟩⟩ f c _;have f:l.length<=100:=f;have c:∀x∈l,x.length<=1000:=c;refine⟨⟨0,⟨⟨rfl,rfl,trivial⟩,trivial⟩,jDV _⟩,fun x a=>⟨fun h=> ?_,fun h=> ?_⟩⟩
 .have a:x<=l.length:=a;have h:(x:Int)<(l.length:Int):=of_decide_eq_true h;have x0:(0:Int)<=(x:Int):=jD6 x;have j:=c _ (L.mem_nth (l:=l) (i:=x) (by omega));have g:=jfc c x (by omega);simp only[jDN];refine⟨x0,h,fun _=>⟨L.in64 (by omega) (by omega),fun b=> ?_,fun _=>⟨L.in64 (by omega) (by omega),x+1,⟨⟨by simp,?_,trivial⟩,trivial⟩,by omega,by omega⟩⟩⟩
  .have b:=of_decide_eq_true b;omega
  .rw[jgr (by omega),jD2];omega
 .have a:x<=l.length:=a;have g:=jfc c x a;refine⟨⟨jD6 _,by show((U.flatS l x).length:Int)<=100000;omega⟩,fun _=>⟨⟨0,⟨⟨rfl,trivial,trivial⟩,rfl,trivial⟩,jDV _⟩,fun y d=>⟨fun b=> ?_,fun b=> ?_⟩⟩⟩
  .have d:y<=l.length:=d;have b:(y:Int)<(l.length:Int):=of_decide_eq_true b;have k:(0:Int)<=(y:Int):=jD6 y;have j:=c _ (L.mem_nth (l:=l) (i:=y) (by omega));have m:=jfc c y (by omega);simp only[jDN];refine⟨k,b,by omega,L.in64 (by omega) (by omega),y+1,⟨⟨by simp,trivial,trivial⟩,(jgr (by omega)).symm,trivial⟩,by omega,by omega⟩
  .have d:y<=l.length:=d;have b:¬(y:Int)<(l.length:Int):=of_decide_eq_false b;have e:y=l.length:=(by omega);subst e;rfl
theorem jeG:ze PR 71 jek:=wa jfy jgh Tryz.func71 kcN (koC jhx koN)
theorem jsB {d:DyD} (h:U.jpV d):U.yi d:=by
 have b:=jI h.1;have a:=zp h.2.2;refine⟨⟨by have:=b.2.2.1;omega,by have:=b.2.2.2.1;omega,fun p e=> ?_⟩,by have:=a.2.1.2;omega,by have:=a.1;omega,by have:=a.2.2.2.2.1;omega,fun r f=> ?_⟩
 .have:=b.2.2.2.2.1 p e;unfold U.yo at this;rw[jDR] at this;have c:=of_decide_eq_true this.1;have:=b.2.1;exact⟨by omega,by omega⟩
 .have:=a.2.2.2.2.2.1 r f;unfold U.qP at this;rw[jDR] at this;have c:=of_decide_eq_true this.1;have:=a.2.1.2;omega
theorem jog {d:DyD} (h:U.jz d=0):(U.jW d).length<=30:=(zp (zJ h).1.2.2).2.2.2.2.1
theorem jw7:jtp:=by
 unfold jtp q126_3 q126_2 q126_1 q126_0;rintro⟨d,m,⟨⟩⟩ l r _;have l:(U.jW d).length<=100000:=l;have r:m.length<=100000:=r;have v:∀x:Nat,x<2->nth [d,U.zx d m] x=if x=0 then d else U.zx d m:=fun x q=>by
  match x,q with
  |0,_=>rfl
  |1,_=>rfl
 refine⟨⟨0,⟨⟨rfl,trivial⟩,trivial⟩,by omega,fun h=>by omega,fun h=>by omega⟩,fun x q=>⟨fun h=> ?_,fun h=> ?_⟩⟩
 .have h:(x:Int)<2:=of_decide_eq_true h;have x0:(0:Int)<=(x:Int):=jD6 x;obtain⟨t,b,f⟩:=q;have b:0<x->U.jz d=0:=b;have f:1<x->U.jz (U.zx d m)=0:=f;rw[jDN];have o:=v x (by omega);refine⟨x0,h,?_,fun a=> ?_,fun a=>⟨L.in64 (by omega) (by omega),x+1,⟨⟨by simp,trivial⟩,trivial⟩,⟨by omega,fun _=> ?_,fun p=> ?_⟩,by omega⟩⟩
  .show(U.jW (nth [d,U.zx d m] x)).length<=100000;rw[o]
   split
   .exact l
   .exact r
  .have a:U.jz (nth [d,U.zx d m] x)≠0:=of_decide_eq_true a;show(U.jeP,U.jz (nth [d,U.zx d m] x),())=(U.joX d m,U.jt8 d m,());rw[o] at a⊢;have e:U.jt8 d m=U.jz (if x=0 then d else U.zx d m):=by
    unfold U.jt8;by_cases g:x=0
    .rw[if_pos g] at a⊢;rw[if_pos a]
    .rw[if_neg g] at a⊢;rw[if_neg (fun k=>k (b (by omega))),if_pos a]
   have i:U.joX d m=U.jeP:=by
    unfold U.joX;rw[if_neg (by rw[e];exact a)]
   rw[e,i]
  .by_cases g:x=0
   .have a:¬U.jz (nth [d,U.zx d m] x)≠0:=of_decide_eq_false a;rw[o,if_pos g] at a;exact Decidable.not_not.1 a
   .exact b (by omega)
  .have a:¬U.jz (nth [d,U.zx d m] x)≠0:=of_decide_eq_false a;rw[o,if_neg (by omega)] at a;exact Decidable.not_not.1 a
 .have h:¬(x:Int)<2:=of_decide_eq_false h;obtain⟨t,b,f⟩:=q;have c1:U.jz d=0:=b (by omega);have c2:U.jz (U.zx d m)=0:=f (by omega);have z:=jog c1;have A:m.length<=30:=jog c2;have w:U.flatS [d.2.2.2.2.2.1,m] [d.2.2.2.2.2.1,m].length=U.jW d++m:=jy6 (U.jW d) m;have u:U.jCf d m=U.jG (U.jW d++m):=congrArg U.jG (jy6 (U.jW d) m);have j:(U.jG (U.jW d++m)).length<=(U.jW d++m).length:=L.nodup_len _ _ (jfk _) fun s l=>jad.1 l
  rw[jD2] at j;have c:U.jt8 d m=if 30<(U.jCf d m).length then 2 else if U.jrL (U.jCf d m)=true then 51 else 0:=by
   unfold U.jt8;rw[if_neg (fun k=>k c1),if_neg (fun k=>k c2)]
  rw[w];rw[u] at c;refine⟨by show(2:Nat)<=100;omega,fun y n=> ?_,by rw[jD2];omega,fun _=>⟨fun a=> ?_,fun a=>⟨by omega,fun p=> ?_,fun p=>⟨jsB (zJ c1).1,?_⟩⟩⟩⟩
  .rcases jDL.1 n with rfl|n
   .show(U.jW d).length<=1000;omega
   .rcases jDL.1 n with rfl|n
    .omega
    .cases n
  .have a:(30:Int)<((U.jG (U.jW d++m)).length:Int):=of_decide_eq_true a;rw[if_pos (by omega)] at c;have i:U.joX d m=U.jeP:=by
    unfold U.joX;rw[if_neg (by rw[c];omega)]
   rw[c,i];rfl
  .have a:¬(30:Int)<((U.jG (U.jW d++m)).length:Int):=of_decide_eq_false a;rw[if_neg (by omega),if_pos p] at c;have i:U.joX d m=U.jeP:=by
    unfold U.joX;rw[if_neg (by rw[c];omega)]
   rw[c,i];rfl
  .have a:¬(30:Int)<((U.jG (U.jW d++m)).length:Int):=of_decide_eq_false a;rw[if_neg (by omega),if_neg (by rw[p];simp)] at c;have i:U.joX d m=U.zx d (U.jG (U.jW d++m)):=by
    unfold U.joX;rw[if_pos c,u]
   rw[c,i]
theorem jtZ:ze PR 31 jtG:=wa juV jw7 Tryz.func31 (kcC jlm (kcC jeG (kcC jll (kcC joN kcN)))) (koC gP koN)
end Go.X
namespace Go.X
open Go.Proofs
instance (a b:BkD):Decidable (a=b):=tBk.decEq a b
def jqt:jO:=⟨[.val tDy,.val (.slice tSh)],[tDy,.int],false,fun d=>[(U.jp d.1).length<=1000000],fun d=>(U.jmS d.1 d.2.1,U.jmR d.1 d.2.1,())⟩
abbrev q127_0 (d:DyD×List ShD×Unit):=(U.kA ([]++d.1.2.2.2.2.2.1++d.2.1))
abbrev q127_1 (d:DyD×List ShD×Unit):=(d.1.1,d.1.2.1,d.1.2.2.1,d.1.2.2.2.1,d.1.2.2.2.2.1,d.2)
abbrev q127_2 (d:DyD×List ShD×Unit):=(U.jmS d.1 d.2.1,U.jmR d.1 d.2.1,())
def jp7:Prop:=∀(d:DyD×List ShD×Unit),(U.jp d.1).length<=1000000->(U.jp d.1).length<=1000000/\(decide (U.qV d.1≠0)=true->((((0:Int),[],[],()),[],[],(0:Int),(0:Int),[],()),U.qV d.1,())=(q127_2 d))/\(decide (U.qV d.1≠0)=false->(U.jp (q127_1 d)).length<=1000000/\(decide (U.qV (q127_1 d)≠0)=true->((((0:Int),[],[],()),[],[],(0:Int),(0:Int),[],()),U.qV (q127_1 d),())=(q127_2 d))/\(decide (U.qV (q127_1 d)≠0)=false->(0+d.1.2.2.2.2.2.1.length)*40<=140737488355328/\(([]++d.1.2.2.2.2.2.1).length+d.2.1.length)*40<=140737488355328/\([]++d.1.2.2.2.2.2.1++d.2.1).length<=1000/\((q127_0 d).length<4611686018427387904->(decide ((30:Int)<(↑(q127_0 d).length:Int))=true->((((0:Int),[],[],()),[],[],(0:Int),(0:Int),[],()),(2:Int),())=(q127_2 d))/\(decide ((30:Int)<(↑(q127_0 d).length:Int))=false->(q127_0 d).length<=1000000/\(U.zZ (q127_0 d)=true->((((0:Int),[],[],()),[],[],(0:Int),(0:Int),[],()),(51:Int),())=(q127_2 d))/\(U.zZ (q127_0 d)=false->U.yi d.1/\((d.1.1,d.1.2.1,d.1.2.2.1,d.1.2.2.2.1,d.1.2.2.2.2.1,U.kA ([]++d.1.2.2.2.2.2.1++d.2.1),()),(0:Int),())=(q127_2 d))))))
def jhk:jO:=⟨[.val tPe,.val tPe],[.bool],false,fun _=>[],fun d=>(U.jff d.1 d.2.1,())⟩
def jhT:Ann:=fun r=>match r with
 |4=>some fun σ=>{X:=Nat,sl:=fun i=>[(5,.dat .int (i:Int))],ob:=fun _=>[],inv:=fun i=>i<=(U.lv (gb tPe σ 2)).length/\∀j:Nat,j<i->nth (U.lv (gb tPe σ 2)) j=nth (U.lv (gb tPe σ 3)) j,mu:=fun i=>(U.lv (gb tPe σ 2)).length-i}
 |9=>some fun σ=>{X:=Nat,sl:=fun i=>[(6,.dat .int (i:Int))],ob:=fun _=>[],inv:=fun i=>i<=(U.zN (gb tPe σ 2)).length/\∀j:Nat,j<i->nth (U.zN (gb tPe σ 2)) j=nth (U.zN (gb tPe σ 3)) j,mu:=fun i=>(U.zN (gb tPe σ 2)).length-i}
 |_=>none
abbrev q128_0 (d:PeD×PeD×Unit):=(decide (d.1.2.1≠d.2.1.2.1)||decide (d.1.2.2.1≠d.2.1.2.2.1)|| !decide (d.1.2.2.2.2.1=d.2.1.2.2.2.2.1)||decide (d.1.2.2.2.2.2.1≠d.2.1.2.2.2.2.2.1)||decide ((d.1.1.length:Int)≠(d.2.1.1.length:Int))||decide ((d.1.2.2.2.1.length:Int)≠(d.2.1.2.2.2.1.length:Int)))
abbrev q128_1 (d:PeD×PeD×Unit):=(!(decide (d.1.2.1≠d.2.1.2.1)||decide (d.1.2.2.1≠d.2.1.2.2.1)|| !decide (d.1.2.2.2.2.1=d.2.1.2.2.2.2.1)||decide (d.1.2.2.2.2.2.1≠d.2.1.2.2.2.2.2.1)||decide ((d.1.1.length:Int)≠(d.2.1.1.length:Int))))
abbrev q128_2 (d:PeD×PeD×Unit):=(!(decide (d.1.2.1≠d.2.1.2.1)||decide (d.1.2.2.1≠d.2.1.2.2.1)|| !decide (d.1.2.2.2.2.1=d.2.1.2.2.2.2.1)||decide (d.1.2.2.2.2.2.1≠d.2.1.2.2.2.2.2.1)))
def jha:Prop:=∀(d:PeD×PeD×Unit),((q128_2 d)=true->d.1.1.length<4611686018427387904)->((q128_2 d)=true->d.2.1.1.length<4611686018427387904)->((q128_1 d)=true->d.1.2.2.2.1.length<4611686018427387904)->((q128_1 d)=true->d.2.1.2.2.2.1.length<4611686018427387904)->((q128_0 d)=true->(false,())=(U.jff d.1 d.2.1,()))/\((q128_0 d)=false->(∃(x:Nat),((0=(x:Int)/\True)/\True)/\x<=(U.lv d.1).length/\∀(j:Nat),j<x->nth (U.lv d.1) j=nth (U.lv d.2.1) j)/\∀(x:Nat),(x<=(U.lv d.1).length/\∀(j:Nat),j<x->nth (U.lv d.1) j=nth (U.lv d.2.1) j)->d.1.1.length<4611686018427387904->(decide ((x:Int)<(d.1.1.length:Int))=true->0<=(x:Int)/\(x:Int)<(d.1.1.length:Int)/\0<=(x:Int)/\(x:Int)<(d.2.1.1.length:Int)/\(decide (nth d.1.1 (x:Int).toNat≠nth d.2.1.1 (x:Int).toNat)=true->(false,())=(U.jff d.1 d.2.1,()))/\(decide (nth d.1.1 (x:Int).toNat≠nth d.2.1.1 (x:Int).toNat)=false->jA ((x:Int)+1)/\∃(a:Nat),(((x:Int)+1=(a:Int)/\True)/\True)/\(a<=(U.lv d.1).length/\∀(j:Nat),j<a->nth (U.lv d.1) j=nth (U.lv d.2.1) j)/\(U.lv d.1).length-a<(U.lv d.1).length-x))/\(decide ((x:Int)<(d.1.1.length:Int))=false->(∃(x:Nat),((0=(x:Int)/\True)/\True)/\x<=(U.zN d.1).length/\∀(j:Nat),j<x->nth (U.zN d.1) j=nth (U.zN d.2.1) j)/\∀(x:Nat),(x<=(U.zN d.1).length/\∀(j:Nat),j<x->nth (U.zN d.1) j=nth (U.zN d.2.1) j)->d.1.2.2.2.1.length<4611686018427387904->(decide ((x:Int)<(d.1.2.2.2.1.length:Int))=true->0<=(x:Int)/\(x:Int)<(d.1.2.2.2.1.length:Int)/\0<=(x:Int)/\(x:Int)<(d.2.1.2.2.2.1.length:Int)/\(decide (nth d.1.2.2.2.1 (x:Int).toNat≠nth d.2.1.2.2.2.1 (x:Int).toNat)=true->(false,())=(U.jff d.1 d.2.1,()))/\(decide (nth d.1.2.2.2.1 (x:Int).toNat≠nth d.2.1.2.2.2.1 (x:Int).toNat)=false->jA ((x:Int)+1)/\∃(a:Nat),(((x:Int)+1=(a:Int)/\True)/\True)/\(a<=(U.zN d.1).length/\∀(j:Nat),j<a->nth (U.zN d.1) j=nth (U.zN d.2.1) j)/\(U.zN d.1).length-a<(U.zN d.1).length-x))/\(decide ((x:Int)<(d.1.2.2.2.1.length:Int))=false->(true,())=(U.jff d.1 d.2.1,()))))
def jtI:jO:=⟨[.val tDy,.val tDy],[.bool],false,fun _=>[],fun d=>(U.jdH d.1 d.2.1,())⟩
def juW:Ann:=fun r=>match r with
 |4=>some fun σ=>{X:=Nat,sl:=fun i=>[(5,.dat .int (i:Int))],ob:=fun _=>[],inv:=fun i=>i<=(U.jj (U.jf (gb tDy σ 2))).length/\∀j:Nat,j<i->nth (U.jj (U.jf (gb tDy σ 2))) j=nth (U.jj (U.jf (gb tDy σ 3))) j,mu:=fun i=>(U.jj (U.jf (gb tDy σ 2))).length-i}
 |9=>some fun σ=>{X:=Nat,sl:=fun i=>[(6,.dat .int (i:Int))],ob:=fun _=>[],inv:=fun i=>i<=(U.zm (U.jf (gb tDy σ 2))).length/\∀j:Nat,j<i->nth (U.zm (U.jf (gb tDy σ 2))) j=nth (U.zm (U.jf (gb tDy σ 3))) j,mu:=fun i=>(U.zm (U.jf (gb tDy σ 2))).length-i}
 |14=>some fun σ=>{X:=Nat,sl:=fun i=>[(7,.dat .int (i:Int))],ob:=fun _=>[],inv:=fun i=>i<=(U.jt (gb tDy σ 2)).length/\∀j:Nat,j<i->nth (U.jt (gb tDy σ 2)) j=nth (U.jt (gb tDy σ 3)) j,mu:=fun i=>(U.jt (gb tDy σ 2)).length-i}
 |19=>some fun σ=>{X:=Nat,sl:=fun i=>[(8,.dat .int (i:Int))],ob:=fun _=>[],inv:=fun i=>i<=(nth (U.jt (gb tDy σ 2)) (gd .int σ 7).toNat).length/\∀j:Nat,j<i->nth (nth (U.jt (gb tDy σ 2)) (gd .int σ 7).toNat) j=nth (nth (U.jt (gb tDy σ 3)) (gd .int σ 7).toNat) j,mu:=fun i=>(nth (U.jt (gb tDy σ 2)) (gd .int σ 7).toNat).length-i}
 |24=>some fun σ=>{X:=Nat,sl:=fun i=>[(9,.dat .int (i:Int))],ob:=fun _=>[],inv:=fun i=>i<=(U.jp (gb tDy σ 2)).length/\∀j:Nat,j<i->nth (U.jp (gb tDy σ 2)) j=nth (U.jp (gb tDy σ 3)) j,mu:=fun i=>(U.jp (gb tDy σ 2)).length-i}
 |29=>some fun σ=>{X:=Nat,sl:=fun i=>[(10,.dat .int (i:Int))],ob:=fun _=>[],inv:=fun i=>i<=(U.jW (gb tDy σ 2)).length/\∀j:Nat,j<i->nth (U.jW (gb tDy σ 2)) j=nth (U.jW (gb tDy σ 3)) j,mu:=fun i=>(U.jW (gb tDy σ 2)).length-i}
 |_=>none
abbrev q129_2 (d:DyD×DyD×Unit):=((d.1.1.2.1.length:Int)≠(d.2.1.1.2.1.length:Int))
abbrev q129_3 (d:DyD×DyD×Unit):=((d.1.1.2.2.1.length:Int)≠(d.2.1.1.2.2.1.length:Int))
abbrev q129_4 (x:Nat)(a:Nat):=(((x:Int)+1=(a:Int)/\True)/\True)
abbrev q129_5 (d:DyD×DyD×Unit)(x:Nat):=(nth (U.jt d.1) (x:Int).toNat)
abbrev q129_7 (d:DyD×DyD×Unit)(x:Nat):=(↑(nth d.1.2.1 (x:Int).toNat).length:Int)
abbrev q129_8 (x:Nat):=((0=(x:Int)/\True)/\True)
abbrev q129_9 (d:DyD×DyD×Unit):=((d.1.2.1.length:Int)≠(d.2.1.2.1.length:Int))
abbrev q129_10 (d:DyD×DyD×Unit)(x:Nat)(a:Nat):=(!decide (nth (nth d.1.2.1 (x:Int).toNat) (a:Int).toNat=nth (nth d.2.1.2.1 (x:Int).toNat) (a:Int).toNat))
abbrev q129_11 (d:DyD×DyD×Unit):=(U.jdH d.1 d.2.1,())
abbrev q129_12 (d:DyD×DyD×Unit):=(d.1.1.1≠d.2.1.1.1)
abbrev q129_0 (d:DyD×DyD×Unit):=(decide (q129_2 d)||decide (q129_12 d)||decide (q129_3 d)||decide (q129_9 d)||decide ((d.1.2.2.1.length:Int)≠(d.2.1.2.2.1.length:Int))||decide (d.1.2.2.2.1≠d.2.1.2.2.2.1)||decide (d.1.2.2.2.2.1≠d.2.1.2.2.2.2.1)||decide ((d.1.2.2.2.2.2.1.length:Int)≠(d.2.1.2.2.2.2.2.1.length:Int)))
abbrev q129_1 (d:DyD×DyD×Unit):=(!(decide (q129_2 d)||decide (q129_12 d)||decide (q129_3 d)||decide (q129_9 d)||decide ((d.1.2.2.1.length:Int)≠(d.2.1.2.2.1.length:Int))||decide (d.1.2.2.2.1≠d.2.1.2.2.2.1)||decide (d.1.2.2.2.2.1≠d.2.1.2.2.2.2.1)))
abbrev q129_6 (d:DyD×DyD×Unit):=(!(decide (q129_2 d)||decide (q129_12 d)||decide (q129_3 d)||decide (q129_9 d)))
abbrev q129_13 (d:DyD×DyD×Unit):=(U.zm (U.jf d.1))
abbrev q129_14 (d:DyD×DyD×Unit)(x:Nat):=(!decide (nth d.1.2.2.2.2.2.1 (x:Int).toNat=nth d.2.1.2.2.2.2.2.1 (x:Int).toNat))
abbrev q129_15 (d:DyD×DyD×Unit):=(U.jj (U.jf d.1))
abbrev q129_16 (d:DyD×DyD×Unit)(x:Nat):=(↑(nth d.2.1.2.1 (x:Int).toNat).length:Int)
def jtr:Prop:=∀(d:DyD×DyD×Unit),d.1.1.2.1.length<4611686018427387904->d.2.1.1.2.1.length<4611686018427387904->((!(decide (q129_2 d)||decide (q129_12 d)))=true->d.1.1.2.2.1.length<4611686018427387904)->((!(decide (q129_2 d)||decide (q129_12 d)))=true->d.2.1.1.2.2.1.length<4611686018427387904)->((!(decide (q129_2 d)||decide (q129_12 d)||decide (q129_3 d)))=true->d.1.2.1.length<4611686018427387904)->((!(decide (q129_2 d)||decide (q129_12 d)||decide (q129_3 d)))=true->d.2.1.2.1.length<4611686018427387904)->((q129_6 d)=true->d.1.2.2.1.length<4611686018427387904)->((q129_6 d)=true->d.2.1.2.2.1.length<4611686018427387904)->((q129_1 d)=true->d.1.2.2.2.2.2.1.length<4611686018427387904)->((q129_1 d)=true->d.2.1.2.2.2.2.2.1.length<4611686018427387904)->((q129_0 d)=true->(false,())=(q129_11 d))/\((q129_0 d)=false->(∃(x:Nat),(q129_8 x)/\x<=(q129_15 d).length/\∀(j:Nat),j<x->nth (q129_15 d) j=nth (U.jj (U.jf d.2.1)) j)/\∀(x:Nat),(x<=(q129_15 d).length/\∀(j:Nat),j<x->nth (q129_15 d) j=nth (U.jj (U.jf d.2.1)) j)->d.1.1.2.1.length<4611686018427387904->(decide ((x:Int)<(d.1.1.2.1.length:Int))=true->0<=(x:Int)/\(x:Int)<(d.1.1.2.1.length:Int)/\0<=(x:Int)/\(x:Int)<(d.2.1.1.2.1.length:Int)/\((!U.jff (nth d.1.1.2.1 (x:Int).toNat) (nth d.2.1.1.2.1 (x:Int).toNat))=true->(false,())=(q129_11 d))/\((!U.jff (nth d.1.1.2.1 (x:Int).toNat) (nth d.2.1.1.2.1 (x:Int).toNat))=false->jA ((x:Int)+1)/\∃(b:Nat),(q129_4 x b)/\(b<=(q129_15 d).length/\∀(j:Nat),j<b->nth (q129_15 d) j=nth (U.jj (U.jf d.2.1)) j)/\(q129_15 d).length-b<(q129_15 d).length-x))/\(decide ((x:Int)<(d.1.1.2.1.length:Int))=false->(∃(x:Nat),(q129_8 x)/\x<=(q129_13 d).length/\∀(j:Nat),j<x->nth (q129_13 d) j=nth (U.zm (U.jf d.2.1)) j)/\∀(x:Nat),(x<=(q129_13 d).length/\∀(j:Nat),j<x->nth (q129_13 d) j=nth (U.zm (U.jf d.2.1)) j)->d.1.1.2.2.1.length<4611686018427387904->(decide ((x:Int)<(d.1.1.2.2.1.length:Int))=true->0<=(x:Int)/\(x:Int)<(d.1.1.2.2.1.length:Int)/\0<=(x:Int)/\(x:Int)<(d.2.1.1.2.2.1.length:Int)/\((!decide (nth d.1.1.2.2.1 (x:Int).toNat=nth d.2.1.1.2.2.1 (x:Int).toNat))=true->(false,())=(q129_11 d))/\((!decide (nth d.1.1.2.2.1 (x:Int).toNat=nth d.2.1.1.2.2.1 (x:Int).toNat))=false->jA ((x:Int)+1)/\∃(b:Nat),(q129_4 x b)/\(b<=(q129_13 d).length/\∀(j:Nat),j<b->nth (q129_13 d) j=nth (U.zm (U.jf d.2.1)) j)/\(q129_13 d).length-b<(q129_13 d).length-x))/\(decide ((x:Int)<(d.1.1.2.2.1.length:Int))=false->(∃(x:Nat),(q129_8 x)/\x<=(U.jt d.1).length/\∀(j:Nat),j<x->nth (U.jt d.1) j=nth (U.jt d.2.1) j)/\∀(x:Nat),(x<=(U.jt d.1).length/\∀(j:Nat),j<x->nth (U.jt d.1) j=nth (U.jt d.2.1) j)->d.1.2.1.length<4611686018427387904->(decide ((x:Int)<(d.1.2.1.length:Int))=true->0<=(x:Int)/\(x:Int)<(d.1.2.1.length:Int)/\0<=(x:Int)/\(x:Int)<(d.2.1.2.1.length:Int)/\(decide ((q129_7 d x)≠(q129_16 d x))=true->(false,())=(q129_11 d))/\(decide ((q129_7 d x)≠(q129_16 d x))=false->(∃(a:Nat),((0=(a:Int)/\True)/\True)/\a<=(q129_5 d x).length/\∀(j:Nat),j<a->nth (q129_5 d x) j=nth (nth (U.jt d.2.1) (x:Int).toNat) j)/\∀(a:Nat),(a<=(q129_5 d x).length/\∀(j:Nat),j<a->nth (q129_5 d x) j=nth (nth (U.jt d.2.1) (x:Int).toNat) j)->0<=(x:Int)/\(x:Int)<(d.1.2.1.length:Int)/\((nth d.1.2.1 (x:Int).toNat).length<4611686018427387904->(decide ((a:Int)<(q129_7 d x))=true->0<=(x:Int)/\(x:Int)<(d.1.2.1.length:Int)/\0<=(a:Int)/\(a:Int)<(q129_7 d x)/\0<=(x:Int)/\(x:Int)<(d.2.1.2.1.length:Int)/\0<=(a:Int)/\(a:Int)<(q129_16 d x)/\((q129_10 d x a)=true->(false,())=(q129_11 d))/\((q129_10 d x a)=false->jA ((a:Int)+1)/\∃(b:Nat),(((a:Int)+1=(b:Int)/\True)/\True)/\(b<=(q129_5 d x).length/\∀(j:Nat),j<b->nth (q129_5 d x) j=nth (nth (U.jt d.2.1) (x:Int).toNat) j)/\(q129_5 d x).length-b<(q129_5 d x).length-a))/\(decide ((a:Int)<(q129_7 d x))=false->jA ((x:Int)+1)/\∃(b:Nat),(q129_4 x b)/\(b<=(U.jt d.1).length/\∀(j:Nat),j<b->nth (U.jt d.1) j=nth (U.jt d.2.1) j)/\(U.jt d.1).length-b<(U.jt d.1).length-x))))/\(decide ((x:Int)<(d.1.2.1.length:Int))=false->(∃(x:Nat),(q129_8 x)/\x<=(U.jp d.1).length/\∀(j:Nat),j<x->nth (U.jp d.1) j=nth (U.jp d.2.1) j)/\∀(x:Nat),(x<=(U.jp d.1).length/\∀(j:Nat),j<x->nth (U.jp d.1) j=nth (U.jp d.2.1) j)->d.1.2.2.1.length<4611686018427387904->(decide ((x:Int)<(d.1.2.2.1.length:Int))=true->0<=(x:Int)/\(x:Int)<(d.1.2.2.1.length:Int)/\0<=(x:Int)/\(x:Int)<(d.2.1.2.2.1.length:Int)/\((!decide (nth d.1.2.2.1 (x:Int).toNat=nth d.2.1.2.2.1 (x:Int).toNat))=true->(false,())=(q129_11 d))/\((!decide (nth d.1.2.2.1 (x:Int).toNat=nth d.2.1.2.2.1 (x:Int).toNat))=false->jA ((x:Int)+1)/\∃(b:Nat),(q129_4 x b)/\(b<=(U.jp d.1).length/\∀(j:Nat),j<b->nth (U.jp d.1) j=nth (U.jp d.2.1) j)/\(U.jp d.1).length-b<(U.jp d.1).length-x))/\(decide ((x:Int)<(d.1.2.2.1.length:Int))=false->(∃(x:Nat),(q129_8 x)/\x<=(U.jW d.1).length/\∀(j:Nat),j<x->nth (U.jW d.1) j=nth (U.jW d.2.1) j)/\∀(x:Nat),(x<=(U.jW d.1).length/\∀(j:Nat),j<x->nth (U.jW d.1) j=nth (U.jW d.2.1) j)->d.1.2.2.2.2.2.1.length<4611686018427387904->(decide ((x:Int)<(d.1.2.2.2.2.2.1.length:Int))=true->0<=(x:Int)/\(x:Int)<(d.1.2.2.2.2.2.1.length:Int)/\0<=(x:Int)/\(x:Int)<(d.2.1.2.2.2.2.2.1.length:Int)/\((q129_14 d x)=true->(false,())=(q129_11 d))/\((q129_14 d x)=false->jA ((x:Int)+1)/\∃(b:Nat),(q129_4 x b)/\(b<=(U.jW d.1).length/\∀(j:Nat),j<b->nth (U.jW d.1) j=nth (U.jW d.2.1) j)/\(U.jW d.1).length-b<(U.jW d.1).length-x))/\(decide ((x:Int)<(d.1.2.2.2.2.2.1.length:Int))=false->(true,())=(q129_11 d)))))))
def jc3:jO:=jwJ [tDy,.slice tSh]
abbrev q130_1:=(Ty.int.pair (Ty.int.pair Ty.unit))
abbrev q130_0:=(Ty.int.pair (Ty.int.pair (Ty.int.pair q130_1)))
def jcP:Prop:=∀(d:DyD×List ShD×Unit),jna 1048576 [(Ty.int.pair ((Ty.int.slice.pair (Ty.int.pair (Ty.int.pair (Ty.int.slice.pair (Ty.bool.pair (Ty.int.pair Ty.unit)))))).slice.pair ((Ty.int.pair (Ty.int.pair (Ty.bool.pair Ty.unit))).slice.pair Ty.unit))).pair (q130_1.slice.slice.pair (((Ty.int.pair q130_0).pair (Ty.int.pair q130_1)).slice.pair (Ty.int.pair (Ty.int.pair (q130_0.slice.pair Ty.unit))))),q130_0.slice] d->((!U.vz d.1)=true->d.2.1.length<4611686018427387904)->((U.vz d.1||decide (60<(d.2.1.length:Int)))=true->(true,())=(true,()))/\((U.vz d.1||decide (60<(d.2.1.length:Int)))=false->U.yi d.1/\(0+d.2.1.length)*40<=140737488355328/\(U.jW d.1).length<=100000/\([]++d.2.1).length<=100000/\(U.jp d.1).length<=1000000/\(decide (U.jt8 d.1 ([]++d.2.1)=U.jmR d.1 d.2.1)&&U.jdH (U.joX d.1 ([]++d.2.1)) (U.jmS d.1 d.2.1)&&true,())=(true,()))
end Go.X
namespace Go.X
open Go.Proofs
theorem jzb {a b:PeD} (h:a=b):U.jff a b=true:= @decide_eq_true _ (tPe.decEq a b) h
theorem jrH {a b:PeD} (h:a≠b):U.jff a b=false:= @decide_eq_false _ (tPe.decEq a b) h
theorem jBd {a b:PeD} (h:U.jff a b=true):a=b:= @of_decide_eq_true _ (tPe.decEq a b) h
theorem jBe {a b:PeD} (h:U.jff a b=false):a≠b:= @of_decide_eq_false _ (tPe.decEq a b) h
theorem jsV {a b:DyD} (h:a=b):U.jdH a b=true:= @decide_eq_true _ (tDy.decEq a b) h
theorem jdG {a b:DyD} (h:a≠b):U.jdH a b=false:= @decide_eq_false _ (tDy.decEq a b) h
theorem jhF {α:Type} [DecidableEq α] {a b:α} (h:decide (a≠b)=false):a=b:=Decidable.not_not.1 (of_decide_eq_false h)
theorem jeS {a b:Nat} (h:decide ((a:Int)≠(b:Int))=false):a=b:=by have:=jhF h;omega
theorem vZ {α:Type} [Inhabited α] {a b:List α} {x:Nat} (c:a.length=b.length) (h:∀j:Nat,j<x->nth a j=nth b j) (d:¬(x:Int)<(a.length:Int)):a=b:=
 L.ext_nth c fun i hi=>h i (by omega)
theorem jbq {α:Type} [Inhabited α] {a b:List α} {x:Nat} (h:nth a x≠nth b x):a≠b:=fun e=>h (by rw[e])
theorem jul:jp7:=by
 unfold jp7 q127_2 q127_1 q127_0;rintro⟨d,m,⟨⟩⟩ j;have j:(U.jp d).length<=1000000:=j;refine⟨j,fun h=> ?_,fun h=>⟨j,fun b=> ?_,fun b=> ?_⟩⟩
 .have h:U.qV d≠0:=of_decide_eq_true h;have e:U.jmR d m=U.qV d:=(by unfold U.jmR;rw[if_pos h]);have a:U.jmS d m=U.jeP:=(by unfold U.jmS;rw[if_neg (by rw[e];exact h)]);show(U.jeP,U.qV d,())=_;rw[<-e,<-a]
 .have h:U.qV d=0:=jhF h;have b:U.qV (U.zx d m)≠0:=of_decide_eq_true b;have e:U.jmR d m=U.qV (U.zx d m):=(by unfold U.jmR;rw[if_neg (fun k=>k h),if_pos b]);have a:U.jmS d m=U.jeP:=(by unfold U.jmS;rw[if_neg (by rw[e];exact b)]);show(U.jeP,U.qV (U.zx d m),())=_;rw[<-e,<-a]
 .have h:U.qV d=0:=jhF h;have b:U.qV (U.zx d m)=0:=jhF b;have n:(U.jW d).length<=30:=(zp (jrW.1 h).1.2.2).2.2.2.2.1;have o:m.length<=30:=(zp (jrW.1 b).1.2.2).2.2.2.2.1;have i:(U.kA (U.jW d++m)).length<=(U.jW d++m).length:=L.nodup_len _ _ (y7 _) fun s l=>qj l
  rw[jD2] at i;have c:U.jmR d m=if 30<(U.kA (U.jW d++m)).length then 2 else if U.zZ (U.kA (U.jW d++m))=true then 51 else 0:=by
   unfold U.jmR U.jAV;rw[if_neg (fun k=>k h),if_neg (fun k=>k b)]
  refine⟨by show(0+(U.jW d).length)*40<=_;omega,by show((U.jW d).length+m.length)*40<=_;omega,by show(U.jW d++m).length<=1000;rw[jD2];omega,fun _=>⟨fun f=> ?_,fun f=>⟨by show(U.kA (U.jW d++m)).length<=1000000;omega,fun g=> ?_,fun g=>⟨jsB (jrW.1 h).1,?_⟩⟩⟩⟩
  .have f:(30:Int)<((U.kA (U.jW d++m)).length:Int):=of_decide_eq_true f;rw[if_pos (by omega)] at c;have a:U.jmS d m=U.jeP:=(by unfold U.jmS;rw[if_neg (by rw[c];omega)]);rw[c,a];rfl
  .have f:¬(30:Int)<((U.kA (U.jW d++m)).length:Int):=of_decide_eq_false f;have g:U.zZ (U.kA (U.jW d++m))=true:=g;rw[if_neg (by omega),if_pos g] at c;have a:U.jmS d m=U.jeP:=(by unfold U.jmS;rw[if_neg (by rw[c];omega)]);rw[c,a];rfl
  .have f:¬(30:Int)<((U.kA (U.jW d++m)).length:Int):=of_decide_eq_false f;have g:U.zZ (U.kA (U.jW d++m))=false:=g;rw[if_neg (by omega),if_neg (by rw[g];simp)] at c;have a:U.jmS d m=U.zx d (U.kA (U.jW d++m)):=(by unfold U.jmS U.jAV;rw[if_pos c]);rw[c,a];rfl
theorem jq7:ze PR 32 jqt:=jL jul Tryz.func32 (kcC jq9 (kcC jkE (kcC ji0 (kcC jln kcN)))) koN
theorem jjE:jha:=by
 unfold jha q128_2 q128_1 q128_0;rintro⟨⟨c,o,p,d,q,r,⟨⟩⟩,⟨l,s,t,m,u,v,⟨⟩⟩,⟨⟩⟩ _ _ _ _;refine⟨fun h=> ?_,fun h=> ?_⟩
 .show(false,())=(U.jff (c,o,p,d,q,r,()) (l,s,t,m,u,v,()),());rw[jrH];intro e;cases e;simp at h
 .simp only[jEc] at h;obtain⟨⟨⟨⟨⟨J,K⟩,M⟩,N⟩,O⟩,P⟩:=h;have D:o=s:=jhF J;have E:p=t:=jhF K;have F:q=u:=(by simpa using M);have G:r=v:=jhF N;have H:c.length=l.length:=jeS O;have I:d.length=m.length:=jeS P;subst D E F G;refine⟨⟨0,⟨⟨rfl,trivial⟩,trivial⟩,jDV _,fun j n=>by omega⟩,fun x ⟨Q,f⟩ w=>⟨fun g=> ?_,fun g=>⟨⟨0,⟨⟨rfl,trivial⟩,trivial⟩,jDV _,fun j n=>by omega⟩,fun y ⟨R,i⟩ z=>⟨fun k=> ?_,fun k=> ?_⟩⟩⟩⟩
  .have g:(x:Int)<(c.length:Int):=of_decide_eq_true g;have w:c.length<4611686018427387904:=w;have f:∀j:Nat,j<x->nth c j=nth l j:=f;have x0:(0:Int)<=(x:Int):=jD6 x;simp only[jDN];refine⟨x0,g,x0,by omega,fun k=> ?_,fun k=>⟨L.in64 (by omega) (by omega),x+1,⟨⟨by simp,trivial⟩,trivial⟩,⟨by show x+1<=c.length;omega,fun j n=> ?_⟩,by show c.length-(x+1)<c.length-x;omega⟩⟩
   .rw[jrH];intro e;exact jbq (of_decide_eq_true k) (congrArg (·.1) e)
   .by_cases e:j=x
    .subst e;exact jhF k
    .exact f j (by omega)
  .have k:(y:Int)<(d.length:Int):=of_decide_eq_true k;have z:d.length<4611686018427387904:=z;have i:∀j:Nat,j<y->nth d j=nth m j:=i;have A:(0:Int)<=(y:Int):=jD6 y;simp only[jDN];refine⟨A,k,A,by omega,fun k=> ?_,fun k=>⟨L.in64 (by omega) (by omega),y+1,⟨⟨by simp,trivial⟩,trivial⟩,⟨by show y+1<=d.length;omega,fun j n=> ?_⟩,by show d.length-(y+1)<d.length-y;omega⟩⟩
   .rw[jrH];intro e;exact jbq (of_decide_eq_true k) (congrArg (·.2.2.2.1) e)
   .by_cases e:j=y
    .subst e;exact jhF k
    .exact i j (by omega)
  .have B:=vZ (a:=c) (b:=l) H f (of_decide_eq_false g);have C:=vZ (a:=d) (b:=m) I i (of_decide_eq_false k);subst B C;show(true,())=(U.jff _ _,());rw[jzb rfl]
theorem jhD:ze PR 74 jhk:=wa jhT jjE Tryz.func74 kcN koN
theorem jw9:jtr:=by
 unfold jtr q129_16 q129_15 q129_14 q129_13 q129_6 q129_1 q129_0 q129_12 q129_11 q129_10 q129_9 q129_8 q129_7 q129_5 q129_4 q129_3 q129_2;rintro⟨⟨⟨K,d,f,⟨⟩⟩,c,m,M,N,n,⟨⟩⟩,⟨⟨Q,A,C,⟨⟩⟩,i,D,R,S,E,⟨⟩⟩,⟨⟩⟩ _ _ _ _ _ _ _ _ _ _;refine⟨fun h=> ?_,fun h=> ?_⟩
 .show(false,())=(U.jdH ((K,d,f,()),c,m,M,N,n,()) ((Q,A,C,()),i,D,R,S,E,()),());rw[jdG];intro e;cases e;simp at h
 .simp only[jEc] at h;obtain⟨⟨⟨⟨⟨⟨⟨k1,k2⟩,k3⟩,k4⟩,k5⟩,k6⟩,k7⟩,k8⟩:=h;have h1:d.length=A.length:=jeS k1;have h2:K=Q:=jhF k2;have h3:f.length=C.length:=jeS k3;have h4:c.length=i.length:=jeS k4;have h5:m.length=D.length:=jeS k5;have h6:M=R:=jhF k6;have h7:N=S:=jhF k7;have h8:n.length=E.length:=jeS k8;subst h2 h6 h7;have P:∀{x:Nat},nth f x≠nth C x->(false,())=(U.jdH ((K,d,f,()),c,m,M,N,n,()) ((K,A,C,()),i,D,M,N,E,()),()):=fun g=>by
   rw[jdG];intro e;exact jbq g (congrArg (·.1.2.2.1) e)
  refine⟨⟨0,⟨⟨rfl,trivial⟩,trivial⟩,jDV _,fun j l=>by omega⟩,fun x ⟨hx,r⟩ W=>⟨fun g=> ?_,fun g=>⟨⟨0,⟨⟨rfl,trivial⟩,trivial⟩,jDV _,fun j l=>by omega⟩,fun y ⟨hy,s⟩ X=>⟨fun k=> ?_,fun k=>
   ⟨⟨0,⟨⟨rfl,trivial⟩,trivial⟩,jDV _,fun j l=>by omega⟩,fun z ⟨hz,t⟩ Y=>⟨fun B=> ?_,fun B=>⟨⟨0,⟨⟨rfl,trivial⟩,trivial⟩,jDV _,fun j l=>by omega⟩,fun u ⟨hu,o⟩ T=>⟨fun G=> ?_,fun G=>
   ⟨⟨0,⟨⟨rfl,trivial⟩,trivial⟩,jDV _,fun j l=>by omega⟩,fun v ⟨hv,p⟩ V=>⟨fun H=> ?_,fun H=> ?_⟩⟩⟩⟩⟩⟩⟩⟩⟩⟩
  .have g:(x:Int)<(d.length:Int):=of_decide_eq_true g;have W:d.length<4611686018427387904:=W;have r:∀j:Nat,j<x->nth d j=nth A j:=r;have x0:(0:Int)<=(x:Int):=jD6 x;simp only[jDN];refine⟨x0,g,x0,by omega,fun k=> ?_,fun k=>⟨L.in64 (by omega) (by omega),x+1,⟨⟨by simp,trivial⟩,trivial⟩,⟨by show x+1<=d.length;omega,fun j l=> ?_⟩,by show d.length-(x+1)<d.length-x;omega⟩⟩
   .rw[jdG];intro e;have k:(!U.jff (nth d x) (nth A x))=true:=k;rw[jEe] at k;exact jbq (jBe k) (congrArg (·.1.2.1) e)
   .by_cases e:j=x
    .subst e;have k:(!U.jff (nth d j) (nth A j))=false:=k;rw[jEq] at k;exact jBd k
    .exact r j (by omega)
  .have k:(y:Int)<(f.length:Int):=of_decide_eq_true k;have X:f.length<4611686018427387904:=X;have s:∀j:Nat,j<y->nth f j=nth C j:=s;have y0:(0:Int)<=(y:Int):=jD6 y;simp only[jDN];refine⟨y0,k,y0,by omega,fun k=> ?_,fun k=>⟨L.in64 (by omega) (by omega),y+1,⟨⟨by simp,trivial⟩,trivial⟩,⟨by show y+1<=f.length;omega,fun j l=> ?_⟩,by show f.length-(y+1)<f.length-y;omega⟩⟩
   .rw[jEe] at k;exact P (of_decide_eq_false k)
   .by_cases e:j=y
    .subst e;rw[jEq] at k;exact of_decide_eq_true k
    .exact s j (by omega)
  .have B:(z:Int)<(c.length:Int):=of_decide_eq_true B;have Y:c.length<4611686018427387904:=Y;have t:∀j:Nat,j<z->nth c j=nth i j:=t;have J:(0:Int)<=(z:Int):=jD6 z;simp only[jDN];refine⟨J,B,J,by omega,fun k=> ?_,fun k=>⟨⟨0,⟨⟨rfl,trivial⟩,trivial⟩,jDV _,fun j l=>by omega⟩,fun w ⟨hw,q⟩=>⟨J,B,fun nw=>⟨fun I=> ?_,fun I=>⟨L.in64 (by omega) (by omega),z+1,⟨⟨by simp,trivial⟩,trivial⟩,⟨by show z+1<=c.length;omega,fun j l=> ?_⟩,by show c.length-(z+1)<c.length-z;omega⟩⟩⟩⟩⟩
   .have k:=of_decide_eq_true k;rw[jdG];intro e;refine jbq (a:=c) (b:=i) (x:=z) (fun F=>k ?_) (congrArg (·.2.1) e);rw[F]
   .have O:=jeS k;have nw:(nth c z).length<4611686018427387904:=nw;have I:(w:Int)<((nth c z).length:Int):=of_decide_eq_true I;have q:∀j:Nat,j<w->nth (nth c z) j=nth (nth i z) j:=q;have w0:(0:Int)<=(w:Int):=jD6 w;have O:(nth c z).length=(nth i z).length:=O;refine⟨J,B,w0,I,J,by omega,w0,by omega,fun k=> ?_,fun k=>⟨L.in64 (by omega) (by omega),w+1,⟨⟨by simp,trivial⟩,trivial⟩,⟨by show w+1<=(nth c z).length;omega,fun j l=> ?_⟩,by show(nth c z).length-(w+1)<(nth c z).length-w;omega⟩⟩
    .rw[jEe] at k;rw[jdG];intro e;refine jbq (a:=c) (b:=i) (x:=z) (fun F=>of_decide_eq_false k ?_) (congrArg (·.2.1) e);show nth (nth c z) w=nth (nth i z) w;rw[F]
    .by_cases e:j=w
     .subst e;rw[jEq] at k;exact of_decide_eq_true k
     .exact q j (by omega)
   .by_cases e:j=z
    .subst e;have O:(nth c j).length=(nth i j).length:=jeS k;exact vZ O q (of_decide_eq_false I)
    .exact t j (by omega)
  .have G:(u:Int)<(m.length:Int):=of_decide_eq_true G;have T:m.length<4611686018427387904:=T;have o:∀j:Nat,j<u->nth m j=nth D j:=o;have Z:(0:Int)<=(u:Int):=jD6 u;simp only[jDN];refine⟨Z,G,Z,by omega,fun k=> ?_,fun k=>⟨L.in64 (by omega) (by omega),u+1,⟨⟨by simp,trivial⟩,trivial⟩,⟨by show u+1<=m.length;omega,fun j l=> ?_⟩,by show m.length-(u+1)<m.length-u;omega⟩⟩
   .rw[jEe] at k;rw[jdG];intro e;exact jbq (of_decide_eq_false k) (congrArg (·.2.2.1) e)
   .by_cases e:j=u
    .subst e;rw[jEq] at k;exact of_decide_eq_true k
    .exact o j (by omega)
  .have H:(v:Int)<(n.length:Int):=of_decide_eq_true H;have V:n.length<4611686018427387904:=V;have p:∀j:Nat,j<v->nth n j=nth E j:=p;have v0:(0:Int)<=(v:Int):=jD6 v;simp only[jDN];refine⟨v0,H,v0,by omega,fun k=> ?_,fun k=>⟨L.in64 (by omega) (by omega),v+1,⟨⟨by simp,trivial⟩,trivial⟩,⟨by show v+1<=n.length;omega,fun j l=> ?_⟩,by show n.length-(v+1)<n.length-v;omega⟩⟩
   .rw[jEe] at k;rw[jdG];intro e;exact jbq (of_decide_eq_false k) (congrArg (·.2.2.2.2.2.1) e)
   .by_cases e:j=v
    .subst e;rw[jEq] at k;exact of_decide_eq_true k
    .exact p j (by omega)
  .have e1:=vZ (a:=d) (b:=A) h1 r (of_decide_eq_false g);have F:=vZ (a:=f) (b:=C) h3 s (of_decide_eq_false k);have e3:=vZ (a:=c) (b:=i) h4 t (of_decide_eq_false B);have e4:=vZ (a:=m) (b:=D) h5 o (of_decide_eq_false G);have e5:=vZ (a:=n) (b:=E) h8 p (of_decide_eq_false H);subst e1 F e3 e4 e5;show(true,())=(U.jdH _ _,());rw[jsV rfl]
theorem jt0:ze PR 33 jtI:=wa juW jw9 Tryz.func33 (kcC jhD kcN) koN
theorem je1:jcP:=by
 unfold jcP q130_0 q130_1;rintro⟨d,m,⟨⟩⟩ _ _;refine⟨fun _=>rfl,fun h=> ?_⟩;have h:(U.vz d||decide ((60:Int)<(m.length:Int)))=false:=h;rw[jEc] at h;have a:=jub h.1;have b:=of_decide_eq_false h.2;refine⟨a,by show(0+m.length)*40<=_;omega,by have:=a.2.2.2.1;show(U.jW d).length<=100000;omega,by show m.length<=100000;omega,by have:=a.2.2.1;show(U.jp d).length<=1000000;omega,?_⟩;show(decide (U.jt8 d m=U.jmR d m)&&U.jdH (U.joX d m) (U.jmS d m)&&true,())=(true,());rw[decide_eq_true (jzT d m),jsV (jCd d m)];rfl
theorem jq4:ze PR 6 jc3:=jL je1 Tryz.func6 (kcC jtV (kcC jq3 (kcC jln (kcC jtZ (kcC jq7 (kcC jt0 kcN)))))) koN
end Go.X
namespace Go.X
open Go.Proofs
end Go.X
namespace Go.X
open Go.Proofs Go.Proofs.YtnkahkkofmoipaaGreatDoor
noncomputable def jyU:Array Field:=match Tryz.prog.underlying 60 with|some (.struct fs)=>fs|_=> #[]
theorem jCr:Tryz.prog.globalNamed "handshape/rosters.some"=some 0:=by kernel_rfl
theorem jCq:(Tryz.prog.globals[0]?).map (·.type)=some 60:=by kernel_rfl
theorem jDC:Tryz.prog.underlying 60=some (.struct jyU):=by kernel_rfl
theorem jDD:Tryz.prog.underlying 3=some (.int .i64):=by kernel_rfl
theorem jDE:Tryz.prog.cellsOf 3=1:=by kernel_rfl
noncomputable def yq (i:Nat):Bool:=match jyU[i]? with|some f=>Nat.beq f.type 3&&Nat.beq f.offset i|none=>false
theorem fields:(yq 0&&yq 1&&yq 2&&yq 3&&yq 4&&yq 5)=true:=by kernel_rfl
theorem jy8 {i:Nat} (h:yq i=true):∃f,jyU[i]? =some f/\f.type=3/\f.offset=i:=by
 unfold yq at h
 split at h
 .rename_i f a;rw[jDR] at h;exact⟨f,a,jDI h.1,jDI h.2⟩
 .cases h
theorem jyT {H:Type} {enc:TypeId×Value->H} {w:World} {base:Nat} {sp:Nat->Bool} {a:Bool} {n:Nat} {cs:List Value} {xs:List (DataW H×List MemPlace)} {d:List Int} (o:xs.map (·.1)=d.map fun z=>(DataW.lit (.int .i64 z):DataW H))
 (k:∀(i:Nat) (f:Field),jyU[i]? =some f->DataW.trod enc Tryz.prog w base sp a n f.type ((cs.drop f.offset).take (Tryz.prog.cellsOf f.type))=xs[i]?) {i:Nat} {z:Int} (hi:yq i=true) (q:d[i]? =some z):cs[i]? =some (.int .i64 z):=by
 obtain⟨f,g,h,j⟩:=jy8 hi;have b:=k i f g;rw[h,j,jDE] at b;have c:(xs.map (·.1))[i]? =some (DataW.lit (.int .i64 z):DataW H):=(by rw[o,jEW,q];rfl);rw[jEW] at c;obtain⟨y,p,e⟩:=jE8.1 c;rw[p] at b;obtain⟨m,l,rfl,_⟩:=DataW.trod_int jDD b;have e:m=z:=by
  have e:(DataW.lit (.int .i64 m):DataW H)=DataW.lit (.int .i64 z):=e;simpa only[DataW.lit.injEq,Lit.int.injEq,true_and] using e
 subst e;have:=congrArg (·[0]?) l;simpa[jET,jEk] using this
theorem jDa {W:World} (h:laidMet Tryz.prog [("handshape/rosters.some",Rows.laid_handshape_rosters_some)] W):jBK (Hof W):=by
 obtain⟨ps,⟨H,E,cs,k,p,q,d,f,a,A,_,_⟩,_⟩:=h;obtain rfl:=Option.some.inj (jCr.symm.trans d);obtain rfl:=Option.some.inj (jCq.symm.trans f);obtain⟨xs,n,_,C,I,l,B⟩:=DataW.trod_struct jDC A;have j:xs.map (·.1)=[0,1,0,0,0,1].map fun z=>(DataW.lit (.int .i64 z):DataW Unit):=by
  have e:=congrArg Prod.fst C;have e:(DataW.agg [.lit (.int .i64 0),.lit (.int .i64 1),.lit (.int .i64 0),.lit (.int .i64 0),.lit (.int .i64 0),.lit (.int .i64 1)]:DataW Unit)= .agg (xs.map (·.1)):=e;simp only[DataW.agg.injEq] at e;exact e.symm
 have fs:=fields;simp only[jDR] at fs;obtain⟨⟨⟨⟨⟨o,r⟩,s⟩,u⟩,v⟩,w⟩:=fs;have c:∀{i:Nat} {z:Int},yq i=true->([0,1,0,0,0,1]:List Int)[i]? =some z->cs[i]? =some (.int .i64 z):=fun hi D=>by
  have:=jyT j B hi D;simpa using this
 unfold World.var? at a;rw[jCr] at a;intro g x b;have b:js [(0,(⟨.st [.int,.int,.int,.int,.int,.int],((0:Int),(1:Int),(0:Int),(0:Int),(0:Int),(1:Int),())⟩:(t:Ty)×t.Data))] g=some x:=b;have y:Hof W 0=some (.cells cs):=by
  unfold Hof;simp only[Option.bind_some] at a
  split at a
  .rename_i F E G e;rw[e];have:=Option.some.inj a;rw[this]
  .cases a
 have m:=j8 _ _ _ b;simp only[List.mem_singleton,Prod.mk.injEq] at m;obtain⟨rfl,rfl⟩:=m;exact⟨cs,y,c o rfl,c r rfl,c s rfl,c u rfl,c v rfl,c w rfl,trivial⟩
end Go.X
