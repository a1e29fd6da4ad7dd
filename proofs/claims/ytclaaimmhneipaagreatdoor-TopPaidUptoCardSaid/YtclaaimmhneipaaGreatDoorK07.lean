/-
  Part 7 of the road: a checked reading of bodies, and what the functions on it do (X25 X26 C5 PC15 C6 PC16 S6 S7 PC17 DM S8 S9 S10 S11 S12 S13 S14 S15 S16 ST VD VM VB V1 PV1 VE0 VE1 VE2 V3 PV3 O7 V5 PV5 V6 PV6 VBO DQ MQ LQ AQ NQ BQ OQ VQ1 PQ1 PR1 CQ TQ VQ2 PQ2 RQ PQ3 V4 PV4 V7 PV7 V8S V8 PV8 V9 PV9 VW1 PW1).
-/
import Derived.Test.YtclaaimmhneipaaGreatDoorK06
import Derived.Test.YtclaaimmhneipaaGreatDoorRows
import Derived.WalkKit
import Derived.ProofKit
import Derived.OpenShut
import Derived.JoinedCond
import Derived.Carry
import Derived.ChangeArms
import Derived.Shelf.SlSortCmp.WholeK
import Derived.Test.YtclaaimmhneipaaGreatDoorProg
namespace Go.X
open U
open Go.RowKit (Below)
open Go.Proofs.YtclaaimmhneipaaGreatDoor
def Hof (w:World):Imm:=fun b=>match w.heap[b]? with|some (.cells c _ _)=>some (.cells c)|_=>none
theorem jaj (w:World) (d:jcg (Hof w)):ir (Hof w) w:=by
 refine⟨fun b c h=> ?_,d⟩;unfold Hof at h
 split at h
 rename_i f T a e;simp at h;subst h;exact⟨T,a,e⟩;cases h
def Ty.fits (N:Nat):(t:Ty)->t.Data->Prop
 | .int,x=>kU x
 | .bool,_=>True
 | .uint k,x=>k.min<=x/\x<=k.max
 | .slice t,l=>l.length<=N/\∀x∈l,t.fits N x
 | .unit,_=>True
 | .pair a b,d=>a.fits N d.1/\b.fits N d.2
 | .map k v,l=>l.length<=N/\∀x∈l,k.fits N x.1/\v.fits N x.2
 | .ptr t,d=>∀x,d=some x->t.fits N x
theorem Ty.fits_mono {N M:Nat} (h:N<=M):∀(t:Ty) (d:t.Data),t.fits N d->t.fits M d
 | .int,_,k=>k
 | .bool,_,k=>k
 | .uint _,_,k=>k
 | .unit,_,k=>k
 | .slice t,_,k=>⟨jF k.1 h,fun x c=>t.fits_mono h x (k.2 x c)⟩
 | .pair a b,_,k=>⟨a.fits_mono h _ k.1,b.fits_mono h _ k.2⟩
 | .map k v,_,q=>⟨jF q.1 h,fun x c=>⟨k.fits_mono h _ (q.2 x c).1,v.fits_mono h _ (q.2 x c).2⟩⟩
 | .ptr t,_,k=>fun x c=>t.fits_mono h x (k x c)
def jeV (P:Program) (go:Nat->Ty->Bool):List Field->Nat->Ty->Bool
 |[],_,.unit=>true
 |f::fs,off,.pair a b=>Nat.beq f.offset off&&Nat.beq (P.cellsOf f.type) a.size&&go f.type a&&jeV P go fs (off+a.size) b
 |_,_,_=>false
def jdj (P:Program):Nat->Nat->Ty->Bool
 |0,_,_=>false
 |d+1,T,ty=>match ty,P.underlying T with
  | .int,some (.int .i64)=>true
  | .bool,some .bool=>true
  | .uint k,some (.int k')=>iR k k'
  | .slice t,some (.slice e)=>Nat.beq (P.cellsOf e) t.size&&Nat.ble 1 t.size&&jdj P d e t
  | .pair a b,some (.struct fs)=>Nat.beq (P.cellsOf T) (Ty.pair a b).size&&jeV P (jdj P d) fs.toList 0 (.pair a b)
  |_,_=>false
section
variable {P:Program} {K:Type} {enc:TypeId×Value->K} {w:World}
theorem jeW (d:DataW K):1<=Rows.uptoBulk d:=by
 cases d with
 |lit l=>cases l<;>simp[Rows.uptoBulk]
 |_=>simp[Rows.uptoBulk]
theorem MK (l:List (DataW K)):l.length<=Rows.uptoBulkAll l:=by
 induction l with
 |nil=>simp[Rows.uptoBulkAll]
 |cons x r a=>have:=jeW x;simp only[Rows.uptoBulkAll,ze];omega
theorem jdk {d:DataW K} {l:List (DataW K)} (h:d∈l):Rows.uptoBulk d<=Rows.uptoBulkAll l:=by
 induction l with
 |nil=>cases h
 |cons x r a=>
  simp only[Rows.uptoBulkAll];cases jk.1 h with
  |inl e=>subst e;omega
  |inr e=>have:=a e;omega
theorem Xs {α:Type} {Q:Nat->α->Prop}:∀(n:Nat),(∀i,i<n->∃y,Q i y)->∃l:List α,l.length=n/\∀i y,l[i]? =some y->Q i y
 |0,_=>⟨[],rfl,fun i y h=>by simp at h⟩
 |n+1,h=>by
  obtain⟨l,b,c⟩:=Xs n (fun i hi=>h i (by omega))
  obtain⟨y,d⟩:=h n (by omega)
  refine⟨l++[y],by simp[b],fun i z a=> ?_⟩
  by_cases hi:i<l.length
  rw[jA hi] at a;exact c i z a
  rw[jx (by omega)] at a
  have:i=n:=by
   by_cases e:i-l.length=0;omega;obtain⟨k,hk⟩:∃k,i-l.length=k+1:=⟨i-l.length-1,by omega⟩;rw[hk] at a;simp at a
  subst this;rw[<-b] at a;simp at a;subst a;exact d
def jeX (P:Program) (w:World) (enc:TypeId×Value->K) (T:Nat) (ty:Ty):Prop:=
 ∀(a:Nat) (cs:List Value) (x:DataW K×List MemPlace),DataW.trod enc P w 0 (fun _=>true) true a T cs=some x->Rows.uptoBulk x.1<=1048576->
  ∃d:ty.Data,ty.rd (Hof w) (fun i=>cs[i]?) d/\cs.length=ty.size/\ty.fits (Rows.uptoBulk x.1) d
theorem jeY {n:Int} (h:(Lit.int .i64 n).wf=true):kU n:=by
 simp[Lit.wf,IntKind.min,IntKind.max,IntKind.signed,IntKind.bits] at h;exact h
theorem AZ {go:Nat->Ty->Bool} (c:∀T ty,go T ty=true->jeX P w enc T ty) {n:Nat} {cs:List Value}:
 ∀(fs:List Field) (off:Nat) (ty:Ty) (xs:List (DataW K×List MemPlace)),jeV P go fs off ty=true->xs.length=fs.length->
  (∀(i:Nat) (f:Field),fs[i]? =some f->DataW.trod enc P w 0 (fun _=>true) true n f.type ((cs.drop f.offset).take (P.cellsOf f.type))=xs[i]?)->Rows.uptoBulkAll (xs.map (·.1))<=1048576->
  ∃d:ty.Data,ty.rd (Hof w) (fun i=>cs[off+i]?) d/\ty.fits (Rows.uptoBulkAll (xs.map (·.1))) d
 |[],off,ty,xs,h,g,e,j=>by
  cases ty<;>simp[jeV] at h
  exact⟨(),trivial,trivial⟩
 |f::fs,off,ty,[],h,g,e,j=>by simp at g
 |f::fs,off,ty,x::xs,h,g,e,j=>by
  cases ty<;>simp[jeV] at h
  rename_i a b
  obtain⟨⟨⟨q,v⟩,r⟩,s⟩:=h
  simp only[zg,Rows.uptoBulkAll] at j
  have k:=e 0 f (by simp)
  simp only[List.getElem?_cons_zero] at k
  obtain⟨d,t,y,u⟩:=c _ _ r _ _ _ k (by omega)
  obtain⟨l,o,p⟩:=AZ c fs (off+a.size) b xs s (by simpa using g) (fun i m hi=>by simpa using e (i+1) m (by simpa using hi)) (by omega)
  refine⟨(d,l),⟨?_,?_⟩,?_,?_⟩
  refine Ty.rd_congr a _ _ _ (fun i hi=> ?_) t
  rw[jU (by omega),zi,q]
  refine Ty.rd_congr b _ _ _ (fun i hi=> ?_) o
  rw[zP]
  exact a.fits_mono (by simp[Rows.uptoBulkAll]) _ u
  exact b.fits_mono (by simp[Rows.uptoBulkAll]) _ p
theorem sf:∀(d T:Nat) (ty:Ty),jdj P d T ty=true->jeX P w enc T ty
 |0,_,_,h=>by cases h
 |d+1,T,ty,h=>by
  intro fuel cs x B r
  unfold jdj at h
  split at h
  rename_i u
  obtain⟨n,rfl,rfl,H⟩:=DataW.trod_int u B
  exact⟨n,rfl,rfl,jeY H⟩
  rename_i u
  obtain⟨b,rfl,rfl⟩:=DataW.trod_bool u B
  exact⟨b,rfl,rfl,trivial⟩
  rename_i k k' u
  obtain⟨n,rfl,rfl,H⟩:=DataW.trod_int u B
  have:k=k':=by simpa[iR] using h
  subst this
  refine⟨n,rfl,rfl,?_⟩
  simp[Lit.wf] at H
  exact H
  rename_i t e u
  simp only[ji] at h
  obtain⟨⟨L,M⟩,h3⟩:=h
  have e1:=jb L
  have e2:=jB M
  rcases DataW.trod_slice u B with⟨rfl,rfl⟩|⟨a,len,J,cw,rest,n,_,rfl,rfl,hb,hl,hm,A,D,_,_⟩
  refine⟨[],⟨none,0,0,rfl,rfl,jj _,by simp,fun _=>rfl,fun h=>absurd rfl h⟩,rfl,by simp,fun x B=>by simp at B⟩
  simp only[Rows.uptoBulk] at r
  have key:∀i,i<len->∃y:t.Data,(∃blk,Hof w a.block=some (.cells blk)/\a.spot=none/\t.rd (Hof w) (fun j=>blk[a.off+i*t.size+j]?) y)/\t.fits (Rows.uptoBulkAll (cw.map (·.1))) y:=by
   intro i hi;have h0:=D i hi;have X:cw[i]? =some cw[i]:=jr (by omega);rw[X,Option.bind_eq_some_iff] at h0;obtain⟨cl,c1,c2⟩:=h0;have Q:Rows.uptoBulk cw[i].1<=Rows.uptoBulkAll (cw.map (·.1)):=jdk (jG.2 ⟨cw[i],List.getElem_mem _,rfl⟩);obtain⟨y,y1,y2,y3⟩:=sf d e t h3 _ _ _ c2 (by omega);unfold World.cells? at c1;rw[jd (jt _),e1] at c1;have z:∀j,j<t.size->w.cell? ((a.add (i*t.size)).add j)=cl[j]? :=fun j O=>by
    have:=mapM_some_get c1 j j (by simp[O]);simpa using this
   have N:cl.length=t.size:=(by simpa using mapM_some_length c1);have I:=z 0 (by omega);have g:cl[0]?≠none:=(by rw[jr (by omega)];simp);rw[<-I] at g;have m:∃blk T G,w.heap[a.block]? =some (.cells blk T G):=by
    unfold World.cell? at g;have q:((a.add (i*t.size)).add 0).block=a.block:=by unfold Addr.add;simp;split<;>rfl
    rw[q] at g
    split at g
    rename_i c T G e;exact⟨c,T,G,e⟩;exact absurd rfl g
   obtain⟨blk,T',G,m⟩:=m;have p:((a.add (i*t.size)).add 0).spot=none:=by
    unfold World.cell? at g;have q:((a.add (i*t.size)).add 0).block=a.block:=by unfold Addr.add;simp;split<;>rfl
    rw[q,m] at g;simp only at g;cases R:((a.add (i*t.size)).add 0).spot with
    |none=>rfl
    |some s=>rw[R] at g;simp at g
   have hH:Hof w a.block=some (.cells blk):=(by unfold Hof;rw[m]);refine⟨y,⟨blk,hH,?_,?_⟩,t.fits_mono Q _ y3⟩
   --the first element shows that the address is plain
   have C:=D 0 (by omega);have W:cw[0]? =some cw[0]:=jr (by omega);rw[W,Option.bind_eq_some_iff] at C;obtain⟨K,F,_⟩:=C;unfold World.cells? at F;rw[jd (jt _),e1] at F;have v:=mapM_some_get F 0 0 (by rw[List.getElem?_range (by omega)]);have hl0:K.length=t.size:=(by simpa using mapM_some_length F);rw[jr (by omega)] at v;simp only[Nat.zero_mul] at v;have ea:(a.add 0).add 0=a:=(by unfold Addr.add;simp);rw[ea] at v;unfold World.cell? at v;rw[m] at v;simp only at v;cases R:a.spot with
   |none=>rfl
   |some s=>rw[R] at v;simp at v
   refine Ty.rd_congr t _ _ _ (fun j O=> ?_) y1;rw[<-z j O];unfold World.cell?;have q:((a.add (i*t.size)).add j).block=a.block:=by unfold Addr.add;split<;>split<;>rfl
   have E:((a.add (i*t.size)).add j).off=a.off+i*t.size+j:=by
    unfold Addr.add;split<;>split<;>simp_all
   have V:((a.add (i*t.size)).add j).spot=none:=by
    have S:(a.add (i*t.size)).spot=none:=by
     have:(a.add (i*t.size)).add 0=a.add (i*t.size):=(by simp[Addr.add]);rw[this] at p;exact p
    unfold Addr.add at S⊢
    split<;>split<;>simp_all
   rw[q,m,E,V];simp
  obtain⟨l,l1,l2⟩:=Xs len key;refine⟨l,⟨some a,len,J,rfl,l1.symm,hl,?_,(fun h=>by cases h),fun g=> ?_⟩,rfl,?_,?_⟩;have:=MK (cw.map (·.1));simp at this;omega;have hz:0<l.length:=List.length_pos_iff.2 g;obtain⟨blk,q1,q2,_⟩:=(l2 0 l[0] (jr hz)).1;refine⟨a.block,a.off,blk,?_,q1,fun i y Z=> ?_⟩;rcases a with⟨b,o,s⟩;simp only at q2;subst q2;rfl;obtain⟨blk',q3,_,q4⟩:=(l2 i y Z).1;rw[q1] at q3;simp at q3;subst q3;exact q4;simp only[Rows.uptoBulk];have:=MK (cw.map (·.1));simp at this;omega;intro y Z;obtain⟨i,hi⟩:=z6 Z;exact t.fits_mono (by simp only[Rows.uptoBulk];omega) _ (l2 i y hi).2;rename_i a b fs u;simp only[ji] at h;obtain⟨L,M⟩:=h;obtain⟨xs,n,_,rfl,A,Y,hf⟩:=DataW.trod_struct u B;simp only[Rows.uptoBulk] at r;obtain⟨y,y1,y2⟩:=AZ (fun T ty h=>sf d T ty h) (n:=n) (cs:=cs) fs.toList 0 (.pair a b) xs M (by simpa using Y) (fun i f hi=>hf i f (by simpa using hi)) (by omega);refine⟨y,by simpa using y1,by rw[A];exact jb L,?_⟩;exact Ty.fits_mono (by simp only[Rows.uptoBulk];omega) (.pair a b) _ y2;cases h
end
end Go.X
namespace Go.X
open U
open Go.RowKit (Below)
open Go.ChangeShapes Go.WideShapes Go.ChangeAt Go.RowKit
open Go.Proofs.YtclaaimmhneipaaGreatDoor
def Jw (N:Nat):(ts:List Ty)->PD (ts.map Par.val)->Prop
 |[],_=>True
 |t::ts,d=>t.fits N d.1/\Jw N ts d.2
def Xt (ts:List Ty):wD:=⟨ts.map Par.val,[.bool],false,fun d=>[Jw 1048576 ts d],fun _=>(true,())⟩
def A0 (P:Program):List Nat->List Ty->Bool
 |[],[]=>true
 |T::Ts,t::ts=>jdj P 20 T t&&(P.readableRec T&&decide (T<P.types.size))&&A0 P Ts ts
 |_,_=>false
section
variable {P:Program} {K:Type} {enc:TypeId×Value->K} {W W':World}
theorem uq (j:laidOutB P=true) (i:Below W.heap.size W W'):∀(a:List Nat) (ts:List Ty) (vs:List Value) (ds:List (DataW K)) (ps:List MemPlace),A0 P a ts=true->
 DataW.TrodAll enc P W 0 (fun _=>true) true a vs ds ps->(∀x∈ps,x.block<W.heap.size)->DataW.TrodAll enc P W' 0 (fun b=>decide (b<W.heap.size)) true a vs ds ps
 |[],ts,vs,ds,ps,_,h,_=>by
  obtain⟨rfl,rfl,rfl⟩:=trodAll_nil h
  exact trodAll_mk0
 |T::a,[],vs,ds,ps,c,_,_=>by cases c
 |T::a,t::ts,vs,ds,ps,c,h,hlt=>by
  obtain⟨v,g,d,e,p,q,rfl,rfl,rfl,n,o⟩:=trodAll_cons h
  simp only[A0,ji] at c
  obtain⟨⟨_,k,l⟩,m⟩:=c
  exact trodAll_cons_mk (Below.trod j k (ja l) n i (fun x f=>hlt x (jh _ f)))
   (uq j i a ts g e q m o (fun x f=>hlt x (jg _ f)))
theorem jdl {T:Nat} {t:Ty} {r:Reach} {c:Nat} {v:Value} (h:jdj P 20 T t=true) (b:Value.okWide P W r c T v):vN v=t.agg:=by
 unfold jdj at h
 split at h
 rename_i a;obtain⟨n,rfl⟩:=okWide_int a b;rfl;rename_i a;obtain⟨n,rfl⟩:=okWide_bool a b;rfl;rename_i a;obtain⟨n,rfl⟩:=okWide_int a b;rfl;rename_i a;unfold Value.okWide at b;rw[a] at b;simp only[Cell.okWide,a] at b;cases v with
 |agg vs=>simp[Cell.ok,a] at b
 |_=>rfl
 rename_i a;unfold Value.okWide at b;rw[a] at b;obtain⟨cs,rfl,_⟩:=b;rfl;cases h
theorem jbL {r:Reach} {l:Nat}:∀(a:List Nat) (ts:List Ty) (vs:List Value) (ds:List (DataW K)) (ps:List MemPlace),A0 P a ts=true->
 DataW.TrodAll enc P W 0 (fun _=>true) true a vs ds ps->(∀(j:Nat) t v,a[j]? =some t->vs[j]? =some v->Value.okWide P W r l t v)->Rows.uptoBulkAll ds<=1048576->
 ∃d:PD (ts.map Par.val),pvs P (Hof W) (ts.map Par.val) vs d/\Jw 1048576 ts d
 |[],ts,vs,ds,ps,b,h,_,_=>by
  obtain⟨rfl,rfl,rfl⟩:=trodAll_nil h
  cases ts with
  |nil=>exact⟨(),rfl,trivial⟩
  |cons t ts=>cases b
 |T::a,[],vs,ds,ps,b,_,_,_=>by cases b
 |T::a,t::ts,vs,ds,ps,b,h,hv,hb=>by
  obtain⟨v,g,d,e,p,q,rfl,rfl,rfl,n,o⟩:=trodAll_cons h
  simp only[A0,ji] at b
  obtain⟨⟨k,_⟩,m⟩:=b
  simp only[Rows.uptoBulkAll] at hb
  obtain⟨c,s⟩:=n
  obtain⟨x,w,z,A⟩:=sf 20 T t k c _ _ s (by simp only;omega)
  obtain⟨y,B,C⟩:=jbL a ts g e q m o (fun j t v u f=>hv (j+1) t v (by simpa using u) (by simpa using f)) (by omega)
  refine⟨(x,y),⟨⟨jdl k (hv 0 T v rfl rfl),by simpa using z,?_⟩,B⟩,Ty.fits_mono (by simp only;omega) t x A,C⟩
  refine Ty.rd_congr t _ _ _ (fun i _=> ?_) w
  simp
theorem sg:∀(a:List Nat) (ts:List Ty) (vs:List Value) (ds:List (DataW K)) (ps:List MemPlace),A0 P a ts=true->DataW.TrodAll enc P W 0 (fun _=>true) true a vs ds ps->ds.length=ts.length:=by
 intro a
 induction a with
 |nil=>intro ts vs ds ps b h;obtain⟨rfl,rfl,rfl⟩:=trodAll_nil h;cases ts with|nil=>rfl|cons=>cases b
 |cons T a g=>intro ts vs ds ps b h;cases ts with
  |nil=>cases b
  |cons t ts=>
   obtain⟨v,e,d,c,p,q,rfl,rfl,rfl,i,f⟩:=trodAll_cons h;simp only[A0,ji] at b;simp[g ts e c q b.2 f]
theorem jbM {f:Nat} {fn:Func} {s:ChangeSpec} {ts:List Ty} (I:laidOutB P=true) (k:A0 P fn.params.toList ts=true) (L:fn.resultTypes= #[4]) (D:P.underlying 4=some .bool)
 (a:s.vars=[]) (m:∀(ds:List (DataW K)),ds.length=ts.length->s.fn K (ds++[])={results:=[.lit (.bool true)],args:=ds})
 (G:wN P f (Xt ts)) (base:Nat) (args:Array Value) (ds o:List (DataW K)) (before:List MemPlace)
 (l:∀(j:Nat) t v,fn.params[j]? =some t->args[j]? =some v->Value.okWide P W .any base t v)
 (w:DataW.Whole enc P fn.params.toList s.vars false W args.toList ds o before) (hk:Rows.uptoSmall K (ds++o)=true) (E:jcg (Hof W)):
 Calls P f args W fun e W'=>∃v,e= .returned v/\s.post enc P fn false true false false W args v W':=by
 have b:=w;obtain⟨p,q,i,u,rfl,H,J⟩:=w;rw[a] at u;obtain⟨rfl,rfl⟩:=trodVars_none u;simp only[jY] at b hk;have c:Rows.uptoBulkAll ds<=1048576:=ja hk;have g:∀(j:Nat) t v,fn.params.toList[j]? =some t->args.toList[j]? =some v->Value.okWide P W .any base t v:=fun j t v B C=>l j t v (by simpa using B) (by simpa using C)
 obtain⟨d,z,A⟩:=jbL fn.params.toList ts args.toList ds p k i g c;have y:=G.calls (Hof W) W args.toList d (jaj W E) z ⟨A,trivial⟩;simp only[Array.toArray_toList] at y;refine y.mono fun e W' F=> ?_
 obtain⟨v,H',rfl,r,M⟩:=F;have n:v= .bool true:=qJ M;subst n;refine⟨_,rfl,ds,[],p,[],p,[],b,?_,?_,?_,r.below.frame _,fun h=>by cases h⟩;rw[m ds ?_,L];exact trodAll_cons_mk (shut_bool D _) trodAll_mk0;exact sg _ _ _ _ _ k i;rw[m ds ?_];exact uq I r.below _ ts _ _ _ k i (fun x N=>by simpa using b.lt x N);exact sg _ _ _ _ _ k i;rw[a,m ds ?_];rfl;exact sg _ _ _ _ _ k i
end
end Go.X
namespace Go.X
open U
open Go.Proofs
namespace U
def jgv (p:PeD):Prop:=(lv p).length<=20/\(gF p).length<=30
def Ko (c:CrD):Prop:=(kI c).length<=20/\(yx c).length<=20/\∀p∈kI c,jgv p
def FJ (d:DyD):Prop:=Ko (kD d)/\(wG d).length<=20/\(kH d).length<=20/\(qG d).length<=60/\∀r∈wG d,r.length<=20
def NB (p:PeD):Bool:=decide (20<((lv p).length:Int))||decide (30<((gF p).length:Int))
def mo (c:CrD):Bool:=(decide (20<((kI c).length:Int))||decide (20<((yx c).length:Int)))||((kI c).any NB||(kZ c&&decide (5<((kI c).length:Int))))
def NC (r:List SpD):Bool:=decide (20<(r.length:Int))
def cU (d:DyD):Bool:=(((mo (kD d)||decide (20<((wG d).length:Int)))||decide (20<((kH d).length:Int)))||decide (60<((qG d).length:Int)))||(wG d).any NC
def Kp (d:DyD):Bool:=cU d||(decide (gx d=0)&&decide (12<((qG d).length:Int)))
def jgO:CrD:=(3,[([5,4,0],3,15,[],false,50,()),([0,5,3],3,15,[],true,40,()),([4,0,4],1,3,[7],false,30,()),([3,3,3],255,1,[],false,10,())],[(2,1,false,()),(4,2,false,()),(3,2,true,()),(5,1,false,())],())
def YW:List JbD:=[(0,2,7,1,2,1,()),(0,2,3,0,0,1,()),(0,2,7,1,1,1,())]
def CS:DyD:=(jgO,[[(0,0,()),(10,20,())],[(10,25,()),(0,0,())]],[((0,2,3,0,0,1,()),0,60,120,()),((0,2,3,1,0,1,()),1,150,200,()),((0,2,7,1,2,1,()),0,230,300,())],10,140,
 [(1,5,1,0,3,()),(2,6,1,1,3,()),(3,4,1,2,2,()),(4,7,1,2,0,()),(5,8,1,2,1,()),(6,9,1,0,2,()),(7,10,2,0,2,())],())
end U
def TL:wD:=⟨[.val tCr],[tCr],false,fun d=>[Ko d.1],fun d=>(d.1,())⟩
def TM:Ann:=fun r=>match r with
 |3=>some fun σ=>{X:=Nat,sl:=fun i=>[(4,.dat .int (i:Int))],ob:=fun i=>[(3,some (.box 25 false ((bx σ 3).set 1 (.own (bK 3 1) tPe)))),(bK 3 1,some (.row 126 tPe false .yes ((kI (gb tCr σ 1)).take i)))],inv:=fun i=>i<=(kI (gb tCr σ 1)).length,mu:=fun i=>(kI (gb tCr σ 1)).length-i}
 |_=>none
abbrev jhJ (d:CrD×Unit)(x:Nat):=(nth d.1.2.1 (x:Int).toNat)
def TN:Prop:=∀(d:CrD×Unit),Ko d.1->(0+d.1.2.2.1.length)*24<=140737488355328/\(∃(x:Nat),((0=(x:Int)/\True)/\(d.1.1=d.1.1/\True/\True/\True)/\List.take x (kI d.1)=[]/\True)/\x<=(kI d.1).length)/\∀(x:Nat),x<=(kI d.1).length->d.1.2.1.length<4611686018427387904->(decide ((x:Int)<d.1.2.1.length)=true->0<=(x:Int)/\(x:Int)<d.1.2.1.length/\(0+(jhJ d x).1.length)*8<=140737488355328/\(0+(jhJ d x).2.2.2.1.length)*8<=140737488355328/\((List.take x (kI d.1)).length+[([]++(jhJ d x).1,(jhJ d x).2.1,(jhJ d x).2.2.1,[]++(jhJ d x).2.2.2.1,(jhJ d x).q4)].length)*80<=140737488355328/\kU ((x:Int)+1)/\∃(a:Nat),(((x:Int)+1=(a:Int)/\True)/\(d.1.1=d.1.1/\True/\True/\True)/\List.take x (kI d.1)++[([]++(jhJ d x).1,(jhJ d x).2.1,(jhJ d x).2.2.1,[]++(jhJ d x).2.2.2.1,(jhJ d x).q4)]=List.take a (kI d.1)/\True)/\a<=(kI d.1).length/\(kI d.1).length-a<(kI d.1).length-x)/\(decide ((x:Int)<d.1.2.1.length)=false->((d.1.1,List.take x (kI d.1),[]++d.1.2.2.1,()),())=d)
def TO:wD:=⟨[.val tDy],[tDy],false,fun d=>[FJ d.1],fun d=>(d.1,())⟩
def TP:Ann:=fun r=>match r with
 |5=>some fun σ=>{X:=Nat,sl:=fun i=>[(4,.dat .int (i:Int))],ob:=fun i=>[(3,some (.box 30 false ((bx σ 3).set 3 (.own (bK 3 3) (.slice tSp))))),(bK 3 3,some (.row 102 (.slice tSp) false .yes ((wG (gb tDy σ 1)).take i)))],inv:=fun i=>i<=(wG (gb tDy σ 1)).length,mu:=fun i=>(wG (gb tDy σ 1)).length-i}
 |_=>none
abbrev jk5 (d:DyD×Unit):=(d.1.1.1=d.1.1.1/\d.1.1.2.1=d.1.1.2.1/\d.1.1.2.2.1=d.1.1.2.2.1/\True/\d.1.2.2.1=d.1.2.2.1/\d.1.2.2.2.1=d.1.2.2.2.1/\d.1.q4.1=d.1.q4.1/\d.1.q4.2.1=d.1.q4.2.1/\True)
def TQ:Prop:=∀(d:DyD×Unit),FJ d.1->Ko d.1.1/\(∃(x:Nat),((0=(x:Int)/\True)/\(jk5 d)/\List.take x (wG d.1)=[]/\True)/\x<=(wG d.1).length)/\∀(x:Nat),x<=(wG d.1).length->d.1.2.1.length<4611686018427387904->(decide ((x:Int)<d.1.2.1.length)=true->0<=(x:Int)/\(x:Int)<d.1.2.1.length/\(0+(nth d.1.2.1 (x:Int).toNat).length)*16<=140737488355328/\((List.take x (wG d.1)).length+[[]++nth d.1.2.1 (x:Int).toNat].length)*24<=140737488355328/\kU ((x:Int)+1)/\∃(a:Nat),(((x:Int)+1=(a:Int)/\True)/\(jk5 d)/\List.take x (wG d.1)++[[]++nth d.1.2.1 (x:Int).toNat]=List.take a (wG d.1)/\True)/\a<=(wG d.1).length/\(wG d.1).length-a<(wG d.1).length-x)/\(decide ((x:Int)<d.1.2.1.length)=false->(0+d.1.2.2.1.length)*72<=140737488355328/\(0+d.1.q4.2.1.length)*40<=140737488355328/\((d.1.1,List.take x (wG d.1),[]++d.1.2.2.1,d.1.2.2.2.1,d.1.q4.1,[]++d.1.q4.2.1,()),())=d)
def Xu:wD:=⟨[.val tCr],[.bool],false,fun _=>[],fun d=>(mo d.1,())⟩
def Xv:Ann:=fun r=>match r with
 |4=>some fun σ=>{X:=Nat,sl:=fun i=>[(3,.dat .int (i:Int))],ob:=fun _=>[],inv:=fun i=>i<=(kI (gb tCr σ 1)).length/\∀j:Nat,j<i->NB (nth (kI (gb tCr σ 1)) j)=false,mu:=fun i=>(kI (gb tCr σ 1)).length-i}
 |_=>none
abbrev jjM (d:CrD×Unit)(x:Nat):=((20:Int)<(nth d.1.2.1 (x:Int).toNat).1.length)
abbrev jiA (d:CrD×Unit):=(d.1.2.1.length:Int)
abbrev jk6 (d:CrD×Unit)(x:Nat):=(decide (jjM d x)||decide ((30:Int)<(nth d.1.2.1 (x:Int).toNat).2.2.2.1.length))
abbrev jk7 (d:CrD×Unit):=(decide (20<(jiA d))||decide (20<(d.1.2.2.1.length:Int)))
def Xw:Prop:=∀(d:CrD×Unit),d.1.2.1.length<4611686018427387904->((!decide (20<(jiA d)))=true->d.1.2.2.1.length<4611686018427387904)->((jk7 d)=true->(true,())=(mo d.1,()))/\((jk7 d)=false->(∃(x:Nat),((0=(x:Int)/\True)/\True)/\x<=(kI d.1).length/\∀(j:Nat),j<x->NB (nth (kI d.1) j)=false)/\∀(x:Nat),(x<=(kI d.1).length/\∀(j:Nat),j<x->NB (nth (kI d.1) j)=false)->d.1.2.1.length<4611686018427387904->(decide ((x:Int)<(jiA d))=true->0<=(x:Int)/\(x:Int)<(jiA d)/\((nth d.1.2.1 (x:Int).toNat).1.length<4611686018427387904->((!decide (jjM d x))=true->0<=(x:Int))/\((!decide (jjM d x))=true->(x:Int)<(jiA d))/\(((!decide (jjM d x))=true->(nth d.1.2.1 (x:Int).toNat).2.2.2.1.length<4611686018427387904)->((jk6 d x)=true->(true,())=(mo d.1,()))/\((jk6 d x)=false->kU ((x:Int)+1)/\∃(a:Nat),(((x:Int)+1=(a:Int)/\True)/\True)/\(a<=(kI d.1).length/\∀(j:Nat),j<a->NB (nth (kI d.1) j)=false)/\(kI d.1).length-a<(kI d.1).length-x))))/\(decide ((x:Int)<(jiA d))=false->(kZ d.1=true->d.1.2.1.length<4611686018427387904)->(kZ d.1&&decide (5<(jiA d)),())=(mo d.1,())))
def TR:wD:=⟨[.val tDy],[.bool],false,fun _=>[],fun d=>(cU d.1,())⟩
def TS:Ann:=fun r=>match r with
 |4=>some fun σ=>{X:=Nat,sl:=fun i=>[(3,.dat .int (i:Int))],ob:=fun _=>[],inv:=fun i=>i<=(wG (gb tDy σ 1)).length/\∀j:Nat,j<i->NC (nth (wG (gb tDy σ 1)) j)=false,mu:=fun i=>(wG (gb tDy σ 1)).length-i}
 |_=>none
abbrev jiY (d:DyD×Unit):=(d.1.2.1.length:Int)
abbrev jk8 (d:DyD×Unit):=(mo d.1.1||decide (20<(jiY d))||decide (20<(d.1.2.2.1.length:Int))||decide (60<(d.1.q4.2.1.length:Int)))
def TT:Prop:=∀(d:DyD×Unit),((!mo d.1.1)=true->d.1.2.1.length<4611686018427387904)->((!(mo d.1.1||decide (20<(jiY d))))=true->d.1.2.2.1.length<4611686018427387904)->((!(mo d.1.1||decide (20<(jiY d))||decide (20<(d.1.2.2.1.length:Int))))=true->d.1.q4.2.1.length<4611686018427387904)->((jk8 d)=true->(true,())=(cU d.1,()))/\((jk8 d)=false->(∃(x:Nat),((0=(x:Int)/\True)/\True)/\x<=(wG d.1).length/\∀(j:Nat),j<x->NC (nth (wG d.1) j)=false)/\∀(x:Nat),(x<=(wG d.1).length/\∀(j:Nat),j<x->NC (nth (wG d.1) j)=false)->d.1.2.1.length<4611686018427387904->(decide ((x:Int)<(jiY d))=true->0<=(x:Int)/\(x:Int)<(jiY d)/\((nth d.1.2.1 (x:Int).toNat).length<4611686018427387904->(decide ((20:Int)<(nth d.1.2.1 (x:Int).toNat).length)=true->(true,())=(cU d.1,()))/\(decide ((20:Int)<(nth d.1.2.1 (x:Int).toNat).length)=false->kU ((x:Int)+1)/\∃(a:Nat),(((x:Int)+1=(a:Int)/\True)/\True)/\(a<=(wG d.1).length/\∀(j:Nat),j<a->NC (nth (wG d.1) j)=false)/\(wG d.1).length-a<(wG d.1).length-x)))/\(decide ((x:Int)<(jiY d))=false->(false,())=(cU d.1,())))
def Xx:wD:=⟨[.val tDy],[.bool],false,fun _=>[],fun d=>(Kp d.1,())⟩
def Xy:Prop:=∀(d:DyD×Unit),((!cU d.1)=true->(kH d.1).length<=1000000)/\(((!cU d.1&&decide (gx d.1=0))=true->d.1.q4.2.1.length<4611686018427387904)->(cU d.1||decide (gx d.1=0)&&decide (12<(d.1.q4.2.1.length:Int)),())=(Kp d.1,()))
def TU:wD:=⟨[.val .int,.val .int],[tSp],false,fun _=>[],fun d=>((d.1,d.2.1,()),())⟩
def TV:Prop:=∀(d:Int×Int×Unit),(d,())=(d,())
def Jx:wD:=⟨[],[tCr,.slice tJb],false,fun _=>[],fun _=>(jgO,YW,())⟩
def Jy:Prop:=∀(_:Unit),(((3:Int),[([(5:Int),(4:Int),(0:Int)],(3:Int),(15:Int),[],false,(50:Int),()),([(0:Int),(5:Int),(3:Int)],(3:Int),(15:Int),[],true,(40:Int),()),([(4:Int),(0:Int),(4:Int)],(1:Int),(3:Int),[(7:Int)],false,(30:Int),()),([(3:Int),(3:Int),(3:Int)],(255:Int),(1:Int),[],false,(10:Int),())],[((2:Int),(1:Int),false,()),((4:Int),(2:Int),false,()),((3:Int),(2:Int),true,()),((5:Int),(1:Int),false,())],()),[((0:Int),(2:Int),(7:Int),(1:Int),(2:Int),(1:Int),()),((0:Int),(2:Int),(3:Int),(0:Int),(0:Int),(1:Int),()),((0:Int),(2:Int),(7:Int),(1:Int),(1:Int),(1:Int),())],())=(jgO,YW,())
def Jz:wD:=⟨[],[tDy],false,fun _=>[],fun _=>(CS,())⟩
abbrev jjN:=(nth YW (Int.toNat 1))
def JA:Prop:=∀(_:Unit),(0:Int)<=1/\1<(YW.length:Int)/\(0:Int)<=1/\1<(YW.length:Int)/\(0:Int)<=0/\0<(YW.length:Int)/\((jgO,[[((0:Int),(0:Int),()),((10:Int),(20:Int),())],[((10:Int),(25:Int),()),((0:Int),(0:Int),())]],[(nth YW (Int.toNat 1),(0:Int),(60:Int),(120:Int),()),((jjN.1,jjN.2.1,jjN.2.2.1,(1:Int),jjN.q4),(1:Int),(150:Int),(200:Int),()),(nth YW (Int.toNat 0),(0:Int),(230:Int),(300:Int),())],(10:Int),(140:Int),[((1:Int),(5:Int),(1:Int),(0:Int),(3:Int),()),((2:Int),(6:Int),(1:Int),(1:Int),(3:Int),()),((3:Int),(4:Int),(1:Int),(2:Int),(2:Int),()),((4:Int),(7:Int),(1:Int),(2:Int),(0:Int),()),((5:Int),(8:Int),(1:Int),(2:Int),(1:Int),()),((6:Int),(9:Int),(1:Int),(0:Int),(2:Int),()),((7:Int),(10:Int),(2:Int),(0:Int),(2:Int),())],()),())=(CS,())
theorem Xz:TN:=by
 unfold TN jhJ Prod.q4;rintro⟨c,⟨⟩⟩ g;obtain⟨m,j,a⟩:Ko c:=g;refine⟨by show(0+(yx c).length)*24<=140737488355328;omega,⟨0,⟨⟨rfl,tZ⟩,⟨rfl,tZ,tZ,tZ⟩,rfl,tZ⟩,jt _⟩,fun x f _=>⟨fun h=> ?_,fun h=> ?_⟩⟩;have h:(x:Int)<(kI c).length:=ja h;have k:=L.kT (l:=kI c) (i:=x) (by omega);obtain⟨s1,s2⟩:=a _ (L.kJ (l:=kI c) (i:=x) (by omega));have d:((kI c).take x).length<=20:=(by rw[j0];omega);refine⟨jQ _,h,by show(0+(U.lv (nth (kI c) x)).length)*8<=140737488355328;omega,by show(0+(gF (nth (kI c) x)).length)*8<=140737488355328;omega,by show(((kI c).take x).length+1)*80<=140737488355328;omega,iZ6,x+1,⟨⟨by simp,tZ⟩,⟨rfl,tZ,tZ,tZ⟩,k.symm,tZ⟩,by show x+1<=(kI c).length;omega,by show(kI c).length-(x+1)<(kI c).length-x;omega⟩;have h:¬(x:Int)<(kI c).length:=je h;have f:x<=(kI c).length:=f;have b:x=(kI c).length:=(by omega);subst b;have e:(kI c).take (kI c).length=kI c:=zm;show((c.1,(kI c).take (kI c).length,c.2.2.1,()),())=(c,());rw[e];rfl
theorem TW:wN PR 47 TL:=vZ TM Xz Tryz.func47 kcN koN
theorem XA:TQ:=by
 unfold TQ jk5 Prod.q4;rintro⟨d,⟨⟩⟩ g;obtain⟨k,o,j,n,a⟩:FJ d:=g;refine⟨k,⟨0,⟨⟨rfl,tZ⟩,⟨rfl,rfl,rfl,tZ,rfl,rfl,rfl,rfl,tZ⟩,rfl,tZ⟩,jt _⟩,fun x f _=>⟨fun h=> ?_,fun h=> ?_⟩⟩;have h:(x:Int)<(wG d).length:=ja h;have m:=L.kT (l:=wG d) (i:=x) (by omega);have p:=a _ (L.kJ (l:=wG d) (i:=x) (by omega));have c:((wG d).take x).length<=20:=(by rw[j0];omega);refine⟨jQ _,h,by show(0+(nth (wG d) x).length)*16<=140737488355328;omega,by show(((wG d).take x).length+1)*24<=140737488355328;omega,iZ6,x+1,⟨⟨by simp,tZ⟩,⟨rfl,rfl,rfl,tZ,rfl,rfl,rfl,rfl,tZ⟩,m.symm,tZ⟩,by show x+1<=(wG d).length;omega,by show(wG d).length-(x+1)<(wG d).length-x;omega⟩;have h:¬(x:Int)<(wG d).length:=je h;have f:x<=(wG d).length:=f;have b:x=(wG d).length:=(by omega);subst b;have e:(wG d).take (wG d).length=wG d:=zm;refine⟨by show(0+(kH d).length)*72<=140737488355328;omega,by show(0+(qG d).length)*40<=140737488355328;omega,?_⟩;show((kD d,(wG d).take (wG d).length,kH d,Nq d,R9 d,qG d,()),())=(d,());rw[e];rfl
theorem TX:wN PR 23 TO:=vZ TP XA Tryz.func23 (kcC TW kcN) koN
theorem jak:Xw:=by
 unfold Xw jk7 jk6 jiA jjM;rintro⟨c,⟨⟩⟩ _ _;refine⟨fun h=> ?_,fun h=>⟨⟨0,⟨⟨rfl,tZ⟩,tZ⟩,jt _,fun j g=>by omega⟩,fun x f d=>⟨fun a=>⟨jQ _,ja a,fun _=>⟨fun _=>jQ _,fun _=>ja a,fun _=>⟨fun b=> ?_,fun b=> ?_⟩⟩⟩,fun a _=> ?_⟩⟩⟩;have h:(decide (20<((kI c).length:Int))||decide (20<((yx c).length:Int)))=true:=h;show(true,())=(mo c,());unfold mo;rw[h];rfl;have b:NB (nth (kI c) x)=true:=b;have a:(x:Int)<(kI c).length:=ja a;have:(kI c).any NB=true:=zh.2 ⟨_,L.kJ (l:=kI c) (i:=x) (by omega),b⟩;show(true,())=(mo c,());unfold mo;rw[this,Bool.true_or,Bool.or_true];have b:NB (nth (kI c) x)=false:=b;have a:(x:Int)<(kI c).length:=ja a;have d:(kI c).length<4611686018427387904:=d;refine⟨iZ6,x+1,⟨⟨by simp,tZ⟩,tZ⟩,⟨by show x+1<=(kI c).length;omega,fun j g=> ?_⟩,by show(kI c).length-(x+1)<(kI c).length-x;omega⟩;by_cases e:j=x;subst e;exact b;exact f.2 j (by omega);have h:(decide (20<((kI c).length:Int))||decide (20<((yx c).length:Int)))=false:=h;have a:¬(x:Int)<(kI c).length:=je a;have:(kI c).any NB=false:=zu.2 fun p k=>by
  obtain⟨i,hi,rfl⟩:=L.mem_iff.1 k;rw[f.2 i (by omega)];simp
 show(kZ c&&decide (5<((kI c).length:Int)),())=(mo c,());unfold mo;rw[h,this,Bool.false_or,Bool.false_or]
theorem XB:wN PR 61 Xu:=vZ Xv jak Tryz.func61 (kcC AY kcN) koN
theorem XC:TT:=by
 unfold TT jk8 jiY Prod.q4;rintro⟨d,⟨⟩⟩ _ _ _;refine⟨fun h=> ?_,fun h=>⟨⟨0,⟨⟨rfl,tZ⟩,tZ⟩,jt _,fun j g=>by omega⟩,fun x f c=>⟨fun a=>⟨jQ _,ja a,fun _=>⟨fun b=> ?_,fun b=> ?_⟩⟩,fun a=> ?_⟩⟩⟩;have h:(((mo (kD d)||decide (20<((wG d).length:Int)))||decide (20<((kH d).length:Int)))||decide (60<((qG d).length:Int)))=true:=h;show(true,())=(cU d,());unfold cU;rw[h];rfl;have b:NC (nth (wG d) x)=true:=b;have a:(x:Int)<(wG d).length:=ja a;have:(wG d).any NC=true:=zh.2 ⟨_,L.kJ (l:=wG d) (i:=x) (by omega),b⟩;show(true,())=(cU d,());unfold cU;rw[this,Bool.or_true];have b:NC (nth (wG d) x)=false:=b;have a:(x:Int)<(wG d).length:=ja a;have c:(wG d).length<4611686018427387904:=c;refine⟨iZ6,x+1,⟨⟨by simp,tZ⟩,tZ⟩,⟨by show x+1<=(wG d).length;omega,fun j g=> ?_⟩,by show(wG d).length-(x+1)<(wG d).length-x;omega⟩;by_cases e:j=x;subst e;exact b;exact f.2 j (by omega);have h:(((mo (kD d)||decide (20<((wG d).length:Int)))||decide (20<((kH d).length:Int)))||decide (60<((qG d).length:Int)))=false:=h;have a:¬(x:Int)<(wG d).length:=je a;have:(wG d).any NC=false:=zu.2 fun p k=>by
  obtain⟨i,hi,rfl⟩:=L.mem_iff.1 k;rw[f.2 i (by omega)];simp
 show(false,())=(cU d,());unfold cU;rw[h,this];rfl
theorem TY:wN PR 31 TR:=vZ TS XC Tryz.func31 (kcC XB kcN) koN
theorem XD {c:CrD} (h:mo c=false):Ko c:=by
 unfold mo at h;rw[jS,jS,jS,jI] at h;have b:=je h.1.2;refine⟨by have:=h.1.1;omega,by omega,fun p a=> ?_⟩;have:=zu.1 h.2.1 p a;unfold NB at this;rw[zG,decide_eq_true_iff,decide_eq_true_iff] at this;unfold jgv;omega
theorem HV {d:DyD} (h:cU d=false):FJ d:=by
 unfold cU at h;rw[jS,jS,jS,jS] at h;obtain⟨⟨⟨⟨e,a⟩,b⟩,c⟩,f⟩:=h;have a:=je a;have b:=je b;have c:=je c;refine⟨XD e,by omega,by omega,by omega,fun r g=> ?_⟩;have:=zu.1 f r g;unfold NC at this;rw[decide_eq_true_iff] at this;omega
theorem jal:Xy:=by
 unfold Xy Prod.q4;rintro⟨d,⟨⟩⟩;refine⟨fun h=> ?_,fun _=>rfl⟩;have h:(!cU d)=true:=h;rw[jV] at h;have:=(HV h).2.2.1;show(kH d).length<=1000000;omega
theorem XE:wN PR 14 Xx:=wt jal Tryz.func14 (kcC TY (kcC sd kcN)) koN
theorem XF:TV:=fun _=>rfl
theorem TZ:wN PR 39 TU:=wt XF Tryz.func39 kcN koN
theorem ML:Jy:=fun _=>rfl
theorem JB:wN PR 38 Jx:=wt ML Tryz.func38 kcN koN
theorem MM:JA:=by
 unfold JA jjN Prod.q4;intro _;refine⟨by decide,by decide,by decide,by decide,by decide,by decide,rfl⟩
theorem ur:wN PR 17 Jz:=wt MM Tryz.func17 (kcC JB (kcC TZ kcN)) koN
theorem jam {d:DyD} (h:Kp d=false):FJ d:=by
 unfold Kp at h;rw[jS] at h;exact HV h.1
namespace U
def jfT (d:DyD) (t:List Int) (b:Nat):Bool:=b8 (kD d) (yY (nth (kH d) b)) (nth t b)
def jfU (d:DyD) (t:List Int) (p:Nat):Bool:=vl d (p:Int) (on t (p:Int))
def yE (d:DyD) (t:List Int):Bool:=(List.range t.length).all (jfT d t)&&(List.range (kI (kD d)).length).all (jfU d t)
def sx (d:DyD) (t:List Int) (n:Nat):Int:=(List.range n).foldl (fun s b=>s+NA (kD d) (nth t b)) 0
def vq (d:DyD) (t:List Int):Int:=sx d t t.length
def b9 (d:DyD):Nat->List Int->List (List Int)
 |0,_=>[]
 |k+1,t=>if yE d t=true then(if t.length=(kH d).length then[t] else(List.range (2^(kI (kD d)).length-1)).flatMap (fun(i:Nat)=>b9 d k (t++[(i:Int)+1]))) else[]
def jbX (d:DyD) (k:Nat) (t:List Int) (n:Nat):List (List Int):=(List.range n).flatMap (fun(i:Nat)=>b9 d k (t++[(i:Int)+1]))
def yh (d:DyD) (l:List (List Int)) (n:Nat):List Int×Int:=(List.range n).foldl (fun x i=>if vq d (nth l i)<x.2 then(nth l i,vq d (nth l i)) else x) (nth l 0,vq d (nth l 0))
def ND (d:DyD):List (List Int):=b9 d 5 []
def jd3 (d:DyD):Int:=if gx d=0 then(if(ND d).length=0 then 3 else 0) else gx d
def jgw (d:DyD):List Int:=if jd3 d=0 then(yh d (ND d) (ND d).length).1 else[]
def jgx (d:DyD):Int:=if jd3 d=0 then(yh d (ND d) (ND d).length).2 else 0
def NE (d:DyD):Bool:=decide (gx d=0)&&(decide (4<((kI (kD d)).length:Int))||decide (3<((kH d).length:Int)))
end U
def JC:wD:=⟨[.val tDy],[.bool],false,fun d=>[(kH d.1).length<=1000000],fun d=>(NE d.1,())⟩
def JD:Prop:=∀(d:DyD×Unit),(kH d.1).length<=1000000->(kH d.1).length<=1000000/\((decide (gx d.1=0)=true->d.1.1.2.1.length<4611686018427387904)->((decide (gx d.1=0)&& !decide (4<(d.1.1.2.1.length:Int)))=true->d.1.2.2.1.length<4611686018427387904)->(decide (gx d.1=0)&&(decide (4<(d.1.1.2.1.length:Int))||decide (3<(d.1.2.2.1.length:Int))),())=(NE d.1,()))
section
attribute [local irreducible] yE b8 vl U.on GX jfR
end
theorem T3 {c:CrD} (h:kZ c=true) (t:Int):0<=NA c t/\NA c t<=8000:=by
 have b:(kI c).length<=8:=(wI h).2.2.1;have:∀n,n<=(kI c).length->0<=eG c t n/\eG c t n<=1000*(n:Int):=by
  intro n
  induction n with
  |zero=>intro _;show(0:Int)<=0/\(0:Int)<=_;omega
  |succ n a=>
   intro f;have a:=a (by omega);have d:=Jn h (i:=n) (by omega);have e:eG c t (n+1)=if wH t (n:Int)=true then eG c t n+U.fe (nth (kI c) n) else eG c t n:=by
    unfold eG;rw[jN,jz];rfl
   rw[e]
   split<;>omega
 have:=this _ (jj _);unfold NA;omega
theorem si (d:DyD) (t:List Int) (n:Nat):sx d t (n+1)=sx d t n+NA (kD d) (nth t n):=by
 unfold sx;rw[jN,jz];rfl
section
attribute [local irreducible] sx NA
theorem A1 (d:DyD) (t:List Int):sx d t 0=0:=by unfold sx;rfl
end
theorem Aa (d:DyD) (k:Nat) (t:List Int):b9 d (k+1) t=if yE d t=true then(if t.length=(kH d).length then[t] else jbX d k t (2^(kI (kD d)).length-1)) else[]:=rfl
section
attribute [local irreducible] b9 jbX yE GX jfR
end
theorem E8 (d:DyD) (l:List (List Int)) (n:Nat):yh d l (n+1)=if vq d (nth l n)<(yh d l n).2 then(nth l n,vq d (nth l n)) else yh d l n:=by
 unfold yh;rw[jN,jz];rfl
theorem PX (d:DyD) (l:List (List Int)):yh d l 0=(nth l 0,vq d (nth l 0)):=rfl
section
attribute [local irreducible] b9 yh vq gx jgw jgx jd3 GX
end
theorem MN:JD:=by
 rintro⟨d,⟨⟩⟩ a;exact⟨a,fun _ _=>rfl⟩
theorem JE:wN PR 6 JC:=wt MN Tryz.func6 (kcC sd kcN) koN
end Go.X
namespace Go.X
open U
def upd (d:DyD) (x:List Int×Int×Bool) (l:List Int):List Int×Int×Bool:=if(x.2.2&&decide (x.2.1<=vq d l))=true then x else(l,vq d l,true)
theorem RM (d:DyD) (l:List (List Int)):∀n,n<=l.length->0<n->(l.take n).foldl (upd d) (U.noI,0,false)=((yh d l n).1,(yh d l n).2,true)
 |0,_,h=>absurd h (by omega)
 |1,b,_=>by
  rw[L.kT (by omega),jz]
  have a:yh d l 1=(nth l 0,vq d (nth l 0)):=by
   rw[E8,PX];show(if vq d (nth l 0)<vq d (nth l 0) then _ else _)=_;rw[jc (by omega)]
  rw[a];rfl
 |n+2,b,_=>by
  have e:=RM d l (n+1) (by omega) (by omega);have c:yh d l (n+2)=if vq d (nth l (n+1))<(yh d l (n+1)).2 then(nth l (n+1),vq d (nth l (n+1))) else yh d l (n+1):=E8 d l (n+1);rw[L.kT (by omega),jz,e,c];generalize yh d l (n+1)=B;show upd d (B.1,B.2,true) (nth l (n+1))=_;unfold upd;by_cases h:vq d (nth l (n+1))<B.2;rw[jd h,jc (by simp;omega)];rw[jc h,jd (by simp;omega)]
theorem ut {a b:List Int} {i:Nat} (h:i<a.length):nth (a++b) i=nth a i:=by
 rw[L.wz (by rw[jK];omega),L.wz h,List.getElem_append_left h]
theorem JF (a:List Int) (x:Int):nth (a++[x]) a.length=x:=by
 rw[L.wz (by simp)];simp
theorem jan (d:DyD):vq d []=0:=rfl
theorem PY (d:DyD) (a b:List Int) (n:Nat) (e:n<=a.length):sx d (a++b) n=sx d a n:=by
 induction n with
 |zero=>rw[A1,A1]
 |succ n c=>rw[si,si,c (by omega),ut (by omega)]
theorem MO (d:DyD) (a:List Int) (x:Int):vq d (a++[x])=vq d a+NA (kD d) x:=by
 unfold vq;have:(a++[x]).length=a.length+1:=(by simp);rw[this,si,PY d a [x] _ (jj _),JF]
theorem jao {d:DyD} (h:kZ (kD d)=true) (a:List Int):∀b:List Int,vq d a<=vq d (a++b):=by
 intro b
 induction b generalizing a with
 |nil=>rw[jY];exact zo _
 |cons x b c=>
  have e:a++x::b=(a++[x])++b:=(by simp);have f:=c (a++[x]);have g:=MO d a x;have i:=T3 h x;rw[e];omega
theorem uu {d:DyD}:∀(k:Nat) (t:List Int),∀l∈b9 d k t,∃s,l=t++s
 |0,_,l,h=>by cases h
 |k+1,t,l,h=>by
  have h:l∈(if yE d t=true then(if t.length=(kH d).length then[t] else(List.range (2^(kI (kD d)).length-1)).flatMap (fun(i:Nat)=>b9 d k (t++[(i:Int)+1]))) else[]):=h
  split at h
  split at h
  simp at h;subst h;exact⟨[],by simp⟩
  obtain⟨i,_,h⟩:=List.mem_flatMap.1 h
  obtain⟨s,a⟩:=uu k _ l h
  exact⟨((i:Int)+1)::s,by rw[a];simp⟩
  cases h
theorem RN {d:DyD} {x:List Int×Int×Bool}:∀l:List (List Int),(∀t∈l,(x.2.2&&decide (x.2.1<=vq d t))=true)->l.foldl (upd d) x=x
 |[],_=>rfl
 |t::r,h=>by
  have e:upd d x t=x:=by unfold upd;rw[jd (h t (by simp))]
  show r.foldl (upd d) (upd d x t)=x
  rw[e]
  exact RN r fun t a=>h t (jl _ a)
theorem jeZ {ts t:List Int} {p:Int} {n:Nat} (h:ts.take n=t) (b:n<=ts.length):vV ts p n=U.on t p:=by
 have a:t.length=n:=(by rw[<-h,j0];omega);unfold vV U.on QC;rw[a];congr 1;refine List.filter_congr fun i hi=> ?_
 have hi:=jp.1 hi;have e:nth t i=nth ts i:=(by rw[<-h];exact L.nth_take hi);rw[e];rfl
theorem jdm {d:DyD} (h:wj d=0) {p:Int} (e:Sb d p) {t:List Int} (f:t.length<=(kH d).length):ij (gS d) p (U.on t p)=vl d p (U.on t p):=by
 have a:=(wL h).1;show Ci d (qN d (kH d).length) p (U.on t p)=_;refine Jt (CM _ _) fun b c=>E2 a ?_ e
 have:=jbH c;exact⟨this.1,by omega⟩
theorem HW {d:DyD} {t:List Int} (a:yE d t=true) (s:Int):yE d (t++[s])=(b8 (kD d) (yY (nth (kH d) t.length)) s&&(List.range (kI (kD d)).length).all (jfU d (t++[s]))):=by
 unfold yE at a⊢;rw[ji,jR] at a;have c:(t++[s]).length=t.length+1:=(by simp);have e:(List.range (t++[s]).length).all (jfT d (t++[s]))=b8 (kD d) (yY (nth (kH d) t.length)) s:=by
  rw[c,jN,List.all_append];have b:(List.range t.length).all (jfT d (t++[s]))=true:=by
   rw[jR];intro i hi;have:=a.1 i hi;unfold jfT at this⊢;rw[ut (jp.1 hi)];exact this
  rw[b,km];show(jfT d (t++[s]) t.length&&true)=_;unfold jfT;rw[JF,Bool.and_true]
 rw[e]
theorem je0 {d:DyD} (h:wj d=0) {t:List Int} {s:Nat} (r:t.length<(kH d).length) (y:s<2^(kI (kD d)).length) (u:(List.range (kI (kD d)).length).all (jfU d (t++[(s:Int)]))=true):
 CX (s:Int) (nth (aN (gS d)) t.length)=0:=by
 have f:=(wL h).1;have z:=(rO f.1).2;have l:(s:Int)<2^(kI (kD d)).length:=(by rw[BT.cn];exact Int.ofNat_lt.2 y);have ss:BT.qH (s:Int):=(by unfold BT.qH;omega);have w:=fun q (x:q∈cZ (kD d) (yY (nth (kH d) t.length)))=>Pu f.1 x
 have o:nth (aN (gS d)) t.length=Ny (cZ (kD d) (yY (nth (kH d) t.length))):=RH r;have m:BT.qH (nth (aN (gS d)) t.length):=(by rw[o];exact(lk w _ (jj _)).1);refine BT.ext (BT.bandn_set ss m) BT.u7 fun p=> ?_
 rw[BT.has_bandn ss m,BT.n9];cases n:BT.FS (s:Int) p with
 |false=>rfl
 |true=>
  have k:p<(kI (kD d)).length:=BT.has_lt (by omega) l n;have i:=jR.1 u p (jp.2 k);have j:((t.length:Nat):Int)∈U.on (t++[(s:Int)]) (p:Int):=by
   unfold U.on QC;refine jG.2 ⟨t.length,jD.2 ⟨jp.2 (by simp),?_⟩,rfl⟩;show wH (nth (t++[(s:Int)]) t.length) (p:Int)=true;rw[JF,dM ss];exact n
  have g:gy (kD d) (yY (U.bk d (t.length:Int))) (p:Int)=true:=((oC d (p:Int) (CM _ _)).1 i).1 _ j;have a:=E2 f (b:=(t.length:Int)) (p:=(p:Int)) ⟨jQ _,by omega⟩ ⟨jQ _,by omega⟩;rw[g] at a;have c:¬bI (nth (qN d (kH d).length) t.length/2^p) 1=0:=je a;have e:=BT.bit_num m p;have e2:nth (aN (gS d)) t.length=nth (qN d (kH d).length) t.length:=rfl;rw[e2] at e⊢;rw[e] at c;cases v:BT.FS (nth (qN d (kH d).length) t.length) p with
  |true=>rfl
  |false=>rw[v] at c;exact absurd rfl c
theorem jdn {d:DyD} (h:wj d=0) {t ts:List Int} (r:yE d t=true) (m:t.length<(kH d).length) {s:Nat} (g:s<2^(kI (kD d)).length) (k:ts.take (t.length+1)=t++[(s:Int)]) (q:t.length+1<=ts.length):
 yE d (t++[(s:Int)])=(Kn (gS d) (t.length:Int) s&&gG (gS d) ts t.length (yr (gS d)).length):=by
 have l:=(wL h).1;have f:(s:Int)<2^(kI (kD d)).length:=(by rw[BT.cn];exact Int.ofNat_lt.2 g);have o:=Xr l (b:=(t.length:Int)) ⟨jQ _,by omega⟩ (t:=(s:Int)) (jQ _) f;have j:gG (gS d) ts t.length (yr (gS d)).length=(List.range (kI (kD d)).length).all (jfU d (t++[(s:Int)])):=by
  unfold gG;rw[(HR h).len];refine j8.2 ?_;rw[jR,jR];have:∀p∈List.range (kI (kD d)).length,ij (gS d) (p:Int) (vV ts (p:Int) (t.length+1))=jfU d (t++[(s:Int)]) p:=fun p a=>by
   rw[jeZ k q];exact jdm h ⟨jQ _,by have:=jp.1 a;omega⟩ (by simp;omega)
  exact⟨fun c p a=>(this p a)▸c p a,fun c p a=>(this p a).symm▸c p a⟩
 have i:pH (U.rd (gS d)) (t.length:Int) (s:Int)=b8 (kD d) (yY (nth (kH d) t.length)) (s:Int):=o;rw[HW r,j];unfold Kn;rw[i];cases n:(List.range (kI (kD d)).length).all (jfU d (t++[(s:Int)])) with
 |false=>rw[kh,kh]
 |true=>
  have:=je0 h m g n;have e:nth (aN (gS d)) ((t.length:Int)).toNat=nth (aN (gS d)) t.length:=rfl;rw[e,jH this,km]
theorem uv {l:List Int} {b:Nat} (v:Int):(l.set b v).take b=l.take b:=by
 rw[List.take_set_of_le (jj _)]
theorem JG {l:List Int} {b:Nat} (v:Int) (h:b<l.length):(l.set b v).take (b+1)=l.take b++[v]:=by
 rw[L.kT (by rw[zA];exact h),uv,L.wz (by rw[zA];exact h),List.getElem_set_self]
theorem jap {l:List Int} {b:Nat} {t:List Int} {v:Int} (h:l.take (b+1)=t++[v]) (a:t.length=b):l.take b=t:=by
 have e:=jP (List.take b) h;rw[List.take_take,Nat.min_eq_left (by omega),<-a,List.take_left] at e;rw[<-a];exact e
theorem Ab {d:DyD} {t:List Int} (h:yE d t=false):∀k,b9 d k t=[]
 |0=>rfl
 |k+1=>by rw[Aa,h,jc (by simp)]
section
attribute [local irreducible] b9 yE yG b8 vq ij vf vl
structure jdo (d:DyD) (t:List Int) (x:StD):Prop where
 len:x.1.length=(kH d).length
 pre:x.1.take t.length=t
theorem JH {d:DyD} (h:wj d=0) {ch:List (List Int)} {k:Nat} {t:List Int} {fee:Int} (u:yE d t=true) (n:t.length<(kH d).length) (a:fee=vq d t)
 (v:∀(i:List Int) (b:Int) (x:StD),yE d i=true->i.length=t.length+1->b=vq d i->jdo d i x->jdo d i (yG (gS d) ch k i.length b x)/\(yG (gS d) ch k i.length b x).2=(b9 d k i).foldl (upd d) x.2):
 ∀(L:List Nat) (x:StD),(∀s∈L,s<2^(kI (kD d)).length)->jdo d t x->
  jdo d t (((L.filter (Kn (gS d) (t.length:Int))).map (fun(s:Nat)=>(s:Int))).foldl (eD (gS d) ch k t.length fee) x)/\
  (((L.filter (Kn (gS d) (t.length:Int))).map (fun(s:Nat)=>(s:Int))).foldl (eD (gS d) ch k t.length fee) x).2=(L.flatMap (fun(s:Nat)=>b9 d k (t++[(s:Int)]))).foldl (upd d) x.2
 |[],x,_,m=>⟨m,rfl⟩
 |s::L,x,hL,m=>by
  have q:=hL s (by simp)
  have j:∀s∈L,s<2^(kI (kD d)).length:=fun s q=>hL s (jl _ q)
  have g:(x.1.set t.length (s:Int)).take (t.length+1)=t++[(s:Int)]:=by rw[JG _ (by rw[m.len];exact n),m.pre]
  have f:(x.1.set t.length (s:Int)).length=(kH d).length:=by rw[zA];exact m.len
  have l:=jdn h u n q (ts:=x.1.set t.length (s:Int)) g (by rw[f];omega)
  rw[List.flatMap_cons,jz]
  cases o:Kn (gS d) (t.length:Int) s with
  |false=>
   rw[o,Bool.false_and] at l
   rw[List.filter_cons_of_neg (by rw[o];simp),Ab l]
   exact JH h u n a v L x j m
  |true=>
   rw[o,km] at l
   rw[List.filter_cons_of_pos o,zg,List.foldl_cons]
   cases p:gG (gS d) (x.1.set t.length (s:Int)) t.length (yr (gS d)).length with
   |false=>
    rw[p] at l
    have e:eD (gS d) ch k t.length fee x (s:Int)=(x.1.set t.length (s:Int),x.2):=by unfold eD;rw[p,jc (by simp)]
    rw[Ab l,e]
    exact JH h u n a v L (x.1.set t.length (s:Int),x.2) j ⟨f,(uv _).trans m.pre⟩
   |true=>
    rw[p] at l
    have e:eD (gS d) ch k t.length fee x (s:Int)=yG (gS d) ch k (t.length+1) (fee+gn d (s:Int)) (x.1.set t.length (s:Int),x.2):=by
     unfold eD;rw[p,jd rfl];rfl
    have c:(t++[(s:Int)]).length=t.length+1:=(by simp);have ss:BT.qH (s:Int):=by
     have A:=(rO (wL h).1.1).2;have f:(s:Int)<2^(kI (kD d)).length:=(by rw[BT.cn];exact Int.ofNat_lt.2 q);unfold BT.qH;omega
    have z:fee+gn d (s:Int)=vq d (t++[(s:Int)]):=(by rw[MO,a,jeU ss]);have r:=v (t++[(s:Int)]) (fee+gn d (s:Int)) (x.1.set t.length (s:Int),x.2) l c z ⟨f,by rw[c];exact g⟩;rw[c] at r;rw[e];generalize B:yG (gS d) ch k (t.length+1) (fee+gn d (s:Int)) (x.1.set t.length (s:Int),x.2)=y at r⊢;have w:=JH h u n a v L y j ⟨r.1.len,jap (by have:=r.1.pre;rw[c] at this;exact this) rfl⟩;refine⟨w.1,?_⟩;rw[w.2,r.2]
end
theorem T4 (c:CrD) (j:JbD):b8 c j 0=false:=by unfold b8;rfl
theorem T6 {d:DyD} {t:List Int} (a:yE d t=true) (k:Nat):b9 d k (t++[((0:Nat):Int)])=[]:=by
 refine Ab ?_ k;rw[HW a];have e:((0:Nat):Int)=0:=rfl;rw[e,T4,Bool.false_and]
theorem T7 {d:DyD} {t:List Int} (a:yE d t=true) (k n:Nat):(List.range (n+1)).flatMap (fun(s:Nat)=>b9 d k (t++[(s:Int)]))=jbX d k t n:=by
 rw[List.range_succ_eq_map,List.flatMap_cons,T6 a,j6,List.flatMap_map];rfl
theorem jaq (r:RoD) {n b:Nat} (h:b<n):nth (vf r n) b=gp r (b:Int) (2^(kI (kD (U.rd r))).length):=by
 unfold vf;rw[L.wz (by simp;exact h)];simp
section
attribute [local irreducible] yE b8 vq ij vf vl gp
theorem XG {d:DyD} (h:wj d=0):∀(k:Nat) (t:List Int) (fee:Int) (x:StD),yE d t=true->t.length<=(kH d).length->(kH d).length<t.length+k->fee=vq d t->jdo d t x->
 jdo d t (yG (gS d) (vf (gS d) (kH d).length) k t.length fee x)/\(yG (gS d) (vf (gS d) (kH d).length) k t.length fee x).2=(b9 d k t).foldl (upd d) x.2
 |0,t,fee,x,_,v,j,_,_=>absurd j (by omega)
 |k+1,t,fee,x,i,v,j,a,c=>by
  have w:=(wL h).1.1
  by_cases b:(x.2.2.2&&decide (x.2.2.1<=fee))=true
  have e:yG (gS d) (vf (gS d) (kH d).length) (k+1) t.length fee x=x:=by
   show(if(x.2.2.2&&decide (x.2.2.1<=fee))=true then x else _)=x;rw[jd b]
  rw[e];refine⟨c,(RN _ fun l z=> ?_).symm⟩;obtain⟨s,rfl⟩:=uu _ _ _ z;have y:=jao w t s;rw[ji,decide_eq_true_iff] at b⊢;exact⟨b.1,by omega⟩;by_cases g:t.length=(kH d).length;have e:yG (gS d) (vf (gS d) (kH d).length) (k+1) t.length fee x=(x.1,x.1,fee,true):=by
   show(if(x.2.2.2&&decide (x.2.2.1<=fee))=true then x else if t.length=(kH d).length then(x.1,x.1,fee,true) else _)=_;rw[jc b,jd g]
  have u:x.1=t:=by
   have:=c.pre;rw[zp (by rw[c.len];omega)] at this;exact this
  rw[e,Aa,jd i,jd g];refine⟨⟨c.len,c.pre⟩,?_⟩;show(x.1,fee,true)=upd d x.2 t;unfold upd;rw[<-a,jc b,u];have m:t.length<(kH d).length:=(by omega);rw[EX (Bool.eq_false_iff.2 b) g,Aa,jd i,jc g];unfold kW;rw[zp (jj _),jaq _ m];have C:gp (gS d) (t.length:Int) (2^(kI (kD (U.rd (gS d)))).length)=((List.range (2^(kI (kD d)).length)).filter (Kn (gS d) (t.length:Int))).map (fun(s:Nat)=>(s:Int)):=(by unfold gp;rfl);rw[C];have r:=JH h (ch:=vf (gS d) (kH d).length) (k:=k) i m a (fun E f F o G p q=>XG h k E f F o (by omega) (by omega) p q) (List.range (2^(kI (kD d)).length)) x (fun s D=>jp.1 D) c;refine⟨r.1,?_⟩;rw[r.2];have B:0<2^(kI (kD d)).length:=Nat.pow_pos (by decide);obtain⟨n,A⟩:∃n,2^(kI (kD d)).length=n+1:=⟨_,(Nat.succ_pred_eq_of_pos B).symm⟩;rw[A,T7 i];rfl
theorem XH {d:DyD} (h:GX d):yE d []=true:=by
 unfold yE;rw[ji,jR,jR];refine⟨fun i hi=> ?_,fun p _=> ?_⟩;cases hi;have a:=qv h.2.2;show vl d (p:Int) []=true;unfold vl;have:(0:Int)<=R9 d:=(by omega);show(true&&(true&&decide ((0:Int)<=R9 d)))=true;rw[jH this];rfl
end
end Go.X
namespace Go.X
open U
open Go.Proofs
section
attribute [local irreducible] b9 yE yG vq vf yh
theorem XI (d:DyD):jdo d [] (List.replicate (kH d).length 0,U.noI,0,false):=⟨jW ..,rfl⟩
theorem jbN {d:DyD} (h:wj d=0):(jel d).2=(ND d).foldl (upd d) (U.noI,0,false):=by
 have a:=(wL h).1;have b:(kH d).length<=4:=(qv a.2.2).1;exact(XG h 5 [] 0 _ (XH a) (jt _) (by simp;omega) (jan d).symm (XI d)).2
theorem jar {d:DyD} (h:wj d=0) (a:(ND d).length=0):(jel d).2=(U.noI,0,false):=by
 rw[jbN h,List.length_eq_zero_iff.1 a];rfl
theorem JI {d:DyD} (h:wj d=0) (a:¬(ND d).length=0):(jel d).2=((yh d (ND d) (ND d).length).1,(yh d (ND d) (ND d).length).2,true):=by
 have e:=RM d (ND d) (ND d).length (jj _) (by omega);rw[zp (jj _)] at e;rw[jbN h,e]
theorem JJ (d:DyD):ai d=jd3 d:=by
 unfold ai jd3;rw[vC];by_cases h:gx d=0;rw[jd h,jd h];have b:wj d=0:=(vC d).trans h;by_cases a:(ND d).length=0;rw[jar b a,jd a,jc (by simp)];rw[JI b a,jc a,jd rfl];rw[jc h,jc h]
theorem JK {d:DyD} (h:jd3 d=0):gx d=0/\¬(ND d).length=0:=by
 unfold jd3 at h;by_cases a:gx d=0;rw[jd a] at h;by_cases b:(ND d).length=0;rw[jd b] at h;omega;exact⟨a,b⟩;rw[jc a] at h;exact absurd h a
theorem jdp (d:DyD):kF d=jgw d:=by
 unfold kF jgw;rw[JJ];by_cases h:jd3 d=0;obtain⟨a,b⟩:=JK h;rw[jd h,jd h,JI ((vC d).trans a) b];rw[jc h,jc h]
theorem jdq (d:DyD):eE d=jgx d:=by
 unfold eE jgx;rw[JJ];by_cases h:jd3 d=0;obtain⟨a,b⟩:=JK h;rw[jd h,jd h,JI ((vC d).trans a) b];rw[jc h,jc h]
end
end Go.X

namespace Go.X
open U
theorem jas {l:List ShD} (h:∀s∈l,0<=yZ s/\yZ s<=99) (s:ShD):s∈FG l↔s∈l:=⟨RG,fun a=>Xj a (h s a).1 (h s a).2⟩
theorem je1 {d:DyD} (h:gx d=0):∀s∈qG d,0<=yZ s/\yZ s<=99:=fun _ a=>MG (wL ((vC d).trans h)).1.2.2 a
namespace U
def jbY (d:DyD) (p:Int) (a:List Int) (s:ShD):List Int:=if vl d p (a++[bP s])=true then a++[bP s] else a
def Cn (d:DyD) (p:Int) (l:List ShD):List Int:=l.foldl (jbY d p) []
def jbb (p:Int) (s:ShD):Bool:=decide (au s=p)
def nY (d:DyD) (p:Int):List ShD:=(jba d).filter (jbb p)
end U
theorem jgf {α:Type} {P:List α->Prop} (nil:P []) (snoc:∀l s,P l->P (l++[s])):∀l,P l:=by
 have h:∀r:List α,P r.reverse:=by
  intro r
  induction r with
  |nil=>exact nil
  |cons a r b=>rw[List.reverse_cons];exact snoc _ _ b
 intro l;have:=h l.reverse
 rwa [List.reverse_reverse] at this
theorem MP (d:DyD) (p:Int) (l:List ShD) (s:ShD):Cn d p (l++[s])=jbY d p (Cn d p l) s:=by
 unfold Cn;rw[jz];rfl
theorem XJ {d:DyD} (h:0<=R9 d) (p:Int):vl d p []=true:=by
 show(true&&(true&&decide ((0:Int)<=R9 d)))=true;rw[jH h];rfl
attribute [local irreducible] qM vl Ci U.on wm BP de qN in
theorem jat {d:DyD} (h:wj d=0) {i:Nat} (hi:i<(wm d).length) (p:Nat) (ih:∀q:Nat,nth (qM (de d) (wm d) i).1 q=Cn d (q:Int) ((((wm d).take i).filter (BP d)).filter (jbb (q:Int)))) (hrd:U.rd (de d)=d) (hml:aN (de d)=qN d (kH d).length)
 (hx:(qM (de d) (wm d) i).1.length=(kI (kD d)).length) (hdec:BP d=ve (qr (wm d) (wm d).length))
 (hnew:BP d (nth (wm d) i)=true->(nth (qM (de d) (wm d) i).1 (au (nth (wm d) i)).toNat++[bP (nth (wm d) i)]).Nodup/\∀b∈nth (qM (de d) (wm d) i).1 (au (nth (wm d) i)).toNat++[bP (nth (wm d) i)],aj d b):
 nth (qM (de d) (wm d) (i+1)).1 p=Cn d (p:Int) ((((wm d).take (i+1)).filter (BP d)).filter (jbb (p:Int))):=by
 have hD:=(wL h).1
 have hsf:=oA hD.2.2 (gD.1 (L.kJ (l:=wm d) (i:=i) hi))
 rw[L.A8 hi,kg]
 cases hc:BP d (nth (wm d) i) with
 |false=>
  rw[hdec] at hc
  rw[CH hi hc,jc (by simp),List.filter_nil,jY]
  exact ih p
 |true=>
  have hn:=hnew hc
  have hcan:Ci d (qN d (kH d).length) (au (nth (wm d) i)) (nth (qM (de d) (wm d) i).1 (au (nth (wm d) i)).toNat++[bP (nth (wm d) i)])=vl d (au (nth (wm d) i)) (nth (qM (de d) (wm d) i).1 (au (nth (wm d) i)).toNat++[bP (nth (wm d) i)]):=
   Jt hn.1 (fun c hc=>E2 hD (hn.2 c hc) hsf.1)
  rw[hdec] at hc
  rw[jd rfl]
  have hsp:((au (nth (wm d) i)).toNat:Int)=au (nth (wm d) i):=by omega
  by_cases hp:au (nth (wm d) i)=(p:Int)
  .have e1:List.filter (jbb (p:Int)) [nth (wm d) i]=[nth (wm d) i]:=by
    rw[List.filter_cons_of_pos]
    .rfl
    .exact jH hp
   have ep:(au (nth (wm d) i)).toNat=p:=by omega
   rw[e1,MP,<-ih p]
   rw[ep,hp] at hcan
   unfold jbY
   cases hk:vl d (p:Int) (nth (qM (de d) (wm d) i).1 p++[bP (nth (wm d) i)]) with
   |true=>
    rw[hk] at hcan
    rw[EU hi hc (by rw[hrd,hml,ep,hp];exact hcan),jd rfl,ep]
    show nth ((qM (de d) (wm d) i).1.set p _) p=_
    rw[L.vM (by omega),jd rfl]
   |false=>
    rw[hk] at hcan
    rw[RE hi hc (by rw[hrd,hml,ep,hp];exact hcan),jc (by simp)]
  .have e1:List.filter (jbb (p:Int)) [nth (wm d) i]=[]:=by
    rw[List.filter_cons_of_neg]
    .rfl
    .unfold jbb;simpa using hp
   rw[e1,jY,<-ih p]
   cases hk:vl d (au (nth (wm d) i)) (nth (qM (de d) (wm d) i).1 (au (nth (wm d) i)).toNat++[bP (nth (wm d) i)]) with
   |true=>
    rw[hk] at hcan
    rw[EU hi hc (by rw[hrd,hml];exact hcan)]
    show nth ((qM (de d) (wm d) i).1.set _ _) p=_
    rw[L.vM (by omega),jc (by omega)]
   |false=>
    rw[hk] at hcan
    rw[RE hi hc (by rw[hrd,hml];exact hcan)]
theorem PZ {d:DyD} (h:wj d=0):∀i,i<=(wm d).length->∀p:Nat,nth (qM (de d) (wm d) i).1 p=Cn d (p:Int) ((((wm d).take i).filter (BP d)).filter (jbb (p:Int)))
 |0,_=>fun p=>by
  have j:ja8 (jd2 d):=fun x m=>(List.mem_replicate.1 m).2
  exact Jp j p
 |i+1,hi=>fun p=>by
  have n:=PZ h i (by omega)
  obtain⟨⟨_,o⟩,⟨k,b⟩,c⟩:=Ml h
  have f:=(wL h).1
  have a:=EV (r:=de d) (l:=wm d) f.2.2 (fun s e=>gD.1 e) (gg d) k b c i (by omega)
  refine jat h hi p n rfl rfl a.1 rfl fun g=> ?_
  have:=Mi (r:=de d) (l:=wm d) f.2.2 (fun s e=>gD.1 e) (gg d) hi a g
  exact⟨this.1,this.2.1⟩
theorem je2 {d:DyD} (h:wj d=0) (p:Nat):nth (yr (gS d)) p=Cn d (p:Int) (nY d (p:Int)):=by
 have:=PZ h _ (jj _) p;rw[zm,Xm h] at this;exact this
theorem jdr {d:DyD} (h:gx d=0) (s:ShD):s∈jba d↔s∈qG d/\YV s=1/\∀t∈qG d,dr t=dr s->gm t s=false:=by
 have hi:=fun s=>jas (l:=qG d) (je1 h) s
 rw[(CL d).mem_iff,Jv,jD,E5,hi s];exact and_congr_right fun _=>and_congr_right fun _=>⟨fun g t a=>g t ((hi t).2 a),fun g t a=>g t ((hi t).1 a)⟩
theorem XK (d:DyD):(jba d).Nodup:=(CL d).nodup_iff.2 (by rw[Jv];exact List.Pairwise.filter _ (HU _))
end Go.X
namespace Go.X
open U
theorem Ac {d:DyD}:gx d=0↔GX d/\∀a∈qG d,∀b∈qG d,yZ a=yZ b->a=b:=by
 refine⟨fun h=>wL ((vC d).trans h),fun⟨⟨c,e,f⟩,g⟩=> ?_⟩;unfold gx;rw[c,e,f,(Mh _).2 g];rfl
theorem jau {d:DyD} {l:List ShD} (h:wZ d=true) (a:l.length<=30) (b:∀s∈l,ic (kH d).length (kI (kD d)).length s=true):wZ (vp d l)=true:=by
 have f:=qv h;show(decide ((kH d).length<=4/\1<=(wG d).length/\(wG d).length<=5/\0<=Nq d/\Nq d<=300/\0<=R9 d/\R9 d<=1440/\l.length<=30)&&
  ((wG d).all (bX (wG d).length)&&((kH d).all (mn (wG d).length)&&l.all (ic (kH d).length (kI (kD d)).length))))=true
 simp only[ji,jv,jR];exact⟨⟨f.1,f.2.1.1,f.2.1.2,f.2.2.1.1,f.2.2.1.2,f.2.2.2.1.1,f.2.2.2.1.2,a⟩,f.2.2.2.2.2.1,f.2.2.2.2.2.2.1,b⟩
theorem jav {d:DyD} {l:List ShD} (h:GX d) (c:l.length<=30) (e:∀s∈l,ic (kH d).length (kI (kD d)).length s=true) (hi:∀a∈l,∀b∈l,yZ a=yZ b->a=b):gx (vp d l)=0:=
 Ac.2 ⟨⟨h.1,h.2.1,jau h.2.2 c e⟩,hi⟩
theorem je3 {d:DyD} (h:gx d=0):0<=R9 d:=(qv (Ac.1 h).1.2.2).2.2.2.1.1
theorem E9 (d:DyD) (b:Int) (l:List Int):Cg d (b::l)=dp (U.bk d b)-yq (U.bk d b)+Cg d l:=by
 have h:∀(m:List Int) (a:Int),m.foldl (·+·) a=a+m.foldl (·+·) 0:=by
  intro m
  induction m with
  |nil=>intro a;simp
  |cons x m c=>intro a;rw[List.foldl_cons,c,List.foldl_cons,c (0+x)];omega
 unfold Cg;rw[zg,List.foldl_cons,h];omega
theorem jaw {d:DyD} {l l':List Int} (h:l'.Sublist l) (e:∀b∈l,yq (U.bk d b)<=dp (U.bk d b)):Cg d l'<=Cg d l:=by
 induction h with
 |slnil=>exact zo _
 |cons a _ f=>
  rw[E9];have:=e a zf;have:=f fun b c=>e b (jl _ c)
  omega
 |cons_cons a _ f=>
  rw[E9,E9];have:=f fun b c=>e b (jl _ c)
  omega
theorem P0 {d:DyD} {p:Int} {l l':List Int} (g:GX d) (c:l.Nodup) (i:∀b∈l,aj d b) (h:l'.Sublist l) (j:vl d p l=true):vl d p l'=true:=by
 obtain⟨e,f,k⟩:=(oC d p c).1 j;refine(oC d p (List.Pairwise.sublist h c)).2 ⟨fun b a=>e b (h.subset a),List.Pairwise.sublist h f,?_⟩;have:=jaw (d:=d) h fun b a=>by
  have:=(lj g.2.2 (i b a)).2;omega
 omega
theorem MQ {d:DyD} {p:Int} (h:GX d):∀{l:List ShD},(l.map bP).Nodup->(∀b∈l.map bP,aj d b)->vl d p (l.map bP)=true->Cn d p l=l.map bP:=by
 intro l
 induction l using jgf with
 |nil=>intro _ _ _;rfl
 |snoc l s i=>
  intro f a e;rw[j7] at f a e⊢;have g:(l.map bP).Sublist (l.map bP++[s].map bP):=List.sublist_append_left _ _;have:=i (List.Pairwise.sublist g f) (fun b c=>a b (g.subset c)) (P0 h f a g e);rw[MP,this];unfold jbY;exact jd e
def Lex (a b:List Int):Prop:=∃i,i<a.length/\i<b.length/\(∀j,j<i->nth a j=nth b j)/\nth a i<nth b i
theorem MR {d:DyD}:∀(k:Nat) (t:List Int),(b9 d k t).Pairwise Lex
 |0,_=>List.Pairwise.nil
 |k+1,t=>by
  unfold b9
  split
  split
  exact List.pairwise_singleton _ _
  refine List.pairwise_flatMap.2 ⟨fun i _=>MR k _,List.Pairwise.imp ?_ zR⟩
  intro i j h a f b g
  obtain⟨u,rfl⟩:=uu k _ a f
  obtain⟨v,rfl⟩:=uu k _ b g
  have e:∀(v:Int) (u:List Int),nth (t++[v]++u) t.length=v:=fun v u=>by
   rw[ut (a:=t++[v]) (b:=u) (by simp)]
   exact JF t v
  refine⟨t.length,by simp,by simp,fun m c=> ?_,?_⟩
  rw[jJ,jJ,ut c,ut c]
  rw[e,e]
  omega
  exact List.Pairwise.nil
theorem MS {d:DyD} {t:List Int}:yE d t=true↔(∀b,b<t.length->b8 (kD d) (yY (nth (kH d) b)) (nth t b)=true)/\∀p:Nat,p<(kI (kD d)).length->vl d (p:Int) (U.on t (p:Int))=true:=by
 unfold yE;rw[ji,jR,jR];exact⟨fun h=>⟨fun b a=>h.1 b (jp.2 a),fun p c=>h.2 p (jp.2 c)⟩,fun h=>⟨fun b a=>h.1 b (jp.1 a),fun p c=>h.2 p (jp.1 c)⟩⟩
theorem HX (d:DyD) (l:List (List Int)):∀n,0<n->n<=l.length->∃j,j<n/\yh d l n=(nth l j,vq d (nth l j))/\(∀i,i<n->vq d (nth l j)<=vq d (nth l i))/\∀i,i<j->vq d (nth l j)<vq d (nth l i)
 |0,h,_=>absurd h (by omega)
 |n+1,_,o=>by
  have e:yh d l (n+1)=(fun x i=>if vq d (nth l i)<x.2 then(nth l i,vq d (nth l i)) else x) (yh d l n) n:=by
   unfold yh;rw[jN,jz];rfl
  rw[e];by_cases f:n=0;subst f;refine⟨0,by omega,?_,fun i hi=> ?_,fun i hi=>by omega⟩;show(if vq d (nth l 0)<vq d (nth l 0) then _ else(nth l 0,vq d (nth l 0)))=_;rw[jc (by omega)];have:i=0:=(by omega);subst this;exact zo _;obtain⟨j,m,b,e2,c⟩:=HX d l n (by omega) (by omega);rw[b];show∃k,k<n+1/\(if vq d (nth l n)<vq d (nth l j) then(nth l n,vq d (nth l n)) else(nth l j,vq d (nth l j)))=_/\_;by_cases a:vq d (nth l n)<vq d (nth l j);rw[jd a];refine⟨n,by omega,rfl,fun i hi=> ?_,fun i hi=> ?_⟩;by_cases g:i=n;subst g;exact zo _;have:=e2 i (by omega);omega;have:=e2 i (by omega);omega;rw[jc a];refine⟨j,by omega,rfl,fun i hi=> ?_,c⟩;by_cases g:i=n;subst g;omega;exact e2 i (by omega)
attribute [local irreducible] qM vl Ci U.on wm BP de qN in
theorem jax {d:DyD} (h:wj d=0) {i:Nat} (hi:i<(wm d).length) (hac:∀q:Nat,nth (qM (de d) (wm d) i).1 q=Cn d (q:Int) ((((wm d).take i).filter (BP d)).filter (jbb (q:Int)))) (hrd:U.rd (de d)=d) (hml:aN (de d)=qN d (kH d).length)
 (hdec:BP d=ve (qr (wm d) (wm d).length)) (ih:(qM (de d) (wm d) i).2=[])
 (hnew:BP d (nth (wm d) i)=true->(nth (qM (de d) (wm d) i).1 (au (nth (wm d) i)).toNat++[bP (nth (wm d) i)]).Nodup/\∀b∈nth (qM (de d) (wm d) i).1 (au (nth (wm d) i)).toNat++[bP (nth (wm d) i)],aj d b)
 (hgood:∀q l s,(l++[s]:List ShD)<+:nY d q->vl d q (Cn d q l++[bP s])=true):(qM (de d) (wm d) (i+1)).2=[]:=by
 have hD:=(wL h).1
 have hsf:=oA hD.2.2 (gD.1 (L.kJ (l:=wm d) (i:=i) hi))
 cases hc:BP d (nth (wm d) i) with
 |false=>
  rw[hdec] at hc
  rw[CH hi hc]
  exact ih
 |true=>
  have hn:=hnew hc
  have hcan:Ci d (qN d (kH d).length) (au (nth (wm d) i)) (nth (qM (de d) (wm d) i).1 (au (nth (wm d) i)).toNat++[bP (nth (wm d) i)])=vl d (au (nth (wm d) i)) (nth (qM (de d) (wm d) i).1 (au (nth (wm d) i)).toNat++[bP (nth (wm d) i)]):=
   Jt hn.1 (fun c hc=>E2 hD (hn.2 c hc) hsf.1)
  have hsp:((au (nth (wm d) i)).toNat:Int)=au (nth (wm d) i):=by omega
  have hpre:(((((wm d).take i).filter (BP d)).filter (jbb (au (nth (wm d) i))))++[nth (wm d) i])<+:nY d (au (nth (wm d) i)):=by
   have e1:((((wm d).take (i+1)).filter (BP d)).filter (jbb (au (nth (wm d) i))))=((((wm d).take i).filter (BP d)).filter (jbb (au (nth (wm d) i))))++[nth (wm d) i]:=by
    rw[L.A8 hi,kg,hc,jd rfl,List.filter_cons_of_pos (by exact jH rfl),List.filter_nil]
   rw[<-e1]
   unfold nY
   rw[<-Xm h]
   exact List.IsPrefix.filter _ (List.IsPrefix.filter _ (List.take_prefix _ _))
  have hk:=hgood _ _ _ hpre
  have ha:=hac (au (nth (wm d) i)).toNat
  rw[hsp] at ha
  rw[<-ha] at hk
  rw[hk] at hcan
  rw[hdec] at hc
  rw[EU hi hc (by rw[hrd,hml];exact hcan)]
  exact ih
theorem RO {d:DyD} (h:wj d=0) (a:∀q l s,(l++[s]:List ShD)<+:nY d q->vl d q (Cn d q l++[bP s])=true):∀i,i<=(wm d).length->(qM (de d) (wm d) i).2=[]
 |0,_=>rfl
 |i+1,hi=>by
  obtain⟨⟨_,m⟩,⟨k,c⟩,e⟩:=Ml h
  have g:=(wL h).1
  have b:=EV (r:=de d) (l:=wm d) g.2.2 (fun s f=>gD.1 f) (gg d) k c e i (by omega)
  refine jax h hi (PZ h i (by omega)) rfl rfl rfl (RO h a i (by omega)) (fun j=> ?_) a
  have:=Mi (r:=de d) (l:=wm d) g.2.2 (fun s f=>gD.1 f) (gg d) hi b j
  exact⟨this.1,this.2.1⟩
theorem jds {l:List ShD} {s:ShD} {m:List ShD} (h:(l++[s])<+:m):(l.map bP++[bP s]).Sublist (m.map bP):=by
 have:=(List.IsPrefix.sublist h).map bP;rw[j7] at this;exact this
theorem XL {d:DyD} (h:gx d=0) (a:∀q:Int,((nY d q).map bP).Nodup/\(∀b∈(nY d q).map bP,aj d b)/\vl d q ((nY d q).map bP)=true):
 (QD d).2=[]/\∀q:Int,Cn d q (nY d q)=(nY d q).map bP:=by
 have e:=(Ac.1 h).1;have f:=(vC d).trans h;refine⟨?_,fun q=>MQ e (a q).1 (a q).2.1 (a q).2.2⟩;have k:=(se f).ref;rw[<-k];refine RO f (fun q l s j=> ?_) _ (jj _);have g:=jds j;have c:(l.map bP).Sublist ((nY d q).map bP):=(List.sublist_append_left _ _).trans g;rw[MQ e (List.Pairwise.sublist c (a q).1) (fun b i=>(a q).2.1 b (c.subset i)) (P0 e (a q).1 (a q).2.1 c (a q).2.2)];exact P0 e (a q).1 (a q).2.1 g (a q).2.2
end Go.X
namespace Go.X
open U
namespace U
def Aw (t:List Int) (b n:Nat):List (Nat×Nat):=((List.range n).filter (fun(p:Nat)=>wH (nth t b) (p:Int))).map (fun p=>(b,p))
def ik (t:List Int) (a n:Nat):List (Nat×Nat):=(List.range n).flatMap (fun b=>Aw t b a)
end U
instance:Inhabited (Nat×Nat):=⟨(0,0)⟩
theorem JL {t:List Int} {c n:Nat} {x:Nat×Nat}:x∈ik t c n↔x.1<n/\x.2<c/\wH (nth t x.1) (x.2:Int)=true:=by
 unfold ik Aw;rw[List.mem_flatMap];constructor;rintro⟨b,g,h⟩;obtain⟨p,a,rfl⟩:=jG.1 h;have a:=jD.1 a;exact⟨jp.1 g,jp.1 a.1,a.2⟩;rintro⟨d,e,f⟩;exact⟨x.1,jp.2 d,jG.2 ⟨x.2,jD.2 ⟨jp.2 e,f⟩,rfl⟩⟩
theorem HY (t:List Int) (h n:Nat):(ik t h n).Nodup:=by
 unfold ik;refine List.pairwise_flatMap.2 ⟨fun b _=> ?_,List.Pairwise.imp ?_ zR⟩;unfold Aw;refine zJ.2 ((List.Pairwise.filter _ zR).imp ?_);intro i j g e;have:=jP (·.2) e;simp at this;omega;intro a b f x c y d e;unfold Aw at c d;obtain⟨p,_,rfl⟩:=jG.1 c;obtain⟨q,_,rfl⟩:=jG.1 d;have:=jP (·.1) e;simp at this;omega
theorem CN (t:List Int) (a:Nat):∀n,(ik t a n).length<=n*a
 |0=>by unfold ik;simp
 |n+1=>by
  have c:=CN t a n
  have e:ik t a (n+1)=ik t a n++Aw t n a:=by
   unfold ik;rw[jN,List.flatMap_append];simp
  have b:(Aw t n a).length<=a:=by
   unfold Aw;rw[zc];have:=zH (fun(p:Nat)=>wH (nth t n) (p:Int)) (List.range a);rw[zt] at this;exact this
  rw[e,jK,zl];omega
theorem MT {α:Type} [Inhabited α] {l:List α} (h:l.Nodup) {i j:Nat} (hi:i<l.length) (a:j<l.length) (e:nth l i=nth l j):i=j:=by
 rw[L.wz hi,L.wz a] at e;rcases kl i j with g|g|g;exact absurd e (zq.1 h i j hi a g);exact g;exact absurd e.symm (zq.1 h j i a hi g)
theorem jay {α:Type} [Inhabited α] {R:α->α->Prop} {l:List α} (h:l.Pairwise R) {i j:Nat} (a:i<j) (b:j<l.length):R (nth l i) (nth l j):=by
 rw[L.wz (by omega),L.wz b];exact zq.1 h i j (by omega) b a
end Go.X

namespace Go.X
open U
theorem Fa {d:DyD}:∀(k:Nat) (t:List Int),(∀x∈t,0<=x/\x<2^(kI (kD d)).length)->∀l∈b9 d k t,yE d l=true/\l.length=(kH d).length/\∀x∈l,0<=x/\x<2^(kI (kD d)).length
 |0,_,_,l,a=>by cases a
 |k+1,t,c,l,a=>by
  unfold b9 at a
  split at a
  rename_i f
  split at a
  rename_i g
  have e:=ky.1 a
  subst e
  exact⟨f,g,c⟩
  obtain⟨i,hi,a⟩:=List.mem_flatMap.1 a
  have hi:=jp.1 hi
  have h:(2:Int)^(kI (kD d)).length=((2^(kI (kD d)).length:Nat):Int):=by rw[BT.cn]
  refine Fa k _ (fun x b=> ?_) l a
  rcases ju.1 b with b|b
  exact c x b
  rw[ky.1 b]
  omega
  cases a
theorem XM {d:DyD} (_:gx d=0) (k:ai d=0):kF d∈ND d/\eE d=vq d (kF d)/\∀o∈ND d,eE d<=vq d o/\(eE d=vq d o->o≠kF d->Lex (kF d) o):=by
 have a:=(JJ d).symm.trans k;obtain⟨_,r⟩:=JK a;obtain⟨j,l,e,n,p⟩:=HX d (ND d) (ND d).length (by omega) (jj _);have c:kF d=nth (ND d) j:=by
  rw[jdp];unfold jgw;rw[jd a,e]
 have f:eE d=vq d (nth (ND d) j):=by
  rw[jdq];unfold jgx;rw[jd a,e]
 rw[c,f];refine⟨L.kJ l,rfl,fun o m=> ?_⟩;obtain⟨i,hi,rfl⟩:=L.mem_iff.1 m;refine⟨n i hi,fun q b=> ?_⟩;rcases kl i j with g|g|g;have:=p i g;omega;subst g;exact absurd rfl b;exact jay (MR 5 []) g hi
theorem XN (t:List Int) (b n:Nat):Aw t b (n+1)=Aw t b n++(if wH (nth t b) (n:Int)=true then[(b,n)] else[]):=by
 unfold Aw;rw[L.vD,j7];by_cases h:wH (nth t b) (n:Int)=true;rw[jd h,jd h];rfl;rw[jc h,jc h];rfl
theorem XO (t:List Int) (a n:Nat):ik t a (n+1)=ik t a n++Aw t n a:=by
 unfold ik;rw[jN,List.flatMap_append];simp
theorem jaz (t:List Int) (b n:Nat):(Aw t b n).length<=n:=by
 unfold Aw;rw[zc];have:=zH (fun(p:Nat)=>wH (nth t b) (p:Int)) (List.range n);rw[zt] at this;exact this
namespace U
def jfV (i:Nat) (x:Nat×Nat):ShD:=((i:Int),0,1,(x.1:Int),(x.2:Int),())
def jbc (l:List (Nat×Nat)):List ShD:=(List.range l.length).map (fun i=>jfV i (nth l i))
def kL (d:DyD) (t:List Int) (b:Nat):List ShD:=jbc (ik t (kI (kD d)).length b)
def cV (d:DyD) (t:List Int) (b p:Nat):List ShD:=jbc (ik t (kI (kD d)).length b++Aw t b p)
end U
theorem jaA (l:List (Nat×Nat)) (x:Nat×Nat):jbc (l++[x])=jbc l++[jfV l.length x]:=by
 unfold jbc;rw[jK,List.length_singleton,jN,j7];congr 1;refine List.map_congr_left fun i hi=> ?_
 have:=jp.1 hi;congr 1;unfold nth;rw[za,za,jA this];rw[List.map_singleton];congr 2;unfold nth;rw[za,jx (jj _)];simp
theorem P1 (l:List (Nat×Nat)):(jbc l).length=l.length:=by unfold jbc;simp
theorem jdt {l:List (Nat×Nat)} {s:ShD}:s∈jbc l↔∃i,i<l.length/\s=jfV i (nth l i):=by
 unfold jbc;rw[jG];exact⟨fun⟨i,hi,e⟩=>⟨i,jp.1 hi,e.symm⟩,fun⟨i,hi,e⟩=>⟨i,jp.2 hi,e.symm⟩⟩
structure RP (d:DyD) (t:List Int) (l:List ShD):Prop where
 day:gx d=0
 len:t.length=(kH d).length
 pl:yE d t=true
 rng:∀x∈t,0<=x/\x<2^(kI (kD d)).length
 mem:∀s,s∈l↔s∈jbc (ik t (kI (kD d)).length (kH d).length)
 few:l.length<=30
theorem RP.form {d:DyD} {t:List Int} {l:List ShD} (h:RP d t l) {s:ShD}:s∈l↔∃i b p:Nat,i<(ik t (kI (kD d)).length (kH d).length).length/\nth (ik t (kI (kD d)).length (kH d).length) i=(b,p)/\(b<(kH d).length/\p<(kI (kD d)).length/\wH (nth t b) (p:Int)=true)/\s=jfV i (b,p):=by
 rw[h.mem,jdt];constructor;rintro⟨i,hi,e⟩;have a:=JL.1 (L.kJ (l:=ik t (kI (kD d)).length (kH d).length) (i:=i) hi);exact⟨i,(nth (ik t (kI (kD d)).length (kH d).length) i).1,(nth (ik t (kI (kD d)).length (kH d).length) i).2,hi,rfl,a,e⟩;rintro⟨i,b,p,hi,e,_,e2⟩;exact⟨i,hi,by rw[e];exact e2⟩
theorem RP.chk {d:DyD} {t:List Int} {l:List ShD} (h:RP d t l) (c:(kH d).length<=4) (o:(kI (kD d)).length<=5):gx (vp d l)=0:=by
 have n:=Ac.1 h.day;have f:=CN t (kI (kD d)).length (kH d).length;have k:(kH d).length*(kI (kD d)).length<=4*5:=Nat.mul_le_mul c o;refine jav n.1 h.few (fun s q=> ?_) fun a m b c e=> ?_
 obtain⟨i,b,p,hi,_,w,rfl⟩:=h.form.1 q;refine jH ⟨jQ i,?_,zo 0,?_,?_,?_,jQ b,?_,jQ p,?_⟩;show(i:Int)<=99;omega;show(0:Int)<=9999;omega;show(1:Int)<=1;omega;show(1:Int)<=2;omega;show(b:Int)<=(kH d).length-1;omega;show(p:Int)<=(kI (kD d)).length-1;omega;obtain⟨i,r,x,hi,g,_,rfl⟩:=h.form.1 m;obtain⟨j,u,y,v,e2,_,rfl⟩:=h.form.1 c;have e:(i:Int)=(j:Int):=e;have:i=j:=(by omega);subst this;rw[g] at e2;rw[e2]
theorem RP.wnt {d:DyD} {t:List Int} {l:List ShD} (h:RP d t l) (q:gx (vp d l)=0) (s:ShD):s∈jba (vp d l)↔s∈l:=by
 rw[jdr q];refine⟨fun g=>g.1,fun g=>⟨g,?_,fun u v e=> ?_⟩⟩;obtain⟨i,b,p,_,_,_,rfl⟩:=h.form.1 g;rfl;obtain⟨i,a,m,hi,o,_,rfl⟩:=h.form.1 g;obtain⟨j,c,n,r,e2,_,rfl⟩:=h.form.1 v;have e:=(Ju _ _).1 e;have f:(c:Int)=(a:Int):=e.1;have k:(n:Int)=(m:Int):=e.2;have f:c=a:=(by omega);have k:n=m:=(by omega);subst f;subst k;have:i=j:=MT (HY _ _ _) hi r (o.trans e2.symm);subst this;exact bB _
theorem RP.bks {d:DyD} {t:List Int} {l:List ShD} (h:RP d t l) (G:gx (vp d l)=0) (q:Int):((nY (vp d l) q).map bP).Nodup/\∀n,n∈(nY (vp d l) q).map bP↔((0<=q/\q<((kI (kD d)).length:Int))/\n∈U.on t q):=by
 have m:=fun s=>h.wnt G s
 refine⟨?_,fun n=> ?_⟩;refine zJ.2 ?_;unfold nY;refine List.Pairwise.imp_of_mem ?_ (List.Pairwise.filter _ (XK _));intro a b F c r e;have f:=jD.1 F;have g:=jD.1 c;obtain⟨i,u,A,hi,D,_,rfl⟩:=h.form.1 ((m _).1 f.1);obtain⟨j,v,B,H,e2,_,rfl⟩:=h.form.1 ((m _).1 g.1);have C:(A:Int)=q:=ja f.2;have J:(B:Int)=q:=ja g.2;have w:(u:Int)=(v:Int):=e;have w:u=v:=(by omega);have E:A=B:=(by omega);subst w;subst E;have:i=j:=MT (HY _ _ _) hi H (D.trans e2.symm);subst this;exact r rfl;rw[jG];constructor;rintro⟨s,k,rfl⟩;have k:=jD.1 k;obtain⟨i,b,p,hi,e,z,rfl⟩:=h.form.1 ((m _).1 k.1);have C:(p:Int)=q:=ja k.2;refine⟨by omega,?_⟩;unfold U.on QC;refine jG.2 ⟨b,jD.2 ⟨jp.2 (by rw[h.len];exact z.1),?_⟩,rfl⟩;rw[<-C];exact z.2.2;rintro⟨I,y⟩;unfold U.on QC at y;obtain⟨b,c,rfl⟩:=jG.1 y;have c:=jD.1 c;have o:=jp.1 c.1;have x:(b,q.toNat)∈ik t (kI (kD d)).length (kH d).length:=JL.2 ⟨by rw[<-h.len];exact o,by show q.toNat<_;omega,by
  show wH (nth t b) ((q.toNat:Nat):Int)=true;rw[show((q.toNat:Nat):Int)=q by omega];exact c.2⟩
 obtain⟨i,hi,e⟩:=L.mem_iff.1 x;refine⟨jfV i (b,q.toNat),jD.2 ⟨(m _).2 (h.form.2 ⟨i,b,q.toNat,hi,e,JL.1 x,rfl⟩),jH ?_⟩,rfl⟩;show((q.toNat:Nat):Int)=q;omega
theorem RP.stand {d:DyD} {t:List Int} {l:List ShD} (h:RP d t l) (e:gx (vp d l)=0):
 (QD (vp d l)).2=[]/\∀q:Int,Cn (vp d l) q (nY (vp d l) q)=(nY (vp d l) q).map bP:=by
 refine XL e fun q=> ?_
 obtain⟨a,c⟩:=h.bks e q;refine⟨a,fun b i=> ?_,?_⟩;have:=jbH ((c b).1 i).2;have k:=h.len;show 0<=b/\b<((kH d).length:Int);omega;by_cases f:0<=q/\q<((kI (kD d)).length:Int);have j:=L.eK a (CM t q) fun n=>(c n).trans ⟨fun g=>g.2,fun g=>⟨f,g⟩⟩
 have:=(MS.1 h.pl).2 q.toNat (by omega);rw[show((q.toNat:Nat):Int)=q by omega] at this;show vl d q _=true;rw[x7 d q j a];exact this;have:(nY (vp d l) q).map bP=[]:=zU.2 fun n a=>f ((c n).1 a).1
 rw[this];exact XJ (je3 h.day) q
theorem RP.teams {d:DyD} {t:List Int} {l:List ShD} (h:RP d t l) (k:gx (vp d l)=0):(QD (vp d l)).1=t:=by
 have o:=(vC (vp d l)).trans k;have m:=se o;have r:=(Ac.1 h.day).1;have v:=(rO r.1).2;refine L.ext_nth (m.len.trans h.len.symm) fun b j=> ?_
 have j:b<(kH d).length:=(by have:=m.len;have e:(kH (vp d l)).length=(kH d).length:=rfl;omega);have q:=h.rng _ (L.kJ (l:=t) (i:=b) (by rw[h.len];exact j));have u:(2:Int)^(kI (kD d)).length=((2^(kI (kD d)).length:Nat):Int):=(by rw[BT.cn]);have a:BT.qH (nth t b):=(by unfold BT.qH;omega);refine BT.ext (m.set b j) a fun p=>j8.2 ?_
 rw[m.bit b j p];have f:nth (yr (gS (vp d l))) p=(nY (vp d l) (p:Int)).map bP:=(je2 o p).trans ((h.stand k).2 (p:Int));show p<(kI (kD d)).length/\(b:Int)∈nth (yr (gS (vp d l))) p↔_;rw[f,(h.bks k (p:Int)).2];have n:(b:Int)∈U.on t (p:Int)↔BT.FS (nth t b) p=true:=by
  unfold U.on QC;rw[jG];constructor;rintro⟨c,k,e⟩;have:c=b:=(by omega);subst this;have:=(jD.1 k).2;rw[dM a] at this;exact this;intro g;exact⟨b,jD.2 ⟨jp.2 (by rw[h.len];exact j),by rw[dM a];exact g⟩,rfl⟩
 rw[n];refine⟨fun g=>g.2.2,fun g=> ?_⟩;have s:=BT.has_lt q.1 q.2 g;exact⟨s,by omega,g⟩
abbrev tNo:Ty:= .st [.int,.int]
abbrev tTa:Ty:= .st [.int,.int,.int,.int,.int,.int,.int,.int,.slice .int,.slice tNo]
abbrev tCa:Ty:= .st [.int,.int,.int]
abbrev tLg:Ty:= .st [tDy,.slice .int,.slice .int,tTa,.slice tCa]
abbrev tLn:Ty:= .st [.int,.int,.int,.int,.int,.int]
abbrev tBl:Ty:= .st [tBk,tTa,.int,.int,.slice .int,.int,.int,.bool,.int]
abbrev tBo:Ty:= .st [tLg,.map .int (.ptr tBl)]
abbrev NoD:Type:=Int×Int×Unit
abbrev TaD:Type:=Int×Int×Int×Int×Int×Int×Int×Int×List Int×List NoD×Unit
abbrev CaD:Type:=Int×Int×Int×Unit
abbrev LgD:Type:=DyD×List Int×List Int×TaD×List CaD×Unit
abbrev LnD:Type:=Int×Int×Int×Int×Int×Int×Unit
abbrev BlD:Type:=BkD×TaD×Int×Int×List Int×Int×Int×Bool×Int×Unit
abbrev XbD:Type:=Int×Int×Int×Int×Int×Int×Int×Int×Int×Int×Int×Int×Int×Int×Int×Int×Int×List Int×List (Int×Int×Unit)×Int×Int×List Int×Int×Int×Bool×Int×Unit
abbrev BoD:Type:=LgD×List (Int×Option BlD)×Unit
namespace U
def YX (n:NoD):Int:=n.1
def jbZ (n:NoD):Int:=n.2.1
def UI (t:TaD):Int:=t.1
def jd4 (t:TaD):Int:=t.2.1
def jd5 (t:TaD):Int:=t.2.2.1
def jbd (t:TaD):Int:=t.2.2.2.1
def jd6 (t:TaD):Int:=t.2.2.2.2.1
def Ky (t:TaD):Int:=t.2.2.2.2.2.1
def YY (t:TaD):Int:=t.2.2.2.2.2.2.1
def UJ (t:TaD):Int:=t.2.2.2.2.2.2.2.1
def ci (t:TaD):List Int:=t.2.2.2.2.2.2.2.2.1
def il (t:TaD):List NoD:=t.2.2.2.2.2.2.2.2.2.1
def UU (c:CaD):Int:=c.1
def jfz (c:CaD):Int:=c.2.1
def YZ (c:CaD):Int:=c.2.2.1
def kE (l:LgD):DyD:=l.1
def yH (l:LgD):List Int:=l.2.1
def A5 (l:LgD):List Int:=l.2.2.1
def ak (l:LgD):TaD:=l.2.2.2.1
def wy (l:LgD):List CaD:=l.2.2.2.2.1
def eQ (l:LnD):Int:=l.1
def eU (l:LnD):Int:=l.2.1
def Ia (l:LnD):Int:=l.2.2.1
def Ib (l:LnD):Int:=l.2.2.2.1
def QE (l:LnD):Int:=l.2.2.2.2.1
def NQ (l:LnD):Int:=l.2.2.2.2.2.1
def gq (b:BlD):BkD:=b.1
def gQ (b:BlD):TaD:=b.2.1
def UV (b:BlD):Int:=b.2.2.1
def UK (b:BlD):Int:=b.2.2.2.1
def qz (b:BlD):List Int:=b.2.2.2.2.1
def Co (b:BlD):Int:=b.2.2.2.2.2.1
def NR (b:BlD):Int:=b.2.2.2.2.2.2.1
def xb (b:BlD):Bool:=b.2.2.2.2.2.2.2.1
def sE (b:BlD):Int:=b.2.2.2.2.2.2.2.2.1
def cW (o:BoD):LgD:=o.1
def Kz (o:BoD):List (Int×Option BlD):=o.2.1
def share (n:Int):Bool:=kA n 0 100
def Kq (last:Int) (n:NoD):Bool:=kA (YX n) 0 (last-1)&&share (jbZ n)
def A6:Int->List NoD->Bool
 |_,[]=>true
 |last,n::r=>Kq last n&&A6 (YX n) r
def vK (t:TaD):Bool:=(kA (UI t) 1 240&&kA (jd4 t) 0 10000&&kA (jd5 t) 0 20&&kA (jbd t) 0 1440&&kA (jd6 t) 0 (jbd t)&&share (Ky t)&&kA (YY t) 0 10000)&&
 (decide ((ci t).length=4)&&(ci t).all share&&kA (UJ t) 0 1000000&&decide ((il t).length<=4)&&A6 100001 (il t))
def pi (n:Nat) (c:CaD):Bool:=(kA (UU c) 0 99&&kA (jfz c) 0 ((n:Int)-1))&&kA (YZ c) (-100000) 1440
def NF (n:Int):Bool:=kA n 0 20
def A7 (n:Int):Bool:=kA n 0 300
def cj (l:LgD):Bool:=((decide ((yH l).length=(kH (kE l)).length)&&(yH l).all NF)&&(decide ((A5 l).length=(kH (kE l)).length)&&(A5 l).all A7))&&
 (vK (ak l)&&(decide ((wy l).length<=10)&&(wy l).all (pi (kH (kE l)).length)))
def bG (l:List CaD) (i:Nat):Bool:=(l.take i).any (fun x=>decide (UU x=UU (nth l i))&& !decide (x=nth l i))
def FK (l:List CaD) (n:Nat):Bool:=(List.range n).any (bG l)
def aQ (l:List CaD):Bool:=FK l l.length
def wo (l:LgD):Int:=if wj (kE l)≠0 then wj (kE l) else if cj l=false then 70 else if aQ (wy l)=true then 71 else 0
def up (a b:Int):Int:=(a+b-1).tdiv b
def gP (m:Int) (b:BlD):BlD:=if m<=yq (gq b)/\(xb b=false\/m<sE b) then(gq b,gQ b,UV b,UK b,qz b,Co b,NR b,true,m,()) else b
def y8 (b:BlD):Int:=max 0 (dp (gq b)-max (yq (gq b)) (jbd (gQ b)))+max 0 (min (dp (gq b)) (jd6 (gQ b))-yq (gq b))
def nZ (b:BlD):Int:=(qz b).length*jd4 (gQ b)*max (jd5 (gQ b)) (up (dp (gq b)-yq (gq b)) (UI (gQ b)))
def ca (b:BlD):Int:=nZ b+up (nZ b*Ky (gQ b)*y8 b) (100*(dp (gq b)-yq (gq b)))
def cX (a:Int) (b:BlD):Int:=(qz b).length*YY (gQ b)*a
def chargeB (a:Int) (b:BlD):BlD:=(gq b,gQ b,UV b,UK b,qz b,ca b,cX a b,xb b,sE b,())
def im (b:BlD) (n:NoD):Bool:=decide (YX n<=yq (gq b)-sE b)
def UL (b:BlD):Int:=yO (im b) (il (gQ b))
def qf (b:BlD):Int:=if xb b=true/\0<=UL b then up (Co b*jbZ (nth (il (gQ b)) (UL b).toNat)) 100 else Co b
def qB (b:BlD):Int:=if xb b=true then 0 else NR b
def pJ (b:BlD):Int:=min (UJ (gQ b)) (((qf b+qB b)*nth (ci (gQ b)) (mw (yY (gq b))).toNat).tdiv 100)
def vH (b:BlD):LnD:=(UK b,UV b,qf b,qB b,pJ b,qf b+qB b-pJ b,())
def GZ (b:BlD):Prop:=vK (gQ b)=true/\0<=yq (gq b)/\yq (gq b)<dp (gq b)/\dp (gq b)<=1440/\0<=mw (yY (gq b))/\mw (yY (gq b))<=3/\(qz b).length<=8/\-100000<=sE b/\sE b<=1440
def YK (b:BlD):Prop:=GZ b/\0<=Co b/\Co b<=100000000000000/\0<=NR b/\NR b<=1000000000
def wX (t:Int) (n:Nat):List Int:=((List.range n).filter (fun(p:Nat)=>wH t (p:Int))).map (fun(p:Nat)=>(p:Int))
def uZ (l:LgD) (n:Int) (tm:List Int):BlD:=(nth (kH (kE l)) n.toNat,ak l,n,nth (yH l) n.toNat,tm,0,0,false,0,())
def qc (l:LgD) (n:Int) (k:Nat):List Int:=wX (nth (bR (kE l)) n.toNat) k
def lS (l:LgD) (n:Int):BlD:=chargeB (nth (A5 l) n.toNat) (uZ l n (qc l n (kI (kD (kE l))).length))
def u5 (n:Int) (b:BlD) (c:CaD):BlD:=if jfz c=n then gP (YZ c) b else b
def kR (l:LgD) (n:Int) (k:Nat):BlD:=((wy l).take k).foldl (u5 n) (lS l n)
def wi (l:LgD) (n:Int):BlD:=kR l n (wy l).length
def jd7 (l:LgD) (m:List (Int×Option BlD)) (n:Int):List (Int×Option BlD):=iv .int n (some (wi l n)) m
def Cq (l:LgD) (k:Nat):List (Int×Option BlD):=((kB (kE l)).take k).foldl (jd7 l) []
def QF (l:LgD):List (Int×Option BlD):=Cq l (kB (kE l)).length
def zDy:DyD:=((0,[],[],()),[],[],0,0,[],())
def zTa:TaD:=(0,0,0,0,0,0,0,0,[],[],())
def zLg:LgD:=(zDy,[],[],zTa,[],())
def jgy:BoD:=(zLg,[],())
def qI (l:LgD) (wn:Bool):Int:=if wo l≠0 then wo l else if wn=true then 0 else 1
def k8 (l:LgD) (wn:Bool):BoD:=if qI l wn=0 then(l,QF l,()) else jgy
def Kr (o:BoD) (n:Int):Bool:=kA n 0 (((kH (kE (cW o))).length:Int)-1)
def vg (m:List (Int×Option BlD)):List LnD:=m.map (fun e=>match e.2 with|some b=>vH b|none=>default)
def Ax (a b:LnD):Int:=yD [db (eQ a) (eQ b),db (eU a) (eU b)]
def kO (o:BoD):List LnD:=kG (kK tLn fun x=>(Ax x.1 x.2.1,())) (vg (Kz o))
def gI (l:List Int):Int:=l.foldl max (nth l 0)
def Ks (t:List Int) (x:LnD):List Int:=t.set (eQ x).toNat (nth t (eQ x).toNat+NQ x)
def yl (n:Nat) (l:List LnD) (k:Nat):List Int:=(l.take k).foldl Ks (List.replicate n 0)
def vE (o:BoD):List Int:=if(yH (cW o)).length=0 then[] else yl (gI (yH (cW o))+1).toNat (kO o) (kO o).length
def oL (a:Int) (tm:List Int) (out:List Int) (i:Nat):List Int:=out.set (nth tm i).toNat (nth out (nth tm i).toNat+a.tdiv tm.length+(if(i:Int)<a.tmod tm.length then 1 else 0))
def wA (a:Int) (tm out:List Int) (k:Nat):List Int:=(List.range k).foldl (oL a tm) out
def jbe (a:Int) (b:BlD) (out:List Int):List Int:=wA a (qz b) out (qz b).length
def UM (n:Nat):Option BlD->List Int
 |some b=>jbe (qB b) b (jbe (qf b) b (List.replicate n 0))
 |none=>List.replicate n 0
def jgP (o:BoD) (n:Int):Option BlD:=w4 none (wv .int n (Kz o))
def vW (o:BoD) (n:Int):List Int:=UM (kI (kD (kE (cW o)))).length (jgP o n)
end U
theorem P2 {a b A B:Int} (d:0<=a/\a<=A) (c:0<=b/\b<=B):0<=a*b/\a*b<=A*B:=
 ⟨ku d.1 c.1,Int.mul_le_mul d.2 c.2 c.1 (by omega)⟩
theorem Fb {x B:Int} (h:0<=x/\x<=B) (a:B<=9223372036854775807):kU x:=iZ6
theorem XP {a b:Int} (c:0<=a) (d:0<b):U.up a b=(a+b-1)/b:=zQ (by omega)
theorem P3 {a b:Int} (e:0<=a) (c:0<b):0<=U.up a b/\U.up a b<=a:=by
 rw[XP e c];refine⟨Int.ediv_nonneg (by omega) (by omega),?_⟩;by_cases h:a=0;subst h;rw[Int.ediv_eq_zero_of_lt (by omega) (by omega)];omega;have g:0<=(a-1)*(b-1):=ku (by omega) (by omega);have d:a+b-1<(a+1)*b:=by
  have f:(a+1)*b=a*b+b:=(by rw[Int.add_mul];omega);have e2:(a-1)*(b-1)=a*b-a-b+1:=(by rw[Int.sub_mul,Int.mul_sub];omega);omega
 have:=Int.ediv_lt_of_lt_mul c d;omega
theorem jaB {a b A:Int} (c:0<=a/\a<=A) (f:0<b):0<=a.tdiv b/\a.tdiv b<=A:=by
 rw[zQ c.1];have d:=Int.ediv_nonneg c.1 (show 0<=b by omega);have e:=Int.ediv_le_self b c.1;exact⟨d,by omega⟩
theorem qZ {n a b:Int}:kA n a b=true↔a<=n/\n<=b:=by
 unfold kA;simp only[ji,jv]
structure jgg (t:TaD):Prop where
 un:1<=UI t/\UI t<=240
 rt:0<=jd4 t/\jd4 t<=10000
 le:0<=jd5 t/\jd5 t<=20
 dk:0<=jbd t/\jbd t<=1440
 dw:0<=jd6 t/\jd6 t<=jbd t
 ni:0<=Ky t/\Ky t<=100
 mi:0<=YY t/\YY t<=10000
 sl:(ci t).length=4
 sb:∀n∈ci t,0<=n/\n<=100
 cp:0<=UJ t/\UJ t<=1000000
 nl:(il t).length<=4
 no:A6 100001 (il t)=true
theorem dN {t:TaD}:vK t=true↔jgg t:=by
 unfold vK U.share;simp only[ji,qZ,jv,jR];constructor;rintro⟨⟨⟨⟨⟨⟨⟨d,e⟩,f⟩,g⟩,h⟩,i⟩,j⟩,⟨⟨⟨k,l⟩,a⟩,b⟩,c⟩;exact⟨d,e,f,g,h,i,j,k,l,a,b,c⟩;rintro⟨d,e,f,g,h,i,j,k,l,a,b,c⟩;exact⟨⟨⟨⟨⟨⟨⟨d,e⟩,f⟩,g⟩,h⟩,i⟩,j⟩,⟨⟨⟨k,l⟩,a⟩,b⟩,c⟩
theorem CO:∀{last:Int} {l:List NoD},A6 last l=true->∀n∈l,(0<=YX n/\YX n<=last-1)/\0<=jbZ n/\jbZ n<=100
 |_,[],_,n,a=>by cases a
 |last,m::r,h,n,a=>by
  unfold A6 Kq U.share at h
  simp only[ji,qZ] at h
  obtain⟨⟨b,c⟩,d⟩:=h
  rcases jk.1 a with rfl|a
  exact⟨b,c⟩
  have:=CO d n a
  exact⟨⟨this.1.1,by omega⟩,this.2⟩
structure Fc (b:BlD):Prop where
 ta:jgg (gQ b)
 st:0<=yq (gq b)
 en:yq (gq b)<dp (gq b)
 e2:dp (gq b)<=1440
 kd:0<=mw (yY (gq b))/\mw (yY (gq b))<=3
 tm:(qz b).length<=8
 mi: -100000<=sE b/\sE b<=1440
theorem uw {b:BlD}:GZ b↔Fc b:=by
 unfold GZ;rw[dN];exact⟨fun⟨a,c,d,e,f,g,h,i,j⟩=>⟨a,c,d,e,⟨f,g⟩,h,⟨i,j⟩⟩,fun⟨a,c,d,e,⟨f,g⟩,h,⟨i,j⟩⟩=>⟨a,c,d,e,f,g,h,i,j⟩⟩
theorem RQ {b:BlD} (h:Fc b):0<=y8 b/\y8 b<=2880:=by
 have:=h.st;have:=h.en;have:=h.e2;have:=h.ta.dk;have:=h.ta.dw;unfold y8;omega
theorem je4 {b:BlD} (h:Fc b):0<=U.up (dp (gq b)-yq (gq b)) (UI (gQ b))/\U.up (dp (gq b)-yq (gq b)) (UI (gQ b))<=1440:=by
 have:=h.st;have:=h.en;have:=h.e2;have:=h.ta.un;have:=P3 (a:=dp (gq b)-yq (gq b)) (b:=UI (gQ b)) (by omega) (by omega);omega
theorem je5 {b:BlD} (h:Fc b):0<=((qz b).length:Int)*jd4 (gQ b)/\((qz b).length:Int)*jd4 (gQ b)<=80000:=
 P2 (A:=8) (B:=10000) (by have:=h.tm;omega) h.ta.rt
theorem P4 {b:BlD} (h:Fc b):0<=nZ b/\nZ b<=115200000:=by
 have c:=je4 h;have d:=h.ta.le;have a:0<=max (jd5 (gQ b)) (U.up (dp (gq b)-yq (gq b)) (UI (gQ b)))/\max (jd5 (gQ b)) (U.up (dp (gq b)-yq (gq b)) (UI (gQ b)))<=1440:=(by omega);exact P2 (je5 h) a
theorem je6 {b:BlD} (h:Fc b):0<=nZ b*Ky (gQ b)/\nZ b*Ky (gQ b)<=11520000000:=P2 (P4 h) h.ta.ni
theorem jbO {b:BlD} (h:Fc b):0<=nZ b*Ky (gQ b)*y8 b/\nZ b*Ky (gQ b)*y8 b<=33177600000000:=P2 (je6 h) (RQ h)
theorem je7 {b:BlD} (h:Fc b):0<100*(dp (gq b)-yq (gq b))/\100*(dp (gq b)-yq (gq b))<=144000:=by
 have:=h.st;have:=h.en;have:=h.e2;omega
theorem je8 {b:BlD} (h:Fc b):0<=U.up (nZ b*Ky (gQ b)*y8 b) (100*(dp (gq b)-yq (gq b)))/\U.up (nZ b*Ky (gQ b)*y8 b) (100*(dp (gq b)-yq (gq b)))<=33177600000000:=by
 have a:=jbO h;have:=P3 a.1 (je7 h).1;omega
theorem XQ {b:BlD} (h:Fc b):0<=ca b/\ca b<=100000000000000:=by
 have a:=P4 h;have c:=je8 h;unfold ca;omega
theorem je9 {b:BlD} (h:Fc b):0<=((qz b).length:Int)*YY (gQ b)/\((qz b).length:Int)*YY (gQ b)<=80000:=
 P2 (A:=8) (B:=10000) (by have:=h.tm;omega) h.ta.mi
theorem XR {b:BlD} {t:Int} (h:Fc b) (a:0<=t/\t<=300):0<=cX t b/\cX t b<=24000000:=P2 (je9 h) a
theorem Fe {α:Type} [Inhabited α] {p:α->Bool} {l:List α} (h:0<=yO p l):(yO p l).toNat<l.length/\yO p l<(l.length:Int)/\p (nth l (yO p l).toNat)=true:=by
 unfold yO at h⊢;cases e:l.findIdx? p with
 |none=>rw[e] at h;exact absurd h (by decide)
 |some i=>
  obtain⟨a,b,_⟩:=ke.1 e;simp only[jm];refine⟨a,by omega,?_⟩;rw[L.wz a];exact b
structure RR (b:BlD):Prop where
 bl:Fc b
 wk:0<=Co b/\Co b<=100000000000000
 tr:0<=NR b/\NR b<=1000000000
theorem ux {b:BlD}:YK b↔RR b:=by
 unfold YK;rw[uw];exact⟨fun⟨a,c,d,e,f⟩=>⟨a,⟨c,d⟩,⟨e,f⟩⟩,fun⟨a,⟨c,d⟩,⟨e,f⟩⟩=>⟨a,c,d,e,f⟩⟩
theorem RT {b:BlD} (h:RR b) {i:Nat} (hi:i<(il (gQ b)).length):0<=Co b*jbZ (nth (il (gQ b)) i)/\Co b*jbZ (nth (il (gQ b)) i)<=10000000000000000:=
 P2 h.wk (CO h.bl.ta.no _ (L.kJ hi)).2
theorem uy {b:BlD} (h:RR b):0<=qf b/\qf b<=10000000000000000:=by
 unfold qf
 split
 rename_i c;have a:=RT h (Fe c.2).1;have:=P3 (b:=100) a.1 (by omega);have e:U.up (Co b*jbZ (nth (il (gQ b)) (UL b).toNat)) 100<=Co b*jbZ (nth (il (gQ b)) (UL b).toNat):=this.2;exact⟨this.1,Int.le_trans e a.2⟩;have:=h.wk;omega
theorem uz {b:BlD} (h:RR b):0<=qB b/\qB b<=1000000000:=by
 unfold qB;have:=h.tr
 split<;>omega
theorem XS {b:BlD} (h:Fc b):(mw (yY (gq b))).toNat<(ci (gQ b)).length:=by
 have:=h.kd;have:=h.ta.sl;omega
theorem XT {b:BlD} (h:Fc b):0<=nth (ci (gQ b)) (mw (yY (gq b))).toNat/\nth (ci (gQ b)) (mw (yY (gq b))).toNat<=100:=h.ta.sb _ (L.kJ (XS h))
theorem P5 {w t cp pc k:Int} {n:Nat} {R:Prop} (i:0<=w/\w<=10000000000000000) (h:0<=t/\t<=1000000000) (g:0<=cp/\cp<=1000000) (e:0<=pc/\pc<=100) (hk:0<=k) (d:k<(n:Int)) (c:R):
 kU (w+t)/\0<=k/\k<(n:Int)/\kU ((w+t)*pc)/\(100:Int)≠0/\kU (((w+t)*pc).tdiv 100)/\kU (w+t)/\kU (w+t-min cp (((w+t)*pc).tdiv 100))/\R:=by
 have a:0<=(w+t)*pc/\(w+t)*pc<=10000001000000000*100:=P2 (by omega) e;have f:=jaB (b:=100) a (by omega);exact⟨iZ6,hk,d,iZ6,by decide,iZ6,iZ6,iZ6,c⟩
theorem jaC {b:BlD} {m:Int} (h:Fc b) (a: -100000<=m/\m<=1440):Fc (gP m b):=by
 unfold gP
 split
 exact⟨h.ta,h.st,h.en,h.e2,h.kd,h.tm,a⟩;exact h
theorem jaD {b:BlD} {m:Int} (h:RR b) (a: -100000<=m/\m<=1440):RR (gP m b):=by
 refine⟨jaC h.bl a,?_,?_⟩;unfold gP
 split
 exact h.wk;exact h.wk;unfold gP
 split
 exact h.tr;exact h.tr
theorem RU {β:Type} (k:Int) (v:β):∀m:List (Int×β),k∉m.map (·.1)->iv .int k v m=m++[(k,v)]
 |[],_=>rfl
 |e::r,h=>by
  have a:k≠e.1:=fun e2=>h (by rw[e2];simp)
  have b:k∉r.map (·.1):=fun d=>h (by simp only[zg];exact jl _ d)
  rw[M.mput_cons (kt:= .int),jc (fun c=>a (ja c)),RU k v r b];rfl
theorem P6 (d:DyD) (n:Nat):(gO d n).Nodup:=by
 unfold gO;exact zJ.2 ((List.nodup_range.filter _).imp fun h e=>h (by omega))
theorem oF (d:DyD):(kB d).Nodup:=by
 unfold kB
 split
 exact P6 d _;exact List.nodup_nil
theorem JM {d:DyD} {n:Int} (h:n∈kB d):0<=n/\n<((kH d).length:Int):=by
 unfold kB at h
 split at h
 unfold gO at h;obtain⟨b,a,rfl⟩:=jG.1 h;have:=jp.1 (jD.1 a).1;omega;cases h
theorem MU {l:LgD} {k:Nat} (h:k<(kB (kE l)).length):Cq l (k+1)=jd7 l (Cq l k) (nth (kB (kE l)) k):=by
 unfold Cq;rw[L.kT h,jz];rfl
theorem XU (l:LgD):∀k,k<=(kB (kE l)).length->Cq l k=((kB (kE l)).take k).map (fun n=>(n,some (wi l n)))
 |0,_=>rfl
 |k+1,hk=>by
  have a:k<(kB (kE l)).length:=by omega
  have d:=L.kT a
  have b:((kB (kE l)).take (k+1)).Nodup:=(oF _).sublist (List.take_sublist _ _)
  rw[d,zK] at b
  rw[MU a,XU l k (by omega),d,j7]
  unfold jd7
  refine RU _ _ _ fun c=> ?_
  rw[kj] at c
  obtain⟨x,f,e⟩:=jG.1 c
  have e:x=nth (kB (kE l)) k:=e
  exact b.2.2 x f _ (by simp) e
theorem Ff (l:LgD):QF l=(kB (kE l)).map (fun n=>(n,some (wi l n))):=by
 unfold QF;rw[XU l _ (jj _),zm]
structure iu (l:LgD):Prop where
 cp:wj (kE l)=0
 crw:kZ (kD (kE l))=true
 jbs:Nr (kE l)=true
 dy:wZ (kE l)=true
 py:(yH l).length=(kH (kE l)).length/\∀n∈yH l,0<=n/\n<=20
 tr:(A5 l).length=(kH (kE l)).length/\∀n∈A5 l,0<=n/\n<=300
 ta:jgg (ak l)
 cl:(wy l).length<=10/\∀c∈wy l,(0<=UU c/\UU c<=99)/\(0<=jfz c/\jfz c<=((kH (kE l)).length:Int)-1)/\-100000<=YZ c/\YZ c<=1440
 cc:aQ (wy l)=false
theorem T8 {d:DyD} (h:wj d=0):kZ (kD d)=true/\Nr d=true/\wZ d=true:=by
 unfold wj at h
 split at h
 rename_i a;exact absurd h a;rename_i a
 split at h
 cases h;rename_i b;have a:Av d=0:=jZ.1 a;unfold Av at a
 split at a
 cases a;rename_i c
 split at a
 cases a;rename_i e;exact⟨by simpa using c,by simpa using e,by simpa using b⟩
theorem gZ {l:LgD} (h:wo l=0):iu l:=by
 unfold wo at h
 split at h
 rename_i a;exact absurd h a;rename_i a;have a:wj (kE l)=0:=jZ.1 a
 split at h
 cases h;rename_i b
 split at h
 cases h;rename_i d;have b:cj l=true:=(by simpa using b);have d:aQ (wy l)=false:=(by simpa using d);obtain⟨p,q,r⟩:=T8 a;unfold cj at b;simp only[ji,jv,jR] at b;obtain⟨⟨⟨f,g⟩,i,j⟩,k,m,o⟩:=b;refine⟨a,p,q,r,⟨f,fun n e=>qZ.1 (g n e)⟩,⟨i,fun n e=>qZ.1 (j n e)⟩,dN.1 k,⟨m,fun c s=> ?_⟩,d⟩;have:=o c s;unfold pi at this;simp only[ji,qZ] at this;exact⟨this.1.1,this.1.2,this.2⟩
theorem Fg {l:LgD} (h:iu l) {n:Int} (e:0<=n/\n<((kH (kE l)).length:Int)):
 (0<=yq (nth (kH (kE l)) n.toNat)/\yq (nth (kH (kE l)) n.toNat)<dp (nth (kH (kE l)) n.toNat)/\dp (nth (kH (kE l)) n.toNat)<=1440)/\
 0<=mw (yY (nth (kH (kE l)) n.toNat))/\mw (yY (nth (kH (kE l)) n.toNat))<=3:=by
 have d:nth (kH (kE l)) n.toNat∈kH (kE l):=L.kJ (by omega);have c:=h.dy;unfold wZ at c;simp only[ji,jR] at c;have b:=c.2.2.1 _ d;unfold mn at b;have b:=ja b;have a:=h.jbs;unfold Nr at a;have a:=jR.1 a _ d;unfold qp at a;have a:=ja a;exact⟨⟨b.2.2.1,b.2.2.2.1,b.2.2.2.2⟩,a.2.2.2.2.2.2.2.2.2.1,a.2.2.2.2.2.2.2.2.2.2.1⟩
theorem RV {l:LgD} (h:iu l) {n:Int} (e:0<=n/\n<((kH (kE l)).length:Int)) {tm:List Int} (f:tm.length<=8):Fc (uZ l n tm):=by
 obtain⟨⟨a,b,c⟩,d⟩:=Fg h e;exact⟨h.ta,a,b,c,d,f,by show-100000<=(0:Int)/\(0:Int)<=1440;omega⟩
theorem uA (t:Int) (n:Nat):(wX t n).length<=n/\∀p∈wX t n,0<=p/\p<(n:Int):=by
 unfold wX;refine⟨?_,fun p c=> ?_⟩;rw[zc];exact jF (zH _ _) (by rw[zt];exact jj _);obtain⟨b,a,rfl⟩:=jG.1 c;have:=jp.1 (jD.1 a).1;omega
theorem jfa {l:LgD} (h:iu l):(kI (kD (kE l))).length<=8:=by
 have a:=h.crw;unfold kZ at a;rw[ji] at a;exact(ja a.1).2.2.1
theorem RW {l:LgD} (h:iu l) {n:Int} (d:0<=n/\n<((kH (kE l)).length:Int)):RR (lS l n):=by
 have g:=jfa h;have f:=(uA (nth (bR (kE l)) n.toNat) (kI (kD (kE l))).length).1;have a:Fc (uZ l n (qc l n (kI (kD (kE l))).length)):=RV h d (by unfold qc;omega);have e:=h.tr.2 _ (L.kJ (show n.toNat<(A5 l).length by rw[h.tr.1];omega));have c:=XQ a;have b:=XR a e;exact⟨⟨a.ta,a.st,a.en,a.e2,a.kd,a.tm,a.mi⟩,c,⟨b.1,Int.le_trans b.2 (by decide)⟩⟩
theorem dO {l:LgD} {n:Int} {k:Nat} (h:k<(wy l).length):kR l n (k+1)=u5 n (kR l n k) (nth (wy l) k):=by
 unfold kR;rw[L.kT h,jz];rfl
theorem HZ {l:LgD} (h:iu l) {n:Int} (a:0<=n/\n<((kH (kE l)).length:Int)):∀k,k<=(wy l).length->RR (kR l n k)
 |0,_=>RW h a
 |k+1,hk=>by
  rw[dO (by omega)]
  unfold u5
  have b:=HZ h a k (by omega)
  split
  exact jaD b (h.cl.2 _ (L.kJ (show k<(wy l).length by omega))).2.2
  exact b
theorem Fh {l:LgD} (h:iu l) {n:Int} (a:0<=n/\n<((kH (kE l)).length:Int)):RR (wi l n):=HZ h a _ (jj _)
theorem T9 (m:Int) (b:BlD):gq (gP m b)=gq b/\gQ (gP m b)=gQ b/\UV (gP m b)=UV b/\UK (gP m b)=UK b/\qz (gP m b)=qz b/\Co (gP m b)=Co b/\NR (gP m b)=NR b:=by
 unfold gP
 split
 exact⟨rfl,rfl,rfl,rfl,rfl,rfl,rfl⟩;exact⟨rfl,rfl,rfl,rfl,rfl,rfl,rfl⟩
theorem qX (l:LgD) (n:Int):∀k,k<=(wy l).length->gq (kR l n k)=gq (lS l n)/\gQ (kR l n k)=gQ (lS l n)/\UV (kR l n k)=UV (lS l n)/\UK (kR l n k)=UK (lS l n)/\qz (kR l n k)=qz (lS l n)/\
 Co (kR l n k)=Co (lS l n)/\NR (kR l n k)=NR (lS l n)
 |0,_=>⟨rfl,rfl,rfl,rfl,rfl,rfl,rfl⟩
 |k+1,hk=>by
  rw[dO (by omega)]
  unfold u5
  have a:=qX l n k (by omega)
  split
  obtain⟨c1,c2,b,c,d,e,f⟩:=T9 (YZ (nth (wy l) k)) (kR l n k)
  rw[c1,c2,b,c,d,e,f];exact a
  exact a
open Go.Proofs
abbrev blS:Sh:= .box 116 [.dat .int,.dat .int,.dat .int,.dat .int,.dat .int,.dat .int,.dat .int,.dat .int,.dat .int,.dat .int,.dat .int,.dat .int,.dat .int,.dat .int,.dat .int,.dat .int,.dat .int,.dat (.slice .int),.dat (.slice tNo),.dat .int,.dat .int,.dat (.slice .int),.dat .int,.dat .int,.dat .bool,.dat .int]
def blX (x:Sh.D blS) (w t:Int) (c:Bool) (m:Int):Sh.D blS:=(x.1,x.2.1,x.2.2.1,x.2.2.2.1,x.q4.1,x.q4.2.1,x.q4.2.2.1,x.q4.2.2.2.1,x.q4.q4.1,x.q4.q4.2.1,x.q4.q4.2.2.1,x.q4.q4.2.2.2.1,x.q4.q4.q4.1,x.q4.q4.q4.2.1,x.q4.q4.q4.2.2.1,x.q4.q4.q4.2.2.2.1,x.q4.q4.q4.q4.1,x.q4.q4.q4.q4.2.1,x.q4.q4.q4.q4.2.2.1,x.q4.q4.q4.q4.2.2.2.1,x.q4.q4.q4.q4.q4.1,x.q4.q4.q4.q4.q4.2.1,w,t,c,m,())
namespace U
def vn (x:Sh.D blS):BlD:=
 (((x.1,x.2.1,x.2.2.1,x.2.2.2.1,x.q4.1,x.q4.2.1,()),x.q4.2.2.1,x.q4.2.2.2.1,x.q4.q4.1,()),
  (x.q4.q4.2.1,x.q4.q4.2.2.1,x.q4.q4.2.2.2.1,x.q4.q4.q4.1,x.q4.q4.q4.2.1,x.q4.q4.q4.2.2.1,x.q4.q4.q4.2.2.2.1,x.q4.q4.q4.q4.1,x.q4.q4.q4.q4.2.1,x.q4.q4.q4.q4.2.2.1,()),
  x.q4.q4.q4.q4.2.2.2.1,x.q4.q4.q4.q4.q4.1,x.q4.q4.q4.q4.q4.2.1,x.q4.q4.q4.q4.q4.2.2.1,x.q4.q4.q4.q4.q4.2.2.2.1,x.q4.q4.q4.q4.q4.q4.1,x.q4.q4.q4.q4.q4.q4.2.1,())
def jfA (m:Int) (b:BlD):Bool:=xb (gP m b)
def jfB (m:Int) (b:BlD):Int:=sE (gP m b)
def YL (m:Int) (c:CaD):Bool:=(kA (UU c) 0 99&&kA (jfz c) 0 (m-1))&&kA (YZ c) (-100000) 1440
end U
def aJ:wD:=⟨[.val .int,.val .int,.val .int],[.bool],false,fun _=>[],fun d=>(kA d.1 d.2.1 d.2.2.1,())⟩
def P7:Prop:=∀(d:CaD),(decide (d.2.1<=d.1)&&decide (d.1<=d.2.2.1),())=(kA d.1 d.2.1 d.2.2.1,())
def cv:wD:=⟨[.val .int],[.bool],false,fun _=>[],fun d=>(U.share d.1,())⟩
def Ua:Prop:=∀(d:Int×Unit),(kA d.1 (0:Int) (100:Int),())=(U.share d.1,())
def mf:wD:=⟨[.val (.slice tNo),.fn [tNo] [.bool]],[.int],false,fun d=>[∀g∈d.1,kV (d.2.1.pre (g,()))],fun d=>(yO (kC (α:=NoD) d.2.1.F) d.1,())⟩
def mg:Ann:=fun r=>match r with
 |2=>some fun σ=>{X:=Nat,sl:=fun i=>[(8,.dat .int (i:Int))],ob:=fun _=>[],inv:=fun i=>i<=(gd (.slice tNo) σ 0).length/\∀b:Nat,b<i->kC (gfb tNo σ 1) (nth (gd (.slice tNo) σ 0) b)=false,mu:=fun i=>(gd (.slice tNo) σ 0).length-i}
 |_=>none
def mh:Prop:=∀(d:List (Int×Int×Unit)×FnD [tNo] [Ty.bool]×Unit),(∀(g:Int×Int×Unit),g∈d.1->kV (d.2.1.1 (g,())))->d.1.length<4611686018427387904->(∃(x:Nat),((0=(x:Int)/\True)/\True)/\x<=d.1.length/\∀(b:Nat),b<x->kC d.2.1.2 (nth d.1 b)=false)/\∀(x:Nat),(x<=d.1.length/\∀(b:Nat),b<x->kC d.2.1.2 (nth d.1 b)=false)->(decide ((x:Int)<d.1.length)=true->0<=(x:Int)/\(x:Int)<d.1.length/\asks (d.2.1.1 (nth d.1 x,())) (((d.2.1.2 (nth d.1 x,())).1=true->((x:Int),())=(yO (kC d.2.1.2) d.1,()))/\((d.2.1.2 (nth d.1 x,())).1=false->kU ((x:Int)+1)/\∃(a:Nat),(((x:Int)+1=(a:Int)/\True)/\True)/\(a<=d.1.length/\∀(b:Nat),b<a->kC d.2.1.2 (nth d.1 b)=false)/\d.1.length-a<d.1.length-x)))/\(decide ((x:Int)<d.1.length)=false->((-1:Int),())=(yO (kC d.2.1.2) d.1,()))
def pa:wD:=⟨[.val (.slice tCa),.fn [tCa] [.bool]],[.int],false,fun d=>[∀g∈d.1,kV (d.2.1.pre (g,()))],fun d=>(yO (kC (α:=CaD) d.2.1.F) d.1,())⟩
def pd:Ann:=fun r=>match r with
 |2=>some fun σ=>{X:=Nat,sl:=fun i=>[(8,.dat .int (i:Int))],ob:=fun _=>[],inv:=fun i=>i<=(gd (.slice tCa) σ 0).length/\∀b:Nat,b<i->kC (gfb tCa σ 1) (nth (gd (.slice tCa) σ 0) b)=false,mu:=fun i=>(gd (.slice tCa) σ 0).length-i}
 |_=>none
def pe:Prop:=∀(d:List CaD×FnD [tCa] [Ty.bool]×Unit),(∀(g:CaD),g∈d.1->kV (d.2.1.1 (g,())))->d.1.length<4611686018427387904->(∃(x:Nat),((0=(x:Int)/\True)/\True)/\x<=d.1.length/\∀(b:Nat),b<x->kC d.2.1.2 (nth d.1 b)=false)/\∀(x:Nat),(x<=d.1.length/\∀(b:Nat),b<x->kC d.2.1.2 (nth d.1 b)=false)->(decide ((x:Int)<d.1.length)=true->0<=(x:Int)/\(x:Int)<d.1.length/\asks (d.2.1.1 (nth d.1 x,())) (((d.2.1.2 (nth d.1 x,())).1=true->((x:Int),())=(yO (kC d.2.1.2) d.1,()))/\((d.2.1.2 (nth d.1 x,())).1=false->kU ((x:Int)+1)/\∃(a:Nat),(((x:Int)+1=(a:Int)/\True)/\True)/\(a<=d.1.length/\∀(b:Nat),b<a->kC d.2.1.2 (nth d.1 b)=false)/\d.1.length-a<d.1.length-x)))/\(decide ((x:Int)<d.1.length)=false->((-1:Int),())=(yO (kC d.2.1.2) d.1,()))
def lr:wD:=⟨[.val (.slice tCa),.fn [tCa] [.bool]],[.bool],false,fun d=>[∀g∈d.1,kV (d.2.1.pre (g,()))],fun d=>(d.1.any (kC (α:=CaD) d.2.1.F),())⟩
def ls:Prop:=∀(d:List CaD×FnD [tCa] [Ty.bool]×Unit),(∀(g:CaD),g∈d.1->kV (d.2.1.1 (g,())))->(∀(g:CaD),g∈d.1->kV (d.2.1.1 (g,())))/\(decide (0<=yO (kC d.2.1.2) d.1),())=(d.1.any (kC d.2.1.2),())
def BQ:wD:=⟨[.val .int,.rfn [.int] [.bool]],[.bool],false,fun d=>[kV (d.2.1.pre (d.1,()))],fun d=>(!(kC (α:=Int) d.2.1.F d.1),())⟩
def BR:Prop:=∀(d:Int×FnD [Ty.int] [Ty.bool]×Unit),kV (d.2.1.1 (d.1,()))->asks (d.2.1.1 (d.1,())) ((!(d.2.1.2 (d.1,())).1,())=(!kC d.2.1.2 d.1,()))
def d8:wD:=⟨[.val (.slice .int),.fn [.int] [.bool]],[.bool],false,fun d=>[∀g∈d.1,kV (d.2.1.pre (g,()))],fun d=>(d.1.all (kC (α:=Int) d.2.1.F),())⟩
def Gx:Prop:=∀(d:List Int×FnD [Ty.int] [Ty.bool]×Unit),(∀(g:Int),g∈d.1->kV (d.2.1.1 (g,())))->(∀(g:Int),g∈d.1->kV [kV (d.2.1.1 (g,()))])/\(!d.1.any (kC fun(a:Int×Unit)=>(!kC d.2.1.2 a.1,())),())=(d.1.all (kC d.2.1.2),())
def Ad:wD:=⟨[.val tCa,.rfn [tCa] [.bool]],[.bool],false,fun d=>[kV (d.2.1.pre (d.1,()))],fun d=>(!(kC (α:=CaD) d.2.1.F d.1),())⟩
def Ae:Prop:=∀(d:CaD×FnD [tCa] [Ty.bool]×Unit),kV (d.2.1.1 (d.1,()))->asks (d.2.1.1 (d.1,())) ((!(d.2.1.2 (d.1,())).1,())=(!kC d.2.1.2 d.1,()))
def Fi:wD:=⟨[.val (.slice tCa),.fn [tCa] [.bool]],[.bool],false,fun d=>[∀g∈d.1,kV (d.2.1.pre (g,()))],fun d=>(d.1.all (kC (α:=CaD) d.2.1.F),())⟩
def Fj:Prop:=∀(d:List CaD×FnD [tCa] [Ty.bool]×Unit),(∀(g:CaD),g∈d.1->kV (d.2.1.1 (g,())))->(∀(g:CaD),g∈d.1->kV [kV (d.2.1.1 (g,()))])/\(!d.1.any (kC fun(a:CaD×Unit)=>(!kC d.2.1.2 a.1,())),())=(d.1.all (kC d.2.1.2),())
def MV:wD:=⟨[.val tCa,.ref .int],[.bool],false,fun d=>[0<=d.2.1,d.2.1<=4611686018427387904],fun d=>(YL d.2.1 d.1,())⟩
def MW:Prop:=∀(d:CaD×Int×Unit),0<=d.2.1->d.2.1<=4611686018427387904->(kA d.1.1 (0:Int) 99=true->kU (d.2.1-1))/\(kA d.1.1 (0:Int) (99:Int)&&kA d.1.2.1 (0:Int) (d.2.1-1)&&kA d.1.2.2.1 (-100000:Int) (1440:Int),())=(YL d.2.1 d.1,())
def MX:wD:=⟨[.val .int],[.bool],false,fun _=>[],fun d=>(NF d.1,())⟩
def MY:Prop:=∀(d:Int×Unit),(kA d.1 (0:Int) (20:Int),())=(NF d.1,())
def MZ:wD:=⟨[.val .int],[.bool],false,fun _=>[],fun d=>(A7 d.1,())⟩
def M0:Prop:=∀(d:Int×Unit),(kA d.1 (0:Int) (300:Int),())=(A7 d.1,())
def jdu:wD:=⟨[.val .int,.val .int],[.int],false,fun d=>[0<=d.1,0<d.2.1,d.1<=4611686018427387904,d.2.1<=1000000000],fun d=>(U.up d.1 d.2.1,())⟩
def jdv:Prop:=∀(d:Int×Int×Unit),0<=d.1->0<d.2.1->d.1<=4611686018427387904->d.2.1<=1000000000->kU (d.1+d.2.1)/\kU (d.1+d.2.1-1)/\d.2.1≠0/\kU ((d.1+d.2.1-1).tdiv d.2.1)/\((d.1+d.2.1-1).tdiv d.2.1,())=(U.up d.1 d.2.1,())
def P8:wD:=⟨[.val tBo],[.bool],false,fun _=>[],fun _=>(true,())⟩
def P9:Prop:=∀(_:BoD×Unit),(true,())=(true,())
def uB:wD:=⟨[.val tBo,.val .int],[.bool],false,fun d=>[(kH (kE (cW d.1))).length<=100],fun d=>(Kr d.1 d.2.1,())⟩
def uC:Prop:=∀(d:BoD×Int×Unit),(kH (kE (cW d.1))).length<=100->d.1.1.1.2.2.1.length<4611686018427387904->kU ((d.1.1.1.2.2.1.length:Int)-1)/\(kA d.2.1 (0:Int) ((d.1.1.1.2.2.1.length:Int)-1),())=(Kr d.1 d.2.1,())
def Fk:wD:=⟨[.ref tBl],[.int],false,fun d=>[GZ d.1],fun d=>(y8 d.1,())⟩
abbrev jkq (d:BlD×Unit):=(min d.1.1.2.2.2.1 d.1.2.1.q4.1-d.1.1.2.2.1)
abbrev jkr (d:BlD×Unit):=(d.1.1.2.2.2.1-max d.1.1.2.2.1 d.1.2.1.2.2.2.1)
def Fl:Prop:=∀(d:BlD×Unit),GZ d.1->kU (jkr d)/\kU (jkq d)/\kU (max (0:Int) (jkr d)+max (0:Int) (jkq d))/\(max (0:Int) (jkr d)+max (0:Int) (jkq d),())=(y8 d.1,())
def BS:qC:=⟨[.own blS true,.val .int],[],fun d=>[GZ (vn d.1),0<=d.2.1,d.2.1<=300],fun d=>((),(blX d.1 (ca (vn d.1)) (cX d.2.1 (vn d.1)) (xb (vn d.1)) (sE (vn d.1)),()))⟩
abbrev jiB (d:XbD×Int×Unit):=(d.1.q4.q4.1-d.1.q4.2.2.2.1)
abbrev jim (d:XbD×Int×Unit):=(U.up (jiB d) d.1.q4.q4.2.1)
abbrev jhS (d:XbD×Int×Unit):=d.1.q4.q4.2.2.2.1
abbrev jhK (d:XbD×Int×Unit):=d.1.q4.q4.2.2.1
abbrev jiC (d:XbD×Int×Unit):=d.1.q4.q4.q4.2.2.1
abbrev jiZ (d:XbD×Int×Unit):=d.1.q4.q4.q4.2.2.2.1
abbrev jjO (d:XbD×Int×Unit):=d.1.q4.q4.q4.q4.q4.2.1
abbrev jhL (d:XbD×Int×Unit):=((jjO d).length:Int)
abbrev jks (d:XbD×Int×Unit):=d.1.q4.q4.q4.q4.q4.1
abbrev jkt (d:XbD×Int×Unit):=d.1.q4.q4.q4.q4.2.2.2.1
abbrev jjP (d:XbD×Int×Unit):=(((d.1.1,d.1.2.1,d.1.2.2.1,d.1.2.2.2.1,d.1.q4.1,d.1.q4.2.1,()),d.1.q4.2.2.1,d.1.q4.2.2.2.1,d.1.q4.q4.1,()),(d.1.q4.q4.2.1,(jhK d),(jhS d),d.1.q4.q4.q4.1,d.1.q4.q4.q4.2.1,(jiC d),(jiZ d),d.1.q4.q4.q4.q4.1,d.1.q4.q4.q4.q4.2.1,d.1.q4.q4.q4.q4.2.2.1,()),(jkt d),(jks d),(jjO d),(jhL d)*(jhK d)*max (jhS d) (jim d),d.1.q4.q4.q4.q4.q4.2.2.2)
abbrev jku (d:XbD×Int×Unit):=((jhL d)*(jhK d)*max (jhS d) (jim d)*(jiC d)*y8 (jjP d))
def BU:Prop:=∀(d:XbD×Int×Unit),GZ (vn d.1)->0<=d.2.1->d.2.1<=300->kU (jiB d)/\kU ((jhL d)*(jhK d))/\0<=d.1.q4.q4.1-d.1.q4.2.2.2.1/\0<d.1.q4.q4.2.1/\d.1.q4.q4.1-d.1.q4.2.2.2.1<=4611686018427387904/\d.1.q4.q4.2.1<=1000000000/\kU ((jhL d)*(jhK d)*max (jhS d) (jim d))/\kU ((jhL d)*(jhK d)*max (jhS d) (jim d)*(jiC d))/\GZ (jjP d)/\kU (jku d)/\kU ((100:Int)*(jiB d))/\0<=(jhL d)*(jhK d)*max (jhS d) (jim d)*(jiC d)*y8 (jjP d)/\(0:Int)<100*(jiB d)/\(jhL d)*(jhK d)*max (jhS d) (jim d)*(jiC d)*y8 (jjP d)<=4611686018427387904/\(100:Int)*(jiB d)<=1000000000/\kU ((jhL d)*(jhK d)*max (jhS d) (jim d)+U.up (jku d) ((100:Int)*(jiB d)))/\kU ((jhL d)*(jiZ d))/\kU ((jhL d)*(jiZ d)*d.2.1)/\()=()/\((d.1.1,d.1.2.1,d.1.2.2.1,d.1.2.2.2.1,d.1.q4.1,d.1.q4.2.1,d.1.q4.2.2.1,d.1.q4.2.2.2.1,d.1.q4.q4.1,d.1.q4.q4.2.1,(jhK d),(jhS d),d.1.q4.q4.q4.1,d.1.q4.q4.q4.2.1,(jiC d),(jiZ d),d.1.q4.q4.q4.q4.1,d.1.q4.q4.q4.q4.2.1,d.1.q4.q4.q4.q4.2.2.1,(jkt d),(jks d),(jjO d),(jhL d)*(jhK d)*max (jhS d) (jim d)+U.up (jku d) ((100:Int)*(jiB d)),(jhL d)*(jiZ d)*d.2.1,d.1.q4.q4.q4.q4.q4.q4),())=((d.1.1,d.1.2.1,d.1.2.2.1,d.1.2.2.2.1,d.1.q4.1,d.1.q4.2.1,d.1.q4.2.2.1,d.1.q4.2.2.2.1,d.1.q4.q4.1,d.1.q4.q4.2.1,(jhK d),(jhS d),d.1.q4.q4.q4.1,d.1.q4.q4.q4.2.1,(jiC d),(jiZ d),d.1.q4.q4.q4.q4.1,d.1.q4.q4.q4.q4.2.1,d.1.q4.q4.q4.q4.2.2.1,(jkt d),(jks d),(jjO d),ca (vn d.1),cX d.2.1 (vn d.1),xb (vn d.1),sE (vn d.1),()),())
def Gy:qC:=⟨[.own blS true,.val .int],[],fun _=>[],fun d=>((),(blX d.1 (Co (vn d.1)) (NR (vn d.1)) (jfA d.2.1 (vn d.1)) (jfB d.2.1 (vn d.1)),()))⟩
abbrev jk9 (d:XbD×Int×Unit):=((d.1.1,d.1.2.1,d.1.2.2.1,d.1.2.2.2.1,d.1.q4.1,d.1.q4.2.1,d.1.q4.2.2.1,d.1.q4.2.2.2.1,d.1.q4.q4.1,d.1.q4.q4.2.1,d.1.q4.q4.2.2.1,d.1.q4.q4.2.2.2.1,d.1.q4.q4.q4.1,d.1.q4.q4.q4.2.1,d.1.q4.q4.q4.2.2.1,d.1.q4.q4.q4.2.2.2.1,d.1.q4.q4.q4.q4.1,d.1.q4.q4.q4.q4.2.1,d.1.q4.q4.q4.q4.2.2.1,d.1.q4.q4.q4.q4.2.2.2.1,d.1.q4.q4.q4.q4.q4.1,d.1.q4.q4.q4.q4.q4.2.1,Co (vn d.1),NR (vn d.1),jfA d.2.1 (vn d.1),jfB d.2.1 (vn d.1),()),())
abbrev jla (d:XbD×Int×Unit):=(decide (d.2.1<=d.1.q4.2.2.2.1)&&(!d.1.q4.q4.q4.q4.q4.q4.1||decide (d.2.1<d.1.q4.q4.q4.q4.q4.q4.2.1)))
def Gz:Prop:=∀(d:XbD×Int×Unit),((jla d)=true->()=()/\((d.1.1,d.1.2.1,d.1.2.2.1,d.1.2.2.2.1,d.1.q4.1,d.1.q4.2.1,d.1.q4.2.2.1,d.1.q4.2.2.2.1,d.1.q4.q4.1,d.1.q4.q4.2.1,d.1.q4.q4.2.2.1,d.1.q4.q4.2.2.2.1,d.1.q4.q4.q4.1,d.1.q4.q4.q4.2.1,d.1.q4.q4.q4.2.2.1,d.1.q4.q4.q4.2.2.2.1,d.1.q4.q4.q4.q4.1,d.1.q4.q4.q4.q4.2.1,d.1.q4.q4.q4.q4.2.2.1,d.1.q4.q4.q4.q4.2.2.2.1,d.1.q4.q4.q4.q4.q4.1,d.1.q4.q4.q4.q4.q4.2.1,d.1.q4.q4.q4.q4.q4.2.2.1,d.1.q4.q4.q4.q4.q4.2.2.2.1,true,d.2),())=(jk9 d))/\((jla d)=false->()=()/\(d.1,())=(jk9 d))
def BV:wD:=⟨[.val tNo,.ref tBl],[.bool],false,fun d=>[GZ d.2.1],fun d=>(im d.2.1 d.1,())⟩
def BW:Prop:=∀(d:(Int×Int×Unit)×BlD×Unit),GZ d.2.1->kU (d.2.1.1.2.2.1-d.2.1.q4.q4.1)/\(decide (d.1.1<=d.2.1.1.2.2.1-d.2.1.q4.q4.1),())=(im d.2.1 d.1,())
def GA:wD:=⟨[.val tBl],[tLn],false,fun d=>[YK d.1],fun d=>(vH d.1,())⟩
abbrev jjj (d:BlD×Unit):=(kC fun(a:(Int×Int×Unit)×Unit)=>(im d.1 a.1,()))
abbrev jib (d:BlD×Unit):=d.1.2.1.q4.2.2.2.1
abbrev jin (d:BlD×Unit):=d.1.2.1.q4.q4.2.1
abbrev jkv (d:BlD×Unit):=(nth (jin d) (yO (jjj d) (jin d)).toNat)
abbrev jhD (d:BlD×Unit):=d.1.q4.2.1
abbrev jjk (d:BlD×Unit):=(((jhD d)+d.1.q4.2.2.1)*nth d.1.2.1.q4.q4.1 d.1.1.1.q4.1.toNat)
abbrev jjl (d:BlD×Unit):=(((jhD d)+0)*nth d.1.2.1.q4.q4.1 d.1.1.1.q4.1.toNat)
abbrev jiD (d:BlD×Unit):=((jhD d)*(jkv d).2.1)
abbrev jjm (d:BlD×Unit):=((U.up (jiD d) (100:Int)+0)*nth d.1.2.1.q4.q4.1 d.1.1.1.q4.1.toNat)
abbrev jkw (d:BlD×Unit):=(d.1.2.1.q4.q4.1.length:Int)
def GB:Prop:=∀(d:BlD×Unit),YK d.1->(d.1.q4.2.2.2.1=true->(∀(g:Int×Int×Unit),g∈(jin d)->kV [GZ d.1])/\(decide (0<=yO (jjj d) (jin d))=true->0<=yO (jjj d) (jin d)/\yO (jjj d) (jin d)<((jin d).length:Int)/\kU (jiD d)/\0<=(jhD d)*(jkv d).2.1/\(0:Int)<100/\(jhD d)*(jkv d).2.1<=4611686018427387904/\(100:Int)<=1000000000/\kU (U.up (jiD d) (100:Int)+0)/\0<=d.1.1.1.q4.1/\d.1.1.1.q4.1<(jkw d)/\kU (jjm d)/\(100:Int)≠0/\kU ((jjm d).tdiv (100:Int))/\kU (U.up (jiD d) (100:Int)+0)/\kU (U.up (jiD d) (100:Int)+0-min (jib d) ((jjm d).tdiv (100:Int)))/\((d.1.2.2.2.1,d.1.2.2.1,U.up (jiD d) (100:Int),(0:Int),min (jib d) ((jjm d).tdiv (100:Int)),U.up (jiD d) (100:Int)+0-min (jib d) ((jjm d).tdiv (100:Int)),()),())=(vH d.1,()))/\(decide (0<=yO (jjj d) (jin d))=false->kU ((jhD d)+0)/\0<=d.1.1.1.q4.1/\d.1.1.1.q4.1<(jkw d)/\kU (jjl d)/\(100:Int)≠0/\kU ((jjl d).tdiv (100:Int))/\kU ((jhD d)+0)/\kU ((jhD d)+0-min (jib d) ((jjl d).tdiv (100:Int)))/\((d.1.2.2.2.1,d.1.2.2.1,(jhD d),(0:Int),min (jib d) ((jjl d).tdiv (100:Int)),(jhD d)+0-min (jib d) ((jjl d).tdiv (100:Int)),()),())=(vH d.1,())))/\(d.1.q4.2.2.2.1=false->kU ((jhD d)+d.1.q4.2.2.1)/\0<=d.1.1.1.q4.1/\d.1.1.1.q4.1<(jkw d)/\kU (jjk d)/\(100:Int)≠0/\kU ((jjk d).tdiv (100:Int))/\kU ((jhD d)+d.1.q4.2.2.1)/\kU ((jhD d)+d.1.q4.2.2.1-min (jib d) ((jjk d).tdiv (100:Int)))/\((d.1.2.2.2.1,d.1.2.2.1,(jhD d),d.1.q4.2.2.1,min (jib d) ((jjk d).tdiv (100:Int)),(jhD d)+d.1.q4.2.2.1-min (jib d) ((jjk d).tdiv (100:Int)),()),())=(vH d.1,()))
theorem Ub:P7:=fun _=>rfl
theorem gE:wN PR 60 aJ:=wt Ub Tryz.func60 kcN koN
theorem XV:Ua:=fun _=>rfl
theorem H2:wN PR 124 cv:=wt XV Tryz.func124 (kcC gE kcN) koN
theorem nR:mh:=by
 rintro⟨l,f,⟨⟩⟩ a g;refine⟨⟨0,⟨⟨rfl,tZ⟩,tZ⟩,jt _,fun b c=>by omega⟩,fun i hi=>⟨fun h=> ?_,fun h=> ?_⟩⟩;have h:i<l.length:=(by simpa using h);simp only at*;refine⟨by omega,by omega,vo _ (a _ (L.kJ h)) ⟨fun c=> ?_,fun c=>⟨iZ6,i+1,⟨⟨by simp,tZ⟩,tZ⟩,⟨by omega,fun b d=> ?_⟩,by omega⟩⟩⟩;rw[yp (p:=kC (α:=NoD) f.F) h hi.2 c];by_cases e:b=i;subst e;exact c;exact hi.2 b (by omega);have h:l.length<=i:=(by simpa using h);rw[qW (p:=kC (α:=NoD) f.F) h hi.2]
theorem mj:wN PR 90 mf:=vZ mg nR Tryz.func90 kcN koN
theorem sj:pe:=by
 rintro⟨l,f,⟨⟩⟩ a g;refine⟨⟨0,⟨⟨rfl,tZ⟩,tZ⟩,jt _,fun b c=>by omega⟩,fun i hi=>⟨fun h=> ?_,fun h=> ?_⟩⟩;have h:i<l.length:=(by simpa using h);simp only at*;refine⟨by omega,by omega,vo _ (a _ (L.kJ h)) ⟨fun c=> ?_,fun c=>⟨iZ6,i+1,⟨⟨by simp,tZ⟩,tZ⟩,⟨by omega,fun b d=> ?_⟩,by omega⟩⟩⟩;rw[yp (p:=kC (α:=CaD) f.F) h hi.2 c];by_cases e:b=i;subst e;exact c;exact hi.2 b (by omega);have h:l.length<=i:=(by simpa using h);rw[qW (p:=kC (α:=CaD) f.F) h hi.2]
theorem pf:wN PR 181 pa:=vZ pd sj Tryz.func181 kcN koN
theorem ml:ls:=by
 rintro⟨l,f,⟨⟩⟩ a;refine⟨a,?_⟩;exact jP (·,()) (iV (kC (α:=CaD) f.F) l)
theorem lu:wN PR 126 lr:=wt ml Tryz.func126 (kcC pf kcN) koN
theorem Fm:BR:=by
 intro d h;exact vo _ h rfl
theorem BX:wN PR 122 BQ:=wt Fm Tryz.func122 kcN koN
theorem JN:Gx:=by
 intro d h;exact⟨fun g a=>⟨h g a,tZ⟩,jP (·,()) (tK d.snd.fst.2 d.fst)⟩
theorem pD:wN PR 82 d8:=wt JN Tryz.func82 (kcC yw (kcC BX kcN)) koN
theorem BY:Ae:=by
 intro d h;exact vo _ h rfl
theorem Af:wN PR 127 Ad:=wt BY Tryz.func127 kcN koN
theorem GC:Fj:=by
 intro d h;exact⟨fun g a=>⟨h g a,tZ⟩,jP (·,()) (tK d.snd.fst.2 d.fst)⟩
theorem Fo:wN PR 86 Fi:=wt GC Tryz.func86 (kcC lu (kcC Af kcN)) koN
theorem Qa:MW:=by
 rintro⟨c,m,⟨⟩⟩ a b;have a:0<=m:=a;have b:m<=4611686018427387904:=b;exact⟨fun _=>L.Cs (by show _<=m-1;omega) (by show m-1<=_;omega),rfl⟩
theorem M1:wN PR 81 MV:=wt Qa Tryz.func81 (kcC gE kcN) koN
theorem Qb:MY:=fun _=>rfl
theorem M2:wN PR 83 MX:=wt Qb Tryz.func83 (kcC gE kcN) koN
theorem Qc:M0:=fun _=>rfl
theorem M3:wN PR 84 MZ:=wt Qc Tryz.func84 (kcC gE kcN) koN
theorem jfb:jdv:=by
 rintro⟨a,b,⟨⟩⟩ c d e f;have c:0<=a:=c;have d:0<b:=d;have e:a<=4611686018427387904:=e;have f:b<=1000000000:=f;have g:=P3 c d;refine⟨L.Cs (by show _<=a+b;omega) (by show a+b<=_;omega),L.Cs (by show _<=a+b-1;omega) (by show a+b-1<=_;omega),by show b≠0;omega,Fb (x:=U.up a b) (B:=4611686018427387904) ⟨g.1,by omega⟩ (by omega),rfl⟩
theorem XW:wN PR 88 jdu:=wt jfb Tryz.func88 kcN koN
theorem Uc:P9:=fun _=>rfl
theorem sk:wN PR 25 P8:=wt Uc Tryz.func25 kcN koN
theorem Ag:uC:=by
 intro d a b;have a:(kH (kE (cW d.1))).length<=100:=a;exact⟨L.Cs (by show _<=((kH (kE (cW d.1))).length:Int)-1;omega) (by show((kH (kE (cW d.1))).length:Int)-1<=_;omega),rfl⟩
theorem uD:wN PR 30 uB:=wt Ag Tryz.func30 (kcC gE kcN) koN
theorem GD:Fl:=by
 unfold Fl jkr jkq Prod.q4;rintro⟨b,⟨⟩⟩ a;have h:Fc b:=uw.1 a;have d:=h.st;have e:=h.en;have f:=h.e2;have g:=h.ta.dk;have i:=h.ta.dw;have c:=RQ h;refine⟨?_,?_,Fb (B:=2880) c (by omega),rfl⟩;show kU (dp (gq b)-max (yq (gq b)) (jbd (gQ b)));exact iZ6;show kU (min (dp (gq b)) (jd6 (gQ b))-yq (gq b));exact iZ6
theorem Fp:wN PR 89 Fk:=wt GD Tryz.func89 kcN koN
theorem Fq:BU:=by
 unfold BU jku jjP jkt jks jhL jjO jiZ jiC jhK jhS jim jiB Prod.q4;intro d k v w;obtain⟨b,B⟩:∃b,b=vn d.1:=⟨_,rfl⟩;have h:Fc (vn d.1):=uw.1 k;have x:=h.st;have y:=h.en;have z:=h.e2;have A:=h.ta.un;have l:=je7 h;have j:=jbO h;have m:=XQ h;have n:kU (dp (gq (vn d.1))-yq (gq (vn d.1))):=iZ6;have e2:0<=dp (gq (vn d.1))-yq (gq (vn d.1)):=(by omega);have o:0<UI (gQ (vn d.1)):=(by omega);have p:dp (gq (vn d.1))-yq (gq (vn d.1))<=4611686018427387904:=(by omega);have q:UI (gQ (vn d.1))<=1000000000:=(by omega);have r:kU (100*(dp (gq (vn d.1))-yq (gq (vn d.1)))):=iZ6;have s:100*(dp (gq (vn d.1))-yq (gq (vn d.1)))<=1000000000:=(by omega);have t:kU (ca (vn d.1)):=Fb m (by omega);have u:kU (cX d.2.1 (vn d.1)):=Fb (XR h ⟨v,w⟩) (by omega);have a:=Fb (je5 h) (by omega);have c:=Fb (P4 h) (by omega);have e:=Fb (je6 h) (by omega);have f:=Fb j (by omega);have g:nZ (vn d.1)*Ky (gQ (vn d.1))*y8 (vn d.1)<=4611686018427387904:=(by omega);have i:=Fb (je9 h) (by omega);exact⟨n,a,e2,o,p,q,c,e,k,f,r,j.1,l.1,g,s,t,i,u,rfl,rfl⟩
theorem BZ:ga PR 51 BS:=AW Fq Tryz.func51 (kcC XW (kcC Fp kcN)) koN
theorem JO:Gz:=by
 unfold Gz jla jk9 Prod.q4;intro d;have a:(decide (d.2.1<=yq (gq (vn d.1)))&&(!xb (vn d.1)||decide (d.2.1<sE (vn d.1))))=true↔(d.2.1<=yq (gq (vn d.1))/\(xb (vn d.1)=false\/d.2.1<sE (vn d.1))):=by
  simp only[ji,zG,jv,jV]
 refine⟨fun h=>⟨rfl,?_⟩,fun h=>⟨rfl,?_⟩⟩;have e:gP d.2.1 (vn d.1)=(gq (vn d.1),gQ (vn d.1),UV (vn d.1),UK (vn d.1),qz (vn d.1),Co (vn d.1),NR (vn d.1),true,d.2.1,()):=by
  unfold gP;rw[jd (a.1 h)]
 have b:jfA d.2.1 (vn d.1)=true:=jP xb e;have e2:jfB d.2.1 (vn d.1)=d.2.1:=jP sE e;rw[b,e2];rfl;have h:(decide (d.2.1<=yq (gq (vn d.1)))&&(!xb (vn d.1)||decide (d.2.1<sE (vn d.1))))=false:=h;have e:gP d.2.1 (vn d.1)=vn d.1:=by
  unfold gP;rw[jc (fun c=>by rw[a.2 c] at h;cases h)]
 have b:jfA d.2.1 (vn d.1)=xb (vn d.1):=jP xb e;have e2:jfB d.2.1 (vn d.1)=sE (vn d.1):=jP sE e;rw[b,e2];rfl
theorem GF:ga PR 52 Gy:=AW JO Tryz.func52 kcN koN
theorem Fr:BW:=by
 unfold BW Prod.q4;rintro⟨n,b,⟨⟩⟩ a;have h:Fc b:=uw.1 a;have c:=h.st;have d:=h.en;have e:=h.e2;have f:=h.mi;refine⟨?_,rfl⟩;show kU (yq (gq b)-sE b);exact iZ6
theorem B4:wN PR 91 BV:=wt Fr Tryz.func91 kcN koN
theorem JP:GB:=by
 unfold GB jkw jjm jiD jjl jjk jhD jkv jin jib jjj Prod.q4;rintro⟨b,⟨⟩⟩ m;have h:RR b:=ux.1 m;have hk:=h.bl.kd;have k:mw (yY (gq b))<((ci (gQ b)).length:Int):=(by have:=XS h.bl;omega);have l:=XT h.bl;have j:=h.bl.ta.cp;refine⟨fun a=>⟨fun g _=>⟨m.1,tZ⟩,fun hi=> ?_,fun hi=> ?_⟩,fun a=> ?_⟩;have hi:0<=UL b:=ja hi;obtain⟨o,p,_⟩:=Fe hi;have f:=RT h o;have n:=P3 (b:=100) f.1 (by omega);have d:qf b=U.up (Co b*jbZ (nth (il (gQ b)) (UL b).toNat)) 100:=jd ⟨a,hi⟩;have c:qB b=0:=jd a;refine⟨hi,p,Fb f (by omega),f.1,by decide,Int.le_trans f.2 (by decide),by decide,?_⟩;refine P5 (w:=U.up (Co b*jbZ (nth (il (gQ b)) (UL b).toNat)) 100) (t:=0) (cp:=UJ (gQ b)) (pc:=nth (ci (gQ b)) (mw (yY (gq b))).toNat) ⟨n.1,Int.le_trans n.2 f.2⟩ ⟨by omega,by omega⟩ j l hk.1 k ?_;have e:vH b=(UK b,UV b,qf b,qB b,min (UJ (gQ b)) (((qf b+qB b)*nth (ci (gQ b)) (mw (yY (gq b))).toNat).tdiv 100),qf b+qB b-min (UJ (gQ b)) (((qf b+qB b)*nth (ci (gQ b)) (mw (yY (gq b))).toNat).tdiv 100),()):=rfl;rw[d,c] at e;show _=(vH b,());rw[e];rfl;have hi:¬0<=UL b:=je hi;have d:qf b=Co b:=jc (fun i=>hi i.2);have c:qB b=0:=jd a;refine P5 (w:=Co b) (t:=0) (cp:=UJ (gQ b)) (pc:=nth (ci (gQ b)) (mw (yY (gq b))).toNat) ⟨h.wk.1,by have:=h.wk.2;omega⟩ ⟨by omega,by omega⟩ j l hk.1 k ?_;have e:vH b=(UK b,UV b,qf b,qB b,min (UJ (gQ b)) (((qf b+qB b)*nth (ci (gQ b)) (mw (yY (gq b))).toNat).tdiv 100),qf b+qB b-min (UJ (gQ b)) (((qf b+qB b)*nth (ci (gQ b)) (mw (yY (gq b))).toNat).tdiv 100),()):=rfl;rw[d,c] at e;show _=(vH b,());rw[e];rfl;have a:xb b=false:=a;have d:qf b=Co b:=jc (fun i=>by rw[a] at i;cases i.1);have c:qB b=NR b:=jc (by rw[a];decide);refine P5 (w:=Co b) (t:=NR b) (cp:=UJ (gQ b)) (pc:=nth (ci (gQ b)) (mw (yY (gq b))).toNat) ⟨h.wk.1,by have:=h.wk.2;omega⟩ h.tr j l hk.1 k ?_;have e:vH b=(UK b,UV b,qf b,qB b,min (UJ (gQ b)) (((qf b+qB b)*nth (ci (gQ b)) (mw (yY (gq b))).toNat).tdiv 100),qf b+qB b-min (UJ (gQ b)) (((qf b+qB b)*nth (ci (gQ b)) (mw (yY (gq b))).toNat).tdiv 100),()):=rfl;rw[d,c] at e;show _=(vH b,());rw[e];rfl
theorem pE:wN PR 53 GA:=wt JP Tryz.func53 (kcC XW (kcC mj (kcC B4 kcN))) koN
@[irreducible] def jaE (C:Ctx) (A:Ann) (c:Code) (σ:St) (K:Ex->St->Prop):Prop:=vcg C A c σ K
theorem jaF {C:Ctx} {A:Ann} {c:Code} {σ:St} {K:Ex->St->Prop} (h:jaE C A c σ K):vcg C A c σ K:=by unfold jaE at h;exact h
structure FE where
 pre:NoD×Unit->Int->List Prop
 K:NoD×Unit->Int->(Bool×Unit)×Int
namespace U
def gR (K:NoD×Unit->Int->(Bool×Unit)×Int):NoD×Unit->Int->(Bool×Unit)×Int:=fun x s=>((!(K (x.1,()) s).1.1,()),(K (x.1,()) s).2)
def FL (pre:NoD×Unit->Int->List Prop):NoD×Unit->Int->List Prop:=fun x s=>[kV (pre (x.1,()) s)]
def vF (K:NoD×Unit->Int->(Bool×Unit)×Int):Nat->List NoD->Int->Int×Int
 |_,[],s=>(-1,s)
 |i,n::r,s=>match(K (n,()) s).1.1 with
  |true=>((i:Int),(K (n,()) s).2)
  |false=>vF K (i+1) r (K (n,()) s).2
def dt (pre:NoD×Unit->Int->List Prop) (K:NoD×Unit->Int->(Bool×Unit)×Int):List NoD->Int->Prop
 |[],_=>True
 |n::r,s=>kV (pre (n,()) s)/\((K (n,()) s).1.1=false->dt pre K r (K (n,()) s).2)
def Se:NoD×Unit->Int->(Bool×Unit)×Int:=fun x s=>((Kq s x.1,()),YX x.1)
def jfC:NoD×Unit->Int->List Prop:=fun _ s=>[-4611686018427387904<=s,s<=4611686018427387904]
end U
def jdw (st:Ty) (ps rs:List Ty) (pre:(Ty.st ps).Data->st.Data->List Prop) (K:(Ty.st ps).Data->st.Data->(Ty.st rs).Data×st.Data):Option FE:=
 if a:st= .int then if b:ps=[tNo] then if c:rs=[.bool] then some ⟨by subst a;subst b;exact pre,by subst a;subst b;subst c;exact K⟩ else none else none else none
def jfQ:SV->Option (Nat×FE)
 | .fe false o T st ps rs pre K=>match Nat.beq T 3,jdw st ps rs pre K with
  |true,some y=>some (o,y)
  |_,_=>none
 |_=>none
def jgh (σ:St) (b:Nat):Option (Nat×FE):=match σ.obj b with
 |some (.box _ _ [c])=>jfQ c
 |_=>none
def XX (σ:St) (o:Nat):Option Int:=match σ.obj o with
 |some (.box T false [c])=>match Nat.beq T 3,yF σ .int c with
  |true,some (s,[])=>some s
  |_,_=>none
 |_=>none
def XY (σ:St):List SV->Option Out
 |[a,b]=>match yF σ (.slice tNo) a,jfQ b with
  |some (l,fz),some (o,y)=>match aW fz o,XX σ o with
   |false,some s=>some ⟨[dt y.pre y.K l s],[],A9 [.int] ((vF y.K 0 l s).1,()),fz,[(o,some (.box 3 false [.dat .int (vF y.K 0 l s).2]))],[]⟩
   |_,_=>none
  |_,_=>none
 |_=>none
def XZ (σ:St):List SV->Option Out
 |[a,.clo f [.bp b 0]]=>match Nat.beq f 180,yF σ (.slice tNo) a,jgh σ b with
  |true,some (l,fz),some (o,y)=>match aW (b::fz) o,XX σ o with
   |false,some s=>some ⟨[dt (FL y.pre) (gR y.K) l s],[],A9 [.bool] (decide (0<=(vF (gR y.K) 0 l s).1),()),b::fz,[(o,some (.box 3 false [.dat .int (vF (gR y.K) 0 l s).2]))],[]⟩
   |_,_=>none
  |_,_,_=>none
 |_=>none
def jaG (σ:St):List SV->Option Out
 |[a,.clo f [.bp o 0]]=>match Nat.beq f 123,yF σ (.slice tNo) a with
  |true,some (l,fz)=>match aW fz o,XX σ o with
   |false,some s=>some ⟨[dt (FL jfC) (gR Se) l s],[],A9 [.bool] (!decide (0<=(vF (gR Se) 0 l s).1),()),fz,[(o,some (.box 3 false [.dat .int (vF (gR Se) 0 l s).2]))],[]⟩
   |_,_=>none
  |_,_=>none
 |_=>none
def jbP (n:Nat) (fs:List (Nat×wD)) (k:Nat) (e:St->List SV->Option Out):Ctx:=⟨n,ti,fs,fun f _ σ svs=>match Nat.beq f k with|true=>e σ svs|false=>none,strs,false⟩
def d9:Prop:=∀(n:NoD) (s:Int),-4611686018427387904<=s->s<=4611686018427387904->
 jaE (ctx 18 [(60,aJ),(124,cv)] []) (fun _=>none) (wK Tryz.f123) ⟨[(0,.dat tNo n),(1,.bp yV 0)],[(yV,some (.box 3 false [.dat .int s]))]⟩
  (mV (ctx 18 [(60,aJ),(124,cv)] []) Tryz.f123 3 .int [.bool] (Se (n,()) s))
def nS:Prop:=∀(n:NoD) (s:Int),(-4611686018427387904:Int)<=s->s<=4611686018427387904->kU (s-1)/\(kA n.1 (0:Int) (s-1)&&U.share n.2.1,())=(Se (n,()) s).1/\n.1=(Se (n,()) s).2
theorem uE:(d9)=nS:=by kernel_rfl
def aa:Prop:=∀(n:NoD) (y:FE) (s:Int),kV (y.pre (n,()) s)->
 jaE (ctx 8 [] []) (fun _=>none) (wK Tryz.f180) ⟨[(0,.dat tNo n),(1,.fe true yV 3 .int [tNo] [.bool] y.pre y.K)],[(yV,some (.box 3 false [.dat .int s]))]⟩
  (mV (ctx 8 [] []) Tryz.f180 3 .int [.bool] (gR y.K (n,()) s))
def cO:Prop:=∀(n:NoD) (y:FE) (s:Int),kV (y.pre (n,()) s)->asks (y.1 (n,()) s) ((!(y.2 (n,()) s).1.1,())=(gR y.2 (n,()) s).1/\(y.2 (n,()) s).2=(gR y.2 (n,()) s).2)
theorem mm:(aa)=cO:=by kernel_rfl
def X0 (K:NoD×Unit->Int->(Bool×Unit)×Int) (pre:NoD×Unit->Int->List Prop) (s:Int):Ann:=fun r=>match r with
 |2=>some fun σ=>{X:=Nat×Int,sl:=fun x=>[(8,.dat .int (x.1:Int))],ob:=fun x=>[(yV,some (.box 3 false [.dat .int x.2]))],inv:=fun x=>x.1<=(gd (.slice tNo) σ 0).length/\vF K x.1 ((gd (.slice tNo) σ 0).drop x.1) x.2=vF K 0 (gd (.slice tNo) σ 0) s/\dt pre K ((gd (.slice tNo) σ 0).drop x.1) x.2,mu:=fun x=>(gd (.slice tNo) σ 0).length-x.1}
 |_=>none
def fU:Prop:=∀(l:List NoD) (y:FE) (s:Int),dt y.pre y.K l s->
 jaE (ctx 19 [] []) (X0 y.K y.pre s) (wK Tryz.f90) ⟨[(0,.dat (.slice tNo) l),(1,.fe false yV 3 .int [tNo] [.bool] y.pre y.K)],[(yV,some (.box 3 false [.dat .int s]))]⟩
  (mV (ctx 19 [] []) Tryz.f90 3 .int [.int] (((vF y.K 0 l s).1,()),(vF y.K 0 l s).2))
abbrev jjn (l:List NoD)(x:Nat×Int):=(nth l (x.1:Int).toNat,())
def gi:Prop:=∀(l:List NoD) (y:FE) (s:Int),dt y.pre y.K l s->l.length<4611686018427387904->(∃(x:Nat×Int),((0=(x.1:Int)/\True)/\(s=x.2/\True)/\True)/\x.1<=l.length/\vF y.2 x.1 (List.drop x.1 l) x.2=vF y.2 0 l s/\dt y.1 y.2 (List.drop x.1 l) x.2)/\∀(x:Nat×Int),x.1<=l.length/\vF y.2 x.1 (List.drop x.1 l) x.2=vF y.2 0 l s/\dt y.1 y.2 (List.drop x.1 l) x.2->(decide ((x.1:Int)<l.length)=true->0<=(x.1:Int)/\(x.1:Int)<l.length/\asks (y.1 (jjn l x) x.2) (((y.2 (jjn l x) x.2).1.1=true->((x.1:Int),())=((vF y.2 0 l s).1,())/\(y.2 (jjn l x) x.2).2=(vF y.2 0 l s).2)/\((y.2 (jjn l x) x.2).1.1=false->kU ((x.1:Int)+1)/\∃(a:Nat×Int),(((x.1:Int)+1=(a.1:Int)/\True)/\((y.2 (jjn l x) x.2).2=a.2/\True)/\True)/\(a.1<=l.length/\vF y.2 a.1 (List.drop a.1 l) a.2=vF y.2 0 l s/\dt y.1 y.2 (List.drop a.1 l) a.2)/\l.length-a.1<l.length-x.1)))/\(decide ((x.1:Int)<l.length)=false->((-1:Int),())=((vF y.2 0 l s).1,())/\x.2=(vF y.2 0 l s).2)
theorem cf:(fU)=gi:=by kernel_rfl
def cP:Prop:=∀(l:List NoD) (y:FE) (s:Int),dt y.pre y.K l s->
 jaE (jbP 9 [] 90 XY) (fun _=>none) (wK Tryz.f179) ⟨[(0,.dat (.slice tNo) l),(1,.fe false yV 3 .int [tNo] [.bool] y.pre y.K)],[(yV,some (.box 3 false [.dat .int s]))]⟩
  (mV (jbP 9 [] 90 XY) Tryz.f179 3 .int [.bool] ((decide (0<=(vF y.K 0 l s).1),()),(vF y.K 0 l s).2))
def yB:Prop:=∀(l:List NoD) (y:FE) (s:Int),dt y.pre y.K l s->dt y.1 y.2 l s/\(decide (0<=(vF y.2 0 l s).1),())=(decide (0<=(vF y.2 0 l s).1),())/\(vF y.2 0 l s).2=(vF y.2 0 l s).2
theorem aK:(cP)=yB:=by kernel_rfl
def B5:Prop:=∀(l:List NoD) (y:FE) (s:Int),dt (FL y.pre) (gR y.K) l s->
 jaE (jbP 9 [] 179 XZ) (fun _=>none) (wK Tryz.f125) ⟨[(0,.dat (.slice tNo) l),(1,.fe false yV 3 .int [tNo] [.bool] y.pre y.K)],[(yV,some (.box 3 false [.dat .int s]))]⟩
  (mV (jbP 9 [] 179 XZ) Tryz.f125 3 .int [.bool] ((!decide (0<=(vF (gR y.K) 0 l s).1),()),(vF (gR y.K) 0 l s).2))
def fV:Prop:=∀(l:List NoD) (y:FE) (s:Int),dt (FL y.pre) (gR y.K) l s->dt (FL y.1) (gR y.2) l s/\(!decide (0<=(vF (gR y.2) 0 l s).1),())=(!decide (0<=(vF (gR y.2) 0 l s).1),())/\(vF (gR y.2) 0 l s).2=(vF (gR y.2) 0 l s).2
theorem pg:(B5)=fV:=by kernel_rfl
def uF:wD:=⟨[.val tTa],[.bool],false,fun _=>[],fun d=>(vK d.1,())⟩
def uG:Ann:=fun r=>match r with
 |3000003=>some fun _=>{X:=Unit,sl:=fun _=>[],ob:=fun _=>[],inv:=fun _=>True,mu:=fun _=>0}
 |_=>none
abbrev jio:=(kC fun(a:Int×Unit)=>(U.share a.1,()))
abbrev jhW (d:TaD×Unit):=((d.1.q4.q4.2.1.length:Int)<=4)
abbrev jip (d:TaD×Unit):=((d.1.q4.q4.1.length:Int)=4)
abbrev jhX (d:TaD×Unit):=d.1.q4.2.2.2.1
abbrev jhM (d:TaD×Unit):=(vK d.1,())
abbrev jhY (d:TaD×Unit):=d.1.q4.2.2.1
def uH:Prop:=∀(d:TaD×Unit),(kA d.1.1 (1:Int) 240=true->kA d.1.1 (1:Int) 240=true/\kA d.1.1 (1:Int) 240=true/\kA d.1.1 (1:Int) 240=true/\(kA d.1.2.1 (0:Int) 10000=true->kA d.1.2.1 (0:Int) 10000=true/\kA d.1.2.1 (0:Int) 10000=true/\kA d.1.2.1 (0:Int) 10000=true/\(kA d.1.2.2.1 (0:Int) 20=true->kA d.1.2.2.1 (0:Int) 20=true/\kA d.1.2.2.1 (0:Int) 20=true/\kA d.1.2.2.1 (0:Int) 20=true/\(kA d.1.2.2.2.1 (0:Int) 1440=true->kA d.1.2.2.2.1 (0:Int) 1440=true/\kA d.1.2.2.2.1 (0:Int) 1440=true/\kA d.1.2.2.2.1 (0:Int) 1440=true/\kA d.1.2.2.2.1 (0:Int) 1440=true/\kA d.1.2.2.2.1 (0:Int) 1440=true/\(kA d.1.q4.1 (0:Int) d.1.2.2.2.1=true->kA d.1.q4.1 (0:Int) d.1.2.2.2.1=true/\kA d.1.q4.1 (0:Int) d.1.2.2.2.1=true/\kA d.1.q4.1 (0:Int) d.1.2.2.2.1=true/\(U.share d.1.q4.2.1=true->U.share d.1.q4.2.1=true/\U.share d.1.q4.2.1=true/\U.share d.1.q4.2.1=true/\(kA (jhY d) (0:Int) 10000=true->kA (jhY d) (0:Int) 10000=true/\kA (jhY d) (0:Int) 10000=true/\(d.1.q4.q4.1.length<4611686018427387904->kA (jhY d) (0:Int) 10000=true/\kA (jhY d) (0:Int) 10000=true/\(decide (jip d)=true->decide (jip d)=true/\decide (jip d)=true/\(∀(g:Int),g∈d.1.q4.q4.1->kV [])/\decide (jip d)=true/\(d.1.q4.q4.1.all jio=true->d.1.q4.q4.1.all jio=true/\d.1.q4.q4.1.all jio=true/\d.1.q4.q4.1.all jio=true/\(kA (jhX d) (0:Int) 1000000=true->kA (jhX d) (0:Int) 1000000=true/\kA (jhX d) (0:Int) 1000000=true/\(d.1.q4.q4.2.1.length<4611686018427387904->kA (jhX d) (0:Int) 1000000=true/\kA (jhX d) (0:Int) 1000000=true/\(decide (jhW d)=true->decide (jhW d)=true/\decide (jhW d)=true/\decide (jhW d)=true/\dt (FL jfC) (gR Se) d.1.q4.q4.2.1 (100001:Int)/\decide (jhW d)=true/\(!decide (0<=(vF (gR Se) 0 d.1.q4.q4.2.1 (100001:Int)).1),())=(jhM d))/\(decide (jhW d)=false->decide (jhW d)=false/\decide (jhW d)=false/\decide (jhW d)=false/\decide (jhW d)=false/\(false,())=(jhM d))))/\(kA (jhX d) (0:Int) 1000000=false->kA (jhX d) (0:Int) 1000000=false/\kA (jhX d) (0:Int) 1000000=false/\kA (jhX d) (0:Int) 1000000=false/\kA (jhX d) (0:Int) 1000000=false/\qF/\qF/\qF/\qF/\qF/\(false,())=(jhM d)))/\(d.1.q4.q4.1.all jio=false->d.1.q4.q4.1.all jio=false/\d.1.q4.q4.1.all jio=false/\d.1.q4.q4.1.all jio=false/\qF/\qF/\qF/\qF/\qF/\qF/\qF/\qF/\qF/\qF/\(false,())=(jhM d)))/\(decide (jip d)=false->decide (jip d)=false/\decide (jip d)=false/\decide (jip d)=false/\qF/\qF/\qF/\qF/\qF/\qF/\qF/\qF/\qF/\qF/\qF/\qF/\qF/\qF/\(false,())=(jhM d))))/\(kA (jhY d) (0:Int) 10000=false->kA (jhY d) (0:Int) 10000=false/\kA (jhY d) (0:Int) 10000=false/\kA (jhY d) (0:Int) 10000=false/\kA (jhY d) (0:Int) 10000=false/\qF/\qF/\qF/\qF/\qF/\qF/\qF/\qF/\qF/\qF/\qF/\qF/\qF/\qF/\qF/\qF/\qF/\qF/\(false,())=(jhM d)))/\(U.share d.1.q4.2.1=false->U.share d.1.q4.2.1=false/\U.share d.1.q4.2.1=false/\U.share d.1.q4.2.1=false/\qF/\qF/\qF/\qF/\qF/\qF/\qF/\qF/\qF/\qF/\qF/\qF/\qF/\qF/\qF/\qF/\qF/\qF/\qF/\qF/\qF/\qF/\qF/\(false,())=(jhM d)))/\(kA d.1.q4.1 (0:Int) d.1.2.2.2.1=false->kA d.1.q4.1 (0:Int) d.1.2.2.2.1=false/\kA d.1.q4.1 (0:Int) d.1.2.2.2.1=false/\kA d.1.q4.1 (0:Int) d.1.2.2.2.1=false/\qF/\qF/\qF/\qF/\qF/\qF/\qF/\qF/\qF/\qF/\qF/\qF/\qF/\qF/\qF/\qF/\qF/\qF/\qF/\qF/\qF/\qF/\qF/\qF/\qF/\qF/\qF/\(false,())=(jhM d)))/\(kA d.1.2.2.2.1 (0:Int) 1440=false->kA d.1.2.2.2.1 (0:Int) 1440=false/\kA d.1.2.2.2.1 (0:Int) 1440=false/\kA d.1.2.2.2.1 (0:Int) 1440=false/\kA d.1.2.2.2.1 (0:Int) 1440=false/\kA d.1.2.2.2.1 (0:Int) 1440=false/\qF/\qF/\qF/\qF/\qF/\qF/\qF/\qF/\qF/\qF/\qF/\qF/\qF/\qF/\qF/\qF/\qF/\qF/\qF/\qF/\qF/\qF/\qF/\qF/\qF/\qF/\qF/\qF/\qF/\qF/\qF/\(false,())=(jhM d)))/\(kA d.1.2.2.1 (0:Int) 20=false->kA d.1.2.2.1 (0:Int) 20=false/\kA d.1.2.2.1 (0:Int) 20=false/\kA d.1.2.2.1 (0:Int) 20=false/\qF/\qF/\qF/\qF/\qF/\qF/\qF/\qF/\qF/\qF/\qF/\qF/\qF/\qF/\qF/\qF/\qF/\qF/\qF/\qF/\qF/\qF/\qF/\qF/\qF/\qF/\qF/\qF/\qF/\qF/\qF/\qF/\qF/\qF/\qF/\qF/\qF/\(false,())=(jhM d)))/\(kA d.1.2.1 (0:Int) 10000=false->kA d.1.2.1 (0:Int) 10000=false/\kA d.1.2.1 (0:Int) 10000=false/\kA d.1.2.1 (0:Int) 10000=false/\qF/\qF/\qF/\qF/\qF/\qF/\qF/\qF/\qF/\qF/\qF/\qF/\qF/\qF/\qF/\qF/\qF/\qF/\qF/\qF/\qF/\qF/\qF/\qF/\qF/\qF/\qF/\qF/\qF/\qF/\qF/\qF/\qF/\qF/\qF/\qF/\qF/\qF/\qF/\qF/\qF/\(false,())=(jhM d)))/\(kA d.1.1 (1:Int) 240=false->kA d.1.1 (1:Int) 240=false/\kA d.1.1 (1:Int) 240=false/\kA d.1.1 (1:Int) 240=false/\qF/\qF/\qF/\qF/\qF/\qF/\qF/\qF/\qF/\qF/\qF/\qF/\qF/\qF/\qF/\qF/\qF/\qF/\qF/\qF/\qF/\qF/\qF/\qF/\qF/\qF/\qF/\qF/\qF/\qF/\qF/\qF/\qF/\qF/\qF/\qF/\qF/\qF/\qF/\qF/\qF/\qF/\qF/\qF/\qF/\(false,())=(jhM d))
theorem B6:jeb (jbP 69 [(60,aJ),(124,cv),(82,d8)] 125 jaG) (uG) Tryz.f85 (wK Tryz.f85) uF=uH:=by kernel_rfl
theorem M4 (K:NoD×Unit->Int->(Bool×Unit)×Int) (i:Nat) (n:NoD) (r:List NoD) (s:Int):vF K i (n::r) s=if(K (n,()) s).1.1=true then((i:Int),(K (n,()) s).2) else vF K (i+1) r (K (n,()) s).2:=by
 rw[vF];cases (K (n,()) s).1.1 with
 |true=>rfl
 |false=>rfl
theorem GG:nS:=by
 intro n s a b;exact⟨iZ6,rfl,rfl⟩
theorem uI:cO:=by
 intro n y s h;exact vo _ h ⟨rfl,rfl⟩
theorem fW:gi:=by
 unfold gi jjn;intro l y s j m;refine⟨⟨(0,s),⟨⟨rfl,tZ⟩,⟨rfl,tZ⟩,tZ⟩,jt _,rfl,j⟩,fun x d=>⟨fun h=> ?_,fun h=> ?_⟩⟩;obtain⟨i,s1⟩:=x;have hi:i<l.length:=(by simpa using h);obtain⟨_,a,b⟩:=d;have g:l.drop i=nth l i::l.drop (i+1):=(by rw[L.wz hi];exact ki hi);simp only at a b;rw[g] at a b;rw[M4] at a;obtain⟨e,f⟩:=b;simp only[jm];refine⟨by omega,by omega,vo _ e ⟨fun k=> ?_,fun c=>⟨iZ6,(i+1,(y.2 (nth l i,()) s1).2),⟨⟨by simp,tZ⟩,⟨rfl,tZ⟩,tZ⟩,⟨hi,?_,f c⟩,by simp only;omega⟩⟩⟩;rw[jd k] at a;rw[<-a];exact⟨rfl,rfl⟩;rw[jc (by rw[c];decide)] at a;exact a;obtain⟨i,s1⟩:=x;have hi:l.length<=i:=(by simpa using h);obtain⟨_,a,_⟩:=d;simp only at a;rw[List.drop_eq_nil_of_le hi] at a;have a:((-1:Int),s1)=vF y.2 0 l s:=a;rw[<-a];exact⟨rfl,rfl⟩
theorem cQ:yB:=fun _ _ _ h=>⟨h,rfl,rfl⟩
theorem B7:fV:=fun _ _ _ h=>⟨h,rfl,rfl⟩
theorem X1 {P:Program} {C:Ctx} {w:World} (e:C.ok P) (l:P.follows .mixedOrders=true) {f:Nat} {fn:Func} {body:Code} (i:P.funcs[f]? =some fn) (h:fn.body=some body)
 (m:fn.ntmps=C.n) (A:Ann) {T:Nat} {st:Ty} {rs:List Ty} {want:(Ty.st rs).Data×st.Data} {s:st.Data} {sl:List (Nat×SV)} {vals:List Value}
 (p:jaE C A body ⟨sl,[(yV,some (.box T false [.dat st s]))]⟩ (mV C fn T st rs want)) (a:Nat.ble vals.length C.n=true)
 {H:Imm} {b:Nat} {u:Value} (j:ir H w) (g:H b=none) (q:w.heap[b]? =some (.cells #[u] T (0,0))) (d:st.agg=false) (o:st.rv H u s)
 (c:∀ρ:Env,ρ.H=H->ρ.blk yV=some (some (b,0))->∀k v,wc sl k=some v->∃x,vals[k]? =some x/\SV.den P ρ v x):
 Calls P f vals.toArray w (Sl H w b T st rs want):=
 jf6 e l i h m A (jB a) (jaF p) j g q d o c
abbrev FnG (H:Imm) (b:Nat) (y:FE) (v:Value):Prop:=FnE PR H b 3 .int [tNo] [.bool] y.pre y.K v
theorem X2 {H:Imm} {t:Ty} {vals:List Value} {x:(Ty.st [t]).Data} (h:rvs H [t] vals x):∃v,vals=[v]/\t.rv H v x.1:=by
 match vals,h with
 |[v],h=>exact⟨v,rfl,h.1⟩
 |[],h=>exact h.elim
 |_::_::_,h=>have:=h.2;simp[rvs] at this
theorem X3 (q:aa) {H:Imm} {b:Nat} {y:FE} {i:Value} {g:Nat} (l:FnG H b y i) (m:H g=some (.cells #[i])):
 FnG H b ⟨FL y.pre,gR y.K⟩ (.func (.func 180) #[] #[.pointer (some ⟨g,0,none⟩)]):=by
 refine⟨180,_,rfl,qQ Tryz.func180 (c:=wK Tryz.f180) (by kernel_rfl) (by kernel_rfl),fun H' w vals x s u j o n z r t f=> ?_⟩;obtain⟨v,rfl,h⟩:=X2 t;have key:=X1 (P:=PR) (C:=ctx 8 [] []) (pB trivial trivial) mixed Tryz.func180 (body:=wK Tryz.f180) (by kernel_rfl) (by kernel_rfl) (fun _=>none) (T:=3) (st:= .int) (rs:=[.bool])
  (vals:=[v,.pointer (some ⟨g,0,none⟩)]) (q x.1 y s f.1) (by kernel_rfl) o n z rfl r
 refine key (fun ρ d e k sv hk=> ?_)
 match k,hk with
 |0,hk=>
  have hk:some (SV.dat tNo x.1)=some sv:=hk;simp only[jy] at hk;subst hk;exact⟨v,rfl,by simp only[SV.den];rw[d];exact h⟩
 |1,hk=>
  have hk:some (SV.fe true yV 3 .int [tNo] [.bool] y.pre y.K)=some sv:=hk;simp only[jy] at hk;subst hk;refine⟨_,rfl,?_⟩;simp only[SV.den];intro p a;rw[e] at a;simp at a;subst a;refine⟨b,0,rfl,i,?_,g,rfl,?_⟩;rw[d];exact FnE.mono j l;rw[d];exact j _ _ m
 |k+2,hk=>cases hk
theorem Ud (j:d9) (H:Imm) (b:Nat):FnG H b ⟨jfC,Se⟩ (.func (.func 123) #[] #[.pointer (some ⟨b,0,none⟩)]):=by
 refine⟨123,_,rfl,qQ Tryz.func123 (c:=wK Tryz.f123) (by kernel_rfl) (by kernel_rfl),fun H' w vals x s u o i h n l m a=> ?_⟩;obtain⟨v,rfl,f⟩:=X2 m;have key:=X1 (P:=PR) (C:=ctx 18 [(60,aJ),(124,cv)] []) (pB ⟨fun _=>gE,fun _=>H2,tZ⟩ trivial) mixed Tryz.func123 (body:=wK Tryz.f123) (by kernel_rfl) (by kernel_rfl) (fun _=>none) (T:=3) (st:= .int) (rs:=[.bool])
  (vals:=[v,.pointer (some ⟨b,0,none⟩)]) (j x.1 s a.1 a.2.1) (by kernel_rfl) i h n rfl l
 refine key (fun ρ g e k sv hk=> ?_)
 match k,hk with
 |0,hk=>
  have hk:some (SV.dat tNo x.1)=some sv:=hk;simp only[jy] at hk;subst hk;exact⟨v,rfl,by simp only[SV.den];rw[g];exact f⟩
 |1,hk=>
  have hk:some (SV.bp yV 0)=some sv:=hk;simp only[jy] at hk;subst hk;refine⟨_,rfl,?_⟩;simp only[SV.den];intro p d;rw[e] at d;simp at d;subst d;exact⟨b,0,rfl,rfl⟩
 |k+2,hk=>cases hk
def EN (f:Nat) (rs:List Ty) (pre:FE->List NoD->Int->Prop) (K:FE->List NoD->Int->(Ty.st rs).Data×Int):Prop:=
 ∀(l:List NoD) (y:FE) (s:Int) (H:Imm) (w:World) (b:Nat) (lv a u:Value),ir H w->H b=none->w.heap[b]? =some (.cells #[u] 3 (0,0))->Ty.int.rv H u s->
  (Ty.slice tNo).rv H lv l->FnG H b y a->pre y l s->Calls PR f #[lv,a] w (Sl H w b 3 .int rs (K y l s))
theorem jdx {C:Ctx} (j:C.ok PR) {f:Nat} {fn:Func} {body:Code} (o:PR.funcs[f]? =some fn) (m:fn.body=some body) (t:fn.ntmps=C.n) (i:Nat.ble 2 C.n=true) (A:FE->Int->Ann) {rs:List Ty}
 {pre:FE->List NoD->Int->Prop} {K:FE->List NoD->Int->(Ty.st rs).Data×Int}
 (x:∀(l:List NoD) (y:FE) (s:Int),pre y l s->jaE C (A y s) body ⟨[(0,.dat (.slice tNo) l),(1,.fe false yV 3 .int [tNo] [.bool] y.pre y.K)],[(yV,some (.box 3 false [.dat .int s]))]⟩ (mV C fn 3 .int rs (K y l s))):EN f rs pre K:=by
 intro l y s H w b lv h u q g z v r B d;have key:=X1 (P:=PR) j mixed o m t (A y s) (T:=3) (st:= .int) (rs:=rs) (vals:=[lv,h]) (x l y s d) i q g z rfl v;refine key (fun ρ e c k sv hk=> ?_)
 match k,hk with
 |0,hk=>
  have hk:some (SV.dat (.slice tNo) l)=some sv:=hk;simp only[jy] at hk;subst hk;exact⟨lv,rfl,by simp only[SV.den];rw[e];exact r⟩
 |1,hk=>
  have hk:some (SV.fe false yV 3 .int [tNo] [.bool] y.pre y.K)=some sv:=hk;simp only[jy] at hk;subst hk;refine⟨_,rfl,?_⟩;simp only[SV.den];intro p a;rw[c] at a;simp at a;subst a;exact⟨b,0,rfl,h,by rw[e];exact B,rfl⟩
 |k+2,hk=>cases hk
theorem Ah {σ:St} {o:Nat} {s:Int} (h:XX σ o=some s):∃c,σ.obj o=some (.box 3 false [c])/\yF σ .int c=some (s,[]):=by
 unfold XX at h
 split at h
 case h_2=>cases h
 rename_i T c d
 split at h
 case h_2=>cases h
 rename_i e a b;simp at h;subst h;have:=jb a;subst this;exact⟨c,d,b⟩
theorem Ue {q:Bool} {o T:Nat} {st:Ty} {ps rs:List Ty} {pre:(Ty.st ps).Data->st.Data->List Prop} {K:(Ty.st ps).Data->st.Data->(Ty.st rs).Data×st.Data} {y:FE} (h:jdw st ps rs pre K=some y):
 SV.fe q o T st ps rs pre K=SV.fe q o T .int [tNo] [.bool] y.pre y.K:=by
 unfold jdw at h
 split at h
 case isFalse=>cases h
 rename_i a
 split at h
 case isFalse=>cases h
 rename_i b
 split at h
 case isFalse=>cases h
 rename_i c;subst a;subst b;subst c;simp at h;subst h;rfl
theorem M5 {v:SV} {o:Nat} {y:FE} (h:jfQ v=some (o,y)):v= .fe false o 3 .int [tNo] [.bool] y.pre y.K:=by
 unfold jfQ at h
 split at h
 case h_2=>cases h
 rename_i o' T st ps rs pre K
 split at h
 case h_2=>cases h
 rename_i c a b;simp at h;obtain⟨rfl,rfl⟩:=h;have:=jb a;subst this;exact Ue b
theorem X4 {σ:St} {b o:Nat} {y:FE} (h:jgh σ b=some (o,y)):∃T fz,σ.obj b=some (.box T fz [.fe false o 3 .int [tNo] [.bool] y.pre y.K]):=by
 unfold jgh at h
 split at h
 case h_2=>cases h
 rename_i d fz c a;rw[M5 h] at a;exact⟨_,_,a⟩
abbrev jgi (y:FE) (l:List NoD) (s:Int):(Ty.st [.int]).Data×Int:=(((vF y.K 0 l s).1,()),(vF y.K 0 l s).2)
abbrev jgj (y:FE) (l:List NoD) (s:Int):(Ty.st [.bool]).Data×Int:=((decide (0<=(vF y.K 0 l s).1),()),(vF y.K 0 l s).2)
abbrev jgk (y:FE) (l:List NoD) (s:Int):(Ty.st [.bool]).Data×Int:=((!decide (0<=(vF (gR y.K) 0 l s).1),()),(vF (gR y.K) 0 l s).2)
theorem Qd (L:EN 90 [.int] (fun y l s=>dt y.pre y.K l s) jgi) {σ:St} {svs:List SV} {out:Out} (h:XY σ svs=some out) {B:qw} {ρ:Env} {w:World} {vals:List Value} (I:Sat PR B ρ σ.obj w) (C:SV.denL PR ρ svs vals)
 (t:vI out.vc):Calls PR 90 vals.toArray w (fun e w'=>∃v,e= .returned v/\wb PR B ρ σ out v w'):=by
 unfold XY at h
 split at h
 case h_2=>cases h
 rename_i a c
 split at h
 case h_2=>cases h
 rename_i l fz o y M n
 split at h
 case h_2=>cases h
 rename_i s q O;simp at h;subst h;obtain⟨S,_⟩:=t;have F:=M5 n;subst F;simp only[SV.denL] at C;obtain⟨D,_,rfl,E,vc,_,rfl,x,rfl⟩:=C;obtain⟨c,R,J⟩:=Ah O;refine mW (st:= .int) (rs:=[.int]) (r:=jgi y l s) I fz q R rfl (fun ρ1 b V u d g f N G Q m=> ?_);have A:=v6 σ fz;have P:=we d A J (fun o i=>by simp at i) m;have p:=we d A M (fun o i=>i) (SV.den_mono g a D (fun o i=>by simp at i) E);simp only[SV.den] at x;obtain⟨W,C',z,T,k,j⟩:=x _ (by rw[<-f];exact N);simp at z;obtain⟨rfl,rfl⟩:=z;have j:vc=T:=j;subst j;exact L l y s ρ1.H w b D vc u d.good G Q P p (FnE.mono g.H k) S
theorem Qe (D:aa) (he:EN 179 [.bool] (fun y l s=>dt y.pre y.K l s) jgj) {σ:St} {svs:List SV} {out:Out} (h:XZ σ svs=some out) {B:qw} {ρ:Env} {w:World} {vals:List Value} (hS:Sat PR B ρ σ.obj w)
 (R:SV.denL PR ρ svs vals) (L:vI out.vc):Calls PR 179 vals.toArray w (fun e w'=>∃v,e= .returned v/\wb PR B ρ σ out v w'):=by
 unfold XZ at h
 split at h
 case h_2=>cases h
 rename_i a f j
 split at h
 case h_2=>cases h
 rename_i l fz o y hf hl E
 split at h
 case h_2=>cases h
 rename_i s I hs;simp at h;subst h;obtain⟨q1,_⟩:=L;simp only[SV.denL] at R;obtain⟨S,_,rfl,Z,vc,_,rfl,O,rfl⟩:=R;simp only[SV.den,SV.denL] at O;obtain⟨vs,rfl,v5,_,i,Y,rfl⟩:=O;have i:vs= #[v5]:=jL.1 (by simpa using i);subst i;have:=jb hf;subst this;obtain⟨c,hx,hc⟩:=Ah hs;obtain⟨W,fz5,M⟩:=X4 E;refine mW (st:= .int) (rs:=[.bool]) (r:=jgj ⟨FL y.pre,gR y.K⟩ l s) hS (j::fz) I hx rfl (fun ρ1 b Cp u d G k hp hH hw C=> ?_);have x:=v6 σ (j::fz);have hu:=we d x hc (fun o m=>by simp at m) C;have F:=we d x hl (fun o m=>jl _ m) (SV.den_mono G a S (fun o m=>by simp at m) Z);have n:(σ.frz (j::fz)).obj j=some (.box W true [.fe false o 3 .int [tNo] [.bool] y.pre y.K]):=(by rw[(x j).2 (by simp),M];rfl);obtain⟨p5,J,b5,C5,N,rfl,hw5,g,_,A⟩:=d.obs j _ n;obtain⟨X,V,Q,q⟩:=Y _ (by rw[<-k];exact J);simp at Q;obtain⟨rfl,rfl⟩:=Q;subst q;simp only[SV.denL,SV.den] at g;obtain⟨T,_,t,hy,rfl⟩:=g;have t:N= #[T]:=jL.1 (by simpa using t);subst t;obtain⟨b',C',P,u',z,p⟩:=hy _ hp;simp at P;obtain⟨rfl,rfl⟩:=P;have p:T=u':=p;subst p;exact he l ⟨FL y.pre,gR y.K⟩ s ρ1.H w b S _ u d.good hH hw hu F (X3 D z A) q1
theorem Qf (P:d9) (J:EN 125 [.bool] (fun y l s=>dt (FL y.pre) (gR y.K) l s) jgk) {σ:St} {svs:List SV} {out:Out} (h:jaG σ svs=some out) {B:qw} {ρ:Env} {w:World} {vals:List Value} (G:Sat PR B ρ σ.obj w)
 (A:SV.denL PR ρ svs vals) (q:vI out.vc):Calls PR 125 vals.toArray w (fun e w'=>∃v,e= .returned v/\wb PR B ρ σ out v w'):=by
 unfold jaG at h
 split at h
 case h_2=>cases h
 rename_i a f o
 split at h
 case h_2=>cases h
 rename_i l fz L M
 split at h
 case h_2=>cases h
 rename_i s p O;simp at h;subst h;obtain⟨T,_⟩:=q;simp only[SV.denL] at A;obtain⟨C,_,rfl,E,vc,_,rfl,t,rfl⟩:=A;simp only[SV.den,SV.denL] at t;obtain⟨vs,rfl,V,_,d,D,rfl⟩:=t;have d:vs= #[V]:=jL.1 (by simpa using d);subst d;have:=jb L;subst this;obtain⟨c,S,I⟩:=Ah O;refine mW (st:= .int) (rs:=[.bool]) (r:=jgk ⟨jfC,Se⟩ l s) G fz p S rfl (fun ρ1 b W u g n i N F R k=> ?_);have z:=v6 σ fz;have Q:=we g z I (fun o j=>by simp at j) k;have m:=we g z M (fun o j=>j) (SV.den_mono n a C (fun o j=>by simp at j) E);obtain⟨X,C',x,ev⟩:=D _ (by rw[<-i];exact N);simp at x;obtain⟨rfl,rfl⟩:=x;subst ev;exact J l ⟨jfC,Se⟩ s ρ1.H w b C _ u g.good F R Q m (Ud P ρ1.H b) T
theorem Qg {n:Nat} {fs:List (Nat×wD)} {k:Nat} {e:St->List SV->Option Out} (c:oO fs) (b:enters PR k)
 (j:∀σ svs out,e σ svs=some out->∀B ρ w vals,Sat PR B ρ σ.obj w->SV.denL PR ρ svs vals->vI out.vc->Calls PR k vals.toArray w (fun e w'=>∃v,e= .returned v/\wb PR B ρ σ out v w')):(jbP n fs k e).ok PR:=by
 refine⟨Rb ZE,fA c,Rv,rfl,fun f dst σ svs out h=> ?_⟩;have a:(match Nat.beq f k with|true=>e σ svs|false=>none)=some out:=h
 split at a
 case h_2=>cases a
 rename_i l;have:=jb l;subst this;exact⟨b,fun B ρ w vals g i d _ _=>j σ svs out a B ρ w vals g i d⟩
theorem enI:EN 90 [.int] (fun y l s=>dt y.pre y.K l s) jgi:=
 jdx (C:=ctx 19 [] []) (pB trivial trivial) Tryz.func90 (body:=wK Tryz.f90) (by kernel_rfl) (by kernel_rfl) (by kernel_rfl) (fun y s=>X0 y.K y.pre s) (fun l y s h=>cf.mpr fW l y s h)
theorem enC:EN 179 [.bool] (fun y l s=>dt y.pre y.K l s) jgj:=
 jdx (C:=jbP 9 [] 90 XY) (Qg trivial (qQ Tryz.func90 (c:=wK Tryz.f90) (by kernel_rfl) (by kernel_rfl)) (fun _ _ _ h _ _ _ _ b d a=>Qd enI h b d a))
  Tryz.func179 (body:=wK Tryz.f179) (by kernel_rfl) (by kernel_rfl) (by kernel_rfl) (fun _ _ _=>none) (fun l y s h=>aK.mpr cQ l y s h)
theorem enV:EN 125 [.bool] (fun y l s=>dt (FL y.pre) (gR y.K) l s) jgk:=
 jdx (C:=jbP 9 [] 179 XZ) (Qg trivial (qQ Tryz.func179 (c:=wK Tryz.f179) (by kernel_rfl) (by kernel_rfl)) (fun _ _ _ h _ _ _ _ b d a=>Qe (mm.mpr uI) enC h b d a))
  Tryz.func125 (body:=wK Tryz.f125) (by kernel_rfl) (by kernel_rfl) (by kernel_rfl) (fun _ _ _=>none) (fun l y s h=>pg.mpr B7 l y s h)
theorem noI:∀(l:List NoD) (i:Nat) (s:Int),(!decide (0<=(vF (gR Se) i l s).1))=A6 s l
 |[],i,s=>rfl
 |n::r,i,s=>by
  rw[M4,A6]
  have a:(gR Se (n,()) s).1.1= !(Kq s n):=rfl
  have e2:(gR Se (n,()) s).2=YX n:=rfl
  rw[a,e2]
  cases b:Kq s n with
  |true=>rw[jc (by decide),noI r (i+1) (YX n)];rfl
  |false=>
   rw[jd (by decide)]
   have:decide (0<=(i:Int))=true:=jH (by omega)
   show(!decide (0<=(i:Int)))=_
   rw[this];rfl
theorem jgH:∀(l:List NoD) (s:Int),-4611686018427387904<=s->s<=4611686018427387904->dt (FL jfC) (gR Se) l s
 |[],_,_,_=>trivial
 |n::r,s,h1,h2=>by
  refine⟨⟨⟨h1,h2,tZ⟩,tZ⟩,fun a=> ?_⟩
  have a:(!(Kq s n))=false:=a
  have a:Kq s n=true:=by simpa using a
  unfold Kq at a
  rw[ji,qZ] at a
  exact jgH r (YX n) (by omega) (by omega)
theorem M6:uH:=by
 unfold uH jhY jhM jhX jip jhW jio Prod.q4;rintro⟨⟨un,rt,le,dk,dw,ni,mi,cp,sb,no,⟨⟩⟩,⟨⟩⟩;have e:vK (un,rt,le,dk,dw,ni,mi,cp,sb,no,())=((kA un 1 240&&kA rt 0 10000&&kA le 0 20&&kA dk 0 1440&&kA dw 0 dk&&U.share ni&&kA mi 0 10000)&&
  (decide ((sb.length:Int)=4)&&sb.all (kC fun(x:Int×Unit)=>(U.share x.fst,()))&&kA cp 0 1000000&&decide ((no.length:Int)<=4)&&A6 100001 no)):=by
  have n:decide ((sb.length:Int)=4)=decide (sb.length=4):=decide_eq_decide.2 (by omega);have e2:decide ((no.length:Int)<=4)=decide (no.length<=4):=decide_eq_decide.2 (by omega);rw[n,e2];rfl
 simp only;refine⟨fun f=>⟨f,f,f,fun g=>⟨g,g,g,fun i=>⟨i,i,i,fun c=>⟨c,c,c,c,c,fun j=>⟨j,j,j,fun k=>⟨k,k,k,fun d=>⟨d,d,fun _=>⟨d,d,fun l=>⟨l,l,fun _ _=>tZ,l,fun m=>⟨m,m,m,fun a=>⟨a,a,fun _=>⟨a,a,fun b=>⟨b,b,b,jgH no 100001 (by omega) (by omega),b,?_⟩,fun h=> ?_⟩⟩,fun h=> ?_⟩,fun h=> ?_⟩,fun h=> ?_⟩⟩,fun h=> ?_⟩,fun h=> ?_⟩,fun h=> ?_⟩,fun h=> ?_⟩,fun h=> ?_⟩,fun h=> ?_⟩,fun h=> ?_⟩
 .rw[noI,e];simp only[f,g,i,c,j,k,d,l,m,a,b,km]
 all_goals
  have q:=e;simp only[h,Bool.false_and,kh] at q;simp only[h,q,and_self]
theorem JQ:wN PR 85 uF:=
 jex (Qg (n:=69) (fs:=[(60,aJ),(124,cv),(82,d8)]) (k:=125) (e:=jaG) ⟨fun _=>gE,fun _=>H2,fun _=>pD,tZ⟩
  (qQ Tryz.func125 (c:=wK Tryz.f125) (by kernel_rfl) (by kernel_rfl)) (fun _ _ _ h _ _ _ _ b d a=>Qf (uE.mpr GG) enV h b d a))
  mixed Tryz.func85 (by kernel_rfl) (by kernel_rfl) (by kernel_rfl) (by decide) uG (B6.mpr M6)
namespace U
def cmStep (m:List (Int×CaD)) (c:CaD):List (Int×CaD):=iv .int (UU c) c m
def sy (l:List CaD) (n:Nat):List (Int×CaD):=(l.take n).foldl cmStep []
def wn (l:LgD) (F:BoD×Unit->Bool×Unit):Bool:=(F ((l,[],()),())).1
end U
def Uf:wD:=⟨[.val tLg],[.int],false,fun d=>[(qG (kE d.1)).length<=100000],fun d=>(wo d.1,())⟩
def Ug:Ann:=fun r=>match r with
 |14=>some fun σ=>{X:=Nat,sl:=fun i=>[(68,.dat .int (i:Int))],ob:=fun i=>[(64,some (.map false .int tCa (sy (gd (.slice tCa) σ 66) i)))],inv:=fun i=>i<=(gd (.slice tCa) σ 66).length/\∀b:Nat,b<i->bG (gd (.slice tCa) σ 66) b=false,mu:=fun i=>(gd (.slice tCa) σ 66).length-i}
 |_=>none
abbrev jiE (d:LgD×Unit):=(d.1.1.2.2.1.length:Int)
abbrev jlb (d:LgD×Unit):=(decide ((d.1.2.2.1.length:Int)≠(jiE d))|| !d.1.2.2.1.all (kC fun(a:Int×Unit)=>(A7 a.1,())))
abbrev jlc (d:LgD×Unit):=(decide ((d.1.2.1.length:Int)≠(jiE d))|| !d.1.2.1.all (kC fun(a:Int×Unit)=>(NF a.1,())))
abbrev jjo (d:LgD×Unit):=(d.1.q4.1.length:Int)
abbrev jld (d:LgD×Unit):=(!vK d.1.2.2.2.1||decide (10<(jjo d))|| !d.1.q4.1.all (kC fun(a:CaD×Unit)=>(YL (jiE d) a.1,())))
abbrev jjQ (d:LgD×Unit)(x:Nat):=(nth d.1.q4.1 x)
abbrev jle (d:LgD×Unit)(x:Nat):=(jbg (wv Ty.int (jjQ d x).1 (sy d.1.q4.1 x))&& !decide (w4 ((0:Int),(0:Int),(0:Int),()) (wv Ty.int (jjQ d x).1 (sy d.1.q4.1 x))=nth d.1.q4.1 x))
def Uh:Prop:=∀(d:LgD×Unit),(qG (kE d.1)).length<=100000->(qG d.1.1).length<=100000/\(decide (wj d.1.1≠0)=true->(wj d.1.1,())=(wo d.1,()))/\(decide (wj d.1.1≠0)=false->d.1.1.2.2.1.length<4611686018427387904->d.1.2.1.length<4611686018427387904->((!decide ((d.1.2.1.length:Int)≠(jiE d)))=true->∀(g:Int),g∈d.1.2.1->kV [])/\((jlc d)=true->((70:Int),())=(wo d.1,()))/\((jlc d)=false->d.1.2.2.1.length<4611686018427387904->((!decide ((d.1.2.2.1.length:Int)≠(jiE d)))=true->∀(g:Int),g∈d.1.2.2.1->kV [])/\((jlb d)=true->((70:Int),())=(wo d.1,()))/\((jlb d)=false->((!!vK d.1.2.2.2.1)=true->d.1.q4.1.length<4611686018427387904)->((!(!vK d.1.2.2.2.1||decide (10<(jjo d))))=true->∀(c:CaD),c∈d.1.q4.1->kV [0<=(jiE d),(jiE d)<=4611686018427387904])/\((jld d)=true->((70:Int),())=(wo d.1,()))/\((jld d)=false->d.1.q4.1.length<4611686018427387904->(∃(x:Nat),((0=(x:Int)/\True)/\[]=sy d.1.q4.1 x/\True)/\x<=d.1.q4.1.length/\∀(b:Nat),b<x->bG d.1.q4.1 b=false)/\∀(x:Nat),(x<=d.1.q4.1.length/\∀(b:Nat),b<x->bG d.1.q4.1 b=false)->(decide ((x:Int)<(jjo d))=true->0<=(x:Int)/\(x:Int)<(jjo d)/\((jle d x)=true->((71:Int),())=(wo d.1,()))/\((jle d x)=false->kU ((x:Int)+1)/\∃(a:Nat),(((x:Int)+1=(a:Int)/\True)/\iv Ty.int (jjQ d x).1 (jjQ d x) (sy d.1.q4.1 x)=sy d.1.q4.1 a/\True)/\(a<=d.1.q4.1.length/\∀(b:Nat),b<a->bG d.1.q4.1 b=false)/\d.1.q4.1.length-a<d.1.q4.1.length-x))/\(decide ((x:Int)<(jjo d))=false->((0:Int),())=(wo d.1,()))))))
theorem M7 {l:List CaD} {n:Nat} (h:n<l.length):sy l (n+1)=iv .int (UU (nth l n)) (nth l n) (sy l n):=by
 unfold sy;rw[L.kT h,jz];rfl
theorem X5 (l:List CaD):∀x,x<=l.length->∀k:Int,(wv .int k (sy l x)=none->∀j,j<x->UU (nth l j)≠k)/\(∀c,wv .int k (sy l x)=some c->∃j,j<x/\nth l j=c/\UU c=k)
 |0,_,k=>⟨fun _ j a=>by omega,fun c h=>by cases h⟩
 |x+1,i,k=>by
  obtain⟨d,f⟩:=X5 l x (by omega) k
  rw[M7 (show x<l.length by omega)]
  by_cases e:k=UU (nth l x)
  subst e
  rw[M.sD (kt:= .int)]
  refine⟨fun h=>(by cases h),fun c h=> ?_⟩
  simp only[jy] at h
  subst h
  exact⟨x,by omega,rfl,rfl⟩
  rw[M.eN (kt:= .int) e]
  refine⟨fun h j a=> ?_,fun c h=> ?_⟩
  by_cases e2:j=x
  subst e2;exact fun b=>e b.symm
  exact d h j (by omega)
  obtain⟨j,a,g⟩:=f c h
  exact⟨j,by omega,g⟩
theorem M8 {l:List CaD} {i:Nat} (hi:i<=l.length):bG l i=true↔∃j,j<i/\UU (nth l j)=UU (nth l i)/\nth l j≠nth l i:=by
 unfold bG;rw[zh];constructor;rintro⟨x,d,h⟩;obtain⟨j,c,rfl⟩:=zj.1 d;simp only[ji,jv,jV,jI] at h;refine⟨j,by omega,?_⟩;rw[L.wz (show j<l.length by omega)];exact h;rintro⟨j,c,a,b⟩;refine⟨nth l j,zj.2 ⟨j,by omega,(L.wz (by omega)).symm⟩,?_⟩;simp only[ji,jv,jV,jI];exact⟨a,b⟩
theorem jdy {l:List CaD} {x:Nat} (u:x<l.length) (h:∀b:Nat,b<x->bG l b=false):
 (jbg (wv .int (nth l x).1 (sy l x))&& !decide (w4 ((0:Int),(0:Int),(0:Int),()) (wv .int (nth l x).1 (sy l x))=nth l x))=bG l x:=by
 obtain⟨k,r⟩:=X5 l x (by omega) (nth l x).1;have no:∀i j,i<j->j<x->UU (nth l i)=UU (nth l j)->nth l i=nth l j:=fun i j a f s=>by
  by_cases e:nth l i=nth l j;exact e;have:=(M8 (show j<=l.length by omega)).2 ⟨i,a,s,e⟩;rw[h j f] at this;cases this
 rw[j8,M8 (by omega)];cases p:wv (β:=CaD) .int (nth l x).1 (sy l x) with
 |none=>
  have k:=k p;constructor;intro t;cases t;rintro⟨j,f,e,_⟩;exact absurd e (k j f)
 |some c=>
  obtain⟨j,f,d,o⟩:=r c p;show(!decide (c=nth l x))=true↔_;rw[jV,jI];constructor;intro m;exact⟨j,f,by rw[d];exact o,by rw[d];exact m⟩;rintro⟨i,hi,q,e2⟩ g;have n:UU (nth l i)=UU (nth l j):=(by rw[d,q];exact o.symm);rcases kl i j with a|a|a;exact e2 (by rw[no i j a f n,d,g]);subst a;exact e2 (by rw[d,g]);exact e2 (by rw[<-no j i a hi n.symm,d,g])
theorem Qh {l:List CaD} {x:Nat} (a:x<l.length) (h:bG l x=true):aQ l=true:=by
 unfold aQ FK;rw[zh];exact⟨x,jp.2 a,h⟩
theorem M9 {l:List CaD} (h:∀b:Nat,b<l.length->bG l b=false):aQ l=false:=by
 unfold aQ FK;rw[zu];intro b a;rw[h b (jp.1 a)];decide
theorem jgl {b:Bool} (h:(!b)=true):b=false:=by cases b with|false=>rfl|true=>cases h
theorem jgm {b:Bool} (h:(!b)=false):b=true:=by cases b with|true=>rfl|false=>cases h
theorem jgI (a b:Nat) (p:Bool):(decide ((a:Int)≠(b:Int))|| !p)= !(decide (a=b)&&p):=by
 by_cases e:a=b;subst e;simp;have:(a:Int)≠(b:Int):=(by omega);simp[e,this]
theorem jdz (l:LgD):cj l=((decide ((yH l).length=(kH (kE l)).length)&&(yH l).all NF)&&(decide ((A5 l).length=(kH (kE l)).length)&&(A5 l).all A7)&&(vK (ak l)&&(decide ((wy l).length<=10)&&(wy l).all (pi (kH (kE l)).length)))):=rfl
theorem X6:Uh:=by
 unfold Uh jle jjQ jld jjo jlc jlb jiE Prod.q4;rintro⟨l,⟨⟩⟩ C;have y:∀v,wj (kE l)≠0->v=wj (kE l)->((v:Int),())=(wo l,()):=fun v h e=>by
  unfold wo;rw[jd h,e]
 have c:¬(wj (kE l)≠0)->cj l=false->((70:Int),())=(wo l,()):=fun h e=>by
  unfold wo;rw[jc h,jd e]
 have o:¬(wj (kE l)≠0)->cj l=true->aQ (wy l)=true->((71:Int),())=(wo l,()):=fun h e e2=>by
  unfold wo;rw[jc h,jc (by rw[e];decide),jd e2]
 have n:¬(wj (kE l)≠0)->cj l=true->aQ (wy l)=false->((0:Int),())=(wo l,()):=fun h e e2=>by
  unfold wo;rw[jc h,jc (by rw[e];decide),jc (by rw[e2];decide)]
 have q:=jgI (yH l).length (kH (kE l)).length ((yH l).all NF);have r:=jgI (A5 l).length (kH (kE l)).length ((A5 l).all A7);have s:(!vK (ak l)||decide ((10:Int)<(wy l).length)|| !(wy l).all (pi (kH (kE l)).length))= !(vK (ak l)&&(decide ((wy l).length<=10)&&(wy l).all (pi (kH (kE l)).length))):=by
  have:decide ((10:Int)<(wy l).length)= !decide ((wy l).length<=10):=by
   by_cases e:(wy l).length<=10;rw[jH e,zz (by omega)];rfl;rw[zz e,jH (by omega)];rfl
  rw[this];cases vK (ak l)<;>cases decide ((wy l).length<=10)<;>rfl
 have m:=jdz l;refine⟨C,fun h=>y _ (ja h) rfl,fun h k _=>⟨fun _ _ _=>tZ,fun g=> ?_,fun g _=>⟨fun _ _ _=>tZ,fun i=> ?_,fun i _=>⟨fun _ _ _=>⟨jQ _,?_,tZ⟩,fun j=> ?_,fun j w=>⟨⟨0,⟨⟨rfl,tZ⟩,rfl,tZ⟩,jt _,fun b u=>by omega⟩,fun x D=> ?_⟩⟩⟩⟩⟩;have g:=q.symm.trans g;refine c (je h) ?_;rw[m,show(decide ((yH l).length=(kH (kE l)).length)&&(yH l).all NF)=false from jgl g];rfl;have i:=r.symm.trans i;refine c (je h) ?_;rw[m,show(decide ((A5 l).length=(kH (kE l)).length)&&(A5 l).all A7)=false from jgl i,kh];rfl;have k:(kH (kE l)).length<4611686018427387904:=k;show((kH (kE l)).length:Int)<=4611686018427387904;omega;have j:=s.symm.trans j;refine c (je h) ?_;rw[m,show(vK (ak l)&&(decide ((wy l).length<=10)&&(wy l).all (pi (kH (kE l)).length)))=false from jgl j,kh];have z:=q.symm.trans g;have A:=r.symm.trans i;have B:=s.symm.trans j;have t:cj l=true:=by
  rw[m,show(decide ((yH l).length=(kH (kE l)).length)&&(yH l).all NF)=true from jgm z,show(decide ((A5 l).length=(kH (kE l)).length)&&(A5 l).all A7)=true from jgm A,show(vK (ak l)&&(decide ((wy l).length<=10)&&(wy l).all (pi (kH (kE l)).length)))=true from jgm B];rfl
 obtain⟨E,d⟩:x<=(wy l).length/\∀b:Nat,b<x->bG (wy l) b=false:=D;have w:(wy l).length<4611686018427387904:=w;refine⟨fun f=> ?_,fun f=> ?_⟩;have f:(x:Int)<(wy l).length:=ja f;have a:x<(wy l).length:=(by omega);have cc:=jdy a d;refine⟨jQ _,f,fun p=> ?_,fun p=>⟨iZ6,x+1,⟨⟨by simp,tZ⟩,(M7 a).symm,tZ⟩,⟨a,fun b u=> ?_⟩,by show(wy l).length-(x+1)<(wy l).length-x;omega⟩⟩;exact o (je h) t (Qh a (cc.symm.trans p));by_cases e:b=x;subst e;exact cc.symm.trans p;exact d b (by omega);have f:¬(x:Int)<(wy l).length:=je f;exact n (je h) t (M9 fun b u=>d b (by omega))
theorem Ui:wN PR 48 Uf:=vZ Ug X6 Tryz.func48 (kcC HO (kcC JQ (kcC pD (kcC M1 (kcC M2 (kcC M3 (kcC Fo kcN))))))) koN
end Go.X
namespace Go.Proofs
open Go.Shelf
def Tryz.sortLn_ren:Go.Shelf.Ren:=⟨fun|6=>54|15=>93|14=>92|28=>136|29=>137|20=>128|21=>129|22=>130|23=>131|24=>132|25=>133|26=>134|27=>135|46=>182|47=>183|48=>184|49=>185|50=>186|57=>204|n=>n,fun|22=>49|24=>57|25=>122|3=>3|39=>75|0=>0|53=>188|55=>190|4=>4|46=>181|45=>180|50=>185|5=>5|9=>9|66=>213|70=>217|76=>230|77=>231|n=>n,fun|n=>n⟩
theorem Tryz.sortLn:Go.Proofs.SlLaysF0.n6 Tryz.prog Tryz.sortLn_ren:={
 mixed:=by kernel_rfl
 f6:=⟨Tryz.f54.name,by decide,xlay Tryz.func54⟩
 f14:=⟨Tryz.f92.name,by decide,xlay Tryz.func92⟩
 f15:=xlay Tryz.func93
 f20:=⟨Tryz.f128.name,by decide,xlay Tryz.func128⟩
 f21:=⟨Tryz.f129.name,by decide,xlay Tryz.func129⟩
 f22:=⟨Tryz.f130.name,by decide,xlay Tryz.func130⟩
 f23:=⟨Tryz.f131.name,by decide,xlay Tryz.func131⟩
 f24:=⟨Tryz.f132.name,by decide,xlay Tryz.func132⟩
 f25:=⟨Tryz.f133.name,by decide,xlay Tryz.func133⟩
 f26:=⟨Tryz.f134.name,by decide,xlay Tryz.func134⟩
 f27:=⟨Tryz.f135.name,by decide,xlay Tryz.func135⟩
 f28:=xlay Tryz.func136
 f29:=xlay Tryz.func137
 f46:=⟨Tryz.f182.name,by decide,xlay Tryz.func182⟩
 f47:=xlay Tryz.func183
 f48:=xlay Tryz.func184
 f49:=⟨Tryz.f185.name,by decide,xlay Tryz.func185⟩
 f50:=⟨Tryz.f186.name,by decide,xlay Tryz.func186⟩
 f57:=⟨Tryz.f204.name,by decide,xlay Tryz.func204⟩
 t0:=Tryz.underlying0
 a0:=Tryz.isAgg0
 z0:=Tryz.sizeOf0
 v0:=Tryz.zeroValue0
 t3:=Tryz.underlying3
 a3:=Tryz.isAgg3
 z3:=Tryz.sizeOf3
 v3:=Tryz.zeroValue3
 t4:=Tryz.underlying4
 a4:=Tryz.isAgg4
 z4:=Tryz.sizeOf4
 v4:=Tryz.zeroValue4
 t5:=Tryz.underlying5
 a5:=Tryz.isAgg5
 z5:=Tryz.sizeOf5
 v5:=Tryz.zeroValue5
 t9:=Tryz.underlying9
 a9:=Tryz.isAgg9
 z9:=Tryz.sizeOf9
 v9:=Tryz.zeroValue9
 t22:=Tryz.underlying49
 a22:=Tryz.isAgg49
 z22:=Tryz.sizeOf49
 v22:=Tryz.zeroValue49
 t25:=Tryz.underlying122
 a25:=Tryz.isAgg122
 z25:=Tryz.sizeOf122
 v25:=Tryz.zeroValue122
 t39:=Tryz.underlying75
 a39:=Tryz.isAgg75
 z39:=Tryz.sizeOf75
 v39:=Tryz.zeroValue75
 t45:=Tryz.underlying180
 a45:=Tryz.isAgg180
 z45:=Tryz.sizeOf180
 v45:=Tryz.zeroValue180
 t46:=Tryz.underlying181
 a46:=Tryz.isAgg181
 z46:=Tryz.sizeOf181
 v46:=Tryz.zeroValue181
 t50:=Tryz.underlying185
 a50:=Tryz.isAgg185
 z50:=Tryz.sizeOf185
 v50:=Tryz.zeroValue185
 t53:=Tryz.underlying188
 a53:=Tryz.isAgg188
 z53:=Tryz.sizeOf188
 v53:=Tryz.zeroValue188
 t55:=Tryz.underlying190
 a55:=Tryz.isAgg190
 z55:=Tryz.sizeOf190
 v55:=Tryz.zeroValue190
 t66:=Tryz.underlying213
 a66:=Tryz.isAgg213
 z66:=Tryz.sizeOf213
 v66:=Tryz.zeroValue213
 t70:=Tryz.underlying217
 a70:=Tryz.isAgg217
 z70:=Tryz.sizeOf217
 v70:=Tryz.zeroValue217
 t76:=Tryz.underlying230
 a76:=Tryz.isAgg230
 z76:=Tryz.sizeOf230
 v76:=Tryz.zeroValue230
 t77:=Tryz.underlying231
 a77:=Tryz.isAgg231
 z77:=Tryz.sizeOf231
 v77:=Tryz.zeroValue231}
end Go.Proofs
namespace Go.X
open U
open Go.Proofs
abbrev rwN:Sh:= .cl (.row 3 .int .no)
namespace U
def bl (o:Option BlD):BlD:=wg (Ty.dflt tBl) o
def Sf (m:List (Int×Option BlD)):Prop:=∀e∈m,∃b,e.2=some b/\YK b
def G0 (o:BoD):Prop:=Sf (Kz o)/\(Kz o).length<=100/\((Kz o).map (·.1)).Nodup/\∀e∈Kz o,∀b,e.2=some b->UV b=e.1
def Sg (b:BlD) (a:Int) (out:List Int):Prop:=(qz b).length<=8/\(∀p∈qz b,0<=p/\p<(out.length:Int))/\0<=a/\a<=100000000000000000/\∀x∈out,-1000000000000000000<=x/\x<=1000000000000000000
end U
def uJ:wD:=⟨[.val tLn,.val tLn],[.int],false,fun _=>[],fun d=>(Ax d.1 d.2.1,())⟩
def uK:Prop:=∀(d:JbD×JbD×Unit),(yD [db d.1.1 d.2.1.1,db d.1.2.1 d.2.1.2.1],())=(Ax d.1 d.2.1,())
abbrev sn:qC:=Wd tLn 57
def B8:wD:=⟨[.val tBo],[.slice tLn],false,fun d=>[G0 d.1],fun d=>(kO d.1,())⟩
def B9:Ann:=fun r=>match r with
 |3=>some fun σ=>{X:=List (Int×Option BlD)×List LnD,sl:=fun _=>[(3,.own 3 tLn)],ob:=fun x=>[(8,some (.iter .int (.ptr tBl) x.1 none)),(3,some (.row 57 tLn false .yes x.2))],inv:=fun x=>(x.2++vg x.1).Perm (vg (Kz (gb tBo σ 1)))/\Sf x.1,mu:=fun x=>x.1.length}
 |_=>none
abbrev jkx (a:Int×Option BlD):=(wg ((((0:Int),(0:Int),(0:Int),(0:Int),(0:Int),(0:Int),()),(0:Int),(0:Int),(0:Int),()),((0:Int),(0:Int),(0:Int),(0:Int),(0:Int),(0:Int),(0:Int),(0:Int),[],[],()),(0:Int),(0:Int),[],(0:Int),(0:Int),false,(0:Int),()) a.2)
abbrev jjR:=(kK (Ty.int.pair (Ty.int.pair (Ty.int.pair (Ty.int.pair (Ty.int.pair (Ty.int.pair Ty.unit)))))) fun(a:JbD×JbD×Unit)=>(Ax a.1 a.2.1,()))
def Ca:Prop:=∀(d:BoD×Unit),G0 d.1->(∃(x:List (Int×Option BlD)×List JbD),((True/\True)/\d.1.2.1=x.1/\x.2=[]/\True)/\(x.2++vg x.1).Perm (vg (Kz d.1))/\Sf x.1)/\∀(x:List (Int×Option BlD)×List JbD),(x.2++vg x.1).Perm (vg (Kz d.1))/\Sf x.1->(x.1=[]->(false=true->False)/\(qF->(∀(e:JbD),e∈x.2->∀(y:JbD),y∈x.2->kV [])/\vB jjR x.2/\(kG jjR x.2,())=(kO d.1,())))/\∀(pre:List (Int×Option BlD)) (a:Int×Option BlD) (b:List (Int×Option BlD)),x.1=pre++a::b->(true=true->a.2.isSome=true/\YK (jkx a)/\(x.2.length+[vH (jkx a)].length)*48<=140737488355328/\∃(c:List (Int×Option BlD)×List JbD),((True/\True)/\x.2++[vH (jkx a)]=c.2/\pre++b=c.1/\True)/\((c.2++vg c.1).Perm (vg (Kz d.1))/\Sf c.1)/\c.1.length<x.1.length)/\(true=false->(∀(f:JbD),f∈x.2->∀(y:JbD),y∈x.2->kV [])/\vB jjR x.2/\(kG jjR x.2,())=(kO d.1,()))
def JR:wD:=⟨[.val (.slice .int)],[.int],false,fun d=>[d.1≠[]],fun d=>(gI d.1,())⟩
def JS:Ann:=fun r=>match r with
 |5=>some fun σ=>{X:=Nat,sl:=fun i=>[(4,.dat .int (i:Int)),(3,.dat .int (((gd (.slice .int) σ 0).take i).foldl max (nth (gd (.slice .int) σ 0) 0)))],ob:=fun _=>[],inv:=fun i=>1<=i/\i<=(gd (.slice .int) σ 0).length,mu:=fun i=>(gd (.slice .int) σ 0).length-i}
 |_=>none
def JT:Prop:=∀(d:List Int×Unit),d.1≠[]->d.1.length<4611686018427387904->(decide ((d.1.length:Int)<1)=true->False)/\(decide ((d.1.length:Int)<1)=false->(0:Int)<=0/\0<(d.1.length:Int)/\(∃(x:Nat),((1=(x:Int)/\nth d.1 (Int.toNat 0)=List.foldl max (nth d.1 0) (List.take x d.1)/\True)/\True)/\1<=x/\x<=d.1.length)/\∀(x:Nat),1<=x/\x<=d.1.length->d.1.length<4611686018427387904->(decide ((x:Int)<d.1.length)=true->0<=(x:Int)/\(x:Int)<d.1.length/\kU ((x:Int)+1)/\∃(a:Nat),(((x:Int)+1=(a:Int)/\max (List.foldl max (nth d.1 0) (List.take x d.1)) (nth d.1 x)=List.foldl max (nth d.1 0) (List.take a d.1)/\True)/\True)/\(1<=a/\a<=d.1.length)/\d.1.length-a<d.1.length-x)/\(decide ((x:Int)<d.1.length)=false->(List.foldl max (nth d.1 0) (List.take x d.1),())=(gI d.1,())))
def Cb:qC:=⟨[.val (.ptr tBl),.val .int,.own rwN true],[],fun d=>[d.1.isSome=true,Sg (U.bl d.1) d.2.1 d.2.2.1],fun d=>((),(jbe d.2.1 (U.bl d.1) d.2.2.1,()))⟩
def Cc:Ann:=fun r=>match r with
 |1=>some fun σ=>{X:=Nat,sl:=fun i=>[(13,.dat .int (i:Int))],ob:=fun i=>[(1000002,some (.row 3 .int false .no (wA (gd .int σ 1) (gd (.slice .int) σ 11) (gr .int σ 1000002) i)))],inv:=fun i=>i<=(gd (.slice .int) σ 11).length,mu:=fun i=>(gd (.slice .int) σ 11).length-i}
 |_=>none
abbrev jhk (d:Option BlD×Int×List Int×Unit):=(wg ((((0:Int),(0:Int),(0:Int),(0:Int),(0:Int),(0:Int),()),(0:Int),(0:Int),(0:Int),()),((0:Int),(0:Int),(0:Int),(0:Int),(0:Int),(0:Int),(0:Int),(0:Int),[],[],()),(0:Int),(0:Int),[],(0:Int),(0:Int),false,(0:Int),()) d.1)
abbrev jic (d:Option BlD×Int×List Int×Unit):=(↑(jhk d).q4.1.length:Int)
abbrev ji0 (d:Option BlD×Int×List Int×Unit)(x:Nat):=(nth (jhk d).q4.1 x)
abbrev jjp (d:Option BlD×Int×List Int×Unit)(x:Nat):=(wA d.2.1 (jhk d).q4.1 d.2.2.1 x)
abbrev jky (d:Option BlD×Int×List Int×Unit)(x:Nat):=(nth (jjp d x) (ji0 d x).toNat+d.2.1.tdiv (jic d))
abbrev jjq (d:Option BlD×Int×List Int×Unit)(x:Nat):=((jjp d x).set (ji0 d x).toNat (jky d x))
def Cd:Prop:=∀(d:Option BlD×Int×List Int×Unit),d.1.isSome=true->Sg (U.bl d.1) d.2.1 d.2.2.1->d.1.isSome=true/\((jhk d).q4.1.length<4611686018427387904->(∃(x:Nat),((0=(x:Int)/\True)/\d.2.2.1=wA d.2.1 (jhk d).q4.1 d.2.2.1 x/\True)/\x<=(jhk d).q4.1.length)/\∀(x:Nat),x<=(jhk d).q4.1.length->(decide ((x:Int)<(jic d))=true->0<=(x:Int)/\(x:Int)<(jic d)/\0<=nth (jhk d).q4.1 x/\nth (jhk d).q4.1 x<(↑(jjp d x).length:Int)/\d.1.isSome=true/\(jic d)≠0/\kU (d.2.1.tdiv (jic d))/\kU (jky d x)/\0<=nth (jhk d).q4.1 x/\nth (jhk d).q4.1 x<(↑(jjp d x).length:Int)/\d.1.isSome=true/\((jhk d).q4.1.length<4611686018427387904->(jic d)≠0/\(decide ((x:Int)<d.2.1.tmod (jic d))=true->0<=nth (jhk d).q4.1 x/\nth (jhk d).q4.1 x<(↑(jjq d x).length:Int)/\kU (nth (jjq d x) (ji0 d x).toNat+1)/\0<=nth (jhk d).q4.1 x/\nth (jhk d).q4.1 x<(↑(jjq d x).length:Int)/\kU ((x:Int)+1)/\∃(a:Nat),(((x:Int)+1=(a:Int)/\True)/\(jjq d x).set (ji0 d x).toNat (nth (jjq d x) (ji0 d x).toNat+1)=wA d.2.1 (jhk d).q4.1 d.2.2.1 a/\True)/\a<=(jhk d).q4.1.length/\(jhk d).q4.1.length-a<(jhk d).q4.1.length-x)/\(decide ((x:Int)<d.2.1.tmod (jic d))=false->kU ((x:Int)+1)/\∃(a:Nat),(((x:Int)+1=(a:Int)/\True)/\(jjp d x).set (ji0 d x).toNat (jky d x)=wA d.2.1 (jhk d).q4.1 d.2.2.1 a/\True)/\a<=(jhk d).q4.1.length/\(jhk d).q4.1.length-a<(jhk d).q4.1.length-x)))/\(decide ((x:Int)<(jic d))=false->()=()/\(wA d.2.1 (jhk d).q4.1 d.2.2.1 x,())=(jbe d.2.1 (U.bl d.1) d.2.2.1,())))
theorem Ai:uK:=fun _=>rfl
theorem uL:wN PR 55 uJ:=wt Ai Tryz.func55 (kcC yA (kcC ce kcN)) koN
theorem so:ga PR 54 sn:=
 Ec Tryz.sortLn 57 rfl (jB (by kernel_rfl)) Tryz.isAgg57 Tryz.sizeOf57 (qQ Tryz.func54 (c:=wK Tryz.f54) (by kernel_rfl) (by kernel_rfl))
theorem jaH:iW Ax:=by
 have e:Ax=UR (fun a b=>db (eQ a) (eQ b)) (fun a b=>db (eU a) (eU b)):=by
  funext a b;unfold Ax;simp only[wP,UR]
  split<;>(try rfl)
  split<;>(try rfl)
  rename_i h;exact(jZ.1 h).symm
 rw[e];exact rP (pC nj eQ) (pC nj eU)
theorem X7 {a b:LnD} (h:Ax a b=0):eU a=eU b:=by
 unfold Ax at h;rw[wP] at h
 split at h
 contradiction;rw[vb] at h;exact aU.1 h
def jgJ (l:List LnD):Prop:=∀a∈l,∀b∈l,eU a=eU b->a=b
theorem jgn {l:List LnD} (h:jgJ l):vB (kK tLn fun x=>(Ax x.1 x.2.1,())) l:=CG jaH (fun a b d e c=>h a d b e (X7 c))
theorem H3 {o:BoD} (h:G0 o):jgJ (vg (Kz o)):=by
 obtain⟨j,_,c,d⟩:=h;intro a s b t e;obtain⟨x,f,rfl⟩:=jG.1 s;obtain⟨y,g,rfl⟩:=jG.1 t;obtain⟨p,l,_⟩:=j x f;obtain⟨q,m,_⟩:=j y g;have u:=d x f p l;have w:=d y g q m;rw[l,m] at e;have e:UV p=UV q:=e;have n:x.1=y.1:=(by rw[<-u,<-w,e]);have i:=(M.oM (kt:= .int) c (k:=x.1) (v:=x.2)).2 f;have r:=(M.oM (kt:= .int) c (k:=y.1) (v:=y.2)).2 g;rw[n,r] at i;have e2:y.2=x.2:=(by simpa using i);rw[e2]
theorem Fs:Ca:=by
 unfold Ca jjR jkx;rintro⟨o,⟨⟩⟩ n;have p:=H3 n;obtain⟨s,d,t,u⟩:=id n;have d:(Kz o).length<=100:=d;refine⟨⟨(Kz o,[]),⟨⟨tZ,tZ⟩,rfl,rfl,tZ⟩,List.Perm.refl _,s⟩,fun x q=>⟨fun i=>⟨fun h=>(by cases h),fun _=>⟨fun _ _ _ _=>tZ,?_⟩⟩,fun pre e c j=>⟨fun _=> ?_,fun h=>(by cases h)⟩⟩⟩;obtain⟨l,out⟩:=x;have i:l=[]:=i;subst i;have f:(out++[]).Perm (vg (Kz o)):=q.1;rw[jY] at f;exact⟨jgn fun a r b g=>p a (f.mem_iff.1 r) b (f.mem_iff.1 g),jP (·,()) (Lm (jgn p) f)⟩;obtain⟨l,out⟩:=x;have j:l=pre++e::c:=j;subst j;obtain⟨f,hk⟩:(out++vg (pre++e::c)).Perm (vg (Kz o))/\Sf (pre++e::c):=q;obtain⟨b,g,v⟩:=hk e (by simp);have m:=f.length_eq;simp only[vg,jK,zc,ze] at m;obtain⟨k,z⟩:=e;have g:z=some b:=g;subst g;refine⟨rfl,v,by simp only[ze,zx];omega,(pre++c,out++[vH b]),⟨⟨tZ,tZ⟩,rfl,rfl,tZ⟩,⟨?_,fun y w=>hk y ?_⟩,by simp only[jK,ze];omega⟩;refine List.Perm.trans ?_ f;simp only[vg,j7,zg,jJ,List.singleton_append];exact List.Perm.append_left out List.perm_middle.symm;rcases ju.1 w with h|h;exact jh _ h;exact jg _ (jl _ h)
theorem bN:wN PR 26 B8:=vZ B9 Fs Tryz.func26 (kcC pE (kcC uL kcN)) (koC so koN)
theorem Na:JT:=by
 rintro⟨l,⟨⟩⟩ a c;have a:l≠[]:=a;have b:0<l.length:=List.length_pos_iff.2 a;refine⟨fun h=> ?_,fun _=>⟨by decide,by simp only;omega,⟨1,⟨⟨rfl,?_,tZ⟩,tZ⟩,jj _,b⟩,fun x d _=>⟨fun h=> ?_,fun h=> ?_⟩⟩⟩;have h:(l.length:Int)<1:=ja h;omega;show nth l 0=List.foldl max (nth l 0) (l.take 1);have:=L.kT (l:=l) (i:=0) b;rw[this];show nth l 0=max (nth l 0) (nth l 0);omega;have h:(x:Int)<l.length:=ja h;have c:l.length<4611686018427387904:=c;refine⟨jQ _,h,iZ6,x+1,⟨⟨by simp,?_,tZ⟩,tZ⟩,⟨by omega,by show x+1<=l.length;omega⟩,by show l.length-(x+1)<l.length-x;omega⟩;show max (List.foldl max (nth l 0) (l.take x)) (nth l x)=List.foldl max (nth l 0) (l.take (x+1));rw[L.kT (show x<l.length by omega),jz];rfl;have h:¬(x:Int)<l.length:=je h;show(List.foldl max (nth l 0) (l.take x),())=(gI l,());rw[zp (by omega)];rfl
theorem JU:wN PR 59 JR:=vZ JS Na Tryz.func59 kcN koN
theorem fX (a:Int) (tm out:List Int) (k:Nat):wA a tm out (k+1)=oL a tm (wA a tm out k) k:=by
 unfold wA;rw[jN,jz];rfl
theorem nU {a M:Int} {tm out:List Int} (h:0<=a/\a<=100000000000000000) (d:∀p∈tm,0<=p/\p<(out.length:Int)) (c:∀x∈out,-1000000000000000000<=x/\x<=M):
 ∀k,k<=tm.length->(wA a tm out k).length=out.length/\∀j,j<out.length->-1000000000000000000<=nth (wA a tm out k) j/\nth (wA a tm out k) j<=M+(k:Int)*100000000000000001
 |0,_=>⟨rfl,fun j e=>by
  have:=c _ (L.kJ e)
  show _<=nth out j/\nth out j<=_
  omega⟩
 |k+1,hk=>by
  obtain⟨f,g⟩:=nU h d c k (by omega)
  have m:=d _ (L.kJ (show k<tm.length by omega))
  have n:=jaB (b:=(tm.length:Int)) h (by omega)
  rw[fX]
  unfold oL
  refine⟨by rw[zA,f],fun j e=> ?_⟩
  rw[L.vM (by rw[f];omega)]
  have i:=g j e
  have l:=g (nth tm k).toNat (by omega)
  split
  split<;>omega
  omega
theorem Ft:Cd:=by
 unfold Cd jjq jky jjp ji0 jic jhk Prod.q4;rintro⟨o,a,out,⟨⟩⟩ j w;obtain⟨b,rfl⟩:∃b,o=some b:=Option.isSome_iff_exists.1 j;obtain⟨z,p,q,r,v⟩:Sg b a out:=w;have F:=nU (tm:=qz b) ⟨q,r⟩ p v;refine⟨rfl,fun B=>⟨⟨0,⟨⟨rfl,tZ⟩,rfl,tZ⟩,jt _⟩,fun x t=>⟨fun h=> ?_,fun h=>⟨rfl,?_⟩⟩⟩⟩;have h:(x:Int)<(qz b).length:=ja h;have n:x<(qz b).length:=(by omega);obtain⟨k,u⟩:=F x (by omega);have d:=p _ (L.kJ n);have y:=jaB (b:=((qz b).length:Int)) ⟨q,r⟩ (by omega);have A:=u (nth (qz b) x).toNat (by omega);have l:(nth (qz b) x).toNat<(wA a (qz b) out x).length:=(by rw[k];omega);have j:=fX a (qz b) out x;have f:((qz b).length:Int)≠0:=(by omega);have g:nth (qz b) x<((wA a (qz b) out x).length:Int):=(by rw[k];exact d.2);have s:nth ((wA a (qz b) out x).set (nth (qz b) x).toNat (nth (wA a (qz b) out x) (nth (qz b) x).toNat+a.tdiv ((qz b).length:Int))) (nth (qz b) x).toNat=nth (wA a (qz b) out x) (nth (qz b) x).toNat+a.tdiv ((qz b).length:Int):=by
  rw[L.vM l,jd rfl]
 refine⟨jQ _,h,d.1,g,rfl,f,Fb y (by omega),L.Cs (by show _<=nth (wA a (qz b) out x) (nth (qz b) x).toNat+a.tdiv ((qz b).length:Int);omega) (by show nth (wA a (qz b) out x) (nth (qz b) x).toNat+a.tdiv ((qz b).length:Int)<=_;omega),d.1,g,rfl,fun _=>⟨f,fun c=> ?_,fun c=> ?_⟩⟩;have c:(x:Int)<a.tmod ((qz b).length:Int):=ja c;have m:((wA a (qz b) out x).set (nth (qz b) x).toNat (nth (wA a (qz b) out x) (nth (qz b) x).toNat+a.tdiv ((qz b).length:Int))).length=out.length:=(by rw[zA,k]);have i:nth (qz b) x<(((wA a (qz b) out x).set (nth (qz b) x).toNat (nth (wA a (qz b) out x) (nth (qz b) x).toNat+a.tdiv ((qz b).length:Int))).length:Int):=(by rw[m];exact d.2);refine⟨d.1,i,?_,d.1,i,iZ6,x+1,⟨⟨by simp,tZ⟩,?_,tZ⟩,by show x+1<=(qz b).length;omega,by show(qz b).length-(x+1)<(qz b).length-x;omega⟩;show kU (nth ((wA a (qz b) out x).set (nth (qz b) x).toNat (nth (wA a (qz b) out x) (nth (qz b) x).toNat+a.tdiv ((qz b).length:Int))) (nth (qz b) x).toNat+1);rw[s];exact iZ6;show((wA a (qz b) out x).set (nth (qz b) x).toNat (nth (wA a (qz b) out x) (nth (qz b) x).toNat+a.tdiv ((qz b).length:Int))).set (nth (qz b) x).toNat (nth ((wA a (qz b) out x).set (nth (qz b) x).toNat (nth (wA a (qz b) out x) (nth (qz b) x).toNat+a.tdiv ((qz b).length:Int))) (nth (qz b) x).toNat+1)=wA a (qz b) out (x+1);rw[s,List.set_set,j];unfold oL;rw[jd c];have c:¬(x:Int)<a.tmod ((qz b).length:Int):=je c;refine⟨iZ6,x+1,⟨⟨by simp,tZ⟩,?_,tZ⟩,by show x+1<=(qz b).length;omega,by show(qz b).length-(x+1)<(qz b).length-x;omega⟩;show(wA a (qz b) out x).set (nth (qz b) x).toNat (nth (wA a (qz b) out x) (nth (qz b) x).toNat+a.tdiv ((qz b).length:Int))=wA a (qz b) out (x+1);rw[j];unfold oL;rw[jc c,Int.add_zero];have h:¬(x:Int)<(qz b).length:=je h;have t:x<=(qz b).length:=t;have e:x=(qz b).length:=(by omega);subst e;rfl
theorem Ce:ga PR 58 Cb:=AV Cc Ft Tryz.func58 kcN koN
namespace U
def NG (o:BoD):Prop:=G0 o/\(yH (cW o)).length<=100/\(∀n∈yH (cW o),0<=n/\n<=20)/\∀e∈Kz o,∀b,e.2=some b->UK b∈yH (cW o)
def NH (o:BoD):Prop:=G0 o/\(kI (kD (kE (cW o)))).length<=100/\∀e∈Kz o,∀b,e.2=some b->∀p∈qz b,0<=p/\p<((kI (kD (kE (cW o)))).length:Int)
end U
def Aj:wD:=⟨[.val tBo],[.slice .int],false,fun d=>[NG d.1],fun d=>(vE d.1,())⟩
def Ak:Ann:=fun r=>match r with
 |5=>some fun σ=>{X:=Nat,sl:=fun i=>[(20,.dat .int (i:Int))],ob:=fun i=>[(3,some (.row 3 .int false .no (yl (gI (yH (cW (gb tBo σ 1)))+1).toNat (gd (.slice tLn) σ 18) i)))],inv:=fun i=>i<=(gd (.slice tLn) σ 18).length,mu:=fun i=>(gd (.slice tLn) σ 18).length-i}
 |_=>none
abbrev jid (d:BoD×Unit)(x:Nat):=(nth (kO d.1) x)
abbrev jjS (d:BoD×Unit):=(gI (yH (cW d.1))+1)
abbrev jjr (d:BoD×Unit)(x:Nat):=(yl (jjS d).toNat (kO d.1) x)
def Al:Prop:=∀(d:BoD×Unit),NG d.1->d.1.1.2.1.length<4611686018427387904->(decide ((d.1.1.2.1.length:Int)=0)=true->([],())=(vE d.1,()))/\(decide ((d.1.1.2.1.length:Int)=0)=false->d.1.1.2.1≠[]/\kU (gI d.1.1.2.1+1)/\0<=gI d.1.1.2.1+1/\gI d.1.1.2.1+1=gI d.1.1.2.1+1/\(gI d.1.1.2.1+1).toNat*8<=140737488355328/\G0 d.1/\((kO d.1).length<4611686018427387904->(∃(x:Nat),((0=(x:Int)/\True)/\List.replicate (gI d.1.1.2.1+1).toNat 0=yl (jjS d).toNat (kO d.1) x/\True)/\x<=(kO d.1).length)/\∀(x:Nat),x<=(kO d.1).length->(decide ((x:Int)<(kO d.1).length)=true->0<=(x:Int)/\(x:Int)<(kO d.1).length/\(0:Int)<=(jid d x).1/\(jid d x).1<(↑(jjr d x).length:Int)/\kU (nth (jjr d x) (jid d x).1.toNat+(jid d x).q4.2.1)/\(0:Int)<=(jid d x).1/\(jid d x).1<(↑(jjr d x).length:Int)/\kU ((x:Int)+1)/\∃(a:Nat),(((x:Int)+1=(a:Int)/\True)/\(jjr d x).set (jid d x).1.toNat (nth (jjr d x) (jid d x).1.toNat+(jid d x).q4.2.1)=yl (jjS d).toNat (kO d.1) a/\True)/\a<=(kO d.1).length/\(kO d.1).length-a<(kO d.1).length-x)/\(decide ((x:Int)<(kO d.1).length)=false->(yl (jjS d).toNat (kO d.1) x,())=(vE d.1,()))))
def GH:wD:=⟨[.val tBo,.val .int],[.slice .int],false,fun d=>[NH d.1],fun d=>(vW d.1 d.2.1,())⟩
abbrev jhZ (d:BoD×Int×Unit):=(w4 none (wv Ty.int d.2.1 d.1.2.1))
abbrev jjs (d:BoD×Int×Unit):=(wg ((((0:Int),(0:Int),(0:Int),(0:Int),(0:Int),(0:Int),()),(0:Int),(0:Int),(0:Int),()),((0:Int),(0:Int),(0:Int),(0:Int),(0:Int),(0:Int),(0:Int),(0:Int),[],[],()),(0:Int),(0:Int),[],(0:Int),(0:Int),false,(0:Int),()) (jhZ d))
abbrev jiF (d:BoD×Int×Unit):=(d.1.1.1.1.2.1.length:Int)
abbrev jlf (d:BoD×Int×Unit):=(jbe (vH (jjs d)).2.2.1 (U.bl (jhZ d)) (List.replicate (jiF d).toNat (0:Int)))
def GI:Prop:=∀(d:BoD×Int×Unit),NH d.1->d.1.1.1.1.2.1.length<4611686018427387904->0<=(jiF d)/\(jiF d)=(jiF d)/\(jiF d).toNat*8<=140737488355328/\((!(jhZ d).isNone)=true->(jhZ d).isSome=true/\YK (jjs d)/\(jhZ d).isSome=true/\Sg (U.bl (jhZ d)) (vH (jjs d)).2.2.1 (List.replicate (jiF d).toNat (0:Int))/\(jhZ d).isSome=true/\Sg (U.bl (jhZ d)) (vH (jjs d)).2.2.2.1 (jlf d)/\(jbe (vH (jjs d)).2.2.2.1 (U.bl (jhZ d)) (jlf d),())=(vW d.1 d.2.1,()))/\((!(jhZ d).isNone)=false->(List.replicate (jiF d).toNat (0:Int),())=(vW d.1 d.2.1,()))
theorem JV:GI:=by
 unfold GI jlf jiF jjs jhZ;intro d A E;obtain⟨m,l,k⟩:NH d.1:=A;have l:(kI (kD (kE (cW d.1)))).length<=100:=l;refine⟨jQ _,rfl,?_,fun h=> ?_,fun h=> ?_⟩;show(((kI (kD (kE (cW d.1)))).length:Int)).toNat*8<=140737488355328;omega;obtain⟨b,e⟩:∃b,w4 none (wv Ty.int d.2.1 d.1.2.1)=some b:=by
  cases g:w4 none (wv Ty.int d.2.1 d.1.2.1) with
  |none=>rw[g] at h;cases h
  |some b=>exact⟨b,rfl⟩
 have i:(d.2.1,some b)∈Kz d.1:=by
  refine(M.oM (kt:= .int) m.2.2.1).1 ?_;cases g:wv (β:=Option BlD) Ty.int d.2.1 d.1.2.1 with
  |none=>rw[g] at e;cases e
  |some v=>rw[g] at e;exact g.trans (jP some e)
 obtain⟨z,o,u⟩:=m.1 _ i;have o:some b=some z:=o;simp only[jy] at o;subst o;have w:RR b:=ux.1 u;have D:=k _ i b rfl;have n:=w.bl.tm;have s:=uy w;have C:=uz w;have ep:vW d.1 d.2.1=UM (kI (kD (kE (cW d.1)))).length (some b):=jP (UM (kI (kD (kE (cW d.1)))).length) e;rw[e,ep];have f:∀p∈qz b,0<=p/\p<((List.replicate (kI (kD (kE (cW d.1)))).length (0:Int)).length:Int):=fun p q=>by rw[jW];exact D p q
 obtain⟨r,y⟩:=nU (a:=qf b) (M:=0) (tm:=qz b) ⟨s.1,by omega⟩ f (fun x c=>by rw[List.eq_of_mem_replicate c];omega) (qz b).length (jj _);refine⟨rfl,u,rfl,⟨n,f,s.1,?_,fun x c=> ?_⟩,rfl,⟨n,fun p q=> ?_,C.1,?_,fun x c=> ?_⟩,rfl⟩;show qf b<=100000000000000000;omega;have c:x∈List.replicate (kI (kD (kE (cW d.1)))).length (0:Int):=c;rw[List.eq_of_mem_replicate c];omega;have B:=f p q;show 0<=p/\p<((wA (qf b) (qz b) (List.replicate (kI (kD (kE (cW d.1)))).length (0:Int)) (qz b).length).length:Int);rw[r];exact B;show qB b<=100000000000000000;omega;have c:x∈wA (qf b) (qz b) (List.replicate (kI (kD (kE (cW d.1)))).length (0:Int)) (qz b).length:=c;obtain⟨j,t,rfl⟩:=L.mem_iff.1 c;have:=y j (by rw[r] at t;exact t);omega;have e:w4 none (wv Ty.int d.2.1 d.1.2.1)=none:=by
  cases g:w4 none (wv Ty.int d.2.1 d.1.2.1) with
  |none=>rfl
  |some b=>rw[g] at h;cases h
 have ep:vW d.1 d.2.1=UM (kI (kD (kE (cW d.1)))).length none:=jP (UM (kI (kD (kE (cW d.1)))).length) e;rw[ep];rfl
theorem pF:wN PR 27 GH:=wt JV Tryz.func27 (kcC pE kcN) (koC Ce koN)
theorem X8 {b:BlD} (w:RR b): -1000000<=NQ (vH b)/\NQ (vH b)<=20000000000000000:=by
 have c:=uy w;have d:=uz w;have e:=w.bl.ta.cp;have a:0<=(qf b+qB b)*nth (ci (gQ b)) (mw (yY (gq b))).toNat/\(qf b+qB b)*nth (ci (gQ b)) (mw (yY (gq b))).toNat<=10000001000000000*100:=P2 (by omega) (XT w.bl);have f:=jaB (b:=100) a (by omega);show-1000000<=qf b+qB b-pJ b/\qf b+qB b-pJ b<=20000000000000000;unfold pJ;omega
theorem H4 {o:BoD} (h:G0 o) {x:LnD} (c:x∈kO o):∃k b,(k,some b)∈Kz o/\RR b/\x=vH b:=by
 have c:x∈vg (Kz o):=(wJ _).mem_iff.1 c;obtain⟨⟨k,v⟩,d,rfl⟩:=jG.1 c;obtain⟨b,a,e⟩:=h.1 _ d;have a:v=some b:=a;subst a;exact⟨k,b,d,ux.1 e,rfl⟩
theorem H5 {o:BoD} (h:G0 o):(kO o).length<=100:=by
 have e:(kO o).length=(vg (Kz o)).length:=(wJ _).length_eq;have e2:(vg (Kz o)).length=(Kz o).length:=zc _;have:=h.2.1;omega
theorem Fu:∀(l:List Int) (a:Int),a<=l.foldl max a/\(∀n∈l,n<=l.foldl max a)/\(l.foldl max a=a\/l.foldl max a∈l)
 |[],a=>⟨zo _,fun n c=>(by cases c),Or.inl rfl⟩
 |x::r,a=>by
  obtain⟨e,d,b⟩:=Fu r (max a x)
  show a<=r.foldl max (max a x)/\_/\(r.foldl max (max a x)=a\/r.foldl max (max a x)∈x::r)
  refine⟨by omega,fun n c=> ?_,?_⟩
  show n<=r.foldl max (max a x)
  rcases jk.1 c with rfl|c
  omega
  exact d n c
  rcases b with b|b
  rcases Int.le_total a x with h|h
  right;rw[b,Int.max_eq_right h];simp
  left;rw[b,Int.max_eq_left h]
  right;exact jl _ b
theorem Qi {l:List Int} {n:Int} (h:n∈l):n<=gI l:=(Fu l (nth l 0)).2.1 n h
theorem JW {l:List Int} (h:l≠[]):gI l∈l:=by
 rcases(Fu l (nth l 0)).2.2 with a|a;have:gI l=nth l 0:=a;rw[this];exact L.kJ (List.length_pos_iff.2 h);exact a
theorem oG {n:Nat} {l:List LnD} {k:Nat} (h:k<l.length):yl n l (k+1)=Ks (yl n l k) (nth l k):=by
 unfold yl;rw[L.kT h,jz];rfl
theorem Fv {n:Nat} {l:List LnD} (h:∀x∈l,(0<=eQ x/\eQ x<(n:Int))/\-1000000<=NQ x/\NQ x<=20000000000000000):
 ∀k,k<=l.length->(yl n l k).length=n/\∀j,j<n->-1000000*(k:Int)<=nth (yl n l k) j/\nth (yl n l k) j<=20000000000000000*(k:Int)
 |0,_=>⟨jW,fun j a=>by
  have:nth (yl n l 0) j=0:=L.aV a
  rw[this];omega⟩
 |k+1,hk=>by
  obtain⟨b,c⟩:=Fv h k (by omega)
  obtain⟨⟨f,g⟩,i,m⟩:=h _ (L.kJ (show k<l.length by omega))
  rw[oG (by omega)]
  unfold Ks
  refine⟨by rw[zA,b],fun j a=> ?_⟩
  rw[L.vM (by rw[b];omega)]
  have d:=c j a
  have e:=c (eQ (nth l k)).toNat (by omega)
  split<;>omega
theorem Cf:Al:=by
 unfold Al jjr jjS jid Prod.q4;intro d s C;obtain⟨c,a,i,w⟩:NG d.1:=s;have a:(yH (cW d.1)).length<=100:=a;refine⟨fun h=> ?_,fun h=> ?_⟩;have h:((yH (cW d.1)).length:Int)=0:=ja h;have e:vE d.1=[]:=jd (by omega);rw[e];have h:¬((yH (cW d.1)).length:Int)=0:=je h;have g:yH (cW d.1)≠[]:=fun e=>h (by rw[e];rfl)
 have D:=i _ (JW g);have e:vE d.1=yl (gI (yH (cW d.1))+1).toNat (kO d.1) (kO d.1).length:=jc (by omega);have m:∀x∈kO d.1,(0<=eQ x/\eQ x<(((gI (yH (cW d.1))+1).toNat:Nat):Int))/\-1000000<=NQ x/\NQ x<=20000000000000000:=fun x m=>by
  obtain⟨k,b,t,u,rfl⟩:=H4 c m;have n:=w _ t b rfl;have A:=Qi n;have v:=i _ n;refine⟨⟨v.1,?_⟩,X8 u⟩;show UK b<_;omega
 have F:=Fv m;have B:=H5 c;refine⟨g,L.Cs (by show _<=gI (yH (cW d.1))+1;omega) (by show gI (yH (cW d.1))+1<=_;omega),by show 0<=gI (yH (cW d.1))+1;omega,rfl,by show(gI (yH (cW d.1))+1).toNat*8<=140737488355328;omega,c,fun _=>⟨⟨0,⟨⟨rfl,tZ⟩,rfl,tZ⟩,jt _⟩,fun x j=>⟨fun f=> ?_,fun f=> ?_⟩⟩⟩;have f:(x:Int)<(kO d.1).length:=ja f;have l:x<(kO d.1).length:=(by omega);obtain⟨⟨o,y⟩,E,G⟩:=m _ (L.kJ l);obtain⟨q,r⟩:=F x (by omega);have z:=r (eQ (nth (kO d.1) x)).toNat (by omega);have p:eQ (nth (kO d.1) x)<((yl (gI (yH (cW d.1))+1).toNat (kO d.1) x).length:Int):=(by rw[q];exact y);refine⟨jQ _,f,o,p,?_,o,p,iZ6,x+1,⟨⟨by simp,tZ⟩,(oG l).symm,tZ⟩,by show x+1<=(kO d.1).length;omega,by show(kO d.1).length-(x+1)<(kO d.1).length-x;omega⟩;show kU (nth (yl (gI (yH (cW d.1))+1).toNat (kO d.1) x) (eQ (nth (kO d.1) x)).toNat+NQ (nth (kO d.1) x));exact iZ6;have f:¬(x:Int)<(kO d.1).length:=je f;have j:x<=(kO d.1).length:=j;have ex:x=(kO d.1).length:=(by omega);subst ex;rw[e]
theorem fY:wN PR 28 Aj:=vZ Ak Cf Tryz.func28 (kcC JU (kcC bN kcN)) koN
namespace U
def bo (l:LgD):BoD:=(l,QF l,())
def qS (l:LgD):List LnD:=if wo l=0 then kO (bo l) else[]
def Ay (l:LgD):List Int:=if wo l=0 then vE (bo l) else[]
def n4 (l:LgD) (n:Int):Bool:=kA n 0 (((kH (kE l)).length:Int)-1)
def qk (l:LgD) (n:Int):List Int:=if qI l (n4 l n)=0 then vW (bo l) n else[]
end U
theorem JX {l:LgD} {e:Int×Option BlD} (h:e∈QF l):∃n,n∈kB (kE l)/\e=(n,some (wi l n)):=by
 rw[Ff] at h;obtain⟨n,a,rfl⟩:=jG.1 h;exact⟨n,a,rfl⟩
theorem RX {l:LgD} (h:iu l):(kB (kE l)).length<=4:=by
 have a:=h.dy;unfold wZ at a;rw[ji] at a;have a:=(ja a.1).1;unfold kB
 split
 unfold gO;rw[zc];exact jF (zH _ _) (by rw[zt];exact a);exact jt _
theorem X9 {l:LgD} (h:iu l):G0 (U.bo l):=by
 refine⟨fun e c=> ?_,?_,?_,fun e c b a=> ?_⟩;obtain⟨n,d,rfl⟩:=JX c;exact⟨_,rfl,ux.2 (Fh h (JM d))⟩;show(QF l).length<=100;have:=RX h;rw[Ff,zc];omega;show((QF l).map (·.1)).Nodup;rw[Ff,kj];have e:((fun(x:Int×Option BlD)=>x.1)∘fun n=>(n,some (wi l n)))=id:=rfl;rw[e,List.map_id];exact oF _;obtain⟨n,d,rfl⟩:=JX c;have a:some (wi l n)=some b:=a;simp only[jy] at a;subst a;exact(qX l n _ (jj _)).2.2.1
theorem jfc {l:LgD} (h:iu l):NG (U.bo l):=by
 have d:(kH (kE l)).length<=4:=by
  have c:=h.dy;unfold wZ at c;rw[ji] at c;exact(ja c.1).1
 refine⟨X9 h,?_,h.py.2,fun e f b a=> ?_⟩;show(yH l).length<=100;rw[h.py.1];omega;obtain⟨n,i,rfl⟩:=JX f;have a:some (wi l n)=some b:=a;simp only[jy] at a;subst a;have e:UK (wi l n)=nth (yH l) n.toNat:=(qX l n _ (jj _)).2.2.2.1;rw[e];have:=JM i;have g:n.toNat<(yH l).length:=(by rw[h.py.1];omega);exact L.kJ g
theorem jaI {l:LgD} (h:iu l):NH (U.bo l):=by
 refine⟨X9 h,?_,fun e c b a=> ?_⟩;show(kI (kD (kE l))).length<=100;have:=jfa h;omega;obtain⟨n,d,rfl⟩:=JX c;have a:some (wi l n)=some b:=a;simp only[jy] at a;subst a;have e:qz (wi l n)=qc l n (kI (kD (kE l))).length:=(qX l n _ (jj _)).2.2.2.2.1;rw[e];exact(uA _ _).2
namespace U
def n7 (l:LgD) (b:Int):BkD:=nth (kH (kE l)) b.toNat
def NI (l:LgD) (b:Int) (x:Int×Bool) (c:CaD):Int×Bool:=if jfz c=b/\YZ c<=yq (n7 l b)/\(x.2=false\/YZ c<x.1) then(YZ c,true) else x
def FM (l:LgD) (b:Int) (k:Nat):Int×Bool:=((wy l).take k).foldl (NI l b) (0,false)
def NJ (l:LgD) (b:Int):Int×Bool:=FM l b (wy l).length
def Kt (l:LgD) (b:Int) (i:Nat):Bool:=decide (jbd (ak l)<=yq (n7 l b)+i)||decide (yq (n7 l b)+i<jd6 (ak l))
def Az (l:LgD) (b:Int) (k:Nat):Int:=(((List.range k).countP (Kt l b):Nat):Int)
def QG (l:LgD) (b:Int):Int:=Az l b (dp (n7 l b)-yq (n7 l b)).toNat
def io (l:LgD) (b m:Int):Int:=m*jd4 (ak l)*max (jd5 (ak l)) (up (dp (n7 l b)-yq (n7 l b)) (UI (ak l)))
def FN (l:LgD) (b m:Int):Int:=io l b m+up (io l b m*Ky (ak l)*QG l b) (100*(dp (n7 l b)-yq (n7 l b)))
def jb0 (l:LgD) (b m:Int) (n:NoD):Bool:=decide (YX n<=yq (n7 l b)-m)
def YM (l:LgD) (b m:Int):Int:=if 0<=yO (jb0 l b m) (il (ak l)) then jbZ (nth (il (ak l)) (yO (jb0 l b m) (il (ak l))).toNat) else 100
def mq (l:LgD) (b t:Int):Int:=if(NJ l b).2=true then up (FN l b (BT.size t)*YM l b (NJ l b).1) 100 else FN l b (BT.size t)
def mr (l:LgD) (b t:Int):Int:=if(NJ l b).2=true then 0 else YY (ak l)*nth (A5 l) b.toNat*BT.size t
def jgz (l:LgD) (b t:Int):Int:=min (UJ (ak l)) (((mq l b t+mr l b t)*nth (ci (ak l)) (mw (yY (n7 l b))).toNat).tdiv 100)
def lT (l:LgD) (b t:Int):LnD:=(nth (yH l) b.toNat,b,mq l b t,mr l b t,jgz l b t,mq l b t+mr l b t-jgz l b t,())
def qn (l:LgD) (b:Int):Int:=nth (Kx (kE l)) b.toNat
def Cr (l:LgD) (b:Int):Bool:=b8 (kD (kE l)) (yY (n7 l b)) (qn l b)
def jgQ (l:LgD) (p:Int) (b:Nat):Bool:=Cr l (b:Int)&&decide (nth (yH l) b=p)
def YN (l:LgD) (p:Int) (k:Nat):List LnD:=((List.range k).filter (jgQ l p)).map (fun(b:Nat)=>lT l (b:Int) (qn l (b:Int)))
def n8 (l:LgD) (n:Nat):List LnD:=(List.range n).flatMap (fun(p:Nat)=>YN l (p:Int) (yH l).length)
def wQ (l:LgD):List LnD:=n8 l 21
def ck (l:LgD) (k:Nat):Int:=((yH l).take k).foldl (fun m p=>max m (p+1)) 0
def lU (l:LgD):Int:=ck l (yH l).length
def NK (l:LgD):List Int:=yl (lU l).toNat (wQ l) (wQ l).length
def ym (a m:Int) (i:Nat):Int:=a.tdiv m+(if(i:Int)<a.tmod m then 1 else 0)
def gu (a m:Int) (k:Nat):List Int:=(List.range k).map (ym a m)
def eH (a m:Int):List Int:=gu a m m.toNat
def YO (w t:List Int) (a:Int) (x:List Int×Int) (p:Nat):List Int×Int:=if wH a (p:Int)=true then(x.1.set p (nth w x.2.toNat+nth t x.2.toNat),x.2+1) else x
def eI (w t:List Int) (a:Int) (n k:Nat):List Int×Int:=(List.range k).foldl (YO w t a) (List.replicate n 0,0)
def wY (l:LgD):Nat:=(kI (kD (kE l))).length
def vu (l:LgD) (b:Int):List Int:=if Cr l b=true then(eI (eH (mq l b (qn l b)) (BT.size (qn l b))) (eH (mr l b (qn l b)) (BT.size (qn l b))) (qn l b) (wY l) (wY l)).1 else List.replicate (wY l) 0
def jgA (l:LgD) (b:Int):Prop:=vK (ak l)=true/\(0<=b/\b<((kH (kE l)).length:Int))/\(yH l).length=(kH (kE l)).length/\(A5 l).length=(kH (kE l)).length/\(∀n∈A5 l,0<=n/\n<=300)/\
 (0<=yq (n7 l b)/\yq (n7 l b)<dp (n7 l b)/\dp (n7 l b)<=1440)/\(0<=mw (yY (n7 l b))/\mw (yY (n7 l b))<=3)/\(wy l).length<=1000/\∀c∈wy l,-100000<=YZ c/\YZ c<=1440
end U
theorem jfe {l:LgD} (h:iu l) {b:Int} (a:0<=b/\b<((kH (kE l)).length:Int)):jgA l b:=by
 obtain⟨d,e⟩:=Fg h a;exact⟨dN.2 h.ta,a,h.py.1,h.tr.1,h.tr.2,d,e,by have:=h.cl.1;omega,fun c f=>(h.cl.2 c f).2.2⟩
theorem Fw {l:LgD} {b:Int} {k:Nat} (h:k<(wy l).length):FM l b (k+1)=NI l b (FM l b k) (nth (wy l) k):=by
 unfold FM;rw[L.kT h,jz];rfl
theorem jdA {l:LgD} {b:Int} (h:∀c∈wy l,-100000<=YZ c/\YZ c<=1440):∀k,k<=(wy l).length->-100000<=(FM l b k).1/\(FM l b k).1<=1440
 |0,_=>by show-100000<=(0:Int)/\(0:Int)<=1440;omega
 |k+1,hk=>by
  rw[Fw (by omega)]
  unfold NI
  split
  exact h _ (L.kJ (by omega))
  exact jdA h k (by omega)
theorem Nb {l:LgD} {n:Int}:∀k,k<=(wy l).length->(sE (kR l n k),xb (kR l n k))=FM l n k
 |0,_=>rfl
 |k+1,hk=>by
  have d:=Nb (l:=l) (n:=n) k (by omega)
  have c:gq (kR l n k)=n7 l n:=(qX l n k (by omega)).1
  rw[dO (by omega),Fw (by omega),<-d]
  unfold u5 NI
  by_cases a:jfz (nth (wy l) k)=n
  rw[jd a]
  unfold gP
  rw[c]
  by_cases b:YZ (nth (wy l) k)<=yq (n7 l n)/\(xb (kR l n k)=false\/YZ (nth (wy l) k)<sE (kR l n k))
  rw[jd b,jd ⟨a,b⟩];rfl
  rw[jc b,jc (fun h=>b h.2)]
  rw[jc a,jc (fun h=>a h.1)]
theorem Ya {l:LgD} {b:Int} (a:jd6 (ak l)<=jbd (ak l)):∀k:Nat,Az l b k=max 0 (yq (n7 l b)+k-max (yq (n7 l b)) (jbd (ak l)))+max 0 (min (yq (n7 l b)+k) (jd6 (ak l))-yq (n7 l b))
 |0=>by
  show(0:Int)=_
  omega
 |k+1=>by
  have c:=Ya (b:=b) a k
  have e:Az l b (k+1)=Az l b k+(if Kt l b k=true then 1 else 0):=by
   unfold Az;rw[jN,zL,List.countP_singleton]
   split<;>simp
  rw[e,c];by_cases h:Kt l b k=true;rw[jd h];unfold Kt at h;rw[zG,jv,jv] at h;omega;rw[jc h];unfold Kt at h;rw[zG,jv,jv] at h;omega
theorem Yb (l:LgD) (b:Int) (k:Nat):0<=Az l b k/\Az l b k<=(k:Int):=by
 unfold Az;have:=List.countP_le_length (p:=Kt l b) (l:=List.range k);rw[zt] at this;omega
theorem H6 {w:Int} (h:0<=w):U.up (w*100) 100=w:=by
 unfold U.up;rw[zQ (by omega)];omega
theorem uM {d:DyD} (h:gx d=0) {b:Nat} (g:b<(kH d).length):(((wX (nth (Kx d) b) (kI (kD d)).length).length:Nat):Int)=BT.size (nth (Kx d) b):=by
 have e:Kx d=(QD d).1:=jd h;have a:=jbK h g;rw[<-e] at a;have l:(kI (kD d)).length<=8:=by
  have c:=(Xb h).1;unfold kZ at c;rw[ji] at c;exact(ja c.1).2.2.1
 have k:BT.qH (nth (Kx d) b):=⟨a.1,Int.lt_trans a.2 (by
  have:(2:Int)^(kI (kD d)).length<2^62:=by
   rw[BT.cn,BT.cn];exact Int.ofNat_lt.2 (Nat.pow_lt_pow_right (by decide) (by omega))
  exact this)⟩
 unfold wX BT.size;rw[zc,<-List.countP_eq_length_filter];obtain⟨m,j⟩:∃m,62=(kI (kD d)).length+m:=⟨62-(kI (kD d)).length,by omega⟩;rw[j,List.range_add,zL];have z:List.countP (fun p=>BT.FS (nth (Kx d) b) p) (List.map (fun x=>(kI (kD d)).length+x) (List.range m))=0:=by
  rw[zT];intro p f i;obtain⟨q,n,rfl⟩:=jG.1 f;have:=BT.has_lt a.1 a.2 i;omega
 rw[z,zM];congr 1;refine List.countP_congr fun p f=> ?_
 have:=dM k (p:Int);rw[this];simp
theorem jaJ {l:LgD} (h:gx (kE l)=0) (u:jd6 (ak l)<=jbd (ak l)) {n:Int} (A:0<=n/\n<((kH (kE l)).length:Int)) (z:yq (n7 l n)<dp (n7 l n)) (v:0<=Co (lS l n)):vH (wi l n)=lT l n (qn l n):=by
 obtain⟨c1,c2,e,f,y,g,i⟩:=qX l n _ (jj _);have c1:gq (wi l n)=n7 l n:=c1;have c2:gQ (wi l n)=ak l:=c2;have e:UV (wi l n)=n:=e;have f:UK (wi l n)=nth (yH l) n.toNat:=f;have g:Co (wi l n)=Co (lS l n):=g;have i:NR (wi l n)=NR (lS l n):=i;have a:=Nb (l:=l) (n:=n) _ (jj _);have w:sE (wi l n)=(NJ l n).1:=jP (·.1) a;have s:xb (wi l n)=(NJ l n).2:=jP (·.2) a;have b:(((qc l n (kI (kD (kE l))).length).length:Nat):Int)=BT.size (qn l n):=by
  unfold qc qn;rw[PU,jd h,<-(jd h:Kx (kE l)=_)];exact uM h (by omega)
 have k:y8 (uZ l n (qc l n (kI (kD (kE l))).length))=QG l n:=by
  unfold QG;rw[Ya u];show max 0 (dp (n7 l n)-max (yq (n7 l n)) (jbd (ak l)))+max 0 (min (dp (n7 l n)) (jd6 (ak l))-yq (n7 l n))=_;omega
 have p:Co (lS l n)=FN l n (BT.size (qn l n)):=by
  show nZ (uZ l n (qc l n (kI (kD (kE l))).length))+U.up (nZ (uZ l n (qc l n (kI (kD (kE l))).length))*Ky (ak l)*y8 (uZ l n (qc l n (kI (kD (kE l))).length))) (100*(dp (n7 l n)-yq (n7 l n)))=_;have j:nZ (uZ l n (qc l n (kI (kD (kE l))).length))=io l n (BT.size (qn l n)):=by
   show(((qc l n (kI (kD (kE l))).length).length:Nat):Int)*jd4 (ak l)*max (jd5 (ak l)) (U.up (dp (n7 l n)-yq (n7 l n)) (UI (ak l)))=_;rw[b];rfl
  rw[j,k];rfl
 have o:NR (lS l n)=YY (ak l)*nth (A5 l) n.toNat*BT.size (qn l n):=by
  show(((qc l n (kI (kD (kE l))).length).length:Nat):Int)*YY (ak l)*nth (A5 l) n.toNat=_;rw[b,Int.mul_assoc,Int.mul_comm]
 have m:im (wi l n)=jb0 l n (NJ l n).1:=by
  funext x;unfold im jb0;rw[c1,w]
 have r:qf (wi l n)=mq l n (qn l n):=by
  unfold qf mq UL YM;rw[s,c2,m,g,<-p];by_cases c:(NJ l n).2=true;rw[jd c];by_cases d:0<=yO (jb0 l n (NJ l n).1) (il (ak l));rw[jd ⟨c,d⟩,jd d];rw[jc (fun h=>d h.2),jc d,H6 v];rw[jc (fun h=>c h.1),jc c]
 have q:qB (wi l n)=mr l n (qn l n):=by
  unfold qB mr;rw[s,i,o]
 have t:pJ (wi l n)=jgz l n (qn l n):=by
  unfold pJ jgz;rw[r,q,c1,c2]
 unfold vH lT;rw[r,q,t,e,f]
theorem Am {l:LgD} (h:iu l) {n:Int} (a:0<=n/\n<((kH (kE l)).length:Int)):vH (wi l n)=lT l n (qn l n):=by
 obtain⟨b,e⟩:=Fg h a;have c:=(vC (kE l)).symm.trans h.cp;have d:=h.ta.dw;exact jaJ c (by omega) a b.2.1 (RW h a).wk.1
theorem jaK {x y:LnD} (h:eQ x<eQ y\/(eQ x=eQ y/\eU x<eU y)):¬Ax y x<0:=by
 unfold Ax;rw[wP,vb];unfold db;rcases h with h|⟨b,a⟩;rw[jc (show¬eQ y<eQ x by omega),jd h,jd (by decide)];decide;rw[jc (show¬eQ y<eQ x by omega),jc (show¬eQ x<eQ y by omega),jc (by decide),jc (show¬eU y<eU x by omega),jd a];decide
theorem CP (l:LgD):vg (QF l)=(kB (kE l)).map (fun n=>vH (wi l n)):=by
 rw[Ff];unfold vg;rw[kj];rfl
theorem RY (l:LgD) (n:Int):eU (vH (wi l n))=n:=(qX l n _ (jj _)).2.2.1
theorem jdB {d:DyD} (h:gx d=0) {n:Int}:n∈kB d↔∃b:Nat,b<(kH d).length/\jgN d (Kx d) b=true/\n=(b:Int):=by
 rw[PW];unfold jfS;rw[jd h];unfold Sd;rw[jG];constructor;rintro⟨b,a,rfl⟩;have:=jD.1 a;exact⟨b,by rw[<-x8 h];exact jp.1 this.1,this.2,rfl⟩;rintro⟨b,a,c,rfl⟩;exact⟨b,jD.2 ⟨jp.2 (by rw[x8 h];exact a),c⟩,rfl⟩
theorem JY {l:LgD} (h:iu l) {n:Int} (e:0<=n/\n<((kH (kE l)).length:Int)):n∈kB (kE l)↔Cr l n=true:=by
 have c:=(vC (kE l)).symm.trans h.cp;rw[jdB c];constructor;rintro⟨b,d,a,rfl⟩;exact a;intro a;exact⟨n.toNat,by omega,a,by omega⟩
theorem uN {l:LgD} {k:Nat} {x:LnD}:x∈n8 l k↔∃p:Nat,p<k/\∃b:Nat,b<(yH l).length/\Cr l (b:Int)=true/\nth (yH l) b=(p:Int)/\x=lT l (b:Int) (qn l (b:Int)):=by
 unfold n8;rw[List.mem_flatMap];constructor;rintro⟨p,d,h⟩;obtain⟨b,c,rfl⟩:=jG.1 h;have e:=jD.1 c;have a:=e.2;unfold jgQ at a;rw[ji,jv] at a;exact⟨p,jp.1 d,b,jp.1 e.1,a.1,a.2,rfl⟩;rintro⟨p,d,b,c,g,f,rfl⟩;refine⟨p,jp.2 d,jG.2 ⟨b,jD.2 ⟨jp.2 c,?_⟩,rfl⟩⟩;unfold jgQ;rw[g,jH f];rfl
theorem RZ (l:LgD) (k:Nat):(n8 l k).Pairwise (fun x y=>eQ x<eQ y\/(eQ x=eQ y/\eU x<eU y)):=by
 have d:∀(p:Nat) (x:LnD),x∈YN l (p:Int) (yH l).length->eQ x=(p:Int):=fun p x g=>by
  obtain⟨b,f,rfl⟩:=jG.1 g;have e:=(jD.1 f).2;unfold jgQ at e;rw[ji,jv] at e;exact e.2
 unfold n8;refine List.pairwise_flatMap.2 ⟨fun p _=> ?_,List.Pairwise.imp ?_ zR⟩;have h:(YN l (p:Int) (yH l).length).Pairwise (fun x y=>eU x<eU y):=by
  unfold YN;exact zJ.2 ((List.pairwise_lt_range.filter _).imp fun{a b} c=>by
   show(a:Int)<(b:Int);omega)
 exact List.Pairwise.imp_of_mem (fun{a b} i f c=>Or.inr ⟨by rw[d p a i,d p b f],c⟩) h;intro a b c x g y j;have:=d a x g;have:=d b y j;left;omega
theorem Uj (l:LgD) (k:Nat):(n8 l k).Nodup:=(RZ l k).imp fun{a b} h e=>by subst e;omega
theorem bC {l:LgD} (h:iu l):kO (U.bo l)=wQ l:=by
 have o:=H3 (X9 h);have f:(vg (QF l)).Nodup:=by
  rw[CP];exact zJ.2 ((oF (kE l)).imp fun{a b} g e=>g (by
   have:=jP eU e;rw[RY,RY] at this;exact this))
 have s:=(vC (kE l)).symm.trans h.cp
 haveI:DecidableEq LnD:=fun a b=>Classical.propDecidable (a=b)
 have k:(wQ l).Perm (vg (Kz (U.bo l))):=L.eK (Uj l 21) f fun x=>by
  show x∈n8 l 21↔x∈vg (QF l);rw[uN,CP,jG];constructor;rintro⟨p,k,b,m,r,q,rfl⟩;have c:0<=(b:Int)/\(b:Int)<(kH (kE l)).length:=(by rw[h.py.1] at m;omega);exact⟨(b:Int),(JY h c).2 r,Am h c⟩;rintro⟨n,j,rfl⟩;have c:=JM j;have i:n.toNat<(yH l).length:=(by rw[h.py.1];omega);have q:=h.py.2 _ (L.kJ i);have en:((n.toNat:Nat):Int)=n:=(by omega);refine⟨(nth (yH l) n.toNat).toNat,by omega,n.toNat,i,?_,by omega,?_⟩;rw[en];exact(JY h c).1 j;rw[en];exact Am h c
 refine(tJ (jgn o) k ?_).symm;exact(RZ l 21).imp fun{a b} d=>zz (jaK d)
theorem Uk {l:LgD} {k:Nat} (h:k<(yH l).length):ck l (k+1)=max (ck l k) (nth (yH l) k+1):=by
 unfold ck;rw[L.kT h,jz];rfl
theorem sq {l:LgD}:∀k,k<=(yH l).length->0<=ck l k/\(∀i,i<k->nth (yH l) i+1<=ck l k)/\(ck l k=0\/∃i,i<k/\ck l k=nth (yH l) i+1)
 |0,_=>⟨zo _,fun i hi=>by omega,Or.inl rfl⟩
 |k+1,hk=>by
  obtain⟨c,b,a⟩:=sq (l:=l) k (by omega)
  rw[Uk (by omega)]
  refine⟨by omega,fun i hi=> ?_,?_⟩
  by_cases e:i=k
  subst e;omega
  have:=b i (by omega);omega
  rcases Int.le_total (nth (yH l) k+1) (ck l k) with h|h
  rw[Int.max_eq_left h]
  rcases a with a|⟨i,hi,a⟩
  exact Or.inl a
  exact Or.inr ⟨i,by omega,a⟩
  rw[Int.max_eq_right h]
  exact Or.inr ⟨k,by omega,rfl⟩
theorem Yc {l:LgD} (h:iu l):vE (U.bo l)=NK l:=by
 have m:=bC h;unfold vE NK;rw[m];show(if(yH l).length=0 then[] else yl (gI (yH l)+1).toNat (wQ l) (wQ l).length)=_;by_cases e:(yH l).length=0;rw[jd e];have f:wQ l=[]:=by
  refine zU.2 fun x o=> ?_
  obtain⟨p,_,b,t,_⟩:=uN.1 (show x∈n8 l 21 from o);omega
 have e2:lU l=0:=(by unfold lU;rw[e];rfl);rw[f,e2];rfl;rw[jc e];obtain⟨r,k,a⟩:=sq (l:=l) (yH l).length (jj _);have c:yH l≠[]:=fun e2=>e (by rw[e2];rfl)
 have d:=JW c;have u:=h.py.2 _ d;obtain⟨i,hi,q⟩:=L.mem_iff.1 d;have s:=k i hi;have g:lU l=gI (yH l)+1:=by
  show ck l (yH l).length=_;rcases a with a|⟨j,n,a⟩;omega;have:=Qi (L.kJ n);omega
 rw[g]
theorem gj (a:Int) (tm out:List Int):∀k,(wA a tm out k).length=out.length
 |0=>rfl
 |k+1=>by
  rw[fX];unfold oL
  rw[zA,gj a tm out k]
theorem uO {a:Int} {tm out:List Int} {j:Nat} (b:∀p∈tm,0<=p/\p<(out.length:Int)):∀k,k<=tm.length->(∀i,i<k->(nth tm i).toNat≠j)->nth (wA a tm out k) j=nth out j
 |0,_,_=>rfl
 |k+1,hk,h=>by
  have c:=b _ (L.kJ (show k<tm.length by omega))
  rw[fX];unfold oL
  rw[L.vM (by rw[gj];omega),jc (h k (by omega))]
  exact uO b k (by omega) fun i hi=>h i (by omega)
theorem JZ {a:Int} {tm out:List Int} (c:∀p∈tm,0<=p/\p<(out.length:Int)) (b:∀i j,i<tm.length->j<tm.length->(nth tm i).toNat=(nth tm j).toNat->i=j) {i:Nat}:∀k,k<=tm.length->i<k->
 nth (wA a tm out k) (nth tm i).toNat=nth out (nth tm i).toNat+ym a tm.length i
 |0,_,h=>by omega
 |k+1,hk,h=>by
  have f:=c _ (L.kJ (show k<tm.length by omega))
  rw[fX];unfold oL
  rw[L.vM (by rw[gj];omega)]
  by_cases e:i=k
  subst e
  rw[jd rfl,uO c i (by omega) (fun m d e2=>by have:=b m i (by omega) (by omega) e2;omega)]
  unfold ym
  rw[Int.add_assoc]
  rw[jc (fun e2=>e (b i k (by omega) (by omega) e2.symm))]
  exact JZ c b k (by omega) (by omega)
theorem An (t:Int) (k:Nat):wX t (k+1)=wX t k++(if wH t (k:Int)=true then[(k:Int)] else[]):=by
 unfold wX;rw[jN,kg,j7];congr 1;by_cases h:wH t (k:Int)=true;rw[jd h];simp only[List.filter,h,List.map];rw[jc h];rw[kw] at h;simp only[List.filter,h,List.map]
def rnk (t:Int) (k:Nat):Nat:=(wX t k).length
theorem J0 (t:Int) (k:Nat):rnk t (k+1)=rnk t k+(if wH t (k:Int)=true then 1 else 0):=by
 unfold rnk;rw[An,jK]
 split<;>rfl
theorem jdC {α:Type} [Inhabited α] {a b:List α} {i:Nat} (h:i<a.length):nth (a++b) i=nth a i:=by
 rw[L.wz h,L.wz (by rw[jK];omega),List.getElem_append_left h]
theorem jaL {α:Type} [Inhabited α] {a:List α} {x:α}:nth (a++[x]) a.length=x:=by
 rw[L.wz (by rw[jK];show _<_+1;omega),List.getElem_append_right (jj _)];simp
theorem R0 {t:Int} {p:Nat} (a:wH t (p:Int)=true):∀n,p<n->rnk t p<rnk t n/\nth (wX t n) (rnk t p)=(p:Int)
 |0,h=>by omega
 |n+1,h=>by
  have b:=J0 t n
  rw[An]
  by_cases e:p=n
  subst e
  rw[jd a] at b⊢
  exact⟨by omega,jaL⟩
  obtain⟨c,d⟩:=R0 a n (by omega)
  refine⟨by rw[b];omega,?_⟩
  rw[jdC c,d]
theorem jdD {t:Int} {n i j:Nat} (hi:i<(wX t n).length) (f:j<(wX t n).length) (h:(nth (wX t n) i).toNat=(nth (wX t n) j).toNat):i=j:=by
 have c:(wX t n).Pairwise (fun a b=>a.toNat<b.toNat):=by
  unfold wX;exact zJ.2 ((List.pairwise_lt_range.filter _).imp fun{a b} e=>e)
 rw[zq] at c;rw[L.wz hi,L.wz f] at h;rcases kl i j with d|d|d;have:=c i j hi f d;omega;exact d;have:=c j i f hi d;omega
theorem jdE {t:Int} {n i:Nat} (hi:i<(wX t n).length):wH t (nth (wX t n) i)=true:=by
 have a:=L.kJ hi;unfold wX at a;obtain⟨p,b,e⟩:=jG.1 a;have:=(jD.1 b).2;unfold wX;rw[<-e];exact this
theorem Qj (w t:List Int) (a:Int) (n k:Nat):eI w t a n (k+1)=YO w t a (eI w t a n k) k:=by
 unfold eI;rw[jN,jz];rfl
theorem Ao (w t:List Int) (a:Int) (n:Nat):∀k,k<=n->(eI w t a n k).1.length=n/\(eI w t a n k).2=(rnk a k:Int)/\
 ∀j,j<n->nth (eI w t a n k).1 j=if j<k/\wH a (j:Int)=true then nth w (rnk a j)+nth t (rnk a j) else 0
 |0,_=>⟨jW,rfl,fun j c=>by
  rw[jc (fun h=>by omega)]
  exact L.aV c⟩
 |k+1,hk=>by
  obtain⟨f,g,i⟩:=Ao w t a n k (by omega)
  have d:=J0 a k
  rw[Qj];unfold YO
  by_cases e:wH a (k:Int)=true
  rw[jd e]
  rw[jd e] at d
  have l:(eI w t a n k).2.toNat=rnk a k:=by rw[g];rfl
  refine⟨by rw[zA,f],by rw[g,d];rfl,fun j c=> ?_⟩
  show nth ((eI w t a n k).1.set k (nth w (eI w t a n k).2.toNat+nth t (eI w t a n k).2.toNat)) j=_
  rw[L.vM (by rw[f];omega),l]
  by_cases e2:k=j
  subst e2
  rw[jd rfl,jd ⟨by omega,e⟩]
  rw[jc e2,i j c]
  by_cases b:j<k/\wH a (j:Int)=true
  rw[jd b,jd ⟨by omega,b.2⟩]
  rw[jc b,jc (fun h=>b ⟨by omega,h.2⟩)]
  rw[jc e]
  rw[jc e] at d
  refine⟨f,by rw[g,d];rfl,fun j c=> ?_⟩
  rw[i j c]
  by_cases b:j<k/\wH a (j:Int)=true
  rw[jd b,jd ⟨by omega,b.2⟩]
  rw[jc b,jc (fun h=>b ⟨by
   by_cases e2:j=k
   subst e2;exact absurd h.2 e
   omega,h.2⟩)]
theorem Ap {a m:Int} {k i:Nat} (h:i<k):nth (gu a m k) i=ym a m i:=by
 unfold gu;rw[L.CU (by rw[zt];exact h)];congr 1;rw[L.wz (by rw[zt];exact h),List.getElem_range]
theorem jdF {b:BlD} {c W T:Int} {n:Nat} (q:qz b=wX c n) (z:qf b=W) (y:qB b=T):
 UM n (some b)=(eI (eH W (wX c n).length) (eH T (wX c n).length) c n n).1:=by
 obtain⟨w,C,x⟩:=Ao (eH W (wX c n).length) (eH T (wX c n).length) c n n (jj _);have u:=(uA c n).2;have f:=fun i j=> @jdD c n i j
 show wA (qB b) (qz b) (wA (qf b) (qz b) (List.replicate n 0) (qz b).length) (qz b).length=_;rw[q,z,y];have g:∀p∈wX c n,0<=p/\p<((List.replicate n (0:Int)).length:Int):=fun p k=>by rw[jW];exact u p k
 have m:∀p∈wX c n,0<=p/\p<((wA W (wX c n) (List.replicate n (0:Int)) (wX c n).length).length:Int):=fun p k=>by rw[gj];exact g p k
 refine L.ext_nth (by rw[gj,gj,jW,w]) fun j d=> ?_
 rw[gj,gj,jW] at d;rw[x j d];by_cases e:wH c (j:Int)=true;rw[jd ⟨d,e⟩];obtain⟨o,B⟩:=R0 e n d;have o:rnk c j<(wX c n).length:=o;have A:(nth (wX c n) (rnk c j)).toNat=j:=(by rw[B];rfl);have r:=JZ (a:=W) g (fun i j hi d h=>f i j hi d h) (i:=rnk c j) _ (jj _) o;have s:=JZ (a:=T) m (fun i j hi d h=>f i j hi d h) (i:=rnk c j) _ (jj _) o;rw[A] at r s;rw[s,r,L.aV d,Int.zero_add];have k:∀a:Int,nth (eH a ((wX c n).length:Int)) (rnk c j)=ym a ((wX c n).length:Int) (rnk c j):=fun a=>Ap (by show _<((((wX c n).length:Nat):Int)).toNat;omega)
 rw[k,k];rw[jc (fun h=>e h.2)];have l:∀i,i<(wX c n).length->(nth (wX c n) i).toNat≠j:=fun i hi e2=>e (by
  have t:=jdE hi;have D:=u _ (L.kJ hi);have v:nth (wX c n) i=(j:Int):=(by omega);rw[v] at t;exact t)
 rw[uO m _ (jj _) l,uO g _ (jj _) l,L.aV d]
theorem jff (l:LgD) (n:Int):jgP (U.bo l) n=if n∈kB (kE l) then some (wi l n) else none:=by
 show w4 none (wv .int n (QF l))=_;have a:((QF l).map (·.1)).Nodup:=by
  rw[Ff,kj];have e:((fun(x:Int×Option BlD)=>x.1)∘fun n=>(n,some (wi l n)))=id:=rfl;rw[e,List.map_id];exact oF _
 by_cases h:n∈kB (kE l);rw[jd h];have:(n,some (wi l n))∈QF l:=by
  rw[Ff];exact jG.2 ⟨n,h,rfl⟩
 rw[(M.oM (kt:= .int) a).2 this];rfl;rw[jc h];have b:n∉(QF l).map (·.1):=by
  rw[Ff,kj];have e:((fun(x:Int×Option BlD)=>x.1)∘fun n=>(n,some (wi l n)))=id:=rfl;rw[e,List.map_id];exact h
 rw[M.mfind_none (kt:= .int) b];rfl
theorem Yd {l:LgD} (h:iu l) {n:Int} (b:0<=n/\n<((kH (kE l)).length:Int)):vW (U.bo l) n=vu l n:=by
 have i:=(vC (kE l)).symm.trans h.cp;show UM (wY l) (jgP (U.bo l) n)=_;rw[jff];unfold vu;by_cases a:n∈kB (kE l);rw[jd a,jd ((JY h b).1 a)];have d:=Am h b;have e:qf (wi l n)=mq l n (qn l n):=jP Ia d;have e2:qB (wi l n)=mr l n (qn l n):=jP Ib d;have f:qz (wi l n)=wX (qn l n) (wY l):=by
  have:=(qX l n _ (jj _)).2.2.2.2.1;show qz (kR l n _)=_;rw[this];show wX (nth (bR (kE l)) n.toNat) (wY l)=_;rw[show bR (kE l)=Kx (kE l) from PU _];rfl
 have c:(((wX (qn l n) (wY l)).length:Nat):Int)=BT.size (qn l n):=uM i (by omega);rw[jdF f e e2,c];rw[jc a,jc (fun g=>a ((JY h b).2 g))];rfl
end Go.X

namespace Go.X
open U
namespace U
def vX (a b:List Int) (k:Nat):List Int:=(List.range k).foldl (fun x p=>x.set p (nth x p+nth b p)) a
def qe (f:Nat->List Int) (n k:Nat):List Int:=(List.range k).foldl (fun a b=>vX a (f b) n) (List.replicate n 0)
def eJ (l:List Int):List Int:=l.map (fun x=> -x)
def cY (l:List LnD) (k:Nat):Int:=(l.take k).foldl (fun s x=>s-QE x) 0
def gw (l:LgD) (b:Nat):List Int:=vW (bo l) (b:Int)
def qA (l:LgD):List Int:=if wo l=0 then qe (gw l) (wY l) (kH (kE l)).length else[]
def vY (l:LgD):List Int:=if wo l=0 then eJ (vE (bo l)) else[]
def bH (l:LgD):Int:=if wo l=0 then cY (kO (bo l)) (kO (bo l)).length else 0
end U
theorem lw (a b:List Int) (k:Nat):vX a b (k+1)=(vX a b k).set k (nth (vX a b k) k+nth b k):=by
 unfold vX;rw[jN,jz];rfl
theorem fZ (a b:List Int):∀k,(vX a b k).length=a.length
 |0=>rfl
 |k+1=>by rw[lw,zA,fZ a b k]
theorem Aq {a b:List Int}:∀k,k<=a.length->∀j,nth (vX a b k) j=if j<k then nth a j+nth b j else nth a j
 |0,_,j=>by rw[jc (by omega)];rfl
 |k+1,hk,j=>by
  have c:=Aq (a:=a) (b:=b) k (by omega)
  rw[lw,L.vM (by rw[fZ];omega)]
  by_cases e:k=j
  subst e
  rw[jd rfl,c k,jc (by omega),jd (by omega)]
  rw[jc e,c j]
  by_cases e2:j<k
  rw[jd e2,jd (by omega)]
  rw[jc e2,jc (by omega)]
theorem lx (f:Nat->List Int) (n k:Nat):qe f n (k+1)=vX (qe f n k) (f k) n:=by
 unfold qe;rw[jN,jz];rfl
theorem aL (f:Nat->List Int) (n:Nat):∀k,(qe f n k).length=n
 |0=>jW
 |k+1=>by rw[lx,fZ,aL f n k]
theorem Ye {f:Nat->List Int} {n:Nat} {A B:Int}:∀k,(∀b,b<k->∀j,j<n->A<=nth (f b) j/\nth (f b) j<=B)->∀j,j<n->A*(k:Int)<=nth (qe f n k) j/\nth (qe f n k) j<=B*(k:Int)
 |0,_,j,a=>by
  have:nth (qe f n 0) j=0:=L.aV a
  rw[this];simp
 |k+1,h,j,a=>by
  have g:=Ye (f:=f) (n:=n) (A:=A) (B:=B) k (fun b e=>h b (by omega)) j a
  have d:=h k (by omega) j a
  rw[lx,Aq n (by rw[aL];exact jj _),jd a]
  have c:A*((k+1:Nat):Int)=A*(k:Int)+A:=by rw[Int.natCast_add,Int.mul_add];simp
  have e2:B*((k+1:Nat):Int)=B*(k:Int)+B:=by rw[Int.natCast_add,Int.mul_add];simp
  rw[c,e2];omega
theorem Ar {l:List LnD} {k:Nat} (h:k<l.length):cY l (k+1)=cY l k-QE (nth l k):=by
 unfold cY;rw[L.kT h,jz];rfl
theorem jaM (n:Nat) (b:Option BlD):(UM n b).length=n:=by
 cases b with
 |none=>exact jW
 |some b=>
  show(wA (qB b) (qz b) (wA (qf b) (qz b) (List.replicate n 0) (qz b).length) (qz b).length).length=n;rw[gj,gj,jW]
theorem J1 (o:BoD) (n:Int):(vW o n).length=(kI (kD (kE (cW o)))).length:=jaM _ _
theorem jbQ {o:BoD} (h:NH o) {n:Int}:∀j,j<(kI (kD (kE (cW o)))).length->-1000000000000000000<=nth (vW o n) j/\nth (vW o n) j<=1700000000000000000:=by
 obtain⟨k,g,f⟩:=h;intro j u;have g:(kI (kD (kE (cW o)))).length<=100:=g;unfold vW;cases e:jgP o n with
 |none=>
  show _<=nth (List.replicate _ 0) j/\nth (List.replicate _ 0) j<=_;rw[L.aV u];omega
 |some b=>
  have c:(n,some b)∈Kz o:=by
   refine(M.oM (kt:= .int) k.2.2.1).1 ?_;have e:w4 none (wv .int n (Kz o))=some b:=e;cases s:wv (β:=Option BlD) Ty.int n (Kz o) with
   |none=>rw[s] at e;cases e
   |some v=>rw[s] at e;exact jP some e
  obtain⟨A,l,F⟩:=k.1 _ c;have l:some b=some A:=l;simp only[jy] at l;subst l;have w:RR b:=ux.1 F;have D:=f _ c b rfl;have E:=w.bl.tm;have C:=uy w;have B:=uz w;have d:∀p∈qz b,0<=p/\p<((List.replicate (kI (kD (kE (cW o)))).length (0:Int)).length:Int):=fun p r=>by rw[jW];exact D p r
  obtain⟨m,y⟩:=nU (a:=qf b) (M:=0) (tm:=qz b) ⟨C.1,by omega⟩ d (fun x t=>by rw[List.eq_of_mem_replicate t];omega) (qz b).length (jj _);have q:∀p∈qz b,0<=p/\p<((wA (qf b) (qz b) (List.replicate (kI (kD (kE (cW o)))).length (0:Int)) (qz b).length).length:Int):=fun p r=>by rw[m];exact d p r
  obtain⟨G,z⟩:=nU (a:=qB b) (M:=800000000000000008) (tm:=qz b) ⟨B.1,by omega⟩ q (fun x t=>by
   obtain⟨i,hi,rfl⟩:=L.mem_iff.1 t;have:=y i (by rw[m] at hi;exact hi);omega) (qz b).length (jj _)
  have:=z j (by rw[m,jW];exact u);have key:∀v:Int,-1000000000000000000<=v/\v<=800000000000000008+((qz b).length:Int)*100000000000000001->-1000000000000000000<=v/\v<=1700000000000000000:=fun v s=>by omega
  exact key _ this
theorem jdG {o:BoD} (h:NG o):(vE o).length<=21/\∀x∈vE o,-100000000<=x/\x<=2000000000000000000:=by
 obtain⟨c,m,d,s⟩:=h;unfold vE;by_cases h:(yH (cW o)).length=0;rw[jd h];exact⟨jt _,fun x a=>by cases a⟩;rw[jc h];have f:yH (cW o)≠[]:=fun e=>h (by rw[e];rfl)
 have v:=d _ (JW f);have a:∀x∈kO o,(0<=eQ x/\eQ x<(((gI (yH (cW o))+1).toNat:Nat):Int))/\-1000000<=NQ x/\NQ x<=20000000000000000:=fun x a=>by
  obtain⟨k,b,p,q,rfl⟩:=H4 c a;have i:=s _ p b rfl;have t:=Qi i;have r:=d _ i;refine⟨⟨r.1,?_⟩,X8 q⟩;show UK b<_;omega
 have F:=Fv a;have u:=H5 c;obtain⟨g,n⟩:=F (kO o).length (jj _);refine⟨by rw[g];omega,fun x a=> ?_⟩;obtain⟨j,l,rfl⟩:=L.mem_iff.1 a;have:=n j (by rw[g] at l;exact l);omega
theorem Yf {l:List LnD} (h:∀x∈l,0<=QE x/\QE x<=1000000):∀k,k<=l.length->-1000000*(k:Int)<=cY l k/\cY l k<=0
 |0,_=>by show _<=(0:Int)/\(0:Int)<=0;omega
 |k+1,hk=>by
  have b:=Yf h k (by omega)
  have a:=h _ (L.kJ (show k<l.length by omega))
  rw[Ar (by omega)];omega
theorem jfg {t:Int} {q p:Nat} (a:wH t (q:Int)=true) (h:q<p):rnk t q<rnk t p:=(R0 a p h).1
theorem Nc {a m:Int} {i j:Nat} (h:i<j):ym a m j<=ym a m i/\ym a m i<=ym a m j+1:=by
 unfold ym
 split<;>split<;>omega
theorem aM {l:LgD} (h:iu l) {b:Int} (n:0<=b/\b<((kH (kE l)).length:Int)):(vu l b).length=wY l/\
 ∀p,p<wY l->nth (vu l b) p=if Cr l b=true/\wH (qn l b) (p:Int)=true then ym (mq l b (qn l b)) (BT.size (qn l b)) (rnk (qn l b) p)+ym (mr l b (qn l b)) (BT.size (qn l b)) (rnk (qn l b) p) else 0:=by
 have i:=(vC (kE l)).symm.trans h.cp;have j:(((wX (qn l b) (wY l)).length:Nat):Int)=BT.size (qn l b):=uM i (by omega);unfold vu;by_cases c:Cr l b=true;rw[jd c];obtain⟨f,k,g⟩:=Ao (eH (mq l b (qn l b)) (BT.size (qn l b))) (eH (mr l b (qn l b)) (BT.size (qn l b))) (qn l b) (wY l) (wY l) (jj _);refine⟨f,fun p a=> ?_⟩;rw[g p a];by_cases e:wH (qn l b) (p:Int)=true;rw[jd ⟨a,e⟩,jd ⟨c,e⟩];have d:rnk (qn l b) p<(BT.size (qn l b)).toNat:=by
  have m:rnk (qn l b) p<(wX (qn l b) (wY l)).length:=(R0 e (wY l) a).1;omega
 unfold eH;rw[Ap d,Ap d];rw[jc (fun h=>e h.2),jc (fun h=>e h.2)];rw[jc c];refine⟨jW,fun p a=> ?_⟩;rw[L.aV a,jc (fun h=>c h.1)]
theorem R1 {l:LgD} (h:iu l) {b:Int} (j:0<=b/\b<((kH (kE l)).length:Int)) {p q:Nat} (k:p<wY l) (c:q<p) (g:Cr l b=true) (i:wH (qn l b) (p:Int)=true) (d:wH (qn l b) (q:Int)=true):
 nth (vu l b) p<=nth (vu l b) q/\nth (vu l b) q<=nth (vu l b) p+2:=by
 obtain⟨_,e⟩:=aM h j;rw[e p k,e q (by omega),jd ⟨g,i⟩,jd ⟨g,d⟩];have f:=jfg d c;have n:=Nc (a:=mq l b (qn l b)) (m:=BT.size (qn l b)) f;have o:=Nc (a:=mr l b (qn l b)) (m:=BT.size (qn l b)) f;omega
theorem Yg {l:LgD} (h:iu l) {b:Int} (c:0<=b/\b<((kH (kE l)).length:Int)) {p:Nat} (d:p<wY l) (e:¬(Cr l b=true/\wH (qn l b) (p:Int)=true)):nth (vu l b) p=0:=by
 obtain⟨_,a⟩:=aM h c;rw[a p d,jc e]
theorem Yh {l:LgD} {b:Bool} (h:qI l b=0):iu l/\b=true:=by
 unfold qI at h
 split at h
 rename_i a;exact absurd h a;rename_i a
 split at h
 rename_i c;exact⟨gZ (jZ.1 a),c⟩;cases h
theorem R2 {l:LgD} {n:Int}:n4 l n=true↔0<=n/\n<((kH (kE l)).length:Int):=by
 unfold n4;rw[qZ];omega
theorem jfh {l:LgD} (h:iu l):(kH (kE l)).length<=4:=by
 have a:=h.dy;unfold wZ at a;rw[ji] at a;exact(ja a.1).1
structure jgZ (l:LgD) (x:LnD):Prop where
 bk:0<=eU x/\eU x<((kH (kE l)).length:Int)
 py:eQ x=nth (yH l) (eU x).toNat
 pr:0<=eQ x/\eQ x<=20/\eQ x<lU l
 wk:0<=Ia x/\Ia x<=10000000000000000
 tr:0<=Ib x/\Ib x<=1000000000
 sb:0<=QE x/\QE x<=UJ (ak l)
 tt:NQ x=Ia x+Ib x-QE x/\0<=NQ x
 kd:0<=mw (yY (nth (kH (kE l)) (eU x).toNat))/\mw (yY (nth (kH (kE l)) (eU x).toNat))<((ci (ak l)).length:Int)
 pc:0<=nth (ci (ak l)) (mw (yY (nth (kH (kE l)) (eU x).toNat))).toNat/\nth (ci (ak l)) (mw (yY (nth (kH (kE l)) (eU x).toNat))).toNat<=100
 pp:100*QE x<=(Ia x+Ib x)*nth (ci (ak l)) (mw (yY (nth (kH (kE l)) (eU x).toNat))).toNat
theorem jaN {l:LgD} {i:Nat} (hi:i<(yH l).length):nth (yH l) i<lU l:=by
 have:=(sq (l:=l) (yH l).length (jj _)).2.1 i hi;show _<ck l (yH l).length;omega
theorem jaO {l:LgD} (h:iu l) {x:LnD} (t:x∈wQ l):jgZ l x:=by
 obtain⟨p,v,b,i,z,y,rfl⟩:=uN.1 (show x∈n8 l 21 from t);have c:0<=(b:Int)/\(b:Int)<(kH (kE l)).length:=(by rw[h.py.1] at i;omega);rw[<-Am h c];have w:=Fh h c;obtain⟨c1,c2,e,f,_⟩:=qX l (b:Int) _ (jj _);have c1:gq (wi l (b:Int))=nth (kH (kE l)) b:=c1;have c2:gQ (wi l (b:Int))=ak l:=c2;have e:UV (wi l (b:Int))=(b:Int):=e;have f:UK (wi l (b:Int))=nth (yH l) b:=f;have r:=uy w;have q:=uz w;have o:=w.bl.ta.cp;have d:=XT w.bl;have hk:=w.bl.kd;have j:=w.bl.ta.sl;rw[c1,c2] at d;rw[c1] at hk;rw[c2] at o j;have m:0<=(qf (wi l (b:Int))+qB (wi l (b:Int)))*nth (ci (ak l)) (mw (yY (nth (kH (kE l)) b))).toNat:=ku (by omega) d.1;have n:(qf (wi l (b:Int))+qB (wi l (b:Int)))*nth (ci (ak l)) (mw (yY (nth (kH (kE l)) b))).toNat<=(qf (wi l (b:Int))+qB (wi l (b:Int)))*100:=Int.mul_le_mul_of_nonneg_left d.2 (by omega);have g:pJ (wi l (b:Int))=min (UJ (ak l)) (((qf (wi l (b:Int))+qB (wi l (b:Int)))*nth (ci (ak l)) (mw (yY (nth (kH (kE l)) b))).toNat)/100):=by
  unfold pJ;rw[c1,c2,zQ m]
 have u:=jaN i;have s:=h.py.2 _ (L.kJ i);have k:eU (vH (wi l (b:Int)))=(b:Int):=e;have ep:eQ (vH (wi l (b:Int)))=nth (yH l) b:=f;have a:(eU (vH (wi l (b:Int)))).toNat=b:=(by rw[k];rfl);refine⟨by rw[k];exact c,by rw[ep,a],by rw[ep];omega,r,q,?_,⟨rfl,?_⟩,by rw[a];omega,by rw[a];exact d,?_⟩;show 0<=pJ _/\pJ _<=_;rw[g];omega;show 0<=qf _+qB _-pJ _;rw[g];omega;rw[a];show 100*pJ _<=(qf _+qB _)*_;rw[g];omega
theorem R3 {l:LgD} (h:iu l):(wQ l).length<=(kH (kE l)).length:=by
 rw[<-bC h];have e:(kO (U.bo l)).length=(vg (QF l)).length:=(wJ _).length_eq;rw[e,CP,zc];unfold kB
 split
 unfold gO;rw[zc];exact jF (zH _ _) (by rw[zt];exact jj _);exact jt _
namespace U
def qd (l:List Int) (k:Nat):Int:=(l.take k).foldl (fun s x=>s+x) 0
def wq (l:List Int):Int:=qd l l.length
def pK (l:List LnD) (b:Int) (k:Nat):Int:=(l.take k).foldl (fun s x=>if eU x=b then s+(Ia x+Ib x) else s) 0
end U
theorem Nd (l:List Int):∀a:Int,l.foldl (fun s x=>s+x) a=a+l.foldl (fun s x=>s+x) 0:=by
 induction l with
 |nil=>intro a;simp
 |cons x r b=>
  intro a;show r.foldl (fun s x=>s+x) (a+x)=a+r.foldl (fun s x=>s+x) (0+x);rw[b (a+x),b (0+x)];omega
theorem oH (l:List Int):wq l=l.foldl (fun s x=>s+x) 0:=by
 unfold wq qd;rw[zm]
theorem qb (x:Int) (l:List Int):wq (x::l)=x+wq l:=by
 rw[oH,oH];show l.foldl (fun s x=>s+x) (0+x)=_;rw[Nd];omega
theorem dP (a b:List Int):wq (a++b)=wq a+wq b:=by
 rw[oH,oH,oH,jz,Nd]
theorem ly (x:Int):wq [x]=x:=by
 show(0:Int)+x=x;omega
theorem oI {l:List Int} {k:Nat} (h:k<l.length):qd l (k+1)=qd l k+nth l k:=by
 unfold qd;rw[L.kT h,jz];rfl
theorem Yi {a b:List Int} (h:a.Perm b):wq a=wq b:=by
 induction h with
 |nil=>rfl
 |cons x _ e=>rw[qb,qb,e]
 |swap x y l=>rw[qb,qb,qb,qb];omega
 |trans _ _ c d=>rw[c,d]
theorem R4 {l:List Int} {i:Nat} {v:Int} (h:i<l.length):wq (l.set i v)=wq l+v-nth l i:=by
 induction l generalizing i with
 |nil=>cases h
 |cons x r b=>
  cases i with
  |zero=>rw[List.set_cons_zero,qb,qb];show v+_=x+_+v-x;omega
  |succ i=>
   have a:i<r.length:=(by simpa using h);rw[List.set_cons_succ,qb,qb,b a];show x+(wq r+v-nth r i)=x+wq r+v-nth r i;omega
theorem J2 (n:Nat):wq (List.replicate n 0)=0:=by
 induction n with
 |zero=>rfl
 |succ n a=>rw[List.replicate_succ,qb,a];rfl
theorem As (f:Nat->Int) (n:Nat):wq ((List.range (n+1)).map f)=wq ((List.range n).map f)+f n:=by
 rw[jN,j7,dP];show _+wq [f n]=_;rw[ly]
theorem Nf {a m:Int} (b:0<=a) (c:0<m):∀k:Nat,(k:Int)<=m->wq (gu a m k)=(k:Int)*(a/m)+min (k:Int) (a%m)
 |0,_=>by
  show(0:Int)=_
  have:=Int.emod_nonneg a (show m≠0 by omega)
  simp;omega
 |k+1,hk=>by
  have e:=Nf b c k (by omega)
  have f:=Int.emod_lt_of_pos a c
  have g:=Int.emod_nonneg a (show m≠0 by omega)
  have d:gu a m (k+1)=gu a m k++[ym a m k]:=by
   unfold gu;rw[jN,j7];rfl
  have e2:((k+1:Nat):Int)*(a/m)=(k:Int)*(a/m)+a/m:=(by rw[Int.natCast_add,Int.add_mul];simp);rw[d,dP,e,ly,e2];unfold ym;rw[zQ b,Int.tmod_eq_emod_of_nonneg b];generalize (k:Int)*(a/m)=z
  split<;>omega
theorem Ng {a m:Int} (d:0<=a) (b:0<m):wq (eH a m)=a:=by
 unfold eH;rw[Nf d b m.toNat (by omega)];have f:=Int.emod_lt_of_pos a b;have c:=Int.emod_def a m;have e:((m.toNat:Nat):Int)=m:=(by omega);rw[e,Int.min_eq_right (by omega),c];omega
theorem Nh {l:List Int} {n:Nat} {f:Nat->Int} (a:l.length=n) (h:∀p,p<n->nth l p=f p):l=(List.range n).map f:=by
 refine L.ext_nth (by rw[a,zc,zt]) fun i hi=> ?_
 rw[a] at hi;rw[h i hi,L.CU (by rw[zt];exact hi),L.wz (by rw[zt];exact hi),List.getElem_range]
theorem R5 (w t m:Int) (b:Int):∀n:Nat,wq ((List.range n).map (fun(p:Nat)=>if wH b (p:Int)=true then ym w m (rnk b p)+ym t m (rnk b p) else 0))=wq (gu w m (rnk b n))+wq (gu t m (rnk b n))
 |0=>rfl
 |n+1=>by
  have c:∀a:Int,gu a m (rnk b n+1)=gu a m (rnk b n)++[ym a m (rnk b n)]:=fun a=>by
   unfold gu;rw[jN,j7];rfl
  rw[As,R5 w t m b n,J0]
  by_cases h:wH b (n:Int)=true
  rw[jd h,jd h,c,c,dP,dP,ly,ly];omega
  rw[jc h,jc h,zM];omega
theorem J4 {l:LgD} (h:iu l) {b:Int} (f:0<=b/\b<((kH (kE l)).length:Int)):wq (vu l b)=if Cr l b=true then mq l b (qn l b)+mr l b (qn l b) else 0:=by
 have g:=(vC (kE l)).symm.trans h.cp;obtain⟨k,m⟩:=aM h f;by_cases c:Cr l b=true;rw[jd c];have y:(((wX (qn l b) (wY l)).length:Nat):Int)=BT.size (qn l b):=uM g (by omega);have a:0<BT.size (qn l b):=by
  have n:b8 (kD (kE l)) (yY (n7 l b)) (qn l b)=true:=c;unfold b8 at n;rw[ji,jv] at n;have j:jfR (qn l b):=(by unfold qn;rw[MH g];exact jdh g (by omega));have j:0<=qn l b/\qn l b<256:=j;exact(BT.size_pos ⟨j.1,by omega⟩).1 (by omega)
 have r:=Am h f;have w:=Fh h f;have u:qf (wi l b)=mq l b (qn l b):=jP Ia r;have e2:qB (wi l b)=mr l b (qn l b):=jP Ib r;have q:=uy w;have o:=uz w;rw[u] at q;rw[e2] at o;rw[Nh k (fun p i=>m p i)];have d:(fun p:Nat=>if Cr l b=true/\wH (qn l b) (p:Int)=true then ym (mq l b (qn l b)) (BT.size (qn l b)) (rnk (qn l b) p)+ym (mr l b (qn l b)) (BT.size (qn l b)) (rnk (qn l b) p) else 0)=
  (fun p:Nat=>if wH (qn l b) (p:Int)=true then ym (mq l b (qn l b)) (BT.size (qn l b)) (rnk (qn l b) p)+ym (mr l b (qn l b)) (BT.size (qn l b)) (rnk (qn l b) p) else 0):=by
  funext p;by_cases e:wH (qn l b) (p:Int)=true;rw[jd ⟨c,e⟩,jd e];rw[jc (fun h=>e h.2),jc e]
 rw[d,R5];have x:rnk (qn l b) (wY l)=(BT.size (qn l b)).toNat:=by
  show(wX (qn l b) (wY l)).length=_;omega
 rw[x];have s:=Ng q.1 a;have t:=Ng o.1 a;unfold eH at s t;rw[s,t];rw[jc c];rw[Nh k (fun p i=>m p i)];have d:(fun p:Nat=>if Cr l b=true/\wH (qn l b) (p:Int)=true then ym (mq l b (qn l b)) (BT.size (qn l b)) (rnk (qn l b) p)+ym (mr l b (qn l b)) (BT.size (qn l b)) (rnk (qn l b) p) else 0)=fun _=>0:=by
  funext p;rw[jc (fun h=>c h.1)]
 rw[d];have v:((List.range (wY l)).map (fun _=>(0:Int)))=List.replicate (wY l) 0:=by
  rw[List.map_const'];rw[zt]
 rw[v,J2]
theorem Yj {a b:List Int}:∀k,k<=a.length->k<=b.length->wq (vX a b k)=wq a+qd b k
 |0,_,_=>by show wq a=wq a+0;omega
 |k+1,d,e=>by
  have c:=Yj (a:=a) (b:=b) k (by omega) (by omega)
  rw[lw,R4 (by rw[fZ];omega),c,oI (by omega)];omega
theorem Qk {f:Nat->List Int} {n:Nat}:∀k,(∀b,b<k->(f b).length=n)->wq (qe f n k)=wq ((List.range k).map (fun b=>wq (f b)))
 |0,_=>J2 n
 |k+1,h=>by
  have a:=h k (by omega)
  have e:qd (f k) n=wq (f k):=by unfold wq;rw[a]
  rw[lx,Yj n (by rw[aL];exact jj _) (by omega),Qk k (fun b c=>h b (by omega)),e,As]
theorem J5 {n:Nat} {l:List LnD} (h:∀x∈l,0<=eQ x/\eQ x<(n:Int)):∀k,k<=l.length->(yl n l k).length=n/\wq (yl n l k)=wq ((l.take k).map NQ)
 |0,_=>⟨jW,J2 n⟩
 |k+1,hk=>by
  obtain⟨a,b⟩:=J5 h k (by omega)
  have c:=h _ (L.kJ (show k<l.length by omega))
  rw[oG (by omega)]
  unfold Ks
  refine⟨by rw[zA,a],?_⟩
  rw[R4 (by rw[a];omega),b,L.kT (show k<l.length by omega),j7,dP]
  show _=_+wq [NQ (nth l k)]
  rw[ly];omega
theorem Yk {l:List LnD}:∀k,k<=l.length->cY l k= -wq ((l.take k).map QE)
 |0,_=>rfl
 |k+1,hk=>by
  rw[Ar (by omega),Yk k (by omega),L.kT (show k<l.length by omega),j7,dP]
  show _= -(_+wq [QE (nth l k)])
  rw[ly];omega
theorem Ql (l:List Int):wq (eJ l)= -wq l:=by
 induction l with
 |nil=>rfl
 |cons x r a=>
  show wq (-x::eJ r)=_;rw[qb,qb,a];omega
theorem jdH (f g:LnD->Int) (l:List LnD):wq (l.map (fun x=>f x+g x))=wq (l.map f)+wq (l.map g):=by
 induction l with
 |nil=>rfl
 |cons x r a=>
  rw[zg,zg,zg,qb,qb,qb,a];omega
theorem Ul {α:Type} (p:α->Bool) (g:α->Int) (l:List α):wq ((l.filter p).map g)=wq (l.map (fun b=>if p b=true then g b else 0)):=by
 induction l with
 |nil=>rfl
 |cons x r a=>
  rw[zg,qb,<-a];by_cases h:p x=true;rw[List.filter_cons_of_pos h,zg,qb,jd h];rw[List.filter_cons_of_neg h,jc h];omega
theorem uP {l:LgD} (h:iu l):(wQ l).Perm (((List.range (kH (kE l)).length).filter (fun(b:Nat)=>Cr l (b:Int))).map (fun(b:Nat)=>lT l (b:Int) (qn l (b:Int)))):=by
 have c:=(vC (kE l)).symm.trans h.cp;have a:(wQ l).Perm (vg (QF l)):=by
  rw[<-bC h];exact wJ _
 rw[CP] at a;have d:kB (kE l)=((List.range (kH (kE l)).length).filter (fun(b:Nat)=>Cr l (b:Int))).map (fun(b:Nat)=>(b:Int)):=by
  rw[PW];unfold jfS;rw[jd c];unfold Sd;rw[x8 c];rfl
 rw[d,kj] at a;refine a.trans (List.Perm.of_eq ?_);refine List.map_congr_left fun b e=> ?_
 have:=jp.1 (jD.1 e).1;exact Am h (n:=(b:Int)) (by omega)
theorem jbR {l:LgD} (h:iu l) (g:LnD->Int):wq ((wQ l).map g)=wq ((List.range (kH (kE l)).length).map (fun(b:Nat)=>if Cr l (b:Int)=true then g (lT l (b:Int) (qn l (b:Int))) else 0)):=by
 rw[Yi ((uP h).map g),kj];exact Ul (fun(b:Nat)=>Cr l (b:Int)) (fun(b:Nat)=>g (lT l (b:Int) (qn l (b:Int)))) _
theorem jdI {l:LgD} (h:wo l=0):wq (qA l)+wq (vY l)+bH l=0:=by
 have a:=gZ h;have g:qA l=qe (gw l) (wY l) (kH (kE l)).length:=jd h;have i:vY l=eJ (vE (U.bo l)):=jd h;have j:bH l=cY (kO (U.bo l)) (kO (U.bo l)).length:=jd h;have c:∀x∈wQ l,0<=eQ x/\eQ x<(((lU l).toNat:Nat):Int):=fun x c=>by
  have:=(jaO a c).pr;omega
 have s1:wq (qA l)=wq ((wQ l).map (fun x=>Ia x+Ib x)):=by
  rw[g,Qk (f:=gw l) (n:=wY l) _ (fun b _=>J1 _ _),jbR a];refine jP wq (List.map_congr_left fun b d=> ?_);have d:=jp.1 d;have e:gw l b=vu l (b:Int):=Yd a (by omega);rw[e,J4 a (by omega)];rfl
 have s2:wq (vY l)= -wq ((wQ l).map NQ):=by
  rw[i,Ql,Yc a];have:=(J5 c (wQ l).length (jj _)).2;rw[zm] at this;show-wq (yl (lU l).toNat (wQ l) (wQ l).length)=_;rw[this]
 have k:bH l= -wq ((wQ l).map QE):=by
  rw[j,bC a,Yk _ (jj _),zm]
 have m:wq ((wQ l).map (fun x=>Ia x+Ib x))=wq ((wQ l).map NQ)+wq ((wQ l).map QE):=by
  rw[<-jdH];refine jP wq (List.map_congr_left fun x c=> ?_);have:=(jaO a c).tt;omega
 omega
theorem Um {l:List LnD} {b:Int} {k:Nat} (h:k<l.length):pK l b (k+1)=if eU (nth l k)=b then pK l b k+(Ia (nth l k)+Ib (nth l k)) else pK l b k:=by
 unfold pK;rw[L.kT h,jz];rfl
theorem Qm {l:List LnD} {b:Int}:∀k,k<=l.length->pK l b k=wq ((l.take k).map (fun x=>if eU x=b then Ia x+Ib x else 0))
 |0,_=>rfl
 |k+1,hk=>by
  rw[Um (by omega),Qm k (by omega),L.kT (show k<l.length by omega),j7,dP]
  show _=_+wq [if eU (nth l k)=b then Ia (nth l k)+Ib (nth l k) else 0]
  rw[ly]
  split<;>omega
theorem Yl (f:Nat->Int) (c:Nat):∀n,wq ((List.range n).map (fun b=>if b=c then f b else 0))=if c<n then f c else 0
 |0=>rfl
 |n+1=>by
  rw[As,Yl f c n]
  by_cases e:n=c
  subst e;rw[jc (by omega),jd rfl,jd (by omega)];omega
  rw[jc e]
  by_cases e2:c<n
  rw[jd e2,jd (by omega)];omega
  rw[jc e2,jc (by omega)];rfl
theorem Ym {l:LgD} (h:iu l) {b:Nat} (d:b<(kH (kE l)).length):pK (wQ l) (b:Int) (wQ l).length=wq (vu l (b:Int)):=by
 rw[Qm _ (jj _),zm,jbR h,J4 h (by omega)];have e:(fun(c:Nat)=>if Cr l (c:Int)=true then(if eU (lT l (c:Int) (qn l (c:Int)))=(b:Int) then Ia (lT l (c:Int) (qn l (c:Int)))+Ib (lT l (c:Int) (qn l (c:Int))) else 0) else 0)=
  fun c=>if c=b then(if Cr l (c:Int)=true then mq l (c:Int) (qn l (c:Int))+mr l (c:Int) (qn l (c:Int)) else 0) else 0:=by
  funext c;have a:eU (lT l (c:Int) (qn l (c:Int)))=(c:Int):=rfl;rw[a];by_cases e2:c=b;subst e2;rw[jd rfl,jd rfl];rfl;rw[jc e2]
  split
  rw[jc (by omega)];rfl
 rw[e,Yl (fun(c:Nat)=>if Cr l (c:Int)=true then mq l (c:Int) (qn l (c:Int))+mr l (c:Int) (qn l (c:Int)) else 0) b,jd d]
namespace U
def wB (l:LgD) (ss:List ShD) (cs:List CaD):LgD:=(vp (kE l) ss,yH l,A5 l,ak l,cs,())
end U
theorem Un {l:LgD} (h:wo l=0):wj (kE l)=0/\cj l=true/\aQ (wy l)=false:=by
 unfold wo at h
 split at h
 rename_i a;exact absurd h a;rename_i a
 split at h
 cases h;rename_i b
 split at h
 cases h;rename_i c;exact⟨jZ.1 a,by simpa using b,by simpa using c⟩
theorem jdJ {l:LgD} (a:wj (kE l)=0) (b:cj l=true) (c:aQ (wy l)=false):wo l=0:=by
 unfold wo;rw[jc (fun h=>h a),jc (by rw[b];decide),jc (by rw[c];decide)]
open Go.Proofs
namespace U
def UN (l:List NoD) (j:Nat):Bool:=(kA (YX (nth l j)) 0 100000&&kA (jbZ (nth l j)) 0 100)&&(decide (j=0)||decide (YX (nth l j)<YX (nth l (j-1))))
def YP (a b:CaD):Bool:=decide (UU a=UU b)&& !decide (a=b)
def UW (l:LgD) (j:Nat):Bool:=NF (nth (yH l) j)&&A7 (nth (A5 l) j)
end U
def Ni:wD:=⟨[.val .int,.val .int,.val .int],[.bool],false,fun _=>[],fun d=>(kA d.1 d.2.1 d.2.2.1,())⟩
def Nj:Prop:=∀(d:CaD),(decide (d.2.1<=d.1)&&decide (d.1<=d.2.2.1),())=(kA d.1 d.2.1 d.2.2.1,())
def GJ:wD:=⟨[.val tTa],[.bool],false,fun _=>[],fun d=>(vK d.1,())⟩
def GK:Ann:=fun r=>match r with
 |4=>some fun σ=>{X:=Nat,sl:=fun i=>[(3,.dat .int (i:Int))],ob:=fun _=>[],inv:=fun i=>i<=(ci (gb tTa σ 1)).length/\∀j:Nat,j<i->kA (nth (ci (gb tTa σ 1)) j) 0 100=true,mu:=fun i=>(ci (gb tTa σ 1)).length-i}
 |9=>some fun σ=>{X:=Nat,sl:=fun i=>[(4,.dat .int (i:Int))],ob:=fun _=>[],inv:=fun i=>i<=(il (gb tTa σ 1)).length/\∀j:Nat,j<i->UN (il (gb tTa σ 1)) j=true,mu:=fun i=>(il (gb tTa σ 1)).length-i}
 |_=>none
abbrev jjt (d:TaD×Unit)(x:Nat):=(nth d.1.q4.q4.2.1 x)
abbrev jkz (d:TaD×Unit)(x:Nat):=(!(!kA (jjt d x).1 (0:Int) (100000:Int)|| !kA (jjt d x).2.1 (0:Int) (100:Int))&&decide (0<(x:Int)))
abbrev jlg (d:TaD×Unit)(x:Nat):=(!kA (jjt d x).1 (0:Int) (100000:Int)|| !kA (jjt d x).2.1 (0:Int) (100:Int)||decide (0<(x:Int))&&decide ((nth d.1.q4.q4.2.1 ((x:Int)-1).toNat).1<=(jjt d x).1))
abbrev jju (d:TaD×Unit):=(d.1.q4.q4.2.1.length:Int)
abbrev jjv (d:TaD×Unit):=(d.1.q4.q4.1.length:Int)
abbrev jlh (d:TaD×Unit):=(!kA d.1.1 (1:Int) (240:Int)|| !kA d.1.2.1 (0:Int) (10000:Int)|| !kA d.1.2.2.1 (0:Int) (20:Int)|| !kA d.1.q4.1 (0:Int) d.1.2.2.2.1||decide (1440<d.1.2.2.2.1)|| !kA d.1.q4.2.1 (0:Int) (100:Int)|| !kA d.1.q4.2.2.1 (0:Int) (10000:Int)||decide ((jjv d)≠4)|| !kA d.1.q4.2.2.2.1 (0:Int) (1000000:Int)||decide (4<(jju d)))
abbrev jli (d:TaD×Unit)(x:Nat):=(!kA (nth d.1.q4.q4.1 x) (0:Int) (100:Int))
def GM:Prop:=∀(d:TaD×Unit),((!(!kA d.1.1 (1:Int) (240:Int)|| !kA d.1.2.1 (0:Int) (10000:Int)|| !kA d.1.2.2.1 (0:Int) (20:Int)|| !kA d.1.q4.1 (0:Int) d.1.2.2.2.1||decide (1440<d.1.2.2.2.1)|| !kA d.1.q4.2.1 (0:Int) (100:Int)|| !kA d.1.q4.2.2.1 (0:Int) (10000:Int)))=true->d.1.q4.q4.1.length<4611686018427387904)->((!(!kA d.1.1 (1:Int) (240:Int)|| !kA d.1.2.1 (0:Int) (10000:Int)|| !kA d.1.2.2.1 (0:Int) (20:Int)|| !kA d.1.q4.1 (0:Int) d.1.2.2.2.1||decide (1440<d.1.2.2.2.1)|| !kA d.1.q4.2.1 (0:Int) (100:Int)|| !kA d.1.q4.2.2.1 (0:Int) (10000:Int)||decide ((jjv d)≠4)|| !kA d.1.q4.2.2.2.1 (0:Int) (1000000:Int)))=true->d.1.q4.q4.2.1.length<4611686018427387904)->((jlh d)=true->(false,())=(vK d.1,()))/\((jlh d)=false->(∃(x:Nat),((0=(x:Int)/\True)/\True)/\x<=(ci d.1).length/\∀(j:Nat),j<x->kA (nth (ci d.1) j) (0:Int) 100=true)/\∀(x:Nat),(x<=(ci d.1).length/\∀(j:Nat),j<x->kA (nth (ci d.1) j) (0:Int) 100=true)->d.1.q4.q4.1.length<4611686018427387904->(decide ((x:Int)<(jjv d))=true->0<=(x:Int)/\(x:Int)<(jjv d)/\((jli d x)=true->(false,())=(vK d.1,()))/\((jli d x)=false->kU ((x:Int)+1)/\∃(a:Nat),(((x:Int)+1=(a:Int)/\True)/\True)/\(a<=(ci d.1).length/\∀(j:Nat),j<a->kA (nth (ci d.1) j) (0:Int) 100=true)/\(ci d.1).length-a<(ci d.1).length-x))/\(decide ((x:Int)<(jjv d))=false->(∃(x:Nat),((0=(x:Int)/\True)/\True)/\x<=(il d.1).length/\∀(j:Nat),j<x->UN (il d.1) j=true)/\∀(x:Nat),(x<=(il d.1).length/\∀(j:Nat),j<x->UN (il d.1) j=true)->d.1.q4.q4.2.1.length<4611686018427387904->(decide ((x:Int)<(jju d))=true->0<=(x:Int)/\(x:Int)<(jju d)/\((jkz d x)=true->kU ((x:Int)-1))/\((jkz d x)=true->0<=(x:Int)-1)/\((jkz d x)=true->(x:Int)-1<(jju d))/\((jlg d x)=true->(false,())=(vK d.1,()))/\((jlg d x)=false->kU ((x:Int)+1)/\∃(a:Nat),(((x:Int)+1=(a:Int)/\True)/\True)/\(a<=(il d.1).length/\∀(j:Nat),j<a->UN (il d.1) j=true)/\(il d.1).length-a<(il d.1).length-x))/\(decide ((x:Int)<(jju d))=false->(true,())=(vK d.1,()))))
def GN:wD:=⟨[.val tLg],[.bool],false,fun _=>[],fun d=>(cj d.1,())⟩
def GO:Ann:=fun r=>match r with
 |5=>some fun σ=>{X:=Nat,sl:=fun i=>[(4,.dat .int (i:Int))],ob:=fun _=>[],inv:=fun i=>i<=(gd .int σ 3).toNat/\∀j:Nat,j<i->UW (gb tLg σ 1) j=true,mu:=fun i=>(gd .int σ 3).toNat-i}
 |10=>some fun σ=>{X:=Nat,sl:=fun i=>[(5,.dat .int (i:Int))],ob:=fun _=>[],inv:=fun i=>i<=(wy (gb tLg σ 1)).length/\∀j:Nat,j<i->pi (gd .int σ 3).toNat (nth (wy (gb tLg σ 1)) j)=true,mu:=fun i=>(wy (gb tLg σ 1)).length-i}
 |_=>none
abbrev jhE (d:LgD×Unit):=(d.1.1.2.2.1.length:Int)
abbrev jlj (d:LgD×Unit)(x:Nat):=(!kA (nth d.1.2.1 x) (0:Int) (20:Int)|| !kA (nth d.1.2.2.1 x) (0:Int) (300:Int))
abbrev jjT (d:LgD×Unit)(x:Nat):=(nth d.1.q4.1 x)
abbrev jlk (d:LgD×Unit)(x:Nat):=(!kA (jjT d x).1 (0:Int) (99:Int)|| !kA (jjT d x).2.1 (0:Int) ((jhE d)-1)|| !kA (jjT d x).2.2.1 (-100000:Int) (1440:Int))
abbrev jkA (d:LgD×Unit):=((d.1.2.1.length:Int)≠(jhE d))
abbrev jjU (d:LgD×Unit):=(d.1.q4.1.length:Int)
abbrev jll (d:LgD×Unit):=(decide (jkA d)||decide ((d.1.2.2.1.length:Int)≠(jhE d))|| !vK d.1.2.2.2.1||decide (10<(jjU d)))
def GP:Prop:=∀(d:LgD×Unit),d.1.1.2.2.1.length<4611686018427387904->d.1.2.1.length<4611686018427387904->((!decide (jkA d))=true->d.1.2.2.1.length<4611686018427387904)->((!(decide (jkA d)||decide ((d.1.2.2.1.length:Int)≠(jhE d))|| !vK d.1.2.2.2.1))=true->d.1.q4.1.length<4611686018427387904)->((jll d)=true->(false,())=(cj d.1,()))/\((jll d)=false->(∃(x:Nat),((0=(x:Int)/\True)/\True)/\x<=(jhE d).toNat/\∀(j:Nat),j<x->UW d.1 j=true)/\∀(x:Nat),(x<=(jhE d).toNat/\∀(j:Nat),j<x->UW d.1 j=true)->(decide ((x:Int)<(jhE d))=true->0<=(x:Int)/\(x:Int)<d.1.2.1.length/\((!!kA (nth d.1.2.1 x) (0:Int) (20:Int))=true->0<=(x:Int))/\((!!kA (nth d.1.2.1 x) (0:Int) (20:Int))=true->(x:Int)<d.1.2.2.1.length)/\((jlj d x)=true->(false,())=(cj d.1,()))/\((jlj d x)=false->kU ((x:Int)+1)/\∃(a:Nat),(((x:Int)+1=(a:Int)/\True)/\True)/\(a<=(jhE d).toNat/\∀(j:Nat),j<a->UW d.1 j=true)/\(jhE d).toNat-a<(jhE d).toNat-x))/\(decide ((x:Int)<(jhE d))=false->(∃(x:Nat),((0=(x:Int)/\True)/\True)/\x<=(wy d.1).length/\∀(j:Nat),j<x->pi (jhE d).toNat (nth (wy d.1) j)=true)/\∀(x:Nat),(x<=(wy d.1).length/\∀(j:Nat),j<x->pi (jhE d).toNat (nth (wy d.1) j)=true)->d.1.q4.1.length<4611686018427387904->(decide ((x:Int)<(jjU d))=true->0<=(x:Int)/\(x:Int)<(jjU d)/\((!!kA (jjT d x).1 (0:Int) (99:Int))=true->kU ((jhE d)-1))/\((jlk d x)=true->(false,())=(cj d.1,()))/\((jlk d x)=false->kU ((x:Int)+1)/\∃(a:Nat),(((x:Int)+1=(a:Int)/\True)/\True)/\(a<=(wy d.1).length/\∀(j:Nat),j<a->pi (jhE d).toNat (nth (wy d.1) j)=true)/\(wy d.1).length-a<(wy d.1).length-x))/\(decide ((x:Int)<(jjU d))=false->(true,())=(cj d.1,()))))
def Qn:wD:=⟨[.val tLg],[.int],false,fun d=>[(kH (kE d.1)).length<=1000000],fun d=>(wo d.1,())⟩
def Qo:Ann:=fun r=>match r with
 |7=>some fun σ=>{X:=Nat,sl:=fun i=>[(4,.dat .int (i:Int))],ob:=fun _=>[],inv:=fun i=>i<=(wy (gb tLg σ 1)).length/\∀b:Nat,b<i->bG (wy (gb tLg σ 1)) b=false,mu:=fun i=>(wy (gb tLg σ 1)).length-i}
 |10=>some fun σ=>{X:=Nat,sl:=fun i=>[(5,.dat .int (i:Int))],ob:=fun _=>[],inv:=fun i=>i<=(gd .int σ 4).toNat/\∀j:Nat,j<i->YP (nth (wy (gb tLg σ 1)) (gd .int σ 4).toNat) (nth (wy (gb tLg σ 1)) j)=false,mu:=fun i=>(gd .int σ 4).toNat-i}
 |_=>none
abbrev jjw (d:LgD×Unit)(x:Nat)(a:Nat):=((nth d.1.q4.1 x).1=(nth d.1.q4.1 a).1)
abbrev ji1 (d:LgD×Unit):=(d.1.q4.1.length:Int)
abbrev jlm (d:LgD×Unit)(x:Nat)(a:Nat):=(decide (jjw d x a)&& !decide (nth d.1.q4.1 x=nth d.1.q4.1 a))
def Qp:Prop:=∀(d:LgD×Unit),(kH (kE d.1)).length<=1000000->(kH d.1.1).length<=1000000/\(decide (gx d.1.1≠0)=true->(gx d.1.1,())=(wo d.1,()))/\(decide (gx d.1.1≠0)=false->((!cj d.1)=true->((70:Int),())=(wo d.1,()))/\((!cj d.1)=false->(∃(x:Nat),((0=(x:Int)/\True)/\True)/\x<=(wy d.1).length/\∀(b:Nat),b<x->bG (wy d.1) b=false)/\∀(x:Nat),(x<=(wy d.1).length/\∀(b:Nat),b<x->bG (wy d.1) b=false)->d.1.q4.1.length<4611686018427387904->(decide ((x:Int)<(ji1 d))=true->(∃(a:Nat),((0=(a:Int)/\True)/\True)/\a<=x/\∀(j:Nat),j<a->YP (nth (wy d.1) x) (nth (wy d.1) j)=false)/\∀(a:Nat),(a<=x/\∀(j:Nat),j<a->YP (nth (wy d.1) x) (nth (wy d.1) j)=false)->(decide ((a:Int)<(x:Int))=true->0<=(x:Int)/\(x:Int)<(ji1 d)/\0<=(a:Int)/\(a:Int)<(ji1 d)/\(decide (jjw d x a)=true->0<=(x:Int))/\(decide (jjw d x a)=true->(x:Int)<(ji1 d))/\(decide (jjw d x a)=true->0<=(a:Int))/\(decide (jjw d x a)=true->(a:Int)<(ji1 d))/\((jlm d x a)=true->((71:Int),())=(wo d.1,()))/\((jlm d x a)=false->kU ((a:Int)+1)/\∃(c:Nat),(((a:Int)+1=(c:Int)/\True)/\True)/\(c<=x/\∀(j:Nat),j<c->YP (nth (wy d.1) x) (nth (wy d.1) j)=false)/\x-c<x-a))/\(decide ((a:Int)<(x:Int))=false->kU ((x:Int)+1)/\∃(c:Nat),(((x:Int)+1=(c:Int)/\True)/\True)/\(c<=(wy d.1).length/\∀(b:Nat),b<c->bG (wy d.1) b=false)/\(wy d.1).length-c<(wy d.1).length-x))/\(decide ((x:Int)<(ji1 d))=false->((0:Int),())=(wo d.1,()))))
theorem Qq:Nj:=by
 rintro⟨n,a,b,⟨⟩⟩;rfl
theorem A2:wN PR 37 Ni:=wt Qq Tryz.func37 kcN koN
theorem Fx:∀{l:List NoD} {last:Int},A6 last l=true↔∀j,j<l.length->Kq (if j=0 then last else YX (nth l (j-1))) (nth l j)=true
 |[],_=>⟨fun _ j a=>(by cases a),fun _=>rfl⟩
 |n::r,last=>by
  have d:=Fx (l:=r) (last:=YX n)
  show(Kq last n&&A6 (YX n) r)=true↔_
  rw[ji,d]
  constructor
  rintro⟨b,c⟩ j a
  cases j with
  |zero=>exact b
  |succ j=>
   rw[jc (by omega)]
   have:=c j (by simpa using a)
   cases j with
   |zero=>exact this
   |succ j=>exact this
  intro h
  refine⟨h 0 (by simp),fun j a=> ?_⟩
  have:=h (j+1) (by simpa using a)
  rw[jc (by omega)] at this
  cases j with
  |zero=>exact this
  |succ j=>exact this
theorem jfi {l:List NoD}:A6 100001 l=true↔∀j,j<l.length->UN l j=true:=by
 constructor;intro h j b;have a:=(CO h _ (L.kJ b));have c:=Fx.1 h j b;unfold UN;simp only[ji,zG,jv,qZ];refine⟨⟨by omega,by omega⟩,?_⟩;by_cases e:j=0;exact Or.inl e;rw[jc e] at c;unfold Kq at c;rw[ji,qZ] at c;right;omega;intro h;refine Fx.2 fun j b=> ?_
 have a:=h j b;unfold UN at a;simp only[ji,zG,jv,qZ] at a;unfold Kq U.share;rw[ji,qZ,qZ];refine⟨?_,a.1.2⟩;by_cases e:j=0;rw[jd e];omega;rw[jc e];omega
def taH (t:TaD):Bool:= !kA (UI t) 1 240|| !kA (jd4 t) 0 10000|| !kA (jd5 t) 0 20|| !kA (jd6 t) 0 (jbd t)||decide (1440<jbd t)|| !kA (Ky t) 0 100|| !kA (YY t) 0 10000||decide (((ci t).length:Int)≠4)|| !kA (UJ t) 0 1000000||decide (4<((il t).length:Int))
theorem J6 (t:TaD):vK t=true↔taH t=false/\(∀j,j<(ci t).length->kA (nth (ci t) j) 0 100=true)/\∀j,j<(il t).length->UN (il t) j=true:=by
 rw[<-jfi];unfold vK taH U.share;simp only[jS,jI,zv,ji,jv,qZ,jR];constructor;rintro⟨⟨⟨⟨⟨⟨⟨a,b⟩,c⟩,l⟩,d⟩,e⟩,f⟩,⟨⟨⟨m,g⟩,h⟩,n⟩,i⟩;exact⟨⟨⟨⟨⟨⟨⟨⟨⟨⟨a,b⟩,c⟩,d⟩,by omega⟩,e⟩,f⟩,by omega⟩,h⟩,by omega⟩,fun j k=>g _ (L.kJ k),i⟩;rintro⟨⟨⟨⟨⟨⟨⟨⟨⟨⟨a,b⟩,c⟩,d⟩,l⟩,e⟩,f⟩,m⟩,h⟩,n⟩,g,i⟩;refine⟨⟨⟨⟨⟨⟨⟨a,b⟩,c⟩,by omega⟩,d⟩,e⟩,f⟩,⟨⟨⟨by omega,fun x o=> ?_⟩,h⟩,by omega⟩,i⟩;obtain⟨j,k,rfl⟩:=L.mem_iff.1 o;exact g j k
theorem jdK {t:TaD} (h:¬vK t=true):(false,())=(vK t,()):=by
 rw[kw] at h;rw[h]
theorem Fy (l:LgD):cj l=true↔((yH l).length=(kH (kE l)).length/\(A5 l).length=(kH (kE l)).length/\vK (ak l)=true/\(wy l).length<=10)/\(∀j,j<(kH (kE l)).length->UW l j=true)/\∀j,j<(wy l).length->pi (kH (kE l)).length (nth (wy l) j)=true:=by
 unfold cj UW;simp only[ji,jv,jR];constructor;rintro⟨⟨⟨c,h⟩,d,i⟩,e,f,k⟩;exact⟨⟨c,d,e,f⟩,fun j a=>⟨h _ (L.kJ (by omega)),i _ (L.kJ (by omega))⟩,fun j a=>k _ (L.kJ a)⟩;rintro⟨⟨c,d,e,f⟩,g,m⟩;refine⟨⟨⟨c,fun x b=> ?_⟩,d,fun x b=> ?_⟩,e,f,fun x b=> ?_⟩;obtain⟨j,a,rfl⟩:=L.mem_iff.1 b;exact(g j (by omega)).1;obtain⟨j,a,rfl⟩:=L.mem_iff.1 b;exact(g j (by omega)).2;obtain⟨j,a,rfl⟩:=L.mem_iff.1 b;exact m j a
theorem jdL {l:LgD} (h:¬cj l=true):(false,())=(cj l,()):=by
 rw[kw] at h;rw[h]
theorem jfj {l:List CaD} {i:Nat} (h:∀j:Nat,j<i->YP (nth l i) (nth l j)=false) (hi:i<=l.length):bG l i=false:=by
 unfold bG;rw[zu];intro x c;obtain⟨j,b,rfl⟩:=L.mem_iff.1 c;rw[j0] at b;rw[L.nth_take (by omega)];have:=h j (by omega);unfold YP at this;rw[kw,Bool.and_eq_false_iff] at*;rcases this with a|a;left;exact zz fun e=>je a e.symm
 right;rw[zv,jv] at a;rw[a,jH rfl];rfl
theorem jdM {l:List CaD} {i j:Nat} (hi:i<l.length) (a:j<i) (h:YP (nth l i) (nth l j)=true):aQ l=true:=by
 unfold aQ FK;rw[zh];refine⟨i,jp.2 hi,?_⟩;unfold bG;rw[zh];unfold YP at h;rw[ji,jv,jV,jI] at h;refine⟨nth l j,?_,?_⟩;exact L.mem_iff.2 ⟨j,by rw[j0];omega,L.nth_take (by omega)⟩;rw[ji,jv,jV,jI];exact⟨h.1.symm,fun e=>h.2 e.symm⟩
theorem J7:GM:=by
 unfold GM jli jlh jjv jju jlg jkz jjt Prod.q4;rintro⟨t,⟨⟩⟩ _ _;refine⟨fun h=>jdK (t:=t) (fun c=> ?_),fun k=> ?_⟩;have h:taH t=true:=h;rw[((J6 t).1 c).1] at h;cases h;have k:taH t=false:=k;refine⟨⟨0,⟨⟨rfl,tZ⟩,tZ⟩,jt _,fun j f=>by omega⟩,fun x d g=>⟨fun h=> ?_,fun h=> ?_⟩⟩;have g:(ci t).length<4611686018427387904:=g;have h:(x:Int)<(ci t).length:=ja h;refine⟨by omega,h,fun c=>jdK (t:=t) (fun i=> ?_),fun c=>⟨iZ6,x+1,⟨⟨by simp,tZ⟩,tZ⟩,⟨by show x+1<=(ci t).length;omega,fun j f=> ?_⟩,by show(ci t).length-(x+1)<(ci t).length-x;omega⟩⟩;have c:(!kA (nth (ci t) x) 0 100)=true:=c;rw[((J6 t).1 i).2.1 x (by omega)] at c;cases c;have c:kA (nth (ci t) x) 0 100=true:=(by simpa using(show(!kA (nth (ci t) x) 0 100)=false from c));by_cases e:j=x;subst e;exact c;exact d.2 j (by omega);have h:¬(x:Int)<(ci t).length:=je h;have o:∀j,j<(ci t).length->kA (nth (ci t) j) 0 100=true:=fun j f=>d.2 j (by omega)
 clear d h;refine⟨⟨0,⟨⟨rfl,tZ⟩,tZ⟩,jt _,fun j f=>by omega⟩,fun x d g=>⟨fun h=> ?_,fun h=> ?_⟩⟩;have g:(il t).length<4611686018427387904:=g;have h:(x:Int)<(il t).length:=ja h;have l:(!kA (YX (nth (il t) x)) 0 100000|| !kA (jbZ (nth (il t) x)) 0 100||decide (0<(x:Int))&&decide (YX (nth (il t) ((x:Int)-1).toNat)<=YX (nth (il t) x)))= !UN (il t) x:=by
  have e2:((x:Int)-1).toNat=x-1:=(by omega);have m:∀a b:Int,(decide (0<(x:Int))&&decide (a<=b))= !(decide (x=0)||decide (b<a)):=fun a b=>by
   rw[j8];simp only[ji,jv,jV,jS,jI];omega
  unfold UN;rw[e2,m,Bool.not_and,Bool.not_and]
 refine⟨by omega,h,fun _=>iZ6,fun c=> ?_,fun _=>by show(x:Int)-1<((il t).length:Int);omega,fun c=>jdK (t:=t) (fun i=> ?_),fun c=>⟨iZ6,x+1,⟨⟨by simp,tZ⟩,tZ⟩,⟨by show x+1<=(il t).length;omega,fun j f=> ?_⟩,by show(il t).length-(x+1)<(il t).length-x;omega⟩⟩;rw[ji] at c;have c:0<(x:Int):=ja c.2;show 0<=(x:Int)-1;omega;have c:(!UN (il t) x)=true:=l.symm.trans c;rw[((J6 t).1 i).2.2 x (by omega)] at c;cases c;have c:(!UN (il t) x)=false:=l.symm.trans c;by_cases e:j=x;subst e;show UN (il t) j=true;simpa using c;exact d.2 j (by omega);have h:¬(x:Int)<(il t).length:=je h;have n:∀j,j<(il t).length->UN (il t) j=true:=fun j f=>d.2 j (by omega)
 show(true,())=(vK t,());rw[(J6 t).2 ⟨k,o,n⟩]
theorem GQ:wN PR 36 GJ:=vZ GK J7 Tryz.func36 (kcC A2 kcN) koN
def lgH (l:LgD):Bool:=decide (((yH l).length:Int)≠(kH (kE l)).length)||decide (((A5 l).length:Int)≠(kH (kE l)).length)|| !vK (ak l)||decide (10<((wy l).length:Int))
theorem Yn (l:LgD):lgH l=false↔((yH l).length=(kH (kE l)).length/\(A5 l).length=(kH (kE l)).length/\vK (ak l)=true/\(wy l).length<=10):=by
 unfold lgH;simp only[jS,jI,zv];constructor;rintro⟨⟨⟨b,c⟩,a⟩,d⟩;exact⟨by omega,by omega,a,by omega⟩;rintro⟨b,c,a,d⟩;exact⟨⟨⟨by omega,by omega⟩,a⟩,by omega⟩
theorem J8:GP:=by
 unfold GP jll jjU jkA jlk jjT jlj jhE Prod.q4;rintro⟨l,⟨⟩⟩ i _ _ _;have i:(kH (kE l)).length<4611686018427387904:=i;refine⟨fun h=>jdL (l:=l) (fun a=> ?_),fun f=> ?_⟩;have h:lgH l=true:=h;rw[(Yn l).2 ((Fy l).1 a).1] at h;cases h;have f:=(Yn l).1 (show lgH l=false from f);obtain⟨r,s,p,o⟩:=id f;refine⟨⟨0,⟨⟨rfl,tZ⟩,tZ⟩,jt _,fun j d=>by omega⟩,fun x b=>⟨fun h=> ?_,fun h=> ?_⟩⟩;have h:(x:Int)<(kH (kE l)).length:=ja h;have b:x<=(((kH (kE l)).length:Int)).toNat/\∀j:Nat,j<x->UW l j=true:=b;have c:(!kA (nth (yH l) x) 0 20|| !kA (nth (A5 l) x) 0 300)= !UW l x:=by
  unfold UW NF A7;rw[Bool.not_and]
 refine⟨by omega,by show(x:Int)<(yH l).length;omega,fun _=>by omega,fun _=>by show(x:Int)<(A5 l).length;omega,fun a=>jdL (l:=l) (fun g=> ?_),fun a=>⟨iZ6,x+1,⟨⟨by simp,tZ⟩,tZ⟩,⟨by show x+1<=(((kH (kE l)).length:Int)).toNat;omega,fun j d=> ?_⟩,by show(((kH (kE l)).length:Int)).toNat-(x+1)<(((kH (kE l)).length:Int)).toNat-x;omega⟩⟩;have a:(!UW l x)=true:=c.symm.trans a;rw[((Fy l).1 g).2.1 x (by omega)] at a;cases a;have a:(!UW l x)=false:=c.symm.trans a;by_cases e:j=x;subst e;show UW l j=true;simpa using a;exact b.2 j (by omega);have h:¬(x:Int)<(kH (kE l)).length:=je h;have n:∀j,j<(kH (kE l)).length->UW l j=true:=fun j d=>b.2 j (by omega)
 clear b h;refine⟨⟨0,⟨⟨rfl,tZ⟩,tZ⟩,jt _,fun j d=>by omega⟩,fun x b k=>⟨fun h=> ?_,fun h=> ?_⟩⟩;have k:(wy l).length<4611686018427387904:=k;have h:(x:Int)<(wy l).length:=ja h;have q:(((kH (kE l)).length:Int)).toNat=(kH (kE l)).length:=(by omega);have c:(!kA (UU (nth (wy l) x)) 0 99|| !kA (jfz (nth (wy l) x)) 0 (((kH (kE l)).length:Int)-1)|| !kA (YZ (nth (wy l) x)) (-100000) 1440)= !pi (kH (kE l)).length (nth (wy l) x):=by
  unfold pi;rw[Bool.not_and,Bool.not_and]
 refine⟨by omega,h,fun _=> ?_,fun a=>jdL (l:=l) (fun g=> ?_),fun a=>⟨iZ6,x+1,⟨⟨by simp,tZ⟩,tZ⟩,⟨by show x+1<=(wy l).length;omega,fun j d=> ?_⟩,by show(wy l).length-(x+1)<(wy l).length-x;omega⟩⟩;show kU (((kH (kE l)).length:Int)-1);exact iZ6;have a:(!pi (kH (kE l)).length (nth (wy l) x))=true:=c.symm.trans a;rw[((Fy l).1 g).2.2 x (by omega)] at a;cases a;have a:(!pi (kH (kE l)).length (nth (wy l) x))=false:=c.symm.trans a;by_cases e:j=x;subst e;show pi (kH (kE l)).length (nth (wy l) j)=true;simpa using a;exact b.2 j (by omega);have h:¬(x:Int)<(wy l).length:=je h;have m:∀j,j<(wy l).length->pi (kH (kE l)).length (nth (wy l) j)=true:=fun j d=>b.2 j (by omega)
 show(true,())=(cj l,());rw[(Fy l).2 ⟨f,n,m⟩]
theorem GR:wN PR 16 GN:=vZ GO J8 Tryz.func16 (kcC A2 (kcC GQ kcN)) koN
theorem Uo:Qp:=by
 unfold Qp jlm ji1 jjw Prod.q4;rintro⟨l,⟨⟩⟩ r;have f:wj (kE l)=gx (kE l):=vC _;refine⟨r,fun h=> ?_,fun h=> ?_⟩;have h:gx (kE l)≠0:=ja h;show(gx (kE l),())=(wo l,());unfold wo;rw[f,jd h];have h:¬gx (kE l)≠0:=je h;refine⟨fun c=> ?_,fun c=> ?_⟩;have c:cj l=false:=(by simpa using(show(!cj l)=true from c));show((70:Int),())=(wo l,());unfold wo;rw[f,jc h,jd c];have c:cj l=true:=(by simpa using(show(!cj l)=false from c));have q:=((Fy l).1 c).1.2.2.2;have n:∀v,(if aQ (wy l)=true then(71:Int) else 0)=v->(v,())=(wo l,()):=fun v s=>by
  unfold wo;rw[f,jc h,jc (by rw[c];decide),s]
 refine⟨⟨0,⟨⟨rfl,tZ⟩,tZ⟩,jt _,fun j g=>by omega⟩,fun x p o=>⟨fun d=> ?_,fun d=> ?_⟩⟩;have o:(wy l).length<4611686018427387904:=o;have d:(x:Int)<(wy l).length:=ja d;refine⟨⟨0,⟨⟨rfl,tZ⟩,tZ⟩,jt _,fun j g=>by omega⟩,fun y i=>⟨fun b=> ?_,fun b=> ?_⟩⟩;have b:(y:Int)<(x:Int):=ja b;have i:y<=x/\∀j:Nat,j<y->YP (nth (wy l) x) (nth (wy l) j)=false:=i;have k:(y:Int)<(wy l).length:=(by omega);refine⟨by omega,d,by omega,k,fun _=>by omega,fun _=>d,fun _=>by omega,fun _=>k,fun a=> ?_,fun a=>⟨iZ6,y+1,⟨⟨by simp,tZ⟩,tZ⟩,⟨by show y+1<=x;omega,fun j g=> ?_⟩,by show x-(y+1)<x-y;omega⟩⟩;have a:YP (nth (wy l) x) (nth (wy l) y)=true:=a;exact n 71 (jd (jdM (by omega) (by omega) a));have a:YP (nth (wy l) x) (nth (wy l) y)=false:=a;by_cases e:j=y;subst e;exact a;exact i.2 j (by omega);have b:¬(y:Int)<(x:Int):=je b;have i:y<=x/\∀j:Nat,j<y->YP (nth (wy l) x) (nth (wy l) j)=false:=i;have m:y=x:=(by omega);subst m;refine⟨iZ6,y+1,⟨⟨by simp,tZ⟩,tZ⟩,⟨by show y+1<=(wy l).length;omega,fun j g=> ?_⟩,by show(wy l).length-(y+1)<(wy l).length-y;omega⟩;by_cases e:j=y;subst e;exact jfj i.2 (by omega);exact p.2 j (by omega);have d:¬(x:Int)<(wy l).length:=je d;refine n 0 (jc fun b=> ?_);unfold aQ FK at b;rw[zh] at b;obtain⟨j,g,a⟩:=b;have g:=jp.1 g;have:=p.2 j (by omega);rw[this] at a;cases a
theorem Qr:wN PR 5 Qn:=vZ Qo Uo Tryz.func5 (kcC sd (kcC GR kcN)) koN
theorem R6 {l:LgD} {b m:Int} (h:jgA l b) (f:0<=m/\m<=8):0<=io l b m/\io l b m<=115200000:=by
 have c:=dN.1 h.1;obtain⟨g,i,j⟩:=h.2.2.2.2.2.1;have k:=P3 (a:=dp (n7 l b)-yq (n7 l b)) (b:=UI (ak l)) (by omega) (by have:=c.un;omega);have n:=c.le;have d:0<=max (jd5 (ak l)) (U.up (dp (n7 l b)-yq (n7 l b)) (UI (ak l)))/\max (jd5 (ak l)) (U.up (dp (n7 l b)-yq (n7 l b)) (UI (ak l)))<=1440:=(by omega);have e:0<=m*jd4 (ak l)/\m*jd4 (ak l)<=80000:=P2 (A:=8) (B:=10000) f c.rt;exact P2 e d
theorem jaP {l:LgD} {b m:Int} (h:jgA l b) (f:0<=m/\m<=8):0<=FN l b m/\FN l b m<=100000000000000:=by
 have g:=dN.1 h.1;obtain⟨i,j,k⟩:=h.2.2.2.2.2.1;have e:=R6 h f;have a:=Yb l b (dp (n7 l b)-yq (n7 l b)).toNat;have c:0<=io l b m*Ky (ak l)/\io l b m*Ky (ak l)<=11520000000:=P2 e g.ni;have d:0<=io l b m*Ky (ak l)*QG l b/\io l b m*Ky (ak l)*QG l b<=16588800000000:=P2 c (B:=1440) ⟨a.1,Int.le_trans a.2 (by omega)⟩;have n:=P3 (b:=100*(dp (n7 l b)-yq (n7 l b))) d.1 (by omega);unfold FN;omega
theorem jdN {l:LgD} {b m:Int} (h:vK (ak l)=true):0<=YM l b m/\YM l b m<=100:=by
 unfold YM
 split
 rename_i a;have:=Fe a;exact(CO (dN.1 h).no _ (L.kJ this.1)).2;omega
theorem Up {w p p':Int} (a:0<=w) (c:0<=p) (h:p<=p'):U.up (w*p) 100<=U.up (w*p') 100:=by
 have b:0<=w*p:=ku a c;have d:w*p<=w*p':=Int.mul_le_mul_of_nonneg_left h a;rw[XP b (by omega),XP (by omega) (by omega)];omega
theorem Uq {w p:Int} (b:0<=w) (c:0<=p) (h:p<=100):U.up (w*p) 100<=w:=by
 have a:=Up b c h;rw[H6 b] at a;exact a
end Go.X

namespace Go.X
open U
open Go.Proofs
namespace U
def jfD (l:LgD):List LnD:=if wo l=0 then wQ l else[]
def jfE (l:LgD) (n:Int):List Int:=if qI l (n4 l n)=0 then vu l n else[]
def Ku (l:LgD):Prop:=FJ (kE l)/\(yH l).length<=20/\(A5 l).length<=20/\(ci (ak l)).length<=20/\(il (ak l)).length<=20/\(wy l).length<=30
end U
def Ur:wD:=⟨[.val tLg],[tLg],false,fun d=>[Ku d.1],fun d=>(d.1,())⟩
def Us:Prop:=∀(d:LgD×Unit),Ku d.1->FJ d.1.1/\(0+d.1.2.1.length)*8<=140737488355328/\(0+d.1.2.2.1.length)*8<=140737488355328/\(0+d.1.2.2.2.1.q4.q4.1.length)*8<=140737488355328/\(0+d.1.2.2.2.1.q4.q4.2.1.length)*16<=140737488355328/\(0+d.1.q4.1.length)*24<=140737488355328/\((d.1.1,[]++d.1.2.1,[]++d.1.2.2.1,(d.1.2.2.2.1.1,d.1.2.2.2.1.2.1,d.1.2.2.2.1.2.2.1,d.1.2.2.2.1.2.2.2.1,d.1.2.2.2.1.q4.1,d.1.2.2.2.1.q4.2.1,d.1.2.2.2.1.q4.2.2.1,d.1.2.2.2.1.q4.2.2.2.1,[]++d.1.2.2.2.1.q4.q4.1,[]++d.1.2.2.2.1.q4.q4.2.1,()),[]++d.1.q4.1,()),())=d
theorem jaQ {l:LgD} (h:iu l):∀x∈wQ l,(0<=eQ x/\eQ x<(((lU l).toNat:Nat):Int))/\-1000000<=NQ x/\NQ x<=20000000000000000:=fun x a=>by
 have o:=jaO h a
 have:=o.pr;have:=o.wk;have:=o.tr;have:=o.sb;have:=o.tt
 omega
theorem jbS {l:List Int} (h:∀x∈l,0<=x):0<=wq l:=by
 induction l with
 |nil=>exact zo 0
 |cons x r b=>
  rw[qb];have c:=h x (zf ..);have d:=b fun y a=>h y (jl _ a)
  omega
theorem Au (l:List Int) (k:Nat):qd l k=wq (l.take k):=(oH (l.take k)).symm
theorem J9 {l:List Int} (h:∀x∈l,0<=x) (k:Nat):0<=qd l k/\qd l k<=wq l:=by
 have e:wq l=wq (l.take k)+wq (l.drop k):=(by rw[<-dP,zV]);have b:=jbS (l:=l.take k) fun x a=>h x (zO a)
 have c:=jbS (l:=l.drop k) fun x a=>h x (zZ a)
 rw[Au];omega
theorem jbT {α:Type} {l:List α} {g:α->Int} {B:Int} (h:∀x∈l,0<=g x/\g x<=B):0<=wq (l.map g)/\wq (l.map g)<=B*(l.length:Int):=by
 induction l with
 |nil=>exact⟨zo 0,by show(0:Int)<=B*0;omega⟩
 |cons x r b=>
  have c:=h x (zf ..);have d:=b fun y a=>h y (jl _ a)
  rw[zg,qb,ze];have e:B*((r.length+1:Nat):Int)=B*(r.length:Int)+B:=(by rw[Int.natCast_add,Int.mul_add];simp);rw[e];omega
theorem jdO {l:LgD} (h:iu l) {b:Int} (c:0<=b/\b<((kH (kE l)).length:Int)) (a:Cr l b=true):lT l b (qn l b)∈wQ l:=by
 have d:=h.py.2 _ (L.kJ (show b.toNat<(yH l).length by rw[h.py.1];omega));have en:((b.toNat:Nat):Int)=b:=(by omega);refine uN.2 ⟨(nth (yH l) b.toNat).toNat,by omega,b.toNat,by rw[h.py.1];omega,?_,by omega,?_⟩;rw[en];exact a;rw[en]
theorem jfk {l:LgD} (h:iu l) {b:Int} (a:0<=b/\b<((kH (kE l)).length:Int)) (c:Cr l b=true):(0<=mq l b (qn l b)/\mq l b (qn l b)<=10000000000000000)/\0<=mr l b (qn l b)/\mr l b (qn l b)<=1000000000:=by
 have o:=jaO h (jdO h a c);exact⟨o.wk,o.tr⟩
theorem R7 {a m:Int} (b:0<=a) (c:0<=m) (i:Nat):0<=ym a m i:=by
 have:=Int.tdiv_nonneg b c;unfold ym
 split<;>omega
theorem Ka {l:LgD} (h:iu l) {b:Int} (c:0<=b/\b<((kH (kE l)).length:Int)) {p:Nat} (d:p<wY l):0<=nth (vu l b) p/\(0<nth (vu l b) p->wH (qn l b) (p:Int)=true):=by
 rw[(aM h c).2 p d];by_cases a:Cr l b=true/\wH (qn l b) (p:Int)=true;rw[jd a];have w:=jfk h c a.1;have z:=(BT.size_le (qn l b)).1;have e:=R7 w.1.1 z (rnk (qn l b) p);have f:=R7 w.2.1 z (rnk (qn l b) p);exact⟨by omega,fun _=>a.2⟩;rw[jc a];exact⟨zo 0,fun h=>absurd h (by omega)⟩
structure jgo (l:LgD) (L:List LnD) (P:Int->List Int):Prop where
 ll:L.length=(kB (kE l)).length
 la:(qA l).length=wY l
 lt:(bR (kE l)).length=(kH (kE l)).length
 sA:∀k,-100000000000000000<=qd (qA l) k/\qd (qA l) k<=100000000000000000
 sB:∀k,-100000000000000000<=qd (vY l) k/\qd (vY l) k<=100000000000000000
 sC: -100000000000000000<=bH l/\bH l<=0
 bal:wq (qA l)+wq (vY l)+bH l=0
 am:∀b k,k<=L.length->-100000000000000000<=pK L b k/\pK L b k<=100000000000000000
 ln:∀k,k<L.length->(0<=Ia (nth L k)/\Ia (nth L k)<=10000000000000000)/\0<=Ib (nth L k)/\Ib (nth L k)<=1000000000
 pl:∀b:Nat,b<(kH (kE l)).length->(P (b:Int)).length=wY l/\wq (P (b:Int))=pK L (b:Int) L.length
 ps:∀b:Nat,b<(kH (kE l)).length->∀k,-100000000000000000<=qd (P (b:Int)) k/\qd (P (b:Int)) k<=100000000000000000
 pp:∀b:Nat,b<(kH (kE l)).length->∀p:Nat,p<wY l->0<=nth (P (b:Int)) p/\(0<nth (P (b:Int)) p->wH (nth (bR (kE l)) b) (p:Int)=true)
 ng:∀i,i<(vY l).length->nth (vY l) i<=0
theorem jfl {l:LgD} (u:wo l=0):jgo l (wQ l) (vu l):=by
 have h:=gZ u;have v:=(vC (kE l)).symm.trans h.cp;have O:=jfh h;have H:=R3 h;have F:bR (kE l)=Kx (kE l):=(by rw[PU,jd v,MH v]);have z:qA l=qe (gw l) (wY l) (kH (kE l)).length:=jd u;have K:vY l=eJ (vE (U.bo l)):=jd u;have M:bH l=cY (kO (U.bo l)) (kO (U.bo l)).length:=jd u;have E:∀b:Nat,b<(kH (kE l)).length->gw l b=vu l (b:Int):=fun b d=>Yd h (by omega)
 have t:=jdI u;have G:∀x∈wQ l,(0<=Ia x/\Ia x<=10000000000000000)/\0<=Ib x/\Ib x<=1000000000:=fun x c=>⟨(jaO h c).wk,(jaO h c).tr⟩
 have s:∀b k,k<=(wQ l).length->0<=pK (wQ l) b k/\pK (wQ l) b k<=10000001000000000*(k:Int):=fun b k hk=>by
  rw[Qm k hk];have o:=jbT (l:=(wQ l).take k) (g:=fun x=>if eU x=b then Ia x+Ib x else 0) (B:=10000001000000000) fun x c=>by
   have:=G x (zO c)
   split<;>omega
  have r:((wQ l).take k).length=k:=(by rw[j0];omega);rw[r] at o;exact o
 have W:∀x∈qA l,0<=x:=fun x c=>by
  obtain⟨j,a,rfl⟩:=L.mem_iff.1 c;rw[z,aL] at a;rw[z];have:=Ye (f:=gw l) (n:=wY l) (A:=0) (B:=1700000000000000000) (kH (kE l)).length (fun b d j a=>⟨by rw[E b d];exact(Ka h (by omega) a).1,(jbQ (jaI h) (n:=(b:Int)) j a).2⟩) j a;omega
 have m:∀x∈wQ l,0<=eQ x/\eQ x<(((lU l).toNat:Nat):Int):=fun x c=>(jaQ h x c).1
 have I:∀x∈NK l,0<=x:=fun x c=>by
  obtain⟨j,a,rfl⟩:=L.mem_iff.1 c;have key:∀k,k<=(wQ l).length->∀j,j<(lU l).toNat->0<=nth (yl (lU l).toNat (wQ l) k) j:=by
   intro k
   induction k with
   |zero=>intro _ j a;have:nth (yl (lU l).toNat (wQ l) 0) j=0:=L.aV a;omega
   |succ k V=>
    intro hk j a;have o:=V (by omega);have r:=m _ (L.kJ (show k<(wQ l).length by omega));have N:=(jaO h (L.kJ (show k<(wQ l).length by omega))).tt.2;have O:=o (eQ (nth (wQ l) k)).toNat (by omega);have P:=(J5 m k (by omega)).1;rw[oG (by omega)];unfold Ks;rw[L.vM (by rw[P];omega)];by_cases e:(eQ (nth (wQ l) k)).toNat=j;rw[jd e];omega;rw[jc e];exact o j a
  have a:j<(yl (lU l).toNat (wQ l) (wQ l).length).length:=a;rw[(J5 m _ (jj _)).1] at a;exact key _ (jj _) j a
 have sA:=J9 W;have X:=J9 I;have q:vY l=eJ (NK l):=(by rw[K,Yc h]);have Q:∀k,qd (vY l) k= -qd (NK l) k:=fun k=>by
  have e:(eJ (NK l)).take k=eJ ((NK l).take k):=List.map_take.symm;rw[q,Au,Au,e,Ql]
 have R:wq (vY l)= -wq (NK l):=(by rw[q,Ql]);have S:=Yf (l:=wQ l) (fun x c=>by have:=(jaO h c).sb;have:=h.ta.cp;omega) _ (jj _);rw[<-bC h,<-M,bC h] at S;have J:wq (qA l)<=10000001000000000*4:=by
  rw[z,Qk (f:=gw l) (n:=wY l) _ (fun b _=>J1 _ _)];have o:=jbT (l:=List.range (kH (kE l)).length) (g:=fun b=>wq (gw l b)) (B:=10000001000000000) fun b d=>by
   have d:=jp.1 d;show 0<=wq (gw l b)/\wq (gw l b)<=_;rw[E b d,J4 h (by omega)];by_cases D:Cr l (b:Int)=true;have w:=jfk h (b:=(b:Int)) (by omega) D;rw[jd D];omega;rw[jc D];omega
  rw[zt] at o;omega
 have C:∀b:Nat,b<(kH (kE l)).length->∀x∈vu l (b:Int),0<=x:=fun b d x c=>by
  obtain⟨j,a,rfl⟩:=L.mem_iff.1 c;rw[(aM h (b:=(b:Int)) (by omega)).1] at a;exact(Ka h (by omega) a).1
 refine⟨?_,by rw[z,aL],by rw[F,x8 v],fun k=> ?_,fun k=> ?_,?_,t,fun b k hk=> ?_,fun k hk=>G _ (L.kJ hk),fun b d=>⟨(aM h (by omega)).1,(Ym h d).symm⟩,fun b d k=> ?_,fun b d p T=> ?_,fun i hi=> ?_⟩;have o:=(uP h).length_eq;have r:kB (kE l)=((List.range (kH (kE l)).length).filter (fun(b:Nat)=>Cr l (b:Int))).map (fun(b:Nat)=>(b:Int)):=by
  rw[PW];unfold jfS;rw[jd v];unfold Sd;rw[x8 v];rfl
 rw[o,r,zc,zc];have:=sA k;omega;have:=X k;rw[Q k];omega;omega;have:=s b k hk;omega;have o:=J9 (C b d) k;have r:=Ym h d;have N:=s (b:Int) _ (jj _);omega;rw[F];exact Ka h (by omega) T;rw[q] at hi⊢;have y:i<(NK l).length:=(by unfold eJ at hi;rw[zc] at hi;exact hi);have:=I _ (L.kJ y);unfold eJ;rw[L.CU y];omega
theorem Ut {l:LgD} (h:iu l):(wQ l).length=((List.range (kH (kE l)).length).filter (fun(b:Nat)=>Cr l (b:Int))).length:=by
 rw[(uP h).length_eq,zc]
namespace U
def y6 {α:Type} [Inhabited α] (l:List α) (t:Int) (i:Nat):List α:=(List.range i).map (fun(k:Nat)=>nth l (((k:Int)+t).tmod (l.length:Int)).toNat)
end U
theorem Uu {α:Type} [Inhabited α] (l:List α) (t:Int) (i:Nat):y6 l t (i+1)=y6 l t i++[nth l (((i:Int)+t).tmod (l.length:Int)).toNat]:=by
 unfold y6;rw[jN,j7];rfl
theorem FA {α:Type} [Inhabited α] (l:List α) (t:Int) (i:Nat):(y6 l t i).length=i:=by unfold y6;simp
theorem Yo {α:Type} [Inhabited α] {l:List α} {t:Int} (f:0<=t) (s:α):s∈y6 l t l.length↔s∈l:=by
 unfold y6;rw[jG];constructor;rintro⟨k,hk,rfl⟩;have hk:=jp.1 hk;have b:=Int.tmod_lt_of_pos ((k:Int)+t) (show(0:Int)<l.length by omega);have d:=Int.tmod_nonneg (l.length:Int) (show(0:Int)<=(k:Int)+t by omega);exact L.kJ (by omega);intro h;obtain⟨i,hi,rfl⟩:=L.mem_iff.1 h;have c:(0:Int)<l.length:=(by omega);have b:=Int.emod_lt_of_pos ((i:Int)-t) c;have a:=Int.emod_nonneg ((i:Int)-t) (show(l.length:Int)≠0 by omega);refine⟨(((i:Int)-t)%(l.length:Int)).toNat,jp.2 (by omega),?_⟩;have e:((((((i:Int)-t)%(l.length:Int)).toNat:Nat):Int)+t).tmod (l.length:Int)=(i:Int):=by
  rw[Int.toNat_of_nonneg a,Int.tmod_eq_emod_of_nonneg (by omega),Int.emod_add_emod,Int.sub_add_cancel];exact Int.emod_eq_of_lt (by omega) (by omega)
 rw[e,jm]
theorem Yp:Us:=by
 unfold Us Prod.q4;rintro⟨l,⟨⟩⟩ h;obtain⟨a,b,c,d,e,f⟩:Ku l:=h;refine⟨a,?_,?_,?_,?_,?_,rfl⟩;show(0+(yH l).length)*8<=_;omega;show(0+(A5 l).length)*8<=_;omega;show(0+(ci (ak l)).length)*8<=_;omega;show(0+(il (ak l)).length)*16<=_;omega;show(0+(wy l).length)*24<=_;omega
theorem Uv:wN PR 10 Ur:=wt Yp Tryz.func10 (kcC TX kcN) koN
theorem Yq {l:List Int} {k:Nat} (h:k<l.length):eJ (l.take (k+1))=eJ (l.take k)++[-nth l k]:=by
 unfold eJ;rw[L.kT h,j7];rfl
theorem jaR (l:List Int) (k:Nat):(eJ (l.take k)).length<=k:=by
 unfold eJ;rw[zc,j0];omega
theorem jdP {f:Nat->List Int} {n k:Nat} (hk:k<4) (a:∀b,b<=k->∀j,j<n->-1000000000000000000<=nth (f b) j/\nth (f b) j<=1700000000000000000) {j:Nat} (c:j<n):
 kU (nth (vX (qe f n k) (f k) j) j+nth (f k) j):=by
 have d:=Ye (A:= -1000000000000000000) (B:=1700000000000000000) k (fun b h=>a b (by omega)) j c;have g:=a k (jj _) j c;have e:nth (vX (qe f n k) (f k) j) j=nth (qe f n k) j:=by
  rw[Aq j (by rw[aL];omega),jc (by omega)]
 rw[e];exact iZ6
theorem Yr {l:LgD} (h:iu l):∀x∈wQ l,0<=QE x/\QE x<=1000000:=fun x a=>by
 have:=(jaO h a).sb
 have:=h.ta.cp
 omega
def Ys:wD:=⟨[.val tLg,.fn [tBo] [.bool]],[tBo,.int],false,fun d=>[(qG (kE d.1)).length<=100000,wo d.1=0->kV (d.2.1.pre ((d.1,[],()),()))],fun d=>(k8 d.1 (wn d.1 d.2.1.F),qI d.1 (wn d.1 d.2.1.F),())⟩
def Yt:Ann:=fun r=>match r with
 |10=>some fun σ=>{X:=Nat,sl:=fun i=>[(46,.dat .int (i:Int))],ob:=fun i=>[(25,some (.map false .int (.ptr tBl) (Cq (gb tLg σ 2) i)))],inv:=fun i=>i<=(gd (.slice .int) σ 44).length,mu:=fun i=>(gd (.slice .int) σ 44).length-i}
 |14=>some fun σ=>{X:=Nat,sl:=fun p=>[(71,.dat .int (p:Int))],ob:=fun p=>[(65,some (.box 116 false ((bx σ 65).set 21 (.own (bK 65 21) .int)))),(bK 65 21,some (.row 3 .int false .yes (qc (gb tLg σ 2) (gd .int σ 13) p)))],inv:=fun p=>p<=(kI (kD (kE (gb tLg σ 2)))).length,mu:=fun p=>(kI (kD (kE (gb tLg σ 2)))).length-p}
 |21=>some fun σ=>{X:=Nat,sl:=fun i=>[(103,.dat .int (i:Int))],ob:=fun i=>[(65,some (.box 116 false (((bx σ 65).set 24 (.dat .bool (xb (kR (gb tLg σ 2) (gd .int σ 13) i)))).set 25 (.dat .int (sE (kR (gb tLg σ 2) (gd .int σ 13) i))))))],inv:=fun i=>i<=(wy (gb tLg σ 2)).length,mu:=fun i=>(wy (gb tLg σ 2)).length-i}
 |_=>none
abbrev jh0 (d:LgD×FnD [tBo] [Ty.bool]×Unit):=d.1.2.2.2.1.q4.q4.2.1
abbrev jh1 (d:LgD×FnD [tBo] [Ty.bool]×Unit):=d.1.2.2.2.1.q4.q4.1
abbrev jh2 (d:LgD×FnD [tBo] [Ty.bool]×Unit):=d.1.2.2.2.1.q4.2.2.2.1
abbrev jh3 (d:LgD×FnD [tBo] [Ty.bool]×Unit):=d.1.2.2.2.1.q4.2.2.1
abbrev jiq (d:LgD×FnD [tBo] [Ty.bool]×Unit):=(kI (kD (kE d.1)))
abbrev jkB (d:LgD×FnD [tBo] [Ty.bool]×Unit):=(k8 d.1 (wn d.1 d.2.1.2),qI d.1 (wn d.1 d.2.1.2),())
abbrev jh4 (d:LgD×FnD [tBo] [Ty.bool]×Unit):=d.1.2.2.2.1.q4.2.1
abbrev jhc (d:LgD×FnD [tBo] [Ty.bool]×Unit):=(kB d.1.1)
abbrev jg9 (d:LgD×FnD [tBo] [Ty.bool]×Unit)(x:Nat):=(nth (jhc d) x)
abbrev jg7 (d:LgD×FnD [tBo] [Ty.bool]×Unit)(x:Nat):=(nth d.1.1.2.2.1 (jg9 d x).toNat)
abbrev jiG (d:LgD×FnD [tBo] [Ty.bool]×Unit)(x:Nat):=(nth d.1.2.2.1 (jg9 d x).toNat)
abbrev jh5 (d:LgD×FnD [tBo] [Ty.bool]×Unit):=d.1.2.2.2.1.q4.1
abbrev jhu (d:LgD×FnD [tBo] [Ty.bool]×Unit)(x:Nat)(a:Nat):=(vn ((jg7 d x).1.1,(jg7 d x).1.2.1,(jg7 d x).1.2.2.1,(jg7 d x).1.2.2.2.1,(jg7 d x).1.q4.1,(jg7 d x).1.q4.2.1,(jg7 d x).2.1,(jg7 d x).2.2.1,(jg7 d x).2.2.2.1,d.1.2.2.2.1.1,d.1.2.2.2.1.2.1,d.1.2.2.2.1.2.2.1,d.1.2.2.2.1.2.2.2.1,(jh5 d),(jh4 d),(jh3 d),(jh2 d),(jh1 d),(jh0 d),nth (jhc d) x,nth d.1.2.1 (jg9 d x).toNat,qc d.1 (jg9 d x) a,(0:Int),(0:Int),false,(0:Int),()))
abbrev jkC (d:LgD×FnD [tBo] [Ty.bool]×Unit)(x:Nat):=((jg7 d x).1.1=(jg7 d x).1.1/\(jg7 d x).1.2.1=(jg7 d x).1.2.1/\(jg7 d x).1.2.2.1=(jg7 d x).1.2.2.1/\(jg7 d x).1.2.2.2.1=(jg7 d x).1.2.2.2.1/\(jg7 d x).1.q4.1=(jg7 d x).1.q4.1/\(jg7 d x).1.q4.2.1=(jg7 d x).1.q4.2.1/\(jg7 d x).2.1=(jg7 d x).2.1/\(jg7 d x).2.2.1=(jg7 d x).2.2.1/\(jg7 d x).2.2.2.1=(jg7 d x).2.2.2.1/\d.1.2.2.2.1.1=d.1.2.2.2.1.1/\d.1.2.2.2.1.2.1=d.1.2.2.2.1.2.1/\d.1.2.2.2.1.2.2.1=d.1.2.2.2.1.2.2.1/\d.1.2.2.2.1.2.2.2.1=d.1.2.2.2.1.2.2.2.1/\(jh5 d)=(jh5 d)/\(jh4 d)=(jh4 d)/\(jh3 d)=(jh3 d)/\(jh2 d)=(jh2 d)/\(jh1 d)=(jh1 d)/\(jh0 d)=(jh0 d)/\nth (jhc d) x=nth (jhc d) x/\nth d.1.2.1 (jg9 d x).toNat=nth d.1.2.1 (jg9 d x).toNat/\True/\(0:Int)=0/\(0:Int)=0/\qF/\(0:Int)=0/\True)
abbrev jir (d:LgD×FnD [tBo] [Ty.bool]×Unit)(x:Nat)(a:Nat):=(kR d.1 (jg9 d x) a)
abbrev jjV (d:LgD×FnD [tBo] [Ty.bool]×Unit)(x:Nat)(a:Nat)(b:Nat):=(vn ((jg7 d x).1.1,(jg7 d x).1.2.1,(jg7 d x).1.2.2.1,(jg7 d x).1.2.2.2.1,(jg7 d x).1.q4.1,(jg7 d x).1.q4.2.1,(jg7 d x).2.1,(jg7 d x).2.2.1,(jg7 d x).2.2.2.1,d.1.2.2.2.1.1,d.1.2.2.2.1.2.1,d.1.2.2.2.1.2.2.1,d.1.2.2.2.1.2.2.2.1,(jh5 d),(jh4 d),(jh3 d),(jh2 d),(jh1 d),(jh0 d),nth (jhc d) x,nth d.1.2.1 (jg9 d x).toNat,qc d.1 (jg9 d x) a,ca (jhu d x a),cX (jiG d x) (jhu d x a),xb (jir d x b),sE (jir d x b),()))
def Yu:Prop:=∀(d:LgD×FnD [tBo] [Ty.bool]×Unit),(qG (kE d.1)).length<=100000->(wo d.1=0->kV (d.2.1.1 ((d.1,[],()),())))->(qG (kE d.1)).length<=100000/\(decide (wo d.1≠0)=true->((((((0:Int),[],[],()),[],[],(0:Int),(0:Int),[],()),[],[],((0:Int),(0:Int),(0:Int),(0:Int),(0:Int),(0:Int),(0:Int),(0:Int),[],[],()),[],()),[],()),wo d.1,())=(jkB d))/\(decide (wo d.1≠0)=false->asks (d.2.1.1 ((d.1,[],()),())) (((!(d.2.1.2 ((d.1,[],()),())).1)=true->((((((0:Int),[],[],()),[],[],(0:Int),(0:Int),[],()),[],[],((0:Int),(0:Int),(0:Int),(0:Int),(0:Int),(0:Int),(0:Int),(0:Int),[],[],()),[],()),[],()),(1:Int),())=(jkB d))/\((!(d.2.1.2 ((d.1,[],()),())).1)=false->(qG d.1.1).length<=100000/\(qG d.1.1).length<=100000/\((jhc d).length<4611686018427387904->(∃(x:Nat),((0=(x:Int)/\True)/\[]=Cq d.1 x/\True)/\x<=(jhc d).length)/\∀(x:Nat),x<=(jhc d).length->(decide ((x:Int)<(jhc d).length)=true->0<=(x:Int)/\(x:Int)<(jhc d).length/\0<=nth (jhc d) x/\nth (jhc d) x<(d.1.1.2.2.1.length:Int)/\0<=nth (jhc d) x/\nth (jhc d) x<(d.1.2.1.length:Int)/\(d.1.1.1.2.1.length<4611686018427387904->(∃(a:Nat),((0=(a:Int)/\True)/\(jkC d x)/\qc d.1 (jg9 d x) a=[]/\True)/\a<=(jiq d).length)/\∀(a:Nat),a<=(jiq d).length->(decide ((a:Int)<d.1.1.1.2.1.length)=true->0<=nth (jhc d) x/\nth (jhc d) x<(↑(bR d.1.1).length:Int)/\0<=(a:Int)/\(a:Int)<=64/\(decide (bI (nth (bR d.1.1) (jg9 d x).toNat/(2:Int)^a) (1:Int)=1)=true->((qc d.1 (jg9 d x) a).length+[(a:Int)].length)*8<=140737488355328/\kU ((a:Int)+1)/\∃(c:Nat),(((a:Int)+1=(c:Int)/\True)/\(jkC d x)/\qc d.1 (jg9 d x) a++[(a:Int)]=qc d.1 (jg9 d x) c/\True)/\c<=(jiq d).length/\(jiq d).length-c<(jiq d).length-a)/\(decide (bI (nth (bR d.1.1) (jg9 d x).toNat/(2:Int)^a) (1:Int)=1)=false->kU ((a:Int)+1)/\∃(c:Nat),(((a:Int)+1=(c:Int)/\True)/\qc d.1 (jg9 d x) a=qc d.1 (jg9 d x) c/\(jkC d x)/\True)/\c<=(jiq d).length/\(jiq d).length-c<(jiq d).length-a))/\(decide ((a:Int)<d.1.1.1.2.1.length)=false->0<=nth (jhc d) x/\nth (jhc d) x<(d.1.2.2.1.length:Int)/\GZ (jhu d x a)/\0<=nth d.1.2.2.1 (jg9 d x).toNat/\nth d.1.2.2.1 (jg9 d x).toNat<=300/\(d.1.q4.1.length<4611686018427387904->(∃(b:Nat),((0=(b:Int)/\True)/\((jg7 d x).1.1=(jg7 d x).1.1/\(jg7 d x).1.2.1=(jg7 d x).1.2.1/\(jg7 d x).1.2.2.1=(jg7 d x).1.2.2.1/\(jg7 d x).1.2.2.2.1=(jg7 d x).1.2.2.2.1/\(jg7 d x).1.q4.1=(jg7 d x).1.q4.1/\(jg7 d x).1.q4.2.1=(jg7 d x).1.q4.2.1/\(jg7 d x).2.1=(jg7 d x).2.1/\(jg7 d x).2.2.1=(jg7 d x).2.2.1/\(jg7 d x).2.2.2.1=(jg7 d x).2.2.2.1/\d.1.2.2.2.1.1=d.1.2.2.2.1.1/\d.1.2.2.2.1.2.1=d.1.2.2.2.1.2.1/\d.1.2.2.2.1.2.2.1=d.1.2.2.2.1.2.2.1/\d.1.2.2.2.1.2.2.2.1=d.1.2.2.2.1.2.2.2.1/\(jh5 d)=(jh5 d)/\(jh4 d)=(jh4 d)/\(jh3 d)=(jh3 d)/\(jh2 d)=(jh2 d)/\(jh1 d)=(jh1 d)/\(jh0 d)=(jh0 d)/\nth (jhc d) x=nth (jhc d) x/\nth d.1.2.1 (jg9 d x).toNat=nth d.1.2.1 (jg9 d x).toNat/\qc d.1 (jg9 d x) a=qc d.1 (jg9 d x) a/\ca (jhu d x a)=ca (jhu d x a)/\cX (jiG d x) (jhu d x a)=cX (jiG d x) (jhu d x a)/\xb (jhu d x a)=xb (jir d x b)/\sE (jhu d x a)=sE (jir d x b)/\True)/\True)/\b<=(wy d.1).length)/\∀(b:Nat),b<=(wy d.1).length->(decide ((b:Int)<d.1.q4.1.length)=true->0<=(b:Int)/\(b:Int)<d.1.q4.1.length/\(decide ((nth d.1.q4.1 b).2.1=nth (jhc d) x)=true->kU ((b:Int)+1)/\∃(c:Nat),(((b:Int)+1=(c:Int)/\True)/\((jg7 d x).1.1=(jg7 d x).1.1/\(jg7 d x).1.2.1=(jg7 d x).1.2.1/\(jg7 d x).1.2.2.1=(jg7 d x).1.2.2.1/\(jg7 d x).1.2.2.2.1=(jg7 d x).1.2.2.2.1/\(jg7 d x).1.q4.1=(jg7 d x).1.q4.1/\(jg7 d x).1.q4.2.1=(jg7 d x).1.q4.2.1/\(jg7 d x).2.1=(jg7 d x).2.1/\(jg7 d x).2.2.1=(jg7 d x).2.2.1/\(jg7 d x).2.2.2.1=(jg7 d x).2.2.2.1/\d.1.2.2.2.1.1=d.1.2.2.2.1.1/\d.1.2.2.2.1.2.1=d.1.2.2.2.1.2.1/\d.1.2.2.2.1.2.2.1=d.1.2.2.2.1.2.2.1/\d.1.2.2.2.1.2.2.2.1=d.1.2.2.2.1.2.2.2.1/\(jh5 d)=(jh5 d)/\(jh4 d)=(jh4 d)/\(jh3 d)=(jh3 d)/\(jh2 d)=(jh2 d)/\(jh1 d)=(jh1 d)/\(jh0 d)=(jh0 d)/\nth (jhc d) x=nth (jhc d) x/\nth d.1.2.1 (jg9 d x).toNat=nth d.1.2.1 (jg9 d x).toNat/\qc d.1 (jg9 d x) a=qc d.1 (jg9 d x) a/\Co (jjV d x a b)=ca (jhu d x a)/\NR (jjV d x a b)=cX (jiG d x) (jhu d x a)/\jfA (nth d.1.q4.1 b).2.2.1 (jjV d x a b)=xb (kR d.1 (jg9 d x) c)/\jfB (nth d.1.q4.1 b).2.2.1 (jjV d x a b)=sE (kR d.1 (jg9 d x) c)/\True)/\True)/\c<=(wy d.1).length/\(wy d.1).length-c<(wy d.1).length-b)/\(decide ((nth d.1.q4.1 b).2.1=nth (jhc d) x)=false->kU ((b:Int)+1)/\∃(c:Nat),(((b:Int)+1=(c:Int)/\True)/\((jg7 d x).1.1=(jg7 d x).1.1/\(jg7 d x).1.2.1=(jg7 d x).1.2.1/\(jg7 d x).1.2.2.1=(jg7 d x).1.2.2.1/\(jg7 d x).1.2.2.2.1=(jg7 d x).1.2.2.2.1/\(jg7 d x).1.q4.1=(jg7 d x).1.q4.1/\(jg7 d x).1.q4.2.1=(jg7 d x).1.q4.2.1/\(jg7 d x).2.1=(jg7 d x).2.1/\(jg7 d x).2.2.1=(jg7 d x).2.2.1/\(jg7 d x).2.2.2.1=(jg7 d x).2.2.2.1/\d.1.2.2.2.1.1=d.1.2.2.2.1.1/\d.1.2.2.2.1.2.1=d.1.2.2.2.1.2.1/\d.1.2.2.2.1.2.2.1=d.1.2.2.2.1.2.2.1/\d.1.2.2.2.1.2.2.2.1=d.1.2.2.2.1.2.2.2.1/\(jh5 d)=(jh5 d)/\(jh4 d)=(jh4 d)/\(jh3 d)=(jh3 d)/\(jh2 d)=(jh2 d)/\(jh1 d)=(jh1 d)/\(jh0 d)=(jh0 d)/\nth (jhc d) x=nth (jhc d) x/\nth d.1.2.1 (jg9 d x).toNat=nth d.1.2.1 (jg9 d x).toNat/\qc d.1 (jg9 d x) a=qc d.1 (jg9 d x) a/\ca (jhu d x a)=ca (jhu d x a)/\cX (jiG d x) (jhu d x a)=cX (jiG d x) (jhu d x a)/\xb (jir d x b)=xb (kR d.1 (jg9 d x) c)/\sE (jir d x b)=sE (kR d.1 (jg9 d x) c)/\True)/\True)/\c<=(wy d.1).length/\(wy d.1).length-c<(wy d.1).length-b))/\(decide ((b:Int)<d.1.q4.1.length)=false->kU ((x:Int)+1)/\∃(c:Nat),(((x:Int)+1=(c:Int)/\True)/\iv Ty.int (jg9 d x) (some (nth d.1.1.2.2.1 (jg9 d x).toNat,d.1.2.2.2.1,nth (jhc d) x,nth d.1.2.1 (jg9 d x).toNat,qc d.1 (jg9 d x) a,ca (jhu d x a),cX (jiG d x) (jhu d x a),xb (jir d x b),sE (jir d x b),())) (Cq d.1 x)=Cq d.1 c/\True)/\c<=(jhc d).length/\(jhc d).length-c<(jhc d).length-x)))))/\(decide ((x:Int)<(jhc d).length)=false->((d.1,Cq d.1 x,()),(0:Int),())=(jkB d))))))
def jef (l:LgD) (n:Int) (k:Nat):BlD:=
 (nth (kH (kE l)) n.toNat,ak l,n,nth (yH l) n.toNat,qc l n (kI (kD (kE l))).length,
  ca (uZ l n (qc l n (kI (kD (kE l))).length)),cX (nth (A5 l) n.toNat) (uZ l n (qc l n (kI (kD (kE l))).length)),xb (kR l n k),sE (kR l n k),())
theorem Qs (l:LgD) (n:Int) {k:Nat} (hk:k<=(wy l).length):jef l n k=kR l n k:=by
 obtain⟨c1,c2,a,b,c,d,f⟩:=qX l n k hk;have e:kR l n k=(gq (kR l n k),gQ (kR l n k),UV (kR l n k),UK (kR l n k),qz (kR l n k),Co (kR l n k),NR (kR l n k),xb (kR l n k),sE (kR l n k),()):=rfl;rw[c1,c2,a,b,c,d,f] at e;exact e.symm
theorem Yv (l:LgD) (n:Int) (k:Nat):qc l n (k+1)=qc l n k++(if wH (nth (bR (kE l)) n.toNat) (k:Int)=true then[(k:Int)] else[]):=by
 unfold qc wX;rw[jN,kg,j7];congr 1;by_cases h:wH (nth (bR (kE l)) n.toNat) (k:Int)=true;rw[jd h];simp only[List.filter,h,List.map];rw[jc h];rw[kw] at h;simp only[List.filter,h,List.map]
theorem jaS {l:LgD} (h:iu l):(bR (kE l)).length=(kH (kE l)).length:=by
 unfold bR;rw[jd h.cp];unfold ag;rw[zc,zt]
theorem jaT:Yu:=by
 unfold Yu jjV jir jkC jhu jh5 jiG jg7 jg9 jhc jh4 jkB jiq jh3 jh2 jh1 jh0 Prod.q4;rintro⟨l,told,⟨⟩⟩ w K;have w:(qG (kE l)).length<=100000:=w;refine⟨w,fun h=> ?_,fun h=> ?_⟩;have h:wo l≠0:=ja h;have e:∀t,qI l t=wo l:=fun t=>jd h
 have e2:∀t,k8 l t=jgy:=fun t=>jc (by rw[e];exact h)
 show(jgy,wo l,())=(k8 l (wn l told.2),qI l (wn l told.2),());rw[e,e2];have h:wo l=0:=jZ.1 (je h);have g:=gZ h;refine vo _ (K h) ⟨fun o=> ?_,fun o=>⟨w,w,fun H=>⟨⟨0,⟨⟨rfl,tZ⟩,rfl,tZ⟩,jt _⟩,fun x I=>⟨fun q=> ?_,fun q=> ?_⟩⟩⟩⟩;have o:wn l told.2=false:=(by simpa using(show(!wn l told.2)=true from o));show(jgy,(1:Int),())=(k8 l (wn l told.2),qI l (wn l told.2),());have e:qI l (wn l told.2)=1:=by
  unfold qI;rw[jc (fun z=>z h),o];rfl
 have e2:k8 l (wn l told.2)=jgy:=jc (by rw[e];decide);rw[e,e2];have q:(x:Int)<(kB (kE l)).length:=ja q;have f:x<(kB (kE l)).length:=(by omega);obtain⟨n,en⟩:∃n,n=nth (kB (kE l)) x:=⟨_,rfl⟩;have c:0<=n/\n<((kH (kE l)).length:Int):=(by rw[en];exact JM (L.kJ f));have M:(kB (kE l)).length<=4:=RX g;have C:n<((yH l).length:Int):=(by rw[g.py.1];exact c.2);have F:n<((A5 l).length:Int):=(by rw[g.tr.1];exact c.2);have E:n<((bR (kE l)).length:Int):=(by rw[jaS g];exact c.2);have O:=jfa g;have u:=uA (nth (bR (kE l)) n.toNat);have G:=g.tr.2 _ (L.kJ (show n.toNat<(A5 l).length by omega));have D:Cq l (x+1)=iv .int n (some (wi l n)) (Cq l x):=(by rw[MU f,<-en];rfl);have N:=g.cl;have step:∀k,k<(wy l).length->kR l n (k+1)=u5 n (jef l n k) (nth (wy l) k):=fun k hk=>by rw[dO hk,Qs l n (by omega)]
 subst en;refine⟨by omega,q,c.1,c.2,c.1,C,fun P=>⟨⟨0,⟨⟨rfl,tZ⟩,(by repeat' (first|exact trivial|exact rfl|apply And.intro)),rfl,tZ⟩,jt _⟩,fun p v=>⟨fun b=> ?_,fun b=> ?_⟩⟩⟩;have b:(p:Int)<(kI (kD (kE l))).length:=ja b;have d:=Yv l (nth (kB (kE l)) x) p;have s:=(u p).1;have s:(qc l (nth (kB (kE l)) x) p).length<=p:=s;have up:p+1<=(kI (kD (kE l))).length:=(by omega);have r:(kI (kD (kE l))).length-(p+1)<(kI (kD (kE l))).length-p:=(by omega);refine⟨c.1,E,by omega,by omega,fun j=> ?_,fun j=> ?_⟩;have j:wH (nth (bR (kE l)) (nth (kB (kE l)) x).toNat) (p:Int)=true:=j;rw[jd j] at d;exact⟨by show((qc l (nth (kB (kE l)) x) p).length+1)*8<=140737488355328;omega,iZ6,p+1,⟨⟨by simp,tZ⟩,(by repeat' (first|exact trivial|exact rfl|apply And.intro)),d.symm,tZ⟩,up,r⟩;have j:wH (nth (bR (kE l)) (nth (kB (kE l)) x).toNat) (p:Int)=false:=j;rw[jc (by rw[j];decide),jY] at d;exact⟨iZ6,p+1,⟨⟨by simp,tZ⟩,d.symm,(by repeat' (first|exact trivial|exact rfl|apply And.intro)),tZ⟩,up,r⟩;have b:¬(p:Int)<(kI (kD (kE l))).length:=je b;have v:p<=(kI (kD (kE l))).length:=v;have B:p=(kI (kD (kE l))).length:=(by omega);subst B;have J:Fc (uZ l (nth (kB (kE l)) x) (qc l (nth (kB (kE l)) x) (kI (kD (kE l))).length)):=RV g c (by have:=(u (kI (kD (kE l))).length).1;unfold qc;omega);refine⟨c.1,F,uw.2 J,G.1,G.2,fun Q=>⟨⟨0,⟨⟨rfl,tZ⟩,(by repeat' (first|exact trivial|exact rfl|apply And.intro)),tZ⟩,jt _⟩,fun k hk=>⟨fun a=> ?_,fun a=> ?_⟩⟩⟩;have a:(k:Int)<(wy l).length:=ja a;have i:=step k (by omega);have up:k+1<=(wy l).length:=(by omega);have r:(wy l).length-(k+1)<(wy l).length-k:=(by omega);refine⟨by omega,a,fun m=> ?_,fun m=> ?_⟩;have m:jfz (nth (wy l) k)=(nth (kB (kE l)) x):=ja m;have e:kR l (nth (kB (kE l)) x) (k+1)=gP (YZ (nth (wy l) k)) (jef l (nth (kB (kE l)) x) k):=(by rw[i];exact jd m);have y:xb (gP (YZ (nth (wy l) k)) (jef l (nth (kB (kE l)) x) k))=xb (kR l (nth (kB (kE l)) x) (k+1)):=(by rw[e]);have e2:sE (gP (YZ (nth (wy l) k)) (jef l (nth (kB (kE l)) x) k))=sE (kR l (nth (kB (kE l)) x) (k+1)):=(by rw[e]);exact⟨iZ6,k+1,⟨⟨by simp,tZ⟩,(by repeat' (first|exact trivial|exact y|exact e2|exact rfl|apply And.intro)),tZ⟩,up,r⟩;have m:¬jfz (nth (wy l) k)=(nth (kB (kE l)) x):=je m;have e:kR l (nth (kB (kE l)) x) (k+1)=kR l (nth (kB (kE l)) x) k:=(by rw[i,Qs l (nth (kB (kE l)) x) (by omega)];exact jc m);have y:xb (kR l (nth (kB (kE l)) x) k)=xb (kR l (nth (kB (kE l)) x) (k+1)):=(by rw[e]);have e2:sE (kR l (nth (kB (kE l)) x) k)=sE (kR l (nth (kB (kE l)) x) (k+1)):=(by rw[e]);exact⟨iZ6,k+1,⟨⟨by simp,tZ⟩,(by repeat' (first|exact trivial|exact y|exact e2|exact rfl|apply And.intro)),tZ⟩,up,r⟩;have a:¬(k:Int)<(wy l).length:=je a;have hk:k<=(wy l).length:=hk;have A:k=(wy l).length:=(by omega);subst A;have e:iv .int (nth (kB (kE l)) x) (some (jef l (nth (kB (kE l)) x) (wy l).length)) (Cq l x)=Cq l (x+1):=by
  rw[D,Qs l (nth (kB (kE l)) x) (jj _)];rfl
 exact⟨iZ6,x+1,⟨⟨by simp,tZ⟩,e,tZ⟩,by show x+1<=(kB (kE l)).length;omega,by show(kB (kE l)).length-(x+1)<(kB (kE l)).length-x;omega⟩;have q:¬(x:Int)<(kB (kE l)).length:=je q;have I:x<=(kB (kE l)).length:=I;have f:x=(kB (kE l)).length:=(by omega);subst f;have o:wn l told.2=true:=(by simpa using(show(!wn l told.2)=false from o));show((l,QF l,()),(0:Int),())=(k8 l (wn l told.2),qI l (wn l told.2),());have e:qI l (wn l told.2)=0:=by
  unfold qI;rw[jc (fun z=>z h),jd o]
 have e2:k8 l (wn l told.2)=(l,QF l,()):=jd e;rw[e,e2]
theorem uQ:wN PR 24 Ys:=vZ Yt jaT Tryz.func24 (kcC Ui (kcC Tx (kcC Pz kcN))) (koC BZ (koC GF koN))
def Uw:wD:=⟨[.val tLg],[.slice tLn,.int],false,fun d=>[(qG (kE d.1)).length<=100000],fun d=>(qS d.1,wo d.1,())⟩
abbrev jjx (d:LgD×Unit):=(wn d.1 fun(a:BoD×Unit)=>(true,()))
def Ux:Prop:=∀(d:LgD×Unit),(qG (kE d.1)).length<=100000->(qG (kE d.1)).length<=100000/\(wo d.1=0->kV [])/\(decide (qI d.1 (jjx d)≠0)=true->([],qI d.1 (jjx d),())=(qS d.1,wo d.1,()))/\(decide (qI d.1 (jjx d)≠0)=false->G0 (k8 d.1 (jjx d))/\(kO (k8 d.1 (jjx d)),(0:Int),())=(qS d.1,wo d.1,()))
def Qt:wD:=⟨[.val tLg],[.slice .int,.int],false,fun d=>[(qG (kE d.1)).length<=100000],fun d=>(Ay d.1,wo d.1,())⟩
abbrev jjy (d:LgD×Unit):=(wn d.1 fun(a:BoD×Unit)=>(true,()))
def Qu:Prop:=∀(d:LgD×Unit),(qG (kE d.1)).length<=100000->(qG (kE d.1)).length<=100000/\(wo d.1=0->kV [])/\(decide (qI d.1 (jjy d)≠0)=true->([],qI d.1 (jjy d),())=(Ay d.1,wo d.1,()))/\(decide (qI d.1 (jjy d)≠0)=false->NG (k8 d.1 (jjy d))/\(vE (k8 d.1 (jjy d)),(0:Int),())=(Ay d.1,wo d.1,()))
def Uy:wD:=⟨[.val tBo,.ref .int],[.bool],false,fun d=>[(kH (kE (cW d.1))).length<=100],fun d=>(Kr d.1 d.2.1,())⟩
def Uz:Prop:=∀(d:BoD×Int×Unit),(kH (kE (cW d.1))).length<=100->(kH (kE (cW d.1))).length<=100/\(Kr d.1 d.2.1,())=(Kr d.1 d.2.1,())
def jaU:wD:=⟨[.val tLg,.val .int],[.slice .int,.int],false,fun d=>[(qG (kE d.1)).length<=100000],fun d=>(qk d.1 d.2.1,qI d.1 (n4 d.1 d.2.1),())⟩
abbrev jjz (d:LgD×Int×Unit):=(wn d.1 fun(a:BoD×Unit)=>(Kr a.1 d.2.1,()))
def jaV:Prop:=∀(d:LgD×Int×Unit),(qG (kE d.1)).length<=100000->(qG (kE d.1)).length<=100000/\(wo d.1=0->kV [(kH (kE (cW (d.1,[],())))).length<=100])/\(decide (qI d.1 (jjz d)≠0)=true->([],qI d.1 (jjz d),())=(qk d.1 d.2.1,qI d.1 (n4 d.1 d.2.1),()))/\(decide (qI d.1 (jjz d)≠0)=false->NH (k8 d.1 (jjz d))/\(vW (k8 d.1 (jjz d)) d.2.1,(0:Int),())=(qk d.1 d.2.1,qI d.1 (n4 d.1 d.2.1),()))
theorem Yw:Uz:=fun _ h=>⟨h,rfl⟩
theorem UA:wN PR 29 Uy:=wt Yw Tryz.func29 (kcC uD kcN) koN
theorem jg0 {l:LgD} (h:iu l):(kH (kE l)).length<=4:=by
 have a:=h.dy;unfold wZ at a;rw[ji] at a;exact(ja a.1).1
theorem oJ (l:LgD):qI l true=wo l:=by
 unfold qI;by_cases h:wo l=0;rw[jc (fun a=>a h),jd rfl,h];rw[jd h]
theorem Kb {l:LgD} {t:Bool} (h:qI l t=0):k8 l t=U.bo l/\iu l/\t=true:=by
 have e:k8 l t=U.bo l:=(by unfold k8;rw[jd h];rfl);unfold qI at h
 split at h
 rename_i a;exact absurd h a;rename_i a
 split at h
 rename_i b;exact⟨e,gZ (jZ.1 a),b⟩;cases h
theorem Yx:Ux:=by
 unfold Ux jjx;rintro⟨l,⟨⟩⟩ c;refine⟨c,fun _=>tZ,fun h=> ?_,fun h=> ?_⟩;have h:qI l true≠0:=ja h;show(([]:List LnD),qI l true,())=(qS l,wo l,());rw[oJ] at h⊢;unfold qS;rw[jc h];have h:qI l true=0:=jZ.1 (je h);obtain⟨a,b,_⟩:=Kb h;rw[oJ] at h;refine⟨?_,?_⟩;show G0 (k8 l true);rw[a];exact X9 b;show(kO (k8 l true),(0:Int),())=(qS l,wo l,());rw[a,h];unfold qS;rw[jd h]
theorem UB:wN PR 11 Uw:=wt Yx Tryz.func11 (kcC uQ (kcC sk (kcC bN kcN))) koN
theorem UC:Qu:=by
 unfold Qu jjy;rintro⟨l,⟨⟩⟩ c;refine⟨c,fun _=>tZ,fun h=> ?_,fun h=> ?_⟩;have h:qI l true≠0:=ja h;show(([]:List Int),qI l true,())=(Ay l,wo l,());rw[oJ] at h⊢;unfold Ay;rw[jc h];have h:qI l true=0:=jZ.1 (je h);obtain⟨a,b,_⟩:=Kb h;rw[oJ] at h;refine⟨?_,?_⟩;show NG (k8 l true);rw[a];exact jfc b;show(vE (k8 l true),(0:Int),())=(Ay l,wo l,());rw[a,h];unfold Ay;rw[jd h]
theorem Qv:wN PR 18 Qt:=wt UC Tryz.func18 (kcC uQ (kcC sk (kcC fY kcN))) koN
theorem jdQ:jaV:=by
 unfold jaV jjz;rintro⟨l,n,⟨⟩⟩ d;refine⟨d,fun b=> ?_,fun h=> ?_,fun h=> ?_⟩;have:(kH (kE l)).length<=4:=jg0 (gZ b);exact⟨by show(kH (kE l)).length<=100;omega,tZ⟩;have h:qI l (n4 l n)≠0:=ja h;show(([]:List Int),qI l (n4 l n),())=(qk l n,qI l (n4 l n),());unfold qk;rw[jc h];have h:qI l (n4 l n)=0:=jZ.1 (je h);obtain⟨a,c,_⟩:=Kb h;refine⟨?_,?_⟩;show NH (k8 l (n4 l n));rw[a];exact jaI c;show(vW (k8 l (n4 l n)) n,(0:Int),())=(qk l n,qI l (n4 l n),());rw[a,h];unfold qk;rw[jd h]
theorem jaW:wN PR 13 jaU:=wt jdQ Tryz.func13 (kcC uQ (kcC UA (kcC pF kcN))) koN
def Kc:wD:=⟨[.val tLg],[.slice .int,.slice .int,.int,.int],false,fun d=>[(qG (kE d.1)).length<=100000],fun d=>(qA d.1,vY d.1,bH d.1,wo d.1,())⟩
end Go.X
namespace Go.X
open U
open Go.Proofs
def Kd:Ann:=fun r=>match r with
 |6=>some fun σ=>{X:=Nat,sl:=fun k=>[(32,.dat .int (k:Int))],ob:=fun k=>[(2,some (.row 3 .int false .no (qe (gw (gb tLg σ 1)) (wY (gb tLg σ 1)) k)))],inv:=fun k=>k<=(kH (kE (gb tLg σ 1))).length,mu:=fun k=>(kH (kE (gb tLg σ 1))).length-k}
 |9=>some fun σ=>{X:=Nat,sl:=fun k=>[(39,.dat .int (k:Int))],ob:=fun k=>[(2,some (.row 3 .int false .no (vX (gr .int σ 2) (gd (.slice .int) σ 37) k)))],inv:=fun k=>k<=(gd (.slice .int) σ 37).length,mu:=fun k=>(gd (.slice .int) σ 37).length-k}
 |15=>some fun σ=>{X:=Nat,sl:=fun k=>[(56,.dat .int (k:Int)),(3,.own 3 .int)],ob:=fun k=>[(3,some (.row 3 .int false .yes (eJ ((gd (.slice .int) σ 54).take k))))],inv:=fun k=>k<=(gd (.slice .int) σ 54).length,mu:=fun k=>(gd (.slice .int) σ 54).length-k}
 |20=>some fun σ=>{X:=Nat,sl:=fun k=>[(69,.dat .int (k:Int)),(4,.dat .int (cY (gd (.slice tLn) σ 67) k))],ob:=fun _=>[],inv:=fun k=>k<=(gd (.slice tLn) σ 67).length,mu:=fun k=>(gd (.slice tLn) σ 67).length-k}
 |_=>none
abbrev jjW (d:LgD×Unit):=(wn d.1 fun(a:BoD×Unit)=>(true,()))
abbrev ji2 (d:LgD×Unit):=(k8 d.1 (jjW d))
abbrev jhF (d:LgD×Unit)(x:Nat):=(vW (ji2 d) (x:Int))
abbrev jhA (d:LgD×Unit):=(kO (ji2 d))
abbrev jhv (d:LgD×Unit):=(vE (ji2 d))
abbrev jjX (d:LgD×Unit)(x:Nat):=(qe (gw d.1) (wY d.1) x)
abbrev jjA (d:LgD×Unit)(x:Nat)(a:Nat):=(vX (jjX d x) (jhF d x) a)
abbrev jjB (d:LgD×Unit):=(d.1.1.1.2.1.length:Int)
def Ke:Prop:=∀(d:LgD×Unit),(qG (kE d.1)).length<=100000->(qG (kE d.1)).length<=100000/\(wo d.1=0->kV [])/\(decide (qI d.1 (jjW d)≠0)=true->([],[],(0:Int),qI d.1 (jjW d),())=(qA d.1,vY d.1,bH d.1,wo d.1,()))/\(decide (qI d.1 (jjW d)≠0)=false->d.1.1.1.2.1.length<4611686018427387904->0<=(jjB d)/\(jjB d)=(jjB d)/\(jjB d).toNat*8<=140737488355328/\(d.1.1.2.2.1.length<4611686018427387904->(∃(x:Nat),((0=(x:Int)/\True)/\List.replicate (jjB d).toNat 0=qe (gw d.1) (wY d.1) x/\True)/\x<=(kH (kE d.1)).length)/\∀(x:Nat),x<=(kH (kE d.1)).length->(decide ((x:Int)<d.1.1.2.2.1.length)=true->NH (ji2 d)/\((jhF d x).length<4611686018427387904->(∃(a:Nat),((0=(a:Int)/\True)/\qe (gw d.1) (wY d.1) x=vX (jjX d x) (jhF d x) a/\True)/\a<=(jhF d x).length)/\∀(a:Nat),a<=(jhF d x).length->(decide ((a:Int)<(jhF d x).length)=true->0<=(a:Int)/\(a:Int)<(jhF d x).length/\0<=(a:Int)/\(a:Int)<(jjA d x a).length/\kU (nth (jjA d x a) a+nth (jhF d x) a)/\0<=(a:Int)/\(a:Int)<(jjA d x a).length/\kU ((a:Int)+1)/\∃(c:Nat),(((a:Int)+1=(c:Int)/\True)/\(jjA d x a).set a (nth (jjA d x a) a+nth (jhF d x) a)=vX (jjX d x) (jhF d x) c/\True)/\c<=(jhF d x).length/\(jhF d x).length-c<(jhF d x).length-a)/\(decide ((a:Int)<(jhF d x).length)=false->kU ((x:Int)+1)/\∃(c:Nat),(((x:Int)+1=(c:Int)/\True)/\vX (jjX d x) (jhF d x) a=qe (gw d.1) (wY d.1) c/\True)/\c<=(kH (kE d.1)).length/\(kH (kE d.1)).length-c<(kH (kE d.1)).length-x)))/\(decide ((x:Int)<d.1.1.2.2.1.length)=false->NG (ji2 d)/\((jhv d).length<4611686018427387904->(∃(x:Nat),((0=(x:Int)/\True/\True)/\eJ (List.take x (jhv d))=[]/\True)/\x<=(jhv d).length)/\∀(a:Nat),a<=(jhv d).length->(decide ((a:Int)<(jhv d).length)=true->0<=(a:Int)/\(a:Int)<(jhv d).length/\kU (-nth (jhv d) a)/\((eJ (List.take a (jhv d))).length+[-nth (jhv d) a].length)*8<=140737488355328/\kU ((a:Int)+1)/\∃(c:Nat),(((a:Int)+1=(c:Int)/\True/\True)/\eJ (List.take a (jhv d))++[-nth (jhv d) a]=eJ (List.take c (jhv d))/\True)/\c<=(jhv d).length/\(jhv d).length-c<(jhv d).length-a)/\(decide ((a:Int)<(jhv d).length)=false->G0 (ji2 d)/\((jhA d).length<4611686018427387904->(∃(x:Nat),((0=(x:Int)/\0=cY (jhA d) x/\True)/\True)/\x<=(jhA d).length)/\∀(b:Nat),b<=(jhA d).length->(decide ((b:Int)<(jhA d).length)=true->0<=(b:Int)/\(b:Int)<(jhA d).length/\kU (cY (jhA d) b-(nth (jhA d) b).q4.1)/\kU ((b:Int)+1)/\∃(c:Nat),(((b:Int)+1=(c:Int)/\cY (jhA d) b-(nth (jhA d) b).q4.1=cY (jhA d) c/\True)/\True)/\c<=(jhA d).length/\(jhA d).length-c<(jhA d).length-b)/\(decide ((b:Int)<(jhA d).length)=false->(qe (gw d.1) (wY d.1) x,eJ (List.take a (jhv d)),cY (jhA d) b,(0:Int),())=(qA d.1,vY d.1,bH d.1,wo d.1,()))))))))
theorem Nk:Ke:=by
 unfold Ke jjB jjA jjX jhv jhA jhF ji2 jjW Prod.q4;rintro⟨l,⟨⟩⟩ D;refine⟨D,fun _=>tZ,fun h=> ?_,fun h=> ?_⟩;have h:qI l true≠0:=ja h;show(([]:List Int),([]:List Int),(0:Int),qI l true,())=(qA l,vY l,bH l,wo l,());rw[oJ] at h⊢;unfold qA vY bH;rw[jc h,jc h,jc h];have h:qI l true=0:=jZ.1 (je h);obtain⟨i,d,_⟩:=Kb h;rw[oJ] at h;have M:=jfh d;have T:wY l<=8:=jfa d;have B:NH (k8 l true):=(by rw[i];exact jaI d);have q:NG (k8 l true):=(by rw[i];exact jfc d);have A:G0 (k8 l true):=(by rw[i];exact X9 d);have g:∀b:Nat,vW (k8 l true) (b:Int)=gw l b:=fun b=>by rw[i];rfl
 have m:∀b:Nat,(vW (k8 l true) (b:Int)).length=wY l:=fun b=>by rw[i];exact J1 _ _
 have s:∀b:Nat,∀j,j<wY l->-1000000000000000000<=nth (gw l b) j/\nth (gw l b) j<=1700000000000000000:=fun b j C=>jbQ (jaI d) (n:=(b:Int)) j C
 obtain⟨Y,Q⟩:=jdG q;have eL:kO (k8 l true)=wQ l:=(by rw[i];exact bC d);have N:(kO (k8 l true)).length<=4:=(by rw[eL];have:=R3 d;omega);have t:=Yf (Yr d);rw[<-eL] at t;have E:∀x∈kO (k8 l true),0<=QE x/\QE x<=1000000:=(by rw[eL];exact Yr d);refine fun P=>⟨jQ _,rfl,by show(((wY l:Nat):Int)).toNat*8<=_;omega,fun _=>⟨⟨0,⟨⟨rfl,tZ⟩,rfl,tZ⟩,jt _⟩,fun x G=>⟨fun p=> ?_,fun p=> ?_⟩⟩⟩
 have p:(x:Int)<(kH (kE l)).length:=ja p;have v:x<(kH (kE l)).length:=(by omega);have K:(qe (gw l) (wY l) x).length=wY l:=aL _ _ _;have u:=lx (gw l) (wY l) x;have W:=m x;refine⟨B,fun _=>⟨⟨0,⟨⟨rfl,tZ⟩,rfl,tZ⟩,jt _⟩,fun y w=>⟨fun c=> ?_,fun c=> ?_⟩⟩⟩;have c:(y:Int)<(vW (k8 l true) (x:Int)).length:=ja c;have a:y<wY l:=(by omega);have V:(vX (qe (gw l) (wY l) x) (vW (k8 l true) (x:Int)) y).length=wY l:=(by rw[fZ,K]);have r:(y:Int)<(vX (qe (gw l) (wY l) x) (vW (k8 l true) (x:Int)) y).length:=(by omega);have I:=jdP (f:=gw l) (k:=x) (n:=wY l) (by omega) (fun b _ j C=>s b j C) a;rw[<-g] at I;have D:=lw (qe (gw l) (wY l) x) (vW (k8 l true) (x:Int)) y;exact⟨by omega,c,by omega,r,I,by omega,r,iZ6,y+1,⟨⟨by simp,tZ⟩,D.symm,tZ⟩,by show y+1<=(vW (k8 l true) (x:Int)).length;omega,by show(vW (k8 l true) (x:Int)).length-(y+1)<(vW (k8 l true) (x:Int)).length-y;omega⟩;have c:¬(y:Int)<(vW (k8 l true) (x:Int)).length:=je c;have w:y<=(vW (k8 l true) (x:Int)).length:=w;have a:y=wY l:=(by omega);subst a;rw[<-g] at u;exact⟨iZ6,x+1,⟨⟨by simp,tZ⟩,u.symm,tZ⟩,by show x+1<=(kH (kE l)).length;omega,by show(kH (kE l)).length-(x+1)<(kH (kE l)).length-x;omega⟩;have p:¬(x:Int)<(kH (kE l)).length:=je p;have G:x<=(kH (kE l)).length:=G;have v:x=(kH (kE l)).length:=(by omega);subst v;refine⟨q,fun _=>⟨⟨0,⟨⟨rfl,tZ,tZ⟩,rfl,tZ⟩,jt _⟩,fun y w=>⟨fun c=> ?_,fun c=> ?_⟩⟩⟩;have c:(y:Int)<(vE (k8 l true)).length:=ja c;have a:y<(vE (k8 l true)).length:=(by omega);have X:=Q _ (L.kJ a);have O:=Yq a;have F:=jaR (vE (k8 l true)) y;refine⟨by omega,c,?_,?_,iZ6,y+1,⟨⟨by simp,tZ,tZ⟩,O.symm,tZ⟩,by show y+1<=(vE (k8 l true)).length;omega,by show(vE (k8 l true)).length-(y+1)<(vE (k8 l true)).length-y;omega⟩;show kU (-nth (vE (k8 l true)) y);exact iZ6;show((eJ ((vE (k8 l true)).take y)).length+1)*8<=_;omega;have c:¬(y:Int)<(vE (k8 l true)).length:=je c;have w:y<=(vE (k8 l true)).length:=w;have a:y=(vE (k8 l true)).length:=(by omega);subst a;refine⟨A,fun _=>⟨⟨0,⟨⟨rfl,rfl,tZ⟩,tZ⟩,jt _⟩,fun z H=>⟨fun o=> ?_,fun o=> ?_⟩⟩⟩;have o:(z:Int)<(kO (k8 l true)).length:=ja o;have e:z<(kO (k8 l true)).length:=(by omega);have R:=t z (by omega);have S:=E _ (L.kJ e);have J:=Ar e;refine⟨by omega,o,?_,iZ6,z+1,⟨⟨by simp,J.symm,tZ⟩,tZ⟩,by show z+1<=(kO (k8 l true)).length;omega,by show(kO (k8 l true)).length-(z+1)<(kO (k8 l true)).length-z;omega⟩;show kU (cY (kO (k8 l true)) z-QE (nth (kO (k8 l true)) z));exact iZ6;have o:¬(z:Int)<(kO (k8 l true)).length:=je o;have H:z<=(kO (k8 l true)).length:=H;have e:z=(kO (k8 l true)).length:=(by omega);subst e;show(qe (gw l) (wY l) (kH (kE l)).length,eJ ((vE (k8 l true)).take (vE (k8 l true)).length),cY (kO (k8 l true)) (kO (k8 l true)).length,(0:Int),())=(qA l,vY l,bH l,wo l,());unfold qA vY bH;rw[jd h,jd h,jd h,h,zm,i]
theorem Kf:wN PR 12 Kc:=vZ Kd Nk Tryz.func12 (kcC uQ (kcC sk (kcC pF (kcC fY (kcC bN kcN))))) koN
namespace U
def FO (l:LgD):Bool:=((((Kp (kE l)||decide (20<((yH l).length:Int)))||decide (20<((A5 l).length:Int)))||decide (20<((ci (ak l)).length:Int)))||decide (20<((il (ak l)).length:Int)))||decide (30<((wy l).length:Int))
def exT:TaD:=(30,100,2,1200,90,50,2,150,[0,10,25,50],[(1000,0,()),(60,50,())],())
def NS:LgD:=(CS,[0,1,0],[30,0,45],exT,[(1,1,80,()),(2,1,120,())],())
end U
def Yy:wD:=⟨[.val tLg],[.bool],false,fun _=>[],fun d=>(FO d.1,())⟩
abbrev jln (d:LgD×Unit):=(20<(d.1.2.2.2.1.q4.q4.1.length:Int))
abbrev jjY (d:LgD×Unit):=(20<(d.1.2.1.length:Int))
abbrev jkD (d:LgD×Unit):=(20<(d.1.2.2.1.length:Int))
def Yz:Prop:=∀(d:LgD×Unit),((!Kp d.1.1)=true->d.1.2.1.length<4611686018427387904)->((!(Kp d.1.1||decide (jjY d)))=true->d.1.2.2.1.length<4611686018427387904)->((!(Kp d.1.1||decide (jjY d)||decide (jkD d)))=true->d.1.2.2.2.1.q4.q4.1.length<4611686018427387904)->((!(Kp d.1.1||decide (jjY d)||decide (jkD d)||decide (jln d)))=true->d.1.2.2.2.1.q4.q4.2.1.length<4611686018427387904)->((!(Kp d.1.1||decide (jjY d)||decide (jkD d)||decide (jln d)||decide (20<(d.1.2.2.2.1.q4.q4.2.1.length:Int))))=true->d.1.q4.1.length<4611686018427387904)->(Kp d.1.1||decide (jjY d)||decide (jkD d)||decide (jln d)||decide (20<(d.1.2.2.2.1.q4.q4.2.1.length:Int))||decide (30<(d.1.q4.1.length:Int)),())=(FO d.1,())
def Kg:wD:=⟨[],[tLg],false,fun _=>[],fun _=>(NS,())⟩
def Kh:Prop:=∀(_:Unit),((CS,[(0:Int),(1:Int),(0:Int)],[(30:Int),(0:Int),(45:Int)],((30:Int),(100:Int),(2:Int),(1200:Int),(90:Int),(50:Int),(2:Int),(150:Int),[(0:Int),(10:Int),(25:Int),(50:Int)],[((1000:Int),(0:Int),()),((60:Int),(50:Int),())],()),[((1:Int),(1:Int),(80:Int),()),((2:Int),(1:Int),(120:Int),())],()),())=(NS,())
theorem jdR (l:LgD):qS l=jfD l:=by
 unfold qS jfD
 split
 rename_i h;exact bC (gZ h);rfl
theorem jdS (l:LgD) (n:Int):qk l n=jfE l n:=by
 unfold qk jfE
 split
 rename_i h;obtain⟨a,b⟩:=Yh h;exact Yd a (R2.1 b);rfl
theorem jaX:Yz:=fun _ _ _ _ _ _=>rfl
theorem YA:wN PR 4 Yy:=wt jaX Tryz.func4 (kcC XE kcN) koN
theorem H7 {l:LgD} (h:FO l=false):Ku l:=by
 unfold FO at h;simp only[jS,jI] at h;obtain⟨⟨⟨⟨⟨a,b⟩,c⟩,d⟩,e⟩,f⟩:=h;exact⟨jam a,by omega,by omega,by omega,by omega,by omega⟩
theorem FB {l:LgD} (h:FO l=false):(qG (kE l)).length<=100000/\(kH (kE l)).length<=1000000:=by
 have a:=(H7 h).1;have b:=a.2.2.2.1;have c:=a.2.2.1;omega
theorem Nm:Kh:=fun _=>rfl
theorem Ki:wN PR 19 Kg:=wt Nm Tryz.func19 (kcC ur kcN) koN
theorem jdT:wo NS=0:=by decide+kernel
theorem jdU:Ay NS=[940,100]:=by decide+kernel
end Go.X
