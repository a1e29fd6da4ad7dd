/-
  Part 7 of the road: a checked reading of bodies, and what the functions on it do (X25 X26 C5 PC15 C6 PC16 S6 S7 PC17 DM S8 S9 S10 S11 S12 S13 S14 C7 PC18 S15 S16 C9 PC21 PC22 C10 PC23 C11 LW).
-/
import Derived.Test.YtphbhcmpebmadaaGreatDoorK06
import Derived.Test.YtphbhcmpebmadaaGreatDoorRows
import Derived.WalkKit
import Derived.ProofKit
import Derived.OpenShut
import Derived.JoinedCond
import Derived.Carry
import Derived.ChangeArms
import Derived.Test.YtphbhcmpebmadaaGreatDoorCards
import Derived.Test.YtphbhcmpebmadaaGreatDoorTie
import Derived.Deep.DeepHandedRow
import Derived.Lib.LaidTab
namespace Go.X
open Go.RowKit (Below)
open Go.Proofs.YtphbhcmpebmadaaGreatDoor
def Hof (w:World):Imm:=fun b=>match w.heap[b]? with|some (.cells c _ _)=>some (.cells c)|_=>none
theorem jyI (w:World) (d:jBe (Hof w)):jaY (Hof w) w:=by
 refine⟨fun b c h=> ?_,d⟩;unfold Hof at h
 split at h
 .rename_i f T a e;simp at h;subst h;exact⟨T,a,e⟩
 .cases h
def Ty.fits (N:Nat):(t:Ty)->t.Data->Prop
 | .int,x=>jA x
 | .bool,_=>True
 | .uint k,x=>k.min<=x/\x<=k.max
 | .slice t,l=>l.length<=N/\∀x∈l,t.fits N x
 | .unit,_=>True
 | .pair a b,d=>a.fits N d.1/\b.fits N d.2
 | .map k v,l=>l.length<=N/\∀x∈l,k.fits N x.1/\v.fits N x.2
 | .ptr t,d=>∀x,d=some x->t.fits N x
theorem Ty.fits_mono {N M:Nat} (h:N<=M):∀(t:Ty) (d:t.Data),t.fits N d->t.fits M d
 | .int,_,k=>k
 | .bool,_,k=>k
 | .uint _,_,k=>k
 | .unit,_,k=>k
 | .slice t,_,k=>⟨jDr k.1 h,fun x c=>t.fits_mono h x (k.2 x c)⟩
 | .pair a b,_,k=>⟨a.fits_mono h _ k.1,b.fits_mono h _ k.2⟩
 | .map k v,_,q=>⟨jDr q.1 h,fun x c=>⟨k.fits_mono h _ (q.2 x c).1,v.fits_mono h _ (q.2 x c).2⟩⟩
 | .ptr t,_,k=>fun x c=>t.fits_mono h x (k x c)
def jBw (P:Program) (go:Nat->Ty->Bool):List Field->Nat->Ty->Bool
 |[],_,.unit=>true
 |f::fs,off,.pair a b=>Nat.beq f.offset off&&Nat.beq (P.cellsOf f.type) a.size&&go f.type a&&jBw P go fs (off+a.size) b
 |_,_,_=>false
def jAh (P:Program):Nat->Nat->Ty->Bool
 |0,_,_=>false
 |d+1,T,ty=>match ty,P.underlying T with
  | .int,some (.int .i64)=>true
  | .bool,some .bool=>true
  | .uint k,some (.int k')=>gS k k'
  | .slice t,some (.slice e)=>Nat.beq (P.cellsOf e) t.size&&Nat.ble 1 t.size&&jAh P d e t
  | .pair a b,some (.struct fs)=>Nat.beq (P.cellsOf T) (Ty.pair a b).size&&jBw P (jAh P d) fs.toList 0 (.pair a b)
  |_,_=>false
section
variable {P:Program} {K:Type} {enc:TypeId×Value->K} {w:World}
theorem jBy (d:DataW K):1<=Rows.uptoBulk d:=by
 cases d with
 |lit l=>cases l<;>simp[Rows.uptoBulk]
 |_=>simp[Rows.uptoBulk]
theorem joO (l:List (DataW K)):l.length<=Rows.uptoBulkAll l:=by
 induction l with
 |nil=>simp[Rows.uptoBulkAll]
 |cons x r a=>have:=jBy x;simp only[Rows.uptoBulkAll,jDL];omega
theorem jAj {d:DataW K} {l:List (DataW K)} (h:d∈l):Rows.uptoBulk d<=Rows.uptoBulkAll l:=by
 induction l with
 |nil=>cases h
 |cons x r a=>
  simp only[Rows.uptoBulkAll];cases jDd.1 h with
  |inl e=>subst e;omega
  |inr e=>have:=a e;omega
theorem jwj {α:Type} {Q:Nat->α->Prop}:∀(n:Nat),(∀i,i<n->∃y,Q i y)->∃l:List α,l.length=n/\∀i y,l[i]? =some y->Q i y
 |0,_=>⟨[],rfl,fun i y h=>by simp at h⟩
 |n+1,h=>by
  obtain⟨l,b,c⟩:=jwj n (fun i hi=>h i (by omega))
  obtain⟨y,d⟩:=h n (by omega)
  refine⟨l++[y],by simp[b],fun i z a=> ?_⟩
  by_cases hi:i<l.length
  .rw[jDo hi] at a;exact c i z a
  .rw[jDn (by omega)] at a
   have:i=n:=by
    by_cases e:i-l.length=0
    .omega
    .obtain⟨k,hk⟩:∃k,i-l.length=k+1:=⟨i-l.length-1,by omega⟩;rw[hk] at a;simp at a
   subst this;rw[<-b] at a;simp at a;subst a;exact d
def jCa (P:Program) (w:World) (enc:TypeId×Value->K) (T:Nat) (ty:Ty):Prop:=
 ∀(a:Nat) (cs:List Value) (x:DataW K×List MemPlace),DataW.trod enc P w 0 (fun _=>true) true a T cs=some x->Rows.uptoBulk x.1<=1048576->
  ∃d:ty.Data,ty.rd (Hof w) (fun i=>cs[i]?) d/\cs.length=ty.size/\ty.fits (Rows.uptoBulk x.1) d
theorem jBr {n:Int} (h:(Lit.int .i64 n).wf=true):jA n:=by
 simp[Lit.wf,IntKind.min,IntKind.max,IntKind.signed,IntKind.bits] at h;exact h
theorem jgr {go:Nat->Ty->Bool} (c:∀T ty,go T ty=true->jCa P w enc T ty) {n:Nat} {cs:List Value}:
 ∀(fs:List Field) (off:Nat) (ty:Ty) (xs:List (DataW K×List MemPlace)),jBw P go fs off ty=true->xs.length=fs.length->
  (∀(i:Nat) (f:Field),fs[i]? =some f->DataW.trod enc P w 0 (fun _=>true) true n f.type ((cs.drop f.offset).take (P.cellsOf f.type))=xs[i]?)->Rows.uptoBulkAll (xs.map (·.1))<=1048576->
  ∃d:ty.Data,ty.rd (Hof w) (fun i=>cs[off+i]?) d/\ty.fits (Rows.uptoBulkAll (xs.map (·.1))) d
 |[],off,ty,xs,h,g,e,j=>by
  cases ty<;>simp[jBw] at h
  exact⟨(),trivial,trivial⟩
 |f::fs,off,ty,[],h,g,e,j=>by simp at g
 |f::fs,off,ty,x::xs,h,g,e,j=>by
  cases ty<;>simp[jBw] at h
  rename_i a b
  obtain⟨⟨⟨q,v⟩,r⟩,s⟩:=h
  simp only[jEb,Rows.uptoBulkAll] at j
  have k:=e 0 f (by simp)
  simp only[List.getElem?_cons_zero] at k
  obtain⟨d,t,y,u⟩:=c _ _ r _ _ _ k (by omega)
  obtain⟨l,o,p⟩:=jgr c fs (off+a.size) b xs s (by simpa using g) (fun i m hi=>by simpa using e (i+1) m (by simpa using hi)) (by omega)
  refine⟨(d,l),⟨?_,?_⟩,?_,?_⟩
  .refine Ty.rd_congr a _ _ _ (fun i hi=> ?_) t
   rw[jDw (by omega),jDN,q]
  .refine Ty.rd_congr b _ _ _ (fun i hi=> ?_) o
   rw[jEh]
  .exact a.fits_mono (by simp[Rows.uptoBulkAll]) _ u
  .exact b.fits_mono (by simp[Rows.uptoBulkAll]) _ p
theorem jdh:∀(d T:Nat) (ty:Ty),jAh P d T ty=true->jCa P w enc T ty
 |0,_,_,h=>by cases h
 |d+1,T,ty,h=>by
  intro fuel cs x B r
  unfold jAh at h
  split at h
  .rename_i u
   obtain⟨n,rfl,rfl,H⟩:=DataW.trod_int u B
   exact⟨n,rfl,rfl,jBr H⟩
  .rename_i u
   obtain⟨b,rfl,rfl⟩:=DataW.trod_bool u B
   exact⟨b,rfl,rfl,trivial⟩
  .rename_i k k' u
   obtain⟨n,rfl,rfl,H⟩:=DataW.trod_int u B
   have:k=k':=by simpa[gS] using h
   subst this
   refine⟨n,rfl,rfl,?_⟩
   simp[Lit.wf] at H
   exact H
  .rename_i t e u
   simp only[jDg] at h
   obtain⟨⟨L,M⟩,h3⟩:=h
   have e1:=jDa L
   have e2:=jDp M
   rcases DataW.trod_slice u B with⟨rfl,rfl⟩|⟨a,len,J,vL,rest,n,_,rfl,rfl,hb,hl,hm,A,D,_,_⟩
   .refine⟨[],⟨none,0,0,rfl,rfl,jDf _,by simp,fun _=>rfl,fun h=>absurd rfl h⟩,rfl,by simp,fun x B=>by simp at B⟩
   .simp only[Rows.uptoBulk] at r
    have key:∀i,i<len->∃y:t.Data,(∃blk,Hof w a.block=some (.cells blk)/\a.spot=none/\t.rd (Hof w) (fun j=>blk[a.off+i*t.size+j]?) y)/\t.fits (Rows.uptoBulkAll (vL.map (·.1))) y:=by
     intro i hi;have h0:=D i hi;have X:vL[i]? =some vL[i]:=jDh (by omega);rw[X,Option.bind_eq_some_iff] at h0;obtain⟨cl,c1,c2⟩:=h0;have Q:Rows.uptoBulk vL[i].1<=Rows.uptoBulkAll (vL.map (·.1)):=jAj (jDP.2 ⟨vL[i],List.getElem_mem _,rfl⟩);obtain⟨y,y1,y2,y3⟩:=jdh d e t h3 _ _ _ c2 (by omega);unfold World.cells? at c1;rw[if_pos (jDq _),e1] at c1;have z:∀j,j<t.size->w.cell? ((a.add (i*t.size)).add j)=cl[j]? :=fun j O=>by
      have:=mapM_some_get c1 j j (by simp[O]);simpa using this
     have N:cl.length=t.size:=(by simpa using mapM_some_length c1);have I:=z 0 (by omega);have g:cl[0]?≠none:=(by rw[jDh (by omega)];simp);rw[<-I] at g;have m:∃blk T G,w.heap[a.block]? =some (.cells blk T G):=by
      unfold World.cell? at g;have q:((a.add (i*t.size)).add 0).block=a.block:=by unfold Addr.add;simp;split<;>rfl
      rw[q] at g
      split at g
      .rename_i c T G e;exact⟨c,T,G,e⟩
      .exact absurd rfl g
     obtain⟨blk,T',G,m⟩:=m;have p:((a.add (i*t.size)).add 0).spot=none:=by
      unfold World.cell? at g;have q:((a.add (i*t.size)).add 0).block=a.block:=by unfold Addr.add;simp;split<;>rfl
      rw[q,m] at g;simp only at g;cases R:((a.add (i*t.size)).add 0).spot with
      |none=>rfl
      |some s=>rw[R] at g;simp at g
     have hH:Hof w a.block=some (.cells blk):=(by unfold Hof;rw[m]);refine⟨y,⟨blk,hH,?_,?_⟩,t.fits_mono Q _ y3⟩
     .--the first element shows that the address is plain
      have C:=D 0 (by omega);have W:vL[0]? =some vL[0]:=jDh (by omega);rw[W,Option.bind_eq_some_iff] at C;obtain⟨K,F,_⟩:=C;unfold World.cells? at F;rw[if_pos (jDq _),e1] at F;have v:=mapM_some_get F 0 0 (by rw[List.getElem?_range (by omega)]);have hl0:K.length=t.size:=(by simpa using mapM_some_length F);rw[jDh (by omega)] at v;simp only[Nat.zero_mul] at v;have ea:(a.add 0).add 0=a:=(by unfold Addr.add;simp);rw[ea] at v;unfold World.cell? at v;rw[m] at v;simp only at v;cases R:a.spot with
      |none=>rfl
      |some s=>rw[R] at v;simp at v
     .refine Ty.rd_congr t _ _ _ (fun j O=> ?_) y1;rw[<-z j O];unfold World.cell?;have q:((a.add (i*t.size)).add j).block=a.block:=by unfold Addr.add;split<;>split<;>rfl
      have E:((a.add (i*t.size)).add j).off=a.off+i*t.size+j:=by
       unfold Addr.add;split<;>split<;>simp_all
      have V:((a.add (i*t.size)).add j).spot=none:=by
       have S:(a.add (i*t.size)).spot=none:=by
        have:(a.add (i*t.size)).add 0=a.add (i*t.size):=(by simp[Addr.add]);rw[this] at p;exact p
       unfold Addr.add at S⊢
       split<;>split<;>simp_all
      rw[q,m,E,V];simp
    obtain⟨l,l1,l2⟩:=jwj len key;refine⟨l,⟨some a,len,J,rfl,l1.symm,hl,?_,(fun h=>by cases h),fun g=> ?_⟩,rfl,?_,?_⟩
    .have:=joO (vL.map (·.1));simp at this;omega
    .have hz:0<l.length:=List.length_pos_iff.2 g;obtain⟨blk,q1,q2,_⟩:=(l2 0 l[0] (jDh hz)).1;refine⟨a.block,a.off,blk,?_,q1,fun i y Z=> ?_⟩
     .rcases a with⟨b,o,s⟩;simp only at q2;subst q2;rfl
     .obtain⟨blk',q3,_,q4⟩:=(l2 i y Z).1;rw[q1] at q3;simp at q3;subst q3;exact q4
    .simp only[Rows.uptoBulk];have:=joO (vL.map (·.1));simp at this;omega
    .intro y Z;obtain⟨i,hi⟩:=jEn Z;exact t.fits_mono (by simp only[Rows.uptoBulk];omega) _ (l2 i y hi).2
  .rename_i a b fs u;simp only[jDg] at h;obtain⟨L,M⟩:=h;obtain⟨xs,n,_,rfl,A,Y,hf⟩:=DataW.trod_struct u B;simp only[Rows.uptoBulk] at r;obtain⟨y,y1,y2⟩:=jgr (fun T ty h=>jdh d T ty h) (n:=n) (cs:=cs) fs.toList 0 (.pair a b) xs M (by simpa using Y) (fun i f hi=>hf i f (by simpa using hi)) (by omega);refine⟨y,by simpa using y1,by rw[A];exact jDa L,?_⟩;exact Ty.fits_mono (by simp only[Rows.uptoBulk];omega) (.pair a b) _ y2
  .cases h
end
end Go.X
namespace Go.X
open Go.RowKit (Below)
open Go.ChangeShapes Go.WideShapes Go.ChangeAt Go.RowKit
open Go.Proofs.YtphbhcmpebmadaaGreatDoor
def jmQ (N:Nat):(ts:List Ty)->PD (ts.map Par.val)->Prop
 |[],_=>True
 |t::ts,d=>t.fits N d.1/\jmQ N ts d.2
def jwk (ts:List Ty):jX:=⟨ts.map Par.val,[.bool],false,fun d=>[jmQ 1048576 ts d],fun _=>(true,())⟩
def jgu (P:Program):List Nat->List Ty->Bool
 |[],[]=>true
 |T::Ts,t::ts=>jAh P 20 T t&&(P.readableRec T&&decide (T<P.types.size))&&jgu P Ts ts
 |_,_=>false
section
variable {P:Program} {K:Type} {enc:TypeId×Value->K} {W W':World}
theorem jed (j:laidOutB P=true) (i:Below W.heap.size W W'):∀(a:List Nat) (ts:List Ty) (vs:List Value) (ds:List (DataW K)) (ps:List MemPlace),jgu P a ts=true->
 DataW.TrodAll enc P W 0 (fun _=>true) true a vs ds ps->(∀x∈ps,x.block<W.heap.size)->DataW.TrodAll enc P W' 0 (fun b=>decide (b<W.heap.size)) true a vs ds ps
 |[],ts,vs,ds,ps,_,h,_=>by
  obtain⟨rfl,rfl,rfl⟩:=trodAll_nil h
  exact trodAll_mk0
 |T::a,[],vs,ds,ps,c,_,_=>by cases c
 |T::a,t::ts,vs,ds,ps,c,h,hlt=>by
  obtain⟨v,g,d,e,p,q,rfl,rfl,rfl,n,o⟩:=trodAll_cons h
  simp only[jgu,jDg] at c
  obtain⟨⟨_,k,l⟩,m⟩:=c
  exact trodAll_cons_mk (Below.trod j k (of_decide_eq_true l) n i (fun x f=>hlt x (jDc _ f)))
   (jed j i a ts g e q m o (fun x f=>hlt x (jDb _ f)))
theorem jA9 {T:Nat} {t:Ty} {r:Reach} {c:Nat} {v:Value} (h:jAh P 20 T t=true) (b:Value.okWide P W r c T v):ku v=t.agg:=by
 unfold jAh at h
 split at h
 .rename_i a;obtain⟨n,rfl⟩:=okWide_int a b;rfl
 .rename_i a;obtain⟨n,rfl⟩:=okWide_bool a b;rfl
 .rename_i a;obtain⟨n,rfl⟩:=okWide_int a b;rfl
 .rename_i a;unfold Value.okWide at b;rw[a] at b;simp only[Cell.okWide,a] at b;cases v with
  |agg vs=>simp[Cell.ok,a] at b
  |_=>rfl
 .rename_i a;unfold Value.okWide at b;rw[a] at b;obtain⟨cs,rfl,_⟩:=b;rfl
 .cases h
theorem jzu {r:Reach} {l:Nat}:∀(a:List Nat) (ts:List Ty) (vs:List Value) (ds:List (DataW K)) (ps:List MemPlace),jgu P a ts=true->
 DataW.TrodAll enc P W 0 (fun _=>true) true a vs ds ps->(∀(j:Nat) t v,a[j]? =some t->vs[j]? =some v->Value.okWide P W r l t v)->Rows.uptoBulkAll ds<=1048576->
 ∃d:PD (ts.map Par.val),pvs P (Hof W) (ts.map Par.val) vs d/\jmQ 1048576 ts d
 |[],ts,vs,ds,ps,b,h,_,_=>by
  obtain⟨rfl,rfl,rfl⟩:=trodAll_nil h
  cases ts with
  |nil=>exact⟨(),rfl,trivial⟩
  |cons t ts=>cases b
 |T::a,[],vs,ds,ps,b,_,_,_=>by cases b
 |T::a,t::ts,vs,ds,ps,b,h,hv,hb=>by
  obtain⟨v,g,d,e,p,q,rfl,rfl,rfl,n,o⟩:=trodAll_cons h
  simp only[jgu,jDg] at b
  obtain⟨⟨k,_⟩,m⟩:=b
  simp only[Rows.uptoBulkAll] at hb
  obtain⟨c,s⟩:=n
  obtain⟨x,w,z,A⟩:=jdh 20 T t k c _ _ s (by simp only;omega)
  obtain⟨y,B,C⟩:=jzu a ts g e q m o (fun j t v u f=>hv (j+1) t v (by simpa using u) (by simpa using f)) (by omega)
  refine⟨(x,y),⟨⟨jA9 k (hv 0 T v rfl rfl),by simpa using z,?_⟩,B⟩,Ty.fits_mono (by simp only;omega) t x A,C⟩
  refine Ty.rd_congr t _ _ _ (fun i _=> ?_) w
  simp
theorem jc2:∀(a:List Nat) (ts:List Ty) (vs:List Value) (ds:List (DataW K)) (ps:List MemPlace),jgu P a ts=true->DataW.TrodAll enc P W 0 (fun _=>true) true a vs ds ps->ds.length=ts.length:=by
 intro a
 induction a with
 |nil=>intro ts vs ds ps b h;obtain⟨rfl,rfl,rfl⟩:=trodAll_nil h;cases ts with|nil=>rfl|cons=>cases b
 |cons T a g=>intro ts vs ds ps b h;cases ts with
  |nil=>cases b
  |cons t ts=>
   obtain⟨v,e,d,c,p,q,rfl,rfl,rfl,i,f⟩:=trodAll_cons h;simp only[jgu,jDg] at b;simp[g ts e c q b.2 f]
theorem jzz {f:Nat} {fn:Func} {s:ChangeSpec} {ts:List Ty} (I:laidOutB P=true) (k:jgu P fn.params.toList ts=true) (L:fn.resultTypes= #[4]) (D:P.underlying 4=some .bool)
 (a:s.vars=[]) (m:∀(ds:List (DataW K)),ds.length=ts.length->s.fn K (ds++[])={results:=[.lit (.bool true)],args:=ds})
 (G:zn P f (jwk ts)) (base:Nat) (args:Array Value) (ds o:List (DataW K)) (before:List MemPlace)
 (l:∀(j:Nat) t v,fn.params[j]? =some t->args[j]? =some v->Value.okWide P W .any base t v)
 (w:DataW.Whole enc P fn.params.toList s.vars false W args.toList ds o before) (hk:Rows.uptoSmall K (ds++o)=true) (E:jBe (Hof W)):
 Calls P f args W fun e W'=>∃v,e= .returned v/\s.post enc P fn false true false false W args v W':=by
 have b:=w;obtain⟨p,q,i,u,rfl,H,J⟩:=w;rw[a] at u;obtain⟨rfl,rfl⟩:=trodVars_none u;simp only[jDF] at b hk;have c:Rows.uptoBulkAll ds<=1048576:=of_decide_eq_true hk;have g:∀(j:Nat) t v,fn.params.toList[j]? =some t->args.toList[j]? =some v->Value.okWide P W .any base t v:=fun j t v B C=>l j t v (by simpa using B) (by simpa using C)
 obtain⟨d,z,A⟩:=jzu fn.params.toList ts args.toList ds p k i g c;have y:=G.calls (Hof W) W args.toList d (jyI W E) z ⟨A,trivial⟩;simp only[Array.toArray_toList] at y;refine y.mono fun e W' F=> ?_
 obtain⟨v,H',rfl,r,M⟩:=F;have n:v= .bool true:=zC M;subst n;refine⟨_,rfl,ds,[],p,[],p,[],b,?_,?_,?_,r.below.frame _,fun h=>by cases h⟩
 .rw[m ds ?_,L]
  .exact trodAll_cons_mk (shut_bool D _) trodAll_mk0
  .exact jc2 _ _ _ _ _ k i
 .rw[m ds ?_]
  .exact jed I r.below _ ts _ _ _ k i (fun x N=>by simpa using b.lt x N)
  .exact jc2 _ _ _ _ _ k i
 .rw[a,m ds ?_]
  .rfl
  .exact jc2 _ _ _ _ _ k i
end
end Go.X
namespace Go.X
open Go.Proofs
namespace U
def jCr (p:PeD):Prop:=(lv p).length<=20/\(wA p).length<=30
def jqn (c:CrD):Prop:=(jl c).length<=20/\(kN c).length<=20/\∀p∈jl c,jCr p
def jqm (d:DyD):Prop:=jqn (jj d)/\(jE d).length<=20/\(jq d).length<=20/\(kg d).length<=60/\∀r∈jE d,r.length<=20
def jpu (p:PeD):Bool:=decide (20<((lv p).length:Int))||decide (30<((wA p).length:Int))
def jaU (c:CrD):Bool:=(decide (20<((jl c).length:Int))||decide (20<((kN c).length:Int)))||((jl c).any jpu||(ju c&&decide (5<((jl c).length:Int))))
def jpt (r:List SpD):Bool:=decide (20<(r.length:Int))
def vF (d:DyD):Bool:=(((jaU (jj d)||decide (20<((jE d).length:Int)))||decide (20<((jq d).length:Int)))||decide (60<((kg d).length:Int)))||(jE d).any jpt
def jgf (d:DyD):Bool:=vF d||(decide (gE d=0)&&decide (12<((kg d).length:Int)))
def jCW:CrD:=(3,[([5,4,0],3,15,[],false,50,()),([0,5,3],3,15,[],true,40,()),([4,0,4],1,3,[7],false,30,()),([3,3,3],255,1,[],false,10,())],[(2,1,false,()),(4,2,false,()),(3,2,true,()),(5,1,false,())],())
def jxH:List JbD:=[(0,2,7,1,2,1,()),(0,2,3,0,0,1,()),(0,2,7,1,1,1,())]
def jku:DyD:=(jCW,[[(0,0,()),(10,20,())],[(10,25,()),(0,0,())]],[((0,2,3,0,0,1,()),0,60,120,()),((0,2,3,1,0,1,()),1,150,200,()),((0,2,7,1,2,1,()),0,230,300,())],10,140,
 [(1,5,1,0,3,()),(2,6,1,1,3,()),(3,4,1,2,2,()),(4,7,1,2,0,()),(5,8,1,2,1,()),(6,9,1,0,2,()),(7,10,2,0,2,())],())
end U
abbrev q114_0 (d:CrD×Unit)(x:Nat):=(nth d.1.2.1 (x:Int).toNat)
def js9:Prop:=∀(d:CrD×Unit),U.jqn d.1->(0+d.1.2.2.1.length)*24<=140737488355328/\(∃(x:Nat),((0=(x:Int)/\True)/\(d.1.1=d.1.1/\True/\True/\True)/\List.take x (U.jl d.1)=[]/\True)/\x<=(U.jl d.1).length)/\∀(x:Nat),x<=(U.jl d.1).length->d.1.2.1.length<4611686018427387904->(decide ((x:Int)<(d.1.2.1.length:Int))=true->0<=(x:Int)/\(x:Int)<(d.1.2.1.length:Int)/\(0+(q114_0 d x).1.length)*8<=140737488355328/\(0+(q114_0 d x).2.2.2.1.length)*8<=140737488355328/\((List.take x (U.jl d.1)).length+[([]++(q114_0 d x).1,(q114_0 d x).2.1,(q114_0 d x).2.2.1,[]++(q114_0 d x).2.2.2.1,(q114_0 d x).2.2.2.2)].length)*80<=140737488355328/\jA ((x:Int)+1)/\∃(a:Nat),(((x:Int)+1=(a:Int)/\True)/\(d.1.1=d.1.1/\True/\True/\True)/\List.take x (U.jl d.1)++[([]++(q114_0 d x).1,(q114_0 d x).2.1,(q114_0 d x).2.2.1,[]++(q114_0 d x).2.2.2.1,(q114_0 d x).2.2.2.2)]=List.take a (U.jl d.1)/\True)/\a<=(U.jl d.1).length/\(U.jl d.1).length-a<(U.jl d.1).length-x)/\(decide ((x:Int)<(d.1.2.1.length:Int))=false->((d.1.1,List.take x (U.jl d.1),[]++d.1.2.2.1,()),())=d)
abbrev q115_0 (d:DyD×Unit):=(d.1.1.1=d.1.1.1/\d.1.1.2.1=d.1.1.2.1/\d.1.1.2.2.1=d.1.1.2.2.1/\True/\d.1.2.2.1=d.1.2.2.1/\d.1.2.2.2.1=d.1.2.2.2.1/\d.1.2.2.2.2.1=d.1.2.2.2.2.1/\d.1.2.2.2.2.2.1=d.1.2.2.2.2.2.1/\True)
def js8:Prop:=∀(d:DyD×Unit),U.jqm d.1->U.jqn d.1.1/\(∃(x:Nat),((0=(x:Int)/\True)/\(q115_0 d)/\List.take x (U.jE d.1)=[]/\True)/\x<=(U.jE d.1).length)/\∀(x:Nat),x<=(U.jE d.1).length->d.1.2.1.length<4611686018427387904->(decide ((x:Int)<(d.1.2.1.length:Int))=true->0<=(x:Int)/\(x:Int)<(d.1.2.1.length:Int)/\(0+(nth d.1.2.1 (x:Int).toNat).length)*16<=140737488355328/\((List.take x (U.jE d.1)).length+[[]++nth d.1.2.1 (x:Int).toNat].length)*24<=140737488355328/\jA ((x:Int)+1)/\∃(a:Nat),(((x:Int)+1=(a:Int)/\True)/\(q115_0 d)/\List.take x (U.jE d.1)++[[]++nth d.1.2.1 (x:Int).toNat]=List.take a (U.jE d.1)/\True)/\a<=(U.jE d.1).length/\(U.jE d.1).length-a<(U.jE d.1).length-x)/\(decide ((x:Int)<(d.1.2.1.length:Int))=false->(0+d.1.2.2.1.length)*72<=140737488355328/\(0+d.1.2.2.2.2.2.1.length)*40<=140737488355328/\((d.1.1,List.take x (U.jE d.1),[]++d.1.2.2.1,d.1.2.2.2.1,d.1.2.2.2.2.1,[]++d.1.2.2.2.2.2.1,()),())=d)
def jj2:jX:=⟨[.val (.slice .int),.val (.slice .int)],[.bool],false,fun _=>[],fun d=>(decide (d.1=d.2.1),())⟩
def jkA:Ann:=fun r=>match r with
 |4=>some fun σ=>{X:=Nat,sl:=fun i=>[(5,.dat .int (i:Int))],ob:=fun _=>[],inv:=fun i=>i<=(gd (.slice .int) σ 0).length/\∀j:Nat,j<i->nth (gd (.slice .int) σ 0) j=nth (gd (.slice .int) σ 1) j,mu:=fun i=>(gd (.slice .int) σ 0).length-i}
 |_=>none
def jjW:Prop:=∀(d:List Int×List Int×Unit),d.1.length<4611686018427387904->d.2.1.length<4611686018427387904->(decide ((d.1.length:Int)≠(d.2.1.length:Int))=true->(false,())=(decide (d.1=d.2.1),()))/\(decide ((d.1.length:Int)≠(d.2.1.length:Int))=false->(∃(x:Nat),((0=(x:Int)/\True)/\True)/\x<=d.1.length/\∀(j:Nat),j<x->nth d.1 j=nth d.2.1 j)/\∀(x:Nat),(x<=d.1.length/\∀(j:Nat),j<x->nth d.1 j=nth d.2.1 j)->d.1.length<4611686018427387904->(decide ((x:Int)<(d.1.length:Int))=true->0<=(x:Int)/\(x:Int)<(d.1.length:Int)/\0<=(x:Int)/\(x:Int)<(d.2.1.length:Int)/\(decide (nth d.1 (x:Int).toNat≠nth d.2.1 (x:Int).toNat)=true->(false,())=(decide (d.1=d.2.1),()))/\(decide (nth d.1 (x:Int).toNat≠nth d.2.1 (x:Int).toNat)=false->jA ((x:Int)+1)/\∃(a:Nat),(((x:Int)+1=(a:Int)/\True)/\True)/\(a<=d.1.length/\∀(j:Nat),j<a->nth d.1 j=nth d.2.1 j)/\d.1.length-a<d.1.length-x))/\(decide ((x:Int)<(d.1.length:Int))=false->(true,())=(decide (d.1=d.2.1),())))
def ju7:jX:=⟨[.val tCr],[.bool],false,fun _=>[],fun d=>(U.jaU d.1,())⟩
def jxs:Ann:=fun r=>match r with
 |4=>some fun σ=>{X:=Nat,sl:=fun i=>[(3,.dat .int (i:Int))],ob:=fun _=>[],inv:=fun i=>i<=(U.jl (gb tCr σ 1)).length/\∀j:Nat,j<i->U.jpu (nth (U.jl (gb tCr σ 1)) j)=false,mu:=fun i=>(U.jl (gb tCr σ 1)).length-i}
 |_=>none
abbrev q117_0 (d:CrD×Unit)(x:Nat):=((20:Int)<(↑(nth d.1.2.1 (x:Int).toNat).1.length:Int))
abbrev q117_1 (d:CrD×Unit):=(d.1.2.1.length:Int)
abbrev q117_2 (d:CrD×Unit)(x:Nat):=(decide (q117_0 d x)||decide ((30:Int)<(↑(nth d.1.2.1 (x:Int).toNat).2.2.2.1.length:Int)))
abbrev q117_3 (d:CrD×Unit):=(decide (20<(q117_1 d))||decide (20<(d.1.2.2.1.length:Int)))
def juM:Prop:=∀(d:CrD×Unit),d.1.2.1.length<4611686018427387904->((!decide (20<(q117_1 d)))=true->d.1.2.2.1.length<4611686018427387904)->((q117_3 d)=true->(true,())=(U.jaU d.1,()))/\((q117_3 d)=false->(∃(x:Nat),((0=(x:Int)/\True)/\True)/\x<=(U.jl d.1).length/\∀(j:Nat),j<x->U.jpu (nth (U.jl d.1) j)=false)/\∀(x:Nat),(x<=(U.jl d.1).length/\∀(j:Nat),j<x->U.jpu (nth (U.jl d.1) j)=false)->d.1.2.1.length<4611686018427387904->(decide ((x:Int)<(q117_1 d))=true->0<=(x:Int)/\(x:Int)<(q117_1 d)/\((nth d.1.2.1 (x:Int).toNat).1.length<4611686018427387904->((!decide (q117_0 d x))=true->0<=(x:Int))/\((!decide (q117_0 d x))=true->(x:Int)<(q117_1 d))/\(((!decide (q117_0 d x))=true->(nth d.1.2.1 (x:Int).toNat).2.2.2.1.length<4611686018427387904)->((q117_2 d x)=true->(true,())=(U.jaU d.1,()))/\((q117_2 d x)=false->jA ((x:Int)+1)/\∃(a:Nat),(((x:Int)+1=(a:Int)/\True)/\True)/\(a<=(U.jl d.1).length/\∀(j:Nat),j<a->U.jpu (nth (U.jl d.1) j)=false)/\(U.jl d.1).length-a<(U.jl d.1).length-x))))/\(decide ((x:Int)<(q117_1 d))=false->(U.ju d.1=true->d.1.2.1.length<4611686018427387904)->(U.ju d.1&&decide (5<(q117_1 d)),())=(U.jaU d.1,())))
def jth:jX:=⟨[.val tDy],[.bool],false,fun _=>[],fun d=>(U.vF d.1,())⟩
def juv:Ann:=fun r=>match r with
 |4=>some fun σ=>{X:=Nat,sl:=fun i=>[(3,.dat .int (i:Int))],ob:=fun _=>[],inv:=fun i=>i<=(U.jE (gb tDy σ 1)).length/\∀j:Nat,j<i->U.jpt (nth (U.jE (gb tDy σ 1)) j)=false,mu:=fun i=>(U.jE (gb tDy σ 1)).length-i}
 |_=>none
abbrev q118_1 (d:DyD×Unit):=(d.1.2.1.length:Int)
abbrev q118_0 (d:DyD×Unit):=(U.jaU d.1.1||decide (20<(q118_1 d))||decide (20<(d.1.2.2.1.length:Int))||decide (60<(d.1.2.2.2.2.2.1.length:Int)))
def js0:Prop:=∀(d:DyD×Unit),((!U.jaU d.1.1)=true->d.1.2.1.length<4611686018427387904)->((!(U.jaU d.1.1||decide (20<(q118_1 d))))=true->d.1.2.2.1.length<4611686018427387904)->((!(U.jaU d.1.1||decide (20<(q118_1 d))||decide (20<(d.1.2.2.1.length:Int))))=true->d.1.2.2.2.2.2.1.length<4611686018427387904)->((q118_0 d)=true->(true,())=(U.vF d.1,()))/\((q118_0 d)=false->(∃(x:Nat),((0=(x:Int)/\True)/\True)/\x<=(U.jE d.1).length/\∀(j:Nat),j<x->U.jpt (nth (U.jE d.1) j)=false)/\∀(x:Nat),(x<=(U.jE d.1).length/\∀(j:Nat),j<x->U.jpt (nth (U.jE d.1) j)=false)->d.1.2.1.length<4611686018427387904->(decide ((x:Int)<(q118_1 d))=true->0<=(x:Int)/\(x:Int)<(q118_1 d)/\((nth d.1.2.1 (x:Int).toNat).length<4611686018427387904->(decide ((20:Int)<(↑(nth d.1.2.1 (x:Int).toNat).length:Int))=true->(true,())=(U.vF d.1,()))/\(decide ((20:Int)<(↑(nth d.1.2.1 (x:Int).toNat).length:Int))=false->jA ((x:Int)+1)/\∃(a:Nat),(((x:Int)+1=(a:Int)/\True)/\True)/\(a<=(U.jE d.1).length/\∀(j:Nat),j<a->U.jpt (nth (U.jE d.1) j)=false)/\(U.jE d.1).length-a<(U.jE d.1).length-x)))/\(decide ((x:Int)<(q118_1 d))=false->(false,())=(U.vF d.1,())))
def ju6:jX:=⟨[.val tDy],[.bool],false,fun _=>[],fun d=>(U.jgf d.1,())⟩
def juL:Prop:=∀(d:DyD×Unit),((!U.vF d.1)=true->(U.jq d.1).length<=1000000)/\(((!U.vF d.1&&decide (U.gE d.1=0))=true->d.1.2.2.2.2.2.1.length<4611686018427387904)->(U.vF d.1||decide (U.gE d.1=0)&&decide (12<(d.1.2.2.2.2.2.1.length:Int)),())=(U.jgf d.1,()))
def jtg:jX:=⟨[.val .int,.val .int],[tSp],false,fun _=>[],fun d=>((d.1,d.2.1,()),())⟩
def jsZ:Prop:=∀(d:Int×Int×Unit),(d,())=(d,())
def jlV:jX:=⟨[],[tCr,.slice tJb],false,fun _=>[],fun _=>(U.jCW,U.jxH,())⟩
def jlF:Prop:=∀(d:Unit),(((3:Int),[([(5:Int),(4:Int),(0:Int)],(3:Int),(15:Int),[],false,(50:Int),()),([(0:Int),(5:Int),(3:Int)],(3:Int),(15:Int),[],true,(40:Int),()),([(4:Int),(0:Int),(4:Int)],(1:Int),(3:Int),[(7:Int)],false,(30:Int),()),([(3:Int),(3:Int),(3:Int)],(255:Int),(1:Int),[],false,(10:Int),())],[((2:Int),(1:Int),false,()),((4:Int),(2:Int),false,()),((3:Int),(2:Int),true,()),((5:Int),(1:Int),false,())],()),[((0:Int),(2:Int),(7:Int),(1:Int),(2:Int),(1:Int),()),((0:Int),(2:Int),(3:Int),(0:Int),(0:Int),(1:Int),()),((0:Int),(2:Int),(7:Int),(1:Int),(1:Int),(1:Int),())],())=(U.jCW,U.jxH,())
def jlU:jX:=⟨[],[tDy],false,fun _=>[],fun _=>(U.jku,())⟩
abbrev q122_0:=(nth U.jxH (Int.toNat 1))
def jlE:Prop:=∀(d:Unit),(0:Int)<=1/\1<(U.jxH.length:Int)/\(0:Int)<=1/\1<(U.jxH.length:Int)/\(0:Int)<=0/\0<(U.jxH.length:Int)/\((U.jCW,[[((0:Int),(0:Int),()),((10:Int),(20:Int),())],[((10:Int),(25:Int),()),((0:Int),(0:Int),())]],[(nth U.jxH (Int.toNat 1),(0:Int),(60:Int),(120:Int),()),((q122_0.1,q122_0.2.1,q122_0.2.2.1,(1:Int),q122_0.2.2.2.2),(1:Int),(150:Int),(200:Int),()),(nth U.jxH (Int.toNat 0),(0:Int),(230:Int),(300:Int),())],(10:Int),(140:Int),[((1:Int),(5:Int),(1:Int),(0:Int),(3:Int),()),((2:Int),(6:Int),(1:Int),(1:Int),(3:Int),()),((3:Int),(4:Int),(1:Int),(2:Int),(2:Int),()),((4:Int),(7:Int),(1:Int),(2:Int),(0:Int),()),((5:Int),(8:Int),(1:Int),(2:Int),(1:Int),()),((6:Int),(9:Int),(1:Int),(0:Int),(2:Int),()),((7:Int),(10:Int),(2:Int),(0:Int),(2:Int),())],()),())=(U.jku,())
def jp6:jX:=⟨[],[.bool],false,fun _=>[],fun _=>(true,())⟩
def jpL:Prop:=∀(d:Unit),(U.kg U.jku).length<=100000/\(U.kg U.jku).length<=100000/\(U.kg U.jku).length<=100000/\(decide (U.jB U.jku=0)&&decide (U.jB U.jku=0)&&decide (U.jdi U.jku=0)&&decide (U.yo U.jku=[(8:Int),(8:Int),(3:Int)])&&decide (U.jka U.jku=[(3:Int)])&&decide (U.jg9 U.jku=[(8:Int),(8:Int),(3:Int)])&&decide (U.jg8 U.jku=110),())=(true,())
end Go.X
namespace Go.X
open Go.Proofs
theorem jBT:js9:=by
 unfold js9 q114_0;rintro⟨c,⟨⟩⟩ g;obtain⟨m,j,a⟩:U.jqn c:=g;refine⟨by show(0+(U.kN c).length)*24<=140737488355328;omega,⟨0,⟨⟨rfl,trivial⟩,⟨rfl,trivial,trivial,trivial⟩,rfl,trivial⟩,jDq _⟩,fun x f _=>⟨fun h=> ?_,fun h=> ?_⟩⟩
 .have h:(x:Int)<((U.jl c).length:Int):=of_decide_eq_true h;have k:=L.take_succ (l:=U.jl c) (i:=x) (by omega);obtain⟨s1,s2⟩:=a _ (L.mem_nth (l:=U.jl c) (i:=x) (by omega));have d:((U.jl c).take x).length<=20:=(by rw[jDG];omega);refine⟨jDK _,h,by show(0+(U.lv (nth (U.jl c) x)).length)*8<=140737488355328;omega,by show(0+(U.wA (nth (U.jl c) x)).length)*8<=140737488355328;omega,by show(((U.jl c).take x).length+1)*80<=140737488355328;omega,L.in64 (by omega) (by omega),x+1,⟨⟨by simp,trivial⟩,⟨rfl,trivial,trivial,trivial⟩,k.symm,trivial⟩,by show x+1<=(U.jl c).length;omega,by show(U.jl c).length-(x+1)<(U.jl c).length-x;omega⟩
 .have h:¬(x:Int)<((U.jl c).length:Int):=of_decide_eq_false h;have f:x<=(U.jl c).length:=f;have b:x=(U.jl c).length:=(by omega);subst b;have e:(U.jl c).take (U.jl c).length=U.jl c:=jD3;show((c.1,(U.jl c).take (U.jl c).length,c.2.2.1,()),())=(c,());rw[e];rfl
theorem jBS:js8:=by
 unfold js8 q115_0;rintro⟨d,⟨⟩⟩ g;obtain⟨k,o,j,n,a⟩:U.jqm d:=g;refine⟨k,⟨0,⟨⟨rfl,trivial⟩,⟨rfl,rfl,rfl,trivial,rfl,rfl,rfl,rfl,trivial⟩,rfl,trivial⟩,jDq _⟩,fun x f _=>⟨fun h=> ?_,fun h=> ?_⟩⟩
 .have h:(x:Int)<((U.jE d).length:Int):=of_decide_eq_true h;have m:=L.take_succ (l:=U.jE d) (i:=x) (by omega);have p:=a _ (L.mem_nth (l:=U.jE d) (i:=x) (by omega));have c:((U.jE d).take x).length<=20:=(by rw[jDG];omega);refine⟨jDK _,h,by show(0+(nth (U.jE d) x).length)*16<=140737488355328;omega,by show(((U.jE d).take x).length+1)*24<=140737488355328;omega,L.in64 (by omega) (by omega),x+1,⟨⟨by simp,trivial⟩,⟨rfl,rfl,rfl,trivial,rfl,rfl,rfl,rfl,trivial⟩,m.symm,trivial⟩,by show x+1<=(U.jE d).length;omega,by show(U.jE d).length-(x+1)<(U.jE d).length-x;omega⟩
 .have h:¬(x:Int)<((U.jE d).length:Int):=of_decide_eq_false h;have f:x<=(U.jE d).length:=f;have b:x=(U.jE d).length:=(by omega);subst b;have e:(U.jE d).take (U.jE d).length=U.jE d:=jD3;refine⟨by show(0+(U.jq d).length)*72<=140737488355328;omega,by show(0+(U.kg d).length)*40<=140737488355328;omega,?_⟩;show((U.jj d,(U.jE d).take (U.jE d).length,U.jq d,U.jg7 d,U.jtM d,U.kg d,()),())=(d,());rw[e];rfl
theorem jmE:jjW:=by
 rintro⟨a,b,⟨⟩⟩ _ l;refine⟨fun h=> ?_,fun h=>⟨⟨0,⟨⟨rfl,trivial⟩,trivial⟩,jDq _,fun j k=>by omega⟩,fun x g f=>⟨fun c=>⟨jDK _,of_decide_eq_true c,jDK _,?_,fun d=> ?_,fun d=> ?_⟩,fun c=> ?_⟩⟩⟩
 .have h:(a.length:Int)≠(b.length:Int):=of_decide_eq_true h;have:¬a=b:=fun e=>h (by rw[e])
  show(false,())=(decide (a=b),());rw[decide_eq_false this]
 .have h:(a.length:Int)=(b.length:Int):=Classical.not_not.1 (of_decide_eq_false h);have c:(x:Int)<(a.length:Int):=of_decide_eq_true c;show(x:Int)<(b.length:Int);omega
 .have d:nth a x≠nth b x:=of_decide_eq_true d;have:¬a=b:=fun e=>d (by rw[e])
  show(false,())=(decide (a=b),());rw[decide_eq_false this]
 .have c:(x:Int)<(a.length:Int):=of_decide_eq_true c;have d:nth a x=nth b x:=Classical.not_not.1 (of_decide_eq_false d);have f:a.length<4611686018427387904:=f;refine⟨L.in64 (by omega) (by omega),x+1,⟨⟨by simp,trivial⟩,trivial⟩,⟨by show x+1<=a.length;omega,fun j k=> ?_⟩,by show a.length-(x+1)<a.length-x;omega⟩;by_cases e:j=x
  .subst e;exact d
  .exact g.2 j (by omega)
 .have h:(a.length:Int)=(b.length:Int):=Classical.not_not.1 (of_decide_eq_false h);have c:¬(x:Int)<(a.length:Int):=of_decide_eq_false c;have e:a=b:=L.ext_nth (by omega) fun i hi=>g.2 i (by omega)
  show(true,())=(decide (a=b),());rw[decide_eq_true e]
theorem jkb:zn PR 21 jj2:=wO jkA jmE Tryz.func21 kcN koN
theorem jyC:juM:=by
 unfold juM q117_3 q117_2 q117_1 q117_0;rintro⟨c,⟨⟩⟩ _ _;refine⟨fun h=> ?_,fun h=>⟨⟨0,⟨⟨rfl,trivial⟩,trivial⟩,jDq _,fun j g=>by omega⟩,fun x f d=>⟨fun a=>⟨jDK _,of_decide_eq_true a,fun _=>⟨fun _=>jDK _,fun _=>of_decide_eq_true a,fun _=>⟨fun b=> ?_,fun b=> ?_⟩⟩⟩,fun a _=> ?_⟩⟩⟩
 .have h:(decide (20<((U.jl c).length:Int))||decide (20<((U.kN c).length:Int)))=true:=h;show(true,())=(U.jaU c,());unfold U.jaU;rw[h];rfl
 .have b:U.jpu (nth (U.jl c) x)=true:=b;have a:(x:Int)<((U.jl c).length:Int):=of_decide_eq_true a;have:(U.jl c).any U.jpu=true:=jEc.2 ⟨_,L.mem_nth (l:=U.jl c) (i:=x) (by omega),b⟩;show(true,())=(U.jaU c,());unfold U.jaU;rw[this,Bool.true_or,Bool.or_true]
 .have b:U.jpu (nth (U.jl c) x)=false:=b;have a:(x:Int)<((U.jl c).length:Int):=of_decide_eq_true a;have d:(U.jl c).length<4611686018427387904:=d;refine⟨L.in64 (by omega) (by omega),x+1,⟨⟨by simp,trivial⟩,trivial⟩,⟨by show x+1<=(U.jl c).length;omega,fun j g=> ?_⟩,by show(U.jl c).length-(x+1)<(U.jl c).length-x;omega⟩;by_cases e:j=x
  .subst e;exact b
  .exact f.2 j (by omega)
 .have h:(decide (20<((U.jl c).length:Int))||decide (20<((U.kN c).length:Int)))=false:=h;have a:¬(x:Int)<((U.jl c).length:Int):=of_decide_eq_false a;have:(U.jl c).any U.jpu=false:=jD1.2 fun p k=>by
   obtain⟨i,hi,rfl⟩:=L.mem_iff.1 k;rw[f.2 i (by omega)];simp
  show(U.ju c&&decide (5<((U.jl c).length:Int)),())=(U.jaU c,());unfold U.jaU;rw[h,this,Bool.false_or,Bool.false_or]
theorem jvU:zn PR 93 ju7:=wO jxs jyC Tryz.func93 (kcC jgx kcN) koN
theorem jwA:js0:=by
 unfold js0 q118_0 q118_1;rintro⟨d,⟨⟩⟩ _ _ _;refine⟨fun h=> ?_,fun h=>⟨⟨0,⟨⟨rfl,trivial⟩,trivial⟩,jDq _,fun j g=>by omega⟩,fun x f c=>⟨fun a=>⟨jDK _,of_decide_eq_true a,fun _=>⟨fun b=> ?_,fun b=> ?_⟩⟩,fun a=> ?_⟩⟩⟩
 .have h:(((U.jaU (U.jj d)||decide (20<((U.jE d).length:Int)))||decide (20<((U.jq d).length:Int)))||decide (60<((U.kg d).length:Int)))=true:=h;show(true,())=(U.vF d,());unfold U.vF;rw[h];rfl
 .have b:U.jpt (nth (U.jE d) x)=true:=b;have a:(x:Int)<((U.jE d).length:Int):=of_decide_eq_true a;have:(U.jE d).any U.jpt=true:=jEc.2 ⟨_,L.mem_nth (l:=U.jE d) (i:=x) (by omega),b⟩;show(true,())=(U.vF d,());unfold U.vF;rw[this,Bool.or_true]
 .have b:U.jpt (nth (U.jE d) x)=false:=b;have a:(x:Int)<((U.jE d).length:Int):=of_decide_eq_true a;have c:(U.jE d).length<4611686018427387904:=c;refine⟨L.in64 (by omega) (by omega),x+1,⟨⟨by simp,trivial⟩,trivial⟩,⟨by show x+1<=(U.jE d).length;omega,fun j g=> ?_⟩,by show(U.jE d).length-(x+1)<(U.jE d).length-x;omega⟩;by_cases e:j=x
  .subst e;exact b
  .exact f.2 j (by omega)
 .have h:(((U.jaU (U.jj d)||decide (20<((U.jE d).length:Int)))||decide (20<((U.jq d).length:Int)))||decide (60<((U.kg d).length:Int)))=false:=h;have a:¬(x:Int)<((U.jE d).length:Int):=of_decide_eq_false a;have:(U.jE d).any U.jpt=false:=jD1.2 fun p k=>by
   obtain⟨i,hi,rfl⟩:=L.mem_iff.1 k;rw[f.2 i (by omega)];simp
  show(false,())=(U.vF d,());unfold U.vF;rw[h,this];rfl
theorem jtz:zn PR 58 jth:=wO juv jwA Tryz.func58 (kcC jvU kcN) koN
theorem jwQ {c:CrD} (h:U.jaU c=false):U.jqn c:=by
 unfold U.jaU at h;rw[jDD,jDD,jDD,decide_eq_false_iff_not] at h;have b:=of_decide_eq_false h.1.2;refine⟨by have:=h.1.1;omega,by omega,fun p a=> ?_⟩;have:=jD1.1 h.2.1 p a;unfold U.jpu at this;rw[jEp,decide_eq_true_iff,decide_eq_true_iff] at this;unfold U.jCr;omega
theorem jk7 {d:DyD} (h:U.vF d=false):U.jqm d:=by
 unfold U.vF at h;rw[jDD,jDD,jDD,jDD] at h;obtain⟨⟨⟨⟨e,a⟩,b⟩,c⟩,f⟩:=h;have a:=of_decide_eq_false a;have b:=of_decide_eq_false b;have c:=of_decide_eq_false c;refine⟨jwQ e,by omega,by omega,by omega,fun r g=> ?_⟩;have:=jD1.1 f r g;unfold U.jpt at this;rw[decide_eq_true_iff] at this;omega
theorem jyB:juL:=by
 rintro⟨d,⟨⟩⟩;refine⟨fun h=> ?_,fun _=>rfl⟩;have h:(!U.vF d)=true:=h;rw[jDH] at h;have:=(jk7 h).2.2.1;show(U.jq d).length<=1000000;omega
theorem jvT:zn PR 31 ju6:=jT jyB Tryz.func31 (kcC jtz (kcC jiK kcN)) koN
theorem jwz:jsZ:=fun _=>rfl
theorem jty:zn PR 64 jtg:=jT jwz Tryz.func64 kcN koN
theorem joU:jlF:=fun _=>rfl
theorem jmj:zn PR 63 jlV:=jT joU Tryz.func63 kcN koN
theorem joT:jlE:=by
 unfold jlE q122_0;intro _;refine⟨by decide,by decide,by decide,by decide,by decide,by decide,rfl⟩
theorem jmi:zn PR 33 jlU:=jT joT Tryz.func33 (kcC jmj (kcC jty kcN)) koN
theorem jwV:U.gE U.jku=0:=by decide+kernel
theorem jB1:(U.jnC U.jku).1=[8,8,3]:=by decide+kernel
theorem jB2:U.jey (U.jnC U.jku).2 100=[3]:=by decide+kernel
theorem jwU:(U.jCt U.jku).2=([8,8,3],110,true):=by decide+kernel
theorem jtQ:jpL:=by
 intro _;refine⟨by decide,by decide,by decide,?_⟩;have b:U.jB U.jku=0:=(jgL _).trans jwV;have c:U.yo U.jku=[8,8,3]:=(by rw[juT,if_pos jwV];exact jB1);have d:U.jka U.jku=[3]:=(by rw[jAd,if_pos jwV];exact jB2);have a:U.jdi U.jku=0:=(by unfold U.jdi;rw[if_pos b,jwU,if_pos rfl]);have e:U.jg9 U.jku=[8,8,3]:=(by unfold U.jg9;rw[if_pos a,jwU]);have f:U.jg8 U.jku=110:=(by unfold U.jg8;rw[if_pos a,jwU]);rw[b,c,d,a,e,f];rfl
theorem jqI:zn PR 8 jp6:=jT jtQ Tryz.func8 (kcC jmi (kcC jkb (kcC jkV (kcC joA (kcC jvW kcN))))) koN
theorem jsC {d:DyD} (h:U.jgf d=false):U.jqm d:=by
 unfold U.jgf at h;rw[jDD] at h;exact jk7 h.1
end Go.X
namespace Go.X
open Go.Proofs
end Go.X
namespace Go.X
open Go.Proofs
section
attribute [local irreducible] U.wT U.on U.joF
end
section
attribute [local irreducible] U.joF
end
section
attribute [local irreducible] U.gE U.joF
end
end Go.X

namespace Go.X
section
attribute [local irreducible] U.w5 U.jaV U.kw U.wT
end
section
attribute [local irreducible] U.jaV U.kw U.wT U.qd
end
end Go.X
namespace Go.X
open Go.Proofs
section
attribute [local irreducible] U.w5 U.kw
end
end Go.X


namespace Go.X
namespace U
def jzn (d:DyD) (p:Int) (a:List Int) (s:ShD):List Int:=if wT d p (a++[jil s])=true then a++[jil s] else a
def jrO (d:DyD) (p:Int) (l:List ShD):List Int:=l.foldl (jzn d p) []
def jBC (p:Int) (s:ShD):Bool:=decide (vZ s=p)
def jCY (d:DyD) (p:Int):List ShD:=(juE d).filter (jBC p)
end U
theorem jCq {α:Type} {P:List α->Prop} (nil:P []) (snoc:∀l s,P l->P (l++[s])):∀l,P l:=by
 have h:∀r:List α,P r.reverse:=by
  intro r
  induction r with
  |nil=>exact nil
  |cons a r b=>rw[List.reverse_cons];exact snoc _ _ b
 intro l;have:=h l.reverse
 rwa [List.reverse_reverse] at this
theorem jpA (d:DyD) (p:Int) (l:List ShD) (s:ShD):U.jrO d p (l++[s])=U.jzn d p (U.jrO d p l) s:=by
 unfold U.jrO;rw[jDI];rfl
theorem jxm {d:DyD} (h:0<=U.jtM d) (p:Int):U.wT d p []=true:=by
 show(true&&(true&&decide ((0:Int)<=U.jtM d)))=true;rw[decide_eq_true h];rfl
theorem jzc {d:DyD} (h:0<=U.jtM d) (p:Int) (l:List ShD):U.wT d p (U.jrO d p l)=true:=by
 induction l using jCq with
 |nil=>exact jxm h p
 |snoc l s a=>
  rw[jpA];unfold U.jzn
  split
  .assumption
  .exact a
attribute [local irreducible] U.zW U.wT U.jjK U.on U.jN jpi U.jcr U.jy in
theorem jzb {d:DyD} (h:U.jB d=0) {i:Nat} (hi:i<(U.jN d).length) (p:Nat) (ih:∀q:Nat,nth (U.zW (U.jcr d) (U.jN d) i).1 q=U.jrO d (q:Int) ((((U.jN d).take i).filter (jpi d)).filter (U.jBC (q:Int)))) (hrd:U.rd (U.jcr d)=d) (hml:U.y8 (U.jcr d)=U.jy d (U.jq d).length)
 (hx:(U.zW (U.jcr d) (U.jN d) i).1.length=(U.jl (U.jj d)).length) (hdec:jpi d=U.kd (U.zo (U.jN d) (U.jN d).length))
 (hnew:jpi d (nth (U.jN d) i)=true->(nth (U.zW (U.jcr d) (U.jN d) i).1 (U.vZ (nth (U.jN d) i)).toNat++[U.jil (nth (U.jN d) i)]).Nodup/\∀b∈nth (U.zW (U.jcr d) (U.jN d) i).1 (U.vZ (nth (U.jN d) i)).toNat++[U.jil (nth (U.jN d) i)],U.qc d b):
 nth (U.zW (U.jcr d) (U.jN d) (i+1)).1 p=U.jrO d (p:Int) ((((U.jN d).take (i+1)).filter (jpi d)).filter (U.jBC (p:Int))):=by
 have hD:=(zq h).1
 have hsf:=jeq hD.2.2 (qP.1 (L.mem_nth (l:=U.jN d) (i:=i) hi))
 rw[L.filter_take hi,List.filter_append]
 cases hc:jpi d (nth (U.jN d) i) with
 |false=>
  rw[hdec] at hc
  rw[jlQ hi hc,if_neg (by simp),List.filter_nil,jDF]
  exact ih p
 |true=>
  have hn:=hnew hc
  have hcan:U.jjK d (U.jy d (U.jq d).length) (U.vZ (nth (U.jN d) i)) (nth (U.zW (U.jcr d) (U.jN d) i).1 (U.vZ (nth (U.jN d) i)).toNat++[U.jil (nth (U.jN d) i)])=U.wT d (U.vZ (nth (U.jN d) i)) (nth (U.zW (U.jcr d) (U.jN d) i).1 (U.vZ (nth (U.jN d) i)).toNat++[U.jil (nth (U.jN d) i)]):=
   jrC hn.1 (fun c hc=>jqW hD (hn.2 c hc) hsf.1)
  rw[hdec] at hc
  rw[if_pos rfl]
  have hsp:((U.vZ (nth (U.jN d) i)).toNat:Int)=U.vZ (nth (U.jN d) i):=by omega
  by_cases hp:U.vZ (nth (U.jN d) i)=(p:Int)
  .have e1:List.filter (U.jBC (p:Int)) [nth (U.jN d) i]=[nth (U.jN d) i]:=by
    rw[List.filter_cons_of_pos]
    .rfl
    .exact decide_eq_true hp
   have ep:(U.vZ (nth (U.jN d) i)).toNat=p:=by omega
   rw[e1,jpA,<-ih p]
   rw[ep,hp] at hcan
   unfold U.jzn
   cases hk:U.wT d (p:Int) (nth (U.zW (U.jcr d) (U.jN d) i).1 p++[U.jil (nth (U.jN d) i)]) with
   |true=>
    rw[hk] at hcan
    rw[jlP hi hc (by rw[hrd,hml,ep,hp];exact hcan),if_pos rfl,ep]
    show nth ((U.zW (U.jcr d) (U.jN d) i).1.set p _) p=_
    rw[L.nth_set (by omega),if_pos rfl]
   |false=>
    rw[hk] at hcan
    rw[jrW hi hc (by rw[hrd,hml,ep,hp];exact hcan),if_neg (by simp)]
  .have e1:List.filter (U.jBC (p:Int)) [nth (U.jN d) i]=[]:=by
    rw[List.filter_cons_of_neg]
    .rfl
    .unfold U.jBC;simpa using hp
   rw[e1,jDF,<-ih p]
   cases hk:U.wT d (U.vZ (nth (U.jN d) i)) (nth (U.zW (U.jcr d) (U.jN d) i).1 (U.vZ (nth (U.jN d) i)).toNat++[U.jil (nth (U.jN d) i)]) with
   |true=>
    rw[hk] at hcan
    rw[jlP hi hc (by rw[hrd,hml];exact hcan)]
    show nth ((U.zW (U.jcr d) (U.jN d) i).1.set _ _) p=_
    rw[L.nth_set (by omega),if_neg (by omega)]
   |false=>
    rw[hk] at hcan
    rw[jrW hi hc (by rw[hrd,hml];exact hcan)]
theorem jxx {d:DyD} (h:U.jB d=0):∀i,i<=(U.jN d).length->∀p:Nat,nth (U.zW (U.jcr d) (U.jN d) i).1 p=U.jrO d (p:Int) ((((U.jN d).take i).filter (jpi d)).filter (U.jBC (p:Int)))
 |0,_=>fun p=>by
  have j:U.jyp (U.jAn d):=fun x m=>(List.mem_replicate.1 m).2
  exact jmr j p
 |i+1,hi=>fun p=>by
  have n:=jxx h i (by omega)
  obtain⟨⟨_,o⟩,⟨k,b⟩,c⟩:=jn5 h
  have f:=(zq h).1
  have a:=jlR (r:=U.jcr d) (l:=U.jN d) f.2.2 (fun s e=>qP.1 e) (qw d) k b c i (by omega)
  refine jzb h hi p n rfl rfl a.1 rfl fun g=> ?_
  have:=jrV (r:=U.jcr d) (l:=U.jN d) f.2.2 (fun s e=>qP.1 e) (qw d) hi a g
  exact⟨this.1,this.2.1⟩
theorem jBA {d:DyD} (h:U.jB d=0) (p:Nat):nth (U.zP (U.jfv d)) p=U.jrO d (p:Int) (U.jCY d (p:Int)):=by
 have:=jxx h _ (jDf _) p;rw[jD3,jzi h] at this;exact this
end Go.X
namespace Go.X
theorem jrA {d:DyD}:U.gE d=0↔U.joF d/\∀a∈U.kg d,∀b∈U.kg d,U.wy a=U.wy b->a=b:=by
 refine⟨fun h=>zq ((jgL d).trans h),fun⟨⟨c,e,f⟩,g⟩=> ?_⟩;unfold U.gE;rw[c,e,f,(jpq _).2 g];rfl
theorem jBK {d:DyD} (h:U.gE d=0):0<=U.jtM d:=(zb (jrA.1 h).1.2.2).2.2.2.1.1
end Go.X


namespace Go.X
instance:Inhabited (Nat×Nat):=⟨(0,0)⟩
end Go.X
namespace Go.X
structure jC7 (d:DyD) (p:Nat) (l:List Int):Prop where
 nd:l.Nodup
 inn:∀b∈l,U.qc d b/\U.vH (nth (U.jnC d).1 b.toNat) (p:Int)=true
 len:l.length=(U.on (U.jnC d).1 (p:Int)).length
 far:l.Pairwise (fun a b=>0<=U.kP d a b)
 mins:U.jmv d l<=U.jtM d
theorem jx2 {d:DyD} (h:U.gE d=0) {p:Nat} (v:p<(U.jl (U.jj d)).length):jC7 d p (U.yR d (p:Int)):=by
 have l:=(jgL d).trans h;have t:=(jrA.1 h).1;have u:=jkQ l;have o:=jiq l;have k:U.jsi d (p:Int):=⟨jDK p,by omega⟩;obtain⟨n,m⟩:=u.row p;have s:=jBA l p;have i:U.wT d (p:Int) (nth (U.zP (U.jfv d)) p)=true:=(by rw[s];exact jzc (jBK h) _ _);have e:U.yR d (p:Int)=U.jd d (nth (U.zP (U.jfv d)) p):=rfl;have a:(U.yR d (p:Int)).Perm (nth (U.zP (U.jfv d)) p):=(by rw[e];exact j8 _);have r:U.jjK d (U.jy d (U.jq d).length) (p:Int) (nth (U.zP (U.jfv d)) p)=true:=(jrC n fun b c=>jqW t (m b c) k).trans i;unfold U.jjK at r;have q:=(jsL _ _ _ _).1 r;rw[<-e] at q;refine⟨a.nodup_iff.2 n,fun b c=> ?_,?_,q.2.1,q.2.2⟩
 .have j:=a.mem_iff.1 c;have f:=m b j;refine⟨f,?_⟩;have g:=f;unfold U.qc at g;rw[jmC (o.set _ (by omega))];exact(o.bit b.toNat (by omega) p).2 ⟨v,by show((b.toNat:Nat):Int)∈nth (U.zP (U.jfv d)) p;rw[show((b.toNat:Nat):Int)=b by omega];exact j⟩
 .rw[a.length_eq];exact(jvR o k n m).length_eq
theorem jzp (d:DyD) (l:List Int):∀n,(U.w9 d l n<=1440/\∀i,i<n->U.w9 d l n<=U.kP d (nth l i) (nth l (i+1)))/\((∀i,i<n->0<=U.kP d (nth l i) (nth l (i+1)))->0<=U.w9 d l n)
 |0=>⟨⟨jEg _,fun i hi=>by omega⟩,fun _=>by show(0:Int)<=1440;omega⟩
 |n+1=>by
  obtain⟨⟨j,a⟩,b⟩:=jzp d l n
  have e:U.w9 d l (n+1)=min (U.w9 d l n) (U.kP d (nth l n) (nth l (n+1))):=by
   unfold U.w9;rw[jDW,jDI];rfl
  rw[e];refine⟨⟨by omega,fun i hi=> ?_⟩,fun h=> ?_⟩
  .by_cases g:i=n
   .subst g;omega
   .have:=a i (by omega);omega
  .have c:=b fun i hi=>h i (by omega)
   have f:=h n (by omega);omega
theorem jmd {α:Type} [Inhabited α] {R:α->α->Prop} {l:List α} (h:l.Pairwise R) {i j:Nat} (a:i<j) (b:j<l.length):R (nth l i) (nth l j):=by
 rw[L.nth_lt (by omega),L.nth_lt b];exact jD6.1 h i j (by omega) b a
end Go.X
namespace Go.X
open Go.Proofs
def jp7:jX:=⟨[.val tDy],[.bool],false,fun _=>[],fun d=>(!U.jgf d.1&&decide (U.gE d.1=0),())⟩
def jpM:Prop:=∀(d:DyD×Unit),((!U.jgf d.1)=true->(U.jq d.1).length<=1000000)/\(!U.jgf d.1&&decide (U.gE d.1=0),())=(!U.jgf d.1&&decide (U.gE d.1=0),())
end Go.X
namespace Go.X
open Go.Proofs
theorem jtR:jpM:=by
 rintro⟨d,⟨⟩⟩;refine⟨fun h=> ?_,rfl⟩;have h:(!U.jgf d)=true:=h;rw[jDH] at h;have:=(jsC (d:=d) h).2.2.1;show(U.jq d).length<=1000000;omega
theorem jqJ:zn PR 7 jp7:=jT jtR Tryz.func7 (kcC jvT (kcC jiK kcN)) koN
end Go.X


namespace Go.X
open Go.Proofs
namespace U
def jnz (d:DyD) (ts:List (List Int)) (a n:Nat):Prop:=∀b:Nat,b<n->lo (nth (nth (jE d) a) b)<=nth (nth ts a) b/\nth (nth ts a) b<=hi (nth (nth (jE d) a) b)
def jxR (d:DyD) (ts:List (List Int)) (n:Nat):Prop:=∀a:Nat,a<n->(nth ts a).length=(jE d).length/\jnz d ts a ts.length
end U
def jc5:jX:=jwk [tDy,.slice (.slice .int)]
def jdS:Ann:=fun r=>match r with
 |4=>some fun σ=>{X:=Nat,sl:=fun a=>[(5,.dat .int (a:Int))],ob:=fun _=>[],inv:=fun a=>a<=(gd (.slice (.slice .int)) σ 1).length/\U.jxR (gb tDy σ 2) (gd (.slice (.slice .int)) σ 1) a,mu:=fun a=>(gd (.slice (.slice .int)) σ 1).length-a}
 |9=>some fun σ=>{X:=Nat,sl:=fun b=>[(6,.dat .int (b:Int))],ob:=fun _=>[],inv:=fun b=>b<=(gd (.slice (.slice .int)) σ 1).length/\U.jnz (gb tDy σ 2) (gd (.slice (.slice .int)) σ 1) (gd .int σ 5).toNat b,mu:=fun b=>(gd (.slice (.slice .int)) σ 1).length-b}
 |17=>some fun σ=>{X:=Nat,sl:=fun p=>[(9,.dat .int (p:Int))],ob:=fun _=>[],inv:=fun p=>p<=(U.jl (U.jj (gb tDy σ 2))).length,mu:=fun p=>(U.jl (U.jj (gb tDy σ 2))).length-p}
 |24=>some fun σ=>{X:=Nat,sl:=fun i=>[(14,.dat .int (i:Int)),(13,.dat .int (U.zM (gb tDy σ 2) (gd (.slice .int) σ 10) i))],ob:=fun _=>[],inv:=fun i=>i<=(gd (.slice .int) σ 10).length,mu:=fun i=>(gd (.slice .int) σ 10).length-i}
 |31=>some fun σ=>{X:=Nat,sl:=fun k=>[(16,.dat .int (k:Int))],ob:=fun _=>[],inv:=fun k=>(k:Int)<=gd .int σ 14,mu:=fun k=>(gd .int σ 14-(k:Int)).toNat}
 |_=>none
abbrev q125_1 (d:DyD×List (List Int)×Unit)(x:Nat)(a:Nat):=(nth (nth d.2.1 (x:Int).toNat) (a:Int).toNat<(nth (nth d.1.2.1 (x:Int).toNat) (a:Int).toNat).1)
abbrev q125_3 (d:DyD×List (List Int)×Unit)(x:Nat):=(U.jC d.1 (x:Int))
abbrev q125_2 (d:DyD×List (List Int)×Unit)(x:Nat)(a:Nat):=(nth d.1.2.2.1 (nth (q125_3 d x) (a:Int).toNat).toNat)
abbrev q125_5 (d:DyD×List (List Int)×Unit)(x:Nat):=(!(decide (U.jcE d.1 (U.je d.1 (x:Int))≠0)||decide (U.gU d.1 (x:Int)<0)))
abbrev q125_7 (d:DyD×List (List Int)×Unit)(x:Nat)(a:Nat):=(nth (q125_3 d x) (a:Int).toNat)
abbrev q125_0 (d:DyD×List (List Int)×Unit)(x:Nat)(a:Nat):=(nth d.1.2.2.1 (q125_7 d x a).toNat)
abbrev q125_8 (d:DyD×List (List Int)×Unit)(x:Nat):=(↑(q125_3 d x).length:Int)
abbrev q125_6 (d:DyD×List (List Int)×Unit)(x:Nat):=(decide (U.jcE d.1 (U.je d.1 (x:Int))≠0)||decide (U.gU d.1 (x:Int)<0)||decide ((q125_8 d x)≠(↑(U.on (U.yo d.1) (x:Int)).length:Int)))
abbrev q125_9:=(Ty.int.pair (Ty.int.pair Ty.unit))
abbrev q125_10 (d:DyD×List (List Int)×Unit)(x:Nat)(a:Nat):=(decide (q125_1 d x a)||decide ((nth (nth d.1.2.1 (x:Int).toNat) (a:Int).toNat).2.1<nth (nth d.2.1 (x:Int).toNat) (a:Int).toNat))
abbrev q125_11 (d:DyD×List (List Int)×Unit):=(!(!U.jgf d.1&&decide (U.gE d.1=0))||decide ((d.2.1.length:Int)≠(d.1.2.1.length:Int)))
abbrev q125_12 (d:DyD×List (List Int)×Unit):=(decide (U.jB d.1≠0)||decide ((↑(U.yo d.1).length:Int)≠(d.1.2.2.1.length:Int)))
abbrev q125_13 (d:DyD×List (List Int)×Unit)(x:Nat):=(↑(nth d.2.1 (x:Int).toNat).length:Int)
abbrev q125_14 (d:DyD×List (List Int)×Unit)(x:Nat)(b:Nat)(a:Nat):=((q125_0 d x b).2.2.1-(q125_2 d x a).2.2.2.1-d.1.2.2.2.1-nth (nth d.2.1 (q125_2 d x a).2.1.toNat) (q125_0 d x b).2.1.toNat<0)
abbrev q125_4 (d:DyD×List (List Int)×Unit)(x:Nat)(a:Nat)(b:Nat):=(decide (nth (q125_3 d x) (a:Int).toNat=nth (q125_3 d x) (b:Int).toNat)||decide (q125_14 d x b a)||decide ((a:Int)=(b:Int)-1)&&decide ((q125_0 d x b).2.2.1-(q125_2 d x a).2.2.2.1-d.1.2.2.2.1-nth (nth d.2.1 (q125_2 d x a).2.1.toNat) (q125_0 d x b).2.1.toNat<U.gU d.1 (x:Int)))
abbrev q125_15:=(Ty.int.pair (Ty.int.pair (Ty.int.pair q125_9)))
abbrev q125_16 (x:Nat):=((0=(x:Int)/\True)/\True)
def jcS:Prop:=∀(d:DyD×List (List Int)×Unit),jmQ 1048576 [(Ty.int.pair ((Ty.int.slice.pair (Ty.int.pair (Ty.int.pair (Ty.int.slice.pair (Ty.bool.pair (Ty.int.pair Ty.unit)))))).slice.pair ((Ty.int.pair (Ty.int.pair (Ty.bool.pair Ty.unit))).slice.pair Ty.unit))).pair (q125_9.slice.slice.pair (((Ty.int.pair q125_15).pair (Ty.int.pair q125_9)).slice.pair (Ty.int.pair (Ty.int.pair (q125_15.slice.pair Ty.unit))))),Ty.int.slice.slice] d->((!!(!U.jgf d.1&&decide (U.gE d.1=0)))=true->d.2.1.length<4611686018427387904)->((!!(!U.jgf d.1&&decide (U.gE d.1=0)))=true->d.1.2.1.length<4611686018427387904)->((q125_11 d)=true->(true,())=(true,()))/\((q125_11 d)=false->(∃(x:Nat),(q125_16 x)/\x<=d.2.1.length/\U.jxR d.1 d.2.1 x)/\∀(x:Nat),x<=d.2.1.length/\U.jxR d.1 d.2.1 x->d.2.1.length<4611686018427387904->(decide ((x:Int)<(d.2.1.length:Int))=true->0<=(x:Int)/\(x:Int)<(d.2.1.length:Int)/\(decide ((q125_13 d x)≠(d.1.2.1.length:Int))=true->(true,())=(true,()))/\(decide ((q125_13 d x)≠(d.1.2.1.length:Int))=false->(∃(c:Nat),((0=(c:Int)/\True)/\True)/\c<=d.2.1.length/\U.jnz d.1 d.2.1 (x:Int).toNat c)/\∀(c:Nat),c<=d.2.1.length/\U.jnz d.1 d.2.1 (x:Int).toNat c->d.2.1.length<4611686018427387904->(decide ((c:Int)<(d.2.1.length:Int))=true->0<=(x:Int)/\(x:Int)<(d.2.1.length:Int)/\0<=(c:Int)/\(c:Int)<(q125_13 d x)/\0<=(x:Int)/\(x:Int)<(d.1.2.1.length:Int)/\0<=(c:Int)/\(c:Int)<(↑(nth d.1.2.1 (x:Int).toNat).length:Int)/\((!decide (q125_1 d x c))=true->0<=(x:Int))/\((!decide (q125_1 d x c))=true->(x:Int)<(d.2.1.length:Int))/\((!decide (q125_1 d x c))=true->0<=(c:Int))/\((!decide (q125_1 d x c))=true->(c:Int)<(q125_13 d x))/\((!decide (q125_1 d x c))=true->0<=(x:Int))/\((!decide (q125_1 d x c))=true->(x:Int)<(d.1.2.1.length:Int))/\((!decide (q125_1 d x c))=true->0<=(c:Int))/\((!decide (q125_1 d x c))=true->(c:Int)<(↑(nth d.1.2.1 (x:Int).toNat).length:Int))/\((q125_10 d x c)=true->(true,())=(true,()))/\((q125_10 d x c)=false->jA ((c:Int)+1)/\∃(e:Nat),(((c:Int)+1=(e:Int)/\True)/\True)/\(e<=d.2.1.length/\U.jnz d.1 d.2.1 (x:Int).toNat e)/\d.2.1.length-e<d.2.1.length-c))/\(decide ((c:Int)<(d.2.1.length:Int))=false->jA ((x:Int)+1)/\∃(e:Nat),(((x:Int)+1=(e:Int)/\True)/\True)/\(e<=d.2.1.length/\U.jxR d.1 d.2.1 e)/\d.2.1.length-e<d.2.1.length-x)))/\(decide ((x:Int)<(d.2.1.length:Int))=false->(U.kg d.1).length<=100000/\(((!decide (U.jB d.1≠0))=true->(U.yo d.1).length<4611686018427387904)->((!decide (U.jB d.1≠0))=true->d.1.2.2.1.length<4611686018427387904)->((q125_12 d)=true->(false,())=(true,()))/\((q125_12 d)=false->(∃(x:Nat),(q125_16 x)/\x<=(U.jl (U.jj d.1)).length)/\∀(x:Nat),x<=(U.jl (U.jj d.1)).length->d.1.1.2.1.length<4611686018427387904->(decide ((x:Int)<(d.1.1.2.1.length:Int))=true->(U.kg d.1).length<=100000/\(((q125_5 d x)=true->(q125_3 d x).length<4611686018427387904)->((q125_5 d x)=true->(U.yo d.1).length<=1000)/\((q125_5 d x)=true->0<=(x:Int)/\(x:Int)<=63)/\(((q125_5 d x)=true->(U.on (U.yo d.1) (x:Int)).length<4611686018427387904)->((q125_6 d x)=true->(false,())=(true,()))/\((q125_6 d x)=false->(∃(a:Nat),((0=(a:Int)/\0=U.zM d.1 (q125_3 d x) a/\True)/\True)/\a<=(q125_3 d x).length)/\∀(a:Nat),a<=(q125_3 d x).length->(q125_3 d x).length<4611686018427387904->(decide ((a:Int)<(q125_8 d x))=true->0<=(a:Int)/\(a:Int)<(q125_8 d x)/\((!!U.jeT d.1 (q125_7 d x a))=true->0<=(a:Int))/\((!!U.jeT d.1 (q125_7 d x a))=true->(a:Int)<(q125_8 d x))/\((!!U.jeT d.1 (q125_7 d x a))=true->0<=nth (q125_3 d x) (a:Int).toNat)/\((!!U.jeT d.1 (q125_7 d x a))=true->nth (q125_3 d x) (a:Int).toNat<(↑(U.yo d.1).length:Int))/\((!!U.jeT d.1 (q125_7 d x a))=true->0<=(x:Int)/\(x:Int)<=63)/\((!U.jeT d.1 (q125_7 d x a)|| !U.vH (nth (U.yo d.1) (q125_7 d x a).toNat) (x:Int))=true->(false,())=(true,()))/\((!U.jeT d.1 (q125_7 d x a)|| !U.vH (nth (U.yo d.1) (q125_7 d x a).toNat) (x:Int))=false->0<=(a:Int)/\(a:Int)<(q125_8 d x)/\0<=nth (q125_3 d x) (a:Int).toNat/\nth (q125_3 d x) (a:Int).toNat<(d.1.2.2.1.length:Int)/\jA ((q125_0 d x a).2.2.2.1-(q125_0 d x a).2.2.1)/\jA (U.zM d.1 (q125_3 d x) a+((q125_0 d x a).2.2.2.1-(q125_0 d x a).2.2.1))/\(∃(x:Nat),(q125_16 x)/\(x:Int)<=(a:Int))/\∀(b:Nat),(b:Int)<=(a:Int)->(decide ((b:Int)<(a:Int))=true->0<=(b:Int)/\(b:Int)<(q125_8 d x)/\0<=nth (q125_3 d x) (b:Int).toNat/\nth (q125_3 d x) (b:Int).toNat<(d.1.2.2.1.length:Int)/\jA ((q125_0 d x a).2.2.1-(q125_2 d x b).2.2.2.1)/\jA ((q125_0 d x a).2.2.1-(q125_2 d x b).2.2.2.1-d.1.2.2.2.1)/\(0:Int)<=(q125_2 d x b).2.1/\(q125_2 d x b).2.1<(d.2.1.length:Int)/\(0:Int)<=(q125_0 d x a).2.1/\(q125_0 d x a).2.1<(↑(nth d.2.1 (q125_2 d x b).2.1.toNat).length:Int)/\jA ((q125_0 d x a).2.2.1-(q125_2 d x b).2.2.2.1-d.1.2.2.2.1-nth (nth d.2.1 (q125_2 d x b).2.1.toNat) (q125_0 d x a).2.1.toNat)/\0<=(b:Int)/\(b:Int)<(q125_8 d x)/\0<=(a:Int)/\(a:Int)<(q125_8 d x)/\((!(decide (nth (q125_3 d x) (b:Int).toNat=nth (q125_3 d x) (a:Int).toNat)||decide (q125_14 d x a b)))=true->jA ((a:Int)-1))/\((q125_4 d x b a)=true->(false,())=(true,()))/\((q125_4 d x b a)=false->jA ((b:Int)+1)/\∃(e:Nat),(((b:Int)+1=(e:Int)/\True)/\True)/\(e:Int)<=(a:Int)/\((a:Int)-(e:Int)).toNat<((a:Int)-(b:Int)).toNat))/\(decide ((b:Int)<(a:Int))=false->jA ((a:Int)+1)/\∃(e:Nat),(((a:Int)+1=(e:Int)/\U.zM d.1 (q125_3 d x) a+((q125_0 d x a).2.2.2.1-(q125_0 d x a).2.2.1)=U.zM d.1 (q125_3 d x) e/\True)/\True)/\e<=(q125_3 d x).length/\(q125_3 d x).length-e<(q125_3 d x).length-a)))/\(decide ((a:Int)<(q125_8 d x))=false->(decide (d.1.2.2.2.2.1<U.zM d.1 (q125_3 d x) a)=true->(false,())=(true,()))/\(decide (d.1.2.2.2.2.1<U.zM d.1 (q125_3 d x) a)=false->jA ((x:Int)+1)/\∃(e:Nat),(((x:Int)+1=(e:Int)/\True)/\True)/\e<=(U.jl (U.jj d.1)).length/\(U.jl (U.jj d.1)).length-e<(U.jl (U.jj d.1)).length-x))))))/\(decide ((x:Int)<(d.1.1.2.1.length:Int))=false->(true,())=(true,()))))))
end Go.X
namespace Go.X
open Go.Proofs
theorem jv2 {α:Type} [DecidableEq α] {a b:α} (h:decide (a≠b)=false):a=b:=Decidable.not_not.1 (of_decide_eq_false h)
end Go.X
namespace Go.X
open Go.Proofs
theorem jrQ {d:DyD} (h:U.zr d=true) {a b:Nat} (g:a<(U.jE d).length) (j:b<(U.jE d).length):(nth (U.jE d) a).length=(U.jE d).length/\0<=U.lo (nth (nth (U.jE d) a) b)/\U.hi (nth (nth (U.jE d) a) b)<=300:=by
 have e:=(zb h).2.2.2.2.2.1 _ (L.mem_nth (l:=U.jE d) (i:=a) g);unfold U.qX at e;rw[jDg,jDO] at e;have f:=of_decide_eq_true e.1;have c:=e.2 _ (L.mem_nth (l:=nth (U.jE d) a) (i:=b) (by omega));unfold U.jdp at c;have c:=of_decide_eq_true c;exact⟨f,c.1,c.2.2⟩
theorem jeV:jcS:=by
 unfold jcS q125_16 q125_15 q125_4 q125_14 q125_13 q125_12 q125_11 q125_10 q125_9 q125_6 q125_8 q125_0 q125_7 q125_5 q125_2 q125_3 q125_1;rintro⟨d,ts,⟨⟩⟩ _ _ _;refine⟨fun _=>rfl,fun h=>⟨⟨0,⟨⟨rfl,trivial⟩,trivial⟩,jDq _,fun a H=>by omega⟩,fun a ⟨H,r⟩ na=>⟨fun g=> ?_,fun g=> ?_⟩⟩⟩
 all_goals
  have h:(!(!U.jgf d&&decide (U.gE d=0))||decide ((ts.length:Int)≠((U.jE d).length:Int)))=false:=h;simp only[jDD,jD5,jDg,jDH] at h;obtain⟨⟨hf,v⟩,Z⟩:=h;have v:U.gE d=0:=of_decide_eq_true v;have Z:ts.length=(U.jE d).length:=(by have:=jv2 Z;omega);have q:=(jrA.1 v).1;have H:a<=ts.length:=H;have r:U.jxR d ts a:=r;have na:ts.length<4611686018427387904:=na;have t5:(U.jE d).length<=5:=(zb q.2.2).2.1.2
 .have g:(a:Int)<(ts.length:Int):=of_decide_eq_true g;have x:(0:Int)<=(a:Int):=jDK a;simp only[jDm];refine⟨x,g,fun _=>trivial,fun k=>⟨⟨0,⟨⟨rfl,trivial⟩,trivial⟩,jDq _,fun b u=>by omega⟩,fun b ⟨u,f⟩ _=>⟨fun n=> ?_,fun n=>⟨L.in64 (by omega) (by omega),a+1,⟨⟨by simp,trivial⟩,trivial⟩,⟨by show a+1<=ts.length;omega,fun j Y=> ?_⟩,by show ts.length-(a+1)<ts.length-a;omega⟩⟩⟩⟩
  .have k:(nth ts a).length=(U.jE d).length:=(by have k:((nth ts a).length:Int)=((U.jE d).length:Int):=jv2 k;omega);have u:b<=ts.length:=u;have f:U.jnz d ts a b:=f;have n:(b:Int)<(ts.length:Int):=of_decide_eq_true n;have D:(0:Int)<=(b:Int):=jDK b;have hrl:=(jrQ q.2.2 (a:=a) (b:=b) (by omega) (by omega)).1;have q1:(b:Int)<((nth ts a).length:Int):=(by omega);have q2:(a:Int)<((U.jE d).length:Int):=(by omega);have q3:(b:Int)<((nth (U.jE d) a).length:Int):=(by omega);refine⟨x,g,D,q1,x,q2,D,q3,fun _=>x,fun _=>g,fun _=>D,fun _=>q1,fun _=>x,fun _=>q2,fun _=>D,fun _=>q3,fun _=>trivial,fun w=>⟨L.in64 (by omega) (by omega),b+1,⟨⟨by simp,trivial⟩,trivial⟩,⟨by show b+1<=ts.length;omega,fun j Y=> ?_⟩,by show ts.length-(b+1)<ts.length-b;omega⟩⟩;by_cases e:j=b
   .subst e;have w:(decide (nth (nth ts a) j<U.lo (nth (nth (U.jE d) a) j))||decide (U.hi (nth (nth (U.jE d) a) j)<nth (nth ts a) j))=false:=w;rw[jDD] at w;have k3:=of_decide_eq_false w.1;have k4:=of_decide_eq_false w.2;exact⟨by omega,by omega⟩
   .exact f j (by omega)
  .by_cases e:j=a
   .subst e;have k:(nth ts j).length=(U.jE d).length:=(by have k:((nth ts j).length:Int)=((U.jE d).length:Int):=jv2 k;omega);have f:U.jnz d ts j b:=f;have n:¬(b:Int)<(ts.length:Int):=of_decide_eq_false n;exact⟨k,fun c hc=>f c (by omega)⟩
   .exact r j (by omega)
 .have g:¬(a:Int)<(ts.length:Int):=of_decide_eq_false g;have ea:a=ts.length:=(by omega);subst ea;have S:=jsC hf;have hT:U.yo d=(U.jnC d).1:=(by rw[juT,if_pos v]);have G:U.jB d=0:=(jgL _).trans v;have l1:(U.jnC d).1.length=(U.jq d).length:=(jiq G).len;have hb4:(U.jq d).length<=4:=(zb q.2.2).1;have h8:(U.jl (U.jj d)).length<=8:=(jK q.1).2.2.1;have A:(U.kg d).length<=100000:=(by have:=S.2.2.2.1;omega);rw[hT];refine⟨A,fun _ _=>⟨fun k=> ?_,fun _=>⟨⟨0,⟨⟨rfl,trivial⟩,trivial⟩,jDq _⟩,fun p hp _=>⟨fun g=> ?_,fun _=>rfl⟩⟩⟩⟩
  .have k:(decide (U.jB d≠0)||decide (((U.jnC d).1.length:Int)≠((U.jq d).length:Int)))=true:=k;rw[G,l1] at k;simp at k
  .have g:(p:Int)<((U.jl (U.jj d)).length:Int):=of_decide_eq_true g;have p0:(0:Int)<=(p:Int):=jDK p;have o:=jx2 v (p:=p) (by omega);have F:U.jcE d (U.je d (p:Int))=0:=by
    have e:U.je d (p:Int)=true:=by
     unfold U.je U.ja;rw[decide_eq_true p0,decide_eq_true (by omega)];rfl
    unfold U.jcE;rw[if_pos G,e];rfl
   have eP:U.jC d (p:Int)=U.yR d (p:Int):=(by unfold U.jC;rw[if_pos F]);have eS:U.gU d (p:Int)=U.w9 d (U.yR d (p:Int)) ((U.yR d (p:Int)).length-1):=(by unfold U.gU;rw[if_pos F]);obtain⟨⟨_,s2⟩,X⟩:=jzp d (U.yR d (p:Int)) ((U.yR d (p:Int)).length-1);have X:=X fun i hi=>jmd o.far (i:=i) (j:=i+1) (by omega) (by omega)
   rw[<-eS] at s2 X;rw[eP,F];generalize hRt:U.yR d (p:Int)=R at*;have h4:R.length<=4:=(by have:=jz5 o.nd (fun b u=>(o.inn b u).1);omega);have P:=o.len;have C:(0:Int)<=(p:Int)/\(p:Int)<=63:=⟨p0,by omega⟩;refine⟨A,fun _=>⟨fun _=>by omega,fun _=>C,fun _=>⟨fun k=> ?_,fun _=>⟨⟨0,⟨⟨rfl,rfl,trivial⟩,trivial⟩,jDq _⟩,fun i hi _=>⟨fun n=> ?_,fun n=> ?_⟩⟩⟩⟩⟩
   .have k:(decide ((0:Int)≠0)||decide (U.gU d (p:Int)<0)||decide ((R.length:Int)≠((U.on (U.jnC d).1 (p:Int)).length:Int)))=true:=k;rw[P,decide_eq_false (show¬U.gU d (p:Int)<0 by omega)] at k;simp at k
   .have hi:i<=R.length:=hi;have n:(i:Int)<(R.length:Int):=of_decide_eq_true n;have B:(0:Int)<=(i:Int):=jDK i;obtain⟨z,M⟩:=o.inn _ (L.mem_nth (l:=R) (i:=i) (by omega));have K:=yj q.2.2 z
    have m:0<=nth R i/\nth R i<((U.jq d).length:Int):=z
    have hml:=jqU q.2.2 (s:=R) (fun b u=>(o.inn b u).1) i hi;have I:U.jeT d (nth R i)=true:=by
     unfold U.jeT U.ja;rw[decide_eq_true m.1,decide_eq_true (by omega)];rfl
    simp only[jDm];have Q:=zb q.2.2;refine⟨B,n,fun _=>B,fun _=>n,fun _=>m.1,fun _=>by rw[l1];exact m.2,fun _=>C,fun k=> ?_,fun _=>⟨B,n,m.1,m.2,?_,?_,⟨0,⟨⟨rfl,trivial⟩,trivial⟩,B⟩,fun j Y=>⟨fun E=> ?_,fun E=>⟨L.in64 (by omega) (by omega),i+1,⟨⟨by simp,(jds (by omega)).symm,trivial⟩,trivial⟩,by show i+1<=R.length;omega,by show R.length-(i+1)<R.length-i;omega⟩⟩⟩⟩
    .rw[I,M] at k;simp at k
    .show jA (U.jna (U.bk d (nth R i))-U.gF (U.bk d (nth R i)));exact L.in64 (by omega) (by omega)
    .show jA (U.zM d R i+(U.jna (U.bk d (nth R i))-U.gF (U.bk d (nth R i))));exact L.in64 (by omega) (by omega)
    .have E:(j:Int)<(i:Int):=of_decide_eq_true E;have j0:(0:Int)<=(j:Int):=jDK j;obtain⟨y,_⟩:=o.inn _ (L.mem_nth (l:=R) (i:=j) (by omega));have J:=yj q.2.2 y;have t:0<=nth R j/\nth R j<((U.jq d).length:Int):=y;have hsp:=jmd o.far (i:=j) (j:=i) (by omega) (by omega);have O:nth R j≠nth R i:=jmd o.nd (i:=j) (j:=i) (by omega) (by omega);have V:(U.jhL (U.bk d (nth R j))).toNat<ts.length:=(by omega);obtain⟨htl,T⟩:=r _ V;have W:(U.jhL (U.bk d (nth R i))).toNat<ts.length:=(by omega);have htt:=T _ W;have hrf:=jrQ q.2.2 (a:=(U.jhL (U.bk d (nth R j))).toNat) (b:=(U.jhL (U.bk d (nth R i))).toNat) (by omega) (by omega);have esp:U.kP d (nth R j) (nth R i)=U.gF (U.bk d (nth R i))-U.jna (U.bk d (nth R j))-U.jg7 d-U.hi (nth (nth (U.jE d) (U.jhL (U.bk d (nth R j))).toNat) (U.jhL (U.bk d (nth R i))).toNat):=rfl;have N:U.kP d (nth R j) (nth R i)<=U.gF (U.bk d (nth R i))-U.jna (U.bk d (nth R j))-U.jg7 d-nth (nth ts (U.jhL (U.bk d (nth R j))).toNat) (U.jhL (U.bk d (nth R i))).toNat:=(by omega);have hr1:=Q.2.2.1;have q4:U.jhL (U.bk d (nth R j))<(ts.length:Int):=(by omega);have q5:U.jhL (U.bk d (nth R i))<((nth ts (U.jhL (U.bk d (nth R j))).toNat).length:Int):=(by omega);refine⟨j0,by omega,t.1,t.2,?_,?_,J.1.1,q4,K.1.1,q5,?_,j0,by omega,B,n,fun _=>L.in64 (by omega) (by omega),fun k=> ?_,fun _=>⟨L.in64 (by omega) (by omega),j+1,⟨⟨by simp,trivial⟩,trivial⟩,by show((j+1:Nat):Int)<=(i:Int);omega,by show((i:Int)-((j+1:Nat):Int)).toNat<((i:Int)-(j:Int)).toNat;omega⟩⟩
     .show jA (U.gF (U.bk d (nth R i))-U.jna (U.bk d (nth R j)));exact L.in64 (by omega) (by omega)
     .show jA (U.gF (U.bk d (nth R i))-U.jna (U.bk d (nth R j))-U.jg7 d);exact L.in64 (by omega) (by omega)
     .show jA (U.gF (U.bk d (nth R i))-U.jna (U.bk d (nth R j))-U.jg7 d-nth (nth ts (U.jhL (U.bk d (nth R j))).toNat) (U.jhL (U.bk d (nth R i))).toNat);exact L.in64 (by omega) (by omega)
     .have k:(decide (nth R j=nth R i)||decide (U.gF (U.bk d (nth R i))-U.jna (U.bk d (nth R j))-U.jg7 d-nth (nth ts (U.jhL (U.bk d (nth R j))).toNat) (U.jhL (U.bk d (nth R i))).toNat<0)||(decide ((j:Int)=(i:Int)-1)&&decide (U.gF (U.bk d (nth R i))-U.jna (U.bk d (nth R j))-U.jg7 d-nth (nth ts (U.jhL (U.bk d (nth R j))).toNat) (U.jhL (U.bk d (nth R i))).toNat<U.gU d (p:Int))))=true:=k;simp only[jEp,jDg,decide_eq_true_eq] at k;rcases k with(k|k)|⟨k1,w⟩
      .exact absurd k O
      .omega
      .have:=s2 j (by omega);have e:j+1=i:=(by omega);rw[e] at this;omega
   .have hi:i<=R.length:=hi;have n:¬(i:Int)<(R.length:Int):=of_decide_eq_false n;have ei:i=R.length:=(by omega);subst ei;have hmm:U.zM d R R.length=U.jmv d R:=(by unfold U.zM;rw[jD3]);refine⟨fun k=> ?_,fun _=>⟨L.in64 (by omega) (by omega),p+1,⟨⟨by simp,trivial⟩,trivial⟩,by show p+1<=(U.jl (U.jj d)).length;omega,by show(U.jl (U.jj d)).length-(p+1)<(U.jl (U.jj d)).length-p;omega⟩⟩;have k:U.jtM d<U.zM d R R.length:=of_decide_eq_true k;have:=o.mins;omega
theorem jqK:zn PR 3 jc5:=wO jdS jeV Tryz.func3 (kcC jqJ (kcC jqI (kcC jkV (kcC jtD (kcC jyj (kcC jbt (kcC joB kcN))))))) koN
end Go.X
namespace Go.X
open Go.Proofs
end Go.X
namespace Go.X
open Go.Proofs
end Go.X
namespace Go.X
open Go.Proofs
end Go.X
namespace Go.X
open Go.Proofs Go.Proofs.YtphbhcmpebmadaaGreatDoor
noncomputable def jyy:Array Field:=match Tryz.prog.underlying 47 with|some (.struct fs)=>fs|_=> #[]
theorem jBW:Tryz.prog.globalNamed "handshape/rosters.some"=some 0:=by kernel_rfl
theorem jBV:(Tryz.prog.globals[0]?).map (·.type)=some 47:=by kernel_rfl
theorem jC3:Tryz.prog.underlying 47=some (.struct jyy):=by kernel_rfl
theorem jC4:Tryz.prog.underlying 3=some (.int .i64):=by kernel_rfl
theorem jC5:Tryz.prog.cellsOf 3=1:=by kernel_rfl
noncomputable def yy (i:Nat):Bool:=match jyy[i]? with|some f=>Nat.beq f.type 3&&Nat.beq f.offset i|none=>false
theorem fields:(yy 0&&yy 1&&yy 2&&yy 3&&yy 4&&yy 5)=true:=by kernel_rfl
theorem jyN {i:Nat} (h:yy i=true):∃f,jyy[i]? =some f/\f.type=3/\f.offset=i:=by
 unfold yy at h
 split at h
 .rename_i f a;rw[jDg] at h;exact⟨f,a,jDa h.1,jDa h.2⟩
 .cases h
theorem jyx {H:Type} {enc:TypeId×Value->H} {w:World} {base:Nat} {sp:Nat->Bool} {a:Bool} {n:Nat} {cs:List Value} {xs:List (DataW H×List MemPlace)} {d:List Int} (o:xs.map (·.1)=d.map fun z=>(DataW.lit (.int .i64 z):DataW H))
 (k:∀(i:Nat) (f:Field),jyy[i]? =some f->DataW.trod enc Tryz.prog w base sp a n f.type ((cs.drop f.offset).take (Tryz.prog.cellsOf f.type))=xs[i]?) {i:Nat} {z:Int} (hi:yy i=true) (q:d[i]? =some z):cs[i]? =some (.int .i64 z):=by
 obtain⟨f,g,h,j⟩:=jyN hi;have b:=k i f g;rw[h,j,jC5] at b;have c:(xs.map (·.1))[i]? =some (DataW.lit (.int .i64 z):DataW H):=(by rw[o,jEo,q];rfl);rw[jEo] at c;obtain⟨y,p,e⟩:=jEz.1 c;rw[p] at b;obtain⟨m,l,rfl,_⟩:=DataW.trod_int jC4 b;have e:m=z:=by
  have e:(DataW.lit (.int .i64 m):DataW H)=DataW.lit (.int .i64 z):=e;simpa only[DataW.lit.injEq,Lit.int.injEq,true_and] using e
 subst e;have:=congrArg (·[0]?) l;simpa[jEl,jDN] using this
theorem jCA {W:World} (h:laidMet Tryz.prog [("handshape/rosters.some",Rows.laid_handshape_rosters_some)] W):jBe (Hof W):=by
 obtain⟨ps,⟨H,E,cs,k,p,q,d,f,a,A,_,_⟩,_⟩:=h;obtain rfl:=Option.some.inj (jBW.symm.trans d);obtain rfl:=Option.some.inj (jBV.symm.trans f);obtain⟨xs,n,_,C,I,l,B⟩:=DataW.trod_struct jC3 A;have j:xs.map (·.1)=[0,1,0,0,0,1].map fun z=>(DataW.lit (.int .i64 z):DataW Unit):=by
  have e:=congrArg Prod.fst C;have e:(DataW.agg [.lit (.int .i64 0),.lit (.int .i64 1),.lit (.int .i64 0),.lit (.int .i64 0),.lit (.int .i64 0),.lit (.int .i64 1)]:DataW Unit)= .agg (xs.map (·.1)):=e;simp only[DataW.agg.injEq] at e;exact e.symm
 have fs:=fields;simp only[jDg] at fs;obtain⟨⟨⟨⟨⟨o,r⟩,s⟩,u⟩,v⟩,w⟩:=fs;have c:∀{i:Nat} {z:Int},yy i=true->([0,1,0,0,0,1]:List Int)[i]? =some z->cs[i]? =some (.int .i64 z):=fun hi D=>by
  have:=jyx j B hi D;simpa using this
 unfold World.var? at a;rw[jBW] at a;intro g x b;have b:jt [(0,(⟨.st [.int,.int,.int,.int,.int,.int],((0:Int),(1:Int),(0:Int),(0:Int),(0:Int),(1:Int),())⟩:(t:Ty)×t.Data))] g=some x:=b;have y:Hof W 0=some (.cells cs):=by
  unfold Hof;simp only[Option.bind_some] at a
  split at a
  .rename_i F E G e;rw[e];have:=Option.some.inj a;rw[this]
  .cases a
 have m:=zf _ _ _ b;simp only[List.mem_singleton,Prod.mk.injEq] at m;obtain⟨rfl,rfl⟩:=m;exact⟨cs,y,c o rfl,c r rfl,c s rfl,c u rfl,c v rfl,c w rfl,trivial⟩
end Go.X
