/-
  Part 7 of the road: a checked reading of bodies, and what the functions on it do (X25 X26 C5 PC15 C6 PC16 S6 S7 PC17 DM S8 S9 S10 S11 S12 S13 S14 C7 PC18 S15 S16 C9 PC21 PC22 C10 PC23 C11 S17 PC24 LW).
-/
import Derived.Test.YtphbhcmpebmadaaGreatDoorK06
import Derived.Test.YtphbhcmpebmadaaGreatDoorRows
import Derived.WalkKit
import Derived.ProofKit
import Derived.OpenShut
import Derived.JoinedCond
import Derived.Carry
import Derived.ChangeArms
import Derived.Test.YtphbhcmpebmadaaGreatDoorCards
import Derived.Test.YtphbhcmpebmadaaGreatDoorTie
import Derived.Deep.DeepHandedRow
import Derived.Lib.LaidTab
namespace Go.X
open Go.RowKit (Below)
open Go.Proofs.YtphbhcmpebmadaaGreatDoor
def Hof (w:World):Imm:=fun b=>match w.heap[b]? with|some (.cells c _ _)=>some (.cells c)|_=>none
theorem jCa (w:World) (d:jE1 (Hof w)):jbT (Hof w) w:=by
 refine⟨fun b c h=> ?_,d⟩;unfold Hof at h
 split at h
 .rename_i f T a e;simp at h;subst h;exact⟨T,a,e⟩
 .cases h
def Ty.fits (N:Nat):(t:Ty)->t.Data->Prop
 | .int,x=>jy x
 | .bool,_=>True
 | .uint k,x=>k.min<=x/\x<=k.max
 | .slice t,l=>l.length<=N/\∀x∈l,t.fits N x
 | .unit,_=>True
 | .pair a b,d=>a.fits N d.1/\b.fits N d.2
 | .map k v,l=>l.length<=N/\∀x∈l,k.fits N x.1/\v.fits N x.2
 | .ptr t,d=>∀x,d=some x->t.fits N x
theorem Ty.fits_mono {N M:Nat} (h:N<=M):∀(t:Ty) (d:t.Data),t.fits N d->t.fits M d
 | .int,_,k=>k
 | .bool,_,k=>k
 | .uint _,_,k=>k
 | .unit,_,k=>k
 | .slice t,_,k=>⟨jHi k.1 h,fun x c=>t.fits_mono h x (k.2 x c)⟩
 | .pair a b,_,k=>⟨a.fits_mono h _ k.1,b.fits_mono h _ k.2⟩
 | .map k v,_,q=>⟨jHi q.1 h,fun x c=>⟨k.fits_mono h _ (q.2 x c).1,v.fits_mono h _ (q.2 x c).2⟩⟩
 | .ptr t,_,k=>fun x c=>t.fits_mono h x (k x c)
def jFk (P:Program) (go:Nat->Ty->Bool):List Field->Nat->Ty->Bool
 |[],_,.unit=>true
 |f::fs,off,.pair a b=>Nat.beq f.offset off&&Nat.beq (P.cellsOf f.type) a.size&&go f.type a&&jFk P go fs (off+a.size) b
 |_,_,_=>false
def jDX (P:Program):Nat->Nat->Ty->Bool
 |0,_,_=>false
 |d+1,T,ty=>match ty,P.underlying T with
  | .int,some (.int .i64)=>true
  | .bool,some .bool=>true
  | .uint k,some (.int k')=>jaU k k'
  | .slice t,some (.slice e)=>Nat.beq (P.cellsOf e) t.size&&Nat.ble 1 t.size&&jDX P d e t
  | .pair a b,some (.struct fs)=>Nat.beq (P.cellsOf T) (Ty.pair a b).size&&jFk P (jDX P d) fs.toList 0 (.pair a b)
  |_,_=>false
section
variable {P:Program} {K:Type} {enc:TypeId×Value->K} {w:World}
theorem jFl (d:DataW K):1<=Rows.uptoBulk d:=by
 cases d with
 |lit l=>cases l<;>simp[Rows.uptoBulk]
 |_=>simp[Rows.uptoBulk]
theorem jqq (l:List (DataW K)):l.length<=Rows.uptoBulkAll l:=by
 induction l with
 |nil=>simp[Rows.uptoBulkAll]
 |cons x r a=>have:=jFl x;simp only[Rows.uptoBulkAll,jHD];omega
theorem jDZ {d:DataW K} {l:List (DataW K)} (h:d∈l):Rows.uptoBulk d<=Rows.uptoBulkAll l:=by
 induction l with
 |nil=>cases h
 |cons x r a=>
  simp only[Rows.uptoBulkAll];cases jG4.1 h with
  |inl e=>subst e;omega
  |inr e=>have:=a e;omega
theorem jzl {α:Type} {Q:Nat->α->Prop}:∀(n:Nat),(∀i,i<n->∃y,Q i y)->∃l:List α,l.length=n/\∀i y,l[i]? =some y->Q i y
 |0,_=>⟨[],rfl,fun i y h=>by simp at h⟩
 |n+1,h=>by
  obtain⟨l,b,c⟩:=jzl n (fun i hi=>h i (by omega))
  obtain⟨y,d⟩:=h n (by omega)
  refine⟨l++[y],by simp[b],fun i z a=> ?_⟩
  by_cases hi:i<l.length
  .rw[jHf hi] at a;exact c i z a
  .rw[jHe (by omega)] at a
   have:i=n:=by
    by_cases e:i-l.length=0
    .omega
    .obtain⟨k,hk⟩:∃k,i-l.length=k+1:=⟨i-l.length-1,by omega⟩;rw[hk] at a;simp at a
   subst this;rw[<-b] at a;simp at a;subst a;exact d
def jF3 (P:Program) (w:World) (enc:TypeId×Value->K) (T:Nat) (ty:Ty):Prop:=
 ∀(a:Nat) (cs:List Value) (x:DataW K×List MemPlace),DataW.trod enc P w 0 (fun _=>true) true a T cs=some x->Rows.uptoBulk x.1<=1048576->
  ∃d:ty.Data,ty.rd (Hof w) (fun i=>cs[i]?) d/\cs.length=ty.size/\ty.fits (Rows.uptoBulk x.1) d
theorem jFc {n:Int} (h:(Lit.int .i64 n).wf=true):jy n:=by
 simp[Lit.wf,IntKind.min,IntKind.max,IntKind.signed,IntKind.bits] at h;exact h
theorem jhz {go:Nat->Ty->Bool} (c:∀T ty,go T ty=true->jF3 P w enc T ty) {n:Nat} {cs:List Value}:
 ∀(fs:List Field) (off:Nat) (ty:Ty) (xs:List (DataW K×List MemPlace)),jFk P go fs off ty=true->xs.length=fs.length->
  (∀(i:Nat) (f:Field),fs[i]? =some f->DataW.trod enc P w 0 (fun _=>true) true n f.type ((cs.drop f.offset).take (P.cellsOf f.type))=xs[i]?)->Rows.uptoBulkAll (xs.map (·.1))<=1048576->
  ∃d:ty.Data,ty.rd (Hof w) (fun i=>cs[off+i]?) d/\ty.fits (Rows.uptoBulkAll (xs.map (·.1))) d
 |[],off,ty,xs,h,g,e,j=>by
  cases ty<;>simp[jFk] at h
  exact⟨(),trivial,trivial⟩
 |f::fs,off,ty,[],h,g,e,j=>by simp at g
 |f::fs,off,ty,x::xs,h,g,e,j=>by
  cases ty<;>simp[jFk] at h
  rename_i a b
  obtain⟨⟨⟨q,v⟩,r⟩,s⟩:=h
  simp only[jH8,Rows.uptoBulkAll] at j
  have k:=e 0 f (by simp)
  simp only[List.getElem?_cons_zero] at k
  obtain⟨d,t,y,u⟩:=c _ _ r _ _ _ k (by omega)
  obtain⟨l,o,p⟩:=jhz c fs (off+a.size) b xs s (by simpa using g) (fun i m hi=>by simpa using e (i+1) m (by simpa using hi)) (by omega)
  refine⟨(d,l),⟨?_,?_⟩,?_,?_⟩
  .refine Ty.rd_congr a _ _ _ (fun i hi=> ?_) t
   rw[jHr (by omega),jHI,q]
  .refine Ty.rd_congr b _ _ _ (fun i hi=> ?_) o
   rw[jIa]
  .exact a.fits_mono (by simp[Rows.uptoBulkAll]) _ u
  .exact b.fits_mono (by simp[Rows.uptoBulkAll]) _ p
theorem jeo:∀(d T:Nat) (ty:Ty),jDX P d T ty=true->jF3 P w enc T ty
 |0,_,_,h=>by cases h
 |d+1,T,ty,h=>by
  intro fuel cs x B r
  unfold jDX at h
  split at h
  .rename_i u
   obtain⟨n,rfl,rfl,H⟩:=DataW.trod_int u B
   exact⟨n,rfl,rfl,jFc H⟩
  .rename_i u
   obtain⟨b,rfl,rfl⟩:=DataW.trod_bool u B
   exact⟨b,rfl,rfl,trivial⟩
  .rename_i k k' u
   obtain⟨n,rfl,rfl,H⟩:=DataW.trod_int u B
   have:k=k':=by simpa[jaU] using h
   subst this
   refine⟨n,rfl,rfl,?_⟩
   simp[Lit.wf] at H
   exact H
  .rename_i t e u
   simp only[jG3] at h
   obtain⟨⟨L,M⟩,h3⟩:=h
   have e1:=jG0 L
   have e2:=jHg M
   rcases DataW.trod_slice u B with⟨rfl,rfl⟩|⟨a,len,J,yF,rest,n,_,rfl,rfl,hb,hl,hm,A,D,_,_⟩
   .refine⟨[],⟨none,0,0,rfl,rfl,jG5 _,by simp,fun _=>rfl,fun h=>absurd rfl h⟩,rfl,by simp,fun x B=>by simp at B⟩
   .simp only[Rows.uptoBulk] at r
    have key:∀i,i<len->∃y:t.Data,(∃blk,Hof w a.block=some (.cells blk)/\a.spot=none/\t.rd (Hof w) (fun j=>blk[a.off+i*t.size+j]?) y)/\t.fits (Rows.uptoBulkAll (yF.map (·.1))) y:=by
     intro i hi;have h0:=D i hi;have X:yF[i]? =some yF[i]:=jG8 (by omega);rw[X,Option.bind_eq_some_iff] at h0;obtain⟨cl,c1,c2⟩:=h0;have Q:Rows.uptoBulk yF[i].1<=Rows.uptoBulkAll (yF.map (·.1)):=jDZ (jHy.2 ⟨yF[i],List.getElem_mem _,rfl⟩);obtain⟨y,y1,y2,y3⟩:=jeo d e t h3 _ _ _ c2 (by omega);unfold World.cells? at c1;rw[if_pos (jHd _),e1] at c1;have z:∀j,j<t.size->w.cell? ((a.add (i*t.size)).add j)=cl[j]? :=fun j O=>by
      have:=mapM_some_get c1 j j (by simp[O]);simpa using this
     have N:cl.length=t.size:=(by simpa using mapM_some_length c1);have I:=z 0 (by omega);have g:cl[0]?≠none:=(by rw[jG8 (by omega)];simp);rw[<-I] at g;have m:∃blk T G,w.heap[a.block]? =some (.cells blk T G):=by
      unfold World.cell? at g;have q:((a.add (i*t.size)).add 0).block=a.block:=by unfold Addr.add;simp;split<;>rfl
      rw[q] at g
      split at g
      .rename_i c T G e;exact⟨c,T,G,e⟩
      .exact absurd rfl g
     obtain⟨blk,T',G,m⟩:=m;have p:((a.add (i*t.size)).add 0).spot=none:=by
      unfold World.cell? at g;have q:((a.add (i*t.size)).add 0).block=a.block:=by unfold Addr.add;simp;split<;>rfl
      rw[q,m] at g;simp only at g;cases R:((a.add (i*t.size)).add 0).spot with
      |none=>rfl
      |some s=>rw[R] at g;simp at g
     have hH:Hof w a.block=some (.cells blk):=(by unfold Hof;rw[m]);refine⟨y,⟨blk,hH,?_,?_⟩,t.fits_mono Q _ y3⟩
     .--the first element shows that the address is plain
      have C:=D 0 (by omega);have W:yF[0]? =some yF[0]:=jG8 (by omega);rw[W,Option.bind_eq_some_iff] at C;obtain⟨K,F,_⟩:=C;unfold World.cells? at F;rw[if_pos (jHd _),e1] at F;have v:=mapM_some_get F 0 0 (by rw[List.getElem?_range (by omega)]);have hl0:K.length=t.size:=(by simpa using mapM_some_length F);rw[jG8 (by omega)] at v;simp only[Nat.zero_mul] at v;have ea:(a.add 0).add 0=a:=(by unfold Addr.add;simp);rw[ea] at v;unfold World.cell? at v;rw[m] at v;simp only at v;cases R:a.spot with
      |none=>rfl
      |some s=>rw[R] at v;simp at v
     .refine Ty.rd_congr t _ _ _ (fun j O=> ?_) y1;rw[<-z j O];unfold World.cell?;have q:((a.add (i*t.size)).add j).block=a.block:=by unfold Addr.add;split<;>split<;>rfl
      have E:((a.add (i*t.size)).add j).off=a.off+i*t.size+j:=by
       unfold Addr.add;split<;>split<;>simp_all
      have V:((a.add (i*t.size)).add j).spot=none:=by
       have S:(a.add (i*t.size)).spot=none:=by
        have:(a.add (i*t.size)).add 0=a.add (i*t.size):=(by simp[Addr.add]);rw[this] at p;exact p
       unfold Addr.add at S⊢
       split<;>split<;>simp_all
      rw[q,m,E,V];simp
    obtain⟨l,l1,l2⟩:=jzl len key;refine⟨l,⟨some a,len,J,rfl,l1.symm,hl,?_,(fun h=>by cases h),fun g=> ?_⟩,rfl,?_,?_⟩
    .have:=jqq (yF.map (·.1));simp at this;omega
    .have hz:0<l.length:=List.length_pos_iff.2 g;obtain⟨blk,q1,q2,_⟩:=(l2 0 l[0] (jG8 hz)).1;refine⟨a.block,a.off,blk,?_,q1,fun i y Z=> ?_⟩
     .rcases a with⟨b,o,s⟩;simp only at q2;subst q2;rfl
     .obtain⟨blk',q3,_,q4⟩:=(l2 i y Z).1;rw[q1] at q3;simp at q3;subst q3;exact q4
    .simp only[Rows.uptoBulk];have:=jqq (yF.map (·.1));simp at this;omega
    .intro y Z;obtain⟨i,hi⟩:=jIi Z;exact t.fits_mono (by simp only[Rows.uptoBulk];omega) _ (l2 i y hi).2
  .rename_i a b fs u;simp only[jG3] at h;obtain⟨L,M⟩:=h;obtain⟨xs,n,_,rfl,A,Y,hf⟩:=DataW.trod_struct u B;simp only[Rows.uptoBulk] at r;obtain⟨y,y1,y2⟩:=jhz (fun T ty h=>jeo d T ty h) (n:=n) (cs:=cs) fs.toList 0 (.pair a b) xs M (by simpa using Y) (fun i f hi=>hf i f (by simpa using hi)) (by omega);refine⟨y,by simpa using y1,by rw[A];exact jG0 L,?_⟩;exact Ty.fits_mono (by simp only[Rows.uptoBulk];omega) (.pair a b) _ y2
  .cases h
end
end Go.X
namespace Go.X
open Go.RowKit (Below)
open Go.ChangeShapes Go.WideShapes Go.ChangeAt Go.RowKit
open Go.Proofs.YtphbhcmpebmadaaGreatDoor
def jov (N:Nat):(ts:List Ty)->PD (ts.map Par.val)->Prop
 |[],_=>True
 |t::ts,d=>t.fits N d.1/\jov N ts d.2
def jzn (ts:List Ty):j7:=⟨ts.map Par.val,[.bool],false,fun d=>[jov 1048576 ts d],fun _=>(true,())⟩
def jhC (P:Program):List Nat->List Ty->Bool
 |[],[]=>true
 |T::Ts,t::ts=>jDX P 20 T t&&(P.readableRec T&&decide (T<P.types.size))&&jhC P Ts ts
 |_,_=>false
section
variable {P:Program} {K:Type} {enc:TypeId×Value->K} {W W':World}
theorem jfj (j:laidOutB P=true) (i:Below W.heap.size W W'):∀(a:List Nat) (ts:List Ty) (vs:List Value) (ds:List (DataW K)) (ps:List MemPlace),jhC P a ts=true->
 DataW.TrodAll enc P W 0 (fun _=>true) true a vs ds ps->(∀x∈ps,x.block<W.heap.size)->DataW.TrodAll enc P W' 0 (fun b=>decide (b<W.heap.size)) true a vs ds ps
 |[],ts,vs,ds,ps,_,h,_=>by
  obtain⟨rfl,rfl,rfl⟩:=trodAll_nil h
  exact trodAll_mk0
 |T::a,[],vs,ds,ps,c,_,_=>by cases c
 |T::a,t::ts,vs,ds,ps,c,h,hlt=>by
  obtain⟨v,g,d,e,p,q,rfl,rfl,rfl,n,o⟩:=trodAll_cons h
  simp only[jhC,jG3] at c
  obtain⟨⟨_,k,l⟩,m⟩:=c
  exact trodAll_cons_mk (Below.trod j k (of_decide_eq_true l) n i (fun x f=>hlt x (jG2 _ f)))
   (jfj j i a ts g e q m o (fun x f=>hlt x (jG1 _ f)))
theorem jEV {T:Nat} {t:Ty} {r:Reach} {c:Nat} {v:Value} (h:jDX P 20 T t=true) (b:Value.okWide P W r c T v):kU v=t.agg:=by
 unfold jDX at h
 split at h
 .rename_i a;obtain⟨n,rfl⟩:=okWide_int a b;rfl
 .rename_i a;obtain⟨n,rfl⟩:=okWide_bool a b;rfl
 .rename_i a;obtain⟨n,rfl⟩:=okWide_int a b;rfl
 .rename_i a;unfold Value.okWide at b;rw[a] at b;simp only[Cell.okWide,a] at b;cases v with
  |agg vs=>simp[Cell.ok,a] at b
  |_=>rfl
 .rename_i a;unfold Value.okWide at b;rw[a] at b;obtain⟨cs,rfl,_⟩:=b;rfl
 .cases h
theorem jC4 {r:Reach} {l:Nat}:∀(a:List Nat) (ts:List Ty) (vs:List Value) (ds:List (DataW K)) (ps:List MemPlace),jhC P a ts=true->
 DataW.TrodAll enc P W 0 (fun _=>true) true a vs ds ps->(∀(j:Nat) t v,a[j]? =some t->vs[j]? =some v->Value.okWide P W r l t v)->Rows.uptoBulkAll ds<=1048576->
 ∃d:PD (ts.map Par.val),pvs P (Hof W) (ts.map Par.val) vs d/\jov 1048576 ts d
 |[],ts,vs,ds,ps,b,h,_,_=>by
  obtain⟨rfl,rfl,rfl⟩:=trodAll_nil h
  cases ts with
  |nil=>exact⟨(),rfl,trivial⟩
  |cons t ts=>cases b
 |T::a,[],vs,ds,ps,b,_,_,_=>by cases b
 |T::a,t::ts,vs,ds,ps,b,h,hv,hb=>by
  obtain⟨v,g,d,e,p,q,rfl,rfl,rfl,n,o⟩:=trodAll_cons h
  simp only[jhC,jG3] at b
  obtain⟨⟨k,_⟩,m⟩:=b
  simp only[Rows.uptoBulkAll] at hb
  obtain⟨c,s⟩:=n
  obtain⟨x,w,z,A⟩:=jeo 20 T t k c _ _ s (by simp only;omega)
  obtain⟨y,B,C⟩:=jC4 a ts g e q m o (fun j t v u f=>hv (j+1) t v (by simpa using u) (by simpa using f)) (by omega)
  refine⟨(x,y),⟨⟨jEV k (hv 0 T v rfl rfl),by simpa using z,?_⟩,B⟩,Ty.fits_mono (by simp only;omega) t x A,C⟩
  refine Ty.rd_congr t _ _ _ (fun i _=> ?_) w
  simp
theorem jd6:∀(a:List Nat) (ts:List Ty) (vs:List Value) (ds:List (DataW K)) (ps:List MemPlace),jhC P a ts=true->DataW.TrodAll enc P W 0 (fun _=>true) true a vs ds ps->ds.length=ts.length:=by
 intro a
 induction a with
 |nil=>intro ts vs ds ps b h;obtain⟨rfl,rfl,rfl⟩:=trodAll_nil h;cases ts with|nil=>rfl|cons=>cases b
 |cons T a g=>intro ts vs ds ps b h;cases ts with
  |nil=>cases b
  |cons t ts=>
   obtain⟨v,e,d,c,p,q,rfl,rfl,rfl,i,f⟩:=trodAll_cons h;simp only[jhC,jG3] at b;simp[g ts e c q b.2 f]
theorem jDb {f:Nat} {fn:Func} {s:ChangeSpec} {ts:List Ty} (I:laidOutB P=true) (k:jhC P fn.params.toList ts=true) (L:fn.resultTypes= #[4]) (D:P.underlying 4=some .bool)
 (a:s.vars=[]) (m:∀(ds:List (DataW K)),ds.length=ts.length->s.fn K (ds++[])={results:=[.lit (.bool true)],args:=ds})
 (G:zu P f (jzn ts)) (base:Nat) (args:Array Value) (ds o:List (DataW K)) (before:List MemPlace)
 (l:∀(j:Nat) t v,fn.params[j]? =some t->args[j]? =some v->Value.okWide P W .any base t v)
 (w:DataW.Whole enc P fn.params.toList s.vars false W args.toList ds o before) (hk:Rows.uptoSmall K (ds++o)=true) (E:jE1 (Hof W)):
 Calls P f args W fun e W'=>∃v,e= .returned v/\s.post enc P fn false true false false W args v W':=by
 have b:=w;obtain⟨p,q,i,u,rfl,H,J⟩:=w;rw[a] at u;obtain⟨rfl,rfl⟩:=trodVars_none u;simp only[jHw] at b hk;have c:Rows.uptoBulkAll ds<=1048576:=of_decide_eq_true hk;have g:∀(j:Nat) t v,fn.params.toList[j]? =some t->args.toList[j]? =some v->Value.okWide P W .any base t v:=fun j t v B C=>l j t v (by simpa using B) (by simpa using C)
 obtain⟨d,z,A⟩:=jC4 fn.params.toList ts args.toList ds p k i g c;have y:=G.calls (Hof W) W args.toList d (jCa W E) z ⟨A,trivial⟩;simp only[Array.toArray_toList] at y;refine y.mono fun e W' F=> ?_
 obtain⟨v,H',rfl,r,M⟩:=F;have n:v= .bool true:=zY M;subst n;refine⟨_,rfl,ds,[],p,[],p,[],b,?_,?_,?_,r.below.frame _,fun h=>by cases h⟩
 .rw[m ds ?_,L]
  .exact trodAll_cons_mk (shut_bool D _) trodAll_mk0
  .exact jd6 _ _ _ _ _ k i
 .rw[m ds ?_]
  .exact jfj I r.below _ ts _ _ _ k i (fun x N=>by simpa using b.lt x N)
  .exact jd6 _ _ _ _ _ k i
 .rw[a,m ds ?_]
  .rfl
  .exact jd6 _ _ _ _ _ k i
end
end Go.X
namespace Go.X
open Go.Proofs
namespace U
def jGm (p:PeD):Prop:=(lv p).length<=20/\(zR p).length<=30
def jjx (c:CrD):Prop:=(je c).length<=20/\(wk c).length<=20/\∀p∈je c,jGm p
def jeg (d:DyD):Prop:=jjx (jb d)/\(jL d).length<=20/\(jq d).length<=20/\(zc d).length<=60/\∀r∈jL d,r.length<=20
def jrg (p:PeD):Bool:=decide (20<((lv p).length:Int))||decide (30<((zR p).length:Int))
def jbQ (c:CrD):Bool:=(decide (20<((je c).length:Int))||decide (20<((wk c).length:Int)))||((je c).any jrg||(jl c&&decide (5<((je c).length:Int))))
def jrf (r:List SpD):Bool:=decide (20<(r.length:Int))
def yz (d:DyD):Bool:=(((jbQ (jb d)||decide (20<((jL d).length:Int)))||decide (20<((jq d).length:Int)))||decide (60<((zc d).length:Int)))||(jL d).any jrf
def jiB (d:DyD):Bool:=yz d||(decide (w5 d=0)&&decide (12<((zc d).length:Int)))
def jGP:CrD:=(3,[([5,4,0],3,15,[],false,50,()),([0,5,3],3,15,[],true,40,()),([4,0,4],1,3,[7],false,30,()),([3,3,3],255,1,[],false,10,())],[(2,1,false,()),(4,2,false,()),(3,2,true,()),(5,1,false,())],())
def jA0:List JbD:=[(0,2,7,1,2,1,()),(0,2,3,0,0,1,()),(0,2,7,1,1,1,())]
def jlV:DyD:=(jGP,[[(0,0,()),(10,20,())],[(10,25,()),(0,0,())]],[((0,2,3,0,0,1,()),0,60,120,()),((0,2,3,1,0,1,()),1,150,200,()),((0,2,7,1,2,1,()),0,230,300,())],10,140,
 [(1,5,1,0,3,()),(2,6,1,1,3,()),(3,4,1,2,2,()),(4,7,1,2,0,()),(5,8,1,2,1,()),(6,9,1,0,2,()),(7,10,2,0,2,())],())
end U
def jvW:j7:=⟨[.val tCr],[tCr],false,fun d=>[U.jjx d.1],fun d=>(d.1,())⟩
def jxl:Ann:=fun r=>match r with
 |3=>some fun σ=>{X:=Nat,sl:=fun i=>[(4,.dat .int (i:Int))],ob:=fun i=>[(3,some (.box 25 false ((bx σ 3).set 1 (.own (yw 3 1) tPe)))),(yw 3 1,some (.row 92 tPe false .yes ((U.je (gb tCr σ 1)).take i)))],inv:=fun i=>i<=(U.je (gb tCr σ 1)).length,mu:=fun i=>(U.je (gb tCr σ 1)).length-i}
 |_=>none
abbrev q129_0 (d:CrD×Unit)(x:Nat):=(nth d.1.2.1 (x:Int).toNat)
def jvD:Prop:=∀(d:CrD×Unit),U.jjx d.1->(0+d.1.2.2.1.length)*24<=140737488355328/\(∃(x:Nat),((0=(x:Int)/\True)/\(d.1.1=d.1.1/\True/\True/\True)/\List.take x (U.je d.1)=[]/\True)/\x<=(U.je d.1).length)/\∀(x:Nat),x<=(U.je d.1).length->d.1.2.1.length<4611686018427387904->(decide ((x:Int)<(d.1.2.1.length:Int))=true->0<=(x:Int)/\(x:Int)<(d.1.2.1.length:Int)/\(0+(q129_0 d x).1.length)*8<=140737488355328/\(0+(q129_0 d x).2.2.2.1.length)*8<=140737488355328/\((List.take x (U.je d.1)).length+[([]++(q129_0 d x).1,(q129_0 d x).2.1,(q129_0 d x).2.2.1,[]++(q129_0 d x).2.2.2.1,(q129_0 d x).2.2.2.2)].length)*80<=140737488355328/\jy ((x:Int)+1)/\∃(a:Nat),(((x:Int)+1=(a:Int)/\True)/\(d.1.1=d.1.1/\True/\True/\True)/\List.take x (U.je d.1)++[([]++(q129_0 d x).1,(q129_0 d x).2.1,(q129_0 d x).2.2.1,[]++(q129_0 d x).2.2.2.1,(q129_0 d x).2.2.2.2)]=List.take a (U.je d.1)/\True)/\a<=(U.je d.1).length/\(U.je d.1).length-a<(U.je d.1).length-x)/\(decide ((x:Int)<(d.1.2.1.length:Int))=false->((d.1.1,List.take x (U.je d.1),[]++d.1.2.2.1,()),())=d)
def jxi:Ann:=fun r=>match r with
 |5=>some fun σ=>{X:=Nat,sl:=fun i=>[(4,.dat .int (i:Int))],ob:=fun i=>[(3,some (.box 30 false ((bx σ 3).set 3 (.own (yw 3 3) (.slice tSp))))),(yw 3 3,some (.row 37 (.slice tSp) false .yes ((U.jL (gb tDy σ 1)).take i)))],inv:=fun i=>i<=(U.jL (gb tDy σ 1)).length,mu:=fun i=>(U.jL (gb tDy σ 1)).length-i}
 |_=>none
abbrev q130_0 (d:DyD×Unit):=(d.1.1.1=d.1.1.1/\d.1.1.2.1=d.1.1.2.1/\d.1.1.2.2.1=d.1.1.2.2.1/\True/\d.1.2.2.1=d.1.2.2.1/\d.1.2.2.2.1=d.1.2.2.2.1/\d.1.2.2.2.2.1=d.1.2.2.2.2.1/\d.1.2.2.2.2.2.1=d.1.2.2.2.2.2.1/\True)
def jvz:Prop:=∀(d:DyD×Unit),U.jeg d.1->U.jjx d.1.1/\(∃(x:Nat),((0=(x:Int)/\True)/\(q130_0 d)/\List.take x (U.jL d.1)=[]/\True)/\x<=(U.jL d.1).length)/\∀(x:Nat),x<=(U.jL d.1).length->d.1.2.1.length<4611686018427387904->(decide ((x:Int)<(d.1.2.1.length:Int))=true->0<=(x:Int)/\(x:Int)<(d.1.2.1.length:Int)/\(0+(nth d.1.2.1 (x:Int).toNat).length)*16<=140737488355328/\((List.take x (U.jL d.1)).length+[[]++nth d.1.2.1 (x:Int).toNat].length)*24<=140737488355328/\jy ((x:Int)+1)/\∃(a:Nat),(((x:Int)+1=(a:Int)/\True)/\(q130_0 d)/\List.take x (U.jL d.1)++[[]++nth d.1.2.1 (x:Int).toNat]=List.take a (U.jL d.1)/\True)/\a<=(U.jL d.1).length/\(U.jL d.1).length-a<(U.jL d.1).length-x)/\(decide ((x:Int)<(d.1.2.1.length:Int))=false->(0+d.1.2.2.1.length)*72<=140737488355328/\(0+d.1.2.2.2.2.2.1.length)*40<=140737488355328/\((d.1.1,List.take x (U.jL d.1),[]++d.1.2.2.1,d.1.2.2.2.1,d.1.2.2.2.2.1,[]++d.1.2.2.2.2.2.1,()),())=d)
def jls:j7:=⟨[.val (.slice .int),.val (.slice .int)],[.bool],false,fun _=>[],fun d=>(decide (d.1=d.2.1),())⟩
def jl1:Ann:=fun r=>match r with
 |4=>some fun σ=>{X:=Nat,sl:=fun i=>[(5,.dat .int (i:Int))],ob:=fun _=>[],inv:=fun i=>i<=(gd (.slice .int) σ 0).length/\∀j:Nat,j<i->nth (gd (.slice .int) σ 0) j=nth (gd (.slice .int) σ 1) j,mu:=fun i=>(gd (.slice .int) σ 0).length-i}
 |_=>none
def jll:Prop:=∀(d:List Int×List Int×Unit),d.1.length<4611686018427387904->d.2.1.length<4611686018427387904->(decide ((d.1.length:Int)≠(d.2.1.length:Int))=true->(false,())=(decide (d.1=d.2.1),()))/\(decide ((d.1.length:Int)≠(d.2.1.length:Int))=false->(∃(x:Nat),((0=(x:Int)/\True)/\True)/\x<=d.1.length/\∀(j:Nat),j<x->nth d.1 j=nth d.2.1 j)/\∀(x:Nat),(x<=d.1.length/\∀(j:Nat),j<x->nth d.1 j=nth d.2.1 j)->d.1.length<4611686018427387904->(decide ((x:Int)<(d.1.length:Int))=true->0<=(x:Int)/\(x:Int)<(d.1.length:Int)/\0<=(x:Int)/\(x:Int)<(d.2.1.length:Int)/\(decide (nth d.1 (x:Int).toNat≠nth d.2.1 (x:Int).toNat)=true->(false,())=(decide (d.1=d.2.1),()))/\(decide (nth d.1 (x:Int).toNat≠nth d.2.1 (x:Int).toNat)=false->jy ((x:Int)+1)/\∃(a:Nat),(((x:Int)+1=(a:Int)/\True)/\True)/\(a<=d.1.length/\∀(j:Nat),j<a->nth d.1 j=nth d.2.1 j)/\d.1.length-a<d.1.length-x))/\(decide ((x:Int)<(d.1.length:Int))=false->(true,())=(decide (d.1=d.2.1),())))
def jx0:j7:=⟨[.val tCr],[.bool],false,fun _=>[],fun d=>(U.jbQ d.1,())⟩
def jAG:Ann:=fun r=>match r with
 |4=>some fun σ=>{X:=Nat,sl:=fun i=>[(3,.dat .int (i:Int))],ob:=fun _=>[],inv:=fun i=>i<=(U.je (gb tCr σ 1)).length/\∀j:Nat,j<i->U.jrg (nth (U.je (gb tCr σ 1)) j)=false,mu:=fun i=>(U.je (gb tCr σ 1)).length-i}
 |_=>none
abbrev q132_0 (d:CrD×Unit)(x:Nat):=((20:Int)<(↑(nth d.1.2.1 (x:Int).toNat).1.length:Int))
abbrev q132_1 (d:CrD×Unit):=(d.1.2.1.length:Int)
abbrev q132_2 (d:CrD×Unit)(x:Nat):=(decide (q132_0 d x)||decide ((30:Int)<(↑(nth d.1.2.1 (x:Int).toNat).2.2.2.1.length:Int)))
abbrev q132_3 (d:CrD×Unit):=(decide (20<(q132_1 d))||decide (20<(d.1.2.2.1.length:Int)))
def jxD:Prop:=∀(d:CrD×Unit),d.1.2.1.length<4611686018427387904->((!decide (20<(q132_1 d)))=true->d.1.2.2.1.length<4611686018427387904)->((q132_3 d)=true->(true,())=(U.jbQ d.1,()))/\((q132_3 d)=false->(∃(x:Nat),((0=(x:Int)/\True)/\True)/\x<=(U.je d.1).length/\∀(j:Nat),j<x->U.jrg (nth (U.je d.1) j)=false)/\∀(x:Nat),(x<=(U.je d.1).length/\∀(j:Nat),j<x->U.jrg (nth (U.je d.1) j)=false)->d.1.2.1.length<4611686018427387904->(decide ((x:Int)<(q132_1 d))=true->0<=(x:Int)/\(x:Int)<(q132_1 d)/\((nth d.1.2.1 (x:Int).toNat).1.length<4611686018427387904->((!decide (q132_0 d x))=true->0<=(x:Int))/\((!decide (q132_0 d x))=true->(x:Int)<(q132_1 d))/\(((!decide (q132_0 d x))=true->(nth d.1.2.1 (x:Int).toNat).2.2.2.1.length<4611686018427387904)->((q132_2 d x)=true->(true,())=(U.jbQ d.1,()))/\((q132_2 d x)=false->jy ((x:Int)+1)/\∃(a:Nat),(((x:Int)+1=(a:Int)/\True)/\True)/\(a<=(U.je d.1).length/\∀(j:Nat),j<a->U.jrg (nth (U.je d.1) j)=false)/\(U.je d.1).length-a<(U.je d.1).length-x))))/\(decide ((x:Int)<(q132_1 d))=false->(U.jl d.1=true->d.1.2.1.length<4611686018427387904)->(U.jl d.1&&decide (5<(q132_1 d)),())=(U.jbQ d.1,())))
def jvM:j7:=⟨[.val tDy],[.bool],false,fun _=>[],fun d=>(U.yz d.1,())⟩
def jxg:Ann:=fun r=>match r with
 |4=>some fun σ=>{X:=Nat,sl:=fun i=>[(3,.dat .int (i:Int))],ob:=fun _=>[],inv:=fun i=>i<=(U.jL (gb tDy σ 1)).length/\∀j:Nat,j<i->U.jrf (nth (U.jL (gb tDy σ 1)) j)=false,mu:=fun i=>(U.jL (gb tDy σ 1)).length-i}
 |_=>none
abbrev q133_1 (d:DyD×Unit):=(d.1.2.1.length:Int)
abbrev q133_0 (d:DyD×Unit):=(U.jbQ d.1.1||decide (20<(q133_1 d))||decide (20<(d.1.2.2.1.length:Int))||decide (60<(d.1.2.2.2.2.2.1.length:Int)))
def jvs:Prop:=∀(d:DyD×Unit),((!U.jbQ d.1.1)=true->d.1.2.1.length<4611686018427387904)->((!(U.jbQ d.1.1||decide (20<(q133_1 d))))=true->d.1.2.2.1.length<4611686018427387904)->((!(U.jbQ d.1.1||decide (20<(q133_1 d))||decide (20<(d.1.2.2.1.length:Int))))=true->d.1.2.2.2.2.2.1.length<4611686018427387904)->((q133_0 d)=true->(true,())=(U.yz d.1,()))/\((q133_0 d)=false->(∃(x:Nat),((0=(x:Int)/\True)/\True)/\x<=(U.jL d.1).length/\∀(j:Nat),j<x->U.jrf (nth (U.jL d.1) j)=false)/\∀(x:Nat),(x<=(U.jL d.1).length/\∀(j:Nat),j<x->U.jrf (nth (U.jL d.1) j)=false)->d.1.2.1.length<4611686018427387904->(decide ((x:Int)<(q133_1 d))=true->0<=(x:Int)/\(x:Int)<(q133_1 d)/\((nth d.1.2.1 (x:Int).toNat).length<4611686018427387904->(decide ((20:Int)<(↑(nth d.1.2.1 (x:Int).toNat).length:Int))=true->(true,())=(U.yz d.1,()))/\(decide ((20:Int)<(↑(nth d.1.2.1 (x:Int).toNat).length:Int))=false->jy ((x:Int)+1)/\∃(a:Nat),(((x:Int)+1=(a:Int)/\True)/\True)/\(a<=(U.jL d.1).length/\∀(j:Nat),j<a->U.jrf (nth (U.jL d.1) j)=false)/\(U.jL d.1).length-a<(U.jL d.1).length-x)))/\(decide ((x:Int)<(q133_1 d))=false->(false,())=(U.yz d.1,())))
def jxZ:j7:=⟨[.val tDy],[.bool],false,fun _=>[],fun d=>(U.jiB d.1,())⟩
def jxC:Prop:=∀(d:DyD×Unit),((!U.yz d.1)=true->(U.jq d.1).length<=1000000)/\(((!U.yz d.1&&decide (U.w5 d.1=0))=true->d.1.2.2.2.2.2.1.length<4611686018427387904)->(U.yz d.1||decide (U.w5 d.1=0)&&decide (12<(d.1.2.2.2.2.2.1.length:Int)),())=(U.jiB d.1,()))
def jvL:j7:=⟨[.val .int,.val .int],[tSp],false,fun _=>[],fun d=>((d.1,d.2.1,()),())⟩
def jvr:Prop:=∀(d:Int×Int×Unit),(d,())=(d,())
def jnt:j7:=⟨[],[tCr,.slice tJb],false,fun _=>[],fun _=>(U.jGP,U.jA0,())⟩
def jm9:Prop:=∀(d:Unit),(((3:Int),[([(5:Int),(4:Int),(0:Int)],(3:Int),(15:Int),[],false,(50:Int),()),([(0:Int),(5:Int),(3:Int)],(3:Int),(15:Int),[],true,(40:Int),()),([(4:Int),(0:Int),(4:Int)],(1:Int),(3:Int),[(7:Int)],false,(30:Int),()),([(3:Int),(3:Int),(3:Int)],(255:Int),(1:Int),[],false,(10:Int),())],[((2:Int),(1:Int),false,()),((4:Int),(2:Int),false,()),((3:Int),(2:Int),true,()),((5:Int),(1:Int),false,())],()),[((0:Int),(2:Int),(7:Int),(1:Int),(2:Int),(1:Int),()),((0:Int),(2:Int),(3:Int),(0:Int),(0:Int),(1:Int),()),((0:Int),(2:Int),(7:Int),(1:Int),(1:Int),(1:Int),())],())=(U.jGP,U.jA0,())
def jns:j7:=⟨[],[tDy],false,fun _=>[],fun _=>(U.jlV,())⟩
abbrev q137_0:=(nth U.jA0 (Int.toNat 1))
def jm8:Prop:=∀(d:Unit),(0:Int)<=1/\1<(U.jA0.length:Int)/\(0:Int)<=1/\1<(U.jA0.length:Int)/\(0:Int)<=0/\0<(U.jA0.length:Int)/\((U.jGP,[[((0:Int),(0:Int),()),((10:Int),(20:Int),())],[((10:Int),(25:Int),()),((0:Int),(0:Int),())]],[(nth U.jA0 (Int.toNat 1),(0:Int),(60:Int),(120:Int),()),((q137_0.1,q137_0.2.1,q137_0.2.2.1,(1:Int),q137_0.2.2.2.2),(1:Int),(150:Int),(200:Int),()),(nth U.jA0 (Int.toNat 0),(0:Int),(230:Int),(300:Int),())],(10:Int),(140:Int),[((1:Int),(5:Int),(1:Int),(0:Int),(3:Int),()),((2:Int),(6:Int),(1:Int),(1:Int),(3:Int),()),((3:Int),(4:Int),(1:Int),(2:Int),(2:Int),()),((4:Int),(7:Int),(1:Int),(2:Int),(0:Int),()),((5:Int),(8:Int),(1:Int),(2:Int),(1:Int),()),((6:Int),(9:Int),(1:Int),(0:Int),(2:Int),()),((7:Int),(10:Int),(2:Int),(0:Int),(2:Int),())],()),())=(U.jlV,())
def jr4:j7:=⟨[],[.bool],false,fun _=>[],fun _=>(true,())⟩
def jrB:Prop:=∀(d:Unit),(U.zc U.jlV).length<=100000/\(U.zc U.jlV).length<=100000/\(U.zc U.jlV).length<=100000/\(decide (U.jz U.jlV=0)&&decide (U.jz U.jlV=0)&&decide (U.jeq U.jlV=0)&&decide (U.jE U.jlV=[(8:Int),(8:Int),(3:Int)])&&decide (U.jlB U.jlV=[(3:Int)])&&decide (U.jij U.jlV=[(8:Int),(8:Int),(3:Int)])&&decide (U.jii U.jlV=110),())=(true,())
end Go.X
namespace Go.X
open Go.Proofs
theorem jzN:jvD:=by
 unfold jvD q129_0;rintro⟨c,⟨⟩⟩ g;obtain⟨m,j,a⟩:U.jjx c:=g;refine⟨by show(0+(U.wk c).length)*24<=140737488355328;omega,⟨0,⟨⟨rfl,trivial⟩,⟨rfl,trivial,trivial,trivial⟩,rfl,trivial⟩,jHd _⟩,fun x f _=>⟨fun h=> ?_,fun h=> ?_⟩⟩
 .have h:(x:Int)<((U.je c).length:Int):=of_decide_eq_true h;have k:=L.take_succ (l:=U.je c) (i:=x) (by omega);obtain⟨s1,s2⟩:=a _ (L.mem_nth (l:=U.je c) (i:=x) (by omega));have d:((U.je c).take x).length<=20:=(by rw[jHC];omega);refine⟨jHu _,h,by show(0+(U.lv (nth (U.je c) x)).length)*8<=140737488355328;omega,by show(0+(U.zR (nth (U.je c) x)).length)*8<=140737488355328;omega,by show(((U.je c).take x).length+1)*80<=140737488355328;omega,L.in64 (by omega) (by omega),x+1,⟨⟨by simp,trivial⟩,⟨rfl,trivial,trivial,trivial⟩,k.symm,trivial⟩,by show x+1<=(U.je c).length;omega,by show(U.je c).length-(x+1)<(U.je c).length-x;omega⟩
 .have h:¬(x:Int)<((U.je c).length:Int):=of_decide_eq_false h;have f:x<=(U.je c).length:=f;have b:x=(U.je c).length:=(by omega);subst b;have e:(U.je c).take (U.je c).length=U.je c:=jHY;show((c.1,(U.je c).take (U.je c).length,c.2.2.1,()),())=(c,());rw[e];rfl
theorem jwf:zu PR 43 jvW:=wi jxl jzN Tryz.func43 kcN koN
theorem jFH:jvz:=by
 unfold jvz q130_0;rintro⟨d,⟨⟩⟩ g;obtain⟨k,o,j,n,a⟩:U.jeg d:=g;refine⟨k,⟨0,⟨⟨rfl,trivial⟩,⟨rfl,rfl,rfl,trivial,rfl,rfl,rfl,rfl,trivial⟩,rfl,trivial⟩,jHd _⟩,fun x f _=>⟨fun h=> ?_,fun h=> ?_⟩⟩
 .have h:(x:Int)<((U.jL d).length:Int):=of_decide_eq_true h;have m:=L.take_succ (l:=U.jL d) (i:=x) (by omega);have p:=a _ (L.mem_nth (l:=U.jL d) (i:=x) (by omega));have c:((U.jL d).take x).length<=20:=(by rw[jHC];omega);refine⟨jHu _,h,by show(0+(nth (U.jL d) x).length)*16<=140737488355328;omega,by show(((U.jL d).take x).length+1)*24<=140737488355328;omega,L.in64 (by omega) (by omega),x+1,⟨⟨by simp,trivial⟩,⟨rfl,rfl,rfl,trivial,rfl,rfl,rfl,rfl,trivial⟩,m.symm,trivial⟩,by show x+1<=(U.jL d).length;omega,by show(U.jL d).length-(x+1)<(U.jL d).length-x;omega⟩
 .have h:¬(x:Int)<((U.jL d).length:Int):=of_decide_eq_false h;have f:x<=(U.jL d).length:=f;have b:x=(U.jL d).length:=(by omega);subst b;have e:(U.jL d).take (U.jL d).length=U.jL d:=jHY;refine⟨by show(0+(U.jq d).length)*72<=140737488355328;omega,by show(0+(U.zc d).length)*40<=140737488355328;omega,?_⟩;show((U.jb d,(U.jL d).take (U.jL d).length,U.jq d,U.jej d,U.jxv d,U.zc d,()),())=(d,());rw[e];rfl
theorem joi:jll:=by
 rintro⟨a,b,⟨⟩⟩ _ l;refine⟨fun h=> ?_,fun h=>⟨⟨0,⟨⟨rfl,trivial⟩,trivial⟩,jHd _,fun j k=>by omega⟩,fun x g f=>⟨fun c=>⟨jHu _,of_decide_eq_true c,jHu _,?_,fun d=> ?_,fun d=> ?_⟩,fun c=> ?_⟩⟩⟩
 .have h:(a.length:Int)≠(b.length:Int):=of_decide_eq_true h;have:¬a=b:=fun e=>h (by rw[e])
  show(false,())=(decide (a=b),());rw[decide_eq_false this]
 .have h:(a.length:Int)=(b.length:Int):=Classical.not_not.1 (of_decide_eq_false h);have c:(x:Int)<(a.length:Int):=of_decide_eq_true c;show(x:Int)<(b.length:Int);omega
 .have d:nth a x≠nth b x:=of_decide_eq_true d;have:¬a=b:=fun e=>d (by rw[e])
  show(false,())=(decide (a=b),());rw[decide_eq_false this]
 .have c:(x:Int)<(a.length:Int):=of_decide_eq_true c;have d:nth a x=nth b x:=Classical.not_not.1 (of_decide_eq_false d);have f:a.length<4611686018427387904:=f;refine⟨L.in64 (by omega) (by omega),x+1,⟨⟨by simp,trivial⟩,trivial⟩,⟨by show x+1<=a.length;omega,fun j k=> ?_⟩,by show a.length-(x+1)<a.length-x;omega⟩;by_cases e:j=x
  .subst e;exact d
  .exact g.2 j (by omega)
 .have h:(a.length:Int)=(b.length:Int):=Classical.not_not.1 (of_decide_eq_false h);have c:¬(x:Int)<(a.length:Int):=of_decide_eq_false c;have e:a=b:=L.ext_nth (by omega) fun i hi=>g.2 i (by omega)
  show(true,())=(decide (a=b),());rw[decide_eq_true e]
theorem jlD:zu PR 21 jls:=wi jl1 joi Tryz.func21 kcN koN
theorem jB0:jxD:=by
 unfold jxD q132_3 q132_2 q132_1 q132_0;rintro⟨c,⟨⟩⟩ _ _;refine⟨fun h=> ?_,fun h=>⟨⟨0,⟨⟨rfl,trivial⟩,trivial⟩,jHd _,fun j g=>by omega⟩,fun x f d=>⟨fun a=>⟨jHu _,of_decide_eq_true a,fun _=>⟨fun _=>jHu _,fun _=>of_decide_eq_true a,fun _=>⟨fun b=> ?_,fun b=> ?_⟩⟩⟩,fun a _=> ?_⟩⟩⟩
 .have h:(decide (20<((U.je c).length:Int))||decide (20<((U.wk c).length:Int)))=true:=h;show(true,())=(U.jbQ c,());unfold U.jbQ;rw[h];rfl
 .have b:U.jrg (nth (U.je c) x)=true:=b;have a:(x:Int)<((U.je c).length:Int):=of_decide_eq_true a;have:(U.je c).any U.jrg=true:=jHF.2 ⟨_,L.mem_nth (l:=U.je c) (i:=x) (by omega),b⟩;show(true,())=(U.jbQ c,());unfold U.jbQ;rw[this,Bool.true_or,Bool.or_true]
 .have b:U.jrg (nth (U.je c) x)=false:=b;have a:(x:Int)<((U.je c).length:Int):=of_decide_eq_true a;have d:(U.je c).length<4611686018427387904:=d;refine⟨L.in64 (by omega) (by omega),x+1,⟨⟨by simp,trivial⟩,trivial⟩,⟨by show x+1<=(U.je c).length;omega,fun j g=> ?_⟩,by show(U.je c).length-(x+1)<(U.je c).length-x;omega⟩;by_cases e:j=x
  .subst e;exact b
  .exact f.2 j (by omega)
 .have h:(decide (20<((U.je c).length:Int))||decide (20<((U.wk c).length:Int)))=false:=h;have a:¬(x:Int)<((U.je c).length:Int):=of_decide_eq_false a;have:(U.je c).any U.jrg=false:=jHO.2 fun p k=>by
   obtain⟨i,hi,rfl⟩:=L.mem_iff.1 k;rw[f.2 i (by omega)];simp
  show(U.jl c&&decide (5<((U.je c).length:Int)),())=(U.jbQ c,());unfold U.jbQ;rw[h,this,Bool.false_or,Bool.false_or]
theorem jyR:zu PR 93 jx0:=wi jAG jB0 Tryz.func93 (kcC jhG kcN) koN
theorem jzD:jvs:=by
 unfold jvs q133_0 q133_1;rintro⟨d,⟨⟩⟩ _ _ _;refine⟨fun h=> ?_,fun h=>⟨⟨0,⟨⟨rfl,trivial⟩,trivial⟩,jHd _,fun j g=>by omega⟩,fun x f c=>⟨fun a=>⟨jHu _,of_decide_eq_true a,fun _=>⟨fun b=> ?_,fun b=> ?_⟩⟩,fun a=> ?_⟩⟩⟩
 .have h:(((U.jbQ (U.jb d)||decide (20<((U.jL d).length:Int)))||decide (20<((U.jq d).length:Int)))||decide (60<((U.zc d).length:Int)))=true:=h;show(true,())=(U.yz d,());unfold U.yz;rw[h];rfl
 .have b:U.jrf (nth (U.jL d) x)=true:=b;have a:(x:Int)<((U.jL d).length:Int):=of_decide_eq_true a;have:(U.jL d).any U.jrf=true:=jHF.2 ⟨_,L.mem_nth (l:=U.jL d) (i:=x) (by omega),b⟩;show(true,())=(U.yz d,());unfold U.yz;rw[this,Bool.or_true]
 .have b:U.jrf (nth (U.jL d) x)=false:=b;have a:(x:Int)<((U.jL d).length:Int):=of_decide_eq_true a;have c:(U.jL d).length<4611686018427387904:=c;refine⟨L.in64 (by omega) (by omega),x+1,⟨⟨by simp,trivial⟩,trivial⟩,⟨by show x+1<=(U.jL d).length;omega,fun j g=> ?_⟩,by show(U.jL d).length-(x+1)<(U.jL d).length-x;omega⟩;by_cases e:j=x
  .subst e;exact b
  .exact f.2 j (by omega)
 .have h:(((U.jbQ (U.jb d)||decide (20<((U.jL d).length:Int)))||decide (20<((U.jq d).length:Int)))||decide (60<((U.zc d).length:Int)))=false:=h;have a:¬(x:Int)<((U.jL d).length:Int):=of_decide_eq_false a;have:(U.jL d).any U.jrf=false:=jHO.2 fun p k=>by
   obtain⟨i,hi,rfl⟩:=L.mem_iff.1 k;rw[f.2 i (by omega)];simp
  show(false,())=(U.yz d,());unfold U.yz;rw[h,this];rfl
theorem jv9:zu PR 58 jvM:=wi jxg jzD Tryz.func58 (kcC jyR kcN) koN
theorem jz2 {c:CrD} (h:U.jbQ c=false):U.jjx c:=by
 unfold U.jbQ at h;rw[jHt,jHt,jHt,decide_eq_false_iff_not] at h;have b:=of_decide_eq_false h.1.2;refine⟨by have:=h.1.1;omega,by omega,fun p a=> ?_⟩;have:=jHO.1 h.2.1 p a;unfold U.jrg at this;rw[jHX,decide_eq_true_iff,decide_eq_true_iff] at this;unfold U.jGm;omega
theorem jmA {d:DyD} (h:U.yz d=false):U.jeg d:=by
 unfold U.yz at h;rw[jHt,jHt,jHt,jHt] at h;obtain⟨⟨⟨⟨e,a⟩,b⟩,c⟩,f⟩:=h;have a:=of_decide_eq_false a;have b:=of_decide_eq_false b;have c:=of_decide_eq_false c;refine⟨jz2 e,by omega,by omega,by omega,fun r g=> ?_⟩;have:=jHO.1 f r g;unfold U.jrf at this;rw[decide_eq_true_iff] at this;omega
theorem jBZ:jxC:=by
 rintro⟨d,⟨⟩⟩;refine⟨fun h=> ?_,fun _=>rfl⟩;have h:(!U.yz d)=true:=h;rw[jHB] at h;have:=(jmA h).2.2.1;show(U.jq d).length<=1000000;omega
theorem jyQ:zu PR 31 jxZ:=jZ jBZ Tryz.func31 (kcC jv9 (kcC jj1 kcN)) koN
theorem jzC:jvr:=fun _=>rfl
theorem jv8:zu PR 64 jvL:=jZ jzC Tryz.func64 kcN koN
theorem jqw:jm9:=fun _=>rfl
theorem jnT:zu PR 63 jnt:=jZ jqw Tryz.func63 kcN koN
theorem jqv:jm8:=by
 unfold jm8 q137_0;intro _;refine⟨by decide,by decide,by decide,by decide,by decide,by decide,rfl⟩
theorem jnS:zu PR 33 jns:=jZ jqv Tryz.func33 (kcC jnT (kcC jv8 kcN)) koN
theorem jz6:U.w5 U.jlV=0:=by decide+kernel
theorem jFS:(U.kf U.jlV).1=[8,8,3]:=by decide+kernel
theorem jFT:U.gX (U.kf U.jlV).2 100=[3]:=by decide+kernel
theorem jz5:(U.jGo U.jlV).2=([8,8,3],110,true):=by decide+kernel
theorem jwr:jrB:=by
 intro _;refine⟨by decide,by decide,by decide,?_⟩;have b:U.jz U.jlV=0:=(wC _).trans jz6;have c:U.jE U.jlV=[8,8,3]:=(by rw[jnj,if_pos jz6];exact jFS);have d:U.jlB U.jlV=[3]:=(by rw[jDU,if_pos jz6];exact jFT);have a:U.jeq U.jlV=0:=(by unfold U.jeq;rw[if_pos b,jz5,if_pos rfl]);have e:U.jij U.jlV=[8,8,3]:=(by unfold U.jij;rw[if_pos a,jz5]);have f:U.jii U.jlV=110:=(by unfold U.jii;rw[if_pos a,jz5]);rw[b,c,d,a,e,f];rfl
theorem jsL:zu PR 8 jr4:=jZ jwr Tryz.func8 (kcC jnS (kcC jlD (kcC jmo (kcC jqf (kcC jyT kcN))))) koN
theorem ju3 {d:DyD} (h:U.jiB d=false):U.jeg d:=by
 unfold U.jiB at h;rw[jHt] at h;exact jmA h.1
end Go.X
namespace Go.X
open Go.Proofs
end Go.X
namespace Go.X
open Go.Proofs
section
attribute [local irreducible] U.qL U.ke U.on U.jgD U.jxt
end
section
attribute [local irreducible] U.wD
end
section
attribute [local irreducible] U.jgD U.jxt
end
section
attribute [local irreducible] U.w5 U.jgD
end
end Go.X
namespace Go.X
theorem jBG {a b:List Int} {i:Nat} (h:i<a.length):nth (a++b) i=nth a i:=by
 rw[L.nth_lt (by rw[jHo];omega),L.nth_lt h,List.getElem_append_left h]
theorem jD6 (a:List Int) (x:Int):nth (a++[x]) a.length=x:=by
 rw[L.nth_lt (by simp)];simp
end Go.X
namespace Go.X
section
attribute [local irreducible] U.qD U.qL U.gE U.kY U.ke
end
section
attribute [local irreducible] U.qL U.gE U.kY U.ke U.qM
end
end Go.X
namespace Go.X
open Go.Proofs
section
attribute [local irreducible] U.qD U.kY
end
end Go.X

namespace Go.X
theorem jCn {l:List ShD} (h:∀s∈l,0<=U.wo s/\U.wo s<=99) (s:ShD):s∈U.jiC l↔s∈l:=⟨jgm,fun a=>jAh a (h s a).1 (h s a).2⟩
theorem jFF {d:DyD} (h:U.w5 d=0):∀s∈U.zc d,0<=U.wo s/\U.wo s<=99:=fun _ a=>jjy (zi ((wC d).trans h)).1.2.2 a
end Go.X
namespace Go.X
namespace U
def jub (d:DyD) (p:Int) (a:List Int) (s:ShD):List Int:=if ke d p (a++[jdq s])=true then a++[jdq s] else a
def jbm (d:DyD) (p:Int) (l:List ShD):List Int:=l.foldl (jub d p) []
def jFq (p:Int) (s:ShD):Bool:=decide (qE s=p)
def jbD (d:DyD) (p:Int):List ShD:=(jrs d).filter (jFq p)
end U
theorem jGl {α:Type} {P:List α->Prop} (nil:P []) (snoc:∀l s,P l->P (l++[s])):∀l,P l:=by
 have h:∀r:List α,P r.reverse:=by
  intro r
  induction r with
  |nil=>exact nil
  |cons a r b=>rw[List.reverse_cons];exact snoc _ _ b
 intro l;have:=h l.reverse
 rwa [List.reverse_reverse] at this
theorem jcP (d:DyD) (p:Int) (l:List ShD) (s:ShD):U.jbm d p (l++[s])=U.jub d p (U.jbm d p l) s:=by
 unfold U.jbm;rw[jHk];rfl
attribute [local irreducible] U.ky U.ke U.joI U.on U.j6 jq2 U.jds U.jJ in
theorem jCO {d:DyD} (h:U.jz d=0) {i:Nat} (hi:i<(U.j6 d).length) (p:Nat) (ih:∀q:Nat,nth (U.ky (U.jds d) (U.j6 d) i).1 q=U.jbm d (q:Int) ((((U.j6 d).take i).filter (jq2 d)).filter (U.jFq (q:Int)))) (hrd:U.rd (U.jds d)=d) (hml:U.jak (U.jds d)=U.jJ d (U.jq d).length)
 (hx:(U.ky (U.jds d) (U.j6 d) i).1.length=(U.je (U.jb d)).length) (hdec:jq2 d=U.kK (U.zN (U.j6 d) (U.j6 d).length))
 (hnew:jq2 d (nth (U.j6 d) i)=true->(nth (U.ky (U.jds d) (U.j6 d) i).1 (U.qE (nth (U.j6 d) i)).toNat++[U.jdq (nth (U.j6 d) i)]).Nodup/\∀b∈nth (U.ky (U.jds d) (U.j6 d) i).1 (U.qE (nth (U.j6 d) i)).toNat++[U.jdq (nth (U.j6 d) i)],U.kz d b):
 nth (U.ky (U.jds d) (U.j6 d) (i+1)).1 p=U.jbm d (p:Int) ((((U.j6 d).take (i+1)).filter (jq2 d)).filter (U.jFq (p:Int))):=by
 have hD:=(zi h).1
 have hsf:=jfw hD.2.2 (vF.1 (L.mem_nth (l:=U.j6 d) (i:=i) hi))
 rw[L.filter_take hi,List.filter_append]
 cases hc:jq2 d (nth (U.j6 d) i) with
 |false=>
  rw[hdec] at hc
  rw[jnn hi hc,if_neg (by simp),List.filter_nil,jHw]
  exact ih p
 |true=>
  have hn:=hnew hc
  have hcan:U.joI d (U.jJ d (U.jq d).length) (U.qE (nth (U.j6 d) i)) (nth (U.ky (U.jds d) (U.j6 d) i).1 (U.qE (nth (U.j6 d) i)).toNat++[U.jdq (nth (U.j6 d) i)])=U.ke d (U.qE (nth (U.j6 d) i)) (nth (U.ky (U.jds d) (U.j6 d) i).1 (U.qE (nth (U.j6 d) i)).toNat++[U.jdq (nth (U.j6 d) i)]):=
   jAy hn.1 (fun c hc=>jzh hD (hn.2 c hc) hsf.1)
  rw[hdec] at hc
  rw[if_pos rfl]
  have hsp:((U.qE (nth (U.j6 d) i)).toNat:Int)=U.qE (nth (U.j6 d) i):=by omega
  by_cases hp:U.qE (nth (U.j6 d) i)=(p:Int)
  .have e1:List.filter (U.jFq (p:Int)) [nth (U.j6 d) i]=[nth (U.j6 d) i]:=by
    rw[List.filter_cons_of_pos]
    .rfl
    .exact decide_eq_true hp
   have ep:(U.qE (nth (U.j6 d) i)).toNat=p:=by omega
   rw[e1,jcP,<-ih p]
   rw[ep,hp] at hcan
   unfold U.jub
   cases hk:U.ke d (p:Int) (nth (U.ky (U.jds d) (U.j6 d) i).1 p++[U.jdq (nth (U.j6 d) i)]) with
   |true=>
    rw[hk] at hcan
    rw[jnm hi hc (by rw[hrd,hml,ep,hp];exact hcan),if_pos rfl,ep]
    show nth ((U.ky (U.jds d) (U.j6 d) i).1.set p _) p=_
    rw[L.nth_set (by omega),if_pos rfl]
   |false=>
    rw[hk] at hcan
    rw[juf hi hc (by rw[hrd,hml,ep,hp];exact hcan),if_neg (by simp)]
  .have e1:List.filter (U.jFq (p:Int)) [nth (U.j6 d) i]=[]:=by
    rw[List.filter_cons_of_neg]
    .rfl
    .unfold U.jFq;simpa using hp
   rw[e1,jHw,<-ih p]
   cases hk:U.ke d (U.qE (nth (U.j6 d) i)) (nth (U.ky (U.jds d) (U.j6 d) i).1 (U.qE (nth (U.j6 d) i)).toNat++[U.jdq (nth (U.j6 d) i)]) with
   |true=>
    rw[hk] at hcan
    rw[jnm hi hc (by rw[hrd,hml];exact hcan)]
    show nth ((U.ky (U.jds d) (U.j6 d) i).1.set _ _) p=_
    rw[L.nth_set (by omega),if_neg (by omega)]
   |false=>
    rw[hk] at hcan
    rw[juf hi hc (by rw[hrd,hml];exact hcan)]
theorem jAQ {d:DyD} (h:U.jz d=0):∀i,i<=(U.j6 d).length->∀p:Nat,nth (U.ky (U.jds d) (U.j6 d) i).1 p=U.jbm d (p:Int) ((((U.j6 d).take i).filter (jq2 d)).filter (U.jFq (p:Int)))
 |0,_=>fun p=>by
  have j:U.jBJ (U.jD3 d):=fun x m=>(List.mem_replicate.1 m).2
  exact jn4 j p
 |i+1,hi=>fun p=>by
  have n:=jAQ h i (by omega)
  obtain⟨⟨_,o⟩,⟨k,b⟩,c⟩:=jpL h
  have f:=(zi h).1
  have a:=jno (r:=U.jds d) (l:=U.j6 d) f.2.2 (fun s e=>vF.1 e) (ve d) k b c i (by omega)
  refine jCO h hi p n rfl rfl a.1 rfl fun g=> ?_
  have:=jue (r:=U.jds d) (l:=U.j6 d) f.2.2 (fun s e=>vF.1 e) (ve d) hi a g
  exact⟨this.1,this.2.1⟩
theorem jyO {d:DyD} (h:U.jz d=0) (p:Nat):nth (U.jY (U.yI d)) p=U.jbm d (p:Int) (U.jbD d (p:Int)):=by
 have:=jAQ h _ (jG5 _) p;rw[jHY,jCU h] at this;exact this
theorem jtV {d:DyD} (h:U.w5 d=0) {b:Nat} (c:b<(U.jq d).length) {p:Nat} (f:p<(U.je (U.jb d)).length):U.jH (nth (U.kf d).1 b) (p:Int)=true↔(b:Int)∈U.jbm d (p:Int) (U.jbD d (p:Int)):=by
 have a:U.jz d=0:=(wC d).trans h;have e:=yl a;rw[wV (e.set b c)];refine(e.bit b c p).trans ?_;rw[<-jyO a p];exact⟨fun h=>h.2,fun h=>⟨f,h⟩⟩
theorem jdU {d:DyD} (h:U.w5 d=0) (s:ShD):s∈U.jrs d↔s∈U.zc d/\U.jyd s=1/\∀t∈U.zc d,U.vi t=U.vi s->U.wJ t s=false:=by
 have hi:=fun s=>jCn (l:=U.zc d) (jFF h) s
 rw[(je9 d).mem_iff,ji4,jHh,jkY,hi s];exact and_congr_right fun _=>and_congr_right fun _=>⟨fun g t a=>g t ((hi t).2 a),fun g t a=>g t ((hi t).1 a)⟩
theorem ji3 (d:DyD):(U.jrs d).Nodup:=(je9 d).nodup_iff.2 (by rw[ji4];exact List.Pairwise.filter _ (jhl _))
theorem jEl {d:DyD} (h:U.w5 d=0):∀a∈U.zc d,∀b∈U.zc d,U.wo a=U.wo b->a=b:=(zi ((wC d).trans h)).2
theorem jl9 {d:DyD} (h:U.w5 d=0) (q:ShD->Bool) {l:List ShD} (i:l.Nodup) (g:∀s,s∈l↔s∈U.jrs d/\q s=true) (c:jvo U.jAC l):(U.jrs d).filter q=l:=by
 refine jbj (jAD ?_) (L.perm_of_nodup (List.Pairwise.filter _ (ji3 d)) i fun s=> ?_) (List.Pairwise.filter _ (jm7 d)) c
 .intro a c b f e;exact jEl h a ((jdU h a).1 (jHh.1 c).1).1 b ((jdU h b).1 (jHh.1 f).1).1 e
 .rw[jHh,g]
end Go.X
namespace Go.X
theorem jk3 {d:DyD}:U.w5 d=0↔U.jgD d/\∀a∈U.zc d,∀b∈U.zc d,U.wo a=U.wo b->a=b:=by
 refine⟨fun h=>zi ((wC d).trans h),fun⟨⟨c,e,f⟩,g⟩=> ?_⟩;unfold U.w5;rw[c,e,f,(jra _).2 g];rfl
theorem jCr {d:DyD} {l:List ShD} (h:U.zL d=true) (a:l.length<=30) (b:∀s∈l,U.jaf (U.jq d).length (U.je (U.jb d)).length s=true):U.zL (U.j8 d l)=true:=by
 have f:=za h;show(decide ((U.jq d).length<=4/\1<=(U.jL d).length/\(U.jL d).length<=5/\0<=U.jej d/\U.jej d<=300/\0<=U.jxv d/\U.jxv d<=1440/\l.length<=30)&&
  ((U.jL d).all (U.vR (U.jL d).length)&&((U.jq d).all (U.jco (U.jL d).length)&&l.all (U.jaf (U.jq d).length (U.je (U.jb d)).length))))=true
 simp only[jG3,decide_eq_true_eq,jHE];exact⟨⟨f.1,f.2.1.1,f.2.1.2,f.2.2.1.1,f.2.2.1.2,f.2.2.2.1.1,f.2.2.2.1.2,a⟩,f.2.2.2.2.2.1,f.2.2.2.2.2.2.1,b⟩
theorem jCv {d:DyD} {l:List ShD} (h:U.jgD d) (c:l.length<=30) (e:∀s∈l,U.jaf (U.jq d).length (U.je (U.jb d)).length s=true) (hi:∀a∈l,∀b∈l,U.wo a=U.wo b->a=b):U.w5 (U.j8 d l)=0:=
 jk3.2 ⟨⟨h.1,h.2.1,jCr h.2.2 c e⟩,hi⟩
theorem jAR {d:DyD} {p b:Int}:∀l:List ShD,b∉U.jbm d p l->U.jbm d p (l.filter (fun s=> !decide (U.jdq s=b)))=U.jbm d p l:=by
 intro l
 induction l using jGl with
 |nil=>intro _;rfl
 |snoc l s a=>
  intro h;rw[jcP] at h;rw[List.filter_append,jcP];have f:b∉U.jbm d p l:=fun c=>by
   unfold U.jub at h
   split at h
   .exact h (jG2 _ c)
   .exact h c
  have a:=a f;by_cases e:U.jdq s=b
  .rw[List.filter_cons_of_neg (by simp[e]),List.filter_nil,jHw,a];unfold U.jub at h⊢
   split at h
   .exact absurd (jG1 _ (jH2.2 e.symm)) h
   .rename_i g;rw[if_neg g]
  .rw[List.filter_cons_of_pos (by simp[e]),List.filter_nil,jcP,a]
theorem jA4 {d:DyD} {m:List ShD} {q:Int} (h:U.w5 d=0) (j:U.w5 (U.j8 d m)=0) (c:∀s,U.qE s=q->(s∈m↔s∈U.zc d)):U.jbD (U.j8 d m) q=U.jbD d q:=by
 unfold U.jbD;refine(jl9 h _ (List.Pairwise.filter _ (ji3 _)) (fun s=> ?_) (List.Pairwise.filter _ (jm7 _))).symm;rw[jHh];refine and_congr_left fun a=> ?_
 have a:U.qE s=q:=of_decide_eq_true a;rw[jdU j,jdU h];have i:∀t,U.vi t=U.vi s->(t∈m↔t∈U.zc d):=fun t e=>c t (((jcT t s).1 e).2.trans a)
 refine⟨fun g=>⟨(c s a).1 g.1,g.2.1,fun t f b=>g.2.2 t ((i t b).2 f) b⟩,fun g=>⟨(c s a).2 g.1,g.2.1,fun t f b=>g.2.2 t ((i t b).1 f) b⟩⟩
theorem jA3 {d:DyD} {m:List ShD} {x:ShD} (h:U.w5 d=0) (z:U.w5 (U.j8 d m)=0) (n:∀s,U.qE s=U.qE x->(s∈m↔s∈U.zc d\/s=x)) (r:∀s∈U.zc d,U.wJ x s=true):
 U.jbD (U.j8 d m) (U.qE x)=(U.jbD d (U.qE x)).filter (fun s=> !decide (U.jdq s=U.jdq x))++(if U.jyd x=1 then[x] else[]):=by
 have y:x∉U.zc d:=fun C=>by have:=r x C;rw[qj] at this;cases this
 have l:∀s∈(U.jbD d (U.qE x)).filter (fun s=> !decide (U.jdq s=U.jdq x)),s∈U.zc d:=fun s B=>((jdU h s).1 (jHh.1 (jHh.1 B).1).1).1
 unfold U.jbD at l⊢;refine jl9 z _ (jHZ.2 ⟨List.Pairwise.filter _ (List.Pairwise.filter _ (ji3 _)),?_,fun a u b i e=> ?_⟩) (fun s=> ?_) (List.pairwise_append.2 ⟨List.Pairwise.filter _ (List.Pairwise.filter _ (jm7 _)),?_,fun a u b i=> ?_⟩)
 .split<;>simp
 .split at i
  .rw[jH2] at i;subst i;subst e;exact y (l a u)
  .cases i
 .rw[jHa,jHh,jHh,jdU z,jdU h];have w:∀t,U.vi t=U.vi s->U.qE s=U.qE x->(t∈m↔t∈U.zc d\/t=x):=fun t e A=>n t (((jcT t s).1 e).2.trans A)
  constructor
  .rintro(⟨⟨⟨j,p,q⟩,o⟩,v⟩|g)
   .have c:U.qE s=U.qE x:=of_decide_eq_true o;refine⟨⟨(n s c).2 (.inl j),p,fun t f k=> ?_⟩,o⟩;rcases(w t k c).1 f with f|f
    .exact q t f k
    .subst f;have:=((jcT t s).1 k).1;simp[this] at v
   .split at g
    .rename_i hk;rw[jH2] at g;subst g;refine⟨⟨(n s rfl).2 (.inr rfl),hk,fun t f k=> ?_⟩,decide_eq_true rfl⟩;rcases(w t k rfl).1 f with f|f
     .exact jc3 (r t f)
     .subst f;exact qj _
    .cases g
  .rintro⟨⟨j,p,q⟩,o⟩;have c:U.qE s=U.qE x:=of_decide_eq_true o;rcases(n s c).1 j with j|j
   .refine .inl ⟨⟨⟨j,p,fun t f k=>q t ((w t k c).2 (.inl f)) k⟩,o⟩,?_⟩;by_cases e:U.jdq s=U.jdq x
    .have:=q x ((n x rfl).2 (.inr rfl)) ((jcT x s).2 ⟨e.symm,c.symm⟩);rw[r s j] at this;cases this
    .simp[e]
   .subst j;refine .inr ?_;rw[if_pos p];exact jH2.2 rfl
 .split<;>simp
 .split at i
  .rw[jH2] at i;subst i;show U.wJ a b=false;exact jc3 (r a (l a u))
  .cases i
end Go.X

namespace Go.X
def vJ (d:DyD) (b all t:Int) (s:Nat):Bool:=decide (zx (s:Int) all=0)&&U.qL (U.jb d) (U.yJ (U.bk d b)) (bor t (s:Int))
theorem jqK (d:DyD) (b all t:Int):∀n,((U.yD d b all t n).2.2=true->∃s:Nat,s<n/\vJ d b all t s=true/\U.yD d b all t n=((s:Int),U.wD (U.jb d) (s:Int),true)/\∀u:Nat,u<n->vJ d b all t u=true->U.wD (U.jb d) (s:Int)<U.wD (U.jb d) (u:Int)\/(U.wD (U.jb d) (s:Int)=U.wD (U.jb d) (u:Int)/\s<=u))/\
 ((U.yD d b all t n).2.2=false->∀u:Nat,u<n->vJ d b all t u=false)
 |0=>⟨fun h=>absurd h (by show¬(false=true);simp),fun _ u f=>absurd f (by omega)⟩
 |n+1=>by
  obtain⟨o,p⟩:=jqK d b all t n
  have e:U.yD d b all t (n+1)=U.jgg d b all t (U.yD d b all t n) n:=by
   unfold U.yD;rw[jHq,jHk];rfl
  rw[e];have es:∀x:Int×Int×Bool,U.jgg d b all t x n=if(vJ d b all t n&&(!x.2.2||decide (U.wD (U.jb d) (n:Int)<x.2.1)))=true then((n:Int),U.wD (U.jb d) (n:Int),true) else x:=fun x=>rfl
  rw[es];cases k:vJ d b all t n with
  |false=>
   rw[if_neg (by simp)];refine⟨fun h=> ?_,fun h u f=> ?_⟩
   .obtain⟨s,q,l,i,j⟩:=o h;refine⟨s,by omega,l,i,fun u f a=> ?_⟩;by_cases g:u=n
    .subst g;rw[k] at a;cases a
    .exact j u (by omega) a
   .by_cases g:u=n
    .subst g;exact k
    .exact p h u (by omega)
  |true=>
   cases m:(U.yD d b all t n).2.2 with
   |false=>
    rw[if_pos (by simp)];refine⟨fun _=>⟨n,by omega,k,rfl,fun u f a=> ?_⟩,fun h=>by cases h⟩;by_cases g:u=n
    .subst g;exact .inr ⟨rfl,jG5 _⟩
    .have:=p m u (by omega);rw[a] at this;cases this
   |true=>
    obtain⟨s,q,l,i,j⟩:=o m;by_cases c:U.wD (U.jb d) (n:Int)<(U.yD d b all t n).2.1
    .rw[if_pos (by simp[c])];rw[i] at c;have c:U.wD (U.jb d) (n:Int)<U.wD (U.jb d) (s:Int):=c;refine⟨fun _=>⟨n,by omega,k,rfl,fun u f a=> ?_⟩,fun h=>by cases h⟩;by_cases g:u=n
     .subst g;exact .inr ⟨rfl,jG5 _⟩
     .have:=j u (by omega) a;omega
    .rw[if_neg (by simp[c])];rw[i] at c;have c:¬U.wD (U.jb d) (n:Int)<U.wD (U.jb d) (s:Int):=c;refine⟨fun _=>⟨s,by omega,l,i,fun u f a=> ?_⟩,fun h=>by rw[m] at h;cases h⟩;by_cases g:u=n
     .subst g;omega
     .exact j u (by omega) a
end Go.X
namespace Go.X
instance:Inhabited (Nat×Nat):=⟨(0,0)⟩
end Go.X
namespace Go.X
theorem jAP {d:DyD} (h:U.w5 d=0) (p:Nat):(U.jbm d (p:Int) (U.jbD d (p:Int))).Nodup/\∀b∈U.jbm d (p:Int) (U.jbD d (p:Int)),U.kz d b:=by
 have a:=(wC d).trans h;rw[<-jyO a p];exact(gV a).row p
theorem jBv {α:Type} [Inhabited α] {R:α->α->Prop} {l:List α} (h:l.Pairwise R) {i j:Nat} (a:i<j) (b:j<l.length):R (nth l i) (nth l j):=by
 rw[L.nth_lt (by omega),L.nth_lt b];exact jH5.1 h i j (by omega) b a
end Go.X
namespace Go.X
open Go.Proofs
def jr5:j7:=⟨[.val tDy],[.bool],false,fun _=>[],fun d=>(!U.jiB d.1&&decide (U.w5 d.1=0),())⟩
def jrC:Prop:=∀(d:DyD×Unit),((!U.jiB d.1)=true->(U.jq d.1).length<=1000000)/\(!U.jiB d.1&&decide (U.w5 d.1=0),())=(!U.jiB d.1&&decide (U.w5 d.1=0),())
end Go.X
namespace Go.X
open Go.Proofs
theorem jws:jrC:=by
 rintro⟨d,⟨⟩⟩;refine⟨fun h=> ?_,rfl⟩;have h:(!U.jiB d)=true:=h;rw[jHB] at h;have:=(ju3 (d:=d) h).2.2.1;show(U.jq d).length<=1000000;omega
theorem jsM:zu PR 7 jr5:=jZ jws Tryz.func7 (kcC jyQ (kcC jj1 kcN)) koN
end Go.X


namespace Go.X
open Go.Proofs
end Go.X
namespace Go.X
open Go.Proofs
theorem jFr {α:Type} [DecidableEq α] {a b:α} (h:decide (a≠b)=false):a=b:=Decidable.not_not.1 (of_decide_eq_false h)
end Go.X
namespace Go.X
open Go.Proofs
end Go.X
namespace Go.X
open Go.Proofs
end Go.X
namespace Go.X
open Go.Proofs
end Go.X
namespace Go.X
open Go.Proofs
abbrev jGJ:Sh:= .agg [.dat .int,.dat (.slice tPe),.dat (.slice tLw),.dat (.slice (.slice tSp)),.dat (.slice tBk),.dat .int,.dat .int,.row 55 tSh .no]
namespace U
def jg (d:DyD):jGJ.D:=(la (jb d),je (jb d),wk (jb d),jL d,jq d,jej d,jxv d,zc d,())
def juk (b:Int) (p:Nat):ShD:=(90+(p:Int),9000,1,b,(p:Int),())
def jV (d:DyD) (s b:Int) (n:Nat):List ShD:=zc d++((List.range n).filter (fun(p:Nat)=>jH s (p:Int))).map (juk b)
def kh (l:List Int) (n:Nat):Int:=(List.range n).foldl (fun s i=>s+2^(nth l i).toNat) 0
def juN (l:List ShD) (n:Nat):Prop:=∀j:Nat,j<n->wo (nth l j)<90/\jjq (nth l j)<9000
end U
def jnA:zP:=⟨[.val tDy],[jGJ],fun d=>[U.jeg d.1],fun d=>((U.jg d.1,()),())⟩
abbrev q140_0 (d:DyD×Unit):=(d.1.1.1=d.1.1.1/\d.1.1.2.1=d.1.1.2.1/\d.1.1.2.2.1=d.1.1.2.2.1/\True/\d.1.2.2.1=d.1.2.2.1/\d.1.2.2.2.1=d.1.2.2.2.1/\d.1.2.2.2.2.1=d.1.2.2.2.2.1/\d.1.2.2.2.2.2.1=d.1.2.2.2.2.2.1/\True)
def jnd:Prop:=∀(d:DyD×Unit),U.jeg d.1->U.jjx d.1.1/\(∃(x:Nat),((0=(x:Int)/\True)/\(q140_0 d)/\List.take x (U.jL d.1)=[]/\True)/\x<=(U.jL d.1).length)/\∀(x:Nat),x<=(U.jL d.1).length->d.1.2.1.length<4611686018427387904->(decide ((x:Int)<(d.1.2.1.length:Int))=true->0<=(x:Int)/\(x:Int)<(d.1.2.1.length:Int)/\(0+(nth d.1.2.1 (x:Int).toNat).length)*16<=140737488355328/\((List.take x (U.jL d.1)).length+[[]++nth d.1.2.1 (x:Int).toNat].length)*24<=140737488355328/\jy ((x:Int)+1)/\∃(a:Nat),(((x:Int)+1=(a:Int)/\True)/\(q140_0 d)/\List.take x (U.jL d.1)++[[]++nth d.1.2.1 (x:Int).toNat]=List.take a (U.jL d.1)/\True)/\a<=(U.jL d.1).length/\(U.jL d.1).length-a<(U.jL d.1).length-x)/\(decide ((x:Int)<(d.1.2.1.length:Int))=false->(0+d.1.2.2.1.length)*72<=140737488355328/\(0+d.1.2.2.2.2.2.1.length)*40<=140737488355328/\((d.1.1.1,d.1.1.2.1,d.1.1.2.2.1,List.take x (U.jL d.1),[]++d.1.2.2.1,d.1.2.2.2.1,d.1.2.2.2.2.1,[]++d.1.2.2.2.2.2.1,()),())=(U.jg d.1,())/\()=())
def jBf:j7:=⟨[.val (.slice .int),.val .int],[.bool],false,fun _=>[],fun d=>(d.1.any (fun x=>decide (x=d.2.1)),())⟩
def jCI:Ann:=fun r=>match r with
 |2=>some fun σ=>{X:=Nat,sl:=fun i=>[(5,.dat .int (i:Int))],ob:=fun _=>[],inv:=fun i=>i<=(gd (.slice .int) σ 0).length/\((gd (.slice .int) σ 0).take i).any (fun x=>decide (x=gd .int σ 1))=false,mu:=fun i=>(gd (.slice .int) σ 0).length-i}
 |_=>none
def jA5:Prop:=∀(d:List Int×Int×Unit),(∃(x:Nat),((0=(x:Int)/\True)/\True)/\x<=d.1.length/\((List.take x d.1).any fun(b:Int)=>decide (b=d.2.1))=false)/\∀(x:Nat),x<=d.1.length/\((List.take x d.1).any fun(c:Int)=>decide (c=d.2.1))=false->d.1.length<4611686018427387904->(decide ((x:Int)<(d.1.length:Int))=true->0<=(x:Int)/\(x:Int)<(d.1.length:Int)/\(decide (nth d.1 (x:Int).toNat=d.2.1)=true->(true,())=(d.1.any fun(e:Int)=>decide (e=d.2.1),()))/\(decide (nth d.1 (x:Int).toNat=d.2.1)=false->jy ((x:Int)+1)/\∃(a:Nat),(((x:Int)+1=(a:Int)/\True)/\True)/\(a<=d.1.length/\((List.take a d.1).any fun(f:Int)=>decide (f=d.2.1))=false)/\d.1.length-a<d.1.length-x))/\(decide ((x:Int)<(d.1.length:Int))=false->(false,())=(d.1.any fun(g:Int)=>decide (g=d.2.1),()))
def jea:j7:=jzn [tDy,.int,.int]
def jeX:Ann:=fun r=>match r with
 |4=>some fun σ=>{X:=Nat,sl:=fun i=>[(7,.dat .int (i:Int))],ob:=fun _=>[],inv:=fun i=>i<=(U.zc (gb tDy σ 3)).length/\U.juN (U.zc (gb tDy σ 3)) i,mu:=fun i=>(U.zc (gb tDy σ 3)).length-i}
 |15=>some fun σ=>{X:=Nat,sl:=fun p=>[(16,.dat .int (p:Int)),(15,.dat .int (U.jP (gb tDy σ 3) (gd (.slice .int) σ 8) (gd .int σ 1) p))],ob:=fun _=>[],inv:=fun p=>p<=(U.je (U.jb (gb tDy σ 3))).length,mu:=fun p=>(U.je (U.jb (gb tDy σ 3))).length-p}
 |21=>some fun σ=>{X:=Nat,sl:=fun i=>[(18,.dat .int (i:Int)),(17,.dat .int (U.kh (gd (.slice .int) σ 10) i))],ob:=fun _=>[],inv:=fun i=>i<=(gd (.slice .int) σ 10).length,mu:=fun i=>(gd (.slice .int) σ 10).length-i}
 |31=>some fun σ=>{X:=Nat,sl:=fun p=>[(20,.dat .int (p:Int))],ob:=fun p=>[(19,some (.box 30 false ((bx σ 19).set 7 (.own (yw 19 7) tSh)))),(yw 19 7,some (.row 55 tSh false .no (U.jV (gb tDy σ 3) (gd .int σ 12) (gd .int σ 1) p)))],inv:=fun p=>p<=(U.je (U.jb (gb tDy σ 3))).length,mu:=fun p=>(U.je (U.jb (gb tDy σ 3))).length-p}
 |3000017=>some fun _=>{X:=Unit,sl:=fun _=>[],ob:=fun _=>[],inv:=fun _=>True,mu:=fun _=>0}
 |40=>some fun σ=>{X:=Nat,sl:=fun b=>[(25,.dat .int (b:Int))],ob:=fun _=>[],inv:=fun b=>b<=(U.jq (gb tDy σ 3)).length,mu:=fun b=>(U.jq (gb tDy σ 3)).length-b}
 |_=>none
abbrev q142_1 (d:DyD×Int×Int×Unit)(x:Nat):=(!(decide (d.2.2.1<0)||decide (zx d.2.2.1 (U.jP d.1 (U.jE d.1) d.2.1 x)≠0)))
abbrev q142_2 (d:DyD×Int×Int×Unit):=((U.jg d.1).1=(U.jg d.1).1/\(U.jg d.1).2.1=(U.jg d.1).2.1/\(U.jg d.1).2.2.1=(U.jg d.1).2.2.1/\(U.jg d.1).2.2.2.1=(U.jg d.1).2.2.2.1/\(U.jg d.1).2.2.2.2.1=(U.jg d.1).2.2.2.2.1/\(U.jg d.1).2.2.2.2.2.1=(U.jg d.1).2.2.2.2.2.1/\(U.jg d.1).2.2.2.2.2.2.1=(U.jg d.1).2.2.2.2.2.2.1/\True/\True)
abbrev q142_5 (d:DyD×Int×Int×Unit):=(U.kD d.1 d.2.1)
abbrev q142_8 (d:DyD×Int×Int×Unit)(a:Nat):=(!!U.yA d.1 (nth (q142_5 d) (a:Int).toNat)&&decide (0<(a:Int)))
abbrev q142_11 (d:DyD×Int×Int×Unit):=(U.je (U.jb d.1))
abbrev q142_12 (d:DyD×Int×Int×Unit):=(↑(U.jE d.1).length:Int)
abbrev q142_10 (d:DyD×Int×Int×Unit):=(decide (U.jz d.1≠0)||decide (U.ja0 d.1 (U.jh d.1 d.2.1)≠0)||decide (U.kJ d.1 d.2.1≠0)&&decide (U.kJ d.1 d.2.1≠3)||decide ((q142_12 d)≠(d.1.2.2.1.length:Int)))
abbrev q142_13 (d:DyD×Int×Int×Unit)(a:Nat):=(!U.yA d.1 (nth (q142_5 d) (a:Int).toNat)||decide (0<(a:Int))&&decide (nth (q142_5 d) (a:Int).toNat<=nth (q142_5 d) ((a:Int)-1).toNat))
abbrev q142_14 (d:DyD×Int×Int×Unit):=(!(decide (U.jz d.1≠0)||decide (U.ja0 d.1 (U.jh d.1 d.2.1)≠0)||decide (U.kJ d.1 d.2.1≠0)&&decide (U.kJ d.1 d.2.1≠3)))
abbrev q142_15 (d:DyD×Int×Int×Unit)(x:Nat):=((90:Int)<=(nth d.1.2.2.2.2.2.1 (x:Int).toNat).1)
abbrev q142_16:=(Ty.int.pair (Ty.int.pair Ty.unit))
abbrev q142_18 (d:DyD×Int×Int×Unit):=(nth (U.jE d.1) d.2.1.toNat)
abbrev q142_3 (d:DyD×Int×Int×Unit)(x:Nat):=(decide (d.2.2.1<0)||decide (zx d.2.2.1 (U.jP d.1 (U.jE d.1) d.2.1 x)≠0)|| !U.qL d.1.1 (nth d.1.2.2.1 d.2.1.toNat).1 (bor (q142_18 d) d.2.2.1))
abbrev q142_9 (d:DyD×Int×Int×Unit)(x:Nat):=((q142_3 d x)=false->U.jl d.1.1=true/\(decide (U.kJ d.1 d.2.1=0)&&(decide (U.gA d.1 d.2.1<U.wD d.1.1 d.2.2.1)||decide (U.wD d.1.1 d.2.2.1=U.gA d.1 d.2.1)&&decide (U.zk d.1 d.2.1<=d.2.2.1))&&true,())=(true,()))
abbrev q142_19 (x:Nat)(a:Nat)(d:DyD×Int×Int×Unit):=(((x:Int)+1=(a:Int)/\U.jP d.1 (U.jE d.1) d.2.1 x+1*2^(x:Int).toNat=U.jP d.1 (U.jE d.1) d.2.1 a/\True)/\True)
abbrev q142_21 (d:DyD×Int×Int×Unit):=(U.zk d.1 d.2.1)
abbrev q142_0 (d:DyD×Int×Int×Unit)(a:Nat):=(((U.jg d.1).1,(U.jg d.1).2.1,(U.jg d.1).2.2.1,()),(U.jg d.1).2.2.2.1,(U.jg d.1).2.2.2.2.1,(U.jg d.1).2.2.2.2.2.1,(U.jg d.1).2.2.2.2.2.2.1,U.jV d.1 (q142_21 d) d.2.1 a,())
abbrev q142_4 (a:Nat)(d:DyD×Int×Int×Unit)(b:Nat):=(!(decide ((a:Int)=d.2.1)&&decide (nth (U.jE (q142_0 d b)) (a:Int).toNat≠bor (nth (U.jE d.1) (a:Int).toNat) (q142_21 d)))&&decide ((a:Int)≠d.2.1))
abbrev q142_6 (a:Nat)(d:DyD×Int×Int×Unit)(b:Nat):=(decide ((a:Int)=d.2.1)&&decide (nth (U.jE (q142_0 d b)) (a:Int).toNat≠bor (nth (U.jE d.1) (a:Int).toNat) (q142_21 d))||decide ((a:Int)≠d.2.1)&&decide (zx (nth (U.jE d.1) (a:Int).toNat) (nth (U.jE (q142_0 d b)) (a:Int).toNat)≠0))
abbrev q142_7 (d:DyD×Int×Int×Unit)(a:Nat)(x:Nat):=(decide (U.kh (q142_5 d) a≠U.jP d.1 (U.jE d.1) d.2.1 x)||decide (U.kJ d.1 d.2.1=0)&&(decide (U.zk d.1 d.2.1<0)||decide (zx (q142_21 d) (U.jP d.1 (U.jE d.1) d.2.1 x)≠0)||decide (U.gA d.1 d.2.1≠U.wD d.1.1 (q142_21 d))))
abbrev q142_17 (d:DyD×Int×Int×Unit)(a:Nat):=(↑(U.jE (q142_0 d a)).length:Int)
abbrev q142_22 (d:DyD×Int×Int×Unit)(x:Nat)(a:Nat):=((U.jP d.1 (U.jE d.1) d.2.1 x=U.jP d.1 (U.jE d.1) d.2.1 a/\(x:Int)+1=(a:Int)/\True)/\True)
abbrev q142_23 (d:DyD×Int×Int×Unit):=(↑(q142_5 d).length:Int)
abbrev q142_24 (d:DyD×Int×Int×Unit)(a:Nat):=(U.jz (q142_0 d a)≠0)
abbrev q142_25 (d:DyD×Int×Int×Unit):=(d.1.2.2.2.2.2.1.length:Int)
abbrev q142_20 (d:DyD×Int×Int×Unit):=(!(!U.jiB d.1&&decide (U.w5 d.1=0))||decide (8<(q142_25 d))|| !U.jh d.1 d.2.1)
abbrev q142_26 (x:Nat):=(0<=(x:Int)/\(x:Int)<=63)
abbrev q142_27:=(Ty.int.pair (Ty.int.pair (Ty.int.pair q142_16)))
abbrev q142_28 (d:DyD×Int×Int×Unit)(x:Nat):=(decide (q142_15 d x)||decide ((9000:Int)<=(nth d.1.2.2.2.2.2.1 (x:Int).toNat).2.1))
def jdV:Prop:=∀(d:DyD×Int×Int×Unit),jov 1048576 [(Ty.int.pair ((Ty.int.slice.pair (Ty.int.pair (Ty.int.pair (Ty.int.slice.pair (Ty.bool.pair (Ty.int.pair Ty.unit)))))).slice.pair ((Ty.int.pair (Ty.int.pair (Ty.bool.pair Ty.unit))).slice.pair Ty.unit))).pair (q142_16.slice.slice.pair (((Ty.int.pair q142_27).pair (Ty.int.pair q142_16)).slice.pair (Ty.int.pair (Ty.int.pair (q142_27.slice.pair Ty.unit))))),Ty.int,Ty.int] d->((!!(!U.jiB d.1&&decide (U.w5 d.1=0)))=true->d.1.2.2.2.2.2.1.length<4611686018427387904)->((q142_20 d)=true->(true,())=(true,()))/\((q142_20 d)=false->(∃(x:Nat),((0=(x:Int)/\True)/\True)/\x<=(U.zc d.1).length/\U.juN (U.zc d.1) x)/\∀(x:Nat),x<=(U.zc d.1).length/\U.juN (U.zc d.1) x->d.1.2.2.2.2.2.1.length<4611686018427387904->(decide ((x:Int)<(q142_25 d))=true->0<=(x:Int)/\(x:Int)<(q142_25 d)/\((!decide (q142_15 d x))=true->0<=(x:Int))/\((!decide (q142_15 d x))=true->(x:Int)<(q142_25 d))/\((q142_28 d x)=true->(true,())=(true,()))/\((q142_28 d x)=false->jy ((x:Int)+1)/\∃(e:Nat),(((x:Int)+1=(e:Int)/\True)/\True)/\(e<=(U.zc d.1).length/\U.juN (U.zc d.1) e)/\(U.zc d.1).length-e<(U.zc d.1).length-x))/\(decide ((x:Int)<(q142_25 d))=false->(U.zc d.1).length<=100000/\(U.zc d.1).length<=100000/\(U.zc d.1).length<=100000/\(((q142_14 d)=true->(U.jE d.1).length<4611686018427387904)->((q142_14 d)=true->d.1.2.2.1.length<4611686018427387904)->((q142_10 d)=true->(false,())=(true,()))/\((q142_10 d)=false->(∃(x:Nat),((0=(x:Int)/\0=U.jP d.1 (U.jE d.1) d.2.1 x/\True)/\True)/\x<=(q142_11 d).length)/\∀(x:Nat),x<=(q142_11 d).length->d.1.1.2.1.length<4611686018427387904->(decide ((x:Int)<(d.1.1.2.1.length:Int))=true->(!U.jH (q142_18 d) (x:Int))= !U.jH (q142_18 d) (x:Int)/\((!U.jH (q142_18 d) (x:Int))=true->0<=d.2.1/\d.2.1<(q142_12 d)/\(q142_26 x)/\(U.jE d.1).length<=1000/\(q142_26 x)/\((U.on (U.jE d.1) (x:Int)).length+[d.2.1].length)*8<=140737488355328/\U.jgD d.1/\U.jn0 d.1 (x:Int)/\U.jfQ d.1 (U.on (U.jE d.1) (x:Int)++[d.2.1])/\(U.ke d.1 (x:Int) (U.on (U.jE d.1) (x:Int)++[d.2.1])=true->0<=(x:Int)/\(x:Int)<=18446744073709551615/\0<=(x:Int)/\(x:Int)<=64/\jy ((1:Int)*2^(x:Int).toNat)/\jy (U.jP d.1 (U.jE d.1) d.2.1 x+1*2^(x:Int).toNat)/\jy ((x:Int)+1)/\∃(e:Nat),(q142_19 x e d)/\e<=(q142_11 d).length/\(q142_11 d).length-e<(q142_11 d).length-x)/\(U.ke d.1 (x:Int) (U.on (U.jE d.1) (x:Int)++[d.2.1])=false->jy ((x:Int)+1)/\∃(e:Nat),(q142_22 d x e)/\e<=(q142_11 d).length/\(q142_11 d).length-e<(q142_11 d).length-x))/\((!U.jH (q142_18 d) (x:Int))≠true->0<=d.2.1/\d.2.1<(q142_12 d)/\(q142_26 x)/\(false=true->0<=(x:Int)/\(x:Int)<=18446744073709551615/\0<=(x:Int)/\(x:Int)<=64/\jy ((1:Int)*2^(x:Int).toNat)/\jy (U.jP d.1 (U.jE d.1) d.2.1 x+1*2^(x:Int).toNat)/\jy ((x:Int)+1)/\∃(e:Nat),(q142_19 x e d)/\e<=(q142_11 d).length/\(q142_11 d).length-e<(q142_11 d).length-x)/\(false=false->jy ((x:Int)+1)/\∃(e:Nat),(q142_22 d x e)/\e<=(q142_11 d).length/\(q142_11 d).length-e<(q142_11 d).length-x)))/\(decide ((x:Int)<(d.1.1.2.1.length:Int))=false->(∃(x:Nat),((0=(x:Int)/\0=U.kh (q142_5 d) x/\True)/\True)/\x<=(q142_5 d).length)/\∀(c:Nat),c<=(q142_5 d).length->(q142_5 d).length<4611686018427387904->(decide ((c:Int)<(q142_23 d))=true->0<=(c:Int)/\(c:Int)<(q142_23 d)/\((q142_8 d c)=true->jy ((c:Int)-1))/\((q142_8 d c)=true->0<=(c:Int)-1)/\((q142_8 d c)=true->(c:Int)-1<(q142_23 d))/\((q142_8 d c)=true->0<=(c:Int))/\((q142_8 d c)=true->(c:Int)<(q142_23 d))/\((q142_13 d c)=true->(false,())=(true,()))/\((q142_13 d c)=false->0<=(c:Int)/\(c:Int)<(q142_23 d)/\0<=nth (q142_5 d) (c:Int).toNat/\nth (q142_5 d) (c:Int).toNat<=18446744073709551615/\0<=nth (q142_5 d) (c:Int).toNat/\nth (q142_5 d) (c:Int).toNat<=64/\jy ((1:Int)*2^(nth (q142_5 d) (c:Int).toNat).toNat)/\jy (U.kh (q142_5 d) c+1*2^(nth (q142_5 d) (c:Int).toNat).toNat)/\jy ((c:Int)+1)/\∃(e:Nat),(((c:Int)+1=(e:Int)/\U.kh (q142_5 d) c+1*2^(nth (q142_5 d) (c:Int).toNat).toNat=U.kh (q142_5 d) e/\True)/\True)/\e<=(q142_5 d).length/\(q142_5 d).length-e<(q142_5 d).length-c))/\(decide ((c:Int)<(q142_23 d))=false->((!decide (U.kh (q142_5 d) c≠U.jP d.1 (U.jE d.1) d.2.1 x)&&decide (U.kJ d.1 d.2.1=0)&& !(decide (U.zk d.1 d.2.1<0)||decide (zx (q142_21 d) (U.jP d.1 (U.jE d.1) d.2.1 x)≠0)))=true->U.jl d.1.1=true)/\((q142_7 d c x)=true->(false,())=(true,()))/\((q142_7 d c x)=false->(decide (U.kJ d.1 d.2.1=0)=true->U.jeg d.1/\(∃(x:Nat),((0=(x:Int)/\True)/\(q142_2 d)/\(U.jg d.1).2.2.2.2.2.2.2.1=U.jV d.1 (q142_21 d) d.2.1 x/\True)/\x<=(q142_11 d).length)/\∀(a:Nat),a<=(q142_11 d).length->d.1.1.2.1.length<4611686018427387904->(decide ((a:Int)<(d.1.1.2.1.length:Int))=true->(0<=(a:Int)/\(a:Int)<=63)/\(U.jH (q142_21 d) (a:Int)=true->jy ((90:Int)+(a:Int))/\((U.jV d.1 (q142_21 d) d.2.1 a).length+[((90:Int)+(a:Int),(9000:Int),(1:Int),d.2.1,(a:Int),())].length)*40<=140737488355328/\jy ((a:Int)+1)/\∃(e:Nat),(((a:Int)+1=(e:Int)/\True)/\(q142_2 d)/\U.jV d.1 (q142_21 d) d.2.1 a++[((90:Int)+(a:Int),(9000:Int),(1:Int),d.2.1,(a:Int),())]=U.jV d.1 (q142_21 d) d.2.1 e/\True)/\e<=(q142_11 d).length/\(q142_11 d).length-e<(q142_11 d).length-a)/\(U.jH (q142_21 d) (a:Int)=false->jy ((a:Int)+1)/\∃(e:Nat),(((a:Int)+1=(e:Int)/\True)/\U.jV d.1 (q142_21 d) d.2.1 a=U.jV d.1 (q142_21 d) d.2.1 e/\(q142_2 d)/\True)/\e<=(q142_11 d).length/\(q142_11 d).length-e<(q142_11 d).length-a))/\(decide ((a:Int)<(d.1.1.2.1.length:Int))=false->(U.zc (q142_0 d a)).length<=100000/\(U.zc (q142_0 d a)).length<=100000/\(((!(decide (q142_24 d a)||decide (q142_24 d a)))=true->(U.jE (q142_0 d a)).length<4611686018427387904)->((!(decide (q142_24 d a)||decide (q142_24 d a)))=true->(U.jE d.1).length<4611686018427387904)->((decide (q142_24 d a)||decide (q142_24 d a)||decide ((q142_17 d a)≠(q142_12 d))|| !(U.jh7 (q142_0 d a)).any fun(f:Int)=>decide (f=d.2.1))=true->(false,())=(true,()))/\((decide (q142_24 d a)||decide (q142_24 d a)||decide ((q142_17 d a)≠(q142_12 d))|| !(U.jh7 (q142_0 d a)).any fun(g:Int)=>decide (g=d.2.1))=false->(∃(x:Nat),((0=(x:Int)/\True)/\True)/\x<=(U.jq d.1).length)/\∀(b:Nat),b<=(U.jq d.1).length->(U.jE (q142_0 d a)).length<4611686018427387904->(decide ((b:Int)<(q142_17 d a))=true->(decide ((b:Int)=d.2.1)=true->0<=(b:Int))/\(decide ((b:Int)=d.2.1)=true->(b:Int)<(q142_17 d a))/\(decide ((b:Int)=d.2.1)=true->0<=(b:Int))/\(decide ((b:Int)=d.2.1)=true->(b:Int)<(q142_12 d))/\((q142_4 b d a)=true->0<=(b:Int))/\((q142_4 b d a)=true->(b:Int)<(q142_12 d))/\((q142_4 b d a)=true->0<=(b:Int))/\((q142_4 b d a)=true->(b:Int)<(q142_17 d a))/\((q142_6 b d a)=true->(false,())=(true,()))/\((q142_6 b d a)=false->jy ((b:Int)+1)/\∃(e:Nat),(((b:Int)+1=(e:Int)/\True)/\True)/\e<=(U.jq d.1).length/\(U.jq d.1).length-e<(U.jq d.1).length-b))/\(decide ((b:Int)<(q142_17 d a))=false->((q142_1 d x)=true->0<=d.2.1)/\((q142_1 d x)=true->d.2.1<(d.1.2.2.1.length:Int))/\((q142_1 d x)=true->0<=d.2.1)/\((q142_1 d x)=true->d.2.1<(q142_12 d))/\((q142_1 d x)=true->U.jl d.1.1=true)/\((q142_1 d x)=true->U.jW d.1.1 (nth d.1.2.2.1 d.2.1.toNat).1=true)/\((q142_1 d x)=true->U.jxt (bor (q142_18 d) d.2.2.1))/\((q142_3 d x)=true->(true,())=(true,()))/\(q142_9 d x))))))/\(decide (U.kJ d.1 d.2.1=0)=false->((q142_1 d x)=true->0<=d.2.1)/\((q142_1 d x)=true->d.2.1<(d.1.2.2.1.length:Int))/\((q142_1 d x)=true->0<=d.2.1)/\((q142_1 d x)=true->d.2.1<(q142_12 d))/\((q142_1 d x)=true->U.jl d.1.1=true)/\((q142_1 d x)=true->U.jW d.1.1 (nth d.1.2.2.1 d.2.1.toNat).1=true)/\((q142_1 d x)=true->U.jxt (bor (q142_18 d) d.2.2.1))/\((q142_3 d x)=true->(true,())=(true,()))/\(q142_9 d x)))))))))
end Go.X
namespace Go.X
theorem jaF {d:DyD} {s b:Int} {n:Nat} {x:ShD}:x∈U.jV d s b n↔x∈U.zc d\/∃p:Nat,p<n/\U.jH s (p:Int)=true/\x=U.juk b p:=by
 unfold U.jV;rw[jHa,jHy];refine or_congr_right ⟨fun⟨p,a,e⟩=> ?_,fun⟨p,c,f,e⟩=>⟨p,jHh.2 ⟨jHj.2 c,f⟩,e.symm⟩⟩;have a:=jHh.1 a;exact⟨p,jHj.1 a.1,a.2,e.symm⟩
theorem jrn (d:DyD) (s b:Int) (n:Nat):(U.jV d s b n).length<=(U.zc d).length+n:=by
 unfold U.jV;rw[jHo,jH6];have:=jH4 (fun(p:Nat)=>U.jH s (p:Int)) (List.range n);rw[List.length_range] at this;omega
theorem jm4 (d:DyD) (s b:Int) (n:Nat):U.jV d s b (n+1)=U.jV d s b n++(if U.jH s (n:Int)=true then[U.juk b n] else[]):=by
 unfold U.jV;rw[L.range_filter_succ,jHR,jHn];by_cases h:U.jH s (n:Int)=true
 .rw[if_pos h,if_pos h];rfl
 .rw[if_neg h,if_neg h];rfl
theorem jCN {d:DyD} {s b:Int} (h:U.w5 d=0) (i:U.kz d b) (n:(U.zc d).length<=8) (a:∀x∈U.zc d,U.wo x<90/\U.jjq x<9000):U.w5 (U.j8 d (U.jV d s b (U.je (U.jb d)).length))=0:=by
 have g:=jk3.1 h;have m:(U.je (U.jb d)).length<=8:=(jv g.1.1).2.2.1;have j:=jrn d s b (U.je (U.jb d)).length;unfold U.kz at i;refine jCv g.1 (by omega) (fun x c=> ?_) fun x c y f e=> ?_
 .rcases jaF.1 c with c|⟨p,k,_,rfl⟩
  .exact(za g.1.2.2).2.2.2.2.2.2.2 _ c
  .refine decide_eq_true ⟨?_,?_,?_,?_,?_,?_,i.1,?_,jHu p,?_⟩
   .show(0:Int)<=90+(p:Int);omega
   .show 90+(p:Int)<=99;omega
   .show(0:Int)<=9000;omega
   .show(9000:Int)<=9999;omega
   .show(1:Int)<=1;omega
   .show(1:Int)<=2;omega
   .show b<=((U.jq d).length:Int)-1;omega
   .show(p:Int)<=((U.je (U.jb d)).length:Int)-1;omega
 .rcases jaF.1 c with c|⟨p,k,_,rfl⟩
  .rcases jaF.1 f with f|⟨q,l,_,rfl⟩
   .exact g.2 x c y f e
   .have:=(a x c).1;have e:U.wo x=90+(q:Int):=e;omega
  .rcases jaF.1 f with f|⟨q,l,_,rfl⟩
   .have:=(a y f).1;have e:90+(p:Int)=U.wo y:=e;omega
   .have e:90+(p:Int)=90+(q:Int):=e;have:p=q:=(by omega);rw[this]
theorem jCM {d:DyD} {s b:Int} (h:U.w5 d=0) (E:U.kz d b) (r:∀x∈U.zc d,U.wo x<90/\U.jjq x<9000) (D:BT.Set' s) (H:∀q,BT.has s q=true->q<(U.je (U.jb d)).length/\U.jas d (U.kf d).1 b q=true)
 (w:U.w5 (U.j8 d (U.jV d s b (U.je (U.jb d)).length))=0) {c p:Nat} (o:c<(U.jq d).length) (u:p<(U.je (U.jb d)).length):
 U.jH (nth (U.kf (U.j8 d (U.jV d s b (U.je (U.jb d)).length))).1 c) (p:Int)=true↔U.jH (nth (U.kf d).1 c) (p:Int)=true\/((c:Int)=b/\BT.has s p=true):=by
 have t:=(wC d).trans h;have G:=yl t;rw[jtV w (b:=c) (p:=p) o u,jtV h o u];show(c:Int)∈U.jbm d (p:Int) (U.jbD (U.j8 d (U.jV d s b (U.je (U.jb d)).length)) (p:Int))↔_;have g:∀q:Nat,U.jH s (q:Int)=BT.has s q:=fun q=>wV D (q:Int)
 cases l:BT.has s p with
 |false=>
  rw[jA4 h w fun x a=> ?_]
  .exact⟨.inl,fun k=>k.elim id fun k=>by cases k.2⟩
  .rw[jaF];refine⟨fun k=>k.elim id fun⟨q,_,B,e⟩=> ?_,.inl⟩;rw[e] at a;have a:(q:Int)=(p:Int):=a;have:q=p:=(by omega);rw[this,g,l] at B;cases B
 |true=>
  obtain⟨_,f⟩:=H p l;unfold U.jas at f;rw[jG3,jHB] at f;have v:=E;unfold U.kz at v;have C:((b.toNat:Nat):Int)=b:=(by omega);have i:b∉U.jbm d (p:Int) (U.jbD d (p:Int)):=fun k=>by
   have:=(jtV h (b:=b.toNat) (p:=p) (by omega) u).2 (by rw[C];exact k);rw[f.1] at this;cases this
  have z:=jA3 (d:=d) (m:=U.jV d s b (U.je (U.jb d)).length) (x:=U.juk b p) h w (fun x a=> ?_) fun x a=>(jam _ _).2 (.inl (by have:=(r x a).2;show U.jjq x<9000;omega))
  .have z:U.jbD (U.j8 d (U.jV d s b (U.je (U.jb d)).length)) (p:Int)=(U.jbD d (p:Int)).filter (fun x=> !decide (U.jdq x=b))++[U.juk b p]:=z;rw[z,jcP,jAR _ i];have F:=jAP h p;have j:(U.jbm d (p:Int) (U.jbD d (p:Int))++[b]).Perm (U.on (U.kf d).1 (p:Int)++[b]):=by
    have:=jyN G (p:=(p:Int)) ⟨jHu p,by omega⟩ ((gV t).row p).1 ((gV t).row p).2;have this:(nth (U.jY (U.yI d)) p).Perm (U.on (U.kf d).1 (p:Int)):=this;rw[jyO t p] at this;exact this.append_right [b]
   have A:(U.jbm d (p:Int) (U.jbD d (p:Int))++[b]).Nodup:=jHZ.2 ⟨F.1,by simp,fun x a y I e=>by rw[jH2.1 I] at e;rw[e] at a;exact i a⟩;have n:U.ke d (p:Int) (U.jbm d (p:Int) (U.jbD d (p:Int))++[U.jdq (U.juk b p)])=true:=by
    show U.ke d (p:Int) (U.jbm d (p:Int) (U.jbD d (p:Int))++[b])=true;rw[jhp d (p:Int) j A];exact f.2
   unfold U.jub;rw[if_pos n,jHa,jH2];exact or_congr_right ⟨fun k=>⟨k,rfl⟩,fun k=>k.1⟩
  .rw[jaF];refine or_congr_right ⟨fun⟨q,_,_,e⟩=> ?_,fun e=>⟨p,u,by rw[g];exact l,e⟩⟩;rw[e] at a;have a:(q:Int)=(p:Int):=a;have:q=p:=(by omega);rw[e,this]
theorem jst (l:List Int) (x:Int):U.kh (l++[x]) (l++[x]).length=U.kh l l.length+2^x.toNat:=by
 unfold U.kh;rw[jHo,List.length_singleton,jHq,jHk];have e:∀(k:Nat) (a:Int),k<=l.length->(List.range k).foldl (fun s i=>s+2^(nth (l++[x]) i).toNat) a=(List.range k).foldl (fun s i=>s+2^(nth l i).toNat) a:=by
  intro k
  induction k with
  |zero=>intro a _;rfl
  |succ k b=>
   intro a hk;rw[jHq,jHk,jHk,b a (by omega)];show _+2^(nth (l++[x]) k).toNat=_+2^(nth l k).toNat;rw[jBG (by omega)]
 rw[e _ _ (jG5 _)];show _+2^(nth (l++[x]) l.length).toNat=_;rw[jD6]
theorem jmf {s:Int} (b:BT.Set' s):∀n,n<=61->BT.Set' (U.kh (U.qS s n) (U.qS s n).length)/\∀q,BT.has (U.kh (U.qS s n) (U.qS s n).length) q=true↔q<n/\BT.has s q=true
 |0,_=>⟨BT.zero_set,fun q=>by
  have:U.kh (U.qS s 0) (U.qS s 0).length=0:=rfl
  rw[this,BT.has_zero];simp⟩
 |n+1,j=>by
  obtain⟨a,f⟩:=jmf b n (by omega)
  rw[jzf]
  by_cases h:U.jH s (n:Int)=true
  .rw[if_pos h,jst,jG7]
   have d:BT.has s n=true:=by rw[wV b] at h;exact h
   have c:BT.has (U.kh (U.qS s n) (U.qS s n).length) n=false:=by
    cases g:BT.has (U.kh (U.qS s n) (U.qS s n).length) n with
    |false=>rfl
    |true=>have:=(f n).1 g;omega
   have i:=BT.two_set (k:=n) (by omega);rw[BT.add_two a (by omega) c];refine⟨BT.bor_set a i,fun q=> ?_⟩;rw[BT.has_bor a i,BT.has_two,jHX,decide_eq_true_iff,f];refine⟨fun k=>k.elim (fun k=>⟨by omega,k.2⟩) fun k=>by subst k;exact⟨by omega,d⟩,fun k=> ?_⟩;by_cases e:n=q
   .exact .inr e
   .exact .inl ⟨by omega,k.2⟩
  .rw[if_neg h,jHw];refine⟨a,fun q=>(f q).trans ⟨fun k=>⟨by omega,k.2⟩,fun k=>⟨?_,k.2⟩⟩⟩;by_cases e:q=n
   .subst e;rw[wV b] at h;exact absurd k.2 h
   .omega
theorem jvX {s:Int} {n:Nat} (a:BT.Set' s) (d:n<=61) (e:∀q,BT.has s q=true->q<n):U.kh (U.qS s n) (U.qS s n).length=s:=by
 obtain⟨b,c⟩:=jmf a n d;exact BT.ext b a fun q=>jHs.2 ((c q).trans ⟨fun k=>k.2,fun k=>⟨e q k,k⟩⟩)
theorem jBL (s:Int) (n:Nat):(U.qS s n).Pairwise (·<·):=by
 unfold U.qS;refine jIt.2 ((List.Pairwise.filter _ jIn).imp ?_);intro a b c;show(a:Int)<(b:Int);omega
theorem jEc {s:Int} {n:Nat} {x:Int} (h:x∈U.qS s n):0<=x/\x<(n:Int):=by
 unfold U.qS at h;obtain⟨i,hi,rfl⟩:=jHy.1 h;have:=jHj.1 (jHh.1 hi).1;omega
end Go.X
namespace Go.X
open Go.Proofs
theorem jqA:jnd:=by
 unfold jnd q140_0;rintro⟨d,⟨⟩⟩ g;obtain⟨k,o,j,n,a⟩:U.jeg d:=g;refine⟨k,⟨0,⟨⟨rfl,trivial⟩,⟨rfl,rfl,rfl,trivial,rfl,rfl,rfl,rfl,trivial⟩,rfl,trivial⟩,jHd _⟩,fun x f _=>⟨fun h=> ?_,fun h=> ?_⟩⟩
 .have h:(x:Int)<((U.jL d).length:Int):=of_decide_eq_true h;have m:=L.take_succ (l:=U.jL d) (i:=x) (by omega);have p:=a _ (L.mem_nth (l:=U.jL d) (i:=x) (by omega));have c:((U.jL d).take x).length<=20:=(by rw[jHC];omega);refine⟨jHu _,h,by show(0+(nth (U.jL d) x).length)*16<=140737488355328;omega,by show(((U.jL d).take x).length+1)*24<=140737488355328;omega,L.in64 (by omega) (by omega),x+1,⟨⟨by simp,trivial⟩,⟨rfl,rfl,rfl,trivial,rfl,rfl,rfl,rfl,trivial⟩,m.symm,trivial⟩,by show x+1<=(U.jL d).length;omega,by show(U.jL d).length-(x+1)<(U.jL d).length-x;omega⟩
 .have h:¬(x:Int)<((U.jL d).length:Int):=of_decide_eq_false h;have f:x<=(U.jL d).length:=f;have b:x=(U.jL d).length:=(by omega);subst b;have e:(U.jL d).take (U.jL d).length=U.jL d:=jHY;refine⟨by show(0+(U.jq d).length)*72<=140737488355328;omega,by show(0+(U.zc d).length)*40<=140737488355328;omega,?_,rfl⟩;show((U.la (U.jb d),U.je (U.jb d),U.wk (U.jb d),(U.jL d).take (U.jL d).length,U.jq d,U.jej d,U.jxv d,U.zc d,()),())=(U.jg d,());rw[e];rfl
theorem jnW:qa PR 18 jnA:=jdH jxi jqA Tryz.func18 (kcC jwf kcN) koN
theorem jEm:jA5:=by
 rintro⟨l,n,⟨⟩⟩;refine⟨⟨0,⟨⟨rfl,trivial⟩,trivial⟩,jHd _,rfl⟩,fun x ⟨b,a⟩ nl=>⟨fun h=> ?_,fun h=> ?_⟩⟩
 .have b:x<=l.length:=b;have nl:l.length<4611686018427387904:=nl;have a:(l.take x).any (fun y=>decide (y=n))=false:=a;have h:(x:Int)<(l.length:Int):=of_decide_eq_true h;have x0:(0:Int)<=(x:Int):=jHu x;simp only[jG7];refine⟨x0,h,fun k=> ?_,fun k=>⟨L.in64 (by omega) (by omega),x+1,⟨⟨by simp,trivial⟩,trivial⟩,⟨by show x+1<=l.length;omega,?_⟩,by show l.length-(x+1)<l.length-x;omega⟩⟩
  .have k:nth l x=n:=of_decide_eq_true k;have:l.any (fun y=>decide (y=n))=true:=jHF.2 ⟨nth l x,L.mem_nth (by omega),decide_eq_true k⟩;show(true,())=(l.any (fun y=>decide (y=n)),());rw[this]
  .have k:¬nth l x=n:=of_decide_eq_false k;show(l.take (x+1)).any (fun y=>decide (y=n))=false;rw[L.take_succ (by omega),List.any_append,a];simp[k]
 .have b:x<=l.length:=b;have h:¬(x:Int)<(l.length:Int):=of_decide_eq_false h;have a:(l.take x).any (fun y=>decide (y=n))=false:=a;rw[jHU (by omega)] at a;show(false,())=(l.any (fun y=>decide (y=n)),());rw[a]
theorem jBC:zu PR 28 jBf:=wi jCI jEm Tryz.func28 kcN koN
theorem juc {o F:Int} (j:0<=o) (k:o<=9223372036854775807) (f:BT.Set' F) (h:zx o F=0) (i:Nat) (hi:o.toNat.testBit i=true):BT.has F i=true:=by
 have c:=f;unfold BT.Set' at c;have e:=BT.bandn_nat (a:=o.toNat) (b:=F.toNat) (by omega) (by omega);rw[show((o.toNat:Nat):Int)=o by omega,show((F.toNat:Nat):Int)=F by omega,h] at e;have e:BT.sdiff o.toNat F.toNat=0:=(by omega);have d:=BT.sdiff_bit (a:=o.toNat) (b:=F.toNat) (by omega) (by omega) i;rw[e,hi] at d;show F.toNat.testBit i=true;cases g:F.toNat.testBit i with
 |true=>rfl
 |false=>rw[g] at d;simp at d
theorem jFf {o F:Int} (a:0<=o) (b:o<=9223372036854775807) (c:BT.Set' F) (h:zx o F=0) {n:Nat} (d:∀q,BT.has F q=true->q<n):o<((2^n:Nat):Int):=by
 have:o.toNat<2^n:=by
  refine Nat.lt_pow_two_of_testBit _ fun i hi=> ?_
  cases g:o.toNat.testBit i with
  |false=>rfl
  |true=>have:=d i (juc a b c h i g);omega
 omega
theorem jxe {s:Int} (a:BT.Set' s):zx s s=0:=
 BT.ext (BT.bandn_set a a) BT.zero_set fun p=>by rw[BT.has_bandn a a,BT.has_zero];cases BT.has s p<;>rfl
structure jF7 (d:DyD) (b:Int):Prop where
 two:U.kJ d b=0\/U.kJ d b=3
 yes:U.kJ d b=0->∃s:Nat,s<2^(U.je (U.jb d)).length/\U.zk d b=(s:Int)/\U.gA d b=U.wD (U.jb d) (s:Int)/\vJ d b (U.jcF d (U.kf d).1 b) (nth (U.kf d).1 b.toNat) s=true/\
  ∀u:Nat,u<2^(U.je (U.jb d)).length->vJ d b (U.jcF d (U.kf d).1 b) (nth (U.kf d).1 b.toNat) u=true->U.wD (U.jb d) (s:Int)<U.wD (U.jb d) (u:Int)\/(U.wD (U.jb d) (s:Int)=U.wD (U.jb d) (u:Int)/\s<=u)
 no:U.kJ d b≠0->∀u:Nat,u<2^(U.je (U.jb d)).length->vJ d b (U.jcF d (U.kf d).1 b) (nth (U.kf d).1 b.toNat) u=false
theorem jog {d:DyD} {b:Int} (a:U.kz d b):U.jh d b=true:=by
 unfold U.kz at a;unfold U.jh U.ja;rw[decide_eq_true a.1,decide_eq_true (by omega)];rfl
theorem jzY {d:DyD} {b:Int} (h:U.w5 d=0) (p:U.kz d b):jF7 d b:=by
 obtain⟨l,m,f⟩:=jFN d b;have o:U.jd8 d=(U.kf d).1:=(by unfold U.jd8;rw[if_pos h]);have q:U.jxw d (U.jh d b)=0:=(by unfold U.jxw;rw[if_pos h,jog p];rfl);obtain⟨i,j⟩:=jqK d b (U.jcF d (U.kf d).1 b) (nth (U.kf d).1 b.toNat) (2^(U.je (U.jb d)).length);have n:U.jqL d b=U.yD d b (U.jcF d (U.kf d).1 b) (nth (U.kf d).1 b.toNat) (2^(U.je (U.jb d)).length):=(by unfold U.jqL;rw[o]);have e:U.kJ d b=if(U.jqL d b).2.2=true then 0 else 3:=(by rw[f];unfold U.jwM;rw[if_pos q]);rw[<-n] at i j;refine⟨?_,fun a=> ?_,fun a=> ?_⟩
 .rw[e];split
  .exact .inl rfl
  .exact .inr rfl
 .rw[e] at a;by_cases g:(U.jqL d b).2.2=true
  .obtain⟨s,s1,s2,k,r⟩:=i g;have c:U.jwM d b=0:=(by rw[<-f,e,if_pos g]);refine⟨s,s1,?_,?_,s2,r⟩
   .rw[l];unfold U.jEr;rw[if_pos c,k]
   .rw[m];unfold U.jEq;rw[if_pos c,k]
  .rw[if_neg g] at a;omega
 .rw[e] at a;by_cases g:(U.jqL d b).2.2=true
  .rw[if_pos g] at a;exact absurd rfl a
  .exact j (by simpa using g)
def jnp (d:DyD) (b o F:Int):Prop:=
 ((!(decide (o<(0:Int))||decide (zx o F≠(0:Int))))=true->(0:Int)<=b)/\((!(decide (o<(0:Int))||decide (zx o F≠(0:Int))))=true->b<(↑d.snd.snd.fst.length:Int))/\((!(decide (o<(0:Int))||decide (zx o F≠(0:Int))))=true->(0:Int)<=b)/\((!(decide (o<(0:Int))||decide (zx o F≠(0:Int))))=true->b<(↑(U.jE d).length:Int))/\((!(decide (o<(0:Int))||decide (zx o F≠(0:Int))))=true->U.jl d.fst=true)/\((!(decide (o<(0:Int))||decide (zx o F≠(0:Int))))=true->U.jW d.fst (nth d.snd.snd.fst b.toNat).fst=true)/\((!(decide (o<(0:Int))||decide (zx o F≠(0:Int))))=true->U.jxt (bor (nth (U.jE d) b.toNat) o))/\((decide (o<(0:Int))||decide (zx o F≠(0:Int))|| !U.qL d.fst (nth d.snd.snd.fst b.toNat).fst (bor (nth (U.jE d) b.toNat) o))=true->(true,())=(true,()))/\((decide (o<(0:Int))||decide (zx o F≠(0:Int))|| !U.qL d.fst (nth d.snd.snd.fst b.toNat).fst (bor (nth (U.jE d) b.toNat) o))=false->U.jl d.fst=true/\(decide (U.kJ d b=(0:Int))&&(decide (U.gA d b<U.wD d.fst o)||decide (U.wD d.fst o=U.gA d b)&&decide (U.zk d b<=o))&&true,())=(true,()))
theorem juW {d:DyD} (h:U.w5 d=0) (b:Int):BT.Set' (U.jcF d (U.kf d).1 b)/\(∀q,BT.has (U.jcF d (U.kf d).1 b) q=true↔q<(U.je (U.jb d)).length/\U.jas d (U.kf d).1 b q=true):=by
 have a:(U.je (U.jb d)).length<=8:=(jv (jk3.1 h).1.1).2.2.1;exact jhj d (U.kf d).1 b _ (by omega)
theorem jvK {d:DyD} {b o:Int} (h:U.w5 d=0) (v:U.kz d b) (G:jy o):jnp d b o (U.jcF d (U.kf d).1 b):=by
 unfold jnp;have f:=(jk3.1 h).1;have P:(U.je (U.jb d)).length<=8:=(jv f.1).2.2.1;have E:U.jE d=(U.kf d).1:=(by rw[jnj,if_pos h]);have D:U.jz d=0:=(wC _).trans h;have K:(U.kf d).1.length=(U.jq d).length:=(yl D).len;have a:=v;unfold U.kz at a;obtain⟨fs,B⟩:=juW h b;have z:=jpj h (b:=b.toNat) (by omega);have u:=(jep f.1).2;have H:(2:Int)^(U.je (U.jb d)).length=((2^(U.je (U.jb d)).length:Nat):Int):=(by rw[BT.two_nat]);have w:=jzY h v;have m:o<=9223372036854775807:=G.2;rw[E];have i:(!(decide (o<0)||decide (zx o (U.jcF d (U.kf d).1 b)≠0)))=true->0<=o/\zx o (U.jcF d (U.kf d).1 b)=0/\o<((2^(U.je (U.jb d)).length:Nat):Int):=fun k=>by
  rw[jHB,jHt] at k;have n:=of_decide_eq_false k.1;have l:=jFr k.2;exact⟨by omega,l,jFf (by omega) m fs l fun q I=>((B q).1 I).1⟩
 refine⟨fun _=>a.1,fun _=>a.2,fun _=>a.1,fun _=>by rw[K];exact a.2,fun _=>f.1,fun _=>jzs f (by omega),fun k=> ?_,fun _=>rfl,fun k=>⟨f.1,?_⟩⟩
 .obtain⟨n,l,J⟩:=i k;have s1:BT.Set' o:=(by unfold BT.Set';omega);have s2:BT.Set' (nth (U.kf d).1 b.toNat):=(by unfold BT.Set';omega);have y:=BT.bor_set s2 s1;have F:=BT.lt_of_has (k:=8) y fun p c=>by
   rw[BT.has_bor s2 s1,jHX] at c;rcases c with c|c
   .have:=BT.has_lt z.1 z.2 c;omega
   .have:=BT.has_lt (k:=(U.je (U.jb d)).length) n (by omega) c;omega
  have N:(2:Int)^8=256:=(by decide);have j:=y;unfold BT.Set' at j;exact⟨j.1,by omega⟩
 .rw[jHt] at k;obtain⟨n,l,J⟩:=i (by rw[k.1];rfl);have A:=k.2;rw[jHT] at A;have t:((o.toNat:Nat):Int)=o:=(by omega);have x:vJ d b (U.jcF d (U.kf d).1 b) (nth (U.kf d).1 b.toNat) o.toNat=true:=by
   unfold vJ;rw[t,decide_eq_true l,Bool.true_and];exact A
  have r:U.kJ d b=0:=Classical.byContradiction fun e=>by
   have:=w.no e o.toNat (by omega);rw[x] at this;cases this
  obtain⟨s,s1,s2,L,_,M⟩:=w.yes r;have:=M o.toNat (by omega) x;rw[t] at this;rw[r,s2,L];show(true&&(decide (U.wD (U.jb d) (s:Int)<U.wD (U.jb d) o)||decide (U.wD (U.jb d) o=U.wD (U.jb d) (s:Int))&&decide ((s:Int)<=o))&&true,())=(true,());rcases this with g|⟨C,O⟩
  .rw[decide_eq_true g];rfl
  .rw[decide_eq_true C.symm,decide_eq_true (show(s:Int)<=o by omega)];simp
theorem jf2:jdV:=by
 unfold jdV q142_28 q142_27 q142_26 q142_20 q142_25 q142_24 q142_23 q142_22 q142_17 q142_7 q142_6 q142_4 q142_0 q142_21 q142_19 q142_9 q142_3 q142_18 q142_16 q142_15 q142_14 q142_13 q142_10 q142_12 q142_11 q142_8 q142_5 q142_2 q142_1;rintro⟨d,b,o,⟨⟩⟩ hft _;have ho:jy o:=hft.2.2.1;refine⟨fun _=>rfl,fun h=>⟨⟨0,⟨⟨rfl,trivial⟩,trivial⟩,jHd _,fun j hj=>by omega⟩,fun x ⟨hx,D⟩ _=>⟨fun g=> ?_,fun g=> ?_⟩⟩⟩
 all_goals
  have h:(!(!U.jiB d&&decide (U.w5 d=0))||decide ((8:Int)<((U.zc d).length:Int))|| !U.jh d b)=false:=h;simp only[jHt,jHT,jG3,jHB] at h;obtain⟨⟨⟨hf,t⟩,hl8⟩,r⟩:=h;have t:U.w5 d=0:=of_decide_eq_true t;have hl8:=of_decide_eq_false hl8;have X:=(jk3.1 t).1;have hx:x<=(U.zc d).length:=hx;have D:U.juN (U.zc d) x:=D
 .have g:(x:Int)<((U.zc d).length:Int):=of_decide_eq_true g;have x0:(0:Int)<=(x:Int):=jHu x;simp only[jG7];refine⟨x0,g,fun _=>x0,fun _=>g,fun _=>trivial,fun k=>⟨L.in64 (by omega) (by omega),x+1,⟨⟨by simp,trivial⟩,trivial⟩,⟨by show x+1<=(U.zc d).length;omega,fun j hj=> ?_⟩,by show(U.zc d).length-(x+1)<(U.zc d).length-x;omega⟩⟩;by_cases e:j=x
  .subst e;have k:(decide ((90:Int)<=U.wo (nth (U.zc d) j))||decide ((9000:Int)<=U.jjq (nth (U.zc d) j)))=false:=k;rw[jHt] at k;have k1:=of_decide_eq_false k.1;have k2:=of_decide_eq_false k.2;exact⟨by omega,by omega⟩
  .exact D j (by omega)
 .have g:¬(x:Int)<((U.zc d).length:Int):=of_decide_eq_false g;have ex:x=(U.zc d).length:=(by omega);subst ex;have H:∀y∈U.zc d,U.wo y<90/\U.jjq y<9000:=fun y hy=>by
   obtain⟨j,hj,rfl⟩:=L.mem_iff.1 hy;exact D j hj
  have E:U.kz d b:=by
   have r:U.jh d b=true:=r;unfold U.jh U.ja at r;rw[jG3] at r;have k1:=of_decide_eq_true r.1;have k2:=of_decide_eq_true r.2;exact⟨k1,by omega⟩
  have v:=E;unfold U.kz at v;have hsm:=ju3 hf;have hT:U.jE d=(U.kf d).1:=(by rw[jnj,if_pos t]);have hP:U.jz d=0:=(wC _).trans t;have l1:(U.kf d).1.length=(U.jq d).length:=(yl hP).len;have hb4:(U.jq d).length<=4:=(za X.2.2).1;have h8:(U.je (U.jb d)).length<=8:=(jv X.1).2.2.1;have h256:=(jep X.1).2;have hp2:(2:Int)^(U.je (U.jb d)).length=((2^(U.je (U.jb d)).length:Nat):Int):=(by rw[BT.two_nat]);have T:(U.zc d).length<=100000:=(by omega);have hE:U.ja0 d (U.jh d b)=0:=(by unfold U.ja0;rw[if_pos hP,jog E];rfl);have S:=jzY t E;obtain⟨fs,fb⟩:=juW t b;have hfre:U.kD d b=U.qS (U.jcF d (U.kf d).1 b) (U.je (U.jb d)).length:=by
   have Q:U.jd8 d=(U.kf d).1:=(by unfold U.jd8;rw[if_pos t]);have hr:U.jxw d (U.jh d b)=0:=(by unfold U.jxw;rw[if_pos t,jog E];rfl);rw[jEp];unfold U.jFP;rw[if_pos hr,Q]
  rw[hT,hE,hP];refine⟨T,T,T,fun _ _=>⟨fun k=> ?_,fun _=>⟨⟨0,⟨⟨rfl,rfl,trivial⟩,trivial⟩,jHd _⟩,fun p hp _=>⟨fun g=>⟨rfl,fun N=> ?_,fun N=> ?_⟩,fun g=> ?_⟩⟩⟩⟩
  .have k:(decide ((0:Int)≠0)||decide ((0:Int)≠0)||(decide (U.kJ d b≠0)&&decide (U.kJ d b≠3))||decide (((U.kf d).1.length:Int)≠((U.jq d).length:Int)))=true:=k;rw[l1] at k;rcases S.two with e|e<;>rw[e] at k<;>simp at k
  .have g:(p:Int)<((U.je (U.jb d)).length:Int):=of_decide_eq_true g;have O:(0:Int)<=(p:Int):=jHu p;have N:(!U.jH (nth (U.kf d).1 b.toNat) (p:Int))=true:=N;have hon:=jFn (U.kf d).1 (p:Int);obtain⟨f1,f2⟩:=jhj d (U.kf d).1 b p (by omega);have e1:U.jP d (U.kf d).1 b (p+1)=if U.jas d (U.kf d).1 b p=true then U.jP d (U.kf d).1 b p+2^p else U.jP d (U.kf d).1 b p:=by
    unfold U.jP;rw[jHq,jHk];rfl
   have hle:U.jP d (U.kf d).1 b p<2^8:=BT.lt_of_has f1 fun q f=>by have:=((f2 q).1 f).1;omega
   have e8:(2:Int)^8=256:=(by decide);have w:(2:Int)^p=((2^p:Nat):Int):=(by rw[BT.two_nat]);have hpl:2^p<=2^8:=jIc (by omega) (by omega);have hp0:(0:Int)<=2^p:=(by rw[w];exact jHu _);have C:U.jas d (U.kf d).1 b p=U.ke d (p:Int) (U.on (U.kf d).1 (p:Int)++[b]):=(by unfold U.jas;rw[N,Bool.true_and]);have f0:=f1;unfold BT.Set' at f0;have p63:(0:Int)<=(p:Int)/\(p:Int)<=63:=⟨O,by omega⟩;have hbs:U.jfQ d (U.on (U.kf d).1 (p:Int)++[b]):=⟨by rw[jHo,List.length_singleton];omega,fun c u=>by
    rcases jHa.1 u with u|u
    .have:=jFm u;exact⟨this.1,by omega⟩
    .rw[jH2.1 u];exact E⟩
   simp only[jG7];refine⟨v.1,by rw[l1];exact v.2,p63,by omega,p63,?_,X,⟨O,g⟩,hbs,fun k=>⟨O,by omega,O,by omega,L.in64 (by omega) (by omega),L.in64 (by omega) (by omega),L.in64 (by omega) (by omega),p+1,⟨⟨by simp,?_,trivial⟩,trivial⟩,by show p+1<=(U.je (U.jb d)).length;omega,by show(U.je (U.jb d)).length-(p+1)<(U.je (U.jb d)).length-p;omega⟩,fun k=>⟨L.in64 (by omega) (by omega),p+1,⟨⟨?_,by simp,trivial⟩,trivial⟩,by show p+1<=(U.je (U.jb d)).length;omega,by show(U.je (U.jb d)).length-(p+1)<(U.je (U.jb d)).length-p;omega⟩⟩
   .show((U.on (U.kf d).1 (p:Int)).length+1)*8<=_;omega
   .have k:U.ke d (p:Int) (U.on (U.kf d).1 (p:Int)++[b])=true:=k;rw[e1,C,if_pos k,Int.one_mul]
   .have k:U.ke d (p:Int) (U.on (U.kf d).1 (p:Int)++[b])=false:=k;rw[e1,C,k,if_neg (by simp)]
  .have g:(p:Int)<((U.je (U.jb d)).length:Int):=of_decide_eq_true g;have O:(0:Int)<=(p:Int):=jHu p;have N:¬(!U.jH (nth (U.kf d).1 b.toNat) (p:Int))=true:=N;have e1:U.jP d (U.kf d).1 b (p+1)=if U.jas d (U.kf d).1 b p=true then U.jP d (U.kf d).1 b p+2^p else U.jP d (U.kf d).1 b p:=by
    unfold U.jP;rw[jHq,jHk];rfl
   have C:U.jas d (U.kf d).1 b p=false:=(by unfold U.jas;rw[Bool.not_eq_true] at N;rw[N,Bool.false_and]);refine⟨v.1,by rw[l1];exact v.2,⟨O,by omega⟩,(fun k=>absurd k (by simp)),fun _=>⟨L.in64 (by omega) (by omega),p+1,⟨⟨?_,by simp,trivial⟩,trivial⟩,by show p+1<=(U.je (U.jb d)).length;omega,by show(U.je (U.jb d)).length-(p+1)<(U.je (U.jb d)).length-p;omega⟩⟩;rw[e1,C,if_neg (by simp)]
  .have g:¬(p:Int)<((U.je (U.jb d)).length:Int):=of_decide_eq_false g;have hp:p<=(U.je (U.jb d)).length:=hp;have ep:p=(U.je (U.jb d)).length:=(by omega);subst ep;have eF:U.jP d (U.kf d).1 b (U.je (U.jb d)).length=U.jcF d (U.kf d).1 b:=rfl;rw[eF,hfre];have hml:=fun x (hx:x∈U.qS (U.jcF d (U.kf d).1 b) (U.je (U.jb d)).length)=>jEc hx
   have hma:=jBL (U.jcF d (U.kf d).1 b) (U.je (U.jb d)).length;have hmn:=jBK (U.jcF d (U.kf d).1 b) (U.je (U.jb d)).length;have hsum:=jvX fs (n:=(U.je (U.jb d)).length) (by omega) fun q f=>((fb q).1 f).1
   have a:=jvK t E ho;generalize hM:U.qS (U.jcF d (U.kf d).1 b) (U.je (U.jb d)).length=M at*;have hss:∀i,i<=M.length->0<=U.kh M i/\U.kh M i<=256*(i:Int):=by
    intro i
    induction i with
    |zero=>intro _;exact⟨jH9 _,by show(0:Int)<=256*0;omega⟩
    |succ i ih=>
     intro hi;have ih:=ih (by omega);have e:U.kh M (i+1)=U.kh M i+2^(nth M i).toNat:=(by unfold U.kh;rw[jHq,jHk];rfl);have f:=hml _ (L.mem_nth (l:=M) (i:=i) (by omega));have w:(2:Int)^(nth M i).toNat=((2^(nth M i).toNat:Nat):Int):=(by rw[BT.two_nat]);have hpl:2^(nth M i).toNat<=2^8:=jIc (by omega) (by omega);have hp0:(0:Int)<=2^(nth M i).toNat:=(by rw[w];exact jHu _);rw[e];omega
   refine⟨⟨0,⟨⟨rfl,rfl,trivial⟩,trivial⟩,jHd _⟩,fun i hi _=>⟨fun g=> ?_,fun g=> ?_⟩⟩
   .have hi:i<=M.length:=hi;have g:(i:Int)<(M.length:Int):=of_decide_eq_true g;have i0:(0:Int)<=(i:Int):=jHu i;have f:=hml _ (L.mem_nth (l:=M) (i:=i) (by omega));have hper:U.yA d (nth M i)=true:=by
     unfold U.yA U.ja;rw[decide_eq_true f.1,decide_eq_true (by omega)];rfl
    have hsi:=hss i hi;have e:U.kh M (i+1)=U.kh M i+2^(nth M i).toNat:=(by unfold U.kh;rw[jHq,jHk];rfl);have w:(2:Int)^(nth M i).toNat=((2^(nth M i).toNat:Nat):Int):=(by rw[BT.two_nat]);have hpl:2^(nth M i).toNat<=2^8:=jIc (by omega) (by omega);have hp0:(0:Int)<=2^(nth M i).toNat:=(by rw[w];exact jHu _);have hpos:(!!U.yA d (nth M i)&&decide ((0:Int)<(i:Int)))=true->0<i:=fun k=>by
     rw[jG3] at k;have:=of_decide_eq_true k.2;omega
    simp only[jG7];refine⟨i0,g,fun k=>L.in64 (by omega) (by omega),fun k=>by have:=hpos k;omega,fun k=>by show(i:Int)-1<(M.length:Int);omega,fun _=>i0,fun _=>g,fun k=> ?_,fun _=>⟨i0,g,f.1,by omega,f.1,by omega,L.in64 (by omega) (by omega),L.in64 (by omega) (by omega),L.in64 (by omega) (by omega),i+1,⟨⟨by simp,?_,trivial⟩,trivial⟩,by show i+1<=M.length;omega,by show M.length-(i+1)<M.length-i;omega⟩⟩
    .rw[hper] at k;have k:(false||(decide ((0:Int)<(i:Int))&&decide (nth M i<=nth M ((i:Int)-1).toNat)))=true:=k;rw[Bool.false_or,jG3] at k;have k1:=of_decide_eq_true k.1;have k2:=of_decide_eq_true k.2;have:=jBv hma (i:=((i:Int)-1).toNat) (j:=i) (by omega) (by omega);omega
    .rw[e,Int.one_mul]
   .have hi:i<=M.length:=hi;have g:¬(i:Int)<(M.length:Int):=of_decide_eq_false g;have ei:i=M.length:=(by omega);subst ei;rw[hsum];refine⟨fun _=>X.1,fun k=> ?_,fun _=>⟨fun P=> ?_,fun _=>by unfold jnp at a;rw[hT] at a;exact a⟩⟩
    .have k:(decide (U.jcF d (U.kf d).1 b≠U.jcF d (U.kf d).1 b)||(decide (U.kJ d b=0)&&((decide (U.zk d b<0)||decide (zx (U.zk d b) (U.jcF d (U.kf d).1 b)≠0))||decide (U.gA d b≠U.wD (U.jb d) (U.zk d b)))))=true:=k;rcases Decidable.em (U.kJ d b=0) with P|P
     .obtain⟨s,s1,s2,s3,z,_⟩:=S.yes P;unfold vJ at z;rw[jG3] at z;have z:=of_decide_eq_true z.1;rw[s2,s3,z,decide_eq_false (show¬((s:Int)<0) by omega)] at k;simp at k
     .rw[decide_eq_false P] at k;simp at k
    .have P:U.kJ d b=0:=of_decide_eq_true P;obtain⟨s,s1,s2,s3,z,_⟩:=S.yes P;unfold vJ at z;rw[jG3] at z;have hsF:=of_decide_eq_true z.1;have hfit:=z.2;have hS:BT.Set' (s:Int):=(by unfold BT.Set';omega);have K:∀q,BT.has (s:Int) q=true->q<(U.je (U.jb d)).length/\U.jas d (U.kf d).1 b q=true:=fun q f=>(fb q).1 (juc (by omega) (by omega) fs hsF q f)
     rw[s2];have u:=jCN (s:=(s:Int)) t E (by omega) H;have G:∀n,n<=(U.je (U.jb d)).length->(U.jV d (s:Int) b n).length<=16:=fun n hn=>by have:=jrn d (s:Int) b n;omega
     refine⟨hsm,⟨0,⟨⟨rfl,trivial⟩,⟨rfl,rfl,rfl,rfl,rfl,rfl,rfl,trivial,trivial⟩,?_,trivial⟩,jHd _⟩,fun p hp _=>⟨fun V=> ?_,fun V=> ?_⟩⟩
     .show U.zc d=U.jV d (s:Int) b 0;unfold U.jV;simp
     .have V:(p:Int)<((U.je (U.jb d)).length:Int):=of_decide_eq_true V;have O:(0:Int)<=(p:Int):=jHu p;have hl:=G p (by omega);refine⟨⟨O,by omega⟩,fun k=>⟨L.in64 (by omega) (by omega),?_,L.in64 (by omega) (by omega),p+1,⟨⟨by simp,trivial⟩,⟨rfl,rfl,rfl,rfl,rfl,rfl,rfl,trivial,trivial⟩,?_,trivial⟩,by show p+1<=(U.je (U.jb d)).length;omega,by show(U.je (U.jb d)).length-(p+1)<(U.je (U.jb d)).length-p;omega⟩,fun k=>⟨L.in64 (by omega) (by omega),p+1,⟨⟨by simp,trivial⟩,?_,⟨rfl,rfl,rfl,rfl,rfl,rfl,rfl,trivial,trivial⟩,trivial⟩,by show p+1<=(U.je (U.jb d)).length;omega,by show(U.je (U.jb d)).length-(p+1)<(U.je (U.jb d)).length-p;omega⟩⟩
      .show((U.jV d (s:Int) b p).length+1)*40<=_;omega
      .have k:U.jH (s:Int) (p:Int)=true:=k;show _=U.jV d (s:Int) b (p+1);rw[jm4,if_pos k];rfl
      .have k:U.jH (s:Int) (p:Int)=false:=k;show _=U.jV d (s:Int) b (p+1);rw[jm4,k,if_neg (by simp),jHw]
     .have hp:p<=(U.je (U.jb d)).length:=hp;have V:¬(p:Int)<((U.je (U.jb d)).length:Int):=of_decide_eq_false V;have ep:p=(U.je (U.jb d)).length:=(by omega);subst ep;have R:=fun c q m f=>jCM (d:=d) (s:=(s:Int)) (b:=b) t E H hS K u (c:=c) (p:=q) m f
      have hl:=G _ (jG5 _);generalize hA:U.jV d (s:Int) b (U.je (U.jb d)).length=A at*;have B:U.jE (U.j8 d A)=(U.kf (U.j8 d A)).1:=(by rw[jnj,if_pos u]);have Y:U.jz (U.j8 d A)=0:=(wC _).trans u;have l2:(U.kf (U.j8 d A)).1.length=(U.jq d).length:=(yl Y).len;have hla:(U.zc (U.j8 d A)).length<=100000:=(by show A.length<=100000;omega);have J:∀c,c<(U.jq d).length->BT.Set' (nth (U.kf d).1 c)/\BT.Set' (nth (U.kf (U.j8 d A)).1 c)/\(∀q,BT.has (nth (U.kf d).1 c) q=true->q<(U.je (U.jb d)).length)/\∀q,BT.has (nth (U.kf (U.j8 d A)).1 c) q=true->q<(U.je (U.jb d)).length:=fun c m=>by
       have t1:=jpj t (b:=c) m;have t2:=jpj u (b:=c) m;have t2:0<=nth (U.kf (U.j8 d A)).1 c/\nth (U.kf (U.j8 d A)).1 c<2^(U.je (U.jb d)).length:=t2;exact⟨by unfold BT.Set';omega,by unfold BT.Set';omega,fun q f=>BT.has_lt t1.1 t1.2 f,fun q f=>BT.has_lt t2.1 t2.2 f⟩
      have I:∀c,c<(U.jq d).length->nth (U.kf (U.j8 d A)).1 c=if(c:Int)=b then bor (nth (U.kf d).1 c) (s:Int) else nth (U.kf d).1 c:=fun c m=>by
       obtain⟨z1,z2,z3,z4⟩:=J c m;have F:∀q,BT.has (nth (U.kf (U.j8 d A)).1 c) q=true↔BT.has (nth (U.kf d).1 c) q=true\/((c:Int)=b/\BT.has (s:Int) q=true):=fun q=>by
        by_cases f:q<(U.je (U.jb d)).length
        .have:=R c q m f;rw[wV z2,wV z1] at this;exact this
        .exact⟨fun k=>absurd (z4 q k) f,fun k=>k.elim (fun k=>absurd (z3 q k) f) fun k=>absurd (K q k.2).1 f⟩
       split
       .rename_i e;refine BT.ext z2 (BT.bor_set z1 hS) fun q=>jHs.2 ?_
        rw[F,BT.has_bor z1 hS,jHX];exact or_congr_right ⟨fun k=>k.2,fun k=>⟨e,k⟩⟩
       .rename_i e;refine BT.ext z2 z1 fun q=>jHs.2 ?_
        rw[F];exact⟨fun k=>k.elim id fun k=>absurd k.1 e,.inl⟩
      have hsv:(U.jh7 (U.j8 d A)).any (fun x=>decide (x=b))=true:=by
       have Q:U.jd8 (U.j8 d A)=(U.kf (U.j8 d A)).1:=(by unfold U.jd8;rw[if_pos u]);rw[jDL];unfold U.jGI U.jCY;rw[if_pos u,Q];refine jHF.2 ⟨b,jHy.2 ⟨b.toNat,jHh.2 ⟨jHj.2 (by omega),?_⟩,by omega⟩,decide_eq_true rfl⟩;show U.qL (U.jb d) (U.yJ (nth (U.jq d) b.toNat)) (nth (U.kf (U.j8 d A)).1 b.toNat)=true;rw[I b.toNat (by omega),if_pos (by omega)];exact hfit
      show(U.zc (U.j8 d A)).length<=100000/\(U.zc (U.j8 d A)).length<=100000/\_;refine⟨hla,hla,fun _ _=>⟨fun k=> ?_,fun _=>⟨⟨0,⟨⟨rfl,trivial⟩,trivial⟩,jHd _⟩,fun c Z _=>⟨fun W=> ?_,fun _=>by unfold jnp at a;rw[hT,s2] at a;exact a⟩⟩⟩⟩
      .have k:(decide (U.jz (U.j8 d A)≠0)||decide (U.jz (U.j8 d A)≠0)||decide (((U.jE (U.j8 d A)).length:Int)≠((U.kf d).1.length:Int))|| !(U.jh7 (U.j8 d A)).any (fun x=>decide (x=b)))=true:=k;rw[Y,B,l2,l1,hsv] at k;simp at k
      .have Z:c<=(U.jq d).length:=Z;have W:(c:Int)<((U.jE (U.j8 d A)).length:Int):=of_decide_eq_true W;rw[B,l2] at W;have c0:(0:Int)<=(c:Int):=jHu c;have q1:(c:Int)<((U.jE (U.j8 d A)).length:Int):=(by rw[B,l2];exact W);have q2:(c:Int)<((U.kf d).1.length:Int):=(by rw[l1];exact W);refine⟨fun _=>c0,fun _=>q1,fun _=>c0,fun _=>q2,fun _=>c0,fun _=>q2,fun _=>c0,fun _=>q1,fun k=> ?_,fun _=>⟨L.in64 (by omega) (by omega),c+1,⟨⟨by simp,trivial⟩,trivial⟩,by show c+1<=(U.jq d).length;omega,by show(U.jq d).length-(c+1)<(U.jq d).length-c;omega⟩⟩;have k:((decide ((c:Int)=b)&&decide (nth (U.jE (U.j8 d A)) (c:Int).toNat≠bor (nth (U.kf d).1 (c:Int).toNat) (s:Int)))||(decide ((c:Int)≠b)&&decide (zx (nth (U.kf d).1 (c:Int).toNat) (nth (U.jE (U.j8 d A)) (c:Int).toNat)≠0)))=true:=k;rw[jG7,B,I c (by omega)] at k;by_cases e:(c:Int)=b
       .rw[if_pos e] at k;simp[e] at k
       .rw[if_neg e,jxe (J c (by omega)).1] at k;simp[e] at k
theorem jsN:zu PR 5 jea:=wi jeX jf2 Tryz.func5 (kcC jsM (kcC jsL (kcC jcn (kcC jmo (kcC jyU (kcC jyV (kcC jae (kcC jsW (kcC jdF (kcC jyX (kcC jsQ (kcC jBC (kcC jwe kcN))))))))))))) (koC jsU (koC jnW koN))
end Go.X
namespace Go.X
open Go.Proofs Go.Proofs.YtphbhcmpebmadaaGreatDoor
noncomputable def jBV:Array Field:=match Tryz.prog.underlying 47 with|some (.struct fs)=>fs|_=> #[]
theorem jFK:Tryz.prog.globalNamed "handshape/rosters.some"=some 0:=by kernel_rfl
theorem jFJ:(Tryz.prog.globals[0]?).map (·.type)=some 47:=by kernel_rfl
theorem jGV:Tryz.prog.underlying 47=some (.struct jBV):=by kernel_rfl
theorem jGW:Tryz.prog.underlying 3=some (.int .i64):=by kernel_rfl
theorem jGX:Tryz.prog.cellsOf 3=1:=by kernel_rfl
noncomputable def gB (i:Nat):Bool:=match jBV[i]? with|some f=>Nat.beq f.type 3&&Nat.beq f.offset i|none=>false
theorem fields:(gB 0&&gB 1&&gB 2&&gB 3&&gB 4&&gB 5)=true:=by kernel_rfl
theorem jCg {i:Nat} (h:gB i=true):∃f,jBV[i]? =some f/\f.type=3/\f.offset=i:=by
 unfold gB at h
 split at h
 .rename_i f a;rw[jG3] at h;exact⟨f,a,jG0 h.1,jG0 h.2⟩
 .cases h
theorem jBU {H:Type} {enc:TypeId×Value->H} {w:World} {base:Nat} {sp:Nat->Bool} {a:Bool} {n:Nat} {cs:List Value} {xs:List (DataW H×List MemPlace)} {d:List Int} (o:xs.map (·.1)=d.map fun z=>(DataW.lit (.int .i64 z):DataW H))
 (k:∀(i:Nat) (f:Field),jBV[i]? =some f->DataW.trod enc Tryz.prog w base sp a n f.type ((cs.drop f.offset).take (Tryz.prog.cellsOf f.type))=xs[i]?) {i:Nat} {z:Int} (hi:gB i=true) (q:d[i]? =some z):cs[i]? =some (.int .i64 z):=by
 obtain⟨f,g,h,j⟩:=jCg hi;have b:=k i f g;rw[h,j,jGX] at b;have c:(xs.map (·.1))[i]? =some (DataW.lit (.int .i64 z):DataW H):=(by rw[o,jIj,q];rfl);rw[jIj] at c;obtain⟨y,p,e⟩:=jIv.1 c;rw[p] at b;obtain⟨m,l,rfl,_⟩:=DataW.trod_int jGW b;have e:m=z:=by
  have e:(DataW.lit (.int .i64 m):DataW H)=DataW.lit (.int .i64 z):=e;simpa only[DataW.lit.injEq,Lit.int.injEq,true_and] using e
 subst e;have:=congrArg (·[0]?) l;simpa[jIg,jHI] using this
theorem jGt {W:World} (h:laidMet Tryz.prog [("handshape/rosters.some",Rows.laid_handshape_rosters_some)] W):jE1 (Hof W):=by
 obtain⟨ps,⟨H,E,cs,k,p,q,d,f,a,A,_,_⟩,_⟩:=h;obtain rfl:=Option.some.inj (jFK.symm.trans d);obtain rfl:=Option.some.inj (jFJ.symm.trans f);obtain⟨xs,n,_,C,I,l,B⟩:=DataW.trod_struct jGV A;have j:xs.map (·.1)=[0,1,0,0,0,1].map fun z=>(DataW.lit (.int .i64 z):DataW Unit):=by
  have e:=congrArg Prod.fst C;have e:(DataW.agg [.lit (.int .i64 0),.lit (.int .i64 1),.lit (.int .i64 0),.lit (.int .i64 0),.lit (.int .i64 0),.lit (.int .i64 1)]:DataW Unit)= .agg (xs.map (·.1)):=e;simp only[DataW.agg.injEq] at e;exact e.symm
 have fs:=fields;simp only[jG3] at fs;obtain⟨⟨⟨⟨⟨o,r⟩,s⟩,u⟩,v⟩,w⟩:=fs;have c:∀{i:Nat} {z:Int},gB i=true->([0,1,0,0,0,1]:List Int)[i]? =some z->cs[i]? =some (.int .i64 z):=fun hi D=>by
  have:=jBU j B hi D;simpa using this
 unfold World.var? at a;rw[jFK] at a;intro g x b;have b:jD [(0,(⟨.st [.int,.int,.int,.int,.int,.int],((0:Int),(1:Int),(0:Int),(0:Int),(0:Int),(1:Int),())⟩:(t:Ty)×t.Data))] g=some x:=b;have y:Hof W 0=some (.cells cs):=by
  unfold Hof;simp only[Option.bind_some] at a
  split at a
  .rename_i F E G e;rw[e];have:=Option.some.inj a;rw[this]
  .cases a
 have m:=zD _ _ _ b;simp only[jH2,Prod.mk.injEq] at m;obtain⟨rfl,rfl⟩:=m;exact⟨cs,y,c o rfl,c r rfl,c s rfl,c u rfl,c v rfl,c w rfl,trivial⟩
end Go.X
