/-
  Part 7 of the road: a checked reading of bodies, and what the functions on it do (X25 X26 C5 PC15 C6 PC16 S6 S7 PC17 DM S8 S9 S10 S11 S12 S13 S14 C7 PC18 C8 PC19 S15 S16 PC20 LW).
-/
import Derived.Test.YtnkahkkofmoipaaGreatDoorK06
import Derived.Test.YtnkahkkofmoipaaGreatDoorRows
import Derived.WalkKit
import Derived.ProofKit
import Derived.OpenShut
import Derived.JoinedCond
import Derived.Carry
import Derived.ChangeArms
import Derived.Test.YtnkahkkofmoipaaGreatDoorCards
import Derived.Test.YtnkahkkofmoipaaGreatDoorTie
import Derived.Deep.DeepHandedRow
import Derived.Lib.LaidTab
namespace Go.X
open Go.RowKit (Below)
open Go.Proofs.YtnkahkkofmoipaaGreatDoor
def Hof (w:World):Imm:=fun b=>match w.heap[b]? with|some (.cells c _ _)=>some (.cells c)|_=>none
theorem jyR (w:World) (d:jBz (Hof w)):jaR (Hof w) w:=by
 refine⟨fun b c h=> ?_,d⟩;unfold Hof at h
 split at h
 .rename_i f T a e;simp at h;subst h;exact⟨T,a,e⟩
 .cases h
def Ty.fits (N:Nat):(t:Ty)->t.Data->Prop
 | .int,x=>jC x
 | .bool,_=>True
 | .uint k,x=>k.min<=x/\x<=k.max
 | .slice t,l=>l.length<=N/\∀x∈l,t.fits N x
 | .unit,_=>True
 | .pair a b,d=>a.fits N d.1/\b.fits N d.2
 | .map k v,l=>l.length<=N/\∀x∈l,k.fits N x.1/\v.fits N x.2
 | .ptr t,d=>∀x,d=some x->t.fits N x
theorem Ty.fits_mono {N M:Nat} (h:N<=M):∀(t:Ty) (d:t.Data),t.fits N d->t.fits M d
 | .int,_,k=>k
 | .bool,_,k=>k
 | .uint _,_,k=>k
 | .unit,_,k=>k
 | .slice t,_,k=>⟨jDV k.1 h,fun x c=>t.fits_mono h x (k.2 x c)⟩
 | .pair a b,_,k=>⟨a.fits_mono h _ k.1,b.fits_mono h _ k.2⟩
 | .map k v,_,q=>⟨jDV q.1 h,fun x c=>⟨k.fits_mono h _ (q.2 x c).1,v.fits_mono h _ (q.2 x c).2⟩⟩
 | .ptr t,_,k=>fun x c=>t.fits_mono h x (k x c)
def jBR (P:Program) (go:Nat->Ty->Bool):List Field->Nat->Ty->Bool
 |[],_,.unit=>true
 |f::fs,off,.pair a b=>Nat.beq f.offset off&&Nat.beq (P.cellsOf f.type) a.size&&go f.type a&&jBR P go fs (off+a.size) b
 |_,_,_=>false
def jAx (P:Program):Nat->Nat->Ty->Bool
 |0,_,_=>false
 |d+1,T,ty=>match ty,P.underlying T with
  | .int,some (.int .i64)=>true
  | .bool,some .bool=>true
  | .uint k,some (.int k')=>gJ k k'
  | .slice t,some (.slice e)=>Nat.beq (P.cellsOf e) t.size&&Nat.ble 1 t.size&&jAx P d e t
  | .pair a b,some (.struct fs)=>Nat.beq (P.cellsOf T) (Ty.pair a b).size&&jBR P (jAx P d) fs.toList 0 (.pair a b)
  |_,_=>false
section
variable {P:Program} {K:Type} {enc:TypeId×Value->K} {w:World}
theorem jBT (d:DataW K):1<=Rows.uptoBulk d:=by
 cases d with
 |lit l=>cases l<;>simp[Rows.uptoBulk]
 |_=>simp[Rows.uptoBulk]
theorem joY (l:List (DataW K)):l.length<=Rows.uptoBulkAll l:=by
 induction l with
 |nil=>simp[Rows.uptoBulkAll]
 |cons x r a=>have:=jBT x;simp only[Rows.uptoBulkAll,jEe];omega
theorem jAz {d:DataW K} {l:List (DataW K)} (h:d∈l):Rows.uptoBulk d<=Rows.uptoBulkAll l:=by
 induction l with
 |nil=>cases h
 |cons x r a=>
  simp only[Rows.uptoBulkAll];cases jDH.1 h with
  |inl e=>subst e;omega
  |inr e=>have:=a e;omega
theorem jwt {α:Type} {Q:Nat->α->Prop}:∀(n:Nat),(∀i,i<n->∃y,Q i y)->∃l:List α,l.length=n/\∀i y,l[i]? =some y->Q i y
 |0,_=>⟨[],rfl,fun i y h=>by simp at h⟩
 |n+1,h=>by
  obtain⟨l,b,c⟩:=jwt n (fun i hi=>h i (by omega))
  obtain⟨y,d⟩:=h n (by omega)
  refine⟨l++[y],by simp[b],fun i z a=> ?_⟩
  by_cases hi:i<l.length
  .rw[jDS hi] at a;exact c i z a
  .rw[jDR (by omega)] at a
   have:i=n:=by
    by_cases e:i-l.length=0
    .omega
    .obtain⟨k,hk⟩:∃k,i-l.length=k+1:=⟨i-l.length-1,by omega⟩;rw[hk] at a;simp at a
   subst this;rw[<-b] at a;simp at a;subst a;exact d
def jCA (P:Program) (w:World) (enc:TypeId×Value->K) (T:Nat) (ty:Ty):Prop:=
 ∀(a:Nat) (cs:List Value) (x:DataW K×List MemPlace),DataW.trod enc P w 0 (fun _=>true) true a T cs=some x->Rows.uptoBulk x.1<=1048576->
  ∃d:ty.Data,ty.rd (Hof w) (fun i=>cs[i]?) d/\cs.length=ty.size/\ty.fits (Rows.uptoBulk x.1) d
theorem jBL {n:Int} (h:(Lit.int .i64 n).wf=true):jC n:=by
 simp[Lit.wf,IntKind.min,IntKind.max,IntKind.signed,IntKind.bits] at h;exact h
theorem jgC {go:Nat->Ty->Bool} (c:∀T ty,go T ty=true->jCA P w enc T ty) {n:Nat} {cs:List Value}:
 ∀(fs:List Field) (off:Nat) (ty:Ty) (xs:List (DataW K×List MemPlace)),jBR P go fs off ty=true->xs.length=fs.length->
  (∀(i:Nat) (f:Field),fs[i]? =some f->DataW.trod enc P w 0 (fun _=>true) true n f.type ((cs.drop f.offset).take (P.cellsOf f.type))=xs[i]?)->Rows.uptoBulkAll (xs.map (·.1))<=1048576->
  ∃d:ty.Data,ty.rd (Hof w) (fun i=>cs[off+i]?) d/\ty.fits (Rows.uptoBulkAll (xs.map (·.1))) d
 |[],off,ty,xs,h,g,e,j=>by
  cases ty<;>simp[jBR] at h
  exact⟨(),trivial,trivial⟩
 |f::fs,off,ty,[],h,g,e,j=>by simp at g
 |f::fs,off,ty,x::xs,h,g,e,j=>by
  cases ty<;>simp[jBR] at h
  rename_i a b
  obtain⟨⟨⟨q,v⟩,r⟩,s⟩:=h
  simp only[jEH,Rows.uptoBulkAll] at j
  have k:=e 0 f (by simp)
  simp only[List.getElem?_cons_zero] at k
  obtain⟨d,t,y,u⟩:=c _ _ r _ _ _ k (by omega)
  obtain⟨l,o,p⟩:=jgC c fs (off+a.size) b xs s (by simpa using g) (fun i m hi=>by simpa using e (i+1) m (by simpa using hi)) (by omega)
  refine⟨(d,l),⟨?_,?_⟩,?_,?_⟩
  .refine Ty.rd_congr a _ _ _ (fun i hi=> ?_) t
   rw[jD1 (by omega),jEh,q]
  .refine Ty.rd_congr b _ _ _ (fun i hi=> ?_) o
   rw[jEL]
  .exact a.fits_mono (by simp[Rows.uptoBulkAll]) _ u
  .exact b.fits_mono (by simp[Rows.uptoBulkAll]) _ p
theorem jdg:∀(d T:Nat) (ty:Ty),jAx P d T ty=true->jCA P w enc T ty
 |0,_,_,h=>by cases h
 |d+1,T,ty,h=>by
  intro fuel cs x B r
  unfold jAx at h
  split at h
  .rename_i u
   obtain⟨n,rfl,rfl,H⟩:=DataW.trod_int u B
   exact⟨n,rfl,rfl,jBL H⟩
  .rename_i u
   obtain⟨b,rfl,rfl⟩:=DataW.trod_bool u B
   exact⟨b,rfl,rfl,trivial⟩
  .rename_i k k' u
   obtain⟨n,rfl,rfl,H⟩:=DataW.trod_int u B
   have:k=k':=by simpa[gJ] using h
   subst this
   refine⟨n,rfl,rfl,?_⟩
   simp[Lit.wf] at H
   exact H
  .rename_i t e u
   simp only[jDK] at h
   obtain⟨⟨L,M⟩,h3⟩:=h
   have e1:=jDE L
   have e2:=jDT M
   rcases DataW.trod_slice u B with⟨rfl,rfl⟩|⟨a,len,J,vE,rest,n,_,rfl,rfl,hb,hl,hm,A,D,_,_⟩
   .refine⟨[],⟨none,0,0,rfl,rfl,jDJ _,by simp,fun _=>rfl,fun h=>absurd rfl h⟩,rfl,by simp,fun x B=>by simp at B⟩
   .simp only[Rows.uptoBulk] at r
    have key:∀i,i<len->∃y:t.Data,(∃blk,Hof w a.block=some (.cells blk)/\a.spot=none/\t.rd (Hof w) (fun j=>blk[a.off+i*t.size+j]?) y)/\t.fits (Rows.uptoBulkAll (vE.map (·.1))) y:=by
     intro i hi;have h0:=D i hi;have X:vE[i]? =some vE[i]:=jDL (by omega);rw[X,Option.bind_eq_some_iff] at h0;obtain⟨cl,c1,c2⟩:=h0;have Q:Rows.uptoBulk vE[i].1<=Rows.uptoBulkAll (vE.map (·.1)):=jAz (jEj.2 ⟨vE[i],List.getElem_mem _,rfl⟩);obtain⟨y,y1,y2,y3⟩:=jdg d e t h3 _ _ _ c2 (by omega);unfold World.cells? at c1;rw[if_pos (jDU _),e1] at c1;have z:∀j,j<t.size->w.cell? ((a.add (i*t.size)).add j)=cl[j]? :=fun j O=>by
      have:=mapM_some_get c1 j j (by simp[O]);simpa using this
     have N:cl.length=t.size:=(by simpa using mapM_some_length c1);have I:=z 0 (by omega);have g:cl[0]?≠none:=(by rw[jDL (by omega)];simp);rw[<-I] at g;have m:∃blk T G,w.heap[a.block]? =some (.cells blk T G):=by
      unfold World.cell? at g;have q:((a.add (i*t.size)).add 0).block=a.block:=by unfold Addr.add;simp;split<;>rfl
      rw[q] at g
      split at g
      .rename_i c T G e;exact⟨c,T,G,e⟩
      .exact absurd rfl g
     obtain⟨blk,T',G,m⟩:=m;have p:((a.add (i*t.size)).add 0).spot=none:=by
      unfold World.cell? at g;have q:((a.add (i*t.size)).add 0).block=a.block:=by unfold Addr.add;simp;split<;>rfl
      rw[q,m] at g;simp only at g;cases R:((a.add (i*t.size)).add 0).spot with
      |none=>rfl
      |some s=>rw[R] at g;simp at g
     have hH:Hof w a.block=some (.cells blk):=(by unfold Hof;rw[m]);refine⟨y,⟨blk,hH,?_,?_⟩,t.fits_mono Q _ y3⟩
     .--the first element shows that the address is plain
      have C:=D 0 (by omega);have W:vE[0]? =some vE[0]:=jDL (by omega);rw[W,Option.bind_eq_some_iff] at C;obtain⟨K,F,_⟩:=C;unfold World.cells? at F;rw[if_pos (jDU _),e1] at F;have v:=mapM_some_get F 0 0 (by rw[List.getElem?_range (by omega)]);have hl0:K.length=t.size:=(by simpa using mapM_some_length F);rw[jDL (by omega)] at v;simp only[Nat.zero_mul] at v;have ea:(a.add 0).add 0=a:=(by unfold Addr.add;simp);rw[ea] at v;unfold World.cell? at v;rw[m] at v;simp only at v;cases R:a.spot with
      |none=>rfl
      |some s=>rw[R] at v;simp at v
     .refine Ty.rd_congr t _ _ _ (fun j O=> ?_) y1;rw[<-z j O];unfold World.cell?;have q:((a.add (i*t.size)).add j).block=a.block:=by unfold Addr.add;split<;>split<;>rfl
      have E:((a.add (i*t.size)).add j).off=a.off+i*t.size+j:=by
       unfold Addr.add;split<;>split<;>simp_all
      have V:((a.add (i*t.size)).add j).spot=none:=by
       have S:(a.add (i*t.size)).spot=none:=by
        have:(a.add (i*t.size)).add 0=a.add (i*t.size):=(by simp[Addr.add]);rw[this] at p;exact p
       unfold Addr.add at S⊢
       split<;>split<;>simp_all
      rw[q,m,E,V];simp
    obtain⟨l,l1,l2⟩:=jwt len key;refine⟨l,⟨some a,len,J,rfl,l1.symm,hl,?_,(fun h=>by cases h),fun g=> ?_⟩,rfl,?_,?_⟩
    .have:=joY (vE.map (·.1));simp at this;omega
    .have hz:0<l.length:=List.length_pos_iff.2 g;obtain⟨blk,q1,q2,_⟩:=(l2 0 l[0] (jDL hz)).1;refine⟨a.block,a.off,blk,?_,q1,fun i y Z=> ?_⟩
     .rcases a with⟨b,o,s⟩;simp only at q2;subst q2;rfl
     .obtain⟨blk',q3,_,q4⟩:=(l2 i y Z).1;rw[q1] at q3;simp at q3;subst q3;exact q4
    .simp only[Rows.uptoBulk];have:=joY (vE.map (·.1));simp at this;omega
    .intro y Z;obtain⟨i,hi⟩:=jER Z;exact t.fits_mono (by simp only[Rows.uptoBulk];omega) _ (l2 i y hi).2
  .rename_i a b fs u;simp only[jDK] at h;obtain⟨L,M⟩:=h;obtain⟨xs,n,_,rfl,A,Y,hf⟩:=DataW.trod_struct u B;simp only[Rows.uptoBulk] at r;obtain⟨y,y1,y2⟩:=jgC (fun T ty h=>jdg d T ty h) (n:=n) (cs:=cs) fs.toList 0 (.pair a b) xs M (by simpa using Y) (fun i f hi=>hf i f (by simpa using hi)) (by omega);refine⟨y,by simpa using y1,by rw[A];exact jDE L,?_⟩;exact Ty.fits_mono (by simp only[Rows.uptoBulk];omega) (.pair a b) _ y2
  .cases h
end
end Go.X
namespace Go.X
open Go.RowKit (Below)
open Go.ChangeShapes Go.WideShapes Go.ChangeAt Go.RowKit
open Go.Proofs.YtnkahkkofmoipaaGreatDoor
def jmY (N:Nat):(ts:List Ty)->PD (ts.map Par.val)->Prop
 |[],_=>True
 |t::ts,d=>t.fits N d.1/\jmY N ts d.2
def jwu (ts:List Ty):jR:=⟨ts.map Par.val,[.bool],false,fun d=>[jmY 1048576 ts d],fun _=>(true,())⟩
def jgF (P:Program):List Nat->List Ty->Bool
 |[],[]=>true
 |T::Ts,t::ts=>jAx P 20 T t&&(P.readableRec T&&decide (T<P.types.size))&&jgF P Ts ts
 |_,_=>false
section
variable {P:Program} {K:Type} {enc:TypeId×Value->K} {W W':World}
theorem jeb (j:laidOutB P=true) (i:Below W.heap.size W W'):∀(a:List Nat) (ts:List Ty) (vs:List Value) (ds:List (DataW K)) (ps:List MemPlace),jgF P a ts=true->
 DataW.TrodAll enc P W 0 (fun _=>true) true a vs ds ps->(∀x∈ps,x.block<W.heap.size)->DataW.TrodAll enc P W' 0 (fun b=>decide (b<W.heap.size)) true a vs ds ps
 |[],ts,vs,ds,ps,_,h,_=>by
  obtain⟨rfl,rfl,rfl⟩:=trodAll_nil h
  exact trodAll_mk0
 |T::a,[],vs,ds,ps,c,_,_=>by cases c
 |T::a,t::ts,vs,ds,ps,c,h,hlt=>by
  obtain⟨v,g,d,e,p,q,rfl,rfl,rfl,n,o⟩:=trodAll_cons h
  simp only[jgF,jDK] at c
  obtain⟨⟨_,k,l⟩,m⟩:=c
  exact trodAll_cons_mk (Below.trod j k (of_decide_eq_true l) n i (fun x f=>hlt x (jDG _ f)))
   (jeb j i a ts g e q m o (fun x f=>hlt x (jDF _ f)))
theorem jBt {T:Nat} {t:Ty} {r:Reach} {c:Nat} {v:Value} (h:jAx P 20 T t=true) (b:Value.okWide P W r c T v):kg v=t.agg:=by
 unfold jAx at h
 split at h
 .rename_i a;obtain⟨n,rfl⟩:=okWide_int a b;rfl
 .rename_i a;obtain⟨n,rfl⟩:=okWide_bool a b;rfl
 .rename_i a;obtain⟨n,rfl⟩:=okWide_int a b;rfl
 .rename_i a;unfold Value.okWide at b;rw[a] at b;simp only[Cell.okWide,a] at b;cases v with
  |agg vs=>simp[Cell.ok,a] at b
  |_=>rfl
 .rename_i a;unfold Value.okWide at b;rw[a] at b;obtain⟨cs,rfl,_⟩:=b;rfl
 .cases h
theorem jzI {r:Reach} {l:Nat}:∀(a:List Nat) (ts:List Ty) (vs:List Value) (ds:List (DataW K)) (ps:List MemPlace),jgF P a ts=true->
 DataW.TrodAll enc P W 0 (fun _=>true) true a vs ds ps->(∀(j:Nat) t v,a[j]? =some t->vs[j]? =some v->Value.okWide P W r l t v)->Rows.uptoBulkAll ds<=1048576->
 ∃d:PD (ts.map Par.val),pvs P (Hof W) (ts.map Par.val) vs d/\jmY 1048576 ts d
 |[],ts,vs,ds,ps,b,h,_,_=>by
  obtain⟨rfl,rfl,rfl⟩:=trodAll_nil h
  cases ts with
  |nil=>exact⟨(),rfl,trivial⟩
  |cons t ts=>cases b
 |T::a,[],vs,ds,ps,b,_,_,_=>by cases b
 |T::a,t::ts,vs,ds,ps,b,h,hv,hb=>by
  obtain⟨v,g,d,e,p,q,rfl,rfl,rfl,n,o⟩:=trodAll_cons h
  simp only[jgF,jDK] at b
  obtain⟨⟨k,_⟩,m⟩:=b
  simp only[Rows.uptoBulkAll] at hb
  obtain⟨c,s⟩:=n
  obtain⟨x,w,z,A⟩:=jdg 20 T t k c _ _ s (by simp only;omega)
  obtain⟨y,B,C⟩:=jzI a ts g e q m o (fun j t v u f=>hv (j+1) t v (by simpa using u) (by simpa using f)) (by omega)
  refine⟨(x,y),⟨⟨jBt k (hv 0 T v rfl rfl),by simpa using z,?_⟩,B⟩,Ty.fits_mono (by simp only;omega) t x A,C⟩
  refine Ty.rd_congr t _ _ _ (fun i _=> ?_) w
  simp
theorem jc0:∀(a:List Nat) (ts:List Ty) (vs:List Value) (ds:List (DataW K)) (ps:List MemPlace),jgF P a ts=true->DataW.TrodAll enc P W 0 (fun _=>true) true a vs ds ps->ds.length=ts.length:=by
 intro a
 induction a with
 |nil=>intro ts vs ds ps b h;obtain⟨rfl,rfl,rfl⟩:=trodAll_nil h;cases ts with|nil=>rfl|cons=>cases b
 |cons T a g=>intro ts vs ds ps b h;cases ts with
  |nil=>cases b
  |cons t ts=>
   obtain⟨v,e,d,c,p,q,rfl,rfl,rfl,i,f⟩:=trodAll_cons h;simp only[jgF,jDK] at b;simp[g ts e c q b.2 f]
theorem jzO {f:Nat} {fn:Func} {s:ChangeSpec} {ts:List Ty} (I:laidOutB P=true) (k:jgF P fn.params.toList ts=true) (L:fn.resultTypes= #[4]) (D:P.underlying 4=some .bool)
 (a:s.vars=[]) (m:∀(ds:List (DataW K)),ds.length=ts.length->s.fn K (ds++[])={results:=[.lit (.bool true)],args:=ds})
 (G:zh P f (jwu ts)) (base:Nat) (args:Array Value) (ds o:List (DataW K)) (before:List MemPlace)
 (l:∀(j:Nat) t v,fn.params[j]? =some t->args[j]? =some v->Value.okWide P W .any base t v)
 (w:DataW.Whole enc P fn.params.toList s.vars false W args.toList ds o before) (hk:Rows.uptoSmall K (ds++o)=true) (E:jBz (Hof W)):
 Calls P f args W fun e W'=>∃v,e= .returned v/\s.post enc P fn false true false false W args v W':=by
 have b:=w;obtain⟨p,q,i,u,rfl,H,J⟩:=w;rw[a] at u;obtain⟨rfl,rfl⟩:=trodVars_none u;simp only[jEb] at b hk;have c:Rows.uptoBulkAll ds<=1048576:=of_decide_eq_true hk;have g:∀(j:Nat) t v,fn.params.toList[j]? =some t->args.toList[j]? =some v->Value.okWide P W .any base t v:=fun j t v B C=>l j t v (by simpa using B) (by simpa using C)
 obtain⟨d,z,A⟩:=jzI fn.params.toList ts args.toList ds p k i g c;have y:=G.calls (Hof W) W args.toList d (jyR W E) z ⟨A,trivial⟩;simp only[Array.toArray_toList] at y;refine y.mono fun e W' F=> ?_
 obtain⟨v,H',rfl,r,M⟩:=F;have n:v= .bool true:=zy M;subst n;refine⟨_,rfl,ds,[],p,[],p,[],b,?_,?_,?_,r.below.frame _,fun h=>by cases h⟩
 .rw[m ds ?_,L]
  .exact trodAll_cons_mk (shut_bool D _) trodAll_mk0
  .exact jc0 _ _ _ _ _ k i
 .rw[m ds ?_]
  .exact jeb I r.below _ ts _ _ _ k i (fun x N=>by simpa using b.lt x N)
  .exact jc0 _ _ _ _ _ k i
 .rw[a,m ds ?_]
  .rfl
  .exact jc0 _ _ _ _ _ k i
end
end Go.X
namespace Go.X
open Go.Proofs
namespace U
def jCT (p:PeD):Prop:=(lv p).length<=20/\(zn p).length<=30
def jqA (c:CrD):Prop:=(jh c).length<=20/\(kz c).length<=20/\∀p∈jh c,jCT p
def ja8 (d:DyD):Prop:=jqA (jf d)/\(jz d).length<=20/\(jp d).length<=20/\(zv d).length<=60/\∀r∈jz d,r.length<=20
def jpG (p:PeD):Bool:=decide (20<((lv p).length:Int))||decide (30<((zn p).length:Int))
def jaN (c:CrD):Bool:=(decide (20<((jh c).length:Int))||decide (20<((kz c).length:Int)))||((jh c).any jpG||(jr c&&decide (5<((jh c).length:Int))))
def jpF (r:List SpD):Bool:=decide (20<(r.length:Int))
def wy (d:DyD):Bool:=(((jaN (jf d)||decide (20<((jz d).length:Int)))||decide (20<((jp d).length:Int)))||decide (60<((zv d).length:Int)))||(jz d).any jpF
def jDs:CrD:=(3,[([5,4,0],3,15,[],false,50,()),([0,5,3],3,15,[],true,40,()),([4,0,4],1,3,[7],false,30,()),([3,3,3],255,1,[],false,10,())],[(2,1,false,()),(4,2,false,()),(3,2,true,()),(5,1,false,())],())
def jxT:List JbD:=[(0,2,7,1,2,1,()),(0,2,3,0,0,1,()),(0,2,7,1,1,1,())]
def jkE:DyD:=(jDs,[[(0,0,()),(10,20,())],[(10,25,()),(0,0,())]],[((0,2,3,0,0,1,()),0,60,120,()),((0,2,3,1,0,1,()),1,150,200,()),((0,2,7,1,2,1,()),0,230,300,())],10,140,
 [(1,5,1,0,3,()),(2,6,1,1,3,()),(3,4,1,2,2,()),(4,7,1,2,0,()),(5,8,1,2,1,()),(6,9,1,0,2,()),(7,10,2,0,2,())],())
end U
abbrev q111_0 (d:CrD×Unit)(x:Nat):=(nth d.1.2.1 (x:Int).toNat)
def jtn:Prop:=∀(d:CrD×Unit),U.jqA d.1->(0+d.1.2.2.1.length)*24<=140737488355328/\(∃(x:Nat),((0=(x:Int)/\True)/\(d.1.1=d.1.1/\True/\True/\True)/\List.take x (U.jh d.1)=[]/\True)/\x<=(U.jh d.1).length)/\∀(x:Nat),x<=(U.jh d.1).length->d.1.2.1.length<4611686018427387904->(decide ((x:Int)<(d.1.2.1.length:Int))=true->0<=(x:Int)/\(x:Int)<(d.1.2.1.length:Int)/\(0+(q111_0 d x).1.length)*8<=140737488355328/\(0+(q111_0 d x).2.2.2.1.length)*8<=140737488355328/\((List.take x (U.jh d.1)).length+[([]++(q111_0 d x).1,(q111_0 d x).2.1,(q111_0 d x).2.2.1,[]++(q111_0 d x).2.2.2.1,(q111_0 d x).2.2.2.2)].length)*80<=140737488355328/\jC ((x:Int)+1)/\∃(a:Nat),(((x:Int)+1=(a:Int)/\True)/\(d.1.1=d.1.1/\True/\True/\True)/\List.take x (U.jh d.1)++[([]++(q111_0 d x).1,(q111_0 d x).2.1,(q111_0 d x).2.2.1,[]++(q111_0 d x).2.2.2.1,(q111_0 d x).2.2.2.2)]=List.take a (U.jh d.1)/\True)/\a<=(U.jh d.1).length/\(U.jh d.1).length-a<(U.jh d.1).length-x)/\(decide ((x:Int)<(d.1.2.1.length:Int))=false->((d.1.1,List.take x (U.jh d.1),[]++d.1.2.2.1,()),())=d)
abbrev q112_0 (d:DyD×Unit):=(d.1.1.1=d.1.1.1/\d.1.1.2.1=d.1.1.2.1/\d.1.1.2.2.1=d.1.1.2.2.1/\True/\d.1.2.2.1=d.1.2.2.1/\d.1.2.2.2.1=d.1.2.2.2.1/\d.1.2.2.2.2.1=d.1.2.2.2.2.1/\d.1.2.2.2.2.2.1=d.1.2.2.2.2.2.1/\True)
def jtl:Prop:=∀(d:DyD×Unit),U.ja8 d.1->U.jqA d.1.1/\(∃(x:Nat),((0=(x:Int)/\True)/\(q112_0 d)/\List.take x (U.jz d.1)=[]/\True)/\x<=(U.jz d.1).length)/\∀(x:Nat),x<=(U.jz d.1).length->d.1.2.1.length<4611686018427387904->(decide ((x:Int)<(d.1.2.1.length:Int))=true->0<=(x:Int)/\(x:Int)<(d.1.2.1.length:Int)/\(0+(nth d.1.2.1 (x:Int).toNat).length)*16<=140737488355328/\((List.take x (U.jz d.1)).length+[[]++nth d.1.2.1 (x:Int).toNat].length)*24<=140737488355328/\jC ((x:Int)+1)/\∃(a:Nat),(((x:Int)+1=(a:Int)/\True)/\(q112_0 d)/\List.take x (U.jz d.1)++[[]++nth d.1.2.1 (x:Int).toNat]=List.take a (U.jz d.1)/\True)/\a<=(U.jz d.1).length/\(U.jz d.1).length-a<(U.jz d.1).length-x)/\(decide ((x:Int)<(d.1.2.1.length:Int))=false->(0+d.1.2.2.1.length)*72<=140737488355328/\(0+d.1.2.2.2.2.2.1.length)*40<=140737488355328/\((d.1.1,List.take x (U.jz d.1),[]++d.1.2.2.1,d.1.2.2.2.1,d.1.2.2.2.2.1,[]++d.1.2.2.2.2.2.1,()),())=d)
def jka:jR:=⟨[.val (.slice .int),.val (.slice .int)],[.bool],false,fun _=>[],fun d=>(decide (d.1=d.2.1),())⟩
def jkK:Ann:=fun r=>match r with
 |4=>some fun σ=>{X:=Nat,sl:=fun i=>[(5,.dat .int (i:Int))],ob:=fun _=>[],inv:=fun i=>i<=(gd (.slice .int) σ 0).length/\∀j:Nat,j<i->nth (gd (.slice .int) σ 0) j=nth (gd (.slice .int) σ 1) j,mu:=fun i=>(gd (.slice .int) σ 0).length-i}
 |_=>none
def jj3:Prop:=∀(d:List Int×List Int×Unit),d.1.length<4611686018427387904->d.2.1.length<4611686018427387904->(decide ((d.1.length:Int)≠(d.2.1.length:Int))=true->(false,())=(decide (d.1=d.2.1),()))/\(decide ((d.1.length:Int)≠(d.2.1.length:Int))=false->(∃(x:Nat),((0=(x:Int)/\True)/\True)/\x<=d.1.length/\∀(j:Nat),j<x->nth d.1 j=nth d.2.1 j)/\∀(x:Nat),(x<=d.1.length/\∀(j:Nat),j<x->nth d.1 j=nth d.2.1 j)->d.1.length<4611686018427387904->(decide ((x:Int)<(d.1.length:Int))=true->0<=(x:Int)/\(x:Int)<(d.1.length:Int)/\0<=(x:Int)/\(x:Int)<(d.2.1.length:Int)/\(decide (nth d.1 (x:Int).toNat≠nth d.2.1 (x:Int).toNat)=true->(false,())=(decide (d.1=d.2.1),()))/\(decide (nth d.1 (x:Int).toNat≠nth d.2.1 (x:Int).toNat)=false->jC ((x:Int)+1)/\∃(a:Nat),(((x:Int)+1=(a:Int)/\True)/\True)/\(a<=d.1.length/\∀(j:Nat),j<a->nth d.1 j=nth d.2.1 j)/\d.1.length-a<d.1.length-x))/\(decide ((x:Int)<(d.1.length:Int))=false->(true,())=(decide (d.1=d.2.1),())))
def jvg:jR:=⟨[.val tCr],[.bool],false,fun _=>[],fun d=>(U.jaN d.1,())⟩
def jxE:Ann:=fun r=>match r with
 |4=>some fun σ=>{X:=Nat,sl:=fun i=>[(3,.dat .int (i:Int))],ob:=fun _=>[],inv:=fun i=>i<=(U.jh (gb tCr σ 1)).length/\∀j:Nat,j<i->U.jpG (nth (U.jh (gb tCr σ 1)) j)=false,mu:=fun i=>(U.jh (gb tCr σ 1)).length-i}
 |_=>none
abbrev q114_0 (d:CrD×Unit)(x:Nat):=((20:Int)<(↑(nth d.1.2.1 (x:Int).toNat).1.length:Int))
abbrev q114_1 (d:CrD×Unit):=(d.1.2.1.length:Int)
abbrev q114_2 (d:CrD×Unit)(x:Nat):=(decide (q114_0 d x)||decide ((30:Int)<(↑(nth d.1.2.1 (x:Int).toNat).2.2.2.1.length:Int)))
abbrev q114_3 (d:CrD×Unit):=(decide (20<(q114_1 d))||decide (20<(d.1.2.2.1.length:Int)))
def juW:Prop:=∀(d:CrD×Unit),d.1.2.1.length<4611686018427387904->((!decide (20<(q114_1 d)))=true->d.1.2.2.1.length<4611686018427387904)->((q114_3 d)=true->(true,())=(U.jaN d.1,()))/\((q114_3 d)=false->(∃(x:Nat),((0=(x:Int)/\True)/\True)/\x<=(U.jh d.1).length/\∀(j:Nat),j<x->U.jpG (nth (U.jh d.1) j)=false)/\∀(x:Nat),(x<=(U.jh d.1).length/\∀(j:Nat),j<x->U.jpG (nth (U.jh d.1) j)=false)->d.1.2.1.length<4611686018427387904->(decide ((x:Int)<(q114_1 d))=true->0<=(x:Int)/\(x:Int)<(q114_1 d)/\((nth d.1.2.1 (x:Int).toNat).1.length<4611686018427387904->((!decide (q114_0 d x))=true->0<=(x:Int))/\((!decide (q114_0 d x))=true->(x:Int)<(q114_1 d))/\(((!decide (q114_0 d x))=true->(nth d.1.2.1 (x:Int).toNat).2.2.2.1.length<4611686018427387904)->((q114_2 d x)=true->(true,())=(U.jaN d.1,()))/\((q114_2 d x)=false->jC ((x:Int)+1)/\∃(a:Nat),(((x:Int)+1=(a:Int)/\True)/\True)/\(a<=(U.jh d.1).length/\∀(j:Nat),j<a->U.jpG (nth (U.jh d.1) j)=false)/\(U.jh d.1).length-a<(U.jh d.1).length-x))))/\(decide ((x:Int)<(q114_1 d))=false->(U.jr d.1=true->d.1.2.1.length<4611686018427387904)->(U.jr d.1&&decide (5<(q114_1 d)),())=(U.jaN d.1,())))
def jtv:jR:=⟨[.val tDy],[.bool],false,fun _=>[],fun d=>(U.wy d.1,())⟩
def juH:Ann:=fun r=>match r with
 |4=>some fun σ=>{X:=Nat,sl:=fun i=>[(3,.dat .int (i:Int))],ob:=fun _=>[],inv:=fun i=>i<=(U.jz (gb tDy σ 1)).length/\∀j:Nat,j<i->U.jpF (nth (U.jz (gb tDy σ 1)) j)=false,mu:=fun i=>(U.jz (gb tDy σ 1)).length-i}
 |_=>none
abbrev q115_1 (d:DyD×Unit):=(d.1.2.1.length:Int)
abbrev q115_0 (d:DyD×Unit):=(U.jaN d.1.1||decide (20<(q115_1 d))||decide (20<(d.1.2.2.1.length:Int))||decide (60<(d.1.2.2.2.2.2.1.length:Int)))
def jtd:Prop:=∀(d:DyD×Unit),((!U.jaN d.1.1)=true->d.1.2.1.length<4611686018427387904)->((!(U.jaN d.1.1||decide (20<(q115_1 d))))=true->d.1.2.2.1.length<4611686018427387904)->((!(U.jaN d.1.1||decide (20<(q115_1 d))||decide (20<(d.1.2.2.1.length:Int))))=true->d.1.2.2.2.2.2.1.length<4611686018427387904)->((q115_0 d)=true->(true,())=(U.wy d.1,()))/\((q115_0 d)=false->(∃(x:Nat),((0=(x:Int)/\True)/\True)/\x<=(U.jz d.1).length/\∀(j:Nat),j<x->U.jpF (nth (U.jz d.1) j)=false)/\∀(x:Nat),(x<=(U.jz d.1).length/\∀(j:Nat),j<x->U.jpF (nth (U.jz d.1) j)=false)->d.1.2.1.length<4611686018427387904->(decide ((x:Int)<(q115_1 d))=true->0<=(x:Int)/\(x:Int)<(q115_1 d)/\((nth d.1.2.1 (x:Int).toNat).length<4611686018427387904->(decide ((20:Int)<(↑(nth d.1.2.1 (x:Int).toNat).length:Int))=true->(true,())=(U.wy d.1,()))/\(decide ((20:Int)<(↑(nth d.1.2.1 (x:Int).toNat).length:Int))=false->jC ((x:Int)+1)/\∃(a:Nat),(((x:Int)+1=(a:Int)/\True)/\True)/\(a<=(U.jz d.1).length/\∀(j:Nat),j<a->U.jpF (nth (U.jz d.1) j)=false)/\(U.jz d.1).length-a<(U.jz d.1).length-x)))/\(decide ((x:Int)<(q115_1 d))=false->(false,())=(U.wy d.1,())))
def jtu:jR:=⟨[.val .int,.val .int],[tSp],false,fun _=>[],fun d=>((d.1,d.2.1,()),())⟩
def jtc:Prop:=∀(d:Int×Int×Unit),(d,())=(d,())
def jl5:jR:=⟨[],[tCr,.slice tJb],false,fun _=>[],fun _=>(U.jDs,U.jxT,())⟩
def jlO:Prop:=∀(d:Unit),(((3:Int),[([(5:Int),(4:Int),(0:Int)],(3:Int),(15:Int),[],false,(50:Int),()),([(0:Int),(5:Int),(3:Int)],(3:Int),(15:Int),[],true,(40:Int),()),([(4:Int),(0:Int),(4:Int)],(1:Int),(3:Int),[(7:Int)],false,(30:Int),()),([(3:Int),(3:Int),(3:Int)],(255:Int),(1:Int),[],false,(10:Int),())],[((2:Int),(1:Int),false,()),((4:Int),(2:Int),false,()),((3:Int),(2:Int),true,()),((5:Int),(1:Int),false,())],()),[((0:Int),(2:Int),(7:Int),(1:Int),(2:Int),(1:Int),()),((0:Int),(2:Int),(3:Int),(0:Int),(0:Int),(1:Int),()),((0:Int),(2:Int),(7:Int),(1:Int),(1:Int),(1:Int),())],())=(U.jDs,U.jxT,())
def jl4:jR:=⟨[],[tDy],false,fun _=>[],fun _=>(U.jkE,())⟩
abbrev q118_0:=(nth U.jxT (Int.toNat 1))
def jlN:Prop:=∀(d:Unit),(0:Int)<=1/\1<(U.jxT.length:Int)/\(0:Int)<=1/\1<(U.jxT.length:Int)/\(0:Int)<=0/\0<(U.jxT.length:Int)/\((U.jDs,[[((0:Int),(0:Int),()),((10:Int),(20:Int),())],[((10:Int),(25:Int),()),((0:Int),(0:Int),())]],[(nth U.jxT (Int.toNat 1),(0:Int),(60:Int),(120:Int),()),((q118_0.1,q118_0.2.1,q118_0.2.2.1,(1:Int),q118_0.2.2.2.2),(1:Int),(150:Int),(200:Int),()),(nth U.jxT (Int.toNat 0),(0:Int),(230:Int),(300:Int),())],(10:Int),(140:Int),[((1:Int),(5:Int),(1:Int),(0:Int),(3:Int),()),((2:Int),(6:Int),(1:Int),(1:Int),(3:Int),()),((3:Int),(4:Int),(1:Int),(2:Int),(2:Int),()),((4:Int),(7:Int),(1:Int),(2:Int),(0:Int),()),((5:Int),(8:Int),(1:Int),(2:Int),(1:Int),()),((6:Int),(9:Int),(1:Int),(0:Int),(2:Int),()),((7:Int),(10:Int),(2:Int),(0:Int),(2:Int),())],()),())=(U.jkE,())
def jqj:jR:=⟨[],[.bool],false,fun _=>[],fun _=>(true,())⟩
def jpZ:Prop:=∀(d:Unit),(U.zv U.jkE).length<=100000/\(U.zv U.jkE).length<=100000/\(U.zv U.jkE).length<=100000/\(decide (U.jw U.jkE=0)&&decide (U.jw U.jkE=0)&&decide (U.jdh U.jkE=0)&&decide (U.wZ U.jkE=[(8:Int),(8:Int),(3:Int)])&&decide (U.jkk U.jkE=[(3:Int)])&&decide (U.jhl U.jkE=[(8:Int),(8:Int),(3:Int)])&&decide (U.jhk U.jkE=110),())=(true,())
end Go.X
namespace Go.X
open Go.Proofs
theorem jCh:jtn:=by
 unfold jtn q111_0;rintro⟨c,⟨⟩⟩ g;obtain⟨m,j,a⟩:U.jqA c:=g;refine⟨by show(0+(U.kz c).length)*24<=140737488355328;omega,⟨0,⟨⟨rfl,trivial⟩,⟨rfl,trivial,trivial,trivial⟩,rfl,trivial⟩,jDU _⟩,fun x f _=>⟨fun h=> ?_,fun h=> ?_⟩⟩
 .have h:(x:Int)<((U.jh c).length:Int):=of_decide_eq_true h;have k:=L.take_succ (l:=U.jh c) (i:=x) (by omega);obtain⟨s1,s2⟩:=a _ (L.mem_nth (l:=U.jh c) (i:=x) (by omega));have d:((U.jh c).take x).length<=20:=(by rw[jEa];omega);refine⟨jD9 _,h,by show(0+(U.lv (nth (U.jh c) x)).length)*8<=140737488355328;omega,by show(0+(U.zn (nth (U.jh c) x)).length)*8<=140737488355328;omega,by show(((U.jh c).take x).length+1)*80<=140737488355328;omega,L.in64 (by omega) (by omega),x+1,⟨⟨by simp,trivial⟩,⟨rfl,trivial,trivial,trivial⟩,k.symm,trivial⟩,by show x+1<=(U.jh c).length;omega,by show(U.jh c).length-(x+1)<(U.jh c).length-x;omega⟩
 .have h:¬(x:Int)<((U.jh c).length:Int):=of_decide_eq_false h;have f:x<=(U.jh c).length:=f;have b:x=(U.jh c).length:=(by omega);subst b;have e:(U.jh c).take (U.jh c).length=U.jh c:=jEz;show((c.1,(U.jh c).take (U.jh c).length,c.2.2.1,()),())=(c,());rw[e];rfl
theorem jCg:jtl:=by
 unfold jtl q112_0;rintro⟨d,⟨⟩⟩ g;obtain⟨k,o,j,n,a⟩:U.ja8 d:=g;refine⟨k,⟨0,⟨⟨rfl,trivial⟩,⟨rfl,rfl,rfl,trivial,rfl,rfl,rfl,rfl,trivial⟩,rfl,trivial⟩,jDU _⟩,fun x f _=>⟨fun h=> ?_,fun h=> ?_⟩⟩
 .have h:(x:Int)<((U.jz d).length:Int):=of_decide_eq_true h;have m:=L.take_succ (l:=U.jz d) (i:=x) (by omega);have p:=a _ (L.mem_nth (l:=U.jz d) (i:=x) (by omega));have c:((U.jz d).take x).length<=20:=(by rw[jEa];omega);refine⟨jD9 _,h,by show(0+(nth (U.jz d) x).length)*16<=140737488355328;omega,by show(((U.jz d).take x).length+1)*24<=140737488355328;omega,L.in64 (by omega) (by omega),x+1,⟨⟨by simp,trivial⟩,⟨rfl,rfl,rfl,trivial,rfl,rfl,rfl,rfl,trivial⟩,m.symm,trivial⟩,by show x+1<=(U.jz d).length;omega,by show(U.jz d).length-(x+1)<(U.jz d).length-x;omega⟩
 .have h:¬(x:Int)<((U.jz d).length:Int):=of_decide_eq_false h;have f:x<=(U.jz d).length:=f;have b:x=(U.jz d).length:=(by omega);subst b;have e:(U.jz d).take (U.jz d).length=U.jz d:=jEz;refine⟨by show(0+(U.jp d).length)*72<=140737488355328;omega,by show(0+(U.zv d).length)*40<=140737488355328;omega,?_⟩;show((U.jf d,(U.jz d).take (U.jz d).length,U.jp d,U.jog d,U.jt1 d,U.zv d,()),())=(d,());rw[e];rfl
theorem jmN:jj3:=by
 rintro⟨a,b,⟨⟩⟩ _ l;refine⟨fun h=> ?_,fun h=>⟨⟨0,⟨⟨rfl,trivial⟩,trivial⟩,jDU _,fun j k=>by omega⟩,fun x g f=>⟨fun c=>⟨jD9 _,of_decide_eq_true c,jD9 _,?_,fun d=> ?_,fun d=> ?_⟩,fun c=> ?_⟩⟩⟩
 .have h:(a.length:Int)≠(b.length:Int):=of_decide_eq_true h;have:¬a=b:=fun e=>h (by rw[e])
  show(false,())=(decide (a=b),());rw[decide_eq_false this]
 .have h:(a.length:Int)=(b.length:Int):=Classical.not_not.1 (of_decide_eq_false h);have c:(x:Int)<(a.length:Int):=of_decide_eq_true c;show(x:Int)<(b.length:Int);omega
 .have d:nth a x≠nth b x:=of_decide_eq_true d;have:¬a=b:=fun e=>d (by rw[e])
  show(false,())=(decide (a=b),());rw[decide_eq_false this]
 .have c:(x:Int)<(a.length:Int):=of_decide_eq_true c;have d:nth a x=nth b x:=Classical.not_not.1 (of_decide_eq_false d);have f:a.length<4611686018427387904:=f;refine⟨L.in64 (by omega) (by omega),x+1,⟨⟨by simp,trivial⟩,trivial⟩,⟨by show x+1<=a.length;omega,fun j k=> ?_⟩,by show a.length-(x+1)<a.length-x;omega⟩;by_cases e:j=x
  .subst e;exact d
  .exact g.2 j (by omega)
 .have h:(a.length:Int)=(b.length:Int):=Classical.not_not.1 (of_decide_eq_false h);have c:¬(x:Int)<(a.length:Int):=of_decide_eq_false c;have e:a=b:=L.ext_nth (by omega) fun i hi=>g.2 i (by omega)
  show(true,())=(decide (a=b),());rw[decide_eq_true e]
theorem jkl:zh PR 15 jka:=wt jkK jmN Tryz.func15 kcN koN
theorem jyL:juW:=by
 unfold juW q114_3 q114_2 q114_1 q114_0;rintro⟨c,⟨⟩⟩ _ _;refine⟨fun h=> ?_,fun h=>⟨⟨0,⟨⟨rfl,trivial⟩,trivial⟩,jDU _,fun j g=>by omega⟩,fun x f d=>⟨fun a=>⟨jD9 _,of_decide_eq_true a,fun _=>⟨fun _=>jD9 _,fun _=>of_decide_eq_true a,fun _=>⟨fun b=> ?_,fun b=> ?_⟩⟩⟩,fun a _=> ?_⟩⟩⟩
 .have h:(decide (20<((U.jh c).length:Int))||decide (20<((U.kz c).length:Int)))=true:=h;show(true,())=(U.jaN c,());unfold U.jaN;rw[h];rfl
 .have b:U.jpG (nth (U.jh c) x)=true:=b;have a:(x:Int)<((U.jh c).length:Int):=of_decide_eq_true a;have:(U.jh c).any U.jpG=true:=jEF.2 ⟨_,L.mem_nth (l:=U.jh c) (i:=x) (by omega),b⟩;show(true,())=(U.jaN c,());unfold U.jaN;rw[this,Bool.true_or,Bool.or_true]
 .have b:U.jpG (nth (U.jh c) x)=false:=b;have a:(x:Int)<((U.jh c).length:Int):=of_decide_eq_true a;have d:(U.jh c).length<4611686018427387904:=d;refine⟨L.in64 (by omega) (by omega),x+1,⟨⟨by simp,trivial⟩,trivial⟩,⟨by show x+1<=(U.jh c).length;omega,fun j g=> ?_⟩,by show(U.jh c).length-(x+1)<(U.jh c).length-x;omega⟩;by_cases e:j=x
  .subst e;exact b
  .exact f.2 j (by omega)
 .have h:(decide (20<((U.jh c).length:Int))||decide (20<((U.kz c).length:Int)))=false:=h;have a:¬(x:Int)<((U.jh c).length:Int):=of_decide_eq_false a;have:(U.jh c).any U.jpG=false:=jEq.2 fun p k=>by
   obtain⟨i,hi,rfl⟩:=L.mem_iff.1 k;rw[f.2 i (by omega)];simp
  show(U.jr c&&decide (5<((U.jh c).length:Int)),())=(U.jaN c,());unfold U.jaN;rw[h,this,Bool.false_or,Bool.false_or]
theorem jv1:zh PR 70 jvg:=wt jxE jyL Tryz.func70 (kcC jgH kcN) koN
theorem jwL:jtd:=by
 unfold jtd q115_0 q115_1;rintro⟨d,⟨⟩⟩ _ _ _;refine⟨fun h=> ?_,fun h=>⟨⟨0,⟨⟨rfl,trivial⟩,trivial⟩,jDU _,fun j g=>by omega⟩,fun x f c=>⟨fun a=>⟨jD9 _,of_decide_eq_true a,fun _=>⟨fun b=> ?_,fun b=> ?_⟩⟩,fun a=> ?_⟩⟩⟩
 .have h:(((U.jaN (U.jf d)||decide (20<((U.jz d).length:Int)))||decide (20<((U.jp d).length:Int)))||decide (60<((U.zv d).length:Int)))=true:=h;show(true,())=(U.wy d,());unfold U.wy;rw[h];rfl
 .have b:U.jpF (nth (U.jz d) x)=true:=b;have a:(x:Int)<((U.jz d).length:Int):=of_decide_eq_true a;have:(U.jz d).any U.jpF=true:=jEF.2 ⟨_,L.mem_nth (l:=U.jz d) (i:=x) (by omega),b⟩;show(true,())=(U.wy d,());unfold U.wy;rw[this,Bool.or_true]
 .have b:U.jpF (nth (U.jz d) x)=false:=b;have a:(x:Int)<((U.jz d).length:Int):=of_decide_eq_true a;have c:(U.jz d).length<4611686018427387904:=c;refine⟨L.in64 (by omega) (by omega),x+1,⟨⟨by simp,trivial⟩,trivial⟩,⟨by show x+1<=(U.jz d).length;omega,fun j g=> ?_⟩,by show(U.jz d).length-(x+1)<(U.jz d).length-x;omega⟩;by_cases e:j=x
  .subst e;exact b
  .exact f.2 j (by omega)
 .have h:(((U.jaN (U.jf d)||decide (20<((U.jz d).length:Int)))||decide (20<((U.jp d).length:Int)))||decide (60<((U.zv d).length:Int)))=false:=h;have a:¬(x:Int)<((U.jz d).length:Int):=of_decide_eq_false a;have:(U.jz d).any U.jpF=false:=jEq.2 fun p k=>by
   obtain⟨i,hi,rfl⟩:=L.mem_iff.1 k;rw[f.2 i (by omega)];simp
  show(false,())=(U.wy d,());unfold U.wy;rw[h,this];rfl
theorem jtN:zh PR 30 jtv:=wt juH jwL Tryz.func30 (kcC jv1 kcN) koN
theorem jw2 {c:CrD} (h:U.jaN c=false):U.jqA c:=by
 unfold U.jaN at h;rw[jD7,jD7,jD7,decide_eq_false_iff_not] at h;have b:=of_decide_eq_false h.1.2;refine⟨by have:=h.1.1;omega,by omega,fun p a=> ?_⟩;have:=jEq.1 h.2.1 p a;unfold U.jpG at this;rw[jE1,decide_eq_true_iff,decide_eq_true_iff] at this;unfold U.jCT;omega
theorem jf4 {d:DyD} (h:U.wy d=false):U.ja8 d:=by
 unfold U.wy at h;rw[jD7,jD7,jD7,jD7] at h;obtain⟨⟨⟨⟨e,a⟩,b⟩,c⟩,f⟩:=h;have a:=of_decide_eq_false a;have b:=of_decide_eq_false b;have c:=of_decide_eq_false c;refine⟨jw2 e,by omega,by omega,by omega,fun r g=> ?_⟩;have:=jEq.1 f r g;unfold U.jpF at this;rw[decide_eq_true_iff] at this;omega
theorem jwK:jtc:=fun _=>rfl
theorem jtM:zh PR 78 jtu:=jM jwK Tryz.func78 kcN koN
theorem jo5:jlO:=fun _=>rfl
theorem jms:zh PR 77 jl5:=jM jo5 Tryz.func77 kcN koN
theorem jo4:jlN:=by
 unfold jlN q118_0;intro _;refine⟨by decide,by decide,by decide,by decide,by decide,by decide,rfl⟩
theorem jmr:zh PR 38 jl4:=jM jo4 Tryz.func38 (kcC jms (kcC jtM kcN)) koN
theorem jw7:U.v8 U.jkE=0:=by decide+kernel
theorem jCp:(U.jgz U.jkE).1=[8,8,3]:=by decide+kernel
theorem jCq:U.jez (U.jgz U.jkE).2 100=[3]:=by decide+kernel
theorem jw6:(U.jCW U.jkE).2=([8,8,3],110,true):=by decide+kernel
theorem jt4:jpZ:=by
 intro _;refine⟨by decide,by decide,by decide,?_⟩;have b:U.jw U.jkE=0:=(jay _).trans jw7;have c:U.wZ U.jkE=[8,8,3]:=(by rw[ju4,if_pos jw7];exact jCp);have d:U.jkk U.jkE=[3]:=(by rw[jAt,if_pos jw7];exact jCq);have a:U.jdh U.jkE=0:=(by unfold U.jdh;rw[if_pos b,jw6,if_pos rfl]);have e:U.jhl U.jkE=[8,8,3]:=(by unfold U.jhl;rw[if_pos a,jw6]);have f:U.jhk U.jkE=110:=(by unfold U.jhk;rw[if_pos a,jw6]);rw[b,c,d,a,e,f];rfl
theorem jqY:zh PR 11 jqj:=jM jt4 Tryz.func11 (kcC jmr (kcC jkl (kcC jk6 (kcC joJ (kcC jv3 kcN))))) koN
end Go.X
namespace Go.X
open Go.Proofs
end Go.X
namespace Go.X
open Go.Proofs
section
attribute [local irreducible] U.wC U.on U.joP
end
section
attribute [local irreducible] U.joP
end
section
attribute [local irreducible] U.v8 U.joP
end
end Go.X

namespace Go.X
section
attribute [local irreducible] U.wR U.jaO U.ki U.wC
end
section
attribute [local irreducible] U.jaO U.ki U.wC U.wY
end
end Go.X
namespace Go.X
open Go.Proofs
section
attribute [local irreducible] U.wR U.ki
end
end Go.X
namespace Go.X
namespace U
def jwa:DyD:=((0,[],[],()),[],[],0,0,[],())
def jCJ:List ShD:=[]
def flatS (l:List (List ShD)) (i:Nat):List ShD:=(l.take i).flatten
def jB5 (d:DyD) (m:List ShD):List ShD:=jH (flatS [zv d,m] 2)
def jsD (d:DyD) (m:List ShD):Int:=if jw d≠0 then jw d else if jw (jI d m)≠0 then jw (jI d m) else if 30<(jB5 d m).length then 2 else if jrI (jB5 d m)=true then 51 else 0
def jat (d:DyD) (m:List ShD):DyD:=if jsD d m=0 then jI d (jB5 d m) else jwa
def jlf (d:DyD) (m:List ShD):List ShD:=y8 (zv d++m)
def jBF (d:DyD) (m:List ShD):Int:=if v8 d≠0 then v8 d else if v8 (jI d m)≠0 then v8 (jI d m) else if 30<(jlf d m).length then 2 else if kR (jlf d m)=true then 51 else 0
def jDp (d:DyD) (m:List ShD):DyD:=if jBF d m=0 then jI d (jlf d m) else jwa
def jrc (c:CrD) (t:Int):Bool:=ja t 0 (2^(jh c).length-1)
end U
end Go.X
namespace Go.X
abbrev jC3:ShD->ShD->Bool:=U.jd tSh fun x=>(U.wX x.1 x.2.1,())
theorem jCs (l:List ShD):(U.jH l).Pairwise (fun a b=>jC3 a b=true):=by
 have e:U.jH l=U.qF (fun a b=>decide (a=b)) (U.jc (U.jd tSh fun x=>(U.wX x.1 x.2.1,())) l):=by
  unfold U.jH;congr 1
 rw[e];exact L.comp_asc (jmp _) (qZ (jmp l))
theorem jzz {α:Type} {lt:α->α->Bool} {l:List α} (e:kh lt l) (h:l.Pairwise (fun a b=>lt a b=true)):js9 lt l:=
 List.Pairwise.imp_of_mem (fun{a b} c f d=>by
  cases h:lt b a with
  |false=>rfl
  |true=>have:=e.trans _ _ _ c f c d h;rw[e.irrefl _ c] at this;cases this) h
theorem jAO {a b:ShD} (h:U.zX a<U.zX b):jC3 a b=true:=by
 have e:U.wX a b<0:=by
  unfold U.wX;rw[j0];have:=jrT.2 h;rw[if_pos (by omega)];exact this
 exact decide_eq_true e
theorem jA8 {l:List ShD} (k:∀a∈l,∀b∈l,U.zX a=U.zX b->a=b):(U.y8 l).Pairwise (fun a b=>jC3 a b=true):=by
 have o:=jca l;have c:(U.y8 l).Pairwise (fun a b=>U.zX a<=U.zX b):=by
  unfold U.y8 U.jrN;refine List.pairwise_flatMap.2 ⟨fun m _=> ?_,?_⟩
  .exact jEA.2 fun i j hi n _=>by
    have d:=jce (List.getElem_mem hi);have c:=jce (List.getElem_mem n);omega
  .refine List.Pairwise.imp ?_ jEW;intro a b g x p y q;have d:=jce p;have c:=jce q;omega
 refine List.Pairwise.imp_of_mem ?_ (List.Pairwise.and c o);intro a b f h ⟨h3,h4⟩;refine jAO ?_;have:U.zX a≠U.zX b:=fun e=>h4 (k a (qj f) b (qj h) e)
 omega
theorem jm5 {l:List ShD} (h:∀s∈l,0<=U.zX s/\U.zX s<=99) (s:ShD):s∈U.y8 l↔s∈l:=⟨qj,fun a=>jxh a (h s a).1 (h s a).2⟩
theorem jff {l:List ShD} (h:∀s∈l,0<=U.zX s/\U.zX s<=99):(U.jH l).Perm (U.y8 l):=
 L.perm_of_nodup (jfe l) (jca l) fun s=>jad.trans (jm5 h s).symm
theorem jy5 {l:List ShD} (h:∀s∈l,0<=U.zX s/\U.zX s<=99) (c:∀a∈l,∀b∈l,U.zX a=U.zX b->a=b):U.jH l=U.y8 l:=
 jag (jmp _) (jff h) (jzz (jmp _) (jCs l)) (jzz (jmp _) (jA8 c))
theorem jly {l:List ShD} (h:∀s∈l,0<=U.zX s/\U.zX s<=99):U.kR (U.y8 l)=U.kR l:=by
 have:U.kR (U.y8 l)=false↔U.kR l=false:=by
  rw[gm,gm];exact⟨fun g a d b e=>g a ((jm5 h a).2 d) b ((jm5 h b).2 e),fun g a d b e=>g a (qj d) b (qj e)⟩
 cases c:U.kR (U.y8 l) with
 |false=>exact(this.1 c).symm
 |true=>
  cases f:U.kR l with
  |false=>rw[this.2 f] at c;cases c
  |true=>rfl
theorem jyV (a b:List ShD):U.flatS [a,b] 2=a++b:=by
 show[a,b].flatten=a++b;simp
theorem jzR {d:DyD} (h:U.v8 d=0):∀s∈U.zv d,0<=U.zX s/\U.zX s<=99:=fun _ a=>jiu (zm ((jay d).trans h)).1.2.2 a
theorem jrf {d:DyD} {m:List ShD} (h:U.v8 d=0) (b:U.v8 (U.jI d m)=0):∀s∈U.zv d++m,0<=U.zX s/\U.zX s<=99:=by
 intro s a;rcases jDP.1 a with a|a
 .exact jzR h s a
 .exact jzR b s a
theorem jzN (d:DyD) (m:List ShD):U.jsD d m=U.jBF d m:=by
 unfold U.jsD U.jBF U.jB5 U.jlf;rw[jay,jay,jyV,jpo];by_cases h:U.v8 d=0
 .by_cases a:U.v8 (U.jI d m)=0
  .have b:=jrf h a;rw[(jff b).length_eq,jly b]
  .rw[if_neg (fun g=>g h),if_pos a,if_neg (fun g=>g h),if_pos a]
 .rw[if_pos h,if_pos h]
theorem joW {d:DyD} {m:List ShD} (h:U.jBF d m=0):U.v8 d=0/\U.v8 (U.jI d m)=0/\(U.jlf d m).length<=30/\U.kR (U.jlf d m)=false:=by
 unfold U.jBF at h
 split at h
 .exact absurd h (by assumption)
 rename_i a
 split at h
 .exact absurd h (by assumption)
 rename_i b
 split at h
 .omega
 rename_i e
 split at h
 .omega
 rename_i c;exact⟨Decidable.not_not.1 a,Decidable.not_not.1 b,by omega,by simpa using c⟩
theorem jB4 {d:DyD} {m:List ShD} (h:U.jBF d m=0):U.jB5 d m=U.jlf d m:=by
 obtain⟨c,e,_,a⟩:=joW h;have b:=jrf c e;unfold U.jB5 U.jlf;rw[jyV];unfold U.jlf at a;rw[jly b] at a;exact jy5 b ((gm _).1 a)
theorem jB3 (d:DyD) (m:List ShD):U.jat d m=U.jDp d m:=by
 unfold U.jat U.jDp;rw[jzN];by_cases h:U.jBF d m=0
 .rw[if_pos h,if_pos h,jB4 h]
 .rw[if_neg h,if_neg h]
end Go.X
namespace Go.X
namespace U
def jzC (d:DyD) (p:Int) (a:List Int) (s:ShD):List Int:=if wC d p (a++[jix s])=true then a++[jix s] else a
def jpN (d:DyD) (p:Int) (l:List ShD):List Int:=l.foldl (jzC d p) []
def jBX (p:Int) (s:ShD):Bool:=decide (vS s=p)
def jCR (d:DyD) (p:Int):List ShD:=(juQ d).filter (jBX p)
end U
theorem jCS {α:Type} {P:List α->Prop} (nil:P []) (snoc:∀l s,P l->P (l++[s])):∀l,P l:=by
 have h:∀r:List α,P r.reverse:=by
  intro r
  induction r with
  |nil=>exact nil
  |cons a r b=>rw[List.reverse_cons];exact snoc _ _ b
 intro l;have:=h l.reverse
 rwa [List.reverse_reverse] at this
theorem jpM (d:DyD) (p:Int) (l:List ShD) (s:ShD):U.jpN d p (l++[s])=U.jzC d p (U.jpN d p l) s:=by
 unfold U.jpN;rw[jEi];rfl
theorem jxy {d:DyD} (h:0<=U.jt1 d) (p:Int):U.wC d p []=true:=by
 show(true&&(true&&decide ((0:Int)<=U.jt1 d)))=true;rw[decide_eq_true h];rfl
theorem jzq {d:DyD} (h:0<=U.jt1 d) (p:Int) (l:List ShD):U.wC d p (U.jpN d p l)=true:=by
 induction l using jCS with
 |nil=>exact jxy h p
 |snoc l s a=>
  rw[jpM];unfold U.jzC
  split
  .assumption
  .exact a
attribute [local irreducible] U.zO U.wC U.jm9 U.on U.jL jpv U.jcr U.zU in
theorem jzp {d:DyD} (h:U.jw d=0) {i:Nat} (hi:i<(U.jL d).length) (p:Nat) (ih:∀q:Nat,nth (U.zO (U.jcr d) (U.jL d) i).1 q=U.jpN d (q:Int) ((((U.jL d).take i).filter (jpv d)).filter (U.jBX (q:Int)))) (hrd:U.rd (U.jcr d)=d) (hml:U.yU (U.jcr d)=U.zU d (U.jp d).length)
 (hx:(U.zO (U.jcr d) (U.jL d) i).1.length=(U.jh (U.jf d)).length) (hdec:jpv d=U.zW (U.zk (U.jL d) (U.jL d).length))
 (hnew:jpv d (nth (U.jL d) i)=true->(nth (U.zO (U.jcr d) (U.jL d) i).1 (U.vS (nth (U.jL d) i)).toNat++[U.jix (nth (U.jL d) i)]).Nodup/\∀b∈nth (U.zO (U.jcr d) (U.jL d) i).1 (U.vS (nth (U.jL d) i)).toNat++[U.jix (nth (U.jL d) i)],U.qV d b):
 nth (U.zO (U.jcr d) (U.jL d) (i+1)).1 p=U.jpN d (p:Int) ((((U.jL d).take (i+1)).filter (jpv d)).filter (U.jBX (p:Int))):=by
 have hD:=(zm h).1
 have hsf:=jeq hD.2.2 (qM.1 (L.mem_nth (l:=U.jL d) (i:=i) hi))
 rw[L.filter_take hi,List.filter_append]
 cases hc:jpv d (nth (U.jL d) i) with
 |false=>
  rw[hdec] at hc
  rw[jl0 hi hc,if_neg (by simp),List.filter_nil,jEb]
  exact ih p
 |true=>
  have hn:=hnew hc
  have hcan:U.jm9 d (U.zU d (U.jp d).length) (U.vS (nth (U.jL d) i)) (nth (U.zO (U.jcr d) (U.jL d) i).1 (U.vS (nth (U.jL d) i)).toNat++[U.jix (nth (U.jL d) i)])=U.wC d (U.vS (nth (U.jL d) i)) (nth (U.zO (U.jcr d) (U.jL d) i).1 (U.vS (nth (U.jL d) i)).toNat++[U.jix (nth (U.jL d) i)]):=
   jxx hn.1 (fun c hc=>jwo hD (hn.2 c hc) hsf.1)
  rw[hdec] at hc
  rw[if_pos rfl]
  have hsp:((U.vS (nth (U.jL d) i)).toNat:Int)=U.vS (nth (U.jL d) i):=by omega
  by_cases hp:U.vS (nth (U.jL d) i)=(p:Int)
  .have e1:List.filter (U.jBX (p:Int)) [nth (U.jL d) i]=[nth (U.jL d) i]:=by
    rw[List.filter_cons_of_pos]
    .rfl
    .exact decide_eq_true hp
   have ep:(U.vS (nth (U.jL d) i)).toNat=p:=by omega
   rw[e1,jpM,<-ih p]
   rw[ep,hp] at hcan
   unfold U.jzC
   cases hk:U.wC d (p:Int) (nth (U.zO (U.jcr d) (U.jL d) i).1 p++[U.jix (nth (U.jL d) i)]) with
   |true=>
    rw[hk] at hcan
    rw[jlZ hi hc (by rw[hrd,hml,ep,hp];exact hcan),if_pos rfl,ep]
    show nth ((U.zO (U.jcr d) (U.jL d) i).1.set p _) p=_
    rw[L.nth_set (by omega),if_pos rfl]
   |false=>
    rw[hk] at hcan
    rw[jsd hi hc (by rw[hrd,hml,ep,hp];exact hcan),if_neg (by simp)]
  .have e1:List.filter (U.jBX (p:Int)) [nth (U.jL d) i]=[]:=by
    rw[List.filter_cons_of_neg]
    .rfl
    .unfold U.jBX;simpa using hp
   rw[e1,jEb,<-ih p]
   cases hk:U.wC d (U.vS (nth (U.jL d) i)) (nth (U.zO (U.jcr d) (U.jL d) i).1 (U.vS (nth (U.jL d) i)).toNat++[U.jix (nth (U.jL d) i)]) with
   |true=>
    rw[hk] at hcan
    rw[jlZ hi hc (by rw[hrd,hml];exact hcan)]
    show nth ((U.zO (U.jcr d) (U.jL d) i).1.set _ _) p=_
    rw[L.nth_set (by omega),if_neg (by omega)]
   |false=>
    rw[hk] at hcan
    rw[jsd hi hc (by rw[hrd,hml];exact hcan)]
theorem jxK {d:DyD} (h:U.jw d=0):∀i,i<=(U.jL d).length->∀p:Nat,nth (U.zO (U.jcr d) (U.jL d) i).1 p=U.jpN d (p:Int) ((((U.jL d).take i).filter (jpv d)).filter (U.jBX (p:Int)))
 |0,_=>fun p=>by
  have j:U.jyv (U.jAE d):=fun x m=>(List.mem_replicate.1 m).2
  exact jmB j p
 |i+1,hi=>fun p=>by
  have n:=jxK h i (by omega)
  obtain⟨⟨_,o⟩,⟨k,b⟩,c⟩:=jsq h
  have f:=(zm h).1
  have a:=jl1 (r:=U.jcr d) (l:=U.jL d) f.2.2 (fun s e=>qM.1 e) (qn d) k b c i (by omega)
  refine jzp h hi p n rfl rfl a.1 rfl fun g=> ?_
  have:=jsc (r:=U.jcr d) (l:=U.jL d) f.2.2 (fun s e=>qM.1 e) (qn d) hi a g
  exact⟨this.1,this.2.1⟩
theorem jBV {d:DyD} (h:U.jw d=0) (p:Nat):nth (U.wg (U.jnm d)) p=U.jpN d (p:Int) (U.jCR d (p:Int)):=by
 have:=jxK h _ (jDJ _) p;rw[jEz,jzw h] at this;exact this
theorem jBm {d:DyD} (h:U.v8 d=0) {b:Nat} (c:b<(U.jp d).length) {p:Nat} (f:p<(U.jh (U.jf d)).length):U.qB (nth (U.jgz d).1 b) (p:Int)=true↔(b:Int)∈U.jpN d (p:Int) (U.jCR d (p:Int)):=by
 have a:U.jw d=0:=(jay d).trans h;have e:=jfR a;rw[jmL (e.set b c)];refine(e.bit b c p).trans ?_;rw[<-jBV a p];exact⟨fun h=>h.2,fun h=>⟨f,h⟩⟩
end Go.X
namespace Go.X
theorem jm8 {d:DyD}:U.v8 d=0↔U.joP d/\∀a∈U.zv d,∀b∈U.zv d,U.zX a=U.zX b->a=b:=by
 refine⟨fun h=>zm ((jay d).trans h),fun⟨⟨c,e,f⟩,g⟩=> ?_⟩;unfold U.v8;rw[c,e,f,(gm _).2 g];rfl
theorem jy8 {d:DyD} {l:List ShD} (h:U.zi d=true) (a:l.length<=30) (b:∀s∈l,U.yO (U.jp d).length (U.jh (U.jf d)).length s=true):U.zi (U.jI d l)=true:=by
 have f:=j6 h;show(decide ((U.jp d).length<=4/\1<=(U.jz d).length/\(U.jz d).length<=5/\0<=U.jog d/\U.jog d<=300/\0<=U.jt1 d/\U.jt1 d<=1440/\l.length<=30)&&
  ((U.jz d).all (U.qv (U.jz d).length)&&((U.jp d).all (U.jbq (U.jz d).length)&&l.all (U.yO (U.jp d).length (U.jh (U.jf d)).length))))=true
 simp only[jDK,decide_eq_true_eq,jEf];exact⟨⟨f.1,f.2.1.1,f.2.1.2,f.2.2.1.1,f.2.2.1.2,f.2.2.2.1.1,f.2.2.2.1.2,a⟩,f.2.2.2.2.2.1,f.2.2.2.2.2.2.1,b⟩
theorem jzc {d:DyD} {l:List ShD} (h:U.joP d) (c:l.length<=30) (e:∀s∈l,U.yO (U.jp d).length (U.jh (U.jf d)).length s=true) (hi:∀a∈l,∀b∈l,U.zX a=U.zX b->a=b):U.v8 (U.jI d l)=0:=
 jm8.2 ⟨⟨h.1,h.2.1,jy8 h.2.2 c e⟩,hi⟩
theorem jB8 {d:DyD} (h:U.v8 d=0):0<=U.jt1 d:=(j6 (jm8.1 h).1.2.2).2.2.2.1.1
theorem jrV {d:DyD} {p:Int} {l:List Int} (h:U.wC d p l=true) {b:Int} (a:b∈l):U.ky (U.jf d) (U.jcJ (U.bk d b)) p=true:=by
 unfold U.wC at h;rw[jDK] at h;exact jEf.1 h.1 b a
theorem jnL {d:DyD} (h:U.v8 d=0) {b:Nat} (a:b<(U.jp d).length) {p:Nat} (e:p<(U.jh (U.jf d)).length) (c:U.qB (nth (U.jgz d).1 b) (p:Int)=true):U.ky (U.jf d) (U.jcJ (nth (U.jp d) b)) (p:Int)=true:=
 jrV (jzq (jB8 h) _ _) ((jBm h a e).1 c)
end Go.X


namespace Go.X
instance:Inhabited (Nat×Nat):=⟨(0,0)⟩
end Go.X

namespace Go.X
open Go.Proofs
abbrev rwP:Sh:= .cl (.row 102 tPe .unk)
def jei:jR:=⟨[.val (.slice .int)],[.slice .int],false,fun d=>[d.1.length<=100000],fun d=>(d.1,())⟩
def jd4:Prop:=∀(d:List Int×Unit),d.1.length<=100000->∀(a:Bool),(a=true->d.1=[])->(a=true->([],())=d)/\(a=false->(0+d.1.length)*8<=140737488355328/\([]++d.1,())=d)
def jhb:jR:=⟨[.val (.slice tSp)],[.slice tSp],false,fun d=>[d.1.length<=100000],fun d=>(d.1,())⟩
def jg2:Prop:=∀(d:List (Int×Int×Unit)×Unit),d.1.length<=100000->∀(a:Bool),(a=true->d.1=[])->(a=true->([],())=d)/\(a=false->(0+d.1.length)*16<=140737488355328/\([]++d.1,())=d)
def jc6:jR:=⟨[.val (.slice tBk)],[.slice tBk],false,fun d=>[d.1.length<=100000],fun d=>(d.1,())⟩
def jcX:Prop:=∀(d:List BkD×Unit),d.1.length<=100000->∀(a:Bool),(a=true->d.1=[])->(a=true->([],())=d)/\(a=false->(0+d.1.length)*72<=140737488355328/\([]++d.1,())=d)
def jip:jR:=⟨[.val (.slice tLw)],[.slice tLw],false,fun d=>[d.1.length<=100000],fun d=>(d.1,())⟩
def jia:Prop:=∀(d:List LwD×Unit),d.1.length<=100000->∀(a:Bool),(a=true->d.1=[])->(a=true->([],())=d)/\(a=false->(0+d.1.length)*24<=140737488355328/\([]++d.1,())=d)
def jep:zw:=⟨[.val (.slice tPe)],[rwP],fun d=>[d.1.length<=100000],fun d=>((d.1,()),())⟩
def jd6:Prop:=∀(d:List PeD×Unit),d.1.length<=100000->∀(a:Bool),(a=true->d.1=[])->(a=true->([],())=d/\()=())/\(a=false->(0+d.1.length)*80<=140737488355328/\([]++d.1,())=d/\()=())
def jnZ:jR:=⟨[.val tDy,.val (.slice tSh)],[tDy],false,fun d=>[U.ja8 d.1],fun d=>(U.jI d.1 d.2.1,())⟩
def jpH:Ann:=fun r=>match r with
 |7=>some fun σ=>{X:=Nat,sl:=fun i=>[(33,.dat .int (i:Int))],ob:=fun _=>[(yS 5 1,some (.row 102 tPe false .unk (U.jh (U.jf (gb tDy σ 2)))))],inv:=fun i=>i<=(U.jh (U.jf (gb tDy σ 2))).length,mu:=fun i=>(U.jh (U.jf (gb tDy σ 2))).length-i}
 |13=>some fun σ=>{X:=Nat,sl:=fun i=>[(61,.dat .int (i:Int))],ob:=fun i=>[(5,some (.box 30 false ((bx σ 5).set 3 (.own (yS 5 3) (.slice tSp))))),(yS 5 3,some (.row 75 (.slice tSp) false .yes ((U.jz (gb tDy σ 2)).take i)))],inv:=fun i=>i<=(U.jz (gb tDy σ 2)).length,mu:=fun i=>(U.jz (gb tDy σ 2)).length-i}
 |_=>none
abbrev q125_1 (d:DyD×List ShD×Unit):=(d.1.1.1=d.1.1.1/\True/\d.1.1.2.2.1=d.1.1.2.2.1/\True/\d.1.2.2.1=d.1.2.2.1/\d.1.2.2.2.1=d.1.2.2.2.1/\d.1.2.2.2.2.1=d.1.2.2.2.2.1/\d.2.1=d.2.1/\True)
abbrev q125_2 (d:DyD×List ShD×Unit):=(U.jh (U.jf d.1))
abbrev q125_0 (d:DyD×List ShD×Unit)(x:Nat):=((q125_2 d).set (x:Int).toNat (nth (q125_2 d) (x:Int).toNat))
def jnA:Prop:=∀(d:DyD×List ShD×Unit),U.ja8 d.1->d.1.2.2.1.length<=100000/\d.1.1.2.2.1.length<=100000/\d.1.1.2.1.length<=100000/\(d.1.1.2.1.length<4611686018427387904->(∃(x:Nat),((0=(x:Int)/\True)/\d.1.1.2.1=U.jh (U.jf d.1)/\True)/\x<=(q125_2 d).length)/\∀(x:Nat),x<=(q125_2 d).length->(decide ((x:Int)<(d.1.1.2.1.length:Int))=true->0<=(x:Int)/\(x:Int)<(↑(q125_2 d).length:Int)/\(nth (q125_2 d) (x:Int).toNat).1.length<=100000/\(nth (q125_2 d) (x:Int).toNat).2.2.2.1.length<=100000/\0<=(x:Int)/\(x:Int)<(↑(q125_2 d).length:Int)/\0<=(x:Int)/\(x:Int)<(↑(q125_0 d x).length:Int)/\jC ((x:Int)+1)/\∃(a:Nat),(((x:Int)+1=(a:Int)/\True)/\(q125_0 d x).set (x:Int).toNat ((nth (q125_0 d x) (x:Int).toNat).1,(nth (q125_0 d x) (x:Int).toNat).2.1,(nth (q125_0 d x) (x:Int).toNat).2.2.1,(nth (q125_2 d) (x:Int).toNat).2.2.2.1,(nth (q125_0 d x) (x:Int).toNat).2.2.2.2)=U.jh (U.jf d.1)/\True)/\a<=(q125_2 d).length/\(q125_2 d).length-a<(q125_2 d).length-x)/\(decide ((x:Int)<(d.1.1.2.1.length:Int))=false->d.1.2.1.length<4611686018427387904->(∃(x:Nat),((0=(x:Int)/\True)/\(q125_1 d)/\List.take x (U.jz d.1)=[]/\True)/\x<=(U.jz d.1).length)/\∀(x:Nat),x<=(U.jz d.1).length->(decide ((x:Int)<(d.1.2.1.length:Int))=true->0<=(x:Int)/\(x:Int)<(d.1.2.1.length:Int)/\(nth d.1.2.1 (x:Int).toNat).length<=100000/\((List.take x (U.jz d.1)).length+[nth d.1.2.1 (x:Int).toNat].length)*24<=140737488355328/\jC ((x:Int)+1)/\∃(a:Nat),(((x:Int)+1=(a:Int)/\True)/\(q125_1 d)/\List.take x (U.jz d.1)++[nth d.1.2.1 (x:Int).toNat]=List.take a (U.jz d.1)/\True)/\a<=(U.jz d.1).length/\(U.jz d.1).length-a<(U.jz d.1).length-x)/\(decide ((x:Int)<(d.1.2.1.length:Int))=false->(((d.1.1.1,U.jh (U.jf d.1),d.1.1.2.2),List.take x (U.jz d.1),d.1.2.2.1,d.1.2.2.2.1,d.1.2.2.2.2.1,d.2),())=(U.jI d.1 d.2.1,()))))
def jhi:zw:=⟨[.nil false,.val .int],[.cl (.row 54 tSh .unk)],fun d=>[0<=d.2.1/\d.2.1<=100000],fun _=>((U.jCJ,()),())⟩
abbrev q126_0:=((0:Int)-(↑0:Int))
abbrev q126_1 (d:Unit×Int×Unit):=(List.replicate (d.2.1-q126_0).toNat ((0:Int),(0:Int),(0:Int),(0:Int),(0:Int),()))
def jg1:Prop:=∀(d:Unit×Int×Unit),0<=d.2.1/\d.2.1<=100000->(decide (d.2.1<0)=true->False)/\(decide (d.2.1<0)=false->jC q126_0/\jC (d.2.1-q126_0)/\(decide (0<d.2.1-q126_0)=true->(0:Int)<=0/\(0:Int)<=0/\(0:Int)<=0/\0<d.2.1-q126_0/\(d.2.1-q126_0).toNat*40<=140737488355328/\(0:Int)<=0/\(0:Int)<=(↑0:Int)/\(↑0:Int)<=(↑(q126_1 d).length:Int)/\(List.take ((↑0:Int).toNat-Int.toNat 0) (q126_1 d),())=(U.jCJ,())/\()=())/\(decide (0<d.2.1-q126_0)=false->([],())=(U.jCJ,())/\()=()))
def jeh:jR:=⟨[.val (.slice (.slice tSh))],[.slice tSh],false,fun d=>[d.1.length<=100,∀x∈d.1,x.length<=1000],fun d=>(U.flatS d.1 d.1.length,())⟩
def jfq:Ann:=fun r=>match r with
 |3=>some fun σ=>{X:=Nat,sl:=fun i=>[(11,.dat .int (i:Int)),(3,.dat .int (((U.flatS (gd (.slice (.slice tSh)) σ 0) i).length:Nat):Int))],ob:=fun _=>[],inv:=fun i=>i<=(gd (.slice (.slice tSh)) σ 0).length,mu:=fun i=>(gd (.slice (.slice tSh)) σ 0).length-i}
 |11=>some fun σ=>{X:=Nat,sl:=fun i=>[(27,.dat .int (i:Int)),(6,.own 6 tSh)],ob:=fun i=>[(6,some (.row 54 tSh false .unk (U.flatS (gd (.slice (.slice tSh)) σ 0) i)))],inv:=fun i=>i<=(gd (.slice (.slice tSh)) σ 0).length,mu:=fun i=>(gd (.slice (.slice tSh)) σ 0).length-i}
 |_=>none
abbrev q127_0 (d:List (List ShD)×Unit)(x:Nat):=(↑(U.flatS d.1 x).length:Int)
abbrev q127_1 (d:List (List ShD)×Unit)(x:Nat):=(↑(nth d.1 (x:Int).toNat).length:Int)
def jd3:Prop:=∀(d:List (List ShD)×Unit),d.1.length<=100->(∀(b:List ShD),b∈d.1->b.length<=1000)->d.1.length<4611686018427387904->(∃(x:Nat),((0=(x:Int)/\(0:Int)=(q127_0 d x)/\True)/\True)/\x<=d.1.length)/\∀(x:Nat),x<=d.1.length->(decide ((x:Int)<(d.1.length:Int))=true->0<=(x:Int)/\(x:Int)<(d.1.length:Int)/\((nth d.1 (x:Int).toNat).length<4611686018427387904->jC ((q127_0 d x)+(q127_1 d x))/\(decide ((q127_0 d x)+(q127_1 d x)<0)=true->False)/\(decide ((q127_0 d x)+(q127_1 d x)<0)=false->jC ((x:Int)+1)/\∃(a:Nat),(((x:Int)+1=(a:Int)/\(q127_0 d x)+(q127_1 d x)=(↑(U.flatS d.1 a).length:Int)/\True)/\True)/\a<=d.1.length/\d.1.length-a<d.1.length-x)))/\(decide ((x:Int)<(d.1.length:Int))=false->((0:Int)<=(q127_0 d x)/\(q127_0 d x)<=100000)/\(d.1.length<4611686018427387904->(∃(x:Nat),((0=(x:Int)/\True/\True)/\U.jCJ=U.flatS d.1 x/\True)/\x<=d.1.length)/\∀(x:Nat),x<=d.1.length->(decide ((x:Int)<(d.1.length:Int))=true->0<=(x:Int)/\(x:Int)<(d.1.length:Int)/\((U.flatS d.1 x).length+(nth d.1 (x:Int).toNat).length)*40<=140737488355328/\jC ((x:Int)+1)/\∃(a:Nat),(((x:Int)+1=(a:Int)/\True/\True)/\U.flatS d.1 x++nth d.1 (x:Int).toNat=U.flatS d.1 a/\True)/\a<=d.1.length/\d.1.length-a<d.1.length-x)/\(decide ((x:Int)<(d.1.length:Int))=false->(U.flatS d.1 x,())=(U.flatS d.1 d.1.length,()))))
def jtB:jR:=⟨[.val tDy,.val (.slice tSh)],[tDy,.int],false,fun d=>[(U.zv d.1).length<=100000,d.2.1.length<=100000],fun d=>(U.jat d.1 d.2.1,U.jsD d.1 d.2.1,())⟩
def juJ:Ann:=fun r=>match r with
 |4=>some fun σ=>{X:=Nat,sl:=fun i=>[(18,.dat .int (i:Int))],ob:=fun _=>[],inv:=fun i=>i<=2/\(0<i->U.jw (gb tDy σ 2)=0)/\(1<i->U.jw (U.jI (gb tDy σ 2) (gd (.slice tSh) σ 1))=0),mu:=fun i=>2-i}
 |_=>none
abbrev q128_0 (d:DyD×List ShD×Unit):=(U.flatS [d.1.2.2.2.2.2.1,d.2.1] [d.1.2.2.2.2.2.1,d.2.1].length)
abbrev q128_1 (d:DyD×List ShD×Unit):=(d.1.1,d.1.2.1,d.1.2.2.1,d.1.2.2.2.1,d.1.2.2.2.2.1,d.2)
abbrev q128_2 (d:DyD×List ShD×Unit):=(U.jat d.1 d.2.1,U.jsD d.1 d.2.1,())
abbrev q128_3 (d:DyD×List ShD×Unit)(x:Nat):=(nth [d.1,(q128_1 d)] (x:Int).toNat)
def jtj:Prop:=∀(d:DyD×List ShD×Unit),(U.zv d.1).length<=100000->d.2.1.length<=100000->[d.1,(q128_1 d)].length<4611686018427387904->(∃(x:Nat),((0=(x:Int)/\True)/\True)/\x<=2/\(0<x->U.jw d.1=0)/\(1<x->U.jw (U.jI d.1 d.2.1)=0))/\∀(x:Nat),x<=2/\(0<x->U.jw d.1=0)/\(1<x->U.jw (U.jI d.1 d.2.1)=0)->(decide ((x:Int)<(↑[d.1,(q128_1 d)].length:Int))=true->0<=(x:Int)/\(x:Int)<(↑[d.1,(q128_1 d)].length:Int)/\(U.zv (q128_3 d x)).length<=100000/\(decide (U.jw (q128_3 d x)≠0)=true->((((0:Int),[],[],()),[],[],(0:Int),(0:Int),[],()),U.jw (q128_3 d x),())=(q128_2 d))/\(decide (U.jw (q128_3 d x)≠0)=false->jC ((x:Int)+1)/\∃(a:Nat),(((x:Int)+1=(a:Int)/\True)/\True)/\(a<=2/\(0<a->U.jw d.1=0)/\(1<a->U.jw (U.jI d.1 d.2.1)=0))/\2-a<2-x))/\(decide ((x:Int)<(↑[d.1,(q128_1 d)].length:Int))=false->[d.1.2.2.2.2.2.1,d.2.1].length<=100/\(∀(b:List ShD),b∈[d.1.2.2.2.2.2.1,d.2.1]->b.length<=1000)/\(q128_0 d).length<=100000/\((U.jH (q128_0 d)).length<4611686018427387904->(decide ((30:Int)<(↑(U.jH (q128_0 d)).length:Int))=true->((((0:Int),[],[],()),[],[],(0:Int),(0:Int),[],()),(2:Int),())=(q128_2 d))/\(decide ((30:Int)<(↑(U.jH (q128_0 d)).length:Int))=false->(U.jH (q128_0 d)).length<=100000/\(U.jrI (U.jH (q128_0 d))=true->((((0:Int),[],[],()),[],[],(0:Int),(0:Int),[],()),(51:Int),())=(q128_2 d))/\(U.jrI (U.jH (q128_0 d))=false->U.ja8 d.1/\(U.jI d.1 (U.jH (q128_0 d)),(0:Int),())=(q128_2 d)))))
def jn3:jR:=⟨[.val tCr,.val .int],[.bool],false,fun d=>[U.jr d.1=true],fun d=>(U.jrc d.1 d.2.1,())⟩
abbrev q129_0 (d:CrD×Int×Unit):=(d.1.2.1.length:Int)
def jnF:Prop:=∀(d:CrD×Int×Unit),U.jr d.1=true->d.1.2.1.length<4611686018427387904->0<=(q129_0 d)/\(q129_0 d)<=18446744073709551615/\0<=(q129_0 d)/\(q129_0 d)<=64/\jC ((1:Int)*2^(q129_0 d).toNat)/\jC ((1:Int)*2^(q129_0 d).toNat-1)/\(U.ja d.2.1 (0:Int) ((1:Int)*2^(q129_0 d).toNat-1),())=(U.jrc d.1 d.2.1,())
end Go.X
namespace Go.X
open Go.Proofs
theorem jge:jd4:=by
 rintro⟨l,⟨⟩⟩ b c a;have b:l.length<=100000:=b;refine⟨fun h=> ?_,fun _=>⟨by simp only;omega,by simp⟩⟩;have:l=[]:=a h;rw[this]
theorem jeF:zh PR 82 jei:=jM jge Tryz.func82 kcN koN
theorem jjp:jg2:=by
 rintro⟨l,⟨⟩⟩ b c a;have b:l.length<=100000:=b;refine⟨fun h=> ?_,fun _=>⟨by simp only;omega,by simp⟩⟩;have:l=[]:=a h;rw[this]
theorem jht:zh PR 116 jhb:=jM jjp Tryz.func116 kcN koN
theorem je2:jcX:=by
 rintro⟨l,⟨⟩⟩ b c a;have b:l.length<=100000:=b;refine⟨fun h=> ?_,fun _=>⟨by simp only;omega,by simp⟩⟩;have:l=[]:=a h;rw[this]
theorem jdn:zh PR 113 jc6:=jM je2 Tryz.func113 kcN koN
theorem jkw:jia:=by
 rintro⟨l,⟨⟩⟩ b c a;have b:l.length<=100000:=b;refine⟨fun h=> ?_,fun _=>⟨by simp only;omega,by simp⟩⟩;have:l=[]:=a h;rw[this]
theorem jiO:zh PR 114 jip:=jM jkw Tryz.func114 kcN koN
theorem jgg:jd6:=by
 rintro⟨l,⟨⟩⟩ b c a;have b:l.length<=100000:=b;refine⟨fun h=>⟨?_,rfl⟩,fun _=>⟨by simp only;omega,by simp,rfl⟩⟩;have:l=[]:=a h;rw[this]
theorem jeH:wD PR 115 jep:=jgK jgg Tryz.func115 kcN koN
theorem joc {α:Type} [Inhabited α] (l:List α) (i:Nat):l.set i (nth l i)=l:=by
 by_cases h:i<l.length
 .refine L.ext_nth (by simp) fun j a=> ?_
  rw[L.nth_set h]
  split
  .rename_i e;rw[e]
  .rfl
 .exact List.set_eq_of_length_le (by omega)
theorem jrr:jnA:=by
 unfold jnA q125_0 q125_2 q125_1;rintro⟨d,m,⟨⟩⟩ j;obtain⟨⟨q,s,c⟩,r,o,k,f⟩:U.ja8 d:=j;refine⟨by show(U.jp d).length<=100000;omega,by show(U.kz (U.jf d)).length<=100000;omega,by show(U.jh (U.jf d)).length<=100000;omega,fun _=>⟨⟨0,⟨⟨rfl,trivial⟩,rfl,trivial⟩,jDU _⟩,fun x t=>⟨fun h=> ?_,fun h=> ?_⟩⟩⟩
 .have h:(x:Int)<((U.jh (U.jf d)).length:Int):=of_decide_eq_true h;have b:=c _ (L.mem_nth (l:=U.jh (U.jf d)) (i:=x) (by omega));have x0:(0:Int)<=(x:Int):=jD9 x;have e:=joc (U.jh (U.jf d)) x;simp only[jDN];refine⟨x0,h,by have:=b.1;unfold U.lv at this;omega,by have:=b.2;unfold U.zn at this;omega,x0,h,x0,by rw[e];exact h,L.in64 (by omega) (by omega),x+1,⟨⟨by simp,trivial⟩,?_,trivial⟩,by omega,by omega⟩;rw[e];exact e
 .refine fun _=>⟨⟨0,⟨⟨rfl,trivial⟩,⟨rfl,trivial,rfl,trivial,rfl,rfl,rfl,rfl,trivial⟩,rfl,trivial⟩,jDU _⟩,fun y u=>⟨fun a=> ?_,fun a=> ?_⟩⟩
  .have a:(y:Int)<((U.jz d).length:Int):=of_decide_eq_true a;have g:=f _ (L.mem_nth (l:=U.jz d) (i:=y) (by omega));have n:(0:Int)<=(y:Int):=jD9 y;have p:(List.take y (U.jz d)).length=y:=(by rw[jEa];omega);refine⟨n,a,?_,?_,L.in64 (by omega) (by omega),y+1,⟨⟨by simp,trivial⟩,⟨rfl,trivial,rfl,trivial,rfl,rfl,rfl,rfl,trivial⟩,?_,trivial⟩,by show y+1<=(U.jz d).length;omega,by show(U.jz d).length-(y+1)<(U.jz d).length-y;omega⟩
   .show(nth (U.jz d) (y:Int).toNat).length<=100000;rw[jDN];omega
   .show((List.take y (U.jz d)).length+1)*24<=140737488355328;omega
   .show List.take y (U.jz d)++[nth (U.jz d) (y:Int).toNat]=_;rw[jDN,L.take_succ (l:=U.jz d) (by omega)]
  .have a:¬(y:Int)<((U.jz d).length:Int):=of_decide_eq_false a;have e:List.take y (U.jz d)=U.jz d:=jEx (by omega);rw[e];rfl
theorem joH:zh PR 72 jnZ:=wt jpH jrr Tryz.func72 (kcC jdn (kcC jiO (kcC jeF (kcC jht kcN)))) (koC jeH koN)
theorem jjo:jg1:=by
 unfold jg1 q126_1 q126_0;rintro⟨⟨⟩,n,⟨⟩⟩ ⟨a,b⟩;have a:0<=n:=a;have b:n<=100000:=b;refine⟨fun h=> ?_,fun _=>⟨L.in64 (by simp) (by simp),L.in64 (by simp only;omega) (by simp only;omega),fun h=> ?_,fun _=>⟨rfl,rfl⟩⟩⟩
 .have h:n<0:=of_decide_eq_true h;omega
 .have h:0<n-(0-((0:Nat):Int)):=of_decide_eq_true h;refine⟨jEB _,jEB _,jEB _,h,?_,jEB _,jEB _,by rw[jEG];exact jD9 _,?_,rfl⟩
  .show(n-(0-((0:Nat):Int))).toNat*40<=_;omega
  .show(List.take 0 _,())=(U.jCJ,());rw[List.take_zero];rfl
theorem jhs:wD PR 112 jhi:=jgK jjo Tryz.func112 kcN koN
theorem jgn {l:List (List ShD)} {i:Nat} (h:i<l.length):U.flatS l (i+1)=U.flatS l i++nth l i:=by
 unfold U.flatS;rw[L.take_succ h,List.flatten_append];simp
theorem je7 {l:List (List ShD)} (a:∀x∈l,x.length<=1000):∀i,i<=l.length->(U.flatS l i).length<=1000*i
 |0,_=>by unfold U.flatS;simp
 |i+1,hi=>by
  have:=je7 a i (by omega)
  have:=a _ (L.mem_nth (l:=l) (i:=i) (by omega))
  rw[jgn (by omega),jD0]
  omega
theorem jgd:jd3:=by
 unfold jd3 q127_1 q127_0;rintro⟨l,⟨⟩⟩ f c _;have f:l.length<=100:=f;have c:∀x∈l,x.length<=1000:=c;refine⟨⟨0,⟨⟨rfl,rfl,trivial⟩,trivial⟩,jDU _⟩,fun x a=>⟨fun h=> ?_,fun h=> ?_⟩⟩
 .have a:x<=l.length:=a;have h:(x:Int)<(l.length:Int):=of_decide_eq_true h;have x0:(0:Int)<=(x:Int):=jD9 x;have j:=c _ (L.mem_nth (l:=l) (i:=x) (by omega));have g:=je7 c x (by omega);simp only[jDN];refine⟨x0,h,fun _=>⟨L.in64 (by omega) (by omega),fun b=> ?_,fun _=>⟨L.in64 (by omega) (by omega),x+1,⟨⟨by simp,?_,trivial⟩,trivial⟩,by omega,by omega⟩⟩⟩
  .have b:=of_decide_eq_true b;omega
  .rw[jgn (by omega),jD0];omega
 .have a:x<=l.length:=a;have g:=je7 c x a;refine⟨⟨jD9 _,by show((U.flatS l x).length:Int)<=100000;omega⟩,fun _=>⟨⟨0,⟨⟨rfl,trivial,trivial⟩,rfl,trivial⟩,jDU _⟩,fun y d=>⟨fun b=> ?_,fun b=> ?_⟩⟩⟩
  .have d:y<=l.length:=d;have b:(y:Int)<(l.length:Int):=of_decide_eq_true b;have k:(0:Int)<=(y:Int):=jD9 y;have j:=c _ (L.mem_nth (l:=l) (i:=y) (by omega));have m:=je7 c y (by omega);simp only[jDN];refine⟨k,b,by omega,L.in64 (by omega) (by omega),y+1,⟨⟨by simp,trivial,trivial⟩,(jgn (by omega)).symm,trivial⟩,by omega,by omega⟩
  .have d:y<=l.length:=d;have b:¬(y:Int)<(l.length:Int):=of_decide_eq_false b;have e:y=l.length:=(by omega);subst e;rfl
theorem jeE:zh PR 71 jeh:=wt jfq jgd Tryz.func71 kcN (koC jhs koN)
theorem jyo {d:DyD} (h:U.joP d):U.ja8 d:=by
 have b:=jG h.1;have a:=j6 h.2.2;refine⟨⟨by have:=b.2.2.1;omega,by have:=b.2.2.2.1;omega,fun p e=> ?_⟩,by have:=a.2.1.2;omega,by have:=a.1;omega,by have:=a.2.2.2.2.1;omega,fun r f=> ?_⟩
 .have:=b.2.2.2.2.1 p e;unfold U.yn at this;rw[jDK] at this;have c:=of_decide_eq_true this.1;have:=b.2.1;exact⟨by omega,by omega⟩
 .have:=a.2.2.2.2.2.1 r f;unfold U.qv at this;rw[jDK] at this;have c:=of_decide_eq_true this.1;have:=a.2.1.2;omega
theorem job {d:DyD} (h:U.jw d=0):(U.zv d).length<=30:=(j6 (zm h).1.2.2).2.2.2.2.1
theorem jwR:jtj:=by
 unfold jtj q128_3 q128_2 q128_1 q128_0;rintro⟨d,m,⟨⟩⟩ l r _;have l:(U.zv d).length<=100000:=l;have r:m.length<=100000:=r;have v:∀x:Nat,x<2->nth [d,U.jI d m] x=if x=0 then d else U.jI d m:=fun x q=>by
  match x,q with
  |0,_=>rfl
  |1,_=>rfl
 refine⟨⟨0,⟨⟨rfl,trivial⟩,trivial⟩,by omega,fun h=>by omega,fun h=>by omega⟩,fun x q=>⟨fun h=> ?_,fun h=> ?_⟩⟩
 .have h:(x:Int)<2:=of_decide_eq_true h;have x0:(0:Int)<=(x:Int):=jD9 x;obtain⟨t,b,f⟩:=q;have b:0<x->U.jw d=0:=b;have f:1<x->U.jw (U.jI d m)=0:=f;rw[jDN];have o:=v x (by omega);refine⟨x0,h,?_,fun a=> ?_,fun a=>⟨L.in64 (by omega) (by omega),x+1,⟨⟨by simp,trivial⟩,trivial⟩,⟨by omega,fun _=> ?_,fun p=> ?_⟩,by omega⟩⟩
  .show(U.zv (nth [d,U.jI d m] x)).length<=100000;rw[o]
   split
   .exact l
   .exact r
  .have a:U.jw (nth [d,U.jI d m] x)≠0:=of_decide_eq_true a;show(U.jwa,U.jw (nth [d,U.jI d m] x),())=(U.jat d m,U.jsD d m,());rw[o] at a⊢;have e:U.jsD d m=U.jw (if x=0 then d else U.jI d m):=by
    unfold U.jsD;by_cases g:x=0
    .rw[if_pos g] at a⊢;rw[if_pos a]
    .rw[if_neg g] at a⊢;rw[if_neg (fun k=>k (b (by omega))),if_pos a]
   have i:U.jat d m=U.jwa:=by
    unfold U.jat;rw[if_neg (by rw[e];exact a)]
   rw[e,i]
  .by_cases g:x=0
   .have a:¬U.jw (nth [d,U.jI d m] x)≠0:=of_decide_eq_false a;rw[o,if_pos g] at a;exact Decidable.not_not.1 a
   .exact b (by omega)
  .have a:¬U.jw (nth [d,U.jI d m] x)≠0:=of_decide_eq_false a;rw[o,if_neg (by omega)] at a;exact Decidable.not_not.1 a
 .have h:¬(x:Int)<2:=of_decide_eq_false h;obtain⟨t,b,f⟩:=q;have c1:U.jw d=0:=b (by omega);have c2:U.jw (U.jI d m)=0:=f (by omega);have z:=job c1;have A:m.length<=30:=job c2;have w:U.flatS [d.2.2.2.2.2.1,m] [d.2.2.2.2.2.1,m].length=U.zv d++m:=jyV (U.zv d) m;have u:U.jB5 d m=U.jH (U.zv d++m):=congrArg U.jH (jyV (U.zv d) m);have j:(U.jH (U.zv d++m)).length<=(U.zv d++m).length:=L.nodup_len _ _ (jfe _) fun s l=>jad.1 l
  rw[jD0] at j;have c:U.jsD d m=if 30<(U.jB5 d m).length then 2 else if U.jrI (U.jB5 d m)=true then 51 else 0:=by
   unfold U.jsD;rw[if_neg (fun k=>k c1),if_neg (fun k=>k c2)]
  rw[w];rw[u] at c;refine⟨by show(2:Nat)<=100;omega,fun y n=> ?_,by rw[jD0];omega,fun _=>⟨fun a=> ?_,fun a=>⟨by omega,fun p=> ?_,fun p=>⟨jyo (zm c1).1,?_⟩⟩⟩⟩
  .rcases jDH.1 n with rfl|n
   .show(U.zv d).length<=1000;omega
   .rcases jDH.1 n with rfl|n
    .omega
    .cases n
  .have a:(30:Int)<((U.jH (U.zv d++m)).length:Int):=of_decide_eq_true a;rw[if_pos (by omega)] at c;have i:U.jat d m=U.jwa:=by
    unfold U.jat;rw[if_neg (by rw[c];omega)]
   rw[c,i];rfl
  .have a:¬(30:Int)<((U.jH (U.zv d++m)).length:Int):=of_decide_eq_false a;rw[if_neg (by omega),if_pos p] at c;have i:U.jat d m=U.jwa:=by
    unfold U.jat;rw[if_neg (by rw[c];omega)]
   rw[c,i];rfl
  .have a:¬(30:Int)<((U.jH (U.zv d++m)).length:Int):=of_decide_eq_false a;rw[if_neg (by omega),if_neg (by rw[p];simp)] at c;have i:U.jat d m=U.jI d (U.jH (U.zv d++m)):=by
    unfold U.jat;rw[if_pos c,u]
   rw[c,i]
theorem jtR:zh PR 31 jtB:=wt juJ jwR Tryz.func31 (kcC jk7 (kcC jeE (kcC jk5 (kcC joH kcN)))) (koC gQ koN)
theorem jrw:jnF:=by
 unfold jnF q129_0;rintro⟨c,t,⟨⟩⟩ d _;have b:(U.jh c).length<=8:=(jG d).2.2.1;have a:(2:Int)^(U.jh c).length=((2^(U.jh c).length:Nat):Int):=(by rw[BT.two_nat]);have f:2^(U.jh c).length<=2^8:=Nat.pow_le_pow_right (by omega) b;have e:(2:Int)^(((U.jh c).length:Nat):Int).toNat=((2^(U.jh c).length:Nat):Int):=(by rw[jDN];exact a);have g:0<2^(U.jh c).length:=Nat.pow_pos (by omega);refine⟨jD9 _,by show((U.jh c).length:Int)<=_;omega,jD9 _,by show((U.jh c).length:Int)<=_;omega,?_,?_,?_⟩
 .show jC (1*(2:Int)^(((U.jh c).length:Nat):Int).toNat);rw[e];exact L.in64 (by omega) (by omega)
 .show jC (1*(2:Int)^(((U.jh c).length:Nat):Int).toNat-1);rw[e];exact L.in64 (by omega) (by omega)
 .show(U.ja t 0 (1*(2:Int)^(((U.jh c).length:Nat):Int).toNat-1),())=(U.jrc c t,());unfold U.jrc;rw[e,a,Int.one_mul]
theorem joK:zh PR 35 jn3:=jM jrw Tryz.func35 (kcC jbp kcN) koN
end Go.X
namespace Go.X
open Go.Proofs
instance (a b:BkD):Decidable (a=b):=tBk.decEq a b
def jfG:jR:=jwu [tDy,.slice tSh]
def jgs:Ann:=fun r=>match r with
 |10=>some fun σ=>{X:=Nat,sl:=fun b=>[(9,.dat .int (b:Int))],ob:=fun _=>[],inv:=fun b=>b<=(U.jp (gb tDy σ 2)).length,mu:=fun b=>(U.jp (gb tDy σ 2)).length-b}
 |15=>some fun σ=>{X:=Nat,sl:=fun p=>[(10,.dat .int (p:Int))],ob:=fun _=>[],inv:=fun p=>p<=(U.jh (U.jf (gb tDy σ 2))).length,mu:=fun p=>(U.jh (U.jf (gb tDy σ 2))).length-p}
 |_=>none
abbrev q130_0 (d:DyD×List ShD×Unit)(x:Nat):=(nth (U.wZ (U.jat d.1 d.2.1)) (x:Int).toNat)
abbrev q130_2 (d:DyD×List ShD×Unit):=(↑(U.wZ (U.jat d.1 d.2.1)).length:Int)
abbrev q130_3 (d:DyD×List ShD×Unit):=(U.wy d.1||decide (20<(d.1.2.2.2.2.2.1.length:Int)+(d.2.1.length:Int))||decide (U.v8 d.1≠0))
abbrev q130_4:=(Ty.int.pair (Ty.int.pair Ty.unit))
abbrev q130_1:=(Ty.int.pair (Ty.int.pair (Ty.int.pair q130_4)))
abbrev q130_5 (d:DyD×List ShD×Unit):=(decide (U.jw (U.jat d.1 d.2.1)≠0)||decide ((q130_2 d)≠(d.1.2.2.1.length:Int)))
def jfy:Prop:=∀(d:DyD×List ShD×Unit),jmY 1048576 [(Ty.int.pair ((Ty.int.slice.pair (Ty.int.pair (Ty.int.pair (Ty.int.slice.pair (Ty.bool.pair (Ty.int.pair Ty.unit)))))).slice.pair ((Ty.int.pair (Ty.int.pair (Ty.bool.pair Ty.unit))).slice.pair Ty.unit))).pair (q130_4.slice.slice.pair (((Ty.int.pair q130_1).pair (Ty.int.pair q130_4)).slice.pair (Ty.int.pair (Ty.int.pair (q130_1.slice.pair Ty.unit))))),q130_1.slice] d->((!U.wy d.1)=true->d.1.2.2.2.2.2.1.length<4611686018427387904)->((!U.wy d.1)=true->d.2.1.length<4611686018427387904)->((!U.wy d.1)=true->jC ((d.1.2.2.2.2.2.1.length:Int)+(d.2.1.length:Int)))/\((!(U.wy d.1||decide (20<(d.1.2.2.2.2.2.1.length:Int)+(d.2.1.length:Int))))=true->(U.jp d.1).length<=1000000)/\((q130_3 d)=true->(true,())=(true,()))/\((q130_3 d)=false->(U.zv d.1).length<=100000/\d.2.1.length<=100000/\(decide (U.jsD d.1 d.2.1≠0)=true->(true,())=(true,()))/\(decide (U.jsD d.1 d.2.1≠0)=false->(U.zv (U.jat d.1 d.2.1)).length<=100000/\(((!decide (U.jw (U.jat d.1 d.2.1)≠0))=true->(U.wZ (U.jat d.1 d.2.1)).length<4611686018427387904)->((!decide (U.jw (U.jat d.1 d.2.1)≠0))=true->d.1.2.2.1.length<4611686018427387904)->((q130_5 d)=true->(false,())=(true,()))/\((q130_5 d)=false->(∃(x:Nat),((0=(x:Int)/\True)/\True)/\x<=(U.jp d.1).length)/\∀(x:Nat),x<=(U.jp d.1).length->(U.wZ (U.jat d.1 d.2.1)).length<4611686018427387904->(decide ((x:Int)<(q130_2 d))=true->0<=(x:Int)/\(x:Int)<(q130_2 d)/\U.jr d.1.1=true/\((!U.jrc d.1.1 (q130_0 d x))=true->(false,())=(true,()))/\((!U.jrc d.1.1 (q130_0 d x))=false->(∃(x:Nat),((0=(x:Int)/\True)/\True)/\x<=(U.jh (U.jf d.1)).length)/\∀(a:Nat),a<=(U.jh (U.jf d.1)).length->d.1.1.2.1.length<4611686018427387904->(decide ((a:Int)<(d.1.1.2.1.length:Int))=true->0<=(x:Int)/\(x:Int)<(q130_2 d)/\(0<=(a:Int)/\(a:Int)<=63)/\(U.qB (q130_0 d x) (a:Int)=true->0<=(x:Int))/\(U.qB (q130_0 d x) (a:Int)=true->(x:Int)<(d.1.2.2.1.length:Int))/\(U.qB (q130_0 d x) (a:Int)=true->0<=(a:Int)/\(a:Int)<(↑(U.jh d.1.1).length:Int))/\(U.qB (q130_0 d x) (a:Int)=true->U.j7 d.1.1 (nth d.1.2.2.1 (x:Int).toNat).1=true)/\((U.qB (q130_0 d x) (a:Int)&& !U.ky d.1.1 (nth d.1.2.2.1 (x:Int).toNat).1 (a:Int))=true->(false,())=(true,()))/\((U.qB (q130_0 d x) (a:Int)&& !U.ky d.1.1 (nth d.1.2.2.1 (x:Int).toNat).1 (a:Int))=false->jC ((a:Int)+1)/\∃(b:Nat),(((a:Int)+1=(b:Int)/\True)/\True)/\b<=(U.jh (U.jf d.1)).length/\(U.jh (U.jf d.1)).length-b<(U.jh (U.jf d.1)).length-a))/\(decide ((a:Int)<(d.1.1.2.1.length:Int))=false->jC ((x:Int)+1)/\∃(b:Nat),(((x:Int)+1=(b:Int)/\True)/\True)/\b<=(U.jp d.1).length/\(U.jp d.1).length-b<(U.jp d.1).length-x)))/\(decide ((x:Int)<(q130_2 d))=false->(true,())=(true,()))))))
end Go.X
namespace Go.X
open Go.Proofs
theorem jBY {α:Type} [DecidableEq α] {a b:α} (h:decide (a≠b)=false):a=b:=Decidable.not_not.1 (of_decide_eq_false h)
end Go.X


namespace Go.X
open Go.Proofs
theorem jC8 {d:DyD} {l:List ShD}:U.zv (U.jI d l)=l:=rfl
theorem jhz:jfy:=by
 unfold jfy q130_5 q130_1 q130_4 q130_3 q130_2 q130_0;rintro⟨d,m,⟨⟩⟩ _ G H;have F:(!U.wy d)=true->U.ja8 d:=fun h=>jf4 (by rw[jEd] at h;exact h)
 refine⟨fun h=> ?_,fun h=> ?_,fun _=>rfl,fun h=> ?_⟩
 .have I:(U.zv d).length<4611686018427387904:=G h;have J:m.length<4611686018427387904:=H h;exact L.in64 (by show _<=((U.zv d).length:Int)+(m.length:Int);omega) (by show((U.zv d).length:Int)+(m.length:Int)<=_;omega)
 .have h:(!(U.wy d||decide ((20:Int)<((U.zv d).length:Int)+(m.length:Int))))=true:=h;rw[jEd,jD7] at h;have:=(jf4 h.1).2.2.1;show(U.jp d).length<=1000000;omega
 .have h:(U.wy d||decide ((20:Int)<((U.zv d).length:Int)+(m.length:Int))||decide (U.v8 d≠0))=false:=h;rw[jD7,jD7] at h;obtain⟨⟨E,i⟩,n⟩:=h;have a:=jf4 E;have i:=of_decide_eq_false i;have n:U.v8 d=0:=jBY n;have f:=(jm8.1 n).1;refine⟨by show(U.zv d).length<=100000;omega,by show m.length<=100000;omega,fun _=>rfl,fun r=> ?_⟩;have r:U.jsD d m=0:=jBY r;have j:U.jBF d m=0:=(jzN d m).symm.trans r;have B:U.jat d m=U.jI d (U.jlf d m):=(by rw[jB3];unfold U.jDp;rw[if_pos j]);obtain⟨_,c2,z,A⟩:=joW j;have N:=jrf n c2;have l:U.v8 (U.jI d (U.jlf d m))=0:=by
   refine jzc f z (fun s a=> ?_) ((gm _).1 A);have a:=qj a;rcases jDP.1 a with a|a
   .exact(j6 f.2.2).2.2.2.2.2.2.2 s a
   .exact(j6 (jm8.1 c2).1.2.2).2.2.2.2.2.2.2 s a
  show(U.zv (U.jat d m)).length<=100000/\_;rw[B];have v:U.jw (U.jI d (U.jlf d m))=0:=(jay _).trans l;have w:U.wZ (U.jI d (U.jlf d m))=(U.jgz (U.jI d (U.jlf d m))).1:=(by rw[ju4,if_pos l]);have u:=jfR v;have t:(U.jgz (U.jI d (U.jlf d m))).1.length=(U.jp d).length:=u.len;have D:(U.jp d).length<=4:=(j6 f.2.2).1;have K:(U.jh (U.jf d)).length<=8:=(jG f.1).2.2.1;refine⟨by rw[jC8];omega,fun _ _=>⟨fun k=> ?_,fun _=>⟨⟨0,⟨⟨rfl,trivial⟩,trivial⟩,jDU _⟩,fun x O _=>⟨fun g=> ?_,fun _=>rfl⟩⟩⟩⟩
  .rw[w,t,v] at k;have k:(decide ((0:Int)≠0)||decide (((U.jp d).length:Int)≠((U.jp d).length:Int)))=true:=k;simp at k
  .rw[w] at g⊢;have g:(x:Int)<((U.jgz (U.jI d (U.jlf d m))).1.length:Int):=of_decide_eq_true g;have x0:(0:Int)<=(x:Int):=jD9 x;have c:x<(U.jp d).length:=(by omega);have o:=jBN l (b:=x) c;have o:0<=nth (U.jgz (U.jI d (U.jlf d m))).1 x/\nth (U.jgz (U.jI d (U.jlf d m))).1 x<2^(U.jh (U.jf d)).length:=o;simp only[jDN];refine⟨x0,g,f.1,fun k=> ?_,fun _=>⟨⟨0,⟨⟨rfl,trivial⟩,trivial⟩,jDU _⟩,fun p M _=>⟨fun q=> ?_,fun _=>⟨L.in64 (by omega) (by omega),x+1,⟨⟨by simp,trivial⟩,trivial⟩,by show x+1<=(U.jp d).length;omega,by show(U.jp d).length-(x+1)<(U.jp d).length-x;omega⟩⟩⟩⟩
   .have k:(!U.jrc (U.jf d) (nth (U.jgz (U.jI d (U.jlf d m))).1 x))=true:=k;have e:U.jrc (U.jf d) (nth (U.jgz (U.jI d (U.jlf d m))).1 x)=true:=by
     have C:nth (U.jgz (U.jI d (U.jlf d m))).1 x<=2^(U.jh (U.jf d)).length-1:=(by have:=o.2;omega);show(decide (0<=nth (U.jgz (U.jI d (U.jlf d m))).1 x)&&decide (nth (U.jgz (U.jI d (U.jlf d m))).1 x<=2^(U.jh (U.jf d)).length-1))=true;rw[decide_eq_true o.1,decide_eq_true C];rfl
    rw[e] at k;cases k
   .have q:(p:Int)<((U.jh (U.jf d)).length:Int):=of_decide_eq_true q;have y:(0:Int)<=(p:Int):=jD9 p;refine⟨x0,g,⟨y,by omega⟩,fun _=>x0,fun _=>by show(x:Int)<((U.jp d).length:Int);omega,fun _=>⟨y,q⟩,fun _=>jzP f c,fun k=> ?_,fun _=>⟨L.in64 (by omega) (by omega),p+1,⟨⟨by simp,trivial⟩,trivial⟩,by show p+1<=(U.jh (U.jf d)).length;omega,by show(U.jh (U.jf d)).length-(p+1)<(U.jh (U.jf d)).length-p;omega⟩⟩;have k:(U.qB (nth (U.jgz (U.jI d (U.jlf d m))).1 x) (p:Int)&& !U.ky (U.jf d) (U.jcJ (nth (U.jp d) x)) (p:Int))=true:=k;rw[jDK] at k;have:=jnL l (b:=x) c (p:=p) (show p<(U.jh (U.jf d)).length by omega) k.1;have this:U.ky (U.jf d) (U.jcJ (nth (U.jp d) x)) (p:Int)=true:=this;rw[this] at k;exact absurd k.2 (by simp)
theorem jtO:zh PR 8 jfG:=wt jgs jhz Tryz.func8 (kcC jtN (kcC jq3 (kcC jqY (kcC jtR (kcC jk6 (kcC joK (kcC joL (kcC jmv kcN)))))))) koN
end Go.X
namespace Go.X
open Go.Proofs Go.Proofs.YtnkahkkofmoipaaGreatDoor
noncomputable def jyF:Array Field:=match Tryz.prog.underlying 60 with|some (.struct fs)=>fs|_=> #[]
theorem jCk:Tryz.prog.globalNamed "handshape/rosters.some"=some 0:=by kernel_rfl
theorem jCj:(Tryz.prog.globals[0]?).map (·.type)=some 60:=by kernel_rfl
theorem jDy:Tryz.prog.underlying 60=some (.struct jyF):=by kernel_rfl
theorem jDz:Tryz.prog.underlying 3=some (.int .i64):=by kernel_rfl
theorem jDA:Tryz.prog.cellsOf 3=1:=by kernel_rfl
noncomputable def yp (i:Nat):Bool:=match jyF[i]? with|some f=>Nat.beq f.type 3&&Nat.beq f.offset i|none=>false
theorem fields:(yp 0&&yp 1&&yp 2&&yp 3&&yp 4&&yp 5)=true:=by kernel_rfl
theorem jyX {i:Nat} (h:yp i=true):∃f,jyF[i]? =some f/\f.type=3/\f.offset=i:=by
 unfold yp at h
 split at h
 .rename_i f a;rw[jDK] at h;exact⟨f,a,jDE h.1,jDE h.2⟩
 .cases h
theorem jyE {H:Type} {enc:TypeId×Value->H} {w:World} {base:Nat} {sp:Nat->Bool} {a:Bool} {n:Nat} {cs:List Value} {xs:List (DataW H×List MemPlace)} {d:List Int} (o:xs.map (·.1)=d.map fun z=>(DataW.lit (.int .i64 z):DataW H))
 (k:∀(i:Nat) (f:Field),jyF[i]? =some f->DataW.trod enc Tryz.prog w base sp a n f.type ((cs.drop f.offset).take (Tryz.prog.cellsOf f.type))=xs[i]?) {i:Nat} {z:Int} (hi:yp i=true) (q:d[i]? =some z):cs[i]? =some (.int .i64 z):=by
 obtain⟨f,g,h,j⟩:=jyX hi;have b:=k i f g;rw[h,j,jDA] at b;have c:(xs.map (·.1))[i]? =some (DataW.lit (.int .i64 z):DataW H):=(by rw[o,jES,q];rfl);rw[jES] at c;obtain⟨y,p,e⟩:=jE4.1 c;rw[p] at b;obtain⟨m,l,rfl,_⟩:=DataW.trod_int jDz b;have e:m=z:=by
  have e:(DataW.lit (.int .i64 m):DataW H)=DataW.lit (.int .i64 z):=e;simpa only[DataW.lit.injEq,Lit.int.injEq,true_and] using e
 subst e;have:=congrArg (·[0]?) l;simpa[jEP,jEh] using this
theorem jC4 {W:World} (h:laidMet Tryz.prog [("handshape/rosters.some",Rows.laid_handshape_rosters_some)] W):jBz (Hof W):=by
 obtain⟨ps,⟨H,E,cs,k,p,q,d,f,a,A,_,_⟩,_⟩:=h;obtain rfl:=Option.some.inj (jCk.symm.trans d);obtain rfl:=Option.some.inj (jCj.symm.trans f);obtain⟨xs,n,_,C,I,l,B⟩:=DataW.trod_struct jDy A;have j:xs.map (·.1)=[0,1,0,0,0,1].map fun z=>(DataW.lit (.int .i64 z):DataW Unit):=by
  have e:=congrArg Prod.fst C;have e:(DataW.agg [.lit (.int .i64 0),.lit (.int .i64 1),.lit (.int .i64 0),.lit (.int .i64 0),.lit (.int .i64 0),.lit (.int .i64 1)]:DataW Unit)= .agg (xs.map (·.1)):=e;simp only[DataW.agg.injEq] at e;exact e.symm
 have fs:=fields;simp only[jDK] at fs;obtain⟨⟨⟨⟨⟨o,r⟩,s⟩,u⟩,v⟩,w⟩:=fs;have c:∀{i:Nat} {z:Int},yp i=true->([0,1,0,0,0,1]:List Int)[i]? =some z->cs[i]? =some (.int .i64 z):=fun hi D=>by
  have:=jyE j B hi D;simpa using this
 unfold World.var? at a;rw[jCk] at a;intro g x b;have b:jt [(0,(⟨.st [.int,.int,.int,.int,.int,.int],((0:Int),(1:Int),(0:Int),(0:Int),(0:Int),(1:Int),())⟩:(t:Ty)×t.Data))] g=some x:=b;have y:Hof W 0=some (.cells cs):=by
  unfold Hof;simp only[Option.bind_some] at a
  split at a
  .rename_i F E G e;rw[e];have:=Option.some.inj a;rw[this]
  .cases a
 have m:=zb _ _ _ b;simp only[List.mem_singleton,Prod.mk.injEq] at m;obtain⟨rfl,rfl⟩:=m;exact⟨cs,y,c o rfl,c r rfl,c s rfl,c u rfl,c v rfl,c w rfl,trivial⟩
end Go.X
