/-
  Part 6 of the road: a checked reading of bodies, and what the functions on it do (X25 X26 C5 PC15 VD VM VB V1 PV1 VE0 VE1 VE2 V3 PV3 O7 V5 PV5 V6 PV6 VBO DQ MQ LQ AQ NQ VQ1 PQ1 PR1 VQ2 PQ2 PQ3 V4 PV4 V7 PV7 V8S V8 PV8 V9 PV9 VW1 PW1 PW4 VW2 PW2 VW3 PW3 LW).
-/
import Derived.Test.YtacjhnpgiklpdaaGreatDoorK05
import Derived.Test.YtacjhnpgiklpdaaGreatDoorRows
import Derived.WalkKit
import Derived.ProofKit
import Derived.OpenShut
import Derived.JoinedCond
import Derived.Carry
import Derived.ChangeArms
import Derived.Shelf.SlSortCmp.WholeK
import Derived.Test.YtacjhnpgiklpdaaGreatDoorProg
import Derived.Test.YtacjhnpgiklpdaaGreatDoorCards
import Derived.Test.YtacjhnpgiklpdaaGreatDoorTie
import Derived.Deep.DeepHandedRow
import Derived.Lib.LaidTab
namespace Go.X
open U
open Go.RowKit (Below)
open Go.Proofs.YtacjhnpgiklpdaaGreatDoor
def Hof (w:World):Imm:=fun b=>match w.heap[b]? with|some (.cells c _ _)=>some (.cells c)|_=>none
theorem V8 (w:World) (d:XL (Hof w)):ew (Hof w) w:=by
 refine⟨fun b c h=> ?_,d⟩;unfold Hof at h
 split at h
 rename_i f T a e;simp at h;subst h;exact⟨T,a,e⟩;cases h
def Ty.fits (N:Nat):(t:Ty)->t.Data->Prop
 | .int,x=>wq x
 | .bool,_=>True
 | .uint k,x=>k.min<=x/\x<=k.max
 | .slice t,l=>l.length<=N/\∀x∈l,t.fits N x
 | .unit,_=>True
 | .pair a b,d=>a.fits N d.1/\b.fits N d.2
 | .map k v,l=>l.length<=N/\∀x∈l,k.fits N x.1/\v.fits N x.2
 | .ptr t,d=>∀x,d=some x->t.fits N x
theorem Ty.fits_mono {N M:Nat} (h:N<=M):∀(t:Ty) (d:t.Data),t.fits N d->t.fits M d
 | .int,_,k=>k
 | .bool,_,k=>k
 | .uint _,_,k=>k
 | .unit,_,k=>k
 | .slice t,_,k=>⟨jD k.1 h,fun x c=>t.fits_mono h x (k.2 x c)⟩
 | .pair a b,_,k=>⟨a.fits_mono h _ k.1,b.fits_mono h _ k.2⟩
 | .map k v,_,q=>⟨jD q.1 h,fun x c=>⟨k.fits_mono h _ (q.2 x c).1,v.fits_mono h _ (q.2 x c).2⟩⟩
 | .ptr t,_,k=>fun x c=>t.fits_mono h x (k x c)
def jaf (P:Program) (go:Nat->Ty->Bool):List Field->Nat->Ty->Bool
 |[],_,.unit=>true
 |f::fs,off,.pair a b=>Nat.beq f.offset off&&Nat.beq (P.cellsOf f.type) a.size&&go f.type a&&jaf P go fs (off+a.size) b
 |_,_,_=>false
def YR (P:Program):Nat->Nat->Ty->Bool
 |0,_,_=>false
 |d+1,T,ty=>match ty,P.underlying T with
  | .int,some (.int .i64)=>true
  | .bool,some .bool=>true
  | .uint k,some (.int k')=>fg k k'
  | .slice t,some (.slice e)=>Nat.beq (P.cellsOf e) t.size&&Nat.ble 1 t.size&&YR P d e t
  | .pair a b,some (.struct fs)=>Nat.beq (P.cellsOf T) (Ty.pair a b).size&&jaf P (YR P d) fs.toList 0 (.pair a b)
  |_,_=>false
section
variable {P:Program} {K:Type} {enc:TypeId×Value->K} {w:World}
theorem jag (d:DataW K):1<=Rows.uptoBulk d:=by
 cases d with
 |lit l=>cases l<;>simp[Rows.uptoBulk]
 |_=>simp[Rows.uptoBulk]
theorem Jw (l:List (DataW K)):l.length<=Rows.uptoBulkAll l:=by
 induction l with
 |nil=>simp[Rows.uptoBulkAll]
 |cons x r a=>have:=jag x;simp only[Rows.uptoBulkAll,jX];omega
theorem YT {d:DataW K} {l:List (DataW K)} (h:d∈l):Rows.uptoBulk d<=Rows.uptoBulkAll l:=by
 induction l with
 |nil=>cases h
 |cons x r a=>
  simp only[Rows.uptoBulkAll];cases jj.1 h with
  |inl e=>subst e;omega
  |inr e=>have:=a e;omega
theorem Tu {α:Type} {Q:Nat->α->Prop}:∀(n:Nat),(∀i,i<n->∃y,Q i y)->∃l:List α,l.length=n/\∀i y,l[i]? =some y->Q i y
 |0,_=>⟨[],rfl,fun i y h=>by simp at h⟩
 |n+1,h=>by
  obtain⟨l,b,c⟩:=Tu n (fun i hi=>h i (by omega))
  obtain⟨y,d⟩:=h n (by omega)
  refine⟨l++[y],by simp[b],fun i z a=> ?_⟩
  by_cases hi:i<l.length
  rw[jz hi] at a;exact c i z a
  rw[jv (by omega)] at a
  have:i=n:=by
   by_cases e:i-l.length=0;omega;obtain⟨k,hk⟩:∃k,i-l.length=k+1:=⟨i-l.length-1,by omega⟩;rw[hk] at a;simp at a
  subst this;rw[<-b] at a;simp at a;subst a;exact d
def jah (P:Program) (w:World) (enc:TypeId×Value->K) (T:Nat) (ty:Ty):Prop:=
 ∀(a:Nat) (cs:List Value) (x:DataW K×List MemPlace),DataW.trod enc P w 0 (fun _=>true) true a T cs=some x->Rows.uptoBulk x.1<=1048576->
  ∃d:ty.Data,ty.rd (Hof w) (fun i=>cs[i]?) d/\cs.length=ty.size/\ty.fits (Rows.uptoBulk x.1) d
theorem jai {n:Int} (h:(Lit.int .i64 n).wf=true):wq n:=by
 simp[Lit.wf,IntKind.min,IntKind.max,IntKind.signed,IntKind.bits] at h;exact h
theorem uD {go:Nat->Ty->Bool} (c:∀T ty,go T ty=true->jah P w enc T ty) {n:Nat} {cs:List Value}:
 ∀(fs:List Field) (off:Nat) (ty:Ty) (xs:List (DataW K×List MemPlace)),jaf P go fs off ty=true->xs.length=fs.length->
  (∀(i:Nat) (f:Field),fs[i]? =some f->DataW.trod enc P w 0 (fun _=>true) true n f.type ((cs.drop f.offset).take (P.cellsOf f.type))=xs[i]?)->Rows.uptoBulkAll (xs.map (·.1))<=1048576->
  ∃d:ty.Data,ty.rd (Hof w) (fun i=>cs[off+i]?) d/\ty.fits (Rows.uptoBulkAll (xs.map (·.1))) d
 |[],off,ty,xs,h,g,e,j=>by
  cases ty<;>simp[jaf] at h
  exact⟨(),trivial,trivial⟩
 |f::fs,off,ty,[],h,g,e,j=>by simp at g
 |f::fs,off,ty,x::xs,h,g,e,j=>by
  cases ty<;>simp[jaf] at h
  rename_i a b
  obtain⟨⟨⟨q,v⟩,r⟩,s⟩:=h
  simp only[zu,Rows.uptoBulkAll] at j
  have k:=e 0 f (by simp)
  simp only[List.getElem?_cons_zero] at k
  obtain⟨d,t,y,u⟩:=c _ _ r _ _ _ k (by omega)
  obtain⟨l,o,p⟩:=uD c fs (off+a.size) b xs s (by simpa using g) (fun i m hi=>by simpa using e (i+1) m (by simpa using hi)) (by omega)
  refine⟨(d,l),⟨?_,?_⟩,?_,?_⟩
  refine Ty.rd_congr a _ _ _ (fun i hi=> ?_) t
  rw[jM (by omega),zc,q]
  refine Ty.rd_congr b _ _ _ (fun i hi=> ?_) o
  rw[zH]
  exact a.fits_mono (by simp[Rows.uptoBulkAll]) _ u
  exact b.fits_mono (by simp[Rows.uptoBulkAll]) _ p
theorem oY:∀(d T:Nat) (ty:Ty),YR P d T ty=true->jah P w enc T ty
 |0,_,_,h=>by cases h
 |d+1,T,ty,h=>by
  intro fuel cs x B r
  unfold YR at h
  split at h
  rename_i u
  obtain⟨n,rfl,rfl,H⟩:=DataW.trod_int u B
  exact⟨n,rfl,rfl,jai H⟩
  rename_i u
  obtain⟨b,rfl,rfl⟩:=DataW.trod_bool u B
  exact⟨b,rfl,rfl,trivial⟩
  rename_i k k' u
  obtain⟨n,rfl,rfl,H⟩:=DataW.trod_int u B
  have:k=k':=by simpa[fg] using h
  subst this
  refine⟨n,rfl,rfl,?_⟩
  simp[Lit.wf] at H
  exact H
  rename_i t e u
  simp only[ji] at h
  obtain⟨⟨L,M⟩,h3⟩:=h
  have e1:=ja L
  have e2:=jx M
  rcases DataW.trod_slice u B with⟨rfl,rfl⟩|⟨a,len,J,bw,rest,n,_,rfl,rfl,hb,hl,hm,A,D,_,_⟩
  refine⟨[],⟨none,0,0,rfl,rfl,jk _,by simp,fun _=>rfl,fun h=>absurd rfl h⟩,rfl,by simp,fun x B=>by simp at B⟩
  simp only[Rows.uptoBulk] at r
  have key:∀i,i<len->∃y:t.Data,(∃blk,Hof w a.block=some (.cells blk)/\a.spot=none/\t.rd (Hof w) (fun j=>blk[a.off+i*t.size+j]?) y)/\t.fits (Rows.uptoBulkAll (bw.map (·.1))) y:=by
   intro i hi;have h0:=D i hi;have X:bw[i]? =some bw[i]:=jr (by omega);rw[X,Option.bind_eq_some_iff] at h0;obtain⟨cl,c1,c2⟩:=h0;have Q:Rows.uptoBulk bw[i].1<=Rows.uptoBulkAll (bw.map (·.1)):=YT (jT.2 ⟨bw[i],kL _,rfl⟩);obtain⟨y,y1,y2,y3⟩:=oY d e t h3 _ _ _ c2 (by omega);unfold World.cells? at c1;rw[jh (jw _),e1] at c1;have z:∀j,j<t.size->w.cell? ((a.add (i*t.size)).add j)=cl[j]? :=fun j O=>by
    have:=mapM_some_get c1 j j (by simp[O]);simpa using this
   have N:cl.length=t.size:=(by simpa using mapM_some_length c1);have I:=z 0 (by omega);have g:cl[0]?≠none:=(by rw[jr (by omega)];simp);rw[<-I] at g;have m:∃blk T G,w.heap[a.block]? =some (.cells blk T G):=by
    unfold World.cell? at g;have q:((a.add (i*t.size)).add 0).block=a.block:=by unfold Addr.add;simp;split<;>rfl
    rw[q] at g
    split at g
    rename_i c T G e;exact⟨c,T,G,e⟩;exact absurd rfl g
   obtain⟨blk,T',G,m⟩:=m;have p:((a.add (i*t.size)).add 0).spot=none:=by
    unfold World.cell? at g;have q:((a.add (i*t.size)).add 0).block=a.block:=by unfold Addr.add;simp;split<;>rfl
    rw[q,m] at g;simp only at g;cases R:((a.add (i*t.size)).add 0).spot with
    |none=>rfl
    |some s=>rw[R] at g;simp at g
   have hH:Hof w a.block=some (.cells blk):=(by unfold Hof;rw[m]);refine⟨y,⟨blk,hH,?_,?_⟩,t.fits_mono Q _ y3⟩
   --the first element shows that the address is plain
   have C:=D 0 (by omega);have W:bw[0]? =some bw[0]:=jr (by omega);rw[W,Option.bind_eq_some_iff] at C;obtain⟨K,F,_⟩:=C;unfold World.cells? at F;rw[jh (jw _),e1] at F;have v:=mapM_some_get F 0 0 (by rw[kz (by omega)]);have hl0:K.length=t.size:=(by simpa using mapM_some_length F);rw[jr (by omega)] at v;simp only[kF] at v;have ea:(a.add 0).add 0=a:=(by unfold Addr.add;simp);rw[ea] at v;unfold World.cell? at v;rw[m] at v;simp only at v;cases R:a.spot with
   |none=>rfl
   |some s=>rw[R] at v;simp at v
   refine Ty.rd_congr t _ _ _ (fun j O=> ?_) y1;rw[<-z j O];unfold World.cell?;have q:((a.add (i*t.size)).add j).block=a.block:=by unfold Addr.add;split<;>split<;>rfl
   have E:((a.add (i*t.size)).add j).off=a.off+i*t.size+j:=by
    unfold Addr.add;split<;>split<;>simp_all
   have V:((a.add (i*t.size)).add j).spot=none:=by
    have S:(a.add (i*t.size)).spot=none:=by
     have:(a.add (i*t.size)).add 0=a.add (i*t.size):=(by simp[Addr.add]);rw[this] at p;exact p
    unfold Addr.add at S⊢
    split<;>split<;>simp_all
   rw[q,m,E,V];simp
  obtain⟨l,l1,l2⟩:=Tu len key;refine⟨l,⟨some a,len,J,rfl,l1.symm,hl,?_,(fun h=>by cases h),fun g=> ?_⟩,rfl,?_,?_⟩;have:=Jw (bw.map (·.1));simp at this;omega;have hz:0<l.length:=kO.2 g;obtain⟨blk,q1,q2,_⟩:=(l2 0 l[0] (jr hz)).1;refine⟨a.block,a.off,blk,?_,q1,fun i y Z=> ?_⟩;rcases a with⟨b,o,s⟩;simp only at q2;subst q2;rfl;obtain⟨blk',q3,_,q4⟩:=(l2 i y Z).1;rw[q1] at q3;simp at q3;subst q3;exact q4;simp only[Rows.uptoBulk];have:=Jw (bw.map (·.1));simp at this;omega;intro y Z;obtain⟨i,hi⟩:=zN Z;exact t.fits_mono (by simp only[Rows.uptoBulk];omega) _ (l2 i y hi).2;rename_i a b fs u;simp only[ji] at h;obtain⟨L,M⟩:=h;obtain⟨xs,n,_,rfl,A,Y,hf⟩:=DataW.trod_struct u B;simp only[Rows.uptoBulk] at r;obtain⟨y,y1,y2⟩:=uD (fun T ty h=>oY d T ty h) (n:=n) (cs:=cs) fs.toList 0 (.pair a b) xs M (by simpa using Y) (fun i f hi=>hf i f (by simpa using hi)) (by omega);refine⟨y,by simpa using y1,by rw[A];exact ja L,?_⟩;exact Ty.fits_mono (by simp only[Rows.uptoBulk];omega) (.pair a b) _ y2;cases h
end
end Go.X
namespace Go.X
open U
open Go.RowKit (Below)
open Go.ChangeShapes Go.WideShapes Go.ChangeAt Go.RowKit
open Go.Proofs.YtacjhnpgiklpdaaGreatDoor
def GN (N:Nat):(ts:List Ty)->PD (ts.map Par.val)->Prop
 |[],_=>True
 |t::ts,d=>t.fits N d.1/\GN N ts d.2
def Tv (ts:List Ty):wL:=⟨ts.map Par.val,[.bool],false,fun d=>[GN 1048576 ts d],fun _=>(true,())⟩
def uE (P:Program):List Nat->List Ty->Bool
 |[],[]=>true
 |T::Ts,t::ts=>YR P 20 T t&&(P.readableRec T&&decide (T<P.types.size))&&uE P Ts ts
 |_,_=>false
section
variable {P:Program} {K:Type} {enc:TypeId×Value->K} {W W':World}
theorem rV (j:laidOutB P=true) (i:Below W.heap.size W W'):∀(a:List Nat) (ts:List Ty) (vs:List Value) (ds:List (DataW K)) (ps:List MemPlace),uE P a ts=true->
 DataW.TrodAll enc P W 0 (fun _=>true) true a vs ds ps->(∀x∈ps,x.block<W.heap.size)->DataW.TrodAll enc P W' 0 (fun b=>decide (b<W.heap.size)) true a vs ds ps
 |[],ts,vs,ds,ps,_,h,_=>by
  obtain⟨rfl,rfl,rfl⟩:=trodAll_nil h
  exact trodAll_mk0
 |T::a,[],vs,ds,ps,c,_,_=>by cases c
 |T::a,t::ts,vs,ds,ps,c,h,hlt=>by
  obtain⟨v,g,d,e,p,q,rfl,rfl,rfl,n,o⟩:=trodAll_cons h
  simp only[uE,ji] at c
  obtain⟨⟨_,k,l⟩,m⟩:=c
  exact trodAll_cons_mk (Below.trod j k (jb l) n i (fun x f=>hlt x (jg _ f)))
   (rV j i a ts g e q m o (fun x f=>hlt x (jd _ f)))
theorem YU {T:Nat} {t:Ty} {r:Reach} {c:Nat} {v:Value} (h:YR P 20 T t=true) (b:Value.okWide P W r c T v):vF v=t.agg:=by
 unfold YR at h
 split at h
 rename_i a;obtain⟨n,rfl⟩:=okWide_int a b;rfl;rename_i a;obtain⟨n,rfl⟩:=okWide_bool a b;rfl;rename_i a;obtain⟨n,rfl⟩:=okWide_int a b;rfl;rename_i a;unfold Value.okWide at b;rw[a] at b;simp only[Cell.okWide,a] at b;cases v with
 |agg vs=>simp[Cell.ok,a] at b
 |_=>rfl
 rename_i a;unfold Value.okWide at b;rw[a] at b;obtain⟨cs,rfl,_⟩:=b;rfl;cases h
theorem Xl {r:Reach} {l:Nat}:∀(a:List Nat) (ts:List Ty) (vs:List Value) (ds:List (DataW K)) (ps:List MemPlace),uE P a ts=true->
 DataW.TrodAll enc P W 0 (fun _=>true) true a vs ds ps->(∀(j:Nat) t v,a[j]? =some t->vs[j]? =some v->Value.okWide P W r l t v)->Rows.uptoBulkAll ds<=1048576->
 ∃d:PD (ts.map Par.val),pvs P (Hof W) (ts.map Par.val) vs d/\GN 1048576 ts d
 |[],ts,vs,ds,ps,b,h,_,_=>by
  obtain⟨rfl,rfl,rfl⟩:=trodAll_nil h
  cases ts with
  |nil=>exact⟨(),rfl,trivial⟩
  |cons t ts=>cases b
 |T::a,[],vs,ds,ps,b,_,_,_=>by cases b
 |T::a,t::ts,vs,ds,ps,b,h,hv,hb=>by
  obtain⟨v,g,d,e,p,q,rfl,rfl,rfl,n,o⟩:=trodAll_cons h
  simp only[uE,ji] at b
  obtain⟨⟨k,_⟩,m⟩:=b
  simp only[Rows.uptoBulkAll] at hb
  obtain⟨c,s⟩:=n
  obtain⟨x,w,z,A⟩:=oY 20 T t k c _ _ s (by simp only;omega)
  obtain⟨y,B,C⟩:=Xl a ts g e q m o (fun j t v u f=>hv (j+1) t v (by simpa using u) (by simpa using f)) (by omega)
  refine⟨(x,y),⟨⟨YU k (hv 0 T v rfl rfl),by simpa using z,?_⟩,B⟩,Ty.fits_mono (by simp only;omega) t x A,C⟩
  refine Ty.rd_congr t _ _ _ (fun i _=> ?_) w
  simp
theorem oZ:∀(a:List Nat) (ts:List Ty) (vs:List Value) (ds:List (DataW K)) (ps:List MemPlace),uE P a ts=true->DataW.TrodAll enc P W 0 (fun _=>true) true a vs ds ps->ds.length=ts.length:=by
 intro a
 induction a with
 |nil=>intro ts vs ds ps b h;obtain⟨rfl,rfl,rfl⟩:=trodAll_nil h;cases ts with|nil=>rfl|cons=>cases b
 |cons T a g=>intro ts vs ds ps b h;cases ts with
  |nil=>cases b
  |cons t ts=>
   obtain⟨v,e,d,c,p,q,rfl,rfl,rfl,i,f⟩:=trodAll_cons h;simp only[uE,ji] at b;simp[g ts e c q b.2 f]
theorem Xm {f:Nat} {fn:Func} {s:ChangeSpec} {ts:List Ty} (I:laidOutB P=true) (k:uE P fn.params.toList ts=true) (L:fn.resultTypes= #[4]) (D:P.underlying 4=some .bool)
 (a:s.vars=[]) (m:∀(ds:List (DataW K)),ds.length=ts.length->s.fn K (ds++[])={results:=[.lit (.bool true)],args:=ds})
 (G:wU P f (Tv ts)) (base:Nat) (args:Array Value) (ds o:List (DataW K)) (before:List MemPlace)
 (l:∀(j:Nat) t v,fn.params[j]? =some t->args[j]? =some v->Value.okWide P W .any base t v)
 (w:DataW.Whole enc P fn.params.toList s.vars false W args.toList ds o before) (hk:Rows.uptoSmall K (ds++o)=true) (E:XL (Hof W)):
 Calls P f args W fun e W'=>∃v,e= .returned v/\s.post enc P fn false true false false W args v W':=by
 have b:=w;obtain⟨p,q,i,u,rfl,H,J⟩:=w;rw[a] at u;obtain⟨rfl,rfl⟩:=trodVars_none u;simp only[j7] at b hk;have c:Rows.uptoBulkAll ds<=1048576:=jb hk;have g:∀(j:Nat) t v,fn.params.toList[j]? =some t->args.toList[j]? =some v->Value.okWide P W .any base t v:=fun j t v B C=>l j t v (by simpa using B) (by simpa using C)
 obtain⟨d,z,A⟩:=Xl fn.params.toList ts args.toList ds p k i g c;have y:=G.calls (Hof W) W args.toList d (V8 W E) z ⟨A,trivial⟩;simp only[Array.toArray_toList] at y;refine y.mono fun e W' F=> ?_
 obtain⟨v,H',rfl,r,M⟩:=F;have n:v= .bool true:=qC M;subst n;refine⟨_,rfl,ds,[],p,[],p,[],b,?_,?_,?_,r.below.frame _,fun h=>by cases h⟩;rw[m ds ?_,L];exact trodAll_cons_mk (shut_bool D _) trodAll_mk0;exact oZ _ _ _ _ _ k i;rw[m ds ?_];exact rV I r.below _ ts _ _ _ k i (fun x N=>by simpa using b.lt x N);exact oZ _ _ _ _ _ k i;rw[a,m ds ?_];rfl;exact oZ _ _ _ _ _ k i
end
end Go.X
namespace Go.X
open U
open Go.Proofs
namespace U
def jbD (p:PeD):Prop:=(lv p).length<=20/\(y8 p).length<=30
def M6 (c:CrD):Prop:=(we c).length<=20/\(yk c).length<=20/\∀p∈we c,jbD p
def M7 (d:DyD):Prop:=M6 (wi d)/\(wO d).length<=20/\(wg d).length<=20/\(qV d).length<=60/\∀r∈wO d,r.length<=20
def Kd (p:PeD):Bool:=decide (20<((lv p).length:Int))||decide (30<((y8 p).length:Int))
def iM (c:CrD):Bool:=(decide (20<((we c).length:Int))||decide (20<((yk c).length:Int)))||((we c).any Kd||(wz c&&decide (5<((we c).length:Int))))
def Ke (r:List SpD):Bool:=decide (20<(r.length:Int))
def bV (d:DyD):Bool:=(((iM (wi d)||decide (20<((wO d).length:Int)))||decide (20<((wg d).length:Int)))||decide (60<((qV d).length:Int)))||(wO d).any Ke
def Hq (d:DyD):Bool:=bV d||(decide (ez d=0)&&decide (12<((qV d).length:Int)))
def jb1:CrD:=(3,[([5,4,0],3,15,[],false,50,()),([0,5,3],3,15,[],true,40,()),([4,0,4],1,3,[7],false,30,()),([3,3,3],255,1,[],false,10,())],[(2,1,false,()),(4,2,false,()),(3,2,true,()),(5,1,false,())],())
def UI:List JbD:=[(0,2,7,1,2,1,()),(0,2,3,0,0,1,()),(0,2,7,1,1,1,())]
def jb2:DyD:=(jb1,[[(0,0,()),(10,20,())],[(10,25,()),(0,0,())]],[((0,2,3,0,0,1,()),0,60,120,()),((0,2,3,1,0,1,()),1,150,200,()),((0,2,7,1,2,1,()),0,230,300,())],10,140,
 [(1,5,1,0,3,()),(2,6,1,1,3,()),(3,4,1,2,2,()),(4,7,1,2,0,()),(5,8,1,2,1,()),(6,9,1,0,2,()),(7,10,2,0,2,())],())
end U
abbrev jcN (d:CrD×Unit)(x:Nat):=(nth d.1.2.1 (x:Int).toNat)
def PZ:Prop:=∀(d:CrD×Unit),M6 d.1->(0+d.1.2.2.1.length)*24<=140737488355328/\(∃(x:Nat),((0=(x:Int)/\True)/\(d.1.1=d.1.1/\True/\True/\True)/\List.take x (we d.1)=[]/\True)/\x<=(we d.1).length)/\∀(x:Nat),x<=(we d.1).length->d.1.2.1.length<4611686018427387904->(decide ((x:Int)<d.1.2.1.length)=true->0<=(x:Int)/\(x:Int)<d.1.2.1.length/\(0+(jcN d x).1.length)*8<=140737488355328/\(0+(jcN d x).2.2.2.1.length)*8<=140737488355328/\((List.take x (we d.1)).length+[([]++(jcN d x).1,(jcN d x).2.1,(jcN d x).2.2.1,[]++(jcN d x).2.2.2.1,(jcN d x).q4)].length)*80<=140737488355328/\wq ((x:Int)+1)/\∃(a:Nat),(((x:Int)+1=(a:Int)/\True)/\(d.1.1=d.1.1/\True/\True/\True)/\List.take x (we d.1)++[([]++(jcN d x).1,(jcN d x).2.1,(jcN d x).2.2.1,[]++(jcN d x).2.2.2.1,(jcN d x).q4)]=List.take a (we d.1)/\True)/\a<=(we d.1).length/\(we d.1).length-a<(we d.1).length-x)/\(decide ((x:Int)<d.1.2.1.length)=false->((d.1.1,List.take x (we d.1),[]++d.1.2.2.1,()),())=d)
abbrev jfZ (d:DyD×Unit):=(d.1.1.1=d.1.1.1/\d.1.1.2.1=d.1.1.2.1/\d.1.1.2.2.1=d.1.1.2.2.1/\True/\d.1.2.2.1=d.1.2.2.1/\d.1.2.2.2.1=d.1.2.2.2.1/\d.1.q4.1=d.1.q4.1/\d.1.q4.2.1=d.1.q4.2.1/\True)
def P0:Prop:=∀(d:DyD×Unit),M7 d.1->M6 d.1.1/\(∃(x:Nat),((0=(x:Int)/\True)/\(jfZ d)/\List.take x (wO d.1)=[]/\True)/\x<=(wO d.1).length)/\∀(x:Nat),x<=(wO d.1).length->d.1.2.1.length<4611686018427387904->(decide ((x:Int)<d.1.2.1.length)=true->0<=(x:Int)/\(x:Int)<d.1.2.1.length/\(0+(nth d.1.2.1 (x:Int).toNat).length)*16<=140737488355328/\((List.take x (wO d.1)).length+[[]++nth d.1.2.1 (x:Int).toNat].length)*24<=140737488355328/\wq ((x:Int)+1)/\∃(a:Nat),(((x:Int)+1=(a:Int)/\True)/\(jfZ d)/\List.take x (wO d.1)++[[]++nth d.1.2.1 (x:Int).toNat]=List.take a (wO d.1)/\True)/\a<=(wO d.1).length/\(wO d.1).length-a<(wO d.1).length-x)/\(decide ((x:Int)<d.1.2.1.length)=false->(0+d.1.2.2.1.length)*72<=140737488355328/\(0+d.1.q4.2.1.length)*40<=140737488355328/\((d.1.1,List.take x (wO d.1),[]++d.1.2.2.1,d.1.2.2.2.1,d.1.q4.1,[]++d.1.q4.2.1,()),())=d)
def Tw:wL:=⟨[.val tCr],[.bool],false,fun _=>[],fun d=>(iM d.1,())⟩
def Tx:Ann:=fun r=>match r with
 |4=>some fun σ=>{X:=Nat,sl:=fun i=>[(3,.dat .int (i:Int))],ob:=fun _=>[],inv:=fun i=>i<=(we (gb tCr σ 1)).length/\∀j:Nat,j<i->Kd (nth (we (gb tCr σ 1)) j)=false,mu:=fun i=>(we (gb tCr σ 1)).length-i}
 |_=>none
abbrev jeH (d:CrD×Unit)(x:Nat):=((20:Int)<(nth d.1.2.1 (x:Int).toNat).1.length)
abbrev jdx (d:CrD×Unit):=(d.1.2.1.length:Int)
abbrev jf0 (d:CrD×Unit)(x:Nat):=(decide (jeH d x)||decide ((30:Int)<(nth d.1.2.1 (x:Int).toNat).2.2.2.1.length))
abbrev jf1 (d:CrD×Unit):=(decide (20<(jdx d))||decide (20<(d.1.2.2.1.length:Int)))
def Tz:Prop:=∀(d:CrD×Unit),d.1.2.1.length<4611686018427387904->((!decide (20<(jdx d)))=true->d.1.2.2.1.length<4611686018427387904)->((jf1 d)=true->(true,())=(iM d.1,()))/\((jf1 d)=false->(∃(x:Nat),((0=(x:Int)/\True)/\True)/\x<=(we d.1).length/\∀(j:Nat),j<x->Kd (nth (we d.1) j)=false)/\∀(x:Nat),(x<=(we d.1).length/\∀(j:Nat),j<x->Kd (nth (we d.1) j)=false)->d.1.2.1.length<4611686018427387904->(decide ((x:Int)<(jdx d))=true->0<=(x:Int)/\(x:Int)<(jdx d)/\((nth d.1.2.1 (x:Int).toNat).1.length<4611686018427387904->((!decide (jeH d x))=true->0<=(x:Int))/\((!decide (jeH d x))=true->(x:Int)<(jdx d))/\(((!decide (jeH d x))=true->(nth d.1.2.1 (x:Int).toNat).2.2.2.1.length<4611686018427387904)->((jf0 d x)=true->(true,())=(iM d.1,()))/\((jf0 d x)=false->wq ((x:Int)+1)/\∃(a:Nat),(((x:Int)+1=(a:Int)/\True)/\True)/\(a<=(we d.1).length/\∀(j:Nat),j<a->Kd (nth (we d.1) j)=false)/\(we d.1).length-a<(we d.1).length-x))))/\(decide ((x:Int)<(jdx d))=false->(wz d.1=true->d.1.2.1.length<4611686018427387904)->(wz d.1&&decide (5<(jdx d)),())=(iM d.1,())))
def P1:wL:=⟨[.val tDy],[.bool],false,fun _=>[],fun d=>(bV d.1,())⟩
def P2:Ann:=fun r=>match r with
 |4=>some fun σ=>{X:=Nat,sl:=fun i=>[(3,.dat .int (i:Int))],ob:=fun _=>[],inv:=fun i=>i<=(wO (gb tDy σ 1)).length/\∀j:Nat,j<i->Ke (nth (wO (gb tDy σ 1)) j)=false,mu:=fun i=>(wO (gb tDy σ 1)).length-i}
 |_=>none
abbrev jdS (d:DyD×Unit):=(d.1.2.1.length:Int)
abbrev jf2 (d:DyD×Unit):=(iM d.1.1||decide (20<(jdS d))||decide (20<(d.1.2.2.1.length:Int))||decide (60<(d.1.q4.2.1.length:Int)))
def P3:Prop:=∀(d:DyD×Unit),((!iM d.1.1)=true->d.1.2.1.length<4611686018427387904)->((!(iM d.1.1||decide (20<(jdS d))))=true->d.1.2.2.1.length<4611686018427387904)->((!(iM d.1.1||decide (20<(jdS d))||decide (20<(d.1.2.2.1.length:Int))))=true->d.1.q4.2.1.length<4611686018427387904)->((jf2 d)=true->(true,())=(bV d.1,()))/\((jf2 d)=false->(∃(x:Nat),((0=(x:Int)/\True)/\True)/\x<=(wO d.1).length/\∀(j:Nat),j<x->Ke (nth (wO d.1) j)=false)/\∀(x:Nat),(x<=(wO d.1).length/\∀(j:Nat),j<x->Ke (nth (wO d.1) j)=false)->d.1.2.1.length<4611686018427387904->(decide ((x:Int)<(jdS d))=true->0<=(x:Int)/\(x:Int)<(jdS d)/\((nth d.1.2.1 (x:Int).toNat).length<4611686018427387904->(decide ((20:Int)<(nth d.1.2.1 (x:Int).toNat).length)=true->(true,())=(bV d.1,()))/\(decide ((20:Int)<(nth d.1.2.1 (x:Int).toNat).length)=false->wq ((x:Int)+1)/\∃(a:Nat),(((x:Int)+1=(a:Int)/\True)/\True)/\(a<=(wO d.1).length/\∀(j:Nat),j<a->Ke (nth (wO d.1) j)=false)/\(wO d.1).length-a<(wO d.1).length-x)))/\(decide ((x:Int)<(jdS d))=false->(false,())=(bV d.1,())))
def TA:wL:=⟨[.val tDy],[.bool],false,fun _=>[],fun d=>(Hq d.1,())⟩
def TB:Prop:=∀(d:DyD×Unit),((!bV d.1)=true->(wg d.1).length<=1000000)/\(((!bV d.1&&decide (ez d.1=0))=true->d.1.q4.2.1.length<4611686018427387904)->(bV d.1||decide (ez d.1=0)&&decide (12<(d.1.q4.2.1.length:Int)),())=(Hq d.1,()))
def P4:wL:=⟨[.val .int,.val .int],[tSp],false,fun _=>[],fun d=>((d.1,d.2.1,()),())⟩
def P5:Prop:=∀(d:Int×Int×Unit),(d,())=(d,())
def GO:wL:=⟨[],[tCr,.slice tJb],false,fun _=>[],fun _=>(jb1,UI,())⟩
def GP:Prop:=∀(_:Unit),(((3:Int),[([(5:Int),(4:Int),(0:Int)],(3:Int),(15:Int),[],false,(50:Int),()),([(0:Int),(5:Int),(3:Int)],(3:Int),(15:Int),[],true,(40:Int),()),([(4:Int),(0:Int),(4:Int)],(1:Int),(3:Int),[(7:Int)],false,(30:Int),()),([(3:Int),(3:Int),(3:Int)],(255:Int),(1:Int),[],false,(10:Int),())],[((2:Int),(1:Int),false,()),((4:Int),(2:Int),false,()),((3:Int),(2:Int),true,()),((5:Int),(1:Int),false,())],()),[((0:Int),(2:Int),(7:Int),(1:Int),(2:Int),(1:Int),()),((0:Int),(2:Int),(3:Int),(0:Int),(0:Int),(1:Int),()),((0:Int),(2:Int),(7:Int),(1:Int),(1:Int),(1:Int),())],())=(jb1,UI,())
def GQ:wL:=⟨[],[tDy],false,fun _=>[],fun _=>(jb2,())⟩
abbrev jeI:=(nth UI (Int.toNat 1))
def GR:Prop:=∀(_:Unit),(0:Int)<=1/\1<(UI.length:Int)/\(0:Int)<=1/\1<(UI.length:Int)/\(0:Int)<=0/\0<(UI.length:Int)/\((jb1,[[((0:Int),(0:Int),()),((10:Int),(20:Int),())],[((10:Int),(25:Int),()),((0:Int),(0:Int),())]],[(nth UI (Int.toNat 1),(0:Int),(60:Int),(120:Int),()),((jeI.1,jeI.2.1,jeI.2.2.1,(1:Int),jeI.q4),(1:Int),(150:Int),(200:Int),()),(nth UI (Int.toNat 0),(0:Int),(230:Int),(300:Int),())],(10:Int),(140:Int),[((1:Int),(5:Int),(1:Int),(0:Int),(3:Int),()),((2:Int),(6:Int),(1:Int),(1:Int),(3:Int),()),((3:Int),(4:Int),(1:Int),(2:Int),(2:Int),()),((4:Int),(7:Int),(1:Int),(2:Int),(0:Int),()),((5:Int),(8:Int),(1:Int),(2:Int),(1:Int),()),((6:Int),(9:Int),(1:Int),(0:Int),(2:Int),()),((7:Int),(10:Int),(2:Int),(0:Int),(2:Int),())],()),())=(jb2,())
theorem jaj:PZ:=by
 unfold PZ jcN Prod.q4;rintro⟨c,⟨⟩⟩ g;obtain⟨m,j,a⟩:M6 c:=g;refine⟨by show(0+(yk c).length)*24<=140737488355328;omega,⟨0,⟨⟨rfl,tZ⟩,⟨rfl,tZ,tZ,tZ⟩,rfl,tZ⟩,jw _⟩,fun x f _=>⟨fun h=> ?_,fun h=> ?_⟩⟩;have h:(x:Int)<(we c).length:=jb h;have k:=L.wG (l:=we c) (i:=x) (by omega);obtain⟨s1,s2⟩:=a _ (L.wd (l:=we c) (i:=x) (by omega));have d:((we c).take x).length<=20:=(by rw[j0];omega);refine⟨zk _,h,by show(0+(U.lv (nth (we c) x)).length)*8<=140737488355328;omega,by show(0+(y8 (nth (we c) x)).length)*8<=140737488355328;omega,by show(((we c).take x).length+1)*80<=140737488355328;omega,iZ6,x+1,⟨⟨by simp,tZ⟩,⟨rfl,tZ,tZ,tZ⟩,k.symm,tZ⟩,by show x+1<=(we c).length;omega,by show(we c).length-(x+1)<(we c).length-x;omega⟩;have h:¬(x:Int)<(we c).length:=je h;have f:x<=(we c).length:=f;have b:x=(we c).length:=(by omega);subst b;have e:(we c).take (we c).length=we c:=zD;show((c.1,(we c).take (we c).length,c.2.2.1,()),())=(c,());rw[e];rfl
theorem jak:P0:=by
 unfold P0 jfZ Prod.q4;rintro⟨d,⟨⟩⟩ g;obtain⟨k,o,j,n,a⟩:M7 d:=g;refine⟨k,⟨0,⟨⟨rfl,tZ⟩,⟨rfl,rfl,rfl,tZ,rfl,rfl,rfl,rfl,tZ⟩,rfl,tZ⟩,jw _⟩,fun x f _=>⟨fun h=> ?_,fun h=> ?_⟩⟩;have h:(x:Int)<(wO d).length:=jb h;have m:=L.wG (l:=wO d) (i:=x) (by omega);have p:=a _ (L.wd (l:=wO d) (i:=x) (by omega));have c:((wO d).take x).length<=20:=(by rw[j0];omega);refine⟨zk _,h,by show(0+(nth (wO d) x).length)*16<=140737488355328;omega,by show(((wO d).take x).length+1)*24<=140737488355328;omega,iZ6,x+1,⟨⟨by simp,tZ⟩,⟨rfl,rfl,rfl,tZ,rfl,rfl,rfl,rfl,tZ⟩,m.symm,tZ⟩,by show x+1<=(wO d).length;omega,by show(wO d).length-(x+1)<(wO d).length-x;omega⟩;have h:¬(x:Int)<(wO d).length:=je h;have f:x<=(wO d).length:=f;have b:x=(wO d).length:=(by omega);subst b;have e:(wO d).take (wO d).length=wO d:=zD;refine⟨by show(0+(wg d).length)*72<=140737488355328;omega,by show(0+(qV d).length)*40<=140737488355328;omega,?_⟩;show((wi d,(wO d).take (wO d).length,wg d,QE d,Zh d,qV d,()),())=(d,());rw[e];rfl
theorem V9:Tz:=by
 unfold Tz jf1 jf0 jdx jeH;rintro⟨c,⟨⟩⟩ _ _;refine⟨fun h=> ?_,fun h=>⟨⟨0,⟨⟨rfl,tZ⟩,tZ⟩,jw _,fun j g=>by omega⟩,fun x f d=>⟨fun a=>⟨zk _,jb a,fun _=>⟨fun _=>zk _,fun _=>jb a,fun _=>⟨fun b=> ?_,fun b=> ?_⟩⟩⟩,fun a _=> ?_⟩⟩⟩;have h:(decide (20<((we c).length:Int))||decide (20<((yk c).length:Int)))=true:=h;show(true,())=(iM c,());unfold iM;rw[h];rfl;have b:Kd (nth (we c) x)=true:=b;have a:(x:Int)<(we c).length:=jb a;have:(we c).any Kd=true:=j9.2 ⟨_,L.wd (l:=we c) (i:=x) (by omega),b⟩;show(true,())=(iM c,());unfold iM;rw[this,Bool.true_or,Bool.or_true];have b:Kd (nth (we c) x)=false:=b;have a:(x:Int)<(we c).length:=jb a;have d:(we c).length<4611686018427387904:=d;refine⟨iZ6,x+1,⟨⟨by simp,tZ⟩,tZ⟩,⟨by show x+1<=(we c).length;omega,fun j g=> ?_⟩,by show(we c).length-(x+1)<(we c).length-x;omega⟩;by_cases e:j=x;subst e;exact b;exact f.2 j (by omega);have h:(decide (20<((we c).length:Int))||decide (20<((yk c).length:Int)))=false:=h;have a:¬(x:Int)<(we c).length:=je a;have:(we c).any Kd=false:=zj.2 fun p k=>by
  obtain⟨i,hi,rfl⟩:=L.mem_iff.1 k;rw[f.2 i (by omega)];simp
 show(wz c&&decide (5<((we c).length:Int)),())=(iM c,());unfold iM;rw[h,this,Bool.false_or,Bool.false_or]
theorem TC:wU PR 102 Tw:=yi Tx V9 Tryz.func102 (kcC uC kcN) koN
theorem TD:P3:=by
 unfold P3 jf2 jdS Prod.q4;rintro⟨d,⟨⟩⟩ _ _ _;refine⟨fun h=> ?_,fun h=>⟨⟨0,⟨⟨rfl,tZ⟩,tZ⟩,jw _,fun j g=>by omega⟩,fun x f c=>⟨fun a=>⟨zk _,jb a,fun _=>⟨fun b=> ?_,fun b=> ?_⟩⟩,fun a=> ?_⟩⟩⟩;have h:(((iM (wi d)||decide (20<((wO d).length:Int)))||decide (20<((wg d).length:Int)))||decide (60<((qV d).length:Int)))=true:=h;show(true,())=(bV d,());unfold bV;rw[h];rfl;have b:Ke (nth (wO d) x)=true:=b;have a:(x:Int)<(wO d).length:=jb a;have:(wO d).any Ke=true:=j9.2 ⟨_,L.wd (l:=wO d) (i:=x) (by omega),b⟩;show(true,())=(bV d,());unfold bV;rw[this,Bool.or_true];have b:Ke (nth (wO d) x)=false:=b;have a:(x:Int)<(wO d).length:=jb a;have c:(wO d).length<4611686018427387904:=c;refine⟨iZ6,x+1,⟨⟨by simp,tZ⟩,tZ⟩,⟨by show x+1<=(wO d).length;omega,fun j g=> ?_⟩,by show(wO d).length-(x+1)<(wO d).length-x;omega⟩;by_cases e:j=x;subst e;exact b;exact f.2 j (by omega);have h:(((iM (wi d)||decide (20<((wO d).length:Int)))||decide (20<((wg d).length:Int)))||decide (60<((qV d).length:Int)))=false:=h;have a:¬(x:Int)<(wO d).length:=je a;have:(wO d).any Ke=false:=zj.2 fun p k=>by
  obtain⟨i,hi,rfl⟩:=L.mem_iff.1 k;rw[f.2 i (by omega)];simp
 show(false,())=(bV d,());unfold bV;rw[h,this];rfl
theorem P6:wU PR 63 P1:=yi P2 TD Tryz.func63 (kcC TC kcN) koN
theorem TE {c:CrD} (h:iM c=false):M6 c:=by
 unfold iM at h;rw[jN,jN,jN,jE] at h;have b:=je h.1.2;refine⟨by have:=h.1.1;omega,by omega,fun p a=> ?_⟩;have:=zj.1 h.2.1 p a;unfold Kd at this;rw[zo,decide_eq_true_iff,decide_eq_true_iff] at this;unfold jbD;omega
theorem Fi {d:DyD} (h:bV d=false):M7 d:=by
 unfold bV at h;rw[jN,jN,jN,jN] at h;obtain⟨⟨⟨⟨e,a⟩,b⟩,c⟩,f⟩:=h;have a:=je a;have b:=je b;have c:=je c;refine⟨TE e,by omega,by omega,by omega,fun r g=> ?_⟩;have:=zj.1 f r g;unfold Ke at this;rw[decide_eq_true_iff] at this;omega
theorem Wa:TB:=by
 unfold TB Prod.q4;rintro⟨d,⟨⟩⟩;refine⟨fun h=> ?_,fun _=>rfl⟩;have h:(!bV d)=true:=h;rw[jO] at h;have:=(Fi h).2.2.1;show(wg d).length<=1000000;omega
theorem TF:wU PR 31 TA:=wF Wa Tryz.func31 (kcC P6 (kcC Cy kcN)) koN
theorem TG:P5:=fun _=>rfl
theorem P7:wU PR 104 P4:=wF TG Tryz.func104 kcN koN
theorem Jx:GP:=fun _=>rfl
theorem GS:wU PR 103 GO:=wF Jx Tryz.func103 kcN koN
theorem Jy:GR:=by
 unfold GR jeI Prod.q4;intro _;refine⟨by decide,by decide,by decide,by decide,by decide,by decide,rfl⟩
theorem GU:wU PR 64 GQ:=wF Jy Tryz.func64 (kcC GS (kcC P7 kcN)) koN
theorem Wb {d:DyD} (h:Hq d=false):M7 d:=by
 unfold Hq at h;rw[jN] at h;exact Fi h.1
abbrev tNo:Ty:= .st [.int,.int]
abbrev tTa:Ty:= .st [.int,.int,.int,.int,.int,.int,.int,.int,.slice .int,.slice tNo]
abbrev tCa:Ty:= .st [.int,.int,.int]
abbrev tLg:Ty:= .st [tDy,.slice .int,.slice .int,tTa,.slice tCa]
abbrev tLn:Ty:= .st [.int,.int,.int,.int,.int,.int]
abbrev tBl:Ty:= .st [tBk,tTa,.int,.int,.slice .int,.int,.int,.bool,.int]
abbrev tBo:Ty:= .st [tLg,.map .int (.ptr tBl)]
abbrev NoD:Type:=Int×Int×Unit
abbrev TaD:Type:=Int×Int×Int×Int×Int×Int×Int×Int×List Int×List NoD×Unit
abbrev CaD:Type:=Int×Int×Int×Unit
abbrev LgD:Type:=DyD×List Int×List Int×TaD×List CaD×Unit
abbrev LnD:Type:=Int×Int×Int×Int×Int×Int×Unit
abbrev BlD:Type:=BkD×TaD×Int×Int×List Int×Int×Int×Bool×Int×Unit
abbrev XbD:Type:=Int×Int×Int×Int×Int×Int×Int×Int×Int×Int×Int×Int×Int×Int×Int×Int×Int×List Int×List (Int×Int×Unit)×Int×Int×List Int×Int×Int×Bool×Int×Unit
abbrev BoD:Type:=LgD×List (Int×Option BlD)×Unit
namespace U
def UJ (n:NoD):Int:=n.1
def Xs (n:NoD):Int:=n.2.1
def UK (t:TaD):Int:=t.1
def jaG (t:TaD):Int:=t.2.1
def jaH (t:TaD):Int:=t.2.2.1
def WI (t:TaD):Int:=t.2.2.2.1
def Zm (t:TaD):Int:=t.2.2.2.2.1
def UL (t:TaD):Int:=t.2.2.2.2.2.1
def ZE (t:TaD):Int:=t.2.2.2.2.2.2.1
def QI (t:TaD):Int:=t.2.2.2.2.2.2.2.1
def aQ (t:TaD):List Int:=t.2.2.2.2.2.2.2.2.1
def eA (t:TaD):List NoD:=t.2.2.2.2.2.2.2.2.2.1
def QW (c:CaD):Int:=c.1
def jaI (c:CaD):Int:=c.2.1
def UM (c:CaD):Int:=c.2.2.1
def wm (l:LgD):DyD:=l.1
def yC (l:LgD):List Int:=l.2.1
def Fs (l:LgD):List Int:=l.2.2.1
def fR (l:LgD):TaD:=l.2.2.2.1
def w9 (l:LgD):List CaD:=l.2.2.2.2.1
def gS (l:LnD):Int:=l.1
def ik (l:LnD):Int:=l.2.1
def Xt (l:LnD):Int:=l.2.2.1
def Xu (l:LnD):Int:=l.2.2.2.1
def jaJ (l:LnD):Int:=l.2.2.2.2.1
def Oz (l:LnD):Int:=l.2.2.2.2.2.1
def qL (b:BlD):BkD:=b.1
def yZ (b:BlD):TaD:=b.2.1
def M8 (b:BlD):Int:=b.2.2.1
def M9 (b:BlD):Int:=b.2.2.2.1
def vg (b:BlD):List Int:=b.2.2.2.2.1
def pg (b:BlD):Int:=b.2.2.2.2.2.1
def El (b:BlD):Int:=b.2.2.2.2.2.2.1
def sC (b:BlD):Bool:=b.2.2.2.2.2.2.2.1
def ph (b:BlD):Int:=b.2.2.2.2.2.2.2.2.1
def bW (o:BoD):LgD:=o.1
def Na (o:BoD):List (Int×Option BlD):=o.2.1
def share (n:Int):Bool:=kV n 0 100
def Hr (last:Int) (n:NoD):Bool:=kV (UJ n) 0 (last-1)&&share (Xs n)
def uH:Int->List NoD->Bool
 |_,[]=>true
 |last,n::r=>Hr last n&&uH (UJ n) r
def vP (t:TaD):Bool:=(kV (UK t) 1 240&&kV (jaG t) 0 10000&&kV (jaH t) 0 20&&kV (WI t) 0 1440&&kV (Zm t) 0 (WI t)&&share (UL t)&&kV (ZE t) 0 10000)&&
 (decide ((aQ t).length=4)&&(aQ t).all share&&kV (QI t) 0 1000000&&decide ((eA t).length<=4)&&uH 100001 (eA t))
def na (n:Nat) (c:CaD):Bool:=(kV (QW c) 0 99&&kV (jaI c) 0 ((n:Int)-1))&&kV (UM c) (-100000) 1440
def Kf (n:Int):Bool:=kV n 0 20
def uI (n:Int):Bool:=kV n 0 300
def cg (l:LgD):Bool:=((decide ((yC l).length=(wg (wm l)).length)&&(yC l).all Kf)&&(decide ((Fs l).length=(wg (wm l)).length)&&(Fs l).all uI))&&
 (vP (fR l)&&(decide ((w9 l).length<=10)&&(w9 l).all (na (wg (wm l)).length)))
def aK (l:List CaD) (i:Nat):Bool:=(l.take i).any (fun x=>decide (QW x=QW (nth l i))&& !decide (x=nth l i))
def Dd (l:List CaD) (n:Nat):Bool:=(List.range n).any (aK l)
def bX (l:List CaD):Bool:=Dd l l.length
def w8 (l:LgD):Int:=if wR (wm l)≠0 then wR (wm l) else if cg l=false then 70 else if bX (w9 l)=true then 71 else 0
def up (a b:Int):Int:=(a+b-1).tdiv b
def yQ (m:Int) (b:BlD):BlD:=if m<=qR (qL b)/\(sC b=false\/m<ph b) then(qL b,yZ b,M8 b,M9 b,vg b,pg b,El b,true,m,()) else b
def yT (b:BlD):Int:=max 0 (mB (qL b)-max (qR (qL b)) (WI (yZ b)))+max 0 (min (mB (qL b)) (Zm (yZ b))-qR (qL b))
def l5 (b:BlD):Int:=(vg b).length*jaG (yZ b)*max (jaH (yZ b)) (up (mB (qL b)-qR (qL b)) (UK (yZ b)))
def aW (b:BlD):Int:=l5 b+up (l5 b*UL (yZ b)*yT b) (100*(mB (qL b)-qR (qL b)))
def bY (a:Int) (b:BlD):Int:=(vg b).length*ZE (yZ b)*a
def chargeB (a:Int) (b:BlD):BlD:=(qL b,yZ b,M8 b,M9 b,vg b,aW b,bY a b,sC b,ph b,())
def d9 (b:BlD) (n:NoD):Bool:=decide (UJ n<=qR (qL b)-ph b)
def QJ (b:BlD):Int:=yE (d9 b) (eA (yZ b))
def qQ (b:BlD):Int:=if sC b=true/\0<=QJ b then up (pg b*Xs (nth (eA (yZ b)) (QJ b).toNat)) 100 else pg b
def vj (b:BlD):Int:=if sC b=true then 0 else El b
def nF (b:BlD):Int:=min (QI (yZ b)) (((qQ b+vj b)*nth (aQ (yZ b)) (fO (y9 (qL b))).toNat).tdiv 100)
def qA (b:BlD):LnD:=(M9 b,M8 b,qQ b,vj b,nF b,qQ b+vj b-nF b,())
def y4 (m:Int) (b:BlD):Int:=Oz (qA (yQ m b))
def Em (b:BlD):Prop:=vP (yZ b)=true/\0<=qR (qL b)/\qR (qL b)<mB (qL b)/\mB (qL b)<=1440/\0<=fO (y9 (qL b))/\fO (y9 (qL b))<=3/\(vg b).length<=8/\-100000<=ph b/\ph b<=1440
def pb (b:BlD):Prop:=Em b/\0<=pg b/\pg b<=100000000000000/\0<=El b/\El b<=1000000000
def Kg (t:Int) (n:Nat):List Int:=((List.range n).filter (fun(p:Nat)=>gF t (p:Int))).map (fun(p:Nat)=>(p:Int))
def sw (l:LgD) (n:Int) (tm:List Int):BlD:=(nth (wg (wm l)) n.toNat,fR l,n,nth (yC l) n.toNat,tm,0,0,false,0,())
def qg (l:LgD) (n:Int) (k:Nat):List Int:=Kg (nth (d8 (wm l)) n.toNat) k
def il (l:LgD) (n:Int):BlD:=chargeB (nth (Fs l) n.toNat) (sw l n (qg l n (we (wi (wm l))).length))
def sx (n:Int) (b:BlD) (c:CaD):BlD:=if jaI c=n then yQ (UM c) b else b
def wh (l:LgD) (n:Int) (k:Nat):BlD:=((w9 l).take k).foldl (sx n) (il l n)
def wK (l:LgD) (n:Int):BlD:=wh l n (w9 l).length
def Zn (l:LgD) (m:List (Int×Option BlD)) (n:Int):List (Int×Option BlD):=eB .int n (some (wK l n)) m
def xZ (l:LgD) (k:Nat):List (Int×Option BlD):=((kW (wm l)).take k).foldl (Zn l) []
def QK (l:LgD):List (Int×Option BlD):=xZ l (kW (wm l)).length
def zDy:DyD:=((0,[],[],()),[],[],0,0,[],())
def zTa:TaD:=(0,0,0,0,0,0,0,0,[],[],())
def zLg:LgD:=(zDy,[],[],zTa,[],())
def jbE:BoD:=(zLg,[],())
def qh (l:LgD) (wP:Bool):Int:=if w8 l≠0 then w8 l else if wP=true then 0 else 1
def wW (l:LgD) (wP:Bool):BoD:=if qh l wP=0 then(l,QK l,()) else jbE
def qo (o:BoD) (n:Int):Bool:=kV n 0 (((wg (wm (bW o))).length:Int)-1)
def vn (m:List (Int×Option BlD)):List LnD:=m.map (fun e=>match e.2 with|some b=>qA b|none=>default)
def t7 (a b:LnD):Int:=yq [bZ (gS a) (gS b),bZ (ik a) (ik b)]
def wB (o:BoD):List LnD:=kZ (k8 tLn fun x=>(t7 x.1 x.2.1,())) (vn (Na o))
def gw (l:List Int):Int:=l.foldl max (nth l 0)
def OA (t:List Int) (x:LnD):List Int:=t.set (gS x).toNat (nth t (gS x).toNat+Oz x)
def ye (n:Nat) (l:List LnD) (k:Nat):List Int:=(l.take k).foldl OA (List.replicate n 0)
def Kh (o:BoD):List Int:=if(yC (bW o)).length=0 then[] else ye (gw (yC (bW o))+1).toNat (wB o) (wB o).length
def Hs (a:Int) (tm:List Int) (out:List Int) (i:Nat):List Int:=out.set (nth tm i).toNat (nth out (nth tm i).toNat+a.tdiv tm.length+(if(i:Int)<a.tmod tm.length then 1 else 0))
def wV (a:Int) (tm out:List Int) (k:Nat):List Int:=(List.range k).foldl (Hs a tm) out
def WJ (a:Int) (b:BlD) (out:List Int):List Int:=wV a (vg b) out (vg b).length
def Zo (n:Nat):Option BlD->List Int
 |some b=>WJ (vj b) b (WJ (qQ b) b (List.replicate n 0))
 |none=>List.replicate n 0
def QX (o:BoD) (n:Int):Option BlD:=wD none (wo .int n (Na o))
def QL (o:BoD) (n:Int):List Int:=Zo (we (wi (wm (bW o)))).length (QX o n)
end U
theorem UG {a b A B:Int} (d:0<=a/\a<=A) (c:0<=b/\b<=B):0<=a*b/\a*b<=A*B:=
 ⟨Int.mul_nonneg d.1 c.1,Int.mul_le_mul d.2 c.2 c.1 (by omega)⟩
theorem CD {x B:Int} (h:0<=x/\x<=B) (a:B<=9223372036854775807):wq x:=iZ6
theorem jbi {a b:Int} (c:0<=a) (d:0<b):U.up a b=(a+b-1)/b:=kk (by omega)
theorem TH {a b:Int} (e:0<=a) (c:0<b):0<=U.up a b/\U.up a b<=a:=by
 rw[jbi e c];refine⟨Int.ediv_nonneg (by omega) (by omega),?_⟩;by_cases h:a=0;subst h;rw[kD (by omega) (by omega)];omega;have g:0<=(a-1)*(b-1):=Int.mul_nonneg (by omega) (by omega);have d:a+b-1<(a+1)*b:=by
  have f:(a+1)*b=a*b+b:=(by rw[Int.add_mul];omega);have e2:(a-1)*(b-1)=a*b-a-b+1:=(by rw[Int.sub_mul,Int.mul_sub];omega);omega
 have:=Int.ediv_lt_of_lt_mul c d;omega
theorem Wc {a b A:Int} (c:0<=a/\a<=A) (f:0<b):0<=a.tdiv b/\a.tdiv b<=A:=by
 rw[kk c.1];have d:=Int.ediv_nonneg c.1 (show 0<=b by omega);have e:=Int.ediv_le_self b c.1;exact⟨d,by omega⟩
theorem qE {n a b:Int}:kV n a b=true↔a<=n/\n<=b:=by
 unfold kV;simp only[ji,jp]
structure jbj (t:TaD):Prop where
 un:1<=UK t/\UK t<=240
 rt:0<=jaG t/\jaG t<=10000
 le:0<=jaH t/\jaH t<=20
 dk:0<=WI t/\WI t<=1440
 dw:0<=Zm t/\Zm t<=WI t
 ni:0<=UL t/\UL t<=100
 mi:0<=ZE t/\ZE t<=10000
 sl:(aQ t).length=4
 sb:∀n∈aQ t,0<=n/\n<=100
 cp:0<=QI t/\QI t<=1000000
 nl:(eA t).length<=4
 no:uH 100001 (eA t)=true
theorem Og {t:TaD}:vP t=true↔jbj t:=by
 unfold vP U.share;simp only[ji,qE,jp,j6];constructor;rintro⟨⟨⟨⟨⟨⟨⟨d,e⟩,f⟩,g⟩,h⟩,i⟩,j⟩,⟨⟨⟨k,l⟩,a⟩,b⟩,c⟩;exact⟨d,e,f,g,h,i,j,k,l,a,b,c⟩;rintro⟨d,e,f,g,h,i,j,k,l,a,b,c⟩;exact⟨⟨⟨⟨⟨⟨⟨d,e⟩,f⟩,g⟩,h⟩,i⟩,j⟩,⟨⟨⟨k,l⟩,a⟩,b⟩,c⟩
theorem GV:∀{last:Int} {l:List NoD},uH last l=true->∀n∈l,(0<=UJ n/\UJ n<=last-1)/\0<=Xs n/\Xs n<=100
 |_,[],_,n,a=>by cases a
 |last,m::r,h,n,a=>by
  unfold uH Hr U.share at h
  simp only[ji,qE] at h
  obtain⟨⟨b,c⟩,d⟩:=h
  rcases jj.1 a with rfl|a
  exact⟨b,c⟩
  have:=GV d n a
  exact⟨⟨this.1.1,by omega⟩,this.2⟩
structure CE (b:BlD):Prop where
 ta:jbj (yZ b)
 st:0<=qR (qL b)
 en:qR (qL b)<mB (qL b)
 e2:mB (qL b)<=1440
 kd:0<=fO (y9 (qL b))/\fO (y9 (qL b))<=3
 tm:(vg b).length<=8
 mi: -100000<=ph b/\ph b<=1440
theorem rW {b:BlD}:Em b↔CE b:=by
 unfold Em;rw[Og];exact⟨fun⟨a,c,d,e,f,g,h,i,j⟩=>⟨a,c,d,e,⟨f,g⟩,h,⟨i,j⟩⟩,fun⟨a,c,d,e,⟨f,g⟩,h,⟨i,j⟩⟩=>⟨a,c,d,e,f,g,h,i,j⟩⟩
theorem Oh {b:BlD} (h:CE b):0<=yT b/\yT b<=2880:=by
 have:=h.st;have:=h.en;have:=h.e2;have:=h.ta.dk;have:=h.ta.dw;unfold yT;omega
theorem jal {b:BlD} (h:CE b):0<=U.up (mB (qL b)-qR (qL b)) (UK (yZ b))/\U.up (mB (qL b)-qR (qL b)) (UK (yZ b))<=1440:=by
 have:=h.st;have:=h.en;have:=h.e2;have:=h.ta.un;have:=TH (a:=mB (qL b)-qR (qL b)) (b:=UK (yZ b)) (by omega) (by omega);omega
theorem jam {b:BlD} (h:CE b):0<=((vg b).length:Int)*jaG (yZ b)/\((vg b).length:Int)*jaG (yZ b)<=80000:=
 UG (A:=8) (B:=10000) (by have:=h.tm;omega) h.ta.rt
theorem Ms {b:BlD} (h:CE b):0<=l5 b/\l5 b<=115200000:=by
 have c:=jal h;have d:=h.ta.le;have a:0<=max (jaH (yZ b)) (U.up (mB (qL b)-qR (qL b)) (UK (yZ b)))/\max (jaH (yZ b)) (U.up (mB (qL b)-qR (qL b)) (UK (yZ b)))<=1440:=(by omega);exact UG (jam h) a
theorem jan {b:BlD} (h:CE b):0<=l5 b*UL (yZ b)/\l5 b*UL (yZ b)<=11520000000:=UG (Ms h) h.ta.ni
theorem Xn {b:BlD} (h:CE b):0<=l5 b*UL (yZ b)*yT b/\l5 b*UL (yZ b)*yT b<=33177600000000:=UG (jan h) (Oh h)
theorem jao {b:BlD} (h:CE b):0<100*(mB (qL b)-qR (qL b))/\100*(mB (qL b)-qR (qL b))<=144000:=by
 have:=h.st;have:=h.en;have:=h.e2;omega
theorem jap {b:BlD} (h:CE b):0<=U.up (l5 b*UL (yZ b)*yT b) (100*(mB (qL b)-qR (qL b)))/\U.up (l5 b*UL (yZ b)*yT b) (100*(mB (qL b)-qR (qL b)))<=33177600000000:=by
 have a:=Xn h;have:=TH a.1 (jao h).1;omega
theorem TJ {b:BlD} (h:CE b):0<=aW b/\aW b<=100000000000000:=by
 have a:=Ms h;have c:=jap h;unfold aW;omega
theorem jaq {b:BlD} (h:CE b):0<=((vg b).length:Int)*ZE (yZ b)/\((vg b).length:Int)*ZE (yZ b)<=80000:=
 UG (A:=8) (B:=10000) (by have:=h.tm;omega) h.ta.mi
theorem TK {b:BlD} {t:Int} (h:CE b) (a:0<=t/\t<=300):0<=bY t b/\bY t b<=24000000:=UG (jaq h) a
theorem Jz {α:Type} [Inhabited α] {p:α->Bool} {l:List α} (h:0<=yE p l):(yE p l).toNat<l.length/\yE p l<(l.length:Int)/\p (nth l (yE p l).toNat)=true:=by
 unfold yE at h⊢;cases e:l.findIdx? p with
 |none=>rw[e] at h;exact absurd h (by decide)
 |some i=>
  obtain⟨a,b,_⟩:=zU.1 e;simp only[ju];refine⟨a,by omega,?_⟩;rw[L.ql a];exact b
structure JA (b:BlD):Prop where
 bl:CE b
 wk:0<=pg b/\pg b<=100000000000000
 tr:0<=El b/\El b<=1000000000
theorem bh {b:BlD}:pb b↔JA b:=by
 unfold pb;rw[rW];exact⟨fun⟨a,c,d,e,f⟩=>⟨a,⟨c,d⟩,⟨e,f⟩⟩,fun⟨a,⟨c,d⟩,⟨e,f⟩⟩=>⟨a,c,d,e,f⟩⟩
theorem Oi {b:BlD} (h:JA b) {i:Nat} (hi:i<(eA (yZ b)).length):0<=pg b*Xs (nth (eA (yZ b)) i)/\pg b*Xs (nth (eA (yZ b)) i)<=10000000000000000:=
 UG h.wk (GV h.bl.ta.no _ (L.wd hi)).2
theorem GW {b:BlD} (h:JA b):0<=qQ b/\qQ b<=10000000000000000:=by
 unfold qQ
 split
 rename_i c;have a:=Oi h (Jz c.2).1;have:=TH (b:=100) a.1 (by omega);have e:U.up (pg b*Xs (nth (eA (yZ b)) (QJ b).toNat)) 100<=pg b*Xs (nth (eA (yZ b)) (QJ b).toNat):=this.2;exact⟨this.1,Int.le_trans e a.2⟩;have:=h.wk;omega
theorem GX {b:BlD} (h:JA b):0<=vj b/\vj b<=1000000000:=by
 unfold vj;have:=h.tr
 split<;>omega
theorem TL {b:BlD} (h:CE b):(fO (y9 (qL b))).toNat<(aQ (yZ b)).length:=by
 have:=h.kd;have:=h.ta.sl;omega
theorem TM {b:BlD} (h:CE b):0<=nth (aQ (yZ b)) (fO (y9 (qL b))).toNat/\nth (aQ (yZ b)) (fO (y9 (qL b))).toNat<=100:=h.ta.sb _ (L.wd (TL h))
theorem Mt {w t cp pc k:Int} {n:Nat} {R:Prop} (i:0<=w/\w<=10000000000000000) (h:0<=t/\t<=1000000000) (g:0<=cp/\cp<=1000000) (e:0<=pc/\pc<=100) (hk:0<=k) (d:k<(n:Int)) (c:R):
 wq (w+t)/\0<=k/\k<(n:Int)/\wq ((w+t)*pc)/\(100:Int)≠0/\wq (((w+t)*pc).tdiv 100)/\wq (w+t)/\wq (w+t-min cp (((w+t)*pc).tdiv 100))/\R:=by
 have a:0<=(w+t)*pc/\(w+t)*pc<=10000001000000000*100:=UG (by omega) e;have f:=Wc (b:=100) a (by omega);exact⟨iZ6,hk,d,iZ6,by decide,iZ6,iZ6,iZ6,c⟩
theorem Wd {b:BlD} {m:Int} (h:CE b) (a: -100000<=m/\m<=1440):CE (yQ m b):=by
 unfold yQ
 split
 exact⟨h.ta,h.st,h.en,h.e2,h.kd,h.tm,a⟩;exact h
theorem GY {b:BlD} {m:Int} (h:JA b) (a: -100000<=m/\m<=1440):JA (yQ m b):=by
 refine⟨Wd h.bl a,?_,?_⟩;unfold yQ
 split
 exact h.wk;exact h.wk;unfold yQ
 split
 exact h.tr;exact h.tr
theorem Oj {β:Type} (k:Int) (v:β):∀m:List (Int×β),k∉m.map (·.1)->eB .int k v m=m++[(k,v)]
 |[],_=>rfl
 |e::r,h=>by
  have a:k≠e.1:=fun e2=>h (by rw[e2];simp)
  have b:k∉r.map (·.1):=fun d=>h (by simp only[zu];exact jl _ d)
  rw[M.mput_cons (kt:= .int),jc (fun c=>a (jb c)),Oj k v r b];rfl
theorem Mu (d:DyD) (n:Nat):(gp d n).Nodup:=by
 unfold gp;exact zP.2 ((List.nodup_range.filter _).imp fun h e=>h (by omega))
theorem tK (d:DyD):(kW d).Nodup:=by
 unfold kW
 split
 exact Mu d _;exact kT
theorem GZ {d:DyD} {n:Int} (h:n∈kW d):0<=n/\n<((wg d).length:Int):=by
 unfold kW at h
 split at h
 unfold gp at h;obtain⟨b,a,rfl⟩:=jT.1 h;have:=jC.1 (jP.1 a).1;omega;cases h
theorem JB {l:LgD} {k:Nat} (h:k<(kW (wm l)).length):xZ l (k+1)=Zn l (xZ l k) (nth (kW (wm l)) k):=by
 unfold xZ;rw[L.wG h,jV];rfl
theorem TN (l:LgD):∀k,k<=(kW (wm l)).length->xZ l k=((kW (wm l)).take k).map (fun n=>(n,some (wK l n)))
 |0,_=>rfl
 |k+1,hk=>by
  have a:k<(kW (wm l)).length:=by omega
  have d:=L.wG a
  have b:((kW (wm l)).take (k+1)).Nodup:=(tK _).sublist (List.take_sublist _ _)
  rw[d,zB] at b
  rw[JB a,TN l k (by omega),d,zC]
  unfold Zn
  refine Oj _ _ _ fun c=> ?_
  rw[kR] at c
  obtain⟨x,f,e⟩:=jT.1 c
  have e:x=nth (kW (wm l)) k:=e
  exact b.2.2 x f _ (by simp) e
theorem Ol (l:LgD):QK l=(kW (wm l)).map (fun n=>(n,some (wK l n))):=by
 unfold QK;rw[TN l _ (jk _),zD]
structure xw (l:LgD):Prop where
 cp:wR (wm l)=0
 crw:wz (wi (wm l))=true
 jbs:J6 (wm l)=true
 dy:qc (wm l)=true
 py:(yC l).length=(wg (wm l)).length/\∀n∈yC l,0<=n/\n<=20
 tr:(Fs l).length=(wg (wm l)).length/\∀n∈Fs l,0<=n/\n<=300
 ta:jbj (fR l)
 cl:(w9 l).length<=10/\∀c∈w9 l,(0<=QW c/\QW c<=99)/\(0<=jaI c/\jaI c<=((wg (wm l)).length:Int)-1)/\-100000<=UM c/\UM c<=1440
 cc:bX (w9 l)=false
theorem P8 {d:DyD} (h:wR d=0):wz (wi d)=true/\J6 d=true/\qc d=true:=by
 unfold wR at h
 split at h
 rename_i a;exact absurd h a;rename_i a
 split at h
 cases h;rename_i b;have a:t6 d=0:=jQ.1 a;unfold t6 at a
 split at a
 cases a;rename_i c
 split at a
 cases a;rename_i e;exact⟨by simpa using c,by simpa using e,by simpa using b⟩
theorem lR {l:LgD} (h:w8 l=0):xw l:=by
 unfold w8 at h
 split at h
 rename_i a;exact absurd h a;rename_i a;have a:wR (wm l)=0:=jQ.1 a
 split at h
 cases h;rename_i b
 split at h
 cases h;rename_i d;have b:cg l=true:=(by simpa using b);have d:bX (w9 l)=false:=(by simpa using d);obtain⟨p,q,r⟩:=P8 a;unfold cg at b;simp only[ji,jp,j6] at b;obtain⟨⟨⟨f,g⟩,i,j⟩,k,m,o⟩:=b;refine⟨a,p,q,r,⟨f,fun n e=>qE.1 (g n e)⟩,⟨i,fun n e=>qE.1 (j n e)⟩,Og.1 k,⟨m,fun c s=> ?_⟩,d⟩;have:=o c s;unfold na at this;simp only[ji,qE] at this;exact⟨this.1.1,this.1.2,this.2⟩
theorem JC {l:LgD} (h:xw l) {n:Int} (e:0<=n/\n<((wg (wm l)).length:Int)):
 (0<=qR (nth (wg (wm l)) n.toNat)/\qR (nth (wg (wm l)) n.toNat)<mB (nth (wg (wm l)) n.toNat)/\mB (nth (wg (wm l)) n.toNat)<=1440)/\
 0<=fO (y9 (nth (wg (wm l)) n.toNat))/\fO (y9 (nth (wg (wm l)) n.toNat))<=3:=by
 have d:nth (wg (wm l)) n.toNat∈wg (wm l):=L.wd (by omega);have c:=h.dy;unfold qc at c;simp only[ji,j6] at c;have b:=c.2.2.1 _ d;unfold lW at b;have b:=jb b;have a:=h.jbs;unfold J6 at a;have a:=j6.1 a _ d;unfold qr at a;have a:=jb a;exact⟨⟨b.2.2.1,b.2.2.2.1,b.2.2.2.2⟩,a.2.2.2.2.2.2.2.2.2.1,a.2.2.2.2.2.2.2.2.2.2.1⟩
theorem Om {l:LgD} (h:xw l) {n:Int} (e:0<=n/\n<((wg (wm l)).length:Int)) {tm:List Int} (f:tm.length<=8):CE (sw l n tm):=by
 obtain⟨⟨a,b,c⟩,d⟩:=JC h e;exact⟨h.ta,a,b,c,d,f,by show-100000<=(0:Int)/\(0:Int)<=1440;omega⟩
theorem CF (t:Int) (n:Nat):(Kg t n).length<=n/\∀p∈Kg t n,0<=p/\p<(n:Int):=by
 unfold Kg;refine⟨?_,fun p c=> ?_⟩;rw[zr];exact jD (zX _ _) (by rw[zI];exact jk _);obtain⟨b,a,rfl⟩:=jT.1 c;have:=jC.1 (jP.1 a).1;omega
theorem jbk {l:LgD} (h:xw l):(we (wi (wm l))).length<=8:=by
 have a:=h.crw;unfold wz at a;rw[ji] at a;exact(jb a.1).2.2.1
theorem On {l:LgD} (h:xw l) {n:Int} (d:0<=n/\n<((wg (wm l)).length:Int)):JA (il l n):=by
 have g:=jbk h;have f:=(CF (nth (d8 (wm l)) n.toNat) (we (wi (wm l))).length).1;have a:CE (sw l n (qg l n (we (wi (wm l))).length)):=Om h d (by unfold qg;omega);have e:=h.tr.2 _ (L.wd (show n.toNat<(Fs l).length by rw[h.tr.1];omega));have c:=TJ a;have b:=TK a e;exact⟨⟨a.ta,a.st,a.en,a.e2,a.kd,a.tm,a.mi⟩,c,⟨b.1,Int.le_trans b.2 (by decide)⟩⟩
theorem cC {l:LgD} {n:Int} {k:Nat} (h:k<(w9 l).length):wh l n (k+1)=sx n (wh l n k) (nth (w9 l) k):=by
 unfold wh;rw[L.wG h,jV];rfl
theorem Fj {l:LgD} (h:xw l) {n:Int} (a:0<=n/\n<((wg (wm l)).length:Int)):∀k,k<=(w9 l).length->JA (wh l n k)
 |0,_=>On h a
 |k+1,hk=>by
  rw[cC (by omega)]
  unfold sx
  have b:=Fj h a k (by omega)
  split
  exact GY b (h.cl.2 _ (L.wd (show k<(w9 l).length by omega))).2.2
  exact b
theorem JD {l:LgD} (h:xw l) {n:Int} (a:0<=n/\n<((wg (wm l)).length:Int)):JA (wK l n):=Fj h a _ (jk _)
theorem P9 (m:Int) (b:BlD):qL (yQ m b)=qL b/\yZ (yQ m b)=yZ b/\M8 (yQ m b)=M8 b/\M9 (yQ m b)=M9 b/\vg (yQ m b)=vg b/\pg (yQ m b)=pg b/\El (yQ m b)=El b:=by
 unfold yQ
 split
 exact⟨rfl,rfl,rfl,rfl,rfl,rfl,rfl⟩;exact⟨rfl,rfl,rfl,rfl,rfl,rfl,rfl⟩
theorem vw (l:LgD) (n:Int):∀k,k<=(w9 l).length->qL (wh l n k)=qL (il l n)/\yZ (wh l n k)=yZ (il l n)/\M8 (wh l n k)=M8 (il l n)/\M9 (wh l n k)=M9 (il l n)/\vg (wh l n k)=vg (il l n)/\
 pg (wh l n k)=pg (il l n)/\El (wh l n k)=El (il l n)
 |0,_=>⟨rfl,rfl,rfl,rfl,rfl,rfl,rfl⟩
 |k+1,hk=>by
  rw[cC (by omega)]
  unfold sx
  have a:=vw l n k (by omega)
  split
  obtain⟨c1,c2,b,c,d,e,f⟩:=P9 (UM (nth (w9 l) k)) (wh l n k)
  rw[c1,c2,b,c,d,e,f];exact a
  exact a
abbrev blS:Sh:= .box 85 [.dat .int,.dat .int,.dat .int,.dat .int,.dat .int,.dat .int,.dat .int,.dat .int,.dat .int,.dat .int,.dat .int,.dat .int,.dat .int,.dat .int,.dat .int,.dat .int,.dat .int,.dat (.slice .int),.dat (.slice tNo),.dat .int,.dat .int,.dat (.slice .int),.dat .int,.dat .int,.dat .bool,.dat .int]
def blX (x:Sh.D blS) (w t:Int) (c:Bool) (m:Int):Sh.D blS:=(x.1,x.2.1,x.2.2.1,x.2.2.2.1,x.q4.1,x.q4.2.1,x.q4.2.2.1,x.q4.2.2.2.1,x.q4.q4.1,x.q4.q4.2.1,x.q4.q4.2.2.1,x.q4.q4.2.2.2.1,x.q4.q4.q4.1,x.q4.q4.q4.2.1,x.q4.q4.q4.2.2.1,x.q4.q4.q4.2.2.2.1,x.q4.q4.q4.q4.1,x.q4.q4.q4.q4.2.1,x.q4.q4.q4.q4.2.2.1,x.q4.q4.q4.q4.2.2.2.1,x.q4.q4.q4.q4.q4.1,x.q4.q4.q4.q4.q4.2.1,w,t,c,m,())
namespace U
def qS (x:Sh.D blS):BlD:=
 (((x.1,x.2.1,x.2.2.1,x.2.2.2.1,x.q4.1,x.q4.2.1,()),x.q4.2.2.1,x.q4.2.2.2.1,x.q4.q4.1,()),
  (x.q4.q4.2.1,x.q4.q4.2.2.1,x.q4.q4.2.2.2.1,x.q4.q4.q4.1,x.q4.q4.q4.2.1,x.q4.q4.q4.2.2.1,x.q4.q4.q4.2.2.2.1,x.q4.q4.q4.q4.1,x.q4.q4.q4.q4.2.1,x.q4.q4.q4.q4.2.2.1,()),
  x.q4.q4.q4.q4.2.2.2.1,x.q4.q4.q4.q4.q4.1,x.q4.q4.q4.q4.q4.2.1,x.q4.q4.q4.q4.q4.2.2.1,x.q4.q4.q4.q4.q4.2.2.2.1,x.q4.q4.q4.q4.q4.q4.1,x.q4.q4.q4.q4.q4.q4.2.1,())
def Uv (m:Int) (b:BlD):Bool:=sC (yQ m b)
def Uw (m:Int) (b:BlD):Int:=ph (yQ m b)
def Ux (m:Int) (c:CaD):Bool:=(kV (QW c) 0 99&&kV (jaI c) 0 (m-1))&&kV (UM c) (-100000) 1440
end U
def ac:wL:=⟨[.val .int,.val .int,.val .int],[.bool],false,fun _=>[],fun d=>(kV d.1 d.2.1 d.2.2.1,())⟩
def Mv:Prop:=∀(d:CaD),(decide (d.2.1<=d.1)&&decide (d.1<=d.2.2.1),())=(kV d.1 d.2.1 d.2.2.1,())
def bv:wL:=⟨[.val .int],[.bool],false,fun _=>[],fun d=>(U.share d.1,())⟩
def Qa:Prop:=∀(d:Int×Unit),(kV d.1 (0:Int) (100:Int),())=(U.share d.1,())
def iG:wL:=⟨[.val (.slice tNo),.fn [tNo] [.bool]],[.int],false,fun d=>[∀g∈d.1,wl (d.2.1.pre (g,()))],fun d=>(yE (kX (α:=NoD) d.2.1.F) d.1,())⟩
def iH:Ann:=fun r=>match r with
 |2=>some fun σ=>{X:=Nat,sl:=fun i=>[(8,.dat .int (i:Int))],ob:=fun _=>[],inv:=fun i=>i<=(gd (.slice tNo) σ 0).length/\∀b:Nat,b<i->kX (gfb tNo σ 1) (nth (gd (.slice tNo) σ 0) b)=false,mu:=fun i=>(gd (.slice tNo) σ 0).length-i}
 |_=>none
def iI:Prop:=∀(d:List (Int×Int×Unit)×FnD [tNo] [Ty.bool]×Unit),(∀(g:Int×Int×Unit),g∈d.1->wl (d.2.1.1 (g,())))->d.1.length<4611686018427387904->(∃(x:Nat),((0=(x:Int)/\True)/\True)/\x<=d.1.length/\∀(b:Nat),b<x->kX d.2.1.2 (nth d.1 b)=false)/\∀(x:Nat),(x<=d.1.length/\∀(b:Nat),b<x->kX d.2.1.2 (nth d.1 b)=false)->(decide ((x:Int)<d.1.length)=true->0<=(x:Int)/\(x:Int)<d.1.length/\asks (d.2.1.1 (nth d.1 x,())) (((d.2.1.2 (nth d.1 x,())).1=true->((x:Int),())=(yE (kX d.2.1.2) d.1,()))/\((d.2.1.2 (nth d.1 x,())).1=false->wq ((x:Int)+1)/\∃(a:Nat),(((x:Int)+1=(a:Int)/\True)/\True)/\(a<=d.1.length/\∀(b:Nat),b<a->kX d.2.1.2 (nth d.1 b)=false)/\d.1.length-a<d.1.length-x)))/\(decide ((x:Int)<d.1.length)=false->((-1:Int),())=(yE (kX d.2.1.2) d.1,()))
def mW:wL:=⟨[.val (.slice tCa),.fn [tCa] [.bool]],[.int],false,fun d=>[∀g∈d.1,wl (d.2.1.pre (g,()))],fun d=>(yE (kX (α:=CaD) d.2.1.F) d.1,())⟩
def mX:Ann:=fun r=>match r with
 |2=>some fun σ=>{X:=Nat,sl:=fun i=>[(8,.dat .int (i:Int))],ob:=fun _=>[],inv:=fun i=>i<=(gd (.slice tCa) σ 0).length/\∀b:Nat,b<i->kX (gfb tCa σ 1) (nth (gd (.slice tCa) σ 0) b)=false,mu:=fun i=>(gd (.slice tCa) σ 0).length-i}
 |_=>none
def mY:Prop:=∀(d:List CaD×FnD [tCa] [Ty.bool]×Unit),(∀(g:CaD),g∈d.1->wl (d.2.1.1 (g,())))->d.1.length<4611686018427387904->(∃(x:Nat),((0=(x:Int)/\True)/\True)/\x<=d.1.length/\∀(b:Nat),b<x->kX d.2.1.2 (nth d.1 b)=false)/\∀(x:Nat),(x<=d.1.length/\∀(b:Nat),b<x->kX d.2.1.2 (nth d.1 b)=false)->(decide ((x:Int)<d.1.length)=true->0<=(x:Int)/\(x:Int)<d.1.length/\asks (d.2.1.1 (nth d.1 x,())) (((d.2.1.2 (nth d.1 x,())).1=true->((x:Int),())=(yE (kX d.2.1.2) d.1,()))/\((d.2.1.2 (nth d.1 x,())).1=false->wq ((x:Int)+1)/\∃(a:Nat),(((x:Int)+1=(a:Int)/\True)/\True)/\(a<=d.1.length/\∀(b:Nat),b<a->kX d.2.1.2 (nth d.1 b)=false)/\d.1.length-a<d.1.length-x)))/\(decide ((x:Int)<d.1.length)=false->((-1:Int),())=(yE (kX d.2.1.2) d.1,()))
def fK:wL:=⟨[.val (.slice tCa),.fn [tCa] [.bool]],[.bool],false,fun d=>[∀g∈d.1,wl (d.2.1.pre (g,()))],fun d=>(d.1.any (kX (α:=CaD) d.2.1.F),())⟩
def fL:Prop:=∀(d:List CaD×FnD [tCa] [Ty.bool]×Unit),(∀(g:CaD),g∈d.1->wl (d.2.1.1 (g,())))->(∀(g:CaD),g∈d.1->wl (d.2.1.1 (g,())))/\(decide (0<=yE (kX d.2.1.2) d.1),())=(d.1.any (kX d.2.1.2),())
def xy:wL:=⟨[.val .int,.rfn [.int] [.bool]],[.bool],false,fun d=>[wl (d.2.1.pre (d.1,()))],fun d=>(!(kX (α:=Int) d.2.1.F d.1),())⟩
def xz:Prop:=∀(d:Int×FnD [Ty.int] [Ty.bool]×Unit),wl (d.2.1.1 (d.1,()))->asks (d.2.1.1 (d.1,())) ((!(d.2.1.2 (d.1,())).1,())=(!kX d.2.1.2 d.1,()))
def cQ:wL:=⟨[.val (.slice .int),.fn [.int] [.bool]],[.bool],false,fun d=>[∀g∈d.1,wl (d.2.1.pre (g,()))],fun d=>(d.1.all (kX (α:=Int) d.2.1.F),())⟩
def DU:Prop:=∀(d:List Int×FnD [Ty.int] [Ty.bool]×Unit),(∀(g:Int),g∈d.1->wl (d.2.1.1 (g,())))->(∀(g:Int),g∈d.1->wl [wl (d.2.1.1 (g,()))])/\(!d.1.any (kX fun(a:Int×Unit)=>(!kX d.2.1.2 a.1,())),())=(d.1.all (kX d.2.1.2),())
def tL:wL:=⟨[.val tCa,.rfn [tCa] [.bool]],[.bool],false,fun d=>[wl (d.2.1.pre (d.1,()))],fun d=>(!(kX (α:=CaD) d.2.1.F d.1),())⟩
def tM:Prop:=∀(d:CaD×FnD [tCa] [Ty.bool]×Unit),wl (d.2.1.1 (d.1,()))->asks (d.2.1.1 (d.1,())) ((!(d.2.1.2 (d.1,())).1,())=(!kX d.2.1.2 d.1,()))
def CG:wL:=⟨[.val (.slice tCa),.fn [tCa] [.bool]],[.bool],false,fun d=>[∀g∈d.1,wl (d.2.1.pre (g,()))],fun d=>(d.1.all (kX (α:=CaD) d.2.1.F),())⟩
def CH:Prop:=∀(d:List CaD×FnD [tCa] [Ty.bool]×Unit),(∀(g:CaD),g∈d.1->wl (d.2.1.1 (g,())))->(∀(g:CaD),g∈d.1->wl [wl (d.2.1.1 (g,()))])/\(!d.1.any (kX fun(a:CaD×Unit)=>(!kX d.2.1.2 a.1,())),())=(d.1.all (kX d.2.1.2),())
def JE:wL:=⟨[.val tCa,.ref .int],[.bool],false,fun d=>[0<=d.2.1,d.2.1<=4611686018427387904],fun d=>(Ux d.2.1 d.1,())⟩
def JF:Prop:=∀(d:CaD×Int×Unit),0<=d.2.1->d.2.1<=4611686018427387904->(kV d.1.1 (0:Int) 99=true->wq (d.2.1-1))/\(kV d.1.1 (0:Int) (99:Int)&&kV d.1.2.1 (0:Int) (d.2.1-1)&&kV d.1.2.2.1 (-100000:Int) (1440:Int),())=(Ux d.2.1 d.1,())
def JG:wL:=⟨[.val .int],[.bool],false,fun _=>[],fun d=>(Kf d.1,())⟩
def JH:Prop:=∀(d:Int×Unit),(kV d.1 (0:Int) (20:Int),())=(Kf d.1,())
def JI:wL:=⟨[.val .int],[.bool],false,fun _=>[],fun d=>(uI d.1,())⟩
def JJ:Prop:=∀(d:Int×Unit),(kV d.1 (0:Int) (300:Int),())=(uI d.1,())
def YV:wL:=⟨[.val .int,.val .int],[.int],false,fun d=>[0<=d.1,0<d.2.1,d.1<=4611686018427387904,d.2.1<=1000000000],fun d=>(U.up d.1 d.2.1,())⟩
def YW:Prop:=∀(d:Int×Int×Unit),0<=d.1->0<d.2.1->d.1<=4611686018427387904->d.2.1<=1000000000->wq (d.1+d.2.1)/\wq (d.1+d.2.1-1)/\d.2.1≠0/\wq ((d.1+d.2.1-1).tdiv d.2.1)/\((d.1+d.2.1-1).tdiv d.2.1,())=(U.up d.1 d.2.1,())
def Mw:wL:=⟨[.val tBo],[.bool],false,fun _=>[],fun _=>(true,())⟩
def Mx:Prop:=∀(_:BoD×Unit),(true,())=(true,())
def rX:wL:=⟨[.val tBo,.val .int],[.bool],false,fun d=>[(wg (wm (bW d.1))).length<=100],fun d=>(qo d.1 d.2.1,())⟩
def rY:Prop:=∀(d:BoD×Int×Unit),(wg (wm (bW d.1))).length<=100->d.1.1.1.2.2.1.length<4611686018427387904->wq ((d.1.1.1.2.2.1.length:Int)-1)/\(kV d.2.1 (0:Int) ((d.1.1.1.2.2.1.length:Int)-1),())=(qo d.1 d.2.1,())
def CI:wL:=⟨[.ref tBl],[.int],false,fun d=>[Em d.1],fun d=>(yT d.1,())⟩
abbrev jfk (d:BlD×Unit):=(min d.1.1.2.2.2.1 d.1.2.1.q4.1-d.1.1.2.2.1)
abbrev jfl (d:BlD×Unit):=(d.1.1.2.2.2.1-max d.1.1.2.2.1 d.1.2.1.2.2.2.1)
def CJ:Prop:=∀(d:BlD×Unit),Em d.1->wq (jfl d)/\wq (jfk d)/\wq (max (0:Int) (jfl d)+max (0:Int) (jfk d))/\(max (0:Int) (jfl d)+max (0:Int) (jfk d),())=(yT d.1,())
def xA:qB:=⟨[.own blS true,.val .int],[],fun d=>[Em (qS d.1),0<=d.2.1,d.2.1<=300],fun d=>((),(blX d.1 (aW (qS d.1)) (bY d.2.1 (qS d.1)) (sC (qS d.1)) (ph (qS d.1)),()))⟩
abbrev jdy (d:XbD×Int×Unit):=(d.1.q4.q4.1-d.1.q4.2.2.2.1)
abbrev jdo (d:XbD×Int×Unit):=(U.up (jdy d) d.1.q4.q4.2.1)
abbrev jcX (d:XbD×Int×Unit):=d.1.q4.q4.2.2.2.1
abbrev jcO (d:XbD×Int×Unit):=d.1.q4.q4.2.2.1
abbrev jdz (d:XbD×Int×Unit):=d.1.q4.q4.q4.2.2.1
abbrev jdT (d:XbD×Int×Unit):=d.1.q4.q4.q4.2.2.2.1
abbrev jeJ (d:XbD×Int×Unit):=d.1.q4.q4.q4.q4.q4.2.1
abbrev jcP (d:XbD×Int×Unit):=((jeJ d).length:Int)
abbrev jfm (d:XbD×Int×Unit):=d.1.q4.q4.q4.q4.q4.1
abbrev jfn (d:XbD×Int×Unit):=d.1.q4.q4.q4.q4.2.2.2.1
abbrev jeK (d:XbD×Int×Unit):=(((d.1.1,d.1.2.1,d.1.2.2.1,d.1.2.2.2.1,d.1.q4.1,d.1.q4.2.1,()),d.1.q4.2.2.1,d.1.q4.2.2.2.1,d.1.q4.q4.1,()),(d.1.q4.q4.2.1,(jcO d),(jcX d),d.1.q4.q4.q4.1,d.1.q4.q4.q4.2.1,(jdz d),(jdT d),d.1.q4.q4.q4.q4.1,d.1.q4.q4.q4.q4.2.1,d.1.q4.q4.q4.q4.2.2.1,()),(jfn d),(jfm d),(jeJ d),(jcP d)*(jcO d)*max (jcX d) (jdo d),d.1.q4.q4.q4.q4.q4.2.2.2)
abbrev jfo (d:XbD×Int×Unit):=((jcP d)*(jcO d)*max (jcX d) (jdo d)*(jdz d)*yT (jeK d))
def xB:Prop:=∀(d:XbD×Int×Unit),Em (qS d.1)->0<=d.2.1->d.2.1<=300->wq (jdy d)/\wq ((jcP d)*(jcO d))/\0<=d.1.q4.q4.1-d.1.q4.2.2.2.1/\0<d.1.q4.q4.2.1/\d.1.q4.q4.1-d.1.q4.2.2.2.1<=4611686018427387904/\d.1.q4.q4.2.1<=1000000000/\wq ((jcP d)*(jcO d)*max (jcX d) (jdo d))/\wq ((jcP d)*(jcO d)*max (jcX d) (jdo d)*(jdz d))/\Em (jeK d)/\wq (jfo d)/\wq ((100:Int)*(jdy d))/\0<=(jcP d)*(jcO d)*max (jcX d) (jdo d)*(jdz d)*yT (jeK d)/\(0:Int)<100*(jdy d)/\(jcP d)*(jcO d)*max (jcX d) (jdo d)*(jdz d)*yT (jeK d)<=4611686018427387904/\(100:Int)*(jdy d)<=1000000000/\wq ((jcP d)*(jcO d)*max (jcX d) (jdo d)+U.up (jfo d) ((100:Int)*(jdy d)))/\wq ((jcP d)*(jdT d))/\wq ((jcP d)*(jdT d)*d.2.1)/\()=()/\((d.1.1,d.1.2.1,d.1.2.2.1,d.1.2.2.2.1,d.1.q4.1,d.1.q4.2.1,d.1.q4.2.2.1,d.1.q4.2.2.2.1,d.1.q4.q4.1,d.1.q4.q4.2.1,(jcO d),(jcX d),d.1.q4.q4.q4.1,d.1.q4.q4.q4.2.1,(jdz d),(jdT d),d.1.q4.q4.q4.q4.1,d.1.q4.q4.q4.q4.2.1,d.1.q4.q4.q4.q4.2.2.1,(jfn d),(jfm d),(jeJ d),(jcP d)*(jcO d)*max (jcX d) (jdo d)+U.up (jfo d) ((100:Int)*(jdy d)),(jcP d)*(jdT d)*d.2.1,d.1.q4.q4.q4.q4.q4.q4),())=((d.1.1,d.1.2.1,d.1.2.2.1,d.1.2.2.2.1,d.1.q4.1,d.1.q4.2.1,d.1.q4.2.2.1,d.1.q4.2.2.2.1,d.1.q4.q4.1,d.1.q4.q4.2.1,(jcO d),(jcX d),d.1.q4.q4.q4.1,d.1.q4.q4.q4.2.1,(jdz d),(jdT d),d.1.q4.q4.q4.q4.1,d.1.q4.q4.q4.q4.2.1,d.1.q4.q4.q4.q4.2.2.1,(jfn d),(jfm d),(jeJ d),aW (qS d.1),bY d.2.1 (qS d.1),sC (qS d.1),ph (qS d.1),()),())
def DV:qB:=⟨[.own blS true,.val .int],[],fun _=>[],fun d=>((),(blX d.1 (pg (qS d.1)) (El (qS d.1)) (Uv d.2.1 (qS d.1)) (Uw d.2.1 (qS d.1)),()))⟩
abbrev jf3 (d:XbD×Int×Unit):=((d.1.1,d.1.2.1,d.1.2.2.1,d.1.2.2.2.1,d.1.q4.1,d.1.q4.2.1,d.1.q4.2.2.1,d.1.q4.2.2.2.1,d.1.q4.q4.1,d.1.q4.q4.2.1,d.1.q4.q4.2.2.1,d.1.q4.q4.2.2.2.1,d.1.q4.q4.q4.1,d.1.q4.q4.q4.2.1,d.1.q4.q4.q4.2.2.1,d.1.q4.q4.q4.2.2.2.1,d.1.q4.q4.q4.q4.1,d.1.q4.q4.q4.q4.2.1,d.1.q4.q4.q4.q4.2.2.1,d.1.q4.q4.q4.q4.2.2.2.1,d.1.q4.q4.q4.q4.q4.1,d.1.q4.q4.q4.q4.q4.2.1,pg (qS d.1),El (qS d.1),Uv d.2.1 (qS d.1),Uw d.2.1 (qS d.1),()),())
abbrev jf4 (d:XbD×Int×Unit):=(decide (d.2.1<=d.1.q4.2.2.2.1)&&(!d.1.q4.q4.q4.q4.q4.q4.1||decide (d.2.1<d.1.q4.q4.q4.q4.q4.q4.2.1)))
def DW:Prop:=∀(d:XbD×Int×Unit),((jf4 d)=true->()=()/\((d.1.1,d.1.2.1,d.1.2.2.1,d.1.2.2.2.1,d.1.q4.1,d.1.q4.2.1,d.1.q4.2.2.1,d.1.q4.2.2.2.1,d.1.q4.q4.1,d.1.q4.q4.2.1,d.1.q4.q4.2.2.1,d.1.q4.q4.2.2.2.1,d.1.q4.q4.q4.1,d.1.q4.q4.q4.2.1,d.1.q4.q4.q4.2.2.1,d.1.q4.q4.q4.2.2.2.1,d.1.q4.q4.q4.q4.1,d.1.q4.q4.q4.q4.2.1,d.1.q4.q4.q4.q4.2.2.1,d.1.q4.q4.q4.q4.2.2.2.1,d.1.q4.q4.q4.q4.q4.1,d.1.q4.q4.q4.q4.q4.2.1,d.1.q4.q4.q4.q4.q4.2.2.1,d.1.q4.q4.q4.q4.q4.2.2.2.1,true,d.2),())=(jf3 d))/\((jf4 d)=false->()=()/\(d.1,())=(jf3 d))
def xC:wL:=⟨[.val tNo,.ref tBl],[.bool],false,fun d=>[Em d.2.1],fun d=>(d9 d.2.1 d.1,())⟩
def xD:Prop:=∀(d:(Int×Int×Unit)×BlD×Unit),Em d.2.1->wq (d.2.1.1.2.2.1-d.2.1.q4.q4.1)/\(decide (d.1.1<=d.2.1.1.2.2.1-d.2.1.q4.q4.1),())=(d9 d.2.1 d.1,())
def DX:wL:=⟨[.val tBl],[tLn],false,fun d=>[pb d.1],fun d=>(qA d.1,())⟩
abbrev jeg (d:BlD×Unit):=(kX fun(a:(Int×Int×Unit)×Unit)=>(d9 d.1 a.1,()))
abbrev jdd (d:BlD×Unit):=d.1.2.1.q4.2.2.2.1
abbrev jdp (d:BlD×Unit):=d.1.2.1.q4.q4.2.1
abbrev jfp (d:BlD×Unit):=(nth (jdp d) (yE (jeg d) (jdp d)).toNat)
abbrev jcI (d:BlD×Unit):=d.1.q4.2.1
abbrev jeh (d:BlD×Unit):=(((jcI d)+d.1.q4.2.2.1)*nth d.1.2.1.q4.q4.1 d.1.1.1.q4.1.toNat)
abbrev jei (d:BlD×Unit):=(((jcI d)+0)*nth d.1.2.1.q4.q4.1 d.1.1.1.q4.1.toNat)
abbrev jdA (d:BlD×Unit):=((jcI d)*(jfp d).2.1)
abbrev jej (d:BlD×Unit):=((U.up (jdA d) (100:Int)+0)*nth d.1.2.1.q4.q4.1 d.1.1.1.q4.1.toNat)
abbrev jfq (d:BlD×Unit):=(d.1.2.1.q4.q4.1.length:Int)
def DY:Prop:=∀(d:BlD×Unit),pb d.1->(d.1.q4.2.2.2.1=true->(∀(g:Int×Int×Unit),g∈(jdp d)->wl [Em d.1])/\(decide (0<=yE (jeg d) (jdp d))=true->0<=yE (jeg d) (jdp d)/\yE (jeg d) (jdp d)<((jdp d).length:Int)/\wq (jdA d)/\0<=(jcI d)*(jfp d).2.1/\(0:Int)<100/\(jcI d)*(jfp d).2.1<=4611686018427387904/\(100:Int)<=1000000000/\wq (U.up (jdA d) (100:Int)+0)/\0<=d.1.1.1.q4.1/\d.1.1.1.q4.1<(jfq d)/\wq (jej d)/\(100:Int)≠0/\wq ((jej d).tdiv (100:Int))/\wq (U.up (jdA d) (100:Int)+0)/\wq (U.up (jdA d) (100:Int)+0-min (jdd d) ((jej d).tdiv (100:Int)))/\((d.1.2.2.2.1,d.1.2.2.1,U.up (jdA d) (100:Int),(0:Int),min (jdd d) ((jej d).tdiv (100:Int)),U.up (jdA d) (100:Int)+0-min (jdd d) ((jej d).tdiv (100:Int)),()),())=(qA d.1,()))/\(decide (0<=yE (jeg d) (jdp d))=false->wq ((jcI d)+0)/\0<=d.1.1.1.q4.1/\d.1.1.1.q4.1<(jfq d)/\wq (jei d)/\(100:Int)≠0/\wq ((jei d).tdiv (100:Int))/\wq ((jcI d)+0)/\wq ((jcI d)+0-min (jdd d) ((jei d).tdiv (100:Int)))/\((d.1.2.2.2.1,d.1.2.2.1,(jcI d),(0:Int),min (jdd d) ((jei d).tdiv (100:Int)),(jcI d)+0-min (jdd d) ((jei d).tdiv (100:Int)),()),())=(qA d.1,())))/\(d.1.q4.2.2.2.1=false->wq ((jcI d)+d.1.q4.2.2.1)/\0<=d.1.1.1.q4.1/\d.1.1.1.q4.1<(jfq d)/\wq (jeh d)/\(100:Int)≠0/\wq ((jeh d).tdiv (100:Int))/\wq ((jcI d)+d.1.q4.2.2.1)/\wq ((jcI d)+d.1.q4.2.2.1-min (jdd d) ((jeh d).tdiv (100:Int)))/\((d.1.2.2.2.1,d.1.2.2.1,(jcI d),d.1.q4.2.2.1,min (jdd d) ((jeh d).tdiv (100:Int)),(jcI d)+d.1.q4.2.2.1-min (jdd d) ((jeh d).tdiv (100:Int)),()),())=(qA d.1,()))
def xE:wL:=⟨[.val tBl,.val .int],[.int],false,fun d=>[pb d.1,-100000<=d.2.1,d.2.1<=1440],fun d=>(y4 d.2.1 d.1,())⟩
abbrev jeL (d:BlD×Int×Unit):=(qS (d.1.1.1.1,d.1.1.1.2.1,d.1.1.1.2.2.1,d.1.1.1.2.2.2.1,d.1.1.1.q4.1,d.1.1.1.q4.2.1,d.1.1.2.1,d.1.1.2.2.1,d.1.1.2.2.2.1,d.1.2.1.1,d.1.2.1.2.1,d.1.2.1.2.2.1,d.1.2.1.2.2.2.1,d.1.2.1.q4.1,d.1.2.1.q4.2.1,d.1.2.1.q4.2.2.1,d.1.2.1.q4.2.2.2.1,d.1.2.1.q4.q4.1,d.1.2.1.q4.q4.2.1,d.1.2.2))
abbrev jf5 (d:BlD×Int×Unit):=(d.1.1,d.1.2.1,d.1.2.2.1,d.1.2.2.2.1,d.1.q4.1,pg (jeL d),El (jeL d),Uv d.2.1 (jeL d),Uw d.2.1 (jeL d),())
def xF:Prop:=∀(d:BlD×Int×Unit),pb d.1->(-100000:Int)<=d.2.1->d.2.1<=1440->pb (jf5 d)/\(qA (jf5 d)).q4.2=(y4 d.2.1 d.1,())
theorem Qb:Mv:=fun _=>rfl
theorem v8:wU PR 37 ac:=wF Qb Tryz.func37 kcN koN
theorem TO:Qa:=fun _=>rfl
theorem Fk:wU PR 87 bv:=wF TO Tryz.func87 (kcC v8 kcN) koN
theorem lS:iI:=by
 rintro⟨l,f,⟨⟩⟩ a g;refine⟨⟨0,⟨⟨rfl,tZ⟩,tZ⟩,jw _,fun b c=>by omega⟩,fun i hi=>⟨fun h=> ?_,fun h=> ?_⟩⟩;have h:i<l.length:=(by simpa using h);simp only at*;refine⟨by omega,by omega,vl _ (a _ (L.wd h)) ⟨fun c=> ?_,fun c=>⟨iZ6,i+1,⟨⟨by simp,tZ⟩,tZ⟩,⟨by omega,fun b d=> ?_⟩,by omega⟩⟩⟩;rw[yg (p:=kX (α:=NoD) f.F) h hi.2 c];by_cases e:b=i;subst e;exact c;exact hi.2 b (by omega);have h:l.length<=i:=(by simpa using h);rw[qX (p:=kX (α:=NoD) f.F) h hi.2]
theorem iJ:wU PR 70 iG:=yi iH lS Tryz.func70 kcN koN
theorem o4:mY:=by
 rintro⟨l,f,⟨⟩⟩ a g;refine⟨⟨0,⟨⟨rfl,tZ⟩,tZ⟩,jw _,fun b c=>by omega⟩,fun i hi=>⟨fun h=> ?_,fun h=> ?_⟩⟩;have h:i<l.length:=(by simpa using h);simp only at*;refine⟨by omega,by omega,vl _ (a _ (L.wd h)) ⟨fun c=> ?_,fun c=>⟨iZ6,i+1,⟨⟨by simp,tZ⟩,tZ⟩,⟨by omega,fun b d=> ?_⟩,by omega⟩⟩⟩;rw[yg (p:=kX (α:=CaD) f.F) h hi.2 c];by_cases e:b=i;subst e;exact c;exact hi.2 b (by omega);have h:l.length<=i:=(by simpa using h);rw[qX (p:=kX (α:=CaD) f.F) h hi.2]
theorem mZ:wU PR 134 mW:=yi mX o4 Tryz.func134 kcN koN
theorem iK:fL:=by
 rintro⟨l,f,⟨⟩⟩ a;refine⟨a,?_⟩;exact jS (·,()) (fo (kX (α:=CaD) f.F) l)
theorem fM:wU PR 89 fK:=wF iK Tryz.func89 (kcC mZ kcN) koN
theorem CK:xz:=by
 intro d h;exact vl _ h rfl
theorem xG:wU PR 85 xy:=wF CK Tryz.func85 kcN koN
theorem G0:DU:=by
 intro d h;exact⟨fun g a=>⟨h g a,tZ⟩,jS (·,()) (re d.snd.fst.2 d.fst)⟩
theorem nA:wU PR 52 cQ:=wF G0 Tryz.func52 (kcC yj (kcC xG kcN)) koN
theorem xH:tM:=by
 intro d h;exact vl _ h rfl
theorem tN:wU PR 90 tL:=wF xH Tryz.func90 kcN koN
theorem DZ:CH:=by
 intro d h;exact⟨fun g a=>⟨h g a,tZ⟩,jS (·,()) (re d.snd.fst.2 d.fst)⟩
theorem CL:wU PR 56 CG:=wF DZ Tryz.func56 (kcC fM (kcC tN kcN)) koN
theorem My:JF:=by
 rintro⟨c,m,⟨⟩⟩ a b;have a:0<=m:=a;have b:m<=4611686018427387904:=b;exact⟨fun _=>L.Ep (by show _<=m-1;omega) (by show m-1<=_;omega),rfl⟩
theorem JK:wU PR 51 JE:=wF My Tryz.func51 (kcC v8 kcN) koN
theorem Mz:JH:=fun _=>rfl
theorem JL:wU PR 53 JG:=wF Mz Tryz.func53 (kcC v8 kcN) koN
theorem MA:JJ:=fun _=>rfl
theorem JM:wU PR 54 JI:=wF MA Tryz.func54 (kcC v8 kcN) koN
theorem jar:YW:=by
 rintro⟨a,b,⟨⟩⟩ c d e f;have c:0<=a:=c;have d:0<b:=d;have e:a<=4611686018427387904:=e;have f:b<=1000000000:=f;have g:=TH c d;refine⟨L.Ep (by show _<=a+b;omega) (by show a+b<=_;omega),L.Ep (by show _<=a+b-1;omega) (by show a+b-1<=_;omega),by show b≠0;omega,CD (x:=U.up a b) (B:=4611686018427387904) ⟨g.1,by omega⟩ (by omega),rfl⟩
theorem TP:wU PR 72 YV:=wF jar Tryz.func72 kcN koN
theorem Qc:Mx:=fun _=>rfl
theorem CM:wU PR 59 Mw:=wF Qc Tryz.func59 kcN koN
theorem tO:rY:=by
 intro d a b;have a:(wg (wm (bW d.1))).length<=100:=a;exact⟨L.Ep (by show _<=((wg (wm (bW d.1))).length:Int)-1;omega) (by show((wg (wm (bW d.1))).length:Int)-1<=_;omega),rfl⟩
theorem gC:wU PR 36 rX:=wF tO Tryz.func36 (kcC v8 kcN) koN
theorem D0:CJ:=by
 unfold CJ jfl jfk Prod.q4;rintro⟨b,⟨⟩⟩ a;have h:CE b:=rW.1 a;have d:=h.st;have e:=h.en;have f:=h.e2;have g:=h.ta.dk;have i:=h.ta.dw;have c:=Oh h;refine⟨?_,?_,CD (B:=2880) c (by omega),rfl⟩;show wq (mB (qL b)-max (qR (qL b)) (WI (yZ b)));exact iZ6;show wq (min (mB (qL b)) (Zm (yZ b))-qR (qL b));exact iZ6
theorem CN:wU PR 108 CI:=wF D0 Tryz.func108 kcN koN
theorem CO:xB:=by
 unfold xB jfo jeK jfn jfm jcP jeJ jdT jdz jcO jcX jdo jdy Prod.q4;intro d k v w;obtain⟨b,B⟩:∃b,b=qS d.1:=⟨_,rfl⟩;have h:CE (qS d.1):=rW.1 k;have x:=h.st;have y:=h.en;have z:=h.e2;have A:=h.ta.un;have l:=jao h;have j:=Xn h;have m:=TJ h;have n:wq (mB (qL (qS d.1))-qR (qL (qS d.1))):=iZ6;have e2:0<=mB (qL (qS d.1))-qR (qL (qS d.1)):=(by omega);have o:0<UK (yZ (qS d.1)):=(by omega);have p:mB (qL (qS d.1))-qR (qL (qS d.1))<=4611686018427387904:=(by omega);have q:UK (yZ (qS d.1))<=1000000000:=(by omega);have r:wq (100*(mB (qL (qS d.1))-qR (qL (qS d.1)))):=iZ6;have s:100*(mB (qL (qS d.1))-qR (qL (qS d.1)))<=1000000000:=(by omega);have t:wq (aW (qS d.1)):=CD m (by omega);have u:wq (bY d.2.1 (qS d.1)):=CD (TK h ⟨v,w⟩) (by omega);have a:=CD (jam h) (by omega);have c:=CD (Ms h) (by omega);have e:=CD (jan h) (by omega);have f:=CD j (by omega);have g:l5 (qS d.1)*UL (yZ (qS d.1))*yT (qS d.1)<=4611686018427387904:=(by omega);have i:=CD (jaq h) (by omega);exact⟨n,a,e2,o,p,q,c,e,k,f,r,j.1,l.1,g,s,t,i,u,rfl,rfl⟩
theorem xI:gq PR 68 xA:=BI CO Tryz.func68 (kcC TP (kcC CN kcN)) koN
theorem MB (m:Int) (b:BlD):yQ m b=(qL b,yZ b,M8 b,M9 b,vg b,pg b,El b,Uv m b,Uw m b,()):=by
 unfold Uv Uw yQ
 split
 rfl;rfl
theorem G1:DW:=by
 unfold DW jf4 jf3 Prod.q4;intro d;have a:(decide (d.2.1<=qR (qL (qS d.1)))&&(!sC (qS d.1)||decide (d.2.1<ph (qS d.1))))=true↔(d.2.1<=qR (qL (qS d.1))/\(sC (qS d.1)=false\/d.2.1<ph (qS d.1))):=by
  simp only[ji,zo,jp,jO]
 refine⟨fun h=>⟨rfl,?_⟩,fun h=>⟨rfl,?_⟩⟩;have e:yQ d.2.1 (qS d.1)=(qL (qS d.1),yZ (qS d.1),M8 (qS d.1),M9 (qS d.1),vg (qS d.1),pg (qS d.1),El (qS d.1),true,d.2.1,()):=by
  unfold yQ;rw[jh (a.1 h)]
 have b:Uv d.2.1 (qS d.1)=true:=jS sC e;have e2:Uw d.2.1 (qS d.1)=d.2.1:=jS ph e;rw[b,e2];rfl;have h:(decide (d.2.1<=qR (qL (qS d.1)))&&(!sC (qS d.1)||decide (d.2.1<ph (qS d.1))))=false:=h;have e:yQ d.2.1 (qS d.1)=qS d.1:=by
  unfold yQ;rw[jc (fun c=>by rw[a.2 c] at h;cases h)]
 have b:Uv d.2.1 (qS d.1)=sC (qS d.1):=jS sC e;have e2:Uw d.2.1 (qS d.1)=ph (qS d.1):=jS ph e;rw[b,e2];rfl
theorem nB:gq PR 69 DV:=BI G1 Tryz.func69 kcN koN
theorem CP:xD:=by
 unfold xD Prod.q4;rintro⟨n,b,⟨⟩⟩ a;have h:CE b:=rW.1 a;have c:=h.st;have d:=h.en;have e:=h.e2;have f:=h.mi;refine⟨?_,rfl⟩;show wq (qR (qL b)-ph b);exact iZ6
theorem xJ:wU PR 71 xC:=wF CP Tryz.func71 kcN koN
theorem G2:DY:=by
 unfold DY jfq jej jdA jei jeh jcI jfp jdp jdd jeg Prod.q4;rintro⟨b,⟨⟩⟩ m;have h:JA b:=bh.1 m;have hk:=h.bl.kd;have k:fO (y9 (qL b))<((aQ (yZ b)).length:Int):=(by have:=TL h.bl;omega);have l:=TM h.bl;have j:=h.bl.ta.cp;refine⟨fun a=>⟨fun g _=>⟨m.1,tZ⟩,fun hi=> ?_,fun hi=> ?_⟩,fun a=> ?_⟩;have hi:0<=QJ b:=jb hi;obtain⟨o,p,_⟩:=Jz hi;have f:=Oi h o;have n:=TH (b:=100) f.1 (by omega);have d:qQ b=U.up (pg b*Xs (nth (eA (yZ b)) (QJ b).toNat)) 100:=jh ⟨a,hi⟩;have c:vj b=0:=jh a;refine⟨hi,p,CD f (by omega),f.1,by decide,Int.le_trans f.2 (by decide),by decide,?_⟩;refine Mt (w:=U.up (pg b*Xs (nth (eA (yZ b)) (QJ b).toNat)) 100) (t:=0) (cp:=QI (yZ b)) (pc:=nth (aQ (yZ b)) (fO (y9 (qL b))).toNat) ⟨n.1,Int.le_trans n.2 f.2⟩ ⟨by omega,by omega⟩ j l hk.1 k ?_;have e:qA b=(M9 b,M8 b,qQ b,vj b,min (QI (yZ b)) (((qQ b+vj b)*nth (aQ (yZ b)) (fO (y9 (qL b))).toNat).tdiv 100),qQ b+vj b-min (QI (yZ b)) (((qQ b+vj b)*nth (aQ (yZ b)) (fO (y9 (qL b))).toNat).tdiv 100),()):=rfl;rw[d,c] at e;show _=(qA b,());rw[e];rfl;have hi:¬0<=QJ b:=je hi;have d:qQ b=pg b:=jc (fun i=>hi i.2);have c:vj b=0:=jh a;refine Mt (w:=pg b) (t:=0) (cp:=QI (yZ b)) (pc:=nth (aQ (yZ b)) (fO (y9 (qL b))).toNat) ⟨h.wk.1,by have:=h.wk.2;omega⟩ ⟨by omega,by omega⟩ j l hk.1 k ?_;have e:qA b=(M9 b,M8 b,qQ b,vj b,min (QI (yZ b)) (((qQ b+vj b)*nth (aQ (yZ b)) (fO (y9 (qL b))).toNat).tdiv 100),qQ b+vj b-min (QI (yZ b)) (((qQ b+vj b)*nth (aQ (yZ b)) (fO (y9 (qL b))).toNat).tdiv 100),()):=rfl;rw[d,c] at e;show _=(qA b,());rw[e];rfl;have a:sC b=false:=a;have d:qQ b=pg b:=jc (fun i=>by rw[a] at i;cases i.1);have c:vj b=El b:=jc (by rw[a];decide);refine Mt (w:=pg b) (t:=El b) (cp:=QI (yZ b)) (pc:=nth (aQ (yZ b)) (fO (y9 (qL b))).toNat) ⟨h.wk.1,by have:=h.wk.2;omega⟩ h.tr j l hk.1 k ?_;have e:qA b=(M9 b,M8 b,qQ b,vj b,min (QI (yZ b)) (((qQ b+vj b)*nth (aQ (yZ b)) (fO (y9 (qL b))).toNat).tdiv 100),qQ b+vj b-min (QI (yZ b)) (((qQ b+vj b)*nth (aQ (yZ b)) (fO (y9 (qL b))).toNat).tdiv 100),()):=rfl;rw[d,c] at e;show _=(qA b,());rw[e];rfl
theorem ao:wU PR 38 DX:=wF G2 Tryz.func38 (kcC TP (kcC iJ (kcC xJ kcN))) koN
theorem CQ:xF:=by
 unfold xF jf5 jeL Prod.q4;rintro⟨b,m,⟨⟩⟩ a c d;have e:=MB m b;have h:JA b:=bh.1 a;have hk:=bh.2 (GY (m:=m) h ⟨c,d⟩);refine⟨?_,?_⟩;show pb (qL b,yZ b,M8 b,M9 b,vg b,pg b,El b,Uv m b,Uw m b,());rw[<-e];exact hk;show(qA (qL b,yZ b,M8 b,M9 b,vg b,pg b,El b,Uv m b,Uw m b,())).2.2.2.2.2=_;rw[<-e];rfl
theorem f9:wU PR 39 xE:=wF CQ Tryz.func39 (kcC ao kcN) (koC nB koN)
@[irreducible] def We (C:Ctx) (A:Ann) (c:Code) (σ:St) (K:Ex->St->Prop):Prop:=vcg C A c σ K
theorem Wf {C:Ctx} {A:Ann} {c:Code} {σ:St} {K:Ex->St->Prop} (h:We C A c σ K):vcg C A c σ K:=by unfold We at h;exact h
structure FE where
 pre:NoD×Unit->Int->List Prop
 K:NoD×Unit->Int->(Bool×Unit)×Int
namespace U
def gx (K:NoD×Unit->Int->(Bool×Unit)×Int):NoD×Unit->Int->(Bool×Unit)×Int:=fun x s=>((!(K (x.1,()) s).1.1,()),(K (x.1,()) s).2)
def De (pre:NoD×Unit->Int->List Prop):NoD×Unit->Int->List Prop:=fun x s=>[wl (pre (x.1,()) s)]
def vz (K:NoD×Unit->Int->(Bool×Unit)×Int):Nat->List NoD->Int->Int×Int
 |_,[],s=>(-1,s)
 |i,n::r,s=>match(K (n,()) s).1.1 with
  |true=>((i:Int),(K (n,()) s).2)
  |false=>vz K (i+1) r (K (n,()) s).2
def ci (pre:NoD×Unit->Int->List Prop) (K:NoD×Unit->Int->(Bool×Unit)×Int):List NoD->Int->Prop
 |[],_=>True
 |n::r,s=>wl (pre (n,()) s)/\((K (n,()) s).1.1=false->ci pre K r (K (n,()) s).2)
def OB:NoD×Unit->Int->(Bool×Unit)×Int:=fun x s=>((Hr s x.1,()),UJ x.1)
def jaK:NoD×Unit->Int->List Prop:=fun _ s=>[-4611686018427387904<=s,s<=4611686018427387904]
end U
def YX (st:Ty) (ps rs:List Ty) (pre:(Ty.st ps).Data->st.Data->List Prop) (K:(Ty.st ps).Data->st.Data->(Ty.st rs).Data×st.Data):Option FE:=
 if a:st= .int then if b:ps=[tNo] then if c:rs=[.bool] then some ⟨by subst a;subst b;exact pre,by subst a;subst b;subst c;exact K⟩ else none else none else none
def jaZ:SV->Option (Nat×FE)
 | .fe false o T st ps rs pre K=>match Nat.beq T 3,YX st ps rs pre K with
  |true,some y=>some (o,y)
  |_,_=>none
 |_=>none
def jbl (σ:St) (b:Nat):Option (Nat×FE):=match σ.obj b with
 |some (.box _ _ [c])=>jaZ c
 |_=>none
def TQ (σ:St) (o:Nat):Option Int:=match σ.obj o with
 |some (.box T false [c])=>match Nat.beq T 3,yr σ .int c with
  |true,some (s,[])=>some s
  |_,_=>none
 |_=>none
def TR (σ:St):List SV->Option Out
 |[a,b]=>match yr σ (.slice tNo) a,jaZ b with
  |some (l,fz),some (o,y)=>match aX fz o,TQ σ o with
   |false,some s=>some ⟨[ci y.pre y.K l s],[],uK [.int] ((vz y.K 0 l s).1,()),fz,[(o,some (.box 3 false [.dat .int (vz y.K 0 l s).2]))],[]⟩
   |_,_=>none
  |_,_=>none
 |_=>none
def TS (σ:St):List SV->Option Out
 |[a,.clo f [.bp b 0]]=>match Nat.beq f 133,yr σ (.slice tNo) a,jbl σ b with
  |true,some (l,fz),some (o,y)=>match aX (b::fz) o,TQ σ o with
   |false,some s=>some ⟨[ci (De y.pre) (gx y.K) l s],[],uK [.bool] (decide (0<=(vz (gx y.K) 0 l s).1),()),b::fz,[(o,some (.box 3 false [.dat .int (vz (gx y.K) 0 l s).2]))],[]⟩
   |_,_=>none
  |_,_,_=>none
 |_=>none
def Wg (σ:St):List SV->Option Out
 |[a,.clo f [.bp o 0]]=>match Nat.beq f 86,yr σ (.slice tNo) a with
  |true,some (l,fz)=>match aX fz o,TQ σ o with
   |false,some s=>some ⟨[ci (De jaK) (gx OB) l s],[],uK [.bool] (!decide (0<=(vz (gx OB) 0 l s).1),()),fz,[(o,some (.box 3 false [.dat .int (vz (gx OB) 0 l s).2]))],[]⟩
   |_,_=>none
  |_,_=>none
 |_=>none
def Xo (n:Nat) (fs:List (Nat×wL)) (k:Nat) (e:St->List SV->Option Out):Ctx:=⟨n,ti,fs,fun f _ σ svs=>match Nat.beq f k with|true=>e σ svs|false=>none,strs,false⟩
def cR:Prop:=∀(n:NoD) (s:Int),-4611686018427387904<=s->s<=4611686018427387904->
 We (ctx 18 [(37,ac),(87,bv)] []) (fun _=>none) (wS Tryz.f86) ⟨[(0,.dat tNo n),(1,.bp yL 0)],[(yL,some (.box 3 false [.dat .int s]))]⟩
  (lj (ctx 18 [(37,ac),(87,bv)] []) Tryz.f86 3 .int [.bool] (OB (n,()) s))
def lT:Prop:=∀(n:NoD) (s:Int),(-4611686018427387904:Int)<=s->s<=4611686018427387904->wq (s-1)/\(kV n.1 (0:Int) (s-1)&&U.share n.2.1,())=(OB (n,()) s).1/\n.1=(OB (n,()) s).2
theorem rZ:(cR)=lT:=by kernel_rfl
def gD:Prop:=∀(n:NoD) (y:FE) (s:Int),wl (y.pre (n,()) s)->
 We (ctx 8 [] []) (fun _=>none) (wS Tryz.f133) ⟨[(0,.dat tNo n),(1,.fe true yL 3 .int [tNo] [.bool] y.pre y.K)],[(yL,some (.box 3 false [.dat .int s]))]⟩
  (lj (ctx 8 [] []) Tryz.f133 3 .int [.bool] (gx y.K (n,()) s))
def bN:Prop:=∀(n:NoD) (y:FE) (s:Int),wl (y.pre (n,()) s)->asks (y.1 (n,()) s) ((!(y.2 (n,()) s).1.1,())=(gx y.2 (n,()) s).1/\(y.2 (n,()) s).2=(gx y.2 (n,()) s).2)
theorem iL:(gD)=bN:=by kernel_rfl
def TT (K:NoD×Unit->Int->(Bool×Unit)×Int) (pre:NoD×Unit->Int->List Prop) (s:Int):Ann:=fun r=>match r with
 |2=>some fun σ=>{X:=Nat×Int,sl:=fun x=>[(8,.dat .int (x.1:Int))],ob:=fun x=>[(yL,some (.box 3 false [.dat .int x.2]))],inv:=fun x=>x.1<=(gd (.slice tNo) σ 0).length/\vz K x.1 ((gd (.slice tNo) σ 0).drop x.1) x.2=vz K 0 (gd (.slice tNo) σ 0) s/\ci pre K ((gd (.slice tNo) σ 0).drop x.1) x.2,mu:=fun x=>(gd (.slice tNo) σ 0).length-x.1}
 |_=>none
def dV:Prop:=∀(l:List NoD) (y:FE) (s:Int),ci y.pre y.K l s->
 We (ctx 19 [] []) (TT y.K y.pre s) (wS Tryz.f70) ⟨[(0,.dat (.slice tNo) l),(1,.fe false yL 3 .int [tNo] [.bool] y.pre y.K)],[(yL,some (.box 3 false [.dat .int s]))]⟩
  (lj (ctx 19 [] []) Tryz.f70 3 .int [.int] (((vz y.K 0 l s).1,()),(vz y.K 0 l s).2))
abbrev jek (l:List NoD)(x:Nat×Int):=(nth l (x.1:Int).toNat,())
def yW:Prop:=∀(l:List NoD) (y:FE) (s:Int),ci y.pre y.K l s->l.length<4611686018427387904->(∃(x:Nat×Int),((0=(x.1:Int)/\True)/\(s=x.2/\True)/\True)/\x.1<=l.length/\vz y.2 x.1 (List.drop x.1 l) x.2=vz y.2 0 l s/\ci y.1 y.2 (List.drop x.1 l) x.2)/\∀(x:Nat×Int),x.1<=l.length/\vz y.2 x.1 (List.drop x.1 l) x.2=vz y.2 0 l s/\ci y.1 y.2 (List.drop x.1 l) x.2->(decide ((x.1:Int)<l.length)=true->0<=(x.1:Int)/\(x.1:Int)<l.length/\asks (y.1 (jek l x) x.2) (((y.2 (jek l x) x.2).1.1=true->((x.1:Int),())=((vz y.2 0 l s).1,())/\(y.2 (jek l x) x.2).2=(vz y.2 0 l s).2)/\((y.2 (jek l x) x.2).1.1=false->wq ((x.1:Int)+1)/\∃(a:Nat×Int),(((x.1:Int)+1=(a.1:Int)/\True)/\((y.2 (jek l x) x.2).2=a.2/\True)/\True)/\(a.1<=l.length/\vz y.2 a.1 (List.drop a.1 l) a.2=vz y.2 0 l s/\ci y.1 y.2 (List.drop a.1 l) a.2)/\l.length-a.1<l.length-x.1)))/\(decide ((x.1:Int)<l.length)=false->((-1:Int),())=((vz y.2 0 l s).1,())/\x.2=(vz y.2 0 l s).2)
theorem bi:(dV)=yW:=by kernel_rfl
def bO:Prop:=∀(l:List NoD) (y:FE) (s:Int),ci y.pre y.K l s->
 We (Xo 9 [] 70 TR) (fun _=>none) (wS Tryz.f132) ⟨[(0,.dat (.slice tNo) l),(1,.fe false yL 3 .int [tNo] [.bool] y.pre y.K)],[(yL,some (.box 3 false [.dat .int s]))]⟩
  (lj (Xo 9 [] 70 TR) Tryz.f132 3 .int [.bool] ((decide (0<=(vz y.K 0 l s).1),()),(vz y.K 0 l s).2))
def yo:Prop:=∀(l:List NoD) (y:FE) (s:Int),ci y.pre y.K l s->ci y.1 y.2 l s/\(decide (0<=(vz y.2 0 l s).1),())=(decide (0<=(vz y.2 0 l s).1),())/\(vz y.2 0 l s).2=(vz y.2 0 l s).2
theorem ae:(bO)=yo:=by kernel_rfl
def xK:Prop:=∀(l:List NoD) (y:FE) (s:Int),ci (De y.pre) (gx y.K) l s->
 We (Xo 9 [] 132 TS) (fun _=>none) (wS Tryz.f88) ⟨[(0,.dat (.slice tNo) l),(1,.fe false yL 3 .int [tNo] [.bool] y.pre y.K)],[(yL,some (.box 3 false [.dat .int s]))]⟩
  (lj (Xo 9 [] 132 TS) Tryz.f88 3 .int [.bool] ((!decide (0<=(vz (gx y.K) 0 l s).1),()),(vz (gx y.K) 0 l s).2))
def dW:Prop:=∀(l:List NoD) (y:FE) (s:Int),ci (De y.pre) (gx y.K) l s->ci (De y.1) (gx y.2) l s/\(!decide (0<=(vz (gx y.2) 0 l s).1),())=(!decide (0<=(vz (gx y.2) 0 l s).1),())/\(vz (gx y.2) 0 l s).2=(vz (gx y.2) 0 l s).2
theorem m0:(xK)=dW:=by kernel_rfl
def r8:wL:=⟨[.val tTa],[.bool],false,fun _=>[],fun d=>(vP d.1,())⟩
def r9:Ann:=fun r=>match r with
 |3000003=>some fun _=>{X:=Unit,sl:=fun _=>[],ob:=fun _=>[],inv:=fun _=>True,mu:=fun _=>0}
 |_=>none
abbrev jdq:=(kX fun(a:Int×Unit)=>(U.share a.1,()))
abbrev jc0 (d:TaD×Unit):=((d.1.q4.q4.2.1.length:Int)<=4)
abbrev jdr (d:TaD×Unit):=((d.1.q4.q4.1.length:Int)=4)
abbrev jc1 (d:TaD×Unit):=d.1.q4.2.2.2.1
abbrev jcQ (d:TaD×Unit):=(vP d.1,())
abbrev jc2 (d:TaD×Unit):=d.1.q4.2.2.1
def sa:Prop:=∀(d:TaD×Unit),(kV d.1.1 (1:Int) 240=true->kV d.1.1 (1:Int) 240=true/\kV d.1.1 (1:Int) 240=true/\kV d.1.1 (1:Int) 240=true/\(kV d.1.2.1 (0:Int) 10000=true->kV d.1.2.1 (0:Int) 10000=true/\kV d.1.2.1 (0:Int) 10000=true/\kV d.1.2.1 (0:Int) 10000=true/\(kV d.1.2.2.1 (0:Int) 20=true->kV d.1.2.2.1 (0:Int) 20=true/\kV d.1.2.2.1 (0:Int) 20=true/\kV d.1.2.2.1 (0:Int) 20=true/\(kV d.1.2.2.2.1 (0:Int) 1440=true->kV d.1.2.2.2.1 (0:Int) 1440=true/\kV d.1.2.2.2.1 (0:Int) 1440=true/\kV d.1.2.2.2.1 (0:Int) 1440=true/\kV d.1.2.2.2.1 (0:Int) 1440=true/\kV d.1.2.2.2.1 (0:Int) 1440=true/\(kV d.1.q4.1 (0:Int) d.1.2.2.2.1=true->kV d.1.q4.1 (0:Int) d.1.2.2.2.1=true/\kV d.1.q4.1 (0:Int) d.1.2.2.2.1=true/\kV d.1.q4.1 (0:Int) d.1.2.2.2.1=true/\(U.share d.1.q4.2.1=true->U.share d.1.q4.2.1=true/\U.share d.1.q4.2.1=true/\U.share d.1.q4.2.1=true/\(kV (jc2 d) (0:Int) 10000=true->kV (jc2 d) (0:Int) 10000=true/\kV (jc2 d) (0:Int) 10000=true/\(d.1.q4.q4.1.length<4611686018427387904->kV (jc2 d) (0:Int) 10000=true/\kV (jc2 d) (0:Int) 10000=true/\(decide (jdr d)=true->decide (jdr d)=true/\decide (jdr d)=true/\(∀(g:Int),g∈d.1.q4.q4.1->wl [])/\decide (jdr d)=true/\(d.1.q4.q4.1.all jdq=true->d.1.q4.q4.1.all jdq=true/\d.1.q4.q4.1.all jdq=true/\d.1.q4.q4.1.all jdq=true/\(kV (jc1 d) (0:Int) 1000000=true->kV (jc1 d) (0:Int) 1000000=true/\kV (jc1 d) (0:Int) 1000000=true/\(d.1.q4.q4.2.1.length<4611686018427387904->kV (jc1 d) (0:Int) 1000000=true/\kV (jc1 d) (0:Int) 1000000=true/\(decide (jc0 d)=true->decide (jc0 d)=true/\decide (jc0 d)=true/\decide (jc0 d)=true/\ci (De jaK) (gx OB) d.1.q4.q4.2.1 (100001:Int)/\decide (jc0 d)=true/\(!decide (0<=(vz (gx OB) 0 d.1.q4.q4.2.1 (100001:Int)).1),())=(jcQ d))/\(decide (jc0 d)=false->decide (jc0 d)=false/\decide (jc0 d)=false/\decide (jc0 d)=false/\decide (jc0 d)=false/\(false,())=(jcQ d))))/\(kV (jc1 d) (0:Int) 1000000=false->kV (jc1 d) (0:Int) 1000000=false/\kV (jc1 d) (0:Int) 1000000=false/\kV (jc1 d) (0:Int) 1000000=false/\kV (jc1 d) (0:Int) 1000000=false/\qF/\qF/\qF/\qF/\qF/\(false,())=(jcQ d)))/\(d.1.q4.q4.1.all jdq=false->d.1.q4.q4.1.all jdq=false/\d.1.q4.q4.1.all jdq=false/\d.1.q4.q4.1.all jdq=false/\qF/\qF/\qF/\qF/\qF/\qF/\qF/\qF/\qF/\qF/\(false,())=(jcQ d)))/\(decide (jdr d)=false->decide (jdr d)=false/\decide (jdr d)=false/\decide (jdr d)=false/\qF/\qF/\qF/\qF/\qF/\qF/\qF/\qF/\qF/\qF/\qF/\qF/\qF/\qF/\(false,())=(jcQ d))))/\(kV (jc2 d) (0:Int) 10000=false->kV (jc2 d) (0:Int) 10000=false/\kV (jc2 d) (0:Int) 10000=false/\kV (jc2 d) (0:Int) 10000=false/\kV (jc2 d) (0:Int) 10000=false/\qF/\qF/\qF/\qF/\qF/\qF/\qF/\qF/\qF/\qF/\qF/\qF/\qF/\qF/\qF/\qF/\qF/\qF/\(false,())=(jcQ d)))/\(U.share d.1.q4.2.1=false->U.share d.1.q4.2.1=false/\U.share d.1.q4.2.1=false/\U.share d.1.q4.2.1=false/\qF/\qF/\qF/\qF/\qF/\qF/\qF/\qF/\qF/\qF/\qF/\qF/\qF/\qF/\qF/\qF/\qF/\qF/\qF/\qF/\qF/\qF/\qF/\(false,())=(jcQ d)))/\(kV d.1.q4.1 (0:Int) d.1.2.2.2.1=false->kV d.1.q4.1 (0:Int) d.1.2.2.2.1=false/\kV d.1.q4.1 (0:Int) d.1.2.2.2.1=false/\kV d.1.q4.1 (0:Int) d.1.2.2.2.1=false/\qF/\qF/\qF/\qF/\qF/\qF/\qF/\qF/\qF/\qF/\qF/\qF/\qF/\qF/\qF/\qF/\qF/\qF/\qF/\qF/\qF/\qF/\qF/\qF/\qF/\qF/\qF/\(false,())=(jcQ d)))/\(kV d.1.2.2.2.1 (0:Int) 1440=false->kV d.1.2.2.2.1 (0:Int) 1440=false/\kV d.1.2.2.2.1 (0:Int) 1440=false/\kV d.1.2.2.2.1 (0:Int) 1440=false/\kV d.1.2.2.2.1 (0:Int) 1440=false/\kV d.1.2.2.2.1 (0:Int) 1440=false/\qF/\qF/\qF/\qF/\qF/\qF/\qF/\qF/\qF/\qF/\qF/\qF/\qF/\qF/\qF/\qF/\qF/\qF/\qF/\qF/\qF/\qF/\qF/\qF/\qF/\qF/\qF/\qF/\qF/\qF/\qF/\(false,())=(jcQ d)))/\(kV d.1.2.2.1 (0:Int) 20=false->kV d.1.2.2.1 (0:Int) 20=false/\kV d.1.2.2.1 (0:Int) 20=false/\kV d.1.2.2.1 (0:Int) 20=false/\qF/\qF/\qF/\qF/\qF/\qF/\qF/\qF/\qF/\qF/\qF/\qF/\qF/\qF/\qF/\qF/\qF/\qF/\qF/\qF/\qF/\qF/\qF/\qF/\qF/\qF/\qF/\qF/\qF/\qF/\qF/\qF/\qF/\qF/\qF/\qF/\qF/\(false,())=(jcQ d)))/\(kV d.1.2.1 (0:Int) 10000=false->kV d.1.2.1 (0:Int) 10000=false/\kV d.1.2.1 (0:Int) 10000=false/\kV d.1.2.1 (0:Int) 10000=false/\qF/\qF/\qF/\qF/\qF/\qF/\qF/\qF/\qF/\qF/\qF/\qF/\qF/\qF/\qF/\qF/\qF/\qF/\qF/\qF/\qF/\qF/\qF/\qF/\qF/\qF/\qF/\qF/\qF/\qF/\qF/\qF/\qF/\qF/\qF/\qF/\qF/\qF/\qF/\qF/\qF/\(false,())=(jcQ d)))/\(kV d.1.1 (1:Int) 240=false->kV d.1.1 (1:Int) 240=false/\kV d.1.1 (1:Int) 240=false/\kV d.1.1 (1:Int) 240=false/\qF/\qF/\qF/\qF/\qF/\qF/\qF/\qF/\qF/\qF/\qF/\qF/\qF/\qF/\qF/\qF/\qF/\qF/\qF/\qF/\qF/\qF/\qF/\qF/\qF/\qF/\qF/\qF/\qF/\qF/\qF/\qF/\qF/\qF/\qF/\qF/\qF/\qF/\qF/\qF/\qF/\qF/\qF/\qF/\qF/\(false,())=(jcQ d))
theorem xL:Zs (Xo 69 [(37,ac),(87,bv),(52,cQ)] 88 Wg) (r9) Tryz.f55 (wS Tryz.f55) r8=sa:=by kernel_rfl
theorem JN (K:NoD×Unit->Int->(Bool×Unit)×Int) (i:Nat) (n:NoD) (r:List NoD) (s:Int):vz K i (n::r) s=if(K (n,()) s).1.1=true then((i:Int),(K (n,()) s).2) else vz K (i+1) r (K (n,()) s).2:=by
 rw[vz];cases (K (n,()) s).1.1 with
 |true=>rfl
 |false=>rfl
theorem D1:lT:=by
 intro n s a b;exact⟨iZ6,rfl,rfl⟩
theorem sd:bN:=by
 intro n y s h;exact vl _ h ⟨rfl,rfl⟩
theorem dX:yW:=by
 unfold yW jek;intro l y s j m;refine⟨⟨(0,s),⟨⟨rfl,tZ⟩,⟨rfl,tZ⟩,tZ⟩,jw _,rfl,j⟩,fun x d=>⟨fun h=> ?_,fun h=> ?_⟩⟩;obtain⟨i,s1⟩:=x;have hi:i<l.length:=(by simpa using h);obtain⟨_,a,b⟩:=d;have g:l.drop i=nth l i::l.drop (i+1):=(by rw[L.ql hi];exact zY hi);simp only at a b;rw[g] at a b;rw[JN] at a;obtain⟨e,f⟩:=b;simp only[ju];refine⟨by omega,by omega,vl _ e ⟨fun k=> ?_,fun c=>⟨iZ6,(i+1,(y.2 (nth l i,()) s1).2),⟨⟨by simp,tZ⟩,⟨rfl,tZ⟩,tZ⟩,⟨hi,?_,f c⟩,by simp only;omega⟩⟩⟩;rw[jh k] at a;rw[<-a];exact⟨rfl,rfl⟩;rw[jc (by rw[c];decide)] at a;exact a;obtain⟨i,s1⟩:=x;have hi:l.length<=i:=(by simpa using h);obtain⟨_,a,_⟩:=d;simp only at a;rw[List.drop_eq_nil_of_le hi] at a;have a:((-1:Int),s1)=vz y.2 0 l s:=a;rw[<-a];exact⟨rfl,rfl⟩
theorem bP:yo:=fun _ _ _ h=>⟨h,rfl,rfl⟩
theorem xM:dW:=fun _ _ _ h=>⟨h,rfl,rfl⟩
theorem TU {P:Program} {C:Ctx} {w:World} (g:C.ok P) (m:P.follows .mixedOrders=true) {f:Nat} {fn:Func} {body:Code} (j:P.funcs[f]? =some fn) (i:fn.body=some body)
 (o:fn.ntmps=C.n) (A:Ann) {T:Nat} {st:Ty} {rs:List Ty} {a:(Ty.st rs).Data×st.Data} {s:st.Data} {sl:List (Nat×SV)} {vals:List Value}
 (q:We C A body ⟨sl,[(yL,some (.box T false [.dat st s]))]⟩ (lj C fn T st rs a)) (c:Nat.ble vals.length C.n=true)
 {H:Imm} {b:Nat} {u:Value} (l:ew H w) (h:H b=none) (r:w.heap[b]? =some (.cells #[u] T (0,0))) (e:st.agg=false) (p:st.rv H u s)
 (d:∀ρ:Env,ρ.H=H->ρ.blk yL=some (some (b,0))->∀k v,wA sl k=some v->∃x,vals[k]? =some x/\SV.den P ρ v x):
 Calls P f vals.toArray w (OI H w b T st rs a):=
 jba g m j i o A (jx c) (Wf q) l h r e p d
abbrev FnG (H:Imm) (b:Nat) (y:FE) (v:Value):Prop:=FnE PR H b 3 .int [tNo] [.bool] y.pre y.K v
theorem TV {H:Imm} {t:Ty} {vals:List Value} {x:(Ty.st [t]).Data} (h:rvs H [t] vals x):∃v,vals=[v]/\t.rv H v x.1:=by
 match vals,h with
 |[v],h=>exact⟨v,rfl,h.1⟩
 |[],h=>exact h.elim
 |_::_::_,h=>have:=h.2;simp[rvs] at this
theorem TW (q:gD) {H:Imm} {b:Nat} {y:FE} {i:Value} {g:Nat} (l:FnG H b y i) (m:H g=some (.cells #[i])):
 FnG H b ⟨De y.pre,gx y.K⟩ (.func (.func 133) #[] #[.pointer (some ⟨g,0,none⟩)]):=by
 refine⟨133,_,rfl,q8 Tryz.func133 (c:=wS Tryz.f133) (by kernel_rfl) (by kernel_rfl),fun H' w vals x s u j o n z r t f=> ?_⟩;obtain⟨v,rfl,h⟩:=TV t;have key:=TU (P:=PR) (C:=ctx 8 [] []) (ny trivial trivial) mixed Tryz.func133 (body:=wS Tryz.f133) (by kernel_rfl) (by kernel_rfl) (fun _=>none) (T:=3) (st:= .int) (rs:=[.bool])
  (vals:=[v,.pointer (some ⟨g,0,none⟩)]) (q x.1 y s f.1) (by kernel_rfl) o n z rfl r
 refine key (fun ρ d e k sv hk=> ?_)
 match k,hk with
 |0,hk=>
  have hk:some (SV.dat tNo x.1)=some sv:=hk;simp only[jy] at hk;subst hk;exact⟨v,rfl,by simp only[SV.den];rw[d];exact h⟩
 |1,hk=>
  have hk:some (SV.fe true yL 3 .int [tNo] [.bool] y.pre y.K)=some sv:=hk;simp only[jy] at hk;subst hk;refine⟨_,rfl,?_⟩;simp only[SV.den];intro p a;rw[e] at a;simp at a;subst a;refine⟨b,0,rfl,i,?_,g,rfl,?_⟩;rw[d];exact FnE.mono j l;rw[d];exact j _ _ m
 |k+2,hk=>cases hk
theorem Qd (j:cR) (H:Imm) (b:Nat):FnG H b ⟨jaK,OB⟩ (.func (.func 86) #[] #[.pointer (some ⟨b,0,none⟩)]):=by
 refine⟨86,_,rfl,q8 Tryz.func86 (c:=wS Tryz.f86) (by kernel_rfl) (by kernel_rfl),fun H' w vals x s u o i h n l m a=> ?_⟩;obtain⟨v,rfl,f⟩:=TV m;have key:=TU (P:=PR) (C:=ctx 18 [(37,ac),(87,bv)] []) (ny ⟨fun _=>v8,fun _=>Fk,tZ⟩ trivial) mixed Tryz.func86 (body:=wS Tryz.f86) (by kernel_rfl) (by kernel_rfl) (fun _=>none) (T:=3) (st:= .int) (rs:=[.bool])
  (vals:=[v,.pointer (some ⟨b,0,none⟩)]) (j x.1 s a.1 a.2.1) (by kernel_rfl) i h n rfl l
 refine key (fun ρ g e k sv hk=> ?_)
 match k,hk with
 |0,hk=>
  have hk:some (SV.dat tNo x.1)=some sv:=hk;simp only[jy] at hk;subst hk;exact⟨v,rfl,by simp only[SV.den];rw[g];exact f⟩
 |1,hk=>
  have hk:some (SV.bp yL 0)=some sv:=hk;simp only[jy] at hk;subst hk;refine⟨_,rfl,?_⟩;simp only[SV.den];intro p d;rw[e] at d;simp at d;subst d;exact⟨b,0,rfl,rfl⟩
 |k+2,hk=>cases hk
def EN (f:Nat) (rs:List Ty) (pre:FE->List NoD->Int->Prop) (K:FE->List NoD->Int->(Ty.st rs).Data×Int):Prop:=
 ∀(l:List NoD) (y:FE) (s:Int) (H:Imm) (w:World) (b:Nat) (lv a u:Value),ew H w->H b=none->w.heap[b]? =some (.cells #[u] 3 (0,0))->Ty.int.rv H u s->
  (Ty.slice tNo).rv H lv l->FnG H b y a->pre y l s->Calls PR f #[lv,a] w (OI H w b 3 .int rs (K y l s))
theorem YY {C:Ctx} (j:C.ok PR) {f:Nat} {fn:Func} {body:Code} (o:PR.funcs[f]? =some fn) (m:fn.body=some body) (t:fn.ntmps=C.n) (i:Nat.ble 2 C.n=true) (A:FE->Int->Ann) {rs:List Ty}
 {pre:FE->List NoD->Int->Prop} {K:FE->List NoD->Int->(Ty.st rs).Data×Int}
 (x:∀(l:List NoD) (y:FE) (s:Int),pre y l s->We C (A y s) body ⟨[(0,.dat (.slice tNo) l),(1,.fe false yL 3 .int [tNo] [.bool] y.pre y.K)],[(yL,some (.box 3 false [.dat .int s]))]⟩ (lj C fn 3 .int rs (K y l s))):EN f rs pre K:=by
 intro l y s H w b lv h u q g z v r B d;have key:=TU (P:=PR) j mixed o m t (A y s) (T:=3) (st:= .int) (rs:=rs) (vals:=[lv,h]) (x l y s d) i q g z rfl v;refine key (fun ρ e c k sv hk=> ?_)
 match k,hk with
 |0,hk=>
  have hk:some (SV.dat (.slice tNo) l)=some sv:=hk;simp only[jy] at hk;subst hk;exact⟨lv,rfl,by simp only[SV.den];rw[e];exact r⟩
 |1,hk=>
  have hk:some (SV.fe false yL 3 .int [tNo] [.bool] y.pre y.K)=some sv:=hk;simp only[jy] at hk;subst hk;refine⟨_,rfl,?_⟩;simp only[SV.den];intro p a;rw[c] at a;simp at a;subst a;exact⟨b,0,rfl,h,by rw[e];exact B,rfl⟩
 |k+2,hk=>cases hk
theorem tP {σ:St} {o:Nat} {s:Int} (h:TQ σ o=some s):∃c,σ.obj o=some (.box 3 false [c])/\yr σ .int c=some (s,[]):=by
 unfold TQ at h
 split at h
 case h_2=>cases h
 rename_i T c d
 split at h
 case h_2=>cases h
 rename_i e a b;simp at h;subst h;have:=ja a;subst this;exact⟨c,d,b⟩
theorem Qe {q:Bool} {o T:Nat} {st:Ty} {ps rs:List Ty} {pre:(Ty.st ps).Data->st.Data->List Prop} {K:(Ty.st ps).Data->st.Data->(Ty.st rs).Data×st.Data} {y:FE} (h:YX st ps rs pre K=some y):
 SV.fe q o T st ps rs pre K=SV.fe q o T .int [tNo] [.bool] y.pre y.K:=by
 unfold YX at h
 split at h
 case isFalse=>cases h
 rename_i a
 split at h
 case isFalse=>cases h
 rename_i b
 split at h
 case isFalse=>cases h
 rename_i c;subst a;subst b;subst c;simp at h;subst h;rfl
theorem JO {v:SV} {o:Nat} {y:FE} (h:jaZ v=some (o,y)):v= .fe false o 3 .int [tNo] [.bool] y.pre y.K:=by
 unfold jaZ at h
 split at h
 case h_2=>cases h
 rename_i o' T st ps rs pre K
 split at h
 case h_2=>cases h
 rename_i c a b;simp at h;obtain⟨rfl,rfl⟩:=h;have:=ja a;subst this;exact Qe b
theorem TX {σ:St} {b o:Nat} {y:FE} (h:jbl σ b=some (o,y)):∃T fz,σ.obj b=some (.box T fz [.fe false o 3 .int [tNo] [.bool] y.pre y.K]):=by
 unfold jbl at h
 split at h
 case h_2=>cases h
 rename_i d fz c a;rw[JO h] at a;exact⟨_,_,a⟩
abbrev jbm (y:FE) (l:List NoD) (s:Int):(Ty.st [.int]).Data×Int:=(((vz y.K 0 l s).1,()),(vz y.K 0 l s).2)
abbrev jbn (y:FE) (l:List NoD) (s:Int):(Ty.st [.bool]).Data×Int:=((decide (0<=(vz y.K 0 l s).1),()),(vz y.K 0 l s).2)
abbrev jbo (y:FE) (l:List NoD) (s:Int):(Ty.st [.bool]).Data×Int:=((!decide (0<=(vz (gx y.K) 0 l s).1),()),(vz (gx y.K) 0 l s).2)
theorem MC (L:EN 70 [.int] (fun y l s=>ci y.pre y.K l s) jbm) {σ:St} {svs:List SV} {out:Out} (h:TR σ svs=some out) {B:qw} {ρ:Env} {w:World} {vals:List Value} (I:Sat PR B ρ σ.obj w) (C:SV.denL PR ρ svs vals)
 (t:vC out.vc):Calls PR 70 vals.toArray w (fun e w'=>∃v,e= .returned v/\wu PR B ρ σ out v w'):=by
 unfold TR at h
 split at h
 case h_2=>cases h
 rename_i a c
 split at h
 case h_2=>cases h
 rename_i l fz o y M n
 split at h
 case h_2=>cases h
 rename_i s q O;simp at h;subst h;obtain⟨S,_⟩:=t;have F:=JO n;subst F;simp only[SV.denL] at C;obtain⟨D,_,rfl,E,vc,_,rfl,x,rfl⟩:=C;obtain⟨c,R,J⟩:=tP O;refine lk (st:= .int) (rs:=[.int]) (r:=jbm y l s) I fz q R rfl (fun ρ1 b V u d g f N G Q m=> ?_);have A:=vS σ fz;have P:=wx d A J (fun o i=>by simp at i) m;have p:=wx d A M (fun o i=>i) (SV.den_mono g a D (fun o i=>by simp at i) E);simp only[SV.den] at x;obtain⟨W,C',z,T,k,j⟩:=x _ (by rw[<-f];exact N);simp at z;obtain⟨rfl,rfl⟩:=z;have j:vc=T:=j;subst j;exact L l y s ρ1.H w b D vc u d.good G Q P p (FnE.mono g.H k) S
theorem MD (D:gD) (he:EN 132 [.bool] (fun y l s=>ci y.pre y.K l s) jbn) {σ:St} {svs:List SV} {out:Out} (h:TS σ svs=some out) {B:qw} {ρ:Env} {w:World} {vals:List Value} (hS:Sat PR B ρ σ.obj w)
 (R:SV.denL PR ρ svs vals) (L:vC out.vc):Calls PR 132 vals.toArray w (fun e w'=>∃v,e= .returned v/\wu PR B ρ σ out v w'):=by
 unfold TS at h
 split at h
 case h_2=>cases h
 rename_i a f j
 split at h
 case h_2=>cases h
 rename_i l fz o y hf hl E
 split at h
 case h_2=>cases h
 rename_i s I hs;simp at h;subst h;obtain⟨q1,_⟩:=L;simp only[SV.denL] at R;obtain⟨S,_,rfl,Z,vc,_,rfl,O,rfl⟩:=R;simp only[SV.den,SV.denL] at O;obtain⟨vs,rfl,v5,_,i,Y,rfl⟩:=O;have i:vs= #[v5]:=jF.1 (by simpa using i);subst i;have:=ja hf;subst this;obtain⟨c,hx,hc⟩:=tP hs;obtain⟨W,fz5,M⟩:=TX E;refine lk (st:= .int) (rs:=[.bool]) (r:=jbn ⟨De y.pre,gx y.K⟩ l s) hS (j::fz) I hx rfl (fun ρ1 b Cp u d G k hp hH hw C=> ?_);have x:=vS σ (j::fz);have hu:=wx d x hc (fun o m=>by simp at m) C;have F:=wx d x hl (fun o m=>jl _ m) (SV.den_mono G a S (fun o m=>by simp at m) Z);have n:(σ.frz (j::fz)).obj j=some (.box W true [.fe false o 3 .int [tNo] [.bool] y.pre y.K]):=(by rw[(x j).2 (by simp),M];rfl);obtain⟨p5,J,b5,C5,N,rfl,hw5,g,_,A⟩:=d.obs j _ n;obtain⟨X,V,Q,q⟩:=Y _ (by rw[<-k];exact J);simp at Q;obtain⟨rfl,rfl⟩:=Q;subst q;simp only[SV.denL,SV.den] at g;obtain⟨T,_,t,hy,rfl⟩:=g;have t:N= #[T]:=jF.1 (by simpa using t);subst t;obtain⟨b',C',P,u',z,p⟩:=hy _ hp;simp at P;obtain⟨rfl,rfl⟩:=P;have p:T=u':=p;subst p;exact he l ⟨De y.pre,gx y.K⟩ s ρ1.H w b S _ u d.good hH hw hu F (TW D z A) q1
theorem ME (P:cR) (J:EN 88 [.bool] (fun y l s=>ci (De y.pre) (gx y.K) l s) jbo) {σ:St} {svs:List SV} {out:Out} (h:Wg σ svs=some out) {B:qw} {ρ:Env} {w:World} {vals:List Value} (G:Sat PR B ρ σ.obj w)
 (A:SV.denL PR ρ svs vals) (q:vC out.vc):Calls PR 88 vals.toArray w (fun e w'=>∃v,e= .returned v/\wu PR B ρ σ out v w'):=by
 unfold Wg at h
 split at h
 case h_2=>cases h
 rename_i a f o
 split at h
 case h_2=>cases h
 rename_i l fz L M
 split at h
 case h_2=>cases h
 rename_i s p O;simp at h;subst h;obtain⟨T,_⟩:=q;simp only[SV.denL] at A;obtain⟨C,_,rfl,E,vc,_,rfl,t,rfl⟩:=A;simp only[SV.den,SV.denL] at t;obtain⟨vs,rfl,V,_,d,D,rfl⟩:=t;have d:vs= #[V]:=jF.1 (by simpa using d);subst d;have:=ja L;subst this;obtain⟨c,S,I⟩:=tP O;refine lk (st:= .int) (rs:=[.bool]) (r:=jbo ⟨jaK,OB⟩ l s) G fz p S rfl (fun ρ1 b W u g n i N F R k=> ?_);have z:=vS σ fz;have Q:=wx g z I (fun o j=>by simp at j) k;have m:=wx g z M (fun o j=>j) (SV.den_mono n a C (fun o j=>by simp at j) E);obtain⟨X,C',x,ev⟩:=D _ (by rw[<-i];exact N);simp at x;obtain⟨rfl,rfl⟩:=x;subst ev;exact J l ⟨jaK,OB⟩ s ρ1.H w b C _ u g.good F R Q m (Qd P ρ1.H b) T
theorem MF {n:Nat} {fs:List (Nat×wL)} {k:Nat} {e:St->List SV->Option Out} (c:mF fs) (b:enters PR k)
 (j:∀σ svs out,e σ svs=some out->∀B ρ w vals,Sat PR B ρ σ.obj w->SV.denL PR ρ svs vals->vC out.vc->Calls PR k vals.toArray w (fun e w'=>∃v,e= .returned v/\wu PR B ρ σ out v w')):(Xo n fs k e).ok PR:=by
 refine⟨NI Vs,dA c,N1,rfl,fun f dst σ svs out h=> ?_⟩;have a:(match Nat.beq f k with|true=>e σ svs|false=>none)=some out:=h
 split at a
 case h_2=>cases a
 rename_i l;have:=ja l;subst this;exact⟨b,fun B ρ w vals g i d _ _=>j σ svs out a B ρ w vals g i d⟩
theorem enI:EN 70 [.int] (fun y l s=>ci y.pre y.K l s) jbm:=
 YY (C:=ctx 19 [] []) (ny trivial trivial) Tryz.func70 (body:=wS Tryz.f70) (by kernel_rfl) (by kernel_rfl) (by kernel_rfl) (fun y s=>TT y.K y.pre s) (fun l y s h=>bi.mpr dX l y s h)
theorem enC:EN 132 [.bool] (fun y l s=>ci y.pre y.K l s) jbn:=
 YY (C:=Xo 9 [] 70 TR) (MF trivial (q8 Tryz.func70 (c:=wS Tryz.f70) (by kernel_rfl) (by kernel_rfl)) (fun _ _ _ h _ _ _ _ b d a=>MC enI h b d a))
  Tryz.func132 (body:=wS Tryz.f132) (by kernel_rfl) (by kernel_rfl) (by kernel_rfl) (fun _ _ _=>none) (fun l y s h=>ae.mpr bP l y s h)
theorem enV:EN 88 [.bool] (fun y l s=>ci (De y.pre) (gx y.K) l s) jbo:=
 YY (C:=Xo 9 [] 132 TS) (MF trivial (q8 Tryz.func132 (c:=wS Tryz.f132) (by kernel_rfl) (by kernel_rfl)) (fun _ _ _ h _ _ _ _ b d a=>MD (iL.mpr sd) enC h b d a))
  Tryz.func88 (body:=wS Tryz.f88) (by kernel_rfl) (by kernel_rfl) (by kernel_rfl) (fun _ _ _=>none) (fun l y s h=>m0.mpr xM l y s h)
theorem noI:∀(l:List NoD) (i:Nat) (s:Int),(!decide (0<=(vz (gx OB) i l s).1))=uH s l
 |[],i,s=>rfl
 |n::r,i,s=>by
  rw[JN,uH]
  have a:(gx OB (n,()) s).1.1= !(Hr s n):=rfl
  have e2:(gx OB (n,()) s).2=UJ n:=rfl
  rw[a,e2]
  cases b:Hr s n with
  |true=>rw[jc (by decide),noI r (i+1) (UJ n)];rfl
  |false=>
   rw[jh (by decide)]
   have:decide (0<=(i:Int))=true:=jI (by omega)
   show(!decide (0<=(i:Int)))=_
   rw[this];rfl
theorem jbS:∀(l:List NoD) (s:Int),-4611686018427387904<=s->s<=4611686018427387904->ci (De jaK) (gx OB) l s
 |[],_,_,_=>trivial
 |n::r,s,h1,h2=>by
  refine⟨⟨⟨h1,h2,tZ⟩,tZ⟩,fun a=> ?_⟩
  have a:(!(Hr s n))=false:=a
  have a:Hr s n=true:=by simpa using a
  unfold Hr at a
  rw[ji,qE] at a
  exact jbS r (UJ n) (by omega) (by omega)
theorem JP:sa:=by
 unfold sa jc2 jcQ jc1 jdr jc0 jdq Prod.q4;rintro⟨⟨un,rt,le,dk,dw,ni,mi,cp,sb,no,⟨⟩⟩,⟨⟩⟩;have e:vP (un,rt,le,dk,dw,ni,mi,cp,sb,no,())=((kV un 1 240&&kV rt 0 10000&&kV le 0 20&&kV dk 0 1440&&kV dw 0 dk&&U.share ni&&kV mi 0 10000)&&
  (decide ((sb.length:Int)=4)&&sb.all (kX fun(x:Int×Unit)=>(U.share x.fst,()))&&kV cp 0 1000000&&decide ((no.length:Int)<=4)&&uH 100001 no)):=by
  have n:decide ((sb.length:Int)=4)=decide (sb.length=4):=decide_eq_decide.2 (by omega);have e2:decide ((no.length:Int)<=4)=decide (no.length<=4):=decide_eq_decide.2 (by omega);rw[n,e2];rfl
 simp only;refine⟨fun f=>⟨f,f,f,fun g=>⟨g,g,g,fun i=>⟨i,i,i,fun c=>⟨c,c,c,c,c,fun j=>⟨j,j,j,fun k=>⟨k,k,k,fun d=>⟨d,d,fun _=>⟨d,d,fun l=>⟨l,l,fun _ _=>tZ,l,fun m=>⟨m,m,m,fun a=>⟨a,a,fun _=>⟨a,a,fun b=>⟨b,b,b,jbS no 100001 (by omega) (by omega),b,?_⟩,fun h=> ?_⟩⟩,fun h=> ?_⟩,fun h=> ?_⟩,fun h=> ?_⟩⟩,fun h=> ?_⟩,fun h=> ?_⟩,fun h=> ?_⟩,fun h=> ?_⟩,fun h=> ?_⟩,fun h=> ?_⟩,fun h=> ?_⟩
 .rw[noI,e];simp only[f,g,i,c,j,k,d,l,m,a,b,Bool.true_and]
 all_goals
  have q:=e;simp only[h,Bool.false_and,ku] at q;simp only[h,q,and_self]
theorem G3:wU PR 55 r8:=
 ZQ (MF (n:=69) (fs:=[(37,ac),(87,bv),(52,cQ)]) (k:=88) (e:=Wg) ⟨fun _=>v8,fun _=>Fk,fun _=>nA,tZ⟩
  (q8 Tryz.func88 (c:=wS Tryz.f88) (by kernel_rfl) (by kernel_rfl)) (fun _ _ _ h _ _ _ _ b d a=>ME (rZ.mpr D1) enV h b d a))
  mixed Tryz.func55 (by kernel_rfl) (by kernel_rfl) (by kernel_rfl) (by decide) r9 (xL.mpr JP)
namespace U
def cmStep (m:List (Int×CaD)) (c:CaD):List (Int×CaD):=eB .int (QW c) c m
def pd (l:List CaD) (n:Nat):List (Int×CaD):=(l.take n).foldl cmStep []
def wP (l:LgD) (F:BoD×Unit->Bool×Unit):Bool:=(F ((l,[],()),())).1
end U
def Qf:wL:=⟨[.val tLg],[.int],false,fun d=>[(qV (wm d.1)).length<=100000],fun d=>(w8 d.1,())⟩
def Qg:Ann:=fun r=>match r with
 |14=>some fun σ=>{X:=Nat,sl:=fun i=>[(68,.dat .int (i:Int))],ob:=fun i=>[(64,some (.map false .int tCa (pd (gd (.slice tCa) σ 66) i)))],inv:=fun i=>i<=(gd (.slice tCa) σ 66).length/\∀b:Nat,b<i->aK (gd (.slice tCa) σ 66) b=false,mu:=fun i=>(gd (.slice tCa) σ 66).length-i}
 |_=>none
abbrev jdB (d:LgD×Unit):=(d.1.1.2.2.1.length:Int)
abbrev jf6 (d:LgD×Unit):=(decide ((d.1.2.2.1.length:Int)≠(jdB d))|| !d.1.2.2.1.all (kX fun(a:Int×Unit)=>(uI a.1,())))
abbrev jf7 (d:LgD×Unit):=(decide ((d.1.2.1.length:Int)≠(jdB d))|| !d.1.2.1.all (kX fun(a:Int×Unit)=>(Kf a.1,())))
abbrev jel (d:LgD×Unit):=(d.1.q4.1.length:Int)
abbrev jf8 (d:LgD×Unit):=(!vP d.1.2.2.2.1||decide (10<(jel d))|| !d.1.q4.1.all (kX fun(a:CaD×Unit)=>(Ux (jdB d) a.1,())))
abbrev jeM (d:LgD×Unit)(x:Nat):=(nth d.1.q4.1 x)
abbrev jf9 (d:LgD×Unit)(x:Nat):=(WN (wo Ty.int (jeM d x).1 (pd d.1.q4.1 x))&& !decide (wD ((0:Int),(0:Int),(0:Int),()) (wo Ty.int (jeM d x).1 (pd d.1.q4.1 x))=nth d.1.q4.1 x))
def Qh:Prop:=∀(d:LgD×Unit),(qV (wm d.1)).length<=100000->(qV d.1.1).length<=100000/\(decide (wR d.1.1≠0)=true->(wR d.1.1,())=(w8 d.1,()))/\(decide (wR d.1.1≠0)=false->d.1.1.2.2.1.length<4611686018427387904->d.1.2.1.length<4611686018427387904->((!decide ((d.1.2.1.length:Int)≠(jdB d)))=true->∀(g:Int),g∈d.1.2.1->wl [])/\((jf7 d)=true->((70:Int),())=(w8 d.1,()))/\((jf7 d)=false->d.1.2.2.1.length<4611686018427387904->((!decide ((d.1.2.2.1.length:Int)≠(jdB d)))=true->∀(g:Int),g∈d.1.2.2.1->wl [])/\((jf6 d)=true->((70:Int),())=(w8 d.1,()))/\((jf6 d)=false->((!!vP d.1.2.2.2.1)=true->d.1.q4.1.length<4611686018427387904)->((!(!vP d.1.2.2.2.1||decide (10<(jel d))))=true->∀(c:CaD),c∈d.1.q4.1->wl [0<=(jdB d),(jdB d)<=4611686018427387904])/\((jf8 d)=true->((70:Int),())=(w8 d.1,()))/\((jf8 d)=false->d.1.q4.1.length<4611686018427387904->(∃(x:Nat),((0=(x:Int)/\True)/\[]=pd d.1.q4.1 x/\True)/\x<=d.1.q4.1.length/\∀(b:Nat),b<x->aK d.1.q4.1 b=false)/\∀(x:Nat),(x<=d.1.q4.1.length/\∀(b:Nat),b<x->aK d.1.q4.1 b=false)->(decide ((x:Int)<(jel d))=true->0<=(x:Int)/\(x:Int)<(jel d)/\((jf9 d x)=true->((71:Int),())=(w8 d.1,()))/\((jf9 d x)=false->wq ((x:Int)+1)/\∃(a:Nat),(((x:Int)+1=(a:Int)/\True)/\eB Ty.int (jeM d x).1 (jeM d x) (pd d.1.q4.1 x)=pd d.1.q4.1 a/\True)/\(a<=d.1.q4.1.length/\∀(b:Nat),b<a->aK d.1.q4.1 b=false)/\d.1.q4.1.length-a<d.1.q4.1.length-x))/\(decide ((x:Int)<(jel d))=false->((0:Int),())=(w8 d.1,()))))))
theorem JQ {l:List CaD} {n:Nat} (h:n<l.length):pd l (n+1)=eB .int (QW (nth l n)) (nth l n) (pd l n):=by
 unfold pd;rw[L.wG h,jV];rfl
theorem TY (l:List CaD):∀x,x<=l.length->∀k:Int,(wo .int k (pd l x)=none->∀j,j<x->QW (nth l j)≠k)/\(∀c,wo .int k (pd l x)=some c->∃j,j<x/\nth l j=c/\QW c=k)
 |0,_,k=>⟨fun _ j a=>by omega,fun c h=>by cases h⟩
 |x+1,i,k=>by
  obtain⟨d,f⟩:=TY l x (by omega) k
  rw[JQ (show x<l.length by omega)]
  by_cases e:k=QW (nth l x)
  subst e
  rw[M.pf (kt:= .int)]
  refine⟨fun h=>(by cases h),fun c h=> ?_⟩
  simp only[jy] at h
  subst h
  exact⟨x,by omega,rfl,rfl⟩
  rw[M.cW (kt:= .int) e]
  refine⟨fun h j a=> ?_,fun c h=> ?_⟩
  by_cases e2:j=x
  subst e2;exact fun b=>e b.symm
  exact d h j (by omega)
  obtain⟨j,a,g⟩:=f c h
  exact⟨j,by omega,g⟩
theorem JR {l:List CaD} {i:Nat} (hi:i<=l.length):aK l i=true↔∃j,j<i/\QW (nth l j)=QW (nth l i)/\nth l j≠nth l i:=by
 unfold aK;rw[j9];constructor;rintro⟨x,d,h⟩;obtain⟨j,c,rfl⟩:=ze.1 d;simp only[ji,jp,jO,jE] at h;refine⟨j,by omega,?_⟩;rw[L.ql (show j<l.length by omega)];exact h;rintro⟨j,c,a,b⟩;refine⟨nth l j,ze.2 ⟨j,by omega,(L.ql (by omega)).symm⟩,?_⟩;simp only[ji,jp,jO,jE];exact⟨a,b⟩
theorem YZ {l:List CaD} {x:Nat} (u:x<l.length) (h:∀b:Nat,b<x->aK l b=false):
 (WN (wo .int (nth l x).1 (pd l x))&& !decide (wD ((0:Int),(0:Int),(0:Int),()) (wo .int (nth l x).1 (pd l x))=nth l x))=aK l x:=by
 obtain⟨k,r⟩:=TY l x (by omega) (nth l x).1;have no:∀i j,i<j->j<x->QW (nth l i)=QW (nth l j)->nth l i=nth l j:=fun i j a f s=>by
  by_cases e:nth l i=nth l j;exact e;have:=(JR (show j<=l.length by omega)).2 ⟨i,a,s,e⟩;rw[h j f] at this;cases this
 rw[jZ,JR (by omega)];cases p:wo (β:=CaD) .int (nth l x).1 (pd l x) with
 |none=>
  have k:=k p;constructor;intro t;cases t;rintro⟨j,f,e,_⟩;exact absurd e (k j f)
 |some c=>
  obtain⟨j,f,d,o⟩:=r c p;show(!decide (c=nth l x))=true↔_;rw[jO,jE];constructor;intro m;exact⟨j,f,by rw[d];exact o,by rw[d];exact m⟩;rintro⟨i,hi,q,e2⟩ g;have n:QW (nth l i)=QW (nth l j):=(by rw[d,q];exact o.symm);rcases Nat.lt_trichotomy i j with a|a|a;exact e2 (by rw[no i j a f n,d,g]);subst a;exact e2 (by rw[d,g]);exact e2 (by rw[<-no j i a hi n.symm,d,g])
theorem MG {l:List CaD} {x:Nat} (a:x<l.length) (h:aK l x=true):bX l=true:=by
 unfold bX Dd;rw[j9];exact⟨x,jC.2 a,h⟩
theorem JS {l:List CaD} (h:∀b:Nat,b<l.length->aK l b=false):bX l=false:=by
 unfold bX Dd;rw[zj];intro b a;rw[h b (jC.1 a)];decide
theorem jbp {b:Bool} (h:(!b)=true):b=false:=by cases b with|false=>rfl|true=>cases h
theorem jbq {b:Bool} (h:(!b)=false):b=true:=by cases b with|true=>rfl|false=>cases h
theorem jbT (a b:Nat) (p:Bool):(decide ((a:Int)≠(b:Int))|| !p)= !(decide (a=b)&&p):=by
 by_cases e:a=b;subst e;simp;have:(a:Int)≠(b:Int):=(by omega);simp[e,this]
theorem Y0 (l:LgD):cg l=((decide ((yC l).length=(wg (wm l)).length)&&(yC l).all Kf)&&(decide ((Fs l).length=(wg (wm l)).length)&&(Fs l).all uI)&&(vP (fR l)&&(decide ((w9 l).length<=10)&&(w9 l).all (na (wg (wm l)).length)))):=rfl
theorem TZ:Qh:=by
 unfold Qh jf9 jeM jf8 jel jf7 jf6 jdB Prod.q4;rintro⟨l,⟨⟩⟩ C;have y:∀v,wR (wm l)≠0->v=wR (wm l)->((v:Int),())=(w8 l,()):=fun v h e=>by
  unfold w8;rw[jh h,e]
 have c:¬(wR (wm l)≠0)->cg l=false->((70:Int),())=(w8 l,()):=fun h e=>by
  unfold w8;rw[jc h,jh e]
 have o:¬(wR (wm l)≠0)->cg l=true->bX (w9 l)=true->((71:Int),())=(w8 l,()):=fun h e e2=>by
  unfold w8;rw[jc h,jc (by rw[e];decide),jh e2]
 have n:¬(wR (wm l)≠0)->cg l=true->bX (w9 l)=false->((0:Int),())=(w8 l,()):=fun h e e2=>by
  unfold w8;rw[jc h,jc (by rw[e];decide),jc (by rw[e2];decide)]
 have q:=jbT (yC l).length (wg (wm l)).length ((yC l).all Kf);have r:=jbT (Fs l).length (wg (wm l)).length ((Fs l).all uI);have s:(!vP (fR l)||decide ((10:Int)<(w9 l).length)|| !(w9 l).all (na (wg (wm l)).length))= !(vP (fR l)&&(decide ((w9 l).length<=10)&&(w9 l).all (na (wg (wm l)).length))):=by
  have:decide ((10:Int)<(w9 l).length)= !decide ((w9 l).length<=10):=by
   by_cases e:(w9 l).length<=10;rw[jI e,za (by omega)];rfl;rw[za e,jI (by omega)];rfl
  rw[this];cases vP (fR l)<;>cases decide ((w9 l).length<=10)<;>rfl
 have m:=Y0 l;refine⟨C,fun h=>y _ (jb h) rfl,fun h k _=>⟨fun _ _ _=>tZ,fun g=> ?_,fun g _=>⟨fun _ _ _=>tZ,fun i=> ?_,fun i _=>⟨fun _ _ _=>⟨zk _,?_,tZ⟩,fun j=> ?_,fun j w=>⟨⟨0,⟨⟨rfl,tZ⟩,rfl,tZ⟩,jw _,fun b u=>by omega⟩,fun x D=> ?_⟩⟩⟩⟩⟩;have g:=q.symm.trans g;refine c (je h) ?_;rw[m,show(decide ((yC l).length=(wg (wm l)).length)&&(yC l).all Kf)=false from jbp g];rfl;have i:=r.symm.trans i;refine c (je h) ?_;rw[m,show(decide ((Fs l).length=(wg (wm l)).length)&&(Fs l).all uI)=false from jbp i,ku];rfl;have k:(wg (wm l)).length<4611686018427387904:=k;show((wg (wm l)).length:Int)<=4611686018427387904;omega;have j:=s.symm.trans j;refine c (je h) ?_;rw[m,show(vP (fR l)&&(decide ((w9 l).length<=10)&&(w9 l).all (na (wg (wm l)).length)))=false from jbp j,ku];have z:=q.symm.trans g;have A:=r.symm.trans i;have B:=s.symm.trans j;have t:cg l=true:=by
  rw[m,show(decide ((yC l).length=(wg (wm l)).length)&&(yC l).all Kf)=true from jbq z,show(decide ((Fs l).length=(wg (wm l)).length)&&(Fs l).all uI)=true from jbq A,show(vP (fR l)&&(decide ((w9 l).length<=10)&&(w9 l).all (na (wg (wm l)).length)))=true from jbq B];rfl
 obtain⟨E,d⟩:x<=(w9 l).length/\∀b:Nat,b<x->aK (w9 l) b=false:=D;have w:(w9 l).length<4611686018427387904:=w;refine⟨fun f=> ?_,fun f=> ?_⟩;have f:(x:Int)<(w9 l).length:=jb f;have a:x<(w9 l).length:=(by omega);have cc:=YZ a d;refine⟨zk _,f,fun p=> ?_,fun p=>⟨iZ6,x+1,⟨⟨by simp,tZ⟩,(JQ a).symm,tZ⟩,⟨a,fun b u=> ?_⟩,by show(w9 l).length-(x+1)<(w9 l).length-x;omega⟩⟩;exact o (je h) t (MG a (cc.symm.trans p));by_cases e:b=x;subst e;exact cc.symm.trans p;exact d b (by omega);have f:¬(x:Int)<(w9 l).length:=je f;exact n (je h) t (JS fun b u=>d b (by omega))
theorem Qi:wU PR 20 Qf:=yi Qg TZ Tryz.func20 (kcC Fc (kcC G3 (kcC nA (kcC JK (kcC JL (kcC JM (kcC CL kcN))))))) koN
end Go.X
namespace Go.Proofs
open Go.Shelf
def Tryz.sortLn_ren:Go.Shelf.Ren:=⟨fun|6=>96|15=>140|14=>139|28=>177|29=>178|20=>169|21=>170|22=>171|23=>172|24=>173|25=>174|26=>175|27=>176|46=>203|47=>204|48=>205|49=>206|50=>207|57=>221|n=>n,fun|22=>54|24=>61|25=>124|3=>3|39=>92|0=>0|53=>189|55=>191|4=>4|46=>183|45=>182|50=>50|5=>5|9=>9|66=>213|70=>217|76=>231|77=>232|n=>n,fun|n=>n⟩
theorem Tryz.sortLn:Go.Proofs.SlLaysF0.n6 Tryz.prog Tryz.sortLn_ren:={
 mixed:=by kernel_rfl
 f6:=⟨Tryz.f96.name,by decide,xlay Tryz.func96⟩
 f14:=⟨Tryz.f139.name,by decide,xlay Tryz.func139⟩
 f15:=xlay Tryz.func140
 f20:=⟨Tryz.f169.name,by decide,xlay Tryz.func169⟩
 f21:=⟨Tryz.f170.name,by decide,xlay Tryz.func170⟩
 f22:=⟨Tryz.f171.name,by decide,xlay Tryz.func171⟩
 f23:=⟨Tryz.f172.name,by decide,xlay Tryz.func172⟩
 f24:=⟨Tryz.f173.name,by decide,xlay Tryz.func173⟩
 f25:=⟨Tryz.f174.name,by decide,xlay Tryz.func174⟩
 f26:=⟨Tryz.f175.name,by decide,xlay Tryz.func175⟩
 f27:=⟨Tryz.f176.name,by decide,xlay Tryz.func176⟩
 f28:=xlay Tryz.func177
 f29:=xlay Tryz.func178
 f46:=⟨Tryz.f203.name,by decide,xlay Tryz.func203⟩
 f47:=xlay Tryz.func204
 f48:=xlay Tryz.func205
 f49:=⟨Tryz.f206.name,by decide,xlay Tryz.func206⟩
 f50:=⟨Tryz.f207.name,by decide,xlay Tryz.func207⟩
 f57:=⟨Tryz.f221.name,by decide,xlay Tryz.func221⟩
 t0:=Tryz.underlying0
 a0:=Tryz.isAgg0
 z0:=Tryz.sizeOf0
 v0:=Tryz.zeroValue0
 t3:=Tryz.underlying3
 a3:=Tryz.isAgg3
 z3:=Tryz.sizeOf3
 v3:=Tryz.zeroValue3
 t4:=Tryz.underlying4
 a4:=Tryz.isAgg4
 z4:=Tryz.sizeOf4
 v4:=Tryz.zeroValue4
 t5:=Tryz.underlying5
 a5:=Tryz.isAgg5
 z5:=Tryz.sizeOf5
 v5:=Tryz.zeroValue5
 t9:=Tryz.underlying9
 a9:=Tryz.isAgg9
 z9:=Tryz.sizeOf9
 v9:=Tryz.zeroValue9
 t22:=Tryz.underlying54
 a22:=Tryz.isAgg54
 z22:=Tryz.sizeOf54
 v22:=Tryz.zeroValue54
 t25:=Tryz.underlying124
 a25:=Tryz.isAgg124
 z25:=Tryz.sizeOf124
 v25:=Tryz.zeroValue124
 t39:=Tryz.underlying92
 a39:=Tryz.isAgg92
 z39:=Tryz.sizeOf92
 v39:=Tryz.zeroValue92
 t45:=Tryz.underlying182
 a45:=Tryz.isAgg182
 z45:=Tryz.sizeOf182
 v45:=Tryz.zeroValue182
 t46:=Tryz.underlying183
 a46:=Tryz.isAgg183
 z46:=Tryz.sizeOf183
 v46:=Tryz.zeroValue183
 t50:=Tryz.underlying50
 a50:=Tryz.isAgg50
 z50:=Tryz.sizeOf50
 v50:=Tryz.zeroValue50
 t53:=Tryz.underlying189
 a53:=Tryz.isAgg189
 z53:=Tryz.sizeOf189
 v53:=Tryz.zeroValue189
 t55:=Tryz.underlying191
 a55:=Tryz.isAgg191
 z55:=Tryz.sizeOf191
 v55:=Tryz.zeroValue191
 t66:=Tryz.underlying213
 a66:=Tryz.isAgg213
 z66:=Tryz.sizeOf213
 v66:=Tryz.zeroValue213
 t70:=Tryz.underlying217
 a70:=Tryz.isAgg217
 z70:=Tryz.sizeOf217
 v70:=Tryz.zeroValue217
 t76:=Tryz.underlying231
 a76:=Tryz.isAgg231
 z76:=Tryz.sizeOf231
 v76:=Tryz.zeroValue231
 t77:=Tryz.underlying232
 a77:=Tryz.isAgg232
 z77:=Tryz.sizeOf232
 v77:=Tryz.zeroValue232}
end Go.Proofs
namespace Go.X
open U
open Go.Proofs
abbrev rwN:Sh:= .cl (.row 3 .int .no)
namespace U
def bl (o:Option BlD):BlD:=wy (Ty.dflt tBl) o
def OC (m:List (Int×Option BlD)):Prop:=∀e∈m,∃b,e.2=some b/\pb b
def Ki (o:BoD):Prop:=OC (Na o)/\(Na o).length<=100/\((Na o).map (·.1)).Nodup/\∀e∈Na o,∀b,e.2=some b->M8 b=e.1
def OE (b:BlD) (a:Int) (out:List Int):Prop:=(vg b).length<=8/\(∀p∈vg b,0<=p/\p<(out.length:Int))/\0<=a/\a<=100000000000000000/\∀x∈out,-1000000000000000000<=x/\x<=1000000000000000000
end U
def se:wL:=⟨[.val tLn,.val tLn],[.int],false,fun _=>[],fun d=>(t7 d.1 d.2.1,())⟩
def sf:Prop:=∀(d:JbD×JbD×Unit),(yq [bZ d.1.1 d.2.1.1,bZ d.1.2.1 d.2.1.2.1],())=(t7 d.1 d.2.1,())
abbrev o6:qB:=Sj tLn 61
def xN:wL:=⟨[.val tBo],[.slice tLn],false,fun d=>[Ki d.1],fun d=>(wB d.1,())⟩
def xO:Ann:=fun r=>match r with
 |3=>some fun σ=>{X:=List (Int×Option BlD)×List LnD,sl:=fun _=>[(3,.own 3 tLn)],ob:=fun x=>[(8,some (.iter .int (.ptr tBl) x.1 none)),(3,some (.row 61 tLn false .yes x.2))],inv:=fun x=>(x.2++vn x.1).Perm (vn (Na (gb tBo σ 1)))/\OC x.1,mu:=fun x=>x.1.length}
 |_=>none
abbrev jfs (a:Int×Option BlD):=(wy ((((0:Int),(0:Int),(0:Int),(0:Int),(0:Int),(0:Int),()),(0:Int),(0:Int),(0:Int),()),((0:Int),(0:Int),(0:Int),(0:Int),(0:Int),(0:Int),(0:Int),(0:Int),[],[],()),(0:Int),(0:Int),[],(0:Int),(0:Int),false,(0:Int),()) a.2)
abbrev jeN:=(k8 (Ty.int.pair (Ty.int.pair (Ty.int.pair (Ty.int.pair (Ty.int.pair (Ty.int.pair Ty.unit)))))) fun(a:JbD×JbD×Unit)=>(t7 a.1 a.2.1,()))
def xP:Prop:=∀(d:BoD×Unit),Ki d.1->(∃(x:List (Int×Option BlD)×List JbD),((True/\True)/\d.1.2.1=x.1/\x.2=[]/\True)/\(x.2++vn x.1).Perm (vn (Na d.1))/\OC x.1)/\∀(x:List (Int×Option BlD)×List JbD),(x.2++vn x.1).Perm (vn (Na d.1))/\OC x.1->(x.1=[]->(false=true->False)/\(qF->(∀(e:JbD),e∈x.2->∀(y:JbD),y∈x.2->wl [])/\vu jeN x.2/\(kZ jeN x.2,())=(wB d.1,())))/\∀(pre:List (Int×Option BlD)) (a:Int×Option BlD) (b:List (Int×Option BlD)),x.1=pre++a::b->(true=true->a.2.isSome=true/\pb (jfs a)/\(x.2.length+[qA (jfs a)].length)*48<=140737488355328/\∃(c:List (Int×Option BlD)×List JbD),((True/\True)/\x.2++[qA (jfs a)]=c.2/\pre++b=c.1/\True)/\((c.2++vn c.1).Perm (vn (Na d.1))/\OC c.1)/\c.1.length<x.1.length)/\(true=false->(∀(f:JbD),f∈x.2->∀(y:JbD),y∈x.2->wl [])/\vu jeN x.2/\(kZ jeN x.2,())=(wB d.1,()))
def G4:wL:=⟨[.val (.slice .int)],[.int],false,fun d=>[d.1≠[]],fun d=>(gw d.1,())⟩
def G5:Ann:=fun r=>match r with
 |5=>some fun σ=>{X:=Nat,sl:=fun i=>[(4,.dat .int (i:Int)),(3,.dat .int (((gd (.slice .int) σ 0).take i).foldl max (nth (gd (.slice .int) σ 0) 0)))],ob:=fun _=>[],inv:=fun i=>1<=i/\i<=(gd (.slice .int) σ 0).length,mu:=fun i=>(gd (.slice .int) σ 0).length-i}
 |_=>none
def G6:Prop:=∀(d:List Int×Unit),d.1≠[]->d.1.length<4611686018427387904->(decide ((d.1.length:Int)<1)=true->False)/\(decide ((d.1.length:Int)<1)=false->(0:Int)<=0/\0<(d.1.length:Int)/\(∃(x:Nat),((1=(x:Int)/\nth d.1 (Int.toNat 0)=List.foldl max (nth d.1 0) (List.take x d.1)/\True)/\True)/\1<=x/\x<=d.1.length)/\∀(x:Nat),1<=x/\x<=d.1.length->d.1.length<4611686018427387904->(decide ((x:Int)<d.1.length)=true->0<=(x:Int)/\(x:Int)<d.1.length/\wq ((x:Int)+1)/\∃(a:Nat),(((x:Int)+1=(a:Int)/\max (List.foldl max (nth d.1 0) (List.take x d.1)) (nth d.1 x)=List.foldl max (nth d.1 0) (List.take a d.1)/\True)/\True)/\(1<=a/\a<=d.1.length)/\d.1.length-a<d.1.length-x)/\(decide ((x:Int)<d.1.length)=false->(List.foldl max (nth d.1 0) (List.take x d.1),())=(gw d.1,())))
def xQ:qB:=⟨[.val (.ptr tBl),.val .int,.own rwN true],[],fun d=>[d.1.isSome=true,OE (U.bl d.1) d.2.1 d.2.2.1],fun d=>((),(WJ d.2.1 (U.bl d.1) d.2.2.1,()))⟩
def xR:Ann:=fun r=>match r with
 |1=>some fun σ=>{X:=Nat,sl:=fun i=>[(13,.dat .int (i:Int))],ob:=fun i=>[(1000002,some (.row 3 .int false .no (wV (gd .int σ 1) (gd (.slice .int) σ 11) (gr .int σ 1000002) i)))],inv:=fun i=>i<=(gd (.slice .int) σ 11).length,mu:=fun i=>(gd (.slice .int) σ 11).length-i}
 |_=>none
abbrev jcx (d:Option BlD×Int×List Int×Unit):=(wy ((((0:Int),(0:Int),(0:Int),(0:Int),(0:Int),(0:Int),()),(0:Int),(0:Int),(0:Int),()),((0:Int),(0:Int),(0:Int),(0:Int),(0:Int),(0:Int),(0:Int),(0:Int),[],[],()),(0:Int),(0:Int),[],(0:Int),(0:Int),false,(0:Int),()) d.1)
abbrev jde (d:Option BlD×Int×List Int×Unit):=(↑(jcx d).q4.1.length:Int)
abbrev jdU (d:Option BlD×Int×List Int×Unit)(x:Nat):=(nth (jcx d).q4.1 x)
abbrev jem (d:Option BlD×Int×List Int×Unit)(x:Nat):=(wV d.2.1 (jcx d).q4.1 d.2.2.1 x)
abbrev jft (d:Option BlD×Int×List Int×Unit)(x:Nat):=(nth (jem d x) (jdU d x).toNat+d.2.1.tdiv (jde d))
abbrev jen (d:Option BlD×Int×List Int×Unit)(x:Nat):=((jem d x).set (jdU d x).toNat (jft d x))
def xS:Prop:=∀(d:Option BlD×Int×List Int×Unit),d.1.isSome=true->OE (U.bl d.1) d.2.1 d.2.2.1->d.1.isSome=true/\((jcx d).q4.1.length<4611686018427387904->(∃(x:Nat),((0=(x:Int)/\True)/\d.2.2.1=wV d.2.1 (jcx d).q4.1 d.2.2.1 x/\True)/\x<=(jcx d).q4.1.length)/\∀(x:Nat),x<=(jcx d).q4.1.length->(decide ((x:Int)<(jde d))=true->0<=(x:Int)/\(x:Int)<(jde d)/\0<=nth (jcx d).q4.1 x/\nth (jcx d).q4.1 x<(↑(jem d x).length:Int)/\d.1.isSome=true/\(jde d)≠0/\wq (d.2.1.tdiv (jde d))/\wq (jft d x)/\0<=nth (jcx d).q4.1 x/\nth (jcx d).q4.1 x<(↑(jem d x).length:Int)/\d.1.isSome=true/\((jcx d).q4.1.length<4611686018427387904->(jde d)≠0/\(decide ((x:Int)<d.2.1.tmod (jde d))=true->0<=nth (jcx d).q4.1 x/\nth (jcx d).q4.1 x<(↑(jen d x).length:Int)/\wq (nth (jen d x) (jdU d x).toNat+1)/\0<=nth (jcx d).q4.1 x/\nth (jcx d).q4.1 x<(↑(jen d x).length:Int)/\wq ((x:Int)+1)/\∃(a:Nat),(((x:Int)+1=(a:Int)/\True)/\(jen d x).set (jdU d x).toNat (nth (jen d x) (jdU d x).toNat+1)=wV d.2.1 (jcx d).q4.1 d.2.2.1 a/\True)/\a<=(jcx d).q4.1.length/\(jcx d).q4.1.length-a<(jcx d).q4.1.length-x)/\(decide ((x:Int)<d.2.1.tmod (jde d))=false->wq ((x:Int)+1)/\∃(a:Nat),(((x:Int)+1=(a:Int)/\True)/\(jem d x).set (jdU d x).toNat (jft d x)=wV d.2.1 (jcx d).q4.1 d.2.2.1 a/\True)/\a<=(jcx d).q4.1.length/\(jcx d).q4.1.length-a<(jcx d).q4.1.length-x)))/\(decide ((x:Int)<(jde d))=false->()=()/\(wV d.2.1 (jcx d).q4.1 d.2.2.1 x,())=(WJ d.2.1 (U.bl d.1) d.2.2.1,())))
theorem tQ:sf:=fun _=>rfl
theorem sg:wU PR 97 se:=wF tQ Tryz.func97 (kcC yn (kcC bg kcN)) koN
theorem o7:gq PR 96 o6:=
 BH Tryz.sortLn 61 rfl (jx (by kernel_rfl)) Tryz.isAgg61 Tryz.sizeOf61 (q8 Tryz.func96 (c:=wS Tryz.f96) (by kernel_rfl) (by kernel_rfl))
theorem Wh:fq t7:=by
 have e:t7=QQ (fun a b=>bZ (gS a) (gS b)) (fun a b=>bZ (ik a) (ik b)):=by
  funext a b;unfold t7;simp only[wY,QQ]
  split<;>(try rfl)
  split<;>(try rfl)
  rename_i h;exact(jQ.1 h).symm
 rw[e];exact oK (nz lz gS) (nz lz ik)
theorem T3 {a b:LnD} (h:t7 a b=0):ik a=ik b:=by
 unfold t7 at h;rw[wY] at h
 split at h
 contradiction;rw[q9] at h;exact am.1 h
def jbU (l:List LnD):Prop:=∀a∈l,∀b∈l,ik a=ik b->a=b
theorem jbr {l:List LnD} (h:jbU l):vu (k8 tLn fun x=>(t7 x.1 x.2.1,())) l:=Am Wh (fun a b d e c=>h a d b e (T3 c))
theorem Fl {o:BoD} (h:Ki o):jbU (vn (Na o)):=by
 obtain⟨j,_,c,d⟩:=h;intro a s b t e;obtain⟨x,f,rfl⟩:=jT.1 s;obtain⟨y,g,rfl⟩:=jT.1 t;obtain⟨p,l,_⟩:=j x f;obtain⟨q,m,_⟩:=j y g;have u:=d x f p l;have w:=d y g q m;rw[l,m] at e;have e:M8 p=M8 q:=e;have n:x.1=y.1:=(by rw[<-u,<-w,e]);have i:=(M.t8 (kt:= .int) c (k:=x.1) (v:=x.2)).2 f;have r:=(M.t8 (kt:= .int) c (k:=y.1) (v:=y.2)).2 g;rw[n,r] at i;have e2:y.2=x.2:=(by simpa using i);rw[e2]
theorem CR:xP:=by
 unfold xP jeN jfs;rintro⟨o,⟨⟩⟩ n;have p:=Fl n;obtain⟨s,d,t,u⟩:=id n;have d:(Na o).length<=100:=d;refine⟨⟨(Na o,[]),⟨⟨tZ,tZ⟩,rfl,rfl,tZ⟩,List.Perm.refl _,s⟩,fun x q=>⟨fun i=>⟨fun h=>(by cases h),fun _=>⟨fun _ _ _ _=>tZ,?_⟩⟩,fun pre e c j=>⟨fun _=> ?_,fun h=>(by cases h)⟩⟩⟩;obtain⟨l,out⟩:=x;have i:l=[]:=i;subst i;have f:(out++[]).Perm (vn (Na o)):=q.1;rw[j7] at f;exact⟨jbr fun a r b g=>p a (f.mem_iff.1 r) b (f.mem_iff.1 g),jS (·,()) (Ik (jbr p) f)⟩;obtain⟨l,out⟩:=x;have j:l=pre++e::c:=j;subst j;obtain⟨f,hk⟩:(out++vn (pre++e::c)).Perm (vn (Na o))/\OC (pre++e::c):=q;obtain⟨b,g,v⟩:=hk e (by simp);have m:=f.length_eq;simp only[vn,jL,zr,jX] at m;obtain⟨k,z⟩:=e;have g:z=some b:=g;subst g;refine⟨rfl,v,by simp only[jX,zp];omega,(pre++c,out++[qA b]),⟨⟨tZ,tZ⟩,rfl,rfl,tZ⟩,⟨?_,fun y w=>hk y ?_⟩,by simp only[jL,jX];omega⟩;refine List.Perm.trans ?_ f;simp only[vn,zC,zu,jJ,ki];exact List.Perm.append_left out List.perm_middle.symm;rcases js.1 w with h|h;exact jg _ h;exact jd _ (jl _ h)
theorem ic:wU PR 60 xN:=yi xO CR Tryz.func60 (kcC ao (kcC sg kcN)) (koC o7 koN)
theorem JT:G6:=by
 rintro⟨l,⟨⟩⟩ a c;have a:l≠[]:=a;have b:0<l.length:=kO.2 a;refine⟨fun h=> ?_,fun _=>⟨by decide,by simp only;omega,⟨1,⟨⟨rfl,?_,tZ⟩,tZ⟩,jk _,b⟩,fun x d _=>⟨fun h=> ?_,fun h=> ?_⟩⟩⟩;have h:(l.length:Int)<1:=jb h;omega;show nth l 0=List.foldl max (nth l 0) (l.take 1);have:=L.wG (l:=l) (i:=0) b;rw[this];show nth l 0=max (nth l 0) (nth l 0);omega;have h:(x:Int)<l.length:=jb h;have c:l.length<4611686018427387904:=c;refine⟨zk _,h,iZ6,x+1,⟨⟨by simp,?_,tZ⟩,tZ⟩,⟨by omega,by show x+1<=l.length;omega⟩,by show l.length-(x+1)<l.length-x;omega⟩;show max (List.foldl max (nth l 0) (l.take x)) (nth l x)=List.foldl max (nth l 0) (l.take (x+1));rw[L.wG (show x<l.length by omega),jV];rfl;have h:¬(x:Int)<l.length:=je h;show(List.foldl max (nth l 0) (l.take x),())=(gw l,());rw[zz (by omega)];rfl
theorem G7:wU PR 100 G4:=yi G5 JT Tryz.func100 kcN koN
theorem Fm (a:Int) (tm out:List Int) (k:Nat):wV a tm out (k+1)=Hs a tm (wV a tm out k) k:=by
 unfold wV;rw[zq,jV];rfl
theorem CS {a M:Int} {tm out:List Int} (h:0<=a/\a<=100000000000000000) (d:∀p∈tm,0<=p/\p<(out.length:Int)) (c:∀x∈out,-1000000000000000000<=x/\x<=M):
 ∀k,k<=tm.length->(wV a tm out k).length=out.length/\∀j,j<out.length->-1000000000000000000<=nth (wV a tm out k) j/\nth (wV a tm out k) j<=M+(k:Int)*100000000000000001
 |0,_=>⟨rfl,fun j e=>by
  have:=c _ (L.wd e)
  show _<=nth out j/\nth out j<=_
  omega⟩
 |k+1,hk=>by
  obtain⟨f,g⟩:=CS h d c k (by omega)
  have m:=d _ (L.wd (show k<tm.length by omega))
  have n:=Wc (b:=(tm.length:Int)) h (by omega)
  rw[Fm]
  unfold Hs
  refine⟨by rw[kc,f],fun j e=> ?_⟩
  rw[L.gL (by rw[f];omega)]
  have i:=g j e
  have l:=g (nth tm k).toNat (by omega)
  split
  split<;>omega
  omega
theorem CT:xS:=by
 unfold xS jen jft jem jdU jde jcx Prod.q4;rintro⟨o,a,out,⟨⟩⟩ j w;obtain⟨b,rfl⟩:∃b,o=some b:=Option.isSome_iff_exists.1 j;obtain⟨z,p,q,r,v⟩:OE b a out:=w;have F:=CS (tm:=vg b) ⟨q,r⟩ p v;refine⟨rfl,fun B=>⟨⟨0,⟨⟨rfl,tZ⟩,rfl,tZ⟩,jw _⟩,fun x t=>⟨fun h=> ?_,fun h=>⟨rfl,?_⟩⟩⟩⟩;have h:(x:Int)<(vg b).length:=jb h;have n:x<(vg b).length:=(by omega);obtain⟨k,u⟩:=F x (by omega);have d:=p _ (L.wd n);have y:=Wc (b:=((vg b).length:Int)) ⟨q,r⟩ (by omega);have A:=u (nth (vg b) x).toNat (by omega);have l:(nth (vg b) x).toNat<(wV a (vg b) out x).length:=(by rw[k];omega);have j:=Fm a (vg b) out x;have f:((vg b).length:Int)≠0:=(by omega);have g:nth (vg b) x<((wV a (vg b) out x).length:Int):=(by rw[k];exact d.2);have s:nth ((wV a (vg b) out x).set (nth (vg b) x).toNat (nth (wV a (vg b) out x) (nth (vg b) x).toNat+a.tdiv ((vg b).length:Int))) (nth (vg b) x).toNat=nth (wV a (vg b) out x) (nth (vg b) x).toNat+a.tdiv ((vg b).length:Int):=by
  rw[L.gL l,jh rfl]
 refine⟨zk _,h,d.1,g,rfl,f,CD y (by omega),L.Ep (by show _<=nth (wV a (vg b) out x) (nth (vg b) x).toNat+a.tdiv ((vg b).length:Int);omega) (by show nth (wV a (vg b) out x) (nth (vg b) x).toNat+a.tdiv ((vg b).length:Int)<=_;omega),d.1,g,rfl,fun _=>⟨f,fun c=> ?_,fun c=> ?_⟩⟩;have c:(x:Int)<a.tmod ((vg b).length:Int):=jb c;have m:((wV a (vg b) out x).set (nth (vg b) x).toNat (nth (wV a (vg b) out x) (nth (vg b) x).toNat+a.tdiv ((vg b).length:Int))).length=out.length:=(by rw[kc,k]);have i:nth (vg b) x<(((wV a (vg b) out x).set (nth (vg b) x).toNat (nth (wV a (vg b) out x) (nth (vg b) x).toNat+a.tdiv ((vg b).length:Int))).length:Int):=(by rw[m];exact d.2);refine⟨d.1,i,?_,d.1,i,iZ6,x+1,⟨⟨by simp,tZ⟩,?_,tZ⟩,by show x+1<=(vg b).length;omega,by show(vg b).length-(x+1)<(vg b).length-x;omega⟩;show wq (nth ((wV a (vg b) out x).set (nth (vg b) x).toNat (nth (wV a (vg b) out x) (nth (vg b) x).toNat+a.tdiv ((vg b).length:Int))) (nth (vg b) x).toNat+1);rw[s];exact iZ6;show((wV a (vg b) out x).set (nth (vg b) x).toNat (nth (wV a (vg b) out x) (nth (vg b) x).toNat+a.tdiv ((vg b).length:Int))).set (nth (vg b) x).toNat (nth ((wV a (vg b) out x).set (nth (vg b) x).toNat (nth (wV a (vg b) out x) (nth (vg b) x).toNat+a.tdiv ((vg b).length:Int))) (nth (vg b) x).toNat+1)=wV a (vg b) out (x+1);rw[s,List.set_set,j];unfold Hs;rw[jh c];have c:¬(x:Int)<a.tmod ((vg b).length:Int):=je c;refine⟨iZ6,x+1,⟨⟨by simp,tZ⟩,?_,tZ⟩,by show x+1<=(vg b).length;omega,by show(vg b).length-(x+1)<(vg b).length-x;omega⟩;show(wV a (vg b) out x).set (nth (vg b) x).toNat (nth (wV a (vg b) out x) (nth (vg b) x).toNat+a.tdiv ((vg b).length:Int))=wV a (vg b) out (x+1);rw[j];unfold Hs;rw[jc c,Int.add_zero];have h:¬(x:Int)<(vg b).length:=je h;have t:x<=(vg b).length:=t;have e:x=(vg b).length:=(by omega);subst e;rfl
theorem xT:gq PR 77 xQ:=uz xR CT Tryz.func77 kcN koN
namespace U
def Uy (o:BoD):Prop:=Ki o/\(yC (bW o)).length<=100/\(∀n∈yC (bW o),0<=n/\n<=20)/\∀e∈Na o,∀b,e.2=some b->M9 b∈yC (bW o)
def Uz (o:BoD):Prop:=Ki o/\(we (wi (wm (bW o)))).length<=100/\∀e∈Na o,∀b,e.2=some b->∀p∈vg b,0<=p/\p<((we (wi (wm (bW o)))).length:Int)
end U
def tR:wL:=⟨[.val tBo],[.slice .int],false,fun d=>[Uy d.1],fun d=>(Kh d.1,())⟩
def tS:Ann:=fun r=>match r with
 |5=>some fun σ=>{X:=Nat,sl:=fun i=>[(20,.dat .int (i:Int))],ob:=fun i=>[(3,some (.row 3 .int false .no (ye (gw (yC (bW (gb tBo σ 1)))+1).toNat (gd (.slice tLn) σ 18) i)))],inv:=fun i=>i<=(gd (.slice tLn) σ 18).length,mu:=fun i=>(gd (.slice tLn) σ 18).length-i}
 |_=>none
abbrev jdf (d:BoD×Unit)(x:Nat):=(nth (wB d.1) x)
abbrev jeO (d:BoD×Unit):=(gw (yC (bW d.1))+1)
abbrev jeo (d:BoD×Unit)(x:Nat):=(ye (jeO d).toNat (wB d.1) x)
def tT:Prop:=∀(d:BoD×Unit),Uy d.1->d.1.1.2.1.length<4611686018427387904->(decide ((d.1.1.2.1.length:Int)=0)=true->([],())=(Kh d.1,()))/\(decide ((d.1.1.2.1.length:Int)=0)=false->d.1.1.2.1≠[]/\wq (gw d.1.1.2.1+1)/\0<=gw d.1.1.2.1+1/\gw d.1.1.2.1+1=gw d.1.1.2.1+1/\(gw d.1.1.2.1+1).toNat*8<=140737488355328/\Ki d.1/\((wB d.1).length<4611686018427387904->(∃(x:Nat),((0=(x:Int)/\True)/\List.replicate (gw d.1.1.2.1+1).toNat 0=ye (jeO d).toNat (wB d.1) x/\True)/\x<=(wB d.1).length)/\∀(x:Nat),x<=(wB d.1).length->(decide ((x:Int)<(wB d.1).length)=true->0<=(x:Int)/\(x:Int)<(wB d.1).length/\(0:Int)<=(jdf d x).1/\(jdf d x).1<(↑(jeo d x).length:Int)/\wq (nth (jeo d x) (jdf d x).1.toNat+(jdf d x).q4.2.1)/\(0:Int)<=(jdf d x).1/\(jdf d x).1<(↑(jeo d x).length:Int)/\wq ((x:Int)+1)/\∃(a:Nat),(((x:Int)+1=(a:Int)/\True)/\(jeo d x).set (jdf d x).1.toNat (nth (jeo d x) (jdf d x).1.toNat+(jdf d x).q4.2.1)=ye (jeO d).toNat (wB d.1) a/\True)/\a<=(wB d.1).length/\(wB d.1).length-a<(wB d.1).length-x)/\(decide ((x:Int)<(wB d.1).length)=false->(ye (jeO d).toNat (wB d.1) x,())=(Kh d.1,()))))
def D2:wL:=⟨[.val tBo,.val .int],[.slice .int],false,fun d=>[Uz d.1],fun d=>(QL d.1 d.2.1,())⟩
abbrev jc3 (d:BoD×Int×Unit):=(wD none (wo Ty.int d.2.1 d.1.2.1))
abbrev jep (d:BoD×Int×Unit):=(wy ((((0:Int),(0:Int),(0:Int),(0:Int),(0:Int),(0:Int),()),(0:Int),(0:Int),(0:Int),()),((0:Int),(0:Int),(0:Int),(0:Int),(0:Int),(0:Int),(0:Int),(0:Int),[],[],()),(0:Int),(0:Int),[],(0:Int),(0:Int),false,(0:Int),()) (jc3 d))
abbrev jdC (d:BoD×Int×Unit):=(d.1.1.1.1.2.1.length:Int)
abbrev jga (d:BoD×Int×Unit):=(WJ (qA (jep d)).2.2.1 (U.bl (jc3 d)) (List.replicate (jdC d).toNat (0:Int)))
def D3:Prop:=∀(d:BoD×Int×Unit),Uz d.1->d.1.1.1.1.2.1.length<4611686018427387904->0<=(jdC d)/\(jdC d)=(jdC d)/\(jdC d).toNat*8<=140737488355328/\((!(jc3 d).isNone)=true->(jc3 d).isSome=true/\pb (jep d)/\(jc3 d).isSome=true/\OE (U.bl (jc3 d)) (qA (jep d)).2.2.1 (List.replicate (jdC d).toNat (0:Int))/\(jc3 d).isSome=true/\OE (U.bl (jc3 d)) (qA (jep d)).2.2.2.1 (jga d)/\(WJ (qA (jep d)).2.2.2.1 (U.bl (jc3 d)) (jga d),())=(QL d.1 d.2.1,()))/\((!(jc3 d).isNone)=false->(List.replicate (jdC d).toNat (0:Int),())=(QL d.1 d.2.1,()))
theorem G8:D3:=by
 unfold D3 jga jdC jep jc3;intro d A E;obtain⟨m,l,k⟩:Uz d.1:=A;have l:(we (wi (wm (bW d.1)))).length<=100:=l;refine⟨zk _,rfl,?_,fun h=> ?_,fun h=> ?_⟩;show(((we (wi (wm (bW d.1)))).length:Int)).toNat*8<=140737488355328;omega;obtain⟨b,e⟩:∃b,wD none (wo Ty.int d.2.1 d.1.2.1)=some b:=by
  cases g:wD none (wo Ty.int d.2.1 d.1.2.1) with
  |none=>rw[g] at h;cases h
  |some b=>exact⟨b,rfl⟩
 have i:(d.2.1,some b)∈Na d.1:=by
  refine(M.t8 (kt:= .int) m.2.2.1).1 ?_;cases g:wo (β:=Option BlD) Ty.int d.2.1 d.1.2.1 with
  |none=>rw[g] at e;cases e
  |some v=>rw[g] at e;exact g.trans (jS some e)
 obtain⟨z,o,u⟩:=m.1 _ i;have o:some b=some z:=o;simp only[jy] at o;subst o;have w:JA b:=bh.1 u;have D:=k _ i b rfl;have n:=w.bl.tm;have s:=GW w;have C:=GX w;have ep:QL d.1 d.2.1=Zo (we (wi (wm (bW d.1)))).length (some b):=jS (Zo (we (wi (wm (bW d.1)))).length) e;rw[e,ep];have f:∀p∈vg b,0<=p/\p<((List.replicate (we (wi (wm (bW d.1)))).length (0:Int)).length:Int):=fun p q=>by rw[zw];exact D p q
 obtain⟨r,y⟩:=CS (a:=qQ b) (M:=0) (tm:=vg b) ⟨s.1,by omega⟩ f (fun x c=>by rw[List.eq_of_mem_replicate c];omega) (vg b).length (jk _);refine⟨rfl,u,rfl,⟨n,f,s.1,?_,fun x c=> ?_⟩,rfl,⟨n,fun p q=> ?_,C.1,?_,fun x c=> ?_⟩,rfl⟩;show qQ b<=100000000000000000;omega;have c:x∈List.replicate (we (wi (wm (bW d.1)))).length (0:Int):=c;rw[List.eq_of_mem_replicate c];omega;have B:=f p q;show 0<=p/\p<((wV (qQ b) (vg b) (List.replicate (we (wi (wm (bW d.1)))).length (0:Int)) (vg b).length).length:Int);rw[r];exact B;show vj b<=100000000000000000;omega;have c:x∈wV (qQ b) (vg b) (List.replicate (we (wi (wm (bW d.1)))).length (0:Int)) (vg b).length:=c;obtain⟨j,t,rfl⟩:=L.mem_iff.1 c;have:=y j (by rw[r] at t;exact t);omega;have e:wD none (wo Ty.int d.2.1 d.1.2.1)=none:=by
  cases g:wD none (wo Ty.int d.2.1 d.1.2.1) with
  |none=>rfl
  |some b=>rw[g] at h;cases h
 have ep:QL d.1 d.2.1=Zo (we (wi (wm (bW d.1)))).length none:=jS (Zo (we (wi (wm (bW d.1)))).length) e;rw[ep];rfl
theorem D4:wU PR 47 D2:=wF G8 Tryz.func47 (kcC ao kcN) (koC xT koN)
theorem MH {b:BlD} (w:JA b): -1000000<=Oz (qA b)/\Oz (qA b)<=20000000000000000:=by
 have c:=GW w;have d:=GX w;have e:=w.bl.ta.cp;have a:0<=(qQ b+vj b)*nth (aQ (yZ b)) (fO (y9 (qL b))).toNat/\(qQ b+vj b)*nth (aQ (yZ b)) (fO (y9 (qL b))).toNat<=10000001000000000*100:=UG (by omega) (TM w.bl);have f:=Wc (b:=100) a (by omega);show-1000000<=qQ b+vj b-nF b/\qQ b+vj b-nF b<=20000000000000000;unfold nF;omega
theorem Qj {o:BoD} (h:Ki o) {x:LnD} (c:x∈wB o):∃k b,(k,some b)∈Na o/\JA b/\x=qA b:=by
 have c:x∈vn (Na o):=(wQ _).mem_iff.1 c;obtain⟨⟨k,v⟩,d,rfl⟩:=jT.1 c;obtain⟨b,a,e⟩:=h.1 _ d;have a:v=some b:=a;subst a;exact⟨k,b,d,bh.1 e,rfl⟩
theorem Qk {o:BoD} (h:Ki o):(wB o).length<=100:=by
 have e:(wB o).length=(vn (Na o)).length:=(wQ _).length_eq;have e2:(vn (Na o)).length=(Na o).length:=zr _;have:=h.2.1;omega
theorem CU:∀(l:List Int) (a:Int),a<=l.foldl max a/\(∀n∈l,n<=l.foldl max a)/\(l.foldl max a=a\/l.foldl max a∈l)
 |[],a=>⟨kg _,fun n c=>(by cases c),Or.inl rfl⟩
 |x::r,a=>by
  obtain⟨e,d,b⟩:=CU r (max a x)
  show a<=r.foldl max (max a x)/\_/\(r.foldl max (max a x)=a\/r.foldl max (max a x)∈x::r)
  refine⟨by omega,fun n c=> ?_,?_⟩
  show n<=r.foldl max (max a x)
  rcases jj.1 c with rfl|c
  omega
  exact d n c
  rcases b with b|b
  rcases Int.le_total a x with h|h
  right;rw[b,Int.max_eq_right h];simp
  left;rw[b,Int.max_eq_left h]
  right;exact jl _ b
theorem T4 {l:List Int} {n:Int} (h:n∈l):n<=gw l:=(CU l (nth l 0)).2.1 n h
theorem Oo {l:List Int} (h:l≠[]):gw l∈l:=by
 rcases(CU l (nth l 0)).2.2 with a|a;have:gw l=nth l 0:=a;rw[this];exact L.wd (kO.2 h);exact a
theorem tU {n:Nat} {l:List LnD} {k:Nat} (h:k<l.length):ye n l (k+1)=OA (ye n l k) (nth l k):=by
 unfold ye;rw[L.wG h,jV];rfl
theorem si {n:Nat} {l:List LnD} (h:∀x∈l,(0<=gS x/\gS x<(n:Int))/\-1000000<=Oz x/\Oz x<=20000000000000000):
 ∀k,k<=l.length->(ye n l k).length=n/\∀j,j<n->-1000000*(k:Int)<=nth (ye n l k) j/\nth (ye n l k) j<=20000000000000000*(k:Int)
 |0,_=>⟨zw,fun j a=>by
  have:nth (ye n l 0) j=0:=L.Ax a
  rw[this];omega⟩
 |k+1,hk=>by
  obtain⟨b,c⟩:=si h k (by omega)
  obtain⟨⟨f,g⟩,i,m⟩:=h _ (L.wd (show k<l.length by omega))
  rw[tU (by omega)]
  unfold OA
  refine⟨by rw[kc,b],fun j a=> ?_⟩
  rw[L.gL (by rw[b];omega)]
  have d:=c j a
  have e:=c (gS (nth l k)).toNat (by omega)
  split<;>omega
theorem xU:tT:=by
 unfold tT jeo jeO jdf Prod.q4;intro d s C;obtain⟨c,a,i,w⟩:Uy d.1:=s;have a:(yC (bW d.1)).length<=100:=a;refine⟨fun h=> ?_,fun h=> ?_⟩;have h:((yC (bW d.1)).length:Int)=0:=jb h;have e:Kh d.1=[]:=jh (by omega);rw[e];have h:¬((yC (bW d.1)).length:Int)=0:=je h;have g:yC (bW d.1)≠[]:=fun e=>h (by rw[e];rfl)
 have D:=i _ (Oo g);have e:Kh d.1=ye (gw (yC (bW d.1))+1).toNat (wB d.1) (wB d.1).length:=jc (by omega);have m:∀x∈wB d.1,(0<=gS x/\gS x<(((gw (yC (bW d.1))+1).toNat:Nat):Int))/\-1000000<=Oz x/\Oz x<=20000000000000000:=fun x m=>by
  obtain⟨k,b,t,u,rfl⟩:=Qj c m;have n:=w _ t b rfl;have A:=T4 n;have v:=i _ n;refine⟨⟨v.1,?_⟩,MH u⟩;show M9 b<_;omega
 have F:=si m;have B:=Qk c;refine⟨g,L.Ep (by show _<=gw (yC (bW d.1))+1;omega) (by show gw (yC (bW d.1))+1<=_;omega),by show 0<=gw (yC (bW d.1))+1;omega,rfl,by show(gw (yC (bW d.1))+1).toNat*8<=140737488355328;omega,c,fun _=>⟨⟨0,⟨⟨rfl,tZ⟩,rfl,tZ⟩,jw _⟩,fun x j=>⟨fun f=> ?_,fun f=> ?_⟩⟩⟩;have f:(x:Int)<(wB d.1).length:=jb f;have l:x<(wB d.1).length:=(by omega);obtain⟨⟨o,y⟩,E,G⟩:=m _ (L.wd l);obtain⟨q,r⟩:=F x (by omega);have z:=r (gS (nth (wB d.1) x)).toNat (by omega);have p:gS (nth (wB d.1) x)<((ye (gw (yC (bW d.1))+1).toNat (wB d.1) x).length:Int):=(by rw[q];exact y);refine⟨zk _,f,o,p,?_,o,p,iZ6,x+1,⟨⟨by simp,tZ⟩,(tU l).symm,tZ⟩,by show x+1<=(wB d.1).length;omega,by show(wB d.1).length-(x+1)<(wB d.1).length-x;omega⟩;show wq (nth (ye (gw (yC (bW d.1))+1).toNat (wB d.1) x) (gS (nth (wB d.1) x)).toNat+Oz (nth (wB d.1) x));exact iZ6;have f:¬(x:Int)<(wB d.1).length:=je f;have j:x<=(wB d.1).length:=j;have ex:x=(wB d.1).length:=(by omega);subst ex;rw[e]
theorem tV:wU PR 61 tR:=yi tS xU Tryz.func61 (kcC G7 (kcC ic kcN)) koN
namespace U
def bo (l:LgD):BoD:=(l,QK l,())
def kY (l:LgD):List LnD:=if w8 l=0 then wB (bo l) else[]
def vd (l:LgD):List Int:=if w8 l=0 then Kh (bo l) else[]
def vi (l:LgD) (n:Int):Bool:=kV n 0 (((wg (wm l)).length:Int)-1)
def Kj (l:LgD) (n:Int):List Int:=if qh l (vi l n)=0 then QL (bo l) n else[]
def yt (m:Int):Bool:=kV m (-100000) 1440
def yD (m:Int):Bool:=kV m 0 1000000000
def En (l:LgD) (n m:Int):Int:=if qh l (vi l n&&yt m)=0 then(match QX (bo l) n with|some b=>Oz (qA b)-y4 m b|none=>0) else 0
end U
theorem G9 {l:LgD} {e:Int×Option BlD} (h:e∈QK l):∃n,n∈kW (wm l)/\e=(n,some (wK l n)):=by
 rw[Ol] at h;obtain⟨n,a,rfl⟩:=jT.1 h;exact⟨n,a,rfl⟩
theorem Oq {l:LgD} (h:xw l):(kW (wm l)).length<=4:=by
 have a:=h.dy;unfold qc at a;rw[ji] at a;have a:=(jb a.1).1;unfold kW
 split
 unfold gp;rw[zr];exact jD (zX _ _) (by rw[zI];exact a);exact jw _
theorem T6 {l:LgD} (h:xw l):Ki (U.bo l):=by
 refine⟨fun e c=> ?_,?_,?_,fun e c b a=> ?_⟩;obtain⟨n,d,rfl⟩:=G9 c;exact⟨_,rfl,bh.2 (JD h (GZ d))⟩;show(QK l).length<=100;have:=Oq h;rw[Ol,zr];omega;show((QK l).map (·.1)).Nodup;rw[Ol,kR];have e:((fun(x:Int×Option BlD)=>x.1)∘fun n=>(n,some (wK l n)))=id:=rfl;rw[e,List.map_id];exact tK _;obtain⟨n,d,rfl⟩:=G9 c;have a:some (wK l n)=some b:=a;simp only[jy] at a;subst a;exact(vw l n _ (jk _)).2.2.1
theorem jbt {l:LgD} (h:xw l):Uy (U.bo l):=by
 have d:(wg (wm l)).length<=4:=by
  have c:=h.dy;unfold qc at c;rw[ji] at c;exact(jb c.1).1
 refine⟨T6 h,?_,h.py.2,fun e f b a=> ?_⟩;show(yC l).length<=100;rw[h.py.1];omega;obtain⟨n,i,rfl⟩:=G9 f;have a:some (wK l n)=some b:=a;simp only[jy] at a;subst a;have e:M9 (wK l n)=nth (yC l) n.toNat:=(vw l n _ (jk _)).2.2.2.1;rw[e];have:=GZ i;have g:n.toNat<(yC l).length:=(by rw[h.py.1];omega);exact L.wd g
theorem jbu {l:LgD} (h:xw l):Uz (U.bo l):=by
 refine⟨T6 h,?_,fun e c b a=> ?_⟩;show(we (wi (wm l))).length<=100;have:=jbk h;omega;obtain⟨n,d,rfl⟩:=G9 c;have a:some (wK l n)=some b:=a;simp only[jy] at a;subst a;have e:vg (wK l n)=qg l n (we (wi (wm l))).length:=(vw l n _ (jk _)).2.2.2.2.1;rw[e];exact(CF _ _).2
namespace U
def Ku (l:LgD) (b:Int):BkD:=nth (wg (wm l)) b.toNat
def Kk (l:LgD) (b:Int) (x:Int×Bool) (c:CaD):Int×Bool:=if jaI c=b/\UM c<=qR (Ku l b)/\(x.2=false\/UM c<x.1) then(UM c,true) else x
def Df (l:LgD) (b:Int) (k:Nat):Int×Bool:=((w9 l).take k).foldl (Kk l b) (0,false)
def WK (l:LgD) (b:Int):Int×Bool:=Df l b (w9 l).length
def Nb (l:LgD) (b:Int) (i:Nat):Bool:=decide (WI (fR l)<=qR (Ku l b)+i)||decide (qR (Ku l b)+i<Zm (fR l))
def Nc (l:LgD) (b:Int) (k:Nat):Int:=(((List.range k).countP (Nb l b):Nat):Int)
def jbF (l:LgD) (b:Int):Int:=Nc l b (mB (Ku l b)-qR (Ku l b)).toNat
def jb3 (l:LgD) (b m:Int):Int:=m*jaG (fR l)*max (jaH (fR l)) (up (mB (Ku l b)-qR (Ku l b)) (UK (fR l)))
def jb4 (l:LgD) (b m:Int):Int:=jb3 l b m+up (jb3 l b m*UL (fR l)*jbF l b) (100*(mB (Ku l b)-qR (Ku l b)))
def Xv (l:LgD) (b m:Int) (n:NoD):Bool:=decide (UJ n<=qR (Ku l b)-m)
def jck (l:LgD) (b m:Int):Int:=if 0<=yE (Xv l b m) (eA (fR l)) then Xs (nth (eA (fR l)) (yE (Xv l b m) (eA (fR l))).toNat) else 100
def jbG (l:LgD) (b t:Int):Int:=if(WK l b).2=true then up (jb4 l b (BT.size t)*jck l b (WK l b).1) 100 else jb4 l b (BT.size t)
def jbH (l:LgD) (b t:Int):Int:=if(WK l b).2=true then 0 else ZE (fR l)*nth (Fs l) b.toNat*BT.size t
def jbI (l:LgD) (b t:Int):Int:=min (QI (fR l)) (((jbG l b t+jbH l b t)*nth (aQ (fR l)) (fO (y9 (Ku l b))).toNat).tdiv 100)
def UA (l:LgD) (b t:Int):LnD:=(nth (yC l) b.toNat,b,jbG l b t,jbH l b t,jbI l b t,jbG l b t+jbH l b t-jbI l b t,())
def UN (l:LgD) (b:Int):Int:=nth (QV (wm l)) b.toNat
def jcm (l:LgD) (b:Int):Bool:=Oy (wi (wm l)) (y9 (Ku l b)) (UN l b)
def jb5 (l:LgD) (p:Int) (b:Nat):Bool:=jcm l (b:Int)&&decide (nth (yC l) b=p)
def UB (l:LgD) (p:Int) (k:Nat):List LnD:=((List.range k).filter (jb5 l p)).map (fun(b:Nat)=>UA l (b:Int) (UN l (b:Int)))
def pe (l:LgD) (n:Nat):List LnD:=(List.range n).flatMap (fun(p:Nat)=>UB l (p:Int) (yC l).length)
def l6 (l:LgD):List LnD:=pe l 21
def gK (l:LgD) (k:Nat):Int:=((yC l).take k).foldl (fun m p=>max m (p+1)) 0
def ee (l:LgD):Int:=gK l (yC l).length
def jaL (l:LgD):List Int:=ye (ee l).toNat (l6 l) (l6 l).length
end U
theorem CV {l:LgD} {b:Int} {k:Nat} (h:k<(w9 l).length):Df l b (k+1)=Kk l b (Df l b k) (nth (w9 l) k):=by
 unfold Df;rw[L.wG h,jV];rfl
theorem Y1 {l:LgD} {b:Int} (h:∀c∈w9 l,-100000<=UM c/\UM c<=1440):∀k,k<=(w9 l).length->-100000<=(Df l b k).1/\(Df l b k).1<=1440
 |0,_=>by show-100000<=(0:Int)/\(0:Int)<=1440;omega
 |k+1,hk=>by
  rw[CV (by omega)]
  unfold Kk
  split
  exact h _ (L.wd (by omega))
  exact Y1 h k (by omega)
theorem JU {l:LgD} {n:Int}:∀k,k<=(w9 l).length->(ph (wh l n k),sC (wh l n k))=Df l n k
 |0,_=>rfl
 |k+1,hk=>by
  have d:=JU (l:=l) (n:=n) k (by omega)
  have c:qL (wh l n k)=Ku l n:=(vw l n k (by omega)).1
  rw[cC (by omega),CV (by omega),<-d]
  unfold sx Kk
  by_cases a:jaI (nth (w9 l) k)=n
  rw[jh a]
  unfold yQ
  rw[c]
  by_cases b:UM (nth (w9 l) k)<=qR (Ku l n)/\(sC (wh l n k)=false\/UM (nth (w9 l) k)<ph (wh l n k))
  rw[jh b,jh ⟨a,b⟩];rfl
  rw[jc b,jc (fun h=>b h.2)]
  rw[jc a,jc (fun h=>a h.1)]
theorem T7 {l:LgD} {b:Int} (a:Zm (fR l)<=WI (fR l)):∀k:Nat,Nc l b k=max 0 (qR (Ku l b)+k-max (qR (Ku l b)) (WI (fR l)))+max 0 (min (qR (Ku l b)+k) (Zm (fR l))-qR (Ku l b))
 |0=>by
  show(0:Int)=_
  omega
 |k+1=>by
  have c:=T7 (b:=b) a k
  have e:Nc l b (k+1)=Nc l b k+(if Nb l b k=true then 1 else 0):=by
   unfold Nc;rw[zq,zM,List.countP_singleton]
   split<;>simp
  rw[e,c];by_cases h:Nb l b k=true;rw[jh h];unfold Nb at h;rw[zo,jp,jp] at h;omega;rw[jc h];unfold Nb at h;rw[zo,jp,jp] at h;omega
theorem Ql {w:Int} (h:0<=w):U.up (w*100) 100=w:=by
 unfold U.up;rw[kk (by omega)];omega
theorem Wi {d:DyD} (h:ez d=0) {b:Nat} (g:b<(wg d).length):(((Kg (nth (QV d) b) (we (wi d)).length).length:Nat):Int)=BT.size (nth (QV d) b):=by
 have e:QV d=(Uu d).1:=jh h;have a:=Xk h g;rw[<-e] at a;have l:(we (wi d)).length<=8:=by
  have c:=(Xg h).1;unfold wz at c;rw[ji] at c;exact(jb c.1).2.2.1
 have k:BT.vA (nth (QV d) b):=⟨a.1,Int.lt_trans a.2 (by
  have:(2:Int)^(we (wi d)).length<2^62:=by
   rw[BT.two_nat,BT.two_nat];exact Int.ofNat_lt.2 (Nat.pow_lt_pow_right (by decide) (by omega))
  exact this)⟩
 unfold Kg BT.size;rw[zr,<-List.countP_eq_length_filter];obtain⟨m,j⟩:∃m,62=(we (wi d)).length+m:=⟨62-(we (wi d)).length,by omega⟩;rw[j,List.range_add,zM];have z:List.countP (fun p=>BT.has (nth (QV d) b) p) (List.map (fun x=>(we (wi d)).length+x) (List.range m))=0:=by
  rw[zT];intro p f i;obtain⟨q,n,rfl⟩:=jT.1 f;have:=BT.has_lt a.1 a.2 i;omega
 rw[z,zG];congr 1;refine List.countP_congr fun p f=> ?_
 have:=Ar k (p:Int);rw[this];simp
theorem Wj {l:LgD} (h:ez (wm l)=0) (u:Zm (fR l)<=WI (fR l)) {n:Int} (A:0<=n/\n<((wg (wm l)).length:Int)) (z:qR (Ku l n)<mB (Ku l n)) (v:0<=pg (il l n)):qA (wK l n)=UA l n (UN l n):=by
 obtain⟨c1,c2,e,f,y,g,i⟩:=vw l n _ (jk _);have c1:qL (wK l n)=Ku l n:=c1;have c2:yZ (wK l n)=fR l:=c2;have e:M8 (wK l n)=n:=e;have f:M9 (wK l n)=nth (yC l) n.toNat:=f;have g:pg (wK l n)=pg (il l n):=g;have i:El (wK l n)=El (il l n):=i;have a:=JU (l:=l) (n:=n) _ (jk _);have w:ph (wK l n)=(WK l n).1:=jS (·.1) a;have s:sC (wK l n)=(WK l n).2:=jS (·.2) a;have b:(((qg l n (we (wi (wm l))).length).length:Nat):Int)=BT.size (UN l n):=by
  unfold qg UN;rw[YM,jh h,<-(jh h:QV (wm l)=_)];exact Wi h (by omega)
 have k:yT (sw l n (qg l n (we (wi (wm l))).length))=jbF l n:=by
  unfold jbF;rw[T7 u];show max 0 (mB (Ku l n)-max (qR (Ku l n)) (WI (fR l)))+max 0 (min (mB (Ku l n)) (Zm (fR l))-qR (Ku l n))=_;omega
 have p:pg (il l n)=jb4 l n (BT.size (UN l n)):=by
  show l5 (sw l n (qg l n (we (wi (wm l))).length))+U.up (l5 (sw l n (qg l n (we (wi (wm l))).length))*UL (fR l)*yT (sw l n (qg l n (we (wi (wm l))).length))) (100*(mB (Ku l n)-qR (Ku l n)))=_;have j:l5 (sw l n (qg l n (we (wi (wm l))).length))=jb3 l n (BT.size (UN l n)):=by
   show(((qg l n (we (wi (wm l))).length).length:Nat):Int)*jaG (fR l)*max (jaH (fR l)) (U.up (mB (Ku l n)-qR (Ku l n)) (UK (fR l)))=_;rw[b];rfl
  rw[j,k];rfl
 have o:El (il l n)=ZE (fR l)*nth (Fs l) n.toNat*BT.size (UN l n):=by
  show(((qg l n (we (wi (wm l))).length).length:Nat):Int)*ZE (fR l)*nth (Fs l) n.toNat=_;rw[b,Int.mul_assoc,Int.mul_comm]
 have m:d9 (wK l n)=Xv l n (WK l n).1:=by
  funext x;unfold d9 Xv;rw[c1,w]
 have r:qQ (wK l n)=jbG l n (UN l n):=by
  unfold qQ jbG QJ jck;rw[s,c2,m,g,<-p];by_cases c:(WK l n).2=true;rw[jh c];by_cases d:0<=yE (Xv l n (WK l n).1) (eA (fR l));rw[jh ⟨c,d⟩,jh d];rw[jc (fun h=>d h.2),jc d,Ql v];rw[jc (fun h=>c h.1),jc c]
 have q:vj (wK l n)=jbH l n (UN l n):=by
  unfold vj jbH;rw[s,i,o]
 have t:nF (wK l n)=jbI l n (UN l n):=by
  unfold nF jbI;rw[r,q,c1,c2]
 unfold qA UA;rw[r,q,t,e,f]
theorem MI {l:LgD} (h:xw l) {n:Int} (a:0<=n/\n<((wg (wm l)).length:Int)):qA (wK l n)=UA l n (UN l n):=by
 obtain⟨b,e⟩:=JC h a;have c:=(lL (wm l)).symm.trans h.cp;have d:=h.ta.dw;exact Wj c (by omega) a b.2.1 (On h a).wk.1
theorem Wk {x y:LnD} (h:gS x<gS y\/(gS x=gS y/\ik x<ik y)):¬t7 y x<0:=by
 unfold t7;rw[wY,q9];unfold bZ;rcases h with h|⟨b,a⟩;rw[jc (show¬gS y<gS x by omega),jh h,jh (by decide)];decide;rw[jc (show¬gS y<gS x by omega),jc (show¬gS x<gS y by omega),jc (by decide),jc (show¬ik y<ik x by omega),jh a];decide
theorem Ha (l:LgD):vn (QK l)=(kW (wm l)).map (fun n=>qA (wK l n)):=by
 rw[Ol];unfold vn;rw[kR];rfl
theorem Ot (l:LgD) (n:Int):ik (qA (wK l n))=n:=(vw l n _ (jk _)).2.2.1
theorem Y2 {d:DyD} (h:ez d=0) {n:Int}:n∈kW d↔∃b:Nat,b<(wg d).length/\jbZ d (QV d) b=true/\n=(b:Int):=by
 rw[YQ];unfold jb0;rw[jh h];unfold Xr;rw[jT];constructor;rintro⟨b,a,rfl⟩;have:=jP.1 a;exact⟨b,by rw[<-Mq h];exact jC.1 this.1,this.2,rfl⟩;rintro⟨b,a,c,rfl⟩;exact⟨b,jP.2 ⟨jC.2 (by rw[Mq h];exact a),c⟩,rfl⟩
theorem T8 {l:LgD} (h:xw l) {n:Int} (e:0<=n/\n<((wg (wm l)).length:Int)):n∈kW (wm l)↔jcm l n=true:=by
 have c:=(lL (wm l)).symm.trans h.cp;rw[Y2 c];constructor;rintro⟨b,d,a,rfl⟩;exact a;intro a;exact⟨n.toNat,by omega,a,by omega⟩
theorem Hb {l:LgD} {k:Nat} {x:LnD}:x∈pe l k↔∃p:Nat,p<k/\∃b:Nat,b<(yC l).length/\jcm l (b:Int)=true/\nth (yC l) b=(p:Int)/\x=UA l (b:Int) (UN l (b:Int)):=by
 unfold pe;rw[List.mem_flatMap];constructor;rintro⟨p,d,h⟩;obtain⟨b,c,rfl⟩:=jT.1 h;have e:=jP.1 c;have a:=e.2;unfold jb5 at a;rw[ji,jp] at a;exact⟨p,jC.1 d,b,jC.1 e.1,a.1,a.2,rfl⟩;rintro⟨p,d,b,c,g,f,rfl⟩;refine⟨p,jC.2 d,jT.2 ⟨b,jP.2 ⟨jC.2 c,?_⟩,rfl⟩⟩;unfold jb5;rw[g,jI f];rfl
theorem Hc (l:LgD) (k:Nat):(pe l k).Pairwise (fun x y=>gS x<gS y\/(gS x=gS y/\ik x<ik y)):=by
 have d:∀(p:Nat) (x:LnD),x∈UB l (p:Int) (yC l).length->gS x=(p:Int):=fun p x g=>by
  obtain⟨b,f,rfl⟩:=jT.1 g;have e:=(jP.1 f).2;unfold jb5 at e;rw[ji,jp] at e;exact e.2
 unfold pe;refine List.pairwise_flatMap.2 ⟨fun p _=> ?_,List.Pairwise.imp ?_ kE⟩;have h:(UB l (p:Int) (yC l).length).Pairwise (fun x y=>ik x<ik y):=by
  unfold UB;exact zP.2 ((List.pairwise_lt_range.filter _).imp fun{a b} c=>by
   show(a:Int)<(b:Int);omega)
 exact List.Pairwise.imp_of_mem (fun{a b} i f c=>Or.inr ⟨by rw[d p a i,d p b f],c⟩) h;intro a b c x g y j;have:=d a x g;have:=d b y j;left;omega
theorem Qm (l:LgD) (k:Nat):(pe l k).Nodup:=(Hc l k).imp fun{a b} h e=>by subst e;omega
theorem CW {l:LgD} (h:xw l):wB (U.bo l)=l6 l:=by
 have o:=Fl (T6 h);have f:(vn (QK l)).Nodup:=by
  rw[Ha];exact zP.2 ((tK (wm l)).imp fun{a b} g e=>g (by
   have:=jS ik e;rw[Ot,Ot] at this;exact this))
 have s:=(lL (wm l)).symm.trans h.cp
 haveI:DecidableEq LnD:=fun a b=>Classical.propDecidable (a=b)
 have k:(l6 l).Perm (vn (Na (U.bo l))):=L.nG (Qm l 21) f fun x=>by
  show x∈pe l 21↔x∈vn (QK l);rw[Hb,Ha,jT];constructor;rintro⟨p,k,b,m,r,q,rfl⟩;have c:0<=(b:Int)/\(b:Int)<(wg (wm l)).length:=(by rw[h.py.1] at m;omega);exact⟨(b:Int),(T8 h c).2 r,MI h c⟩;rintro⟨n,j,rfl⟩;have c:=GZ j;have i:n.toNat<(yC l).length:=(by rw[h.py.1];omega);have q:=h.py.2 _ (L.wd i);have en:((n.toNat:Nat):Int)=n:=(by omega);refine⟨(nth (yC l) n.toNat).toNat,by omega,n.toNat,i,?_,by omega,?_⟩;rw[en];exact(T8 h c).1 j;rw[en];exact MI h c
 refine(rc (jbr o) k ?_).symm;exact(Hc l 21).imp fun{a b} d=>za (Wk d)
theorem Qn {l:LgD} {k:Nat} (h:k<(yC l).length):gK l (k+1)=max (gK l k) (nth (yC l) k+1):=by
 unfold gK;rw[L.wG h,jV];rfl
theorem fN {l:LgD}:∀k,k<=(yC l).length->0<=gK l k/\(∀i,i<k->nth (yC l) i+1<=gK l k)/\(gK l k=0\/∃i,i<k/\gK l k=nth (yC l) i+1)
 |0,_=>⟨kg _,fun i hi=>by omega,Or.inl rfl⟩
 |k+1,hk=>by
  obtain⟨c,b,a⟩:=fN (l:=l) k (by omega)
  rw[Qn (by omega)]
  refine⟨by omega,fun i hi=> ?_,?_⟩
  by_cases e:i=k
  subst e;omega
  have:=b i (by omega);omega
  rcases Int.le_total (nth (yC l) k+1) (gK l k) with h|h
  rw[Int.max_eq_left h]
  rcases a with a|⟨i,hi,a⟩
  exact Or.inl a
  exact Or.inr ⟨i,by omega,a⟩
  rw[Int.max_eq_right h]
  exact Or.inr ⟨k,by omega,rfl⟩
theorem Y3 {l:LgD} (h:xw l):Kh (U.bo l)=jaL l:=by
 have m:=CW h;unfold Kh jaL;rw[m];show(if(yC l).length=0 then[] else ye (gw (yC l)+1).toNat (l6 l) (l6 l).length)=_;by_cases e:(yC l).length=0;rw[jh e];have f:l6 l=[]:=by
  refine kB.2 fun x o=> ?_
  obtain⟨p,_,b,t,_⟩:=Hb.1 (show x∈pe l 21 from o);omega
 have e2:ee l=0:=(by unfold ee;rw[e];rfl);rw[f,e2];rfl;rw[jc e];obtain⟨r,k,a⟩:=fN (l:=l) (yC l).length (jk _);have c:yC l≠[]:=fun e2=>e (by rw[e2];rfl)
 have d:=Oo c;have u:=h.py.2 _ d;obtain⟨i,hi,q⟩:=L.mem_iff.1 d;have s:=k i hi;have g:ee l=gw (yC l)+1:=by
  show gK l (yC l).length=_;rcases a with a|⟨j,n,a⟩;omega;have:=T4 (L.wd n);omega
 rw[g]
namespace U
def eg (b:BlD) (a:Int) (k:Nat):Bool:=decide (y4 (qR (qL b)-(k:Int)) b<=a)
def cV (b:BlD):Nat:=(qR (qL b)+100001).toNat
def Eo (b:BlD) (a:Int):Option Nat:=(List.range (cV b)).find? (eg b a)
def jbJ (b:BlD):Option Nat->Int
 |some k=>qR (qL b)-(k:Int)
 |none=>0
def jbK:Option Nat->Int
 |some _=>0
 |none=>3
def jb6 (a:Int):Option BlD->Int
 |some b=>jbJ b (Eo b a)
 |none=>0
def jb7 (a:Int):Option BlD->Int
 |some b=>jbK (Eo b a)
 |none=>3
def Kl (l:LgD) (n a:Int):Int:=if qh l (vi l n&&yD a)=0 then jb6 a (QX (bo l) n) else 0
def Km (l:LgD) (n a:Int):Int:=if qh l (vi l n&&yD a)=0 then jb7 a (QX (bo l) n) else qh l (vi l n&&yD a)
end U
theorem Fo (b:BlD) (a:Int):(∃k:Nat,Eo b a=some k/\k<cV b/\eg b a k=true/\∀j:Nat,j<k->eg b a j=false)\/(Eo b a=none/\∀j:Nat,j<cV b->eg b a j=false):=by
 cases e:Eo b a with
 |some k=>
  left;unfold Eo at e;obtain⟨l,d,rs,f,m⟩:=List.find?_eq_some_iff_append.1 e;have c:=jS List.length f;rw[zI,jL,jX] at c;have hk:(List.range (cV b))[d.length]'(by rw[zI];omega)=k:=by
   have e2:(d++k::rs)[d.length]'(by rw[jL,jX];omega)=k:=by
    rw[List.getElem_append_right (jk _)];simp
   have:=List.getElem_of_eq f (i:=d.length) (by rw[zI];omega);rw[this,e2]
  rw[List.getElem_range] at hk;refine⟨k,rfl,by omega,l,fun j h=> ?_⟩;have g:=List.getElem_of_eq f (i:=j) (by rw[zI];omega);rw[List.getElem_range,List.getElem_append_left (by omega)] at g;have:=m j (by rw[g];exact kL _);simpa using this
 |none=>
  right;unfold Eo at e;rw[List.find?_eq_none] at e;refine⟨rfl,fun j h=> ?_⟩;have:=e j (jC.2 h);simpa using this
end Go.X

namespace Go.X
open U
theorem Wl {l:LgD} {n:Int}:vi l n=true↔0<=n/\n<((wg (wm l)).length:Int):=by
 unfold vi;rw[qE];omega
theorem jbv {l:LgD} (h:xw l):(wg (wm l)).length<=4:=by
 have a:=h.dy;unfold qc at a;rw[ji] at a;exact(jb a.1).1
structure jbV (l:LgD) (x:LnD):Prop where
 bk:0<=ik x/\ik x<((wg (wm l)).length:Int)
 py:gS x=nth (yC l) (ik x).toNat
 pr:0<=gS x/\gS x<=20/\gS x<ee l
 wk:0<=Xt x/\Xt x<=10000000000000000
 tr:0<=Xu x/\Xu x<=1000000000
 sb:0<=jaJ x/\jaJ x<=QI (fR l)
 tt:Oz x=Xt x+Xu x-jaJ x/\0<=Oz x
 kd:0<=fO (y9 (nth (wg (wm l)) (ik x).toNat))/\fO (y9 (nth (wg (wm l)) (ik x).toNat))<((aQ (fR l)).length:Int)
 pc:0<=nth (aQ (fR l)) (fO (y9 (nth (wg (wm l)) (ik x).toNat))).toNat/\nth (aQ (fR l)) (fO (y9 (nth (wg (wm l)) (ik x).toNat))).toNat<=100
 pp:100*jaJ x<=(Xt x+Xu x)*nth (aQ (fR l)) (fO (y9 (nth (wg (wm l)) (ik x).toNat))).toNat
theorem Wm {l:LgD} {i:Nat} (hi:i<(yC l).length):nth (yC l) i<ee l:=by
 have:=(fN (l:=l) (yC l).length (jk _)).2.1 i hi;show _<gK l (yC l).length;omega
theorem jbW {l:LgD} (h:xw l) {x:LnD} (t:x∈l6 l):jbV l x:=by
 obtain⟨p,v,b,i,z,y,rfl⟩:=Hb.1 (show x∈pe l 21 from t);have c:0<=(b:Int)/\(b:Int)<(wg (wm l)).length:=(by rw[h.py.1] at i;omega);rw[<-MI h c];have w:=JD h c;obtain⟨c1,c2,e,f,_⟩:=vw l (b:Int) _ (jk _);have c1:qL (wK l (b:Int))=nth (wg (wm l)) b:=c1;have c2:yZ (wK l (b:Int))=fR l:=c2;have e:M8 (wK l (b:Int))=(b:Int):=e;have f:M9 (wK l (b:Int))=nth (yC l) b:=f;have r:=GW w;have q:=GX w;have o:=w.bl.ta.cp;have d:=TM w.bl;have hk:=w.bl.kd;have j:=w.bl.ta.sl;rw[c1,c2] at d;rw[c1] at hk;rw[c2] at o j;have m:0<=(qQ (wK l (b:Int))+vj (wK l (b:Int)))*nth (aQ (fR l)) (fO (y9 (nth (wg (wm l)) b))).toNat:=Int.mul_nonneg (by omega) d.1;have n:(qQ (wK l (b:Int))+vj (wK l (b:Int)))*nth (aQ (fR l)) (fO (y9 (nth (wg (wm l)) b))).toNat<=(qQ (wK l (b:Int))+vj (wK l (b:Int)))*100:=Int.mul_le_mul_of_nonneg_left d.2 (by omega);have g:nF (wK l (b:Int))=min (QI (fR l)) (((qQ (wK l (b:Int))+vj (wK l (b:Int)))*nth (aQ (fR l)) (fO (y9 (nth (wg (wm l)) b))).toNat)/100):=by
  unfold nF;rw[c1,c2,kk m]
 have u:=Wm i;have s:=h.py.2 _ (L.wd i);have k:ik (qA (wK l (b:Int)))=(b:Int):=e;have ep:gS (qA (wK l (b:Int)))=nth (yC l) b:=f;have a:(ik (qA (wK l (b:Int)))).toNat=b:=(by rw[k];rfl);refine⟨by rw[k];exact c,by rw[ep,a],by rw[ep];omega,r,q,?_,⟨rfl,?_⟩,by rw[a];omega,by rw[a];exact d,?_⟩;show 0<=nF _/\nF _<=_;rw[g];omega;show 0<=qQ _+vj _-nF _;rw[g];omega;rw[a];show 100*nF _<=(qQ _+vj _)*_;rw[g];omega
theorem Wn {l:LgD} (h:xw l):(l6 l).length<=(wg (wm l)).length:=by
 rw[<-CW h];have e:(wB (U.bo l)).length=(vn (QK l)).length:=(wQ _).length_eq;rw[e,Ha,zr];unfold kW
 split
 unfold gp;rw[zr];exact jD (zX _ _) (by rw[zI];exact jk _);exact jw _
theorem T9 {l:LgD} {i:Nat} (hi:i<(l6 l).length) (a:0<i):gS (nth (l6 l) (i-1))<gS (nth (l6 l) i)\/(gS (nth (l6 l) (i-1))=gS (nth (l6 l) i)/\ik (nth (l6 l) (i-1))<ik (nth (l6 l) i)):=by
 have h:=Hc l 21;rw[zy] at h;have:=h (i-1) i (by show _<(l6 l).length;omega) hi (by omega);rw[L.ql hi,L.ql (show i-1<(l6 l).length by omega)];exact this
open Go.Proofs
namespace U
def QM (l:List NoD) (j:Nat):Bool:=(kV (UJ (nth l j)) 0 100000&&kV (Xs (nth l j)) 0 100)&&(decide (j=0)||decide (UJ (nth l j)<UJ (nth l (j-1))))
def UC (a b:CaD):Bool:=decide (QW a=QW b)&& !decide (a=b)
def QY (l:LgD) (j:Nat):Bool:=Kf (nth (yC l) j)&&uI (nth (Fs l) j)
end U
def JV:wL:=⟨[.val .int,.val .int,.val .int],[.bool],false,fun _=>[],fun d=>(kV d.1 d.2.1 d.2.2.1,())⟩
def JW:Prop:=∀(d:CaD),(decide (d.2.1<=d.1)&&decide (d.1<=d.2.2.1),())=(kV d.1 d.2.1 d.2.2.1,())
def D5:wL:=⟨[.val tTa],[.bool],false,fun _=>[],fun d=>(vP d.1,())⟩
def D6:Ann:=fun r=>match r with
 |4=>some fun σ=>{X:=Nat,sl:=fun i=>[(3,.dat .int (i:Int))],ob:=fun _=>[],inv:=fun i=>i<=(aQ (gb tTa σ 1)).length/\∀j:Nat,j<i->kV (nth (aQ (gb tTa σ 1)) j) 0 100=true,mu:=fun i=>(aQ (gb tTa σ 1)).length-i}
 |9=>some fun σ=>{X:=Nat,sl:=fun i=>[(4,.dat .int (i:Int))],ob:=fun _=>[],inv:=fun i=>i<=(eA (gb tTa σ 1)).length/\∀j:Nat,j<i->QM (eA (gb tTa σ 1)) j=true,mu:=fun i=>(eA (gb tTa σ 1)).length-i}
 |_=>none
abbrev jeq (d:TaD×Unit)(x:Nat):=(nth d.1.q4.q4.2.1 x)
abbrev jfu (d:TaD×Unit)(x:Nat):=(!(!kV (jeq d x).1 (0:Int) (100000:Int)|| !kV (jeq d x).2.1 (0:Int) (100:Int))&&decide (0<(x:Int)))
abbrev jgb (d:TaD×Unit)(x:Nat):=(!kV (jeq d x).1 (0:Int) (100000:Int)|| !kV (jeq d x).2.1 (0:Int) (100:Int)||decide (0<(x:Int))&&decide ((nth d.1.q4.q4.2.1 ((x:Int)-1).toNat).1<=(jeq d x).1))
abbrev jer (d:TaD×Unit):=(d.1.q4.q4.2.1.length:Int)
abbrev jes (d:TaD×Unit):=(d.1.q4.q4.1.length:Int)
abbrev jgc (d:TaD×Unit):=(!kV d.1.1 (1:Int) (240:Int)|| !kV d.1.2.1 (0:Int) (10000:Int)|| !kV d.1.2.2.1 (0:Int) (20:Int)|| !kV d.1.q4.1 (0:Int) d.1.2.2.2.1||decide (1440<d.1.2.2.2.1)|| !kV d.1.q4.2.1 (0:Int) (100:Int)|| !kV d.1.q4.2.2.1 (0:Int) (10000:Int)||decide ((jes d)≠4)|| !kV d.1.q4.2.2.2.1 (0:Int) (1000000:Int)||decide (4<(jer d)))
abbrev jgd (d:TaD×Unit)(x:Nat):=(!kV (nth d.1.q4.q4.1 x) (0:Int) (100:Int))
def D7:Prop:=∀(d:TaD×Unit),((!(!kV d.1.1 (1:Int) (240:Int)|| !kV d.1.2.1 (0:Int) (10000:Int)|| !kV d.1.2.2.1 (0:Int) (20:Int)|| !kV d.1.q4.1 (0:Int) d.1.2.2.2.1||decide (1440<d.1.2.2.2.1)|| !kV d.1.q4.2.1 (0:Int) (100:Int)|| !kV d.1.q4.2.2.1 (0:Int) (10000:Int)))=true->d.1.q4.q4.1.length<4611686018427387904)->((!(!kV d.1.1 (1:Int) (240:Int)|| !kV d.1.2.1 (0:Int) (10000:Int)|| !kV d.1.2.2.1 (0:Int) (20:Int)|| !kV d.1.q4.1 (0:Int) d.1.2.2.2.1||decide (1440<d.1.2.2.2.1)|| !kV d.1.q4.2.1 (0:Int) (100:Int)|| !kV d.1.q4.2.2.1 (0:Int) (10000:Int)||decide ((jes d)≠4)|| !kV d.1.q4.2.2.2.1 (0:Int) (1000000:Int)))=true->d.1.q4.q4.2.1.length<4611686018427387904)->((jgc d)=true->(false,())=(vP d.1,()))/\((jgc d)=false->(∃(x:Nat),((0=(x:Int)/\True)/\True)/\x<=(aQ d.1).length/\∀(j:Nat),j<x->kV (nth (aQ d.1) j) (0:Int) 100=true)/\∀(x:Nat),(x<=(aQ d.1).length/\∀(j:Nat),j<x->kV (nth (aQ d.1) j) (0:Int) 100=true)->d.1.q4.q4.1.length<4611686018427387904->(decide ((x:Int)<(jes d))=true->0<=(x:Int)/\(x:Int)<(jes d)/\((jgd d x)=true->(false,())=(vP d.1,()))/\((jgd d x)=false->wq ((x:Int)+1)/\∃(a:Nat),(((x:Int)+1=(a:Int)/\True)/\True)/\(a<=(aQ d.1).length/\∀(j:Nat),j<a->kV (nth (aQ d.1) j) (0:Int) 100=true)/\(aQ d.1).length-a<(aQ d.1).length-x))/\(decide ((x:Int)<(jes d))=false->(∃(x:Nat),((0=(x:Int)/\True)/\True)/\x<=(eA d.1).length/\∀(j:Nat),j<x->QM (eA d.1) j=true)/\∀(x:Nat),(x<=(eA d.1).length/\∀(j:Nat),j<x->QM (eA d.1) j=true)->d.1.q4.q4.2.1.length<4611686018427387904->(decide ((x:Int)<(jer d))=true->0<=(x:Int)/\(x:Int)<(jer d)/\((jfu d x)=true->wq ((x:Int)-1))/\((jfu d x)=true->0<=(x:Int)-1)/\((jfu d x)=true->(x:Int)-1<(jer d))/\((jgb d x)=true->(false,())=(vP d.1,()))/\((jgb d x)=false->wq ((x:Int)+1)/\∃(a:Nat),(((x:Int)+1=(a:Int)/\True)/\True)/\(a<=(eA d.1).length/\∀(j:Nat),j<a->QM (eA d.1) j=true)/\(eA d.1).length-a<(eA d.1).length-x))/\(decide ((x:Int)<(jer d))=false->(true,())=(vP d.1,()))))
def D8:wL:=⟨[.val tLg],[.bool],false,fun _=>[],fun d=>(cg d.1,())⟩
def D9:Ann:=fun r=>match r with
 |5=>some fun σ=>{X:=Nat,sl:=fun i=>[(4,.dat .int (i:Int))],ob:=fun _=>[],inv:=fun i=>i<=(gd .int σ 3).toNat/\∀j:Nat,j<i->QY (gb tLg σ 1) j=true,mu:=fun i=>(gd .int σ 3).toNat-i}
 |10=>some fun σ=>{X:=Nat,sl:=fun i=>[(5,.dat .int (i:Int))],ob:=fun _=>[],inv:=fun i=>i<=(w9 (gb tLg σ 1)).length/\∀j:Nat,j<i->na (gd .int σ 3).toNat (nth (w9 (gb tLg σ 1)) j)=true,mu:=fun i=>(w9 (gb tLg σ 1)).length-i}
 |_=>none
abbrev jcJ (d:LgD×Unit):=(d.1.1.2.2.1.length:Int)
abbrev jge (d:LgD×Unit)(x:Nat):=(!kV (nth d.1.2.1 x) (0:Int) (20:Int)|| !kV (nth d.1.2.2.1 x) (0:Int) (300:Int))
abbrev jeP (d:LgD×Unit)(x:Nat):=(nth d.1.q4.1 x)
abbrev jgf (d:LgD×Unit)(x:Nat):=(!kV (jeP d x).1 (0:Int) (99:Int)|| !kV (jeP d x).2.1 (0:Int) ((jcJ d)-1)|| !kV (jeP d x).2.2.1 (-100000:Int) (1440:Int))
abbrev jfv (d:LgD×Unit):=((d.1.2.1.length:Int)≠(jcJ d))
abbrev jeQ (d:LgD×Unit):=(d.1.q4.1.length:Int)
abbrev jgg (d:LgD×Unit):=(decide (jfv d)||decide ((d.1.2.2.1.length:Int)≠(jcJ d))|| !vP d.1.2.2.2.1||decide (10<(jeQ d)))
def Ea:Prop:=∀(d:LgD×Unit),d.1.1.2.2.1.length<4611686018427387904->d.1.2.1.length<4611686018427387904->((!decide (jfv d))=true->d.1.2.2.1.length<4611686018427387904)->((!(decide (jfv d)||decide ((d.1.2.2.1.length:Int)≠(jcJ d))|| !vP d.1.2.2.2.1))=true->d.1.q4.1.length<4611686018427387904)->((jgg d)=true->(false,())=(cg d.1,()))/\((jgg d)=false->(∃(x:Nat),((0=(x:Int)/\True)/\True)/\x<=(jcJ d).toNat/\∀(j:Nat),j<x->QY d.1 j=true)/\∀(x:Nat),(x<=(jcJ d).toNat/\∀(j:Nat),j<x->QY d.1 j=true)->(decide ((x:Int)<(jcJ d))=true->0<=(x:Int)/\(x:Int)<d.1.2.1.length/\((!!kV (nth d.1.2.1 x) (0:Int) (20:Int))=true->0<=(x:Int))/\((!!kV (nth d.1.2.1 x) (0:Int) (20:Int))=true->(x:Int)<d.1.2.2.1.length)/\((jge d x)=true->(false,())=(cg d.1,()))/\((jge d x)=false->wq ((x:Int)+1)/\∃(a:Nat),(((x:Int)+1=(a:Int)/\True)/\True)/\(a<=(jcJ d).toNat/\∀(j:Nat),j<a->QY d.1 j=true)/\(jcJ d).toNat-a<(jcJ d).toNat-x))/\(decide ((x:Int)<(jcJ d))=false->(∃(x:Nat),((0=(x:Int)/\True)/\True)/\x<=(w9 d.1).length/\∀(j:Nat),j<x->na (jcJ d).toNat (nth (w9 d.1) j)=true)/\∀(x:Nat),(x<=(w9 d.1).length/\∀(j:Nat),j<x->na (jcJ d).toNat (nth (w9 d.1) j)=true)->d.1.q4.1.length<4611686018427387904->(decide ((x:Int)<(jeQ d))=true->0<=(x:Int)/\(x:Int)<(jeQ d)/\((!!kV (jeP d x).1 (0:Int) (99:Int))=true->wq ((jcJ d)-1))/\((jgf d x)=true->(false,())=(cg d.1,()))/\((jgf d x)=false->wq ((x:Int)+1)/\∃(a:Nat),(((x:Int)+1=(a:Int)/\True)/\True)/\(a<=(w9 d.1).length/\∀(j:Nat),j<a->na (jcJ d).toNat (nth (w9 d.1) j)=true)/\(w9 d.1).length-a<(w9 d.1).length-x))/\(decide ((x:Int)<(jeQ d))=false->(true,())=(cg d.1,()))))
def MJ:wL:=⟨[.val tLg],[.int],false,fun d=>[(wg (wm d.1)).length<=1000000],fun d=>(w8 d.1,())⟩
def MK:Ann:=fun r=>match r with
 |7=>some fun σ=>{X:=Nat,sl:=fun i=>[(4,.dat .int (i:Int))],ob:=fun _=>[],inv:=fun i=>i<=(w9 (gb tLg σ 1)).length/\∀b:Nat,b<i->aK (w9 (gb tLg σ 1)) b=false,mu:=fun i=>(w9 (gb tLg σ 1)).length-i}
 |10=>some fun σ=>{X:=Nat,sl:=fun i=>[(5,.dat .int (i:Int))],ob:=fun _=>[],inv:=fun i=>i<=(gd .int σ 4).toNat/\∀j:Nat,j<i->UC (nth (w9 (gb tLg σ 1)) (gd .int σ 4).toNat) (nth (w9 (gb tLg σ 1)) j)=false,mu:=fun i=>(gd .int σ 4).toNat-i}
 |_=>none
abbrev jet (d:LgD×Unit)(x:Nat)(a:Nat):=((nth d.1.q4.1 x).1=(nth d.1.q4.1 a).1)
abbrev jdV (d:LgD×Unit):=(d.1.q4.1.length:Int)
abbrev jgh (d:LgD×Unit)(x:Nat)(a:Nat):=(decide (jet d x a)&& !decide (nth d.1.q4.1 x=nth d.1.q4.1 a))
def ML:Prop:=∀(d:LgD×Unit),(wg (wm d.1)).length<=1000000->(wg d.1.1).length<=1000000/\(decide (ez d.1.1≠0)=true->(ez d.1.1,())=(w8 d.1,()))/\(decide (ez d.1.1≠0)=false->((!cg d.1)=true->((70:Int),())=(w8 d.1,()))/\((!cg d.1)=false->(∃(x:Nat),((0=(x:Int)/\True)/\True)/\x<=(w9 d.1).length/\∀(b:Nat),b<x->aK (w9 d.1) b=false)/\∀(x:Nat),(x<=(w9 d.1).length/\∀(b:Nat),b<x->aK (w9 d.1) b=false)->d.1.q4.1.length<4611686018427387904->(decide ((x:Int)<(jdV d))=true->(∃(a:Nat),((0=(a:Int)/\True)/\True)/\a<=x/\∀(j:Nat),j<a->UC (nth (w9 d.1) x) (nth (w9 d.1) j)=false)/\∀(a:Nat),(a<=x/\∀(j:Nat),j<a->UC (nth (w9 d.1) x) (nth (w9 d.1) j)=false)->(decide ((a:Int)<(x:Int))=true->0<=(x:Int)/\(x:Int)<(jdV d)/\0<=(a:Int)/\(a:Int)<(jdV d)/\(decide (jet d x a)=true->0<=(x:Int))/\(decide (jet d x a)=true->(x:Int)<(jdV d))/\(decide (jet d x a)=true->0<=(a:Int))/\(decide (jet d x a)=true->(a:Int)<(jdV d))/\((jgh d x a)=true->((71:Int),())=(w8 d.1,()))/\((jgh d x a)=false->wq ((a:Int)+1)/\∃(c:Nat),(((a:Int)+1=(c:Int)/\True)/\True)/\(c<=x/\∀(j:Nat),j<c->UC (nth (w9 d.1) x) (nth (w9 d.1) j)=false)/\x-c<x-a))/\(decide ((a:Int)<(x:Int))=false->wq ((x:Int)+1)/\∃(c:Nat),(((x:Int)+1=(c:Int)/\True)/\True)/\(c<=(w9 d.1).length/\∀(b:Nat),b<c->aK (w9 d.1) b=false)/\(w9 d.1).length-c<(w9 d.1).length-x))/\(decide ((x:Int)<(jdV d))=false->((0:Int),())=(w8 d.1,()))))
def CX:wL:=⟨[.val tLg,.val .int],[.bool],false,fun _=>[],fun d=>(vi d.1 d.2.1,())⟩
def CY:Prop:=∀(d:LgD×Int×Unit),d.1.1.2.2.1.length<4611686018427387904->wq ((d.1.1.2.2.1.length:Int)-1)/\(kV d.2.1 (0:Int) ((d.1.1.2.2.1.length:Int)-1),())=(vi d.1 d.2.1,())
theorem MM:JW:=by
 rintro⟨n,a,b,⟨⟩⟩;rfl
theorem lU:wU PR 40 JV:=wF MM Tryz.func40 kcN koN
theorem CZ:∀{l:List NoD} {last:Int},uH last l=true↔∀j,j<l.length->Hr (if j=0 then last else UJ (nth l (j-1))) (nth l j)=true
 |[],_=>⟨fun _ j a=>(by cases a),fun _=>rfl⟩
 |n::r,last=>by
  have d:=CZ (l:=r) (last:=UJ n)
  show(Hr last n&&uH (UJ n) r)=true↔_
  rw[ji,d]
  constructor
  rintro⟨b,c⟩ j a
  cases j with
  |zero=>exact b
  |succ j=>
   rw[jc (by omega)]
   have:=c j (by simpa using a)
   cases j with
   |zero=>exact this
   |succ j=>exact this
  intro h
  refine⟨h 0 (by simp),fun j a=> ?_⟩
  have:=h (j+1) (by simpa using a)
  rw[jc (by omega)] at this
  cases j with
  |zero=>exact this
  |succ j=>exact this
theorem jas {l:List NoD}:uH 100001 l=true↔∀j,j<l.length->QM l j=true:=by
 constructor;intro h j b;have a:=(GV h _ (L.wd b));have c:=CZ.1 h j b;unfold QM;simp only[ji,zo,jp,qE];refine⟨⟨by omega,by omega⟩,?_⟩;by_cases e:j=0;exact Or.inl e;rw[jc e] at c;unfold Hr at c;rw[ji,qE] at c;right;omega;intro h;refine CZ.2 fun j b=> ?_
 have a:=h j b;unfold QM at a;simp only[ji,zo,jp,qE] at a;unfold Hr U.share;rw[ji,qE,qE];refine⟨?_,a.1.2⟩;by_cases e:j=0;rw[jh e];omega;rw[jc e];omega
def taH (t:TaD):Bool:= !kV (UK t) 1 240|| !kV (jaG t) 0 10000|| !kV (jaH t) 0 20|| !kV (Zm t) 0 (WI t)||decide (1440<WI t)|| !kV (UL t) 0 100|| !kV (ZE t) 0 10000||decide (((aQ t).length:Int)≠4)|| !kV (QI t) 0 1000000||decide (4<((eA t).length:Int))
theorem Hd (t:TaD):vP t=true↔taH t=false/\(∀j,j<(aQ t).length->kV (nth (aQ t) j) 0 100=true)/\∀j,j<(eA t).length->QM (eA t) j=true:=by
 rw[<-jas];unfold vP taH U.share;simp only[jN,jE,zl,ji,jp,qE,j6];constructor;rintro⟨⟨⟨⟨⟨⟨⟨a,b⟩,c⟩,l⟩,d⟩,e⟩,f⟩,⟨⟨⟨m,g⟩,h⟩,n⟩,i⟩;exact⟨⟨⟨⟨⟨⟨⟨⟨⟨⟨a,b⟩,c⟩,d⟩,by omega⟩,e⟩,f⟩,by omega⟩,h⟩,by omega⟩,fun j k=>g _ (L.wd k),i⟩;rintro⟨⟨⟨⟨⟨⟨⟨⟨⟨⟨a,b⟩,c⟩,d⟩,l⟩,e⟩,f⟩,m⟩,h⟩,n⟩,g,i⟩;refine⟨⟨⟨⟨⟨⟨⟨a,b⟩,c⟩,by omega⟩,d⟩,e⟩,f⟩,⟨⟨⟨by omega,fun x o=> ?_⟩,h⟩,by omega⟩,i⟩;obtain⟨j,k,rfl⟩:=L.mem_iff.1 o;exact g j k
theorem Y4 {t:TaD} (h:¬vP t=true):(false,())=(vP t,()):=by
 rw[ky] at h;rw[h]
theorem C4 (l:LgD):cg l=true↔((yC l).length=(wg (wm l)).length/\(Fs l).length=(wg (wm l)).length/\vP (fR l)=true/\(w9 l).length<=10)/\(∀j,j<(wg (wm l)).length->QY l j=true)/\∀j,j<(w9 l).length->na (wg (wm l)).length (nth (w9 l) j)=true:=by
 unfold cg QY;simp only[ji,jp,j6];constructor;rintro⟨⟨⟨c,h⟩,d,i⟩,e,f,k⟩;exact⟨⟨c,d,e,f⟩,fun j a=>⟨h _ (L.wd (by omega)),i _ (L.wd (by omega))⟩,fun j a=>k _ (L.wd a)⟩;rintro⟨⟨c,d,e,f⟩,g,m⟩;refine⟨⟨⟨c,fun x b=> ?_⟩,d,fun x b=> ?_⟩,e,f,fun x b=> ?_⟩;obtain⟨j,a,rfl⟩:=L.mem_iff.1 b;exact(g j (by omega)).1;obtain⟨j,a,rfl⟩:=L.mem_iff.1 b;exact(g j (by omega)).2;obtain⟨j,a,rfl⟩:=L.mem_iff.1 b;exact m j a
theorem Y5 {l:LgD} (h:¬cg l=true):(false,())=(cg l,()):=by
 rw[ky] at h;rw[h]
theorem jat {l:List CaD} {i:Nat} (h:∀j:Nat,j<i->UC (nth l i) (nth l j)=false) (hi:i<=l.length):aK l i=false:=by
 unfold aK;rw[zj];intro x c;obtain⟨j,b,rfl⟩:=L.mem_iff.1 c;rw[j0] at b;rw[L.nth_take (by omega)];have:=h j (by omega);unfold UC at this;rw[ky,kj] at*;rcases this with a|a;left;exact za fun e=>je a e.symm
 right;rw[zl,jp] at a;rw[a,jI rfl];rfl
theorem Y6 {l:List CaD} {i j:Nat} (hi:i<l.length) (a:j<i) (h:UC (nth l i) (nth l j)=true):bX l=true:=by
 unfold bX Dd;rw[j9];refine⟨i,jC.2 hi,?_⟩;unfold aK;rw[j9];unfold UC at h;rw[ji,jp,jO,jE] at h;refine⟨nth l j,?_,?_⟩;exact L.mem_iff.2 ⟨j,by rw[j0];omega,L.nth_take (by omega)⟩;rw[ji,jp,jO,jE];exact⟨h.1.symm,fun e=>h.2 e.symm⟩
theorem He:D7:=by
 unfold D7 jgd jgc jes jer jgb jfu jeq Prod.q4;rintro⟨t,⟨⟩⟩ _ _;refine⟨fun h=>Y4 (t:=t) (fun c=> ?_),fun k=> ?_⟩;have h:taH t=true:=h;rw[((Hd t).1 c).1] at h;cases h;have k:taH t=false:=k;refine⟨⟨0,⟨⟨rfl,tZ⟩,tZ⟩,jw _,fun j f=>by omega⟩,fun x d g=>⟨fun h=> ?_,fun h=> ?_⟩⟩;have g:(aQ t).length<4611686018427387904:=g;have h:(x:Int)<(aQ t).length:=jb h;refine⟨by omega,h,fun c=>Y4 (t:=t) (fun i=> ?_),fun c=>⟨iZ6,x+1,⟨⟨by simp,tZ⟩,tZ⟩,⟨by show x+1<=(aQ t).length;omega,fun j f=> ?_⟩,by show(aQ t).length-(x+1)<(aQ t).length-x;omega⟩⟩;have c:(!kV (nth (aQ t) x) 0 100)=true:=c;rw[((Hd t).1 i).2.1 x (by omega)] at c;cases c;have c:kV (nth (aQ t) x) 0 100=true:=(by simpa using(show(!kV (nth (aQ t) x) 0 100)=false from c));by_cases e:j=x;subst e;exact c;exact d.2 j (by omega);have h:¬(x:Int)<(aQ t).length:=je h;have o:∀j,j<(aQ t).length->kV (nth (aQ t) j) 0 100=true:=fun j f=>d.2 j (by omega)
 clear d h;refine⟨⟨0,⟨⟨rfl,tZ⟩,tZ⟩,jw _,fun j f=>by omega⟩,fun x d g=>⟨fun h=> ?_,fun h=> ?_⟩⟩;have g:(eA t).length<4611686018427387904:=g;have h:(x:Int)<(eA t).length:=jb h;have l:(!kV (UJ (nth (eA t) x)) 0 100000|| !kV (Xs (nth (eA t) x)) 0 100||decide (0<(x:Int))&&decide (UJ (nth (eA t) ((x:Int)-1).toNat)<=UJ (nth (eA t) x)))= !QM (eA t) x:=by
  have e2:((x:Int)-1).toNat=x-1:=(by omega);have m:∀a b:Int,(decide (0<(x:Int))&&decide (a<=b))= !(decide (x=0)||decide (b<a)):=fun a b=>by
   rw[jZ];simp only[ji,jp,jO,jN,jE];omega
  unfold QM;rw[e2,m,Bool.not_and,Bool.not_and]
 refine⟨by omega,h,fun _=>iZ6,fun c=> ?_,fun _=>by show(x:Int)-1<((eA t).length:Int);omega,fun c=>Y4 (t:=t) (fun i=> ?_),fun c=>⟨iZ6,x+1,⟨⟨by simp,tZ⟩,tZ⟩,⟨by show x+1<=(eA t).length;omega,fun j f=> ?_⟩,by show(eA t).length-(x+1)<(eA t).length-x;omega⟩⟩;rw[ji] at c;have c:0<(x:Int):=jb c.2;show 0<=(x:Int)-1;omega;have c:(!QM (eA t) x)=true:=l.symm.trans c;rw[((Hd t).1 i).2.2 x (by omega)] at c;cases c;have c:(!QM (eA t) x)=false:=l.symm.trans c;by_cases e:j=x;subst e;show QM (eA t) j=true;simpa using c;exact d.2 j (by omega);have h:¬(x:Int)<(eA t).length:=je h;have n:∀j,j<(eA t).length->QM (eA t) j=true:=fun j f=>d.2 j (by omega)
 show(true,())=(vP t,());rw[(Hd t).2 ⟨k,o,n⟩]
theorem Eb:wU PR 95 D5:=yi D6 He Tryz.func95 (kcC lU kcN) koN
def lgH (l:LgD):Bool:=decide (((yC l).length:Int)≠(wg (wm l)).length)||decide (((Fs l).length:Int)≠(wg (wm l)).length)|| !vP (fR l)||decide (10<((w9 l).length:Int))
theorem Ua (l:LgD):lgH l=false↔((yC l).length=(wg (wm l)).length/\(Fs l).length=(wg (wm l)).length/\vP (fR l)=true/\(w9 l).length<=10):=by
 unfold lgH;simp only[jN,jE,zl];constructor;rintro⟨⟨⟨b,c⟩,a⟩,d⟩;exact⟨by omega,by omega,a,by omega⟩;rintro⟨b,c,a,d⟩;exact⟨⟨⟨by omega,by omega⟩,a⟩,by omega⟩
theorem Hf:Ea:=by
 unfold Ea jgg jeQ jfv jgf jeP jge jcJ Prod.q4;rintro⟨l,⟨⟩⟩ i _ _ _;have i:(wg (wm l)).length<4611686018427387904:=i;refine⟨fun h=>Y5 (l:=l) (fun a=> ?_),fun f=> ?_⟩;have h:lgH l=true:=h;rw[(Ua l).2 ((C4 l).1 a).1] at h;cases h;have f:=(Ua l).1 (show lgH l=false from f);obtain⟨r,s,p,o⟩:=id f;refine⟨⟨0,⟨⟨rfl,tZ⟩,tZ⟩,jw _,fun j d=>by omega⟩,fun x b=>⟨fun h=> ?_,fun h=> ?_⟩⟩;have h:(x:Int)<(wg (wm l)).length:=jb h;have b:x<=(((wg (wm l)).length:Int)).toNat/\∀j:Nat,j<x->QY l j=true:=b;have c:(!kV (nth (yC l) x) 0 20|| !kV (nth (Fs l) x) 0 300)= !QY l x:=by
  unfold QY Kf uI;rw[Bool.not_and]
 refine⟨by omega,by show(x:Int)<(yC l).length;omega,fun _=>by omega,fun _=>by show(x:Int)<(Fs l).length;omega,fun a=>Y5 (l:=l) (fun g=> ?_),fun a=>⟨iZ6,x+1,⟨⟨by simp,tZ⟩,tZ⟩,⟨by show x+1<=(((wg (wm l)).length:Int)).toNat;omega,fun j d=> ?_⟩,by show(((wg (wm l)).length:Int)).toNat-(x+1)<(((wg (wm l)).length:Int)).toNat-x;omega⟩⟩;have a:(!QY l x)=true:=c.symm.trans a;rw[((C4 l).1 g).2.1 x (by omega)] at a;cases a;have a:(!QY l x)=false:=c.symm.trans a;by_cases e:j=x;subst e;show QY l j=true;simpa using a;exact b.2 j (by omega);have h:¬(x:Int)<(wg (wm l)).length:=je h;have n:∀j,j<(wg (wm l)).length->QY l j=true:=fun j d=>b.2 j (by omega)
 clear b h;refine⟨⟨0,⟨⟨rfl,tZ⟩,tZ⟩,jw _,fun j d=>by omega⟩,fun x b k=>⟨fun h=> ?_,fun h=> ?_⟩⟩;have k:(w9 l).length<4611686018427387904:=k;have h:(x:Int)<(w9 l).length:=jb h;have q:(((wg (wm l)).length:Int)).toNat=(wg (wm l)).length:=(by omega);have c:(!kV (QW (nth (w9 l) x)) 0 99|| !kV (jaI (nth (w9 l) x)) 0 (((wg (wm l)).length:Int)-1)|| !kV (UM (nth (w9 l) x)) (-100000) 1440)= !na (wg (wm l)).length (nth (w9 l) x):=by
  unfold na;rw[Bool.not_and,Bool.not_and]
 refine⟨by omega,h,fun _=> ?_,fun a=>Y5 (l:=l) (fun g=> ?_),fun a=>⟨iZ6,x+1,⟨⟨by simp,tZ⟩,tZ⟩,⟨by show x+1<=(w9 l).length;omega,fun j d=> ?_⟩,by show(w9 l).length-(x+1)<(w9 l).length-x;omega⟩⟩;show wq (((wg (wm l)).length:Int)-1);exact iZ6;have a:(!na (wg (wm l)).length (nth (w9 l) x))=true:=c.symm.trans a;rw[((C4 l).1 g).2.2 x (by omega)] at a;cases a;have a:(!na (wg (wm l)).length (nth (w9 l) x))=false:=c.symm.trans a;by_cases e:j=x;subst e;show na (wg (wm l)).length (nth (w9 l) j)=true;simpa using a;exact b.2 j (by omega);have h:¬(x:Int)<(w9 l).length:=je h;have m:∀j,j<(w9 l).length->na (wg (wm l)).length (nth (w9 l) j)=true:=fun j d=>b.2 j (by omega)
 show(true,())=(cg l,());rw[(C4 l).2 ⟨f,n,m⟩]
theorem Ec:wU PR 58 D8:=yi D9 Hf Tryz.func58 (kcC lU (kcC Eb kcN)) koN
theorem Qo:ML:=by
 unfold ML jgh jdV jet Prod.q4;rintro⟨l,⟨⟩⟩ r;have f:wR (wm l)=ez (wm l):=lL _;refine⟨r,fun h=> ?_,fun h=> ?_⟩;have h:ez (wm l)≠0:=jb h;show(ez (wm l),())=(w8 l,());unfold w8;rw[f,jh h];have h:¬ez (wm l)≠0:=je h;refine⟨fun c=> ?_,fun c=> ?_⟩;have c:cg l=false:=(by simpa using(show(!cg l)=true from c));show((70:Int),())=(w8 l,());unfold w8;rw[f,jc h,jh c];have c:cg l=true:=(by simpa using(show(!cg l)=false from c));have q:=((C4 l).1 c).1.2.2.2;have n:∀v,(if bX (w9 l)=true then(71:Int) else 0)=v->(v,())=(w8 l,()):=fun v s=>by
  unfold w8;rw[f,jc h,jc (by rw[c];decide),s]
 refine⟨⟨0,⟨⟨rfl,tZ⟩,tZ⟩,jw _,fun j g=>by omega⟩,fun x p o=>⟨fun d=> ?_,fun d=> ?_⟩⟩;have o:(w9 l).length<4611686018427387904:=o;have d:(x:Int)<(w9 l).length:=jb d;refine⟨⟨0,⟨⟨rfl,tZ⟩,tZ⟩,jw _,fun j g=>by omega⟩,fun y i=>⟨fun b=> ?_,fun b=> ?_⟩⟩;have b:(y:Int)<(x:Int):=jb b;have i:y<=x/\∀j:Nat,j<y->UC (nth (w9 l) x) (nth (w9 l) j)=false:=i;have k:(y:Int)<(w9 l).length:=(by omega);refine⟨by omega,d,by omega,k,fun _=>by omega,fun _=>d,fun _=>by omega,fun _=>k,fun a=> ?_,fun a=>⟨iZ6,y+1,⟨⟨by simp,tZ⟩,tZ⟩,⟨by show y+1<=x;omega,fun j g=> ?_⟩,by show x-(y+1)<x-y;omega⟩⟩;have a:UC (nth (w9 l) x) (nth (w9 l) y)=true:=a;exact n 71 (jh (Y6 (by omega) (by omega) a));have a:UC (nth (w9 l) x) (nth (w9 l) y)=false:=a;by_cases e:j=y;subst e;exact a;exact i.2 j (by omega);have b:¬(y:Int)<(x:Int):=je b;have i:y<=x/\∀j:Nat,j<y->UC (nth (w9 l) x) (nth (w9 l) j)=false:=i;have m:y=x:=(by omega);subst m;refine⟨iZ6,y+1,⟨⟨by simp,tZ⟩,tZ⟩,⟨by show y+1<=(w9 l).length;omega,fun j g=> ?_⟩,by show(w9 l).length-(y+1)<(w9 l).length-y;omega⟩;by_cases e:j=y;subst e;exact jat i.2 (by omega);exact p.2 j (by omega);have d:¬(x:Int)<(w9 l).length:=je d;refine n 0 (jc fun b=> ?_);unfold bX Dd at b;rw[j9] at b;obtain⟨j,g,a⟩:=b;have g:=jC.1 g;have:=p.2 j (by omega);rw[this] at a;cases a
theorem MN:wU PR 21 MJ:=yi MK Qo Tryz.func21 (kcC Cy (kcC Ec kcN)) koN
theorem Ed:CY:=by
 rintro⟨l,n,⟨⟩⟩ a;have a:(wg (wm l)).length<4611686018427387904:=a;exact⟨by show wq (((wg (wm l)).length:Int)-1);exact iZ6,rfl⟩
theorem C6:wU PR 16 CX:=wF Ed Tryz.func16 (kcC lU kcN) koN
namespace U
def jaM (l:LgD):List LnD:=if w8 l=0 then l6 l else[]
def jaN (l:LgD):List Int:=if w8 l=0 then jaL l else[]
def jbL (l:LgD):Prop:=M7 (wm l)/\(yC l).length<=20/\(Fs l).length<=20/\(aQ (fR l)).length<=20/\(eA (fR l)).length<=20/\(w9 l).length<=30
end U
theorem Wo {l:LgD} (h:xw l):∀x∈l6 l,(0<=gS x/\gS x<(((ee l).toNat:Nat):Int))/\-1000000<=Oz x/\Oz x<=20000000000000000:=fun x a=>by
 have o:=jbW h a
 have:=o.pr;have:=o.wk;have:=o.tr;have:=o.sb;have:=o.tt
 omega
theorem Wp {l:LgD} (h:xw l):∀k,k<=(yC l).length->0<=gK l k/\gK l k<=21:=fun k hk=>by
 obtain⟨b,_,a⟩:=fN (l:=l) k hk
 refine⟨b,?_⟩
 rcases a with a|⟨i,hi,a⟩
 omega
 have:=h.py.2 _ (L.wd (show i<(yC l).length by omega));omega
end Go.X
namespace Go.X
open U
open Go.Proofs
def Ub:wL:=⟨[.val tLg,.fn [tBo] [.bool]],[tBo,.int],false,fun d=>[(qV (wm d.1)).length<=100000,w8 d.1=0->wl (d.2.1.pre ((d.1,[],()),()))],fun d=>(wW d.1 (wP d.1 d.2.1.F),qh d.1 (wP d.1 d.2.1.F),())⟩
def Uc:Ann:=fun r=>match r with
 |10=>some fun σ=>{X:=Nat,sl:=fun i=>[(46,.dat .int (i:Int))],ob:=fun i=>[(25,some (.map false .int (.ptr tBl) (xZ (gb tLg σ 2) i)))],inv:=fun i=>i<=(gd (.slice .int) σ 44).length,mu:=fun i=>(gd (.slice .int) σ 44).length-i}
 |14=>some fun σ=>{X:=Nat,sl:=fun p=>[(71,.dat .int (p:Int))],ob:=fun p=>[(65,some (.box 85 false ((bx σ 65).set 21 (.own (nM 65 21) .int)))),(nM 65 21,some (.row 3 .int false .yes (qg (gb tLg σ 2) (gd .int σ 13) p)))],inv:=fun p=>p<=(we (wi (wm (gb tLg σ 2)))).length,mu:=fun p=>(we (wi (wm (gb tLg σ 2)))).length-p}
 |21=>some fun σ=>{X:=Nat,sl:=fun i=>[(103,.dat .int (i:Int))],ob:=fun i=>[(65,some (.box 85 false (((bx σ 65).set 24 (.dat .bool (sC (wh (gb tLg σ 2) (gd .int σ 13) i)))).set 25 (.dat .int (ph (wh (gb tLg σ 2) (gd .int σ 13) i))))))],inv:=fun i=>i<=(w9 (gb tLg σ 2)).length,mu:=fun i=>(w9 (gb tLg σ 2)).length-i}
 |_=>none
abbrev jc4 (d:LgD×FnD [tBo] [Ty.bool]×Unit):=d.1.2.2.2.1.q4.q4.2.1
abbrev jc5 (d:LgD×FnD [tBo] [Ty.bool]×Unit):=d.1.2.2.2.1.q4.q4.1
abbrev jc6 (d:LgD×FnD [tBo] [Ty.bool]×Unit):=d.1.2.2.2.1.q4.2.2.2.1
abbrev jc7 (d:LgD×FnD [tBo] [Ty.bool]×Unit):=d.1.2.2.2.1.q4.2.2.1
abbrev jds (d:LgD×FnD [tBo] [Ty.bool]×Unit):=(we (wi (wm d.1)))
abbrev jfw (d:LgD×FnD [tBo] [Ty.bool]×Unit):=(wW d.1 (wP d.1 d.2.1.2),qh d.1 (wP d.1 d.2.1.2),())
abbrev jc8 (d:LgD×FnD [tBo] [Ty.bool]×Unit):=d.1.2.2.2.1.q4.2.1
abbrev jcu (d:LgD×FnD [tBo] [Ty.bool]×Unit):=(kW d.1.1)
abbrev jcr (d:LgD×FnD [tBo] [Ty.bool]×Unit)(x:Nat):=(nth (jcu d) x)
abbrev jco (d:LgD×FnD [tBo] [Ty.bool]×Unit)(x:Nat):=(nth d.1.1.2.2.1 (jcr d x).toNat)
abbrev jdD (d:LgD×FnD [tBo] [Ty.bool]×Unit)(x:Nat):=(nth d.1.2.2.1 (jcr d x).toNat)
abbrev jc9 (d:LgD×FnD [tBo] [Ty.bool]×Unit):=d.1.2.2.2.1.q4.1
abbrev jcE (d:LgD×FnD [tBo] [Ty.bool]×Unit)(x:Nat)(a:Nat):=(qS ((jco d x).1.1,(jco d x).1.2.1,(jco d x).1.2.2.1,(jco d x).1.2.2.2.1,(jco d x).1.q4.1,(jco d x).1.q4.2.1,(jco d x).2.1,(jco d x).2.2.1,(jco d x).2.2.2.1,d.1.2.2.2.1.1,d.1.2.2.2.1.2.1,d.1.2.2.2.1.2.2.1,d.1.2.2.2.1.2.2.2.1,(jc9 d),(jc8 d),(jc7 d),(jc6 d),(jc5 d),(jc4 d),nth (jcu d) x,nth d.1.2.1 (jcr d x).toNat,qg d.1 (jcr d x) a,(0:Int),(0:Int),false,(0:Int),()))
abbrev jfx (d:LgD×FnD [tBo] [Ty.bool]×Unit)(x:Nat):=((jco d x).1.1=(jco d x).1.1/\(jco d x).1.2.1=(jco d x).1.2.1/\(jco d x).1.2.2.1=(jco d x).1.2.2.1/\(jco d x).1.2.2.2.1=(jco d x).1.2.2.2.1/\(jco d x).1.q4.1=(jco d x).1.q4.1/\(jco d x).1.q4.2.1=(jco d x).1.q4.2.1/\(jco d x).2.1=(jco d x).2.1/\(jco d x).2.2.1=(jco d x).2.2.1/\(jco d x).2.2.2.1=(jco d x).2.2.2.1/\d.1.2.2.2.1.1=d.1.2.2.2.1.1/\d.1.2.2.2.1.2.1=d.1.2.2.2.1.2.1/\d.1.2.2.2.1.2.2.1=d.1.2.2.2.1.2.2.1/\d.1.2.2.2.1.2.2.2.1=d.1.2.2.2.1.2.2.2.1/\(jc9 d)=(jc9 d)/\(jc8 d)=(jc8 d)/\(jc7 d)=(jc7 d)/\(jc6 d)=(jc6 d)/\(jc5 d)=(jc5 d)/\(jc4 d)=(jc4 d)/\nth (jcu d) x=nth (jcu d) x/\nth d.1.2.1 (jcr d x).toNat=nth d.1.2.1 (jcr d x).toNat/\True/\(0:Int)=0/\(0:Int)=0/\qF/\(0:Int)=0/\True)
abbrev jdt (d:LgD×FnD [tBo] [Ty.bool]×Unit)(x:Nat)(a:Nat):=(wh d.1 (jcr d x) a)
abbrev jeR (d:LgD×FnD [tBo] [Ty.bool]×Unit)(x:Nat)(a:Nat)(b:Nat):=(qS ((jco d x).1.1,(jco d x).1.2.1,(jco d x).1.2.2.1,(jco d x).1.2.2.2.1,(jco d x).1.q4.1,(jco d x).1.q4.2.1,(jco d x).2.1,(jco d x).2.2.1,(jco d x).2.2.2.1,d.1.2.2.2.1.1,d.1.2.2.2.1.2.1,d.1.2.2.2.1.2.2.1,d.1.2.2.2.1.2.2.2.1,(jc9 d),(jc8 d),(jc7 d),(jc6 d),(jc5 d),(jc4 d),nth (jcu d) x,nth d.1.2.1 (jcr d x).toNat,qg d.1 (jcr d x) a,aW (jcE d x a),bY (jdD d x) (jcE d x a),sC (jdt d x b),ph (jdt d x b),()))
def Ud:Prop:=∀(d:LgD×FnD [tBo] [Ty.bool]×Unit),(qV (wm d.1)).length<=100000->(w8 d.1=0->wl (d.2.1.1 ((d.1,[],()),())))->(qV (wm d.1)).length<=100000/\(decide (w8 d.1≠0)=true->((((((0:Int),[],[],()),[],[],(0:Int),(0:Int),[],()),[],[],((0:Int),(0:Int),(0:Int),(0:Int),(0:Int),(0:Int),(0:Int),(0:Int),[],[],()),[],()),[],()),w8 d.1,())=(jfw d))/\(decide (w8 d.1≠0)=false->asks (d.2.1.1 ((d.1,[],()),())) (((!(d.2.1.2 ((d.1,[],()),())).1)=true->((((((0:Int),[],[],()),[],[],(0:Int),(0:Int),[],()),[],[],((0:Int),(0:Int),(0:Int),(0:Int),(0:Int),(0:Int),(0:Int),(0:Int),[],[],()),[],()),[],()),(1:Int),())=(jfw d))/\((!(d.2.1.2 ((d.1,[],()),())).1)=false->(qV d.1.1).length<=100000/\(qV d.1.1).length<=100000/\((jcu d).length<4611686018427387904->(∃(x:Nat),((0=(x:Int)/\True)/\[]=xZ d.1 x/\True)/\x<=(jcu d).length)/\∀(x:Nat),x<=(jcu d).length->(decide ((x:Int)<(jcu d).length)=true->0<=(x:Int)/\(x:Int)<(jcu d).length/\0<=nth (jcu d) x/\nth (jcu d) x<(d.1.1.2.2.1.length:Int)/\0<=nth (jcu d) x/\nth (jcu d) x<(d.1.2.1.length:Int)/\(d.1.1.1.2.1.length<4611686018427387904->(∃(a:Nat),((0=(a:Int)/\True)/\(jfx d x)/\qg d.1 (jcr d x) a=[]/\True)/\a<=(jds d).length)/\∀(a:Nat),a<=(jds d).length->(decide ((a:Int)<d.1.1.1.2.1.length)=true->0<=nth (jcu d) x/\nth (jcu d) x<(↑(d8 d.1.1).length:Int)/\0<=(a:Int)/\(a:Int)<=64/\(decide (nI (nth (d8 d.1.1) (jcr d x).toNat/(2:Int)^a) (1:Int)=1)=true->((qg d.1 (jcr d x) a).length+[(a:Int)].length)*8<=140737488355328/\wq ((a:Int)+1)/\∃(c:Nat),(((a:Int)+1=(c:Int)/\True)/\(jfx d x)/\qg d.1 (jcr d x) a++[(a:Int)]=qg d.1 (jcr d x) c/\True)/\c<=(jds d).length/\(jds d).length-c<(jds d).length-a)/\(decide (nI (nth (d8 d.1.1) (jcr d x).toNat/(2:Int)^a) (1:Int)=1)=false->wq ((a:Int)+1)/\∃(c:Nat),(((a:Int)+1=(c:Int)/\True)/\qg d.1 (jcr d x) a=qg d.1 (jcr d x) c/\(jfx d x)/\True)/\c<=(jds d).length/\(jds d).length-c<(jds d).length-a))/\(decide ((a:Int)<d.1.1.1.2.1.length)=false->0<=nth (jcu d) x/\nth (jcu d) x<(d.1.2.2.1.length:Int)/\Em (jcE d x a)/\0<=nth d.1.2.2.1 (jcr d x).toNat/\nth d.1.2.2.1 (jcr d x).toNat<=300/\(d.1.q4.1.length<4611686018427387904->(∃(b:Nat),((0=(b:Int)/\True)/\((jco d x).1.1=(jco d x).1.1/\(jco d x).1.2.1=(jco d x).1.2.1/\(jco d x).1.2.2.1=(jco d x).1.2.2.1/\(jco d x).1.2.2.2.1=(jco d x).1.2.2.2.1/\(jco d x).1.q4.1=(jco d x).1.q4.1/\(jco d x).1.q4.2.1=(jco d x).1.q4.2.1/\(jco d x).2.1=(jco d x).2.1/\(jco d x).2.2.1=(jco d x).2.2.1/\(jco d x).2.2.2.1=(jco d x).2.2.2.1/\d.1.2.2.2.1.1=d.1.2.2.2.1.1/\d.1.2.2.2.1.2.1=d.1.2.2.2.1.2.1/\d.1.2.2.2.1.2.2.1=d.1.2.2.2.1.2.2.1/\d.1.2.2.2.1.2.2.2.1=d.1.2.2.2.1.2.2.2.1/\(jc9 d)=(jc9 d)/\(jc8 d)=(jc8 d)/\(jc7 d)=(jc7 d)/\(jc6 d)=(jc6 d)/\(jc5 d)=(jc5 d)/\(jc4 d)=(jc4 d)/\nth (jcu d) x=nth (jcu d) x/\nth d.1.2.1 (jcr d x).toNat=nth d.1.2.1 (jcr d x).toNat/\qg d.1 (jcr d x) a=qg d.1 (jcr d x) a/\aW (jcE d x a)=aW (jcE d x a)/\bY (jdD d x) (jcE d x a)=bY (jdD d x) (jcE d x a)/\sC (jcE d x a)=sC (jdt d x b)/\ph (jcE d x a)=ph (jdt d x b)/\True)/\True)/\b<=(w9 d.1).length)/\∀(b:Nat),b<=(w9 d.1).length->(decide ((b:Int)<d.1.q4.1.length)=true->0<=(b:Int)/\(b:Int)<d.1.q4.1.length/\(decide ((nth d.1.q4.1 b).2.1=nth (jcu d) x)=true->wq ((b:Int)+1)/\∃(c:Nat),(((b:Int)+1=(c:Int)/\True)/\((jco d x).1.1=(jco d x).1.1/\(jco d x).1.2.1=(jco d x).1.2.1/\(jco d x).1.2.2.1=(jco d x).1.2.2.1/\(jco d x).1.2.2.2.1=(jco d x).1.2.2.2.1/\(jco d x).1.q4.1=(jco d x).1.q4.1/\(jco d x).1.q4.2.1=(jco d x).1.q4.2.1/\(jco d x).2.1=(jco d x).2.1/\(jco d x).2.2.1=(jco d x).2.2.1/\(jco d x).2.2.2.1=(jco d x).2.2.2.1/\d.1.2.2.2.1.1=d.1.2.2.2.1.1/\d.1.2.2.2.1.2.1=d.1.2.2.2.1.2.1/\d.1.2.2.2.1.2.2.1=d.1.2.2.2.1.2.2.1/\d.1.2.2.2.1.2.2.2.1=d.1.2.2.2.1.2.2.2.1/\(jc9 d)=(jc9 d)/\(jc8 d)=(jc8 d)/\(jc7 d)=(jc7 d)/\(jc6 d)=(jc6 d)/\(jc5 d)=(jc5 d)/\(jc4 d)=(jc4 d)/\nth (jcu d) x=nth (jcu d) x/\nth d.1.2.1 (jcr d x).toNat=nth d.1.2.1 (jcr d x).toNat/\qg d.1 (jcr d x) a=qg d.1 (jcr d x) a/\pg (jeR d x a b)=aW (jcE d x a)/\El (jeR d x a b)=bY (jdD d x) (jcE d x a)/\Uv (nth d.1.q4.1 b).2.2.1 (jeR d x a b)=sC (wh d.1 (jcr d x) c)/\Uw (nth d.1.q4.1 b).2.2.1 (jeR d x a b)=ph (wh d.1 (jcr d x) c)/\True)/\True)/\c<=(w9 d.1).length/\(w9 d.1).length-c<(w9 d.1).length-b)/\(decide ((nth d.1.q4.1 b).2.1=nth (jcu d) x)=false->wq ((b:Int)+1)/\∃(c:Nat),(((b:Int)+1=(c:Int)/\True)/\((jco d x).1.1=(jco d x).1.1/\(jco d x).1.2.1=(jco d x).1.2.1/\(jco d x).1.2.2.1=(jco d x).1.2.2.1/\(jco d x).1.2.2.2.1=(jco d x).1.2.2.2.1/\(jco d x).1.q4.1=(jco d x).1.q4.1/\(jco d x).1.q4.2.1=(jco d x).1.q4.2.1/\(jco d x).2.1=(jco d x).2.1/\(jco d x).2.2.1=(jco d x).2.2.1/\(jco d x).2.2.2.1=(jco d x).2.2.2.1/\d.1.2.2.2.1.1=d.1.2.2.2.1.1/\d.1.2.2.2.1.2.1=d.1.2.2.2.1.2.1/\d.1.2.2.2.1.2.2.1=d.1.2.2.2.1.2.2.1/\d.1.2.2.2.1.2.2.2.1=d.1.2.2.2.1.2.2.2.1/\(jc9 d)=(jc9 d)/\(jc8 d)=(jc8 d)/\(jc7 d)=(jc7 d)/\(jc6 d)=(jc6 d)/\(jc5 d)=(jc5 d)/\(jc4 d)=(jc4 d)/\nth (jcu d) x=nth (jcu d) x/\nth d.1.2.1 (jcr d x).toNat=nth d.1.2.1 (jcr d x).toNat/\qg d.1 (jcr d x) a=qg d.1 (jcr d x) a/\aW (jcE d x a)=aW (jcE d x a)/\bY (jdD d x) (jcE d x a)=bY (jdD d x) (jcE d x a)/\sC (jdt d x b)=sC (wh d.1 (jcr d x) c)/\ph (jdt d x b)=ph (wh d.1 (jcr d x) c)/\True)/\True)/\c<=(w9 d.1).length/\(w9 d.1).length-c<(w9 d.1).length-b))/\(decide ((b:Int)<d.1.q4.1.length)=false->wq ((x:Int)+1)/\∃(c:Nat),(((x:Int)+1=(c:Int)/\True)/\eB Ty.int (jcr d x) (some (nth d.1.1.2.2.1 (jcr d x).toNat,d.1.2.2.2.1,nth (jcu d) x,nth d.1.2.1 (jcr d x).toNat,qg d.1 (jcr d x) a,aW (jcE d x a),bY (jdD d x) (jcE d x a),sC (jdt d x b),ph (jdt d x b),())) (xZ d.1 x)=xZ d.1 c/\True)/\c<=(jcu d).length/\(jcu d).length-c<(jcu d).length-x)))))/\(decide ((x:Int)<(jcu d).length)=false->((d.1,xZ d.1 x,()),(0:Int),())=(jfw d))))))
def Zw (l:LgD) (n:Int) (k:Nat):BlD:=
 (nth (wg (wm l)) n.toNat,fR l,n,nth (yC l) n.toNat,qg l n (we (wi (wm l))).length,
  aW (sw l n (qg l n (we (wi (wm l))).length)),bY (nth (Fs l) n.toNat) (sw l n (qg l n (we (wi (wm l))).length)),sC (wh l n k),ph (wh l n k),())
theorem MO (l:LgD) (n:Int) {k:Nat} (hk:k<=(w9 l).length):Zw l n k=wh l n k:=by
 obtain⟨c1,c2,a,b,c,d,f⟩:=vw l n k hk;have e:wh l n k=(qL (wh l n k),yZ (wh l n k),M8 (wh l n k),M9 (wh l n k),vg (wh l n k),pg (wh l n k),El (wh l n k),sC (wh l n k),ph (wh l n k),()):=rfl;rw[c1,c2,a,b,c,d,f] at e;exact e.symm
theorem Ue (l:LgD) (n:Int) (k:Nat):qg l n (k+1)=qg l n k++(if gF (nth (d8 (wm l)) n.toNat) (k:Int)=true then[(k:Int)] else[]):=by
 unfold qg Kg;rw[zq,kQ,zC];congr 1;by_cases h:gF (nth (d8 (wm l)) n.toNat) (k:Int)=true;rw[jh h];simp only[List.filter,h,List.map];rw[jc h];rw[ky] at h;simp only[List.filter,h,List.map]
theorem Wq {l:LgD} (h:xw l):(d8 (wm l)).length=(wg (wm l)).length:=by
 unfold d8;rw[jh h.cp];unfold gJ;rw[zr,zI]
theorem Wr:Ud:=by
 unfold Ud jeR jdt jfx jcE jc9 jdD jco jcr jcu jc8 jfw jds jc7 jc6 jc5 jc4 Prod.q4;rintro⟨l,told,⟨⟩⟩ w K;have w:(qV (wm l)).length<=100000:=w;refine⟨w,fun h=> ?_,fun h=> ?_⟩;have h:w8 l≠0:=jb h;have e:∀t,qh l t=w8 l:=fun t=>jh h
 have e2:∀t,wW l t=jbE:=fun t=>jc (by rw[e];exact h)
 show(jbE,w8 l,())=(wW l (wP l told.2),qh l (wP l told.2),());rw[e,e2];have h:w8 l=0:=jQ.1 (je h);have g:=lR h;refine vl _ (K h) ⟨fun o=> ?_,fun o=>⟨w,w,fun H=>⟨⟨0,⟨⟨rfl,tZ⟩,rfl,tZ⟩,jw _⟩,fun x I=>⟨fun q=> ?_,fun q=> ?_⟩⟩⟩⟩;have o:wP l told.2=false:=(by simpa using(show(!wP l told.2)=true from o));show(jbE,(1:Int),())=(wW l (wP l told.2),qh l (wP l told.2),());have e:qh l (wP l told.2)=1:=by
  unfold qh;rw[jc (fun z=>z h),o];rfl
 have e2:wW l (wP l told.2)=jbE:=jc (by rw[e];decide);rw[e,e2];have q:(x:Int)<(kW (wm l)).length:=jb q;have f:x<(kW (wm l)).length:=(by omega);obtain⟨n,en⟩:∃n,n=nth (kW (wm l)) x:=⟨_,rfl⟩;have c:0<=n/\n<((wg (wm l)).length:Int):=(by rw[en];exact GZ (L.wd f));have M:(kW (wm l)).length<=4:=Oq g;have C:n<((yC l).length:Int):=(by rw[g.py.1];exact c.2);have F:n<((Fs l).length:Int):=(by rw[g.tr.1];exact c.2);have E:n<((d8 (wm l)).length:Int):=(by rw[Wq g];exact c.2);have O:=jbk g;have u:=CF (nth (d8 (wm l)) n.toNat);have G:=g.tr.2 _ (L.wd (show n.toNat<(Fs l).length by omega));have D:xZ l (x+1)=eB .int n (some (wK l n)) (xZ l x):=(by rw[JB f,<-en];rfl);have N:=g.cl;have step:∀k,k<(w9 l).length->wh l n (k+1)=sx n (Zw l n k) (nth (w9 l) k):=fun k hk=>by rw[cC hk,MO l n (by omega)]
 subst en;refine⟨by omega,q,c.1,c.2,c.1,C,fun P=>⟨⟨0,⟨⟨rfl,tZ⟩,(by repeat' (first|exact trivial|exact rfl|apply And.intro)),rfl,tZ⟩,jw _⟩,fun p v=>⟨fun b=> ?_,fun b=> ?_⟩⟩⟩;have b:(p:Int)<(we (wi (wm l))).length:=jb b;have d:=Ue l (nth (kW (wm l)) x) p;have s:=(u p).1;have s:(qg l (nth (kW (wm l)) x) p).length<=p:=s;have up:p+1<=(we (wi (wm l))).length:=(by omega);have r:(we (wi (wm l))).length-(p+1)<(we (wi (wm l))).length-p:=(by omega);refine⟨c.1,E,by omega,by omega,fun j=> ?_,fun j=> ?_⟩;have j:gF (nth (d8 (wm l)) (nth (kW (wm l)) x).toNat) (p:Int)=true:=j;rw[jh j] at d;exact⟨by show((qg l (nth (kW (wm l)) x) p).length+1)*8<=140737488355328;omega,iZ6,p+1,⟨⟨by simp,tZ⟩,(by repeat' (first|exact trivial|exact rfl|apply And.intro)),d.symm,tZ⟩,up,r⟩;have j:gF (nth (d8 (wm l)) (nth (kW (wm l)) x).toNat) (p:Int)=false:=j;rw[jc (by rw[j];decide),j7] at d;exact⟨iZ6,p+1,⟨⟨by simp,tZ⟩,d.symm,(by repeat' (first|exact trivial|exact rfl|apply And.intro)),tZ⟩,up,r⟩;have b:¬(p:Int)<(we (wi (wm l))).length:=je b;have v:p<=(we (wi (wm l))).length:=v;have B:p=(we (wi (wm l))).length:=(by omega);subst B;have J:CE (sw l (nth (kW (wm l)) x) (qg l (nth (kW (wm l)) x) (we (wi (wm l))).length)):=Om g c (by have:=(u (we (wi (wm l))).length).1;unfold qg;omega);refine⟨c.1,F,rW.2 J,G.1,G.2,fun Q=>⟨⟨0,⟨⟨rfl,tZ⟩,(by repeat' (first|exact trivial|exact rfl|apply And.intro)),tZ⟩,jw _⟩,fun k hk=>⟨fun a=> ?_,fun a=> ?_⟩⟩⟩;have a:(k:Int)<(w9 l).length:=jb a;have i:=step k (by omega);have up:k+1<=(w9 l).length:=(by omega);have r:(w9 l).length-(k+1)<(w9 l).length-k:=(by omega);refine⟨by omega,a,fun m=> ?_,fun m=> ?_⟩;have m:jaI (nth (w9 l) k)=(nth (kW (wm l)) x):=jb m;have e:wh l (nth (kW (wm l)) x) (k+1)=yQ (UM (nth (w9 l) k)) (Zw l (nth (kW (wm l)) x) k):=(by rw[i];exact jh m);have y:sC (yQ (UM (nth (w9 l) k)) (Zw l (nth (kW (wm l)) x) k))=sC (wh l (nth (kW (wm l)) x) (k+1)):=(by rw[e]);have e2:ph (yQ (UM (nth (w9 l) k)) (Zw l (nth (kW (wm l)) x) k))=ph (wh l (nth (kW (wm l)) x) (k+1)):=(by rw[e]);exact⟨iZ6,k+1,⟨⟨by simp,tZ⟩,(by repeat' (first|exact trivial|exact y|exact e2|exact rfl|apply And.intro)),tZ⟩,up,r⟩;have m:¬jaI (nth (w9 l) k)=(nth (kW (wm l)) x):=je m;have e:wh l (nth (kW (wm l)) x) (k+1)=wh l (nth (kW (wm l)) x) k:=(by rw[i,MO l (nth (kW (wm l)) x) (by omega)];exact jc m);have y:sC (wh l (nth (kW (wm l)) x) k)=sC (wh l (nth (kW (wm l)) x) (k+1)):=(by rw[e]);have e2:ph (wh l (nth (kW (wm l)) x) k)=ph (wh l (nth (kW (wm l)) x) (k+1)):=(by rw[e]);exact⟨iZ6,k+1,⟨⟨by simp,tZ⟩,(by repeat' (first|exact trivial|exact y|exact e2|exact rfl|apply And.intro)),tZ⟩,up,r⟩;have a:¬(k:Int)<(w9 l).length:=je a;have hk:k<=(w9 l).length:=hk;have A:k=(w9 l).length:=(by omega);subst A;have e:eB .int (nth (kW (wm l)) x) (some (Zw l (nth (kW (wm l)) x) (w9 l).length)) (xZ l x)=xZ l (x+1):=by
  rw[D,MO l (nth (kW (wm l)) x) (jk _)];rfl
 exact⟨iZ6,x+1,⟨⟨by simp,tZ⟩,e,tZ⟩,by show x+1<=(kW (wm l)).length;omega,by show(kW (wm l)).length-(x+1)<(kW (wm l)).length-x;omega⟩;have q:¬(x:Int)<(kW (wm l)).length:=je q;have I:x<=(kW (wm l)).length:=I;have f:x=(kW (wm l)).length:=(by omega);subst f;have o:wP l told.2=true:=(by simpa using(show(!wP l told.2)=false from o));show((l,QK l,()),(0:Int),())=(wW l (wP l told.2),qh l (wP l told.2),());have e:qh l (wP l told.2)=0:=by
  unfold qh;rw[jc (fun z=>z h),jh o]
 have e2:wW l (wP l told.2)=(l,QK l,()):=jh e;rw[e,e2]
theorem lV:wU PR 34 Ub:=yi Uc Wr Tryz.func34 (kcC Qi (kcC PN (kcC L7 kcN))) (koC xI (koC nB koN))
def Qp:wL:=⟨[.val tLg],[.slice tLn,.int],false,fun d=>[(qV (wm d.1)).length<=100000],fun d=>(kY d.1,w8 d.1,())⟩
abbrev jeu (d:LgD×Unit):=(wP d.1 fun(a:BoD×Unit)=>(true,()))
def Qq:Prop:=∀(d:LgD×Unit),(qV (wm d.1)).length<=100000->(qV (wm d.1)).length<=100000/\(w8 d.1=0->wl [])/\(decide (qh d.1 (jeu d)≠0)=true->([],qh d.1 (jeu d),())=(kY d.1,w8 d.1,()))/\(decide (qh d.1 (jeu d)≠0)=false->Ki (wW d.1 (jeu d))/\(wB (wW d.1 (jeu d)),(0:Int),())=(kY d.1,w8 d.1,()))
def MP:wL:=⟨[.val tLg],[.slice .int,.int],false,fun d=>[(qV (wm d.1)).length<=100000],fun d=>(vd d.1,w8 d.1,())⟩
abbrev jev (d:LgD×Unit):=(wP d.1 fun(a:BoD×Unit)=>(true,()))
def MQ:Prop:=∀(d:LgD×Unit),(qV (wm d.1)).length<=100000->(qV (wm d.1)).length<=100000/\(w8 d.1=0->wl [])/\(decide (qh d.1 (jev d)≠0)=true->([],qh d.1 (jev d),())=(vd d.1,w8 d.1,()))/\(decide (qh d.1 (jev d)≠0)=false->Uy (wW d.1 (jev d))/\(Kh (wW d.1 (jev d)),(0:Int),())=(vd d.1,w8 d.1,()))
def Qr:wL:=⟨[.val tBo,.ref .int],[.bool],false,fun d=>[(wg (wm (bW d.1))).length<=100],fun d=>(qo d.1 d.2.1,())⟩
def Qs:Prop:=∀(d:BoD×Int×Unit),(wg (wm (bW d.1))).length<=100->(wg (wm (bW d.1))).length<=100/\(qo d.1 d.2.1,())=(qo d.1 d.2.1,())
def Ws:wL:=⟨[.val tLg,.val .int],[.slice .int,.int],false,fun d=>[(qV (wm d.1)).length<=100000],fun d=>(Kj d.1 d.2.1,qh d.1 (vi d.1 d.2.1),())⟩
abbrev jew (d:LgD×Int×Unit):=(wP d.1 fun(a:BoD×Unit)=>(qo a.1 d.2.1,()))
def Wt:Prop:=∀(d:LgD×Int×Unit),(qV (wm d.1)).length<=100000->(qV (wm d.1)).length<=100000/\(w8 d.1=0->wl [(wg (wm (bW (d.1,[],())))).length<=100])/\(decide (qh d.1 (jew d)≠0)=true->([],qh d.1 (jew d),())=(Kj d.1 d.2.1,qh d.1 (vi d.1 d.2.1),()))/\(decide (qh d.1 (jew d)≠0)=false->Uz (wW d.1 (jew d))/\(QL (wW d.1 (jew d)) d.2.1,(0:Int),())=(Kj d.1 d.2.1,qh d.1 (vi d.1 d.2.1),()))
def JX:wL:=⟨[.val tBo,.ref .int,.ref .int],[.bool],false,fun d=>[(wg (wm (bW d.1))).length<=100],fun d=>(qo d.1 d.2.1&&yt d.2.2.1,())⟩
def JY:Prop:=∀(d:BoD×Int×Int×Unit),(wg (wm (bW d.1))).length<=100->(wg (wm (bW d.1))).length<=100/\(qo d.1 d.2.1&&kV d.2.2.1 (-100000:Int) (1440:Int),())=(qo d.1 d.2.1&&yt d.2.2.1,())
def Hg:wL:=⟨[.val tBo,.ref .int,.ref .int],[.bool],false,fun d=>[(wg (wm (bW d.1))).length<=100],fun d=>(qo d.1 d.2.1&&yD d.2.2.1,())⟩
def Hh:Prop:=∀(d:BoD×Int×Int×Unit),(wg (wm (bW d.1))).length<=100->(wg (wm (bW d.1))).length<=100/\(qo d.1 d.2.1&&kV d.2.2.1 (0:Int) (1000000000:Int),())=(qo d.1 d.2.1&&yD d.2.2.1,())
def Qt:wL:=⟨[.val tLg,.val .int,.val .int],[.int,.int],false,fun d=>[(qV (wm d.1)).length<=100000],fun d=>(En d.1 d.2.1 d.2.2.1,qh d.1 (vi d.1 d.2.1&&yt d.2.2.1),())⟩
abbrev jeS (d:LgD×Int×Int×Unit):=(wP d.1 fun(a:BoD×Unit)=>(qo a.1 d.2.1&&yt d.2.2.1,()))
abbrev jex (d:LgD×Int×Int×Unit):=(wD none (wo Ty.int d.2.1 (wW d.1 (jeS d)).2.1))
abbrev jdW (d:LgD×Int×Int×Unit):=(wy ((((0:Int),(0:Int),(0:Int),(0:Int),(0:Int),(0:Int),()),(0:Int),(0:Int),(0:Int),()),((0:Int),(0:Int),(0:Int),(0:Int),(0:Int),(0:Int),(0:Int),(0:Int),[],[],()),(0:Int),(0:Int),[],(0:Int),(0:Int),false,(0:Int),()) (jex d))
abbrev jfy (d:LgD×Int×Int×Unit):=(En d.1 d.2.1 d.2.2.1,qh d.1 (vi d.1 d.2.1&&yt d.2.2.1),())
def Qu:Prop:=∀(d:LgD×Int×Int×Unit),(qV (wm d.1)).length<=100000->(qV (wm d.1)).length<=100000/\(w8 d.1=0->wl [(wg (wm (bW (d.1,[],())))).length<=100])/\(decide (qh d.1 (jeS d)≠0)=true->((0:Int),qh d.1 (jeS d),())=(jfy d))/\(decide (qh d.1 (jeS d)≠0)=false->((jex d).isNone=true->((0:Int),(0:Int),())=(jfy d))/\((jex d).isNone=false->(jex d).isSome=true/\pb (jdW d)/\(jex d).isSome=true/\pb (jdW d)/\(-100000:Int)<=d.2.2.1/\d.2.2.1<=1440/\wq ((qA (jdW d)).q4.2.1-y4 d.2.2.1 (jdW d))/\((qA (jdW d)).q4.2.1-y4 d.2.2.1 (jdW d),(0:Int),())=(jfy d)))
theorem Uf:Qs:=fun _ h=>⟨h,rfl⟩
theorem Qv:wU PR 46 Qr:=wF Uf Tryz.func46 (kcC gC kcN) koN
theorem MR:JY:=fun _ h=>⟨h,rfl⟩
theorem JZ:wU PR 35 JX:=wF MR Tryz.func35 (kcC gC (kcC v8 kcN)) koN
theorem J0:Hh:=fun _ h=>⟨h,rfl⟩
theorem Hi:wU PR 43 Hg:=wF J0 Tryz.func43 (kcC gC (kcC v8 kcN)) koN
theorem jbw {l:LgD} (h:xw l):(wg (wm l)).length<=4:=by
 have a:=h.dy;unfold qc at a;rw[ji] at a;exact(jb a.1).1
theorem As (l:LgD):qh l true=w8 l:=by
 unfold qh;by_cases h:w8 l=0;rw[jc (fun a=>a h),jh rfl,h];rw[jh h]
theorem C7 {l:LgD} {t:Bool} (h:qh l t=0):wW l t=U.bo l/\xw l/\t=true:=by
 have e:wW l t=U.bo l:=(by unfold wW;rw[jh h];rfl);unfold qh at h
 split at h
 rename_i a;exact absurd h a;rename_i a
 split at h
 rename_i b;exact⟨e,lR (jQ.1 a),b⟩;cases h
theorem Ug:Qq:=by
 unfold Qq jeu;rintro⟨l,⟨⟩⟩ c;refine⟨c,fun _=>tZ,fun h=> ?_,fun h=> ?_⟩;have h:qh l true≠0:=jb h;show(([]:List LnD),qh l true,())=(kY l,w8 l,());rw[As] at h⊢;unfold kY;rw[jc h];have h:qh l true=0:=jQ.1 (je h);obtain⟨a,b,_⟩:=C7 h;rw[As] at h;refine⟨?_,?_⟩;show Ki (wW l true);rw[a];exact T6 b;show(wB (wW l true),(0:Int),())=(kY l,w8 l,());rw[a,h];unfold kY;rw[jh h]
theorem Qw:wU PR 22 Qp:=wF Ug Tryz.func22 (kcC lV (kcC CM (kcC ic kcN))) koN
theorem Qx:MQ:=by
 unfold MQ jev;rintro⟨l,⟨⟩⟩ c;refine⟨c,fun _=>tZ,fun h=> ?_,fun h=> ?_⟩;have h:qh l true≠0:=jb h;show(([]:List Int),qh l true,())=(vd l,w8 l,());rw[As] at h⊢;unfold vd;rw[jc h];have h:qh l true=0:=jQ.1 (je h);obtain⟨a,b,_⟩:=C7 h;rw[As] at h;refine⟨?_,?_⟩;show Uy (wW l true);rw[a];exact jbt b;show(Kh (wW l true),(0:Int),())=(vd l,w8 l,());rw[a,h];unfold vd;rw[jh h]
theorem C8:wU PR 24 MP:=wF Qx Tryz.func24 (kcC lV (kcC CM (kcC tV kcN))) koN
theorem Y7:Wt:=by
 unfold Wt jew;rintro⟨l,n,⟨⟩⟩ d;refine⟨d,fun b=> ?_,fun h=> ?_,fun h=> ?_⟩;have:(wg (wm l)).length<=4:=jbw (lR b);exact⟨by show(wg (wm l)).length<=100;omega,tZ⟩;have h:qh l (vi l n)≠0:=jb h;show(([]:List Int),qh l (vi l n),())=(Kj l n,qh l (vi l n),());unfold Kj;rw[jc h];have h:qh l (vi l n)=0:=jQ.1 (je h);obtain⟨a,c,_⟩:=C7 h;refine⟨?_,?_⟩;show Uz (wW l (vi l n));rw[a];exact jbu c;show(QL (wW l (vi l n)) n,(0:Int),())=(Kj l n,qh l (vi l n),());rw[a,h];unfold Kj;rw[jh h]
theorem Wu:wU PR 17 Ws:=wF Y7 Tryz.func17 (kcC lV (kcC Qv (kcC D4 kcN))) koN
theorem Xp {l:LgD} (i:xw l) {n:Int} {b:BlD} (h:QX (U.bo l) n=some b):JA b:=by
 have a:=T6 i;have d:(n,some b)∈QK l:=by
  refine(M.t8 (kt:= .int) a.2.2.1).1 ?_;have e:wD none (wo .int n (QK l))=some b:=h;cases f:wo (β:=Option BlD) Ty.int n (QK l) with
  |none=>rw[f] at e;cases e
  |some v=>rw[f] at e;exact f.trans (jS some e)
 obtain⟨g,c,j⟩:=a.1 _ d;have c:some b=some g:=c;simp only[jy] at c;subst c;exact bh.1 j
theorem Uh {b:BlD} {m:Int} (w:JA b) (a: -100000<=m/\m<=1440): -1000000<=y4 m b/\y4 m b<=20000000000000000:=MH (GY w a)
theorem Ui:Qu:=by
 unfold Qu jfy jdW jex jeS Prod.q4;rintro⟨l,n,m,⟨⟩⟩ j;refine⟨j,fun g=> ?_,fun h=> ?_,fun h=> ?_⟩;have:(wg (wm l)).length<=4:=jbw (lR g);exact⟨by show(wg (wm l)).length<=100;omega,tZ⟩;have h:qh l (vi l n&&yt m)≠0:=jb h;show((0:Int),qh l (vi l n&&yt m),())=(En l n m,qh l (vi l n&&yt m),());unfold En;rw[jc h];have h:qh l (vi l n&&yt m)=0:=jQ.1 (je h);obtain⟨f,i,c⟩:=C7 h;rw[ji] at c;have a: -100000<=m/\m<=1440:=qE.1 c.2;show((QX (wW l (vi l n&&yt m)) n).isNone=true->((0:Int),(0:Int),())=(En l n m,qh l (vi l n&&yt m),()))/\
  ((QX (wW l (vi l n&&yt m)) n).isNone=false->(QX (wW l (vi l n&&yt m)) n).isSome=true/\pb (wy _ (QX (wW l (vi l n&&yt m)) n))/\(QX (wW l (vi l n&&yt m)) n).isSome=true/\pb (wy _ (QX (wW l (vi l n&&yt m)) n))/\-100000<=m/\m<=1440/\
    wq (Oz (qA (wy _ (QX (wW l (vi l n&&yt m)) n)))-y4 m (wy _ (QX (wW l (vi l n&&yt m)) n)))/\(Oz (qA (wy _ (QX (wW l (vi l n&&yt m)) n)))-y4 m (wy _ (QX (wW l (vi l n&&yt m)) n)),(0:Int),())=(En l n m,qh l (vi l n&&yt m),()))
 rw[f,h];unfold En;rw[jh h];cases e:QX (U.bo l) n with
 |none=>exact⟨fun _=>rfl,fun h=>(by cases h)⟩
 |some b=>
  have w:=Xp i e;have d:=bh.2 w;have k:=MH w;have o:=Uh w a;refine⟨fun h=>(by cases h),fun _=>⟨rfl,d,rfl,d,a.1,a.2,?_,rfl⟩⟩;show wq (Oz (qA b)-y4 m b);exact iZ6
theorem Qy:wU PR 11 Qt:=wF Ui Tryz.func11 (kcC lV (kcC JZ (kcC ao (kcC f9 kcN)))) koN
namespace U
def vQ (o:Option BlD):BlD:=o.getD default
end U
def MS:wL:=⟨[.val tLg,.val .int,.val .int],[.int,.int],false,fun d=>[(qV (wm d.1)).length<=100000],fun d=>(Kl d.1 d.2.1 d.2.2.1,Km d.1 d.2.1 d.2.2.1,())⟩
def MT:Ann:=fun r=>match r with
 |7=>some fun σ=>{X:=Nat,sl:=fun k=>[(11,.dat .int (qR (qL (vQ (gd (.ptr tBl) σ 10)))-(k:Int)))],ob:=fun _=>[],inv:=fun k=>k<=cV (vQ (gd (.ptr tBl) σ 10))/\∀j:Nat,j<k->eg (vQ (gd (.ptr tBl) σ 10)) (gb .int σ 5) j=false,mu:=fun k=>cV (vQ (gd (.ptr tBl) σ 10))-k}
 |_=>none
abbrev jeT (d:LgD×Int×Int×Unit):=(wP d.1 fun(a:BoD×Unit)=>(qo a.1 d.2.1&&yD d.2.2.1,()))
abbrev jdX (d:LgD×Int×Int×Unit):=(wD none (wo Ty.int d.2.1 (wW d.1 (jeT d)).2.1))
abbrev jeU (d:LgD×Int×Int×Unit):=(wy ((((0:Int),(0:Int),(0:Int),(0:Int),(0:Int),(0:Int),()),(0:Int),(0:Int),(0:Int),()),((0:Int),(0:Int),(0:Int),(0:Int),(0:Int),(0:Int),(0:Int),(0:Int),[],[],()),(0:Int),(0:Int),[],(0:Int),(0:Int),false,(0:Int),()) (jdX d))
abbrev jeV (d:LgD×Int×Int×Unit):=(Kl d.1 d.2.1 d.2.2.1,Km d.1 d.2.1 d.2.2.1,())
abbrev jdg (d:LgD×Int×Int×Unit):=(vQ (jdX d))
abbrev jcY (d:LgD×Int×Int×Unit):=(qL (jdg d))
def MU:Prop:=∀(d:LgD×Int×Int×Unit),(qV (wm d.1)).length<=100000->(qV (wm d.1)).length<=100000/\(w8 d.1=0->wl [(wg (wm (bW (d.1,[],())))).length<=100])/\(decide (qh d.1 (jeT d)≠0)=true->((0:Int),qh d.1 (jeT d),())=(jeV d))/\(decide (qh d.1 (jeT d)≠0)=false->((!(jdX d).isNone)=true->(jdX d).isSome=true/\(∃(x:Nat),(((jeU d).1.2.2.1=qR (jcY d)-(x:Int)/\True)/\True)/\x<=cV (jdg d)/\∀(j:Nat),j<x->eg (jdg d) d.2.2.1 j=false)/\∀(x:Nat),(x<=cV (jdg d)/\∀(j:Nat),j<x->eg (jdg d) d.2.2.1 j=false)->(decide ((-100000:Int)<=qR (jcY d)-(x:Int))=true->(jdX d).isSome=true/\pb (jeU d)/\(-100000:Int)<=qR (jcY d)-(x:Int)/\qR (jcY d)-(x:Int)<=1440/\(decide (y4 (qR (jcY d)-(x:Int)) (jeU d)<=d.2.2.1)=true->(qR (jcY d)-(x:Int),(0:Int),())=(jeV d))/\(decide (y4 (qR (jcY d)-(x:Int)) (jeU d)<=d.2.2.1)=false->wq (qR (jcY d)-(x:Int)-1)/\∃(a:Nat),((qR (jcY d)-(x:Int)-1=qR (jcY d)-(a:Int)/\True)/\True)/\(a<=cV (jdg d)/\∀(j:Nat),j<a->eg (jdg d) d.2.2.1 j=false)/\cV (jdg d)-a<cV (jdg d)-x))/\(decide ((-100000:Int)<=qR (jcY d)-(x:Int))=false->((0:Int),(3:Int),())=(jeV d)))/\((!(jdX d).isNone)=false->((0:Int),(3:Int),())=(jeV d)))
theorem jau {o:Option BlD} {Z:BlD} {a P E:Int} (t:∀b,o=some b->JA b) (r:P=jb6 a o) (p:E=jb7 a o):
 ((!o.isNone)=true->o.isSome=true/\(∃(x:Nat),((qR (qL (wy Z o))=qR (qL (vQ o))-(x:Int)/\True)/\True)/\x<=cV (vQ o)/\∀(j:Nat),j<x->eg (vQ o) a j=false)/\
   ∀(x:Nat),(x<=cV (vQ o)/\∀(j:Nat),j<x->eg (vQ o) a j=false)->
    (decide (-100000<=qR (qL (vQ o))-(x:Int))=true->o.isSome=true/\pb (wy Z o)/\-100000<=qR (qL (vQ o))-(x:Int)/\qR (qL (vQ o))-(x:Int)<=1440/\
     (decide (y4 (qR (qL (vQ o))-(x:Int)) (wy Z o)<=a)=true->(qR (qL (vQ o))-(x:Int),(0:Int),())=(P,E,()))/\
     (decide (y4 (qR (qL (vQ o))-(x:Int)) (wy Z o)<=a)=false->wq (qR (qL (vQ o))-(x:Int)-1)/\∃(m:Nat),((qR (qL (vQ o))-(x:Int)-1=qR (qL (vQ o))-(m:Int)/\True)/\True)/\(m<=cV (vQ o)/\∀(j:Nat),j<m->eg (vQ o) a j=false)/\cV (vQ o)-m<cV (vQ o)-x))/\
    (decide (-100000<=qR (qL (vQ o))-(x:Int))=false->((0:Int),(3:Int),())=(P,E,())))/\
 ((!o.isNone)=false->((0:Int),(3:Int),())=(P,E,())):=by
 subst r p;cases o with
 |none=>exact⟨fun h=>(by cases h),fun _=>rfl⟩
 |some b=>
  have w:=t b rfl;have n:=w.bl;refine⟨fun _=>⟨rfl,⟨0,⟨⟨?_,tZ⟩,tZ⟩,jw _,fun j s=>by omega⟩,fun x d=>⟨fun f=> ?_,fun f=> ?_⟩⟩,fun h=>(by cases h)⟩;show qR (qL b)=qR (qL b)-((0:Nat):Int);omega;have d:x<=cV b/\∀j:Nat,j<x->eg b a j=false:=d;have f: -100000<=qR (qL b)-(x:Int):=jb f;have s1:=n.st;have s2:=n.en;have u:=n.e2;have q:cV b=(qR (qL b)+100001).toNat:=rfl;refine⟨rfl,bh.2 w,f,?_,fun c=> ?_,fun c=> ?_⟩;show qR (qL b)-(x:Int)<=1440;omega;have c:eg b a x=true:=c;have e:Eo b a=some x:=by
   rcases Fo b a with⟨k,e,hk,g,i⟩|⟨e,i⟩;rw[e];have:k=x:=by
    rcases Nat.lt_trichotomy k x with l|l|l;rw[d.2 k l] at g;cases g;exact l;rw[i x l] at c;cases c
   rw[this];rw[i x (by omega)] at c;cases c
  show(qR (qL b)-(x:Int),(0:Int),())=(jbJ b (Eo b a),jbK (Eo b a),());rw[e];rfl;have c:eg b a x=false:=c;refine⟨?_,x+1,⟨⟨?_,tZ⟩,tZ⟩,⟨?_,fun j s=> ?_⟩,?_⟩;show wq (qR (qL b)-(x:Int)-1);exact iZ6;show qR (qL b)-(x:Int)-1=qR (qL b)-((x+1:Nat):Int);omega;show x+1<=cV b;omega;by_cases e:j=x;subst e;exact c;exact d.2 j (by omega);show cV b-(x+1)<cV b-x;omega;have d:x<=cV b/\∀j:Nat,j<x->eg b a j=false:=d;have f:¬-100000<=qR (qL b)-(x:Int):=je f;have q:cV b=(qR (qL b)+100001).toNat:=rfl;have e:Eo b a=none:=by
   rcases Fo b a with⟨k,e,hk,g,i⟩|⟨e,i⟩;rw[d.2 k (by omega)] at g;cases g;exact e
  show((0:Int),(3:Int),())=(jbJ b (Eo b a),jbK (Eo b a),());rw[e];rfl
theorem Qz:MU:=by
 unfold MU jcY jdg jeV jeU jdX jeT;rintro⟨l,n,a,⟨⟩⟩ g;refine⟨g,fun e=> ?_,fun h=> ?_,fun h=> ?_⟩;have:(wg (wm l)).length<=4:=jbw (lR e);exact⟨by show(wg (wm l)).length<=100;omega,tZ⟩;have h:qh l (vi l n&&yD a)≠0:=jb h;show((0:Int),qh l (vi l n&&yD a),())=(Kl l n a,Km l n a,());unfold Kl Km;rw[jc h,jc h];have h:qh l (vi l n&&yD a)=0:=jQ.1 (je h);obtain⟨c,f,i⟩:=C7 h;exact jau (o:=QX (wW l (vi l n&&yD a)) n) (fun b d=>by rw[c] at d;exact Xp f d) (by rw[c];exact jh h) (by rw[c];exact jh h)
theorem MV:wU PR 13 MS:=yi MT Qz Tryz.func13 (kcC lV (kcC Hi (kcC f9 kcN))) koN
end Go.X
namespace Go.X
open U
open Go.Proofs
namespace U
def Kn (l:LgD):Bool:=((((Hq (wm l)||decide (20<((yC l).length:Int)))||decide (20<((Fs l).length:Int)))||decide (20<((aQ (fR l)).length:Int)))||decide (20<((eA (fR l)).length:Int)))||decide (30<((w9 l).length:Int))
def Nd (l:LgD):Bool:= !Kn l&&decide (w8 l=0)
def exT:TaD:=(30,100,2,1200,90,50,2,150,[0,10,25,50],[(1000,0,()),(60,50,())],())
def uJ:LgD:=(jb2,[0,1,0],[30,0,45],exT,[(1,1,80,()),(2,1,120,())],())
end U
def Uj:wL:=⟨[.val tLg],[.bool],false,fun _=>[],fun d=>(Kn d.1,())⟩
abbrev jgi (d:LgD×Unit):=(20<(d.1.2.2.2.1.q4.q4.1.length:Int))
abbrev jeW (d:LgD×Unit):=(20<(d.1.2.1.length:Int))
abbrev jfz (d:LgD×Unit):=(20<(d.1.2.2.1.length:Int))
def Uk:Prop:=∀(d:LgD×Unit),((!Hq d.1.1)=true->d.1.2.1.length<4611686018427387904)->((!(Hq d.1.1||decide (jeW d)))=true->d.1.2.2.1.length<4611686018427387904)->((!(Hq d.1.1||decide (jeW d)||decide (jfz d)))=true->d.1.2.2.2.1.q4.q4.1.length<4611686018427387904)->((!(Hq d.1.1||decide (jeW d)||decide (jfz d)||decide (jgi d)))=true->d.1.2.2.2.1.q4.q4.2.1.length<4611686018427387904)->((!(Hq d.1.1||decide (jeW d)||decide (jfz d)||decide (jgi d)||decide (20<(d.1.2.2.2.1.q4.q4.2.1.length:Int))))=true->d.1.q4.1.length<4611686018427387904)->(Hq d.1.1||decide (jeW d)||decide (jfz d)||decide (jgi d)||decide (20<(d.1.2.2.2.1.q4.q4.2.1.length:Int))||decide (30<(d.1.q4.1.length:Int)),())=(Kn d.1,())
def MW:wL:=⟨[.val tLg],[.bool],false,fun _=>[],fun d=>(Nd d.1,())⟩
def MX:Prop:=∀(d:LgD×Unit),((!Kn d.1)=true->(wg (wm d.1)).length<=1000000)/\(!Kn d.1&&decide (w8 d.1=0),())=(Nd d.1,())
def Ee:wL:=⟨[.val (.slice .int),.val (.slice .int)],[.bool],false,fun _=>[],fun d=>(decide (d.1=d.2.1),())⟩
def Ef:Ann:=fun r=>match r with
 |4=>some fun σ=>{X:=Nat,sl:=fun i=>[(5,.dat .int (i:Int))],ob:=fun _=>[],inv:=fun i=>i<=(gd (.slice .int) σ 0).length/\∀j:Nat,j<i->nth (gd (.slice .int) σ 0) j=nth (gd (.slice .int) σ 1) j,mu:=fun i=>(gd (.slice .int) σ 0).length-i}
 |_=>none
def Eg:Prop:=∀(d:List Int×List Int×Unit),d.1.length<4611686018427387904->d.2.1.length<4611686018427387904->(decide ((d.1.length:Int)≠d.2.1.length)=true->(false,())=(decide (d.1=d.2.1),()))/\(decide ((d.1.length:Int)≠d.2.1.length)=false->(∃(x:Nat),((0=(x:Int)/\True)/\True)/\x<=d.1.length/\∀(j:Nat),j<x->nth d.1 j=nth d.2.1 j)/\∀(x:Nat),(x<=d.1.length/\∀(j:Nat),j<x->nth d.1 j=nth d.2.1 j)->d.1.length<4611686018427387904->(decide ((x:Int)<d.1.length)=true->0<=(x:Int)/\(x:Int)<d.1.length/\0<=(x:Int)/\(x:Int)<d.2.1.length/\(decide (nth d.1 x≠nth d.2.1 x)=true->(false,())=(decide (d.1=d.2.1),()))/\(decide (nth d.1 x≠nth d.2.1 x)=false->wq ((x:Int)+1)/\∃(a:Nat),(((x:Int)+1=(a:Int)/\True)/\True)/\(a<=d.1.length/\∀(j:Nat),j<a->nth d.1 j=nth d.2.1 j)/\d.1.length-a<d.1.length-x))/\(decide ((x:Int)<d.1.length)=false->(true,())=(decide (d.1=d.2.1),())))
def Hj:wL:=⟨[],[tLg],false,fun _=>[],fun _=>(uJ,())⟩
def Hk:Prop:=∀(_:Unit),((jb2,[(0:Int),(1:Int),(0:Int)],[(30:Int),(0:Int),(45:Int)],((30:Int),(100:Int),(2:Int),(1200:Int),(90:Int),(50:Int),(2:Int),(150:Int),[(0:Int),(10:Int),(25:Int),(50:Int)],[((1000:Int),(0:Int),()),((60:Int),(50:Int),())],()),[((1:Int),(1:Int),(80:Int),()),((2:Int),(1:Int),(120:Int),())],()),())=(uJ,())
def MY:wL:=⟨[],[.bool],false,fun _=>[],fun _=>(true,())⟩
abbrev jeX:=(qV (wm uJ))
def MZ:Prop:=∀(_:Unit),jeX.length<=100000/\jeX.length<=100000/\jeX.length<=100000/\jeX.length<=100000/\(decide (w8 uJ=0)&&decide (qh uJ (vi uJ (2:Int))=0)&&decide (qh uJ (vi uJ (0:Int)&&yt (0:Int))=0)&&decide (Km uJ (0:Int) (0:Int)=0)&&decide (vd uJ=[(940:Int),(100:Int)])&&decide (Kj uJ (2:Int)=[(390:Int),(390:Int),(0:Int),(0:Int)])&&decide (En uJ (0:Int) (0:Int)=185)&&decide (Kl uJ (0:Int) (0:Int)=(-940:Int)),())=(true,())
theorem Y8 (l:LgD):kY l=jaM l:=by
 unfold kY jaM
 split
 rename_i h;exact CW (lR h);rfl
theorem Y9 (l:LgD):vd l=jaN l:=by
 unfold vd jaN
 split
 rename_i h;exact Y3 (lR h);rfl
theorem Wv:Uk:=fun _ _ _ _ _ _=>rfl
theorem Ul:wU PR 8 Uj:=wF Wv Tryz.func8 (kcC TF kcN) koN
theorem QA {l:LgD} (h:Kn l=false):jbL l:=by
 unfold Kn at h;simp only[jN,jE] at h;obtain⟨⟨⟨⟨⟨a,b⟩,c⟩,d⟩,e⟩,f⟩:=h;exact⟨Wb a,by omega,by omega,by omega,by omega,by omega⟩
theorem J1 {l:LgD} (h:Kn l=false):(qV (wm l)).length<=100000/\(wg (wm l)).length<=1000000:=by
 have a:=(QA h).1;have b:=a.2.2.2.1;have c:=a.2.2.1;omega
theorem QB:MX:=by
 rintro⟨l,⟨⟩⟩;refine⟨fun h=> ?_,rfl⟩;have h:(!Kn l)=true:=h;rw[jO] at h;exact(J1 h).2
theorem M0:wU PR 15 MW:=wF QB Tryz.func15 (kcC Ul (kcC MN kcN)) koN
theorem Za {l:LgD} (h:Nd l=true):Kn l=false/\xw l/\w8 l=0:=by
 unfold Nd at h;rw[ji,jO,jp] at h;exact⟨h.1,lR h.2,h.2⟩
theorem Hl:Eg:=by
 rintro⟨a,b,⟨⟩⟩ _ l;refine⟨fun h=> ?_,fun h=>⟨⟨0,⟨⟨rfl,tZ⟩,tZ⟩,jw _,fun j k=>by omega⟩,fun x g f=>⟨fun c=>⟨zk _,jb c,zk _,?_,fun d=> ?_,fun d=> ?_⟩,fun c=> ?_⟩⟩⟩;have h:(a.length:Int)≠b.length:=jb h;have:¬a=b:=fun e=>h (by rw[e])
 show(false,())=(decide (a=b),());rw[za this];have h:(a.length:Int)=b.length:=jQ.1 (je h);have c:(x:Int)<a.length:=jb c;show(x:Int)<b.length;omega;have d:nth a x≠nth b x:=jb d;have:¬a=b:=fun e=>d (by rw[e])
 show(false,())=(decide (a=b),());rw[za this];have c:(x:Int)<a.length:=jb c;have d:nth a x=nth b x:=jQ.1 (je d);have f:a.length<4611686018427387904:=f;refine⟨iZ6,x+1,⟨⟨by simp,tZ⟩,tZ⟩,⟨by show x+1<=a.length;omega,fun j k=> ?_⟩,by show a.length-(x+1)<a.length-x;omega⟩;by_cases e:j=x;subst e;exact d;exact g.2 j (by omega);have h:(a.length:Int)=b.length:=jQ.1 (je h);have c:¬(x:Int)<a.length:=je c;have e:a=b:=L.ext_nth (by omega) fun i hi=>g.2 i (by omega)
 show(true,())=(decide (a=b),());rw[jI e]
theorem Eh:wU PR 27 Ee:=yi Ef Hl Tryz.func27 kcN koN
theorem J2:Hk:=fun _=>rfl
theorem Hm:wU PR 32 Hj:=wF J2 Tryz.func32 (kcC GU kcN) koN
theorem Zb:w8 uJ=0:=by decide+kernel
theorem Zc:vd uJ=[940,100]:=by decide+kernel
theorem Zd:Kj uJ 2=[390,390,0,0]:=by decide+kernel
theorem Ze:En uJ 0 0=185:=by decide+kernel
theorem Ww:Km uJ 0 0=0:=by decide+kernel
theorem Wx:Kl uJ 0 0= -940:=by decide+kernel
theorem jav:qh uJ (vi uJ 2)=0:=by decide+kernel
theorem jaw:qh uJ (vi uJ 0&&yt 0)=0:=by decide+kernel
theorem QC:MZ:=by
 unfold MZ jeX;intro _;have a:(qV (wm uJ)).length<=100000:=(by decide+kernel);refine⟨a,a,a,a,?_⟩;rw[Zb,jav,jaw,Ww,Zc,Zd,Ze,Wx];rfl
theorem M1:wU PR 9 MY:=wF QC Tryz.func9 (kcC Hm (kcC C8 (kcC Wu (kcC Qy (kcC MV (kcC Eh kcN)))))) koN
end Go.X
namespace Go.X
open U
open Go.Proofs
end Go.X
namespace Go.X
open U
open Go.Proofs
namespace U
def WL (a:List Int) (x:LnD):List Int:=a.set (gS x).toNat (nth a (gS x).toNat-Oz x)
def qG (t:List Int) (l:List LnD) (k:Nat):List Int:=(l.take k).foldl WL t
end U
def tW:wL:=Tv [tLg]
def tX:Ann:=fun r=>match r with
 |9=>some fun σ=>{X:=Nat,sl:=fun i=>[(8,.dat .int (i:Int))],ob:=fun i=>[(7,some (.row 3 .int false .unk (qG (gd (.slice .int) σ 5) (gd (.slice tLn) σ 3) i)))],inv:=fun i=>i<=(gd (.slice tLn) σ 3).length,mu:=fun i=>(gd (.slice tLn) σ 3).length-i}
 |20=>some fun σ=>{X:=Nat,sl:=fun i=>[(10,.dat .int (i:Int))],ob:=fun _=>[],inv:=fun i=>i<=(gr .int σ 7).length,mu:=fun i=>(gr .int σ 7).length-i}
 |_=>none
abbrev jcq (d:LgD×Unit)(x:Nat):=(nth (kY d.1) x)
abbrev jcR (d:LgD×Unit)(x:Nat):=(qG (vd d.1) (kY d.1) x)
abbrev jdY (d:LgD×Unit)(x:Nat):=(nth (kY d.1) ((x:Int)-1).toNat)
abbrev jfA (x:Nat)(d:LgD×Unit):=(decide (0<(x:Int))&& !decide ((jcq d x).1<(jdY d x).1)&&decide ((jdY d x).1=(jcq d x).1))
abbrev jey:=(Ty.int.pair (Ty.int.pair Ty.unit))
abbrev jgj (x:Nat)(d:LgD×Unit):=(decide (0<(x:Int))&&(decide ((jcq d x).1<(jdY d x).1)||decide ((jdY d x).1=(jcq d x).1)&&decide ((jcq d x).2.1<=(jdY d x).2.1)))
abbrev jdE (d:LgD×Unit):=(↑(kY d.1).length:Int)
abbrev jgk (d:LgD×Unit)(x:Nat):=(!(decide ((jcq d x).2.2.1<0)||decide ((jcq d x).2.2.2.1<0)||decide ((jcq d x).q4.1<0)||decide ((jcq d x).q4.2.1<0)))
abbrev jfB (x:Nat)(d:LgD×Unit):=(decide (0<(x:Int))&& !decide ((jcq d x).1<(jdY d x).1))
abbrev jgl (d:LgD×Unit):=(decide (w8 d.1≠0)||decide (w8 d.1≠0)||decide ((d.1.1.2.2.1.length:Int)<(jdE d)))
abbrev jeY (d:LgD×Unit)(x:Nat):=((jcq d x).2.2.1+(jcq d x).2.2.2.1)
abbrev jdZ (d:LgD×Unit)(x:Nat):=(↑(jcR d x).length:Int)
abbrev jgm (d:LgD×Unit)(x:Nat):=(!vi d.1 (jcq d x).2.1||decide ((jcq d x).1≠nth d.1.2.1 (jcq d x).2.1.toNat)||decide ((jdZ d x)<=(jcq d x).1))
abbrev jgn (d:LgD×Unit)(x:Nat):=((jcq d x).q4.2.1≠(jcq d x).2.2.1+(jcq d x).2.2.2.1-(jcq d x).q4.1)
abbrev jdF (d:LgD×Unit)(x:Nat):=(!(decide ((jcq d x).2.2.1<0)||decide ((jcq d x).2.2.2.1<0)||decide ((jcq d x).q4.1<0)||decide ((jcq d x).q4.2.1<0)||decide (jgn d x)||decide (d.1.2.2.2.1.q4.2.2.2.1<(jcq d x).q4.1)))
abbrev jeZ (d:LgD×Unit)(x:Nat):=(nth d.1.1.2.2.1 (jcq d x).2.1.toNat)
abbrev jgo (d:LgD×Unit)(x:Nat):=(decide ((jcq d x).2.2.1<0)||decide ((jcq d x).2.2.2.1<0)||decide ((jcq d x).q4.1<0)||decide ((jcq d x).q4.2.1<0)||decide (jgn d x)||decide (d.1.2.2.2.1.q4.2.2.2.1<(jcq d x).q4.1)||decide ((jeY d x)*nth d.1.2.2.2.1.q4.q4.1 (jeZ d x).1.q4.1.toNat<100*(jcq d x).q4.1))
abbrev jgp:=(Ty.int.pair (Ty.int.pair (Ty.int.pair jey)))
def tY:Prop:=∀(d:LgD×Unit),GN 1048576 [((Ty.int.pair ((Ty.int.slice.pair (Ty.int.pair (Ty.int.pair (Ty.int.slice.pair (Ty.bool.pair (Ty.int.pair Ty.unit)))))).slice.pair ((Ty.int.pair (Ty.int.pair (Ty.bool.pair Ty.unit))).slice.pair Ty.unit))).pair (jey.slice.slice.pair (((Ty.int.pair jgp).pair (Ty.int.pair jey)).slice.pair (Ty.int.pair (Ty.int.pair (jgp.slice.pair Ty.unit)))))).pair (Ty.int.slice.pair (Ty.int.slice.pair ((Ty.int.pair (Ty.int.pair (Ty.int.pair (Ty.int.pair (Ty.int.pair (Ty.int.pair (Ty.int.pair (Ty.int.pair (Ty.int.slice.pair (jey.slice.pair Ty.unit)))))))))).pair ((Ty.int.pair jey).slice.pair Ty.unit))))] d->((!Nd d.1)=true->(true,())=(true,()))/\((!Nd d.1)=false->(qV (wm d.1)).length<=100000/\(qV (wm d.1)).length<=100000/\(((!(decide (w8 d.1≠0)||decide (w8 d.1≠0)))=true->(kY d.1).length<4611686018427387904)->((!(decide (w8 d.1≠0)||decide (w8 d.1≠0)))=true->d.1.1.2.2.1.length<4611686018427387904)->((jgl d)=true->(false,())=(true,()))/\((jgl d)=false->(0+(vd d.1).length)*8<=140737488355328/\(∃(x:Nat),((0=(x:Int)/\True)/\[]++vd d.1=qG (vd d.1) (kY d.1) x/\True)/\x<=(kY d.1).length)/\∀(x:Nat),x<=(kY d.1).length->(kY d.1).length<4611686018427387904->(decide ((x:Int)<(jdE d))=true->0<=(x:Int)/\(x:Int)<(jdE d)/\((!!vi d.1 (jcq d x).2.1)=true->(0:Int)<=(jcq d x).2.1)/\((!!vi d.1 (jcq d x).2.1)=true->(jcq d x).2.1<(d.1.2.1.length:Int))/\((jgm d x)=true->(false,())=(true,()))/\((jgm d x)=false->((jgk d x)=true->wq (jeY d x))/\((jgk d x)=true->wq ((jcq d x).2.2.1+(jcq d x).2.2.2.1-(jcq d x).q4.1))/\((jdF d x)=true->wq ((100:Int)*(jcq d x).q4.1))/\((jdF d x)=true->wq (jeY d x))/\((jdF d x)=true->(0:Int)<=(jcq d x).2.1)/\((jdF d x)=true->(jcq d x).2.1<(d.1.1.2.2.1.length:Int))/\((jdF d x)=true->(0:Int)<=(jeZ d x).1.q4.1)/\((jdF d x)=true->(jeZ d x).1.q4.1<(d.1.2.2.2.1.q4.q4.1.length:Int))/\((jdF d x)=true->wq ((jeY d x)*nth d.1.2.2.2.1.q4.q4.1 (jeZ d x).1.q4.1.toNat))/\((jgo d x)=true->(false,())=(true,()))/\((jgo d x)=false->(0:Int)<=(jcq d x).1/\(jcq d x).1<(jdZ d x)/\wq (nth (jcR d x) (jcq d x).1.toNat-(jcq d x).q4.2.1)/\(0:Int)<=(jcq d x).1/\(jcq d x).1<(jdZ d x)/\(decide (0<(x:Int))=true->wq ((x:Int)-1))/\(decide (0<(x:Int))=true->0<=(x:Int)-1)/\(decide (0<(x:Int))=true->(x:Int)-1<(jdE d))/\((jfB x d)=true->wq ((x:Int)-1))/\((jfB x d)=true->0<=(x:Int)-1)/\((jfB x d)=true->(x:Int)-1<(jdE d))/\((jfA x d)=true->wq ((x:Int)-1))/\((jfA x d)=true->0<=(x:Int)-1)/\((jfA x d)=true->(x:Int)-1<(jdE d))/\((jgj x d)=true->(false,())=(true,()))/\((jgj x d)=false->wq ((x:Int)+1)/\∃(b:Nat),(((x:Int)+1=(b:Int)/\True)/\(jcR d x).set (jcq d x).1.toNat (nth (jcR d x) (jcq d x).1.toNat-(jcq d x).q4.2.1)=qG (vd d.1) (kY d.1) b/\True)/\b<=(kY d.1).length/\(kY d.1).length-b<(kY d.1).length-x))))/\(decide ((x:Int)<(jdE d))=false->(∃(a:Nat),((0=(a:Int)/\True)/\True)/\a<=(jcR d x).length)/\∀(a:Nat),a<=(jcR d x).length->(jcR d x).length<4611686018427387904->(decide ((a:Int)<(jdZ d x))=true->0<=(a:Int)/\(a:Int)<(jdZ d x)/\(decide (nth (jcR d x) a≠0)=true->(false,())=(true,()))/\(decide (nth (jcR d x) a≠0)=false->wq ((a:Int)+1)/\∃(b:Nat),(((a:Int)+1=(b:Int)/\True)/\True)/\b<=(jcR d x).length/\(jcR d x).length-b<(jcR d x).length-a))/\(decide ((a:Int)<(jdZ d x))=false->(true,())=(true,()))))))
theorem Fp {t:List Int} {l:List LnD} {k:Nat} (h:k<l.length):qG t l (k+1)=WL (qG t l k) (nth l k):=by
 unfold qG;rw[L.wG h,jV];rfl
theorem J4 {n:Nat} {l:List LnD} {t:List Int} (f:t.length=n) (h:∀x∈l,0<=gS x/\gS x<(n:Int)) (g:∀j,j<n->True):
 ∀k,k<=l.length->(qG t l k).length=n/\(ye n l k).length=n/\∀j,j<n->nth (qG t l k) j=nth t j-nth (ye n l k) j
 |0,_=>⟨f,zw,fun j a=>by
  have:nth (ye n l 0) j=0:=L.Ax a
  rw[this,Int.sub_zero];rfl⟩
 |k+1,hk=>by
  obtain⟨b,c,d⟩:=J4 f h g k (by omega)
  obtain⟨o,p⟩:=h _ (L.wd (show k<l.length by omega))
  rw[Fp (by omega),tU (by omega)]
  unfold WL OA
  refine⟨by rw[kc,b],by rw[kc,c],fun j a=> ?_⟩
  rw[L.gL (by rw[b];omega),L.gL (by rw[c];omega)]
  have i:=d j a
  have m:=d (gS (nth l k)).toNat (by omega)
  by_cases e:(gS (nth l k)).toNat=j
  subst e;rw[jh rfl,jh rfl];omega
  rw[jc e,jc e];exact i
theorem Um {w t s tt c k a:Int} (b:0<=w) (d:0<=t) (e:0<=s) (f:0<=tt) (g:tt=w+t-s) (h:s<=c) (i:100*s<=k) (hk:k=a):
 ¬(decide (w<0)||decide (t<0)||decide (s<0)||decide (tt<0)||decide (tt≠w+t-s)||decide (c<s)||decide (a<100*s))=true:=by
 subst hk;simp only[zo,jp];omega
theorem xV:tY:=by
 unfold tY jgp jgo jeZ jdF jgn jgm jdZ jeY jgl jfB jgk jdE jgj jey jfA jdY jcR jcq Prod.q4;rintro⟨l,⟨⟩⟩ _;refine⟨fun _=>rfl,fun h=> ?_⟩;have h:Nd l=true:=(by simpa using(show(!Nd l)=false from h));obtain⟨Z,f,v⟩:=Za h;obtain⟨Q,l2⟩:=J1 Z;have X:=jbv f;have eL:kY l=l6 l:=(Y8 l).trans (jh v);have G:vd l=jaL l:=(Y9 l).trans (jh v);have J:(kY l).length<=(wg (wm l)).length:=(by rw[eL];exact Wn f);have I:=Wp f _ (jk _);have I:0<=ee l/\ee l<=21:=I;have b:=Wo f;have tl:(vd l).length=(ee l).toNat:=(by rw[G];exact(si b _ (jk _)).1);have A:∀x,x<(kY l).length->jbV l (nth (kY l) x):=fun x e=>jbW f (by rw[eL] at e⊢;exact L.wd e)
 have H:=J4 (n:=(ee l).toNat) (l:=kY l) (t:=vd l) tl (by rw[eL];exact fun x e=>(b x e).1) (fun _ _=>trivial);have M:∀k,k<=(kY l).length->∀j,j<(ee l).toNat->-1000000*(k:Int)<=nth (ye (ee l).toNat (kY l) k) j/\nth (ye (ee l).toNat (kY l) k) j<=20000000000000000*(k:Int):=by
  rw[eL];exact fun k hk=>(si b k hk).2
 have F:vd l=ye (ee l).toNat (kY l) (kY l).length:=(by rw[G,eL];rfl);have i:∀x,x<(kY l).length->0<x->gS (nth (kY l) (x-1))<gS (nth (kY l) x)\/(gS (nth (kY l) (x-1))=gS (nth (kY l) x)/\ik (nth (kY l) (x-1))<ik (nth (kY l) x)):=by
  rw[eL];exact fun x e W=>T9 e W
 refine⟨Q,Q,fun _ _=>⟨fun s=> ?_,fun _=>⟨?_,⟨0,⟨⟨rfl,tZ⟩,rfl,tZ⟩,jw _⟩,fun x e _=>⟨fun m=> ?_,fun m=> ?_⟩⟩⟩⟩;have s:(decide (w8 l≠0)||decide (w8 l≠0)||decide (((wg (wm l)).length:Int)<(kY l).length))=true:=s;rw[v,za (fun h=>h rfl),za (show¬((wg (wm l)).length:Int)<(kY l).length by omega)] at s;cases s;show(0+(vd l).length)*8<=_;omega;have m:(x:Int)<(kY l).length:=jb m;have c:x<(kY l).length:=(by omega);have o:=A x c;obtain⟨E,T,q⟩:=H x (by omega);obtain⟨R,p2,p3⟩:=o.pr;obtain⟨O,P⟩:=o.bk;have hw:=o.wk;have ht:=o.tr;have K:=o.sb;have r:=o.tt;have Y:=f.ta.cp;have B:=o.pc;have bl:gS (nth (kY l) x)<((qG (vd l) (kY l) x).length:Int):=(by rw[E];omega);have C:ik (nth (kY l) x)<((yC l).length:Int):=(by rw[f.py.1];exact P);have v1:=M x (by omega) (gS (nth (kY l) x)).toNat (by omega);have v2:=M _ (jk _) (gS (nth (kY l) x)).toNat (by omega);rw[<-F] at v2;have q:=q (gS (nth (kY l) x)).toNat (by omega);have z:=i x c;have V:((x:Int)-1).toNat=x-1:=(by omega);have hm:0<=(Xt (nth (kY l) x)+Xu (nth (kY l) x))*nth (aQ (fR l)) (fO (y9 (nth (wg (wm l)) (ik (nth (kY l) x)).toNat))).toNat/\(Xt (nth (kY l) x)+Xu (nth (kY l) x))*nth (aQ (fR l)) (fO (y9 (nth (wg (wm l)) (ik (nth (kY l) x)).toNat))).toNat<=10000001000000000*100:=UG (by omega) B;have N:wq (Xt (nth (kY l) x)+Xu (nth (kY l) x)):=iZ6;have i2:wq (Xt (nth (kY l) x)+Xu (nth (kY l) x)-jaJ (nth (kY l) x)):=iZ6;have i3:wq (100*jaJ (nth (kY l) x)):=iZ6;have i4:wq ((Xt (nth (kY l) x)+Xu (nth (kY l) x))*nth (aQ (fR l)) (fO (y9 (nth (wg (wm l)) (ik (nth (kY l) x)).toNat))).toNat):=iZ6;have i5:wq (nth (qG (vd l) (kY l) x) (gS (nth (kY l) x)).toNat-Oz (nth (kY l) x)):=(by rw[q];exact iZ6);have D:wq ((x:Int)-1):=iZ6;have g:(x:Int)-1<((kY l).length:Int):=(by omega);have S:∀{p:Bool},(decide (0<(x:Int))&&p)=true->0<=(x:Int)-1:=fun{p} w=>by
  rw[ji,jp] at w;omega
 have u:=Fp (t:=vd l) c;refine⟨by omega,m,fun _=>O,fun _=>C,fun d=> ?_,fun _=>⟨fun _=>N,fun _=>i2,fun _=>i3,fun _=>N,fun _=>O,fun _=>P,fun _=>o.kd.1,fun _=>o.kd.2,fun _=>i4,fun d=> ?_,fun _=>⟨R,bl,i5,R,bl,fun _=>D,fun a=> ?_,fun _=>g,fun _=>D,fun a=>S a,fun _=>g,fun _=>D,fun a=> ?_,fun _=>g,fun a=> ?_,fun _=>⟨iZ6,x+1,⟨⟨by simp,tZ⟩,u.symm,tZ⟩,by show x+1<=(kY l).length;omega,by show(kY l).length-(x+1)<(kY l).length-x;omega⟩⟩⟩⟩;exfalso;have d:(!vi l (ik (nth (kY l) x))||decide (gS (nth (kY l) x)≠nth (yC l) (ik (nth (kY l) x)).toNat)||decide (((qG (vd l) (kY l) x).length:Int)<=gS (nth (kY l) x)))=true:=d;rw[Wl.2 o.bk,za (fun w=>w o.py),za (show¬((qG (vd l) (kY l) x).length:Int)<=gS (nth (kY l) x) by omega)] at d;cases d;exact absurd d (Um hw.1 ht.1 K.1 r.2 r.1 K.2 o.pp rfl);have a:0<(x:Int):=jb a;show 0<=(x:Int)-1;omega;rw[ji] at a;exact S a.1;exfalso;have a:(decide (0<(x:Int))&&(decide (gS (nth (kY l) x)<gS (nth (kY l) ((x:Int)-1).toNat))||decide (gS (nth (kY l) ((x:Int)-1).toNat)=gS (nth (kY l) x))&&decide (ik (nth (kY l) x)<=ik (nth (kY l) ((x:Int)-1).toNat))))=true:=a;rw[V] at a;simp only[ji,zo,jp] at a;have:=z (by omega);omega;have m:¬(x:Int)<(kY l).length:=je m;have e:x<=(kY l).length:=e;have c:x=(kY l).length:=(by omega);subst c;obtain⟨E,T,q⟩:=H _ (jk _);refine⟨⟨0,⟨⟨rfl,tZ⟩,tZ⟩,jw _⟩,fun y hy _=>⟨fun d=> ?_,fun _=>rfl⟩⟩;have d:(y:Int)<(qG (vd l) (kY l) (kY l).length).length:=jb d;have hz:nth (qG (vd l) (kY l) (kY l).length) y=0:=by
  rw[q y (by omega),<-F,Int.sub_self]
 refine⟨by omega,d,fun a=>absurd hz (jb a),fun _=>⟨iZ6,y+1,⟨⟨by simp,tZ⟩,tZ⟩,by show y+1<=(qG (vd l) (kY l) (kY l).length).length;omega,by show(qG (vd l) (kY l) (kY l).length).length-(y+1)<(qG (vd l) (kY l) (kY l).length).length-y;omega⟩⟩
theorem QD:wU PR 6 tW:=yi tX xV Tryz.func6 (kcC M0 (kcC M1 (kcC Qw (kcC C8 (kcC C6 kcN))))) koN
open Go.Proofs Go.Proofs.YtacjhnpgiklpdaaGreatDoor
noncomputable def Wy:Array Field:=match Tryz.prog.underlying 63 with|some (.struct fs)=>fs|_=> #[]
theorem jax:Tryz.prog.globalNamed "handshape/rosters.some"=some 0:=by kernel_rfl
theorem jay:(Tryz.prog.globals[0]?).map (·.type)=some 63:=by kernel_rfl
theorem jcf:Tryz.prog.underlying 63=some (.struct Wy):=by kernel_rfl
theorem jcg:Tryz.prog.underlying 3=some (.int .i64):=by kernel_rfl
theorem jch:Tryz.prog.cellsOf 3=1:=by kernel_rfl
noncomputable def cS (i:Nat):Bool:=match Wy[i]? with|some f=>Nat.beq f.type 3&&Nat.beq f.offset i|none=>false
theorem fields:(cS 0&&cS 1&&cS 2&&cS 3&&cS 4&&cS 5)=true:=by kernel_rfl
theorem Wz {i:Nat} (h:cS i=true):∃f,Wy[i]? =some f/\f.type=3/\f.offset=i:=by
 unfold cS at h
 split at h
 rename_i f a;rw[ji] at h;exact⟨f,a,ja h.1,ja h.2⟩;cases h
theorem WA {H:Type} {enc:TypeId×Value->H} {w:World} {base:Nat} {sp:Nat->Bool} {a:Bool} {n:Nat} {cs:List Value} {xs:List (DataW H×List MemPlace)} {d:List Int} (o:xs.map (·.1)=d.map fun z=>(DataW.lit (.int .i64 z):DataW H))
 (k:∀(i:Nat) (f:Field),Wy[i]? =some f->DataW.trod enc Tryz.prog w base sp a n f.type ((cs.drop f.offset).take (Tryz.prog.cellsOf f.type))=xs[i]?) {i:Nat} {z:Int} (hi:cS i=true) (q:d[i]? =some z):cs[i]? =some (.int .i64 z):=by
 obtain⟨f,g,h,j⟩:=Wz hi;have b:=k i f g;rw[h,j,jch] at b;have c:(xs.map (·.1))[i]? =some (DataW.lit (.int .i64 z):DataW H):=(by rw[o,zO,q];rfl);rw[zO] at c;obtain⟨y,p,e⟩:=kf.1 c;rw[p] at b;obtain⟨m,l,rfl,_⟩:=DataW.trod_int jcg b;have e:m=z:=by
  have e:(DataW.lit (.int .i64 m):DataW H)=DataW.lit (.int .i64 z):=e;simpa only[DataW.lit.injEq,Lit.int.injEq,true_and] using e
 subst e;have:=jS (·[0]?) l;simpa[zL,zc] using this
theorem jbx {W:World} (h:laidMet Tryz.prog [("handshape/rosters.some",Rows.laid_handshape_rosters_some)] W):XL (Hof W):=by
 obtain⟨ps,⟨H,E,cs,k,p,q,d,f,a,A,_,_⟩,_⟩:=h;obtain rfl:=Option.some.inj (jax.symm.trans d);obtain rfl:=Option.some.inj (jay.symm.trans f);obtain⟨xs,n,_,C,I,l,B⟩:=DataW.trod_struct jcf A;have j:xs.map (·.1)=[0,1,0,0,0,1].map fun z=>(DataW.lit (.int .i64 z):DataW Unit):=by
  have e:=jS Prod.fst C;have e:(DataW.agg [.lit (.int .i64 0),.lit (.int .i64 1),.lit (.int .i64 0),.lit (.int .i64 0),.lit (.int .i64 0),.lit (.int .i64 1)]:DataW Unit)= .agg (xs.map (·.1)):=e;simp only[DataW.agg.injEq] at e;exact e.symm
 have fs:=fields;simp only[ji] at fs;obtain⟨⟨⟨⟨⟨o,r⟩,s⟩,u⟩,v⟩,w⟩:=fs;have c:∀{i:Nat} {z:Int},cS i=true->([0,1,0,0,0,1]:List Int)[i]? =some z->cs[i]? =some (.int .i64 z):=fun hi D=>by
  have:=WA j B hi D;simpa using this
 unfold World.var? at a;rw[jax] at a;intro g x b;have b:wA [(0,(⟨.st [.int,.int,.int,.int,.int,.int],((0:Int),(1:Int),(0:Int),(0:Int),(0:Int),(1:Int),())⟩:(t:Ty)×t.Data))] g=some x:=b;have y:Hof W 0=some (.cells cs):=by
  unfold Hof;simp only[Option.bind_some] at a
  split at a
  rename_i F E G e;rw[e];have:=Option.some.inj a;rw[this];cases a
 have m:=qj _ _ _ b;simp only[kP,Prod.mk.injEq] at m;obtain⟨rfl,rfl⟩:=m;exact⟨cs,y,c o rfl,c r rfl,c s rfl,c u rfl,c v rfl,c w rfl,tZ⟩
end Go.X
