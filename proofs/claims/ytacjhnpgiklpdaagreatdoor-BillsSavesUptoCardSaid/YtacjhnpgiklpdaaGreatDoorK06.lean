/-
  Part 6 of the road: a checked reading of bodies, and what the functions on it do (X25 X26 C5 PC15 VD VM VB V1 PV1 VE0 VE1 VE2 V3 PV3 O7 V5 PV5 V6 PV6 VBO DQ MQ LQ AQ NQ VQ1 PQ1 PR1 VQ2 PQ2 PQ3 V4 PV4 V7 PV7 V8S V8 PV8 V9 PV9 VW1 PW1 PW4 VW2 PW2 VW3 PW3 LW).
-/
import Derived.Test.YtacjhnpgiklpdaaGreatDoorK05
import Derived.Test.YtacjhnpgiklpdaaGreatDoorRows
import Derived.WalkKit
import Derived.ProofKit
import Derived.OpenShut
import Derived.JoinedCond
import Derived.Carry
import Derived.ChangeArms
import Derived.Shelf.SlSortCmp.WholeK
import Derived.Test.YtacjhnpgiklpdaaGreatDoorProg
import Derived.Test.YtacjhnpgiklpdaaGreatDoorCards
import Derived.Test.YtacjhnpgiklpdaaGreatDoorTie
import Derived.Deep.DeepHandedRow
import Derived.Lib.LaidTab
namespace Go.X
open U
open Go.RowKit (Below)
open Go.Proofs.YtacjhnpgiklpdaaGreatDoor
def Hof (w:World):Imm:=fun b=>match w.heap[b]? with|some (.cells c _ _)=>some (.cells c)|_=>none
theorem ZL (w:World) (d:jbf (Hof w)):fX (Hof w) w:=by
 refine⟨fun b c h=> ?_,d⟩;unfold Hof at h
 split at h
 rename_i f T a e;simp at h;subst h;exact⟨T,a,e⟩;cases h
def Ty.fits (N:Nat):(t:Ty)->t.Data->Prop
 | .int,x=>wn x
 | .bool,_=>True
 | .uint k,x=>k.min<=x/\x<=k.max
 | .slice t,l=>l.length<=N/\∀x∈l,t.fits N x
 | .unit,_=>True
 | .pair a b,d=>a.fits N d.1/\b.fits N d.2
 | .map k v,l=>l.length<=N/\∀x∈l,k.fits N x.1/\v.fits N x.2
 | .ptr t,d=>∀x,d=some x->t.fits N x
theorem Ty.fits_mono {N M:Nat} (h:N<=M):∀(t:Ty) (d:t.Data),t.fits N d->t.fits M d
 | .int,_,k=>k
 | .bool,_,k=>k
 | .uint _,_,k=>k
 | .unit,_,k=>k
 | .slice t,_,k=>⟨jF k.1 h,fun x c=>t.fits_mono h x (k.2 x c)⟩
 | .pair a b,_,k=>⟨a.fits_mono h _ k.1,b.fits_mono h _ k.2⟩
 | .map k v,_,q=>⟨jF q.1 h,fun x c=>⟨k.fits_mono h _ (q.2 x c).1,v.fits_mono h _ (q.2 x c).2⟩⟩
 | .ptr t,_,k=>fun x c=>t.fits_mono h x (k x c)
def jdW (P:Program) (go:Nat->Ty->Bool):List Field->Nat->Ty->Bool
 |[],_,.unit=>true
 |f::fs,off,.pair a b=>Nat.beq f.offset off&&Nat.beq (P.cellsOf f.type) a.size&&go f.type a&&jdW P go fs (off+a.size) b
 |_,_,_=>false
def jcr (P:Program):Nat->Nat->Ty->Bool
 |0,_,_=>false
 |d+1,T,ty=>match ty,P.underlying T with
  | .int,some (.int .i64)=>true
  | .bool,some .bool=>true
  | .uint k,some (.int k')=>iD k k'
  | .slice t,some (.slice e)=>Nat.beq (P.cellsOf e) t.size&&Nat.ble 1 t.size&&jcr P d e t
  | .pair a b,some (.struct fs)=>Nat.beq (P.cellsOf T) (Ty.pair a b).size&&jdW P (jcr P d) fs.toList 0 (.pair a b)
  |_,_=>false
section
variable {P:Program} {K:Type} {enc:TypeId×Value->K} {w:World}
theorem jdX (d:DataW K):1<=Rows.uptoBulk d:=by
 cases d with
 |lit l=>cases l<;>simp[Rows.uptoBulk]
 |_=>simp[Rows.uptoBulk]
theorem Lw (l:List (DataW K)):l.length<=Rows.uptoBulkAll l:=by
 induction l with
 |nil=>simp[Rows.uptoBulkAll]
 |cons x r a=>have:=jdX x;simp only[Rows.uptoBulkAll,jY];omega
theorem jcs {d:DataW K} {l:List (DataW K)} (h:d∈l):Rows.uptoBulk d<=Rows.uptoBulkAll l:=by
 induction l with
 |nil=>cases h
 |cons x r a=>
  simp only[Rows.uptoBulkAll];cases jj.1 h with
  |inl e=>subst e;omega
  |inr e=>have:=a e;omega
theorem W6 {α:Type} {Q:Nat->α->Prop}:∀(n:Nat),(∀i,i<n->∃y,Q i y)->∃l:List α,l.length=n/\∀i y,l[i]? =some y->Q i y
 |0,_=>⟨[],rfl,fun i y h=>by simp at h⟩
 |n+1,h=>by
  obtain⟨l,b,c⟩:=W6 n (fun i hi=>h i (by omega))
  obtain⟨y,d⟩:=h n (by omega)
  refine⟨l++[y],by simp[b],fun i z a=> ?_⟩
  by_cases hi:i<l.length
  rw[jA hi] at a;exact c i z a
  rw[jx (by omega)] at a
  have:i=n:=by
   by_cases e:i-l.length=0;omega;obtain⟨k,hk⟩:∃k,i-l.length=k+1:=⟨i-l.length-1,by omega⟩;rw[hk] at a;simp at a
  subst this;rw[<-b] at a;simp at a;subst a;exact d
def jdY (P:Program) (w:World) (enc:TypeId×Value->K) (T:Nat) (ty:Ty):Prop:=
 ∀(a:Nat) (cs:List Value) (x:DataW K×List MemPlace),DataW.trod enc P w 0 (fun _=>true) true a T cs=some x->Rows.uptoBulk x.1<=1048576->
  ∃d:ty.Data,ty.rd (Hof w) (fun i=>cs[i]?) d/\cs.length=ty.size/\ty.fits (Rows.uptoBulk x.1) d
theorem jdZ {n:Int} (h:(Lit.int .i64 n).wf=true):wn n:=by
 simp[Lit.wf,IntKind.min,IntKind.max,IntKind.signed,IntKind.bits] at h;exact h
theorem xL {go:Nat->Ty->Bool} (c:∀T ty,go T ty=true->jdY P w enc T ty) {n:Nat} {cs:List Value}:
 ∀(fs:List Field) (off:Nat) (ty:Ty) (xs:List (DataW K×List MemPlace)),jdW P go fs off ty=true->xs.length=fs.length->
  (∀(i:Nat) (f:Field),fs[i]? =some f->DataW.trod enc P w 0 (fun _=>true) true n f.type ((cs.drop f.offset).take (P.cellsOf f.type))=xs[i]?)->Rows.uptoBulkAll (xs.map (·.1))<=1048576->
  ∃d:ty.Data,ty.rd (Hof w) (fun i=>cs[off+i]?) d/\ty.fits (Rows.uptoBulkAll (xs.map (·.1))) d
 |[],off,ty,xs,h,g,e,j=>by
  cases ty<;>simp[jdW] at h
  exact⟨(),trivial,trivial⟩
 |f::fs,off,ty,[],h,g,e,j=>by simp at g
 |f::fs,off,ty,x::xs,h,g,e,j=>by
  cases ty<;>simp[jdW] at h
  rename_i a b
  obtain⟨⟨⟨q,v⟩,r⟩,s⟩:=h
  simp only[zx,Rows.uptoBulkAll] at j
  have k:=e 0 f (by simp)
  simp only[List.getElem?_cons_zero] at k
  obtain⟨d,t,y,u⟩:=c _ _ r _ _ _ k (by omega)
  obtain⟨l,o,p⟩:=xL c fs (off+a.size) b xs s (by simpa using g) (fun i m hi=>by simpa using e (i+1) m (by simpa using hi)) (by omega)
  refine⟨(d,l),⟨?_,?_⟩,?_,?_⟩
  refine Ty.rd_congr a _ _ _ (fun i hi=> ?_) t
  rw[jQ (by omega),zh,q]
  refine Ty.rd_congr b _ _ _ (fun i hi=> ?_) o
  rw[zN]
  exact a.fits_mono (by simp[Rows.uptoBulkAll]) _ u
  exact b.fits_mono (by simp[Rows.uptoBulkAll]) _ p
theorem rh:∀(d T:Nat) (ty:Ty),jcr P d T ty=true->jdY P w enc T ty
 |0,_,_,h=>by cases h
 |d+1,T,ty,h=>by
  intro fuel cs x B r
  unfold jcr at h
  split at h
  rename_i u
  obtain⟨n,rfl,rfl,H⟩:=DataW.trod_int u B
  exact⟨n,rfl,rfl,jdZ H⟩
  rename_i u
  obtain⟨b,rfl,rfl⟩:=DataW.trod_bool u B
  exact⟨b,rfl,rfl,trivial⟩
  rename_i k k' u
  obtain⟨n,rfl,rfl,H⟩:=DataW.trod_int u B
  have:k=k':=by simpa[iD] using h
  subst this
  refine⟨n,rfl,rfl,?_⟩
  simp[Lit.wf] at H
  exact H
  rename_i t e u
  simp only[ji] at h
  obtain⟨⟨L,M⟩,h3⟩:=h
  have e1:=jb L
  have e2:=jy M
  rcases DataW.trod_slice u B with⟨rfl,rfl⟩|⟨a,len,J,cz,rest,n,_,rfl,rfl,hb,hl,hm,A,D,_,_⟩
  refine⟨[],⟨none,0,0,rfl,rfl,jk _,by simp,fun _=>rfl,fun h=>absurd rfl h⟩,rfl,by simp,fun x B=>by simp at B⟩
  simp only[Rows.uptoBulk] at r
  have key:∀i,i<len->∃y:t.Data,(∃blk,Hof w a.block=some (.cells blk)/\a.spot=none/\t.rd (Hof w) (fun j=>blk[a.off+i*t.size+j]?) y)/\t.fits (Rows.uptoBulkAll (cz.map (·.1))) y:=by
   intro i hi;have h0:=D i hi;have X:cz[i]? =some cz[i]:=ju (by omega);rw[X,Option.bind_eq_some_iff] at h0;obtain⟨cl,c1,c2⟩:=h0;have Q:Rows.uptoBulk cz[i].1<=Rows.uptoBulkAll (cz.map (·.1)):=jcs (j6.2 ⟨cz[i],kP _,rfl⟩);obtain⟨y,y1,y2,y3⟩:=rh d e t h3 _ _ _ c2 (by omega);unfold World.cells? at c1;rw[je (jm _),e1] at c1;have z:∀j,j<t.size->w.cell? ((a.add (i*t.size)).add j)=cl[j]? :=fun j O=>by
    have:=mapM_some_get c1 j j (by simp[O]);simpa using this
   have N:cl.length=t.size:=(by simpa using mapM_some_length c1);have I:=z 0 (by omega);have g:cl[0]?≠none:=(by rw[ju (by omega)];simp);rw[<-I] at g;have m:∃blk T G,w.heap[a.block]? =some (.cells blk T G):=by
    unfold World.cell? at g;have q:((a.add (i*t.size)).add 0).block=a.block:=by unfold Addr.add;simp;split<;>rfl
    rw[q] at g
    split at g
    rename_i c T G e;exact⟨c,T,G,e⟩;exact absurd rfl g
   obtain⟨blk,T',G,m⟩:=m;have p:((a.add (i*t.size)).add 0).spot=none:=by
    unfold World.cell? at g;have q:((a.add (i*t.size)).add 0).block=a.block:=by unfold Addr.add;simp;split<;>rfl
    rw[q,m] at g;simp only at g;cases R:((a.add (i*t.size)).add 0).spot with
    |none=>rfl
    |some s=>rw[R] at g;simp at g
   have hH:Hof w a.block=some (.cells blk):=(by unfold Hof;rw[m]);refine⟨y,⟨blk,hH,?_,?_⟩,t.fits_mono Q _ y3⟩
   --the first element shows that the address is plain
   have C:=D 0 (by omega);have W:cz[0]? =some cz[0]:=ju (by omega);rw[W,Option.bind_eq_some_iff] at C;obtain⟨K,F,_⟩:=C;unfold World.cells? at F;rw[je (jm _),e1] at F;have v:=mapM_some_get F 0 0 (by rw[kC (by omega)]);have hl0:K.length=t.size:=(by simpa using mapM_some_length F);rw[ju (by omega)] at v;simp only[kH] at v;have ea:(a.add 0).add 0=a:=(by unfold Addr.add;simp);rw[ea] at v;unfold World.cell? at v;rw[m] at v;simp only at v;cases R:a.spot with
   |none=>rfl
   |some s=>rw[R] at v;simp at v
   refine Ty.rd_congr t _ _ _ (fun j O=> ?_) y1;rw[<-z j O];unfold World.cell?;have q:((a.add (i*t.size)).add j).block=a.block:=by unfold Addr.add;split<;>split<;>rfl
   have E:((a.add (i*t.size)).add j).off=a.off+i*t.size+j:=by
    unfold Addr.add;split<;>split<;>simp_all
   have V:((a.add (i*t.size)).add j).spot=none:=by
    have S:(a.add (i*t.size)).spot=none:=by
     have:(a.add (i*t.size)).add 0=a.add (i*t.size):=(by simp[Addr.add]);rw[this] at p;exact p
    unfold Addr.add at S⊢
    split<;>split<;>simp_all
   rw[q,m,E,V];simp
  obtain⟨l,l1,l2⟩:=W6 len key;refine⟨l,⟨some a,len,J,rfl,l1.symm,hl,?_,(fun h=>by cases h),fun g=> ?_⟩,rfl,?_,?_⟩;have:=Lw (cz.map (·.1));simp at this;omega;have hz:0<l.length:=kU.2 g;obtain⟨blk,q1,q2,_⟩:=(l2 0 l[0] (ju hz)).1;refine⟨a.block,a.off,blk,?_,q1,fun i y Z=> ?_⟩;rcases a with⟨b,o,s⟩;simp only at q2;subst q2;rfl;obtain⟨blk',q3,_,q4⟩:=(l2 i y Z).1;rw[q1] at q3;simp at q3;subst q3;exact q4;simp only[Rows.uptoBulk];have:=Lw (cz.map (·.1));simp at this;omega;intro y Z;obtain⟨i,hi⟩:=zS Z;exact t.fits_mono (by simp only[Rows.uptoBulk];omega) _ (l2 i y hi).2;rename_i a b fs u;simp only[ji] at h;obtain⟨L,M⟩:=h;obtain⟨xs,n,_,rfl,A,Y,hf⟩:=DataW.trod_struct u B;simp only[Rows.uptoBulk] at r;obtain⟨y,y1,y2⟩:=xL (fun T ty h=>rh d T ty h) (n:=n) (cs:=cs) fs.toList 0 (.pair a b) xs M (by simpa using Y) (fun i f hi=>hf i f (by simpa using hi)) (by omega);refine⟨y,by simpa using y1,by rw[A];exact jb L,?_⟩;exact Ty.fits_mono (by simp only[Rows.uptoBulk];omega) (.pair a b) _ y2;cases h
end
end Go.X
namespace Go.X
open U
open Go.RowKit (Below)
open Go.ChangeShapes Go.WideShapes Go.ChangeAt Go.RowKit
open Go.Proofs.YtacjhnpgiklpdaaGreatDoor
def Ix (N:Nat):(ts:List Ty)->PD (ts.map Par.val)->Prop
 |[],_=>True
 |t::ts,d=>t.fits N d.1/\Ix N ts d.2
def W7 (ts:List Ty):wS:=⟨ts.map Par.val,[.bool],false,fun d=>[Ix 1048576 ts d],fun _=>(true,())⟩
def xM (P:Program):List Nat->List Ty->Bool
 |[],[]=>true
 |T::Ts,t::ts=>jcr P 20 T t&&(P.readableRec T&&decide (T<P.types.size))&&xM P Ts ts
 |_,_=>false
section
variable {P:Program} {K:Type} {enc:TypeId×Value->K} {W W':World}
theorem tw (j:laidOutB P=true) (i:Below W.heap.size W W'):∀(a:List Nat) (ts:List Ty) (vs:List Value) (ds:List (DataW K)) (ps:List MemPlace),xM P a ts=true->
 DataW.TrodAll enc P W 0 (fun _=>true) true a vs ds ps->(∀x∈ps,x.block<W.heap.size)->DataW.TrodAll enc P W' 0 (fun b=>decide (b<W.heap.size)) true a vs ds ps
 |[],ts,vs,ds,ps,_,h,_=>by
  obtain⟨rfl,rfl,rfl⟩:=trodAll_nil h
  exact trodAll_mk0
 |T::a,[],vs,ds,ps,c,_,_=>by cases c
 |T::a,t::ts,vs,ds,ps,c,h,hlt=>by
  obtain⟨v,g,d,e,p,q,rfl,rfl,rfl,n,o⟩:=trodAll_cons h
  simp only[xM,ji] at c
  obtain⟨⟨_,k,l⟩,m⟩:=c
  exact trodAll_cons_mk (Below.trod j k (ja l) n i (fun x f=>hlt x (jh _ f)))
   (tw j i a ts g e q m o (fun x f=>hlt x (jg _ f)))
theorem jct {T:Nat} {t:Ty} {r:Reach} {c:Nat} {v:Value} (h:jcr P 20 T t=true) (b:Value.okWide P W r c T v):yu v=t.agg:=by
 unfold jcr at h
 split at h
 rename_i a;obtain⟨n,rfl⟩:=okWide_int a b;rfl;rename_i a;obtain⟨n,rfl⟩:=okWide_bool a b;rfl;rename_i a;obtain⟨n,rfl⟩:=okWide_int a b;rfl;rename_i a;unfold Value.okWide at b;rw[a] at b;simp only[Cell.okWide,a] at b;cases v with
 |agg vs=>simp[Cell.ok,a] at b
 |_=>rfl
 rename_i a;unfold Value.okWide at b;rw[a] at b;obtain⟨cs,rfl,_⟩:=b;rfl;cases h
theorem jaN {r:Reach} {l:Nat}:∀(a:List Nat) (ts:List Ty) (vs:List Value) (ds:List (DataW K)) (ps:List MemPlace),xM P a ts=true->
 DataW.TrodAll enc P W 0 (fun _=>true) true a vs ds ps->(∀(j:Nat) t v,a[j]? =some t->vs[j]? =some v->Value.okWide P W r l t v)->Rows.uptoBulkAll ds<=1048576->
 ∃d:PD (ts.map Par.val),pvs P (Hof W) (ts.map Par.val) vs d/\Ix 1048576 ts d
 |[],ts,vs,ds,ps,b,h,_,_=>by
  obtain⟨rfl,rfl,rfl⟩:=trodAll_nil h
  cases ts with
  |nil=>exact⟨(),rfl,trivial⟩
  |cons t ts=>cases b
 |T::a,[],vs,ds,ps,b,_,_,_=>by cases b
 |T::a,t::ts,vs,ds,ps,b,h,hv,hb=>by
  obtain⟨v,g,d,e,p,q,rfl,rfl,rfl,n,o⟩:=trodAll_cons h
  simp only[xM,ji] at b
  obtain⟨⟨k,_⟩,m⟩:=b
  simp only[Rows.uptoBulkAll] at hb
  obtain⟨c,s⟩:=n
  obtain⟨x,w,z,A⟩:=rh 20 T t k c _ _ s (by simp only;omega)
  obtain⟨y,B,C⟩:=jaN a ts g e q m o (fun j t v u f=>hv (j+1) t v (by simpa using u) (by simpa using f)) (by omega)
  refine⟨(x,y),⟨⟨jct k (hv 0 T v rfl rfl),by simpa using z,?_⟩,B⟩,Ty.fits_mono (by simp only;omega) t x A,C⟩
  refine Ty.rd_congr t _ _ _ (fun i _=> ?_) w
  simp
theorem ri:∀(a:List Nat) (ts:List Ty) (vs:List Value) (ds:List (DataW K)) (ps:List MemPlace),xM P a ts=true->DataW.TrodAll enc P W 0 (fun _=>true) true a vs ds ps->ds.length=ts.length:=by
 intro a
 induction a with
 |nil=>intro ts vs ds ps b h;obtain⟨rfl,rfl,rfl⟩:=trodAll_nil h;cases ts with|nil=>rfl|cons=>cases b
 |cons T a g=>intro ts vs ds ps b h;cases ts with
  |nil=>cases b
  |cons t ts=>
   obtain⟨v,e,d,c,p,q,rfl,rfl,rfl,i,f⟩:=trodAll_cons h;simp only[xM,ji] at b;simp[g ts e c q b.2 f]
theorem jaO {f:Nat} {fn:Func} {s:ChangeSpec} {ts:List Ty} (I:laidOutB P=true) (k:xM P fn.params.toList ts=true) (L:fn.resultTypes= #[4]) (D:P.underlying 4=some .bool)
 (a:s.vars=[]) (m:∀(ds:List (DataW K)),ds.length=ts.length->s.fn K (ds++[])={results:=[.lit (.bool true)],args:=ds})
 (G:wZ P f (W7 ts)) (base:Nat) (args:Array Value) (ds o:List (DataW K)) (before:List MemPlace)
 (l:∀(j:Nat) t v,fn.params[j]? =some t->args[j]? =some v->Value.okWide P W .any base t v)
 (w:DataW.Whole enc P fn.params.toList s.vars false W args.toList ds o before) (hk:Rows.uptoSmall K (ds++o)=true) (E:jbf (Hof W)):
 Calls P f args W fun e W'=>∃v,e= .returned v/\s.post enc P fn false true false false W args v W':=by
 have b:=w;obtain⟨p,q,i,u,rfl,H,J⟩:=w;rw[a] at u;obtain⟨rfl,rfl⟩:=trodVars_none u;simp only[j7] at b hk;have c:Rows.uptoBulkAll ds<=1048576:=ja hk;have g:∀(j:Nat) t v,fn.params.toList[j]? =some t->args.toList[j]? =some v->Value.okWide P W .any base t v:=fun j t v B C=>l j t v (by simpa using B) (by simpa using C)
 obtain⟨d,z,A⟩:=jaN fn.params.toList ts args.toList ds p k i g c;have y:=G.calls (Hof W) W args.toList d (ZL W E) z ⟨A,trivial⟩;simp only[Array.toArray_toList] at y;refine y.mono fun e W' F=> ?_
 obtain⟨v,H',rfl,r,M⟩:=F;have n:v= .bool true:=vn M;subst n;refine⟨_,rfl,ds,[],p,[],p,[],b,?_,?_,?_,r.below.frame _,fun h=>by cases h⟩;rw[m ds ?_,L];exact trodAll_cons_mk (shut_bool D _) trodAll_mk0;exact ri _ _ _ _ _ k i;rw[m ds ?_];exact tw I r.below _ ts _ _ _ k i (fun x N=>by simpa using b.lt x N);exact ri _ _ _ _ _ k i;rw[a,m ds ?_];rfl;exact ri _ _ _ _ _ k i
end
end Go.X
namespace Go.X
open U
open Go.Proofs
namespace U
def je6 (p:PeD):Prop:=(lv p).length<=20/\(vj p).length<=30
def Jc (c:CrD):Prop:=(wj c).length<=20/\(yX c).length<=20/\∀p∈wj c,je6 p
def Ew (d:DyD):Prop:=Jc (wt d)/\(qa d).length<=20/\(wq d).length<=20/\(qc d).length<=60/\∀r∈qa d,r.length<=20
def Mj (p:PeD):Bool:=decide (20<((lv p).length:Int))||decide (30<((vj p).length:Int))
def lU (c:CrD):Bool:=(decide (20<((wj c).length:Int))||decide (20<((yX c).length:Int)))||((wj c).any Mj||(wu c&&decide (5<((wj c).length:Int))))
def Mk (r:List SpD):Bool:=decide (20<(r.length:Int))
def cX (d:DyD):Bool:=(((lU (wt d)||decide (20<((qa d).length:Int)))||decide (20<((wq d).length:Int)))||decide (60<((qc d).length:Int)))||(qa d).any Mk
def Jd (d:DyD):Bool:=cX d||(decide (gN d=0)&&decide (12<((qc d).length:Int)))
def jfl:CrD:=(3,[([5,4,0],3,15,[],false,50,()),([0,5,3],3,15,[],true,40,()),([4,0,4],1,3,[7],false,30,()),([3,3,3],255,1,[],false,10,())],[(2,1,false,()),(4,2,false,()),(3,2,true,()),(5,1,false,())],())
def Yi:List JbD:=[(0,2,7,1,2,1,()),(0,2,3,0,0,1,()),(0,2,7,1,1,1,())]
def jfm:DyD:=(jfl,[[(0,0,()),(10,20,())],[(10,25,()),(0,0,())]],[((0,2,3,0,0,1,()),0,60,120,()),((0,2,3,1,0,1,()),1,150,200,()),((0,2,7,1,2,1,()),0,230,300,())],10,140,
 [(1,5,1,0,3,()),(2,6,1,1,3,()),(3,4,1,2,2,()),(4,7,1,2,0,()),(5,8,1,2,1,()),(6,9,1,0,2,()),(7,10,2,0,2,())],())
end U
def Te:wS:=⟨[.val tCr],[tCr],false,fun d=>[Jc d.1],fun d=>(d.1,())⟩
def Tf:Ann:=fun r=>match r with
 |3=>some fun σ=>{X:=Nat,sl:=fun i=>[(4,.dat .int (i:Int))],ob:=fun i=>[(3,some (.box 25 false ((bx σ 3).set 1 (.own (ig 3 1) tPe)))),(ig 3 1,some (.row 136 tPe false .yes ((wj (gb tCr σ 1)).take i)))],inv:=fun i=>i<=(wj (gb tCr σ 1)).length,mu:=fun i=>(wj (gb tCr σ 1)).length-i}
 |_=>none
abbrev jga (d:CrD×Unit)(x:Nat):=(nth d.1.2.1 (x:Int).toNat)
def Tg:Prop:=∀(d:CrD×Unit),Jc d.1->(0+d.1.2.2.1.length)*24<=140737488355328/\(∃(x:Nat),((0=(x:Int)/\True)/\(d.1.1=d.1.1/\True/\True/\True)/\List.take x (wj d.1)=[]/\True)/\x<=(wj d.1).length)/\∀(x:Nat),x<=(wj d.1).length->d.1.2.1.length<4611686018427387904->(decide ((x:Int)<d.1.2.1.length)=true->0<=(x:Int)/\(x:Int)<d.1.2.1.length/\(0+(jga d x).1.length)*8<=140737488355328/\(0+(jga d x).2.2.2.1.length)*8<=140737488355328/\((List.take x (wj d.1)).length+[([]++(jga d x).1,(jga d x).2.1,(jga d x).2.2.1,[]++(jga d x).2.2.2.1,(jga d x).q4)].length)*80<=140737488355328/\wn ((x:Int)+1)/\∃(a:Nat),(((x:Int)+1=(a:Int)/\True)/\(d.1.1=d.1.1/\True/\True/\True)/\List.take x (wj d.1)++[([]++(jga d x).1,(jga d x).2.1,(jga d x).2.2.1,[]++(jga d x).2.2.2.1,(jga d x).q4)]=List.take a (wj d.1)/\True)/\a<=(wj d.1).length/\(wj d.1).length-a<(wj d.1).length-x)/\(decide ((x:Int)<d.1.2.1.length)=false->((d.1.1,List.take x (wj d.1),[]++d.1.2.2.1,()),())=d)
def Th:wS:=⟨[.val tDy],[tDy],false,fun d=>[Ew d.1],fun d=>(d.1,())⟩
def Ti:Ann:=fun r=>match r with
 |5=>some fun σ=>{X:=Nat,sl:=fun i=>[(4,.dat .int (i:Int))],ob:=fun i=>[(3,some (.box 30 false ((bx σ 3).set 3 (.own (ig 3 3) (.slice tSp))))),(ig 3 3,some (.row 107 (.slice tSp) false .yes ((qa (gb tDy σ 1)).take i)))],inv:=fun i=>i<=(qa (gb tDy σ 1)).length,mu:=fun i=>(qa (gb tDy σ 1)).length-i}
 |_=>none
abbrev jkf (d:DyD×Unit):=(d.1.1.1=d.1.1.1/\d.1.1.2.1=d.1.1.2.1/\d.1.1.2.2.1=d.1.1.2.2.1/\True/\d.1.2.2.1=d.1.2.2.1/\d.1.2.2.2.1=d.1.2.2.2.1/\d.1.q4.1=d.1.q4.1/\d.1.q4.2.1=d.1.q4.2.1/\True)
def Tj:Prop:=∀(d:DyD×Unit),Ew d.1->Jc d.1.1/\(∃(x:Nat),((0=(x:Int)/\True)/\(jkf d)/\List.take x (qa d.1)=[]/\True)/\x<=(qa d.1).length)/\∀(x:Nat),x<=(qa d.1).length->d.1.2.1.length<4611686018427387904->(decide ((x:Int)<d.1.2.1.length)=true->0<=(x:Int)/\(x:Int)<d.1.2.1.length/\(0+(nth d.1.2.1 (x:Int).toNat).length)*16<=140737488355328/\((List.take x (qa d.1)).length+[[]++nth d.1.2.1 (x:Int).toNat].length)*24<=140737488355328/\wn ((x:Int)+1)/\∃(a:Nat),(((x:Int)+1=(a:Int)/\True)/\(jkf d)/\List.take x (qa d.1)++[[]++nth d.1.2.1 (x:Int).toNat]=List.take a (qa d.1)/\True)/\a<=(qa d.1).length/\(qa d.1).length-a<(qa d.1).length-x)/\(decide ((x:Int)<d.1.2.1.length)=false->(0+d.1.2.2.1.length)*72<=140737488355328/\(0+d.1.q4.2.1.length)*40<=140737488355328/\((d.1.1,List.take x (qa d.1),[]++d.1.2.2.1,d.1.2.2.2.1,d.1.q4.1,[]++d.1.q4.2.1,()),())=d)
def W8:wS:=⟨[.val tCr],[.bool],false,fun _=>[],fun d=>(lU d.1,())⟩
def W9:Ann:=fun r=>match r with
 |4=>some fun σ=>{X:=Nat,sl:=fun i=>[(3,.dat .int (i:Int))],ob:=fun _=>[],inv:=fun i=>i<=(wj (gb tCr σ 1)).length/\∀j:Nat,j<i->Mj (nth (wj (gb tCr σ 1)) j)=false,mu:=fun i=>(wj (gb tCr σ 1)).length-i}
 |_=>none
abbrev jiI (d:CrD×Unit)(x:Nat):=((20:Int)<(nth d.1.2.1 (x:Int).toNat).1.length)
abbrev jhc (d:CrD×Unit):=(d.1.2.1.length:Int)
abbrev jkg (d:CrD×Unit)(x:Nat):=(decide (jiI d x)||decide ((30:Int)<(nth d.1.2.1 (x:Int).toNat).2.2.2.1.length))
abbrev jkh (d:CrD×Unit):=(decide (20<(jhc d))||decide (20<(d.1.2.2.1.length:Int)))
def Xa:Prop:=∀(d:CrD×Unit),d.1.2.1.length<4611686018427387904->((!decide (20<(jhc d)))=true->d.1.2.2.1.length<4611686018427387904)->((jkh d)=true->(true,())=(lU d.1,()))/\((jkh d)=false->(∃(x:Nat),((0=(x:Int)/\True)/\True)/\x<=(wj d.1).length/\∀(j:Nat),j<x->Mj (nth (wj d.1) j)=false)/\∀(x:Nat),(x<=(wj d.1).length/\∀(j:Nat),j<x->Mj (nth (wj d.1) j)=false)->d.1.2.1.length<4611686018427387904->(decide ((x:Int)<(jhc d))=true->0<=(x:Int)/\(x:Int)<(jhc d)/\((nth d.1.2.1 (x:Int).toNat).1.length<4611686018427387904->((!decide (jiI d x))=true->0<=(x:Int))/\((!decide (jiI d x))=true->(x:Int)<(jhc d))/\(((!decide (jiI d x))=true->(nth d.1.2.1 (x:Int).toNat).2.2.2.1.length<4611686018427387904)->((jkg d x)=true->(true,())=(lU d.1,()))/\((jkg d x)=false->wn ((x:Int)+1)/\∃(a:Nat),(((x:Int)+1=(a:Int)/\True)/\True)/\(a<=(wj d.1).length/\∀(j:Nat),j<a->Mj (nth (wj d.1) j)=false)/\(wj d.1).length-a<(wj d.1).length-x))))/\(decide ((x:Int)<(jhc d))=false->(wu d.1=true->d.1.2.1.length<4611686018427387904)->(wu d.1&&decide (5<(jhc d)),())=(lU d.1,())))
def Tk:wS:=⟨[.val tDy],[.bool],false,fun _=>[],fun d=>(cX d.1,())⟩
def Tl:Ann:=fun r=>match r with
 |4=>some fun σ=>{X:=Nat,sl:=fun i=>[(3,.dat .int (i:Int))],ob:=fun _=>[],inv:=fun i=>i<=(qa (gb tDy σ 1)).length/\∀j:Nat,j<i->Mk (nth (qa (gb tDy σ 1)) j)=false,mu:=fun i=>(qa (gb tDy σ 1)).length-i}
 |_=>none
abbrev jhC (d:DyD×Unit):=(d.1.2.1.length:Int)
abbrev jki (d:DyD×Unit):=(lU d.1.1||decide (20<(jhC d))||decide (20<(d.1.2.2.1.length:Int))||decide (60<(d.1.q4.2.1.length:Int)))
def Tm:Prop:=∀(d:DyD×Unit),((!lU d.1.1)=true->d.1.2.1.length<4611686018427387904)->((!(lU d.1.1||decide (20<(jhC d))))=true->d.1.2.2.1.length<4611686018427387904)->((!(lU d.1.1||decide (20<(jhC d))||decide (20<(d.1.2.2.1.length:Int))))=true->d.1.q4.2.1.length<4611686018427387904)->((jki d)=true->(true,())=(cX d.1,()))/\((jki d)=false->(∃(x:Nat),((0=(x:Int)/\True)/\True)/\x<=(qa d.1).length/\∀(j:Nat),j<x->Mk (nth (qa d.1) j)=false)/\∀(x:Nat),(x<=(qa d.1).length/\∀(j:Nat),j<x->Mk (nth (qa d.1) j)=false)->d.1.2.1.length<4611686018427387904->(decide ((x:Int)<(jhC d))=true->0<=(x:Int)/\(x:Int)<(jhC d)/\((nth d.1.2.1 (x:Int).toNat).length<4611686018427387904->(decide ((20:Int)<(nth d.1.2.1 (x:Int).toNat).length)=true->(true,())=(cX d.1,()))/\(decide ((20:Int)<(nth d.1.2.1 (x:Int).toNat).length)=false->wn ((x:Int)+1)/\∃(a:Nat),(((x:Int)+1=(a:Int)/\True)/\True)/\(a<=(qa d.1).length/\∀(j:Nat),j<a->Mk (nth (qa d.1) j)=false)/\(qa d.1).length-a<(qa d.1).length-x)))/\(decide ((x:Int)<(jhC d))=false->(false,())=(cX d.1,())))
def Xb:wS:=⟨[.val tDy],[.bool],false,fun _=>[],fun d=>(Jd d.1,())⟩
def Xc:Prop:=∀(d:DyD×Unit),((!cX d.1)=true->(wq d.1).length<=1000000)/\(((!cX d.1&&decide (gN d.1=0))=true->d.1.q4.2.1.length<4611686018427387904)->(cX d.1||decide (gN d.1=0)&&decide (12<(d.1.q4.2.1.length:Int)),())=(Jd d.1,()))
def Tn:wS:=⟨[.val .int,.val .int],[tSp],false,fun _=>[],fun d=>((d.1,d.2.1,()),())⟩
def To:Prop:=∀(d:Int×Int×Unit),(d,())=(d,())
def Iy:wS:=⟨[],[tCr,.slice tJb],false,fun _=>[],fun _=>(jfl,Yi,())⟩
def Iz:Prop:=∀(_:Unit),(((3:Int),[([(5:Int),(4:Int),(0:Int)],(3:Int),(15:Int),[],false,(50:Int),()),([(0:Int),(5:Int),(3:Int)],(3:Int),(15:Int),[],true,(40:Int),()),([(4:Int),(0:Int),(4:Int)],(1:Int),(3:Int),[(7:Int)],false,(30:Int),()),([(3:Int),(3:Int),(3:Int)],(255:Int),(1:Int),[],false,(10:Int),())],[((2:Int),(1:Int),false,()),((4:Int),(2:Int),false,()),((3:Int),(2:Int),true,()),((5:Int),(1:Int),false,())],()),[((0:Int),(2:Int),(7:Int),(1:Int),(2:Int),(1:Int),()),((0:Int),(2:Int),(3:Int),(0:Int),(0:Int),(1:Int),()),((0:Int),(2:Int),(7:Int),(1:Int),(1:Int),(1:Int),())],())=(jfl,Yi,())
def IA:wS:=⟨[],[tDy],false,fun _=>[],fun _=>(jfm,())⟩
abbrev jiJ:=(nth Yi (Int.toNat 1))
def IB:Prop:=∀(_:Unit),(0:Int)<=1/\1<(Yi.length:Int)/\(0:Int)<=1/\1<(Yi.length:Int)/\(0:Int)<=0/\0<(Yi.length:Int)/\((jfl,[[((0:Int),(0:Int),()),((10:Int),(20:Int),())],[((10:Int),(25:Int),()),((0:Int),(0:Int),())]],[(nth Yi (Int.toNat 1),(0:Int),(60:Int),(120:Int),()),((jiJ.1,jiJ.2.1,jiJ.2.2.1,(1:Int),jiJ.q4),(1:Int),(150:Int),(200:Int),()),(nth Yi (Int.toNat 0),(0:Int),(230:Int),(300:Int),())],(10:Int),(140:Int),[((1:Int),(5:Int),(1:Int),(0:Int),(3:Int),()),((2:Int),(6:Int),(1:Int),(1:Int),(3:Int),()),((3:Int),(4:Int),(1:Int),(2:Int),(2:Int),()),((4:Int),(7:Int),(1:Int),(2:Int),(0:Int),()),((5:Int),(8:Int),(1:Int),(2:Int),(1:Int),()),((6:Int),(9:Int),(1:Int),(0:Int),(2:Int),()),((7:Int),(10:Int),(2:Int),(0:Int),(2:Int),())],()),())=(jfm,())
theorem Xd:Tg:=by
 unfold Tg jga Prod.q4;rintro⟨c,⟨⟩⟩ g;obtain⟨m,j,a⟩:Jc c:=g;refine⟨by show(0+(yX c).length)*24<=140737488355328;omega,⟨0,⟨⟨rfl,tZ⟩,⟨rfl,tZ,tZ,tZ⟩,rfl,tZ⟩,jm _⟩,fun x f _=>⟨fun h=> ?_,fun h=> ?_⟩⟩;have h:(x:Int)<(wj c).length:=ja h;have k:=L.wO (l:=wj c) (i:=x) (by omega);obtain⟨s1,s2⟩:=a _ (L.wi (l:=wj c) (i:=x) (by omega));have d:((wj c).take x).length<=20:=(by rw[jT];omega);refine⟨j8 _,h,by show(0+(U.lv (nth (wj c) x)).length)*8<=140737488355328;omega,by show(0+(vj (nth (wj c) x)).length)*8<=140737488355328;omega,by show(((wj c).take x).length+1)*80<=140737488355328;omega,iZ6,x+1,⟨⟨by simp,tZ⟩,⟨rfl,tZ,tZ,tZ⟩,k.symm,tZ⟩,by show x+1<=(wj c).length;omega,by show(wj c).length-(x+1)<(wj c).length-x;omega⟩;have h:¬(x:Int)<(wj c).length:=jc h;have f:x<=(wj c).length:=f;have b:x=(wj c).length:=(by omega);subst b;have e:(wj c).take (wj c).length=wj c:=zz;show((c.1,(wj c).take (wj c).length,c.2.2.1,()),())=(c,());rw[e];rfl
theorem Tp:wZ PR 65 Te:=vl Tf Xd Tryz.func65 kcN koN
theorem Xe:Tj:=by
 unfold Tj jkf Prod.q4;rintro⟨d,⟨⟩⟩ g;obtain⟨k,o,j,n,a⟩:Ew d:=g;refine⟨k,⟨0,⟨⟨rfl,tZ⟩,⟨rfl,rfl,rfl,tZ,rfl,rfl,rfl,rfl,tZ⟩,rfl,tZ⟩,jm _⟩,fun x f _=>⟨fun h=> ?_,fun h=> ?_⟩⟩;have h:(x:Int)<(qa d).length:=ja h;have m:=L.wO (l:=qa d) (i:=x) (by omega);have p:=a _ (L.wi (l:=qa d) (i:=x) (by omega));have c:((qa d).take x).length<=20:=(by rw[jT];omega);refine⟨j8 _,h,by show(0+(nth (qa d) x).length)*16<=140737488355328;omega,by show(((qa d).take x).length+1)*24<=140737488355328;omega,iZ6,x+1,⟨⟨by simp,tZ⟩,⟨rfl,rfl,rfl,tZ,rfl,rfl,rfl,rfl,tZ⟩,m.symm,tZ⟩,by show x+1<=(qa d).length;omega,by show(qa d).length-(x+1)<(qa d).length-x;omega⟩;have h:¬(x:Int)<(qa d).length:=jc h;have f:x<=(qa d).length:=f;have b:x=(qa d).length:=(by omega);subst b;have e:(qa d).take (qa d).length=qa d:=zz;refine⟨by show(0+(wq d).length)*72<=140737488355328;omega,by show(0+(qc d).length)*40<=140737488355328;omega,?_⟩;show((wt d,(qa d).take (qa d).length,wq d,A5 d,jae d,qc d,()),())=(d,());rw[e];rfl
theorem Tq:wZ PR 33 Th:=vl Ti Xe Tryz.func33 (kcC Tp kcN) koN
theorem ZM:Xa:=by
 unfold Xa jkh jkg jhc jiI;rintro⟨c,⟨⟩⟩ _ _;refine⟨fun h=> ?_,fun h=>⟨⟨0,⟨⟨rfl,tZ⟩,tZ⟩,jm _,fun j g=>by omega⟩,fun x f d=>⟨fun a=>⟨j8 _,ja a,fun _=>⟨fun _=>j8 _,fun _=>ja a,fun _=>⟨fun b=> ?_,fun b=> ?_⟩⟩⟩,fun a _=> ?_⟩⟩⟩;have h:(decide (20<((wj c).length:Int))||decide (20<((yX c).length:Int)))=true:=h;show(true,())=(lU c,());unfold lU;rw[h];rfl;have b:Mj (nth (wj c) x)=true:=b;have a:(x:Int)<(wj c).length:=ja a;have:(wj c).any Mj=true:=za.2 ⟨_,L.wi (l:=wj c) (i:=x) (by omega),b⟩;show(true,())=(lU c,());unfold lU;rw[this,Bool.true_or,kX];have b:Mj (nth (wj c) x)=false:=b;have a:(x:Int)<(wj c).length:=ja a;have d:(wj c).length<4611686018427387904:=d;refine⟨iZ6,x+1,⟨⟨by simp,tZ⟩,tZ⟩,⟨by show x+1<=(wj c).length;omega,fun j g=> ?_⟩,by show(wj c).length-(x+1)<(wj c).length-x;omega⟩;by_cases e:j=x;subst e;exact b;exact f.2 j (by omega);have h:(decide (20<((wj c).length:Int))||decide (20<((yX c).length:Int)))=false:=h;have a:¬(x:Int)<(wj c).length:=jc a;have:(wj c).any Mj=false:=zi.2 fun p k=>by
  obtain⟨i,hi,rfl⟩:=L.mem_iff.1 k;rw[f.2 i (by omega)];simp
 show(wu c&&decide (5<((wj c).length:Int)),())=(lU c,());unfold lU;rw[h,this,Bool.false_or,Bool.false_or]
theorem Xf:wZ PR 102 W8:=vl W9 ZM Tryz.func102 (kcC xK kcN) koN
theorem Xg:Tm:=by
 unfold Tm jki jhC Prod.q4;rintro⟨d,⟨⟩⟩ _ _ _;refine⟨fun h=> ?_,fun h=>⟨⟨0,⟨⟨rfl,tZ⟩,tZ⟩,jm _,fun j g=>by omega⟩,fun x f c=>⟨fun a=>⟨j8 _,ja a,fun _=>⟨fun b=> ?_,fun b=> ?_⟩⟩,fun a=> ?_⟩⟩⟩;have h:(((lU (wt d)||decide (20<((qa d).length:Int)))||decide (20<((wq d).length:Int)))||decide (60<((qc d).length:Int)))=true:=h;show(true,())=(cX d,());unfold cX;rw[h];rfl;have b:Mk (nth (qa d) x)=true:=b;have a:(x:Int)<(qa d).length:=ja a;have:(qa d).any Mk=true:=za.2 ⟨_,L.wi (l:=qa d) (i:=x) (by omega),b⟩;show(true,())=(cX d,());unfold cX;rw[this,kX];have b:Mk (nth (qa d) x)=false:=b;have a:(x:Int)<(qa d).length:=ja a;have c:(qa d).length<4611686018427387904:=c;refine⟨iZ6,x+1,⟨⟨by simp,tZ⟩,tZ⟩,⟨by show x+1<=(qa d).length;omega,fun j g=> ?_⟩,by show(qa d).length-(x+1)<(qa d).length-x;omega⟩;by_cases e:j=x;subst e;exact b;exact f.2 j (by omega);have h:(((lU (wt d)||decide (20<((qa d).length:Int)))||decide (20<((wq d).length:Int)))||decide (60<((qc d).length:Int)))=false:=h;have a:¬(x:Int)<(qa d).length:=jc a;have:(qa d).any Mk=false:=zi.2 fun p k=>by
  obtain⟨i,hi,rfl⟩:=L.mem_iff.1 k;rw[f.2 i (by omega)];simp
 show(false,())=(cX d,());unfold cX;rw[h,this];rfl
theorem Tr:wZ PR 63 Tk:=vl Tl Xg Tryz.func63 (kcC Xf kcN) koN
theorem Xh {c:CrD} (h:lU c=false):Jc c:=by
 unfold lU at h;rw[jR,jR,jR,jH] at h;have b:=jc h.1.2;refine⟨by have:=h.1.1;omega,by omega,fun p a=> ?_⟩;have:=zi.1 h.2.1 p a;unfold Mj at this;rw[zo,decide_eq_true_iff,decide_eq_true_iff] at this;unfold je6;omega
theorem GX {d:DyD} (h:cX d=false):Ew d:=by
 unfold cX at h;rw[jR,jR,jR,jR] at h;obtain⟨⟨⟨⟨e,a⟩,b⟩,c⟩,f⟩:=h;have a:=jc a;have b:=jc b;have c:=jc c;refine⟨Xh e,by omega,by omega,by omega,fun r g=> ?_⟩;have:=zi.1 f r g;unfold Mk at this;rw[decide_eq_true_iff] at this;omega
theorem ZN:Xc:=by
 unfold Xc Prod.q4;rintro⟨d,⟨⟩⟩;refine⟨fun h=> ?_,fun _=>rfl⟩;have h:(!cX d)=true:=h;rw[jN] at h;have:=(GX h).2.2.1;show(wq d).length<=1000000;omega
theorem Xi:wZ PR 31 Xb:=wL ZN Tryz.func31 (kcC Tr (kcC rg kcN)) koN
theorem Xj:To:=fun _=>rfl
theorem Tt:wZ PR 104 Tn:=wL Xj Tryz.func104 kcN koN
theorem Lx:Iz:=fun _=>rfl
theorem IC:wZ PR 103 Iy:=wL Lx Tryz.func103 kcN koN
theorem Ly:IB:=by
 unfold IB jiJ Prod.q4;intro _;refine⟨by decide,by decide,by decide,by decide,by decide,by decide,rfl⟩
theorem ID:wZ PR 64 IA:=wL Ly Tryz.func64 (kcC IC (kcC Tt kcN)) koN
theorem ZO {d:DyD} (h:Jd d=false):Ew d:=by
 unfold Jd at h;rw[jR] at h;exact GX h.1
abbrev tNo:Ty:= .st [.int,.int]
abbrev tTa:Ty:= .st [.int,.int,.int,.int,.int,.int,.int,.int,.slice .int,.slice tNo]
abbrev tCa:Ty:= .st [.int,.int,.int]
abbrev tLg:Ty:= .st [tDy,.slice .int,.slice .int,tTa,.slice tCa]
abbrev tLn:Ty:= .st [.int,.int,.int,.int,.int,.int]
abbrev tBl:Ty:= .st [tBk,tTa,.int,.int,.slice .int,.int,.int,.bool,.int]
abbrev tBo:Ty:= .st [tLg,.map .int (.ptr tBl)]
abbrev NoD:Type:=Int×Int×Unit
abbrev TaD:Type:=Int×Int×Int×Int×Int×Int×Int×Int×List Int×List NoD×Unit
abbrev CaD:Type:=Int×Int×Int×Unit
abbrev LgD:Type:=DyD×List Int×List Int×TaD×List CaD×Unit
abbrev LnD:Type:=Int×Int×Int×Int×Int×Int×Unit
abbrev BlD:Type:=BkD×TaD×Int×Int×List Int×Int×Int×Bool×Int×Unit
abbrev XbD:Type:=Int×Int×Int×Int×Int×Int×Int×Int×Int×Int×Int×Int×Int×Int×Int×Int×Int×List Int×List (Int×Int×Unit)×Int×Int×List Int×Int×Int×Bool×Int×Unit
abbrev BoD:Type:=LgD×List (Int×Option BlD)×Unit
namespace U
def gS (n:NoD):Int:=n.1
def Yj (n:NoD):Int:=n.2.1
def PQ (t:TaD):Int:=t.1
def Yk (t:TaD):Int:=t.2.1
def jcW (t:TaD):Int:=t.2.2.1
def Yl (t:TaD):Int:=t.2.2.2.1
def jaZ (t:TaD):Int:=t.2.2.2.2.1
def FW (t:TaD):Int:=t.2.2.2.2.2.1
def Ml (t:TaD):Int:=t.2.2.2.2.2.2.1
def PS (t:TaD):Int:=t.2.2.2.2.2.2.2.1
def co (t:TaD):List Int:=t.2.2.2.2.2.2.2.2.1
def qr (t:TaD):List NoD:=t.2.2.2.2.2.2.2.2.2.1
def Ux (c:CaD):Int:=c.1
def jcX (c:CaD):Int:=c.2.1
def PT (c:CaD):Int:=c.2.2.1
def ww (l:LgD):DyD:=l.1
def dt (l:LgD):List Int:=l.2.1
def nW (l:LgD):List Int:=l.2.2.1
def w5 (l:LgD):TaD:=l.2.2.2.1
def wY (l:LgD):List CaD:=l.2.2.2.2.1
def Ym (l:LnD):Int:=l.1
def jdf (l:LnD):Int:=l.2.1
def Mm (l:LnD):Int:=l.2.2.2.2.2.1
def qU (b:BlD):BkD:=b.1
def gn (b:BlD):TaD:=b.2.1
def Ro (b:BlD):Int:=b.2.2.1
def Rp (b:BlD):Int:=b.2.2.2.1
def vW (b:BlD):List Int:=b.2.2.2.2.1
def rF (b:BlD):Int:=b.2.2.2.2.2.1
def FX (b:BlD):Int:=b.2.2.2.2.2.2.1
def dU (b:BlD):Bool:=b.2.2.2.2.2.2.2.1
def dV (b:BlD):Int:=b.2.2.2.2.2.2.2.2.1
def cY (o:BoD):LgD:=o.1
def Rq (o:BoD):List (Int×Option BlD):=o.2.1
def share (n:Int):Bool:=wa n 0 100
def Je (last:Int) (n:NoD):Bool:=wa (gS n) 0 (last-1)&&share (Yj n)
def xQ:Int->List NoD->Bool
 |_,[]=>true
 |last,n::r=>Je last n&&xQ (gS n) r
def yq (t:TaD):Bool:=(wa (PQ t) 1 240&&wa (Yk t) 0 10000&&wa (jcW t) 0 20&&wa (Yl t) 0 1440&&wa (jaZ t) 0 (Yl t)&&share (FW t)&&wa (Ml t) 0 10000)&&
 (decide ((co t).length=4)&&(co t).all share&&wa (PS t) 0 1000000&&decide ((qr t).length<=4)&&xQ 100001 (qr t))
def oE (n:Nat) (c:CaD):Bool:=(wa (Ux c) 0 99&&wa (jcX c) 0 ((n:Int)-1))&&wa (PT c) (-100000) 1440
def Mn (n:Int):Bool:=wa n 0 20
def xR (n:Int):Bool:=wa n 0 300
def du (l:LgD):Bool:=((decide ((dt l).length=(wq (ww l)).length)&&(dt l).all Mn)&&(decide ((nW l).length=(wq (ww l)).length)&&(nW l).all xR))&&
 (yq (w5 l)&&(decide ((wY l).length<=10)&&(wY l).all (oE (wq (ww l)).length)))
def bP (l:List CaD) (i:Nat):Bool:=(l.take i).any (fun x=>decide (Ux x=Ux (nth l i))&& !decide (x=nth l i))
def Ey (l:List CaD) (n:Nat):Bool:=(List.range n).any (bP l)
def cZ (l:List CaD):Bool:=Ey l l.length
def qA (l:LgD):Int:=if qg (ww l)≠0 then qg (ww l) else if du l=false then 70 else if cZ (wY l)=true then 71 else 0
def up (a b:Int):Int:=(a+b-1).tdiv b
def qk (m:Int) (b:BlD):BlD:=if m<=wJ (qU b)/\(dU b=false\/m<dV b) then(qU b,gn b,Ro b,Rp b,vW b,rF b,FX b,true,m,()) else b
def gQ (b:BlD):Int:=max 0 (gm (qU b)-max (wJ (qU b)) (Yl (gn b)))+max 0 (min (gm (qU b)) (jaZ (gn b))-wJ (qU b))
def nu (b:BlD):Int:=(vW b).length*Yk (gn b)*max (jcW (gn b)) (up (gm (qU b)-wJ (qU b)) (PQ (gn b)))
def b9 (b:BlD):Int:=nu b+up (nu b*FW (gn b)*gQ b) (100*(gm (qU b)-wJ (qU b)))
def db (a:Int) (b:BlD):Int:=(vW b).length*Ml (gn b)*a
def chargeB (a:Int) (b:BlD):BlD:=(qU b,gn b,Ro b,Rp b,vW b,b9 b,db a b,dU b,dV b,())
def eC (b:BlD) (n:NoD):Bool:=decide (gS n<=wJ (qU b)-dV b)
def Ez (b:BlD):Int:=yT (eC b) (qr (gn b))
def vJ (b:BlD):Int:=if dU b=true/\0<=Ez b then up (rF b*Yj (nth (qr (gn b)) (Ez b).toNat)) 100 else rF b
def yi (b:BlD):Int:=if dU b=true then 0 else FX b
def tU (b:BlD):Int:=min (PS (gn b)) (((vJ b+yi b)*nth (co (gn b)) (eE (gL (qU b))).toNat).tdiv 100)
def vK (b:BlD):LnD:=(Rp b,Ro b,vJ b,yi b,tU b,vJ b+yi b-tU b,())
def ve (m:Int) (b:BlD):Int:=Mm (vK (qk m b))
def FY (b:BlD):Prop:=yq (gn b)=true/\0<=wJ (qU b)/\wJ (qU b)<gm (qU b)/\gm (qU b)<=1440/\0<=eE (gL (qU b))/\eE (gL (qU b))<=3/\(vW b).length<=8/\-100000<=dV b/\dV b<=1440
def rB (b:BlD):Prop:=FY b/\0<=rF b/\rF b<=100000000000000/\0<=FX b/\FX b<=1000000000
def Mo (t:Int) (n:Nat):List Int:=((List.range n).filter (fun(p:Nat)=>qf t (p:Int))).map (fun(p:Nat)=>(p:Int))
def tV (l:LgD) (n:Int) (tm:List Int):BlD:=(nth (wq (ww l)) n.toNat,w5 l,n,nth (dt l) n.toNat,tm,0,0,false,0,())
def qL (l:LgD) (n:Int) (k:Nat):List Int:=Mo (nth (fV (ww l)) n.toNat) k
def ca (l:LgD) (n:Int):BlD:=chargeB (nth (nW l) n.toNat) (tV l n (qL l n (wj (wt (ww l))).length))
def aI (n:Int) (b:BlD) (c:CaD):BlD:=if jcX c=n then qk (PT c) b else b
def wv (l:LgD) (n:Int) (k:Nat):BlD:=((wY l).take k).foldl (aI n) (ca l n)
def wI (l:LgD) (n:Int):BlD:=wv l n (wY l).length
def jcY (l:LgD) (m:List (Int×Option BlD)) (n:Int):List (Int×Option BlD):=fY .int n (some (wI l n)) m
def A7 (l:LgD) (k:Nat):List (Int×Option BlD):=((wb (ww l)).take k).foldl (jcY l) []
def Uj (l:LgD):List (Int×Option BlD):=A7 l (wb (ww l)).length
def zDy:DyD:=((0,[],[],()),[],[],0,0,[],())
def zTa:TaD:=(0,0,0,0,0,0,0,0,[],[],())
def zLg:LgD:=(zDy,[],[],zTa,[],())
def je7:BoD:=(zLg,[],())
def qe (l:LgD) (qj:Bool):Int:=if qA l≠0 then qA l else if qj=true then 0 else 1
def qx (l:LgD) (qj:Bool):BoD:=if qe l qj=0 then(l,Uj l,()) else je7
def qX (o:BoD) (n:Int):Bool:=wa n 0 (((wq (ww (cY o))).length:Int)-1)
def gR (m:List (Int×Option BlD)):List LnD:=m.map (fun e=>match e.2 with|some b=>vK b|none=>default)
def EA (a b:LnD):Int:=gg [dr (Ym a) (Ym b),dr (jdf a) (jdf b)]
def wU (o:BoD):List LnD:=wd (we tLn fun x=>(EA x.1 x.2.1,())) (gR (Rq o))
def aN (l:List Int):Int:=l.foldl max (nth l 0)
def jag (t:List Int) (x:LnD):List Int:=t.set (Ym x).toNat (nth t (Ym x).toNat+Mm x)
def aQ (n:Nat) (l:List LnD) (k:Nat):List Int:=(l.take k).foldl jag (List.replicate n 0)
def Uk (o:BoD):List Int:=if(dt (cY o)).length=0 then[] else aQ (aN (dt (cY o))+1).toNat (wU o) (wU o).length
def Jf (a:Int) (tm:List Int) (out:List Int) (i:Nat):List Int:=out.set (nth tm i).toNat (nth out (nth tm i).toNat+a.tdiv tm.length+(if(i:Int)<a.tmod tm.length then 1 else 0))
def ql (a:Int) (tm out:List Int) (k:Nat):List Int:=(List.range k).foldl (Jf a tm) out
def jah (a:Int) (b:BlD) (out:List Int):List Int:=ql a (vW b) out (vW b).length
def jcZ (n:Nat):Option BlD->List Int
 |some b=>jah (yi b) b (jah (vJ b) b (List.replicate n 0))
 |none=>List.replicate n 0
def MA (o:BoD) (n:Int):Option BlD:=wQ none (wB .int n (Rq o))
def Ul (o:BoD) (n:Int):List Int:=jcZ (wj (wt (ww (cY o)))).length (MA o n)
end U
theorem IE {a b A B:Int} (d:0<=a/\a<=A) (c:0<=b/\b<=B):0<=a*b/\a*b<=A*B:=
 ⟨Int.mul_nonneg d.1 c.1,Int.mul_le_mul d.2 c.2 c.1 (by omega)⟩
theorem DP {x B:Int} (h:0<=x/\x<=B) (a:B<=9223372036854775807):wn x:=iZ6
theorem jeQ {a b:Int} (c:0<=a) (d:0<b):U.up a b=(a+b-1)/b:=kS (by omega)
theorem Lz {a b:Int} (e:0<=a) (c:0<b):0<=U.up a b/\U.up a b<=a:=by
 rw[jeQ e c];refine⟨Int.ediv_nonneg (by omega) (by omega),?_⟩;by_cases h:a=0;subst h;rw[kG (by omega) (by omega)];omega;have g:0<=(a-1)*(b-1):=Int.mul_nonneg (by omega) (by omega);have d:a+b-1<(a+1)*b:=by
  have f:(a+1)*b=a*b+b:=(by rw[Int.add_mul];omega);have e2:(a-1)*(b-1)=a*b-a-b+1:=(by rw[Int.sub_mul,Int.mul_sub];omega);omega
 have:=Int.ediv_lt_of_lt_mul c d;omega
theorem ZP {a b A:Int} (c:0<=a/\a<=A) (f:0<b):0<=a.tdiv b/\a.tdiv b<=A:=by
 rw[kS c.1];have d:=Int.ediv_nonneg c.1 (show 0<=b by omega);have e:=Int.ediv_le_self b c.1;exact⟨d,by omega⟩
theorem vb {n a b:Int}:wa n a b=true↔a<=n/\n<=b:=by
 unfold wa;simp only[ji,jp]
structure jeR (t:TaD):Prop where
 un:1<=PQ t/\PQ t<=240
 rt:0<=Yk t/\Yk t<=10000
 le:0<=jcW t/\jcW t<=20
 dk:0<=Yl t/\Yl t<=1440
 dw:0<=jaZ t/\jaZ t<=Yl t
 ni:0<=FW t/\FW t<=100
 mi:0<=Ml t/\Ml t<=10000
 sl:(co t).length=4
 sb:∀n∈co t,0<=n/\n<=100
 cp:0<=PS t/\PS t<=1000000
 nl:(qr t).length<=4
 no:xQ 100001 (qr t)=true
theorem cj {t:TaD}:yq t=true↔jeR t:=by
 unfold yq U.share;simp only[ji,vb,jp,jU];constructor;rintro⟨⟨⟨⟨⟨⟨⟨d,e⟩,f⟩,g⟩,h⟩,i⟩,j⟩,⟨⟨⟨k,l⟩,a⟩,b⟩,c⟩;exact⟨d,e,f,g,h,i,j,k,l,a,b,c⟩;rintro⟨d,e,f,g,h,i,j,k,l,a,b,c⟩;exact⟨⟨⟨⟨⟨⟨⟨d,e⟩,f⟩,g⟩,h⟩,i⟩,j⟩,⟨⟨⟨k,l⟩,a⟩,b⟩,c⟩
theorem iY:∀{last:Int} {l:List NoD},xQ last l=true->∀n∈l,(0<=gS n/\gS n<=last-1)/\0<=Yj n/\Yj n<=100
 |_,[],_,n,a=>by cases a
 |last,m::r,h,n,a=>by
  unfold xQ Je U.share at h
  simp only[ji,vb] at h
  obtain⟨⟨b,c⟩,d⟩:=h
  rcases jj.1 a with rfl|a
  exact⟨b,c⟩
  have:=iY d n a
  exact⟨⟨this.1.1,by omega⟩,this.2⟩
structure DQ (b:BlD):Prop where
 ta:jeR (gn b)
 st:0<=wJ (qU b)
 en:wJ (qU b)<gm (qU b)
 e2:gm (qU b)<=1440
 kd:0<=eE (gL (qU b))/\eE (gL (qU b))<=3
 tm:(vW b).length<=8
 mi: -100000<=dV b/\dV b<=1440
theorem tz {b:BlD}:FY b↔DQ b:=by
 unfold FY;rw[cj];exact⟨fun⟨a,c,d,e,f,g,h,i,j⟩=>⟨a,c,d,e,⟨f,g⟩,h,⟨i,j⟩⟩,fun⟨a,c,d,e,⟨f,g⟩,h,⟨i,j⟩⟩=>⟨a,c,d,e,f,g,h,i,j⟩⟩
theorem Q1 {b:BlD} (h:DQ b):0<=gQ b/\gQ b<=2880:=by
 have:=h.st;have:=h.en;have:=h.e2;have:=h.ta.dk;have:=h.ta.dw;unfold gQ;omega
theorem jd0 {b:BlD} (h:DQ b):0<=U.up (gm (qU b)-wJ (qU b)) (PQ (gn b))/\U.up (gm (qU b)-wJ (qU b)) (PQ (gn b))<=1440:=by
 have:=h.st;have:=h.en;have:=h.e2;have:=h.ta.un;have:=Lz (a:=gm (qU b)-wJ (qU b)) (b:=PQ (gn b)) (by omega) (by omega);omega
theorem jd1 {b:BlD} (h:DQ b):0<=((vW b).length:Int)*Yk (gn b)/\((vW b).length:Int)*Yk (gn b)<=80000:=
 IE (A:=8) (B:=10000) (by have:=h.tm;omega) h.ta.rt
theorem O3 {b:BlD} (h:DQ b):0<=nu b/\nu b<=115200000:=by
 have c:=jd0 h;have d:=h.ta.le;have a:0<=max (jcW (gn b)) (U.up (gm (qU b)-wJ (qU b)) (PQ (gn b)))/\max (jcW (gn b)) (U.up (gm (qU b)-wJ (qU b)) (PQ (gn b)))<=1440:=(by omega);exact IE (jd1 h) a
theorem jd2 {b:BlD} (h:DQ b):0<=nu b*FW (gn b)/\nu b*FW (gn b)<=11520000000:=IE (O3 h) h.ta.ni
theorem jaP {b:BlD} (h:DQ b):0<=nu b*FW (gn b)*gQ b/\nu b*FW (gn b)*gQ b<=33177600000000:=IE (jd2 h) (Q1 h)
theorem jd3 {b:BlD} (h:DQ b):0<100*(gm (qU b)-wJ (qU b))/\100*(gm (qU b)-wJ (qU b))<=144000:=by
 have:=h.st;have:=h.en;have:=h.e2;omega
theorem jd4 {b:BlD} (h:DQ b):0<=U.up (nu b*FW (gn b)*gQ b) (100*(gm (qU b)-wJ (qU b)))/\U.up (nu b*FW (gn b)*gQ b) (100*(gm (qU b)-wJ (qU b)))<=33177600000000:=by
 have a:=jaP h;have:=Lz a.1 (jd3 h).1;omega
theorem Xk {b:BlD} (h:DQ b):0<=b9 b/\b9 b<=100000000000000:=by
 have a:=O3 h;have c:=jd4 h;unfold b9;omega
theorem jd5 {b:BlD} (h:DQ b):0<=((vW b).length:Int)*Ml (gn b)/\((vW b).length:Int)*Ml (gn b)<=80000:=
 IE (A:=8) (B:=10000) (by have:=h.tm;omega) h.ta.mi
theorem Xl {b:BlD} {t:Int} (h:DQ b) (a:0<=t/\t<=300):0<=db t b/\db t b<=24000000:=IE (jd5 h) a
theorem DR {α:Type} [Inhabited α] {p:α->Bool} {l:List α} (h:0<=yT p l):(yT p l).toNat<l.length/\yT p l<(l.length:Int)/\p (nth l (yT p l).toNat)=true:=by
 unfold yT at h⊢;cases e:l.findIdx? p with
 |none=>rw[e] at h;exact absurd h (by decide)
 |some i=>
  obtain⟨a,b,_⟩:=zK.1 e;simp only[jw];refine⟨a,by omega,?_⟩;rw[L.qI a];exact b
structure LA (b:BlD):Prop where
 bl:DQ b
 wk:0<=rF b/\rF b<=100000000000000
 tr:0<=FX b/\FX b<=1000000000
theorem ck {b:BlD}:rB b↔LA b:=by
 unfold rB;rw[tz];exact⟨fun⟨a,c,d,e,f⟩=>⟨a,⟨c,d⟩,⟨e,f⟩⟩,fun⟨a,⟨c,d⟩,⟨e,f⟩⟩=>⟨a,c,d,e,f⟩⟩
theorem Q2 {b:BlD} (h:LA b) {i:Nat} (hi:i<(qr (gn b)).length):0<=rF b*Yj (nth (qr (gn b)) i)/\rF b*Yj (nth (qr (gn b)) i)<=10000000000000000:=
 IE h.wk (iY h.bl.ta.no _ (L.wi hi)).2
theorem Q3 {b:BlD} (h:LA b):0<=vJ b/\vJ b<=10000000000000000:=by
 unfold vJ
 split
 rename_i c;have a:=Q2 h (DR c.2).1;have:=Lz (b:=100) a.1 (by omega);have e:U.up (rF b*Yj (nth (qr (gn b)) (Ez b).toNat)) 100<=rF b*Yj (nth (qr (gn b)) (Ez b).toNat):=this.2;exact⟨this.1,kY e a.2⟩;have:=h.wk;omega
theorem Q4 {b:BlD} (h:LA b):0<=yi b/\yi b<=1000000000:=by
 unfold yi;have:=h.tr
 split<;>omega
theorem Xm {b:BlD} (h:DQ b):(eE (gL (qU b))).toNat<(co (gn b)).length:=by
 have:=h.kd;have:=h.ta.sl;omega
theorem jaQ {b:BlD} (h:DQ b):0<=nth (co (gn b)) (eE (gL (qU b))).toNat/\nth (co (gn b)) (eE (gL (qU b))).toNat<=100:=h.ta.sb _ (L.wi (Xm h))
theorem DS {w t cp pc k:Int} {n:Nat} {R:Prop} (i:0<=w/\w<=10000000000000000) (h:0<=t/\t<=1000000000) (g:0<=cp/\cp<=1000000) (e:0<=pc/\pc<=100) (hk:0<=k) (d:k<(n:Int)) (c:R):
 wn (w+t)/\0<=k/\k<(n:Int)/\wn ((w+t)*pc)/\(100:Int)≠0/\wn (((w+t)*pc).tdiv 100)/\wn (w+t)/\wn (w+t-min cp (((w+t)*pc).tdiv 100))/\R:=by
 have a:0<=(w+t)*pc/\(w+t)*pc<=10000001000000000*100:=IE (by omega) e;have f:=ZP (b:=100) a (by omega);exact⟨iZ6,hk,d,iZ6,by decide,iZ6,iZ6,iZ6,c⟩
theorem ZQ {b:BlD} {m:Int} (h:DQ b) (a: -100000<=m/\m<=1440):DQ (qk m b):=by
 unfold qk
 split
 exact⟨h.ta,h.st,h.en,h.e2,h.kd,h.tm,a⟩;exact h
theorem Bt {b:BlD} {m:Int} (h:LA b) (a: -100000<=m/\m<=1440):LA (qk m b):=by
 refine⟨ZQ h.bl a,?_,?_⟩;unfold qk
 split
 exact h.wk;exact h.wk;unfold qk
 split
 exact h.tr;exact h.tr
theorem Q5 {β:Type} (k:Int) (v:β):∀m:List (Int×β),k∉m.map (·.1)->fY .int k v m=m++[(k,v)]
 |[],_=>rfl
 |e::r,h=>by
  have a:k≠e.1:=fun e2=>h (by rw[e2];simp)
  have b:k∉r.map (·.1):=fun d=>h (by simp only[zx];exact jl _ d)
  rw[M.mput_cons (kt:= .int),jd (fun c=>a (ja c)),Q5 k v r b];rfl
theorem O4 (d:DyD) (n:Nat):(aH d n).Nodup:=by
 unfold aH;exact ku.2 ((List.nodup_range.filter _).imp fun h e=>h (by omega))
theorem uZ (d:DyD):(wb d).Nodup:=by
 unfold wb
 split
 exact O4 d _;exact kZ
theorem O5 {d:DyD} {n:Int} (h:n∈wb d):0<=n/\n<((wq d).length:Int):=by
 unfold wb at h
 split at h
 unfold aH at h;obtain⟨b,a,rfl⟩:=j6.1 h;have:=jG.1 (jX.1 a).1;omega;cases h
theorem LB {l:LgD} {k:Nat} (h:k<(wb (ww l)).length):A7 l (k+1)=jcY l (A7 l k) (nth (wb (ww l)) k):=by
 unfold A7;rw[L.wO h,jS];rfl
theorem Xn (l:LgD):∀k,k<=(wb (ww l)).length->A7 l k=((wb (ww l)).take k).map (fun n=>(n,some (wI l n)))
 |0,_=>rfl
 |k+1,hk=>by
  have a:k<(wb (ww l)).length:=by omega
  have d:=L.wO a
  have b:((wb (ww l)).take (k+1)).Nodup:=(uZ _).sublist (List.take_sublist _ _)
  rw[d,zG] at b
  rw[LB a,Xn l k (by omega),d,zw]
  unfold jcY
  refine Q5 _ _ _ fun c=> ?_
  rw[kK] at c
  obtain⟨x,f,e⟩:=j6.1 c
  have e:x=nth (wb (ww l)) k:=e
  exact b.2.2 x f _ (by simp) e
theorem GY (l:LgD):Uj l=(wb (ww l)).map (fun n=>(n,some (wI l n))):=by
 unfold Uj;rw[Xn l _ (jk _),zz]
structure u5 (l:LgD):Prop where
 cp:qg (ww l)=0
 crw:wu (wt (ww l))=true
 jbs:I8 (ww l)=true
 dy:qD (ww l)=true
 py:(dt l).length=(wq (ww l)).length/\∀n∈dt l,0<=n/\n<=20
 tr:(nW l).length=(wq (ww l)).length/\∀n∈nW l,0<=n/\n<=300
 ta:jeR (w5 l)
 cl:(wY l).length<=10/\∀c∈wY l,(0<=Ux c/\Ux c<=99)/\(0<=jcX c/\jcX c<=((wq (ww l)).length:Int)-1)/\-100000<=PT c/\PT c<=1440
 cc:cZ (wY l)=false
theorem Tu {d:DyD} (h:qg d=0):wu (wt d)=true/\I8 d=true/\qD d=true:=by
 unfold qg at h
 split at h
 rename_i a;exact absurd h a;rename_i a
 split at h
 cases h;rename_i b;have a:xi d=0:=jO.1 a;unfold xi at a
 split at a
 cases a;rename_i c
 split at a
 cases a;rename_i e;exact⟨by simpa using c,by simpa using e,by simpa using b⟩
theorem ee {l:LgD} (h:qA l=0):u5 l:=by
 unfold qA at h
 split at h
 rename_i a;exact absurd h a;rename_i a;have a:qg (ww l)=0:=jO.1 a
 split at h
 cases h;rename_i b
 split at h
 cases h;rename_i d;have b:du l=true:=(by simpa using b);have d:cZ (wY l)=false:=(by simpa using d);obtain⟨p,q,r⟩:=Tu a;unfold du at b;simp only[ji,jp,jU] at b;obtain⟨⟨⟨f,g⟩,i,j⟩,k,m,o⟩:=b;refine⟨a,p,q,r,⟨f,fun n e=>vb.1 (g n e)⟩,⟨i,fun n e=>vb.1 (j n e)⟩,cj.1 k,⟨m,fun c s=> ?_⟩,d⟩;have:=o c s;unfold oE at this;simp only[ji,vb] at this;exact⟨this.1.1,this.1.2,this.2⟩
theorem cN {l:LgD} (h:u5 l) {n:Int} (e:0<=n/\n<((wq (ww l)).length:Int)):
 (0<=wJ (nth (wq (ww l)) n.toNat)/\wJ (nth (wq (ww l)) n.toNat)<gm (nth (wq (ww l)) n.toNat)/\gm (nth (wq (ww l)) n.toNat)<=1440)/\
 0<=eE (gL (nth (wq (ww l)) n.toNat))/\eE (gL (nth (wq (ww l)) n.toNat))<=3:=by
 have d:nth (wq (ww l)) n.toNat∈wq (ww l):=L.wi (by omega);have c:=h.dy;unfold qD at c;simp only[ji,jU] at c;have b:=c.2.2.1 _ d;unfold nc at b;have b:=ja b;have a:=h.jbs;unfold I8 at a;have a:=jU.1 a _ d;unfold qb at a;have a:=ja a;exact⟨⟨b.2.2.1,b.2.2.2.1,b.2.2.2.2⟩,a.2.2.2.2.2.2.2.2.2.1,a.2.2.2.2.2.2.2.2.2.2.1⟩
theorem Q6 {l:LgD} (h:u5 l) {n:Int} (e:0<=n/\n<((wq (ww l)).length:Int)) {tm:List Int} (f:tm.length<=8):DQ (tV l n tm):=by
 obtain⟨⟨a,b,c⟩,d⟩:=cN h e;exact⟨h.ta,a,b,c,d,f,by show-100000<=(0:Int)/\(0:Int)<=1440;omega⟩
theorem tA (t:Int) (n:Nat):(Mo t n).length<=n/\∀p∈Mo t n,0<=p/\p<(n:Int):=by
 unfold Mo;refine⟨?_,fun p c=> ?_⟩;rw[zj];exact jF (zF _ _) (by rw[zO];exact jk _);obtain⟨b,a,rfl⟩:=j6.1 c;have:=jG.1 (jX.1 a).1;omega
theorem jeS {l:LgD} (h:u5 l):(wj (wt (ww l))).length<=8:=by
 have a:=h.crw;unfold wu at a;rw[ji] at a;exact(ja a.1).2.2.1
theorem IF {l:LgD} (h:u5 l) {n:Int} (d:0<=n/\n<((wq (ww l)).length:Int)):LA (ca l n):=by
 have g:=jeS h;have f:=(tA (nth (fV (ww l)) n.toNat) (wj (wt (ww l))).length).1;have a:DQ (tV l n (qL l n (wj (wt (ww l))).length)):=Q6 h d (by unfold qL;omega);have e:=h.tr.2 _ (L.wi (show n.toNat<(nW l).length by rw[h.tr.1];omega));have c:=Xk a;have b:=Xl a e;exact⟨⟨a.ta,a.st,a.en,a.e2,a.kd,a.tm,a.mi⟩,c,⟨b.1,kY b.2 (by decide)⟩⟩
theorem dQ {l:LgD} {n:Int} {k:Nat} (h:k<(wY l).length):wv l n (k+1)=aI n (wv l n k) (nth (wY l) k):=by
 unfold wv;rw[L.wO h,jS];rfl
theorem GZ {l:LgD} (h:u5 l) {n:Int} (a:0<=n/\n<((wq (ww l)).length:Int)):∀k,k<=(wY l).length->LA (wv l n k)
 |0,_=>IF h a
 |k+1,hk=>by
  rw[dQ (by omega)]
  unfold aI
  have b:=GZ h a k (by omega)
  split
  exact Bt b (h.cl.2 _ (L.wi (show k<(wY l).length by omega))).2.2
  exact b
theorem DT {l:LgD} (h:u5 l) {n:Int} (a:0<=n/\n<((wq (ww l)).length:Int)):LA (wI l n):=GZ h a _ (jk _)
theorem nT (m:Int) (b:BlD):qU (qk m b)=qU b/\gn (qk m b)=gn b/\Ro (qk m b)=Ro b/\Rp (qk m b)=Rp b/\vW (qk m b)=vW b/\rF (qk m b)=rF b/\FX (qk m b)=FX b:=by
 unfold qk
 split
 exact⟨rfl,rfl,rfl,rfl,rfl,rfl,rfl⟩;exact⟨rfl,rfl,rfl,rfl,rfl,rfl,rfl⟩
theorem yJ (l:LgD) (n:Int):∀k,k<=(wY l).length->qU (wv l n k)=qU (ca l n)/\gn (wv l n k)=gn (ca l n)/\Ro (wv l n k)=Ro (ca l n)/\Rp (wv l n k)=Rp (ca l n)/\vW (wv l n k)=vW (ca l n)/\
 rF (wv l n k)=rF (ca l n)/\FX (wv l n k)=FX (ca l n)
 |0,_=>⟨rfl,rfl,rfl,rfl,rfl,rfl,rfl⟩
 |k+1,hk=>by
  rw[dQ (by omega)]
  unfold aI
  have a:=yJ l n k (by omega)
  split
  obtain⟨c1,c2,b,c,d,e,f⟩:=nT (PT (nth (wY l) k)) (wv l n k)
  rw[c1,c2,b,c,d,e,f];exact a
  exact a
abbrev blS:Sh:= .box 85 [.dat .int,.dat .int,.dat .int,.dat .int,.dat .int,.dat .int,.dat .int,.dat .int,.dat .int,.dat .int,.dat .int,.dat .int,.dat .int,.dat .int,.dat .int,.dat .int,.dat .int,.dat (.slice .int),.dat (.slice tNo),.dat .int,.dat .int,.dat (.slice .int),.dat .int,.dat .int,.dat .bool,.dat .int]
def blX (x:Sh.D blS) (w t:Int) (c:Bool) (m:Int):Sh.D blS:=(x.1,x.2.1,x.2.2.1,x.2.2.2.1,x.q4.1,x.q4.2.1,x.q4.2.2.1,x.q4.2.2.2.1,x.q4.q4.1,x.q4.q4.2.1,x.q4.q4.2.2.1,x.q4.q4.2.2.2.1,x.q4.q4.q4.1,x.q4.q4.q4.2.1,x.q4.q4.q4.2.2.1,x.q4.q4.q4.2.2.2.1,x.q4.q4.q4.q4.1,x.q4.q4.q4.q4.2.1,x.q4.q4.q4.q4.2.2.1,x.q4.q4.q4.q4.2.2.2.1,x.q4.q4.q4.q4.q4.1,x.q4.q4.q4.q4.q4.2.1,w,t,c,m,())
namespace U
def vE (x:Sh.D blS):BlD:=
 (((x.1,x.2.1,x.2.2.1,x.2.2.2.1,x.q4.1,x.q4.2.1,()),x.q4.2.2.1,x.q4.2.2.2.1,x.q4.q4.1,()),
  (x.q4.q4.2.1,x.q4.q4.2.2.1,x.q4.q4.2.2.2.1,x.q4.q4.q4.1,x.q4.q4.q4.2.1,x.q4.q4.q4.2.2.1,x.q4.q4.q4.2.2.2.1,x.q4.q4.q4.q4.1,x.q4.q4.q4.q4.2.1,x.q4.q4.q4.q4.2.2.1,()),
  x.q4.q4.q4.q4.2.2.2.1,x.q4.q4.q4.q4.q4.1,x.q4.q4.q4.q4.q4.2.1,x.q4.q4.q4.q4.q4.2.2.1,x.q4.q4.q4.q4.q4.2.2.2.1,x.q4.q4.q4.q4.q4.q4.1,x.q4.q4.q4.q4.q4.q4.2.1,())
def X6 (m:Int) (b:BlD):Bool:=dU (qk m b)
def X7 (m:Int) (b:BlD):Int:=dV (qk m b)
def X8 (m:Int) (c:CaD):Bool:=(wa (Ux c) 0 99&&wa (jcX c) 0 (m-1))&&wa (PT c) (-100000) 1440
end U
def bg:wS:=⟨[.val .int,.val .int,.val .int],[.bool],false,fun _=>[],fun d=>(wa d.1 d.2.1 d.2.2.1,())⟩
def O6:Prop:=∀(d:CaD),(decide (d.2.1<=d.1)&&decide (d.1<=d.2.2.1),())=(wa d.1 d.2.1 d.2.2.1,())
def cx:wS:=⟨[.val .int],[.bool],false,fun _=>[],fun d=>(U.share d.1,())⟩
def Tv:Prop:=∀(d:Int×Unit),(wa d.1 (0:Int) (100:Int),())=(U.share d.1,())
def lO:wS:=⟨[.val (.slice tNo),.fn [tNo] [.bool]],[.int],false,fun d=>[∀g∈d.1,wz (d.2.1.pre (g,()))],fun d=>(yT (wc (α:=NoD) d.2.1.F) d.1,())⟩
def lP:Ann:=fun r=>match r with
 |2=>some fun σ=>{X:=Nat,sl:=fun i=>[(8,.dat .int (i:Int))],ob:=fun _=>[],inv:=fun i=>i<=(gd (.slice tNo) σ 0).length/\∀b:Nat,b<i->wc (gfb tNo σ 1) (nth (gd (.slice tNo) σ 0) b)=false,mu:=fun i=>(gd (.slice tNo) σ 0).length-i}
 |_=>none
def lQ:Prop:=∀(d:List (Int×Int×Unit)×FnD [tNo] [Ty.bool]×Unit),(∀(g:Int×Int×Unit),g∈d.1->wz (d.2.1.1 (g,())))->d.1.length<4611686018427387904->(∃(x:Nat),((0=(x:Int)/\True)/\True)/\x<=d.1.length/\∀(b:Nat),b<x->wc d.2.1.2 (nth d.1 b)=false)/\∀(x:Nat),(x<=d.1.length/\∀(b:Nat),b<x->wc d.2.1.2 (nth d.1 b)=false)->(decide ((x:Int)<d.1.length)=true->0<=(x:Int)/\(x:Int)<d.1.length/\asks (d.2.1.1 (nth d.1 x,())) (((d.2.1.2 (nth d.1 x,())).1=true->((x:Int),())=(yT (wc d.2.1.2) d.1,()))/\((d.2.1.2 (nth d.1 x,())).1=false->wn ((x:Int)+1)/\∃(a:Nat),(((x:Int)+1=(a:Int)/\True)/\True)/\(a<=d.1.length/\∀(b:Nat),b<a->wc d.2.1.2 (nth d.1 b)=false)/\d.1.length-a<d.1.length-x)))/\(decide ((x:Int)<d.1.length)=false->((-1:Int),())=(yT (wc d.2.1.2) d.1,()))
def ox:wS:=⟨[.val (.slice tCa),.fn [tCa] [.bool]],[.int],false,fun d=>[∀g∈d.1,wz (d.2.1.pre (g,()))],fun d=>(yT (wc (α:=CaD) d.2.1.F) d.1,())⟩
def oy:Ann:=fun r=>match r with
 |2=>some fun σ=>{X:=Nat,sl:=fun i=>[(8,.dat .int (i:Int))],ob:=fun _=>[],inv:=fun i=>i<=(gd (.slice tCa) σ 0).length/\∀b:Nat,b<i->wc (gfb tCa σ 1) (nth (gd (.slice tCa) σ 0) b)=false,mu:=fun i=>(gd (.slice tCa) σ 0).length-i}
 |_=>none
def oz:Prop:=∀(d:List CaD×FnD [tCa] [Ty.bool]×Unit),(∀(g:CaD),g∈d.1->wz (d.2.1.1 (g,())))->d.1.length<4611686018427387904->(∃(x:Nat),((0=(x:Int)/\True)/\True)/\x<=d.1.length/\∀(b:Nat),b<x->wc d.2.1.2 (nth d.1 b)=false)/\∀(x:Nat),(x<=d.1.length/\∀(b:Nat),b<x->wc d.2.1.2 (nth d.1 b)=false)->(decide ((x:Int)<d.1.length)=true->0<=(x:Int)/\(x:Int)<d.1.length/\asks (d.2.1.1 (nth d.1 x,())) (((d.2.1.2 (nth d.1 x,())).1=true->((x:Int),())=(yT (wc d.2.1.2) d.1,()))/\((d.2.1.2 (nth d.1 x,())).1=false->wn ((x:Int)+1)/\∃(a:Nat),(((x:Int)+1=(a:Int)/\True)/\True)/\(a<=d.1.length/\∀(b:Nat),b<a->wc d.2.1.2 (nth d.1 b)=false)/\d.1.length-a<d.1.length-x)))/\(decide ((x:Int)<d.1.length)=false->((-1:Int),())=(yT (wc d.2.1.2) d.1,()))
def iZ:wS:=⟨[.val (.slice tCa),.fn [tCa] [.bool]],[.bool],false,fun d=>[∀g∈d.1,wz (d.2.1.pre (g,()))],fun d=>(d.1.any (wc (α:=CaD) d.2.1.F),())⟩
def i7:Prop:=∀(d:List CaD×FnD [tCa] [Ty.bool]×Unit),(∀(g:CaD),g∈d.1->wz (d.2.1.1 (g,())))->(∀(g:CaD),g∈d.1->wz (d.2.1.1 (g,())))/\(decide (0<=yT (wc d.2.1.2) d.1),())=(d.1.any (wc d.2.1.2),())
def AF:wS:=⟨[.val .int,.rfn [.int] [.bool]],[.bool],false,fun d=>[wz (d.2.1.pre (d.1,()))],fun d=>(!(wc (α:=Int) d.2.1.F d.1),())⟩
def AG:Prop:=∀(d:Int×FnD [Ty.int] [Ty.bool]×Unit),wz (d.2.1.1 (d.1,()))->asks (d.2.1.1 (d.1,())) ((!(d.2.1.2 (d.1,())).1,())=(!wc d.2.1.2 d.1,()))
def eg:wS:=⟨[.val (.slice .int),.fn [.int] [.bool]],[.bool],false,fun d=>[∀g∈d.1,wz (d.2.1.pre (g,()))],fun d=>(d.1.all (wc (α:=Int) d.2.1.F),())⟩
def Fr:Prop:=∀(d:List Int×FnD [Ty.int] [Ty.bool]×Unit),(∀(g:Int),g∈d.1->wz (d.2.1.1 (g,())))->(∀(g:Int),g∈d.1->wz [wz (d.2.1.1 (g,()))])/\(!d.1.any (wc fun(a:Int×Unit)=>(!wc d.2.1.2 a.1,())),())=(d.1.all (wc d.2.1.2),())
def u6:wS:=⟨[.val tCa,.rfn [tCa] [.bool]],[.bool],false,fun d=>[wz (d.2.1.pre (d.1,()))],fun d=>(!(wc (α:=CaD) d.2.1.F d.1),())⟩
def u7:Prop:=∀(d:CaD×FnD [tCa] [Ty.bool]×Unit),wz (d.2.1.1 (d.1,()))->asks (d.2.1.1 (d.1,())) ((!(d.2.1.2 (d.1,())).1,())=(!wc d.2.1.2 d.1,()))
def DU:wS:=⟨[.val (.slice tCa),.fn [tCa] [.bool]],[.bool],false,fun d=>[∀g∈d.1,wz (d.2.1.pre (g,()))],fun d=>(d.1.all (wc (α:=CaD) d.2.1.F),())⟩
def DV:Prop:=∀(d:List CaD×FnD [tCa] [Ty.bool]×Unit),(∀(g:CaD),g∈d.1->wz (d.2.1.1 (g,())))->(∀(g:CaD),g∈d.1->wz [wz (d.2.1.1 (g,()))])/\(!d.1.any (wc fun(a:CaD×Unit)=>(!wc d.2.1.2 a.1,())),())=(d.1.all (wc d.2.1.2),())
def LC:wS:=⟨[.val tCa,.ref .int],[.bool],false,fun d=>[0<=d.2.1,d.2.1<=4611686018427387904],fun d=>(X8 d.2.1 d.1,())⟩
def LD:Prop:=∀(d:CaD×Int×Unit),0<=d.2.1->d.2.1<=4611686018427387904->(wa d.1.1 (0:Int) 99=true->wn (d.2.1-1))/\(wa d.1.1 (0:Int) (99:Int)&&wa d.1.2.1 (0:Int) (d.2.1-1)&&wa d.1.2.2.1 (-100000:Int) (1440:Int),())=(X8 d.2.1 d.1,())
def LF:wS:=⟨[.val .int],[.bool],false,fun _=>[],fun d=>(Mn d.1,())⟩
def LG:Prop:=∀(d:Int×Unit),(wa d.1 (0:Int) (20:Int),())=(Mn d.1,())
def LH:wS:=⟨[.val .int],[.bool],false,fun _=>[],fun d=>(xR d.1,())⟩
def LI:Prop:=∀(d:Int×Unit),(wa d.1 (0:Int) (300:Int),())=(xR d.1,())
def jcu:wS:=⟨[.val .int,.val .int],[.int],false,fun d=>[0<=d.1,0<d.2.1,d.1<=4611686018427387904,d.2.1<=1000000000],fun d=>(U.up d.1 d.2.1,())⟩
def jcv:Prop:=∀(d:Int×Int×Unit),0<=d.1->0<d.2.1->d.1<=4611686018427387904->d.2.1<=1000000000->wn (d.1+d.2.1)/\wn (d.1+d.2.1-1)/\d.2.1≠0/\wn ((d.1+d.2.1-1).tdiv d.2.1)/\((d.1+d.2.1-1).tdiv d.2.1,())=(U.up d.1 d.2.1,())
def O7:wS:=⟨[.val tBo],[.bool],false,fun _=>[],fun _=>(true,())⟩
def O8:Prop:=∀(_:BoD×Unit),(true,())=(true,())
def tB:wS:=⟨[.val tBo,.val .int],[.bool],false,fun d=>[(wq (ww (cY d.1))).length<=100],fun d=>(qX d.1 d.2.1,())⟩
def tC:Prop:=∀(d:BoD×Int×Unit),(wq (ww (cY d.1))).length<=100->d.1.1.1.2.2.1.length<4611686018427387904->wn ((d.1.1.1.2.2.1.length:Int)-1)/\(wa d.2.1 (0:Int) ((d.1.1.1.2.2.1.length:Int)-1),())=(qX d.1 d.2.1,())
def DW:wS:=⟨[.ref tBl],[.int],false,fun d=>[FY d.1],fun d=>(gQ d.1,())⟩
abbrev jjn (d:BlD×Unit):=(min d.1.1.2.2.2.1 d.1.2.1.q4.1-d.1.1.2.2.1)
abbrev jjo (d:BlD×Unit):=(d.1.1.2.2.2.1-max d.1.1.2.2.1 d.1.2.1.2.2.2.1)
def DX:Prop:=∀(d:BlD×Unit),FY d.1->wn (jjo d)/\wn (jjn d)/\wn (max (0:Int) (jjo d)+max (0:Int) (jjn d))/\(max (0:Int) (jjo d)+max (0:Int) (jjn d),())=(gQ d.1,())
def AH:vi:=⟨[.own blS true,.val .int],[],fun d=>[FY (vE d.1),0<=d.2.1,d.2.1<=300],fun d=>((),(blX d.1 (b9 (vE d.1)) (db d.2.1 (vE d.1)) (dU (vE d.1)) (dV (vE d.1)),()))⟩
abbrev jhd (d:XbD×Int×Unit):=(d.1.q4.q4.1-d.1.q4.2.2.2.1)
abbrev jgY (d:XbD×Int×Unit):=(U.up (jhd d) d.1.q4.q4.2.1)
abbrev jgk (d:XbD×Int×Unit):=d.1.q4.q4.2.2.2.1
abbrev jgb (d:XbD×Int×Unit):=d.1.q4.q4.2.2.1
abbrev jhe (d:XbD×Int×Unit):=d.1.q4.q4.q4.2.2.1
abbrev jhD (d:XbD×Int×Unit):=d.1.q4.q4.q4.2.2.2.1
abbrev jiK (d:XbD×Int×Unit):=d.1.q4.q4.q4.q4.q4.2.1
abbrev jgc (d:XbD×Int×Unit):=((jiK d).length:Int)
abbrev jjp (d:XbD×Int×Unit):=d.1.q4.q4.q4.q4.q4.1
abbrev jjq (d:XbD×Int×Unit):=d.1.q4.q4.q4.q4.2.2.2.1
abbrev jiL (d:XbD×Int×Unit):=(((d.1.1,d.1.2.1,d.1.2.2.1,d.1.2.2.2.1,d.1.q4.1,d.1.q4.2.1,()),d.1.q4.2.2.1,d.1.q4.2.2.2.1,d.1.q4.q4.1,()),(d.1.q4.q4.2.1,(jgb d),(jgk d),d.1.q4.q4.q4.1,d.1.q4.q4.q4.2.1,(jhe d),(jhD d),d.1.q4.q4.q4.q4.1,d.1.q4.q4.q4.q4.2.1,d.1.q4.q4.q4.q4.2.2.1,()),(jjq d),(jjp d),(jiK d),(jgc d)*(jgb d)*max (jgk d) (jgY d),d.1.q4.q4.q4.q4.q4.2.2.2)
abbrev jjr (d:XbD×Int×Unit):=((jgc d)*(jgb d)*max (jgk d) (jgY d)*(jhe d)*gQ (jiL d))
def AI:Prop:=∀(d:XbD×Int×Unit),FY (vE d.1)->0<=d.2.1->d.2.1<=300->wn (jhd d)/\wn ((jgc d)*(jgb d))/\0<=d.1.q4.q4.1-d.1.q4.2.2.2.1/\0<d.1.q4.q4.2.1/\d.1.q4.q4.1-d.1.q4.2.2.2.1<=4611686018427387904/\d.1.q4.q4.2.1<=1000000000/\wn ((jgc d)*(jgb d)*max (jgk d) (jgY d))/\wn ((jgc d)*(jgb d)*max (jgk d) (jgY d)*(jhe d))/\FY (jiL d)/\wn (jjr d)/\wn ((100:Int)*(jhd d))/\0<=(jgc d)*(jgb d)*max (jgk d) (jgY d)*(jhe d)*gQ (jiL d)/\(0:Int)<100*(jhd d)/\(jgc d)*(jgb d)*max (jgk d) (jgY d)*(jhe d)*gQ (jiL d)<=4611686018427387904/\(100:Int)*(jhd d)<=1000000000/\wn ((jgc d)*(jgb d)*max (jgk d) (jgY d)+U.up (jjr d) ((100:Int)*(jhd d)))/\wn ((jgc d)*(jhD d))/\wn ((jgc d)*(jhD d)*d.2.1)/\()=()/\((d.1.1,d.1.2.1,d.1.2.2.1,d.1.2.2.2.1,d.1.q4.1,d.1.q4.2.1,d.1.q4.2.2.1,d.1.q4.2.2.2.1,d.1.q4.q4.1,d.1.q4.q4.2.1,(jgb d),(jgk d),d.1.q4.q4.q4.1,d.1.q4.q4.q4.2.1,(jhe d),(jhD d),d.1.q4.q4.q4.q4.1,d.1.q4.q4.q4.q4.2.1,d.1.q4.q4.q4.q4.2.2.1,(jjq d),(jjp d),(jiK d),(jgc d)*(jgb d)*max (jgk d) (jgY d)+U.up (jjr d) ((100:Int)*(jhd d)),(jgc d)*(jhD d)*d.2.1,d.1.q4.q4.q4.q4.q4.q4),())=((d.1.1,d.1.2.1,d.1.2.2.1,d.1.2.2.2.1,d.1.q4.1,d.1.q4.2.1,d.1.q4.2.2.1,d.1.q4.2.2.2.1,d.1.q4.q4.1,d.1.q4.q4.2.1,(jgb d),(jgk d),d.1.q4.q4.q4.1,d.1.q4.q4.q4.2.1,(jhe d),(jhD d),d.1.q4.q4.q4.q4.1,d.1.q4.q4.q4.q4.2.1,d.1.q4.q4.q4.q4.2.2.1,(jjq d),(jjp d),(jiK d),b9 (vE d.1),db d.2.1 (vE d.1),dU (vE d.1),dV (vE d.1),()),())
def Fs:vi:=⟨[.own blS true,.val .int],[],fun _=>[],fun d=>((),(blX d.1 (rF (vE d.1)) (FX (vE d.1)) (X6 d.2.1 (vE d.1)) (X7 d.2.1 (vE d.1)),()))⟩
abbrev jkj (d:XbD×Int×Unit):=((d.1.1,d.1.2.1,d.1.2.2.1,d.1.2.2.2.1,d.1.q4.1,d.1.q4.2.1,d.1.q4.2.2.1,d.1.q4.2.2.2.1,d.1.q4.q4.1,d.1.q4.q4.2.1,d.1.q4.q4.2.2.1,d.1.q4.q4.2.2.2.1,d.1.q4.q4.q4.1,d.1.q4.q4.q4.2.1,d.1.q4.q4.q4.2.2.1,d.1.q4.q4.q4.2.2.2.1,d.1.q4.q4.q4.q4.1,d.1.q4.q4.q4.q4.2.1,d.1.q4.q4.q4.q4.2.2.1,d.1.q4.q4.q4.q4.2.2.2.1,d.1.q4.q4.q4.q4.q4.1,d.1.q4.q4.q4.q4.q4.2.1,rF (vE d.1),FX (vE d.1),X6 d.2.1 (vE d.1),X7 d.2.1 (vE d.1),()),())
abbrev jkk (d:XbD×Int×Unit):=(decide (d.2.1<=d.1.q4.2.2.2.1)&&(!d.1.q4.q4.q4.q4.q4.q4.1||decide (d.2.1<d.1.q4.q4.q4.q4.q4.q4.2.1)))
def Ft:Prop:=∀(d:XbD×Int×Unit),((jkk d)=true->()=()/\((d.1.1,d.1.2.1,d.1.2.2.1,d.1.2.2.2.1,d.1.q4.1,d.1.q4.2.1,d.1.q4.2.2.1,d.1.q4.2.2.2.1,d.1.q4.q4.1,d.1.q4.q4.2.1,d.1.q4.q4.2.2.1,d.1.q4.q4.2.2.2.1,d.1.q4.q4.q4.1,d.1.q4.q4.q4.2.1,d.1.q4.q4.q4.2.2.1,d.1.q4.q4.q4.2.2.2.1,d.1.q4.q4.q4.q4.1,d.1.q4.q4.q4.q4.2.1,d.1.q4.q4.q4.q4.2.2.1,d.1.q4.q4.q4.q4.2.2.2.1,d.1.q4.q4.q4.q4.q4.1,d.1.q4.q4.q4.q4.q4.2.1,d.1.q4.q4.q4.q4.q4.2.2.1,d.1.q4.q4.q4.q4.q4.2.2.2.1,true,d.2),())=(jkj d))/\((jkk d)=false->()=()/\(d.1,())=(jkj d))
def AJ:wS:=⟨[.val tNo,.ref tBl],[.bool],false,fun d=>[FY d.2.1],fun d=>(eC d.2.1 d.1,())⟩
def AK:Prop:=∀(d:(Int×Int×Unit)×BlD×Unit),FY d.2.1->wn (d.2.1.1.2.2.1-d.2.1.q4.q4.1)/\(decide (d.1.1<=d.2.1.1.2.2.1-d.2.1.q4.q4.1),())=(eC d.2.1 d.1,())
def Fu:wS:=⟨[.val tBl],[tLn],false,fun d=>[rB d.1],fun d=>(vK d.1,())⟩
abbrev jh8 (d:BlD×Unit):=(wc fun(a:(Int×Int×Unit)×Unit)=>(eC d.1 a.1,()))
abbrev jgF (d:BlD×Unit):=d.1.2.1.q4.2.2.2.1
abbrev jgZ (d:BlD×Unit):=d.1.2.1.q4.q4.2.1
abbrev jjs (d:BlD×Unit):=(nth (jgZ d) (yT (jh8 d) (jgZ d)).toNat)
abbrev jf1 (d:BlD×Unit):=d.1.q4.2.1
abbrev jh9 (d:BlD×Unit):=(((jf1 d)+d.1.q4.2.2.1)*nth d.1.2.1.q4.q4.1 d.1.1.1.q4.1.toNat)
abbrev jia (d:BlD×Unit):=(((jf1 d)+0)*nth d.1.2.1.q4.q4.1 d.1.1.1.q4.1.toNat)
abbrev jhf (d:BlD×Unit):=((jf1 d)*(jjs d).2.1)
abbrev jib (d:BlD×Unit):=((U.up (jhf d) (100:Int)+0)*nth d.1.2.1.q4.q4.1 d.1.1.1.q4.1.toNat)
abbrev jjt (d:BlD×Unit):=(d.1.2.1.q4.q4.1.length:Int)
def Fv:Prop:=∀(d:BlD×Unit),rB d.1->(d.1.q4.2.2.2.1=true->(∀(g:Int×Int×Unit),g∈(jgZ d)->wz [FY d.1])/\(decide (0<=yT (jh8 d) (jgZ d))=true->0<=yT (jh8 d) (jgZ d)/\yT (jh8 d) (jgZ d)<((jgZ d).length:Int)/\wn (jhf d)/\0<=(jf1 d)*(jjs d).2.1/\(0:Int)<100/\(jf1 d)*(jjs d).2.1<=4611686018427387904/\(100:Int)<=1000000000/\wn (U.up (jhf d) (100:Int)+0)/\0<=d.1.1.1.q4.1/\d.1.1.1.q4.1<(jjt d)/\wn (jib d)/\(100:Int)≠0/\wn ((jib d).tdiv (100:Int))/\wn (U.up (jhf d) (100:Int)+0)/\wn (U.up (jhf d) (100:Int)+0-min (jgF d) ((jib d).tdiv (100:Int)))/\((d.1.2.2.2.1,d.1.2.2.1,U.up (jhf d) (100:Int),(0:Int),min (jgF d) ((jib d).tdiv (100:Int)),U.up (jhf d) (100:Int)+0-min (jgF d) ((jib d).tdiv (100:Int)),()),())=(vK d.1,()))/\(decide (0<=yT (jh8 d) (jgZ d))=false->wn ((jf1 d)+0)/\0<=d.1.1.1.q4.1/\d.1.1.1.q4.1<(jjt d)/\wn (jia d)/\(100:Int)≠0/\wn ((jia d).tdiv (100:Int))/\wn ((jf1 d)+0)/\wn ((jf1 d)+0-min (jgF d) ((jia d).tdiv (100:Int)))/\((d.1.2.2.2.1,d.1.2.2.1,(jf1 d),(0:Int),min (jgF d) ((jia d).tdiv (100:Int)),(jf1 d)+0-min (jgF d) ((jia d).tdiv (100:Int)),()),())=(vK d.1,())))/\(d.1.q4.2.2.2.1=false->wn ((jf1 d)+d.1.q4.2.2.1)/\0<=d.1.1.1.q4.1/\d.1.1.1.q4.1<(jjt d)/\wn (jh9 d)/\(100:Int)≠0/\wn ((jh9 d).tdiv (100:Int))/\wn ((jf1 d)+d.1.q4.2.2.1)/\wn ((jf1 d)+d.1.q4.2.2.1-min (jgF d) ((jh9 d).tdiv (100:Int)))/\((d.1.2.2.2.1,d.1.2.2.1,(jf1 d),d.1.q4.2.2.1,min (jgF d) ((jh9 d).tdiv (100:Int)),(jf1 d)+d.1.q4.2.2.1-min (jgF d) ((jh9 d).tdiv (100:Int)),()),())=(vK d.1,()))
def AL:wS:=⟨[.val tBl,.val .int],[.int],false,fun d=>[rB d.1,-100000<=d.2.1,d.2.1<=1440],fun d=>(ve d.2.1 d.1,())⟩
abbrev jiM (d:BlD×Int×Unit):=(vE (d.1.1.1.1,d.1.1.1.2.1,d.1.1.1.2.2.1,d.1.1.1.2.2.2.1,d.1.1.1.q4.1,d.1.1.1.q4.2.1,d.1.1.2.1,d.1.1.2.2.1,d.1.1.2.2.2.1,d.1.2.1.1,d.1.2.1.2.1,d.1.2.1.2.2.1,d.1.2.1.2.2.2.1,d.1.2.1.q4.1,d.1.2.1.q4.2.1,d.1.2.1.q4.2.2.1,d.1.2.1.q4.2.2.2.1,d.1.2.1.q4.q4.1,d.1.2.1.q4.q4.2.1,d.1.2.2))
abbrev jkl (d:BlD×Int×Unit):=(d.1.1,d.1.2.1,d.1.2.2.1,d.1.2.2.2.1,d.1.q4.1,rF (jiM d),FX (jiM d),X6 d.2.1 (jiM d),X7 d.2.1 (jiM d),())
def AM:Prop:=∀(d:BlD×Int×Unit),rB d.1->(-100000:Int)<=d.2.1->d.2.1<=1440->rB (jkl d)/\(vK (jkl d)).q4.2=(ve d.2.1 d.1,())
theorem Tw:O6:=fun _=>rfl
theorem yS:wZ PR 37 bg:=wL Tw Tryz.func37 kcN koN
theorem Xo:Tv:=fun _=>rfl
theorem G0:wZ PR 87 cx:=wL Xo Tryz.func87 (kcC yS kcN) koN
theorem mZ:lQ:=by
 rintro⟨l,f,⟨⟩⟩ a g;refine⟨⟨0,⟨⟨rfl,tZ⟩,tZ⟩,jm _,fun b c=>by omega⟩,fun i hi=>⟨fun h=> ?_,fun h=> ?_⟩⟩;have h:i<l.length:=(by simpa using h);simp only at*;refine⟨by omega,by omega,vZ _ (a _ (L.wi h)) ⟨fun c=> ?_,fun c=>⟨iZ6,i+1,⟨⟨by simp,tZ⟩,tZ⟩,⟨by omega,fun b d=> ?_⟩,by omega⟩⟩⟩;rw[yc (p:=wc (α:=NoD) f.F) h hi.2 c];by_cases e:b=i;subst e;exact c;exact hi.2 b (by omega);have h:l.length<=i:=(by simpa using h);rw[q6 (p:=wc (α:=NoD) f.F) h hi.2]
theorem lR:wZ PR 70 lO:=vl lP mZ Tryz.func70 kcN koN
theorem rj:oz:=by
 rintro⟨l,f,⟨⟩⟩ a g;refine⟨⟨0,⟨⟨rfl,tZ⟩,tZ⟩,jm _,fun b c=>by omega⟩,fun i hi=>⟨fun h=> ?_,fun h=> ?_⟩⟩;have h:i<l.length:=(by simpa using h);simp only at*;refine⟨by omega,by omega,vZ _ (a _ (L.wi h)) ⟨fun c=> ?_,fun c=>⟨iZ6,i+1,⟨⟨by simp,tZ⟩,tZ⟩,⟨by omega,fun b d=> ?_⟩,by omega⟩⟩⟩;rw[yc (p:=wc (α:=CaD) f.F) h hi.2 c];by_cases e:b=i;subst e;exact c;exact hi.2 b (by omega);have h:l.length<=i:=(by simpa using h);rw[q6 (p:=wc (α:=CaD) f.F) h hi.2]
theorem oA:wZ PR 134 ox:=vl oy rj Tryz.func134 kcN koN
theorem lS:i7:=by
 rintro⟨l,f,⟨⟩⟩ a;refine⟨a,?_⟩;exact jE (·,()) (iI (wc (α:=CaD) f.F) l)
theorem i8:wZ PR 89 iZ:=wL lS Tryz.func89 (kcC oA kcN) koN
theorem DY:AG:=by
 intro d h;exact vZ _ h rfl
theorem AN:wZ PR 85 AF:=wL DY Tryz.func85 kcN koN
theorem IG:Fr:=by
 intro d h;exact⟨fun g a=>⟨h g a,tZ⟩,jE (·,()) (sG d.snd.fst.2 d.fst)⟩
theorem oR:wZ PR 52 eg:=wL IG Tryz.func52 (kcC y5 (kcC AN kcN)) koN
theorem AO:u7:=by
 intro d h;exact vZ _ h rfl
theorem u9:wZ PR 90 u6:=wL AO Tryz.func90 kcN koN
theorem Fw:DV:=by
 intro d h;exact⟨fun g a=>⟨h g a,tZ⟩,jE (·,()) (sG d.snd.fst.2 d.fst)⟩
theorem DZ:wZ PR 56 DU:=wL Fw Tryz.func56 (kcC i8 (kcC u9 kcN)) koN
theorem O9:LD:=by
 rintro⟨c,m,⟨⟩⟩ a b;have a:0<=m:=a;have b:m<=4611686018427387904:=b;exact⟨fun _=>L.F0 (by show _<=m-1;omega) (by show m-1<=_;omega),rfl⟩
theorem LJ:wZ PR 51 LC:=wL O9 Tryz.func51 (kcC yS kcN) koN
theorem Pa:LG:=fun _=>rfl
theorem LK:wZ PR 53 LF:=wL Pa Tryz.func53 (kcC yS kcN) koN
theorem Pb:LI:=fun _=>rfl
theorem LL:wZ PR 54 LH:=wL Pb Tryz.func54 (kcC yS kcN) koN
theorem jaR:jcv:=by
 rintro⟨a,b,⟨⟩⟩ c d e f;have c:0<=a:=c;have d:0<b:=d;have e:a<=4611686018427387904:=e;have f:b<=1000000000:=f;have g:=Lz c d;refine⟨L.F0 (by show _<=a+b;omega) (by show a+b<=_;omega),L.F0 (by show _<=a+b-1;omega) (by show a+b-1<=_;omega),by show b≠0;omega,DP (x:=U.up a b) (B:=4611686018427387904) ⟨g.1,by omega⟩ (by omega),rfl⟩
theorem Xp:wZ PR 72 jcu:=wL jaR Tryz.func72 kcN koN
theorem Tx:O8:=fun _=>rfl
theorem Pc:wZ PR 59 O7:=wL Tx Tryz.func59 kcN koN
theorem xa:tC:=by
 intro d a b;have a:(wq (ww (cY d.1))).length<=100:=a;exact⟨L.F0 (by show _<=((wq (ww (cY d.1))).length:Int)-1;omega) (by show((wq (ww (cY d.1))).length:Int)-1<=_;omega),rfl⟩
theorem aA:wZ PR 36 tB:=wL xa Tryz.func36 (kcC yS kcN) koN
theorem Fx:DX:=by
 unfold DX jjo jjn Prod.q4;rintro⟨b,⟨⟩⟩ a;have h:DQ b:=tz.1 a;have d:=h.st;have e:=h.en;have f:=h.e2;have g:=h.ta.dk;have i:=h.ta.dw;have c:=Q1 h;refine⟨?_,?_,DP (B:=2880) c (by omega),rfl⟩;show wn (gm (qU b)-max (wJ (qU b)) (Yl (gn b)));exact iZ6;show wn (min (gm (qU b)) (jaZ (gn b))-wJ (qU b));exact iZ6
theorem D0:wZ PR 108 DW:=wL Fx Tryz.func108 kcN koN
theorem D1:AI:=by
 unfold AI jjr jiL jjq jjp jgc jiK jhD jhe jgb jgk jgY jhd Prod.q4;intro d k v w;obtain⟨b,B⟩:∃b,b=vE d.1:=⟨_,rfl⟩;have h:DQ (vE d.1):=tz.1 k;have x:=h.st;have y:=h.en;have z:=h.e2;have A:=h.ta.un;have l:=jd3 h;have j:=jaP h;have m:=Xk h;have n:wn (gm (qU (vE d.1))-wJ (qU (vE d.1))):=iZ6;have e2:0<=gm (qU (vE d.1))-wJ (qU (vE d.1)):=(by omega);have o:0<PQ (gn (vE d.1)):=(by omega);have p:gm (qU (vE d.1))-wJ (qU (vE d.1))<=4611686018427387904:=(by omega);have q:PQ (gn (vE d.1))<=1000000000:=(by omega);have r:wn (100*(gm (qU (vE d.1))-wJ (qU (vE d.1)))):=iZ6;have s:100*(gm (qU (vE d.1))-wJ (qU (vE d.1)))<=1000000000:=(by omega);have t:wn (b9 (vE d.1)):=DP m (by omega);have u:wn (db d.2.1 (vE d.1)):=DP (Xl h ⟨v,w⟩) (by omega);have a:=DP (jd1 h) (by omega);have c:=DP (O3 h) (by omega);have e:=DP (jd2 h) (by omega);have f:=DP j (by omega);have g:nu (vE d.1)*FW (gn (vE d.1))*gQ (vE d.1)<=4611686018427387904:=(by omega);have i:=DP (jd5 h) (by omega);exact⟨n,a,e2,o,p,q,c,e,k,f,r,j.1,l.1,g,s,t,i,u,rfl,rfl⟩
theorem AP:ac PR 68 AH:=CT D1 Tryz.func68 (kcC Xp (kcC D0 kcN)) koN
theorem Pd (m:Int) (b:BlD):qk m b=(qU b,gn b,Ro b,Rp b,vW b,rF b,FX b,X6 m b,X7 m b,()):=by
 unfold X6 X7 qk
 split
 rfl;rfl
theorem IH:Ft:=by
 unfold Ft jkk jkj Prod.q4;intro d;have a:(decide (d.2.1<=wJ (qU (vE d.1)))&&(!dU (vE d.1)||decide (d.2.1<dV (vE d.1))))=true↔(d.2.1<=wJ (qU (vE d.1))/\(dU (vE d.1)=false\/d.2.1<dV (vE d.1))):=by
  simp only[ji,zo,jp,jN]
 refine⟨fun h=>⟨rfl,?_⟩,fun h=>⟨rfl,?_⟩⟩;have e:qk d.2.1 (vE d.1)=(qU (vE d.1),gn (vE d.1),Ro (vE d.1),Rp (vE d.1),vW (vE d.1),rF (vE d.1),FX (vE d.1),true,d.2.1,()):=by
  unfold qk;rw[je (a.1 h)]
 have b:X6 d.2.1 (vE d.1)=true:=jE dU e;have e2:X7 d.2.1 (vE d.1)=d.2.1:=jE dV e;rw[b,e2];rfl;have h:(decide (d.2.1<=wJ (qU (vE d.1)))&&(!dU (vE d.1)||decide (d.2.1<dV (vE d.1))))=false:=h;have e:qk d.2.1 (vE d.1)=vE d.1:=by
  unfold qk;rw[jd (fun c=>by rw[a.2 c] at h;cases h)]
 have b:X6 d.2.1 (vE d.1)=dU (vE d.1):=jE dU e;have e2:X7 d.2.1 (vE d.1)=dV (vE d.1):=jE dV e;rw[b,e2];rfl
theorem oS:ac PR 69 Fs:=CT IH Tryz.func69 kcN koN
theorem D2:AK:=by
 unfold AK Prod.q4;rintro⟨n,b,⟨⟩⟩ a;have h:DQ b:=tz.1 a;have c:=h.st;have d:=h.en;have e:=h.e2;have f:=h.mi;refine⟨?_,rfl⟩;show wn (wJ (qU b)-dV b);exact iZ6
theorem AQ:wZ PR 71 AJ:=wL D2 Tryz.func71 kcN koN
theorem II:Fv:=by
 unfold Fv jjt jib jhf jia jh9 jf1 jjs jgZ jgF jh8 Prod.q4;rintro⟨b,⟨⟩⟩ m;have h:LA b:=ck.1 m;have hk:=h.bl.kd;have k:eE (gL (qU b))<((co (gn b)).length:Int):=(by have:=Xm h.bl;omega);have l:=jaQ h.bl;have j:=h.bl.ta.cp;refine⟨fun a=>⟨fun g _=>⟨m.1,tZ⟩,fun hi=> ?_,fun hi=> ?_⟩,fun a=> ?_⟩;have hi:0<=Ez b:=ja hi;obtain⟨o,p,_⟩:=DR hi;have f:=Q2 h o;have n:=Lz (b:=100) f.1 (by omega);have d:vJ b=U.up (rF b*Yj (nth (qr (gn b)) (Ez b).toNat)) 100:=je ⟨a,hi⟩;have c:yi b=0:=je a;refine⟨hi,p,DP f (by omega),f.1,by decide,kY f.2 (by decide),by decide,?_⟩;refine DS (w:=U.up (rF b*Yj (nth (qr (gn b)) (Ez b).toNat)) 100) (t:=0) (cp:=PS (gn b)) (pc:=nth (co (gn b)) (eE (gL (qU b))).toNat) ⟨n.1,kY n.2 f.2⟩ ⟨by omega,by omega⟩ j l hk.1 k ?_;have e:vK b=(Rp b,Ro b,vJ b,yi b,min (PS (gn b)) (((vJ b+yi b)*nth (co (gn b)) (eE (gL (qU b))).toNat).tdiv 100),vJ b+yi b-min (PS (gn b)) (((vJ b+yi b)*nth (co (gn b)) (eE (gL (qU b))).toNat).tdiv 100),()):=rfl;rw[d,c] at e;show _=(vK b,());rw[e];rfl;have hi:¬0<=Ez b:=jc hi;have d:vJ b=rF b:=jd (fun i=>hi i.2);have c:yi b=0:=je a;refine DS (w:=rF b) (t:=0) (cp:=PS (gn b)) (pc:=nth (co (gn b)) (eE (gL (qU b))).toNat) ⟨h.wk.1,by have:=h.wk.2;omega⟩ ⟨by omega,by omega⟩ j l hk.1 k ?_;have e:vK b=(Rp b,Ro b,vJ b,yi b,min (PS (gn b)) (((vJ b+yi b)*nth (co (gn b)) (eE (gL (qU b))).toNat).tdiv 100),vJ b+yi b-min (PS (gn b)) (((vJ b+yi b)*nth (co (gn b)) (eE (gL (qU b))).toNat).tdiv 100),()):=rfl;rw[d,c] at e;show _=(vK b,());rw[e];rfl;have a:dU b=false:=a;have d:vJ b=rF b:=jd (fun i=>by rw[a] at i;cases i.1);have c:yi b=FX b:=jd (by rw[a];decide);refine DS (w:=rF b) (t:=FX b) (cp:=PS (gn b)) (pc:=nth (co (gn b)) (eE (gL (qU b))).toNat) ⟨h.wk.1,by have:=h.wk.2;omega⟩ h.tr j l hk.1 k ?_;have e:vK b=(Rp b,Ro b,vJ b,yi b,min (PS (gn b)) (((vJ b+yi b)*nth (co (gn b)) (eE (gL (qU b))).toNat).tdiv 100),vJ b+yi b-min (PS (gn b)) (((vJ b+yi b)*nth (co (gn b)) (eE (gL (qU b))).toNat).tdiv 100),()):=rfl;rw[d,c] at e;show _=(vK b,());rw[e];rfl
theorem bq:wZ PR 38 Fu:=wL II Tryz.func38 (kcC Xp (kcC lR (kcC AQ kcN))) koN
theorem D3:AM:=by
 unfold AM jkl jiM Prod.q4;rintro⟨b,m,⟨⟩⟩ a c d;have e:=Pd m b;have h:LA b:=ck.1 a;have hk:=ck.2 (Bt (m:=m) h ⟨c,d⟩);refine⟨?_,?_⟩;show rB (qU b,gn b,Ro b,Rp b,vW b,rF b,FX b,X6 m b,X7 m b,());rw[<-e];exact hk;show(vK (qU b,gn b,Ro b,Rp b,vW b,rF b,FX b,X6 m b,X7 m b,())).2.2.2.2.2=_;rw[<-e];rfl
theorem lr:wZ PR 39 AL:=wL D3 Tryz.func39 (kcC bq kcN) (koC oS koN)
@[irreducible] def ZR (C:Ctx) (A:Ann) (c:Code) (σ:St) (K:Ex->St->Prop):Prop:=vcg C A c σ K
theorem ZS {C:Ctx} {A:Ann} {c:Code} {σ:St} {K:Ex->St->Prop} (h:ZR C A c σ K):vcg C A c σ K:=by unfold ZR at h;exact h
structure FE where
 pre:NoD×Unit->Int->List Prop
 K:NoD×Unit->Int->(Bool×Unit)×Int
namespace U
def av (K:NoD×Unit->Int->(Bool×Unit)×Int):NoD×Unit->Int->(Bool×Unit)×Int:=fun x s=>((!(K (x.1,()) s).1.1,()),(K (x.1,()) s).2)
def EB (pre:NoD×Unit->Int->List Prop):NoD×Unit->Int->List Prop:=fun x s=>[wz (pre (x.1,()) s)]
def ym (K:NoD×Unit->Int->(Bool×Unit)×Int):Nat->List NoD->Int->Int×Int
 |_,[],s=>(-1,s)
 |i,n::r,s=>match(K (n,()) s).1.1 with
  |true=>((i:Int),(K (n,()) s).2)
  |false=>ym K (i+1) r (K (n,()) s).2
def dx (pre:NoD×Unit->Int->List Prop) (K:NoD×Unit->Int->(Bool×Unit)×Int):List NoD->Int->Prop
 |[],_=>True
 |n::r,s=>wz (pre (n,()) s)/\((K (n,()) s).1.1=false->dx pre K r (K (n,()) s).2)
def Rr:NoD×Unit->Int->(Bool×Unit)×Int:=fun x s=>((Je s x.1,()),gS x.1)
def jeh:NoD×Unit->Int->List Prop:=fun _ s=>[-4611686018427387904<=s,s<=4611686018427387904]
end U
def jcw (st:Ty) (ps rs:List Ty) (pre:(Ty.st ps).Data->st.Data->List Prop) (K:(Ty.st ps).Data->st.Data->(Ty.st rs).Data×st.Data):Option FE:=
 if a:st= .int then if b:ps=[tNo] then if c:rs=[.bool] then some ⟨by subst a;subst b;exact pre,by subst a;subst b;subst c;exact K⟩ else none else none else none
def jex:SV->Option (Nat×FE)
 | .fe false o T st ps rs pre K=>match Nat.beq T 3,jcw st ps rs pre K with
  |true,some y=>some (o,y)
  |_,_=>none
 |_=>none
def jeT (σ:St) (b:Nat):Option (Nat×FE):=match σ.obj b with
 |some (.box _ _ [c])=>jex c
 |_=>none
def Xq (σ:St) (o:Nat):Option Int:=match σ.obj o with
 |some (.box T false [c])=>match Nat.beq T 3,gj σ .int c with
  |true,some (s,[])=>some s
  |_,_=>none
 |_=>none
def Xr (σ:St):List SV->Option Out
 |[a,b]=>match gj σ (.slice tNo) a,jex b with
  |some (l,fz),some (o,y)=>match cd fz o,Xq σ o with
   |false,some s=>some ⟨[dx y.pre y.K l s],[],xT [.int] ((ym y.K 0 l s).1,()),fz,[(o,some (.box 3 false [.dat .int (ym y.K 0 l s).2]))],[]⟩
   |_,_=>none
  |_,_=>none
 |_=>none
def Xs (σ:St):List SV->Option Out
 |[a,.clo f [.bp b 0]]=>match Nat.beq f 133,gj σ (.slice tNo) a,jeT σ b with
  |true,some (l,fz),some (o,y)=>match cd (b::fz) o,Xq σ o with
   |false,some s=>some ⟨[dx (EB y.pre) (av y.K) l s],[],xT [.bool] (decide (0<=(ym (av y.K) 0 l s).1),()),b::fz,[(o,some (.box 3 false [.dat .int (ym (av y.K) 0 l s).2]))],[]⟩
   |_,_=>none
  |_,_,_=>none
 |_=>none
def ZT (σ:St):List SV->Option Out
 |[a,.clo f [.bp o 0]]=>match Nat.beq f 86,gj σ (.slice tNo) a with
  |true,some (l,fz)=>match cd fz o,Xq σ o with
   |false,some s=>some ⟨[dx (EB jeh) (av Rr) l s],[],xT [.bool] (!decide (0<=(ym (av Rr) 0 l s).1),()),fz,[(o,some (.box 3 false [.dat .int (ym (av Rr) 0 l s).2]))],[]⟩
   |_,_=>none
  |_,_=>none
 |_=>none
def jaS (n:Nat) (fs:List (Nat×wS)) (k:Nat) (e:St->List SV->Option Out):Ctx:=⟨n,ti,fs,fun f _ σ svs=>match Nat.beq f k with|true=>e σ svs|false=>none,strs,false⟩
def ew:Prop:=∀(n:NoD) (s:Int),-4611686018427387904<=s->s<=4611686018427387904->
 ZR (ctx 18 [(37,bg),(87,cx)] []) (fun _=>none) (qh Tryz.f86) ⟨[(0,.dat tNo n),(1,.bp gH 0)],[(gH,some (.box 3 false [.dat .int s]))]⟩
  (mq (ctx 18 [(37,bg),(87,cx)] []) Tryz.f86 3 .int [.bool] (Rr (n,()) s))
def m0:Prop:=∀(n:NoD) (s:Int),(-4611686018427387904:Int)<=s->s<=4611686018427387904->wn (s-1)/\(wa n.1 (0:Int) (s-1)&&U.share n.2.1,())=(Rr (n,()) s).1/\n.1=(Rr (n,()) s).2
theorem tD:(ew)=m0:=by kernel_rfl
def aB:Prop:=∀(n:NoD) (y:FE) (s:Int),wz (y.pre (n,()) s)->
 ZR (ctx 8 [] []) (fun _=>none) (qh Tryz.f133) ⟨[(0,.dat tNo n),(1,.fe true gH 3 .int [tNo] [.bool] y.pre y.K)],[(gH,some (.box 3 false [.dat .int s]))]⟩
  (mq (ctx 8 [] []) Tryz.f133 3 .int [.bool] (av y.K (n,()) s))
def cO:Prop:=∀(n:NoD) (y:FE) (s:Int),wz (y.pre (n,()) s)->asks (y.1 (n,()) s) ((!(y.2 (n,()) s).1.1,())=(av y.2 (n,()) s).1/\(y.2 (n,()) s).2=(av y.2 (n,()) s).2)
theorem lT:(aB)=cO:=by kernel_rfl
def Xt (K:NoD×Unit->Int->(Bool×Unit)×Int) (pre:NoD×Unit->Int->List Prop) (s:Int):Ann:=fun r=>match r with
 |2=>some fun σ=>{X:=Nat×Int,sl:=fun x=>[(8,.dat .int (x.1:Int))],ob:=fun x=>[(gH,some (.box 3 false [.dat .int x.2]))],inv:=fun x=>x.1<=(gd (.slice tNo) σ 0).length/\ym K x.1 ((gd (.slice tNo) σ 0).drop x.1) x.2=ym K 0 (gd (.slice tNo) σ 0) s/\dx pre K ((gd (.slice tNo) σ 0).drop x.1) x.2,mu:=fun x=>(gd (.slice tNo) σ 0).length-x.1}
 |_=>none
def fN:Prop:=∀(l:List NoD) (y:FE) (s:Int),dx y.pre y.K l s->
 ZR (ctx 19 [] []) (Xt y.K y.pre s) (qh Tryz.f70) ⟨[(0,.dat (.slice tNo) l),(1,.fe false gH 3 .int [tNo] [.bool] y.pre y.K)],[(gH,some (.box 3 false [.dat .int s]))]⟩
  (mq (ctx 19 [] []) Tryz.f70 3 .int [.int] (((ym y.K 0 l s).1,()),(ym y.K 0 l s).2))
abbrev jic (l:List NoD)(x:Nat×Int):=(nth l (x.1:Int).toNat,())
def gV:Prop:=∀(l:List NoD) (y:FE) (s:Int),dx y.pre y.K l s->l.length<4611686018427387904->(∃(x:Nat×Int),((0=(x.1:Int)/\True)/\(s=x.2/\True)/\True)/\x.1<=l.length/\ym y.2 x.1 (List.drop x.1 l) x.2=ym y.2 0 l s/\dx y.1 y.2 (List.drop x.1 l) x.2)/\∀(x:Nat×Int),x.1<=l.length/\ym y.2 x.1 (List.drop x.1 l) x.2=ym y.2 0 l s/\dx y.1 y.2 (List.drop x.1 l) x.2->(decide ((x.1:Int)<l.length)=true->0<=(x.1:Int)/\(x.1:Int)<l.length/\asks (y.1 (jic l x) x.2) (((y.2 (jic l x) x.2).1.1=true->((x.1:Int),())=((ym y.2 0 l s).1,())/\(y.2 (jic l x) x.2).2=(ym y.2 0 l s).2)/\((y.2 (jic l x) x.2).1.1=false->wn ((x.1:Int)+1)/\∃(a:Nat×Int),(((x.1:Int)+1=(a.1:Int)/\True)/\((y.2 (jic l x) x.2).2=a.2/\True)/\True)/\(a.1<=l.length/\ym y.2 a.1 (List.drop a.1 l) a.2=ym y.2 0 l s/\dx y.1 y.2 (List.drop a.1 l) a.2)/\l.length-a.1<l.length-x.1)))/\(decide ((x.1:Int)<l.length)=false->((-1:Int),())=((ym y.2 0 l s).1,())/\x.2=(ym y.2 0 l s).2)
theorem cm:(fN)=gV:=by kernel_rfl
def cP:Prop:=∀(l:List NoD) (y:FE) (s:Int),dx y.pre y.K l s->
 ZR (jaS 9 [] 70 Xr) (fun _=>none) (qh Tryz.f132) ⟨[(0,.dat (.slice tNo) l),(1,.fe false gH 3 .int [tNo] [.bool] y.pre y.K)],[(gH,some (.box 3 false [.dat .int s]))]⟩
  (mq (jaS 9 [] 70 Xr) Tryz.f132 3 .int [.bool] ((decide (0<=(ym y.K 0 l s).1),()),(ym y.K 0 l s).2))
def y9:Prop:=∀(l:List NoD) (y:FE) (s:Int),dx y.pre y.K l s->dx y.1 y.2 l s/\(decide (0<=(ym y.2 0 l s).1),())=(decide (0<=(ym y.2 0 l s).1),())/\(ym y.2 0 l s).2=(ym y.2 0 l s).2
theorem bh:(cP)=y9:=by kernel_rfl
def AR:Prop:=∀(l:List NoD) (y:FE) (s:Int),dx (EB y.pre) (av y.K) l s->
 ZR (jaS 9 [] 132 Xs) (fun _=>none) (qh Tryz.f88) ⟨[(0,.dat (.slice tNo) l),(1,.fe false gH 3 .int [tNo] [.bool] y.pre y.K)],[(gH,some (.box 3 false [.dat .int s]))]⟩
  (mq (jaS 9 [] 132 Xs) Tryz.f88 3 .int [.bool] ((!decide (0<=(ym (av y.K) 0 l s).1),()),(ym (av y.K) 0 l s).2))
def fO:Prop:=∀(l:List NoD) (y:FE) (s:Int),dx (EB y.pre) (av y.K) l s->dx (EB y.1) (av y.2) l s/\(!decide (0<=(ym (av y.2) 0 l s).1),())=(!decide (0<=(ym (av y.2) 0 l s).1),())/\(ym (av y.2) 0 l s).2=(ym (av y.2) 0 l s).2
theorem oB:(AR)=fO:=by kernel_rfl
def tE:wS:=⟨[.val tTa],[.bool],false,fun _=>[],fun d=>(yq d.1,())⟩
def tF:Ann:=fun r=>match r with
 |3000003=>some fun _=>{X:=Unit,sl:=fun _=>[],ob:=fun _=>[],inv:=fun _=>True,mu:=fun _=>0}
 |_=>none
abbrev jg0:=(wc fun(a:Int×Unit)=>(U.share a.1,()))
abbrev jgo (d:TaD×Unit):=((d.1.q4.q4.2.1.length:Int)<=4)
abbrev jg1 (d:TaD×Unit):=((d.1.q4.q4.1.length:Int)=4)
abbrev jgp (d:TaD×Unit):=d.1.q4.2.2.2.1
abbrev jgd (d:TaD×Unit):=(yq d.1,())
abbrev jgq (d:TaD×Unit):=d.1.q4.2.2.1
def tG:Prop:=∀(d:TaD×Unit),(wa d.1.1 (1:Int) 240=true->wa d.1.1 (1:Int) 240=true/\wa d.1.1 (1:Int) 240=true/\wa d.1.1 (1:Int) 240=true/\(wa d.1.2.1 (0:Int) 10000=true->wa d.1.2.1 (0:Int) 10000=true/\wa d.1.2.1 (0:Int) 10000=true/\wa d.1.2.1 (0:Int) 10000=true/\(wa d.1.2.2.1 (0:Int) 20=true->wa d.1.2.2.1 (0:Int) 20=true/\wa d.1.2.2.1 (0:Int) 20=true/\wa d.1.2.2.1 (0:Int) 20=true/\(wa d.1.2.2.2.1 (0:Int) 1440=true->wa d.1.2.2.2.1 (0:Int) 1440=true/\wa d.1.2.2.2.1 (0:Int) 1440=true/\wa d.1.2.2.2.1 (0:Int) 1440=true/\wa d.1.2.2.2.1 (0:Int) 1440=true/\wa d.1.2.2.2.1 (0:Int) 1440=true/\(wa d.1.q4.1 (0:Int) d.1.2.2.2.1=true->wa d.1.q4.1 (0:Int) d.1.2.2.2.1=true/\wa d.1.q4.1 (0:Int) d.1.2.2.2.1=true/\wa d.1.q4.1 (0:Int) d.1.2.2.2.1=true/\(U.share d.1.q4.2.1=true->U.share d.1.q4.2.1=true/\U.share d.1.q4.2.1=true/\U.share d.1.q4.2.1=true/\(wa (jgq d) (0:Int) 10000=true->wa (jgq d) (0:Int) 10000=true/\wa (jgq d) (0:Int) 10000=true/\(d.1.q4.q4.1.length<4611686018427387904->wa (jgq d) (0:Int) 10000=true/\wa (jgq d) (0:Int) 10000=true/\(decide (jg1 d)=true->decide (jg1 d)=true/\decide (jg1 d)=true/\(∀(g:Int),g∈d.1.q4.q4.1->wz [])/\decide (jg1 d)=true/\(d.1.q4.q4.1.all jg0=true->d.1.q4.q4.1.all jg0=true/\d.1.q4.q4.1.all jg0=true/\d.1.q4.q4.1.all jg0=true/\(wa (jgp d) (0:Int) 1000000=true->wa (jgp d) (0:Int) 1000000=true/\wa (jgp d) (0:Int) 1000000=true/\(d.1.q4.q4.2.1.length<4611686018427387904->wa (jgp d) (0:Int) 1000000=true/\wa (jgp d) (0:Int) 1000000=true/\(decide (jgo d)=true->decide (jgo d)=true/\decide (jgo d)=true/\decide (jgo d)=true/\dx (EB jeh) (av Rr) d.1.q4.q4.2.1 (100001:Int)/\decide (jgo d)=true/\(!decide (0<=(ym (av Rr) 0 d.1.q4.q4.2.1 (100001:Int)).1),())=(jgd d))/\(decide (jgo d)=false->decide (jgo d)=false/\decide (jgo d)=false/\decide (jgo d)=false/\decide (jgo d)=false/\(false,())=(jgd d))))/\(wa (jgp d) (0:Int) 1000000=false->wa (jgp d) (0:Int) 1000000=false/\wa (jgp d) (0:Int) 1000000=false/\wa (jgp d) (0:Int) 1000000=false/\wa (jgp d) (0:Int) 1000000=false/\qF/\qF/\qF/\qF/\qF/\(false,())=(jgd d)))/\(d.1.q4.q4.1.all jg0=false->d.1.q4.q4.1.all jg0=false/\d.1.q4.q4.1.all jg0=false/\d.1.q4.q4.1.all jg0=false/\qF/\qF/\qF/\qF/\qF/\qF/\qF/\qF/\qF/\qF/\(false,())=(jgd d)))/\(decide (jg1 d)=false->decide (jg1 d)=false/\decide (jg1 d)=false/\decide (jg1 d)=false/\qF/\qF/\qF/\qF/\qF/\qF/\qF/\qF/\qF/\qF/\qF/\qF/\qF/\qF/\(false,())=(jgd d))))/\(wa (jgq d) (0:Int) 10000=false->wa (jgq d) (0:Int) 10000=false/\wa (jgq d) (0:Int) 10000=false/\wa (jgq d) (0:Int) 10000=false/\wa (jgq d) (0:Int) 10000=false/\qF/\qF/\qF/\qF/\qF/\qF/\qF/\qF/\qF/\qF/\qF/\qF/\qF/\qF/\qF/\qF/\qF/\qF/\(false,())=(jgd d)))/\(U.share d.1.q4.2.1=false->U.share d.1.q4.2.1=false/\U.share d.1.q4.2.1=false/\U.share d.1.q4.2.1=false/\qF/\qF/\qF/\qF/\qF/\qF/\qF/\qF/\qF/\qF/\qF/\qF/\qF/\qF/\qF/\qF/\qF/\qF/\qF/\qF/\qF/\qF/\qF/\(false,())=(jgd d)))/\(wa d.1.q4.1 (0:Int) d.1.2.2.2.1=false->wa d.1.q4.1 (0:Int) d.1.2.2.2.1=false/\wa d.1.q4.1 (0:Int) d.1.2.2.2.1=false/\wa d.1.q4.1 (0:Int) d.1.2.2.2.1=false/\qF/\qF/\qF/\qF/\qF/\qF/\qF/\qF/\qF/\qF/\qF/\qF/\qF/\qF/\qF/\qF/\qF/\qF/\qF/\qF/\qF/\qF/\qF/\qF/\qF/\qF/\qF/\(false,())=(jgd d)))/\(wa d.1.2.2.2.1 (0:Int) 1440=false->wa d.1.2.2.2.1 (0:Int) 1440=false/\wa d.1.2.2.2.1 (0:Int) 1440=false/\wa d.1.2.2.2.1 (0:Int) 1440=false/\wa d.1.2.2.2.1 (0:Int) 1440=false/\wa d.1.2.2.2.1 (0:Int) 1440=false/\qF/\qF/\qF/\qF/\qF/\qF/\qF/\qF/\qF/\qF/\qF/\qF/\qF/\qF/\qF/\qF/\qF/\qF/\qF/\qF/\qF/\qF/\qF/\qF/\qF/\qF/\qF/\qF/\qF/\qF/\qF/\(false,())=(jgd d)))/\(wa d.1.2.2.1 (0:Int) 20=false->wa d.1.2.2.1 (0:Int) 20=false/\wa d.1.2.2.1 (0:Int) 20=false/\wa d.1.2.2.1 (0:Int) 20=false/\qF/\qF/\qF/\qF/\qF/\qF/\qF/\qF/\qF/\qF/\qF/\qF/\qF/\qF/\qF/\qF/\qF/\qF/\qF/\qF/\qF/\qF/\qF/\qF/\qF/\qF/\qF/\qF/\qF/\qF/\qF/\qF/\qF/\qF/\qF/\qF/\qF/\(false,())=(jgd d)))/\(wa d.1.2.1 (0:Int) 10000=false->wa d.1.2.1 (0:Int) 10000=false/\wa d.1.2.1 (0:Int) 10000=false/\wa d.1.2.1 (0:Int) 10000=false/\qF/\qF/\qF/\qF/\qF/\qF/\qF/\qF/\qF/\qF/\qF/\qF/\qF/\qF/\qF/\qF/\qF/\qF/\qF/\qF/\qF/\qF/\qF/\qF/\qF/\qF/\qF/\qF/\qF/\qF/\qF/\qF/\qF/\qF/\qF/\qF/\qF/\qF/\qF/\qF/\qF/\(false,())=(jgd d)))/\(wa d.1.1 (1:Int) 240=false->wa d.1.1 (1:Int) 240=false/\wa d.1.1 (1:Int) 240=false/\wa d.1.1 (1:Int) 240=false/\qF/\qF/\qF/\qF/\qF/\qF/\qF/\qF/\qF/\qF/\qF/\qF/\qF/\qF/\qF/\qF/\qF/\qF/\qF/\qF/\qF/\qF/\qF/\qF/\qF/\qF/\qF/\qF/\qF/\qF/\qF/\qF/\qF/\qF/\qF/\qF/\qF/\qF/\qF/\qF/\qF/\qF/\qF/\qF/\qF/\(false,())=(jgd d))
theorem AS:jc6 (jaS 69 [(37,bg),(87,cx),(52,eg)] 88 ZT) (tF) Tryz.f55 (qh Tryz.f55) tE=tG:=by kernel_rfl
theorem LN (K:NoD×Unit->Int->(Bool×Unit)×Int) (i:Nat) (n:NoD) (r:List NoD) (s:Int):ym K i (n::r) s=if(K (n,()) s).1.1=true then((i:Int),(K (n,()) s).2) else ym K (i+1) r (K (n,()) s).2:=by
 rw[ym];cases (K (n,()) s).1.1 with
 |true=>rfl
 |false=>rfl
theorem Fy:m0:=by
 intro n s a b;exact⟨iZ6,rfl,rfl⟩
theorem tH:cO:=by
 intro n y s h;exact vZ _ h ⟨rfl,rfl⟩
theorem fP:gV:=by
 unfold gV jic;intro l y s j m;refine⟨⟨(0,s),⟨⟨rfl,tZ⟩,⟨rfl,tZ⟩,tZ⟩,jm _,rfl,j⟩,fun x d=>⟨fun h=> ?_,fun h=> ?_⟩⟩;obtain⟨i,s1⟩:=x;have hi:i<l.length:=(by simpa using h);obtain⟨_,a,b⟩:=d;have g:l.drop i=nth l i::l.drop (i+1):=(by rw[L.qI hi];exact z6 hi);simp only at a b;rw[g] at a b;rw[LN] at a;obtain⟨e,f⟩:=b;simp only[jw];refine⟨by omega,by omega,vZ _ e ⟨fun k=> ?_,fun c=>⟨iZ6,(i+1,(y.2 (nth l i,()) s1).2),⟨⟨by simp,tZ⟩,⟨rfl,tZ⟩,tZ⟩,⟨hi,?_,f c⟩,by simp only;omega⟩⟩⟩;rw[je k] at a;rw[<-a];exact⟨rfl,rfl⟩;rw[jd (by rw[c];decide)] at a;exact a;obtain⟨i,s1⟩:=x;have hi:l.length<=i:=(by simpa using h);obtain⟨_,a,_⟩:=d;simp only at a;rw[List.drop_eq_nil_of_le hi] at a;have a:((-1:Int),s1)=ym y.2 0 l s:=a;rw[<-a];exact⟨rfl,rfl⟩
theorem cQ:y9:=fun _ _ _ h=>⟨h,rfl,rfl⟩
theorem AT:fO:=fun _ _ _ h=>⟨h,rfl,rfl⟩
theorem Xu {P:Program} {C:Ctx} {w:World} (g:C.ok P) (m:P.follows .mixedOrders=true) {f:Nat} {fn:Func} {body:Code} (j:P.funcs[f]? =some fn) (i:fn.body=some body)
 (o:fn.ntmps=C.n) (A:Ann) {T:Nat} {st:Ty} {rs:List Ty} {a:(Ty.st rs).Data×st.Data} {s:st.Data} {sl:List (Nat×SV)} {vals:List Value}
 (q:ZR C A body ⟨sl,[(gH,some (.box T false [.dat st s]))]⟩ (mq C fn T st rs a)) (c:Nat.ble vals.length C.n=true)
 {H:Imm} {b:Nat} {u:Value} (l:fX H w) (h:H b=none) (r:w.heap[b]? =some (.cells #[u] T (0,0))) (e:st.agg=false) (p:st.rv H u s)
 (d:∀ρ:Env,ρ.H=H->ρ.blk gH=some (some (b,0))->∀k v,wM sl k=some v->∃x,vals[k]? =some x/\SV.den P ρ v x):
 Calls P f vals.toArray w (Ry H w b T st rs a):=
 jeJ g m j i o A (jy c) (ZS q) l h r e p d
abbrev FnG (H:Imm) (b:Nat) (y:FE) (v:Value):Prop:=FnE PR H b 3 .int [tNo] [.bool] y.pre y.K v
theorem Xv {H:Imm} {t:Ty} {vals:List Value} {x:(Ty.st [t]).Data} (h:rvs H [t] vals x):∃v,vals=[v]/\t.rv H v x.1:=by
 match vals,h with
 |[v],h=>exact⟨v,rfl,h.1⟩
 |[],h=>exact h.elim
 |_::_::_,h=>have:=h.2;simp[rvs] at this
theorem Xw (q:aB) {H:Imm} {b:Nat} {y:FE} {i:Value} {g:Nat} (l:FnG H b y i) (m:H g=some (.cells #[i])):
 FnG H b ⟨EB y.pre,av y.K⟩ (.func (.func 133) #[] #[.pointer (some ⟨g,0,none⟩)]):=by
 refine⟨133,_,rfl,vQ Tryz.func133 (c:=qh Tryz.f133) (by kernel_rfl) (by kernel_rfl),fun H' w vals x s u j o n z r t f=> ?_⟩;obtain⟨v,rfl,h⟩:=Xv t;have key:=Xu (P:=PR) (C:=ctx 8 [] []) (oP trivial trivial) mixed Tryz.func133 (body:=qh Tryz.f133) (by kernel_rfl) (by kernel_rfl) (fun _=>none) (T:=3) (st:= .int) (rs:=[.bool])
  (vals:=[v,.pointer (some ⟨g,0,none⟩)]) (q x.1 y s f.1) (by kernel_rfl) o n z rfl r
 refine key (fun ρ d e k sv hk=> ?_)
 match k,hk with
 |0,hk=>
  have hk:some (SV.dat tNo x.1)=some sv:=hk;simp only[jz] at hk;subst hk;exact⟨v,rfl,by simp only[SV.den];rw[d];exact h⟩
 |1,hk=>
  have hk:some (SV.fe true gH 3 .int [tNo] [.bool] y.pre y.K)=some sv:=hk;simp only[jz] at hk;subst hk;refine⟨_,rfl,?_⟩;simp only[SV.den];intro p a;rw[e] at a;simp at a;subst a;refine⟨b,0,rfl,i,?_,g,rfl,?_⟩;rw[d];exact FnE.mono j l;rw[d];exact j _ _ m
 |k+2,hk=>cases hk
theorem Tz (j:ew) (H:Imm) (b:Nat):FnG H b ⟨jeh,Rr⟩ (.func (.func 86) #[] #[.pointer (some ⟨b,0,none⟩)]):=by
 refine⟨86,_,rfl,vQ Tryz.func86 (c:=qh Tryz.f86) (by kernel_rfl) (by kernel_rfl),fun H' w vals x s u o i h n l m a=> ?_⟩;obtain⟨v,rfl,f⟩:=Xv m;have key:=Xu (P:=PR) (C:=ctx 18 [(37,bg),(87,cx)] []) (oP ⟨fun _=>yS,fun _=>G0,tZ⟩ trivial) mixed Tryz.func86 (body:=qh Tryz.f86) (by kernel_rfl) (by kernel_rfl) (fun _=>none) (T:=3) (st:= .int) (rs:=[.bool])
  (vals:=[v,.pointer (some ⟨b,0,none⟩)]) (j x.1 s a.1 a.2.1) (by kernel_rfl) i h n rfl l
 refine key (fun ρ g e k sv hk=> ?_)
 match k,hk with
 |0,hk=>
  have hk:some (SV.dat tNo x.1)=some sv:=hk;simp only[jz] at hk;subst hk;exact⟨v,rfl,by simp only[SV.den];rw[g];exact f⟩
 |1,hk=>
  have hk:some (SV.bp gH 0)=some sv:=hk;simp only[jz] at hk;subst hk;refine⟨_,rfl,?_⟩;simp only[SV.den];intro p d;rw[e] at d;simp at d;subst d;exact⟨b,0,rfl,rfl⟩
 |k+2,hk=>cases hk
def EN (f:Nat) (rs:List Ty) (pre:FE->List NoD->Int->Prop) (K:FE->List NoD->Int->(Ty.st rs).Data×Int):Prop:=
 ∀(l:List NoD) (y:FE) (s:Int) (H:Imm) (w:World) (b:Nat) (lv a u:Value),fX H w->H b=none->w.heap[b]? =some (.cells #[u] 3 (0,0))->Ty.int.rv H u s->
  (Ty.slice tNo).rv H lv l->FnG H b y a->pre y l s->Calls PR f #[lv,a] w (Ry H w b 3 .int rs (K y l s))
theorem jcx {C:Ctx} (j:C.ok PR) {f:Nat} {fn:Func} {body:Code} (o:PR.funcs[f]? =some fn) (m:fn.body=some body) (t:fn.ntmps=C.n) (i:Nat.ble 2 C.n=true) (A:FE->Int->Ann) {rs:List Ty}
 {pre:FE->List NoD->Int->Prop} {K:FE->List NoD->Int->(Ty.st rs).Data×Int}
 (x:∀(l:List NoD) (y:FE) (s:Int),pre y l s->ZR C (A y s) body ⟨[(0,.dat (.slice tNo) l),(1,.fe false gH 3 .int [tNo] [.bool] y.pre y.K)],[(gH,some (.box 3 false [.dat .int s]))]⟩ (mq C fn 3 .int rs (K y l s))):EN f rs pre K:=by
 intro l y s H w b lv h u q g z v r B d;have key:=Xu (P:=PR) j mixed o m t (A y s) (T:=3) (st:= .int) (rs:=rs) (vals:=[lv,h]) (x l y s d) i q g z rfl v;refine key (fun ρ e c k sv hk=> ?_)
 match k,hk with
 |0,hk=>
  have hk:some (SV.dat (.slice tNo) l)=some sv:=hk;simp only[jz] at hk;subst hk;exact⟨lv,rfl,by simp only[SV.den];rw[e];exact r⟩
 |1,hk=>
  have hk:some (SV.fe false gH 3 .int [tNo] [.bool] y.pre y.K)=some sv:=hk;simp only[jz] at hk;subst hk;refine⟨_,rfl,?_⟩;simp only[SV.den];intro p a;rw[c] at a;simp at a;subst a;exact⟨b,0,rfl,h,by rw[e];exact B,rfl⟩
 |k+2,hk=>cases hk
theorem xb {σ:St} {o:Nat} {s:Int} (h:Xq σ o=some s):∃c,σ.obj o=some (.box 3 false [c])/\gj σ .int c=some (s,[]):=by
 unfold Xq at h
 split at h
 case h_2=>cases h
 rename_i T c d
 split at h
 case h_2=>cases h
 rename_i e a b;simp at h;subst h;have:=jb a;subst this;exact⟨c,d,b⟩
theorem TA {q:Bool} {o T:Nat} {st:Ty} {ps rs:List Ty} {pre:(Ty.st ps).Data->st.Data->List Prop} {K:(Ty.st ps).Data->st.Data->(Ty.st rs).Data×st.Data} {y:FE} (h:jcw st ps rs pre K=some y):
 SV.fe q o T st ps rs pre K=SV.fe q o T .int [tNo] [.bool] y.pre y.K:=by
 unfold jcw at h
 split at h
 case isFalse=>cases h
 rename_i a
 split at h
 case isFalse=>cases h
 rename_i b
 split at h
 case isFalse=>cases h
 rename_i c;subst a;subst b;subst c;simp at h;subst h;rfl
theorem LO {v:SV} {o:Nat} {y:FE} (h:jex v=some (o,y)):v= .fe false o 3 .int [tNo] [.bool] y.pre y.K:=by
 unfold jex at h
 split at h
 case h_2=>cases h
 rename_i o' T st ps rs pre K
 split at h
 case h_2=>cases h
 rename_i c a b;simp at h;obtain⟨rfl,rfl⟩:=h;have:=jb a;subst this;exact TA b
theorem Xx {σ:St} {b o:Nat} {y:FE} (h:jeT σ b=some (o,y)):∃T fz,σ.obj b=some (.box T fz [.fe false o 3 .int [tNo] [.bool] y.pre y.K]):=by
 unfold jeT at h
 split at h
 case h_2=>cases h
 rename_i d fz c a;rw[LO h] at a;exact⟨_,_,a⟩
abbrev jeU (y:FE) (l:List NoD) (s:Int):(Ty.st [.int]).Data×Int:=(((ym y.K 0 l s).1,()),(ym y.K 0 l s).2)
abbrev jeV (y:FE) (l:List NoD) (s:Int):(Ty.st [.bool]).Data×Int:=((decide (0<=(ym y.K 0 l s).1),()),(ym y.K 0 l s).2)
abbrev jeW (y:FE) (l:List NoD) (s:Int):(Ty.st [.bool]).Data×Int:=((!decide (0<=(ym (av y.K) 0 l s).1),()),(ym (av y.K) 0 l s).2)
theorem Pe (L:EN 70 [.int] (fun y l s=>dx y.pre y.K l s) jeU) {σ:St} {svs:List SV} {out:Out} (h:Xr σ svs=some out) {B:q9} {ρ:Env} {w:World} {vals:List Value} (I:Sat PR B ρ σ.obj w) (C:SV.denL PR ρ svs vals)
 (t:yo out.vc):Calls PR 70 vals.toArray w (fun e w'=>∃v,e= .returned v/\wE PR B ρ σ out v w'):=by
 unfold Xr at h
 split at h
 case h_2=>cases h
 rename_i a c
 split at h
 case h_2=>cases h
 rename_i l fz o y M n
 split at h
 case h_2=>cases h
 rename_i s q O;simp at h;subst h;obtain⟨S,_⟩:=t;have F:=LO n;subst F;simp only[SV.denL] at C;obtain⟨D,_,rfl,E,vc,_,rfl,x,rfl⟩:=C;obtain⟨c,R,J⟩:=xb O;refine mr (st:= .int) (rs:=[.int]) (r:=jeU y l s) I fz q R rfl (fun ρ1 b V u d g f N G Q m=> ?_);have A:=yH σ fz;have P:=wH d A J (fun o i=>by simp at i) m;have p:=wH d A M (fun o i=>i) (SV.den_mono g a D (fun o i=>by simp at i) E);simp only[SV.den] at x;obtain⟨W,C',z,T,k,j⟩:=x _ (by rw[<-f];exact N);simp at z;obtain⟨rfl,rfl⟩:=z;have j:vc=T:=j;subst j;exact L l y s ρ1.H w b D vc u d.good G Q P p (FnE.mono g.H k) S
theorem Pf (D:aB) (he:EN 132 [.bool] (fun y l s=>dx y.pre y.K l s) jeV) {σ:St} {svs:List SV} {out:Out} (h:Xs σ svs=some out) {B:q9} {ρ:Env} {w:World} {vals:List Value} (hS:Sat PR B ρ σ.obj w)
 (R:SV.denL PR ρ svs vals) (L:yo out.vc):Calls PR 132 vals.toArray w (fun e w'=>∃v,e= .returned v/\wE PR B ρ σ out v w'):=by
 unfold Xs at h
 split at h
 case h_2=>cases h
 rename_i a f j
 split at h
 case h_2=>cases h
 rename_i l fz o y hf hl E
 split at h
 case h_2=>cases h
 rename_i s I hs;simp at h;subst h;obtain⟨q1,_⟩:=L;simp only[SV.denL] at R;obtain⟨S,_,rfl,Z,vc,_,rfl,O,rfl⟩:=R;simp only[SV.den,SV.denL] at O;obtain⟨vs,rfl,v5,_,i,Y,rfl⟩:=O;have i:vs= #[v5]:=jI.1 (by simpa using i);subst i;have:=jb hf;subst this;obtain⟨c,hx,hc⟩:=xb hs;obtain⟨W,fz5,M⟩:=Xx E;refine mr (st:= .int) (rs:=[.bool]) (r:=jeV ⟨EB y.pre,av y.K⟩ l s) hS (j::fz) I hx rfl (fun ρ1 b Cp u d G k hp hH hw C=> ?_);have x:=yH σ (j::fz);have hu:=wH d x hc (fun o m=>by simp at m) C;have F:=wH d x hl (fun o m=>jl _ m) (SV.den_mono G a S (fun o m=>by simp at m) Z);have n:(σ.frz (j::fz)).obj j=some (.box W true [.fe false o 3 .int [tNo] [.bool] y.pre y.K]):=(by rw[(x j).2 (by simp),M];rfl);obtain⟨p5,J,b5,C5,N,rfl,hw5,g,_,A⟩:=d.obs j _ n;obtain⟨X,V,Q,q⟩:=Y _ (by rw[<-k];exact J);simp at Q;obtain⟨rfl,rfl⟩:=Q;subst q;simp only[SV.denL,SV.den] at g;obtain⟨T,_,t,hy,rfl⟩:=g;have t:N= #[T]:=jI.1 (by simpa using t);subst t;obtain⟨b',C',P,u',z,p⟩:=hy _ hp;simp at P;obtain⟨rfl,rfl⟩:=P;have p:T=u':=p;subst p;exact he l ⟨EB y.pre,av y.K⟩ s ρ1.H w b S _ u d.good hH hw hu F (Xw D z A) q1
theorem Pg (P:ew) (J:EN 88 [.bool] (fun y l s=>dx (EB y.pre) (av y.K) l s) jeW) {σ:St} {svs:List SV} {out:Out} (h:ZT σ svs=some out) {B:q9} {ρ:Env} {w:World} {vals:List Value} (G:Sat PR B ρ σ.obj w)
 (A:SV.denL PR ρ svs vals) (q:yo out.vc):Calls PR 88 vals.toArray w (fun e w'=>∃v,e= .returned v/\wE PR B ρ σ out v w'):=by
 unfold ZT at h
 split at h
 case h_2=>cases h
 rename_i a f o
 split at h
 case h_2=>cases h
 rename_i l fz L M
 split at h
 case h_2=>cases h
 rename_i s p O;simp at h;subst h;obtain⟨T,_⟩:=q;simp only[SV.denL] at A;obtain⟨C,_,rfl,E,vc,_,rfl,t,rfl⟩:=A;simp only[SV.den,SV.denL] at t;obtain⟨vs,rfl,V,_,d,D,rfl⟩:=t;have d:vs= #[V]:=jI.1 (by simpa using d);subst d;have:=jb L;subst this;obtain⟨c,S,I⟩:=xb O;refine mr (st:= .int) (rs:=[.bool]) (r:=jeW ⟨jeh,Rr⟩ l s) G fz p S rfl (fun ρ1 b W u g n i N F R k=> ?_);have z:=yH σ fz;have Q:=wH g z I (fun o j=>by simp at j) k;have m:=wH g z M (fun o j=>j) (SV.den_mono n a C (fun o j=>by simp at j) E);obtain⟨X,C',x,ev⟩:=D _ (by rw[<-i];exact N);simp at x;obtain⟨rfl,rfl⟩:=x;subst ev;exact J l ⟨jeh,Rr⟩ s ρ1.H w b C _ u g.good F R Q m (Tz P ρ1.H b) T
theorem Ph {n:Nat} {fs:List (Nat×wS)} {k:Nat} {e:St->List SV->Option Out} (c:nZ fs) (b:enters PR k)
 (j:∀σ svs out,e σ svs=some out->∀B ρ w vals,Sat PR B ρ σ.obj w->SV.denL PR ρ svs vals->yo out.vc->Calls PR k vals.toArray w (fun e w'=>∃v,e= .returned v/\wE PR B ρ σ out v w')):(jaS n fs k e).ok PR:=by
 refine⟨Qo Y3,fh c,QG,rfl,fun f dst σ svs out h=> ?_⟩;have a:(match Nat.beq f k with|true=>e σ svs|false=>none)=some out:=h
 split at a
 case h_2=>cases a
 rename_i l;have:=jb l;subst this;exact⟨b,fun B ρ w vals g i d _ _=>j σ svs out a B ρ w vals g i d⟩
theorem enI:EN 70 [.int] (fun y l s=>dx y.pre y.K l s) jeU:=
 jcx (C:=ctx 19 [] []) (oP trivial trivial) Tryz.func70 (body:=qh Tryz.f70) (by kernel_rfl) (by kernel_rfl) (by kernel_rfl) (fun y s=>Xt y.K y.pre s) (fun l y s h=>cm.mpr fP l y s h)
theorem enC:EN 132 [.bool] (fun y l s=>dx y.pre y.K l s) jeV:=
 jcx (C:=jaS 9 [] 70 Xr) (Ph trivial (vQ Tryz.func70 (c:=qh Tryz.f70) (by kernel_rfl) (by kernel_rfl)) (fun _ _ _ h _ _ _ _ b d a=>Pe enI h b d a))
  Tryz.func132 (body:=qh Tryz.f132) (by kernel_rfl) (by kernel_rfl) (by kernel_rfl) (fun _ _ _=>none) (fun l y s h=>bh.mpr cQ l y s h)
theorem enV:EN 88 [.bool] (fun y l s=>dx (EB y.pre) (av y.K) l s) jeW:=
 jcx (C:=jaS 9 [] 132 Xs) (Ph trivial (vQ Tryz.func132 (c:=qh Tryz.f132) (by kernel_rfl) (by kernel_rfl)) (fun _ _ _ h _ _ _ _ b d a=>Pf (lT.mpr tH) enC h b d a))
  Tryz.func88 (body:=qh Tryz.f88) (by kernel_rfl) (by kernel_rfl) (by kernel_rfl) (fun _ _ _=>none) (fun l y s h=>oB.mpr AT l y s h)
theorem noI:∀(l:List NoD) (i:Nat) (s:Int),(!decide (0<=(ym (av Rr) i l s).1))=xQ s l
 |[],i,s=>rfl
 |n::r,i,s=>by
  rw[LN,xQ]
  have a:(av Rr (n,()) s).1.1= !(Je s n):=rfl
  have e2:(av Rr (n,()) s).2=gS n:=rfl
  rw[a,e2]
  cases b:Je s n with
  |true=>rw[jd (by decide),noI r (i+1) (gS n)];rfl
  |false=>
   rw[je (by decide)]
   have:decide (0<=(i:Int))=true:=jD (by omega)
   show(!decide (0<=(i:Int)))=_
   rw[this];rfl
theorem jff:∀(l:List NoD) (s:Int),-4611686018427387904<=s->s<=4611686018427387904->dx (EB jeh) (av Rr) l s
 |[],_,_,_=>trivial
 |n::r,s,h1,h2=>by
  refine⟨⟨⟨h1,h2,tZ⟩,tZ⟩,fun a=> ?_⟩
  have a:(!(Je s n))=false:=a
  have a:Je s n=true:=by simpa using a
  unfold Je at a
  rw[ji,vb] at a
  exact jff r (gS n) (by omega) (by omega)
theorem LP:tG:=by
 unfold tG jgq jgd jgp jg1 jgo jg0 Prod.q4;rintro⟨⟨un,rt,le,dk,dw,ni,mi,cp,sb,no,⟨⟩⟩,⟨⟩⟩;have e:yq (un,rt,le,dk,dw,ni,mi,cp,sb,no,())=((wa un 1 240&&wa rt 0 10000&&wa le 0 20&&wa dk 0 1440&&wa dw 0 dk&&U.share ni&&wa mi 0 10000)&&
  (decide ((sb.length:Int)=4)&&sb.all (wc fun(x:Int×Unit)=>(U.share x.fst,()))&&wa cp 0 1000000&&decide ((no.length:Int)<=4)&&xQ 100001 no)):=by
  have n:decide ((sb.length:Int)=4)=decide (sb.length=4):=decide_eq_decide.2 (by omega);have e2:decide ((no.length:Int)<=4)=decide (no.length<=4):=decide_eq_decide.2 (by omega);rw[n,e2];rfl
 simp only;refine⟨fun f=>⟨f,f,f,fun g=>⟨g,g,g,fun i=>⟨i,i,i,fun c=>⟨c,c,c,c,c,fun j=>⟨j,j,j,fun k=>⟨k,k,k,fun d=>⟨d,d,fun _=>⟨d,d,fun l=>⟨l,l,fun _ _=>tZ,l,fun m=>⟨m,m,m,fun a=>⟨a,a,fun _=>⟨a,a,fun b=>⟨b,b,b,jff no 100001 (by omega) (by omega),b,?_⟩,fun h=> ?_⟩⟩,fun h=> ?_⟩,fun h=> ?_⟩,fun h=> ?_⟩⟩,fun h=> ?_⟩,fun h=> ?_⟩,fun h=> ?_⟩,fun h=> ?_⟩,fun h=> ?_⟩,fun h=> ?_⟩,fun h=> ?_⟩
 .rw[noI,e];simp only[f,g,i,c,j,k,d,l,m,a,b,Bool.true_and]
 all_goals
  have q:=e;simp only[h,Bool.false_and,kx] at q;simp only[h,q,and_self]
theorem IJ:wZ PR 55 tE:=
 jdr (Ph (n:=69) (fs:=[(37,bg),(87,cx),(52,eg)]) (k:=88) (e:=ZT) ⟨fun _=>yS,fun _=>G0,fun _=>oR,tZ⟩
  (vQ Tryz.func88 (c:=qh Tryz.f88) (by kernel_rfl) (by kernel_rfl)) (fun _ _ _ h _ _ _ _ b d a=>Pg (tD.mpr Fy) enV h b d a))
  mixed Tryz.func55 (by kernel_rfl) (by kernel_rfl) (by kernel_rfl) (by decide) tF (AS.mpr LP)
namespace U
def cmStep (m:List (Int×CaD)) (c:CaD):List (Int×CaD):=fY .int (Ux c) c m
def rC (l:List CaD) (n:Nat):List (Int×CaD):=(l.take n).foldl cmStep []
def qj (l:LgD) (F:BoD×Unit->Bool×Unit):Bool:=(F ((l,[],()),())).1
end U
def TB:wS:=⟨[.val tLg],[.int],false,fun d=>[(qc (ww d.1)).length<=100000],fun d=>(qA d.1,())⟩
def TC:Ann:=fun r=>match r with
 |14=>some fun σ=>{X:=Nat,sl:=fun i=>[(68,.dat .int (i:Int))],ob:=fun i=>[(64,some (.map false .int tCa (rC (gd (.slice tCa) σ 66) i)))],inv:=fun i=>i<=(gd (.slice tCa) σ 66).length/\∀b:Nat,b<i->bP (gd (.slice tCa) σ 66) b=false,mu:=fun i=>(gd (.slice tCa) σ 66).length-i}
 |_=>none
abbrev jhg (d:LgD×Unit):=(d.1.1.2.2.1.length:Int)
abbrev jkm (d:LgD×Unit):=(decide ((d.1.2.2.1.length:Int)≠(jhg d))|| !d.1.2.2.1.all (wc fun(a:Int×Unit)=>(xR a.1,())))
abbrev jkn (d:LgD×Unit):=(decide ((d.1.2.1.length:Int)≠(jhg d))|| !d.1.2.1.all (wc fun(a:Int×Unit)=>(Mn a.1,())))
abbrev jid (d:LgD×Unit):=(d.1.q4.1.length:Int)
abbrev jko (d:LgD×Unit):=(!yq d.1.2.2.2.1||decide (10<(jid d))|| !d.1.q4.1.all (wc fun(a:CaD×Unit)=>(X8 (jhg d) a.1,())))
abbrev jiN (d:LgD×Unit)(x:Nat):=(nth d.1.q4.1 x)
abbrev jkp (d:LgD×Unit)(x:Nat):=(jaj (wB Ty.int (jiN d x).1 (rC d.1.q4.1 x))&& !decide (wQ ((0:Int),(0:Int),(0:Int),()) (wB Ty.int (jiN d x).1 (rC d.1.q4.1 x))=nth d.1.q4.1 x))
def TD:Prop:=∀(d:LgD×Unit),(qc (ww d.1)).length<=100000->(qc d.1.1).length<=100000/\(decide (qg d.1.1≠0)=true->(qg d.1.1,())=(qA d.1,()))/\(decide (qg d.1.1≠0)=false->d.1.1.2.2.1.length<4611686018427387904->d.1.2.1.length<4611686018427387904->((!decide ((d.1.2.1.length:Int)≠(jhg d)))=true->∀(g:Int),g∈d.1.2.1->wz [])/\((jkn d)=true->((70:Int),())=(qA d.1,()))/\((jkn d)=false->d.1.2.2.1.length<4611686018427387904->((!decide ((d.1.2.2.1.length:Int)≠(jhg d)))=true->∀(g:Int),g∈d.1.2.2.1->wz [])/\((jkm d)=true->((70:Int),())=(qA d.1,()))/\((jkm d)=false->((!!yq d.1.2.2.2.1)=true->d.1.q4.1.length<4611686018427387904)->((!(!yq d.1.2.2.2.1||decide (10<(jid d))))=true->∀(c:CaD),c∈d.1.q4.1->wz [0<=(jhg d),(jhg d)<=4611686018427387904])/\((jko d)=true->((70:Int),())=(qA d.1,()))/\((jko d)=false->d.1.q4.1.length<4611686018427387904->(∃(x:Nat),((0=(x:Int)/\True)/\[]=rC d.1.q4.1 x/\True)/\x<=d.1.q4.1.length/\∀(b:Nat),b<x->bP d.1.q4.1 b=false)/\∀(x:Nat),(x<=d.1.q4.1.length/\∀(b:Nat),b<x->bP d.1.q4.1 b=false)->(decide ((x:Int)<(jid d))=true->0<=(x:Int)/\(x:Int)<(jid d)/\((jkp d x)=true->((71:Int),())=(qA d.1,()))/\((jkp d x)=false->wn ((x:Int)+1)/\∃(a:Nat),(((x:Int)+1=(a:Int)/\True)/\fY Ty.int (jiN d x).1 (jiN d x) (rC d.1.q4.1 x)=rC d.1.q4.1 a/\True)/\(a<=d.1.q4.1.length/\∀(b:Nat),b<a->bP d.1.q4.1 b=false)/\d.1.q4.1.length-a<d.1.q4.1.length-x))/\(decide ((x:Int)<(jid d))=false->((0:Int),())=(qA d.1,()))))))
theorem LQ {l:List CaD} {n:Nat} (h:n<l.length):rC l (n+1)=fY .int (Ux (nth l n)) (nth l n) (rC l n):=by
 unfold rC;rw[L.wO h,jS];rfl
theorem Xy (l:List CaD):∀x,x<=l.length->∀k:Int,(wB .int k (rC l x)=none->∀j,j<x->Ux (nth l j)≠k)/\(∀c,wB .int k (rC l x)=some c->∃j,j<x/\nth l j=c/\Ux c=k)
 |0,_,k=>⟨fun _ j a=>by omega,fun c h=>by cases h⟩
 |x+1,i,k=>by
  obtain⟨d,f⟩:=Xy l x (by omega) k
  rw[LQ (show x<l.length by omega)]
  by_cases e:k=Ux (nth l x)
  subst e
  rw[M.rE (kt:= .int)]
  refine⟨fun h=>(by cases h),fun c h=> ?_⟩
  simp only[jz] at h
  subst h
  exact⟨x,by omega,rfl,rfl⟩
  rw[M.eD (kt:= .int) e]
  refine⟨fun h j a=> ?_,fun c h=> ?_⟩
  by_cases e2:j=x
  subst e2;exact fun b=>e b.symm
  exact d h j (by omega)
  obtain⟨j,a,g⟩:=f c h
  exact⟨j,by omega,g⟩
theorem LR {l:List CaD} {i:Nat} (hi:i<=l.length):bP l i=true↔∃j,j<i/\Ux (nth l j)=Ux (nth l i)/\nth l j≠nth l i:=by
 unfold bP;rw[za];constructor;rintro⟨x,d,h⟩;obtain⟨j,c,rfl⟩:=zb.1 d;simp only[ji,jp,jN,jH] at h;refine⟨j,by omega,?_⟩;rw[L.qI (show j<l.length by omega)];exact h;rintro⟨j,c,a,b⟩;refine⟨nth l j,zb.2 ⟨j,by omega,(L.qI (by omega)).symm⟩,?_⟩;simp only[ji,jp,jN,jH];exact⟨a,b⟩
theorem jcy {l:List CaD} {x:Nat} (u:x<l.length) (h:∀b:Nat,b<x->bP l b=false):
 (jaj (wB .int (nth l x).1 (rC l x))&& !decide (wQ ((0:Int),(0:Int),(0:Int),()) (wB .int (nth l x).1 (rC l x))=nth l x))=bP l x:=by
 obtain⟨k,r⟩:=Xy l x (by omega) (nth l x).1;have no:∀i j,i<j->j<x->Ux (nth l i)=Ux (nth l j)->nth l i=nth l j:=fun i j a f s=>by
  by_cases e:nth l i=nth l j;exact e;have:=(LR (show j<=l.length by omega)).2 ⟨i,a,s,e⟩;rw[h j f] at this;cases this
 rw[jZ,LR (by omega)];cases p:wB (β:=CaD) .int (nth l x).1 (rC l x) with
 |none=>
  have k:=k p;constructor;intro t;cases t;rintro⟨j,f,e,_⟩;exact absurd e (k j f)
 |some c=>
  obtain⟨j,f,d,o⟩:=r c p;show(!decide (c=nth l x))=true↔_;rw[jN,jH];constructor;intro m;exact⟨j,f,by rw[d];exact o,by rw[d];exact m⟩;rintro⟨i,hi,q,e2⟩ g;have n:Ux (nth l i)=Ux (nth l j):=(by rw[d,q];exact o.symm);rcases Nat.lt_trichotomy i j with a|a|a;exact e2 (by rw[no i j a f n,d,g]);subst a;exact e2 (by rw[d,g]);exact e2 (by rw[<-no j i a hi n.symm,d,g])
theorem Pi {l:List CaD} {x:Nat} (a:x<l.length) (h:bP l x=true):cZ l=true:=by
 unfold cZ Ey;rw[za];exact⟨x,jG.2 a,h⟩
theorem LS {l:List CaD} (h:∀b:Nat,b<l.length->bP l b=false):cZ l=false:=by
 unfold cZ Ey;rw[zi];intro b a;rw[h b (jG.1 a)];decide
theorem jeX {b:Bool} (h:(!b)=true):b=false:=by cases b with|false=>rfl|true=>cases h
theorem jeY {b:Bool} (h:(!b)=false):b=true:=by cases b with|true=>rfl|false=>cases h
theorem jfg (a b:Nat) (p:Bool):(decide ((a:Int)≠(b:Int))|| !p)= !(decide (a=b)&&p):=by
 by_cases e:a=b;subst e;simp;have:(a:Int)≠(b:Int):=(by omega);simp[e,this]
theorem jcz (l:LgD):du l=((decide ((dt l).length=(wq (ww l)).length)&&(dt l).all Mn)&&(decide ((nW l).length=(wq (ww l)).length)&&(nW l).all xR)&&(yq (w5 l)&&(decide ((wY l).length<=10)&&(wY l).all (oE (wq (ww l)).length)))):=rfl
theorem Xz:TD:=by
 unfold TD jkp jiN jko jid jkn jkm jhg Prod.q4;rintro⟨l,⟨⟩⟩ C;have y:∀v,qg (ww l)≠0->v=qg (ww l)->((v:Int),())=(qA l,()):=fun v h e=>by
  unfold qA;rw[je h,e]
 have c:¬(qg (ww l)≠0)->du l=false->((70:Int),())=(qA l,()):=fun h e=>by
  unfold qA;rw[jd h,je e]
 have o:¬(qg (ww l)≠0)->du l=true->cZ (wY l)=true->((71:Int),())=(qA l,()):=fun h e e2=>by
  unfold qA;rw[jd h,jd (by rw[e];decide),je e2]
 have n:¬(qg (ww l)≠0)->du l=true->cZ (wY l)=false->((0:Int),())=(qA l,()):=fun h e e2=>by
  unfold qA;rw[jd h,jd (by rw[e];decide),jd (by rw[e2];decide)]
 have q:=jfg (dt l).length (wq (ww l)).length ((dt l).all Mn);have r:=jfg (nW l).length (wq (ww l)).length ((nW l).all xR);have s:(!yq (w5 l)||decide ((10:Int)<(wY l).length)|| !(wY l).all (oE (wq (ww l)).length))= !(yq (w5 l)&&(decide ((wY l).length<=10)&&(wY l).all (oE (wq (ww l)).length))):=by
  have:decide ((10:Int)<(wY l).length)= !decide ((wY l).length<=10):=by
   by_cases e:(wY l).length<=10;rw[jD e,zt (by omega)];rfl;rw[zt e,jD (by omega)];rfl
  rw[this];cases yq (w5 l)<;>cases decide ((wY l).length<=10)<;>rfl
 have m:=jcz l;refine⟨C,fun h=>y _ (ja h) rfl,fun h k _=>⟨fun _ _ _=>tZ,fun g=> ?_,fun g _=>⟨fun _ _ _=>tZ,fun i=> ?_,fun i _=>⟨fun _ _ _=>⟨j8 _,?_,tZ⟩,fun j=> ?_,fun j w=>⟨⟨0,⟨⟨rfl,tZ⟩,rfl,tZ⟩,jm _,fun b u=>by omega⟩,fun x D=> ?_⟩⟩⟩⟩⟩;have g:=q.symm.trans g;refine c (jc h) ?_;rw[m,show(decide ((dt l).length=(wq (ww l)).length)&&(dt l).all Mn)=false from jeX g];rfl;have i:=r.symm.trans i;refine c (jc h) ?_;rw[m,show(decide ((nW l).length=(wq (ww l)).length)&&(nW l).all xR)=false from jeX i,kx];rfl;have k:(wq (ww l)).length<4611686018427387904:=k;show((wq (ww l)).length:Int)<=4611686018427387904;omega;have j:=s.symm.trans j;refine c (jc h) ?_;rw[m,show(yq (w5 l)&&(decide ((wY l).length<=10)&&(wY l).all (oE (wq (ww l)).length)))=false from jeX j,kx];have z:=q.symm.trans g;have A:=r.symm.trans i;have B:=s.symm.trans j;have t:du l=true:=by
  rw[m,show(decide ((dt l).length=(wq (ww l)).length)&&(dt l).all Mn)=true from jeY z,show(decide ((nW l).length=(wq (ww l)).length)&&(nW l).all xR)=true from jeY A,show(yq (w5 l)&&(decide ((wY l).length<=10)&&(wY l).all (oE (wq (ww l)).length)))=true from jeY B];rfl
 obtain⟨E,d⟩:x<=(wY l).length/\∀b:Nat,b<x->bP (wY l) b=false:=D;have w:(wY l).length<4611686018427387904:=w;refine⟨fun f=> ?_,fun f=> ?_⟩;have f:(x:Int)<(wY l).length:=ja f;have a:x<(wY l).length:=(by omega);have cc:=jcy a d;refine⟨j8 _,f,fun p=> ?_,fun p=>⟨iZ6,x+1,⟨⟨by simp,tZ⟩,(LQ a).symm,tZ⟩,⟨a,fun b u=> ?_⟩,by show(wY l).length-(x+1)<(wY l).length-x;omega⟩⟩;exact o (jc h) t (Pi a (cc.symm.trans p));by_cases e:b=x;subst e;exact cc.symm.trans p;exact d b (by omega);have f:¬(x:Int)<(wY l).length:=jc f;exact n (jc h) t (LS fun b u=>d b (by omega))
theorem TE:wZ PR 20 TB:=vl TC Xz Tryz.func20 (kcC GQ (kcC IJ (kcC oR (kcC LJ (kcC LK (kcC LL (kcC DZ kcN))))))) koN
end Go.X
namespace Go.Proofs
open Go.Shelf
def Tryz.sortLn_ren:Go.Shelf.Ren:=⟨fun|6=>96|15=>140|14=>139|28=>177|29=>178|20=>169|21=>170|22=>171|23=>172|24=>173|25=>174|26=>175|27=>176|46=>203|47=>204|48=>205|49=>206|50=>207|57=>221|n=>n,fun|22=>54|24=>61|25=>124|3=>3|39=>92|0=>0|53=>189|55=>191|4=>4|46=>183|45=>182|50=>50|5=>5|9=>9|66=>213|70=>217|76=>231|77=>232|n=>n,fun|n=>n⟩
theorem Tryz.sortLn:Go.Proofs.SlLaysF0.n6 Tryz.prog Tryz.sortLn_ren:={
 mixed:=by kernel_rfl
 f6:=⟨Tryz.f96.name,by decide,xlay Tryz.func96⟩
 f14:=⟨Tryz.f139.name,by decide,xlay Tryz.func139⟩
 f15:=xlay Tryz.func140
 f20:=⟨Tryz.f169.name,by decide,xlay Tryz.func169⟩
 f21:=⟨Tryz.f170.name,by decide,xlay Tryz.func170⟩
 f22:=⟨Tryz.f171.name,by decide,xlay Tryz.func171⟩
 f23:=⟨Tryz.f172.name,by decide,xlay Tryz.func172⟩
 f24:=⟨Tryz.f173.name,by decide,xlay Tryz.func173⟩
 f25:=⟨Tryz.f174.name,by decide,xlay Tryz.func174⟩
 f26:=⟨Tryz.f175.name,by decide,xlay Tryz.func175⟩
 f27:=⟨Tryz.f176.name,by decide,xlay Tryz.func176⟩
 f28:=xlay Tryz.func177
 f29:=xlay Tryz.func178
 f46:=⟨Tryz.f203.name,by decide,xlay Tryz.func203⟩
 f47:=xlay Tryz.func204
 f48:=xlay Tryz.func205
 f49:=⟨Tryz.f206.name,by decide,xlay Tryz.func206⟩
 f50:=⟨Tryz.f207.name,by decide,xlay Tryz.func207⟩
 f57:=⟨Tryz.f221.name,by decide,xlay Tryz.func221⟩
 t0:=Tryz.underlying0
 a0:=Tryz.isAgg0
 z0:=Tryz.sizeOf0
 v0:=Tryz.zeroValue0
 t3:=Tryz.underlying3
 a3:=Tryz.isAgg3
 z3:=Tryz.sizeOf3
 v3:=Tryz.zeroValue3
 t4:=Tryz.underlying4
 a4:=Tryz.isAgg4
 z4:=Tryz.sizeOf4
 v4:=Tryz.zeroValue4
 t5:=Tryz.underlying5
 a5:=Tryz.isAgg5
 z5:=Tryz.sizeOf5
 v5:=Tryz.zeroValue5
 t9:=Tryz.underlying9
 a9:=Tryz.isAgg9
 z9:=Tryz.sizeOf9
 v9:=Tryz.zeroValue9
 t22:=Tryz.underlying54
 a22:=Tryz.isAgg54
 z22:=Tryz.sizeOf54
 v22:=Tryz.zeroValue54
 t25:=Tryz.underlying124
 a25:=Tryz.isAgg124
 z25:=Tryz.sizeOf124
 v25:=Tryz.zeroValue124
 t39:=Tryz.underlying92
 a39:=Tryz.isAgg92
 z39:=Tryz.sizeOf92
 v39:=Tryz.zeroValue92
 t45:=Tryz.underlying182
 a45:=Tryz.isAgg182
 z45:=Tryz.sizeOf182
 v45:=Tryz.zeroValue182
 t46:=Tryz.underlying183
 a46:=Tryz.isAgg183
 z46:=Tryz.sizeOf183
 v46:=Tryz.zeroValue183
 t50:=Tryz.underlying50
 a50:=Tryz.isAgg50
 z50:=Tryz.sizeOf50
 v50:=Tryz.zeroValue50
 t53:=Tryz.underlying189
 a53:=Tryz.isAgg189
 z53:=Tryz.sizeOf189
 v53:=Tryz.zeroValue189
 t55:=Tryz.underlying191
 a55:=Tryz.isAgg191
 z55:=Tryz.sizeOf191
 v55:=Tryz.zeroValue191
 t66:=Tryz.underlying213
 a66:=Tryz.isAgg213
 z66:=Tryz.sizeOf213
 v66:=Tryz.zeroValue213
 t70:=Tryz.underlying217
 a70:=Tryz.isAgg217
 z70:=Tryz.sizeOf217
 v70:=Tryz.zeroValue217
 t76:=Tryz.underlying231
 a76:=Tryz.isAgg231
 z76:=Tryz.sizeOf231
 v76:=Tryz.zeroValue231
 t77:=Tryz.underlying232
 a77:=Tryz.isAgg232
 z77:=Tryz.sizeOf232
 v77:=Tryz.zeroValue232}
end Go.Proofs
namespace Go.X
open U
open Go.Proofs
abbrev rwN:Sh:= .cl (.row 3 .int .no)
namespace U
def bl (o:Option BlD):BlD:=wK (Ty.dflt tBl) o
def Rs (m:List (Int×Option BlD)):Prop:=∀e∈m,∃b,e.2=some b/\rB b
def Um (o:BoD):Prop:=Rs (Rq o)/\(Rq o).length<=100/\((Rq o).map (·.1)).Nodup/\∀e∈Rq o,∀b,e.2=some b->Ro b=e.1
def Rt (b:BlD) (a:Int) (out:List Int):Prop:=(vW b).length<=8/\(∀p∈vW b,0<=p/\p<(out.length:Int))/\0<=a/\a<=100000000000000000/\∀x∈out,-1000000000000000000<=x/\x<=1000000000000000000
end U
def tI:wS:=⟨[.val tLn,.val tLn],[.int],false,fun _=>[],fun d=>(EA d.1 d.2.1,())⟩
def tJ:Prop:=∀(d:JbD×JbD×Unit),(gg [dr d.1.1 d.2.1.1,dr d.1.2.1 d.2.1.2.1],())=(EA d.1 d.2.1,())
abbrev rk:vi:=VM tLn 61
def AU:wS:=⟨[.val tBo],[.slice tLn],false,fun d=>[Um d.1],fun d=>(wU d.1,())⟩
def AV:Ann:=fun r=>match r with
 |3=>some fun σ=>{X:=List (Int×Option BlD)×List LnD,sl:=fun _=>[(3,.own 3 tLn)],ob:=fun x=>[(8,some (.iter .int (.ptr tBl) x.1 none)),(3,some (.row 61 tLn false .yes x.2))],inv:=fun x=>(x.2++gR x.1).Perm (gR (Rq (gb tBo σ 1)))/\Rs x.1,mu:=fun x=>x.1.length}
 |_=>none
abbrev jju (a:Int×Option BlD):=(wK ((((0:Int),(0:Int),(0:Int),(0:Int),(0:Int),(0:Int),()),(0:Int),(0:Int),(0:Int),()),((0:Int),(0:Int),(0:Int),(0:Int),(0:Int),(0:Int),(0:Int),(0:Int),[],[],()),(0:Int),(0:Int),[],(0:Int),(0:Int),false,(0:Int),()) a.2)
abbrev jiO:=(we (Ty.int.pair (Ty.int.pair (Ty.int.pair (Ty.int.pair (Ty.int.pair (Ty.int.pair Ty.unit)))))) fun(a:JbD×JbD×Unit)=>(EA a.1 a.2.1,()))
def AW:Prop:=∀(d:BoD×Unit),Um d.1->(∃(x:List (Int×Option BlD)×List JbD),((True/\True)/\d.1.2.1=x.1/\x.2=[]/\True)/\(x.2++gR x.1).Perm (gR (Rq d.1))/\Rs x.1)/\∀(x:List (Int×Option BlD)×List JbD),(x.2++gR x.1).Perm (gR (Rq d.1))/\Rs x.1->(x.1=[]->(false=true->False)/\(qF->(∀(e:JbD),e∈x.2->∀(y:JbD),y∈x.2->wz [])/\yg jiO x.2/\(wd jiO x.2,())=(wU d.1,())))/\∀(pre:List (Int×Option BlD)) (a:Int×Option BlD) (b:List (Int×Option BlD)),x.1=pre++a::b->(true=true->a.2.isSome=true/\rB (jju a)/\(x.2.length+[vK (jju a)].length)*48<=140737488355328/\∃(c:List (Int×Option BlD)×List JbD),((True/\True)/\x.2++[vK (jju a)]=c.2/\pre++b=c.1/\True)/\((c.2++gR c.1).Perm (gR (Rq d.1))/\Rs c.1)/\c.1.length<x.1.length)/\(true=false->(∀(f:JbD),f∈x.2->∀(y:JbD),y∈x.2->wz [])/\yg jiO x.2/\(wd jiO x.2,())=(wU d.1,()))
def IK:wS:=⟨[.val (.slice .int)],[.int],false,fun d=>[d.1≠[]],fun d=>(aN d.1,())⟩
def IL:Ann:=fun r=>match r with
 |5=>some fun σ=>{X:=Nat,sl:=fun i=>[(4,.dat .int (i:Int)),(3,.dat .int (((gd (.slice .int) σ 0).take i).foldl max (nth (gd (.slice .int) σ 0) 0)))],ob:=fun _=>[],inv:=fun i=>1<=i/\i<=(gd (.slice .int) σ 0).length,mu:=fun i=>(gd (.slice .int) σ 0).length-i}
 |_=>none
def IM:Prop:=∀(d:List Int×Unit),d.1≠[]->d.1.length<4611686018427387904->(decide ((d.1.length:Int)<1)=true->False)/\(decide ((d.1.length:Int)<1)=false->(0:Int)<=0/\0<(d.1.length:Int)/\(∃(x:Nat),((1=(x:Int)/\nth d.1 (Int.toNat 0)=List.foldl max (nth d.1 0) (List.take x d.1)/\True)/\True)/\1<=x/\x<=d.1.length)/\∀(x:Nat),1<=x/\x<=d.1.length->d.1.length<4611686018427387904->(decide ((x:Int)<d.1.length)=true->0<=(x:Int)/\(x:Int)<d.1.length/\wn ((x:Int)+1)/\∃(a:Nat),(((x:Int)+1=(a:Int)/\max (List.foldl max (nth d.1 0) (List.take x d.1)) (nth d.1 x)=List.foldl max (nth d.1 0) (List.take a d.1)/\True)/\True)/\(1<=a/\a<=d.1.length)/\d.1.length-a<d.1.length-x)/\(decide ((x:Int)<d.1.length)=false->(List.foldl max (nth d.1 0) (List.take x d.1),())=(aN d.1,())))
def AX:vi:=⟨[.val (.ptr tBl),.val .int,.own rwN true],[],fun d=>[d.1.isSome=true,Rt (U.bl d.1) d.2.1 d.2.2.1],fun d=>((),(jah d.2.1 (U.bl d.1) d.2.2.1,()))⟩
def AY:Ann:=fun r=>match r with
 |1=>some fun σ=>{X:=Nat,sl:=fun i=>[(13,.dat .int (i:Int))],ob:=fun i=>[(1000002,some (.row 3 .int false .no (ql (gd .int σ 1) (gd (.slice .int) σ 11) (gr .int σ 1000002) i)))],inv:=fun i=>i<=(gd (.slice .int) σ 11).length,mu:=fun i=>(gd (.slice .int) σ 11).length-i}
 |_=>none
abbrev jfK (d:Option BlD×Int×List Int×Unit):=(wK ((((0:Int),(0:Int),(0:Int),(0:Int),(0:Int),(0:Int),()),(0:Int),(0:Int),(0:Int),()),((0:Int),(0:Int),(0:Int),(0:Int),(0:Int),(0:Int),(0:Int),(0:Int),[],[],()),(0:Int),(0:Int),[],(0:Int),(0:Int),false,(0:Int),()) d.1)
abbrev jgG (d:Option BlD×Int×List Int×Unit):=(↑(jfK d).q4.1.length:Int)
abbrev jhE (d:Option BlD×Int×List Int×Unit)(x:Nat):=(nth (jfK d).q4.1 x)
abbrev jie (d:Option BlD×Int×List Int×Unit)(x:Nat):=(ql d.2.1 (jfK d).q4.1 d.2.2.1 x)
abbrev jjv (d:Option BlD×Int×List Int×Unit)(x:Nat):=(nth (jie d x) (jhE d x).toNat+d.2.1.tdiv (jgG d))
abbrev jif (d:Option BlD×Int×List Int×Unit)(x:Nat):=((jie d x).set (jhE d x).toNat (jjv d x))
def AZ:Prop:=∀(d:Option BlD×Int×List Int×Unit),d.1.isSome=true->Rt (U.bl d.1) d.2.1 d.2.2.1->d.1.isSome=true/\((jfK d).q4.1.length<4611686018427387904->(∃(x:Nat),((0=(x:Int)/\True)/\d.2.2.1=ql d.2.1 (jfK d).q4.1 d.2.2.1 x/\True)/\x<=(jfK d).q4.1.length)/\∀(x:Nat),x<=(jfK d).q4.1.length->(decide ((x:Int)<(jgG d))=true->0<=(x:Int)/\(x:Int)<(jgG d)/\0<=nth (jfK d).q4.1 x/\nth (jfK d).q4.1 x<(↑(jie d x).length:Int)/\d.1.isSome=true/\(jgG d)≠0/\wn (d.2.1.tdiv (jgG d))/\wn (jjv d x)/\0<=nth (jfK d).q4.1 x/\nth (jfK d).q4.1 x<(↑(jie d x).length:Int)/\d.1.isSome=true/\((jfK d).q4.1.length<4611686018427387904->(jgG d)≠0/\(decide ((x:Int)<d.2.1.tmod (jgG d))=true->0<=nth (jfK d).q4.1 x/\nth (jfK d).q4.1 x<(↑(jif d x).length:Int)/\wn (nth (jif d x) (jhE d x).toNat+1)/\0<=nth (jfK d).q4.1 x/\nth (jfK d).q4.1 x<(↑(jif d x).length:Int)/\wn ((x:Int)+1)/\∃(a:Nat),(((x:Int)+1=(a:Int)/\True)/\(jif d x).set (jhE d x).toNat (nth (jif d x) (jhE d x).toNat+1)=ql d.2.1 (jfK d).q4.1 d.2.2.1 a/\True)/\a<=(jfK d).q4.1.length/\(jfK d).q4.1.length-a<(jfK d).q4.1.length-x)/\(decide ((x:Int)<d.2.1.tmod (jgG d))=false->wn ((x:Int)+1)/\∃(a:Nat),(((x:Int)+1=(a:Int)/\True)/\(jie d x).set (jhE d x).toNat (jjv d x)=ql d.2.1 (jfK d).q4.1 d.2.2.1 a/\True)/\a<=(jfK d).q4.1.length/\(jfK d).q4.1.length-a<(jfK d).q4.1.length-x)))/\(decide ((x:Int)<(jgG d))=false->()=()/\(ql d.2.1 (jfK d).q4.1 d.2.2.1 x,())=(jah d.2.1 (U.bl d.1) d.2.2.1,())))
theorem xc:tJ:=fun _=>rfl
theorem tK:wZ PR 97 tI:=wL xc Tryz.func97 (kcC y8 (kcC cg kcN)) koN
theorem rm:ac PR 96 rk:=
 CS Tryz.sortLn 61 rfl (jy (by kernel_rfl)) Tryz.isAgg61 Tryz.sizeOf61 (vQ Tryz.func96 (c:=qh Tryz.f96) (by kernel_rfl) (by kernel_rfl))
theorem ZU:iJ EA:=by
 have e:EA=Ur (fun a b=>dr (Ym a) (Ym b)) (fun a b=>dr (jdf a) (jdf b)):=by
  funext a b;unfold EA;simp only[qB,Ur]
  split<;>(try rfl)
  split<;>(try rfl)
  rename_i h;exact(jO.1 h).symm
 rw[e];exact pS (oQ mH Ym) (oQ mH jdf)
theorem XA {a b:LnD} (h:EA a b=0):jdf a=jdf b:=by
 unfold EA at h;rw[qB] at h
 split at h
 contradiction;rw[yk] at h;exact bn.1 h
def jfh (l:List LnD):Prop:=∀a∈l,∀b∈l,jdf a=jdf b->a=b
theorem jfi {l:List LnD} (h:jfh l):yg (we tLn fun x=>(EA x.1 x.2.1,())) l:=Bq ZU (fun a b d e c=>h a d b e (XA c))
theorem TF {o:BoD} (h:Um o):jfh (gR (Rq o)):=by
 obtain⟨j,_,c,d⟩:=h;intro a s b t e;obtain⟨x,f,rfl⟩:=j6.1 s;obtain⟨y,g,rfl⟩:=j6.1 t;obtain⟨p,l,_⟩:=j x f;obtain⟨q,m,_⟩:=j y g;have u:=d x f p l;have w:=d y g q m;rw[l,m] at e;have e:Ro p=Ro q:=e;have n:x.1=y.1:=(by rw[<-u,<-w,e]);have i:=(M.nX (kt:= .int) c (k:=x.1) (v:=x.2)).2 f;have r:=(M.nX (kt:= .int) c (k:=y.1) (v:=y.2)).2 g;rw[n,r] at i;have e2:y.2=x.2:=(by simpa using i);rw[e2]
theorem D4:AW:=by
 unfold AW jiO jju;rintro⟨o,⟨⟩⟩ n;have p:=TF n;obtain⟨s,d,t,u⟩:=id n;have d:(Rq o).length<=100:=d;refine⟨⟨(Rq o,[]),⟨⟨tZ,tZ⟩,rfl,rfl,tZ⟩,List.Perm.refl _,s⟩,fun x q=>⟨fun i=>⟨fun h=>(by cases h),fun _=>⟨fun _ _ _ _=>tZ,?_⟩⟩,fun pre e c j=>⟨fun _=> ?_,fun h=>(by cases h)⟩⟩⟩;obtain⟨l,out⟩:=x;have i:l=[]:=i;subst i;have f:(out++[]).Perm (gR (Rq o)):=q.1;rw[j7] at f;exact⟨jfi fun a r b g=>p a (f.mem_iff.1 r) b (f.mem_iff.1 g),jE (·,()) (J6 (jfi p) f)⟩;obtain⟨l,out⟩:=x;have j:l=pre++e::c:=j;subst j;obtain⟨f,hk⟩:(out++gR (pre++e::c)).Perm (gR (Rq o))/\Rs (pre++e::c):=q;obtain⟨b,g,v⟩:=hk e (by simp);have m:=f.length_eq;simp only[gR,jL,zj,jY] at m;obtain⟨k,z⟩:=e;have g:z=some b:=g;subst g;refine⟨rfl,v,by simp only[jY,zq];omega,(pre++c,out++[vK b]),⟨⟨tZ,tZ⟩,rfl,rfl,tZ⟩,⟨?_,fun y w=>hk y ?_⟩,by simp only[jL,jY];omega⟩;refine List.Perm.trans ?_ f;simp only[gR,zw,zx,jM,kl];exact List.Perm.append_left out List.perm_middle.symm;rcases jr.1 w with h|h;exact jh _ h;exact jg _ (jl _ h)
theorem A0:wZ PR 60 AU:=vl AV D4 Tryz.func60 (kcC bq (kcC tK kcN)) (koC rm koN)
theorem LU:IM:=by
 rintro⟨l,⟨⟩⟩ a c;have a:l≠[]:=a;have b:0<l.length:=kU.2 a;refine⟨fun h=> ?_,fun _=>⟨by decide,by simp only;omega,⟨1,⟨⟨rfl,?_,tZ⟩,tZ⟩,jk _,b⟩,fun x d _=>⟨fun h=> ?_,fun h=> ?_⟩⟩⟩;have h:(l.length:Int)<1:=ja h;omega;show nth l 0=List.foldl max (nth l 0) (l.take 1);have:=L.wO (l:=l) (i:=0) b;rw[this];show nth l 0=max (nth l 0) (nth l 0);omega;have h:(x:Int)<l.length:=ja h;have c:l.length<4611686018427387904:=c;refine⟨j8 _,h,iZ6,x+1,⟨⟨by simp,?_,tZ⟩,tZ⟩,⟨by omega,by show x+1<=l.length;omega⟩,by show l.length-(x+1)<l.length-x;omega⟩;show max (List.foldl max (nth l 0) (l.take x)) (nth l x)=List.foldl max (nth l 0) (l.take (x+1));rw[L.wO (show x<l.length by omega),jS];rfl;have h:¬(x:Int)<l.length:=jc h;show(List.foldl max (nth l 0) (l.take x),())=(aN l,());rw[zv (by omega)];rfl
theorem IN:wZ PR 100 IK:=vl IL LU Tryz.func100 kcN koN
theorem G1 (a:Int) (tm out:List Int) (k:Nat):ql a tm out (k+1)=Jf a tm (ql a tm out k) k:=by
 unfold ql;rw[zf,jS];rfl
theorem D5 {a M:Int} {tm out:List Int} (h:0<=a/\a<=100000000000000000) (d:∀p∈tm,0<=p/\p<(out.length:Int)) (c:∀x∈out,-1000000000000000000<=x/\x<=M):
 ∀k,k<=tm.length->(ql a tm out k).length=out.length/\∀j,j<out.length->-1000000000000000000<=nth (ql a tm out k) j/\nth (ql a tm out k) j<=M+(k:Int)*100000000000000001
 |0,_=>⟨rfl,fun j e=>by
  have:=c _ (L.wi e)
  show _<=nth out j/\nth out j<=_
  omega⟩
 |k+1,hk=>by
  obtain⟨f,g⟩:=D5 h d c k (by omega)
  have m:=d _ (L.wi (show k<tm.length by omega))
  have n:=ZP (b:=(tm.length:Int)) h (by omega)
  rw[G1]
  unfold Jf
  refine⟨by rw[kg,f],fun j e=> ?_⟩
  rw[L.br (by rw[f];omega)]
  have i:=g j e
  have l:=g (nth tm k).toNat (by omega)
  split
  split<;>omega
  omega
theorem D6:AZ:=by
 unfold AZ jif jjv jie jhE jgG jfK Prod.q4;rintro⟨o,a,out,⟨⟩⟩ j w;obtain⟨b,rfl⟩:∃b,o=some b:=Option.isSome_iff_exists.1 j;obtain⟨z,p,q,r,v⟩:Rt b a out:=w;have F:=D5 (tm:=vW b) ⟨q,r⟩ p v;refine⟨rfl,fun B=>⟨⟨0,⟨⟨rfl,tZ⟩,rfl,tZ⟩,jm _⟩,fun x t=>⟨fun h=> ?_,fun h=>⟨rfl,?_⟩⟩⟩⟩;have h:(x:Int)<(vW b).length:=ja h;have n:x<(vW b).length:=(by omega);obtain⟨k,u⟩:=F x (by omega);have d:=p _ (L.wi n);have y:=ZP (b:=((vW b).length:Int)) ⟨q,r⟩ (by omega);have A:=u (nth (vW b) x).toNat (by omega);have l:(nth (vW b) x).toNat<(ql a (vW b) out x).length:=(by rw[k];omega);have j:=G1 a (vW b) out x;have f:((vW b).length:Int)≠0:=(by omega);have g:nth (vW b) x<((ql a (vW b) out x).length:Int):=(by rw[k];exact d.2);have s:nth ((ql a (vW b) out x).set (nth (vW b) x).toNat (nth (ql a (vW b) out x) (nth (vW b) x).toNat+a.tdiv ((vW b).length:Int))) (nth (vW b) x).toNat=nth (ql a (vW b) out x) (nth (vW b) x).toNat+a.tdiv ((vW b).length:Int):=by
  rw[L.br l,je rfl]
 refine⟨j8 _,h,d.1,g,rfl,f,DP y (by omega),L.F0 (by show _<=nth (ql a (vW b) out x) (nth (vW b) x).toNat+a.tdiv ((vW b).length:Int);omega) (by show nth (ql a (vW b) out x) (nth (vW b) x).toNat+a.tdiv ((vW b).length:Int)<=_;omega),d.1,g,rfl,fun _=>⟨f,fun c=> ?_,fun c=> ?_⟩⟩;have c:(x:Int)<a.tmod ((vW b).length:Int):=ja c;have m:((ql a (vW b) out x).set (nth (vW b) x).toNat (nth (ql a (vW b) out x) (nth (vW b) x).toNat+a.tdiv ((vW b).length:Int))).length=out.length:=(by rw[kg,k]);have i:nth (vW b) x<(((ql a (vW b) out x).set (nth (vW b) x).toNat (nth (ql a (vW b) out x) (nth (vW b) x).toNat+a.tdiv ((vW b).length:Int))).length:Int):=(by rw[m];exact d.2);refine⟨d.1,i,?_,d.1,i,iZ6,x+1,⟨⟨by simp,tZ⟩,?_,tZ⟩,by show x+1<=(vW b).length;omega,by show(vW b).length-(x+1)<(vW b).length-x;omega⟩;show wn (nth ((ql a (vW b) out x).set (nth (vW b) x).toNat (nth (ql a (vW b) out x) (nth (vW b) x).toNat+a.tdiv ((vW b).length:Int))) (nth (vW b) x).toNat+1);rw[s];exact iZ6;show((ql a (vW b) out x).set (nth (vW b) x).toNat (nth (ql a (vW b) out x) (nth (vW b) x).toNat+a.tdiv ((vW b).length:Int))).set (nth (vW b) x).toNat (nth ((ql a (vW b) out x).set (nth (vW b) x).toNat (nth (ql a (vW b) out x) (nth (vW b) x).toNat+a.tdiv ((vW b).length:Int))) (nth (vW b) x).toNat+1)=ql a (vW b) out (x+1);rw[s,List.set_set,j];unfold Jf;rw[je c];have c:¬(x:Int)<a.tmod ((vW b).length:Int):=jc c;refine⟨iZ6,x+1,⟨⟨by simp,tZ⟩,?_,tZ⟩,by show x+1<=(vW b).length;omega,by show(vW b).length-(x+1)<(vW b).length-x;omega⟩;show(ql a (vW b) out x).set (nth (vW b) x).toNat (nth (ql a (vW b) out x) (nth (vW b) x).toNat+a.tdiv ((vW b).length:Int))=ql a (vW b) out (x+1);rw[j];unfold Jf;rw[jd c,Int.add_zero];have h:¬(x:Int)<(vW b).length:=jc h;have t:x<=(vW b).length:=t;have e:x=(vW b).length:=(by omega);subst e;rfl
theorem A1:ac PR 77 AX:=sF AY D6 Tryz.func77 kcN koN
namespace U
def X9 (o:BoD):Prop:=Um o/\(dt (cY o)).length<=100/\(∀n∈dt (cY o),0<=n/\n<=20)/\∀e∈Rq o,∀b,e.2=some b->Rp b∈dt (cY o)
def Ya (o:BoD):Prop:=Um o/\(wj (wt (ww (cY o)))).length<=100/\∀e∈Rq o,∀b,e.2=some b->∀p∈vW b,0<=p/\p<((wj (wt (ww (cY o)))).length:Int)
end U
def xd:wS:=⟨[.val tBo],[.slice .int],false,fun d=>[X9 d.1],fun d=>(Uk d.1,())⟩
def xe:Ann:=fun r=>match r with
 |5=>some fun σ=>{X:=Nat,sl:=fun i=>[(20,.dat .int (i:Int))],ob:=fun i=>[(3,some (.row 3 .int false .no (aQ (aN (dt (cY (gb tBo σ 1)))+1).toNat (gd (.slice tLn) σ 18) i)))],inv:=fun i=>i<=(gd (.slice tLn) σ 18).length,mu:=fun i=>(gd (.slice tLn) σ 18).length-i}
 |_=>none
abbrev jgH (d:BoD×Unit)(x:Nat):=(nth (wU d.1) x)
abbrev jiP (d:BoD×Unit):=(aN (dt (cY d.1))+1)
abbrev jig (d:BoD×Unit)(x:Nat):=(aQ (jiP d).toNat (wU d.1) x)
def xf:Prop:=∀(d:BoD×Unit),X9 d.1->d.1.1.2.1.length<4611686018427387904->(decide ((d.1.1.2.1.length:Int)=0)=true->([],())=(Uk d.1,()))/\(decide ((d.1.1.2.1.length:Int)=0)=false->d.1.1.2.1≠[]/\wn (aN d.1.1.2.1+1)/\0<=aN d.1.1.2.1+1/\aN d.1.1.2.1+1=aN d.1.1.2.1+1/\(aN d.1.1.2.1+1).toNat*8<=140737488355328/\Um d.1/\((wU d.1).length<4611686018427387904->(∃(x:Nat),((0=(x:Int)/\True)/\List.replicate (aN d.1.1.2.1+1).toNat 0=aQ (jiP d).toNat (wU d.1) x/\True)/\x<=(wU d.1).length)/\∀(x:Nat),x<=(wU d.1).length->(decide ((x:Int)<(wU d.1).length)=true->0<=(x:Int)/\(x:Int)<(wU d.1).length/\(0:Int)<=(jgH d x).1/\(jgH d x).1<(↑(jig d x).length:Int)/\wn (nth (jig d x) (jgH d x).1.toNat+(jgH d x).q4.2.1)/\(0:Int)<=(jgH d x).1/\(jgH d x).1<(↑(jig d x).length:Int)/\wn ((x:Int)+1)/\∃(a:Nat),(((x:Int)+1=(a:Int)/\True)/\(jig d x).set (jgH d x).1.toNat (nth (jig d x) (jgH d x).1.toNat+(jgH d x).q4.2.1)=aQ (jiP d).toNat (wU d.1) a/\True)/\a<=(wU d.1).length/\(wU d.1).length-a<(wU d.1).length-x)/\(decide ((x:Int)<(wU d.1).length)=false->(aQ (jiP d).toNat (wU d.1) x,())=(Uk d.1,()))))
def FA:wS:=⟨[.val tBo,.val .int],[.slice .int],false,fun d=>[Ya d.1],fun d=>(Ul d.1 d.2.1,())⟩
abbrev jgr (d:BoD×Int×Unit):=(wQ none (wB Ty.int d.2.1 d.1.2.1))
abbrev jih (d:BoD×Int×Unit):=(wK ((((0:Int),(0:Int),(0:Int),(0:Int),(0:Int),(0:Int),()),(0:Int),(0:Int),(0:Int),()),((0:Int),(0:Int),(0:Int),(0:Int),(0:Int),(0:Int),(0:Int),(0:Int),[],[],()),(0:Int),(0:Int),[],(0:Int),(0:Int),false,(0:Int),()) (jgr d))
abbrev jhh (d:BoD×Int×Unit):=(d.1.1.1.1.2.1.length:Int)
abbrev jkq (d:BoD×Int×Unit):=(jah (vK (jih d)).2.2.1 (U.bl (jgr d)) (List.replicate (jhh d).toNat (0:Int)))
def FB:Prop:=∀(d:BoD×Int×Unit),Ya d.1->d.1.1.1.1.2.1.length<4611686018427387904->0<=(jhh d)/\(jhh d)=(jhh d)/\(jhh d).toNat*8<=140737488355328/\((!(jgr d).isNone)=true->(jgr d).isSome=true/\rB (jih d)/\(jgr d).isSome=true/\Rt (U.bl (jgr d)) (vK (jih d)).2.2.1 (List.replicate (jhh d).toNat (0:Int))/\(jgr d).isSome=true/\Rt (U.bl (jgr d)) (vK (jih d)).2.2.2.1 (jkq d)/\(jah (vK (jih d)).2.2.2.1 (U.bl (jgr d)) (jkq d),())=(Ul d.1 d.2.1,()))/\((!(jgr d).isNone)=false->(List.replicate (jhh d).toNat (0:Int),())=(Ul d.1 d.2.1,()))
theorem IP:FB:=by
 unfold FB jkq jhh jih jgr;intro d A E;obtain⟨m,l,k⟩:Ya d.1:=A;have l:(wj (wt (ww (cY d.1)))).length<=100:=l;refine⟨j8 _,rfl,?_,fun h=> ?_,fun h=> ?_⟩;show(((wj (wt (ww (cY d.1)))).length:Int)).toNat*8<=140737488355328;omega;obtain⟨b,e⟩:∃b,wQ none (wB Ty.int d.2.1 d.1.2.1)=some b:=by
  cases g:wQ none (wB Ty.int d.2.1 d.1.2.1) with
  |none=>rw[g] at h;cases h
  |some b=>exact⟨b,rfl⟩
 have i:(d.2.1,some b)∈Rq d.1:=by
  refine(M.nX (kt:= .int) m.2.2.1).1 ?_;cases g:wB (β:=Option BlD) Ty.int d.2.1 d.1.2.1 with
  |none=>rw[g] at e;cases e
  |some v=>rw[g] at e;exact g.trans (jE some e)
 obtain⟨z,o,u⟩:=m.1 _ i;have o:some b=some z:=o;simp only[jz] at o;subst o;have w:LA b:=ck.1 u;have D:=k _ i b rfl;have n:=w.bl.tm;have s:=Q3 w;have C:=Q4 w;have ep:Ul d.1 d.2.1=jcZ (wj (wt (ww (cY d.1)))).length (some b):=jE (jcZ (wj (wt (ww (cY d.1)))).length) e;rw[e,ep];have f:∀p∈vW b,0<=p/\p<((List.replicate (wj (wt (ww (cY d.1)))).length (0:Int)).length:Int):=fun p q=>by rw[zu];exact D p q
 obtain⟨r,y⟩:=D5 (a:=vJ b) (M:=0) (tm:=vW b) ⟨s.1,by omega⟩ f (fun x c=>by rw[List.eq_of_mem_replicate c];omega) (vW b).length (jk _);refine⟨rfl,u,rfl,⟨n,f,s.1,?_,fun x c=> ?_⟩,rfl,⟨n,fun p q=> ?_,C.1,?_,fun x c=> ?_⟩,rfl⟩;show vJ b<=100000000000000000;omega;have c:x∈List.replicate (wj (wt (ww (cY d.1)))).length (0:Int):=c;rw[List.eq_of_mem_replicate c];omega;have B:=f p q;show 0<=p/\p<((ql (vJ b) (vW b) (List.replicate (wj (wt (ww (cY d.1)))).length (0:Int)) (vW b).length).length:Int);rw[r];exact B;show yi b<=100000000000000000;omega;have c:x∈ql (vJ b) (vW b) (List.replicate (wj (wt (ww (cY d.1)))).length (0:Int)) (vW b).length:=c;obtain⟨j,t,rfl⟩:=L.mem_iff.1 c;have:=y j (by rw[r] at t;exact t);omega;have e:wQ none (wB Ty.int d.2.1 d.1.2.1)=none:=by
  cases g:wQ none (wB Ty.int d.2.1 d.1.2.1) with
  |none=>rfl
  |some b=>rw[g] at h;cases h
 have ep:Ul d.1 d.2.1=jcZ (wj (wt (ww (cY d.1)))).length none:=jE (jcZ (wj (wt (ww (cY d.1)))).length) e;rw[ep];rfl
theorem FD:wZ PR 47 FA:=wL IP Tryz.func47 (kcC bq kcN) (koC A1 koN)
theorem D7 {b:BlD} (w:LA b): -1000000<=Mm (vK b)/\Mm (vK b)<=20000000000000000:=by
 have c:=Q3 w;have d:=Q4 w;have e:=w.bl.ta.cp;have a:0<=(vJ b+yi b)*nth (co (gn b)) (eE (gL (qU b))).toNat/\(vJ b+yi b)*nth (co (gn b)) (eE (gL (qU b))).toNat<=10000001000000000*100:=IE (by omega) (jaQ w.bl);have f:=ZP (b:=100) a (by omega);show-1000000<=vJ b+yi b-tU b/\vJ b+yi b-tU b<=20000000000000000;unfold tU;omega
theorem TG {o:BoD} (h:Um o) {x:LnD} (c:x∈wU o):∃k b,(k,some b)∈Rq o/\LA b/\x=vK b:=by
 have c:x∈gR (Rq o):=(qo _).mem_iff.1 c;obtain⟨⟨k,v⟩,d,rfl⟩:=j6.1 c;obtain⟨b,a,e⟩:=h.1 _ d;have a:v=some b:=a;subst a;exact⟨k,b,d,ck.1 e,rfl⟩
theorem TH {o:BoD} (h:Um o):(wU o).length<=100:=by
 have e:(wU o).length=(gR (Rq o)).length:=(qo _).length_eq;have e2:(gR (Rq o)).length=(Rq o).length:=zj _;have:=h.2.1;omega
theorem D8:∀(l:List Int) (a:Int),a<=l.foldl max a/\(∀n∈l,n<=l.foldl max a)/\(l.foldl max a=a\/l.foldl max a∈l)
 |[],a=>⟨zH _,fun n c=>(by cases c),Or.inl rfl⟩
 |x::r,a=>by
  obtain⟨e,d,b⟩:=D8 r (max a x)
  show a<=r.foldl max (max a x)/\_/\(r.foldl max (max a x)=a\/r.foldl max (max a x)∈x::r)
  refine⟨by omega,fun n c=> ?_,?_⟩
  show n<=r.foldl max (max a x)
  rcases jj.1 c with rfl|c
  omega
  exact d n c
  rcases b with b|b
  rcases Int.le_total a x with h|h
  right;rw[b,Int.max_eq_right h];simp
  left;rw[b,Int.max_eq_left h]
  right;exact jl _ b
theorem jcA {l:List Int} {n:Int} (h:n∈l):n<=aN l:=(D8 l (nth l 0)).2.1 n h
theorem ZV {l:List Int} (h:l≠[]):aN l∈l:=by
 rcases(D8 l (nth l 0)).2.2 with a|a;have:aN l=nth l 0:=a;rw[this];exact L.wi (kU.2 h);exact a
theorem G2 {n:Nat} {l:List LnD} {k:Nat} (h:k<l.length):aQ n l (k+1)=jag (aQ n l k) (nth l k):=by
 unfold aQ;rw[L.wO h,jS];rfl
theorem LV {n:Nat} {l:List LnD} (h:∀x∈l,(0<=Ym x/\Ym x<(n:Int))/\-1000000<=Mm x/\Mm x<=20000000000000000):
 ∀k,k<=l.length->(aQ n l k).length=n/\∀j,j<n->-1000000*(k:Int)<=nth (aQ n l k) j/\nth (aQ n l k) j<=20000000000000000*(k:Int)
 |0,_=>⟨zu,fun j a=>by
  have:nth (aQ n l 0) j=0:=L.BC a
  rw[this];omega⟩
 |k+1,hk=>by
  obtain⟨b,c⟩:=LV h k (by omega)
  obtain⟨⟨f,g⟩,i,m⟩:=h _ (L.wi (show k<l.length by omega))
  rw[G2 (by omega)]
  unfold jag
  refine⟨by rw[kg,b],fun j a=> ?_⟩
  rw[L.br (by rw[b];omega)]
  have d:=c j a
  have e:=c (Ym (nth l k)).toNat (by omega)
  split<;>omega
theorem A2:xf:=by
 unfold xf jig jiP jgH Prod.q4;intro d s C;obtain⟨c,a,i,w⟩:X9 d.1:=s;have a:(dt (cY d.1)).length<=100:=a;refine⟨fun h=> ?_,fun h=> ?_⟩;have h:((dt (cY d.1)).length:Int)=0:=ja h;have e:Uk d.1=[]:=je (by omega);rw[e];have h:¬((dt (cY d.1)).length:Int)=0:=jc h;have g:dt (cY d.1)≠[]:=fun e=>h (by rw[e];rfl)
 have D:=i _ (ZV g);have e:Uk d.1=aQ (aN (dt (cY d.1))+1).toNat (wU d.1) (wU d.1).length:=jd (by omega);have m:∀x∈wU d.1,(0<=Ym x/\Ym x<(((aN (dt (cY d.1))+1).toNat:Nat):Int))/\-1000000<=Mm x/\Mm x<=20000000000000000:=fun x m=>by
  obtain⟨k,b,t,u,rfl⟩:=TG c m;have n:=w _ t b rfl;have A:=jcA n;have v:=i _ n;refine⟨⟨v.1,?_⟩,D7 u⟩;show Rp b<_;omega
 have F:=LV m;have B:=TH c;refine⟨g,L.F0 (by show _<=aN (dt (cY d.1))+1;omega) (by show aN (dt (cY d.1))+1<=_;omega),by show 0<=aN (dt (cY d.1))+1;omega,rfl,by show(aN (dt (cY d.1))+1).toNat*8<=140737488355328;omega,c,fun _=>⟨⟨0,⟨⟨rfl,tZ⟩,rfl,tZ⟩,jm _⟩,fun x j=>⟨fun f=> ?_,fun f=> ?_⟩⟩⟩;have f:(x:Int)<(wU d.1).length:=ja f;have l:x<(wU d.1).length:=(by omega);obtain⟨⟨o,y⟩,E,G⟩:=m _ (L.wi l);obtain⟨q,r⟩:=F x (by omega);have z:=r (Ym (nth (wU d.1) x)).toNat (by omega);have p:Ym (nth (wU d.1) x)<((aQ (aN (dt (cY d.1))+1).toNat (wU d.1) x).length:Int):=(by rw[q];exact y);refine⟨j8 _,f,o,p,?_,o,p,iZ6,x+1,⟨⟨by simp,tZ⟩,(G2 l).symm,tZ⟩,by show x+1<=(wU d.1).length;omega,by show(wU d.1).length-(x+1)<(wU d.1).length-x;omega⟩;show wn (nth (aQ (aN (dt (cY d.1))+1).toNat (wU d.1) x) (Ym (nth (wU d.1) x)).toNat+Mm (nth (wU d.1) x));exact iZ6;have f:¬(x:Int)<(wU d.1).length:=jc f;have j:x<=(wU d.1).length:=j;have ex:x=(wU d.1).length:=(by omega);subst ex;rw[e]
theorem xg:wZ PR 61 xd:=vl xe A2 Tryz.func61 (kcC IN (kcC A0 kcN)) koN
namespace U
def bo (l:LgD):BoD:=(l,Uj l,())
def Mp (l:LgD):List Int:=if qA l=0 then Uk (bo l) else[]
def qy (l:LgD) (n:Int):Bool:=wa n 0 (((wq (ww l)).length:Int)-1)
def Mq (l:LgD) (n:Int):List Int:=if qe l (qy l n)=0 then Ul (bo l) n else[]
def vD (m:Int):Bool:=wa m (-100000) 1440
def yr (m:Int):Bool:=wa m 0 1000000000
def tW (l:LgD) (n m:Int):Int:=if qe l (qy l n&&vD m)=0 then(match MA (bo l) n with|some b=>Mm (vK b)-ve m b|none=>0) else 0
end U
theorem IQ {l:LgD} {e:Int×Option BlD} (h:e∈Uj l):∃n,n∈wb (ww l)/\e=(n,some (wI l n)):=by
 rw[GY] at h;obtain⟨n,a,rfl⟩:=j6.1 h;exact⟨n,a,rfl⟩
theorem Q7 {l:LgD} (h:u5 l):(wb (ww l)).length<=4:=by
 have a:=h.dy;unfold qD at a;rw[ji] at a;have a:=(ja a.1).1;unfold wb
 split
 unfold aH;rw[zj];exact jF (zF _ _) (by rw[zO];exact a);exact jm _
theorem jcB {l:LgD} (h:u5 l):Um (U.bo l):=by
 refine⟨fun e c=> ?_,?_,?_,fun e c b a=> ?_⟩;obtain⟨n,d,rfl⟩:=IQ c;exact⟨_,rfl,ck.2 (DT h (O5 d))⟩;show(Uj l).length<=100;have:=Q7 h;rw[GY,zj];omega;show((Uj l).map (·.1)).Nodup;rw[GY,kK];have e:((fun(x:Int×Option BlD)=>x.1)∘fun n=>(n,some (wI l n)))=id:=rfl;rw[e,List.map_id];exact uZ _;obtain⟨n,d,rfl⟩:=IQ c;have a:some (wI l n)=some b:=a;simp only[jz] at a;subst a;exact(yJ l n _ (jk _)).2.2.1
theorem jeZ {l:LgD} (h:u5 l):X9 (U.bo l):=by
 have d:(wq (ww l)).length<=4:=by
  have c:=h.dy;unfold qD at c;rw[ji] at c;exact(ja c.1).1
 refine⟨jcB h,?_,h.py.2,fun e f b a=> ?_⟩;show(dt l).length<=100;rw[h.py.1];omega;obtain⟨n,i,rfl⟩:=IQ f;have a:some (wI l n)=some b:=a;simp only[jz] at a;subst a;have e:Rp (wI l n)=nth (dt l) n.toNat:=(yJ l n _ (jk _)).2.2.2.1;rw[e];have:=O5 i;have g:n.toNat<(dt l).length:=(by rw[h.py.1];omega);exact L.wi g
theorem je0 {l:LgD} (h:u5 l):Ya (U.bo l):=by
 refine⟨jcB h,?_,fun e c b a=> ?_⟩;show(wj (wt (ww l))).length<=100;have:=jeS h;omega;obtain⟨n,d,rfl⟩:=IQ c;have a:some (wI l n)=some b:=a;simp only[jz] at a;subst a;have e:vW (wI l n)=qL l n (wj (wt (ww l))).length:=(yJ l n _ (jk _)).2.2.2.2.1;rw[e];exact(tA _ _).2
namespace U
def qm (l:LgD) (b:Int):BkD:=nth (wq (ww l)) b.toNat
def EC (l:LgD) (b:Int) (x:Int×Bool) (c:CaD):Int×Bool:=if jcX c=b/\PT c<=wJ (qm l b)/\(x.2=false\/PT c<x.1) then(PT c,true) else x
def qP (l:LgD) (b:Int) (k:Nat):Int×Bool:=((wY l).take k).foldl (EC l b) (0,false)
def qG (l:LgD) (b:Int):Int×Bool:=qP l b (wY l).length
def rD (l:LgD) (b:Int) (i:Nat):Bool:=decide (Yl (w5 l)<=wJ (qm l b)+i)||decide (wJ (qm l b)+i<jaZ (w5 l))
def yb (l:LgD) (b:Int) (k:Nat):Int:=(((List.range k).countP (rD l b):Nat):Int)
def PU (l:LgD) (b:Int):Int:=yb l b (gm (qm l b)-wJ (qm l b)).toNat
def dW (l:LgD) (b m:Int):Int:=m*Yk (w5 l)*max (jcW (w5 l)) (up (gm (qm l b)-wJ (qm l b)) (PQ (w5 l)))
def qM (l:LgD) (b m:Int):Int:=dW l b m+up (dW l b m*FW (w5 l)*PU l b) (100*(gm (qm l b)-wJ (qm l b)))
def oU (l:LgD) (b m:Int) (n:NoD):Bool:=decide (gS n<=wJ (qm l b)-m)
def gW (l:LgD) (b m:Int):Int:=if 0<=yT (oU l b m) (qr (w5 l)) then Yj (nth (qr (w5 l)) (yT (oU l b m) (qr (w5 l))).toNat) else 100
def jc0 (l:LgD) (b t:Int):Int:=if(qG l b).2=true then up (qM l b (BT.size t)*gW l b (qG l b).1) 100 else qM l b (BT.size t)
def jc1 (l:LgD) (b t:Int):Int:=if(qG l b).2=true then 0 else Ml (w5 l)*nth (nW l) b.toNat*BT.size t
def jc2 (l:LgD) (b t:Int):Int:=min (PS (w5 l)) (((jc0 l b t+jc1 l b t)*nth (co (w5 l)) (eE (gL (qm l b))).toNat).tdiv 100)
def gi (l:LgD) (b t:Int):LnD:=(nth (dt l) b.toNat,b,jc0 l b t,jc1 l b t,jc2 l b t,jc0 l b t+jc1 l b t-jc2 l b t,())
def lz (l:LgD) (b:Int):Int:=nth (tT (ww l)) b.toNat
def FZ (l:LgD) (b:Int):Bool:=Ev (wt (ww l)) (gL (qm l b)) (lz l b)
def vI (l:LgD) (b:Int):Int:=if FZ l b=true then Mm (gi l b (lz l b)) else 0
def vX (l:LgD) (b m:Int):LgD:=(ww l,dt l,nW l,w5 l,wY l++[(0,b,m,())],())
def t8 (l:LgD) (b:Int):Prop:=yq (w5 l)=true/\(0<=b/\b<((wq (ww l)).length:Int))/\(dt l).length=(wq (ww l)).length/\(nW l).length=(wq (ww l)).length/\(∀n∈nW l,0<=n/\n<=300)/\
 (0<=wJ (qm l b)/\wJ (qm l b)<gm (qm l b)/\gm (qm l b)<=1440)/\(0<=eE (gL (qm l b))/\eE (gL (qm l b))<=3)/\(wY l).length<=1000/\∀c∈wY l,-100000<=PT c/\PT c<=1440
end U
theorem XB {l:LgD} (h:u5 l) {b:Int} (a:0<=b/\b<((wq (ww l)).length:Int)):t8 l b:=by
 obtain⟨d,e⟩:=cN h a;exact⟨cj.2 h.ta,a,h.py.1,h.tr.1,h.tr.2,d,e,by have:=h.cl.1;omega,fun c f=>(h.cl.2 c f).2.2⟩
theorem Q8 {l:LgD} (h:u5 l) {b m:Int} (o:0<=b/\b<((wq (ww l)).length:Int)) (p: -100000<=m/\m<=1440):t8 (vX l b m) b:=by
 obtain⟨d,e,f,g,i,j,k,q,n⟩:=XB h o;refine⟨d,e,f,g,i,j,k,?_,fun c a=> ?_⟩;show(wY l++[(0,b,m,())]).length<=1000;have:=h.cl.1;rw[jL];show _+1<=_;omega;have a:c∈wY l++[(0,b,m,())]:=a;rcases jr.1 a with a|a;exact n c a;rw[zZ] at a;subst a;exact p
theorem i9 {l:LgD} {b:Int} {k:Nat} (h:k<(wY l).length):qP l b (k+1)=EC l b (qP l b k) (nth (wY l) k):=by
 unfold qP;rw[L.wO h,jS];rfl
theorem XC {l:LgD} {b:Int} (h:∀c∈wY l,-100000<=PT c/\PT c<=1440):∀k,k<=(wY l).length->-100000<=(qP l b k).1/\(qP l b k).1<=1440
 |0,_=>by show-100000<=(0:Int)/\(0:Int)<=1440;omega
 |k+1,hk=>by
  rw[i9 (by omega)]
  unfold EC
  split
  exact h _ (L.wi (by omega))
  exact XC h k (by omega)
theorem D9 {l:LgD} {n:Int}:∀k,k<=(wY l).length->(dV (wv l n k),dU (wv l n k))=qP l n k
 |0,_=>rfl
 |k+1,hk=>by
  have d:=D9 (l:=l) (n:=n) k (by omega)
  have c:qU (wv l n k)=qm l n:=(yJ l n k (by omega)).1
  rw[dQ (by omega),i9 (by omega),<-d]
  unfold aI EC
  by_cases a:jcX (nth (wY l) k)=n
  rw[je a]
  unfold qk
  rw[c]
  by_cases b:PT (nth (wY l) k)<=wJ (qm l n)/\(dU (wv l n k)=false\/PT (nth (wY l) k)<dV (wv l n k))
  rw[je b,je ⟨a,b⟩];rfl
  rw[jd b,jd (fun h=>b h.2)]
  rw[jd a,jd (fun h=>a h.1)]
theorem XD {l:LgD} {b:Int} (a:jaZ (w5 l)<=Yl (w5 l)):∀k:Nat,yb l b k=max 0 (wJ (qm l b)+k-max (wJ (qm l b)) (Yl (w5 l)))+max 0 (min (wJ (qm l b)+k) (jaZ (w5 l))-wJ (qm l b))
 |0=>by
  show(0:Int)=_
  omega
 |k+1=>by
  have c:=XD (b:=b) a k
  have e:yb l b (k+1)=yb l b k+(if rD l b k=true then 1 else 0):=by
   unfold yb;rw[zf,zL,kJ]
   split<;>simp
  rw[e,c];by_cases h:rD l b k=true;rw[je h];unfold rD at h;rw[zo,jp,jp] at h;omega;rw[jd h];unfold rD at h;rw[zo,jp,jp] at h;omega
theorem Pj (l:LgD) (b:Int) (k:Nat):0<=yb l b k/\yb l b k<=(k:Int):=by
 unfold yb;have:=List.countP_le_length (p:=rD l b) (l:=List.range k);rw[zO] at this;omega
theorem TJ {w:Int} (h:0<=w):U.up (w*100) 100=w:=by
 unfold U.up;rw[kS (by omega)];omega
theorem Q9 {d:DyD} (h:gN d=0) {b:Nat} (g:b<(wq d).length):(((Mo (nth (tT d) b) (wj (wt d)).length).length:Nat):Int)=BT.size (nth (tT d) b):=by
 have e:tT d=(Ji d).1:=je h;have a:=jaM h g;rw[<-e] at a;have l:(wj (wt d)).length<=8:=by
  have c:=(GU h).1;unfold wu at c;rw[ji] at c;exact(ja c.1).2.2.1
 have k:BT.qd (nth (tT d) b):=⟨a.1,Int.lt_trans a.2 (by
  have:(2:Int)^(wj (wt d)).length<2^62:=by
   rw[BT.Bz,BT.Bz];exact Int.ofNat_lt.2 (Nat.pow_lt_pow_right (by decide) (by omega))
  exact this)⟩
 unfold Mo BT.size;rw[zj,<-List.countP_eq_length_filter];obtain⟨m,j⟩:∃m,62=(wj (wt d)).length+m:=⟨62-(wj (wt d)).length,by omega⟩;rw[j,List.range_add,zL];have z:List.countP (fun p=>BT.has (nth (tT d) b) p) (List.map (fun x=>(wj (wt d)).length+x) (List.range m))=0:=by
  rw[zX];intro p f i;obtain⟨q,n,rfl⟩:=j6.1 f;have:=BT.has_lt a.1 a.2 i;omega
 rw[z,zM];congr 1;refine List.countP_congr fun p f=> ?_
 have:=Bs k (p:Int);rw[this];simp
theorem Ra {l:LgD} (h:gN (ww l)=0) (u:jaZ (w5 l)<=Yl (w5 l)) {n:Int} (A:0<=n/\n<((wq (ww l)).length:Int)) (z:wJ (qm l n)<gm (qm l n)) (v:0<=rF (ca l n)):vK (wI l n)=gi l n (lz l n):=by
 obtain⟨c1,c2,e,f,y,g,i⟩:=yJ l n _ (jk _);have c1:qU (wI l n)=qm l n:=c1;have c2:gn (wI l n)=w5 l:=c2;have e:Ro (wI l n)=n:=e;have f:Rp (wI l n)=nth (dt l) n.toNat:=f;have g:rF (wI l n)=rF (ca l n):=g;have i:FX (wI l n)=FX (ca l n):=i;have a:=D9 (l:=l) (n:=n) _ (jk _);have w:dV (wI l n)=(qG l n).1:=jE (·.1) a;have s:dU (wI l n)=(qG l n).2:=jE (·.2) a;have b:(((qL l n (wj (wt (ww l))).length).length:Nat):Int)=BT.size (lz l n):=by
  unfold qL lz;rw[jcj,je h,<-(je h:tT (ww l)=_)];exact Q9 h (by omega)
 have k:gQ (tV l n (qL l n (wj (wt (ww l))).length))=PU l n:=by
  unfold PU;rw[XD u];show max 0 (gm (qm l n)-max (wJ (qm l n)) (Yl (w5 l)))+max 0 (min (gm (qm l n)) (jaZ (w5 l))-wJ (qm l n))=_;omega
 have p:rF (ca l n)=qM l n (BT.size (lz l n)):=by
  show nu (tV l n (qL l n (wj (wt (ww l))).length))+U.up (nu (tV l n (qL l n (wj (wt (ww l))).length))*FW (w5 l)*gQ (tV l n (qL l n (wj (wt (ww l))).length))) (100*(gm (qm l n)-wJ (qm l n)))=_;have j:nu (tV l n (qL l n (wj (wt (ww l))).length))=dW l n (BT.size (lz l n)):=by
   show(((qL l n (wj (wt (ww l))).length).length:Nat):Int)*Yk (w5 l)*max (jcW (w5 l)) (U.up (gm (qm l n)-wJ (qm l n)) (PQ (w5 l)))=_;rw[b];rfl
  rw[j,k];rfl
 have o:FX (ca l n)=Ml (w5 l)*nth (nW l) n.toNat*BT.size (lz l n):=by
  show(((qL l n (wj (wt (ww l))).length).length:Nat):Int)*Ml (w5 l)*nth (nW l) n.toNat=_;rw[b,Int.mul_assoc,Int.mul_comm]
 have m:eC (wI l n)=oU l n (qG l n).1:=by
  funext x;unfold eC oU;rw[c1,w]
 have r:vJ (wI l n)=jc0 l n (lz l n):=by
  unfold vJ jc0 Ez gW;rw[s,c2,m,g,<-p];by_cases c:(qG l n).2=true;rw[je c];by_cases d:0<=yT (oU l n (qG l n).1) (qr (w5 l));rw[je ⟨c,d⟩,je d];rw[jd (fun h=>d h.2),jd d,TJ v];rw[jd (fun h=>c h.1),jd c]
 have q:yi (wI l n)=jc1 l n (lz l n):=by
  unfold yi jc1;rw[s,i,o]
 have t:tU (wI l n)=jc2 l n (lz l n):=by
  unfold tU jc2;rw[r,q,c1,c2]
 unfold vK gi;rw[r,q,t,e,f]
theorem XE {l:LgD} (h:u5 l) {n:Int} (a:0<=n/\n<((wq (ww l)).length:Int)):vK (wI l n)=gi l n (lz l n):=by
 obtain⟨b,e⟩:=cN h a;have c:=(fL (ww l)).symm.trans h.cp;have d:=h.ta.dw;exact Ra c (by omega) a b.2.1 (IF h a).wk.1
theorem XF (l:LgD) (b m:Int):wI (vX l b m) b=qk m (wI l b):=by
 have e:wI (vX l b m) b=(wY l++[((0,b,m,()):CaD)]).foldl (aI b) (ca l b):=by
  show((wY l++[((0,b,m,()):CaD)]).take (wY l++[((0,b,m,()):CaD)]).length).foldl (aI b) (ca l b)=_;rw[zz]
 have e2:wI l b=(wY l).foldl (aI b) (ca l b):=by
  show((wY l).take (wY l).length).foldl (aI b) (ca l b)=_;rw[zz]
 rw[e,jS,<-e2];show aI b (wI l b) ((0,b,m,()):CaD)=_;exact je rfl
theorem Ea {l:LgD} (h:u5 l) {n m:Int} (a:0<=n/\n<((wq (ww l)).length:Int)):vK (qk m (wI l n))=gi (vX l n m) n (lz l n):=by
 obtain⟨b,e⟩:=cN h a;have c:=(fL (ww l)).symm.trans h.cp;have d:=h.ta.dw;have:=Ra (l:=vX l n m) c (show jaZ (w5 l)<=Yl (w5 l) by omega) a b.2.1 (IF h a).wk.1;rw[XF] at this;exact this
theorem jcC {d:DyD} (h:gN d=0) {n:Int}:n∈wb d↔∃b:Nat,b<(wq d).length/\jfj d (tT d) b=true/\n=(b:Int):=by
 rw[jcq];unfold jfk;rw[je h];unfold jaY;rw[j6];constructor;rintro⟨b,a,rfl⟩;have:=jX.1 a;exact⟨b,by rw[<-Iw h];exact jG.1 this.1,this.2,rfl⟩;rintro⟨b,a,c,rfl⟩;exact⟨b,jX.2 ⟨jG.2 (by rw[Iw h];exact a),c⟩,rfl⟩
theorem Eb {l:LgD} (h:u5 l) {n:Int} (e:0<=n/\n<((wq (ww l)).length:Int)):n∈wb (ww l)↔FZ l n=true:=by
 have c:=(fL (ww l)).symm.trans h.cp;rw[jcC c];constructor;rintro⟨b,d,a,rfl⟩;exact a;intro a;exact⟨n.toNat,by omega,a,by omega⟩
theorem jaT (l:LgD) (n:Int):MA (U.bo l) n=if n∈wb (ww l) then some (wI l n) else none:=by
 show wQ none (wB .int n (Uj l))=_;have a:((Uj l).map (·.1)).Nodup:=by
  rw[GY,kK];have e:((fun(x:Int×Option BlD)=>x.1)∘fun n=>(n,some (wI l n)))=id:=rfl;rw[e,List.map_id];exact uZ _
 by_cases h:n∈wb (ww l);rw[je h];have:(n,some (wI l n))∈Uj l:=by
  rw[GY];exact j6.2 ⟨n,h,rfl⟩
 rw[(M.nX (kt:= .int) a).2 this];rfl;rw[jd h];have b:n∉(Uj l).map (·.1):=by
  rw[GY,kK];have e:((fun(x:Int×Option BlD)=>x.1)∘fun n=>(n,some (wI l n)))=id:=rfl;rw[e,List.map_id];exact h
 rw[M.mfind_none (kt:= .int) b];rfl
theorem jd6 {l:LgD} (h:u5 l) {n m:Int} (c:0<=n/\n<((wq (ww l)).length:Int)):
 (match MA (U.bo l) n with|some b=>Mm (vK b)-ve m b|none=>0)=vI l n-vI (vX l n m) n:=by
 rw[jaT];have e:vI (vX l n m) n=if FZ l n=true then Mm (gi (vX l n m) n (lz l n)) else 0:=rfl;rw[e];unfold vI;by_cases d:n∈wb (ww l);have a:=(Eb h c).1 d;rw[je d,je a,je a,<-XE h c,<-Ea h c];rfl;have a:¬FZ l n=true:=fun a=>d ((Eb h c).2 a)
 rw[jd d,jd a,jd a];rfl
namespace U
def bQ (b:BlD) (most:Int) (k:Nat):Bool:=decide (ve (wJ (qU b)-(k:Int)) b<=most)
def de (b:BlD):Nat:=(wJ (qU b)+100001).toNat
def tX (b:BlD) (most:Int):Option Nat:=(List.range (de b)).find? (bQ b most)
def jei (b:BlD):Option Nat->Int
 |some k=>wJ (qU b)-(k:Int)
 |none=>0
def jej:Option Nat->Int
 |some _=>0
 |none=>3
def jek (most:Int):Option BlD->Int
 |some b=>jei b (tX b most)
 |none=>0
def jel (most:Int):Option BlD->Int
 |some b=>jej (tX b most)
 |none=>3
def A8 (l:LgD) (n most:Int):Int:=if qe l (qy l n&&yr most)=0 then jek most (MA (bo l) n) else 0
def A9 (l:LgD) (n most:Int):Int:=if qe l (qy l n&&yr most)=0 then jel most (MA (bo l) n) else qe l (qy l n&&yr most)
def wW (l:LgD) (b:Int):List Int:=((wJ (qm l b))::(qr (w5 l)).map (fun n=>wJ (qm l b)-gS n))++(if(qG l b).2=true then[(qG l b).1] else[])
def Yb (l:LgD) (b most:Int) (x:Int×Bool) (m:Int):Int×Bool:=if-100000<=m/\Mm (gi (vX l b m) b (lz l b))<=most/\(x.2=false\/x.1<m) then(m,true) else x
def wC (l:LgD) (b most:Int) (k:Nat):Int×Bool:=((wW l b).take k).foldl (Yb l b most) (0,false)
def dz (l:LgD) (b most:Int):Int×Bool:=wC l b most (wW l b).length
end U
theorem LW {α:Type} [Inhabited α] (p:α->Bool) (l:List α):(∃i:Nat,i<l.length/\yT p l=(i:Int)/\p (nth l i)=true/\∀j:Nat,j<i->p (nth l j)=false)\/(yT p l= -1/\∀x∈l,p x=false):=by
 cases e:l.findIdx? p with
 |some i=>
  left;have h:=zK.1 e;obtain⟨a,b,c⟩:=h;refine⟨i,a,by unfold yT;rw[e],by rw[L.qI a];exact b,fun j d=> ?_⟩;have:=c j d;rw[L.qI (by omega)];simpa using this
 |none=>
  right;exact⟨by unfold yT;rw[e],z7.1 e⟩
theorem jcD {α:Type} [Inhabited α] {p q:α->Bool} {l:List α} (h:∀x,q x=true->p x=true) (hi:yT p l= -1\/q (nth l (yT p l).toNat)=true):yT q l=yT p l:=by
 rcases LW p l with⟨i,b,a,g,d⟩|⟨b,a⟩;have f:q (nth l i)=true:=by
  rcases hi with hi|hi;omega;rw[a] at hi;exact hi
 rw[a];refine yc b (fun j c=> ?_) f;cases e:q (nth l j) with
 |false=>rfl
 |true=>have:=d j c;rw[h _ e] at this;cases this
 rw[b];refine q6 (jk _) fun j c=> ?_
 cases e:q (nth l j) with
 |false=>rfl
 |true=>have:=a _ (L.wi c);rw[h _ e] at this;cases this
theorem Ec {b:BlD} {m a:Int} (g:dU (qk m b)=dU (qk a b)) (p:Ez (qk m b)=Ez (qk a b)):ve m b=ve a b:=by
 obtain⟨h,c,q,r,s,i,j⟩:=nT m b;obtain⟨k,d,t,u,v,l,n⟩:=nT a b;have f:vJ (qk m b)=vJ (qk a b):=by
  unfold vJ;rw[g,p,c,i,d,l]
 have e:yi (qk m b)=yi (qk a b):=by
  unfold yi;rw[g,j,n]
 have o:tU (qk m b)=tU (qk a b):=by
  unfold tU;rw[f,e,h,c,k,d]
 show vJ (qk m b)+yi (qk m b)-tU (qk m b)=vJ (qk a b)+yi (qk a b)-tU (qk a b);rw[f,e,o]
def Yg (b:BlD) (x:Int):Int:=yT (fun n=>decide (gS n<=wJ (qU b)-x)) (qr (gn b))
theorem Ed (b:BlD) (m:Int):Ez (qk m b)=Yg b (dV (qk m b)):=by
 obtain⟨a,c,_⟩:=nT m b;unfold Ez Yg;rw[c];congr 1;funext n;unfold eC;rw[a]
theorem LX {b:BlD} {m x:Int} (c:m<=x) (h:Yg b m= -1\/gS (nth (qr (gn b)) (Yg b m).toNat)<=wJ (qU b)-x):Yg b x=Yg b m:=by
 refine jcD (fun n a=> ?_) ?_;have a:=ja a;exact jD (by omega);rcases h with h|h;exact Or.inl h;exact Or.inr (jD h)
theorem Rb {b:BlD} {m:Int} (a:m<=wJ (qU b)) (h:dU b=false\/m<dV b):dU (qk m b)=true/\dV (qk m b)=m:=by
 unfold qk;rw[je ⟨a,h⟩];exact⟨rfl,rfl⟩
theorem IR {b:BlD} {m:Int} (h:¬(dU b=false\/m<dV b)):qk m b=b:=by
 unfold qk;rw[jd (fun a=>h a.2)]
theorem ZW {b:BlD} {m:Int} (v:dU b=true->dV b<=wJ (qU b)) (C:∀n∈qr (gn b),0<=gS n) (g:m<=wJ (qU b)):
 ∃x,(x=wJ (qU b)\/∃n∈qr (gn b),x=wJ (qU b)-gS n)/\m<=x/\ve x b=ve m b:=by
 by_cases h:dU b=false\/m<dV b;obtain⟨c1,c2⟩:=Rb g h;have u:Ez (qk m b)=Yg b m:=(by rw[Ed,c2]);obtain⟨y,D,f,p,c⟩:∃y,(y=wJ (qU b)\/∃n∈qr (gn b),y=wJ (qU b)-gS n)/\m<=y/\y<=wJ (qU b)/\∀x,m<=x->x<=y->Yg b x=Yg b m:=by
  rcases LW (fun n=>decide (gS n<=wJ (qU b)-m)) (qr (gn b)) with⟨i,j,s,t,F⟩|⟨j,s⟩;have t:=ja t;have d:=L.wi j;have:=C _ d;refine⟨wJ (qU b)-gS (nth (qr (gn b)) i),Or.inr ⟨_,d,rfl⟩,by omega,by omega,fun x q E=>LX q (Or.inr ?_)⟩;have e:Yg b m=(i:Int):=s;rw[e];show gS (nth (qr (gn b)) i)<=_;omega;exact⟨_,Or.inl rfl,g,zH _,fun x q E=>LX q (Or.inl j)⟩
 by_cases k:dU b=false\/y<dV b;obtain⟨w,z⟩:=Rb p k;refine⟨y,D,f,Ec (by rw[c1,w]) ?_⟩;rw[u,Ed,z];exact c y f (zH _);have a:dU b=true:=by
  cases e:dU b with
  |true=>rfl
  |false=>exact absurd (Or.inl e) k
 have o:=v a;have G:m<dV b:=by
  rcases h with h|h;rw[a] at h;cases h;exact h
 have l:¬(dU b=false\/wJ (qU b)<dV b):=by
  rintro(h|h);rw[a] at h;cases h;omega
 have B:dV b<=y:=by
  rcases kB y (dV b) with h|h;exact absurd (Or.inr h) k;exact h
 have r:=IR l;refine⟨_,Or.inl rfl,g,Ec (by rw[c1,r,a]) ?_⟩;rw[u,Ed,r];exact c _ (by omega) B;have A:=IR h;have a:dU b=true:=by
  cases e:dU b with
  |true=>rfl
  |false=>exact absurd (Or.inl e) h
 have o:=v a;have l:¬(dU b=false\/wJ (qU b)<dV b):=by
  rintro(h|h);rw[a] at h;cases h;omega
 refine⟨_,Or.inl rfl,g,?_⟩;unfold ve;rw[A,IR l]
theorem xh (b:BlD) (most:Int):(∃k:Nat,tX b most=some k/\k<de b/\bQ b most k=true/\∀j:Nat,j<k->bQ b most j=false)\/(tX b most=none/\∀j:Nat,j<de b->bQ b most j=false):=by
 cases e:tX b most with
 |some k=>
  left;unfold tX at e;obtain⟨h,c,rs,d,l⟩:=List.find?_eq_some_iff_append.1 e;have a:=jE List.length d;rw[zO,jL,jY] at a;have hk:(List.range (de b))[c.length]'(by rw[zO];omega)=k:=by
   have e2:(c++k::rs)[c.length]'(by rw[jL,jY];omega)=k:=by
    rw[List.getElem_append_right (jk _)];simp
   have:=List.getElem_of_eq d (i:=c.length) (by rw[zO];omega);rw[this,e2]
  rw[List.getElem_range] at hk;refine⟨k,rfl,by omega,h,fun j g=> ?_⟩;have f:=List.getElem_of_eq d (i:=j) (by rw[zO];omega);rw[List.getElem_range,List.getElem_append_left (by omega)] at f;have:=l j (by rw[f];exact kP _);simpa using this
 |none=>
  right;unfold tX at e;rw[List.find?_eq_none] at e;refine⟨rfl,fun j g=> ?_⟩;have:=e j (jG.2 g);simpa using this
theorem LY {l:LgD} {b most:Int} {k:Nat} (h:k<(wW l b).length):wC l b most (k+1)=Yb l b most (wC l b most k) (nth (wW l b) k):=by
 unfold wC;rw[L.wO h,jS];rfl
def Us (l:LgD) (b most m:Int):Prop:= -100000<=m/\Mm (gi (vX l b m) b (lz l b))<=most
theorem G3 {l:LgD} {b most:Int}:∀k,k<=(wW l b).length->((wC l b most k).2=false->∀i,i<k->¬Us l b most (nth (wW l b) i))/\
 ((wC l b most k).2=true->(∃i,i<k/\(wC l b most k).1=nth (wW l b) i)/\Us l b most (wC l b most k).1/\∀i,i<k->Us l b most (nth (wW l b) i)->nth (wW l b) i<=(wC l b most k).1)
 |0,_=>⟨fun _ i hi=>by omega,fun h=>by cases h⟩
 |k+1,hk=>by
  obtain⟨o,p⟩:=G3 (l:=l) (b:=b) (most:=most) k (by omega)
  rw[LY (by omega)]
  unfold Yb
  by_cases h: -100000<=nth (wW l b) k/\Mm (gi (vX l b (nth (wW l b) k)) b (lz l b))<=most/\((wC l b most k).2=false\/(wC l b most k).1<nth (wW l b) k)
  rw[je h]
  refine⟨fun f=>(by cases f),fun _=>⟨⟨k,by omega,rfl⟩,⟨h.1,h.2.1⟩,fun i hi a=> ?_⟩⟩
  show nth (wW l b) i<=nth (wW l b) k
  by_cases e:i=k
  subst e;exact zH _
  have g:i<k:=by omega
  cases n:(wC l b most k).2 with
  |false=>exact absurd a (o n i g)
  |true=>
   have r:=(p n).2.2 i g a
   rcases h.2.2 with c|c
   rw[n] at c;cases c
   omega
  rw[jd h]
  refine⟨fun f i hi a=> ?_,fun f=> ?_⟩
  by_cases e:i=k
  subst e;exact h ⟨a.1,a.2,Or.inl f⟩
  exact o f i (by omega) a
  obtain⟨⟨i,hi,q⟩,a,m⟩:=p f
  refine⟨⟨i,by omega,q⟩,a,fun j s d=> ?_⟩
  by_cases e:j=k
  subst e
  rcases kB (wC l b most j).1 (nth (wW l b) j) with c|c
  exact absurd ⟨d.1,d.2,Or.inr c⟩ h
  exact c
  exact m j (by omega) d
theorem Pk {l:LgD} {b:Int}:∀k,k<=(wY l).length->(qP l b k).2=true->(qP l b k).1<=wJ (qm l b)
 |0,_,h=>by cases h
 |k+1,hk,h=>by
  rw[i9 (by omega)] at h⊢
  unfold EC at h⊢
  split
  rename_i a;exact a.2.1
  rename_i a
  rw[jd a] at h
  exact Pk k (by omega) h
theorem Ee {l:LgD} {b x:Int}:x∈wW l b↔x=wJ (qm l b)\/(∃n∈qr (w5 l),x=wJ (qm l b)-gS n)\/((qG l b).2=true/\x=(qG l b).1):=by
 unfold wW;rw[jr,jj,j6];constructor;rintro((h|⟨n,a,rfl⟩)|h);exact Or.inl h;exact Or.inr (Or.inl ⟨n,a,rfl⟩);by_cases e:(qG l b).2=true;rw[je e,zZ] at h;exact Or.inr (Or.inr ⟨e,h⟩);rw[jd e] at h;cases h;rintro(h|⟨n,a,rfl⟩|⟨e,h⟩);exact Or.inl (Or.inl h);exact Or.inl (Or.inr ⟨n,a,rfl⟩);rw[je e];exact Or.inr (zZ.2 h)
theorem jd7 {l:LgD} (h:u5 l) {n most:Int} (O:0<=n/\n<((wq (ww l)).length:Int)):
 (tX (wI l n) most=none/\(dz l n most).2=false)\/(∃k,tX (wI l n) most=some k/\(dz l n most).2=true/\wJ (qU (wI l n))-(k:Int)=(dz l n most).1):=by
 obtain⟨c1,c2,_⟩:=yJ l n _ (jk _);have c1:qU (wI l n)=qm l n:=c1;have c2:gn (wI l n)=w5 l:=c2;have d:=D9 (l:=l) (n:=n) _ (jk _);have Z:dV (wI l n)=(qG l n).1:=jE (·.1) d;have k2:dU (wI l n)=(qG l n).2:=jE (·.2) d;have v:=Pk (l:=l) (b:=n) (wY l).length (jk _);have a:=(cN h O).1;have V:0<=wJ (qm l n)/\wJ (qm l n)<=1440:=⟨a.1,by have:=a.2.1;have:=a.2.2;show wJ (nth _ _)<=_;omega⟩;have u:∀x∈qr (w5 l),0<=gS x:=fun x c=>(iY h.ta.no x c).1.1
 have X:dU (wI l n)=true->dV (wI l n)<=wJ (qU (wI l n)):=fun e=>by
  rw[Z,c1];rw[k2] at e;exact v e
 have s:∀m,Us l n most m↔-100000<=m/\ve m (wI l n)<=most:=fun m=>by
  unfold Us ve;rw[Ea h O]
 have S:∀m,m<=wJ (qm l n)->Us l n most m->∃x∈wW l n,m<=x/\Us l n most x:=fun m W H=>by
  obtain⟨x,c,t,e⟩:=ZW (b:=wI l n) (m:=m) X (by rw[c2];exact u) (by rw[c1];exact W);rw[c1,c2] at c;have o:=(s m).1 H;exact⟨x,Ee.2 (c.elim Or.inl (fun h=>Or.inr (Or.inl h))),t,(s x).2 ⟨by omega,by rw[e];exact o.2⟩⟩
 have E:∀x∈wW l n,x<=wJ (qm l n):=fun x c=>by
  rcases Ee.1 c with e|⟨y,P,e⟩|⟨Q,e2⟩;omega;have:=u y P;omega;rw[e2];exact v Q
 obtain⟨B,w⟩:=G3 (l:=l) (b:=n) (most:=most) (wW l n).length (jk _);have B:(dz l n most).2=false->∀i,i<(wW l n).length->¬Us l n most (nth (wW l n) i):=B;have w:(dz l n most).2=true->(∃i,i<(wW l n).length/\(dz l n most).1=nth (wW l n) i)/\Us l n most (dz l n most).1/\∀i,i<(wW l n).length->Us l n most (nth (wW l n) i)->nth (wW l n) i<=(dz l n most).1:=w;have T:de (wI l n)=(wJ (qm l n)+100001).toNat:=(by unfold de;rw[c1]);have g:∀k:Nat,bQ (wI l n) most k=true↔ve (wJ (qm l n)-(k:Int)) (wI l n)<=most:=fun k=>by
  unfold bQ;rw[jp,c1]
 rcases xh (wI l n) most with⟨k,e,hk,R,C⟩|⟨e,C⟩;right;rw[T] at hk;have H:Us l n most (wJ (qm l n)-(k:Int)):=(s _).2 ⟨by omega,(g k).1 R⟩;obtain⟨x,c,t,q⟩:=S _ (by omega) H;have G:=E x c;have f:∀y,y<=wJ (qm l n)->Us l n most y->y<=wJ (qm l n)-(k:Int):=fun y P I=>by
  rcases kB (wJ (qm l n)-(k:Int)) y with K|K;have D:=C (wJ (qm l n)-y).toNat (by omega);have r:bQ (wI l n) most (wJ (qm l n)-y).toNat=true:=(g _).2 (by
   have:wJ (qm l n)-(((wJ (qm l n)-y).toNat:Nat):Int)=y:=(by omega);rw[this];exact((s y).1 I).2)
  rw[D] at r;cases r;exact K
 have Y:=f x G q;obtain⟨i,hi,J⟩:=L.mem_iff.1 c;have N:(dz l n most).2=true:=by
  cases z:(dz l n most).2 with
  |true=>rfl
  |false=>exact absurd (by rw[J];exact q) (B z i hi)
 obtain⟨⟨j,F,A⟩,p,M⟩:=w N;have g1:=M i hi (by rw[J];exact q);have g2:=f _ (by rw[A];exact E _ (L.wi F)) p;exact⟨k,e,N,by rw[c1];omega⟩;left;refine⟨e,?_⟩;cases z:(dz l n most).2 with
 |false=>rfl
 |true=>
  exfalso;obtain⟨⟨j,F,A⟩,p,M⟩:=w z;have hu:(dz l n most).1<=wJ (qm l n):=(by rw[A];exact E _ (L.wi F));have o:=(s _).1 p;have D:=C (wJ (qm l n)-(dz l n most).1).toNat (by omega);have r:bQ (wI l n) most (wJ (qm l n)-(dz l n most).1).toNat=true:=(g _).2 (by
   have:wJ (qm l n)-(((wJ (qm l n)-(dz l n most).1).toNat:Nat):Int)=(dz l n most).1:=(by omega);rw[this];exact o.2)
  rw[D] at r;cases r
end Go.X

namespace Go.X
open U
theorem LZ {l:LgD} {b:Bool} (h:qe l b=0):u5 l/\b=true:=by
 unfold qe at h
 split at h
 rename_i a;exact absurd h a;rename_i a
 split at h
 rename_i c;exact⟨ee (jO.1 a),c⟩;cases h
theorem Bu {l:LgD} {n:Int}:qy l n=true↔0<=n/\n<((wq (ww l)).length:Int):=by
 unfold qy;rw[vb];omega
open Go.Proofs
namespace U
def Un (l:List NoD) (j:Nat):Bool:=(wa (gS (nth l j)) 0 100000&&wa (Yj (nth l j)) 0 100)&&(decide (j=0)||decide (gS (nth l j)<gS (nth l (j-1))))
def Yc (a b:CaD):Bool:=decide (Ux a=Ux b)&& !decide (a=b)
def Uy (l:LgD) (j:Nat):Bool:=Mn (nth (dt l) j)&&xR (nth (nW l) j)
end U
def L0:wS:=⟨[.val .int,.val .int,.val .int],[.bool],false,fun _=>[],fun d=>(wa d.1 d.2.1 d.2.2.1,())⟩
def L1:Prop:=∀(d:CaD),(decide (d.2.1<=d.1)&&decide (d.1<=d.2.2.1),())=(wa d.1 d.2.1 d.2.2.1,())
def FF:wS:=⟨[.val tTa],[.bool],false,fun _=>[],fun d=>(yq d.1,())⟩
def FG:Ann:=fun r=>match r with
 |4=>some fun σ=>{X:=Nat,sl:=fun i=>[(3,.dat .int (i:Int))],ob:=fun _=>[],inv:=fun i=>i<=(co (gb tTa σ 1)).length/\∀j:Nat,j<i->wa (nth (co (gb tTa σ 1)) j) 0 100=true,mu:=fun i=>(co (gb tTa σ 1)).length-i}
 |9=>some fun σ=>{X:=Nat,sl:=fun i=>[(4,.dat .int (i:Int))],ob:=fun _=>[],inv:=fun i=>i<=(qr (gb tTa σ 1)).length/\∀j:Nat,j<i->Un (qr (gb tTa σ 1)) j=true,mu:=fun i=>(qr (gb tTa σ 1)).length-i}
 |_=>none
abbrev jii (d:TaD×Unit)(x:Nat):=(nth d.1.q4.q4.2.1 x)
abbrev jjw (d:TaD×Unit)(x:Nat):=(!(!wa (jii d x).1 (0:Int) (100000:Int)|| !wa (jii d x).2.1 (0:Int) (100:Int))&&decide (0<(x:Int)))
abbrev jkr (d:TaD×Unit)(x:Nat):=(!wa (jii d x).1 (0:Int) (100000:Int)|| !wa (jii d x).2.1 (0:Int) (100:Int)||decide (0<(x:Int))&&decide ((nth d.1.q4.q4.2.1 ((x:Int)-1).toNat).1<=(jii d x).1))
abbrev jij (d:TaD×Unit):=(d.1.q4.q4.2.1.length:Int)
abbrev jik (d:TaD×Unit):=(d.1.q4.q4.1.length:Int)
abbrev jks (d:TaD×Unit):=(!wa d.1.1 (1:Int) (240:Int)|| !wa d.1.2.1 (0:Int) (10000:Int)|| !wa d.1.2.2.1 (0:Int) (20:Int)|| !wa d.1.q4.1 (0:Int) d.1.2.2.2.1||decide (1440<d.1.2.2.2.1)|| !wa d.1.q4.2.1 (0:Int) (100:Int)|| !wa d.1.q4.2.2.1 (0:Int) (10000:Int)||decide ((jik d)≠4)|| !wa d.1.q4.2.2.2.1 (0:Int) (1000000:Int)||decide (4<(jij d)))
abbrev jkt (d:TaD×Unit)(x:Nat):=(!wa (nth d.1.q4.q4.1 x) (0:Int) (100:Int))
def FH:Prop:=∀(d:TaD×Unit),((!(!wa d.1.1 (1:Int) (240:Int)|| !wa d.1.2.1 (0:Int) (10000:Int)|| !wa d.1.2.2.1 (0:Int) (20:Int)|| !wa d.1.q4.1 (0:Int) d.1.2.2.2.1||decide (1440<d.1.2.2.2.1)|| !wa d.1.q4.2.1 (0:Int) (100:Int)|| !wa d.1.q4.2.2.1 (0:Int) (10000:Int)))=true->d.1.q4.q4.1.length<4611686018427387904)->((!(!wa d.1.1 (1:Int) (240:Int)|| !wa d.1.2.1 (0:Int) (10000:Int)|| !wa d.1.2.2.1 (0:Int) (20:Int)|| !wa d.1.q4.1 (0:Int) d.1.2.2.2.1||decide (1440<d.1.2.2.2.1)|| !wa d.1.q4.2.1 (0:Int) (100:Int)|| !wa d.1.q4.2.2.1 (0:Int) (10000:Int)||decide ((jik d)≠4)|| !wa d.1.q4.2.2.2.1 (0:Int) (1000000:Int)))=true->d.1.q4.q4.2.1.length<4611686018427387904)->((jks d)=true->(false,())=(yq d.1,()))/\((jks d)=false->(∃(x:Nat),((0=(x:Int)/\True)/\True)/\x<=(co d.1).length/\∀(j:Nat),j<x->wa (nth (co d.1) j) (0:Int) 100=true)/\∀(x:Nat),(x<=(co d.1).length/\∀(j:Nat),j<x->wa (nth (co d.1) j) (0:Int) 100=true)->d.1.q4.q4.1.length<4611686018427387904->(decide ((x:Int)<(jik d))=true->0<=(x:Int)/\(x:Int)<(jik d)/\((jkt d x)=true->(false,())=(yq d.1,()))/\((jkt d x)=false->wn ((x:Int)+1)/\∃(a:Nat),(((x:Int)+1=(a:Int)/\True)/\True)/\(a<=(co d.1).length/\∀(j:Nat),j<a->wa (nth (co d.1) j) (0:Int) 100=true)/\(co d.1).length-a<(co d.1).length-x))/\(decide ((x:Int)<(jik d))=false->(∃(x:Nat),((0=(x:Int)/\True)/\True)/\x<=(qr d.1).length/\∀(j:Nat),j<x->Un (qr d.1) j=true)/\∀(x:Nat),(x<=(qr d.1).length/\∀(j:Nat),j<x->Un (qr d.1) j=true)->d.1.q4.q4.2.1.length<4611686018427387904->(decide ((x:Int)<(jij d))=true->0<=(x:Int)/\(x:Int)<(jij d)/\((jjw d x)=true->wn ((x:Int)-1))/\((jjw d x)=true->0<=(x:Int)-1)/\((jjw d x)=true->(x:Int)-1<(jij d))/\((jkr d x)=true->(false,())=(yq d.1,()))/\((jkr d x)=false->wn ((x:Int)+1)/\∃(a:Nat),(((x:Int)+1=(a:Int)/\True)/\True)/\(a<=(qr d.1).length/\∀(j:Nat),j<a->Un (qr d.1) j=true)/\(qr d.1).length-a<(qr d.1).length-x))/\(decide ((x:Int)<(jij d))=false->(true,())=(yq d.1,()))))
def FJ:wS:=⟨[.val tLg],[.bool],false,fun _=>[],fun d=>(du d.1,())⟩
def FK:Ann:=fun r=>match r with
 |5=>some fun σ=>{X:=Nat,sl:=fun i=>[(4,.dat .int (i:Int))],ob:=fun _=>[],inv:=fun i=>i<=(gd .int σ 3).toNat/\∀j:Nat,j<i->Uy (gb tLg σ 1) j=true,mu:=fun i=>(gd .int σ 3).toNat-i}
 |10=>some fun σ=>{X:=Nat,sl:=fun i=>[(5,.dat .int (i:Int))],ob:=fun _=>[],inv:=fun i=>i<=(wY (gb tLg σ 1)).length/\∀j:Nat,j<i->oE (gd .int σ 3).toNat (nth (wY (gb tLg σ 1)) j)=true,mu:=fun i=>(wY (gb tLg σ 1)).length-i}
 |_=>none
abbrev jf2 (d:LgD×Unit):=(d.1.1.2.2.1.length:Int)
abbrev jku (d:LgD×Unit)(x:Nat):=(!wa (nth d.1.2.1 x) (0:Int) (20:Int)|| !wa (nth d.1.2.2.1 x) (0:Int) (300:Int))
abbrev jiQ (d:LgD×Unit)(x:Nat):=(nth d.1.q4.1 x)
abbrev jkv (d:LgD×Unit)(x:Nat):=(!wa (jiQ d x).1 (0:Int) (99:Int)|| !wa (jiQ d x).2.1 (0:Int) ((jf2 d)-1)|| !wa (jiQ d x).2.2.1 (-100000:Int) (1440:Int))
abbrev jjx (d:LgD×Unit):=((d.1.2.1.length:Int)≠(jf2 d))
abbrev jiR (d:LgD×Unit):=(d.1.q4.1.length:Int)
abbrev jkw (d:LgD×Unit):=(decide (jjx d)||decide ((d.1.2.2.1.length:Int)≠(jf2 d))|| !yq d.1.2.2.2.1||decide (10<(jiR d)))
def FL:Prop:=∀(d:LgD×Unit),d.1.1.2.2.1.length<4611686018427387904->d.1.2.1.length<4611686018427387904->((!decide (jjx d))=true->d.1.2.2.1.length<4611686018427387904)->((!(decide (jjx d)||decide ((d.1.2.2.1.length:Int)≠(jf2 d))|| !yq d.1.2.2.2.1))=true->d.1.q4.1.length<4611686018427387904)->((jkw d)=true->(false,())=(du d.1,()))/\((jkw d)=false->(∃(x:Nat),((0=(x:Int)/\True)/\True)/\x<=(jf2 d).toNat/\∀(j:Nat),j<x->Uy d.1 j=true)/\∀(x:Nat),(x<=(jf2 d).toNat/\∀(j:Nat),j<x->Uy d.1 j=true)->(decide ((x:Int)<(jf2 d))=true->0<=(x:Int)/\(x:Int)<d.1.2.1.length/\((!!wa (nth d.1.2.1 x) (0:Int) (20:Int))=true->0<=(x:Int))/\((!!wa (nth d.1.2.1 x) (0:Int) (20:Int))=true->(x:Int)<d.1.2.2.1.length)/\((jku d x)=true->(false,())=(du d.1,()))/\((jku d x)=false->wn ((x:Int)+1)/\∃(a:Nat),(((x:Int)+1=(a:Int)/\True)/\True)/\(a<=(jf2 d).toNat/\∀(j:Nat),j<a->Uy d.1 j=true)/\(jf2 d).toNat-a<(jf2 d).toNat-x))/\(decide ((x:Int)<(jf2 d))=false->(∃(x:Nat),((0=(x:Int)/\True)/\True)/\x<=(wY d.1).length/\∀(j:Nat),j<x->oE (jf2 d).toNat (nth (wY d.1) j)=true)/\∀(x:Nat),(x<=(wY d.1).length/\∀(j:Nat),j<x->oE (jf2 d).toNat (nth (wY d.1) j)=true)->d.1.q4.1.length<4611686018427387904->(decide ((x:Int)<(jiR d))=true->0<=(x:Int)/\(x:Int)<(jiR d)/\((!!wa (jiQ d x).1 (0:Int) (99:Int))=true->wn ((jf2 d)-1))/\((jkv d x)=true->(false,())=(du d.1,()))/\((jkv d x)=false->wn ((x:Int)+1)/\∃(a:Nat),(((x:Int)+1=(a:Int)/\True)/\True)/\(a<=(wY d.1).length/\∀(j:Nat),j<a->oE (jf2 d).toNat (nth (wY d.1) j)=true)/\(wY d.1).length-a<(wY d.1).length-x))/\(decide ((x:Int)<(jiR d))=false->(true,())=(du d.1,()))))
def Pl:wS:=⟨[.val tLg],[.int],false,fun d=>[(wq (ww d.1)).length<=1000000],fun d=>(qA d.1,())⟩
def Pn:Ann:=fun r=>match r with
 |7=>some fun σ=>{X:=Nat,sl:=fun i=>[(4,.dat .int (i:Int))],ob:=fun _=>[],inv:=fun i=>i<=(wY (gb tLg σ 1)).length/\∀b:Nat,b<i->bP (wY (gb tLg σ 1)) b=false,mu:=fun i=>(wY (gb tLg σ 1)).length-i}
 |10=>some fun σ=>{X:=Nat,sl:=fun i=>[(5,.dat .int (i:Int))],ob:=fun _=>[],inv:=fun i=>i<=(gd .int σ 4).toNat/\∀j:Nat,j<i->Yc (nth (wY (gb tLg σ 1)) (gd .int σ 4).toNat) (nth (wY (gb tLg σ 1)) j)=false,mu:=fun i=>(gd .int σ 4).toNat-i}
 |_=>none
abbrev jil (d:LgD×Unit)(x:Nat)(a:Nat):=((nth d.1.q4.1 x).1=(nth d.1.q4.1 a).1)
abbrev jhF (d:LgD×Unit):=(d.1.q4.1.length:Int)
abbrev jkx (d:LgD×Unit)(x:Nat)(a:Nat):=(decide (jil d x a)&& !decide (nth d.1.q4.1 x=nth d.1.q4.1 a))
def Po:Prop:=∀(d:LgD×Unit),(wq (ww d.1)).length<=1000000->(wq d.1.1).length<=1000000/\(decide (gN d.1.1≠0)=true->(gN d.1.1,())=(qA d.1,()))/\(decide (gN d.1.1≠0)=false->((!du d.1)=true->((70:Int),())=(qA d.1,()))/\((!du d.1)=false->(∃(x:Nat),((0=(x:Int)/\True)/\True)/\x<=(wY d.1).length/\∀(b:Nat),b<x->bP (wY d.1) b=false)/\∀(x:Nat),(x<=(wY d.1).length/\∀(b:Nat),b<x->bP (wY d.1) b=false)->d.1.q4.1.length<4611686018427387904->(decide ((x:Int)<(jhF d))=true->(∃(a:Nat),((0=(a:Int)/\True)/\True)/\a<=x/\∀(j:Nat),j<a->Yc (nth (wY d.1) x) (nth (wY d.1) j)=false)/\∀(a:Nat),(a<=x/\∀(j:Nat),j<a->Yc (nth (wY d.1) x) (nth (wY d.1) j)=false)->(decide ((a:Int)<(x:Int))=true->0<=(x:Int)/\(x:Int)<(jhF d)/\0<=(a:Int)/\(a:Int)<(jhF d)/\(decide (jil d x a)=true->0<=(x:Int))/\(decide (jil d x a)=true->(x:Int)<(jhF d))/\(decide (jil d x a)=true->0<=(a:Int))/\(decide (jil d x a)=true->(a:Int)<(jhF d))/\((jkx d x a)=true->((71:Int),())=(qA d.1,()))/\((jkx d x a)=false->wn ((a:Int)+1)/\∃(c:Nat),(((a:Int)+1=(c:Int)/\True)/\True)/\(c<=x/\∀(j:Nat),j<c->Yc (nth (wY d.1) x) (nth (wY d.1) j)=false)/\x-c<x-a))/\(decide ((a:Int)<(x:Int))=false->wn ((x:Int)+1)/\∃(c:Nat),(((x:Int)+1=(c:Int)/\True)/\True)/\(c<=(wY d.1).length/\∀(b:Nat),b<c->bP (wY d.1) b=false)/\(wY d.1).length-c<(wY d.1).length-x))/\(decide ((x:Int)<(jhF d))=false->((0:Int),())=(qA d.1,()))))
def Ef:wS:=⟨[.val tLg,.val .int],[.bool],false,fun _=>[],fun d=>(qy d.1 d.2.1,())⟩
def Eg:Prop:=∀(d:LgD×Int×Unit),d.1.1.2.2.1.length<4611686018427387904->wn ((d.1.1.2.2.1.length:Int)-1)/\(wa d.2.1 (0:Int) ((d.1.1.2.2.1.length:Int)-1),())=(qy d.1 d.2.1,())
def Eh:wS:=⟨[.val tLg,.val .int],[.int,.bool],false,fun d=>[t8 d.1 d.2.1],fun d=>((qG d.1 d.2.1).1,(qG d.1 d.2.1).2,())⟩
def Ei:Ann:=fun r=>match r with
 |3=>some fun σ=>{X:=Nat,sl:=fun i=>[(8,.dat .int (i:Int)),(6,.dat .int (qP (gb tLg σ 2) (gd .int σ 1) i).1),(7,.dat .bool (qP (gb tLg σ 2) (gd .int σ 1) i).2)],ob:=fun _=>[],inv:=fun i=>i<=(wY (gb tLg σ 2)).length,mu:=fun i=>(wY (gb tLg σ 2)).length-i}
 |_=>none
abbrev jhG (d:LgD×Int×Unit)(x:Nat):=(nth d.1.q4.1 x)
abbrev jg2 (d:LgD×Int×Unit)(x:Nat):=(qP d.1 d.2.1 x)
abbrev jky (d:LgD×Int×Unit)(x:Nat):=(decide ((jhG d x).2.1=d.2.1)&&decide ((jhG d x).2.2.1<=(nth d.1.1.2.2.1 d.2.1.toNat).2.2.1)&&(!(jg2 d x).2||decide ((jhG d x).2.2.1<(jg2 d x).1)))
def Ej:Prop:=∀(d:LgD×Int×Unit),t8 d.1 d.2.1->(∃(x:Nat),((0=(x:Int)/\0=(jg2 d x).1/\false=(jg2 d x).2/\True)/\True)/\x<=(wY d.1).length)/\∀(x:Nat),x<=(wY d.1).length->d.1.q4.1.length<4611686018427387904->(decide ((x:Int)<d.1.q4.1.length)=true->0<=(x:Int)/\(x:Int)<d.1.q4.1.length/\(decide ((jhG d x).2.1=d.2.1)=true->0<=d.2.1)/\(decide ((jhG d x).2.1=d.2.1)=true->d.2.1<(d.1.1.2.2.1.length:Int))/\((jky d x)=true->wn ((x:Int)+1)/\∃(a:Nat),(((x:Int)+1=(a:Int)/\true=(qP d.1 d.2.1 a).2/\(jhG d x).2.2.1=(qP d.1 d.2.1 a).1/\True)/\True)/\a<=(wY d.1).length/\(wY d.1).length-a<(wY d.1).length-x)/\((jky d x)=false->wn ((x:Int)+1)/\∃(a:Nat),(((jg2 d x).2=(qP d.1 d.2.1 a).2/\(jg2 d x).1=(qP d.1 d.2.1 a).1/\(x:Int)+1=(a:Int)/\True)/\True)/\a<=(wY d.1).length/\(wY d.1).length-a<(wY d.1).length-x))/\(decide ((x:Int)<d.1.q4.1.length)=false->((jg2 d x).1,(jg2 d x).2,())=((qG d.1 d.2.1).1,(qG d.1 d.2.1).2,()))
def ZX:wS:=⟨[.val .int,.val .int],[.int],false,fun d=>[0<=d.1,0<d.2.1,d.1<=4611686018427387904,d.2.1<=1000000000],fun d=>(U.up d.1 d.2.1,())⟩
def ZY:Prop:=∀(d:Int×Int×Unit),0<=d.1->0<d.2.1->d.1<=4611686018427387904->d.2.1<=1000000000->wn (d.1+d.2.1)/\wn (d.1+d.2.1-1)/\d.2.1≠0/\wn ((d.1+d.2.1-1).tdiv d.2.1)/\((d.1+d.2.1-1).tdiv d.2.1,())=(U.up d.1 d.2.1,())
def TK:wS:=⟨[.val tLg,.val .int,.val .int],[.int],false,fun d=>[t8 d.1 d.2.1,0<=d.2.2.1/\d.2.2.1<=8],fun d=>(qM d.1 d.2.1 d.2.2.1,())⟩
def TL:Ann:=fun r=>match r with
 |4=>some fun σ=>{X:=Nat,sl:=fun k=>[(11,.dat .int (wJ (qm (gb tLg σ 3) (gd .int σ 1))+(k:Int))),(10,.dat .int (yb (gb tLg σ 3) (gd .int σ 1) k))],ob:=fun _=>[],inv:=fun k=>k<=(gm (qm (gb tLg σ 3) (gd .int σ 1))-wJ (qm (gb tLg σ 3) (gd .int σ 1))).toNat,mu:=fun k=>(gm (qm (gb tLg σ 3) (gd .int σ 1))-wJ (qm (gb tLg σ 3) (gd .int σ 1))).toNat-k}
 |_=>none
abbrev jgI (d:LgD×Int×Int×Unit):=(nth d.1.1.2.2.1 d.2.1.toNat)
abbrev jhi (d:LgD×Int×Int×Unit):=((jgI d).2.2.2.1-(jgI d).2.2.1)
abbrev jhj (d:LgD×Int×Int×Unit):=(U.up (jhi d) d.1.2.2.2.1.1)
abbrev jjy (d:LgD×Int×Int×Unit)(x:Nat):=(d.2.2.1*d.1.2.2.2.1.2.1*max d.1.2.2.2.1.2.2.1 (jhj d)*d.1.2.2.2.1.q4.2.1*yb d.1 d.2.1 x)
abbrev jf6 (d:LgD×Int×Int×Unit):=(qm d.1 d.2.1)
abbrev jg3 (d:LgD×Int×Int×Unit):=(gm (jf6 d)-wJ (jf6 d))
abbrev jkz (d:LgD×Int×Int×Unit)(x:Nat):=(decide (d.1.2.2.2.1.2.2.2.1<=wJ (jf6 d)+(x:Int))||decide (wJ (jf6 d)+(x:Int)<d.1.2.2.2.1.q4.1))
def TM:Prop:=∀(d:LgD×Int×Int×Unit),t8 d.1 d.2.1->0<=d.2.2.1/\d.2.2.1<=8->0<=d.2.1/\d.2.1<(d.1.1.2.2.1.length:Int)/\wn (jhi d)/\(∃(x:Nat),(((jgI d).2.2.1=wJ (jf6 d)+(x:Int)/\0=yb d.1 d.2.1 x/\True)/\True)/\x<=(jg3 d).toNat)/\∀(x:Nat),x<=(jg3 d).toNat->(decide (wJ (jf6 d)+(x:Int)<(jgI d).2.2.2.1)=true->((jkz d x)=true->wn (yb d.1 d.2.1 x+1)/\wn (wJ (jf6 d)+(x:Int)+1)/\∃(a:Nat),((wJ (jf6 d)+(x:Int)+1=wJ (jf6 d)+(a:Int)/\yb d.1 d.2.1 x+1=yb d.1 d.2.1 a/\True)/\True)/\a<=(jg3 d).toNat/\(jg3 d).toNat-a<(jg3 d).toNat-x)/\((jkz d x)=false->wn (wJ (jf6 d)+(x:Int)+1)/\∃(a:Nat),((yb d.1 d.2.1 x=yb d.1 d.2.1 a/\wJ (jf6 d)+(x:Int)+1=wJ (jf6 d)+(a:Int)/\True)/\True)/\a<=(jg3 d).toNat/\(jg3 d).toNat-a<(jg3 d).toNat-x))/\(decide (wJ (jf6 d)+(x:Int)<(jgI d).2.2.2.1)=false->wn (d.2.2.1*d.1.2.2.2.1.2.1)/\(0:Int)<=(jgI d).2.2.2.1-(jgI d).2.2.1/\0<d.1.2.2.2.1.1/\(jgI d).2.2.2.1-(jgI d).2.2.1<=4611686018427387904/\d.1.2.2.2.1.1<=1000000000/\wn (d.2.2.1*d.1.2.2.2.1.2.1*max d.1.2.2.2.1.2.2.1 (jhj d))/\wn (d.2.2.1*d.1.2.2.2.1.2.1*max d.1.2.2.2.1.2.2.1 (jhj d)*d.1.2.2.2.1.q4.2.1)/\wn (jjy d x)/\wn ((100:Int)*(jhi d))/\0<=d.2.2.1*d.1.2.2.2.1.2.1*max d.1.2.2.2.1.2.2.1 (jhj d)*d.1.2.2.2.1.q4.2.1*yb d.1 d.2.1 x/\(0:Int)<100*(jhi d)/\d.2.2.1*d.1.2.2.2.1.2.1*max d.1.2.2.2.1.2.2.1 (jhj d)*d.1.2.2.2.1.q4.2.1*yb d.1 d.2.1 x<=4611686018427387904/\(100:Int)*(jhi d)<=1000000000/\wn (d.2.2.1*d.1.2.2.2.1.2.1*max d.1.2.2.2.1.2.2.1 (jhj d)+U.up (jjy d x) ((100:Int)*(jhi d)))/\(d.2.2.1*d.1.2.2.2.1.2.1*max d.1.2.2.2.1.2.2.1 (jhj d)+U.up (jjy d x) ((100:Int)*(jhi d)),())=(qM d.1 d.2.1 d.2.2.1,()))
def IT:wS:=⟨[.val tLg,.val .int,.val .int],[.int],false,fun d=>[t8 d.1 d.2.1,-100000<=d.2.2.1/\d.2.2.1<=1440],fun d=>(gW d.1 d.2.1 d.2.2.1,())⟩
def IU:Ann:=fun r=>match r with
 |2=>some fun σ=>{X:=Nat,sl:=fun i=>[(7,.dat .int (i:Int))],ob:=fun _=>[],inv:=fun i=>i<=(qr (w5 (gb tLg σ 3))).length/\∀j:Nat,j<i->oU (gb tLg σ 3) (gd .int σ 1) (gd .int σ 2) (nth (qr (w5 (gb tLg σ 3))) j)=false,mu:=fun i=>(qr (w5 (gb tLg σ 3))).length-i}
 |_=>none
abbrev jkA (d:LgD×Int×Int×Unit)(x:Nat):=((nth d.1.2.2.2.1.q4.q4.2.1 x).1<=(nth d.1.1.2.2.1 d.2.1.toNat).2.2.1-d.2.2.1)
abbrev jjz (d:LgD×Int×Int×Unit):=(d.1.2.2.2.1.q4.q4.2.1.length:Int)
def IV:Prop:=∀(d:LgD×Int×Int×Unit),t8 d.1 d.2.1->(-100000:Int)<=d.2.2.1/\d.2.2.1<=1440->(∃(x:Nat),((0=(x:Int)/\True)/\True)/\x<=(qr (w5 d.1)).length/\∀(j:Nat),j<x->oU d.1 d.2.1 d.2.2.1 (nth (qr (w5 d.1)) j)=false)/\∀(x:Nat),(x<=(qr (w5 d.1)).length/\∀(j:Nat),j<x->oU d.1 d.2.1 d.2.2.1 (nth (qr (w5 d.1)) j)=false)->d.1.2.2.2.1.q4.q4.2.1.length<4611686018427387904->(decide ((x:Int)<(jjz d))=true->0<=(x:Int)/\(x:Int)<(jjz d)/\0<=d.2.1/\d.2.1<(d.1.1.2.2.1.length:Int)/\wn ((nth d.1.1.2.2.1 d.2.1.toNat).2.2.1-d.2.2.1)/\(decide (jkA d x)=true->(nth d.1.2.2.2.1.q4.q4.2.1 x).2=(gW d.1 d.2.1 d.2.2.1,()))/\(decide (jkA d x)=false->wn ((x:Int)+1)/\∃(a:Nat),(((x:Int)+1=(a:Int)/\True)/\True)/\(a<=(qr (w5 d.1)).length/\∀(j:Nat),j<a->oU d.1 d.2.1 d.2.2.1 (nth (qr (w5 d.1)) j)=false)/\(qr (w5 d.1)).length-a<(qr (w5 d.1)).length-x))/\(decide ((x:Int)<(jjz d))=false->((100:Int),())=(gW d.1 d.2.1 d.2.2.1,()))
def TN:wS:=⟨[.val .int],[.int],false,fun d=>[BT.qd d.1],fun d=>(BT.size d.1,())⟩
def TO:Ann:=fun r=>match r with
 |2=>some fun σ=>{X:=Nat,sl:=fun j=>[(0,.dat .int (qO (gd .int σ 0) j)),(3,.dat .int (BT.size (gd .int σ 0)-BT.size (qO (gd .int σ 0) j)))],ob:=fun _=>[],inv:=fun j=>BT.qd (qO (gd .int σ 0) j),mu:=fun j=>(qO (gd .int σ 0) j).toNat}
 |_=>none
def TP:Prop:=∀(d:Int×Unit),BT.qd d.1->(∃(x:Nat),((d.1=qO d.1 x/\0=BT.size d.1-BT.size (qO d.1 x)/\True)/\True)/\BT.qd (qO d.1 x))/\∀(x:Nat),BT.qd (qO d.1 x)->(decide (0<qO d.1 x)=true->wn (BT.size d.1-BT.size (qO d.1 x)+fZ (qO d.1 x) (1:Int))/\(0:Int)<=1/\(1:Int)<=64/\∃(a:Nat),((qO d.1 x/(2:Int)^Int.toNat 1=qO d.1 a/\BT.size d.1-BT.size (qO d.1 x)+fZ (qO d.1 x) 1=BT.size d.1-BT.size (qO d.1 a)/\True)/\True)/\BT.qd (qO d.1 a)/\(qO d.1 a).toNat<(qO d.1 x).toNat)/\(decide (0<qO d.1 x)=false->(BT.size d.1-BT.size (qO d.1 x),())=(BT.size d.1,()))
def TQ:wS:=⟨[.val tLg,.val .int,.val .int],[tLn],false,fun d=>[t8 d.1 d.2.1,BT.qd d.2.2.1,BT.size d.2.2.1<=8],fun d=>(gi d.1 d.2.1 d.2.2.1,())⟩
abbrev jhk (d:LgD×Int×Int×Unit):=(qM d.1 d.2.1 (BT.size d.2.2.1)*gW d.1 d.2.1 (qG d.1 d.2.1).1)
abbrev jhH (d:LgD×Int×Int×Unit):=(nth d.1.1.2.2.1 d.2.1.toNat)
abbrev jim (d:LgD×Int×Int×Unit):=((U.up (jhk d) (100:Int)+0)*nth d.1.2.2.2.1.q4.q4.1 (jhH d).1.q4.1.toNat)
abbrev jhI (d:LgD×Int×Int×Unit):=d.1.2.2.2.1.q4.2.2.2.1
abbrev jhJ (d:LgD×Int×Int×Unit):=d.1.2.2.2.1.q4.2.2.1
abbrev jjA (d:LgD×Int×Int×Unit):=(qM d.1 d.2.1 (BT.size d.2.2.1)+(jhJ d)*nth d.1.2.2.1 d.2.1.toNat*BT.size d.2.2.1)
abbrev jin (d:LgD×Int×Int×Unit):=((jjA d)*nth d.1.2.2.2.1.q4.q4.1 (jhH d).1.q4.1.toNat)
def TR:Prop:=∀(d:LgD×Int×Int×Unit),t8 d.1 d.2.1->BT.qd d.2.2.1->BT.size d.2.2.1<=8->0<=d.2.1/\d.2.1<(d.1.2.1.length:Int)/\BT.qd d.2.2.1/\t8 d.1 d.2.1/\(0<=BT.size d.2.2.1/\BT.size d.2.2.1<=8)/\0<=d.2.1/\d.2.1<(d.1.2.2.1.length:Int)/\wn ((jhJ d)*nth d.1.2.2.1 d.2.1.toNat)/\BT.qd d.2.2.1/\wn ((jhJ d)*nth d.1.2.2.1 d.2.1.toNat*BT.size d.2.2.1)/\t8 d.1 d.2.1/\((qG d.1 d.2.1).2=true->t8 d.1 d.2.1/\((-100000:Int)<=(qG d.1 d.2.1).1/\(qG d.1 d.2.1).1<=1440)/\wn (jhk d)/\0<=qM d.1 d.2.1 (BT.size d.2.2.1)*gW d.1 d.2.1 (qG d.1 d.2.1).1/\(0:Int)<100/\qM d.1 d.2.1 (BT.size d.2.2.1)*gW d.1 d.2.1 (qG d.1 d.2.1).1<=4611686018427387904/\(100:Int)<=1000000000/\wn (U.up (jhk d) (100:Int)+0)/\0<=d.2.1/\d.2.1<(d.1.1.2.2.1.length:Int)/\(0:Int)<=(jhH d).1.q4.1/\(jhH d).1.q4.1<(d.1.2.2.2.1.q4.q4.1.length:Int)/\wn (jim d)/\(100:Int)≠0/\wn ((jim d).tdiv (100:Int))/\wn (U.up (jhk d) (100:Int)+0)/\wn (U.up (jhk d) (100:Int)+0-min (jhI d) ((jim d).tdiv (100:Int)))/\((nth d.1.2.1 d.2.1.toNat,d.2.1,U.up (jhk d) (100:Int),(0:Int),min (jhI d) ((jim d).tdiv (100:Int)),U.up (jhk d) (100:Int)+0-min (jhI d) ((jim d).tdiv (100:Int)),()),())=(gi d.1 d.2.1 d.2.2.1,()))/\((qG d.1 d.2.1).2=false->wn (jjA d)/\0<=d.2.1/\d.2.1<(d.1.1.2.2.1.length:Int)/\(0:Int)<=(jhH d).1.q4.1/\(jhH d).1.q4.1<(d.1.2.2.2.1.q4.q4.1.length:Int)/\wn (jin d)/\(100:Int)≠0/\wn ((jin d).tdiv (100:Int))/\wn (jjA d)/\wn (qM d.1 d.2.1 (BT.size d.2.2.1)+(jhJ d)*nth d.1.2.2.1 d.2.1.toNat*BT.size d.2.2.1-min (jhI d) ((jin d).tdiv (100:Int)))/\((nth d.1.2.1 d.2.1.toNat,d.2.1,qM d.1 d.2.1 (BT.size d.2.2.1),(jhJ d)*nth d.1.2.2.1 d.2.1.toNat*BT.size d.2.2.1,min (jhI d) ((jin d).tdiv (100:Int)),qM d.1 d.2.1 (BT.size d.2.2.1)+(jhJ d)*nth d.1.2.2.1 d.2.1.toNat*BT.size d.2.2.1-min (jhI d) ((jin d).tdiv (100:Int)),()),())=(gi d.1 d.2.1 d.2.2.1,()))
def L2:wS:=⟨[.val tLg,.val .int],[.int,.bool],false,fun d=>[gN (ww d.1)=0,0<=d.2.1/\d.2.1<((wq (ww d.1)).length:Int)],fun d=>(lz d.1 d.2.1,FZ d.1 d.2.1,())⟩
def L3:Prop:=∀(d:LgD×Int×Unit),gN (ww d.1)=0->0<=d.2.1/\d.2.1<(↑(wq (ww d.1)).length:Int)->(wq d.1.1).length<=1000000/\0<=d.2.1/\d.2.1<(↑(tT d.1.1).length:Int)/\0<=d.2.1/\d.2.1<(d.1.1.2.2.1.length:Int)/\0<=d.2.1/\d.2.1<(↑(tT d.1.1).length:Int)/\wu d.1.1.1=true/\qb d.1.1.1 (nth d.1.1.2.2.1 d.2.1.toNat).1=true/\X5 (nth (tT d.1.1) d.2.1.toNat)/\(nth (tT d.1.1) d.2.1.toNat,Ev d.1.1.1 (nth d.1.1.2.2.1 d.2.1.toNat).1 (nth (tT d.1.1) d.2.1.toNat),())=(lz d.1 d.2.1,FZ d.1 d.2.1,())
theorem Pp:L1:=by
 rintro⟨n,a,b,⟨⟩⟩;rfl
theorem bK:wZ PR 40 L0:=wL Pp Tryz.func40 kcN koN
theorem Ek:∀{l:List NoD} {last:Int},xQ last l=true↔∀j,j<l.length->Je (if j=0 then last else gS (nth l (j-1))) (nth l j)=true
 |[],_=>⟨fun _ j a=>(by cases a),fun _=>rfl⟩
 |n::r,last=>by
  have d:=Ek (l:=r) (last:=gS n)
  show(Je last n&&xQ (gS n) r)=true↔_
  rw[ji,d]
  constructor
  rintro⟨b,c⟩ j a
  cases j with
  |zero=>exact b
  |succ j=>
   rw[jd (by omega)]
   have:=c j (by simpa using a)
   cases j with
   |zero=>exact this
   |succ j=>exact this
  intro h
  refine⟨h 0 (by simp),fun j a=> ?_⟩
  have:=h (j+1) (by simpa using a)
  rw[jd (by omega)] at this
  cases j with
  |zero=>exact this
  |succ j=>exact this
theorem jd8 {l:List NoD}:xQ 100001 l=true↔∀j,j<l.length->Un l j=true:=by
 constructor;intro h j b;have a:=(iY h _ (L.wi b));have c:=Ek.1 h j b;unfold Un;simp only[ji,zo,jp,vb];refine⟨⟨by omega,by omega⟩,?_⟩;by_cases e:j=0;exact Or.inl e;rw[jd e] at c;unfold Je at c;rw[ji,vb] at c;right;omega;intro h;refine Ek.2 fun j b=> ?_
 have a:=h j b;unfold Un at a;simp only[ji,zo,jp,vb] at a;unfold Je U.share;rw[ji,vb,vb];refine⟨?_,a.1.2⟩;by_cases e:j=0;rw[je e];omega;rw[jd e];omega
def taH (t:TaD):Bool:= !wa (PQ t) 1 240|| !wa (Yk t) 0 10000|| !wa (jcW t) 0 20|| !wa (jaZ t) 0 (Yl t)||decide (1440<Yl t)|| !wa (FW t) 0 100|| !wa (Ml t) 0 10000||decide (((co t).length:Int)≠4)|| !wa (PS t) 0 1000000||decide (4<((qr t).length:Int))
theorem IW (t:TaD):yq t=true↔taH t=false/\(∀j,j<(co t).length->wa (nth (co t) j) 0 100=true)/\∀j,j<(qr t).length->Un (qr t) j=true:=by
 rw[<-jd8];unfold yq taH U.share;simp only[jR,jH,ze,ji,jp,vb,jU];constructor;rintro⟨⟨⟨⟨⟨⟨⟨a,b⟩,c⟩,l⟩,d⟩,e⟩,f⟩,⟨⟨⟨m,g⟩,h⟩,n⟩,i⟩;exact⟨⟨⟨⟨⟨⟨⟨⟨⟨⟨a,b⟩,c⟩,d⟩,by omega⟩,e⟩,f⟩,by omega⟩,h⟩,by omega⟩,fun j k=>g _ (L.wi k),i⟩;rintro⟨⟨⟨⟨⟨⟨⟨⟨⟨⟨a,b⟩,c⟩,d⟩,l⟩,e⟩,f⟩,m⟩,h⟩,n⟩,g,i⟩;refine⟨⟨⟨⟨⟨⟨⟨a,b⟩,c⟩,by omega⟩,d⟩,e⟩,f⟩,⟨⟨⟨by omega,fun x o=> ?_⟩,h⟩,by omega⟩,i⟩;obtain⟨j,k,rfl⟩:=L.mem_iff.1 o;exact g j k
theorem jcE {t:TaD} (h:¬yq t=true):(false,())=(yq t,()):=by
 rw[ki] at h;rw[h]
theorem El (l:LgD):du l=true↔((dt l).length=(wq (ww l)).length/\(nW l).length=(wq (ww l)).length/\yq (w5 l)=true/\(wY l).length<=10)/\(∀j,j<(wq (ww l)).length->Uy l j=true)/\∀j,j<(wY l).length->oE (wq (ww l)).length (nth (wY l) j)=true:=by
 unfold du Uy;simp only[ji,jp,jU];constructor;rintro⟨⟨⟨c,h⟩,d,i⟩,e,f,k⟩;exact⟨⟨c,d,e,f⟩,fun j a=>⟨h _ (L.wi (by omega)),i _ (L.wi (by omega))⟩,fun j a=>k _ (L.wi a)⟩;rintro⟨⟨c,d,e,f⟩,g,m⟩;refine⟨⟨⟨c,fun x b=> ?_⟩,d,fun x b=> ?_⟩,e,f,fun x b=> ?_⟩;obtain⟨j,a,rfl⟩:=L.mem_iff.1 b;exact(g j (by omega)).1;obtain⟨j,a,rfl⟩:=L.mem_iff.1 b;exact(g j (by omega)).2;obtain⟨j,a,rfl⟩:=L.mem_iff.1 b;exact m j a
theorem jcF {l:LgD} (h:¬du l=true):(false,())=(du l,()):=by
 rw[ki] at h;rw[h]
theorem jd9 {l:List CaD} {i:Nat} (h:∀j:Nat,j<i->Yc (nth l i) (nth l j)=false) (hi:i<=l.length):bP l i=false:=by
 unfold bP;rw[zi];intro x c;obtain⟨j,b,rfl⟩:=L.mem_iff.1 c;rw[jT] at b;rw[L.nth_take (by omega)];have:=h j (by omega);unfold Yc at this;rw[ki,km] at*;rcases this with a|a;left;exact zt fun e=>jc a e.symm
 right;rw[ze,jp] at a;rw[a,jD rfl];rfl
theorem jcG {l:List CaD} {i j:Nat} (hi:i<l.length) (a:j<i) (h:Yc (nth l i) (nth l j)=true):cZ l=true:=by
 unfold cZ Ey;rw[za];refine⟨i,jG.2 hi,?_⟩;unfold bP;rw[za];unfold Yc at h;rw[ji,jp,jN,jH] at h;refine⟨nth l j,?_,?_⟩;exact L.mem_iff.2 ⟨j,by rw[jT];omega,L.nth_take (by omega)⟩;rw[ji,jp,jN,jH];exact⟨h.1.symm,fun e=>h.2 e.symm⟩
theorem IX:FH:=by
 unfold FH jkt jks jik jij jkr jjw jii Prod.q4;rintro⟨t,⟨⟩⟩ _ _;refine⟨fun h=>jcE (t:=t) (fun c=> ?_),fun k=> ?_⟩;have h:taH t=true:=h;rw[((IW t).1 c).1] at h;cases h;have k:taH t=false:=k;refine⟨⟨0,⟨⟨rfl,tZ⟩,tZ⟩,jm _,fun j f=>by omega⟩,fun x d g=>⟨fun h=> ?_,fun h=> ?_⟩⟩;have g:(co t).length<4611686018427387904:=g;have h:(x:Int)<(co t).length:=ja h;refine⟨by omega,h,fun c=>jcE (t:=t) (fun i=> ?_),fun c=>⟨iZ6,x+1,⟨⟨by simp,tZ⟩,tZ⟩,⟨by show x+1<=(co t).length;omega,fun j f=> ?_⟩,by show(co t).length-(x+1)<(co t).length-x;omega⟩⟩;have c:(!wa (nth (co t) x) 0 100)=true:=c;rw[((IW t).1 i).2.1 x (by omega)] at c;cases c;have c:wa (nth (co t) x) 0 100=true:=(by simpa using(show(!wa (nth (co t) x) 0 100)=false from c));by_cases e:j=x;subst e;exact c;exact d.2 j (by omega);have h:¬(x:Int)<(co t).length:=jc h;have o:∀j,j<(co t).length->wa (nth (co t) j) 0 100=true:=fun j f=>d.2 j (by omega)
 clear d h;refine⟨⟨0,⟨⟨rfl,tZ⟩,tZ⟩,jm _,fun j f=>by omega⟩,fun x d g=>⟨fun h=> ?_,fun h=> ?_⟩⟩;have g:(qr t).length<4611686018427387904:=g;have h:(x:Int)<(qr t).length:=ja h;have l:(!wa (gS (nth (qr t) x)) 0 100000|| !wa (Yj (nth (qr t) x)) 0 100||decide (0<(x:Int))&&decide (gS (nth (qr t) ((x:Int)-1).toNat)<=gS (nth (qr t) x)))= !Un (qr t) x:=by
  have e2:((x:Int)-1).toNat=x-1:=(by omega);have m:∀a b:Int,(decide (0<(x:Int))&&decide (a<=b))= !(decide (x=0)||decide (b<a)):=fun a b=>by
   rw[jZ];simp only[ji,jp,jN,jR,jH];omega
  unfold Un;rw[e2,m,kM,kM]
 refine⟨by omega,h,fun _=>iZ6,fun c=> ?_,fun _=>by show(x:Int)-1<((qr t).length:Int);omega,fun c=>jcE (t:=t) (fun i=> ?_),fun c=>⟨iZ6,x+1,⟨⟨by simp,tZ⟩,tZ⟩,⟨by show x+1<=(qr t).length;omega,fun j f=> ?_⟩,by show(qr t).length-(x+1)<(qr t).length-x;omega⟩⟩;rw[ji] at c;have c:0<(x:Int):=ja c.2;show 0<=(x:Int)-1;omega;have c:(!Un (qr t) x)=true:=l.symm.trans c;rw[((IW t).1 i).2.2 x (by omega)] at c;cases c;have c:(!Un (qr t) x)=false:=l.symm.trans c;by_cases e:j=x;subst e;show Un (qr t) j=true;simpa using c;exact d.2 j (by omega);have h:¬(x:Int)<(qr t).length:=jc h;have n:∀j,j<(qr t).length->Un (qr t) j=true:=fun j f=>d.2 j (by omega)
 show(true,())=(yq t,());rw[(IW t).2 ⟨k,o,n⟩]
theorem FM:wZ PR 95 FF:=vl FG IX Tryz.func95 (kcC bK kcN) koN
def lgH (l:LgD):Bool:=decide (((dt l).length:Int)≠(wq (ww l)).length)||decide (((nW l).length:Int)≠(wq (ww l)).length)|| !yq (w5 l)||decide (10<((wY l).length:Int))
theorem XG (l:LgD):lgH l=false↔((dt l).length=(wq (ww l)).length/\(nW l).length=(wq (ww l)).length/\yq (w5 l)=true/\(wY l).length<=10):=by
 unfold lgH;simp only[jR,jH,ze];constructor;rintro⟨⟨⟨b,c⟩,a⟩,d⟩;exact⟨by omega,by omega,a,by omega⟩;rintro⟨b,c,a,d⟩;exact⟨⟨⟨by omega,by omega⟩,a⟩,by omega⟩
theorem IY:FL:=by
 unfold FL jkw jiR jjx jkv jiQ jku jf2 Prod.q4;rintro⟨l,⟨⟩⟩ i _ _ _;have i:(wq (ww l)).length<4611686018427387904:=i;refine⟨fun h=>jcF (l:=l) (fun a=> ?_),fun f=> ?_⟩;have h:lgH l=true:=h;rw[(XG l).2 ((El l).1 a).1] at h;cases h;have f:=(XG l).1 (show lgH l=false from f);obtain⟨r,s,p,o⟩:=id f;refine⟨⟨0,⟨⟨rfl,tZ⟩,tZ⟩,jm _,fun j d=>by omega⟩,fun x b=>⟨fun h=> ?_,fun h=> ?_⟩⟩;have h:(x:Int)<(wq (ww l)).length:=ja h;have b:x<=(((wq (ww l)).length:Int)).toNat/\∀j:Nat,j<x->Uy l j=true:=b;have c:(!wa (nth (dt l) x) 0 20|| !wa (nth (nW l) x) 0 300)= !Uy l x:=by
  unfold Uy Mn xR;rw[kM]
 refine⟨by omega,by show(x:Int)<(dt l).length;omega,fun _=>by omega,fun _=>by show(x:Int)<(nW l).length;omega,fun a=>jcF (l:=l) (fun g=> ?_),fun a=>⟨iZ6,x+1,⟨⟨by simp,tZ⟩,tZ⟩,⟨by show x+1<=(((wq (ww l)).length:Int)).toNat;omega,fun j d=> ?_⟩,by show(((wq (ww l)).length:Int)).toNat-(x+1)<(((wq (ww l)).length:Int)).toNat-x;omega⟩⟩;have a:(!Uy l x)=true:=c.symm.trans a;rw[((El l).1 g).2.1 x (by omega)] at a;cases a;have a:(!Uy l x)=false:=c.symm.trans a;by_cases e:j=x;subst e;show Uy l j=true;simpa using a;exact b.2 j (by omega);have h:¬(x:Int)<(wq (ww l)).length:=jc h;have n:∀j,j<(wq (ww l)).length->Uy l j=true:=fun j d=>b.2 j (by omega)
 clear b h;refine⟨⟨0,⟨⟨rfl,tZ⟩,tZ⟩,jm _,fun j d=>by omega⟩,fun x b k=>⟨fun h=> ?_,fun h=> ?_⟩⟩;have k:(wY l).length<4611686018427387904:=k;have h:(x:Int)<(wY l).length:=ja h;have q:(((wq (ww l)).length:Int)).toNat=(wq (ww l)).length:=(by omega);have c:(!wa (Ux (nth (wY l) x)) 0 99|| !wa (jcX (nth (wY l) x)) 0 (((wq (ww l)).length:Int)-1)|| !wa (PT (nth (wY l) x)) (-100000) 1440)= !oE (wq (ww l)).length (nth (wY l) x):=by
  unfold oE;rw[kM,kM]
 refine⟨by omega,h,fun _=> ?_,fun a=>jcF (l:=l) (fun g=> ?_),fun a=>⟨iZ6,x+1,⟨⟨by simp,tZ⟩,tZ⟩,⟨by show x+1<=(wY l).length;omega,fun j d=> ?_⟩,by show(wY l).length-(x+1)<(wY l).length-x;omega⟩⟩;show wn (((wq (ww l)).length:Int)-1);exact iZ6;have a:(!oE (wq (ww l)).length (nth (wY l) x))=true:=c.symm.trans a;rw[((El l).1 g).2.2 x (by omega)] at a;cases a;have a:(!oE (wq (ww l)).length (nth (wY l) x))=false:=c.symm.trans a;by_cases e:j=x;subst e;show oE (wq (ww l)).length (nth (wY l) j)=true;simpa using a;exact b.2 j (by omega);have h:¬(x:Int)<(wY l).length:=jc h;have m:∀j,j<(wY l).length->oE (wq (ww l)).length (nth (wY l) j)=true:=fun j d=>b.2 j (by omega)
 show(true,())=(du l,());rw[(El l).2 ⟨f,n,m⟩]
theorem FN:wZ PR 58 FJ:=vl FK IY Tryz.func58 (kcC bK (kcC FM kcN)) koN
theorem TS:Po:=by
 unfold Po jkx jhF jil Prod.q4;rintro⟨l,⟨⟩⟩ r;have f:qg (ww l)=gN (ww l):=fL _;refine⟨r,fun h=> ?_,fun h=> ?_⟩;have h:gN (ww l)≠0:=ja h;show(gN (ww l),())=(qA l,());unfold qA;rw[f,je h];have h:¬gN (ww l)≠0:=jc h;refine⟨fun c=> ?_,fun c=> ?_⟩;have c:du l=false:=(by simpa using(show(!du l)=true from c));show((70:Int),())=(qA l,());unfold qA;rw[f,jd h,je c];have c:du l=true:=(by simpa using(show(!du l)=false from c));have q:=((El l).1 c).1.2.2.2;have n:∀v,(if cZ (wY l)=true then(71:Int) else 0)=v->(v,())=(qA l,()):=fun v s=>by
  unfold qA;rw[f,jd h,jd (by rw[c];decide),s]
 refine⟨⟨0,⟨⟨rfl,tZ⟩,tZ⟩,jm _,fun j g=>by omega⟩,fun x p o=>⟨fun d=> ?_,fun d=> ?_⟩⟩;have o:(wY l).length<4611686018427387904:=o;have d:(x:Int)<(wY l).length:=ja d;refine⟨⟨0,⟨⟨rfl,tZ⟩,tZ⟩,jm _,fun j g=>by omega⟩,fun y i=>⟨fun b=> ?_,fun b=> ?_⟩⟩;have b:(y:Int)<(x:Int):=ja b;have i:y<=x/\∀j:Nat,j<y->Yc (nth (wY l) x) (nth (wY l) j)=false:=i;have k:(y:Int)<(wY l).length:=(by omega);refine⟨by omega,d,by omega,k,fun _=>by omega,fun _=>d,fun _=>by omega,fun _=>k,fun a=> ?_,fun a=>⟨iZ6,y+1,⟨⟨by simp,tZ⟩,tZ⟩,⟨by show y+1<=x;omega,fun j g=> ?_⟩,by show x-(y+1)<x-y;omega⟩⟩;have a:Yc (nth (wY l) x) (nth (wY l) y)=true:=a;exact n 71 (je (jcG (by omega) (by omega) a));have a:Yc (nth (wY l) x) (nth (wY l) y)=false:=a;by_cases e:j=y;subst e;exact a;exact i.2 j (by omega);have b:¬(y:Int)<(x:Int):=jc b;have i:y<=x/\∀j:Nat,j<y->Yc (nth (wY l) x) (nth (wY l) j)=false:=i;have m:y=x:=(by omega);subst m;refine⟨iZ6,y+1,⟨⟨by simp,tZ⟩,tZ⟩,⟨by show y+1<=(wY l).length;omega,fun j g=> ?_⟩,by show(wY l).length-(y+1)<(wY l).length-y;omega⟩;by_cases e:j=y;subst e;exact jd9 i.2 (by omega);exact p.2 j (by omega);have d:¬(x:Int)<(wY l).length:=jc d;refine n 0 (jd fun b=> ?_);unfold cZ Ey at b;rw[za] at b;obtain⟨j,g,a⟩:=b;have g:=jG.1 g;have:=p.2 j (by omega);rw[this] at a;cases a
theorem Em:wZ PR 21 Pl:=vl Pn TS Tryz.func21 (kcC rg (kcC FN kcN)) koN
theorem FO:Eg:=by
 rintro⟨l,n,⟨⟩⟩ a;have a:(wq (ww l)).length<4611686018427387904:=a;exact⟨by show wn (((wq (ww l)).length:Int)-1);exact iZ6,rfl⟩
theorem m9:wZ PR 16 Ef:=wL FO Tryz.func16 (kcC bK kcN) koN
theorem jcH:ZY:=jaR
theorem Rc:wZ PR 75 ZX:=wL jcH Tryz.func75 kcN koN
theorem XH:TP:=K8
theorem TT:wZ PR 74 TN:=vl TO XH Tryz.func74 kcN koN
theorem FP:Ej:=by
 unfold Ej jky jg2 jhG Prod.q4;rintro⟨l,b,⟨⟩⟩ o;obtain⟨_,i,_,_,_,_,_,j,_⟩:t8 l b:=o;refine⟨⟨0,⟨⟨rfl,rfl,rfl,tZ⟩,tZ⟩,jm _⟩,fun x n _=>⟨fun h=> ?_,fun h=> ?_⟩⟩;have h:(x:Int)<(wY l).length:=ja h;have m:=i9 (l:=l) (b:=b) (k:=x) (by omega);have up:x+1<=(wY l).length:=(by omega);have g:(wY l).length-(x+1)<(wY l).length-x:=(by omega);refine⟨by omega,h,fun _=>i.1,fun _=>i.2,fun a=> ?_,fun a=> ?_⟩;have a:(decide (jcX (nth (wY l) x)=b)&&decide (PT (nth (wY l) x)<=wJ (qm l b))&&(!(qP l b x).2||decide (PT (nth (wY l) x)<(qP l b x).1)))=true:=a;simp only[ji,zo,jN,jp] at a;have e:qP l b (x+1)=(PT (nth (wY l) x),true):=by
  rw[m];exact je ⟨a.1.1,a.1.2,a.2⟩
 exact⟨iZ6,x+1,⟨⟨by simp,(jE (·.2) e).symm,(jE (·.1) e).symm,tZ⟩,tZ⟩,up,g⟩;have a:(decide (jcX (nth (wY l) x)=b)&&decide (PT (nth (wY l) x)<=wJ (qm l b))&&(!(qP l b x).2||decide (PT (nth (wY l) x)<(qP l b x).1)))=false:=a;have e:qP l b (x+1)=qP l b x:=by
  rw[m];refine jd fun d=> ?_
  rw[jD d.1,jD d.2.1] at a;rcases d.2.2 with c|c;rw[c] at a;cases a;rw[jD c,kX] at a;cases a
 exact⟨iZ6,x+1,⟨⟨(jE (·.2) e).symm,(jE (·.1) e).symm,by simp,tZ⟩,tZ⟩,up,g⟩;have h:¬(x:Int)<(wY l).length:=jc h;have n:x<=(wY l).length:=n;have f:x=(wY l).length:=(by omega);subst f;rfl
theorem na:wZ PR 44 Eh:=vl Ei FP Tryz.func44 kcN koN
theorem Re {l:LgD} {b m:Int} (h:t8 l b) (f:0<=m/\m<=8):0<=dW l b m/\dW l b m<=115200000:=by
 have c:=cj.1 h.1;obtain⟨g,i,j⟩:=h.2.2.2.2.2.1;have k:=Lz (a:=gm (qm l b)-wJ (qm l b)) (b:=PQ (w5 l)) (by omega) (by have:=c.un;omega);have n:=c.le;have d:0<=max (jcW (w5 l)) (U.up (gm (qm l b)-wJ (qm l b)) (PQ (w5 l)))/\max (jcW (w5 l)) (U.up (gm (qm l b)-wJ (qm l b)) (PQ (w5 l)))<=1440:=(by omega);have e:0<=m*Yk (w5 l)/\m*Yk (w5 l)<=80000:=IE (A:=8) (B:=10000) f c.rt;exact IE e d
theorem Rf {l:LgD} {b m:Int} (h:t8 l b) (f:0<=m/\m<=8):0<=qM l b m/\qM l b m<=100000000000000:=by
 have g:=cj.1 h.1;obtain⟨i,j,k⟩:=h.2.2.2.2.2.1;have e:=Re h f;have a:=Pj l b (gm (qm l b)-wJ (qm l b)).toNat;have c:0<=dW l b m*FW (w5 l)/\dW l b m*FW (w5 l)<=11520000000:=IE e g.ni;have d:0<=dW l b m*FW (w5 l)*PU l b/\dW l b m*FW (w5 l)*PU l b<=16588800000000:=IE c (B:=1440) ⟨a.1,kY a.2 (by omega)⟩;have n:=Lz (b:=100*(gm (qm l b)-wJ (qm l b))) d.1 (by omega);unfold qM;omega
theorem XI:TM:=by
 unfold TM jkz jg3 jf6 jjy jhj jhi jgI Prod.q4;rintro⟨l,b,m,⟨⟩⟩ c d;have c:t8 l b:=c;have d:0<=m/\m<=8:=d;have g:=cj.1 c.1;have k:=c.2.1;obtain⟨r,s,t⟩:=c.2.2.2.2.2.1;have q:=Re c d;have p:0<=dW l b m*FW (w5 l)/\dW l b m*FW (w5 l)<=11520000000:=IE q g.ni;have v:=Rf c d;refine⟨k.1,k.2,?_,⟨0,⟨⟨?_,rfl,tZ⟩,tZ⟩,jm _⟩,fun x n=>⟨fun h=> ?_,fun h=> ?_⟩⟩;show wn (gm (qm l b)-wJ (qm l b));exact iZ6;show wJ (qm l b)=wJ (qm l b)+((0:Nat):Int);omega;have h:wJ (qm l b)+(x:Int)<gm (qm l b):=ja h;have f:=Pj l b x;have e:yb l b (x+1)=yb l b x+(if rD l b x=true then 1 else 0):=by
  unfold yb;rw[zf,zL,kJ]
  split<;>simp
 have e2:wJ (qm l b)+(x:Int)+1=wJ (qm l b)+((x+1:Nat):Int):=(by omega);have up:x+1<=(gm (qm l b)-wJ (qm l b)).toNat:=(by omega);have j:(gm (qm l b)-wJ (qm l b)).toNat-(x+1)<(gm (qm l b)-wJ (qm l b)).toNat-x:=(by omega);have o:wn (wJ (qm l b)+(x:Int)+1):=iZ6;refine⟨fun a=> ?_,fun a=> ?_⟩;have a:rD l b x=true:=a;rw[je a] at e;exact⟨by show wn (yb l b x+1);exact iZ6,o,x+1,⟨⟨e2,e.symm,tZ⟩,tZ⟩,up,j⟩;have a:rD l b x=false:=a;rw[jd (by rw[a];decide),Int.add_zero] at e;exact⟨o,x+1,⟨⟨e.symm,e2,tZ⟩,tZ⟩,up,j⟩;have h:¬wJ (qm l b)+(x:Int)<gm (qm l b):=jc h;have n:x<=(gm (qm l b)-wJ (qm l b)).toNat:=n;have i:x=(gm (qm l b)-wJ (qm l b)).toNat:=(by omega);subst i;have f:=Pj l b (gm (qm l b)-wJ (qm l b)).toNat;have a:0<=dW l b m*FW (w5 l)*PU l b/\dW l b m*FW (w5 l)*PU l b<=16588800000000:=IE p (B:=1440) ⟨f.1,kY f.2 (by omega)⟩;have u:0<=m*Yk (w5 l)/\m*Yk (w5 l)<=80000:=IE (A:=8) (B:=10000) d g.rt;have w:=g.un;refine⟨?_,?_,?_,?_,?_,?_,?_,?_,?_,a.1,?_,?_,?_,?_,rfl⟩;show wn (m*Yk (w5 l));exact iZ6;show 0<=gm (qm l b)-wJ (qm l b);omega;show 0<PQ (w5 l);omega;show gm (qm l b)-wJ (qm l b)<=_;omega;show PQ (w5 l)<=_;omega;show wn (dW l b m);exact iZ6;show wn (dW l b m*FW (w5 l));exact iZ6;show wn (dW l b m*FW (w5 l)*PU l b);exact iZ6;show wn (100*(gm (qm l b)-wJ (qm l b)));exact iZ6;show 0<100*(gm (qm l b)-wJ (qm l b));omega;show dW l b m*FW (w5 l)*PU l b<=_;omega;show 100*(gm (qm l b)-wJ (qm l b))<=_;omega;show wn (qM l b m);exact iZ6
theorem TU:wZ PR 73 TK:=vl TL XI Tryz.func73 (kcC Rc kcN) koN
theorem jcI {l:LgD} {b m:Int} (h:yq (w5 l)=true):0<=gW l b m/\gW l b m<=100:=by
 unfold gW
 split
 rename_i a;have:=DR a;exact(iY (cj.1 h).no _ (L.wi this.1)).2;omega
theorem L4:IV:=by
 unfold IV jjz jkA Prod.q4;rintro⟨l,b,m,⟨⟩⟩ c g;have c:t8 l b:=c;have g: -100000<=m/\m<=1440:=g;have f:=c.2.1;have r:=(cj.1 c.1).nl;obtain⟨n,o,q⟩:=c.2.2.2.2.2.1;refine⟨⟨0,⟨⟨rfl,tZ⟩,tZ⟩,jm _,fun j k=>by omega⟩,fun x d _=>⟨fun h=> ?_,fun h=> ?_⟩⟩;have h:(x:Int)<(qr (w5 l)).length:=ja h;refine⟨by omega,h,f.1,f.2,?_,fun a=> ?_,fun a=>⟨iZ6,x+1,⟨⟨by simp,tZ⟩,tZ⟩,⟨by show x+1<=(qr (w5 l)).length;omega,fun j k=> ?_⟩,by show(qr (w5 l)).length-(x+1)<(qr (w5 l)).length-x;omega⟩⟩;show wn (wJ (qm l b)-m);exact iZ6;have a:oU l b m (nth (qr (w5 l)) x)=true:=a;have e:=yc (p:=oU l b m) (l:=qr (w5 l)) (i:=x) (by omega) d.2 a;have e2:gW l b m=Yj (nth (qr (w5 l)) x):=by
  unfold gW;rw[e,je (by omega)];rfl
 show(Yj (nth (qr (w5 l)) x),())=(gW l b m,());rw[e2];have a:oU l b m (nth (qr (w5 l)) x)=false:=a;by_cases e:j=x;subst e;exact a;exact d.2 j (by omega);have h:¬(x:Int)<(qr (w5 l)).length:=jc h;have e:=q6 (p:=oU l b m) (l:=qr (w5 l)) (i:=x) (by omega) d.2;have e2:gW l b m=100:=by
  unfold gW;rw[e,jd (by omega)]
 show((100:Int),())=(gW l b m,());rw[e2]
theorem IZ:wZ PR 76 IT:=vl IU L4 Tryz.func76 kcN koN
theorem ZZ {w p:Int} (e:0<=w/\w<=100000000000000) (d:0<=p/\p<=100):(0<=w*p/\w*p<=10000000000000000)/\0<=U.up (w*p) 100/\U.up (w*p) 100<=10000000000000000:=by
 have a:0<=w*p/\w*p<=10000000000000000:=IE e d;have c:=Lz (b:=100) a.1 (by omega);exact⟨a,c.1,by omega⟩
theorem XJ:TR:=by
 unfold TR jin jjA jhJ jhI jim jhH jhk Prod.q4;rintro⟨l,b,t,⟨⟩⟩ a j d;have a:t8 l b:=a;have j:BT.qd t:=j;have d:BT.size t<=8:=d;have s:=BT.BB t;obtain⟨g,c,N,O,i,I,K,G,r⟩:=id a;have k:=cj.1 g;have F:=Rf a (m:=BT.size t) ⟨s.1,d⟩;have H:=i _ (L.wi (show b.toNat<(nW l).length by omega));have J:=XC (l:=l) (b:=b) r (wY l).length (jk _);have M:=jcI (l:=l) (b:=b) (m:=(qG l b).1) g;have P:0<=Ml (w5 l)*nth (nW l) b.toNat/\Ml (w5 l)*nth (nW l) b.toNat<=3000000:=IE k.mi H;have Q:0<=Ml (w5 l)*nth (nW l) b.toNat*BT.size t/\Ml (w5 l)*nth (nW l) b.toNat*BT.size t<=24000000:=IE (B:=8) P ⟨s.1,d⟩;have hk:(eE (gL (qm l b))).toNat<(co (w5 l)).length:=(by rw[k.sl];omega);have f:=k.sb _ (L.wi hk);have e:=k.cp;have o:b<((dt l).length:Int):=(by omega);have p:b<((nW l).length:Int):=(by omega);refine⟨c.1,o,j,a,⟨s.1,d⟩,c.1,p,?_,j,?_,a,fun h=> ?_,fun h=> ?_⟩;show wn (Ml (w5 l)*nth (nW l) b.toNat);exact iZ6;show wn (Ml (w5 l)*nth (nW l) b.toNat*BT.size t);exact iZ6;have h:(qG l b).2=true:=h;obtain⟨S,T⟩:=ZZ F M;have q:gi l b t=(nth (dt l) b.toNat,b,U.up (qM l b (BT.size t)*gW l b (qG l b).1) 100,0,min (PS (w5 l)) (((U.up (qM l b (BT.size t)*gW l b (qG l b).1) 100+0)*nth (co (w5 l)) (eE (gL (qm l b))).toNat).tdiv 100),U.up (qM l b (BT.size t)*gW l b (qG l b).1) 100+0-min (PS (w5 l)) (((U.up (qM l b (BT.size t)*gW l b (qG l b).1) 100+0)*nth (co (w5 l)) (eE (gL (qm l b))).toNat).tdiv 100),()):=by
  unfold gi jc2 jc0 jc1;rw[je h,je h]
 obtain⟨u,v,x,y,z,A,C,D,V⟩:=DS (w:=U.up (qM l b (BT.size t)*gW l b (qG l b).1) 100) (t:=0) (n:=(co (w5 l)).length) (R:=True) T (by omega) e f (show 0<=eE (gL (qm l b)) by omega) (by omega) trivial;refine⟨a,J,?_,S.1,by decide,?_,by decide,u,c.1,c.2,v,x,y,z,A,C,D,?_⟩;show wn (qM l b (BT.size t)*gW l b (qG l b).1);exact iZ6;show qM l b (BT.size t)*gW l b (qG l b).1<=_;omega;show _=(gi l b t,());rw[q];rfl;have h:(qG l b).2=false:=h;have E:¬(qG l b).2=true:=(by rw[h];decide);have q:gi l b t=(nth (dt l) b.toNat,b,qM l b (BT.size t),Ml (w5 l)*nth (nW l) b.toNat*BT.size t,min (PS (w5 l)) (((qM l b (BT.size t)+Ml (w5 l)*nth (nW l) b.toNat*BT.size t)*nth (co (w5 l)) (eE (gL (qm l b))).toNat).tdiv 100),qM l b (BT.size t)+Ml (w5 l)*nth (nW l) b.toNat*BT.size t-min (PS (w5 l)) (((qM l b (BT.size t)+Ml (w5 l)*nth (nW l) b.toNat*BT.size t)*nth (co (w5 l)) (eE (gL (qm l b))).toNat).tdiv 100),()):=by
  unfold gi jc2 jc0 jc1;rw[jd E,jd E]
 obtain⟨u,v,x,y,z,A,C,D,V⟩:=DS (w:=qM l b (BT.size t)) (t:=Ml (w5 l)*nth (nW l) b.toNat*BT.size t) (n:=(co (w5 l)).length) (R:=True) ⟨F.1,by omega⟩ ⟨Q.1,by omega⟩ e f (show 0<=eE (gL (qm l b)) by omega) (by omega) trivial;refine⟨u,c.1,c.2,v,x,y,z,A,C,D,?_⟩;show _=(gi l b t,());rw[q];rfl
theorem G4:wZ PR 45 TQ:=wL XJ Tryz.func45 (kcC TT (kcC TU (kcC na (kcC IZ (kcC Rc kcN))))) koN
theorem Pq:L3:=by
 rintro⟨l,b,⟨⟩⟩ c a;have c:gN (ww l)=0:=c;have a:0<=b/\b<((wq (ww l)).length:Int):=a;have g:((tT (ww l)).length:Int)=(wq (ww l)).length:=(by rw[Iw c]);have d:b<((tT (ww l)).length:Int):=(by omega);have f:=GU c;have h:=WQ f (b:=b.toNat) (by omega);have i:X5 (nth (tT (ww l)) b.toNat):=(by rw[QY c];exact W4 c (by omega));have j:(wq (ww l)).length<=4:=by
  have e:=f.2.2;unfold qD at e;rw[ji] at e;exact(ja e.1).1
 exact⟨by show(wq (ww l)).length<=1000000;omega,a.1,d,a.1,a.2,a.1,d,f.1,h,i,rfl⟩
theorem xN:wZ PR 18 L2:=wL Pq Tryz.func18 (kcC O1 (kcC SU kcN)) koN
namespace U
def fW (l:LgD) (n m:Int):Int:=if qe l (qy l n&&vD m)=0 then vI l n-vI (vX l n m) n else 0
def Mr (x:Int×Bool):Int:=if x.2=true then 0 else 3
def Ms (x:Int×Bool):Int:=if x.2=true then x.1 else 0
def gX (l:LgD) (n most:Int):Int:=if qe l (qy l n&&yr most)=0 then(if FZ l n=true then Ms (dz l n most) else 0) else 0
def gY (l:LgD) (n most:Int):Int:=if qe l (qy l n&&yr most)=0 then(if FZ l n=true then Mr (dz l n most) else 3) else qe l (qy l n&&yr most)
def Jg (l:LgD):Prop:=Ew (ww l)/\(dt l).length<=20/\(nW l).length<=20/\(co (w5 l)).length<=20/\(qr (w5 l)).length<=20/\(wY l).length<=30
end U
def Pr:wS:=⟨[.val tLg,.val .int],[.int],false,fun d=>[gN (ww d.1)=0,t8 d.1 d.2.1],fun d=>(vI d.1 d.2.1,())⟩
def Ps:Prop:=∀(d:LgD×Int×Unit),gN (ww d.1)=0->t8 d.1 d.2.1->gN (ww d.1)=0/\(0<=d.2.1/\d.2.1<(↑(wq (ww d.1)).length:Int))/\((!FZ d.1 d.2.1)=true->((0:Int),())=(vI d.1 d.2.1,()))/\((!FZ d.1 d.2.1)=false->t8 d.1 d.2.1/\BT.qd (lz d.1 d.2.1)/\BT.size (lz d.1 d.2.1)<=8/\(gi d.1 d.2.1 (lz d.1 d.2.1)).q4.2=(vI d.1 d.2.1,()))
def TV:wS:=⟨[.val tLg,.val .int,.val .int],[tLg],false,fun d=>[(wY d.1).length<=1000],fun d=>(vX d.1 d.2.1 d.2.2.1,())⟩
def TW:Prop:=∀(d:LgD×Int×Int×Unit),(wY d.1).length<=1000->(0+d.1.q4.1.length)*24<=140737488355328/\(([]++d.1.q4.1).length+[((0:Int),d.2)].length)*24<=140737488355328/\((d.1.1,d.1.2.1,d.1.2.2.1,d.1.2.2.2.1,[]++d.1.q4.1++[((0:Int),d.2)],()),())=(vX d.1 d.2.1 d.2.2.1,())
def Pt:wS:=⟨[.val tLg,.val .int,.val .int],[.int,.int],false,fun d=>[(wq (ww d.1)).length<=1000000],fun d=>(fW d.1 d.2.1 d.2.2.1,qe d.1 (qy d.1 d.2.1&&vD d.2.2.1),())⟩
abbrev jjB (d:LgD×Int×Int×Unit):=(fW d.1 d.2.1 d.2.2.1,qe d.1 (qy d.1 d.2.1&&vD d.2.2.1),())
def Pu:Prop:=∀(d:LgD×Int×Int×Unit),(wq (ww d.1)).length<=1000000->(wq (ww d.1)).length<=1000000/\(decide (qA d.1≠0)=true->((0:Int),qA d.1,())=(jjB d))/\(decide (qA d.1≠0)=false->((!qy d.1 d.2.1|| !wa d.2.2.1 (-100000:Int) (1440:Int))=true->((0:Int),(1:Int),())=(jjB d))/\((!qy d.1 d.2.1|| !wa d.2.2.1 (-100000:Int) (1440:Int))=false->gN (ww d.1)=0/\t8 d.1 d.2.1/\(wY d.1).length<=1000/\gN (ww (vX d.1 d.2.1 d.2.2.1))=0/\t8 (vX d.1 d.2.1 d.2.2.1) d.2.1/\wn (vI d.1 d.2.1-vI (vX d.1 d.2.1 d.2.2.1) d.2.1)/\(vI d.1 d.2.1-vI (vX d.1 d.2.1 d.2.2.1) d.2.1,(0:Int),())=(jjB d)))
def L5:wS:=⟨[.val tLg,.val .int,.val .int],[.int,.int],false,fun d=>[(wq (ww d.1)).length<=1000000],fun d=>(gX d.1 d.2.1 d.2.2.1,gY d.1 d.2.1 d.2.2.1,())⟩
def L6:Ann:=fun r=>match r with
 |12=>some fun σ=>{X:=Nat,sl:=fun k=>[(13,.dat .int (k:Int)),(12,.own 12 .int)],ob:=fun k=>[(12,some (.row 3 .int false .unk (gd .int σ 11::((qr (w5 (gb tLg σ 3))).take k).map (fun n=>gd .int σ 11-gS n))))],inv:=fun k=>k<=(qr (w5 (gb tLg σ 3))).length,mu:=fun k=>(qr (w5 (gb tLg σ 3))).length-k}
 |20=>some fun σ=>{X:=Nat,sl:=fun k=>[(18,.dat .int (k:Int)),(14,.dat .int (wC (gb tLg σ 3) (gd .int σ 1) (gd .int σ 2) k).1),(15,.dat .bool (wC (gb tLg σ 3) (gd .int σ 1) (gd .int σ 2) k).2)],ob:=fun _=>[],inv:=fun k=>k<=(wW (gb tLg σ 3) (gd .int σ 1)).length,mu:=fun k=>(wW (gb tLg σ 3) (gd .int σ 1)).length-k}
 |_=>none
abbrev jge (d:LgD×Int×Int×Unit)(a:Nat):=(wC d.1 d.2.1 d.2.2.1 a)
abbrev jhl (d:LgD×Int×Int×Unit):=(gX d.1 d.2.1 d.2.2.1,gY d.1 d.2.1 d.2.2.1,())
abbrev jgs (d:LgD×Int×Int×Unit):=(nth d.1.1.2.2.1 d.2.1.toNat)
abbrev jio (d:LgD×Int×Int×Unit):=(fun(a:Int×Int×Unit)=>(jgs d).2.2.1-gS a)
abbrev jf3 (d:LgD×Int×Int×Unit):=(wW d.1 d.2.1)
abbrev jkB (d:LgD×Int×Int×Unit):=(∃(x:Nat),((0=(x:Int)/\0=(wC d.1 d.2.1 d.2.2.1 x).1/\false=(wC d.1 d.2.1 d.2.2.1 x).2/\True)/\True)/\x<=(jf3 d).length)
abbrev jhK (d:LgD×Int×Int×Unit)(a:Nat):=(wC d.1 d.2.1 d.2.2.1 a)
abbrev jkC (d:LgD×Int×Int×Unit)(a:Nat)(b:Nat):=(((jge d a).2=(jhK d b).2/\(jge d a).1=(jhK d b).1/\(a:Int)+1=(b:Int)/\True)/\True)
abbrev jgt (d:LgD×Int×Int×Unit):=(qr (w5 d.1))
abbrev jgJ (d:LgD×Int×Int×Unit)(x:Nat):=((jgs d).2.2.1::List.map (jio d) (List.take x (jgt d))++[(qG d.1 d.2.1).1])
abbrev jgl (d:LgD×Int×Int×Unit)(x:Nat):=((jgs d).2.2.1::List.map (jio d) (List.take x (jgt d)))
abbrev jip (d:LgD×Int×Int×Unit)(x:Nat)(a:Nat):=((-100000:Int)<=nth (jgJ d x) a)
abbrev jkD (d:LgD×Int×Int×Unit)(x:Nat)(a:Nat):=(decide (jip d x a)&&decide ((gi (vX d.1 d.2.1 (nth (jgJ d x) a)) d.2.1 (lz d.1 d.2.1)).q4.2.1<=d.2.2.1)&&(!(jge d a).2||decide ((jge d a).1<nth (jgJ d x) a)))
abbrev jiq (d:LgD×Int×Int×Unit)(x:Nat)(a:Nat):=((-100000:Int)<=nth (jgl d x) a)
abbrev jkE (d:LgD×Int×Int×Unit)(x:Nat)(a:Nat):=(decide (jiq d x a)&&decide ((gi (vX d.1 d.2.1 (nth (jgl d x) a)) d.2.1 (lz d.1 d.2.1)).q4.2.1<=d.2.2.1)&&(!(jge d a).2||decide ((jge d a).1<nth (jgl d x) a)))
abbrev jjC:=((0:Int),(3:Int),())
abbrev jjD (d:LgD×Int×Int×Unit)(x:Nat):=(nth d.1.2.2.2.1.q4.q4.2.1 x)
abbrev jjE (d:LgD×Int×Int×Unit):=(d.1.2.2.2.1.q4.q4.2.1.length:Int)
def L7:Prop:=∀(d:LgD×Int×Int×Unit),(wq (ww d.1)).length<=1000000->(wq (ww d.1)).length<=1000000/\(decide (qA d.1≠0)=true->((0:Int),qA d.1,())=(jhl d))/\(decide (qA d.1≠0)=false->((!qy d.1 d.2.1|| !wa d.2.2.1 (0:Int) (1000000000:Int))=true->((0:Int),(1:Int),())=(jhl d))/\((!qy d.1 d.2.1|| !wa d.2.2.1 (0:Int) (1000000000:Int))=false->gN (ww d.1)=0/\(0<=d.2.1/\d.2.1<(↑(wq (ww d.1)).length:Int))/\((!FZ d.1 d.2.1)=true->jjC=(jhl d))/\((!FZ d.1 d.2.1)=false->0<=d.2.1/\d.2.1<(d.1.1.2.2.1.length:Int)/\(∃(x:Nat),((0=(x:Int)/\True/\True)/\[(jgs d).2.2.1]=(jgs d).2.2.1::List.map (jio d) (List.take x (jgt d))/\True)/\x<=(jgt d).length)/\∀(x:Nat),x<=(jgt d).length->d.1.2.2.2.1.q4.q4.2.1.length<4611686018427387904->(decide ((x:Int)<(jjE d))=true->0<=(x:Int)/\(x:Int)<(jjE d)/\wn ((jgs d).2.2.1-(jjD d x).1)/\((jgl d x).length+[(jgs d).2.2.1-(jjD d x).1].length)*8<=140737488355328/\wn ((x:Int)+1)/\∃(b:Nat),(((x:Int)+1=(b:Int)/\True/\True)/\(jgs d).2.2.1::List.map (jio d) (List.take x (jgt d))++[(jgs d).2.2.1-(jjD d x).1]=(jgs d).2.2.1::List.map (jio d) (List.take b (jgt d))/\True)/\b<=(jgt d).length/\(jgt d).length-b<(jgt d).length-x)/\(decide ((x:Int)<(jjE d))=false->t8 d.1 d.2.1/\((qG d.1 d.2.1).2=true->((jgl d x).length+[(qG d.1 d.2.1).1].length)*8<=140737488355328/\(jkB d)/\∀(a:Nat),a<=(jf3 d).length->(jgJ d x).length<4611686018427387904->(decide ((a:Int)<(jgJ d x).length)=true->0<=(a:Int)/\(a:Int)<(jgJ d x).length/\(decide (jip d x a)=true->(wY d.1).length<=1000)/\(decide (jip d x a)=true->t8 (vX d.1 d.2.1 (nth (jgJ d x) a)) d.2.1)/\(decide (jip d x a)=true->BT.qd (lz d.1 d.2.1))/\(decide (jip d x a)=true->BT.size (lz d.1 d.2.1)<=8)/\((jkD d x a)=true->wn ((a:Int)+1)/\∃(b:Nat),(((a:Int)+1=(b:Int)/\true=(jhK d b).2/\nth (jgJ d x) a=(jhK d b).1/\True)/\True)/\b<=(jf3 d).length/\(jf3 d).length-b<(jf3 d).length-a)/\((jkD d x a)=false->wn ((a:Int)+1)/\∃(b:Nat),(jkC d a b)/\b<=(jf3 d).length/\(jf3 d).length-b<(jf3 d).length-a))/\(decide ((a:Int)<(jgJ d x).length)=false->((!(jge d a).2)=true->jjC=(jhl d))/\((!(jge d a).2)=false->((jge d a).1,(0:Int),())=(jhl d))))/\((qG d.1 d.2.1).2=false->(jkB d)/\∀(a:Nat),a<=(jf3 d).length->(jgl d x).length<4611686018427387904->(decide ((a:Int)<(jgl d x).length)=true->0<=(a:Int)/\(a:Int)<(jgl d x).length/\(decide (jiq d x a)=true->(wY d.1).length<=1000)/\(decide (jiq d x a)=true->t8 (vX d.1 d.2.1 (nth (jgl d x) a)) d.2.1)/\(decide (jiq d x a)=true->BT.qd (lz d.1 d.2.1))/\(decide (jiq d x a)=true->BT.size (lz d.1 d.2.1)<=8)/\((jkE d x a)=true->wn ((a:Int)+1)/\∃(b:Nat),(((a:Int)+1=(b:Int)/\true=(jhK d b).2/\nth (jgl d x) a=(jhK d b).1/\True)/\True)/\b<=(jf3 d).length/\(jf3 d).length-b<(jf3 d).length-a)/\((jkE d x a)=false->wn ((a:Int)+1)/\∃(b:Nat),(jkC d a b)/\b<=(jf3 d).length/\(jf3 d).length-b<(jf3 d).length-a))/\(decide ((a:Int)<(jgl d x).length)=false->((!(jge d a).2)=true->jjC=(jhl d))/\((!(jge d a).2)=false->((jge d a).1,(0:Int),())=(jhl d))))))))
def TX:wS:=⟨[.val tLg],[tLg],false,fun d=>[Jg d.1],fun d=>(d.1,())⟩
def TY:Prop:=∀(d:LgD×Unit),Jg d.1->Ew d.1.1/\(0+d.1.2.1.length)*8<=140737488355328/\(0+d.1.2.2.1.length)*8<=140737488355328/\(0+d.1.2.2.2.1.q4.q4.1.length)*8<=140737488355328/\(0+d.1.2.2.2.1.q4.q4.2.1.length)*16<=140737488355328/\(0+d.1.q4.1.length)*24<=140737488355328/\((d.1.1,[]++d.1.2.1,[]++d.1.2.2.1,(d.1.2.2.2.1.1,d.1.2.2.2.1.2.1,d.1.2.2.2.1.2.2.1,d.1.2.2.2.1.2.2.2.1,d.1.2.2.2.1.q4.1,d.1.2.2.2.1.q4.2.1,d.1.2.2.2.1.q4.2.2.1,d.1.2.2.2.1.q4.2.2.2.1,[]++d.1.2.2.2.1.q4.q4.1,[]++d.1.2.2.2.1.q4.q4.2.1,()),[]++d.1.q4.1,()),())=d
theorem jaU {l:LgD} (a:gN (ww l)=0) {b:Int} (f:0<=b/\b<((wq (ww l)).length:Int)):BT.qd (lz l b)/\BT.size (lz l b)<=8:=by
 have d:X5 (lz l b):=(by unfold lz;rw[QY a];exact W4 a (by omega));have d:0<=lz l b/\lz l b<256:=d;have e:(wj (wt (ww l))).length<=8:=by
  have c:=(GU a).1;unfold wu at c;rw[ji] at c;exact(ja c.1).2.2.1
 have h:=Q9 a (b:=b.toNat) (by omega);have g:=(tA (nth (tT (ww l)) b.toNat) (wj (wt (ww l))).length).1;refine⟨⟨d.1,by omega⟩,?_⟩;show BT.size (nth (tT (ww l)) b.toNat)<=8;omega
theorem XK {l:LgD} (h:qA l=0):gN (ww l)=0:=(fL (ww l)).symm.trans (ee h).cp
theorem XL:TY:=by
 unfold TY Prod.q4;rintro⟨l,⟨⟩⟩ h;obtain⟨a,b,c,d,e,f⟩:Jg l:=h;refine⟨a,?_,?_,?_,?_,?_,rfl⟩;show(0+(dt l).length)*8<=_;omega;show(0+(nW l).length)*8<=_;omega;show(0+(co (w5 l)).length)*8<=_;omega;show(0+(qr (w5 l)).length)*16<=_;omega;show(0+(wY l).length)*24<=_;omega
theorem TZ:wZ PR 10 TX:=wL XL Tryz.func10 (kcC Tq kcN) koN
theorem XM:TW:=by
 unfold TW Prod.q4;rintro⟨l,b,m,⟨⟩⟩ h;have h:(wY l).length<=1000:=h;refine⟨?_,?_,rfl⟩;show(0+(wY l).length)*24<=_;omega;show(([]++wY l).length+1)*24<=_;rw[jV];omega
theorem G5:wZ PR 42 TV:=wL XM Tryz.func42 kcN koN
theorem T3:Ps:=by
 unfold Ps Prod.q4;rintro⟨l,b,⟨⟩⟩ c a;have c:gN (ww l)=0:=c;have a:t8 l b:=a;obtain⟨d,e⟩:=jaU c a.2.1;refine⟨c,a.2.1,fun h=> ?_,fun h=> ?_⟩;have h:FZ l b=false:=(by simpa using(show(!FZ l b)=true from h));show((0:Int),())=(vI l b,());unfold vI;rw[jd (by rw[h];decide)];have h:FZ l b=true:=(by simpa using(show(!FZ l b)=false from h));refine⟨a,d,e,?_⟩;show(Mm (gi l b (lz l b)),())=(vI l b,());unfold vI;rw[je h]
theorem Pv:wZ PR 41 Pr:=wL T3 Tryz.func41 (kcC xN (kcC G4 kcN)) koN
theorem Z0 {l:LgD} (h:u5 l) {b:Int} (a:0<=b/\b<((wq (ww l)).length:Int)): -1000000<=vI l b/\vI l b<=20000000000000000:=by
 unfold vI
 split
 rw[<-XE h a];exact D7 (DT h a);omega
theorem T4 {l:LgD} (h:u5 l) {b m:Int} (a:0<=b/\b<((wq (ww l)).length:Int)) (c: -100000<=m/\m<=1440): -1000000<=vI (vX l b m) b/\vI (vX l b m) b<=20000000000000000:=by
 have e:vI (vX l b m) b=if FZ l b=true then Mm (gi (vX l b m) b (lz l b)) else 0:=rfl;rw[e]
 split
 rw[<-Ea h a];exact D7 (Bt (DT h a) c);omega
theorem jaV {l:LgD} (h:qA l≠0) (t:Bool):qe l t=qA l:=je h
theorem XN {l:LgD} (h:qA l=0) {t:Bool} (b:¬t=true):qe l t=1:=by
 unfold qe;rw[jd (fun a=>a h),jd b]
theorem Pw {l:LgD} (h:qA l=0) {t:Bool} (b:t=true):qe l t=0:=by
 unfold qe;rw[jd (fun a=>a h),je b]
theorem T6:Pu:=by
 unfold Pu jjB;rintro⟨l,n,m,⟨⟩⟩ g;refine⟨g,fun h=> ?_,fun h=> ?_⟩;have h:qA l≠0:=ja h;show((0:Int),qA l,())=(fW l n m,qe l (qy l n&&vD m),());unfold fW;rw[jaV h,jd h];have h:qA l=0:=jO.1 (jc h);have b:=ee h;have e:=XK h;have ex:(!qy l n|| !wa m (-100000) 1440)= !(qy l n&&vD m):=(by rw[kM];rfl);refine⟨fun a=> ?_,fun a=> ?_⟩;have a:(!(qy l n&&vD m))=true:=ex.symm.trans a;rw[jN] at a;show((0:Int),(1:Int),())=(fW l n m,qe l (qy l n&&vD m),());unfold fW;rw[XN h (by rw[a];decide)];rfl;have a:(!(qy l n&&vD m))=false:=ex.symm.trans a;rw[ze] at a;have d:=a;rw[ji] at d;have c:=Bu.1 d.1;have f: -100000<=m/\m<=1440:=vb.1 d.2;have i:=Z0 b c;have j:=T4 b c f;refine⟨e,XB b c,by show(wY l).length<=1000;have:=b.cl.1;omega,e,Q8 b c f,?_,?_⟩;show wn (vI l n-vI (vX l n m) n);exact iZ6;show(vI l n-vI (vX l n m) n,(0:Int),())=(fW l n m,qe l (qy l n&&vD m),());unfold fW;rw[Pw h a];rfl
theorem Px:wZ PR 12 Pt:=wL T6 Tryz.func12 (kcC Em (kcC m9 (kcC bK (kcC Pv (kcC G5 kcN))))) koN
theorem Z1 {l:LgD} (h:u5 l) {b:Int} (d:0<=b/\b<((wq (ww l)).length:Int)) {x:Int} (i:x∈wW l b):x<=1440:=by
 have a:=(cN h d).1;have f:wJ (qm l b)<=1440:=(by have:=a.2.1;have:=a.2.2;show wJ (nth _ _)<=_;omega);rcases Ee.1 i with e|⟨n,g,e⟩|⟨c,e2⟩;omega;have:=(iY h.ta.no n g).1.1;omega;have:=Pk (l:=l) (b:=b) _ (jk _) c;have:(qG l b).1<=wJ (qm l b):=this;omega
theorem Rg {l:LgD} (h:qA l=0) {b most:Int} (k:0<=b/\b<((wq (ww l)).length:Int)) (r:FZ l b=true) (v:(qy l b&&yr most)=true) {M:List Int} (u:M=wW l b):
 (∃(x:Nat),(((0:Int)=(x:Int)/\(0:Int)=(wC l b most x).1/\false=(wC l b most x).2/\True)/\True)/\x<=(wW l b).length)/\
 ∀(x:Nat),x<=(wW l b).length->M.length<4611686018427387904->
  (decide ((x:Int)<M.length)=true->
   0<=(x:Int)/\(x:Int)<M.length/\(decide (-100000<=nth M (x:Int).toNat)=true->(wY l).length<=1000)/\(decide (-100000<=nth M (x:Int).toNat)=true->t8 (vX l b (nth M (x:Int).toNat)) b)/\
   (decide (-100000<=nth M (x:Int).toNat)=true->BT.qd (lz l b))/\(decide (-100000<=nth M (x:Int).toNat)=true->BT.size (lz l b)<=8)/\
   ((decide (-100000<=nth M (x:Int).toNat)&&decide (Mm (gi (vX l b (nth M (x:Int).toNat)) b (lz l b))<=most)&&(!(wC l b most x).2||decide ((wC l b most x).1<nth M (x:Int).toNat)))=true->
     wn ((x:Int)+1)/\∃(c:Nat),(((x:Int)+1=(c:Int)/\true=(wC l b most c).2/\nth M (x:Int).toNat=(wC l b most c).1/\True)/\True)/\c<=(wW l b).length/\(wW l b).length-c<(wW l b).length-x)/\
   ((decide (-100000<=nth M (x:Int).toNat)&&decide (Mm (gi (vX l b (nth M (x:Int).toNat)) b (lz l b))<=most)&&(!(wC l b most x).2||decide ((wC l b most x).1<nth M (x:Int).toNat)))=false->
     wn ((x:Int)+1)/\∃(c:Nat),(((wC l b most x).2=(wC l b most c).2/\(wC l b most x).1=(wC l b most c).1/\(x:Int)+1=(c:Int)/\True)/\True)/\c<=(wW l b).length/\(wW l b).length-c<(wW l b).length-x))/\
  (decide ((x:Int)<M.length)=false->((!(wC l b most x).2)=true->((0:Int),(3:Int),())=(gX l b most,gY l b most,()))/\((!(wC l b most x).2)=false->((wC l b most x).1,(0:Int),())=(gX l b most,gY l b most,()))):=by
 subst u;have o:=ee h;obtain⟨w,y⟩:=jaU (XK h) k;refine⟨⟨0,⟨⟨rfl,rfl,rfl,tZ⟩,tZ⟩,jm _⟩,fun x z q=>⟨fun f=> ?_,fun f=> ?_⟩⟩;have f:=ja f;have d:x<(wW l b).length:=(by omega);have i:((x:Int)).toNat=x:=rfl;rw[i];have n:=Z1 o k (L.wi d);have g:=LY (most:=most) d;have up:x+1<=(wW l b).length:=(by omega);have p:(wW l b).length-(x+1)<(wW l b).length-x:=(by omega);have s:wn ((x:Int)+1):=iZ6;refine⟨by omega,f,fun _=>by have:=o.cl.1;omega,fun a=>Q8 o k ⟨ja a,n⟩,fun _=>w,fun _=>y,fun a=> ?_,fun a=> ?_⟩;simp only[ji,zo,jN,jp] at a;have e:wC l b most (x+1)=(nth (wW l b) x,true):=by
  rw[g];exact je ⟨a.1.1,a.1.2,a.2⟩
 exact⟨s,x+1,⟨⟨by simp,(jE (·.2) e).symm,(jE (·.1) e).symm,tZ⟩,tZ⟩,up,p⟩;have e:wC l b most (x+1)=wC l b most x:=by
  rw[g];refine jd fun m=> ?_
  rw[jD m.1,jD m.2.1] at a;rcases m.2.2 with j|j;rw[j] at a;cases a;rw[jD j,kX] at a;cases a
 exact⟨s,x+1,⟨⟨(jE (·.2) e).symm,(jE (·.1) e).symm,by simp,tZ⟩,tZ⟩,up,p⟩;have f:=jc f;have d:x=(wW l b).length:=(by omega);subst d;have i:qe l (qy l b&&yr most)=0:=Pw h v;have t:gX l b most=Ms (dz l b most):=(by unfold gX;rw[je i,je r]);have e2:gY l b most=Mr (dz l b most):=(by unfold gY;rw[je i,je r]);rw[t,e2];refine⟨fun a=> ?_,fun a=> ?_⟩;have a:(dz l b most).2=false:=by
  rw[jN] at a;exact a
 unfold Ms Mr;rw[a];rfl;have a:(dz l b most).2=true:=by
  rw[ze] at a;exact a
 show((dz l b most).1,(0:Int),())=_;unfold Ms Mr;rw[a];rfl
theorem Py:L7:=by
 unfold L7 jjE jjD jjC jkE jiq jkD jip jgl jgJ jgt jkC jhK jkB jf3 jio jgs jhl jge Prod.q4;rintro⟨l,b,most,⟨⟩⟩ k;refine⟨k,fun h=> ?_,fun h=> ?_⟩;have h:qA l≠0:=ja h;show((0:Int),qA l,())=(gX l b most,gY l b most,());unfold gX gY;rw[jaV h,jd h,jd h];have h:qA l=0:=jO.1 (jc h);have j:=ee h;have r:=XK h;have ex:(!qy l b|| !wa most 0 1000000000)= !(qy l b&&yr most):=(by rw[kM];rfl);refine⟨fun a=> ?_,fun a=> ?_⟩;have a:(!(qy l b&&yr most))=true:=ex.symm.trans a;rw[jN] at a;show((0:Int),(1:Int),())=(gX l b most,gY l b most,());unfold gX gY;rw[XN h (by rw[a];decide)];rfl;have a:(!(qy l b&&yr most))=false:=ex.symm.trans a;rw[ze] at a;have o:=a;rw[ji] at o;have g:=Bu.1 o.1;refine⟨r,g,fun c=> ?_,fun c=> ?_⟩;have c:FZ l b=false:=(by simpa using(show(!FZ l b)=true from c));have m:qe l (qy l b&&yr most)=0:=Pw h a;show((0:Int),(3:Int),())=(gX l b most,gY l b most,());unfold gX gY;rw[je m,je m,jd (by rw[c];decide),jd (by rw[c];decide)];have c:FZ l b=true:=(by simpa using(show(!FZ l b)=false from c));have u:=j.ta.nl;have e:=(cN j g).1;have e:0<=wJ (qm l b)/\wJ (qm l b)<gm (qm l b)/\gm (qm l b)<=1440:=e;refine⟨g.1,g.2,⟨0,⟨⟨rfl,tZ,tZ⟩,rfl,tZ⟩,jm _⟩,fun x q _=>⟨fun i=> ?_,fun i=> ?_⟩⟩;have i:(x:Int)<(qr (w5 l)).length:=ja i;have d:x<(qr (w5 l)).length:=(by omega);have s:=(iY j.ta.no _ (L.wi d)).1;have t:=L.wO d;refine⟨by omega,i,?_,?_,iZ6,x+1,⟨⟨by simp,tZ,tZ⟩,?_,tZ⟩,by show x+1<=(qr (w5 l)).length;omega,by show(qr (w5 l)).length-(x+1)<(qr (w5 l)).length-x;omega⟩;show wn (wJ (qm l b)-gS (nth (qr (w5 l)) x));exact iZ6;show((wJ (qm l b)::((qr (w5 l)).take x).map (fun n=>wJ (qm l b)-gS n)).length+1)*8<=_;rw[jY,zj,jT];omega;show wJ (qm l b)::((qr (w5 l)).take x).map (fun n=>wJ (qm l b)-gS n)++[wJ (qm l b)-gS (nth (qr (w5 l)) x)]=wJ (qm l b)::((qr (w5 l)).take (x+1)).map (fun n=>wJ (qm l b)-gS n);rw[t,zw,j0];rfl;have i:¬(x:Int)<(qr (w5 l)).length:=jc i;have q:x<=(qr (w5 l)).length:=q;have d:x=(qr (w5 l)).length:=(by omega);subst d;have p:(qr (w5 l)).take (qr (w5 l)).length=qr (w5 l):=zz;refine⟨XB j g,fun f=>⟨?_,?_⟩,fun f=> ?_⟩;show((wJ (qm l b)::((qr (w5 l)).take (qr (w5 l)).length).map (fun n=>wJ (qm l b)-gS n)).length+1)*8<=_;rw[jY,zj,jT];omega;have f:(qG l b).2=true:=f;refine Rg h g c a (M:=(wJ (qm l b)::((qr (w5 l)).take (qr (w5 l)).length).map (fun n=>wJ (qm l b)-gS n))++[(qG l b).1]) ?_;rw[p];unfold wW;rw[je f];have f:(qG l b).2=false:=f;refine Rg h g c a (M:=wJ (qm l b)::((qr (w5 l)).take (qr (w5 l)).length).map (fun n=>wJ (qm l b)-gS n)) ?_;rw[p];unfold wW;rw[jd (by rw[f];decide),j7]
theorem L8:wZ PR 14 L5:=vl L6 Py Tryz.func14 (kcC Em (kcC m9 (kcC bK (kcC xN (kcC na (kcC G5 (kcC G4 kcN))))))) koN
def XO:wS:=⟨[.val tLg,.fn [tBo] [.bool]],[tBo,.int],false,fun d=>[(qc (ww d.1)).length<=100000,qA d.1=0->wz (d.2.1.pre ((d.1,[],()),()))],fun d=>(qx d.1 (qj d.1 d.2.1.F),qe d.1 (qj d.1 d.2.1.F),())⟩
def XP:Ann:=fun r=>match r with
 |10=>some fun σ=>{X:=Nat,sl:=fun i=>[(46,.dat .int (i:Int))],ob:=fun i=>[(25,some (.map false .int (.ptr tBl) (A7 (gb tLg σ 2) i)))],inv:=fun i=>i<=(gd (.slice .int) σ 44).length,mu:=fun i=>(gd (.slice .int) σ 44).length-i}
 |14=>some fun σ=>{X:=Nat,sl:=fun p=>[(71,.dat .int (p:Int))],ob:=fun p=>[(65,some (.box 85 false ((bx σ 65).set 21 (.own (ig 65 21) .int)))),(ig 65 21,some (.row 3 .int false .yes (qL (gb tLg σ 2) (gd .int σ 13) p)))],inv:=fun p=>p<=(wj (wt (ww (gb tLg σ 2)))).length,mu:=fun p=>(wj (wt (ww (gb tLg σ 2)))).length-p}
 |21=>some fun σ=>{X:=Nat,sl:=fun i=>[(103,.dat .int (i:Int))],ob:=fun i=>[(65,some (.box 85 false (((bx σ 65).set 24 (.dat .bool (dU (wv (gb tLg σ 2) (gd .int σ 13) i)))).set 25 (.dat .int (dV (wv (gb tLg σ 2) (gd .int σ 13) i))))))],inv:=fun i=>i<=(wY (gb tLg σ 2)).length,mu:=fun i=>(wY (gb tLg σ 2)).length-i}
 |_=>none
abbrev jgu (d:LgD×FnD [tBo] [Ty.bool]×Unit):=d.1.2.2.2.1.q4.q4.2.1
abbrev jgv (d:LgD×FnD [tBo] [Ty.bool]×Unit):=d.1.2.2.2.1.q4.q4.1
abbrev jgw (d:LgD×FnD [tBo] [Ty.bool]×Unit):=d.1.2.2.2.1.q4.2.2.2.1
abbrev jgx (d:LgD×FnD [tBo] [Ty.bool]×Unit):=d.1.2.2.2.1.q4.2.2.1
abbrev jg4 (d:LgD×FnD [tBo] [Ty.bool]×Unit):=(wj (wt (ww d.1)))
abbrev jjF (d:LgD×FnD [tBo] [Ty.bool]×Unit):=(qx d.1 (qj d.1 d.2.1.2),qe d.1 (qj d.1 d.2.1.2),())
abbrev jgy (d:LgD×FnD [tBo] [Ty.bool]×Unit):=d.1.2.2.2.1.q4.2.1
abbrev jfF (d:LgD×FnD [tBo] [Ty.bool]×Unit):=(wb d.1.1)
abbrev jfC (d:LgD×FnD [tBo] [Ty.bool]×Unit)(x:Nat):=(nth (jfF d) x)
abbrev jfz (d:LgD×FnD [tBo] [Ty.bool]×Unit)(x:Nat):=(nth d.1.1.2.2.1 (jfC d x).toNat)
abbrev jhm (d:LgD×FnD [tBo] [Ty.bool]×Unit)(x:Nat):=(nth d.1.2.2.1 (jfC d x).toNat)
abbrev jgz (d:LgD×FnD [tBo] [Ty.bool]×Unit):=d.1.2.2.2.1.q4.1
abbrev jfU (d:LgD×FnD [tBo] [Ty.bool]×Unit)(x:Nat)(a:Nat):=(vE ((jfz d x).1.1,(jfz d x).1.2.1,(jfz d x).1.2.2.1,(jfz d x).1.2.2.2.1,(jfz d x).1.q4.1,(jfz d x).1.q4.2.1,(jfz d x).2.1,(jfz d x).2.2.1,(jfz d x).2.2.2.1,d.1.2.2.2.1.1,d.1.2.2.2.1.2.1,d.1.2.2.2.1.2.2.1,d.1.2.2.2.1.2.2.2.1,(jgz d),(jgy d),(jgx d),(jgw d),(jgv d),(jgu d),nth (jfF d) x,nth d.1.2.1 (jfC d x).toNat,qL d.1 (jfC d x) a,(0:Int),(0:Int),false,(0:Int),()))
abbrev jjG (d:LgD×FnD [tBo] [Ty.bool]×Unit)(x:Nat):=((jfz d x).1.1=(jfz d x).1.1/\(jfz d x).1.2.1=(jfz d x).1.2.1/\(jfz d x).1.2.2.1=(jfz d x).1.2.2.1/\(jfz d x).1.2.2.2.1=(jfz d x).1.2.2.2.1/\(jfz d x).1.q4.1=(jfz d x).1.q4.1/\(jfz d x).1.q4.2.1=(jfz d x).1.q4.2.1/\(jfz d x).2.1=(jfz d x).2.1/\(jfz d x).2.2.1=(jfz d x).2.2.1/\(jfz d x).2.2.2.1=(jfz d x).2.2.2.1/\d.1.2.2.2.1.1=d.1.2.2.2.1.1/\d.1.2.2.2.1.2.1=d.1.2.2.2.1.2.1/\d.1.2.2.2.1.2.2.1=d.1.2.2.2.1.2.2.1/\d.1.2.2.2.1.2.2.2.1=d.1.2.2.2.1.2.2.2.1/\(jgz d)=(jgz d)/\(jgy d)=(jgy d)/\(jgx d)=(jgx d)/\(jgw d)=(jgw d)/\(jgv d)=(jgv d)/\(jgu d)=(jgu d)/\nth (jfF d) x=nth (jfF d) x/\nth d.1.2.1 (jfC d x).toNat=nth d.1.2.1 (jfC d x).toNat/\True/\(0:Int)=0/\(0:Int)=0/\qF/\(0:Int)=0/\True)
abbrev jg5 (d:LgD×FnD [tBo] [Ty.bool]×Unit)(x:Nat)(a:Nat):=(wv d.1 (jfC d x) a)
abbrev jiS (d:LgD×FnD [tBo] [Ty.bool]×Unit)(x:Nat)(a:Nat)(b:Nat):=(vE ((jfz d x).1.1,(jfz d x).1.2.1,(jfz d x).1.2.2.1,(jfz d x).1.2.2.2.1,(jfz d x).1.q4.1,(jfz d x).1.q4.2.1,(jfz d x).2.1,(jfz d x).2.2.1,(jfz d x).2.2.2.1,d.1.2.2.2.1.1,d.1.2.2.2.1.2.1,d.1.2.2.2.1.2.2.1,d.1.2.2.2.1.2.2.2.1,(jgz d),(jgy d),(jgx d),(jgw d),(jgv d),(jgu d),nth (jfF d) x,nth d.1.2.1 (jfC d x).toNat,qL d.1 (jfC d x) a,b9 (jfU d x a),db (jhm d x) (jfU d x a),dU (jg5 d x b),dV (jg5 d x b),()))
def XQ:Prop:=∀(d:LgD×FnD [tBo] [Ty.bool]×Unit),(qc (ww d.1)).length<=100000->(qA d.1=0->wz (d.2.1.1 ((d.1,[],()),())))->(qc (ww d.1)).length<=100000/\(decide (qA d.1≠0)=true->((((((0:Int),[],[],()),[],[],(0:Int),(0:Int),[],()),[],[],((0:Int),(0:Int),(0:Int),(0:Int),(0:Int),(0:Int),(0:Int),(0:Int),[],[],()),[],()),[],()),qA d.1,())=(jjF d))/\(decide (qA d.1≠0)=false->asks (d.2.1.1 ((d.1,[],()),())) (((!(d.2.1.2 ((d.1,[],()),())).1)=true->((((((0:Int),[],[],()),[],[],(0:Int),(0:Int),[],()),[],[],((0:Int),(0:Int),(0:Int),(0:Int),(0:Int),(0:Int),(0:Int),(0:Int),[],[],()),[],()),[],()),(1:Int),())=(jjF d))/\((!(d.2.1.2 ((d.1,[],()),())).1)=false->(qc d.1.1).length<=100000/\(qc d.1.1).length<=100000/\((jfF d).length<4611686018427387904->(∃(x:Nat),((0=(x:Int)/\True)/\[]=A7 d.1 x/\True)/\x<=(jfF d).length)/\∀(x:Nat),x<=(jfF d).length->(decide ((x:Int)<(jfF d).length)=true->0<=(x:Int)/\(x:Int)<(jfF d).length/\0<=nth (jfF d) x/\nth (jfF d) x<(d.1.1.2.2.1.length:Int)/\0<=nth (jfF d) x/\nth (jfF d) x<(d.1.2.1.length:Int)/\(d.1.1.1.2.1.length<4611686018427387904->(∃(a:Nat),((0=(a:Int)/\True)/\(jjG d x)/\qL d.1 (jfC d x) a=[]/\True)/\a<=(jg4 d).length)/\∀(a:Nat),a<=(jg4 d).length->(decide ((a:Int)<d.1.1.1.2.1.length)=true->0<=nth (jfF d) x/\nth (jfF d) x<(↑(fV d.1.1).length:Int)/\0<=(a:Int)/\(a:Int)<=64/\(decide (fZ (nth (fV d.1.1) (jfC d x).toNat/(2:Int)^a) (1:Int)=1)=true->((qL d.1 (jfC d x) a).length+[(a:Int)].length)*8<=140737488355328/\wn ((a:Int)+1)/\∃(c:Nat),(((a:Int)+1=(c:Int)/\True)/\(jjG d x)/\qL d.1 (jfC d x) a++[(a:Int)]=qL d.1 (jfC d x) c/\True)/\c<=(jg4 d).length/\(jg4 d).length-c<(jg4 d).length-a)/\(decide (fZ (nth (fV d.1.1) (jfC d x).toNat/(2:Int)^a) (1:Int)=1)=false->wn ((a:Int)+1)/\∃(c:Nat),(((a:Int)+1=(c:Int)/\True)/\qL d.1 (jfC d x) a=qL d.1 (jfC d x) c/\(jjG d x)/\True)/\c<=(jg4 d).length/\(jg4 d).length-c<(jg4 d).length-a))/\(decide ((a:Int)<d.1.1.1.2.1.length)=false->0<=nth (jfF d) x/\nth (jfF d) x<(d.1.2.2.1.length:Int)/\FY (jfU d x a)/\0<=nth d.1.2.2.1 (jfC d x).toNat/\nth d.1.2.2.1 (jfC d x).toNat<=300/\(d.1.q4.1.length<4611686018427387904->(∃(b:Nat),((0=(b:Int)/\True)/\((jfz d x).1.1=(jfz d x).1.1/\(jfz d x).1.2.1=(jfz d x).1.2.1/\(jfz d x).1.2.2.1=(jfz d x).1.2.2.1/\(jfz d x).1.2.2.2.1=(jfz d x).1.2.2.2.1/\(jfz d x).1.q4.1=(jfz d x).1.q4.1/\(jfz d x).1.q4.2.1=(jfz d x).1.q4.2.1/\(jfz d x).2.1=(jfz d x).2.1/\(jfz d x).2.2.1=(jfz d x).2.2.1/\(jfz d x).2.2.2.1=(jfz d x).2.2.2.1/\d.1.2.2.2.1.1=d.1.2.2.2.1.1/\d.1.2.2.2.1.2.1=d.1.2.2.2.1.2.1/\d.1.2.2.2.1.2.2.1=d.1.2.2.2.1.2.2.1/\d.1.2.2.2.1.2.2.2.1=d.1.2.2.2.1.2.2.2.1/\(jgz d)=(jgz d)/\(jgy d)=(jgy d)/\(jgx d)=(jgx d)/\(jgw d)=(jgw d)/\(jgv d)=(jgv d)/\(jgu d)=(jgu d)/\nth (jfF d) x=nth (jfF d) x/\nth d.1.2.1 (jfC d x).toNat=nth d.1.2.1 (jfC d x).toNat/\qL d.1 (jfC d x) a=qL d.1 (jfC d x) a/\b9 (jfU d x a)=b9 (jfU d x a)/\db (jhm d x) (jfU d x a)=db (jhm d x) (jfU d x a)/\dU (jfU d x a)=dU (jg5 d x b)/\dV (jfU d x a)=dV (jg5 d x b)/\True)/\True)/\b<=(wY d.1).length)/\∀(b:Nat),b<=(wY d.1).length->(decide ((b:Int)<d.1.q4.1.length)=true->0<=(b:Int)/\(b:Int)<d.1.q4.1.length/\(decide ((nth d.1.q4.1 b).2.1=nth (jfF d) x)=true->wn ((b:Int)+1)/\∃(c:Nat),(((b:Int)+1=(c:Int)/\True)/\((jfz d x).1.1=(jfz d x).1.1/\(jfz d x).1.2.1=(jfz d x).1.2.1/\(jfz d x).1.2.2.1=(jfz d x).1.2.2.1/\(jfz d x).1.2.2.2.1=(jfz d x).1.2.2.2.1/\(jfz d x).1.q4.1=(jfz d x).1.q4.1/\(jfz d x).1.q4.2.1=(jfz d x).1.q4.2.1/\(jfz d x).2.1=(jfz d x).2.1/\(jfz d x).2.2.1=(jfz d x).2.2.1/\(jfz d x).2.2.2.1=(jfz d x).2.2.2.1/\d.1.2.2.2.1.1=d.1.2.2.2.1.1/\d.1.2.2.2.1.2.1=d.1.2.2.2.1.2.1/\d.1.2.2.2.1.2.2.1=d.1.2.2.2.1.2.2.1/\d.1.2.2.2.1.2.2.2.1=d.1.2.2.2.1.2.2.2.1/\(jgz d)=(jgz d)/\(jgy d)=(jgy d)/\(jgx d)=(jgx d)/\(jgw d)=(jgw d)/\(jgv d)=(jgv d)/\(jgu d)=(jgu d)/\nth (jfF d) x=nth (jfF d) x/\nth d.1.2.1 (jfC d x).toNat=nth d.1.2.1 (jfC d x).toNat/\qL d.1 (jfC d x) a=qL d.1 (jfC d x) a/\rF (jiS d x a b)=b9 (jfU d x a)/\FX (jiS d x a b)=db (jhm d x) (jfU d x a)/\X6 (nth d.1.q4.1 b).2.2.1 (jiS d x a b)=dU (wv d.1 (jfC d x) c)/\X7 (nth d.1.q4.1 b).2.2.1 (jiS d x a b)=dV (wv d.1 (jfC d x) c)/\True)/\True)/\c<=(wY d.1).length/\(wY d.1).length-c<(wY d.1).length-b)/\(decide ((nth d.1.q4.1 b).2.1=nth (jfF d) x)=false->wn ((b:Int)+1)/\∃(c:Nat),(((b:Int)+1=(c:Int)/\True)/\((jfz d x).1.1=(jfz d x).1.1/\(jfz d x).1.2.1=(jfz d x).1.2.1/\(jfz d x).1.2.2.1=(jfz d x).1.2.2.1/\(jfz d x).1.2.2.2.1=(jfz d x).1.2.2.2.1/\(jfz d x).1.q4.1=(jfz d x).1.q4.1/\(jfz d x).1.q4.2.1=(jfz d x).1.q4.2.1/\(jfz d x).2.1=(jfz d x).2.1/\(jfz d x).2.2.1=(jfz d x).2.2.1/\(jfz d x).2.2.2.1=(jfz d x).2.2.2.1/\d.1.2.2.2.1.1=d.1.2.2.2.1.1/\d.1.2.2.2.1.2.1=d.1.2.2.2.1.2.1/\d.1.2.2.2.1.2.2.1=d.1.2.2.2.1.2.2.1/\d.1.2.2.2.1.2.2.2.1=d.1.2.2.2.1.2.2.2.1/\(jgz d)=(jgz d)/\(jgy d)=(jgy d)/\(jgx d)=(jgx d)/\(jgw d)=(jgw d)/\(jgv d)=(jgv d)/\(jgu d)=(jgu d)/\nth (jfF d) x=nth (jfF d) x/\nth d.1.2.1 (jfC d x).toNat=nth d.1.2.1 (jfC d x).toNat/\qL d.1 (jfC d x) a=qL d.1 (jfC d x) a/\b9 (jfU d x a)=b9 (jfU d x a)/\db (jhm d x) (jfU d x a)=db (jhm d x) (jfU d x a)/\dU (jg5 d x b)=dU (wv d.1 (jfC d x) c)/\dV (jg5 d x b)=dV (wv d.1 (jfC d x) c)/\True)/\True)/\c<=(wY d.1).length/\(wY d.1).length-c<(wY d.1).length-b))/\(decide ((b:Int)<d.1.q4.1.length)=false->wn ((x:Int)+1)/\∃(c:Nat),(((x:Int)+1=(c:Int)/\True)/\fY Ty.int (jfC d x) (some (nth d.1.1.2.2.1 (jfC d x).toNat,d.1.2.2.2.1,nth (jfF d) x,nth d.1.2.1 (jfC d x).toNat,qL d.1 (jfC d x) a,b9 (jfU d x a),db (jhm d x) (jfU d x a),dU (jg5 d x b),dV (jg5 d x b),())) (A7 d.1 x)=A7 d.1 c/\True)/\c<=(jfF d).length/\(jfF d).length-c<(jfF d).length-x)))))/\(decide ((x:Int)<(jfF d).length)=false->((d.1,A7 d.1 x,()),(0:Int),())=(jjF d))))))
def jda (l:LgD) (n:Int) (k:Nat):BlD:=
 (nth (wq (ww l)) n.toNat,w5 l,n,nth (dt l) n.toNat,qL l n (wj (wt (ww l))).length,
  b9 (tV l n (qL l n (wj (wt (ww l))).length)),db (nth (nW l) n.toNat) (tV l n (qL l n (wj (wt (ww l))).length)),dU (wv l n k),dV (wv l n k),())
theorem Pz (l:LgD) (n:Int) {k:Nat} (hk:k<=(wY l).length):jda l n k=wv l n k:=by
 obtain⟨c1,c2,a,b,c,d,f⟩:=yJ l n k hk;have e:wv l n k=(qU (wv l n k),gn (wv l n k),Ro (wv l n k),Rp (wv l n k),vW (wv l n k),rF (wv l n k),FX (wv l n k),dU (wv l n k),dV (wv l n k),()):=rfl;rw[c1,c2,a,b,c,d,f] at e;exact e.symm
theorem XR (l:LgD) (n:Int) (k:Nat):qL l n (k+1)=qL l n k++(if qf (nth (fV (ww l)) n.toNat) (k:Int)=true then[(k:Int)] else[]):=by
 unfold qL Mo;rw[zf,kW,zw];congr 1;by_cases h:qf (nth (fV (ww l)) n.toNat) (k:Int)=true;rw[je h];simp only[List.filter,h,List.map];rw[jd h];rw[ki] at h;simp only[List.filter,h,List.map]
theorem Z2 {l:LgD} (h:u5 l):(fV (ww l)).length=(wq (ww l)).length:=by
 unfold fV;rw[je h.cp];unfold aG;rw[zj,zO]
theorem Z3:XQ:=by
 unfold XQ jiS jg5 jjG jfU jgz jhm jfz jfC jfF jgy jjF jg4 jgx jgw jgv jgu Prod.q4;rintro⟨l,told,⟨⟩⟩ w K;have w:(qc (ww l)).length<=100000:=w;refine⟨w,fun h=> ?_,fun h=> ?_⟩;have h:qA l≠0:=ja h;have e:∀t,qe l t=qA l:=fun t=>je h
 have e2:∀t,qx l t=je7:=fun t=>jd (by rw[e];exact h)
 show(je7,qA l,())=(qx l (qj l told.2),qe l (qj l told.2),());rw[e,e2];have h:qA l=0:=jO.1 (jc h);have g:=ee h;refine vZ _ (K h) ⟨fun o=> ?_,fun o=>⟨w,w,fun H=>⟨⟨0,⟨⟨rfl,tZ⟩,rfl,tZ⟩,jm _⟩,fun x I=>⟨fun q=> ?_,fun q=> ?_⟩⟩⟩⟩;have o:qj l told.2=false:=(by simpa using(show(!qj l told.2)=true from o));show(je7,(1:Int),())=(qx l (qj l told.2),qe l (qj l told.2),());have e:qe l (qj l told.2)=1:=by
  unfold qe;rw[jd (fun z=>z h),o];rfl
 have e2:qx l (qj l told.2)=je7:=jd (by rw[e];decide);rw[e,e2];have q:(x:Int)<(wb (ww l)).length:=ja q;have f:x<(wb (ww l)).length:=(by omega);obtain⟨n,en⟩:∃n,n=nth (wb (ww l)) x:=⟨_,rfl⟩;have c:0<=n/\n<((wq (ww l)).length:Int):=(by rw[en];exact O5 (L.wi f));have M:(wb (ww l)).length<=4:=Q7 g;have C:n<((dt l).length:Int):=(by rw[g.py.1];exact c.2);have F:n<((nW l).length:Int):=(by rw[g.tr.1];exact c.2);have E:n<((fV (ww l)).length:Int):=(by rw[Z2 g];exact c.2);have O:=jeS g;have u:=tA (nth (fV (ww l)) n.toNat);have G:=g.tr.2 _ (L.wi (show n.toNat<(nW l).length by omega));have D:A7 l (x+1)=fY .int n (some (wI l n)) (A7 l x):=(by rw[LB f,<-en];rfl);have N:=g.cl;have step:∀k,k<(wY l).length->wv l n (k+1)=aI n (jda l n k) (nth (wY l) k):=fun k hk=>by rw[dQ hk,Pz l n (by omega)]
 subst en;refine⟨by omega,q,c.1,c.2,c.1,C,fun P=>⟨⟨0,⟨⟨rfl,tZ⟩,(by repeat' (first|exact trivial|exact rfl|apply And.intro)),rfl,tZ⟩,jm _⟩,fun p v=>⟨fun b=> ?_,fun b=> ?_⟩⟩⟩;have b:(p:Int)<(wj (wt (ww l))).length:=ja b;have d:=XR l (nth (wb (ww l)) x) p;have s:=(u p).1;have s:(qL l (nth (wb (ww l)) x) p).length<=p:=s;have up:p+1<=(wj (wt (ww l))).length:=(by omega);have r:(wj (wt (ww l))).length-(p+1)<(wj (wt (ww l))).length-p:=(by omega);refine⟨c.1,E,by omega,by omega,fun j=> ?_,fun j=> ?_⟩;have j:qf (nth (fV (ww l)) (nth (wb (ww l)) x).toNat) (p:Int)=true:=j;rw[je j] at d;exact⟨by show((qL l (nth (wb (ww l)) x) p).length+1)*8<=140737488355328;omega,iZ6,p+1,⟨⟨by simp,tZ⟩,(by repeat' (first|exact trivial|exact rfl|apply And.intro)),d.symm,tZ⟩,up,r⟩;have j:qf (nth (fV (ww l)) (nth (wb (ww l)) x).toNat) (p:Int)=false:=j;rw[jd (by rw[j];decide),j7] at d;exact⟨iZ6,p+1,⟨⟨by simp,tZ⟩,d.symm,(by repeat' (first|exact trivial|exact rfl|apply And.intro)),tZ⟩,up,r⟩;have b:¬(p:Int)<(wj (wt (ww l))).length:=jc b;have v:p<=(wj (wt (ww l))).length:=v;have B:p=(wj (wt (ww l))).length:=(by omega);subst B;have J:DQ (tV l (nth (wb (ww l)) x) (qL l (nth (wb (ww l)) x) (wj (wt (ww l))).length)):=Q6 g c (by have:=(u (wj (wt (ww l))).length).1;unfold qL;omega);refine⟨c.1,F,tz.2 J,G.1,G.2,fun Q=>⟨⟨0,⟨⟨rfl,tZ⟩,(by repeat' (first|exact trivial|exact rfl|apply And.intro)),tZ⟩,jm _⟩,fun k hk=>⟨fun a=> ?_,fun a=> ?_⟩⟩⟩;have a:(k:Int)<(wY l).length:=ja a;have i:=step k (by omega);have up:k+1<=(wY l).length:=(by omega);have r:(wY l).length-(k+1)<(wY l).length-k:=(by omega);refine⟨by omega,a,fun m=> ?_,fun m=> ?_⟩;have m:jcX (nth (wY l) k)=(nth (wb (ww l)) x):=ja m;have e:wv l (nth (wb (ww l)) x) (k+1)=qk (PT (nth (wY l) k)) (jda l (nth (wb (ww l)) x) k):=(by rw[i];exact je m);have y:dU (qk (PT (nth (wY l) k)) (jda l (nth (wb (ww l)) x) k))=dU (wv l (nth (wb (ww l)) x) (k+1)):=(by rw[e]);have e2:dV (qk (PT (nth (wY l) k)) (jda l (nth (wb (ww l)) x) k))=dV (wv l (nth (wb (ww l)) x) (k+1)):=(by rw[e]);exact⟨iZ6,k+1,⟨⟨by simp,tZ⟩,(by repeat' (first|exact trivial|exact y|exact e2|exact rfl|apply And.intro)),tZ⟩,up,r⟩;have m:¬jcX (nth (wY l) k)=(nth (wb (ww l)) x):=jc m;have e:wv l (nth (wb (ww l)) x) (k+1)=wv l (nth (wb (ww l)) x) k:=(by rw[i,Pz l (nth (wb (ww l)) x) (by omega)];exact jd m);have y:dU (wv l (nth (wb (ww l)) x) k)=dU (wv l (nth (wb (ww l)) x) (k+1)):=(by rw[e]);have e2:dV (wv l (nth (wb (ww l)) x) k)=dV (wv l (nth (wb (ww l)) x) (k+1)):=(by rw[e]);exact⟨iZ6,k+1,⟨⟨by simp,tZ⟩,(by repeat' (first|exact trivial|exact y|exact e2|exact rfl|apply And.intro)),tZ⟩,up,r⟩;have a:¬(k:Int)<(wY l).length:=jc a;have hk:k<=(wY l).length:=hk;have A:k=(wY l).length:=(by omega);subst A;have e:fY .int (nth (wb (ww l)) x) (some (jda l (nth (wb (ww l)) x) (wY l).length)) (A7 l x)=A7 l (x+1):=by
  rw[D,Pz l (nth (wb (ww l)) x) (jk _)];rfl
 exact⟨iZ6,x+1,⟨⟨by simp,tZ⟩,e,tZ⟩,by show x+1<=(wb (ww l)).length;omega,by show(wb (ww l)).length-(x+1)<(wb (ww l)).length-x;omega⟩;have q:¬(x:Int)<(wb (ww l)).length:=jc q;have I:x<=(wb (ww l)).length:=I;have f:x=(wb (ww l)).length:=(by omega);subst f;have o:qj l told.2=true:=(by simpa using(show(!qj l told.2)=false from o));show((l,Uj l,()),(0:Int),())=(qx l (qj l told.2),qe l (qj l told.2),());have e:qe l (qj l told.2)=0:=by
  unfold qe;rw[jd (fun z=>z h),je o]
 have e2:qx l (qj l told.2)=(l,Uj l,()):=je e;rw[e,e2]
theorem tL:wZ PR 34 XO:=vl XP Z3 Tryz.func34 (kcC TE (kcC SF (kcC Od kcN))) (koC AP (koC oS koN))
def PA:wS:=⟨[.val tLg],[.slice .int,.int],false,fun d=>[(qc (ww d.1)).length<=100000],fun d=>(Mp d.1,qA d.1,())⟩
abbrev jir (d:LgD×Unit):=(qj d.1 fun(a:BoD×Unit)=>(true,()))
def PB:Prop:=∀(d:LgD×Unit),(qc (ww d.1)).length<=100000->(qc (ww d.1)).length<=100000/\(qA d.1=0->wz [])/\(decide (qe d.1 (jir d)≠0)=true->([],qe d.1 (jir d),())=(Mp d.1,qA d.1,()))/\(decide (qe d.1 (jir d)≠0)=false->X9 (qx d.1 (jir d))/\(Uk (qx d.1 (jir d)),(0:Int),())=(Mp d.1,qA d.1,()))
def T7:wS:=⟨[.val tBo,.ref .int],[.bool],false,fun d=>[(wq (ww (cY d.1))).length<=100],fun d=>(qX d.1 d.2.1,())⟩
def T8:Prop:=∀(d:BoD×Int×Unit),(wq (ww (cY d.1))).length<=100->(wq (ww (cY d.1))).length<=100/\(qX d.1 d.2.1,())=(qX d.1 d.2.1,())
def Z4:wS:=⟨[.val tLg,.val .int],[.slice .int,.int],false,fun d=>[(qc (ww d.1)).length<=100000],fun d=>(Mq d.1 d.2.1,qe d.1 (qy d.1 d.2.1),())⟩
abbrev jis (d:LgD×Int×Unit):=(qj d.1 fun(a:BoD×Unit)=>(qX a.1 d.2.1,()))
def Z5:Prop:=∀(d:LgD×Int×Unit),(qc (ww d.1)).length<=100000->(qc (ww d.1)).length<=100000/\(qA d.1=0->wz [(wq (ww (cY (d.1,[],())))).length<=100])/\(decide (qe d.1 (jis d)≠0)=true->([],qe d.1 (jis d),())=(Mq d.1 d.2.1,qe d.1 (qy d.1 d.2.1),()))/\(decide (qe d.1 (jis d)≠0)=false->Ya (qx d.1 (jis d))/\(Ul (qx d.1 (jis d)) d.2.1,(0:Int),())=(Mq d.1 d.2.1,qe d.1 (qy d.1 d.2.1),()))
def L9:wS:=⟨[.val tBo,.ref .int,.ref .int],[.bool],false,fun d=>[(wq (ww (cY d.1))).length<=100],fun d=>(qX d.1 d.2.1&&vD d.2.2.1,())⟩
def Ma:Prop:=∀(d:BoD×Int×Int×Unit),(wq (ww (cY d.1))).length<=100->(wq (ww (cY d.1))).length<=100/\(qX d.1 d.2.1&&wa d.2.2.1 (-100000:Int) (1440:Int),())=(qX d.1 d.2.1&&vD d.2.2.1,())
def I0:wS:=⟨[.val tBo,.ref .int,.ref .int],[.bool],false,fun d=>[(wq (ww (cY d.1))).length<=100],fun d=>(qX d.1 d.2.1&&yr d.2.2.1,())⟩
def I1:Prop:=∀(d:BoD×Int×Int×Unit),(wq (ww (cY d.1))).length<=100->(wq (ww (cY d.1))).length<=100/\(qX d.1 d.2.1&&wa d.2.2.1 (0:Int) (1000000000:Int),())=(qX d.1 d.2.1&&yr d.2.2.1,())
def T9:wS:=⟨[.val tLg,.val .int,.val .int],[.int,.int],false,fun d=>[(qc (ww d.1)).length<=100000],fun d=>(tW d.1 d.2.1 d.2.2.1,qe d.1 (qy d.1 d.2.1&&vD d.2.2.1),())⟩
abbrev jiT (d:LgD×Int×Int×Unit):=(qj d.1 fun(a:BoD×Unit)=>(qX a.1 d.2.1&&vD d.2.2.1,()))
abbrev jit (d:LgD×Int×Int×Unit):=(wQ none (wB Ty.int d.2.1 (qx d.1 (jiT d)).2.1))
abbrev jhL (d:LgD×Int×Int×Unit):=(wK ((((0:Int),(0:Int),(0:Int),(0:Int),(0:Int),(0:Int),()),(0:Int),(0:Int),(0:Int),()),((0:Int),(0:Int),(0:Int),(0:Int),(0:Int),(0:Int),(0:Int),(0:Int),[],[],()),(0:Int),(0:Int),[],(0:Int),(0:Int),false,(0:Int),()) (jit d))
abbrev jjH (d:LgD×Int×Int×Unit):=(tW d.1 d.2.1 d.2.2.1,qe d.1 (qy d.1 d.2.1&&vD d.2.2.1),())
def Ua:Prop:=∀(d:LgD×Int×Int×Unit),(qc (ww d.1)).length<=100000->(qc (ww d.1)).length<=100000/\(qA d.1=0->wz [(wq (ww (cY (d.1,[],())))).length<=100])/\(decide (qe d.1 (jiT d)≠0)=true->((0:Int),qe d.1 (jiT d),())=(jjH d))/\(decide (qe d.1 (jiT d)≠0)=false->((jit d).isNone=true->((0:Int),(0:Int),())=(jjH d))/\((jit d).isNone=false->(jit d).isSome=true/\rB (jhL d)/\(jit d).isSome=true/\rB (jhL d)/\(-100000:Int)<=d.2.2.1/\d.2.2.1<=1440/\wn ((vK (jhL d)).q4.2.1-ve d.2.2.1 (jhL d))/\((vK (jhL d)).q4.2.1-ve d.2.2.1 (jhL d),(0:Int),())=(jjH d)))
theorem XS:T8:=fun _ h=>⟨h,rfl⟩
theorem Ub:wZ PR 46 T7:=wL XS Tryz.func46 (kcC aA kcN) koN
theorem PC:Ma:=fun _ h=>⟨h,rfl⟩
theorem Mb:wZ PR 35 L9:=wL PC Tryz.func35 (kcC aA (kcC yS kcN)) koN
theorem Mc:I1:=fun _ h=>⟨h,rfl⟩
theorem I2:wZ PR 43 I0:=wL Mc Tryz.func43 (kcC aA (kcC yS kcN)) koN
theorem je1 {l:LgD} (h:u5 l):(wq (ww l)).length<=4:=by
 have a:=h.dy;unfold qD at a;rw[ji] at a;exact(ja a.1).1
theorem Rh (l:LgD):qe l true=qA l:=by
 unfold qe;by_cases h:qA l=0;rw[jd (fun a=>a h),je rfl,h];rw[je h]
theorem I3 {l:LgD} {t:Bool} (h:qe l t=0):qx l t=U.bo l/\u5 l/\t=true:=by
 have e:qx l t=U.bo l:=(by unfold qx;rw[je h];rfl);unfold qe at h
 split at h
 rename_i a;exact absurd h a;rename_i a
 split at h
 rename_i b;exact⟨e,ee (jO.1 a),b⟩;cases h
theorem Uc:PB:=by
 unfold PB jir;rintro⟨l,⟨⟩⟩ c;refine⟨c,fun _=>tZ,fun h=> ?_,fun h=> ?_⟩;have h:qe l true≠0:=ja h;show(([]:List Int),qe l true,())=(Mp l,qA l,());rw[Rh] at h⊢;unfold Mp;rw[jd h];have h:qe l true=0:=jO.1 (jc h);obtain⟨a,b,_⟩:=I3 h;rw[Rh] at h;refine⟨?_,?_⟩;show X9 (qx l true);rw[a];exact jeZ b;show(Uk (qx l true),(0:Int),())=(Mp l,qA l,());rw[a,h];unfold Mp;rw[je h]
theorem PE:wZ PR 24 PA:=wL Uc Tryz.func24 (kcC tL (kcC Pc (kcC xg kcN))) koN
theorem jcJ:Z5:=by
 unfold Z5 jis;rintro⟨l,n,⟨⟩⟩ d;refine⟨d,fun b=> ?_,fun h=> ?_,fun h=> ?_⟩;have:(wq (ww l)).length<=4:=je1 (ee b);exact⟨by show(wq (ww l)).length<=100;omega,tZ⟩;have h:qe l (qy l n)≠0:=ja h;show(([]:List Int),qe l (qy l n),())=(Mq l n,qe l (qy l n),());unfold Mq;rw[jd h];have h:qe l (qy l n)=0:=jO.1 (jc h);obtain⟨a,c,_⟩:=I3 h;refine⟨?_,?_⟩;show Ya (qx l (qy l n));rw[a];exact je0 c;show(Ul (qx l (qy l n)) n,(0:Int),())=(Mq l n,qe l (qy l n),());rw[a,h];unfold Mq;rw[je h]
theorem Z6:wZ PR 17 Z4:=wL jcJ Tryz.func17 (kcC tL (kcC Ub (kcC FD kcN))) koN
theorem jaW {l:LgD} (i:u5 l) {n:Int} {b:BlD} (h:MA (U.bo l) n=some b):LA b:=by
 have a:=jcB i;have d:(n,some b)∈Uj l:=by
  refine(M.nX (kt:= .int) a.2.2.1).1 ?_;have e:wQ none (wB .int n (Uj l))=some b:=h;cases f:wB (β:=Option BlD) Ty.int n (Uj l) with
  |none=>rw[f] at e;cases e
  |some v=>rw[f] at e;exact f.trans (jE some e)
 obtain⟨g,c,j⟩:=a.1 _ d;have c:some b=some g:=c;simp only[jz] at c;subst c;exact ck.1 j
theorem XT {b:BlD} {m:Int} (w:LA b) (a: -100000<=m/\m<=1440): -1000000<=ve m b/\ve m b<=20000000000000000:=D7 (Bt w a)
theorem XU:Ua:=by
 unfold Ua jjH jhL jit jiT Prod.q4;rintro⟨l,n,m,⟨⟩⟩ j;refine⟨j,fun g=> ?_,fun h=> ?_,fun h=> ?_⟩;have:(wq (ww l)).length<=4:=je1 (ee g);exact⟨by show(wq (ww l)).length<=100;omega,tZ⟩;have h:qe l (qy l n&&vD m)≠0:=ja h;show((0:Int),qe l (qy l n&&vD m),())=(tW l n m,qe l (qy l n&&vD m),());unfold tW;rw[jd h];have h:qe l (qy l n&&vD m)=0:=jO.1 (jc h);obtain⟨f,i,c⟩:=I3 h;rw[ji] at c;have a: -100000<=m/\m<=1440:=vb.1 c.2;show((MA (qx l (qy l n&&vD m)) n).isNone=true->((0:Int),(0:Int),())=(tW l n m,qe l (qy l n&&vD m),()))/\
  ((MA (qx l (qy l n&&vD m)) n).isNone=false->(MA (qx l (qy l n&&vD m)) n).isSome=true/\rB (wK _ (MA (qx l (qy l n&&vD m)) n))/\(MA (qx l (qy l n&&vD m)) n).isSome=true/\rB (wK _ (MA (qx l (qy l n&&vD m)) n))/\-100000<=m/\m<=1440/\
    wn (Mm (vK (wK _ (MA (qx l (qy l n&&vD m)) n)))-ve m (wK _ (MA (qx l (qy l n&&vD m)) n)))/\(Mm (vK (wK _ (MA (qx l (qy l n&&vD m)) n)))-ve m (wK _ (MA (qx l (qy l n&&vD m)) n)),(0:Int),())=(tW l n m,qe l (qy l n&&vD m),()))
 rw[f,h];unfold tW;rw[je h];cases e:MA (U.bo l) n with
 |none=>exact⟨fun _=>rfl,fun h=>(by cases h)⟩
 |some b=>
  have w:=jaW i e;have d:=ck.2 w;have k:=D7 w;have o:=XT w a;refine⟨fun h=>(by cases h),fun _=>⟨rfl,d,rfl,d,a.1,a.2,?_,rfl⟩⟩;show wn (Mm (vK b)-ve m b);exact iZ6
theorem G6:wZ PR 11 T9:=wL XU Tryz.func11 (kcC tL (kcC Mb (kcC bq (kcC lr kcN)))) koN
namespace U
def yE (o:Option BlD):BlD:=o.getD default
end U
def PF:wS:=⟨[.val tLg,.val .int,.val .int],[.int,.int],false,fun d=>[(qc (ww d.1)).length<=100000],fun d=>(A8 d.1 d.2.1 d.2.2.1,A9 d.1 d.2.1 d.2.2.1,())⟩
def PG:Ann:=fun r=>match r with
 |7=>some fun σ=>{X:=Nat,sl:=fun k=>[(11,.dat .int (wJ (qU (yE (gd (.ptr tBl) σ 10)))-(k:Int)))],ob:=fun _=>[],inv:=fun k=>k<=de (yE (gd (.ptr tBl) σ 10))/\∀j:Nat,j<k->bQ (yE (gd (.ptr tBl) σ 10)) (gb .int σ 5) j=false,mu:=fun k=>de (yE (gd (.ptr tBl) σ 10))-k}
 |_=>none
abbrev jiU (d:LgD×Int×Int×Unit):=(qj d.1 fun(a:BoD×Unit)=>(qX a.1 d.2.1&&yr d.2.2.1,()))
abbrev jhM (d:LgD×Int×Int×Unit):=(wQ none (wB Ty.int d.2.1 (qx d.1 (jiU d)).2.1))
abbrev jiV (d:LgD×Int×Int×Unit):=(wK ((((0:Int),(0:Int),(0:Int),(0:Int),(0:Int),(0:Int),()),(0:Int),(0:Int),(0:Int),()),((0:Int),(0:Int),(0:Int),(0:Int),(0:Int),(0:Int),(0:Int),(0:Int),[],[],()),(0:Int),(0:Int),[],(0:Int),(0:Int),false,(0:Int),()) (jhM d))
abbrev jiW (d:LgD×Int×Int×Unit):=(A8 d.1 d.2.1 d.2.2.1,A9 d.1 d.2.1 d.2.2.1,())
abbrev jgK (d:LgD×Int×Int×Unit):=(yE (jhM d))
abbrev jgm (d:LgD×Int×Int×Unit):=(qU (jgK d))
def PH:Prop:=∀(d:LgD×Int×Int×Unit),(qc (ww d.1)).length<=100000->(qc (ww d.1)).length<=100000/\(qA d.1=0->wz [(wq (ww (cY (d.1,[],())))).length<=100])/\(decide (qe d.1 (jiU d)≠0)=true->((0:Int),qe d.1 (jiU d),())=(jiW d))/\(decide (qe d.1 (jiU d)≠0)=false->((!(jhM d).isNone)=true->(jhM d).isSome=true/\(∃(x:Nat),(((jiV d).1.2.2.1=wJ (jgm d)-(x:Int)/\True)/\True)/\x<=de (jgK d)/\∀(j:Nat),j<x->bQ (jgK d) d.2.2.1 j=false)/\∀(x:Nat),(x<=de (jgK d)/\∀(j:Nat),j<x->bQ (jgK d) d.2.2.1 j=false)->(decide ((-100000:Int)<=wJ (jgm d)-(x:Int))=true->(jhM d).isSome=true/\rB (jiV d)/\(-100000:Int)<=wJ (jgm d)-(x:Int)/\wJ (jgm d)-(x:Int)<=1440/\(decide (ve (wJ (jgm d)-(x:Int)) (jiV d)<=d.2.2.1)=true->(wJ (jgm d)-(x:Int),(0:Int),())=(jiW d))/\(decide (ve (wJ (jgm d)-(x:Int)) (jiV d)<=d.2.2.1)=false->wn (wJ (jgm d)-(x:Int)-1)/\∃(a:Nat),((wJ (jgm d)-(x:Int)-1=wJ (jgm d)-(a:Int)/\True)/\True)/\(a<=de (jgK d)/\∀(j:Nat),j<a->bQ (jgK d) d.2.2.1 j=false)/\de (jgK d)-a<de (jgK d)-x))/\(decide ((-100000:Int)<=wJ (jgm d)-(x:Int))=false->((0:Int),(3:Int),())=(jiW d)))/\((!(jhM d).isNone)=false->((0:Int),(3:Int),())=(jiW d)))
theorem jea {o:Option BlD} {Z:BlD} {most P E:Int} (s:∀b,o=some b->LA b) (q:P=jek most o) (n:E=jel most o):
 ((!o.isNone)=true->o.isSome=true/\(∃(x:Nat),((wJ (qU (wK Z o))=wJ (qU (yE o))-(x:Int)/\True)/\True)/\x<=de (yE o)/\∀(j:Nat),j<x->bQ (yE o) most j=false)/\
   ∀(x:Nat),(x<=de (yE o)/\∀(j:Nat),j<x->bQ (yE o) most j=false)->
    (decide (-100000<=wJ (qU (yE o))-(x:Int))=true->o.isSome=true/\rB (wK Z o)/\-100000<=wJ (qU (yE o))-(x:Int)/\wJ (qU (yE o))-(x:Int)<=1440/\
     (decide (ve (wJ (qU (yE o))-(x:Int)) (wK Z o)<=most)=true->(wJ (qU (yE o))-(x:Int),(0:Int),())=(P,E,()))/\
     (decide (ve (wJ (qU (yE o))-(x:Int)) (wK Z o)<=most)=false->wn (wJ (qU (yE o))-(x:Int)-1)/\∃(l:Nat),((wJ (qU (yE o))-(x:Int)-1=wJ (qU (yE o))-(l:Int)/\True)/\True)/\(l<=de (yE o)/\∀(j:Nat),j<l->bQ (yE o) most j=false)/\de (yE o)-l<de (yE o)-x))/\
    (decide (-100000<=wJ (qU (yE o))-(x:Int))=false->((0:Int),(3:Int),())=(P,E,())))/\
 ((!o.isNone)=false->((0:Int),(3:Int),())=(P,E,())):=by
 subst q n;cases o with
 |none=>exact⟨fun h=>(by cases h),fun _=>rfl⟩
 |some b=>
  have w:=s b rfl;have m:=w.bl;refine⟨fun _=>⟨rfl,⟨0,⟨⟨?_,tZ⟩,tZ⟩,jm _,fun j r=>by omega⟩,fun x c=>⟨fun d=> ?_,fun d=> ?_⟩⟩,fun h=>(by cases h)⟩;show wJ (qU b)=wJ (qU b)-((0:Nat):Int);omega;have c:x<=de b/\∀j:Nat,j<x->bQ b most j=false:=c;have d: -100000<=wJ (qU b)-(x:Int):=ja d;have s1:=m.st;have s2:=m.en;have t:=m.e2;have p:de b=(wJ (qU b)+100001).toNat:=rfl;refine⟨rfl,ck.2 w,d,?_,fun a=> ?_,fun a=> ?_⟩;show wJ (qU b)-(x:Int)<=1440;omega;have a:bQ b most x=true:=a;have e:tX b most=some x:=by
   rcases xh b most with⟨k,e,hk,f,g⟩|⟨e,g⟩;rw[e];have:k=x:=by
    rcases Nat.lt_trichotomy k x with i|i|i;rw[c.2 k i] at f;cases f;exact i;rw[g x i] at a;cases a
   rw[this];rw[g x (by omega)] at a;cases a
  show(wJ (qU b)-(x:Int),(0:Int),())=(jei b (tX b most),jej (tX b most),());rw[e];rfl;have a:bQ b most x=false:=a;refine⟨?_,x+1,⟨⟨?_,tZ⟩,tZ⟩,⟨?_,fun j r=> ?_⟩,?_⟩;show wn (wJ (qU b)-(x:Int)-1);exact iZ6;show wJ (qU b)-(x:Int)-1=wJ (qU b)-((x+1:Nat):Int);omega;show x+1<=de b;omega;by_cases e:j=x;subst e;exact a;exact c.2 j (by omega);show de b-(x+1)<de b-x;omega;have c:x<=de b/\∀j:Nat,j<x->bQ b most j=false:=c;have d:¬-100000<=wJ (qU b)-(x:Int):=jc d;have p:de b=(wJ (qU b)+100001).toNat:=rfl;have e:tX b most=none:=by
   rcases xh b most with⟨k,e,hk,f,g⟩|⟨e,g⟩;rw[c.2 k (by omega)] at f;cases f;exact e
  show((0:Int),(3:Int),())=(jei b (tX b most),jej (tX b most),());rw[e];rfl
theorem Ud:PH:=by
 unfold PH jgm jgK jiW jiV jhM jiU;rintro⟨l,n,most,⟨⟩⟩ f;refine⟨f,fun d=> ?_,fun h=> ?_,fun h=> ?_⟩;have:(wq (ww l)).length<=4:=je1 (ee d);exact⟨by show(wq (ww l)).length<=100;omega,tZ⟩;have h:qe l (qy l n&&yr most)≠0:=ja h;show((0:Int),qe l (qy l n&&yr most),())=(A8 l n most,A9 l n most,());unfold A8 A9;rw[jd h,jd h];have h:qe l (qy l n&&yr most)=0:=jO.1 (jc h);obtain⟨a,e,g⟩:=I3 h;exact jea (o:=MA (qx l (qy l n&&yr most)) n) (fun b c=>by rw[a] at c;exact jaW e c) (by rw[a];exact je h) (by rw[a];exact je h)
theorem En:wZ PR 13 PF:=vl PG Ud Tryz.func13 (kcC tL (kcC I2 (kcC lr kcN))) koN
end Go.X
namespace Go.X
open U
open Go.Proofs
abbrev tA7:Ty:= .st [.int,.int,.int]
namespace U
def PV (l:LgD):Bool:=((((Jd (ww l)||decide (20<((dt l).length:Int)))||decide (20<((nW l).length:Int)))||decide (20<((co (w5 l)).length:Int)))||decide (20<((qr (w5 l)).length:Int)))||decide (30<((wY l).length:Int))
def exT:TaD:=(30,100,2,1200,90,50,2,150,[0,10,25,50],[(1000,0,()),(60,50,())],())
def xS:LgD:=(jfm,[0,1,0],[30,0,45],exT,[(1,1,80,()),(2,1,120,())],())
end U
def XV:wS:=⟨[.val tLg],[.bool],false,fun _=>[],fun d=>(PV d.1,())⟩
abbrev jkF (d:LgD×Unit):=(20<(d.1.2.2.2.1.q4.q4.1.length:Int))
abbrev jiX (d:LgD×Unit):=(20<(d.1.2.1.length:Int))
abbrev jjI (d:LgD×Unit):=(20<(d.1.2.2.1.length:Int))
def XW:Prop:=∀(d:LgD×Unit),((!Jd d.1.1)=true->d.1.2.1.length<4611686018427387904)->((!(Jd d.1.1||decide (jiX d)))=true->d.1.2.2.1.length<4611686018427387904)->((!(Jd d.1.1||decide (jiX d)||decide (jjI d)))=true->d.1.2.2.2.1.q4.q4.1.length<4611686018427387904)->((!(Jd d.1.1||decide (jiX d)||decide (jjI d)||decide (jkF d)))=true->d.1.2.2.2.1.q4.q4.2.1.length<4611686018427387904)->((!(Jd d.1.1||decide (jiX d)||decide (jjI d)||decide (jkF d)||decide (20<(d.1.2.2.2.1.q4.q4.2.1.length:Int))))=true->d.1.q4.1.length<4611686018427387904)->(Jd d.1.1||decide (jiX d)||decide (jjI d)||decide (jkF d)||decide (20<(d.1.2.2.2.1.q4.q4.2.1.length:Int))||decide (30<(d.1.q4.1.length:Int)),())=(PV d.1,())
def FQ:wS:=⟨[.val (.slice .int),.val (.slice .int)],[.bool],false,fun _=>[],fun d=>(decide (d.1=d.2.1),())⟩
def FR:Ann:=fun r=>match r with
 |4=>some fun σ=>{X:=Nat,sl:=fun i=>[(5,.dat .int (i:Int))],ob:=fun _=>[],inv:=fun i=>i<=(gd (.slice .int) σ 0).length/\∀j:Nat,j<i->nth (gd (.slice .int) σ 0) j=nth (gd (.slice .int) σ 1) j,mu:=fun i=>(gd (.slice .int) σ 0).length-i}
 |_=>none
def FS:Prop:=∀(d:List Int×List Int×Unit),d.1.length<4611686018427387904->d.2.1.length<4611686018427387904->(decide ((d.1.length:Int)≠d.2.1.length)=true->(false,())=(decide (d.1=d.2.1),()))/\(decide ((d.1.length:Int)≠d.2.1.length)=false->(∃(x:Nat),((0=(x:Int)/\True)/\True)/\x<=d.1.length/\∀(j:Nat),j<x->nth d.1 j=nth d.2.1 j)/\∀(x:Nat),(x<=d.1.length/\∀(j:Nat),j<x->nth d.1 j=nth d.2.1 j)->d.1.length<4611686018427387904->(decide ((x:Int)<d.1.length)=true->0<=(x:Int)/\(x:Int)<d.1.length/\0<=(x:Int)/\(x:Int)<d.2.1.length/\(decide (nth d.1 x≠nth d.2.1 x)=true->(false,())=(decide (d.1=d.2.1),()))/\(decide (nth d.1 x≠nth d.2.1 x)=false->wn ((x:Int)+1)/\∃(a:Nat),(((x:Int)+1=(a:Int)/\True)/\True)/\(a<=d.1.length/\∀(j:Nat),j<a->nth d.1 j=nth d.2.1 j)/\d.1.length-a<d.1.length-x))/\(decide ((x:Int)<d.1.length)=false->(true,())=(decide (d.1=d.2.1),())))
def I4:wS:=⟨[],[tLg],false,fun _=>[],fun _=>(xS,())⟩
def I5:Prop:=∀(_:Unit),((jfm,[(0:Int),(1:Int),(0:Int)],[(30:Int),(0:Int),(45:Int)],((30:Int),(100:Int),(2:Int),(1200:Int),(90:Int),(50:Int),(2:Int),(150:Int),[(0:Int),(10:Int),(25:Int),(50:Int)],[((1000:Int),(0:Int),()),((60:Int),(50:Int),())],()),[((1:Int),(1:Int),(80:Int),()),((2:Int),(1:Int),(120:Int),())],()),())=(xS,())
def PI:wS:=⟨[],[.bool],false,fun _=>[],fun _=>(true,())⟩
abbrev jiY:=(qc (ww xS))
def PJ:Prop:=∀(_:Unit),jiY.length<=100000/\jiY.length<=100000/\jiY.length<=100000/\jiY.length<=100000/\(decide (qA xS=0)&&decide (qe xS (qy xS (2:Int))=0)&&decide (qe xS (qy xS (0:Int)&&vD (0:Int))=0)&&decide (A9 xS (0:Int) (0:Int)=0)&&decide (Mp xS=[(940:Int),(100:Int)])&&decide (Mq xS (2:Int)=[(390:Int),(390:Int),(0:Int),(0:Int)])&&decide (tW xS (0:Int) (0:Int)=185)&&decide (A8 xS (0:Int) (0:Int)=(-940:Int)),())=(true,())
def A3:wS:=W7 [tLg,tA7]
abbrev jiZ:=(Ty.int.pair (Ty.int.pair Ty.unit))
abbrev ji0:=(Ty.int.pair jiZ)
def A4:Prop:=∀(d:LgD×CaD×Unit),Ix 1048576 [((Ty.int.pair ((Ty.int.slice.pair (Ty.int.pair (Ty.int.pair (Ty.int.slice.pair (Ty.bool.pair (Ty.int.pair Ty.unit)))))).slice.pair ((Ty.int.pair (Ty.int.pair (Ty.bool.pair Ty.unit))).slice.pair Ty.unit))).pair (jiZ.slice.slice.pair (((Ty.int.pair (Ty.int.pair (Ty.int.pair ji0))).pair ji0).slice.pair (Ty.int.pair (Ty.int.pair ((Ty.int.pair (Ty.int.pair ji0)).slice.pair Ty.unit)))))).pair (Ty.int.slice.pair (Ty.int.slice.pair ((Ty.int.pair (Ty.int.pair (Ty.int.pair (Ty.int.pair (Ty.int.pair (Ty.int.pair (Ty.int.pair (Ty.int.pair (Ty.int.slice.pair (jiZ.slice.pair Ty.unit)))))))))).pair (ji0.slice.pair Ty.unit)))),Ty.int.pair jiZ] d->(PV d.1=true->(true,())=(true,()))/\(PV d.1=false->Jg d.1/\(qc (ww d.1)).length<=100000/\(wq (ww d.1)).length<=1000000/\(qc (ww d.1)).length<=100000/\(wq (ww d.1)).length<=1000000/\(decide (tW d.1 d.2.1.1 d.2.1.2.1=fW d.1 d.2.1.1 d.2.1.2.1)&&decide (qe d.1 (qy d.1 d.2.1.1&&vD d.2.1.2.1)=qe d.1 (qy d.1 d.2.1.1&&vD d.2.1.2.1))&&decide (A8 d.1 d.2.1.1 d.2.1.2.2.1=gX d.1 d.2.1.1 d.2.1.2.2.1)&&decide (A9 d.1 d.2.1.1 d.2.1.2.2.1=gY d.1 d.2.1.1 d.2.1.2.2.1)&&true,())=(true,()))
theorem jcK (l:LgD) (n m:Int):tW l n m=fW l n m:=by
 unfold tW fW
 split
 rename_i h;obtain⟨b,a⟩:=LZ h;rw[ji] at a;exact jd6 b (Bu.1 a.1);rfl
theorem jcL {l:LgD} (h:u5 l) {n:Int} (most:Int) (c:0<=n/\n<((wq (ww l)).length:Int)):
 jek most (MA (U.bo l) n)=(if FZ l n=true then Ms (dz l n most) else 0)/\jel most (MA (U.bo l) n)=(if FZ l n=true then Mr (dz l n most) else 3):=by
 rw[jaT];by_cases a:n∈wb (ww l);rw[je a,je ((Eb h c).1 a),je ((Eb h c).1 a)];show jei (wI l n) (tX (wI l n) most)=_/\jej (tX (wI l n) most)=_;rcases jd7 h (most:=most) c with⟨d,e2⟩|⟨k,d,e2,e⟩;rw[d];unfold Ms Mr;rw[e2];exact⟨rfl,rfl⟩;rw[d];unfold Ms Mr;rw[e2];exact⟨e,rfl⟩;have b:¬FZ l n=true:=fun b=>a ((Eb h c).2 b)
 rw[jd a,jd b,jd b];exact⟨rfl,rfl⟩
theorem XX (l:LgD) (n m:Int):A8 l n m=gX l n m/\A9 l n m=gY l n m:=by
 unfold A8 gX A9 gY;by_cases h:qe l (qy l n&&yr m)=0;rw[je h,je h,je h,je h];obtain⟨b,a⟩:=LZ h;rw[ji] at a;exact jcL b m (Bu.1 a.1);rw[jd h,jd h,jd h,jd h];exact⟨rfl,rfl⟩
theorem Z7:XW:=fun _ _ _ _ _ _=>rfl
theorem XY:wZ PR 8 XV:=wL Z7 Tryz.func8 (kcC Xi kcN) koN
theorem G7 {l:LgD} (h:PV l=false):Jg l:=by
 unfold PV at h;simp only[jR,jH] at h;obtain⟨⟨⟨⟨⟨a,b⟩,c⟩,d⟩,e⟩,f⟩:=h;exact⟨ZO a,by omega,by omega,by omega,by omega,by omega⟩
theorem XZ {l:LgD} (h:PV l=false):(qc (ww l)).length<=100000/\(wq (ww l)).length<=1000000:=by
 have a:=(G7 h).1;have b:=a.2.2.2.1;have c:=a.2.2.1;omega
theorem I6:FS:=by
 rintro⟨a,b,⟨⟩⟩ _ l;refine⟨fun h=> ?_,fun h=>⟨⟨0,⟨⟨rfl,tZ⟩,tZ⟩,jm _,fun j k=>by omega⟩,fun x g f=>⟨fun c=>⟨j8 _,ja c,j8 _,?_,fun d=> ?_,fun d=> ?_⟩,fun c=> ?_⟩⟩⟩;have h:(a.length:Int)≠b.length:=ja h;have:¬a=b:=fun e=>h (by rw[e])
 show(false,())=(decide (a=b),());rw[zt this];have h:(a.length:Int)=b.length:=jO.1 (jc h);have c:(x:Int)<a.length:=ja c;show(x:Int)<b.length;omega;have d:nth a x≠nth b x:=ja d;have:¬a=b:=fun e=>d (by rw[e])
 show(false,())=(decide (a=b),());rw[zt this];have c:(x:Int)<a.length:=ja c;have d:nth a x=nth b x:=jO.1 (jc d);have f:a.length<4611686018427387904:=f;refine⟨iZ6,x+1,⟨⟨by simp,tZ⟩,tZ⟩,⟨by show x+1<=a.length;omega,fun j k=> ?_⟩,by show a.length-(x+1)<a.length-x;omega⟩;by_cases e:j=x;subst e;exact d;exact g.2 j (by omega);have h:(a.length:Int)=b.length:=jO.1 (jc h);have c:¬(x:Int)<a.length:=jc c;have e:a=b:=L.ext_nth (by omega) fun i hi=>g.2 i (by omega)
 show(true,())=(decide (a=b),());rw[jD e]
theorem FT:wZ PR 27 FQ:=vl FR I6 Tryz.func27 kcN koN
theorem Md:I5:=fun _=>rfl
theorem I7:wZ PR 32 I4:=wL Md Tryz.func32 (kcC ID kcN) koN
theorem jcM:qA xS=0:=by decide+kernel
theorem jcN:Mp xS=[940,100]:=by decide+kernel
theorem jcO:Mq xS 2=[390,390,0,0]:=by decide+kernel
theorem jcP:tW xS 0 0=185:=by decide+kernel
theorem Z8:A9 xS 0 0=0:=by decide+kernel
theorem Z9:A8 xS 0 0= -940:=by decide+kernel
theorem jeb:qe xS (qy xS 2)=0:=by decide+kernel
theorem jec:qe xS (qy xS 0&&vD 0)=0:=by decide+kernel
theorem Ue:PJ:=by
 unfold PJ jiY;intro _;have a:(qc (ww xS)).length<=100000:=(by decide+kernel);refine⟨a,a,a,a,?_⟩;rw[jcM,jeb,jec,Z8,jcN,jcO,jcP,Z9];rfl
theorem PK:wZ PR 9 PI:=wL Ue Tryz.func9 (kcC I7 (kcC PE (kcC Z6 (kcC G6 (kcC En (kcC FT kcN)))))) koN
theorem Eo:A4:=by
 unfold A4 ji0 jiZ;rintro⟨l,⟨b,m,most,⟨⟩⟩,⟨⟩⟩ _;refine⟨fun _=>rfl,fun h=> ?_⟩;have h:PV l=false:=h;obtain⟨a,c⟩:=XZ h;refine⟨G7 h,a,c,a,c,?_⟩;show(decide (tW l b m=fW l b m)&&decide (qe l (qy l b&&vD m)=qe l (qy l b&&vD m))&&decide (A8 l b most=gX l b most)&&decide (A9 l b most=gY l b most)&&true,())=(true,());rw[jD (jcK l b m),jD (XX l b most).1,jD (XX l b most).2,jD rfl];rfl
theorem Ut:wZ PR 3 A3:=wL Eo Tryz.func3 (kcC XY (kcC PK (kcC TZ (kcC G6 (kcC Px (kcC En (kcC L8 kcN))))))) koN
end Go.X
namespace Go.X
open U
open Go.Proofs
end Go.X
namespace Go.X
open U
open Go.Proofs
end Go.X
namespace Go.X
open U
open Go.Proofs Go.Proofs.YtacjhnpgiklpdaaGreatDoor
noncomputable def jaa:Array Field:=match Tryz.prog.underlying 63 with|some (.struct fs)=>fs|_=> #[]
theorem jed:Tryz.prog.globalNamed "handshape/rosters.some"=some 0:=by kernel_rfl
theorem jee:(Tryz.prog.globals[0]?).map (·.type)=some 63:=by kernel_rfl
theorem jfv:Tryz.prog.underlying 63=some (.struct jaa):=by kernel_rfl
theorem jfw:Tryz.prog.underlying 3=some (.int .i64):=by kernel_rfl
theorem jfx:Tryz.prog.cellsOf 3=1:=by kernel_rfl
noncomputable def ez (i:Nat):Bool:=match jaa[i]? with|some f=>Nat.beq f.type 3&&Nat.beq f.offset i|none=>false
theorem fields:(ez 0&&ez 1&&ez 2&&ez 3&&ez 4&&ez 5)=true:=by kernel_rfl
theorem jab {i:Nat} (h:ez i=true):∃f,jaa[i]? =some f/\f.type=3/\f.offset=i:=by
 unfold ez at h
 split at h
 rename_i f a;rw[ji] at h;exact⟨f,a,jb h.1,jb h.2⟩;cases h
theorem jac {H:Type} {enc:TypeId×Value->H} {w:World} {base:Nat} {sp:Nat->Bool} {a:Bool} {n:Nat} {cs:List Value} {xs:List (DataW H×List MemPlace)} {d:List Int} (o:xs.map (·.1)=d.map fun z=>(DataW.lit (.int .i64 z):DataW H))
 (k:∀(i:Nat) (f:Field),jaa[i]? =some f->DataW.trod enc Tryz.prog w base sp a n f.type ((cs.drop f.offset).take (Tryz.prog.cellsOf f.type))=xs[i]?) {i:Nat} {z:Int} (hi:ez i=true) (q:d[i]? =some z):cs[i]? =some (.int .i64 z):=by
 obtain⟨f,g,h,j⟩:=jab hi;have b:=k i f g;rw[h,j,jfx] at b;have c:(xs.map (·.1))[i]? =some (DataW.lit (.int .i64 z):DataW H):=(by rw[o,zT,q];rfl);rw[zT] at c;obtain⟨y,p,e⟩:=kj.1 c;rw[p] at b;obtain⟨m,l,rfl,_⟩:=DataW.trod_int jfw b;have e:m=z:=by
  have e:(DataW.lit (.int .i64 m):DataW H)=DataW.lit (.int .i64 z):=e;simpa only[DataW.lit.injEq,Lit.int.injEq,true_and] using e
 subst e;have:=jE (·[0]?) l;simpa[zR,zh] using this
theorem je2 {W:World} (h:laidMet Tryz.prog [("handshape/rosters.some",Rows.laid_handshape_rosters_some)] W):jbf (Hof W):=by
 obtain⟨ps,⟨H,E,cs,k,p,q,d,f,a,A,_,_⟩,_⟩:=h;obtain rfl:=Option.some.inj (jed.symm.trans d);obtain rfl:=Option.some.inj (jee.symm.trans f);obtain⟨xs,n,_,C,I,l,B⟩:=DataW.trod_struct jfv A;have j:xs.map (·.1)=[0,1,0,0,0,1].map fun z=>(DataW.lit (.int .i64 z):DataW Unit):=by
  have e:=jE Prod.fst C;have e:(DataW.agg [.lit (.int .i64 0),.lit (.int .i64 1),.lit (.int .i64 0),.lit (.int .i64 0),.lit (.int .i64 0),.lit (.int .i64 1)]:DataW Unit)= .agg (xs.map (·.1)):=e;simp only[DataW.agg.injEq] at e;exact e.symm
 have fs:=fields;simp only[ji] at fs;obtain⟨⟨⟨⟨⟨o,r⟩,s⟩,u⟩,v⟩,w⟩:=fs;have c:∀{i:Nat} {z:Int},ez i=true->([0,1,0,0,0,1]:List Int)[i]? =some z->cs[i]? =some (.int .i64 z):=fun hi D=>by
  have:=jac j B hi D;simpa using this
 unfold World.var? at a;rw[jed] at a;intro g x b;have b:wM [(0,(⟨.st [.int,.int,.int,.int,.int,.int],((0:Int),(1:Int),(0:Int),(0:Int),(0:Int),(1:Int),())⟩:(t:Ty)×t.Data))] g=some x:=b;have y:Hof W 0=some (.cells cs):=by
  unfold Hof;simp only[Option.bind_some] at a
  split at a
  rename_i F E G e;rw[e];have:=Option.some.inj a;rw[this];cases a
 have m:=qS _ _ _ b;simp only[zZ,Prod.mk.injEq] at m;obtain⟨rfl,rfl⟩:=m;exact⟨cs,y,c o rfl,c r rfl,c s rfl,c u rfl,c v rfl,c w rfl,tZ⟩
end Go.X
