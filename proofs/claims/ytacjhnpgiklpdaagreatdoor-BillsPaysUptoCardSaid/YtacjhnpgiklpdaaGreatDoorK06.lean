/-
  Part 6 of the road: a checked reading of bodies, and what the functions on it do (X25 X26 C5 PC15 VD VM VB V1 PV1 VE0 VE1 VE2 V3 PV3 O7 V5 PV5 V6 PV6 VBO DQ MQ LQ AQ NQ VQ1 PQ1 PR1 VQ2 PQ2 PQ3 V4 PV4 V7 PV7 V8S V8 PV8 V9 PV9 VW1).
-/
import Derived.Test.YtacjhnpgiklpdaaGreatDoorK05
import Derived.Test.YtacjhnpgiklpdaaGreatDoorRows
import Derived.WalkKit
import Derived.ProofKit
import Derived.OpenShut
import Derived.JoinedCond
import Derived.Carry
import Derived.ChangeArms
import Derived.Shelf.SlSortCmp.WholeK
import Derived.Test.YtacjhnpgiklpdaaGreatDoorProg
namespace Go.X
open U
open Go.RowKit (Below)
open Go.Proofs.YtacjhnpgiklpdaaGreatDoor
def Hof (w:World):Imm:=fun b=>match w.heap[b]? with|some (.cells c _ _)=>some (.cells c)|_=>none
theorem jaO (w:World) (d:jcu (Hof w)):iy (Hof w) w:=by
 refine⟨fun b c h=> ?_,d⟩;unfold Hof at h
 split at h
 rename_i f T a e;simp at h;subst h;exact⟨T,a,e⟩;cases h
def Ty.fits (N:Nat):(t:Ty)->t.Data->Prop
 | .int,x=>wl x
 | .bool,_=>True
 | .uint k,x=>k.min<=x/\x<=k.max
 | .slice t,l=>l.length<=N/\∀x∈l,t.fits N x
 | .unit,_=>True
 | .pair a b,d=>a.fits N d.1/\b.fits N d.2
 | .map k v,l=>l.length<=N/\∀x∈l,k.fits N x.1/\v.fits N x.2
 | .ptr t,d=>∀x,d=some x->t.fits N x
theorem Ty.fits_mono {N M:Nat} (h:N<=M):∀(t:Ty) (d:t.Data),t.fits N d->t.fits M d
 | .int,_,k=>k
 | .bool,_,k=>k
 | .uint _,_,k=>k
 | .unit,_,k=>k
 | .slice t,_,k=>⟨jF k.1 h,fun x c=>t.fits_mono h x (k.2 x c)⟩
 | .pair a b,_,k=>⟨a.fits_mono h _ k.1,b.fits_mono h _ k.2⟩
 | .map k v,_,q=>⟨jF q.1 h,fun x c=>⟨k.fits_mono h _ (q.2 x c).1,v.fits_mono h _ (q.2 x c).2⟩⟩
 | .ptr t,_,k=>fun x c=>t.fits_mono h x (k x c)
def jfb (P:Program) (go:Nat->Ty->Bool):List Field->Nat->Ty->Bool
 |[],_,.unit=>true
 |f::fs,off,.pair a b=>Nat.beq f.offset off&&Nat.beq (P.cellsOf f.type) a.size&&go f.type a&&jfb P go fs (off+a.size) b
 |_,_,_=>false
def jdD (P:Program):Nat->Nat->Ty->Bool
 |0,_,_=>false
 |d+1,T,ty=>match ty,P.underlying T with
  | .int,some (.int .i64)=>true
  | .bool,some .bool=>true
  | .uint k,some (.int k')=>iX k k'
  | .slice t,some (.slice e)=>Nat.beq (P.cellsOf e) t.size&&Nat.ble 1 t.size&&jdD P d e t
  | .pair a b,some (.struct fs)=>Nat.beq (P.cellsOf T) (Ty.pair a b).size&&jfb P (jdD P d) fs.toList 0 (.pair a b)
  |_,_=>false
section
variable {P:Program} {K:Type} {enc:TypeId×Value->K} {w:World}
theorem jfc (d:DataW K):1<=Rows.uptoBulk d:=by
 cases d with
 |lit l=>cases l<;>simp[Rows.uptoBulk]
 |_=>simp[Rows.uptoBulk]
theorem Mz (l:List (DataW K)):l.length<=Rows.uptoBulkAll l:=by
 induction l with
 |nil=>simp[Rows.uptoBulkAll]
 |cons x r a=>have:=jfc x;simp only[Rows.uptoBulkAll,za];omega
theorem jdE {d:DataW K} {l:List (DataW K)} (h:d∈l):Rows.uptoBulk d<=Rows.uptoBulkAll l:=by
 induction l with
 |nil=>cases h
 |cons x r a=>
  simp only[Rows.uptoBulkAll];cases jk.1 h with
  |inl e=>subst e;omega
  |inr e=>have:=a e;omega
theorem X6 {α:Type} {Q:Nat->α->Prop}:∀(n:Nat),(∀i,i<n->∃y,Q i y)->∃l:List α,l.length=n/\∀i y,l[i]? =some y->Q i y
 |0,_=>⟨[],rfl,fun i y h=>by simp at h⟩
 |n+1,h=>by
  obtain⟨l,b,c⟩:=X6 n (fun i hi=>h i (by omega))
  obtain⟨y,d⟩:=h n (by omega)
  refine⟨l++[y],by simp[b],fun i z a=> ?_⟩
  by_cases hi:i<l.length
  rw[jA hi] at a;exact c i z a
  rw[jx (by omega)] at a
  have:i=n:=by
   by_cases e:i-l.length=0;omega;obtain⟨k,hk⟩:∃k,i-l.length=k+1:=⟨i-l.length-1,by omega⟩;rw[hk] at a;simp at a
  subst this;rw[<-b] at a;simp at a;subst a;exact d
def jfe (P:Program) (w:World) (enc:TypeId×Value->K) (T:Nat) (ty:Ty):Prop:=
 ∀(a:Nat) (cs:List Value) (x:DataW K×List MemPlace),DataW.trod enc P w 0 (fun _=>true) true a T cs=some x->Rows.uptoBulk x.1<=1048576->
  ∃d:ty.Data,ty.rd (Hof w) (fun i=>cs[i]?) d/\cs.length=ty.size/\ty.fits (Rows.uptoBulk x.1) d
theorem jff {n:Int} (h:(Lit.int .i64 n).wf=true):wl n:=by
 simp[Lit.wf,IntKind.min,IntKind.max,IntKind.signed,IntKind.bits] at h;exact h
theorem AA {go:Nat->Ty->Bool} (c:∀T ty,go T ty=true->jfe P w enc T ty) {n:Nat} {cs:List Value}:
 ∀(fs:List Field) (off:Nat) (ty:Ty) (xs:List (DataW K×List MemPlace)),jfb P go fs off ty=true->xs.length=fs.length->
  (∀(i:Nat) (f:Field),fs[i]? =some f->DataW.trod enc P w 0 (fun _=>true) true n f.type ((cs.drop f.offset).take (P.cellsOf f.type))=xs[i]?)->Rows.uptoBulkAll (xs.map (·.1))<=1048576->
  ∃d:ty.Data,ty.rd (Hof w) (fun i=>cs[off+i]?) d/\ty.fits (Rows.uptoBulkAll (xs.map (·.1))) d
 |[],off,ty,xs,h,g,e,j=>by
  cases ty<;>simp[jfb] at h
  exact⟨(),trivial,trivial⟩
 |f::fs,off,ty,[],h,g,e,j=>by simp at g
 |f::fs,off,ty,x::xs,h,g,e,j=>by
  cases ty<;>simp[jfb] at h
  rename_i a b
  obtain⟨⟨⟨q,v⟩,r⟩,s⟩:=h
  simp only[zy,Rows.uptoBulkAll] at j
  have k:=e 0 f (by simp)
  simp only[List.getElem?_cons_zero] at k
  obtain⟨d,t,y,u⟩:=c _ _ r _ _ _ k (by omega)
  obtain⟨l,o,p⟩:=AA c fs (off+a.size) b xs s (by simpa using g) (fun i m hi=>by simpa using e (i+1) m (by simpa using hi)) (by omega)
  refine⟨(d,l),⟨?_,?_⟩,?_,?_⟩
  refine Ty.rd_congr a _ _ _ (fun i hi=> ?_) t
  rw[jR (by omega),zi,q]
  refine Ty.rd_congr b _ _ _ (fun i hi=> ?_) o
  rw[zN]
  exact a.fits_mono (by simp[Rows.uptoBulkAll]) _ u
  exact b.fits_mono (by simp[Rows.uptoBulkAll]) _ p
theorem r8:∀(d T:Nat) (ty:Ty),jdD P d T ty=true->jfe P w enc T ty
 |0,_,_,h=>by cases h
 |d+1,T,ty,h=>by
  intro fuel cs x B r
  unfold jdD at h
  split at h
  rename_i u
  obtain⟨n,rfl,rfl,H⟩:=DataW.trod_int u B
  exact⟨n,rfl,rfl,jff H⟩
  rename_i u
  obtain⟨b,rfl,rfl⟩:=DataW.trod_bool u B
  exact⟨b,rfl,rfl,trivial⟩
  rename_i k k' u
  obtain⟨n,rfl,rfl,H⟩:=DataW.trod_int u B
  have:k=k':=by simpa[iX] using h
  subst this
  refine⟨n,rfl,rfl,?_⟩
  simp[Lit.wf] at H
  exact H
  rename_i t e u
  simp only[ji] at h
  obtain⟨⟨L,M⟩,h3⟩:=h
  have e1:=jb L
  have e2:=jz M
  rcases DataW.trod_slice u B with⟨rfl,rfl⟩|⟨a,len,J,cN,rest,n,_,rfl,rfl,hb,hl,hm,A,D,_,_⟩
  refine⟨[],⟨none,0,0,rfl,rfl,jj _,by simp,fun _=>rfl,fun h=>absurd rfl h⟩,rfl,by simp,fun x B=>by simp at B⟩
  simp only[Rows.uptoBulk] at r
  have key:∀i,i<len->∃y:t.Data,(∃blk,Hof w a.block=some (.cells blk)/\a.spot=none/\t.rd (Hof w) (fun j=>blk[a.off+i*t.size+j]?) y)/\t.fits (Rows.uptoBulkAll (cN.map (·.1))) y:=by
   intro i hi;have h0:=D i hi;have X:cN[i]? =some cN[i]:=ju (by omega);rw[X,Option.bind_eq_some_iff] at h0;obtain⟨cl,c1,c2⟩:=h0;have Q:Rows.uptoBulk cN[i].1<=Rows.uptoBulkAll (cN.map (·.1)):=jdE (jS.2 ⟨cN[i],kR _,rfl⟩);obtain⟨y,y1,y2,y3⟩:=r8 d e t h3 _ _ _ c2 (by omega);unfold World.cells? at c1;rw[je (jl _),e1] at c1;have z:∀j,j<t.size->w.cell? ((a.add (i*t.size)).add j)=cl[j]? :=fun j O=>by
    have:=mapM_some_get c1 j j (by simp[O]);simpa using this
   have N:cl.length=t.size:=(by simpa using mapM_some_length c1);have I:=z 0 (by omega);have g:cl[0]?≠none:=(by rw[ju (by omega)];simp);rw[<-I] at g;have m:∃blk T G,w.heap[a.block]? =some (.cells blk T G):=by
    unfold World.cell? at g;have q:((a.add (i*t.size)).add 0).block=a.block:=by unfold Addr.add;simp;split<;>rfl
    rw[q] at g
    split at g
    rename_i c T G e;exact⟨c,T,G,e⟩;exact absurd rfl g
   obtain⟨blk,T',G,m⟩:=m;have p:((a.add (i*t.size)).add 0).spot=none:=by
    unfold World.cell? at g;have q:((a.add (i*t.size)).add 0).block=a.block:=by unfold Addr.add;simp;split<;>rfl
    rw[q,m] at g;simp only at g;cases R:((a.add (i*t.size)).add 0).spot with
    |none=>rfl
    |some s=>rw[R] at g;simp at g
   have hH:Hof w a.block=some (.cells blk):=(by unfold Hof;rw[m]);refine⟨y,⟨blk,hH,?_,?_⟩,t.fits_mono Q _ y3⟩
   --the first element shows that the address is plain
   have C:=D 0 (by omega);have W:cN[0]? =some cN[0]:=ju (by omega);rw[W,Option.bind_eq_some_iff] at C;obtain⟨K,F,_⟩:=C;unfold World.cells? at F;rw[je (jl _),e1] at F;have v:=mapM_some_get F 0 0 (by rw[kD (by omega)]);have hl0:K.length=t.size:=(by simpa using mapM_some_length F);rw[ju (by omega)] at v;simp only[kL] at v;have ea:(a.add 0).add 0=a:=(by unfold Addr.add;simp);rw[ea] at v;unfold World.cell? at v;rw[m] at v;simp only at v;cases R:a.spot with
   |none=>rfl
   |some s=>rw[R] at v;simp at v
   refine Ty.rd_congr t _ _ _ (fun j O=> ?_) y1;rw[<-z j O];unfold World.cell?;have q:((a.add (i*t.size)).add j).block=a.block:=by unfold Addr.add;split<;>split<;>rfl
   have E:((a.add (i*t.size)).add j).off=a.off+i*t.size+j:=by
    unfold Addr.add;split<;>split<;>simp_all
   have V:((a.add (i*t.size)).add j).spot=none:=by
    have S:(a.add (i*t.size)).spot=none:=by
     have:(a.add (i*t.size)).add 0=a.add (i*t.size):=(by simp[Addr.add]);rw[this] at p;exact p
    unfold Addr.add at S⊢
    split<;>split<;>simp_all
   rw[q,m,E,V];simp
  obtain⟨l,l1,l2⟩:=X6 len key;refine⟨l,⟨some a,len,J,rfl,l1.symm,hl,?_,(fun h=>by cases h),fun g=> ?_⟩,rfl,?_,?_⟩;have:=Mz (cN.map (·.1));simp at this;omega;have hz:0<l.length:=kV.2 g;obtain⟨blk,q1,q2,_⟩:=(l2 0 l[0] (ju hz)).1;refine⟨a.block,a.off,blk,?_,q1,fun i y Z=> ?_⟩;rcases a with⟨b,o,s⟩;simp only at q2;subst q2;rfl;obtain⟨blk',q3,_,q4⟩:=(l2 i y Z).1;rw[q1] at q3;simp at q3;subst q3;exact q4;simp only[Rows.uptoBulk];have:=Mz (cN.map (·.1));simp at this;omega;intro y Z;obtain⟨i,hi⟩:=zU Z;exact t.fits_mono (by simp only[Rows.uptoBulk];omega) _ (l2 i y hi).2;rename_i a b fs u;simp only[ji] at h;obtain⟨L,M⟩:=h;obtain⟨xs,n,_,rfl,A,Y,hf⟩:=DataW.trod_struct u B;simp only[Rows.uptoBulk] at r;obtain⟨y,y1,y2⟩:=AA (fun T ty h=>r8 d T ty h) (n:=n) (cs:=cs) fs.toList 0 (.pair a b) xs M (by simpa using Y) (fun i f hi=>hf i f (by simpa using hi)) (by omega);refine⟨y,by simpa using y1,by rw[A];exact jb L,?_⟩;exact Ty.fits_mono (by simp only[Rows.uptoBulk];omega) (.pair a b) _ y2;cases h
end
end Go.X
namespace Go.X
open U
open Go.RowKit (Below)
open Go.ChangeShapes Go.WideShapes Go.ChangeAt Go.RowKit
open Go.Proofs.YtacjhnpgiklpdaaGreatDoor
def Jk (N:Nat):(ts:List Ty)->PD (ts.map Par.val)->Prop
 |[],_=>True
 |t::ts,d=>t.fits N d.1/\Jk N ts d.2
def X7 (ts:List Ty):w4:=⟨ts.map Par.val,[.bool],false,fun d=>[Jk 1048576 ts d],fun _=>(true,())⟩
def AB (P:Program):List Nat->List Ty->Bool
 |[],[]=>true
 |T::Ts,t::ts=>jdD P 20 T t&&(P.readableRec T&&decide (T<P.types.size))&&AB P Ts ts
 |_,_=>false
section
variable {P:Program} {K:Type} {enc:TypeId×Value->K} {W W':World}
theorem uh (j:laidOutB P=true) (i:Below W.heap.size W W'):∀(a:List Nat) (ts:List Ty) (vs:List Value) (ds:List (DataW K)) (ps:List MemPlace),AB P a ts=true->
 DataW.TrodAll enc P W 0 (fun _=>true) true a vs ds ps->(∀x∈ps,x.block<W.heap.size)->DataW.TrodAll enc P W' 0 (fun b=>decide (b<W.heap.size)) true a vs ds ps
 |[],ts,vs,ds,ps,_,h,_=>by
  obtain⟨rfl,rfl,rfl⟩:=trodAll_nil h
  exact trodAll_mk0
 |T::a,[],vs,ds,ps,c,_,_=>by cases c
 |T::a,t::ts,vs,ds,ps,c,h,hlt=>by
  obtain⟨v,g,d,e,p,q,rfl,rfl,rfl,n,o⟩:=trodAll_cons h
  simp only[AB,ji] at c
  obtain⟨⟨_,k,l⟩,m⟩:=c
  exact trodAll_cons_mk (Below.trod j k (ja l) n i (fun x f=>hlt x (jh _ f)))
   (uh j i a ts g e q m o (fun x f=>hlt x (jg _ f)))
theorem jdF {T:Nat} {t:Ty} {r:Reach} {c:Nat} {v:Value} (h:jdD P 20 T t=true) (b:Value.okWide P W r c T v):yE v=t.agg:=by
 unfold jdD at h
 split at h
 rename_i a;obtain⟨n,rfl⟩:=okWide_int a b;rfl;rename_i a;obtain⟨n,rfl⟩:=okWide_bool a b;rfl;rename_i a;obtain⟨n,rfl⟩:=okWide_int a b;rfl;rename_i a;unfold Value.okWide at b;rw[a] at b;simp only[Cell.okWide,a] at b;cases v with
 |agg vs=>simp[Cell.ok,a] at b
 |_=>rfl
 rename_i a;unfold Value.okWide at b;rw[a] at b;obtain⟨cs,rfl,_⟩:=b;rfl;cases h
theorem jb1 {r:Reach} {l:Nat}:∀(a:List Nat) (ts:List Ty) (vs:List Value) (ds:List (DataW K)) (ps:List MemPlace),AB P a ts=true->
 DataW.TrodAll enc P W 0 (fun _=>true) true a vs ds ps->(∀(j:Nat) t v,a[j]? =some t->vs[j]? =some v->Value.okWide P W r l t v)->Rows.uptoBulkAll ds<=1048576->
 ∃d:PD (ts.map Par.val),pvs P (Hof W) (ts.map Par.val) vs d/\Jk 1048576 ts d
 |[],ts,vs,ds,ps,b,h,_,_=>by
  obtain⟨rfl,rfl,rfl⟩:=trodAll_nil h
  cases ts with
  |nil=>exact⟨(),rfl,trivial⟩
  |cons t ts=>cases b
 |T::a,[],vs,ds,ps,b,_,_,_=>by cases b
 |T::a,t::ts,vs,ds,ps,b,h,hv,hb=>by
  obtain⟨v,g,d,e,p,q,rfl,rfl,rfl,n,o⟩:=trodAll_cons h
  simp only[AB,ji] at b
  obtain⟨⟨k,_⟩,m⟩:=b
  simp only[Rows.uptoBulkAll] at hb
  obtain⟨c,s⟩:=n
  obtain⟨x,w,z,A⟩:=r8 20 T t k c _ _ s (by simp only;omega)
  obtain⟨y,B,C⟩:=jb1 a ts g e q m o (fun j t v u f=>hv (j+1) t v (by simpa using u) (by simpa using f)) (by omega)
  refine⟨(x,y),⟨⟨jdF k (hv 0 T v rfl rfl),by simpa using z,?_⟩,B⟩,Ty.fits_mono (by simp only;omega) t x A,C⟩
  refine Ty.rd_congr t _ _ _ (fun i _=> ?_) w
  simp
theorem r9:∀(a:List Nat) (ts:List Ty) (vs:List Value) (ds:List (DataW K)) (ps:List MemPlace),AB P a ts=true->DataW.TrodAll enc P W 0 (fun _=>true) true a vs ds ps->ds.length=ts.length:=by
 intro a
 induction a with
 |nil=>intro ts vs ds ps b h;obtain⟨rfl,rfl,rfl⟩:=trodAll_nil h;cases ts with|nil=>rfl|cons=>cases b
 |cons T a g=>intro ts vs ds ps b h;cases ts with
  |nil=>cases b
  |cons t ts=>
   obtain⟨v,e,d,c,p,q,rfl,rfl,rfl,i,f⟩:=trodAll_cons h;simp only[AB,ji] at b;simp[g ts e c q b.2 f]
theorem jb2 {f:Nat} {fn:Func} {s:ChangeSpec} {ts:List Ty} (I:laidOutB P=true) (k:AB P fn.params.toList ts=true) (L:fn.resultTypes= #[4]) (D:P.underlying 4=some .bool)
 (a:s.vars=[]) (m:∀(ds:List (DataW K)),ds.length=ts.length->s.fn K (ds++[])={results:=[.lit (.bool true)],args:=ds})
 (G:w9 P f (X7 ts)) (base:Nat) (args:Array Value) (ds o:List (DataW K)) (before:List MemPlace)
 (l:∀(j:Nat) t v,fn.params[j]? =some t->args[j]? =some v->Value.okWide P W .any base t v)
 (w:DataW.Whole enc P fn.params.toList s.vars false W args.toList ds o before) (hk:Rows.uptoSmall K (ds++o)=true) (E:jcu (Hof W)):
 Calls P f args W fun e W'=>∃v,e= .returned v/\s.post enc P fn false true false false W args v W':=by
 have b:=w;obtain⟨p,q,i,u,rfl,H,J⟩:=w;rw[a] at u;obtain⟨rfl,rfl⟩:=trodVars_none u;simp only[j6] at b hk;have c:Rows.uptoBulkAll ds<=1048576:=ja hk;have g:∀(j:Nat) t v,fn.params.toList[j]? =some t->args.toList[j]? =some v->Value.okWide P W .any base t v:=fun j t v B C=>l j t v (by simpa using B) (by simpa using C)
 obtain⟨d,z,A⟩:=jb1 fn.params.toList ts args.toList ds p k i g c;have y:=G.calls (Hof W) W args.toList d (jaO W E) z ⟨A,trivial⟩;simp only[Array.toArray_toList] at y;refine y.mono fun e W' F=> ?_
 obtain⟨v,H',rfl,r,M⟩:=F;have n:v= .bool true:=vC M;subst n;refine⟨_,rfl,ds,[],p,[],p,[],b,?_,?_,?_,r.below.frame _,fun h=>by cases h⟩;rw[m ds ?_,L];exact trodAll_cons_mk (shut_bool D _) trodAll_mk0;exact r9 _ _ _ _ _ k i;rw[m ds ?_];exact uh I r.below _ ts _ _ _ k i (fun x N=>by simpa using b.lt x N);exact r9 _ _ _ _ _ k i;rw[a,m ds ?_];rfl;exact r9 _ _ _ _ _ k i
end
end Go.X
namespace Go.X
open U
open Go.Proofs
namespace U
def jgi (p:PeD):Prop:=(lv p).length<=20/\(vw p).length<=30
def Ka (c:CrD):Prop:=(wj c).length<=20/\(ga c).length<=20/\∀p∈wj c,jgi p
def Fb (d:DyD):Prop:=Ka (ww d)/\(qg d).length<=20/\(wm d).length<=20/\(qi d).length<=60/\∀r∈qg d,r.length<=20
def Nj (p:PeD):Bool:=decide (20<((lv p).length:Int))||decide (30<((vw p).length:Int))
def mn (c:CrD):Bool:=(decide (20<((wj c).length:Int))||decide (20<((ga c).length:Int)))||((wj c).any Nj||(wy c&&decide (5<((wj c).length:Int))))
def Nk (r:List SpD):Bool:=decide (20<(r.length:Int))
def dt (d:DyD):Bool:=(((mn (ww d)||decide (20<((qg d).length:Int)))||decide (20<((wm d).length:Int)))||decide (60<((qi d).length:Int)))||(qg d).any Nk
def Kb (d:DyD):Bool:=dt d||(decide (aA d=0)&&decide (12<((qi d).length:Int)))
def jgy:CrD:=(3,[([5,4,0],3,15,[],false,50,()),([0,5,3],3,15,[],true,40,()),([4,0,4],1,3,[7],false,30,()),([3,3,3],255,1,[],false,10,())],[(2,1,false,()),(4,2,false,()),(3,2,true,()),(5,1,false,())],())
def Zo:List JbD:=[(0,2,7,1,2,1,()),(0,2,3,0,0,1,()),(0,2,7,1,1,1,())]
def jgz:DyD:=(jgy,[[(0,0,()),(10,20,())],[(10,25,()),(0,0,())]],[((0,2,3,0,0,1,()),0,60,120,()),((0,2,3,1,0,1,()),1,150,200,()),((0,2,7,1,2,1,()),0,230,300,())],10,140,
 [(1,5,1,0,3,()),(2,6,1,1,3,()),(3,4,1,2,2,()),(4,7,1,2,0,()),(5,8,1,2,1,()),(6,9,1,0,2,()),(7,10,2,0,2,())],())
end U
def Uq:w4:=⟨[.val tCr],[tCr],false,fun d=>[Ka d.1],fun d=>(d.1,())⟩
def Ur:Ann:=fun r=>match r with
 |3=>some fun σ=>{X:=Nat,sl:=fun i=>[(4,.dat .int (i:Int))],ob:=fun i=>[(3,some (.box 25 false ((bx σ 3).set 1 (.own (iG 3 1) tPe)))),(iG 3 1,some (.row 136 tPe false .yes ((wj (gb tCr σ 1)).take i)))],inv:=fun i=>i<=(wj (gb tCr σ 1)).length,mu:=fun i=>(wj (gb tCr σ 1)).length-i}
 |_=>none
abbrev jht (d:CrD×Unit)(x:Nat):=(nth d.1.2.1 (x:Int).toNat)
def Us:Prop:=∀(d:CrD×Unit),Ka d.1->(0+d.1.2.2.1.length)*24<=140737488355328/\(∃(x:Nat),((0=(x:Int)/\True)/\(d.1.1=d.1.1/\True/\True/\True)/\List.take x (wj d.1)=[]/\True)/\x<=(wj d.1).length)/\∀(x:Nat),x<=(wj d.1).length->d.1.2.1.length<4611686018427387904->(decide ((x:Int)<d.1.2.1.length)=true->0<=(x:Int)/\(x:Int)<d.1.2.1.length/\(0+(jht d x).1.length)*8<=140737488355328/\(0+(jht d x).2.2.2.1.length)*8<=140737488355328/\((List.take x (wj d.1)).length+[([]++(jht d x).1,(jht d x).2.1,(jht d x).2.2.1,[]++(jht d x).2.2.2.1,(jht d x).q4)].length)*80<=140737488355328/\wl ((x:Int)+1)/\∃(a:Nat),(((x:Int)+1=(a:Int)/\True)/\(d.1.1=d.1.1/\True/\True/\True)/\List.take x (wj d.1)++[([]++(jht d x).1,(jht d x).2.1,(jht d x).2.2.1,[]++(jht d x).2.2.2.1,(jht d x).q4)]=List.take a (wj d.1)/\True)/\a<=(wj d.1).length/\(wj d.1).length-a<(wj d.1).length-x)/\(decide ((x:Int)<d.1.2.1.length)=false->((d.1.1,List.take x (wj d.1),[]++d.1.2.2.1,()),())=d)
def Ut:w4:=⟨[.val tDy],[tDy],false,fun d=>[Fb d.1],fun d=>(d.1,())⟩
def Uu:Ann:=fun r=>match r with
 |5=>some fun σ=>{X:=Nat,sl:=fun i=>[(4,.dat .int (i:Int))],ob:=fun i=>[(3,some (.box 30 false ((bx σ 3).set 3 (.own (iG 3 3) (.slice tSp))))),(iG 3 3,some (.row 107 (.slice tSp) false .yes ((qg (gb tDy σ 1)).take i)))],inv:=fun i=>i<=(qg (gb tDy σ 1)).length,mu:=fun i=>(qg (gb tDy σ 1)).length-i}
 |_=>none
abbrev jlC (d:DyD×Unit):=(d.1.1.1=d.1.1.1/\d.1.1.2.1=d.1.1.2.1/\d.1.1.2.2.1=d.1.1.2.2.1/\True/\d.1.2.2.1=d.1.2.2.1/\d.1.2.2.2.1=d.1.2.2.2.1/\d.1.q4.1=d.1.q4.1/\d.1.q4.2.1=d.1.q4.2.1/\True)
def Uv:Prop:=∀(d:DyD×Unit),Fb d.1->Ka d.1.1/\(∃(x:Nat),((0=(x:Int)/\True)/\(jlC d)/\List.take x (qg d.1)=[]/\True)/\x<=(qg d.1).length)/\∀(x:Nat),x<=(qg d.1).length->d.1.2.1.length<4611686018427387904->(decide ((x:Int)<d.1.2.1.length)=true->0<=(x:Int)/\(x:Int)<d.1.2.1.length/\(0+(nth d.1.2.1 (x:Int).toNat).length)*16<=140737488355328/\((List.take x (qg d.1)).length+[[]++nth d.1.2.1 (x:Int).toNat].length)*24<=140737488355328/\wl ((x:Int)+1)/\∃(a:Nat),(((x:Int)+1=(a:Int)/\True)/\(jlC d)/\List.take x (qg d.1)++[[]++nth d.1.2.1 (x:Int).toNat]=List.take a (qg d.1)/\True)/\a<=(qg d.1).length/\(qg d.1).length-a<(qg d.1).length-x)/\(decide ((x:Int)<d.1.2.1.length)=false->(0+d.1.2.2.1.length)*72<=140737488355328/\(0+d.1.q4.2.1.length)*40<=140737488355328/\((d.1.1,List.take x (qg d.1),[]++d.1.2.2.1,d.1.2.2.2.1,d.1.q4.1,[]++d.1.q4.2.1,()),())=d)
def X8:w4:=⟨[.val tCr],[.bool],false,fun _=>[],fun d=>(mn d.1,())⟩
def X9:Ann:=fun r=>match r with
 |4=>some fun σ=>{X:=Nat,sl:=fun i=>[(3,.dat .int (i:Int))],ob:=fun _=>[],inv:=fun i=>i<=(wj (gb tCr σ 1)).length/\∀j:Nat,j<i->Nj (nth (wj (gb tCr σ 1)) j)=false,mu:=fun i=>(wj (gb tCr σ 1)).length-i}
 |_=>none
abbrev jj4 (d:CrD×Unit)(x:Nat):=((20:Int)<(nth d.1.2.1 (x:Int).toNat).1.length)
abbrev jiu (d:CrD×Unit):=(d.1.2.1.length:Int)
abbrev jlD (d:CrD×Unit)(x:Nat):=(decide (jj4 d x)||decide ((30:Int)<(nth d.1.2.1 (x:Int).toNat).2.2.2.1.length))
abbrev jlE (d:CrD×Unit):=(decide (20<(jiu d))||decide (20<(d.1.2.2.1.length:Int)))
def Ya:Prop:=∀(d:CrD×Unit),d.1.2.1.length<4611686018427387904->((!decide (20<(jiu d)))=true->d.1.2.2.1.length<4611686018427387904)->((jlE d)=true->(true,())=(mn d.1,()))/\((jlE d)=false->(∃(x:Nat),((0=(x:Int)/\True)/\True)/\x<=(wj d.1).length/\∀(j:Nat),j<x->Nj (nth (wj d.1) j)=false)/\∀(x:Nat),(x<=(wj d.1).length/\∀(j:Nat),j<x->Nj (nth (wj d.1) j)=false)->d.1.2.1.length<4611686018427387904->(decide ((x:Int)<(jiu d))=true->0<=(x:Int)/\(x:Int)<(jiu d)/\((nth d.1.2.1 (x:Int).toNat).1.length<4611686018427387904->((!decide (jj4 d x))=true->0<=(x:Int))/\((!decide (jj4 d x))=true->(x:Int)<(jiu d))/\(((!decide (jj4 d x))=true->(nth d.1.2.1 (x:Int).toNat).2.2.2.1.length<4611686018427387904)->((jlD d x)=true->(true,())=(mn d.1,()))/\((jlD d x)=false->wl ((x:Int)+1)/\∃(a:Nat),(((x:Int)+1=(a:Int)/\True)/\True)/\(a<=(wj d.1).length/\∀(j:Nat),j<a->Nj (nth (wj d.1) j)=false)/\(wj d.1).length-a<(wj d.1).length-x))))/\(decide ((x:Int)<(jiu d))=false->(wy d.1=true->d.1.2.1.length<4611686018427387904)->(wy d.1&&decide (5<(jiu d)),())=(mn d.1,())))
def Uw:w4:=⟨[.val tDy],[.bool],false,fun _=>[],fun d=>(dt d.1,())⟩
def Ux:Ann:=fun r=>match r with
 |4=>some fun σ=>{X:=Nat,sl:=fun i=>[(3,.dat .int (i:Int))],ob:=fun _=>[],inv:=fun i=>i<=(qg (gb tDy σ 1)).length/\∀j:Nat,j<i->Nk (nth (qg (gb tDy σ 1)) j)=false,mu:=fun i=>(qg (gb tDy σ 1)).length-i}
 |_=>none
abbrev jiT (d:DyD×Unit):=(d.1.2.1.length:Int)
abbrev jlF (d:DyD×Unit):=(mn d.1.1||decide (20<(jiT d))||decide (20<(d.1.2.2.1.length:Int))||decide (60<(d.1.q4.2.1.length:Int)))
def Uy:Prop:=∀(d:DyD×Unit),((!mn d.1.1)=true->d.1.2.1.length<4611686018427387904)->((!(mn d.1.1||decide (20<(jiT d))))=true->d.1.2.2.1.length<4611686018427387904)->((!(mn d.1.1||decide (20<(jiT d))||decide (20<(d.1.2.2.1.length:Int))))=true->d.1.q4.2.1.length<4611686018427387904)->((jlF d)=true->(true,())=(dt d.1,()))/\((jlF d)=false->(∃(x:Nat),((0=(x:Int)/\True)/\True)/\x<=(qg d.1).length/\∀(j:Nat),j<x->Nk (nth (qg d.1) j)=false)/\∀(x:Nat),(x<=(qg d.1).length/\∀(j:Nat),j<x->Nk (nth (qg d.1) j)=false)->d.1.2.1.length<4611686018427387904->(decide ((x:Int)<(jiT d))=true->0<=(x:Int)/\(x:Int)<(jiT d)/\((nth d.1.2.1 (x:Int).toNat).length<4611686018427387904->(decide ((20:Int)<(nth d.1.2.1 (x:Int).toNat).length)=true->(true,())=(dt d.1,()))/\(decide ((20:Int)<(nth d.1.2.1 (x:Int).toNat).length)=false->wl ((x:Int)+1)/\∃(a:Nat),(((x:Int)+1=(a:Int)/\True)/\True)/\(a<=(qg d.1).length/\∀(j:Nat),j<a->Nk (nth (qg d.1) j)=false)/\(qg d.1).length-a<(qg d.1).length-x)))/\(decide ((x:Int)<(jiT d))=false->(false,())=(dt d.1,())))
def Yb:w4:=⟨[.val tDy],[.bool],false,fun _=>[],fun d=>(Kb d.1,())⟩
def Yc:Prop:=∀(d:DyD×Unit),((!dt d.1)=true->(wm d.1).length<=1000000)/\(((!dt d.1&&decide (aA d.1=0))=true->d.1.q4.2.1.length<4611686018427387904)->(dt d.1||decide (aA d.1=0)&&decide (12<(d.1.q4.2.1.length:Int)),())=(Kb d.1,()))
def Uz:w4:=⟨[.val .int,.val .int],[tSp],false,fun _=>[],fun d=>((d.1,d.2.1,()),())⟩
def UA:Prop:=∀(d:Int×Int×Unit),(d,())=(d,())
def Jl:w4:=⟨[],[tCr,.slice tJb],false,fun _=>[],fun _=>(jgy,Zo,())⟩
def Jm:Prop:=∀(_:Unit),(((3:Int),[([(5:Int),(4:Int),(0:Int)],(3:Int),(15:Int),[],false,(50:Int),()),([(0:Int),(5:Int),(3:Int)],(3:Int),(15:Int),[],true,(40:Int),()),([(4:Int),(0:Int),(4:Int)],(1:Int),(3:Int),[(7:Int)],false,(30:Int),()),([(3:Int),(3:Int),(3:Int)],(255:Int),(1:Int),[],false,(10:Int),())],[((2:Int),(1:Int),false,()),((4:Int),(2:Int),false,()),((3:Int),(2:Int),true,()),((5:Int),(1:Int),false,())],()),[((0:Int),(2:Int),(7:Int),(1:Int),(2:Int),(1:Int),()),((0:Int),(2:Int),(3:Int),(0:Int),(0:Int),(1:Int),()),((0:Int),(2:Int),(7:Int),(1:Int),(1:Int),(1:Int),())],())=(jgy,Zo,())
def Jn:w4:=⟨[],[tDy],false,fun _=>[],fun _=>(jgz,())⟩
abbrev jj5:=(nth Zo (Int.toNat 1))
def Jo:Prop:=∀(_:Unit),(0:Int)<=1/\1<(Zo.length:Int)/\(0:Int)<=1/\1<(Zo.length:Int)/\(0:Int)<=0/\0<(Zo.length:Int)/\((jgy,[[((0:Int),(0:Int),()),((10:Int),(20:Int),())],[((10:Int),(25:Int),()),((0:Int),(0:Int),())]],[(nth Zo (Int.toNat 1),(0:Int),(60:Int),(120:Int),()),((jj5.1,jj5.2.1,jj5.2.2.1,(1:Int),jj5.q4),(1:Int),(150:Int),(200:Int),()),(nth Zo (Int.toNat 0),(0:Int),(230:Int),(300:Int),())],(10:Int),(140:Int),[((1:Int),(5:Int),(1:Int),(0:Int),(3:Int),()),((2:Int),(6:Int),(1:Int),(1:Int),(3:Int),()),((3:Int),(4:Int),(1:Int),(2:Int),(2:Int),()),((4:Int),(7:Int),(1:Int),(2:Int),(0:Int),()),((5:Int),(8:Int),(1:Int),(2:Int),(1:Int),()),((6:Int),(9:Int),(1:Int),(0:Int),(2:Int),()),((7:Int),(10:Int),(2:Int),(0:Int),(2:Int),())],()),())=(jgz,())
theorem Yd:Us:=by
 unfold Us jht Prod.q4;rintro⟨c,⟨⟩⟩ g;obtain⟨m,j,a⟩:Ka c:=g;refine⟨by show(0+(ga c).length)*24<=140737488355328;omega,⟨0,⟨⟨rfl,tZ⟩,⟨rfl,tZ,tZ,tZ⟩,rfl,tZ⟩,jl _⟩,fun x f _=>⟨fun h=> ?_,fun h=> ?_⟩⟩;have h:(x:Int)<(wj c).length:=ja h;have k:=L.wQ (l:=wj c) (i:=x) (by omega);obtain⟨s1,s2⟩:=a _ (L.wh (l:=wj c) (i:=x) (by omega));have d:((wj c).take x).length<=20:=(by rw[jZ];omega);refine⟨jU _,h,by show(0+(U.lv (nth (wj c) x)).length)*8<=140737488355328;omega,by show(0+(vw (nth (wj c) x)).length)*8<=140737488355328;omega,by show(((wj c).take x).length+1)*80<=140737488355328;omega,iZ6,x+1,⟨⟨by simp,tZ⟩,⟨rfl,tZ,tZ,tZ⟩,k.symm,tZ⟩,by show x+1<=(wj c).length;omega,by show(wj c).length-(x+1)<(wj c).length-x;omega⟩;have h:¬(x:Int)<(wj c).length:=jc h;have f:x<=(wj c).length:=f;have b:x=(wj c).length:=(by omega);subst b;have e:(wj c).take (wj c).length=wj c:=zC;show((c.1,(wj c).take (wj c).length,c.2.2.1,()),())=(c,());rw[e];rfl
theorem UB:w9 PR 65 Uq:=vb Ur Yd Tryz.func65 kcN koN
theorem Ye:Uv:=by
 unfold Uv jlC Prod.q4;rintro⟨d,⟨⟩⟩ g;obtain⟨k,o,j,n,a⟩:Fb d:=g;refine⟨k,⟨0,⟨⟨rfl,tZ⟩,⟨rfl,rfl,rfl,tZ,rfl,rfl,rfl,rfl,tZ⟩,rfl,tZ⟩,jl _⟩,fun x f _=>⟨fun h=> ?_,fun h=> ?_⟩⟩;have h:(x:Int)<(qg d).length:=ja h;have m:=L.wQ (l:=qg d) (i:=x) (by omega);have p:=a _ (L.wh (l:=qg d) (i:=x) (by omega));have c:((qg d).take x).length<=20:=(by rw[jZ];omega);refine⟨jU _,h,by show(0+(nth (qg d) x).length)*16<=140737488355328;omega,by show(((qg d).take x).length+1)*24<=140737488355328;omega,iZ6,x+1,⟨⟨by simp,tZ⟩,⟨rfl,rfl,rfl,tZ,rfl,rfl,rfl,rfl,tZ⟩,m.symm,tZ⟩,by show x+1<=(qg d).length;omega,by show(qg d).length-(x+1)<(qg d).length-x;omega⟩;have h:¬(x:Int)<(qg d).length:=jc h;have f:x<=(qg d).length:=f;have b:x=(qg d).length:=(by omega);subst b;have e:(qg d).take (qg d).length=qg d:=zC;refine⟨by show(0+(wm d).length)*72<=140737488355328;omega,by show(0+(qi d).length)*40<=140737488355328;omega,?_⟩;show((ww d,(qg d).take (qg d).length,wm d,BN d,jbq d,qi d,()),())=(d,());rw[e];rfl
theorem UC:w9 PR 33 Ut:=vb Uu Ye Tryz.func33 (kcC UB kcN) koN
theorem jaP:Ya:=by
 unfold Ya jlE jlD jiu jj4;rintro⟨c,⟨⟩⟩ _ _;refine⟨fun h=> ?_,fun h=>⟨⟨0,⟨⟨rfl,tZ⟩,tZ⟩,jl _,fun j g=>by omega⟩,fun x f d=>⟨fun a=>⟨jU _,ja a,fun _=>⟨fun _=>jU _,fun _=>ja a,fun _=>⟨fun b=> ?_,fun b=> ?_⟩⟩⟩,fun a _=> ?_⟩⟩⟩;have h:(decide (20<((wj c).length:Int))||decide (20<((ga c).length:Int)))=true:=h;show(true,())=(mn c,());unfold mn;rw[h];rfl;have b:Nj (nth (wj c) x)=true:=b;have a:(x:Int)<(wj c).length:=ja a;have:(wj c).any Nj=true:=zc.2 ⟨_,L.wh (l:=wj c) (i:=x) (by omega),b⟩;show(true,())=(mn c,());unfold mn;rw[this,Bool.true_or,Bool.or_true];have b:Nj (nth (wj c) x)=false:=b;have a:(x:Int)<(wj c).length:=ja a;have d:(wj c).length<4611686018427387904:=d;refine⟨iZ6,x+1,⟨⟨by simp,tZ⟩,tZ⟩,⟨by show x+1<=(wj c).length;omega,fun j g=> ?_⟩,by show(wj c).length-(x+1)<(wj c).length-x;omega⟩;by_cases e:j=x;subst e;exact b;exact f.2 j (by omega);have h:(decide (20<((wj c).length:Int))||decide (20<((ga c).length:Int)))=false:=h;have a:¬(x:Int)<(wj c).length:=jc a;have:(wj c).any Nj=false:=zj.2 fun p k=>by
  obtain⟨i,hi,rfl⟩:=L.mem_iff.1 k;rw[f.2 i (by omega)];simp
 show(wy c&&decide (5<((wj c).length:Int)),())=(mn c,());unfold mn;rw[h,this,Bool.false_or,Bool.false_or]
theorem Yf:w9 PR 102 X8:=vb X9 jaP Tryz.func102 (kcC Az kcN) koN
theorem Yg:Uy:=by
 unfold Uy jlF jiT Prod.q4;rintro⟨d,⟨⟩⟩ _ _ _;refine⟨fun h=> ?_,fun h=>⟨⟨0,⟨⟨rfl,tZ⟩,tZ⟩,jl _,fun j g=>by omega⟩,fun x f c=>⟨fun a=>⟨jU _,ja a,fun _=>⟨fun b=> ?_,fun b=> ?_⟩⟩,fun a=> ?_⟩⟩⟩;have h:(((mn (ww d)||decide (20<((qg d).length:Int)))||decide (20<((wm d).length:Int)))||decide (60<((qi d).length:Int)))=true:=h;show(true,())=(dt d,());unfold dt;rw[h];rfl;have b:Nk (nth (qg d) x)=true:=b;have a:(x:Int)<(qg d).length:=ja a;have:(qg d).any Nk=true:=zc.2 ⟨_,L.wh (l:=qg d) (i:=x) (by omega),b⟩;show(true,())=(dt d,());unfold dt;rw[this,Bool.or_true];have b:Nk (nth (qg d) x)=false:=b;have a:(x:Int)<(qg d).length:=ja a;have c:(qg d).length<4611686018427387904:=c;refine⟨iZ6,x+1,⟨⟨by simp,tZ⟩,tZ⟩,⟨by show x+1<=(qg d).length;omega,fun j g=> ?_⟩,by show(qg d).length-(x+1)<(qg d).length-x;omega⟩;by_cases e:j=x;subst e;exact b;exact f.2 j (by omega);have h:(((mn (ww d)||decide (20<((qg d).length:Int)))||decide (20<((wm d).length:Int)))||decide (60<((qi d).length:Int)))=false:=h;have a:¬(x:Int)<(qg d).length:=jc a;have:(qg d).any Nk=false:=zj.2 fun p k=>by
  obtain⟨i,hi,rfl⟩:=L.mem_iff.1 k;rw[f.2 i (by omega)];simp
 show(false,())=(dt d,());unfold dt;rw[h,this];rfl
theorem UD:w9 PR 63 Uw:=vb Ux Yg Tryz.func63 (kcC Yf kcN) koN
theorem Yh {c:CrD} (h:mn c=false):Ka c:=by
 unfold mn at h;rw[jT,jT,jT,jI] at h;have b:=jc h.1.2;refine⟨by have:=h.1.1;omega,by omega,fun p a=> ?_⟩;have:=zj.1 h.2.1 p a;unfold Nj at this;rw[zt,decide_eq_true_iff,decide_eq_true_iff] at this;unfold jgi;omega
theorem HF {d:DyD} (h:dt d=false):Fb d:=by
 unfold dt at h;rw[jT,jT,jT,jT] at h;obtain⟨⟨⟨⟨e,a⟩,b⟩,c⟩,f⟩:=h;have a:=jc a;have b:=jc b;have c:=jc c;refine⟨Yh e,by omega,by omega,by omega,fun r g=> ?_⟩;have:=zj.1 f r g;unfold Nk at this;rw[decide_eq_true_iff] at this;omega
theorem jaQ:Yc:=by
 unfold Yc Prod.q4;rintro⟨d,⟨⟩⟩;refine⟨fun h=> ?_,fun _=>rfl⟩;have h:(!dt d)=true:=h;rw[jX] at h;have:=(HF h).2.2.1;show(wm d).length<=1000000;omega
theorem Yi:w9 PR 31 Yb:=wT jaQ Tryz.func31 (kcC UD (kcC rZ kcN)) koN
theorem Yj:UA:=fun _=>rfl
theorem UE:w9 PR 104 Uz:=wT Yj Tryz.func104 kcN koN
theorem MA:Jm:=fun _=>rfl
theorem Jp:w9 PR 103 Jl:=wT MA Tryz.func103 kcN koN
theorem MB:Jo:=by
 unfold Jo jj5 Prod.q4;intro _;refine⟨by decide,by decide,by decide,by decide,by decide,by decide,rfl⟩
theorem Jq:w9 PR 64 Jn:=wT MB Tryz.func64 (kcC Jp (kcC UE kcN)) koN
theorem jaR {d:DyD} (h:Kb d=false):Fb d:=by
 unfold Kb at h;rw[jT] at h;exact HF h.1
abbrev tNo:Ty:= .st [.int,.int]
abbrev tTa:Ty:= .st [.int,.int,.int,.int,.int,.int,.int,.int,.slice .int,.slice tNo]
abbrev tCa:Ty:= .st [.int,.int,.int]
abbrev tLg:Ty:= .st [tDy,.slice .int,.slice .int,tTa,.slice tCa]
abbrev tLn:Ty:= .st [.int,.int,.int,.int,.int,.int]
abbrev tBl:Ty:= .st [tBk,tTa,.int,.int,.slice .int,.int,.int,.bool,.int]
abbrev tBo:Ty:= .st [tLg,.map .int (.ptr tBl)]
abbrev NoD:Type:=Int×Int×Unit
abbrev TaD:Type:=Int×Int×Int×Int×Int×Int×Int×Int×List Int×List NoD×Unit
abbrev CaD:Type:=Int×Int×Int×Unit
abbrev LgD:Type:=DyD×List Int×List Int×TaD×List CaD×Unit
abbrev LnD:Type:=Int×Int×Int×Int×Int×Int×Unit
abbrev BlD:Type:=BkD×TaD×Int×Int×List Int×Int×Int×Bool×Int×Unit
abbrev XbD:Type:=Int×Int×Int×Int×Int×Int×Int×Int×Int×Int×Int×Int×Int×Int×Int×Int×Int×List Int×List (Int×Int×Unit)×Int×Int×List Int×Int×Int×Bool×Int×Unit
abbrev BoD:Type:=LgD×List (Int×Option BlD)×Unit
namespace U
def Zp (n:NoD):Int:=n.1
def Zq (n:NoD):Int:=n.2.1
def QV (t:TaD):Int:=t.1
def Zr (t:TaD):Int:=t.2.1
def jeb (t:TaD):Int:=t.2.2.1
def jbt (t:TaD):Int:=t.2.2.2.1
def jec (t:TaD):Int:=t.2.2.2.2.1
def GC (t:TaD):Int:=t.2.2.2.2.2.1
def Nm (t:TaD):Int:=t.2.2.2.2.2.2.1
def Nn (t:TaD):Int:=t.2.2.2.2.2.2.2.1
def bn (t:TaD):List Int:=t.2.2.2.2.2.2.2.2.1
def aB (t:TaD):List NoD:=t.2.2.2.2.2.2.2.2.2.1
def Vw (c:CaD):Int:=c.1
def jed (c:CaD):Int:=c.2.1
def QW (c:CaD):Int:=c.2.2.1
def wq (l:LgD):DyD:=l.1
def vd (l:LgD):List Int:=l.2.1
def oD (l:LgD):List Int:=l.2.2.1
def vB (l:LgD):TaD:=l.2.2.2.1
def qj (l:LgD):List CaD:=l.2.2.2.2.1
def eQ (l:LnD):Int:=l.1
def AF (l:LnD):Int:=l.2.1
def jfx (l:LnD):Int:=l.2.2.1
def jfy (l:LnD):Int:=l.2.2.2.1
def SB (l:LnD):Int:=l.2.2.2.2.1
def Kc (l:LnD):Int:=l.2.2.2.2.2.1
def vJ (b:BlD):BkD:=b.1
def au (b:BlD):TaD:=b.2.1
def QX (b:BlD):Int:=b.2.2.1
def NF (b:BlD):Int:=b.2.2.2.1
def vf (b:BlD):List Int:=b.2.2.2.2.1
def su (b:BlD):Int:=b.2.2.2.2.2.1
def GD (b:BlD):Int:=b.2.2.2.2.2.2.1
def uP (b:BlD):Bool:=b.2.2.2.2.2.2.2.1
def sw (b:BlD):Int:=b.2.2.2.2.2.2.2.2.1
def bH (o:BoD):LgD:=o.1
def Kj (o:BoD):List (Int×Option BlD):=o.2.1
def share (n:Int):Bool:=wa n 0 100
def Kd (last:Int) (n:NoD):Bool:=wa (Zp n) 0 (last-1)&&share (Zq n)
def AG:Int->List NoD->Bool
 |_,[]=>true
 |last,n::r=>Kd last n&&AG (Zp n) r
def yB (t:TaD):Bool:=(wa (QV t) 1 240&&wa (Zr t) 0 10000&&wa (jeb t) 0 20&&wa (jbt t) 0 1440&&wa (jec t) 0 (jbt t)&&share (GC t)&&wa (Nm t) 0 10000)&&
 (decide ((bn t).length=4)&&(bn t).all share&&wa (Nn t) 0 1000000&&decide ((aB t).length<=4)&&AG 100001 (aB t))
def o9 (n:Nat) (c:CaD):Bool:=(wa (Vw c) 0 99&&wa (jed c) 0 ((n:Int)-1))&&wa (QW c) (-100000) 1440
def No (n:Int):Bool:=wa n 0 20
def AH (n:Int):Bool:=wa n 0 300
def dK (l:LgD):Bool:=((decide ((vd l).length=(wm (wq l)).length)&&(vd l).all No)&&(decide ((oD l).length=(wm (wq l)).length)&&(oD l).all AH))&&
 (yB (vB l)&&(decide ((qj l).length<=10)&&(qj l).all (o9 (wm (wq l)).length)))
def cg (l:List CaD) (i:Nat):Bool:=(l.take i).any (fun x=>decide (Vw x=Vw (nth l i))&& !decide (x=nth l i))
def Fc (l:List CaD) (n:Nat):Bool:=(List.range n).any (cg l)
def du (l:List CaD):Bool:=Fc l l.length
def wU (l:LgD):Int:=if qo (wq l)≠0 then qo (wq l) else if dK l=false then 70 else if du (qj l)=true then 71 else 0
def up (a b:Int):Int:=(a+b-1).tdiv b
def aa (m:Int) (b:BlD):BlD:=if m<=qh (vJ b)/\(uP b=false\/m<sw b) then(vJ b,au b,QX b,NF b,vf b,su b,GD b,true,m,()) else b
def ae (b:BlD):Int:=max 0 (gH (vJ b)-max (qh (vJ b)) (jbt (au b)))+max 0 (min (gH (vJ b)) (jec (au b))-qh (vJ b))
def nW (b:BlD):Int:=(vf b).length*Zr (au b)*max (jeb (au b)) (up (gH (vJ b)-qh (vJ b)) (QV (au b)))
def cv (b:BlD):Int:=nW b+up (nW b*GC (au b)*ae b) (100*(gH (vJ b)-qh (vJ b)))
def dx (a:Int) (b:BlD):Int:=(vf b).length*Nm (au b)*a
def chargeB (a:Int) (b:BlD):BlD:=(vJ b,au b,QX b,NF b,vf b,cv b,dx a b,uP b,sw b,())
def ir (b:BlD) (n:NoD):Bool:=decide (Zp n<=qh (vJ b)-sw b)
def Vm (b:BlD):Int:=gN (ir b) (aB (au b))
def qR (b:BlD):Int:=if uP b=true/\0<=Vm b then up (su b*Zq (nth (aB (au b)) (Vm b).toNat)) 100 else su b
def vn (b:BlD):Int:=if uP b=true then 0 else GD b
def px (b:BlD):Int:=min (Nn (au b)) (((qR b+vn b)*nth (bn (au b)) (ct (gg (vJ b))).toNat).tdiv 100)
def vA (b:BlD):LnD:=(NF b,QX b,qR b,vn b,px b,qR b+vn b-px b,())
def av (m:Int) (b:BlD):Int:=Kc (vA (aa m b))
def GF (b:BlD):Prop:=yB (au b)=true/\0<=qh (vJ b)/\qh (vJ b)<gH (vJ b)/\gH (vJ b)<=1440/\0<=ct (gg (vJ b))/\ct (gg (vJ b))<=3/\(vf b).length<=8/\-100000<=sw b/\sw b<=1440
def sk (b:BlD):Prop:=GF b/\0<=su b/\su b<=100000000000000/\0<=GD b/\GD b<=1000000000
def qH (t:Int) (n:Nat):List Int:=((List.range n).filter (fun(p:Nat)=>w7 t (p:Int))).map (fun(p:Nat)=>(p:Int))
def uJ (l:LgD) (n:Int) (tm:List Int):BlD:=(nth (wm (wq l)) n.toNat,vB l,n,nth (vd l) n.toNat,tm,0,0,false,0,())
def qN (l:LgD) (n:Int) (k:Nat):List Int:=qH (nth (dJ (wq l)) n.toNat) k
def lT (l:LgD) (n:Int):BlD:=chargeB (nth (oD l) n.toNat) (uJ l n (qN l n (wj (ww (wq l))).length))
def uK (n:Int) (b:BlD) (c:CaD):BlD:=if jed c=n then aa (QW c) b else b
def wx (l:LgD) (n:Int) (k:Nat):BlD:=((qj l).take k).foldl (uK n) (lT l n)
def wX (l:LgD) (n:Int):BlD:=wx l n (qj l).length
def jee (l:LgD) (m:List (Int×Option BlD)) (n:Int):List (Int×Option BlD):=iz .int n (some (wX l n)) m
def BP (l:LgD) (k:Nat):List (Int×Option BlD):=((wb (wq l)).take k).foldl (jee l) []
def Np (l:LgD):List (Int×Option BlD):=BP l (wb (wq l)).length
def zDy:DyD:=((0,[],[],()),[],[],0,0,[],())
def zTa:TaD:=(0,0,0,0,0,0,0,0,[],[],())
def zLg:LgD:=(zDy,[],[],zTa,[],())
def jgj:BoD:=(zLg,[],())
def qk (l:LgD) (wE:Bool):Int:=if wU l≠0 then wU l else if wE=true then 0 else 1
def wv (l:LgD) (wE:Bool):BoD:=if qk l wE=0 then(l,Np l,()) else jgj
def q6 (o:BoD) (n:Int):Bool:=wa n 0 (((wm (wq (bH o))).length:Int)-1)
def yl (m:List (Int×Option BlD)):List LnD:=m.map (fun e=>match e.2 with|some b=>vA b|none=>default)
def xZ (a b:LnD):Int:=gx [dA (eQ a) (eQ b),dA (AF a) (AF b)]
def wu (o:BoD):List LnD:=wd (we tLn fun x=>(xZ x.1 x.2.1,())) (yl (Kj o))
def aC (l:List Int):Int:=l.foldl max (nth l 0)
def jbu (t:List Int) (x:LnD):List Int:=t.set (eQ x).toNat (nth t (eQ x).toNat+Kc x)
def vQ (n:Nat) (l:List LnD) (k:Nat):List Int:=(l.take k).foldl jbu (List.replicate n 0)
def yC (o:BoD):List Int:=if(vd (bH o)).length=0 then[] else vQ (aC (vd (bH o))+1).toNat (wu o) (wu o).length
def oE (a:Int) (tm:List Int) (out:List Int) (i:Nat):List Int:=out.set (nth tm i).toNat (nth out (nth tm i).toNat+a.tdiv tm.length+(if(i:Int)<a.tmod tm.length then 1 else 0))
def qb (a:Int) (tm out:List Int) (k:Nat):List Int:=(List.range k).foldl (oE a tm) out
def jbv (a:Int) (b:BlD) (out:List Int):List Int:=qb a (vf b) out (vf b).length
def Vn (n:Nat):Option BlD->List Int
 |some b=>jbv (vn b) b (jbv (qR b) b (List.replicate n 0))
 |none=>List.replicate n 0
def QY (o:BoD) (n:Int):Option BlD:=wW none (wG .int n (Kj o))
def yO (o:BoD) (n:Int):List Int:=Vn (wj (ww (wq (bH o)))).length (QY o n)
end U
theorem Jr {a b A B:Int} (d:0<=a/\a<=A) (c:0<=b/\b<=B):0<=a*b/\a*b<=A*B:=
 ⟨Int.mul_nonneg d.1 c.1,Int.mul_le_mul d.2 c.2 c.1 (by omega)⟩
theorem Er {x B:Int} (h:0<=x/\x<=B) (a:B<=9223372036854775807):wl x:=iZ6
theorem jf4 {a b:Int} (c:0<=a) (d:0<b):U.up a b=(a+b-1)/b:=ko (by omega)
theorem MC {a b:Int} (e:0<=a) (c:0<b):0<=U.up a b/\U.up a b<=a:=by
 rw[jf4 e c];refine⟨Int.ediv_nonneg (by omega) (by omega),?_⟩;by_cases h:a=0;subst h;rw[kI (by omega) (by omega)];omega;have g:0<=(a-1)*(b-1):=Int.mul_nonneg (by omega) (by omega);have d:a+b-1<(a+1)*b:=by
  have f:(a+1)*b=a*b+b:=(by rw[Int.add_mul];omega);have e2:(a-1)*(b-1)=a*b-a-b+1:=(by rw[Int.sub_mul,Int.mul_sub];omega);omega
 have:=Int.ediv_lt_of_lt_mul c d;omega
theorem UF {a b A:Int} (c:0<=a/\a<=A) (f:0<b):0<=a.tdiv b/\a.tdiv b<=A:=by
 rw[ko c.1];have d:=Int.ediv_nonneg c.1 (show 0<=b by omega);have e:=Int.ediv_le_self b c.1;exact⟨d,by omega⟩
theorem vE {n a b:Int}:wa n a b=true↔a<=n/\n<=b:=by
 unfold wa;simp only[ji,jp]
structure jf5 (t:TaD):Prop where
 un:1<=QV t/\QV t<=240
 rt:0<=Zr t/\Zr t<=10000
 le:0<=jeb t/\jeb t<=20
 dk:0<=jbt t/\jbt t<=1440
 dw:0<=jec t/\jec t<=jbt t
 ni:0<=GC t/\GC t<=100
 mi:0<=Nm t/\Nm t<=10000
 sl:(bn t).length=4
 sb:∀n∈bn t,0<=n/\n<=100
 cp:0<=Nn t/\Nn t<=1000000
 nl:(aB t).length<=4
 no:AG 100001 (aB t)=true
theorem cB {t:TaD}:yB t=true↔jf5 t:=by
 unfold yB U.share;simp only[ji,vE,jp,jV];constructor;rintro⟨⟨⟨⟨⟨⟨⟨d,e⟩,f⟩,g⟩,h⟩,i⟩,j⟩,⟨⟨⟨k,l⟩,a⟩,b⟩,c⟩;exact⟨d,e,f,g,h,i,j,k,l,a,b,c⟩;rintro⟨d,e,f,g,h,i,j,k,l,a,b,c⟩;exact⟨⟨⟨⟨⟨⟨⟨d,e⟩,f⟩,g⟩,h⟩,i⟩,j⟩,⟨⟨⟨k,l⟩,a⟩,b⟩,c⟩
theorem Ce:∀{last:Int} {l:List NoD},AG last l=true->∀n∈l,(0<=Zp n/\Zp n<=last-1)/\0<=Zq n/\Zq n<=100
 |_,[],_,n,a=>by cases a
 |last,m::r,h,n,a=>by
  unfold AG Kd U.share at h
  simp only[ji,vE] at h
  obtain⟨⟨b,c⟩,d⟩:=h
  rcases jk.1 a with rfl|a
  exact⟨b,c⟩
  have:=Ce d n a
  exact⟨⟨this.1.1,by omega⟩,this.2⟩
structure Es (b:BlD):Prop where
 ta:jf5 (au b)
 st:0<=qh (vJ b)
 en:qh (vJ b)<gH (vJ b)
 e2:gH (vJ b)<=1440
 kd:0<=ct (gg (vJ b))/\ct (gg (vJ b))<=3
 tm:(vf b).length<=8
 mi: -100000<=sw b/\sw b<=1440
theorem ui {b:BlD}:GF b↔Es b:=by
 unfold GF;rw[cB];exact⟨fun⟨a,c,d,e,f,g,h,i,j⟩=>⟨a,c,d,e,⟨f,g⟩,h,⟨i,j⟩⟩,fun⟨a,c,d,e,⟨f,g⟩,h,⟨i,j⟩⟩=>⟨a,c,d,e,f,g,h,i,j⟩⟩
theorem Sc {b:BlD} (h:Es b):0<=ae b/\ae b<=2880:=by
 have:=h.st;have:=h.en;have:=h.e2;have:=h.ta.dk;have:=h.ta.dw;unfold ae;omega
theorem jfg {b:BlD} (h:Es b):0<=U.up (gH (vJ b)-qh (vJ b)) (QV (au b))/\U.up (gH (vJ b)-qh (vJ b)) (QV (au b))<=1440:=by
 have:=h.st;have:=h.en;have:=h.e2;have:=h.ta.un;have:=MC (a:=gH (vJ b)-qh (vJ b)) (b:=QV (au b)) (by omega) (by omega);omega
theorem jfh {b:BlD} (h:Es b):0<=((vf b).length:Int)*Zr (au b)/\((vf b).length:Int)*Zr (au b)<=80000:=
 Jr (A:=8) (B:=10000) (by have:=h.tm;omega) h.ta.rt
theorem P9 {b:BlD} (h:Es b):0<=nW b/\nW b<=115200000:=by
 have c:=jfg h;have d:=h.ta.le;have a:0<=max (jeb (au b)) (U.up (gH (vJ b)-qh (vJ b)) (QV (au b)))/\max (jeb (au b)) (U.up (gH (vJ b)-qh (vJ b)) (QV (au b)))<=1440:=(by omega);exact Jr (jfh h) a
theorem jfi {b:BlD} (h:Es b):0<=nW b*GC (au b)/\nW b*GC (au b)<=11520000000:=Jr (P9 h) h.ta.ni
theorem jb3 {b:BlD} (h:Es b):0<=nW b*GC (au b)*ae b/\nW b*GC (au b)*ae b<=33177600000000:=Jr (jfi h) (Sc h)
theorem jfj {b:BlD} (h:Es b):0<100*(gH (vJ b)-qh (vJ b))/\100*(gH (vJ b)-qh (vJ b))<=144000:=by
 have:=h.st;have:=h.en;have:=h.e2;omega
theorem jfk {b:BlD} (h:Es b):0<=U.up (nW b*GC (au b)*ae b) (100*(gH (vJ b)-qh (vJ b)))/\U.up (nW b*GC (au b)*ae b) (100*(gH (vJ b)-qh (vJ b)))<=33177600000000:=by
 have a:=jb3 h;have:=MC a.1 (jfj h).1;omega
theorem Yk {b:BlD} (h:Es b):0<=cv b/\cv b<=100000000000000:=by
 have a:=P9 h;have c:=jfk h;unfold cv;omega
theorem jfl {b:BlD} (h:Es b):0<=((vf b).length:Int)*Nm (au b)/\((vf b).length:Int)*Nm (au b)<=80000:=
 Jr (A:=8) (B:=10000) (by have:=h.tm;omega) h.ta.mi
theorem Yl {b:BlD} {t:Int} (h:Es b) (a:0<=t/\t<=300):0<=dx t b/\dx t b<=24000000:=Jr (jfl h) a
theorem Et {α:Type} [Inhabited α] {p:α->Bool} {l:List α} (h:0<=gN p l):(gN p l).toNat<l.length/\gN p l<(l.length:Int)/\p (nth l (gN p l).toNat)=true:=by
 unfold gN at h⊢;cases e:l.findIdx? p with
 |none=>rw[e] at h;exact absurd h (by decide)
 |some i=>
  obtain⟨a,b,_⟩:=z6.1 e;simp only[jw];refine⟨a,by omega,?_⟩;rw[L.qy a];exact b
structure Kh (b:BlD):Prop where
 bl:Es b
 wk:0<=su b/\su b<=100000000000000
 tr:0<=GD b/\GD b<=1000000000
theorem bL {b:BlD}:sk b↔Kh b:=by
 unfold sk;rw[ui];exact⟨fun⟨a,c,d,e,f⟩=>⟨a,⟨c,d⟩,⟨e,f⟩⟩,fun⟨a,⟨c,d⟩,⟨e,f⟩⟩=>⟨a,c,d,e,f⟩⟩
theorem Sd {b:BlD} (h:Kh b) {i:Nat} (hi:i<(aB (au b)).length):0<=su b*Zq (nth (aB (au b)) i)/\su b*Zq (nth (aB (au b)) i)<=10000000000000000:=
 Jr h.wk (Ce h.bl.ta.no _ (L.wh hi)).2
theorem uj {b:BlD} (h:Kh b):0<=qR b/\qR b<=10000000000000000:=by
 unfold qR
 split
 rename_i c;have a:=Sd h (Et c.2).1;have:=MC (b:=100) a.1 (by omega);have e:U.up (su b*Zq (nth (aB (au b)) (Vm b).toNat)) 100<=su b*Zq (nth (aB (au b)) (Vm b).toNat):=this.2;exact⟨this.1,kY e a.2⟩;have:=h.wk;omega
theorem uk {b:BlD} (h:Kh b):0<=vn b/\vn b<=1000000000:=by
 unfold vn;have:=h.tr
 split<;>omega
theorem Ym {b:BlD} (h:Es b):(ct (gg (vJ b))).toNat<(bn (au b)).length:=by
 have:=h.kd;have:=h.ta.sl;omega
theorem Yn {b:BlD} (h:Es b):0<=nth (bn (au b)) (ct (gg (vJ b))).toNat/\nth (bn (au b)) (ct (gg (vJ b))).toNat<=100:=h.ta.sb _ (L.wh (Ym h))
theorem Eu {w t cp pc k:Int} {n:Nat} {R:Prop} (i:0<=w/\w<=10000000000000000) (h:0<=t/\t<=1000000000) (g:0<=cp/\cp<=1000000) (e:0<=pc/\pc<=100) (hk:0<=k) (d:k<(n:Int)) (c:R):
 wl (w+t)/\0<=k/\k<(n:Int)/\wl ((w+t)*pc)/\(100:Int)≠0/\wl (((w+t)*pc).tdiv 100)/\wl (w+t)/\wl (w+t-min cp (((w+t)*pc).tdiv 100))/\R:=by
 have a:0<=(w+t)*pc/\(w+t)*pc<=10000001000000000*100:=Jr (by omega) e;have f:=UF (b:=100) a (by omega);exact⟨iZ6,hk,d,iZ6,by decide,iZ6,iZ6,iZ6,c⟩
theorem jaS {b:BlD} {m:Int} (h:Es b) (a: -100000<=m/\m<=1440):Es (aa m b):=by
 unfold aa
 split
 exact⟨h.ta,h.st,h.en,h.e2,h.kd,h.tm,a⟩;exact h
theorem Js {b:BlD} {m:Int} (h:Kh b) (a: -100000<=m/\m<=1440):Kh (aa m b):=by
 refine⟨jaS h.bl a,?_,?_⟩;unfold aa
 split
 exact h.wk;exact h.wk;unfold aa
 split
 exact h.tr;exact h.tr
theorem Se {β:Type} (k:Int) (v:β):∀m:List (Int×β),k∉m.map (·.1)->iz .int k v m=m++[(k,v)]
 |[],_=>rfl
 |e::r,h=>by
  have a:k≠e.1:=fun e2=>h (by rw[e2];simp)
  have b:k∉r.map (·.1):=fun d=>h (by simp only[zy];exact jm _ d)
  rw[M.mput_cons (kt:= .int),jd (fun c=>a (ja c)),Se k v r b];rfl
theorem Qa (d:DyD) (n:Nat):(aK d n).Nodup:=by
 unfold aK;exact zP.2 ((List.nodup_range.filter _).imp fun h e=>h (by omega))
theorem oA (d:DyD):(wb d).Nodup:=by
 unfold wb
 split
 exact Qa d _;exact kZ
theorem Jt {d:DyD} {n:Int} (h:n∈wb d):0<=n/\n<((wm d).length:Int):=by
 unfold wb at h
 split at h
 unfold aK at h;obtain⟨b,a,rfl⟩:=jS.1 h;have:=jE.1 (jP.1 a).1;omega;cases h
theorem MD {l:LgD} {k:Nat} (h:k<(wb (wq l)).length):BP l (k+1)=jee l (BP l k) (nth (wb (wq l)) k):=by
 unfold BP;rw[L.wQ h,jO];rfl
theorem Yo (l:LgD):∀k,k<=(wb (wq l)).length->BP l k=((wb (wq l)).take k).map (fun n=>(n,some (wX l n)))
 |0,_=>rfl
 |k+1,hk=>by
  have a:k<(wb (wq l)).length:=by omega
  have d:=L.wQ a
  have b:((wb (wq l)).take (k+1)).Nodup:=(oA _).sublist (List.take_sublist _ _)
  rw[d,zI] at b
  rw[MD a,Yo l k (by omega),d,zn]
  unfold jee
  refine Se _ _ _ fun c=> ?_
  rw[kA] at c
  obtain⟨x,f,e⟩:=jS.1 c
  have e:x=nth (wb (wq l)) k:=e
  exact b.2.2 x f _ (by simp) e
theorem Ev (l:LgD):Np l=(wb (wq l)).map (fun n=>(n,some (wX l n))):=by
 unfold Np;rw[Yo l _ (jj _),zC]
structure sq (l:LgD):Prop where
 cp:qo (wq l)=0
 crw:wy (ww (wq l))=true
 jbs:J6 (wq l)=true
 dy:qG (wq l)=true
 py:(vd l).length=(wm (wq l)).length/\∀n∈vd l,0<=n/\n<=20
 tr:(oD l).length=(wm (wq l)).length/\∀n∈oD l,0<=n/\n<=300
 ta:jf5 (vB l)
 cl:(qj l).length<=10/\∀c∈qj l,(0<=Vw c/\Vw c<=99)/\(0<=jed c/\jed c<=((wm (wq l)).length:Int)-1)/\-100000<=QW c/\QW c<=1440
 cc:du (qj l)=false
theorem UG {d:DyD} (h:qo d=0):wy (ww d)=true/\J6 d=true/\qG d=true:=by
 unfold qo at h
 split at h
 rename_i a;exact absurd h a;rename_i a
 split at h
 cases h;rename_i b;have a:xY d=0:=jM.1 a;unfold xY at a
 split at a
 cases a;rename_i c
 split at a
 cases a;rename_i e;exact⟨by simpa using c,by simpa using e,by simpa using b⟩
theorem aS {l:LgD} (h:wU l=0):sq l:=by
 unfold wU at h
 split at h
 rename_i a;exact absurd h a;rename_i a;have a:qo (wq l)=0:=jM.1 a
 split at h
 cases h;rename_i b
 split at h
 cases h;rename_i d;have b:dK l=true:=(by simpa using b);have d:du (qj l)=false:=(by simpa using d);obtain⟨p,q,r⟩:=UG a;unfold dK at b;simp only[ji,jp,jV] at b;obtain⟨⟨⟨f,g⟩,i,j⟩,k,m,o⟩:=b;refine⟨a,p,q,r,⟨f,fun n e=>vE.1 (g n e)⟩,⟨i,fun n e=>vE.1 (j n e)⟩,cB.1 k,⟨m,fun c s=> ?_⟩,d⟩;have:=o c s;unfold o9 at this;simp only[ji,vE] at this;exact⟨this.1.1,this.1.2,this.2⟩
theorem Ew {l:LgD} (h:sq l) {n:Int} (e:0<=n/\n<((wm (wq l)).length:Int)):
 (0<=qh (nth (wm (wq l)) n.toNat)/\qh (nth (wm (wq l)) n.toNat)<gH (nth (wm (wq l)) n.toNat)/\gH (nth (wm (wq l)) n.toNat)<=1440)/\
 0<=ct (gg (nth (wm (wq l)) n.toNat))/\ct (gg (nth (wm (wq l)) n.toNat))<=3:=by
 have d:nth (wm (wq l)) n.toNat∈wm (wq l):=L.wh (by omega);have c:=h.dy;unfold qG at c;simp only[ji,jV] at c;have b:=c.2.2.1 _ d;unfold nP at b;have b:=ja b;have a:=h.jbs;unfold J6 at a;have a:=jV.1 a _ d;unfold ql at a;have a:=ja a;exact⟨⟨b.2.2.1,b.2.2.2.1,b.2.2.2.2⟩,a.2.2.2.2.2.2.2.2.2.1,a.2.2.2.2.2.2.2.2.2.2.1⟩
theorem Sf {l:LgD} (h:sq l) {n:Int} (e:0<=n/\n<((wm (wq l)).length:Int)) {tm:List Int} (f:tm.length<=8):Es (uJ l n tm):=by
 obtain⟨⟨a,b,c⟩,d⟩:=Ew h e;exact⟨h.ta,a,b,c,d,f,by show-100000<=(0:Int)/\(0:Int)<=1440;omega⟩
theorem nJ (t:Int) (n:Nat):(qH t n).length<=n/\∀p∈qH t n,0<=p/\p<(n:Int):=by
 unfold qH;refine⟨?_,fun p c=> ?_⟩;rw[zf];exact jF (zA _ _) (by rw[zx];exact jj _);obtain⟨b,a,rfl⟩:=jS.1 c;have:=jE.1 (jP.1 a).1;omega
theorem jeo {l:LgD} (h:sq l):(wj (ww (wq l))).length<=8:=by
 have a:=h.crw;unfold wy at a;rw[ji] at a;exact(ja a.1).2.2.1
theorem Sg {l:LgD} (h:sq l) {n:Int} (d:0<=n/\n<((wm (wq l)).length:Int)):Kh (lT l n):=by
 have g:=jeo h;have f:=(nJ (nth (dJ (wq l)) n.toNat) (wj (ww (wq l))).length).1;have a:Es (uJ l n (qN l n (wj (ww (wq l))).length)):=Sf h d (by unfold qN;omega);have e:=h.tr.2 _ (L.wh (show n.toNat<(oD l).length by rw[h.tr.1];omega));have c:=Yk a;have b:=Yl a e;exact⟨⟨a.ta,a.st,a.en,a.e2,a.kd,a.tm,a.mi⟩,c,⟨b.1,kY b.2 (by decide)⟩⟩
theorem d8 {l:LgD} {n:Int} {k:Nat} (h:k<(qj l).length):wx l n (k+1)=uK n (wx l n k) (nth (qj l) k):=by
 unfold wx;rw[L.wQ h,jO];rfl
theorem HG {l:LgD} (h:sq l) {n:Int} (a:0<=n/\n<((wm (wq l)).length:Int)):∀k,k<=(qj l).length->Kh (wx l n k)
 |0,_=>Sg h a
 |k+1,hk=>by
  rw[d8 (by omega)]
  unfold uK
  have b:=HG h a k (by omega)
  split
  exact Js b (h.cl.2 _ (L.wh (show k<(qj l).length by omega))).2.2
  exact b
theorem Ey {l:LgD} (h:sq l) {n:Int} (a:0<=n/\n<((wm (wq l)).length:Int)):Kh (wX l n):=HG h a _ (jj _)
theorem UH (m:Int) (b:BlD):vJ (aa m b)=vJ b/\au (aa m b)=au b/\QX (aa m b)=QX b/\NF (aa m b)=NF b/\vf (aa m b)=vf b/\su (aa m b)=su b/\GD (aa m b)=GD b:=by
 unfold aa
 split
 exact⟨rfl,rfl,rfl,rfl,rfl,rfl,rfl⟩;exact⟨rfl,rfl,rfl,rfl,rfl,rfl,rfl⟩
theorem vW (l:LgD) (n:Int):∀k,k<=(qj l).length->vJ (wx l n k)=vJ (lT l n)/\au (wx l n k)=au (lT l n)/\QX (wx l n k)=QX (lT l n)/\NF (wx l n k)=NF (lT l n)/\vf (wx l n k)=vf (lT l n)/\
 su (wx l n k)=su (lT l n)/\GD (wx l n k)=GD (lT l n)
 |0,_=>⟨rfl,rfl,rfl,rfl,rfl,rfl,rfl⟩
 |k+1,hk=>by
  rw[d8 (by omega)]
  unfold uK
  have a:=vW l n k (by omega)
  split
  obtain⟨c1,c2,b,c,d,e,f⟩:=UH (QW (nth (qj l) k)) (wx l n k)
  rw[c1,c2,b,c,d,e,f];exact a
  exact a
abbrev blS:Sh:= .box 85 [.dat .int,.dat .int,.dat .int,.dat .int,.dat .int,.dat .int,.dat .int,.dat .int,.dat .int,.dat .int,.dat .int,.dat .int,.dat .int,.dat .int,.dat .int,.dat .int,.dat .int,.dat (.slice .int),.dat (.slice tNo),.dat .int,.dat .int,.dat (.slice .int),.dat .int,.dat .int,.dat .bool,.dat .int]
def blX (x:Sh.D blS) (w t:Int) (c:Bool) (m:Int):Sh.D blS:=(x.1,x.2.1,x.2.2.1,x.2.2.2.1,x.q4.1,x.q4.2.1,x.q4.2.2.1,x.q4.2.2.2.1,x.q4.q4.1,x.q4.q4.2.1,x.q4.q4.2.2.1,x.q4.q4.2.2.2.1,x.q4.q4.q4.1,x.q4.q4.q4.2.1,x.q4.q4.q4.2.2.1,x.q4.q4.q4.2.2.2.1,x.q4.q4.q4.q4.1,x.q4.q4.q4.q4.2.1,x.q4.q4.q4.q4.2.2.1,x.q4.q4.q4.q4.2.2.2.1,x.q4.q4.q4.q4.q4.1,x.q4.q4.q4.q4.q4.2.1,w,t,c,m,())
namespace U
def vS (x:Sh.D blS):BlD:=
 (((x.1,x.2.1,x.2.2.1,x.2.2.2.1,x.q4.1,x.q4.2.1,()),x.q4.2.2.1,x.q4.2.2.2.1,x.q4.q4.1,()),
  (x.q4.q4.2.1,x.q4.q4.2.2.1,x.q4.q4.2.2.2.1,x.q4.q4.q4.1,x.q4.q4.q4.2.1,x.q4.q4.q4.2.2.1,x.q4.q4.q4.2.2.2.1,x.q4.q4.q4.q4.1,x.q4.q4.q4.q4.2.1,x.q4.q4.q4.q4.2.2.1,()),
  x.q4.q4.q4.q4.2.2.2.1,x.q4.q4.q4.q4.q4.1,x.q4.q4.q4.q4.q4.2.1,x.q4.q4.q4.q4.q4.2.2.1,x.q4.q4.q4.q4.q4.2.2.2.1,x.q4.q4.q4.q4.q4.q4.1,x.q4.q4.q4.q4.q4.q4.2.1,())
def Zg (m:Int) (b:BlD):Bool:=uP (aa m b)
def Zh (m:Int) (b:BlD):Int:=sw (aa m b)
def Zi (m:Int) (c:CaD):Bool:=(wa (Vw c) 0 99&&wa (jed c) 0 (m-1))&&wa (QW c) (-100000) 1440
end U
def bC:w4:=⟨[.val .int,.val .int,.val .int],[.bool],false,fun _=>[],fun d=>(wa d.1 d.2.1 d.2.2.1,())⟩
def Qb:Prop:=∀(d:CaD),(decide (d.2.1<=d.1)&&decide (d.1<=d.2.2.1),())=(wa d.1 d.2.1 d.2.2.1,())
def cK:w4:=⟨[.val .int],[.bool],false,fun _=>[],fun d=>(U.share d.1,())⟩
def UI:Prop:=∀(d:Int×Unit),(wa d.1 (0:Int) (100:Int),())=(U.share d.1,())
def mf:w4:=⟨[.val (.slice tNo),.fn [tNo] [.bool]],[.int],false,fun d=>[∀g∈d.1,wC (d.2.1.pre (g,()))],fun d=>(gN (wc (α:=NoD) d.2.1.F) d.1,())⟩
def mg:Ann:=fun r=>match r with
 |2=>some fun σ=>{X:=Nat,sl:=fun i=>[(8,.dat .int (i:Int))],ob:=fun _=>[],inv:=fun i=>i<=(gd (.slice tNo) σ 0).length/\∀b:Nat,b<i->wc (gfb tNo σ 1) (nth (gd (.slice tNo) σ 0) b)=false,mu:=fun i=>(gd (.slice tNo) σ 0).length-i}
 |_=>none
def mh:Prop:=∀(d:List (Int×Int×Unit)×FnD [tNo] [Ty.bool]×Unit),(∀(g:Int×Int×Unit),g∈d.1->wC (d.2.1.1 (g,())))->d.1.length<4611686018427387904->(∃(x:Nat),((0=(x:Int)/\True)/\True)/\x<=d.1.length/\∀(b:Nat),b<x->wc d.2.1.2 (nth d.1 b)=false)/\∀(x:Nat),(x<=d.1.length/\∀(b:Nat),b<x->wc d.2.1.2 (nth d.1 b)=false)->(decide ((x:Int)<d.1.length)=true->0<=(x:Int)/\(x:Int)<d.1.length/\asks (d.2.1.1 (nth d.1 x,())) (((d.2.1.2 (nth d.1 x,())).1=true->((x:Int),())=(gN (wc d.2.1.2) d.1,()))/\((d.2.1.2 (nth d.1 x,())).1=false->wl ((x:Int)+1)/\∃(a:Nat),(((x:Int)+1=(a:Int)/\True)/\True)/\(a<=d.1.length/\∀(b:Nat),b<a->wc d.2.1.2 (nth d.1 b)=false)/\d.1.length-a<d.1.length-x)))/\(decide ((x:Int)<d.1.length)=false->((-1:Int),())=(gN (wc d.2.1.2) d.1,()))
def oX:w4:=⟨[.val (.slice tCa),.fn [tCa] [.bool]],[.int],false,fun d=>[∀g∈d.1,wC (d.2.1.pre (g,()))],fun d=>(gN (wc (α:=CaD) d.2.1.F) d.1,())⟩
def oY:Ann:=fun r=>match r with
 |2=>some fun σ=>{X:=Nat,sl:=fun i=>[(8,.dat .int (i:Int))],ob:=fun _=>[],inv:=fun i=>i<=(gd (.slice tCa) σ 0).length/\∀b:Nat,b<i->wc (gfb tCa σ 1) (nth (gd (.slice tCa) σ 0) b)=false,mu:=fun i=>(gd (.slice tCa) σ 0).length-i}
 |_=>none
def oZ:Prop:=∀(d:List CaD×FnD [tCa] [Ty.bool]×Unit),(∀(g:CaD),g∈d.1->wC (d.2.1.1 (g,())))->d.1.length<4611686018427387904->(∃(x:Nat),((0=(x:Int)/\True)/\True)/\x<=d.1.length/\∀(b:Nat),b<x->wc d.2.1.2 (nth d.1 b)=false)/\∀(x:Nat),(x<=d.1.length/\∀(b:Nat),b<x->wc d.2.1.2 (nth d.1 b)=false)->(decide ((x:Int)<d.1.length)=true->0<=(x:Int)/\(x:Int)<d.1.length/\asks (d.2.1.1 (nth d.1 x,())) (((d.2.1.2 (nth d.1 x,())).1=true->((x:Int),())=(gN (wc d.2.1.2) d.1,()))/\((d.2.1.2 (nth d.1 x,())).1=false->wl ((x:Int)+1)/\∃(a:Nat),(((x:Int)+1=(a:Int)/\True)/\True)/\(a<=d.1.length/\∀(b:Nat),b<a->wc d.2.1.2 (nth d.1 b)=false)/\d.1.length-a<d.1.length-x)))/\(decide ((x:Int)<d.1.length)=false->((-1:Int),())=(gN (wc d.2.1.2) d.1,()))
def lw:w4:=⟨[.val (.slice tCa),.fn [tCa] [.bool]],[.bool],false,fun d=>[∀g∈d.1,wC (d.2.1.pre (g,()))],fun d=>(d.1.any (wc (α:=CaD) d.2.1.F),())⟩
def lx:Prop:=∀(d:List CaD×FnD [tCa] [Ty.bool]×Unit),(∀(g:CaD),g∈d.1->wC (d.2.1.1 (g,())))->(∀(g:CaD),g∈d.1->wC (d.2.1.1 (g,())))/\(decide (0<=gN (wc d.2.1.2) d.1),())=(d.1.any (wc d.2.1.2),())
def Bo:w4:=⟨[.val .int,.rfn [.int] [.bool]],[.bool],false,fun d=>[wC (d.2.1.pre (d.1,()))],fun d=>(!(wc (α:=Int) d.2.1.F d.1),())⟩
def Bp:Prop:=∀(d:Int×FnD [Ty.int] [Ty.bool]×Unit),wC (d.2.1.1 (d.1,()))->asks (d.2.1.1 (d.1,())) ((!(d.2.1.2 (d.1,())).1,())=(!wc d.2.1.2 d.1,()))
def eI:w4:=⟨[.val (.slice .int),.fn [.int] [.bool]],[.bool],false,fun d=>[∀g∈d.1,wC (d.2.1.pre (g,()))],fun d=>(d.1.all (wc (α:=Int) d.2.1.F),())⟩
def F7:Prop:=∀(d:List Int×FnD [Ty.int] [Ty.bool]×Unit),(∀(g:Int),g∈d.1->wC (d.2.1.1 (g,())))->(∀(g:Int),g∈d.1->wC [wC (d.2.1.1 (g,()))])/\(!d.1.any (wc fun(a:Int×Unit)=>(!wc d.2.1.2 a.1,())),())=(d.1.all (wc d.2.1.2),())
def xL:w4:=⟨[.val tCa,.rfn [tCa] [.bool]],[.bool],false,fun d=>[wC (d.2.1.pre (d.1,()))],fun d=>(!(wc (α:=CaD) d.2.1.F d.1),())⟩
def xM:Prop:=∀(d:CaD×FnD [tCa] [Ty.bool]×Unit),wC (d.2.1.1 (d.1,()))->asks (d.2.1.1 (d.1,())) ((!(d.2.1.2 (d.1,())).1,())=(!wc d.2.1.2 d.1,()))
def Ez:w4:=⟨[.val (.slice tCa),.fn [tCa] [.bool]],[.bool],false,fun d=>[∀g∈d.1,wC (d.2.1.pre (g,()))],fun d=>(d.1.all (wc (α:=CaD) d.2.1.F),())⟩
def EA:Prop:=∀(d:List CaD×FnD [tCa] [Ty.bool]×Unit),(∀(g:CaD),g∈d.1->wC (d.2.1.1 (g,())))->(∀(g:CaD),g∈d.1->wC [wC (d.2.1.1 (g,()))])/\(!d.1.any (wc fun(a:CaD×Unit)=>(!wc d.2.1.2 a.1,())),())=(d.1.all (wc d.2.1.2),())
def ME:w4:=⟨[.val tCa,.ref .int],[.bool],false,fun d=>[0<=d.2.1,d.2.1<=4611686018427387904],fun d=>(Zi d.2.1 d.1,())⟩
def MF:Prop:=∀(d:CaD×Int×Unit),0<=d.2.1->d.2.1<=4611686018427387904->(wa d.1.1 (0:Int) 99=true->wl (d.2.1-1))/\(wa d.1.1 (0:Int) (99:Int)&&wa d.1.2.1 (0:Int) (d.2.1-1)&&wa d.1.2.2.1 (-100000:Int) (1440:Int),())=(Zi d.2.1 d.1,())
def MG:w4:=⟨[.val .int],[.bool],false,fun _=>[],fun d=>(No d.1,())⟩
def MH:Prop:=∀(d:Int×Unit),(wa d.1 (0:Int) (20:Int),())=(No d.1,())
def MI:w4:=⟨[.val .int],[.bool],false,fun _=>[],fun d=>(AH d.1,())⟩
def MJ:Prop:=∀(d:Int×Unit),(wa d.1 (0:Int) (300:Int),())=(AH d.1,())
def jdG:w4:=⟨[.val .int,.val .int],[.int],false,fun d=>[0<=d.1,0<d.2.1,d.1<=4611686018427387904,d.2.1<=1000000000],fun d=>(U.up d.1 d.2.1,())⟩
def jdH:Prop:=∀(d:Int×Int×Unit),0<=d.1->0<d.2.1->d.1<=4611686018427387904->d.2.1<=1000000000->wl (d.1+d.2.1)/\wl (d.1+d.2.1-1)/\d.2.1≠0/\wl ((d.1+d.2.1-1).tdiv d.2.1)/\((d.1+d.2.1-1).tdiv d.2.1,())=(U.up d.1 d.2.1,())
def Qc:w4:=⟨[.val tBo],[.bool],false,fun _=>[],fun _=>(true,())⟩
def Qd:Prop:=∀(_:BoD×Unit),(true,())=(true,())
def ul:w4:=⟨[.val tBo,.val .int],[.bool],false,fun d=>[(wm (wq (bH d.1))).length<=100],fun d=>(q6 d.1 d.2.1,())⟩
def um:Prop:=∀(d:BoD×Int×Unit),(wm (wq (bH d.1))).length<=100->d.1.1.1.2.2.1.length<4611686018427387904->wl ((d.1.1.1.2.2.1.length:Int)-1)/\(wa d.2.1 (0:Int) ((d.1.1.1.2.2.1.length:Int)-1),())=(q6 d.1 d.2.1,())
def EB:w4:=⟨[.ref tBl],[.int],false,fun d=>[GF d.1],fun d=>(ae d.1,())⟩
abbrev jkN (d:BlD×Unit):=(min d.1.1.2.2.2.1 d.1.2.1.q4.1-d.1.1.2.2.1)
abbrev jkO (d:BlD×Unit):=(d.1.1.2.2.2.1-max d.1.1.2.2.1 d.1.2.1.2.2.2.1)
def EC:Prop:=∀(d:BlD×Unit),GF d.1->wl (jkO d)/\wl (jkN d)/\wl (max (0:Int) (jkO d)+max (0:Int) (jkN d))/\(max (0:Int) (jkO d)+max (0:Int) (jkN d),())=(ae d.1,())
def Bq:vq:=⟨[.own blS true,.val .int],[],fun d=>[GF (vS d.1),0<=d.2.1,d.2.1<=300],fun d=>((),(blX d.1 (cv (vS d.1)) (dx d.2.1 (vS d.1)) (uP (vS d.1)) (sw (vS d.1)),()))⟩
abbrev jiv (d:XbD×Int×Unit):=(d.1.q4.q4.1-d.1.q4.2.2.2.1)
abbrev jif (d:XbD×Int×Unit):=(U.up (jiv d) d.1.q4.q4.2.1)
abbrev jhC (d:XbD×Int×Unit):=d.1.q4.q4.2.2.2.1
abbrev jhu (d:XbD×Int×Unit):=d.1.q4.q4.2.2.1
abbrev jiw (d:XbD×Int×Unit):=d.1.q4.q4.q4.2.2.1
abbrev jiU (d:XbD×Int×Unit):=d.1.q4.q4.q4.2.2.2.1
abbrev jj6 (d:XbD×Int×Unit):=d.1.q4.q4.q4.q4.q4.2.1
abbrev jhv (d:XbD×Int×Unit):=((jj6 d).length:Int)
abbrev jkP (d:XbD×Int×Unit):=d.1.q4.q4.q4.q4.q4.1
abbrev jkQ (d:XbD×Int×Unit):=d.1.q4.q4.q4.q4.2.2.2.1
abbrev jj7 (d:XbD×Int×Unit):=(((d.1.1,d.1.2.1,d.1.2.2.1,d.1.2.2.2.1,d.1.q4.1,d.1.q4.2.1,()),d.1.q4.2.2.1,d.1.q4.2.2.2.1,d.1.q4.q4.1,()),(d.1.q4.q4.2.1,(jhu d),(jhC d),d.1.q4.q4.q4.1,d.1.q4.q4.q4.2.1,(jiw d),(jiU d),d.1.q4.q4.q4.q4.1,d.1.q4.q4.q4.q4.2.1,d.1.q4.q4.q4.q4.2.2.1,()),(jkQ d),(jkP d),(jj6 d),(jhv d)*(jhu d)*max (jhC d) (jif d),d.1.q4.q4.q4.q4.q4.2.2.2)
abbrev jkR (d:XbD×Int×Unit):=((jhv d)*(jhu d)*max (jhC d) (jif d)*(jiw d)*ae (jj7 d))
def Br:Prop:=∀(d:XbD×Int×Unit),GF (vS d.1)->0<=d.2.1->d.2.1<=300->wl (jiv d)/\wl ((jhv d)*(jhu d))/\0<=d.1.q4.q4.1-d.1.q4.2.2.2.1/\0<d.1.q4.q4.2.1/\d.1.q4.q4.1-d.1.q4.2.2.2.1<=4611686018427387904/\d.1.q4.q4.2.1<=1000000000/\wl ((jhv d)*(jhu d)*max (jhC d) (jif d))/\wl ((jhv d)*(jhu d)*max (jhC d) (jif d)*(jiw d))/\GF (jj7 d)/\wl (jkR d)/\wl ((100:Int)*(jiv d))/\0<=(jhv d)*(jhu d)*max (jhC d) (jif d)*(jiw d)*ae (jj7 d)/\(0:Int)<100*(jiv d)/\(jhv d)*(jhu d)*max (jhC d) (jif d)*(jiw d)*ae (jj7 d)<=4611686018427387904/\(100:Int)*(jiv d)<=1000000000/\wl ((jhv d)*(jhu d)*max (jhC d) (jif d)+U.up (jkR d) ((100:Int)*(jiv d)))/\wl ((jhv d)*(jiU d))/\wl ((jhv d)*(jiU d)*d.2.1)/\()=()/\((d.1.1,d.1.2.1,d.1.2.2.1,d.1.2.2.2.1,d.1.q4.1,d.1.q4.2.1,d.1.q4.2.2.1,d.1.q4.2.2.2.1,d.1.q4.q4.1,d.1.q4.q4.2.1,(jhu d),(jhC d),d.1.q4.q4.q4.1,d.1.q4.q4.q4.2.1,(jiw d),(jiU d),d.1.q4.q4.q4.q4.1,d.1.q4.q4.q4.q4.2.1,d.1.q4.q4.q4.q4.2.2.1,(jkQ d),(jkP d),(jj6 d),(jhv d)*(jhu d)*max (jhC d) (jif d)+U.up (jkR d) ((100:Int)*(jiv d)),(jhv d)*(jiU d)*d.2.1,d.1.q4.q4.q4.q4.q4.q4),())=((d.1.1,d.1.2.1,d.1.2.2.1,d.1.2.2.2.1,d.1.q4.1,d.1.q4.2.1,d.1.q4.2.2.1,d.1.q4.2.2.2.1,d.1.q4.q4.1,d.1.q4.q4.2.1,(jhu d),(jhC d),d.1.q4.q4.q4.1,d.1.q4.q4.q4.2.1,(jiw d),(jiU d),d.1.q4.q4.q4.q4.1,d.1.q4.q4.q4.q4.2.1,d.1.q4.q4.q4.q4.2.2.1,(jkQ d),(jkP d),(jj6 d),cv (vS d.1),dx d.2.1 (vS d.1),uP (vS d.1),sw (vS d.1),()),())
def F8:vq:=⟨[.own blS true,.val .int],[],fun _=>[],fun d=>((),(blX d.1 (su (vS d.1)) (GD (vS d.1)) (Zg d.2.1 (vS d.1)) (Zh d.2.1 (vS d.1)),()))⟩
abbrev jlG (d:XbD×Int×Unit):=((d.1.1,d.1.2.1,d.1.2.2.1,d.1.2.2.2.1,d.1.q4.1,d.1.q4.2.1,d.1.q4.2.2.1,d.1.q4.2.2.2.1,d.1.q4.q4.1,d.1.q4.q4.2.1,d.1.q4.q4.2.2.1,d.1.q4.q4.2.2.2.1,d.1.q4.q4.q4.1,d.1.q4.q4.q4.2.1,d.1.q4.q4.q4.2.2.1,d.1.q4.q4.q4.2.2.2.1,d.1.q4.q4.q4.q4.1,d.1.q4.q4.q4.q4.2.1,d.1.q4.q4.q4.q4.2.2.1,d.1.q4.q4.q4.q4.2.2.2.1,d.1.q4.q4.q4.q4.q4.1,d.1.q4.q4.q4.q4.q4.2.1,su (vS d.1),GD (vS d.1),Zg d.2.1 (vS d.1),Zh d.2.1 (vS d.1),()),())
abbrev jlH (d:XbD×Int×Unit):=(decide (d.2.1<=d.1.q4.2.2.2.1)&&(!d.1.q4.q4.q4.q4.q4.q4.1||decide (d.2.1<d.1.q4.q4.q4.q4.q4.q4.2.1)))
def F9:Prop:=∀(d:XbD×Int×Unit),((jlH d)=true->()=()/\((d.1.1,d.1.2.1,d.1.2.2.1,d.1.2.2.2.1,d.1.q4.1,d.1.q4.2.1,d.1.q4.2.2.1,d.1.q4.2.2.2.1,d.1.q4.q4.1,d.1.q4.q4.2.1,d.1.q4.q4.2.2.1,d.1.q4.q4.2.2.2.1,d.1.q4.q4.q4.1,d.1.q4.q4.q4.2.1,d.1.q4.q4.q4.2.2.1,d.1.q4.q4.q4.2.2.2.1,d.1.q4.q4.q4.q4.1,d.1.q4.q4.q4.q4.2.1,d.1.q4.q4.q4.q4.2.2.1,d.1.q4.q4.q4.q4.2.2.2.1,d.1.q4.q4.q4.q4.q4.1,d.1.q4.q4.q4.q4.q4.2.1,d.1.q4.q4.q4.q4.q4.2.2.1,d.1.q4.q4.q4.q4.q4.2.2.2.1,true,d.2),())=(jlG d))/\((jlH d)=false->()=()/\(d.1,())=(jlG d))
def Bs:w4:=⟨[.val tNo,.ref tBl],[.bool],false,fun d=>[GF d.2.1],fun d=>(ir d.2.1 d.1,())⟩
def Bt:Prop:=∀(d:(Int×Int×Unit)×BlD×Unit),GF d.2.1->wl (d.2.1.1.2.2.1-d.2.1.q4.q4.1)/\(decide (d.1.1<=d.2.1.1.2.2.1-d.2.1.q4.q4.1),())=(ir d.2.1 d.1,())
def Ga:w4:=⟨[.val tBl],[tLn],false,fun d=>[sk d.1],fun d=>(vA d.1,())⟩
abbrev jjr (d:BlD×Unit):=(wc fun(a:(Int×Int×Unit)×Unit)=>(ir d.1 a.1,()))
abbrev jhU (d:BlD×Unit):=d.1.2.1.q4.2.2.2.1
abbrev jig (d:BlD×Unit):=d.1.2.1.q4.q4.2.1
abbrev jkS (d:BlD×Unit):=(nth (jig d) (gN (jjr d) (jig d)).toNat)
abbrev jhj (d:BlD×Unit):=d.1.q4.2.1
abbrev jjs (d:BlD×Unit):=(((jhj d)+d.1.q4.2.2.1)*nth d.1.2.1.q4.q4.1 d.1.1.1.q4.1.toNat)
abbrev jjt (d:BlD×Unit):=(((jhj d)+0)*nth d.1.2.1.q4.q4.1 d.1.1.1.q4.1.toNat)
abbrev jix (d:BlD×Unit):=((jhj d)*(jkS d).2.1)
abbrev jju (d:BlD×Unit):=((U.up (jix d) (100:Int)+0)*nth d.1.2.1.q4.q4.1 d.1.1.1.q4.1.toNat)
abbrev jkT (d:BlD×Unit):=(d.1.2.1.q4.q4.1.length:Int)
def Gb:Prop:=∀(d:BlD×Unit),sk d.1->(d.1.q4.2.2.2.1=true->(∀(g:Int×Int×Unit),g∈(jig d)->wC [GF d.1])/\(decide (0<=gN (jjr d) (jig d))=true->0<=gN (jjr d) (jig d)/\gN (jjr d) (jig d)<((jig d).length:Int)/\wl (jix d)/\0<=(jhj d)*(jkS d).2.1/\(0:Int)<100/\(jhj d)*(jkS d).2.1<=4611686018427387904/\(100:Int)<=1000000000/\wl (U.up (jix d) (100:Int)+0)/\0<=d.1.1.1.q4.1/\d.1.1.1.q4.1<(jkT d)/\wl (jju d)/\(100:Int)≠0/\wl ((jju d).tdiv (100:Int))/\wl (U.up (jix d) (100:Int)+0)/\wl (U.up (jix d) (100:Int)+0-min (jhU d) ((jju d).tdiv (100:Int)))/\((d.1.2.2.2.1,d.1.2.2.1,U.up (jix d) (100:Int),(0:Int),min (jhU d) ((jju d).tdiv (100:Int)),U.up (jix d) (100:Int)+0-min (jhU d) ((jju d).tdiv (100:Int)),()),())=(vA d.1,()))/\(decide (0<=gN (jjr d) (jig d))=false->wl ((jhj d)+0)/\0<=d.1.1.1.q4.1/\d.1.1.1.q4.1<(jkT d)/\wl (jjt d)/\(100:Int)≠0/\wl ((jjt d).tdiv (100:Int))/\wl ((jhj d)+0)/\wl ((jhj d)+0-min (jhU d) ((jjt d).tdiv (100:Int)))/\((d.1.2.2.2.1,d.1.2.2.1,(jhj d),(0:Int),min (jhU d) ((jjt d).tdiv (100:Int)),(jhj d)+0-min (jhU d) ((jjt d).tdiv (100:Int)),()),())=(vA d.1,())))/\(d.1.q4.2.2.2.1=false->wl ((jhj d)+d.1.q4.2.2.1)/\0<=d.1.1.1.q4.1/\d.1.1.1.q4.1<(jkT d)/\wl (jjs d)/\(100:Int)≠0/\wl ((jjs d).tdiv (100:Int))/\wl ((jhj d)+d.1.q4.2.2.1)/\wl ((jhj d)+d.1.q4.2.2.1-min (jhU d) ((jjs d).tdiv (100:Int)))/\((d.1.2.2.2.1,d.1.2.2.1,(jhj d),d.1.q4.2.2.1,min (jhU d) ((jjs d).tdiv (100:Int)),(jhj d)+d.1.q4.2.2.1-min (jhU d) ((jjs d).tdiv (100:Int)),()),())=(vA d.1,()))
def Bu:w4:=⟨[.val tBl,.val .int],[.int],false,fun d=>[sk d.1,-100000<=d.2.1,d.2.1<=1440],fun d=>(av d.2.1 d.1,())⟩
abbrev jj8 (d:BlD×Int×Unit):=(vS (d.1.1.1.1,d.1.1.1.2.1,d.1.1.1.2.2.1,d.1.1.1.2.2.2.1,d.1.1.1.q4.1,d.1.1.1.q4.2.1,d.1.1.2.1,d.1.1.2.2.1,d.1.1.2.2.2.1,d.1.2.1.1,d.1.2.1.2.1,d.1.2.1.2.2.1,d.1.2.1.2.2.2.1,d.1.2.1.q4.1,d.1.2.1.q4.2.1,d.1.2.1.q4.2.2.1,d.1.2.1.q4.2.2.2.1,d.1.2.1.q4.q4.1,d.1.2.1.q4.q4.2.1,d.1.2.2))
abbrev jlI (d:BlD×Int×Unit):=(d.1.1,d.1.2.1,d.1.2.2.1,d.1.2.2.2.1,d.1.q4.1,su (jj8 d),GD (jj8 d),Zg d.2.1 (jj8 d),Zh d.2.1 (jj8 d),())
def Bv:Prop:=∀(d:BlD×Int×Unit),sk d.1->(-100000:Int)<=d.2.1->d.2.1<=1440->sk (jlI d)/\(vA (jlI d)).q4.2=(av d.2.1 d.1,())
theorem UJ:Qb:=fun _=>rfl
theorem y6:w9 PR 37 bC:=wT UJ Tryz.func37 kcN koN
theorem Yp:UI:=fun _=>rfl
theorem HH:w9 PR 87 cK:=wT Yp Tryz.func87 (kcC y6 kcN) koN
theorem nK:mh:=by
 rintro⟨l,f,⟨⟩⟩ a g;refine⟨⟨0,⟨⟨rfl,tZ⟩,tZ⟩,jl _,fun b c=>by omega⟩,fun i hi=>⟨fun h=> ?_,fun h=> ?_⟩⟩;have h:i<l.length:=(by simpa using h);simp only at*;refine⟨by omega,by omega,yj _ (a _ (L.wh h)) ⟨fun c=> ?_,fun c=>⟨iZ6,i+1,⟨⟨by simp,tZ⟩,tZ⟩,⟨by omega,fun b d=> ?_⟩,by omega⟩⟩⟩;rw[yI (p:=wc (α:=NoD) f.F) h hi.2 c];by_cases e:b=i;subst e;exact c;exact hi.2 b (by omega);have h:l.length<=i:=(by simpa using h);rw[vu (p:=wc (α:=NoD) f.F) h hi.2]
theorem mj:w9 PR 70 mf:=vb mg nK Tryz.func70 kcN koN
theorem sa:oZ:=by
 rintro⟨l,f,⟨⟩⟩ a g;refine⟨⟨0,⟨⟨rfl,tZ⟩,tZ⟩,jl _,fun b c=>by omega⟩,fun i hi=>⟨fun h=> ?_,fun h=> ?_⟩⟩;have h:i<l.length:=(by simpa using h);simp only at*;refine⟨by omega,by omega,yj _ (a _ (L.wh h)) ⟨fun c=> ?_,fun c=>⟨iZ6,i+1,⟨⟨by simp,tZ⟩,tZ⟩,⟨by omega,fun b d=> ?_⟩,by omega⟩⟩⟩;rw[yI (p:=wc (α:=CaD) f.F) h hi.2 c];by_cases e:b=i;subst e;exact c;exact hi.2 b (by omega);have h:l.length<=i:=(by simpa using h);rw[vu (p:=wc (α:=CaD) f.F) h hi.2]
theorem o4:w9 PR 134 oX:=vb oY sa Tryz.func134 kcN koN
theorem ml:lx:=by
 rintro⟨l,f,⟨⟩⟩ a;refine⟨a,?_⟩;exact jD (·,()) (i8 (wc (α:=CaD) f.F) l)
theorem ly:w9 PR 89 lw:=wT ml Tryz.func89 (kcC o4 kcN) koN
theorem ED:Bp:=by
 intro d h;exact yj _ h rfl
theorem Bw:w9 PR 85 Bo:=wT ED Tryz.func85 kcN koN
theorem Ju:F7:=by
 intro d h;exact⟨fun g a=>⟨h g a,tZ⟩,jD (·,()) (tE d.snd.fst.2 d.fst)⟩
theorem po:w9 PR 52 eI:=wT Ju Tryz.func52 (kcC gm (kcC Bw kcN)) koN
theorem Bz:xM:=by
 intro d h;exact yj _ h rfl
theorem xN:w9 PR 90 xL:=wT Bz Tryz.func90 kcN koN
theorem Gc:EA:=by
 intro d h;exact⟨fun g a=>⟨h g a,tZ⟩,jD (·,()) (tE d.snd.fst.2 d.fst)⟩
theorem EE:w9 PR 56 Ez:=wT Gc Tryz.func56 (kcC ly (kcC xN kcN)) koN
theorem Qe:MF:=by
 rintro⟨c,m,⟨⟩⟩ a b;have a:0<=m:=a;have b:m<=4611686018427387904:=b;exact⟨fun _=>L.GM (by show _<=m-1;omega) (by show m-1<=_;omega),rfl⟩
theorem MK:w9 PR 51 ME:=wT Qe Tryz.func51 (kcC y6 kcN) koN
theorem Qf:MH:=fun _=>rfl
theorem ML:w9 PR 53 MG:=wT Qf Tryz.func53 (kcC y6 kcN) koN
theorem Qg:MJ:=fun _=>rfl
theorem MM:w9 PR 54 MI:=wT Qg Tryz.func54 (kcC y6 kcN) koN
theorem jb4:jdH:=by
 rintro⟨a,b,⟨⟩⟩ c d e f;have c:0<=a:=c;have d:0<b:=d;have e:a<=4611686018427387904:=e;have f:b<=1000000000:=f;have g:=MC c d;refine⟨L.GM (by show _<=a+b;omega) (by show a+b<=_;omega),L.GM (by show _<=a+b-1;omega) (by show a+b-1<=_;omega),by show b≠0;omega,Er (x:=U.up a b) (B:=4611686018427387904) ⟨g.1,by omega⟩ (by omega),rfl⟩
theorem Yq:w9 PR 72 jdG:=wT jb4 Tryz.func72 kcN koN
theorem UK:Qd:=fun _=>rfl
theorem EF:w9 PR 59 Qc:=wT UK Tryz.func59 kcN koN
theorem xO:um:=by
 intro d a b;have a:(wm (wq (bH d.1))).length<=100:=a;exact⟨L.GM (by show _<=((wm (wq (bH d.1))).length:Int)-1;omega) (by show((wm (wq (bH d.1))).length:Int)-1<=_;omega),rfl⟩
theorem aT:w9 PR 36 ul:=wT xO Tryz.func36 (kcC y6 kcN) koN
theorem Gd:EC:=by
 unfold EC jkO jkN Prod.q4;rintro⟨b,⟨⟩⟩ a;have h:Es b:=ui.1 a;have d:=h.st;have e:=h.en;have f:=h.e2;have g:=h.ta.dk;have i:=h.ta.dw;have c:=Sc h;refine⟨?_,?_,Er (B:=2880) c (by omega),rfl⟩;show wl (gH (vJ b)-max (qh (vJ b)) (jbt (au b)));exact iZ6;show wl (min (gH (vJ b)) (jec (au b))-qh (vJ b));exact iZ6
theorem EG:w9 PR 108 EB:=wT Gd Tryz.func108 kcN koN
theorem EH:Br:=by
 unfold Br jkR jj7 jkQ jkP jhv jj6 jiU jiw jhu jhC jif jiv Prod.q4;intro d k v w;obtain⟨b,B⟩:∃b,b=vS d.1:=⟨_,rfl⟩;have h:Es (vS d.1):=ui.1 k;have x:=h.st;have y:=h.en;have z:=h.e2;have A:=h.ta.un;have l:=jfj h;have j:=jb3 h;have m:=Yk h;have n:wl (gH (vJ (vS d.1))-qh (vJ (vS d.1))):=iZ6;have e2:0<=gH (vJ (vS d.1))-qh (vJ (vS d.1)):=(by omega);have o:0<QV (au (vS d.1)):=(by omega);have p:gH (vJ (vS d.1))-qh (vJ (vS d.1))<=4611686018427387904:=(by omega);have q:QV (au (vS d.1))<=1000000000:=(by omega);have r:wl (100*(gH (vJ (vS d.1))-qh (vJ (vS d.1)))):=iZ6;have s:100*(gH (vJ (vS d.1))-qh (vJ (vS d.1)))<=1000000000:=(by omega);have t:wl (cv (vS d.1)):=Er m (by omega);have u:wl (dx d.2.1 (vS d.1)):=Er (Yl h ⟨v,w⟩) (by omega);have a:=Er (jfh h) (by omega);have c:=Er (P9 h) (by omega);have e:=Er (jfi h) (by omega);have f:=Er j (by omega);have g:nW (vS d.1)*GC (au (vS d.1))*ae (vS d.1)<=4611686018427387904:=(by omega);have i:=Er (jfl h) (by omega);exact⟨n,a,e2,o,p,q,c,e,k,f,r,j.1,l.1,g,s,t,i,u,rfl,rfl⟩
theorem BA:ax PR 68 Bq:=DA EH Tryz.func68 (kcC Yq (kcC EG kcN)) koN
theorem Qh (m:Int) (b:BlD):aa m b=(vJ b,au b,QX b,NF b,vf b,su b,GD b,Zg m b,Zh m b,()):=by
 unfold Zg Zh aa
 split
 rfl;rfl
theorem Jv:F9:=by
 unfold F9 jlH jlG Prod.q4;intro d;have a:(decide (d.2.1<=qh (vJ (vS d.1)))&&(!uP (vS d.1)||decide (d.2.1<sw (vS d.1))))=true↔(d.2.1<=qh (vJ (vS d.1))/\(uP (vS d.1)=false\/d.2.1<sw (vS d.1))):=by
  simp only[ji,zt,jp,jX]
 refine⟨fun h=>⟨rfl,?_⟩,fun h=>⟨rfl,?_⟩⟩;have e:aa d.2.1 (vS d.1)=(vJ (vS d.1),au (vS d.1),QX (vS d.1),NF (vS d.1),vf (vS d.1),su (vS d.1),GD (vS d.1),true,d.2.1,()):=by
  unfold aa;rw[je (a.1 h)]
 have b:Zg d.2.1 (vS d.1)=true:=jD uP e;have e2:Zh d.2.1 (vS d.1)=d.2.1:=jD sw e;rw[b,e2];rfl;have h:(decide (d.2.1<=qh (vJ (vS d.1)))&&(!uP (vS d.1)||decide (d.2.1<sw (vS d.1))))=false:=h;have e:aa d.2.1 (vS d.1)=vS d.1:=by
  unfold aa;rw[jd (fun c=>by rw[a.2 c] at h;cases h)]
 have b:Zg d.2.1 (vS d.1)=uP (vS d.1):=jD uP e;have e2:Zh d.2.1 (vS d.1)=sw (vS d.1):=jD sw e;rw[b,e2];rfl
theorem pq:ax PR 69 F8:=DA Jv Tryz.func69 kcN koN
theorem EI:Bt:=by
 unfold Bt Prod.q4;rintro⟨n,b,⟨⟩⟩ a;have h:Es b:=ui.1 a;have c:=h.st;have d:=h.en;have e:=h.e2;have f:=h.mi;refine⟨?_,rfl⟩;show wl (qh (vJ b)-sw b);exact iZ6
theorem BB:w9 PR 71 Bs:=wT EI Tryz.func71 kcN koN
theorem Jw:Gb:=by
 unfold Gb jkT jju jix jjt jjs jhj jkS jig jhU jjr Prod.q4;rintro⟨b,⟨⟩⟩ m;have h:Kh b:=bL.1 m;have hk:=h.bl.kd;have k:ct (gg (vJ b))<((bn (au b)).length:Int):=(by have:=Ym h.bl;omega);have l:=Yn h.bl;have j:=h.bl.ta.cp;refine⟨fun a=>⟨fun g _=>⟨m.1,tZ⟩,fun hi=> ?_,fun hi=> ?_⟩,fun a=> ?_⟩;have hi:0<=Vm b:=ja hi;obtain⟨o,p,_⟩:=Et hi;have f:=Sd h o;have n:=MC (b:=100) f.1 (by omega);have d:qR b=U.up (su b*Zq (nth (aB (au b)) (Vm b).toNat)) 100:=je ⟨a,hi⟩;have c:vn b=0:=je a;refine⟨hi,p,Er f (by omega),f.1,by decide,kY f.2 (by decide),by decide,?_⟩;refine Eu (w:=U.up (su b*Zq (nth (aB (au b)) (Vm b).toNat)) 100) (t:=0) (cp:=Nn (au b)) (pc:=nth (bn (au b)) (ct (gg (vJ b))).toNat) ⟨n.1,kY n.2 f.2⟩ ⟨by omega,by omega⟩ j l hk.1 k ?_;have e:vA b=(NF b,QX b,qR b,vn b,min (Nn (au b)) (((qR b+vn b)*nth (bn (au b)) (ct (gg (vJ b))).toNat).tdiv 100),qR b+vn b-min (Nn (au b)) (((qR b+vn b)*nth (bn (au b)) (ct (gg (vJ b))).toNat).tdiv 100),()):=rfl;rw[d,c] at e;show _=(vA b,());rw[e];rfl;have hi:¬0<=Vm b:=jc hi;have d:qR b=su b:=jd (fun i=>hi i.2);have c:vn b=0:=je a;refine Eu (w:=su b) (t:=0) (cp:=Nn (au b)) (pc:=nth (bn (au b)) (ct (gg (vJ b))).toNat) ⟨h.wk.1,by have:=h.wk.2;omega⟩ ⟨by omega,by omega⟩ j l hk.1 k ?_;have e:vA b=(NF b,QX b,qR b,vn b,min (Nn (au b)) (((qR b+vn b)*nth (bn (au b)) (ct (gg (vJ b))).toNat).tdiv 100),qR b+vn b-min (Nn (au b)) (((qR b+vn b)*nth (bn (au b)) (ct (gg (vJ b))).toNat).tdiv 100),()):=rfl;rw[d,c] at e;show _=(vA b,());rw[e];rfl;have a:uP b=false:=a;have d:qR b=su b:=jd (fun i=>by rw[a] at i;cases i.1);have c:vn b=GD b:=jd (by rw[a];decide);refine Eu (w:=su b) (t:=GD b) (cp:=Nn (au b)) (pc:=nth (bn (au b)) (ct (gg (vJ b))).toNat) ⟨h.wk.1,by have:=h.wk.2;omega⟩ h.tr j l hk.1 k ?_;have e:vA b=(NF b,QX b,qR b,vn b,min (Nn (au b)) (((qR b+vn b)*nth (bn (au b)) (ct (gg (vJ b))).toNat).tdiv 100),qR b+vn b-min (Nn (au b)) (((qR b+vn b)*nth (bn (au b)) (ct (gg (vJ b))).toNat).tdiv 100),()):=rfl;rw[d,c] at e;show _=(vA b,());rw[e];rfl
theorem bM:w9 PR 38 Ga:=wT Jw Tryz.func38 (kcC Yq (kcC mj (kcC BB kcN))) koN
theorem EJ:Bv:=by
 unfold Bv jlI jj8 Prod.q4;rintro⟨b,m,⟨⟩⟩ a c d;have e:=Qh m b;have h:Kh b:=bL.1 a;have hk:=bL.2 (Js (m:=m) h ⟨c,d⟩);refine⟨?_,?_⟩;show sk (vJ b,au b,QX b,NF b,vf b,su b,GD b,Zg m b,Zh m b,());rw[<-e];exact hk;show(vA (vJ b,au b,QX b,NF b,vf b,su b,GD b,Zg m b,Zh m b,())).2.2.2.2.2=_;rw[<-e];rfl
theorem lN:w9 PR 39 Bu:=wT EJ Tryz.func39 (kcC bM kcN) (koC pq koN)
@[irreducible] def jaT (C:Ctx) (A:Ann) (c:Code) (σ:St) (K:Ex->St->Prop):Prop:=vcg C A c σ K
theorem jaU {C:Ctx} {A:Ann} {c:Code} {σ:St} {K:Ex->St->Prop} (h:jaT C A c σ K):vcg C A c σ K:=by unfold jaT at h;exact h
structure FE where
 pre:NoD×Unit->Int->List Prop
 K:NoD×Unit->Int->(Bool×Unit)×Int
namespace U
def aN (K:NoD×Unit->Int->(Bool×Unit)×Int):NoD×Unit->Int->(Bool×Unit)×Int:=fun x s=>((!(K (x.1,()) s).1.1,()),(K (x.1,()) s).2)
def Fe (pre:NoD×Unit->Int->List Prop):NoD×Unit->Int->List Prop:=fun x s=>[wC (pre (x.1,()) s)]
def yw (K:NoD×Unit->Int->(Bool×Unit)×Int):Nat->List NoD->Int->Int×Int
 |_,[],s=>(-1,s)
 |i,n::r,s=>match(K (n,()) s).1.1 with
  |true=>((i:Int),(K (n,()) s).2)
  |false=>yw K (i+1) r (K (n,()) s).2
def dL (pre:NoD×Unit->Int->List Prop) (K:NoD×Unit->Int->(Bool×Unit)×Int):List NoD->Int->Prop
 |[],_=>True
 |n::r,s=>wC (pre (n,()) s)/\((K (n,()) s).1.1=false->dL pre K r (K (n,()) s).2)
def SC:NoD×Unit->Int->(Bool×Unit)×Int:=fun x s=>((Kd s x.1,()),Zp x.1)
def jfz:NoD×Unit->Int->List Prop:=fun _ s=>[-4611686018427387904<=s,s<=4611686018427387904]
end U
def jdI (st:Ty) (ps rs:List Ty) (pre:(Ty.st ps).Data->st.Data->List Prop) (K:(Ty.st ps).Data->st.Data->(Ty.st rs).Data×st.Data):Option FE:=
 if a:st= .int then if b:ps=[tNo] then if c:rs=[.bool] then some ⟨by subst a;subst b;exact pre,by subst a;subst b;subst c;exact K⟩ else none else none else none
def jfL:SV->Option (Nat×FE)
 | .fe false o T st ps rs pre K=>match Nat.beq T 3,jdI st ps rs pre K with
  |true,some y=>some (o,y)
  |_,_=>none
 |_=>none
def jf6 (σ:St) (b:Nat):Option (Nat×FE):=match σ.obj b with
 |some (.box _ _ [c])=>jfL c
 |_=>none
def Yr (σ:St) (o:Nat):Option Int:=match σ.obj o with
 |some (.box T false [c])=>match Nat.beq T 3,gA σ .int c with
  |true,some (s,[])=>some s
  |_,_=>none
 |_=>none
def Ys (σ:St):List SV->Option Out
 |[a,b]=>match gA σ (.slice tNo) a,jfL b with
  |some (l,fz),some (o,y)=>match cw fz o,Yr σ o with
   |false,some s=>some ⟨[dL y.pre y.K l s],[],AJ [.int] ((yw y.K 0 l s).1,()),fz,[(o,some (.box 3 false [.dat .int (yw y.K 0 l s).2]))],[]⟩
   |_,_=>none
  |_,_=>none
 |_=>none
def Yt (σ:St):List SV->Option Out
 |[a,.clo f [.bp b 0]]=>match Nat.beq f 133,gA σ (.slice tNo) a,jf6 σ b with
  |true,some (l,fz),some (o,y)=>match cw (b::fz) o,Yr σ o with
   |false,some s=>some ⟨[dL (Fe y.pre) (aN y.K) l s],[],AJ [.bool] (decide (0<=(yw (aN y.K) 0 l s).1),()),b::fz,[(o,some (.box 3 false [.dat .int (yw (aN y.K) 0 l s).2]))],[]⟩
   |_,_=>none
  |_,_,_=>none
 |_=>none
def jaV (σ:St):List SV->Option Out
 |[a,.clo f [.bp o 0]]=>match Nat.beq f 86,gA σ (.slice tNo) a with
  |true,some (l,fz)=>match cw fz o,Yr σ o with
   |false,some s=>some ⟨[dL (Fe jfz) (aN SC) l s],[],AJ [.bool] (!decide (0<=(yw (aN SC) 0 l s).1),()),fz,[(o,some (.box 3 false [.dat .int (yw (aN SC) 0 l s).2]))],[]⟩
   |_,_=>none
  |_,_=>none
 |_=>none
def jb5 (n:Nat) (fs:List (Nat×w4)) (k:Nat) (e:St->List SV->Option Out):Ctx:=⟨n,ti,fs,fun f _ σ svs=>match Nat.beq f k with|true=>e σ svs|false=>none,strs,false⟩
def eJ:Prop:=∀(n:NoD) (s:Int),-4611686018427387904<=s->s<=4611686018427387904->
 jaT (ctx 18 [(37,bC),(87,cK)] []) (fun _=>none) (qq Tryz.f86) ⟨[(0,.dat tNo n),(1,.bp gU 0)],[(gU,some (.box 3 false [.dat .int s]))]⟩
  (mS (ctx 18 [(37,bC),(87,cK)] []) Tryz.f86 3 .int [.bool] (SC (n,()) s))
def nL:Prop:=∀(n:NoD) (s:Int),(-4611686018427387904:Int)<=s->s<=4611686018427387904->wl (s-1)/\(wa n.1 (0:Int) (s-1)&&U.share n.2.1,())=(SC (n,()) s).1/\n.1=(SC (n,()) s).2
theorem uo:(eJ)=nL:=by kernel_rfl
def aU:Prop:=∀(n:NoD) (y:FE) (s:Int),wC (y.pre (n,()) s)->
 jaT (ctx 8 [] []) (fun _=>none) (qq Tryz.f133) ⟨[(0,.dat tNo n),(1,.fe true gU 3 .int [tNo] [.bool] y.pre y.K)],[(gU,some (.box 3 false [.dat .int s]))]⟩
  (mS (ctx 8 [] []) Tryz.f133 3 .int [.bool] (aN y.K (n,()) s))
def df:Prop:=∀(n:NoD) (y:FE) (s:Int),wC (y.pre (n,()) s)->asks (y.1 (n,()) s) ((!(y.2 (n,()) s).1.1,())=(aN y.2 (n,()) s).1/\(y.2 (n,()) s).2=(aN y.2 (n,()) s).2)
theorem mm:(aU)=df:=by kernel_rfl
def Yu (K:NoD×Unit->Int->(Bool×Unit)×Int) (pre:NoD×Unit->Int->List Prop) (s:Int):Ann:=fun r=>match r with
 |2=>some fun σ=>{X:=Nat×Int,sl:=fun x=>[(8,.dat .int (x.1:Int))],ob:=fun x=>[(gU,some (.box 3 false [.dat .int x.2]))],inv:=fun x=>x.1<=(gd (.slice tNo) σ 0).length/\yw K x.1 ((gd (.slice tNo) σ 0).drop x.1) x.2=yw K 0 (gd (.slice tNo) σ 0) s/\dL pre K ((gd (.slice tNo) σ 0).drop x.1) x.2,mu:=fun x=>(gd (.slice tNo) σ 0).length-x.1}
 |_=>none
def fY:Prop:=∀(l:List NoD) (y:FE) (s:Int),dL y.pre y.K l s->
 jaT (ctx 19 [] []) (Yu y.K y.pre s) (qq Tryz.f70) ⟨[(0,.dat (.slice tNo) l),(1,.fe false gU 3 .int [tNo] [.bool] y.pre y.K)],[(gU,some (.box 3 false [.dat .int s]))]⟩
  (mS (ctx 19 [] []) Tryz.f70 3 .int [.int] (((yw y.K 0 l s).1,()),(yw y.K 0 l s).2))
abbrev jjv (l:List NoD)(x:Nat×Int):=(nth l (x.1:Int).toNat,())
def aj:Prop:=∀(l:List NoD) (y:FE) (s:Int),dL y.pre y.K l s->l.length<4611686018427387904->(∃(x:Nat×Int),((0=(x.1:Int)/\True)/\(s=x.2/\True)/\True)/\x.1<=l.length/\yw y.2 x.1 (List.drop x.1 l) x.2=yw y.2 0 l s/\dL y.1 y.2 (List.drop x.1 l) x.2)/\∀(x:Nat×Int),x.1<=l.length/\yw y.2 x.1 (List.drop x.1 l) x.2=yw y.2 0 l s/\dL y.1 y.2 (List.drop x.1 l) x.2->(decide ((x.1:Int)<l.length)=true->0<=(x.1:Int)/\(x.1:Int)<l.length/\asks (y.1 (jjv l x) x.2) (((y.2 (jjv l x) x.2).1.1=true->((x.1:Int),())=((yw y.2 0 l s).1,())/\(y.2 (jjv l x) x.2).2=(yw y.2 0 l s).2)/\((y.2 (jjv l x) x.2).1.1=false->wl ((x.1:Int)+1)/\∃(a:Nat×Int),(((x.1:Int)+1=(a.1:Int)/\True)/\((y.2 (jjv l x) x.2).2=a.2/\True)/\True)/\(a.1<=l.length/\yw y.2 a.1 (List.drop a.1 l) a.2=yw y.2 0 l s/\dL y.1 y.2 (List.drop a.1 l) a.2)/\l.length-a.1<l.length-x.1)))/\(decide ((x.1:Int)<l.length)=false->((-1:Int),())=((yw y.2 0 l s).1,())/\x.2=(yw y.2 0 l s).2)
theorem cC:(fY)=aj:=by kernel_rfl
def dg:Prop:=∀(l:List NoD) (y:FE) (s:Int),dL y.pre y.K l s->
 jaT (jb5 9 [] 70 Ys) (fun _=>none) (qq Tryz.f132) ⟨[(0,.dat (.slice tNo) l),(1,.fe false gU 3 .int [tNo] [.bool] y.pre y.K)],[(gU,some (.box 3 false [.dat .int s]))]⟩
  (mS (jb5 9 [] 70 Ys) Tryz.f132 3 .int [.bool] ((decide (0<=(yw y.K 0 l s).1),()),(yw y.K 0 l s).2))
def gu:Prop:=∀(l:List NoD) (y:FE) (s:Int),dL y.pre y.K l s->dL y.1 y.2 l s/\(decide (0<=(yw y.2 0 l s).1),())=(decide (0<=(yw y.2 0 l s).1),())/\(yw y.2 0 l s).2=(yw y.2 0 l s).2
theorem bD:(dg)=gu:=by kernel_rfl
def BC:Prop:=∀(l:List NoD) (y:FE) (s:Int),dL (Fe y.pre) (aN y.K) l s->
 jaT (jb5 9 [] 132 Yt) (fun _=>none) (qq Tryz.f88) ⟨[(0,.dat (.slice tNo) l),(1,.fe false gU 3 .int [tNo] [.bool] y.pre y.K)],[(gU,some (.box 3 false [.dat .int s]))]⟩
  (mS (jb5 9 [] 132 Yt) Tryz.f88 3 .int [.bool] ((!decide (0<=(yw (aN y.K) 0 l s).1),()),(yw (aN y.K) 0 l s).2))
def fZ:Prop:=∀(l:List NoD) (y:FE) (s:Int),dL (Fe y.pre) (aN y.K) l s->dL (Fe y.1) (aN y.2) l s/\(!decide (0<=(yw (aN y.2) 0 l s).1),())=(!decide (0<=(yw (aN y.2) 0 l s).1),())/\(yw (aN y.2) 0 l s).2=(yw (aN y.2) 0 l s).2
theorem o6:(BC)=fZ:=by kernel_rfl
def uq:w4:=⟨[.val tTa],[.bool],false,fun _=>[],fun d=>(yB d.1,())⟩
def ur:Ann:=fun r=>match r with
 |3000003=>some fun _=>{X:=Unit,sl:=fun _=>[],ob:=fun _=>[],inv:=fun _=>True,mu:=fun _=>0}
 |_=>none
abbrev jih:=(wc fun(a:Int×Unit)=>(U.share a.1,()))
abbrev jhF (d:TaD×Unit):=((d.1.q4.q4.2.1.length:Int)<=4)
abbrev jii (d:TaD×Unit):=((d.1.q4.q4.1.length:Int)=4)
abbrev jhG (d:TaD×Unit):=d.1.q4.2.2.2.1
abbrev jhw (d:TaD×Unit):=(yB d.1,())
abbrev jhH (d:TaD×Unit):=d.1.q4.2.2.1
def ut:Prop:=∀(d:TaD×Unit),(wa d.1.1 (1:Int) 240=true->wa d.1.1 (1:Int) 240=true/\wa d.1.1 (1:Int) 240=true/\wa d.1.1 (1:Int) 240=true/\(wa d.1.2.1 (0:Int) 10000=true->wa d.1.2.1 (0:Int) 10000=true/\wa d.1.2.1 (0:Int) 10000=true/\wa d.1.2.1 (0:Int) 10000=true/\(wa d.1.2.2.1 (0:Int) 20=true->wa d.1.2.2.1 (0:Int) 20=true/\wa d.1.2.2.1 (0:Int) 20=true/\wa d.1.2.2.1 (0:Int) 20=true/\(wa d.1.2.2.2.1 (0:Int) 1440=true->wa d.1.2.2.2.1 (0:Int) 1440=true/\wa d.1.2.2.2.1 (0:Int) 1440=true/\wa d.1.2.2.2.1 (0:Int) 1440=true/\wa d.1.2.2.2.1 (0:Int) 1440=true/\wa d.1.2.2.2.1 (0:Int) 1440=true/\(wa d.1.q4.1 (0:Int) d.1.2.2.2.1=true->wa d.1.q4.1 (0:Int) d.1.2.2.2.1=true/\wa d.1.q4.1 (0:Int) d.1.2.2.2.1=true/\wa d.1.q4.1 (0:Int) d.1.2.2.2.1=true/\(U.share d.1.q4.2.1=true->U.share d.1.q4.2.1=true/\U.share d.1.q4.2.1=true/\U.share d.1.q4.2.1=true/\(wa (jhH d) (0:Int) 10000=true->wa (jhH d) (0:Int) 10000=true/\wa (jhH d) (0:Int) 10000=true/\(d.1.q4.q4.1.length<4611686018427387904->wa (jhH d) (0:Int) 10000=true/\wa (jhH d) (0:Int) 10000=true/\(decide (jii d)=true->decide (jii d)=true/\decide (jii d)=true/\(∀(g:Int),g∈d.1.q4.q4.1->wC [])/\decide (jii d)=true/\(d.1.q4.q4.1.all jih=true->d.1.q4.q4.1.all jih=true/\d.1.q4.q4.1.all jih=true/\d.1.q4.q4.1.all jih=true/\(wa (jhG d) (0:Int) 1000000=true->wa (jhG d) (0:Int) 1000000=true/\wa (jhG d) (0:Int) 1000000=true/\(d.1.q4.q4.2.1.length<4611686018427387904->wa (jhG d) (0:Int) 1000000=true/\wa (jhG d) (0:Int) 1000000=true/\(decide (jhF d)=true->decide (jhF d)=true/\decide (jhF d)=true/\decide (jhF d)=true/\dL (Fe jfz) (aN SC) d.1.q4.q4.2.1 (100001:Int)/\decide (jhF d)=true/\(!decide (0<=(yw (aN SC) 0 d.1.q4.q4.2.1 (100001:Int)).1),())=(jhw d))/\(decide (jhF d)=false->decide (jhF d)=false/\decide (jhF d)=false/\decide (jhF d)=false/\decide (jhF d)=false/\(false,())=(jhw d))))/\(wa (jhG d) (0:Int) 1000000=false->wa (jhG d) (0:Int) 1000000=false/\wa (jhG d) (0:Int) 1000000=false/\wa (jhG d) (0:Int) 1000000=false/\wa (jhG d) (0:Int) 1000000=false/\qF/\qF/\qF/\qF/\qF/\(false,())=(jhw d)))/\(d.1.q4.q4.1.all jih=false->d.1.q4.q4.1.all jih=false/\d.1.q4.q4.1.all jih=false/\d.1.q4.q4.1.all jih=false/\qF/\qF/\qF/\qF/\qF/\qF/\qF/\qF/\qF/\qF/\(false,())=(jhw d)))/\(decide (jii d)=false->decide (jii d)=false/\decide (jii d)=false/\decide (jii d)=false/\qF/\qF/\qF/\qF/\qF/\qF/\qF/\qF/\qF/\qF/\qF/\qF/\qF/\qF/\(false,())=(jhw d))))/\(wa (jhH d) (0:Int) 10000=false->wa (jhH d) (0:Int) 10000=false/\wa (jhH d) (0:Int) 10000=false/\wa (jhH d) (0:Int) 10000=false/\wa (jhH d) (0:Int) 10000=false/\qF/\qF/\qF/\qF/\qF/\qF/\qF/\qF/\qF/\qF/\qF/\qF/\qF/\qF/\qF/\qF/\qF/\qF/\(false,())=(jhw d)))/\(U.share d.1.q4.2.1=false->U.share d.1.q4.2.1=false/\U.share d.1.q4.2.1=false/\U.share d.1.q4.2.1=false/\qF/\qF/\qF/\qF/\qF/\qF/\qF/\qF/\qF/\qF/\qF/\qF/\qF/\qF/\qF/\qF/\qF/\qF/\qF/\qF/\qF/\qF/\qF/\(false,())=(jhw d)))/\(wa d.1.q4.1 (0:Int) d.1.2.2.2.1=false->wa d.1.q4.1 (0:Int) d.1.2.2.2.1=false/\wa d.1.q4.1 (0:Int) d.1.2.2.2.1=false/\wa d.1.q4.1 (0:Int) d.1.2.2.2.1=false/\qF/\qF/\qF/\qF/\qF/\qF/\qF/\qF/\qF/\qF/\qF/\qF/\qF/\qF/\qF/\qF/\qF/\qF/\qF/\qF/\qF/\qF/\qF/\qF/\qF/\qF/\qF/\(false,())=(jhw d)))/\(wa d.1.2.2.2.1 (0:Int) 1440=false->wa d.1.2.2.2.1 (0:Int) 1440=false/\wa d.1.2.2.2.1 (0:Int) 1440=false/\wa d.1.2.2.2.1 (0:Int) 1440=false/\wa d.1.2.2.2.1 (0:Int) 1440=false/\wa d.1.2.2.2.1 (0:Int) 1440=false/\qF/\qF/\qF/\qF/\qF/\qF/\qF/\qF/\qF/\qF/\qF/\qF/\qF/\qF/\qF/\qF/\qF/\qF/\qF/\qF/\qF/\qF/\qF/\qF/\qF/\qF/\qF/\qF/\qF/\qF/\qF/\(false,())=(jhw d)))/\(wa d.1.2.2.1 (0:Int) 20=false->wa d.1.2.2.1 (0:Int) 20=false/\wa d.1.2.2.1 (0:Int) 20=false/\wa d.1.2.2.1 (0:Int) 20=false/\qF/\qF/\qF/\qF/\qF/\qF/\qF/\qF/\qF/\qF/\qF/\qF/\qF/\qF/\qF/\qF/\qF/\qF/\qF/\qF/\qF/\qF/\qF/\qF/\qF/\qF/\qF/\qF/\qF/\qF/\qF/\qF/\qF/\qF/\qF/\qF/\qF/\(false,())=(jhw d)))/\(wa d.1.2.1 (0:Int) 10000=false->wa d.1.2.1 (0:Int) 10000=false/\wa d.1.2.1 (0:Int) 10000=false/\wa d.1.2.1 (0:Int) 10000=false/\qF/\qF/\qF/\qF/\qF/\qF/\qF/\qF/\qF/\qF/\qF/\qF/\qF/\qF/\qF/\qF/\qF/\qF/\qF/\qF/\qF/\qF/\qF/\qF/\qF/\qF/\qF/\qF/\qF/\qF/\qF/\qF/\qF/\qF/\qF/\qF/\qF/\qF/\qF/\qF/\qF/\(false,())=(jhw d)))/\(wa d.1.1 (1:Int) 240=false->wa d.1.1 (1:Int) 240=false/\wa d.1.1 (1:Int) 240=false/\wa d.1.1 (1:Int) 240=false/\qF/\qF/\qF/\qF/\qF/\qF/\qF/\qF/\qF/\qF/\qF/\qF/\qF/\qF/\qF/\qF/\qF/\qF/\qF/\qF/\qF/\qF/\qF/\qF/\qF/\qF/\qF/\qF/\qF/\qF/\qF/\qF/\qF/\qF/\qF/\qF/\qF/\qF/\qF/\qF/\qF/\qF/\qF/\qF/\qF/\(false,())=(jhw d))
theorem BD:jek (jb5 69 [(37,bC),(87,cK),(52,eI)] 88 jaV) (ur) Tryz.f55 (qq Tryz.f55) uq=ut:=by kernel_rfl
theorem MN (K:NoD×Unit->Int->(Bool×Unit)×Int) (i:Nat) (n:NoD) (r:List NoD) (s:Int):yw K i (n::r) s=if(K (n,()) s).1.1=true then((i:Int),(K (n,()) s).2) else yw K (i+1) r (K (n,()) s).2:=by
 rw[yw];cases (K (n,()) s).1.1 with
 |true=>rfl
 |false=>rfl
theorem Ge:nL:=by
 intro n s a b;exact⟨iZ6,rfl,rfl⟩
theorem uu:df:=by
 intro n y s h;exact yj _ h ⟨rfl,rfl⟩
theorem f8:aj:=by
 unfold aj jjv;intro l y s j m;refine⟨⟨(0,s),⟨⟨rfl,tZ⟩,⟨rfl,tZ⟩,tZ⟩,jl _,rfl,j⟩,fun x d=>⟨fun h=> ?_,fun h=> ?_⟩⟩;obtain⟨i,s1⟩:=x;have hi:i<l.length:=(by simpa using h);obtain⟨_,a,b⟩:=d;have g:l.drop i=nth l i::l.drop (i+1):=(by rw[L.qy hi];exact z8 hi);simp only at a b;rw[g] at a b;rw[MN] at a;obtain⟨e,f⟩:=b;simp only[jw];refine⟨by omega,by omega,yj _ e ⟨fun k=> ?_,fun c=>⟨iZ6,(i+1,(y.2 (nth l i,()) s1).2),⟨⟨by simp,tZ⟩,⟨rfl,tZ⟩,tZ⟩,⟨hi,?_,f c⟩,by simp only;omega⟩⟩⟩;rw[je k] at a;rw[<-a];exact⟨rfl,rfl⟩;rw[jd (by rw[c];decide)] at a;exact a;obtain⟨i,s1⟩:=x;have hi:l.length<=i:=(by simpa using h);obtain⟨_,a,_⟩:=d;simp only at a;rw[List.drop_eq_nil_of_le hi] at a;have a:((-1:Int),s1)=yw y.2 0 l s:=a;rw[<-a];exact⟨rfl,rfl⟩
theorem dh:gu:=fun _ _ _ h=>⟨h,rfl,rfl⟩
theorem BE:fZ:=fun _ _ _ h=>⟨h,rfl,rfl⟩
theorem Yv {P:Program} {C:Ctx} {w:World} (g:C.ok P) (m:P.follows .mixedOrders=true) {f:Nat} {fn:Func} {body:Code} (j:P.funcs[f]? =some fn) (i:fn.body=some body)
 (o:fn.ntmps=C.n) (A:Ann) {T:Nat} {st:Ty} {rs:List Ty} {a:(Ty.st rs).Data×st.Data} {s:st.Data} {sl:List (Nat×SV)} {vals:List Value}
 (q:jaT C A body ⟨sl,[(gU,some (.box T false [.dat st s]))]⟩ (mS C fn T st rs a)) (c:Nat.ble vals.length C.n=true)
 {H:Imm} {b:Nat} {u:Value} (l:iy H w) (h:H b=none) (r:w.heap[b]? =some (.cells #[u] T (0,0))) (e:st.agg=false) (p:st.rv H u s)
 (d:∀ρ:Env,ρ.H=H->ρ.blk gU=some (some (b,0))->∀k v,wS sl k=some v->∃x,vals[k]? =some x/\SV.den P ρ v x):
 Calls P f vals.toArray w (SI H w b T st rs a):=
 jfX g m j i o A (jz c) (jaU q) l h r e p d
abbrev FnG (H:Imm) (b:Nat) (y:FE) (v:Value):Prop:=FnE PR H b 3 .int [tNo] [.bool] y.pre y.K v
theorem Yw {H:Imm} {t:Ty} {vals:List Value} {x:(Ty.st [t]).Data} (h:rvs H [t] vals x):∃v,vals=[v]/\t.rv H v x.1:=by
 match vals,h with
 |[v],h=>exact⟨v,rfl,h.1⟩
 |[],h=>exact h.elim
 |_::_::_,h=>have:=h.2;simp[rvs] at this
theorem Yx (q:aU) {H:Imm} {b:Nat} {y:FE} {i:Value} {g:Nat} (l:FnG H b y i) (m:H g=some (.cells #[i])):
 FnG H b ⟨Fe y.pre,aN y.K⟩ (.func (.func 133) #[] #[.pointer (some ⟨g,0,none⟩)]):=by
 refine⟨133,_,rfl,yb Tryz.func133 (c:=qq Tryz.f133) (by kernel_rfl) (by kernel_rfl),fun H' w vals x s u j o n z r t f=> ?_⟩;obtain⟨v,rfl,h⟩:=Yw t;have key:=Yv (P:=PR) (C:=ctx 8 [] []) (pm trivial trivial) mixed Tryz.func133 (body:=qq Tryz.f133) (by kernel_rfl) (by kernel_rfl) (fun _=>none) (T:=3) (st:= .int) (rs:=[.bool])
  (vals:=[v,.pointer (some ⟨g,0,none⟩)]) (q x.1 y s f.1) (by kernel_rfl) o n z rfl r
 refine key (fun ρ d e k sv hk=> ?_)
 match k,hk with
 |0,hk=>
  have hk:some (SV.dat tNo x.1)=some sv:=hk;simp only[jy] at hk;subst hk;exact⟨v,rfl,by simp only[SV.den];rw[d];exact h⟩
 |1,hk=>
  have hk:some (SV.fe true gU 3 .int [tNo] [.bool] y.pre y.K)=some sv:=hk;simp only[jy] at hk;subst hk;refine⟨_,rfl,?_⟩;simp only[SV.den];intro p a;rw[e] at a;simp at a;subst a;refine⟨b,0,rfl,i,?_,g,rfl,?_⟩;rw[d];exact FnE.mono j l;rw[d];exact j _ _ m
 |k+2,hk=>cases hk
theorem UL (j:eJ) (H:Imm) (b:Nat):FnG H b ⟨jfz,SC⟩ (.func (.func 86) #[] #[.pointer (some ⟨b,0,none⟩)]):=by
 refine⟨86,_,rfl,yb Tryz.func86 (c:=qq Tryz.f86) (by kernel_rfl) (by kernel_rfl),fun H' w vals x s u o i h n l m a=> ?_⟩;obtain⟨v,rfl,f⟩:=Yw m;have key:=Yv (P:=PR) (C:=ctx 18 [(37,bC),(87,cK)] []) (pm ⟨fun _=>y6,fun _=>HH,tZ⟩ trivial) mixed Tryz.func86 (body:=qq Tryz.f86) (by kernel_rfl) (by kernel_rfl) (fun _=>none) (T:=3) (st:= .int) (rs:=[.bool])
  (vals:=[v,.pointer (some ⟨b,0,none⟩)]) (j x.1 s a.1 a.2.1) (by kernel_rfl) i h n rfl l
 refine key (fun ρ g e k sv hk=> ?_)
 match k,hk with
 |0,hk=>
  have hk:some (SV.dat tNo x.1)=some sv:=hk;simp only[jy] at hk;subst hk;exact⟨v,rfl,by simp only[SV.den];rw[g];exact f⟩
 |1,hk=>
  have hk:some (SV.bp gU 0)=some sv:=hk;simp only[jy] at hk;subst hk;refine⟨_,rfl,?_⟩;simp only[SV.den];intro p d;rw[e] at d;simp at d;subst d;exact⟨b,0,rfl,rfl⟩
 |k+2,hk=>cases hk
def EN (f:Nat) (rs:List Ty) (pre:FE->List NoD->Int->Prop) (K:FE->List NoD->Int->(Ty.st rs).Data×Int):Prop:=
 ∀(l:List NoD) (y:FE) (s:Int) (H:Imm) (w:World) (b:Nat) (lv a u:Value),iy H w->H b=none->w.heap[b]? =some (.cells #[u] 3 (0,0))->Ty.int.rv H u s->
  (Ty.slice tNo).rv H lv l->FnG H b y a->pre y l s->Calls PR f #[lv,a] w (SI H w b 3 .int rs (K y l s))
theorem jdJ {C:Ctx} (j:C.ok PR) {f:Nat} {fn:Func} {body:Code} (o:PR.funcs[f]? =some fn) (m:fn.body=some body) (t:fn.ntmps=C.n) (i:Nat.ble 2 C.n=true) (A:FE->Int->Ann) {rs:List Ty}
 {pre:FE->List NoD->Int->Prop} {K:FE->List NoD->Int->(Ty.st rs).Data×Int}
 (x:∀(l:List NoD) (y:FE) (s:Int),pre y l s->jaT C (A y s) body ⟨[(0,.dat (.slice tNo) l),(1,.fe false gU 3 .int [tNo] [.bool] y.pre y.K)],[(gU,some (.box 3 false [.dat .int s]))]⟩ (mS C fn 3 .int rs (K y l s))):EN f rs pre K:=by
 intro l y s H w b lv h u q g z v r B d;have key:=Yv (P:=PR) j mixed o m t (A y s) (T:=3) (st:= .int) (rs:=rs) (vals:=[lv,h]) (x l y s d) i q g z rfl v;refine key (fun ρ e c k sv hk=> ?_)
 match k,hk with
 |0,hk=>
  have hk:some (SV.dat (.slice tNo) l)=some sv:=hk;simp only[jy] at hk;subst hk;exact⟨lv,rfl,by simp only[SV.den];rw[e];exact r⟩
 |1,hk=>
  have hk:some (SV.fe false gU 3 .int [tNo] [.bool] y.pre y.K)=some sv:=hk;simp only[jy] at hk;subst hk;refine⟨_,rfl,?_⟩;simp only[SV.den];intro p a;rw[c] at a;simp at a;subst a;exact⟨b,0,rfl,h,by rw[e];exact B,rfl⟩
 |k+2,hk=>cases hk
theorem xP {σ:St} {o:Nat} {s:Int} (h:Yr σ o=some s):∃c,σ.obj o=some (.box 3 false [c])/\gA σ .int c=some (s,[]):=by
 unfold Yr at h
 split at h
 case h_2=>cases h
 rename_i T c d
 split at h
 case h_2=>cases h
 rename_i e a b;simp at h;subst h;have:=jb a;subst this;exact⟨c,d,b⟩
theorem UM {q:Bool} {o T:Nat} {st:Ty} {ps rs:List Ty} {pre:(Ty.st ps).Data->st.Data->List Prop} {K:(Ty.st ps).Data->st.Data->(Ty.st rs).Data×st.Data} {y:FE} (h:jdI st ps rs pre K=some y):
 SV.fe q o T st ps rs pre K=SV.fe q o T .int [tNo] [.bool] y.pre y.K:=by
 unfold jdI at h
 split at h
 case isFalse=>cases h
 rename_i a
 split at h
 case isFalse=>cases h
 rename_i b
 split at h
 case isFalse=>cases h
 rename_i c;subst a;subst b;subst c;simp at h;subst h;rfl
theorem MO {v:SV} {o:Nat} {y:FE} (h:jfL v=some (o,y)):v= .fe false o 3 .int [tNo] [.bool] y.pre y.K:=by
 unfold jfL at h
 split at h
 case h_2=>cases h
 rename_i o' T st ps rs pre K
 split at h
 case h_2=>cases h
 rename_i c a b;simp at h;obtain⟨rfl,rfl⟩:=h;have:=jb a;subst this;exact UM b
theorem Yy {σ:St} {b o:Nat} {y:FE} (h:jf6 σ b=some (o,y)):∃T fz,σ.obj b=some (.box T fz [.fe false o 3 .int [tNo] [.bool] y.pre y.K]):=by
 unfold jf6 at h
 split at h
 case h_2=>cases h
 rename_i d fz c a;rw[MO h] at a;exact⟨_,_,a⟩
abbrev jf7 (y:FE) (l:List NoD) (s:Int):(Ty.st [.int]).Data×Int:=(((yw y.K 0 l s).1,()),(yw y.K 0 l s).2)
abbrev jf8 (y:FE) (l:List NoD) (s:Int):(Ty.st [.bool]).Data×Int:=((decide (0<=(yw y.K 0 l s).1),()),(yw y.K 0 l s).2)
abbrev jf9 (y:FE) (l:List NoD) (s:Int):(Ty.st [.bool]).Data×Int:=((!decide (0<=(yw (aN y.K) 0 l s).1),()),(yw (aN y.K) 0 l s).2)
theorem Qi (L:EN 70 [.int] (fun y l s=>dL y.pre y.K l s) jf7) {σ:St} {svs:List SV} {out:Out} (h:Ys σ svs=some out) {B:vk} {ρ:Env} {w:World} {vals:List Value} (I:Sat PR B ρ σ.obj w) (C:SV.denL PR ρ svs vals)
 (t:yz out.vc):Calls PR 70 vals.toArray w (fun e w'=>∃v,e= .returned v/\wL PR B ρ σ out v w'):=by
 unfold Ys at h
 split at h
 case h_2=>cases h
 rename_i a c
 split at h
 case h_2=>cases h
 rename_i l fz o y M n
 split at h
 case h_2=>cases h
 rename_i s q O;simp at h;subst h;obtain⟨S,_⟩:=t;have F:=MO n;subst F;simp only[SV.denL] at C;obtain⟨D,_,rfl,E,vc,_,rfl,x,rfl⟩:=C;obtain⟨c,R,J⟩:=xP O;refine mT (st:= .int) (rs:=[.int]) (r:=jf7 y l s) I fz q R rfl (fun ρ1 b V u d g f N G Q m=> ?_);have A:=yS σ fz;have P:=wP d A J (fun o i=>by simp at i) m;have p:=wP d A M (fun o i=>i) (SV.den_mono g a D (fun o i=>by simp at i) E);simp only[SV.den] at x;obtain⟨W,C',z,T,k,j⟩:=x _ (by rw[<-f];exact N);simp at z;obtain⟨rfl,rfl⟩:=z;have j:vc=T:=j;subst j;exact L l y s ρ1.H w b D vc u d.good G Q P p (FnE.mono g.H k) S
theorem Qj (D:aU) (he:EN 132 [.bool] (fun y l s=>dL y.pre y.K l s) jf8) {σ:St} {svs:List SV} {out:Out} (h:Yt σ svs=some out) {B:vk} {ρ:Env} {w:World} {vals:List Value} (hS:Sat PR B ρ σ.obj w)
 (R:SV.denL PR ρ svs vals) (L:yz out.vc):Calls PR 132 vals.toArray w (fun e w'=>∃v,e= .returned v/\wL PR B ρ σ out v w'):=by
 unfold Yt at h
 split at h
 case h_2=>cases h
 rename_i a f j
 split at h
 case h_2=>cases h
 rename_i l fz o y hf hl E
 split at h
 case h_2=>cases h
 rename_i s I hs;simp at h;subst h;obtain⟨q1,_⟩:=L;simp only[SV.denL] at R;obtain⟨S,_,rfl,Z,vc,_,rfl,O,rfl⟩:=R;simp only[SV.den,SV.denL] at O;obtain⟨vs,rfl,v5,_,i,Y,rfl⟩:=O;have i:vs= #[v5]:=jJ.1 (by simpa using i);subst i;have:=jb hf;subst this;obtain⟨c,hx,hc⟩:=xP hs;obtain⟨W,fz5,M⟩:=Yy E;refine mT (st:= .int) (rs:=[.bool]) (r:=jf8 ⟨Fe y.pre,aN y.K⟩ l s) hS (j::fz) I hx rfl (fun ρ1 b Cp u d G k hp hH hw C=> ?_);have x:=yS σ (j::fz);have hu:=wP d x hc (fun o m=>by simp at m) C;have F:=wP d x hl (fun o m=>jm _ m) (SV.den_mono G a S (fun o m=>by simp at m) Z);have n:(σ.frz (j::fz)).obj j=some (.box W true [.fe false o 3 .int [tNo] [.bool] y.pre y.K]):=(by rw[(x j).2 (by simp),M];rfl);obtain⟨p5,J,b5,C5,N,rfl,hw5,g,_,A⟩:=d.obs j _ n;obtain⟨X,V,Q,q⟩:=Y _ (by rw[<-k];exact J);simp at Q;obtain⟨rfl,rfl⟩:=Q;subst q;simp only[SV.denL,SV.den] at g;obtain⟨T,_,t,hy,rfl⟩:=g;have t:N= #[T]:=jJ.1 (by simpa using t);subst t;obtain⟨b',C',P,u',z,p⟩:=hy _ hp;simp at P;obtain⟨rfl,rfl⟩:=P;have p:T=u':=p;subst p;exact he l ⟨Fe y.pre,aN y.K⟩ s ρ1.H w b S _ u d.good hH hw hu F (Yx D z A) q1
theorem Qk (P:eJ) (J:EN 88 [.bool] (fun y l s=>dL (Fe y.pre) (aN y.K) l s) jf9) {σ:St} {svs:List SV} {out:Out} (h:jaV σ svs=some out) {B:vk} {ρ:Env} {w:World} {vals:List Value} (G:Sat PR B ρ σ.obj w)
 (A:SV.denL PR ρ svs vals) (q:yz out.vc):Calls PR 88 vals.toArray w (fun e w'=>∃v,e= .returned v/\wL PR B ρ σ out v w'):=by
 unfold jaV at h
 split at h
 case h_2=>cases h
 rename_i a f o
 split at h
 case h_2=>cases h
 rename_i l fz L M
 split at h
 case h_2=>cases h
 rename_i s p O;simp at h;subst h;obtain⟨T,_⟩:=q;simp only[SV.denL] at A;obtain⟨C,_,rfl,E,vc,_,rfl,t,rfl⟩:=A;simp only[SV.den,SV.denL] at t;obtain⟨vs,rfl,V,_,d,D,rfl⟩:=t;have d:vs= #[V]:=jJ.1 (by simpa using d);subst d;have:=jb L;subst this;obtain⟨c,S,I⟩:=xP O;refine mT (st:= .int) (rs:=[.bool]) (r:=jf9 ⟨jfz,SC⟩ l s) G fz p S rfl (fun ρ1 b W u g n i N F R k=> ?_);have z:=yS σ fz;have Q:=wP g z I (fun o j=>by simp at j) k;have m:=wP g z M (fun o j=>j) (SV.den_mono n a C (fun o j=>by simp at j) E);obtain⟨X,C',x,ev⟩:=D _ (by rw[<-i];exact N);simp at x;obtain⟨rfl,rfl⟩:=x;subst ev;exact J l ⟨jfz,SC⟩ s ρ1.H w b C _ u g.good F R Q m (UL P ρ1.H b) T
theorem Ql {n:Nat} {fs:List (Nat×w4)} {k:Nat} {e:St->List SV->Option Out} (c:oG fs) (b:enters PR k)
 (j:∀σ svs out,e σ svs=some out->∀B ρ w vals,Sat PR B ρ σ.obj w->SV.denL PR ρ svs vals->yz out.vc->Calls PR k vals.toArray w (fun e w'=>∃v,e= .returned v/\wL PR B ρ σ out v w')):(jb5 n fs k e).ok PR:=by
 refine⟨Ry Z6,fD c,RR,rfl,fun f dst σ svs out h=> ?_⟩;have a:(match Nat.beq f k with|true=>e σ svs|false=>none)=some out:=h
 split at a
 case h_2=>cases a
 rename_i l;have:=jb l;subst this;exact⟨b,fun B ρ w vals g i d _ _=>j σ svs out a B ρ w vals g i d⟩
theorem enI:EN 70 [.int] (fun y l s=>dL y.pre y.K l s) jf7:=
 jdJ (C:=ctx 19 [] []) (pm trivial trivial) Tryz.func70 (body:=qq Tryz.f70) (by kernel_rfl) (by kernel_rfl) (by kernel_rfl) (fun y s=>Yu y.K y.pre s) (fun l y s h=>cC.mpr f8 l y s h)
theorem enC:EN 132 [.bool] (fun y l s=>dL y.pre y.K l s) jf8:=
 jdJ (C:=jb5 9 [] 70 Ys) (Ql trivial (yb Tryz.func70 (c:=qq Tryz.f70) (by kernel_rfl) (by kernel_rfl)) (fun _ _ _ h _ _ _ _ b d a=>Qi enI h b d a))
  Tryz.func132 (body:=qq Tryz.f132) (by kernel_rfl) (by kernel_rfl) (by kernel_rfl) (fun _ _ _=>none) (fun l y s h=>bD.mpr dh l y s h)
theorem enV:EN 88 [.bool] (fun y l s=>dL (Fe y.pre) (aN y.K) l s) jf9:=
 jdJ (C:=jb5 9 [] 132 Yt) (Ql trivial (yb Tryz.func132 (c:=qq Tryz.f132) (by kernel_rfl) (by kernel_rfl)) (fun _ _ _ h _ _ _ _ b d a=>Qj (mm.mpr uu) enC h b d a))
  Tryz.func88 (body:=qq Tryz.f88) (by kernel_rfl) (by kernel_rfl) (by kernel_rfl) (fun _ _ _=>none) (fun l y s h=>o6.mpr BE l y s h)
theorem noI:∀(l:List NoD) (i:Nat) (s:Int),(!decide (0<=(yw (aN SC) i l s).1))=AG s l
 |[],i,s=>rfl
 |n::r,i,s=>by
  rw[MN,AG]
  have a:(aN SC (n,()) s).1.1= !(Kd s n):=rfl
  have e2:(aN SC (n,()) s).2=Zp n:=rfl
  rw[a,e2]
  cases b:Kd s n with
  |true=>rw[jd (by decide),noI r (i+1) (Zp n)];rfl
  |false=>
   rw[je (by decide)]
   have:decide (0<=(i:Int))=true:=jG (by omega)
   show(!decide (0<=(i:Int)))=_
   rw[this];rfl
theorem jgs:∀(l:List NoD) (s:Int),-4611686018427387904<=s->s<=4611686018427387904->dL (Fe jfz) (aN SC) l s
 |[],_,_,_=>trivial
 |n::r,s,h1,h2=>by
  refine⟨⟨⟨h1,h2,tZ⟩,tZ⟩,fun a=> ?_⟩
  have a:(!(Kd s n))=false:=a
  have a:Kd s n=true:=by simpa using a
  unfold Kd at a
  rw[ji,vE] at a
  exact jgs r (Zp n) (by omega) (by omega)
theorem MP:ut:=by
 unfold ut jhH jhw jhG jii jhF jih Prod.q4;rintro⟨⟨un,rt,le,dk,dw,ni,mi,cp,sb,no,⟨⟩⟩,⟨⟩⟩;have e:yB (un,rt,le,dk,dw,ni,mi,cp,sb,no,())=((wa un 1 240&&wa rt 0 10000&&wa le 0 20&&wa dk 0 1440&&wa dw 0 dk&&U.share ni&&wa mi 0 10000)&&
  (decide ((sb.length:Int)=4)&&sb.all (wc fun(x:Int×Unit)=>(U.share x.fst,()))&&wa cp 0 1000000&&decide ((no.length:Int)<=4)&&AG 100001 no)):=by
  have n:decide ((sb.length:Int)=4)=decide (sb.length=4):=decide_eq_decide.2 (by omega);have e2:decide ((no.length:Int)<=4)=decide (no.length<=4):=decide_eq_decide.2 (by omega);rw[n,e2];rfl
 simp only;refine⟨fun f=>⟨f,f,f,fun g=>⟨g,g,g,fun i=>⟨i,i,i,fun c=>⟨c,c,c,c,c,fun j=>⟨j,j,j,fun k=>⟨k,k,k,fun d=>⟨d,d,fun _=>⟨d,d,fun l=>⟨l,l,fun _ _=>tZ,l,fun m=>⟨m,m,m,fun a=>⟨a,a,fun _=>⟨a,a,fun b=>⟨b,b,b,jgs no 100001 (by omega) (by omega),b,?_⟩,fun h=> ?_⟩⟩,fun h=> ?_⟩,fun h=> ?_⟩,fun h=> ?_⟩⟩,fun h=> ?_⟩,fun h=> ?_⟩,fun h=> ?_⟩,fun h=> ?_⟩,fun h=> ?_⟩,fun h=> ?_⟩,fun h=> ?_⟩
 .rw[noI,e];simp only[f,g,i,c,j,k,d,l,m,a,b,Bool.true_and]
 all_goals
  have q:=e;simp only[h,Bool.false_and,ky] at q;simp only[h,q,and_self]
theorem Jx:w9 PR 55 uq:=
 jeG (Ql (n:=69) (fs:=[(37,bC),(87,cK),(52,eI)]) (k:=88) (e:=jaV) ⟨fun _=>y6,fun _=>HH,fun _=>po,tZ⟩
  (yb Tryz.func88 (c:=qq Tryz.f88) (by kernel_rfl) (by kernel_rfl)) (fun _ _ _ h _ _ _ _ b d a=>Qk (uo.mpr Ge) enV h b d a))
  mixed Tryz.func55 (by kernel_rfl) (by kernel_rfl) (by kernel_rfl) (by decide) ur (BD.mpr MP)
namespace U
def cmStep (m:List (Int×CaD)) (c:CaD):List (Int×CaD):=iz .int (Vw c) c m
def sm (l:List CaD) (n:Nat):List (Int×CaD):=(l.take n).foldl cmStep []
def wE (l:LgD) (F:BoD×Unit->Bool×Unit):Bool:=(F ((l,[],()),())).1
end U
def UN:w4:=⟨[.val tLg],[.int],false,fun d=>[(qi (wq d.1)).length<=100000],fun d=>(wU d.1,())⟩
def UO:Ann:=fun r=>match r with
 |14=>some fun σ=>{X:=Nat,sl:=fun i=>[(68,.dat .int (i:Int))],ob:=fun i=>[(64,some (.map false .int tCa (sm (gd (.slice tCa) σ 66) i)))],inv:=fun i=>i<=(gd (.slice tCa) σ 66).length/\∀b:Nat,b<i->cg (gd (.slice tCa) σ 66) b=false,mu:=fun i=>(gd (.slice tCa) σ 66).length-i}
 |_=>none
abbrev jiy (d:LgD×Unit):=(d.1.1.2.2.1.length:Int)
abbrev jlJ (d:LgD×Unit):=(decide ((d.1.2.2.1.length:Int)≠(jiy d))|| !d.1.2.2.1.all (wc fun(a:Int×Unit)=>(AH a.1,())))
abbrev jlK (d:LgD×Unit):=(decide ((d.1.2.1.length:Int)≠(jiy d))|| !d.1.2.1.all (wc fun(a:Int×Unit)=>(No a.1,())))
abbrev jjw (d:LgD×Unit):=(d.1.q4.1.length:Int)
abbrev jlL (d:LgD×Unit):=(!yB d.1.2.2.2.1||decide (10<(jjw d))|| !d.1.q4.1.all (wc fun(a:CaD×Unit)=>(Zi (jiy d) a.1,())))
abbrev jj9 (d:LgD×Unit)(x:Nat):=(nth d.1.q4.1 x)
abbrev jlM (d:LgD×Unit)(x:Nat):=(jbx (wG Ty.int (jj9 d x).1 (sm d.1.q4.1 x))&& !decide (wW ((0:Int),(0:Int),(0:Int),()) (wG Ty.int (jj9 d x).1 (sm d.1.q4.1 x))=nth d.1.q4.1 x))
def UP:Prop:=∀(d:LgD×Unit),(qi (wq d.1)).length<=100000->(qi d.1.1).length<=100000/\(decide (qo d.1.1≠0)=true->(qo d.1.1,())=(wU d.1,()))/\(decide (qo d.1.1≠0)=false->d.1.1.2.2.1.length<4611686018427387904->d.1.2.1.length<4611686018427387904->((!decide ((d.1.2.1.length:Int)≠(jiy d)))=true->∀(g:Int),g∈d.1.2.1->wC [])/\((jlK d)=true->((70:Int),())=(wU d.1,()))/\((jlK d)=false->d.1.2.2.1.length<4611686018427387904->((!decide ((d.1.2.2.1.length:Int)≠(jiy d)))=true->∀(g:Int),g∈d.1.2.2.1->wC [])/\((jlJ d)=true->((70:Int),())=(wU d.1,()))/\((jlJ d)=false->((!!yB d.1.2.2.2.1)=true->d.1.q4.1.length<4611686018427387904)->((!(!yB d.1.2.2.2.1||decide (10<(jjw d))))=true->∀(c:CaD),c∈d.1.q4.1->wC [0<=(jiy d),(jiy d)<=4611686018427387904])/\((jlL d)=true->((70:Int),())=(wU d.1,()))/\((jlL d)=false->d.1.q4.1.length<4611686018427387904->(∃(x:Nat),((0=(x:Int)/\True)/\[]=sm d.1.q4.1 x/\True)/\x<=d.1.q4.1.length/\∀(b:Nat),b<x->cg d.1.q4.1 b=false)/\∀(x:Nat),(x<=d.1.q4.1.length/\∀(b:Nat),b<x->cg d.1.q4.1 b=false)->(decide ((x:Int)<(jjw d))=true->0<=(x:Int)/\(x:Int)<(jjw d)/\((jlM d x)=true->((71:Int),())=(wU d.1,()))/\((jlM d x)=false->wl ((x:Int)+1)/\∃(a:Nat),(((x:Int)+1=(a:Int)/\True)/\iz Ty.int (jj9 d x).1 (jj9 d x) (sm d.1.q4.1 x)=sm d.1.q4.1 a/\True)/\(a<=d.1.q4.1.length/\∀(b:Nat),b<a->cg d.1.q4.1 b=false)/\d.1.q4.1.length-a<d.1.q4.1.length-x))/\(decide ((x:Int)<(jjw d))=false->((0:Int),())=(wU d.1,()))))))
theorem MQ {l:List CaD} {n:Nat} (h:n<l.length):sm l (n+1)=iz .int (Vw (nth l n)) (nth l n) (sm l n):=by
 unfold sm;rw[L.wQ h,jO];rfl
theorem Yz (l:List CaD):∀x,x<=l.length->∀k:Int,(wG .int k (sm l x)=none->∀j,j<x->Vw (nth l j)≠k)/\(∀c,wG .int k (sm l x)=some c->∃j,j<x/\nth l j=c/\Vw c=k)
 |0,_,k=>⟨fun _ j a=>by omega,fun c h=>by cases h⟩
 |x+1,i,k=>by
  obtain⟨d,f⟩:=Yz l x (by omega) k
  rw[MQ (show x<l.length by omega)]
  by_cases e:k=Vw (nth l x)
  subst e
  rw[M.so (kt:= .int)]
  refine⟨fun h=>(by cases h),fun c h=> ?_⟩
  simp only[jy] at h
  subst h
  exact⟨x,by omega,rfl,rfl⟩
  rw[M.eV (kt:= .int) e]
  refine⟨fun h j a=> ?_,fun c h=> ?_⟩
  by_cases e2:j=x
  subst e2;exact fun b=>e b.symm
  exact d h j (by omega)
  obtain⟨j,a,g⟩:=f c h
  exact⟨j,by omega,g⟩
theorem MR {l:List CaD} {i:Nat} (hi:i<=l.length):cg l i=true↔∃j,j<i/\Vw (nth l j)=Vw (nth l i)/\nth l j≠nth l i:=by
 unfold cg;rw[zc];constructor;rintro⟨x,d,h⟩;obtain⟨j,c,rfl⟩:=ze.1 d;simp only[ji,jp,jX,jI] at h;refine⟨j,by omega,?_⟩;rw[L.qy (show j<l.length by omega)];exact h;rintro⟨j,c,a,b⟩;refine⟨nth l j,ze.2 ⟨j,by omega,(L.qy (by omega)).symm⟩,?_⟩;simp only[ji,jp,jX,jI];exact⟨a,b⟩
theorem jdK {l:List CaD} {x:Nat} (u:x<l.length) (h:∀b:Nat,b<x->cg l b=false):
 (jbx (wG .int (nth l x).1 (sm l x))&& !decide (wW ((0:Int),(0:Int),(0:Int),()) (wG .int (nth l x).1 (sm l x))=nth l x))=cg l x:=by
 obtain⟨k,r⟩:=Yz l x (by omega) (nth l x).1;have no:∀i j,i<j->j<x->Vw (nth l i)=Vw (nth l j)->nth l i=nth l j:=fun i j a f s=>by
  by_cases e:nth l i=nth l j;exact e;have:=(MR (show j<=l.length by omega)).2 ⟨i,a,s,e⟩;rw[h j f] at this;cases this
 rw[j7,MR (by omega)];cases p:wG (β:=CaD) .int (nth l x).1 (sm l x) with
 |none=>
  have k:=k p;constructor;intro t;cases t;rintro⟨j,f,e,_⟩;exact absurd e (k j f)
 |some c=>
  obtain⟨j,f,d,o⟩:=r c p;show(!decide (c=nth l x))=true↔_;rw[jX,jI];constructor;intro m;exact⟨j,f,by rw[d];exact o,by rw[d];exact m⟩;rintro⟨i,hi,q,e2⟩ g;have n:Vw (nth l i)=Vw (nth l j):=(by rw[d,q];exact o.symm);rcases kK i j with a|a|a;exact e2 (by rw[no i j a f n,d,g]);subst a;exact e2 (by rw[d,g]);exact e2 (by rw[<-no j i a hi n.symm,d,g])
theorem Qm {l:List CaD} {x:Nat} (a:x<l.length) (h:cg l x=true):du l=true:=by
 unfold du Fc;rw[zc];exact⟨x,jE.2 a,h⟩
theorem MS {l:List CaD} (h:∀b:Nat,b<l.length->cg l b=false):du l=false:=by
 unfold du Fc;rw[zj];intro b a;rw[h b (jE.1 a)];decide
theorem jga {b:Bool} (h:(!b)=true):b=false:=by cases b with|false=>rfl|true=>cases h
theorem jgb {b:Bool} (h:(!b)=false):b=true:=by cases b with|true=>rfl|false=>cases h
theorem jgt (a b:Nat) (p:Bool):(decide ((a:Int)≠(b:Int))|| !p)= !(decide (a=b)&&p):=by
 by_cases e:a=b;subst e;simp;have:(a:Int)≠(b:Int):=(by omega);simp[e,this]
theorem jdL (l:LgD):dK l=((decide ((vd l).length=(wm (wq l)).length)&&(vd l).all No)&&(decide ((oD l).length=(wm (wq l)).length)&&(oD l).all AH)&&(yB (vB l)&&(decide ((qj l).length<=10)&&(qj l).all (o9 (wm (wq l)).length)))):=rfl
theorem YA:UP:=by
 unfold UP jlM jj9 jlL jjw jlK jlJ jiy Prod.q4;rintro⟨l,⟨⟩⟩ C;have y:∀v,qo (wq l)≠0->v=qo (wq l)->((v:Int),())=(wU l,()):=fun v h e=>by
  unfold wU;rw[je h,e]
 have c:¬(qo (wq l)≠0)->dK l=false->((70:Int),())=(wU l,()):=fun h e=>by
  unfold wU;rw[jd h,je e]
 have o:¬(qo (wq l)≠0)->dK l=true->du (qj l)=true->((71:Int),())=(wU l,()):=fun h e e2=>by
  unfold wU;rw[jd h,jd (by rw[e];decide),je e2]
 have n:¬(qo (wq l)≠0)->dK l=true->du (qj l)=false->((0:Int),())=(wU l,()):=fun h e e2=>by
  unfold wU;rw[jd h,jd (by rw[e];decide),jd (by rw[e2];decide)]
 have q:=jgt (vd l).length (wm (wq l)).length ((vd l).all No);have r:=jgt (oD l).length (wm (wq l)).length ((oD l).all AH);have s:(!yB (vB l)||decide ((10:Int)<(qj l).length)|| !(qj l).all (o9 (wm (wq l)).length))= !(yB (vB l)&&(decide ((qj l).length<=10)&&(qj l).all (o9 (wm (wq l)).length))):=by
  have:decide ((10:Int)<(qj l).length)= !decide ((qj l).length<=10):=by
   by_cases e:(qj l).length<=10;rw[jG e,zp (by omega)];rfl;rw[zp e,jG (by omega)];rfl
  rw[this];cases yB (vB l)<;>cases decide ((qj l).length<=10)<;>rfl
 have m:=jdL l;refine⟨C,fun h=>y _ (ja h) rfl,fun h k _=>⟨fun _ _ _=>tZ,fun g=> ?_,fun g _=>⟨fun _ _ _=>tZ,fun i=> ?_,fun i _=>⟨fun _ _ _=>⟨jU _,?_,tZ⟩,fun j=> ?_,fun j w=>⟨⟨0,⟨⟨rfl,tZ⟩,rfl,tZ⟩,jl _,fun b u=>by omega⟩,fun x D=> ?_⟩⟩⟩⟩⟩;have g:=q.symm.trans g;refine c (jc h) ?_;rw[m,show(decide ((vd l).length=(wm (wq l)).length)&&(vd l).all No)=false from jga g];rfl;have i:=r.symm.trans i;refine c (jc h) ?_;rw[m,show(decide ((oD l).length=(wm (wq l)).length)&&(oD l).all AH)=false from jga i,ky];rfl;have k:(wm (wq l)).length<4611686018427387904:=k;show((wm (wq l)).length:Int)<=4611686018427387904;omega;have j:=s.symm.trans j;refine c (jc h) ?_;rw[m,show(yB (vB l)&&(decide ((qj l).length<=10)&&(qj l).all (o9 (wm (wq l)).length)))=false from jga j,ky];have z:=q.symm.trans g;have A:=r.symm.trans i;have B:=s.symm.trans j;have t:dK l=true:=by
  rw[m,show(decide ((vd l).length=(wm (wq l)).length)&&(vd l).all No)=true from jgb z,show(decide ((oD l).length=(wm (wq l)).length)&&(oD l).all AH)=true from jgb A,show(yB (vB l)&&(decide ((qj l).length<=10)&&(qj l).all (o9 (wm (wq l)).length)))=true from jgb B];rfl
 obtain⟨E,d⟩:x<=(qj l).length/\∀b:Nat,b<x->cg (qj l) b=false:=D;have w:(qj l).length<4611686018427387904:=w;refine⟨fun f=> ?_,fun f=> ?_⟩;have f:(x:Int)<(qj l).length:=ja f;have a:x<(qj l).length:=(by omega);have cc:=jdK a d;refine⟨jU _,f,fun p=> ?_,fun p=>⟨iZ6,x+1,⟨⟨by simp,tZ⟩,(MQ a).symm,tZ⟩,⟨a,fun b u=> ?_⟩,by show(qj l).length-(x+1)<(qj l).length-x;omega⟩⟩;exact o (jc h) t (Qm a (cc.symm.trans p));by_cases e:b=x;subst e;exact cc.symm.trans p;exact d b (by omega);have f:¬(x:Int)<(qj l).length:=jc f;exact n (jc h) t (MS fun b u=>d b (by omega))
theorem UQ:w9 PR 20 UN:=vb UO YA Tryz.func20 (kcC Hz (kcC Jx (kcC po (kcC MK (kcC ML (kcC MM (kcC EE kcN))))))) koN
end Go.X
namespace Go.Proofs
open Go.Shelf
def Tryz.sortLn_ren:Go.Shelf.Ren:=⟨fun|6=>96|15=>140|14=>139|28=>177|29=>178|20=>169|21=>170|22=>171|23=>172|24=>173|25=>174|26=>175|27=>176|46=>203|47=>204|48=>205|49=>206|50=>207|57=>221|n=>n,fun|22=>54|24=>61|25=>124|3=>3|39=>92|0=>0|53=>189|55=>191|4=>4|46=>183|45=>182|50=>50|5=>5|9=>9|66=>213|70=>217|76=>231|77=>232|n=>n,fun|n=>n⟩
theorem Tryz.sortLn:Go.Proofs.SlLaysF0.n6 Tryz.prog Tryz.sortLn_ren:={
 mixed:=by kernel_rfl
 f6:=⟨Tryz.f96.name,by decide,xlay Tryz.func96⟩
 f14:=⟨Tryz.f139.name,by decide,xlay Tryz.func139⟩
 f15:=xlay Tryz.func140
 f20:=⟨Tryz.f169.name,by decide,xlay Tryz.func169⟩
 f21:=⟨Tryz.f170.name,by decide,xlay Tryz.func170⟩
 f22:=⟨Tryz.f171.name,by decide,xlay Tryz.func171⟩
 f23:=⟨Tryz.f172.name,by decide,xlay Tryz.func172⟩
 f24:=⟨Tryz.f173.name,by decide,xlay Tryz.func173⟩
 f25:=⟨Tryz.f174.name,by decide,xlay Tryz.func174⟩
 f26:=⟨Tryz.f175.name,by decide,xlay Tryz.func175⟩
 f27:=⟨Tryz.f176.name,by decide,xlay Tryz.func176⟩
 f28:=xlay Tryz.func177
 f29:=xlay Tryz.func178
 f46:=⟨Tryz.f203.name,by decide,xlay Tryz.func203⟩
 f47:=xlay Tryz.func204
 f48:=xlay Tryz.func205
 f49:=⟨Tryz.f206.name,by decide,xlay Tryz.func206⟩
 f50:=⟨Tryz.f207.name,by decide,xlay Tryz.func207⟩
 f57:=⟨Tryz.f221.name,by decide,xlay Tryz.func221⟩
 t0:=Tryz.underlying0
 a0:=Tryz.isAgg0
 z0:=Tryz.sizeOf0
 v0:=Tryz.zeroValue0
 t3:=Tryz.underlying3
 a3:=Tryz.isAgg3
 z3:=Tryz.sizeOf3
 v3:=Tryz.zeroValue3
 t4:=Tryz.underlying4
 a4:=Tryz.isAgg4
 z4:=Tryz.sizeOf4
 v4:=Tryz.zeroValue4
 t5:=Tryz.underlying5
 a5:=Tryz.isAgg5
 z5:=Tryz.sizeOf5
 v5:=Tryz.zeroValue5
 t9:=Tryz.underlying9
 a9:=Tryz.isAgg9
 z9:=Tryz.sizeOf9
 v9:=Tryz.zeroValue9
 t22:=Tryz.underlying54
 a22:=Tryz.isAgg54
 z22:=Tryz.sizeOf54
 v22:=Tryz.zeroValue54
 t25:=Tryz.underlying124
 a25:=Tryz.isAgg124
 z25:=Tryz.sizeOf124
 v25:=Tryz.zeroValue124
 t39:=Tryz.underlying92
 a39:=Tryz.isAgg92
 z39:=Tryz.sizeOf92
 v39:=Tryz.zeroValue92
 t45:=Tryz.underlying182
 a45:=Tryz.isAgg182
 z45:=Tryz.sizeOf182
 v45:=Tryz.zeroValue182
 t46:=Tryz.underlying183
 a46:=Tryz.isAgg183
 z46:=Tryz.sizeOf183
 v46:=Tryz.zeroValue183
 t50:=Tryz.underlying50
 a50:=Tryz.isAgg50
 z50:=Tryz.sizeOf50
 v50:=Tryz.zeroValue50
 t53:=Tryz.underlying189
 a53:=Tryz.isAgg189
 z53:=Tryz.sizeOf189
 v53:=Tryz.zeroValue189
 t55:=Tryz.underlying191
 a55:=Tryz.isAgg191
 z55:=Tryz.sizeOf191
 v55:=Tryz.zeroValue191
 t66:=Tryz.underlying213
 a66:=Tryz.isAgg213
 z66:=Tryz.sizeOf213
 v66:=Tryz.zeroValue213
 t70:=Tryz.underlying217
 a70:=Tryz.isAgg217
 z70:=Tryz.sizeOf217
 v70:=Tryz.zeroValue217
 t76:=Tryz.underlying231
 a76:=Tryz.isAgg231
 z76:=Tryz.sizeOf231
 v76:=Tryz.zeroValue231
 t77:=Tryz.underlying232
 a77:=Tryz.isAgg232
 z77:=Tryz.sizeOf232
 v77:=Tryz.zeroValue232}
end Go.Proofs
namespace Go.X
open U
open Go.Proofs
abbrev rwN:Sh:= .cl (.row 3 .int .no)
namespace U
def bl (o:Option BlD):BlD:=wR (Ty.dflt tBl) o
def SD (m:List (Int×Option BlD)):Prop:=∀e∈m,∃b,e.2=some b/\sk b
def Nq (o:BoD):Prop:=SD (Kj o)/\(Kj o).length<=100/\((Kj o).map (·.1)).Nodup/\∀e∈Kj o,∀b,e.2=some b->QX b=e.1
def SE (b:BlD) (a:Int) (out:List Int):Prop:=(vf b).length<=8/\(∀p∈vf b,0<=p/\p<(out.length:Int))/\0<=a/\a<=100000000000000000/\∀x∈out,-1000000000000000000<=x/\x<=1000000000000000000
end U
def uv:w4:=⟨[.val tLn,.val tLn],[.int],false,fun _=>[],fun d=>(xZ d.1 d.2.1,())⟩
def uw:Prop:=∀(d:JbD×JbD×Unit),(gx [dA d.1.1 d.2.1.1,dA d.1.2.1 d.2.1.2.1],())=(xZ d.1 d.2.1,())
abbrev sd:vq:=WM tLn 61
def BF:w4:=⟨[.val tBo],[.slice tLn],false,fun d=>[Nq d.1],fun d=>(wu d.1,())⟩
def BG:Ann:=fun r=>match r with
 |3=>some fun σ=>{X:=List (Int×Option BlD)×List LnD,sl:=fun _=>[(3,.own 3 tLn)],ob:=fun x=>[(8,some (.iter .int (.ptr tBl) x.1 none)),(3,some (.row 61 tLn false .yes x.2))],inv:=fun x=>(x.2++yl x.1).Perm (yl (Kj (gb tBo σ 1)))/\SD x.1,mu:=fun x=>x.1.length}
 |_=>none
abbrev jkU (a:Int×Option BlD):=(wR ((((0:Int),(0:Int),(0:Int),(0:Int),(0:Int),(0:Int),()),(0:Int),(0:Int),(0:Int),()),((0:Int),(0:Int),(0:Int),(0:Int),(0:Int),(0:Int),(0:Int),(0:Int),[],[],()),(0:Int),(0:Int),[],(0:Int),(0:Int),false,(0:Int),()) a.2)
abbrev jka:=(we (Ty.int.pair (Ty.int.pair (Ty.int.pair (Ty.int.pair (Ty.int.pair (Ty.int.pair Ty.unit)))))) fun(a:JbD×JbD×Unit)=>(xZ a.1 a.2.1,()))
def BH:Prop:=∀(d:BoD×Unit),Nq d.1->(∃(x:List (Int×Option BlD)×List JbD),((True/\True)/\d.1.2.1=x.1/\x.2=[]/\True)/\(x.2++yl x.1).Perm (yl (Kj d.1))/\SD x.1)/\∀(x:List (Int×Option BlD)×List JbD),(x.2++yl x.1).Perm (yl (Kj d.1))/\SD x.1->(x.1=[]->(false=true->False)/\(qF->(∀(e:JbD),e∈x.2->∀(y:JbD),y∈x.2->wC [])/\yq jka x.2/\(wd jka x.2,())=(wu d.1,())))/\∀(pre:List (Int×Option BlD)) (a:Int×Option BlD) (b:List (Int×Option BlD)),x.1=pre++a::b->(true=true->a.2.isSome=true/\sk (jkU a)/\(x.2.length+[vA (jkU a)].length)*48<=140737488355328/\∃(c:List (Int×Option BlD)×List JbD),((True/\True)/\x.2++[vA (jkU a)]=c.2/\pre++b=c.1/\True)/\((c.2++yl c.1).Perm (yl (Kj d.1))/\SD c.1)/\c.1.length<x.1.length)/\(true=false->(∀(f:JbD),f∈x.2->∀(y:JbD),y∈x.2->wC [])/\yq jka x.2/\(wd jka x.2,())=(wu d.1,()))
def Jy:w4:=⟨[.val (.slice .int)],[.int],false,fun d=>[d.1≠[]],fun d=>(aC d.1,())⟩
def Jz:Ann:=fun r=>match r with
 |5=>some fun σ=>{X:=Nat,sl:=fun i=>[(4,.dat .int (i:Int)),(3,.dat .int (((gd (.slice .int) σ 0).take i).foldl max (nth (gd (.slice .int) σ 0) 0)))],ob:=fun _=>[],inv:=fun i=>1<=i/\i<=(gd (.slice .int) σ 0).length,mu:=fun i=>(gd (.slice .int) σ 0).length-i}
 |_=>none
def JA:Prop:=∀(d:List Int×Unit),d.1≠[]->d.1.length<4611686018427387904->(decide ((d.1.length:Int)<1)=true->False)/\(decide ((d.1.length:Int)<1)=false->(0:Int)<=0/\0<(d.1.length:Int)/\(∃(x:Nat),((1=(x:Int)/\nth d.1 (Int.toNat 0)=List.foldl max (nth d.1 0) (List.take x d.1)/\True)/\True)/\1<=x/\x<=d.1.length)/\∀(x:Nat),1<=x/\x<=d.1.length->d.1.length<4611686018427387904->(decide ((x:Int)<d.1.length)=true->0<=(x:Int)/\(x:Int)<d.1.length/\wl ((x:Int)+1)/\∃(a:Nat),(((x:Int)+1=(a:Int)/\max (List.foldl max (nth d.1 0) (List.take x d.1)) (nth d.1 x)=List.foldl max (nth d.1 0) (List.take a d.1)/\True)/\True)/\(1<=a/\a<=d.1.length)/\d.1.length-a<d.1.length-x)/\(decide ((x:Int)<d.1.length)=false->(List.foldl max (nth d.1 0) (List.take x d.1),())=(aC d.1,())))
def BI:vq:=⟨[.val (.ptr tBl),.val .int,.own rwN true],[],fun d=>[d.1.isSome=true,SE (U.bl d.1) d.2.1 d.2.2.1],fun d=>((),(jbv d.2.1 (U.bl d.1) d.2.2.1,()))⟩
def BJ:Ann:=fun r=>match r with
 |1=>some fun σ=>{X:=Nat,sl:=fun i=>[(13,.dat .int (i:Int))],ob:=fun i=>[(1000002,some (.row 3 .int false .no (qb (gd .int σ 1) (gd (.slice .int) σ 11) (gr .int σ 1000002) i)))],inv:=fun i=>i<=(gd (.slice .int) σ 11).length,mu:=fun i=>(gd (.slice .int) σ 11).length-i}
 |_=>none
abbrev jgZ (d:Option BlD×Int×List Int×Unit):=(wR ((((0:Int),(0:Int),(0:Int),(0:Int),(0:Int),(0:Int),()),(0:Int),(0:Int),(0:Int),()),((0:Int),(0:Int),(0:Int),(0:Int),(0:Int),(0:Int),(0:Int),(0:Int),[],[],()),(0:Int),(0:Int),[],(0:Int),(0:Int),false,(0:Int),()) d.1)
abbrev jhV (d:Option BlD×Int×List Int×Unit):=(↑(jgZ d).q4.1.length:Int)
abbrev jiV (d:Option BlD×Int×List Int×Unit)(x:Nat):=(nth (jgZ d).q4.1 x)
abbrev jjx (d:Option BlD×Int×List Int×Unit)(x:Nat):=(qb d.2.1 (jgZ d).q4.1 d.2.2.1 x)
abbrev jkV (d:Option BlD×Int×List Int×Unit)(x:Nat):=(nth (jjx d x) (jiV d x).toNat+d.2.1.tdiv (jhV d))
abbrev jjy (d:Option BlD×Int×List Int×Unit)(x:Nat):=((jjx d x).set (jiV d x).toNat (jkV d x))
def BK:Prop:=∀(d:Option BlD×Int×List Int×Unit),d.1.isSome=true->SE (U.bl d.1) d.2.1 d.2.2.1->d.1.isSome=true/\((jgZ d).q4.1.length<4611686018427387904->(∃(x:Nat),((0=(x:Int)/\True)/\d.2.2.1=qb d.2.1 (jgZ d).q4.1 d.2.2.1 x/\True)/\x<=(jgZ d).q4.1.length)/\∀(x:Nat),x<=(jgZ d).q4.1.length->(decide ((x:Int)<(jhV d))=true->0<=(x:Int)/\(x:Int)<(jhV d)/\0<=nth (jgZ d).q4.1 x/\nth (jgZ d).q4.1 x<(↑(jjx d x).length:Int)/\d.1.isSome=true/\(jhV d)≠0/\wl (d.2.1.tdiv (jhV d))/\wl (jkV d x)/\0<=nth (jgZ d).q4.1 x/\nth (jgZ d).q4.1 x<(↑(jjx d x).length:Int)/\d.1.isSome=true/\((jgZ d).q4.1.length<4611686018427387904->(jhV d)≠0/\(decide ((x:Int)<d.2.1.tmod (jhV d))=true->0<=nth (jgZ d).q4.1 x/\nth (jgZ d).q4.1 x<(↑(jjy d x).length:Int)/\wl (nth (jjy d x) (jiV d x).toNat+1)/\0<=nth (jgZ d).q4.1 x/\nth (jgZ d).q4.1 x<(↑(jjy d x).length:Int)/\wl ((x:Int)+1)/\∃(a:Nat),(((x:Int)+1=(a:Int)/\True)/\(jjy d x).set (jiV d x).toNat (nth (jjy d x) (jiV d x).toNat+1)=qb d.2.1 (jgZ d).q4.1 d.2.2.1 a/\True)/\a<=(jgZ d).q4.1.length/\(jgZ d).q4.1.length-a<(jgZ d).q4.1.length-x)/\(decide ((x:Int)<d.2.1.tmod (jhV d))=false->wl ((x:Int)+1)/\∃(a:Nat),(((x:Int)+1=(a:Int)/\True)/\(jjx d x).set (jiV d x).toNat (jkV d x)=qb d.2.1 (jgZ d).q4.1 d.2.2.1 a/\True)/\a<=(jgZ d).q4.1.length/\(jgZ d).q4.1.length-a<(jgZ d).q4.1.length-x)))/\(decide ((x:Int)<(jhV d))=false->()=()/\(qb d.2.1 (jgZ d).q4.1 d.2.2.1 x,())=(jbv d.2.1 (U.bl d.1) d.2.2.1,())))
theorem xQ:uw:=fun _=>rfl
theorem ux:w9 PR 97 uv:=wT xQ Tryz.func97 (kcC gq (kcC cz kcN)) koN
theorem se:ax PR 96 sd:=
 Dz Tryz.sortLn 61 rfl (jz (by kernel_rfl)) Tryz.isAgg61 Tryz.sizeOf61 (yb Tryz.func96 (c:=qq Tryz.f96) (by kernel_rfl) (by kernel_rfl))
theorem jaW:i9 xZ:=by
 have e:xZ=Vs (fun a b=>dA (eQ a) (eQ b)) (fun a b=>dA (AF a) (AF b)):=by
  funext a b;unfold xZ;simp only[qw,Vs]
  split<;>(try rfl)
  split<;>(try rfl)
  rename_i h;exact(jM.1 h).symm
 rw[e];exact rK (pn nf eQ) (pn nf AF)
theorem YC {a b:LnD} (h:xZ a b=0):AF a=AF b:=by
 unfold xZ at h;rw[qw] at h
 split at h
 contradiction;rw[yc] at h;exact bK.1 h
def jgu (l:List LnD):Prop:=∀a∈l,∀b∈l,AF a=AF b->a=b
theorem jgc {l:List LnD} (h:jgu l):yq (we tLn fun x=>(xZ x.1 x.2.1,())) l:=Cb jaW (fun a b d e c=>h a d b e (YC c))
theorem HI {o:BoD} (h:Nq o):jgu (yl (Kj o)):=by
 obtain⟨j,_,c,d⟩:=h;intro a s b t e;obtain⟨x,f,rfl⟩:=jS.1 s;obtain⟨y,g,rfl⟩:=jS.1 t;obtain⟨p,l,_⟩:=j x f;obtain⟨q,m,_⟩:=j y g;have u:=d x f p l;have w:=d y g q m;rw[l,m] at e;have e:QX p=QX q:=e;have n:x.1=y.1:=(by rw[<-u,<-w,e]);have i:=(M.iw (kt:= .int) c (k:=x.1) (v:=x.2)).2 f;have r:=(M.iw (kt:= .int) c (k:=y.1) (v:=y.2)).2 g;rw[n,r] at i;have e2:y.2=x.2:=(by simpa using i);rw[e2]
theorem EK:BH:=by
 unfold BH jka jkU;rintro⟨o,⟨⟩⟩ n;have p:=HI n;obtain⟨s,d,t,u⟩:=id n;have d:(Kj o).length<=100:=d;refine⟨⟨(Kj o,[]),⟨⟨tZ,tZ⟩,rfl,rfl,tZ⟩,List.Perm.refl _,s⟩,fun x q=>⟨fun i=>⟨fun h=>(by cases h),fun _=>⟨fun _ _ _ _=>tZ,?_⟩⟩,fun pre e c j=>⟨fun _=> ?_,fun h=>(by cases h)⟩⟩⟩;obtain⟨l,out⟩:=x;have i:l=[]:=i;subst i;have f:(out++[]).Perm (yl (Kj o)):=q.1;rw[j6] at f;exact⟨jgc fun a r b g=>p a (f.mem_iff.1 r) b (f.mem_iff.1 g),jD (·,()) (K7 (jgc p) f)⟩;obtain⟨l,out⟩:=x;have j:l=pre++e::c:=j;subst j;obtain⟨f,hk⟩:(out++yl (pre++e::c)).Perm (yl (Kj o))/\SD (pre++e::c):=q;obtain⟨b,g,v⟩:=hk e (by simp);have m:=f.length_eq;simp only[yl,jH,zf,za] at m;obtain⟨k,z⟩:=e;have g:z=some b:=g;subst g;refine⟨rfl,v,by simp only[za,zu];omega,(pre++c,out++[vA b]),⟨⟨tZ,tZ⟩,rfl,rfl,tZ⟩,⟨?_,fun y w=>hk y ?_⟩,by simp only[jH,za];omega⟩;refine List.Perm.trans ?_ f;simp only[yl,zn,zy,jN,kl];exact List.Perm.append_left out List.perm_middle.symm;rcases jr.1 w with h|h;exact jh _ h;exact jg _ (jm _ h)
theorem lO:w9 PR 60 BF:=vb BG EK Tryz.func60 (kcC bM (kcC ux kcN)) (koC se koN)
theorem MT:JA:=by
 rintro⟨l,⟨⟩⟩ a c;have a:l≠[]:=a;have b:0<l.length:=kV.2 a;refine⟨fun h=> ?_,fun _=>⟨by decide,by simp only;omega,⟨1,⟨⟨rfl,?_,tZ⟩,tZ⟩,jj _,b⟩,fun x d _=>⟨fun h=> ?_,fun h=> ?_⟩⟩⟩;have h:(l.length:Int)<1:=ja h;omega;show nth l 0=List.foldl max (nth l 0) (l.take 1);have:=L.wQ (l:=l) (i:=0) b;rw[this];show nth l 0=max (nth l 0) (nth l 0);omega;have h:(x:Int)<l.length:=ja h;have c:l.length<4611686018427387904:=c;refine⟨jU _,h,iZ6,x+1,⟨⟨by simp,?_,tZ⟩,tZ⟩,⟨by omega,by show x+1<=l.length;omega⟩,by show l.length-(x+1)<l.length-x;omega⟩;show max (List.foldl max (nth l 0) (l.take x)) (nth l x)=List.foldl max (nth l 0) (l.take (x+1));rw[L.wQ (show x<l.length by omega),jO];rfl;have h:¬(x:Int)<l.length:=jc h;show(List.foldl max (nth l 0) (l.take x),())=(aC l,());rw[zw (by omega)];rfl
theorem JB:w9 PR 100 Jy:=vb Jz MT Tryz.func100 kcN koN
theorem f9 (a:Int) (tm out:List Int) (k:Nat):qb a tm out (k+1)=oE a tm (qb a tm out k) k:=by
 unfold qb;rw[j8,jO];rfl
theorem nM {a M:Int} {tm out:List Int} (h:0<=a/\a<=100000000000000000) (d:∀p∈tm,0<=p/\p<(out.length:Int)) (c:∀x∈out,-1000000000000000000<=x/\x<=M):
 ∀k,k<=tm.length->(qb a tm out k).length=out.length/\∀j,j<out.length->-1000000000000000000<=nth (qb a tm out k) j/\nth (qb a tm out k) j<=M+(k:Int)*100000000000000001
 |0,_=>⟨rfl,fun j e=>by
  have:=c _ (L.wh e)
  show _<=nth out j/\nth out j<=_
  omega⟩
 |k+1,hk=>by
  obtain⟨f,g⟩:=nM h d c k (by omega)
  have m:=d _ (L.wh (show k<tm.length by omega))
  have n:=UF (b:=(tm.length:Int)) h (by omega)
  rw[f9]
  unfold oE
  refine⟨by rw[zK,f],fun j e=> ?_⟩
  rw[L.gz (by rw[f];omega)]
  have i:=g j e
  have l:=g (nth tm k).toNat (by omega)
  split
  split<;>omega
  omega
theorem EL:BK:=by
 unfold BK jjy jkV jjx jiV jhV jgZ Prod.q4;rintro⟨o,a,out,⟨⟩⟩ j w;obtain⟨b,rfl⟩:∃b,o=some b:=Option.isSome_iff_exists.1 j;obtain⟨z,p,q,r,v⟩:SE b a out:=w;have F:=nM (tm:=vf b) ⟨q,r⟩ p v;refine⟨rfl,fun B=>⟨⟨0,⟨⟨rfl,tZ⟩,rfl,tZ⟩,jl _⟩,fun x t=>⟨fun h=> ?_,fun h=>⟨rfl,?_⟩⟩⟩⟩;have h:(x:Int)<(vf b).length:=ja h;have n:x<(vf b).length:=(by omega);obtain⟨k,u⟩:=F x (by omega);have d:=p _ (L.wh n);have y:=UF (b:=((vf b).length:Int)) ⟨q,r⟩ (by omega);have A:=u (nth (vf b) x).toNat (by omega);have l:(nth (vf b) x).toNat<(qb a (vf b) out x).length:=(by rw[k];omega);have j:=f9 a (vf b) out x;have f:((vf b).length:Int)≠0:=(by omega);have g:nth (vf b) x<((qb a (vf b) out x).length:Int):=(by rw[k];exact d.2);have s:nth ((qb a (vf b) out x).set (nth (vf b) x).toNat (nth (qb a (vf b) out x) (nth (vf b) x).toNat+a.tdiv ((vf b).length:Int))) (nth (vf b) x).toNat=nth (qb a (vf b) out x) (nth (vf b) x).toNat+a.tdiv ((vf b).length:Int):=by
  rw[L.gz l,je rfl]
 refine⟨jU _,h,d.1,g,rfl,f,Er y (by omega),L.GM (by show _<=nth (qb a (vf b) out x) (nth (vf b) x).toNat+a.tdiv ((vf b).length:Int);omega) (by show nth (qb a (vf b) out x) (nth (vf b) x).toNat+a.tdiv ((vf b).length:Int)<=_;omega),d.1,g,rfl,fun _=>⟨f,fun c=> ?_,fun c=> ?_⟩⟩;have c:(x:Int)<a.tmod ((vf b).length:Int):=ja c;have m:((qb a (vf b) out x).set (nth (vf b) x).toNat (nth (qb a (vf b) out x) (nth (vf b) x).toNat+a.tdiv ((vf b).length:Int))).length=out.length:=(by rw[zK,k]);have i:nth (vf b) x<(((qb a (vf b) out x).set (nth (vf b) x).toNat (nth (qb a (vf b) out x) (nth (vf b) x).toNat+a.tdiv ((vf b).length:Int))).length:Int):=(by rw[m];exact d.2);refine⟨d.1,i,?_,d.1,i,iZ6,x+1,⟨⟨by simp,tZ⟩,?_,tZ⟩,by show x+1<=(vf b).length;omega,by show(vf b).length-(x+1)<(vf b).length-x;omega⟩;show wl (nth ((qb a (vf b) out x).set (nth (vf b) x).toNat (nth (qb a (vf b) out x) (nth (vf b) x).toNat+a.tdiv ((vf b).length:Int))) (nth (vf b) x).toNat+1);rw[s];exact iZ6;show((qb a (vf b) out x).set (nth (vf b) x).toNat (nth (qb a (vf b) out x) (nth (vf b) x).toNat+a.tdiv ((vf b).length:Int))).set (nth (vf b) x).toNat (nth ((qb a (vf b) out x).set (nth (vf b) x).toNat (nth (qb a (vf b) out x) (nth (vf b) x).toNat+a.tdiv ((vf b).length:Int))) (nth (vf b) x).toNat+1)=qb a (vf b) out (x+1);rw[s,List.set_set,j];unfold oE;rw[je c];have c:¬(x:Int)<a.tmod ((vf b).length:Int):=jc c;refine⟨iZ6,x+1,⟨⟨by simp,tZ⟩,?_,tZ⟩,by show x+1<=(vf b).length;omega,by show(vf b).length-(x+1)<(vf b).length-x;omega⟩;show(qb a (vf b) out x).set (nth (vf b) x).toNat (nth (qb a (vf b) out x) (nth (vf b) x).toNat+a.tdiv ((vf b).length:Int))=qb a (vf b) out (x+1);rw[j];unfold oE;rw[jd c,Int.add_zero];have h:¬(x:Int)<(vf b).length:=jc h;have t:x<=(vf b).length:=t;have e:x=(vf b).length:=(by omega);subst e;rfl
theorem BL:ax PR 77 BI:=tD BJ EL Tryz.func77 kcN koN
namespace U
def Nr (o:BoD):Prop:=Nq o/\(vd (bH o)).length<=100/\(∀n∈vd (bH o),0<=n/\n<=20)/\∀e∈Kj o,∀b,e.2=some b->NF b∈vd (bH o)
def Ns (o:BoD):Prop:=Nq o/\(wj (ww (wq (bH o)))).length<=100/\∀e∈Kj o,∀b,e.2=some b->∀p∈vf b,0<=p/\p<((wj (ww (wq (bH o)))).length:Int)
end U
def xR:w4:=⟨[.val tBo],[.slice .int],false,fun d=>[Nr d.1],fun d=>(yC d.1,())⟩
def xS:Ann:=fun r=>match r with
 |5=>some fun σ=>{X:=Nat,sl:=fun i=>[(20,.dat .int (i:Int))],ob:=fun i=>[(3,some (.row 3 .int false .no (vQ (aC (vd (bH (gb tBo σ 1)))+1).toNat (gd (.slice tLn) σ 18) i)))],inv:=fun i=>i<=(gd (.slice tLn) σ 18).length,mu:=fun i=>(gd (.slice tLn) σ 18).length-i}
 |_=>none
abbrev jhW (d:BoD×Unit)(x:Nat):=(nth (wu d.1) x)
abbrev jkb (d:BoD×Unit):=(aC (vd (bH d.1))+1)
abbrev jjz (d:BoD×Unit)(x:Nat):=(vQ (jkb d).toNat (wu d.1) x)
def xT:Prop:=∀(d:BoD×Unit),Nr d.1->d.1.1.2.1.length<4611686018427387904->(decide ((d.1.1.2.1.length:Int)=0)=true->([],())=(yC d.1,()))/\(decide ((d.1.1.2.1.length:Int)=0)=false->d.1.1.2.1≠[]/\wl (aC d.1.1.2.1+1)/\0<=aC d.1.1.2.1+1/\aC d.1.1.2.1+1=aC d.1.1.2.1+1/\(aC d.1.1.2.1+1).toNat*8<=140737488355328/\Nq d.1/\((wu d.1).length<4611686018427387904->(∃(x:Nat),((0=(x:Int)/\True)/\List.replicate (aC d.1.1.2.1+1).toNat 0=vQ (jkb d).toNat (wu d.1) x/\True)/\x<=(wu d.1).length)/\∀(x:Nat),x<=(wu d.1).length->(decide ((x:Int)<(wu d.1).length)=true->0<=(x:Int)/\(x:Int)<(wu d.1).length/\(0:Int)<=(jhW d x).1/\(jhW d x).1<(↑(jjz d x).length:Int)/\wl (nth (jjz d x) (jhW d x).1.toNat+(jhW d x).q4.2.1)/\(0:Int)<=(jhW d x).1/\(jhW d x).1<(↑(jjz d x).length:Int)/\wl ((x:Int)+1)/\∃(a:Nat),(((x:Int)+1=(a:Int)/\True)/\(jjz d x).set (jhW d x).1.toNat (nth (jjz d x) (jhW d x).1.toNat+(jhW d x).q4.2.1)=vQ (jkb d).toNat (wu d.1) a/\True)/\a<=(wu d.1).length/\(wu d.1).length-a<(wu d.1).length-x)/\(decide ((x:Int)<(wu d.1).length)=false->(vQ (jkb d).toNat (wu d.1) x,())=(yC d.1,()))))
def Gf:w4:=⟨[.val tBo,.val .int],[.slice .int],false,fun d=>[Ns d.1],fun d=>(yO d.1 d.2.1,())⟩
abbrev jhI (d:BoD×Int×Unit):=(wW none (wG Ty.int d.2.1 d.1.2.1))
abbrev jjA (d:BoD×Int×Unit):=(wR ((((0:Int),(0:Int),(0:Int),(0:Int),(0:Int),(0:Int),()),(0:Int),(0:Int),(0:Int),()),((0:Int),(0:Int),(0:Int),(0:Int),(0:Int),(0:Int),(0:Int),(0:Int),[],[],()),(0:Int),(0:Int),[],(0:Int),(0:Int),false,(0:Int),()) (jhI d))
abbrev jiz (d:BoD×Int×Unit):=(d.1.1.1.1.2.1.length:Int)
abbrev jlN (d:BoD×Int×Unit):=(jbv (vA (jjA d)).2.2.1 (U.bl (jhI d)) (List.replicate (jiz d).toNat (0:Int)))
def Gg:Prop:=∀(d:BoD×Int×Unit),Ns d.1->d.1.1.1.1.2.1.length<4611686018427387904->0<=(jiz d)/\(jiz d)=(jiz d)/\(jiz d).toNat*8<=140737488355328/\((!(jhI d).isNone)=true->(jhI d).isSome=true/\sk (jjA d)/\(jhI d).isSome=true/\SE (U.bl (jhI d)) (vA (jjA d)).2.2.1 (List.replicate (jiz d).toNat (0:Int))/\(jhI d).isSome=true/\SE (U.bl (jhI d)) (vA (jjA d)).2.2.2.1 (jlN d)/\(jbv (vA (jjA d)).2.2.2.1 (U.bl (jhI d)) (jlN d),())=(yO d.1 d.2.1,()))/\((!(jhI d).isNone)=false->(List.replicate (jiz d).toNat (0:Int),())=(yO d.1 d.2.1,()))
theorem JC:Gg:=by
 unfold Gg jlN jiz jjA jhI;intro d A E;obtain⟨m,l,k⟩:Ns d.1:=A;have l:(wj (ww (wq (bH d.1)))).length<=100:=l;refine⟨jU _,rfl,?_,fun h=> ?_,fun h=> ?_⟩;show(((wj (ww (wq (bH d.1)))).length:Int)).toNat*8<=140737488355328;omega;obtain⟨b,e⟩:∃b,wW none (wG Ty.int d.2.1 d.1.2.1)=some b:=by
  cases g:wW none (wG Ty.int d.2.1 d.1.2.1) with
  |none=>rw[g] at h;cases h
  |some b=>exact⟨b,rfl⟩
 have i:(d.2.1,some b)∈Kj d.1:=by
  refine(M.iw (kt:= .int) m.2.2.1).1 ?_;cases g:wG (β:=Option BlD) Ty.int d.2.1 d.1.2.1 with
  |none=>rw[g] at e;cases e
  |some v=>rw[g] at e;exact g.trans (jD some e)
 obtain⟨z,o,u⟩:=m.1 _ i;have o:some b=some z:=o;simp only[jy] at o;subst o;have w:Kh b:=bL.1 u;have D:=k _ i b rfl;have n:=w.bl.tm;have s:=uj w;have C:=uk w;have ep:yO d.1 d.2.1=Vn (wj (ww (wq (bH d.1)))).length (some b):=jD (Vn (wj (ww (wq (bH d.1)))).length) e;rw[e,ep];have f:∀p∈vf b,0<=p/\p<((List.replicate (wj (ww (wq (bH d.1)))).length (0:Int)).length:Int):=fun p q=>by rw[jW];exact D p q
 obtain⟨r,y⟩:=nM (a:=qR b) (M:=0) (tm:=vf b) ⟨s.1,by omega⟩ f (fun x c=>by rw[List.eq_of_mem_replicate c];omega) (vf b).length (jj _);refine⟨rfl,u,rfl,⟨n,f,s.1,?_,fun x c=> ?_⟩,rfl,⟨n,fun p q=> ?_,C.1,?_,fun x c=> ?_⟩,rfl⟩;show qR b<=100000000000000000;omega;have c:x∈List.replicate (wj (ww (wq (bH d.1)))).length (0:Int):=c;rw[List.eq_of_mem_replicate c];omega;have B:=f p q;show 0<=p/\p<((qb (qR b) (vf b) (List.replicate (wj (ww (wq (bH d.1)))).length (0:Int)) (vf b).length).length:Int);rw[r];exact B;show vn b<=100000000000000000;omega;have c:x∈qb (qR b) (vf b) (List.replicate (wj (ww (wq (bH d.1)))).length (0:Int)) (vf b).length:=c;obtain⟨j,t,rfl⟩:=L.mem_iff.1 c;have:=y j (by rw[r] at t;exact t);omega;have e:wW none (wG Ty.int d.2.1 d.1.2.1)=none:=by
  cases g:wW none (wG Ty.int d.2.1 d.1.2.1) with
  |none=>rfl
  |some b=>rw[g] at h;cases h
 have ep:yO d.1 d.2.1=Vn (wj (ww (wq (bH d.1)))).length none:=jD (Vn (wj (ww (wq (bH d.1)))).length) e;rw[ep];rfl
theorem pu:w9 PR 47 Gf:=wT JC Tryz.func47 (kcC bM kcN) (koC BL koN)
theorem JD {b:BlD} (w:Kh b): -1000000<=Kc (vA b)/\Kc (vA b)<=20000000000000000:=by
 have c:=uj w;have d:=uk w;have e:=w.bl.ta.cp;have a:0<=(qR b+vn b)*nth (bn (au b)) (ct (gg (vJ b))).toNat/\(qR b+vn b)*nth (bn (au b)) (ct (gg (vJ b))).toNat<=10000001000000000*100:=Jr (by omega) (Yn w.bl);have f:=UF (b:=100) a (by omega);show-1000000<=qR b+vn b-px b/\qR b+vn b-px b<=20000000000000000;unfold px;omega
theorem HJ {o:BoD} (h:Nq o) {x:LnD} (c:x∈wu o):∃k b,(k,some b)∈Kj o/\Kh b/\x=vA b:=by
 have c:x∈yl (Kj o):=(qn _).mem_iff.1 c;obtain⟨⟨k,v⟩,d,rfl⟩:=jS.1 c;obtain⟨b,a,e⟩:=h.1 _ d;have a:v=some b:=a;subst a;exact⟨k,b,d,bL.1 e,rfl⟩
theorem HK {o:BoD} (h:Nq o):(wu o).length<=100:=by
 have e:(wu o).length=(yl (Kj o)).length:=(qn _).length_eq;have e2:(yl (Kj o)).length=(Kj o).length:=zf _;have:=h.2.1;omega
theorem EM:∀(l:List Int) (a:Int),a<=l.foldl max a/\(∀n∈l,n<=l.foldl max a)/\(l.foldl max a=a\/l.foldl max a∈l)
 |[],a=>⟨zO _,fun n c=>(by cases c),Or.inl rfl⟩
 |x::r,a=>by
  obtain⟨e,d,b⟩:=EM r (max a x)
  show a<=r.foldl max (max a x)/\_/\(r.foldl max (max a x)=a\/r.foldl max (max a x)∈x::r)
  refine⟨by omega,fun n c=> ?_,?_⟩
  show n<=r.foldl max (max a x)
  rcases jk.1 c with rfl|c
  omega
  exact d n c
  rcases b with b|b
  rcases Int.le_total a x with h|h
  right;rw[b,Int.max_eq_right h];simp
  left;rw[b,Int.max_eq_left h]
  right;exact jm _ b
theorem Qn {l:List Int} {n:Int} (h:n∈l):n<=aC l:=(EM l (nth l 0)).2.1 n h
theorem JE {l:List Int} (h:l≠[]):aC l∈l:=by
 rcases(EM l (nth l 0)).2.2 with a|a;have:aC l=nth l 0:=a;rw[this];exact L.wh (kV.2 h);exact a
theorem xU {n:Nat} {l:List LnD} {k:Nat} (h:k<l.length):vQ n l (k+1)=jbu (vQ n l k) (nth l k):=by
 unfold vQ;rw[L.wQ h,jO];rfl
theorem uy {n:Nat} {l:List LnD} (h:∀x∈l,(0<=eQ x/\eQ x<(n:Int))/\-1000000<=Kc x/\Kc x<=20000000000000000):
 ∀k,k<=l.length->(vQ n l k).length=n/\∀j,j<n->-1000000*(k:Int)<=nth (vQ n l k) j/\nth (vQ n l k) j<=20000000000000000*(k:Int)
 |0,_=>⟨jW,fun j a=>by
  have:nth (vQ n l 0) j=0:=L.bN a
  rw[this];omega⟩
 |k+1,hk=>by
  obtain⟨b,c⟩:=uy h k (by omega)
  obtain⟨⟨f,g⟩,i,m⟩:=h _ (L.wh (show k<l.length by omega))
  rw[xU (by omega)]
  unfold jbu
  refine⟨by rw[zK,b],fun j a=> ?_⟩
  rw[L.gz (by rw[b];omega)]
  have d:=c j a
  have e:=c (eQ (nth l k)).toNat (by omega)
  split<;>omega
theorem BM:xT:=by
 unfold xT jjz jkb jhW Prod.q4;intro d s C;obtain⟨c,a,i,w⟩:Nr d.1:=s;have a:(vd (bH d.1)).length<=100:=a;refine⟨fun h=> ?_,fun h=> ?_⟩;have h:((vd (bH d.1)).length:Int)=0:=ja h;have e:yC d.1=[]:=je (by omega);rw[e];have h:¬((vd (bH d.1)).length:Int)=0:=jc h;have g:vd (bH d.1)≠[]:=fun e=>h (by rw[e];rfl)
 have D:=i _ (JE g);have e:yC d.1=vQ (aC (vd (bH d.1))+1).toNat (wu d.1) (wu d.1).length:=jd (by omega);have m:∀x∈wu d.1,(0<=eQ x/\eQ x<(((aC (vd (bH d.1))+1).toNat:Nat):Int))/\-1000000<=Kc x/\Kc x<=20000000000000000:=fun x m=>by
  obtain⟨k,b,t,u,rfl⟩:=HJ c m;have n:=w _ t b rfl;have A:=Qn n;have v:=i _ n;refine⟨⟨v.1,?_⟩,JD u⟩;show NF b<_;omega
 have F:=uy m;have B:=HK c;refine⟨g,L.GM (by show _<=aC (vd (bH d.1))+1;omega) (by show aC (vd (bH d.1))+1<=_;omega),by show 0<=aC (vd (bH d.1))+1;omega,rfl,by show(aC (vd (bH d.1))+1).toNat*8<=140737488355328;omega,c,fun _=>⟨⟨0,⟨⟨rfl,tZ⟩,rfl,tZ⟩,jl _⟩,fun x j=>⟨fun f=> ?_,fun f=> ?_⟩⟩⟩;have f:(x:Int)<(wu d.1).length:=ja f;have l:x<(wu d.1).length:=(by omega);obtain⟨⟨o,y⟩,E,G⟩:=m _ (L.wh l);obtain⟨q,r⟩:=F x (by omega);have z:=r (eQ (nth (wu d.1) x)).toNat (by omega);have p:eQ (nth (wu d.1) x)<((vQ (aC (vd (bH d.1))+1).toNat (wu d.1) x).length:Int):=(by rw[q];exact y);refine⟨jU _,f,o,p,?_,o,p,iZ6,x+1,⟨⟨by simp,tZ⟩,(xU l).symm,tZ⟩,by show x+1<=(wu d.1).length;omega,by show(wu d.1).length-(x+1)<(wu d.1).length-x;omega⟩;show wl (nth (vQ (aC (vd (bH d.1))+1).toNat (wu d.1) x) (eQ (nth (wu d.1) x)).toNat+Kc (nth (wu d.1) x));exact iZ6;have f:¬(x:Int)<(wu d.1).length:=jc f;have j:x<=(wu d.1).length:=j;have ex:x=(wu d.1).length:=(by omega);subst ex;rw[e]
theorem ic:w9 PR 61 xR:=vb xS BM Tryz.func61 (kcC JB (kcC lO kcN)) koN
namespace U
def bo (l:LgD):BoD:=(l,Np l,())
def Nt (l:LgD):List Int:=if wU l=0 then yC (bo l) else[]
def qU (l:LgD) (n:Int):Bool:=wa n 0 (((wm (wq l)).length:Int)-1)
def BQ (l:LgD) (n:Int):List Int:=if qk l (qU l n)=0 then yO (bo l) n else[]
def gB (m:Int):Bool:=wa m (-100000) 1440
def gL (m:Int):Bool:=wa m 0 1000000000
def GG (l:LgD) (n m:Int):Int:=if qk l (qU l n&&gB m)=0 then(match QY (bo l) n with|some b=>Kc (vA b)-av m b|none=>0) else 0
end U
theorem JF {l:LgD} {e:Int×Option BlD} (h:e∈Np l):∃n,n∈wb (wq l)/\e=(n,some (wX l n)):=by
 rw[Ev] at h;obtain⟨n,a,rfl⟩:=jS.1 h;exact⟨n,a,rfl⟩
theorem Si {l:LgD} (h:sq l):(wb (wq l)).length<=4:=by
 have a:=h.dy;unfold qG at a;rw[ji] at a;have a:=(ja a.1).1;unfold wb
 split
 unfold aK;rw[zf];exact jF (zA _ _) (by rw[zx];exact a);exact jl _
theorem YD {l:LgD} (h:sq l):Nq (U.bo l):=by
 refine⟨fun e c=> ?_,?_,?_,fun e c b a=> ?_⟩;obtain⟨n,d,rfl⟩:=JF c;exact⟨_,rfl,bL.2 (Ey h (Jt d))⟩;show(Np l).length<=100;have:=Si h;rw[Ev,zf];omega;show((Np l).map (·.1)).Nodup;rw[Ev,kA];have e:((fun(x:Int×Option BlD)=>x.1)∘fun n=>(n,some (wX l n)))=id:=rfl;rw[e,List.map_id];exact oA _;obtain⟨n,d,rfl⟩:=JF c;have a:some (wX l n)=some b:=a;simp only[jy] at a;subst a;exact(vW l n _ (jj _)).2.2.1
theorem jdM {l:LgD} (h:sq l):Nr (U.bo l):=by
 have d:(wm (wq l)).length<=4:=by
  have c:=h.dy;unfold qG at c;rw[ji] at c;exact(ja c.1).1
 refine⟨YD h,?_,h.py.2,fun e f b a=> ?_⟩;show(vd l).length<=100;rw[h.py.1];omega;obtain⟨n,i,rfl⟩:=JF f;have a:some (wX l n)=some b:=a;simp only[jy] at a;subst a;have e:NF (wX l n)=nth (vd l) n.toNat:=(vW l n _ (jj _)).2.2.2.1;rw[e];have:=Jt i;have g:n.toNat<(vd l).length:=(by rw[h.py.1];omega);exact L.wh g
theorem jaX {l:LgD} (h:sq l):Ns (U.bo l):=by
 refine⟨YD h,?_,fun e c b a=> ?_⟩;show(wj (ww (wq l))).length<=100;have:=jeo h;omega;obtain⟨n,d,rfl⟩:=JF c;have a:some (wX l n)=some b:=a;simp only[jy] at a;subst a;have e:vf (wX l n)=qN l n (wj (ww (wq l))).length:=(vW l n _ (jj _)).2.2.2.2.1;rw[e];exact(nJ _ _).2
namespace U
def vK (l:LgD) (b:Int):BkD:=nth (wm (wq l)) b.toNat
def Nu (l:LgD) (b:Int) (x:Int×Bool) (c:CaD):Int×Bool:=if jed c=b/\QW c<=qh (vK l b)/\(x.2=false\/QW c<x.1) then(QW c,true) else x
def ve (l:LgD) (b:Int) (k:Nat):Int×Bool:=((qj l).take k).foldl (Nu l b) (0,false)
def gC (l:LgD) (b:Int):Int×Bool:=ve l b (qj l).length
def sn (l:LgD) (b:Int) (i:Nat):Bool:=decide (jbt (vB l)<=qh (vK l b)+i)||decide (qh (vK l b)+i<jec (vB l))
def ym (l:LgD) (b:Int) (k:Nat):Int:=(((List.range k).countP (sn l b):Nat):Int)
def QZ (l:LgD) (b:Int):Int:=ym l b (gH (vK l b)-qh (vK l b)).toNat
def ew (l:LgD) (b m:Int):Int:=m*Zr (vB l)*max (jeb (vB l)) (up (gH (vK l b)-qh (vK l b)) (QV (vB l)))
def qO (l:LgD) (b m:Int):Int:=ew l b m+up (ew l b m*GC (vB l)*QZ l b) (100*(gH (vK l b)-qh (vK l b)))
def pz (l:LgD) (b m:Int) (n:NoD):Bool:=decide (Zp n<=qh (vK l b)-m)
def am (l:LgD) (b m:Int):Int:=if 0<=gN (pz l b m) (aB (vB l)) then Zq (nth (aB (vB l)) (gN (pz l b m) (aB (vB l))).toNat) else 100
def x7 (l:LgD) (b t:Int):Int:=if(gC l b).2=true then up (qO l b (BT.size t)*am l b (gC l b).1) 100 else qO l b (BT.size t)
def x8 (l:LgD) (b t:Int):Int:=if(gC l b).2=true then 0 else Nm (vB l)*nth (oD l) b.toNat*BT.size t
def jef (l:LgD) (b t:Int):Int:=min (Nn (vB l)) (((x7 l b t+x8 l b t)*nth (bn (vB l)) (ct (gg (vK l b))).toNat).tdiv 100)
def wO (l:LgD) (b t:Int):LnD:=(nth (vd l) b.toNat,b,x7 l b t,x8 l b t,jef l b t,x7 l b t+x8 l b t-jef l b t,())
def wK (l:LgD) (b:Int):Int:=nth (sr (wq l)) b.toNat
def Q1 (l:LgD) (b:Int):Bool:=Fa (ww (wq l)) (gg (vK l b)) (wK l b)
def jeu (l:LgD) (p:Int) (b:Nat):Bool:=Q1 l (b:Int)&&decide (nth (vd l) b=p)
def yx (l:LgD) (p:Int) (k:Nat):List LnD:=((List.range k).filter (jeu l p)).map (fun(b:Nat)=>wO l (b:Int) (wK l (b:Int)))
def qX (l:LgD) (n:Nat):List LnD:=(List.range n).flatMap (fun(p:Nat)=>yx l (p:Int) (vd l).length)
def x9 (l:LgD):List LnD:=qX l 21
def qt (l:LgD) (k:Nat):Int:=((vd l).take k).foldl (fun m p=>max m (p+1)) 0
def lU (l:LgD):Int:=qt l (vd l).length
def jeg (l:LgD):List Int:=vQ (lU l).toNat (x9 l) (x9 l).length
def dz (a m:Int) (i:Nat):Int:=a.tdiv m+(if(i:Int)<a.tmod m then 1 else 0)
def vR (a m:Int) (k:Nat):List Int:=(List.range k).map (dz a m)
def wD (a m:Int):List Int:=vR a m m.toNat
def Nv (w t:List Int) (a:Int) (x:List Int×Int) (p:Nat):List Int×Int:=if w7 a (p:Int)=true then(x.1.set p (nth w x.2.toNat+nth t x.2.toNat),x.2+1) else x
def qp (w t:List Int) (a:Int) (n k:Nat):List Int×Int:=(List.range k).foldl (Nv w t a) (List.replicate n 0,0)
def wB (l:LgD):Nat:=(wj (ww (wq l))).length
def gY (l:LgD) (b:Int):List Int:=if Q1 l b=true then(qp (wD (x7 l b (wK l b)) (BT.size (wK l b))) (wD (x8 l b (wK l b)) (BT.size (wK l b))) (wK l b) (wB l) (wB l)).1 else List.replicate (wB l) 0
def Ke (l:LgD) (b:Int):Prop:=yB (vB l)=true/\(0<=b/\b<((wm (wq l)).length:Int))/\(vd l).length=(wm (wq l)).length/\(oD l).length=(wm (wq l)).length/\(∀n∈oD l,0<=n/\n<=300)/\
 (0<=qh (vK l b)/\qh (vK l b)<gH (vK l b)/\gH (vK l b)<=1440)/\(0<=ct (gg (vK l b))/\ct (gg (vK l b))<=3)/\(qj l).length<=1000/\∀c∈qj l,-100000<=QW c/\QW c<=1440
end U
theorem jb6 {l:LgD} (h:sq l) {b:Int} (a:0<=b/\b<((wm (wq l)).length:Int)):Ke l b:=by
 obtain⟨d,e⟩:=Ew h a;exact⟨cB.2 h.ta,a,h.py.1,h.tr.1,h.tr.2,d,e,by have:=h.cl.1;omega,fun c f=>(h.cl.2 c f).2.2⟩
theorem sf {l:LgD} {b:Int} {k:Nat} (h:k<(qj l).length):ve l b (k+1)=Nu l b (ve l b k) (nth (qj l) k):=by
 unfold ve;rw[L.wQ h,jO];rfl
theorem YE {l:LgD} {b:Int} (h:∀c∈qj l,-100000<=QW c/\QW c<=1440):∀k,k<=(qj l).length->-100000<=(ve l b k).1/\(ve l b k).1<=1440
 |0,_=>by show-100000<=(0:Int)/\(0:Int)<=1440;omega
 |k+1,hk=>by
  rw[sf (by omega)]
  unfold Nu
  split
  exact h _ (L.wh (by omega))
  exact YE h k (by omega)
theorem MU {l:LgD} {n:Int}:∀k,k<=(qj l).length->(sw (wx l n k),uP (wx l n k))=ve l n k
 |0,_=>rfl
 |k+1,hk=>by
  have d:=MU (l:=l) (n:=n) k (by omega)
  have c:vJ (wx l n k)=vK l n:=(vW l n k (by omega)).1
  rw[d8 (by omega),sf (by omega),<-d]
  unfold uK Nu
  by_cases a:jed (nth (qj l) k)=n
  rw[je a]
  unfold aa
  rw[c]
  by_cases b:QW (nth (qj l) k)<=qh (vK l n)/\(uP (wx l n k)=false\/QW (nth (qj l) k)<sw (wx l n k))
  rw[je b,je ⟨a,b⟩];rfl
  rw[jd b,jd (fun h=>b h.2)]
  rw[jd a,jd (fun h=>a h.1)]
theorem YF {l:LgD} {b:Int} (a:jec (vB l)<=jbt (vB l)):∀k:Nat,ym l b k=max 0 (qh (vK l b)+k-max (qh (vK l b)) (jbt (vB l)))+max 0 (min (qh (vK l b)+k) (jec (vB l))-qh (vK l b))
 |0=>by
  show(0:Int)=_
  omega
 |k+1=>by
  have c:=YF (b:=b) a k
  have e:ym l b (k+1)=ym l b k+(if sn l b k=true then 1 else 0):=by
   unfold ym;rw[j8,zL,kN]
   split<;>simp
  rw[e,c];by_cases h:sn l b k=true;rw[je h];unfold sn at h;rw[zt,jp,jp] at h;omega;rw[jd h];unfold sn at h;rw[zt,jp,jp] at h;omega
theorem Qo (l:LgD) (b:Int) (k:Nat):0<=ym l b k/\ym l b k<=(k:Int):=by
 unfold ym;have:=List.countP_le_length (p:=sn l b) (l:=List.range k);rw[zx] at this;omega
theorem UR {w:Int} (h:0<=w):U.up (w*100) 100=w:=by
 unfold U.up;rw[ko (by omega)];omega
theorem uz {d:DyD} (h:aA d=0) {b:Nat} (g:b<(wm d).length):(((qH (nth (sr d) b) (wj (ww d)).length).length:Nat):Int)=BT.size (nth (sr d) b):=by
 have e:sr d=(Ki d).1:=je h;have a:=jb0 h g;rw[<-e] at a;have l:(wj (ww d)).length<=8:=by
  have c:=(HC h).1;unfold wy at c;rw[ji] at c;exact(ja c.1).2.2.1
 have k:BT.qm (nth (sr d) b):=⟨a.1,Int.lt_trans a.2 (by
  have:(2:Int)^(wj (ww d)).length<2^62:=by
   rw[BT.Ci,BT.Ci];exact Int.ofNat_lt.2 (Nat.pow_lt_pow_right (by decide) (by omega))
  exact this)⟩
 unfold qH BT.size;rw[zf,<-List.countP_eq_length_filter];obtain⟨m,j⟩:∃m,62=(wj (ww d)).length+m:=⟨62-(wj (ww d)).length,by omega⟩;rw[j,List.range_add,zL];have z:List.countP (fun p=>BT.has (nth (sr d) b) p) (List.map (fun x=>(wj (ww d)).length+x) (List.range m))=0:=by
  rw[zZ];intro p f i;obtain⟨q,n,rfl⟩:=jS.1 f;have:=BT.has_lt a.1 a.2 i;omega
 rw[z,zM];congr 1;refine List.countP_congr fun p f=> ?_
 have:=Cd k (p:Int);rw[this];simp
theorem jaY {l:LgD} (h:aA (wq l)=0) (u:jec (vB l)<=jbt (vB l)) {n:Int} (A:0<=n/\n<((wm (wq l)).length:Int)) (z:qh (vK l n)<gH (vK l n)) (v:0<=su (lT l n)):vA (wX l n)=wO l n (wK l n):=by
 obtain⟨c1,c2,e,f,y,g,i⟩:=vW l n _ (jj _);have c1:vJ (wX l n)=vK l n:=c1;have c2:au (wX l n)=vB l:=c2;have e:QX (wX l n)=n:=e;have f:NF (wX l n)=nth (vd l) n.toNat:=f;have g:su (wX l n)=su (lT l n):=g;have i:GD (wX l n)=GD (lT l n):=i;have a:=MU (l:=l) (n:=n) _ (jj _);have w:sw (wX l n)=(gC l n).1:=jD (·.1) a;have s:uP (wX l n)=(gC l n).2:=jD (·.2) a;have b:(((qN l n (wj (ww (wq l))).length).length:Nat):Int)=BT.size (wK l n):=by
  unfold qN wK;rw[X3,je h,<-(je h:sr (wq l)=_)];exact uz h (by omega)
 have k:ae (uJ l n (qN l n (wj (ww (wq l))).length))=QZ l n:=by
  unfold QZ;rw[YF u];show max 0 (gH (vK l n)-max (qh (vK l n)) (jbt (vB l)))+max 0 (min (gH (vK l n)) (jec (vB l))-qh (vK l n))=_;omega
 have p:su (lT l n)=qO l n (BT.size (wK l n)):=by
  show nW (uJ l n (qN l n (wj (ww (wq l))).length))+U.up (nW (uJ l n (qN l n (wj (ww (wq l))).length))*GC (vB l)*ae (uJ l n (qN l n (wj (ww (wq l))).length))) (100*(gH (vK l n)-qh (vK l n)))=_;have j:nW (uJ l n (qN l n (wj (ww (wq l))).length))=ew l n (BT.size (wK l n)):=by
   show(((qN l n (wj (ww (wq l))).length).length:Nat):Int)*Zr (vB l)*max (jeb (vB l)) (U.up (gH (vK l n)-qh (vK l n)) (QV (vB l)))=_;rw[b];rfl
  rw[j,k];rfl
 have o:GD (lT l n)=Nm (vB l)*nth (oD l) n.toNat*BT.size (wK l n):=by
  show(((qN l n (wj (ww (wq l))).length).length:Nat):Int)*Nm (vB l)*nth (oD l) n.toNat=_;rw[b,Int.mul_assoc,Int.mul_comm]
 have m:ir (wX l n)=pz l n (gC l n).1:=by
  funext x;unfold ir pz;rw[c1,w]
 have r:qR (wX l n)=x7 l n (wK l n):=by
  unfold qR x7 Vm am;rw[s,c2,m,g,<-p];by_cases c:(gC l n).2=true;rw[je c];by_cases d:0<=gN (pz l n (gC l n).1) (aB (vB l));rw[je ⟨c,d⟩,je d];rw[jd (fun h=>d h.2),jd d,UR v];rw[jd (fun h=>c h.1),jd c]
 have q:vn (wX l n)=x8 l n (wK l n):=by
  unfold vn x8;rw[s,i,o]
 have t:px (wX l n)=jef l n (wK l n):=by
  unfold px jef;rw[r,q,c1,c2]
 unfold vA wO;rw[r,q,t,e,f]
theorem EO {l:LgD} (h:sq l) {n:Int} (a:0<=n/\n<((wm (wq l)).length:Int)):vA (wX l n)=wO l n (wK l n):=by
 obtain⟨b,e⟩:=Ew h a;have c:=(de (wq l)).symm.trans h.cp;have d:=h.ta.dw;exact jaY c (by omega) a b.2.1 (Sg h a).wk.1
theorem jaZ {x y:LnD} (h:eQ x<eQ y\/(eQ x=eQ y/\AF x<AF y)):¬xZ y x<0:=by
 unfold xZ;rw[qw,yc];unfold dA;rcases h with h|⟨b,a⟩;rw[jd (show¬eQ y<eQ x by omega),je h,je (by decide)];decide;rw[jd (show¬eQ y<eQ x by omega),jd (show¬eQ x<eQ y by omega),jd (by decide),jd (show¬AF y<AF x by omega),je a];decide
theorem JG (l:LgD):yl (Np l)=(wb (wq l)).map (fun n=>vA (wX l n)):=by
 rw[Ev];unfold yl;rw[kA];rfl
theorem Sj (l:LgD) (n:Int):AF (vA (wX l n))=n:=(vW l n _ (jj _)).2.2.1
theorem jdN {d:DyD} (h:aA d=0) {n:Int}:n∈wb d↔∃b:Nat,b<(wm d).length/\jgw d (sr d) b=true/\n=(b:Int):=by
 rw[jdC];unfold jgx;rw[je h];unfold jcd;rw[jS];constructor;rintro⟨b,a,rfl⟩;have:=jP.1 a;exact⟨b,by rw[<-Jj h];exact jE.1 this.1,this.2,rfl⟩;rintro⟨b,a,c,rfl⟩;exact⟨b,jP.2 ⟨jE.2 (by rw[Jj h];exact a),c⟩,rfl⟩
theorem JH {l:LgD} (h:sq l) {n:Int} (e:0<=n/\n<((wm (wq l)).length:Int)):n∈wb (wq l)↔Q1 l n=true:=by
 have c:=(de (wq l)).symm.trans h.cp;rw[jdN c];constructor;rintro⟨b,d,a,rfl⟩;exact a;intro a;exact⟨n.toNat,by omega,a,by omega⟩
theorem JI {l:LgD} {k:Nat} {x:LnD}:x∈qX l k↔∃p:Nat,p<k/\∃b:Nat,b<(vd l).length/\Q1 l (b:Int)=true/\nth (vd l) b=(p:Int)/\x=wO l (b:Int) (wK l (b:Int)):=by
 unfold qX;rw[List.mem_flatMap];constructor;rintro⟨p,d,h⟩;obtain⟨b,c,rfl⟩:=jS.1 h;have e:=jP.1 c;have a:=e.2;unfold jeu at a;rw[ji,jp] at a;exact⟨p,jE.1 d,b,jE.1 e.1,a.1,a.2,rfl⟩;rintro⟨p,d,b,c,g,f,rfl⟩;refine⟨p,jE.2 d,jS.2 ⟨b,jP.2 ⟨jE.2 c,?_⟩,rfl⟩⟩;unfold jeu;rw[g,jG f];rfl
theorem Sk (l:LgD) (k:Nat):(qX l k).Pairwise (fun x y=>eQ x<eQ y\/(eQ x=eQ y/\AF x<AF y)):=by
 have d:∀(p:Nat) (x:LnD),x∈yx l (p:Int) (vd l).length->eQ x=(p:Int):=fun p x g=>by
  obtain⟨b,f,rfl⟩:=jS.1 g;have e:=(jP.1 f).2;unfold jeu at e;rw[ji,jp] at e;exact e.2
 unfold qX;refine List.pairwise_flatMap.2 ⟨fun p _=> ?_,List.Pairwise.imp ?_ kJ⟩;have h:(yx l (p:Int) (vd l).length).Pairwise (fun x y=>AF x<AF y):=by
  unfold yx;exact zP.2 ((List.pairwise_lt_range.filter _).imp fun{a b} c=>by
   show(a:Int)<(b:Int);omega)
 exact List.Pairwise.imp_of_mem (fun{a b} i f c=>Or.inr ⟨by rw[d p a i,d p b f],c⟩) h;intro a b c x g y j;have:=d a x g;have:=d b y j;left;omega
theorem US (l:LgD) (k:Nat):(qX l k).Nodup:=(Sk l k).imp fun{a b} h e=>by subst e;omega
theorem uA {l:LgD} (h:sq l):wu (U.bo l)=x9 l:=by
 have o:=HI (YD h);have f:(yl (Np l)).Nodup:=by
  rw[JG];exact zP.2 ((oA (wq l)).imp fun{a b} g e=>g (by
   have:=jD AF e;rw[Sj,Sj] at this;exact this))
 have s:=(de (wq l)).symm.trans h.cp
 haveI:DecidableEq LnD:=fun a b=>Classical.propDecidable (a=b)
 have k:(x9 l).Perm (yl (Kj (U.bo l))):=L.pD (US l 21) f fun x=>by
  show x∈qX l 21↔x∈yl (Np l);rw[JI,JG,jS];constructor;rintro⟨p,k,b,m,r,q,rfl⟩;have c:0<=(b:Int)/\(b:Int)<(wm (wq l)).length:=(by rw[h.py.1] at m;omega);exact⟨(b:Int),(JH h c).2 r,EO h c⟩;rintro⟨n,j,rfl⟩;have c:=Jt j;have i:n.toNat<(vd l).length:=(by rw[h.py.1];omega);have q:=h.py.2 _ (L.wh i);have en:((n.toNat:Nat):Int)=n:=(by omega);refine⟨(nth (vd l) n.toNat).toNat,by omega,n.toNat,i,?_,by omega,?_⟩;rw[en];exact(JH h c).1 j;rw[en];exact EO h c
 refine(tC (jgc o) k ?_).symm;exact(Sk l 21).imp fun{a b} d=>zp (jaZ d)
theorem HL {l:LgD} {k:Nat} (h:k<(vd l).length):qt l (k+1)=max (qt l k) (nth (vd l) k+1):=by
 unfold qt;rw[L.wQ h,jO];rfl
theorem lz {l:LgD}:∀k,k<=(vd l).length->0<=qt l k/\(∀i,i<k->nth (vd l) i+1<=qt l k)/\(qt l k=0\/∃i,i<k/\qt l k=nth (vd l) i+1)
 |0,_=>⟨zO _,fun i hi=>by omega,Or.inl rfl⟩
 |k+1,hk=>by
  obtain⟨c,b,a⟩:=lz (l:=l) k (by omega)
  rw[HL (by omega)]
  refine⟨by omega,fun i hi=> ?_,?_⟩
  by_cases e:i=k
  subst e;omega
  have:=b i (by omega);omega
  rcases Int.le_total (nth (vd l) k+1) (qt l k) with h|h
  rw[Int.max_eq_left h]
  rcases a with a|⟨i,hi,a⟩
  exact Or.inl a
  exact Or.inr ⟨i,by omega,a⟩
  rw[Int.max_eq_right h]
  exact Or.inr ⟨k,by omega,rfl⟩
theorem YG {l:LgD} (h:sq l):yC (U.bo l)=jeg l:=by
 have m:=uA h;unfold yC jeg;rw[m];show(if(vd l).length=0 then[] else vQ (aC (vd l)+1).toNat (x9 l) (x9 l).length)=_;by_cases e:(vd l).length=0;rw[je e];have f:x9 l=[]:=by
  refine kF.2 fun x o=> ?_
  obtain⟨p,_,b,t,_⟩:=JI.1 (show x∈qX l 21 from o);omega
 have e2:lU l=0:=(by unfold lU;rw[e];rfl);rw[f,e2];rfl;rw[jd e];obtain⟨r,k,a⟩:=lz (l:=l) (vd l).length (jj _);have c:vd l≠[]:=fun e2=>e (by rw[e2];rfl)
 have d:=JE c;have u:=h.py.2 _ d;obtain⟨i,hi,q⟩:=L.mem_iff.1 d;have s:=k i hi;have g:lU l=aC (vd l)+1:=by
  show qt l (vd l).length=_;rcases a with a|⟨j,n,a⟩;omega;have:=Qn (L.wh n);omega
 rw[g]
theorem ak (a:Int) (tm out:List Int):∀k,(qb a tm out k).length=out.length
 |0=>rfl
 |k+1=>by
  rw[f9];unfold oE
  rw[zK,ak a tm out k]
theorem uB {a:Int} {tm out:List Int} {j:Nat} (b:∀p∈tm,0<=p/\p<(out.length:Int)):∀k,k<=tm.length->(∀i,i<k->(nth tm i).toNat≠j)->nth (qb a tm out k) j=nth out j
 |0,_,_=>rfl
 |k+1,hk,h=>by
  have c:=b _ (L.wh (show k<tm.length by omega))
  rw[f9];unfold oE
  rw[L.gz (by rw[ak];omega),jd (h k (by omega))]
  exact uB b k (by omega) fun i hi=>h i (by omega)
theorem JJ {a:Int} {tm out:List Int} (c:∀p∈tm,0<=p/\p<(out.length:Int)) (b:∀i j,i<tm.length->j<tm.length->(nth tm i).toNat=(nth tm j).toNat->i=j) {i:Nat}:∀k,k<=tm.length->i<k->
 nth (qb a tm out k) (nth tm i).toNat=nth out (nth tm i).toNat+dz a tm.length i
 |0,_,h=>by omega
 |k+1,hk,h=>by
  have f:=c _ (L.wh (show k<tm.length by omega))
  rw[f9];unfold oE
  rw[L.gz (by rw[ak];omega)]
  by_cases e:i=k
  subst e
  rw[je rfl,uB c i (by omega) (fun m d e2=>by have:=b m i (by omega) (by omega) e2;omega)]
  unfold dz
  rw[Int.add_assoc]
  rw[jd (fun e2=>e (b i k (by omega) (by omega) e2.symm))]
  exact JJ c b k (by omega) (by omega)
theorem HM (t:Int) (k:Nat):qH t (k+1)=qH t k++(if w7 t (k:Int)=true then[(k:Int)] else[]):=by
 unfold qH;rw[j8,kj,zn];congr 1;by_cases h:w7 t (k:Int)=true;rw[je h];simp only[List.filter,h,List.map];rw[jd h];rw[zT] at h;simp only[List.filter,h,List.map]
def rnk (t:Int) (k:Nat):Nat:=(qH t k).length
theorem Sl (t:Int) (k:Nat):rnk t (k+1)=rnk t k+(if w7 t (k:Int)=true then 1 else 0):=by
 unfold rnk;rw[HM,jH]
 split<;>rfl
theorem ja0 {α:Type} [Inhabited α] {a b:List α} {i:Nat} (h:i<a.length):nth (a++b) i=nth a i:=by
 rw[L.qy h,L.qy (by rw[jH];omega),List.getElem_append_left h]
theorem ja1 {α:Type} [Inhabited α] {a:List α} {x:α}:nth (a++[x]) a.length=x:=by
 rw[L.qy (by rw[jH];show _<_+1;omega),List.getElem_append_right (jj _)];simp
theorem Sm {t:Int} {p:Nat} (a:w7 t (p:Int)=true):∀n,p<n->rnk t p<rnk t n/\nth (qH t n) (rnk t p)=(p:Int)
 |0,h=>by omega
 |n+1,h=>by
  have b:=Sl t n
  rw[HM]
  by_cases e:p=n
  subst e
  rw[je a] at b⊢
  exact⟨by omega,ja1⟩
  obtain⟨c,d⟩:=Sm a n (by omega)
  refine⟨by rw[b];omega,?_⟩
  rw[ja0 c,d]
theorem jdO {t:Int} {n i j:Nat} (hi:i<(qH t n).length) (f:j<(qH t n).length) (h:(nth (qH t n) i).toNat=(nth (qH t n) j).toNat):i=j:=by
 have c:(qH t n).Pairwise (fun a b=>a.toNat<b.toNat):=by
  unfold qH;exact zP.2 ((List.pairwise_lt_range.filter _).imp fun{a b} e=>e)
 rw[zF] at c;rw[L.qy hi,L.qy f] at h;rcases kK i j with d|d|d;have:=c i j hi f d;omega;exact d;have:=c j i f hi d;omega
theorem jdP {t:Int} {n i:Nat} (hi:i<(qH t n).length):w7 t (nth (qH t n) i)=true:=by
 have a:=L.wh hi;unfold qH at a;obtain⟨p,b,e⟩:=jS.1 a;have:=(jP.1 b).2;unfold qH;rw[<-e];exact this
theorem EP (w t:List Int) (a:Int) (n k:Nat):qp w t a n (k+1)=Nv w t a (qp w t a n k) k:=by
 unfold qp;rw[j8,jO];rfl
theorem ig (w t:List Int) (a:Int) (n:Nat):∀k,k<=n->(qp w t a n k).1.length=n/\(qp w t a n k).2=(rnk a k:Int)/\
 ∀j,j<n->nth (qp w t a n k).1 j=if j<k/\w7 a (j:Int)=true then nth w (rnk a j)+nth t (rnk a j) else 0
 |0,_=>⟨jW,rfl,fun j c=>by
  rw[jd (fun h=>by omega)]
  exact L.bN c⟩
 |k+1,hk=>by
  obtain⟨f,g,i⟩:=ig w t a n k (by omega)
  have d:=Sl a k
  rw[EP];unfold Nv
  by_cases e:w7 a (k:Int)=true
  rw[je e]
  rw[je e] at d
  have l:(qp w t a n k).2.toNat=rnk a k:=by rw[g];rfl
  refine⟨by rw[zK,f],by rw[g,d];rfl,fun j c=> ?_⟩
  show nth ((qp w t a n k).1.set k (nth w (qp w t a n k).2.toNat+nth t (qp w t a n k).2.toNat)) j=_
  rw[L.gz (by rw[f];omega),l]
  by_cases e2:k=j
  subst e2
  rw[je rfl,je ⟨by omega,e⟩]
  rw[jd e2,i j c]
  by_cases b:j<k/\w7 a (j:Int)=true
  rw[je b,je ⟨by omega,b.2⟩]
  rw[jd b,jd (fun h=>b ⟨by omega,h.2⟩)]
  rw[jd e]
  rw[jd e] at d
  refine⟨f,by rw[g,d];rfl,fun j c=> ?_⟩
  rw[i j c]
  by_cases b:j<k/\w7 a (j:Int)=true
  rw[je b,je ⟨by omega,b.2⟩]
  rw[jd b,jd (fun h=>b ⟨by
   by_cases e2:j=k
   subst e2;exact absurd h.2 e
   omega,h.2⟩)]
theorem ii {a m:Int} {k i:Nat} (h:i<k):nth (vR a m k) i=dz a m i:=by
 unfold vR;rw[L.nth_map (by rw[zx];exact h)];congr 1;rw[L.qy (by rw[zx];exact h),List.getElem_range]
theorem jdQ {b:BlD} {c W T:Int} {n:Nat} (q:vf b=qH c n) (z:qR b=W) (y:vn b=T):
 Vn n (some b)=(qp (wD W (qH c n).length) (wD T (qH c n).length) c n n).1:=by
 obtain⟨w,C,x⟩:=ig (wD W (qH c n).length) (wD T (qH c n).length) c n n (jj _);have u:=(nJ c n).2;have f:=fun i j=> @jdO c n i j
 show qb (vn b) (vf b) (qb (qR b) (vf b) (List.replicate n 0) (vf b).length) (vf b).length=_;rw[q,z,y];have g:∀p∈qH c n,0<=p/\p<((List.replicate n (0:Int)).length:Int):=fun p k=>by rw[jW];exact u p k
 have m:∀p∈qH c n,0<=p/\p<((qb W (qH c n) (List.replicate n (0:Int)) (qH c n).length).length:Int):=fun p k=>by rw[ak];exact g p k
 refine L.ext_nth (by rw[ak,ak,jW,w]) fun j d=> ?_
 rw[ak,ak,jW] at d;rw[x j d];by_cases e:w7 c (j:Int)=true;rw[je ⟨d,e⟩];obtain⟨o,B⟩:=Sm e n d;have o:rnk c j<(qH c n).length:=o;have A:(nth (qH c n) (rnk c j)).toNat=j:=(by rw[B];rfl);have r:=JJ (a:=W) g (fun i j hi d h=>f i j hi d h) (i:=rnk c j) _ (jj _) o;have s:=JJ (a:=T) m (fun i j hi d h=>f i j hi d h) (i:=rnk c j) _ (jj _) o;rw[A] at r s;rw[s,r,L.bN d,Int.zero_add];have k:∀a:Int,nth (wD a ((qH c n).length:Int)) (rnk c j)=dz a ((qH c n).length:Int) (rnk c j):=fun a=>ii (by show _<((((qH c n).length:Nat):Int)).toNat;omega)
 rw[k,k];rw[jd (fun h=>e h.2)];have l:∀i,i<(qH c n).length->(nth (qH c n) i).toNat≠j:=fun i hi e2=>e (by
  have t:=jdP hi;have D:=u _ (L.wh hi);have v:nth (qH c n) i=(j:Int):=(by omega);rw[v] at t;exact t)
 rw[uB m _ (jj _) l,uB g _ (jj _) l,L.bN d]
theorem jfm (l:LgD) (n:Int):QY (U.bo l) n=if n∈wb (wq l) then some (wX l n) else none:=by
 show wW none (wG .int n (Np l))=_;have a:((Np l).map (·.1)).Nodup:=by
  rw[Ev,kA];have e:((fun(x:Int×Option BlD)=>x.1)∘fun n=>(n,some (wX l n)))=id:=rfl;rw[e,List.map_id];exact oA _
 by_cases h:n∈wb (wq l);rw[je h];have:(n,some (wX l n))∈Np l:=by
  rw[Ev];exact jS.2 ⟨n,h,rfl⟩
 rw[(M.iw (kt:= .int) a).2 this];rfl;rw[jd h];have b:n∉(Np l).map (·.1):=by
  rw[Ev,kA];have e:((fun(x:Int×Option BlD)=>x.1)∘fun n=>(n,some (wX l n)))=id:=rfl;rw[e,List.map_id];exact h
 rw[M.mfind_none (kt:= .int) b];rfl
theorem YH {l:LgD} (h:sq l) {n:Int} (b:0<=n/\n<((wm (wq l)).length:Int)):yO (U.bo l) n=gY l n:=by
 have i:=(de (wq l)).symm.trans h.cp;show Vn (wB l) (QY (U.bo l) n)=_;rw[jfm];unfold gY;by_cases a:n∈wb (wq l);rw[je a,je ((JH h b).1 a)];have d:=EO h b;have e:qR (wX l n)=x7 l n (wK l n):=jD jfx d;have e2:vn (wX l n)=x8 l n (wK l n):=jD jfy d;have f:vf (wX l n)=qH (wK l n) (wB l):=by
  have:=(vW l n _ (jj _)).2.2.2.2.1;show vf (wx l n _)=_;rw[this];show qH (nth (dJ (wq l)) n.toNat) (wB l)=_;rw[show dJ (wq l)=sr (wq l) from X3 _];rfl
 have c:(((qH (wK l n) (wB l)).length:Nat):Int)=BT.size (wK l n):=uz i (by omega);rw[jdQ f e e2,c];rw[jd a,jd (fun g=>a ((JH h b).2 g))];rfl
namespace U
def iu (b:BlD) (a:Int) (k:Nat):Bool:=decide (av (qh (vJ b)-(k:Int)) b<=a)
def eR (b:BlD):Nat:=(qh (vJ b)+100001).toNat
def GH (b:BlD) (a:Int):Option Nat:=(List.range (eR b)).find? (iu b a)
def jgk (b:BlD):Option Nat->Int
 |some k=>qh (vJ b)-(k:Int)
 |none=>0
def jgl:Option Nat->Int
 |some _=>0
 |none=>3
def jgA (a:Int):Option BlD->Int
 |some b=>jgk b (GH b a)
 |none=>0
def jgB (a:Int):Option BlD->Int
 |some b=>jgl (GH b a)
 |none=>3
def Nw (l:LgD) (n a:Int):Int:=if qk l (qU l n&&gL a)=0 then jgA a (QY (bo l) n) else 0
def Nx (l:LgD) (n a:Int):Int:=if qk l (qU l n&&gL a)=0 then jgB a (QY (bo l) n) else qk l (qU l n&&gL a)
end U
theorem HN (b:BlD) (a:Int):(∃k:Nat,GH b a=some k/\k<eR b/\iu b a k=true/\∀j:Nat,j<k->iu b a j=false)\/(GH b a=none/\∀j:Nat,j<eR b->iu b a j=false):=by
 cases e:GH b a with
 |some k=>
  left;unfold GH at e;obtain⟨l,d,rs,f,m⟩:=List.find?_eq_some_iff_append.1 e;have c:=jD List.length f;rw[zx,jH,za] at c;have hk:(List.range (eR b))[d.length]'(by rw[zx];omega)=k:=by
   have e2:(d++k::rs)[d.length]'(by rw[jH,za];omega)=k:=by
    rw[List.getElem_append_right (jj _)];simp
   have:=List.getElem_of_eq f (i:=d.length) (by rw[zx];omega);rw[this,e2]
  rw[List.getElem_range] at hk;refine⟨k,rfl,by omega,l,fun j h=> ?_⟩;have g:=List.getElem_of_eq f (i:=j) (by rw[zx];omega);rw[List.getElem_range,List.getElem_append_left (by omega)] at g;have:=m j (by rw[g];exact kR _);simpa using this
 |none=>
  right;unfold GH at e;rw[List.find?_eq_none] at e;refine⟨rfl,fun j h=> ?_⟩;have:=e j (jE.2 h);simpa using this
namespace U
def qx (a b:List Int) (k:Nat):List Int:=(List.range k).foldl (fun x p=>x.set p (nth x p+nth b p)) a
def wH (f:Nat->List Int) (n k:Nat):List Int:=(List.range k).foldl (fun a b=>qx a (f b) n) (List.replicate n 0)
def eU (l:List Int):List Int:=l.map (fun x=> -x)
def ao (l:List LnD) (k:Nat):Int:=(l.take k).foldl (fun s x=>s-SB x) 0
def dM (l:LgD) (b:Nat):List Int:=yO (bo l) (b:Int)
def GI (l:LgD):List Int:=if wU l=0 then wH (dM l) (wB l) (wm (wq l)).length else[]
def GJ (l:LgD):List Int:=if wU l=0 then eU (yC (bo l)) else[]
def GK (l:LgD):Int:=if wU l=0 then ao (wu (bo l)) (wu (bo l)).length else 0
end U
theorem lA (a b:List Int) (k:Nat):qx a b (k+1)=(qx a b k).set k (nth (qx a b k) k+nth b k):=by
 unfold qx;rw[j8,jO];rfl
theorem cL (a b:List Int):∀k,(qx a b k).length=a.length
 |0=>rfl
 |k+1=>by rw[lA,zK,cL a b k]
theorem xV {a b:List Int}:∀k,k<=a.length->∀j,nth (qx a b k) j=if j<k then nth a j+nth b j else nth a j
 |0,_,j=>by rw[jd (by omega)];rfl
 |k+1,hk,j=>by
  have c:=xV (a:=a) (b:=b) k (by omega)
  rw[lA,L.gz (by rw[cL];omega)]
  by_cases e:k=j
  subst e
  rw[je rfl,c k,jd (by omega),je (by omega)]
  rw[jd e,c j]
  by_cases e2:j<k
  rw[je e2,je (by omega)]
  rw[jd e2,jd (by omega)]
theorem bE (f:Nat->List Int) (n k:Nat):wH f n (k+1)=qx (wH f n k) (f k) n:=by
 unfold wH;rw[j8,jO];rfl
theorem ij (f:Nat->List Int) (n:Nat):∀k,(wH f n k).length=n
 |0=>jW
 |k+1=>by rw[bE,cL,ij f n k]
theorem jb7 {f:Nat->List Int} {n:Nat} {A B:Int}:∀k,(∀b,b<k->∀j,j<n->A<=nth (f b) j/\nth (f b) j<=B)->∀j,j<n->A*(k:Int)<=nth (wH f n k) j/\nth (wH f n k) j<=B*(k:Int)
 |0,_,j,a=>by
  have:nth (wH f n 0) j=0:=L.bN a
  rw[this];simp
 |k+1,h,j,a=>by
  have g:=jb7 (f:=f) (n:=n) (A:=A) (B:=B) k (fun b e=>h b (by omega)) j a
  have d:=h k (by omega) j a
  rw[bE,xV n (by rw[ij];exact jj _),je a]
  have c:A*((k+1:Nat):Int)=A*(k:Int)+A:=by rw[Int.natCast_add,Int.mul_add];simp
  have e2:B*((k+1:Nat):Int)=B*(k:Int)+B:=by rw[Int.natCast_add,Int.mul_add];simp
  rw[c,e2];omega
theorem MV {f g:Nat->List Int} {n:Nat}:∀k,(∀b,b<k->f b=g b)->wH f n k=wH g n k
 |0,_=>rfl
 |k+1,h=>by rw[bE,bE,MV k (fun b a=>h b (by omega)),h k (by omega)]
theorem xW {l:List LnD} {k:Nat} (h:k<l.length):ao l (k+1)=ao l k-SB (nth l k):=by
 unfold ao;rw[L.wQ h,jO];rfl
theorem ja2 (n:Nat) (b:Option BlD):(Vn n b).length=n:=by
 cases b with
 |none=>exact jW
 |some b=>
  show(qb (vn b) (vf b) (qb (qR b) (vf b) (List.replicate n 0) (vf b).length) (vf b).length).length=n;rw[ak,ak,jW]
theorem ja3 (o:BoD) (n:Int):(yO o n).length=(wj (ww (wq (bH o)))).length:=ja2 _ _
theorem jb8 {o:BoD} (h:Ns o) {n:Int}:∀j,j<(wj (ww (wq (bH o)))).length->-1000000000000000000<=nth (yO o n) j/\nth (yO o n) j<=1700000000000000000:=by
 obtain⟨k,g,f⟩:=h;intro j u;have g:(wj (ww (wq (bH o)))).length<=100:=g;unfold yO;cases e:QY o n with
 |none=>
  show _<=nth (List.replicate _ 0) j/\nth (List.replicate _ 0) j<=_;rw[L.bN u];omega
 |some b=>
  have c:(n,some b)∈Kj o:=by
   refine(M.iw (kt:= .int) k.2.2.1).1 ?_;have e:wW none (wG .int n (Kj o))=some b:=e;cases s:wG (β:=Option BlD) Ty.int n (Kj o) with
   |none=>rw[s] at e;cases e
   |some v=>rw[s] at e;exact jD some e
  obtain⟨A,l,F⟩:=k.1 _ c;have l:some b=some A:=l;simp only[jy] at l;subst l;have w:Kh b:=bL.1 F;have D:=f _ c b rfl;have E:=w.bl.tm;have C:=uj w;have B:=uk w;have d:∀p∈vf b,0<=p/\p<((List.replicate (wj (ww (wq (bH o)))).length (0:Int)).length:Int):=fun p r=>by rw[jW];exact D p r
  obtain⟨m,y⟩:=nM (a:=qR b) (M:=0) (tm:=vf b) ⟨C.1,by omega⟩ d (fun x t=>by rw[List.eq_of_mem_replicate t];omega) (vf b).length (jj _);have q:∀p∈vf b,0<=p/\p<((qb (qR b) (vf b) (List.replicate (wj (ww (wq (bH o)))).length (0:Int)) (vf b).length).length:Int):=fun p r=>by rw[m];exact d p r
  obtain⟨G,z⟩:=nM (a:=vn b) (M:=800000000000000008) (tm:=vf b) ⟨B.1,by omega⟩ q (fun x t=>by
   obtain⟨i,hi,rfl⟩:=L.mem_iff.1 t;have:=y i (by rw[m] at hi;exact hi);omega) (vf b).length (jj _)
  have:=z j (by rw[m,jW];exact u);have key:∀v:Int,-1000000000000000000<=v/\v<=800000000000000008+((vf b).length:Int)*100000000000000001->-1000000000000000000<=v/\v<=1700000000000000000:=fun v s=>by omega
  exact key _ this
theorem YI {o:BoD} (h:Nr o):(yC o).length<=21/\∀x∈yC o,-100000000<=x/\x<=2000000000000000000:=by
 obtain⟨c,m,d,s⟩:=h;unfold yC;by_cases h:(vd (bH o)).length=0;rw[je h];exact⟨jl _,fun x a=>by cases a⟩;rw[jd h];have f:vd (bH o)≠[]:=fun e=>h (by rw[e];rfl)
 have v:=d _ (JE f);have a:∀x∈wu o,(0<=eQ x/\eQ x<(((aC (vd (bH o))+1).toNat:Nat):Int))/\-1000000<=Kc x/\Kc x<=20000000000000000:=fun x a=>by
  obtain⟨k,b,p,q,rfl⟩:=HJ c a;have i:=s _ p b rfl;have t:=Qn i;have r:=d _ i;refine⟨⟨r.1,?_⟩,JD q⟩;show NF b<_;omega
 have F:=uy a;have u:=HK c;obtain⟨g,n⟩:=F (wu o).length (jj _);refine⟨by rw[g];omega,fun x a=> ?_⟩;obtain⟨j,l,rfl⟩:=L.mem_iff.1 a;have:=n j (by rw[g] at l;exact l);omega
theorem YJ {l:List LnD} (h:∀x∈l,0<=SB x/\SB x<=1000000):∀k,k<=l.length->-1000000*(k:Int)<=ao l k/\ao l k<=0
 |0,_=>by show _<=(0:Int)/\(0:Int)<=0;omega
 |k+1,hk=>by
  have b:=YJ h k (by omega)
  have a:=h _ (L.wh (show k<l.length by omega))
  rw[xW (by omega)];omega
theorem UT {l:LgD} (h:sq l) {b:Int} (n:0<=b/\b<((wm (wq l)).length:Int)):(gY l b).length=wB l/\
 ∀p,p<wB l->nth (gY l b) p=if Q1 l b=true/\w7 (wK l b) (p:Int)=true then dz (x7 l b (wK l b)) (BT.size (wK l b)) (rnk (wK l b) p)+dz (x8 l b (wK l b)) (BT.size (wK l b)) (rnk (wK l b) p) else 0:=by
 have i:=(de (wq l)).symm.trans h.cp;have j:(((qH (wK l b) (wB l)).length:Nat):Int)=BT.size (wK l b):=uz i (by omega);unfold gY;by_cases c:Q1 l b=true;rw[je c];obtain⟨f,k,g⟩:=ig (wD (x7 l b (wK l b)) (BT.size (wK l b))) (wD (x8 l b (wK l b)) (BT.size (wK l b))) (wK l b) (wB l) (wB l) (jj _);refine⟨f,fun p a=> ?_⟩;rw[g p a];by_cases e:w7 (wK l b) (p:Int)=true;rw[je ⟨a,e⟩,je ⟨c,e⟩];have d:rnk (wK l b) p<(BT.size (wK l b)).toNat:=by
  have m:rnk (wK l b) p<(qH (wK l b) (wB l)).length:=(Sm e (wB l) a).1;omega
 unfold wD;rw[ii d,ii d];rw[jd (fun h=>e h.2),jd (fun h=>e h.2)];rw[jd c];refine⟨jW,fun p a=> ?_⟩;rw[L.bN a,jd (fun h=>c h.1)]
theorem YK {l:LgD} {b:Bool} (h:qk l b=0):sq l/\b=true:=by
 unfold qk at h
 split at h
 rename_i a;exact absurd h a;rename_i a
 split at h
 rename_i c;exact⟨aS (jM.1 a),c⟩;cases h
theorem Sn {l:LgD} {n:Int}:qU l n=true↔0<=n/\n<((wm (wq l)).length:Int):=by
 unfold qU;rw[vE];omega
theorem ja4 {l:LgD} (h:sq l):(wm (wq l)).length<=4:=by
 have a:=h.dy;unfold qG at a;rw[ji] at a;exact(ja a.1).1
structure jgJ (l:LgD) (x:LnD):Prop where
 bk:0<=AF x/\AF x<((wm (wq l)).length:Int)
 py:eQ x=nth (vd l) (AF x).toNat
 pr:0<=eQ x/\eQ x<=20/\eQ x<lU l
 wk:0<=jfx x/\jfx x<=10000000000000000
 tr:0<=jfy x/\jfy x<=1000000000
 sb:0<=SB x/\SB x<=Nn (vB l)
 tt:Kc x=jfx x+jfy x-SB x/\0<=Kc x
 kd:0<=ct (gg (nth (wm (wq l)) (AF x).toNat))/\ct (gg (nth (wm (wq l)) (AF x).toNat))<((bn (vB l)).length:Int)
 pc:0<=nth (bn (vB l)) (ct (gg (nth (wm (wq l)) (AF x).toNat))).toNat/\nth (bn (vB l)) (ct (gg (nth (wm (wq l)) (AF x).toNat))).toNat<=100
 pp:100*SB x<=(jfx x+jfy x)*nth (bn (vB l)) (ct (gg (nth (wm (wq l)) (AF x).toNat))).toNat
theorem ja5 {l:LgD} {i:Nat} (hi:i<(vd l).length):nth (vd l) i<lU l:=by
 have:=(lz (l:=l) (vd l).length (jj _)).2.1 i hi;show _<qt l (vd l).length;omega
theorem jgv {l:LgD} (h:sq l) {x:LnD} (t:x∈x9 l):jgJ l x:=by
 obtain⟨p,v,b,i,z,y,rfl⟩:=JI.1 (show x∈qX l 21 from t);have c:0<=(b:Int)/\(b:Int)<(wm (wq l)).length:=(by rw[h.py.1] at i;omega);rw[<-EO h c];have w:=Ey h c;obtain⟨c1,c2,e,f,_⟩:=vW l (b:Int) _ (jj _);have c1:vJ (wX l (b:Int))=nth (wm (wq l)) b:=c1;have c2:au (wX l (b:Int))=vB l:=c2;have e:QX (wX l (b:Int))=(b:Int):=e;have f:NF (wX l (b:Int))=nth (vd l) b:=f;have r:=uj w;have q:=uk w;have o:=w.bl.ta.cp;have d:=Yn w.bl;have hk:=w.bl.kd;have j:=w.bl.ta.sl;rw[c1,c2] at d;rw[c1] at hk;rw[c2] at o j;have m:0<=(qR (wX l (b:Int))+vn (wX l (b:Int)))*nth (bn (vB l)) (ct (gg (nth (wm (wq l)) b))).toNat:=Int.mul_nonneg (by omega) d.1;have n:(qR (wX l (b:Int))+vn (wX l (b:Int)))*nth (bn (vB l)) (ct (gg (nth (wm (wq l)) b))).toNat<=(qR (wX l (b:Int))+vn (wX l (b:Int)))*100:=Int.mul_le_mul_of_nonneg_left d.2 (by omega);have g:px (wX l (b:Int))=min (Nn (vB l)) (((qR (wX l (b:Int))+vn (wX l (b:Int)))*nth (bn (vB l)) (ct (gg (nth (wm (wq l)) b))).toNat)/100):=by
  unfold px;rw[c1,c2,ko m]
 have u:=ja5 i;have s:=h.py.2 _ (L.wh i);have k:AF (vA (wX l (b:Int)))=(b:Int):=e;have ep:eQ (vA (wX l (b:Int)))=nth (vd l) b:=f;have a:(AF (vA (wX l (b:Int)))).toNat=b:=(by rw[k];rfl);refine⟨by rw[k];exact c,by rw[ep,a],by rw[ep];omega,r,q,?_,⟨rfl,?_⟩,by rw[a];omega,by rw[a];exact d,?_⟩;show 0<=px _/\px _<=_;rw[g];omega;show 0<=qR _+vn _-px _;rw[g];omega;rw[a];show 100*px _<=(qR _+vn _)*_;rw[g];omega
theorem JK {l:LgD} (h:sq l):(x9 l).length<=(wm (wq l)).length:=by
 rw[<-uA h];have e:(wu (U.bo l)).length=(yl (Np l)).length:=(qn _).length_eq;rw[e,JG,zf];unfold wb
 split
 unfold aK;rw[zf];exact jF (zA _ _) (by rw[zx];exact jj _);exact jl _
namespace U
def Vo (l:List NoD) (j:Nat):Bool:=(wa (Zp (nth l j)) 0 100000&&wa (Zq (nth l j)) 0 100)&&(decide (j=0)||decide (Zp (nth l j)<Zp (nth l (j-1))))
def Zj (a b:CaD):Bool:=decide (Vw a=Vw b)&& !decide (a=b)
def Vx (l:LgD) (j:Nat):Bool:=No (nth (vd l) j)&&AH (nth (oD l) j)
end U
def MW:w4:=⟨[.val .int,.val .int,.val .int],[.bool],false,fun _=>[],fun d=>(wa d.1 d.2.1 d.2.2.1,())⟩
def MX:Prop:=∀(d:CaD),(decide (d.2.1<=d.1)&&decide (d.1<=d.2.2.1),())=(wa d.1 d.2.1 d.2.2.1,())
def Gh:w4:=⟨[.val tTa],[.bool],false,fun _=>[],fun d=>(yB d.1,())⟩
def Gi:Ann:=fun r=>match r with
 |4=>some fun σ=>{X:=Nat,sl:=fun i=>[(3,.dat .int (i:Int))],ob:=fun _=>[],inv:=fun i=>i<=(bn (gb tTa σ 1)).length/\∀j:Nat,j<i->wa (nth (bn (gb tTa σ 1)) j) 0 100=true,mu:=fun i=>(bn (gb tTa σ 1)).length-i}
 |9=>some fun σ=>{X:=Nat,sl:=fun i=>[(4,.dat .int (i:Int))],ob:=fun _=>[],inv:=fun i=>i<=(aB (gb tTa σ 1)).length/\∀j:Nat,j<i->Vo (aB (gb tTa σ 1)) j=true,mu:=fun i=>(aB (gb tTa σ 1)).length-i}
 |_=>none
abbrev jjB (d:TaD×Unit)(x:Nat):=(nth d.1.q4.q4.2.1 x)
abbrev jkW (d:TaD×Unit)(x:Nat):=(!(!wa (jjB d x).1 (0:Int) (100000:Int)|| !wa (jjB d x).2.1 (0:Int) (100:Int))&&decide (0<(x:Int)))
abbrev jlO (d:TaD×Unit)(x:Nat):=(!wa (jjB d x).1 (0:Int) (100000:Int)|| !wa (jjB d x).2.1 (0:Int) (100:Int)||decide (0<(x:Int))&&decide ((nth d.1.q4.q4.2.1 ((x:Int)-1).toNat).1<=(jjB d x).1))
abbrev jjC (d:TaD×Unit):=(d.1.q4.q4.2.1.length:Int)
abbrev jjD (d:TaD×Unit):=(d.1.q4.q4.1.length:Int)
abbrev jlP (d:TaD×Unit):=(!wa d.1.1 (1:Int) (240:Int)|| !wa d.1.2.1 (0:Int) (10000:Int)|| !wa d.1.2.2.1 (0:Int) (20:Int)|| !wa d.1.q4.1 (0:Int) d.1.2.2.2.1||decide (1440<d.1.2.2.2.1)|| !wa d.1.q4.2.1 (0:Int) (100:Int)|| !wa d.1.q4.2.2.1 (0:Int) (10000:Int)||decide ((jjD d)≠4)|| !wa d.1.q4.2.2.2.1 (0:Int) (1000000:Int)||decide (4<(jjC d)))
abbrev jlQ (d:TaD×Unit)(x:Nat):=(!wa (nth d.1.q4.q4.1 x) (0:Int) (100:Int))
def Gj:Prop:=∀(d:TaD×Unit),((!(!wa d.1.1 (1:Int) (240:Int)|| !wa d.1.2.1 (0:Int) (10000:Int)|| !wa d.1.2.2.1 (0:Int) (20:Int)|| !wa d.1.q4.1 (0:Int) d.1.2.2.2.1||decide (1440<d.1.2.2.2.1)|| !wa d.1.q4.2.1 (0:Int) (100:Int)|| !wa d.1.q4.2.2.1 (0:Int) (10000:Int)))=true->d.1.q4.q4.1.length<4611686018427387904)->((!(!wa d.1.1 (1:Int) (240:Int)|| !wa d.1.2.1 (0:Int) (10000:Int)|| !wa d.1.2.2.1 (0:Int) (20:Int)|| !wa d.1.q4.1 (0:Int) d.1.2.2.2.1||decide (1440<d.1.2.2.2.1)|| !wa d.1.q4.2.1 (0:Int) (100:Int)|| !wa d.1.q4.2.2.1 (0:Int) (10000:Int)||decide ((jjD d)≠4)|| !wa d.1.q4.2.2.2.1 (0:Int) (1000000:Int)))=true->d.1.q4.q4.2.1.length<4611686018427387904)->((jlP d)=true->(false,())=(yB d.1,()))/\((jlP d)=false->(∃(x:Nat),((0=(x:Int)/\True)/\True)/\x<=(bn d.1).length/\∀(j:Nat),j<x->wa (nth (bn d.1) j) (0:Int) 100=true)/\∀(x:Nat),(x<=(bn d.1).length/\∀(j:Nat),j<x->wa (nth (bn d.1) j) (0:Int) 100=true)->d.1.q4.q4.1.length<4611686018427387904->(decide ((x:Int)<(jjD d))=true->0<=(x:Int)/\(x:Int)<(jjD d)/\((jlQ d x)=true->(false,())=(yB d.1,()))/\((jlQ d x)=false->wl ((x:Int)+1)/\∃(a:Nat),(((x:Int)+1=(a:Int)/\True)/\True)/\(a<=(bn d.1).length/\∀(j:Nat),j<a->wa (nth (bn d.1) j) (0:Int) 100=true)/\(bn d.1).length-a<(bn d.1).length-x))/\(decide ((x:Int)<(jjD d))=false->(∃(x:Nat),((0=(x:Int)/\True)/\True)/\x<=(aB d.1).length/\∀(j:Nat),j<x->Vo (aB d.1) j=true)/\∀(x:Nat),(x<=(aB d.1).length/\∀(j:Nat),j<x->Vo (aB d.1) j=true)->d.1.q4.q4.2.1.length<4611686018427387904->(decide ((x:Int)<(jjC d))=true->0<=(x:Int)/\(x:Int)<(jjC d)/\((jkW d x)=true->wl ((x:Int)-1))/\((jkW d x)=true->0<=(x:Int)-1)/\((jkW d x)=true->(x:Int)-1<(jjC d))/\((jlO d x)=true->(false,())=(yB d.1,()))/\((jlO d x)=false->wl ((x:Int)+1)/\∃(a:Nat),(((x:Int)+1=(a:Int)/\True)/\True)/\(a<=(aB d.1).length/\∀(j:Nat),j<a->Vo (aB d.1) j=true)/\(aB d.1).length-a<(aB d.1).length-x))/\(decide ((x:Int)<(jjC d))=false->(true,())=(yB d.1,()))))
def Gk:w4:=⟨[.val tLg],[.bool],false,fun _=>[],fun d=>(dK d.1,())⟩
def Gl:Ann:=fun r=>match r with
 |5=>some fun σ=>{X:=Nat,sl:=fun i=>[(4,.dat .int (i:Int))],ob:=fun _=>[],inv:=fun i=>i<=(gd .int σ 3).toNat/\∀j:Nat,j<i->Vx (gb tLg σ 1) j=true,mu:=fun i=>(gd .int σ 3).toNat-i}
 |10=>some fun σ=>{X:=Nat,sl:=fun i=>[(5,.dat .int (i:Int))],ob:=fun _=>[],inv:=fun i=>i<=(qj (gb tLg σ 1)).length/\∀j:Nat,j<i->o9 (gd .int σ 3).toNat (nth (qj (gb tLg σ 1)) j)=true,mu:=fun i=>(qj (gb tLg σ 1)).length-i}
 |_=>none
abbrev jhk (d:LgD×Unit):=(d.1.1.2.2.1.length:Int)
abbrev jlR (d:LgD×Unit)(x:Nat):=(!wa (nth d.1.2.1 x) (0:Int) (20:Int)|| !wa (nth d.1.2.2.1 x) (0:Int) (300:Int))
abbrev jkc (d:LgD×Unit)(x:Nat):=(nth d.1.q4.1 x)
abbrev jlS (d:LgD×Unit)(x:Nat):=(!wa (jkc d x).1 (0:Int) (99:Int)|| !wa (jkc d x).2.1 (0:Int) ((jhk d)-1)|| !wa (jkc d x).2.2.1 (-100000:Int) (1440:Int))
abbrev jkX (d:LgD×Unit):=((d.1.2.1.length:Int)≠(jhk d))
abbrev jke (d:LgD×Unit):=(d.1.q4.1.length:Int)
abbrev jlT (d:LgD×Unit):=(decide (jkX d)||decide ((d.1.2.2.1.length:Int)≠(jhk d))|| !yB d.1.2.2.2.1||decide (10<(jke d)))
def Gm:Prop:=∀(d:LgD×Unit),d.1.1.2.2.1.length<4611686018427387904->d.1.2.1.length<4611686018427387904->((!decide (jkX d))=true->d.1.2.2.1.length<4611686018427387904)->((!(decide (jkX d)||decide ((d.1.2.2.1.length:Int)≠(jhk d))|| !yB d.1.2.2.2.1))=true->d.1.q4.1.length<4611686018427387904)->((jlT d)=true->(false,())=(dK d.1,()))/\((jlT d)=false->(∃(x:Nat),((0=(x:Int)/\True)/\True)/\x<=(jhk d).toNat/\∀(j:Nat),j<x->Vx d.1 j=true)/\∀(x:Nat),(x<=(jhk d).toNat/\∀(j:Nat),j<x->Vx d.1 j=true)->(decide ((x:Int)<(jhk d))=true->0<=(x:Int)/\(x:Int)<d.1.2.1.length/\((!!wa (nth d.1.2.1 x) (0:Int) (20:Int))=true->0<=(x:Int))/\((!!wa (nth d.1.2.1 x) (0:Int) (20:Int))=true->(x:Int)<d.1.2.2.1.length)/\((jlR d x)=true->(false,())=(dK d.1,()))/\((jlR d x)=false->wl ((x:Int)+1)/\∃(a:Nat),(((x:Int)+1=(a:Int)/\True)/\True)/\(a<=(jhk d).toNat/\∀(j:Nat),j<a->Vx d.1 j=true)/\(jhk d).toNat-a<(jhk d).toNat-x))/\(decide ((x:Int)<(jhk d))=false->(∃(x:Nat),((0=(x:Int)/\True)/\True)/\x<=(qj d.1).length/\∀(j:Nat),j<x->o9 (jhk d).toNat (nth (qj d.1) j)=true)/\∀(x:Nat),(x<=(qj d.1).length/\∀(j:Nat),j<x->o9 (jhk d).toNat (nth (qj d.1) j)=true)->d.1.q4.1.length<4611686018427387904->(decide ((x:Int)<(jke d))=true->0<=(x:Int)/\(x:Int)<(jke d)/\((!!wa (jkc d x).1 (0:Int) (99:Int))=true->wl ((jhk d)-1))/\((jlS d x)=true->(false,())=(dK d.1,()))/\((jlS d x)=false->wl ((x:Int)+1)/\∃(a:Nat),(((x:Int)+1=(a:Int)/\True)/\True)/\(a<=(qj d.1).length/\∀(j:Nat),j<a->o9 (jhk d).toNat (nth (qj d.1) j)=true)/\(qj d.1).length-a<(qj d.1).length-x))/\(decide ((x:Int)<(jke d))=false->(true,())=(dK d.1,()))))
def Qp:w4:=⟨[.val tLg],[.int],false,fun d=>[(wm (wq d.1)).length<=1000000],fun d=>(wU d.1,())⟩
def Qq:Ann:=fun r=>match r with
 |7=>some fun σ=>{X:=Nat,sl:=fun i=>[(4,.dat .int (i:Int))],ob:=fun _=>[],inv:=fun i=>i<=(qj (gb tLg σ 1)).length/\∀b:Nat,b<i->cg (qj (gb tLg σ 1)) b=false,mu:=fun i=>(qj (gb tLg σ 1)).length-i}
 |10=>some fun σ=>{X:=Nat,sl:=fun i=>[(5,.dat .int (i:Int))],ob:=fun _=>[],inv:=fun i=>i<=(gd .int σ 4).toNat/\∀j:Nat,j<i->Zj (nth (qj (gb tLg σ 1)) (gd .int σ 4).toNat) (nth (qj (gb tLg σ 1)) j)=false,mu:=fun i=>(gd .int σ 4).toNat-i}
 |_=>none
abbrev jjE (d:LgD×Unit)(x:Nat)(a:Nat):=((nth d.1.q4.1 x).1=(nth d.1.q4.1 a).1)
abbrev jiW (d:LgD×Unit):=(d.1.q4.1.length:Int)
abbrev jlU (d:LgD×Unit)(x:Nat)(a:Nat):=(decide (jjE d x a)&& !decide (nth d.1.q4.1 x=nth d.1.q4.1 a))
def Qr:Prop:=∀(d:LgD×Unit),(wm (wq d.1)).length<=1000000->(wm d.1.1).length<=1000000/\(decide (aA d.1.1≠0)=true->(aA d.1.1,())=(wU d.1,()))/\(decide (aA d.1.1≠0)=false->((!dK d.1)=true->((70:Int),())=(wU d.1,()))/\((!dK d.1)=false->(∃(x:Nat),((0=(x:Int)/\True)/\True)/\x<=(qj d.1).length/\∀(b:Nat),b<x->cg (qj d.1) b=false)/\∀(x:Nat),(x<=(qj d.1).length/\∀(b:Nat),b<x->cg (qj d.1) b=false)->d.1.q4.1.length<4611686018427387904->(decide ((x:Int)<(jiW d))=true->(∃(a:Nat),((0=(a:Int)/\True)/\True)/\a<=x/\∀(j:Nat),j<a->Zj (nth (qj d.1) x) (nth (qj d.1) j)=false)/\∀(a:Nat),(a<=x/\∀(j:Nat),j<a->Zj (nth (qj d.1) x) (nth (qj d.1) j)=false)->(decide ((a:Int)<(x:Int))=true->0<=(x:Int)/\(x:Int)<(jiW d)/\0<=(a:Int)/\(a:Int)<(jiW d)/\(decide (jjE d x a)=true->0<=(x:Int))/\(decide (jjE d x a)=true->(x:Int)<(jiW d))/\(decide (jjE d x a)=true->0<=(a:Int))/\(decide (jjE d x a)=true->(a:Int)<(jiW d))/\((jlU d x a)=true->((71:Int),())=(wU d.1,()))/\((jlU d x a)=false->wl ((a:Int)+1)/\∃(c:Nat),(((a:Int)+1=(c:Int)/\True)/\True)/\(c<=x/\∀(j:Nat),j<c->Zj (nth (qj d.1) x) (nth (qj d.1) j)=false)/\x-c<x-a))/\(decide ((a:Int)<(x:Int))=false->wl ((x:Int)+1)/\∃(c:Nat),(((x:Int)+1=(c:Int)/\True)/\True)/\(c<=(qj d.1).length/\∀(b:Nat),b<c->cg (qj d.1) b=false)/\(qj d.1).length-c<(qj d.1).length-x))/\(decide ((x:Int)<(jiW d))=false->((0:Int),())=(wU d.1,()))))
def EQ:w4:=⟨[.val tLg,.val .int],[.bool],false,fun _=>[],fun d=>(qU d.1 d.2.1,())⟩
def ER:Prop:=∀(d:LgD×Int×Unit),d.1.1.2.2.1.length<4611686018427387904->wl ((d.1.1.2.2.1.length:Int)-1)/\(wa d.2.1 (0:Int) ((d.1.1.2.2.1.length:Int)-1),())=(qU d.1 d.2.1,())
def ES:w4:=⟨[.val tLg,.val .int],[.int,.bool],false,fun d=>[Ke d.1 d.2.1],fun d=>((gC d.1 d.2.1).1,(gC d.1 d.2.1).2,())⟩
def ET:Ann:=fun r=>match r with
 |3=>some fun σ=>{X:=Nat,sl:=fun i=>[(8,.dat .int (i:Int)),(6,.dat .int (ve (gb tLg σ 2) (gd .int σ 1) i).1),(7,.dat .bool (ve (gb tLg σ 2) (gd .int σ 1) i).2)],ob:=fun _=>[],inv:=fun i=>i<=(qj (gb tLg σ 2)).length,mu:=fun i=>(qj (gb tLg σ 2)).length-i}
 |_=>none
abbrev jiX (d:LgD×Int×Unit)(x:Nat):=(nth d.1.q4.1 x)
abbrev jij (d:LgD×Int×Unit)(x:Nat):=(ve d.1 d.2.1 x)
abbrev jlV (d:LgD×Int×Unit)(x:Nat):=(decide ((jiX d x).2.1=d.2.1)&&decide ((jiX d x).2.2.1<=(nth d.1.1.2.2.1 d.2.1.toNat).2.2.1)&&(!(jij d x).2||decide ((jiX d x).2.2.1<(jij d x).1)))
def EU:Prop:=∀(d:LgD×Int×Unit),Ke d.1 d.2.1->(∃(x:Nat),((0=(x:Int)/\0=(jij d x).1/\false=(jij d x).2/\True)/\True)/\x<=(qj d.1).length)/\∀(x:Nat),x<=(qj d.1).length->d.1.q4.1.length<4611686018427387904->(decide ((x:Int)<d.1.q4.1.length)=true->0<=(x:Int)/\(x:Int)<d.1.q4.1.length/\(decide ((jiX d x).2.1=d.2.1)=true->0<=d.2.1)/\(decide ((jiX d x).2.1=d.2.1)=true->d.2.1<(d.1.1.2.2.1.length:Int))/\((jlV d x)=true->wl ((x:Int)+1)/\∃(a:Nat),(((x:Int)+1=(a:Int)/\true=(ve d.1 d.2.1 a).2/\(jiX d x).2.2.1=(ve d.1 d.2.1 a).1/\True)/\True)/\a<=(qj d.1).length/\(qj d.1).length-a<(qj d.1).length-x)/\((jlV d x)=false->wl ((x:Int)+1)/\∃(a:Nat),(((jij d x).2=(ve d.1 d.2.1 a).2/\(jij d x).1=(ve d.1 d.2.1 a).1/\(x:Int)+1=(a:Int)/\True)/\True)/\a<=(qj d.1).length/\(qj d.1).length-a<(qj d.1).length-x))/\(decide ((x:Int)<d.1.q4.1.length)=false->((jij d x).1,(jij d x).2,())=((gC d.1 d.2.1).1,(gC d.1 d.2.1).2,()))
def ja6:w4:=⟨[.val .int,.val .int],[.int],false,fun d=>[0<=d.1,0<d.2.1,d.1<=4611686018427387904,d.2.1<=1000000000],fun d=>(U.up d.1 d.2.1,())⟩
def ja7:Prop:=∀(d:Int×Int×Unit),0<=d.1->0<d.2.1->d.1<=4611686018427387904->d.2.1<=1000000000->wl (d.1+d.2.1)/\wl (d.1+d.2.1-1)/\d.2.1≠0/\wl ((d.1+d.2.1-1).tdiv d.2.1)/\((d.1+d.2.1-1).tdiv d.2.1,())=(U.up d.1 d.2.1,())
def UU:w4:=⟨[.val tLg,.val .int,.val .int],[.int],false,fun d=>[Ke d.1 d.2.1,0<=d.2.2.1/\d.2.2.1<=8],fun d=>(qO d.1 d.2.1 d.2.2.1,())⟩
def UV:Ann:=fun r=>match r with
 |4=>some fun σ=>{X:=Nat,sl:=fun k=>[(11,.dat .int (qh (vK (gb tLg σ 3) (gd .int σ 1))+(k:Int))),(10,.dat .int (ym (gb tLg σ 3) (gd .int σ 1) k))],ob:=fun _=>[],inv:=fun k=>k<=(gH (vK (gb tLg σ 3) (gd .int σ 1))-qh (vK (gb tLg σ 3) (gd .int σ 1))).toNat,mu:=fun k=>(gH (vK (gb tLg σ 3) (gd .int σ 1))-qh (vK (gb tLg σ 3) (gd .int σ 1))).toNat-k}
 |_=>none
abbrev jhX (d:LgD×Int×Int×Unit):=(nth d.1.1.2.2.1 d.2.1.toNat)
abbrev jiA (d:LgD×Int×Int×Unit):=((jhX d).2.2.2.1-(jhX d).2.2.1)
abbrev jiB (d:LgD×Int×Int×Unit):=(U.up (jiA d) d.1.2.2.2.1.1)
abbrev jkY (d:LgD×Int×Int×Unit)(x:Nat):=(d.2.2.1*d.1.2.2.2.1.2.1*max d.1.2.2.2.1.2.2.1 (jiB d)*d.1.2.2.2.1.q4.2.1*ym d.1 d.2.1 x)
abbrev jhp (d:LgD×Int×Int×Unit):=(vK d.1 d.2.1)
abbrev jik (d:LgD×Int×Int×Unit):=(gH (jhp d)-qh (jhp d))
abbrev jlW (d:LgD×Int×Int×Unit)(x:Nat):=(decide (d.1.2.2.2.1.2.2.2.1<=qh (jhp d)+(x:Int))||decide (qh (jhp d)+(x:Int)<d.1.2.2.2.1.q4.1))
def UW:Prop:=∀(d:LgD×Int×Int×Unit),Ke d.1 d.2.1->0<=d.2.2.1/\d.2.2.1<=8->0<=d.2.1/\d.2.1<(d.1.1.2.2.1.length:Int)/\wl (jiA d)/\(∃(x:Nat),(((jhX d).2.2.1=qh (jhp d)+(x:Int)/\0=ym d.1 d.2.1 x/\True)/\True)/\x<=(jik d).toNat)/\∀(x:Nat),x<=(jik d).toNat->(decide (qh (jhp d)+(x:Int)<(jhX d).2.2.2.1)=true->((jlW d x)=true->wl (ym d.1 d.2.1 x+1)/\wl (qh (jhp d)+(x:Int)+1)/\∃(a:Nat),((qh (jhp d)+(x:Int)+1=qh (jhp d)+(a:Int)/\ym d.1 d.2.1 x+1=ym d.1 d.2.1 a/\True)/\True)/\a<=(jik d).toNat/\(jik d).toNat-a<(jik d).toNat-x)/\((jlW d x)=false->wl (qh (jhp d)+(x:Int)+1)/\∃(a:Nat),((ym d.1 d.2.1 x=ym d.1 d.2.1 a/\qh (jhp d)+(x:Int)+1=qh (jhp d)+(a:Int)/\True)/\True)/\a<=(jik d).toNat/\(jik d).toNat-a<(jik d).toNat-x))/\(decide (qh (jhp d)+(x:Int)<(jhX d).2.2.2.1)=false->wl (d.2.2.1*d.1.2.2.2.1.2.1)/\(0:Int)<=(jhX d).2.2.2.1-(jhX d).2.2.1/\0<d.1.2.2.2.1.1/\(jhX d).2.2.2.1-(jhX d).2.2.1<=4611686018427387904/\d.1.2.2.2.1.1<=1000000000/\wl (d.2.2.1*d.1.2.2.2.1.2.1*max d.1.2.2.2.1.2.2.1 (jiB d))/\wl (d.2.2.1*d.1.2.2.2.1.2.1*max d.1.2.2.2.1.2.2.1 (jiB d)*d.1.2.2.2.1.q4.2.1)/\wl (jkY d x)/\wl ((100:Int)*(jiA d))/\0<=d.2.2.1*d.1.2.2.2.1.2.1*max d.1.2.2.2.1.2.2.1 (jiB d)*d.1.2.2.2.1.q4.2.1*ym d.1 d.2.1 x/\(0:Int)<100*(jiA d)/\d.2.2.1*d.1.2.2.2.1.2.1*max d.1.2.2.2.1.2.2.1 (jiB d)*d.1.2.2.2.1.q4.2.1*ym d.1 d.2.1 x<=4611686018427387904/\(100:Int)*(jiA d)<=1000000000/\wl (d.2.2.1*d.1.2.2.2.1.2.1*max d.1.2.2.2.1.2.2.1 (jiB d)+U.up (jkY d x) ((100:Int)*(jiA d)))/\(d.2.2.1*d.1.2.2.2.1.2.1*max d.1.2.2.2.1.2.2.1 (jiB d)+U.up (jkY d x) ((100:Int)*(jiA d)),())=(qO d.1 d.2.1 d.2.2.1,()))
def JL:w4:=⟨[.val tLg,.val .int,.val .int],[.int],false,fun d=>[Ke d.1 d.2.1,-100000<=d.2.2.1/\d.2.2.1<=1440],fun d=>(am d.1 d.2.1 d.2.2.1,())⟩
def JM:Ann:=fun r=>match r with
 |2=>some fun σ=>{X:=Nat,sl:=fun i=>[(7,.dat .int (i:Int))],ob:=fun _=>[],inv:=fun i=>i<=(aB (vB (gb tLg σ 3))).length/\∀j:Nat,j<i->pz (gb tLg σ 3) (gd .int σ 1) (gd .int σ 2) (nth (aB (vB (gb tLg σ 3))) j)=false,mu:=fun i=>(aB (vB (gb tLg σ 3))).length-i}
 |_=>none
abbrev jlX (d:LgD×Int×Int×Unit)(x:Nat):=((nth d.1.2.2.2.1.q4.q4.2.1 x).1<=(nth d.1.1.2.2.1 d.2.1.toNat).2.2.1-d.2.2.1)
abbrev jkZ (d:LgD×Int×Int×Unit):=(d.1.2.2.2.1.q4.q4.2.1.length:Int)
def JN:Prop:=∀(d:LgD×Int×Int×Unit),Ke d.1 d.2.1->(-100000:Int)<=d.2.2.1/\d.2.2.1<=1440->(∃(x:Nat),((0=(x:Int)/\True)/\True)/\x<=(aB (vB d.1)).length/\∀(j:Nat),j<x->pz d.1 d.2.1 d.2.2.1 (nth (aB (vB d.1)) j)=false)/\∀(x:Nat),(x<=(aB (vB d.1)).length/\∀(j:Nat),j<x->pz d.1 d.2.1 d.2.2.1 (nth (aB (vB d.1)) j)=false)->d.1.2.2.2.1.q4.q4.2.1.length<4611686018427387904->(decide ((x:Int)<(jkZ d))=true->0<=(x:Int)/\(x:Int)<(jkZ d)/\0<=d.2.1/\d.2.1<(d.1.1.2.2.1.length:Int)/\wl ((nth d.1.1.2.2.1 d.2.1.toNat).2.2.1-d.2.2.1)/\(decide (jlX d x)=true->(nth d.1.2.2.2.1.q4.q4.2.1 x).2=(am d.1 d.2.1 d.2.2.1,()))/\(decide (jlX d x)=false->wl ((x:Int)+1)/\∃(a:Nat),(((x:Int)+1=(a:Int)/\True)/\True)/\(a<=(aB (vB d.1)).length/\∀(j:Nat),j<a->pz d.1 d.2.1 d.2.2.1 (nth (aB (vB d.1)) j)=false)/\(aB (vB d.1)).length-a<(aB (vB d.1)).length-x))/\(decide ((x:Int)<(jkZ d))=false->((100:Int),())=(am d.1 d.2.1 d.2.2.1,()))
def UX:w4:=⟨[.val .int],[.int],false,fun d=>[BT.qm d.1],fun d=>(BT.size d.1,())⟩
def UY:Ann:=fun r=>match r with
 |2=>some fun σ=>{X:=Nat,sl:=fun j=>[(0,.dat .int (qQ (gd .int σ 0) j)),(3,.dat .int (BT.size (gd .int σ 0)-BT.size (qQ (gd .int σ 0) j)))],ob:=fun _=>[],inv:=fun j=>BT.qm (qQ (gd .int σ 0) j),mu:=fun j=>(qQ (gd .int σ 0) j).toNat}
 |_=>none
def UZ:Prop:=∀(d:Int×Unit),BT.qm d.1->(∃(x:Nat),((d.1=qQ d.1 x/\0=BT.size d.1-BT.size (qQ d.1 x)/\True)/\True)/\BT.qm (qQ d.1 x))/\∀(x:Nat),BT.qm (qQ d.1 x)->(decide (0<qQ d.1 x)=true->wl (BT.size d.1-BT.size (qQ d.1 x)+iA (qQ d.1 x) (1:Int))/\(0:Int)<=1/\(1:Int)<=64/\∃(a:Nat),((qQ d.1 x/(2:Int)^Int.toNat 1=qQ d.1 a/\BT.size d.1-BT.size (qQ d.1 x)+iA (qQ d.1 x) 1=BT.size d.1-BT.size (qQ d.1 a)/\True)/\True)/\BT.qm (qQ d.1 a)/\(qQ d.1 a).toNat<(qQ d.1 x).toNat)/\(decide (0<qQ d.1 x)=false->(BT.size d.1-BT.size (qQ d.1 x),())=(BT.size d.1,()))
def U0:w4:=⟨[.val tLg,.val .int,.val .int],[tLn],false,fun d=>[Ke d.1 d.2.1,BT.qm d.2.2.1,BT.size d.2.2.1<=8],fun d=>(wO d.1 d.2.1 d.2.2.1,())⟩
abbrev jiC (d:LgD×Int×Int×Unit):=(qO d.1 d.2.1 (BT.size d.2.2.1)*am d.1 d.2.1 (gC d.1 d.2.1).1)
abbrev jiY (d:LgD×Int×Int×Unit):=(nth d.1.1.2.2.1 d.2.1.toNat)
abbrev jjF (d:LgD×Int×Int×Unit):=((U.up (jiC d) (100:Int)+0)*nth d.1.2.2.2.1.q4.q4.1 (jiY d).1.q4.1.toNat)
abbrev jiZ (d:LgD×Int×Int×Unit):=d.1.2.2.2.1.q4.2.2.2.1
abbrev ji0 (d:LgD×Int×Int×Unit):=d.1.2.2.2.1.q4.2.2.1
abbrev jk0 (d:LgD×Int×Int×Unit):=(qO d.1 d.2.1 (BT.size d.2.2.1)+(ji0 d)*nth d.1.2.2.1 d.2.1.toNat*BT.size d.2.2.1)
abbrev jjG (d:LgD×Int×Int×Unit):=((jk0 d)*nth d.1.2.2.2.1.q4.q4.1 (jiY d).1.q4.1.toNat)
def U1:Prop:=∀(d:LgD×Int×Int×Unit),Ke d.1 d.2.1->BT.qm d.2.2.1->BT.size d.2.2.1<=8->0<=d.2.1/\d.2.1<(d.1.2.1.length:Int)/\BT.qm d.2.2.1/\Ke d.1 d.2.1/\(0<=BT.size d.2.2.1/\BT.size d.2.2.1<=8)/\0<=d.2.1/\d.2.1<(d.1.2.2.1.length:Int)/\wl ((ji0 d)*nth d.1.2.2.1 d.2.1.toNat)/\BT.qm d.2.2.1/\wl ((ji0 d)*nth d.1.2.2.1 d.2.1.toNat*BT.size d.2.2.1)/\Ke d.1 d.2.1/\((gC d.1 d.2.1).2=true->Ke d.1 d.2.1/\((-100000:Int)<=(gC d.1 d.2.1).1/\(gC d.1 d.2.1).1<=1440)/\wl (jiC d)/\0<=qO d.1 d.2.1 (BT.size d.2.2.1)*am d.1 d.2.1 (gC d.1 d.2.1).1/\(0:Int)<100/\qO d.1 d.2.1 (BT.size d.2.2.1)*am d.1 d.2.1 (gC d.1 d.2.1).1<=4611686018427387904/\(100:Int)<=1000000000/\wl (U.up (jiC d) (100:Int)+0)/\0<=d.2.1/\d.2.1<(d.1.1.2.2.1.length:Int)/\(0:Int)<=(jiY d).1.q4.1/\(jiY d).1.q4.1<(d.1.2.2.2.1.q4.q4.1.length:Int)/\wl (jjF d)/\(100:Int)≠0/\wl ((jjF d).tdiv (100:Int))/\wl (U.up (jiC d) (100:Int)+0)/\wl (U.up (jiC d) (100:Int)+0-min (jiZ d) ((jjF d).tdiv (100:Int)))/\((nth d.1.2.1 d.2.1.toNat,d.2.1,U.up (jiC d) (100:Int),(0:Int),min (jiZ d) ((jjF d).tdiv (100:Int)),U.up (jiC d) (100:Int)+0-min (jiZ d) ((jjF d).tdiv (100:Int)),()),())=(wO d.1 d.2.1 d.2.2.1,()))/\((gC d.1 d.2.1).2=false->wl (jk0 d)/\0<=d.2.1/\d.2.1<(d.1.1.2.2.1.length:Int)/\(0:Int)<=(jiY d).1.q4.1/\(jiY d).1.q4.1<(d.1.2.2.2.1.q4.q4.1.length:Int)/\wl (jjG d)/\(100:Int)≠0/\wl ((jjG d).tdiv (100:Int))/\wl (jk0 d)/\wl (qO d.1 d.2.1 (BT.size d.2.2.1)+(ji0 d)*nth d.1.2.2.1 d.2.1.toNat*BT.size d.2.2.1-min (jiZ d) ((jjG d).tdiv (100:Int)))/\((nth d.1.2.1 d.2.1.toNat,d.2.1,qO d.1 d.2.1 (BT.size d.2.2.1),(ji0 d)*nth d.1.2.2.1 d.2.1.toNat*BT.size d.2.2.1,min (jiZ d) ((jjG d).tdiv (100:Int)),qO d.1 d.2.1 (BT.size d.2.2.1)+(ji0 d)*nth d.1.2.2.1 d.2.1.toNat*BT.size d.2.2.1-min (jiZ d) ((jjG d).tdiv (100:Int)),()),())=(wO d.1 d.2.1 d.2.2.1,()))
def MY:w4:=⟨[.val tLg,.val .int],[.int,.bool],false,fun d=>[aA (wq d.1)=0,0<=d.2.1/\d.2.1<((wm (wq d.1)).length:Int)],fun d=>(wK d.1 d.2.1,Q1 d.1 d.2.1,())⟩
def MZ:Prop:=∀(d:LgD×Int×Unit),aA (wq d.1)=0->0<=d.2.1/\d.2.1<(↑(wm (wq d.1)).length:Int)->(wm d.1.1).length<=1000000/\0<=d.2.1/\d.2.1<(↑(sr d.1.1).length:Int)/\0<=d.2.1/\d.2.1<(d.1.1.2.2.1.length:Int)/\0<=d.2.1/\d.2.1<(↑(sr d.1.1).length:Int)/\wy d.1.1.1=true/\ql d.1.1.1 (nth d.1.1.2.2.1 d.2.1.toNat).1=true/\Zf (nth (sr d.1.1) d.2.1.toNat)/\(nth (sr d.1.1) d.2.1.toNat,Fa d.1.1.1 (nth d.1.1.2.2.1 d.2.1.toNat).1 (nth (sr d.1.1) d.2.1.toNat),())=(wK d.1 d.2.1,Q1 d.1 d.2.1,())
theorem Qs:MX:=by
 rintro⟨n,a,b,⟨⟩⟩;rfl
theorem nN:w9 PR 40 MW:=wT Qs Tryz.func40 kcN koN
theorem EV:∀{l:List NoD} {last:Int},AG last l=true↔∀j,j<l.length->Kd (if j=0 then last else Zp (nth l (j-1))) (nth l j)=true
 |[],_=>⟨fun _ j a=>(by cases a),fun _=>rfl⟩
 |n::r,last=>by
  have d:=EV (l:=r) (last:=Zp n)
  show(Kd last n&&AG (Zp n) r)=true↔_
  rw[ji,d]
  constructor
  rintro⟨b,c⟩ j a
  cases j with
  |zero=>exact b
  |succ j=>
   rw[jd (by omega)]
   have:=c j (by simpa using a)
   cases j with
   |zero=>exact this
   |succ j=>exact this
  intro h
  refine⟨h 0 (by simp),fun j a=> ?_⟩
  have:=h (j+1) (by simpa using a)
  rw[jd (by omega)] at this
  cases j with
  |zero=>exact this
  |succ j=>exact this
theorem jfn {l:List NoD}:AG 100001 l=true↔∀j,j<l.length->Vo l j=true:=by
 constructor;intro h j b;have a:=(Ce h _ (L.wh b));have c:=EV.1 h j b;unfold Vo;simp only[ji,zt,jp,vE];refine⟨⟨by omega,by omega⟩,?_⟩;by_cases e:j=0;exact Or.inl e;rw[jd e] at c;unfold Kd at c;rw[ji,vE] at c;right;omega;intro h;refine EV.2 fun j b=> ?_
 have a:=h j b;unfold Vo at a;simp only[ji,zt,jp,vE] at a;unfold Kd U.share;rw[ji,vE,vE];refine⟨?_,a.1.2⟩;by_cases e:j=0;rw[je e];omega;rw[jd e];omega
def taH (t:TaD):Bool:= !wa (QV t) 1 240|| !wa (Zr t) 0 10000|| !wa (jeb t) 0 20|| !wa (jec t) 0 (jbt t)||decide (1440<jbt t)|| !wa (GC t) 0 100|| !wa (Nm t) 0 10000||decide (((bn t).length:Int)≠4)|| !wa (Nn t) 0 1000000||decide (4<((aB t).length:Int))
theorem JO (t:TaD):yB t=true↔taH t=false/\(∀j,j<(bn t).length->wa (nth (bn t) j) 0 100=true)/\∀j,j<(aB t).length->Vo (aB t) j=true:=by
 rw[<-jfn];unfold yB taH U.share;simp only[jT,jI,zq,ji,jp,vE,jV];constructor;rintro⟨⟨⟨⟨⟨⟨⟨a,b⟩,c⟩,l⟩,d⟩,e⟩,f⟩,⟨⟨⟨m,g⟩,h⟩,n⟩,i⟩;exact⟨⟨⟨⟨⟨⟨⟨⟨⟨⟨a,b⟩,c⟩,d⟩,by omega⟩,e⟩,f⟩,by omega⟩,h⟩,by omega⟩,fun j k=>g _ (L.wh k),i⟩;rintro⟨⟨⟨⟨⟨⟨⟨⟨⟨⟨a,b⟩,c⟩,d⟩,l⟩,e⟩,f⟩,m⟩,h⟩,n⟩,g,i⟩;refine⟨⟨⟨⟨⟨⟨⟨a,b⟩,c⟩,by omega⟩,d⟩,e⟩,f⟩,⟨⟨⟨by omega,fun x o=> ?_⟩,h⟩,by omega⟩,i⟩;obtain⟨j,k,rfl⟩:=L.mem_iff.1 o;exact g j k
theorem jdR {t:TaD} (h:¬yB t=true):(false,())=(yB t,()):=by
 rw[zT] at h;rw[h]
theorem EW (l:LgD):dK l=true↔((vd l).length=(wm (wq l)).length/\(oD l).length=(wm (wq l)).length/\yB (vB l)=true/\(qj l).length<=10)/\(∀j,j<(wm (wq l)).length->Vx l j=true)/\∀j,j<(qj l).length->o9 (wm (wq l)).length (nth (qj l) j)=true:=by
 unfold dK Vx;simp only[ji,jp,jV];constructor;rintro⟨⟨⟨c,h⟩,d,i⟩,e,f,k⟩;exact⟨⟨c,d,e,f⟩,fun j a=>⟨h _ (L.wh (by omega)),i _ (L.wh (by omega))⟩,fun j a=>k _ (L.wh a)⟩;rintro⟨⟨c,d,e,f⟩,g,m⟩;refine⟨⟨⟨c,fun x b=> ?_⟩,d,fun x b=> ?_⟩,e,f,fun x b=> ?_⟩;obtain⟨j,a,rfl⟩:=L.mem_iff.1 b;exact(g j (by omega)).1;obtain⟨j,a,rfl⟩:=L.mem_iff.1 b;exact(g j (by omega)).2;obtain⟨j,a,rfl⟩:=L.mem_iff.1 b;exact m j a
theorem jdS {l:LgD} (h:¬dK l=true):(false,())=(dK l,()):=by
 rw[zT] at h;rw[h]
theorem jfo {l:List CaD} {i:Nat} (h:∀j:Nat,j<i->Zj (nth l i) (nth l j)=false) (hi:i<=l.length):cg l i=false:=by
 unfold cg;rw[zj];intro x c;obtain⟨j,b,rfl⟩:=L.mem_iff.1 c;rw[jZ] at b;rw[L.nth_take (by omega)];have:=h j (by omega);unfold Zj at this;rw[zT,km] at*;rcases this with a|a;left;exact zp fun e=>jc a e.symm
 right;rw[zq,jp] at a;rw[a,jG rfl];rfl
theorem jdT {l:List CaD} {i j:Nat} (hi:i<l.length) (a:j<i) (h:Zj (nth l i) (nth l j)=true):du l=true:=by
 unfold du Fc;rw[zc];refine⟨i,jE.2 hi,?_⟩;unfold cg;rw[zc];unfold Zj at h;rw[ji,jp,jX,jI] at h;refine⟨nth l j,?_,?_⟩;exact L.mem_iff.2 ⟨j,by rw[jZ];omega,L.nth_take (by omega)⟩;rw[ji,jp,jX,jI];exact⟨h.1.symm,fun e=>h.2 e.symm⟩
theorem JP:Gj:=by
 unfold Gj jlQ jlP jjD jjC jlO jkW jjB Prod.q4;rintro⟨t,⟨⟩⟩ _ _;refine⟨fun h=>jdR (t:=t) (fun c=> ?_),fun k=> ?_⟩;have h:taH t=true:=h;rw[((JO t).1 c).1] at h;cases h;have k:taH t=false:=k;refine⟨⟨0,⟨⟨rfl,tZ⟩,tZ⟩,jl _,fun j f=>by omega⟩,fun x d g=>⟨fun h=> ?_,fun h=> ?_⟩⟩;have g:(bn t).length<4611686018427387904:=g;have h:(x:Int)<(bn t).length:=ja h;refine⟨by omega,h,fun c=>jdR (t:=t) (fun i=> ?_),fun c=>⟨iZ6,x+1,⟨⟨by simp,tZ⟩,tZ⟩,⟨by show x+1<=(bn t).length;omega,fun j f=> ?_⟩,by show(bn t).length-(x+1)<(bn t).length-x;omega⟩⟩;have c:(!wa (nth (bn t) x) 0 100)=true:=c;rw[((JO t).1 i).2.1 x (by omega)] at c;cases c;have c:wa (nth (bn t) x) 0 100=true:=(by simpa using(show(!wa (nth (bn t) x) 0 100)=false from c));by_cases e:j=x;subst e;exact c;exact d.2 j (by omega);have h:¬(x:Int)<(bn t).length:=jc h;have o:∀j,j<(bn t).length->wa (nth (bn t) j) 0 100=true:=fun j f=>d.2 j (by omega)
 clear d h;refine⟨⟨0,⟨⟨rfl,tZ⟩,tZ⟩,jl _,fun j f=>by omega⟩,fun x d g=>⟨fun h=> ?_,fun h=> ?_⟩⟩;have g:(aB t).length<4611686018427387904:=g;have h:(x:Int)<(aB t).length:=ja h;have l:(!wa (Zp (nth (aB t) x)) 0 100000|| !wa (Zq (nth (aB t) x)) 0 100||decide (0<(x:Int))&&decide (Zp (nth (aB t) ((x:Int)-1).toNat)<=Zp (nth (aB t) x)))= !Vo (aB t) x:=by
  have e2:((x:Int)-1).toNat=x-1:=(by omega);have m:∀a b:Int,(decide (0<(x:Int))&&decide (a<=b))= !(decide (x=0)||decide (b<a)):=fun a b=>by
   rw[j7];simp only[ji,jp,jX,jT,jI];omega
  unfold Vo;rw[e2,m,Bool.not_and,Bool.not_and]
 refine⟨by omega,h,fun _=>iZ6,fun c=> ?_,fun _=>by show(x:Int)-1<((aB t).length:Int);omega,fun c=>jdR (t:=t) (fun i=> ?_),fun c=>⟨iZ6,x+1,⟨⟨by simp,tZ⟩,tZ⟩,⟨by show x+1<=(aB t).length;omega,fun j f=> ?_⟩,by show(aB t).length-(x+1)<(aB t).length-x;omega⟩⟩;rw[ji] at c;have c:0<(x:Int):=ja c.2;show 0<=(x:Int)-1;omega;have c:(!Vo (aB t) x)=true:=l.symm.trans c;rw[((JO t).1 i).2.2 x (by omega)] at c;cases c;have c:(!Vo (aB t) x)=false:=l.symm.trans c;by_cases e:j=x;subst e;show Vo (aB t) j=true;simpa using c;exact d.2 j (by omega);have h:¬(x:Int)<(aB t).length:=jc h;have n:∀j,j<(aB t).length->Vo (aB t) j=true:=fun j f=>d.2 j (by omega)
 show(true,())=(yB t,());rw[(JO t).2 ⟨k,o,n⟩]
theorem Gn:w9 PR 95 Gh:=vb Gi JP Tryz.func95 (kcC nN kcN) koN
def lgH (l:LgD):Bool:=decide (((vd l).length:Int)≠(wm (wq l)).length)||decide (((oD l).length:Int)≠(wm (wq l)).length)|| !yB (vB l)||decide (10<((qj l).length:Int))
theorem YL (l:LgD):lgH l=false↔((vd l).length=(wm (wq l)).length/\(oD l).length=(wm (wq l)).length/\yB (vB l)=true/\(qj l).length<=10):=by
 unfold lgH;simp only[jT,jI,zq];constructor;rintro⟨⟨⟨b,c⟩,a⟩,d⟩;exact⟨by omega,by omega,a,by omega⟩;rintro⟨b,c,a,d⟩;exact⟨⟨⟨by omega,by omega⟩,a⟩,by omega⟩
theorem JQ:Gm:=by
 unfold Gm jlT jke jkX jlS jkc jlR jhk Prod.q4;rintro⟨l,⟨⟩⟩ i _ _ _;have i:(wm (wq l)).length<4611686018427387904:=i;refine⟨fun h=>jdS (l:=l) (fun a=> ?_),fun f=> ?_⟩;have h:lgH l=true:=h;rw[(YL l).2 ((EW l).1 a).1] at h;cases h;have f:=(YL l).1 (show lgH l=false from f);obtain⟨r,s,p,o⟩:=id f;refine⟨⟨0,⟨⟨rfl,tZ⟩,tZ⟩,jl _,fun j d=>by omega⟩,fun x b=>⟨fun h=> ?_,fun h=> ?_⟩⟩;have h:(x:Int)<(wm (wq l)).length:=ja h;have b:x<=(((wm (wq l)).length:Int)).toNat/\∀j:Nat,j<x->Vx l j=true:=b;have c:(!wa (nth (vd l) x) 0 20|| !wa (nth (oD l) x) 0 300)= !Vx l x:=by
  unfold Vx No AH;rw[Bool.not_and]
 refine⟨by omega,by show(x:Int)<(vd l).length;omega,fun _=>by omega,fun _=>by show(x:Int)<(oD l).length;omega,fun a=>jdS (l:=l) (fun g=> ?_),fun a=>⟨iZ6,x+1,⟨⟨by simp,tZ⟩,tZ⟩,⟨by show x+1<=(((wm (wq l)).length:Int)).toNat;omega,fun j d=> ?_⟩,by show(((wm (wq l)).length:Int)).toNat-(x+1)<(((wm (wq l)).length:Int)).toNat-x;omega⟩⟩;have a:(!Vx l x)=true:=c.symm.trans a;rw[((EW l).1 g).2.1 x (by omega)] at a;cases a;have a:(!Vx l x)=false:=c.symm.trans a;by_cases e:j=x;subst e;show Vx l j=true;simpa using a;exact b.2 j (by omega);have h:¬(x:Int)<(wm (wq l)).length:=jc h;have n:∀j,j<(wm (wq l)).length->Vx l j=true:=fun j d=>b.2 j (by omega)
 clear b h;refine⟨⟨0,⟨⟨rfl,tZ⟩,tZ⟩,jl _,fun j d=>by omega⟩,fun x b k=>⟨fun h=> ?_,fun h=> ?_⟩⟩;have k:(qj l).length<4611686018427387904:=k;have h:(x:Int)<(qj l).length:=ja h;have q:(((wm (wq l)).length:Int)).toNat=(wm (wq l)).length:=(by omega);have c:(!wa (Vw (nth (qj l) x)) 0 99|| !wa (jed (nth (qj l) x)) 0 (((wm (wq l)).length:Int)-1)|| !wa (QW (nth (qj l) x)) (-100000) 1440)= !o9 (wm (wq l)).length (nth (qj l) x):=by
  unfold o9;rw[Bool.not_and,Bool.not_and]
 refine⟨by omega,h,fun _=> ?_,fun a=>jdS (l:=l) (fun g=> ?_),fun a=>⟨iZ6,x+1,⟨⟨by simp,tZ⟩,tZ⟩,⟨by show x+1<=(qj l).length;omega,fun j d=> ?_⟩,by show(qj l).length-(x+1)<(qj l).length-x;omega⟩⟩;show wl (((wm (wq l)).length:Int)-1);exact iZ6;have a:(!o9 (wm (wq l)).length (nth (qj l) x))=true:=c.symm.trans a;rw[((EW l).1 g).2.2 x (by omega)] at a;cases a;have a:(!o9 (wm (wq l)).length (nth (qj l) x))=false:=c.symm.trans a;by_cases e:j=x;subst e;show o9 (wm (wq l)).length (nth (qj l) j)=true;simpa using a;exact b.2 j (by omega);have h:¬(x:Int)<(qj l).length:=jc h;have m:∀j,j<(qj l).length->o9 (wm (wq l)).length (nth (qj l) j)=true:=fun j d=>b.2 j (by omega)
 show(true,())=(dK l,());rw[(EW l).2 ⟨f,n,m⟩]
theorem Gp:w9 PR 58 Gk:=vb Gl JQ Tryz.func58 (kcC nN (kcC Gn kcN)) koN
theorem U2:Qr:=by
 unfold Qr jlU jiW jjE Prod.q4;rintro⟨l,⟨⟩⟩ r;have f:qo (wq l)=aA (wq l):=de _;refine⟨r,fun h=> ?_,fun h=> ?_⟩;have h:aA (wq l)≠0:=ja h;show(aA (wq l),())=(wU l,());unfold wU;rw[f,je h];have h:¬aA (wq l)≠0:=jc h;refine⟨fun c=> ?_,fun c=> ?_⟩;have c:dK l=false:=(by simpa using(show(!dK l)=true from c));show((70:Int),())=(wU l,());unfold wU;rw[f,jd h,je c];have c:dK l=true:=(by simpa using(show(!dK l)=false from c));have q:=((EW l).1 c).1.2.2.2;have n:∀v,(if du (qj l)=true then(71:Int) else 0)=v->(v,())=(wU l,()):=fun v s=>by
  unfold wU;rw[f,jd h,jd (by rw[c];decide),s]
 refine⟨⟨0,⟨⟨rfl,tZ⟩,tZ⟩,jl _,fun j g=>by omega⟩,fun x p o=>⟨fun d=> ?_,fun d=> ?_⟩⟩;have o:(qj l).length<4611686018427387904:=o;have d:(x:Int)<(qj l).length:=ja d;refine⟨⟨0,⟨⟨rfl,tZ⟩,tZ⟩,jl _,fun j g=>by omega⟩,fun y i=>⟨fun b=> ?_,fun b=> ?_⟩⟩;have b:(y:Int)<(x:Int):=ja b;have i:y<=x/\∀j:Nat,j<y->Zj (nth (qj l) x) (nth (qj l) j)=false:=i;have k:(y:Int)<(qj l).length:=(by omega);refine⟨by omega,d,by omega,k,fun _=>by omega,fun _=>d,fun _=>by omega,fun _=>k,fun a=> ?_,fun a=>⟨iZ6,y+1,⟨⟨by simp,tZ⟩,tZ⟩,⟨by show y+1<=x;omega,fun j g=> ?_⟩,by show x-(y+1)<x-y;omega⟩⟩;have a:Zj (nth (qj l) x) (nth (qj l) y)=true:=a;exact n 71 (je (jdT (by omega) (by omega) a));have a:Zj (nth (qj l) x) (nth (qj l) y)=false:=a;by_cases e:j=y;subst e;exact a;exact i.2 j (by omega);have b:¬(y:Int)<(x:Int):=jc b;have i:y<=x/\∀j:Nat,j<y->Zj (nth (qj l) x) (nth (qj l) j)=false:=i;have m:y=x:=(by omega);subst m;refine⟨iZ6,y+1,⟨⟨by simp,tZ⟩,tZ⟩,⟨by show y+1<=(qj l).length;omega,fun j g=> ?_⟩,by show(qj l).length-(y+1)<(qj l).length-y;omega⟩;by_cases e:j=y;subst e;exact jfo i.2 (by omega);exact p.2 j (by omega);have d:¬(x:Int)<(qj l).length:=jc d;refine n 0 (jd fun b=> ?_);unfold du Fc at b;rw[zc] at b;obtain⟨j,g,a⟩:=b;have g:=jE.1 g;have:=p.2 j (by omega);rw[this] at a;cases a
theorem EX:w9 PR 21 Qp:=vb Qq U2 Tryz.func21 (kcC rZ (kcC Gp kcN)) koN
theorem Gq:ER:=by
 rintro⟨l,n,⟨⟩⟩ a;have a:(wm (wq l)).length<4611686018427387904:=a;exact⟨by show wl (((wm (wq l)).length:Int)-1);exact iZ6,rfl⟩
theorem EY:w9 PR 16 EQ:=wT Gq Tryz.func16 (kcC nN kcN) koN
theorem jdU:ja7:=jb4
theorem So:w9 PR 75 ja6:=wT jdU Tryz.func75 kcN koN
theorem YM:UZ:=Mc
theorem HO:w9 PR 74 UX:=vb UY YM Tryz.func74 kcN koN
theorem Gr:EU:=by
 unfold EU jlV jij jiX Prod.q4;rintro⟨l,b,⟨⟩⟩ o;obtain⟨_,i,_,_,_,_,_,j,_⟩:Ke l b:=o;refine⟨⟨0,⟨⟨rfl,rfl,rfl,tZ⟩,tZ⟩,jl _⟩,fun x n _=>⟨fun h=> ?_,fun h=> ?_⟩⟩;have h:(x:Int)<(qj l).length:=ja h;have m:=sf (l:=l) (b:=b) (k:=x) (by omega);have up:x+1<=(qj l).length:=(by omega);have g:(qj l).length-(x+1)<(qj l).length-x:=(by omega);refine⟨by omega,h,fun _=>i.1,fun _=>i.2,fun a=> ?_,fun a=> ?_⟩;have a:(decide (jed (nth (qj l) x)=b)&&decide (QW (nth (qj l) x)<=qh (vK l b))&&(!(ve l b x).2||decide (QW (nth (qj l) x)<(ve l b x).1)))=true:=a;simp only[ji,zt,jX,jp] at a;have e:ve l b (x+1)=(QW (nth (qj l) x),true):=by
  rw[m];exact je ⟨a.1.1,a.1.2,a.2⟩
 exact⟨iZ6,x+1,⟨⟨by simp,(jD (·.2) e).symm,(jD (·.1) e).symm,tZ⟩,tZ⟩,up,g⟩;have a:(decide (jed (nth (qj l) x)=b)&&decide (QW (nth (qj l) x)<=qh (vK l b))&&(!(ve l b x).2||decide (QW (nth (qj l) x)<(ve l b x).1)))=false:=a;have e:ve l b (x+1)=ve l b x:=by
  rw[m];refine jd fun d=> ?_
  rw[jG d.1,jG d.2.1] at a;rcases d.2.2 with c|c;rw[c] at a;cases a;rw[jG c,Bool.or_true] at a;cases a
 exact⟨iZ6,x+1,⟨⟨(jD (·.2) e).symm,(jD (·.1) e).symm,by simp,tZ⟩,tZ⟩,up,g⟩;have h:¬(x:Int)<(qj l).length:=jc h;have n:x<=(qj l).length:=n;have f:x=(qj l).length:=(by omega);subst f;rfl
theorem EZ:w9 PR 44 ES:=vb ET Gr Tryz.func44 kcN koN
theorem Sp {l:LgD} {b m:Int} (h:Ke l b) (f:0<=m/\m<=8):0<=ew l b m/\ew l b m<=115200000:=by
 have c:=cB.1 h.1;obtain⟨g,i,j⟩:=h.2.2.2.2.2.1;have k:=MC (a:=gH (vK l b)-qh (vK l b)) (b:=QV (vB l)) (by omega) (by have:=c.un;omega);have n:=c.le;have d:0<=max (jeb (vB l)) (U.up (gH (vK l b)-qh (vK l b)) (QV (vB l)))/\max (jeb (vB l)) (U.up (gH (vK l b)-qh (vK l b)) (QV (vB l)))<=1440:=(by omega);have e:0<=m*Zr (vB l)/\m*Zr (vB l)<=80000:=Jr (A:=8) (B:=10000) f c.rt;exact Jr e d
theorem Sq {l:LgD} {b m:Int} (h:Ke l b) (f:0<=m/\m<=8):0<=qO l b m/\qO l b m<=100000000000000:=by
 have g:=cB.1 h.1;obtain⟨i,j,k⟩:=h.2.2.2.2.2.1;have e:=Sp h f;have a:=Qo l b (gH (vK l b)-qh (vK l b)).toNat;have c:0<=ew l b m*GC (vB l)/\ew l b m*GC (vB l)<=11520000000:=Jr e g.ni;have d:0<=ew l b m*GC (vB l)*QZ l b/\ew l b m*GC (vB l)*QZ l b<=16588800000000:=Jr c (B:=1440) ⟨a.1,kY a.2 (by omega)⟩;have n:=MC (b:=100*(gH (vK l b)-qh (vK l b))) d.1 (by omega);unfold qO;omega
theorem YN:UW:=by
 unfold UW jlW jik jhp jkY jiB jiA jhX Prod.q4;rintro⟨l,b,m,⟨⟩⟩ c d;have c:Ke l b:=c;have d:0<=m/\m<=8:=d;have g:=cB.1 c.1;have k:=c.2.1;obtain⟨r,s,t⟩:=c.2.2.2.2.2.1;have q:=Sp c d;have p:0<=ew l b m*GC (vB l)/\ew l b m*GC (vB l)<=11520000000:=Jr q g.ni;have v:=Sq c d;refine⟨k.1,k.2,?_,⟨0,⟨⟨?_,rfl,tZ⟩,tZ⟩,jl _⟩,fun x n=>⟨fun h=> ?_,fun h=> ?_⟩⟩;show wl (gH (vK l b)-qh (vK l b));exact iZ6;show qh (vK l b)=qh (vK l b)+((0:Nat):Int);omega;have h:qh (vK l b)+(x:Int)<gH (vK l b):=ja h;have f:=Qo l b x;have e:ym l b (x+1)=ym l b x+(if sn l b x=true then 1 else 0):=by
  unfold ym;rw[j8,zL,kN]
  split<;>simp
 have e2:qh (vK l b)+(x:Int)+1=qh (vK l b)+((x+1:Nat):Int):=(by omega);have up:x+1<=(gH (vK l b)-qh (vK l b)).toNat:=(by omega);have j:(gH (vK l b)-qh (vK l b)).toNat-(x+1)<(gH (vK l b)-qh (vK l b)).toNat-x:=(by omega);have o:wl (qh (vK l b)+(x:Int)+1):=iZ6;refine⟨fun a=> ?_,fun a=> ?_⟩;have a:sn l b x=true:=a;rw[je a] at e;exact⟨by show wl (ym l b x+1);exact iZ6,o,x+1,⟨⟨e2,e.symm,tZ⟩,tZ⟩,up,j⟩;have a:sn l b x=false:=a;rw[jd (by rw[a];decide),Int.add_zero] at e;exact⟨o,x+1,⟨⟨e.symm,e2,tZ⟩,tZ⟩,up,j⟩;have h:¬qh (vK l b)+(x:Int)<gH (vK l b):=jc h;have n:x<=(gH (vK l b)-qh (vK l b)).toNat:=n;have i:x=(gH (vK l b)-qh (vK l b)).toNat:=(by omega);subst i;have f:=Qo l b (gH (vK l b)-qh (vK l b)).toNat;have a:0<=ew l b m*GC (vB l)*QZ l b/\ew l b m*GC (vB l)*QZ l b<=16588800000000:=Jr p (B:=1440) ⟨f.1,kY f.2 (by omega)⟩;have u:0<=m*Zr (vB l)/\m*Zr (vB l)<=80000:=Jr (A:=8) (B:=10000) d g.rt;have w:=g.un;refine⟨?_,?_,?_,?_,?_,?_,?_,?_,?_,a.1,?_,?_,?_,?_,rfl⟩;show wl (m*Zr (vB l));exact iZ6;show 0<=gH (vK l b)-qh (vK l b);omega;show 0<QV (vB l);omega;show gH (vK l b)-qh (vK l b)<=_;omega;show QV (vB l)<=_;omega;show wl (ew l b m);exact iZ6;show wl (ew l b m*GC (vB l));exact iZ6;show wl (ew l b m*GC (vB l)*QZ l b);exact iZ6;show wl (100*(gH (vK l b)-qh (vK l b)));exact iZ6;show 0<100*(gH (vK l b)-qh (vK l b));omega;show ew l b m*GC (vB l)*QZ l b<=_;omega;show 100*(gH (vK l b)-qh (vK l b))<=_;omega;show wl (qO l b m);exact iZ6
theorem U3:w9 PR 73 UU:=vb UV YN Tryz.func73 (kcC So kcN) koN
theorem jdV {l:LgD} {b m:Int} (h:yB (vB l)=true):0<=am l b m/\am l b m<=100:=by
 unfold am
 split
 rename_i a;have:=Et a;exact(Ce (cB.1 h).no _ (L.wh this.1)).2;omega
theorem M0:JN:=by
 unfold JN jkZ jlX Prod.q4;rintro⟨l,b,m,⟨⟩⟩ c g;have c:Ke l b:=c;have g: -100000<=m/\m<=1440:=g;have f:=c.2.1;have r:=(cB.1 c.1).nl;obtain⟨n,o,q⟩:=c.2.2.2.2.2.1;refine⟨⟨0,⟨⟨rfl,tZ⟩,tZ⟩,jl _,fun j k=>by omega⟩,fun x d _=>⟨fun h=> ?_,fun h=> ?_⟩⟩;have h:(x:Int)<(aB (vB l)).length:=ja h;refine⟨by omega,h,f.1,f.2,?_,fun a=> ?_,fun a=>⟨iZ6,x+1,⟨⟨by simp,tZ⟩,tZ⟩,⟨by show x+1<=(aB (vB l)).length;omega,fun j k=> ?_⟩,by show(aB (vB l)).length-(x+1)<(aB (vB l)).length-x;omega⟩⟩;show wl (qh (vK l b)-m);exact iZ6;have a:pz l b m (nth (aB (vB l)) x)=true:=a;have e:=yI (p:=pz l b m) (l:=aB (vB l)) (i:=x) (by omega) d.2 a;have e2:am l b m=Zq (nth (aB (vB l)) x):=by
  unfold am;rw[e,je (by omega)];rfl
 show(Zq (nth (aB (vB l)) x),())=(am l b m,());rw[e2];have a:pz l b m (nth (aB (vB l)) x)=false:=a;by_cases e:j=x;subst e;exact a;exact d.2 j (by omega);have h:¬(x:Int)<(aB (vB l)).length:=jc h;have e:=vu (p:=pz l b m) (l:=aB (vB l)) (i:=x) (by omega) d.2;have e2:am l b m=100:=by
  unfold am;rw[e,jd (by omega)]
 show((100:Int),())=(am l b m,());rw[e2]
theorem JR:w9 PR 76 JL:=vb JM M0 Tryz.func76 kcN koN
theorem ja8 {w p:Int} (e:0<=w/\w<=100000000000000) (d:0<=p/\p<=100):(0<=w*p/\w*p<=10000000000000000)/\0<=U.up (w*p) 100/\U.up (w*p) 100<=10000000000000000:=by
 have a:0<=w*p/\w*p<=10000000000000000:=Jr e d;have c:=MC (b:=100) a.1 (by omega);exact⟨a,c.1,by omega⟩
theorem YO:U1:=by
 unfold U1 jjG jk0 ji0 jiZ jjF jiY jiC Prod.q4;rintro⟨l,b,t,⟨⟩⟩ a j d;have a:Ke l b:=a;have j:BT.qm t:=j;have d:BT.size t<=8:=d;have s:=BT.uM t;obtain⟨g,c,N,O,i,I,K,G,r⟩:=id a;have k:=cB.1 g;have F:=Sq a (m:=BT.size t) ⟨s.1,d⟩;have H:=i _ (L.wh (show b.toNat<(oD l).length by omega));have J:=YE (l:=l) (b:=b) r (qj l).length (jj _);have M:=jdV (l:=l) (b:=b) (m:=(gC l b).1) g;have P:0<=Nm (vB l)*nth (oD l) b.toNat/\Nm (vB l)*nth (oD l) b.toNat<=3000000:=Jr k.mi H;have Q:0<=Nm (vB l)*nth (oD l) b.toNat*BT.size t/\Nm (vB l)*nth (oD l) b.toNat*BT.size t<=24000000:=Jr (B:=8) P ⟨s.1,d⟩;have hk:(ct (gg (vK l b))).toNat<(bn (vB l)).length:=(by rw[k.sl];omega);have f:=k.sb _ (L.wh hk);have e:=k.cp;have o:b<((vd l).length:Int):=(by omega);have p:b<((oD l).length:Int):=(by omega);refine⟨c.1,o,j,a,⟨s.1,d⟩,c.1,p,?_,j,?_,a,fun h=> ?_,fun h=> ?_⟩;show wl (Nm (vB l)*nth (oD l) b.toNat);exact iZ6;show wl (Nm (vB l)*nth (oD l) b.toNat*BT.size t);exact iZ6;have h:(gC l b).2=true:=h;obtain⟨S,T⟩:=ja8 F M;have q:wO l b t=(nth (vd l) b.toNat,b,U.up (qO l b (BT.size t)*am l b (gC l b).1) 100,0,min (Nn (vB l)) (((U.up (qO l b (BT.size t)*am l b (gC l b).1) 100+0)*nth (bn (vB l)) (ct (gg (vK l b))).toNat).tdiv 100),U.up (qO l b (BT.size t)*am l b (gC l b).1) 100+0-min (Nn (vB l)) (((U.up (qO l b (BT.size t)*am l b (gC l b).1) 100+0)*nth (bn (vB l)) (ct (gg (vK l b))).toNat).tdiv 100),()):=by
  unfold wO jef x7 x8;rw[je h,je h]
 obtain⟨u,v,x,y,z,A,C,D,V⟩:=Eu (w:=U.up (qO l b (BT.size t)*am l b (gC l b).1) 100) (t:=0) (n:=(bn (vB l)).length) (R:=True) T (by omega) e f (show 0<=ct (gg (vK l b)) by omega) (by omega) trivial;refine⟨a,J,?_,S.1,by decide,?_,by decide,u,c.1,c.2,v,x,y,z,A,C,D,?_⟩;show wl (qO l b (BT.size t)*am l b (gC l b).1);exact iZ6;show qO l b (BT.size t)*am l b (gC l b).1<=_;omega;show _=(wO l b t,());rw[q];rfl;have h:(gC l b).2=false:=h;have E:¬(gC l b).2=true:=(by rw[h];decide);have q:wO l b t=(nth (vd l) b.toNat,b,qO l b (BT.size t),Nm (vB l)*nth (oD l) b.toNat*BT.size t,min (Nn (vB l)) (((qO l b (BT.size t)+Nm (vB l)*nth (oD l) b.toNat*BT.size t)*nth (bn (vB l)) (ct (gg (vK l b))).toNat).tdiv 100),qO l b (BT.size t)+Nm (vB l)*nth (oD l) b.toNat*BT.size t-min (Nn (vB l)) (((qO l b (BT.size t)+Nm (vB l)*nth (oD l) b.toNat*BT.size t)*nth (bn (vB l)) (ct (gg (vK l b))).toNat).tdiv 100),()):=by
  unfold wO jef x7 x8;rw[jd E,jd E]
 obtain⟨u,v,x,y,z,A,C,D,V⟩:=Eu (w:=qO l b (BT.size t)) (t:=Nm (vB l)*nth (oD l) b.toNat*BT.size t) (n:=(bn (vB l)).length) (R:=True) ⟨F.1,by omega⟩ ⟨Q.1,by omega⟩ e f (show 0<=ct (gg (vK l b)) by omega) (by omega) trivial;refine⟨u,c.1,c.2,v,x,y,z,A,C,D,?_⟩;show _=(wO l b t,());rw[q];rfl
theorem HP:w9 PR 45 U0:=wT YO Tryz.func45 (kcC HO (kcC U3 (kcC EZ (kcC JR (kcC So kcN))))) koN
theorem Qt:MZ:=by
 rintro⟨l,b,⟨⟩⟩ c a;have c:aA (wq l)=0:=c;have a:0<=b/\b<((wm (wq l)).length:Int):=a;have g:((sr (wq l)).length:Int)=(wm (wq l)).length:=(by rw[Jj c]);have d:b<((sr (wq l)).length:Int):=(by omega);have f:=HC c;have h:=XQ f (b:=b.toNat) (by omega);have i:Zf (nth (sr (wq l)) b.toNat):=(by rw[Sa c];exact X4 c (by omega));have j:(wm (wq l)).length<=4:=by
  have e:=f.2.2;unfold qG at e;rw[ji] at e;exact(ja e.1).1
 exact⟨by show(wm (wq l)).length<=1000000;omega,a.1,d,a.1,a.2,a.1,d,f.1,h,i,rfl⟩
theorem AC:w9 PR 18 MY:=wT Qt Tryz.func18 (kcC P7 (kcC T8 kcN)) koN
namespace U
def wI (l:LgD):List LnD:=if wU l=0 then x9 l else[]
def q9 (l:LgD):List Int:=if wU l=0 then jeg l else[]
def iv (l:LgD) (n:Int):List Int:=if qk l (qU l n)=0 then gY l n else[]
def vi (l:LgD) (b:Nat):List Int:=gY l (b:Int)
def pA (l:LgD):List Int:=if wU l=0 then wH (vi l) (wB l) (wm (wq l)).length else[]
def pB (l:LgD):List Int:=if wU l=0 then eU (jeg l) else[]
def pC (l:LgD):Int:=if wU l=0 then ao (x9 l) (x9 l).length else 0
def Kf (l:LgD):Prop:=Fb (wq l)/\(vd l).length<=20/\(oD l).length<=20/\(bn (vB l)).length<=20/\(aB (vB l)).length<=20/\(qj l).length<=30
end U
def Qu:w4:=⟨[.val tLg],[.slice tLn,.int],false,fun d=>[(wm (wq d.1)).length<=1000000],fun d=>(wI d.1,wU d.1,())⟩
def Qv:Ann:=fun r=>match r with
 |6=>some fun σ=>{X:=Nat,sl:=fun p=>[(6,.dat .int (p:Int)),(5,.own 5 tLn)],ob:=fun p=>[(5,some (.row 61 tLn false .yes (qX (gb tLg σ 1) p)))],inv:=fun p=>p<=21,mu:=fun p=>21-p}
 |9=>some fun σ=>{X:=Nat,sl:=fun k=>[(7,.dat .int (k:Int)),(5,.own 5 tLn)],ob:=fun k=>[(5,some (.row 61 tLn false .yes (gr tLn σ 5++yx (gb tLg σ 1) (gd .int σ 6) k)))],inv:=fun k=>k<=(vd (gb tLg σ 1)).length,mu:=fun k=>(vd (gb tLg σ 1)).length-k}
 |_=>none
def Qw:Prop:=∀(d:LgD×Unit),(wm (wq d.1)).length<=1000000->(wm (wq d.1)).length<=1000000/\(decide (wU d.1≠0)=true->([],wU d.1,())=(wI d.1,wU d.1,()))/\(decide (wU d.1≠0)=false->(∃(x:Nat),((0=(x:Int)/\True/\True)/\qX d.1 x=[]/\True)/\x<=21)/\∀(x:Nat),x<=21->(decide ((x:Int)<=20)=true->(∃(a:Nat),((0=(a:Int)/\True/\True)/\qX d.1 x=qX d.1 x++yx d.1 (x:Int) a/\True)/\a<=(vd d.1).length)/\∀(a:Nat),a<=(vd d.1).length->d.1.2.1.length<4611686018427387904->(decide ((a:Int)<d.1.2.1.length)=true->aA (wq d.1)=0/\(0<=(a:Int)/\(a:Int)<(wm (wq d.1)).length)/\(Q1 d.1 (a:Int)=true->0<=(a:Int))/\(Q1 d.1 (a:Int)=true->(a:Int)<d.1.2.1.length)/\((Q1 d.1 (a:Int)&&decide (nth d.1.2.1 a=(x:Int)))=true->Ke d.1 (a:Int)/\BT.qm (wK d.1 (a:Int))/\BT.size (wK d.1 (a:Int))<=8/\((qX d.1 x++yx d.1 (x:Int) a).length+[wO d.1 (a:Int) (wK d.1 (a:Int))].length)*48<=140737488355328/\wl ((a:Int)+1)/\∃(b:Nat),(((a:Int)+1=(b:Int)/\True/\True)/\qX d.1 x++yx d.1 (x:Int) a++[wO d.1 (a:Int) (wK d.1 (a:Int))]=qX d.1 x++yx d.1 (x:Int) b/\True)/\b<=(vd d.1).length/\(vd d.1).length-b<(vd d.1).length-a)/\((Q1 d.1 (a:Int)&&decide (nth d.1.2.1 a=(x:Int)))=false->wl ((a:Int)+1)/\∃(b:Nat),((True/\(a:Int)+1=(b:Int)/\True)/\qX d.1 x++yx d.1 (x:Int) a=qX d.1 x++yx d.1 (x:Int) b/\True)/\b<=(vd d.1).length/\(vd d.1).length-b<(vd d.1).length-a))/\(decide ((a:Int)<d.1.2.1.length)=false->wl ((x:Int)+1)/\∃(b:Nat),(((x:Int)+1=(b:Int)/\True/\True)/\qX d.1 x++yx d.1 (x:Int) a=qX d.1 b/\True)/\b<=21/\21-b<21-x))/\(decide ((x:Int)<=20)=false->(qX d.1 x,(0:Int),())=(wI d.1,wU d.1,())))
def M1:w4:=⟨[.val tLg],[.slice .int,.int],false,fun d=>[(wm (wq d.1)).length<=1000000],fun d=>(q9 d.1,wU d.1,())⟩
def M2:Ann:=fun r=>match r with
 |6=>some fun σ=>{X:=Nat,sl:=fun i=>[(7,.dat .int (i:Int)),(6,.dat .int (qt (gb tLg σ 1) i))],ob:=fun _=>[],inv:=fun i=>i<=(vd (gb tLg σ 1)).length,mu:=fun i=>(vd (gb tLg σ 1)).length-i}
 |11=>some fun σ=>{X:=Nat,sl:=fun i=>[(9,.dat .int (i:Int))],ob:=fun i=>[(8,some (.row 3 .int false .no (vQ (gd .int σ 6).toNat (gd (.slice tLn) σ 4) i)))],inv:=fun i=>i<=(gd (.slice tLn) σ 4).length,mu:=fun i=>(gd (.slice tLn) σ 4).length-i}
 |_=>none
abbrev jhY (d:LgD×Unit)(a:Nat):=(nth (wI d.1) a)
abbrev jjH (d:LgD×Unit)(x:Nat)(a:Nat):=(vQ (qt d.1 x).toNat (wI d.1) a)
abbrev jkf (d:LgD×Unit):=(↑(wI d.1).length:Int)
def M3:Prop:=∀(d:LgD×Unit),(wm (wq d.1)).length<=1000000->(wm (wq d.1)).length<=1000000/\(decide (wU d.1≠0)=true->([],wU d.1,())=(q9 d.1,wU d.1,()))/\(decide (wU d.1≠0)=false->(∃(x:Nat),((0=(x:Int)/\0=qt d.1 x/\True)/\True)/\x<=(vd d.1).length)/\∀(x:Nat),x<=(vd d.1).length->d.1.2.1.length<4611686018427387904->(decide ((x:Int)<d.1.2.1.length)=true->0<=(x:Int)/\(x:Int)<d.1.2.1.length/\wl (nth d.1.2.1 x+1)/\wl ((x:Int)+1)/\∃(b:Nat),(((x:Int)+1=(b:Int)/\max (qt d.1 x) (nth d.1.2.1 x+1)=qt d.1 b/\True)/\True)/\b<=(vd d.1).length/\(vd d.1).length-b<(vd d.1).length-x)/\(decide ((x:Int)<d.1.2.1.length)=false->0<=qt d.1 x/\qt d.1 x=qt d.1 x/\(qt d.1 x).toNat*8<=140737488355328/\(∃(a:Nat),((0=(a:Int)/\True)/\List.replicate (qt d.1 x).toNat 0=vQ (qt d.1 x).toNat (wI d.1) a/\True)/\a<=(wI d.1).length)/\∀(a:Nat),a<=(wI d.1).length->(wI d.1).length<4611686018427387904->(decide ((a:Int)<(jkf d))=true->0<=(a:Int)/\(a:Int)<(jkf d)/\(0:Int)<=(jhY d a).1/\(jhY d a).1<(↑(jjH d x a).length:Int)/\0<=(a:Int)/\(a:Int)<(jkf d)/\wl (nth (jjH d x a) (jhY d a).1.toNat+(jhY d a).q4.2.1)/\(0:Int)<=(jhY d a).1/\(jhY d a).1<(↑(jjH d x a).length:Int)/\wl ((a:Int)+1)/\∃(b:Nat),(((a:Int)+1=(b:Int)/\True)/\(jjH d x a).set (jhY d a).1.toNat (nth (jjH d x a) (jhY d a).1.toNat+(jhY d a).q4.2.1)=vQ (qt d.1 x).toNat (wI d.1) b/\True)/\b<=(wI d.1).length/\(wI d.1).length-b<(wI d.1).length-a)/\(decide ((a:Int)<(jkf d))=false->(vQ (qt d.1 x).toNat (wI d.1) a,(0:Int),())=(q9 d.1,wU d.1,()))))
def Qx:w4:=⟨[.val .int,.val .int],[.slice .int],false,fun d=>[0<=d.1/\d.1<=100000000000000000,0<=d.2.1/\d.2.1<=62],fun d=>(wD d.1 d.2.1,())⟩
def Qy:Ann:=fun r=>match r with
 |3=>some fun σ=>{X:=Nat,sl:=fun k=>[(6,.dat .int (k:Int)),(5,.own 5 .int)],ob:=fun k=>[(5,some (.row 3 .int false .yes (vR (gd .int σ 0) (gd .int σ 1) k)))],inv:=fun k=>k<=(gd .int σ 1).toNat,mu:=fun k=>(gd .int σ 1).toNat-k}
 |_=>none
def Qz:Prop:=∀(d:Int×Int×Unit),0<=d.1/\d.1<=100000000000000000->0<=d.2.1/\d.2.1<=62->(∃(x:Nat),((0=(x:Int)/\True/\True)/\vR d.1 d.2.1 x=[]/\True)/\x<=d.2.1.toNat)/\∀(x:Nat),x<=d.2.1.toNat->(decide ((x:Int)<d.2.1)=true->d.2.1≠0/\wl (d.1.tdiv d.2.1)/\d.2.1≠0/\(decide ((x:Int)<d.1.tmod d.2.1)=true->wl (d.1.tdiv d.2.1+1)/\((vR d.1 d.2.1 x).length+[d.1.tdiv d.2.1+1].length)*8<=140737488355328/\wl ((x:Int)+1)/\∃(a:Nat),(((x:Int)+1=(a:Int)/\True/\True)/\vR d.1 d.2.1 x++[d.1.tdiv d.2.1+1]=vR d.1 d.2.1 a/\True)/\a<=d.2.1.toNat/\d.2.1.toNat-a<d.2.1.toNat-x)/\(decide ((x:Int)<d.1.tmod d.2.1)=false->((vR d.1 d.2.1 x).length+[d.1.tdiv d.2.1].length)*8<=140737488355328/\wl ((x:Int)+1)/\∃(a:Nat),(((x:Int)+1=(a:Int)/\True/\True)/\vR d.1 d.2.1 x++[d.1.tdiv d.2.1]=vR d.1 d.2.1 a/\True)/\a<=d.2.1.toNat/\d.2.1.toNat-a<d.2.1.toNat-x))/\(decide ((x:Int)<d.2.1)=false->(vR d.1 d.2.1 x,())=(wD d.1 d.2.1,()))
def YP:w4:=⟨[.val tLg,.val .int],[.slice .int],false,fun d=>[wU d.1=0,0<=d.2.1/\d.2.1<((wm (wq d.1)).length:Int)],fun d=>(gY d.1 d.2.1,())⟩
def YQ:Ann:=fun r=>match r with
 |9=>some fun σ=>{X:=Nat,sl:=fun k=>[(12,.dat .int (k:Int)),(11,.dat .int (qp (gd (.slice .int) σ 9) (gd (.slice .int) σ 10) (gd .int σ 6) (wB (gb tLg σ 2)) k).2)],ob:=fun k=>[(5,some (.row 3 .int false .no (qp (gd (.slice .int) σ 9) (gd (.slice .int) σ 10) (gd .int σ 6) (wB (gb tLg σ 2)) k).1))],inv:=fun k=>k<=wB (gb tLg σ 2),mu:=fun k=>wB (gb tLg σ 2)-k}
 |_=>none
abbrev jhl (d:LgD×Int×Unit):=(wK d.1 d.2.1)
abbrev ji1 (d:LgD×Int×Unit):=(wO d.1 d.2.1 (jhl d))
abbrev jjI (d:LgD×Int×Unit):=(wD (ji1 d).2.2.2.1 (BT.size (jhl d)))
abbrev jjJ (d:LgD×Int×Unit):=(wD (ji1 d).2.2.1 (BT.size (jhl d)))
abbrev jg4 (d:LgD×Int×Unit)(x:Nat):=(qp (jjJ d) (jjI d) (jhl d) (wB d.1) x)
abbrev jkg (d:LgD×Int×Unit)(a:Nat):=(qp (jjJ d) (jjI d) (jhl d) (wB d.1) a)
abbrev ji2 (d:LgD×Int×Unit):=(d.1.1.1.2.1.length:Int)
def YR:Prop:=∀(d:LgD×Int×Unit),wU d.1=0->0<=d.2.1/\d.2.1<(↑(wm (wq d.1)).length:Int)->d.1.1.1.2.1.length<4611686018427387904->0<=(ji2 d)/\(ji2 d)=(ji2 d)/\(ji2 d).toNat*8<=140737488355328/\aA (wq d.1)=0/\(0<=d.2.1/\d.2.1<(↑(wm (wq d.1)).length:Int))/\((!Q1 d.1 d.2.1)=true->(List.replicate (ji2 d).toNat (0:Int),())=(gY d.1 d.2.1,()))/\((!Q1 d.1 d.2.1)=false->Ke d.1 d.2.1/\BT.qm (jhl d)/\BT.size (jhl d)<=8/\BT.qm (jhl d)/\(0<=(ji1 d).2.2.1/\(ji1 d).2.2.1<=100000000000000000)/\(0<=BT.size (jhl d)/\BT.size (jhl d)<=62)/\BT.qm (jhl d)/\(0<=(ji1 d).2.2.2.1/\(ji1 d).2.2.2.1<=100000000000000000)/\(0<=BT.size (jhl d)/\BT.size (jhl d)<=62)/\(∃(x:Nat),((0=(x:Int)/\0=(jg4 d x).2/\True)/\List.replicate (ji2 d).toNat 0=(jg4 d x).1/\True)/\x<=wB d.1)/\∀(x:Nat),x<=wB d.1->(jg4 d x).1.length<4611686018427387904->(decide ((x:Int)<(jg4 d x).1.length)=true->(0<=(x:Int)/\(x:Int)<=63)/\(w7 (jhl d) (x:Int)=true->0<=(jg4 d x).2/\(jg4 d x).2<(↑(jjJ d).length:Int)/\0<=(jg4 d x).2/\(jg4 d x).2<(↑(jjI d).length:Int)/\wl (nth (jjJ d) (jg4 d x).2.toNat+nth (jjI d) (jg4 d x).2.toNat)/\0<=(x:Int)/\(x:Int)<(jg4 d x).1.length/\wl ((jg4 d x).2+1)/\wl ((x:Int)+1)/\∃(a:Nat),(((x:Int)+1=(a:Int)/\(jg4 d x).2+1=(jkg d a).2/\True)/\(jg4 d x).1.set x (nth (jjJ d) (jg4 d x).2.toNat+nth (jjI d) (jg4 d x).2.toNat)=(jkg d a).1/\True)/\a<=wB d.1/\wB d.1-a<wB d.1-x)/\(w7 (jhl d) (x:Int)=false->wl ((x:Int)+1)/\∃(a:Nat),(((jg4 d x).2=(jkg d a).2/\(x:Int)+1=(a:Int)/\True)/\(jg4 d x).1=(jkg d a).1/\True)/\a<=wB d.1/\wB d.1-a<wB d.1-x))/\(decide ((x:Int)<(jg4 d x).1.length)=false->((jg4 d x).1,())=(gY d.1 d.2.1,())))
def YT:w4:=⟨[.val tLg,.val .int],[.slice .int,.int],false,fun d=>[(wm (wq d.1)).length<=1000000],fun d=>(iv d.1 d.2.1,qk d.1 (qU d.1 d.2.1),())⟩
abbrev jk1 (d:LgD×Int×Unit):=(iv d.1 d.2.1,qk d.1 (qU d.1 d.2.1),())
def YU:Prop:=∀(d:LgD×Int×Unit),(wm (wq d.1)).length<=1000000->(wm (wq d.1)).length<=1000000/\(decide (wU d.1≠0)=true->([],wU d.1,())=(jk1 d))/\(decide (wU d.1≠0)=false->((!qU d.1 d.2.1)=true->([],(1:Int),())=(jk1 d))/\((!qU d.1 d.2.1)=false->wU d.1=0/\(0<=d.2.1/\d.2.1<(↑(wm (wq d.1)).length:Int))/\(gY d.1 d.2.1,(0:Int),())=(jk1 d)))
def Gs:w4:=⟨[.val tLg],[.slice .int,.slice .int,.int,.int],false,fun d=>[(wm (wq d.1)).length<=1000000],fun d=>(pA d.1,pB d.1,pC d.1,wU d.1,())⟩
def Gt:Ann:=fun r=>match r with
 |6=>some fun σ=>{X:=Nat,sl:=fun k=>[(7,.dat .int (k:Int))],ob:=fun k=>[(2,some (.row 3 .int false .no (wH (vi (gb tLg σ 1)) (wB (gb tLg σ 1)) k)))],inv:=fun k=>k<=(wm (wq (gb tLg σ 1))).length,mu:=fun k=>(wm (wq (gb tLg σ 1))).length-k}
 |10=>some fun σ=>{X:=Nat,sl:=fun k=>[(9,.dat .int (k:Int))],ob:=fun k=>[(2,some (.row 3 .int false .no (qx (gr .int σ 2) (gd (.slice .int) σ 8) k)))],inv:=fun k=>k<=(gr .int σ 2).length,mu:=fun k=>(gr .int σ 2).length-k}
 |14=>some fun σ=>{X:=Nat,sl:=fun k=>[(10,.dat .int (k:Int)),(3,.own 3 .int)],ob:=fun k=>[(3,some (.row 3 .int false .yes (eU ((gd (.slice .int) σ 6).take k))))],inv:=fun k=>k<=(gd (.slice .int) σ 6).length,mu:=fun k=>(gd (.slice .int) σ 6).length-k}
 |19=>some fun σ=>{X:=Nat,sl:=fun k=>[(13,.dat .int (k:Int)),(4,.dat .int (ao (gd (.slice tLn) σ 11) k))],ob:=fun _=>[],inv:=fun k=>k<=(gd (.slice tLn) σ 11).length,mu:=fun k=>(gd (.slice tLn) σ 11).length-k}
 |_=>none
abbrev jhZ (d:LgD×Unit)(x:Nat):=(wH (vi d.1) (wB d.1) x)
abbrev jil (d:LgD×Unit)(x:Nat)(a:Nat):=(qx (jhZ d x) (gY d.1 (x:Int)) a)
abbrev jh0 (d:LgD×Unit):=(wm (wq d.1))
abbrev jjK (d:LgD×Unit):=(d.1.1.1.2.1.length:Int)
def Gu:Prop:=∀(d:LgD×Unit),(jh0 d).length<=1000000->(jh0 d).length<=1000000/\(decide (wU d.1≠0)=true->([],[],(0:Int),wU d.1,())=(pA d.1,pB d.1,pC d.1,wU d.1,()))/\(decide (wU d.1≠0)=false->d.1.1.1.2.1.length<4611686018427387904->0<=(jjK d)/\(jjK d)=(jjK d)/\(jjK d).toNat*8<=140737488355328/\(∃(x:Nat),((0=(x:Int)/\True)/\List.replicate (jjK d).toNat 0=wH (vi d.1) (wB d.1) x/\True)/\x<=(jh0 d).length)/\∀(x:Nat),x<=(jh0 d).length->d.1.1.2.2.1.length<4611686018427387904->(decide ((x:Int)<d.1.1.2.2.1.length)=true->wU d.1=0/\(0<=(x:Int)/\(x:Int)<(jh0 d).length)/\(∃(a:Nat),((0=(a:Int)/\True)/\wH (vi d.1) (wB d.1) x=qx (jhZ d x) (gY d.1 (x:Int)) a/\True)/\a<=(jhZ d x).length)/\∀(a:Nat),a<=(jhZ d x).length->(jil d x a).length<4611686018427387904->(decide ((a:Int)<(jil d x a).length)=true->0<=(a:Int)/\(a:Int)<(jil d x a).length/\0<=(a:Int)/\(a:Int)<(gY d.1 (x:Int)).length/\wl (nth (jil d x a) a+nth (gY d.1 (x:Int)) a)/\0<=(a:Int)/\(a:Int)<(jil d x a).length/\wl ((a:Int)+1)/\∃(c:Nat),(((a:Int)+1=(c:Int)/\True)/\(jil d x a).set a (nth (jil d x a) a+nth (gY d.1 (x:Int)) a)=qx (jhZ d x) (gY d.1 (x:Int)) c/\True)/\c<=(jhZ d x).length/\(jhZ d x).length-c<(jhZ d x).length-a)/\(decide ((a:Int)<(jil d x a).length)=false->wl ((x:Int)+1)/\∃(c:Nat),(((x:Int)+1=(c:Int)/\True)/\qx (jhZ d x) (gY d.1 (x:Int)) a=wH (vi d.1) (wB d.1) c/\True)/\c<=(jh0 d).length/\(jh0 d).length-c<(jh0 d).length-x))/\(decide ((x:Int)<d.1.1.2.2.1.length)=false->(∃(x:Nat),((0=(x:Int)/\True/\True)/\eU (List.take x (q9 d.1))=[]/\True)/\x<=(q9 d.1).length)/\∀(a:Nat),a<=(q9 d.1).length->(q9 d.1).length<4611686018427387904->(decide ((a:Int)<(q9 d.1).length)=true->0<=(a:Int)/\(a:Int)<(q9 d.1).length/\wl (-nth (q9 d.1) a)/\((eU (List.take a (q9 d.1))).length+[-nth (q9 d.1) a].length)*8<=140737488355328/\wl ((a:Int)+1)/\∃(c:Nat),(((a:Int)+1=(c:Int)/\True/\True)/\eU (List.take a (q9 d.1))++[-nth (q9 d.1) a]=eU (List.take c (q9 d.1))/\True)/\c<=(q9 d.1).length/\(q9 d.1).length-c<(q9 d.1).length-a)/\(decide ((a:Int)<(q9 d.1).length)=false->(jh0 d).length<=1000000/\(∃(x:Nat),((0=(x:Int)/\0=ao (wI d.1) x/\True)/\True)/\x<=(wI d.1).length)/\∀(b:Nat),b<=(wI d.1).length->(wI d.1).length<4611686018427387904->(decide ((b:Int)<(wI d.1).length)=true->0<=(b:Int)/\(b:Int)<(wI d.1).length/\wl (ao (wI d.1) b-(nth (wI d.1) b).q4.1)/\wl ((b:Int)+1)/\∃(c:Nat),(((b:Int)+1=(c:Int)/\ao (wI d.1) b-(nth (wI d.1) b).q4.1=ao (wI d.1) c/\True)/\True)/\c<=(wI d.1).length/\(wI d.1).length-c<(wI d.1).length-b)/\(decide ((b:Int)<(wI d.1).length)=false->(wH (vi d.1) (wB d.1) x,eU (List.take a (q9 d.1)),ao (wI d.1) b,(0:Int),())=(pA d.1,pB d.1,pC d.1,wU d.1,())))))
def U4:w4:=⟨[.val tLg],[tLg],false,fun d=>[Kf d.1],fun d=>(d.1,())⟩
def U5:Prop:=∀(d:LgD×Unit),Kf d.1->Fb d.1.1/\(0+d.1.2.1.length)*8<=140737488355328/\(0+d.1.2.2.1.length)*8<=140737488355328/\(0+d.1.2.2.2.1.q4.q4.1.length)*8<=140737488355328/\(0+d.1.2.2.2.1.q4.q4.2.1.length)*16<=140737488355328/\(0+d.1.q4.1.length)*24<=140737488355328/\((d.1.1,[]++d.1.2.1,[]++d.1.2.2.1,(d.1.2.2.2.1.1,d.1.2.2.2.1.2.1,d.1.2.2.2.1.2.2.1,d.1.2.2.2.1.2.2.2.1,d.1.2.2.2.1.q4.1,d.1.2.2.2.1.q4.2.1,d.1.2.2.2.1.q4.2.2.1,d.1.2.2.2.1.q4.2.2.2.1,[]++d.1.2.2.2.1.q4.q4.1,[]++d.1.2.2.2.1.q4.q4.2.1,()),[]++d.1.q4.1,()),())=d
theorem jb9 {l:LgD} (a:aA (wq l)=0) {b:Int} (f:0<=b/\b<((wm (wq l)).length:Int)):BT.qm (wK l b)/\BT.size (wK l b)<=8:=by
 have d:Zf (wK l b):=(by unfold wK;rw[Sa a];exact X4 a (by omega));have d:0<=wK l b/\wK l b<256:=d;have e:(wj (ww (wq l))).length<=8:=by
  have c:=(HC a).1;unfold wy at c;rw[ji] at c;exact(ja c.1).2.2.1
 have h:=uz a (b:=b.toNat) (by omega);have g:=(nJ (nth (sr (wq l)) b.toNat) (wj (ww (wq l))).length).1;refine⟨⟨d.1,by omega⟩,?_⟩;show BT.size (nth (sr (wq l)) b.toNat)<=8;omega
theorem jca {l:LgD} (h:wU l=0):aA (wq l)=0:=(de (wq l)).symm.trans (aS h).cp
theorem QA (l:LgD) (p:Int) (k:Nat):yx l p (k+1)=yx l p k++(if jeu l p k=true then[wO l (k:Int) (wK l (k:Int))] else[]):=by
 unfold yx;rw[j8,kj,zn];congr 1;by_cases h:jeu l p k=true;rw[je h];simp only[List.filter,h,List.map];rw[jd h];rw[zT] at h;simp only[List.filter,h,List.map]
theorem HQ (l:LgD) (p:Int) (k:Nat):(yx l p k).length<=k:=by
 unfold yx;rw[zf];exact jF (zA _ _) (by rw[zx];exact jj _)
theorem E0 (l:LgD) (n:Nat):qX l (n+1)=qX l n++yx l (n:Int) (vd l).length:=by
 unfold qX;rw[j8,List.flatMap_append];simp
theorem HR (l:LgD):∀n,(qX l n).length<=n*(vd l).length
 |0=>jl _
 |n+1=>by
  have a:=HR l n
  have b:=HQ l (n:Int) (vd l).length
  rw[E0,jH,zl];omega
theorem U6:Qw:=by
 rintro⟨l,⟨⟩⟩ r;refine⟨r,fun h=> ?_,fun h=> ?_⟩;have h:wU l≠0:=ja h;show(([]:List LnD),wU l,())=(wI l,wU l,());unfold wI;rw[jd h];have h:wU l=0:=jM.1 (jc h);have e:=aS h;have m:=jca h;have g:(vd l).length<=4:=(by rw[e.py.1];exact ja4 e);refine⟨⟨0,⟨⟨rfl,tZ,tZ⟩,rfl,tZ⟩,jl _⟩,fun x p=>⟨fun d=> ?_,fun d=> ?_⟩⟩;have d:(x:Int)<=20:=ja d;refine⟨⟨0,⟨⟨rfl,tZ,tZ⟩,(j6 _).symm,tZ⟩,jl _⟩,fun y q n=>⟨fun c=> ?_,fun c=> ?_⟩⟩;have c:(y:Int)<(vd l).length:=ja c;have a:0<=(y:Int)/\(y:Int)<(wm (wq l)).length:=(by have:=e.py.1;omega);have f:=QA l (x:Int) y;have up:y+1<=(vd l).length:=(by omega);have k:(vd l).length-(y+1)<(vd l).length-y:=(by omega);have o:=jb9 m a;refine⟨m,a,fun _=>a.1,fun _=>c,fun b=> ?_,fun b=> ?_⟩;have b:jeu l (x:Int) y=true:=b;rw[je b] at f;refine⟨jb6 e a,o.1,o.2,?_,iZ6,y+1,⟨⟨by simp,tZ,tZ⟩,?_,tZ⟩,up,k⟩;have s:=HR l x;have t:=HQ l (x:Int) y;have u:x*(vd l).length<=21*4:=Nat.mul_le_mul (by omega) g;show((qX l x++yx l (x:Int) y).length+1)*48<=140737488355328;rw[jH];omega;show qX l x++yx l (x:Int) y++[wO l (y:Int) (wK l (y:Int))]=qX l x++yx l (x:Int) (y+1);rw[f,jN];have b:jeu l (x:Int) y=false:=b;rw[jd (by rw[b];decide),j6] at f;refine⟨iZ6,y+1,⟨⟨tZ,by simp,tZ⟩,?_,tZ⟩,up,k⟩;show qX l x++yx l (x:Int) y=qX l x++yx l (x:Int) (y+1);rw[f];have c:¬(y:Int)<(vd l).length:=jc c;have q:y<=(vd l).length:=q;have j:y=(vd l).length:=(by omega);subst j;exact⟨iZ6,x+1,⟨⟨by simp,tZ,tZ⟩,(E0 l x).symm,tZ⟩,by show x+1<=21;omega,by show 21-(x+1)<21-x;omega⟩;have d:¬(x:Int)<=20:=jc d;have p:x<=21:=p;have i:x=21:=(by omega);subst i;show(qX l 21,(0:Int),())=(wI l,wU l,());unfold wI;rw[h,je rfl];rfl
theorem E1:w9 PR 23 Qu:=vb Qv U6 Tryz.func23 (kcC EX (kcC AC (kcC HP kcN))) koN
theorem ja9 {n:Nat} {l:List LnD} (h:∀x∈l,(0<=eQ x/\eQ x<(n:Int))/\-1000000<=Kc x/\Kc x<=20000000000000000) {k:Nat} (hk:k<l.length) (a:l.length<=100):
 (0<=eQ (nth l k)/\eQ (nth l k)<((vQ n l k).length:Int))/\wl (nth (vQ n l k) (eQ (nth l k)).toNat+Kc (nth l k)):=by
 obtain⟨⟨d,e⟩,g,i⟩:=h _ (L.wh hk);obtain⟨b,c⟩:=uy h k (by omega);have f:=c (eQ (nth l k)).toNat (by omega);exact⟨⟨d,by rw[b];exact e⟩,iZ6⟩
theorem jba {l:LgD} (h:sq l):∀x∈x9 l,(0<=eQ x/\eQ x<(((lU l).toNat:Nat):Int))/\-1000000<=Kc x/\Kc x<=20000000000000000:=fun x a=>by
 have o:=jgv h a
 have:=o.pr;have:=o.wk;have:=o.tr;have:=o.sb;have:=o.tt
 omega
theorem jbb {l:LgD} (h:sq l):∀k,k<=(vd l).length->0<=qt l k/\qt l k<=21:=fun k hk=>by
 obtain⟨b,_,a⟩:=lz (l:=l) k hk
 refine⟨b,?_⟩
 rcases a with a|⟨i,hi,a⟩
 omega
 have:=h.py.2 _ (L.wh (show i<(vd l).length by omega));omega
theorem QB:M3:=by
 unfold M3 jkf jjH jhY Prod.q4;rintro⟨l,⟨⟩⟩ t;refine⟨t,fun h=> ?_,fun h=> ?_⟩;have h:wU l≠0:=ja h;show(([]:List Int),wU l,())=(q9 l,wU l,());unfold q9;rw[jd h];have h:wU l=0:=jM.1 (jc h);have d:=aS h;have eL:wI l=x9 l:=je h;have s:=jbb d;refine⟨⟨0,⟨⟨rfl,rfl,tZ⟩,tZ⟩,jl _⟩,fun x q a=>⟨fun c=> ?_,fun c=> ?_⟩⟩;have c:(x:Int)<(vd l).length:=ja c;have w:=d.py.2 _ (L.wh (show x<(vd l).length by omega));have a:(vd l).length<4611686018427387904:=a;have j:=HL (l:=l) (k:=x) (by omega);exact⟨by omega,c,by show wl (nth (vd l) x+1);exact iZ6,iZ6,x+1,⟨⟨by simp,j.symm,tZ⟩,tZ⟩,by show x+1<=(vd l).length;omega,by show(vd l).length-(x+1)<(vd l).length-x;omega⟩;have c:¬(x:Int)<(vd l).length:=jc c;have q:x<=(vd l).length:=q;have o:x=(vd l).length:=(by omega);subst o;have f:0<=lU l/\lU l<=21:=s _ (jj _);have g:=JK d;have u:=ja4 d;have key:∀k,k<(wI l).length->(0<=eQ (nth (wI l) k)/\eQ (nth (wI l) k)<((vQ (lU l).toNat (wI l) k).length:Int))/\wl (nth (vQ (lU l).toNat (wI l) k) (eQ (nth (wI l) k)).toNat+Kc (nth (wI l) k)):=by
  rw[eL];exact fun k hk=>ja9 (jba d) hk (by omega)
 have i:(wI l).length<=4:=(by rw[eL];omega);refine⟨f.1,rfl,by show(lU l).toNat*8<=_;omega,⟨0,⟨⟨rfl,tZ⟩,rfl,tZ⟩,jl _⟩,fun y r _=>⟨fun b=> ?_,fun b=> ?_⟩⟩;have b:(y:Int)<(wI l).length:=ja b;obtain⟨e,v⟩:=key y (by omega);have m:=xU (n:=(lU l).toNat) (l:=wI l) (k:=y) (by omega);exact⟨by omega,b,e.1,e.2,by omega,b,v,e.1,e.2,iZ6,y+1,⟨⟨by simp,tZ⟩,m.symm,tZ⟩,by show y+1<=(wI l).length;omega,by show(wI l).length-(y+1)<(wI l).length-y;omega⟩;have b:¬(y:Int)<(wI l).length:=jc b;have r:y<=(wI l).length:=r;have p:y=(wI l).length:=(by omega);subst p;show(vQ (lU l).toNat (wI l) (wI l).length,(0:Int),())=(q9 l,wU l,());unfold q9;rw[h,je rfl,eL];rfl
theorem M4:w9 PR 25 M1:=vb M2 QB Tryz.func25 (kcC E1 kcN) koN
theorem QC (a m:Int) (k:Nat):vR a m (k+1)=vR a m k++[dz a m k]:=by
 unfold vR;rw[j8,zn];rfl
theorem xX (a m:Int) (k:Nat):(vR a m k).length=k:=by
 unfold vR;rw[zf,zx]
theorem U7:Qz:=by
 rintro⟨a,m,⟨⟩⟩ f j;have f:0<=a/\a<=100000000000000000:=f;have j:0<=m/\m<=62:=j;refine⟨⟨0,⟨⟨rfl,tZ,tZ⟩,rfl,tZ⟩,jl _⟩,fun x k=>⟨fun h=> ?_,fun h=> ?_⟩⟩;have h:(x:Int)<m:=ja h;have q:=UF (b:=m) f (by omega);have d:=QC a m x;have n:=xX a m x;have up:x+1<=m.toNat:=(by omega);have i:m.toNat-(x+1)<m.toNat-x:=(by omega);have sz:∀v:Int,((vR a m x).length+[v].length)*8<=140737488355328:=fun v=>by
  rw[n];show(x+1)*8<=_;omega
 have l:m≠0:=(by omega);have o:wl (a.tdiv m):=iZ6;have p:wl (a.tdiv m+1):=iZ6;refine⟨l,o,l,fun c=> ?_,fun c=> ?_⟩;have c:(x:Int)<a.tmod m:=ja c;have e:dz a m x=a.tdiv m+1:=(by unfold dz;rw[je c]);rw[e] at d;exact⟨p,sz _,iZ6,x+1,⟨⟨by simp,tZ,tZ⟩,d.symm,tZ⟩,up,i⟩;have c:¬(x:Int)<a.tmod m:=jc c;have e:dz a m x=a.tdiv m:=(by unfold dz;rw[jd c,Int.add_zero]);rw[e] at d;exact⟨sz _,iZ6,x+1,⟨⟨by simp,tZ,tZ⟩,d.symm,tZ⟩,up,i⟩;have h:¬(x:Int)<m:=jc h;have k:x<=m.toNat:=k;have g:x=m.toNat:=(by omega);subst g;rfl
theorem QD:w9 PR 101 Qx:=vb Qy U7 Tryz.func101 kcN koN
def pw7 (l:LgD) (b:Int):List Int:=wD (x7 l b (wK l b)) (BT.size (wK l b))
def YV (l:LgD) (b:Int):List Int:=wD (x8 l b (wK l b)) (BT.size (wK l b))
def pk7 (l:LgD) (b:Int) (k:Nat):List Int×Int:=qp (pw7 l b) (YV l b) (wK l b) (wB l) k
theorem Sr {a m A:Int} {i:Nat} (c:0<=a/\a<=A) (d:0<m):0<=dz a m i/\dz a m i<=A+1:=by
 have:=UF (b:=m) c d;unfold dz
 split<;>omega
theorem jbc {l:LgD} (h:sq l) {b:Int} (a:0<=b/\b<((wm (wq l)).length:Int)):(0<=x7 l b (wK l b)/\x7 l b (wK l b)<=10000000000000000)/\0<=x8 l b (wK l b)/\x8 l b (wK l b)<=1000000000:=by
 have c:=EO h a;have w:=Ey h a;have d:qR (wX l b)=x7 l b (wK l b):=jD jfx c;have e2:vn (wX l b)=x8 l b (wK l b):=jD jfy c;rw[<-d,<-e2];exact⟨uj w,uk w⟩
theorem jbd:YR:=by
 unfold YR ji2 jkg jg4 jjJ jjI ji1 jhl;rintro⟨l,b,⟨⟩⟩ h k Q;have h:wU l=0:=h;have k:0<=b/\b<((wm (wq l)).length:Int):=k;have r:=aS h;have q:=jca h;have P:wB l<=8:=jeo r;obtain⟨s,J⟩:=jb9 q k;have R:=BT.uM (wK l b);obtain⟨K,L⟩:=jbc r k;refine⟨jU _,rfl,?_,q,k,fun d=> ?_,fun d=> ?_⟩;show(((wB l:Nat):Int)).toNat*8<=_;omega;have d:Q1 l b=false:=(by simpa using(show(!Q1 l b)=true from d));show(List.replicate (wB l) (0:Int),())=(gY l b,());unfold gY;rw[jd (by rw[d];decide)];have d:Q1 l b=true:=(by simpa using(show(!Q1 l b)=false from d));have C:0<=x7 l b (wK l b)/\x7 l b (wK l b)<=100000000000000000:=(by omega);have B:0<=x8 l b (wK l b)/\x8 l b (wK l b)<=100000000000000000:=(by omega);have c:0<=BT.size (wK l b)/\BT.size (wK l b)<=62:=(by omega);refine⟨jb6 r k,s,J,s,C,c,s,B,c,⟨0,⟨⟨rfl,rfl,tZ⟩,rfl,tZ⟩,jl _⟩,fun x n _=>⟨fun j=> ?_,fun j=> ?_⟩⟩;have n:x<=wB l:=n;obtain⟨o,g,w⟩:=ig (pw7 l b) (YV l b) (wK l b) (wB l) x n;have o:(pk7 l b x).1.length=wB l:=o;have g:(pk7 l b x).2=(rnk (wK l b) x:Int):=g;have j:(x:Int)<(pk7 l b x).1.length:=ja j;have f:x<wB l:=(by omega);have p:=EP (pw7 l b) (YV l b) (wK l b) (wB l) x;have p:pk7 l b (x+1)=Nv (pw7 l b) (YV l b) (wK l b) (pk7 l b x) x:=p;have up:x+1<=wB l:=(by omega);have t:wB l-(x+1)<wB l-x:=(by omega);refine⟨by omega,fun a=> ?_,fun a=> ?_⟩;have a:w7 (wK l b) (x:Int)=true:=a;have A:(((qH (wK l b) (wB l)).length:Nat):Int)=BT.size (wK l b):=uz q (by omega);have u:(rnk (wK l b) x:Int)<BT.size (wK l b):=by
  have O:rnk (wK l b) x<(qH (wK l b) (wB l)).length:=(Sm a (wB l) f).1;omega
 have F:((pw7 l b).length:Int)=BT.size (wK l b):=(by unfold pw7 wD;rw[xX];omega);have G:((YV l b).length:Int)=BT.size (wK l b):=(by unfold YV wD;rw[xX];omega);have v:0<=(pk7 l b x).2:=(by rw[g];omega);have H:(pk7 l b x).2<((pw7 l b).length:Int):=(by rw[g,F];exact u);have I:(pk7 l b x).2<((YV l b).length:Int):=(by rw[g,G];exact u);have y:nth (pw7 l b) (pk7 l b x).2.toNat=dz (x7 l b (wK l b)) (BT.size (wK l b)) (pk7 l b x).2.toNat:=ii (by omega);have z:nth (YV l b) (pk7 l b x).2.toNat=dz (x8 l b (wK l b)) (BT.size (wK l b)) (pk7 l b x).2.toNat:=ii (by omega);have M:=Sr (m:=BT.size (wK l b)) (i:=(pk7 l b x).2.toNat) K (by omega);have N:=Sr (m:=BT.size (wK l b)) (i:=(pk7 l b x).2.toNat) L (by omega);have D:wl (nth (pw7 l b) (pk7 l b x).2.toNat+nth (YV l b) (pk7 l b x).2.toNat):=by
  rw[y,z];exact iZ6
 have E:wl ((pk7 l b x).2+1):=iZ6;have e:pk7 l b (x+1)=((pk7 l b x).1.set x (nth (pw7 l b) (pk7 l b x).2.toNat+nth (YV l b) (pk7 l b x).2.toNat),(pk7 l b x).2+1):=(by rw[p];exact je a);exact⟨v,H,v,I,D,by omega,j,E,iZ6,x+1,⟨⟨by simp,(jD (·.2) e).symm,tZ⟩,(jD (·.1) e).symm,tZ⟩,up,t⟩;have a:w7 (wK l b) (x:Int)=false:=a;have e:pk7 l b (x+1)=pk7 l b x:=(by rw[p];exact jd (by rw[a];decide));exact⟨iZ6,x+1,⟨⟨(jD (·.2) e).symm,by simp,tZ⟩,(jD (·.1) e).symm,tZ⟩,up,t⟩;have n:x<=wB l:=n;obtain⟨o,g,w⟩:=ig (pw7 l b) (YV l b) (wK l b) (wB l) x n;have o:(pk7 l b x).1.length=wB l:=o;have j:¬(x:Int)<(pk7 l b x).1.length:=jc j;have f:x=wB l:=(by omega);subst f;show((pk7 l b (wB l)).1,())=(gY l b,());unfold gY;rw[je d];rfl
theorem M5:w9 PR 62 YP:=vb YQ jbd Tryz.func62 (kcC AC (kcC HP (kcC HO (kcC QD (kcC nC kcN))))) koN
theorem jbe:YU:=by
 unfold YU jk1;rintro⟨l,n,⟨⟩⟩ c;refine⟨c,fun h=> ?_,fun h=> ?_⟩;have h:wU l≠0:=ja h;have e:∀t,qk l t=wU l:=fun t=>je h
 show(([]:List Int),wU l,())=(iv l n,qk l (qU l n),());unfold iv;rw[e,jd h];have h:wU l=0:=jM.1 (jc h);refine⟨fun a=> ?_,fun a=> ?_⟩;have a:qU l n=false:=(by simpa using(show(!qU l n)=true from a));have e:qk l (qU l n)=1:=(by unfold qk;rw[jd (fun b=>b h),a];rfl);show(([]:List Int),(1:Int),())=(iv l n,qk l (qU l n),());unfold iv;rw[e];rfl;have a:qU l n=true:=(by simpa using(show(!qU l n)=false from a));have e:qk l (qU l n)=0:=(by unfold qk;rw[jd (fun b=>b h),je a]);refine⟨h,Sn.1 a,?_⟩;show(gY l n,(0:Int),())=(iv l n,qk l (qU l n),());unfold iv;rw[e];rfl
theorem YW:w9 PR 28 YT:=wT jbe Tryz.func28 (kcC EX (kcC EY (kcC M5 kcN))) koN
theorem YX:U5:=by
 unfold U5 Prod.q4;rintro⟨l,⟨⟩⟩ h;obtain⟨a,b,c,d,e,f⟩:Kf l:=h;refine⟨a,?_,?_,?_,?_,?_,rfl⟩;show(0+(vd l).length)*8<=_;omega;show(0+(oD l).length)*8<=_;omega;show(0+(bn (vB l)).length)*8<=_;omega;show(0+(aB (vB l)).length)*16<=_;omega;show(0+(qj l).length)*24<=_;omega
theorem U8:w9 PR 10 U4:=wT YX Tryz.func10 (kcC UC kcN) koN
theorem M6 {l:List Int} {k:Nat} (h:k<l.length):eU (l.take (k+1))=eU (l.take k)++[-nth l k]:=by
 unfold eU;rw[L.wQ h,zn];rfl
theorem Ss (l:List Int) (k:Nat):(eU (l.take k)).length<=k:=by
 unfold eU;rw[zf,jZ];omega
theorem Su {f:Nat->List Int} {n k:Nat} (hk:k<4) (a:∀b,b<=k->∀j,j<n->-1000000000000000000<=nth (f b) j/\nth (f b) j<=1700000000000000000) {j:Nat} (c:j<n):
 wl (nth (qx (wH f n k) (f k) j) j+nth (f k) j):=by
 have d:=jb7 (A:= -1000000000000000000) (B:=1700000000000000000) k (fun b h=>a b (by omega)) j c;have g:=a k (jj _) j c;have e:nth (qx (wH f n k) (f k) j) j=nth (wH f n k) j:=by
  rw[xV j (by rw[ij];omega),jd (by omega)]
 rw[e];exact iZ6
theorem JS {l:LgD} (h:sq l):∀x∈x9 l,0<=SB x/\SB x<=1000000:=fun x a=>by
 have:=(jgv h a).sb
 have:=h.ta.cp
 omega
theorem JT:Gu:=by
 unfold Gu jjK jh0 jil jhZ Prod.q4;rintro⟨l,⟨⟩⟩ p;refine⟨p,fun h=> ?_,fun h=> ?_⟩;have h:wU l≠0:=ja h;show(([]:List Int),([]:List Int),(0:Int),wU l,())=(pA l,pB l,pC l,wU l,());unfold pA pB pC;rw[jd h,jd h,jd h];have h:wU l=0:=jM.1 (jc h);have d:=aS h;have K:=ja4 d;have X:wB l<=8:=jeo d;have eL:wI l=x9 l:=je h;have I:q9 l=yC (U.bo l):=(je h).trans (YG d).symm;obtain⟨T,E⟩:=YI (jdM d);rw[<-I] at T E;have N:(wI l).length<=4:=(by rw[eL];have:=JK d;omega);have q:=YJ (JS d);rw[<-eL] at q;have w:∀x∈wI l,0<=SB x/\SB x<=1000000:=(by rw[eL];exact JS d);have g:∀b,b<(wm (wq l)).length->(vi l b).length=wB l:=fun b p=>(UT d (b:=(b:Int)) (by omega)).1
 have s:∀b,b<(wm (wq l)).length->∀j,j<wB l->-1000000000000000000<=nth (vi l b) j/\nth (vi l b) j<=1700000000000000000:=fun b p j t=>by
  have:=jb8 (jaX d) (n:=(b:Int)) j t;rw[YH d (by omega)] at this;exact this
 refine fun Q=>⟨jU _,rfl,by show(((wB l:Nat):Int)).toNat*8<=_;omega,⟨0,⟨⟨rfl,tZ⟩,rfl,tZ⟩,jl _⟩,fun x C _=>⟨fun m=> ?_,fun m=> ?_⟩⟩
 have m:(x:Int)<(wm (wq l)).length:=ja m;have i:x<(wm (wq l)).length:=(by omega);have A:(wH (vi l) (wB l) x).length=wB l:=ij _ _ _;have v:=bE (vi l) (wB l) x;refine⟨h,⟨by omega,m⟩,⟨0,⟨⟨rfl,tZ⟩,rfl,tZ⟩,jl _⟩,fun y r _=>⟨fun c=> ?_,fun c=> ?_⟩⟩;have M:(qx (wH (vi l) (wB l) x) (gY l (x:Int)) y).length=wB l:=(by rw[cL,A]);have c:(y:Int)<(qx (wH (vi l) (wB l) x) (gY l (x:Int)) y).length:=ja c;have a:y<wB l:=(by omega);have P:=g x i;have u:(y:Int)<(gY l (x:Int)).length:=by
  have:(gY l (x:Int)).length=wB l:=P;omega
 have S:=Su (f:=vi l) (k:=x) (n:=wB l) (by omega) (fun b p j t=>s b (by omega) j t) a;have R:=lA (wH (vi l) (wB l) x) (gY l (x:Int)) y;exact⟨by omega,c,by omega,u,S,by omega,c,iZ6,y+1,⟨⟨by simp,tZ⟩,R.symm,tZ⟩,by show y+1<=(wH (vi l) (wB l) x).length;omega,by show(wH (vi l) (wB l) x).length-(y+1)<(wH (vi l) (wB l) x).length-y;omega⟩;have M:(qx (wH (vi l) (wB l) x) (gY l (x:Int)) y).length=wB l:=(by rw[cL,A]);have c:¬(y:Int)<(qx (wH (vi l) (wB l) x) (gY l (x:Int)) y).length:=jc c;have r:y<=(wH (vi l) (wB l) x).length:=r;have a:y=wB l:=(by omega);subst a;exact⟨iZ6,x+1,⟨⟨by simp,tZ⟩,v.symm,tZ⟩,by show x+1<=(wm (wq l)).length;omega,by show(wm (wq l)).length-(x+1)<(wm (wq l)).length-x;omega⟩;have m:¬(x:Int)<(wm (wq l)).length:=jc m;have C:x<=(wm (wq l)).length:=C;have i:x=(wm (wq l)).length:=(by omega);subst i;refine⟨⟨0,⟨⟨rfl,tZ,tZ⟩,rfl,tZ⟩,jl _⟩,fun y r _=>⟨fun c=> ?_,fun c=> ?_⟩⟩;have c:(y:Int)<(q9 l).length:=ja c;have a:y<(q9 l).length:=(by omega);have Y:=E _ (L.wh a);have O:=M6 a;have B:=Ss (q9 l) y;refine⟨by omega,c,?_,?_,iZ6,y+1,⟨⟨by simp,tZ,tZ⟩,O.symm,tZ⟩,by show y+1<=(q9 l).length;omega,by show(q9 l).length-(y+1)<(q9 l).length-y;omega⟩;show wl (-nth (q9 l) y);exact iZ6;show((eU ((q9 l).take y)).length+1)*8<=_;omega;have c:¬(y:Int)<(q9 l).length:=jc c;have r:y<=(q9 l).length:=r;have a:y=(q9 l).length:=(by omega);subst a;refine⟨p,⟨0,⟨⟨rfl,rfl,tZ⟩,tZ⟩,jl _⟩,fun z D _=>⟨fun o=> ?_,fun o=> ?_⟩⟩;have o:(z:Int)<(wI l).length:=ja o;have e:z<(wI l).length:=(by omega);have V:=q z (by omega);have W:=w _ (L.wh e);have J:=xW e;refine⟨by omega,o,?_,iZ6,z+1,⟨⟨by simp,J.symm,tZ⟩,tZ⟩,by show z+1<=(wI l).length;omega,by show(wI l).length-(z+1)<(wI l).length-z;omega⟩;show wl (ao (wI l) z-SB (nth (wI l) z));exact iZ6;have o:¬(z:Int)<(wI l).length:=jc o;have D:z<=(wI l).length:=D;have e:z=(wI l).length:=(by omega);subst e;show(wH (vi l) (wB l) (wm (wq l)).length,eU ((q9 l).take (q9 l).length),ao (wI l) (wI l).length,(0:Int),())=(pA l,pB l,pC l,wU l,());have F:pA l=wH (vi l) (wB l) (wm (wq l)).length:=je h;have e2:pB l=eU (jeg l):=je h;have G:pC l=ao (x9 l) (x9 l).length:=je h;have H:q9 l=jeg l:=je h;rw[F,e2,G,H,eL,h,zC]
theorem Gv:w9 PR 30 Gs:=vb Gt JT Tryz.func30 (kcC M4 (kcC M5 (kcC E1 kcN))) koN
def YY:w4:=⟨[.val tLg,.fn [tBo] [.bool]],[tBo,.int],false,fun d=>[(qi (wq d.1)).length<=100000,wU d.1=0->wC (d.2.1.pre ((d.1,[],()),()))],fun d=>(wv d.1 (wE d.1 d.2.1.F),qk d.1 (wE d.1 d.2.1.F),())⟩
def YZ:Ann:=fun r=>match r with
 |10=>some fun σ=>{X:=Nat,sl:=fun i=>[(46,.dat .int (i:Int))],ob:=fun i=>[(25,some (.map false .int (.ptr tBl) (BP (gb tLg σ 2) i)))],inv:=fun i=>i<=(gd (.slice .int) σ 44).length,mu:=fun i=>(gd (.slice .int) σ 44).length-i}
 |14=>some fun σ=>{X:=Nat,sl:=fun p=>[(71,.dat .int (p:Int))],ob:=fun p=>[(65,some (.box 85 false ((bx σ 65).set 21 (.own (iG 65 21) .int)))),(iG 65 21,some (.row 3 .int false .yes (qN (gb tLg σ 2) (gd .int σ 13) p)))],inv:=fun p=>p<=(wj (ww (wq (gb tLg σ 2)))).length,mu:=fun p=>(wj (ww (wq (gb tLg σ 2)))).length-p}
 |21=>some fun σ=>{X:=Nat,sl:=fun i=>[(103,.dat .int (i:Int))],ob:=fun i=>[(65,some (.box 85 false (((bx σ 65).set 24 (.dat .bool (uP (wx (gb tLg σ 2) (gd .int σ 13) i)))).set 25 (.dat .int (sw (wx (gb tLg σ 2) (gd .int σ 13) i))))))],inv:=fun i=>i<=(qj (gb tLg σ 2)).length,mu:=fun i=>(qj (gb tLg σ 2)).length-i}
 |_=>none
abbrev jhJ (d:LgD×FnD [tBo] [Ty.bool]×Unit):=d.1.2.2.2.1.q4.q4.2.1
abbrev jhK (d:LgD×FnD [tBo] [Ty.bool]×Unit):=d.1.2.2.2.1.q4.q4.1
abbrev jhL (d:LgD×FnD [tBo] [Ty.bool]×Unit):=d.1.2.2.2.1.q4.2.2.2.1
abbrev jhM (d:LgD×FnD [tBo] [Ty.bool]×Unit):=d.1.2.2.2.1.q4.2.2.1
abbrev jim (d:LgD×FnD [tBo] [Ty.bool]×Unit):=(wj (ww (wq d.1)))
abbrev jk2 (d:LgD×FnD [tBo] [Ty.bool]×Unit):=(wv d.1 (wE d.1 d.2.1.2),qk d.1 (wE d.1 d.2.1.2),())
abbrev jhN (d:LgD×FnD [tBo] [Ty.bool]×Unit):=d.1.2.2.2.1.q4.2.1
abbrev jgU (d:LgD×FnD [tBo] [Ty.bool]×Unit):=(wb d.1.1)
abbrev jgR (d:LgD×FnD [tBo] [Ty.bool]×Unit)(x:Nat):=(nth (jgU d) x)
abbrev jgO (d:LgD×FnD [tBo] [Ty.bool]×Unit)(x:Nat):=(nth d.1.1.2.2.1 (jgR d x).toNat)
abbrev jiD (d:LgD×FnD [tBo] [Ty.bool]×Unit)(x:Nat):=(nth d.1.2.2.1 (jgR d x).toNat)
abbrev jhO (d:LgD×FnD [tBo] [Ty.bool]×Unit):=d.1.2.2.2.1.q4.1
abbrev jha (d:LgD×FnD [tBo] [Ty.bool]×Unit)(x:Nat)(a:Nat):=(vS ((jgO d x).1.1,(jgO d x).1.2.1,(jgO d x).1.2.2.1,(jgO d x).1.2.2.2.1,(jgO d x).1.q4.1,(jgO d x).1.q4.2.1,(jgO d x).2.1,(jgO d x).2.2.1,(jgO d x).2.2.2.1,d.1.2.2.2.1.1,d.1.2.2.2.1.2.1,d.1.2.2.2.1.2.2.1,d.1.2.2.2.1.2.2.2.1,(jhO d),(jhN d),(jhM d),(jhL d),(jhK d),(jhJ d),nth (jgU d) x,nth d.1.2.1 (jgR d x).toNat,qN d.1 (jgR d x) a,(0:Int),(0:Int),false,(0:Int),()))
abbrev jk3 (d:LgD×FnD [tBo] [Ty.bool]×Unit)(x:Nat):=((jgO d x).1.1=(jgO d x).1.1/\(jgO d x).1.2.1=(jgO d x).1.2.1/\(jgO d x).1.2.2.1=(jgO d x).1.2.2.1/\(jgO d x).1.2.2.2.1=(jgO d x).1.2.2.2.1/\(jgO d x).1.q4.1=(jgO d x).1.q4.1/\(jgO d x).1.q4.2.1=(jgO d x).1.q4.2.1/\(jgO d x).2.1=(jgO d x).2.1/\(jgO d x).2.2.1=(jgO d x).2.2.1/\(jgO d x).2.2.2.1=(jgO d x).2.2.2.1/\d.1.2.2.2.1.1=d.1.2.2.2.1.1/\d.1.2.2.2.1.2.1=d.1.2.2.2.1.2.1/\d.1.2.2.2.1.2.2.1=d.1.2.2.2.1.2.2.1/\d.1.2.2.2.1.2.2.2.1=d.1.2.2.2.1.2.2.2.1/\(jhO d)=(jhO d)/\(jhN d)=(jhN d)/\(jhM d)=(jhM d)/\(jhL d)=(jhL d)/\(jhK d)=(jhK d)/\(jhJ d)=(jhJ d)/\nth (jgU d) x=nth (jgU d) x/\nth d.1.2.1 (jgR d x).toNat=nth d.1.2.1 (jgR d x).toNat/\True/\(0:Int)=0/\(0:Int)=0/\qF/\(0:Int)=0/\True)
abbrev jin (d:LgD×FnD [tBo] [Ty.bool]×Unit)(x:Nat)(a:Nat):=(wx d.1 (jgR d x) a)
abbrev jkh (d:LgD×FnD [tBo] [Ty.bool]×Unit)(x:Nat)(a:Nat)(b:Nat):=(vS ((jgO d x).1.1,(jgO d x).1.2.1,(jgO d x).1.2.2.1,(jgO d x).1.2.2.2.1,(jgO d x).1.q4.1,(jgO d x).1.q4.2.1,(jgO d x).2.1,(jgO d x).2.2.1,(jgO d x).2.2.2.1,d.1.2.2.2.1.1,d.1.2.2.2.1.2.1,d.1.2.2.2.1.2.2.1,d.1.2.2.2.1.2.2.2.1,(jhO d),(jhN d),(jhM d),(jhL d),(jhK d),(jhJ d),nth (jgU d) x,nth d.1.2.1 (jgR d x).toNat,qN d.1 (jgR d x) a,cv (jha d x a),dx (jiD d x) (jha d x a),uP (jin d x b),sw (jin d x b),()))
def Y0:Prop:=∀(d:LgD×FnD [tBo] [Ty.bool]×Unit),(qi (wq d.1)).length<=100000->(wU d.1=0->wC (d.2.1.1 ((d.1,[],()),())))->(qi (wq d.1)).length<=100000/\(decide (wU d.1≠0)=true->((((((0:Int),[],[],()),[],[],(0:Int),(0:Int),[],()),[],[],((0:Int),(0:Int),(0:Int),(0:Int),(0:Int),(0:Int),(0:Int),(0:Int),[],[],()),[],()),[],()),wU d.1,())=(jk2 d))/\(decide (wU d.1≠0)=false->asks (d.2.1.1 ((d.1,[],()),())) (((!(d.2.1.2 ((d.1,[],()),())).1)=true->((((((0:Int),[],[],()),[],[],(0:Int),(0:Int),[],()),[],[],((0:Int),(0:Int),(0:Int),(0:Int),(0:Int),(0:Int),(0:Int),(0:Int),[],[],()),[],()),[],()),(1:Int),())=(jk2 d))/\((!(d.2.1.2 ((d.1,[],()),())).1)=false->(qi d.1.1).length<=100000/\(qi d.1.1).length<=100000/\((jgU d).length<4611686018427387904->(∃(x:Nat),((0=(x:Int)/\True)/\[]=BP d.1 x/\True)/\x<=(jgU d).length)/\∀(x:Nat),x<=(jgU d).length->(decide ((x:Int)<(jgU d).length)=true->0<=(x:Int)/\(x:Int)<(jgU d).length/\0<=nth (jgU d) x/\nth (jgU d) x<(d.1.1.2.2.1.length:Int)/\0<=nth (jgU d) x/\nth (jgU d) x<(d.1.2.1.length:Int)/\(d.1.1.1.2.1.length<4611686018427387904->(∃(a:Nat),((0=(a:Int)/\True)/\(jk3 d x)/\qN d.1 (jgR d x) a=[]/\True)/\a<=(jim d).length)/\∀(a:Nat),a<=(jim d).length->(decide ((a:Int)<d.1.1.1.2.1.length)=true->0<=nth (jgU d) x/\nth (jgU d) x<(↑(dJ d.1.1).length:Int)/\0<=(a:Int)/\(a:Int)<=64/\(decide (iA (nth (dJ d.1.1) (jgR d x).toNat/(2:Int)^a) (1:Int)=1)=true->((qN d.1 (jgR d x) a).length+[(a:Int)].length)*8<=140737488355328/\wl ((a:Int)+1)/\∃(c:Nat),(((a:Int)+1=(c:Int)/\True)/\(jk3 d x)/\qN d.1 (jgR d x) a++[(a:Int)]=qN d.1 (jgR d x) c/\True)/\c<=(jim d).length/\(jim d).length-c<(jim d).length-a)/\(decide (iA (nth (dJ d.1.1) (jgR d x).toNat/(2:Int)^a) (1:Int)=1)=false->wl ((a:Int)+1)/\∃(c:Nat),(((a:Int)+1=(c:Int)/\True)/\qN d.1 (jgR d x) a=qN d.1 (jgR d x) c/\(jk3 d x)/\True)/\c<=(jim d).length/\(jim d).length-c<(jim d).length-a))/\(decide ((a:Int)<d.1.1.1.2.1.length)=false->0<=nth (jgU d) x/\nth (jgU d) x<(d.1.2.2.1.length:Int)/\GF (jha d x a)/\0<=nth d.1.2.2.1 (jgR d x).toNat/\nth d.1.2.2.1 (jgR d x).toNat<=300/\(d.1.q4.1.length<4611686018427387904->(∃(b:Nat),((0=(b:Int)/\True)/\((jgO d x).1.1=(jgO d x).1.1/\(jgO d x).1.2.1=(jgO d x).1.2.1/\(jgO d x).1.2.2.1=(jgO d x).1.2.2.1/\(jgO d x).1.2.2.2.1=(jgO d x).1.2.2.2.1/\(jgO d x).1.q4.1=(jgO d x).1.q4.1/\(jgO d x).1.q4.2.1=(jgO d x).1.q4.2.1/\(jgO d x).2.1=(jgO d x).2.1/\(jgO d x).2.2.1=(jgO d x).2.2.1/\(jgO d x).2.2.2.1=(jgO d x).2.2.2.1/\d.1.2.2.2.1.1=d.1.2.2.2.1.1/\d.1.2.2.2.1.2.1=d.1.2.2.2.1.2.1/\d.1.2.2.2.1.2.2.1=d.1.2.2.2.1.2.2.1/\d.1.2.2.2.1.2.2.2.1=d.1.2.2.2.1.2.2.2.1/\(jhO d)=(jhO d)/\(jhN d)=(jhN d)/\(jhM d)=(jhM d)/\(jhL d)=(jhL d)/\(jhK d)=(jhK d)/\(jhJ d)=(jhJ d)/\nth (jgU d) x=nth (jgU d) x/\nth d.1.2.1 (jgR d x).toNat=nth d.1.2.1 (jgR d x).toNat/\qN d.1 (jgR d x) a=qN d.1 (jgR d x) a/\cv (jha d x a)=cv (jha d x a)/\dx (jiD d x) (jha d x a)=dx (jiD d x) (jha d x a)/\uP (jha d x a)=uP (jin d x b)/\sw (jha d x a)=sw (jin d x b)/\True)/\True)/\b<=(qj d.1).length)/\∀(b:Nat),b<=(qj d.1).length->(decide ((b:Int)<d.1.q4.1.length)=true->0<=(b:Int)/\(b:Int)<d.1.q4.1.length/\(decide ((nth d.1.q4.1 b).2.1=nth (jgU d) x)=true->wl ((b:Int)+1)/\∃(c:Nat),(((b:Int)+1=(c:Int)/\True)/\((jgO d x).1.1=(jgO d x).1.1/\(jgO d x).1.2.1=(jgO d x).1.2.1/\(jgO d x).1.2.2.1=(jgO d x).1.2.2.1/\(jgO d x).1.2.2.2.1=(jgO d x).1.2.2.2.1/\(jgO d x).1.q4.1=(jgO d x).1.q4.1/\(jgO d x).1.q4.2.1=(jgO d x).1.q4.2.1/\(jgO d x).2.1=(jgO d x).2.1/\(jgO d x).2.2.1=(jgO d x).2.2.1/\(jgO d x).2.2.2.1=(jgO d x).2.2.2.1/\d.1.2.2.2.1.1=d.1.2.2.2.1.1/\d.1.2.2.2.1.2.1=d.1.2.2.2.1.2.1/\d.1.2.2.2.1.2.2.1=d.1.2.2.2.1.2.2.1/\d.1.2.2.2.1.2.2.2.1=d.1.2.2.2.1.2.2.2.1/\(jhO d)=(jhO d)/\(jhN d)=(jhN d)/\(jhM d)=(jhM d)/\(jhL d)=(jhL d)/\(jhK d)=(jhK d)/\(jhJ d)=(jhJ d)/\nth (jgU d) x=nth (jgU d) x/\nth d.1.2.1 (jgR d x).toNat=nth d.1.2.1 (jgR d x).toNat/\qN d.1 (jgR d x) a=qN d.1 (jgR d x) a/\su (jkh d x a b)=cv (jha d x a)/\GD (jkh d x a b)=dx (jiD d x) (jha d x a)/\Zg (nth d.1.q4.1 b).2.2.1 (jkh d x a b)=uP (wx d.1 (jgR d x) c)/\Zh (nth d.1.q4.1 b).2.2.1 (jkh d x a b)=sw (wx d.1 (jgR d x) c)/\True)/\True)/\c<=(qj d.1).length/\(qj d.1).length-c<(qj d.1).length-b)/\(decide ((nth d.1.q4.1 b).2.1=nth (jgU d) x)=false->wl ((b:Int)+1)/\∃(c:Nat),(((b:Int)+1=(c:Int)/\True)/\((jgO d x).1.1=(jgO d x).1.1/\(jgO d x).1.2.1=(jgO d x).1.2.1/\(jgO d x).1.2.2.1=(jgO d x).1.2.2.1/\(jgO d x).1.2.2.2.1=(jgO d x).1.2.2.2.1/\(jgO d x).1.q4.1=(jgO d x).1.q4.1/\(jgO d x).1.q4.2.1=(jgO d x).1.q4.2.1/\(jgO d x).2.1=(jgO d x).2.1/\(jgO d x).2.2.1=(jgO d x).2.2.1/\(jgO d x).2.2.2.1=(jgO d x).2.2.2.1/\d.1.2.2.2.1.1=d.1.2.2.2.1.1/\d.1.2.2.2.1.2.1=d.1.2.2.2.1.2.1/\d.1.2.2.2.1.2.2.1=d.1.2.2.2.1.2.2.1/\d.1.2.2.2.1.2.2.2.1=d.1.2.2.2.1.2.2.2.1/\(jhO d)=(jhO d)/\(jhN d)=(jhN d)/\(jhM d)=(jhM d)/\(jhL d)=(jhL d)/\(jhK d)=(jhK d)/\(jhJ d)=(jhJ d)/\nth (jgU d) x=nth (jgU d) x/\nth d.1.2.1 (jgR d x).toNat=nth d.1.2.1 (jgR d x).toNat/\qN d.1 (jgR d x) a=qN d.1 (jgR d x) a/\cv (jha d x a)=cv (jha d x a)/\dx (jiD d x) (jha d x a)=dx (jiD d x) (jha d x a)/\uP (jin d x b)=uP (wx d.1 (jgR d x) c)/\sw (jin d x b)=sw (wx d.1 (jgR d x) c)/\True)/\True)/\c<=(qj d.1).length/\(qj d.1).length-c<(qj d.1).length-b))/\(decide ((b:Int)<d.1.q4.1.length)=false->wl ((x:Int)+1)/\∃(c:Nat),(((x:Int)+1=(c:Int)/\True)/\iz Ty.int (jgR d x) (some (nth d.1.1.2.2.1 (jgR d x).toNat,d.1.2.2.2.1,nth (jgU d) x,nth d.1.2.1 (jgR d x).toNat,qN d.1 (jgR d x) a,cv (jha d x a),dx (jiD d x) (jha d x a),uP (jin d x b),sw (jin d x b),())) (BP d.1 x)=BP d.1 c/\True)/\c<=(jgU d).length/\(jgU d).length-c<(jgU d).length-x)))))/\(decide ((x:Int)<(jgU d).length)=false->((d.1,BP d.1 x,()),(0:Int),())=(jk2 d))))))
def jep (l:LgD) (n:Int) (k:Nat):BlD:=
 (nth (wm (wq l)) n.toNat,vB l,n,nth (vd l) n.toNat,qN l n (wj (ww (wq l))).length,
  cv (uJ l n (qN l n (wj (ww (wq l))).length)),dx (nth (oD l) n.toNat) (uJ l n (qN l n (wj (ww (wq l))).length)),uP (wx l n k),sw (wx l n k),())
theorem QE (l:LgD) (n:Int) {k:Nat} (hk:k<=(qj l).length):jep l n k=wx l n k:=by
 obtain⟨c1,c2,a,b,c,d,f⟩:=vW l n k hk;have e:wx l n k=(vJ (wx l n k),au (wx l n k),QX (wx l n k),NF (wx l n k),vf (wx l n k),su (wx l n k),GD (wx l n k),uP (wx l n k),sw (wx l n k),()):=rfl;rw[c1,c2,a,b,c,d,f] at e;exact e.symm
theorem Y1 (l:LgD) (n:Int) (k:Nat):qN l n (k+1)=qN l n k++(if w7 (nth (dJ (wq l)) n.toNat) (k:Int)=true then[(k:Int)] else[]):=by
 unfold qN qH;rw[j8,kj,zn];congr 1;by_cases h:w7 (nth (dJ (wq l)) n.toNat) (k:Int)=true;rw[je h];simp only[List.filter,h,List.map];rw[jd h];rw[zT] at h;simp only[List.filter,h,List.map]
theorem jbf {l:LgD} (h:sq l):(dJ (wq l)).length=(wm (wq l)).length:=by
 unfold dJ;rw[je h.cp];unfold aY;rw[zf,zx]
theorem jbg:Y0:=by
 unfold Y0 jkh jin jk3 jha jhO jiD jgO jgR jgU jhN jk2 jim jhM jhL jhK jhJ Prod.q4;rintro⟨l,told,⟨⟩⟩ w K;have w:(qi (wq l)).length<=100000:=w;refine⟨w,fun h=> ?_,fun h=> ?_⟩;have h:wU l≠0:=ja h;have e:∀t,qk l t=wU l:=fun t=>je h
 have e2:∀t,wv l t=jgj:=fun t=>jd (by rw[e];exact h)
 show(jgj,wU l,())=(wv l (wE l told.2),qk l (wE l told.2),());rw[e,e2];have h:wU l=0:=jM.1 (jc h);have g:=aS h;refine yj _ (K h) ⟨fun o=> ?_,fun o=>⟨w,w,fun H=>⟨⟨0,⟨⟨rfl,tZ⟩,rfl,tZ⟩,jl _⟩,fun x I=>⟨fun q=> ?_,fun q=> ?_⟩⟩⟩⟩;have o:wE l told.2=false:=(by simpa using(show(!wE l told.2)=true from o));show(jgj,(1:Int),())=(wv l (wE l told.2),qk l (wE l told.2),());have e:qk l (wE l told.2)=1:=by
  unfold qk;rw[jd (fun z=>z h),o];rfl
 have e2:wv l (wE l told.2)=jgj:=jd (by rw[e];decide);rw[e,e2];have q:(x:Int)<(wb (wq l)).length:=ja q;have f:x<(wb (wq l)).length:=(by omega);obtain⟨n,en⟩:∃n,n=nth (wb (wq l)) x:=⟨_,rfl⟩;have c:0<=n/\n<((wm (wq l)).length:Int):=(by rw[en];exact Jt (L.wh f));have M:(wb (wq l)).length<=4:=Si g;have C:n<((vd l).length:Int):=(by rw[g.py.1];exact c.2);have F:n<((oD l).length:Int):=(by rw[g.tr.1];exact c.2);have E:n<((dJ (wq l)).length:Int):=(by rw[jbf g];exact c.2);have O:=jeo g;have u:=nJ (nth (dJ (wq l)) n.toNat);have G:=g.tr.2 _ (L.wh (show n.toNat<(oD l).length by omega));have D:BP l (x+1)=iz .int n (some (wX l n)) (BP l x):=(by rw[MD f,<-en];rfl);have N:=g.cl;have step:∀k,k<(qj l).length->wx l n (k+1)=uK n (jep l n k) (nth (qj l) k):=fun k hk=>by rw[d8 hk,QE l n (by omega)]
 subst en;refine⟨by omega,q,c.1,c.2,c.1,C,fun P=>⟨⟨0,⟨⟨rfl,tZ⟩,(by repeat' (first|exact trivial|exact rfl|apply And.intro)),rfl,tZ⟩,jl _⟩,fun p v=>⟨fun b=> ?_,fun b=> ?_⟩⟩⟩;have b:(p:Int)<(wj (ww (wq l))).length:=ja b;have d:=Y1 l (nth (wb (wq l)) x) p;have s:=(u p).1;have s:(qN l (nth (wb (wq l)) x) p).length<=p:=s;have up:p+1<=(wj (ww (wq l))).length:=(by omega);have r:(wj (ww (wq l))).length-(p+1)<(wj (ww (wq l))).length-p:=(by omega);refine⟨c.1,E,by omega,by omega,fun j=> ?_,fun j=> ?_⟩;have j:w7 (nth (dJ (wq l)) (nth (wb (wq l)) x).toNat) (p:Int)=true:=j;rw[je j] at d;exact⟨by show((qN l (nth (wb (wq l)) x) p).length+1)*8<=140737488355328;omega,iZ6,p+1,⟨⟨by simp,tZ⟩,(by repeat' (first|exact trivial|exact rfl|apply And.intro)),d.symm,tZ⟩,up,r⟩;have j:w7 (nth (dJ (wq l)) (nth (wb (wq l)) x).toNat) (p:Int)=false:=j;rw[jd (by rw[j];decide),j6] at d;exact⟨iZ6,p+1,⟨⟨by simp,tZ⟩,d.symm,(by repeat' (first|exact trivial|exact rfl|apply And.intro)),tZ⟩,up,r⟩;have b:¬(p:Int)<(wj (ww (wq l))).length:=jc b;have v:p<=(wj (ww (wq l))).length:=v;have B:p=(wj (ww (wq l))).length:=(by omega);subst B;have J:Es (uJ l (nth (wb (wq l)) x) (qN l (nth (wb (wq l)) x) (wj (ww (wq l))).length)):=Sf g c (by have:=(u (wj (ww (wq l))).length).1;unfold qN;omega);refine⟨c.1,F,ui.2 J,G.1,G.2,fun Q=>⟨⟨0,⟨⟨rfl,tZ⟩,(by repeat' (first|exact trivial|exact rfl|apply And.intro)),tZ⟩,jl _⟩,fun k hk=>⟨fun a=> ?_,fun a=> ?_⟩⟩⟩;have a:(k:Int)<(qj l).length:=ja a;have i:=step k (by omega);have up:k+1<=(qj l).length:=(by omega);have r:(qj l).length-(k+1)<(qj l).length-k:=(by omega);refine⟨by omega,a,fun m=> ?_,fun m=> ?_⟩;have m:jed (nth (qj l) k)=(nth (wb (wq l)) x):=ja m;have e:wx l (nth (wb (wq l)) x) (k+1)=aa (QW (nth (qj l) k)) (jep l (nth (wb (wq l)) x) k):=(by rw[i];exact je m);have y:uP (aa (QW (nth (qj l) k)) (jep l (nth (wb (wq l)) x) k))=uP (wx l (nth (wb (wq l)) x) (k+1)):=(by rw[e]);have e2:sw (aa (QW (nth (qj l) k)) (jep l (nth (wb (wq l)) x) k))=sw (wx l (nth (wb (wq l)) x) (k+1)):=(by rw[e]);exact⟨iZ6,k+1,⟨⟨by simp,tZ⟩,(by repeat' (first|exact trivial|exact y|exact e2|exact rfl|apply And.intro)),tZ⟩,up,r⟩;have m:¬jed (nth (qj l) k)=(nth (wb (wq l)) x):=jc m;have e:wx l (nth (wb (wq l)) x) (k+1)=wx l (nth (wb (wq l)) x) k:=(by rw[i,QE l (nth (wb (wq l)) x) (by omega)];exact jd m);have y:uP (wx l (nth (wb (wq l)) x) k)=uP (wx l (nth (wb (wq l)) x) (k+1)):=(by rw[e]);have e2:sw (wx l (nth (wb (wq l)) x) k)=sw (wx l (nth (wb (wq l)) x) (k+1)):=(by rw[e]);exact⟨iZ6,k+1,⟨⟨by simp,tZ⟩,(by repeat' (first|exact trivial|exact y|exact e2|exact rfl|apply And.intro)),tZ⟩,up,r⟩;have a:¬(k:Int)<(qj l).length:=jc a;have hk:k<=(qj l).length:=hk;have A:k=(qj l).length:=(by omega);subst A;have e:iz .int (nth (wb (wq l)) x) (some (jep l (nth (wb (wq l)) x) (qj l).length)) (BP l x)=BP l (x+1):=by
  rw[D,QE l (nth (wb (wq l)) x) (jj _)];rfl
 exact⟨iZ6,x+1,⟨⟨by simp,tZ⟩,e,tZ⟩,by show x+1<=(wb (wq l)).length;omega,by show(wb (wq l)).length-(x+1)<(wb (wq l)).length-x;omega⟩;have q:¬(x:Int)<(wb (wq l)).length:=jc q;have I:x<=(wb (wq l)).length:=I;have f:x=(wb (wq l)).length:=(by omega);subst f;have o:wE l told.2=true:=(by simpa using(show(!wE l told.2)=false from o));show((l,Np l,()),(0:Int),())=(wv l (wE l told.2),qk l (wE l told.2),());have e:qk l (wE l told.2)=0:=by
  unfold qk;rw[jd (fun z=>z h),je o]
 have e2:wv l (wE l told.2)=(l,Np l,()):=je e;rw[e,e2]
theorem nO:w9 PR 34 YY:=vb YZ jbg Tryz.func34 (kcC UQ (kcC TQ (kcC Pl kcN))) (koC BA (koC pq koN))
def QF:w4:=⟨[.val tLg],[.slice .int,.int],false,fun d=>[(qi (wq d.1)).length<=100000],fun d=>(Nt d.1,wU d.1,())⟩
abbrev jjL (d:LgD×Unit):=(wE d.1 fun(a:BoD×Unit)=>(true,()))
def QG:Prop:=∀(d:LgD×Unit),(qi (wq d.1)).length<=100000->(qi (wq d.1)).length<=100000/\(wU d.1=0->wC [])/\(decide (qk d.1 (jjL d)≠0)=true->([],qk d.1 (jjL d),())=(Nt d.1,wU d.1,()))/\(decide (qk d.1 (jjL d)≠0)=false->Nr (wv d.1 (jjL d))/\(yC (wv d.1 (jjL d)),(0:Int),())=(Nt d.1,wU d.1,()))
def U9:w4:=⟨[.val tBo,.ref .int],[.bool],false,fun d=>[(wm (wq (bH d.1))).length<=100],fun d=>(q6 d.1 d.2.1,())⟩
def Va:Prop:=∀(d:BoD×Int×Unit),(wm (wq (bH d.1))).length<=100->(wm (wq (bH d.1))).length<=100/\(q6 d.1 d.2.1,())=(q6 d.1 d.2.1,())
def jbh:w4:=⟨[.val tLg,.val .int],[.slice .int,.int],false,fun d=>[(qi (wq d.1)).length<=100000],fun d=>(BQ d.1 d.2.1,qk d.1 (qU d.1 d.2.1),())⟩
abbrev jjM (d:LgD×Int×Unit):=(wE d.1 fun(a:BoD×Unit)=>(q6 a.1 d.2.1,()))
def jbi:Prop:=∀(d:LgD×Int×Unit),(qi (wq d.1)).length<=100000->(qi (wq d.1)).length<=100000/\(wU d.1=0->wC [(wm (wq (bH (d.1,[],())))).length<=100])/\(decide (qk d.1 (jjM d)≠0)=true->([],qk d.1 (jjM d),())=(BQ d.1 d.2.1,qk d.1 (qU d.1 d.2.1),()))/\(decide (qk d.1 (jjM d)≠0)=false->Ns (wv d.1 (jjM d))/\(yO (wv d.1 (jjM d)) d.2.1,(0:Int),())=(BQ d.1 d.2.1,qk d.1 (qU d.1 d.2.1),()))
def M7:w4:=⟨[.val tBo,.ref .int,.ref .int],[.bool],false,fun d=>[(wm (wq (bH d.1))).length<=100],fun d=>(q6 d.1 d.2.1&&gB d.2.2.1,())⟩
def M8:Prop:=∀(d:BoD×Int×Int×Unit),(wm (wq (bH d.1))).length<=100->(wm (wq (bH d.1))).length<=100/\(q6 d.1 d.2.1&&wa d.2.2.1 (-100000:Int) (1440:Int),())=(q6 d.1 d.2.1&&gB d.2.2.1,())
def JU:w4:=⟨[.val tBo,.ref .int,.ref .int],[.bool],false,fun d=>[(wm (wq (bH d.1))).length<=100],fun d=>(q6 d.1 d.2.1&&gL d.2.2.1,())⟩
def JV:Prop:=∀(d:BoD×Int×Int×Unit),(wm (wq (bH d.1))).length<=100->(wm (wq (bH d.1))).length<=100/\(q6 d.1 d.2.1&&wa d.2.2.1 (0:Int) (1000000000:Int),())=(q6 d.1 d.2.1&&gL d.2.2.1,())
def Vb:w4:=⟨[.val tLg,.val .int,.val .int],[.int,.int],false,fun d=>[(qi (wq d.1)).length<=100000],fun d=>(GG d.1 d.2.1 d.2.2.1,qk d.1 (qU d.1 d.2.1&&gB d.2.2.1),())⟩
abbrev jki (d:LgD×Int×Int×Unit):=(wE d.1 fun(a:BoD×Unit)=>(q6 a.1 d.2.1&&gB d.2.2.1,()))
abbrev jjN (d:LgD×Int×Int×Unit):=(wW none (wG Ty.int d.2.1 (wv d.1 (jki d)).2.1))
abbrev ji3 (d:LgD×Int×Int×Unit):=(wR ((((0:Int),(0:Int),(0:Int),(0:Int),(0:Int),(0:Int),()),(0:Int),(0:Int),(0:Int),()),((0:Int),(0:Int),(0:Int),(0:Int),(0:Int),(0:Int),(0:Int),(0:Int),[],[],()),(0:Int),(0:Int),[],(0:Int),(0:Int),false,(0:Int),()) (jjN d))
abbrev jk4 (d:LgD×Int×Int×Unit):=(GG d.1 d.2.1 d.2.2.1,qk d.1 (qU d.1 d.2.1&&gB d.2.2.1),())
def Vc:Prop:=∀(d:LgD×Int×Int×Unit),(qi (wq d.1)).length<=100000->(qi (wq d.1)).length<=100000/\(wU d.1=0->wC [(wm (wq (bH (d.1,[],())))).length<=100])/\(decide (qk d.1 (jki d)≠0)=true->((0:Int),qk d.1 (jki d),())=(jk4 d))/\(decide (qk d.1 (jki d)≠0)=false->((jjN d).isNone=true->((0:Int),(0:Int),())=(jk4 d))/\((jjN d).isNone=false->(jjN d).isSome=true/\sk (ji3 d)/\(jjN d).isSome=true/\sk (ji3 d)/\(-100000:Int)<=d.2.2.1/\d.2.2.1<=1440/\wl ((vA (ji3 d)).q4.2.1-av d.2.2.1 (ji3 d))/\((vA (ji3 d)).q4.2.1-av d.2.2.1 (ji3 d),(0:Int),())=(jk4 d)))
theorem Y2:Va:=fun _ h=>⟨h,rfl⟩
theorem Vd:w9 PR 46 U9:=wT Y2 Tryz.func46 (kcC aT kcN) koN
theorem QH:M8:=fun _ h=>⟨h,rfl⟩
theorem M9:w9 PR 35 M7:=wT QH Tryz.func35 (kcC aT (kcC y6 kcN)) koN
theorem Na:JV:=fun _ h=>⟨h,rfl⟩
theorem JW:w9 PR 43 JU:=wT Na Tryz.func43 (kcC aT (kcC y6 kcN)) koN
theorem jgd {l:LgD} (h:sq l):(wm (wq l)).length<=4:=by
 have a:=h.dy;unfold qG at a;rw[ji] at a;exact(ja a.1).1
theorem Cf (l:LgD):qk l true=wU l:=by
 unfold qk;by_cases h:wU l=0;rw[jd (fun a=>a h),je rfl,h];rw[je h]
theorem E2 {l:LgD} {t:Bool} (h:qk l t=0):wv l t=U.bo l/\sq l/\t=true:=by
 have e:wv l t=U.bo l:=(by unfold wv;rw[je h];rfl);unfold qk at h
 split at h
 rename_i a;exact absurd h a;rename_i a
 split at h
 rename_i b;exact⟨e,aS (jM.1 a),b⟩;cases h
theorem Ve:QG:=by
 unfold QG jjL;rintro⟨l,⟨⟩⟩ c;refine⟨c,fun _=>tZ,fun h=> ?_,fun h=> ?_⟩;have h:qk l true≠0:=ja h;show(([]:List Int),qk l true,())=(Nt l,wU l,());rw[Cf] at h⊢;unfold Nt;rw[jd h];have h:qk l true=0:=jM.1 (jc h);obtain⟨a,b,_⟩:=E2 h;rw[Cf] at h;refine⟨?_,?_⟩;show Nr (wv l true);rw[a];exact jdM b;show(yC (wv l true),(0:Int),())=(Nt l,wU l,());rw[a,h];unfold Nt;rw[je h]
theorem QI:w9 PR 24 QF:=wT Ve Tryz.func24 (kcC nO (kcC EF (kcC ic kcN))) koN
theorem jdW:jbi:=by
 unfold jbi jjM;rintro⟨l,n,⟨⟩⟩ d;refine⟨d,fun b=> ?_,fun h=> ?_,fun h=> ?_⟩;have:(wm (wq l)).length<=4:=jgd (aS b);exact⟨by show(wm (wq l)).length<=100;omega,tZ⟩;have h:qk l (qU l n)≠0:=ja h;show(([]:List Int),qk l (qU l n),())=(BQ l n,qk l (qU l n),());unfold BQ;rw[jd h];have h:qk l (qU l n)=0:=jM.1 (jc h);obtain⟨a,c,_⟩:=E2 h;refine⟨?_,?_⟩;show Ns (wv l (qU l n));rw[a];exact jaX c;show(yO (wv l (qU l n)) n,(0:Int),())=(BQ l n,qk l (qU l n),());rw[a,h];unfold BQ;rw[je h]
theorem Sv:w9 PR 17 jbh:=wT jdW Tryz.func17 (kcC nO (kcC Vd (kcC pu kcN))) koN
theorem jcb {l:LgD} (i:sq l) {n:Int} {b:BlD} (h:QY (U.bo l) n=some b):Kh b:=by
 have a:=YD i;have d:(n,some b)∈Np l:=by
  refine(M.iw (kt:= .int) a.2.2.1).1 ?_;have e:wW none (wG .int n (Np l))=some b:=h;cases f:wG (β:=Option BlD) Ty.int n (Np l) with
  |none=>rw[f] at e;cases e
  |some v=>rw[f] at e;exact f.trans (jD some e)
 obtain⟨g,c,j⟩:=a.1 _ d;have c:some b=some g:=c;simp only[jy] at c;subst c;exact bL.1 j
theorem Y3 {b:BlD} {m:Int} (w:Kh b) (a: -100000<=m/\m<=1440): -1000000<=av m b/\av m b<=20000000000000000:=JD (Js w a)
theorem Y4:Vc:=by
 unfold Vc jk4 ji3 jjN jki Prod.q4;rintro⟨l,n,m,⟨⟩⟩ j;refine⟨j,fun g=> ?_,fun h=> ?_,fun h=> ?_⟩;have:(wm (wq l)).length<=4:=jgd (aS g);exact⟨by show(wm (wq l)).length<=100;omega,tZ⟩;have h:qk l (qU l n&&gB m)≠0:=ja h;show((0:Int),qk l (qU l n&&gB m),())=(GG l n m,qk l (qU l n&&gB m),());unfold GG;rw[jd h];have h:qk l (qU l n&&gB m)=0:=jM.1 (jc h);obtain⟨f,i,c⟩:=E2 h;rw[ji] at c;have a: -100000<=m/\m<=1440:=vE.1 c.2;show((QY (wv l (qU l n&&gB m)) n).isNone=true->((0:Int),(0:Int),())=(GG l n m,qk l (qU l n&&gB m),()))/\
  ((QY (wv l (qU l n&&gB m)) n).isNone=false->(QY (wv l (qU l n&&gB m)) n).isSome=true/\sk (wR _ (QY (wv l (qU l n&&gB m)) n))/\(QY (wv l (qU l n&&gB m)) n).isSome=true/\sk (wR _ (QY (wv l (qU l n&&gB m)) n))/\-100000<=m/\m<=1440/\
    wl (Kc (vA (wR _ (QY (wv l (qU l n&&gB m)) n)))-av m (wR _ (QY (wv l (qU l n&&gB m)) n)))/\(Kc (vA (wR _ (QY (wv l (qU l n&&gB m)) n)))-av m (wR _ (QY (wv l (qU l n&&gB m)) n)),(0:Int),())=(GG l n m,qk l (qU l n&&gB m),()))
 rw[f,h];unfold GG;rw[je h];cases e:QY (U.bo l) n with
 |none=>exact⟨fun _=>rfl,fun h=>(by cases h)⟩
 |some b=>
  have w:=jcb i e;have d:=bL.2 w;have k:=JD w;have o:=Y3 w a;refine⟨fun h=>(by cases h),fun _=>⟨rfl,d,rfl,d,a.1,a.2,?_,rfl⟩⟩;show wl (Kc (vA b)-av m b);exact iZ6
theorem Vf:w9 PR 11 Vb:=wT Y4 Tryz.func11 (kcC nO (kcC M9 (kcC bM (kcC lN kcN)))) koN
namespace U
def yP (o:Option BlD):BlD:=o.getD default
end U
def QJ:w4:=⟨[.val tLg,.val .int,.val .int],[.int,.int],false,fun d=>[(qi (wq d.1)).length<=100000],fun d=>(Nw d.1 d.2.1 d.2.2.1,Nx d.1 d.2.1 d.2.2.1,())⟩
def JX:w4:=⟨[.val tLg],[.slice .int,.slice .int,.int,.int],false,fun d=>[(qi (wq d.1)).length<=100000],fun d=>(GI d.1,GJ d.1,GK d.1,wU d.1,())⟩
def QK:Ann:=fun r=>match r with
 |7=>some fun σ=>{X:=Nat,sl:=fun k=>[(11,.dat .int (qh (vJ (yP (gd (.ptr tBl) σ 10)))-(k:Int)))],ob:=fun _=>[],inv:=fun k=>k<=eR (yP (gd (.ptr tBl) σ 10))/\∀j:Nat,j<k->iu (yP (gd (.ptr tBl) σ 10)) (gb .int σ 5) j=false,mu:=fun k=>eR (yP (gd (.ptr tBl) σ 10))-k}
 |_=>none
abbrev jkj (d:LgD×Int×Int×Unit):=(wE d.1 fun(a:BoD×Unit)=>(q6 a.1 d.2.1&&gL d.2.2.1,()))
abbrev ji4 (d:LgD×Int×Int×Unit):=(wW none (wG Ty.int d.2.1 (wv d.1 (jkj d)).2.1))
abbrev jkk (d:LgD×Int×Int×Unit):=(wR ((((0:Int),(0:Int),(0:Int),(0:Int),(0:Int),(0:Int),()),(0:Int),(0:Int),(0:Int),()),((0:Int),(0:Int),(0:Int),(0:Int),(0:Int),(0:Int),(0:Int),(0:Int),[],[],()),(0:Int),(0:Int),[],(0:Int),(0:Int),false,(0:Int),()) (ji4 d))
abbrev jkl (d:LgD×Int×Int×Unit):=(Nw d.1 d.2.1 d.2.2.1,Nx d.1 d.2.1 d.2.2.1,())
abbrev jh1 (d:LgD×Int×Int×Unit):=(yP (ji4 d))
abbrev jhD (d:LgD×Int×Int×Unit):=(vJ (jh1 d))
def QL:Prop:=∀(d:LgD×Int×Int×Unit),(qi (wq d.1)).length<=100000->(qi (wq d.1)).length<=100000/\(wU d.1=0->wC [(wm (wq (bH (d.1,[],())))).length<=100])/\(decide (qk d.1 (jkj d)≠0)=true->((0:Int),qk d.1 (jkj d),())=(jkl d))/\(decide (qk d.1 (jkj d)≠0)=false->((!(ji4 d).isNone)=true->(ji4 d).isSome=true/\(∃(x:Nat),(((jkk d).1.2.2.1=qh (jhD d)-(x:Int)/\True)/\True)/\x<=eR (jh1 d)/\∀(j:Nat),j<x->iu (jh1 d) d.2.2.1 j=false)/\∀(x:Nat),(x<=eR (jh1 d)/\∀(j:Nat),j<x->iu (jh1 d) d.2.2.1 j=false)->(decide ((-100000:Int)<=qh (jhD d)-(x:Int))=true->(ji4 d).isSome=true/\sk (jkk d)/\(-100000:Int)<=qh (jhD d)-(x:Int)/\qh (jhD d)-(x:Int)<=1440/\(decide (av (qh (jhD d)-(x:Int)) (jkk d)<=d.2.2.1)=true->(qh (jhD d)-(x:Int),(0:Int),())=(jkl d))/\(decide (av (qh (jhD d)-(x:Int)) (jkk d)<=d.2.2.1)=false->wl (qh (jhD d)-(x:Int)-1)/\∃(a:Nat),((qh (jhD d)-(x:Int)-1=qh (jhD d)-(a:Int)/\True)/\True)/\(a<=eR (jh1 d)/\∀(j:Nat),j<a->iu (jh1 d) d.2.2.1 j=false)/\eR (jh1 d)-a<eR (jh1 d)-x))/\(decide ((-100000:Int)<=qh (jhD d)-(x:Int))=false->((0:Int),(3:Int),())=(jkl d)))/\((!(ji4 d).isNone)=false->((0:Int),(3:Int),())=(jkl d)))
theorem jfp {o:Option BlD} {Z:BlD} {a P E:Int} (t:∀b,o=some b->Kh b) (r:P=jgA a o) (p:E=jgB a o):
 ((!o.isNone)=true->o.isSome=true/\(∃(x:Nat),((qh (vJ (wR Z o))=qh (vJ (yP o))-(x:Int)/\True)/\True)/\x<=eR (yP o)/\∀(j:Nat),j<x->iu (yP o) a j=false)/\
   ∀(x:Nat),(x<=eR (yP o)/\∀(j:Nat),j<x->iu (yP o) a j=false)->
    (decide (-100000<=qh (vJ (yP o))-(x:Int))=true->o.isSome=true/\sk (wR Z o)/\-100000<=qh (vJ (yP o))-(x:Int)/\qh (vJ (yP o))-(x:Int)<=1440/\
     (decide (av (qh (vJ (yP o))-(x:Int)) (wR Z o)<=a)=true->(qh (vJ (yP o))-(x:Int),(0:Int),())=(P,E,()))/\
     (decide (av (qh (vJ (yP o))-(x:Int)) (wR Z o)<=a)=false->wl (qh (vJ (yP o))-(x:Int)-1)/\∃(m:Nat),((qh (vJ (yP o))-(x:Int)-1=qh (vJ (yP o))-(m:Int)/\True)/\True)/\(m<=eR (yP o)/\∀(j:Nat),j<m->iu (yP o) a j=false)/\eR (yP o)-m<eR (yP o)-x))/\
    (decide (-100000<=qh (vJ (yP o))-(x:Int))=false->((0:Int),(3:Int),())=(P,E,())))/\
 ((!o.isNone)=false->((0:Int),(3:Int),())=(P,E,())):=by
 subst r p;cases o with
 |none=>exact⟨fun h=>(by cases h),fun _=>rfl⟩
 |some b=>
  have w:=t b rfl;have n:=w.bl;refine⟨fun _=>⟨rfl,⟨0,⟨⟨?_,tZ⟩,tZ⟩,jl _,fun j s=>by omega⟩,fun x d=>⟨fun f=> ?_,fun f=> ?_⟩⟩,fun h=>(by cases h)⟩;show qh (vJ b)=qh (vJ b)-((0:Nat):Int);omega;have d:x<=eR b/\∀j:Nat,j<x->iu b a j=false:=d;have f: -100000<=qh (vJ b)-(x:Int):=ja f;have s1:=n.st;have s2:=n.en;have u:=n.e2;have q:eR b=(qh (vJ b)+100001).toNat:=rfl;refine⟨rfl,bL.2 w,f,?_,fun c=> ?_,fun c=> ?_⟩;show qh (vJ b)-(x:Int)<=1440;omega;have c:iu b a x=true:=c;have e:GH b a=some x:=by
   rcases HN b a with⟨k,e,hk,g,i⟩|⟨e,i⟩;rw[e];have:k=x:=by
    rcases kK k x with l|l|l;rw[d.2 k l] at g;cases g;exact l;rw[i x l] at c;cases c
   rw[this];rw[i x (by omega)] at c;cases c
  show(qh (vJ b)-(x:Int),(0:Int),())=(jgk b (GH b a),jgl (GH b a),());rw[e];rfl;have c:iu b a x=false:=c;refine⟨?_,x+1,⟨⟨?_,tZ⟩,tZ⟩,⟨?_,fun j s=> ?_⟩,?_⟩;show wl (qh (vJ b)-(x:Int)-1);exact iZ6;show qh (vJ b)-(x:Int)-1=qh (vJ b)-((x+1:Nat):Int);omega;show x+1<=eR b;omega;by_cases e:j=x;subst e;exact c;exact d.2 j (by omega);show eR b-(x+1)<eR b-x;omega;have d:x<=eR b/\∀j:Nat,j<x->iu b a j=false:=d;have f:¬-100000<=qh (vJ b)-(x:Int):=jc f;have q:eR b=(qh (vJ b)+100001).toNat:=rfl;have e:GH b a=none:=by
   rcases HN b a with⟨k,e,hk,g,i⟩|⟨e,i⟩;rw[d.2 k (by omega)] at g;cases g;exact e
  show((0:Int),(3:Int),())=(jgk b (GH b a),jgl (GH b a),());rw[e];rfl
theorem Vg:QL:=by
 unfold QL jhD jh1 jkl jkk ji4 jkj;rintro⟨l,n,a,⟨⟩⟩ g;refine⟨g,fun e=> ?_,fun h=> ?_,fun h=> ?_⟩;have:(wm (wq l)).length<=4:=jgd (aS e);exact⟨by show(wm (wq l)).length<=100;omega,tZ⟩;have h:qk l (qU l n&&gL a)≠0:=ja h;show((0:Int),qk l (qU l n&&gL a),())=(Nw l n a,Nx l n a,());unfold Nw Nx;rw[jd h,jd h];have h:qk l (qU l n&&gL a)=0:=jM.1 (jc h);obtain⟨c,f,i⟩:=E2 h;exact jfp (o:=QY (wv l (qU l n&&gL a)) n) (fun b d=>by rw[c] at d;exact jcb f d) (by rw[c];exact je h) (by rw[c];exact je h)
theorem QM:w9 PR 13 QJ:=vb QK Vg Tryz.func13 (kcC nO (kcC JW (kcC lN kcN))) koN
def JY:Ann:=fun r=>match r with
 |6=>some fun σ=>{X:=Nat,sl:=fun k=>[(32,.dat .int (k:Int))],ob:=fun k=>[(2,some (.row 3 .int false .no (wH (dM (gb tLg σ 1)) (wB (gb tLg σ 1)) k)))],inv:=fun k=>k<=(wm (wq (gb tLg σ 1))).length,mu:=fun k=>(wm (wq (gb tLg σ 1))).length-k}
 |9=>some fun σ=>{X:=Nat,sl:=fun k=>[(39,.dat .int (k:Int))],ob:=fun k=>[(2,some (.row 3 .int false .no (qx (gr .int σ 2) (gd (.slice .int) σ 37) k)))],inv:=fun k=>k<=(gd (.slice .int) σ 37).length,mu:=fun k=>(gd (.slice .int) σ 37).length-k}
 |15=>some fun σ=>{X:=Nat,sl:=fun k=>[(56,.dat .int (k:Int)),(3,.own 3 .int)],ob:=fun k=>[(3,some (.row 3 .int false .yes (eU ((gd (.slice .int) σ 54).take k))))],inv:=fun k=>k<=(gd (.slice .int) σ 54).length,mu:=fun k=>(gd (.slice .int) σ 54).length-k}
 |20=>some fun σ=>{X:=Nat,sl:=fun k=>[(69,.dat .int (k:Int)),(4,.dat .int (ao (gd (.slice tLn) σ 67) k))],ob:=fun _=>[],inv:=fun k=>k<=(gd (.slice tLn) σ 67).length,mu:=fun k=>(gd (.slice tLn) σ 67).length-k}
 |_=>none
abbrev jkm (d:LgD×Unit):=(wE d.1 fun(a:BoD×Unit)=>(true,()))
abbrev ji5 (d:LgD×Unit):=(wv d.1 (jkm d))
abbrev jhm (d:LgD×Unit)(x:Nat):=(yO (ji5 d) (x:Int))
abbrev jhg (d:LgD×Unit):=(wu (ji5 d))
abbrev jhb (d:LgD×Unit):=(yC (ji5 d))
abbrev jkn (d:LgD×Unit)(x:Nat):=(wH (dM d.1) (wB d.1) x)
abbrev jjO (d:LgD×Unit)(x:Nat)(a:Nat):=(qx (jkn d x) (jhm d x) a)
abbrev jjP (d:LgD×Unit):=(d.1.1.1.2.1.length:Int)
def JZ:Prop:=∀(d:LgD×Unit),(qi (wq d.1)).length<=100000->(qi (wq d.1)).length<=100000/\(wU d.1=0->wC [])/\(decide (qk d.1 (jkm d)≠0)=true->([],[],(0:Int),qk d.1 (jkm d),())=(GI d.1,GJ d.1,GK d.1,wU d.1,()))/\(decide (qk d.1 (jkm d)≠0)=false->d.1.1.1.2.1.length<4611686018427387904->0<=(jjP d)/\(jjP d)=(jjP d)/\(jjP d).toNat*8<=140737488355328/\(d.1.1.2.2.1.length<4611686018427387904->(∃(x:Nat),((0=(x:Int)/\True)/\List.replicate (jjP d).toNat 0=wH (dM d.1) (wB d.1) x/\True)/\x<=(wm (wq d.1)).length)/\∀(x:Nat),x<=(wm (wq d.1)).length->(decide ((x:Int)<d.1.1.2.2.1.length)=true->Ns (ji5 d)/\((jhm d x).length<4611686018427387904->(∃(a:Nat),((0=(a:Int)/\True)/\wH (dM d.1) (wB d.1) x=qx (jkn d x) (jhm d x) a/\True)/\a<=(jhm d x).length)/\∀(a:Nat),a<=(jhm d x).length->(decide ((a:Int)<(jhm d x).length)=true->0<=(a:Int)/\(a:Int)<(jhm d x).length/\0<=(a:Int)/\(a:Int)<(jjO d x a).length/\wl (nth (jjO d x a) a+nth (jhm d x) a)/\0<=(a:Int)/\(a:Int)<(jjO d x a).length/\wl ((a:Int)+1)/\∃(c:Nat),(((a:Int)+1=(c:Int)/\True)/\(jjO d x a).set a (nth (jjO d x a) a+nth (jhm d x) a)=qx (jkn d x) (jhm d x) c/\True)/\c<=(jhm d x).length/\(jhm d x).length-c<(jhm d x).length-a)/\(decide ((a:Int)<(jhm d x).length)=false->wl ((x:Int)+1)/\∃(c:Nat),(((x:Int)+1=(c:Int)/\True)/\qx (jkn d x) (jhm d x) a=wH (dM d.1) (wB d.1) c/\True)/\c<=(wm (wq d.1)).length/\(wm (wq d.1)).length-c<(wm (wq d.1)).length-x)))/\(decide ((x:Int)<d.1.1.2.2.1.length)=false->Nr (ji5 d)/\((jhb d).length<4611686018427387904->(∃(x:Nat),((0=(x:Int)/\True/\True)/\eU (List.take x (jhb d))=[]/\True)/\x<=(jhb d).length)/\∀(a:Nat),a<=(jhb d).length->(decide ((a:Int)<(jhb d).length)=true->0<=(a:Int)/\(a:Int)<(jhb d).length/\wl (-nth (jhb d) a)/\((eU (List.take a (jhb d))).length+[-nth (jhb d) a].length)*8<=140737488355328/\wl ((a:Int)+1)/\∃(c:Nat),(((a:Int)+1=(c:Int)/\True/\True)/\eU (List.take a (jhb d))++[-nth (jhb d) a]=eU (List.take c (jhb d))/\True)/\c<=(jhb d).length/\(jhb d).length-c<(jhb d).length-a)/\(decide ((a:Int)<(jhb d).length)=false->Nq (ji5 d)/\((jhg d).length<4611686018427387904->(∃(x:Nat),((0=(x:Int)/\0=ao (jhg d) x/\True)/\True)/\x<=(jhg d).length)/\∀(b:Nat),b<=(jhg d).length->(decide ((b:Int)<(jhg d).length)=true->0<=(b:Int)/\(b:Int)<(jhg d).length/\wl (ao (jhg d) b-(nth (jhg d) b).q4.1)/\wl ((b:Int)+1)/\∃(c:Nat),(((b:Int)+1=(c:Int)/\ao (jhg d) b-(nth (jhg d) b).q4.1=ao (jhg d) c/\True)/\True)/\c<=(jhg d).length/\(jhg d).length-c<(jhg d).length-b)/\(decide ((b:Int)<(jhg d).length)=false->(wH (dM d.1) (wB d.1) x,eU (List.take a (jhb d)),ao (jhg d) b,(0:Int),())=(GI d.1,GJ d.1,GK d.1,wU d.1,()))))))))
theorem Nb:JZ:=by
 unfold JZ jjP jjO jkn jhb jhg jhm ji5 jkm Prod.q4;rintro⟨l,⟨⟩⟩ D;refine⟨D,fun _=>tZ,fun h=> ?_,fun h=> ?_⟩;have h:qk l true≠0:=ja h;show(([]:List Int),([]:List Int),(0:Int),qk l true,())=(GI l,GJ l,GK l,wU l,());rw[Cf] at h⊢;unfold GI GJ GK;rw[jd h,jd h,jd h];have h:qk l true=0:=jM.1 (jc h);obtain⟨i,d,_⟩:=E2 h;rw[Cf] at h;have M:=ja4 d;have T:wB l<=8:=jeo d;have B:Ns (wv l true):=(by rw[i];exact jaX d);have q:Nr (wv l true):=(by rw[i];exact jdM d);have A:Nq (wv l true):=(by rw[i];exact YD d);have g:∀b:Nat,yO (wv l true) (b:Int)=dM l b:=fun b=>by rw[i];rfl
 have m:∀b:Nat,(yO (wv l true) (b:Int)).length=wB l:=fun b=>by rw[i];exact ja3 _ _
 have s:∀b:Nat,∀j,j<wB l->-1000000000000000000<=nth (dM l b) j/\nth (dM l b) j<=1700000000000000000:=fun b j C=>jb8 (jaX d) (n:=(b:Int)) j C
 obtain⟨Y,Q⟩:=YI q;have eL:wu (wv l true)=x9 l:=(by rw[i];exact uA d);have N:(wu (wv l true)).length<=4:=(by rw[eL];have:=JK d;omega);have t:=YJ (JS d);rw[<-eL] at t;have E:∀x∈wu (wv l true),0<=SB x/\SB x<=1000000:=(by rw[eL];exact JS d);refine fun P=>⟨jU _,rfl,by show(((wB l:Nat):Int)).toNat*8<=_;omega,fun _=>⟨⟨0,⟨⟨rfl,tZ⟩,rfl,tZ⟩,jl _⟩,fun x G=>⟨fun p=> ?_,fun p=> ?_⟩⟩⟩
 have p:(x:Int)<(wm (wq l)).length:=ja p;have v:x<(wm (wq l)).length:=(by omega);have K:(wH (dM l) (wB l) x).length=wB l:=ij _ _ _;have u:=bE (dM l) (wB l) x;have W:=m x;refine⟨B,fun _=>⟨⟨0,⟨⟨rfl,tZ⟩,rfl,tZ⟩,jl _⟩,fun y w=>⟨fun c=> ?_,fun c=> ?_⟩⟩⟩;have c:(y:Int)<(yO (wv l true) (x:Int)).length:=ja c;have a:y<wB l:=(by omega);have V:(qx (wH (dM l) (wB l) x) (yO (wv l true) (x:Int)) y).length=wB l:=(by rw[cL,K]);have r:(y:Int)<(qx (wH (dM l) (wB l) x) (yO (wv l true) (x:Int)) y).length:=(by omega);have I:=Su (f:=dM l) (k:=x) (n:=wB l) (by omega) (fun b _ j C=>s b j C) a;rw[<-g] at I;have D:=lA (wH (dM l) (wB l) x) (yO (wv l true) (x:Int)) y;exact⟨by omega,c,by omega,r,I,by omega,r,iZ6,y+1,⟨⟨by simp,tZ⟩,D.symm,tZ⟩,by show y+1<=(yO (wv l true) (x:Int)).length;omega,by show(yO (wv l true) (x:Int)).length-(y+1)<(yO (wv l true) (x:Int)).length-y;omega⟩;have c:¬(y:Int)<(yO (wv l true) (x:Int)).length:=jc c;have w:y<=(yO (wv l true) (x:Int)).length:=w;have a:y=wB l:=(by omega);subst a;rw[<-g] at u;exact⟨iZ6,x+1,⟨⟨by simp,tZ⟩,u.symm,tZ⟩,by show x+1<=(wm (wq l)).length;omega,by show(wm (wq l)).length-(x+1)<(wm (wq l)).length-x;omega⟩;have p:¬(x:Int)<(wm (wq l)).length:=jc p;have G:x<=(wm (wq l)).length:=G;have v:x=(wm (wq l)).length:=(by omega);subst v;refine⟨q,fun _=>⟨⟨0,⟨⟨rfl,tZ,tZ⟩,rfl,tZ⟩,jl _⟩,fun y w=>⟨fun c=> ?_,fun c=> ?_⟩⟩⟩;have c:(y:Int)<(yC (wv l true)).length:=ja c;have a:y<(yC (wv l true)).length:=(by omega);have X:=Q _ (L.wh a);have O:=M6 a;have F:=Ss (yC (wv l true)) y;refine⟨by omega,c,?_,?_,iZ6,y+1,⟨⟨by simp,tZ,tZ⟩,O.symm,tZ⟩,by show y+1<=(yC (wv l true)).length;omega,by show(yC (wv l true)).length-(y+1)<(yC (wv l true)).length-y;omega⟩;show wl (-nth (yC (wv l true)) y);exact iZ6;show((eU ((yC (wv l true)).take y)).length+1)*8<=_;omega;have c:¬(y:Int)<(yC (wv l true)).length:=jc c;have w:y<=(yC (wv l true)).length:=w;have a:y=(yC (wv l true)).length:=(by omega);subst a;refine⟨A,fun _=>⟨⟨0,⟨⟨rfl,rfl,tZ⟩,tZ⟩,jl _⟩,fun z H=>⟨fun o=> ?_,fun o=> ?_⟩⟩⟩;have o:(z:Int)<(wu (wv l true)).length:=ja o;have e:z<(wu (wv l true)).length:=(by omega);have R:=t z (by omega);have S:=E _ (L.wh e);have J:=xW e;refine⟨by omega,o,?_,iZ6,z+1,⟨⟨by simp,J.symm,tZ⟩,tZ⟩,by show z+1<=(wu (wv l true)).length;omega,by show(wu (wv l true)).length-(z+1)<(wu (wv l true)).length-z;omega⟩;show wl (ao (wu (wv l true)) z-SB (nth (wu (wv l true)) z));exact iZ6;have o:¬(z:Int)<(wu (wv l true)).length:=jc o;have H:z<=(wu (wv l true)).length:=H;have e:z=(wu (wv l true)).length:=(by omega);subst e;show(wH (dM l) (wB l) (wm (wq l)).length,eU ((yC (wv l true)).take (yC (wv l true)).length),ao (wu (wv l true)) (wu (wv l true)).length,(0:Int),())=(GI l,GJ l,GK l,wU l,());unfold GI GJ GK;rw[je h,je h,je h,h,zC,i]
theorem J0:w9 PR 29 JX:=vb JY Nb Tryz.func29 (kcC nO (kcC EF (kcC pu (kcC ic (kcC lO kcN))))) koN
namespace U
def Q2 (l:LgD):Bool:=((((Kb (wq l)||decide (20<((vd l).length:Int)))||decide (20<((oD l).length:Int)))||decide (20<((bn (vB l)).length:Int)))||decide (20<((aB (vB l)).length:Int)))||decide (30<((qj l).length:Int))
def exT:TaD:=(30,100,2,1200,90,50,2,150,[0,10,25,50],[(1000,0,()),(60,50,())],())
def AI:LgD:=(jgz,[0,1,0],[30,0,45],exT,[(1,1,80,()),(2,1,120,())],())
end U
def Y5:w4:=⟨[.val tLg],[.bool],false,fun _=>[],fun d=>(Q2 d.1,())⟩
abbrev jlY (d:LgD×Unit):=(20<(d.1.2.2.2.1.q4.q4.1.length:Int))
abbrev jko (d:LgD×Unit):=(20<(d.1.2.1.length:Int))
abbrev jk5 (d:LgD×Unit):=(20<(d.1.2.2.1.length:Int))
def Y6:Prop:=∀(d:LgD×Unit),((!Kb d.1.1)=true->d.1.2.1.length<4611686018427387904)->((!(Kb d.1.1||decide (jko d)))=true->d.1.2.2.1.length<4611686018427387904)->((!(Kb d.1.1||decide (jko d)||decide (jk5 d)))=true->d.1.2.2.2.1.q4.q4.1.length<4611686018427387904)->((!(Kb d.1.1||decide (jko d)||decide (jk5 d)||decide (jlY d)))=true->d.1.2.2.2.1.q4.q4.2.1.length<4611686018427387904)->((!(Kb d.1.1||decide (jko d)||decide (jk5 d)||decide (jlY d)||decide (20<(d.1.2.2.2.1.q4.q4.2.1.length:Int))))=true->d.1.q4.1.length<4611686018427387904)->(Kb d.1.1||decide (jko d)||decide (jk5 d)||decide (jlY d)||decide (20<(d.1.2.2.2.1.q4.q4.2.1.length:Int))||decide (30<(d.1.q4.1.length:Int)),())=(Q2 d.1,())
def Gw:w4:=⟨[.val (.slice .int),.val (.slice .int)],[.bool],false,fun _=>[],fun d=>(decide (d.1=d.2.1),())⟩
def Gx:Ann:=fun r=>match r with
 |4=>some fun σ=>{X:=Nat,sl:=fun i=>[(5,.dat .int (i:Int))],ob:=fun _=>[],inv:=fun i=>i<=(gd (.slice .int) σ 0).length/\∀j:Nat,j<i->nth (gd (.slice .int) σ 0) j=nth (gd (.slice .int) σ 1) j,mu:=fun i=>(gd (.slice .int) σ 0).length-i}
 |_=>none
def Gy:Prop:=∀(d:List Int×List Int×Unit),d.1.length<4611686018427387904->d.2.1.length<4611686018427387904->(decide ((d.1.length:Int)≠d.2.1.length)=true->(false,())=(decide (d.1=d.2.1),()))/\(decide ((d.1.length:Int)≠d.2.1.length)=false->(∃(x:Nat),((0=(x:Int)/\True)/\True)/\x<=d.1.length/\∀(j:Nat),j<x->nth d.1 j=nth d.2.1 j)/\∀(x:Nat),(x<=d.1.length/\∀(j:Nat),j<x->nth d.1 j=nth d.2.1 j)->d.1.length<4611686018427387904->(decide ((x:Int)<d.1.length)=true->0<=(x:Int)/\(x:Int)<d.1.length/\0<=(x:Int)/\(x:Int)<d.2.1.length/\(decide (nth d.1 x≠nth d.2.1 x)=true->(false,())=(decide (d.1=d.2.1),()))/\(decide (nth d.1 x≠nth d.2.1 x)=false->wl ((x:Int)+1)/\∃(a:Nat),(((x:Int)+1=(a:Int)/\True)/\True)/\(a<=d.1.length/\∀(j:Nat),j<a->nth d.1 j=nth d.2.1 j)/\d.1.length-a<d.1.length-x))/\(decide ((x:Int)<d.1.length)=false->(true,())=(decide (d.1=d.2.1),())))
def J1:w4:=⟨[],[tLg],false,fun _=>[],fun _=>(AI,())⟩
def J2:Prop:=∀(_:Unit),((jgz,[(0:Int),(1:Int),(0:Int)],[(30:Int),(0:Int),(45:Int)],((30:Int),(100:Int),(2:Int),(1200:Int),(90:Int),(50:Int),(2:Int),(150:Int),[(0:Int),(10:Int),(25:Int),(50:Int)],[((1000:Int),(0:Int),()),((60:Int),(50:Int),())],()),[((1:Int),(1:Int),(80:Int),()),((2:Int),(1:Int),(120:Int),())],()),())=(AI,())
def QN:w4:=⟨[],[.bool],false,fun _=>[],fun _=>(true,())⟩
abbrev jkp:=(qi (wq AI))
def QO:Prop:=∀(_:Unit),jkp.length<=100000/\jkp.length<=100000/\jkp.length<=100000/\jkp.length<=100000/\(decide (wU AI=0)&&decide (qk AI (qU AI (2:Int))=0)&&decide (qk AI (qU AI (0:Int)&&gB (0:Int))=0)&&decide (Nx AI (0:Int) (0:Int)=0)&&decide (Nt AI=[(940:Int),(100:Int)])&&decide (BQ AI (2:Int)=[(390:Int),(390:Int),(0:Int),(0:Int)])&&decide (GG AI (0:Int) (0:Int)=185)&&decide (Nw AI (0:Int) (0:Int)=(-940:Int)),())=(true,())
def E3:w4:=X7 [tLg,.int]
abbrev jk6:=(Ty.int.pair (Ty.int.pair Ty.unit))
abbrev jkq:=(Ty.int.pair jk6)
def E4:Prop:=∀(d:LgD×Int×Unit),Jk 1048576 [((Ty.int.pair ((Ty.int.slice.pair (Ty.int.pair (Ty.int.pair (Ty.int.slice.pair (Ty.bool.pair (Ty.int.pair Ty.unit)))))).slice.pair ((Ty.int.pair (Ty.int.pair (Ty.bool.pair Ty.unit))).slice.pair Ty.unit))).pair (jk6.slice.slice.pair (((Ty.int.pair (Ty.int.pair (Ty.int.pair jkq))).pair jkq).slice.pair (Ty.int.pair (Ty.int.pair ((Ty.int.pair (Ty.int.pair jkq)).slice.pair Ty.unit)))))).pair (Ty.int.slice.pair (Ty.int.slice.pair ((Ty.int.pair (Ty.int.pair (Ty.int.pair (Ty.int.pair (Ty.int.pair (Ty.int.pair (Ty.int.pair (Ty.int.pair (Ty.int.slice.pair (jk6.slice.pair Ty.unit)))))))))).pair (jkq.slice.pair Ty.unit)))),Ty.int] d->(Q2 d.1=true->(true,())=(true,()))/\(Q2 d.1=false->Kf d.1/\(qi (wq d.1)).length<=100000/\(wm (wq d.1)).length<=1000000/\(qi (wq d.1)).length<=100000/\(wm (wq d.1)).length<=1000000/\(decide (BQ d.1 d.2.1=iv d.1 d.2.1)&&decide (qk d.1 (qU d.1 d.2.1)=qk d.1 (qU d.1 d.2.1))&&decide (GI d.1=pA d.1)&&decide (GJ d.1=pB d.1)&&decide (GK d.1=pC d.1)&&decide (wU d.1=wU d.1)&&true,())=(true,()))
end Go.X
