/-
  Part 6 of the road: a checked reading of bodies, and what the functions on it do (X25 X26 C5 PC15 VD VM VB V1 PV1 VE0 VE1 VE2 V3 PV3 O7 V5 PV5 V6 PV6 VBO DQ MQ LQ AQ NQ VQ1 PQ1 PR1 VQ2 PQ2 PQ3 V4 PV4 V7 PV7 V8S V8 PV8 V9 PV9 VW1 PW1 PW4 VW2 PW2 VW3 PW3 LW).
-/
import Derived.Test.YtacjhnpgiklpdaaGreatDoorK05
import Derived.Test.YtacjhnpgiklpdaaGreatDoorRows
import Derived.WalkKit
import Derived.ProofKit
import Derived.OpenShut
import Derived.JoinedCond
import Derived.Carry
import Derived.ChangeArms
import Derived.Shelf.SlSortCmp.WholeK
import Derived.Test.YtacjhnpgiklpdaaGreatDoorProg
import Derived.Test.YtacjhnpgiklpdaaGreatDoorCards
import Derived.Test.YtacjhnpgiklpdaaGreatDoorTie
import Derived.Deep.DeepHandedRow
import Derived.Lib.LaidTab
namespace Go.X
open U
open Go.RowKit (Below)
open Go.Proofs.YtacjhnpgiklpdaaGreatDoor
def Hof (w:World):Imm:=fun b=>match w.heap[b]? with|some (.cells c _ _)=>some (.cells c)|_=>none
theorem Zz (w:World) (d:ja2 (Hof w)):fM (Hof w) w:=by
 refine⟨fun b c h=> ?_,d⟩;unfold Hof at h
 split at h
 rename_i f T a e;simp at h;subst h;exact⟨T,a,e⟩;cases h
def Ty.fits (N:Nat):(t:Ty)->t.Data->Prop
 | .int,x=>wm x
 | .bool,_=>True
 | .uint k,x=>k.min<=x/\x<=k.max
 | .slice t,l=>l.length<=N/\∀x∈l,t.fits N x
 | .unit,_=>True
 | .pair a b,d=>a.fits N d.1/\b.fits N d.2
 | .map k v,l=>l.length<=N/\∀x∈l,k.fits N x.1/\v.fits N x.2
 | .ptr t,d=>∀x,d=some x->t.fits N x
theorem Ty.fits_mono {N M:Nat} (h:N<=M):∀(t:Ty) (d:t.Data),t.fits N d->t.fits M d
 | .int,_,k=>k
 | .bool,_,k=>k
 | .uint _,_,k=>k
 | .unit,_,k=>k
 | .slice t,_,k=>⟨jE k.1 h,fun x c=>t.fits_mono h x (k.2 x c)⟩
 | .pair a b,_,k=>⟨a.fits_mono h _ k.1,b.fits_mono h _ k.2⟩
 | .map k v,_,q=>⟨jE q.1 h,fun x c=>⟨k.fits_mono h _ (q.2 x c).1,v.fits_mono h _ (q.2 x c).2⟩⟩
 | .ptr t,_,k=>fun x c=>t.fits_mono h x (k x c)
def jdJ (P:Program) (go:Nat->Ty->Bool):List Field->Nat->Ty->Bool
 |[],_,.unit=>true
 |f::fs,off,.pair a b=>Nat.beq f.offset off&&Nat.beq (P.cellsOf f.type) a.size&&go f.type a&&jdJ P go fs (off+a.size) b
 |_,_,_=>false
def jcd (P:Program):Nat->Nat->Ty->Bool
 |0,_,_=>false
 |d+1,T,ty=>match ty,P.underlying T with
  | .int,some (.int .i64)=>true
  | .bool,some .bool=>true
  | .uint k,some (.int k')=>io k k'
  | .slice t,some (.slice e)=>Nat.beq (P.cellsOf e) t.size&&Nat.ble 1 t.size&&jcd P d e t
  | .pair a b,some (.struct fs)=>Nat.beq (P.cellsOf T) (Ty.pair a b).size&&jdJ P (jcd P d) fs.toList 0 (.pair a b)
  |_,_=>false
section
variable {P:Program} {K:Type} {enc:TypeId×Value->K} {w:World}
theorem jdK (d:DataW K):1<=Rows.uptoBulk d:=by
 cases d with
 |lit l=>cases l<;>simp[Rows.uptoBulk]
 |_=>simp[Rows.uptoBulk]
theorem Ls (l:List (DataW K)):l.length<=Rows.uptoBulkAll l:=by
 induction l with
 |nil=>simp[Rows.uptoBulkAll]
 |cons x r a=>have:=jdK x;simp only[Rows.uptoBulkAll,j8];omega
theorem jce {d:DataW K} {l:List (DataW K)} (h:d∈l):Rows.uptoBulk d<=Rows.uptoBulkAll l:=by
 induction l with
 |nil=>cases h
 |cons x r a=>
  simp only[Rows.uptoBulkAll];cases jk.1 h with
  |inl e=>subst e;omega
  |inr e=>have:=a e;omega
theorem WY {α:Type} {Q:Nat->α->Prop}:∀(n:Nat),(∀i,i<n->∃y,Q i y)->∃l:List α,l.length=n/\∀i y,l[i]? =some y->Q i y
 |0,_=>⟨[],rfl,fun i y h=>by simp at h⟩
 |n+1,h=>by
  obtain⟨l,b,c⟩:=WY n (fun i hi=>h i (by omega))
  obtain⟨y,d⟩:=h n (by omega)
  refine⟨l++[y],by simp[b],fun i z a=> ?_⟩
  by_cases hi:i<l.length
  rw[jA hi] at a;exact c i z a
  rw[jx (by omega)] at a
  have:i=n:=by
   by_cases e:i-l.length=0;omega;obtain⟨k,hk⟩:∃k,i-l.length=k+1:=⟨i-l.length-1,by omega⟩;rw[hk] at a;simp at a
  subst this;rw[<-b] at a;simp at a;subst a;exact d
def jdL (P:Program) (w:World) (enc:TypeId×Value->K) (T:Nat) (ty:Ty):Prop:=
 ∀(a:Nat) (cs:List Value) (x:DataW K×List MemPlace),DataW.trod enc P w 0 (fun _=>true) true a T cs=some x->Rows.uptoBulk x.1<=1048576->
  ∃d:ty.Data,ty.rd (Hof w) (fun i=>cs[i]?) d/\cs.length=ty.size/\ty.fits (Rows.uptoBulk x.1) d
theorem jdM {n:Int} (h:(Lit.int .i64 n).wf=true):wm n:=by
 simp[Lit.wf,IntKind.min,IntKind.max,IntKind.signed,IntKind.bits] at h;exact h
theorem xF {go:Nat->Ty->Bool} (c:∀T ty,go T ty=true->jdL P w enc T ty) {n:Nat} {cs:List Value}:
 ∀(fs:List Field) (off:Nat) (ty:Ty) (xs:List (DataW K×List MemPlace)),jdJ P go fs off ty=true->xs.length=fs.length->
  (∀(i:Nat) (f:Field),fs[i]? =some f->DataW.trod enc P w 0 (fun _=>true) true n f.type ((cs.drop f.offset).take (P.cellsOf f.type))=xs[i]?)->Rows.uptoBulkAll (xs.map (·.1))<=1048576->
  ∃d:ty.Data,ty.rd (Hof w) (fun i=>cs[off+i]?) d/\ty.fits (Rows.uptoBulkAll (xs.map (·.1))) d
 |[],off,ty,xs,h,g,e,j=>by
  cases ty<;>simp[jdJ] at h
  exact⟨(),trivial,trivial⟩
 |f::fs,off,ty,[],h,g,e,j=>by simp at g
 |f::fs,off,ty,x::xs,h,g,e,j=>by
  cases ty<;>simp[jdJ] at h
  rename_i a b
  obtain⟨⟨⟨q,v⟩,r⟩,s⟩:=h
  simp only[zz,Rows.uptoBulkAll] at j
  have k:=e 0 f (by simp)
  simp only[List.getElem?_cons_zero] at k
  obtain⟨d,t,y,u⟩:=c _ _ r _ _ _ k (by omega)
  obtain⟨l,o,p⟩:=xF c fs (off+a.size) b xs s (by simpa using g) (fun i m hi=>by simpa using e (i+1) m (by simpa using hi)) (by omega)
  refine⟨(d,l),⟨?_,?_⟩,?_,?_⟩
  refine Ty.rd_congr a _ _ _ (fun i hi=> ?_) t
  rw[jQ (by omega),zh,q]
  refine Ty.rd_congr b _ _ _ (fun i hi=> ?_) o
  rw[zM]
  exact a.fits_mono (by simp[Rows.uptoBulkAll]) _ u
  exact b.fits_mono (by simp[Rows.uptoBulkAll]) _ p
theorem p4:∀(d T:Nat) (ty:Ty),jcd P d T ty=true->jdL P w enc T ty
 |0,_,_,h=>by cases h
 |d+1,T,ty,h=>by
  intro fuel cs x B r
  unfold jcd at h
  split at h
  rename_i u
  obtain⟨n,rfl,rfl,H⟩:=DataW.trod_int u B
  exact⟨n,rfl,rfl,jdM H⟩
  rename_i u
  obtain⟨b,rfl,rfl⟩:=DataW.trod_bool u B
  exact⟨b,rfl,rfl,trivial⟩
  rename_i k k' u
  obtain⟨n,rfl,rfl,H⟩:=DataW.trod_int u B
  have:k=k':=by simpa[io] using h
  subst this
  refine⟨n,rfl,rfl,?_⟩
  simp[Lit.wf] at H
  exact H
  rename_i t e u
  simp only[ji] at h
  obtain⟨⟨L,M⟩,h3⟩:=h
  have e1:=jb L
  have e2:=jy M
  rcases DataW.trod_slice u B with⟨rfl,rfl⟩|⟨a,len,J,cr,rest,n,_,rfl,rfl,hb,hl,hm,A,D,_,_⟩
  refine⟨[],⟨none,0,0,rfl,rfl,jj _,by simp,fun _=>rfl,fun h=>absurd rfl h⟩,rfl,by simp,fun x B=>by simp at B⟩
  simp only[Rows.uptoBulk] at r
  have key:∀i,i<len->∃y:t.Data,(∃blk,Hof w a.block=some (.cells blk)/\a.spot=none/\t.rd (Hof w) (fun j=>blk[a.off+i*t.size+j]?) y)/\t.fits (Rows.uptoBulkAll (cr.map (·.1))) y:=by
   intro i hi;have h0:=D i hi;have X:cr[i]? =some cr[i]:=ju (by omega);rw[X,Option.bind_eq_some_iff] at h0;obtain⟨cl,c1,c2⟩:=h0;have Q:Rows.uptoBulk cr[i].1<=Rows.uptoBulkAll (cr.map (·.1)):=jce (jV.2 ⟨cr[i],kP _,rfl⟩);obtain⟨y,y1,y2,y3⟩:=p4 d e t h3 _ _ _ c2 (by omega);unfold World.cells? at c1;rw[jg (jl _),e1] at c1;have z:∀j,j<t.size->w.cell? ((a.add (i*t.size)).add j)=cl[j]? :=fun j O=>by
    have:=mapM_some_get c1 j j (by simp[O]);simpa using this
   have N:cl.length=t.size:=(by simpa using mapM_some_length c1);have I:=z 0 (by omega);have g:cl[0]?≠none:=(by rw[ju (by omega)];simp);rw[<-I] at g;have m:∃blk T G,w.heap[a.block]? =some (.cells blk T G):=by
    unfold World.cell? at g;have q:((a.add (i*t.size)).add 0).block=a.block:=by unfold Addr.add;simp;split<;>rfl
    rw[q] at g
    split at g
    rename_i c T G e;exact⟨c,T,G,e⟩;exact absurd rfl g
   obtain⟨blk,T',G,m⟩:=m;have p:((a.add (i*t.size)).add 0).spot=none:=by
    unfold World.cell? at g;have q:((a.add (i*t.size)).add 0).block=a.block:=by unfold Addr.add;simp;split<;>rfl
    rw[q,m] at g;simp only at g;cases R:((a.add (i*t.size)).add 0).spot with
    |none=>rfl
    |some s=>rw[R] at g;simp at g
   have hH:Hof w a.block=some (.cells blk):=(by unfold Hof;rw[m]);refine⟨y,⟨blk,hH,?_,?_⟩,t.fits_mono Q _ y3⟩
   --the first element shows that the address is plain
   have C:=D 0 (by omega);have W:cr[0]? =some cr[0]:=ju (by omega);rw[W,Option.bind_eq_some_iff] at C;obtain⟨K,F,_⟩:=C;unfold World.cells? at F;rw[jg (jl _),e1] at F;have v:=mapM_some_get F 0 0 (by rw[kB (by omega)]);have hl0:K.length=t.size:=(by simpa using mapM_some_length F);rw[ju (by omega)] at v;simp only[kJ] at v;have ea:(a.add 0).add 0=a:=(by unfold Addr.add;simp);rw[ea] at v;unfold World.cell? at v;rw[m] at v;simp only at v;cases R:a.spot with
   |none=>rfl
   |some s=>rw[R] at v;simp at v
   refine Ty.rd_congr t _ _ _ (fun j O=> ?_) y1;rw[<-z j O];unfold World.cell?;have q:((a.add (i*t.size)).add j).block=a.block:=by unfold Addr.add;split<;>split<;>rfl
   have E:((a.add (i*t.size)).add j).off=a.off+i*t.size+j:=by
    unfold Addr.add;split<;>split<;>simp_all
   have V:((a.add (i*t.size)).add j).spot=none:=by
    have S:(a.add (i*t.size)).spot=none:=by
     have:(a.add (i*t.size)).add 0=a.add (i*t.size):=(by simp[Addr.add]);rw[this] at p;exact p
    unfold Addr.add at S⊢
    split<;>split<;>simp_all
   rw[q,m,E,V];simp
  obtain⟨l,l1,l2⟩:=WY len key;refine⟨l,⟨some a,len,J,rfl,l1.symm,hl,?_,(fun h=>by cases h),fun g=> ?_⟩,rfl,?_,?_⟩;have:=Ls (cr.map (·.1));simp at this;omega;have hz:0<l.length:=kT.2 g;obtain⟨blk,q1,q2,_⟩:=(l2 0 l[0] (ju hz)).1;refine⟨a.block,a.off,blk,?_,q1,fun i y Z=> ?_⟩;rcases a with⟨b,o,s⟩;simp only at q2;subst q2;rfl;obtain⟨blk',q3,_,q4⟩:=(l2 i y Z).1;rw[q1] at q3;simp at q3;subst q3;exact q4;simp only[Rows.uptoBulk];have:=Ls (cr.map (·.1));simp at this;omega;intro y Z;obtain⟨i,hi⟩:=zR Z;exact t.fits_mono (by simp only[Rows.uptoBulk];omega) _ (l2 i y hi).2;rename_i a b fs u;simp only[ji] at h;obtain⟨L,M⟩:=h;obtain⟨xs,n,_,rfl,A,Y,hf⟩:=DataW.trod_struct u B;simp only[Rows.uptoBulk] at r;obtain⟨y,y1,y2⟩:=xF (fun T ty h=>p4 d T ty h) (n:=n) (cs:=cs) fs.toList 0 (.pair a b) xs M (by simpa using Y) (fun i f hi=>hf i f (by simpa using hi)) (by omega);refine⟨y,by simpa using y1,by rw[A];exact jb L,?_⟩;exact Ty.fits_mono (by simp only[Rows.uptoBulk];omega) (.pair a b) _ y2;cases h
end
end Go.X
namespace Go.X
open U
open Go.RowKit (Below)
open Go.ChangeShapes Go.WideShapes Go.ChangeAt Go.RowKit
open Go.Proofs.YtacjhnpgiklpdaaGreatDoor
def Iq (N:Nat):(ts:List Ty)->PD (ts.map Par.val)->Prop
 |[],_=>True
 |t::ts,d=>t.fits N d.1/\Iq N ts d.2
def WZ (ts:List Ty):wQ:=⟨ts.map Par.val,[.bool],false,fun d=>[Iq 1048576 ts d],fun _=>(true,())⟩
def xG (P:Program):List Nat->List Ty->Bool
 |[],[]=>true
 |T::Ts,t::ts=>jcd P 20 T t&&(P.readableRec T&&decide (T<P.types.size))&&xG P Ts ts
 |_,_=>false
section
variable {P:Program} {K:Type} {enc:TypeId×Value->K} {W W':World}
theorem th (j:laidOutB P=true) (i:Below W.heap.size W W'):∀(a:List Nat) (ts:List Ty) (vs:List Value) (ds:List (DataW K)) (ps:List MemPlace),xG P a ts=true->
 DataW.TrodAll enc P W 0 (fun _=>true) true a vs ds ps->(∀x∈ps,x.block<W.heap.size)->DataW.TrodAll enc P W' 0 (fun b=>decide (b<W.heap.size)) true a vs ds ps
 |[],ts,vs,ds,ps,_,h,_=>by
  obtain⟨rfl,rfl,rfl⟩:=trodAll_nil h
  exact trodAll_mk0
 |T::a,[],vs,ds,ps,c,_,_=>by cases c
 |T::a,t::ts,vs,ds,ps,c,h,hlt=>by
  obtain⟨v,g,d,e,p,q,rfl,rfl,rfl,n,o⟩:=trodAll_cons h
  simp only[xG,ji] at c
  obtain⟨⟨_,k,l⟩,m⟩:=c
  exact trodAll_cons_mk (Below.trod j k (ja l) n i (fun x f=>hlt x (jh _ f)))
   (th j i a ts g e q m o (fun x f=>hlt x (je _ f)))
theorem jcf {T:Nat} {t:Ty} {r:Reach} {c:Nat} {v:Value} (h:jcd P 20 T t=true) (b:Value.okWide P W r c T v):yo v=t.agg:=by
 unfold jcd at h
 split at h
 rename_i a;obtain⟨n,rfl⟩:=okWide_int a b;rfl;rename_i a;obtain⟨n,rfl⟩:=okWide_bool a b;rfl;rename_i a;obtain⟨n,rfl⟩:=okWide_int a b;rfl;rename_i a;unfold Value.okWide at b;rw[a] at b;simp only[Cell.okWide,a] at b;cases v with
 |agg vs=>simp[Cell.ok,a] at b
 |_=>rfl
 rename_i a;unfold Value.okWide at b;rw[a] at b;obtain⟨cs,rfl,_⟩:=b;rfl;cases h
theorem jaF {r:Reach} {l:Nat}:∀(a:List Nat) (ts:List Ty) (vs:List Value) (ds:List (DataW K)) (ps:List MemPlace),xG P a ts=true->
 DataW.TrodAll enc P W 0 (fun _=>true) true a vs ds ps->(∀(j:Nat) t v,a[j]? =some t->vs[j]? =some v->Value.okWide P W r l t v)->Rows.uptoBulkAll ds<=1048576->
 ∃d:PD (ts.map Par.val),pvs P (Hof W) (ts.map Par.val) vs d/\Iq 1048576 ts d
 |[],ts,vs,ds,ps,b,h,_,_=>by
  obtain⟨rfl,rfl,rfl⟩:=trodAll_nil h
  cases ts with
  |nil=>exact⟨(),rfl,trivial⟩
  |cons t ts=>cases b
 |T::a,[],vs,ds,ps,b,_,_,_=>by cases b
 |T::a,t::ts,vs,ds,ps,b,h,hv,hb=>by
  obtain⟨v,g,d,e,p,q,rfl,rfl,rfl,n,o⟩:=trodAll_cons h
  simp only[xG,ji] at b
  obtain⟨⟨k,_⟩,m⟩:=b
  simp only[Rows.uptoBulkAll] at hb
  obtain⟨c,s⟩:=n
  obtain⟨x,w,z,A⟩:=p4 20 T t k c _ _ s (by simp only;omega)
  obtain⟨y,B,C⟩:=jaF a ts g e q m o (fun j t v u f=>hv (j+1) t v (by simpa using u) (by simpa using f)) (by omega)
  refine⟨(x,y),⟨⟨jcf k (hv 0 T v rfl rfl),by simpa using z,?_⟩,B⟩,Ty.fits_mono (by simp only;omega) t x A,C⟩
  refine Ty.rd_congr t _ _ _ (fun i _=> ?_) w
  simp
theorem p6:∀(a:List Nat) (ts:List Ty) (vs:List Value) (ds:List (DataW K)) (ps:List MemPlace),xG P a ts=true->DataW.TrodAll enc P W 0 (fun _=>true) true a vs ds ps->ds.length=ts.length:=by
 intro a
 induction a with
 |nil=>intro ts vs ds ps b h;obtain⟨rfl,rfl,rfl⟩:=trodAll_nil h;cases ts with|nil=>rfl|cons=>cases b
 |cons T a g=>intro ts vs ds ps b h;cases ts with
  |nil=>cases b
  |cons t ts=>
   obtain⟨v,e,d,c,p,q,rfl,rfl,rfl,i,f⟩:=trodAll_cons h;simp only[xG,ji] at b;simp[g ts e c q b.2 f]
theorem jaG {f:Nat} {fn:Func} {s:ChangeSpec} {ts:List Ty} (I:laidOutB P=true) (k:xG P fn.params.toList ts=true) (L:fn.resultTypes= #[4]) (D:P.underlying 4=some .bool)
 (a:s.vars=[]) (m:∀(ds:List (DataW K)),ds.length=ts.length->s.fn K (ds++[])={results:=[.lit (.bool true)],args:=ds})
 (G:wV P f (WZ ts)) (base:Nat) (args:Array Value) (ds o:List (DataW K)) (before:List MemPlace)
 (l:∀(j:Nat) t v,fn.params[j]? =some t->args[j]? =some v->Value.okWide P W .any base t v)
 (w:DataW.Whole enc P fn.params.toList s.vars false W args.toList ds o before) (hk:Rows.uptoSmall K (ds++o)=true) (E:ja2 (Hof W)):
 Calls P f args W fun e W'=>∃v,e= .returned v/\s.post enc P fn false true false false W args v W':=by
 have b:=w;obtain⟨p,q,i,u,rfl,H,J⟩:=w;rw[a] at u;obtain⟨rfl,rfl⟩:=trodVars_none u;simp only[jZ] at b hk;have c:Rows.uptoBulkAll ds<=1048576:=ja hk;have g:∀(j:Nat) t v,fn.params.toList[j]? =some t->args.toList[j]? =some v->Value.okWide P W .any base t v:=fun j t v B C=>l j t v (by simpa using B) (by simpa using C)
 obtain⟨d,z,A⟩:=jaF fn.params.toList ts args.toList ds p k i g c;have y:=G.calls (Hof W) W args.toList d (Zz W E) z ⟨A,trivial⟩;simp only[Array.toArray_toList] at y;refine y.mono fun e W' F=> ?_
 obtain⟨v,H',rfl,r,M⟩:=F;have n:v= .bool true:=vf M;subst n;refine⟨_,rfl,ds,[],p,[],p,[],b,?_,?_,?_,r.below.frame _,fun h=>by cases h⟩;rw[m ds ?_,L];exact trodAll_cons_mk (shut_bool D _) trodAll_mk0;exact p6 _ _ _ _ _ k i;rw[m ds ?_];exact th I r.below _ ts _ _ _ k i (fun x N=>by simpa using b.lt x N);exact p6 _ _ _ _ _ k i;rw[a,m ds ?_];rfl;exact p6 _ _ _ _ _ k i
end
end Go.X
namespace Go.X
open U
open Go.Proofs
namespace U
def jeS (p:PeD):Prop:=(lv p).length<=20/\(q9 p).length<=30
def I8 (c:CrD):Prop:=(wi c).length<=20/\(yR c).length<=20/\∀p∈wi c,jeS p
def Es (d:DyD):Prop:=I8 (wq d)/\(w6 d).length<=20/\(wo d).length<=20/\(w7 d).length<=60/\∀r∈w6 d,r.length<=20
def Mf (p:PeD):Bool:=decide (20<((lv p).length:Int))||decide (30<((q9 p).length:Int))
def lK (c:CrD):Bool:=(decide (20<((wi c).length:Int))||decide (20<((yR c).length:Int)))||((wi c).any Mf||(wt c&&decide (5<((wi c).length:Int))))
def Mg (r:List SpD):Bool:=decide (20<(r.length:Int))
def cP (d:DyD):Bool:=(((lK (wq d)||decide (20<((w6 d).length:Int)))||decide (20<((wo d).length:Int)))||decide (60<((w7 d).length:Int)))||(w6 d).any Mg
def I9 (d:DyD):Bool:=cP d||(decide (aj d=0)&&decide (12<((w7 d).length:Int)))
def jfb:CrD:=(3,[([5,4,0],3,15,[],false,50,()),([0,5,3],3,15,[],true,40,()),([4,0,4],1,3,[7],false,30,()),([3,3,3],255,1,[],false,10,())],[(2,1,false,()),(4,2,false,()),(3,2,true,()),(5,1,false,())],())
def X7:List JbD:=[(0,2,7,1,2,1,()),(0,2,3,0,0,1,()),(0,2,7,1,1,1,())]
def jfc:DyD:=(jfb,[[(0,0,()),(10,20,())],[(10,25,()),(0,0,())]],[((0,2,3,0,0,1,()),0,60,120,()),((0,2,3,1,0,1,()),1,150,200,()),((0,2,7,1,2,1,()),0,230,300,())],10,140,
 [(1,5,1,0,3,()),(2,6,1,1,3,()),(3,4,1,2,2,()),(4,7,1,2,0,()),(5,8,1,2,1,()),(6,9,1,0,2,()),(7,10,2,0,2,())],())
end U
def S7:wQ:=⟨[.val tCr],[tCr],false,fun d=>[I8 d.1],fun d=>(d.1,())⟩
def S8:Ann:=fun r=>match r with
 |3=>some fun σ=>{X:=Nat,sl:=fun i=>[(4,.dat .int (i:Int))],ob:=fun i=>[(3,some (.box 25 false ((bx σ 3).set 1 (.own (fT 3 1) tPe)))),(fT 3 1,some (.row 136 tPe false .yes ((wi (gb tCr σ 1)).take i)))],inv:=fun i=>i<=(wi (gb tCr σ 1)).length,mu:=fun i=>(wi (gb tCr σ 1)).length-i}
 |_=>none
abbrev jf4 (d:CrD×Unit)(x:Nat):=(nth d.1.2.1 (x:Int).toNat)
def S9:Prop:=∀(d:CrD×Unit),I8 d.1->(0+d.1.2.2.1.length)*24<=140737488355328/\(∃(x:Nat),((0=(x:Int)/\True)/\(d.1.1=d.1.1/\True/\True/\True)/\List.take x (wi d.1)=[]/\True)/\x<=(wi d.1).length)/\∀(x:Nat),x<=(wi d.1).length->d.1.2.1.length<4611686018427387904->(decide ((x:Int)<d.1.2.1.length)=true->0<=(x:Int)/\(x:Int)<d.1.2.1.length/\(0+(jf4 d x).1.length)*8<=140737488355328/\(0+(jf4 d x).2.2.2.1.length)*8<=140737488355328/\((List.take x (wi d.1)).length+[([]++(jf4 d x).1,(jf4 d x).2.1,(jf4 d x).2.2.1,[]++(jf4 d x).2.2.2.1,(jf4 d x).q4)].length)*80<=140737488355328/\wm ((x:Int)+1)/\∃(a:Nat),(((x:Int)+1=(a:Int)/\True)/\(d.1.1=d.1.1/\True/\True/\True)/\List.take x (wi d.1)++[([]++(jf4 d x).1,(jf4 d x).2.1,(jf4 d x).2.2.1,[]++(jf4 d x).2.2.2.1,(jf4 d x).q4)]=List.take a (wi d.1)/\True)/\a<=(wi d.1).length/\(wi d.1).length-a<(wi d.1).length-x)/\(decide ((x:Int)<d.1.2.1.length)=false->((d.1.1,List.take x (wi d.1),[]++d.1.2.2.1,()),())=d)
def Ta:wQ:=⟨[.val tDy],[tDy],false,fun d=>[Es d.1],fun d=>(d.1,())⟩
def Tb:Ann:=fun r=>match r with
 |5=>some fun σ=>{X:=Nat,sl:=fun i=>[(4,.dat .int (i:Int))],ob:=fun i=>[(3,some (.box 30 false ((bx σ 3).set 3 (.own (fT 3 3) (.slice tSp))))),(fT 3 3,some (.row 107 (.slice tSp) false .yes ((w6 (gb tDy σ 1)).take i)))],inv:=fun i=>i<=(w6 (gb tDy σ 1)).length,mu:=fun i=>(w6 (gb tDy σ 1)).length-i}
 |_=>none
abbrev jjY (d:DyD×Unit):=(d.1.1.1=d.1.1.1/\d.1.1.2.1=d.1.1.2.1/\d.1.1.2.2.1=d.1.1.2.2.1/\True/\d.1.2.2.1=d.1.2.2.1/\d.1.2.2.2.1=d.1.2.2.2.1/\d.1.q4.1=d.1.q4.1/\d.1.q4.2.1=d.1.q4.2.1/\True)
def Tc:Prop:=∀(d:DyD×Unit),Es d.1->I8 d.1.1/\(∃(x:Nat),((0=(x:Int)/\True)/\(jjY d)/\List.take x (w6 d.1)=[]/\True)/\x<=(w6 d.1).length)/\∀(x:Nat),x<=(w6 d.1).length->d.1.2.1.length<4611686018427387904->(decide ((x:Int)<d.1.2.1.length)=true->0<=(x:Int)/\(x:Int)<d.1.2.1.length/\(0+(nth d.1.2.1 (x:Int).toNat).length)*16<=140737488355328/\((List.take x (w6 d.1)).length+[[]++nth d.1.2.1 (x:Int).toNat].length)*24<=140737488355328/\wm ((x:Int)+1)/\∃(a:Nat),(((x:Int)+1=(a:Int)/\True)/\(jjY d)/\List.take x (w6 d.1)++[[]++nth d.1.2.1 (x:Int).toNat]=List.take a (w6 d.1)/\True)/\a<=(w6 d.1).length/\(w6 d.1).length-a<(w6 d.1).length-x)/\(decide ((x:Int)<d.1.2.1.length)=false->(0+d.1.2.2.1.length)*72<=140737488355328/\(0+d.1.q4.2.1.length)*40<=140737488355328/\((d.1.1,List.take x (w6 d.1),[]++d.1.2.2.1,d.1.2.2.2.1,d.1.q4.1,[]++d.1.q4.2.1,()),())=d)
def W0:wQ:=⟨[.val tCr],[.bool],false,fun _=>[],fun d=>(lK d.1,())⟩
def W2:Ann:=fun r=>match r with
 |4=>some fun σ=>{X:=Nat,sl:=fun i=>[(3,.dat .int (i:Int))],ob:=fun _=>[],inv:=fun i=>i<=(wi (gb tCr σ 1)).length/\∀j:Nat,j<i->Mf (nth (wi (gb tCr σ 1)) j)=false,mu:=fun i=>(wi (gb tCr σ 1)).length-i}
 |_=>none
abbrev jiv (d:CrD×Unit)(x:Nat):=((20:Int)<(nth d.1.2.1 (x:Int).toNat).1.length)
abbrev jg2 (d:CrD×Unit):=(d.1.2.1.length:Int)
abbrev jjZ (d:CrD×Unit)(x:Nat):=(decide (jiv d x)||decide ((30:Int)<(nth d.1.2.1 (x:Int).toNat).2.2.2.1.length))
abbrev jj0 (d:CrD×Unit):=(decide (20<(jg2 d))||decide (20<(d.1.2.2.1.length:Int)))
def W3:Prop:=∀(d:CrD×Unit),d.1.2.1.length<4611686018427387904->((!decide (20<(jg2 d)))=true->d.1.2.2.1.length<4611686018427387904)->((jj0 d)=true->(true,())=(lK d.1,()))/\((jj0 d)=false->(∃(x:Nat),((0=(x:Int)/\True)/\True)/\x<=(wi d.1).length/\∀(j:Nat),j<x->Mf (nth (wi d.1) j)=false)/\∀(x:Nat),(x<=(wi d.1).length/\∀(j:Nat),j<x->Mf (nth (wi d.1) j)=false)->d.1.2.1.length<4611686018427387904->(decide ((x:Int)<(jg2 d))=true->0<=(x:Int)/\(x:Int)<(jg2 d)/\((nth d.1.2.1 (x:Int).toNat).1.length<4611686018427387904->((!decide (jiv d x))=true->0<=(x:Int))/\((!decide (jiv d x))=true->(x:Int)<(jg2 d))/\(((!decide (jiv d x))=true->(nth d.1.2.1 (x:Int).toNat).2.2.2.1.length<4611686018427387904)->((jjZ d x)=true->(true,())=(lK d.1,()))/\((jjZ d x)=false->wm ((x:Int)+1)/\∃(a:Nat),(((x:Int)+1=(a:Int)/\True)/\True)/\(a<=(wi d.1).length/\∀(j:Nat),j<a->Mf (nth (wi d.1) j)=false)/\(wi d.1).length-a<(wi d.1).length-x))))/\(decide ((x:Int)<(jg2 d))=false->(wt d.1=true->d.1.2.1.length<4611686018427387904)->(wt d.1&&decide (5<(jg2 d)),())=(lK d.1,())))
def Td:wQ:=⟨[.val tDy],[.bool],false,fun _=>[],fun d=>(cP d.1,())⟩
def Te:Ann:=fun r=>match r with
 |4=>some fun σ=>{X:=Nat,sl:=fun i=>[(3,.dat .int (i:Int))],ob:=fun _=>[],inv:=fun i=>i<=(w6 (gb tDy σ 1)).length/\∀j:Nat,j<i->Mg (nth (w6 (gb tDy σ 1)) j)=false,mu:=fun i=>(w6 (gb tDy σ 1)).length-i}
 |_=>none
abbrev jhr (d:DyD×Unit):=(d.1.2.1.length:Int)
abbrev jj1 (d:DyD×Unit):=(lK d.1.1||decide (20<(jhr d))||decide (20<(d.1.2.2.1.length:Int))||decide (60<(d.1.q4.2.1.length:Int)))
def Tf:Prop:=∀(d:DyD×Unit),((!lK d.1.1)=true->d.1.2.1.length<4611686018427387904)->((!(lK d.1.1||decide (20<(jhr d))))=true->d.1.2.2.1.length<4611686018427387904)->((!(lK d.1.1||decide (20<(jhr d))||decide (20<(d.1.2.2.1.length:Int))))=true->d.1.q4.2.1.length<4611686018427387904)->((jj1 d)=true->(true,())=(cP d.1,()))/\((jj1 d)=false->(∃(x:Nat),((0=(x:Int)/\True)/\True)/\x<=(w6 d.1).length/\∀(j:Nat),j<x->Mg (nth (w6 d.1) j)=false)/\∀(x:Nat),(x<=(w6 d.1).length/\∀(j:Nat),j<x->Mg (nth (w6 d.1) j)=false)->d.1.2.1.length<4611686018427387904->(decide ((x:Int)<(jhr d))=true->0<=(x:Int)/\(x:Int)<(jhr d)/\((nth d.1.2.1 (x:Int).toNat).length<4611686018427387904->(decide ((20:Int)<(nth d.1.2.1 (x:Int).toNat).length)=true->(true,())=(cP d.1,()))/\(decide ((20:Int)<(nth d.1.2.1 (x:Int).toNat).length)=false->wm ((x:Int)+1)/\∃(a:Nat),(((x:Int)+1=(a:Int)/\True)/\True)/\(a<=(w6 d.1).length/\∀(j:Nat),j<a->Mg (nth (w6 d.1) j)=false)/\(w6 d.1).length-a<(w6 d.1).length-x)))/\(decide ((x:Int)<(jhr d))=false->(false,())=(cP d.1,())))
def W4:wQ:=⟨[.val tDy],[.bool],false,fun _=>[],fun d=>(I9 d.1,())⟩
def W5:Prop:=∀(d:DyD×Unit),((!cP d.1)=true->(wo d.1).length<=1000000)/\(((!cP d.1&&decide (aj d.1=0))=true->d.1.q4.2.1.length<4611686018427387904)->(cP d.1||decide (aj d.1=0)&&decide (12<(d.1.q4.2.1.length:Int)),())=(I9 d.1,()))
def Tg:wQ:=⟨[.val .int,.val .int],[tSp],false,fun _=>[],fun d=>((d.1,d.2.1,()),())⟩
def Th:Prop:=∀(d:Int×Int×Unit),(d,())=(d,())
def Ir:wQ:=⟨[],[tCr,.slice tJb],false,fun _=>[],fun _=>(jfb,X7,())⟩
def Is:Prop:=∀(_:Unit),(((3:Int),[([(5:Int),(4:Int),(0:Int)],(3:Int),(15:Int),[],false,(50:Int),()),([(0:Int),(5:Int),(3:Int)],(3:Int),(15:Int),[],true,(40:Int),()),([(4:Int),(0:Int),(4:Int)],(1:Int),(3:Int),[(7:Int)],false,(30:Int),()),([(3:Int),(3:Int),(3:Int)],(255:Int),(1:Int),[],false,(10:Int),())],[((2:Int),(1:Int),false,()),((4:Int),(2:Int),false,()),((3:Int),(2:Int),true,()),((5:Int),(1:Int),false,())],()),[((0:Int),(2:Int),(7:Int),(1:Int),(2:Int),(1:Int),()),((0:Int),(2:Int),(3:Int),(0:Int),(0:Int),(1:Int),()),((0:Int),(2:Int),(7:Int),(1:Int),(1:Int),(1:Int),())],())=(jfb,X7,())
def It:wQ:=⟨[],[tDy],false,fun _=>[],fun _=>(jfc,())⟩
abbrev jiw:=(nth X7 (Int.toNat 1))
def Iu:Prop:=∀(_:Unit),(0:Int)<=1/\1<(X7.length:Int)/\(0:Int)<=1/\1<(X7.length:Int)/\(0:Int)<=0/\0<(X7.length:Int)/\((jfb,[[((0:Int),(0:Int),()),((10:Int),(20:Int),())],[((10:Int),(25:Int),()),((0:Int),(0:Int),())]],[(nth X7 (Int.toNat 1),(0:Int),(60:Int),(120:Int),()),((jiw.1,jiw.2.1,jiw.2.2.1,(1:Int),jiw.q4),(1:Int),(150:Int),(200:Int),()),(nth X7 (Int.toNat 0),(0:Int),(230:Int),(300:Int),())],(10:Int),(140:Int),[((1:Int),(5:Int),(1:Int),(0:Int),(3:Int),()),((2:Int),(6:Int),(1:Int),(1:Int),(3:Int),()),((3:Int),(4:Int),(1:Int),(2:Int),(2:Int),()),((4:Int),(7:Int),(1:Int),(2:Int),(0:Int),()),((5:Int),(8:Int),(1:Int),(2:Int),(1:Int),()),((6:Int),(9:Int),(1:Int),(0:Int),(2:Int),()),((7:Int),(10:Int),(2:Int),(0:Int),(2:Int),())],()),())=(jfc,())
theorem W6:S9:=by
 unfold S9 jf4 Prod.q4;rintro⟨c,⟨⟩⟩ g;obtain⟨m,j,a⟩:I8 c:=g;refine⟨by show(0+(yR c).length)*24<=140737488355328;omega,⟨0,⟨⟨rfl,tZ⟩,⟨rfl,tZ,tZ,tZ⟩,rfl,tZ⟩,jl _⟩,fun x f _=>⟨fun h=> ?_,fun h=> ?_⟩⟩;have h:(x:Int)<(wi c).length:=ja h;have k:=L.wO (l:=wi c) (i:=x) (by omega);obtain⟨s1,s2⟩:=a _ (L.wh (l:=wi c) (i:=x) (by omega));have d:((wi c).take x).length<=20:=(by rw[j6];omega);refine⟨jX _,h,by show(0+(U.lv (nth (wi c) x)).length)*8<=140737488355328;omega,by show(0+(q9 (nth (wi c) x)).length)*8<=140737488355328;omega,by show(((wi c).take x).length+1)*80<=140737488355328;omega,iZ6,x+1,⟨⟨by simp,tZ⟩,⟨rfl,tZ,tZ,tZ⟩,k.symm,tZ⟩,by show x+1<=(wi c).length;omega,by show(wi c).length-(x+1)<(wi c).length-x;omega⟩;have h:¬(x:Int)<(wi c).length:=jc h;have f:x<=(wi c).length:=f;have b:x=(wi c).length:=(by omega);subst b;have e:(wi c).take (wi c).length=wi c:=zH;show((c.1,(wi c).take (wi c).length,c.2.2.1,()),())=(c,());rw[e];rfl
theorem Ti:wV PR 65 S7:=qY S8 W6 Tryz.func65 kcN koN
theorem W7:Tc:=by
 unfold Tc jjY Prod.q4;rintro⟨d,⟨⟩⟩ g;obtain⟨k,o,j,n,a⟩:Es d:=g;refine⟨k,⟨0,⟨⟨rfl,tZ⟩,⟨rfl,rfl,rfl,tZ,rfl,rfl,rfl,rfl,tZ⟩,rfl,tZ⟩,jl _⟩,fun x f _=>⟨fun h=> ?_,fun h=> ?_⟩⟩;have h:(x:Int)<(w6 d).length:=ja h;have m:=L.wO (l:=w6 d) (i:=x) (by omega);have p:=a _ (L.wh (l:=w6 d) (i:=x) (by omega));have c:((w6 d).take x).length<=20:=(by rw[j6];omega);refine⟨jX _,h,by show(0+(nth (w6 d) x).length)*16<=140737488355328;omega,by show(((w6 d).take x).length+1)*24<=140737488355328;omega,iZ6,x+1,⟨⟨by simp,tZ⟩,⟨rfl,rfl,rfl,tZ,rfl,rfl,rfl,rfl,tZ⟩,m.symm,tZ⟩,by show x+1<=(w6 d).length;omega,by show(w6 d).length-(x+1)<(w6 d).length-x;omega⟩;have h:¬(x:Int)<(w6 d).length:=jc h;have f:x<=(w6 d).length:=f;have b:x=(w6 d).length:=(by omega);subst b;have e:(w6 d).take (w6 d).length=w6 d:=zH;refine⟨by show(0+(wo d).length)*72<=140737488355328;omega,by show(0+(w7 d).length)*40<=140737488355328;omega,?_⟩;show((wq d,(w6 d).take (w6 d).length,wo d,A0 d,Z5 d,w7 d,()),())=(d,());rw[e];rfl
theorem Tj:wV PR 33 Ta:=qY Tb W7 Tryz.func33 (kcC Ti kcN) koN
theorem ZA:W3:=by
 unfold W3 jj0 jjZ jg2 jiv;rintro⟨c,⟨⟩⟩ _ _;refine⟨fun h=> ?_,fun h=>⟨⟨0,⟨⟨rfl,tZ⟩,tZ⟩,jl _,fun j g=>by omega⟩,fun x f d=>⟨fun a=>⟨jX _,ja a,fun _=>⟨fun _=>jX _,fun _=>ja a,fun _=>⟨fun b=> ?_,fun b=> ?_⟩⟩⟩,fun a _=> ?_⟩⟩⟩;have h:(decide (20<((wi c).length:Int))||decide (20<((yR c).length:Int)))=true:=h;show(true,())=(lK c,());unfold lK;rw[h];rfl;have b:Mf (nth (wi c) x)=true:=b;have a:(x:Int)<(wi c).length:=ja a;have:(wi c).any Mf=true:=za.2 ⟨_,L.wh (l:=wi c) (i:=x) (by omega),b⟩;show(true,())=(lK c,());unfold lK;rw[this,Bool.true_or,Bool.or_true];have b:Mf (nth (wi c) x)=false:=b;have a:(x:Int)<(wi c).length:=ja a;have d:(wi c).length<4611686018427387904:=d;refine⟨iZ6,x+1,⟨⟨by simp,tZ⟩,tZ⟩,⟨by show x+1<=(wi c).length;omega,fun j g=> ?_⟩,by show(wi c).length-(x+1)<(wi c).length-x;omega⟩;by_cases e:j=x;subst e;exact b;exact f.2 j (by omega);have h:(decide (20<((wi c).length:Int))||decide (20<((yR c).length:Int)))=false:=h;have a:¬(x:Int)<(wi c).length:=jc a;have:(wi c).any Mf=false:=zi.2 fun p k=>by
  obtain⟨i,hi,rfl⟩:=L.mem_iff.1 k;rw[f.2 i (by omega)];simp
 show(wt c&&decide (5<((wi c).length:Int)),())=(lK c,());unfold lK;rw[h,this,Bool.false_or,Bool.false_or]
theorem W8:wV PR 102 W0:=qY W2 ZA Tryz.func102 (kcC xE kcN) koN
theorem W9:Tf:=by
 unfold Tf jj1 jhr Prod.q4;rintro⟨d,⟨⟩⟩ _ _ _;refine⟨fun h=> ?_,fun h=>⟨⟨0,⟨⟨rfl,tZ⟩,tZ⟩,jl _,fun j g=>by omega⟩,fun x f c=>⟨fun a=>⟨jX _,ja a,fun _=>⟨fun b=> ?_,fun b=> ?_⟩⟩,fun a=> ?_⟩⟩⟩;have h:(((lK (wq d)||decide (20<((w6 d).length:Int)))||decide (20<((wo d).length:Int)))||decide (60<((w7 d).length:Int)))=true:=h;show(true,())=(cP d,());unfold cP;rw[h];rfl;have b:Mg (nth (w6 d) x)=true:=b;have a:(x:Int)<(w6 d).length:=ja a;have:(w6 d).any Mg=true:=za.2 ⟨_,L.wh (l:=w6 d) (i:=x) (by omega),b⟩;show(true,())=(cP d,());unfold cP;rw[this,Bool.or_true];have b:Mg (nth (w6 d) x)=false:=b;have a:(x:Int)<(w6 d).length:=ja a;have c:(w6 d).length<4611686018427387904:=c;refine⟨iZ6,x+1,⟨⟨by simp,tZ⟩,tZ⟩,⟨by show x+1<=(w6 d).length;omega,fun j g=> ?_⟩,by show(w6 d).length-(x+1)<(w6 d).length-x;omega⟩;by_cases e:j=x;subst e;exact b;exact f.2 j (by omega);have h:(((lK (wq d)||decide (20<((w6 d).length:Int)))||decide (20<((wo d).length:Int)))||decide (60<((w7 d).length:Int)))=false:=h;have a:¬(x:Int)<(w6 d).length:=jc a;have:(w6 d).any Mg=false:=zi.2 fun p k=>by
  obtain⟨i,hi,rfl⟩:=L.mem_iff.1 k;rw[f.2 i (by omega)];simp
 show(false,())=(cP d,());unfold cP;rw[h,this];rfl
theorem Tk:wV PR 63 Td:=qY Te W9 Tryz.func63 (kcC W8 kcN) koN
theorem Xa {c:CrD} (h:lK c=false):I8 c:=by
 unfold lK at h;rw[jR,jR,jR,jH] at h;have b:=jc h.1.2;refine⟨by have:=h.1.1;omega,by omega,fun p a=> ?_⟩;have:=zi.1 h.2.1 p a;unfold Mf at this;rw[zq,decide_eq_true_iff,decide_eq_true_iff] at this;unfold jeS;omega
theorem GP {d:DyD} (h:cP d=false):Es d:=by
 unfold cP at h;rw[jR,jR,jR,jR] at h;obtain⟨⟨⟨⟨e,a⟩,b⟩,c⟩,f⟩:=h;have a:=jc a;have b:=jc b;have c:=jc c;refine⟨Xa e,by omega,by omega,by omega,fun r g=> ?_⟩;have:=zi.1 f r g;unfold Mg at this;rw[decide_eq_true_iff] at this;omega
theorem ZB:W5:=by
 unfold W5 Prod.q4;rintro⟨d,⟨⟩⟩;refine⟨fun h=> ?_,fun _=>rfl⟩;have h:(!cP d)=true:=h;rw[jS] at h;have:=(GP h).2.2.1;show(wo d).length<=1000000;omega
theorem Xb:wV PR 31 W4:=wK ZB Tryz.func31 (kcC Tk (kcC pZ kcN)) koN
theorem Xc:Th:=fun _=>rfl
theorem Tl:wV PR 104 Tg:=wK Xc Tryz.func104 kcN koN
theorem Lt:Is:=fun _=>rfl
theorem Iv:wV PR 103 Ir:=wK Lt Tryz.func103 kcN koN
theorem Lu:Iu:=by
 unfold Iu jiw Prod.q4;intro _;refine⟨by decide,by decide,by decide,by decide,by decide,by decide,rfl⟩
theorem Iw:wV PR 64 It:=wK Lu Tryz.func64 (kcC Iv (kcC Tl kcN)) koN
theorem ZC {d:DyD} (h:I9 d=false):Es d:=by
 unfold I9 at h;rw[jR] at h;exact GP h.1
abbrev tNo:Ty:= .st [.int,.int]
abbrev tTa:Ty:= .st [.int,.int,.int,.int,.int,.int,.int,.int,.slice .int,.slice tNo]
abbrev tCa:Ty:= .st [.int,.int,.int]
abbrev tLg:Ty:= .st [tDy,.slice .int,.slice .int,tTa,.slice tCa]
abbrev tLn:Ty:= .st [.int,.int,.int,.int,.int,.int]
abbrev tBl:Ty:= .st [tBk,tTa,.int,.int,.slice .int,.int,.int,.bool,.int]
abbrev tBo:Ty:= .st [tLg,.map .int (.ptr tBl)]
abbrev NoD:Type:=Int×Int×Unit
abbrev TaD:Type:=Int×Int×Int×Int×Int×Int×Int×Int×List Int×List NoD×Unit
abbrev CaD:Type:=Int×Int×Int×Unit
abbrev LgD:Type:=DyD×List Int×List Int×TaD×List CaD×Unit
abbrev LnD:Type:=Int×Int×Int×Int×Int×Int×Unit
abbrev BlD:Type:=BkD×TaD×Int×Int×List Int×Int×Int×Bool×Int×Unit
abbrev XbD:Type:=Int×Int×Int×Int×Int×Int×Int×Int×Int×Int×Int×Int×Int×Int×Int×Int×Int×List Int×List (Int×Int×Unit)×Int×Int×List Int×Int×Int×Bool×Int×Unit
abbrev BoD:Type:=LgD×List (Int×Option BlD)×Unit
namespace U
def X8 (n:NoD):Int:=n.1
def X9 (n:NoD):Int:=n.2.1
def PL (t:TaD):Int:=t.1
def Ya (t:TaD):Int:=t.2.1
def jcH (t:TaD):Int:=t.2.2.1
def Z7 (t:TaD):Int:=t.2.2.2.1
def jcI (t:TaD):Int:=t.2.2.2.2.1
def FO (t:TaD):Int:=t.2.2.2.2.2.1
def Mh (t:TaD):Int:=t.2.2.2.2.2.2.1
def Mi (t:TaD):Int:=t.2.2.2.2.2.2.2.1
def aM (t:TaD):List Int:=t.2.2.2.2.2.2.2.2.1
def aa (t:TaD):List NoD:=t.2.2.2.2.2.2.2.2.2.1
def Up (c:CaD):Int:=c.1
def jcJ (c:CaD):Int:=c.2.1
def PM (c:CaD):Int:=c.2.2.1
def wv (l:LgD):DyD:=l.1
def qU (l:LgD):List Int:=l.2.1
def nL (l:LgD):List Int:=l.2.2.1
def ve (l:LgD):TaD:=l.2.2.2.1
def w9 (l:LgD):List CaD:=l.2.2.2.2.1
def fJ (l:LnD):Int:=l.1
def xK (l:LnD):Int:=l.2.1
def jeT (l:LnD):Int:=l.2.2.1
def jeU (l:LnD):Int:=l.2.2.2.1
def jeV (l:LnD):Int:=l.2.2.2.2.1
def Mj (l:LnD):Int:=l.2.2.2.2.2.1
def vn (b:BlD):BkD:=b.1
def gU (b:BlD):TaD:=b.2.1
def PN (b:BlD):Int:=b.2.2.1
def PO (b:BlD):Int:=b.2.2.2.1
def vS (b:BlD):List Int:=b.2.2.2.2.1
def ru (b:BlD):Int:=b.2.2.2.2.2.1
def FP (b:BlD):Int:=b.2.2.2.2.2.2.1
def tU (b:BlD):Bool:=b.2.2.2.2.2.2.2.1
def rz (b:BlD):Int:=b.2.2.2.2.2.2.2.2.1
def cQ (o:BoD):LgD:=o.1
def PP (o:BoD):List (Int×Option BlD):=o.2.1
def share (n:Int):Bool:=k8 n 0 100
def Ja (last:Int) (n:NoD):Bool:=k8 (X8 n) 0 (last-1)&&share (X9 n)
def xL:Int->List NoD->Bool
 |_,[]=>true
 |last,n::r=>Ja last n&&xL (X8 n) r
def ym (t:TaD):Bool:=(k8 (PL t) 1 240&&k8 (Ya t) 0 10000&&k8 (jcH t) 0 20&&k8 (Z7 t) 0 1440&&k8 (jcI t) 0 (Z7 t)&&share (FO t)&&k8 (Mh t) 0 10000)&&
 (decide ((aM t).length=4)&&(aM t).all share&&k8 (Mi t) 0 1000000&&decide ((aa t).length<=4)&&xL 100001 (aa t))
def om (n:Nat) (c:CaD):Bool:=(k8 (Up c) 0 99&&k8 (jcJ c) 0 ((n:Int)-1))&&k8 (PM c) (-100000) 1440
def Mk (n:Int):Bool:=k8 n 0 20
def xM (n:Int):Bool:=k8 n 0 300
def df (l:LgD):Bool:=((decide ((qU l).length=(wo (wv l)).length)&&(qU l).all Mk)&&(decide ((nL l).length=(wo (wv l)).length)&&(nL l).all xM))&&
 (ym (ve l)&&(decide ((w9 l).length<=10)&&(w9 l).all (om (wo (wv l)).length)))
def bK (l:List CaD) (i:Nat):Bool:=(l.take i).any (fun x=>decide (Up x=Up (nth l i))&& !decide (x=nth l i))
def Et (l:List CaD) (n:Nat):Bool:=(List.range n).any (bK l)
def cR (l:List CaD):Bool:=Et l l.length
def wT (l:LgD):Int:=if qe (wv l)≠0 then qe (wv l) else if df l=false then 70 else if cR (w9 l)=true then 71 else 0
def up (a b:Int):Int:=(a+b-1).tdiv b
def gK (m:Int) (b:BlD):BlD:=if m<=w8 (vn b)/\(tU b=false\/m<rz b) then(vn b,gU b,PN b,PO b,vS b,ru b,FP b,true,m,()) else b
def gN (b:BlD):Int:=max 0 (gn (vn b)-max (w8 (vn b)) (Z7 (gU b)))+max 0 (min (gn (vn b)) (jcI (gU b))-w8 (vn b))
def m0 (b:BlD):Int:=(vS b).length*Ya (gU b)*max (jcH (gU b)) (up (gn (vn b)-w8 (vn b)) (PL (gU b)))
def bW (b:BlD):Int:=m0 b+up (m0 b*FO (gU b)*gN b) (100*(gn (vn b)-w8 (vn b)))
def cS (a:Int) (b:BlD):Int:=(vS b).length*Mh (gU b)*a
def chargeB (a:Int) (b:BlD):BlD:=(vn b,gU b,PN b,PO b,vS b,bW b,cS a b,tU b,rz b,())
def fK (b:BlD) (n:NoD):Bool:=decide (X8 n<=w8 (vn b)-rz b)
def Ud (b:BlD):Int:=gy (fK b) (aa (gU b))
def vz (b:BlD):Int:=if tU b=true/\0<=Ud b then up (ru b*X9 (nth (aa (gU b)) (Ud b).toNat)) 100 else ru b
def vT (b:BlD):Int:=if tU b=true then 0 else FP b
def oJ (b:BlD):Int:=min (Mi (gU b)) (((vz b+vT b)*nth (aM (gU b)) (bU (yS (vn b))).toNat).tdiv 100)
def vd (b:BlD):LnD:=(PO b,PN b,vz b,vT b,oJ b,vz b+vT b-oJ b,())
def gV (m:Int) (b:BlD):Int:=Mj (vd (gK m b))
def FQ (b:BlD):Prop:=ym (gU b)=true/\0<=w8 (vn b)/\w8 (vn b)<gn (vn b)/\gn (vn b)<=1440/\0<=bU (yS (vn b))/\bU (yS (vn b))<=3/\(vS b).length<=8/\-100000<=rz b/\rz b<=1440
def ri (b:BlD):Prop:=FQ b/\0<=ru b/\ru b<=100000000000000/\0<=FP b/\FP b<=1000000000
def Ml (t:Int) (n:Nat):List Int:=((List.range n).filter (fun(p:Nat)=>qd t (p:Int))).map (fun(p:Nat)=>(p:Int))
def tO (l:LgD) (n:Int) (tm:List Int):BlD:=(nth (wo (wv l)) n.toNat,ve l,n,nth (qU l) n.toNat,tm,0,0,false,0,())
def qB (l:LgD) (n:Int) (k:Nat):List Int:=Ml (nth (fI (wv l)) n.toNat) k
def lj (l:LgD) (n:Int):BlD:=chargeB (nth (nL l) n.toNat) (tO l n (qB l n (wi (wq (wv l))).length))
def tP (n:Int) (b:BlD) (c:CaD):BlD:=if jcJ c=n then gK (PM c) b else b
def wu (l:LgD) (n:Int) (k:Nat):BlD:=((w9 l).take k).foldl (tP n) (lj l n)
def wW (l:LgD) (n:Int):BlD:=wu l n (w9 l).length
def jcK (l:LgD) (m:List (Int×Option BlD)) (n:Int):List (Int×Option BlD):=fN .int n (some (wW l n)) m
def A2 (l:LgD) (k:Nat):List (Int×Option BlD):=((wa (wv l)).take k).foldl (jcK l) []
def Ue (l:LgD):List (Int×Option BlD):=A2 l (wa (wv l)).length
def zDy:DyD:=((0,[],[],()),[],[],0,0,[],())
def zTa:TaD:=(0,0,0,0,0,0,0,0,[],[],())
def zLg:LgD:=(zDy,[],[],zTa,[],())
def jeW:BoD:=(zLg,[],())
def qG (l:LgD) (qa:Bool):Int:=if wT l≠0 then wT l else if qa=true then 0 else 1
def qj (l:LgD) (qa:Bool):BoD:=if qG l qa=0 then(l,Ue l,()) else jeW
def qP (o:BoD) (n:Int):Bool:=k8 n 0 (((wo (wv (cQ o))).length:Int)-1)
def vX (m:List (Int×Option BlD)):List LnD:=m.map (fun e=>match e.2 with|some b=>vd b|none=>default)
def xb (a b:LnD):Int:=y7 [cT (fJ a) (fJ b),cT (xK a) (xK b)]
def wI (o:BoD):List LnD:=wc (wd tLn fun x=>(xb x.1 x.2.1,())) (vX (PP o))
def ar (l:List Int):Int:=l.foldl max (nth l 0)
def Z8 (t:List Int) (x:LnD):List Int:=t.set (fJ x).toNat (nth t (fJ x).toNat+Mj x)
def vA (n:Nat) (l:List LnD) (k:Nat):List Int:=(l.take k).foldl Z8 (List.replicate n 0)
def Mm (o:BoD):List Int:=if(qU (cQ o)).length=0 then[] else vA (ar (qU (cQ o))+1).toNat (wI o) (wI o).length
def Jb (a:Int) (tm:List Int) (out:List Int) (i:Nat):List Int:=out.set (nth tm i).toNat (nth out (nth tm i).toNat+a.tdiv tm.length+(if(i:Int)<a.tmod tm.length then 1 else 0))
def qi (a:Int) (tm out:List Int) (k:Nat):List Int:=(List.range k).foldl (Jb a tm) out
def Z9 (a:Int) (b:BlD) (out:List Int):List Int:=qi a (vS b) out (vS b).length
def jcL (n:Nat):Option BlD->List Int
 |some b=>Z9 (vT b) b (Z9 (vz b) b (List.replicate n 0))
 |none=>List.replicate n 0
def Uq (o:BoD) (n:Int):Option BlD:=wM none (wA .int n (PP o))
def Uf (o:BoD) (n:Int):List Int:=jcL (wi (wq (wv (cQ o)))).length (Uq o n)
end U
theorem Ix {a b A B:Int} (d:0<=a/\a<=A) (c:0<=b/\b<=B):0<=a*b/\a*b<=A*B:=
 ⟨Int.mul_nonneg d.1 c.1,Int.mul_le_mul d.2 c.2 c.1 (by omega)⟩
theorem DJ {x B:Int} (h:0<=x/\x<=B) (a:B<=9223372036854775807):wm x:=iZ6
theorem jeB {a b:Int} (c:0<=a) (d:0<b):U.up a b=(a+b-1)/b:=km (by omega)
theorem Lw {a b:Int} (e:0<=a) (c:0<b):0<=U.up a b/\U.up a b<=a:=by
 rw[jeB e c];refine⟨Int.ediv_nonneg (by omega) (by omega),?_⟩;by_cases h:a=0;subst h;rw[kH (by omega) (by omega)];omega;have g:0<=(a-1)*(b-1):=Int.mul_nonneg (by omega) (by omega);have d:a+b-1<(a+1)*b:=by
  have f:(a+1)*b=a*b+b:=(by rw[Int.add_mul];omega);have e2:(a-1)*(b-1)=a*b-a-b+1:=(by rw[Int.sub_mul,Int.mul_sub];omega);omega
 have:=Int.ediv_lt_of_lt_mul c d;omega
theorem ZD {a b A:Int} (c:0<=a/\a<=A) (f:0<b):0<=a.tdiv b/\a.tdiv b<=A:=by
 rw[km c.1];have d:=Int.ediv_nonneg c.1 (show 0<=b by omega);have e:=Int.ediv_le_self b c.1;exact⟨d,by omega⟩
theorem vG {n a b:Int}:k8 n a b=true↔a<=n/\n<=b:=by
 unfold k8;simp only[ji,jp]
structure jeC (t:TaD):Prop where
 un:1<=PL t/\PL t<=240
 rt:0<=Ya t/\Ya t<=10000
 le:0<=jcH t/\jcH t<=20
 dk:0<=Z7 t/\Z7 t<=1440
 dw:0<=jcI t/\jcI t<=Z7 t
 ni:0<=FO t/\FO t<=100
 mi:0<=Mh t/\Mh t<=10000
 sl:(aM t).length=4
 sb:∀n∈aM t,0<=n/\n<=100
 cp:0<=Mi t/\Mi t<=1000000
 nl:(aa t).length<=4
 no:xL 100001 (aa t)=true
theorem ca {t:TaD}:ym t=true↔jeC t:=by
 unfold ym U.share;simp only[ji,vG,jp,jT];constructor;rintro⟨⟨⟨⟨⟨⟨⟨d,e⟩,f⟩,g⟩,h⟩,i⟩,j⟩,⟨⟨⟨k,l⟩,a⟩,b⟩,c⟩;exact⟨d,e,f,g,h,i,j,k,l,a,b,c⟩;rintro⟨d,e,f,g,h,i,j,k,l,a,b,c⟩;exact⟨⟨⟨⟨⟨⟨⟨d,e⟩,f⟩,g⟩,h⟩,i⟩,j⟩,⟨⟨⟨k,l⟩,a⟩,b⟩,c⟩
theorem Bn:∀{last:Int} {l:List NoD},xL last l=true->∀n∈l,(0<=X8 n/\X8 n<=last-1)/\0<=X9 n/\X9 n<=100
 |_,[],_,n,a=>by cases a
 |last,m::r,h,n,a=>by
  unfold xL Ja U.share at h
  simp only[ji,vG] at h
  obtain⟨⟨b,c⟩,d⟩:=h
  rcases jk.1 a with rfl|a
  exact⟨b,c⟩
  have:=Bn d n a
  exact⟨⟨this.1.1,by omega⟩,this.2⟩
structure DK (b:BlD):Prop where
 ta:jeC (gU b)
 st:0<=w8 (vn b)
 en:w8 (vn b)<gn (vn b)
 e2:gn (vn b)<=1440
 kd:0<=bU (yS (vn b))/\bU (yS (vn b))<=3
 tm:(vS b).length<=8
 mi: -100000<=rz b/\rz b<=1440
theorem tn {b:BlD}:FQ b↔DK b:=by
 unfold FQ;rw[ca];exact⟨fun⟨a,c,d,e,f,g,h,i,j⟩=>⟨a,c,d,e,⟨f,g⟩,h,⟨i,j⟩⟩,fun⟨a,c,d,e,⟨f,g⟩,h,⟨i,j⟩⟩=>⟨a,c,d,e,f,g,h,i,j⟩⟩
theorem QX {b:BlD} (h:DK b):0<=gN b/\gN b<=2880:=by
 have:=h.st;have:=h.en;have:=h.e2;have:=h.ta.dk;have:=h.ta.dw;unfold gN;omega
theorem jdN {b:BlD} (h:DK b):0<=U.up (gn (vn b)-w8 (vn b)) (PL (gU b))/\U.up (gn (vn b)-w8 (vn b)) (PL (gU b))<=1440:=by
 have:=h.st;have:=h.en;have:=h.e2;have:=h.ta.un;have:=Lw (a:=gn (vn b)-w8 (vn b)) (b:=PL (gU b)) (by omega) (by omega);omega
theorem jdO {b:BlD} (h:DK b):0<=((vS b).length:Int)*Ya (gU b)/\((vS b).length:Int)*Ya (gU b)<=80000:=
 Ix (A:=8) (B:=10000) (by have:=h.tm;omega) h.ta.rt
theorem O2 {b:BlD} (h:DK b):0<=m0 b/\m0 b<=115200000:=by
 have c:=jdN h;have d:=h.ta.le;have a:0<=max (jcH (gU b)) (U.up (gn (vn b)-w8 (vn b)) (PL (gU b)))/\max (jcH (gU b)) (U.up (gn (vn b)-w8 (vn b)) (PL (gU b)))<=1440:=(by omega);exact Ix (jdO h) a
theorem jdP {b:BlD} (h:DK b):0<=m0 b*FO (gU b)/\m0 b*FO (gU b)<=11520000000:=Ix (O2 h) h.ta.ni
theorem jaH {b:BlD} (h:DK b):0<=m0 b*FO (gU b)*gN b/\m0 b*FO (gU b)*gN b<=33177600000000:=Ix (jdP h) (QX h)
theorem jdQ {b:BlD} (h:DK b):0<100*(gn (vn b)-w8 (vn b))/\100*(gn (vn b)-w8 (vn b))<=144000:=by
 have:=h.st;have:=h.en;have:=h.e2;omega
theorem jdR {b:BlD} (h:DK b):0<=U.up (m0 b*FO (gU b)*gN b) (100*(gn (vn b)-w8 (vn b)))/\U.up (m0 b*FO (gU b)*gN b) (100*(gn (vn b)-w8 (vn b)))<=33177600000000:=by
 have a:=jaH h;have:=Lw a.1 (jdQ h).1;omega
theorem Xd {b:BlD} (h:DK b):0<=bW b/\bW b<=100000000000000:=by
 have a:=O2 h;have c:=jdR h;unfold bW;omega
theorem jdS {b:BlD} (h:DK b):0<=((vS b).length:Int)*Mh (gU b)/\((vS b).length:Int)*Mh (gU b)<=80000:=
 Ix (A:=8) (B:=10000) (by have:=h.tm;omega) h.ta.mi
theorem Xe {b:BlD} {t:Int} (h:DK b) (a:0<=t/\t<=300):0<=cS t b/\cS t b<=24000000:=Ix (jdS h) a
theorem DL {α:Type} [Inhabited α] {p:α->Bool} {l:List α} (h:0<=gy p l):(gy p l).toNat<l.length/\gy p l<(l.length:Int)/\p (nth l (gy p l).toNat)=true:=by
 unfold gy at h⊢;cases e:l.findIdx? p with
 |none=>rw[e] at h;exact absurd h (by decide)
 |some i=>
  obtain⟨a,b,_⟩:=zY.1 e;simp only[jw];refine⟨a,by omega,?_⟩;rw[L.qM a];exact b
structure Lx (b:BlD):Prop where
 bl:DK b
 wk:0<=ru b/\ru b<=100000000000000
 tr:0<=FP b/\FP b<=1000000000
theorem cd {b:BlD}:ri b↔Lx b:=by
 unfold ri;rw[tn];exact⟨fun⟨a,c,d,e,f⟩=>⟨a,⟨c,d⟩,⟨e,f⟩⟩,fun⟨a,⟨c,d⟩,⟨e,f⟩⟩=>⟨a,c,d,e,f⟩⟩
theorem QY {b:BlD} (h:Lx b) {i:Nat} (hi:i<(aa (gU b)).length):0<=ru b*X9 (nth (aa (gU b)) i)/\ru b*X9 (nth (aa (gU b)) i)<=10000000000000000:=
 Ix h.wk (Bn h.bl.ta.no _ (L.wh hi)).2
theorem Iy {b:BlD} (h:Lx b):0<=vz b/\vz b<=10000000000000000:=by
 unfold vz
 split
 rename_i c;have a:=QY h (DL c.2).1;have:=Lw (b:=100) a.1 (by omega);have e:U.up (ru b*X9 (nth (aa (gU b)) (Ud b).toNat)) 100<=ru b*X9 (nth (aa (gU b)) (Ud b).toNat):=this.2;exact⟨this.1,kX e a.2⟩;have:=h.wk;omega
theorem Iz {b:BlD} (h:Lx b):0<=vT b/\vT b<=1000000000:=by
 unfold vT;have:=h.tr
 split<;>omega
theorem Xf {b:BlD} (h:DK b):(bU (yS (vn b))).toNat<(aM (gU b)).length:=by
 have:=h.kd;have:=h.ta.sl;omega
theorem Xg {b:BlD} (h:DK b):0<=nth (aM (gU b)) (bU (yS (vn b))).toNat/\nth (aM (gU b)) (bU (yS (vn b))).toNat<=100:=h.ta.sb _ (L.wh (Xf h))
theorem DM {w t cp pc k:Int} {n:Nat} {R:Prop} (i:0<=w/\w<=10000000000000000) (h:0<=t/\t<=1000000000) (g:0<=cp/\cp<=1000000) (e:0<=pc/\pc<=100) (hk:0<=k) (d:k<(n:Int)) (c:R):
 wm (w+t)/\0<=k/\k<(n:Int)/\wm ((w+t)*pc)/\(100:Int)≠0/\wm (((w+t)*pc).tdiv 100)/\wm (w+t)/\wm (w+t-min cp (((w+t)*pc).tdiv 100))/\R:=by
 have a:0<=(w+t)*pc/\(w+t)*pc<=10000001000000000*100:=Ix (by omega) e;have f:=ZD (b:=100) a (by omega);exact⟨iZ6,hk,d,iZ6,by decide,iZ6,iZ6,iZ6,c⟩
theorem ZE {b:BlD} {m:Int} (h:DK b) (a: -100000<=m/\m<=1440):DK (gK m b):=by
 unfold gK
 split
 exact⟨h.ta,h.st,h.en,h.e2,h.kd,h.tm,a⟩;exact h
theorem IA {b:BlD} {m:Int} (h:Lx b) (a: -100000<=m/\m<=1440):Lx (gK m b):=by
 refine⟨ZE h.bl a,?_,?_⟩;unfold gK
 split
 exact h.wk;exact h.wk;unfold gK
 split
 exact h.tr;exact h.tr
theorem QZ {β:Type} (k:Int) (v:β):∀m:List (Int×β),k∉m.map (·.1)->fN .int k v m=m++[(k,v)]
 |[],_=>rfl
 |e::r,h=>by
  have a:k≠e.1:=fun e2=>h (by rw[e2];simp)
  have b:k∉r.map (·.1):=fun d=>h (by simp only[zz];exact jm _ d)
  rw[M.mput_cons (kt:= .int),jd (fun c=>a (ja c)),QZ k v r b];rfl
theorem O3 (d:DyD) (n:Nat):(am d n).Nodup:=by
 unfold am;exact zT.2 ((List.nodup_range.filter _).imp fun h e=>h (by omega))
theorem uS (d:DyD):(wa d).Nodup:=by
 unfold wa
 split
 exact O3 d _;exact kY
theorem IB {d:DyD} {n:Int} (h:n∈wa d):0<=n/\n<((wo d).length:Int):=by
 unfold wa at h
 split at h
 unfold am at h;obtain⟨b,a,rfl⟩:=jV.1 h;have:=jD.1 (jP.1 a).1;omega;cases h
theorem Ly {l:LgD} {k:Nat} (h:k<(wa (wv l)).length):A2 l (k+1)=jcK l (A2 l k) (nth (wa (wv l)) k):=by
 unfold A2;rw[L.wO h,jU];rfl
theorem Xh (l:LgD):∀k,k<=(wa (wv l)).length->A2 l k=((wa (wv l)).take k).map (fun n=>(n,some (wW l n)))
 |0,_=>rfl
 |k+1,hk=>by
  have a:k<(wa (wv l)).length:=by omega
  have d:=L.wO a
  have b:((wa (wv l)).take (k+1)).Nodup:=(uS _).sublist (List.take_sublist _ _)
  rw[d,zF] at b
  rw[Ly a,Xh l k (by omega),d,zw]
  unfold jcK
  refine QZ _ _ _ fun c=> ?_
  rw[kW] at c
  obtain⟨x,f,e⟩:=jV.1 c
  have e:x=nth (wa (wv l)) k:=e
  exact b.2.2 x f _ (by simp) e
theorem Q1 (l:LgD):Ue l=(wa (wv l)).map (fun n=>(n,some (wW l n))):=by
 unfold Ue;rw[Xh l _ (jj _),zH]
structure AA (l:LgD):Prop where
 cp:qe (wv l)=0
 crw:wt (wq (wv l))=true
 jbs:I4 (wv l)=true
 dy:qv (wv l)=true
 py:(qU l).length=(wo (wv l)).length/\∀n∈qU l,0<=n/\n<=20
 tr:(nL l).length=(wo (wv l)).length/\∀n∈nL l,0<=n/\n<=300
 ta:jeC (ve l)
 cl:(w9 l).length<=10/\∀c∈w9 l,(0<=Up c/\Up c<=99)/\(0<=jcJ c/\jcJ c<=((wo (wv l)).length:Int)-1)/\-100000<=PM c/\PM c<=1440
 cc:cR (w9 l)=false
theorem Tm {d:DyD} (h:qe d=0):wt (wq d)=true/\I4 d=true/\qv d=true:=by
 unfold qe at h
 split at h
 rename_i a;exact absurd h a;rename_i a
 split at h
 cases h;rename_i b;have a:xa d=0:=jN.1 a;unfold xa at a
 split at a
 cases a;rename_i c
 split at a
 cases a;rename_i e;exact⟨by simpa using c,by simpa using e,by simpa using b⟩
theorem dS {l:LgD} (h:wT l=0):AA l:=by
 unfold wT at h
 split at h
 rename_i a;exact absurd h a;rename_i a;have a:qe (wv l)=0:=jN.1 a
 split at h
 cases h;rename_i b
 split at h
 cases h;rename_i d;have b:df l=true:=(by simpa using b);have d:cR (w9 l)=false:=(by simpa using d);obtain⟨p,q,r⟩:=Tm a;unfold df at b;simp only[ji,jp,jT] at b;obtain⟨⟨⟨f,g⟩,i,j⟩,k,m,o⟩:=b;refine⟨a,p,q,r,⟨f,fun n e=>vG.1 (g n e)⟩,⟨i,fun n e=>vG.1 (j n e)⟩,ca.1 k,⟨m,fun c s=> ?_⟩,d⟩;have:=o c s;unfold om at this;simp only[ji,vG] at this;exact⟨this.1.1,this.1.2,this.2⟩
theorem DN {l:LgD} (h:AA l) {n:Int} (e:0<=n/\n<((wo (wv l)).length:Int)):
 (0<=w8 (nth (wo (wv l)) n.toNat)/\w8 (nth (wo (wv l)) n.toNat)<gn (nth (wo (wv l)) n.toNat)/\gn (nth (wo (wv l)) n.toNat)<=1440)/\
 0<=bU (yS (nth (wo (wv l)) n.toNat))/\bU (yS (nth (wo (wv l)) n.toNat))<=3:=by
 have d:nth (wo (wv l)) n.toNat∈wo (wv l):=L.wh (by omega);have c:=h.dy;unfold qv at c;simp only[ji,jT] at c;have b:=c.2.2.1 _ d;unfold mT at b;have b:=ja b;have a:=h.jbs;unfold I4 at a;have a:=jT.1 a _ d;unfold qb at a;have a:=ja a;exact⟨⟨b.2.2.1,b.2.2.2.1,b.2.2.2.2⟩,a.2.2.2.2.2.2.2.2.2.1,a.2.2.2.2.2.2.2.2.2.2.1⟩
theorem Q2 {l:LgD} (h:AA l) {n:Int} (e:0<=n/\n<((wo (wv l)).length:Int)) {tm:List Int} (f:tm.length<=8):DK (tO l n tm):=by
 obtain⟨⟨a,b,c⟩,d⟩:=DN h e;exact⟨h.ta,a,b,c,d,f,by show-100000<=(0:Int)/\(0:Int)<=1440;omega⟩
theorem tp (t:Int) (n:Nat):(Ml t n).length<=n/\∀p∈Ml t n,0<=p/\p<(n:Int):=by
 unfold Ml;refine⟨?_,fun p c=> ?_⟩;rw[zf];exact jE (zy _ _) (by rw[zG];exact jj _);obtain⟨b,a,rfl⟩:=jV.1 c;have:=jD.1 (jP.1 a).1;omega
theorem jeD {l:LgD} (h:AA l):(wi (wq (wv l))).length<=8:=by
 have a:=h.crw;unfold wt at a;rw[ji] at a;exact(ja a.1).2.2.1
theorem Q3 {l:LgD} (h:AA l) {n:Int} (d:0<=n/\n<((wo (wv l)).length:Int)):Lx (lj l n):=by
 have g:=jeD h;have f:=(tp (nth (fI (wv l)) n.toNat) (wi (wq (wv l))).length).1;have a:DK (tO l n (qB l n (wi (wq (wv l))).length)):=Q2 h d (by unfold qB;omega);have e:=h.tr.2 _ (L.wh (show n.toNat<(nL l).length by rw[h.tr.1];omega));have c:=Xd a;have b:=Xe a e;exact⟨⟨a.ta,a.st,a.en,a.e2,a.kd,a.tm,a.mi⟩,c,⟨b.1,kX b.2 (by decide)⟩⟩
theorem dF {l:LgD} {n:Int} {k:Nat} (h:k<(w9 l).length):wu l n (k+1)=tP n (wu l n k) (nth (w9 l) k):=by
 unfold wu;rw[L.wO h,jU];rfl
theorem GQ {l:LgD} (h:AA l) {n:Int} (a:0<=n/\n<((wo (wv l)).length:Int)):∀k,k<=(w9 l).length->Lx (wu l n k)
 |0,_=>Q3 h a
 |k+1,hk=>by
  rw[dF (by omega)]
  unfold tP
  have b:=GQ h a k (by omega)
  split
  exact IA b (h.cl.2 _ (L.wh (show k<(w9 l).length by omega))).2.2
  exact b
theorem Lz {l:LgD} (h:AA l) {n:Int} (a:0<=n/\n<((wo (wv l)).length:Int)):Lx (wW l n):=GQ h a _ (jj _)
theorem Tn (m:Int) (b:BlD):vn (gK m b)=vn b/\gU (gK m b)=gU b/\PN (gK m b)=PN b/\PO (gK m b)=PO b/\vS (gK m b)=vS b/\ru (gK m b)=ru b/\FP (gK m b)=FP b:=by
 unfold gK
 split
 exact⟨rfl,rfl,rfl,rfl,rfl,rfl,rfl⟩;exact⟨rfl,rfl,rfl,rfl,rfl,rfl,rfl⟩
theorem ye (l:LgD) (n:Int):∀k,k<=(w9 l).length->vn (wu l n k)=vn (lj l n)/\gU (wu l n k)=gU (lj l n)/\PN (wu l n k)=PN (lj l n)/\PO (wu l n k)=PO (lj l n)/\vS (wu l n k)=vS (lj l n)/\
 ru (wu l n k)=ru (lj l n)/\FP (wu l n k)=FP (lj l n)
 |0,_=>⟨rfl,rfl,rfl,rfl,rfl,rfl,rfl⟩
 |k+1,hk=>by
  rw[dF (by omega)]
  unfold tP
  have a:=ye l n k (by omega)
  split
  obtain⟨c1,c2,b,c,d,e,f⟩:=Tn (PM (nth (w9 l) k)) (wu l n k)
  rw[c1,c2,b,c,d,e,f];exact a
  exact a
abbrev blS:Sh:= .box 85 [.dat .int,.dat .int,.dat .int,.dat .int,.dat .int,.dat .int,.dat .int,.dat .int,.dat .int,.dat .int,.dat .int,.dat .int,.dat .int,.dat .int,.dat .int,.dat .int,.dat .int,.dat (.slice .int),.dat (.slice tNo),.dat .int,.dat .int,.dat (.slice .int),.dat .int,.dat .int,.dat .bool,.dat .int]
def blX (x:Sh.D blS) (w t:Int) (c:Bool) (m:Int):Sh.D blS:=(x.1,x.2.1,x.2.2.1,x.2.2.2.1,x.q4.1,x.q4.2.1,x.q4.2.2.1,x.q4.2.2.2.1,x.q4.q4.1,x.q4.q4.2.1,x.q4.q4.2.2.1,x.q4.q4.2.2.2.1,x.q4.q4.q4.1,x.q4.q4.q4.2.1,x.q4.q4.q4.2.2.1,x.q4.q4.q4.2.2.2.1,x.q4.q4.q4.q4.1,x.q4.q4.q4.q4.2.1,x.q4.q4.q4.q4.2.2.1,x.q4.q4.q4.q4.2.2.2.1,x.q4.q4.q4.q4.q4.1,x.q4.q4.q4.q4.q4.2.1,w,t,c,m,())
namespace U
def vB (x:Sh.D blS):BlD:=
 (((x.1,x.2.1,x.2.2.1,x.2.2.2.1,x.q4.1,x.q4.2.1,()),x.q4.2.2.1,x.q4.2.2.2.1,x.q4.q4.1,()),
  (x.q4.q4.2.1,x.q4.q4.2.2.1,x.q4.q4.2.2.2.1,x.q4.q4.q4.1,x.q4.q4.q4.2.1,x.q4.q4.q4.2.2.1,x.q4.q4.q4.2.2.2.1,x.q4.q4.q4.q4.1,x.q4.q4.q4.q4.2.1,x.q4.q4.q4.q4.2.2.1,()),
  x.q4.q4.q4.q4.2.2.2.1,x.q4.q4.q4.q4.q4.1,x.q4.q4.q4.q4.q4.2.1,x.q4.q4.q4.q4.q4.2.2.1,x.q4.q4.q4.q4.q4.2.2.2.1,x.q4.q4.q4.q4.q4.q4.1,x.q4.q4.q4.q4.q4.q4.2.1,())
def XX (m:Int) (b:BlD):Bool:=tU (gK m b)
def XY (m:Int) (b:BlD):Int:=rz (gK m b)
def XZ (m:Int) (c:CaD):Bool:=(k8 (Up c) 0 99&&k8 (jcJ c) 0 (m-1))&&k8 (PM c) (-100000) 1440
end U
def aW:wQ:=⟨[.val .int,.val .int,.val .int],[.bool],false,fun _=>[],fun d=>(k8 d.1 d.2.1 d.2.2.1,())⟩
def O4:Prop:=∀(d:CaD),(decide (d.2.1<=d.1)&&decide (d.1<=d.2.2.1),())=(k8 d.1 d.2.1 d.2.2.1,())
def co:wQ:=⟨[.val .int],[.bool],false,fun _=>[],fun d=>(U.share d.1,())⟩
def To:Prop:=∀(d:Int×Unit),(k8 d.1 (0:Int) (100:Int),())=(U.share d.1,())
def lE:wQ:=⟨[.val (.slice tNo),.fn [tNo] [.bool]],[.int],false,fun d=>[∀g∈d.1,wy (d.2.1.pre (g,()))],fun d=>(gy (wb (α:=NoD) d.2.1.F) d.1,())⟩
def lF:Ann:=fun r=>match r with
 |2=>some fun σ=>{X:=Nat,sl:=fun i=>[(8,.dat .int (i:Int))],ob:=fun _=>[],inv:=fun i=>i<=(gd (.slice tNo) σ 0).length/\∀b:Nat,b<i->wb (gfb tNo σ 1) (nth (gd (.slice tNo) σ 0) b)=false,mu:=fun i=>(gd (.slice tNo) σ 0).length-i}
 |_=>none
def lG:Prop:=∀(d:List (Int×Int×Unit)×FnD [tNo] [Ty.bool]×Unit),(∀(g:Int×Int×Unit),g∈d.1->wy (d.2.1.1 (g,())))->d.1.length<4611686018427387904->(∃(x:Nat),((0=(x:Int)/\True)/\True)/\x<=d.1.length/\∀(b:Nat),b<x->wb d.2.1.2 (nth d.1 b)=false)/\∀(x:Nat),(x<=d.1.length/\∀(b:Nat),b<x->wb d.2.1.2 (nth d.1 b)=false)->(decide ((x:Int)<d.1.length)=true->0<=(x:Int)/\(x:Int)<d.1.length/\asks (d.2.1.1 (nth d.1 x,())) (((d.2.1.2 (nth d.1 x,())).1=true->((x:Int),())=(gy (wb d.2.1.2) d.1,()))/\((d.2.1.2 (nth d.1 x,())).1=false->wm ((x:Int)+1)/\∃(a:Nat),(((x:Int)+1=(a:Int)/\True)/\True)/\(a<=d.1.length/\∀(b:Nat),b<a->wb d.2.1.2 (nth d.1 b)=false)/\d.1.length-a<d.1.length-x)))/\(decide ((x:Int)<d.1.length)=false->((-1:Int),())=(gy (wb d.2.1.2) d.1,()))
def oc:wQ:=⟨[.val (.slice tCa),.fn [tCa] [.bool]],[.int],false,fun d=>[∀g∈d.1,wy (d.2.1.pre (g,()))],fun d=>(gy (wb (α:=CaD) d.2.1.F) d.1,())⟩
def od:Ann:=fun r=>match r with
 |2=>some fun σ=>{X:=Nat,sl:=fun i=>[(8,.dat .int (i:Int))],ob:=fun _=>[],inv:=fun i=>i<=(gd (.slice tCa) σ 0).length/\∀b:Nat,b<i->wb (gfb tCa σ 1) (nth (gd (.slice tCa) σ 0) b)=false,mu:=fun i=>(gd (.slice tCa) σ 0).length-i}
 |_=>none
def oe:Prop:=∀(d:List CaD×FnD [tCa] [Ty.bool]×Unit),(∀(g:CaD),g∈d.1->wy (d.2.1.1 (g,())))->d.1.length<4611686018427387904->(∃(x:Nat),((0=(x:Int)/\True)/\True)/\x<=d.1.length/\∀(b:Nat),b<x->wb d.2.1.2 (nth d.1 b)=false)/\∀(x:Nat),(x<=d.1.length/\∀(b:Nat),b<x->wb d.2.1.2 (nth d.1 b)=false)->(decide ((x:Int)<d.1.length)=true->0<=(x:Int)/\(x:Int)<d.1.length/\asks (d.2.1.1 (nth d.1 x,())) (((d.2.1.2 (nth d.1 x,())).1=true->((x:Int),())=(gy (wb d.2.1.2) d.1,()))/\((d.2.1.2 (nth d.1 x,())).1=false->wm ((x:Int)+1)/\∃(a:Nat),(((x:Int)+1=(a:Int)/\True)/\True)/\(a<=d.1.length/\∀(b:Nat),b<a->wb d.2.1.2 (nth d.1 b)=false)/\d.1.length-a<d.1.length-x)))/\(decide ((x:Int)<d.1.length)=false->((-1:Int),())=(gy (wb d.2.1.2) d.1,()))
def iN:wQ:=⟨[.val (.slice tCa),.fn [tCa] [.bool]],[.bool],false,fun d=>[∀g∈d.1,wy (d.2.1.pre (g,()))],fun d=>(d.1.any (wb (α:=CaD) d.2.1.F),())⟩
def iO:Prop:=∀(d:List CaD×FnD [tCa] [Ty.bool]×Unit),(∀(g:CaD),g∈d.1->wy (d.2.1.1 (g,())))->(∀(g:CaD),g∈d.1->wy (d.2.1.1 (g,())))/\(decide (0<=gy (wb d.2.1.2) d.1),())=(d.1.any (wb d.2.1.2),())
def AB:wQ:=⟨[.val .int,.rfn [.int] [.bool]],[.bool],false,fun d=>[wy (d.2.1.pre (d.1,()))],fun d=>(!(wb (α:=Int) d.2.1.F d.1),())⟩
def AC:Prop:=∀(d:Int×FnD [Ty.int] [Ty.bool]×Unit),wy (d.2.1.1 (d.1,()))->asks (d.2.1.1 (d.1,())) ((!(d.2.1.2 (d.1,())).1,())=(!wb d.2.1.2 d.1,()))
def dT:wQ:=⟨[.val (.slice .int),.fn [.int] [.bool]],[.bool],false,fun d=>[∀g∈d.1,wy (d.2.1.pre (g,()))],fun d=>(d.1.all (wb (α:=Int) d.2.1.F),())⟩
def Fj:Prop:=∀(d:List Int×FnD [Ty.int] [Ty.bool]×Unit),(∀(g:Int),g∈d.1->wy (d.2.1.1 (g,())))->(∀(g:Int),g∈d.1->wy [wy (d.2.1.1 (g,()))])/\(!d.1.any (wb fun(a:Int×Unit)=>(!wb d.2.1.2 a.1,())),())=(d.1.all (wb d.2.1.2),())
def uT:wQ:=⟨[.val tCa,.rfn [tCa] [.bool]],[.bool],false,fun d=>[wy (d.2.1.pre (d.1,()))],fun d=>(!(wb (α:=CaD) d.2.1.F d.1),())⟩
def uU:Prop:=∀(d:CaD×FnD [tCa] [Ty.bool]×Unit),wy (d.2.1.1 (d.1,()))->asks (d.2.1.1 (d.1,())) ((!(d.2.1.2 (d.1,())).1,())=(!wb d.2.1.2 d.1,()))
def DO:wQ:=⟨[.val (.slice tCa),.fn [tCa] [.bool]],[.bool],false,fun d=>[∀g∈d.1,wy (d.2.1.pre (g,()))],fun d=>(d.1.all (wb (α:=CaD) d.2.1.F),())⟩
def DP:Prop:=∀(d:List CaD×FnD [tCa] [Ty.bool]×Unit),(∀(g:CaD),g∈d.1->wy (d.2.1.1 (g,())))->(∀(g:CaD),g∈d.1->wy [wy (d.2.1.1 (g,()))])/\(!d.1.any (wb fun(a:CaD×Unit)=>(!wb d.2.1.2 a.1,())),())=(d.1.all (wb d.2.1.2),())
def LA:wQ:=⟨[.val tCa,.ref .int],[.bool],false,fun d=>[0<=d.2.1,d.2.1<=4611686018427387904],fun d=>(XZ d.2.1 d.1,())⟩
def LB:Prop:=∀(d:CaD×Int×Unit),0<=d.2.1->d.2.1<=4611686018427387904->(k8 d.1.1 (0:Int) 99=true->wm (d.2.1-1))/\(k8 d.1.1 (0:Int) (99:Int)&&k8 d.1.2.1 (0:Int) (d.2.1-1)&&k8 d.1.2.2.1 (-100000:Int) (1440:Int),())=(XZ d.2.1 d.1,())
def LC:wQ:=⟨[.val .int],[.bool],false,fun _=>[],fun d=>(Mk d.1,())⟩
def LD:Prop:=∀(d:Int×Unit),(k8 d.1 (0:Int) (20:Int),())=(Mk d.1,())
def LF:wQ:=⟨[.val .int],[.bool],false,fun _=>[],fun d=>(xM d.1,())⟩
def LG:Prop:=∀(d:Int×Unit),(k8 d.1 (0:Int) (300:Int),())=(xM d.1,())
def jcg:wQ:=⟨[.val .int,.val .int],[.int],false,fun d=>[0<=d.1,0<d.2.1,d.1<=4611686018427387904,d.2.1<=1000000000],fun d=>(U.up d.1 d.2.1,())⟩
def jch:Prop:=∀(d:Int×Int×Unit),0<=d.1->0<d.2.1->d.1<=4611686018427387904->d.2.1<=1000000000->wm (d.1+d.2.1)/\wm (d.1+d.2.1-1)/\d.2.1≠0/\wm ((d.1+d.2.1-1).tdiv d.2.1)/\((d.1+d.2.1-1).tdiv d.2.1,())=(U.up d.1 d.2.1,())
def O5:wQ:=⟨[.val tBo],[.bool],false,fun _=>[],fun _=>(true,())⟩
def O6:Prop:=∀(_:BoD×Unit),(true,())=(true,())
def tq:wQ:=⟨[.val tBo,.val .int],[.bool],false,fun d=>[(wo (wv (cQ d.1))).length<=100],fun d=>(qP d.1 d.2.1,())⟩
def tu:Prop:=∀(d:BoD×Int×Unit),(wo (wv (cQ d.1))).length<=100->d.1.1.1.2.2.1.length<4611686018427387904->wm ((d.1.1.1.2.2.1.length:Int)-1)/\(k8 d.2.1 (0:Int) ((d.1.1.1.2.2.1.length:Int)-1),())=(qP d.1 d.2.1,())
def DQ:wQ:=⟨[.ref tBl],[.int],false,fun d=>[FQ d.1],fun d=>(gN d.1,())⟩
abbrev jja (d:BlD×Unit):=(min d.1.1.2.2.2.1 d.1.2.1.q4.1-d.1.1.2.2.1)
abbrev jjb (d:BlD×Unit):=(d.1.1.2.2.2.1-max d.1.1.2.2.1 d.1.2.1.2.2.2.1)
def DR:Prop:=∀(d:BlD×Unit),FQ d.1->wm (jjb d)/\wm (jja d)/\wm (max (0:Int) (jjb d)+max (0:Int) (jja d))/\(max (0:Int) (jjb d)+max (0:Int) (jja d),())=(gN d.1,())
def AD:q7:=⟨[.own blS true,.val .int],[],fun d=>[FQ (vB d.1),0<=d.2.1,d.2.1<=300],fun d=>((),(blX d.1 (bW (vB d.1)) (cS d.2.1 (vB d.1)) (tU (vB d.1)) (rz (vB d.1)),()))⟩
abbrev jg3 (d:XbD×Int×Unit):=(d.1.q4.q4.1-d.1.q4.2.2.2.1)
abbrev jgO (d:XbD×Int×Unit):=(U.up (jg3 d) d.1.q4.q4.2.1)
abbrev jgd (d:XbD×Int×Unit):=d.1.q4.q4.2.2.2.1
abbrev jf5 (d:XbD×Int×Unit):=d.1.q4.q4.2.2.1
abbrev jg4 (d:XbD×Int×Unit):=d.1.q4.q4.q4.2.2.1
abbrev jhs (d:XbD×Int×Unit):=d.1.q4.q4.q4.2.2.2.1
abbrev jix (d:XbD×Int×Unit):=d.1.q4.q4.q4.q4.q4.2.1
abbrev jf6 (d:XbD×Int×Unit):=((jix d).length:Int)
abbrev jjc (d:XbD×Int×Unit):=d.1.q4.q4.q4.q4.q4.1
abbrev jjd (d:XbD×Int×Unit):=d.1.q4.q4.q4.q4.2.2.2.1
abbrev jiy (d:XbD×Int×Unit):=(((d.1.1,d.1.2.1,d.1.2.2.1,d.1.2.2.2.1,d.1.q4.1,d.1.q4.2.1,()),d.1.q4.2.2.1,d.1.q4.2.2.2.1,d.1.q4.q4.1,()),(d.1.q4.q4.2.1,(jf5 d),(jgd d),d.1.q4.q4.q4.1,d.1.q4.q4.q4.2.1,(jg4 d),(jhs d),d.1.q4.q4.q4.q4.1,d.1.q4.q4.q4.q4.2.1,d.1.q4.q4.q4.q4.2.2.1,()),(jjd d),(jjc d),(jix d),(jf6 d)*(jf5 d)*max (jgd d) (jgO d),d.1.q4.q4.q4.q4.q4.2.2.2)
abbrev jje (d:XbD×Int×Unit):=((jf6 d)*(jf5 d)*max (jgd d) (jgO d)*(jg4 d)*gN (jiy d))
def AE:Prop:=∀(d:XbD×Int×Unit),FQ (vB d.1)->0<=d.2.1->d.2.1<=300->wm (jg3 d)/\wm ((jf6 d)*(jf5 d))/\0<=d.1.q4.q4.1-d.1.q4.2.2.2.1/\0<d.1.q4.q4.2.1/\d.1.q4.q4.1-d.1.q4.2.2.2.1<=4611686018427387904/\d.1.q4.q4.2.1<=1000000000/\wm ((jf6 d)*(jf5 d)*max (jgd d) (jgO d))/\wm ((jf6 d)*(jf5 d)*max (jgd d) (jgO d)*(jg4 d))/\FQ (jiy d)/\wm (jje d)/\wm ((100:Int)*(jg3 d))/\0<=(jf6 d)*(jf5 d)*max (jgd d) (jgO d)*(jg4 d)*gN (jiy d)/\(0:Int)<100*(jg3 d)/\(jf6 d)*(jf5 d)*max (jgd d) (jgO d)*(jg4 d)*gN (jiy d)<=4611686018427387904/\(100:Int)*(jg3 d)<=1000000000/\wm ((jf6 d)*(jf5 d)*max (jgd d) (jgO d)+U.up (jje d) ((100:Int)*(jg3 d)))/\wm ((jf6 d)*(jhs d))/\wm ((jf6 d)*(jhs d)*d.2.1)/\()=()/\((d.1.1,d.1.2.1,d.1.2.2.1,d.1.2.2.2.1,d.1.q4.1,d.1.q4.2.1,d.1.q4.2.2.1,d.1.q4.2.2.2.1,d.1.q4.q4.1,d.1.q4.q4.2.1,(jf5 d),(jgd d),d.1.q4.q4.q4.1,d.1.q4.q4.q4.2.1,(jg4 d),(jhs d),d.1.q4.q4.q4.q4.1,d.1.q4.q4.q4.q4.2.1,d.1.q4.q4.q4.q4.2.2.1,(jjd d),(jjc d),(jix d),(jf6 d)*(jf5 d)*max (jgd d) (jgO d)+U.up (jje d) ((100:Int)*(jg3 d)),(jf6 d)*(jhs d)*d.2.1,d.1.q4.q4.q4.q4.q4.q4),())=((d.1.1,d.1.2.1,d.1.2.2.1,d.1.2.2.2.1,d.1.q4.1,d.1.q4.2.1,d.1.q4.2.2.1,d.1.q4.2.2.2.1,d.1.q4.q4.1,d.1.q4.q4.2.1,(jf5 d),(jgd d),d.1.q4.q4.q4.1,d.1.q4.q4.q4.2.1,(jg4 d),(jhs d),d.1.q4.q4.q4.q4.1,d.1.q4.q4.q4.q4.2.1,d.1.q4.q4.q4.q4.2.2.1,(jjd d),(jjc d),(jix d),bW (vB d.1),cS d.2.1 (vB d.1),tU (vB d.1),rz (vB d.1),()),())
def Fk:q7:=⟨[.own blS true,.val .int],[],fun _=>[],fun d=>((),(blX d.1 (ru (vB d.1)) (FP (vB d.1)) (XX d.2.1 (vB d.1)) (XY d.2.1 (vB d.1)),()))⟩
abbrev jj2 (d:XbD×Int×Unit):=((d.1.1,d.1.2.1,d.1.2.2.1,d.1.2.2.2.1,d.1.q4.1,d.1.q4.2.1,d.1.q4.2.2.1,d.1.q4.2.2.2.1,d.1.q4.q4.1,d.1.q4.q4.2.1,d.1.q4.q4.2.2.1,d.1.q4.q4.2.2.2.1,d.1.q4.q4.q4.1,d.1.q4.q4.q4.2.1,d.1.q4.q4.q4.2.2.1,d.1.q4.q4.q4.2.2.2.1,d.1.q4.q4.q4.q4.1,d.1.q4.q4.q4.q4.2.1,d.1.q4.q4.q4.q4.2.2.1,d.1.q4.q4.q4.q4.2.2.2.1,d.1.q4.q4.q4.q4.q4.1,d.1.q4.q4.q4.q4.q4.2.1,ru (vB d.1),FP (vB d.1),XX d.2.1 (vB d.1),XY d.2.1 (vB d.1),()),())
abbrev jj3 (d:XbD×Int×Unit):=(decide (d.2.1<=d.1.q4.2.2.2.1)&&(!d.1.q4.q4.q4.q4.q4.q4.1||decide (d.2.1<d.1.q4.q4.q4.q4.q4.q4.2.1)))
def Fl:Prop:=∀(d:XbD×Int×Unit),((jj3 d)=true->()=()/\((d.1.1,d.1.2.1,d.1.2.2.1,d.1.2.2.2.1,d.1.q4.1,d.1.q4.2.1,d.1.q4.2.2.1,d.1.q4.2.2.2.1,d.1.q4.q4.1,d.1.q4.q4.2.1,d.1.q4.q4.2.2.1,d.1.q4.q4.2.2.2.1,d.1.q4.q4.q4.1,d.1.q4.q4.q4.2.1,d.1.q4.q4.q4.2.2.1,d.1.q4.q4.q4.2.2.2.1,d.1.q4.q4.q4.q4.1,d.1.q4.q4.q4.q4.2.1,d.1.q4.q4.q4.q4.2.2.1,d.1.q4.q4.q4.q4.2.2.2.1,d.1.q4.q4.q4.q4.q4.1,d.1.q4.q4.q4.q4.q4.2.1,d.1.q4.q4.q4.q4.q4.2.2.1,d.1.q4.q4.q4.q4.q4.2.2.2.1,true,d.2),())=(jj2 d))/\((jj3 d)=false->()=()/\(d.1,())=(jj2 d))
def AF:wQ:=⟨[.val tNo,.ref tBl],[.bool],false,fun d=>[FQ d.2.1],fun d=>(fK d.2.1 d.1,())⟩
def AG:Prop:=∀(d:(Int×Int×Unit)×BlD×Unit),FQ d.2.1->wm (d.2.1.1.2.2.1-d.2.1.q4.q4.1)/\(decide (d.1.1<=d.2.1.1.2.2.1-d.2.1.q4.q4.1),())=(fK d.2.1 d.1,())
def Fm:wQ:=⟨[.val tBl],[tLn],false,fun d=>[ri d.1],fun d=>(vd d.1,())⟩
abbrev jhW (d:BlD×Unit):=(wb fun(a:(Int×Int×Unit)×Unit)=>(fK d.1 a.1,()))
abbrev jgv (d:BlD×Unit):=d.1.2.1.q4.2.2.2.1
abbrev jgP (d:BlD×Unit):=d.1.2.1.q4.q4.2.1
abbrev jjf (d:BlD×Unit):=(nth (jgP d) (gy (jhW d) (jgP d)).toNat)
abbrev jfW (d:BlD×Unit):=d.1.q4.2.1
abbrev jhX (d:BlD×Unit):=(((jfW d)+d.1.q4.2.2.1)*nth d.1.2.1.q4.q4.1 d.1.1.1.q4.1.toNat)
abbrev jhY (d:BlD×Unit):=(((jfW d)+0)*nth d.1.2.1.q4.q4.1 d.1.1.1.q4.1.toNat)
abbrev jg5 (d:BlD×Unit):=((jfW d)*(jjf d).2.1)
abbrev jhZ (d:BlD×Unit):=((U.up (jg5 d) (100:Int)+0)*nth d.1.2.1.q4.q4.1 d.1.1.1.q4.1.toNat)
abbrev jjg (d:BlD×Unit):=(d.1.2.1.q4.q4.1.length:Int)
def Fo:Prop:=∀(d:BlD×Unit),ri d.1->(d.1.q4.2.2.2.1=true->(∀(g:Int×Int×Unit),g∈(jgP d)->wy [FQ d.1])/\(decide (0<=gy (jhW d) (jgP d))=true->0<=gy (jhW d) (jgP d)/\gy (jhW d) (jgP d)<((jgP d).length:Int)/\wm (jg5 d)/\0<=(jfW d)*(jjf d).2.1/\(0:Int)<100/\(jfW d)*(jjf d).2.1<=4611686018427387904/\(100:Int)<=1000000000/\wm (U.up (jg5 d) (100:Int)+0)/\0<=d.1.1.1.q4.1/\d.1.1.1.q4.1<(jjg d)/\wm (jhZ d)/\(100:Int)≠0/\wm ((jhZ d).tdiv (100:Int))/\wm (U.up (jg5 d) (100:Int)+0)/\wm (U.up (jg5 d) (100:Int)+0-min (jgv d) ((jhZ d).tdiv (100:Int)))/\((d.1.2.2.2.1,d.1.2.2.1,U.up (jg5 d) (100:Int),(0:Int),min (jgv d) ((jhZ d).tdiv (100:Int)),U.up (jg5 d) (100:Int)+0-min (jgv d) ((jhZ d).tdiv (100:Int)),()),())=(vd d.1,()))/\(decide (0<=gy (jhW d) (jgP d))=false->wm ((jfW d)+0)/\0<=d.1.1.1.q4.1/\d.1.1.1.q4.1<(jjg d)/\wm (jhY d)/\(100:Int)≠0/\wm ((jhY d).tdiv (100:Int))/\wm ((jfW d)+0)/\wm ((jfW d)+0-min (jgv d) ((jhY d).tdiv (100:Int)))/\((d.1.2.2.2.1,d.1.2.2.1,(jfW d),(0:Int),min (jgv d) ((jhY d).tdiv (100:Int)),(jfW d)+0-min (jgv d) ((jhY d).tdiv (100:Int)),()),())=(vd d.1,())))/\(d.1.q4.2.2.2.1=false->wm ((jfW d)+d.1.q4.2.2.1)/\0<=d.1.1.1.q4.1/\d.1.1.1.q4.1<(jjg d)/\wm (jhX d)/\(100:Int)≠0/\wm ((jhX d).tdiv (100:Int))/\wm ((jfW d)+d.1.q4.2.2.1)/\wm ((jfW d)+d.1.q4.2.2.1-min (jgv d) ((jhX d).tdiv (100:Int)))/\((d.1.2.2.2.1,d.1.2.2.1,(jfW d),d.1.q4.2.2.1,min (jgv d) ((jhX d).tdiv (100:Int)),(jfW d)+d.1.q4.2.2.1-min (jgv d) ((jhX d).tdiv (100:Int)),()),())=(vd d.1,()))
def AH:wQ:=⟨[.val tBl,.val .int],[.int],false,fun d=>[ri d.1,-100000<=d.2.1,d.2.1<=1440],fun d=>(gV d.2.1 d.1,())⟩
abbrev jiz (d:BlD×Int×Unit):=(vB (d.1.1.1.1,d.1.1.1.2.1,d.1.1.1.2.2.1,d.1.1.1.2.2.2.1,d.1.1.1.q4.1,d.1.1.1.q4.2.1,d.1.1.2.1,d.1.1.2.2.1,d.1.1.2.2.2.1,d.1.2.1.1,d.1.2.1.2.1,d.1.2.1.2.2.1,d.1.2.1.2.2.2.1,d.1.2.1.q4.1,d.1.2.1.q4.2.1,d.1.2.1.q4.2.2.1,d.1.2.1.q4.2.2.2.1,d.1.2.1.q4.q4.1,d.1.2.1.q4.q4.2.1,d.1.2.2))
abbrev jj4 (d:BlD×Int×Unit):=(d.1.1,d.1.2.1,d.1.2.2.1,d.1.2.2.2.1,d.1.q4.1,ru (jiz d),FP (jiz d),XX d.2.1 (jiz d),XY d.2.1 (jiz d),())
def AI:Prop:=∀(d:BlD×Int×Unit),ri d.1->(-100000:Int)<=d.2.1->d.2.1<=1440->ri (jj4 d)/\(vd (jj4 d)).q4.2=(gV d.2.1 d.1,())
theorem Tp:O4:=fun _=>rfl
theorem yN:wV PR 37 aW:=wK Tp Tryz.func37 kcN koN
theorem Xi:To:=fun _=>rfl
theorem GR:wV PR 87 co:=wK Xi Tryz.func87 (kcC yN kcN) koN
theorem mQ:lG:=by
 rintro⟨l,f,⟨⟩⟩ a g;refine⟨⟨0,⟨⟨rfl,tZ⟩,tZ⟩,jl _,fun b c=>by omega⟩,fun i hi=>⟨fun h=> ?_,fun h=> ?_⟩⟩;have h:i<l.length:=(by simpa using h);simp only at*;refine⟨by omega,by omega,vV _ (a _ (L.wh h)) ⟨fun c=> ?_,fun c=>⟨iZ6,i+1,⟨⟨by simp,tZ⟩,tZ⟩,⟨by omega,fun b d=> ?_⟩,by omega⟩⟩⟩;rw[yt (p:=wb (α:=NoD) f.F) h hi.2 c];by_cases e:b=i;subst e;exact c;exact hi.2 b (by omega);have h:l.length<=i:=(by simpa using h);rw[q8 (p:=wb (α:=NoD) f.F) h hi.2]
theorem lH:wV PR 70 lE:=qY lF mQ Tryz.func70 kcN koN
theorem p7:oe:=by
 rintro⟨l,f,⟨⟩⟩ a g;refine⟨⟨0,⟨⟨rfl,tZ⟩,tZ⟩,jl _,fun b c=>by omega⟩,fun i hi=>⟨fun h=> ?_,fun h=> ?_⟩⟩;have h:i<l.length:=(by simpa using h);simp only at*;refine⟨by omega,by omega,vV _ (a _ (L.wh h)) ⟨fun c=> ?_,fun c=>⟨iZ6,i+1,⟨⟨by simp,tZ⟩,tZ⟩,⟨by omega,fun b d=> ?_⟩,by omega⟩⟩⟩;rw[yt (p:=wb (α:=CaD) f.F) h hi.2 c];by_cases e:b=i;subst e;exact c;exact hi.2 b (by omega);have h:l.length<=i:=(by simpa using h);rw[q8 (p:=wb (α:=CaD) f.F) h hi.2]
theorem og:wV PR 134 oc:=qY od p7 Tryz.func134 kcN koN
theorem lI:iO:=by
 rintro⟨l,f,⟨⟩⟩ a;refine⟨a,?_⟩;exact jF (·,()) (iv (wb (α:=CaD) f.F) l)
theorem iP:wV PR 89 iN:=wK lI Tryz.func89 (kcC og kcN) koN
theorem DS:AC:=by
 intro d h;exact vV _ h rfl
theorem AJ:wV PR 85 AB:=wK DS Tryz.func85 kcN koN
theorem IC:Fj:=by
 intro d h;exact⟨fun g a=>⟨h g a,tZ⟩,jF (·,()) (sB d.snd.fst.2 d.fst)⟩
theorem oF:wV PR 52 dT:=wK IC Tryz.func52 (kcC yW (kcC AJ kcN)) koN
theorem AK:uU:=by
 intro d h;exact vV _ h rfl
theorem uV:wV PR 90 uT:=wK AK Tryz.func90 kcN koN
theorem Fp:DP:=by
 intro d h;exact⟨fun g a=>⟨h g a,tZ⟩,jF (·,()) (sB d.snd.fst.2 d.fst)⟩
theorem DT:wV PR 56 DO:=wK Fp Tryz.func56 (kcC iP (kcC uV kcN)) koN
theorem O7:LB:=by
 rintro⟨c,m,⟨⟩⟩ a b;have a:0<=m:=a;have b:m<=4611686018427387904:=b;exact⟨fun _=>L.FU (by show _<=m-1;omega) (by show m-1<=_;omega),rfl⟩
theorem LH:wV PR 51 LA:=wK O7 Tryz.func51 (kcC yN kcN) koN
theorem O8:LD:=fun _=>rfl
theorem LI:wV PR 53 LC:=wK O8 Tryz.func53 (kcC yN kcN) koN
theorem O9:LG:=fun _=>rfl
theorem LJ:wV PR 54 LF:=wK O9 Tryz.func54 (kcC yN kcN) koN
theorem jaI:jch:=by
 rintro⟨a,b,⟨⟩⟩ c d e f;have c:0<=a:=c;have d:0<b:=d;have e:a<=4611686018427387904:=e;have f:b<=1000000000:=f;have g:=Lw c d;refine⟨L.FU (by show _<=a+b;omega) (by show a+b<=_;omega),L.FU (by show _<=a+b-1;omega) (by show a+b-1<=_;omega),by show b≠0;omega,DJ (x:=U.up a b) (B:=4611686018427387904) ⟨g.1,by omega⟩ (by omega),rfl⟩
theorem Xj:wV PR 72 jcg:=wK jaI Tryz.func72 kcN koN
theorem Tq:O6:=fun _=>rfl
theorem DU:wV PR 59 O5:=wK Tq Tryz.func59 kcN koN
theorem uW:tu:=by
 intro d a b;have a:(wo (wv (cQ d.1))).length<=100:=a;exact⟨L.FU (by show _<=((wo (wv (cQ d.1))).length:Int)-1;omega) (by show((wo (wv (cQ d.1))).length:Int)-1<=_;omega),rfl⟩
theorem az:wV PR 36 tq:=wK uW Tryz.func36 (kcC yN kcN) koN
theorem Fq:DR:=by
 unfold DR jjb jja Prod.q4;rintro⟨b,⟨⟩⟩ a;have h:DK b:=tn.1 a;have d:=h.st;have e:=h.en;have f:=h.e2;have g:=h.ta.dk;have i:=h.ta.dw;have c:=QX h;refine⟨?_,?_,DJ (B:=2880) c (by omega),rfl⟩;show wm (gn (vn b)-max (w8 (vn b)) (Z7 (gU b)));exact iZ6;show wm (min (gn (vn b)) (jcI (gU b))-w8 (vn b));exact iZ6
theorem DV:wV PR 108 DQ:=wK Fq Tryz.func108 kcN koN
theorem DW:AE:=by
 unfold AE jje jiy jjd jjc jf6 jix jhs jg4 jf5 jgd jgO jg3 Prod.q4;intro d k v w;obtain⟨b,B⟩:∃b,b=vB d.1:=⟨_,rfl⟩;have h:DK (vB d.1):=tn.1 k;have x:=h.st;have y:=h.en;have z:=h.e2;have A:=h.ta.un;have l:=jdQ h;have j:=jaH h;have m:=Xd h;have n:wm (gn (vn (vB d.1))-w8 (vn (vB d.1))):=iZ6;have e2:0<=gn (vn (vB d.1))-w8 (vn (vB d.1)):=(by omega);have o:0<PL (gU (vB d.1)):=(by omega);have p:gn (vn (vB d.1))-w8 (vn (vB d.1))<=4611686018427387904:=(by omega);have q:PL (gU (vB d.1))<=1000000000:=(by omega);have r:wm (100*(gn (vn (vB d.1))-w8 (vn (vB d.1)))):=iZ6;have s:100*(gn (vn (vB d.1))-w8 (vn (vB d.1)))<=1000000000:=(by omega);have t:wm (bW (vB d.1)):=DJ m (by omega);have u:wm (cS d.2.1 (vB d.1)):=DJ (Xe h ⟨v,w⟩) (by omega);have a:=DJ (jdO h) (by omega);have c:=DJ (O2 h) (by omega);have e:=DJ (jdP h) (by omega);have f:=DJ j (by omega);have g:m0 (vB d.1)*FO (gU (vB d.1))*gN (vB d.1)<=4611686018427387904:=(by omega);have i:=DJ (jdS h) (by omega);exact⟨n,a,e2,o,p,q,c,e,k,f,r,j.1,l.1,g,s,t,i,u,rfl,rfl⟩
theorem AL:gX PR 68 AD:=CN DW Tryz.func68 (kcC Xj (kcC DV kcN)) koN
theorem Pa (m:Int) (b:BlD):gK m b=(vn b,gU b,PN b,PO b,vS b,ru b,FP b,XX m b,XY m b,()):=by
 unfold XX XY gK
 split
 rfl;rfl
theorem ID:Fl:=by
 unfold Fl jj3 jj2 Prod.q4;intro d;have a:(decide (d.2.1<=w8 (vn (vB d.1)))&&(!tU (vB d.1)||decide (d.2.1<rz (vB d.1))))=true↔(d.2.1<=w8 (vn (vB d.1))/\(tU (vB d.1)=false\/d.2.1<rz (vB d.1))):=by
  simp only[ji,zq,jp,jS]
 refine⟨fun h=>⟨rfl,?_⟩,fun h=>⟨rfl,?_⟩⟩;have e:gK d.2.1 (vB d.1)=(vn (vB d.1),gU (vB d.1),PN (vB d.1),PO (vB d.1),vS (vB d.1),ru (vB d.1),FP (vB d.1),true,d.2.1,()):=by
  unfold gK;rw[jg (a.1 h)]
 have b:XX d.2.1 (vB d.1)=true:=jF tU e;have e2:XY d.2.1 (vB d.1)=d.2.1:=jF rz e;rw[b,e2];rfl;have h:(decide (d.2.1<=w8 (vn (vB d.1)))&&(!tU (vB d.1)||decide (d.2.1<rz (vB d.1))))=false:=h;have e:gK d.2.1 (vB d.1)=vB d.1:=by
  unfold gK;rw[jd (fun c=>by rw[a.2 c] at h;cases h)]
 have b:XX d.2.1 (vB d.1)=tU (vB d.1):=jF tU e;have e2:XY d.2.1 (vB d.1)=rz (vB d.1):=jF rz e;rw[b,e2];rfl
theorem oG:gX PR 69 Fk:=CN ID Tryz.func69 kcN koN
theorem DX:AG:=by
 unfold AG Prod.q4;rintro⟨n,b,⟨⟩⟩ a;have h:DK b:=tn.1 a;have c:=h.st;have d:=h.en;have e:=h.e2;have f:=h.mi;refine⟨?_,rfl⟩;show wm (w8 (vn b)-rz b);exact iZ6
theorem AM:wV PR 71 AF:=wK DX Tryz.func71 kcN koN
theorem IE:Fo:=by
 unfold Fo jjg jhZ jg5 jhY jhX jfW jjf jgP jgv jhW Prod.q4;rintro⟨b,⟨⟩⟩ m;have h:Lx b:=cd.1 m;have hk:=h.bl.kd;have k:bU (yS (vn b))<((aM (gU b)).length:Int):=(by have:=Xf h.bl;omega);have l:=Xg h.bl;have j:=h.bl.ta.cp;refine⟨fun a=>⟨fun g _=>⟨m.1,tZ⟩,fun hi=> ?_,fun hi=> ?_⟩,fun a=> ?_⟩;have hi:0<=Ud b:=ja hi;obtain⟨o,p,_⟩:=DL hi;have f:=QY h o;have n:=Lw (b:=100) f.1 (by omega);have d:vz b=U.up (ru b*X9 (nth (aa (gU b)) (Ud b).toNat)) 100:=jg ⟨a,hi⟩;have c:vT b=0:=jg a;refine⟨hi,p,DJ f (by omega),f.1,by decide,kX f.2 (by decide),by decide,?_⟩;refine DM (w:=U.up (ru b*X9 (nth (aa (gU b)) (Ud b).toNat)) 100) (t:=0) (cp:=Mi (gU b)) (pc:=nth (aM (gU b)) (bU (yS (vn b))).toNat) ⟨n.1,kX n.2 f.2⟩ ⟨by omega,by omega⟩ j l hk.1 k ?_;have e:vd b=(PO b,PN b,vz b,vT b,min (Mi (gU b)) (((vz b+vT b)*nth (aM (gU b)) (bU (yS (vn b))).toNat).tdiv 100),vz b+vT b-min (Mi (gU b)) (((vz b+vT b)*nth (aM (gU b)) (bU (yS (vn b))).toNat).tdiv 100),()):=rfl;rw[d,c] at e;show _=(vd b,());rw[e];rfl;have hi:¬0<=Ud b:=jc hi;have d:vz b=ru b:=jd (fun i=>hi i.2);have c:vT b=0:=jg a;refine DM (w:=ru b) (t:=0) (cp:=Mi (gU b)) (pc:=nth (aM (gU b)) (bU (yS (vn b))).toNat) ⟨h.wk.1,by have:=h.wk.2;omega⟩ ⟨by omega,by omega⟩ j l hk.1 k ?_;have e:vd b=(PO b,PN b,vz b,vT b,min (Mi (gU b)) (((vz b+vT b)*nth (aM (gU b)) (bU (yS (vn b))).toNat).tdiv 100),vz b+vT b-min (Mi (gU b)) (((vz b+vT b)*nth (aM (gU b)) (bU (yS (vn b))).toNat).tdiv 100),()):=rfl;rw[d,c] at e;show _=(vd b,());rw[e];rfl;have a:tU b=false:=a;have d:vz b=ru b:=jd (fun i=>by rw[a] at i;cases i.1);have c:vT b=FP b:=jd (by rw[a];decide);refine DM (w:=ru b) (t:=FP b) (cp:=Mi (gU b)) (pc:=nth (aM (gU b)) (bU (yS (vn b))).toNat) ⟨h.wk.1,by have:=h.wk.2;omega⟩ h.tr j l hk.1 k ?_;have e:vd b=(PO b,PN b,vz b,vT b,min (Mi (gU b)) (((vz b+vT b)*nth (aM (gU b)) (bU (yS (vn b))).toNat).tdiv 100),vz b+vT b-min (Mi (gU b)) (((vz b+vT b)*nth (aM (gU b)) (bU (yS (vn b))).toNat).tdiv 100),()):=rfl;rw[d,c] at e;show _=(vd b,());rw[e];rfl
theorem bi:wV PR 38 Fm:=wK IE Tryz.func38 (kcC Xj (kcC lH (kcC AM kcN))) koN
theorem DY:AI:=by
 unfold AI jj4 jiz Prod.q4;rintro⟨b,m,⟨⟩⟩ a c d;have e:=Pa m b;have h:Lx b:=cd.1 a;have hk:=cd.2 (IA (m:=m) h ⟨c,d⟩);refine⟨?_,?_⟩;show ri (vn b,gU b,PN b,PO b,vS b,ru b,FP b,XX m b,XY m b,());rw[<-e];exact hk;show(vd (vn b,gU b,PN b,PO b,vS b,ru b,FP b,XX m b,XY m b,())).2.2.2.2.2=_;rw[<-e];rfl
theorem lc:wV PR 39 AH:=wK DY Tryz.func39 (kcC bi kcN) (koC oG koN)
@[irreducible] def ZF (C:Ctx) (A:Ann) (c:Code) (σ:St) (K:Ex->St->Prop):Prop:=vcg C A c σ K
theorem ZG {C:Ctx} {A:Ann} {c:Code} {σ:St} {K:Ex->St->Prop} (h:ZF C A c σ K):vcg C A c σ K:=by unfold ZF at h;exact h
structure FE where
 pre:NoD×Unit->Int->List Prop
 K:NoD×Unit->Int->(Bool×Unit)×Int
namespace U
def au (K:NoD×Unit->Int->(Bool×Unit)×Int):NoD×Unit->Int->(Bool×Unit)×Int:=fun x s=>((!(K (x.1,()) s).1.1,()),(K (x.1,()) s).2)
def Eu (pre:NoD×Unit->Int->List Prop):NoD×Unit->Int->List Prop:=fun x s=>[wy (pre (x.1,()) s)]
def yh (K:NoD×Unit->Int->(Bool×Unit)×Int):Nat->List NoD->Int->Int×Int
 |_,[],s=>(-1,s)
 |i,n::r,s=>match(K (n,()) s).1.1 with
  |true=>((i:Int),(K (n,()) s).2)
  |false=>yh K (i+1) r (K (n,()) s).2
def dg (pre:NoD×Unit->Int->List Prop) (K:NoD×Unit->Int->(Bool×Unit)×Int):List NoD->Int->Prop
 |[],_=>True
 |n::r,s=>wy (pre (n,()) s)/\((K (n,()) s).1.1=false->dg pre K r (K (n,()) s).2)
def Rj:NoD×Unit->Int->(Bool×Unit)×Int:=fun x s=>((Ja s x.1,()),X8 x.1)
def jd6:NoD×Unit->Int->List Prop:=fun _ s=>[-4611686018427387904<=s,s<=4611686018427387904]
end U
def jci (st:Ty) (ps rs:List Ty) (pre:(Ty.st ps).Data->st.Data->List Prop) (K:(Ty.st ps).Data->st.Data->(Ty.st rs).Data×st.Data):Option FE:=
 if a:st= .int then if b:ps=[tNo] then if c:rs=[.bool] then some ⟨by subst a;subst b;exact pre,by subst a;subst b;subst c;exact K⟩ else none else none else none
def jei:SV->Option (Nat×FE)
 | .fe false o T st ps rs pre K=>match Nat.beq T 3,jci st ps rs pre K with
  |true,some y=>some (o,y)
  |_,_=>none
 |_=>none
def jeE (σ:St) (b:Nat):Option (Nat×FE):=match σ.obj b with
 |some (.box _ _ [c])=>jei c
 |_=>none
def Xk (σ:St) (o:Nat):Option Int:=match σ.obj o with
 |some (.box T false [c])=>match Nat.beq T 3,y9 σ .int c with
  |true,some (s,[])=>some s
  |_,_=>none
 |_=>none
def Xl (σ:St):List SV->Option Out
 |[a,b]=>match y9 σ (.slice tNo) a,jei b with
  |some (l,fz),some (o,y)=>match bY fz o,Xk σ o with
   |false,some s=>some ⟨[dg y.pre y.K l s],[],xO [.int] ((yh y.K 0 l s).1,()),fz,[(o,some (.box 3 false [.dat .int (yh y.K 0 l s).2]))],[]⟩
   |_,_=>none
  |_,_=>none
 |_=>none
def Xm (σ:St):List SV->Option Out
 |[a,.clo f [.bp b 0]]=>match Nat.beq f 133,y9 σ (.slice tNo) a,jeE σ b with
  |true,some (l,fz),some (o,y)=>match bY (b::fz) o,Xk σ o with
   |false,some s=>some ⟨[dg (Eu y.pre) (au y.K) l s],[],xO [.bool] (decide (0<=(yh (au y.K) 0 l s).1),()),b::fz,[(o,some (.box 3 false [.dat .int (yh (au y.K) 0 l s).2]))],[]⟩
   |_,_=>none
  |_,_,_=>none
 |_=>none
def ZH (σ:St):List SV->Option Out
 |[a,.clo f [.bp o 0]]=>match Nat.beq f 86,y9 σ (.slice tNo) a with
  |true,some (l,fz)=>match bY fz o,Xk σ o with
   |false,some s=>some ⟨[dg (Eu jd6) (au Rj) l s],[],xO [.bool] (!decide (0<=(yh (au Rj) 0 l s).1),()),fz,[(o,some (.box 3 false [.dat .int (yh (au Rj) 0 l s).2]))],[]⟩
   |_,_=>none
  |_,_=>none
 |_=>none
def jaJ (n:Nat) (fs:List (Nat×wQ)) (k:Nat) (e:St->List SV->Option Out):Ctx:=⟨n,ti,fs,fun f _ σ svs=>match Nat.beq f k with|true=>e σ svs|false=>none,strs,false⟩
def dU:Prop:=∀(n:NoD) (s:Int),-4611686018427387904<=s->s<=4611686018427387904->
 ZF (ctx 18 [(37,aW),(87,co)] []) (fun _=>none) (qf Tryz.f86) ⟨[(0,.dat tNo n),(1,.bp gF 0)],[(gF,some (.box 3 false [.dat .int s]))]⟩
  (mc (ctx 18 [(37,aW),(87,co)] []) Tryz.f86 3 .int [.bool] (Rj (n,()) s))
def mR:Prop:=∀(n:NoD) (s:Int),(-4611686018427387904:Int)<=s->s<=4611686018427387904->wm (s-1)/\(k8 n.1 (0:Int) (s-1)&&U.share n.2.1,())=(Rj (n,()) s).1/\n.1=(Rj (n,()) s).2
theorem tw:(dU)=mR:=by kernel_rfl
def aA:Prop:=∀(n:NoD) (y:FE) (s:Int),wy (y.pre (n,()) s)->
 ZF (ctx 8 [] []) (fun _=>none) (qf Tryz.f133) ⟨[(0,.dat tNo n),(1,.fe true gF 3 .int [tNo] [.bool] y.pre y.K)],[(gF,some (.box 3 false [.dat .int s]))]⟩
  (mc (ctx 8 [] []) Tryz.f133 3 .int [.bool] (au y.K (n,()) s))
def cG:Prop:=∀(n:NoD) (y:FE) (s:Int),wy (y.pre (n,()) s)->asks (y.1 (n,()) s) ((!(y.2 (n,()) s).1.1,())=(au y.2 (n,()) s).1/\(y.2 (n,()) s).2=(au y.2 (n,()) s).2)
theorem lJ:(aA)=cG:=by kernel_rfl
def Xn (K:NoD×Unit->Int->(Bool×Unit)×Int) (pre:NoD×Unit->Int->List Prop) (s:Int):Ann:=fun r=>match r with
 |2=>some fun σ=>{X:=Nat×Int,sl:=fun x=>[(8,.dat .int (x.1:Int))],ob:=fun x=>[(gF,some (.box 3 false [.dat .int x.2]))],inv:=fun x=>x.1<=(gd (.slice tNo) σ 0).length/\yh K x.1 ((gd (.slice tNo) σ 0).drop x.1) x.2=yh K 0 (gd (.slice tNo) σ 0) s/\dg pre K ((gd (.slice tNo) σ 0).drop x.1) x.2,mu:=fun x=>(gd (.slice tNo) σ 0).length-x.1}
 |_=>none
def fA:Prop:=∀(l:List NoD) (y:FE) (s:Int),dg y.pre y.K l s->
 ZF (ctx 19 [] []) (Xn y.K y.pre s) (qf Tryz.f70) ⟨[(0,.dat (.slice tNo) l),(1,.fe false gF 3 .int [tNo] [.bool] y.pre y.K)],[(gF,some (.box 3 false [.dat .int s]))]⟩
  (mc (ctx 19 [] []) Tryz.f70 3 .int [.int] (((yh y.K 0 l s).1,()),(yh y.K 0 l s).2))
abbrev jh0 (l:List NoD)(x:Nat×Int):=(nth l (x.1:Int).toNat,())
def gQ:Prop:=∀(l:List NoD) (y:FE) (s:Int),dg y.pre y.K l s->l.length<4611686018427387904->(∃(x:Nat×Int),((0=(x.1:Int)/\True)/\(s=x.2/\True)/\True)/\x.1<=l.length/\yh y.2 x.1 (List.drop x.1 l) x.2=yh y.2 0 l s/\dg y.1 y.2 (List.drop x.1 l) x.2)/\∀(x:Nat×Int),x.1<=l.length/\yh y.2 x.1 (List.drop x.1 l) x.2=yh y.2 0 l s/\dg y.1 y.2 (List.drop x.1 l) x.2->(decide ((x.1:Int)<l.length)=true->0<=(x.1:Int)/\(x.1:Int)<l.length/\asks (y.1 (jh0 l x) x.2) (((y.2 (jh0 l x) x.2).1.1=true->((x.1:Int),())=((yh y.2 0 l s).1,())/\(y.2 (jh0 l x) x.2).2=(yh y.2 0 l s).2)/\((y.2 (jh0 l x) x.2).1.1=false->wm ((x.1:Int)+1)/\∃(a:Nat×Int),(((x.1:Int)+1=(a.1:Int)/\True)/\((y.2 (jh0 l x) x.2).2=a.2/\True)/\True)/\(a.1<=l.length/\yh y.2 a.1 (List.drop a.1 l) a.2=yh y.2 0 l s/\dg y.1 y.2 (List.drop a.1 l) a.2)/\l.length-a.1<l.length-x.1)))/\(decide ((x.1:Int)<l.length)=false->((-1:Int),())=((yh y.2 0 l s).1,())/\x.2=(yh y.2 0 l s).2)
theorem ce:(fA)=gQ:=by kernel_rfl
def cH:Prop:=∀(l:List NoD) (y:FE) (s:Int),dg y.pre y.K l s->
 ZF (jaJ 9 [] 70 Xl) (fun _=>none) (qf Tryz.f132) ⟨[(0,.dat (.slice tNo) l),(1,.fe false gF 3 .int [tNo] [.bool] y.pre y.K)],[(gF,some (.box 3 false [.dat .int s]))]⟩
  (mc (jaJ 9 [] 70 Xl) Tryz.f132 3 .int [.bool] ((decide (0<=(yh y.K 0 l s).1),()),(yh y.K 0 l s).2))
def y5:Prop:=∀(l:List NoD) (y:FE) (s:Int),dg y.pre y.K l s->dg y.1 y.2 l s/\(decide (0<=(yh y.2 0 l s).1),())=(decide (0<=(yh y.2 0 l s).1),())/\(yh y.2 0 l s).2=(yh y.2 0 l s).2
theorem aX:(cH)=y5:=by kernel_rfl
def AN:Prop:=∀(l:List NoD) (y:FE) (s:Int),dg (Eu y.pre) (au y.K) l s->
 ZF (jaJ 9 [] 132 Xm) (fun _=>none) (qf Tryz.f88) ⟨[(0,.dat (.slice tNo) l),(1,.fe false gF 3 .int [tNo] [.bool] y.pre y.K)],[(gF,some (.box 3 false [.dat .int s]))]⟩
  (mc (jaJ 9 [] 132 Xm) Tryz.f88 3 .int [.bool] ((!decide (0<=(yh (au y.K) 0 l s).1),()),(yh (au y.K) 0 l s).2))
def fB:Prop:=∀(l:List NoD) (y:FE) (s:Int),dg (Eu y.pre) (au y.K) l s->dg (Eu y.1) (au y.2) l s/\(!decide (0<=(yh (au y.2) 0 l s).1),())=(!decide (0<=(yh (au y.2) 0 l s).1),())/\(yh (au y.2) 0 l s).2=(yh (au y.2) 0 l s).2
theorem oh:(AN)=fB:=by kernel_rfl
def tz:wQ:=⟨[.val tTa],[.bool],false,fun _=>[],fun d=>(ym d.1,())⟩
def tA:Ann:=fun r=>match r with
 |3000003=>some fun _=>{X:=Unit,sl:=fun _=>[],ob:=fun _=>[],inv:=fun _=>True,mu:=fun _=>0}
 |_=>none
abbrev jgQ:=(wb fun(a:Int×Unit)=>(U.share a.1,()))
abbrev jgg (d:TaD×Unit):=((d.1.q4.q4.2.1.length:Int)<=4)
abbrev jgR (d:TaD×Unit):=((d.1.q4.q4.1.length:Int)=4)
abbrev jgh (d:TaD×Unit):=d.1.q4.2.2.2.1
abbrev jf7 (d:TaD×Unit):=(ym d.1,())
abbrev jgi (d:TaD×Unit):=d.1.q4.2.2.1
def tB:Prop:=∀(d:TaD×Unit),(k8 d.1.1 (1:Int) 240=true->k8 d.1.1 (1:Int) 240=true/\k8 d.1.1 (1:Int) 240=true/\k8 d.1.1 (1:Int) 240=true/\(k8 d.1.2.1 (0:Int) 10000=true->k8 d.1.2.1 (0:Int) 10000=true/\k8 d.1.2.1 (0:Int) 10000=true/\k8 d.1.2.1 (0:Int) 10000=true/\(k8 d.1.2.2.1 (0:Int) 20=true->k8 d.1.2.2.1 (0:Int) 20=true/\k8 d.1.2.2.1 (0:Int) 20=true/\k8 d.1.2.2.1 (0:Int) 20=true/\(k8 d.1.2.2.2.1 (0:Int) 1440=true->k8 d.1.2.2.2.1 (0:Int) 1440=true/\k8 d.1.2.2.2.1 (0:Int) 1440=true/\k8 d.1.2.2.2.1 (0:Int) 1440=true/\k8 d.1.2.2.2.1 (0:Int) 1440=true/\k8 d.1.2.2.2.1 (0:Int) 1440=true/\(k8 d.1.q4.1 (0:Int) d.1.2.2.2.1=true->k8 d.1.q4.1 (0:Int) d.1.2.2.2.1=true/\k8 d.1.q4.1 (0:Int) d.1.2.2.2.1=true/\k8 d.1.q4.1 (0:Int) d.1.2.2.2.1=true/\(U.share d.1.q4.2.1=true->U.share d.1.q4.2.1=true/\U.share d.1.q4.2.1=true/\U.share d.1.q4.2.1=true/\(k8 (jgi d) (0:Int) 10000=true->k8 (jgi d) (0:Int) 10000=true/\k8 (jgi d) (0:Int) 10000=true/\(d.1.q4.q4.1.length<4611686018427387904->k8 (jgi d) (0:Int) 10000=true/\k8 (jgi d) (0:Int) 10000=true/\(decide (jgR d)=true->decide (jgR d)=true/\decide (jgR d)=true/\(∀(g:Int),g∈d.1.q4.q4.1->wy [])/\decide (jgR d)=true/\(d.1.q4.q4.1.all jgQ=true->d.1.q4.q4.1.all jgQ=true/\d.1.q4.q4.1.all jgQ=true/\d.1.q4.q4.1.all jgQ=true/\(k8 (jgh d) (0:Int) 1000000=true->k8 (jgh d) (0:Int) 1000000=true/\k8 (jgh d) (0:Int) 1000000=true/\(d.1.q4.q4.2.1.length<4611686018427387904->k8 (jgh d) (0:Int) 1000000=true/\k8 (jgh d) (0:Int) 1000000=true/\(decide (jgg d)=true->decide (jgg d)=true/\decide (jgg d)=true/\decide (jgg d)=true/\dg (Eu jd6) (au Rj) d.1.q4.q4.2.1 (100001:Int)/\decide (jgg d)=true/\(!decide (0<=(yh (au Rj) 0 d.1.q4.q4.2.1 (100001:Int)).1),())=(jf7 d))/\(decide (jgg d)=false->decide (jgg d)=false/\decide (jgg d)=false/\decide (jgg d)=false/\decide (jgg d)=false/\(false,())=(jf7 d))))/\(k8 (jgh d) (0:Int) 1000000=false->k8 (jgh d) (0:Int) 1000000=false/\k8 (jgh d) (0:Int) 1000000=false/\k8 (jgh d) (0:Int) 1000000=false/\k8 (jgh d) (0:Int) 1000000=false/\qF/\qF/\qF/\qF/\qF/\(false,())=(jf7 d)))/\(d.1.q4.q4.1.all jgQ=false->d.1.q4.q4.1.all jgQ=false/\d.1.q4.q4.1.all jgQ=false/\d.1.q4.q4.1.all jgQ=false/\qF/\qF/\qF/\qF/\qF/\qF/\qF/\qF/\qF/\qF/\(false,())=(jf7 d)))/\(decide (jgR d)=false->decide (jgR d)=false/\decide (jgR d)=false/\decide (jgR d)=false/\qF/\qF/\qF/\qF/\qF/\qF/\qF/\qF/\qF/\qF/\qF/\qF/\qF/\qF/\(false,())=(jf7 d))))/\(k8 (jgi d) (0:Int) 10000=false->k8 (jgi d) (0:Int) 10000=false/\k8 (jgi d) (0:Int) 10000=false/\k8 (jgi d) (0:Int) 10000=false/\k8 (jgi d) (0:Int) 10000=false/\qF/\qF/\qF/\qF/\qF/\qF/\qF/\qF/\qF/\qF/\qF/\qF/\qF/\qF/\qF/\qF/\qF/\qF/\(false,())=(jf7 d)))/\(U.share d.1.q4.2.1=false->U.share d.1.q4.2.1=false/\U.share d.1.q4.2.1=false/\U.share d.1.q4.2.1=false/\qF/\qF/\qF/\qF/\qF/\qF/\qF/\qF/\qF/\qF/\qF/\qF/\qF/\qF/\qF/\qF/\qF/\qF/\qF/\qF/\qF/\qF/\qF/\(false,())=(jf7 d)))/\(k8 d.1.q4.1 (0:Int) d.1.2.2.2.1=false->k8 d.1.q4.1 (0:Int) d.1.2.2.2.1=false/\k8 d.1.q4.1 (0:Int) d.1.2.2.2.1=false/\k8 d.1.q4.1 (0:Int) d.1.2.2.2.1=false/\qF/\qF/\qF/\qF/\qF/\qF/\qF/\qF/\qF/\qF/\qF/\qF/\qF/\qF/\qF/\qF/\qF/\qF/\qF/\qF/\qF/\qF/\qF/\qF/\qF/\qF/\qF/\(false,())=(jf7 d)))/\(k8 d.1.2.2.2.1 (0:Int) 1440=false->k8 d.1.2.2.2.1 (0:Int) 1440=false/\k8 d.1.2.2.2.1 (0:Int) 1440=false/\k8 d.1.2.2.2.1 (0:Int) 1440=false/\k8 d.1.2.2.2.1 (0:Int) 1440=false/\k8 d.1.2.2.2.1 (0:Int) 1440=false/\qF/\qF/\qF/\qF/\qF/\qF/\qF/\qF/\qF/\qF/\qF/\qF/\qF/\qF/\qF/\qF/\qF/\qF/\qF/\qF/\qF/\qF/\qF/\qF/\qF/\qF/\qF/\qF/\qF/\qF/\qF/\(false,())=(jf7 d)))/\(k8 d.1.2.2.1 (0:Int) 20=false->k8 d.1.2.2.1 (0:Int) 20=false/\k8 d.1.2.2.1 (0:Int) 20=false/\k8 d.1.2.2.1 (0:Int) 20=false/\qF/\qF/\qF/\qF/\qF/\qF/\qF/\qF/\qF/\qF/\qF/\qF/\qF/\qF/\qF/\qF/\qF/\qF/\qF/\qF/\qF/\qF/\qF/\qF/\qF/\qF/\qF/\qF/\qF/\qF/\qF/\qF/\qF/\qF/\qF/\qF/\qF/\(false,())=(jf7 d)))/\(k8 d.1.2.1 (0:Int) 10000=false->k8 d.1.2.1 (0:Int) 10000=false/\k8 d.1.2.1 (0:Int) 10000=false/\k8 d.1.2.1 (0:Int) 10000=false/\qF/\qF/\qF/\qF/\qF/\qF/\qF/\qF/\qF/\qF/\qF/\qF/\qF/\qF/\qF/\qF/\qF/\qF/\qF/\qF/\qF/\qF/\qF/\qF/\qF/\qF/\qF/\qF/\qF/\qF/\qF/\qF/\qF/\qF/\qF/\qF/\qF/\qF/\qF/\qF/\qF/\(false,())=(jf7 d)))/\(k8 d.1.1 (1:Int) 240=false->k8 d.1.1 (1:Int) 240=false/\k8 d.1.1 (1:Int) 240=false/\k8 d.1.1 (1:Int) 240=false/\qF/\qF/\qF/\qF/\qF/\qF/\qF/\qF/\qF/\qF/\qF/\qF/\qF/\qF/\qF/\qF/\qF/\qF/\qF/\qF/\qF/\qF/\qF/\qF/\qF/\qF/\qF/\qF/\qF/\qF/\qF/\qF/\qF/\qF/\qF/\qF/\qF/\qF/\qF/\qF/\qF/\qF/\qF/\qF/\qF/\(false,())=(jf7 d))
theorem AO:jcT (jaJ 69 [(37,aW),(87,co),(52,dT)] 88 ZH) (tA) Tryz.f55 (qf Tryz.f55) tz=tB:=by kernel_rfl
theorem LK (K:NoD×Unit->Int->(Bool×Unit)×Int) (i:Nat) (n:NoD) (r:List NoD) (s:Int):yh K i (n::r) s=if(K (n,()) s).1.1=true then((i:Int),(K (n,()) s).2) else yh K (i+1) r (K (n,()) s).2:=by
 rw[yh];cases (K (n,()) s).1.1 with
 |true=>rfl
 |false=>rfl
theorem Fr:mR:=by
 intro n s a b;exact⟨iZ6,rfl,rfl⟩
theorem tC:cG:=by
 intro n y s h;exact vV _ h ⟨rfl,rfl⟩
theorem fC:gQ:=by
 unfold gQ jh0;intro l y s j m;refine⟨⟨(0,s),⟨⟨rfl,tZ⟩,⟨rfl,tZ⟩,tZ⟩,jl _,rfl,j⟩,fun x d=>⟨fun h=> ?_,fun h=> ?_⟩⟩;obtain⟨i,s1⟩:=x;have hi:i<l.length:=(by simpa using h);obtain⟨_,a,b⟩:=d;have g:l.drop i=nth l i::l.drop (i+1):=(by rw[L.qM hi];exact z7 hi);simp only at a b;rw[g] at a b;rw[LK] at a;obtain⟨e,f⟩:=b;simp only[jw];refine⟨by omega,by omega,vV _ e ⟨fun k=> ?_,fun c=>⟨iZ6,(i+1,(y.2 (nth l i,()) s1).2),⟨⟨by simp,tZ⟩,⟨rfl,tZ⟩,tZ⟩,⟨hi,?_,f c⟩,by simp only;omega⟩⟩⟩;rw[jg k] at a;rw[<-a];exact⟨rfl,rfl⟩;rw[jd (by rw[c];decide)] at a;exact a;obtain⟨i,s1⟩:=x;have hi:l.length<=i:=(by simpa using h);obtain⟨_,a,_⟩:=d;simp only at a;rw[List.drop_eq_nil_of_le hi] at a;have a:((-1:Int),s1)=yh y.2 0 l s:=a;rw[<-a];exact⟨rfl,rfl⟩
theorem cI:y5:=fun _ _ _ h=>⟨h,rfl,rfl⟩
theorem AP:fB:=fun _ _ _ h=>⟨h,rfl,rfl⟩
theorem Xo {P:Program} {C:Ctx} {w:World} (g:C.ok P) (m:P.follows .mixedOrders=true) {f:Nat} {fn:Func} {body:Code} (j:P.funcs[f]? =some fn) (i:fn.body=some body)
 (o:fn.ntmps=C.n) (A:Ann) {T:Nat} {st:Ty} {rs:List Ty} {a:(Ty.st rs).Data×st.Data} {s:st.Data} {sl:List (Nat×SV)} {vals:List Value}
 (q:ZF C A body ⟨sl,[(gF,some (.box T false [.dat st s]))]⟩ (mc C fn T st rs a)) (c:Nat.ble vals.length C.n=true)
 {H:Imm} {b:Nat} {u:Value} (l:fM H w) (h:H b=none) (r:w.heap[b]? =some (.cells #[u] T (0,0))) (e:st.agg=false) (p:st.rv H u s)
 (d:∀ρ:Env,ρ.H=H->ρ.blk gF=some (some (b,0))->∀k v,wH sl k=some v->∃x,vals[k]? =some x/\SV.den P ρ v x):
 Calls P f vals.toArray w (Rq H w b T st rs a):=
 jeu g m j i o A (jy c) (ZG q) l h r e p d
abbrev FnG (H:Imm) (b:Nat) (y:FE) (v:Value):Prop:=FnE PR H b 3 .int [tNo] [.bool] y.pre y.K v
theorem Xp {H:Imm} {t:Ty} {vals:List Value} {x:(Ty.st [t]).Data} (h:rvs H [t] vals x):∃v,vals=[v]/\t.rv H v x.1:=by
 match vals,h with
 |[v],h=>exact⟨v,rfl,h.1⟩
 |[],h=>exact h.elim
 |_::_::_,h=>have:=h.2;simp[rvs] at this
theorem Xq (q:aA) {H:Imm} {b:Nat} {y:FE} {i:Value} {g:Nat} (l:FnG H b y i) (m:H g=some (.cells #[i])):
 FnG H b ⟨Eu y.pre,au y.K⟩ (.func (.func 133) #[] #[.pointer (some ⟨g,0,none⟩)]):=by
 refine⟨133,_,rfl,vK Tryz.func133 (c:=qf Tryz.f133) (by kernel_rfl) (by kernel_rfl),fun H' w vals x s u j o n z r t f=> ?_⟩;obtain⟨v,rfl,h⟩:=Xp t;have key:=Xo (P:=PR) (C:=ctx 8 [] []) (oD trivial trivial) mixed Tryz.func133 (body:=qf Tryz.f133) (by kernel_rfl) (by kernel_rfl) (fun _=>none) (T:=3) (st:= .int) (rs:=[.bool])
  (vals:=[v,.pointer (some ⟨g,0,none⟩)]) (q x.1 y s f.1) (by kernel_rfl) o n z rfl r
 refine key (fun ρ d e k sv hk=> ?_)
 match k,hk with
 |0,hk=>
  have hk:some (SV.dat tNo x.1)=some sv:=hk;simp only[jz] at hk;subst hk;exact⟨v,rfl,by simp only[SV.den];rw[d];exact h⟩
 |1,hk=>
  have hk:some (SV.fe true gF 3 .int [tNo] [.bool] y.pre y.K)=some sv:=hk;simp only[jz] at hk;subst hk;refine⟨_,rfl,?_⟩;simp only[SV.den];intro p a;rw[e] at a;simp at a;subst a;refine⟨b,0,rfl,i,?_,g,rfl,?_⟩;rw[d];exact FnE.mono j l;rw[d];exact j _ _ m
 |k+2,hk=>cases hk
theorem Tr (j:dU) (H:Imm) (b:Nat):FnG H b ⟨jd6,Rj⟩ (.func (.func 86) #[] #[.pointer (some ⟨b,0,none⟩)]):=by
 refine⟨86,_,rfl,vK Tryz.func86 (c:=qf Tryz.f86) (by kernel_rfl) (by kernel_rfl),fun H' w vals x s u o i h n l m a=> ?_⟩;obtain⟨v,rfl,f⟩:=Xp m;have key:=Xo (P:=PR) (C:=ctx 18 [(37,aW),(87,co)] []) (oD ⟨fun _=>yN,fun _=>GR,tZ⟩ trivial) mixed Tryz.func86 (body:=qf Tryz.f86) (by kernel_rfl) (by kernel_rfl) (fun _=>none) (T:=3) (st:= .int) (rs:=[.bool])
  (vals:=[v,.pointer (some ⟨b,0,none⟩)]) (j x.1 s a.1 a.2.1) (by kernel_rfl) i h n rfl l
 refine key (fun ρ g e k sv hk=> ?_)
 match k,hk with
 |0,hk=>
  have hk:some (SV.dat tNo x.1)=some sv:=hk;simp only[jz] at hk;subst hk;exact⟨v,rfl,by simp only[SV.den];rw[g];exact f⟩
 |1,hk=>
  have hk:some (SV.bp gF 0)=some sv:=hk;simp only[jz] at hk;subst hk;refine⟨_,rfl,?_⟩;simp only[SV.den];intro p d;rw[e] at d;simp at d;subst d;exact⟨b,0,rfl,rfl⟩
 |k+2,hk=>cases hk
def EN (f:Nat) (rs:List Ty) (pre:FE->List NoD->Int->Prop) (K:FE->List NoD->Int->(Ty.st rs).Data×Int):Prop:=
 ∀(l:List NoD) (y:FE) (s:Int) (H:Imm) (w:World) (b:Nat) (lv a u:Value),fM H w->H b=none->w.heap[b]? =some (.cells #[u] 3 (0,0))->Ty.int.rv H u s->
  (Ty.slice tNo).rv H lv l->FnG H b y a->pre y l s->Calls PR f #[lv,a] w (Rq H w b 3 .int rs (K y l s))
theorem jcj {C:Ctx} (j:C.ok PR) {f:Nat} {fn:Func} {body:Code} (o:PR.funcs[f]? =some fn) (m:fn.body=some body) (t:fn.ntmps=C.n) (i:Nat.ble 2 C.n=true) (A:FE->Int->Ann) {rs:List Ty}
 {pre:FE->List NoD->Int->Prop} {K:FE->List NoD->Int->(Ty.st rs).Data×Int}
 (x:∀(l:List NoD) (y:FE) (s:Int),pre y l s->ZF C (A y s) body ⟨[(0,.dat (.slice tNo) l),(1,.fe false gF 3 .int [tNo] [.bool] y.pre y.K)],[(gF,some (.box 3 false [.dat .int s]))]⟩ (mc C fn 3 .int rs (K y l s))):EN f rs pre K:=by
 intro l y s H w b lv h u q g z v r B d;have key:=Xo (P:=PR) j mixed o m t (A y s) (T:=3) (st:= .int) (rs:=rs) (vals:=[lv,h]) (x l y s d) i q g z rfl v;refine key (fun ρ e c k sv hk=> ?_)
 match k,hk with
 |0,hk=>
  have hk:some (SV.dat (.slice tNo) l)=some sv:=hk;simp only[jz] at hk;subst hk;exact⟨lv,rfl,by simp only[SV.den];rw[e];exact r⟩
 |1,hk=>
  have hk:some (SV.fe false gF 3 .int [tNo] [.bool] y.pre y.K)=some sv:=hk;simp only[jz] at hk;subst hk;refine⟨_,rfl,?_⟩;simp only[SV.den];intro p a;rw[c] at a;simp at a;subst a;exact⟨b,0,rfl,h,by rw[e];exact B,rfl⟩
 |k+2,hk=>cases hk
theorem uX {σ:St} {o:Nat} {s:Int} (h:Xk σ o=some s):∃c,σ.obj o=some (.box 3 false [c])/\y9 σ .int c=some (s,[]):=by
 unfold Xk at h
 split at h
 case h_2=>cases h
 rename_i T c d
 split at h
 case h_2=>cases h
 rename_i e a b;simp at h;subst h;have:=jb a;subst this;exact⟨c,d,b⟩
theorem Tt {q:Bool} {o T:Nat} {st:Ty} {ps rs:List Ty} {pre:(Ty.st ps).Data->st.Data->List Prop} {K:(Ty.st ps).Data->st.Data->(Ty.st rs).Data×st.Data} {y:FE} (h:jci st ps rs pre K=some y):
 SV.fe q o T st ps rs pre K=SV.fe q o T .int [tNo] [.bool] y.pre y.K:=by
 unfold jci at h
 split at h
 case isFalse=>cases h
 rename_i a
 split at h
 case isFalse=>cases h
 rename_i b
 split at h
 case isFalse=>cases h
 rename_i c;subst a;subst b;subst c;simp at h;subst h;rfl
theorem LL {v:SV} {o:Nat} {y:FE} (h:jei v=some (o,y)):v= .fe false o 3 .int [tNo] [.bool] y.pre y.K:=by
 unfold jei at h
 split at h
 case h_2=>cases h
 rename_i o' T st ps rs pre K
 split at h
 case h_2=>cases h
 rename_i c a b;simp at h;obtain⟨rfl,rfl⟩:=h;have:=jb a;subst this;exact Tt b
theorem Xr {σ:St} {b o:Nat} {y:FE} (h:jeE σ b=some (o,y)):∃T fz,σ.obj b=some (.box T fz [.fe false o 3 .int [tNo] [.bool] y.pre y.K]):=by
 unfold jeE at h
 split at h
 case h_2=>cases h
 rename_i d fz c a;rw[LL h] at a;exact⟨_,_,a⟩
abbrev jeF (y:FE) (l:List NoD) (s:Int):(Ty.st [.int]).Data×Int:=(((yh y.K 0 l s).1,()),(yh y.K 0 l s).2)
abbrev jeG (y:FE) (l:List NoD) (s:Int):(Ty.st [.bool]).Data×Int:=((decide (0<=(yh y.K 0 l s).1),()),(yh y.K 0 l s).2)
abbrev jeH (y:FE) (l:List NoD) (s:Int):(Ty.st [.bool]).Data×Int:=((!decide (0<=(yh (au y.K) 0 l s).1),()),(yh (au y.K) 0 l s).2)
theorem Pb (L:EN 70 [.int] (fun y l s=>dg y.pre y.K l s) jeF) {σ:St} {svs:List SV} {out:Out} (h:Xl σ svs=some out) {B:qW} {ρ:Env} {w:World} {vals:List Value} (I:Sat PR B ρ σ.obj w) (C:SV.denL PR ρ svs vals)
 (t:yk out.vc):Calls PR 70 vals.toArray w (fun e w'=>∃v,e= .returned v/\wC PR B ρ σ out v w'):=by
 unfold Xl at h
 split at h
 case h_2=>cases h
 rename_i a c
 split at h
 case h_2=>cases h
 rename_i l fz o y M n
 split at h
 case h_2=>cases h
 rename_i s q O;simp at h;subst h;obtain⟨S,_⟩:=t;have F:=LL n;subst F;simp only[SV.denL] at C;obtain⟨D,_,rfl,E,vc,_,rfl,x,rfl⟩:=C;obtain⟨c,R,J⟩:=uX O;refine mf (st:= .int) (rs:=[.int]) (r:=jeF y l s) I fz q R rfl (fun ρ1 b V u d g f N G Q m=> ?_);have A:=yD σ fz;have P:=wF d A J (fun o i=>by simp at i) m;have p:=wF d A M (fun o i=>i) (SV.den_mono g a D (fun o i=>by simp at i) E);simp only[SV.den] at x;obtain⟨W,C',z,T,k,j⟩:=x _ (by rw[<-f];exact N);simp at z;obtain⟨rfl,rfl⟩:=z;have j:vc=T:=j;subst j;exact L l y s ρ1.H w b D vc u d.good G Q P p (FnE.mono g.H k) S
theorem Pc (D:aA) (he:EN 132 [.bool] (fun y l s=>dg y.pre y.K l s) jeG) {σ:St} {svs:List SV} {out:Out} (h:Xm σ svs=some out) {B:qW} {ρ:Env} {w:World} {vals:List Value} (hS:Sat PR B ρ σ.obj w)
 (R:SV.denL PR ρ svs vals) (L:yk out.vc):Calls PR 132 vals.toArray w (fun e w'=>∃v,e= .returned v/\wC PR B ρ σ out v w'):=by
 unfold Xm at h
 split at h
 case h_2=>cases h
 rename_i a f j
 split at h
 case h_2=>cases h
 rename_i l fz o y hf hl E
 split at h
 case h_2=>cases h
 rename_i s I hs;simp at h;subst h;obtain⟨q1,_⟩:=L;simp only[SV.denL] at R;obtain⟨S,_,rfl,Z,vc,_,rfl,O,rfl⟩:=R;simp only[SV.den,SV.denL] at O;obtain⟨vs,rfl,v5,_,i,Y,rfl⟩:=O;have i:vs= #[v5]:=jJ.1 (by simpa using i);subst i;have:=jb hf;subst this;obtain⟨c,hx,hc⟩:=uX hs;obtain⟨W,fz5,M⟩:=Xr E;refine mf (st:= .int) (rs:=[.bool]) (r:=jeG ⟨Eu y.pre,au y.K⟩ l s) hS (j::fz) I hx rfl (fun ρ1 b Cp u d G k hp hH hw C=> ?_);have x:=yD σ (j::fz);have hu:=wF d x hc (fun o m=>by simp at m) C;have F:=wF d x hl (fun o m=>jm _ m) (SV.den_mono G a S (fun o m=>by simp at m) Z);have n:(σ.frz (j::fz)).obj j=some (.box W true [.fe false o 3 .int [tNo] [.bool] y.pre y.K]):=(by rw[(x j).2 (by simp),M];rfl);obtain⟨p5,J,b5,C5,N,rfl,hw5,g,_,A⟩:=d.obs j _ n;obtain⟨X,V,Q,q⟩:=Y _ (by rw[<-k];exact J);simp at Q;obtain⟨rfl,rfl⟩:=Q;subst q;simp only[SV.denL,SV.den] at g;obtain⟨T,_,t,hy,rfl⟩:=g;have t:N= #[T]:=jJ.1 (by simpa using t);subst t;obtain⟨b',C',P,u',z,p⟩:=hy _ hp;simp at P;obtain⟨rfl,rfl⟩:=P;have p:T=u':=p;subst p;exact he l ⟨Eu y.pre,au y.K⟩ s ρ1.H w b S _ u d.good hH hw hu F (Xq D z A) q1
theorem Pd (P:dU) (J:EN 88 [.bool] (fun y l s=>dg (Eu y.pre) (au y.K) l s) jeH) {σ:St} {svs:List SV} {out:Out} (h:ZH σ svs=some out) {B:qW} {ρ:Env} {w:World} {vals:List Value} (G:Sat PR B ρ σ.obj w)
 (A:SV.denL PR ρ svs vals) (q:yk out.vc):Calls PR 88 vals.toArray w (fun e w'=>∃v,e= .returned v/\wC PR B ρ σ out v w'):=by
 unfold ZH at h
 split at h
 case h_2=>cases h
 rename_i a f o
 split at h
 case h_2=>cases h
 rename_i l fz L M
 split at h
 case h_2=>cases h
 rename_i s p O;simp at h;subst h;obtain⟨T,_⟩:=q;simp only[SV.denL] at A;obtain⟨C,_,rfl,E,vc,_,rfl,t,rfl⟩:=A;simp only[SV.den,SV.denL] at t;obtain⟨vs,rfl,V,_,d,D,rfl⟩:=t;have d:vs= #[V]:=jJ.1 (by simpa using d);subst d;have:=jb L;subst this;obtain⟨c,S,I⟩:=uX O;refine mf (st:= .int) (rs:=[.bool]) (r:=jeH ⟨jd6,Rj⟩ l s) G fz p S rfl (fun ρ1 b W u g n i N F R k=> ?_);have z:=yD σ fz;have Q:=wF g z I (fun o j=>by simp at j) k;have m:=wF g z M (fun o j=>j) (SV.den_mono n a C (fun o j=>by simp at j) E);obtain⟨X,C',x,ev⟩:=D _ (by rw[<-i];exact N);simp at x;obtain⟨rfl,rfl⟩:=x;subst ev;exact J l ⟨jd6,Rj⟩ s ρ1.H w b C _ u g.good F R Q m (Tr P ρ1.H b) T
theorem Pe {n:Nat} {fs:List (Nat×wQ)} {k:Nat} {e:St->List SV->Option Out} (c:nN fs) (b:enters PR k)
 (j:∀σ svs out,e σ svs=some out->∀B ρ w vals,Sat PR B ρ σ.obj w->SV.denL PR ρ svs vals->yk out.vc->Calls PR k vals.toArray w (fun e w'=>∃v,e= .returned v/\wC PR B ρ σ out v w')):(jaJ n fs k e).ok PR:=by
 refine⟨Ql YQ,eK c,QD,rfl,fun f dst σ svs out h=> ?_⟩;have a:(match Nat.beq f k with|true=>e σ svs|false=>none)=some out:=h
 split at a
 case h_2=>cases a
 rename_i l;have:=jb l;subst this;exact⟨b,fun B ρ w vals g i d _ _=>j σ svs out a B ρ w vals g i d⟩
theorem enI:EN 70 [.int] (fun y l s=>dg y.pre y.K l s) jeF:=
 jcj (C:=ctx 19 [] []) (oD trivial trivial) Tryz.func70 (body:=qf Tryz.f70) (by kernel_rfl) (by kernel_rfl) (by kernel_rfl) (fun y s=>Xn y.K y.pre s) (fun l y s h=>ce.mpr fC l y s h)
theorem enC:EN 132 [.bool] (fun y l s=>dg y.pre y.K l s) jeG:=
 jcj (C:=jaJ 9 [] 70 Xl) (Pe trivial (vK Tryz.func70 (c:=qf Tryz.f70) (by kernel_rfl) (by kernel_rfl)) (fun _ _ _ h _ _ _ _ b d a=>Pb enI h b d a))
  Tryz.func132 (body:=qf Tryz.f132) (by kernel_rfl) (by kernel_rfl) (by kernel_rfl) (fun _ _ _=>none) (fun l y s h=>aX.mpr cI l y s h)
theorem enV:EN 88 [.bool] (fun y l s=>dg (Eu y.pre) (au y.K) l s) jeH:=
 jcj (C:=jaJ 9 [] 132 Xm) (Pe trivial (vK Tryz.func132 (c:=qf Tryz.f132) (by kernel_rfl) (by kernel_rfl)) (fun _ _ _ h _ _ _ _ b d a=>Pc (lJ.mpr tC) enC h b d a))
  Tryz.func88 (body:=qf Tryz.f88) (by kernel_rfl) (by kernel_rfl) (by kernel_rfl) (fun _ _ _=>none) (fun l y s h=>oh.mpr AP l y s h)
theorem noI:∀(l:List NoD) (i:Nat) (s:Int),(!decide (0<=(yh (au Rj) i l s).1))=xL s l
 |[],i,s=>rfl
 |n::r,i,s=>by
  rw[LK,xL]
  have a:(au Rj (n,()) s).1.1= !(Ja s n):=rfl
  have e2:(au Rj (n,()) s).2=X8 n:=rfl
  rw[a,e2]
  cases b:Ja s n with
  |true=>rw[jd (by decide),noI r (i+1) (X8 n)];rfl
  |false=>
   rw[jg (by decide)]
   have:decide (0<=(i:Int))=true:=jG (by omega)
   show(!decide (0<=(i:Int)))=_
   rw[this];rfl
theorem je6:∀(l:List NoD) (s:Int),-4611686018427387904<=s->s<=4611686018427387904->dg (Eu jd6) (au Rj) l s
 |[],_,_,_=>trivial
 |n::r,s,h1,h2=>by
  refine⟨⟨⟨h1,h2,tZ⟩,tZ⟩,fun a=> ?_⟩
  have a:(!(Ja s n))=false:=a
  have a:Ja s n=true:=by simpa using a
  unfold Ja at a
  rw[ji,vG] at a
  exact je6 r (X8 n) (by omega) (by omega)
theorem LN:tB:=by
 unfold tB jgi jf7 jgh jgR jgg jgQ Prod.q4;rintro⟨⟨un,rt,le,dk,dw,ni,mi,cp,sb,no,⟨⟩⟩,⟨⟩⟩;have e:ym (un,rt,le,dk,dw,ni,mi,cp,sb,no,())=((k8 un 1 240&&k8 rt 0 10000&&k8 le 0 20&&k8 dk 0 1440&&k8 dw 0 dk&&U.share ni&&k8 mi 0 10000)&&
  (decide ((sb.length:Int)=4)&&sb.all (wb fun(x:Int×Unit)=>(U.share x.fst,()))&&k8 cp 0 1000000&&decide ((no.length:Int)<=4)&&xL 100001 no)):=by
  have n:decide ((sb.length:Int)=4)=decide (sb.length=4):=decide_eq_decide.2 (by omega);have e2:decide ((no.length:Int)<=4)=decide (no.length<=4):=decide_eq_decide.2 (by omega);rw[n,e2];rfl
 simp only;refine⟨fun f=>⟨f,f,f,fun g=>⟨g,g,g,fun i=>⟨i,i,i,fun c=>⟨c,c,c,c,c,fun j=>⟨j,j,j,fun k=>⟨k,k,k,fun d=>⟨d,d,fun _=>⟨d,d,fun l=>⟨l,l,fun _ _=>tZ,l,fun m=>⟨m,m,m,fun a=>⟨a,a,fun _=>⟨a,a,fun b=>⟨b,b,b,je6 no 100001 (by omega) (by omega),b,?_⟩,fun h=> ?_⟩⟩,fun h=> ?_⟩,fun h=> ?_⟩,fun h=> ?_⟩⟩,fun h=> ?_⟩,fun h=> ?_⟩,fun h=> ?_⟩,fun h=> ?_⟩,fun h=> ?_⟩,fun h=> ?_⟩,fun h=> ?_⟩
 .rw[noI,e];simp only[f,g,i,c,j,k,d,l,m,a,b,Bool.true_and]
 all_goals
  have q:=e;simp only[h,Bool.false_and,kx] at q;simp only[h,q,and_self]
theorem IF:wV PR 55 tz:=
 jde (Pe (n:=69) (fs:=[(37,aW),(87,co),(52,dT)]) (k:=88) (e:=ZH) ⟨fun _=>yN,fun _=>GR,fun _=>oF,tZ⟩
  (vK Tryz.func88 (c:=qf Tryz.f88) (by kernel_rfl) (by kernel_rfl)) (fun _ _ _ h _ _ _ _ b d a=>Pd (tw.mpr Fr) enV h b d a))
  mixed Tryz.func55 (by kernel_rfl) (by kernel_rfl) (by kernel_rfl) (by decide) tA (AO.mpr LN)
namespace U
def cmStep (m:List (Int×CaD)) (c:CaD):List (Int×CaD):=fN .int (Up c) c m
def rj (l:List CaD) (n:Nat):List (Int×CaD):=(l.take n).foldl cmStep []
def qa (l:LgD) (F:BoD×Unit->Bool×Unit):Bool:=(F ((l,[],()),())).1
end U
def Tu:wQ:=⟨[.val tLg],[.int],false,fun d=>[(w7 (wv d.1)).length<=100000],fun d=>(wT d.1,())⟩
def Tv:Ann:=fun r=>match r with
 |14=>some fun σ=>{X:=Nat,sl:=fun i=>[(68,.dat .int (i:Int))],ob:=fun i=>[(64,some (.map false .int tCa (rj (gd (.slice tCa) σ 66) i)))],inv:=fun i=>i<=(gd (.slice tCa) σ 66).length/\∀b:Nat,b<i->bK (gd (.slice tCa) σ 66) b=false,mu:=fun i=>(gd (.slice tCa) σ 66).length-i}
 |_=>none
abbrev jg6 (d:LgD×Unit):=(d.1.1.2.2.1.length:Int)
abbrev jj5 (d:LgD×Unit):=(decide ((d.1.2.2.1.length:Int)≠(jg6 d))|| !d.1.2.2.1.all (wb fun(a:Int×Unit)=>(xM a.1,())))
abbrev jj6 (d:LgD×Unit):=(decide ((d.1.2.1.length:Int)≠(jg6 d))|| !d.1.2.1.all (wb fun(a:Int×Unit)=>(Mk a.1,())))
abbrev jh1 (d:LgD×Unit):=(d.1.q4.1.length:Int)
abbrev jj7 (d:LgD×Unit):=(!ym d.1.2.2.2.1||decide (10<(jh1 d))|| !d.1.q4.1.all (wb fun(a:CaD×Unit)=>(XZ (jg6 d) a.1,())))
abbrev jiA (d:LgD×Unit)(x:Nat):=(nth d.1.q4.1 x)
abbrev jj8 (d:LgD×Unit)(x:Nat):=(jab (wA Ty.int (jiA d x).1 (rj d.1.q4.1 x))&& !decide (wM ((0:Int),(0:Int),(0:Int),()) (wA Ty.int (jiA d x).1 (rj d.1.q4.1 x))=nth d.1.q4.1 x))
def Tw:Prop:=∀(d:LgD×Unit),(w7 (wv d.1)).length<=100000->(w7 d.1.1).length<=100000/\(decide (qe d.1.1≠0)=true->(qe d.1.1,())=(wT d.1,()))/\(decide (qe d.1.1≠0)=false->d.1.1.2.2.1.length<4611686018427387904->d.1.2.1.length<4611686018427387904->((!decide ((d.1.2.1.length:Int)≠(jg6 d)))=true->∀(g:Int),g∈d.1.2.1->wy [])/\((jj6 d)=true->((70:Int),())=(wT d.1,()))/\((jj6 d)=false->d.1.2.2.1.length<4611686018427387904->((!decide ((d.1.2.2.1.length:Int)≠(jg6 d)))=true->∀(g:Int),g∈d.1.2.2.1->wy [])/\((jj5 d)=true->((70:Int),())=(wT d.1,()))/\((jj5 d)=false->((!!ym d.1.2.2.2.1)=true->d.1.q4.1.length<4611686018427387904)->((!(!ym d.1.2.2.2.1||decide (10<(jh1 d))))=true->∀(c:CaD),c∈d.1.q4.1->wy [0<=(jg6 d),(jg6 d)<=4611686018427387904])/\((jj7 d)=true->((70:Int),())=(wT d.1,()))/\((jj7 d)=false->d.1.q4.1.length<4611686018427387904->(∃(x:Nat),((0=(x:Int)/\True)/\[]=rj d.1.q4.1 x/\True)/\x<=d.1.q4.1.length/\∀(b:Nat),b<x->bK d.1.q4.1 b=false)/\∀(x:Nat),(x<=d.1.q4.1.length/\∀(b:Nat),b<x->bK d.1.q4.1 b=false)->(decide ((x:Int)<(jh1 d))=true->0<=(x:Int)/\(x:Int)<(jh1 d)/\((jj8 d x)=true->((71:Int),())=(wT d.1,()))/\((jj8 d x)=false->wm ((x:Int)+1)/\∃(a:Nat),(((x:Int)+1=(a:Int)/\True)/\fN Ty.int (jiA d x).1 (jiA d x) (rj d.1.q4.1 x)=rj d.1.q4.1 a/\True)/\(a<=d.1.q4.1.length/\∀(b:Nat),b<a->bK d.1.q4.1 b=false)/\d.1.q4.1.length-a<d.1.q4.1.length-x))/\(decide ((x:Int)<(jh1 d))=false->((0:Int),())=(wT d.1,()))))))
theorem LO {l:List CaD} {n:Nat} (h:n<l.length):rj l (n+1)=fN .int (Up (nth l n)) (nth l n) (rj l n):=by
 unfold rj;rw[L.wO h,jU];rfl
theorem Xs (l:List CaD):∀x,x<=l.length->∀k:Int,(wA .int k (rj l x)=none->∀j,j<x->Up (nth l j)≠k)/\(∀c,wA .int k (rj l x)=some c->∃j,j<x/\nth l j=c/\Up c=k)
 |0,_,k=>⟨fun _ j a=>by omega,fun c h=>by cases h⟩
 |x+1,i,k=>by
  obtain⟨d,f⟩:=Xs l x (by omega) k
  rw[LO (show x<l.length by omega)]
  by_cases e:k=Up (nth l x)
  subst e
  rw[M.rm (kt:= .int)]
  refine⟨fun h=>(by cases h),fun c h=> ?_⟩
  simp only[jz] at h
  subst h
  exact⟨x,by omega,rfl,rfl⟩
  rw[M.dZ (kt:= .int) e]
  refine⟨fun h j a=> ?_,fun c h=> ?_⟩
  by_cases e2:j=x
  subst e2;exact fun b=>e b.symm
  exact d h j (by omega)
  obtain⟨j,a,g⟩:=f c h
  exact⟨j,by omega,g⟩
theorem LP {l:List CaD} {i:Nat} (hi:i<=l.length):bK l i=true↔∃j,j<i/\Up (nth l j)=Up (nth l i)/\nth l j≠nth l i:=by
 unfold bK;rw[za];constructor;rintro⟨x,d,h⟩;obtain⟨j,c,rfl⟩:=zb.1 d;simp only[ji,jp,jS,jH] at h;refine⟨j,by omega,?_⟩;rw[L.qM (show j<l.length by omega)];exact h;rintro⟨j,c,a,b⟩;refine⟨nth l j,zb.2 ⟨j,by omega,(L.qM (by omega)).symm⟩,?_⟩;simp only[ji,jp,jS,jH];exact⟨a,b⟩
theorem jck {l:List CaD} {x:Nat} (u:x<l.length) (h:∀b:Nat,b<x->bK l b=false):
 (jab (wA .int (nth l x).1 (rj l x))&& !decide (wM ((0:Int),(0:Int),(0:Int),()) (wA .int (nth l x).1 (rj l x))=nth l x))=bK l x:=by
 obtain⟨k,r⟩:=Xs l x (by omega) (nth l x).1;have no:∀i j,i<j->j<x->Up (nth l i)=Up (nth l j)->nth l i=nth l j:=fun i j a f s=>by
  by_cases e:nth l i=nth l j;exact e;have:=(LP (show j<=l.length by omega)).2 ⟨i,a,s,e⟩;rw[h j f] at this;cases this
 rw[j0,LP (by omega)];cases p:wA (β:=CaD) .int (nth l x).1 (rj l x) with
 |none=>
  have k:=k p;constructor;intro t;cases t;rintro⟨j,f,e,_⟩;exact absurd e (k j f)
 |some c=>
  obtain⟨j,f,d,o⟩:=r c p;show(!decide (c=nth l x))=true↔_;rw[jS,jH];constructor;intro m;exact⟨j,f,by rw[d];exact o,by rw[d];exact m⟩;rintro⟨i,hi,q,e2⟩ g;have n:Up (nth l i)=Up (nth l j):=(by rw[d,q];exact o.symm);rcases Nat.lt_trichotomy i j with a|a|a;exact e2 (by rw[no i j a f n,d,g]);subst a;exact e2 (by rw[d,g]);exact e2 (by rw[<-no j i a hi n.symm,d,g])
theorem Pf {l:List CaD} {x:Nat} (a:x<l.length) (h:bK l x=true):cR l=true:=by
 unfold cR Et;rw[za];exact⟨x,jD.2 a,h⟩
theorem LQ {l:List CaD} (h:∀b:Nat,b<l.length->bK l b=false):cR l=false:=by
 unfold cR Et;rw[zi];intro b a;rw[h b (jD.1 a)];decide
theorem jeI {b:Bool} (h:(!b)=true):b=false:=by cases b with|false=>rfl|true=>cases h
theorem jeJ {b:Bool} (h:(!b)=false):b=true:=by cases b with|true=>rfl|false=>cases h
theorem je7 (a b:Nat) (p:Bool):(decide ((a:Int)≠(b:Int))|| !p)= !(decide (a=b)&&p):=by
 by_cases e:a=b;subst e;simp;have:(a:Int)≠(b:Int):=(by omega);simp[e,this]
theorem jcm (l:LgD):df l=((decide ((qU l).length=(wo (wv l)).length)&&(qU l).all Mk)&&(decide ((nL l).length=(wo (wv l)).length)&&(nL l).all xM)&&(ym (ve l)&&(decide ((w9 l).length<=10)&&(w9 l).all (om (wo (wv l)).length)))):=rfl
theorem Xt:Tw:=by
 unfold Tw jj8 jiA jj7 jh1 jj6 jj5 jg6 Prod.q4;rintro⟨l,⟨⟩⟩ C;have y:∀v,qe (wv l)≠0->v=qe (wv l)->((v:Int),())=(wT l,()):=fun v h e=>by
  unfold wT;rw[jg h,e]
 have c:¬(qe (wv l)≠0)->df l=false->((70:Int),())=(wT l,()):=fun h e=>by
  unfold wT;rw[jd h,jg e]
 have o:¬(qe (wv l)≠0)->df l=true->cR (w9 l)=true->((71:Int),())=(wT l,()):=fun h e e2=>by
  unfold wT;rw[jd h,jd (by rw[e];decide),jg e2]
 have n:¬(qe (wv l)≠0)->df l=true->cR (w9 l)=false->((0:Int),())=(wT l,()):=fun h e e2=>by
  unfold wT;rw[jd h,jd (by rw[e];decide),jd (by rw[e2];decide)]
 have q:=je7 (qU l).length (wo (wv l)).length ((qU l).all Mk);have r:=je7 (nL l).length (wo (wv l)).length ((nL l).all xM);have s:(!ym (ve l)||decide ((10:Int)<(w9 l).length)|| !(w9 l).all (om (wo (wv l)).length))= !(ym (ve l)&&(decide ((w9 l).length<=10)&&(w9 l).all (om (wo (wv l)).length))):=by
  have:decide ((10:Int)<(w9 l).length)= !decide ((w9 l).length<=10):=by
   by_cases e:(w9 l).length<=10;rw[jG e,zn (by omega)];rfl;rw[zn e,jG (by omega)];rfl
  rw[this];cases ym (ve l)<;>cases decide ((w9 l).length<=10)<;>rfl
 have m:=jcm l;refine⟨C,fun h=>y _ (ja h) rfl,fun h k _=>⟨fun _ _ _=>tZ,fun g=> ?_,fun g _=>⟨fun _ _ _=>tZ,fun i=> ?_,fun i _=>⟨fun _ _ _=>⟨jX _,?_,tZ⟩,fun j=> ?_,fun j w=>⟨⟨0,⟨⟨rfl,tZ⟩,rfl,tZ⟩,jl _,fun b u=>by omega⟩,fun x D=> ?_⟩⟩⟩⟩⟩;have g:=q.symm.trans g;refine c (jc h) ?_;rw[m,show(decide ((qU l).length=(wo (wv l)).length)&&(qU l).all Mk)=false from jeI g];rfl;have i:=r.symm.trans i;refine c (jc h) ?_;rw[m,show(decide ((nL l).length=(wo (wv l)).length)&&(nL l).all xM)=false from jeI i,kx];rfl;have k:(wo (wv l)).length<4611686018427387904:=k;show((wo (wv l)).length:Int)<=4611686018427387904;omega;have j:=s.symm.trans j;refine c (jc h) ?_;rw[m,show(ym (ve l)&&(decide ((w9 l).length<=10)&&(w9 l).all (om (wo (wv l)).length)))=false from jeI j,kx];have z:=q.symm.trans g;have A:=r.symm.trans i;have B:=s.symm.trans j;have t:df l=true:=by
  rw[m,show(decide ((qU l).length=(wo (wv l)).length)&&(qU l).all Mk)=true from jeJ z,show(decide ((nL l).length=(wo (wv l)).length)&&(nL l).all xM)=true from jeJ A,show(ym (ve l)&&(decide ((w9 l).length<=10)&&(w9 l).all (om (wo (wv l)).length)))=true from jeJ B];rfl
 obtain⟨E,d⟩:x<=(w9 l).length/\∀b:Nat,b<x->bK (w9 l) b=false:=D;have w:(w9 l).length<4611686018427387904:=w;refine⟨fun f=> ?_,fun f=> ?_⟩;have f:(x:Int)<(w9 l).length:=ja f;have a:x<(w9 l).length:=(by omega);have cc:=jck a d;refine⟨jX _,f,fun p=> ?_,fun p=>⟨iZ6,x+1,⟨⟨by simp,tZ⟩,(LO a).symm,tZ⟩,⟨a,fun b u=> ?_⟩,by show(w9 l).length-(x+1)<(w9 l).length-x;omega⟩⟩;exact o (jc h) t (Pf a (cc.symm.trans p));by_cases e:b=x;subst e;exact cc.symm.trans p;exact d b (by omega);have f:¬(x:Int)<(w9 l).length:=jc f;exact n (jc h) t (LQ fun b u=>d b (by omega))
theorem GS:wV PR 20 Tu:=qY Tv Xt Tryz.func20 (kcC GI (kcC IF (kcC oF (kcC LH (kcC LI (kcC LJ (kcC DT kcN))))))) koN
end Go.X
namespace Go.Proofs
open Go.Shelf
def Tryz.sortLn_ren:Go.Shelf.Ren:=⟨fun|6=>96|15=>140|14=>139|28=>177|29=>178|20=>169|21=>170|22=>171|23=>172|24=>173|25=>174|26=>175|27=>176|46=>203|47=>204|48=>205|49=>206|50=>207|57=>221|n=>n,fun|22=>54|24=>61|25=>124|3=>3|39=>92|0=>0|53=>189|55=>191|4=>4|46=>183|45=>182|50=>50|5=>5|9=>9|66=>213|70=>217|76=>231|77=>232|n=>n,fun|n=>n⟩
theorem Tryz.sortLn:Go.Proofs.SlLaysF0.n6 Tryz.prog Tryz.sortLn_ren:={
 mixed:=by kernel_rfl
 f6:=⟨Tryz.f96.name,by decide,xlay Tryz.func96⟩
 f14:=⟨Tryz.f139.name,by decide,xlay Tryz.func139⟩
 f15:=xlay Tryz.func140
 f20:=⟨Tryz.f169.name,by decide,xlay Tryz.func169⟩
 f21:=⟨Tryz.f170.name,by decide,xlay Tryz.func170⟩
 f22:=⟨Tryz.f171.name,by decide,xlay Tryz.func171⟩
 f23:=⟨Tryz.f172.name,by decide,xlay Tryz.func172⟩
 f24:=⟨Tryz.f173.name,by decide,xlay Tryz.func173⟩
 f25:=⟨Tryz.f174.name,by decide,xlay Tryz.func174⟩
 f26:=⟨Tryz.f175.name,by decide,xlay Tryz.func175⟩
 f27:=⟨Tryz.f176.name,by decide,xlay Tryz.func176⟩
 f28:=xlay Tryz.func177
 f29:=xlay Tryz.func178
 f46:=⟨Tryz.f203.name,by decide,xlay Tryz.func203⟩
 f47:=xlay Tryz.func204
 f48:=xlay Tryz.func205
 f49:=⟨Tryz.f206.name,by decide,xlay Tryz.func206⟩
 f50:=⟨Tryz.f207.name,by decide,xlay Tryz.func207⟩
 f57:=⟨Tryz.f221.name,by decide,xlay Tryz.func221⟩
 t0:=Tryz.underlying0
 a0:=Tryz.isAgg0
 z0:=Tryz.sizeOf0
 v0:=Tryz.zeroValue0
 t3:=Tryz.underlying3
 a3:=Tryz.isAgg3
 z3:=Tryz.sizeOf3
 v3:=Tryz.zeroValue3
 t4:=Tryz.underlying4
 a4:=Tryz.isAgg4
 z4:=Tryz.sizeOf4
 v4:=Tryz.zeroValue4
 t5:=Tryz.underlying5
 a5:=Tryz.isAgg5
 z5:=Tryz.sizeOf5
 v5:=Tryz.zeroValue5
 t9:=Tryz.underlying9
 a9:=Tryz.isAgg9
 z9:=Tryz.sizeOf9
 v9:=Tryz.zeroValue9
 t22:=Tryz.underlying54
 a22:=Tryz.isAgg54
 z22:=Tryz.sizeOf54
 v22:=Tryz.zeroValue54
 t25:=Tryz.underlying124
 a25:=Tryz.isAgg124
 z25:=Tryz.sizeOf124
 v25:=Tryz.zeroValue124
 t39:=Tryz.underlying92
 a39:=Tryz.isAgg92
 z39:=Tryz.sizeOf92
 v39:=Tryz.zeroValue92
 t45:=Tryz.underlying182
 a45:=Tryz.isAgg182
 z45:=Tryz.sizeOf182
 v45:=Tryz.zeroValue182
 t46:=Tryz.underlying183
 a46:=Tryz.isAgg183
 z46:=Tryz.sizeOf183
 v46:=Tryz.zeroValue183
 t50:=Tryz.underlying50
 a50:=Tryz.isAgg50
 z50:=Tryz.sizeOf50
 v50:=Tryz.zeroValue50
 t53:=Tryz.underlying189
 a53:=Tryz.isAgg189
 z53:=Tryz.sizeOf189
 v53:=Tryz.zeroValue189
 t55:=Tryz.underlying191
 a55:=Tryz.isAgg191
 z55:=Tryz.sizeOf191
 v55:=Tryz.zeroValue191
 t66:=Tryz.underlying213
 a66:=Tryz.isAgg213
 z66:=Tryz.sizeOf213
 v66:=Tryz.zeroValue213
 t70:=Tryz.underlying217
 a70:=Tryz.isAgg217
 z70:=Tryz.sizeOf217
 v70:=Tryz.zeroValue217
 t76:=Tryz.underlying231
 a76:=Tryz.isAgg231
 z76:=Tryz.sizeOf231
 v76:=Tryz.zeroValue231
 t77:=Tryz.underlying232
 a77:=Tryz.isAgg232
 z77:=Tryz.sizeOf232
 v77:=Tryz.zeroValue232}
end Go.Proofs
namespace Go.X
open U
open Go.Proofs
abbrev rwN:Sh:= .cl (.row 3 .int .no)
namespace U
def bl (o:Option BlD):BlD:=wG (Ty.dflt tBl) o
def Rk (m:List (Int×Option BlD)):Prop:=∀e∈m,∃b,e.2=some b/\ri b
def Mn (o:BoD):Prop:=Rk (PP o)/\(PP o).length<=100/\((PP o).map (·.1)).Nodup/\∀e∈PP o,∀b,e.2=some b->PN b=e.1
def Rm (b:BlD) (a:Int) (out:List Int):Prop:=(vS b).length<=8/\(∀p∈vS b,0<=p/\p<(out.length:Int))/\0<=a/\a<=100000000000000000/\∀x∈out,-1000000000000000000<=x/\x<=1000000000000000000
end U
def tD:wQ:=⟨[.val tLn,.val tLn],[.int],false,fun _=>[],fun d=>(xb d.1 d.2.1,())⟩
def tE:Prop:=∀(d:JbD×JbD×Unit),(y7 [cT d.1.1 d.2.1.1,cT d.1.2.1 d.2.1.2.1],())=(xb d.1 d.2.1,())
abbrev p8:q7:=VF tLn 61
def AQ:wQ:=⟨[.val tBo],[.slice tLn],false,fun d=>[Mn d.1],fun d=>(wI d.1,())⟩
def AR:Ann:=fun r=>match r with
 |3=>some fun σ=>{X:=List (Int×Option BlD)×List LnD,sl:=fun _=>[(3,.own 3 tLn)],ob:=fun x=>[(8,some (.iter .int (.ptr tBl) x.1 none)),(3,some (.row 61 tLn false .yes x.2))],inv:=fun x=>(x.2++vX x.1).Perm (vX (PP (gb tBo σ 1)))/\Rk x.1,mu:=fun x=>x.1.length}
 |_=>none
abbrev jjh (a:Int×Option BlD):=(wG ((((0:Int),(0:Int),(0:Int),(0:Int),(0:Int),(0:Int),()),(0:Int),(0:Int),(0:Int),()),((0:Int),(0:Int),(0:Int),(0:Int),(0:Int),(0:Int),(0:Int),(0:Int),[],[],()),(0:Int),(0:Int),[],(0:Int),(0:Int),false,(0:Int),()) a.2)
abbrev jiB:=(wd (Ty.int.pair (Ty.int.pair (Ty.int.pair (Ty.int.pair (Ty.int.pair (Ty.int.pair Ty.unit)))))) fun(a:JbD×JbD×Unit)=>(xb a.1 a.2.1,()))
def AS:Prop:=∀(d:BoD×Unit),Mn d.1->(∃(x:List (Int×Option BlD)×List JbD),((True/\True)/\d.1.2.1=x.1/\x.2=[]/\True)/\(x.2++vX x.1).Perm (vX (PP d.1))/\Rk x.1)/\∀(x:List (Int×Option BlD)×List JbD),(x.2++vX x.1).Perm (vX (PP d.1))/\Rk x.1->(x.1=[]->(false=true->False)/\(qF->(∀(e:JbD),e∈x.2->∀(y:JbD),y∈x.2->wy [])/\yc jiB x.2/\(wc jiB x.2,())=(wI d.1,())))/\∀(pre:List (Int×Option BlD)) (a:Int×Option BlD) (b:List (Int×Option BlD)),x.1=pre++a::b->(true=true->a.2.isSome=true/\ri (jjh a)/\(x.2.length+[vd (jjh a)].length)*48<=140737488355328/\∃(c:List (Int×Option BlD)×List JbD),((True/\True)/\x.2++[vd (jjh a)]=c.2/\pre++b=c.1/\True)/\((c.2++vX c.1).Perm (vX (PP d.1))/\Rk c.1)/\c.1.length<x.1.length)/\(true=false->(∀(f:JbD),f∈x.2->∀(y:JbD),y∈x.2->wy [])/\yc jiB x.2/\(wc jiB x.2,())=(wI d.1,()))
def IG:wQ:=⟨[.val (.slice .int)],[.int],false,fun d=>[d.1≠[]],fun d=>(ar d.1,())⟩
def IH:Ann:=fun r=>match r with
 |5=>some fun σ=>{X:=Nat,sl:=fun i=>[(4,.dat .int (i:Int)),(3,.dat .int (((gd (.slice .int) σ 0).take i).foldl max (nth (gd (.slice .int) σ 0) 0)))],ob:=fun _=>[],inv:=fun i=>1<=i/\i<=(gd (.slice .int) σ 0).length,mu:=fun i=>(gd (.slice .int) σ 0).length-i}
 |_=>none
def II:Prop:=∀(d:List Int×Unit),d.1≠[]->d.1.length<4611686018427387904->(decide ((d.1.length:Int)<1)=true->False)/\(decide ((d.1.length:Int)<1)=false->(0:Int)<=0/\0<(d.1.length:Int)/\(∃(x:Nat),((1=(x:Int)/\nth d.1 (Int.toNat 0)=List.foldl max (nth d.1 0) (List.take x d.1)/\True)/\True)/\1<=x/\x<=d.1.length)/\∀(x:Nat),1<=x/\x<=d.1.length->d.1.length<4611686018427387904->(decide ((x:Int)<d.1.length)=true->0<=(x:Int)/\(x:Int)<d.1.length/\wm ((x:Int)+1)/\∃(a:Nat),(((x:Int)+1=(a:Int)/\max (List.foldl max (nth d.1 0) (List.take x d.1)) (nth d.1 x)=List.foldl max (nth d.1 0) (List.take a d.1)/\True)/\True)/\(1<=a/\a<=d.1.length)/\d.1.length-a<d.1.length-x)/\(decide ((x:Int)<d.1.length)=false->(List.foldl max (nth d.1 0) (List.take x d.1),())=(ar d.1,())))
def AT:q7:=⟨[.val (.ptr tBl),.val .int,.own rwN true],[],fun d=>[d.1.isSome=true,Rm (U.bl d.1) d.2.1 d.2.2.1],fun d=>((),(Z9 d.2.1 (U.bl d.1) d.2.2.1,()))⟩
def AU:Ann:=fun r=>match r with
 |1=>some fun σ=>{X:=Nat,sl:=fun i=>[(13,.dat .int (i:Int))],ob:=fun i=>[(1000002,some (.row 3 .int false .no (qi (gd .int σ 1) (gd (.slice .int) σ 11) (gr .int σ 1000002) i)))],inv:=fun i=>i<=(gd (.slice .int) σ 11).length,mu:=fun i=>(gd (.slice .int) σ 11).length-i}
 |_=>none
abbrev jfF (d:Option BlD×Int×List Int×Unit):=(wG ((((0:Int),(0:Int),(0:Int),(0:Int),(0:Int),(0:Int),()),(0:Int),(0:Int),(0:Int),()),((0:Int),(0:Int),(0:Int),(0:Int),(0:Int),(0:Int),(0:Int),(0:Int),[],[],()),(0:Int),(0:Int),[],(0:Int),(0:Int),false,(0:Int),()) d.1)
abbrev jgw (d:Option BlD×Int×List Int×Unit):=(↑(jfF d).q4.1.length:Int)
abbrev jht (d:Option BlD×Int×List Int×Unit)(x:Nat):=(nth (jfF d).q4.1 x)
abbrev jh2 (d:Option BlD×Int×List Int×Unit)(x:Nat):=(qi d.2.1 (jfF d).q4.1 d.2.2.1 x)
abbrev jji (d:Option BlD×Int×List Int×Unit)(x:Nat):=(nth (jh2 d x) (jht d x).toNat+d.2.1.tdiv (jgw d))
abbrev jh3 (d:Option BlD×Int×List Int×Unit)(x:Nat):=((jh2 d x).set (jht d x).toNat (jji d x))
def AV:Prop:=∀(d:Option BlD×Int×List Int×Unit),d.1.isSome=true->Rm (U.bl d.1) d.2.1 d.2.2.1->d.1.isSome=true/\((jfF d).q4.1.length<4611686018427387904->(∃(x:Nat),((0=(x:Int)/\True)/\d.2.2.1=qi d.2.1 (jfF d).q4.1 d.2.2.1 x/\True)/\x<=(jfF d).q4.1.length)/\∀(x:Nat),x<=(jfF d).q4.1.length->(decide ((x:Int)<(jgw d))=true->0<=(x:Int)/\(x:Int)<(jgw d)/\0<=nth (jfF d).q4.1 x/\nth (jfF d).q4.1 x<(↑(jh2 d x).length:Int)/\d.1.isSome=true/\(jgw d)≠0/\wm (d.2.1.tdiv (jgw d))/\wm (jji d x)/\0<=nth (jfF d).q4.1 x/\nth (jfF d).q4.1 x<(↑(jh2 d x).length:Int)/\d.1.isSome=true/\((jfF d).q4.1.length<4611686018427387904->(jgw d)≠0/\(decide ((x:Int)<d.2.1.tmod (jgw d))=true->0<=nth (jfF d).q4.1 x/\nth (jfF d).q4.1 x<(↑(jh3 d x).length:Int)/\wm (nth (jh3 d x) (jht d x).toNat+1)/\0<=nth (jfF d).q4.1 x/\nth (jfF d).q4.1 x<(↑(jh3 d x).length:Int)/\wm ((x:Int)+1)/\∃(a:Nat),(((x:Int)+1=(a:Int)/\True)/\(jh3 d x).set (jht d x).toNat (nth (jh3 d x) (jht d x).toNat+1)=qi d.2.1 (jfF d).q4.1 d.2.2.1 a/\True)/\a<=(jfF d).q4.1.length/\(jfF d).q4.1.length-a<(jfF d).q4.1.length-x)/\(decide ((x:Int)<d.2.1.tmod (jgw d))=false->wm ((x:Int)+1)/\∃(a:Nat),(((x:Int)+1=(a:Int)/\True)/\(jh2 d x).set (jht d x).toNat (jji d x)=qi d.2.1 (jfF d).q4.1 d.2.2.1 a/\True)/\a<=(jfF d).q4.1.length/\(jfF d).q4.1.length-a<(jfF d).q4.1.length-x)))/\(decide ((x:Int)<(jgw d))=false->()=()/\(qi d.2.1 (jfF d).q4.1 d.2.2.1 x,())=(Z9 d.2.1 (U.bl d.1) d.2.2.1,())))
theorem uY:tE:=fun _=>rfl
theorem tF:wV PR 97 tD:=wK uY Tryz.func97 (kcC y4 (kcC b8 kcN)) koN
theorem p9:gX PR 96 p8:=
 CM Tryz.sortLn 61 rfl (jy (by kernel_rfl)) Tryz.isAgg61 Tryz.sizeOf61 (vK Tryz.func96 (c:=qf Tryz.f96) (by kernel_rfl) (by kernel_rfl))
theorem ZI:iw xb:=by
 have e:xb=Uk (fun a b=>cT (fJ a) (fJ b)) (fun a b=>cT (xK a) (xK b)):=by
  funext a b;unfold xb;simp only[qm,Uk]
  split<;>(try rfl)
  split<;>(try rfl)
  rename_i h;exact(jN.1 h).symm
 rw[e];exact pK (oE mw fJ) (oE mw xK)
theorem Xu {a b:LnD} (h:xb a b=0):xK a=xK b:=by
 unfold xb at h;rw[qm] at h
 split at h
 contradiction;rw[vL] at h;exact bh.1 h
def je8 (l:List LnD):Prop:=∀a∈l,∀b∈l,xK a=xK b->a=b
theorem jeK {l:List LnD} (h:je8 l):yc (wd tLn fun x=>(xb x.1 x.2.1,())) l:=Bk ZI (fun a b d e c=>h a d b e (Xu c))
theorem GU {o:BoD} (h:Mn o):je8 (vX (PP o)):=by
 obtain⟨j,_,c,d⟩:=h;intro a s b t e;obtain⟨x,f,rfl⟩:=jV.1 s;obtain⟨y,g,rfl⟩:=jV.1 t;obtain⟨p,l,_⟩:=j x f;obtain⟨q,m,_⟩:=j y g;have u:=d x f p l;have w:=d y g q m;rw[l,m] at e;have e:PN p=PN q:=e;have n:x.1=y.1:=(by rw[<-u,<-w,e]);have i:=(M.xc (kt:= .int) c (k:=x.1) (v:=x.2)).2 f;have r:=(M.xc (kt:= .int) c (k:=y.1) (v:=y.2)).2 g;rw[n,r] at i;have e2:y.2=x.2:=(by simpa using i);rw[e2]
theorem DZ:AS:=by
 unfold AS jiB jjh;rintro⟨o,⟨⟩⟩ n;have p:=GU n;obtain⟨s,d,t,u⟩:=id n;have d:(PP o).length<=100:=d;refine⟨⟨(PP o,[]),⟨⟨tZ,tZ⟩,rfl,rfl,tZ⟩,List.Perm.refl _,s⟩,fun x q=>⟨fun i=>⟨fun h=>(by cases h),fun _=>⟨fun _ _ _ _=>tZ,?_⟩⟩,fun pre e c j=>⟨fun _=> ?_,fun h=>(by cases h)⟩⟩⟩;obtain⟨l,out⟩:=x;have i:l=[]:=i;subst i;have f:(out++[]).Perm (vX (PP o)):=q.1;rw[jZ] at f;exact⟨jeK fun a r b g=>p a (f.mem_iff.1 r) b (f.mem_iff.1 g),jF (·,()) (J2 (jeK p) f)⟩;obtain⟨l,out⟩:=x;have j:l=pre++e::c:=j;subst j;obtain⟨f,hk⟩:(out++vX (pre++e::c)).Perm (vX (PP o))/\Rk (pre++e::c):=q;obtain⟨b,g,v⟩:=hk e (by simp);have m:=f.length_eq;simp only[vX,jI,zf,j8] at m;obtain⟨k,z⟩:=e;have g:z=some b:=g;subst g;refine⟨rfl,v,by simp only[j8,zr];omega,(pre++c,out++[vd b]),⟨⟨tZ,tZ⟩,rfl,rfl,tZ⟩,⟨?_,fun y w=>hk y ?_⟩,by simp only[jI,j8];omega⟩;refine List.Perm.trans ?_ f;simp only[vX,zw,zz,jM,kk];exact List.Perm.append_left out List.perm_middle.symm;rcases jr.1 w with h|h;exact jh _ h;exact je _ (jm _ h)
theorem ld:wV PR 60 AQ:=qY AR DZ Tryz.func60 (kcC bi (kcC tF kcN)) (koC p9 koN)
theorem LR:II:=by
 rintro⟨l,⟨⟩⟩ a c;have a:l≠[]:=a;have b:0<l.length:=kT.2 a;refine⟨fun h=> ?_,fun _=>⟨by decide,by simp only;omega,⟨1,⟨⟨rfl,?_,tZ⟩,tZ⟩,jj _,b⟩,fun x d _=>⟨fun h=> ?_,fun h=> ?_⟩⟩⟩;have h:(l.length:Int)<1:=ja h;omega;show nth l 0=List.foldl max (nth l 0) (l.take 1);have:=L.wO (l:=l) (i:=0) b;rw[this];show nth l 0=max (nth l 0) (nth l 0);omega;have h:(x:Int)<l.length:=ja h;have c:l.length<4611686018427387904:=c;refine⟨jX _,h,iZ6,x+1,⟨⟨by simp,?_,tZ⟩,tZ⟩,⟨by omega,by show x+1<=l.length;omega⟩,by show l.length-(x+1)<l.length-x;omega⟩;show max (List.foldl max (nth l 0) (l.take x)) (nth l x)=List.foldl max (nth l 0) (l.take (x+1));rw[L.wO (show x<l.length by omega),jU];rfl;have h:¬(x:Int)<l.length:=jc h;show(List.foldl max (nth l 0) (l.take x),())=(ar l,());rw[zv (by omega)];rfl
theorem IJ:wV PR 100 IG:=qY IH LR Tryz.func100 kcN koN
theorem GV (a:Int) (tm out:List Int) (k:Nat):qi a tm out (k+1)=Jb a tm (qi a tm out k) k:=by
 unfold qi;rw[zc,jU];rfl
theorem D0 {a M:Int} {tm out:List Int} (h:0<=a/\a<=100000000000000000) (d:∀p∈tm,0<=p/\p<(out.length:Int)) (c:∀x∈out,-1000000000000000000<=x/\x<=M):
 ∀k,k<=tm.length->(qi a tm out k).length=out.length/\∀j,j<out.length->-1000000000000000000<=nth (qi a tm out k) j/\nth (qi a tm out k) j<=M+(k:Int)*100000000000000001
 |0,_=>⟨rfl,fun j e=>by
  have:=c _ (L.wh e)
  show _<=nth out j/\nth out j<=_
  omega⟩
 |k+1,hk=>by
  obtain⟨f,g⟩:=D0 h d c k (by omega)
  have m:=d _ (L.wh (show k<tm.length by omega))
  have n:=ZD (b:=(tm.length:Int)) h (by omega)
  rw[GV]
  unfold Jb
  refine⟨by rw[kg,f],fun j e=> ?_⟩
  rw[L.bj (by rw[f];omega)]
  have i:=g j e
  have l:=g (nth tm k).toNat (by omega)
  split
  split<;>omega
  omega
theorem D1:AV:=by
 unfold AV jh3 jji jh2 jht jgw jfF Prod.q4;rintro⟨o,a,out,⟨⟩⟩ j w;obtain⟨b,rfl⟩:∃b,o=some b:=Option.isSome_iff_exists.1 j;obtain⟨z,p,q,r,v⟩:Rm b a out:=w;have F:=D0 (tm:=vS b) ⟨q,r⟩ p v;refine⟨rfl,fun B=>⟨⟨0,⟨⟨rfl,tZ⟩,rfl,tZ⟩,jl _⟩,fun x t=>⟨fun h=> ?_,fun h=>⟨rfl,?_⟩⟩⟩⟩;have h:(x:Int)<(vS b).length:=ja h;have n:x<(vS b).length:=(by omega);obtain⟨k,u⟩:=F x (by omega);have d:=p _ (L.wh n);have y:=ZD (b:=((vS b).length:Int)) ⟨q,r⟩ (by omega);have A:=u (nth (vS b) x).toNat (by omega);have l:(nth (vS b) x).toNat<(qi a (vS b) out x).length:=(by rw[k];omega);have j:=GV a (vS b) out x;have f:((vS b).length:Int)≠0:=(by omega);have g:nth (vS b) x<((qi a (vS b) out x).length:Int):=(by rw[k];exact d.2);have s:nth ((qi a (vS b) out x).set (nth (vS b) x).toNat (nth (qi a (vS b) out x) (nth (vS b) x).toNat+a.tdiv ((vS b).length:Int))) (nth (vS b) x).toNat=nth (qi a (vS b) out x) (nth (vS b) x).toNat+a.tdiv ((vS b).length:Int):=by
  rw[L.bj l,jg rfl]
 refine⟨jX _,h,d.1,g,rfl,f,DJ y (by omega),L.FU (by show _<=nth (qi a (vS b) out x) (nth (vS b) x).toNat+a.tdiv ((vS b).length:Int);omega) (by show nth (qi a (vS b) out x) (nth (vS b) x).toNat+a.tdiv ((vS b).length:Int)<=_;omega),d.1,g,rfl,fun _=>⟨f,fun c=> ?_,fun c=> ?_⟩⟩;have c:(x:Int)<a.tmod ((vS b).length:Int):=ja c;have m:((qi a (vS b) out x).set (nth (vS b) x).toNat (nth (qi a (vS b) out x) (nth (vS b) x).toNat+a.tdiv ((vS b).length:Int))).length=out.length:=(by rw[kg,k]);have i:nth (vS b) x<(((qi a (vS b) out x).set (nth (vS b) x).toNat (nth (qi a (vS b) out x) (nth (vS b) x).toNat+a.tdiv ((vS b).length:Int))).length:Int):=(by rw[m];exact d.2);refine⟨d.1,i,?_,d.1,i,iZ6,x+1,⟨⟨by simp,tZ⟩,?_,tZ⟩,by show x+1<=(vS b).length;omega,by show(vS b).length-(x+1)<(vS b).length-x;omega⟩;show wm (nth ((qi a (vS b) out x).set (nth (vS b) x).toNat (nth (qi a (vS b) out x) (nth (vS b) x).toNat+a.tdiv ((vS b).length:Int))) (nth (vS b) x).toNat+1);rw[s];exact iZ6;show((qi a (vS b) out x).set (nth (vS b) x).toNat (nth (qi a (vS b) out x) (nth (vS b) x).toNat+a.tdiv ((vS b).length:Int))).set (nth (vS b) x).toNat (nth ((qi a (vS b) out x).set (nth (vS b) x).toNat (nth (qi a (vS b) out x) (nth (vS b) x).toNat+a.tdiv ((vS b).length:Int))) (nth (vS b) x).toNat+1)=qi a (vS b) out (x+1);rw[s,List.set_set,j];unfold Jb;rw[jg c];have c:¬(x:Int)<a.tmod ((vS b).length:Int):=jc c;refine⟨iZ6,x+1,⟨⟨by simp,tZ⟩,?_,tZ⟩,by show x+1<=(vS b).length;omega,by show(vS b).length-(x+1)<(vS b).length-x;omega⟩;show(qi a (vS b) out x).set (nth (vS b) x).toNat (nth (qi a (vS b) out x) (nth (vS b) x).toNat+a.tdiv ((vS b).length:Int))=qi a (vS b) out (x+1);rw[j];unfold Jb;rw[jd c,Int.add_zero];have h:¬(x:Int)<(vS b).length:=jc h;have t:x<=(vS b).length:=t;have e:x=(vS b).length:=(by omega);subst e;rfl
theorem AW:gX PR 77 AT:=sA AU D1 Tryz.func77 kcN koN
namespace U
def X0 (o:BoD):Prop:=Mn o/\(qU (cQ o)).length<=100/\(∀n∈qU (cQ o),0<=n/\n<=20)/\∀e∈PP o,∀b,e.2=some b->PO b∈qU (cQ o)
def X1 (o:BoD):Prop:=Mn o/\(wi (wq (wv (cQ o)))).length<=100/\∀e∈PP o,∀b,e.2=some b->∀p∈vS b,0<=p/\p<((wi (wq (wv (cQ o)))).length:Int)
end U
def uZ:wQ:=⟨[.val tBo],[.slice .int],false,fun d=>[X0 d.1],fun d=>(Mm d.1,())⟩
def u5:Ann:=fun r=>match r with
 |5=>some fun σ=>{X:=Nat,sl:=fun i=>[(20,.dat .int (i:Int))],ob:=fun i=>[(3,some (.row 3 .int false .no (vA (ar (qU (cQ (gb tBo σ 1)))+1).toNat (gd (.slice tLn) σ 18) i)))],inv:=fun i=>i<=(gd (.slice tLn) σ 18).length,mu:=fun i=>(gd (.slice tLn) σ 18).length-i}
 |_=>none
abbrev jgx (d:BoD×Unit)(x:Nat):=(nth (wI d.1) x)
abbrev jiC (d:BoD×Unit):=(ar (qU (cQ d.1))+1)
abbrev jh4 (d:BoD×Unit)(x:Nat):=(vA (jiC d).toNat (wI d.1) x)
def u6:Prop:=∀(d:BoD×Unit),X0 d.1->d.1.1.2.1.length<4611686018427387904->(decide ((d.1.1.2.1.length:Int)=0)=true->([],())=(Mm d.1,()))/\(decide ((d.1.1.2.1.length:Int)=0)=false->d.1.1.2.1≠[]/\wm (ar d.1.1.2.1+1)/\0<=ar d.1.1.2.1+1/\ar d.1.1.2.1+1=ar d.1.1.2.1+1/\(ar d.1.1.2.1+1).toNat*8<=140737488355328/\Mn d.1/\((wI d.1).length<4611686018427387904->(∃(x:Nat),((0=(x:Int)/\True)/\List.replicate (ar d.1.1.2.1+1).toNat 0=vA (jiC d).toNat (wI d.1) x/\True)/\x<=(wI d.1).length)/\∀(x:Nat),x<=(wI d.1).length->(decide ((x:Int)<(wI d.1).length)=true->0<=(x:Int)/\(x:Int)<(wI d.1).length/\(0:Int)<=(jgx d x).1/\(jgx d x).1<(↑(jh4 d x).length:Int)/\wm (nth (jh4 d x) (jgx d x).1.toNat+(jgx d x).q4.2.1)/\(0:Int)<=(jgx d x).1/\(jgx d x).1<(↑(jh4 d x).length:Int)/\wm ((x:Int)+1)/\∃(a:Nat),(((x:Int)+1=(a:Int)/\True)/\(jh4 d x).set (jgx d x).1.toNat (nth (jh4 d x) (jgx d x).1.toNat+(jgx d x).q4.2.1)=vA (jiC d).toNat (wI d.1) a/\True)/\a<=(wI d.1).length/\(wI d.1).length-a<(wI d.1).length-x)/\(decide ((x:Int)<(wI d.1).length)=false->(vA (jiC d).toNat (wI d.1) x,())=(Mm d.1,()))))
def Fs:wQ:=⟨[.val tBo,.val .int],[.slice .int],false,fun d=>[X1 d.1],fun d=>(Uf d.1 d.2.1,())⟩
abbrev jgj (d:BoD×Int×Unit):=(wM none (wA Ty.int d.2.1 d.1.2.1))
abbrev jh5 (d:BoD×Int×Unit):=(wG ((((0:Int),(0:Int),(0:Int),(0:Int),(0:Int),(0:Int),()),(0:Int),(0:Int),(0:Int),()),((0:Int),(0:Int),(0:Int),(0:Int),(0:Int),(0:Int),(0:Int),(0:Int),[],[],()),(0:Int),(0:Int),[],(0:Int),(0:Int),false,(0:Int),()) (jgj d))
abbrev jg7 (d:BoD×Int×Unit):=(d.1.1.1.1.2.1.length:Int)
abbrev jj9 (d:BoD×Int×Unit):=(Z9 (vd (jh5 d)).2.2.1 (U.bl (jgj d)) (List.replicate (jg7 d).toNat (0:Int)))
def Ft:Prop:=∀(d:BoD×Int×Unit),X1 d.1->d.1.1.1.1.2.1.length<4611686018427387904->0<=(jg7 d)/\(jg7 d)=(jg7 d)/\(jg7 d).toNat*8<=140737488355328/\((!(jgj d).isNone)=true->(jgj d).isSome=true/\ri (jh5 d)/\(jgj d).isSome=true/\Rm (U.bl (jgj d)) (vd (jh5 d)).2.2.1 (List.replicate (jg7 d).toNat (0:Int))/\(jgj d).isSome=true/\Rm (U.bl (jgj d)) (vd (jh5 d)).2.2.2.1 (jj9 d)/\(Z9 (vd (jh5 d)).2.2.2.1 (U.bl (jgj d)) (jj9 d),())=(Uf d.1 d.2.1,()))/\((!(jgj d).isNone)=false->(List.replicate (jg7 d).toNat (0:Int),())=(Uf d.1 d.2.1,()))
theorem IK:Ft:=by
 unfold Ft jj9 jg7 jh5 jgj;intro d A E;obtain⟨m,l,k⟩:X1 d.1:=A;have l:(wi (wq (wv (cQ d.1)))).length<=100:=l;refine⟨jX _,rfl,?_,fun h=> ?_,fun h=> ?_⟩;show(((wi (wq (wv (cQ d.1)))).length:Int)).toNat*8<=140737488355328;omega;obtain⟨b,e⟩:∃b,wM none (wA Ty.int d.2.1 d.1.2.1)=some b:=by
  cases g:wM none (wA Ty.int d.2.1 d.1.2.1) with
  |none=>rw[g] at h;cases h
  |some b=>exact⟨b,rfl⟩
 have i:(d.2.1,some b)∈PP d.1:=by
  refine(M.xc (kt:= .int) m.2.2.1).1 ?_;cases g:wA (β:=Option BlD) Ty.int d.2.1 d.1.2.1 with
  |none=>rw[g] at e;cases e
  |some v=>rw[g] at e;exact g.trans (jF some e)
 obtain⟨z,o,u⟩:=m.1 _ i;have o:some b=some z:=o;simp only[jz] at o;subst o;have w:Lx b:=cd.1 u;have D:=k _ i b rfl;have n:=w.bl.tm;have s:=Iy w;have C:=Iz w;have ep:Uf d.1 d.2.1=jcL (wi (wq (wv (cQ d.1)))).length (some b):=jF (jcL (wi (wq (wv (cQ d.1)))).length) e;rw[e,ep];have f:∀p∈vS b,0<=p/\p<((List.replicate (wi (wq (wv (cQ d.1)))).length (0:Int)).length:Int):=fun p q=>by rw[zu];exact D p q
 obtain⟨r,y⟩:=D0 (a:=vz b) (M:=0) (tm:=vS b) ⟨s.1,by omega⟩ f (fun x c=>by rw[List.eq_of_mem_replicate c];omega) (vS b).length (jj _);refine⟨rfl,u,rfl,⟨n,f,s.1,?_,fun x c=> ?_⟩,rfl,⟨n,fun p q=> ?_,C.1,?_,fun x c=> ?_⟩,rfl⟩;show vz b<=100000000000000000;omega;have c:x∈List.replicate (wi (wq (wv (cQ d.1)))).length (0:Int):=c;rw[List.eq_of_mem_replicate c];omega;have B:=f p q;show 0<=p/\p<((qi (vz b) (vS b) (List.replicate (wi (wq (wv (cQ d.1)))).length (0:Int)) (vS b).length).length:Int);rw[r];exact B;show vT b<=100000000000000000;omega;have c:x∈qi (vz b) (vS b) (List.replicate (wi (wq (wv (cQ d.1)))).length (0:Int)) (vS b).length:=c;obtain⟨j,t,rfl⟩:=L.mem_iff.1 c;have:=y j (by rw[r] at t;exact t);omega;have e:wM none (wA Ty.int d.2.1 d.1.2.1)=none:=by
  cases g:wM none (wA Ty.int d.2.1 d.1.2.1) with
  |none=>rfl
  |some b=>rw[g] at h;cases h
 have ep:Uf d.1 d.2.1=jcL (wi (wq (wv (cQ d.1)))).length none:=jF (jcL (wi (wq (wv (cQ d.1)))).length) e;rw[ep];rfl
theorem Fu:wV PR 47 Fs:=wK IK Tryz.func47 (kcC bi kcN) (koC AW koN)
theorem Pg {b:BlD} (w:Lx b): -1000000<=Mj (vd b)/\Mj (vd b)<=20000000000000000:=by
 have c:=Iy w;have d:=Iz w;have e:=w.bl.ta.cp;have a:0<=(vz b+vT b)*nth (aM (gU b)) (bU (yS (vn b))).toNat/\(vz b+vT b)*nth (aM (gU b)) (bU (yS (vn b))).toNat<=10000001000000000*100:=Ix (by omega) (Xg w.bl);have f:=ZD (b:=100) a (by omega);show-1000000<=vz b+vT b-oJ b/\vz b+vT b-oJ b<=20000000000000000;unfold oJ;omega
theorem Tx {o:BoD} (h:Mn o) {x:LnD} (c:x∈wI o):∃k b,(k,some b)∈PP o/\Lx b/\x=vd b:=by
 have c:x∈vX (PP o):=(qc _).mem_iff.1 c;obtain⟨⟨k,v⟩,d,rfl⟩:=jV.1 c;obtain⟨b,a,e⟩:=h.1 _ d;have a:v=some b:=a;subst a;exact⟨k,b,d,cd.1 e,rfl⟩
theorem Tz {o:BoD} (h:Mn o):(wI o).length<=100:=by
 have e:(wI o).length=(vX (PP o)).length:=(qc _).length_eq;have e2:(vX (PP o)).length=(PP o).length:=zf _;have:=h.2.1;omega
theorem D2:∀(l:List Int) (a:Int),a<=l.foldl max a/\(∀n∈l,n<=l.foldl max a)/\(l.foldl max a=a\/l.foldl max a∈l)
 |[],a=>⟨zN _,fun n c=>(by cases c),Or.inl rfl⟩
 |x::r,a=>by
  obtain⟨e,d,b⟩:=D2 r (max a x)
  show a<=r.foldl max (max a x)/\_/\(r.foldl max (max a x)=a\/r.foldl max (max a x)∈x::r)
  refine⟨by omega,fun n c=> ?_,?_⟩
  show n<=r.foldl max (max a x)
  rcases jk.1 c with rfl|c
  omega
  exact d n c
  rcases b with b|b
  rcases Int.le_total a x with h|h
  right;rw[b,Int.max_eq_right h];simp
  left;rw[b,Int.max_eq_left h]
  right;exact jm _ b
theorem Xv {l:List Int} {n:Int} (h:n∈l):n<=ar l:=(D2 l (nth l 0)).2.1 n h
theorem Q4 {l:List Int} (h:l≠[]):ar l∈l:=by
 rcases(D2 l (nth l 0)).2.2 with a|a;have:ar l=nth l 0:=a;rw[this];exact L.wh (kT.2 h);exact a
theorem u7 {n:Nat} {l:List LnD} {k:Nat} (h:k<l.length):vA n l (k+1)=Z8 (vA n l k) (nth l k):=by
 unfold vA;rw[L.wO h,jU];rfl
theorem D3 {n:Nat} {l:List LnD} (h:∀x∈l,(0<=fJ x/\fJ x<(n:Int))/\-1000000<=Mj x/\Mj x<=20000000000000000):
 ∀k,k<=l.length->(vA n l k).length=n/\∀j,j<n->-1000000*(k:Int)<=nth (vA n l k) j/\nth (vA n l k) j<=20000000000000000*(k:Int)
 |0,_=>⟨zu,fun j a=>by
  have:nth (vA n l 0) j=0:=L.Bv a
  rw[this];omega⟩
 |k+1,hk=>by
  obtain⟨b,c⟩:=D3 h k (by omega)
  obtain⟨⟨f,g⟩,i,m⟩:=h _ (L.wh (show k<l.length by omega))
  rw[u7 (by omega)]
  unfold Z8
  refine⟨by rw[kg,b],fun j a=> ?_⟩
  rw[L.bj (by rw[b];omega)]
  have d:=c j a
  have e:=c (fJ (nth l k)).toNat (by omega)
  split<;>omega
theorem AX:u6:=by
 unfold u6 jh4 jiC jgx Prod.q4;intro d s C;obtain⟨c,a,i,w⟩:X0 d.1:=s;have a:(qU (cQ d.1)).length<=100:=a;refine⟨fun h=> ?_,fun h=> ?_⟩;have h:((qU (cQ d.1)).length:Int)=0:=ja h;have e:Mm d.1=[]:=jg (by omega);rw[e];have h:¬((qU (cQ d.1)).length:Int)=0:=jc h;have g:qU (cQ d.1)≠[]:=fun e=>h (by rw[e];rfl)
 have D:=i _ (Q4 g);have e:Mm d.1=vA (ar (qU (cQ d.1))+1).toNat (wI d.1) (wI d.1).length:=jd (by omega);have m:∀x∈wI d.1,(0<=fJ x/\fJ x<(((ar (qU (cQ d.1))+1).toNat:Nat):Int))/\-1000000<=Mj x/\Mj x<=20000000000000000:=fun x m=>by
  obtain⟨k,b,t,u,rfl⟩:=Tx c m;have n:=w _ t b rfl;have A:=Xv n;have v:=i _ n;refine⟨⟨v.1,?_⟩,Pg u⟩;show PO b<_;omega
 have F:=D3 m;have B:=Tz c;refine⟨g,L.FU (by show _<=ar (qU (cQ d.1))+1;omega) (by show ar (qU (cQ d.1))+1<=_;omega),by show 0<=ar (qU (cQ d.1))+1;omega,rfl,by show(ar (qU (cQ d.1))+1).toNat*8<=140737488355328;omega,c,fun _=>⟨⟨0,⟨⟨rfl,tZ⟩,rfl,tZ⟩,jl _⟩,fun x j=>⟨fun f=> ?_,fun f=> ?_⟩⟩⟩;have f:(x:Int)<(wI d.1).length:=ja f;have l:x<(wI d.1).length:=(by omega);obtain⟨⟨o,y⟩,E,G⟩:=m _ (L.wh l);obtain⟨q,r⟩:=F x (by omega);have z:=r (fJ (nth (wI d.1) x)).toNat (by omega);have p:fJ (nth (wI d.1) x)<((vA (ar (qU (cQ d.1))+1).toNat (wI d.1) x).length:Int):=(by rw[q];exact y);refine⟨jX _,f,o,p,?_,o,p,iZ6,x+1,⟨⟨by simp,tZ⟩,(u7 l).symm,tZ⟩,by show x+1<=(wI d.1).length;omega,by show(wI d.1).length-(x+1)<(wI d.1).length-x;omega⟩;show wm (nth (vA (ar (qU (cQ d.1))+1).toNat (wI d.1) x) (fJ (nth (wI d.1) x)).toNat+Mj (nth (wI d.1) x));exact iZ6;have f:¬(x:Int)<(wI d.1).length:=jc f;have j:x<=(wI d.1).length:=j;have ex:x=(wI d.1).length:=(by omega);subst ex;rw[e]
theorem u9:wV PR 61 uZ:=qY u5 AX Tryz.func61 (kcC IJ (kcC ld kcN)) koN
namespace U
def bo (l:LgD):BoD:=(l,Ue l,())
def FR (l:LgD):List LnD:=if wT l=0 then wI (bo l) else[]
def A3 (l:LgD):List Int:=if wT l=0 then Mm (bo l) else[]
def yX (l:LgD) (n:Int):Bool:=k8 n 0 (((wo (wv l)).length:Int)-1)
def Mo (l:LgD) (n:Int):List Int:=if qG l (yX l n)=0 then Uf (bo l) n else[]
def ga (m:Int):Bool:=k8 m (-100000) 1440
def gw (m:Int):Bool:=k8 m 0 1000000000
def FS (l:LgD) (n m:Int):Int:=if qG l (yX l n&&ga m)=0 then(match Uq (bo l) n with|some b=>Mj (vd b)-gV m b|none=>0) else 0
end U
theorem IL {l:LgD} {e:Int×Option BlD} (h:e∈Ue l):∃n,n∈wa (wv l)/\e=(n,some (wW l n)):=by
 rw[Q1] at h;obtain⟨n,a,rfl⟩:=jV.1 h;exact⟨n,a,rfl⟩
theorem Q5 {l:LgD} (h:AA l):(wa (wv l)).length<=4:=by
 have a:=h.dy;unfold qv at a;rw[ji] at a;have a:=(ja a.1).1;unfold wa
 split
 unfold am;rw[zf];exact jE (zy _ _) (by rw[zG];exact a);exact jl _
theorem Xw {l:LgD} (h:AA l):Mn (U.bo l):=by
 refine⟨fun e c=> ?_,?_,?_,fun e c b a=> ?_⟩;obtain⟨n,d,rfl⟩:=IL c;exact⟨_,rfl,cd.2 (Lz h (IB d))⟩;show(Ue l).length<=100;have:=Q5 h;rw[Q1,zf];omega;show((Ue l).map (·.1)).Nodup;rw[Q1,kW];have e:((fun(x:Int×Option BlD)=>x.1)∘fun n=>(n,some (wW l n)))=id:=rfl;rw[e,List.map_id];exact uS _;obtain⟨n,d,rfl⟩:=IL c;have a:some (wW l n)=some b:=a;simp only[jz] at a;subst a;exact(ye l n _ (jj _)).2.2.1
theorem jeL {l:LgD} (h:AA l):X0 (U.bo l):=by
 have d:(wo (wv l)).length<=4:=by
  have c:=h.dy;unfold qv at c;rw[ji] at c;exact(ja c.1).1
 refine⟨Xw h,?_,h.py.2,fun e f b a=> ?_⟩;show(qU l).length<=100;rw[h.py.1];omega;obtain⟨n,i,rfl⟩:=IL f;have a:some (wW l n)=some b:=a;simp only[jz] at a;subst a;have e:PO (wW l n)=nth (qU l) n.toNat:=(ye l n _ (jj _)).2.2.2.1;rw[e];have:=IB i;have g:n.toNat<(qU l).length:=(by rw[h.py.1];omega);exact L.wh g
theorem jeM {l:LgD} (h:AA l):X1 (U.bo l):=by
 refine⟨Xw h,?_,fun e c b a=> ?_⟩;show(wi (wq (wv l))).length<=100;have:=jeD h;omega;obtain⟨n,d,rfl⟩:=IL c;have a:some (wW l n)=some b:=a;simp only[jz] at a;subst a;have e:vS (wW l n)=qB l n (wi (wq (wv l))).length:=(ye l n _ (jj _)).2.2.2.2.1;rw[e];exact(tp _ _).2
namespace U
def vo (l:LgD) (b:Int):BkD:=nth (wo (wv l)) b.toNat
def Mp (l:LgD) (b:Int) (x:Int×Bool) (c:CaD):Int×Bool:=if jcJ c=b/\PM c<=w8 (vo l b)/\(x.2=false\/PM c<x.1) then(PM c,true) else x
def qS (l:LgD) (b:Int) (k:Nat):Int×Bool:=((w9 l).take k).foldl (Mp l b) (0,false)
def gg (l:LgD) (b:Int):Int×Bool:=qS l b (w9 l).length
def rk (l:LgD) (b:Int) (i:Nat):Bool:=decide (Z7 (ve l)<=w8 (vo l b)+i)||decide (w8 (vo l b)+i<jcI (ve l))
def vY (l:LgD) (b:Int) (k:Nat):Int:=(((List.range k).countP (rk l b):Nat):Int)
def PQ (l:LgD) (b:Int):Int:=vY l b (gn (vo l b)-w8 (vo l b)).toNat
def dJ (l:LgD) (b m:Int):Int:=m*Ya (ve l)*max (jcH (ve l)) (up (gn (vo l b)-w8 (vo l b)) (PL (ve l)))
def qC (l:LgD) (b m:Int):Int:=dJ l b m+up (dJ l b m*FO (ve l)*PQ l b) (100*(gn (vo l b)-w8 (vo l b)))
def oK (l:LgD) (b m:Int) (n:NoD):Bool:=decide (X8 n<=w8 (vo l b)-m)
def gR (l:LgD) (b m:Int):Int:=if 0<=gy (oK l b m) (aa (ve l)) then X9 (nth (aa (ve l)) (gy (oK l b m) (aa (ve l))).toNat) else 100
def jcM (l:LgD) (b t:Int):Int:=if(gg l b).2=true then up (qC l b (BT.size t)*gR l b (gg l b).1) 100 else qC l b (BT.size t)
def jcN (l:LgD) (b t:Int):Int:=if(gg l b).2=true then 0 else Mh (ve l)*nth (nL l) b.toNat*BT.size t
def jcO (l:LgD) (b t:Int):Int:=min (Mi (ve l)) (((jcM l b t+jcN l b t)*nth (aM (ve l)) (bU (yS (vo l b))).toNat).tdiv 100)
def bX (l:LgD) (b t:Int):LnD:=(nth (qU l) b.toNat,b,jcM l b t,jcN l b t,jcO l b t,jcM l b t+jcN l b t-jcO l b t,())
def Br (l:LgD) (b:Int):Int:=nth (tN (wv l)) b.toNat
def jcP (l:LgD) (b:Int):Bool:=Er (wq (wv l)) (yS (vo l b)) (Br l b)
def jc2 (l:LgD) (p:Int) (b:Nat):Bool:=jcP l (b:Int)&&decide (nth (qU l) b=p)
def yi (l:LgD) (p:Int) (k:Nat):List LnD:=((List.range k).filter (jc2 l p)).map (fun(b:Nat)=>bX l (b:Int) (Br l (b:Int)))
def qL (l:LgD) (n:Nat):List LnD:=(List.range n).flatMap (fun(p:Nat)=>yi l (p:Int) (qU l).length)
def Mq (l:LgD):List LnD:=qL l 21
def qk (l:LgD) (k:Nat):Int:=((qU l).take k).foldl (fun m p=>max m (p+1)) 0
def lk (l:LgD):Int:=qk l (qU l).length
def jeX (l:LgD):List Int:=vA (lk l).toNat (Mq l) (Mq l).length
def Jf (l:LgD) (b:Int):Prop:=ym (ve l)=true/\(0<=b/\b<((wo (wv l)).length:Int))/\(qU l).length=(wo (wv l)).length/\(nL l).length=(wo (wv l)).length/\(∀n∈nL l,0<=n/\n<=300)/\
 (0<=w8 (vo l b)/\w8 (vo l b)<gn (vo l b)/\gn (vo l b)<=1440)/\(0<=bU (yS (vo l b))/\bU (yS (vo l b))<=3)/\(w9 l).length<=1000/\∀c∈w9 l,-100000<=PM c/\PM c<=1440
end U
theorem jdT {l:LgD} (h:AA l) {b:Int} (a:0<=b/\b<((wo (wv l)).length:Int)):Jf l b:=by
 obtain⟨d,e⟩:=DN h a;exact⟨ca.2 h.ta,a,h.py.1,h.tr.1,h.tr.2,d,e,by have:=h.cl.1;omega,fun c f=>(h.cl.2 c f).2.2⟩
theorem rc {l:LgD} {b:Int} {k:Nat} (h:k<(w9 l).length):qS l b (k+1)=Mp l b (qS l b k) (nth (w9 l) k):=by
 unfold qS;rw[L.wO h,jU];rfl
theorem Xx {l:LgD} {b:Int} (h:∀c∈w9 l,-100000<=PM c/\PM c<=1440):∀k,k<=(w9 l).length->-100000<=(qS l b k).1/\(qS l b k).1<=1440
 |0,_=>by show-100000<=(0:Int)/\(0:Int)<=1440;omega
 |k+1,hk=>by
  rw[rc (by omega)]
  unfold Mp
  split
  exact h _ (L.wh (by omega))
  exact Xx h k (by omega)
theorem LS {l:LgD} {n:Int}:∀k,k<=(w9 l).length->(rz (wu l n k),tU (wu l n k))=qS l n k
 |0,_=>rfl
 |k+1,hk=>by
  have d:=LS (l:=l) (n:=n) k (by omega)
  have c:vn (wu l n k)=vo l n:=(ye l n k (by omega)).1
  rw[dF (by omega),rc (by omega),<-d]
  unfold tP Mp
  by_cases a:jcJ (nth (w9 l) k)=n
  rw[jg a]
  unfold gK
  rw[c]
  by_cases b:PM (nth (w9 l) k)<=w8 (vo l n)/\(tU (wu l n k)=false\/PM (nth (w9 l) k)<rz (wu l n k))
  rw[jg b,jg ⟨a,b⟩];rfl
  rw[jd b,jd (fun h=>b h.2)]
  rw[jd a,jd (fun h=>a h.1)]
theorem Xy {l:LgD} {b:Int} (a:jcI (ve l)<=Z7 (ve l)):∀k:Nat,vY l b k=max 0 (w8 (vo l b)+k-max (w8 (vo l b)) (Z7 (ve l)))+max 0 (min (w8 (vo l b)+k) (jcI (ve l))-w8 (vo l b))
 |0=>by
  show(0:Int)=_
  omega
 |k+1=>by
  have c:=Xy (b:=b) a k
  have e:vY l b (k+1)=vY l b k+(if rk l b k=true then 1 else 0):=by
   unfold vY;rw[zc,zK,kL]
   split<;>simp
  rw[e,c];by_cases h:rk l b k=true;rw[jg h];unfold rk at h;rw[zq,jp,jp] at h;omega;rw[jd h];unfold rk at h;rw[zq,jp,jp] at h;omega
theorem Ph (l:LgD) (b:Int) (k:Nat):0<=vY l b k/\vY l b k<=(k:Int):=by
 unfold vY;have:=List.countP_le_length (p:=rk l b) (l:=List.range k);rw[zG] at this;omega
theorem TA {w:Int} (h:0<=w):U.up (w*100) 100=w:=by
 unfold U.up;rw[km (by omega)];omega
theorem Q6 {d:DyD} (h:aj d=0) {b:Nat} (g:b<(wo d).length):(((Ml (nth (tN d) b) (wi (wq d)).length).length:Nat):Int)=BT.size (nth (tN d) b):=by
 have e:tN d=(Je d).1:=jg h;have a:=jaE h g;rw[<-e] at a;have l:(wi (wq d)).length<=8:=by
  have c:=(GM h).1;unfold wt at c;rw[ji] at c;exact(ja c.1).2.2.1
 have k:BT.qh (nth (tN d) b):=⟨a.1,Int.lt_trans a.2 (by
  have:(2:Int)^(wi (wq d)).length<2^62:=by
   rw[BT.Bs,BT.Bs];exact Int.ofNat_lt.2 (Nat.pow_lt_pow_right (by decide) (by omega))
  exact this)⟩
 unfold Ml BT.size;rw[zf,<-List.countP_eq_length_filter];obtain⟨m,j⟩:∃m,62=(wi (wq d)).length+m:=⟨62-(wi (wq d)).length,by omega⟩;rw[j,List.range_add,zK];have z:List.countP (fun p=>BT.has (nth (tN d) b) p) (List.map (fun x=>(wi (wq d)).length+x) (List.range m))=0:=by
  rw[zX];intro p f i;obtain⟨q,n,rfl⟩:=jV.1 f;have:=BT.has_lt a.1 a.2 i;omega
 rw[z,zL];congr 1;refine List.countP_congr fun p f=> ?_
 have:=Bm k (p:Int);rw[this];simp
theorem ZJ {l:LgD} (h:aj (wv l)=0) (u:jcI (ve l)<=Z7 (ve l)) {n:Int} (A:0<=n/\n<((wo (wv l)).length:Int)) (z:w8 (vo l n)<gn (vo l n)) (v:0<=ru (lj l n)):vd (wW l n)=bX l n (Br l n):=by
 obtain⟨c1,c2,e,f,y,g,i⟩:=ye l n _ (jj _);have c1:vn (wW l n)=vo l n:=c1;have c2:gU (wW l n)=ve l:=c2;have e:PN (wW l n)=n:=e;have f:PO (wW l n)=nth (qU l) n.toNat:=f;have g:ru (wW l n)=ru (lj l n):=g;have i:FP (wW l n)=FP (lj l n):=i;have a:=LS (l:=l) (n:=n) _ (jj _);have w:rz (wW l n)=(gg l n).1:=jF (·.1) a;have s:tU (wW l n)=(gg l n).2:=jF (·.2) a;have b:(((qB l n (wi (wq (wv l))).length).length:Nat):Int)=BT.size (Br l n):=by
  unfold qB Br;rw[jb6,jg h,<-(jg h:tN (wv l)=_)];exact Q6 h (by omega)
 have k:gN (tO l n (qB l n (wi (wq (wv l))).length))=PQ l n:=by
  unfold PQ;rw[Xy u];show max 0 (gn (vo l n)-max (w8 (vo l n)) (Z7 (ve l)))+max 0 (min (gn (vo l n)) (jcI (ve l))-w8 (vo l n))=_;omega
 have p:ru (lj l n)=qC l n (BT.size (Br l n)):=by
  show m0 (tO l n (qB l n (wi (wq (wv l))).length))+U.up (m0 (tO l n (qB l n (wi (wq (wv l))).length))*FO (ve l)*gN (tO l n (qB l n (wi (wq (wv l))).length))) (100*(gn (vo l n)-w8 (vo l n)))=_;have j:m0 (tO l n (qB l n (wi (wq (wv l))).length))=dJ l n (BT.size (Br l n)):=by
   show(((qB l n (wi (wq (wv l))).length).length:Nat):Int)*Ya (ve l)*max (jcH (ve l)) (U.up (gn (vo l n)-w8 (vo l n)) (PL (ve l)))=_;rw[b];rfl
  rw[j,k];rfl
 have o:FP (lj l n)=Mh (ve l)*nth (nL l) n.toNat*BT.size (Br l n):=by
  show(((qB l n (wi (wq (wv l))).length).length:Nat):Int)*Mh (ve l)*nth (nL l) n.toNat=_;rw[b,Int.mul_assoc,Int.mul_comm]
 have m:fK (wW l n)=oK l n (gg l n).1:=by
  funext x;unfold fK oK;rw[c1,w]
 have r:vz (wW l n)=jcM l n (Br l n):=by
  unfold vz jcM Ud gR;rw[s,c2,m,g,<-p];by_cases c:(gg l n).2=true;rw[jg c];by_cases d:0<=gy (oK l n (gg l n).1) (aa (ve l));rw[jg ⟨c,d⟩,jg d];rw[jd (fun h=>d h.2),jd d,TA v];rw[jd (fun h=>c h.1),jd c]
 have q:vT (wW l n)=jcN l n (Br l n):=by
  unfold vT jcN;rw[s,i,o]
 have t:oJ (wW l n)=jcO l n (Br l n):=by
  unfold oJ jcO;rw[r,q,c1,c2]
 unfold vd bX;rw[r,q,t,e,f]
theorem Pi {l:LgD} (h:AA l) {n:Int} (a:0<=n/\n<((wo (wv l)).length:Int)):vd (wW l n)=bX l n (Br l n):=by
 obtain⟨b,e⟩:=DN h a;have c:=(fx (wv l)).symm.trans h.cp;have d:=h.ta.dw;exact ZJ c (by omega) a b.2.1 (Q3 h a).wk.1
theorem ZK {x y:LnD} (h:fJ x<fJ y\/(fJ x=fJ y/\xK x<xK y)):¬xb y x<0:=by
 unfold xb;rw[qm,vL];unfold cT;rcases h with h|⟨b,a⟩;rw[jd (show¬fJ y<fJ x by omega),jg h,jg (by decide)];decide;rw[jd (show¬fJ y<fJ x by omega),jd (show¬fJ x<fJ y by omega),jd (by decide),jd (show¬xK y<xK x by omega),jg a];decide
theorem IM (l:LgD):vX (Ue l)=(wa (wv l)).map (fun n=>vd (wW l n)):=by
 rw[Q1];unfold vX;rw[kW];rfl
theorem Q7 (l:LgD) (n:Int):xK (vd (wW l n))=n:=(ye l n _ (jj _)).2.2.1
theorem jcn {d:DyD} (h:aj d=0) {n:Int}:n∈wa d↔∃b:Nat,b<(wo d).length/\je9 d (tN d) b=true/\n=(b:Int):=by
 rw[jcc];unfold jfa;rw[jg h];unfold jaM;rw[jV];constructor;rintro⟨b,a,rfl⟩;have:=jP.1 a;exact⟨b,by rw[<-Ip h];exact jD.1 this.1,this.2,rfl⟩;rintro⟨b,a,c,rfl⟩;exact⟨b,jP.2 ⟨jD.2 (by rw[Ip h];exact a),c⟩,rfl⟩
theorem Xz {l:LgD} (h:AA l) {n:Int} (e:0<=n/\n<((wo (wv l)).length:Int)):n∈wa (wv l)↔jcP l n=true:=by
 have c:=(fx (wv l)).symm.trans h.cp;rw[jcn c];constructor;rintro⟨b,d,a,rfl⟩;exact a;intro a;exact⟨n.toNat,by omega,a,by omega⟩
theorem IN {l:LgD} {k:Nat} {x:LnD}:x∈qL l k↔∃p:Nat,p<k/\∃b:Nat,b<(qU l).length/\jcP l (b:Int)=true/\nth (qU l) b=(p:Int)/\x=bX l (b:Int) (Br l (b:Int)):=by
 unfold qL;rw[List.mem_flatMap];constructor;rintro⟨p,d,h⟩;obtain⟨b,c,rfl⟩:=jV.1 h;have e:=jP.1 c;have a:=e.2;unfold jc2 at a;rw[ji,jp] at a;exact⟨p,jD.1 d,b,jD.1 e.1,a.1,a.2,rfl⟩;rintro⟨p,d,b,c,g,f,rfl⟩;refine⟨p,jD.2 d,jV.2 ⟨b,jP.2 ⟨jD.2 c,?_⟩,rfl⟩⟩;unfold jc2;rw[g,jG f];rfl
theorem Q8 (l:LgD) (k:Nat):(qL l k).Pairwise (fun x y=>fJ x<fJ y\/(fJ x=fJ y/\xK x<xK y)):=by
 have d:∀(p:Nat) (x:LnD),x∈yi l (p:Int) (qU l).length->fJ x=(p:Int):=fun p x g=>by
  obtain⟨b,f,rfl⟩:=jV.1 g;have e:=(jP.1 f).2;unfold jc2 at e;rw[ji,jp] at e;exact e.2
 unfold qL;refine List.pairwise_flatMap.2 ⟨fun p _=> ?_,List.Pairwise.imp ?_ kI⟩;have h:(yi l (p:Int) (qU l).length).Pairwise (fun x y=>xK x<xK y):=by
  unfold yi;exact zT.2 ((List.pairwise_lt_range.filter _).imp fun{a b} c=>by
   show(a:Int)<(b:Int);omega)
 exact List.Pairwise.imp_of_mem (fun{a b} i f c=>Or.inr ⟨by rw[d p a i,d p b f],c⟩) h;intro a b c x g y j;have:=d a x g;have:=d b y j;left;omega
theorem TB (l:LgD) (k:Nat):(qL l k).Nodup:=(Q8 l k).imp fun{a b} h e=>by subst e;omega
theorem D4 {l:LgD} (h:AA l):wI (U.bo l)=Mq l:=by
 have o:=GU (Xw h);have f:(vX (Ue l)).Nodup:=by
  rw[IM];exact zT.2 ((uS (wv l)).imp fun{a b} g e=>g (by
   have:=jF xK e;rw[Q7,Q7] at this;exact this))
 have s:=(fx (wv l)).symm.trans h.cp
 haveI:DecidableEq LnD:=fun a b=>Classical.propDecidable (a=b)
 have k:(Mq l).Perm (vX (PP (U.bo l))):=L.oM (TB l 21) f fun x=>by
  show x∈qL l 21↔x∈vX (Ue l);rw[IN,IM,jV];constructor;rintro⟨p,k,b,m,r,q,rfl⟩;have c:0<=(b:Int)/\(b:Int)<(wo (wv l)).length:=(by rw[h.py.1] at m;omega);exact⟨(b:Int),(Xz h c).2 r,Pi h c⟩;rintro⟨n,j,rfl⟩;have c:=IB j;have i:n.toNat<(qU l).length:=(by rw[h.py.1];omega);have q:=h.py.2 _ (L.wh i);have en:((n.toNat:Nat):Int)=n:=(by omega);refine⟨(nth (qU l) n.toNat).toNat,by omega,n.toNat,i,?_,by omega,?_⟩;rw[en];exact(Xz h c).1 j;rw[en];exact Pi h c
 refine(sy (jeK o) k ?_).symm;exact(Q8 l 21).imp fun{a b} d=>zn (ZK d)
theorem GW {l:LgD} {k:Nat} (h:k<(qU l).length):qk l (k+1)=max (qk l k) (nth (qU l) k+1):=by
 unfold qk;rw[L.wO h,jU];rfl
theorem iQ {l:LgD}:∀k,k<=(qU l).length->0<=qk l k/\(∀i,i<k->nth (qU l) i+1<=qk l k)/\(qk l k=0\/∃i,i<k/\qk l k=nth (qU l) i+1)
 |0,_=>⟨zN _,fun i hi=>by omega,Or.inl rfl⟩
 |k+1,hk=>by
  obtain⟨c,b,a⟩:=iQ (l:=l) k (by omega)
  rw[GW (by omega)]
  refine⟨by omega,fun i hi=> ?_,?_⟩
  by_cases e:i=k
  subst e;omega
  have:=b i (by omega);omega
  rcases Int.le_total (nth (qU l) k+1) (qk l k) with h|h
  rw[Int.max_eq_left h]
  rcases a with a|⟨i,hi,a⟩
  exact Or.inl a
  exact Or.inr ⟨i,by omega,a⟩
  rw[Int.max_eq_right h]
  exact Or.inr ⟨k,by omega,rfl⟩
theorem jco {l:LgD} (h:AA l):Mm (U.bo l)=jeX l:=by
 have m:=D4 h;unfold Mm jeX;rw[m];show(if(qU l).length=0 then[] else vA (ar (qU l)+1).toNat (Mq l) (Mq l).length)=_;by_cases e:(qU l).length=0;rw[jg e];have f:Mq l=[]:=by
  refine kD.2 fun x o=> ?_
  obtain⟨p,_,b,t,_⟩:=IN.1 (show x∈qL l 21 from o);omega
 have e2:lk l=0:=(by unfold lk;rw[e];rfl);rw[f,e2];rfl;rw[jd e];obtain⟨r,k,a⟩:=iQ (l:=l) (qU l).length (jj _);have c:qU l≠[]:=fun e2=>e (by rw[e2];rfl)
 have d:=Q4 c;have u:=h.py.2 _ d;obtain⟨i,hi,q⟩:=L.mem_iff.1 d;have s:=k i hi;have g:lk l=ar (qU l)+1:=by
  show qk l (qU l).length=_;rcases a with a|⟨j,n,a⟩;omega;have:=Xv (L.wh n);omega
 rw[g]
namespace U
def fL (b:BlD) (a:Int) (k:Nat):Bool:=decide (gV (w8 (vn b)-(k:Int)) b<=a)
def dY (b:BlD):Nat:=(w8 (vn b)+100001).toNat
def FT (b:BlD) (a:Int):Option Nat:=(List.range (dY b)).find? (fL b a)
def jeY (b:BlD):Option Nat->Int
 |some k=>w8 (vn b)-(k:Int)
 |none=>0
def jeZ:Option Nat->Int
 |some _=>0
 |none=>3
def jfe (a:Int):Option BlD->Int
 |some b=>jeY b (FT b a)
 |none=>0
def jff (a:Int):Option BlD->Int
 |some b=>jeZ (FT b a)
 |none=>3
def Mr (l:LgD) (n a:Int):Int:=if qG l (yX l n&&gw a)=0 then jfe a (Uq (bo l) n) else 0
def Ms (l:LgD) (n a:Int):Int:=if qG l (yX l n&&gw a)=0 then jff a (Uq (bo l) n) else qG l (yX l n&&gw a)
end U
theorem GX (b:BlD) (a:Int):(∃k:Nat,FT b a=some k/\k<dY b/\fL b a k=true/\∀j:Nat,j<k->fL b a j=false)\/(FT b a=none/\∀j:Nat,j<dY b->fL b a j=false):=by
 cases e:FT b a with
 |some k=>
  left;unfold FT at e;obtain⟨l,d,rs,f,m⟩:=List.find?_eq_some_iff_append.1 e;have c:=jF List.length f;rw[zG,jI,j8] at c;have hk:(List.range (dY b))[d.length]'(by rw[zG];omega)=k:=by
   have e2:(d++k::rs)[d.length]'(by rw[jI,j8];omega)=k:=by
    rw[List.getElem_append_right (jj _)];simp
   have:=List.getElem_of_eq f (i:=d.length) (by rw[zG];omega);rw[this,e2]
  rw[List.getElem_range] at hk;refine⟨k,rfl,by omega,l,fun j h=> ?_⟩;have g:=List.getElem_of_eq f (i:=j) (by rw[zG];omega);rw[List.getElem_range,List.getElem_append_left (by omega)] at g;have:=m j (by rw[g];exact kP _);simpa using this
 |none=>
  right;unfold FT at e;rw[List.find?_eq_none] at e;refine⟨rfl,fun j h=> ?_⟩;have:=e j (jD.2 h);simpa using this
end Go.X

namespace Go.X
open U
theorem jdU {l:LgD} (h:AA l):(wo (wv l)).length<=4:=by
 have a:=h.dy;unfold qv at a;rw[ji] at a;exact(ja a.1).1
structure jfn (l:LgD) (x:LnD):Prop where
 bk:0<=xK x/\xK x<((wo (wv l)).length:Int)
 py:fJ x=nth (qU l) (xK x).toNat
 pr:0<=fJ x/\fJ x<=20/\fJ x<lk l
 wk:0<=jeT x/\jeT x<=10000000000000000
 tr:0<=jeU x/\jeU x<=1000000000
 sb:0<=jeV x/\jeV x<=Mi (ve l)
 tt:Mj x=jeT x+jeU x-jeV x/\0<=Mj x
 kd:0<=bU (yS (nth (wo (wv l)) (xK x).toNat))/\bU (yS (nth (wo (wv l)) (xK x).toNat))<((aM (ve l)).length:Int)
 pc:0<=nth (aM (ve l)) (bU (yS (nth (wo (wv l)) (xK x).toNat))).toNat/\nth (aM (ve l)) (bU (yS (nth (wo (wv l)) (xK x).toNat))).toNat<=100
 pp:100*jeV x<=(jeT x+jeU x)*nth (aM (ve l)) (bU (yS (nth (wo (wv l)) (xK x).toNat))).toNat
theorem ZL {l:LgD} {i:Nat} (hi:i<(qU l).length):nth (qU l) i<lk l:=by
 have:=(iQ (l:=l) (qU l).length (jj _)).2.1 i hi;show _<qk l (qU l).length;omega
theorem jfo {l:LgD} (h:AA l) {x:LnD} (t:x∈Mq l):jfn l x:=by
 obtain⟨p,v,b,i,z,y,rfl⟩:=IN.1 (show x∈qL l 21 from t);have c:0<=(b:Int)/\(b:Int)<(wo (wv l)).length:=(by rw[h.py.1] at i;omega);rw[<-Pi h c];have w:=Lz h c;obtain⟨c1,c2,e,f,_⟩:=ye l (b:Int) _ (jj _);have c1:vn (wW l (b:Int))=nth (wo (wv l)) b:=c1;have c2:gU (wW l (b:Int))=ve l:=c2;have e:PN (wW l (b:Int))=(b:Int):=e;have f:PO (wW l (b:Int))=nth (qU l) b:=f;have r:=Iy w;have q:=Iz w;have o:=w.bl.ta.cp;have d:=Xg w.bl;have hk:=w.bl.kd;have j:=w.bl.ta.sl;rw[c1,c2] at d;rw[c1] at hk;rw[c2] at o j;have m:0<=(vz (wW l (b:Int))+vT (wW l (b:Int)))*nth (aM (ve l)) (bU (yS (nth (wo (wv l)) b))).toNat:=Int.mul_nonneg (by omega) d.1;have n:(vz (wW l (b:Int))+vT (wW l (b:Int)))*nth (aM (ve l)) (bU (yS (nth (wo (wv l)) b))).toNat<=(vz (wW l (b:Int))+vT (wW l (b:Int)))*100:=Int.mul_le_mul_of_nonneg_left d.2 (by omega);have g:oJ (wW l (b:Int))=min (Mi (ve l)) (((vz (wW l (b:Int))+vT (wW l (b:Int)))*nth (aM (ve l)) (bU (yS (nth (wo (wv l)) b))).toNat)/100):=by
  unfold oJ;rw[c1,c2,km m]
 have u:=ZL i;have s:=h.py.2 _ (L.wh i);have k:xK (vd (wW l (b:Int)))=(b:Int):=e;have ep:fJ (vd (wW l (b:Int)))=nth (qU l) b:=f;have a:(xK (vd (wW l (b:Int)))).toNat=b:=(by rw[k];rfl);refine⟨by rw[k];exact c,by rw[ep,a],by rw[ep];omega,r,q,?_,⟨rfl,?_⟩,by rw[a];omega,by rw[a];exact d,?_⟩;show 0<=oJ _/\oJ _<=_;rw[g];omega;show 0<=vz _+vT _-oJ _;rw[g];omega;rw[a];show 100*oJ _<=(vz _+vT _)*_;rw[g];omega
theorem ZM {l:LgD} (h:AA l):(Mq l).length<=(wo (wv l)).length:=by
 rw[<-D4 h];have e:(wI (U.bo l)).length=(vX (Ue l)).length:=(qc _).length_eq;rw[e,IM,zf];unfold wa
 split
 unfold am;rw[zf];exact jE (zy _ _) (by rw[zG];exact jj _);exact jl _
open Go.Proofs
namespace U
def Ug (l:List NoD) (j:Nat):Bool:=(k8 (X8 (nth l j)) 0 100000&&k8 (X9 (nth l j)) 0 100)&&(decide (j=0)||decide (X8 (nth l j)<X8 (nth l (j-1))))
def X2 (a b:CaD):Bool:=decide (Up a=Up b)&& !decide (a=b)
def Ur (l:LgD) (j:Nat):Bool:=Mk (nth (qU l) j)&&xM (nth (nL l) j)
end U
def LU:wQ:=⟨[.val .int,.val .int,.val .int],[.bool],false,fun _=>[],fun d=>(k8 d.1 d.2.1 d.2.2.1,())⟩
def LV:Prop:=∀(d:CaD),(decide (d.2.1<=d.1)&&decide (d.1<=d.2.2.1),())=(k8 d.1 d.2.1 d.2.2.1,())
def Fv:wQ:=⟨[.val tTa],[.bool],false,fun _=>[],fun d=>(ym d.1,())⟩
def Fw:Ann:=fun r=>match r with
 |4=>some fun σ=>{X:=Nat,sl:=fun i=>[(3,.dat .int (i:Int))],ob:=fun _=>[],inv:=fun i=>i<=(aM (gb tTa σ 1)).length/\∀j:Nat,j<i->k8 (nth (aM (gb tTa σ 1)) j) 0 100=true,mu:=fun i=>(aM (gb tTa σ 1)).length-i}
 |9=>some fun σ=>{X:=Nat,sl:=fun i=>[(4,.dat .int (i:Int))],ob:=fun _=>[],inv:=fun i=>i<=(aa (gb tTa σ 1)).length/\∀j:Nat,j<i->Ug (aa (gb tTa σ 1)) j=true,mu:=fun i=>(aa (gb tTa σ 1)).length-i}
 |_=>none
abbrev jh6 (d:TaD×Unit)(x:Nat):=(nth d.1.q4.q4.2.1 x)
abbrev jjj (d:TaD×Unit)(x:Nat):=(!(!k8 (jh6 d x).1 (0:Int) (100000:Int)|| !k8 (jh6 d x).2.1 (0:Int) (100:Int))&&decide (0<(x:Int)))
abbrev jka (d:TaD×Unit)(x:Nat):=(!k8 (jh6 d x).1 (0:Int) (100000:Int)|| !k8 (jh6 d x).2.1 (0:Int) (100:Int)||decide (0<(x:Int))&&decide ((nth d.1.q4.q4.2.1 ((x:Int)-1).toNat).1<=(jh6 d x).1))
abbrev jh7 (d:TaD×Unit):=(d.1.q4.q4.2.1.length:Int)
abbrev jh8 (d:TaD×Unit):=(d.1.q4.q4.1.length:Int)
abbrev jkb (d:TaD×Unit):=(!k8 d.1.1 (1:Int) (240:Int)|| !k8 d.1.2.1 (0:Int) (10000:Int)|| !k8 d.1.2.2.1 (0:Int) (20:Int)|| !k8 d.1.q4.1 (0:Int) d.1.2.2.2.1||decide (1440<d.1.2.2.2.1)|| !k8 d.1.q4.2.1 (0:Int) (100:Int)|| !k8 d.1.q4.2.2.1 (0:Int) (10000:Int)||decide ((jh8 d)≠4)|| !k8 d.1.q4.2.2.2.1 (0:Int) (1000000:Int)||decide (4<(jh7 d)))
abbrev jkc (d:TaD×Unit)(x:Nat):=(!k8 (nth d.1.q4.q4.1 x) (0:Int) (100:Int))
def Fx:Prop:=∀(d:TaD×Unit),((!(!k8 d.1.1 (1:Int) (240:Int)|| !k8 d.1.2.1 (0:Int) (10000:Int)|| !k8 d.1.2.2.1 (0:Int) (20:Int)|| !k8 d.1.q4.1 (0:Int) d.1.2.2.2.1||decide (1440<d.1.2.2.2.1)|| !k8 d.1.q4.2.1 (0:Int) (100:Int)|| !k8 d.1.q4.2.2.1 (0:Int) (10000:Int)))=true->d.1.q4.q4.1.length<4611686018427387904)->((!(!k8 d.1.1 (1:Int) (240:Int)|| !k8 d.1.2.1 (0:Int) (10000:Int)|| !k8 d.1.2.2.1 (0:Int) (20:Int)|| !k8 d.1.q4.1 (0:Int) d.1.2.2.2.1||decide (1440<d.1.2.2.2.1)|| !k8 d.1.q4.2.1 (0:Int) (100:Int)|| !k8 d.1.q4.2.2.1 (0:Int) (10000:Int)||decide ((jh8 d)≠4)|| !k8 d.1.q4.2.2.2.1 (0:Int) (1000000:Int)))=true->d.1.q4.q4.2.1.length<4611686018427387904)->((jkb d)=true->(false,())=(ym d.1,()))/\((jkb d)=false->(∃(x:Nat),((0=(x:Int)/\True)/\True)/\x<=(aM d.1).length/\∀(j:Nat),j<x->k8 (nth (aM d.1) j) (0:Int) 100=true)/\∀(x:Nat),(x<=(aM d.1).length/\∀(j:Nat),j<x->k8 (nth (aM d.1) j) (0:Int) 100=true)->d.1.q4.q4.1.length<4611686018427387904->(decide ((x:Int)<(jh8 d))=true->0<=(x:Int)/\(x:Int)<(jh8 d)/\((jkc d x)=true->(false,())=(ym d.1,()))/\((jkc d x)=false->wm ((x:Int)+1)/\∃(a:Nat),(((x:Int)+1=(a:Int)/\True)/\True)/\(a<=(aM d.1).length/\∀(j:Nat),j<a->k8 (nth (aM d.1) j) (0:Int) 100=true)/\(aM d.1).length-a<(aM d.1).length-x))/\(decide ((x:Int)<(jh8 d))=false->(∃(x:Nat),((0=(x:Int)/\True)/\True)/\x<=(aa d.1).length/\∀(j:Nat),j<x->Ug (aa d.1) j=true)/\∀(x:Nat),(x<=(aa d.1).length/\∀(j:Nat),j<x->Ug (aa d.1) j=true)->d.1.q4.q4.2.1.length<4611686018427387904->(decide ((x:Int)<(jh7 d))=true->0<=(x:Int)/\(x:Int)<(jh7 d)/\((jjj d x)=true->wm ((x:Int)-1))/\((jjj d x)=true->0<=(x:Int)-1)/\((jjj d x)=true->(x:Int)-1<(jh7 d))/\((jka d x)=true->(false,())=(ym d.1,()))/\((jka d x)=false->wm ((x:Int)+1)/\∃(a:Nat),(((x:Int)+1=(a:Int)/\True)/\True)/\(a<=(aa d.1).length/\∀(j:Nat),j<a->Ug (aa d.1) j=true)/\(aa d.1).length-a<(aa d.1).length-x))/\(decide ((x:Int)<(jh7 d))=false->(true,())=(ym d.1,()))))
def Fy:wQ:=⟨[.val tLg],[.bool],false,fun _=>[],fun d=>(df d.1,())⟩
def FA:Ann:=fun r=>match r with
 |5=>some fun σ=>{X:=Nat,sl:=fun i=>[(4,.dat .int (i:Int))],ob:=fun _=>[],inv:=fun i=>i<=(gd .int σ 3).toNat/\∀j:Nat,j<i->Ur (gb tLg σ 1) j=true,mu:=fun i=>(gd .int σ 3).toNat-i}
 |10=>some fun σ=>{X:=Nat,sl:=fun i=>[(5,.dat .int (i:Int))],ob:=fun _=>[],inv:=fun i=>i<=(w9 (gb tLg σ 1)).length/\∀j:Nat,j<i->om (gd .int σ 3).toNat (nth (w9 (gb tLg σ 1)) j)=true,mu:=fun i=>(w9 (gb tLg σ 1)).length-i}
 |_=>none
abbrev jfX (d:LgD×Unit):=(d.1.1.2.2.1.length:Int)
abbrev jke (d:LgD×Unit)(x:Nat):=(!k8 (nth d.1.2.1 x) (0:Int) (20:Int)|| !k8 (nth d.1.2.2.1 x) (0:Int) (300:Int))
abbrev jiD (d:LgD×Unit)(x:Nat):=(nth d.1.q4.1 x)
abbrev jkf (d:LgD×Unit)(x:Nat):=(!k8 (jiD d x).1 (0:Int) (99:Int)|| !k8 (jiD d x).2.1 (0:Int) ((jfX d)-1)|| !k8 (jiD d x).2.2.1 (-100000:Int) (1440:Int))
abbrev jjk (d:LgD×Unit):=((d.1.2.1.length:Int)≠(jfX d))
abbrev jiE (d:LgD×Unit):=(d.1.q4.1.length:Int)
abbrev jkg (d:LgD×Unit):=(decide (jjk d)||decide ((d.1.2.2.1.length:Int)≠(jfX d))|| !ym d.1.2.2.2.1||decide (10<(jiE d)))
def FB:Prop:=∀(d:LgD×Unit),d.1.1.2.2.1.length<4611686018427387904->d.1.2.1.length<4611686018427387904->((!decide (jjk d))=true->d.1.2.2.1.length<4611686018427387904)->((!(decide (jjk d)||decide ((d.1.2.2.1.length:Int)≠(jfX d))|| !ym d.1.2.2.2.1))=true->d.1.q4.1.length<4611686018427387904)->((jkg d)=true->(false,())=(df d.1,()))/\((jkg d)=false->(∃(x:Nat),((0=(x:Int)/\True)/\True)/\x<=(jfX d).toNat/\∀(j:Nat),j<x->Ur d.1 j=true)/\∀(x:Nat),(x<=(jfX d).toNat/\∀(j:Nat),j<x->Ur d.1 j=true)->(decide ((x:Int)<(jfX d))=true->0<=(x:Int)/\(x:Int)<d.1.2.1.length/\((!!k8 (nth d.1.2.1 x) (0:Int) (20:Int))=true->0<=(x:Int))/\((!!k8 (nth d.1.2.1 x) (0:Int) (20:Int))=true->(x:Int)<d.1.2.2.1.length)/\((jke d x)=true->(false,())=(df d.1,()))/\((jke d x)=false->wm ((x:Int)+1)/\∃(a:Nat),(((x:Int)+1=(a:Int)/\True)/\True)/\(a<=(jfX d).toNat/\∀(j:Nat),j<a->Ur d.1 j=true)/\(jfX d).toNat-a<(jfX d).toNat-x))/\(decide ((x:Int)<(jfX d))=false->(∃(x:Nat),((0=(x:Int)/\True)/\True)/\x<=(w9 d.1).length/\∀(j:Nat),j<x->om (jfX d).toNat (nth (w9 d.1) j)=true)/\∀(x:Nat),(x<=(w9 d.1).length/\∀(j:Nat),j<x->om (jfX d).toNat (nth (w9 d.1) j)=true)->d.1.q4.1.length<4611686018427387904->(decide ((x:Int)<(jiE d))=true->0<=(x:Int)/\(x:Int)<(jiE d)/\((!!k8 (jiD d x).1 (0:Int) (99:Int))=true->wm ((jfX d)-1))/\((jkf d x)=true->(false,())=(df d.1,()))/\((jkf d x)=false->wm ((x:Int)+1)/\∃(a:Nat),(((x:Int)+1=(a:Int)/\True)/\True)/\(a<=(w9 d.1).length/\∀(j:Nat),j<a->om (jfX d).toNat (nth (w9 d.1) j)=true)/\(w9 d.1).length-a<(w9 d.1).length-x))/\(decide ((x:Int)<(jiE d))=false->(true,())=(df d.1,()))))
def Pj:wQ:=⟨[.val tLg],[.int],false,fun d=>[(wo (wv d.1)).length<=1000000],fun d=>(wT d.1,())⟩
def Pk:Ann:=fun r=>match r with
 |7=>some fun σ=>{X:=Nat,sl:=fun i=>[(4,.dat .int (i:Int))],ob:=fun _=>[],inv:=fun i=>i<=(w9 (gb tLg σ 1)).length/\∀b:Nat,b<i->bK (w9 (gb tLg σ 1)) b=false,mu:=fun i=>(w9 (gb tLg σ 1)).length-i}
 |10=>some fun σ=>{X:=Nat,sl:=fun i=>[(5,.dat .int (i:Int))],ob:=fun _=>[],inv:=fun i=>i<=(gd .int σ 4).toNat/\∀j:Nat,j<i->X2 (nth (w9 (gb tLg σ 1)) (gd .int σ 4).toNat) (nth (w9 (gb tLg σ 1)) j)=false,mu:=fun i=>(gd .int σ 4).toNat-i}
 |_=>none
abbrev jh9 (d:LgD×Unit)(x:Nat)(a:Nat):=((nth d.1.q4.1 x).1=(nth d.1.q4.1 a).1)
abbrev jhu (d:LgD×Unit):=(d.1.q4.1.length:Int)
abbrev jkh (d:LgD×Unit)(x:Nat)(a:Nat):=(decide (jh9 d x a)&& !decide (nth d.1.q4.1 x=nth d.1.q4.1 a))
def Pl:Prop:=∀(d:LgD×Unit),(wo (wv d.1)).length<=1000000->(wo d.1.1).length<=1000000/\(decide (aj d.1.1≠0)=true->(aj d.1.1,())=(wT d.1,()))/\(decide (aj d.1.1≠0)=false->((!df d.1)=true->((70:Int),())=(wT d.1,()))/\((!df d.1)=false->(∃(x:Nat),((0=(x:Int)/\True)/\True)/\x<=(w9 d.1).length/\∀(b:Nat),b<x->bK (w9 d.1) b=false)/\∀(x:Nat),(x<=(w9 d.1).length/\∀(b:Nat),b<x->bK (w9 d.1) b=false)->d.1.q4.1.length<4611686018427387904->(decide ((x:Int)<(jhu d))=true->(∃(a:Nat),((0=(a:Int)/\True)/\True)/\a<=x/\∀(j:Nat),j<a->X2 (nth (w9 d.1) x) (nth (w9 d.1) j)=false)/\∀(a:Nat),(a<=x/\∀(j:Nat),j<a->X2 (nth (w9 d.1) x) (nth (w9 d.1) j)=false)->(decide ((a:Int)<(x:Int))=true->0<=(x:Int)/\(x:Int)<(jhu d)/\0<=(a:Int)/\(a:Int)<(jhu d)/\(decide (jh9 d x a)=true->0<=(x:Int))/\(decide (jh9 d x a)=true->(x:Int)<(jhu d))/\(decide (jh9 d x a)=true->0<=(a:Int))/\(decide (jh9 d x a)=true->(a:Int)<(jhu d))/\((jkh d x a)=true->((71:Int),())=(wT d.1,()))/\((jkh d x a)=false->wm ((a:Int)+1)/\∃(c:Nat),(((a:Int)+1=(c:Int)/\True)/\True)/\(c<=x/\∀(j:Nat),j<c->X2 (nth (w9 d.1) x) (nth (w9 d.1) j)=false)/\x-c<x-a))/\(decide ((a:Int)<(x:Int))=false->wm ((x:Int)+1)/\∃(c:Nat),(((x:Int)+1=(c:Int)/\True)/\True)/\(c<=(w9 d.1).length/\∀(b:Nat),b<c->bK (w9 d.1) b=false)/\(w9 d.1).length-c<(w9 d.1).length-x))/\(decide ((x:Int)<(jhu d))=false->((0:Int),())=(wT d.1,()))))
def D5:wQ:=⟨[.val tLg,.val .int],[.int,.bool],false,fun d=>[Jf d.1 d.2.1],fun d=>((gg d.1 d.2.1).1,(gg d.1 d.2.1).2,())⟩
def D6:Ann:=fun r=>match r with
 |3=>some fun σ=>{X:=Nat,sl:=fun i=>[(8,.dat .int (i:Int)),(6,.dat .int (qS (gb tLg σ 2) (gd .int σ 1) i).1),(7,.dat .bool (qS (gb tLg σ 2) (gd .int σ 1) i).2)],ob:=fun _=>[],inv:=fun i=>i<=(w9 (gb tLg σ 2)).length,mu:=fun i=>(w9 (gb tLg σ 2)).length-i}
 |_=>none
abbrev jhv (d:LgD×Int×Unit)(x:Nat):=(nth d.1.q4.1 x)
abbrev jgS (d:LgD×Int×Unit)(x:Nat):=(qS d.1 d.2.1 x)
abbrev jki (d:LgD×Int×Unit)(x:Nat):=(decide ((jhv d x).2.1=d.2.1)&&decide ((jhv d x).2.2.1<=(nth d.1.1.2.2.1 d.2.1.toNat).2.2.1)&&(!(jgS d x).2||decide ((jhv d x).2.2.1<(jgS d x).1)))
def D7:Prop:=∀(d:LgD×Int×Unit),Jf d.1 d.2.1->(∃(x:Nat),((0=(x:Int)/\0=(jgS d x).1/\false=(jgS d x).2/\True)/\True)/\x<=(w9 d.1).length)/\∀(x:Nat),x<=(w9 d.1).length->d.1.q4.1.length<4611686018427387904->(decide ((x:Int)<d.1.q4.1.length)=true->0<=(x:Int)/\(x:Int)<d.1.q4.1.length/\(decide ((jhv d x).2.1=d.2.1)=true->0<=d.2.1)/\(decide ((jhv d x).2.1=d.2.1)=true->d.2.1<(d.1.1.2.2.1.length:Int))/\((jki d x)=true->wm ((x:Int)+1)/\∃(a:Nat),(((x:Int)+1=(a:Int)/\true=(qS d.1 d.2.1 a).2/\(jhv d x).2.2.1=(qS d.1 d.2.1 a).1/\True)/\True)/\a<=(w9 d.1).length/\(w9 d.1).length-a<(w9 d.1).length-x)/\((jki d x)=false->wm ((x:Int)+1)/\∃(a:Nat),(((jgS d x).2=(qS d.1 d.2.1 a).2/\(jgS d x).1=(qS d.1 d.2.1 a).1/\(x:Int)+1=(a:Int)/\True)/\True)/\a<=(w9 d.1).length/\(w9 d.1).length-a<(w9 d.1).length-x))/\(decide ((x:Int)<d.1.q4.1.length)=false->((jgS d x).1,(jgS d x).2,())=((gg d.1 d.2.1).1,(gg d.1 d.2.1).2,()))
def ZN:wQ:=⟨[.val .int,.val .int],[.int],false,fun d=>[0<=d.1,0<d.2.1,d.1<=4611686018427387904,d.2.1<=1000000000],fun d=>(U.up d.1 d.2.1,())⟩
def ZO:Prop:=∀(d:Int×Int×Unit),0<=d.1->0<d.2.1->d.1<=4611686018427387904->d.2.1<=1000000000->wm (d.1+d.2.1)/\wm (d.1+d.2.1-1)/\d.2.1≠0/\wm ((d.1+d.2.1-1).tdiv d.2.1)/\((d.1+d.2.1-1).tdiv d.2.1,())=(U.up d.1 d.2.1,())
def TC:wQ:=⟨[.val tLg,.val .int,.val .int],[.int],false,fun d=>[Jf d.1 d.2.1,0<=d.2.2.1/\d.2.2.1<=8],fun d=>(qC d.1 d.2.1 d.2.2.1,())⟩
def TD:Ann:=fun r=>match r with
 |4=>some fun σ=>{X:=Nat,sl:=fun k=>[(11,.dat .int (w8 (vo (gb tLg σ 3) (gd .int σ 1))+(k:Int))),(10,.dat .int (vY (gb tLg σ 3) (gd .int σ 1) k))],ob:=fun _=>[],inv:=fun k=>k<=(gn (vo (gb tLg σ 3) (gd .int σ 1))-w8 (vo (gb tLg σ 3) (gd .int σ 1))).toNat,mu:=fun k=>(gn (vo (gb tLg σ 3) (gd .int σ 1))-w8 (vo (gb tLg σ 3) (gd .int σ 1))).toNat-k}
 |_=>none
abbrev jgy (d:LgD×Int×Int×Unit):=(nth d.1.1.2.2.1 d.2.1.toNat)
abbrev jg8 (d:LgD×Int×Int×Unit):=((jgy d).2.2.2.1-(jgy d).2.2.1)
abbrev jg9 (d:LgD×Int×Int×Unit):=(U.up (jg8 d) d.1.2.2.2.1.1)
abbrev jjl (d:LgD×Int×Int×Unit)(x:Nat):=(d.2.2.1*d.1.2.2.2.1.2.1*max d.1.2.2.2.1.2.2.1 (jg9 d)*d.1.2.2.2.1.q4.2.1*vY d.1 d.2.1 x)
abbrev jf0 (d:LgD×Int×Int×Unit):=(vo d.1 d.2.1)
abbrev jgT (d:LgD×Int×Int×Unit):=(gn (jf0 d)-w8 (jf0 d))
abbrev jkj (d:LgD×Int×Int×Unit)(x:Nat):=(decide (d.1.2.2.2.1.2.2.2.1<=w8 (jf0 d)+(x:Int))||decide (w8 (jf0 d)+(x:Int)<d.1.2.2.2.1.q4.1))
def TE:Prop:=∀(d:LgD×Int×Int×Unit),Jf d.1 d.2.1->0<=d.2.2.1/\d.2.2.1<=8->0<=d.2.1/\d.2.1<(d.1.1.2.2.1.length:Int)/\wm (jg8 d)/\(∃(x:Nat),(((jgy d).2.2.1=w8 (jf0 d)+(x:Int)/\0=vY d.1 d.2.1 x/\True)/\True)/\x<=(jgT d).toNat)/\∀(x:Nat),x<=(jgT d).toNat->(decide (w8 (jf0 d)+(x:Int)<(jgy d).2.2.2.1)=true->((jkj d x)=true->wm (vY d.1 d.2.1 x+1)/\wm (w8 (jf0 d)+(x:Int)+1)/\∃(a:Nat),((w8 (jf0 d)+(x:Int)+1=w8 (jf0 d)+(a:Int)/\vY d.1 d.2.1 x+1=vY d.1 d.2.1 a/\True)/\True)/\a<=(jgT d).toNat/\(jgT d).toNat-a<(jgT d).toNat-x)/\((jkj d x)=false->wm (w8 (jf0 d)+(x:Int)+1)/\∃(a:Nat),((vY d.1 d.2.1 x=vY d.1 d.2.1 a/\w8 (jf0 d)+(x:Int)+1=w8 (jf0 d)+(a:Int)/\True)/\True)/\a<=(jgT d).toNat/\(jgT d).toNat-a<(jgT d).toNat-x))/\(decide (w8 (jf0 d)+(x:Int)<(jgy d).2.2.2.1)=false->wm (d.2.2.1*d.1.2.2.2.1.2.1)/\(0:Int)<=(jgy d).2.2.2.1-(jgy d).2.2.1/\0<d.1.2.2.2.1.1/\(jgy d).2.2.2.1-(jgy d).2.2.1<=4611686018427387904/\d.1.2.2.2.1.1<=1000000000/\wm (d.2.2.1*d.1.2.2.2.1.2.1*max d.1.2.2.2.1.2.2.1 (jg9 d))/\wm (d.2.2.1*d.1.2.2.2.1.2.1*max d.1.2.2.2.1.2.2.1 (jg9 d)*d.1.2.2.2.1.q4.2.1)/\wm (jjl d x)/\wm ((100:Int)*(jg8 d))/\0<=d.2.2.1*d.1.2.2.2.1.2.1*max d.1.2.2.2.1.2.2.1 (jg9 d)*d.1.2.2.2.1.q4.2.1*vY d.1 d.2.1 x/\(0:Int)<100*(jg8 d)/\d.2.2.1*d.1.2.2.2.1.2.1*max d.1.2.2.2.1.2.2.1 (jg9 d)*d.1.2.2.2.1.q4.2.1*vY d.1 d.2.1 x<=4611686018427387904/\(100:Int)*(jg8 d)<=1000000000/\wm (d.2.2.1*d.1.2.2.2.1.2.1*max d.1.2.2.2.1.2.2.1 (jg9 d)+U.up (jjl d x) ((100:Int)*(jg8 d)))/\(d.2.2.1*d.1.2.2.2.1.2.1*max d.1.2.2.2.1.2.2.1 (jg9 d)+U.up (jjl d x) ((100:Int)*(jg8 d)),())=(qC d.1 d.2.1 d.2.2.1,()))
def IP:wQ:=⟨[.val tLg,.val .int,.val .int],[.int],false,fun d=>[Jf d.1 d.2.1,-100000<=d.2.2.1/\d.2.2.1<=1440],fun d=>(gR d.1 d.2.1 d.2.2.1,())⟩
def IQ:Ann:=fun r=>match r with
 |2=>some fun σ=>{X:=Nat,sl:=fun i=>[(7,.dat .int (i:Int))],ob:=fun _=>[],inv:=fun i=>i<=(aa (ve (gb tLg σ 3))).length/\∀j:Nat,j<i->oK (gb tLg σ 3) (gd .int σ 1) (gd .int σ 2) (nth (aa (ve (gb tLg σ 3))) j)=false,mu:=fun i=>(aa (ve (gb tLg σ 3))).length-i}
 |_=>none
abbrev jkk (d:LgD×Int×Int×Unit)(x:Nat):=((nth d.1.2.2.2.1.q4.q4.2.1 x).1<=(nth d.1.1.2.2.1 d.2.1.toNat).2.2.1-d.2.2.1)
abbrev jjm (d:LgD×Int×Int×Unit):=(d.1.2.2.2.1.q4.q4.2.1.length:Int)
def IR:Prop:=∀(d:LgD×Int×Int×Unit),Jf d.1 d.2.1->(-100000:Int)<=d.2.2.1/\d.2.2.1<=1440->(∃(x:Nat),((0=(x:Int)/\True)/\True)/\x<=(aa (ve d.1)).length/\∀(j:Nat),j<x->oK d.1 d.2.1 d.2.2.1 (nth (aa (ve d.1)) j)=false)/\∀(x:Nat),(x<=(aa (ve d.1)).length/\∀(j:Nat),j<x->oK d.1 d.2.1 d.2.2.1 (nth (aa (ve d.1)) j)=false)->d.1.2.2.2.1.q4.q4.2.1.length<4611686018427387904->(decide ((x:Int)<(jjm d))=true->0<=(x:Int)/\(x:Int)<(jjm d)/\0<=d.2.1/\d.2.1<(d.1.1.2.2.1.length:Int)/\wm ((nth d.1.1.2.2.1 d.2.1.toNat).2.2.1-d.2.2.1)/\(decide (jkk d x)=true->(nth d.1.2.2.2.1.q4.q4.2.1 x).2=(gR d.1 d.2.1 d.2.2.1,()))/\(decide (jkk d x)=false->wm ((x:Int)+1)/\∃(a:Nat),(((x:Int)+1=(a:Int)/\True)/\True)/\(a<=(aa (ve d.1)).length/\∀(j:Nat),j<a->oK d.1 d.2.1 d.2.2.1 (nth (aa (ve d.1)) j)=false)/\(aa (ve d.1)).length-a<(aa (ve d.1)).length-x))/\(decide ((x:Int)<(jjm d))=false->((100:Int),())=(gR d.1 d.2.1 d.2.2.1,()))
def TF:wQ:=⟨[.val .int],[.int],false,fun d=>[BT.qh d.1],fun d=>(BT.size d.1,())⟩
def TG:Ann:=fun r=>match r with
 |2=>some fun σ=>{X:=Nat,sl:=fun j=>[(0,.dat .int (qE (gd .int σ 0) j)),(3,.dat .int (BT.size (gd .int σ 0)-BT.size (qE (gd .int σ 0) j)))],ob:=fun _=>[],inv:=fun j=>BT.qh (qE (gd .int σ 0) j),mu:=fun j=>(qE (gd .int σ 0) j).toNat}
 |_=>none
def TH:Prop:=∀(d:Int×Unit),BT.qh d.1->(∃(x:Nat),((d.1=qE d.1 x/\0=BT.size d.1-BT.size (qE d.1 x)/\True)/\True)/\BT.qh (qE d.1 x))/\∀(x:Nat),BT.qh (qE d.1 x)->(decide (0<qE d.1 x)=true->wm (BT.size d.1-BT.size (qE d.1 x)+fO (qE d.1 x) (1:Int))/\(0:Int)<=1/\(1:Int)<=64/\∃(a:Nat),((qE d.1 x/(2:Int)^Int.toNat 1=qE d.1 a/\BT.size d.1-BT.size (qE d.1 x)+fO (qE d.1 x) 1=BT.size d.1-BT.size (qE d.1 a)/\True)/\True)/\BT.qh (qE d.1 a)/\(qE d.1 a).toNat<(qE d.1 x).toNat)/\(decide (0<qE d.1 x)=false->(BT.size d.1-BT.size (qE d.1 x),())=(BT.size d.1,()))
def TJ:wQ:=⟨[.val tLg,.val .int,.val .int],[tLn],false,fun d=>[Jf d.1 d.2.1,BT.qh d.2.2.1,BT.size d.2.2.1<=8],fun d=>(bX d.1 d.2.1 d.2.2.1,())⟩
abbrev jha (d:LgD×Int×Int×Unit):=(qC d.1 d.2.1 (BT.size d.2.2.1)*gR d.1 d.2.1 (gg d.1 d.2.1).1)
abbrev jhw (d:LgD×Int×Int×Unit):=(nth d.1.1.2.2.1 d.2.1.toNat)
abbrev jia (d:LgD×Int×Int×Unit):=((U.up (jha d) (100:Int)+0)*nth d.1.2.2.2.1.q4.q4.1 (jhw d).1.q4.1.toNat)
abbrev jhx (d:LgD×Int×Int×Unit):=d.1.2.2.2.1.q4.2.2.2.1
abbrev jhy (d:LgD×Int×Int×Unit):=d.1.2.2.2.1.q4.2.2.1
abbrev jjn (d:LgD×Int×Int×Unit):=(qC d.1 d.2.1 (BT.size d.2.2.1)+(jhy d)*nth d.1.2.2.1 d.2.1.toNat*BT.size d.2.2.1)
abbrev jib (d:LgD×Int×Int×Unit):=((jjn d)*nth d.1.2.2.2.1.q4.q4.1 (jhw d).1.q4.1.toNat)
def TK:Prop:=∀(d:LgD×Int×Int×Unit),Jf d.1 d.2.1->BT.qh d.2.2.1->BT.size d.2.2.1<=8->0<=d.2.1/\d.2.1<(d.1.2.1.length:Int)/\BT.qh d.2.2.1/\Jf d.1 d.2.1/\(0<=BT.size d.2.2.1/\BT.size d.2.2.1<=8)/\0<=d.2.1/\d.2.1<(d.1.2.2.1.length:Int)/\wm ((jhy d)*nth d.1.2.2.1 d.2.1.toNat)/\BT.qh d.2.2.1/\wm ((jhy d)*nth d.1.2.2.1 d.2.1.toNat*BT.size d.2.2.1)/\Jf d.1 d.2.1/\((gg d.1 d.2.1).2=true->Jf d.1 d.2.1/\((-100000:Int)<=(gg d.1 d.2.1).1/\(gg d.1 d.2.1).1<=1440)/\wm (jha d)/\0<=qC d.1 d.2.1 (BT.size d.2.2.1)*gR d.1 d.2.1 (gg d.1 d.2.1).1/\(0:Int)<100/\qC d.1 d.2.1 (BT.size d.2.2.1)*gR d.1 d.2.1 (gg d.1 d.2.1).1<=4611686018427387904/\(100:Int)<=1000000000/\wm (U.up (jha d) (100:Int)+0)/\0<=d.2.1/\d.2.1<(d.1.1.2.2.1.length:Int)/\(0:Int)<=(jhw d).1.q4.1/\(jhw d).1.q4.1<(d.1.2.2.2.1.q4.q4.1.length:Int)/\wm (jia d)/\(100:Int)≠0/\wm ((jia d).tdiv (100:Int))/\wm (U.up (jha d) (100:Int)+0)/\wm (U.up (jha d) (100:Int)+0-min (jhx d) ((jia d).tdiv (100:Int)))/\((nth d.1.2.1 d.2.1.toNat,d.2.1,U.up (jha d) (100:Int),(0:Int),min (jhx d) ((jia d).tdiv (100:Int)),U.up (jha d) (100:Int)+0-min (jhx d) ((jia d).tdiv (100:Int)),()),())=(bX d.1 d.2.1 d.2.2.1,()))/\((gg d.1 d.2.1).2=false->wm (jjn d)/\0<=d.2.1/\d.2.1<(d.1.1.2.2.1.length:Int)/\(0:Int)<=(jhw d).1.q4.1/\(jhw d).1.q4.1<(d.1.2.2.2.1.q4.q4.1.length:Int)/\wm (jib d)/\(100:Int)≠0/\wm ((jib d).tdiv (100:Int))/\wm (jjn d)/\wm (qC d.1 d.2.1 (BT.size d.2.2.1)+(jhy d)*nth d.1.2.2.1 d.2.1.toNat*BT.size d.2.2.1-min (jhx d) ((jib d).tdiv (100:Int)))/\((nth d.1.2.1 d.2.1.toNat,d.2.1,qC d.1 d.2.1 (BT.size d.2.2.1),(jhy d)*nth d.1.2.2.1 d.2.1.toNat*BT.size d.2.2.1,min (jhx d) ((jib d).tdiv (100:Int)),qC d.1 d.2.1 (BT.size d.2.2.1)+(jhy d)*nth d.1.2.2.1 d.2.1.toNat*BT.size d.2.2.1-min (jhx d) ((jib d).tdiv (100:Int)),()),())=(bX d.1 d.2.1 d.2.2.1,()))
def LW:wQ:=⟨[.val tLg,.val .int],[.int,.bool],false,fun d=>[aj (wv d.1)=0,0<=d.2.1/\d.2.1<((wo (wv d.1)).length:Int)],fun d=>(Br d.1 d.2.1,jcP d.1 d.2.1,())⟩
def LX:Prop:=∀(d:LgD×Int×Unit),aj (wv d.1)=0->0<=d.2.1/\d.2.1<(↑(wo (wv d.1)).length:Int)->(wo d.1.1).length<=1000000/\0<=d.2.1/\d.2.1<(↑(tN d.1.1).length:Int)/\0<=d.2.1/\d.2.1<(d.1.1.2.2.1.length:Int)/\0<=d.2.1/\d.2.1<(↑(tN d.1.1).length:Int)/\wt d.1.1.1=true/\qb d.1.1.1 (nth d.1.1.2.2.1 d.2.1.toNat).1=true/\XW (nth (tN d.1.1) d.2.1.toNat)/\(nth (tN d.1.1) d.2.1.toNat,Er d.1.1.1 (nth d.1.1.2.2.1 d.2.1.toNat).1 (nth (tN d.1.1) d.2.1.toNat),())=(Br d.1 d.2.1,jcP d.1 d.2.1,())
theorem Pn:LV:=by
 rintro⟨n,a,b,⟨⟩⟩;rfl
theorem xH:wV PR 40 LU:=wK Pn Tryz.func40 kcN koN
theorem D8:∀{l:List NoD} {last:Int},xL last l=true↔∀j,j<l.length->Ja (if j=0 then last else X8 (nth l (j-1))) (nth l j)=true
 |[],_=>⟨fun _ j a=>(by cases a),fun _=>rfl⟩
 |n::r,last=>by
  have d:=D8 (l:=r) (last:=X8 n)
  show(Ja last n&&xL (X8 n) r)=true↔_
  rw[ji,d]
  constructor
  rintro⟨b,c⟩ j a
  cases j with
  |zero=>exact b
  |succ j=>
   rw[jd (by omega)]
   have:=c j (by simpa using a)
   cases j with
   |zero=>exact this
   |succ j=>exact this
  intro h
  refine⟨h 0 (by simp),fun j a=> ?_⟩
  have:=h (j+1) (by simpa using a)
  rw[jd (by omega)] at this
  cases j with
  |zero=>exact this
  |succ j=>exact this
theorem jdV {l:List NoD}:xL 100001 l=true↔∀j,j<l.length->Ug l j=true:=by
 constructor;intro h j b;have a:=(Bn h _ (L.wh b));have c:=D8.1 h j b;unfold Ug;simp only[ji,zq,jp,vG];refine⟨⟨by omega,by omega⟩,?_⟩;by_cases e:j=0;exact Or.inl e;rw[jd e] at c;unfold Ja at c;rw[ji,vG] at c;right;omega;intro h;refine D8.2 fun j b=> ?_
 have a:=h j b;unfold Ug at a;simp only[ji,zq,jp,vG] at a;unfold Ja U.share;rw[ji,vG,vG];refine⟨?_,a.1.2⟩;by_cases e:j=0;rw[jg e];omega;rw[jd e];omega
def taH (t:TaD):Bool:= !k8 (PL t) 1 240|| !k8 (Ya t) 0 10000|| !k8 (jcH t) 0 20|| !k8 (jcI t) 0 (Z7 t)||decide (1440<Z7 t)|| !k8 (FO t) 0 100|| !k8 (Mh t) 0 10000||decide (((aM t).length:Int)≠4)|| !k8 (Mi t) 0 1000000||decide (4<((aa t).length:Int))
theorem IT (t:TaD):ym t=true↔taH t=false/\(∀j,j<(aM t).length->k8 (nth (aM t) j) 0 100=true)/\∀j,j<(aa t).length->Ug (aa t) j=true:=by
 rw[<-jdV];unfold ym taH U.share;simp only[jR,jH,zl,ji,jp,vG,jT];constructor;rintro⟨⟨⟨⟨⟨⟨⟨a,b⟩,c⟩,l⟩,d⟩,e⟩,f⟩,⟨⟨⟨m,g⟩,h⟩,n⟩,i⟩;exact⟨⟨⟨⟨⟨⟨⟨⟨⟨⟨a,b⟩,c⟩,d⟩,by omega⟩,e⟩,f⟩,by omega⟩,h⟩,by omega⟩,fun j k=>g _ (L.wh k),i⟩;rintro⟨⟨⟨⟨⟨⟨⟨⟨⟨⟨a,b⟩,c⟩,d⟩,l⟩,e⟩,f⟩,m⟩,h⟩,n⟩,g,i⟩;refine⟨⟨⟨⟨⟨⟨⟨a,b⟩,c⟩,by omega⟩,d⟩,e⟩,f⟩,⟨⟨⟨by omega,fun x o=> ?_⟩,h⟩,by omega⟩,i⟩;obtain⟨j,k,rfl⟩:=L.mem_iff.1 o;exact g j k
theorem jcp {t:TaD} (h:¬ym t=true):(false,())=(ym t,()):=by
 rw[zZ] at h;rw[h]
theorem D9 (l:LgD):df l=true↔((qU l).length=(wo (wv l)).length/\(nL l).length=(wo (wv l)).length/\ym (ve l)=true/\(w9 l).length<=10)/\(∀j,j<(wo (wv l)).length->Ur l j=true)/\∀j,j<(w9 l).length->om (wo (wv l)).length (nth (w9 l) j)=true:=by
 unfold df Ur;simp only[ji,jp,jT];constructor;rintro⟨⟨⟨c,h⟩,d,i⟩,e,f,k⟩;exact⟨⟨c,d,e,f⟩,fun j a=>⟨h _ (L.wh (by omega)),i _ (L.wh (by omega))⟩,fun j a=>k _ (L.wh a)⟩;rintro⟨⟨c,d,e,f⟩,g,m⟩;refine⟨⟨⟨c,fun x b=> ?_⟩,d,fun x b=> ?_⟩,e,f,fun x b=> ?_⟩;obtain⟨j,a,rfl⟩:=L.mem_iff.1 b;exact(g j (by omega)).1;obtain⟨j,a,rfl⟩:=L.mem_iff.1 b;exact(g j (by omega)).2;obtain⟨j,a,rfl⟩:=L.mem_iff.1 b;exact m j a
theorem jcq {l:LgD} (h:¬df l=true):(false,())=(df l,()):=by
 rw[zZ] at h;rw[h]
theorem jdW {l:List CaD} {i:Nat} (h:∀j:Nat,j<i->X2 (nth l i) (nth l j)=false) (hi:i<=l.length):bK l i=false:=by
 unfold bK;rw[zi];intro x c;obtain⟨j,b,rfl⟩:=L.mem_iff.1 c;rw[j6] at b;rw[L.nth_take (by omega)];have:=h j (by omega);unfold X2 at this;rw[zZ,kl] at*;rcases this with a|a;left;exact zn fun e=>jc a e.symm
 right;rw[zl,jp] at a;rw[a,jG rfl];rfl
theorem jcr {l:List CaD} {i j:Nat} (hi:i<l.length) (a:j<i) (h:X2 (nth l i) (nth l j)=true):cR l=true:=by
 unfold cR Et;rw[za];refine⟨i,jD.2 hi,?_⟩;unfold bK;rw[za];unfold X2 at h;rw[ji,jp,jS,jH] at h;refine⟨nth l j,?_,?_⟩;exact L.mem_iff.2 ⟨j,by rw[j6];omega,L.nth_take (by omega)⟩;rw[ji,jp,jS,jH];exact⟨h.1.symm,fun e=>h.2 e.symm⟩
theorem IU:Fx:=by
 unfold Fx jkc jkb jh8 jh7 jka jjj jh6 Prod.q4;rintro⟨t,⟨⟩⟩ _ _;refine⟨fun h=>jcp (t:=t) (fun c=> ?_),fun k=> ?_⟩;have h:taH t=true:=h;rw[((IT t).1 c).1] at h;cases h;have k:taH t=false:=k;refine⟨⟨0,⟨⟨rfl,tZ⟩,tZ⟩,jl _,fun j f=>by omega⟩,fun x d g=>⟨fun h=> ?_,fun h=> ?_⟩⟩;have g:(aM t).length<4611686018427387904:=g;have h:(x:Int)<(aM t).length:=ja h;refine⟨by omega,h,fun c=>jcp (t:=t) (fun i=> ?_),fun c=>⟨iZ6,x+1,⟨⟨by simp,tZ⟩,tZ⟩,⟨by show x+1<=(aM t).length;omega,fun j f=> ?_⟩,by show(aM t).length-(x+1)<(aM t).length-x;omega⟩⟩;have c:(!k8 (nth (aM t) x) 0 100)=true:=c;rw[((IT t).1 i).2.1 x (by omega)] at c;cases c;have c:k8 (nth (aM t) x) 0 100=true:=(by simpa using(show(!k8 (nth (aM t) x) 0 100)=false from c));by_cases e:j=x;subst e;exact c;exact d.2 j (by omega);have h:¬(x:Int)<(aM t).length:=jc h;have o:∀j,j<(aM t).length->k8 (nth (aM t) j) 0 100=true:=fun j f=>d.2 j (by omega)
 clear d h;refine⟨⟨0,⟨⟨rfl,tZ⟩,tZ⟩,jl _,fun j f=>by omega⟩,fun x d g=>⟨fun h=> ?_,fun h=> ?_⟩⟩;have g:(aa t).length<4611686018427387904:=g;have h:(x:Int)<(aa t).length:=ja h;have l:(!k8 (X8 (nth (aa t) x)) 0 100000|| !k8 (X9 (nth (aa t) x)) 0 100||decide (0<(x:Int))&&decide (X8 (nth (aa t) ((x:Int)-1).toNat)<=X8 (nth (aa t) x)))= !Ug (aa t) x:=by
  have e2:((x:Int)-1).toNat=x-1:=(by omega);have m:∀a b:Int,(decide (0<(x:Int))&&decide (a<=b))= !(decide (x=0)||decide (b<a)):=fun a b=>by
   rw[j0];simp only[ji,jp,jS,jR,jH];omega
  unfold Ug;rw[e2,m,Bool.not_and,Bool.not_and]
 refine⟨by omega,h,fun _=>iZ6,fun c=> ?_,fun _=>by show(x:Int)-1<((aa t).length:Int);omega,fun c=>jcp (t:=t) (fun i=> ?_),fun c=>⟨iZ6,x+1,⟨⟨by simp,tZ⟩,tZ⟩,⟨by show x+1<=(aa t).length;omega,fun j f=> ?_⟩,by show(aa t).length-(x+1)<(aa t).length-x;omega⟩⟩;rw[ji] at c;have c:0<(x:Int):=ja c.2;show 0<=(x:Int)-1;omega;have c:(!Ug (aa t) x)=true:=l.symm.trans c;rw[((IT t).1 i).2.2 x (by omega)] at c;cases c;have c:(!Ug (aa t) x)=false:=l.symm.trans c;by_cases e:j=x;subst e;show Ug (aa t) j=true;simpa using c;exact d.2 j (by omega);have h:¬(x:Int)<(aa t).length:=jc h;have n:∀j,j<(aa t).length->Ug (aa t) j=true:=fun j f=>d.2 j (by omega)
 show(true,())=(ym t,());rw[(IT t).2 ⟨k,o,n⟩]
theorem FD:wV PR 95 Fv:=qY Fw IU Tryz.func95 (kcC xH kcN) koN
def lgH (l:LgD):Bool:=decide (((qU l).length:Int)≠(wo (wv l)).length)||decide (((nL l).length:Int)≠(wo (wv l)).length)|| !ym (ve l)||decide (10<((w9 l).length:Int))
theorem XA (l:LgD):lgH l=false↔((qU l).length=(wo (wv l)).length/\(nL l).length=(wo (wv l)).length/\ym (ve l)=true/\(w9 l).length<=10):=by
 unfold lgH;simp only[jR,jH,zl];constructor;rintro⟨⟨⟨b,c⟩,a⟩,d⟩;exact⟨by omega,by omega,a,by omega⟩;rintro⟨b,c,a,d⟩;exact⟨⟨⟨by omega,by omega⟩,a⟩,by omega⟩
theorem IV:FB:=by
 unfold FB jkg jiE jjk jkf jiD jke jfX Prod.q4;rintro⟨l,⟨⟩⟩ i _ _ _;have i:(wo (wv l)).length<4611686018427387904:=i;refine⟨fun h=>jcq (l:=l) (fun a=> ?_),fun f=> ?_⟩;have h:lgH l=true:=h;rw[(XA l).2 ((D9 l).1 a).1] at h;cases h;have f:=(XA l).1 (show lgH l=false from f);obtain⟨r,s,p,o⟩:=id f;refine⟨⟨0,⟨⟨rfl,tZ⟩,tZ⟩,jl _,fun j d=>by omega⟩,fun x b=>⟨fun h=> ?_,fun h=> ?_⟩⟩;have h:(x:Int)<(wo (wv l)).length:=ja h;have b:x<=(((wo (wv l)).length:Int)).toNat/\∀j:Nat,j<x->Ur l j=true:=b;have c:(!k8 (nth (qU l) x) 0 20|| !k8 (nth (nL l) x) 0 300)= !Ur l x:=by
  unfold Ur Mk xM;rw[Bool.not_and]
 refine⟨by omega,by show(x:Int)<(qU l).length;omega,fun _=>by omega,fun _=>by show(x:Int)<(nL l).length;omega,fun a=>jcq (l:=l) (fun g=> ?_),fun a=>⟨iZ6,x+1,⟨⟨by simp,tZ⟩,tZ⟩,⟨by show x+1<=(((wo (wv l)).length:Int)).toNat;omega,fun j d=> ?_⟩,by show(((wo (wv l)).length:Int)).toNat-(x+1)<(((wo (wv l)).length:Int)).toNat-x;omega⟩⟩;have a:(!Ur l x)=true:=c.symm.trans a;rw[((D9 l).1 g).2.1 x (by omega)] at a;cases a;have a:(!Ur l x)=false:=c.symm.trans a;by_cases e:j=x;subst e;show Ur l j=true;simpa using a;exact b.2 j (by omega);have h:¬(x:Int)<(wo (wv l)).length:=jc h;have n:∀j,j<(wo (wv l)).length->Ur l j=true:=fun j d=>b.2 j (by omega)
 clear b h;refine⟨⟨0,⟨⟨rfl,tZ⟩,tZ⟩,jl _,fun j d=>by omega⟩,fun x b k=>⟨fun h=> ?_,fun h=> ?_⟩⟩;have k:(w9 l).length<4611686018427387904:=k;have h:(x:Int)<(w9 l).length:=ja h;have q:(((wo (wv l)).length:Int)).toNat=(wo (wv l)).length:=(by omega);have c:(!k8 (Up (nth (w9 l) x)) 0 99|| !k8 (jcJ (nth (w9 l) x)) 0 (((wo (wv l)).length:Int)-1)|| !k8 (PM (nth (w9 l) x)) (-100000) 1440)= !om (wo (wv l)).length (nth (w9 l) x):=by
  unfold om;rw[Bool.not_and,Bool.not_and]
 refine⟨by omega,h,fun _=> ?_,fun a=>jcq (l:=l) (fun g=> ?_),fun a=>⟨iZ6,x+1,⟨⟨by simp,tZ⟩,tZ⟩,⟨by show x+1<=(w9 l).length;omega,fun j d=> ?_⟩,by show(w9 l).length-(x+1)<(w9 l).length-x;omega⟩⟩;show wm (((wo (wv l)).length:Int)-1);exact iZ6;have a:(!om (wo (wv l)).length (nth (w9 l) x))=true:=c.symm.trans a;rw[((D9 l).1 g).2.2 x (by omega)] at a;cases a;have a:(!om (wo (wv l)).length (nth (w9 l) x))=false:=c.symm.trans a;by_cases e:j=x;subst e;show om (wo (wv l)).length (nth (w9 l) j)=true;simpa using a;exact b.2 j (by omega);have h:¬(x:Int)<(w9 l).length:=jc h;have m:∀j,j<(w9 l).length->om (wo (wv l)).length (nth (w9 l) j)=true:=fun j d=>b.2 j (by omega)
 show(true,())=(df l,());rw[(D9 l).2 ⟨f,n,m⟩]
theorem FF:wV PR 58 Fy:=qY FA IV Tryz.func58 (kcC xH (kcC FD kcN)) koN
theorem TL:Pl:=by
 unfold Pl jkh jhu jh9 Prod.q4;rintro⟨l,⟨⟩⟩ r;have f:qe (wv l)=aj (wv l):=fx _;refine⟨r,fun h=> ?_,fun h=> ?_⟩;have h:aj (wv l)≠0:=ja h;show(aj (wv l),())=(wT l,());unfold wT;rw[f,jg h];have h:¬aj (wv l)≠0:=jc h;refine⟨fun c=> ?_,fun c=> ?_⟩;have c:df l=false:=(by simpa using(show(!df l)=true from c));show((70:Int),())=(wT l,());unfold wT;rw[f,jd h,jg c];have c:df l=true:=(by simpa using(show(!df l)=false from c));have q:=((D9 l).1 c).1.2.2.2;have n:∀v,(if cR (w9 l)=true then(71:Int) else 0)=v->(v,())=(wT l,()):=fun v s=>by
  unfold wT;rw[f,jd h,jd (by rw[c];decide),s]
 refine⟨⟨0,⟨⟨rfl,tZ⟩,tZ⟩,jl _,fun j g=>by omega⟩,fun x p o=>⟨fun d=> ?_,fun d=> ?_⟩⟩;have o:(w9 l).length<4611686018427387904:=o;have d:(x:Int)<(w9 l).length:=ja d;refine⟨⟨0,⟨⟨rfl,tZ⟩,tZ⟩,jl _,fun j g=>by omega⟩,fun y i=>⟨fun b=> ?_,fun b=> ?_⟩⟩;have b:(y:Int)<(x:Int):=ja b;have i:y<=x/\∀j:Nat,j<y->X2 (nth (w9 l) x) (nth (w9 l) j)=false:=i;have k:(y:Int)<(w9 l).length:=(by omega);refine⟨by omega,d,by omega,k,fun _=>by omega,fun _=>d,fun _=>by omega,fun _=>k,fun a=> ?_,fun a=>⟨iZ6,y+1,⟨⟨by simp,tZ⟩,tZ⟩,⟨by show y+1<=x;omega,fun j g=> ?_⟩,by show x-(y+1)<x-y;omega⟩⟩;have a:X2 (nth (w9 l) x) (nth (w9 l) y)=true:=a;exact n 71 (jg (jcr (by omega) (by omega) a));have a:X2 (nth (w9 l) x) (nth (w9 l) y)=false:=a;by_cases e:j=y;subst e;exact a;exact i.2 j (by omega);have b:¬(y:Int)<(x:Int):=jc b;have i:y<=x/\∀j:Nat,j<y->X2 (nth (w9 l) x) (nth (w9 l) j)=false:=i;have m:y=x:=(by omega);subst m;refine⟨iZ6,y+1,⟨⟨by simp,tZ⟩,tZ⟩,⟨by show y+1<=(w9 l).length;omega,fun j g=> ?_⟩,by show(w9 l).length-(y+1)<(w9 l).length-y;omega⟩;by_cases e:j=y;subst e;exact jdW i.2 (by omega);exact p.2 j (by omega);have d:¬(x:Int)<(w9 l).length:=jc d;refine n 0 (jd fun b=> ?_);unfold cR Et at b;rw[za] at b;obtain⟨j,g,a⟩:=b;have g:=jD.1 g;have:=p.2 j (by omega);rw[this] at a;cases a
theorem Ea:wV PR 21 Pj:=qY Pk TL Tryz.func21 (kcC pZ (kcC FF kcN)) koN
theorem jcs:ZO:=jaI
theorem Q9:wV PR 75 ZN:=wK jcs Tryz.func75 kcN koN
theorem XB:TH:=K5
theorem TM:wV PR 74 TF:=qY TG XB Tryz.func74 kcN koN
theorem FG:D7:=by
 unfold D7 jki jgS jhv Prod.q4;rintro⟨l,b,⟨⟩⟩ o;obtain⟨_,i,_,_,_,_,_,j,_⟩:Jf l b:=o;refine⟨⟨0,⟨⟨rfl,rfl,rfl,tZ⟩,tZ⟩,jl _⟩,fun x n _=>⟨fun h=> ?_,fun h=> ?_⟩⟩;have h:(x:Int)<(w9 l).length:=ja h;have m:=rc (l:=l) (b:=b) (k:=x) (by omega);have up:x+1<=(w9 l).length:=(by omega);have g:(w9 l).length-(x+1)<(w9 l).length-x:=(by omega);refine⟨by omega,h,fun _=>i.1,fun _=>i.2,fun a=> ?_,fun a=> ?_⟩;have a:(decide (jcJ (nth (w9 l) x)=b)&&decide (PM (nth (w9 l) x)<=w8 (vo l b))&&(!(qS l b x).2||decide (PM (nth (w9 l) x)<(qS l b x).1)))=true:=a;simp only[ji,zq,jS,jp] at a;have e:qS l b (x+1)=(PM (nth (w9 l) x),true):=by
  rw[m];exact jg ⟨a.1.1,a.1.2,a.2⟩
 exact⟨iZ6,x+1,⟨⟨by simp,(jF (·.2) e).symm,(jF (·.1) e).symm,tZ⟩,tZ⟩,up,g⟩;have a:(decide (jcJ (nth (w9 l) x)=b)&&decide (PM (nth (w9 l) x)<=w8 (vo l b))&&(!(qS l b x).2||decide (PM (nth (w9 l) x)<(qS l b x).1)))=false:=a;have e:qS l b (x+1)=qS l b x:=by
  rw[m];refine jd fun d=> ?_
  rw[jG d.1,jG d.2.1] at a;rcases d.2.2 with c|c;rw[c] at a;cases a;rw[jG c,Bool.or_true] at a;cases a
 exact⟨iZ6,x+1,⟨⟨(jF (·.2) e).symm,(jF (·.1) e).symm,by simp,tZ⟩,tZ⟩,up,g⟩;have h:¬(x:Int)<(w9 l).length:=jc h;have n:x<=(w9 l).length:=n;have f:x=(w9 l).length:=(by omega);subst f;rfl
theorem Eb:wV PR 44 D5:=qY D6 FG Tryz.func44 kcN koN
theorem Ra {l:LgD} {b m:Int} (h:Jf l b) (f:0<=m/\m<=8):0<=dJ l b m/\dJ l b m<=115200000:=by
 have c:=ca.1 h.1;obtain⟨g,i,j⟩:=h.2.2.2.2.2.1;have k:=Lw (a:=gn (vo l b)-w8 (vo l b)) (b:=PL (ve l)) (by omega) (by have:=c.un;omega);have n:=c.le;have d:0<=max (jcH (ve l)) (U.up (gn (vo l b)-w8 (vo l b)) (PL (ve l)))/\max (jcH (ve l)) (U.up (gn (vo l b)-w8 (vo l b)) (PL (ve l)))<=1440:=(by omega);have e:0<=m*Ya (ve l)/\m*Ya (ve l)<=80000:=Ix (A:=8) (B:=10000) f c.rt;exact Ix e d
theorem Rb {l:LgD} {b m:Int} (h:Jf l b) (f:0<=m/\m<=8):0<=qC l b m/\qC l b m<=100000000000000:=by
 have g:=ca.1 h.1;obtain⟨i,j,k⟩:=h.2.2.2.2.2.1;have e:=Ra h f;have a:=Ph l b (gn (vo l b)-w8 (vo l b)).toNat;have c:0<=dJ l b m*FO (ve l)/\dJ l b m*FO (ve l)<=11520000000:=Ix e g.ni;have d:0<=dJ l b m*FO (ve l)*PQ l b/\dJ l b m*FO (ve l)*PQ l b<=16588800000000:=Ix c (B:=1440) ⟨a.1,kX a.2 (by omega)⟩;have n:=Lw (b:=100*(gn (vo l b)-w8 (vo l b))) d.1 (by omega);unfold qC;omega
theorem XC:TE:=by
 unfold TE jkj jgT jf0 jjl jg9 jg8 jgy Prod.q4;rintro⟨l,b,m,⟨⟩⟩ c d;have c:Jf l b:=c;have d:0<=m/\m<=8:=d;have g:=ca.1 c.1;have k:=c.2.1;obtain⟨r,s,t⟩:=c.2.2.2.2.2.1;have q:=Ra c d;have p:0<=dJ l b m*FO (ve l)/\dJ l b m*FO (ve l)<=11520000000:=Ix q g.ni;have v:=Rb c d;refine⟨k.1,k.2,?_,⟨0,⟨⟨?_,rfl,tZ⟩,tZ⟩,jl _⟩,fun x n=>⟨fun h=> ?_,fun h=> ?_⟩⟩;show wm (gn (vo l b)-w8 (vo l b));exact iZ6;show w8 (vo l b)=w8 (vo l b)+((0:Nat):Int);omega;have h:w8 (vo l b)+(x:Int)<gn (vo l b):=ja h;have f:=Ph l b x;have e:vY l b (x+1)=vY l b x+(if rk l b x=true then 1 else 0):=by
  unfold vY;rw[zc,zK,kL]
  split<;>simp
 have e2:w8 (vo l b)+(x:Int)+1=w8 (vo l b)+((x+1:Nat):Int):=(by omega);have up:x+1<=(gn (vo l b)-w8 (vo l b)).toNat:=(by omega);have j:(gn (vo l b)-w8 (vo l b)).toNat-(x+1)<(gn (vo l b)-w8 (vo l b)).toNat-x:=(by omega);have o:wm (w8 (vo l b)+(x:Int)+1):=iZ6;refine⟨fun a=> ?_,fun a=> ?_⟩;have a:rk l b x=true:=a;rw[jg a] at e;exact⟨by show wm (vY l b x+1);exact iZ6,o,x+1,⟨⟨e2,e.symm,tZ⟩,tZ⟩,up,j⟩;have a:rk l b x=false:=a;rw[jd (by rw[a];decide),Int.add_zero] at e;exact⟨o,x+1,⟨⟨e.symm,e2,tZ⟩,tZ⟩,up,j⟩;have h:¬w8 (vo l b)+(x:Int)<gn (vo l b):=jc h;have n:x<=(gn (vo l b)-w8 (vo l b)).toNat:=n;have i:x=(gn (vo l b)-w8 (vo l b)).toNat:=(by omega);subst i;have f:=Ph l b (gn (vo l b)-w8 (vo l b)).toNat;have a:0<=dJ l b m*FO (ve l)*PQ l b/\dJ l b m*FO (ve l)*PQ l b<=16588800000000:=Ix p (B:=1440) ⟨f.1,kX f.2 (by omega)⟩;have u:0<=m*Ya (ve l)/\m*Ya (ve l)<=80000:=Ix (A:=8) (B:=10000) d g.rt;have w:=g.un;refine⟨?_,?_,?_,?_,?_,?_,?_,?_,?_,a.1,?_,?_,?_,?_,rfl⟩;show wm (m*Ya (ve l));exact iZ6;show 0<=gn (vo l b)-w8 (vo l b);omega;show 0<PL (ve l);omega;show gn (vo l b)-w8 (vo l b)<=_;omega;show PL (ve l)<=_;omega;show wm (dJ l b m);exact iZ6;show wm (dJ l b m*FO (ve l));exact iZ6;show wm (dJ l b m*FO (ve l)*PQ l b);exact iZ6;show wm (100*(gn (vo l b)-w8 (vo l b)));exact iZ6;show 0<100*(gn (vo l b)-w8 (vo l b));omega;show dJ l b m*FO (ve l)*PQ l b<=_;omega;show 100*(gn (vo l b)-w8 (vo l b))<=_;omega;show wm (qC l b m);exact iZ6
theorem TN:wV PR 73 TC:=qY TD XC Tryz.func73 (kcC Q9 kcN) koN
theorem jct {l:LgD} {b m:Int} (h:ym (ve l)=true):0<=gR l b m/\gR l b m<=100:=by
 unfold gR
 split
 rename_i a;have:=DL a;exact(Bn (ca.1 h).no _ (L.wh this.1)).2;omega
theorem LY:IR:=by
 unfold IR jjm jkk Prod.q4;rintro⟨l,b,m,⟨⟩⟩ c g;have c:Jf l b:=c;have g: -100000<=m/\m<=1440:=g;have f:=c.2.1;have r:=(ca.1 c.1).nl;obtain⟨n,o,q⟩:=c.2.2.2.2.2.1;refine⟨⟨0,⟨⟨rfl,tZ⟩,tZ⟩,jl _,fun j k=>by omega⟩,fun x d _=>⟨fun h=> ?_,fun h=> ?_⟩⟩;have h:(x:Int)<(aa (ve l)).length:=ja h;refine⟨by omega,h,f.1,f.2,?_,fun a=> ?_,fun a=>⟨iZ6,x+1,⟨⟨by simp,tZ⟩,tZ⟩,⟨by show x+1<=(aa (ve l)).length;omega,fun j k=> ?_⟩,by show(aa (ve l)).length-(x+1)<(aa (ve l)).length-x;omega⟩⟩;show wm (w8 (vo l b)-m);exact iZ6;have a:oK l b m (nth (aa (ve l)) x)=true:=a;have e:=yt (p:=oK l b m) (l:=aa (ve l)) (i:=x) (by omega) d.2 a;have e2:gR l b m=X9 (nth (aa (ve l)) x):=by
  unfold gR;rw[e,jg (by omega)];rfl
 show(X9 (nth (aa (ve l)) x),())=(gR l b m,());rw[e2];have a:oK l b m (nth (aa (ve l)) x)=false:=a;by_cases e:j=x;subst e;exact a;exact d.2 j (by omega);have h:¬(x:Int)<(aa (ve l)).length:=jc h;have e:=q8 (p:=oK l b m) (l:=aa (ve l)) (i:=x) (by omega) d.2;have e2:gR l b m=100:=by
  unfold gR;rw[e,jd (by omega)]
 show((100:Int),())=(gR l b m,());rw[e2]
theorem IW:wV PR 76 IP:=qY IQ LY Tryz.func76 kcN koN
theorem ZP {w p:Int} (e:0<=w/\w<=100000000000000) (d:0<=p/\p<=100):(0<=w*p/\w*p<=10000000000000000)/\0<=U.up (w*p) 100/\U.up (w*p) 100<=10000000000000000:=by
 have a:0<=w*p/\w*p<=10000000000000000:=Ix e d;have c:=Lw (b:=100) a.1 (by omega);exact⟨a,c.1,by omega⟩
theorem XD:TK:=by
 unfold TK jib jjn jhy jhx jia jhw jha Prod.q4;rintro⟨l,b,t,⟨⟩⟩ a j d;have a:Jf l b:=a;have j:BT.qh t:=j;have d:BT.size t<=8:=d;have s:=BT.Bu t;obtain⟨g,c,N,O,i,I,K,G,r⟩:=id a;have k:=ca.1 g;have F:=Rb a (m:=BT.size t) ⟨s.1,d⟩;have H:=i _ (L.wh (show b.toNat<(nL l).length by omega));have J:=Xx (l:=l) (b:=b) r (w9 l).length (jj _);have M:=jct (l:=l) (b:=b) (m:=(gg l b).1) g;have P:0<=Mh (ve l)*nth (nL l) b.toNat/\Mh (ve l)*nth (nL l) b.toNat<=3000000:=Ix k.mi H;have Q:0<=Mh (ve l)*nth (nL l) b.toNat*BT.size t/\Mh (ve l)*nth (nL l) b.toNat*BT.size t<=24000000:=Ix (B:=8) P ⟨s.1,d⟩;have hk:(bU (yS (vo l b))).toNat<(aM (ve l)).length:=(by rw[k.sl];omega);have f:=k.sb _ (L.wh hk);have e:=k.cp;have o:b<((qU l).length:Int):=(by omega);have p:b<((nL l).length:Int):=(by omega);refine⟨c.1,o,j,a,⟨s.1,d⟩,c.1,p,?_,j,?_,a,fun h=> ?_,fun h=> ?_⟩;show wm (Mh (ve l)*nth (nL l) b.toNat);exact iZ6;show wm (Mh (ve l)*nth (nL l) b.toNat*BT.size t);exact iZ6;have h:(gg l b).2=true:=h;obtain⟨S,T⟩:=ZP F M;have q:bX l b t=(nth (qU l) b.toNat,b,U.up (qC l b (BT.size t)*gR l b (gg l b).1) 100,0,min (Mi (ve l)) (((U.up (qC l b (BT.size t)*gR l b (gg l b).1) 100+0)*nth (aM (ve l)) (bU (yS (vo l b))).toNat).tdiv 100),U.up (qC l b (BT.size t)*gR l b (gg l b).1) 100+0-min (Mi (ve l)) (((U.up (qC l b (BT.size t)*gR l b (gg l b).1) 100+0)*nth (aM (ve l)) (bU (yS (vo l b))).toNat).tdiv 100),()):=by
  unfold bX jcO jcM jcN;rw[jg h,jg h]
 obtain⟨u,v,x,y,z,A,C,D,V⟩:=DM (w:=U.up (qC l b (BT.size t)*gR l b (gg l b).1) 100) (t:=0) (n:=(aM (ve l)).length) (R:=True) T (by omega) e f (show 0<=bU (yS (vo l b)) by omega) (by omega) trivial;refine⟨a,J,?_,S.1,by decide,?_,by decide,u,c.1,c.2,v,x,y,z,A,C,D,?_⟩;show wm (qC l b (BT.size t)*gR l b (gg l b).1);exact iZ6;show qC l b (BT.size t)*gR l b (gg l b).1<=_;omega;show _=(bX l b t,());rw[q];rfl;have h:(gg l b).2=false:=h;have E:¬(gg l b).2=true:=(by rw[h];decide);have q:bX l b t=(nth (qU l) b.toNat,b,qC l b (BT.size t),Mh (ve l)*nth (nL l) b.toNat*BT.size t,min (Mi (ve l)) (((qC l b (BT.size t)+Mh (ve l)*nth (nL l) b.toNat*BT.size t)*nth (aM (ve l)) (bU (yS (vo l b))).toNat).tdiv 100),qC l b (BT.size t)+Mh (ve l)*nth (nL l) b.toNat*BT.size t-min (Mi (ve l)) (((qC l b (BT.size t)+Mh (ve l)*nth (nL l) b.toNat*BT.size t)*nth (aM (ve l)) (bU (yS (vo l b))).toNat).tdiv 100),()):=by
  unfold bX jcO jcM jcN;rw[jd E,jd E]
 obtain⟨u,v,x,y,z,A,C,D,V⟩:=DM (w:=qC l b (BT.size t)) (t:=Mh (ve l)*nth (nL l) b.toNat*BT.size t) (n:=(aM (ve l)).length) (R:=True) ⟨F.1,by omega⟩ ⟨Q.1,by omega⟩ e f (show 0<=bU (yS (vo l b)) by omega) (by omega) trivial;refine⟨u,c.1,c.2,v,x,y,z,A,C,D,?_⟩;show _=(bX l b t,());rw[q];rfl
theorem TO:wV PR 45 TJ:=wK XD Tryz.func45 (kcC TM (kcC TN (kcC Eb (kcC IW (kcC Q9 kcN))))) koN
theorem Po:LX:=by
 rintro⟨l,b,⟨⟩⟩ c a;have c:aj (wv l)=0:=c;have a:0<=b/\b<((wo (wv l)).length:Int):=a;have g:((tN (wv l)).length:Int)=(wo (wv l)).length:=(by rw[Ip c]);have d:b<((tN (wv l)).length:Int):=(by omega);have f:=GM c;have h:=WJ f (b:=b.toNat) (by omega);have i:XW (nth (tN (wv l)) b.toNat):=(by rw[QV c];exact WW c (by omega));have j:(wo (wv l)).length<=4:=by
  have e:=f.2.2;unfold qv at e;rw[ji] at e;exact(ja e.1).1
 exact⟨by show(wo (wv l)).length<=1000000;omega,a.1,d,a.1,a.2,a.1,d,f.1,h,i,rfl⟩
theorem LZ:wV PR 18 LW:=wK Po Tryz.func18 (kcC O0 (kcC SM kcN)) koN
namespace U
def wX (l:LgD):List LnD:=if wT l=0 then Mq l else[]
def oL (l:LgD):List Int:=if wT l=0 then jeX l else[]
def Jc (l:LgD):Prop:=Es (wv l)/\(qU l).length<=20/\(nL l).length<=20/\(aM (ve l)).length<=20/\(aa (ve l)).length<=20/\(w9 l).length<=30
end U
def Pp:wQ:=⟨[.val tLg],[.slice tLn,.int],false,fun d=>[(wo (wv d.1)).length<=1000000],fun d=>(wX d.1,wT d.1,())⟩
def Pq:Ann:=fun r=>match r with
 |6=>some fun σ=>{X:=Nat,sl:=fun p=>[(6,.dat .int (p:Int)),(5,.own 5 tLn)],ob:=fun p=>[(5,some (.row 61 tLn false .yes (qL (gb tLg σ 1) p)))],inv:=fun p=>p<=21,mu:=fun p=>21-p}
 |9=>some fun σ=>{X:=Nat,sl:=fun k=>[(7,.dat .int (k:Int)),(5,.own 5 tLn)],ob:=fun k=>[(5,some (.row 61 tLn false .yes (gr tLn σ 5++yi (gb tLg σ 1) (gd .int σ 6) k)))],inv:=fun k=>k<=(qU (gb tLg σ 1)).length,mu:=fun k=>(qU (gb tLg σ 1)).length-k}
 |_=>none
def Pr:Prop:=∀(d:LgD×Unit),(wo (wv d.1)).length<=1000000->(wo (wv d.1)).length<=1000000/\(decide (wT d.1≠0)=true->([],wT d.1,())=(wX d.1,wT d.1,()))/\(decide (wT d.1≠0)=false->(∃(x:Nat),((0=(x:Int)/\True/\True)/\qL d.1 x=[]/\True)/\x<=21)/\∀(x:Nat),x<=21->(decide ((x:Int)<=20)=true->(∃(a:Nat),((0=(a:Int)/\True/\True)/\qL d.1 x=qL d.1 x++yi d.1 (x:Int) a/\True)/\a<=(qU d.1).length)/\∀(a:Nat),a<=(qU d.1).length->d.1.2.1.length<4611686018427387904->(decide ((a:Int)<d.1.2.1.length)=true->aj (wv d.1)=0/\(0<=(a:Int)/\(a:Int)<(wo (wv d.1)).length)/\(jcP d.1 (a:Int)=true->0<=(a:Int))/\(jcP d.1 (a:Int)=true->(a:Int)<d.1.2.1.length)/\((jcP d.1 (a:Int)&&decide (nth d.1.2.1 a=(x:Int)))=true->Jf d.1 (a:Int)/\BT.qh (Br d.1 (a:Int))/\BT.size (Br d.1 (a:Int))<=8/\((qL d.1 x++yi d.1 (x:Int) a).length+[bX d.1 (a:Int) (Br d.1 (a:Int))].length)*48<=140737488355328/\wm ((a:Int)+1)/\∃(b:Nat),(((a:Int)+1=(b:Int)/\True/\True)/\qL d.1 x++yi d.1 (x:Int) a++[bX d.1 (a:Int) (Br d.1 (a:Int))]=qL d.1 x++yi d.1 (x:Int) b/\True)/\b<=(qU d.1).length/\(qU d.1).length-b<(qU d.1).length-a)/\((jcP d.1 (a:Int)&&decide (nth d.1.2.1 a=(x:Int)))=false->wm ((a:Int)+1)/\∃(b:Nat),((True/\(a:Int)+1=(b:Int)/\True)/\qL d.1 x++yi d.1 (x:Int) a=qL d.1 x++yi d.1 (x:Int) b/\True)/\b<=(qU d.1).length/\(qU d.1).length-b<(qU d.1).length-a))/\(decide ((a:Int)<d.1.2.1.length)=false->wm ((x:Int)+1)/\∃(b:Nat),(((x:Int)+1=(b:Int)/\True/\True)/\qL d.1 x++yi d.1 (x:Int) a=qL d.1 b/\True)/\b<=21/\21-b<21-x))/\(decide ((x:Int)<=20)=false->(qL d.1 x,(0:Int),())=(wX d.1,wT d.1,())))
def L0:wQ:=⟨[.val tLg],[.slice .int,.int],false,fun d=>[(wo (wv d.1)).length<=1000000],fun d=>(oL d.1,wT d.1,())⟩
def L1:Ann:=fun r=>match r with
 |6=>some fun σ=>{X:=Nat,sl:=fun i=>[(7,.dat .int (i:Int)),(6,.dat .int (qk (gb tLg σ 1) i))],ob:=fun _=>[],inv:=fun i=>i<=(qU (gb tLg σ 1)).length,mu:=fun i=>(qU (gb tLg σ 1)).length-i}
 |11=>some fun σ=>{X:=Nat,sl:=fun i=>[(9,.dat .int (i:Int))],ob:=fun i=>[(8,some (.row 3 .int false .no (vA (gd .int σ 6).toNat (gd (.slice tLn) σ 4) i)))],inv:=fun i=>i<=(gd (.slice tLn) σ 4).length,mu:=fun i=>(gd (.slice tLn) σ 4).length-i}
 |_=>none
abbrev jgz (d:LgD×Unit)(a:Nat):=(nth (wX d.1) a)
abbrev jic (d:LgD×Unit)(x:Nat)(a:Nat):=(vA (qk d.1 x).toNat (wX d.1) a)
abbrev jiF (d:LgD×Unit):=(↑(wX d.1).length:Int)
def L2:Prop:=∀(d:LgD×Unit),(wo (wv d.1)).length<=1000000->(wo (wv d.1)).length<=1000000/\(decide (wT d.1≠0)=true->([],wT d.1,())=(oL d.1,wT d.1,()))/\(decide (wT d.1≠0)=false->(∃(x:Nat),((0=(x:Int)/\0=qk d.1 x/\True)/\True)/\x<=(qU d.1).length)/\∀(x:Nat),x<=(qU d.1).length->d.1.2.1.length<4611686018427387904->(decide ((x:Int)<d.1.2.1.length)=true->0<=(x:Int)/\(x:Int)<d.1.2.1.length/\wm (nth d.1.2.1 x+1)/\wm ((x:Int)+1)/\∃(b:Nat),(((x:Int)+1=(b:Int)/\max (qk d.1 x) (nth d.1.2.1 x+1)=qk d.1 b/\True)/\True)/\b<=(qU d.1).length/\(qU d.1).length-b<(qU d.1).length-x)/\(decide ((x:Int)<d.1.2.1.length)=false->0<=qk d.1 x/\qk d.1 x=qk d.1 x/\(qk d.1 x).toNat*8<=140737488355328/\(∃(a:Nat),((0=(a:Int)/\True)/\List.replicate (qk d.1 x).toNat 0=vA (qk d.1 x).toNat (wX d.1) a/\True)/\a<=(wX d.1).length)/\∀(a:Nat),a<=(wX d.1).length->(wX d.1).length<4611686018427387904->(decide ((a:Int)<(jiF d))=true->0<=(a:Int)/\(a:Int)<(jiF d)/\(0:Int)<=(jgz d a).1/\(jgz d a).1<(↑(jic d x a).length:Int)/\0<=(a:Int)/\(a:Int)<(jiF d)/\wm (nth (jic d x a) (jgz d a).1.toNat+(jgz d a).q4.2.1)/\(0:Int)<=(jgz d a).1/\(jgz d a).1<(↑(jic d x a).length:Int)/\wm ((a:Int)+1)/\∃(b:Nat),(((a:Int)+1=(b:Int)/\True)/\(jic d x a).set (jgz d a).1.toNat (nth (jic d x a) (jgz d a).1.toNat+(jgz d a).q4.2.1)=vA (qk d.1 x).toNat (wX d.1) b/\True)/\b<=(wX d.1).length/\(wX d.1).length-b<(wX d.1).length-a)/\(decide ((a:Int)<(jiF d))=false->(vA (qk d.1 x).toNat (wX d.1) a,(0:Int),())=(oL d.1,wT d.1,()))))
def TP:wQ:=⟨[.val tLg],[tLg],false,fun d=>[Jc d.1],fun d=>(d.1,())⟩
def TQ:Prop:=∀(d:LgD×Unit),Jc d.1->Es d.1.1/\(0+d.1.2.1.length)*8<=140737488355328/\(0+d.1.2.2.1.length)*8<=140737488355328/\(0+d.1.2.2.2.1.q4.q4.1.length)*8<=140737488355328/\(0+d.1.2.2.2.1.q4.q4.2.1.length)*16<=140737488355328/\(0+d.1.q4.1.length)*24<=140737488355328/\((d.1.1,[]++d.1.2.1,[]++d.1.2.2.1,(d.1.2.2.2.1.1,d.1.2.2.2.1.2.1,d.1.2.2.2.1.2.2.1,d.1.2.2.2.1.2.2.2.1,d.1.2.2.2.1.q4.1,d.1.2.2.2.1.q4.2.1,d.1.2.2.2.1.q4.2.2.1,d.1.2.2.2.1.q4.2.2.2.1,[]++d.1.2.2.2.1.q4.q4.1,[]++d.1.2.2.2.1.q4.q4.2.1,()),[]++d.1.q4.1,()),())=d
theorem jdX {l:LgD} (a:aj (wv l)=0) {b:Int} (f:0<=b/\b<((wo (wv l)).length:Int)):BT.qh (Br l b)/\BT.size (Br l b)<=8:=by
 have d:XW (Br l b):=(by unfold Br;rw[QV a];exact WW a (by omega));have d:0<=Br l b/\Br l b<256:=d;have e:(wi (wq (wv l))).length<=8:=by
  have c:=(GM a).1;unfold wt at c;rw[ji] at c;exact(ja c.1).2.2.1
 have h:=Q6 a (b:=b.toNat) (by omega);have g:=(tp (nth (tN (wv l)) b.toNat) (wi (wq (wv l))).length).1;refine⟨⟨d.1,by omega⟩,?_⟩;show BT.size (nth (tN (wv l)) b.toNat)<=8;omega
theorem jdY {l:LgD} (h:wT l=0):aj (wv l)=0:=(fx (wv l)).symm.trans (dS h).cp
theorem Ps (l:LgD) (p:Int) (k:Nat):yi l p (k+1)=yi l p k++(if jc2 l p k=true then[bX l (k:Int) (Br l (k:Int))] else[]):=by
 unfold yi;rw[zc,kE,zw];congr 1;by_cases h:jc2 l p k=true;rw[jg h];simp only[List.filter,h,List.map];rw[jd h];rw[zZ] at h;simp only[List.filter,h,List.map]
theorem GY (l:LgD) (p:Int) (k:Nat):(yi l p k).length<=k:=by
 unfold yi;rw[zf];exact jE (zy _ _) (by rw[zG];exact jj _)
theorem Ec (l:LgD) (n:Nat):qL l (n+1)=qL l n++yi l (n:Int) (qU l).length:=by
 unfold qL;rw[zc,List.flatMap_append];simp
theorem GZ (l:LgD):∀n,(qL l n).length<=n*(qU l).length
 |0=>jl _
 |n+1=>by
  have a:=GZ l n
  have b:=GY l (n:Int) (qU l).length
  rw[Ec,jI,zk];omega
theorem TR:Pr:=by
 rintro⟨l,⟨⟩⟩ r;refine⟨r,fun h=> ?_,fun h=> ?_⟩;have h:wT l≠0:=ja h;show(([]:List LnD),wT l,())=(wX l,wT l,());unfold wX;rw[jd h];have h:wT l=0:=jN.1 (jc h);have e:=dS h;have m:=jdY h;have g:(qU l).length<=4:=(by rw[e.py.1];exact jdU e);refine⟨⟨0,⟨⟨rfl,tZ,tZ⟩,rfl,tZ⟩,jl _⟩,fun x p=>⟨fun d=> ?_,fun d=> ?_⟩⟩;have d:(x:Int)<=20:=ja d;refine⟨⟨0,⟨⟨rfl,tZ,tZ⟩,(jZ _).symm,tZ⟩,jl _⟩,fun y q n=>⟨fun c=> ?_,fun c=> ?_⟩⟩;have c:(y:Int)<(qU l).length:=ja c;have a:0<=(y:Int)/\(y:Int)<(wo (wv l)).length:=(by have:=e.py.1;omega);have f:=Ps l (x:Int) y;have up:y+1<=(qU l).length:=(by omega);have k:(qU l).length-(y+1)<(qU l).length-y:=(by omega);have o:=jdX m a;refine⟨m,a,fun _=>a.1,fun _=>c,fun b=> ?_,fun b=> ?_⟩;have b:jc2 l (x:Int) y=true:=b;rw[jg b] at f;refine⟨jdT e a,o.1,o.2,?_,iZ6,y+1,⟨⟨by simp,tZ,tZ⟩,?_,tZ⟩,up,k⟩;have s:=GZ l x;have t:=GY l (x:Int) y;have u:x*(qU l).length<=21*4:=Nat.mul_le_mul (by omega) g;show((qL l x++yi l (x:Int) y).length+1)*48<=140737488355328;rw[jI];omega;show qL l x++yi l (x:Int) y++[bX l (y:Int) (Br l (y:Int))]=qL l x++yi l (x:Int) (y+1);rw[f,jM];have b:jc2 l (x:Int) y=false:=b;rw[jd (by rw[b];decide),jZ] at f;refine⟨iZ6,y+1,⟨⟨tZ,by simp,tZ⟩,?_,tZ⟩,up,k⟩;show qL l x++yi l (x:Int) y=qL l x++yi l (x:Int) (y+1);rw[f];have c:¬(y:Int)<(qU l).length:=jc c;have q:y<=(qU l).length:=q;have j:y=(qU l).length:=(by omega);subst j;exact⟨iZ6,x+1,⟨⟨by simp,tZ,tZ⟩,(Ec l x).symm,tZ⟩,by show x+1<=21;omega,by show 21-(x+1)<21-x;omega⟩;have d:¬(x:Int)<=20:=jc d;have p:x<=21:=p;have i:x=21:=(by omega);subst i;show(qL l 21,(0:Int),())=(wX l,wT l,());unfold wX;rw[h,jg rfl];rfl
theorem Ed:wV PR 23 Pp:=qY Pq TR Tryz.func23 (kcC Ea (kcC LZ (kcC TO kcN))) koN
theorem ZQ {n:Nat} {l:List LnD} (h:∀x∈l,(0<=fJ x/\fJ x<(n:Int))/\-1000000<=Mj x/\Mj x<=20000000000000000) {k:Nat} (hk:k<l.length) (a:l.length<=100):
 (0<=fJ (nth l k)/\fJ (nth l k)<((vA n l k).length:Int))/\wm (nth (vA n l k) (fJ (nth l k)).toNat+Mj (nth l k)):=by
 obtain⟨⟨d,e⟩,g,i⟩:=h _ (L.wh hk);obtain⟨b,c⟩:=D3 h k (by omega);have f:=c (fJ (nth l k)).toNat (by omega);exact⟨⟨d,by rw[b];exact e⟩,iZ6⟩
theorem ZR {l:LgD} (h:AA l):∀x∈Mq l,(0<=fJ x/\fJ x<(((lk l).toNat:Nat):Int))/\-1000000<=Mj x/\Mj x<=20000000000000000:=fun x a=>by
 have o:=jfo h a
 have:=o.pr;have:=o.wk;have:=o.tr;have:=o.sb;have:=o.tt
 omega
theorem ZS {l:LgD} (h:AA l):∀k,k<=(qU l).length->0<=qk l k/\qk l k<=21:=fun k hk=>by
 obtain⟨b,_,a⟩:=iQ (l:=l) k hk
 refine⟨b,?_⟩
 rcases a with a|⟨i,hi,a⟩
 omega
 have:=h.py.2 _ (L.wh (show i<(qU l).length by omega));omega
theorem Pt:L2:=by
 unfold L2 jiF jic jgz Prod.q4;rintro⟨l,⟨⟩⟩ t;refine⟨t,fun h=> ?_,fun h=> ?_⟩;have h:wT l≠0:=ja h;show(([]:List Int),wT l,())=(oL l,wT l,());unfold oL;rw[jd h];have h:wT l=0:=jN.1 (jc h);have d:=dS h;have eL:wX l=Mq l:=jg h;have s:=ZS d;refine⟨⟨0,⟨⟨rfl,rfl,tZ⟩,tZ⟩,jl _⟩,fun x q a=>⟨fun c=> ?_,fun c=> ?_⟩⟩;have c:(x:Int)<(qU l).length:=ja c;have w:=d.py.2 _ (L.wh (show x<(qU l).length by omega));have a:(qU l).length<4611686018427387904:=a;have j:=GW (l:=l) (k:=x) (by omega);exact⟨by omega,c,by show wm (nth (qU l) x+1);exact iZ6,iZ6,x+1,⟨⟨by simp,j.symm,tZ⟩,tZ⟩,by show x+1<=(qU l).length;omega,by show(qU l).length-(x+1)<(qU l).length-x;omega⟩;have c:¬(x:Int)<(qU l).length:=jc c;have q:x<=(qU l).length:=q;have o:x=(qU l).length:=(by omega);subst o;have f:0<=lk l/\lk l<=21:=s _ (jj _);have g:=ZM d;have u:=jdU d;have key:∀k,k<(wX l).length->(0<=fJ (nth (wX l) k)/\fJ (nth (wX l) k)<((vA (lk l).toNat (wX l) k).length:Int))/\wm (nth (vA (lk l).toNat (wX l) k) (fJ (nth (wX l) k)).toNat+Mj (nth (wX l) k)):=by
  rw[eL];exact fun k hk=>ZQ (ZR d) hk (by omega)
 have i:(wX l).length<=4:=(by rw[eL];omega);refine⟨f.1,rfl,by show(lk l).toNat*8<=_;omega,⟨0,⟨⟨rfl,tZ⟩,rfl,tZ⟩,jl _⟩,fun y r _=>⟨fun b=> ?_,fun b=> ?_⟩⟩;have b:(y:Int)<(wX l).length:=ja b;obtain⟨e,v⟩:=key y (by omega);have m:=u7 (n:=(lk l).toNat) (l:=wX l) (k:=y) (by omega);exact⟨by omega,b,e.1,e.2,by omega,b,v,e.1,e.2,iZ6,y+1,⟨⟨by simp,tZ⟩,m.symm,tZ⟩,by show y+1<=(wX l).length;omega,by show(wX l).length-(y+1)<(wX l).length-y;omega⟩;have b:¬(y:Int)<(wX l).length:=jc b;have r:y<=(wX l).length:=r;have p:y=(wX l).length:=(by omega);subst p;show(vA (lk l).toNat (wX l) (wX l).length,(0:Int),())=(oL l,wT l,());unfold oL;rw[h,jg rfl,eL];rfl
theorem L3:wV PR 25 L0:=qY L1 Pt Tryz.func25 (kcC Ed kcN) koN
theorem XE:TQ:=by
 unfold TQ Prod.q4;rintro⟨l,⟨⟩⟩ h;obtain⟨a,b,c,d,e,f⟩:Jc l:=h;refine⟨a,?_,?_,?_,?_,?_,rfl⟩;show(0+(qU l).length)*8<=_;omega;show(0+(nL l).length)*8<=_;omega;show(0+(aM (ve l)).length)*8<=_;omega;show(0+(aa (ve l)).length)*16<=_;omega;show(0+(w9 l).length)*24<=_;omega
theorem TS:wV PR 10 TP:=wK XE Tryz.func10 (kcC Tj kcN) koN
def XF:wQ:=⟨[.val tLg,.fn [tBo] [.bool]],[tBo,.int],false,fun d=>[(w7 (wv d.1)).length<=100000,wT d.1=0->wy (d.2.1.pre ((d.1,[],()),()))],fun d=>(qj d.1 (qa d.1 d.2.1.F),qG d.1 (qa d.1 d.2.1.F),())⟩
def XG:Ann:=fun r=>match r with
 |10=>some fun σ=>{X:=Nat,sl:=fun i=>[(46,.dat .int (i:Int))],ob:=fun i=>[(25,some (.map false .int (.ptr tBl) (A2 (gb tLg σ 2) i)))],inv:=fun i=>i<=(gd (.slice .int) σ 44).length,mu:=fun i=>(gd (.slice .int) σ 44).length-i}
 |14=>some fun σ=>{X:=Nat,sl:=fun p=>[(71,.dat .int (p:Int))],ob:=fun p=>[(65,some (.box 85 false ((bx σ 65).set 21 (.own (fT 65 21) .int)))),(fT 65 21,some (.row 3 .int false .yes (qB (gb tLg σ 2) (gd .int σ 13) p)))],inv:=fun p=>p<=(wi (wq (wv (gb tLg σ 2)))).length,mu:=fun p=>(wi (wq (wv (gb tLg σ 2)))).length-p}
 |21=>some fun σ=>{X:=Nat,sl:=fun i=>[(103,.dat .int (i:Int))],ob:=fun i=>[(65,some (.box 85 false (((bx σ 65).set 24 (.dat .bool (tU (wu (gb tLg σ 2) (gd .int σ 13) i)))).set 25 (.dat .int (rz (wu (gb tLg σ 2) (gd .int σ 13) i))))))],inv:=fun i=>i<=(w9 (gb tLg σ 2)).length,mu:=fun i=>(w9 (gb tLg σ 2)).length-i}
 |_=>none
abbrev jgk (d:LgD×FnD [tBo] [Ty.bool]×Unit):=d.1.2.2.2.1.q4.q4.2.1
abbrev jgl (d:LgD×FnD [tBo] [Ty.bool]×Unit):=d.1.2.2.2.1.q4.q4.1
abbrev jgm (d:LgD×FnD [tBo] [Ty.bool]×Unit):=d.1.2.2.2.1.q4.2.2.2.1
abbrev jgn (d:LgD×FnD [tBo] [Ty.bool]×Unit):=d.1.2.2.2.1.q4.2.2.1
abbrev jgU (d:LgD×FnD [tBo] [Ty.bool]×Unit):=(wi (wq (wv d.1)))
abbrev jjo (d:LgD×FnD [tBo] [Ty.bool]×Unit):=(qj d.1 (qa d.1 d.2.1.2),qG d.1 (qa d.1 d.2.1.2),())
abbrev jgo (d:LgD×FnD [tBo] [Ty.bool]×Unit):=d.1.2.2.2.1.q4.2.1
abbrev jfA (d:LgD×FnD [tBo] [Ty.bool]×Unit):=(wa d.1.1)
abbrev jfx (d:LgD×FnD [tBo] [Ty.bool]×Unit)(x:Nat):=(nth (jfA d) x)
abbrev jfu (d:LgD×FnD [tBo] [Ty.bool]×Unit)(x:Nat):=(nth d.1.1.2.2.1 (jfx d x).toNat)
abbrev jhb (d:LgD×FnD [tBo] [Ty.bool]×Unit)(x:Nat):=(nth d.1.2.2.1 (jfx d x).toNat)
abbrev jgp (d:LgD×FnD [tBo] [Ty.bool]×Unit):=d.1.2.2.2.1.q4.1
abbrev jfP (d:LgD×FnD [tBo] [Ty.bool]×Unit)(x:Nat)(a:Nat):=(vB ((jfu d x).1.1,(jfu d x).1.2.1,(jfu d x).1.2.2.1,(jfu d x).1.2.2.2.1,(jfu d x).1.q4.1,(jfu d x).1.q4.2.1,(jfu d x).2.1,(jfu d x).2.2.1,(jfu d x).2.2.2.1,d.1.2.2.2.1.1,d.1.2.2.2.1.2.1,d.1.2.2.2.1.2.2.1,d.1.2.2.2.1.2.2.2.1,(jgp d),(jgo d),(jgn d),(jgm d),(jgl d),(jgk d),nth (jfA d) x,nth d.1.2.1 (jfx d x).toNat,qB d.1 (jfx d x) a,(0:Int),(0:Int),false,(0:Int),()))
abbrev jjp (d:LgD×FnD [tBo] [Ty.bool]×Unit)(x:Nat):=((jfu d x).1.1=(jfu d x).1.1/\(jfu d x).1.2.1=(jfu d x).1.2.1/\(jfu d x).1.2.2.1=(jfu d x).1.2.2.1/\(jfu d x).1.2.2.2.1=(jfu d x).1.2.2.2.1/\(jfu d x).1.q4.1=(jfu d x).1.q4.1/\(jfu d x).1.q4.2.1=(jfu d x).1.q4.2.1/\(jfu d x).2.1=(jfu d x).2.1/\(jfu d x).2.2.1=(jfu d x).2.2.1/\(jfu d x).2.2.2.1=(jfu d x).2.2.2.1/\d.1.2.2.2.1.1=d.1.2.2.2.1.1/\d.1.2.2.2.1.2.1=d.1.2.2.2.1.2.1/\d.1.2.2.2.1.2.2.1=d.1.2.2.2.1.2.2.1/\d.1.2.2.2.1.2.2.2.1=d.1.2.2.2.1.2.2.2.1/\(jgp d)=(jgp d)/\(jgo d)=(jgo d)/\(jgn d)=(jgn d)/\(jgm d)=(jgm d)/\(jgl d)=(jgl d)/\(jgk d)=(jgk d)/\nth (jfA d) x=nth (jfA d) x/\nth d.1.2.1 (jfx d x).toNat=nth d.1.2.1 (jfx d x).toNat/\True/\(0:Int)=0/\(0:Int)=0/\qF/\(0:Int)=0/\True)
abbrev jgV (d:LgD×FnD [tBo] [Ty.bool]×Unit)(x:Nat)(a:Nat):=(wu d.1 (jfx d x) a)
abbrev jiG (d:LgD×FnD [tBo] [Ty.bool]×Unit)(x:Nat)(a:Nat)(b:Nat):=(vB ((jfu d x).1.1,(jfu d x).1.2.1,(jfu d x).1.2.2.1,(jfu d x).1.2.2.2.1,(jfu d x).1.q4.1,(jfu d x).1.q4.2.1,(jfu d x).2.1,(jfu d x).2.2.1,(jfu d x).2.2.2.1,d.1.2.2.2.1.1,d.1.2.2.2.1.2.1,d.1.2.2.2.1.2.2.1,d.1.2.2.2.1.2.2.2.1,(jgp d),(jgo d),(jgn d),(jgm d),(jgl d),(jgk d),nth (jfA d) x,nth d.1.2.1 (jfx d x).toNat,qB d.1 (jfx d x) a,bW (jfP d x a),cS (jhb d x) (jfP d x a),tU (jgV d x b),rz (jgV d x b),()))
def XH:Prop:=∀(d:LgD×FnD [tBo] [Ty.bool]×Unit),(w7 (wv d.1)).length<=100000->(wT d.1=0->wy (d.2.1.1 ((d.1,[],()),())))->(w7 (wv d.1)).length<=100000/\(decide (wT d.1≠0)=true->((((((0:Int),[],[],()),[],[],(0:Int),(0:Int),[],()),[],[],((0:Int),(0:Int),(0:Int),(0:Int),(0:Int),(0:Int),(0:Int),(0:Int),[],[],()),[],()),[],()),wT d.1,())=(jjo d))/\(decide (wT d.1≠0)=false->asks (d.2.1.1 ((d.1,[],()),())) (((!(d.2.1.2 ((d.1,[],()),())).1)=true->((((((0:Int),[],[],()),[],[],(0:Int),(0:Int),[],()),[],[],((0:Int),(0:Int),(0:Int),(0:Int),(0:Int),(0:Int),(0:Int),(0:Int),[],[],()),[],()),[],()),(1:Int),())=(jjo d))/\((!(d.2.1.2 ((d.1,[],()),())).1)=false->(w7 d.1.1).length<=100000/\(w7 d.1.1).length<=100000/\((jfA d).length<4611686018427387904->(∃(x:Nat),((0=(x:Int)/\True)/\[]=A2 d.1 x/\True)/\x<=(jfA d).length)/\∀(x:Nat),x<=(jfA d).length->(decide ((x:Int)<(jfA d).length)=true->0<=(x:Int)/\(x:Int)<(jfA d).length/\0<=nth (jfA d) x/\nth (jfA d) x<(d.1.1.2.2.1.length:Int)/\0<=nth (jfA d) x/\nth (jfA d) x<(d.1.2.1.length:Int)/\(d.1.1.1.2.1.length<4611686018427387904->(∃(a:Nat),((0=(a:Int)/\True)/\(jjp d x)/\qB d.1 (jfx d x) a=[]/\True)/\a<=(jgU d).length)/\∀(a:Nat),a<=(jgU d).length->(decide ((a:Int)<d.1.1.1.2.1.length)=true->0<=nth (jfA d) x/\nth (jfA d) x<(↑(fI d.1.1).length:Int)/\0<=(a:Int)/\(a:Int)<=64/\(decide (fO (nth (fI d.1.1) (jfx d x).toNat/(2:Int)^a) (1:Int)=1)=true->((qB d.1 (jfx d x) a).length+[(a:Int)].length)*8<=140737488355328/\wm ((a:Int)+1)/\∃(c:Nat),(((a:Int)+1=(c:Int)/\True)/\(jjp d x)/\qB d.1 (jfx d x) a++[(a:Int)]=qB d.1 (jfx d x) c/\True)/\c<=(jgU d).length/\(jgU d).length-c<(jgU d).length-a)/\(decide (fO (nth (fI d.1.1) (jfx d x).toNat/(2:Int)^a) (1:Int)=1)=false->wm ((a:Int)+1)/\∃(c:Nat),(((a:Int)+1=(c:Int)/\True)/\qB d.1 (jfx d x) a=qB d.1 (jfx d x) c/\(jjp d x)/\True)/\c<=(jgU d).length/\(jgU d).length-c<(jgU d).length-a))/\(decide ((a:Int)<d.1.1.1.2.1.length)=false->0<=nth (jfA d) x/\nth (jfA d) x<(d.1.2.2.1.length:Int)/\FQ (jfP d x a)/\0<=nth d.1.2.2.1 (jfx d x).toNat/\nth d.1.2.2.1 (jfx d x).toNat<=300/\(d.1.q4.1.length<4611686018427387904->(∃(b:Nat),((0=(b:Int)/\True)/\((jfu d x).1.1=(jfu d x).1.1/\(jfu d x).1.2.1=(jfu d x).1.2.1/\(jfu d x).1.2.2.1=(jfu d x).1.2.2.1/\(jfu d x).1.2.2.2.1=(jfu d x).1.2.2.2.1/\(jfu d x).1.q4.1=(jfu d x).1.q4.1/\(jfu d x).1.q4.2.1=(jfu d x).1.q4.2.1/\(jfu d x).2.1=(jfu d x).2.1/\(jfu d x).2.2.1=(jfu d x).2.2.1/\(jfu d x).2.2.2.1=(jfu d x).2.2.2.1/\d.1.2.2.2.1.1=d.1.2.2.2.1.1/\d.1.2.2.2.1.2.1=d.1.2.2.2.1.2.1/\d.1.2.2.2.1.2.2.1=d.1.2.2.2.1.2.2.1/\d.1.2.2.2.1.2.2.2.1=d.1.2.2.2.1.2.2.2.1/\(jgp d)=(jgp d)/\(jgo d)=(jgo d)/\(jgn d)=(jgn d)/\(jgm d)=(jgm d)/\(jgl d)=(jgl d)/\(jgk d)=(jgk d)/\nth (jfA d) x=nth (jfA d) x/\nth d.1.2.1 (jfx d x).toNat=nth d.1.2.1 (jfx d x).toNat/\qB d.1 (jfx d x) a=qB d.1 (jfx d x) a/\bW (jfP d x a)=bW (jfP d x a)/\cS (jhb d x) (jfP d x a)=cS (jhb d x) (jfP d x a)/\tU (jfP d x a)=tU (jgV d x b)/\rz (jfP d x a)=rz (jgV d x b)/\True)/\True)/\b<=(w9 d.1).length)/\∀(b:Nat),b<=(w9 d.1).length->(decide ((b:Int)<d.1.q4.1.length)=true->0<=(b:Int)/\(b:Int)<d.1.q4.1.length/\(decide ((nth d.1.q4.1 b).2.1=nth (jfA d) x)=true->wm ((b:Int)+1)/\∃(c:Nat),(((b:Int)+1=(c:Int)/\True)/\((jfu d x).1.1=(jfu d x).1.1/\(jfu d x).1.2.1=(jfu d x).1.2.1/\(jfu d x).1.2.2.1=(jfu d x).1.2.2.1/\(jfu d x).1.2.2.2.1=(jfu d x).1.2.2.2.1/\(jfu d x).1.q4.1=(jfu d x).1.q4.1/\(jfu d x).1.q4.2.1=(jfu d x).1.q4.2.1/\(jfu d x).2.1=(jfu d x).2.1/\(jfu d x).2.2.1=(jfu d x).2.2.1/\(jfu d x).2.2.2.1=(jfu d x).2.2.2.1/\d.1.2.2.2.1.1=d.1.2.2.2.1.1/\d.1.2.2.2.1.2.1=d.1.2.2.2.1.2.1/\d.1.2.2.2.1.2.2.1=d.1.2.2.2.1.2.2.1/\d.1.2.2.2.1.2.2.2.1=d.1.2.2.2.1.2.2.2.1/\(jgp d)=(jgp d)/\(jgo d)=(jgo d)/\(jgn d)=(jgn d)/\(jgm d)=(jgm d)/\(jgl d)=(jgl d)/\(jgk d)=(jgk d)/\nth (jfA d) x=nth (jfA d) x/\nth d.1.2.1 (jfx d x).toNat=nth d.1.2.1 (jfx d x).toNat/\qB d.1 (jfx d x) a=qB d.1 (jfx d x) a/\ru (jiG d x a b)=bW (jfP d x a)/\FP (jiG d x a b)=cS (jhb d x) (jfP d x a)/\XX (nth d.1.q4.1 b).2.2.1 (jiG d x a b)=tU (wu d.1 (jfx d x) c)/\XY (nth d.1.q4.1 b).2.2.1 (jiG d x a b)=rz (wu d.1 (jfx d x) c)/\True)/\True)/\c<=(w9 d.1).length/\(w9 d.1).length-c<(w9 d.1).length-b)/\(decide ((nth d.1.q4.1 b).2.1=nth (jfA d) x)=false->wm ((b:Int)+1)/\∃(c:Nat),(((b:Int)+1=(c:Int)/\True)/\((jfu d x).1.1=(jfu d x).1.1/\(jfu d x).1.2.1=(jfu d x).1.2.1/\(jfu d x).1.2.2.1=(jfu d x).1.2.2.1/\(jfu d x).1.2.2.2.1=(jfu d x).1.2.2.2.1/\(jfu d x).1.q4.1=(jfu d x).1.q4.1/\(jfu d x).1.q4.2.1=(jfu d x).1.q4.2.1/\(jfu d x).2.1=(jfu d x).2.1/\(jfu d x).2.2.1=(jfu d x).2.2.1/\(jfu d x).2.2.2.1=(jfu d x).2.2.2.1/\d.1.2.2.2.1.1=d.1.2.2.2.1.1/\d.1.2.2.2.1.2.1=d.1.2.2.2.1.2.1/\d.1.2.2.2.1.2.2.1=d.1.2.2.2.1.2.2.1/\d.1.2.2.2.1.2.2.2.1=d.1.2.2.2.1.2.2.2.1/\(jgp d)=(jgp d)/\(jgo d)=(jgo d)/\(jgn d)=(jgn d)/\(jgm d)=(jgm d)/\(jgl d)=(jgl d)/\(jgk d)=(jgk d)/\nth (jfA d) x=nth (jfA d) x/\nth d.1.2.1 (jfx d x).toNat=nth d.1.2.1 (jfx d x).toNat/\qB d.1 (jfx d x) a=qB d.1 (jfx d x) a/\bW (jfP d x a)=bW (jfP d x a)/\cS (jhb d x) (jfP d x a)=cS (jhb d x) (jfP d x a)/\tU (jgV d x b)=tU (wu d.1 (jfx d x) c)/\rz (jgV d x b)=rz (wu d.1 (jfx d x) c)/\True)/\True)/\c<=(w9 d.1).length/\(w9 d.1).length-c<(w9 d.1).length-b))/\(decide ((b:Int)<d.1.q4.1.length)=false->wm ((x:Int)+1)/\∃(c:Nat),(((x:Int)+1=(c:Int)/\True)/\fN Ty.int (jfx d x) (some (nth d.1.1.2.2.1 (jfx d x).toNat,d.1.2.2.2.1,nth (jfA d) x,nth d.1.2.1 (jfx d x).toNat,qB d.1 (jfx d x) a,bW (jfP d x a),cS (jhb d x) (jfP d x a),tU (jgV d x b),rz (jgV d x b),())) (A2 d.1 x)=A2 d.1 c/\True)/\c<=(jfA d).length/\(jfA d).length-c<(jfA d).length-x)))))/\(decide ((x:Int)<(jfA d).length)=false->((d.1,A2 d.1 x,()),(0:Int),())=(jjo d))))))
def jcX (l:LgD) (n:Int) (k:Nat):BlD:=
 (nth (wo (wv l)) n.toNat,ve l,n,nth (qU l) n.toNat,qB l n (wi (wq (wv l))).length,
  bW (tO l n (qB l n (wi (wq (wv l))).length)),cS (nth (nL l) n.toNat) (tO l n (qB l n (wi (wq (wv l))).length)),tU (wu l n k),rz (wu l n k),())
theorem Pu (l:LgD) (n:Int) {k:Nat} (hk:k<=(w9 l).length):jcX l n k=wu l n k:=by
 obtain⟨c1,c2,a,b,c,d,f⟩:=ye l n k hk;have e:wu l n k=(vn (wu l n k),gU (wu l n k),PN (wu l n k),PO (wu l n k),vS (wu l n k),ru (wu l n k),FP (wu l n k),tU (wu l n k),rz (wu l n k),()):=rfl;rw[c1,c2,a,b,c,d,f] at e;exact e.symm
theorem XI (l:LgD) (n:Int) (k:Nat):qB l n (k+1)=qB l n k++(if qd (nth (fI (wv l)) n.toNat) (k:Int)=true then[(k:Int)] else[]):=by
 unfold qB Ml;rw[zc,kE,zw];congr 1;by_cases h:qd (nth (fI (wv l)) n.toNat) (k:Int)=true;rw[jg h];simp only[List.filter,h,List.map];rw[jd h];rw[zZ] at h;simp only[List.filter,h,List.map]
theorem ZT {l:LgD} (h:AA l):(fI (wv l)).length=(wo (wv l)).length:=by
 unfold fI;rw[jg h.cp];unfold aF;rw[zf,zG]
theorem ZU:XH:=by
 unfold XH jiG jgV jjp jfP jgp jhb jfu jfx jfA jgo jjo jgU jgn jgm jgl jgk Prod.q4;rintro⟨l,told,⟨⟩⟩ w K;have w:(w7 (wv l)).length<=100000:=w;refine⟨w,fun h=> ?_,fun h=> ?_⟩;have h:wT l≠0:=ja h;have e:∀t,qG l t=wT l:=fun t=>jg h
 have e2:∀t,qj l t=jeW:=fun t=>jd (by rw[e];exact h)
 show(jeW,wT l,())=(qj l (qa l told.2),qG l (qa l told.2),());rw[e,e2];have h:wT l=0:=jN.1 (jc h);have g:=dS h;refine vV _ (K h) ⟨fun o=> ?_,fun o=>⟨w,w,fun H=>⟨⟨0,⟨⟨rfl,tZ⟩,rfl,tZ⟩,jl _⟩,fun x I=>⟨fun q=> ?_,fun q=> ?_⟩⟩⟩⟩;have o:qa l told.2=false:=(by simpa using(show(!qa l told.2)=true from o));show(jeW,(1:Int),())=(qj l (qa l told.2),qG l (qa l told.2),());have e:qG l (qa l told.2)=1:=by
  unfold qG;rw[jd (fun z=>z h),o];rfl
 have e2:qj l (qa l told.2)=jeW:=jd (by rw[e];decide);rw[e,e2];have q:(x:Int)<(wa (wv l)).length:=ja q;have f:x<(wa (wv l)).length:=(by omega);obtain⟨n,en⟩:∃n,n=nth (wa (wv l)) x:=⟨_,rfl⟩;have c:0<=n/\n<((wo (wv l)).length:Int):=(by rw[en];exact IB (L.wh f));have M:(wa (wv l)).length<=4:=Q5 g;have C:n<((qU l).length:Int):=(by rw[g.py.1];exact c.2);have F:n<((nL l).length:Int):=(by rw[g.tr.1];exact c.2);have E:n<((fI (wv l)).length:Int):=(by rw[ZT g];exact c.2);have O:=jeD g;have u:=tp (nth (fI (wv l)) n.toNat);have G:=g.tr.2 _ (L.wh (show n.toNat<(nL l).length by omega));have D:A2 l (x+1)=fN .int n (some (wW l n)) (A2 l x):=(by rw[Ly f,<-en];rfl);have N:=g.cl;have step:∀k,k<(w9 l).length->wu l n (k+1)=tP n (jcX l n k) (nth (w9 l) k):=fun k hk=>by rw[dF hk,Pu l n (by omega)]
 subst en;refine⟨by omega,q,c.1,c.2,c.1,C,fun P=>⟨⟨0,⟨⟨rfl,tZ⟩,(by repeat' (first|exact trivial|exact rfl|apply And.intro)),rfl,tZ⟩,jl _⟩,fun p v=>⟨fun b=> ?_,fun b=> ?_⟩⟩⟩;have b:(p:Int)<(wi (wq (wv l))).length:=ja b;have d:=XI l (nth (wa (wv l)) x) p;have s:=(u p).1;have s:(qB l (nth (wa (wv l)) x) p).length<=p:=s;have up:p+1<=(wi (wq (wv l))).length:=(by omega);have r:(wi (wq (wv l))).length-(p+1)<(wi (wq (wv l))).length-p:=(by omega);refine⟨c.1,E,by omega,by omega,fun j=> ?_,fun j=> ?_⟩;have j:qd (nth (fI (wv l)) (nth (wa (wv l)) x).toNat) (p:Int)=true:=j;rw[jg j] at d;exact⟨by show((qB l (nth (wa (wv l)) x) p).length+1)*8<=140737488355328;omega,iZ6,p+1,⟨⟨by simp,tZ⟩,(by repeat' (first|exact trivial|exact rfl|apply And.intro)),d.symm,tZ⟩,up,r⟩;have j:qd (nth (fI (wv l)) (nth (wa (wv l)) x).toNat) (p:Int)=false:=j;rw[jd (by rw[j];decide),jZ] at d;exact⟨iZ6,p+1,⟨⟨by simp,tZ⟩,d.symm,(by repeat' (first|exact trivial|exact rfl|apply And.intro)),tZ⟩,up,r⟩;have b:¬(p:Int)<(wi (wq (wv l))).length:=jc b;have v:p<=(wi (wq (wv l))).length:=v;have B:p=(wi (wq (wv l))).length:=(by omega);subst B;have J:DK (tO l (nth (wa (wv l)) x) (qB l (nth (wa (wv l)) x) (wi (wq (wv l))).length)):=Q2 g c (by have:=(u (wi (wq (wv l))).length).1;unfold qB;omega);refine⟨c.1,F,tn.2 J,G.1,G.2,fun Q=>⟨⟨0,⟨⟨rfl,tZ⟩,(by repeat' (first|exact trivial|exact rfl|apply And.intro)),tZ⟩,jl _⟩,fun k hk=>⟨fun a=> ?_,fun a=> ?_⟩⟩⟩;have a:(k:Int)<(w9 l).length:=ja a;have i:=step k (by omega);have up:k+1<=(w9 l).length:=(by omega);have r:(w9 l).length-(k+1)<(w9 l).length-k:=(by omega);refine⟨by omega,a,fun m=> ?_,fun m=> ?_⟩;have m:jcJ (nth (w9 l) k)=(nth (wa (wv l)) x):=ja m;have e:wu l (nth (wa (wv l)) x) (k+1)=gK (PM (nth (w9 l) k)) (jcX l (nth (wa (wv l)) x) k):=(by rw[i];exact jg m);have y:tU (gK (PM (nth (w9 l) k)) (jcX l (nth (wa (wv l)) x) k))=tU (wu l (nth (wa (wv l)) x) (k+1)):=(by rw[e]);have e2:rz (gK (PM (nth (w9 l) k)) (jcX l (nth (wa (wv l)) x) k))=rz (wu l (nth (wa (wv l)) x) (k+1)):=(by rw[e]);exact⟨iZ6,k+1,⟨⟨by simp,tZ⟩,(by repeat' (first|exact trivial|exact y|exact e2|exact rfl|apply And.intro)),tZ⟩,up,r⟩;have m:¬jcJ (nth (w9 l) k)=(nth (wa (wv l)) x):=jc m;have e:wu l (nth (wa (wv l)) x) (k+1)=wu l (nth (wa (wv l)) x) k:=(by rw[i,Pu l (nth (wa (wv l)) x) (by omega)];exact jd m);have y:tU (wu l (nth (wa (wv l)) x) k)=tU (wu l (nth (wa (wv l)) x) (k+1)):=(by rw[e]);have e2:rz (wu l (nth (wa (wv l)) x) k)=rz (wu l (nth (wa (wv l)) x) (k+1)):=(by rw[e]);exact⟨iZ6,k+1,⟨⟨by simp,tZ⟩,(by repeat' (first|exact trivial|exact y|exact e2|exact rfl|apply And.intro)),tZ⟩,up,r⟩;have a:¬(k:Int)<(w9 l).length:=jc a;have hk:k<=(w9 l).length:=hk;have A:k=(w9 l).length:=(by omega);subst A;have e:fN .int (nth (wa (wv l)) x) (some (jcX l (nth (wa (wv l)) x) (w9 l).length)) (A2 l x)=A2 l (x+1):=by
  rw[D,Pu l (nth (wa (wv l)) x) (jj _)];rfl
 exact⟨iZ6,x+1,⟨⟨by simp,tZ⟩,e,tZ⟩,by show x+1<=(wa (wv l)).length;omega,by show(wa (wv l)).length-(x+1)<(wa (wv l)).length-x;omega⟩;have q:¬(x:Int)<(wa (wv l)).length:=jc q;have I:x<=(wa (wv l)).length:=I;have f:x=(wa (wv l)).length:=(by omega);subst f;have o:qa l told.2=true:=(by simpa using(show(!qa l told.2)=false from o));show((l,Ue l,()),(0:Int),())=(qj l (qa l told.2),qG l (qa l told.2),());have e:qG l (qa l told.2)=0:=by
  unfold qG;rw[jd (fun z=>z h),jg o]
 have e2:qj l (qa l told.2)=(l,Ue l,()):=jg e;rw[e,e2]
theorem mS:wV PR 34 XF:=qY XG ZU Tryz.func34 (kcC GS (kcC Sy (kcC Oc kcN))) (koC AL (koC oG koN))
def TT:wQ:=⟨[.val tLg],[.slice tLn,.int],false,fun d=>[(w7 (wv d.1)).length<=100000],fun d=>(FR d.1,wT d.1,())⟩
abbrev jid (d:LgD×Unit):=(qa d.1 fun(a:BoD×Unit)=>(true,()))
def TU:Prop:=∀(d:LgD×Unit),(w7 (wv d.1)).length<=100000->(w7 (wv d.1)).length<=100000/\(wT d.1=0->wy [])/\(decide (qG d.1 (jid d)≠0)=true->([],qG d.1 (jid d),())=(FR d.1,wT d.1,()))/\(decide (qG d.1 (jid d)≠0)=false->Mn (qj d.1 (jid d))/\(wI (qj d.1 (jid d)),(0:Int),())=(FR d.1,wT d.1,()))
def Pv:wQ:=⟨[.val tLg],[.slice .int,.int],false,fun d=>[(w7 (wv d.1)).length<=100000],fun d=>(A3 d.1,wT d.1,())⟩
abbrev jie (d:LgD×Unit):=(qa d.1 fun(a:BoD×Unit)=>(true,()))
def Pw:Prop:=∀(d:LgD×Unit),(w7 (wv d.1)).length<=100000->(w7 (wv d.1)).length<=100000/\(wT d.1=0->wy [])/\(decide (qG d.1 (jie d)≠0)=true->([],qG d.1 (jie d),())=(A3 d.1,wT d.1,()))/\(decide (qG d.1 (jie d)≠0)=false->X0 (qj d.1 (jie d))/\(Mm (qj d.1 (jie d)),(0:Int),())=(A3 d.1,wT d.1,()))
def TV:wQ:=⟨[.val tBo,.ref .int],[.bool],false,fun d=>[(wo (wv (cQ d.1))).length<=100],fun d=>(qP d.1 d.2.1,())⟩
def TW:Prop:=∀(d:BoD×Int×Unit),(wo (wv (cQ d.1))).length<=100->(wo (wv (cQ d.1))).length<=100/\(qP d.1 d.2.1,())=(qP d.1 d.2.1,())
def ZV:wQ:=⟨[.val tLg,.val .int],[.slice .int,.int],false,fun d=>[(w7 (wv d.1)).length<=100000],fun d=>(Mo d.1 d.2.1,qG d.1 (yX d.1 d.2.1),())⟩
abbrev jif (d:LgD×Int×Unit):=(qa d.1 fun(a:BoD×Unit)=>(qP a.1 d.2.1,()))
def ZW:Prop:=∀(d:LgD×Int×Unit),(w7 (wv d.1)).length<=100000->(w7 (wv d.1)).length<=100000/\(wT d.1=0->wy [(wo (wv (cQ (d.1,[],())))).length<=100])/\(decide (qG d.1 (jif d)≠0)=true->([],qG d.1 (jif d),())=(Mo d.1 d.2.1,qG d.1 (yX d.1 d.2.1),()))/\(decide (qG d.1 (jif d)≠0)=false->X1 (qj d.1 (jif d))/\(Uf (qj d.1 (jif d)) d.2.1,(0:Int),())=(Mo d.1 d.2.1,qG d.1 (yX d.1 d.2.1),()))
def L4:wQ:=⟨[.val tBo,.ref .int,.ref .int],[.bool],false,fun d=>[(wo (wv (cQ d.1))).length<=100],fun d=>(qP d.1 d.2.1&&ga d.2.2.1,())⟩
def L5:Prop:=∀(d:BoD×Int×Int×Unit),(wo (wv (cQ d.1))).length<=100->(wo (wv (cQ d.1))).length<=100/\(qP d.1 d.2.1&&k8 d.2.2.1 (-100000:Int) (1440:Int),())=(qP d.1 d.2.1&&ga d.2.2.1,())
def IX:wQ:=⟨[.val tBo,.ref .int,.ref .int],[.bool],false,fun d=>[(wo (wv (cQ d.1))).length<=100],fun d=>(qP d.1 d.2.1&&gw d.2.2.1,())⟩
def IY:Prop:=∀(d:BoD×Int×Int×Unit),(wo (wv (cQ d.1))).length<=100->(wo (wv (cQ d.1))).length<=100/\(qP d.1 d.2.1&&k8 d.2.2.1 (0:Int) (1000000000:Int),())=(qP d.1 d.2.1&&gw d.2.2.1,())
def TX:wQ:=⟨[.val tLg,.val .int,.val .int],[.int,.int],false,fun d=>[(w7 (wv d.1)).length<=100000],fun d=>(FS d.1 d.2.1 d.2.2.1,qG d.1 (yX d.1 d.2.1&&ga d.2.2.1),())⟩
abbrev jiH (d:LgD×Int×Int×Unit):=(qa d.1 fun(a:BoD×Unit)=>(qP a.1 d.2.1&&ga d.2.2.1,()))
abbrev jig (d:LgD×Int×Int×Unit):=(wM none (wA Ty.int d.2.1 (qj d.1 (jiH d)).2.1))
abbrev jhz (d:LgD×Int×Int×Unit):=(wG ((((0:Int),(0:Int),(0:Int),(0:Int),(0:Int),(0:Int),()),(0:Int),(0:Int),(0:Int),()),((0:Int),(0:Int),(0:Int),(0:Int),(0:Int),(0:Int),(0:Int),(0:Int),[],[],()),(0:Int),(0:Int),[],(0:Int),(0:Int),false,(0:Int),()) (jig d))
abbrev jjq (d:LgD×Int×Int×Unit):=(FS d.1 d.2.1 d.2.2.1,qG d.1 (yX d.1 d.2.1&&ga d.2.2.1),())
def TY:Prop:=∀(d:LgD×Int×Int×Unit),(w7 (wv d.1)).length<=100000->(w7 (wv d.1)).length<=100000/\(wT d.1=0->wy [(wo (wv (cQ (d.1,[],())))).length<=100])/\(decide (qG d.1 (jiH d)≠0)=true->((0:Int),qG d.1 (jiH d),())=(jjq d))/\(decide (qG d.1 (jiH d)≠0)=false->((jig d).isNone=true->((0:Int),(0:Int),())=(jjq d))/\((jig d).isNone=false->(jig d).isSome=true/\ri (jhz d)/\(jig d).isSome=true/\ri (jhz d)/\(-100000:Int)<=d.2.2.1/\d.2.2.1<=1440/\wm ((vd (jhz d)).q4.2.1-gV d.2.2.1 (jhz d))/\((vd (jhz d)).q4.2.1-gV d.2.2.1 (jhz d),(0:Int),())=(jjq d)))
theorem XJ:TW:=fun _ h=>⟨h,rfl⟩
theorem TZ:wV PR 46 TV:=wK XJ Tryz.func46 (kcC az kcN) koN
theorem Px:L5:=fun _ h=>⟨h,rfl⟩
theorem L6:wV PR 35 L4:=wK Px Tryz.func35 (kcC az (kcC yN kcN)) koN
theorem L7:IY:=fun _ h=>⟨h,rfl⟩
theorem IZ:wV PR 43 IX:=wK L7 Tryz.func43 (kcC az (kcC yN kcN)) koN
theorem jeN {l:LgD} (h:AA l):(wo (wv l)).length<=4:=by
 have a:=h.dy;unfold qv at a;rw[ji] at a;exact(ja a.1).1
theorem Bo (l:LgD):qG l true=wT l:=by
 unfold qG;by_cases h:wT l=0;rw[jd (fun a=>a h),jg rfl,h];rw[jg h]
theorem Ee {l:LgD} {t:Bool} (h:qG l t=0):qj l t=U.bo l/\AA l/\t=true:=by
 have e:qj l t=U.bo l:=(by unfold qj;rw[jg h];rfl);unfold qG at h
 split at h
 rename_i a;exact absurd h a;rename_i a
 split at h
 rename_i b;exact⟨e,dS (jN.1 a),b⟩;cases h
theorem XK:TU:=by
 unfold TU jid;rintro⟨l,⟨⟩⟩ c;refine⟨c,fun _=>tZ,fun h=> ?_,fun h=> ?_⟩;have h:qG l true≠0:=ja h;show(([]:List LnD),qG l true,())=(FR l,wT l,());rw[Bo] at h⊢;unfold FR;rw[jd h];have h:qG l true=0:=jN.1 (jc h);obtain⟨a,b,_⟩:=Ee h;rw[Bo] at h;refine⟨?_,?_⟩;show Mn (qj l true);rw[a];exact Xw b;show(wI (qj l true),(0:Int),())=(FR l,wT l,());rw[a,h];unfold FR;rw[jg h]
theorem T3:wV PR 22 TT:=wK XK Tryz.func22 (kcC mS (kcC DU (kcC ld kcN))) koN
theorem T4:Pw:=by
 unfold Pw jie;rintro⟨l,⟨⟩⟩ c;refine⟨c,fun _=>tZ,fun h=> ?_,fun h=> ?_⟩;have h:qG l true≠0:=ja h;show(([]:List Int),qG l true,())=(A3 l,wT l,());rw[Bo] at h⊢;unfold A3;rw[jd h];have h:qG l true=0:=jN.1 (jc h);obtain⟨a,b,_⟩:=Ee h;rw[Bo] at h;refine⟨?_,?_⟩;show X0 (qj l true);rw[a];exact jeL b;show(Mm (qj l true),(0:Int),())=(A3 l,wT l,());rw[a,h];unfold A3;rw[jg h]
theorem Ef:wV PR 24 Pv:=wK T4 Tryz.func24 (kcC mS (kcC DU (kcC u9 kcN))) koN
theorem jcu:ZW:=by
 unfold ZW jif;rintro⟨l,n,⟨⟩⟩ d;refine⟨d,fun b=> ?_,fun h=> ?_,fun h=> ?_⟩;have:(wo (wv l)).length<=4:=jeN (dS b);exact⟨by show(wo (wv l)).length<=100;omega,tZ⟩;have h:qG l (yX l n)≠0:=ja h;show(([]:List Int),qG l (yX l n),())=(Mo l n,qG l (yX l n),());unfold Mo;rw[jd h];have h:qG l (yX l n)=0:=jN.1 (jc h);obtain⟨a,c,_⟩:=Ee h;refine⟨?_,?_⟩;show X1 (qj l (yX l n));rw[a];exact jeM c;show(Uf (qj l (yX l n)) n,(0:Int),())=(Mo l n,qG l (yX l n),());rw[a,h];unfold Mo;rw[jg h]
theorem ZX:wV PR 17 ZV:=wK jcu Tryz.func17 (kcC mS (kcC TZ (kcC Fu kcN))) koN
theorem jaK {l:LgD} (i:AA l) {n:Int} {b:BlD} (h:Uq (U.bo l) n=some b):Lx b:=by
 have a:=Xw i;have d:(n,some b)∈Ue l:=by
  refine(M.xc (kt:= .int) a.2.2.1).1 ?_;have e:wM none (wA .int n (Ue l))=some b:=h;cases f:wA (β:=Option BlD) Ty.int n (Ue l) with
  |none=>rw[f] at e;cases e
  |some v=>rw[f] at e;exact f.trans (jF some e)
 obtain⟨g,c,j⟩:=a.1 _ d;have c:some b=some g:=c;simp only[jz] at c;subst c;exact cd.1 j
theorem XL {b:BlD} {m:Int} (w:Lx b) (a: -100000<=m/\m<=1440): -1000000<=gV m b/\gV m b<=20000000000000000:=Pg (IA w a)
theorem XM:TY:=by
 unfold TY jjq jhz jig jiH Prod.q4;rintro⟨l,n,m,⟨⟩⟩ j;refine⟨j,fun g=> ?_,fun h=> ?_,fun h=> ?_⟩;have:(wo (wv l)).length<=4:=jeN (dS g);exact⟨by show(wo (wv l)).length<=100;omega,tZ⟩;have h:qG l (yX l n&&ga m)≠0:=ja h;show((0:Int),qG l (yX l n&&ga m),())=(FS l n m,qG l (yX l n&&ga m),());unfold FS;rw[jd h];have h:qG l (yX l n&&ga m)=0:=jN.1 (jc h);obtain⟨f,i,c⟩:=Ee h;rw[ji] at c;have a: -100000<=m/\m<=1440:=vG.1 c.2;show((Uq (qj l (yX l n&&ga m)) n).isNone=true->((0:Int),(0:Int),())=(FS l n m,qG l (yX l n&&ga m),()))/\
  ((Uq (qj l (yX l n&&ga m)) n).isNone=false->(Uq (qj l (yX l n&&ga m)) n).isSome=true/\ri (wG _ (Uq (qj l (yX l n&&ga m)) n))/\(Uq (qj l (yX l n&&ga m)) n).isSome=true/\ri (wG _ (Uq (qj l (yX l n&&ga m)) n))/\-100000<=m/\m<=1440/\
    wm (Mj (vd (wG _ (Uq (qj l (yX l n&&ga m)) n)))-gV m (wG _ (Uq (qj l (yX l n&&ga m)) n)))/\(Mj (vd (wG _ (Uq (qj l (yX l n&&ga m)) n)))-gV m (wG _ (Uq (qj l (yX l n&&ga m)) n)),(0:Int),())=(FS l n m,qG l (yX l n&&ga m),()))
 rw[f,h];unfold FS;rw[jg h];cases e:Uq (U.bo l) n with
 |none=>exact⟨fun _=>rfl,fun h=>(by cases h)⟩
 |some b=>
  have w:=jaK i e;have d:=cd.2 w;have k:=Pg w;have o:=XL w a;refine⟨fun h=>(by cases h),fun _=>⟨rfl,d,rfl,d,a.1,a.2,?_,rfl⟩⟩;show wm (Mj (vd b)-gV m b);exact iZ6
theorem T6:wV PR 11 TX:=wK XM Tryz.func11 (kcC mS (kcC L6 (kcC bi (kcC lc kcN)))) koN
namespace U
def yA (o:Option BlD):BlD:=o.getD default
end U
def Py:wQ:=⟨[.val tLg,.val .int,.val .int],[.int,.int],false,fun d=>[(w7 (wv d.1)).length<=100000],fun d=>(Mr d.1 d.2.1 d.2.2.1,Ms d.1 d.2.1 d.2.2.1,())⟩
def Pz:Ann:=fun r=>match r with
 |7=>some fun σ=>{X:=Nat,sl:=fun k=>[(11,.dat .int (w8 (vn (yA (gd (.ptr tBl) σ 10)))-(k:Int)))],ob:=fun _=>[],inv:=fun k=>k<=dY (yA (gd (.ptr tBl) σ 10))/\∀j:Nat,j<k->fL (yA (gd (.ptr tBl) σ 10)) (gb .int σ 5) j=false,mu:=fun k=>dY (yA (gd (.ptr tBl) σ 10))-k}
 |_=>none
abbrev jiI (d:LgD×Int×Int×Unit):=(qa d.1 fun(a:BoD×Unit)=>(qP a.1 d.2.1&&gw d.2.2.1,()))
abbrev jhA (d:LgD×Int×Int×Unit):=(wM none (wA Ty.int d.2.1 (qj d.1 (jiI d)).2.1))
abbrev jiJ (d:LgD×Int×Int×Unit):=(wG ((((0:Int),(0:Int),(0:Int),(0:Int),(0:Int),(0:Int),()),(0:Int),(0:Int),(0:Int),()),((0:Int),(0:Int),(0:Int),(0:Int),(0:Int),(0:Int),(0:Int),(0:Int),[],[],()),(0:Int),(0:Int),[],(0:Int),(0:Int),false,(0:Int),()) (jhA d))
abbrev jiK (d:LgD×Int×Int×Unit):=(Mr d.1 d.2.1 d.2.2.1,Ms d.1 d.2.1 d.2.2.1,())
abbrev jgA (d:LgD×Int×Int×Unit):=(yA (jhA d))
abbrev jge (d:LgD×Int×Int×Unit):=(vn (jgA d))
def PA:Prop:=∀(d:LgD×Int×Int×Unit),(w7 (wv d.1)).length<=100000->(w7 (wv d.1)).length<=100000/\(wT d.1=0->wy [(wo (wv (cQ (d.1,[],())))).length<=100])/\(decide (qG d.1 (jiI d)≠0)=true->((0:Int),qG d.1 (jiI d),())=(jiK d))/\(decide (qG d.1 (jiI d)≠0)=false->((!(jhA d).isNone)=true->(jhA d).isSome=true/\(∃(x:Nat),(((jiJ d).1.2.2.1=w8 (jge d)-(x:Int)/\True)/\True)/\x<=dY (jgA d)/\∀(j:Nat),j<x->fL (jgA d) d.2.2.1 j=false)/\∀(x:Nat),(x<=dY (jgA d)/\∀(j:Nat),j<x->fL (jgA d) d.2.2.1 j=false)->(decide ((-100000:Int)<=w8 (jge d)-(x:Int))=true->(jhA d).isSome=true/\ri (jiJ d)/\(-100000:Int)<=w8 (jge d)-(x:Int)/\w8 (jge d)-(x:Int)<=1440/\(decide (gV (w8 (jge d)-(x:Int)) (jiJ d)<=d.2.2.1)=true->(w8 (jge d)-(x:Int),(0:Int),())=(jiK d))/\(decide (gV (w8 (jge d)-(x:Int)) (jiJ d)<=d.2.2.1)=false->wm (w8 (jge d)-(x:Int)-1)/\∃(a:Nat),((w8 (jge d)-(x:Int)-1=w8 (jge d)-(a:Int)/\True)/\True)/\(a<=dY (jgA d)/\∀(j:Nat),j<a->fL (jgA d) d.2.2.1 j=false)/\dY (jgA d)-a<dY (jgA d)-x))/\(decide ((-100000:Int)<=w8 (jge d)-(x:Int))=false->((0:Int),(3:Int),())=(jiK d)))/\((!(jhA d).isNone)=false->((0:Int),(3:Int),())=(jiK d)))
theorem jdZ {o:Option BlD} {Z:BlD} {a P E:Int} (t:∀b,o=some b->Lx b) (r:P=jfe a o) (p:E=jff a o):
 ((!o.isNone)=true->o.isSome=true/\(∃(x:Nat),((w8 (vn (wG Z o))=w8 (vn (yA o))-(x:Int)/\True)/\True)/\x<=dY (yA o)/\∀(j:Nat),j<x->fL (yA o) a j=false)/\
   ∀(x:Nat),(x<=dY (yA o)/\∀(j:Nat),j<x->fL (yA o) a j=false)->
    (decide (-100000<=w8 (vn (yA o))-(x:Int))=true->o.isSome=true/\ri (wG Z o)/\-100000<=w8 (vn (yA o))-(x:Int)/\w8 (vn (yA o))-(x:Int)<=1440/\
     (decide (gV (w8 (vn (yA o))-(x:Int)) (wG Z o)<=a)=true->(w8 (vn (yA o))-(x:Int),(0:Int),())=(P,E,()))/\
     (decide (gV (w8 (vn (yA o))-(x:Int)) (wG Z o)<=a)=false->wm (w8 (vn (yA o))-(x:Int)-1)/\∃(m:Nat),((w8 (vn (yA o))-(x:Int)-1=w8 (vn (yA o))-(m:Int)/\True)/\True)/\(m<=dY (yA o)/\∀(j:Nat),j<m->fL (yA o) a j=false)/\dY (yA o)-m<dY (yA o)-x))/\
    (decide (-100000<=w8 (vn (yA o))-(x:Int))=false->((0:Int),(3:Int),())=(P,E,())))/\
 ((!o.isNone)=false->((0:Int),(3:Int),())=(P,E,())):=by
 subst r p;cases o with
 |none=>exact⟨fun h=>(by cases h),fun _=>rfl⟩
 |some b=>
  have w:=t b rfl;have n:=w.bl;refine⟨fun _=>⟨rfl,⟨0,⟨⟨?_,tZ⟩,tZ⟩,jl _,fun j s=>by omega⟩,fun x d=>⟨fun f=> ?_,fun f=> ?_⟩⟩,fun h=>(by cases h)⟩;show w8 (vn b)=w8 (vn b)-((0:Nat):Int);omega;have d:x<=dY b/\∀j:Nat,j<x->fL b a j=false:=d;have f: -100000<=w8 (vn b)-(x:Int):=ja f;have s1:=n.st;have s2:=n.en;have u:=n.e2;have q:dY b=(w8 (vn b)+100001).toNat:=rfl;refine⟨rfl,cd.2 w,f,?_,fun c=> ?_,fun c=> ?_⟩;show w8 (vn b)-(x:Int)<=1440;omega;have c:fL b a x=true:=c;have e:FT b a=some x:=by
   rcases GX b a with⟨k,e,hk,g,i⟩|⟨e,i⟩;rw[e];have:k=x:=by
    rcases Nat.lt_trichotomy k x with l|l|l;rw[d.2 k l] at g;cases g;exact l;rw[i x l] at c;cases c
   rw[this];rw[i x (by omega)] at c;cases c
  show(w8 (vn b)-(x:Int),(0:Int),())=(jeY b (FT b a),jeZ (FT b a),());rw[e];rfl;have c:fL b a x=false:=c;refine⟨?_,x+1,⟨⟨?_,tZ⟩,tZ⟩,⟨?_,fun j s=> ?_⟩,?_⟩;show wm (w8 (vn b)-(x:Int)-1);exact iZ6;show w8 (vn b)-(x:Int)-1=w8 (vn b)-((x+1:Nat):Int);omega;show x+1<=dY b;omega;by_cases e:j=x;subst e;exact c;exact d.2 j (by omega);show dY b-(x+1)<dY b-x;omega;have d:x<=dY b/\∀j:Nat,j<x->fL b a j=false:=d;have f:¬-100000<=w8 (vn b)-(x:Int):=jc f;have q:dY b=(w8 (vn b)+100001).toNat:=rfl;have e:FT b a=none:=by
   rcases GX b a with⟨k,e,hk,g,i⟩|⟨e,i⟩;rw[d.2 k (by omega)] at g;cases g;exact e
  show((0:Int),(3:Int),())=(jeY b (FT b a),jeZ (FT b a),());rw[e];rfl
theorem T7:PA:=by
 unfold PA jge jgA jiK jiJ jhA jiI;rintro⟨l,n,a,⟨⟩⟩ g;refine⟨g,fun e=> ?_,fun h=> ?_,fun h=> ?_⟩;have:(wo (wv l)).length<=4:=jeN (dS e);exact⟨by show(wo (wv l)).length<=100;omega,tZ⟩;have h:qG l (yX l n&&gw a)≠0:=ja h;show((0:Int),qG l (yX l n&&gw a),())=(Mr l n a,Ms l n a,());unfold Mr Ms;rw[jd h,jd h];have h:qG l (yX l n&&gw a)=0:=jN.1 (jc h);obtain⟨c,f,i⟩:=Ee h;exact jdZ (o:=Uq (qj l (yX l n&&gw a)) n) (fun b d=>by rw[c] at d;exact jaK f d) (by rw[c];exact jg h) (by rw[c];exact jg h)
theorem PB:wV PR 13 Py:=qY Pz T7 Tryz.func13 (kcC mS (kcC IZ (kcC lc kcN))) koN
end Go.X
namespace Go.X
open U
open Go.Proofs
namespace U
def PS (l:LgD):Bool:=((((I9 (wv l)||decide (20<((qU l).length:Int)))||decide (20<((nL l).length:Int)))||decide (20<((aM (ve l)).length:Int)))||decide (20<((aa (ve l)).length:Int)))||decide (30<((w9 l).length:Int))
def exT:TaD:=(30,100,2,1200,90,50,2,150,[0,10,25,50],[(1000,0,()),(60,50,())],())
def xN:LgD:=(jfc,[0,1,0],[30,0,45],exT,[(1,1,80,()),(2,1,120,())],())
def tQ (a b:List LnD):Bool:= @decide (a=b) ((Ty.slice tLn).decEq a b)
end U
def XN:wQ:=⟨[.val tLg],[.bool],false,fun _=>[],fun d=>(PS d.1,())⟩
abbrev jkl (d:LgD×Unit):=(20<(d.1.2.2.2.1.q4.q4.1.length:Int))
abbrev jiL (d:LgD×Unit):=(20<(d.1.2.1.length:Int))
abbrev jjr (d:LgD×Unit):=(20<(d.1.2.2.1.length:Int))
def XO:Prop:=∀(d:LgD×Unit),((!I9 d.1.1)=true->d.1.2.1.length<4611686018427387904)->((!(I9 d.1.1||decide (jiL d)))=true->d.1.2.2.1.length<4611686018427387904)->((!(I9 d.1.1||decide (jiL d)||decide (jjr d)))=true->d.1.2.2.2.1.q4.q4.1.length<4611686018427387904)->((!(I9 d.1.1||decide (jiL d)||decide (jjr d)||decide (jkl d)))=true->d.1.2.2.2.1.q4.q4.2.1.length<4611686018427387904)->((!(I9 d.1.1||decide (jiL d)||decide (jjr d)||decide (jkl d)||decide (20<(d.1.2.2.2.1.q4.q4.2.1.length:Int))))=true->d.1.q4.1.length<4611686018427387904)->(I9 d.1.1||decide (jiL d)||decide (jjr d)||decide (jkl d)||decide (20<(d.1.2.2.2.1.q4.q4.2.1.length:Int))||decide (30<(d.1.q4.1.length:Int)),())=(PS d.1,())
def FH:wQ:=⟨[.val (.slice .int),.val (.slice .int)],[.bool],false,fun _=>[],fun d=>(decide (d.1=d.2.1),())⟩
def FJ:Ann:=fun r=>match r with
 |4=>some fun σ=>{X:=Nat,sl:=fun i=>[(5,.dat .int (i:Int))],ob:=fun _=>[],inv:=fun i=>i<=(gd (.slice .int) σ 0).length/\∀j:Nat,j<i->nth (gd (.slice .int) σ 0) j=nth (gd (.slice .int) σ 1) j,mu:=fun i=>(gd (.slice .int) σ 0).length-i}
 |_=>none
def FK:Prop:=∀(d:List Int×List Int×Unit),d.1.length<4611686018427387904->d.2.1.length<4611686018427387904->(decide ((d.1.length:Int)≠d.2.1.length)=true->(false,())=(decide (d.1=d.2.1),()))/\(decide ((d.1.length:Int)≠d.2.1.length)=false->(∃(x:Nat),((0=(x:Int)/\True)/\True)/\x<=d.1.length/\∀(j:Nat),j<x->nth d.1 j=nth d.2.1 j)/\∀(x:Nat),(x<=d.1.length/\∀(j:Nat),j<x->nth d.1 j=nth d.2.1 j)->d.1.length<4611686018427387904->(decide ((x:Int)<d.1.length)=true->0<=(x:Int)/\(x:Int)<d.1.length/\0<=(x:Int)/\(x:Int)<d.2.1.length/\(decide (nth d.1 x≠nth d.2.1 x)=true->(false,())=(decide (d.1=d.2.1),()))/\(decide (nth d.1 x≠nth d.2.1 x)=false->wm ((x:Int)+1)/\∃(a:Nat),(((x:Int)+1=(a:Int)/\True)/\True)/\(a<=d.1.length/\∀(j:Nat),j<a->nth d.1 j=nth d.2.1 j)/\d.1.length-a<d.1.length-x))/\(decide ((x:Int)<d.1.length)=false->(true,())=(decide (d.1=d.2.1),())))
def Eg:wQ:=⟨[.val (.slice tLn),.val (.slice tLn)],[.bool],false,fun _=>[],fun d=>(tQ d.1 d.2.1,())⟩
def Eh:Ann:=fun r=>match r with
 |4=>some fun σ=>{X:=Nat,sl:=fun i=>[(5,.dat .int (i:Int))],ob:=fun _=>[],inv:=fun i=>i<=(gd (.slice tLn) σ 0).length/\∀j:Nat,j<i->nth (gd (.slice tLn) σ 0) j=nth (gd (.slice tLn) σ 1) j,mu:=fun i=>(gd (.slice tLn) σ 0).length-i}
 |_=>none
def Ei:Prop:=∀(d:List JbD×List JbD×Unit),d.1.length<4611686018427387904->d.2.1.length<4611686018427387904->(decide ((d.1.length:Int)≠d.2.1.length)=true->(false,())=(tQ d.1 d.2.1,()))/\(decide ((d.1.length:Int)≠d.2.1.length)=false->(∃(x:Nat),((0=(x:Int)/\True)/\True)/\x<=d.1.length/\∀(j:Nat),j<x->nth d.1 j=nth d.2.1 j)/\∀(x:Nat),(x<=d.1.length/\∀(j:Nat),j<x->nth d.1 j=nth d.2.1 j)->d.1.length<4611686018427387904->(decide ((x:Int)<d.1.length)=true->0<=(x:Int)/\(x:Int)<d.1.length/\0<=(x:Int)/\(x:Int)<d.2.1.length/\((!decide (nth d.1 x=nth d.2.1 x))=true->(false,())=(tQ d.1 d.2.1,()))/\((!decide (nth d.1 x=nth d.2.1 x))=false->wm ((x:Int)+1)/\∃(a:Nat),(((x:Int)+1=(a:Int)/\True)/\True)/\(a<=d.1.length/\∀(j:Nat),j<a->nth d.1 j=nth d.2.1 j)/\d.1.length-a<d.1.length-x))/\(decide ((x:Int)<d.1.length)=false->(true,())=(tQ d.1 d.2.1,())))
def I0:wQ:=⟨[],[tLg],false,fun _=>[],fun _=>(xN,())⟩
def I1:Prop:=∀(_:Unit),((jfc,[(0:Int),(1:Int),(0:Int)],[(30:Int),(0:Int),(45:Int)],((30:Int),(100:Int),(2:Int),(1200:Int),(90:Int),(50:Int),(2:Int),(150:Int),[(0:Int),(10:Int),(25:Int),(50:Int)],[((1000:Int),(0:Int),()),((60:Int),(50:Int),())],()),[((1:Int),(1:Int),(80:Int),()),((2:Int),(1:Int),(120:Int),())],()),())=(xN,())
def PC:wQ:=⟨[],[.bool],false,fun _=>[],fun _=>(true,())⟩
abbrev jiM:=(w7 (wv xN))
def PE:Prop:=∀(_:Unit),jiM.length<=100000/\jiM.length<=100000/\jiM.length<=100000/\jiM.length<=100000/\(decide (wT xN=0)&&decide (qG xN (yX xN (2:Int))=0)&&decide (qG xN (yX xN (0:Int)&&ga (0:Int))=0)&&decide (Ms xN (0:Int) (0:Int)=0)&&decide (A3 xN=[(940:Int),(100:Int)])&&decide (Mo xN (2:Int)=[(390:Int),(390:Int),(0:Int),(0:Int)])&&decide (FS xN (0:Int) (0:Int)=185)&&decide (Mr xN (0:Int) (0:Int)=(-940:Int)),())=(true,())
def AY:wQ:=WZ [tLg]
abbrev jjs:=(Ty.int.pair (Ty.int.pair Ty.unit))
abbrev jiN:=(Ty.int.pair jjs)
def AZ:Prop:=∀(d:LgD×Unit),Iq 1048576 [((Ty.int.pair ((Ty.int.slice.pair (Ty.int.pair (Ty.int.pair (Ty.int.slice.pair (Ty.bool.pair (Ty.int.pair Ty.unit)))))).slice.pair ((Ty.int.pair (Ty.int.pair (Ty.bool.pair Ty.unit))).slice.pair Ty.unit))).pair (jjs.slice.slice.pair (((Ty.int.pair (Ty.int.pair (Ty.int.pair jiN))).pair jiN).slice.pair (Ty.int.pair (Ty.int.pair ((Ty.int.pair (Ty.int.pair jiN)).slice.pair Ty.unit)))))).pair (Ty.int.slice.pair (Ty.int.slice.pair ((Ty.int.pair (Ty.int.pair (Ty.int.pair (Ty.int.pair (Ty.int.pair (Ty.int.pair (Ty.int.pair (Ty.int.pair (Ty.int.slice.pair (jjs.slice.pair Ty.unit)))))))))).pair (jiN.slice.pair Ty.unit))))] d->(PS d.1=true->(true,())=(true,()))/\(PS d.1=false->Jc d.1/\(w7 (wv d.1)).length<=100000/\(wo (wv d.1)).length<=1000000/\(decide (wT d.1≠wT d.1)=true->(false,())=(true,()))/\(decide (wT d.1≠wT d.1)=false->(w7 (wv d.1)).length<=100000/\(wo (wv d.1)).length<=1000000/\(w7 (wv d.1)).length<=100000/\(wo (wv d.1)).length<=1000000/\(tQ (FR d.1) (wX d.1)&&decide (wT d.1=wT d.1)&&decide (A3 d.1=oL d.1)&&decide (wT d.1=wT d.1)&&true,())=(true,())))
theorem jcv (l:LgD):FR l=wX l:=by
 unfold FR wX
 split
 rename_i h;exact D4 (dS h);rfl
theorem jcw (l:LgD):A3 l=oL l:=by
 unfold A3 oL
 split
 rename_i h;exact jco (dS h);rfl
theorem ZY:XO:=fun _ _ _ _ _ _=>rfl
theorem XP:wV PR 8 XN:=wK ZY Tryz.func8 (kcC Xb kcN) koN
theorem G0 {l:LgD} (h:PS l=false):Jc l:=by
 unfold PS at h;simp only[jR,jH] at h;obtain⟨⟨⟨⟨⟨a,b⟩,c⟩,d⟩,e⟩,f⟩:=h;exact⟨ZC a,by omega,by omega,by omega,by omega,by omega⟩
theorem XQ {l:LgD} (h:PS l=false):(w7 (wv l)).length<=100000/\(wo (wv l)).length<=1000000:=by
 have a:=(G0 h).1;have b:=a.2.2.2.1;have c:=a.2.2.1;omega
theorem I2:FK:=by
 rintro⟨a,b,⟨⟩⟩ _ l;refine⟨fun h=> ?_,fun h=>⟨⟨0,⟨⟨rfl,tZ⟩,tZ⟩,jl _,fun j k=>by omega⟩,fun x g f=>⟨fun c=>⟨jX _,ja c,jX _,?_,fun d=> ?_,fun d=> ?_⟩,fun c=> ?_⟩⟩⟩;have h:(a.length:Int)≠b.length:=ja h;have:¬a=b:=fun e=>h (by rw[e])
 show(false,())=(decide (a=b),());rw[zn this];have h:(a.length:Int)=b.length:=jN.1 (jc h);have c:(x:Int)<a.length:=ja c;show(x:Int)<b.length;omega;have d:nth a x≠nth b x:=ja d;have:¬a=b:=fun e=>d (by rw[e])
 show(false,())=(decide (a=b),());rw[zn this];have c:(x:Int)<a.length:=ja c;have d:nth a x=nth b x:=jN.1 (jc d);have f:a.length<4611686018427387904:=f;refine⟨iZ6,x+1,⟨⟨by simp,tZ⟩,tZ⟩,⟨by show x+1<=a.length;omega,fun j k=> ?_⟩,by show a.length-(x+1)<a.length-x;omega⟩;by_cases e:j=x;subst e;exact d;exact g.2 j (by omega);have h:(a.length:Int)=b.length:=jN.1 (jc h);have c:¬(x:Int)<a.length:=jc c;have e:a=b:=L.ext_nth (by omega) fun i hi=>g.2 i (by omega)
 show(true,())=(decide (a=b),());rw[jG e]
theorem oH:wV PR 27 FH:=qY FJ I2 Tryz.func27 kcN koN
theorem Rc {a b:List LnD} (h:¬a=b):(false,())=(tQ a b,()):=by
 unfold tQ;rw[@zn _ ((Ty.slice tLn).decEq a b) h]
theorem L8 {a b:List LnD} (h:a=b):tQ a b=true:= @jG _ ((Ty.slice tLn).decEq a b) h
theorem FL:Ei:=by
 rintro⟨a,b,⟨⟩⟩ _ l;refine⟨fun h=> ?_,fun h=>⟨⟨0,⟨⟨rfl,tZ⟩,tZ⟩,jl _,fun j k=>by omega⟩,fun x g f=>⟨fun d=>⟨jX _,ja d,jX _,?_,fun c=> ?_,fun c=> ?_⟩,fun d=> ?_⟩⟩⟩;have h:(a.length:Int)≠b.length:=ja h;exact Rc (a:=a) (b:=b) (fun e=>h (by rw[e]));have h:(a.length:Int)=b.length:=jN.1 (jc h);have d:(x:Int)<a.length:=ja d;show(x:Int)<b.length;omega;rw[jS] at c;have c:nth a x≠nth b x:= @jc _ _ c;exact Rc (a:=a) (b:=b) (fun e=>c (by rw[e]));have d:(x:Int)<a.length:=ja d;rw[zl] at c;have c:nth a x=nth b x:= @ja _ _ c;have f:a.length<4611686018427387904:=f;refine⟨iZ6,x+1,⟨⟨by simp,tZ⟩,tZ⟩,⟨by show x+1<=a.length;omega,fun j k=> ?_⟩,by show a.length-(x+1)<a.length-x;omega⟩;by_cases e:j=x;subst e;exact c;exact g.2 j (by omega);have h:(a.length:Int)=b.length:=jN.1 (jc h);have d:¬(x:Int)<a.length:=jc d;have e:a=b:=L.ext_nth (by omega) fun i hi=>g.2 i (by omega)
 show(true,())=(tQ a b,());rw[L8 e]
theorem Ej:wV PR 26 Eg:=qY Eh FL Tryz.func26 kcN koN
theorem L9:I1:=fun _=>rfl
theorem I3:wV PR 32 I0:=wK L9 Tryz.func32 (kcC Iw kcN) koN
theorem jcx:wT xN=0:=by decide+kernel
theorem jcy:A3 xN=[940,100]:=by decide+kernel
theorem jcz:Mo xN 2=[390,390,0,0]:=by decide+kernel
theorem jcA:FS xN 0 0=185:=by decide+kernel
theorem ZZ:Ms xN 0 0=0:=by decide+kernel
theorem Z0:Mr xN 0 0= -940:=by decide+kernel
theorem jd0:qG xN (yX xN 2)=0:=by decide+kernel
theorem jd1:qG xN (yX xN 0&&ga 0)=0:=by decide+kernel
theorem T8:PE:=by
 unfold PE jiM;intro _;have a:(w7 (wv xN)).length<=100000:=(by decide+kernel);refine⟨a,a,a,a,?_⟩;rw[jcx,jd0,jd1,ZZ,jcy,jcz,jcA,Z0];rfl
theorem PF:wV PR 9 PC:=wK T8 Tryz.func9 (kcC I3 (kcC Ef (kcC ZX (kcC T6 (kcC PB (kcC oH kcN)))))) koN
theorem Ek:AZ:=by
 unfold AZ jiN jjs;rintro⟨l,⟨⟩⟩ _;refine⟨fun _=>rfl,fun h=> ?_⟩;have h:PS l=false:=h;obtain⟨a,b⟩:=XQ h;refine⟨G0 h,a,b,fun c=>absurd rfl (ja c),fun _=>⟨a,b,a,b,?_⟩⟩;show(tQ (FR l) (wX l)&&decide (wT l=wT l)&&decide (A3 l=oL l)&&decide (wT l=wT l)&&true,())=(true,());rw[L8 (jcv l),jG (jcw l),jG rfl];rfl
theorem Ul:wV PR 5 AY:=wK Ek Tryz.func5 (kcC XP (kcC PF (kcC TS (kcC GS (kcC Ea (kcC T3 (kcC Ed (kcC Ef (kcC L3 (kcC Ej (kcC oH kcN))))))))))) koN
end Go.X
namespace Go.X
open U
open Go.Proofs
end Go.X
namespace Go.X
open U
open Go.Proofs
end Go.X
namespace Go.X
open U
open Go.Proofs Go.Proofs.YtacjhnpgiklpdaaGreatDoor
noncomputable def Z1:Array Field:=match Tryz.prog.underlying 63 with|some (.struct fs)=>fs|_=> #[]
theorem jd2:Tryz.prog.globalNamed "handshape/rosters.some"=some 0:=by kernel_rfl
theorem jd3:(Tryz.prog.globals[0]?).map (·.type)=some 63:=by kernel_rfl
theorem jfp:Tryz.prog.underlying 63=some (.struct Z1):=by kernel_rfl
theorem jfq:Tryz.prog.underlying 3=some (.int .i64):=by kernel_rfl
theorem jfs:Tryz.prog.cellsOf 3=1:=by kernel_rfl
noncomputable def dV (i:Nat):Bool:=match Z1[i]? with|some f=>Nat.beq f.type 3&&Nat.beq f.offset i|none=>false
theorem fields:(dV 0&&dV 1&&dV 2&&dV 3&&dV 4&&dV 5)=true:=by kernel_rfl
theorem Z2 {i:Nat} (h:dV i=true):∃f,Z1[i]? =some f/\f.type=3/\f.offset=i:=by
 unfold dV at h
 split at h
 rename_i f a;rw[ji] at h;exact⟨f,a,jb h.1,jb h.2⟩;cases h
theorem Z3 {H:Type} {enc:TypeId×Value->H} {w:World} {base:Nat} {sp:Nat->Bool} {a:Bool} {n:Nat} {cs:List Value} {xs:List (DataW H×List MemPlace)} {d:List Int} (o:xs.map (·.1)=d.map fun z=>(DataW.lit (.int .i64 z):DataW H))
 (k:∀(i:Nat) (f:Field),Z1[i]? =some f->DataW.trod enc Tryz.prog w base sp a n f.type ((cs.drop f.offset).take (Tryz.prog.cellsOf f.type))=xs[i]?) {i:Nat} {z:Int} (hi:dV i=true) (q:d[i]? =some z):cs[i]? =some (.int .i64 z):=by
 obtain⟨f,g,h,j⟩:=Z2 hi;have b:=k i f g;rw[h,j,jfs] at b;have c:(xs.map (·.1))[i]? =some (DataW.lit (.int .i64 z):DataW H):=(by rw[o,zS,q];rfl);rw[zS] at c;obtain⟨y,p,e⟩:=ki.1 c;rw[p] at b;obtain⟨m,l,rfl,_⟩:=DataW.trod_int jfq b;have e:m=z:=by
  have e:(DataW.lit (.int .i64 m):DataW H)=DataW.lit (.int .i64 z):=e;simpa only[DataW.lit.injEq,Lit.int.injEq,true_and] using e
 subst e;have:=jF (·[0]?) l;simpa[zQ,zh] using this
theorem jeO {W:World} (h:laidMet Tryz.prog [("handshape/rosters.some",Rows.laid_handshape_rosters_some)] W):ja2 (Hof W):=by
 obtain⟨ps,⟨H,E,cs,k,p,q,d,f,a,A,_,_⟩,_⟩:=h;obtain rfl:=Option.some.inj (jd2.symm.trans d);obtain rfl:=Option.some.inj (jd3.symm.trans f);obtain⟨xs,n,_,C,I,l,B⟩:=DataW.trod_struct jfp A;have j:xs.map (·.1)=[0,1,0,0,0,1].map fun z=>(DataW.lit (.int .i64 z):DataW Unit):=by
  have e:=jF Prod.fst C;have e:(DataW.agg [.lit (.int .i64 0),.lit (.int .i64 1),.lit (.int .i64 0),.lit (.int .i64 0),.lit (.int .i64 0),.lit (.int .i64 1)]:DataW Unit)= .agg (xs.map (·.1)):=e;simp only[DataW.agg.injEq] at e;exact e.symm
 have fs:=fields;simp only[ji] at fs;obtain⟨⟨⟨⟨⟨o,r⟩,s⟩,u⟩,v⟩,w⟩:=fs;have c:∀{i:Nat} {z:Int},dV i=true->([0,1,0,0,0,1]:List Int)[i]? =some z->cs[i]? =some (.int .i64 z):=fun hi D=>by
  have:=Z3 j B hi D;simpa using this
 unfold World.var? at a;rw[jd2] at a;intro g x b;have b:wH [(0,(⟨.st [.int,.int,.int,.int,.int,.int],((0:Int),(1:Int),(0:Int),(0:Int),(0:Int),(1:Int),())⟩:(t:Ty)×t.Data))] g=some x:=b;have y:Hof W 0=some (.cells cs):=by
  unfold Hof;simp only[Option.bind_some] at a
  split at a
  rename_i F E G e;rw[e];have:=Option.some.inj a;rw[this];cases a
 have m:=qJ _ _ _ b;simp only[kV,Prod.mk.injEq] at m;obtain⟨rfl,rfl⟩:=m;exact⟨cs,y,c o rfl,c r rfl,c s rfl,c u rfl,c v rfl,c w rfl,tZ⟩
end Go.X
