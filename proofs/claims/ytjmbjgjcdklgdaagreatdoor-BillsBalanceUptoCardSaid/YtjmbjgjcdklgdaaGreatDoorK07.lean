/-
  Part 7 of the road: a checked reading of bodies, and what the functions on it do (X25 X26 C5 PC15 C6 PC16 S6 S7 PC17 DM S8 S9 S10 VD VM VB V1 PV1 VE0 VE1 VE2 V3 PV3 O7 V5 PV5 V6 PV6 VBO DQ MQ LQ AQ NQ BQ OQ VQ1 PQ1 PR1 CQ TQ VQ2 PQ2 RQ PQ3 V4 PV4 V7 PV7 V8S V8 PV8 V9 PV9 VW1 PW1 VX1 PX1 VXB PXB LW).
-/
import Derived.Test.YtjmbjgjcdklgdaaGreatDoorK06
import Derived.Test.YtjmbjgjcdklgdaaGreatDoorRows
import Derived.WalkKit
import Derived.ProofKit
import Derived.OpenShut
import Derived.JoinedCond
import Derived.Carry
import Derived.ChangeArms
import Derived.Shelf.SlSortCmp.WholeK
import Derived.Test.YtjmbjgjcdklgdaaGreatDoorProg
import Derived.Test.YtjmbjgjcdklgdaaGreatDoorCards
import Derived.Test.YtjmbjgjcdklgdaaGreatDoorTie
import Derived.Deep.DeepHandedRow
import Derived.Lib.LaidTab
namespace Go.X
open U
open Go.RowKit (Below)
open Go.Proofs.YtjmbjgjcdklgdaaGreatDoor
def Hof (w:World):Imm:=fun b=>match w.heap[b]? with|some (.cells c _ _)=>some (.cells c)|_=>none
theorem XL (w:World) (d:Zn (Hof w)):eY (Hof w) w:=by
 refine⟨fun b c h=> ?_,d⟩;unfold Hof at h
 split at h
 rename_i f T a e;simp at h;subst h;exact⟨T,a,e⟩;cases h
def Ty.fits (N:Nat):(t:Ty)->t.Data->Prop
 | .int,x=>kK x
 | .bool,_=>True
 | .uint k,x=>k.min<=x/\x<=k.max
 | .slice t,l=>l.length<=N/\∀x∈l,t.fits N x
 | .unit,_=>True
 | .pair a b,d=>a.fits N d.1/\b.fits N d.2
 | .map k v,l=>l.length<=N/\∀x∈l,k.fits N x.1/\v.fits N x.2
 | .ptr t,d=>∀x,d=some x->t.fits N x
theorem Ty.fits_mono {N M:Nat} (h:N<=M):∀(t:Ty) (d:t.Data),t.fits N d->t.fits M d
 | .int,_,k=>k
 | .bool,_,k=>k
 | .uint _,_,k=>k
 | .unit,_,k=>k
 | .slice t,_,k=>⟨jD k.1 h,fun x c=>t.fits_mono h x (k.2 x c)⟩
 | .pair a b,_,k=>⟨a.fits_mono h _ k.1,b.fits_mono h _ k.2⟩
 | .map k v,_,q=>⟨jD q.1 h,fun x c=>⟨k.fits_mono h _ (q.2 x c).1,v.fits_mono h _ (q.2 x c).2⟩⟩
 | .ptr t,_,k=>fun x c=>t.fits_mono h x (k x c)
def jbW (P:Program) (go:Nat->Ty->Bool):List Field->Nat->Ty->Bool
 |[],_,.unit=>true
 |f::fs,off,.pair a b=>Nat.beq f.offset off&&Nat.beq (P.cellsOf f.type) a.size&&go f.type a&&jbW P go fs (off+a.size) b
 |_,_,_=>false
def jas (P:Program):Nat->Nat->Ty->Bool
 |0,_,_=>false
 |d+1,T,ty=>match ty,P.underlying T with
  | .int,some (.int .i64)=>true
  | .bool,some .bool=>true
  | .uint k,some (.int k')=>fG k k'
  | .slice t,some (.slice e)=>Nat.beq (P.cellsOf e) t.size&&Nat.ble 1 t.size&&jas P d e t
  | .pair a b,some (.struct fs)=>Nat.beq (P.cellsOf T) (Ty.pair a b).size&&jbW P (jas P d) fs.toList 0 (.pair a b)
  |_,_=>false
section
variable {P:Program} {K:Type} {enc:TypeId×Value->K} {w:World}
theorem jbX (d:DataW K):1<=Rows.uptoBulk d:=by
 cases d with
 |lit l=>cases l<;>simp[Rows.uptoBulk]
 |_=>simp[Rows.uptoBulk]
theorem KE (l:List (DataW K)):l.length<=Rows.uptoBulkAll l:=by
 induction l with
 |nil=>simp[Rows.uptoBulkAll]
 |cons x r a=>have:=jbX x;simp only[Rows.uptoBulkAll,jY];omega
theorem jat {d:DataW K} {l:List (DataW K)} (h:d∈l):Rows.uptoBulk d<=Rows.uptoBulkAll l:=by
 induction l with
 |nil=>cases h
 |cons x r a=>
  simp only[Rows.uptoBulkAll];cases jk.1 h with
  |inl e=>subst e;omega
  |inr e=>have:=a e;omega
theorem U3 {α:Type} {Q:Nat->α->Prop}:∀(n:Nat),(∀i,i<n->∃y,Q i y)->∃l:List α,l.length=n/\∀i y,l[i]? =some y->Q i y
 |0,_=>⟨[],rfl,fun i y h=>by simp at h⟩
 |n+1,h=>by
  obtain⟨l,b,c⟩:=U3 n (fun i hi=>h i (by omega))
  obtain⟨y,d⟩:=h n (by omega)
  refine⟨l++[y],by simp[b],fun i z a=> ?_⟩
  by_cases hi:i<l.length
  rw[jz hi] at a;exact c i z a
  rw[jx (by omega)] at a
  have:i=n:=by
   by_cases e:i-l.length=0;omega;obtain⟨k,hk⟩:∃k,i-l.length=k+1:=⟨i-l.length-1,by omega⟩;rw[hk] at a;simp at a
  subst this;rw[<-b] at a;simp at a;subst a;exact d
def jbY (P:Program) (w:World) (enc:TypeId×Value->K) (T:Nat) (ty:Ty):Prop:=
 ∀(a:Nat) (cs:List Value) (x:DataW K×List MemPlace),DataW.trod enc P w 0 (fun _=>true) true a T cs=some x->Rows.uptoBulk x.1<=1048576->
  ∃d:ty.Data,ty.rd (Hof w) (fun i=>cs[i]?) d/\cs.length=ty.size/\ty.fits (Rows.uptoBulk x.1) d
theorem jbZ {n:Int} (h:(Lit.int .i64 n).wf=true):kK n:=by
 simp[Lit.wf,IntKind.min,IntKind.max,IntKind.signed,IntKind.bits] at h;exact h
theorem xw {go:Nat->Ty->Bool} (c:∀T ty,go T ty=true->jbY P w enc T ty) {n:Nat} {cs:List Value}:
 ∀(fs:List Field) (off:Nat) (ty:Ty) (xs:List (DataW K×List MemPlace)),jbW P go fs off ty=true->xs.length=fs.length->
  (∀(i:Nat) (f:Field),fs[i]? =some f->DataW.trod enc P w 0 (fun _=>true) true n f.type ((cs.drop f.offset).take (P.cellsOf f.type))=xs[i]?)->Rows.uptoBulkAll (xs.map (·.1))<=1048576->
  ∃d:ty.Data,ty.rd (Hof w) (fun i=>cs[off+i]?) d/\ty.fits (Rows.uptoBulkAll (xs.map (·.1))) d
 |[],off,ty,xs,h,g,e,j=>by
  cases ty<;>simp[jbW] at h
  exact⟨(),trivial,trivial⟩
 |f::fs,off,ty,[],h,g,e,j=>by simp at g
 |f::fs,off,ty,x::xs,h,g,e,j=>by
  cases ty<;>simp[jbW] at h
  rename_i a b
  obtain⟨⟨⟨q,v⟩,r⟩,s⟩:=h
  simp only[zg,Rows.uptoBulkAll] at j
  have k:=e 0 f (by simp)
  simp only[List.getElem?_cons_zero] at k
  obtain⟨d,t,y,u⟩:=c _ _ r _ _ _ k (by omega)
  obtain⟨l,o,p⟩:=xw c fs (off+a.size) b xs s (by simpa using g) (fun i m hi=>by simpa using e (i+1) m (by simpa using hi)) (by omega)
  refine⟨(d,l),⟨?_,?_⟩,?_,?_⟩
  refine Ty.rd_congr a _ _ _ (fun i hi=> ?_) t
  rw[jR (by omega),zh,q]
  refine Ty.rd_congr b _ _ _ (fun i hi=> ?_) o
  rw[zK]
  exact a.fits_mono (by simp[Rows.uptoBulkAll]) _ u
  exact b.fits_mono (by simp[Rows.uptoBulkAll]) _ p
theorem pF:∀(d T:Nat) (ty:Ty),jas P d T ty=true->jbY P w enc T ty
 |0,_,_,h=>by cases h
 |d+1,T,ty,h=>by
  intro fuel cs x B r
  unfold jas at h
  split at h
  rename_i u
  obtain⟨n,rfl,rfl,H⟩:=DataW.trod_int u B
  exact⟨n,rfl,rfl,jbZ H⟩
  rename_i u
  obtain⟨b,rfl,rfl⟩:=DataW.trod_bool u B
  exact⟨b,rfl,rfl,trivial⟩
  rename_i k k' u
  obtain⟨n,rfl,rfl,H⟩:=DataW.trod_int u B
  have:k=k':=by simpa[fG] using h
  subst this
  refine⟨n,rfl,rfl,?_⟩
  simp[Lit.wf] at H
  exact H
  rename_i t e u
  simp only[ji] at h
  obtain⟨⟨L,M⟩,h3⟩:=h
  have e1:=jb L
  have e2:=jy M
  rcases DataW.trod_slice u B with⟨rfl,rfl⟩|⟨a,len,J,bw,rest,n,_,rfl,rfl,hb,hl,hm,A,D,_,_⟩
  refine⟨[],⟨none,0,0,rfl,rfl,jj _,by simp,fun _=>rfl,fun h=>absurd rfl h⟩,rfl,by simp,fun x B=>by simp at B⟩
  simp only[Rows.uptoBulk] at r
  have key:∀i,i<len->∃y:t.Data,(∃blk,Hof w a.block=some (.cells blk)/\a.spot=none/\t.rd (Hof w) (fun j=>blk[a.off+i*t.size+j]?) y)/\t.fits (Rows.uptoBulkAll (bw.map (·.1))) y:=by
   intro i hi;have h0:=D i hi;have X:bw[i]? =some bw[i]:=jp (by omega);rw[X,Option.bind_eq_some_iff] at h0;obtain⟨cl,c1,c2⟩:=h0;have Q:Rows.uptoBulk bw[i].1<=Rows.uptoBulkAll (bw.map (·.1)):=jat (jT.2 ⟨bw[i],List.getElem_mem _,rfl⟩);obtain⟨y,y1,y2,y3⟩:=pF d e t h3 _ _ _ c2 (by omega);unfold World.cells? at c1;rw[jd (jv _),e1] at c1;have z:∀j,j<t.size->w.cell? ((a.add (i*t.size)).add j)=cl[j]? :=fun j O=>by
    have:=mapM_some_get c1 j j (by simp[O]);simpa using this
   have N:cl.length=t.size:=(by simpa using mapM_some_length c1);have I:=z 0 (by omega);have g:cl[0]?≠none:=(by rw[jp (by omega)];simp);rw[<-I] at g;have m:∃blk T G,w.heap[a.block]? =some (.cells blk T G):=by
    unfold World.cell? at g;have q:((a.add (i*t.size)).add 0).block=a.block:=by unfold Addr.add;simp;split<;>rfl
    rw[q] at g
    split at g
    rename_i c T G e;exact⟨c,T,G,e⟩;exact absurd rfl g
   obtain⟨blk,T',G,m⟩:=m;have p:((a.add (i*t.size)).add 0).spot=none:=by
    unfold World.cell? at g;have q:((a.add (i*t.size)).add 0).block=a.block:=by unfold Addr.add;simp;split<;>rfl
    rw[q,m] at g;simp only at g;cases R:((a.add (i*t.size)).add 0).spot with
    |none=>rfl
    |some s=>rw[R] at g;simp at g
   have hH:Hof w a.block=some (.cells blk):=(by unfold Hof;rw[m]);refine⟨y,⟨blk,hH,?_,?_⟩,t.fits_mono Q _ y3⟩
   --the first element shows that the address is plain
   have C:=D 0 (by omega);have W:bw[0]? =some bw[0]:=jp (by omega);rw[W,Option.bind_eq_some_iff] at C;obtain⟨K,F,_⟩:=C;unfold World.cells? at F;rw[jd (jv _),e1] at F;have v:=mapM_some_get F 0 0 (by rw[List.getElem?_range (by omega)]);have hl0:K.length=t.size:=(by simpa using mapM_some_length F);rw[jp (by omega)] at v;simp only[Nat.zero_mul] at v;have ea:(a.add 0).add 0=a:=(by unfold Addr.add;simp);rw[ea] at v;unfold World.cell? at v;rw[m] at v;simp only at v;cases R:a.spot with
   |none=>rfl
   |some s=>rw[R] at v;simp at v
   refine Ty.rd_congr t _ _ _ (fun j O=> ?_) y1;rw[<-z j O];unfold World.cell?;have q:((a.add (i*t.size)).add j).block=a.block:=by unfold Addr.add;split<;>split<;>rfl
   have E:((a.add (i*t.size)).add j).off=a.off+i*t.size+j:=by
    unfold Addr.add;split<;>split<;>simp_all
   have V:((a.add (i*t.size)).add j).spot=none:=by
    have S:(a.add (i*t.size)).spot=none:=by
     have:(a.add (i*t.size)).add 0=a.add (i*t.size):=(by simp[Addr.add]);rw[this] at p;exact p
    unfold Addr.add at S⊢
    split<;>split<;>simp_all
   rw[q,m,E,V];simp
  obtain⟨l,l1,l2⟩:=U3 len key;refine⟨l,⟨some a,len,J,rfl,l1.symm,hl,?_,(fun h=>by cases h),fun g=> ?_⟩,rfl,?_,?_⟩;have:=KE (bw.map (·.1));simp at this;omega;have hz:0<l.length:=List.length_pos_iff.2 g;obtain⟨blk,q1,q2,_⟩:=(l2 0 l[0] (jp hz)).1;refine⟨a.block,a.off,blk,?_,q1,fun i y Z=> ?_⟩;rcases a with⟨b,o,s⟩;simp only at q2;subst q2;rfl;obtain⟨blk',q3,_,q4⟩:=(l2 i y Z).1;rw[q1] at q3;simp at q3;subst q3;exact q4;simp only[Rows.uptoBulk];have:=KE (bw.map (·.1));simp at this;omega;intro y Z;obtain⟨i,hi⟩:=zV Z;exact t.fits_mono (by simp only[Rows.uptoBulk];omega) _ (l2 i y hi).2;rename_i a b fs u;simp only[ji] at h;obtain⟨L,M⟩:=h;obtain⟨xs,n,_,rfl,A,Y,hf⟩:=DataW.trod_struct u B;simp only[Rows.uptoBulk] at r;obtain⟨y,y1,y2⟩:=xw (fun T ty h=>pF d T ty h) (n:=n) (cs:=cs) fs.toList 0 (.pair a b) xs M (by simpa using Y) (fun i f hi=>hf i f (by simpa using hi)) (by omega);refine⟨y,by simpa using y1,by rw[A];exact jb L,?_⟩;exact Ty.fits_mono (by simp only[Rows.uptoBulk];omega) (.pair a b) _ y2;cases h
end
end Go.X
namespace Go.X
open U
open Go.RowKit (Below)
open Go.ChangeShapes Go.WideShapes Go.ChangeAt Go.RowKit
open Go.Proofs.YtjmbjgjcdklgdaaGreatDoor
def HG (N:Nat):(ts:List Ty)->PD (ts.map Par.val)->Prop
 |[],_=>True
 |t::ts,d=>t.fits N d.1/\HG N ts d.2
def U4 (ts:List Ty):wi:=⟨ts.map Par.val,[.bool],false,fun d=>[HG 1048576 ts d],fun _=>(true,())⟩
def xy (P:Program):List Nat->List Ty->Bool
 |[],[]=>true
 |T::Ts,t::ts=>jas P 20 T t&&(P.readableRec T&&decide (T<P.types.size))&&xy P Ts ts
 |_,_=>false
section
variable {P:Program} {K:Type} {enc:TypeId×Value->K} {W W':World}
theorem sK (j:laidOutB P=true) (i:Below W.heap.size W W'):∀(a:List Nat) (ts:List Ty) (vs:List Value) (ds:List (DataW K)) (ps:List MemPlace),xy P a ts=true->
 DataW.TrodAll enc P W 0 (fun _=>true) true a vs ds ps->(∀x∈ps,x.block<W.heap.size)->DataW.TrodAll enc P W' 0 (fun b=>decide (b<W.heap.size)) true a vs ds ps
 |[],ts,vs,ds,ps,_,h,_=>by
  obtain⟨rfl,rfl,rfl⟩:=trodAll_nil h
  exact trodAll_mk0
 |T::a,[],vs,ds,ps,c,_,_=>by cases c
 |T::a,t::ts,vs,ds,ps,c,h,hlt=>by
  obtain⟨v,g,d,e,p,q,rfl,rfl,rfl,n,o⟩:=trodAll_cons h
  simp only[xy,ji] at c
  obtain⟨⟨_,k,l⟩,m⟩:=c
  exact trodAll_cons_mk (Below.trod j k (ja l) n i (fun x f=>hlt x (jh _ f)))
   (sK j i a ts g e q m o (fun x f=>hlt x (jg _ f)))
theorem jau {T:Nat} {t:Ty} {r:Reach} {c:Nat} {v:Value} (h:jas P 20 T t=true) (b:Value.okWide P W r c T v):vg v=t.agg:=by
 unfold jas at h
 split at h
 rename_i a;obtain⟨n,rfl⟩:=okWide_int a b;rfl;rename_i a;obtain⟨n,rfl⟩:=okWide_bool a b;rfl;rename_i a;obtain⟨n,rfl⟩:=okWide_int a b;rfl;rename_i a;unfold Value.okWide at b;rw[a] at b;simp only[Cell.okWide,a] at b;cases v with
 |agg vs=>simp[Cell.ok,a] at b
 |_=>rfl
 rename_i a;unfold Value.okWide at b;rw[a] at b;obtain⟨cs,rfl,_⟩:=b;rfl;cases h
theorem YW {r:Reach} {l:Nat}:∀(a:List Nat) (ts:List Ty) (vs:List Value) (ds:List (DataW K)) (ps:List MemPlace),xy P a ts=true->
 DataW.TrodAll enc P W 0 (fun _=>true) true a vs ds ps->(∀(j:Nat) t v,a[j]? =some t->vs[j]? =some v->Value.okWide P W r l t v)->Rows.uptoBulkAll ds<=1048576->
 ∃d:PD (ts.map Par.val),pvs P (Hof W) (ts.map Par.val) vs d/\HG 1048576 ts d
 |[],ts,vs,ds,ps,b,h,_,_=>by
  obtain⟨rfl,rfl,rfl⟩:=trodAll_nil h
  cases ts with
  |nil=>exact⟨(),rfl,trivial⟩
  |cons t ts=>cases b
 |T::a,[],vs,ds,ps,b,_,_,_=>by cases b
 |T::a,t::ts,vs,ds,ps,b,h,hv,hb=>by
  obtain⟨v,g,d,e,p,q,rfl,rfl,rfl,n,o⟩:=trodAll_cons h
  simp only[xy,ji] at b
  obtain⟨⟨k,_⟩,m⟩:=b
  simp only[Rows.uptoBulkAll] at hb
  obtain⟨c,s⟩:=n
  obtain⟨x,w,z,A⟩:=pF 20 T t k c _ _ s (by simp only;omega)
  obtain⟨y,B,C⟩:=YW a ts g e q m o (fun j t v u f=>hv (j+1) t v (by simpa using u) (by simpa using f)) (by omega)
  refine⟨(x,y),⟨⟨jau k (hv 0 T v rfl rfl),by simpa using z,?_⟩,B⟩,Ty.fits_mono (by simp only;omega) t x A,C⟩
  refine Ty.rd_congr t _ _ _ (fun i _=> ?_) w
  simp
theorem pG:∀(a:List Nat) (ts:List Ty) (vs:List Value) (ds:List (DataW K)) (ps:List MemPlace),xy P a ts=true->DataW.TrodAll enc P W 0 (fun _=>true) true a vs ds ps->ds.length=ts.length:=by
 intro a
 induction a with
 |nil=>intro ts vs ds ps b h;obtain⟨rfl,rfl,rfl⟩:=trodAll_nil h;cases ts with|nil=>rfl|cons=>cases b
 |cons T a g=>intro ts vs ds ps b h;cases ts with
  |nil=>cases b
  |cons t ts=>
   obtain⟨v,e,d,c,p,q,rfl,rfl,rfl,i,f⟩:=trodAll_cons h;simp only[xy,ji] at b;simp[g ts e c q b.2 f]
theorem YX {f:Nat} {fn:Func} {s:ChangeSpec} {ts:List Ty} (I:laidOutB P=true) (k:xy P fn.params.toList ts=true) (L:fn.resultTypes= #[4]) (D:P.underlying 4=some .bool)
 (a:s.vars=[]) (m:∀(ds:List (DataW K)),ds.length=ts.length->s.fn K (ds++[])={results:=[.lit (.bool true)],args:=ds})
 (G:wq P f (U4 ts)) (base:Nat) (args:Array Value) (ds o:List (DataW K)) (before:List MemPlace)
 (l:∀(j:Nat) t v,fn.params[j]? =some t->args[j]? =some v->Value.okWide P W .any base t v)
 (w:DataW.Whole enc P fn.params.toList s.vars false W args.toList ds o before) (hk:Rows.uptoSmall K (ds++o)=true) (E:Zn (Hof W)):
 Calls P f args W fun e W'=>∃v,e= .returned v/\s.post enc P fn false true false false W args v W':=by
 have b:=w;obtain⟨p,q,i,u,rfl,H,J⟩:=w;rw[a] at u;obtain⟨rfl,rfl⟩:=trodVars_none u;simp only[j9] at b hk;have c:Rows.uptoBulkAll ds<=1048576:=ja hk;have g:∀(j:Nat) t v,fn.params.toList[j]? =some t->args.toList[j]? =some v->Value.okWide P W .any base t v:=fun j t v B C=>l j t v (by simpa using B) (by simpa using C)
 obtain⟨d,z,A⟩:=YW fn.params.toList ts args.toList ds p k i g c;have y:=G.calls (Hof W) W args.toList d (XL W E) z ⟨A,trivial⟩;simp only[Array.toArray_toList] at y;refine y.mono fun e W' F=> ?_
 obtain⟨v,H',rfl,r,M⟩:=F;have n:v= .bool true:=qk M;subst n;refine⟨_,rfl,ds,[],p,[],p,[],b,?_,?_,?_,r.below.frame _,fun h=>by cases h⟩;rw[m ds ?_,L];exact trodAll_cons_mk (shut_bool D _) trodAll_mk0;exact pG _ _ _ _ _ k i;rw[m ds ?_];exact sK I r.below _ ts _ _ _ k i (fun x N=>by simpa using b.lt x N);exact pG _ _ _ _ _ k i;rw[a,m ds ?_];rfl;exact pG _ _ _ _ _ k i
end
end Go.X
namespace Go.X
open U
open Go.Proofs
namespace U
def jdn (p:PeD):Prop:=(lv p).length<=20/\(yU p).length<=30
def Ov (c:CrD):Prop:=(kE c).length<=20/\(v6 c).length<=20/\∀p∈kE c,jdn p
def Ow (d:DyD):Prop:=Ov (kG d)/\(wn d).length<=20/\(kC d).length<=20/\(qj d).length<=60/\∀r∈wn d,r.length<=20
def Lm (p:PeD):Bool:=decide (20<((lv p).length:Int))||decide (30<((yU p).length:Int))
def i8 (c:CrD):Bool:=(decide (20<((kE c).length:Int))||decide (20<((v6 c).length:Int)))||((kE c).any Lm||(kV c&&decide (5<((kE c).length:Int))))
def Ln (r:List SpD):Bool:=decide (20<(r.length:Int))
def bZ (d:DyD):Bool:=(((i8 (kG d)||decide (20<((wn d).length:Int)))||decide (20<((kC d).length:Int)))||decide (60<((qj d).length:Int)))||(wn d).any Ln
def It (d:DyD):Bool:=bZ d||(decide (dm d=0)&&decide (12<((qj d).length:Int)))
def jdG:CrD:=(3,[([5,4,0],3,15,[],false,50,()),([0,5,3],3,15,[],true,40,()),([4,0,4],1,3,[7],false,30,()),([3,3,3],255,1,[],false,10,())],[(2,1,false,()),(4,2,false,()),(3,2,true,()),(5,1,false,())],())
def Wj:List JbD:=[(0,2,7,1,2,1,()),(0,2,3,0,0,1,()),(0,2,7,1,1,1,())]
def jdH:DyD:=(jdG,[[(0,0,()),(10,20,())],[(10,25,()),(0,0,())]],[((0,2,3,0,0,1,()),0,60,120,()),((0,2,3,1,0,1,()),1,150,200,()),((0,2,7,1,2,1,()),0,230,300,())],10,140,
 [(1,5,1,0,3,()),(2,6,1,1,3,()),(3,4,1,2,2,()),(4,7,1,2,0,()),(5,8,1,2,1,()),(6,9,1,0,2,()),(7,10,2,0,2,())],())
end U
abbrev jeu (d:CrD×Unit)(x:Nat):=(nth d.1.2.1 (x:Int).toNat)
def Rs:Prop:=∀(d:CrD×Unit),Ov d.1->(0+d.1.2.2.1.length)*24<=140737488355328/\(∃(x:Nat),((0=(x:Int)/\True)/\(d.1.1=d.1.1/\True/\True/\True)/\List.take x (kE d.1)=[]/\True)/\x<=(kE d.1).length)/\∀(x:Nat),x<=(kE d.1).length->d.1.2.1.length<4611686018427387904->(decide ((x:Int)<d.1.2.1.length)=true->0<=(x:Int)/\(x:Int)<d.1.2.1.length/\(0+(jeu d x).1.length)*8<=140737488355328/\(0+(jeu d x).2.2.2.1.length)*8<=140737488355328/\((List.take x (kE d.1)).length+[([]++(jeu d x).1,(jeu d x).2.1,(jeu d x).2.2.1,[]++(jeu d x).2.2.2.1,(jeu d x).q4)].length)*80<=140737488355328/\kK ((x:Int)+1)/\∃(a:Nat),(((x:Int)+1=(a:Int)/\True)/\(d.1.1=d.1.1/\True/\True/\True)/\List.take x (kE d.1)++[([]++(jeu d x).1,(jeu d x).2.1,(jeu d x).2.2.1,[]++(jeu d x).2.2.2.1,(jeu d x).q4)]=List.take a (kE d.1)/\True)/\a<=(kE d.1).length/\(kE d.1).length-a<(kE d.1).length-x)/\(decide ((x:Int)<d.1.2.1.length)=false->((d.1.1,List.take x (kE d.1),[]++d.1.2.2.1,()),())=d)
abbrev jhM (d:DyD×Unit):=(d.1.1.1=d.1.1.1/\d.1.1.2.1=d.1.1.2.1/\d.1.1.2.2.1=d.1.1.2.2.1/\True/\d.1.2.2.1=d.1.2.2.1/\d.1.2.2.2.1=d.1.2.2.2.1/\d.1.q4.1=d.1.q4.1/\d.1.q4.2.1=d.1.q4.2.1/\True)
def Rt:Prop:=∀(d:DyD×Unit),Ow d.1->Ov d.1.1/\(∃(x:Nat),((0=(x:Int)/\True)/\(jhM d)/\List.take x (wn d.1)=[]/\True)/\x<=(wn d.1).length)/\∀(x:Nat),x<=(wn d.1).length->d.1.2.1.length<4611686018427387904->(decide ((x:Int)<d.1.2.1.length)=true->0<=(x:Int)/\(x:Int)<d.1.2.1.length/\(0+(nth d.1.2.1 (x:Int).toNat).length)*16<=140737488355328/\((List.take x (wn d.1)).length+[[]++nth d.1.2.1 (x:Int).toNat].length)*24<=140737488355328/\kK ((x:Int)+1)/\∃(a:Nat),(((x:Int)+1=(a:Int)/\True)/\(jhM d)/\List.take x (wn d.1)++[[]++nth d.1.2.1 (x:Int).toNat]=List.take a (wn d.1)/\True)/\a<=(wn d.1).length/\(wn d.1).length-a<(wn d.1).length-x)/\(decide ((x:Int)<d.1.2.1.length)=false->(0+d.1.2.2.1.length)*72<=140737488355328/\(0+d.1.q4.2.1.length)*40<=140737488355328/\((d.1.1,List.take x (wn d.1),[]++d.1.2.2.1,d.1.2.2.2.1,d.1.q4.1,[]++d.1.q4.2.1,()),())=d)
def U5:wi:=⟨[.val tCr],[.bool],false,fun _=>[],fun d=>(i8 d.1,())⟩
def U6:Ann:=fun r=>match r with
 |4=>some fun σ=>{X:=Nat,sl:=fun i=>[(3,.dat .int (i:Int))],ob:=fun _=>[],inv:=fun i=>i<=(kE (gb tCr σ 1)).length/\∀j:Nat,j<i->Lm (nth (kE (gb tCr σ 1)) j)=false,mu:=fun i=>(kE (gb tCr σ 1)).length-i}
 |_=>none
abbrev jgt (d:CrD×Unit)(x:Nat):=((20:Int)<(nth d.1.2.1 (x:Int).toNat).1.length)
abbrev jfh (d:CrD×Unit):=(d.1.2.1.length:Int)
abbrev jhN (d:CrD×Unit)(x:Nat):=(decide (jgt d x)||decide ((30:Int)<(nth d.1.2.1 (x:Int).toNat).2.2.2.1.length))
abbrev jhO (d:CrD×Unit):=(decide (20<(jfh d))||decide (20<(d.1.2.2.1.length:Int)))
def U7:Prop:=∀(d:CrD×Unit),d.1.2.1.length<4611686018427387904->((!decide (20<(jfh d)))=true->d.1.2.2.1.length<4611686018427387904)->((jhO d)=true->(true,())=(i8 d.1,()))/\((jhO d)=false->(∃(x:Nat),((0=(x:Int)/\True)/\True)/\x<=(kE d.1).length/\∀(j:Nat),j<x->Lm (nth (kE d.1) j)=false)/\∀(x:Nat),(x<=(kE d.1).length/\∀(j:Nat),j<x->Lm (nth (kE d.1) j)=false)->d.1.2.1.length<4611686018427387904->(decide ((x:Int)<(jfh d))=true->0<=(x:Int)/\(x:Int)<(jfh d)/\((nth d.1.2.1 (x:Int).toNat).1.length<4611686018427387904->((!decide (jgt d x))=true->0<=(x:Int))/\((!decide (jgt d x))=true->(x:Int)<(jfh d))/\(((!decide (jgt d x))=true->(nth d.1.2.1 (x:Int).toNat).2.2.2.1.length<4611686018427387904)->((jhN d x)=true->(true,())=(i8 d.1,()))/\((jhN d x)=false->kK ((x:Int)+1)/\∃(a:Nat),(((x:Int)+1=(a:Int)/\True)/\True)/\(a<=(kE d.1).length/\∀(j:Nat),j<a->Lm (nth (kE d.1) j)=false)/\(kE d.1).length-a<(kE d.1).length-x))))/\(decide ((x:Int)<(jfh d))=false->(kV d.1=true->d.1.2.1.length<4611686018427387904)->(kV d.1&&decide (5<(jfh d)),())=(i8 d.1,())))
def Ru:wi:=⟨[.val tDy],[.bool],false,fun _=>[],fun d=>(bZ d.1,())⟩
def Rv:Ann:=fun r=>match r with
 |4=>some fun σ=>{X:=Nat,sl:=fun i=>[(3,.dat .int (i:Int))],ob:=fun _=>[],inv:=fun i=>i<=(wn (gb tDy σ 1)).length/\∀j:Nat,j<i->Ln (nth (wn (gb tDy σ 1)) j)=false,mu:=fun i=>(wn (gb tDy σ 1)).length-i}
 |_=>none
abbrev jfB (d:DyD×Unit):=(d.1.2.1.length:Int)
abbrev jhP (d:DyD×Unit):=(i8 d.1.1||decide (20<(jfB d))||decide (20<(d.1.2.2.1.length:Int))||decide (60<(d.1.q4.2.1.length:Int)))
def Rw:Prop:=∀(d:DyD×Unit),((!i8 d.1.1)=true->d.1.2.1.length<4611686018427387904)->((!(i8 d.1.1||decide (20<(jfB d))))=true->d.1.2.2.1.length<4611686018427387904)->((!(i8 d.1.1||decide (20<(jfB d))||decide (20<(d.1.2.2.1.length:Int))))=true->d.1.q4.2.1.length<4611686018427387904)->((jhP d)=true->(true,())=(bZ d.1,()))/\((jhP d)=false->(∃(x:Nat),((0=(x:Int)/\True)/\True)/\x<=(wn d.1).length/\∀(j:Nat),j<x->Ln (nth (wn d.1) j)=false)/\∀(x:Nat),(x<=(wn d.1).length/\∀(j:Nat),j<x->Ln (nth (wn d.1) j)=false)->d.1.2.1.length<4611686018427387904->(decide ((x:Int)<(jfB d))=true->0<=(x:Int)/\(x:Int)<(jfB d)/\((nth d.1.2.1 (x:Int).toNat).length<4611686018427387904->(decide ((20:Int)<(nth d.1.2.1 (x:Int).toNat).length)=true->(true,())=(bZ d.1,()))/\(decide ((20:Int)<(nth d.1.2.1 (x:Int).toNat).length)=false->kK ((x:Int)+1)/\∃(a:Nat),(((x:Int)+1=(a:Int)/\True)/\True)/\(a<=(wn d.1).length/\∀(j:Nat),j<a->Ln (nth (wn d.1) j)=false)/\(wn d.1).length-a<(wn d.1).length-x)))/\(decide ((x:Int)<(jfB d))=false->(false,())=(bZ d.1,())))
def U8:wi:=⟨[.val tDy],[.bool],false,fun _=>[],fun d=>(It d.1,())⟩
def U9:Prop:=∀(d:DyD×Unit),((!bZ d.1)=true->(kC d.1).length<=1000000)/\(((!bZ d.1&&decide (dm d.1=0))=true->d.1.q4.2.1.length<4611686018427387904)->(bZ d.1||decide (dm d.1=0)&&decide (12<(d.1.q4.2.1.length:Int)),())=(It d.1,()))
def Ry:wi:=⟨[.val .int,.val .int],[tSp],false,fun _=>[],fun d=>((d.1,d.2.1,()),())⟩
def Rz:Prop:=∀(d:Int×Int×Unit),(d,())=(d,())
def HH:wi:=⟨[],[tCr,.slice tJb],false,fun _=>[],fun _=>(jdG,Wj,())⟩
def HI:Prop:=∀(_:Unit),(((3:Int),[([(5:Int),(4:Int),(0:Int)],(3:Int),(15:Int),[],false,(50:Int),()),([(0:Int),(5:Int),(3:Int)],(3:Int),(15:Int),[],true,(40:Int),()),([(4:Int),(0:Int),(4:Int)],(1:Int),(3:Int),[(7:Int)],false,(30:Int),()),([(3:Int),(3:Int),(3:Int)],(255:Int),(1:Int),[],false,(10:Int),())],[((2:Int),(1:Int),false,()),((4:Int),(2:Int),false,()),((3:Int),(2:Int),true,()),((5:Int),(1:Int),false,())],()),[((0:Int),(2:Int),(7:Int),(1:Int),(2:Int),(1:Int),()),((0:Int),(2:Int),(3:Int),(0:Int),(0:Int),(1:Int),()),((0:Int),(2:Int),(7:Int),(1:Int),(1:Int),(1:Int),())],())=(jdG,Wj,())
def HJ:wi:=⟨[],[tDy],false,fun _=>[],fun _=>(jdH,())⟩
abbrev jgu:=(nth Wj (Int.toNat 1))
def HK:Prop:=∀(_:Unit),(0:Int)<=1/\1<(Wj.length:Int)/\(0:Int)<=1/\1<(Wj.length:Int)/\(0:Int)<=0/\0<(Wj.length:Int)/\((jdG,[[((0:Int),(0:Int),()),((10:Int),(20:Int),())],[((10:Int),(25:Int),()),((0:Int),(0:Int),())]],[(nth Wj (Int.toNat 1),(0:Int),(60:Int),(120:Int),()),((jgu.1,jgu.2.1,jgu.2.2.1,(1:Int),jgu.q4),(1:Int),(150:Int),(200:Int),()),(nth Wj (Int.toNat 0),(0:Int),(230:Int),(300:Int),())],(10:Int),(140:Int),[((1:Int),(5:Int),(1:Int),(0:Int),(3:Int),()),((2:Int),(6:Int),(1:Int),(1:Int),(3:Int),()),((3:Int),(4:Int),(1:Int),(2:Int),(2:Int),()),((4:Int),(7:Int),(1:Int),(2:Int),(0:Int),()),((5:Int),(8:Int),(1:Int),(2:Int),(1:Int),()),((6:Int),(9:Int),(1:Int),(0:Int),(2:Int),()),((7:Int),(10:Int),(2:Int),(0:Int),(2:Int),())],()),())=(jdH,())
theorem jb0:Rs:=by
 unfold Rs jeu Prod.q4;rintro⟨c,⟨⟩⟩ g;obtain⟨m,j,a⟩:Ov c:=g;refine⟨by show(0+(v6 c).length)*24<=140737488355328;omega,⟨0,⟨⟨rfl,tZ⟩,⟨rfl,tZ,tZ,tZ⟩,rfl,tZ⟩,jv _⟩,fun x f _=>⟨fun h=> ?_,fun h=> ?_⟩⟩;have h:(x:Int)<(kE c).length:=ja h;have k:=L.kQ (l:=kE c) (i:=x) (by omega);obtain⟨s1,s2⟩:=a _ (L.kx (l:=kE c) (i:=x) (by omega));have d:((kE c).take x).length<=20:=(by rw[jX];omega);refine⟨jZ _,h,by show(0+(U.lv (nth (kE c) x)).length)*8<=140737488355328;omega,by show(0+(yU (nth (kE c) x)).length)*8<=140737488355328;omega,by show(((kE c).take x).length+1)*80<=140737488355328;omega,iZ6,x+1,⟨⟨by simp,tZ⟩,⟨rfl,tZ,tZ,tZ⟩,k.symm,tZ⟩,by show x+1<=(kE c).length;omega,by show(kE c).length-(x+1)<(kE c).length-x;omega⟩;have h:¬(x:Int)<(kE c).length:=je h;have f:x<=(kE c).length:=f;have b:x=(kE c).length:=(by omega);subst b;have e:(kE c).take (kE c).length=kE c:=zu;show((c.1,(kE c).take (kE c).length,c.2.2.1,()),())=(c,());rw[e];rfl
theorem jb1:Rt:=by
 unfold Rt jhM Prod.q4;rintro⟨d,⟨⟩⟩ g;obtain⟨k,o,j,n,a⟩:Ow d:=g;refine⟨k,⟨0,⟨⟨rfl,tZ⟩,⟨rfl,rfl,rfl,tZ,rfl,rfl,rfl,rfl,tZ⟩,rfl,tZ⟩,jv _⟩,fun x f _=>⟨fun h=> ?_,fun h=> ?_⟩⟩;have h:(x:Int)<(wn d).length:=ja h;have m:=L.kQ (l:=wn d) (i:=x) (by omega);have p:=a _ (L.kx (l:=wn d) (i:=x) (by omega));have c:((wn d).take x).length<=20:=(by rw[jX];omega);refine⟨jZ _,h,by show(0+(nth (wn d) x).length)*16<=140737488355328;omega,by show(((wn d).take x).length+1)*24<=140737488355328;omega,iZ6,x+1,⟨⟨by simp,tZ⟩,⟨rfl,rfl,rfl,tZ,rfl,rfl,rfl,rfl,tZ⟩,m.symm,tZ⟩,by show x+1<=(wn d).length;omega,by show(wn d).length-(x+1)<(wn d).length-x;omega⟩;have h:¬(x:Int)<(wn d).length:=je h;have f:x<=(wn d).length:=f;have b:x=(wn d).length:=(by omega);subst b;have e:(wn d).take (wn d).length=wn d:=zu;refine⟨by show(0+(kC d).length)*72<=140737488355328;omega,by show(0+(qj d).length)*40<=140737488355328;omega,?_⟩;show((kG d,(wn d).take (wn d).length,kC d,R9 d,jaZ d,qj d,()),())=(d,());rw[e];rfl
theorem XM:U7:=by
 unfold U7 jhO jhN jfh jgt;rintro⟨c,⟨⟩⟩ _ _;refine⟨fun h=> ?_,fun h=>⟨⟨0,⟨⟨rfl,tZ⟩,tZ⟩,jv _,fun j g=>by omega⟩,fun x f d=>⟨fun a=>⟨jZ _,ja a,fun _=>⟨fun _=>jZ _,fun _=>ja a,fun _=>⟨fun b=> ?_,fun b=> ?_⟩⟩⟩,fun a _=> ?_⟩⟩⟩;have h:(decide (20<((kE c).length:Int))||decide (20<((v6 c).length:Int)))=true:=h;show(true,())=(i8 c,());unfold i8;rw[h];rfl;have b:Lm (nth (kE c) x)=true:=b;have a:(x:Int)<(kE c).length:=ja a;have:(kE c).any Lm=true:=ze.2 ⟨_,L.kx (l:=kE c) (i:=x) (by omega),b⟩;show(true,())=(i8 c,());unfold i8;rw[this,Bool.true_or,Bool.or_true];have b:Lm (nth (kE c) x)=false:=b;have a:(x:Int)<(kE c).length:=ja a;have d:(kE c).length<4611686018427387904:=d;refine⟨iZ6,x+1,⟨⟨by simp,tZ⟩,tZ⟩,⟨by show x+1<=(kE c).length;omega,fun j g=> ?_⟩,by show(kE c).length-(x+1)<(kE c).length-x;omega⟩;by_cases e:j=x;subst e;exact b;exact f.2 j (by omega);have h:(decide (20<((kE c).length:Int))||decide (20<((v6 c).length:Int)))=false:=h;have a:¬(x:Int)<(kE c).length:=je a;have:(kE c).any Lm=false:=zq.2 fun p k=>by
  obtain⟨i,hi,rfl⟩:=L.mem_iff.1 k;rw[f.2 i (by omega)];simp
 show(kV c&&decide (5<((kE c).length:Int)),())=(i8 c,());unfold i8;rw[h,this,Bool.false_or,Bool.false_or]
theorem Va:wq PR 114 U5:=vN U6 XM Tryz.func114 (kcC xv kcN) koN
theorem Vb:Rw:=by
 unfold Rw jhP jfB Prod.q4;rintro⟨d,⟨⟩⟩ _ _ _;refine⟨fun h=> ?_,fun h=>⟨⟨0,⟨⟨rfl,tZ⟩,tZ⟩,jv _,fun j g=>by omega⟩,fun x f c=>⟨fun a=>⟨jZ _,ja a,fun _=>⟨fun b=> ?_,fun b=> ?_⟩⟩,fun a=> ?_⟩⟩⟩;have h:(((i8 (kG d)||decide (20<((wn d).length:Int)))||decide (20<((kC d).length:Int)))||decide (60<((qj d).length:Int)))=true:=h;show(true,())=(bZ d,());unfold bZ;rw[h];rfl;have b:Ln (nth (wn d) x)=true:=b;have a:(x:Int)<(wn d).length:=ja a;have:(wn d).any Ln=true:=ze.2 ⟨_,L.kx (l:=wn d) (i:=x) (by omega),b⟩;show(true,())=(bZ d,());unfold bZ;rw[this,Bool.or_true];have b:Ln (nth (wn d) x)=false:=b;have a:(x:Int)<(wn d).length:=ja a;have c:(wn d).length<4611686018427387904:=c;refine⟨iZ6,x+1,⟨⟨by simp,tZ⟩,tZ⟩,⟨by show x+1<=(wn d).length;omega,fun j g=> ?_⟩,by show(wn d).length-(x+1)<(wn d).length-x;omega⟩;by_cases e:j=x;subst e;exact b;exact f.2 j (by omega);have h:(((i8 (kG d)||decide (20<((wn d).length:Int)))||decide (20<((kC d).length:Int)))||decide (60<((qj d).length:Int)))=false:=h;have a:¬(x:Int)<(wn d).length:=je a;have:(wn d).any Ln=false:=zq.2 fun p k=>by
  obtain⟨i,hi,rfl⟩:=L.mem_iff.1 k;rw[f.2 i (by omega)];simp
 show(false,())=(bZ d,());unfold bZ;rw[h,this];rfl
theorem RA:wq PR 78 Ru:=vN Rv Vb Tryz.func78 (kcC Va kcN) koN
theorem Vc {c:CrD} (h:i8 c=false):Ov c:=by
 unfold i8 at h;rw[jS,jS,jS,jE] at h;have b:=je h.1.2;refine⟨by have:=h.1.1;omega,by omega,fun p a=> ?_⟩;have:=zq.1 h.2.1 p a;unfold Lm at this;rw[zy,decide_eq_true_iff,decide_eq_true_iff] at this;unfold jdn;omega
theorem Gb {d:DyD} (h:bZ d=false):Ow d:=by
 unfold bZ at h;rw[jS,jS,jS,jS] at h;obtain⟨⟨⟨⟨e,a⟩,b⟩,c⟩,f⟩:=h;have a:=je a;have b:=je b;have c:=je c;refine⟨Vc e,by omega,by omega,by omega,fun r g=> ?_⟩;have:=zq.1 f r g;unfold Ln at this;rw[decide_eq_true_iff] at this;omega
theorem XN:U9:=by
 unfold U9 Prod.q4;rintro⟨d,⟨⟩⟩;refine⟨fun h=> ?_,fun _=>rfl⟩;have h:(!bZ d)=true:=h;rw[jP] at h;have:=(Gb h).2.2.1;show(kC d).length<=1000000;omega
theorem Vd:wq PR 51 U8:=wb XN Tryz.func51 (kcC RA (kcC Dr kcN)) koN
theorem Ve:Rz:=fun _=>rfl
theorem RB:wq PR 80 Ry:=wb Ve Tryz.func80 kcN koN
theorem KF:HI:=fun _=>rfl
theorem HL:wq PR 79 HH:=wb KF Tryz.func79 kcN koN
theorem KG:HK:=by
 unfold HK jgu Prod.q4;intro _;refine⟨by decide,by decide,by decide,by decide,by decide,by decide,rfl⟩
theorem HM:wq PR 52 HJ:=wb KG Tryz.func52 (kcC HL (kcC RB kcN)) koN
theorem XO {d:DyD} (h:It d=false):Ow d:=by
 unfold It at h;rw[jS] at h;exact Gb h.1
end Go.X
namespace Go.X
open U
open Go.Proofs
section
attribute [local irreducible] tu iB U.on LF jcM
end
section
attribute [local irreducible] LF jcM
end
section
attribute [local irreducible] dm LF
end
end Go.X

namespace Go.X
open U
section
attribute [local irreducible] tu E4 iB
end
section
attribute [local irreducible] tu E4 iB
end
end Go.X
namespace Go.X
open U
open Go.Proofs
end Go.X




namespace Go.X
open U
abbrev tNo:Ty:= .st [.int,.int]
abbrev tTa:Ty:= .st [.int,.int,.int,.int,.int,.int,.int,.int,.slice .int,.slice tNo]
abbrev tCa:Ty:= .st [.int,.int,.int]
abbrev tLg:Ty:= .st [tDy,.slice .int,.slice .int,tTa,.slice tCa]
abbrev tLn:Ty:= .st [.int,.int,.int,.int,.int,.int]
abbrev tBl:Ty:= .st [tBk,tTa,.int,.int,.slice .int,.int,.int,.bool,.int]
abbrev tBo:Ty:= .st [tLg,.map .int (.ptr tBl)]
abbrev NoD:Type:=Int×Int×Unit
abbrev TaD:Type:=Int×Int×Int×Int×Int×Int×Int×Int×List Int×List NoD×Unit
abbrev CaD:Type:=Int×Int×Int×Unit
abbrev LgD:Type:=DyD×List Int×List Int×TaD×List CaD×Unit
abbrev LnD:Type:=Int×Int×Int×Int×Int×Int×Unit
abbrev BlD:Type:=BkD×TaD×Int×Int×List Int×Int×Int×Bool×Int×Unit
abbrev XbD:Type:=Int×Int×Int×Int×Int×Int×Int×Int×Int×Int×Int×Int×Int×Int×Int×Int×Int×List Int×List (Int×Int×Unit)×Int×Int×List Int×Int×Int×Bool×Int×Unit
abbrev BoD:Type:=LgD×List (Int×Option BlD)×Unit
namespace U
def Wk (n:NoD):Int:=n.1
def Y6 (n:NoD):Int:=n.2.1
def Wl (t:TaD):Int:=t.1
def jcu (t:TaD):Int:=t.2.1
def jcv (t:TaD):Int:=t.2.2.1
def Ym (t:TaD):Int:=t.2.2.2.1
def ja4 (t:TaD):Int:=t.2.2.2.2.1
def Wm (t:TaD):Int:=t.2.2.2.2.2.1
def jbl (t:TaD):Int:=t.2.2.2.2.2.2.1
def Sc (t:TaD):Int:=t.2.2.2.2.2.2.2.1
def bv (t:TaD):List Int:=t.2.2.2.2.2.2.2.2.1
def eZ (t:TaD):List NoD:=t.2.2.2.2.2.2.2.2.2.1
def Sq (c:CaD):Int:=c.1
def jcw (c:CaD):Int:=c.2.1
def Wn (c:CaD):Int:=c.2.2.1
def kA (l:LgD):DyD:=l.1
def yh (l:LgD):List Int:=l.2.1
def Gn (l:LgD):List Int:=l.2.2.1
def lc (l:LgD):TaD:=l.2.2.2.1
def wF (l:LgD):List CaD:=l.2.2.2.2.1
def dp (l:LnD):Int:=l.1
def m0 (l:LnD):Int:=l.2.1
def IB (l:LnD):Int:=l.2.2.1
def IC (l:LnD):Int:=l.2.2.2.1
def Ox (l:LnD):Int:=l.2.2.2.2.1
def Iu (l:LnD):Int:=l.2.2.2.2.2.1
def qp (b:BlD):BkD:=b.1
def yP (b:BlD):TaD:=b.2.1
def Oy (b:BlD):Int:=b.2.2.1
def LH (b:BlD):Int:=b.2.2.2.1
def w7 (b:BlD):List Int:=b.2.2.2.2.1
def pT (b:BlD):Int:=b.2.2.2.2.2.1
def E6 (b:BlD):Int:=b.2.2.2.2.2.2.1
def tE (b:BlD):Bool:=b.2.2.2.2.2.2.2.1
def pU (b:BlD):Int:=b.2.2.2.2.2.2.2.2.1
def gX (o:BoD):LgD:=o.1
def ID (o:BoD):List (Int×Option BlD):=o.2.1
def share (n:Int):Bool:=kl n 0 100
def Iv (last:Int) (n:NoD):Bool:=kl (Wk n) 0 (last-1)&&share (Y6 n)
def xC:Int->List NoD->Bool
 |_,[]=>true
 |last,n::r=>Iv last n&&xC (Wk n) r
def vu (t:TaD):Bool:=(kl (Wl t) 1 240&&kl (jcu t) 0 10000&&kl (jcv t) 0 20&&kl (Ym t) 0 1440&&kl (ja4 t) 0 (Ym t)&&share (Wm t)&&kl (jbl t) 0 10000)&&
 (decide ((bv t).length=4)&&(bv t).all share&&kl (Sc t) 0 1000000&&decide ((eZ t).length<=4)&&xC 100001 (eZ t))
def nP (n:Nat) (c:CaD):Bool:=(kl (Sq c) 0 99&&kl (jcw c) 0 ((n:Int)-1))&&kl (Wn c) (-100000) 1440
def Lo (n:Int):Bool:=kl n 0 20
def xD (n:Int):Bool:=kl n 0 300
def cm (l:LgD):Bool:=((decide ((yh l).length=(kC (kA l)).length)&&(yh l).all Lo)&&(decide ((Gn l).length=(kC (kA l)).length)&&(Gn l).all xD))&&
 (vu (lc l)&&(decide ((wF l).length<=10)&&(wF l).all (nP (kC (kA l)).length)))
def aM (l:List CaD) (i:Nat):Bool:=(l.take i).any (fun x=>decide (Sq x=Sq (nth l i))&& !decide (x=nth l i))
def DX (l:List CaD) (n:Nat):Bool:=(List.range n).any (aM l)
def b7 (l:List CaD):Bool:=DX l l.length
def wd (l:LgD):Int:=if k8 (kA l)≠0 then k8 (kA l) else if cm l=false then 70 else if b7 (wF l)=true then 71 else 0
def up (a b:Int):Int:=(a+b-1).tdiv b
def yE (m:Int) (b:BlD):BlD:=if m<=qx (qp b)/\(tE b=false\/m<pU b) then(qp b,yP b,Oy b,LH b,w7 b,pT b,E6 b,true,m,()) else b
def yG (b:BlD):Int:=max 0 (mY (qp b)-max (qx (qp b)) (Ym (yP b)))+max 0 (min (mY (qp b)) (ja4 (yP b))-qx (qp b))
def mr (b:BlD):Int:=(w7 b).length*jcu (yP b)*max (jcv (yP b)) (up (mY (qp b)-qx (qp b)) (Wl (yP b)))
def aY (b:BlD):Int:=mr b+up (mr b*Wm (yP b)*yG b) (100*(mY (qp b)-qx (qp b)))
def b8 (a:Int) (b:BlD):Int:=(w7 b).length*jbl (yP b)*a
def chargeB (a:Int) (b:BlD):BlD:=(qp b,yP b,Oy b,LH b,w7 b,aY b,b8 a b,tE b,pU b,())
def eU (b:BlD) (n:NoD):Bool:=decide (Wk n<=qx (qp b)-pU b)
def Sd (b:BlD):Int:=yq (eU b) (eZ (yP b))
def wQ (b:BlD):Int:=if tE b=true/\0<=Sd b then up (pT b*Y6 (nth (eZ (yP b)) (Sd b).toNat)) 100 else pT b
def qd (b:BlD):Int:=if tE b=true then 0 else E6 b
def om (b:BlD):Int:=min (Sc (yP b)) (((wQ b+qd b)*nth (bv (yP b)) (i9 (y8 (qp b))).toNat).tdiv 100)
def qh (b:BlD):LnD:=(LH b,Oy b,wQ b,qd b,om b,wQ b+qd b-om b,())
def yQ (m:Int) (b:BlD):Int:=Iu (qh (yE m b))
def E7 (b:BlD):Prop:=vu (yP b)=true/\0<=qx (qp b)/\qx (qp b)<mY (qp b)/\mY (qp b)<=1440/\0<=i9 (y8 (qp b))/\i9 (y8 (qp b))<=3/\(w7 b).length<=8/\-100000<=pU b/\pU b<=1440
def pP (b:BlD):Prop:=E7 b/\0<=pT b/\pT b<=100000000000000/\0<=E6 b/\E6 b<=1000000000
def wE (t:Int) (n:Nat):List Int:=((List.range n).filter (fun(p:Nat)=>qb t (p:Int))).map (fun(p:Nat)=>(p:Int))
def tw (l:LgD) (n:Int) (tm:List Int):BlD:=(nth (kC (kA l)) n.toNat,lc l,n,nth (yh l) n.toNat,tm,0,0,false,0,())
def wO (l:LgD) (n:Int) (k:Nat):List Int:=wE (nth (wZ (kA l)) n.toNat) k
def iG (l:LgD) (n:Int):BlD:=chargeB (nth (Gn l) n.toNat) (tw l n (wO l n (kE (kG (kA l))).length))
def tz (n:Int) (b:BlD) (c:CaD):BlD:=if jcw c=n then yE (Wn c) b else b
def kF (l:LgD) (n:Int) (k:Nat):BlD:=((wF l).take k).foldl (tz n) (iG l n)
def kZ (l:LgD) (n:Int):BlD:=kF l n (wF l).length
def ja5 (l:LgD) (m:List (Int×Option BlD)) (n:Int):List (Int×Option BlD):=fa .int n (some (kZ l n)) m
def AQ (l:LgD) (k:Nat):List (Int×Option BlD):=((km (kA l)).take k).foldl (ja5 l) []
def IE (l:LgD):List (Int×Option BlD):=AQ l (km (kA l)).length
def zDy:DyD:=((0,[],[],()),[],[],0,0,[],())
def zTa:TaD:=(0,0,0,0,0,0,0,0,[],[],())
def zLg:LgD:=(zDy,[],[],zTa,[],())
def jdo:BoD:=(zLg,[],())
def wo (l:LgD) (kJ:Bool):Int:=if wd l≠0 then wd l else if kJ=true then 0 else 1
def kD (l:LgD) (kJ:Bool):BoD:=if wo l kJ=0 then(l,IE l,()) else jdo
def w4 (o:BoD) (n:Int):Bool:=kl n 0 (((kC (kA (gX o))).length:Int)-1)
def qO (m:List (Int×Option BlD)):List LnD:=m.map (fun e=>match e.2 with|some b=>qh b|none=>default)
def uV (a b:LnD):Int:=yd [ca (dp a) (dp b),ca (m0 a) (m0 b)]
def kz (o:BoD):List LnD:=kr (ku tLn fun x=>(uV x.1 x.2.1,())) (qO (ID o))
def yW (l:List Int):Int:=l.foldl max (nth l 0)
def Iw (t:List Int) (x:LnD):List Int:=t.set (dp x).toNat (nth t (dp x).toNat+Iu x)
def vT (n:Nat) (l:List LnD) (k:Nat):List Int:=(l.take k).foldl Iw (List.replicate n 0)
def q7 (o:BoD):List Int:=if(yh (gX o)).length=0 then[] else vT (yW (yh (gX o))+1).toNat (kz o) (kz o).length
def m9 (a:Int) (tm:List Int) (out:List Int) (i:Nat):List Int:=out.set (nth tm i).toNat (nth out (nth tm i).toNat+a.tdiv tm.length+(if(i:Int)<a.tmod tm.length then 1 else 0))
def wh (a:Int) (tm out:List Int) (k:Nat):List Int:=(List.range k).foldl (m9 a tm) out
def Yn (a:Int) (b:BlD) (out:List Int):List Int:=wh a (w7 b) out (w7 b).length
def Se (n:Nat):Option BlD->List Int
 |some b=>Yn (qd b) b (Yn (wQ b) b (List.replicate n 0))
 |none=>List.replicate n 0
def Oz (o:BoD) (n:Int):Option BlD:=kY none (kN .int n (ID o))
def vw (o:BoD) (n:Int):List Int:=Se (kE (kG (kA (gX o)))).length (Oz o n)
end U
theorem XP {a b A B:Int} (d:0<=a/\a<=A) (c:0<=b/\b<=B):0<=a*b/\a*b<=A*B:=
 ⟨Int.mul_nonneg d.1 c.1,Int.mul_le_mul d.2 c.2 c.1 (by omega)⟩
theorem Dy {x B:Int} (h:0<=x/\x<=B) (a:B<=9223372036854775807):kK x:=iZ6
theorem jc6 {a b:Int} (c:0<=a) (d:0<b):U.up a b=(a+b-1)/b:=z7 (by omega)
theorem Vf {a b:Int} (e:0<=a) (c:0<b):0<=U.up a b/\U.up a b<=a:=by
 rw[jc6 e c];refine⟨Int.ediv_nonneg (by omega) (by omega),?_⟩;by_cases h:a=0;subst h;rw[Int.ediv_eq_zero_of_lt (by omega) (by omega)];omega;have g:0<=(a-1)*(b-1):=Int.mul_nonneg (by omega) (by omega);have d:a+b-1<(a+1)*b:=by
  have f:(a+1)*b=a*b+b:=(by rw[Int.add_mul];omega);have e2:(a-1)*(b-1)=a*b-a-b+1:=(by rw[Int.sub_mul,Int.mul_sub];omega);omega
 have:=Int.ediv_lt_of_lt_mul c d;omega
theorem XQ {a b A:Int} (c:0<=a/\a<=A) (f:0<b):0<=a.tdiv b/\a.tdiv b<=A:=by
 rw[z7 c.1];have d:=Int.ediv_nonneg c.1 (show 0<=b by omega);have e:=Int.ediv_le_self b c.1;exact⟨d,by omega⟩
theorem qm {n a b:Int}:kl n a b=true↔a<=n/\n<=b:=by
 unfold kl;simp only[ji,jr]
structure jc7 (t:TaD):Prop where
 un:1<=Wl t/\Wl t<=240
 rt:0<=jcu t/\jcu t<=10000
 le:0<=jcv t/\jcv t<=20
 dk:0<=Ym t/\Ym t<=1440
 dw:0<=ja4 t/\ja4 t<=Ym t
 ni:0<=Wm t/\Wm t<=100
 mi:0<=jbl t/\jbl t<=10000
 sl:(bv t).length=4
 sb:∀n∈bv t,0<=n/\n<=100
 cp:0<=Sc t/\Sc t<=1000000
 nl:(eZ t).length<=4
 no:xC 100001 (eZ t)=true
theorem PG {t:TaD}:vu t=true↔jc7 t:=by
 unfold vu U.share;simp only[ji,qm,jr,j8];constructor;rintro⟨⟨⟨⟨⟨⟨⟨d,e⟩,f⟩,g⟩,h⟩,i⟩,j⟩,⟨⟨⟨k,l⟩,a⟩,b⟩,c⟩;exact⟨d,e,f,g,h,i,j,k,l,a,b,c⟩;rintro⟨d,e,f,g,h,i,j,k,l,a,b,c⟩;exact⟨⟨⟨⟨⟨⟨⟨d,e⟩,f⟩,g⟩,h⟩,i⟩,j⟩,⟨⟨⟨k,l⟩,a⟩,b⟩,c⟩
theorem HN:∀{last:Int} {l:List NoD},xC last l=true->∀n∈l,(0<=Wk n/\Wk n<=last-1)/\0<=Y6 n/\Y6 n<=100
 |_,[],_,n,a=>by cases a
 |last,m::r,h,n,a=>by
  unfold xC Iv U.share at h
  simp only[ji,qm] at h
  obtain⟨⟨b,c⟩,d⟩:=h
  rcases jk.1 a with rfl|a
  exact⟨b,c⟩
  have:=HN d n a
  exact⟨⟨this.1.1,by omega⟩,this.2⟩
structure Dz (b:BlD):Prop where
 ta:jc7 (yP b)
 st:0<=qx (qp b)
 en:qx (qp b)<mY (qp b)
 e2:mY (qp b)<=1440
 kd:0<=i9 (y8 (qp b))/\i9 (y8 (qp b))<=3
 tm:(w7 b).length<=8
 mi: -100000<=pU b/\pU b<=1440
theorem sL {b:BlD}:E7 b↔Dz b:=by
 unfold E7;rw[PG];exact⟨fun⟨a,c,d,e,f,g,h,i,j⟩=>⟨a,c,d,e,⟨f,g⟩,h,⟨i,j⟩⟩,fun⟨a,c,d,e,⟨f,g⟩,h,⟨i,j⟩⟩=>⟨a,c,d,e,f,g,h,i,j⟩⟩
theorem PH {b:BlD} (h:Dz b):0<=yG b/\yG b<=2880:=by
 have:=h.st;have:=h.en;have:=h.e2;have:=h.ta.dk;have:=h.ta.dw;unfold yG;omega
theorem jb2 {b:BlD} (h:Dz b):0<=U.up (mY (qp b)-qx (qp b)) (Wl (yP b))/\U.up (mY (qp b)-qx (qp b)) (Wl (yP b))<=1440:=by
 have:=h.st;have:=h.en;have:=h.e2;have:=h.ta.un;have:=Vf (a:=mY (qp b)-qx (qp b)) (b:=Wl (yP b)) (by omega) (by omega);omega
theorem jb3 {b:BlD} (h:Dz b):0<=((w7 b).length:Int)*jcu (yP b)/\((w7 b).length:Int)*jcu (yP b)<=80000:=
 XP (A:=8) (B:=10000) (by have:=h.tm;omega) h.ta.rt
theorem NF {b:BlD} (h:Dz b):0<=mr b/\mr b<=115200000:=by
 have c:=jb2 h;have d:=h.ta.le;have a:0<=max (jcv (yP b)) (U.up (mY (qp b)-qx (qp b)) (Wl (yP b)))/\max (jcv (yP b)) (U.up (mY (qp b)-qx (qp b)) (Wl (yP b)))<=1440:=(by omega);exact XP (jb3 h) a
theorem jb4 {b:BlD} (h:Dz b):0<=mr b*Wm (yP b)/\mr b*Wm (yP b)<=11520000000:=XP (NF h) h.ta.ni
theorem YY {b:BlD} (h:Dz b):0<=mr b*Wm (yP b)*yG b/\mr b*Wm (yP b)*yG b<=33177600000000:=XP (jb4 h) (PH h)
theorem jb5 {b:BlD} (h:Dz b):0<100*(mY (qp b)-qx (qp b))/\100*(mY (qp b)-qx (qp b))<=144000:=by
 have:=h.st;have:=h.en;have:=h.e2;omega
theorem jb6 {b:BlD} (h:Dz b):0<=U.up (mr b*Wm (yP b)*yG b) (100*(mY (qp b)-qx (qp b)))/\U.up (mr b*Wm (yP b)*yG b) (100*(mY (qp b)-qx (qp b)))<=33177600000000:=by
 have a:=YY h;have:=Vf a.1 (jb5 h).1;omega
theorem Vg {b:BlD} (h:Dz b):0<=aY b/\aY b<=100000000000000:=by
 have a:=NF h;have c:=jb6 h;unfold aY;omega
theorem jb7 {b:BlD} (h:Dz b):0<=((w7 b).length:Int)*jbl (yP b)/\((w7 b).length:Int)*jbl (yP b)<=80000:=
 XP (A:=8) (B:=10000) (by have:=h.tm;omega) h.ta.mi
theorem Vh {b:BlD} {t:Int} (h:Dz b) (a:0<=t/\t<=300):0<=b8 t b/\b8 t b<=24000000:=XP (jb7 h) a
theorem KH {α:Type} [Inhabited α] {p:α->Bool} {l:List α} (h:0<=yq p l):(yq p l).toNat<l.length/\yq p l<(l.length:Int)/\p (nth l (yq p l).toNat)=true:=by
 unfold yq at h⊢;cases e:l.findIdx? p with
 |none=>rw[e] at h;exact absurd h (by decide)
 |some i=>
  obtain⟨a,b,_⟩:=z6.1 e;simp only[ju];refine⟨a,by omega,?_⟩;rw[L.wB a];exact b
structure Iz (b:BlD):Prop where
 bl:Dz b
 wk:0<=pT b/\pT b<=100000000000000
 tr:0<=E6 b/\E6 b<=1000000000
theorem ac {b:BlD}:pP b↔Iz b:=by
 unfold pP;rw[sL];exact⟨fun⟨a,c,d,e,f⟩=>⟨a,⟨c,d⟩,⟨e,f⟩⟩,fun⟨a,⟨c,d⟩,⟨e,f⟩⟩=>⟨a,c,d,e,f⟩⟩
theorem PI {b:BlD} (h:Iz b) {i:Nat} (hi:i<(eZ (yP b)).length):0<=pT b*Y6 (nth (eZ (yP b)) i)/\pT b*Y6 (nth (eZ (yP b)) i)<=10000000000000000:=
 XP h.wk (HN h.bl.ta.no _ (L.kx hi)).2
theorem sM {b:BlD} (h:Iz b):0<=wQ b/\wQ b<=10000000000000000:=by
 unfold wQ
 split
 rename_i c;have a:=PI h (KH c.2).1;have:=Vf (b:=100) a.1 (by omega);have e:U.up (pT b*Y6 (nth (eZ (yP b)) (Sd b).toNat)) 100<=pT b*Y6 (nth (eZ (yP b)) (Sd b).toNat):=this.2;exact⟨this.1,Int.le_trans e a.2⟩;have:=h.wk;omega
theorem sN {b:BlD} (h:Iz b):0<=qd b/\qd b<=1000000000:=by
 unfold qd;have:=h.tr
 split<;>omega
theorem Vi {b:BlD} (h:Dz b):(i9 (y8 (qp b))).toNat<(bv (yP b)).length:=by
 have:=h.kd;have:=h.ta.sl;omega
theorem Vj {b:BlD} (h:Dz b):0<=nth (bv (yP b)) (i9 (y8 (qp b))).toNat/\nth (bv (yP b)) (i9 (y8 (qp b))).toNat<=100:=h.ta.sb _ (L.kx (Vi h))
theorem NG {w t cp pc k:Int} {n:Nat} {R:Prop} (i:0<=w/\w<=10000000000000000) (h:0<=t/\t<=1000000000) (g:0<=cp/\cp<=1000000) (e:0<=pc/\pc<=100) (hk:0<=k) (d:k<(n:Int)) (c:R):
 kK (w+t)/\0<=k/\k<(n:Int)/\kK ((w+t)*pc)/\(100:Int)≠0/\kK (((w+t)*pc).tdiv 100)/\kK (w+t)/\kK (w+t-min cp (((w+t)*pc).tdiv 100))/\R:=by
 have a:0<=(w+t)*pc/\(w+t)*pc<=10000001000000000*100:=XP (by omega) e;have f:=XQ (b:=100) a (by omega);exact⟨iZ6,hk,d,iZ6,by decide,iZ6,iZ6,iZ6,c⟩
theorem XR {b:BlD} {m:Int} (h:Dz b) (a: -100000<=m/\m<=1440):Dz (yE m b):=by
 unfold yE
 split
 exact⟨h.ta,h.st,h.en,h.e2,h.kd,h.tm,a⟩;exact h
theorem HO {b:BlD} {m:Int} (h:Iz b) (a: -100000<=m/\m<=1440):Iz (yE m b):=by
 refine⟨XR h.bl a,?_,?_⟩;unfold yE
 split
 exact h.wk;exact h.wk;unfold yE
 split
 exact h.tr;exact h.tr
theorem PJ {β:Type} (k:Int) (v:β):∀m:List (Int×β),k∉m.map (·.1)->fa .int k v m=m++[(k,v)]
 |[],_=>rfl
 |e::r,h=>by
  have a:k≠e.1:=fun e2=>h (by rw[e2];simp)
  have b:k∉r.map (·.1):=fun d=>h (by simp only[zg];exact jm _ d)
  rw[M.mput_cons (kt:= .int),jc (fun c=>a (ja c)),PJ k v r b];rfl
theorem NH (d:DyD) (n:Nat):(y6 d n).Nodup:=by
 unfold y6;exact zL.2 ((List.nodup_range.filter _).imp fun h e=>h (by omega))
theorem mT (d:DyD):(km d).Nodup:=by
 unfold km
 split
 exact NH d _;exact List.nodup_nil
theorem HP {d:DyD} {n:Int} (h:n∈km d):0<=n/\n<((kC d).length:Int):=by
 unfold km at h
 split at h
 unfold y6 at h;obtain⟨b,a,rfl⟩:=jT.1 h;have:=jC.1 (jO.1 a).1;omega;cases h
theorem KI {l:LgD} {k:Nat} (h:k<(km (kA l)).length):AQ l (k+1)=ja5 l (AQ l k) (nth (km (kA l)) k):=by
 unfold AQ;rw[L.kQ h,jL];rfl
theorem Vk (l:LgD):∀k,k<=(km (kA l)).length->AQ l k=((km (kA l)).take k).map (fun n=>(n,some (kZ l n)))
 |0,_=>rfl
 |k+1,hk=>by
  have a:k<(km (kA l)).length:=by omega
  have d:=L.kQ a
  have b:((km (kA l)).take (k+1)).Nodup:=(mT _).sublist (List.take_sublist _ _)
  rw[d,zG] at b
  rw[KI a,Vk l k (by omega),d,zi]
  unfold ja5
  refine PJ _ _ _ fun c=> ?_
  rw[kg] at c
  obtain⟨x,f,e⟩:=jT.1 c
  have e:x=nth (km (kA l)) k:=e
  exact b.2.2 x f _ (by simp) e
theorem DA (l:LgD):IE l=(km (kA l)).map (fun n=>(n,some (kZ l n))):=by
 unfold IE;rw[Vk l _ (jj _),zu]
structure mc (l:LgD):Prop where
 cp:k8 (kA l)=0
 crw:kV (kG (kA l))=true
 jbs:Lg (kA l)=true
 dy:wK (kA l)=true
 py:(yh l).length=(kC (kA l)).length/\∀n∈yh l,0<=n/\n<=20
 tr:(Gn l).length=(kC (kA l)).length/\∀n∈Gn l,0<=n/\n<=300
 ta:jc7 (lc l)
 cl:(wF l).length<=10/\∀c∈wF l,(0<=Sq c/\Sq c<=99)/\(0<=jcw c/\jcw c<=((kC (kA l)).length:Int)-1)/\-100000<=Wn c/\Wn c<=1440
 cc:b7 (wF l)=false
theorem RC {d:DyD} (h:k8 d=0):kV (kG d)=true/\Lg d=true/\wK d=true:=by
 unfold k8 at h
 split at h
 rename_i a;exact absurd h a;rename_i a
 split at h
 cases h;rename_i b;have a:uU d=0:=jQ.1 a;unfold uU at a
 split at a
 cases a;rename_i c
 split at a
 cases a;rename_i e;exact⟨by simpa using c,by simpa using e,by simpa using b⟩
theorem cW {l:LgD} (h:wd l=0):mc l:=by
 unfold wd at h
 split at h
 rename_i a;exact absurd h a;rename_i a;have a:k8 (kA l)=0:=jQ.1 a
 split at h
 cases h;rename_i b
 split at h
 cases h;rename_i d;have b:cm l=true:=(by simpa using b);have d:b7 (wF l)=false:=(by simpa using d);obtain⟨p,q,r⟩:=RC a;unfold cm at b;simp only[ji,jr,j8] at b;obtain⟨⟨⟨f,g⟩,i,j⟩,k,m,o⟩:=b;refine⟨a,p,q,r,⟨f,fun n e=>qm.1 (g n e)⟩,⟨i,fun n e=>qm.1 (j n e)⟩,PG.1 k,⟨m,fun c s=> ?_⟩,d⟩;have:=o c s;unfold nP at this;simp only[ji,qm] at this;exact⟨this.1.1,this.1.2,this.2⟩
theorem KJ {l:LgD} (h:mc l) {n:Int} (e:0<=n/\n<((kC (kA l)).length:Int)):
 (0<=qx (nth (kC (kA l)) n.toNat)/\qx (nth (kC (kA l)) n.toNat)<mY (nth (kC (kA l)) n.toNat)/\mY (nth (kC (kA l)) n.toNat)<=1440)/\
 0<=i9 (y8 (nth (kC (kA l)) n.toNat))/\i9 (y8 (nth (kC (kA l)) n.toNat))<=3:=by
 have d:nth (kC (kA l)) n.toNat∈kC (kA l):=L.kx (by omega);have c:=h.dy;unfold wK at c;simp only[ji,j8] at c;have b:=c.2.2.1 _ d;unfold mj at b;have b:=ja b;have a:=h.jbs;unfold Lg at a;have a:=j8.1 a _ d;unfold w6 at a;have a:=ja a;exact⟨⟨b.2.2.1,b.2.2.2.1,b.2.2.2.2⟩,a.2.2.2.2.2.2.2.2.2.1,a.2.2.2.2.2.2.2.2.2.2.1⟩
theorem PK {l:LgD} (h:mc l) {n:Int} (e:0<=n/\n<((kC (kA l)).length:Int)) {tm:List Int} (f:tm.length<=8):Dz (tw l n tm):=by
 obtain⟨⟨a,b,c⟩,d⟩:=KJ h e;exact⟨h.ta,a,b,c,d,f,by show-100000<=(0:Int)/\(0:Int)<=1440;omega⟩
theorem sO (t:Int) (n:Nat):(wE t n).length<=n/\∀p∈wE t n,0<=p/\p<(n:Int):=by
 unfold wE;refine⟨?_,fun p c=> ?_⟩;rw[zf];exact jD (kc _ _) (by rw[zp];exact jj _);obtain⟨b,a,rfl⟩:=jT.1 c;have:=jC.1 (jO.1 a).1;omega
theorem jb8 {l:LgD} (h:mc l):(kE (kG (kA l))).length<=8:=by
 have a:=h.crw;unfold kV at a;rw[ji] at a;exact(ja a.1).2.2.1
theorem PL {l:LgD} (h:mc l) {n:Int} (d:0<=n/\n<((kC (kA l)).length:Int)):Iz (iG l n):=by
 have g:=jb8 h;have f:=(sO (nth (wZ (kA l)) n.toNat) (kE (kG (kA l))).length).1;have a:Dz (tw l n (wO l n (kE (kG (kA l))).length)):=PK h d (by unfold wO;omega);have e:=h.tr.2 _ (L.kx (show n.toNat<(Gn l).length by rw[h.tr.1];omega));have c:=Vg a;have b:=Vh a e;exact⟨⟨a.ta,a.st,a.en,a.e2,a.kd,a.tm,a.mi⟩,c,⟨b.1,Int.le_trans b.2 (by decide)⟩⟩
theorem cF {l:LgD} {n:Int} {k:Nat} (h:k<(wF l).length):kF l n (k+1)=tz n (kF l n k) (nth (wF l) k):=by
 unfold kF;rw[L.kQ h,jL];rfl
theorem Gc {l:LgD} (h:mc l) {n:Int} (a:0<=n/\n<((kC (kA l)).length:Int)):∀k,k<=(wF l).length->Iz (kF l n k)
 |0,_=>PL h a
 |k+1,hk=>by
  rw[cF (by omega)]
  unfold tz
  have b:=Gc h a k (by omega)
  split
  exact HO b (h.cl.2 _ (L.kx (show k<(wF l).length by omega))).2.2
  exact b
theorem DB {l:LgD} (h:mc l) {n:Int} (a:0<=n/\n<((kC (kA l)).length:Int)):Iz (kZ l n):=Gc h a _ (jj _)
theorem RE (m:Int) (b:BlD):qp (yE m b)=qp b/\yP (yE m b)=yP b/\Oy (yE m b)=Oy b/\LH (yE m b)=LH b/\w7 (yE m b)=w7 b/\pT (yE m b)=pT b/\E6 (yE m b)=E6 b:=by
 unfold yE
 split
 exact⟨rfl,rfl,rfl,rfl,rfl,rfl,rfl⟩;exact⟨rfl,rfl,rfl,rfl,rfl,rfl,rfl⟩
theorem qD (l:LgD) (n:Int):∀k,k<=(wF l).length->qp (kF l n k)=qp (iG l n)/\yP (kF l n k)=yP (iG l n)/\Oy (kF l n k)=Oy (iG l n)/\LH (kF l n k)=LH (iG l n)/\w7 (kF l n k)=w7 (iG l n)/\
 pT (kF l n k)=pT (iG l n)/\E6 (kF l n k)=E6 (iG l n)
 |0,_=>⟨rfl,rfl,rfl,rfl,rfl,rfl,rfl⟩
 |k+1,hk=>by
  rw[cF (by omega)]
  unfold tz
  have a:=qD l n k (by omega)
  split
  obtain⟨c1,c2,b,c,d,e,f⟩:=RE (Wn (nth (wF l) k)) (kF l n k)
  rw[c1,c2,b,c,d,e,f];exact a
  exact a
open Go.Proofs
abbrev blS:Sh:= .box 98 [.dat .int,.dat .int,.dat .int,.dat .int,.dat .int,.dat .int,.dat .int,.dat .int,.dat .int,.dat .int,.dat .int,.dat .int,.dat .int,.dat .int,.dat .int,.dat .int,.dat .int,.dat (.slice .int),.dat (.slice tNo),.dat .int,.dat .int,.dat (.slice .int),.dat .int,.dat .int,.dat .bool,.dat .int]
def blX (x:Sh.D blS) (w t:Int) (c:Bool) (m:Int):Sh.D blS:=(x.1,x.2.1,x.2.2.1,x.2.2.2.1,x.q4.1,x.q4.2.1,x.q4.2.2.1,x.q4.2.2.2.1,x.q4.q4.1,x.q4.q4.2.1,x.q4.q4.2.2.1,x.q4.q4.2.2.2.1,x.q4.q4.q4.1,x.q4.q4.q4.2.1,x.q4.q4.q4.2.2.1,x.q4.q4.q4.2.2.2.1,x.q4.q4.q4.q4.1,x.q4.q4.q4.q4.2.1,x.q4.q4.q4.q4.2.2.1,x.q4.q4.q4.q4.2.2.2.1,x.q4.q4.q4.q4.q4.1,x.q4.q4.q4.q4.q4.2.1,w,t,c,m,())
namespace U
def qy (x:Sh.D blS):BlD:=
 (((x.1,x.2.1,x.2.2.1,x.2.2.2.1,x.q4.1,x.q4.2.1,()),x.q4.2.2.1,x.q4.2.2.2.1,x.q4.q4.1,()),
  (x.q4.q4.2.1,x.q4.q4.2.2.1,x.q4.q4.2.2.2.1,x.q4.q4.q4.1,x.q4.q4.q4.2.1,x.q4.q4.q4.2.2.1,x.q4.q4.q4.2.2.2.1,x.q4.q4.q4.q4.1,x.q4.q4.q4.q4.2.1,x.q4.q4.q4.q4.2.2.1,()),
  x.q4.q4.q4.q4.2.2.2.1,x.q4.q4.q4.q4.q4.1,x.q4.q4.q4.q4.q4.2.1,x.q4.q4.q4.q4.q4.2.2.1,x.q4.q4.q4.q4.q4.2.2.2.1,x.q4.q4.q4.q4.q4.q4.1,x.q4.q4.q4.q4.q4.q4.2.1,())
def V9 (m:Int) (b:BlD):Bool:=tE (yE m b)
def Wa (m:Int) (b:BlD):Int:=pU (yE m b)
def Wb (m:Int) (c:CaD):Bool:=(kl (Sq c) 0 99&&kl (jcw c) 0 (m-1))&&kl (Wn c) (-100000) 1440
end U
def gS:wi:=⟨[.val .int,.val .int,.val .int],[.bool],false,fun _=>[],fun d=>(kl d.1 d.2.1 d.2.2.1,())⟩
def NI:Prop:=∀(d:CaD),(decide (d.2.1<=d.1)&&decide (d.1<=d.2.2.1),())=(kl d.1 d.2.1 d.2.2.1,())
def bu:wi:=⟨[.val .int],[.bool],false,fun _=>[],fun d=>(U.share d.1,())⟩
def RF:Prop:=∀(d:Int×Unit),(kl d.1 (0:Int) (100:Int),())=(U.share d.1,())
def iV:wi:=⟨[.val (.slice tNo),.fn [tNo] [.bool]],[.int],false,fun d=>[∀g∈d.1,kI (d.2.1.pre (g,()))],fun d=>(yq (ko (α:=NoD) d.2.1.F) d.1,())⟩
def iW:Ann:=fun r=>match r with
 |2=>some fun σ=>{X:=Nat,sl:=fun i=>[(8,.dat .int (i:Int))],ob:=fun _=>[],inv:=fun i=>i<=(gd (.slice tNo) σ 0).length/\∀b:Nat,b<i->ko (gfb tNo σ 1) (nth (gd (.slice tNo) σ 0) b)=false,mu:=fun i=>(gd (.slice tNo) σ 0).length-i}
 |_=>none
def iX:Prop:=∀(d:List (Int×Int×Unit)×FnD [tNo] [Ty.bool]×Unit),(∀(g:Int×Int×Unit),g∈d.1->kI (d.2.1.1 (g,())))->d.1.length<4611686018427387904->(∃(x:Nat),((0=(x:Int)/\True)/\True)/\x<=d.1.length/\∀(b:Nat),b<x->ko d.2.1.2 (nth d.1 b)=false)/\∀(x:Nat),(x<=d.1.length/\∀(b:Nat),b<x->ko d.2.1.2 (nth d.1 b)=false)->(decide ((x:Int)<d.1.length)=true->0<=(x:Int)/\(x:Int)<d.1.length/\asks (d.2.1.1 (nth d.1 x,())) (((d.2.1.2 (nth d.1 x,())).1=true->((x:Int),())=(yq (ko d.2.1.2) d.1,()))/\((d.2.1.2 (nth d.1 x,())).1=false->kK ((x:Int)+1)/\∃(a:Nat),(((x:Int)+1=(a:Int)/\True)/\True)/\(a<=d.1.length/\∀(b:Nat),b<a->ko d.2.1.2 (nth d.1 b)=false)/\d.1.length-a<d.1.length-x)))/\(decide ((x:Int)<d.1.length)=false->((-1:Int),())=(yq (ko d.2.1.2) d.1,()))
def nJ:wi:=⟨[.val (.slice tCa),.fn [tCa] [.bool]],[.int],false,fun d=>[∀g∈d.1,kI (d.2.1.pre (g,()))],fun d=>(yq (ko (α:=CaD) d.2.1.F) d.1,())⟩
def nK:Ann:=fun r=>match r with
 |2=>some fun σ=>{X:=Nat,sl:=fun i=>[(8,.dat .int (i:Int))],ob:=fun _=>[],inv:=fun i=>i<=(gd (.slice tCa) σ 0).length/\∀b:Nat,b<i->ko (gfb tCa σ 1) (nth (gd (.slice tCa) σ 0) b)=false,mu:=fun i=>(gd (.slice tCa) σ 0).length-i}
 |_=>none
def nL:Prop:=∀(d:List CaD×FnD [tCa] [Ty.bool]×Unit),(∀(g:CaD),g∈d.1->kI (d.2.1.1 (g,())))->d.1.length<4611686018427387904->(∃(x:Nat),((0=(x:Int)/\True)/\True)/\x<=d.1.length/\∀(b:Nat),b<x->ko d.2.1.2 (nth d.1 b)=false)/\∀(x:Nat),(x<=d.1.length/\∀(b:Nat),b<x->ko d.2.1.2 (nth d.1 b)=false)->(decide ((x:Int)<d.1.length)=true->0<=(x:Int)/\(x:Int)<d.1.length/\asks (d.2.1.1 (nth d.1 x,())) (((d.2.1.2 (nth d.1 x,())).1=true->((x:Int),())=(yq (ko d.2.1.2) d.1,()))/\((d.2.1.2 (nth d.1 x,())).1=false->kK ((x:Int)+1)/\∃(a:Nat),(((x:Int)+1=(a:Int)/\True)/\True)/\(a<=d.1.length/\∀(b:Nat),b<a->ko d.2.1.2 (nth d.1 b)=false)/\d.1.length-a<d.1.length-x)))/\(decide ((x:Int)<d.1.length)=false->((-1:Int),())=(yq (ko d.2.1.2) d.1,()))
def f7:wi:=⟨[.val (.slice tCa),.fn [tCa] [.bool]],[.bool],false,fun d=>[∀g∈d.1,kI (d.2.1.pre (g,()))],fun d=>(d.1.any (ko (α:=CaD) d.2.1.F),())⟩
def f8:Prop:=∀(d:List CaD×FnD [tCa] [Ty.bool]×Unit),(∀(g:CaD),g∈d.1->kI (d.2.1.1 (g,())))->(∀(g:CaD),g∈d.1->kI (d.2.1.1 (g,())))/\(decide (0<=yq (ko d.2.1.2) d.1),())=(d.1.any (ko d.2.1.2),())
def Ap:wi:=⟨[.val .int,.rfn [.int] [.bool]],[.bool],false,fun d=>[kI (d.2.1.pre (d.1,()))],fun d=>(!(ko (α:=Int) d.2.1.F d.1),())⟩
def Aq:Prop:=∀(d:Int×FnD [Ty.int] [Ty.bool]×Unit),kI (d.2.1.1 (d.1,()))->asks (d.2.1.1 (d.1,())) ((!(d.2.1.2 (d.1,())).1,())=(!ko d.2.1.2 d.1,()))
def cX:wi:=⟨[.val (.slice .int),.fn [.int] [.bool]],[.bool],false,fun d=>[∀g∈d.1,kI (d.2.1.pre (g,()))],fun d=>(d.1.all (ko (α:=Int) d.2.1.F),())⟩
def EF:Prop:=∀(d:List Int×FnD [Ty.int] [Ty.bool]×Unit),(∀(g:Int),g∈d.1->kI (d.2.1.1 (g,())))->(∀(g:Int),g∈d.1->kI [kI (d.2.1.1 (g,()))])/\(!d.1.any (ko fun(a:Int×Unit)=>(!ko d.2.1.2 a.1,())),())=(d.1.all (ko d.2.1.2),())
def uC:wi:=⟨[.val tCa,.rfn [tCa] [.bool]],[.bool],false,fun d=>[kI (d.2.1.pre (d.1,()))],fun d=>(!(ko (α:=CaD) d.2.1.F d.1),())⟩
def uD:Prop:=∀(d:CaD×FnD [tCa] [Ty.bool]×Unit),kI (d.2.1.1 (d.1,()))->asks (d.2.1.1 (d.1,())) ((!(d.2.1.2 (d.1,())).1,())=(!ko d.2.1.2 d.1,()))
def DC:wi:=⟨[.val (.slice tCa),.fn [tCa] [.bool]],[.bool],false,fun d=>[∀g∈d.1,kI (d.2.1.pre (g,()))],fun d=>(d.1.all (ko (α:=CaD) d.2.1.F),())⟩
def DD:Prop:=∀(d:List CaD×FnD [tCa] [Ty.bool]×Unit),(∀(g:CaD),g∈d.1->kI (d.2.1.1 (g,())))->(∀(g:CaD),g∈d.1->kI [kI (d.2.1.1 (g,()))])/\(!d.1.any (ko fun(a:CaD×Unit)=>(!ko d.2.1.2 a.1,())),())=(d.1.all (ko d.2.1.2),())
def KK:wi:=⟨[.val tCa,.ref .int],[.bool],false,fun d=>[0<=d.2.1,d.2.1<=4611686018427387904],fun d=>(Wb d.2.1 d.1,())⟩
def KL:Prop:=∀(d:CaD×Int×Unit),0<=d.2.1->d.2.1<=4611686018427387904->(kl d.1.1 (0:Int) 99=true->kK (d.2.1-1))/\(kl d.1.1 (0:Int) (99:Int)&&kl d.1.2.1 (0:Int) (d.2.1-1)&&kl d.1.2.2.1 (-100000:Int) (1440:Int),())=(Wb d.2.1 d.1,())
def KM:wi:=⟨[.val .int],[.bool],false,fun _=>[],fun d=>(Lo d.1,())⟩
def KN:Prop:=∀(d:Int×Unit),(kl d.1 (0:Int) (20:Int),())=(Lo d.1,())
def KO:wi:=⟨[.val .int],[.bool],false,fun _=>[],fun d=>(xD d.1,())⟩
def KP:Prop:=∀(d:Int×Unit),(kl d.1 (0:Int) (300:Int),())=(xD d.1,())
def jav:wi:=⟨[.val .int,.val .int],[.int],false,fun d=>[0<=d.1,0<d.2.1,d.1<=4611686018427387904,d.2.1<=1000000000],fun d=>(U.up d.1 d.2.1,())⟩
def jaw:Prop:=∀(d:Int×Int×Unit),0<=d.1->0<d.2.1->d.1<=4611686018427387904->d.2.1<=1000000000->kK (d.1+d.2.1)/\kK (d.1+d.2.1-1)/\d.2.1≠0/\kK ((d.1+d.2.1-1).tdiv d.2.1)/\((d.1+d.2.1-1).tdiv d.2.1,())=(U.up d.1 d.2.1,())
def NJ:wi:=⟨[.val tBo],[.bool],false,fun _=>[],fun _=>(true,())⟩
def NK:Prop:=∀(_:BoD×Unit),(true,())=(true,())
def sP:wi:=⟨[.val tBo,.val .int],[.bool],false,fun d=>[(kC (kA (gX d.1))).length<=100],fun d=>(w4 d.1 d.2.1,())⟩
def sQ:Prop:=∀(d:BoD×Int×Unit),(kC (kA (gX d.1))).length<=100->d.1.1.1.2.2.1.length<4611686018427387904->kK ((d.1.1.1.2.2.1.length:Int)-1)/\(kl d.2.1 (0:Int) ((d.1.1.1.2.2.1.length:Int)-1),())=(w4 d.1 d.2.1,())
def DE:wi:=⟨[.ref tBl],[.int],false,fun d=>[E7 d.1],fun d=>(yG d.1,())⟩
abbrev jg8 (d:BlD×Unit):=(min d.1.1.2.2.2.1 d.1.2.1.q4.1-d.1.1.2.2.1)
abbrev jg9 (d:BlD×Unit):=(d.1.1.2.2.2.1-max d.1.1.2.2.1 d.1.2.1.2.2.2.1)
def DF:Prop:=∀(d:BlD×Unit),E7 d.1->kK (jg9 d)/\kK (jg8 d)/\kK (max (0:Int) (jg9 d)+max (0:Int) (jg8 d))/\(max (0:Int) (jg9 d)+max (0:Int) (jg8 d),())=(yG d.1,())
def Ar:qi:=⟨[.own blS true,.val .int],[],fun d=>[E7 (qy d.1),0<=d.2.1,d.2.1<=300],fun d=>((),(blX d.1 (aY (qy d.1)) (b8 d.2.1 (qy d.1)) (tE (qy d.1)) (pU (qy d.1)),()))⟩
abbrev jfi (d:XbD×Int×Unit):=(d.1.q4.q4.1-d.1.q4.2.2.2.1)
abbrev je6 (d:XbD×Int×Unit):=(U.up (jfi d) d.1.q4.q4.2.1)
abbrev jeD (d:XbD×Int×Unit):=d.1.q4.q4.2.2.2.1
abbrev jev (d:XbD×Int×Unit):=d.1.q4.q4.2.2.1
abbrev jfj (d:XbD×Int×Unit):=d.1.q4.q4.q4.2.2.1
abbrev jfC (d:XbD×Int×Unit):=d.1.q4.q4.q4.2.2.2.1
abbrev jgv (d:XbD×Int×Unit):=d.1.q4.q4.q4.q4.q4.2.1
abbrev jew (d:XbD×Int×Unit):=((jgv d).length:Int)
abbrev jha (d:XbD×Int×Unit):=d.1.q4.q4.q4.q4.q4.1
abbrev jhb (d:XbD×Int×Unit):=d.1.q4.q4.q4.q4.2.2.2.1
abbrev jgw (d:XbD×Int×Unit):=(((d.1.1,d.1.2.1,d.1.2.2.1,d.1.2.2.2.1,d.1.q4.1,d.1.q4.2.1,()),d.1.q4.2.2.1,d.1.q4.2.2.2.1,d.1.q4.q4.1,()),(d.1.q4.q4.2.1,(jev d),(jeD d),d.1.q4.q4.q4.1,d.1.q4.q4.q4.2.1,(jfj d),(jfC d),d.1.q4.q4.q4.q4.1,d.1.q4.q4.q4.q4.2.1,d.1.q4.q4.q4.q4.2.2.1,()),(jhb d),(jha d),(jgv d),(jew d)*(jev d)*max (jeD d) (je6 d),d.1.q4.q4.q4.q4.q4.2.2.2)
abbrev jhc (d:XbD×Int×Unit):=((jew d)*(jev d)*max (jeD d) (je6 d)*(jfj d)*yG (jgw d))
def As:Prop:=∀(d:XbD×Int×Unit),E7 (qy d.1)->0<=d.2.1->d.2.1<=300->kK (jfi d)/\kK ((jew d)*(jev d))/\0<=d.1.q4.q4.1-d.1.q4.2.2.2.1/\0<d.1.q4.q4.2.1/\d.1.q4.q4.1-d.1.q4.2.2.2.1<=4611686018427387904/\d.1.q4.q4.2.1<=1000000000/\kK ((jew d)*(jev d)*max (jeD d) (je6 d))/\kK ((jew d)*(jev d)*max (jeD d) (je6 d)*(jfj d))/\E7 (jgw d)/\kK (jhc d)/\kK ((100:Int)*(jfi d))/\0<=(jew d)*(jev d)*max (jeD d) (je6 d)*(jfj d)*yG (jgw d)/\(0:Int)<100*(jfi d)/\(jew d)*(jev d)*max (jeD d) (je6 d)*(jfj d)*yG (jgw d)<=4611686018427387904/\(100:Int)*(jfi d)<=1000000000/\kK ((jew d)*(jev d)*max (jeD d) (je6 d)+U.up (jhc d) ((100:Int)*(jfi d)))/\kK ((jew d)*(jfC d))/\kK ((jew d)*(jfC d)*d.2.1)/\()=()/\((d.1.1,d.1.2.1,d.1.2.2.1,d.1.2.2.2.1,d.1.q4.1,d.1.q4.2.1,d.1.q4.2.2.1,d.1.q4.2.2.2.1,d.1.q4.q4.1,d.1.q4.q4.2.1,(jev d),(jeD d),d.1.q4.q4.q4.1,d.1.q4.q4.q4.2.1,(jfj d),(jfC d),d.1.q4.q4.q4.q4.1,d.1.q4.q4.q4.q4.2.1,d.1.q4.q4.q4.q4.2.2.1,(jhb d),(jha d),(jgv d),(jew d)*(jev d)*max (jeD d) (je6 d)+U.up (jhc d) ((100:Int)*(jfi d)),(jew d)*(jfC d)*d.2.1,d.1.q4.q4.q4.q4.q4.q4),())=((d.1.1,d.1.2.1,d.1.2.2.1,d.1.2.2.2.1,d.1.q4.1,d.1.q4.2.1,d.1.q4.2.2.1,d.1.q4.2.2.2.1,d.1.q4.q4.1,d.1.q4.q4.2.1,(jev d),(jeD d),d.1.q4.q4.q4.1,d.1.q4.q4.q4.2.1,(jfj d),(jfC d),d.1.q4.q4.q4.q4.1,d.1.q4.q4.q4.q4.2.1,d.1.q4.q4.q4.q4.2.2.1,(jhb d),(jha d),(jgv d),aY (qy d.1),b8 d.2.1 (qy d.1),tE (qy d.1),pU (qy d.1),()),())
def EG:qi:=⟨[.own blS true,.val .int],[],fun _=>[],fun d=>((),(blX d.1 (pT (qy d.1)) (E6 (qy d.1)) (V9 d.2.1 (qy d.1)) (Wa d.2.1 (qy d.1)),()))⟩
abbrev jhQ (d:XbD×Int×Unit):=((d.1.1,d.1.2.1,d.1.2.2.1,d.1.2.2.2.1,d.1.q4.1,d.1.q4.2.1,d.1.q4.2.2.1,d.1.q4.2.2.2.1,d.1.q4.q4.1,d.1.q4.q4.2.1,d.1.q4.q4.2.2.1,d.1.q4.q4.2.2.2.1,d.1.q4.q4.q4.1,d.1.q4.q4.q4.2.1,d.1.q4.q4.q4.2.2.1,d.1.q4.q4.q4.2.2.2.1,d.1.q4.q4.q4.q4.1,d.1.q4.q4.q4.q4.2.1,d.1.q4.q4.q4.q4.2.2.1,d.1.q4.q4.q4.q4.2.2.2.1,d.1.q4.q4.q4.q4.q4.1,d.1.q4.q4.q4.q4.q4.2.1,pT (qy d.1),E6 (qy d.1),V9 d.2.1 (qy d.1),Wa d.2.1 (qy d.1),()),())
abbrev jhR (d:XbD×Int×Unit):=(decide (d.2.1<=d.1.q4.2.2.2.1)&&(!d.1.q4.q4.q4.q4.q4.q4.1||decide (d.2.1<d.1.q4.q4.q4.q4.q4.q4.2.1)))
def EH:Prop:=∀(d:XbD×Int×Unit),((jhR d)=true->()=()/\((d.1.1,d.1.2.1,d.1.2.2.1,d.1.2.2.2.1,d.1.q4.1,d.1.q4.2.1,d.1.q4.2.2.1,d.1.q4.2.2.2.1,d.1.q4.q4.1,d.1.q4.q4.2.1,d.1.q4.q4.2.2.1,d.1.q4.q4.2.2.2.1,d.1.q4.q4.q4.1,d.1.q4.q4.q4.2.1,d.1.q4.q4.q4.2.2.1,d.1.q4.q4.q4.2.2.2.1,d.1.q4.q4.q4.q4.1,d.1.q4.q4.q4.q4.2.1,d.1.q4.q4.q4.q4.2.2.1,d.1.q4.q4.q4.q4.2.2.2.1,d.1.q4.q4.q4.q4.q4.1,d.1.q4.q4.q4.q4.q4.2.1,d.1.q4.q4.q4.q4.q4.2.2.1,d.1.q4.q4.q4.q4.q4.2.2.2.1,true,d.2),())=(jhQ d))/\((jhR d)=false->()=()/\(d.1,())=(jhQ d))
def Au:wi:=⟨[.val tNo,.ref tBl],[.bool],false,fun d=>[E7 d.2.1],fun d=>(eU d.2.1 d.1,())⟩
def Av:Prop:=∀(d:(Int×Int×Unit)×BlD×Unit),E7 d.2.1->kK (d.2.1.1.2.2.1-d.2.1.q4.q4.1)/\(decide (d.1.1<=d.2.1.1.2.2.1-d.2.1.q4.q4.1),())=(eU d.2.1 d.1,())
def EI:wi:=⟨[.val tBl],[tLn],false,fun d=>[pP d.1],fun d=>(qh d.1,())⟩
abbrev jfZ (d:BlD×Unit):=(ko fun(a:(Int×Int×Unit)×Unit)=>(eU d.1 a.1,()))
abbrev jeV (d:BlD×Unit):=d.1.2.1.q4.2.2.2.1
abbrev je7 (d:BlD×Unit):=d.1.2.1.q4.q4.2.1
abbrev jhd (d:BlD×Unit):=(nth (je7 d) (yq (jfZ d) (je7 d)).toNat)
abbrev jeo (d:BlD×Unit):=d.1.q4.2.1
abbrev jf0 (d:BlD×Unit):=(((jeo d)+d.1.q4.2.2.1)*nth d.1.2.1.q4.q4.1 d.1.1.1.q4.1.toNat)
abbrev jf1 (d:BlD×Unit):=(((jeo d)+0)*nth d.1.2.1.q4.q4.1 d.1.1.1.q4.1.toNat)
abbrev jfk (d:BlD×Unit):=((jeo d)*(jhd d).2.1)
abbrev jf2 (d:BlD×Unit):=((U.up (jfk d) (100:Int)+0)*nth d.1.2.1.q4.q4.1 d.1.1.1.q4.1.toNat)
abbrev jhe (d:BlD×Unit):=(d.1.2.1.q4.q4.1.length:Int)
def EJ:Prop:=∀(d:BlD×Unit),pP d.1->(d.1.q4.2.2.2.1=true->(∀(g:Int×Int×Unit),g∈(je7 d)->kI [E7 d.1])/\(decide (0<=yq (jfZ d) (je7 d))=true->0<=yq (jfZ d) (je7 d)/\yq (jfZ d) (je7 d)<((je7 d).length:Int)/\kK (jfk d)/\0<=(jeo d)*(jhd d).2.1/\(0:Int)<100/\(jeo d)*(jhd d).2.1<=4611686018427387904/\(100:Int)<=1000000000/\kK (U.up (jfk d) (100:Int)+0)/\0<=d.1.1.1.q4.1/\d.1.1.1.q4.1<(jhe d)/\kK (jf2 d)/\(100:Int)≠0/\kK ((jf2 d).tdiv (100:Int))/\kK (U.up (jfk d) (100:Int)+0)/\kK (U.up (jfk d) (100:Int)+0-min (jeV d) ((jf2 d).tdiv (100:Int)))/\((d.1.2.2.2.1,d.1.2.2.1,U.up (jfk d) (100:Int),(0:Int),min (jeV d) ((jf2 d).tdiv (100:Int)),U.up (jfk d) (100:Int)+0-min (jeV d) ((jf2 d).tdiv (100:Int)),()),())=(qh d.1,()))/\(decide (0<=yq (jfZ d) (je7 d))=false->kK ((jeo d)+0)/\0<=d.1.1.1.q4.1/\d.1.1.1.q4.1<(jhe d)/\kK (jf1 d)/\(100:Int)≠0/\kK ((jf1 d).tdiv (100:Int))/\kK ((jeo d)+0)/\kK ((jeo d)+0-min (jeV d) ((jf1 d).tdiv (100:Int)))/\((d.1.2.2.2.1,d.1.2.2.1,(jeo d),(0:Int),min (jeV d) ((jf1 d).tdiv (100:Int)),(jeo d)+0-min (jeV d) ((jf1 d).tdiv (100:Int)),()),())=(qh d.1,())))/\(d.1.q4.2.2.2.1=false->kK ((jeo d)+d.1.q4.2.2.1)/\0<=d.1.1.1.q4.1/\d.1.1.1.q4.1<(jhe d)/\kK (jf0 d)/\(100:Int)≠0/\kK ((jf0 d).tdiv (100:Int))/\kK ((jeo d)+d.1.q4.2.2.1)/\kK ((jeo d)+d.1.q4.2.2.1-min (jeV d) ((jf0 d).tdiv (100:Int)))/\((d.1.2.2.2.1,d.1.2.2.1,(jeo d),d.1.q4.2.2.1,min (jeV d) ((jf0 d).tdiv (100:Int)),(jeo d)+d.1.q4.2.2.1-min (jeV d) ((jf0 d).tdiv (100:Int)),()),())=(qh d.1,()))
def Aw:wi:=⟨[.val tBl,.val .int],[.int],false,fun d=>[pP d.1,-100000<=d.2.1,d.2.1<=1440],fun d=>(yQ d.2.1 d.1,())⟩
abbrev jgx (d:BlD×Int×Unit):=(qy (d.1.1.1.1,d.1.1.1.2.1,d.1.1.1.2.2.1,d.1.1.1.2.2.2.1,d.1.1.1.q4.1,d.1.1.1.q4.2.1,d.1.1.2.1,d.1.1.2.2.1,d.1.1.2.2.2.1,d.1.2.1.1,d.1.2.1.2.1,d.1.2.1.2.2.1,d.1.2.1.2.2.2.1,d.1.2.1.q4.1,d.1.2.1.q4.2.1,d.1.2.1.q4.2.2.1,d.1.2.1.q4.2.2.2.1,d.1.2.1.q4.q4.1,d.1.2.1.q4.q4.2.1,d.1.2.2))
abbrev jhS (d:BlD×Int×Unit):=(d.1.1,d.1.2.1,d.1.2.2.1,d.1.2.2.2.1,d.1.q4.1,pT (jgx d),E6 (jgx d),V9 d.2.1 (jgx d),Wa d.2.1 (jgx d),())
def Ax:Prop:=∀(d:BlD×Int×Unit),pP d.1->(-100000:Int)<=d.2.1->d.2.1<=1440->pP (jhS d)/\(qh (jhS d)).q4.2=(yQ d.2.1 d.1,())
theorem RG:NI:=fun _=>rfl
theorem vP:wq PR 38 gS:=wb RG Tryz.func38 kcN koN
theorem Vl:RF:=fun _=>rfl
theorem Gd:wq PR 118 bu:=wb Vl Tryz.func118 (kcC vP kcN) koN
theorem mf:iX:=by
 rintro⟨l,f,⟨⟩⟩ a g;refine⟨⟨0,⟨⟨rfl,tZ⟩,tZ⟩,jv _,fun b c=>by omega⟩,fun i hi=>⟨fun h=> ?_,fun h=> ?_⟩⟩;have h:i<l.length:=(by simpa using h);simp only at*;refine⟨by omega,by omega,qV _ (a _ (L.kx h)) ⟨fun c=> ?_,fun c=>⟨iZ6,i+1,⟨⟨by simp,tZ⟩,tZ⟩,⟨by omega,fun b d=> ?_⟩,by omega⟩⟩⟩;rw[vW (p:=ko (α:=NoD) f.F) h hi.2 c];by_cases e:b=i;subst e;exact c;exact hi.2 b (by omega);have h:l.length<=i:=(by simpa using h);rw[qC (p:=ko (α:=NoD) f.F) h hi.2]
theorem iY:wq PR 66 iV:=vN iW mf Tryz.func66 kcN koN
theorem pH:nL:=by
 rintro⟨l,f,⟨⟩⟩ a g;refine⟨⟨0,⟨⟨rfl,tZ⟩,tZ⟩,jv _,fun b c=>by omega⟩,fun i hi=>⟨fun h=> ?_,fun h=> ?_⟩⟩;have h:i<l.length:=(by simpa using h);simp only at*;refine⟨by omega,by omega,qV _ (a _ (L.kx h)) ⟨fun c=> ?_,fun c=>⟨iZ6,i+1,⟨⟨by simp,tZ⟩,tZ⟩,⟨by omega,fun b d=> ?_⟩,by omega⟩⟩⟩;rw[vW (p:=ko (α:=CaD) f.F) h hi.2 c];by_cases e:b=i;subst e;exact c;exact hi.2 b (by omega);have h:l.length<=i:=(by simpa using h);rw[qC (p:=ko (α:=CaD) f.F) h hi.2]
theorem nM:wq PR 165 nJ:=vN nK pH Tryz.func165 kcN koN
theorem iZ:f8:=by
 rintro⟨l,f,⟨⟩⟩ a;refine⟨a,?_⟩;exact jN (·,()) (fK (ko (α:=CaD) f.F) l)
theorem f9:wq PR 120 f7:=wb iZ Tryz.func120 (kcC nM kcN) koN
theorem DG:Aq:=by
 intro d h;exact qV _ h rfl
theorem Ay:wq PR 116 Ap:=wb DG Tryz.func116 kcN koN
theorem HQ:EF:=by
 intro d h;exact⟨fun g a=>⟨h g a,tZ⟩,jN (·,()) (rW d.snd.fst.2 d.fst)⟩
theorem oe:wq PR 86 cX:=wb HQ Tryz.func86 (kcC vZ (kcC Ay kcN)) koN
theorem Az:uD:=by
 intro d h;exact qV _ h rfl
theorem uE:wq PR 121 uC:=wb Az Tryz.func121 kcN koN
theorem EK:DD:=by
 intro d h;exact⟨fun g a=>⟨h g a,tZ⟩,jN (·,()) (rW d.snd.fst.2 d.fst)⟩
theorem DH:wq PR 90 DC:=wb EK Tryz.func90 (kcC f9 (kcC uE kcN)) koN
theorem NL:KL:=by
 rintro⟨c,m,⟨⟩⟩ a b;have a:0<=m:=a;have b:m<=4611686018427387904:=b;exact⟨fun _=>L.Fb (by show _<=m-1;omega) (by show m-1<=_;omega),rfl⟩
theorem KQ:wq PR 85 KK:=wb NL Tryz.func85 (kcC vP kcN) koN
theorem NM:KN:=fun _=>rfl
theorem KR:wq PR 87 KM:=wb NM Tryz.func87 (kcC vP kcN) koN
theorem NN:KP:=fun _=>rfl
theorem KS:wq PR 88 KO:=wb NN Tryz.func88 (kcC vP kcN) koN
theorem jb9:jaw:=by
 rintro⟨a,b,⟨⟩⟩ c d e f;have c:0<=a:=c;have d:0<b:=d;have e:a<=4611686018427387904:=e;have f:b<=1000000000:=f;have g:=Vf c d;refine⟨L.Fb (by show _<=a+b;omega) (by show a+b<=_;omega),L.Fb (by show _<=a+b-1;omega) (by show a+b-1<=_;omega),by show b≠0;omega,Dy (x:=U.up a b) (B:=4611686018427387904) ⟨g.1,by omega⟩ (by omega),rfl⟩
theorem Vm:wq PR 68 jav:=wb jb9 Tryz.func68 kcN koN
theorem RH:NK:=fun _=>rfl
theorem pI:wq PR 34 NJ:=wb RH Tryz.func34 kcN koN
theorem uF:sQ:=by
 intro d a b;have a:(kC (kA (gX d.1))).length<=100:=a;exact⟨L.Fb (by show _<=((kC (kA (gX d.1))).length:Int)-1;omega) (by show((kC (kA (gX d.1))).length:Int)-1<=_;omega),rfl⟩
theorem gq:wq PR 37 sP:=wb uF Tryz.func37 (kcC vP kcN) koN
theorem EL:DF:=by
 unfold DF jg9 jg8 Prod.q4;rintro⟨b,⟨⟩⟩ a;have h:Dz b:=sL.1 a;have d:=h.st;have e:=h.en;have f:=h.e2;have g:=h.ta.dk;have i:=h.ta.dw;have c:=PH h;refine⟨?_,?_,Dy (B:=2880) c (by omega),rfl⟩;show kK (mY (qp b)-max (qx (qp b)) (Ym (yP b)));exact iZ6;show kK (min (mY (qp b)) (ja4 (yP b))-qx (qp b));exact iZ6
theorem DI:wq PR 91 DE:=wb EL Tryz.func91 kcN koN
theorem DJ:As:=by
 unfold As jhc jgw jhb jha jew jgv jfC jfj jev jeD je6 jfi Prod.q4;intro d k v w;obtain⟨b,B⟩:∃b,b=qy d.1:=⟨_,rfl⟩;have h:Dz (qy d.1):=sL.1 k;have x:=h.st;have y:=h.en;have z:=h.e2;have A:=h.ta.un;have l:=jb5 h;have j:=YY h;have m:=Vg h;have n:kK (mY (qp (qy d.1))-qx (qp (qy d.1))):=iZ6;have e2:0<=mY (qp (qy d.1))-qx (qp (qy d.1)):=(by omega);have o:0<Wl (yP (qy d.1)):=(by omega);have p:mY (qp (qy d.1))-qx (qp (qy d.1))<=4611686018427387904:=(by omega);have q:Wl (yP (qy d.1))<=1000000000:=(by omega);have r:kK (100*(mY (qp (qy d.1))-qx (qp (qy d.1)))):=iZ6;have s:100*(mY (qp (qy d.1))-qx (qp (qy d.1)))<=1000000000:=(by omega);have t:kK (aY (qy d.1)):=Dy m (by omega);have u:kK (b8 d.2.1 (qy d.1)):=Dy (Vh h ⟨v,w⟩) (by omega);have a:=Dy (jb3 h) (by omega);have c:=Dy (NF h) (by omega);have e:=Dy (jb4 h) (by omega);have f:=Dy j (by omega);have g:mr (qy d.1)*Wm (yP (qy d.1))*yG (qy d.1)<=4611686018427387904:=(by omega);have i:=Dy (jb7 h) (by omega);exact⟨n,a,e2,o,p,q,c,e,k,f,r,j.1,l.1,g,s,t,i,u,rfl,rfl⟩
theorem AA:y7 PR 60 Ar:=CD DJ Tryz.func60 (kcC Vm (kcC DI kcN)) koN
theorem NO (m:Int) (b:BlD):yE m b=(qp b,yP b,Oy b,LH b,w7 b,pT b,E6 b,V9 m b,Wa m b,()):=by
 unfold V9 Wa yE
 split
 rfl;rfl
theorem HR:EH:=by
 unfold EH jhR jhQ Prod.q4;intro d;have a:(decide (d.2.1<=qx (qp (qy d.1)))&&(!tE (qy d.1)||decide (d.2.1<pU (qy d.1))))=true↔(d.2.1<=qx (qp (qy d.1))/\(tE (qy d.1)=false\/d.2.1<pU (qy d.1))):=by
  simp only[ji,zy,jr,jP]
 refine⟨fun h=>⟨rfl,?_⟩,fun h=>⟨rfl,?_⟩⟩;have e:yE d.2.1 (qy d.1)=(qp (qy d.1),yP (qy d.1),Oy (qy d.1),LH (qy d.1),w7 (qy d.1),pT (qy d.1),E6 (qy d.1),true,d.2.1,()):=by
  unfold yE;rw[jd (a.1 h)]
 have b:V9 d.2.1 (qy d.1)=true:=jN tE e;have e2:Wa d.2.1 (qy d.1)=d.2.1:=jN pU e;rw[b,e2];rfl;have h:(decide (d.2.1<=qx (qp (qy d.1)))&&(!tE (qy d.1)||decide (d.2.1<pU (qy d.1))))=false:=h;have e:yE d.2.1 (qy d.1)=qy d.1:=by
  unfold yE;rw[jc (fun c=>by rw[a.2 c] at h;cases h)]
 have b:V9 d.2.1 (qy d.1)=tE (qy d.1):=jN tE e;have e2:Wa d.2.1 (qy d.1)=pU (qy d.1):=jN pU e;rw[b,e2];rfl
theorem og:y7 PR 61 EG:=CD HR Tryz.func61 kcN koN
theorem DK:Av:=by
 unfold Av Prod.q4;rintro⟨n,b,⟨⟩⟩ a;have h:Dz b:=sL.1 a;have c:=h.st;have d:=h.en;have e:=h.e2;have f:=h.mi;refine⟨?_,rfl⟩;show kK (qx (qp b)-pU b);exact iZ6
theorem AB:wq PR 67 Au:=wb DK Tryz.func67 kcN koN
theorem HS:EJ:=by
 unfold EJ jhe jf2 jfk jf1 jf0 jeo jhd je7 jeV jfZ Prod.q4;rintro⟨b,⟨⟩⟩ m;have h:Iz b:=ac.1 m;have hk:=h.bl.kd;have k:i9 (y8 (qp b))<((bv (yP b)).length:Int):=(by have:=Vi h.bl;omega);have l:=Vj h.bl;have j:=h.bl.ta.cp;refine⟨fun a=>⟨fun g _=>⟨m.1,tZ⟩,fun hi=> ?_,fun hi=> ?_⟩,fun a=> ?_⟩;have hi:0<=Sd b:=ja hi;obtain⟨o,p,_⟩:=KH hi;have f:=PI h o;have n:=Vf (b:=100) f.1 (by omega);have d:wQ b=U.up (pT b*Y6 (nth (eZ (yP b)) (Sd b).toNat)) 100:=jd ⟨a,hi⟩;have c:qd b=0:=jd a;refine⟨hi,p,Dy f (by omega),f.1,by decide,Int.le_trans f.2 (by decide),by decide,?_⟩;refine NG (w:=U.up (pT b*Y6 (nth (eZ (yP b)) (Sd b).toNat)) 100) (t:=0) (cp:=Sc (yP b)) (pc:=nth (bv (yP b)) (i9 (y8 (qp b))).toNat) ⟨n.1,Int.le_trans n.2 f.2⟩ ⟨by omega,by omega⟩ j l hk.1 k ?_;have e:qh b=(LH b,Oy b,wQ b,qd b,min (Sc (yP b)) (((wQ b+qd b)*nth (bv (yP b)) (i9 (y8 (qp b))).toNat).tdiv 100),wQ b+qd b-min (Sc (yP b)) (((wQ b+qd b)*nth (bv (yP b)) (i9 (y8 (qp b))).toNat).tdiv 100),()):=rfl;rw[d,c] at e;show _=(qh b,());rw[e];rfl;have hi:¬0<=Sd b:=je hi;have d:wQ b=pT b:=jc (fun i=>hi i.2);have c:qd b=0:=jd a;refine NG (w:=pT b) (t:=0) (cp:=Sc (yP b)) (pc:=nth (bv (yP b)) (i9 (y8 (qp b))).toNat) ⟨h.wk.1,by have:=h.wk.2;omega⟩ ⟨by omega,by omega⟩ j l hk.1 k ?_;have e:qh b=(LH b,Oy b,wQ b,qd b,min (Sc (yP b)) (((wQ b+qd b)*nth (bv (yP b)) (i9 (y8 (qp b))).toNat).tdiv 100),wQ b+qd b-min (Sc (yP b)) (((wQ b+qd b)*nth (bv (yP b)) (i9 (y8 (qp b))).toNat).tdiv 100),()):=rfl;rw[d,c] at e;show _=(qh b,());rw[e];rfl;have a:tE b=false:=a;have d:wQ b=pT b:=jc (fun i=>by rw[a] at i;cases i.1);have c:qd b=E6 b:=jc (by rw[a];decide);refine NG (w:=pT b) (t:=E6 b) (cp:=Sc (yP b)) (pc:=nth (bv (yP b)) (i9 (y8 (qp b))).toNat) ⟨h.wk.1,by have:=h.wk.2;omega⟩ h.tr j l hk.1 k ?_;have e:qh b=(LH b,Oy b,wQ b,qd b,min (Sc (yP b)) (((wQ b+qd b)*nth (bv (yP b)) (i9 (y8 (qp b))).toNat).tdiv 100),wQ b+qd b-min (Sc (yP b)) (((wQ b+qd b)*nth (bv (yP b)) (i9 (y8 (qp b))).toNat).tdiv 100),()):=rfl;rw[d,c] at e;show _=(qh b,());rw[e];rfl
theorem ae:wq PR 39 EI:=wb HS Tryz.func39 (kcC Vm (kcC iY (kcC AB kcN))) koN
theorem DL:Ax:=by
 unfold Ax jhS jgx Prod.q4;rintro⟨b,m,⟨⟩⟩ a c d;have e:=NO m b;have h:Iz b:=ac.1 a;have hk:=ac.2 (HO (m:=m) h ⟨c,d⟩);refine⟨?_,?_⟩;show pP (qp b,yP b,Oy b,LH b,w7 b,pT b,E6 b,V9 m b,Wa m b,());rw[<-e];exact hk;show(qh (qp b,yP b,Oy b,LH b,w7 b,pT b,E6 b,V9 m b,Wa m b,())).2.2.2.2.2=_;rw[<-e];rfl
theorem iA:wq PR 40 Aw:=wb DL Tryz.func40 (kcC ae kcN) (koC og koN)
@[irreducible] def XS (C:Ctx) (A:Ann) (c:Code) (σ:St) (K:Ex->St->Prop):Prop:=vcg C A c σ K
theorem XT {C:Ctx} {A:Ann} {c:Code} {σ:St} {K:Ex->St->Prop} (h:XS C A c σ K):vcg C A c σ K:=by unfold XS at h;exact h
structure FE where
 pre:NoD×Unit->Int->List Prop
 K:NoD×Unit->Int->(Bool×Unit)×Int
namespace U
def ga (K:NoD×Unit->Int->(Bool×Unit)×Int):NoD×Unit->Int->(Bool×Unit)×Int:=fun x s=>((!(K (x.1,()) s).1.1,()),(K (x.1,()) s).2)
def DY (pre:NoD×Unit->Int->List Prop):NoD×Unit->Int->List Prop:=fun x s=>[kI (pre (x.1,()) s)]
def q8 (K:NoD×Unit->Int->(Bool×Unit)×Int):Nat->List NoD->Int->Int×Int
 |_,[],s=>(-1,s)
 |i,n::r,s=>match(K (n,()) s).1.1 with
  |true=>((i:Int),(K (n,()) s).2)
  |false=>q8 K (i+1) r (K (n,()) s).2
def cn (pre:NoD×Unit->Int->List Prop) (K:NoD×Unit->Int->(Bool×Unit)×Int):List NoD->Int->Prop
 |[],_=>True
 |n::r,s=>kI (pre (n,()) s)/\((K (n,()) s).1.1=false->cn pre K r (K (n,()) s).2)
def P3:NoD×Unit->Int->(Bool×Unit)×Int:=fun x s=>((Iv s x.1,()),Wk x.1)
def jcx:NoD×Unit->Int->List Prop:=fun _ s=>[-4611686018427387904<=s,s<=4611686018427387904]
end U
def jax (st:Ty) (ps rs:List Ty) (pre:(Ty.st ps).Data->st.Data->List Prop) (K:(Ty.st ps).Data->st.Data->(Ty.st rs).Data×st.Data):Option FE:=
 if a:st= .int then if b:ps=[tNo] then if c:rs=[.bool] then some ⟨by subst a;subst b;exact pre,by subst a;subst b;subst c;exact K⟩ else none else none else none
def jcL:SV->Option (Nat×FE)
 | .fe false o T st ps rs pre K=>match Nat.beq T 3,jax st ps rs pre K with
  |true,some y=>some (o,y)
  |_,_=>none
 |_=>none
def jc8 (σ:St) (b:Nat):Option (Nat×FE):=match σ.obj b with
 |some (.box _ _ [c])=>jcL c
 |_=>none
def Vn (σ:St) (o:Nat):Option Int:=match σ.obj o with
 |some (.box T false [c])=>match Nat.beq T 3,yf σ .int c with
  |true,some (s,[])=>some s
  |_,_=>none
 |_=>none
def Vo (σ:St):List SV->Option Out
 |[a,b]=>match yf σ (.slice tNo) a,jcL b with
  |some (l,fz),some (o,y)=>match ai fz o,Vn σ o with
   |false,some s=>some ⟨[cn y.pre y.K l s],[],xF [.int] ((q8 y.K 0 l s).1,()),fz,[(o,some (.box 3 false [.dat .int (q8 y.K 0 l s).2]))],[]⟩
   |_,_=>none
  |_,_=>none
 |_=>none
def Vp (σ:St):List SV->Option Out
 |[a,.clo f [.bp b 0]]=>match Nat.beq f 164,yf σ (.slice tNo) a,jc8 σ b with
  |true,some (l,fz),some (o,y)=>match ai (b::fz) o,Vn σ o with
   |false,some s=>some ⟨[cn (DY y.pre) (ga y.K) l s],[],xF [.bool] (decide (0<=(q8 (ga y.K) 0 l s).1),()),b::fz,[(o,some (.box 3 false [.dat .int (q8 (ga y.K) 0 l s).2]))],[]⟩
   |_,_=>none
  |_,_,_=>none
 |_=>none
def XU (σ:St):List SV->Option Out
 |[a,.clo f [.bp o 0]]=>match Nat.beq f 117,yf σ (.slice tNo) a with
  |true,some (l,fz)=>match ai fz o,Vn σ o with
   |false,some s=>some ⟨[cn (DY jcx) (ga P3) l s],[],xF [.bool] (!decide (0<=(q8 (ga P3) 0 l s).1),()),fz,[(o,some (.box 3 false [.dat .int (q8 (ga P3) 0 l s).2]))],[]⟩
   |_,_=>none
  |_,_=>none
 |_=>none
def YZ (n:Nat) (fs:List (Nat×wi)) (k:Nat) (e:St->List SV->Option Out):Ctx:=⟨n,ti,fs,fun f _ σ svs=>match Nat.beq f k with|true=>e σ svs|false=>none,strs,false⟩
def cY:Prop:=∀(n:NoD) (s:Int),-4611686018427387904<=s->s<=4611686018427387904->
 XS (ctx 18 [(38,gS),(118,bu)] []) (fun _=>none) (wt Tryz.f117) ⟨[(0,.dat tNo n),(1,.bp yz 0)],[(yz,some (.box 3 false [.dat .int s]))]⟩
  (lH (ctx 18 [(38,gS),(118,bu)] []) Tryz.f117 3 .int [.bool] (P3 (n,()) s))
def mg:Prop:=∀(n:NoD) (s:Int),(-4611686018427387904:Int)<=s->s<=4611686018427387904->kK (s-1)/\(kl n.1 (0:Int) (s-1)&&U.share n.2.1,())=(P3 (n,()) s).1/\n.1=(P3 (n,()) s).2
theorem sR:(cY)=mg:=by kernel_rfl
def gu:Prop:=∀(n:NoD) (y:FE) (s:Int),kI (y.pre (n,()) s)->
 XS (ctx 8 [] []) (fun _=>none) (wt Tryz.f164) ⟨[(0,.dat tNo n),(1,.fe true yz 3 .int [tNo] [.bool] y.pre y.K)],[(yz,some (.box 3 false [.dat .int s]))]⟩
  (lH (ctx 8 [] []) Tryz.f164 3 .int [.bool] (ga y.K (n,()) s))
def bR:Prop:=∀(n:NoD) (y:FE) (s:Int),kI (y.pre (n,()) s)->asks (y.1 (n,()) s) ((!(y.2 (n,()) s).1.1,())=(ga y.2 (n,()) s).1/\(y.2 (n,()) s).2=(ga y.2 (n,()) s).2)
theorem i7:(gu)=bR:=by kernel_rfl
def Vq (K:NoD×Unit->Int->(Bool×Unit)×Int) (pre:NoD×Unit->Int->List Prop) (s:Int):Ann:=fun r=>match r with
 |2=>some fun σ=>{X:=Nat×Int,sl:=fun x=>[(8,.dat .int (x.1:Int))],ob:=fun x=>[(yz,some (.box 3 false [.dat .int x.2]))],inv:=fun x=>x.1<=(gd (.slice tNo) σ 0).length/\q8 K x.1 ((gd (.slice tNo) σ 0).drop x.1) x.2=q8 K 0 (gd (.slice tNo) σ 0) s/\cn pre K ((gd (.slice tNo) σ 0).drop x.1) x.2,mu:=fun x=>(gd (.slice tNo) σ 0).length-x.1}
 |_=>none
def ew:Prop:=∀(l:List NoD) (y:FE) (s:Int),cn y.pre y.K l s->
 XS (ctx 19 [] []) (Vq y.K y.pre s) (wt Tryz.f66) ⟨[(0,.dat (.slice tNo) l),(1,.fe false yz 3 .int [tNo] [.bool] y.pre y.K)],[(yz,some (.box 3 false [.dat .int s]))]⟩
  (lH (ctx 19 [] []) Tryz.f66 3 .int [.int] (((q8 y.K 0 l s).1,()),(q8 y.K 0 l s).2))
abbrev jf3 (l:List NoD)(x:Nat×Int):=(nth l (x.1:Int).toNat,())
def yJ:Prop:=∀(l:List NoD) (y:FE) (s:Int),cn y.pre y.K l s->l.length<4611686018427387904->(∃(x:Nat×Int),((0=(x.1:Int)/\True)/\(s=x.2/\True)/\True)/\x.1<=l.length/\q8 y.2 x.1 (List.drop x.1 l) x.2=q8 y.2 0 l s/\cn y.1 y.2 (List.drop x.1 l) x.2)/\∀(x:Nat×Int),x.1<=l.length/\q8 y.2 x.1 (List.drop x.1 l) x.2=q8 y.2 0 l s/\cn y.1 y.2 (List.drop x.1 l) x.2->(decide ((x.1:Int)<l.length)=true->0<=(x.1:Int)/\(x.1:Int)<l.length/\asks (y.1 (jf3 l x) x.2) (((y.2 (jf3 l x) x.2).1.1=true->((x.1:Int),())=((q8 y.2 0 l s).1,())/\(y.2 (jf3 l x) x.2).2=(q8 y.2 0 l s).2)/\((y.2 (jf3 l x) x.2).1.1=false->kK ((x.1:Int)+1)/\∃(a:Nat×Int),(((x.1:Int)+1=(a.1:Int)/\True)/\((y.2 (jf3 l x) x.2).2=a.2/\True)/\True)/\(a.1<=l.length/\q8 y.2 a.1 (List.drop a.1 l) a.2=q8 y.2 0 l s/\cn y.1 y.2 (List.drop a.1 l) a.2)/\l.length-a.1<l.length-x.1)))/\(decide ((x.1:Int)<l.length)=false->((-1:Int),())=((q8 y.2 0 l s).1,())/\x.2=(q8 y.2 0 l s).2)
theorem bh:(ew)=yJ:=by kernel_rfl
def bS:Prop:=∀(l:List NoD) (y:FE) (s:Int),cn y.pre y.K l s->
 XS (YZ 9 [] 66 Vo) (fun _=>none) (wt Tryz.f163) ⟨[(0,.dat (.slice tNo) l),(1,.fe false yz 3 .int [tNo] [.bool] y.pre y.K)],[(yz,some (.box 3 false [.dat .int s]))]⟩
  (lH (YZ 9 [] 66 Vo) Tryz.f163 3 .int [.bool] ((decide (0<=(q8 y.K 0 l s).1),()),(q8 y.K 0 l s).2))
def yb:Prop:=∀(l:List NoD) (y:FE) (s:Int),cn y.pre y.K l s->cn y.1 y.2 l s/\(decide (0<=(q8 y.2 0 l s).1),())=(decide (0<=(q8 y.2 0 l s).1),())/\(q8 y.2 0 l s).2=(q8 y.2 0 l s).2
theorem gT:(bS)=yb:=by kernel_rfl
def AC:Prop:=∀(l:List NoD) (y:FE) (s:Int),cn (DY y.pre) (ga y.K) l s->
 XS (YZ 9 [] 163 Vp) (fun _=>none) (wt Tryz.f119) ⟨[(0,.dat (.slice tNo) l),(1,.fe false yz 3 .int [tNo] [.bool] y.pre y.K)],[(yz,some (.box 3 false [.dat .int s]))]⟩
  (lH (YZ 9 [] 163 Vp) Tryz.f119 3 .int [.bool] ((!decide (0<=(q8 (ga y.K) 0 l s).1),()),(q8 (ga y.K) 0 l s).2))
def eD:Prop:=∀(l:List NoD) (y:FE) (s:Int),cn (DY y.pre) (ga y.K) l s->cn (DY y.1) (ga y.2) l s/\(!decide (0<=(q8 (ga y.2) 0 l s).1),())=(!decide (0<=(q8 (ga y.2) 0 l s).1),())/\(q8 (ga y.2) 0 l s).2=(q8 (ga y.2) 0 l s).2
theorem nN:(AC)=eD:=by kernel_rfl
def sS:wi:=⟨[.val tTa],[.bool],false,fun _=>[],fun d=>(vu d.1,())⟩
def sU:Ann:=fun r=>match r with
 |3000003=>some fun _=>{X:=Unit,sl:=fun _=>[],ob:=fun _=>[],inv:=fun _=>True,mu:=fun _=>0}
 |_=>none
abbrev je8:=(ko fun(a:Int×Unit)=>(U.share a.1,()))
abbrev jeG (d:TaD×Unit):=((d.1.q4.q4.2.1.length:Int)<=4)
abbrev je9 (d:TaD×Unit):=((d.1.q4.q4.1.length:Int)=4)
abbrev jeH (d:TaD×Unit):=d.1.q4.2.2.2.1
abbrev jex (d:TaD×Unit):=(vu d.1,())
abbrev jeI (d:TaD×Unit):=d.1.q4.2.2.1
def sV:Prop:=∀(d:TaD×Unit),(kl d.1.1 (1:Int) 240=true->kl d.1.1 (1:Int) 240=true/\kl d.1.1 (1:Int) 240=true/\kl d.1.1 (1:Int) 240=true/\(kl d.1.2.1 (0:Int) 10000=true->kl d.1.2.1 (0:Int) 10000=true/\kl d.1.2.1 (0:Int) 10000=true/\kl d.1.2.1 (0:Int) 10000=true/\(kl d.1.2.2.1 (0:Int) 20=true->kl d.1.2.2.1 (0:Int) 20=true/\kl d.1.2.2.1 (0:Int) 20=true/\kl d.1.2.2.1 (0:Int) 20=true/\(kl d.1.2.2.2.1 (0:Int) 1440=true->kl d.1.2.2.2.1 (0:Int) 1440=true/\kl d.1.2.2.2.1 (0:Int) 1440=true/\kl d.1.2.2.2.1 (0:Int) 1440=true/\kl d.1.2.2.2.1 (0:Int) 1440=true/\kl d.1.2.2.2.1 (0:Int) 1440=true/\(kl d.1.q4.1 (0:Int) d.1.2.2.2.1=true->kl d.1.q4.1 (0:Int) d.1.2.2.2.1=true/\kl d.1.q4.1 (0:Int) d.1.2.2.2.1=true/\kl d.1.q4.1 (0:Int) d.1.2.2.2.1=true/\(U.share d.1.q4.2.1=true->U.share d.1.q4.2.1=true/\U.share d.1.q4.2.1=true/\U.share d.1.q4.2.1=true/\(kl (jeI d) (0:Int) 10000=true->kl (jeI d) (0:Int) 10000=true/\kl (jeI d) (0:Int) 10000=true/\(d.1.q4.q4.1.length<4611686018427387904->kl (jeI d) (0:Int) 10000=true/\kl (jeI d) (0:Int) 10000=true/\(decide (je9 d)=true->decide (je9 d)=true/\decide (je9 d)=true/\(∀(g:Int),g∈d.1.q4.q4.1->kI [])/\decide (je9 d)=true/\(d.1.q4.q4.1.all je8=true->d.1.q4.q4.1.all je8=true/\d.1.q4.q4.1.all je8=true/\d.1.q4.q4.1.all je8=true/\(kl (jeH d) (0:Int) 1000000=true->kl (jeH d) (0:Int) 1000000=true/\kl (jeH d) (0:Int) 1000000=true/\(d.1.q4.q4.2.1.length<4611686018427387904->kl (jeH d) (0:Int) 1000000=true/\kl (jeH d) (0:Int) 1000000=true/\(decide (jeG d)=true->decide (jeG d)=true/\decide (jeG d)=true/\decide (jeG d)=true/\cn (DY jcx) (ga P3) d.1.q4.q4.2.1 (100001:Int)/\decide (jeG d)=true/\(!decide (0<=(q8 (ga P3) 0 d.1.q4.q4.2.1 (100001:Int)).1),())=(jex d))/\(decide (jeG d)=false->decide (jeG d)=false/\decide (jeG d)=false/\decide (jeG d)=false/\decide (jeG d)=false/\(false,())=(jex d))))/\(kl (jeH d) (0:Int) 1000000=false->kl (jeH d) (0:Int) 1000000=false/\kl (jeH d) (0:Int) 1000000=false/\kl (jeH d) (0:Int) 1000000=false/\kl (jeH d) (0:Int) 1000000=false/\qF/\qF/\qF/\qF/\qF/\(false,())=(jex d)))/\(d.1.q4.q4.1.all je8=false->d.1.q4.q4.1.all je8=false/\d.1.q4.q4.1.all je8=false/\d.1.q4.q4.1.all je8=false/\qF/\qF/\qF/\qF/\qF/\qF/\qF/\qF/\qF/\qF/\(false,())=(jex d)))/\(decide (je9 d)=false->decide (je9 d)=false/\decide (je9 d)=false/\decide (je9 d)=false/\qF/\qF/\qF/\qF/\qF/\qF/\qF/\qF/\qF/\qF/\qF/\qF/\qF/\qF/\(false,())=(jex d))))/\(kl (jeI d) (0:Int) 10000=false->kl (jeI d) (0:Int) 10000=false/\kl (jeI d) (0:Int) 10000=false/\kl (jeI d) (0:Int) 10000=false/\kl (jeI d) (0:Int) 10000=false/\qF/\qF/\qF/\qF/\qF/\qF/\qF/\qF/\qF/\qF/\qF/\qF/\qF/\qF/\qF/\qF/\qF/\qF/\(false,())=(jex d)))/\(U.share d.1.q4.2.1=false->U.share d.1.q4.2.1=false/\U.share d.1.q4.2.1=false/\U.share d.1.q4.2.1=false/\qF/\qF/\qF/\qF/\qF/\qF/\qF/\qF/\qF/\qF/\qF/\qF/\qF/\qF/\qF/\qF/\qF/\qF/\qF/\qF/\qF/\qF/\qF/\(false,())=(jex d)))/\(kl d.1.q4.1 (0:Int) d.1.2.2.2.1=false->kl d.1.q4.1 (0:Int) d.1.2.2.2.1=false/\kl d.1.q4.1 (0:Int) d.1.2.2.2.1=false/\kl d.1.q4.1 (0:Int) d.1.2.2.2.1=false/\qF/\qF/\qF/\qF/\qF/\qF/\qF/\qF/\qF/\qF/\qF/\qF/\qF/\qF/\qF/\qF/\qF/\qF/\qF/\qF/\qF/\qF/\qF/\qF/\qF/\qF/\qF/\(false,())=(jex d)))/\(kl d.1.2.2.2.1 (0:Int) 1440=false->kl d.1.2.2.2.1 (0:Int) 1440=false/\kl d.1.2.2.2.1 (0:Int) 1440=false/\kl d.1.2.2.2.1 (0:Int) 1440=false/\kl d.1.2.2.2.1 (0:Int) 1440=false/\kl d.1.2.2.2.1 (0:Int) 1440=false/\qF/\qF/\qF/\qF/\qF/\qF/\qF/\qF/\qF/\qF/\qF/\qF/\qF/\qF/\qF/\qF/\qF/\qF/\qF/\qF/\qF/\qF/\qF/\qF/\qF/\qF/\qF/\qF/\qF/\qF/\qF/\(false,())=(jex d)))/\(kl d.1.2.2.1 (0:Int) 20=false->kl d.1.2.2.1 (0:Int) 20=false/\kl d.1.2.2.1 (0:Int) 20=false/\kl d.1.2.2.1 (0:Int) 20=false/\qF/\qF/\qF/\qF/\qF/\qF/\qF/\qF/\qF/\qF/\qF/\qF/\qF/\qF/\qF/\qF/\qF/\qF/\qF/\qF/\qF/\qF/\qF/\qF/\qF/\qF/\qF/\qF/\qF/\qF/\qF/\qF/\qF/\qF/\qF/\qF/\qF/\(false,())=(jex d)))/\(kl d.1.2.1 (0:Int) 10000=false->kl d.1.2.1 (0:Int) 10000=false/\kl d.1.2.1 (0:Int) 10000=false/\kl d.1.2.1 (0:Int) 10000=false/\qF/\qF/\qF/\qF/\qF/\qF/\qF/\qF/\qF/\qF/\qF/\qF/\qF/\qF/\qF/\qF/\qF/\qF/\qF/\qF/\qF/\qF/\qF/\qF/\qF/\qF/\qF/\qF/\qF/\qF/\qF/\qF/\qF/\qF/\qF/\qF/\qF/\qF/\qF/\qF/\qF/\(false,())=(jex d)))/\(kl d.1.1 (1:Int) 240=false->kl d.1.1 (1:Int) 240=false/\kl d.1.1 (1:Int) 240=false/\kl d.1.1 (1:Int) 240=false/\qF/\qF/\qF/\qF/\qF/\qF/\qF/\qF/\qF/\qF/\qF/\qF/\qF/\qF/\qF/\qF/\qF/\qF/\qF/\qF/\qF/\qF/\qF/\qF/\qF/\qF/\qF/\qF/\qF/\qF/\qF/\qF/\qF/\qF/\qF/\qF/\qF/\qF/\qF/\qF/\qF/\qF/\qF/\qF/\qF/\(false,())=(jex d))
theorem AD:ja9 (YZ 69 [(38,gS),(118,bu),(86,cX)] 119 XU) (sU) Tryz.f89 (wt Tryz.f89) sS=sV:=by kernel_rfl
theorem KT (K:NoD×Unit->Int->(Bool×Unit)×Int) (i:Nat) (n:NoD) (r:List NoD) (s:Int):q8 K i (n::r) s=if(K (n,()) s).1.1=true then((i:Int),(K (n,()) s).2) else q8 K (i+1) r (K (n,()) s).2:=by
 rw[q8];cases (K (n,()) s).1.1 with
 |true=>rfl
 |false=>rfl
theorem EM:mg:=by
 intro n s a b;exact⟨iZ6,rfl,rfl⟩
theorem sW:bR:=by
 intro n y s h;exact qV _ h ⟨rfl,rfl⟩
theorem eE:yJ:=by
 unfold yJ jf3;intro l y s j m;refine⟨⟨(0,s),⟨⟨rfl,tZ⟩,⟨rfl,tZ⟩,tZ⟩,jv _,rfl,j⟩,fun x d=>⟨fun h=> ?_,fun h=> ?_⟩⟩;obtain⟨i,s1⟩:=x;have hi:i<l.length:=(by simpa using h);obtain⟨_,a,b⟩:=d;have g:l.drop i=nth l i::l.drop (i+1):=(by rw[L.wB hi];exact ke hi);simp only at a b;rw[g] at a b;rw[KT] at a;obtain⟨e,f⟩:=b;simp only[ju];refine⟨by omega,by omega,qV _ e ⟨fun k=> ?_,fun c=>⟨iZ6,(i+1,(y.2 (nth l i,()) s1).2),⟨⟨by simp,tZ⟩,⟨rfl,tZ⟩,tZ⟩,⟨hi,?_,f c⟩,by simp only;omega⟩⟩⟩;rw[jd k] at a;rw[<-a];exact⟨rfl,rfl⟩;rw[jc (by rw[c];decide)] at a;exact a;obtain⟨i,s1⟩:=x;have hi:l.length<=i:=(by simpa using h);obtain⟨_,a,_⟩:=d;simp only at a;rw[List.drop_eq_nil_of_le hi] at a;have a:((-1:Int),s1)=q8 y.2 0 l s:=a;rw[<-a];exact⟨rfl,rfl⟩
theorem bU:yb:=fun _ _ _ h=>⟨h,rfl,rfl⟩
theorem AE:eD:=fun _ _ _ h=>⟨h,rfl,rfl⟩
theorem Vr {P:Program} {C:Ctx} {w:World} (e:C.ok P) (l:P.follows .mixedOrders=true) {f:Nat} {fn:Func} {body:Code} (i:P.funcs[f]? =some fn) (h:fn.body=some body)
 (m:fn.ntmps=C.n) (A:Ann) {T:Nat} {st:Ty} {rs:List Ty} {want:(Ty.st rs).Data×st.Data} {s:st.Data} {sl:List (Nat×SV)} {vals:List Value}
 (p:XS C A body ⟨sl,[(yz,some (.box T false [.dat st s]))]⟩ (lH C fn T st rs want)) (a:Nat.ble vals.length C.n=true)
 {H:Imm} {b:Nat} {u:Value} (j:eY H w) (g:H b=none) (q:w.heap[b]? =some (.cells #[u] T (0,0))) (d:st.agg=false) (o:st.rv H u s)
 (c:∀ρ:Env,ρ.H=H->ρ.blk yz=some (some (b,0))->∀k v,kR sl k=some v->∃x,vals[k]? =some x/\SV.den P ρ v x):
 Calls P f vals.toArray w (P9 H w b T st rs want):=
 jcY e l i h m A (jy a) (XT p) j g q d o c
abbrev FnG (H:Imm) (b:Nat) (y:FE) (v:Value):Prop:=FnE PR H b 3 .int [tNo] [.bool] y.pre y.K v
theorem Vs {H:Imm} {t:Ty} {vals:List Value} {x:(Ty.st [t]).Data} (h:rvs H [t] vals x):∃v,vals=[v]/\t.rv H v x.1:=by
 match vals,h with
 |[v],h=>exact⟨v,rfl,h.1⟩
 |[],h=>exact h.elim
 |_::_::_,h=>have:=h.2;simp[rvs] at this
theorem Vt (q:gu) {H:Imm} {b:Nat} {y:FE} {i:Value} {g:Nat} (l:FnG H b y i) (m:H g=some (.cells #[i])):
 FnG H b ⟨DY y.pre,ga y.K⟩ (.func (.func 164) #[] #[.pointer (some ⟨g,0,none⟩)]):=by
 refine⟨164,_,rfl,qL Tryz.func164 (c:=wt Tryz.f164) (by kernel_rfl) (by kernel_rfl),fun H' w vals x s u j o n z r t f=> ?_⟩;obtain⟨v,rfl,h⟩:=Vs t;have key:=Vr (P:=PR) (C:=ctx 8 [] []) (oc trivial trivial) mixed Tryz.func164 (body:=wt Tryz.f164) (by kernel_rfl) (by kernel_rfl) (fun _=>none) (T:=3) (st:= .int) (rs:=[.bool])
  (vals:=[v,.pointer (some ⟨g,0,none⟩)]) (q x.1 y s f.1) (by kernel_rfl) o n z rfl r
 refine key (fun ρ d e k sv hk=> ?_)
 match k,hk with
 |0,hk=>
  have hk:some (SV.dat tNo x.1)=some sv:=hk;simp only[jw] at hk;subst hk;exact⟨v,rfl,by simp only[SV.den];rw[d];exact h⟩
 |1,hk=>
  have hk:some (SV.fe true yz 3 .int [tNo] [.bool] y.pre y.K)=some sv:=hk;simp only[jw] at hk;subst hk;refine⟨_,rfl,?_⟩;simp only[SV.den];intro p a;rw[e] at a;simp at a;subst a;refine⟨b,0,rfl,i,?_,g,rfl,?_⟩;rw[d];exact FnE.mono j l;rw[d];exact j _ _ m
 |k+2,hk=>cases hk
theorem RI (j:cY) (H:Imm) (b:Nat):FnG H b ⟨jcx,P3⟩ (.func (.func 117) #[] #[.pointer (some ⟨b,0,none⟩)]):=by
 refine⟨117,_,rfl,qL Tryz.func117 (c:=wt Tryz.f117) (by kernel_rfl) (by kernel_rfl),fun H' w vals x s u o i h n l m a=> ?_⟩;obtain⟨v,rfl,f⟩:=Vs m;have key:=Vr (P:=PR) (C:=ctx 18 [(38,gS),(118,bu)] []) (oc ⟨fun _=>vP,fun _=>Gd,tZ⟩ trivial) mixed Tryz.func117 (body:=wt Tryz.f117) (by kernel_rfl) (by kernel_rfl) (fun _=>none) (T:=3) (st:= .int) (rs:=[.bool])
  (vals:=[v,.pointer (some ⟨b,0,none⟩)]) (j x.1 s a.1 a.2.1) (by kernel_rfl) i h n rfl l
 refine key (fun ρ g e k sv hk=> ?_)
 match k,hk with
 |0,hk=>
  have hk:some (SV.dat tNo x.1)=some sv:=hk;simp only[jw] at hk;subst hk;exact⟨v,rfl,by simp only[SV.den];rw[g];exact f⟩
 |1,hk=>
  have hk:some (SV.bp yz 0)=some sv:=hk;simp only[jw] at hk;subst hk;refine⟨_,rfl,?_⟩;simp only[SV.den];intro p d;rw[e] at d;simp at d;subst d;exact⟨b,0,rfl,rfl⟩
 |k+2,hk=>cases hk
def EN (f:Nat) (rs:List Ty) (pre:FE->List NoD->Int->Prop) (K:FE->List NoD->Int->(Ty.st rs).Data×Int):Prop:=
 ∀(l:List NoD) (y:FE) (s:Int) (H:Imm) (w:World) (b:Nat) (lv a u:Value),eY H w->H b=none->w.heap[b]? =some (.cells #[u] 3 (0,0))->Ty.int.rv H u s->
  (Ty.slice tNo).rv H lv l->FnG H b y a->pre y l s->Calls PR f #[lv,a] w (P9 H w b 3 .int rs (K y l s))
theorem jay {C:Ctx} (j:C.ok PR) {f:Nat} {fn:Func} {body:Code} (o:PR.funcs[f]? =some fn) (m:fn.body=some body) (t:fn.ntmps=C.n) (i:Nat.ble 2 C.n=true) (A:FE->Int->Ann) {rs:List Ty}
 {pre:FE->List NoD->Int->Prop} {K:FE->List NoD->Int->(Ty.st rs).Data×Int}
 (x:∀(l:List NoD) (y:FE) (s:Int),pre y l s->XS C (A y s) body ⟨[(0,.dat (.slice tNo) l),(1,.fe false yz 3 .int [tNo] [.bool] y.pre y.K)],[(yz,some (.box 3 false [.dat .int s]))]⟩ (lH C fn 3 .int rs (K y l s))):EN f rs pre K:=by
 intro l y s H w b lv h u q g z v r B d;have key:=Vr (P:=PR) j mixed o m t (A y s) (T:=3) (st:= .int) (rs:=rs) (vals:=[lv,h]) (x l y s d) i q g z rfl v;refine key (fun ρ e c k sv hk=> ?_)
 match k,hk with
 |0,hk=>
  have hk:some (SV.dat (.slice tNo) l)=some sv:=hk;simp only[jw] at hk;subst hk;exact⟨lv,rfl,by simp only[SV.den];rw[e];exact r⟩
 |1,hk=>
  have hk:some (SV.fe false yz 3 .int [tNo] [.bool] y.pre y.K)=some sv:=hk;simp only[jw] at hk;subst hk;refine⟨_,rfl,?_⟩;simp only[SV.den];intro p a;rw[c] at a;simp at a;subst a;exact⟨b,0,rfl,h,by rw[e];exact B,rfl⟩
 |k+2,hk=>cases hk
theorem uG {σ:St} {o:Nat} {s:Int} (h:Vn σ o=some s):∃c,σ.obj o=some (.box 3 false [c])/\yf σ .int c=some (s,[]):=by
 unfold Vn at h
 split at h
 case h_2=>cases h
 rename_i T c d
 split at h
 case h_2=>cases h
 rename_i e a b;simp at h;subst h;have:=jb a;subst this;exact⟨c,d,b⟩
theorem RJ {q:Bool} {o T:Nat} {st:Ty} {ps rs:List Ty} {pre:(Ty.st ps).Data->st.Data->List Prop} {K:(Ty.st ps).Data->st.Data->(Ty.st rs).Data×st.Data} {y:FE} (h:jax st ps rs pre K=some y):
 SV.fe q o T st ps rs pre K=SV.fe q o T .int [tNo] [.bool] y.pre y.K:=by
 unfold jax at h
 split at h
 case isFalse=>cases h
 rename_i a
 split at h
 case isFalse=>cases h
 rename_i b
 split at h
 case isFalse=>cases h
 rename_i c;subst a;subst b;subst c;simp at h;subst h;rfl
theorem KU {v:SV} {o:Nat} {y:FE} (h:jcL v=some (o,y)):v= .fe false o 3 .int [tNo] [.bool] y.pre y.K:=by
 unfold jcL at h
 split at h
 case h_2=>cases h
 rename_i o' T st ps rs pre K
 split at h
 case h_2=>cases h
 rename_i c a b;simp at h;obtain⟨rfl,rfl⟩:=h;have:=jb a;subst this;exact RJ b
theorem Vu {σ:St} {b o:Nat} {y:FE} (h:jc8 σ b=some (o,y)):∃T fz,σ.obj b=some (.box T fz [.fe false o 3 .int [tNo] [.bool] y.pre y.K]):=by
 unfold jc8 at h
 split at h
 case h_2=>cases h
 rename_i d fz c a;rw[KU h] at a;exact⟨_,_,a⟩
abbrev jc9 (y:FE) (l:List NoD) (s:Int):(Ty.st [.int]).Data×Int:=(((q8 y.K 0 l s).1,()),(q8 y.K 0 l s).2)
abbrev jda (y:FE) (l:List NoD) (s:Int):(Ty.st [.bool]).Data×Int:=((decide (0<=(q8 y.K 0 l s).1),()),(q8 y.K 0 l s).2)
abbrev jdb (y:FE) (l:List NoD) (s:Int):(Ty.st [.bool]).Data×Int:=((!decide (0<=(q8 (ga y.K) 0 l s).1),()),(q8 (ga y.K) 0 l s).2)
theorem NP (L:EN 66 [.int] (fun y l s=>cn y.pre y.K l s) jc9) {σ:St} {svs:List SV} {out:Out} (h:Vo σ svs=some out) {B:w9} {ρ:Env} {w:World} {vals:List Value} (I:Sat PR B ρ σ.obj w) (C:SV.denL PR ρ svs vals)
 (t:vd out.vc):Calls PR 66 vals.toArray w (fun e w'=>∃v,e= .returned v/\kP PR B ρ σ out v w'):=by
 unfold Vo at h
 split at h
 case h_2=>cases h
 rename_i a c
 split at h
 case h_2=>cases h
 rename_i l fz o y M n
 split at h
 case h_2=>cases h
 rename_i s q O;simp at h;subst h;obtain⟨S,_⟩:=t;have F:=KU n;subst F;simp only[SV.denL] at C;obtain⟨D,_,rfl,E,vc,_,rfl,x,rfl⟩:=C;obtain⟨c,R,J⟩:=uG O;refine lI (st:= .int) (rs:=[.int]) (r:=jc9 y l s) I fz q R rfl (fun ρ1 b V u d g f N G Q m=> ?_);have A:=vD σ fz;have P:=kT d A J (fun o i=>by simp at i) m;have p:=kT d A M (fun o i=>i) (SV.den_mono g a D (fun o i=>by simp at i) E);simp only[SV.den] at x;obtain⟨W,C',z,T,k,j⟩:=x _ (by rw[<-f];exact N);simp at z;obtain⟨rfl,rfl⟩:=z;have j:vc=T:=j;subst j;exact L l y s ρ1.H w b D vc u d.good G Q P p (FnE.mono g.H k) S
theorem NQ (D:gu) (he:EN 163 [.bool] (fun y l s=>cn y.pre y.K l s) jda) {σ:St} {svs:List SV} {out:Out} (h:Vp σ svs=some out) {B:w9} {ρ:Env} {w:World} {vals:List Value} (hS:Sat PR B ρ σ.obj w)
 (R:SV.denL PR ρ svs vals) (L:vd out.vc):Calls PR 163 vals.toArray w (fun e w'=>∃v,e= .returned v/\kP PR B ρ σ out v w'):=by
 unfold Vp at h
 split at h
 case h_2=>cases h
 rename_i a f j
 split at h
 case h_2=>cases h
 rename_i l fz o y hf hl E
 split at h
 case h_2=>cases h
 rename_i s I hs;simp at h;subst h;obtain⟨q1,_⟩:=L;simp only[SV.denL] at R;obtain⟨S,_,rfl,Z,vc,_,rfl,O,rfl⟩:=R;simp only[SV.den,SV.denL] at O;obtain⟨vs,rfl,v5,_,i,Y,rfl⟩:=O;have i:vs= #[v5]:=jF.1 (by simpa using i);subst i;have:=jb hf;subst this;obtain⟨c,hx,hc⟩:=uG hs;obtain⟨W,fz5,M⟩:=Vu E;refine lI (st:= .int) (rs:=[.bool]) (r:=jda ⟨DY y.pre,ga y.K⟩ l s) hS (j::fz) I hx rfl (fun ρ1 b Cp u d G k hp hH hw C=> ?_);have x:=vD σ (j::fz);have hu:=kT d x hc (fun o m=>by simp at m) C;have F:=kT d x hl (fun o m=>jm _ m) (SV.den_mono G a S (fun o m=>by simp at m) Z);have n:(σ.frz (j::fz)).obj j=some (.box W true [.fe false o 3 .int [tNo] [.bool] y.pre y.K]):=(by rw[(x j).2 (by simp),M];rfl);obtain⟨p5,J,b5,C5,N,rfl,hw5,g,_,A⟩:=d.obs j _ n;obtain⟨X,V,Q,q⟩:=Y _ (by rw[<-k];exact J);simp at Q;obtain⟨rfl,rfl⟩:=Q;subst q;simp only[SV.denL,SV.den] at g;obtain⟨T,_,t,hy,rfl⟩:=g;have t:N= #[T]:=jF.1 (by simpa using t);subst t;obtain⟨b',C',P,u',z,p⟩:=hy _ hp;simp at P;obtain⟨rfl,rfl⟩:=P;have p:T=u':=p;subst p;exact he l ⟨DY y.pre,ga y.K⟩ s ρ1.H w b S _ u d.good hH hw hu F (Vt D z A) q1
theorem NR (P:cY) (J:EN 119 [.bool] (fun y l s=>cn (DY y.pre) (ga y.K) l s) jdb) {σ:St} {svs:List SV} {out:Out} (h:XU σ svs=some out) {B:w9} {ρ:Env} {w:World} {vals:List Value} (G:Sat PR B ρ σ.obj w)
 (A:SV.denL PR ρ svs vals) (q:vd out.vc):Calls PR 119 vals.toArray w (fun e w'=>∃v,e= .returned v/\kP PR B ρ σ out v w'):=by
 unfold XU at h
 split at h
 case h_2=>cases h
 rename_i a f o
 split at h
 case h_2=>cases h
 rename_i l fz L M
 split at h
 case h_2=>cases h
 rename_i s p O;simp at h;subst h;obtain⟨T,_⟩:=q;simp only[SV.denL] at A;obtain⟨C,_,rfl,E,vc,_,rfl,t,rfl⟩:=A;simp only[SV.den,SV.denL] at t;obtain⟨vs,rfl,V,_,d,D,rfl⟩:=t;have d:vs= #[V]:=jF.1 (by simpa using d);subst d;have:=jb L;subst this;obtain⟨c,S,I⟩:=uG O;refine lI (st:= .int) (rs:=[.bool]) (r:=jdb ⟨jcx,P3⟩ l s) G fz p S rfl (fun ρ1 b W u g n i N F R k=> ?_);have z:=vD σ fz;have Q:=kT g z I (fun o j=>by simp at j) k;have m:=kT g z M (fun o j=>j) (SV.den_mono n a C (fun o j=>by simp at j) E);obtain⟨X,C',x,ev⟩:=D _ (by rw[<-i];exact N);simp at x;obtain⟨rfl,rfl⟩:=x;subst ev;exact J l ⟨jcx,P3⟩ s ρ1.H w b C _ u g.good F R Q m (RI P ρ1.H b) T
theorem NS {n:Nat} {fs:List (Nat×wi)} {k:Nat} {e:St->List SV->Option Out} (c:nf fs) (b:enters PR k)
 (j:∀σ svs out,e σ svs=some out->∀B ρ w vals,Sat PR B ρ σ.obj w->SV.denL PR ρ svs vals->vd out.vc->Calls PR k vals.toArray w (fun e w'=>∃v,e= .returned v/\kP PR B ρ σ out v w')):(YZ n fs k e).ok PR:=by
 refine⟨O7 W4,dM c,Pq,rfl,fun f dst σ svs out h=> ?_⟩;have a:(match Nat.beq f k with|true=>e σ svs|false=>none)=some out:=h
 split at a
 case h_2=>cases a
 rename_i l;have:=jb l;subst this;exact⟨b,fun B ρ w vals g i d _ _=>j σ svs out a B ρ w vals g i d⟩
theorem enI:EN 66 [.int] (fun y l s=>cn y.pre y.K l s) jc9:=
 jay (C:=ctx 19 [] []) (oc trivial trivial) Tryz.func66 (body:=wt Tryz.f66) (by kernel_rfl) (by kernel_rfl) (by kernel_rfl) (fun y s=>Vq y.K y.pre s) (fun l y s h=>bh.mpr eE l y s h)
theorem enC:EN 163 [.bool] (fun y l s=>cn y.pre y.K l s) jda:=
 jay (C:=YZ 9 [] 66 Vo) (NS trivial (qL Tryz.func66 (c:=wt Tryz.f66) (by kernel_rfl) (by kernel_rfl)) (fun _ _ _ h _ _ _ _ b d a=>NP enI h b d a))
  Tryz.func163 (body:=wt Tryz.f163) (by kernel_rfl) (by kernel_rfl) (by kernel_rfl) (fun _ _ _=>none) (fun l y s h=>gT.mpr bU l y s h)
theorem enV:EN 119 [.bool] (fun y l s=>cn (DY y.pre) (ga y.K) l s) jdb:=
 jay (C:=YZ 9 [] 163 Vp) (NS trivial (qL Tryz.func163 (c:=wt Tryz.f163) (by kernel_rfl) (by kernel_rfl)) (fun _ _ _ h _ _ _ _ b d a=>NQ (i7.mpr sW) enC h b d a))
  Tryz.func119 (body:=wt Tryz.f119) (by kernel_rfl) (by kernel_rfl) (by kernel_rfl) (fun _ _ _=>none) (fun l y s h=>nN.mpr AE l y s h)
theorem noI:∀(l:List NoD) (i:Nat) (s:Int),(!decide (0<=(q8 (ga P3) i l s).1))=xC s l
 |[],i,s=>rfl
 |n::r,i,s=>by
  rw[KT,xC]
  have a:(ga P3 (n,()) s).1.1= !(Iv s n):=rfl
  have e2:(ga P3 (n,()) s).2=Wk n:=rfl
  rw[a,e2]
  cases b:Iv s n with
  |true=>rw[jc (by decide),noI r (i+1) (Wk n)];rfl
  |false=>
   rw[jd (by decide)]
   have:decide (0<=(i:Int))=true:=jK (by omega)
   show(!decide (0<=(i:Int)))=_
   rw[this];rfl
theorem jdA:∀(l:List NoD) (s:Int),-4611686018427387904<=s->s<=4611686018427387904->cn (DY jcx) (ga P3) l s
 |[],_,_,_=>trivial
 |n::r,s,h1,h2=>by
  refine⟨⟨⟨h1,h2,tZ⟩,tZ⟩,fun a=> ?_⟩
  have a:(!(Iv s n))=false:=a
  have a:Iv s n=true:=by simpa using a
  unfold Iv at a
  rw[ji,qm] at a
  exact jdA r (Wk n) (by omega) (by omega)
theorem KV:sV:=by
 unfold sV jeI jex jeH je9 jeG je8 Prod.q4;rintro⟨⟨un,rt,le,dk,dw,ni,mi,cp,sb,no,⟨⟩⟩,⟨⟩⟩;have e:vu (un,rt,le,dk,dw,ni,mi,cp,sb,no,())=((kl un 1 240&&kl rt 0 10000&&kl le 0 20&&kl dk 0 1440&&kl dw 0 dk&&U.share ni&&kl mi 0 10000)&&
  (decide ((sb.length:Int)=4)&&sb.all (ko fun(x:Int×Unit)=>(U.share x.fst,()))&&kl cp 0 1000000&&decide ((no.length:Int)<=4)&&xC 100001 no)):=by
  have n:decide ((sb.length:Int)=4)=decide (sb.length=4):=decide_eq_decide.2 (by omega);have e2:decide ((no.length:Int)<=4)=decide (no.length<=4):=decide_eq_decide.2 (by omega);rw[n,e2];rfl
 simp only;refine⟨fun f=>⟨f,f,f,fun g=>⟨g,g,g,fun i=>⟨i,i,i,fun c=>⟨c,c,c,c,c,fun j=>⟨j,j,j,fun k=>⟨k,k,k,fun d=>⟨d,d,fun _=>⟨d,d,fun l=>⟨l,l,fun _ _=>tZ,l,fun m=>⟨m,m,m,fun a=>⟨a,a,fun _=>⟨a,a,fun b=>⟨b,b,b,jdA no 100001 (by omega) (by omega),b,?_⟩,fun h=> ?_⟩⟩,fun h=> ?_⟩,fun h=> ?_⟩,fun h=> ?_⟩⟩,fun h=> ?_⟩,fun h=> ?_⟩,fun h=> ?_⟩,fun h=> ?_⟩,fun h=> ?_⟩,fun h=> ?_⟩,fun h=> ?_⟩
 .rw[noI,e];simp only[f,g,i,c,j,k,d,l,m,a,b,Bool.true_and]
 all_goals
  have q:=e;simp only[h,Bool.false_and,Bool.and_false] at q;simp only[h,q,and_self]
theorem HT:wq PR 89 sS:=
 jbx (NS (n:=69) (fs:=[(38,gS),(118,bu),(86,cX)]) (k:=119) (e:=XU) ⟨fun _=>vP,fun _=>Gd,fun _=>oe,tZ⟩
  (qL Tryz.func119 (c:=wt Tryz.f119) (by kernel_rfl) (by kernel_rfl)) (fun _ _ _ h _ _ _ _ b d a=>NR (sR.mpr EM) enV h b d a))
  mixed Tryz.func89 (by kernel_rfl) (by kernel_rfl) (by kernel_rfl) (by decide) sU (AD.mpr KV)
namespace U
def cmStep (m:List (Int×CaD)) (c:CaD):List (Int×CaD):=fa .int (Sq c) c m
def pQ (l:List CaD) (n:Nat):List (Int×CaD):=(l.take n).foldl cmStep []
def kJ (l:LgD) (F:BoD×Unit->Bool×Unit):Bool:=(F ((l,[],()),())).1
end U
def RK:wi:=⟨[.val tLg],[.int],false,fun d=>[(qj (kA d.1)).length<=100000],fun d=>(wd d.1,())⟩
def RL:Ann:=fun r=>match r with
 |14=>some fun σ=>{X:=Nat,sl:=fun i=>[(68,.dat .int (i:Int))],ob:=fun i=>[(64,some (.map false .int tCa (pQ (gd (.slice tCa) σ 66) i)))],inv:=fun i=>i<=(gd (.slice tCa) σ 66).length/\∀b:Nat,b<i->aM (gd (.slice tCa) σ 66) b=false,mu:=fun i=>(gd (.slice tCa) σ 66).length-i}
 |_=>none
abbrev jfl (d:LgD×Unit):=(d.1.1.2.2.1.length:Int)
abbrev jhT (d:LgD×Unit):=(decide ((d.1.2.2.1.length:Int)≠(jfl d))|| !d.1.2.2.1.all (ko fun(a:Int×Unit)=>(xD a.1,())))
abbrev jhU (d:LgD×Unit):=(decide ((d.1.2.1.length:Int)≠(jfl d))|| !d.1.2.1.all (ko fun(a:Int×Unit)=>(Lo a.1,())))
abbrev jf4 (d:LgD×Unit):=(d.1.q4.1.length:Int)
abbrev jhV (d:LgD×Unit):=(!vu d.1.2.2.2.1||decide (10<(jf4 d))|| !d.1.q4.1.all (ko fun(a:CaD×Unit)=>(Wb (jfl d) a.1,())))
abbrev jgy (d:LgD×Unit)(x:Nat):=(nth d.1.q4.1 x)
abbrev jhW (d:LgD×Unit)(x:Nat):=(Yq (kN Ty.int (jgy d x).1 (pQ d.1.q4.1 x))&& !decide (kY ((0:Int),(0:Int),(0:Int),()) (kN Ty.int (jgy d x).1 (pQ d.1.q4.1 x))=nth d.1.q4.1 x))
def RM:Prop:=∀(d:LgD×Unit),(qj (kA d.1)).length<=100000->(qj d.1.1).length<=100000/\(decide (k8 d.1.1≠0)=true->(k8 d.1.1,())=(wd d.1,()))/\(decide (k8 d.1.1≠0)=false->d.1.1.2.2.1.length<4611686018427387904->d.1.2.1.length<4611686018427387904->((!decide ((d.1.2.1.length:Int)≠(jfl d)))=true->∀(g:Int),g∈d.1.2.1->kI [])/\((jhU d)=true->((70:Int),())=(wd d.1,()))/\((jhU d)=false->d.1.2.2.1.length<4611686018427387904->((!decide ((d.1.2.2.1.length:Int)≠(jfl d)))=true->∀(g:Int),g∈d.1.2.2.1->kI [])/\((jhT d)=true->((70:Int),())=(wd d.1,()))/\((jhT d)=false->((!!vu d.1.2.2.2.1)=true->d.1.q4.1.length<4611686018427387904)->((!(!vu d.1.2.2.2.1||decide (10<(jf4 d))))=true->∀(c:CaD),c∈d.1.q4.1->kI [0<=(jfl d),(jfl d)<=4611686018427387904])/\((jhV d)=true->((70:Int),())=(wd d.1,()))/\((jhV d)=false->d.1.q4.1.length<4611686018427387904->(∃(x:Nat),((0=(x:Int)/\True)/\[]=pQ d.1.q4.1 x/\True)/\x<=d.1.q4.1.length/\∀(b:Nat),b<x->aM d.1.q4.1 b=false)/\∀(x:Nat),(x<=d.1.q4.1.length/\∀(b:Nat),b<x->aM d.1.q4.1 b=false)->(decide ((x:Int)<(jf4 d))=true->0<=(x:Int)/\(x:Int)<(jf4 d)/\((jhW d x)=true->((71:Int),())=(wd d.1,()))/\((jhW d x)=false->kK ((x:Int)+1)/\∃(a:Nat),(((x:Int)+1=(a:Int)/\True)/\fa Ty.int (jgy d x).1 (jgy d x) (pQ d.1.q4.1 x)=pQ d.1.q4.1 a/\True)/\(a<=d.1.q4.1.length/\∀(b:Nat),b<a->aM d.1.q4.1 b=false)/\d.1.q4.1.length-a<d.1.q4.1.length-x))/\(decide ((x:Int)<(jf4 d))=false->((0:Int),())=(wd d.1,()))))))
theorem KW {l:List CaD} {n:Nat} (h:n<l.length):pQ l (n+1)=fa .int (Sq (nth l n)) (nth l n) (pQ l n):=by
 unfold pQ;rw[L.kQ h,jL];rfl
theorem Vv (l:List CaD):∀x,x<=l.length->∀k:Int,(kN .int k (pQ l x)=none->∀j,j<x->Sq (nth l j)≠k)/\(∀c,kN .int k (pQ l x)=some c->∃j,j<x/\nth l j=c/\Sq c=k)
 |0,_,k=>⟨fun _ j a=>by omega,fun c h=>by cases h⟩
 |x+1,i,k=>by
  obtain⟨d,f⟩:=Vv l x (by omega) k
  rw[KW (show x<l.length by omega)]
  by_cases e:k=Sq (nth l x)
  subst e
  rw[M.pS (kt:= .int)]
  refine⟨fun h=>(by cases h),fun c h=> ?_⟩
  simp only[jw] at h
  subst h
  exact⟨x,by omega,rfl,rfl⟩
  rw[M.dl (kt:= .int) e]
  refine⟨fun h j a=> ?_,fun c h=> ?_⟩
  by_cases e2:j=x
  subst e2;exact fun b=>e b.symm
  exact d h j (by omega)
  obtain⟨j,a,g⟩:=f c h
  exact⟨j,by omega,g⟩
theorem KX {l:List CaD} {i:Nat} (hi:i<=l.length):aM l i=true↔∃j,j<i/\Sq (nth l j)=Sq (nth l i)/\nth l j≠nth l i:=by
 unfold aM;rw[ze];constructor;rintro⟨x,d,h⟩;obtain⟨j,c,rfl⟩:=zj.1 d;simp only[ji,jr,jP,jE] at h;refine⟨j,by omega,?_⟩;rw[L.wB (show j<l.length by omega)];exact h;rintro⟨j,c,a,b⟩;refine⟨nth l j,zj.2 ⟨j,by omega,(L.wB (by omega)).symm⟩,?_⟩;simp only[ji,jr,jP,jE];exact⟨a,b⟩
theorem jaz {l:List CaD} {x:Nat} (u:x<l.length) (h:∀b:Nat,b<x->aM l b=false):
 (Yq (kN .int (nth l x).1 (pQ l x))&& !decide (kY ((0:Int),(0:Int),(0:Int),()) (kN .int (nth l x).1 (pQ l x))=nth l x))=aM l x:=by
 obtain⟨k,r⟩:=Vv l x (by omega) (nth l x).1;have no:∀i j,i<j->j<x->Sq (nth l i)=Sq (nth l j)->nth l i=nth l j:=fun i j a f s=>by
  by_cases e:nth l i=nth l j;exact e;have:=(KX (show j<=l.length by omega)).2 ⟨i,a,s,e⟩;rw[h j f] at this;cases this
 rw[j7,KX (by omega)];cases p:kN (β:=CaD) .int (nth l x).1 (pQ l x) with
 |none=>
  have k:=k p;constructor;intro t;cases t;rintro⟨j,f,e,_⟩;exact absurd e (k j f)
 |some c=>
  obtain⟨j,f,d,o⟩:=r c p;show(!decide (c=nth l x))=true↔_;rw[jP,jE];constructor;intro m;exact⟨j,f,by rw[d];exact o,by rw[d];exact m⟩;rintro⟨i,hi,q,e2⟩ g;have n:Sq (nth l i)=Sq (nth l j):=(by rw[d,q];exact o.symm);rcases Nat.lt_trichotomy i j with a|a|a;exact e2 (by rw[no i j a f n,d,g]);subst a;exact e2 (by rw[d,g]);exact e2 (by rw[<-no j i a hi n.symm,d,g])
theorem NU {l:List CaD} {x:Nat} (a:x<l.length) (h:aM l x=true):b7 l=true:=by
 unfold b7 DX;rw[ze];exact⟨x,jC.2 a,h⟩
theorem KY {l:List CaD} (h:∀b:Nat,b<l.length->aM l b=false):b7 l=false:=by
 unfold b7 DX;rw[zq];intro b a;rw[h b (jC.1 a)];decide
theorem jdc {b:Bool} (h:(!b)=true):b=false:=by cases b with|false=>rfl|true=>cases h
theorem jdd {b:Bool} (h:(!b)=false):b=true:=by cases b with|true=>rfl|false=>cases h
theorem jdB (a b:Nat) (p:Bool):(decide ((a:Int)≠(b:Int))|| !p)= !(decide (a=b)&&p):=by
 by_cases e:a=b;subst e;simp;have:(a:Int)≠(b:Int):=(by omega);simp[e,this]
theorem jaA (l:LgD):cm l=((decide ((yh l).length=(kC (kA l)).length)&&(yh l).all Lo)&&(decide ((Gn l).length=(kC (kA l)).length)&&(Gn l).all xD)&&(vu (lc l)&&(decide ((wF l).length<=10)&&(wF l).all (nP (kC (kA l)).length)))):=rfl
theorem Vw:RM:=by
 unfold RM jhW jgy jhV jf4 jhU jhT jfl Prod.q4;rintro⟨l,⟨⟩⟩ C;have y:∀v,k8 (kA l)≠0->v=k8 (kA l)->((v:Int),())=(wd l,()):=fun v h e=>by
  unfold wd;rw[jd h,e]
 have c:¬(k8 (kA l)≠0)->cm l=false->((70:Int),())=(wd l,()):=fun h e=>by
  unfold wd;rw[jc h,jd e]
 have o:¬(k8 (kA l)≠0)->cm l=true->b7 (wF l)=true->((71:Int),())=(wd l,()):=fun h e e2=>by
  unfold wd;rw[jc h,jc (by rw[e];decide),jd e2]
 have n:¬(k8 (kA l)≠0)->cm l=true->b7 (wF l)=false->((0:Int),())=(wd l,()):=fun h e e2=>by
  unfold wd;rw[jc h,jc (by rw[e];decide),jc (by rw[e2];decide)]
 have q:=jdB (yh l).length (kC (kA l)).length ((yh l).all Lo);have r:=jdB (Gn l).length (kC (kA l)).length ((Gn l).all xD);have s:(!vu (lc l)||decide ((10:Int)<(wF l).length)|| !(wF l).all (nP (kC (kA l)).length))= !(vu (lc l)&&(decide ((wF l).length<=10)&&(wF l).all (nP (kC (kA l)).length))):=by
  have:decide ((10:Int)<(wF l).length)= !decide ((wF l).length<=10):=by
   by_cases e:(wF l).length<=10;rw[jK e,zm (by omega)];rfl;rw[zm e,jK (by omega)];rfl
  rw[this];cases vu (lc l)<;>cases decide ((wF l).length<=10)<;>rfl
 have m:=jaA l;refine⟨C,fun h=>y _ (ja h) rfl,fun h k _=>⟨fun _ _ _=>tZ,fun g=> ?_,fun g _=>⟨fun _ _ _=>tZ,fun i=> ?_,fun i _=>⟨fun _ _ _=>⟨jZ _,?_,tZ⟩,fun j=> ?_,fun j w=>⟨⟨0,⟨⟨rfl,tZ⟩,rfl,tZ⟩,jv _,fun b u=>by omega⟩,fun x D=> ?_⟩⟩⟩⟩⟩;have g:=q.symm.trans g;refine c (je h) ?_;rw[m,show(decide ((yh l).length=(kC (kA l)).length)&&(yh l).all Lo)=false from jdc g];rfl;have i:=r.symm.trans i;refine c (je h) ?_;rw[m,show(decide ((Gn l).length=(kC (kA l)).length)&&(Gn l).all xD)=false from jdc i,Bool.and_false];rfl;have k:(kC (kA l)).length<4611686018427387904:=k;show((kC (kA l)).length:Int)<=4611686018427387904;omega;have j:=s.symm.trans j;refine c (je h) ?_;rw[m,show(vu (lc l)&&(decide ((wF l).length<=10)&&(wF l).all (nP (kC (kA l)).length)))=false from jdc j,Bool.and_false];have z:=q.symm.trans g;have A:=r.symm.trans i;have B:=s.symm.trans j;have t:cm l=true:=by
  rw[m,show(decide ((yh l).length=(kC (kA l)).length)&&(yh l).all Lo)=true from jdd z,show(decide ((Gn l).length=(kC (kA l)).length)&&(Gn l).all xD)=true from jdd A,show(vu (lc l)&&(decide ((wF l).length<=10)&&(wF l).all (nP (kC (kA l)).length)))=true from jdd B];rfl
 obtain⟨E,d⟩:x<=(wF l).length/\∀b:Nat,b<x->aM (wF l) b=false:=D;have w:(wF l).length<4611686018427387904:=w;refine⟨fun f=> ?_,fun f=> ?_⟩;have f:(x:Int)<(wF l).length:=ja f;have a:x<(wF l).length:=(by omega);have cc:=jaz a d;refine⟨jZ _,f,fun p=> ?_,fun p=>⟨iZ6,x+1,⟨⟨by simp,tZ⟩,(KW a).symm,tZ⟩,⟨a,fun b u=> ?_⟩,by show(wF l).length-(x+1)<(wF l).length-x;omega⟩⟩;exact o (je h) t (NU a (cc.symm.trans p));by_cases e:b=x;subst e;exact cc.symm.trans p;exact d b (by omega);have f:¬(x:Int)<(wF l).length:=je f;exact n (je h) t (KY fun b u=>d b (by omega))
theorem RN:wq PR 59 RK:=vN RL Vw Tryz.func59 (kcC F5 (kcC HT (kcC oe (kcC KQ (kcC KR (kcC KS (kcC DH kcN))))))) koN
end Go.X
namespace Go.Proofs
open Go.Shelf
def Tryz.sortLn_ren:Go.Shelf.Ren:=⟨fun|6=>62|15=>93|14=>92|28=>130|29=>131|20=>122|21=>123|22=>124|23=>125|24=>126|25=>127|26=>128|27=>129|46=>166|47=>167|48=>168|49=>169|50=>170|57=>211|n=>n,fun|22=>45|24=>51|25=>117|3=>3|39=>105|0=>0|53=>180|55=>182|4=>4|46=>174|45=>173|50=>63|5=>5|9=>9|66=>207|70=>211|76=>234|77=>235|n=>n,fun|n=>n⟩
theorem Tryz.sortLn:Go.Proofs.SlLaysF0.n6 Tryz.prog Tryz.sortLn_ren:={
 mixed:=by kernel_rfl
 f6:=⟨Tryz.f62.name,by decide,xlay Tryz.func62⟩
 f14:=⟨Tryz.f92.name,by decide,xlay Tryz.func92⟩
 f15:=xlay Tryz.func93
 f20:=⟨Tryz.f122.name,by decide,xlay Tryz.func122⟩
 f21:=⟨Tryz.f123.name,by decide,xlay Tryz.func123⟩
 f22:=⟨Tryz.f124.name,by decide,xlay Tryz.func124⟩
 f23:=⟨Tryz.f125.name,by decide,xlay Tryz.func125⟩
 f24:=⟨Tryz.f126.name,by decide,xlay Tryz.func126⟩
 f25:=⟨Tryz.f127.name,by decide,xlay Tryz.func127⟩
 f26:=⟨Tryz.f128.name,by decide,xlay Tryz.func128⟩
 f27:=⟨Tryz.f129.name,by decide,xlay Tryz.func129⟩
 f28:=xlay Tryz.func130
 f29:=xlay Tryz.func131
 f46:=⟨Tryz.f166.name,by decide,xlay Tryz.func166⟩
 f47:=xlay Tryz.func167
 f48:=xlay Tryz.func168
 f49:=⟨Tryz.f169.name,by decide,xlay Tryz.func169⟩
 f50:=⟨Tryz.f170.name,by decide,xlay Tryz.func170⟩
 f57:=⟨Tryz.f211.name,by decide,xlay Tryz.func211⟩
 t0:=Tryz.underlying0
 a0:=Tryz.isAgg0
 z0:=Tryz.sizeOf0
 v0:=Tryz.zeroValue0
 t3:=Tryz.underlying3
 a3:=Tryz.isAgg3
 z3:=Tryz.sizeOf3
 v3:=Tryz.zeroValue3
 t4:=Tryz.underlying4
 a4:=Tryz.isAgg4
 z4:=Tryz.sizeOf4
 v4:=Tryz.zeroValue4
 t5:=Tryz.underlying5
 a5:=Tryz.isAgg5
 z5:=Tryz.sizeOf5
 v5:=Tryz.zeroValue5
 t9:=Tryz.underlying9
 a9:=Tryz.isAgg9
 z9:=Tryz.sizeOf9
 v9:=Tryz.zeroValue9
 t22:=Tryz.underlying45
 a22:=Tryz.isAgg45
 z22:=Tryz.sizeOf45
 v22:=Tryz.zeroValue45
 t25:=Tryz.underlying117
 a25:=Tryz.isAgg117
 z25:=Tryz.sizeOf117
 v25:=Tryz.zeroValue117
 t39:=Tryz.underlying105
 a39:=Tryz.isAgg105
 z39:=Tryz.sizeOf105
 v39:=Tryz.zeroValue105
 t45:=Tryz.underlying173
 a45:=Tryz.isAgg173
 z45:=Tryz.sizeOf173
 v45:=Tryz.zeroValue173
 t46:=Tryz.underlying174
 a46:=Tryz.isAgg174
 z46:=Tryz.sizeOf174
 v46:=Tryz.zeroValue174
 t50:=Tryz.underlying63
 a50:=Tryz.isAgg63
 z50:=Tryz.sizeOf63
 v50:=Tryz.zeroValue63
 t53:=Tryz.underlying180
 a53:=Tryz.isAgg180
 z53:=Tryz.sizeOf180
 v53:=Tryz.zeroValue180
 t55:=Tryz.underlying182
 a55:=Tryz.isAgg182
 z55:=Tryz.sizeOf182
 v55:=Tryz.zeroValue182
 t66:=Tryz.underlying207
 a66:=Tryz.isAgg207
 z66:=Tryz.sizeOf207
 v66:=Tryz.zeroValue207
 t70:=Tryz.underlying211
 a70:=Tryz.isAgg211
 z70:=Tryz.sizeOf211
 v70:=Tryz.zeroValue211
 t76:=Tryz.underlying234
 a76:=Tryz.isAgg234
 z76:=Tryz.sizeOf234
 v76:=Tryz.zeroValue234
 t77:=Tryz.underlying235
 a77:=Tryz.isAgg235
 z77:=Tryz.sizeOf235
 v77:=Tryz.zeroValue235}
end Go.Proofs
namespace Go.X
open U
open Go.Proofs
abbrev rwN:Sh:= .cl (.row 3 .int .no)
namespace U
def bl (o:Option BlD):BlD:=kU (Ty.dflt tBl) o
def P4 (m:List (Int×Option BlD)):Prop:=∀e∈m,∃b,e.2=some b/\pP b
def E8 (o:BoD):Prop:=P4 (ID o)/\(ID o).length<=100/\((ID o).map (·.1)).Nodup/\∀e∈ID o,∀b,e.2=some b->Oy b=e.1
def P5 (b:BlD) (a:Int) (out:List Int):Prop:=(w7 b).length<=8/\(∀p∈w7 b,0<=p/\p<(out.length:Int))/\0<=a/\a<=100000000000000000/\∀x∈out,-1000000000000000000<=x/\x<=1000000000000000000
end U
def sX:wi:=⟨[.val tLn,.val tLn],[.int],false,fun _=>[],fun d=>(uV d.1 d.2.1,())⟩
def sY:Prop:=∀(d:JbD×JbD×Unit),(yd [ca d.1.1 d.2.1.1,ca d.1.2.1 d.2.1.2.1],())=(uV d.1 d.2.1,())
abbrev pJ:qi:=TP tLn 51
def AF:wi:=⟨[.val tBo],[.slice tLn],false,fun d=>[E8 d.1],fun d=>(kz d.1,())⟩
def AG:Ann:=fun r=>match r with
 |3=>some fun σ=>{X:=List (Int×Option BlD)×List LnD,sl:=fun _=>[(3,.own 3 tLn)],ob:=fun x=>[(8,some (.iter .int (.ptr tBl) x.1 none)),(3,some (.row 51 tLn false .yes x.2))],inv:=fun x=>(x.2++qO x.1).Perm (qO (ID (gb tBo σ 1)))/\P4 x.1,mu:=fun x=>x.1.length}
 |_=>none
abbrev jhf (a:Int×Option BlD):=(kU ((((0:Int),(0:Int),(0:Int),(0:Int),(0:Int),(0:Int),()),(0:Int),(0:Int),(0:Int),()),((0:Int),(0:Int),(0:Int),(0:Int),(0:Int),(0:Int),(0:Int),(0:Int),[],[],()),(0:Int),(0:Int),[],(0:Int),(0:Int),false,(0:Int),()) a.2)
abbrev jgz:=(ku (Ty.int.pair (Ty.int.pair (Ty.int.pair (Ty.int.pair (Ty.int.pair (Ty.int.pair Ty.unit)))))) fun(a:JbD×JbD×Unit)=>(uV a.1 a.2.1,()))
def AH:Prop:=∀(d:BoD×Unit),E8 d.1->(∃(x:List (Int×Option BlD)×List JbD),((True/\True)/\d.1.2.1=x.1/\x.2=[]/\True)/\(x.2++qO x.1).Perm (qO (ID d.1))/\P4 x.1)/\∀(x:List (Int×Option BlD)×List JbD),(x.2++qO x.1).Perm (qO (ID d.1))/\P4 x.1->(x.1=[]->(false=true->False)/\(qF->(∀(e:JbD),e∈x.2->∀(y:JbD),y∈x.2->kI [])/\qZ jgz x.2/\(kr jgz x.2,())=(kz d.1,())))/\∀(pre:List (Int×Option BlD)) (a:Int×Option BlD) (b:List (Int×Option BlD)),x.1=pre++a::b->(true=true->a.2.isSome=true/\pP (jhf a)/\(x.2.length+[qh (jhf a)].length)*48<=140737488355328/\∃(c:List (Int×Option BlD)×List JbD),((True/\True)/\x.2++[qh (jhf a)]=c.2/\pre++b=c.1/\True)/\((c.2++qO c.1).Perm (qO (ID d.1))/\P4 c.1)/\c.1.length<x.1.length)/\(true=false->(∀(f:JbD),f∈x.2->∀(y:JbD),y∈x.2->kI [])/\qZ jgz x.2/\(kr jgz x.2,())=(kz d.1,()))
def HU:wi:=⟨[.val (.slice .int)],[.int],false,fun d=>[d.1≠[]],fun d=>(yW d.1,())⟩
def HV:Ann:=fun r=>match r with
 |5=>some fun σ=>{X:=Nat,sl:=fun i=>[(4,.dat .int (i:Int)),(3,.dat .int (((gd (.slice .int) σ 0).take i).foldl max (nth (gd (.slice .int) σ 0) 0)))],ob:=fun _=>[],inv:=fun i=>1<=i/\i<=(gd (.slice .int) σ 0).length,mu:=fun i=>(gd (.slice .int) σ 0).length-i}
 |_=>none
def HW:Prop:=∀(d:List Int×Unit),d.1≠[]->d.1.length<4611686018427387904->(decide ((d.1.length:Int)<1)=true->False)/\(decide ((d.1.length:Int)<1)=false->(0:Int)<=0/\0<(d.1.length:Int)/\(∃(x:Nat),((1=(x:Int)/\nth d.1 (Int.toNat 0)=List.foldl max (nth d.1 0) (List.take x d.1)/\True)/\True)/\1<=x/\x<=d.1.length)/\∀(x:Nat),1<=x/\x<=d.1.length->d.1.length<4611686018427387904->(decide ((x:Int)<d.1.length)=true->0<=(x:Int)/\(x:Int)<d.1.length/\kK ((x:Int)+1)/\∃(a:Nat),(((x:Int)+1=(a:Int)/\max (List.foldl max (nth d.1 0) (List.take x d.1)) (nth d.1 x)=List.foldl max (nth d.1 0) (List.take a d.1)/\True)/\True)/\(1<=a/\a<=d.1.length)/\d.1.length-a<d.1.length-x)/\(decide ((x:Int)<d.1.length)=false->(List.foldl max (nth d.1 0) (List.take x d.1),())=(yW d.1,())))
def AI:qi:=⟨[.val (.ptr tBl),.val .int,.own rwN true],[],fun d=>[d.1.isSome=true,P5 (U.bl d.1) d.2.1 d.2.2.1],fun d=>((),(Yn d.2.1 (U.bl d.1) d.2.2.1,()))⟩
def AJ:Ann:=fun r=>match r with
 |1=>some fun σ=>{X:=Nat,sl:=fun i=>[(13,.dat .int (i:Int))],ob:=fun i=>[(1000002,some (.row 3 .int false .no (wh (gd .int σ 1) (gd (.slice .int) σ 11) (gr .int σ 1000002) i)))],inv:=fun i=>i<=(gd (.slice .int) σ 11).length,mu:=fun i=>(gd (.slice .int) σ 11).length-i}
 |_=>none
abbrev jea (d:Option BlD×Int×List Int×Unit):=(kU ((((0:Int),(0:Int),(0:Int),(0:Int),(0:Int),(0:Int),()),(0:Int),(0:Int),(0:Int),()),((0:Int),(0:Int),(0:Int),(0:Int),(0:Int),(0:Int),(0:Int),(0:Int),[],[],()),(0:Int),(0:Int),[],(0:Int),(0:Int),false,(0:Int),()) d.1)
abbrev jeW (d:Option BlD×Int×List Int×Unit):=(↑(jea d).q4.1.length:Int)
abbrev jfD (d:Option BlD×Int×List Int×Unit)(x:Nat):=(nth (jea d).q4.1 x)
abbrev jf5 (d:Option BlD×Int×List Int×Unit)(x:Nat):=(wh d.2.1 (jea d).q4.1 d.2.2.1 x)
abbrev jhg (d:Option BlD×Int×List Int×Unit)(x:Nat):=(nth (jf5 d x) (jfD d x).toNat+d.2.1.tdiv (jeW d))
abbrev jf6 (d:Option BlD×Int×List Int×Unit)(x:Nat):=((jf5 d x).set (jfD d x).toNat (jhg d x))
def AK:Prop:=∀(d:Option BlD×Int×List Int×Unit),d.1.isSome=true->P5 (U.bl d.1) d.2.1 d.2.2.1->d.1.isSome=true/\((jea d).q4.1.length<4611686018427387904->(∃(x:Nat),((0=(x:Int)/\True)/\d.2.2.1=wh d.2.1 (jea d).q4.1 d.2.2.1 x/\True)/\x<=(jea d).q4.1.length)/\∀(x:Nat),x<=(jea d).q4.1.length->(decide ((x:Int)<(jeW d))=true->0<=(x:Int)/\(x:Int)<(jeW d)/\0<=nth (jea d).q4.1 x/\nth (jea d).q4.1 x<(↑(jf5 d x).length:Int)/\d.1.isSome=true/\(jeW d)≠0/\kK (d.2.1.tdiv (jeW d))/\kK (jhg d x)/\0<=nth (jea d).q4.1 x/\nth (jea d).q4.1 x<(↑(jf5 d x).length:Int)/\d.1.isSome=true/\((jea d).q4.1.length<4611686018427387904->(jeW d)≠0/\(decide ((x:Int)<d.2.1.tmod (jeW d))=true->0<=nth (jea d).q4.1 x/\nth (jea d).q4.1 x<(↑(jf6 d x).length:Int)/\kK (nth (jf6 d x) (jfD d x).toNat+1)/\0<=nth (jea d).q4.1 x/\nth (jea d).q4.1 x<(↑(jf6 d x).length:Int)/\kK ((x:Int)+1)/\∃(a:Nat),(((x:Int)+1=(a:Int)/\True)/\(jf6 d x).set (jfD d x).toNat (nth (jf6 d x) (jfD d x).toNat+1)=wh d.2.1 (jea d).q4.1 d.2.2.1 a/\True)/\a<=(jea d).q4.1.length/\(jea d).q4.1.length-a<(jea d).q4.1.length-x)/\(decide ((x:Int)<d.2.1.tmod (jeW d))=false->kK ((x:Int)+1)/\∃(a:Nat),(((x:Int)+1=(a:Int)/\True)/\(jf5 d x).set (jfD d x).toNat (jhg d x)=wh d.2.1 (jea d).q4.1 d.2.2.1 a/\True)/\a<=(jea d).q4.1.length/\(jea d).q4.1.length-a<(jea d).q4.1.length-x)))/\(decide ((x:Int)<(jeW d))=false->()=()/\(wh d.2.1 (jea d).q4.1 d.2.2.1 x,())=(Yn d.2.1 (U.bl d.1) d.2.2.1,())))
theorem uH:sY:=fun _=>rfl
theorem sZ:wq PR 63 sX:=wb uH Tryz.func63 (kcC ya (kcC bg kcN)) koN
theorem pK:y7 PR 62 pJ:=
 CC Tryz.sortLn 51 rfl (jy (by kernel_rfl)) Tryz.isAgg51 Tryz.sizeOf51 (qL Tryz.func62 (c:=wt Tryz.f62) (by kernel_rfl) (by kernel_rfl))
theorem XV:fL uV:=by
 have e:uV=Sk (fun a b=>ca (dp a) (dp b)) (fun a b=>ca (m0 a) (m0 b)):=by
  funext a b;unfold uV;simp only[ww,Sk]
  split<;>(try rfl)
  split<;>(try rfl)
  rename_i h;exact(jQ.1 h).symm
 rw[e];exact pm (od lS dp) (od lS m0)
theorem Vx {a b:LnD} (h:uV a b=0):m0 a=m0 b:=by
 unfold uV at h;rw[ww] at h
 split at h
 contradiction;rw[qM] at h;exact ab.1 h
def jdC (l:List LnD):Prop:=∀a∈l,∀b∈l,m0 a=m0 b->a=b
theorem jde {l:List LnD} (h:jdC l):qZ (ku tLn fun x=>(uV x.1 x.2.1,())) l:=A4 XV (fun a b d e c=>h a d b e (Vx c))
theorem Ge {o:BoD} (h:E8 o):jdC (qO (ID o)):=by
 obtain⟨j,_,c,d⟩:=h;intro a s b t e;obtain⟨x,f,rfl⟩:=jT.1 s;obtain⟨y,g,rfl⟩:=jT.1 t;obtain⟨p,l,_⟩:=j x f;obtain⟨q,m,_⟩:=j y g;have u:=d x f p l;have w:=d y g q m;rw[l,m] at e;have e:Oy p=Oy q:=e;have n:x.1=y.1:=(by rw[<-u,<-w,e]);have i:=(M.eX (kt:= .int) c (k:=x.1) (v:=x.2)).2 f;have r:=(M.eX (kt:= .int) c (k:=y.1) (v:=y.2)).2 g;rw[n,r] at i;have e2:y.2=x.2:=(by simpa using i);rw[e2]
theorem DM:AH:=by
 unfold AH jgz jhf;rintro⟨o,⟨⟩⟩ n;have p:=Ge n;obtain⟨s,d,t,u⟩:=id n;have d:(ID o).length<=100:=d;refine⟨⟨(ID o,[]),⟨⟨tZ,tZ⟩,rfl,rfl,tZ⟩,List.Perm.refl _,s⟩,fun x q=>⟨fun i=>⟨fun h=>(by cases h),fun _=>⟨fun _ _ _ _=>tZ,?_⟩⟩,fun pre e c j=>⟨fun _=> ?_,fun h=>(by cases h)⟩⟩⟩;obtain⟨l,out⟩:=x;have i:l=[]:=i;subst i;have f:(out++[]).Perm (qO (ID o)):=q.1;rw[j9] at f;exact⟨jde fun a r b g=>p a (f.mem_iff.1 r) b (f.mem_iff.1 g),jN (·,()) (Js (jde p) f)⟩;obtain⟨l,out⟩:=x;have j:l=pre++e::c:=j;subst j;obtain⟨f,hk⟩:(out++qO (pre++e::c)).Perm (qO (ID o))/\P4 (pre++e::c):=q;obtain⟨b,g,v⟩:=hk e (by simp);have m:=f.length_eq;simp only[qO,jJ,zf,jY] at m;obtain⟨k,z⟩:=e;have g:z=some b:=g;subst g;refine⟨rfl,v,by simp only[jY,zv];omega,(pre++c,out++[qh b]),⟨⟨tZ,tZ⟩,rfl,rfl,tZ⟩,⟨?_,fun y w=>hk y ?_⟩,by simp only[jJ,jY];omega⟩;refine List.Perm.trans ?_ f;simp only[qO,zi,zg,jI,List.singleton_append];exact List.Perm.append_left out List.perm_middle.symm;rcases js.1 w with h|h;exact jh _ h;exact jg _ (jm _ h)
theorem aP:wq PR 35 AF:=vN AG DM Tryz.func35 (kcC ae (kcC sZ kcN)) (koC pK koN)
theorem KZ:HW:=by
 rintro⟨l,⟨⟩⟩ a c;have a:l≠[]:=a;have b:0<l.length:=List.length_pos_iff.2 a;refine⟨fun h=> ?_,fun _=>⟨by decide,by simp only;omega,⟨1,⟨⟨rfl,?_,tZ⟩,tZ⟩,jj _,b⟩,fun x d _=>⟨fun h=> ?_,fun h=> ?_⟩⟩⟩;have h:(l.length:Int)<1:=ja h;omega;show nth l 0=List.foldl max (nth l 0) (l.take 1);have:=L.kQ (l:=l) (i:=0) b;rw[this];show nth l 0=max (nth l 0) (nth l 0);omega;have h:(x:Int)<l.length:=ja h;have c:l.length<4611686018427387904:=c;refine⟨jZ _,h,iZ6,x+1,⟨⟨by simp,?_,tZ⟩,tZ⟩,⟨by omega,by show x+1<=l.length;omega⟩,by show l.length-(x+1)<l.length-x;omega⟩;show max (List.foldl max (nth l 0) (l.take x)) (nth l x)=List.foldl max (nth l 0) (l.take (x+1));rw[L.kQ (show x<l.length by omega),jL];rfl;have h:¬(x:Int)<l.length:=je h;show(List.foldl max (nth l 0) (l.take x),())=(yW l,());rw[zD (by omega)];rfl
theorem HX:wq PR 72 HU:=vN HV KZ Tryz.func72 kcN koN
theorem eG (a:Int) (tm out:List Int) (k:Nat):wh a tm out (k+1)=m9 a tm (wh a tm out k) k:=by
 unfold wh;rw[za,jL];rfl
theorem mh {a M:Int} {tm out:List Int} (h:0<=a/\a<=100000000000000000) (d:∀p∈tm,0<=p/\p<(out.length:Int)) (c:∀x∈out,-1000000000000000000<=x/\x<=M):
 ∀k,k<=tm.length->(wh a tm out k).length=out.length/\∀j,j<out.length->-1000000000000000000<=nth (wh a tm out k) j/\nth (wh a tm out k) j<=M+(k:Int)*100000000000000001
 |0,_=>⟨rfl,fun j e=>by
  have:=c _ (L.kx e)
  show _<=nth out j/\nth out j<=_
  omega⟩
 |k+1,hk=>by
  obtain⟨f,g⟩:=mh h d c k (by omega)
  have m:=d _ (L.kx (show k<tm.length by omega))
  have n:=XQ (b:=(tm.length:Int)) h (by omega)
  rw[eG]
  unfold m9
  refine⟨by rw[zN,f],fun j e=> ?_⟩
  rw[L.ye (by rw[f];omega)]
  have i:=g j e
  have l:=g (nth tm k).toNat (by omega)
  split
  split<;>omega
  omega
theorem DN:AK:=by
 unfold AK jf6 jhg jf5 jfD jeW jea Prod.q4;rintro⟨o,a,out,⟨⟩⟩ j w;obtain⟨b,rfl⟩:∃b,o=some b:=Option.isSome_iff_exists.1 j;obtain⟨z,p,q,r,v⟩:P5 b a out:=w;have F:=mh (tm:=w7 b) ⟨q,r⟩ p v;refine⟨rfl,fun B=>⟨⟨0,⟨⟨rfl,tZ⟩,rfl,tZ⟩,jv _⟩,fun x t=>⟨fun h=> ?_,fun h=>⟨rfl,?_⟩⟩⟩⟩;have h:(x:Int)<(w7 b).length:=ja h;have n:x<(w7 b).length:=(by omega);obtain⟨k,u⟩:=F x (by omega);have d:=p _ (L.kx n);have y:=XQ (b:=((w7 b).length:Int)) ⟨q,r⟩ (by omega);have A:=u (nth (w7 b) x).toNat (by omega);have l:(nth (w7 b) x).toNat<(wh a (w7 b) out x).length:=(by rw[k];omega);have j:=eG a (w7 b) out x;have f:((w7 b).length:Int)≠0:=(by omega);have g:nth (w7 b) x<((wh a (w7 b) out x).length:Int):=(by rw[k];exact d.2);have s:nth ((wh a (w7 b) out x).set (nth (w7 b) x).toNat (nth (wh a (w7 b) out x) (nth (w7 b) x).toNat+a.tdiv ((w7 b).length:Int))) (nth (w7 b) x).toNat=nth (wh a (w7 b) out x) (nth (w7 b) x).toNat+a.tdiv ((w7 b).length:Int):=by
  rw[L.ye l,jd rfl]
 refine⟨jZ _,h,d.1,g,rfl,f,Dy y (by omega),L.Fb (by show _<=nth (wh a (w7 b) out x) (nth (w7 b) x).toNat+a.tdiv ((w7 b).length:Int);omega) (by show nth (wh a (w7 b) out x) (nth (w7 b) x).toNat+a.tdiv ((w7 b).length:Int)<=_;omega),d.1,g,rfl,fun _=>⟨f,fun c=> ?_,fun c=> ?_⟩⟩;have c:(x:Int)<a.tmod ((w7 b).length:Int):=ja c;have m:((wh a (w7 b) out x).set (nth (w7 b) x).toNat (nth (wh a (w7 b) out x) (nth (w7 b) x).toNat+a.tdiv ((w7 b).length:Int))).length=out.length:=(by rw[zN,k]);have i:nth (w7 b) x<(((wh a (w7 b) out x).set (nth (w7 b) x).toNat (nth (wh a (w7 b) out x) (nth (w7 b) x).toNat+a.tdiv ((w7 b).length:Int))).length:Int):=(by rw[m];exact d.2);refine⟨d.1,i,?_,d.1,i,iZ6,x+1,⟨⟨by simp,tZ⟩,?_,tZ⟩,by show x+1<=(w7 b).length;omega,by show(w7 b).length-(x+1)<(w7 b).length-x;omega⟩;show kK (nth ((wh a (w7 b) out x).set (nth (w7 b) x).toNat (nth (wh a (w7 b) out x) (nth (w7 b) x).toNat+a.tdiv ((w7 b).length:Int))) (nth (w7 b) x).toNat+1);rw[s];exact iZ6;show((wh a (w7 b) out x).set (nth (w7 b) x).toNat (nth (wh a (w7 b) out x) (nth (w7 b) x).toNat+a.tdiv ((w7 b).length:Int))).set (nth (w7 b) x).toNat (nth ((wh a (w7 b) out x).set (nth (w7 b) x).toNat (nth (wh a (w7 b) out x) (nth (w7 b) x).toNat+a.tdiv ((w7 b).length:Int))) (nth (w7 b) x).toNat+1)=wh a (w7 b) out (x+1);rw[s,List.set_set,j];unfold m9;rw[jd c];have c:¬(x:Int)<a.tmod ((w7 b).length:Int):=je c;refine⟨iZ6,x+1,⟨⟨by simp,tZ⟩,?_,tZ⟩,by show x+1<=(w7 b).length;omega,by show(w7 b).length-(x+1)<(w7 b).length-x;omega⟩;show(wh a (w7 b) out x).set (nth (w7 b) x).toNat (nth (wh a (w7 b) out x) (nth (w7 b) x).toNat+a.tdiv ((w7 b).length:Int))=wh a (w7 b) out (x+1);rw[j];unfold m9;rw[jc c,Int.add_zero];have h:¬(x:Int)<(w7 b).length:=je h;have t:x<=(w7 b).length:=t;have e:x=(w7 b).length:=(by omega);subst e;rfl
theorem AL:y7 PR 71 AI:=xr AJ DN Tryz.func71 kcN koN
namespace U
def Lp (o:BoD):Prop:=E8 o/\(yh (gX o)).length<=100/\(∀n∈yh (gX o),0<=n/\n<=20)/\∀e∈ID o,∀b,e.2=some b->LH b∈yh (gX o)
def Lq (o:BoD):Prop:=E8 o/\(kE (kG (kA (gX o)))).length<=100/\∀e∈ID o,∀b,e.2=some b->∀p∈w7 b,0<=p/\p<((kE (kG (kA (gX o)))).length:Int)
end U
def uI:wi:=⟨[.val tBo],[.slice .int],false,fun d=>[Lp d.1],fun d=>(q7 d.1,())⟩
def uJ:Ann:=fun r=>match r with
 |5=>some fun σ=>{X:=Nat,sl:=fun i=>[(20,.dat .int (i:Int))],ob:=fun i=>[(3,some (.row 3 .int false .no (vT (yW (yh (gX (gb tBo σ 1)))+1).toNat (gd (.slice tLn) σ 18) i)))],inv:=fun i=>i<=(gd (.slice tLn) σ 18).length,mu:=fun i=>(gd (.slice tLn) σ 18).length-i}
 |_=>none
abbrev jeX (d:BoD×Unit)(x:Nat):=(nth (kz d.1) x)
abbrev jgA (d:BoD×Unit):=(yW (yh (gX d.1))+1)
abbrev jf7 (d:BoD×Unit)(x:Nat):=(vT (jgA d).toNat (kz d.1) x)
def uK:Prop:=∀(d:BoD×Unit),Lp d.1->d.1.1.2.1.length<4611686018427387904->(decide ((d.1.1.2.1.length:Int)=0)=true->([],())=(q7 d.1,()))/\(decide ((d.1.1.2.1.length:Int)=0)=false->d.1.1.2.1≠[]/\kK (yW d.1.1.2.1+1)/\0<=yW d.1.1.2.1+1/\yW d.1.1.2.1+1=yW d.1.1.2.1+1/\(yW d.1.1.2.1+1).toNat*8<=140737488355328/\E8 d.1/\((kz d.1).length<4611686018427387904->(∃(x:Nat),((0=(x:Int)/\True)/\List.replicate (yW d.1.1.2.1+1).toNat 0=vT (jgA d).toNat (kz d.1) x/\True)/\x<=(kz d.1).length)/\∀(x:Nat),x<=(kz d.1).length->(decide ((x:Int)<(kz d.1).length)=true->0<=(x:Int)/\(x:Int)<(kz d.1).length/\(0:Int)<=(jeX d x).1/\(jeX d x).1<(↑(jf7 d x).length:Int)/\kK (nth (jf7 d x) (jeX d x).1.toNat+(jeX d x).q4.2.1)/\(0:Int)<=(jeX d x).1/\(jeX d x).1<(↑(jf7 d x).length:Int)/\kK ((x:Int)+1)/\∃(a:Nat),(((x:Int)+1=(a:Int)/\True)/\(jf7 d x).set (jeX d x).1.toNat (nth (jf7 d x) (jeX d x).1.toNat+(jeX d x).q4.2.1)=vT (jgA d).toNat (kz d.1) a/\True)/\a<=(kz d.1).length/\(kz d.1).length-a<(kz d.1).length-x)/\(decide ((x:Int)<(kz d.1).length)=false->(vT (jgA d).toNat (kz d.1) x,())=(q7 d.1,()))))
def EO:wi:=⟨[.val tBo,.val .int],[.slice .int],false,fun d=>[Lq d.1],fun d=>(vw d.1 d.2.1,())⟩
abbrev jeJ (d:BoD×Int×Unit):=(kY none (kN Ty.int d.2.1 d.1.2.1))
abbrev jf8 (d:BoD×Int×Unit):=(kU ((((0:Int),(0:Int),(0:Int),(0:Int),(0:Int),(0:Int),()),(0:Int),(0:Int),(0:Int),()),((0:Int),(0:Int),(0:Int),(0:Int),(0:Int),(0:Int),(0:Int),(0:Int),[],[],()),(0:Int),(0:Int),[],(0:Int),(0:Int),false,(0:Int),()) (jeJ d))
abbrev jfm (d:BoD×Int×Unit):=(d.1.1.1.1.2.1.length:Int)
abbrev jhX (d:BoD×Int×Unit):=(Yn (qh (jf8 d)).2.2.1 (U.bl (jeJ d)) (List.replicate (jfm d).toNat (0:Int)))
def EP:Prop:=∀(d:BoD×Int×Unit),Lq d.1->d.1.1.1.1.2.1.length<4611686018427387904->0<=(jfm d)/\(jfm d)=(jfm d)/\(jfm d).toNat*8<=140737488355328/\((!(jeJ d).isNone)=true->(jeJ d).isSome=true/\pP (jf8 d)/\(jeJ d).isSome=true/\P5 (U.bl (jeJ d)) (qh (jf8 d)).2.2.1 (List.replicate (jfm d).toNat (0:Int))/\(jeJ d).isSome=true/\P5 (U.bl (jeJ d)) (qh (jf8 d)).2.2.2.1 (jhX d)/\(Yn (qh (jf8 d)).2.2.2.1 (U.bl (jeJ d)) (jhX d),())=(vw d.1 d.2.1,()))/\((!(jeJ d).isNone)=false->(List.replicate (jfm d).toNat (0:Int),())=(vw d.1 d.2.1,()))
theorem HY:EP:=by
 unfold EP jhX jfm jf8 jeJ;intro d A E;obtain⟨m,l,k⟩:Lq d.1:=A;have l:(kE (kG (kA (gX d.1)))).length<=100:=l;refine⟨jZ _,rfl,?_,fun h=> ?_,fun h=> ?_⟩;show(((kE (kG (kA (gX d.1)))).length:Int)).toNat*8<=140737488355328;omega;obtain⟨b,e⟩:∃b,kY none (kN Ty.int d.2.1 d.1.2.1)=some b:=by
  cases g:kY none (kN Ty.int d.2.1 d.1.2.1) with
  |none=>rw[g] at h;cases h
  |some b=>exact⟨b,rfl⟩
 have i:(d.2.1,some b)∈ID d.1:=by
  refine(M.eX (kt:= .int) m.2.2.1).1 ?_;cases g:kN (β:=Option BlD) Ty.int d.2.1 d.1.2.1 with
  |none=>rw[g] at e;cases e
  |some v=>rw[g] at e;exact g.trans (jN some e)
 obtain⟨z,o,u⟩:=m.1 _ i;have o:some b=some z:=o;simp only[jw] at o;subst o;have w:Iz b:=ac.1 u;have D:=k _ i b rfl;have n:=w.bl.tm;have s:=sM w;have C:=sN w;have ep:vw d.1 d.2.1=Se (kE (kG (kA (gX d.1)))).length (some b):=jN (Se (kE (kG (kA (gX d.1)))).length) e;rw[e,ep];have f:∀p∈w7 b,0<=p/\p<((List.replicate (kE (kG (kA (gX d.1)))).length (0:Int)).length:Int):=fun p q=>by rw[jV];exact D p q
 obtain⟨r,y⟩:=mh (a:=wQ b) (M:=0) (tm:=w7 b) ⟨s.1,by omega⟩ f (fun x c=>by rw[List.eq_of_mem_replicate c];omega) (w7 b).length (jj _);refine⟨rfl,u,rfl,⟨n,f,s.1,?_,fun x c=> ?_⟩,rfl,⟨n,fun p q=> ?_,C.1,?_,fun x c=> ?_⟩,rfl⟩;show wQ b<=100000000000000000;omega;have c:x∈List.replicate (kE (kG (kA (gX d.1)))).length (0:Int):=c;rw[List.eq_of_mem_replicate c];omega;have B:=f p q;show 0<=p/\p<((wh (wQ b) (w7 b) (List.replicate (kE (kG (kA (gX d.1)))).length (0:Int)) (w7 b).length).length:Int);rw[r];exact B;show qd b<=100000000000000000;omega;have c:x∈wh (wQ b) (w7 b) (List.replicate (kE (kG (kA (gX d.1)))).length (0:Int)) (w7 b).length:=c;obtain⟨j,t,rfl⟩:=L.mem_iff.1 c;have:=y j (by rw[r] at t;exact t);omega;have e:kY none (kN Ty.int d.2.1 d.1.2.1)=none:=by
  cases g:kY none (kN Ty.int d.2.1 d.1.2.1) with
  |none=>rfl
  |some b=>rw[g] at h;cases h
 have ep:vw d.1 d.2.1=Se (kE (kG (kA (gX d.1)))).length none:=jN (Se (kE (kG (kA (gX d.1)))).length) e;rw[ep];rfl
theorem oh:wq PR 45 EO:=wb HY Tryz.func45 (kcC ae kcN) (koC AL koN)
theorem HZ {b:BlD} (w:Iz b): -1000000<=Iu (qh b)/\Iu (qh b)<=20000000000000000:=by
 have c:=sM w;have d:=sN w;have e:=w.bl.ta.cp;have a:0<=(wQ b+qd b)*nth (bv (yP b)) (i9 (y8 (qp b))).toNat/\(wQ b+qd b)*nth (bv (yP b)) (i9 (y8 (qp b))).toNat<=10000001000000000*100:=XP (by omega) (Vj w.bl);have f:=XQ (b:=100) a (by omega);show-1000000<=wQ b+qd b-om b/\wQ b+qd b-om b<=20000000000000000;unfold om;omega
theorem Gf {o:BoD} (h:E8 o) {x:LnD} (c:x∈kz o):∃k b,(k,some b)∈ID o/\Iz b/\x=qh b:=by
 have c:x∈qO (ID o):=(wm _).mem_iff.1 c;obtain⟨⟨k,v⟩,d,rfl⟩:=jT.1 c;obtain⟨b,a,e⟩:=h.1 _ d;have a:v=some b:=a;subst a;exact⟨k,b,d,ac.1 e,rfl⟩
theorem Gg {o:BoD} (h:E8 o):(kz o).length<=100:=by
 have e:(kz o).length=(qO (ID o)).length:=(wm _).length_eq;have e2:(qO (ID o)).length=(ID o).length:=zf _;have:=h.2.1;omega
theorem DO:∀(l:List Int) (a:Int),a<=l.foldl max a/\(∀n∈l,n<=l.foldl max a)/\(l.foldl max a=a\/l.foldl max a∈l)
 |[],a=>⟨zT _,fun n c=>(by cases c),Or.inl rfl⟩
 |x::r,a=>by
  obtain⟨e,d,b⟩:=DO r (max a x)
  show a<=r.foldl max (max a x)/\_/\(r.foldl max (max a x)=a\/r.foldl max (max a x)∈x::r)
  refine⟨by omega,fun n c=> ?_,?_⟩
  show n<=r.foldl max (max a x)
  rcases jk.1 c with rfl|c
  omega
  exact d n c
  rcases b with b|b
  rcases Int.le_total a x with h|h
  right;rw[b,Int.max_eq_right h];simp
  left;rw[b,Int.max_eq_left h]
  right;exact jm _ b
theorem NV {l:List Int} {n:Int} (h:n∈l):n<=yW l:=(DO l (nth l 0)).2.1 n h
theorem H2 {l:List Int} (h:l≠[]):yW l∈l:=by
 rcases(DO l (nth l 0)).2.2 with a|a;have:yW l=nth l 0:=a;rw[this];exact L.kx (List.length_pos_iff.2 h);exact a
theorem mU {n:Nat} {l:List LnD} {k:Nat} (h:k<l.length):vT n l (k+1)=Iw (vT n l k) (nth l k):=by
 unfold vT;rw[L.kQ h,jL];rfl
theorem DP {n:Nat} {l:List LnD} (h:∀x∈l,(0<=dp x/\dp x<(n:Int))/\-1000000<=Iu x/\Iu x<=20000000000000000):
 ∀k,k<=l.length->(vT n l k).length=n/\∀j,j<n->-1000000*(k:Int)<=nth (vT n l k) j/\nth (vT n l k) j<=20000000000000000*(k:Int)
 |0,_=>⟨jV,fun j a=>by
  have:nth (vT n l 0) j=0:=L.ag a
  rw[this];omega⟩
 |k+1,hk=>by
  obtain⟨b,c⟩:=DP h k (by omega)
  obtain⟨⟨f,g⟩,i,m⟩:=h _ (L.kx (show k<l.length by omega))
  rw[mU (by omega)]
  unfold Iw
  refine⟨by rw[zN,b],fun j a=> ?_⟩
  rw[L.ye (by rw[b];omega)]
  have d:=c j a
  have e:=c (dp (nth l k)).toNat (by omega)
  split<;>omega
theorem AM:uK:=by
 unfold uK jf7 jgA jeX Prod.q4;intro d s C;obtain⟨c,a,i,w⟩:Lp d.1:=s;have a:(yh (gX d.1)).length<=100:=a;refine⟨fun h=> ?_,fun h=> ?_⟩;have h:((yh (gX d.1)).length:Int)=0:=ja h;have e:q7 d.1=[]:=jd (by omega);rw[e];have h:¬((yh (gX d.1)).length:Int)=0:=je h;have g:yh (gX d.1)≠[]:=fun e=>h (by rw[e];rfl)
 have D:=i _ (H2 g);have e:q7 d.1=vT (yW (yh (gX d.1))+1).toNat (kz d.1) (kz d.1).length:=jc (by omega);have m:∀x∈kz d.1,(0<=dp x/\dp x<(((yW (yh (gX d.1))+1).toNat:Nat):Int))/\-1000000<=Iu x/\Iu x<=20000000000000000:=fun x m=>by
  obtain⟨k,b,t,u,rfl⟩:=Gf c m;have n:=w _ t b rfl;have A:=NV n;have v:=i _ n;refine⟨⟨v.1,?_⟩,HZ u⟩;show LH b<_;omega
 have F:=DP m;have B:=Gg c;refine⟨g,L.Fb (by show _<=yW (yh (gX d.1))+1;omega) (by show yW (yh (gX d.1))+1<=_;omega),by show 0<=yW (yh (gX d.1))+1;omega,rfl,by show(yW (yh (gX d.1))+1).toNat*8<=140737488355328;omega,c,fun _=>⟨⟨0,⟨⟨rfl,tZ⟩,rfl,tZ⟩,jv _⟩,fun x j=>⟨fun f=> ?_,fun f=> ?_⟩⟩⟩;have f:(x:Int)<(kz d.1).length:=ja f;have l:x<(kz d.1).length:=(by omega);obtain⟨⟨o,y⟩,E,G⟩:=m _ (L.kx l);obtain⟨q,r⟩:=F x (by omega);have z:=r (dp (nth (kz d.1) x)).toNat (by omega);have p:dp (nth (kz d.1) x)<((vT (yW (yh (gX d.1))+1).toNat (kz d.1) x).length:Int):=(by rw[q];exact y);refine⟨jZ _,f,o,p,?_,o,p,iZ6,x+1,⟨⟨by simp,tZ⟩,(mU l).symm,tZ⟩,by show x+1<=(kz d.1).length;omega,by show(kz d.1).length-(x+1)<(kz d.1).length-x;omega⟩;show kK (nth (vT (yW (yh (gX d.1))+1).toNat (kz d.1) x) (dp (nth (kz d.1) x)).toNat+Iu (nth (kz d.1) x));exact iZ6;have f:¬(x:Int)<(kz d.1).length:=je f;have j:x<=(kz d.1).length:=j;have ex:x=(kz d.1).length:=(by omega);subst ex;rw[e]
theorem eH:wq PR 46 uI:=vN uJ AM Tryz.func46 (kcC HX (kcC aP kcN)) koN
namespace U
def bo (l:LgD):BoD:=(l,IE l,())
def wA (l:LgD):List LnD:=if wd l=0 then kz (bo l) else[]
def Lr (l:LgD):List Int:=if wd l=0 then q7 (bo l) else[]
def qT (l:LgD) (n:Int):Bool:=kl n 0 (((kC (kA l)).length:Int)-1)
def qw (l:LgD) (n:Int):List Int:=if wo l (qT l n)=0 then vw (bo l) n else[]
def yg (m:Int):Bool:=kl m (-100000) 1440
def yp (m:Int):Bool:=kl m 0 1000000000
def E9 (l:LgD) (n m:Int):Int:=if wo l (qT l n&&yg m)=0 then(match Oz (bo l) n with|some b=>Iu (qh b)-yQ m b|none=>0) else 0
end U
theorem H3 {l:LgD} {e:Int×Option BlD} (h:e∈IE l):∃n,n∈km (kA l)/\e=(n,some (kZ l n)):=by
 rw[DA] at h;obtain⟨n,a,rfl⟩:=jT.1 h;exact⟨n,a,rfl⟩
theorem PM {l:LgD} (h:mc l):(km (kA l)).length<=4:=by
 have a:=h.dy;unfold wK at a;rw[ji] at a;have a:=(ja a.1).1;unfold km
 split
 unfold y6;rw[zf];exact jD (kc _ _) (by rw[zp];exact a);exact jv _
theorem RO {l:LgD} (h:mc l):E8 (U.bo l):=by
 refine⟨fun e c=> ?_,?_,?_,fun e c b a=> ?_⟩;obtain⟨n,d,rfl⟩:=H3 c;exact⟨_,rfl,ac.2 (DB h (HP d))⟩;show(IE l).length<=100;have:=PM h;rw[DA,zf];omega;show((IE l).map (·.1)).Nodup;rw[DA,kg];have e:((fun(x:Int×Option BlD)=>x.1)∘fun n=>(n,some (kZ l n)))=id:=rfl;rw[e,List.map_id];exact mT _;obtain⟨n,d,rfl⟩:=H3 c;have a:some (kZ l n)=some b:=a;simp only[jw] at a;subst a;exact(qD l n _ (jj _)).2.2.1
theorem jca {l:LgD} (h:mc l):Lp (U.bo l):=by
 have d:(kC (kA l)).length<=4:=by
  have c:=h.dy;unfold wK at c;rw[ji] at c;exact(ja c.1).1
 refine⟨RO h,?_,h.py.2,fun e f b a=> ?_⟩;show(yh l).length<=100;rw[h.py.1];omega;obtain⟨n,i,rfl⟩:=H3 f;have a:some (kZ l n)=some b:=a;simp only[jw] at a;subst a;have e:LH (kZ l n)=nth (yh l) n.toNat:=(qD l n _ (jj _)).2.2.2.1;rw[e];have:=HP i;have g:n.toNat<(yh l).length:=(by rw[h.py.1];omega);exact L.kx g
theorem XW {l:LgD} (h:mc l):Lq (U.bo l):=by
 refine⟨RO h,?_,fun e c b a=> ?_⟩;show(kE (kG (kA l))).length<=100;have:=jb8 h;omega;obtain⟨n,d,rfl⟩:=H3 c;have a:some (kZ l n)=some b:=a;simp only[jw] at a;subst a;have e:w7 (kZ l n)=wO l n (kE (kG (kA l))).length:=(qD l n _ (jj _)).2.2.2.2.1;rw[e];exact(sO _ _).2
namespace U
def Ls (l:LgD) (b:Int):BkD:=nth (kC (kA l)) b.toNat
def Lt (l:LgD) (b:Int) (x:Int×Bool) (c:CaD):Int×Bool:=if jcw c=b/\Wn c<=qx (Ls l b)/\(x.2=false\/Wn c<x.1) then(Wn c,true) else x
def DZ (l:LgD) (b:Int) (k:Nat):Int×Bool:=((wF l).take k).foldl (Lt l b) (0,false)
def Yo (l:LgD) (b:Int):Int×Bool:=DZ l b (wF l).length
def OA (l:LgD) (b:Int) (i:Nat):Bool:=decide (Ym (lc l)<=qx (Ls l b)+i)||decide (qx (Ls l b)+i<ja4 (lc l))
def OB (l:LgD) (b:Int) (k:Nat):Int:=(((List.range k).countP (OA l b):Nat):Int)
def jdp (l:LgD) (b:Int):Int:=OB l b (mY (Ls l b)-qx (Ls l b)).toNat
def jdI (l:LgD) (b m:Int):Int:=m*jcu (lc l)*max (jcv (lc l)) (up (mY (Ls l b)-qx (Ls l b)) (Wl (lc l)))
def jdJ (l:LgD) (b m:Int):Int:=jdI l b m+up (jdI l b m*Wm (lc l)*jdp l b) (100*(mY (Ls l b)-qx (Ls l b)))
def Y7 (l:LgD) (b m:Int) (n:NoD):Bool:=decide (Wk n<=qx (Ls l b)-m)
def jd0 (l:LgD) (b m:Int):Int:=if 0<=yq (Y7 l b m) (eZ (lc l)) then Y6 (nth (eZ (lc l)) (yq (Y7 l b m) (eZ (lc l))).toNat) else 100
def uW (l:LgD) (b t:Int):Int:=if(Yo l b).2=true then up (jdJ l b (BT.size t)*jd0 l b (Yo l b).1) 100 else jdJ l b (BT.size t)
def uX (l:LgD) (b t:Int):Int:=if(Yo l b).2=true then 0 else jbl (lc l)*nth (Gn l) b.toNat*BT.size t
def jdq (l:LgD) (b t:Int):Int:=min (Sc (lc l)) (((uW l b t+uX l b t)*nth (bv (lc l)) (i9 (y8 (Ls l b))).toNat).tdiv 100)
def mw (l:LgD) (b t:Int):LnD:=(nth (yh l) b.toNat,b,uW l b t,uX l b t,jdq l b t,uW l b t+uX l b t-jdq l b t,())
def qU (l:LgD) (b:Int):Int:=nth (P1 (kA l)) b.toNat
def Ix (l:LgD) (b:Int):Bool:=tu (kG (kA l)) (y8 (Ls l b)) (qU l b)
def jdK (l:LgD) (p:Int) (b:Nat):Bool:=Ix l (b:Int)&&decide (nth (yh l) b=p)
def Wc (l:LgD) (p:Int) (k:Nat):List LnD:=((List.range k).filter (jdK l p)).map (fun(b:Nat)=>mw l (b:Int) (qU l (b:Int)))
def pR (l:LgD) (n:Nat):List LnD:=(List.range n).flatMap (fun(p:Nat)=>Wc l (p:Int) (yh l).length)
def q6 (l:LgD):List LnD:=pR l 21
def bj (l:LgD) (k:Nat):Int:=((yh l).take k).foldl (fun m p=>max m (p+1)) 0
def iH (l:LgD):Int:=bj l (yh l).length
def Lu (l:LgD):List Int:=vT (iH l).toNat (q6 l) (q6 l).length
def gH (a m:Int) (i:Nat):Int:=a.tdiv m+(if(i:Int)<a.tmod m then 1 else 0)
def yL (a m:Int) (k:Nat):List Int:=(List.range k).map (gH a m)
def df (a m:Int):List Int:=yL a m m.toNat
def Wd (w t:List Int) (a:Int) (x:List Int×Int) (p:Nat):List Int×Int:=if qb a (p:Int)=true then(x.1.set p (nth w x.2.toNat+nth t x.2.toNat),x.2+1) else x
def dg (w t:List Int) (a:Int) (n k:Nat):List Int×Int:=(List.range k).foldl (Wd w t a) (List.replicate n 0,0)
def qc (l:LgD):Nat:=(kE (kG (kA l))).length
def uY (l:LgD) (b:Int):List Int:=if Ix l b=true then(dg (df (uW l b (qU l b)) (BT.size (qU l b))) (df (uX l b (qU l b)) (BT.size (qU l b))) (qU l b) (qc l) (qc l)).1 else List.replicate (qc l) 0
end U
theorem DQ {l:LgD} {b:Int} {k:Nat} (h:k<(wF l).length):DZ l b (k+1)=Lt l b (DZ l b k) (nth (wF l) k):=by
 unfold DZ;rw[L.kQ h,jL];rfl
theorem jaB {l:LgD} {b:Int} (h:∀c∈wF l,-100000<=Wn c/\Wn c<=1440):∀k,k<=(wF l).length->-100000<=(DZ l b k).1/\(DZ l b k).1<=1440
 |0,_=>by show-100000<=(0:Int)/\(0:Int)<=1440;omega
 |k+1,hk=>by
  rw[DQ (by omega)]
  unfold Lt
  split
  exact h _ (L.kx (by omega))
  exact jaB h k (by omega)
theorem K0 {l:LgD} {n:Int}:∀k,k<=(wF l).length->(pU (kF l n k),tE (kF l n k))=DZ l n k
 |0,_=>rfl
 |k+1,hk=>by
  have d:=K0 (l:=l) (n:=n) k (by omega)
  have c:qp (kF l n k)=Ls l n:=(qD l n k (by omega)).1
  rw[cF (by omega),DQ (by omega),<-d]
  unfold tz Lt
  by_cases a:jcw (nth (wF l) k)=n
  rw[jd a]
  unfold yE
  rw[c]
  by_cases b:Wn (nth (wF l) k)<=qx (Ls l n)/\(tE (kF l n k)=false\/Wn (nth (wF l) k)<pU (kF l n k))
  rw[jd b,jd ⟨a,b⟩];rfl
  rw[jc b,jc (fun h=>b h.2)]
  rw[jc a,jc (fun h=>a h.1)]
theorem Vy {l:LgD} {b:Int} (a:ja4 (lc l)<=Ym (lc l)):∀k:Nat,OB l b k=max 0 (qx (Ls l b)+k-max (qx (Ls l b)) (Ym (lc l)))+max 0 (min (qx (Ls l b)+k) (ja4 (lc l))-qx (Ls l b))
 |0=>by
  show(0:Int)=_
  omega
 |k+1=>by
  have c:=Vy (b:=b) a k
  have e:OB l b (k+1)=OB l b k+(if OA l b k=true then 1 else 0):=by
   unfold OB;rw[za,zS,List.countP_singleton]
   split<;>simp
  rw[e,c];by_cases h:OA l b k=true;rw[jd h];unfold OA at h;rw[zy,jr,jr] at h;omega;rw[jc h];unfold OA at h;rw[zy,jr,jr] at h;omega
theorem RP {w:Int} (h:0<=w):U.up (w*100) 100=w:=by
 unfold U.up;rw[z7 (by omega)];omega
theorem Ba {d:DyD} (h:dm d=0) {b:Nat} (g:b<(kC d).length):(((wE (nth (P1 d) b) (kE (kG d)).length).length:Nat):Int)=BT.size (nth (P1 d) b):=by
 have e:P1 d=(Sp d).1:=jd h;have a:=YV h g;rw[<-e] at a;have l:(kE (kG d)).length<=8:=by
  have c:=(UN h).1;unfold kV at c;rw[ji] at c;exact(ja c.1).2.2.1
 have k:BT.q9 (nth (P1 d) b):=⟨a.1,Int.lt_trans a.2 (by
  have:(2:Int)^(kE (kG d)).length<2^62:=by
   rw[BT.two_nat,BT.two_nat];exact Int.ofNat_lt.2 (Nat.pow_lt_pow_right (by decide) (by omega))
  exact this)⟩
 unfold wE BT.size;rw[zf,<-List.countP_eq_length_filter];obtain⟨m,j⟩:∃m,62=(kE (kG d)).length+m:=⟨62-(kE (kG d)).length,by omega⟩;rw[j,List.range_add,zS];have z:List.countP (fun p=>BT.has (nth (P1 d) b) p) (List.map (fun x=>(kE (kG d)).length+x) (List.range m))=0:=by
  rw[zM];intro p f i;obtain⟨q,n,rfl⟩:=jT.1 f;have:=BT.has_lt a.1 a.2 i;omega
 rw[z,zH];congr 1;refine List.countP_congr fun p f=> ?_
 have:=A9 k (p:Int);rw[this];simp
theorem XX {l:LgD} (h:dm (kA l)=0) (u:ja4 (lc l)<=Ym (lc l)) {n:Int} (A:0<=n/\n<((kC (kA l)).length:Int)) (z:qx (Ls l n)<mY (Ls l n)) (v:0<=pT (iG l n)):qh (kZ l n)=mw l n (qU l n):=by
 obtain⟨c1,c2,e,f,y,g,i⟩:=qD l n _ (jj _);have c1:qp (kZ l n)=Ls l n:=c1;have c2:yP (kZ l n)=lc l:=c2;have e:Oy (kZ l n)=n:=e;have f:LH (kZ l n)=nth (yh l) n.toNat:=f;have g:pT (kZ l n)=pT (iG l n):=g;have i:E6 (kZ l n)=E6 (iG l n):=i;have a:=K0 (l:=l) (n:=n) _ (jj _);have w:pU (kZ l n)=(Yo l n).1:=jN (·.1) a;have s:tE (kZ l n)=(Yo l n).2:=jN (·.2) a;have b:(((wO l n (kE (kG (kA l))).length).length:Nat):Int)=BT.size (qU l n):=by
  unfold wO qU;rw[NC,jd h,<-(jd h:P1 (kA l)=_)];exact Ba h (by omega)
 have k:yG (tw l n (wO l n (kE (kG (kA l))).length))=jdp l n:=by
  unfold jdp;rw[Vy u];show max 0 (mY (Ls l n)-max (qx (Ls l n)) (Ym (lc l)))+max 0 (min (mY (Ls l n)) (ja4 (lc l))-qx (Ls l n))=_;omega
 have p:pT (iG l n)=jdJ l n (BT.size (qU l n)):=by
  show mr (tw l n (wO l n (kE (kG (kA l))).length))+U.up (mr (tw l n (wO l n (kE (kG (kA l))).length))*Wm (lc l)*yG (tw l n (wO l n (kE (kG (kA l))).length))) (100*(mY (Ls l n)-qx (Ls l n)))=_;have j:mr (tw l n (wO l n (kE (kG (kA l))).length))=jdI l n (BT.size (qU l n)):=by
   show(((wO l n (kE (kG (kA l))).length).length:Nat):Int)*jcu (lc l)*max (jcv (lc l)) (U.up (mY (Ls l n)-qx (Ls l n)) (Wl (lc l)))=_;rw[b];rfl
  rw[j,k];rfl
 have o:E6 (iG l n)=jbl (lc l)*nth (Gn l) n.toNat*BT.size (qU l n):=by
  show(((wO l n (kE (kG (kA l))).length).length:Nat):Int)*jbl (lc l)*nth (Gn l) n.toNat=_;rw[b,Int.mul_assoc,Int.mul_comm]
 have m:eU (kZ l n)=Y7 l n (Yo l n).1:=by
  funext x;unfold eU Y7;rw[c1,w]
 have r:wQ (kZ l n)=uW l n (qU l n):=by
  unfold wQ uW Sd jd0;rw[s,c2,m,g,<-p];by_cases c:(Yo l n).2=true;rw[jd c];by_cases d:0<=yq (Y7 l n (Yo l n).1) (eZ (lc l));rw[jd ⟨c,d⟩,jd d];rw[jc (fun h=>d h.2),jc d,RP v];rw[jc (fun h=>c h.1),jc c]
 have q:qd (kZ l n)=uX l n (qU l n):=by
  unfold qd uX;rw[s,i,o]
 have t:om (kZ l n)=jdq l n (qU l n):=by
  unfold om jdq;rw[r,q,c1,c2]
 unfold qh mw;rw[r,q,t,e,f]
theorem uL {l:LgD} (h:mc l) {n:Int} (a:0<=n/\n<((kC (kA l)).length:Int)):qh (kZ l n)=mw l n (qU l n):=by
 obtain⟨b,e⟩:=KJ h a;have c:=(aH (kA l)).symm.trans h.cp;have d:=h.ta.dw;exact XX c (by omega) a b.2.1 (PL h a).wk.1
theorem XY {x y:LnD} (h:dp x<dp y\/(dp x=dp y/\m0 x<m0 y)):¬uV y x<0:=by
 unfold uV;rw[ww,qM];unfold ca;rcases h with h|⟨b,a⟩;rw[jc (show¬dp y<dp x by omega),jd h,jd (by decide)];decide;rw[jc (show¬dp y<dp x by omega),jc (show¬dp x<dp y by omega),jc (by decide),jc (show¬m0 y<m0 x by omega),jd a];decide
theorem Bb (l:LgD):qO (IE l)=(km (kA l)).map (fun n=>qh (kZ l n)):=by
 rw[DA];unfold qO;rw[kg];rfl
theorem PN (l:LgD) (n:Int):m0 (qh (kZ l n))=n:=(qD l n _ (jj _)).2.2.1
theorem jaC {d:DyD} (h:dm d=0) {n:Int}:n∈km d↔∃b:Nat,b<(kC d).length/\jdF d (P1 d) b=true/\n=(b:Int):=by
 rw[NE];unfold jcN;rw[jd h];unfold P2;rw[jT];constructor;rintro⟨b,a,rfl⟩;have:=jO.1 a;exact⟨b,by rw[<-uA h];exact jC.1 this.1,this.2,rfl⟩;rintro⟨b,a,c,rfl⟩;exact⟨b,jO.2 ⟨jC.2 (by rw[uA h];exact a),c⟩,rfl⟩
theorem H4 {l:LgD} (h:mc l) {n:Int} (e:0<=n/\n<((kC (kA l)).length:Int)):n∈km (kA l)↔Ix l n=true:=by
 have c:=(aH (kA l)).symm.trans h.cp;rw[jaC c];constructor;rintro⟨b,d,a,rfl⟩;exact a;intro a;exact⟨n.toNat,by omega,a,by omega⟩
theorem Bc {l:LgD} {k:Nat} {x:LnD}:x∈pR l k↔∃p:Nat,p<k/\∃b:Nat,b<(yh l).length/\Ix l (b:Int)=true/\nth (yh l) b=(p:Int)/\x=mw l (b:Int) (qU l (b:Int)):=by
 unfold pR;rw[List.mem_flatMap];constructor;rintro⟨p,d,h⟩;obtain⟨b,c,rfl⟩:=jT.1 h;have e:=jO.1 c;have a:=e.2;unfold jdK at a;rw[ji,jr] at a;exact⟨p,jC.1 d,b,jC.1 e.1,a.1,a.2,rfl⟩;rintro⟨p,d,b,c,g,f,rfl⟩;refine⟨p,jC.2 d,jT.2 ⟨b,jO.2 ⟨jC.2 c,?_⟩,rfl⟩⟩;unfold jdK;rw[g,jK f];rfl
theorem PO (l:LgD) (k:Nat):(pR l k).Pairwise (fun x y=>dp x<dp y\/(dp x=dp y/\m0 x<m0 y)):=by
 have d:∀(p:Nat) (x:LnD),x∈Wc l (p:Int) (yh l).length->dp x=(p:Int):=fun p x g=>by
  obtain⟨b,f,rfl⟩:=jT.1 g;have e:=(jO.1 f).2;unfold jdK at e;rw[ji,jr] at e;exact e.2
 unfold pR;refine List.pairwise_flatMap.2 ⟨fun p _=> ?_,List.Pairwise.imp ?_ List.pairwise_lt_range⟩;have h:(Wc l (p:Int) (yh l).length).Pairwise (fun x y=>m0 x<m0 y):=by
  unfold Wc;exact zL.2 ((List.pairwise_lt_range.filter _).imp fun{a b} c=>by
   show(a:Int)<(b:Int);omega)
 exact List.Pairwise.imp_of_mem (fun{a b} i f c=>Or.inr ⟨by rw[d p a i,d p b f],c⟩) h;intro a b c x g y j;have:=d a x g;have:=d b y j;left;omega
theorem RQ (l:LgD) (k:Nat):(pR l k).Nodup:=(PO l k).imp fun{a b} h e=>by subst e;omega
theorem aI {l:LgD} (h:mc l):kz (U.bo l)=q6 l:=by
 have o:=Ge (RO h);have f:(qO (IE l)).Nodup:=by
  rw[Bb];exact zL.2 ((mT (kA l)).imp fun{a b} g e=>g (by
   have:=jN m0 e;rw[PN,PN] at this;exact this))
 have s:=(aH (kA l)).symm.trans h.cp
 haveI:DecidableEq LnD:=fun a b=>Classical.propDecidable (a=b)
 have k:(q6 l).Perm (qO (ID (U.bo l))):=L.oq (RQ l 21) f fun x=>by
  show x∈pR l 21↔x∈qO (IE l);rw[Bc,Bb,jT];constructor;rintro⟨p,k,b,m,r,q,rfl⟩;have c:0<=(b:Int)/\(b:Int)<(kC (kA l)).length:=(by rw[h.py.1] at m;omega);exact⟨(b:Int),(H4 h c).2 r,uL h c⟩;rintro⟨n,j,rfl⟩;have c:=HP j;have i:n.toNat<(yh l).length:=(by rw[h.py.1];omega);have q:=h.py.2 _ (L.kx i);have en:((n.toNat:Nat):Int)=n:=(by omega);refine⟨(nth (yh l) n.toNat).toNat,by omega,n.toNat,i,?_,by omega,?_⟩;rw[en];exact(H4 h c).1 j;rw[en];exact uL h c
 refine(rV (jde o) k ?_).symm;exact(PO l 21).imp fun{a b} d=>zm (XY d)
theorem RR {l:LgD} {k:Nat} (h:k<(yh l).length):bj l (k+1)=max (bj l k) (nth (yh l) k+1):=by
 unfold bj;rw[L.kQ h,jL];rfl
theorem pL {l:LgD}:∀k,k<=(yh l).length->0<=bj l k/\(∀i,i<k->nth (yh l) i+1<=bj l k)/\(bj l k=0\/∃i,i<k/\bj l k=nth (yh l) i+1)
 |0,_=>⟨zT _,fun i hi=>by omega,Or.inl rfl⟩
 |k+1,hk=>by
  obtain⟨c,b,a⟩:=pL (l:=l) k (by omega)
  rw[RR (by omega)]
  refine⟨by omega,fun i hi=> ?_,?_⟩
  by_cases e:i=k
  subst e;omega
  have:=b i (by omega);omega
  rcases Int.le_total (nth (yh l) k+1) (bj l k) with h|h
  rw[Int.max_eq_left h]
  rcases a with a|⟨i,hi,a⟩
  exact Or.inl a
  exact Or.inr ⟨i,by omega,a⟩
  rw[Int.max_eq_right h]
  exact Or.inr ⟨k,by omega,rfl⟩
theorem Vz {l:LgD} (h:mc l):q7 (U.bo l)=Lu l:=by
 have m:=aI h;unfold q7 Lu;rw[m];show(if(yh l).length=0 then[] else vT (yW (yh l)+1).toNat (q6 l) (q6 l).length)=_;by_cases e:(yh l).length=0;rw[jd e];have f:q6 l=[]:=by
  refine kf.2 fun x o=> ?_
  obtain⟨p,_,b,t,_⟩:=Bc.1 (show x∈pR l 21 from o);omega
 have e2:iH l=0:=(by unfold iH;rw[e];rfl);rw[f,e2];rfl;rw[jc e];obtain⟨r,k,a⟩:=pL (l:=l) (yh l).length (jj _);have c:yh l≠[]:=fun e2=>e (by rw[e2];rfl)
 have d:=H2 c;have u:=h.py.2 _ d;obtain⟨i,hi,q⟩:=L.mem_iff.1 d;have s:=k i hi;have g:iH l=yW (yh l)+1:=by
  show bj l (yh l).length=_;rcases a with a|⟨j,n,a⟩;omega;have:=NV (L.kx n);omega
 rw[g]
theorem yK (a:Int) (tm out:List Int):∀k,(wh a tm out k).length=out.length
 |0=>rfl
 |k+1=>by
  rw[eG];unfold m9
  rw[zN,yK a tm out k]
theorem s0 {a:Int} {tm out:List Int} {j:Nat} (b:∀p∈tm,0<=p/\p<(out.length:Int)):∀k,k<=tm.length->(∀i,i<k->(nth tm i).toNat≠j)->nth (wh a tm out k) j=nth out j
 |0,_,_=>rfl
 |k+1,hk,h=>by
  have c:=b _ (L.kx (show k<tm.length by omega))
  rw[eG];unfold m9
  rw[L.ye (by rw[yK];omega),jc (h k (by omega))]
  exact s0 b k (by omega) fun i hi=>h i (by omega)
theorem H5 {a:Int} {tm out:List Int} (c:∀p∈tm,0<=p/\p<(out.length:Int)) (b:∀i j,i<tm.length->j<tm.length->(nth tm i).toNat=(nth tm j).toNat->i=j) {i:Nat}:∀k,k<=tm.length->i<k->
 nth (wh a tm out k) (nth tm i).toNat=nth out (nth tm i).toNat+gH a tm.length i
 |0,_,h=>by omega
 |k+1,hk,h=>by
  have f:=c _ (L.kx (show k<tm.length by omega))
  rw[eG];unfold m9
  rw[L.ye (by rw[yK];omega)]
  by_cases e:i=k
  subst e
  rw[jd rfl,s0 c i (by omega) (fun m d e2=>by have:=b m i (by omega) (by omega) e2;omega)]
  unfold gH
  rw[Int.add_assoc]
  rw[jc (fun e2=>e (b i k (by omega) (by omega) e2.symm))]
  exact H5 c b k (by omega) (by omega)
theorem Gh (t:Int) (k:Nat):wE t (k+1)=wE t k++(if qb t (k:Int)=true then[(k:Int)] else[]):=by
 unfold wE;rw[za,List.filter_append,zi];congr 1;by_cases h:qb t (k:Int)=true;rw[jd h];simp only[List.filter,h,List.map];rw[jc h];rw[kj] at h;simp only[List.filter,h,List.map]
def rnk (t:Int) (k:Nat):Nat:=(wE t k).length
theorem H6 (t:Int) (k:Nat):rnk t (k+1)=rnk t k+(if qb t (k:Int)=true then 1 else 0):=by
 unfold rnk;rw[Gh,jJ]
 split<;>rfl
theorem jaD {α:Type} [Inhabited α] {a b:List α} {i:Nat} (h:i<a.length):nth (a++b) i=nth a i:=by
 rw[L.wB h,L.wB (by rw[jJ];omega),List.getElem_append_left h]
theorem XZ {α:Type} [Inhabited α] {a:List α} {x:α}:nth (a++[x]) a.length=x:=by
 rw[L.wB (by rw[jJ];show _<_+1;omega),List.getElem_append_right (jj _)];simp
theorem VA {t:Int} {p:Nat} (a:qb t (p:Int)=true):∀n,p<n->rnk t p<rnk t n/\nth (wE t n) (rnk t p)=(p:Int)
 |0,h=>by omega
 |n+1,h=>by
  have b:=H6 t n
  rw[Gh]
  by_cases e:p=n
  subst e
  rw[jd a] at b⊢
  exact⟨by omega,XZ⟩
  obtain⟨c,d⟩:=VA a n (by omega)
  refine⟨by rw[b];omega,?_⟩
  rw[jaD c,d]
theorem jaE {t:Int} {n i j:Nat} (hi:i<(wE t n).length) (f:j<(wE t n).length) (h:(nth (wE t n) i).toNat=(nth (wE t n) j).toNat):i=j:=by
 have c:(wE t n).Pairwise (fun a b=>a.toNat<b.toNat):=by
  unfold wE;exact zL.2 ((List.pairwise_lt_range.filter _).imp fun{a b} e=>e)
 rw[zC] at c;rw[L.wB hi,L.wB f] at h;rcases Nat.lt_trichotomy i j with d|d|d;have:=c i j hi f d;omega;exact d;have:=c j i f hi d;omega
theorem jaF {t:Int} {n i:Nat} (hi:i<(wE t n).length):qb t (nth (wE t n) i)=true:=by
 have a:=L.kx hi;unfold wE at a;obtain⟨p,b,e⟩:=jT.1 a;have:=(jO.1 b).2;unfold wE;rw[<-e];exact this
theorem NW (w t:List Int) (a:Int) (n k:Nat):dg w t a n (k+1)=Wd w t a (dg w t a n k) k:=by
 unfold dg;rw[za,jL];rfl
theorem uM (w t:List Int) (a:Int) (n:Nat):∀k,k<=n->(dg w t a n k).1.length=n/\(dg w t a n k).2=(rnk a k:Int)/\
 ∀j,j<n->nth (dg w t a n k).1 j=if j<k/\qb a (j:Int)=true then nth w (rnk a j)+nth t (rnk a j) else 0
 |0,_=>⟨jV,rfl,fun j c=>by
  rw[jc (fun h=>by omega)]
  exact L.ag c⟩
 |k+1,hk=>by
  obtain⟨f,g,i⟩:=uM w t a n k (by omega)
  have d:=H6 a k
  rw[NW];unfold Wd
  by_cases e:qb a (k:Int)=true
  rw[jd e]
  rw[jd e] at d
  have l:(dg w t a n k).2.toNat=rnk a k:=by rw[g];rfl
  refine⟨by rw[zN,f],by rw[g,d];rfl,fun j c=> ?_⟩
  show nth ((dg w t a n k).1.set k (nth w (dg w t a n k).2.toNat+nth t (dg w t a n k).2.toNat)) j=_
  rw[L.ye (by rw[f];omega),l]
  by_cases e2:k=j
  subst e2
  rw[jd rfl,jd ⟨by omega,e⟩]
  rw[jc e2,i j c]
  by_cases b:j<k/\qb a (j:Int)=true
  rw[jd b,jd ⟨by omega,b.2⟩]
  rw[jc b,jc (fun h=>b ⟨by omega,h.2⟩)]
  rw[jc e]
  rw[jc e] at d
  refine⟨f,by rw[g,d];rfl,fun j c=> ?_⟩
  rw[i j c]
  by_cases b:j<k/\qb a (j:Int)=true
  rw[jd b,jd ⟨by omega,b.2⟩]
  rw[jc b,jc (fun h=>b ⟨by
   by_cases e2:j=k
   subst e2;exact absurd h.2 e
   omega,h.2⟩)]
theorem uN {a m:Int} {k i:Nat} (h:i<k):nth (yL a m k) i=gH a m i:=by
 unfold yL;rw[L.Bg (by rw[zp];exact h)];congr 1;rw[L.wB (by rw[zp];exact h),List.getElem_range]
theorem jaG {b:BlD} {c W T:Int} {n:Nat} (q:w7 b=wE c n) (z:wQ b=W) (y:qd b=T):
 Se n (some b)=(dg (df W (wE c n).length) (df T (wE c n).length) c n n).1:=by
 obtain⟨w,C,x⟩:=uM (df W (wE c n).length) (df T (wE c n).length) c n n (jj _);have u:=(sO c n).2;have f:=fun i j=> @jaE c n i j
 show wh (qd b) (w7 b) (wh (wQ b) (w7 b) (List.replicate n 0) (w7 b).length) (w7 b).length=_;rw[q,z,y];have g:∀p∈wE c n,0<=p/\p<((List.replicate n (0:Int)).length:Int):=fun p k=>by rw[jV];exact u p k
 have m:∀p∈wE c n,0<=p/\p<((wh W (wE c n) (List.replicate n (0:Int)) (wE c n).length).length:Int):=fun p k=>by rw[yK];exact g p k
 refine L.ext_nth (by rw[yK,yK,jV,w]) fun j d=> ?_
 rw[yK,yK,jV] at d;rw[x j d];by_cases e:qb c (j:Int)=true;rw[jd ⟨d,e⟩];obtain⟨o,B⟩:=VA e n d;have o:rnk c j<(wE c n).length:=o;have A:(nth (wE c n) (rnk c j)).toNat=j:=(by rw[B];rfl);have r:=H5 (a:=W) g (fun i j hi d h=>f i j hi d h) (i:=rnk c j) _ (jj _) o;have s:=H5 (a:=T) m (fun i j hi d h=>f i j hi d h) (i:=rnk c j) _ (jj _) o;rw[A] at r s;rw[s,r,L.ag d,Int.zero_add];have k:∀a:Int,nth (df a ((wE c n).length:Int)) (rnk c j)=gH a ((wE c n).length:Int) (rnk c j):=fun a=>uN (by show _<((((wE c n).length:Nat):Int)).toNat;omega)
 rw[k,k];rw[jc (fun h=>e h.2)];have l:∀i,i<(wE c n).length->(nth (wE c n) i).toNat≠j:=fun i hi e2=>e (by
  have t:=jaF hi;have D:=u _ (L.kx hi);have v:nth (wE c n) i=(j:Int):=(by omega);rw[v] at t;exact t)
 rw[s0 m _ (jj _) l,s0 g _ (jj _) l,L.ag d]
theorem jcb (l:LgD) (n:Int):Oz (U.bo l) n=if n∈km (kA l) then some (kZ l n) else none:=by
 show kY none (kN .int n (IE l))=_;have a:((IE l).map (·.1)).Nodup:=by
  rw[DA,kg];have e:((fun(x:Int×Option BlD)=>x.1)∘fun n=>(n,some (kZ l n)))=id:=rfl;rw[e,List.map_id];exact mT _
 by_cases h:n∈km (kA l);rw[jd h];have:(n,some (kZ l n))∈IE l:=by
  rw[DA];exact jT.2 ⟨n,h,rfl⟩
 rw[(M.eX (kt:= .int) a).2 this];rfl;rw[jc h];have b:n∉(IE l).map (·.1):=by
  rw[DA,kg];have e:((fun(x:Int×Option BlD)=>x.1)∘fun n=>(n,some (kZ l n)))=id:=rfl;rw[e,List.map_id];exact h
 rw[M.mfind_none (kt:= .int) b];rfl
theorem VB {l:LgD} (h:mc l) {n:Int} (b:0<=n/\n<((kC (kA l)).length:Int)):vw (U.bo l) n=uY l n:=by
 have i:=(aH (kA l)).symm.trans h.cp;show Se (qc l) (Oz (U.bo l) n)=_;rw[jcb];unfold uY;by_cases a:n∈km (kA l);rw[jd a,jd ((H4 h b).1 a)];have d:=uL h b;have e:wQ (kZ l n)=uW l n (qU l n):=jN IB d;have e2:qd (kZ l n)=uX l n (qU l n):=jN IC d;have f:w7 (kZ l n)=wE (qU l n) (qc l):=by
  have:=(qD l n _ (jj _)).2.2.2.2.1;show w7 (kF l n _)=_;rw[this];show wE (nth (wZ (kA l)) n.toNat) (qc l)=_;rw[show wZ (kA l)=P1 (kA l) from NC _];rfl
 have c:(((wE (qU l n) (qc l)).length:Nat):Int)=BT.size (qU l n):=Ba i (by omega);rw[jaG f e e2,c];rw[jc a,jc (fun g=>a ((H4 h b).2 g))];rfl
namespace U
def eV (b:BlD) (a:Int) (k:Nat):Bool:=decide (yQ (qx (qp b)-(k:Int)) b<=a)
def dh (b:BlD):Nat:=(qx (qp b)+100001).toNat
def Fa (b:BlD) (a:Int):Option Nat:=(List.range (dh b)).find? (eV b a)
def jdr (b:BlD):Option Nat->Int
 |some k=>qx (qp b)-(k:Int)
 |none=>0
def jds:Option Nat->Int
 |some _=>0
 |none=>3
def jdL (a:Int):Option BlD->Int
 |some b=>jdr b (Fa b a)
 |none=>0
def jdM (a:Int):Option BlD->Int
 |some b=>jds (Fa b a)
 |none=>3
def Lw (l:LgD) (n a:Int):Int:=if wo l (qT l n&&yp a)=0 then jdL a (Oz (bo l) n) else 0
def Lx (l:LgD) (n a:Int):Int:=if wo l (qT l n&&yp a)=0 then jdM a (Oz (bo l) n) else wo l (qT l n&&yp a)
end U
theorem Gi (b:BlD) (a:Int):(∃k:Nat,Fa b a=some k/\k<dh b/\eV b a k=true/\∀j:Nat,j<k->eV b a j=false)\/(Fa b a=none/\∀j:Nat,j<dh b->eV b a j=false):=by
 cases e:Fa b a with
 |some k=>
  left;unfold Fa at e;obtain⟨l,d,rs,f,m⟩:=List.find?_eq_some_iff_append.1 e;have c:=jN List.length f;rw[zp,jJ,jY] at c;have hk:(List.range (dh b))[d.length]'(by rw[zp];omega)=k:=by
   have e2:(d++k::rs)[d.length]'(by rw[jJ,jY];omega)=k:=by
    rw[List.getElem_append_right (jj _)];simp
   have:=List.getElem_of_eq f (i:=d.length) (by rw[zp];omega);rw[this,e2]
  rw[List.getElem_range] at hk;refine⟨k,rfl,by omega,l,fun j h=> ?_⟩;have g:=List.getElem_of_eq f (i:=j) (by rw[zp];omega);rw[List.getElem_range,List.getElem_append_left (by omega)] at g;have:=m j (by rw[g];exact List.getElem_mem _);simpa using this
 |none=>
  right;unfold Fa at e;rw[List.find?_eq_none] at e;refine⟨rfl,fun j h=> ?_⟩;have:=e j (jC.2 h);simpa using this
namespace U
def vz (a b:List Int) (k:Nat):List Int:=(List.range k).foldl (fun x p=>x.set p (nth x p+nth b p)) a
def wP (f:Nat->List Int) (n k:Nat):List Int:=(List.range k).foldl (fun a b=>vz a (f b) n) (List.replicate n 0)
def di (l:List Int):List Int:=l.map (fun x=> -x)
def b9 (l:List LnD) (k:Nat):Int:=(l.take k).foldl (fun s x=>s-Ox x) 0
def yM (l:LgD) (b:Nat):List Int:=vw (bo l) (b:Int)
def vA (l:LgD):List Int:=if wd l=0 then wP (yM l) (qc l) (kC (kA l)).length else[]
def qG (l:LgD):List Int:=if wd l=0 then di (q7 (bo l)) else[]
def co (l:LgD):Int:=if wd l=0 then b9 (kz (bo l)) (kz (bo l)).length else 0
end U
theorem ic (a b:List Int) (k:Nat):vz a b (k+1)=(vz a b k).set k (nth (vz a b k) k+nth b k):=by
 unfold vz;rw[za,jL];rfl
theorem eI (a b:List Int):∀k,(vz a b k).length=a.length
 |0=>rfl
 |k+1=>by rw[ic,zN,eI a b k]
theorem uO {a b:List Int}:∀k,k<=a.length->∀j,nth (vz a b k) j=if j<k then nth a j+nth b j else nth a j
 |0,_,j=>by rw[jc (by omega)];rfl
 |k+1,hk,j=>by
  have c:=uO (a:=a) (b:=b) k (by omega)
  rw[ic,L.ye (by rw[eI];omega)]
  by_cases e:k=j
  subst e
  rw[jd rfl,c k,jc (by omega),jd (by omega)]
  rw[jc e,c j]
  by_cases e2:j<k
  rw[jd e2,jd (by omega)]
  rw[jc e2,jc (by omega)]
theorem ig (f:Nat->List Int) (n k:Nat):wP f n (k+1)=vz (wP f n k) (f k) n:=by
 unfold wP;rw[za,jL];rfl
theorem gU (f:Nat->List Int) (n:Nat):∀k,(wP f n k).length=n
 |0=>jV
 |k+1=>by rw[ig,eI,gU f n k]
theorem VC {f:Nat->List Int} {n:Nat} {A B:Int}:∀k,(∀b,b<k->∀j,j<n->A<=nth (f b) j/\nth (f b) j<=B)->∀j,j<n->A*(k:Int)<=nth (wP f n k) j/\nth (wP f n k) j<=B*(k:Int)
 |0,_,j,a=>by
  have:nth (wP f n 0) j=0:=L.ag a
  rw[this];simp
 |k+1,h,j,a=>by
  have g:=VC (f:=f) (n:=n) (A:=A) (B:=B) k (fun b e=>h b (by omega)) j a
  have d:=h k (by omega) j a
  rw[ig,uO n (by rw[gU];exact jj _),jd a]
  have c:A*((k+1:Nat):Int)=A*(k:Int)+A:=by rw[Int.natCast_add,Int.mul_add];simp
  have e2:B*((k+1:Nat):Int)=B*(k:Int)+B:=by rw[Int.natCast_add,Int.mul_add];simp
  rw[c,e2];omega
theorem uP {l:List LnD} {k:Nat} (h:k<l.length):b9 l (k+1)=b9 l k-Ox (nth l k):=by
 unfold b9;rw[L.kQ h,jL];rfl
theorem X0 (n:Nat) (b:Option BlD):(Se n b).length=n:=by
 cases b with
 |none=>exact jV
 |some b=>
  show(wh (qd b) (w7 b) (wh (wQ b) (w7 b) (List.replicate n 0) (w7 b).length) (w7 b).length).length=n;rw[yK,yK,jV]
theorem H7 (o:BoD) (n:Int):(vw o n).length=(kE (kG (kA (gX o)))).length:=X0 _ _
theorem Y0 {o:BoD} (h:Lq o) {n:Int}:∀j,j<(kE (kG (kA (gX o)))).length->-1000000000000000000<=nth (vw o n) j/\nth (vw o n) j<=1700000000000000000:=by
 obtain⟨k,g,f⟩:=h;intro j u;have g:(kE (kG (kA (gX o)))).length<=100:=g;unfold vw;cases e:Oz o n with
 |none=>
  show _<=nth (List.replicate _ 0) j/\nth (List.replicate _ 0) j<=_;rw[L.ag u];omega
 |some b=>
  have c:(n,some b)∈ID o:=by
   refine(M.eX (kt:= .int) k.2.2.1).1 ?_;have e:kY none (kN .int n (ID o))=some b:=e;cases s:kN (β:=Option BlD) Ty.int n (ID o) with
   |none=>rw[s] at e;cases e
   |some v=>rw[s] at e;exact jN some e
  obtain⟨A,l,F⟩:=k.1 _ c;have l:some b=some A:=l;simp only[jw] at l;subst l;have w:Iz b:=ac.1 F;have D:=f _ c b rfl;have E:=w.bl.tm;have C:=sM w;have B:=sN w;have d:∀p∈w7 b,0<=p/\p<((List.replicate (kE (kG (kA (gX o)))).length (0:Int)).length:Int):=fun p r=>by rw[jV];exact D p r
  obtain⟨m,y⟩:=mh (a:=wQ b) (M:=0) (tm:=w7 b) ⟨C.1,by omega⟩ d (fun x t=>by rw[List.eq_of_mem_replicate t];omega) (w7 b).length (jj _);have q:∀p∈w7 b,0<=p/\p<((wh (wQ b) (w7 b) (List.replicate (kE (kG (kA (gX o)))).length (0:Int)) (w7 b).length).length:Int):=fun p r=>by rw[m];exact d p r
  obtain⟨G,z⟩:=mh (a:=qd b) (M:=800000000000000008) (tm:=w7 b) ⟨B.1,by omega⟩ q (fun x t=>by
   obtain⟨i,hi,rfl⟩:=L.mem_iff.1 t;have:=y i (by rw[m] at hi;exact hi);omega) (w7 b).length (jj _)
  have:=z j (by rw[m,jV];exact u);have key:∀v:Int,-1000000000000000000<=v/\v<=800000000000000008+((w7 b).length:Int)*100000000000000001->-1000000000000000000<=v/\v<=1700000000000000000:=fun v s=>by omega
  exact key _ this
theorem jaH {o:BoD} (h:Lp o):(q7 o).length<=21/\∀x∈q7 o,-100000000<=x/\x<=2000000000000000000:=by
 obtain⟨c,m,d,s⟩:=h;unfold q7;by_cases h:(yh (gX o)).length=0;rw[jd h];exact⟨jv _,fun x a=>by cases a⟩;rw[jc h];have f:yh (gX o)≠[]:=fun e=>h (by rw[e];rfl)
 have v:=d _ (H2 f);have a:∀x∈kz o,(0<=dp x/\dp x<(((yW (yh (gX o))+1).toNat:Nat):Int))/\-1000000<=Iu x/\Iu x<=20000000000000000:=fun x a=>by
  obtain⟨k,b,p,q,rfl⟩:=Gf c a;have i:=s _ p b rfl;have t:=NV i;have r:=d _ i;refine⟨⟨r.1,?_⟩,HZ q⟩;show LH b<_;omega
 have F:=DP a;have u:=Gg c;obtain⟨g,n⟩:=F (kz o).length (jj _);refine⟨by rw[g];omega,fun x a=> ?_⟩;obtain⟨j,l,rfl⟩:=L.mem_iff.1 a;have:=n j (by rw[g] at l;exact l);omega
theorem VD {l:List LnD} (h:∀x∈l,0<=Ox x/\Ox x<=1000000):∀k,k<=l.length->-1000000*(k:Int)<=b9 l k/\b9 l k<=0
 |0,_=>by show _<=(0:Int)/\(0:Int)<=0;omega
 |k+1,hk=>by
  have b:=VD h k (by omega)
  have a:=h _ (L.kx (show k<l.length by omega))
  rw[uP (by omega)];omega
theorem mV {l:LgD} (h:mc l) {b:Int} (n:0<=b/\b<((kC (kA l)).length:Int)):(uY l b).length=qc l/\
 ∀p,p<qc l->nth (uY l b) p=if Ix l b=true/\qb (qU l b) (p:Int)=true then gH (uW l b (qU l b)) (BT.size (qU l b)) (rnk (qU l b) p)+gH (uX l b (qU l b)) (BT.size (qU l b)) (rnk (qU l b) p) else 0:=by
 have i:=(aH (kA l)).symm.trans h.cp;have j:(((wE (qU l b) (qc l)).length:Nat):Int)=BT.size (qU l b):=Ba i (by omega);unfold uY;by_cases c:Ix l b=true;rw[jd c];obtain⟨f,k,g⟩:=uM (df (uW l b (qU l b)) (BT.size (qU l b))) (df (uX l b (qU l b)) (BT.size (qU l b))) (qU l b) (qc l) (qc l) (jj _);refine⟨f,fun p a=> ?_⟩;rw[g p a];by_cases e:qb (qU l b) (p:Int)=true;rw[jd ⟨a,e⟩,jd ⟨c,e⟩];have d:rnk (qU l b) p<(BT.size (qU l b)).toNat:=by
  have m:rnk (qU l b) p<(wE (qU l b) (qc l)).length:=(VA e (qc l) a).1;omega
 unfold df;rw[uN d,uN d];rw[jc (fun h=>e h.2),jc (fun h=>e h.2)];rw[jc c];refine⟨jV,fun p a=> ?_⟩;rw[L.ag a,jc (fun h=>c h.1)]
theorem VE {l:LgD} {b:Bool} (h:wo l b=0):mc l/\b=true:=by
 unfold wo at h
 split at h
 rename_i a;exact absurd h a;rename_i a
 split at h
 rename_i c;exact⟨cW (jQ.1 a),c⟩;cases h
theorem PP {l:LgD} {n:Int}:qT l n=true↔0<=n/\n<((kC (kA l)).length:Int):=by
 unfold qT;rw[qm];omega
theorem jcc {l:LgD} (h:mc l):(kC (kA l)).length<=4:=by
 have a:=h.dy;unfold wK at a;rw[ji] at a;exact(ja a.1).1
structure jdU (l:LgD) (x:LnD):Prop where
 bk:0<=m0 x/\m0 x<((kC (kA l)).length:Int)
 py:dp x=nth (yh l) (m0 x).toNat
 pr:0<=dp x/\dp x<=20/\dp x<iH l
 wk:0<=IB x/\IB x<=10000000000000000
 tr:0<=IC x/\IC x<=1000000000
 sb:0<=Ox x/\Ox x<=Sc (lc l)
 tt:Iu x=IB x+IC x-Ox x/\0<=Iu x
 kd:0<=i9 (y8 (nth (kC (kA l)) (m0 x).toNat))/\i9 (y8 (nth (kC (kA l)) (m0 x).toNat))<((bv (lc l)).length:Int)
 pc:0<=nth (bv (lc l)) (i9 (y8 (nth (kC (kA l)) (m0 x).toNat))).toNat/\nth (bv (lc l)) (i9 (y8 (nth (kC (kA l)) (m0 x).toNat))).toNat<=100
 pp:100*Ox x<=(IB x+IC x)*nth (bv (lc l)) (i9 (y8 (nth (kC (kA l)) (m0 x).toNat))).toNat
theorem X1 {l:LgD} {i:Nat} (hi:i<(yh l).length):nth (yh l) i<iH l:=by
 have:=(pL (l:=l) (yh l).length (jj _)).2.1 i hi;show _<bj l (yh l).length;omega
theorem X2 {l:LgD} (h:mc l) {x:LnD} (t:x∈q6 l):jdU l x:=by
 obtain⟨p,v,b,i,z,y,rfl⟩:=Bc.1 (show x∈pR l 21 from t);have c:0<=(b:Int)/\(b:Int)<(kC (kA l)).length:=(by rw[h.py.1] at i;omega);rw[<-uL h c];have w:=DB h c;obtain⟨c1,c2,e,f,_⟩:=qD l (b:Int) _ (jj _);have c1:qp (kZ l (b:Int))=nth (kC (kA l)) b:=c1;have c2:yP (kZ l (b:Int))=lc l:=c2;have e:Oy (kZ l (b:Int))=(b:Int):=e;have f:LH (kZ l (b:Int))=nth (yh l) b:=f;have r:=sM w;have q:=sN w;have o:=w.bl.ta.cp;have d:=Vj w.bl;have hk:=w.bl.kd;have j:=w.bl.ta.sl;rw[c1,c2] at d;rw[c1] at hk;rw[c2] at o j;have m:0<=(wQ (kZ l (b:Int))+qd (kZ l (b:Int)))*nth (bv (lc l)) (i9 (y8 (nth (kC (kA l)) b))).toNat:=Int.mul_nonneg (by omega) d.1;have n:(wQ (kZ l (b:Int))+qd (kZ l (b:Int)))*nth (bv (lc l)) (i9 (y8 (nth (kC (kA l)) b))).toNat<=(wQ (kZ l (b:Int))+qd (kZ l (b:Int)))*100:=Int.mul_le_mul_of_nonneg_left d.2 (by omega);have g:om (kZ l (b:Int))=min (Sc (lc l)) (((wQ (kZ l (b:Int))+qd (kZ l (b:Int)))*nth (bv (lc l)) (i9 (y8 (nth (kC (kA l)) b))).toNat)/100):=by
  unfold om;rw[c1,c2,z7 m]
 have u:=X1 i;have s:=h.py.2 _ (L.kx i);have k:m0 (qh (kZ l (b:Int)))=(b:Int):=e;have ep:dp (qh (kZ l (b:Int)))=nth (yh l) b:=f;have a:(m0 (qh (kZ l (b:Int)))).toNat=b:=(by rw[k];rfl);refine⟨by rw[k];exact c,by rw[ep,a],by rw[ep];omega,r,q,?_,⟨rfl,?_⟩,by rw[a];omega,by rw[a];exact d,?_⟩;show 0<=om _/\om _<=_;rw[g];omega;show 0<=wQ _+qd _-om _;rw[g];omega;rw[a];show 100*om _<=(wQ _+qd _)*_;rw[g];omega
theorem PQ {l:LgD} (h:mc l):(q6 l).length<=(kC (kA l)).length:=by
 rw[<-aI h];have e:(kz (U.bo l)).length=(qO (IE l)).length:=(wm _).length_eq;rw[e,Bb,zf];unfold km
 split
 unfold y6;rw[zf];exact jD (kc _ _) (by rw[zp];exact jj _);exact jv _
namespace U
def qP (l:List Int) (k:Nat):Int:=(l.take k).foldl (fun s x=>s+x) 0
def kX (l:List Int):Int:=qP l l.length
def yN (l:List LnD) (b:Int) (k:Nat):Int:=(l.take k).foldl (fun s x=>if m0 x=b then s+(IB x+IC x) else s) 0
end U
theorem K1 (l:List Int):∀a:Int,l.foldl (fun s x=>s+x) a=a+l.foldl (fun s x=>s+x) 0:=by
 induction l with
 |nil=>intro a;simp
 |cons x r b=>
  intro a;show r.foldl (fun s x=>s+x) (a+x)=a+r.foldl (fun s x=>s+x) (0+x);rw[b (a+x),b (0+x)];omega
theorem mW (l:List Int):kX l=l.foldl (fun s x=>s+x) 0:=by
 unfold kX qP;rw[zu]
theorem wN (x:Int) (l:List Int):kX (x::l)=x+kX l:=by
 rw[mW,mW];show l.foldl (fun s x=>s+x) (0+x)=_;rw[K1];omega
theorem cG (a b:List Int):kX (a++b)=kX a+kX b:=by
 rw[mW,mW,mW,jL,K1]
theorem ii (x:Int):kX [x]=x:=by
 show(0:Int)+x=x;omega
theorem Gj {l:List Int} {k:Nat} (h:k<l.length):qP l (k+1)=qP l k+nth l k:=by
 unfold qP;rw[L.kQ h,jL];rfl
theorem VF {a b:List Int} (h:a.Perm b):kX a=kX b:=by
 induction h with
 |nil=>rfl
 |cons x _ e=>rw[wN,wN,e]
 |swap x y l=>rw[wN,wN,wN,wN];omega
 |trans _ _ c d=>rw[c,d]
theorem PS {l:List Int} {i:Nat} {v:Int} (h:i<l.length):kX (l.set i v)=kX l+v-nth l i:=by
 induction l generalizing i with
 |nil=>cases h
 |cons x r b=>
  cases i with
  |zero=>rw[List.set_cons_zero,wN,wN];show v+_=x+_+v-x;omega
  |succ i=>
   have a:i<r.length:=(by simpa using h);rw[List.set_cons_succ,wN,wN,b a];show x+(kX r+v-nth r i)=x+kX r+v-nth r i;omega
theorem H8 (n:Nat):kX (List.replicate n 0)=0:=by
 induction n with
 |zero=>rfl
 |succ n a=>rw[List.replicate_succ,wN,a];rfl
theorem uQ (f:Nat->Int) (n:Nat):kX ((List.range (n+1)).map f)=kX ((List.range n).map f)+f n:=by
 rw[za,zi,cG];show _+kX [f n]=_;rw[ii]
theorem K2 {a m:Int} (b:0<=a) (c:0<m):∀k:Nat,(k:Int)<=m->kX (yL a m k)=(k:Int)*(a/m)+min (k:Int) (a%m)
 |0,_=>by
  show(0:Int)=_
  have:=Int.emod_nonneg a (show m≠0 by omega)
  simp;omega
 |k+1,hk=>by
  have e:=K2 b c k (by omega)
  have f:=Int.emod_lt_of_pos a c
  have g:=Int.emod_nonneg a (show m≠0 by omega)
  have d:yL a m (k+1)=yL a m k++[gH a m k]:=by
   unfold yL;rw[za,zi];rfl
  have e2:((k+1:Nat):Int)*(a/m)=(k:Int)*(a/m)+a/m:=(by rw[Int.natCast_add,Int.add_mul];simp);rw[d,cG,e,ii,e2];unfold gH;rw[z7 b,Int.tmod_eq_emod_of_nonneg b];generalize (k:Int)*(a/m)=z
  split<;>omega
theorem K3 {a m:Int} (d:0<=a) (b:0<m):kX (df a m)=a:=by
 unfold df;rw[K2 d b m.toNat (by omega)];have f:=Int.emod_lt_of_pos a b;have c:=Int.emod_def a m;have e:((m.toNat:Nat):Int)=m:=(by omega);rw[e,Int.min_eq_right (by omega),c];omega
theorem K4 {l:List Int} {n:Nat} {f:Nat->Int} (a:l.length=n) (h:∀p,p<n->nth l p=f p):l=(List.range n).map f:=by
 refine L.ext_nth (by rw[a,zf,zp]) fun i hi=> ?_
 rw[a] at hi;rw[h i hi,L.Bg (by rw[zp];exact hi),L.wB (by rw[zp];exact hi),List.getElem_range]
theorem PT (w t m:Int) (b:Int):∀n:Nat,kX ((List.range n).map (fun(p:Nat)=>if qb b (p:Int)=true then gH w m (rnk b p)+gH t m (rnk b p) else 0))=kX (yL w m (rnk b n))+kX (yL t m (rnk b n))
 |0=>rfl
 |n+1=>by
  have c:∀a:Int,yL a m (rnk b n+1)=yL a m (rnk b n)++[gH a m (rnk b n)]:=fun a=>by
   unfold yL;rw[za,zi];rfl
  rw[uQ,PT w t m b n,H6]
  by_cases h:qb b (n:Int)=true
  rw[jd h,jd h,c,c,cG,cG,ii,ii];omega
  rw[jc h,jc h,zH];omega
theorem NX {l:LgD} (h:mc l) {b:Int} (f:0<=b/\b<((kC (kA l)).length:Int)):kX (uY l b)=if Ix l b=true then uW l b (qU l b)+uX l b (qU l b) else 0:=by
 have g:=(aH (kA l)).symm.trans h.cp;obtain⟨k,m⟩:=mV h f;by_cases c:Ix l b=true;rw[jd c];have y:(((wE (qU l b) (qc l)).length:Nat):Int)=BT.size (qU l b):=Ba g (by omega);have a:0<BT.size (qU l b):=by
  have n:tu (kG (kA l)) (y8 (Ls l b)) (qU l b)=true:=c;unfold tu at n;rw[ji,jr] at n;have j:jcM (qU l b):=(by unfold qU;rw[PE g];exact jap g (by omega));have j:0<=qU l b/\qU l b<256:=j;exact(BT.size_pos ⟨j.1,by omega⟩).1 (by omega)
 have r:=uL h f;have w:=DB h f;have u:wQ (kZ l b)=uW l b (qU l b):=jN IB r;have e2:qd (kZ l b)=uX l b (qU l b):=jN IC r;have q:=sM w;have o:=sN w;rw[u] at q;rw[e2] at o;rw[K4 k (fun p i=>m p i)];have d:(fun p:Nat=>if Ix l b=true/\qb (qU l b) (p:Int)=true then gH (uW l b (qU l b)) (BT.size (qU l b)) (rnk (qU l b) p)+gH (uX l b (qU l b)) (BT.size (qU l b)) (rnk (qU l b) p) else 0)=
  (fun p:Nat=>if qb (qU l b) (p:Int)=true then gH (uW l b (qU l b)) (BT.size (qU l b)) (rnk (qU l b) p)+gH (uX l b (qU l b)) (BT.size (qU l b)) (rnk (qU l b) p) else 0):=by
  funext p;by_cases e:qb (qU l b) (p:Int)=true;rw[jd ⟨c,e⟩,jd e];rw[jc (fun h=>e h.2),jc e]
 rw[d,PT];have x:rnk (qU l b) (qc l)=(BT.size (qU l b)).toNat:=by
  show(wE (qU l b) (qc l)).length=_;omega
 rw[x];have s:=K3 q.1 a;have t:=K3 o.1 a;unfold df at s t;rw[s,t];rw[jc c];rw[K4 k (fun p i=>m p i)];have d:(fun p:Nat=>if Ix l b=true/\qb (qU l b) (p:Int)=true then gH (uW l b (qU l b)) (BT.size (qU l b)) (rnk (qU l b) p)+gH (uX l b (qU l b)) (BT.size (qU l b)) (rnk (qU l b) p) else 0)=fun _=>0:=by
  funext p;rw[jc (fun h=>c h.1)]
 rw[d];have v:((List.range (qc l)).map (fun _=>(0:Int)))=List.replicate (qc l) 0:=by
  rw[List.map_const'];rw[zp]
 rw[v,H8]
theorem VG {a b:List Int}:∀k,k<=a.length->k<=b.length->kX (vz a b k)=kX a+qP b k
 |0,_,_=>by show kX a=kX a+0;omega
 |k+1,d,e=>by
  have c:=VG (a:=a) (b:=b) k (by omega) (by omega)
  rw[ic,PS (by rw[eI];omega),c,Gj (by omega)];omega
theorem NY {f:Nat->List Int} {n:Nat}:∀k,(∀b,b<k->(f b).length=n)->kX (wP f n k)=kX ((List.range k).map (fun b=>kX (f b)))
 |0,_=>H8 n
 |k+1,h=>by
  have a:=h k (by omega)
  have e:qP (f k) n=kX (f k):=by unfold kX;rw[a]
  rw[ig,VG n (by rw[gU];exact jj _) (by omega),NY k (fun b c=>h b (by omega)),e,uQ]
theorem H9 {n:Nat} {l:List LnD} (h:∀x∈l,0<=dp x/\dp x<(n:Int)):∀k,k<=l.length->(vT n l k).length=n/\kX (vT n l k)=kX ((l.take k).map Iu)
 |0,_=>⟨jV,H8 n⟩
 |k+1,hk=>by
  obtain⟨a,b⟩:=H9 h k (by omega)
  have c:=h _ (L.kx (show k<l.length by omega))
  rw[mU (by omega)]
  unfold Iw
  refine⟨by rw[zN,a],?_⟩
  rw[PS (by rw[a];omega),b,L.kQ (show k<l.length by omega),zi,cG]
  show _=_+kX [Iu (nth l k)]
  rw[ii];omega
theorem VH {l:List LnD}:∀k,k<=l.length->b9 l k= -kX ((l.take k).map Ox)
 |0,_=>rfl
 |k+1,hk=>by
  rw[uP (by omega),VH k (by omega),L.kQ (show k<l.length by omega),zi,cG]
  show _= -(_+kX [Ox (nth l k)])
  rw[ii];omega
theorem NZ (l:List Int):kX (di l)= -kX l:=by
 induction l with
 |nil=>rfl
 |cons x r a=>
  show kX (-x::di r)=_;rw[wN,wN,a];omega
theorem jaI (f g:LnD->Int) (l:List LnD):kX (l.map (fun x=>f x+g x))=kX (l.map f)+kX (l.map g):=by
 induction l with
 |nil=>rfl
 |cons x r a=>
  rw[zg,zg,zg,wN,wN,wN,a];omega
theorem RT {α:Type} (p:α->Bool) (g:α->Int) (l:List α):kX ((l.filter p).map g)=kX (l.map (fun b=>if p b=true then g b else 0)):=by
 induction l with
 |nil=>rfl
 |cons x r a=>
  rw[zg,wN,<-a];by_cases h:p x=true;rw[List.filter_cons_of_pos h,zg,wN,jd h];rw[List.filter_cons_of_neg h,jc h];omega
theorem K5 {l:LgD} (h:mc l):(q6 l).Perm (((List.range (kC (kA l)).length).filter (fun(b:Nat)=>Ix l (b:Int))).map (fun(b:Nat)=>mw l (b:Int) (qU l (b:Int)))):=by
 have c:=(aH (kA l)).symm.trans h.cp;have a:(q6 l).Perm (qO (IE l)):=by
  rw[<-aI h];exact wm _
 rw[Bb] at a;have d:km (kA l)=((List.range (kC (kA l)).length).filter (fun(b:Nat)=>Ix l (b:Int))).map (fun(b:Nat)=>(b:Int)):=by
  rw[NE];unfold jcN;rw[jd c];unfold P2;rw[uA c];rfl
 rw[d,kg] at a;refine a.trans (List.Perm.of_eq ?_);refine List.map_congr_left fun b e=> ?_
 have:=jC.1 (jO.1 e).1;exact uL h (n:=(b:Int)) (by omega)
theorem Y1 {l:LgD} (h:mc l) (g:LnD->Int):kX ((q6 l).map g)=kX ((List.range (kC (kA l)).length).map (fun(b:Nat)=>if Ix l (b:Int)=true then g (mw l (b:Int) (qU l (b:Int))) else 0)):=by
 rw[VF ((K5 h).map g),kg];exact RT (fun(b:Nat)=>Ix l (b:Int)) (fun(b:Nat)=>g (mw l (b:Int) (qU l (b:Int)))) _
theorem jaJ {l:LgD} (h:wd l=0):kX (vA l)+kX (qG l)+co l=0:=by
 have a:=cW h;have g:vA l=wP (yM l) (qc l) (kC (kA l)).length:=jd h;have i:qG l=di (q7 (U.bo l)):=jd h;have j:co l=b9 (kz (U.bo l)) (kz (U.bo l)).length:=jd h;have c:∀x∈q6 l,0<=dp x/\dp x<(((iH l).toNat:Nat):Int):=fun x c=>by
  have:=(X2 a c).pr;omega
 have s1:kX (vA l)=kX ((q6 l).map (fun x=>IB x+IC x)):=by
  rw[g,NY (f:=yM l) (n:=qc l) _ (fun b _=>H7 _ _),Y1 a];refine jN kX (List.map_congr_left fun b d=> ?_);have d:=jC.1 d;have e:yM l b=uY l (b:Int):=VB a (by omega);rw[e,NX a (by omega)];rfl
 have s2:kX (qG l)= -kX ((q6 l).map Iu):=by
  rw[i,NZ,Vz a];have:=(H9 c (q6 l).length (jj _)).2;rw[zu] at this;show-kX (vT (iH l).toNat (q6 l) (q6 l).length)=_;rw[this]
 have k:co l= -kX ((q6 l).map Ox):=by
  rw[j,aI a,VH _ (jj _),zu]
 have m:kX ((q6 l).map (fun x=>IB x+IC x))=kX ((q6 l).map Iu)+kX ((q6 l).map Ox):=by
  rw[<-jaI];refine jN kX (List.map_congr_left fun x c=> ?_);have:=(X2 a c).tt;omega
 omega
theorem Gk {l:List LnD} {b:Int} {k:Nat} (h:k<l.length):yN l b (k+1)=if m0 (nth l k)=b then yN l b k+(IB (nth l k)+IC (nth l k)) else yN l b k:=by
 unfold yN;rw[L.kQ h,jL];rfl
theorem N0 {l:List LnD} {b:Int}:∀k,k<=l.length->yN l b k=kX ((l.take k).map (fun x=>if m0 x=b then IB x+IC x else 0))
 |0,_=>rfl
 |k+1,hk=>by
  rw[Gk (by omega),N0 k (by omega),L.kQ (show k<l.length by omega),zi,cG]
  show _=_+kX [if m0 (nth l k)=b then IB (nth l k)+IC (nth l k) else 0]
  rw[ii]
  split<;>omega
theorem VI (f:Nat->Int) (c:Nat):∀n,kX ((List.range n).map (fun b=>if b=c then f b else 0))=if c<n then f c else 0
 |0=>rfl
 |n+1=>by
  rw[uQ,VI f c n]
  by_cases e:n=c
  subst e;rw[jc (by omega),jd rfl,jd (by omega)];omega
  rw[jc e]
  by_cases e2:c<n
  rw[jd e2,jd (by omega)];omega
  rw[jc e2,jc (by omega)];rfl
theorem VJ {l:LgD} (h:mc l) {b:Nat} (d:b<(kC (kA l)).length):yN (q6 l) (b:Int) (q6 l).length=kX (uY l (b:Int)):=by
 rw[N0 _ (jj _),zu,Y1 h,NX h (by omega)];have e:(fun(c:Nat)=>if Ix l (c:Int)=true then(if m0 (mw l (c:Int) (qU l (c:Int)))=(b:Int) then IB (mw l (c:Int) (qU l (c:Int)))+IC (mw l (c:Int) (qU l (c:Int))) else 0) else 0)=
  fun c=>if c=b then(if Ix l (c:Int)=true then uW l (c:Int) (qU l (c:Int))+uX l (c:Int) (qU l (c:Int)) else 0) else 0:=by
  funext c;have a:m0 (mw l (c:Int) (qU l (c:Int)))=(c:Int):=rfl;rw[a];by_cases e2:c=b;subst e2;rw[jd rfl,jd rfl];rfl;rw[jc e2]
  split
  rw[jc (by omega)];rfl
 rw[e,VI (fun(c:Nat)=>if Ix l (c:Int)=true then uW l (c:Int) (qU l (c:Int))+uX l (c:Int) (qU l (c:Int)) else 0) b,jd d]
end Go.X

namespace Go.X
open U
open Go.Proofs
namespace U
def Sf (l:List NoD) (j:Nat):Bool:=(kl (Wk (nth l j)) 0 100000&&kl (Y6 (nth l j)) 0 100)&&(decide (j=0)||decide (Wk (nth l j)<Wk (nth l (j-1))))
def We (a b:CaD):Bool:=decide (Sq a=Sq b)&& !decide (a=b)
def Sr (l:LgD) (j:Nat):Bool:=Lo (nth (yh l) j)&&xD (nth (Gn l) j)
end U
def K6:wi:=⟨[.val .int,.val .int,.val .int],[.bool],false,fun _=>[],fun d=>(kl d.1 d.2.1 d.2.2.1,())⟩
def K7:Prop:=∀(d:CaD),(decide (d.2.1<=d.1)&&decide (d.1<=d.2.2.1),())=(kl d.1 d.2.1 d.2.2.1,())
def EQ:wi:=⟨[.val tTa],[.bool],false,fun _=>[],fun d=>(vu d.1,())⟩
def ER:Ann:=fun r=>match r with
 |4=>some fun σ=>{X:=Nat,sl:=fun i=>[(3,.dat .int (i:Int))],ob:=fun _=>[],inv:=fun i=>i<=(bv (gb tTa σ 1)).length/\∀j:Nat,j<i->kl (nth (bv (gb tTa σ 1)) j) 0 100=true,mu:=fun i=>(bv (gb tTa σ 1)).length-i}
 |9=>some fun σ=>{X:=Nat,sl:=fun i=>[(4,.dat .int (i:Int))],ob:=fun _=>[],inv:=fun i=>i<=(eZ (gb tTa σ 1)).length/\∀j:Nat,j<i->Sf (eZ (gb tTa σ 1)) j=true,mu:=fun i=>(eZ (gb tTa σ 1)).length-i}
 |_=>none
abbrev jf9 (d:TaD×Unit)(x:Nat):=(nth d.1.q4.q4.2.1 x)
abbrev jhh (d:TaD×Unit)(x:Nat):=(!(!kl (jf9 d x).1 (0:Int) (100000:Int)|| !kl (jf9 d x).2.1 (0:Int) (100:Int))&&decide (0<(x:Int)))
abbrev jhY (d:TaD×Unit)(x:Nat):=(!kl (jf9 d x).1 (0:Int) (100000:Int)|| !kl (jf9 d x).2.1 (0:Int) (100:Int)||decide (0<(x:Int))&&decide ((nth d.1.q4.q4.2.1 ((x:Int)-1).toNat).1<=(jf9 d x).1))
abbrev jga (d:TaD×Unit):=(d.1.q4.q4.2.1.length:Int)
abbrev jgb (d:TaD×Unit):=(d.1.q4.q4.1.length:Int)
abbrev jhZ (d:TaD×Unit):=(!kl d.1.1 (1:Int) (240:Int)|| !kl d.1.2.1 (0:Int) (10000:Int)|| !kl d.1.2.2.1 (0:Int) (20:Int)|| !kl d.1.q4.1 (0:Int) d.1.2.2.2.1||decide (1440<d.1.2.2.2.1)|| !kl d.1.q4.2.1 (0:Int) (100:Int)|| !kl d.1.q4.2.2.1 (0:Int) (10000:Int)||decide ((jgb d)≠4)|| !kl d.1.q4.2.2.2.1 (0:Int) (1000000:Int)||decide (4<(jga d)))
abbrev jh0 (d:TaD×Unit)(x:Nat):=(!kl (nth d.1.q4.q4.1 x) (0:Int) (100:Int))
def ES:Prop:=∀(d:TaD×Unit),((!(!kl d.1.1 (1:Int) (240:Int)|| !kl d.1.2.1 (0:Int) (10000:Int)|| !kl d.1.2.2.1 (0:Int) (20:Int)|| !kl d.1.q4.1 (0:Int) d.1.2.2.2.1||decide (1440<d.1.2.2.2.1)|| !kl d.1.q4.2.1 (0:Int) (100:Int)|| !kl d.1.q4.2.2.1 (0:Int) (10000:Int)))=true->d.1.q4.q4.1.length<4611686018427387904)->((!(!kl d.1.1 (1:Int) (240:Int)|| !kl d.1.2.1 (0:Int) (10000:Int)|| !kl d.1.2.2.1 (0:Int) (20:Int)|| !kl d.1.q4.1 (0:Int) d.1.2.2.2.1||decide (1440<d.1.2.2.2.1)|| !kl d.1.q4.2.1 (0:Int) (100:Int)|| !kl d.1.q4.2.2.1 (0:Int) (10000:Int)||decide ((jgb d)≠4)|| !kl d.1.q4.2.2.2.1 (0:Int) (1000000:Int)))=true->d.1.q4.q4.2.1.length<4611686018427387904)->((jhZ d)=true->(false,())=(vu d.1,()))/\((jhZ d)=false->(∃(x:Nat),((0=(x:Int)/\True)/\True)/\x<=(bv d.1).length/\∀(j:Nat),j<x->kl (nth (bv d.1) j) (0:Int) 100=true)/\∀(x:Nat),(x<=(bv d.1).length/\∀(j:Nat),j<x->kl (nth (bv d.1) j) (0:Int) 100=true)->d.1.q4.q4.1.length<4611686018427387904->(decide ((x:Int)<(jgb d))=true->0<=(x:Int)/\(x:Int)<(jgb d)/\((jh0 d x)=true->(false,())=(vu d.1,()))/\((jh0 d x)=false->kK ((x:Int)+1)/\∃(a:Nat),(((x:Int)+1=(a:Int)/\True)/\True)/\(a<=(bv d.1).length/\∀(j:Nat),j<a->kl (nth (bv d.1) j) (0:Int) 100=true)/\(bv d.1).length-a<(bv d.1).length-x))/\(decide ((x:Int)<(jgb d))=false->(∃(x:Nat),((0=(x:Int)/\True)/\True)/\x<=(eZ d.1).length/\∀(j:Nat),j<x->Sf (eZ d.1) j=true)/\∀(x:Nat),(x<=(eZ d.1).length/\∀(j:Nat),j<x->Sf (eZ d.1) j=true)->d.1.q4.q4.2.1.length<4611686018427387904->(decide ((x:Int)<(jga d))=true->0<=(x:Int)/\(x:Int)<(jga d)/\((jhh d x)=true->kK ((x:Int)-1))/\((jhh d x)=true->0<=(x:Int)-1)/\((jhh d x)=true->(x:Int)-1<(jga d))/\((jhY d x)=true->(false,())=(vu d.1,()))/\((jhY d x)=false->kK ((x:Int)+1)/\∃(a:Nat),(((x:Int)+1=(a:Int)/\True)/\True)/\(a<=(eZ d.1).length/\∀(j:Nat),j<a->Sf (eZ d.1) j=true)/\(eZ d.1).length-a<(eZ d.1).length-x))/\(decide ((x:Int)<(jga d))=false->(true,())=(vu d.1,()))))
def ET:wi:=⟨[.val tLg],[.bool],false,fun _=>[],fun d=>(cm d.1,())⟩
def EU:Ann:=fun r=>match r with
 |5=>some fun σ=>{X:=Nat,sl:=fun i=>[(4,.dat .int (i:Int))],ob:=fun _=>[],inv:=fun i=>i<=(gd .int σ 3).toNat/\∀j:Nat,j<i->Sr (gb tLg σ 1) j=true,mu:=fun i=>(gd .int σ 3).toNat-i}
 |10=>some fun σ=>{X:=Nat,sl:=fun i=>[(5,.dat .int (i:Int))],ob:=fun _=>[],inv:=fun i=>i<=(wF (gb tLg σ 1)).length/\∀j:Nat,j<i->nP (gd .int σ 3).toNat (nth (wF (gb tLg σ 1)) j)=true,mu:=fun i=>(wF (gb tLg σ 1)).length-i}
 |_=>none
abbrev jep (d:LgD×Unit):=(d.1.1.2.2.1.length:Int)
abbrev jh1 (d:LgD×Unit)(x:Nat):=(!kl (nth d.1.2.1 x) (0:Int) (20:Int)|| !kl (nth d.1.2.2.1 x) (0:Int) (300:Int))
abbrev jgB (d:LgD×Unit)(x:Nat):=(nth d.1.q4.1 x)
abbrev jh2 (d:LgD×Unit)(x:Nat):=(!kl (jgB d x).1 (0:Int) (99:Int)|| !kl (jgB d x).2.1 (0:Int) ((jep d)-1)|| !kl (jgB d x).2.2.1 (-100000:Int) (1440:Int))
abbrev jhi (d:LgD×Unit):=((d.1.2.1.length:Int)≠(jep d))
abbrev jgC (d:LgD×Unit):=(d.1.q4.1.length:Int)
abbrev jh3 (d:LgD×Unit):=(decide (jhi d)||decide ((d.1.2.2.1.length:Int)≠(jep d))|| !vu d.1.2.2.2.1||decide (10<(jgC d)))
def EV:Prop:=∀(d:LgD×Unit),d.1.1.2.2.1.length<4611686018427387904->d.1.2.1.length<4611686018427387904->((!decide (jhi d))=true->d.1.2.2.1.length<4611686018427387904)->((!(decide (jhi d)||decide ((d.1.2.2.1.length:Int)≠(jep d))|| !vu d.1.2.2.2.1))=true->d.1.q4.1.length<4611686018427387904)->((jh3 d)=true->(false,())=(cm d.1,()))/\((jh3 d)=false->(∃(x:Nat),((0=(x:Int)/\True)/\True)/\x<=(jep d).toNat/\∀(j:Nat),j<x->Sr d.1 j=true)/\∀(x:Nat),(x<=(jep d).toNat/\∀(j:Nat),j<x->Sr d.1 j=true)->(decide ((x:Int)<(jep d))=true->0<=(x:Int)/\(x:Int)<d.1.2.1.length/\((!!kl (nth d.1.2.1 x) (0:Int) (20:Int))=true->0<=(x:Int))/\((!!kl (nth d.1.2.1 x) (0:Int) (20:Int))=true->(x:Int)<d.1.2.2.1.length)/\((jh1 d x)=true->(false,())=(cm d.1,()))/\((jh1 d x)=false->kK ((x:Int)+1)/\∃(a:Nat),(((x:Int)+1=(a:Int)/\True)/\True)/\(a<=(jep d).toNat/\∀(j:Nat),j<a->Sr d.1 j=true)/\(jep d).toNat-a<(jep d).toNat-x))/\(decide ((x:Int)<(jep d))=false->(∃(x:Nat),((0=(x:Int)/\True)/\True)/\x<=(wF d.1).length/\∀(j:Nat),j<x->nP (jep d).toNat (nth (wF d.1) j)=true)/\∀(x:Nat),(x<=(wF d.1).length/\∀(j:Nat),j<x->nP (jep d).toNat (nth (wF d.1) j)=true)->d.1.q4.1.length<4611686018427387904->(decide ((x:Int)<(jgC d))=true->0<=(x:Int)/\(x:Int)<(jgC d)/\((!!kl (jgB d x).1 (0:Int) (99:Int))=true->kK ((jep d)-1))/\((jh2 d x)=true->(false,())=(cm d.1,()))/\((jh2 d x)=false->kK ((x:Int)+1)/\∃(a:Nat),(((x:Int)+1=(a:Int)/\True)/\True)/\(a<=(wF d.1).length/\∀(j:Nat),j<a->nP (jep d).toNat (nth (wF d.1) j)=true)/\(wF d.1).length-a<(wF d.1).length-x))/\(decide ((x:Int)<(jgC d))=false->(true,())=(cm d.1,()))))
def N1:wi:=⟨[.val tLg],[.int],false,fun d=>[(kC (kA d.1)).length<=1000000],fun d=>(wd d.1,())⟩
def N2:Ann:=fun r=>match r with
 |7=>some fun σ=>{X:=Nat,sl:=fun i=>[(4,.dat .int (i:Int))],ob:=fun _=>[],inv:=fun i=>i<=(wF (gb tLg σ 1)).length/\∀b:Nat,b<i->aM (wF (gb tLg σ 1)) b=false,mu:=fun i=>(wF (gb tLg σ 1)).length-i}
 |10=>some fun σ=>{X:=Nat,sl:=fun i=>[(5,.dat .int (i:Int))],ob:=fun _=>[],inv:=fun i=>i<=(gd .int σ 4).toNat/\∀j:Nat,j<i->We (nth (wF (gb tLg σ 1)) (gd .int σ 4).toNat) (nth (wF (gb tLg σ 1)) j)=false,mu:=fun i=>(gd .int σ 4).toNat-i}
 |_=>none
abbrev jgc (d:LgD×Unit)(x:Nat)(a:Nat):=((nth d.1.q4.1 x).1=(nth d.1.q4.1 a).1)
abbrev jfE (d:LgD×Unit):=(d.1.q4.1.length:Int)
abbrev jh4 (d:LgD×Unit)(x:Nat)(a:Nat):=(decide (jgc d x a)&& !decide (nth d.1.q4.1 x=nth d.1.q4.1 a))
def N3:Prop:=∀(d:LgD×Unit),(kC (kA d.1)).length<=1000000->(kC d.1.1).length<=1000000/\(decide (dm d.1.1≠0)=true->(dm d.1.1,())=(wd d.1,()))/\(decide (dm d.1.1≠0)=false->((!cm d.1)=true->((70:Int),())=(wd d.1,()))/\((!cm d.1)=false->(∃(x:Nat),((0=(x:Int)/\True)/\True)/\x<=(wF d.1).length/\∀(b:Nat),b<x->aM (wF d.1) b=false)/\∀(x:Nat),(x<=(wF d.1).length/\∀(b:Nat),b<x->aM (wF d.1) b=false)->d.1.q4.1.length<4611686018427387904->(decide ((x:Int)<(jfE d))=true->(∃(a:Nat),((0=(a:Int)/\True)/\True)/\a<=x/\∀(j:Nat),j<a->We (nth (wF d.1) x) (nth (wF d.1) j)=false)/\∀(a:Nat),(a<=x/\∀(j:Nat),j<a->We (nth (wF d.1) x) (nth (wF d.1) j)=false)->(decide ((a:Int)<(x:Int))=true->0<=(x:Int)/\(x:Int)<(jfE d)/\0<=(a:Int)/\(a:Int)<(jfE d)/\(decide (jgc d x a)=true->0<=(x:Int))/\(decide (jgc d x a)=true->(x:Int)<(jfE d))/\(decide (jgc d x a)=true->0<=(a:Int))/\(decide (jgc d x a)=true->(a:Int)<(jfE d))/\((jh4 d x a)=true->((71:Int),())=(wd d.1,()))/\((jh4 d x a)=false->kK ((a:Int)+1)/\∃(c:Nat),(((a:Int)+1=(c:Int)/\True)/\True)/\(c<=x/\∀(j:Nat),j<c->We (nth (wF d.1) x) (nth (wF d.1) j)=false)/\x-c<x-a))/\(decide ((a:Int)<(x:Int))=false->kK ((x:Int)+1)/\∃(c:Nat),(((x:Int)+1=(c:Int)/\True)/\True)/\(c<=(wF d.1).length/\∀(b:Nat),b<c->aM (wF d.1) b=false)/\(wF d.1).length-c<(wF d.1).length-x))/\(decide ((x:Int)<(jfE d))=false->((0:Int),())=(wd d.1,()))))
theorem N4:K7:=by
 rintro⟨n,a,b,⟨⟩⟩;rfl
theorem xz:wq PR 41 K6:=wb N4 Tryz.func41 kcN koN
theorem DR:∀{l:List NoD} {last:Int},xC last l=true↔∀j,j<l.length->Iv (if j=0 then last else Wk (nth l (j-1))) (nth l j)=true
 |[],_=>⟨fun _ j a=>(by cases a),fun _=>rfl⟩
 |n::r,last=>by
  have d:=DR (l:=r) (last:=Wk n)
  show(Iv last n&&xC (Wk n) r)=true↔_
  rw[ji,d]
  constructor
  rintro⟨b,c⟩ j a
  cases j with
  |zero=>exact b
  |succ j=>
   rw[jc (by omega)]
   have:=c j (by simpa using a)
   cases j with
   |zero=>exact this
   |succ j=>exact this
  intro h
  refine⟨h 0 (by simp),fun j a=> ?_⟩
  have:=h (j+1) (by simpa using a)
  rw[jc (by omega)] at this
  cases j with
  |zero=>exact this
  |succ j=>exact this
theorem jcd {l:List NoD}:xC 100001 l=true↔∀j,j<l.length->Sf l j=true:=by
 constructor;intro h j b;have a:=(HN h _ (L.kx b));have c:=DR.1 h j b;unfold Sf;simp only[ji,zy,jr,qm];refine⟨⟨by omega,by omega⟩,?_⟩;by_cases e:j=0;exact Or.inl e;rw[jc e] at c;unfold Iv at c;rw[ji,qm] at c;right;omega;intro h;refine DR.2 fun j b=> ?_
 have a:=h j b;unfold Sf at a;simp only[ji,zy,jr,qm] at a;unfold Iv U.share;rw[ji,qm,qm];refine⟨?_,a.1.2⟩;by_cases e:j=0;rw[jd e];omega;rw[jc e];omega
def taH (t:TaD):Bool:= !kl (Wl t) 1 240|| !kl (jcu t) 0 10000|| !kl (jcv t) 0 20|| !kl (ja4 t) 0 (Ym t)||decide (1440<Ym t)|| !kl (Wm t) 0 100|| !kl (jbl t) 0 10000||decide (((bv t).length:Int)≠4)|| !kl (Sc t) 0 1000000||decide (4<((eZ t).length:Int))
theorem Ia (t:TaD):vu t=true↔taH t=false/\(∀j,j<(bv t).length->kl (nth (bv t) j) 0 100=true)/\∀j,j<(eZ t).length->Sf (eZ t) j=true:=by
 rw[<-jcd];unfold vu taH U.share;simp only[jS,jE,zr,ji,jr,qm,j8];constructor;rintro⟨⟨⟨⟨⟨⟨⟨a,b⟩,c⟩,l⟩,d⟩,e⟩,f⟩,⟨⟨⟨m,g⟩,h⟩,n⟩,i⟩;exact⟨⟨⟨⟨⟨⟨⟨⟨⟨⟨a,b⟩,c⟩,d⟩,by omega⟩,e⟩,f⟩,by omega⟩,h⟩,by omega⟩,fun j k=>g _ (L.kx k),i⟩;rintro⟨⟨⟨⟨⟨⟨⟨⟨⟨⟨a,b⟩,c⟩,d⟩,l⟩,e⟩,f⟩,m⟩,h⟩,n⟩,g,i⟩;refine⟨⟨⟨⟨⟨⟨⟨a,b⟩,c⟩,by omega⟩,d⟩,e⟩,f⟩,⟨⟨⟨by omega,fun x o=> ?_⟩,h⟩,by omega⟩,i⟩;obtain⟨j,k,rfl⟩:=L.mem_iff.1 o;exact g j k
theorem jaK {t:TaD} (h:¬vu t=true):(false,())=(vu t,()):=by
 rw[kj] at h;rw[h]
theorem DS (l:LgD):cm l=true↔((yh l).length=(kC (kA l)).length/\(Gn l).length=(kC (kA l)).length/\vu (lc l)=true/\(wF l).length<=10)/\(∀j,j<(kC (kA l)).length->Sr l j=true)/\∀j,j<(wF l).length->nP (kC (kA l)).length (nth (wF l) j)=true:=by
 unfold cm Sr;simp only[ji,jr,j8];constructor;rintro⟨⟨⟨c,h⟩,d,i⟩,e,f,k⟩;exact⟨⟨c,d,e,f⟩,fun j a=>⟨h _ (L.kx (by omega)),i _ (L.kx (by omega))⟩,fun j a=>k _ (L.kx a)⟩;rintro⟨⟨c,d,e,f⟩,g,m⟩;refine⟨⟨⟨c,fun x b=> ?_⟩,d,fun x b=> ?_⟩,e,f,fun x b=> ?_⟩;obtain⟨j,a,rfl⟩:=L.mem_iff.1 b;exact(g j (by omega)).1;obtain⟨j,a,rfl⟩:=L.mem_iff.1 b;exact(g j (by omega)).2;obtain⟨j,a,rfl⟩:=L.mem_iff.1 b;exact m j a
theorem jaL {l:LgD} (h:¬cm l=true):(false,())=(cm l,()):=by
 rw[kj] at h;rw[h]
theorem jce {l:List CaD} {i:Nat} (h:∀j:Nat,j<i->We (nth l i) (nth l j)=false) (hi:i<=l.length):aM l i=false:=by
 unfold aM;rw[zq];intro x c;obtain⟨j,b,rfl⟩:=L.mem_iff.1 c;rw[jX] at b;rw[L.nth_take (by omega)];have:=h j (by omega);unfold We at this;rw[kj,Bool.and_eq_false_iff] at*;rcases this with a|a;left;exact zm fun e=>je a e.symm
 right;rw[zr,jr] at a;rw[a,jK rfl];rfl
theorem jaM {l:List CaD} {i j:Nat} (hi:i<l.length) (a:j<i) (h:We (nth l i) (nth l j)=true):b7 l=true:=by
 unfold b7 DX;rw[ze];refine⟨i,jC.2 hi,?_⟩;unfold aM;rw[ze];unfold We at h;rw[ji,jr,jP,jE] at h;refine⟨nth l j,?_,?_⟩;exact L.mem_iff.2 ⟨j,by rw[jX];omega,L.nth_take (by omega)⟩;rw[ji,jr,jP,jE];exact⟨h.1.symm,fun e=>h.2 e.symm⟩
theorem Ib:ES:=by
 unfold ES jh0 jhZ jgb jga jhY jhh jf9 Prod.q4;rintro⟨t,⟨⟩⟩ _ _;refine⟨fun h=>jaK (t:=t) (fun c=> ?_),fun k=> ?_⟩;have h:taH t=true:=h;rw[((Ia t).1 c).1] at h;cases h;have k:taH t=false:=k;refine⟨⟨0,⟨⟨rfl,tZ⟩,tZ⟩,jv _,fun j f=>by omega⟩,fun x d g=>⟨fun h=> ?_,fun h=> ?_⟩⟩;have g:(bv t).length<4611686018427387904:=g;have h:(x:Int)<(bv t).length:=ja h;refine⟨by omega,h,fun c=>jaK (t:=t) (fun i=> ?_),fun c=>⟨iZ6,x+1,⟨⟨by simp,tZ⟩,tZ⟩,⟨by show x+1<=(bv t).length;omega,fun j f=> ?_⟩,by show(bv t).length-(x+1)<(bv t).length-x;omega⟩⟩;have c:(!kl (nth (bv t) x) 0 100)=true:=c;rw[((Ia t).1 i).2.1 x (by omega)] at c;cases c;have c:kl (nth (bv t) x) 0 100=true:=(by simpa using(show(!kl (nth (bv t) x) 0 100)=false from c));by_cases e:j=x;subst e;exact c;exact d.2 j (by omega);have h:¬(x:Int)<(bv t).length:=je h;have o:∀j,j<(bv t).length->kl (nth (bv t) j) 0 100=true:=fun j f=>d.2 j (by omega)
 clear d h;refine⟨⟨0,⟨⟨rfl,tZ⟩,tZ⟩,jv _,fun j f=>by omega⟩,fun x d g=>⟨fun h=> ?_,fun h=> ?_⟩⟩;have g:(eZ t).length<4611686018427387904:=g;have h:(x:Int)<(eZ t).length:=ja h;have l:(!kl (Wk (nth (eZ t) x)) 0 100000|| !kl (Y6 (nth (eZ t) x)) 0 100||decide (0<(x:Int))&&decide (Wk (nth (eZ t) ((x:Int)-1).toNat)<=Wk (nth (eZ t) x)))= !Sf (eZ t) x:=by
  have e2:((x:Int)-1).toNat=x-1:=(by omega);have m:∀a b:Int,(decide (0<(x:Int))&&decide (a<=b))= !(decide (x=0)||decide (b<a)):=fun a b=>by
   rw[j7];simp only[ji,jr,jP,jS,jE];omega
  unfold Sf;rw[e2,m,Bool.not_and,Bool.not_and]
 refine⟨by omega,h,fun _=>iZ6,fun c=> ?_,fun _=>by show(x:Int)-1<((eZ t).length:Int);omega,fun c=>jaK (t:=t) (fun i=> ?_),fun c=>⟨iZ6,x+1,⟨⟨by simp,tZ⟩,tZ⟩,⟨by show x+1<=(eZ t).length;omega,fun j f=> ?_⟩,by show(eZ t).length-(x+1)<(eZ t).length-x;omega⟩⟩;rw[ji] at c;have c:0<(x:Int):=ja c.2;show 0<=(x:Int)-1;omega;have c:(!Sf (eZ t) x)=true:=l.symm.trans c;rw[((Ia t).1 i).2.2 x (by omega)] at c;cases c;have c:(!Sf (eZ t) x)=false:=l.symm.trans c;by_cases e:j=x;subst e;show Sf (eZ t) j=true;simpa using c;exact d.2 j (by omega);have h:¬(x:Int)<(eZ t).length:=je h;have n:∀j,j<(eZ t).length->Sf (eZ t) j=true:=fun j f=>d.2 j (by omega)
 show(true,())=(vu t,());rw[(Ia t).2 ⟨k,o,n⟩]
theorem EW:wq PR 58 EQ:=vN ER Ib Tryz.func58 (kcC xz kcN) koN
def lgH (l:LgD):Bool:=decide (((yh l).length:Int)≠(kC (kA l)).length)||decide (((Gn l).length:Int)≠(kC (kA l)).length)|| !vu (lc l)||decide (10<((wF l).length:Int))
theorem VK (l:LgD):lgH l=false↔((yh l).length=(kC (kA l)).length/\(Gn l).length=(kC (kA l)).length/\vu (lc l)=true/\(wF l).length<=10):=by
 unfold lgH;simp only[jS,jE,zr];constructor;rintro⟨⟨⟨b,c⟩,a⟩,d⟩;exact⟨by omega,by omega,a,by omega⟩;rintro⟨b,c,a,d⟩;exact⟨⟨⟨by omega,by omega⟩,a⟩,by omega⟩
theorem Ic:EV:=by
 unfold EV jh3 jgC jhi jh2 jgB jh1 jep Prod.q4;rintro⟨l,⟨⟩⟩ i _ _ _;have i:(kC (kA l)).length<4611686018427387904:=i;refine⟨fun h=>jaL (l:=l) (fun a=> ?_),fun f=> ?_⟩;have h:lgH l=true:=h;rw[(VK l).2 ((DS l).1 a).1] at h;cases h;have f:=(VK l).1 (show lgH l=false from f);obtain⟨r,s,p,o⟩:=id f;refine⟨⟨0,⟨⟨rfl,tZ⟩,tZ⟩,jv _,fun j d=>by omega⟩,fun x b=>⟨fun h=> ?_,fun h=> ?_⟩⟩;have h:(x:Int)<(kC (kA l)).length:=ja h;have b:x<=(((kC (kA l)).length:Int)).toNat/\∀j:Nat,j<x->Sr l j=true:=b;have c:(!kl (nth (yh l) x) 0 20|| !kl (nth (Gn l) x) 0 300)= !Sr l x:=by
  unfold Sr Lo xD;rw[Bool.not_and]
 refine⟨by omega,by show(x:Int)<(yh l).length;omega,fun _=>by omega,fun _=>by show(x:Int)<(Gn l).length;omega,fun a=>jaL (l:=l) (fun g=> ?_),fun a=>⟨iZ6,x+1,⟨⟨by simp,tZ⟩,tZ⟩,⟨by show x+1<=(((kC (kA l)).length:Int)).toNat;omega,fun j d=> ?_⟩,by show(((kC (kA l)).length:Int)).toNat-(x+1)<(((kC (kA l)).length:Int)).toNat-x;omega⟩⟩;have a:(!Sr l x)=true:=c.symm.trans a;rw[((DS l).1 g).2.1 x (by omega)] at a;cases a;have a:(!Sr l x)=false:=c.symm.trans a;by_cases e:j=x;subst e;show Sr l j=true;simpa using a;exact b.2 j (by omega);have h:¬(x:Int)<(kC (kA l)).length:=je h;have n:∀j,j<(kC (kA l)).length->Sr l j=true:=fun j d=>b.2 j (by omega)
 clear b h;refine⟨⟨0,⟨⟨rfl,tZ⟩,tZ⟩,jv _,fun j d=>by omega⟩,fun x b k=>⟨fun h=> ?_,fun h=> ?_⟩⟩;have k:(wF l).length<4611686018427387904:=k;have h:(x:Int)<(wF l).length:=ja h;have q:(((kC (kA l)).length:Int)).toNat=(kC (kA l)).length:=(by omega);have c:(!kl (Sq (nth (wF l) x)) 0 99|| !kl (jcw (nth (wF l) x)) 0 (((kC (kA l)).length:Int)-1)|| !kl (Wn (nth (wF l) x)) (-100000) 1440)= !nP (kC (kA l)).length (nth (wF l) x):=by
  unfold nP;rw[Bool.not_and,Bool.not_and]
 refine⟨by omega,h,fun _=> ?_,fun a=>jaL (l:=l) (fun g=> ?_),fun a=>⟨iZ6,x+1,⟨⟨by simp,tZ⟩,tZ⟩,⟨by show x+1<=(wF l).length;omega,fun j d=> ?_⟩,by show(wF l).length-(x+1)<(wF l).length-x;omega⟩⟩;show kK (((kC (kA l)).length:Int)-1);exact iZ6;have a:(!nP (kC (kA l)).length (nth (wF l) x))=true:=c.symm.trans a;rw[((DS l).1 g).2.2 x (by omega)] at a;cases a;have a:(!nP (kC (kA l)).length (nth (wF l) x))=false:=c.symm.trans a;by_cases e:j=x;subst e;show nP (kC (kA l)).length (nth (wF l) j)=true;simpa using a;exact b.2 j (by omega);have h:¬(x:Int)<(wF l).length:=je h;have m:∀j,j<(wF l).length->nP (kC (kA l)).length (nth (wF l) j)=true:=fun j d=>b.2 j (by omega)
 show(true,())=(cm l,());rw[(DS l).2 ⟨f,n,m⟩]
theorem EX:wq PR 32 ET:=vN EU Ic Tryz.func32 (kcC xz (kcC EW kcN)) koN
theorem RU:N3:=by
 unfold N3 jh4 jfE jgc Prod.q4;rintro⟨l,⟨⟩⟩ r;have f:k8 (kA l)=dm (kA l):=aH _;refine⟨r,fun h=> ?_,fun h=> ?_⟩;have h:dm (kA l)≠0:=ja h;show(dm (kA l),())=(wd l,());unfold wd;rw[f,jd h];have h:¬dm (kA l)≠0:=je h;refine⟨fun c=> ?_,fun c=> ?_⟩;have c:cm l=false:=(by simpa using(show(!cm l)=true from c));show((70:Int),())=(wd l,());unfold wd;rw[f,jc h,jd c];have c:cm l=true:=(by simpa using(show(!cm l)=false from c));have q:=((DS l).1 c).1.2.2.2;have n:∀v,(if b7 (wF l)=true then(71:Int) else 0)=v->(v,())=(wd l,()):=fun v s=>by
  unfold wd;rw[f,jc h,jc (by rw[c];decide),s]
 refine⟨⟨0,⟨⟨rfl,tZ⟩,tZ⟩,jv _,fun j g=>by omega⟩,fun x p o=>⟨fun d=> ?_,fun d=> ?_⟩⟩;have o:(wF l).length<4611686018427387904:=o;have d:(x:Int)<(wF l).length:=ja d;refine⟨⟨0,⟨⟨rfl,tZ⟩,tZ⟩,jv _,fun j g=>by omega⟩,fun y i=>⟨fun b=> ?_,fun b=> ?_⟩⟩;have b:(y:Int)<(x:Int):=ja b;have i:y<=x/\∀j:Nat,j<y->We (nth (wF l) x) (nth (wF l) j)=false:=i;have k:(y:Int)<(wF l).length:=(by omega);refine⟨by omega,d,by omega,k,fun _=>by omega,fun _=>d,fun _=>by omega,fun _=>k,fun a=> ?_,fun a=>⟨iZ6,y+1,⟨⟨by simp,tZ⟩,tZ⟩,⟨by show y+1<=x;omega,fun j g=> ?_⟩,by show x-(y+1)<x-y;omega⟩⟩;have a:We (nth (wF l) x) (nth (wF l) y)=true:=a;exact n 71 (jd (jaM (by omega) (by omega) a));have a:We (nth (wF l) x) (nth (wF l) y)=false:=a;by_cases e:j=y;subst e;exact a;exact i.2 j (by omega);have b:¬(y:Int)<(x:Int):=je b;have i:y<=x/\∀j:Nat,j<y->We (nth (wF l) x) (nth (wF l) j)=false:=i;have m:y=x:=(by omega);subst m;refine⟨iZ6,y+1,⟨⟨by simp,tZ⟩,tZ⟩,⟨by show y+1<=(wF l).length;omega,fun j g=> ?_⟩,by show(wF l).length-(y+1)<(wF l).length-y;omega⟩;by_cases e:j=y;subst e;exact jce i.2 (by omega);exact p.2 j (by omega);have d:¬(x:Int)<(wF l).length:=je d;refine n 0 (jc fun b=> ?_);unfold b7 DX at b;rw[ze] at b;obtain⟨j,g,a⟩:=b;have g:=jC.1 g;have:=p.2 j (by omega);rw[this] at a;cases a
theorem N5:wq PR 10 N1:=vN N2 RU Tryz.func10 (kcC Dr (kcC EX kcN)) koN
end Go.X


namespace Go.X
open U
open Go.Proofs
namespace U
def jcy (l:LgD):List LnD:=if wd l=0 then q6 l else[]
def jcz (l:LgD) (n:Int):List Int:=if wo l (qT l n)=0 then uY l n else[]
def jdt (l:LgD):Prop:=Ow (kA l)/\(yh l).length<=20/\(Gn l).length<=20/\(bv (lc l)).length<=20/\(eZ (lc l)).length<=20/\(wF l).length<=30
end U
theorem X3 {l:LgD} (h:mc l):∀x∈q6 l,(0<=dp x/\dp x<(((iH l).toNat:Nat):Int))/\-1000000<=Iu x/\Iu x<=20000000000000000:=fun x a=>by
 have o:=X2 h a
 have:=o.pr;have:=o.wk;have:=o.tr;have:=o.sb;have:=o.tt
 omega
theorem Y2 {l:List Int} (h:∀x∈l,0<=x):0<=kX l:=by
 induction l with
 |nil=>exact zT 0
 |cons x r b=>
  rw[wN];have c:=h x (zb ..);have d:=b fun y a=>h y (jm _ a)
  omega
theorem uR (l:List Int) (k:Nat):qP l k=kX (l.take k):=(mW (l.take k)).symm
theorem Ie {l:List Int} (h:∀x∈l,0<=x) (k:Nat):0<=qP l k/\qP l k<=kX l:=by
 have e:kX l=kX (l.take k)+kX (l.drop k):=(by rw[<-cG,zO]);have b:=Y2 (l:=l.take k) fun x a=>h x (zJ a)
 have c:=Y2 (l:=l.drop k) fun x a=>h x (zU a)
 rw[uR];omega
theorem Y3 {α:Type} {l:List α} {g:α->Int} {B:Int} (h:∀x∈l,0<=g x/\g x<=B):0<=kX (l.map g)/\kX (l.map g)<=B*(l.length:Int):=by
 induction l with
 |nil=>exact⟨zT 0,by show(0:Int)<=B*0;omega⟩
 |cons x r b=>
  have c:=h x (zb ..);have d:=b fun y a=>h y (jm _ a)
  rw[zg,wN,jY];have e:B*((r.length+1:Nat):Int)=B*(r.length:Int)+B:=(by rw[Int.natCast_add,Int.mul_add];simp);rw[e];omega
theorem jaN {l:LgD} (h:mc l) {b:Int} (c:0<=b/\b<((kC (kA l)).length:Int)) (a:Ix l b=true):mw l b (qU l b)∈q6 l:=by
 have d:=h.py.2 _ (L.kx (show b.toNat<(yh l).length by rw[h.py.1];omega));have en:((b.toNat:Nat):Int)=b:=(by omega);refine Bc.2 ⟨(nth (yh l) b.toNat).toNat,by omega,b.toNat,by rw[h.py.1];omega,?_,by omega,?_⟩;rw[en];exact a;rw[en]
theorem jcf {l:LgD} (h:mc l) {b:Int} (a:0<=b/\b<((kC (kA l)).length:Int)) (c:Ix l b=true):(0<=uW l b (qU l b)/\uW l b (qU l b)<=10000000000000000)/\0<=uX l b (qU l b)/\uX l b (qU l b)<=1000000000:=by
 have o:=X2 h (jaN h a c);exact⟨o.wk,o.tr⟩
theorem PU {a m:Int} (b:0<=a) (c:0<=m) (i:Nat):0<=gH a m i:=by
 have:=Int.tdiv_nonneg b c;unfold gH
 split<;>omega
theorem N6 {l:LgD} (h:mc l) {b:Int} (c:0<=b/\b<((kC (kA l)).length:Int)) {p:Nat} (d:p<qc l):0<=nth (uY l b) p/\(0<nth (uY l b) p->qb (qU l b) (p:Int)=true):=by
 rw[(mV h c).2 p d];by_cases a:Ix l b=true/\qb (qU l b) (p:Int)=true;rw[jd a];have w:=jcf h c a.1;have z:=(BT.size_le (qU l b)).1;have e:=PU w.1.1 z (rnk (qU l b) p);have f:=PU w.2.1 z (rnk (qU l b) p);exact⟨by omega,fun _=>a.2⟩;rw[jc a];exact⟨zT 0,fun h=>absurd h (by omega)⟩
structure jdf (l:LgD) (L:List LnD) (P:Int->List Int):Prop where
 ll:L.length=(km (kA l)).length
 la:(vA l).length=qc l
 lt:(wZ (kA l)).length=(kC (kA l)).length
 sA:∀k,-100000000000000000<=qP (vA l) k/\qP (vA l) k<=100000000000000000
 sB:∀k,-100000000000000000<=qP (qG l) k/\qP (qG l) k<=100000000000000000
 sC: -100000000000000000<=co l/\co l<=0
 bal:kX (vA l)+kX (qG l)+co l=0
 am:∀b k,k<=L.length->-100000000000000000<=yN L b k/\yN L b k<=100000000000000000
 ln:∀k,k<L.length->(0<=IB (nth L k)/\IB (nth L k)<=10000000000000000)/\0<=IC (nth L k)/\IC (nth L k)<=1000000000
 pl:∀b:Nat,b<(kC (kA l)).length->(P (b:Int)).length=qc l/\kX (P (b:Int))=yN L (b:Int) L.length
 ps:∀b:Nat,b<(kC (kA l)).length->∀k,-100000000000000000<=qP (P (b:Int)) k/\qP (P (b:Int)) k<=100000000000000000
 pp:∀b:Nat,b<(kC (kA l)).length->∀p:Nat,p<qc l->0<=nth (P (b:Int)) p/\(0<nth (P (b:Int)) p->qb (nth (wZ (kA l)) b) (p:Int)=true)
 ng:∀i,i<(qG l).length->nth (qG l) i<=0
theorem jcg {l:LgD} (u:wd l=0):jdf l (q6 l) (uY l):=by
 have h:=cW u;have v:=(aH (kA l)).symm.trans h.cp;have O:=jcc h;have H:=PQ h;have F:wZ (kA l)=P1 (kA l):=(by rw[NC,jd v,PE v]);have z:vA l=wP (yM l) (qc l) (kC (kA l)).length:=jd u;have K:qG l=di (q7 (U.bo l)):=jd u;have M:co l=b9 (kz (U.bo l)) (kz (U.bo l)).length:=jd u;have E:∀b:Nat,b<(kC (kA l)).length->yM l b=uY l (b:Int):=fun b d=>VB h (by omega)
 have t:=jaJ u;have G:∀x∈q6 l,(0<=IB x/\IB x<=10000000000000000)/\0<=IC x/\IC x<=1000000000:=fun x c=>⟨(X2 h c).wk,(X2 h c).tr⟩
 have s:∀b k,k<=(q6 l).length->0<=yN (q6 l) b k/\yN (q6 l) b k<=10000001000000000*(k:Int):=fun b k hk=>by
  rw[N0 k hk];have o:=Y3 (l:=(q6 l).take k) (g:=fun x=>if m0 x=b then IB x+IC x else 0) (B:=10000001000000000) fun x c=>by
   have:=G x (zJ c)
   split<;>omega
  have r:((q6 l).take k).length=k:=(by rw[jX];omega);rw[r] at o;exact o
 have W:∀x∈vA l,0<=x:=fun x c=>by
  obtain⟨j,a,rfl⟩:=L.mem_iff.1 c;rw[z,gU] at a;rw[z];have:=VC (f:=yM l) (n:=qc l) (A:=0) (B:=1700000000000000000) (kC (kA l)).length (fun b d j a=>⟨by rw[E b d];exact(N6 h (by omega) a).1,(Y0 (XW h) (n:=(b:Int)) j a).2⟩) j a;omega
 have m:∀x∈q6 l,0<=dp x/\dp x<(((iH l).toNat:Nat):Int):=fun x c=>(X3 h x c).1
 have I:∀x∈Lu l,0<=x:=fun x c=>by
  obtain⟨j,a,rfl⟩:=L.mem_iff.1 c;have key:∀k,k<=(q6 l).length->∀j,j<(iH l).toNat->0<=nth (vT (iH l).toNat (q6 l) k) j:=by
   intro k
   induction k with
   |zero=>intro _ j a;have:nth (vT (iH l).toNat (q6 l) 0) j=0:=L.ag a;omega
   |succ k V=>
    intro hk j a;have o:=V (by omega);have r:=m _ (L.kx (show k<(q6 l).length by omega));have N:=(X2 h (L.kx (show k<(q6 l).length by omega))).tt.2;have O:=o (dp (nth (q6 l) k)).toNat (by omega);have P:=(H9 m k (by omega)).1;rw[mU (by omega)];unfold Iw;rw[L.ye (by rw[P];omega)];by_cases e:(dp (nth (q6 l) k)).toNat=j;rw[jd e];omega;rw[jc e];exact o j a
  have a:j<(vT (iH l).toNat (q6 l) (q6 l).length).length:=a;rw[(H9 m _ (jj _)).1] at a;exact key _ (jj _) j a
 have sA:=Ie W;have X:=Ie I;have q:qG l=di (Lu l):=(by rw[K,Vz h]);have Q:∀k,qP (qG l) k= -qP (Lu l) k:=fun k=>by
  have e:(di (Lu l)).take k=di ((Lu l).take k):=List.map_take.symm;rw[q,uR,uR,e,NZ]
 have R:kX (qG l)= -kX (Lu l):=(by rw[q,NZ]);have S:=VD (l:=q6 l) (fun x c=>by have:=(X2 h c).sb;have:=h.ta.cp;omega) _ (jj _);rw[<-aI h,<-M,aI h] at S;have J:kX (vA l)<=10000001000000000*4:=by
  rw[z,NY (f:=yM l) (n:=qc l) _ (fun b _=>H7 _ _)];have o:=Y3 (l:=List.range (kC (kA l)).length) (g:=fun b=>kX (yM l b)) (B:=10000001000000000) fun b d=>by
   have d:=jC.1 d;show 0<=kX (yM l b)/\kX (yM l b)<=_;rw[E b d,NX h (by omega)];by_cases D:Ix l (b:Int)=true;have w:=jcf h (b:=(b:Int)) (by omega) D;rw[jd D];omega;rw[jc D];omega
  rw[zp] at o;omega
 have C:∀b:Nat,b<(kC (kA l)).length->∀x∈uY l (b:Int),0<=x:=fun b d x c=>by
  obtain⟨j,a,rfl⟩:=L.mem_iff.1 c;rw[(mV h (b:=(b:Int)) (by omega)).1] at a;exact(N6 h (by omega) a).1
 refine⟨?_,by rw[z,gU],by rw[F,uA v],fun k=> ?_,fun k=> ?_,?_,t,fun b k hk=> ?_,fun k hk=>G _ (L.kx hk),fun b d=>⟨(mV h (by omega)).1,(VJ h d).symm⟩,fun b d k=> ?_,fun b d p T=> ?_,fun i hi=> ?_⟩;have o:=(K5 h).length_eq;have r:km (kA l)=((List.range (kC (kA l)).length).filter (fun(b:Nat)=>Ix l (b:Int))).map (fun(b:Nat)=>(b:Int)):=by
  rw[NE];unfold jcN;rw[jd v];unfold P2;rw[uA v];rfl
 rw[o,r,zf,zf];have:=sA k;omega;have:=X k;rw[Q k];omega;omega;have:=s b k hk;omega;have o:=Ie (C b d) k;have r:=VJ h d;have N:=s (b:Int) _ (jj _);omega;rw[F];exact N6 h (by omega) T;rw[q] at hi⊢;have y:i<(Lu l).length:=(by unfold di at hi;rw[zf] at hi;exact hi);have:=I _ (L.kx y);unfold di;rw[L.Bg y];omega
theorem VL {l:List Int} {k:Nat} (h:k<l.length):di (l.take (k+1))=di (l.take k)++[-nth l k]:=by
 unfold di;rw[L.kQ h,zi];rfl
theorem X4 (l:List Int) (k:Nat):(di (l.take k)).length<=k:=by
 unfold di;rw[zf,jX];omega
theorem jaO {f:Nat->List Int} {n k:Nat} (hk:k<4) (a:∀b,b<=k->∀j,j<n->-1000000000000000000<=nth (f b) j/\nth (f b) j<=1700000000000000000) {j:Nat} (c:j<n):
 kK (nth (vz (wP f n k) (f k) j) j+nth (f k) j):=by
 have d:=VC (A:= -1000000000000000000) (B:=1700000000000000000) k (fun b h=>a b (by omega)) j c;have g:=a k (jj _) j c;have e:nth (vz (wP f n k) (f k) j) j=nth (wP f n k) j:=by
  rw[uO j (by rw[gU];omega),jc (by omega)]
 rw[e];exact iZ6
theorem VM {l:LgD} (h:mc l):∀x∈q6 l,0<=Ox x/\Ox x<=1000000:=fun x a=>by
 have:=(X2 h a).sb
 have:=h.ta.cp
 omega
def VN:wi:=⟨[.val tLg,.fn [tBo] [.bool]],[tBo,.int],false,fun d=>[(qj (kA d.1)).length<=100000,wd d.1=0->kI (d.2.1.pre ((d.1,[],()),()))],fun d=>(kD d.1 (kJ d.1 d.2.1.F),wo d.1 (kJ d.1 d.2.1.F),())⟩
def VO:Ann:=fun r=>match r with
 |10=>some fun σ=>{X:=Nat,sl:=fun i=>[(46,.dat .int (i:Int))],ob:=fun i=>[(25,some (.map false .int (.ptr tBl) (AQ (gb tLg σ 2) i)))],inv:=fun i=>i<=(gd (.slice .int) σ 44).length,mu:=fun i=>(gd (.slice .int) σ 44).length-i}
 |14=>some fun σ=>{X:=Nat,sl:=fun p=>[(71,.dat .int (p:Int))],ob:=fun p=>[(65,some (.box 98 false ((bx σ 65).set 21 (.own (ox 65 21) .int)))),(ox 65 21,some (.row 3 .int false .yes (wO (gb tLg σ 2) (gd .int σ 13) p)))],inv:=fun p=>p<=(kE (kG (kA (gb tLg σ 2)))).length,mu:=fun p=>(kE (kG (kA (gb tLg σ 2)))).length-p}
 |21=>some fun σ=>{X:=Nat,sl:=fun i=>[(103,.dat .int (i:Int))],ob:=fun i=>[(65,some (.box 98 false (((bx σ 65).set 24 (.dat .bool (tE (kF (gb tLg σ 2) (gd .int σ 13) i)))).set 25 (.dat .int (pU (kF (gb tLg σ 2) (gd .int σ 13) i))))))],inv:=fun i=>i<=(wF (gb tLg σ 2)).length,mu:=fun i=>(wF (gb tLg σ 2)).length-i}
 |_=>none
abbrev jeK (d:LgD×FnD [tBo] [Ty.bool]×Unit):=d.1.2.2.2.1.q4.q4.2.1
abbrev jeL (d:LgD×FnD [tBo] [Ty.bool]×Unit):=d.1.2.2.2.1.q4.q4.1
abbrev jeM (d:LgD×FnD [tBo] [Ty.bool]×Unit):=d.1.2.2.2.1.q4.2.2.2.1
abbrev jeN (d:LgD×FnD [tBo] [Ty.bool]×Unit):=d.1.2.2.2.1.q4.2.2.1
abbrev jfa (d:LgD×FnD [tBo] [Ty.bool]×Unit):=(kE (kG (kA d.1)))
abbrev jhj (d:LgD×FnD [tBo] [Ty.bool]×Unit):=(kD d.1 (kJ d.1 d.2.1.2),wo d.1 (kJ d.1 d.2.1.2),())
abbrev jeO (d:LgD×FnD [tBo] [Ty.bool]×Unit):=d.1.2.2.2.1.q4.2.1
abbrev jd7 (d:LgD×FnD [tBo] [Ty.bool]×Unit):=(km d.1.1)
abbrev jd4 (d:LgD×FnD [tBo] [Ty.bool]×Unit)(x:Nat):=(nth (jd7 d) x)
abbrev jd2 (d:LgD×FnD [tBo] [Ty.bool]×Unit)(x:Nat):=(nth d.1.1.2.2.1 (jd4 d x).toNat)
abbrev jfn (d:LgD×FnD [tBo] [Ty.bool]×Unit)(x:Nat):=(nth d.1.2.2.1 (jd4 d x).toNat)
abbrev jeP (d:LgD×FnD [tBo] [Ty.bool]×Unit):=d.1.2.2.2.1.q4.1
abbrev jei (d:LgD×FnD [tBo] [Ty.bool]×Unit)(x:Nat)(a:Nat):=(qy ((jd2 d x).1.1,(jd2 d x).1.2.1,(jd2 d x).1.2.2.1,(jd2 d x).1.2.2.2.1,(jd2 d x).1.q4.1,(jd2 d x).1.q4.2.1,(jd2 d x).2.1,(jd2 d x).2.2.1,(jd2 d x).2.2.2.1,d.1.2.2.2.1.1,d.1.2.2.2.1.2.1,d.1.2.2.2.1.2.2.1,d.1.2.2.2.1.2.2.2.1,(jeP d),(jeO d),(jeN d),(jeM d),(jeL d),(jeK d),nth (jd7 d) x,nth d.1.2.1 (jd4 d x).toNat,wO d.1 (jd4 d x) a,(0:Int),(0:Int),false,(0:Int),()))
abbrev jhk (d:LgD×FnD [tBo] [Ty.bool]×Unit)(x:Nat):=((jd2 d x).1.1=(jd2 d x).1.1/\(jd2 d x).1.2.1=(jd2 d x).1.2.1/\(jd2 d x).1.2.2.1=(jd2 d x).1.2.2.1/\(jd2 d x).1.2.2.2.1=(jd2 d x).1.2.2.2.1/\(jd2 d x).1.q4.1=(jd2 d x).1.q4.1/\(jd2 d x).1.q4.2.1=(jd2 d x).1.q4.2.1/\(jd2 d x).2.1=(jd2 d x).2.1/\(jd2 d x).2.2.1=(jd2 d x).2.2.1/\(jd2 d x).2.2.2.1=(jd2 d x).2.2.2.1/\d.1.2.2.2.1.1=d.1.2.2.2.1.1/\d.1.2.2.2.1.2.1=d.1.2.2.2.1.2.1/\d.1.2.2.2.1.2.2.1=d.1.2.2.2.1.2.2.1/\d.1.2.2.2.1.2.2.2.1=d.1.2.2.2.1.2.2.2.1/\(jeP d)=(jeP d)/\(jeO d)=(jeO d)/\(jeN d)=(jeN d)/\(jeM d)=(jeM d)/\(jeL d)=(jeL d)/\(jeK d)=(jeK d)/\nth (jd7 d) x=nth (jd7 d) x/\nth d.1.2.1 (jd4 d x).toNat=nth d.1.2.1 (jd4 d x).toNat/\True/\(0:Int)=0/\(0:Int)=0/\qF/\(0:Int)=0/\True)
abbrev jfb (d:LgD×FnD [tBo] [Ty.bool]×Unit)(x:Nat)(a:Nat):=(kF d.1 (jd4 d x) a)
abbrev jgD (d:LgD×FnD [tBo] [Ty.bool]×Unit)(x:Nat)(a:Nat)(b:Nat):=(qy ((jd2 d x).1.1,(jd2 d x).1.2.1,(jd2 d x).1.2.2.1,(jd2 d x).1.2.2.2.1,(jd2 d x).1.q4.1,(jd2 d x).1.q4.2.1,(jd2 d x).2.1,(jd2 d x).2.2.1,(jd2 d x).2.2.2.1,d.1.2.2.2.1.1,d.1.2.2.2.1.2.1,d.1.2.2.2.1.2.2.1,d.1.2.2.2.1.2.2.2.1,(jeP d),(jeO d),(jeN d),(jeM d),(jeL d),(jeK d),nth (jd7 d) x,nth d.1.2.1 (jd4 d x).toNat,wO d.1 (jd4 d x) a,aY (jei d x a),b8 (jfn d x) (jei d x a),tE (jfb d x b),pU (jfb d x b),()))
def VP:Prop:=∀(d:LgD×FnD [tBo] [Ty.bool]×Unit),(qj (kA d.1)).length<=100000->(wd d.1=0->kI (d.2.1.1 ((d.1,[],()),())))->(qj (kA d.1)).length<=100000/\(decide (wd d.1≠0)=true->((((((0:Int),[],[],()),[],[],(0:Int),(0:Int),[],()),[],[],((0:Int),(0:Int),(0:Int),(0:Int),(0:Int),(0:Int),(0:Int),(0:Int),[],[],()),[],()),[],()),wd d.1,())=(jhj d))/\(decide (wd d.1≠0)=false->asks (d.2.1.1 ((d.1,[],()),())) (((!(d.2.1.2 ((d.1,[],()),())).1)=true->((((((0:Int),[],[],()),[],[],(0:Int),(0:Int),[],()),[],[],((0:Int),(0:Int),(0:Int),(0:Int),(0:Int),(0:Int),(0:Int),(0:Int),[],[],()),[],()),[],()),(1:Int),())=(jhj d))/\((!(d.2.1.2 ((d.1,[],()),())).1)=false->(qj d.1.1).length<=100000/\(qj d.1.1).length<=100000/\((jd7 d).length<4611686018427387904->(∃(x:Nat),((0=(x:Int)/\True)/\[]=AQ d.1 x/\True)/\x<=(jd7 d).length)/\∀(x:Nat),x<=(jd7 d).length->(decide ((x:Int)<(jd7 d).length)=true->0<=(x:Int)/\(x:Int)<(jd7 d).length/\0<=nth (jd7 d) x/\nth (jd7 d) x<(d.1.1.2.2.1.length:Int)/\0<=nth (jd7 d) x/\nth (jd7 d) x<(d.1.2.1.length:Int)/\(d.1.1.1.2.1.length<4611686018427387904->(∃(a:Nat),((0=(a:Int)/\True)/\(jhk d x)/\wO d.1 (jd4 d x) a=[]/\True)/\a<=(jfa d).length)/\∀(a:Nat),a<=(jfa d).length->(decide ((a:Int)<d.1.1.1.2.1.length)=true->0<=nth (jd7 d) x/\nth (jd7 d) x<(↑(wZ d.1.1).length:Int)/\0<=(a:Int)/\(a:Int)<=64/\(decide (nQ (nth (wZ d.1.1) (jd4 d x).toNat/(2:Int)^a) (1:Int)=1)=true->((wO d.1 (jd4 d x) a).length+[(a:Int)].length)*8<=140737488355328/\kK ((a:Int)+1)/\∃(c:Nat),(((a:Int)+1=(c:Int)/\True)/\(jhk d x)/\wO d.1 (jd4 d x) a++[(a:Int)]=wO d.1 (jd4 d x) c/\True)/\c<=(jfa d).length/\(jfa d).length-c<(jfa d).length-a)/\(decide (nQ (nth (wZ d.1.1) (jd4 d x).toNat/(2:Int)^a) (1:Int)=1)=false->kK ((a:Int)+1)/\∃(c:Nat),(((a:Int)+1=(c:Int)/\True)/\wO d.1 (jd4 d x) a=wO d.1 (jd4 d x) c/\(jhk d x)/\True)/\c<=(jfa d).length/\(jfa d).length-c<(jfa d).length-a))/\(decide ((a:Int)<d.1.1.1.2.1.length)=false->0<=nth (jd7 d) x/\nth (jd7 d) x<(d.1.2.2.1.length:Int)/\E7 (jei d x a)/\0<=nth d.1.2.2.1 (jd4 d x).toNat/\nth d.1.2.2.1 (jd4 d x).toNat<=300/\(d.1.q4.1.length<4611686018427387904->(∃(b:Nat),((0=(b:Int)/\True)/\((jd2 d x).1.1=(jd2 d x).1.1/\(jd2 d x).1.2.1=(jd2 d x).1.2.1/\(jd2 d x).1.2.2.1=(jd2 d x).1.2.2.1/\(jd2 d x).1.2.2.2.1=(jd2 d x).1.2.2.2.1/\(jd2 d x).1.q4.1=(jd2 d x).1.q4.1/\(jd2 d x).1.q4.2.1=(jd2 d x).1.q4.2.1/\(jd2 d x).2.1=(jd2 d x).2.1/\(jd2 d x).2.2.1=(jd2 d x).2.2.1/\(jd2 d x).2.2.2.1=(jd2 d x).2.2.2.1/\d.1.2.2.2.1.1=d.1.2.2.2.1.1/\d.1.2.2.2.1.2.1=d.1.2.2.2.1.2.1/\d.1.2.2.2.1.2.2.1=d.1.2.2.2.1.2.2.1/\d.1.2.2.2.1.2.2.2.1=d.1.2.2.2.1.2.2.2.1/\(jeP d)=(jeP d)/\(jeO d)=(jeO d)/\(jeN d)=(jeN d)/\(jeM d)=(jeM d)/\(jeL d)=(jeL d)/\(jeK d)=(jeK d)/\nth (jd7 d) x=nth (jd7 d) x/\nth d.1.2.1 (jd4 d x).toNat=nth d.1.2.1 (jd4 d x).toNat/\wO d.1 (jd4 d x) a=wO d.1 (jd4 d x) a/\aY (jei d x a)=aY (jei d x a)/\b8 (jfn d x) (jei d x a)=b8 (jfn d x) (jei d x a)/\tE (jei d x a)=tE (jfb d x b)/\pU (jei d x a)=pU (jfb d x b)/\True)/\True)/\b<=(wF d.1).length)/\∀(b:Nat),b<=(wF d.1).length->(decide ((b:Int)<d.1.q4.1.length)=true->0<=(b:Int)/\(b:Int)<d.1.q4.1.length/\(decide ((nth d.1.q4.1 b).2.1=nth (jd7 d) x)=true->kK ((b:Int)+1)/\∃(c:Nat),(((b:Int)+1=(c:Int)/\True)/\((jd2 d x).1.1=(jd2 d x).1.1/\(jd2 d x).1.2.1=(jd2 d x).1.2.1/\(jd2 d x).1.2.2.1=(jd2 d x).1.2.2.1/\(jd2 d x).1.2.2.2.1=(jd2 d x).1.2.2.2.1/\(jd2 d x).1.q4.1=(jd2 d x).1.q4.1/\(jd2 d x).1.q4.2.1=(jd2 d x).1.q4.2.1/\(jd2 d x).2.1=(jd2 d x).2.1/\(jd2 d x).2.2.1=(jd2 d x).2.2.1/\(jd2 d x).2.2.2.1=(jd2 d x).2.2.2.1/\d.1.2.2.2.1.1=d.1.2.2.2.1.1/\d.1.2.2.2.1.2.1=d.1.2.2.2.1.2.1/\d.1.2.2.2.1.2.2.1=d.1.2.2.2.1.2.2.1/\d.1.2.2.2.1.2.2.2.1=d.1.2.2.2.1.2.2.2.1/\(jeP d)=(jeP d)/\(jeO d)=(jeO d)/\(jeN d)=(jeN d)/\(jeM d)=(jeM d)/\(jeL d)=(jeL d)/\(jeK d)=(jeK d)/\nth (jd7 d) x=nth (jd7 d) x/\nth d.1.2.1 (jd4 d x).toNat=nth d.1.2.1 (jd4 d x).toNat/\wO d.1 (jd4 d x) a=wO d.1 (jd4 d x) a/\pT (jgD d x a b)=aY (jei d x a)/\E6 (jgD d x a b)=b8 (jfn d x) (jei d x a)/\V9 (nth d.1.q4.1 b).2.2.1 (jgD d x a b)=tE (kF d.1 (jd4 d x) c)/\Wa (nth d.1.q4.1 b).2.2.1 (jgD d x a b)=pU (kF d.1 (jd4 d x) c)/\True)/\True)/\c<=(wF d.1).length/\(wF d.1).length-c<(wF d.1).length-b)/\(decide ((nth d.1.q4.1 b).2.1=nth (jd7 d) x)=false->kK ((b:Int)+1)/\∃(c:Nat),(((b:Int)+1=(c:Int)/\True)/\((jd2 d x).1.1=(jd2 d x).1.1/\(jd2 d x).1.2.1=(jd2 d x).1.2.1/\(jd2 d x).1.2.2.1=(jd2 d x).1.2.2.1/\(jd2 d x).1.2.2.2.1=(jd2 d x).1.2.2.2.1/\(jd2 d x).1.q4.1=(jd2 d x).1.q4.1/\(jd2 d x).1.q4.2.1=(jd2 d x).1.q4.2.1/\(jd2 d x).2.1=(jd2 d x).2.1/\(jd2 d x).2.2.1=(jd2 d x).2.2.1/\(jd2 d x).2.2.2.1=(jd2 d x).2.2.2.1/\d.1.2.2.2.1.1=d.1.2.2.2.1.1/\d.1.2.2.2.1.2.1=d.1.2.2.2.1.2.1/\d.1.2.2.2.1.2.2.1=d.1.2.2.2.1.2.2.1/\d.1.2.2.2.1.2.2.2.1=d.1.2.2.2.1.2.2.2.1/\(jeP d)=(jeP d)/\(jeO d)=(jeO d)/\(jeN d)=(jeN d)/\(jeM d)=(jeM d)/\(jeL d)=(jeL d)/\(jeK d)=(jeK d)/\nth (jd7 d) x=nth (jd7 d) x/\nth d.1.2.1 (jd4 d x).toNat=nth d.1.2.1 (jd4 d x).toNat/\wO d.1 (jd4 d x) a=wO d.1 (jd4 d x) a/\aY (jei d x a)=aY (jei d x a)/\b8 (jfn d x) (jei d x a)=b8 (jfn d x) (jei d x a)/\tE (jfb d x b)=tE (kF d.1 (jd4 d x) c)/\pU (jfb d x b)=pU (kF d.1 (jd4 d x) c)/\True)/\True)/\c<=(wF d.1).length/\(wF d.1).length-c<(wF d.1).length-b))/\(decide ((b:Int)<d.1.q4.1.length)=false->kK ((x:Int)+1)/\∃(c:Nat),(((x:Int)+1=(c:Int)/\True)/\fa Ty.int (jd4 d x) (some (nth d.1.1.2.2.1 (jd4 d x).toNat,d.1.2.2.2.1,nth (jd7 d) x,nth d.1.2.1 (jd4 d x).toNat,wO d.1 (jd4 d x) a,aY (jei d x a),b8 (jfn d x) (jei d x a),tE (jfb d x b),pU (jfb d x b),())) (AQ d.1 x)=AQ d.1 c/\True)/\c<=(jd7 d).length/\(jd7 d).length-c<(jd7 d).length-x)))))/\(decide ((x:Int)<(jd7 d).length)=false->((d.1,AQ d.1 x,()),(0:Int),())=(jhj d))))))
def jbd (l:LgD) (n:Int) (k:Nat):BlD:=
 (nth (kC (kA l)) n.toNat,lc l,n,nth (yh l) n.toNat,wO l n (kE (kG (kA l))).length,
  aY (tw l n (wO l n (kE (kG (kA l))).length)),b8 (nth (Gn l) n.toNat) (tw l n (wO l n (kE (kG (kA l))).length)),tE (kF l n k),pU (kF l n k),())
theorem N7 (l:LgD) (n:Int) {k:Nat} (hk:k<=(wF l).length):jbd l n k=kF l n k:=by
 obtain⟨c1,c2,a,b,c,d,f⟩:=qD l n k hk;have e:kF l n k=(qp (kF l n k),yP (kF l n k),Oy (kF l n k),LH (kF l n k),w7 (kF l n k),pT (kF l n k),E6 (kF l n k),tE (kF l n k),pU (kF l n k),()):=rfl;rw[c1,c2,a,b,c,d,f] at e;exact e.symm
theorem VQ (l:LgD) (n:Int) (k:Nat):wO l n (k+1)=wO l n k++(if qb (nth (wZ (kA l)) n.toNat) (k:Int)=true then[(k:Int)] else[]):=by
 unfold wO wE;rw[za,List.filter_append,zi];congr 1;by_cases h:qb (nth (wZ (kA l)) n.toNat) (k:Int)=true;rw[jd h];simp only[List.filter,h,List.map];rw[jc h];rw[kj] at h;simp only[List.filter,h,List.map]
theorem X5 {l:LgD} (h:mc l):(wZ (kA l)).length=(kC (kA l)).length:=by
 unfold wZ;rw[jd h.cp];unfold gA;rw[zf,zp]
theorem X6:VP:=by
 unfold VP jgD jfb jhk jei jeP jfn jd2 jd4 jd7 jeO jhj jfa jeN jeM jeL jeK Prod.q4;rintro⟨l,told,⟨⟩⟩ w K;have w:(qj (kA l)).length<=100000:=w;refine⟨w,fun h=> ?_,fun h=> ?_⟩;have h:wd l≠0:=ja h;have e:∀t,wo l t=wd l:=fun t=>jd h
 have e2:∀t,kD l t=jdo:=fun t=>jc (by rw[e];exact h)
 show(jdo,wd l,())=(kD l (kJ l told.2),wo l (kJ l told.2),());rw[e,e2];have h:wd l=0:=jQ.1 (je h);have g:=cW h;refine qV _ (K h) ⟨fun o=> ?_,fun o=>⟨w,w,fun H=>⟨⟨0,⟨⟨rfl,tZ⟩,rfl,tZ⟩,jv _⟩,fun x I=>⟨fun q=> ?_,fun q=> ?_⟩⟩⟩⟩;have o:kJ l told.2=false:=(by simpa using(show(!kJ l told.2)=true from o));show(jdo,(1:Int),())=(kD l (kJ l told.2),wo l (kJ l told.2),());have e:wo l (kJ l told.2)=1:=by
  unfold wo;rw[jc (fun z=>z h),o];rfl
 have e2:kD l (kJ l told.2)=jdo:=jc (by rw[e];decide);rw[e,e2];have q:(x:Int)<(km (kA l)).length:=ja q;have f:x<(km (kA l)).length:=(by omega);obtain⟨n,en⟩:∃n,n=nth (km (kA l)) x:=⟨_,rfl⟩;have c:0<=n/\n<((kC (kA l)).length:Int):=(by rw[en];exact HP (L.kx f));have M:(km (kA l)).length<=4:=PM g;have C:n<((yh l).length:Int):=(by rw[g.py.1];exact c.2);have F:n<((Gn l).length:Int):=(by rw[g.tr.1];exact c.2);have E:n<((wZ (kA l)).length:Int):=(by rw[X5 g];exact c.2);have O:=jb8 g;have u:=sO (nth (wZ (kA l)) n.toNat);have G:=g.tr.2 _ (L.kx (show n.toNat<(Gn l).length by omega));have D:AQ l (x+1)=fa .int n (some (kZ l n)) (AQ l x):=(by rw[KI f,<-en];rfl);have N:=g.cl;have step:∀k,k<(wF l).length->kF l n (k+1)=tz n (jbd l n k) (nth (wF l) k):=fun k hk=>by rw[cF hk,N7 l n (by omega)]
 subst en;refine⟨by omega,q,c.1,c.2,c.1,C,fun P=>⟨⟨0,⟨⟨rfl,tZ⟩,(by repeat' (first|exact trivial|exact rfl|apply And.intro)),rfl,tZ⟩,jv _⟩,fun p v=>⟨fun b=> ?_,fun b=> ?_⟩⟩⟩;have b:(p:Int)<(kE (kG (kA l))).length:=ja b;have d:=VQ l (nth (km (kA l)) x) p;have s:=(u p).1;have s:(wO l (nth (km (kA l)) x) p).length<=p:=s;have up:p+1<=(kE (kG (kA l))).length:=(by omega);have r:(kE (kG (kA l))).length-(p+1)<(kE (kG (kA l))).length-p:=(by omega);refine⟨c.1,E,by omega,by omega,fun j=> ?_,fun j=> ?_⟩;have j:qb (nth (wZ (kA l)) (nth (km (kA l)) x).toNat) (p:Int)=true:=j;rw[jd j] at d;exact⟨by show((wO l (nth (km (kA l)) x) p).length+1)*8<=140737488355328;omega,iZ6,p+1,⟨⟨by simp,tZ⟩,(by repeat' (first|exact trivial|exact rfl|apply And.intro)),d.symm,tZ⟩,up,r⟩;have j:qb (nth (wZ (kA l)) (nth (km (kA l)) x).toNat) (p:Int)=false:=j;rw[jc (by rw[j];decide),j9] at d;exact⟨iZ6,p+1,⟨⟨by simp,tZ⟩,d.symm,(by repeat' (first|exact trivial|exact rfl|apply And.intro)),tZ⟩,up,r⟩;have b:¬(p:Int)<(kE (kG (kA l))).length:=je b;have v:p<=(kE (kG (kA l))).length:=v;have B:p=(kE (kG (kA l))).length:=(by omega);subst B;have J:Dz (tw l (nth (km (kA l)) x) (wO l (nth (km (kA l)) x) (kE (kG (kA l))).length)):=PK g c (by have:=(u (kE (kG (kA l))).length).1;unfold wO;omega);refine⟨c.1,F,sL.2 J,G.1,G.2,fun Q=>⟨⟨0,⟨⟨rfl,tZ⟩,(by repeat' (first|exact trivial|exact rfl|apply And.intro)),tZ⟩,jv _⟩,fun k hk=>⟨fun a=> ?_,fun a=> ?_⟩⟩⟩;have a:(k:Int)<(wF l).length:=ja a;have i:=step k (by omega);have up:k+1<=(wF l).length:=(by omega);have r:(wF l).length-(k+1)<(wF l).length-k:=(by omega);refine⟨by omega,a,fun m=> ?_,fun m=> ?_⟩;have m:jcw (nth (wF l) k)=(nth (km (kA l)) x):=ja m;have e:kF l (nth (km (kA l)) x) (k+1)=yE (Wn (nth (wF l) k)) (jbd l (nth (km (kA l)) x) k):=(by rw[i];exact jd m);have y:tE (yE (Wn (nth (wF l) k)) (jbd l (nth (km (kA l)) x) k))=tE (kF l (nth (km (kA l)) x) (k+1)):=(by rw[e]);have e2:pU (yE (Wn (nth (wF l) k)) (jbd l (nth (km (kA l)) x) k))=pU (kF l (nth (km (kA l)) x) (k+1)):=(by rw[e]);exact⟨iZ6,k+1,⟨⟨by simp,tZ⟩,(by repeat' (first|exact trivial|exact y|exact e2|exact rfl|apply And.intro)),tZ⟩,up,r⟩;have m:¬jcw (nth (wF l) k)=(nth (km (kA l)) x):=je m;have e:kF l (nth (km (kA l)) x) (k+1)=kF l (nth (km (kA l)) x) k:=(by rw[i,N7 l (nth (km (kA l)) x) (by omega)];exact jc m);have y:tE (kF l (nth (km (kA l)) x) k)=tE (kF l (nth (km (kA l)) x) (k+1)):=(by rw[e]);have e2:pU (kF l (nth (km (kA l)) x) k)=pU (kF l (nth (km (kA l)) x) (k+1)):=(by rw[e]);exact⟨iZ6,k+1,⟨⟨by simp,tZ⟩,(by repeat' (first|exact trivial|exact y|exact e2|exact rfl|apply And.intro)),tZ⟩,up,r⟩;have a:¬(k:Int)<(wF l).length:=je a;have hk:k<=(wF l).length:=hk;have A:k=(wF l).length:=(by omega);subst A;have e:fa .int (nth (km (kA l)) x) (some (jbd l (nth (km (kA l)) x) (wF l).length)) (AQ l x)=AQ l (x+1):=by
  rw[D,N7 l (nth (km (kA l)) x) (jj _)];rfl
 exact⟨iZ6,x+1,⟨⟨by simp,tZ⟩,e,tZ⟩,by show x+1<=(km (kA l)).length;omega,by show(km (kA l)).length-(x+1)<(km (kA l)).length-x;omega⟩;have q:¬(x:Int)<(km (kA l)).length:=je q;have I:x<=(km (kA l)).length:=I;have f:x=(km (kA l)).length:=(by omega);subst f;have o:kJ l told.2=true:=(by simpa using(show(!kJ l told.2)=false from o));show((l,IE l,()),(0:Int),())=(kD l (kJ l told.2),wo l (kJ l told.2),());have e:wo l (kJ l told.2)=0:=by
  unfold wo;rw[jc (fun z=>z h),jd o]
 have e2:kD l (kJ l told.2)=(l,IE l,()):=jd e;rw[e,e2]
theorem eJ:wq PR 33 VN:=vN VO X6 Tryz.func33 (kcC RN (kcC F7 (kcC Dn kcN))) (koC AA (koC og koN))
def RV:wi:=⟨[.val tLg],[.slice tLn,.int],false,fun d=>[(qj (kA d.1)).length<=100000],fun d=>(wA d.1,wd d.1,())⟩
abbrev jgd (d:LgD×Unit):=(kJ d.1 fun(a:BoD×Unit)=>(true,()))
def RW:Prop:=∀(d:LgD×Unit),(qj (kA d.1)).length<=100000->(qj (kA d.1)).length<=100000/\(wd d.1=0->kI [])/\(decide (wo d.1 (jgd d)≠0)=true->([],wo d.1 (jgd d),())=(wA d.1,wd d.1,()))/\(decide (wo d.1 (jgd d)≠0)=false->E8 (kD d.1 (jgd d))/\(kz (kD d.1 (jgd d)),(0:Int),())=(wA d.1,wd d.1,()))
def N8:wi:=⟨[.val tLg],[.slice .int,.int],false,fun d=>[(qj (kA d.1)).length<=100000],fun d=>(Lr d.1,wd d.1,())⟩
abbrev jge (d:LgD×Unit):=(kJ d.1 fun(a:BoD×Unit)=>(true,()))
def N9:Prop:=∀(d:LgD×Unit),(qj (kA d.1)).length<=100000->(qj (kA d.1)).length<=100000/\(wd d.1=0->kI [])/\(decide (wo d.1 (jge d)≠0)=true->([],wo d.1 (jge d),())=(Lr d.1,wd d.1,()))/\(decide (wo d.1 (jge d)≠0)=false->Lp (kD d.1 (jge d))/\(q7 (kD d.1 (jge d)),(0:Int),())=(Lr d.1,wd d.1,()))
def RX:wi:=⟨[.val tBo,.ref .int],[.bool],false,fun d=>[(kC (kA (gX d.1))).length<=100],fun d=>(w4 d.1 d.2.1,())⟩
def RY:Prop:=∀(d:BoD×Int×Unit),(kC (kA (gX d.1))).length<=100->(kC (kA (gX d.1))).length<=100/\(w4 d.1 d.2.1,())=(w4 d.1 d.2.1,())
def X7:wi:=⟨[.val tLg,.val .int],[.slice .int,.int],false,fun d=>[(qj (kA d.1)).length<=100000],fun d=>(qw d.1 d.2.1,wo d.1 (qT d.1 d.2.1),())⟩
abbrev jgf (d:LgD×Int×Unit):=(kJ d.1 fun(a:BoD×Unit)=>(w4 a.1 d.2.1,()))
def X8:Prop:=∀(d:LgD×Int×Unit),(qj (kA d.1)).length<=100000->(qj (kA d.1)).length<=100000/\(wd d.1=0->kI [(kC (kA (gX (d.1,[],())))).length<=100])/\(decide (wo d.1 (jgf d)≠0)=true->([],wo d.1 (jgf d),())=(qw d.1 d.2.1,wo d.1 (qT d.1 d.2.1),()))/\(decide (wo d.1 (jgf d)≠0)=false->Lq (kD d.1 (jgf d))/\(vw (kD d.1 (jgf d)) d.2.1,(0:Int),())=(qw d.1 d.2.1,wo d.1 (qT d.1 d.2.1),()))
def K8:wi:=⟨[.val tBo,.ref .int,.ref .int],[.bool],false,fun d=>[(kC (kA (gX d.1))).length<=100],fun d=>(w4 d.1 d.2.1&&yg d.2.2.1,())⟩
def K9:Prop:=∀(d:BoD×Int×Int×Unit),(kC (kA (gX d.1))).length<=100->(kC (kA (gX d.1))).length<=100/\(w4 d.1 d.2.1&&kl d.2.2.1 (-100000:Int) (1440:Int),())=(w4 d.1 d.2.1&&yg d.2.2.1,())
def If:wi:=⟨[.val tBo,.ref .int,.ref .int],[.bool],false,fun d=>[(kC (kA (gX d.1))).length<=100],fun d=>(w4 d.1 d.2.1&&yp d.2.2.1,())⟩
def Ig:Prop:=∀(d:BoD×Int×Int×Unit),(kC (kA (gX d.1))).length<=100->(kC (kA (gX d.1))).length<=100/\(w4 d.1 d.2.1&&kl d.2.2.1 (0:Int) (1000000000:Int),())=(w4 d.1 d.2.1&&yp d.2.2.1,())
def RZ:wi:=⟨[.val tLg,.val .int,.val .int],[.int,.int],false,fun d=>[(qj (kA d.1)).length<=100000],fun d=>(E9 d.1 d.2.1 d.2.2.1,wo d.1 (qT d.1 d.2.1&&yg d.2.2.1),())⟩
abbrev jgE (d:LgD×Int×Int×Unit):=(kJ d.1 fun(a:BoD×Unit)=>(w4 a.1 d.2.1&&yg d.2.2.1,()))
abbrev jgg (d:LgD×Int×Int×Unit):=(kY none (kN Ty.int d.2.1 (kD d.1 (jgE d)).2.1))
abbrev jfF (d:LgD×Int×Int×Unit):=(kU ((((0:Int),(0:Int),(0:Int),(0:Int),(0:Int),(0:Int),()),(0:Int),(0:Int),(0:Int),()),((0:Int),(0:Int),(0:Int),(0:Int),(0:Int),(0:Int),(0:Int),(0:Int),[],[],()),(0:Int),(0:Int),[],(0:Int),(0:Int),false,(0:Int),()) (jgg d))
abbrev jhl (d:LgD×Int×Int×Unit):=(E9 d.1 d.2.1 d.2.2.1,wo d.1 (qT d.1 d.2.1&&yg d.2.2.1),())
def R0:Prop:=∀(d:LgD×Int×Int×Unit),(qj (kA d.1)).length<=100000->(qj (kA d.1)).length<=100000/\(wd d.1=0->kI [(kC (kA (gX (d.1,[],())))).length<=100])/\(decide (wo d.1 (jgE d)≠0)=true->((0:Int),wo d.1 (jgE d),())=(jhl d))/\(decide (wo d.1 (jgE d)≠0)=false->((jgg d).isNone=true->((0:Int),(0:Int),())=(jhl d))/\((jgg d).isNone=false->(jgg d).isSome=true/\pP (jfF d)/\(jgg d).isSome=true/\pP (jfF d)/\(-100000:Int)<=d.2.2.1/\d.2.2.1<=1440/\kK ((qh (jfF d)).q4.2.1-yQ d.2.2.1 (jfF d))/\((qh (jfF d)).q4.2.1-yQ d.2.2.1 (jfF d),(0:Int),())=(jhl d)))
theorem VR:RY:=fun _ h=>⟨h,rfl⟩
theorem R1:wq PR 50 RX:=wb VR Tryz.func50 (kcC gq kcN) koN
theorem Oa:K9:=fun _ h=>⟨h,rfl⟩
theorem La:wq PR 36 K8:=wb Oa Tryz.func36 (kcC gq (kcC vP kcN)) koN
theorem Lb:Ig:=fun _ h=>⟨h,rfl⟩
theorem Ih:wq PR 42 If:=wb Lb Tryz.func42 (kcC gq (kcC vP kcN)) koN
theorem jdg {l:LgD} (h:mc l):(kC (kA l)).length<=4:=by
 have a:=h.dy;unfold wK at a;rw[ji] at a;exact(ja a.1).1
theorem mX (l:LgD):wo l true=wd l:=by
 unfold wo;by_cases h:wd l=0;rw[jc (fun a=>a h),jd rfl,h];rw[jd h]
theorem uS {l:LgD} {t:Bool} (h:wo l t=0):kD l t=U.bo l/\mc l/\t=true:=by
 have e:kD l t=U.bo l:=(by unfold kD;rw[jd h];rfl);unfold wo at h
 split at h
 rename_i a;exact absurd h a;rename_i a
 split at h
 rename_i b;exact⟨e,cW (jQ.1 a),b⟩;cases h
theorem VS:RW:=by
 unfold RW jgd;rintro⟨l,⟨⟩⟩ c;refine⟨c,fun _=>tZ,fun h=> ?_,fun h=> ?_⟩;have h:wo l true≠0:=ja h;show(([]:List LnD),wo l true,())=(wA l,wd l,());rw[mX] at h⊢;unfold wA;rw[jc h];have h:wo l true=0:=jQ.1 (je h);obtain⟨a,b,_⟩:=uS h;rw[mX] at h;refine⟨?_,?_⟩;show E8 (kD l true);rw[a];exact RO b;show(kz (kD l true),(0:Int),())=(wA l,wd l,());rw[a,h];unfold wA;rw[jd h]
theorem R2:wq PR 11 RV:=wb VS Tryz.func11 (kcC eJ (kcC pI (kcC aP kcN))) koN
theorem R3:N9:=by
 unfold N9 jge;rintro⟨l,⟨⟩⟩ c;refine⟨c,fun _=>tZ,fun h=> ?_,fun h=> ?_⟩;have h:wo l true≠0:=ja h;show(([]:List Int),wo l true,())=(Lr l,wd l,());rw[mX] at h⊢;unfold Lr;rw[jc h];have h:wo l true=0:=jQ.1 (je h);obtain⟨a,b,_⟩:=uS h;rw[mX] at h;refine⟨?_,?_⟩;show Lp (kD l true);rw[a];exact jca b;show(q7 (kD l true),(0:Int),())=(Lr l,wd l,());rw[a,h];unfold Lr;rw[jd h]
theorem Oc:wq PR 29 N8:=wb R3 Tryz.func29 (kcC eJ (kcC pI (kcC eH kcN))) koN
theorem jaP:X8:=by
 unfold X8 jgf;rintro⟨l,n,⟨⟩⟩ d;refine⟨d,fun b=> ?_,fun h=> ?_,fun h=> ?_⟩;have:(kC (kA l)).length<=4:=jdg (cW b);exact⟨by show(kC (kA l)).length<=100;omega,tZ⟩;have h:wo l (qT l n)≠0:=ja h;show(([]:List Int),wo l (qT l n),())=(qw l n,wo l (qT l n),());unfold qw;rw[jc h];have h:wo l (qT l n)=0:=jQ.1 (je h);obtain⟨a,c,_⟩:=uS h;refine⟨?_,?_⟩;show Lq (kD l (qT l n));rw[a];exact XW c;show(vw (kD l (qT l n)) n,(0:Int),())=(qw l n,wo l (qT l n),());rw[a,h];unfold qw;rw[jd h]
theorem PV:wq PR 23 X7:=wb jaP Tryz.func23 (kcC eJ (kcC R1 (kcC oh kcN))) koN
theorem Y4 {l:LgD} (i:mc l) {n:Int} {b:BlD} (h:Oz (U.bo l) n=some b):Iz b:=by
 have a:=RO i;have d:(n,some b)∈IE l:=by
  refine(M.eX (kt:= .int) a.2.2.1).1 ?_;have e:kY none (kN .int n (IE l))=some b:=h;cases f:kN (β:=Option BlD) Ty.int n (IE l) with
  |none=>rw[f] at e;cases e
  |some v=>rw[f] at e;exact f.trans (jN some e)
 obtain⟨g,c,j⟩:=a.1 _ d;have c:some b=some g:=c;simp only[jw] at c;subst c;exact ac.1 j
theorem VT {b:BlD} {m:Int} (w:Iz b) (a: -100000<=m/\m<=1440): -1000000<=yQ m b/\yQ m b<=20000000000000000:=HZ (HO w a)
theorem VU:R0:=by
 unfold R0 jhl jfF jgg jgE Prod.q4;rintro⟨l,n,m,⟨⟩⟩ j;refine⟨j,fun g=> ?_,fun h=> ?_,fun h=> ?_⟩;have:(kC (kA l)).length<=4:=jdg (cW g);exact⟨by show(kC (kA l)).length<=100;omega,tZ⟩;have h:wo l (qT l n&&yg m)≠0:=ja h;show((0:Int),wo l (qT l n&&yg m),())=(E9 l n m,wo l (qT l n&&yg m),());unfold E9;rw[jc h];have h:wo l (qT l n&&yg m)=0:=jQ.1 (je h);obtain⟨f,i,c⟩:=uS h;rw[ji] at c;have a: -100000<=m/\m<=1440:=qm.1 c.2;show((Oz (kD l (qT l n&&yg m)) n).isNone=true->((0:Int),(0:Int),())=(E9 l n m,wo l (qT l n&&yg m),()))/\
  ((Oz (kD l (qT l n&&yg m)) n).isNone=false->(Oz (kD l (qT l n&&yg m)) n).isSome=true/\pP (kU _ (Oz (kD l (qT l n&&yg m)) n))/\(Oz (kD l (qT l n&&yg m)) n).isSome=true/\pP (kU _ (Oz (kD l (qT l n&&yg m)) n))/\-100000<=m/\m<=1440/\
    kK (Iu (qh (kU _ (Oz (kD l (qT l n&&yg m)) n)))-yQ m (kU _ (Oz (kD l (qT l n&&yg m)) n)))/\(Iu (qh (kU _ (Oz (kD l (qT l n&&yg m)) n)))-yQ m (kU _ (Oz (kD l (qT l n&&yg m)) n)),(0:Int),())=(E9 l n m,wo l (qT l n&&yg m),()))
 rw[f,h];unfold E9;rw[jd h];cases e:Oz (U.bo l) n with
 |none=>exact⟨fun _=>rfl,fun h=>(by cases h)⟩
 |some b=>
  have w:=Y4 i e;have d:=ac.2 w;have k:=HZ w;have o:=VT w a;refine⟨fun h=>(by cases h),fun _=>⟨rfl,d,rfl,d,a.1,a.2,?_,rfl⟩⟩;show kK (Iu (qh b)-yQ m b);exact iZ6
theorem R4:wq PR 12 RZ:=wb VU Tryz.func12 (kcC eJ (kcC La (kcC ae (kcC iA kcN)))) koN
namespace U
def vB (o:Option BlD):BlD:=o.getD default
end U
def Od:wi:=⟨[.val tLg,.val .int,.val .int],[.int,.int],false,fun d=>[(qj (kA d.1)).length<=100000],fun d=>(Lw d.1 d.2.1 d.2.2.1,Lx d.1 d.2.1 d.2.2.1,())⟩
def Ii:wi:=⟨[.val tLg],[.slice .int,.slice .int,.int,.int],false,fun d=>[(qj (kA d.1)).length<=100000],fun d=>(vA d.1,qG d.1,co d.1,wd d.1,())⟩
def Oe:Ann:=fun r=>match r with
 |7=>some fun σ=>{X:=Nat,sl:=fun k=>[(11,.dat .int (qx (qp (vB (gd (.ptr tBl) σ 10)))-(k:Int)))],ob:=fun _=>[],inv:=fun k=>k<=dh (vB (gd (.ptr tBl) σ 10))/\∀j:Nat,j<k->eV (vB (gd (.ptr tBl) σ 10)) (gb .int σ 5) j=false,mu:=fun k=>dh (vB (gd (.ptr tBl) σ 10))-k}
 |_=>none
abbrev jgF (d:LgD×Int×Int×Unit):=(kJ d.1 fun(a:BoD×Unit)=>(w4 a.1 d.2.1&&yp d.2.2.1,()))
abbrev jfG (d:LgD×Int×Int×Unit):=(kY none (kN Ty.int d.2.1 (kD d.1 (jgF d)).2.1))
abbrev jgG (d:LgD×Int×Int×Unit):=(kU ((((0:Int),(0:Int),(0:Int),(0:Int),(0:Int),(0:Int),()),(0:Int),(0:Int),(0:Int),()),((0:Int),(0:Int),(0:Int),(0:Int),(0:Int),(0:Int),(0:Int),(0:Int),[],[],()),(0:Int),(0:Int),[],(0:Int),(0:Int),false,(0:Int),()) (jfG d))
abbrev jgH (d:LgD×Int×Int×Unit):=(Lw d.1 d.2.1 d.2.2.1,Lx d.1 d.2.1 d.2.2.1,())
abbrev jeY (d:LgD×Int×Int×Unit):=(vB (jfG d))
abbrev jeE (d:LgD×Int×Int×Unit):=(qp (jeY d))
def Of:Prop:=∀(d:LgD×Int×Int×Unit),(qj (kA d.1)).length<=100000->(qj (kA d.1)).length<=100000/\(wd d.1=0->kI [(kC (kA (gX (d.1,[],())))).length<=100])/\(decide (wo d.1 (jgF d)≠0)=true->((0:Int),wo d.1 (jgF d),())=(jgH d))/\(decide (wo d.1 (jgF d)≠0)=false->((!(jfG d).isNone)=true->(jfG d).isSome=true/\(∃(x:Nat),(((jgG d).1.2.2.1=qx (jeE d)-(x:Int)/\True)/\True)/\x<=dh (jeY d)/\∀(j:Nat),j<x->eV (jeY d) d.2.2.1 j=false)/\∀(x:Nat),(x<=dh (jeY d)/\∀(j:Nat),j<x->eV (jeY d) d.2.2.1 j=false)->(decide ((-100000:Int)<=qx (jeE d)-(x:Int))=true->(jfG d).isSome=true/\pP (jgG d)/\(-100000:Int)<=qx (jeE d)-(x:Int)/\qx (jeE d)-(x:Int)<=1440/\(decide (yQ (qx (jeE d)-(x:Int)) (jgG d)<=d.2.2.1)=true->(qx (jeE d)-(x:Int),(0:Int),())=(jgH d))/\(decide (yQ (qx (jeE d)-(x:Int)) (jgG d)<=d.2.2.1)=false->kK (qx (jeE d)-(x:Int)-1)/\∃(a:Nat),((qx (jeE d)-(x:Int)-1=qx (jeE d)-(a:Int)/\True)/\True)/\(a<=dh (jeY d)/\∀(j:Nat),j<a->eV (jeY d) d.2.2.1 j=false)/\dh (jeY d)-a<dh (jeY d)-x))/\(decide ((-100000:Int)<=qx (jeE d)-(x:Int))=false->((0:Int),(3:Int),())=(jgH d)))/\((!(jfG d).isNone)=false->((0:Int),(3:Int),())=(jgH d)))
theorem jch {o:Option BlD} {Z:BlD} {a P E:Int} (t:∀b,o=some b->Iz b) (r:P=jdL a o) (p:E=jdM a o):
 ((!o.isNone)=true->o.isSome=true/\(∃(x:Nat),((qx (qp (kU Z o))=qx (qp (vB o))-(x:Int)/\True)/\True)/\x<=dh (vB o)/\∀(j:Nat),j<x->eV (vB o) a j=false)/\
   ∀(x:Nat),(x<=dh (vB o)/\∀(j:Nat),j<x->eV (vB o) a j=false)->
    (decide (-100000<=qx (qp (vB o))-(x:Int))=true->o.isSome=true/\pP (kU Z o)/\-100000<=qx (qp (vB o))-(x:Int)/\qx (qp (vB o))-(x:Int)<=1440/\
     (decide (yQ (qx (qp (vB o))-(x:Int)) (kU Z o)<=a)=true->(qx (qp (vB o))-(x:Int),(0:Int),())=(P,E,()))/\
     (decide (yQ (qx (qp (vB o))-(x:Int)) (kU Z o)<=a)=false->kK (qx (qp (vB o))-(x:Int)-1)/\∃(m:Nat),((qx (qp (vB o))-(x:Int)-1=qx (qp (vB o))-(m:Int)/\True)/\True)/\(m<=dh (vB o)/\∀(j:Nat),j<m->eV (vB o) a j=false)/\dh (vB o)-m<dh (vB o)-x))/\
    (decide (-100000<=qx (qp (vB o))-(x:Int))=false->((0:Int),(3:Int),())=(P,E,())))/\
 ((!o.isNone)=false->((0:Int),(3:Int),())=(P,E,())):=by
 subst r p;cases o with
 |none=>exact⟨fun h=>(by cases h),fun _=>rfl⟩
 |some b=>
  have w:=t b rfl;have n:=w.bl;refine⟨fun _=>⟨rfl,⟨0,⟨⟨?_,tZ⟩,tZ⟩,jv _,fun j s=>by omega⟩,fun x d=>⟨fun f=> ?_,fun f=> ?_⟩⟩,fun h=>(by cases h)⟩;show qx (qp b)=qx (qp b)-((0:Nat):Int);omega;have d:x<=dh b/\∀j:Nat,j<x->eV b a j=false:=d;have f: -100000<=qx (qp b)-(x:Int):=ja f;have s1:=n.st;have s2:=n.en;have u:=n.e2;have q:dh b=(qx (qp b)+100001).toNat:=rfl;refine⟨rfl,ac.2 w,f,?_,fun c=> ?_,fun c=> ?_⟩;show qx (qp b)-(x:Int)<=1440;omega;have c:eV b a x=true:=c;have e:Fa b a=some x:=by
   rcases Gi b a with⟨k,e,hk,g,i⟩|⟨e,i⟩;rw[e];have:k=x:=by
    rcases Nat.lt_trichotomy k x with l|l|l;rw[d.2 k l] at g;cases g;exact l;rw[i x l] at c;cases c
   rw[this];rw[i x (by omega)] at c;cases c
  show(qx (qp b)-(x:Int),(0:Int),())=(jdr b (Fa b a),jds (Fa b a),());rw[e];rfl;have c:eV b a x=false:=c;refine⟨?_,x+1,⟨⟨?_,tZ⟩,tZ⟩,⟨?_,fun j s=> ?_⟩,?_⟩;show kK (qx (qp b)-(x:Int)-1);exact iZ6;show qx (qp b)-(x:Int)-1=qx (qp b)-((x+1:Nat):Int);omega;show x+1<=dh b;omega;by_cases e:j=x;subst e;exact c;exact d.2 j (by omega);show dh b-(x+1)<dh b-x;omega;have d:x<=dh b/\∀j:Nat,j<x->eV b a j=false:=d;have f:¬-100000<=qx (qp b)-(x:Int):=je f;have q:dh b=(qx (qp b)+100001).toNat:=rfl;have e:Fa b a=none:=by
   rcases Gi b a with⟨k,e,hk,g,i⟩|⟨e,i⟩;rw[d.2 k (by omega)] at g;cases g;exact e
  show((0:Int),(3:Int),())=(jdr b (Fa b a),jds (Fa b a),());rw[e];rfl
theorem R5:Of:=by
 unfold Of jeE jeY jgH jgG jfG jgF;rintro⟨l,n,a,⟨⟩⟩ g;refine⟨g,fun e=> ?_,fun h=> ?_,fun h=> ?_⟩;have:(kC (kA l)).length<=4:=jdg (cW e);exact⟨by show(kC (kA l)).length<=100;omega,tZ⟩;have h:wo l (qT l n&&yp a)≠0:=ja h;show((0:Int),wo l (qT l n&&yp a),())=(Lw l n a,Lx l n a,());unfold Lw Lx;rw[jc h,jc h];have h:wo l (qT l n&&yp a)=0:=jQ.1 (je h);obtain⟨c,f,i⟩:=uS h;exact jch (o:=Oz (kD l (qT l n&&yp a)) n) (fun b d=>by rw[c] at d;exact Y4 f d) (by rw[c];exact jd h) (by rw[c];exact jd h)
theorem Og:wq PR 16 Od:=vN Oe R5 Tryz.func16 (kcC eJ (kcC Ih (kcC iA kcN))) koN
def Ij:Ann:=fun r=>match r with
 |6=>some fun σ=>{X:=Nat,sl:=fun k=>[(32,.dat .int (k:Int))],ob:=fun k=>[(2,some (.row 3 .int false .no (wP (yM (gb tLg σ 1)) (qc (gb tLg σ 1)) k)))],inv:=fun k=>k<=(kC (kA (gb tLg σ 1))).length,mu:=fun k=>(kC (kA (gb tLg σ 1))).length-k}
 |9=>some fun σ=>{X:=Nat,sl:=fun k=>[(39,.dat .int (k:Int))],ob:=fun k=>[(2,some (.row 3 .int false .no (vz (gr .int σ 2) (gd (.slice .int) σ 37) k)))],inv:=fun k=>k<=(gd (.slice .int) σ 37).length,mu:=fun k=>(gd (.slice .int) σ 37).length-k}
 |15=>some fun σ=>{X:=Nat,sl:=fun k=>[(56,.dat .int (k:Int)),(3,.own 3 .int)],ob:=fun k=>[(3,some (.row 3 .int false .yes (di ((gd (.slice .int) σ 54).take k))))],inv:=fun k=>k<=(gd (.slice .int) σ 54).length,mu:=fun k=>(gd (.slice .int) σ 54).length-k}
 |20=>some fun σ=>{X:=Nat,sl:=fun k=>[(69,.dat .int (k:Int)),(4,.dat .int (b9 (gd (.slice tLn) σ 67) k))],ob:=fun _=>[],inv:=fun k=>k<=(gd (.slice tLn) σ 67).length,mu:=fun k=>(gd (.slice tLn) σ 67).length-k}
 |_=>none
abbrev jgI (d:LgD×Unit):=(kJ d.1 fun(a:BoD×Unit)=>(true,()))
abbrev jfH (d:LgD×Unit):=(kD d.1 (jgI d))
abbrev jeq (d:LgD×Unit)(x:Nat):=(vw (jfH d) (x:Int))
abbrev jen (d:LgD×Unit):=(kz (jfH d))
abbrev jej (d:LgD×Unit):=(q7 (jfH d))
abbrev jgJ (d:LgD×Unit)(x:Nat):=(wP (yM d.1) (qc d.1) x)
abbrev jgh (d:LgD×Unit)(x:Nat)(a:Nat):=(vz (jgJ d x) (jeq d x) a)
abbrev jgi (d:LgD×Unit):=(d.1.1.1.2.1.length:Int)
def Ik:Prop:=∀(d:LgD×Unit),(qj (kA d.1)).length<=100000->(qj (kA d.1)).length<=100000/\(wd d.1=0->kI [])/\(decide (wo d.1 (jgI d)≠0)=true->([],[],(0:Int),wo d.1 (jgI d),())=(vA d.1,qG d.1,co d.1,wd d.1,()))/\(decide (wo d.1 (jgI d)≠0)=false->d.1.1.1.2.1.length<4611686018427387904->0<=(jgi d)/\(jgi d)=(jgi d)/\(jgi d).toNat*8<=140737488355328/\(d.1.1.2.2.1.length<4611686018427387904->(∃(x:Nat),((0=(x:Int)/\True)/\List.replicate (jgi d).toNat 0=wP (yM d.1) (qc d.1) x/\True)/\x<=(kC (kA d.1)).length)/\∀(x:Nat),x<=(kC (kA d.1)).length->(decide ((x:Int)<d.1.1.2.2.1.length)=true->Lq (jfH d)/\((jeq d x).length<4611686018427387904->(∃(a:Nat),((0=(a:Int)/\True)/\wP (yM d.1) (qc d.1) x=vz (jgJ d x) (jeq d x) a/\True)/\a<=(jeq d x).length)/\∀(a:Nat),a<=(jeq d x).length->(decide ((a:Int)<(jeq d x).length)=true->0<=(a:Int)/\(a:Int)<(jeq d x).length/\0<=(a:Int)/\(a:Int)<(jgh d x a).length/\kK (nth (jgh d x a) a+nth (jeq d x) a)/\0<=(a:Int)/\(a:Int)<(jgh d x a).length/\kK ((a:Int)+1)/\∃(c:Nat),(((a:Int)+1=(c:Int)/\True)/\(jgh d x a).set a (nth (jgh d x a) a+nth (jeq d x) a)=vz (jgJ d x) (jeq d x) c/\True)/\c<=(jeq d x).length/\(jeq d x).length-c<(jeq d x).length-a)/\(decide ((a:Int)<(jeq d x).length)=false->kK ((x:Int)+1)/\∃(c:Nat),(((x:Int)+1=(c:Int)/\True)/\vz (jgJ d x) (jeq d x) a=wP (yM d.1) (qc d.1) c/\True)/\c<=(kC (kA d.1)).length/\(kC (kA d.1)).length-c<(kC (kA d.1)).length-x)))/\(decide ((x:Int)<d.1.1.2.2.1.length)=false->Lp (jfH d)/\((jej d).length<4611686018427387904->(∃(x:Nat),((0=(x:Int)/\True/\True)/\di (List.take x (jej d))=[]/\True)/\x<=(jej d).length)/\∀(a:Nat),a<=(jej d).length->(decide ((a:Int)<(jej d).length)=true->0<=(a:Int)/\(a:Int)<(jej d).length/\kK (-nth (jej d) a)/\((di (List.take a (jej d))).length+[-nth (jej d) a].length)*8<=140737488355328/\kK ((a:Int)+1)/\∃(c:Nat),(((a:Int)+1=(c:Int)/\True/\True)/\di (List.take a (jej d))++[-nth (jej d) a]=di (List.take c (jej d))/\True)/\c<=(jej d).length/\(jej d).length-c<(jej d).length-a)/\(decide ((a:Int)<(jej d).length)=false->E8 (jfH d)/\((jen d).length<4611686018427387904->(∃(x:Nat),((0=(x:Int)/\0=b9 (jen d) x/\True)/\True)/\x<=(jen d).length)/\∀(b:Nat),b<=(jen d).length->(decide ((b:Int)<(jen d).length)=true->0<=(b:Int)/\(b:Int)<(jen d).length/\kK (b9 (jen d) b-(nth (jen d) b).q4.1)/\kK ((b:Int)+1)/\∃(c:Nat),(((b:Int)+1=(c:Int)/\b9 (jen d) b-(nth (jen d) b).q4.1=b9 (jen d) c/\True)/\True)/\c<=(jen d).length/\(jen d).length-c<(jen d).length-b)/\(decide ((b:Int)<(jen d).length)=false->(wP (yM d.1) (qc d.1) x,di (List.take a (jej d)),b9 (jen d) b,(0:Int),())=(vA d.1,qG d.1,co d.1,wd d.1,()))))))))
theorem Lc:Ik:=by
 unfold Ik jgi jgh jgJ jej jen jeq jfH jgI Prod.q4;rintro⟨l,⟨⟩⟩ D;refine⟨D,fun _=>tZ,fun h=> ?_,fun h=> ?_⟩;have h:wo l true≠0:=ja h;show(([]:List Int),([]:List Int),(0:Int),wo l true,())=(vA l,qG l,co l,wd l,());rw[mX] at h⊢;unfold vA qG co;rw[jc h,jc h,jc h];have h:wo l true=0:=jQ.1 (je h);obtain⟨i,d,_⟩:=uS h;rw[mX] at h;have M:=jcc d;have T:qc l<=8:=jb8 d;have B:Lq (kD l true):=(by rw[i];exact XW d);have q:Lp (kD l true):=(by rw[i];exact jca d);have A:E8 (kD l true):=(by rw[i];exact RO d);have g:∀b:Nat,vw (kD l true) (b:Int)=yM l b:=fun b=>by rw[i];rfl
 have m:∀b:Nat,(vw (kD l true) (b:Int)).length=qc l:=fun b=>by rw[i];exact H7 _ _
 have s:∀b:Nat,∀j,j<qc l->-1000000000000000000<=nth (yM l b) j/\nth (yM l b) j<=1700000000000000000:=fun b j C=>Y0 (XW d) (n:=(b:Int)) j C
 obtain⟨Y,Q⟩:=jaH q;have eL:kz (kD l true)=q6 l:=(by rw[i];exact aI d);have N:(kz (kD l true)).length<=4:=(by rw[eL];have:=PQ d;omega);have t:=VD (VM d);rw[<-eL] at t;have E:∀x∈kz (kD l true),0<=Ox x/\Ox x<=1000000:=(by rw[eL];exact VM d);refine fun P=>⟨jZ _,rfl,by show(((qc l:Nat):Int)).toNat*8<=_;omega,fun _=>⟨⟨0,⟨⟨rfl,tZ⟩,rfl,tZ⟩,jv _⟩,fun x G=>⟨fun p=> ?_,fun p=> ?_⟩⟩⟩
 have p:(x:Int)<(kC (kA l)).length:=ja p;have v:x<(kC (kA l)).length:=(by omega);have K:(wP (yM l) (qc l) x).length=qc l:=gU _ _ _;have u:=ig (yM l) (qc l) x;have W:=m x;refine⟨B,fun _=>⟨⟨0,⟨⟨rfl,tZ⟩,rfl,tZ⟩,jv _⟩,fun y w=>⟨fun c=> ?_,fun c=> ?_⟩⟩⟩;have c:(y:Int)<(vw (kD l true) (x:Int)).length:=ja c;have a:y<qc l:=(by omega);have V:(vz (wP (yM l) (qc l) x) (vw (kD l true) (x:Int)) y).length=qc l:=(by rw[eI,K]);have r:(y:Int)<(vz (wP (yM l) (qc l) x) (vw (kD l true) (x:Int)) y).length:=(by omega);have I:=jaO (f:=yM l) (k:=x) (n:=qc l) (by omega) (fun b _ j C=>s b j C) a;rw[<-g] at I;have D:=ic (wP (yM l) (qc l) x) (vw (kD l true) (x:Int)) y;exact⟨by omega,c,by omega,r,I,by omega,r,iZ6,y+1,⟨⟨by simp,tZ⟩,D.symm,tZ⟩,by show y+1<=(vw (kD l true) (x:Int)).length;omega,by show(vw (kD l true) (x:Int)).length-(y+1)<(vw (kD l true) (x:Int)).length-y;omega⟩;have c:¬(y:Int)<(vw (kD l true) (x:Int)).length:=je c;have w:y<=(vw (kD l true) (x:Int)).length:=w;have a:y=qc l:=(by omega);subst a;rw[<-g] at u;exact⟨iZ6,x+1,⟨⟨by simp,tZ⟩,u.symm,tZ⟩,by show x+1<=(kC (kA l)).length;omega,by show(kC (kA l)).length-(x+1)<(kC (kA l)).length-x;omega⟩;have p:¬(x:Int)<(kC (kA l)).length:=je p;have G:x<=(kC (kA l)).length:=G;have v:x=(kC (kA l)).length:=(by omega);subst v;refine⟨q,fun _=>⟨⟨0,⟨⟨rfl,tZ,tZ⟩,rfl,tZ⟩,jv _⟩,fun y w=>⟨fun c=> ?_,fun c=> ?_⟩⟩⟩;have c:(y:Int)<(q7 (kD l true)).length:=ja c;have a:y<(q7 (kD l true)).length:=(by omega);have X:=Q _ (L.kx a);have O:=VL a;have F:=X4 (q7 (kD l true)) y;refine⟨by omega,c,?_,?_,iZ6,y+1,⟨⟨by simp,tZ,tZ⟩,O.symm,tZ⟩,by show y+1<=(q7 (kD l true)).length;omega,by show(q7 (kD l true)).length-(y+1)<(q7 (kD l true)).length-y;omega⟩;show kK (-nth (q7 (kD l true)) y);exact iZ6;show((di ((q7 (kD l true)).take y)).length+1)*8<=_;omega;have c:¬(y:Int)<(q7 (kD l true)).length:=je c;have w:y<=(q7 (kD l true)).length:=w;have a:y=(q7 (kD l true)).length:=(by omega);subst a;refine⟨A,fun _=>⟨⟨0,⟨⟨rfl,rfl,tZ⟩,tZ⟩,jv _⟩,fun z H=>⟨fun o=> ?_,fun o=> ?_⟩⟩⟩;have o:(z:Int)<(kz (kD l true)).length:=ja o;have e:z<(kz (kD l true)).length:=(by omega);have R:=t z (by omega);have S:=E _ (L.kx e);have J:=uP e;refine⟨by omega,o,?_,iZ6,z+1,⟨⟨by simp,J.symm,tZ⟩,tZ⟩,by show z+1<=(kz (kD l true)).length;omega,by show(kz (kD l true)).length-(z+1)<(kz (kD l true)).length-z;omega⟩;show kK (b9 (kz (kD l true)) z-Ox (nth (kz (kD l true)) z));exact iZ6;have o:¬(z:Int)<(kz (kD l true)).length:=je o;have H:z<=(kz (kD l true)).length:=H;have e:z=(kz (kD l true)).length:=(by omega);subst e;show(wP (yM l) (qc l) (kC (kA l)).length,di ((q7 (kD l true)).take (q7 (kD l true)).length),b9 (kz (kD l true)) (kz (kD l true)).length,(0:Int),())=(vA l,qG l,co l,wd l,());unfold vA qG co;rw[jd h,jd h,jd h,h,zu,i]
theorem Il:wq PR 19 Ii:=vN Ij Lc Tryz.func19 (kcC eJ (kcC pI (kcC oh (kcC eH (kcC aP kcN))))) koN
namespace U
def Ly (l:LgD):Bool:=((((It (kA l)||decide (20<((yh l).length:Int)))||decide (20<((Gn l).length:Int)))||decide (20<((bv (lc l)).length:Int)))||decide (20<((eZ (lc l)).length:Int)))||decide (30<((wF l).length:Int))
def OC (l:LgD):Bool:= !Ly l&&decide (wd l=0)
def exT:TaD:=(30,100,2,1200,90,50,2,150,[0,10,25,50],[(1000,0,()),(60,50,())],())
def xE:LgD:=(jdH,[0,1,0],[30,0,45],exT,[(1,1,80,()),(2,1,120,())],())
end U
def VV:wi:=⟨[.val tLg],[.bool],false,fun _=>[],fun d=>(Ly d.1,())⟩
abbrev jh5 (d:LgD×Unit):=(20<(d.1.2.2.2.1.q4.q4.1.length:Int))
abbrev jgK (d:LgD×Unit):=(20<(d.1.2.1.length:Int))
abbrev jhm (d:LgD×Unit):=(20<(d.1.2.2.1.length:Int))
def VW:Prop:=∀(d:LgD×Unit),((!It d.1.1)=true->d.1.2.1.length<4611686018427387904)->((!(It d.1.1||decide (jgK d)))=true->d.1.2.2.1.length<4611686018427387904)->((!(It d.1.1||decide (jgK d)||decide (jhm d)))=true->d.1.2.2.2.1.q4.q4.1.length<4611686018427387904)->((!(It d.1.1||decide (jgK d)||decide (jhm d)||decide (jh5 d)))=true->d.1.2.2.2.1.q4.q4.2.1.length<4611686018427387904)->((!(It d.1.1||decide (jgK d)||decide (jhm d)||decide (jh5 d)||decide (20<(d.1.2.2.2.1.q4.q4.2.1.length:Int))))=true->d.1.q4.1.length<4611686018427387904)->(It d.1.1||decide (jgK d)||decide (jhm d)||decide (jh5 d)||decide (20<(d.1.2.2.2.1.q4.q4.2.1.length:Int))||decide (30<(d.1.q4.1.length:Int)),())=(Ly d.1,())
def Oh:wi:=⟨[.val tLg],[.bool],false,fun _=>[],fun d=>(OC d.1,())⟩
def Oi:Prop:=∀(d:LgD×Unit),((!Ly d.1)=true->(kC (kA d.1)).length<=1000000)/\(!Ly d.1&&decide (wd d.1=0),())=(OC d.1,())
def EY:wi:=⟨[.val (.slice .int),.val (.slice .int)],[.bool],false,fun _=>[],fun d=>(decide (d.1=d.2.1),())⟩
def EZ:Ann:=fun r=>match r with
 |4=>some fun σ=>{X:=Nat,sl:=fun i=>[(5,.dat .int (i:Int))],ob:=fun _=>[],inv:=fun i=>i<=(gd (.slice .int) σ 0).length/\∀j:Nat,j<i->nth (gd (.slice .int) σ 0) j=nth (gd (.slice .int) σ 1) j,mu:=fun i=>(gd (.slice .int) σ 0).length-i}
 |_=>none
def E0:Prop:=∀(d:List Int×List Int×Unit),d.1.length<4611686018427387904->d.2.1.length<4611686018427387904->(decide ((d.1.length:Int)≠d.2.1.length)=true->(false,())=(decide (d.1=d.2.1),()))/\(decide ((d.1.length:Int)≠d.2.1.length)=false->(∃(x:Nat),((0=(x:Int)/\True)/\True)/\x<=d.1.length/\∀(j:Nat),j<x->nth d.1 j=nth d.2.1 j)/\∀(x:Nat),(x<=d.1.length/\∀(j:Nat),j<x->nth d.1 j=nth d.2.1 j)->d.1.length<4611686018427387904->(decide ((x:Int)<d.1.length)=true->0<=(x:Int)/\(x:Int)<d.1.length/\0<=(x:Int)/\(x:Int)<d.2.1.length/\(decide (nth d.1 x≠nth d.2.1 x)=true->(false,())=(decide (d.1=d.2.1),()))/\(decide (nth d.1 x≠nth d.2.1 x)=false->kK ((x:Int)+1)/\∃(a:Nat),(((x:Int)+1=(a:Int)/\True)/\True)/\(a<=d.1.length/\∀(j:Nat),j<a->nth d.1 j=nth d.2.1 j)/\d.1.length-a<d.1.length-x))/\(decide ((x:Int)<d.1.length)=false->(true,())=(decide (d.1=d.2.1),())))
def Im:wi:=⟨[],[tLg],false,fun _=>[],fun _=>(xE,())⟩
def In:Prop:=∀(_:Unit),((jdH,[(0:Int),(1:Int),(0:Int)],[(30:Int),(0:Int),(45:Int)],((30:Int),(100:Int),(2:Int),(1200:Int),(90:Int),(50:Int),(2:Int),(150:Int),[(0:Int),(10:Int),(25:Int),(50:Int)],[((1000:Int),(0:Int),()),((60:Int),(50:Int),())],()),[((1:Int),(1:Int),(80:Int),()),((2:Int),(1:Int),(120:Int),())],()),())=(xE,())
def Oj:wi:=⟨[],[.bool],false,fun _=>[],fun _=>(true,())⟩
abbrev jgL:=(qj (kA xE))
def Ol:Prop:=∀(_:Unit),jgL.length<=100000/\jgL.length<=100000/\jgL.length<=100000/\jgL.length<=100000/\(decide (wd xE=0)&&decide (wo xE (qT xE (2:Int))=0)&&decide (wo xE (qT xE (0:Int)&&yg (0:Int))=0)&&decide (Lx xE (0:Int) (0:Int)=0)&&decide (Lr xE=[(940:Int),(100:Int)])&&decide (qw xE (2:Int)=[(390:Int),(390:Int),(0:Int),(0:Int)])&&decide (E9 xE (0:Int) (0:Int)=185)&&decide (Lw xE (0:Int) (0:Int)=(-940:Int)),())=(true,())
theorem jaQ (l:LgD):wA l=jcy l:=by
 unfold wA jcy
 split
 rename_i h;exact aI (cW h);rfl
theorem jaR (l:LgD) (n:Int):qw l n=jcz l n:=by
 unfold qw jcz
 split
 rename_i h;obtain⟨a,b⟩:=VE h;exact VB a (PP.1 b);rfl
theorem X9:VW:=fun _ _ _ _ _ _=>rfl
theorem VX:wq PR 27 VV:=wb X9 Tryz.func27 (kcC Vd kcN) koN
theorem R6 {l:LgD} (h:Ly l=false):jdt l:=by
 unfold Ly at h;simp only[jS,jE] at h;obtain⟨⟨⟨⟨⟨a,b⟩,c⟩,d⟩,e⟩,f⟩:=h;exact⟨XO a,by omega,by omega,by omega,by omega,by omega⟩
theorem Ld {l:LgD} (h:Ly l=false):(qj (kA l)).length<=100000/\(kC (kA l)).length<=1000000:=by
 have a:=(R6 h).1;have b:=a.2.2.2.1;have c:=a.2.2.1;omega
theorem R7:Oi:=by
 rintro⟨l,⟨⟩⟩;refine⟨fun h=> ?_,rfl⟩;have h:(!Ly l)=true:=h;rw[jP] at h;exact(Ld h).2
theorem Om:wq PR 7 Oh:=wb R7 Tryz.func7 (kcC VX (kcC N5 kcN)) koN
theorem jaS {l:LgD} (h:OC l=true):Ly l=false/\mc l/\wd l=0:=by
 unfold OC at h;rw[ji,jP,jr] at h;exact⟨h.1,cW h.2,h.2⟩
theorem Io:E0:=by
 rintro⟨a,b,⟨⟩⟩ _ l;refine⟨fun h=> ?_,fun h=>⟨⟨0,⟨⟨rfl,tZ⟩,tZ⟩,jv _,fun j k=>by omega⟩,fun x g f=>⟨fun c=>⟨jZ _,ja c,jZ _,?_,fun d=> ?_,fun d=> ?_⟩,fun c=> ?_⟩⟩⟩;have h:(a.length:Int)≠b.length:=ja h;have:¬a=b:=fun e=>h (by rw[e])
 show(false,())=(decide (a=b),());rw[zm this];have h:(a.length:Int)=b.length:=jQ.1 (je h);have c:(x:Int)<a.length:=ja c;show(x:Int)<b.length;omega;have d:nth a x≠nth b x:=ja d;have:¬a=b:=fun e=>d (by rw[e])
 show(false,())=(decide (a=b),());rw[zm this];have c:(x:Int)<a.length:=ja c;have d:nth a x=nth b x:=jQ.1 (je d);have f:a.length<4611686018427387904:=f;refine⟨iZ6,x+1,⟨⟨by simp,tZ⟩,tZ⟩,⟨by show x+1<=a.length;omega,fun j k=> ?_⟩,by show a.length-(x+1)<a.length-x;omega⟩;by_cases e:j=x;subst e;exact d;exact g.2 j (by omega);have h:(a.length:Int)=b.length:=jQ.1 (je h);have c:¬(x:Int)<a.length:=je c;have e:a=b:=L.ext_nth (by omega) fun i hi=>g.2 i (by omega)
 show(true,())=(decide (a=b),());rw[jK e]
theorem E1:wq PR 26 EY:=vN EZ Io Tryz.func26 kcN koN
theorem Le:In:=fun _=>rfl
theorem Ip:wq PR 28 Im:=wb Le Tryz.func28 (kcC HM kcN) koN
theorem jaT:wd xE=0:=by decide+kernel
theorem jaU:Lr xE=[940,100]:=by decide+kernel
theorem jaV:qw xE 2=[390,390,0,0]:=by decide+kernel
theorem jaW:E9 xE 0 0=185:=by decide+kernel
theorem Ya:Lx xE 0 0=0:=by decide+kernel
theorem Yb:Lw xE 0 0= -940:=by decide+kernel
theorem jci:wo xE (qT xE 2)=0:=by decide+kernel
theorem jcj:wo xE (qT xE 0&&yg 0)=0:=by decide+kernel
theorem R8:Ol:=by
 unfold Ol jgL;intro _;have a:(qj (kA xE)).length<=100000:=(by decide+kernel);refine⟨a,a,a,a,?_⟩;rw[jaT,jci,jcj,Ya,jaU,jaV,jaW,Yb];rfl
theorem On:wq PR 8 Oj:=wb R8 Tryz.func8 (kcC Ip (kcC Oc (kcC PV (kcC R4 (kcC Og (kcC E1 kcN)))))) koN
def VY:wi:=⟨[.val (.slice .int)],[.int],false,fun d=>[∀k:Nat,k<=d.1.length->kK (qP d.1 k)],fun d=>(kX d.1,())⟩
def VZ:Ann:=fun r=>match r with
 |3=>some fun σ=>{X:=Nat,sl:=fun i=>[(4,.dat .int (i:Int)),(3,.dat .int (qP (gd (.slice .int) σ 0) i))],ob:=fun _=>[],inv:=fun i=>i<=(gd (.slice .int) σ 0).length,mu:=fun i=>(gd (.slice .int) σ 0).length-i}
 |_=>none
def V0:Prop:=∀(d:List Int×Unit),(∀(k:Nat),k<=d.1.length->kK (qP d.1 k))->(∃(x:Nat),((0=(x:Int)/\0=qP d.1 x/\True)/\True)/\x<=d.1.length)/\∀(x:Nat),x<=d.1.length->d.1.length<4611686018427387904->(decide ((x:Int)<d.1.length)=true->0<=(x:Int)/\(x:Int)<d.1.length/\kK (qP d.1 x+nth d.1 x)/\kK ((x:Int)+1)/\∃(a:Nat),(((x:Int)+1=(a:Int)/\qP d.1 x+nth d.1 x=qP d.1 a/\True)/\True)/\a<=d.1.length/\d.1.length-a<d.1.length-x)/\(decide ((x:Int)<d.1.length)=false->(qP d.1 x,())=(kX d.1,()))
theorem Yc:V0:=by
 rintro⟨l,⟨⟩⟩ h;refine⟨⟨0,⟨⟨rfl,rfl,tZ⟩,tZ⟩,jv _⟩,fun x f c=>⟨fun a=> ?_,fun a=> ?_⟩⟩;have a:(x:Int)<l.length:=ja a;have d:=Gj (l:=l) (k:=x) (by omega);have e:((x:Int)).toNat=x:=ju x;have c:l.length<4611686018427387904:=c;have b:kK (qP l (x+1)):=h (x+1) (by show x+1<=l.length;omega);rw[d] at b;refine⟨jZ _,a,b,iZ6,x+1,⟨⟨by simp,?_,tZ⟩,tZ⟩,by show x+1<=l.length;omega,by show l.length-(x+1)<l.length-x;omega⟩;exact d.symm;have a:¬(x:Int)<l.length:=je a;have f:x<=l.length:=f;have e:x=l.length:=(by omega);subst e;rfl
theorem V1:wq PR 22 VY:=vN VZ Yc Tryz.func22 kcN koN
def s7:wi:=U4 [tLg]
def s8:Ann:=fun r=>match r with
 |10=>some fun σ=>{X:=Nat,sl:=fun b=>[(13,.dat .int (b:Int))],ob:=fun _=>[],inv:=fun b=>b<=(gd (.slice .int) σ 9).length,mu:=fun b=>(gd (.slice .int) σ 9).length-b}
 |17=>some fun σ=>{X:=Nat,sl:=fun k=>[(17,.dat .int (k:Int)),(16,.dat .int (yN (gd (.slice tLn) σ 7) (gd .int σ 13) k))],ob:=fun _=>[],inv:=fun k=>k<=(gd (.slice tLn) σ 7).length,mu:=fun k=>(gd (.slice tLn) σ 7).length-k}
 |24=>some fun σ=>{X:=Nat,sl:=fun p=>[(18,.dat .int (p:Int))],ob:=fun _=>[],inv:=fun p=>p<=(gd (.slice .int) σ 14).length,mu:=fun p=>(gd (.slice .int) σ 14).length-p}
 |29=>some fun σ=>{X:=Nat,sl:=fun i=>[(19,.dat .int (i:Int))],ob:=fun _=>[],inv:=fun i=>i<=(gd (.slice .int) σ 4).length,mu:=fun i=>(gd (.slice .int) σ 4).length-i}
 |_=>none
abbrev jef (d:LgD×Unit)(x:Nat):=(qw d.1 (x:Int))
abbrev jgj:=(Ty.int.pair (Ty.int.pair Ty.unit))
abbrev jhn (d:LgD×Unit)(x:Nat)(a:Nat):=(!decide (nth (jef d x) a<0)&&decide (0<nth (jef d x) a))
abbrev jfc (d:LgD×Unit)(a:Nat):=(nth (wA d.1) a)
abbrev jh6 (d:LgD×Unit)(x:Nat)(a:Nat):=(decide (nth (jef d x) a<0)||decide (0<nth (jef d x) a)&& !qb (nth (wZ d.1.1) x) (a:Int))
abbrev jfI (d:LgD×Unit):=(↑(wA d.1).length:Int)
abbrev jgM (d:LgD×Unit):=((jfI d)≠(↑(km d.1.1).length:Int))
abbrev jeQ (d:LgD×Unit):=(k8 d.1.1≠0)
abbrev jgN (d:LgD×Unit):=(↑(wZ d.1.1).length:Int)
abbrev jho (d:LgD×Unit):=((jgN d)≠(d.1.1.2.2.1.length:Int))
abbrev jeR (d:LgD×Unit):=(wd d.1≠0)
abbrev jgO (d:LgD×Unit):=(!(decide (jeR d)||decide (jeR d)||decide (jeQ d)||decide (jeQ d)||decide (jgM d)||decide (jho d)||decide ((↑(vA d.1).length:Int)≠d.1.1.1.2.1.length)))
abbrev jh7 (d:LgD×Unit):=(decide (jeR d)||decide (jeR d)||decide (jeQ d)||decide (jeQ d)||decide (jgM d)||decide (jho d)||decide ((↑(vA d.1).length:Int)≠d.1.1.1.2.1.length)||decide (kX (vA d.1)+kX (qG d.1)+co d.1≠0)||decide (0<co d.1))
abbrev jh8 (d:LgD×Unit):=(!(decide (jeR d)||decide (jeR d)||decide (jeQ d)||decide (jeQ d)||decide (jgM d)||decide (jho d)))
abbrev jh9 (d:LgD×Unit):=(!(decide (jeR d)||decide (jeR d)||decide (jeQ d)||decide (jeQ d)||decide (jgM d)))
abbrev jia (d:LgD×Unit):=(!(decide (jeR d)||decide (jeR d)||decide (jeQ d)||decide (jeQ d)))
abbrev jib:=(Ty.int.pair (Ty.int.pair (Ty.int.pair jgj)))
abbrev jgk (d:LgD×Unit)(x:Nat):=(↑(jef d x).length:Int)
abbrev jic (d:LgD×Unit)(x:Nat):=(decide (wo d.1 (qT d.1 (x:Int))≠0)||decide ((jgk d x)≠(↑(vA d.1).length:Int)))
def s9:Prop:=∀(d:LgD×Unit),HG 1048576 [((Ty.int.pair ((Ty.int.slice.pair (Ty.int.pair (Ty.int.pair (Ty.int.slice.pair (Ty.bool.pair (Ty.int.pair Ty.unit)))))).slice.pair ((Ty.int.pair (Ty.int.pair (Ty.bool.pair Ty.unit))).slice.pair Ty.unit))).pair (jgj.slice.slice.pair (((Ty.int.pair jib).pair (Ty.int.pair jgj)).slice.pair (Ty.int.pair (Ty.int.pair (jib.slice.pair Ty.unit)))))).pair (Ty.int.slice.pair (Ty.int.slice.pair ((Ty.int.pair (Ty.int.pair (Ty.int.pair (Ty.int.pair (Ty.int.pair (Ty.int.pair (Ty.int.pair (Ty.int.pair (Ty.int.slice.pair (jgj.slice.pair Ty.unit)))))))))).pair ((Ty.int.pair jgj).slice.pair Ty.unit))))] d->((!OC d.1)=true->(true,())=(true,()))/\((!OC d.1)=false->(qj (kA d.1)).length<=100000/\(qj (kA d.1)).length<=100000/\(qj d.1.1).length<=100000/\(qj d.1.1).length<=100000/\(((jia d)=true->(wA d.1).length<4611686018427387904)->((jia d)=true->(km d.1.1).length<4611686018427387904)->((jh9 d)=true->(wZ d.1.1).length<4611686018427387904)->((jh9 d)=true->d.1.1.2.2.1.length<4611686018427387904)->((jh8 d)=true->(vA d.1).length<4611686018427387904)->((jh8 d)=true->d.1.1.1.2.1.length<4611686018427387904)->((jgO d)=true->∀(k:Nat),k<=(vA d.1).length->kK (qP (vA d.1) k))/\((jgO d)=true->∀(k:Nat),k<=(qG d.1).length->kK (qP (qG d.1) k))/\((jgO d)=true->kK (kX (vA d.1)+kX (qG d.1)))/\((jgO d)=true->kK (kX (vA d.1)+kX (qG d.1)+co d.1))/\((jh7 d)=true->(false,())=(true,()))/\((jh7 d)=false->(∃(x:Nat),((0=(x:Int)/\True)/\True)/\x<=(wZ d.1.1).length)/\∀(x:Nat),x<=(wZ d.1.1).length->(wZ d.1.1).length<4611686018427387904->(decide ((x:Int)<(jgN d))=true->(qj (kA d.1)).length<=100000/\(((!decide (wo d.1 (qT d.1 (x:Int))≠0))=true->(jef d x).length<4611686018427387904)->((!decide (wo d.1 (qT d.1 (x:Int))≠0))=true->(vA d.1).length<4611686018427387904)->((jic d x)=true->(false,())=(true,()))/\((jic d x)=false->(∃(b:Nat),((0=(b:Int)/\0=yN (wA d.1) (x:Int) b/\True)/\True)/\b<=(wA d.1).length)/\∀(b:Nat),b<=(wA d.1).length->(wA d.1).length<4611686018427387904->(decide ((b:Int)<(jfI d))=true->0<=(b:Int)/\(b:Int)<(jfI d)/\(decide ((jfc d b).2.1=(x:Int))=true->0<=(b:Int)/\(b:Int)<(jfI d)/\0<=(b:Int)/\(b:Int)<(jfI d)/\kK ((jfc d b).2.2.1+(jfc d b).2.2.2.1)/\kK (yN (wA d.1) (x:Int) b+((jfc d b).2.2.1+(jfc d b).2.2.2.1))/\kK ((b:Int)+1)/\∃(c:Nat),(((b:Int)+1=(c:Int)/\yN (wA d.1) (x:Int) b+((jfc d b).2.2.1+(jfc d b).2.2.2.1)=yN (wA d.1) (x:Int) c/\True)/\True)/\c<=(wA d.1).length/\(wA d.1).length-c<(wA d.1).length-b)/\(decide ((jfc d b).2.1=(x:Int))=false->kK ((b:Int)+1)/\∃(c:Nat),((yN (wA d.1) (x:Int) b=yN (wA d.1) (x:Int) c/\(b:Int)+1=(c:Int)/\True)/\True)/\c<=(wA d.1).length/\(wA d.1).length-c<(wA d.1).length-b))/\(decide ((b:Int)<(jfI d))=false->(∀(k:Nat),k<=(jef d x).length->kK (qP (jef d x) k))/\(decide (kX (jef d x)≠yN (wA d.1) (x:Int) b)=true->(false,())=(true,()))/\(decide (kX (jef d x)≠yN (wA d.1) (x:Int) b)=false->(∃(a:Nat),((0=(a:Int)/\True)/\True)/\a<=(jef d x).length)/\∀(a:Nat),a<=(jef d x).length->(jef d x).length<4611686018427387904->(decide ((a:Int)<(jgk d x))=true->0<=(a:Int)/\(a:Int)<(jgk d x)/\((!decide (nth (jef d x) a<0))=true->0<=(a:Int))/\((!decide (nth (jef d x) a<0))=true->(a:Int)<(jgk d x))/\((jhn d x a)=true->0<=(x:Int))/\((jhn d x a)=true->(x:Int)<(jgN d))/\((jhn d x a)=true->0<=(a:Int)/\(a:Int)<=63)/\((jh6 d x a)=true->(false,())=(true,()))/\((jh6 d x a)=false->kK ((a:Int)+1)/\∃(c:Nat),(((a:Int)+1=(c:Int)/\True)/\True)/\c<=(jef d x).length/\(jef d x).length-c<(jef d x).length-a))/\(decide ((a:Int)<(jgk d x))=false->kK ((x:Int)+1)/\∃(c:Nat),(((x:Int)+1=(c:Int)/\True)/\True)/\c<=(wZ d.1.1).length/\(wZ d.1.1).length-c<(wZ d.1.1).length-x))))))/\(decide ((x:Int)<(jgN d))=false->(∃(x:Nat),((0=(x:Int)/\True)/\True)/\x<=(qG d.1).length)/\∀(x:Nat),x<=(qG d.1).length->(qG d.1).length<4611686018427387904->(decide ((x:Int)<(qG d.1).length)=true->0<=(x:Int)/\(x:Int)<(qG d.1).length/\(decide (0<nth (qG d.1) x)=true->(false,())=(true,()))/\(decide (0<nth (qG d.1) x)=false->kK ((x:Int)+1)/\∃(c:Nat),(((x:Int)+1=(c:Int)/\True)/\True)/\c<=(qG d.1).length/\(qG d.1).length-c<(qG d.1).length-x))/\(decide ((x:Int)<(qG d.1).length)=false->(true,())=(true,()))))))
theorem uT:s9:=by
 unfold s9 jic jgk jib jia jh9 jh8 jh7 jgO jeR jho jgN jeQ jgM jfI jh6 jfc jhn jgj jef;rintro⟨l,⟨⟩⟩ _;refine⟨fun _=>rfl,fun h=> ?_⟩;have h:OC l=true:=(by simpa using(show(!OC l)=false from h));obtain⟨K,E,r⟩:=jaS h;obtain⟨p,T⟩:=Ld K;have eL:wA l=q6 l:=(jaQ l).trans (jd r);have B:=jcg r;rw[<-eL] at B;have Q:qc l<=8:=jb8 E;have I:∀b:Nat,b<(kC (kA l)).length->wo l (qT l (b:Int))=0:=fun b a=>by
  have t:qT l (b:Int)=true:=PP.2 ⟨by omega,by omega⟩;unfold wo;rw[jc (fun J=>J r),jd t]
 have m:∀b:Nat,b<(kC (kA l)).length->qw l (b:Int)=uY l (b:Int):=fun b a=>(jaR l (b:Int)).trans (jd (I b a))
 have P:(wZ (kA l)).length=(kC (kA l)).length:=B.lt;have sA:∀k,kK (qP (vA l) k):=fun k=>by have:=B.sA k;exact iZ6
 have sB:∀k,kK (qP (qG l) k):=fun k=>by have:=B.sB k;exact iZ6
 have A:=B.sA (vA l).length;have C:=B.sB (qG l).length;have A: -100000000000000000<=kX (vA l)/\kX (vA l)<=100000000000000000:=A;have C: -100000000000000000<=kX (qG l)/\kX (qG l)<=100000000000000000:=C;have c1:=B.sC;have u:k8 (kA l)=0:=E.cp;have s1:kK (kX (vA l)+kX (qG l)):=iZ6;have s2:kK (kX (vA l)+kX (qG l)+co l):=iZ6;refine⟨p,p,p,p,fun _ _ _ _ _ _=>⟨fun _ k _=>sA k,fun _ k _=>sB k,fun _=>s1,fun _=>s2,fun g=> ?_,fun _=>⟨⟨0,⟨⟨rfl,tZ⟩,tZ⟩,jv _⟩,fun x R o=>⟨fun g=>⟨p,fun _ _=>⟨fun q=> ?_,fun _=>⟨⟨0,⟨⟨rfl,rfl,tZ⟩,tZ⟩,jv _⟩,fun y v f=>⟨fun d=> ?_,fun d=>⟨fun k _=> ?_,fun c=> ?_,fun _=>⟨⟨0,⟨⟨rfl,tZ⟩,tZ⟩,jv _⟩,fun z S L=>⟨fun n=> ?_,fun n=> ?_⟩⟩⟩⟩⟩⟩⟩,fun g=>⟨⟨0,⟨⟨rfl,tZ⟩,tZ⟩,jv _⟩,fun y v f=>⟨fun d=> ?_,fun _=>rfl⟩⟩⟩⟩⟩⟩;exfalso;have g:(decide (wd l≠0)||decide (wd l≠0)||decide (k8 (kA l)≠0)||decide (k8 (kA l)≠0)||decide (((wA l).length:Int)≠(km (kA l)).length)||decide (((wZ (kA l)).length:Int)≠(kC (kA l)).length)||decide (((vA l).length:Int)≠(qc l:Int))||decide (kX (vA l)+kX (qG l)+co l≠0)||decide (0<co l))=true:=g;rw[r,u,B.ll,B.lt,B.la,B.bal,zm (show¬0<co l by omega)] at g;simp at g;exfalso;have g:(x:Int)<(wZ (kA l)).length:=ja g;have a:x<(kC (kA l)).length:=(by omega);have q:(decide (wo l (qT l (x:Int))≠0)||decide (((qw l (x:Int)).length:Int)≠(vA l).length))=true:=q;rw[I x a,m x a,(B.pl x a).1,B.la] at q;simp at q;have g:(x:Int)<(wZ (kA l)).length:=ja g;have a:x<(kC (kA l)).length:=(by omega);have d:(y:Int)<(wA l).length:=ja d;have i:y<(wA l).length:=(by omega);have ln:=B.ln y i;have am:=B.am (x:Int) y (by omega);have s:=Gk (l:=wA l) (b:=(x:Int)) i;have f:(wA l).length<4611686018427387904:=f;have O:((y:Int)).toNat=y:=ju y;have M:kK (IB (nth (wA l) y)+IC (nth (wA l) y)):=iZ6;have N:kK (yN (wA l) (x:Int) y+(IB (nth (wA l) y)+IC (nth (wA l) y))):=iZ6;have G:kK ((y:Int)+1):=iZ6;have H:(wA l).length-(y+1)<(wA l).length-y:=(by omega);refine⟨jZ _,d,fun c=> ?_,fun c=> ?_⟩;have c:m0 (nth (wA l) y)=(x:Int):=ja c;rw[jd c] at s;exact⟨jZ _,d,jZ _,d,M,N,G,y+1,⟨⟨by simp,s.symm,tZ⟩,tZ⟩,i,H⟩;have c:¬m0 (nth (wA l) y)=(x:Int):=je c;rw[jc c] at s;exact⟨G,y+1,⟨⟨s.symm,by simp,tZ⟩,tZ⟩,i,H⟩;have g:(x:Int)<(wZ (kA l)).length:=ja g;have a:x<(kC (kA l)).length:=(by omega);have:=B.ps x a k;show kK (qP (qw l (x:Int)) k);rw[m x a];exact iZ6;exfalso;have g:(x:Int)<(wZ (kA l)).length:=ja g;have a:x<(kC (kA l)).length:=(by omega);have d:¬(y:Int)<(wA l).length:=je d;have v:y<=(wA l).length:=v;have e:y=(wA l).length:=(by omega);subst e;have c:kX (qw l (x:Int))≠yN (wA l) (x:Int) (wA l).length:=ja c;rw[m x a] at c;exact c (B.pl x a).2;have g:(x:Int)<(wZ (kA l)).length:=ja g;have a:x<(kC (kA l)).length:=(by omega);have n:(z:Int)<(qw l (x:Int)).length:=ja n;have F:(qw l (x:Int)).length=qc l:=(by rw[m x a];exact(B.pl x a).1);have pp:=B.pp x a z (by omega);rw[<-m x a] at pp;have w:(0:Int)<=(z:Int):=jZ z;refine⟨w,n,fun _=>w,fun _=>n,fun _=>jZ _,fun _=>g,fun _=>⟨w,by omega⟩,fun j=> ?_,fun _=>⟨iZ6,z+1,⟨⟨by simp,tZ⟩,tZ⟩,by show z+1<=(qw l (x:Int)).length;omega,by show(qw l (x:Int)).length-(z+1)<(qw l (x:Int)).length-z;omega⟩⟩;exfalso;have j:(decide (nth (qw l (x:Int)) z<0)||decide (0<nth (qw l (x:Int)) z)&& !qb (nth (wZ (kA l)) x) (z:Int))=true:=j;simp only[zy,ji,jr,jP] at j;rcases j with j|⟨j,D⟩;omega;rw[pp.2 j] at D;cases D;have g:(x:Int)<(wZ (kA l)).length:=ja g;have o:(wZ (kA l)).length<4611686018427387904:=o;exact⟨iZ6,x+1,⟨⟨by simp,tZ⟩,tZ⟩,by show x+1<=(wZ (kA l)).length;omega,by show(wZ (kA l)).length-(x+1)<(wZ (kA l)).length-x;omega⟩;have d:(y:Int)<(qG l).length:=ja d;have f:(qG l).length<4611686018427387904:=f;have ng:=B.ng y (by omega);refine⟨jZ _,d,fun c=> ?_,fun _=>⟨iZ6,y+1,⟨⟨by simp,tZ⟩,tZ⟩,by show y+1<=(qG l).length;omega,by show(qG l).length-(y+1)<(qG l).length-y;omega⟩⟩;exfalso;have c:0<nth (qG l) y:=ja c;omega
theorem PW:wq PR 5 s7:=vN s8 uT Tryz.func5 (kcC Om (kcC On (kcC Il (kcC R2 (kcC F7 (kcC Dn (kcC V1 (kcC PV (kcC UK kcN))))))))) koN
open Go.Proofs Go.Proofs.YtjmbjgjcdklgdaaGreatDoor
noncomputable def Yd:Array Field:=match Tryz.prog.underlying 60 with|some (.struct fs)=>fs|_=> #[]
theorem jck:Tryz.prog.globalNamed "handshape/rosters.some"=some 0:=by kernel_rfl
theorem jcm:(Tryz.prog.globals[0]?).map (·.type)=some 60:=by kernel_rfl
theorem jdV:Tryz.prog.underlying 60=some (.struct Yd):=by kernel_rfl
theorem jdW:Tryz.prog.underlying 3=some (.int .i64):=by kernel_rfl
theorem jdX:Tryz.prog.cellsOf 3=1:=by kernel_rfl
noncomputable def cZ (i:Nat):Bool:=match Yd[i]? with|some f=>Nat.beq f.type 3&&Nat.beq f.offset i|none=>false
theorem fields:(cZ 0&&cZ 1&&cZ 2&&cZ 3&&cZ 4&&cZ 5)=true:=by kernel_rfl
theorem Ye {i:Nat} (h:cZ i=true):∃f,Yd[i]? =some f/\f.type=3/\f.offset=i:=by
 unfold cZ at h
 split at h
 rename_i f a;rw[ji] at h;exact⟨f,a,jb h.1,jb h.2⟩;cases h
theorem Yf {H:Type} {enc:TypeId×Value->H} {w:World} {base:Nat} {sp:Nat->Bool} {a:Bool} {n:Nat} {cs:List Value} {xs:List (DataW H×List MemPlace)} {d:List Int} (o:xs.map (·.1)=d.map fun z=>(DataW.lit (.int .i64 z):DataW H))
 (k:∀(i:Nat) (f:Field),Yd[i]? =some f->DataW.trod enc Tryz.prog w base sp a n f.type ((cs.drop f.offset).take (Tryz.prog.cellsOf f.type))=xs[i]?) {i:Nat} {z:Int} (hi:cZ i=true) (q:d[i]? =some z):cs[i]? =some (.int .i64 z):=by
 obtain⟨f,g,h,j⟩:=Ye hi;have b:=k i f g;rw[h,j,jdX] at b;have c:(xs.map (·.1))[i]? =some (DataW.lit (.int .i64 z):DataW H):=(by rw[o,zW,q];rfl);rw[zW] at c;obtain⟨y,p,e⟩:=kk.1 c;rw[p] at b;obtain⟨m,l,rfl,_⟩:=DataW.trod_int jdW b;have e:m=z:=by
  have e:(DataW.lit (.int .i64 m):DataW H)=DataW.lit (.int .i64 z):=e;simpa only[DataW.lit.injEq,Lit.int.injEq,true_and] using e
 subst e;have:=jN (·[0]?) l;simpa[zR,zh] using this
theorem jdh {W:World} (h:laidMet Tryz.prog [("handshape/rosters.some",Rows.laid_handshape_rosters_some)] W):Zn (Hof W):=by
 obtain⟨ps,⟨H,E,cs,k,p,q,d,f,a,A,_,_⟩,_⟩:=h;obtain rfl:=Option.some.inj (jck.symm.trans d);obtain rfl:=Option.some.inj (jcm.symm.trans f);obtain⟨xs,n,_,C,I,l,B⟩:=DataW.trod_struct jdV A;have j:xs.map (·.1)=[0,1,0,0,0,1].map fun z=>(DataW.lit (.int .i64 z):DataW Unit):=by
  have e:=jN Prod.fst C;have e:(DataW.agg [.lit (.int .i64 0),.lit (.int .i64 1),.lit (.int .i64 0),.lit (.int .i64 0),.lit (.int .i64 0),.lit (.int .i64 1)]:DataW Unit)= .agg (xs.map (·.1)):=e;simp only[DataW.agg.injEq] at e;exact e.symm
 have fs:=fields;simp only[ji] at fs;obtain⟨⟨⟨⟨⟨o,r⟩,s⟩,u⟩,v⟩,w⟩:=fs;have c:∀{i:Nat} {z:Int},cZ i=true->([0,1,0,0,0,1]:List Int)[i]? =some z->cs[i]? =some (.int .i64 z):=fun hi D=>by
  have:=Yf j B hi D;simpa using this
 unfold World.var? at a;rw[jck] at a;intro g x b;have b:kR [(0,(⟨.st [.int,.int,.int,.int,.int,.int],((0:Int),(1:Int),(0:Int),(0:Int),(0:Int),(1:Int),())⟩:(t:Ty)×t.Data))] g=some x:=b;have y:Hof W 0=some (.cells cs):=by
  unfold Hof;simp only[Option.bind_some] at a
  split at a
  rename_i F E G e;rw[e];have:=Option.some.inj a;rw[this];cases a
 have m:=wS _ _ _ b;simp only[List.mem_singleton,Prod.mk.injEq] at m;obtain⟨rfl,rfl⟩:=m;exact⟨cs,y,c o rfl,c r rfl,c s rfl,c u rfl,c v rfl,c w rfl,tZ⟩
end Go.X
