/-
  Part 6 of the road: a checked reading of bodies, and what the functions on it do (X25 X26 C5 PC15 VD VM VB V1 PV1 VE0 VE1 VE2 V3 PV3 O7 V5 PV5 V6 PV6 VBO DQ MQ LQ AQ NQ VQ1 PQ1 PR1 VQ2 PQ2 PQ3 V4 PV4 V7 PV7 V8S V8 PV8 V9 PV9 VW1 PW1 PW4 VW2 PW2 VW3 PW3 LW).
-/
import Derived.Test.YtacjhnpgiklpdaaGreatDoorK05
import Derived.Test.YtacjhnpgiklpdaaGreatDoorRows
import Derived.WalkKit
import Derived.ProofKit
import Derived.OpenShut
import Derived.JoinedCond
import Derived.Carry
import Derived.ChangeArms
import Derived.Shelf.SlSortCmp.WholeK
import Derived.Test.YtacjhnpgiklpdaaGreatDoorProg
import Derived.Test.YtacjhnpgiklpdaaGreatDoorCards
import Derived.Test.YtacjhnpgiklpdaaGreatDoorTie
import Derived.Deep.DeepHandedRow
import Derived.Lib.LaidTab
namespace Go.X
open U
open Go.RowKit (Below)
open Go.Proofs.YtacjhnpgiklpdaaGreatDoor
def Hof (w:World):Imm:=fun b=>match w.heap[b]? with|some (.cells c _ _)=>some (.cells c)|_=>none
theorem Yk (w:World) (d:ZR (Hof w)):fo (Hof w) w:=by
 refine⟨fun b c h=> ?_,d⟩;unfold Hof at h
 split at h
 rename_i f T a e;simp at h;subst h;exact⟨T,a,e⟩;cases h
def Ty.fits (N:Nat):(t:Ty)->t.Data->Prop
 | .int,x=>wn x
 | .bool,_=>True
 | .uint k,x=>k.min<=x/\x<=k.max
 | .slice t,l=>l.length<=N/\∀x∈l,t.fits N x
 | .unit,_=>True
 | .pair a b,d=>a.fits N d.1/\b.fits N d.2
 | .map k v,l=>l.length<=N/\∀x∈l,k.fits N x.1/\v.fits N x.2
 | .ptr t,d=>∀x,d=some x->t.fits N x
theorem Ty.fits_mono {N M:Nat} (h:N<=M):∀(t:Ty) (d:t.Data),t.fits N d->t.fits M d
 | .int,_,k=>k
 | .bool,_,k=>k
 | .uint _,_,k=>k
 | .unit,_,k=>k
 | .slice t,_,k=>⟨jD k.1 h,fun x c=>t.fits_mono h x (k.2 x c)⟩
 | .pair a b,_,k=>⟨a.fits_mono h _ k.1,b.fits_mono h _ k.2⟩
 | .map k v,_,q=>⟨jD q.1 h,fun x c=>⟨k.fits_mono h _ (q.2 x c).1,v.fits_mono h _ (q.2 x c).2⟩⟩
 | .ptr t,_,k=>fun x c=>t.fits_mono h x (k x c)
def jcx (P:Program) (go:Nat->Ty->Bool):List Field->Nat->Ty->Bool
 |[],_,.unit=>true
 |f::fs,off,.pair a b=>Nat.beq f.offset off&&Nat.beq (P.cellsOf f.type) a.size&&go f.type a&&jcx P go fs (off+a.size) b
 |_,_,_=>false
def ja1 (P:Program):Nat->Nat->Ty->Bool
 |0,_,_=>false
 |d+1,T,ty=>match ty,P.underlying T with
  | .int,some (.int .i64)=>true
  | .bool,some .bool=>true
  | .uint k,some (.int k')=>fR k k'
  | .slice t,some (.slice e)=>Nat.beq (P.cellsOf e) t.size&&Nat.ble 1 t.size&&ja1 P d e t
  | .pair a b,some (.struct fs)=>Nat.beq (P.cellsOf T) (Ty.pair a b).size&&jcx P (ja1 P d) fs.toList 0 (.pair a b)
  |_,_=>false
section
variable {P:Program} {K:Type} {enc:TypeId×Value->K} {w:World}
theorem jcy (d:DataW K):1<=Rows.uptoBulk d:=by
 cases d with
 |lit l=>cases l<;>simp[Rows.uptoBulk]
 |_=>simp[Rows.uptoBulk]
theorem KF (l:List (DataW K)):l.length<=Rows.uptoBulkAll l:=by
 induction l with
 |nil=>simp[Rows.uptoBulkAll]
 |cons x r a=>have:=jcy x;simp only[Rows.uptoBulkAll,j6];omega
theorem ja2 {d:DataW K} {l:List (DataW K)} (h:d∈l):Rows.uptoBulk d<=Rows.uptoBulkAll l:=by
 induction l with
 |nil=>cases h
 |cons x r a=>
  simp only[Rows.uptoBulkAll];cases jk.1 h with
  |inl e=>subst e;omega
  |inr e=>have:=a e;omega
theorem VK {α:Type} {Q:Nat->α->Prop}:∀(n:Nat),(∀i,i<n->∃y,Q i y)->∃l:List α,l.length=n/\∀i y,l[i]? =some y->Q i y
 |0,_=>⟨[],rfl,fun i y h=>by simp at h⟩
 |n+1,h=>by
  obtain⟨l,b,c⟩:=VK n (fun i hi=>h i (by omega))
  obtain⟨y,d⟩:=h n (by omega)
  refine⟨l++[y],by simp[b],fun i z a=> ?_⟩
  by_cases hi:i<l.length
  rw[jA hi] at a;exact c i z a
  rw[jx (by omega)] at a
  have:i=n:=by
   by_cases e:i-l.length=0;omega;obtain⟨k,hk⟩:∃k,i-l.length=k+1:=⟨i-l.length-1,by omega⟩;rw[hk] at a;simp at a
  subst this;rw[<-b] at a;simp at a;subst a;exact d
def jcz (P:Program) (w:World) (enc:TypeId×Value->K) (T:Nat) (ty:Ty):Prop:=
 ∀(a:Nat) (cs:List Value) (x:DataW K×List MemPlace),DataW.trod enc P w 0 (fun _=>true) true a T cs=some x->Rows.uptoBulk x.1<=1048576->
  ∃d:ty.Data,ty.rd (Hof w) (fun i=>cs[i]?) d/\cs.length=ty.size/\ty.fits (Rows.uptoBulk x.1) d
theorem jcA {n:Int} (h:(Lit.int .i64 n).wf=true):wn n:=by
 simp[Lit.wf,IntKind.min,IntKind.max,IntKind.signed,IntKind.bits] at h;exact h
theorem xg {go:Nat->Ty->Bool} (c:∀T ty,go T ty=true->jcz P w enc T ty) {n:Nat} {cs:List Value}:
 ∀(fs:List Field) (off:Nat) (ty:Ty) (xs:List (DataW K×List MemPlace)),jcx P go fs off ty=true->xs.length=fs.length->
  (∀(i:Nat) (f:Field),fs[i]? =some f->DataW.trod enc P w 0 (fun _=>true) true n f.type ((cs.drop f.offset).take (P.cellsOf f.type))=xs[i]?)->Rows.uptoBulkAll (xs.map (·.1))<=1048576->
  ∃d:ty.Data,ty.rd (Hof w) (fun i=>cs[off+i]?) d/\ty.fits (Rows.uptoBulkAll (xs.map (·.1))) d
 |[],off,ty,xs,h,g,e,j=>by
  cases ty<;>simp[jcx] at h
  exact⟨(),trivial,trivial⟩
 |f::fs,off,ty,[],h,g,e,j=>by simp at g
 |f::fs,off,ty,x::xs,h,g,e,j=>by
  cases ty<;>simp[jcx] at h
  rename_i a b
  obtain⟨⟨⟨q,v⟩,r⟩,s⟩:=h
  simp only[zx,Rows.uptoBulkAll] at j
  have k:=e 0 f (by simp)
  simp only[List.getElem?_cons_zero] at k
  obtain⟨d,t,y,u⟩:=c _ _ r _ _ _ k (by omega)
  obtain⟨l,o,p⟩:=xg c fs (off+a.size) b xs s (by simpa using g) (fun i m hi=>by simpa using e (i+1) m (by simpa using hi)) (by omega)
  refine⟨(d,l),⟨?_,?_⟩,?_,?_⟩
  refine Ty.rd_congr a _ _ _ (fun i hi=> ?_) t
  rw[jP (by omega),zi,q]
  refine Ty.rd_congr b _ _ _ (fun i hi=> ?_) o
  rw[zL]
  exact a.fits_mono (by simp[Rows.uptoBulkAll]) _ u
  exact b.fits_mono (by simp[Rows.uptoBulkAll]) _ p
theorem pG:∀(d T:Nat) (ty:Ty),ja1 P d T ty=true->jcz P w enc T ty
 |0,_,_,h=>by cases h
 |d+1,T,ty,h=>by
  intro fuel cs x B r
  unfold ja1 at h
  split at h
  rename_i u
  obtain⟨n,rfl,rfl,H⟩:=DataW.trod_int u B
  exact⟨n,rfl,rfl,jcA H⟩
  rename_i u
  obtain⟨b,rfl,rfl⟩:=DataW.trod_bool u B
  exact⟨b,rfl,rfl,trivial⟩
  rename_i k k' u
  obtain⟨n,rfl,rfl,H⟩:=DataW.trod_int u B
  have:k=k':=by simpa[fR] using h
  subst this
  refine⟨n,rfl,rfl,?_⟩
  simp[Lit.wf] at H
  exact H
  rename_i t e u
  simp only[ji] at h
  obtain⟨⟨L,M⟩,h3⟩:=h
  have e1:=jb L
  have e2:=jz M
  rcases DataW.trod_slice u B with⟨rfl,rfl⟩|⟨a,len,J,bX,rest,n,_,rfl,rfl,hb,hl,hm,A,D,_,_⟩
  refine⟨[],⟨none,0,0,rfl,rfl,jj _,by simp,fun _=>rfl,fun h=>absurd rfl h⟩,rfl,by simp,fun x B=>by simp at B⟩
  simp only[Rows.uptoBulk] at r
  have key:∀i,i<len->∃y:t.Data,(∃blk,Hof w a.block=some (.cells blk)/\a.spot=none/\t.rd (Hof w) (fun j=>blk[a.off+i*t.size+j]?) y)/\t.fits (Rows.uptoBulkAll (bX.map (·.1))) y:=by
   intro i hi;have h0:=D i hi;have X:bX[i]? =some bX[i]:=ju (by omega);rw[X,Option.bind_eq_some_iff] at h0;obtain⟨cl,c1,c2⟩:=h0;have Q:Rows.uptoBulk bX[i].1<=Rows.uptoBulkAll (bX.map (·.1)):=ja2 (jZ.2 ⟨bX[i],kN _,rfl⟩);obtain⟨y,y1,y2,y3⟩:=pG d e t h3 _ _ _ c2 (by omega);unfold World.cells? at c1;rw[je (jp _),e1] at c1;have z:∀j,j<t.size->w.cell? ((a.add (i*t.size)).add j)=cl[j]? :=fun j O=>by
    have:=mapM_some_get c1 j j (by simp[O]);simpa using this
   have N:cl.length=t.size:=(by simpa using mapM_some_length c1);have I:=z 0 (by omega);have g:cl[0]?≠none:=(by rw[ju (by omega)];simp);rw[<-I] at g;have m:∃blk T G,w.heap[a.block]? =some (.cells blk T G):=by
    unfold World.cell? at g;have q:((a.add (i*t.size)).add 0).block=a.block:=by unfold Addr.add;simp;split<;>rfl
    rw[q] at g
    split at g
    rename_i c T G e;exact⟨c,T,G,e⟩;exact absurd rfl g
   obtain⟨blk,T',G,m⟩:=m;have p:((a.add (i*t.size)).add 0).spot=none:=by
    unfold World.cell? at g;have q:((a.add (i*t.size)).add 0).block=a.block:=by unfold Addr.add;simp;split<;>rfl
    rw[q,m] at g;simp only at g;cases R:((a.add (i*t.size)).add 0).spot with
    |none=>rfl
    |some s=>rw[R] at g;simp at g
   have hH:Hof w a.block=some (.cells blk):=(by unfold Hof;rw[m]);refine⟨y,⟨blk,hH,?_,?_⟩,t.fits_mono Q _ y3⟩
   --the first element shows that the address is plain
   have C:=D 0 (by omega);have W:bX[0]? =some bX[0]:=ju (by omega);rw[W,Option.bind_eq_some_iff] at C;obtain⟨K,F,_⟩:=C;unfold World.cells? at F;rw[je (jp _),e1] at F;have v:=mapM_some_get F 0 0 (by rw[kA (by omega)]);have hl0:K.length=t.size:=(by simpa using mapM_some_length F);rw[ju (by omega)] at v;simp only[kH] at v;have ea:(a.add 0).add 0=a:=(by unfold Addr.add;simp);rw[ea] at v;unfold World.cell? at v;rw[m] at v;simp only at v;cases R:a.spot with
   |none=>rfl
   |some s=>rw[R] at v;simp at v
   refine Ty.rd_congr t _ _ _ (fun j O=> ?_) y1;rw[<-z j O];unfold World.cell?;have q:((a.add (i*t.size)).add j).block=a.block:=by unfold Addr.add;split<;>split<;>rfl
   have E:((a.add (i*t.size)).add j).off=a.off+i*t.size+j:=by
    unfold Addr.add;split<;>split<;>simp_all
   have V:((a.add (i*t.size)).add j).spot=none:=by
    have S:(a.add (i*t.size)).spot=none:=by
     have:(a.add (i*t.size)).add 0=a.add (i*t.size):=(by simp[Addr.add]);rw[this] at p;exact p
    unfold Addr.add at S⊢
    split<;>split<;>simp_all
   rw[q,m,E,V];simp
  obtain⟨l,l1,l2⟩:=VK len key;refine⟨l,⟨some a,len,J,rfl,l1.symm,hl,?_,(fun h=>by cases h),fun g=> ?_⟩,rfl,?_,?_⟩;have:=KF (bX.map (·.1));simp at this;omega;have hz:0<l.length:=kS.2 g;obtain⟨blk,q1,q2,_⟩:=(l2 0 l[0] (ju hz)).1;refine⟨a.block,a.off,blk,?_,q1,fun i y Z=> ?_⟩;rcases a with⟨b,o,s⟩;simp only at q2;subst q2;rfl;obtain⟨blk',q3,_,q4⟩:=(l2 i y Z).1;rw[q1] at q3;simp at q3;subst q3;exact q4;simp only[Rows.uptoBulk];have:=KF (bX.map (·.1));simp at this;omega;intro y Z;obtain⟨i,hi⟩:=zS Z;exact t.fits_mono (by simp only[Rows.uptoBulk];omega) _ (l2 i y hi).2;rename_i a b fs u;simp only[ji] at h;obtain⟨L,M⟩:=h;obtain⟨xs,n,_,rfl,A,Y,hf⟩:=DataW.trod_struct u B;simp only[Rows.uptoBulk] at r;obtain⟨y,y1,y2⟩:=xg (fun T ty h=>pG d T ty h) (n:=n) (cs:=cs) fs.toList 0 (.pair a b) xs M (by simpa using Y) (fun i f hi=>hf i f (by simpa using hi)) (by omega);refine⟨y,by simpa using y1,by rw[A];exact jb L,?_⟩;exact Ty.fits_mono (by simp only[Rows.uptoBulk];omega) (.pair a b) _ y2;cases h
end
end Go.X
namespace Go.X
open U
open Go.RowKit (Below)
open Go.ChangeShapes Go.WideShapes Go.ChangeAt Go.RowKit
open Go.Proofs.YtacjhnpgiklpdaaGreatDoor
def HH (N:Nat):(ts:List Ty)->PD (ts.map Par.val)->Prop
 |[],_=>True
 |t::ts,d=>t.fits N d.1/\HH N ts d.2
def VL (ts:List Ty):wO:=⟨ts.map Par.val,[.bool],false,fun d=>[HH 1048576 ts d],fun _=>(true,())⟩
def xh (P:Program):List Nat->List Ty->Bool
 |[],[]=>true
 |T::Ts,t::ts=>ja1 P 20 T t&&(P.readableRec T&&decide (T<P.types.size))&&xh P Ts ts
 |_,_=>false
section
variable {P:Program} {K:Type} {enc:TypeId×Value->K} {W W':World}
theorem sK (j:laidOutB P=true) (i:Below W.heap.size W W'):∀(a:List Nat) (ts:List Ty) (vs:List Value) (ds:List (DataW K)) (ps:List MemPlace),xh P a ts=true->
 DataW.TrodAll enc P W 0 (fun _=>true) true a vs ds ps->(∀x∈ps,x.block<W.heap.size)->DataW.TrodAll enc P W' 0 (fun b=>decide (b<W.heap.size)) true a vs ds ps
 |[],ts,vs,ds,ps,_,h,_=>by
  obtain⟨rfl,rfl,rfl⟩:=trodAll_nil h
  exact trodAll_mk0
 |T::a,[],vs,ds,ps,c,_,_=>by cases c
 |T::a,t::ts,vs,ds,ps,c,h,hlt=>by
  obtain⟨v,g,d,e,p,q,rfl,rfl,rfl,n,o⟩:=trodAll_cons h
  simp only[xh,ji] at c
  obtain⟨⟨_,k,l⟩,m⟩:=c
  exact trodAll_cons_mk (Below.trod j k (ja l) n i (fun x f=>hlt x (jh _ f)))
   (sK j i a ts g e q m o (fun x f=>hlt x (jg _ f)))
theorem ja3 {T:Nat} {t:Ty} {r:Reach} {c:Nat} {v:Value} (h:ja1 P 20 T t=true) (b:Value.okWide P W r c T v):vZ v=t.agg:=by
 unfold ja1 at h
 split at h
 rename_i a;obtain⟨n,rfl⟩:=okWide_int a b;rfl;rename_i a;obtain⟨n,rfl⟩:=okWide_bool a b;rfl;rename_i a;obtain⟨n,rfl⟩:=okWide_int a b;rfl;rename_i a;unfold Value.okWide at b;rw[a] at b;simp only[Cell.okWide,a] at b;cases v with
 |agg vs=>simp[Cell.ok,a] at b
 |_=>rfl
 rename_i a;unfold Value.okWide at b;rw[a] at b;obtain⟨cs,rfl,_⟩:=b;rfl;cases h
theorem Zp {r:Reach} {l:Nat}:∀(a:List Nat) (ts:List Ty) (vs:List Value) (ds:List (DataW K)) (ps:List MemPlace),xh P a ts=true->
 DataW.TrodAll enc P W 0 (fun _=>true) true a vs ds ps->(∀(j:Nat) t v,a[j]? =some t->vs[j]? =some v->Value.okWide P W r l t v)->Rows.uptoBulkAll ds<=1048576->
 ∃d:PD (ts.map Par.val),pvs P (Hof W) (ts.map Par.val) vs d/\HH 1048576 ts d
 |[],ts,vs,ds,ps,b,h,_,_=>by
  obtain⟨rfl,rfl,rfl⟩:=trodAll_nil h
  cases ts with
  |nil=>exact⟨(),rfl,trivial⟩
  |cons t ts=>cases b
 |T::a,[],vs,ds,ps,b,_,_,_=>by cases b
 |T::a,t::ts,vs,ds,ps,b,h,hv,hb=>by
  obtain⟨v,g,d,e,p,q,rfl,rfl,rfl,n,o⟩:=trodAll_cons h
  simp only[xh,ji] at b
  obtain⟨⟨k,_⟩,m⟩:=b
  simp only[Rows.uptoBulkAll] at hb
  obtain⟨c,s⟩:=n
  obtain⟨x,w,z,A⟩:=pG 20 T t k c _ _ s (by simp only;omega)
  obtain⟨y,B,C⟩:=Zp a ts g e q m o (fun j t v u f=>hv (j+1) t v (by simpa using u) (by simpa using f)) (by omega)
  refine⟨(x,y),⟨⟨ja3 k (hv 0 T v rfl rfl),by simpa using z,?_⟩,B⟩,Ty.fits_mono (by simp only;omega) t x A,C⟩
  refine Ty.rd_congr t _ _ _ (fun i _=> ?_) w
  simp
theorem pH:∀(a:List Nat) (ts:List Ty) (vs:List Value) (ds:List (DataW K)) (ps:List MemPlace),xh P a ts=true->DataW.TrodAll enc P W 0 (fun _=>true) true a vs ds ps->ds.length=ts.length:=by
 intro a
 induction a with
 |nil=>intro ts vs ds ps b h;obtain⟨rfl,rfl,rfl⟩:=trodAll_nil h;cases ts with|nil=>rfl|cons=>cases b
 |cons T a g=>intro ts vs ds ps b h;cases ts with
  |nil=>cases b
  |cons t ts=>
   obtain⟨v,e,d,c,p,q,rfl,rfl,rfl,i,f⟩:=trodAll_cons h;simp only[xh,ji] at b;simp[g ts e c q b.2 f]
theorem Zq {f:Nat} {fn:Func} {s:ChangeSpec} {ts:List Ty} (I:laidOutB P=true) (k:xh P fn.params.toList ts=true) (L:fn.resultTypes= #[4]) (D:P.underlying 4=some .bool)
 (a:s.vars=[]) (m:∀(ds:List (DataW K)),ds.length=ts.length->s.fn K (ds++[])={results:=[.lit (.bool true)],args:=ds})
 (G:wX P f (VL ts)) (base:Nat) (args:Array Value) (ds o:List (DataW K)) (before:List MemPlace)
 (l:∀(j:Nat) t v,fn.params[j]? =some t->args[j]? =some v->Value.okWide P W .any base t v)
 (w:DataW.Whole enc P fn.params.toList s.vars false W args.toList ds o before) (hk:Rows.uptoSmall K (ds++o)=true) (E:ZR (Hof W)):
 Calls P f args W fun e W'=>∃v,e= .returned v/\s.post enc P fn false true false false W args v W':=by
 have b:=w;obtain⟨p,q,i,u,rfl,H,J⟩:=w;rw[a] at u;obtain⟨rfl,rfl⟩:=trodVars_none u;simp only[j8] at b hk;have c:Rows.uptoBulkAll ds<=1048576:=ja hk;have g:∀(j:Nat) t v,fn.params.toList[j]? =some t->args.toList[j]? =some v->Value.okWide P W .any base t v:=fun j t v B C=>l j t v (by simpa using B) (by simpa using C)
 obtain⟨d,z,A⟩:=Zp fn.params.toList ts args.toList ds p k i g c;have y:=G.calls (Hof W) W args.toList d (Yk W E) z ⟨A,trivial⟩;simp only[Array.toArray_toList] at y;refine y.mono fun e W' F=> ?_
 obtain⟨v,H',rfl,r,M⟩:=F;have n:v= .bool true:=qW M;subst n;refine⟨_,rfl,ds,[],p,[],p,[],b,?_,?_,?_,r.below.frame _,fun h=>by cases h⟩;rw[m ds ?_,L];exact trodAll_cons_mk (shut_bool D _) trodAll_mk0;exact pH _ _ _ _ _ k i;rw[m ds ?_];exact sK I r.below _ ts _ _ _ k i (fun x N=>by simpa using b.lt x N);exact pH _ _ _ _ _ k i;rw[a,m ds ?_];rfl;exact pH _ _ _ _ _ k i
end
end Go.X
namespace Go.X
open U
open Go.Proofs
namespace U
def jdL (p:PeD):Prop:=(lv p).length<=20/\(qT p).length<=30
def OQ (c:CrD):Prop:=(wd c).length<=20/\(yB c).length<=20/\∀p∈wd c,jdL p
def OR (d:DyD):Prop:=OQ (wj d)/\(wY d).length<=20/\(wm d).length<=20/\(w4 d).length<=60/\∀r∈wY d,r.length<=20
def Lk (p:PeD):Bool:=decide (20<((lv p).length:Int))||decide (30<((qT p).length:Int))
def lk (c:CrD):Bool:=(decide (20<((wd c).length:Int))||decide (20<((yB c).length:Int)))||((wd c).any Lk||(wo c&&decide (5<((wd c).length:Int))))
def Ll (r:List SpD):Bool:=decide (20<(r.length:Int))
def cx (d:DyD):Bool:=(((lk (wj d)||decide (20<((wY d).length:Int)))||decide (20<((wm d).length:Int)))||decide (60<((w4 d).length:Int)))||(wY d).any Ll
def Im (d:DyD):Bool:=cx d||(decide (gQ d=0)&&decide (12<((w4 d).length:Int)))
def jd4:CrD:=(3,[([5,4,0],3,15,[],false,50,()),([0,5,3],3,15,[],true,40,()),([4,0,4],1,3,[7],false,30,()),([3,3,3],255,1,[],false,10,())],[(2,1,false,()),(4,2,false,()),(3,2,true,()),(5,1,false,())],())
def WR:List JbD:=[(0,2,7,1,2,1,()),(0,2,3,0,0,1,()),(0,2,7,1,1,1,())]
def jd5:DyD:=(jd4,[[(0,0,()),(10,20,())],[(10,25,()),(0,0,())]],[((0,2,3,0,0,1,()),0,60,120,()),((0,2,3,1,0,1,()),1,150,200,()),((0,2,7,1,2,1,()),0,230,300,())],10,140,
 [(1,5,1,0,3,()),(2,6,1,1,3,()),(3,4,1,2,2,()),(4,7,1,2,0,()),(5,8,1,2,1,()),(6,9,1,0,2,()),(7,10,2,0,2,())],())
end U
abbrev jeY (d:CrD×Unit)(x:Nat):=(nth d.1.2.1 (x:Int).toNat)
def R6:Prop:=∀(d:CrD×Unit),OQ d.1->(0+d.1.2.2.1.length)*24<=140737488355328/\(∃(x:Nat),((0=(x:Int)/\True)/\(d.1.1=d.1.1/\True/\True/\True)/\List.take x (wd d.1)=[]/\True)/\x<=(wd d.1).length)/\∀(x:Nat),x<=(wd d.1).length->d.1.2.1.length<4611686018427387904->(decide ((x:Int)<d.1.2.1.length)=true->0<=(x:Int)/\(x:Int)<d.1.2.1.length/\(0+(jeY d x).1.length)*8<=140737488355328/\(0+(jeY d x).2.2.2.1.length)*8<=140737488355328/\((List.take x (wd d.1)).length+[([]++(jeY d x).1,(jeY d x).2.1,(jeY d x).2.2.1,[]++(jeY d x).2.2.2.1,(jeY d x).q4)].length)*80<=140737488355328/\wn ((x:Int)+1)/\∃(a:Nat),(((x:Int)+1=(a:Int)/\True)/\(d.1.1=d.1.1/\True/\True/\True)/\List.take x (wd d.1)++[([]++(jeY d x).1,(jeY d x).2.1,(jeY d x).2.2.1,[]++(jeY d x).2.2.2.1,(jeY d x).q4)]=List.take a (wd d.1)/\True)/\a<=(wd d.1).length/\(wd d.1).length-a<(wd d.1).length-x)/\(decide ((x:Int)<d.1.2.1.length)=false->((d.1.1,List.take x (wd d.1),[]++d.1.2.2.1,()),())=d)
abbrev jiD (d:DyD×Unit):=(d.1.1.1=d.1.1.1/\d.1.1.2.1=d.1.1.2.1/\d.1.1.2.2.1=d.1.1.2.2.1/\True/\d.1.2.2.1=d.1.2.2.1/\d.1.2.2.2.1=d.1.2.2.2.1/\d.1.q4.1=d.1.q4.1/\d.1.q4.2.1=d.1.q4.2.1/\True)
def R7:Prop:=∀(d:DyD×Unit),OR d.1->OQ d.1.1/\(∃(x:Nat),((0=(x:Int)/\True)/\(jiD d)/\List.take x (wY d.1)=[]/\True)/\x<=(wY d.1).length)/\∀(x:Nat),x<=(wY d.1).length->d.1.2.1.length<4611686018427387904->(decide ((x:Int)<d.1.2.1.length)=true->0<=(x:Int)/\(x:Int)<d.1.2.1.length/\(0+(nth d.1.2.1 (x:Int).toNat).length)*16<=140737488355328/\((List.take x (wY d.1)).length+[[]++nth d.1.2.1 (x:Int).toNat].length)*24<=140737488355328/\wn ((x:Int)+1)/\∃(a:Nat),(((x:Int)+1=(a:Int)/\True)/\(jiD d)/\List.take x (wY d.1)++[[]++nth d.1.2.1 (x:Int).toNat]=List.take a (wY d.1)/\True)/\a<=(wY d.1).length/\(wY d.1).length-a<(wY d.1).length-x)/\(decide ((x:Int)<d.1.2.1.length)=false->(0+d.1.2.2.1.length)*72<=140737488355328/\(0+d.1.q4.2.1.length)*40<=140737488355328/\((d.1.1,List.take x (wY d.1),[]++d.1.2.2.1,d.1.2.2.2.1,d.1.q4.1,[]++d.1.q4.2.1,()),())=d)
def VM:wO:=⟨[.val tCr],[.bool],false,fun _=>[],fun d=>(lk d.1,())⟩
def VN:Ann:=fun r=>match r with
 |4=>some fun σ=>{X:=Nat,sl:=fun i=>[(3,.dat .int (i:Int))],ob:=fun _=>[],inv:=fun i=>i<=(wd (gb tCr σ 1)).length/\∀j:Nat,j<i->Lk (nth (wd (gb tCr σ 1)) j)=false,mu:=fun i=>(wd (gb tCr σ 1)).length-i}
 |_=>none
abbrev jhe (d:CrD×Unit)(x:Nat):=((20:Int)<(nth d.1.2.1 (x:Int).toNat).1.length)
abbrev jfV (d:CrD×Unit):=(d.1.2.1.length:Int)
abbrev jiE (d:CrD×Unit)(x:Nat):=(decide (jhe d x)||decide ((30:Int)<(nth d.1.2.1 (x:Int).toNat).2.2.2.1.length))
abbrev jiF (d:CrD×Unit):=(decide (20<(jfV d))||decide (20<(d.1.2.2.1.length:Int)))
def VO:Prop:=∀(d:CrD×Unit),d.1.2.1.length<4611686018427387904->((!decide (20<(jfV d)))=true->d.1.2.2.1.length<4611686018427387904)->((jiF d)=true->(true,())=(lk d.1,()))/\((jiF d)=false->(∃(x:Nat),((0=(x:Int)/\True)/\True)/\x<=(wd d.1).length/\∀(j:Nat),j<x->Lk (nth (wd d.1) j)=false)/\∀(x:Nat),(x<=(wd d.1).length/\∀(j:Nat),j<x->Lk (nth (wd d.1) j)=false)->d.1.2.1.length<4611686018427387904->(decide ((x:Int)<(jfV d))=true->0<=(x:Int)/\(x:Int)<(jfV d)/\((nth d.1.2.1 (x:Int).toNat).1.length<4611686018427387904->((!decide (jhe d x))=true->0<=(x:Int))/\((!decide (jhe d x))=true->(x:Int)<(jfV d))/\(((!decide (jhe d x))=true->(nth d.1.2.1 (x:Int).toNat).2.2.2.1.length<4611686018427387904)->((jiE d x)=true->(true,())=(lk d.1,()))/\((jiE d x)=false->wn ((x:Int)+1)/\∃(a:Nat),(((x:Int)+1=(a:Int)/\True)/\True)/\(a<=(wd d.1).length/\∀(j:Nat),j<a->Lk (nth (wd d.1) j)=false)/\(wd d.1).length-a<(wd d.1).length-x))))/\(decide ((x:Int)<(jfV d))=false->(wo d.1=true->d.1.2.1.length<4611686018427387904)->(wo d.1&&decide (5<(jfV d)),())=(lk d.1,())))
def R8:wO:=⟨[.val tDy],[.bool],false,fun _=>[],fun d=>(cx d.1,())⟩
def R9:Ann:=fun r=>match r with
 |4=>some fun σ=>{X:=Nat,sl:=fun i=>[(3,.dat .int (i:Int))],ob:=fun _=>[],inv:=fun i=>i<=(wY (gb tDy σ 1)).length/\∀j:Nat,j<i->Ll (nth (wY (gb tDy σ 1)) j)=false,mu:=fun i=>(wY (gb tDy σ 1)).length-i}
 |_=>none
abbrev jgh (d:DyD×Unit):=(d.1.2.1.length:Int)
abbrev jiG (d:DyD×Unit):=(lk d.1.1||decide (20<(jgh d))||decide (20<(d.1.2.2.1.length:Int))||decide (60<(d.1.q4.2.1.length:Int)))
def Sa:Prop:=∀(d:DyD×Unit),((!lk d.1.1)=true->d.1.2.1.length<4611686018427387904)->((!(lk d.1.1||decide (20<(jgh d))))=true->d.1.2.2.1.length<4611686018427387904)->((!(lk d.1.1||decide (20<(jgh d))||decide (20<(d.1.2.2.1.length:Int))))=true->d.1.q4.2.1.length<4611686018427387904)->((jiG d)=true->(true,())=(cx d.1,()))/\((jiG d)=false->(∃(x:Nat),((0=(x:Int)/\True)/\True)/\x<=(wY d.1).length/\∀(j:Nat),j<x->Ll (nth (wY d.1) j)=false)/\∀(x:Nat),(x<=(wY d.1).length/\∀(j:Nat),j<x->Ll (nth (wY d.1) j)=false)->d.1.2.1.length<4611686018427387904->(decide ((x:Int)<(jgh d))=true->0<=(x:Int)/\(x:Int)<(jgh d)/\((nth d.1.2.1 (x:Int).toNat).length<4611686018427387904->(decide ((20:Int)<(nth d.1.2.1 (x:Int).toNat).length)=true->(true,())=(cx d.1,()))/\(decide ((20:Int)<(nth d.1.2.1 (x:Int).toNat).length)=false->wn ((x:Int)+1)/\∃(a:Nat),(((x:Int)+1=(a:Int)/\True)/\True)/\(a<=(wY d.1).length/\∀(j:Nat),j<a->Ll (nth (wY d.1) j)=false)/\(wY d.1).length-a<(wY d.1).length-x)))/\(decide ((x:Int)<(jgh d))=false->(false,())=(cx d.1,())))
def VP:wO:=⟨[.val tDy],[.bool],false,fun _=>[],fun d=>(Im d.1,())⟩
def VQ:Prop:=∀(d:DyD×Unit),((!cx d.1)=true->(wm d.1).length<=1000000)/\(((!cx d.1&&decide (gQ d.1=0))=true->d.1.q4.2.1.length<4611686018427387904)->(cx d.1||decide (gQ d.1=0)&&decide (12<(d.1.q4.2.1.length:Int)),())=(Im d.1,()))
def Sb:wO:=⟨[.val .int,.val .int],[tSp],false,fun _=>[],fun d=>((d.1,d.2.1,()),())⟩
def Sc:Prop:=∀(d:Int×Int×Unit),(d,())=(d,())
def HI:wO:=⟨[],[tCr,.slice tJb],false,fun _=>[],fun _=>(jd4,WR,())⟩
def HJ:Prop:=∀(_:Unit),(((3:Int),[([(5:Int),(4:Int),(0:Int)],(3:Int),(15:Int),[],false,(50:Int),()),([(0:Int),(5:Int),(3:Int)],(3:Int),(15:Int),[],true,(40:Int),()),([(4:Int),(0:Int),(4:Int)],(1:Int),(3:Int),[(7:Int)],false,(30:Int),()),([(3:Int),(3:Int),(3:Int)],(255:Int),(1:Int),[],false,(10:Int),())],[((2:Int),(1:Int),false,()),((4:Int),(2:Int),false,()),((3:Int),(2:Int),true,()),((5:Int),(1:Int),false,())],()),[((0:Int),(2:Int),(7:Int),(1:Int),(2:Int),(1:Int),()),((0:Int),(2:Int),(3:Int),(0:Int),(0:Int),(1:Int),()),((0:Int),(2:Int),(7:Int),(1:Int),(1:Int),(1:Int),())],())=(jd4,WR,())
def HK:wO:=⟨[],[tDy],false,fun _=>[],fun _=>(jd5,())⟩
abbrev jhf:=(nth WR (Int.toNat 1))
def HL:Prop:=∀(_:Unit),(0:Int)<=1/\1<(WR.length:Int)/\(0:Int)<=1/\1<(WR.length:Int)/\(0:Int)<=0/\0<(WR.length:Int)/\((jd4,[[((0:Int),(0:Int),()),((10:Int),(20:Int),())],[((10:Int),(25:Int),()),((0:Int),(0:Int),())]],[(nth WR (Int.toNat 1),(0:Int),(60:Int),(120:Int),()),((jhf.1,jhf.2.1,jhf.2.2.1,(1:Int),jhf.q4),(1:Int),(150:Int),(200:Int),()),(nth WR (Int.toNat 0),(0:Int),(230:Int),(300:Int),())],(10:Int),(140:Int),[((1:Int),(5:Int),(1:Int),(0:Int),(3:Int),()),((2:Int),(6:Int),(1:Int),(1:Int),(3:Int),()),((3:Int),(4:Int),(1:Int),(2:Int),(2:Int),()),((4:Int),(7:Int),(1:Int),(2:Int),(0:Int),()),((5:Int),(8:Int),(1:Int),(2:Int),(1:Int),()),((6:Int),(9:Int),(1:Int),(0:Int),(2:Int),()),((7:Int),(10:Int),(2:Int),(0:Int),(2:Int),())],()),())=(jd5,())
theorem jcB:R6:=by
 unfold R6 jeY Prod.q4;rintro⟨c,⟨⟩⟩ g;obtain⟨m,j,a⟩:OQ c:=g;refine⟨by show(0+(yB c).length)*24<=140737488355328;omega,⟨0,⟨⟨rfl,tZ⟩,⟨rfl,tZ,tZ,tZ⟩,rfl,tZ⟩,jp _⟩,fun x f _=>⟨fun h=> ?_,fun h=> ?_⟩⟩;have h:(x:Int)<(wd c).length:=ja h;have k:=L.wN (l:=wd c) (i:=x) (by omega);obtain⟨s1,s2⟩:=a _ (L.we (l:=wd c) (i:=x) (by omega));have d:((wd c).take x).length<=20:=(by rw[jY];omega);refine⟨j7 _,h,by show(0+(U.lv (nth (wd c) x)).length)*8<=140737488355328;omega,by show(0+(qT (nth (wd c) x)).length)*8<=140737488355328;omega,by show(((wd c).take x).length+1)*80<=140737488355328;omega,iZ6,x+1,⟨⟨by simp,tZ⟩,⟨rfl,tZ,tZ,tZ⟩,k.symm,tZ⟩,by show x+1<=(wd c).length;omega,by show(wd c).length-(x+1)<(wd c).length-x;omega⟩;have h:¬(x:Int)<(wd c).length:=jc h;have f:x<=(wd c).length:=f;have b:x=(wd c).length:=(by omega);subst b;have e:(wd c).take (wd c).length=wd c:=zH;show((c.1,(wd c).take (wd c).length,c.2.2.1,()),())=(c,());rw[e];rfl
theorem jcC:R7:=by
 unfold R7 jiD Prod.q4;rintro⟨d,⟨⟩⟩ g;obtain⟨k,o,j,n,a⟩:OR d:=g;refine⟨k,⟨0,⟨⟨rfl,tZ⟩,⟨rfl,rfl,rfl,tZ,rfl,rfl,rfl,rfl,tZ⟩,rfl,tZ⟩,jp _⟩,fun x f _=>⟨fun h=> ?_,fun h=> ?_⟩⟩;have h:(x:Int)<(wY d).length:=ja h;have m:=L.wN (l:=wY d) (i:=x) (by omega);have p:=a _ (L.we (l:=wY d) (i:=x) (by omega));have c:((wY d).take x).length<=20:=(by rw[jY];omega);refine⟨j7 _,h,by show(0+(nth (wY d) x).length)*16<=140737488355328;omega,by show(((wY d).take x).length+1)*24<=140737488355328;omega,iZ6,x+1,⟨⟨by simp,tZ⟩,⟨rfl,rfl,rfl,tZ,rfl,rfl,rfl,rfl,tZ⟩,m.symm,tZ⟩,by show x+1<=(wY d).length;omega,by show(wY d).length-(x+1)<(wY d).length-x;omega⟩;have h:¬(x:Int)<(wY d).length:=jc h;have f:x<=(wY d).length:=f;have b:x=(wY d).length:=(by omega);subst b;have e:(wY d).take (wY d).length=wY d:=zH;refine⟨by show(0+(wm d).length)*72<=140737488355328;omega,by show(0+(w4 d).length)*40<=140737488355328;omega,?_⟩;show((wj d,(wY d).take (wY d).length,wm d,AB d,YM d,w4 d,()),())=(d,());rw[e];rfl
theorem Yl:VO:=by
 unfold VO jiF jiE jfV jhe;rintro⟨c,⟨⟩⟩ _ _;refine⟨fun h=> ?_,fun h=>⟨⟨0,⟨⟨rfl,tZ⟩,tZ⟩,jp _,fun j g=>by omega⟩,fun x f d=>⟨fun a=>⟨j7 _,ja a,fun _=>⟨fun _=>j7 _,fun _=>ja a,fun _=>⟨fun b=> ?_,fun b=> ?_⟩⟩⟩,fun a _=> ?_⟩⟩⟩;have h:(decide (20<((wd c).length:Int))||decide (20<((yB c).length:Int)))=true:=h;show(true,())=(lk c,());unfold lk;rw[h];rfl;have b:Lk (nth (wd c) x)=true:=b;have a:(x:Int)<(wd c).length:=ja a;have:(wd c).any Lk=true:=zb.2 ⟨_,L.we (l:=wd c) (i:=x) (by omega),b⟩;show(true,())=(lk c,());unfold lk;rw[this,Bool.true_or,Bool.or_true];have b:Lk (nth (wd c) x)=false:=b;have a:(x:Int)<(wd c).length:=ja a;have d:(wd c).length<4611686018427387904:=d;refine⟨iZ6,x+1,⟨⟨by simp,tZ⟩,tZ⟩,⟨by show x+1<=(wd c).length;omega,fun j g=> ?_⟩,by show(wd c).length-(x+1)<(wd c).length-x;omega⟩;by_cases e:j=x;subst e;exact b;exact f.2 j (by omega);have h:(decide (20<((wd c).length:Int))||decide (20<((yB c).length:Int)))=false:=h;have a:¬(x:Int)<(wd c).length:=jc a;have:(wd c).any Lk=false:=zj.2 fun p k=>by
  obtain⟨i,hi,rfl⟩:=L.mem_iff.1 k;rw[f.2 i (by omega)];simp
 show(wo c&&decide (5<((wd c).length:Int)),())=(lk c,());unfold lk;rw[h,this,Bool.false_or,Bool.false_or]
theorem VR:wX PR 102 VM:=vF VN Yl Tryz.func102 (kcC xf kcN) koN
theorem VS:Sa:=by
 unfold Sa jiG jgh Prod.q4;rintro⟨d,⟨⟩⟩ _ _ _;refine⟨fun h=> ?_,fun h=>⟨⟨0,⟨⟨rfl,tZ⟩,tZ⟩,jp _,fun j g=>by omega⟩,fun x f c=>⟨fun a=>⟨j7 _,ja a,fun _=>⟨fun b=> ?_,fun b=> ?_⟩⟩,fun a=> ?_⟩⟩⟩;have h:(((lk (wj d)||decide (20<((wY d).length:Int)))||decide (20<((wm d).length:Int)))||decide (60<((w4 d).length:Int)))=true:=h;show(true,())=(cx d,());unfold cx;rw[h];rfl;have b:Ll (nth (wY d) x)=true:=b;have a:(x:Int)<(wY d).length:=ja a;have:(wY d).any Ll=true:=zb.2 ⟨_,L.we (l:=wY d) (i:=x) (by omega),b⟩;show(true,())=(cx d,());unfold cx;rw[this,Bool.or_true];have b:Ll (nth (wY d) x)=false:=b;have a:(x:Int)<(wY d).length:=ja a;have c:(wY d).length<4611686018427387904:=c;refine⟨iZ6,x+1,⟨⟨by simp,tZ⟩,tZ⟩,⟨by show x+1<=(wY d).length;omega,fun j g=> ?_⟩,by show(wY d).length-(x+1)<(wY d).length-x;omega⟩;by_cases e:j=x;subst e;exact b;exact f.2 j (by omega);have h:(((lk (wj d)||decide (20<((wY d).length:Int)))||decide (20<((wm d).length:Int)))||decide (60<((w4 d).length:Int)))=false:=h;have a:¬(x:Int)<(wY d).length:=jc a;have:(wY d).any Ll=false:=zj.2 fun p k=>by
  obtain⟨i,hi,rfl⟩:=L.mem_iff.1 k;rw[f.2 i (by omega)];simp
 show(false,())=(cx d,());unfold cx;rw[h,this];rfl
theorem Sd:wX PR 63 R8:=vF R9 VS Tryz.func63 (kcC VR kcN) koN
theorem VT {c:CrD} (h:lk c=false):OQ c:=by
 unfold lk at h;rw[jN,jN,jN,jH] at h;have b:=jc h.1.2;refine⟨by have:=h.1.1;omega,by omega,fun p a=> ?_⟩;have:=zj.1 h.2.1 p a;unfold Lk at this;rw[zr,decide_eq_true_iff,decide_eq_true_iff] at this;unfold jdL;omega
theorem F7 {d:DyD} (h:cx d=false):OR d:=by
 unfold cx at h;rw[jN,jN,jN,jN] at h;obtain⟨⟨⟨⟨e,a⟩,b⟩,c⟩,f⟩:=h;have a:=jc a;have b:=jc b;have c:=jc c;refine⟨VT e,by omega,by omega,by omega,fun r g=> ?_⟩;have:=zj.1 f r g;unfold Ll at this;rw[decide_eq_true_iff] at this;omega
theorem Ym:VQ:=by
 unfold VQ Prod.q4;rintro⟨d,⟨⟩⟩;refine⟨fun h=> ?_,fun _=>rfl⟩;have h:(!cx d)=true:=h;rw[jQ] at h;have:=(F7 h).2.2.1;show(wm d).length<=1000000;omega
theorem VU:wX PR 31 VP:=wJ Ym Tryz.func31 (kcC Sd (kcC pF kcN)) koN
theorem VV:Sc:=fun _=>rfl
theorem Se:wX PR 104 Sb:=wJ VV Tryz.func104 kcN koN
theorem KG:HJ:=fun _=>rfl
theorem HM:wX PR 103 HI:=wJ KG Tryz.func103 kcN koN
theorem KH:HL:=by
 unfold HL jhf Prod.q4;intro _;refine⟨by decide,by decide,by decide,by decide,by decide,by decide,rfl⟩
theorem HN:wX PR 64 HK:=wJ KH Tryz.func64 (kcC HM (kcC Se kcN)) koN
theorem Yn {d:DyD} (h:Im d=false):OR d:=by
 unfold Im at h;rw[jN] at h;exact F7 h.1
abbrev tNo:Ty:= .st [.int,.int]
abbrev tTa:Ty:= .st [.int,.int,.int,.int,.int,.int,.int,.int,.slice .int,.slice tNo]
abbrev tCa:Ty:= .st [.int,.int,.int]
abbrev tLg:Ty:= .st [tDy,.slice .int,.slice .int,tTa,.slice tCa]
abbrev tLn:Ty:= .st [.int,.int,.int,.int,.int,.int]
abbrev tBl:Ty:= .st [tBk,tTa,.int,.int,.slice .int,.int,.int,.bool,.int]
abbrev tBo:Ty:= .st [tLg,.map .int (.ptr tBl)]
abbrev NoD:Type:=Int×Int×Unit
abbrev TaD:Type:=Int×Int×Int×Int×Int×Int×Int×Int×List Int×List NoD×Unit
abbrev CaD:Type:=Int×Int×Int×Unit
abbrev LgD:Type:=DyD×List Int×List Int×TaD×List CaD×Unit
abbrev LnD:Type:=Int×Int×Int×Int×Int×Int×Unit
abbrev BlD:Type:=BkD×TaD×Int×Int×List Int×Int×Int×Bool×Int×Unit
abbrev XbD:Type:=Int×Int×Int×Int×Int×Int×Int×Int×Int×Int×Int×Int×Int×Int×Int×Int×Int×List Int×List (Int×Int×Unit)×Int×Int×List Int×Int×Int×Bool×Int×Unit
abbrev BoD:Type:=LgD×List (Int×Option BlD)×Unit
namespace U
def WS (n:NoD):Int:=n.1
def Zy (n:NoD):Int:=n.2.1
def WT (t:TaD):Int:=t.1
def jcY (t:TaD):Int:=t.2.1
def jcZ (t:TaD):Int:=t.2.2.1
def YO (t:TaD):Int:=t.2.2.2.1
def jbA (t:TaD):Int:=t.2.2.2.2.1
def WU (t:TaD):Int:=t.2.2.2.2.2.1
def jbO (t:TaD):Int:=t.2.2.2.2.2.2.1
def WA (t:TaD):Int:=t.2.2.2.2.2.2.2.1
def ff (t:TaD):List Int:=t.2.2.2.2.2.2.2.2.1
def fq (t:TaD):List NoD:=t.2.2.2.2.2.2.2.2.2.1
def S4 (c:CaD):Int:=c.1
def jc0 (c:CaD):Int:=c.2.1
def WV (c:CaD):Int:=c.2.2.1
def wv (l:LgD):DyD:=l.1
def fg (l:LgD):List Int:=l.2.1
def Gg (l:LgD):List Int:=l.2.2.1
def xl (l:LgD):TaD:=l.2.2.2.1
def ql (l:LgD):List CaD:=l.2.2.2.2.1
def WW (l:LnD):Int:=l.1
def jbP (l:LnD):Int:=l.2.1
def jem (l:LnD):Int:=l.2.2.1
def jen (l:LnD):Int:=l.2.2.2.1
def YP (l:LnD):Int:=l.2.2.2.2.2.1
def vb (b:BlD):BkD:=b.1
def gH (b:BlD):TaD:=b.2.1
def Qi (b:BlD):Int:=b.2.2.1
def Qj (b:BlD):Int:=b.2.2.2.1
def qO (b:BlD):List Int:=b.2.2.2.2.1
def pS (b:BlD):Int:=b.2.2.2.2.2.1
def E3 (b:BlD):Int:=b.2.2.2.2.2.2.1
def tw (b:BlD):Bool:=b.2.2.2.2.2.2.2.1
def pT (b:BlD):Int:=b.2.2.2.2.2.2.2.2.1
def bw (o:BoD):LgD:=o.1
def Lm (o:BoD):List (Int×Option BlD):=o.2.1
def share (n:Int):Bool:=kX n 0 100
def In (last:Int) (n:NoD):Bool:=kX (WS n) 0 (last-1)&&share (Zy n)
def xm:Int->List NoD->Bool
 |_,[]=>true
 |last,n::r=>In last n&&xm (WS n) r
def yf (t:TaD):Bool:=(kX (WT t) 1 240&&kX (jcY t) 0 10000&&kX (jcZ t) 0 20&&kX (YO t) 0 1440&&kX (jbA t) 0 (YO t)&&share (WU t)&&kX (jbO t) 0 10000)&&
 (decide ((ff t).length=4)&&(ff t).all share&&kX (WA t) 0 1000000&&decide ((fq t).length<=4)&&xm 100001 (fq t))
def nU (n:Nat) (c:CaD):Bool:=(kX (S4 c) 0 99&&kX (jc0 c) 0 ((n:Int)-1))&&kX (WV c) (-100000) 1440
def Ln (n:Int):Bool:=kX n 0 20
def xn (n:Int):Bool:=kX n 0 300
def cK (l:LgD):Bool:=((decide ((fg l).length=(wm (wv l)).length)&&(fg l).all Ln)&&(decide ((Gg l).length=(wm (wv l)).length)&&(Gg l).all xn))&&
 (yf (xl l)&&(decide ((ql l).length<=10)&&(ql l).all (nU (wm (wv l)).length)))
def bq (l:List CaD) (i:Nat):Bool:=(l.take i).any (fun x=>decide (S4 x=S4 (nth l i))&& !decide (x=nth l i))
def DK (l:List CaD) (n:Nat):Bool:=(List.range n).any (bq l)
def cy (l:List CaD):Bool:=DK l l.length
def qV (l:LgD):Int:=if w5 (wv l)≠0 then w5 (wv l) else if cK l=false then 70 else if cy (ql l)=true then 71 else 0
def up (a b:Int):Int:=(a+b-1).tdiv b
def gn (m:Int) (b:BlD):BlD:=if m<=qP (vb b)/\(tw b=false\/m<pT b) then(vb b,gH b,Qi b,Qj b,qO b,pS b,E3 b,true,m,()) else b
def gu (b:BlD):Int:=max 0 (dI (vb b)-max (qP (vb b)) (YO (gH b)))+max 0 (min (dI (vb b)) (jbA (gH b))-qP (vb b))
def mJ (b:BlD):Int:=(qO b).length*jcY (gH b)*max (jcZ (gH b)) (up (dI (vb b)-qP (vb b)) (WT (gH b)))
def bE (b:BlD):Int:=mJ b+up (mJ b*WU (gH b)*gu b) (100*(dI (vb b)-qP (vb b)))
def cz (a:Int) (b:BlD):Int:=(qO b).length*jbO (gH b)*a
def chargeB (a:Int) (b:BlD):BlD:=(vb b,gH b,Qi b,Qj b,qO b,bE b,cz a b,tw b,pT b,())
def fh (b:BlD) (n:NoD):Bool:=decide (WS n<=qP (vb b)-pT b)
def SM (b:BlD):Int:=yZ (fh b) (fq (gH b))
def vo (b:BlD):Int:=if tw b=true/\0<=SM b then up (pS b*Zy (nth (fq (gH b)) (SM b).toNat)) 100 else pS b
def vV (b:BlD):Int:=if tw b=true then 0 else E3 b
def Qk (b:BlD):Int:=min (WA (gH b)) (((vo b+vV b)*nth (ff (gH b)) (mB (gN (vb b))).toNat).tdiv 100)
def vG (b:BlD):LnD:=(Qj b,Qi b,vo b,vV b,Qk b,vo b+vV b-Qk b,())
def gC (m:Int) (b:BlD):Int:=YP (vG (gn m b))
def E4 (b:BlD):Prop:=yf (gH b)=true/\0<=qP (vb b)/\qP (vb b)<dI (vb b)/\dI (vb b)<=1440/\0<=mB (gN (vb b))/\mB (gN (vb b))<=3/\(qO b).length<=8/\-100000<=pT b/\pT b<=1440
def pO (b:BlD):Prop:=E4 b/\0<=pS b/\pS b<=100000000000000/\0<=E3 b/\E3 b<=1000000000
def qq (t:Int) (n:Nat):List Int:=((List.range n).filter (fun(p:Nat)=>wD t (p:Int))).map (fun(p:Nat)=>(p:Int))
def tg (l:LgD) (n:Int) (tm:List Int):BlD:=(nth (wm (wv l)) n.toNat,xl l,n,nth (fg l) n.toNat,tm,0,0,false,0,())
def qx (l:LgD) (n:Int) (k:Nat):List Int:=qq (nth (cJ (wv l)) n.toNat) k
def iO (l:LgD) (n:Int):BlD:=chargeB (nth (Gg l) n.toNat) (tg l n (qx l n (wd (wj (wv l))).length))
def th (n:Int) (b:BlD) (c:CaD):BlD:=if jc0 c=n then gn (WV c) b else b
def wl (l:LgD) (n:Int) (k:Nat):BlD:=((ql l).take k).foldl (th n) (iO l n)
def qt (l:LgD) (n:Int):BlD:=wl l n (ql l).length
def jbB (l:LgD) (m:List (Int×Option BlD)) (n:Int):List (Int×Option BlD):=fu .int n (some (qt l n)) m
def AD (l:LgD) (k:Nat):List (Int×Option BlD):=((kY (wv l)).take k).foldl (jbB l) []
def SN (l:LgD):List (Int×Option BlD):=AD l (kY (wv l)).length
def zDy:DyD:=((0,[],[],()),[],[],0,0,[],())
def zTa:TaD:=(0,0,0,0,0,0,0,0,[],[],())
def zLg:LgD:=(zDy,[],[],zTa,[],())
def jdM:BoD:=(zLg,[],())
def qo (l:LgD) (w8:Bool):Int:=if qV l≠0 then qV l else if w8=true then 0 else 1
def qi (l:LgD) (w8:Bool):BoD:=if qo l w8=0 then(l,SN l,()) else jdM
def qH (o:BoD) (n:Int):Bool:=kX n 0 (((wm (wv (bw o))).length:Int)-1)
def gw (m:List (Int×Option BlD)):List LnD:=m.map (fun e=>match e.2 with|some b=>vG b|none=>default)
def DL (a b:LnD):Int:=yM [cI (WW a) (WW b),cI (jbP a) (jbP b)]
def wM (o:BoD):List LnD:=k8 (wa tLn fun x=>(DL x.1 x.2.1,())) (gw (Lm o))
def ao (l:List Int):Int:=l.foldl max (nth l 0)
def YQ (t:List Int) (x:LnD):List Int:=t.set (WW x).toNat (nth t (WW x).toNat+YP x)
def au (n:Nat) (l:List LnD) (k:Nat):List Int:=(l.take k).foldl YQ (List.replicate n 0)
def SO (o:BoD):List Int:=if(fg (bw o)).length=0 then[] else au (ao (fg (bw o))+1).toNat (wM o) (wM o).length
def nq (a:Int) (tm:List Int) (out:List Int) (i:Nat):List Int:=out.set (nth tm i).toNat (nth out (nth tm i).toNat+a.tdiv tm.length+(if(i:Int)<a.tmod tm.length then 1 else 0))
def wW (a:Int) (tm out:List Int) (k:Nat):List Int:=(List.range k).foldl (nq a tm) out
def YR (a:Int) (b:BlD) (out:List Int):List Int:=wW a (qO b) out (qO b).length
def WB (n:Nat):Option BlD->List Int
 |some b=>YR (vV b) b (YR (vo b) b (List.replicate n 0))
 |none=>List.replicate n 0
def OS (o:BoD) (n:Int):Option BlD:=wH none (wx .int n (Lm o))
def E5 (o:BoD) (n:Int):List Int:=WB (wd (wj (wv (bw o)))).length (OS o n)
end U
theorem Yo {a b A B:Int} (d:0<=a/\a<=A) (c:0<=b/\b<=B):0<=a*b/\a*b<=A*B:=
 ⟨Int.mul_nonneg d.1 c.1,Int.mul_le_mul d.2 c.2 c.1 (by omega)⟩
theorem De {x B:Int} (h:0<=x/\x<=B) (a:B<=9223372036854775807):wn x:=iZ6
theorem jdx {a b:Int} (c:0<=a) (d:0<b):U.up a b=(a+b-1)/b:=kQ (by omega)
theorem VW {a b:Int} (e:0<=a) (c:0<b):0<=U.up a b/\U.up a b<=a:=by
 rw[jdx e c];refine⟨Int.ediv_nonneg (by omega) (by omega),?_⟩;by_cases h:a=0;subst h;rw[kF (by omega) (by omega)];omega;have g:0<=(a-1)*(b-1):=Int.mul_nonneg (by omega) (by omega);have d:a+b-1<(a+1)*b:=by
  have f:(a+1)*b=a*b+b:=(by rw[Int.add_mul];omega);have e2:(a-1)*(b-1)=a*b-a-b+1:=(by rw[Int.sub_mul,Int.mul_sub];omega);omega
 have:=Int.ediv_lt_of_lt_mul c d;omega
theorem Yp {a b A:Int} (c:0<=a/\a<=A) (f:0<b):0<=a.tdiv b/\a.tdiv b<=A:=by
 rw[kQ c.1];have d:=Int.ediv_nonneg c.1 (show 0<=b by omega);have e:=Int.ediv_le_self b c.1;exact⟨d,by omega⟩
theorem qY {n a b:Int}:kX n a b=true↔a<=n/\n<=b:=by
 unfold kX;simp only[ji,jo]
structure jdy (t:TaD):Prop where
 un:1<=WT t/\WT t<=240
 rt:0<=jcY t/\jcY t<=10000
 le:0<=jcZ t/\jcZ t<=20
 dk:0<=YO t/\YO t<=1440
 dw:0<=jbA t/\jbA t<=YO t
 ni:0<=WU t/\WU t<=100
 mi:0<=jbO t/\jbO t<=10000
 sl:(ff t).length=4
 sb:∀n∈ff t,0<=n/\n<=100
 cp:0<=WA t/\WA t<=1000000
 nl:(fq t).length<=4
 no:xm 100001 (fq t)=true
theorem P1 {t:TaD}:yf t=true↔jdy t:=by
 unfold yf U.share;simp only[ji,qY,jo,jT];constructor;rintro⟨⟨⟨⟨⟨⟨⟨d,e⟩,f⟩,g⟩,h⟩,i⟩,j⟩,⟨⟨⟨k,l⟩,a⟩,b⟩,c⟩;exact⟨d,e,f,g,h,i,j,k,l,a,b,c⟩;rintro⟨d,e,f,g,h,i,j,k,l,a,b,c⟩;exact⟨⟨⟨⟨⟨⟨⟨d,e⟩,f⟩,g⟩,h⟩,i⟩,j⟩,⟨⟨⟨k,l⟩,a⟩,b⟩,c⟩
theorem HO:∀{last:Int} {l:List NoD},xm last l=true->∀n∈l,(0<=WS n/\WS n<=last-1)/\0<=Zy n/\Zy n<=100
 |_,[],_,n,a=>by cases a
 |last,m::r,h,n,a=>by
  unfold xm In U.share at h
  simp only[ji,qY] at h
  obtain⟨⟨b,c⟩,d⟩:=h
  rcases jk.1 a with rfl|a
  exact⟨b,c⟩
  have:=HO d n a
  exact⟨⟨this.1.1,by omega⟩,this.2⟩
structure Df (b:BlD):Prop where
 ta:jdy (gH b)
 st:0<=qP (vb b)
 en:qP (vb b)<dI (vb b)
 e2:dI (vb b)<=1440
 kd:0<=mB (gN (vb b))/\mB (gN (vb b))<=3
 tm:(qO b).length<=8
 mi: -100000<=pT b/\pT b<=1440
theorem sL {b:BlD}:E4 b↔Df b:=by
 unfold E4;rw[P1];exact⟨fun⟨a,c,d,e,f,g,h,i,j⟩=>⟨a,c,d,e,⟨f,g⟩,h,⟨i,j⟩⟩,fun⟨a,c,d,e,⟨f,g⟩,h,⟨i,j⟩⟩=>⟨a,c,d,e,f,g,h,i,j⟩⟩
theorem P2 {b:BlD} (h:Df b):0<=gu b/\gu b<=2880:=by
 have:=h.st;have:=h.en;have:=h.e2;have:=h.ta.dk;have:=h.ta.dw;unfold gu;omega
theorem jcD {b:BlD} (h:Df b):0<=U.up (dI (vb b)-qP (vb b)) (WT (gH b))/\U.up (dI (vb b)-qP (vb b)) (WT (gH b))<=1440:=by
 have:=h.st;have:=h.en;have:=h.e2;have:=h.ta.un;have:=VW (a:=dI (vb b)-qP (vb b)) (b:=WT (gH b)) (by omega) (by omega);omega
theorem jcE {b:BlD} (h:Df b):0<=((qO b).length:Int)*jcY (gH b)/\((qO b).length:Int)*jcY (gH b)<=80000:=
 Yo (A:=8) (B:=10000) (by have:=h.tm;omega) h.ta.rt
theorem N1 {b:BlD} (h:Df b):0<=mJ b/\mJ b<=115200000:=by
 have c:=jcD h;have d:=h.ta.le;have a:0<=max (jcZ (gH b)) (U.up (dI (vb b)-qP (vb b)) (WT (gH b)))/\max (jcZ (gH b)) (U.up (dI (vb b)-qP (vb b)) (WT (gH b)))<=1440:=(by omega);exact Yo (jcE h) a
theorem jcF {b:BlD} (h:Df b):0<=mJ b*WU (gH b)/\mJ b*WU (gH b)<=11520000000:=Yo (N1 h) h.ta.ni
theorem Zr {b:BlD} (h:Df b):0<=mJ b*WU (gH b)*gu b/\mJ b*WU (gH b)*gu b<=33177600000000:=Yo (jcF h) (P2 h)
theorem jcG {b:BlD} (h:Df b):0<100*(dI (vb b)-qP (vb b))/\100*(dI (vb b)-qP (vb b))<=144000:=by
 have:=h.st;have:=h.en;have:=h.e2;omega
theorem jcH {b:BlD} (h:Df b):0<=U.up (mJ b*WU (gH b)*gu b) (100*(dI (vb b)-qP (vb b)))/\U.up (mJ b*WU (gH b)*gu b) (100*(dI (vb b)-qP (vb b)))<=33177600000000:=by
 have a:=Zr h;have:=VW a.1 (jcG h).1;omega
theorem VX {b:BlD} (h:Df b):0<=bE b/\bE b<=100000000000000:=by
 have a:=N1 h;have c:=jcH h;unfold bE;omega
theorem jcI {b:BlD} (h:Df b):0<=((qO b).length:Int)*jbO (gH b)/\((qO b).length:Int)*jbO (gH b)<=80000:=
 Yo (A:=8) (B:=10000) (by have:=h.tm;omega) h.ta.mi
theorem VY {b:BlD} {t:Int} (h:Df b) (a:0<=t/\t<=300):0<=cz t b/\cz t b<=24000000:=Yo (jcI h) a
theorem KI {α:Type} [Inhabited α] {p:α->Bool} {l:List α} (h:0<=yZ p l):(yZ p l).toNat<l.length/\yZ p l<(l.length:Int)/\p (nth l (yZ p l).toNat)=true:=by
 unfold yZ at h⊢;cases e:l.findIdx? p with
 |none=>rw[e] at h;exact absurd h (by decide)
 |some i=>
  obtain⟨a,b,_⟩:=zY.1 e;simp only[jw];refine⟨a,by omega,?_⟩;rw[L.qb a];exact b
structure Ip (b:BlD):Prop where
 bl:Df b
 wk:0<=pS b/\pS b<=100000000000000
 tr:0<=E3 b/\E3 b<=1000000000
theorem aL {b:BlD}:pO b↔Ip b:=by
 unfold pO;rw[sL];exact⟨fun⟨a,c,d,e,f⟩=>⟨a,⟨c,d⟩,⟨e,f⟩⟩,fun⟨a,⟨c,d⟩,⟨e,f⟩⟩=>⟨a,c,d,e,f⟩⟩
theorem P3 {b:BlD} (h:Ip b) {i:Nat} (hi:i<(fq (gH b)).length):0<=pS b*Zy (nth (fq (gH b)) i)/\pS b*Zy (nth (fq (gH b)) i)<=10000000000000000:=
 Yo h.wk (HO h.bl.ta.no _ (L.we hi)).2
theorem HP {b:BlD} (h:Ip b):0<=vo b/\vo b<=10000000000000000:=by
 unfold vo
 split
 rename_i c;have a:=P3 h (KI c.2).1;have:=VW (b:=100) a.1 (by omega);have e:U.up (pS b*Zy (nth (fq (gH b)) (SM b).toNat)) 100<=pS b*Zy (nth (fq (gH b)) (SM b).toNat):=this.2;exact⟨this.1,Int.le_trans e a.2⟩;have:=h.wk;omega
theorem HQ {b:BlD} (h:Ip b):0<=vV b/\vV b<=1000000000:=by
 unfold vV;have:=h.tr
 split<;>omega
theorem VZ {b:BlD} (h:Df b):(mB (gN (vb b))).toNat<(ff (gH b)).length:=by
 have:=h.kd;have:=h.ta.sl;omega
theorem Zs {b:BlD} (h:Df b):0<=nth (ff (gH b)) (mB (gN (vb b))).toNat/\nth (ff (gH b)) (mB (gN (vb b))).toNat<=100:=h.ta.sb _ (L.we (VZ h))
theorem N2 {w t cp pc k:Int} {n:Nat} {R:Prop} (i:0<=w/\w<=10000000000000000) (h:0<=t/\t<=1000000000) (g:0<=cp/\cp<=1000000) (e:0<=pc/\pc<=100) (hk:0<=k) (d:k<(n:Int)) (c:R):
 wn (w+t)/\0<=k/\k<(n:Int)/\wn ((w+t)*pc)/\(100:Int)≠0/\wn (((w+t)*pc).tdiv 100)/\wn (w+t)/\wn (w+t-min cp (((w+t)*pc).tdiv 100))/\R:=by
 have a:0<=(w+t)*pc/\(w+t)*pc<=10000001000000000*100:=Yo (by omega) e;have f:=Yp (b:=100) a (by omega);exact⟨iZ6,hk,d,iZ6,by decide,iZ6,iZ6,iZ6,c⟩
theorem Yq {b:BlD} {m:Int} (h:Df b) (a: -100000<=m/\m<=1440):Df (gn m b):=by
 unfold gn
 split
 exact⟨h.ta,h.st,h.en,h.e2,h.kd,h.tm,a⟩;exact h
theorem HR {b:BlD} {m:Int} (h:Ip b) (a: -100000<=m/\m<=1440):Ip (gn m b):=by
 refine⟨Yq h.bl a,?_,?_⟩;unfold gn
 split
 exact h.wk;exact h.wk;unfold gn
 split
 exact h.tr;exact h.tr
theorem P4 {β:Type} (k:Int) (v:β):∀m:List (Int×β),k∉m.map (·.1)->fu .int k v m=m++[(k,v)]
 |[],_=>rfl
 |e::r,h=>by
  have a:k≠e.1:=fun e2=>h (by rw[e2];simp)
  have b:k∉r.map (·.1):=fun d=>h (by simp only[zx];exact jl _ d)
  rw[M.mput_cons (kt:= .int),jd (fun c=>a (ja c)),P4 k v r b];rfl
theorem N3 (d:DyD) (n:Nat):(ag d n).Nodup:=by
 unfold ag;exact kg.2 ((List.nodup_range.filter _).imp fun h e=>h (by omega))
theorem uw (d:DyD):(kY d).Nodup:=by
 unfold kY
 split
 exact N3 d _;exact kV
theorem N4 {d:DyD} {n:Int} (h:n∈kY d):0<=n/\n<((wm d).length:Int):=by
 unfold kY at h
 split at h
 unfold ag at h;obtain⟨b,a,rfl⟩:=jZ.1 h;have:=jE.1 (jS.1 a).1;omega;cases h
theorem KJ {l:LgD} {k:Nat} (h:k<(kY (wv l)).length):AD l (k+1)=jbB l (AD l k) (nth (kY (wv l)) k):=by
 unfold AD;rw[L.wN h,jU];rfl
theorem V0 (l:LgD):∀k,k<=(kY (wv l)).length->AD l k=((kY (wv l)).take k).map (fun n=>(n,some (qt l n)))
 |0,_=>rfl
 |k+1,hk=>by
  have a:k<(kY (wv l)).length:=by omega
  have d:=L.wN a
  have b:((kY (wv l)).take (k+1)).Nodup:=(uw _).sublist (List.take_sublist _ _)
  rw[d,zG] at b
  rw[KJ a,V0 l k (by omega),d,zw]
  unfold jbB
  refine P4 _ _ _ fun c=> ?_
  rw[kJ] at c
  obtain⟨x,f,e⟩:=jZ.1 c
  have e:x=nth (kY (wv l)) k:=e
  exact b.2.2 x f _ (by simp) e
theorem F8 (l:LgD):SN l=(kY (wv l)).map (fun n=>(n,some (qt l n))):=by
 unfold SN;rw[V0 l _ (jj _),zH]
structure Dg (l:LgD):Prop where
 cp:w5 (wv l)=0
 crw:wo (wj (wv l))=true
 jbs:Ii (wv l)=true
 dy:qn (wv l)=true
 py:(fg l).length=(wm (wv l)).length/\∀n∈fg l,0<=n/\n<=20
 tr:(Gg l).length=(wm (wv l)).length/\∀n∈Gg l,0<=n/\n<=300
 ta:jdy (xl l)
 cl:(ql l).length<=10/\∀c∈ql l,(0<=S4 c/\S4 c<=99)/\(0<=jc0 c/\jc0 c<=((wm (wv l)).length:Int)-1)/\-100000<=WV c/\WV c<=1440
 cc:cy (ql l)=false
theorem Sf {d:DyD} (h:w5 d=0):wo (wj d)=true/\Ii d=true/\qn d=true:=by
 unfold w5 at h
 split at h
 rename_i a;exact absurd h a;rename_i a
 split at h
 cases h;rename_i b;have a:uK d=0:=jR.1 a;unfold uK at a
 split at a
 cases a;rename_i c
 split at a
 cases a;rename_i e;exact⟨by simpa using c,by simpa using e,by simpa using b⟩
theorem mq {l:LgD} (h:qV l=0):Dg l:=by
 unfold qV at h
 split at h
 rename_i a;exact absurd h a;rename_i a;have a:w5 (wv l)=0:=jR.1 a
 split at h
 cases h;rename_i b
 split at h
 cases h;rename_i d;have b:cK l=true:=(by simpa using b);have d:cy (ql l)=false:=(by simpa using d);obtain⟨p,q,r⟩:=Sf a;unfold cK at b;simp only[ji,jo,jT] at b;obtain⟨⟨⟨f,g⟩,i,j⟩,k,m,o⟩:=b;refine⟨a,p,q,r,⟨f,fun n e=>qY.1 (g n e)⟩,⟨i,fun n e=>qY.1 (j n e)⟩,P1.1 k,⟨m,fun c s=> ?_⟩,d⟩;have:=o c s;unfold nU at this;simp only[ji,qY] at this;exact⟨this.1.1,this.1.2,this.2⟩
theorem KK {l:LgD} (h:Dg l) {n:Int} (e:0<=n/\n<((wm (wv l)).length:Int)):
 (0<=qP (nth (wm (wv l)) n.toNat)/\qP (nth (wm (wv l)) n.toNat)<dI (nth (wm (wv l)) n.toNat)/\dI (nth (wm (wv l)) n.toNat)<=1440)/\
 0<=mB (gN (nth (wm (wv l)) n.toNat))/\mB (gN (nth (wm (wv l)) n.toNat))<=3:=by
 have d:nth (wm (wv l)) n.toNat∈wm (wv l):=L.we (by omega);have c:=h.dy;unfold qn at c;simp only[ji,jT] at c;have b:=c.2.2.1 _ d;unfold mC at b;have b:=ja b;have a:=h.jbs;unfold Ii at a;have a:=jT.1 a _ d;unfold wZ at a;have a:=ja a;exact⟨⟨b.2.2.1,b.2.2.2.1,b.2.2.2.2⟩,a.2.2.2.2.2.2.2.2.2.1,a.2.2.2.2.2.2.2.2.2.2.1⟩
theorem P5 {l:LgD} (h:Dg l) {n:Int} (e:0<=n/\n<((wm (wv l)).length:Int)) {tm:List Int} (f:tm.length<=8):Df (tg l n tm):=by
 obtain⟨⟨a,b,c⟩,d⟩:=KK h e;exact⟨h.ta,a,b,c,d,f,by show-100000<=(0:Int)/\(0:Int)<=1440;omega⟩
theorem sM (t:Int) (n:Nat):(qq t n).length<=n/\∀p∈qq t n,0<=p/\p<(n:Int):=by
 unfold qq;refine⟨?_,fun p c=> ?_⟩;rw[zp];exact jD (zF _ _) (by rw[zI];exact jj _);obtain⟨b,a,rfl⟩:=jZ.1 c;have:=jE.1 (jS.1 a).1;omega
theorem jdd {l:LgD} (h:Dg l):(wd (wj (wv l))).length<=8:=by
 have a:=h.crw;unfold wo at a;rw[ji] at a;exact(ja a.1).2.2.1
theorem P6 {l:LgD} (h:Dg l) {n:Int} (d:0<=n/\n<((wm (wv l)).length:Int)):Ip (iO l n):=by
 have g:=jdd h;have f:=(sM (nth (cJ (wv l)) n.toNat) (wd (wj (wv l))).length).1;have a:Df (tg l n (qx l n (wd (wj (wv l))).length)):=P5 h d (by unfold qx;omega);have e:=h.tr.2 _ (L.we (show n.toNat<(Gg l).length by rw[h.tr.1];omega));have c:=VX a;have b:=VY a e;exact⟨⟨a.ta,a.st,a.en,a.e2,a.kd,a.tm,a.mi⟩,c,⟨b.1,Int.le_trans b.2 (by decide)⟩⟩
theorem dg {l:LgD} {n:Int} {k:Nat} (h:k<(ql l).length):wl l n (k+1)=th n (wl l n k) (nth (ql l) k):=by
 unfold wl;rw[L.wN h,jU];rfl
theorem F9 {l:LgD} (h:Dg l) {n:Int} (a:0<=n/\n<((wm (wv l)).length:Int)):∀k,k<=(ql l).length->Ip (wl l n k)
 |0,_=>P6 h a
 |k+1,hk=>by
  rw[dg (by omega)]
  unfold th
  have b:=F9 h a k (by omega)
  split
  exact HR b (h.cl.2 _ (L.we (show k<(ql l).length by omega))).2.2
  exact b
theorem V1 {l:LgD} (h:Dg l) {n:Int} (a:0<=n/\n<((wm (wv l)).length:Int)):Ip (qt l n):=F9 h a _ (jj _)
theorem Sg (m:Int) (b:BlD):vb (gn m b)=vb b/\gH (gn m b)=gH b/\Qi (gn m b)=Qi b/\Qj (gn m b)=Qj b/\qO (gn m b)=qO b/\pS (gn m b)=pS b/\E3 (gn m b)=E3 b:=by
 unfold gn
 split
 exact⟨rfl,rfl,rfl,rfl,rfl,rfl,rfl⟩;exact⟨rfl,rfl,rfl,rfl,rfl,rfl,rfl⟩
theorem ym (l:LgD) (n:Int):∀k,k<=(ql l).length->vb (wl l n k)=vb (iO l n)/\gH (wl l n k)=gH (iO l n)/\Qi (wl l n k)=Qi (iO l n)/\Qj (wl l n k)=Qj (iO l n)/\qO (wl l n k)=qO (iO l n)/\
 pS (wl l n k)=pS (iO l n)/\E3 (wl l n k)=E3 (iO l n)
 |0,_=>⟨rfl,rfl,rfl,rfl,rfl,rfl,rfl⟩
 |k+1,hk=>by
  rw[dg (by omega)]
  unfold th
  have a:=ym l n k (by omega)
  split
  obtain⟨c1,c2,b,c,d,e,f⟩:=Sg (WV (nth (ql l) k)) (wl l n k)
  rw[c1,c2,b,c,d,e,f];exact a
  exact a
abbrev blS:Sh:= .box 85 [.dat .int,.dat .int,.dat .int,.dat .int,.dat .int,.dat .int,.dat .int,.dat .int,.dat .int,.dat .int,.dat .int,.dat .int,.dat .int,.dat .int,.dat .int,.dat .int,.dat .int,.dat (.slice .int),.dat (.slice tNo),.dat .int,.dat .int,.dat (.slice .int),.dat .int,.dat .int,.dat .bool,.dat .int]
def blX (x:Sh.D blS) (w t:Int) (c:Bool) (m:Int):Sh.D blS:=(x.1,x.2.1,x.2.2.1,x.2.2.2.1,x.q4.1,x.q4.2.1,x.q4.2.2.1,x.q4.2.2.2.1,x.q4.q4.1,x.q4.q4.2.1,x.q4.q4.2.2.1,x.q4.q4.2.2.2.1,x.q4.q4.q4.1,x.q4.q4.q4.2.1,x.q4.q4.q4.2.2.1,x.q4.q4.q4.2.2.2.1,x.q4.q4.q4.q4.1,x.q4.q4.q4.q4.2.1,x.q4.q4.q4.q4.2.2.1,x.q4.q4.q4.q4.2.2.2.1,x.q4.q4.q4.q4.q4.1,x.q4.q4.q4.q4.q4.2.1,w,t,c,m,())
namespace U
def vi (x:Sh.D blS):BlD:=
 (((x.1,x.2.1,x.2.2.1,x.2.2.2.1,x.q4.1,x.q4.2.1,()),x.q4.2.2.1,x.q4.2.2.2.1,x.q4.q4.1,()),
  (x.q4.q4.2.1,x.q4.q4.2.2.1,x.q4.q4.2.2.2.1,x.q4.q4.q4.1,x.q4.q4.q4.2.1,x.q4.q4.q4.2.2.1,x.q4.q4.q4.2.2.2.1,x.q4.q4.q4.q4.1,x.q4.q4.q4.q4.2.1,x.q4.q4.q4.q4.2.2.1,()),
  x.q4.q4.q4.q4.2.2.2.1,x.q4.q4.q4.q4.q4.1,x.q4.q4.q4.q4.q4.2.1,x.q4.q4.q4.q4.q4.2.2.1,x.q4.q4.q4.q4.q4.2.2.2.1,x.q4.q4.q4.q4.q4.q4.1,x.q4.q4.q4.q4.q4.q4.2.1,())
def WC (m:Int) (b:BlD):Bool:=tw (gn m b)
def WD (m:Int) (b:BlD):Int:=pT (gn m b)
def WE (m:Int) (c:CaD):Bool:=(kX (S4 c) 0 99&&kX (jc0 c) 0 (m-1))&&kX (WV c) (-100000) 1440
end U
def aF:wO:=⟨[.val .int,.val .int,.val .int],[.bool],false,fun _=>[],fun d=>(kX d.1 d.2.1 d.2.2.1,())⟩
def N5:Prop:=∀(d:CaD),(decide (d.2.1<=d.1)&&decide (d.1<=d.2.2.1),())=(kX d.1 d.2.1 d.2.2.1,())
def bV:wO:=⟨[.val .int],[.bool],false,fun _=>[],fun d=>(U.share d.1,())⟩
def Si:Prop:=∀(d:Int×Unit),(kX d.1 (0:Int) (100:Int),())=(U.share d.1,())
def ld:wO:=⟨[.val (.slice tNo),.fn [tNo] [.bool]],[.int],false,fun d=>[∀g∈d.1,wu (d.2.1.pre (g,()))],fun d=>(yZ (kZ (α:=NoD) d.2.1.F) d.1,())⟩
def lf:Ann:=fun r=>match r with
 |2=>some fun σ=>{X:=Nat,sl:=fun i=>[(8,.dat .int (i:Int))],ob:=fun _=>[],inv:=fun i=>i<=(gd (.slice tNo) σ 0).length/\∀b:Nat,b<i->kZ (gfb tNo σ 1) (nth (gd (.slice tNo) σ 0) b)=false,mu:=fun i=>(gd (.slice tNo) σ 0).length-i}
 |_=>none
def lg:Prop:=∀(d:List (Int×Int×Unit)×FnD [tNo] [Ty.bool]×Unit),(∀(g:Int×Int×Unit),g∈d.1->wu (d.2.1.1 (g,())))->d.1.length<4611686018427387904->(∃(x:Nat),((0=(x:Int)/\True)/\True)/\x<=d.1.length/\∀(b:Nat),b<x->kZ d.2.1.2 (nth d.1 b)=false)/\∀(x:Nat),(x<=d.1.length/\∀(b:Nat),b<x->kZ d.2.1.2 (nth d.1 b)=false)->(decide ((x:Int)<d.1.length)=true->0<=(x:Int)/\(x:Int)<d.1.length/\asks (d.2.1.1 (nth d.1 x,())) (((d.2.1.2 (nth d.1 x,())).1=true->((x:Int),())=(yZ (kZ d.2.1.2) d.1,()))/\((d.2.1.2 (nth d.1 x,())).1=false->wn ((x:Int)+1)/\∃(a:Nat),(((x:Int)+1=(a:Int)/\True)/\True)/\(a<=d.1.length/\∀(b:Nat),b<a->kZ d.2.1.2 (nth d.1 b)=false)/\d.1.length-a<d.1.length-x)))/\(decide ((x:Int)<d.1.length)=false->((-1:Int),())=(yZ (kZ d.2.1.2) d.1,()))
def nN:wO:=⟨[.val (.slice tCa),.fn [tCa] [.bool]],[.int],false,fun d=>[∀g∈d.1,wu (d.2.1.pre (g,()))],fun d=>(yZ (kZ (α:=CaD) d.2.1.F) d.1,())⟩
def nO:Ann:=fun r=>match r with
 |2=>some fun σ=>{X:=Nat,sl:=fun i=>[(8,.dat .int (i:Int))],ob:=fun _=>[],inv:=fun i=>i<=(gd (.slice tCa) σ 0).length/\∀b:Nat,b<i->kZ (gfb tCa σ 1) (nth (gd (.slice tCa) σ 0) b)=false,mu:=fun i=>(gd (.slice tCa) σ 0).length-i}
 |_=>none
def nP:Prop:=∀(d:List CaD×FnD [tCa] [Ty.bool]×Unit),(∀(g:CaD),g∈d.1->wu (d.2.1.1 (g,())))->d.1.length<4611686018427387904->(∃(x:Nat),((0=(x:Int)/\True)/\True)/\x<=d.1.length/\∀(b:Nat),b<x->kZ d.2.1.2 (nth d.1 b)=false)/\∀(x:Nat),(x<=d.1.length/\∀(b:Nat),b<x->kZ d.2.1.2 (nth d.1 b)=false)->(decide ((x:Int)<d.1.length)=true->0<=(x:Int)/\(x:Int)<d.1.length/\asks (d.2.1.1 (nth d.1 x,())) (((d.2.1.2 (nth d.1 x,())).1=true->((x:Int),())=(yZ (kZ d.2.1.2) d.1,()))/\((d.2.1.2 (nth d.1 x,())).1=false->wn ((x:Int)+1)/\∃(a:Nat),(((x:Int)+1=(a:Int)/\True)/\True)/\(a<=d.1.length/\∀(b:Nat),b<a->kZ d.2.1.2 (nth d.1 b)=false)/\d.1.length-a<d.1.length-x)))/\(decide ((x:Int)<d.1.length)=false->((-1:Int),())=(yZ (kZ d.2.1.2) d.1,()))
def iq:wO:=⟨[.val (.slice tCa),.fn [tCa] [.bool]],[.bool],false,fun d=>[∀g∈d.1,wu (d.2.1.pre (g,()))],fun d=>(d.1.any (kZ (α:=CaD) d.2.1.F),())⟩
def ir:Prop:=∀(d:List CaD×FnD [tCa] [Ty.bool]×Unit),(∀(g:CaD),g∈d.1->wu (d.2.1.1 (g,())))->(∀(g:CaD),g∈d.1->wu (d.2.1.1 (g,())))/\(decide (0<=yZ (kZ d.2.1.2) d.1),())=(d.1.any (kZ d.2.1.2),())
def Ac:wO:=⟨[.val .int,.rfn [.int] [.bool]],[.bool],false,fun d=>[wu (d.2.1.pre (d.1,()))],fun d=>(!(kZ (α:=Int) d.2.1.F d.1),())⟩
def Ad:Prop:=∀(d:Int×FnD [Ty.int] [Ty.bool]×Unit),wu (d.2.1.1 (d.1,()))->asks (d.2.1.1 (d.1,())) ((!(d.2.1.2 (d.1,())).1,())=(!kZ d.2.1.2 d.1,()))
def dA:wO:=⟨[.val (.slice .int),.fn [.int] [.bool]],[.bool],false,fun d=>[∀g∈d.1,wu (d.2.1.pre (g,()))],fun d=>(d.1.all (kZ (α:=Int) d.2.1.F),())⟩
def EB:Prop:=∀(d:List Int×FnD [Ty.int] [Ty.bool]×Unit),(∀(g:Int),g∈d.1->wu (d.2.1.1 (g,())))->(∀(g:Int),g∈d.1->wu [wu (d.2.1.1 (g,()))])/\(!d.1.any (kZ fun(a:Int×Unit)=>(!kZ d.2.1.2 a.1,())),())=(d.1.all (kZ d.2.1.2),())
def ux:wO:=⟨[.val tCa,.rfn [tCa] [.bool]],[.bool],false,fun d=>[wu (d.2.1.pre (d.1,()))],fun d=>(!(kZ (α:=CaD) d.2.1.F d.1),())⟩
def uy:Prop:=∀(d:CaD×FnD [tCa] [Ty.bool]×Unit),wu (d.2.1.1 (d.1,()))->asks (d.2.1.1 (d.1,())) ((!(d.2.1.2 (d.1,())).1,())=(!kZ d.2.1.2 d.1,()))
def Dh:wO:=⟨[.val (.slice tCa),.fn [tCa] [.bool]],[.bool],false,fun d=>[∀g∈d.1,wu (d.2.1.pre (g,()))],fun d=>(d.1.all (kZ (α:=CaD) d.2.1.F),())⟩
def Di:Prop:=∀(d:List CaD×FnD [tCa] [Ty.bool]×Unit),(∀(g:CaD),g∈d.1->wu (d.2.1.1 (g,())))->(∀(g:CaD),g∈d.1->wu [wu (d.2.1.1 (g,()))])/\(!d.1.any (kZ fun(a:CaD×Unit)=>(!kZ d.2.1.2 a.1,())),())=(d.1.all (kZ d.2.1.2),())
def KL:wO:=⟨[.val tCa,.ref .int],[.bool],false,fun d=>[0<=d.2.1,d.2.1<=4611686018427387904],fun d=>(WE d.2.1 d.1,())⟩
def KM:Prop:=∀(d:CaD×Int×Unit),0<=d.2.1->d.2.1<=4611686018427387904->(kX d.1.1 (0:Int) 99=true->wn (d.2.1-1))/\(kX d.1.1 (0:Int) (99:Int)&&kX d.1.2.1 (0:Int) (d.2.1-1)&&kX d.1.2.2.1 (-100000:Int) (1440:Int),())=(WE d.2.1 d.1,())
def KN:wO:=⟨[.val .int],[.bool],false,fun _=>[],fun d=>(Ln d.1,())⟩
def KO:Prop:=∀(d:Int×Unit),(kX d.1 (0:Int) (20:Int),())=(Ln d.1,())
def KP:wO:=⟨[.val .int],[.bool],false,fun _=>[],fun d=>(xn d.1,())⟩
def KQ:Prop:=∀(d:Int×Unit),(kX d.1 (0:Int) (300:Int),())=(xn d.1,())
def ja4:wO:=⟨[.val .int,.val .int],[.int],false,fun d=>[0<=d.1,0<d.2.1,d.1<=4611686018427387904,d.2.1<=1000000000],fun d=>(U.up d.1 d.2.1,())⟩
def ja5:Prop:=∀(d:Int×Int×Unit),0<=d.1->0<d.2.1->d.1<=4611686018427387904->d.2.1<=1000000000->wn (d.1+d.2.1)/\wn (d.1+d.2.1-1)/\d.2.1≠0/\wn ((d.1+d.2.1-1).tdiv d.2.1)/\((d.1+d.2.1-1).tdiv d.2.1,())=(U.up d.1 d.2.1,())
def N6:wO:=⟨[.val tBo],[.bool],false,fun _=>[],fun _=>(true,())⟩
def N7:Prop:=∀(_:BoD×Unit),(true,())=(true,())
def sN:wO:=⟨[.val tBo,.val .int],[.bool],false,fun d=>[(wm (wv (bw d.1))).length<=100],fun d=>(qH d.1 d.2.1,())⟩
def sO:Prop:=∀(d:BoD×Int×Unit),(wm (wv (bw d.1))).length<=100->d.1.1.1.2.2.1.length<4611686018427387904->wn ((d.1.1.1.2.2.1.length:Int)-1)/\(kX d.2.1 (0:Int) ((d.1.1.1.2.2.1.length:Int)-1),())=(qH d.1 d.2.1,())
def Dj:wO:=⟨[.ref tBl],[.int],false,fun d=>[E4 d.1],fun d=>(gu d.1,())⟩
abbrev jhS (d:BlD×Unit):=(min d.1.1.2.2.2.1 d.1.2.1.q4.1-d.1.1.2.2.1)
abbrev jhT (d:BlD×Unit):=(d.1.1.2.2.2.1-max d.1.1.2.2.1 d.1.2.1.2.2.2.1)
def Dk:Prop:=∀(d:BlD×Unit),E4 d.1->wn (jhT d)/\wn (jhS d)/\wn (max (0:Int) (jhT d)+max (0:Int) (jhS d))/\(max (0:Int) (jhT d)+max (0:Int) (jhS d),())=(gu d.1,())
def Ae:qS:=⟨[.own blS true,.val .int],[],fun d=>[E4 (vi d.1),0<=d.2.1,d.2.1<=300],fun d=>((),(blX d.1 (bE (vi d.1)) (cz d.2.1 (vi d.1)) (tw (vi d.1)) (pT (vi d.1)),()))⟩
abbrev jfW (d:XbD×Int×Unit):=(d.1.q4.q4.1-d.1.q4.2.2.2.1)
abbrev jfI (d:XbD×Int×Unit):=(U.up (jfW d) d.1.q4.q4.2.1)
abbrev je7 (d:XbD×Int×Unit):=d.1.q4.q4.2.2.2.1
abbrev jeZ (d:XbD×Int×Unit):=d.1.q4.q4.2.2.1
abbrev jfX (d:XbD×Int×Unit):=d.1.q4.q4.q4.2.2.1
abbrev jgi (d:XbD×Int×Unit):=d.1.q4.q4.q4.2.2.2.1
abbrev jhg (d:XbD×Int×Unit):=d.1.q4.q4.q4.q4.q4.2.1
abbrev je0 (d:XbD×Int×Unit):=((jhg d).length:Int)
abbrev jhU (d:XbD×Int×Unit):=d.1.q4.q4.q4.q4.q4.1
abbrev jhV (d:XbD×Int×Unit):=d.1.q4.q4.q4.q4.2.2.2.1
abbrev jhh (d:XbD×Int×Unit):=(((d.1.1,d.1.2.1,d.1.2.2.1,d.1.2.2.2.1,d.1.q4.1,d.1.q4.2.1,()),d.1.q4.2.2.1,d.1.q4.2.2.2.1,d.1.q4.q4.1,()),(d.1.q4.q4.2.1,(jeZ d),(je7 d),d.1.q4.q4.q4.1,d.1.q4.q4.q4.2.1,(jfX d),(jgi d),d.1.q4.q4.q4.q4.1,d.1.q4.q4.q4.q4.2.1,d.1.q4.q4.q4.q4.2.2.1,()),(jhV d),(jhU d),(jhg d),(je0 d)*(jeZ d)*max (je7 d) (jfI d),d.1.q4.q4.q4.q4.q4.2.2.2)
abbrev jhW (d:XbD×Int×Unit):=((je0 d)*(jeZ d)*max (je7 d) (jfI d)*(jfX d)*gu (jhh d))
def Af:Prop:=∀(d:XbD×Int×Unit),E4 (vi d.1)->0<=d.2.1->d.2.1<=300->wn (jfW d)/\wn ((je0 d)*(jeZ d))/\0<=d.1.q4.q4.1-d.1.q4.2.2.2.1/\0<d.1.q4.q4.2.1/\d.1.q4.q4.1-d.1.q4.2.2.2.1<=4611686018427387904/\d.1.q4.q4.2.1<=1000000000/\wn ((je0 d)*(jeZ d)*max (je7 d) (jfI d))/\wn ((je0 d)*(jeZ d)*max (je7 d) (jfI d)*(jfX d))/\E4 (jhh d)/\wn (jhW d)/\wn ((100:Int)*(jfW d))/\0<=(je0 d)*(jeZ d)*max (je7 d) (jfI d)*(jfX d)*gu (jhh d)/\(0:Int)<100*(jfW d)/\(je0 d)*(jeZ d)*max (je7 d) (jfI d)*(jfX d)*gu (jhh d)<=4611686018427387904/\(100:Int)*(jfW d)<=1000000000/\wn ((je0 d)*(jeZ d)*max (je7 d) (jfI d)+U.up (jhW d) ((100:Int)*(jfW d)))/\wn ((je0 d)*(jgi d))/\wn ((je0 d)*(jgi d)*d.2.1)/\()=()/\((d.1.1,d.1.2.1,d.1.2.2.1,d.1.2.2.2.1,d.1.q4.1,d.1.q4.2.1,d.1.q4.2.2.1,d.1.q4.2.2.2.1,d.1.q4.q4.1,d.1.q4.q4.2.1,(jeZ d),(je7 d),d.1.q4.q4.q4.1,d.1.q4.q4.q4.2.1,(jfX d),(jgi d),d.1.q4.q4.q4.q4.1,d.1.q4.q4.q4.q4.2.1,d.1.q4.q4.q4.q4.2.2.1,(jhV d),(jhU d),(jhg d),(je0 d)*(jeZ d)*max (je7 d) (jfI d)+U.up (jhW d) ((100:Int)*(jfW d)),(je0 d)*(jgi d)*d.2.1,d.1.q4.q4.q4.q4.q4.q4),())=((d.1.1,d.1.2.1,d.1.2.2.1,d.1.2.2.2.1,d.1.q4.1,d.1.q4.2.1,d.1.q4.2.2.1,d.1.q4.2.2.2.1,d.1.q4.q4.1,d.1.q4.q4.2.1,(jeZ d),(je7 d),d.1.q4.q4.q4.1,d.1.q4.q4.q4.2.1,(jfX d),(jgi d),d.1.q4.q4.q4.q4.1,d.1.q4.q4.q4.q4.2.1,d.1.q4.q4.q4.q4.2.2.1,(jhV d),(jhU d),(jhg d),bE (vi d.1),cz d.2.1 (vi d.1),tw (vi d.1),pT (vi d.1),()),())
def EC:qS:=⟨[.own blS true,.val .int],[],fun _=>[],fun d=>((),(blX d.1 (pS (vi d.1)) (E3 (vi d.1)) (WC d.2.1 (vi d.1)) (WD d.2.1 (vi d.1)),()))⟩
abbrev jiH (d:XbD×Int×Unit):=((d.1.1,d.1.2.1,d.1.2.2.1,d.1.2.2.2.1,d.1.q4.1,d.1.q4.2.1,d.1.q4.2.2.1,d.1.q4.2.2.2.1,d.1.q4.q4.1,d.1.q4.q4.2.1,d.1.q4.q4.2.2.1,d.1.q4.q4.2.2.2.1,d.1.q4.q4.q4.1,d.1.q4.q4.q4.2.1,d.1.q4.q4.q4.2.2.1,d.1.q4.q4.q4.2.2.2.1,d.1.q4.q4.q4.q4.1,d.1.q4.q4.q4.q4.2.1,d.1.q4.q4.q4.q4.2.2.1,d.1.q4.q4.q4.q4.2.2.2.1,d.1.q4.q4.q4.q4.q4.1,d.1.q4.q4.q4.q4.q4.2.1,pS (vi d.1),E3 (vi d.1),WC d.2.1 (vi d.1),WD d.2.1 (vi d.1),()),())
abbrev jiI (d:XbD×Int×Unit):=(decide (d.2.1<=d.1.q4.2.2.2.1)&&(!d.1.q4.q4.q4.q4.q4.q4.1||decide (d.2.1<d.1.q4.q4.q4.q4.q4.q4.2.1)))
def ED:Prop:=∀(d:XbD×Int×Unit),((jiI d)=true->()=()/\((d.1.1,d.1.2.1,d.1.2.2.1,d.1.2.2.2.1,d.1.q4.1,d.1.q4.2.1,d.1.q4.2.2.1,d.1.q4.2.2.2.1,d.1.q4.q4.1,d.1.q4.q4.2.1,d.1.q4.q4.2.2.1,d.1.q4.q4.2.2.2.1,d.1.q4.q4.q4.1,d.1.q4.q4.q4.2.1,d.1.q4.q4.q4.2.2.1,d.1.q4.q4.q4.2.2.2.1,d.1.q4.q4.q4.q4.1,d.1.q4.q4.q4.q4.2.1,d.1.q4.q4.q4.q4.2.2.1,d.1.q4.q4.q4.q4.2.2.2.1,d.1.q4.q4.q4.q4.q4.1,d.1.q4.q4.q4.q4.q4.2.1,d.1.q4.q4.q4.q4.q4.2.2.1,d.1.q4.q4.q4.q4.q4.2.2.2.1,true,d.2),())=(jiH d))/\((jiI d)=false->()=()/\(d.1,())=(jiH d))
def Ag:wO:=⟨[.val tNo,.ref tBl],[.bool],false,fun d=>[E4 d.2.1],fun d=>(fh d.2.1 d.1,())⟩
def Ah:Prop:=∀(d:(Int×Int×Unit)×BlD×Unit),E4 d.2.1->wn (d.2.1.1.2.2.1-d.2.1.q4.q4.1)/\(decide (d.1.1<=d.2.1.1.2.2.1-d.2.1.q4.q4.1),())=(fh d.2.1 d.1,())
def EE:wO:=⟨[.val tBl],[tLn],false,fun d=>[pO d.1],fun d=>(vG d.1,())⟩
abbrev jgI (d:BlD×Unit):=(kZ fun(a:(Int×Int×Unit)×Unit)=>(fh d.1 a.1,()))
abbrev jfq (d:BlD×Unit):=d.1.2.1.q4.2.2.2.1
abbrev jfJ (d:BlD×Unit):=d.1.2.1.q4.q4.2.1
abbrev jhX (d:BlD×Unit):=(nth (jfJ d) (yZ (jgI d) (jfJ d)).toNat)
abbrev jeR (d:BlD×Unit):=d.1.q4.2.1
abbrev jgJ (d:BlD×Unit):=(((jeR d)+d.1.q4.2.2.1)*nth d.1.2.1.q4.q4.1 d.1.1.1.q4.1.toNat)
abbrev jgK (d:BlD×Unit):=(((jeR d)+0)*nth d.1.2.1.q4.q4.1 d.1.1.1.q4.1.toNat)
abbrev jfY (d:BlD×Unit):=((jeR d)*(jhX d).2.1)
abbrev jgL (d:BlD×Unit):=((U.up (jfY d) (100:Int)+0)*nth d.1.2.1.q4.q4.1 d.1.1.1.q4.1.toNat)
abbrev jhY (d:BlD×Unit):=(d.1.2.1.q4.q4.1.length:Int)
def EF:Prop:=∀(d:BlD×Unit),pO d.1->(d.1.q4.2.2.2.1=true->(∀(g:Int×Int×Unit),g∈(jfJ d)->wu [E4 d.1])/\(decide (0<=yZ (jgI d) (jfJ d))=true->0<=yZ (jgI d) (jfJ d)/\yZ (jgI d) (jfJ d)<((jfJ d).length:Int)/\wn (jfY d)/\0<=(jeR d)*(jhX d).2.1/\(0:Int)<100/\(jeR d)*(jhX d).2.1<=4611686018427387904/\(100:Int)<=1000000000/\wn (U.up (jfY d) (100:Int)+0)/\0<=d.1.1.1.q4.1/\d.1.1.1.q4.1<(jhY d)/\wn (jgL d)/\(100:Int)≠0/\wn ((jgL d).tdiv (100:Int))/\wn (U.up (jfY d) (100:Int)+0)/\wn (U.up (jfY d) (100:Int)+0-min (jfq d) ((jgL d).tdiv (100:Int)))/\((d.1.2.2.2.1,d.1.2.2.1,U.up (jfY d) (100:Int),(0:Int),min (jfq d) ((jgL d).tdiv (100:Int)),U.up (jfY d) (100:Int)+0-min (jfq d) ((jgL d).tdiv (100:Int)),()),())=(vG d.1,()))/\(decide (0<=yZ (jgI d) (jfJ d))=false->wn ((jeR d)+0)/\0<=d.1.1.1.q4.1/\d.1.1.1.q4.1<(jhY d)/\wn (jgK d)/\(100:Int)≠0/\wn ((jgK d).tdiv (100:Int))/\wn ((jeR d)+0)/\wn ((jeR d)+0-min (jfq d) ((jgK d).tdiv (100:Int)))/\((d.1.2.2.2.1,d.1.2.2.1,(jeR d),(0:Int),min (jfq d) ((jgK d).tdiv (100:Int)),(jeR d)+0-min (jfq d) ((jgK d).tdiv (100:Int)),()),())=(vG d.1,())))/\(d.1.q4.2.2.2.1=false->wn ((jeR d)+d.1.q4.2.2.1)/\0<=d.1.1.1.q4.1/\d.1.1.1.q4.1<(jhY d)/\wn (jgJ d)/\(100:Int)≠0/\wn ((jgJ d).tdiv (100:Int))/\wn ((jeR d)+d.1.q4.2.2.1)/\wn ((jeR d)+d.1.q4.2.2.1-min (jfq d) ((jgJ d).tdiv (100:Int)))/\((d.1.2.2.2.1,d.1.2.2.1,(jeR d),d.1.q4.2.2.1,min (jfq d) ((jgJ d).tdiv (100:Int)),(jeR d)+d.1.q4.2.2.1-min (jfq d) ((jgJ d).tdiv (100:Int)),()),())=(vG d.1,()))
def Ai:wO:=⟨[.val tBl,.val .int],[.int],false,fun d=>[pO d.1,-100000<=d.2.1,d.2.1<=1440],fun d=>(gC d.2.1 d.1,())⟩
abbrev jhi (d:BlD×Int×Unit):=(vi (d.1.1.1.1,d.1.1.1.2.1,d.1.1.1.2.2.1,d.1.1.1.2.2.2.1,d.1.1.1.q4.1,d.1.1.1.q4.2.1,d.1.1.2.1,d.1.1.2.2.1,d.1.1.2.2.2.1,d.1.2.1.1,d.1.2.1.2.1,d.1.2.1.2.2.1,d.1.2.1.2.2.2.1,d.1.2.1.q4.1,d.1.2.1.q4.2.1,d.1.2.1.q4.2.2.1,d.1.2.1.q4.2.2.2.1,d.1.2.1.q4.q4.1,d.1.2.1.q4.q4.2.1,d.1.2.2))
abbrev jiJ (d:BlD×Int×Unit):=(d.1.1,d.1.2.1,d.1.2.2.1,d.1.2.2.2.1,d.1.q4.1,pS (jhi d),E3 (jhi d),WC d.2.1 (jhi d),WD d.2.1 (jhi d),())
def Aj:Prop:=∀(d:BlD×Int×Unit),pO d.1->(-100000:Int)<=d.2.1->d.2.1<=1440->pO (jiJ d)/\(vG (jiJ d)).q4.2=(gC d.2.1 d.1,())
theorem Sj:N5:=fun _=>rfl
theorem yx:wX PR 37 aF:=wJ Sj Tryz.func37 kcN koN
theorem V2:Si:=fun _=>rfl
theorem Ga:wX PR 87 bV:=wJ V2 Tryz.func87 (kcC yx kcN) koN
theorem mr:lg:=by
 rintro⟨l,f,⟨⟩⟩ a g;refine⟨⟨0,⟨⟨rfl,tZ⟩,tZ⟩,jp _,fun b c=>by omega⟩,fun i hi=>⟨fun h=> ?_,fun h=> ?_⟩⟩;have h:i<l.length:=(by simpa using h);simp only at*;refine⟨by omega,by omega,vI _ (a _ (L.we h)) ⟨fun c=> ?_,fun c=>⟨iZ6,i+1,⟨⟨by simp,tZ⟩,tZ⟩,⟨by omega,fun b d=> ?_⟩,by omega⟩⟩⟩;rw[yE (p:=kZ (α:=NoD) f.F) h hi.2 c];by_cases e:b=i;subst e;exact c;exact hi.2 b (by omega);have h:l.length<=i:=(by simpa using h);rw[vn (p:=kZ (α:=NoD) f.F) h hi.2]
theorem lh:wX PR 70 ld:=vF lf mr Tryz.func70 kcN koN
theorem pI:nP:=by
 rintro⟨l,f,⟨⟩⟩ a g;refine⟨⟨0,⟨⟨rfl,tZ⟩,tZ⟩,jp _,fun b c=>by omega⟩,fun i hi=>⟨fun h=> ?_,fun h=> ?_⟩⟩;have h:i<l.length:=(by simpa using h);simp only at*;refine⟨by omega,by omega,vI _ (a _ (L.we h)) ⟨fun c=> ?_,fun c=>⟨iZ6,i+1,⟨⟨by simp,tZ⟩,tZ⟩,⟨by omega,fun b d=> ?_⟩,by omega⟩⟩⟩;rw[yE (p:=kZ (α:=CaD) f.F) h hi.2 c];by_cases e:b=i;subst e;exact c;exact hi.2 b (by omega);have h:l.length<=i:=(by simpa using h);rw[vn (p:=kZ (α:=CaD) f.F) h hi.2]
theorem nQ:wX PR 134 nN:=vF nO pI Tryz.func134 kcN koN
theorem li:ir:=by
 rintro⟨l,f,⟨⟩⟩ a;refine⟨a,?_⟩;exact jF (·,()) (fV (kZ (α:=CaD) f.F) l)
theorem iu:wX PR 89 iq:=wJ li Tryz.func89 (kcC nQ kcN) koN
theorem Dl:Ad:=by
 intro d h;exact vI _ h rfl
theorem Ak:wX PR 85 Ac:=wJ Dl Tryz.func85 kcN koN
theorem HS:EB:=by
 intro d h;exact⟨fun g a=>⟨h g a,tZ⟩,jF (·,()) (rY d.snd.fst.2 d.fst)⟩
theorem og:wX PR 52 dA:=wJ HS Tryz.func52 (kcC yG (kcC Ak kcN)) koN
theorem Al:uy:=by
 intro d h;exact vI _ h rfl
theorem uz:wX PR 90 ux:=wJ Al Tryz.func90 kcN koN
theorem EG:Di:=by
 intro d h;exact⟨fun g a=>⟨h g a,tZ⟩,jF (·,()) (rY d.snd.fst.2 d.fst)⟩
theorem Dm:wX PR 56 Dh:=wJ EG Tryz.func56 (kcC iu (kcC uz kcN)) koN
theorem N8:KM:=by
 rintro⟨c,m,⟨⟩⟩ a b;have a:0<=m:=a;have b:m<=4611686018427387904:=b;exact⟨fun _=>L.E9 (by show _<=m-1;omega) (by show m-1<=_;omega),rfl⟩
theorem KR:wX PR 51 KL:=wJ N8 Tryz.func51 (kcC yx kcN) koN
theorem N9:KO:=fun _=>rfl
theorem KS:wX PR 53 KN:=wJ N9 Tryz.func53 (kcC yx kcN) koN
theorem Oa:KQ:=fun _=>rfl
theorem KT:wX PR 54 KP:=wJ Oa Tryz.func54 (kcC yx kcN) koN
theorem jcJ:ja5:=by
 rintro⟨a,b,⟨⟩⟩ c d e f;have c:0<=a:=c;have d:0<b:=d;have e:a<=4611686018427387904:=e;have f:b<=1000000000:=f;have g:=VW c d;refine⟨L.E9 (by show _<=a+b;omega) (by show a+b<=_;omega),L.E9 (by show _<=a+b-1;omega) (by show a+b-1<=_;omega),by show b≠0;omega,De (x:=U.up a b) (B:=4611686018427387904) ⟨g.1,by omega⟩ (by omega),rfl⟩
theorem V3:wX PR 72 ja4:=wJ jcJ Tryz.func72 kcN koN
theorem Sk:N7:=fun _=>rfl
theorem Oc:wX PR 59 N6:=wJ Sk Tryz.func59 kcN koN
theorem uA:sO:=by
 intro d a b;have a:(wm (wv (bw d.1))).length<=100:=a;exact⟨L.E9 (by show _<=((wm (wv (bw d.1))).length:Int)-1;omega) (by show((wm (wv (bw d.1))).length:Int)-1<=_;omega),rfl⟩
theorem gY:wX PR 36 sN:=wJ uA Tryz.func36 (kcC yx kcN) koN
theorem EH:Dk:=by
 unfold Dk jhT jhS Prod.q4;rintro⟨b,⟨⟩⟩ a;have h:Df b:=sL.1 a;have d:=h.st;have e:=h.en;have f:=h.e2;have g:=h.ta.dk;have i:=h.ta.dw;have c:=P2 h;refine⟨?_,?_,De (B:=2880) c (by omega),rfl⟩;show wn (dI (vb b)-max (qP (vb b)) (YO (gH b)));exact iZ6;show wn (min (dI (vb b)) (jbA (gH b))-qP (vb b));exact iZ6
theorem Dn:wX PR 108 Dj:=wJ EH Tryz.func108 kcN koN
theorem Do:Af:=by
 unfold Af jhW jhh jhV jhU je0 jhg jgi jfX jeZ je7 jfI jfW Prod.q4;intro d k v w;obtain⟨b,B⟩:∃b,b=vi d.1:=⟨_,rfl⟩;have h:Df (vi d.1):=sL.1 k;have x:=h.st;have y:=h.en;have z:=h.e2;have A:=h.ta.un;have l:=jcG h;have j:=Zr h;have m:=VX h;have n:wn (dI (vb (vi d.1))-qP (vb (vi d.1))):=iZ6;have e2:0<=dI (vb (vi d.1))-qP (vb (vi d.1)):=(by omega);have o:0<WT (gH (vi d.1)):=(by omega);have p:dI (vb (vi d.1))-qP (vb (vi d.1))<=4611686018427387904:=(by omega);have q:WT (gH (vi d.1))<=1000000000:=(by omega);have r:wn (100*(dI (vb (vi d.1))-qP (vb (vi d.1)))):=iZ6;have s:100*(dI (vb (vi d.1))-qP (vb (vi d.1)))<=1000000000:=(by omega);have t:wn (bE (vi d.1)):=De m (by omega);have u:wn (cz d.2.1 (vi d.1)):=De (VY h ⟨v,w⟩) (by omega);have a:=De (jcE h) (by omega);have c:=De (N1 h) (by omega);have e:=De (jcF h) (by omega);have f:=De j (by omega);have g:mJ (vi d.1)*WU (gH (vi d.1))*gu (vi d.1)<=4611686018427387904:=(by omega);have i:=De (jcI h) (by omega);exact⟨n,a,e2,o,p,q,c,e,k,f,r,j.1,l.1,g,s,t,i,u,rfl,rfl⟩
theorem Am:gE PR 68 Ae:=Cg Do Tryz.func68 (kcC V3 (kcC Dn kcN)) koN
theorem Od (m:Int) (b:BlD):gn m b=(vb b,gH b,Qi b,Qj b,qO b,pS b,E3 b,WC m b,WD m b,()):=by
 unfold WC WD gn
 split
 rfl;rfl
theorem HT:ED:=by
 unfold ED jiI jiH Prod.q4;intro d;have a:(decide (d.2.1<=qP (vb (vi d.1)))&&(!tw (vi d.1)||decide (d.2.1<pT (vi d.1))))=true↔(d.2.1<=qP (vb (vi d.1))/\(tw (vi d.1)=false\/d.2.1<pT (vi d.1))):=by
  simp only[ji,zr,jo,jQ]
 refine⟨fun h=>⟨rfl,?_⟩,fun h=>⟨rfl,?_⟩⟩;have e:gn d.2.1 (vi d.1)=(vb (vi d.1),gH (vi d.1),Qi (vi d.1),Qj (vi d.1),qO (vi d.1),pS (vi d.1),E3 (vi d.1),true,d.2.1,()):=by
  unfold gn;rw[je (a.1 h)]
 have b:WC d.2.1 (vi d.1)=true:=jF tw e;have e2:WD d.2.1 (vi d.1)=d.2.1:=jF pT e;rw[b,e2];rfl;have h:(decide (d.2.1<=qP (vb (vi d.1)))&&(!tw (vi d.1)||decide (d.2.1<pT (vi d.1))))=false:=h;have e:gn d.2.1 (vi d.1)=vi d.1:=by
  unfold gn;rw[jd (fun c=>by rw[a.2 c] at h;cases h)]
 have b:WC d.2.1 (vi d.1)=tw (vi d.1):=jF tw e;have e2:WD d.2.1 (vi d.1)=pT (vi d.1):=jF pT e;rw[b,e2];rfl
theorem oh:gE PR 69 EC:=Cg HT Tryz.func69 kcN koN
theorem Dp:Ah:=by
 unfold Ah Prod.q4;rintro⟨n,b,⟨⟩⟩ a;have h:Df b:=sL.1 a;have c:=h.st;have d:=h.en;have e:=h.e2;have f:=h.mi;refine⟨?_,rfl⟩;show wn (qP (vb b)-pT b);exact iZ6
theorem An:wX PR 71 Ag:=wJ Dp Tryz.func71 kcN koN
theorem HU:EF:=by
 unfold EF jhY jgL jfY jgK jgJ jeR jhX jfJ jfq jgI Prod.q4;rintro⟨b,⟨⟩⟩ m;have h:Ip b:=aL.1 m;have hk:=h.bl.kd;have k:mB (gN (vb b))<((ff (gH b)).length:Int):=(by have:=VZ h.bl;omega);have l:=Zs h.bl;have j:=h.bl.ta.cp;refine⟨fun a=>⟨fun g _=>⟨m.1,tZ⟩,fun hi=> ?_,fun hi=> ?_⟩,fun a=> ?_⟩;have hi:0<=SM b:=ja hi;obtain⟨o,p,_⟩:=KI hi;have f:=P3 h o;have n:=VW (b:=100) f.1 (by omega);have d:vo b=U.up (pS b*Zy (nth (fq (gH b)) (SM b).toNat)) 100:=je ⟨a,hi⟩;have c:vV b=0:=je a;refine⟨hi,p,De f (by omega),f.1,by decide,Int.le_trans f.2 (by decide),by decide,?_⟩;refine N2 (w:=U.up (pS b*Zy (nth (fq (gH b)) (SM b).toNat)) 100) (t:=0) (cp:=WA (gH b)) (pc:=nth (ff (gH b)) (mB (gN (vb b))).toNat) ⟨n.1,Int.le_trans n.2 f.2⟩ ⟨by omega,by omega⟩ j l hk.1 k ?_;have e:vG b=(Qj b,Qi b,vo b,vV b,min (WA (gH b)) (((vo b+vV b)*nth (ff (gH b)) (mB (gN (vb b))).toNat).tdiv 100),vo b+vV b-min (WA (gH b)) (((vo b+vV b)*nth (ff (gH b)) (mB (gN (vb b))).toNat).tdiv 100),()):=rfl;rw[d,c] at e;show _=(vG b,());rw[e];rfl;have hi:¬0<=SM b:=jc hi;have d:vo b=pS b:=jd (fun i=>hi i.2);have c:vV b=0:=je a;refine N2 (w:=pS b) (t:=0) (cp:=WA (gH b)) (pc:=nth (ff (gH b)) (mB (gN (vb b))).toNat) ⟨h.wk.1,by have:=h.wk.2;omega⟩ ⟨by omega,by omega⟩ j l hk.1 k ?_;have e:vG b=(Qj b,Qi b,vo b,vV b,min (WA (gH b)) (((vo b+vV b)*nth (ff (gH b)) (mB (gN (vb b))).toNat).tdiv 100),vo b+vV b-min (WA (gH b)) (((vo b+vV b)*nth (ff (gH b)) (mB (gN (vb b))).toNat).tdiv 100),()):=rfl;rw[d,c] at e;show _=(vG b,());rw[e];rfl;have a:tw b=false:=a;have d:vo b=pS b:=jd (fun i=>by rw[a] at i;cases i.1);have c:vV b=E3 b:=jd (by rw[a];decide);refine N2 (w:=pS b) (t:=E3 b) (cp:=WA (gH b)) (pc:=nth (ff (gH b)) (mB (gN (vb b))).toNat) ⟨h.wk.1,by have:=h.wk.2;omega⟩ h.tr j l hk.1 k ?_;have e:vG b=(Qj b,Qi b,vo b,vV b,min (WA (gH b)) (((vo b+vV b)*nth (ff (gH b)) (mB (gN (vb b))).toNat).tdiv 100),vo b+vV b-min (WA (gH b)) (((vo b+vV b)*nth (ff (gH b)) (mB (gN (vb b))).toNat).tdiv 100),()):=rfl;rw[d,c] at e;show _=(vG b,());rw[e];rfl
theorem aM:wX PR 38 EE:=wJ HU Tryz.func38 (kcC V3 (kcC lh (kcC An kcN))) koN
theorem Dq:Aj:=by
 unfold Aj jiJ jhi Prod.q4;rintro⟨b,m,⟨⟩⟩ a c d;have e:=Od m b;have h:Ip b:=aL.1 a;have hk:=aL.2 (HR (m:=m) h ⟨c,d⟩);refine⟨?_,?_⟩;show pO (vb b,gH b,Qi b,Qj b,qO b,pS b,E3 b,WC m b,WD m b,());rw[<-e];exact hk;show(vG (vb b,gH b,Qi b,Qj b,qO b,pS b,E3 b,WC m b,WD m b,())).2.2.2.2.2=_;rw[<-e];rfl
theorem iJ:wX PR 39 Ai:=wJ Dq Tryz.func39 (kcC aM kcN) (koC oh koN)
@[irreducible] def Yr (C:Ctx) (A:Ann) (c:Code) (σ:St) (K:Ex->St->Prop):Prop:=vcg C A c σ K
theorem Ys {C:Ctx} {A:Ann} {c:Code} {σ:St} {K:Ex->St->Prop} (h:Yr C A c σ K):vcg C A c σ K:=by unfold Yr at h;exact h
structure FE where
 pre:NoD×Unit->Int->List Prop
 K:NoD×Unit->Int->(Bool×Unit)×Int
namespace U
def gS (K:NoD×Unit->Int->(Bool×Unit)×Int):NoD×Unit->Int->(Bool×Unit)×Int:=fun x s=>((!(K (x.1,()) s).1.1,()),(K (x.1,()) s).2)
def DM (pre:NoD×Unit->Int->List Prop):NoD×Unit->Int->List Prop:=fun x s=>[wu (pre (x.1,()) s)]
def vT (K:NoD×Unit->Int->(Bool×Unit)×Int):Nat->List NoD->Int->Int×Int
 |_,[],s=>(-1,s)
 |i,n::r,s=>match(K (n,()) s).1.1 with
  |true=>((i:Int),(K (n,()) s).2)
  |false=>vT K (i+1) r (K (n,()) s).2
def cL (pre:NoD×Unit->Int->List Prop) (K:NoD×Unit->Int->(Bool×Unit)×Int):List NoD->Int->Prop
 |[],_=>True
 |n::r,s=>wu (pre (n,()) s)/\((K (n,()) s).1.1=false->cL pre K r (K (n,()) s).2)
def Ql:NoD×Unit->Int->(Bool×Unit)×Int:=fun x s=>((In s x.1,()),WS x.1)
def jc1:NoD×Unit->Int->List Prop:=fun _ s=>[-4611686018427387904<=s,s<=4611686018427387904]
end U
def ja6 (st:Ty) (ps rs:List Ty) (pre:(Ty.st ps).Data->st.Data->List Prop) (K:(Ty.st ps).Data->st.Data->(Ty.st rs).Data×st.Data):Option FE:=
 if a:st= .int then if b:ps=[tNo] then if c:rs=[.bool] then some ⟨by subst a;subst b;exact pre,by subst a;subst b;subst c;exact K⟩ else none else none else none
def jde:SV->Option (Nat×FE)
 | .fe false o T st ps rs pre K=>match Nat.beq T 3,ja6 st ps rs pre K with
  |true,some y=>some (o,y)
  |_,_=>none
 |_=>none
def jdz (σ:St) (b:Nat):Option (Nat×FE):=match σ.obj b with
 |some (.box _ _ [c])=>jde c
 |_=>none
def V4 (σ:St) (o:Nat):Option Int:=match σ.obj o with
 |some (.box T false [c])=>match Nat.beq T 3,yO σ .int c with
  |true,some (s,[])=>some s
  |_,_=>none
 |_=>none
def V5 (σ:St):List SV->Option Out
 |[a,b]=>match yO σ (.slice tNo) a,jde b with
  |some (l,fz),some (o,y)=>match bG fz o,V4 σ o with
   |false,some s=>some ⟨[cL y.pre y.K l s],[],xp [.int] ((vT y.K 0 l s).1,()),fz,[(o,some (.box 3 false [.dat .int (vT y.K 0 l s).2]))],[]⟩
   |_,_=>none
  |_,_=>none
 |_=>none
def V6 (σ:St):List SV->Option Out
 |[a,.clo f [.bp b 0]]=>match Nat.beq f 133,yO σ (.slice tNo) a,jdz σ b with
  |true,some (l,fz),some (o,y)=>match bG (b::fz) o,V4 σ o with
   |false,some s=>some ⟨[cL (DM y.pre) (gS y.K) l s],[],xp [.bool] (decide (0<=(vT (gS y.K) 0 l s).1),()),b::fz,[(o,some (.box 3 false [.dat .int (vT (gS y.K) 0 l s).2]))],[]⟩
   |_,_=>none
  |_,_,_=>none
 |_=>none
def Yt (σ:St):List SV->Option Out
 |[a,.clo f [.bp o 0]]=>match Nat.beq f 86,yO σ (.slice tNo) a with
  |true,some (l,fz)=>match bG fz o,V4 σ o with
   |false,some s=>some ⟨[cL (DM jc1) (gS Ql) l s],[],xp [.bool] (!decide (0<=(vT (gS Ql) 0 l s).1),()),fz,[(o,some (.box 3 false [.dat .int (vT (gS Ql) 0 l s).2]))],[]⟩
   |_,_=>none
  |_,_=>none
 |_=>none
def Zt (n:Nat) (fs:List (Nat×wO)) (k:Nat) (e:St->List SV->Option Out):Ctx:=⟨n,ti,fs,fun f _ σ svs=>match Nat.beq f k with|true=>e σ svs|false=>none,strs,false⟩
def dB:Prop:=∀(n:NoD) (s:Int),-4611686018427387904<=s->s<=4611686018427387904->
 Yr (ctx 18 [(37,aF),(87,bV)] []) (fun _=>none) (w6 Tryz.f86) ⟨[(0,.dat tNo n),(1,.bp ga 0)],[(ga,some (.box 3 false [.dat .int s]))]⟩
  (lO (ctx 18 [(37,aF),(87,bV)] []) Tryz.f86 3 .int [.bool] (Ql (n,()) s))
def mw:Prop:=∀(n:NoD) (s:Int),(-4611686018427387904:Int)<=s->s<=4611686018427387904->wn (s-1)/\(kX n.1 (0:Int) (s-1)&&U.share n.2.1,())=(Ql (n,()) s).1/\n.1=(Ql (n,()) s).2
theorem sP:(dB)=mw:=by kernel_rfl
def gZ:Prop:=∀(n:NoD) (y:FE) (s:Int),wu (y.pre (n,()) s)->
 Yr (ctx 8 [] []) (fun _=>none) (w6 Tryz.f133) ⟨[(0,.dat tNo n),(1,.fe true ga 3 .int [tNo] [.bool] y.pre y.K)],[(ga,some (.box 3 false [.dat .int s]))]⟩
  (lO (ctx 8 [] []) Tryz.f133 3 .int [.bool] (gS y.K (n,()) s))
def cm:Prop:=∀(n:NoD) (y:FE) (s:Int),wu (y.pre (n,()) s)->asks (y.1 (n,()) s) ((!(y.2 (n,()) s).1.1,())=(gS y.2 (n,()) s).1/\(y.2 (n,()) s).2=(gS y.2 (n,()) s).2)
theorem lj:(gZ)=cm:=by kernel_rfl
def V7 (K:NoD×Unit->Int->(Bool×Unit)×Int) (pre:NoD×Unit->Int->List Prop) (s:Int):Ann:=fun r=>match r with
 |2=>some fun σ=>{X:=Nat×Int,sl:=fun x=>[(8,.dat .int (x.1:Int))],ob:=fun x=>[(ga,some (.box 3 false [.dat .int x.2]))],inv:=fun x=>x.1<=(gd (.slice tNo) σ 0).length/\vT K x.1 ((gd (.slice tNo) σ 0).drop x.1) x.2=vT K 0 (gd (.slice tNo) σ 0) s/\cL pre K ((gd (.slice tNo) σ 0).drop x.1) x.2,mu:=fun x=>(gd (.slice tNo) σ 0).length-x.1}
 |_=>none
def eQ:Prop:=∀(l:List NoD) (y:FE) (s:Int),cL y.pre y.K l s->
 Yr (ctx 19 [] []) (V7 y.K y.pre s) (w6 Tryz.f70) ⟨[(0,.dat (.slice tNo) l),(1,.fe false ga 3 .int [tNo] [.bool] y.pre y.K)],[(ga,some (.box 3 false [.dat .int s]))]⟩
  (lO (ctx 19 [] []) Tryz.f70 3 .int [.int] (((vT y.K 0 l s).1,()),(vT y.K 0 l s).2))
abbrev jgM (l:List NoD)(x:Nat×Int):=(nth l (x.1:Int).toNat,())
def gz:Prop:=∀(l:List NoD) (y:FE) (s:Int),cL y.pre y.K l s->l.length<4611686018427387904->(∃(x:Nat×Int),((0=(x.1:Int)/\True)/\(s=x.2/\True)/\True)/\x.1<=l.length/\vT y.2 x.1 (List.drop x.1 l) x.2=vT y.2 0 l s/\cL y.1 y.2 (List.drop x.1 l) x.2)/\∀(x:Nat×Int),x.1<=l.length/\vT y.2 x.1 (List.drop x.1 l) x.2=vT y.2 0 l s/\cL y.1 y.2 (List.drop x.1 l) x.2->(decide ((x.1:Int)<l.length)=true->0<=(x.1:Int)/\(x.1:Int)<l.length/\asks (y.1 (jgM l x) x.2) (((y.2 (jgM l x) x.2).1.1=true->((x.1:Int),())=((vT y.2 0 l s).1,())/\(y.2 (jgM l x) x.2).2=(vT y.2 0 l s).2)/\((y.2 (jgM l x) x.2).1.1=false->wn ((x.1:Int)+1)/\∃(a:Nat×Int),(((x.1:Int)+1=(a.1:Int)/\True)/\((y.2 (jgM l x) x.2).2=a.2/\True)/\True)/\(a.1<=l.length/\vT y.2 a.1 (List.drop a.1 l) a.2=vT y.2 0 l s/\cL y.1 y.2 (List.drop a.1 l) a.2)/\l.length-a.1<l.length-x.1)))/\(decide ((x.1:Int)<l.length)=false->((-1:Int),())=((vT y.2 0 l s).1,())/\x.2=(vT y.2 0 l s).2)
theorem bL:(eQ)=gz:=by kernel_rfl
def cn:Prop:=∀(l:List NoD) (y:FE) (s:Int),cL y.pre y.K l s->
 Yr (Zt 9 [] 70 V5) (fun _=>none) (w6 Tryz.f132) ⟨[(0,.dat (.slice tNo) l),(1,.fe false ga 3 .int [tNo] [.bool] y.pre y.K)],[(ga,some (.box 3 false [.dat .int s]))]⟩
  (lO (Zt 9 [] 70 V5) Tryz.f132 3 .int [.bool] ((decide (0<=(vT y.K 0 l s).1),()),(vT y.K 0 l s).2))
def yK:Prop:=∀(l:List NoD) (y:FE) (s:Int),cL y.pre y.K l s->cL y.1 y.2 l s/\(decide (0<=(vT y.2 0 l s).1),())=(decide (0<=(vT y.2 0 l s).1),())/\(vT y.2 0 l s).2=(vT y.2 0 l s).2
theorem aG:(cn)=yK:=by kernel_rfl
def Ao:Prop:=∀(l:List NoD) (y:FE) (s:Int),cL (DM y.pre) (gS y.K) l s->
 Yr (Zt 9 [] 132 V6) (fun _=>none) (w6 Tryz.f88) ⟨[(0,.dat (.slice tNo) l),(1,.fe false ga 3 .int [tNo] [.bool] y.pre y.K)],[(ga,some (.box 3 false [.dat .int s]))]⟩
  (lO (Zt 9 [] 132 V6) Tryz.f88 3 .int [.bool] ((!decide (0<=(vT (gS y.K) 0 l s).1),()),(vT (gS y.K) 0 l s).2))
def eR:Prop:=∀(l:List NoD) (y:FE) (s:Int),cL (DM y.pre) (gS y.K) l s->cL (DM y.1) (gS y.2) l s/\(!decide (0<=(vT (gS y.2) 0 l s).1),())=(!decide (0<=(vT (gS y.2) 0 l s).1),())/\(vT (gS y.2) 0 l s).2=(vT (gS y.2) 0 l s).2
theorem nR:(Ao)=eR:=by kernel_rfl
def sQ:wO:=⟨[.val tTa],[.bool],false,fun _=>[],fun d=>(yf d.1,())⟩
def sR:Ann:=fun r=>match r with
 |3000003=>some fun _=>{X:=Unit,sl:=fun _=>[],ob:=fun _=>[],inv:=fun _=>True,mu:=fun _=>0}
 |_=>none
abbrev jfK:=(kZ fun(a:Int×Unit)=>(U.share a.1,()))
abbrev jfa (d:TaD×Unit):=((d.1.q4.q4.2.1.length:Int)<=4)
abbrev jfL (d:TaD×Unit):=((d.1.q4.q4.1.length:Int)=4)
abbrev jfb (d:TaD×Unit):=d.1.q4.2.2.2.1
abbrev je1 (d:TaD×Unit):=(yf d.1,())
abbrev jfc (d:TaD×Unit):=d.1.q4.2.2.1
def sS:Prop:=∀(d:TaD×Unit),(kX d.1.1 (1:Int) 240=true->kX d.1.1 (1:Int) 240=true/\kX d.1.1 (1:Int) 240=true/\kX d.1.1 (1:Int) 240=true/\(kX d.1.2.1 (0:Int) 10000=true->kX d.1.2.1 (0:Int) 10000=true/\kX d.1.2.1 (0:Int) 10000=true/\kX d.1.2.1 (0:Int) 10000=true/\(kX d.1.2.2.1 (0:Int) 20=true->kX d.1.2.2.1 (0:Int) 20=true/\kX d.1.2.2.1 (0:Int) 20=true/\kX d.1.2.2.1 (0:Int) 20=true/\(kX d.1.2.2.2.1 (0:Int) 1440=true->kX d.1.2.2.2.1 (0:Int) 1440=true/\kX d.1.2.2.2.1 (0:Int) 1440=true/\kX d.1.2.2.2.1 (0:Int) 1440=true/\kX d.1.2.2.2.1 (0:Int) 1440=true/\kX d.1.2.2.2.1 (0:Int) 1440=true/\(kX d.1.q4.1 (0:Int) d.1.2.2.2.1=true->kX d.1.q4.1 (0:Int) d.1.2.2.2.1=true/\kX d.1.q4.1 (0:Int) d.1.2.2.2.1=true/\kX d.1.q4.1 (0:Int) d.1.2.2.2.1=true/\(U.share d.1.q4.2.1=true->U.share d.1.q4.2.1=true/\U.share d.1.q4.2.1=true/\U.share d.1.q4.2.1=true/\(kX (jfc d) (0:Int) 10000=true->kX (jfc d) (0:Int) 10000=true/\kX (jfc d) (0:Int) 10000=true/\(d.1.q4.q4.1.length<4611686018427387904->kX (jfc d) (0:Int) 10000=true/\kX (jfc d) (0:Int) 10000=true/\(decide (jfL d)=true->decide (jfL d)=true/\decide (jfL d)=true/\(∀(g:Int),g∈d.1.q4.q4.1->wu [])/\decide (jfL d)=true/\(d.1.q4.q4.1.all jfK=true->d.1.q4.q4.1.all jfK=true/\d.1.q4.q4.1.all jfK=true/\d.1.q4.q4.1.all jfK=true/\(kX (jfb d) (0:Int) 1000000=true->kX (jfb d) (0:Int) 1000000=true/\kX (jfb d) (0:Int) 1000000=true/\(d.1.q4.q4.2.1.length<4611686018427387904->kX (jfb d) (0:Int) 1000000=true/\kX (jfb d) (0:Int) 1000000=true/\(decide (jfa d)=true->decide (jfa d)=true/\decide (jfa d)=true/\decide (jfa d)=true/\cL (DM jc1) (gS Ql) d.1.q4.q4.2.1 (100001:Int)/\decide (jfa d)=true/\(!decide (0<=(vT (gS Ql) 0 d.1.q4.q4.2.1 (100001:Int)).1),())=(je1 d))/\(decide (jfa d)=false->decide (jfa d)=false/\decide (jfa d)=false/\decide (jfa d)=false/\decide (jfa d)=false/\(false,())=(je1 d))))/\(kX (jfb d) (0:Int) 1000000=false->kX (jfb d) (0:Int) 1000000=false/\kX (jfb d) (0:Int) 1000000=false/\kX (jfb d) (0:Int) 1000000=false/\kX (jfb d) (0:Int) 1000000=false/\qF/\qF/\qF/\qF/\qF/\(false,())=(je1 d)))/\(d.1.q4.q4.1.all jfK=false->d.1.q4.q4.1.all jfK=false/\d.1.q4.q4.1.all jfK=false/\d.1.q4.q4.1.all jfK=false/\qF/\qF/\qF/\qF/\qF/\qF/\qF/\qF/\qF/\qF/\(false,())=(je1 d)))/\(decide (jfL d)=false->decide (jfL d)=false/\decide (jfL d)=false/\decide (jfL d)=false/\qF/\qF/\qF/\qF/\qF/\qF/\qF/\qF/\qF/\qF/\qF/\qF/\qF/\qF/\(false,())=(je1 d))))/\(kX (jfc d) (0:Int) 10000=false->kX (jfc d) (0:Int) 10000=false/\kX (jfc d) (0:Int) 10000=false/\kX (jfc d) (0:Int) 10000=false/\kX (jfc d) (0:Int) 10000=false/\qF/\qF/\qF/\qF/\qF/\qF/\qF/\qF/\qF/\qF/\qF/\qF/\qF/\qF/\qF/\qF/\qF/\qF/\(false,())=(je1 d)))/\(U.share d.1.q4.2.1=false->U.share d.1.q4.2.1=false/\U.share d.1.q4.2.1=false/\U.share d.1.q4.2.1=false/\qF/\qF/\qF/\qF/\qF/\qF/\qF/\qF/\qF/\qF/\qF/\qF/\qF/\qF/\qF/\qF/\qF/\qF/\qF/\qF/\qF/\qF/\qF/\(false,())=(je1 d)))/\(kX d.1.q4.1 (0:Int) d.1.2.2.2.1=false->kX d.1.q4.1 (0:Int) d.1.2.2.2.1=false/\kX d.1.q4.1 (0:Int) d.1.2.2.2.1=false/\kX d.1.q4.1 (0:Int) d.1.2.2.2.1=false/\qF/\qF/\qF/\qF/\qF/\qF/\qF/\qF/\qF/\qF/\qF/\qF/\qF/\qF/\qF/\qF/\qF/\qF/\qF/\qF/\qF/\qF/\qF/\qF/\qF/\qF/\qF/\(false,())=(je1 d)))/\(kX d.1.2.2.2.1 (0:Int) 1440=false->kX d.1.2.2.2.1 (0:Int) 1440=false/\kX d.1.2.2.2.1 (0:Int) 1440=false/\kX d.1.2.2.2.1 (0:Int) 1440=false/\kX d.1.2.2.2.1 (0:Int) 1440=false/\kX d.1.2.2.2.1 (0:Int) 1440=false/\qF/\qF/\qF/\qF/\qF/\qF/\qF/\qF/\qF/\qF/\qF/\qF/\qF/\qF/\qF/\qF/\qF/\qF/\qF/\qF/\qF/\qF/\qF/\qF/\qF/\qF/\qF/\qF/\qF/\qF/\qF/\(false,())=(je1 d)))/\(kX d.1.2.2.1 (0:Int) 20=false->kX d.1.2.2.1 (0:Int) 20=false/\kX d.1.2.2.1 (0:Int) 20=false/\kX d.1.2.2.1 (0:Int) 20=false/\qF/\qF/\qF/\qF/\qF/\qF/\qF/\qF/\qF/\qF/\qF/\qF/\qF/\qF/\qF/\qF/\qF/\qF/\qF/\qF/\qF/\qF/\qF/\qF/\qF/\qF/\qF/\qF/\qF/\qF/\qF/\qF/\qF/\qF/\qF/\qF/\qF/\(false,())=(je1 d)))/\(kX d.1.2.1 (0:Int) 10000=false->kX d.1.2.1 (0:Int) 10000=false/\kX d.1.2.1 (0:Int) 10000=false/\kX d.1.2.1 (0:Int) 10000=false/\qF/\qF/\qF/\qF/\qF/\qF/\qF/\qF/\qF/\qF/\qF/\qF/\qF/\qF/\qF/\qF/\qF/\qF/\qF/\qF/\qF/\qF/\qF/\qF/\qF/\qF/\qF/\qF/\qF/\qF/\qF/\qF/\qF/\qF/\qF/\qF/\qF/\qF/\qF/\qF/\qF/\(false,())=(je1 d)))/\(kX d.1.1 (1:Int) 240=false->kX d.1.1 (1:Int) 240=false/\kX d.1.1 (1:Int) 240=false/\kX d.1.1 (1:Int) 240=false/\qF/\qF/\qF/\qF/\qF/\qF/\qF/\qF/\qF/\qF/\qF/\qF/\qF/\qF/\qF/\qF/\qF/\qF/\qF/\qF/\qF/\qF/\qF/\qF/\qF/\qF/\qF/\qF/\qF/\qF/\qF/\qF/\qF/\qF/\qF/\qF/\qF/\qF/\qF/\qF/\qF/\qF/\qF/\qF/\qF/\(false,())=(je1 d))
theorem Ap:jbF (Zt 69 [(37,aF),(87,bV),(52,dA)] 88 Yt) (sR) Tryz.f55 (w6 Tryz.f55) sQ=sS:=by kernel_rfl
theorem KU (K:NoD×Unit->Int->(Bool×Unit)×Int) (i:Nat) (n:NoD) (r:List NoD) (s:Int):vT K i (n::r) s=if(K (n,()) s).1.1=true then((i:Int),(K (n,()) s).2) else vT K (i+1) r (K (n,()) s).2:=by
 rw[vT];cases (K (n,()) s).1.1 with
 |true=>rfl
 |false=>rfl
theorem EI:mw:=by
 intro n s a b;exact⟨iZ6,rfl,rfl⟩
theorem sT:cm:=by
 intro n y s h;exact vI _ h ⟨rfl,rfl⟩
theorem eS:gz:=by
 unfold gz jgM;intro l y s j m;refine⟨⟨(0,s),⟨⟨rfl,tZ⟩,⟨rfl,tZ⟩,tZ⟩,jp _,rfl,j⟩,fun x d=>⟨fun h=> ?_,fun h=> ?_⟩⟩;obtain⟨i,s1⟩:=x;have hi:i<l.length:=(by simpa using h);obtain⟨_,a,b⟩:=d;have g:l.drop i=nth l i::l.drop (i+1):=(by rw[L.qb hi];exact z7 hi);simp only at a b;rw[g] at a b;rw[KU] at a;obtain⟨e,f⟩:=b;simp only[jw];refine⟨by omega,by omega,vI _ e ⟨fun k=> ?_,fun c=>⟨iZ6,(i+1,(y.2 (nth l i,()) s1).2),⟨⟨by simp,tZ⟩,⟨rfl,tZ⟩,tZ⟩,⟨hi,?_,f c⟩,by simp only;omega⟩⟩⟩;rw[je k] at a;rw[<-a];exact⟨rfl,rfl⟩;rw[jd (by rw[c];decide)] at a;exact a;obtain⟨i,s1⟩:=x;have hi:l.length<=i:=(by simpa using h);obtain⟨_,a,_⟩:=d;simp only at a;rw[List.drop_eq_nil_of_le hi] at a;have a:((-1:Int),s1)=vT y.2 0 l s:=a;rw[<-a];exact⟨rfl,rfl⟩
theorem co:yK:=fun _ _ _ h=>⟨h,rfl,rfl⟩
theorem Aq:eR:=fun _ _ _ h=>⟨h,rfl,rfl⟩
theorem V8 {P:Program} {C:Ctx} {w:World} (g:C.ok P) (m:P.follows .mixedOrders=true) {f:Nat} {fn:Func} {body:Code} (j:P.funcs[f]? =some fn) (i:fn.body=some body)
 (o:fn.ntmps=C.n) (A:Ann) {T:Nat} {st:Ty} {rs:List Ty} {a:(Ty.st rs).Data×st.Data} {s:st.Data} {sl:List (Nat×SV)} {vals:List Value}
 (q:Yr C A body ⟨sl,[(ga,some (.box T false [.dat st s]))]⟩ (lO C fn T st rs a)) (c:Nat.ble vals.length C.n=true)
 {H:Imm} {b:Nat} {u:Value} (l:fo H w) (h:H b=none) (r:w.heap[b]? =some (.cells #[u] T (0,0))) (e:st.agg=false) (p:st.rv H u s)
 (d:∀ρ:Env,ρ.H=H->ρ.blk ga=some (some (b,0))->∀k v,wF sl k=some v->∃x,vals[k]? =some x/\SV.den P ρ v x):
 Calls P f vals.toArray w (Qr H w b T st rs a):=
 jdq g m j i o A (jz c) (Ys q) l h r e p d
abbrev FnG (H:Imm) (b:Nat) (y:FE) (v:Value):Prop:=FnE PR H b 3 .int [tNo] [.bool] y.pre y.K v
theorem V9 {H:Imm} {t:Ty} {vals:List Value} {x:(Ty.st [t]).Data} (h:rvs H [t] vals x):∃v,vals=[v]/\t.rv H v x.1:=by
 match vals,h with
 |[v],h=>exact⟨v,rfl,h.1⟩
 |[],h=>exact h.elim
 |_::_::_,h=>have:=h.2;simp[rvs] at this
theorem Wa (q:gZ) {H:Imm} {b:Nat} {y:FE} {i:Value} {g:Nat} (l:FnG H b y i) (m:H g=some (.cells #[i])):
 FnG H b ⟨DM y.pre,gS y.K⟩ (.func (.func 133) #[] #[.pointer (some ⟨g,0,none⟩)]):=by
 refine⟨133,_,rfl,vz Tryz.func133 (c:=w6 Tryz.f133) (by kernel_rfl) (by kernel_rfl),fun H' w vals x s u j o n z r t f=> ?_⟩;obtain⟨v,rfl,h⟩:=V9 t;have key:=V8 (P:=PR) (C:=ctx 8 [] []) (od trivial trivial) mixed Tryz.func133 (body:=w6 Tryz.f133) (by kernel_rfl) (by kernel_rfl) (fun _=>none) (T:=3) (st:= .int) (rs:=[.bool])
  (vals:=[v,.pointer (some ⟨g,0,none⟩)]) (q x.1 y s f.1) (by kernel_rfl) o n z rfl r
 refine key (fun ρ d e k sv hk=> ?_)
 match k,hk with
 |0,hk=>
  have hk:some (SV.dat tNo x.1)=some sv:=hk;simp only[jy] at hk;subst hk;exact⟨v,rfl,by simp only[SV.den];rw[d];exact h⟩
 |1,hk=>
  have hk:some (SV.fe true ga 3 .int [tNo] [.bool] y.pre y.K)=some sv:=hk;simp only[jy] at hk;subst hk;refine⟨_,rfl,?_⟩;simp only[SV.den];intro p a;rw[e] at a;simp at a;subst a;refine⟨b,0,rfl,i,?_,g,rfl,?_⟩;rw[d];exact FnE.mono j l;rw[d];exact j _ _ m
 |k+2,hk=>cases hk
theorem Sl (j:dB) (H:Imm) (b:Nat):FnG H b ⟨jc1,Ql⟩ (.func (.func 86) #[] #[.pointer (some ⟨b,0,none⟩)]):=by
 refine⟨86,_,rfl,vz Tryz.func86 (c:=w6 Tryz.f86) (by kernel_rfl) (by kernel_rfl),fun H' w vals x s u o i h n l m a=> ?_⟩;obtain⟨v,rfl,f⟩:=V9 m;have key:=V8 (P:=PR) (C:=ctx 18 [(37,aF),(87,bV)] []) (od ⟨fun _=>yx,fun _=>Ga,tZ⟩ trivial) mixed Tryz.func86 (body:=w6 Tryz.f86) (by kernel_rfl) (by kernel_rfl) (fun _=>none) (T:=3) (st:= .int) (rs:=[.bool])
  (vals:=[v,.pointer (some ⟨b,0,none⟩)]) (j x.1 s a.1 a.2.1) (by kernel_rfl) i h n rfl l
 refine key (fun ρ g e k sv hk=> ?_)
 match k,hk with
 |0,hk=>
  have hk:some (SV.dat tNo x.1)=some sv:=hk;simp only[jy] at hk;subst hk;exact⟨v,rfl,by simp only[SV.den];rw[g];exact f⟩
 |1,hk=>
  have hk:some (SV.bp ga 0)=some sv:=hk;simp only[jy] at hk;subst hk;refine⟨_,rfl,?_⟩;simp only[SV.den];intro p d;rw[e] at d;simp at d;subst d;exact⟨b,0,rfl,rfl⟩
 |k+2,hk=>cases hk
def EN (f:Nat) (rs:List Ty) (pre:FE->List NoD->Int->Prop) (K:FE->List NoD->Int->(Ty.st rs).Data×Int):Prop:=
 ∀(l:List NoD) (y:FE) (s:Int) (H:Imm) (w:World) (b:Nat) (lv a u:Value),fo H w->H b=none->w.heap[b]? =some (.cells #[u] 3 (0,0))->Ty.int.rv H u s->
  (Ty.slice tNo).rv H lv l->FnG H b y a->pre y l s->Calls PR f #[lv,a] w (Qr H w b 3 .int rs (K y l s))
theorem ja7 {C:Ctx} (j:C.ok PR) {f:Nat} {fn:Func} {body:Code} (o:PR.funcs[f]? =some fn) (m:fn.body=some body) (t:fn.ntmps=C.n) (i:Nat.ble 2 C.n=true) (A:FE->Int->Ann) {rs:List Ty}
 {pre:FE->List NoD->Int->Prop} {K:FE->List NoD->Int->(Ty.st rs).Data×Int}
 (x:∀(l:List NoD) (y:FE) (s:Int),pre y l s->Yr C (A y s) body ⟨[(0,.dat (.slice tNo) l),(1,.fe false ga 3 .int [tNo] [.bool] y.pre y.K)],[(ga,some (.box 3 false [.dat .int s]))]⟩ (lO C fn 3 .int rs (K y l s))):EN f rs pre K:=by
 intro l y s H w b lv h u q g z v r B d;have key:=V8 (P:=PR) j mixed o m t (A y s) (T:=3) (st:= .int) (rs:=rs) (vals:=[lv,h]) (x l y s d) i q g z rfl v;refine key (fun ρ e c k sv hk=> ?_)
 match k,hk with
 |0,hk=>
  have hk:some (SV.dat (.slice tNo) l)=some sv:=hk;simp only[jy] at hk;subst hk;exact⟨lv,rfl,by simp only[SV.den];rw[e];exact r⟩
 |1,hk=>
  have hk:some (SV.fe false ga 3 .int [tNo] [.bool] y.pre y.K)=some sv:=hk;simp only[jy] at hk;subst hk;refine⟨_,rfl,?_⟩;simp only[SV.den];intro p a;rw[c] at a;simp at a;subst a;exact⟨b,0,rfl,h,by rw[e];exact B,rfl⟩
 |k+2,hk=>cases hk
theorem uB {σ:St} {o:Nat} {s:Int} (h:V4 σ o=some s):∃c,σ.obj o=some (.box 3 false [c])/\yO σ .int c=some (s,[]):=by
 unfold V4 at h
 split at h
 case h_2=>cases h
 rename_i T c d
 split at h
 case h_2=>cases h
 rename_i e a b;simp at h;subst h;have:=jb a;subst this;exact⟨c,d,b⟩
theorem Sm {q:Bool} {o T:Nat} {st:Ty} {ps rs:List Ty} {pre:(Ty.st ps).Data->st.Data->List Prop} {K:(Ty.st ps).Data->st.Data->(Ty.st rs).Data×st.Data} {y:FE} (h:ja6 st ps rs pre K=some y):
 SV.fe q o T st ps rs pre K=SV.fe q o T .int [tNo] [.bool] y.pre y.K:=by
 unfold ja6 at h
 split at h
 case isFalse=>cases h
 rename_i a
 split at h
 case isFalse=>cases h
 rename_i b
 split at h
 case isFalse=>cases h
 rename_i c;subst a;subst b;subst c;simp at h;subst h;rfl
theorem KV {v:SV} {o:Nat} {y:FE} (h:jde v=some (o,y)):v= .fe false o 3 .int [tNo] [.bool] y.pre y.K:=by
 unfold jde at h
 split at h
 case h_2=>cases h
 rename_i o' T st ps rs pre K
 split at h
 case h_2=>cases h
 rename_i c a b;simp at h;obtain⟨rfl,rfl⟩:=h;have:=jb a;subst this;exact Sm b
theorem Wb {σ:St} {b o:Nat} {y:FE} (h:jdz σ b=some (o,y)):∃T fz,σ.obj b=some (.box T fz [.fe false o 3 .int [tNo] [.bool] y.pre y.K]):=by
 unfold jdz at h
 split at h
 case h_2=>cases h
 rename_i d fz c a;rw[KV h] at a;exact⟨_,_,a⟩
abbrev jdA (y:FE) (l:List NoD) (s:Int):(Ty.st [.int]).Data×Int:=(((vT y.K 0 l s).1,()),(vT y.K 0 l s).2)
abbrev jdB (y:FE) (l:List NoD) (s:Int):(Ty.st [.bool]).Data×Int:=((decide (0<=(vT y.K 0 l s).1),()),(vT y.K 0 l s).2)
abbrev jdC (y:FE) (l:List NoD) (s:Int):(Ty.st [.bool]).Data×Int:=((!decide (0<=(vT (gS y.K) 0 l s).1),()),(vT (gS y.K) 0 l s).2)
theorem Oe (L:EN 70 [.int] (fun y l s=>cL y.pre y.K l s) jdA) {σ:St} {svs:List SV} {out:Out} (h:V5 σ svs=some out) {B:qM} {ρ:Env} {w:World} {vals:List Value} (I:Sat PR B ρ σ.obj w) (C:SV.denL PR ρ svs vals)
 (t:vW out.vc):Calls PR 70 vals.toArray w (fun e w'=>∃v,e= .returned v/\wz PR B ρ σ out v w'):=by
 unfold V5 at h
 split at h
 case h_2=>cases h
 rename_i a c
 split at h
 case h_2=>cases h
 rename_i l fz o y M n
 split at h
 case h_2=>cases h
 rename_i s q O;simp at h;subst h;obtain⟨S,_⟩:=t;have F:=KV n;subst F;simp only[SV.denL] at C;obtain⟨D,_,rfl,E,vc,_,rfl,x,rfl⟩:=C;obtain⟨c,R,J⟩:=uB O;refine lP (st:= .int) (rs:=[.int]) (r:=jdA y l s) I fz q R rfl (fun ρ1 b V u d g f N G Q m=> ?_);have A:=yk σ fz;have P:=wC d A J (fun o i=>by simp at i) m;have p:=wC d A M (fun o i=>i) (SV.den_mono g a D (fun o i=>by simp at i) E);simp only[SV.den] at x;obtain⟨W,C',z,T,k,j⟩:=x _ (by rw[<-f];exact N);simp at z;obtain⟨rfl,rfl⟩:=z;have j:vc=T:=j;subst j;exact L l y s ρ1.H w b D vc u d.good G Q P p (FnE.mono g.H k) S
theorem Of (D:gZ) (he:EN 132 [.bool] (fun y l s=>cL y.pre y.K l s) jdB) {σ:St} {svs:List SV} {out:Out} (h:V6 σ svs=some out) {B:qM} {ρ:Env} {w:World} {vals:List Value} (hS:Sat PR B ρ σ.obj w)
 (R:SV.denL PR ρ svs vals) (L:vW out.vc):Calls PR 132 vals.toArray w (fun e w'=>∃v,e= .returned v/\wz PR B ρ σ out v w'):=by
 unfold V6 at h
 split at h
 case h_2=>cases h
 rename_i a f j
 split at h
 case h_2=>cases h
 rename_i l fz o y hf hl E
 split at h
 case h_2=>cases h
 rename_i s I hs;simp at h;subst h;obtain⟨q1,_⟩:=L;simp only[SV.denL] at R;obtain⟨S,_,rfl,Z,vc,_,rfl,O,rfl⟩:=R;simp only[SV.den,SV.denL] at O;obtain⟨vs,rfl,v5,_,i,Y,rfl⟩:=O;have i:vs= #[v5]:=jI.1 (by simpa using i);subst i;have:=jb hf;subst this;obtain⟨c,hx,hc⟩:=uB hs;obtain⟨W,fz5,M⟩:=Wb E;refine lP (st:= .int) (rs:=[.bool]) (r:=jdB ⟨DM y.pre,gS y.K⟩ l s) hS (j::fz) I hx rfl (fun ρ1 b Cp u d G k hp hH hw C=> ?_);have x:=yk σ (j::fz);have hu:=wC d x hc (fun o m=>by simp at m) C;have F:=wC d x hl (fun o m=>jl _ m) (SV.den_mono G a S (fun o m=>by simp at m) Z);have n:(σ.frz (j::fz)).obj j=some (.box W true [.fe false o 3 .int [tNo] [.bool] y.pre y.K]):=(by rw[(x j).2 (by simp),M];rfl);obtain⟨p5,J,b5,C5,N,rfl,hw5,g,_,A⟩:=d.obs j _ n;obtain⟨X,V,Q,q⟩:=Y _ (by rw[<-k];exact J);simp at Q;obtain⟨rfl,rfl⟩:=Q;subst q;simp only[SV.denL,SV.den] at g;obtain⟨T,_,t,hy,rfl⟩:=g;have t:N= #[T]:=jI.1 (by simpa using t);subst t;obtain⟨b',C',P,u',z,p⟩:=hy _ hp;simp at P;obtain⟨rfl,rfl⟩:=P;have p:T=u':=p;subst p;exact he l ⟨DM y.pre,gS y.K⟩ s ρ1.H w b S _ u d.good hH hw hu F (Wa D z A) q1
theorem Og (P:dB) (J:EN 88 [.bool] (fun y l s=>cL (DM y.pre) (gS y.K) l s) jdC) {σ:St} {svs:List SV} {out:Out} (h:Yt σ svs=some out) {B:qM} {ρ:Env} {w:World} {vals:List Value} (G:Sat PR B ρ σ.obj w)
 (A:SV.denL PR ρ svs vals) (q:vW out.vc):Calls PR 88 vals.toArray w (fun e w'=>∃v,e= .returned v/\wz PR B ρ σ out v w'):=by
 unfold Yt at h
 split at h
 case h_2=>cases h
 rename_i a f o
 split at h
 case h_2=>cases h
 rename_i l fz L M
 split at h
 case h_2=>cases h
 rename_i s p O;simp at h;subst h;obtain⟨T,_⟩:=q;simp only[SV.denL] at A;obtain⟨C,_,rfl,E,vc,_,rfl,t,rfl⟩:=A;simp only[SV.den,SV.denL] at t;obtain⟨vs,rfl,V,_,d,D,rfl⟩:=t;have d:vs= #[V]:=jI.1 (by simpa using d);subst d;have:=jb L;subst this;obtain⟨c,S,I⟩:=uB O;refine lP (st:= .int) (rs:=[.bool]) (r:=jdC ⟨jc1,Ql⟩ l s) G fz p S rfl (fun ρ1 b W u g n i N F R k=> ?_);have z:=yk σ fz;have Q:=wC g z I (fun o j=>by simp at j) k;have m:=wC g z M (fun o j=>j) (SV.den_mono n a C (fun o j=>by simp at j) E);obtain⟨X,C',x,ev⟩:=D _ (by rw[<-i];exact N);simp at x;obtain⟨rfl,rfl⟩:=x;subst ev;exact J l ⟨jc1,Ql⟩ s ρ1.H w b C _ u g.good F R Q m (Sl P ρ1.H b) T
theorem Oh {n:Nat} {fs:List (Nat×wO)} {k:Nat} {e:St->List SV->Option Out} (c:nu fs) (b:enters PR k)
 (j:∀σ svs out,e σ svs=some out->∀B ρ w vals,Sat PR B ρ σ.obj w->SV.denL PR ρ svs vals->vW out.vc->Calls PR k vals.toArray w (fun e w'=>∃v,e= .returned v/\wz PR B ρ σ out v w')):(Zt n fs k e).ok PR:=by
 refine⟨Po XC,d6 c,PH,rfl,fun f dst σ svs out h=> ?_⟩;have a:(match Nat.beq f k with|true=>e σ svs|false=>none)=some out:=h
 split at a
 case h_2=>cases a
 rename_i l;have:=jb l;subst this;exact⟨b,fun B ρ w vals g i d _ _=>j σ svs out a B ρ w vals g i d⟩
theorem enI:EN 70 [.int] (fun y l s=>cL y.pre y.K l s) jdA:=
 ja7 (C:=ctx 19 [] []) (od trivial trivial) Tryz.func70 (body:=w6 Tryz.f70) (by kernel_rfl) (by kernel_rfl) (by kernel_rfl) (fun y s=>V7 y.K y.pre s) (fun l y s h=>bL.mpr eS l y s h)
theorem enC:EN 132 [.bool] (fun y l s=>cL y.pre y.K l s) jdB:=
 ja7 (C:=Zt 9 [] 70 V5) (Oh trivial (vz Tryz.func70 (c:=w6 Tryz.f70) (by kernel_rfl) (by kernel_rfl)) (fun _ _ _ h _ _ _ _ b d a=>Oe enI h b d a))
  Tryz.func132 (body:=w6 Tryz.f132) (by kernel_rfl) (by kernel_rfl) (by kernel_rfl) (fun _ _ _=>none) (fun l y s h=>aG.mpr co l y s h)
theorem enV:EN 88 [.bool] (fun y l s=>cL (DM y.pre) (gS y.K) l s) jdC:=
 ja7 (C:=Zt 9 [] 132 V6) (Oh trivial (vz Tryz.func132 (c:=w6 Tryz.f132) (by kernel_rfl) (by kernel_rfl)) (fun _ _ _ h _ _ _ _ b d a=>Of (lj.mpr sT) enC h b d a))
  Tryz.func88 (body:=w6 Tryz.f88) (by kernel_rfl) (by kernel_rfl) (by kernel_rfl) (fun _ _ _=>none) (fun l y s h=>nR.mpr Aq l y s h)
theorem noI:∀(l:List NoD) (i:Nat) (s:Int),(!decide (0<=(vT (gS Ql) i l s).1))=xm s l
 |[],i,s=>rfl
 |n::r,i,s=>by
  rw[KU,xm]
  have a:(gS Ql (n,()) s).1.1= !(In s n):=rfl
  have e2:(gS Ql (n,()) s).2=WS n:=rfl
  rw[a,e2]
  cases b:In s n with
  |true=>rw[jd (by decide),noI r (i+1) (WS n)];rfl
  |false=>
   rw[je (by decide)]
   have:decide (0<=(i:Int))=true:=jL (by omega)
   show(!decide (0<=(i:Int)))=_
   rw[this];rfl
theorem jdY:∀(l:List NoD) (s:Int),-4611686018427387904<=s->s<=4611686018427387904->cL (DM jc1) (gS Ql) l s
 |[],_,_,_=>trivial
 |n::r,s,h1,h2=>by
  refine⟨⟨⟨h1,h2,tZ⟩,tZ⟩,fun a=> ?_⟩
  have a:(!(In s n))=false:=a
  have a:In s n=true:=by simpa using a
  unfold In at a
  rw[ji,qY] at a
  exact jdY r (WS n) (by omega) (by omega)
theorem KW:sS:=by
 unfold sS jfc je1 jfb jfL jfa jfK Prod.q4;rintro⟨⟨un,rt,le,dk,dw,ni,mi,cp,sb,no,⟨⟩⟩,⟨⟩⟩;have e:yf (un,rt,le,dk,dw,ni,mi,cp,sb,no,())=((kX un 1 240&&kX rt 0 10000&&kX le 0 20&&kX dk 0 1440&&kX dw 0 dk&&U.share ni&&kX mi 0 10000)&&
  (decide ((sb.length:Int)=4)&&sb.all (kZ fun(x:Int×Unit)=>(U.share x.fst,()))&&kX cp 0 1000000&&decide ((no.length:Int)<=4)&&xm 100001 no)):=by
  have n:decide ((sb.length:Int)=4)=decide (sb.length=4):=decide_eq_decide.2 (by omega);have e2:decide ((no.length:Int)<=4)=decide (no.length<=4):=decide_eq_decide.2 (by omega);rw[n,e2];rfl
 simp only;refine⟨fun f=>⟨f,f,f,fun g=>⟨g,g,g,fun i=>⟨i,i,i,fun c=>⟨c,c,c,c,c,fun j=>⟨j,j,j,fun k=>⟨k,k,k,fun d=>⟨d,d,fun _=>⟨d,d,fun l=>⟨l,l,fun _ _=>tZ,l,fun m=>⟨m,m,m,fun a=>⟨a,a,fun _=>⟨a,a,fun b=>⟨b,b,b,jdY no 100001 (by omega) (by omega),b,?_⟩,fun h=> ?_⟩⟩,fun h=> ?_⟩,fun h=> ?_⟩,fun h=> ?_⟩⟩,fun h=> ?_⟩,fun h=> ?_⟩,fun h=> ?_⟩,fun h=> ?_⟩,fun h=> ?_⟩,fun h=> ?_⟩,fun h=> ?_⟩
 .rw[noI,e];simp only[f,g,i,c,j,k,d,l,m,a,b,Bool.true_and]
 all_goals
  have q:=e;simp only[h,Bool.false_and,kw] at q;simp only[h,q,and_self]
theorem HV:wX PR 55 sQ:=
 jb1 (Oh (n:=69) (fs:=[(37,aF),(87,bV),(52,dA)]) (k:=88) (e:=Yt) ⟨fun _=>yx,fun _=>Ga,fun _=>og,tZ⟩
  (vz Tryz.func88 (c:=w6 Tryz.f88) (by kernel_rfl) (by kernel_rfl)) (fun _ _ _ h _ _ _ _ b d a=>Og (sP.mpr EI) enV h b d a))
  mixed Tryz.func55 (by kernel_rfl) (by kernel_rfl) (by kernel_rfl) (by decide) sR (Ap.mpr KW)
namespace U
def cmStep (m:List (Int×CaD)) (c:CaD):List (Int×CaD):=fu .int (S4 c) c m
def pP (l:List CaD) (n:Nat):List (Int×CaD):=(l.take n).foldl cmStep []
def w8 (l:LgD) (F:BoD×Unit->Bool×Unit):Bool:=(F ((l,[],()),())).1
end U
def Sn:wO:=⟨[.val tLg],[.int],false,fun d=>[(w4 (wv d.1)).length<=100000],fun d=>(qV d.1,())⟩
def So:Ann:=fun r=>match r with
 |14=>some fun σ=>{X:=Nat,sl:=fun i=>[(68,.dat .int (i:Int))],ob:=fun i=>[(64,some (.map false .int tCa (pP (gd (.slice tCa) σ 66) i)))],inv:=fun i=>i<=(gd (.slice tCa) σ 66).length/\∀b:Nat,b<i->bq (gd (.slice tCa) σ 66) b=false,mu:=fun i=>(gd (.slice tCa) σ 66).length-i}
 |_=>none
abbrev jfZ (d:LgD×Unit):=(d.1.1.2.2.1.length:Int)
abbrev jiK (d:LgD×Unit):=(decide ((d.1.2.2.1.length:Int)≠(jfZ d))|| !d.1.2.2.1.all (kZ fun(a:Int×Unit)=>(xn a.1,())))
abbrev jiL (d:LgD×Unit):=(decide ((d.1.2.1.length:Int)≠(jfZ d))|| !d.1.2.1.all (kZ fun(a:Int×Unit)=>(Ln a.1,())))
abbrev jgN (d:LgD×Unit):=(d.1.q4.1.length:Int)
abbrev jiM (d:LgD×Unit):=(!yf d.1.2.2.2.1||decide (10<(jgN d))|| !d.1.q4.1.all (kZ fun(a:CaD×Unit)=>(WE (jfZ d) a.1,())))
abbrev jhj (d:LgD×Unit)(x:Nat):=(nth d.1.q4.1 x)
abbrev jiN (d:LgD×Unit)(x:Nat):=(YV (wx Ty.int (jhj d x).1 (pP d.1.q4.1 x))&& !decide (wH ((0:Int),(0:Int),(0:Int),()) (wx Ty.int (jhj d x).1 (pP d.1.q4.1 x))=nth d.1.q4.1 x))
def Sp:Prop:=∀(d:LgD×Unit),(w4 (wv d.1)).length<=100000->(w4 d.1.1).length<=100000/\(decide (w5 d.1.1≠0)=true->(w5 d.1.1,())=(qV d.1,()))/\(decide (w5 d.1.1≠0)=false->d.1.1.2.2.1.length<4611686018427387904->d.1.2.1.length<4611686018427387904->((!decide ((d.1.2.1.length:Int)≠(jfZ d)))=true->∀(g:Int),g∈d.1.2.1->wu [])/\((jiL d)=true->((70:Int),())=(qV d.1,()))/\((jiL d)=false->d.1.2.2.1.length<4611686018427387904->((!decide ((d.1.2.2.1.length:Int)≠(jfZ d)))=true->∀(g:Int),g∈d.1.2.2.1->wu [])/\((jiK d)=true->((70:Int),())=(qV d.1,()))/\((jiK d)=false->((!!yf d.1.2.2.2.1)=true->d.1.q4.1.length<4611686018427387904)->((!(!yf d.1.2.2.2.1||decide (10<(jgN d))))=true->∀(c:CaD),c∈d.1.q4.1->wu [0<=(jfZ d),(jfZ d)<=4611686018427387904])/\((jiM d)=true->((70:Int),())=(qV d.1,()))/\((jiM d)=false->d.1.q4.1.length<4611686018427387904->(∃(x:Nat),((0=(x:Int)/\True)/\[]=pP d.1.q4.1 x/\True)/\x<=d.1.q4.1.length/\∀(b:Nat),b<x->bq d.1.q4.1 b=false)/\∀(x:Nat),(x<=d.1.q4.1.length/\∀(b:Nat),b<x->bq d.1.q4.1 b=false)->(decide ((x:Int)<(jgN d))=true->0<=(x:Int)/\(x:Int)<(jgN d)/\((jiN d x)=true->((71:Int),())=(qV d.1,()))/\((jiN d x)=false->wn ((x:Int)+1)/\∃(a:Nat),(((x:Int)+1=(a:Int)/\True)/\fu Ty.int (jhj d x).1 (jhj d x) (pP d.1.q4.1 x)=pP d.1.q4.1 a/\True)/\(a<=d.1.q4.1.length/\∀(b:Nat),b<a->bq d.1.q4.1 b=false)/\d.1.q4.1.length-a<d.1.q4.1.length-x))/\(decide ((x:Int)<(jgN d))=false->((0:Int),())=(qV d.1,()))))))
theorem KX {l:List CaD} {n:Nat} (h:n<l.length):pP l (n+1)=fu .int (S4 (nth l n)) (nth l n) (pP l n):=by
 unfold pP;rw[L.wN h,jU];rfl
theorem Wc (l:List CaD):∀x,x<=l.length->∀k:Int,(wx .int k (pP l x)=none->∀j,j<x->S4 (nth l j)≠k)/\(∀c,wx .int k (pP l x)=some c->∃j,j<x/\nth l j=c/\S4 c=k)
 |0,_,k=>⟨fun _ j a=>by omega,fun c h=>by cases h⟩
 |x+1,i,k=>by
  obtain⟨d,f⟩:=Wc l x (by omega) k
  rw[KX (show x<l.length by omega)]
  by_cases e:k=S4 (nth l x)
  subst e
  rw[M.pR (kt:= .int)]
  refine⟨fun h=>(by cases h),fun c h=> ?_⟩
  simp only[jy] at h
  subst h
  exact⟨x,by omega,rfl,rfl⟩
  rw[M.dH (kt:= .int) e]
  refine⟨fun h j a=> ?_,fun c h=> ?_⟩
  by_cases e2:j=x
  subst e2;exact fun b=>e b.symm
  exact d h j (by omega)
  obtain⟨j,a,g⟩:=f c h
  exact⟨j,by omega,g⟩
theorem KY {l:List CaD} {i:Nat} (hi:i<=l.length):bq l i=true↔∃j,j<i/\S4 (nth l j)=S4 (nth l i)/\nth l j≠nth l i:=by
 unfold bq;rw[zb];constructor;rintro⟨x,d,h⟩;obtain⟨j,c,rfl⟩:=zc.1 d;simp only[ji,jo,jQ,jH] at h;refine⟨j,by omega,?_⟩;rw[L.qb (show j<l.length by omega)];exact h;rintro⟨j,c,a,b⟩;refine⟨nth l j,zc.2 ⟨j,by omega,(L.qb (by omega)).symm⟩,?_⟩;simp only[ji,jo,jQ,jH];exact⟨a,b⟩
theorem ja8 {l:List CaD} {x:Nat} (u:x<l.length) (h:∀b:Nat,b<x->bq l b=false):
 (YV (wx .int (nth l x).1 (pP l x))&& !decide (wH ((0:Int),(0:Int),(0:Int),()) (wx .int (nth l x).1 (pP l x))=nth l x))=bq l x:=by
 obtain⟨k,r⟩:=Wc l x (by omega) (nth l x).1;have no:∀i j,i<j->j<x->S4 (nth l i)=S4 (nth l j)->nth l i=nth l j:=fun i j a f s=>by
  by_cases e:nth l i=nth l j;exact e;have:=(KY (show j<=l.length by omega)).2 ⟨i,a,s,e⟩;rw[h j f] at this;cases this
 rw[jX,KY (by omega)];cases p:wx (β:=CaD) .int (nth l x).1 (pP l x) with
 |none=>
  have k:=k p;constructor;intro t;cases t;rintro⟨j,f,e,_⟩;exact absurd e (k j f)
 |some c=>
  obtain⟨j,f,d,o⟩:=r c p;show(!decide (c=nth l x))=true↔_;rw[jQ,jH];constructor;intro m;exact⟨j,f,by rw[d];exact o,by rw[d];exact m⟩;rintro⟨i,hi,q,e2⟩ g;have n:S4 (nth l i)=S4 (nth l j):=(by rw[d,q];exact o.symm);rcases kG i j with a|a|a;exact e2 (by rw[no i j a f n,d,g]);subst a;exact e2 (by rw[d,g]);exact e2 (by rw[<-no j i a hi n.symm,d,g])
theorem Oi {l:List CaD} {x:Nat} (a:x<l.length) (h:bq l x=true):cy l=true:=by
 unfold cy DK;rw[zb];exact⟨x,jE.2 a,h⟩
theorem KZ {l:List CaD} (h:∀b:Nat,b<l.length->bq l b=false):cy l=false:=by
 unfold cy DK;rw[zj];intro b a;rw[h b (jE.1 a)];decide
theorem jdD {b:Bool} (h:(!b)=true):b=false:=by cases b with|false=>rfl|true=>cases h
theorem jdE {b:Bool} (h:(!b)=false):b=true:=by cases b with|true=>rfl|false=>cases h
theorem jdZ (a b:Nat) (p:Bool):(decide ((a:Int)≠(b:Int))|| !p)= !(decide (a=b)&&p):=by
 by_cases e:a=b;subst e;simp;have:(a:Int)≠(b:Int):=(by omega);simp[e,this]
theorem ja9 (l:LgD):cK l=((decide ((fg l).length=(wm (wv l)).length)&&(fg l).all Ln)&&(decide ((Gg l).length=(wm (wv l)).length)&&(Gg l).all xn)&&(yf (xl l)&&(decide ((ql l).length<=10)&&(ql l).all (nU (wm (wv l)).length)))):=rfl
theorem Wd:Sp:=by
 unfold Sp jiN jhj jiM jgN jiL jiK jfZ Prod.q4;rintro⟨l,⟨⟩⟩ C;have y:∀v,w5 (wv l)≠0->v=w5 (wv l)->((v:Int),())=(qV l,()):=fun v h e=>by
  unfold qV;rw[je h,e]
 have c:¬(w5 (wv l)≠0)->cK l=false->((70:Int),())=(qV l,()):=fun h e=>by
  unfold qV;rw[jd h,je e]
 have o:¬(w5 (wv l)≠0)->cK l=true->cy (ql l)=true->((71:Int),())=(qV l,()):=fun h e e2=>by
  unfold qV;rw[jd h,jd (by rw[e];decide),je e2]
 have n:¬(w5 (wv l)≠0)->cK l=true->cy (ql l)=false->((0:Int),())=(qV l,()):=fun h e e2=>by
  unfold qV;rw[jd h,jd (by rw[e];decide),jd (by rw[e2];decide)]
 have q:=jdZ (fg l).length (wm (wv l)).length ((fg l).all Ln);have r:=jdZ (Gg l).length (wm (wv l)).length ((Gg l).all xn);have s:(!yf (xl l)||decide ((10:Int)<(ql l).length)|| !(ql l).all (nU (wm (wv l)).length))= !(yf (xl l)&&(decide ((ql l).length<=10)&&(ql l).all (nU (wm (wv l)).length))):=by
  have:decide ((10:Int)<(ql l).length)= !decide ((ql l).length<=10):=by
   by_cases e:(ql l).length<=10;rw[jL e,zm (by omega)];rfl;rw[zm e,jL (by omega)];rfl
  rw[this];cases yf (xl l)<;>cases decide ((ql l).length<=10)<;>rfl
 have m:=ja9 l;refine⟨C,fun h=>y _ (ja h) rfl,fun h k _=>⟨fun _ _ _=>tZ,fun g=> ?_,fun g _=>⟨fun _ _ _=>tZ,fun i=> ?_,fun i _=>⟨fun _ _ _=>⟨j7 _,?_,tZ⟩,fun j=> ?_,fun j w=>⟨⟨0,⟨⟨rfl,tZ⟩,rfl,tZ⟩,jp _,fun b u=>by omega⟩,fun x D=> ?_⟩⟩⟩⟩⟩;have g:=q.symm.trans g;refine c (jc h) ?_;rw[m,show(decide ((fg l).length=(wm (wv l)).length)&&(fg l).all Ln)=false from jdD g];rfl;have i:=r.symm.trans i;refine c (jc h) ?_;rw[m,show(decide ((Gg l).length=(wm (wv l)).length)&&(Gg l).all xn)=false from jdD i,kw];rfl;have k:(wm (wv l)).length<4611686018427387904:=k;show((wm (wv l)).length:Int)<=4611686018427387904;omega;have j:=s.symm.trans j;refine c (jc h) ?_;rw[m,show(yf (xl l)&&(decide ((ql l).length<=10)&&(ql l).all (nU (wm (wv l)).length)))=false from jdD j,kw];have z:=q.symm.trans g;have A:=r.symm.trans i;have B:=s.symm.trans j;have t:cK l=true:=by
  rw[m,show(decide ((fg l).length=(wm (wv l)).length)&&(fg l).all Ln)=true from jdE z,show(decide ((Gg l).length=(wm (wv l)).length)&&(Gg l).all xn)=true from jdE A,show(yf (xl l)&&(decide ((ql l).length<=10)&&(ql l).all (nU (wm (wv l)).length)))=true from jdE B];rfl
 obtain⟨E,d⟩:x<=(ql l).length/\∀b:Nat,b<x->bq (ql l) b=false:=D;have w:(ql l).length<4611686018427387904:=w;refine⟨fun f=> ?_,fun f=> ?_⟩;have f:(x:Int)<(ql l).length:=ja f;have a:x<(ql l).length:=(by omega);have cc:=ja8 a d;refine⟨j7 _,f,fun p=> ?_,fun p=>⟨iZ6,x+1,⟨⟨by simp,tZ⟩,(KX a).symm,tZ⟩,⟨a,fun b u=> ?_⟩,by show(ql l).length-(x+1)<(ql l).length-x;omega⟩⟩;exact o (jc h) t (Oi a (cc.symm.trans p));by_cases e:b=x;subst e;exact cc.symm.trans p;exact d b (by omega);have f:¬(x:Int)<(ql l).length:=jc f;exact n (jc h) t (KZ fun b u=>d b (by omega))
theorem Sq:wX PR 20 Sn:=vF So Wd Tryz.func20 (kcC F0 (kcC HV (kcC og (kcC KR (kcC KS (kcC KT (kcC Dm kcN))))))) koN
end Go.X
namespace Go.Proofs
open Go.Shelf
def Tryz.sortLn_ren:Go.Shelf.Ren:=⟨fun|6=>96|15=>140|14=>139|28=>177|29=>178|20=>169|21=>170|22=>171|23=>172|24=>173|25=>174|26=>175|27=>176|46=>203|47=>204|48=>205|49=>206|50=>207|57=>221|n=>n,fun|22=>54|24=>61|25=>124|3=>3|39=>92|0=>0|53=>189|55=>191|4=>4|46=>183|45=>182|50=>50|5=>5|9=>9|66=>213|70=>217|76=>231|77=>232|n=>n,fun|n=>n⟩
theorem Tryz.sortLn:Go.Proofs.SlLaysF0.n6 Tryz.prog Tryz.sortLn_ren:={
 mixed:=by kernel_rfl
 f6:=⟨Tryz.f96.name,by decide,xlay Tryz.func96⟩
 f14:=⟨Tryz.f139.name,by decide,xlay Tryz.func139⟩
 f15:=xlay Tryz.func140
 f20:=⟨Tryz.f169.name,by decide,xlay Tryz.func169⟩
 f21:=⟨Tryz.f170.name,by decide,xlay Tryz.func170⟩
 f22:=⟨Tryz.f171.name,by decide,xlay Tryz.func171⟩
 f23:=⟨Tryz.f172.name,by decide,xlay Tryz.func172⟩
 f24:=⟨Tryz.f173.name,by decide,xlay Tryz.func173⟩
 f25:=⟨Tryz.f174.name,by decide,xlay Tryz.func174⟩
 f26:=⟨Tryz.f175.name,by decide,xlay Tryz.func175⟩
 f27:=⟨Tryz.f176.name,by decide,xlay Tryz.func176⟩
 f28:=xlay Tryz.func177
 f29:=xlay Tryz.func178
 f46:=⟨Tryz.f203.name,by decide,xlay Tryz.func203⟩
 f47:=xlay Tryz.func204
 f48:=xlay Tryz.func205
 f49:=⟨Tryz.f206.name,by decide,xlay Tryz.func206⟩
 f50:=⟨Tryz.f207.name,by decide,xlay Tryz.func207⟩
 f57:=⟨Tryz.f221.name,by decide,xlay Tryz.func221⟩
 t0:=Tryz.underlying0
 a0:=Tryz.isAgg0
 z0:=Tryz.sizeOf0
 v0:=Tryz.zeroValue0
 t3:=Tryz.underlying3
 a3:=Tryz.isAgg3
 z3:=Tryz.sizeOf3
 v3:=Tryz.zeroValue3
 t4:=Tryz.underlying4
 a4:=Tryz.isAgg4
 z4:=Tryz.sizeOf4
 v4:=Tryz.zeroValue4
 t5:=Tryz.underlying5
 a5:=Tryz.isAgg5
 z5:=Tryz.sizeOf5
 v5:=Tryz.zeroValue5
 t9:=Tryz.underlying9
 a9:=Tryz.isAgg9
 z9:=Tryz.sizeOf9
 v9:=Tryz.zeroValue9
 t22:=Tryz.underlying54
 a22:=Tryz.isAgg54
 z22:=Tryz.sizeOf54
 v22:=Tryz.zeroValue54
 t25:=Tryz.underlying124
 a25:=Tryz.isAgg124
 z25:=Tryz.sizeOf124
 v25:=Tryz.zeroValue124
 t39:=Tryz.underlying92
 a39:=Tryz.isAgg92
 z39:=Tryz.sizeOf92
 v39:=Tryz.zeroValue92
 t45:=Tryz.underlying182
 a45:=Tryz.isAgg182
 z45:=Tryz.sizeOf182
 v45:=Tryz.zeroValue182
 t46:=Tryz.underlying183
 a46:=Tryz.isAgg183
 z46:=Tryz.sizeOf183
 v46:=Tryz.zeroValue183
 t50:=Tryz.underlying50
 a50:=Tryz.isAgg50
 z50:=Tryz.sizeOf50
 v50:=Tryz.zeroValue50
 t53:=Tryz.underlying189
 a53:=Tryz.isAgg189
 z53:=Tryz.sizeOf189
 v53:=Tryz.zeroValue189
 t55:=Tryz.underlying191
 a55:=Tryz.isAgg191
 z55:=Tryz.sizeOf191
 v55:=Tryz.zeroValue191
 t66:=Tryz.underlying213
 a66:=Tryz.isAgg213
 z66:=Tryz.sizeOf213
 v66:=Tryz.zeroValue213
 t70:=Tryz.underlying217
 a70:=Tryz.isAgg217
 z70:=Tryz.sizeOf217
 v70:=Tryz.zeroValue217
 t76:=Tryz.underlying231
 a76:=Tryz.isAgg231
 z76:=Tryz.sizeOf231
 v76:=Tryz.zeroValue231
 t77:=Tryz.underlying232
 a77:=Tryz.isAgg232
 z77:=Tryz.sizeOf232
 v77:=Tryz.zeroValue232}
end Go.Proofs
namespace Go.X
open U
open Go.Proofs
abbrev rwN:Sh:= .cl (.row 3 .int .no)
namespace U
def bl (o:Option BlD):BlD:=wE (Ty.dflt tBl) o
def Qm (m:List (Int×Option BlD)):Prop:=∀e∈m,∃b,e.2=some b/\pO b
def SP (o:BoD):Prop:=Qm (Lm o)/\(Lm o).length<=100/\((Lm o).map (·.1)).Nodup/\∀e∈Lm o,∀b,e.2=some b->Qi b=e.1
def Qn (b:BlD) (a:Int) (out:List Int):Prop:=(qO b).length<=8/\(∀p∈qO b,0<=p/\p<(out.length:Int))/\0<=a/\a<=100000000000000000/\∀x∈out,-1000000000000000000<=x/\x<=1000000000000000000
end U
def sU:wO:=⟨[.val tLn,.val tLn],[.int],false,fun _=>[],fun d=>(DL d.1 d.2.1,())⟩
def sV:Prop:=∀(d:JbD×JbD×Unit),(yM [cI d.1.1 d.2.1.1,cI d.1.2.1 d.2.1.2.1],())=(DL d.1 d.2.1,())
abbrev pJ:qS:=Uq tLn 61
def Ar:wO:=⟨[.val tBo],[.slice tLn],false,fun d=>[SP d.1],fun d=>(wM d.1,())⟩
def As:Ann:=fun r=>match r with
 |3=>some fun σ=>{X:=List (Int×Option BlD)×List LnD,sl:=fun _=>[(3,.own 3 tLn)],ob:=fun x=>[(8,some (.iter .int (.ptr tBl) x.1 none)),(3,some (.row 61 tLn false .yes x.2))],inv:=fun x=>(x.2++gw x.1).Perm (gw (Lm (gb tBo σ 1)))/\Qm x.1,mu:=fun x=>x.1.length}
 |_=>none
abbrev jhZ (a:Int×Option BlD):=(wE ((((0:Int),(0:Int),(0:Int),(0:Int),(0:Int),(0:Int),()),(0:Int),(0:Int),(0:Int),()),((0:Int),(0:Int),(0:Int),(0:Int),(0:Int),(0:Int),(0:Int),(0:Int),[],[],()),(0:Int),(0:Int),[],(0:Int),(0:Int),false,(0:Int),()) a.2)
abbrev jhk:=(wa (Ty.int.pair (Ty.int.pair (Ty.int.pair (Ty.int.pair (Ty.int.pair (Ty.int.pair Ty.unit)))))) fun(a:JbD×JbD×Unit)=>(DL a.1 a.2.1,()))
def Au:Prop:=∀(d:BoD×Unit),SP d.1->(∃(x:List (Int×Option BlD)×List JbD),((True/\True)/\d.1.2.1=x.1/\x.2=[]/\True)/\(x.2++gw x.1).Perm (gw (Lm d.1))/\Qm x.1)/\∀(x:List (Int×Option BlD)×List JbD),(x.2++gw x.1).Perm (gw (Lm d.1))/\Qm x.1->(x.1=[]->(false=true->False)/\(qF->(∀(e:JbD),e∈x.2->∀(y:JbD),y∈x.2->wu [])/\vN jhk x.2/\(k8 jhk x.2,())=(wM d.1,())))/\∀(pre:List (Int×Option BlD)) (a:Int×Option BlD) (b:List (Int×Option BlD)),x.1=pre++a::b->(true=true->a.2.isSome=true/\pO (jhZ a)/\(x.2.length+[vG (jhZ a)].length)*48<=140737488355328/\∃(c:List (Int×Option BlD)×List JbD),((True/\True)/\x.2++[vG (jhZ a)]=c.2/\pre++b=c.1/\True)/\((c.2++gw c.1).Perm (gw (Lm d.1))/\Qm c.1)/\c.1.length<x.1.length)/\(true=false->(∀(f:JbD),f∈x.2->∀(y:JbD),y∈x.2->wu [])/\vN jhk x.2/\(k8 jhk x.2,())=(wM d.1,()))
def HW:wO:=⟨[.val (.slice .int)],[.int],false,fun d=>[d.1≠[]],fun d=>(ao d.1,())⟩
def HX:Ann:=fun r=>match r with
 |5=>some fun σ=>{X:=Nat,sl:=fun i=>[(4,.dat .int (i:Int)),(3,.dat .int (((gd (.slice .int) σ 0).take i).foldl max (nth (gd (.slice .int) σ 0) 0)))],ob:=fun _=>[],inv:=fun i=>1<=i/\i<=(gd (.slice .int) σ 0).length,mu:=fun i=>(gd (.slice .int) σ 0).length-i}
 |_=>none
def HY:Prop:=∀(d:List Int×Unit),d.1≠[]->d.1.length<4611686018427387904->(decide ((d.1.length:Int)<1)=true->False)/\(decide ((d.1.length:Int)<1)=false->(0:Int)<=0/\0<(d.1.length:Int)/\(∃(x:Nat),((1=(x:Int)/\nth d.1 (Int.toNat 0)=List.foldl max (nth d.1 0) (List.take x d.1)/\True)/\True)/\1<=x/\x<=d.1.length)/\∀(x:Nat),1<=x/\x<=d.1.length->d.1.length<4611686018427387904->(decide ((x:Int)<d.1.length)=true->0<=(x:Int)/\(x:Int)<d.1.length/\wn ((x:Int)+1)/\∃(a:Nat),(((x:Int)+1=(a:Int)/\max (List.foldl max (nth d.1 0) (List.take x d.1)) (nth d.1 x)=List.foldl max (nth d.1 0) (List.take a d.1)/\True)/\True)/\(1<=a/\a<=d.1.length)/\d.1.length-a<d.1.length-x)/\(decide ((x:Int)<d.1.length)=false->(List.foldl max (nth d.1 0) (List.take x d.1),())=(ao d.1,())))
def Av:qS:=⟨[.val (.ptr tBl),.val .int,.own rwN true],[],fun d=>[d.1.isSome=true,Qn (U.bl d.1) d.2.1 d.2.2.1],fun d=>((),(YR d.2.1 (U.bl d.1) d.2.2.1,()))⟩
def Aw:Ann:=fun r=>match r with
 |1=>some fun σ=>{X:=Nat,sl:=fun i=>[(13,.dat .int (i:Int))],ob:=fun i=>[(1000002,some (.row 3 .int false .no (wW (gd .int σ 1) (gd (.slice .int) σ 11) (gr .int σ 1000002) i)))],inv:=fun i=>i<=(gd (.slice .int) σ 11).length,mu:=fun i=>(gd (.slice .int) σ 11).length-i}
 |_=>none
abbrev jez (d:Option BlD×Int×List Int×Unit):=(wE ((((0:Int),(0:Int),(0:Int),(0:Int),(0:Int),(0:Int),()),(0:Int),(0:Int),(0:Int),()),((0:Int),(0:Int),(0:Int),(0:Int),(0:Int),(0:Int),(0:Int),(0:Int),[],[],()),(0:Int),(0:Int),[],(0:Int),(0:Int),false,(0:Int),()) d.1)
abbrev jfs (d:Option BlD×Int×List Int×Unit):=(↑(jez d).q4.1.length:Int)
abbrev jgj (d:Option BlD×Int×List Int×Unit)(x:Nat):=(nth (jez d).q4.1 x)
abbrev jgO (d:Option BlD×Int×List Int×Unit)(x:Nat):=(wW d.2.1 (jez d).q4.1 d.2.2.1 x)
abbrev jh0 (d:Option BlD×Int×List Int×Unit)(x:Nat):=(nth (jgO d x) (jgj d x).toNat+d.2.1.tdiv (jfs d))
abbrev jgP (d:Option BlD×Int×List Int×Unit)(x:Nat):=((jgO d x).set (jgj d x).toNat (jh0 d x))
def Ax:Prop:=∀(d:Option BlD×Int×List Int×Unit),d.1.isSome=true->Qn (U.bl d.1) d.2.1 d.2.2.1->d.1.isSome=true/\((jez d).q4.1.length<4611686018427387904->(∃(x:Nat),((0=(x:Int)/\True)/\d.2.2.1=wW d.2.1 (jez d).q4.1 d.2.2.1 x/\True)/\x<=(jez d).q4.1.length)/\∀(x:Nat),x<=(jez d).q4.1.length->(decide ((x:Int)<(jfs d))=true->0<=(x:Int)/\(x:Int)<(jfs d)/\0<=nth (jez d).q4.1 x/\nth (jez d).q4.1 x<(↑(jgO d x).length:Int)/\d.1.isSome=true/\(jfs d)≠0/\wn (d.2.1.tdiv (jfs d))/\wn (jh0 d x)/\0<=nth (jez d).q4.1 x/\nth (jez d).q4.1 x<(↑(jgO d x).length:Int)/\d.1.isSome=true/\((jez d).q4.1.length<4611686018427387904->(jfs d)≠0/\(decide ((x:Int)<d.2.1.tmod (jfs d))=true->0<=nth (jez d).q4.1 x/\nth (jez d).q4.1 x<(↑(jgP d x).length:Int)/\wn (nth (jgP d x) (jgj d x).toNat+1)/\0<=nth (jez d).q4.1 x/\nth (jez d).q4.1 x<(↑(jgP d x).length:Int)/\wn ((x:Int)+1)/\∃(a:Nat),(((x:Int)+1=(a:Int)/\True)/\(jgP d x).set (jgj d x).toNat (nth (jgP d x) (jgj d x).toNat+1)=wW d.2.1 (jez d).q4.1 d.2.2.1 a/\True)/\a<=(jez d).q4.1.length/\(jez d).q4.1.length-a<(jez d).q4.1.length-x)/\(decide ((x:Int)<d.2.1.tmod (jfs d))=false->wn ((x:Int)+1)/\∃(a:Nat),(((x:Int)+1=(a:Int)/\True)/\(jgO d x).set (jgj d x).toNat (jh0 d x)=wW d.2.1 (jez d).q4.1 d.2.2.1 a/\True)/\a<=(jez d).q4.1.length/\(jez d).q4.1.length-a<(jez d).q4.1.length-x)))/\(decide ((x:Int)<(jfs d))=false->()=()/\(wW d.2.1 (jez d).q4.1 d.2.2.1 x,())=(YR d.2.1 (U.bl d.1) d.2.2.1,())))
theorem uC:sV:=fun _=>rfl
theorem sW:wX PR 97 sU:=wJ uC Tryz.func97 (kcC yJ (kcC bJ kcN)) koN
theorem pK:gE PR 96 pJ:=
 Cf Tryz.sortLn 61 rfl (jz (by kernel_rfl)) Tryz.isAgg61 Tryz.sizeOf61 (vz Tryz.func96 (c:=w6 Tryz.f96) (by kernel_rfl) (by kernel_rfl))
theorem Yu:fW DL:=by
 have e:DL=S0 (fun a b=>cI (WW a) (WW b)) (fun a b=>cI (jbP a) (jbP b)):=by
  funext a b;unfold DL;simp only[qk,S0]
  split<;>(try rfl)
  split<;>(try rfl)
  rename_i h;exact(jR.1 h).symm
 rw[e];exact pk (oe lZ WW) (oe lZ jbP)
theorem We {a b:LnD} (h:DL a b=0):jbP a=jbP b:=by
 unfold DL at h;rw[qk] at h
 split at h
 contradiction;rw[vR] at h;exact aK.1 h
def jd0 (l:List LnD):Prop:=∀a∈l,∀b∈l,jbP a=jbP b->a=b
theorem jd1 {l:List LnD} (h:jd0 l):vN (wa tLn fun x=>(DL x.1 x.2.1,())) l:=AT Yu (fun a b d e c=>h a d b e (We c))
theorem Sr {o:BoD} (h:SP o):jd0 (gw (Lm o)):=by
 obtain⟨j,_,c,d⟩:=h;intro a s b t e;obtain⟨x,f,rfl⟩:=jZ.1 s;obtain⟨y,g,rfl⟩:=jZ.1 t;obtain⟨p,l,_⟩:=j x f;obtain⟨q,m,_⟩:=j y g;have u:=d x f p l;have w:=d y g q m;rw[l,m] at e;have e:Qi p=Qi q:=e;have n:x.1=y.1:=(by rw[<-u,<-w,e]);have i:=(M.fj (kt:= .int) c (k:=x.1) (v:=x.2)).2 f;have r:=(M.fj (kt:= .int) c (k:=y.1) (v:=y.2)).2 g;rw[n,r] at i;have e2:y.2=x.2:=(by simpa using i);rw[e2]
theorem Dr:Au:=by
 unfold Au jhk jhZ;rintro⟨o,⟨⟩⟩ n;have p:=Sr n;obtain⟨s,d,t,u⟩:=id n;have d:(Lm o).length<=100:=d;refine⟨⟨(Lm o,[]),⟨⟨tZ,tZ⟩,rfl,rfl,tZ⟩,List.Perm.refl _,s⟩,fun x q=>⟨fun i=>⟨fun h=>(by cases h),fun _=>⟨fun _ _ _ _=>tZ,?_⟩⟩,fun pre e c j=>⟨fun _=> ?_,fun h=>(by cases h)⟩⟩⟩;obtain⟨l,out⟩:=x;have i:l=[]:=i;subst i;have f:(out++[]).Perm (gw (Lm o)):=q.1;rw[j8] at f;exact⟨jd1 fun a r b g=>p a (f.mem_iff.1 r) b (f.mem_iff.1 g),jF (·,()) (Jf (jd1 p) f)⟩;obtain⟨l,out⟩:=x;have j:l=pre++e::c:=j;subst j;obtain⟨f,hk⟩:(out++gw (pre++e::c)).Perm (gw (Lm o))/\Qm (pre++e::c):=q;obtain⟨b,g,v⟩:=hk e (by simp);have m:=f.length_eq;simp only[gw,jG,zp,j6] at m;obtain⟨k,z⟩:=e;have g:z=some b:=g;subst g;refine⟨rfl,v,by simp only[j6,zt];omega,(pre++c,out++[vG b]),⟨⟨tZ,tZ⟩,rfl,rfl,tZ⟩,⟨?_,fun y w=>hk y ?_⟩,by simp only[jG,j6];omega⟩;refine List.Perm.trans ?_ f;simp only[gw,zw,zx,jM,kk];exact List.Perm.append_left out List.perm_middle.symm;rcases jr.1 w with h|h;exact jh _ h;exact jg _ (jl _ h)
theorem Ay:wX PR 60 Ar:=vF As Dr Tryz.func60 (kcC aM (kcC sW kcN)) (koC pK koN)
theorem K0:HY:=by
 rintro⟨l,⟨⟩⟩ a c;have a:l≠[]:=a;have b:0<l.length:=kS.2 a;refine⟨fun h=> ?_,fun _=>⟨by decide,by simp only;omega,⟨1,⟨⟨rfl,?_,tZ⟩,tZ⟩,jj _,b⟩,fun x d _=>⟨fun h=> ?_,fun h=> ?_⟩⟩⟩;have h:(l.length:Int)<1:=ja h;omega;show nth l 0=List.foldl max (nth l 0) (l.take 1);have:=L.wN (l:=l) (i:=0) b;rw[this];show nth l 0=max (nth l 0) (nth l 0);omega;have h:(x:Int)<l.length:=ja h;have c:l.length<4611686018427387904:=c;refine⟨j7 _,h,iZ6,x+1,⟨⟨by simp,?_,tZ⟩,tZ⟩,⟨by omega,by show x+1<=l.length;omega⟩,by show l.length-(x+1)<l.length-x;omega⟩;show max (List.foldl max (nth l 0) (l.take x)) (nth l x)=List.foldl max (nth l 0) (l.take (x+1));rw[L.wN (show x<l.length by omega),jU];rfl;have h:¬(x:Int)<l.length:=jc h;show(List.foldl max (nth l 0) (l.take x),())=(ao l,());rw[zv (by omega)];rfl
theorem HZ:wX PR 100 HW:=vF HX K0 Tryz.func100 kcN koN
theorem eU (a:Int) (tm out:List Int) (k:Nat):wW a tm out (k+1)=nq a tm (wW a tm out k) k:=by
 unfold wW;rw[zg,jU];rfl
theorem mz {a M:Int} {tm out:List Int} (h:0<=a/\a<=100000000000000000) (d:∀p∈tm,0<=p/\p<(out.length:Int)) (c:∀x∈out,-1000000000000000000<=x/\x<=M):
 ∀k,k<=tm.length->(wW a tm out k).length=out.length/\∀j,j<out.length->-1000000000000000000<=nth (wW a tm out k) j/\nth (wW a tm out k) j<=M+(k:Int)*100000000000000001
 |0,_=>⟨rfl,fun j e=>by
  have:=c _ (L.we e)
  show _<=nth out j/\nth out j<=_
  omega⟩
 |k+1,hk=>by
  obtain⟨f,g⟩:=mz h d c k (by omega)
  have m:=d _ (L.we (show k<tm.length by omega))
  have n:=Yp (b:=(tm.length:Int)) h (by omega)
  rw[eU]
  unfold nq
  refine⟨by rw[zM,f],fun j e=> ?_⟩
  rw[L.gj (by rw[f];omega)]
  have i:=g j e
  have l:=g (nth tm k).toNat (by omega)
  split
  split<;>omega
  omega
theorem Dt:Ax:=by
 unfold Ax jgP jh0 jgO jgj jfs jez Prod.q4;rintro⟨o,a,out,⟨⟩⟩ j w;obtain⟨b,rfl⟩:∃b,o=some b:=Option.isSome_iff_exists.1 j;obtain⟨z,p,q,r,v⟩:Qn b a out:=w;have F:=mz (tm:=qO b) ⟨q,r⟩ p v;refine⟨rfl,fun B=>⟨⟨0,⟨⟨rfl,tZ⟩,rfl,tZ⟩,jp _⟩,fun x t=>⟨fun h=> ?_,fun h=>⟨rfl,?_⟩⟩⟩⟩;have h:(x:Int)<(qO b).length:=ja h;have n:x<(qO b).length:=(by omega);obtain⟨k,u⟩:=F x (by omega);have d:=p _ (L.we n);have y:=Yp (b:=((qO b).length:Int)) ⟨q,r⟩ (by omega);have A:=u (nth (qO b) x).toNat (by omega);have l:(nth (qO b) x).toNat<(wW a (qO b) out x).length:=(by rw[k];omega);have j:=eU a (qO b) out x;have f:((qO b).length:Int)≠0:=(by omega);have g:nth (qO b) x<((wW a (qO b) out x).length:Int):=(by rw[k];exact d.2);have s:nth ((wW a (qO b) out x).set (nth (qO b) x).toNat (nth (wW a (qO b) out x) (nth (qO b) x).toNat+a.tdiv ((qO b).length:Int))) (nth (qO b) x).toNat=nth (wW a (qO b) out x) (nth (qO b) x).toNat+a.tdiv ((qO b).length:Int):=by
  rw[L.gj l,je rfl]
 refine⟨j7 _,h,d.1,g,rfl,f,De y (by omega),L.E9 (by show _<=nth (wW a (qO b) out x) (nth (qO b) x).toNat+a.tdiv ((qO b).length:Int);omega) (by show nth (wW a (qO b) out x) (nth (qO b) x).toNat+a.tdiv ((qO b).length:Int)<=_;omega),d.1,g,rfl,fun _=>⟨f,fun c=> ?_,fun c=> ?_⟩⟩;have c:(x:Int)<a.tmod ((qO b).length:Int):=ja c;have m:((wW a (qO b) out x).set (nth (qO b) x).toNat (nth (wW a (qO b) out x) (nth (qO b) x).toNat+a.tdiv ((qO b).length:Int))).length=out.length:=(by rw[zM,k]);have i:nth (qO b) x<(((wW a (qO b) out x).set (nth (qO b) x).toNat (nth (wW a (qO b) out x) (nth (qO b) x).toNat+a.tdiv ((qO b).length:Int))).length:Int):=(by rw[m];exact d.2);refine⟨d.1,i,?_,d.1,i,iZ6,x+1,⟨⟨by simp,tZ⟩,?_,tZ⟩,by show x+1<=(qO b).length;omega,by show(qO b).length-(x+1)<(qO b).length-x;omega⟩;show wn (nth ((wW a (qO b) out x).set (nth (qO b) x).toNat (nth (wW a (qO b) out x) (nth (qO b) x).toNat+a.tdiv ((qO b).length:Int))) (nth (qO b) x).toNat+1);rw[s];exact iZ6;show((wW a (qO b) out x).set (nth (qO b) x).toNat (nth (wW a (qO b) out x) (nth (qO b) x).toNat+a.tdiv ((qO b).length:Int))).set (nth (qO b) x).toNat (nth ((wW a (qO b) out x).set (nth (qO b) x).toNat (nth (wW a (qO b) out x) (nth (qO b) x).toNat+a.tdiv ((qO b).length:Int))) (nth (qO b) x).toNat+1)=wW a (qO b) out (x+1);rw[s,List.set_set,j];unfold nq;rw[je c];have c:¬(x:Int)<a.tmod ((qO b).length:Int):=jc c;refine⟨iZ6,x+1,⟨⟨by simp,tZ⟩,?_,tZ⟩,by show x+1<=(qO b).length;omega,by show(qO b).length-(x+1)<(qO b).length-x;omega⟩;show(wW a (qO b) out x).set (nth (qO b) x).toNat (nth (wW a (qO b) out x) (nth (qO b) x).toNat+a.tdiv ((qO b).length:Int))=wW a (qO b) out (x+1);rw[j];unfold nq;rw[jd c,Int.add_zero];have h:¬(x:Int)<(qO b).length:=jc h;have t:x<=(qO b).length:=t;have e:x=(qO b).length:=(by omega);subst e;rfl
theorem Az:gE PR 77 Av:=rX Aw Dt Tryz.func77 kcN koN
namespace U
def WG (o:BoD):Prop:=SP o/\(fg (bw o)).length<=100/\(∀n∈fg (bw o),0<=n/\n<=20)/\∀e∈Lm o,∀b,e.2=some b->Qj b∈fg (bw o)
def SQ (o:BoD):Prop:=SP o/\(wd (wj (wv (bw o)))).length<=100/\∀e∈Lm o,∀b,e.2=some b->∀p∈qO b,0<=p/\p<((wd (wj (wv (bw o)))).length:Int)
end U
def uD:wO:=⟨[.val tBo],[.slice .int],false,fun d=>[WG d.1],fun d=>(SO d.1,())⟩
def uE:Ann:=fun r=>match r with
 |5=>some fun σ=>{X:=Nat,sl:=fun i=>[(20,.dat .int (i:Int))],ob:=fun i=>[(3,some (.row 3 .int false .no (au (ao (fg (bw (gb tBo σ 1)))+1).toNat (gd (.slice tLn) σ 18) i)))],inv:=fun i=>i<=(gd (.slice tLn) σ 18).length,mu:=fun i=>(gd (.slice tLn) σ 18).length-i}
 |_=>none
abbrev jft (d:BoD×Unit)(x:Nat):=(nth (wM d.1) x)
abbrev jhl (d:BoD×Unit):=(ao (fg (bw d.1))+1)
abbrev jgQ (d:BoD×Unit)(x:Nat):=(au (jhl d).toNat (wM d.1) x)
def uF:Prop:=∀(d:BoD×Unit),WG d.1->d.1.1.2.1.length<4611686018427387904->(decide ((d.1.1.2.1.length:Int)=0)=true->([],())=(SO d.1,()))/\(decide ((d.1.1.2.1.length:Int)=0)=false->d.1.1.2.1≠[]/\wn (ao d.1.1.2.1+1)/\0<=ao d.1.1.2.1+1/\ao d.1.1.2.1+1=ao d.1.1.2.1+1/\(ao d.1.1.2.1+1).toNat*8<=140737488355328/\SP d.1/\((wM d.1).length<4611686018427387904->(∃(x:Nat),((0=(x:Int)/\True)/\List.replicate (ao d.1.1.2.1+1).toNat 0=au (jhl d).toNat (wM d.1) x/\True)/\x<=(wM d.1).length)/\∀(x:Nat),x<=(wM d.1).length->(decide ((x:Int)<(wM d.1).length)=true->0<=(x:Int)/\(x:Int)<(wM d.1).length/\(0:Int)<=(jft d x).1/\(jft d x).1<(↑(jgQ d x).length:Int)/\wn (nth (jgQ d x) (jft d x).1.toNat+(jft d x).q4.2.1)/\(0:Int)<=(jft d x).1/\(jft d x).1<(↑(jgQ d x).length:Int)/\wn ((x:Int)+1)/\∃(a:Nat),(((x:Int)+1=(a:Int)/\True)/\(jgQ d x).set (jft d x).1.toNat (nth (jgQ d x) (jft d x).1.toNat+(jft d x).q4.2.1)=au (jhl d).toNat (wM d.1) a/\True)/\a<=(wM d.1).length/\(wM d.1).length-a<(wM d.1).length-x)/\(decide ((x:Int)<(wM d.1).length)=false->(au (jhl d).toNat (wM d.1) x,())=(SO d.1,()))))
def EJ:wO:=⟨[.val tBo,.val .int],[.slice .int],false,fun d=>[SQ d.1],fun d=>(E5 d.1 d.2.1,())⟩
abbrev jfe (d:BoD×Int×Unit):=(wH none (wx Ty.int d.2.1 d.1.2.1))
abbrev jgR (d:BoD×Int×Unit):=(wE ((((0:Int),(0:Int),(0:Int),(0:Int),(0:Int),(0:Int),()),(0:Int),(0:Int),(0:Int),()),((0:Int),(0:Int),(0:Int),(0:Int),(0:Int),(0:Int),(0:Int),(0:Int),[],[],()),(0:Int),(0:Int),[],(0:Int),(0:Int),false,(0:Int),()) (jfe d))
abbrev jf0 (d:BoD×Int×Unit):=(d.1.1.1.1.2.1.length:Int)
abbrev jiO (d:BoD×Int×Unit):=(YR (vG (jgR d)).2.2.1 (U.bl (jfe d)) (List.replicate (jf0 d).toNat (0:Int)))
def EK:Prop:=∀(d:BoD×Int×Unit),SQ d.1->d.1.1.1.1.2.1.length<4611686018427387904->0<=(jf0 d)/\(jf0 d)=(jf0 d)/\(jf0 d).toNat*8<=140737488355328/\((!(jfe d).isNone)=true->(jfe d).isSome=true/\pO (jgR d)/\(jfe d).isSome=true/\Qn (U.bl (jfe d)) (vG (jgR d)).2.2.1 (List.replicate (jf0 d).toNat (0:Int))/\(jfe d).isSome=true/\Qn (U.bl (jfe d)) (vG (jgR d)).2.2.2.1 (jiO d)/\(YR (vG (jgR d)).2.2.2.1 (U.bl (jfe d)) (jiO d),())=(E5 d.1 d.2.1,()))/\((!(jfe d).isNone)=false->(List.replicate (jf0 d).toNat (0:Int),())=(E5 d.1 d.2.1,()))
theorem H2:EK:=by
 unfold EK jiO jf0 jgR jfe;intro d A E;obtain⟨m,l,k⟩:SQ d.1:=A;have l:(wd (wj (wv (bw d.1)))).length<=100:=l;refine⟨j7 _,rfl,?_,fun h=> ?_,fun h=> ?_⟩;show(((wd (wj (wv (bw d.1)))).length:Int)).toNat*8<=140737488355328;omega;obtain⟨b,e⟩:∃b,wH none (wx Ty.int d.2.1 d.1.2.1)=some b:=by
  cases g:wH none (wx Ty.int d.2.1 d.1.2.1) with
  |none=>rw[g] at h;cases h
  |some b=>exact⟨b,rfl⟩
 have i:(d.2.1,some b)∈Lm d.1:=by
  refine(M.fj (kt:= .int) m.2.2.1).1 ?_;cases g:wx (β:=Option BlD) Ty.int d.2.1 d.1.2.1 with
  |none=>rw[g] at e;cases e
  |some v=>rw[g] at e;exact g.trans (jF some e)
 obtain⟨z,o,u⟩:=m.1 _ i;have o:some b=some z:=o;simp only[jy] at o;subst o;have w:Ip b:=aL.1 u;have D:=k _ i b rfl;have n:=w.bl.tm;have s:=HP w;have C:=HQ w;have ep:E5 d.1 d.2.1=WB (wd (wj (wv (bw d.1)))).length (some b):=jF (WB (wd (wj (wv (bw d.1)))).length) e;rw[e,ep];have f:∀p∈qO b,0<=p/\p<((List.replicate (wd (wj (wv (bw d.1)))).length (0:Int)).length:Int):=fun p q=>by rw[za];exact D p q
 obtain⟨r,y⟩:=mz (a:=vo b) (M:=0) (tm:=qO b) ⟨s.1,by omega⟩ f (fun x c=>by rw[List.eq_of_mem_replicate c];omega) (qO b).length (jj _);refine⟨rfl,u,rfl,⟨n,f,s.1,?_,fun x c=> ?_⟩,rfl,⟨n,fun p q=> ?_,C.1,?_,fun x c=> ?_⟩,rfl⟩;show vo b<=100000000000000000;omega;have c:x∈List.replicate (wd (wj (wv (bw d.1)))).length (0:Int):=c;rw[List.eq_of_mem_replicate c];omega;have B:=f p q;show 0<=p/\p<((wW (vo b) (qO b) (List.replicate (wd (wj (wv (bw d.1)))).length (0:Int)) (qO b).length).length:Int);rw[r];exact B;show vV b<=100000000000000000;omega;have c:x∈wW (vo b) (qO b) (List.replicate (wd (wj (wv (bw d.1)))).length (0:Int)) (qO b).length:=c;obtain⟨j,t,rfl⟩:=L.mem_iff.1 c;have:=y j (by rw[r] at t;exact t);omega;have e:wH none (wx Ty.int d.2.1 d.1.2.1)=none:=by
  cases g:wH none (wx Ty.int d.2.1 d.1.2.1) with
  |none=>rfl
  |some b=>rw[g] at h;cases h
 have ep:E5 d.1 d.2.1=WB (wd (wj (wv (bw d.1)))).length none:=jF (WB (wd (wj (wv (bw d.1)))).length) e;rw[ep];rfl
theorem EL:wX PR 47 EJ:=wJ H2 Tryz.func47 (kcC aM kcN) (koC Az koN)
theorem Oj {b:BlD} (w:Ip b): -1000000<=YP (vG b)/\YP (vG b)<=20000000000000000:=by
 have c:=HP w;have d:=HQ w;have e:=w.bl.ta.cp;have a:0<=(vo b+vV b)*nth (ff (gH b)) (mB (gN (vb b))).toNat/\(vo b+vV b)*nth (ff (gH b)) (mB (gN (vb b))).toNat<=10000001000000000*100:=Yo (by omega) (Zs w.bl);have f:=Yp (b:=100) a (by omega);show-1000000<=vo b+vV b-Qk b/\vo b+vV b-Qk b<=20000000000000000;unfold Qk;omega
theorem Ss {o:BoD} (h:SP o) {x:LnD} (c:x∈wM o):∃k b,(k,some b)∈Lm o/\Ip b/\x=vG b:=by
 have c:x∈gw (Lm o):=(qa _).mem_iff.1 c;obtain⟨⟨k,v⟩,d,rfl⟩:=jZ.1 c;obtain⟨b,a,e⟩:=h.1 _ d;have a:v=some b:=a;subst a;exact⟨k,b,d,aL.1 e,rfl⟩
theorem Su {o:BoD} (h:SP o):(wM o).length<=100:=by
 have e:(wM o).length=(gw (Lm o)).length:=(qa _).length_eq;have e2:(gw (Lm o)).length=(Lm o).length:=zp _;have:=h.2.1;omega
theorem Du:∀(l:List Int) (a:Int),a<=l.foldl max a/\(∀n∈l,n<=l.foldl max a)/\(l.foldl max a=a\/l.foldl max a∈l)
 |[],a=>⟨zR _,fun n c=>(by cases c),Or.inl rfl⟩
 |x::r,a=>by
  obtain⟨e,d,b⟩:=Du r (max a x)
  show a<=r.foldl max (max a x)/\_/\(r.foldl max (max a x)=a\/r.foldl max (max a x)∈x::r)
  refine⟨by omega,fun n c=> ?_,?_⟩
  show n<=r.foldl max (max a x)
  rcases jk.1 c with rfl|c
  omega
  exact d n c
  rcases b with b|b
  rcases Int.le_total a x with h|h
  right;rw[b,Int.max_eq_right h];simp
  left;rw[b,Int.max_eq_left h]
  right;exact jl _ b
theorem jba {l:List Int} {n:Int} (h:n∈l):n<=ao l:=(Du l (nth l 0)).2.1 n h
theorem Yv {l:List Int} (h:l≠[]):ao l∈l:=by
 rcases(Du l (nth l 0)).2.2 with a|a;have:ao l=nth l 0:=a;rw[this];exact L.we (kS.2 h);exact a
theorem Gb {n:Nat} {l:List LnD} {k:Nat} (h:k<l.length):au n l (k+1)=YQ (au n l k) (nth l k):=by
 unfold au;rw[L.wN h,jU];rfl
theorem K1 {n:Nat} {l:List LnD} (h:∀x∈l,(0<=WW x/\WW x<(n:Int))/\-1000000<=YP x/\YP x<=20000000000000000):
 ∀k,k<=l.length->(au n l k).length=n/\∀j,j<n->-1000000*(k:Int)<=nth (au n l k) j/\nth (au n l k) j<=20000000000000000*(k:Int)
 |0,_=>⟨za,fun j a=>by
  have:nth (au n l 0) j=0:=L.bN a
  rw[this];omega⟩
 |k+1,hk=>by
  obtain⟨b,c⟩:=K1 h k (by omega)
  obtain⟨⟨f,g⟩,i,m⟩:=h _ (L.we (show k<l.length by omega))
  rw[Gb (by omega)]
  unfold YQ
  refine⟨by rw[zM,b],fun j a=> ?_⟩
  rw[L.gj (by rw[b];omega)]
  have d:=c j a
  have e:=c (WW (nth l k)).toNat (by omega)
  split<;>omega
theorem AA:uF:=by
 unfold uF jgQ jhl jft Prod.q4;intro d s C;obtain⟨c,a,i,w⟩:WG d.1:=s;have a:(fg (bw d.1)).length<=100:=a;refine⟨fun h=> ?_,fun h=> ?_⟩;have h:((fg (bw d.1)).length:Int)=0:=ja h;have e:SO d.1=[]:=je (by omega);rw[e];have h:¬((fg (bw d.1)).length:Int)=0:=jc h;have g:fg (bw d.1)≠[]:=fun e=>h (by rw[e];rfl)
 have D:=i _ (Yv g);have e:SO d.1=au (ao (fg (bw d.1))+1).toNat (wM d.1) (wM d.1).length:=jd (by omega);have m:∀x∈wM d.1,(0<=WW x/\WW x<(((ao (fg (bw d.1))+1).toNat:Nat):Int))/\-1000000<=YP x/\YP x<=20000000000000000:=fun x m=>by
  obtain⟨k,b,t,u,rfl⟩:=Ss c m;have n:=w _ t b rfl;have A:=jba n;have v:=i _ n;refine⟨⟨v.1,?_⟩,Oj u⟩;show Qj b<_;omega
 have F:=K1 m;have B:=Su c;refine⟨g,L.E9 (by show _<=ao (fg (bw d.1))+1;omega) (by show ao (fg (bw d.1))+1<=_;omega),by show 0<=ao (fg (bw d.1))+1;omega,rfl,by show(ao (fg (bw d.1))+1).toNat*8<=140737488355328;omega,c,fun _=>⟨⟨0,⟨⟨rfl,tZ⟩,rfl,tZ⟩,jp _⟩,fun x j=>⟨fun f=> ?_,fun f=> ?_⟩⟩⟩;have f:(x:Int)<(wM d.1).length:=ja f;have l:x<(wM d.1).length:=(by omega);obtain⟨⟨o,y⟩,E,G⟩:=m _ (L.we l);obtain⟨q,r⟩:=F x (by omega);have z:=r (WW (nth (wM d.1) x)).toNat (by omega);have p:WW (nth (wM d.1) x)<((au (ao (fg (bw d.1))+1).toNat (wM d.1) x).length:Int):=(by rw[q];exact y);refine⟨j7 _,f,o,p,?_,o,p,iZ6,x+1,⟨⟨by simp,tZ⟩,(Gb l).symm,tZ⟩,by show x+1<=(wM d.1).length;omega,by show(wM d.1).length-(x+1)<(wM d.1).length-x;omega⟩;show wn (nth (au (ao (fg (bw d.1))+1).toNat (wM d.1) x) (WW (nth (wM d.1) x)).toNat+YP (nth (wM d.1) x));exact iZ6;have f:¬(x:Int)<(wM d.1).length:=jc f;have j:x<=(wM d.1).length:=j;have ex:x=(wM d.1).length:=(by omega);subst ex;rw[e]
theorem uG:wX PR 61 uD:=vF uE AA Tryz.func61 (kcC HZ (kcC Ay kcN)) koN
namespace U
def bo (l:LgD):BoD:=(l,SN l,())
def Lo (l:LgD):List Int:=if qV l=0 then SO (bo l) else[]
def vg (l:LgD) (n:Int):Bool:=kX n 0 (((wm (wv l)).length:Int)-1)
def qc (l:LgD) (n:Int):List Int:=if qo l (vg l n)=0 then E5 (bo l) n else[]
def yP (m:Int):Bool:=kX m (-100000) 1440
def yX (m:Int):Bool:=kX m 0 1000000000
def E6 (l:LgD) (n m:Int):Int:=if qo l (vg l n&&yP m)=0 then(match OS (bo l) n with|some b=>YP (vG b)-gC m b|none=>0) else 0
end U
theorem H3 {l:LgD} {e:Int×Option BlD} (h:e∈SN l):∃n,n∈kY (wv l)/\e=(n,some (qt l n)):=by
 rw[F8] at h;obtain⟨n,a,rfl⟩:=jZ.1 h;exact⟨n,a,rfl⟩
theorem P7 {l:LgD} (h:Dg l):(kY (wv l)).length<=4:=by
 have a:=h.dy;unfold qn at a;rw[ji] at a;have a:=(ja a.1).1;unfold kY
 split
 unfold ag;rw[zp];exact jD (zF _ _) (by rw[zI];exact a);exact jp _
theorem jbb {l:LgD} (h:Dg l):SP (U.bo l):=by
 refine⟨fun e c=> ?_,?_,?_,fun e c b a=> ?_⟩;obtain⟨n,d,rfl⟩:=H3 c;exact⟨_,rfl,aL.2 (V1 h (N4 d))⟩;show(SN l).length<=100;have:=P7 h;rw[F8,zp];omega;show((SN l).map (·.1)).Nodup;rw[F8,kJ];have e:((fun(x:Int×Option BlD)=>x.1)∘fun n=>(n,some (qt l n)))=id:=rfl;rw[e,List.map_id];exact uw _;obtain⟨n,d,rfl⟩:=H3 c;have a:some (qt l n)=some b:=a;simp only[jy] at a;subst a;exact(ym l n _ (jj _)).2.2.1
theorem jdF {l:LgD} (h:Dg l):WG (U.bo l):=by
 have d:(wm (wv l)).length<=4:=by
  have c:=h.dy;unfold qn at c;rw[ji] at c;exact(ja c.1).1
 refine⟨jbb h,?_,h.py.2,fun e f b a=> ?_⟩;show(fg l).length<=100;rw[h.py.1];omega;obtain⟨n,i,rfl⟩:=H3 f;have a:some (qt l n)=some b:=a;simp only[jy] at a;subst a;have e:Qj (qt l n)=nth (fg l) n.toNat:=(ym l n _ (jj _)).2.2.2.1;rw[e];have:=N4 i;have g:n.toNat<(fg l).length:=(by rw[h.py.1];omega);exact L.we g
theorem jcK {l:LgD} (h:Dg l):SQ (U.bo l):=by
 refine⟨jbb h,?_,fun e c b a=> ?_⟩;show(wd (wj (wv l))).length<=100;have:=jdd h;omega;obtain⟨n,d,rfl⟩:=H3 c;have a:some (qt l n)=some b:=a;simp only[jy] at a;subst a;have e:qO (qt l n)=qx l n (wd (wj (wv l))).length:=(ym l n _ (jj _)).2.2.2.2.1;rw[e];exact(sM _ _).2
namespace U
def LB (l:LgD) (b:Int):BkD:=nth (wm (wv l)) b.toNat
def Lp (l:LgD) (b:Int) (x:Int×Bool) (c:CaD):Int×Bool:=if jc0 c=b/\WV c<=qP (LB l b)/\(x.2=false\/WV c<x.1) then(WV c,true) else x
def DN (l:LgD) (b:Int) (k:Nat):Int×Bool:=((ql l).take k).foldl (Lp l b) (0,false)
def YT (l:LgD) (b:Int):Int×Bool:=DN l b (ql l).length
def OT (l:LgD) (b:Int) (i:Nat):Bool:=decide (YO (xl l)<=qP (LB l b)+i)||decide (qP (LB l b)+i<jbA (xl l))
def OU (l:LgD) (b:Int) (k:Nat):Int:=(((List.range k).countP (OT l b):Nat):Int)
def jdN (l:LgD) (b:Int):Int:=OU l b (dI (LB l b)-qP (LB l b)).toNat
def jd6 (l:LgD) (b m:Int):Int:=m*jcY (xl l)*max (jcZ (xl l)) (up (dI (LB l b)-qP (LB l b)) (WT (xl l)))
def jd7 (l:LgD) (b m:Int):Int:=jd6 l b m+up (jd6 l b m*WU (xl l)*jdN l b) (100*(dI (LB l b)-qP (LB l b)))
def Zz (l:LgD) (b m:Int) (n:NoD):Bool:=decide (WS n<=qP (LB l b)-m)
def jek (l:LgD) (b m:Int):Int:=if 0<=yZ (Zz l b m) (fq (xl l)) then Zy (nth (fq (xl l)) (yZ (Zz l b m) (fq (xl l))).toNat) else 100
def WH (l:LgD) (b t:Int):Int:=if(YT l b).2=true then up (jd7 l b (BT.size t)*jek l b (YT l b).1) 100 else jd7 l b (BT.size t)
def WI (l:LgD) (b t:Int):Int:=if(YT l b).2=true then 0 else jbO (xl l)*nth (Gg l) b.toNat*BT.size t
def jdO (l:LgD) (b t:Int):Int:=min (WA (xl l)) (((WH l b t+WI l b t)*nth (ff (xl l)) (mB (gN (LB l b))).toNat).tdiv 100)
def ZA (l:LgD) (b t:Int):LnD:=(nth (fg l) b.toNat,b,WH l b t,WI l b t,jdO l b t,WH l b t+WI l b t-jdO l b t,())
def gT (l:LgD) (b:Int):Int:=nth (tu (wv l)) b.toNat
def SR (l:LgD) (b:Int):Bool:=DJ (wj (wv l)) (gN (LB l b)) (gT l b)
def oj (a m:Int) (i:Nat):Int:=a.tdiv m+(if(i:Int)<a.tmod m then 1 else 0)
def WJ (a m:Int) (k:Nat):List Int:=(List.range k).map (oj a m)
def pQ (a m:Int):List Int:=WJ a m m.toNat
def WK (w t:List Int) (a:Int) (x:List Int×Int) (p:Nat):List Int×Int:=if wD a (p:Int)=true then(x.1.set p (nth w x.2.toNat+nth t x.2.toNat),x.2+1) else x
def dF (w t:List Int) (a:Int) (n k:Nat):List Int×Int:=(List.range k).foldl (WK w t a) (List.replicate n 0,0)
def ll (l:LgD):Nat:=(wd (wj (wv l))).length
def E7 (l:LgD) (b:Int):List Int:=if SR l b=true then(dF (pQ (WH l b (gT l b)) (BT.size (gT l b))) (pQ (WI l b (gT l b)) (BT.size (gT l b))) (gT l b) (ll l) (ll l)).1 else List.replicate (ll l) 0
end U
theorem Dv {l:LgD} {b:Int} {k:Nat} (h:k<(ql l).length):DN l b (k+1)=Lp l b (DN l b k) (nth (ql l) k):=by
 unfold DN;rw[L.wN h,jU];rfl
theorem jbc {l:LgD} {b:Int} (h:∀c∈ql l,-100000<=WV c/\WV c<=1440):∀k,k<=(ql l).length->-100000<=(DN l b k).1/\(DN l b k).1<=1440
 |0,_=>by show-100000<=(0:Int)/\(0:Int)<=1440;omega
 |k+1,hk=>by
  rw[Dv (by omega)]
  unfold Lp
  split
  exact h _ (L.we (by omega))
  exact jbc h k (by omega)
theorem K2 {l:LgD} {n:Int}:∀k,k<=(ql l).length->(pT (wl l n k),tw (wl l n k))=DN l n k
 |0,_=>rfl
 |k+1,hk=>by
  have d:=K2 (l:=l) (n:=n) k (by omega)
  have c:vb (wl l n k)=LB l n:=(ym l n k (by omega)).1
  rw[dg (by omega),Dv (by omega),<-d]
  unfold th Lp
  by_cases a:jc0 (nth (ql l) k)=n
  rw[je a]
  unfold gn
  rw[c]
  by_cases b:WV (nth (ql l) k)<=qP (LB l n)/\(tw (wl l n k)=false\/WV (nth (ql l) k)<pT (wl l n k))
  rw[je b,je ⟨a,b⟩];rfl
  rw[jd b,jd (fun h=>b h.2)]
  rw[jd a,jd (fun h=>a h.1)]
theorem Wf {l:LgD} {b:Int} (a:jbA (xl l)<=YO (xl l)):∀k:Nat,OU l b k=max 0 (qP (LB l b)+k-max (qP (LB l b)) (YO (xl l)))+max 0 (min (qP (LB l b)+k) (jbA (xl l))-qP (LB l b))
 |0=>by
  show(0:Int)=_
  omega
 |k+1=>by
  have c:=Wf (b:=b) a k
  have e:OU l b (k+1)=OU l b k+(if OT l b k=true then 1 else 0):=by
   unfold OU;rw[zg,zQ,List.countP_singleton]
   split<;>simp
  rw[e,c];by_cases h:OT l b k=true;rw[je h];unfold OT at h;rw[zr,jo,jo] at h;omega;rw[jd h];unfold OT at h;rw[zr,jo,jo] at h;omega
theorem Sv {w:Int} (h:0<=w):U.up (w*100) 100=w:=by
 unfold U.up;rw[kQ (by omega)];omega
theorem H4 {d:DyD} (h:gQ d=0) {b:Nat} (g:b<(wm d).length):(((qq (nth (tu d) b) (wd (wj d)).length).length:Nat):Int)=BT.size (nth (tu d) b):=by
 have e:tu d=(Iq d).1:=je h;have a:=Zo h g;rw[<-e] at a;have l:(wd (wj d)).length<=8:=by
  have c:=(Kv h).1;unfold wo at c;rw[ji] at c;exact(ja c.1).2.2.1
 have k:BT.qz (nth (tu d) b):=⟨a.1,Int.lt_trans a.2 (by
  have:(2:Int)^(wd (wj d)).length<2^62:=by
   rw[BT.AY,BT.AY];exact Int.ofNat_lt.2 (Nat.pow_lt_pow_right (by decide) (by omega))
  exact this)⟩
 unfold qq BT.size;rw[zp,<-List.countP_eq_length_filter];obtain⟨m,j⟩:∃m,62=(wd (wj d)).length+m:=⟨62-(wd (wj d)).length,by omega⟩;rw[j,List.range_add,zQ];have z:List.countP (fun p=>BT.has (nth (tu d) b) p) (List.map (fun x=>(wd (wj d)).length+x) (List.range m))=0:=by
  rw[zX];intro p f i;obtain⟨q,n,rfl⟩:=jZ.1 f;have:=BT.has_lt a.1 a.2 i;omega
 rw[z,zK];congr 1;refine List.countP_congr fun p f=> ?_
 have:=AV k (p:Int);rw[this];simp
theorem Yw {l:LgD} (h:gQ (wv l)=0) (u:jbA (xl l)<=YO (xl l)) {n:Int} (A:0<=n/\n<((wm (wv l)).length:Int)) (z:qP (LB l n)<dI (LB l n)) (v:0<=pS (iO l n)):vG (qt l n)=ZA l n (gT l n):=by
 obtain⟨c1,c2,e,f,y,g,i⟩:=ym l n _ (jj _);have c1:vb (qt l n)=LB l n:=c1;have c2:gH (qt l n)=xl l:=c2;have e:Qi (qt l n)=n:=e;have f:Qj (qt l n)=nth (fg l) n.toNat:=f;have g:pS (qt l n)=pS (iO l n):=g;have i:E3 (qt l n)=E3 (iO l n):=i;have a:=K2 (l:=l) (n:=n) _ (jj _);have w:pT (qt l n)=(YT l n).1:=jF (·.1) a;have s:tw (qt l n)=(YT l n).2:=jF (·.2) a;have b:(((qx l n (wd (wj (wv l))).length).length:Nat):Int)=BT.size (gT l n):=by
  unfold qx gT;rw[VH,je h,<-(je h:tu (wv l)=_)];exact H4 h (by omega)
 have k:gu (tg l n (qx l n (wd (wj (wv l))).length))=jdN l n:=by
  unfold jdN;rw[Wf u];show max 0 (dI (LB l n)-max (qP (LB l n)) (YO (xl l)))+max 0 (min (dI (LB l n)) (jbA (xl l))-qP (LB l n))=_;omega
 have p:pS (iO l n)=jd7 l n (BT.size (gT l n)):=by
  show mJ (tg l n (qx l n (wd (wj (wv l))).length))+U.up (mJ (tg l n (qx l n (wd (wj (wv l))).length))*WU (xl l)*gu (tg l n (qx l n (wd (wj (wv l))).length))) (100*(dI (LB l n)-qP (LB l n)))=_;have j:mJ (tg l n (qx l n (wd (wj (wv l))).length))=jd6 l n (BT.size (gT l n)):=by
   show(((qx l n (wd (wj (wv l))).length).length:Nat):Int)*jcY (xl l)*max (jcZ (xl l)) (U.up (dI (LB l n)-qP (LB l n)) (WT (xl l)))=_;rw[b];rfl
  rw[j,k];rfl
 have o:E3 (iO l n)=jbO (xl l)*nth (Gg l) n.toNat*BT.size (gT l n):=by
  show(((qx l n (wd (wj (wv l))).length).length:Nat):Int)*jbO (xl l)*nth (Gg l) n.toNat=_;rw[b,Int.mul_assoc,Int.mul_comm]
 have m:fh (qt l n)=Zz l n (YT l n).1:=by
  funext x;unfold fh Zz;rw[c1,w]
 have r:vo (qt l n)=WH l n (gT l n):=by
  unfold vo WH SM jek;rw[s,c2,m,g,<-p];by_cases c:(YT l n).2=true;rw[je c];by_cases d:0<=yZ (Zz l n (YT l n).1) (fq (xl l));rw[je ⟨c,d⟩,je d];rw[jd (fun h=>d h.2),jd d,Sv v];rw[jd (fun h=>c h.1),jd c]
 have q:vV (qt l n)=WI l n (gT l n):=by
  unfold vV WI;rw[s,i,o]
 have t:Qk (qt l n)=jdO l n (gT l n):=by
  unfold Qk jdO;rw[r,q,c1,c2]
 unfold vG ZA;rw[r,q,t,e,f]
theorem jbd {l:LgD} (h:Dg l) {n:Int} (a:0<=n/\n<((wm (wv l)).length:Int)):vG (qt l n)=ZA l n (gT l n):=by
 obtain⟨b,e⟩:=KK h a;have c:=(de (wv l)).symm.trans h.cp;have d:=h.ta.dw;exact Yw c (by omega) a b.2.1 (P6 h a).wk.1
theorem jbe {d:DyD} (h:gQ d=0) {n:Int}:n∈kY d↔∃b:Nat,b<(wm d).length/\jd2 d (tu d) b=true/\n=(b:Int):=by
 rw[ja0];unfold jd3;rw[je h];unfold Zx;rw[jZ];constructor;rintro⟨b,a,rfl⟩;have:=jS.1 a;exact⟨b,by rw[<-HG h];exact jE.1 this.1,this.2,rfl⟩;rintro⟨b,a,c,rfl⟩;exact⟨b,jS.2 ⟨jE.2 (by rw[HG h];exact a),c⟩,rfl⟩
theorem Wg {l:LgD} (h:Dg l) {n:Int} (e:0<=n/\n<((wm (wv l)).length:Int)):n∈kY (wv l)↔SR l n=true:=by
 have c:=(de (wv l)).symm.trans h.cp;rw[jbe c];constructor;rintro⟨b,d,a,rfl⟩;exact a;intro a;exact⟨n.toNat,by omega,a,by omega⟩
theorem bh (a:Int) (tm out:List Int):∀k,(wW a tm out k).length=out.length
 |0=>rfl
 |k+1=>by
  rw[eU];unfold nq
  rw[zM,bh a tm out k]
theorem sX {a:Int} {tm out:List Int} {j:Nat} (b:∀p∈tm,0<=p/\p<(out.length:Int)):∀k,k<=tm.length->(∀i,i<k->(nth tm i).toNat≠j)->nth (wW a tm out k) j=nth out j
 |0,_,_=>rfl
 |k+1,hk,h=>by
  have c:=b _ (L.we (show k<tm.length by omega))
  rw[eU];unfold nq
  rw[L.gj (by rw[bh];omega),jd (h k (by omega))]
  exact sX b k (by omega) fun i hi=>h i (by omega)
theorem H5 {a:Int} {tm out:List Int} (c:∀p∈tm,0<=p/\p<(out.length:Int)) (b:∀i j,i<tm.length->j<tm.length->(nth tm i).toNat=(nth tm j).toNat->i=j) {i:Nat}:∀k,k<=tm.length->i<k->
 nth (wW a tm out k) (nth tm i).toNat=nth out (nth tm i).toNat+oj a tm.length i
 |0,_,h=>by omega
 |k+1,hk,h=>by
  have f:=c _ (L.we (show k<tm.length by omega))
  rw[eU];unfold nq
  rw[L.gj (by rw[bh];omega)]
  by_cases e:i=k
  subst e
  rw[je rfl,sX c i (by omega) (fun m d e2=>by have:=b m i (by omega) (by omega) e2;omega)]
  unfold oj
  rw[Int.add_assoc]
  rw[jd (fun e2=>e (b i k (by omega) (by omega) e2.symm))]
  exact H5 c b k (by omega) (by omega)
theorem Gc (t:Int) (k:Nat):qq t (k+1)=qq t k++(if wD t (k:Int)=true then[(k:Int)] else[]):=by
 unfold qq;rw[zg,kC,zw];congr 1;by_cases h:wD t (k:Int)=true;rw[je h];simp only[List.filter,h,List.map];rw[jd h];rw[zZ] at h;simp only[List.filter,h,List.map]
def rnk (t:Int) (k:Nat):Nat:=(qq t k).length
theorem P8 (t:Int) (k:Nat):rnk t (k+1)=rnk t k+(if wD t (k:Int)=true then 1 else 0):=by
 unfold rnk;rw[Gc,jG]
 split<;>rfl
theorem Yx {α:Type} [Inhabited α] {a b:List α} {i:Nat} (h:i<a.length):nth (a++b) i=nth a i:=by
 rw[L.qb h,L.qb (by rw[jG];omega),List.getElem_append_left h]
theorem Yy {α:Type} [Inhabited α] {a:List α} {x:α}:nth (a++[x]) a.length=x:=by
 rw[L.qb (by rw[jG];show _<_+1;omega),List.getElem_append_right (jj _)];simp
theorem P9 {t:Int} {p:Nat} (a:wD t (p:Int)=true):∀n,p<n->rnk t p<rnk t n/\nth (qq t n) (rnk t p)=(p:Int)
 |0,h=>by omega
 |n+1,h=>by
  have b:=P8 t n
  rw[Gc]
  by_cases e:p=n
  subst e
  rw[je a] at b⊢
  exact⟨by omega,Yy⟩
  obtain⟨c,d⟩:=P9 a n (by omega)
  refine⟨by rw[b];omega,?_⟩
  rw[Yx c,d]
theorem jbf {t:Int} {n i j:Nat} (hi:i<(qq t n).length) (f:j<(qq t n).length) (h:(nth (qq t n) i).toNat=(nth (qq t n) j).toNat):i=j:=by
 have c:(qq t n).Pairwise (fun a b=>a.toNat<b.toNat):=by
  unfold qq;exact kg.2 ((List.pairwise_lt_range.filter _).imp fun{a b} e=>e)
 rw[zB] at c;rw[L.qb hi,L.qb f] at h;rcases kG i j with d|d|d;have:=c i j hi f d;omega;exact d;have:=c j i f hi d;omega
theorem jbg {t:Int} {n i:Nat} (hi:i<(qq t n).length):wD t (nth (qq t n) i)=true:=by
 have a:=L.we hi;unfold qq at a;obtain⟨p,b,e⟩:=jZ.1 a;have:=(jS.1 b).2;unfold qq;rw[<-e];exact this
theorem Ol (w t:List Int) (a:Int) (n k:Nat):dF w t a n (k+1)=WK w t a (dF w t a n k) k:=by
 unfold dF;rw[zg,jU];rfl
theorem uH (w t:List Int) (a:Int) (n:Nat):∀k,k<=n->(dF w t a n k).1.length=n/\(dF w t a n k).2=(rnk a k:Int)/\
 ∀j,j<n->nth (dF w t a n k).1 j=if j<k/\wD a (j:Int)=true then nth w (rnk a j)+nth t (rnk a j) else 0
 |0,_=>⟨za,rfl,fun j c=>by
  rw[jd (fun h=>by omega)]
  exact L.bN c⟩
 |k+1,hk=>by
  obtain⟨f,g,i⟩:=uH w t a n k (by omega)
  have d:=P8 a k
  rw[Ol];unfold WK
  by_cases e:wD a (k:Int)=true
  rw[je e]
  rw[je e] at d
  have l:(dF w t a n k).2.toNat=rnk a k:=by rw[g];rfl
  refine⟨by rw[zM,f],by rw[g,d];rfl,fun j c=> ?_⟩
  show nth ((dF w t a n k).1.set k (nth w (dF w t a n k).2.toNat+nth t (dF w t a n k).2.toNat)) j=_
  rw[L.gj (by rw[f];omega),l]
  by_cases e2:k=j
  subst e2
  rw[je rfl,je ⟨by omega,e⟩]
  rw[jd e2,i j c]
  by_cases b:j<k/\wD a (j:Int)=true
  rw[je b,je ⟨by omega,b.2⟩]
  rw[jd b,jd (fun h=>b ⟨by omega,h.2⟩)]
  rw[jd e]
  rw[jd e] at d
  refine⟨f,by rw[g,d];rfl,fun j c=> ?_⟩
  rw[i j c]
  by_cases b:j<k/\wD a (j:Int)=true
  rw[je b,je ⟨by omega,b.2⟩]
  rw[jd b,jd (fun h=>b ⟨by
   by_cases e2:j=k
   subst e2;exact absurd h.2 e
   omega,h.2⟩)]
theorem uI {a m:Int} {k i:Nat} (h:i<k):nth (WJ a m k) i=oj a m i:=by
 unfold WJ;rw[L.nth_map (by rw[zI];exact h)];congr 1;rw[L.qb (by rw[zI];exact h),List.getElem_range]
theorem jbh {b:BlD} {c W T:Int} {n:Nat} (q:qO b=qq c n) (z:vo b=W) (y:vV b=T):
 WB n (some b)=(dF (pQ W (qq c n).length) (pQ T (qq c n).length) c n n).1:=by
 obtain⟨w,C,x⟩:=uH (pQ W (qq c n).length) (pQ T (qq c n).length) c n n (jj _);have u:=(sM c n).2;have f:=fun i j=> @jbf c n i j
 show wW (vV b) (qO b) (wW (vo b) (qO b) (List.replicate n 0) (qO b).length) (qO b).length=_;rw[q,z,y];have g:∀p∈qq c n,0<=p/\p<((List.replicate n (0:Int)).length:Int):=fun p k=>by rw[za];exact u p k
 have m:∀p∈qq c n,0<=p/\p<((wW W (qq c n) (List.replicate n (0:Int)) (qq c n).length).length:Int):=fun p k=>by rw[bh];exact g p k
 refine L.ext_nth (by rw[bh,bh,za,w]) fun j d=> ?_
 rw[bh,bh,za] at d;rw[x j d];by_cases e:wD c (j:Int)=true;rw[je ⟨d,e⟩];obtain⟨o,B⟩:=P9 e n d;have o:rnk c j<(qq c n).length:=o;have A:(nth (qq c n) (rnk c j)).toNat=j:=(by rw[B];rfl);have r:=H5 (a:=W) g (fun i j hi d h=>f i j hi d h) (i:=rnk c j) _ (jj _) o;have s:=H5 (a:=T) m (fun i j hi d h=>f i j hi d h) (i:=rnk c j) _ (jj _) o;rw[A] at r s;rw[s,r,L.bN d,Int.zero_add];have k:∀a:Int,nth (pQ a ((qq c n).length:Int)) (rnk c j)=oj a ((qq c n).length:Int) (rnk c j):=fun a=>uI (by show _<((((qq c n).length:Nat):Int)).toNat;omega)
 rw[k,k];rw[jd (fun h=>e h.2)];have l:∀i,i<(qq c n).length->(nth (qq c n) i).toNat≠j:=fun i hi e2=>e (by
  have t:=jbg hi;have D:=u _ (L.we hi);have v:nth (qq c n) i=(j:Int):=(by omega);rw[v] at t;exact t)
 rw[sX m _ (jj _) l,sX g _ (jj _) l,L.bN d]
theorem jcL (l:LgD) (n:Int):OS (U.bo l) n=if n∈kY (wv l) then some (qt l n) else none:=by
 show wH none (wx .int n (SN l))=_;have a:((SN l).map (·.1)).Nodup:=by
  rw[F8,kJ];have e:((fun(x:Int×Option BlD)=>x.1)∘fun n=>(n,some (qt l n)))=id:=rfl;rw[e,List.map_id];exact uw _
 by_cases h:n∈kY (wv l);rw[je h];have:(n,some (qt l n))∈SN l:=by
  rw[F8];exact jZ.2 ⟨n,h,rfl⟩
 rw[(M.fj (kt:= .int) a).2 this];rfl;rw[jd h];have b:n∉(SN l).map (·.1):=by
  rw[F8,kJ];have e:((fun(x:Int×Option BlD)=>x.1)∘fun n=>(n,some (qt l n)))=id:=rfl;rw[e,List.map_id];exact h
 rw[M.mfind_none (kt:= .int) b];rfl
theorem Zu {l:LgD} (h:Dg l) {n:Int} (b:0<=n/\n<((wm (wv l)).length:Int)):E5 (U.bo l) n=E7 l n:=by
 have i:=(de (wv l)).symm.trans h.cp;show WB (ll l) (OS (U.bo l) n)=_;rw[jcL];unfold E7;by_cases a:n∈kY (wv l);rw[je a,je ((Wg h b).1 a)];have d:=jbd h b;have e:vo (qt l n)=WH l n (gT l n):=jF jem d;have e2:vV (qt l n)=WI l n (gT l n):=jF jen d;have f:qO (qt l n)=qq (gT l n) (ll l):=by
  have:=(ym l n _ (jj _)).2.2.2.2.1;show qO (wl l n _)=_;rw[this];show qq (nth (cJ (wv l)) n.toNat) (ll l)=_;rw[show cJ (wv l)=tu (wv l) from VH _];rfl
 have c:(((qq (gT l n) (ll l)).length:Nat):Int)=BT.size (gT l n):=H4 i (by omega);rw[jbh f e e2,c];rw[jd a,jd (fun g=>a ((Wg h b).2 g))];rfl
namespace U
def fi (b:BlD) (a:Int) (k:Nat):Bool:=decide (gC (qP (vb b)-(k:Int)) b<=a)
def dG (b:BlD):Nat:=(qP (vb b)+100001).toNat
def E8 (b:BlD) (a:Int):Option Nat:=(List.range (dG b)).find? (fi b a)
def jdP (b:BlD):Option Nat->Int
 |some k=>qP (vb b)-(k:Int)
 |none=>0
def jdQ:Option Nat->Int
 |some _=>0
 |none=>3
def jd8 (a:Int):Option BlD->Int
 |some b=>jdP b (E8 b a)
 |none=>0
def jd9 (a:Int):Option BlD->Int
 |some b=>jdQ (E8 b a)
 |none=>3
def Lq (l:LgD) (n a:Int):Int:=if qo l (vg l n&&yX a)=0 then jd8 a (OS (bo l) n) else 0
def Lr (l:LgD) (n a:Int):Int:=if qo l (vg l n&&yX a)=0 then jd9 a (OS (bo l) n) else qo l (vg l n&&yX a)
end U
theorem Gd (b:BlD) (a:Int):(∃k:Nat,E8 b a=some k/\k<dG b/\fi b a k=true/\∀j:Nat,j<k->fi b a j=false)\/(E8 b a=none/\∀j:Nat,j<dG b->fi b a j=false):=by
 cases e:E8 b a with
 |some k=>
  left;unfold E8 at e;obtain⟨l,d,rs,f,m⟩:=List.find?_eq_some_iff_append.1 e;have c:=jF List.length f;rw[zI,jG,j6] at c;have hk:(List.range (dG b))[d.length]'(by rw[zI];omega)=k:=by
   have e2:(d++k::rs)[d.length]'(by rw[jG,j6];omega)=k:=by
    rw[List.getElem_append_right (jj _)];simp
   have:=List.getElem_of_eq f (i:=d.length) (by rw[zI];omega);rw[this,e2]
  rw[List.getElem_range] at hk;refine⟨k,rfl,by omega,l,fun j h=> ?_⟩;have g:=List.getElem_of_eq f (i:=j) (by rw[zI];omega);rw[List.getElem_range,List.getElem_append_left (by omega)] at g;have:=m j (by rw[g];exact kN _);simpa using this
 |none=>
  right;unfold E8 at e;rw[List.find?_eq_none] at e;refine⟨rfl,fun j h=> ?_⟩;have:=e j (jE.2 h);simpa using this
theorem jcM {o:BoD} (h:SQ o) {n:Int}:∀j,j<(wd (wj (wv (bw o)))).length->-1000000000000000000<=nth (E5 o n) j/\nth (E5 o n) j<=1700000000000000000:=by
 obtain⟨k,g,f⟩:=h;intro j u;have g:(wd (wj (wv (bw o)))).length<=100:=g;unfold E5;cases e:OS o n with
 |none=>
  show _<=nth (List.replicate _ 0) j/\nth (List.replicate _ 0) j<=_;rw[L.bN u];omega
 |some b=>
  have c:(n,some b)∈Lm o:=by
   refine(M.fj (kt:= .int) k.2.2.1).1 ?_;have e:wH none (wx .int n (Lm o))=some b:=e;cases s:wx (β:=Option BlD) Ty.int n (Lm o) with
   |none=>rw[s] at e;cases e
   |some v=>rw[s] at e;exact jF some e
  obtain⟨A,l,F⟩:=k.1 _ c;have l:some b=some A:=l;simp only[jy] at l;subst l;have w:Ip b:=aL.1 F;have D:=f _ c b rfl;have E:=w.bl.tm;have C:=HP w;have B:=HQ w;have d:∀p∈qO b,0<=p/\p<((List.replicate (wd (wj (wv (bw o)))).length (0:Int)).length:Int):=fun p r=>by rw[za];exact D p r
  obtain⟨m,y⟩:=mz (a:=vo b) (M:=0) (tm:=qO b) ⟨C.1,by omega⟩ d (fun x t=>by rw[List.eq_of_mem_replicate t];omega) (qO b).length (jj _);have q:∀p∈qO b,0<=p/\p<((wW (vo b) (qO b) (List.replicate (wd (wj (wv (bw o)))).length (0:Int)) (qO b).length).length:Int):=fun p r=>by rw[m];exact d p r
  obtain⟨G,z⟩:=mz (a:=vV b) (M:=800000000000000008) (tm:=qO b) ⟨B.1,by omega⟩ q (fun x t=>by
   obtain⟨i,hi,rfl⟩:=L.mem_iff.1 t;have:=y i (by rw[m] at hi;exact hi);omega) (qO b).length (jj _)
  have:=z j (by rw[m,za];exact u);have key:∀v:Int,-1000000000000000000<=v/\v<=800000000000000008+((qO b).length:Int)*100000000000000001->-1000000000000000000<=v/\v<=1700000000000000000:=fun v s=>by omega
  exact key _ this
theorem jcN {t:Int} {q p:Nat} (a:wD t (q:Int)=true) (h:q<p):rnk t q<rnk t p:=(P9 a p h).1
theorem K3 {a m:Int} {i j:Nat} (h:i<j):oj a m j<=oj a m i/\oj a m i<=oj a m j+1:=by
 unfold oj
 split<;>split<;>omega
theorem uJ {l:LgD} (h:Dg l) {b:Int} (n:0<=b/\b<((wm (wv l)).length:Int)):(E7 l b).length=ll l/\
 ∀p,p<ll l->nth (E7 l b) p=if SR l b=true/\wD (gT l b) (p:Int)=true then oj (WH l b (gT l b)) (BT.size (gT l b)) (rnk (gT l b) p)+oj (WI l b (gT l b)) (BT.size (gT l b)) (rnk (gT l b) p) else 0:=by
 have i:=(de (wv l)).symm.trans h.cp;have j:(((qq (gT l b) (ll l)).length:Nat):Int)=BT.size (gT l b):=H4 i (by omega);unfold E7;by_cases c:SR l b=true;rw[je c];obtain⟨f,k,g⟩:=uH (pQ (WH l b (gT l b)) (BT.size (gT l b))) (pQ (WI l b (gT l b)) (BT.size (gT l b))) (gT l b) (ll l) (ll l) (jj _);refine⟨f,fun p a=> ?_⟩;rw[g p a];by_cases e:wD (gT l b) (p:Int)=true;rw[je ⟨a,e⟩,je ⟨c,e⟩];have d:rnk (gT l b) p<(BT.size (gT l b)).toNat:=by
  have m:rnk (gT l b) p<(qq (gT l b) (ll l)).length:=(P9 e (ll l) a).1;omega
 unfold pQ;rw[uI d,uI d];rw[jd (fun h=>e h.2),jd (fun h=>e h.2)];rw[jd c];refine⟨za,fun p a=> ?_⟩;rw[L.bN a,jd (fun h=>c h.1)]
theorem Yz {l:LgD} (h:Dg l) {b:Int} (j:0<=b/\b<((wm (wv l)).length:Int)) {p q:Nat} (k:p<ll l) (c:q<p) (g:SR l b=true) (i:wD (gT l b) (p:Int)=true) (d:wD (gT l b) (q:Int)=true):
 nth (E7 l b) p<=nth (E7 l b) q/\nth (E7 l b) q<=nth (E7 l b) p+2:=by
 obtain⟨_,e⟩:=uJ h j;rw[e p k,e q (by omega),je ⟨g,i⟩,je ⟨g,d⟩];have f:=jcN d c;have n:=K3 (a:=WH l b (gT l b)) (m:=BT.size (gT l b)) f;have o:=K3 (a:=WI l b (gT l b)) (m:=BT.size (gT l b)) f;omega
theorem Wh {l:LgD} (h:Dg l) {b:Int} (c:0<=b/\b<((wm (wv l)).length:Int)) {p:Nat} (d:p<ll l) (e:¬(SR l b=true/\wD (gT l b) (p:Int)=true)):nth (E7 l b) p=0:=by
 obtain⟨_,a⟩:=uJ h c;rw[a p d,jd e]
theorem Wi {l:LgD} {b:Bool} (h:qo l b=0):Dg l/\b=true:=by
 unfold qo at h
 split at h
 rename_i a;exact absurd h a;rename_i a
 split at h
 rename_i c;exact⟨mq (jR.1 a),c⟩;cases h
theorem Qa {l:LgD} {n:Int}:vg l n=true↔0<=n/\n<((wm (wv l)).length:Int):=by
 unfold vg;rw[qY];omega
namespace U
def SS (l:List NoD) (j:Nat):Bool:=(kX (WS (nth l j)) 0 100000&&kX (Zy (nth l j)) 0 100)&&(decide (j=0)||decide (WS (nth l j)<WS (nth l (j-1))))
def WL (a b:CaD):Bool:=decide (S4 a=S4 b)&& !decide (a=b)
def S5 (l:LgD) (j:Nat):Bool:=Ln (nth (fg l) j)&&xn (nth (Gg l) j)
end U
def K4:wO:=⟨[.val .int,.val .int,.val .int],[.bool],false,fun _=>[],fun d=>(kX d.1 d.2.1 d.2.2.1,())⟩
def K5:Prop:=∀(d:CaD),(decide (d.2.1<=d.1)&&decide (d.1<=d.2.2.1),())=(kX d.1 d.2.1 d.2.2.1,())
def EM:wO:=⟨[.val tTa],[.bool],false,fun _=>[],fun d=>(yf d.1,())⟩
def EO:Ann:=fun r=>match r with
 |4=>some fun σ=>{X:=Nat,sl:=fun i=>[(3,.dat .int (i:Int))],ob:=fun _=>[],inv:=fun i=>i<=(ff (gb tTa σ 1)).length/\∀j:Nat,j<i->kX (nth (ff (gb tTa σ 1)) j) 0 100=true,mu:=fun i=>(ff (gb tTa σ 1)).length-i}
 |9=>some fun σ=>{X:=Nat,sl:=fun i=>[(4,.dat .int (i:Int))],ob:=fun _=>[],inv:=fun i=>i<=(fq (gb tTa σ 1)).length/\∀j:Nat,j<i->SS (fq (gb tTa σ 1)) j=true,mu:=fun i=>(fq (gb tTa σ 1)).length-i}
 |_=>none
abbrev jgS (d:TaD×Unit)(x:Nat):=(nth d.1.q4.q4.2.1 x)
abbrev jh1 (d:TaD×Unit)(x:Nat):=(!(!kX (jgS d x).1 (0:Int) (100000:Int)|| !kX (jgS d x).2.1 (0:Int) (100:Int))&&decide (0<(x:Int)))
abbrev jiP (d:TaD×Unit)(x:Nat):=(!kX (jgS d x).1 (0:Int) (100000:Int)|| !kX (jgS d x).2.1 (0:Int) (100:Int)||decide (0<(x:Int))&&decide ((nth d.1.q4.q4.2.1 ((x:Int)-1).toNat).1<=(jgS d x).1))
abbrev jgT (d:TaD×Unit):=(d.1.q4.q4.2.1.length:Int)
abbrev jgU (d:TaD×Unit):=(d.1.q4.q4.1.length:Int)
abbrev jiQ (d:TaD×Unit):=(!kX d.1.1 (1:Int) (240:Int)|| !kX d.1.2.1 (0:Int) (10000:Int)|| !kX d.1.2.2.1 (0:Int) (20:Int)|| !kX d.1.q4.1 (0:Int) d.1.2.2.2.1||decide (1440<d.1.2.2.2.1)|| !kX d.1.q4.2.1 (0:Int) (100:Int)|| !kX d.1.q4.2.2.1 (0:Int) (10000:Int)||decide ((jgU d)≠4)|| !kX d.1.q4.2.2.2.1 (0:Int) (1000000:Int)||decide (4<(jgT d)))
abbrev jiR (d:TaD×Unit)(x:Nat):=(!kX (nth d.1.q4.q4.1 x) (0:Int) (100:Int))
def EP:Prop:=∀(d:TaD×Unit),((!(!kX d.1.1 (1:Int) (240:Int)|| !kX d.1.2.1 (0:Int) (10000:Int)|| !kX d.1.2.2.1 (0:Int) (20:Int)|| !kX d.1.q4.1 (0:Int) d.1.2.2.2.1||decide (1440<d.1.2.2.2.1)|| !kX d.1.q4.2.1 (0:Int) (100:Int)|| !kX d.1.q4.2.2.1 (0:Int) (10000:Int)))=true->d.1.q4.q4.1.length<4611686018427387904)->((!(!kX d.1.1 (1:Int) (240:Int)|| !kX d.1.2.1 (0:Int) (10000:Int)|| !kX d.1.2.2.1 (0:Int) (20:Int)|| !kX d.1.q4.1 (0:Int) d.1.2.2.2.1||decide (1440<d.1.2.2.2.1)|| !kX d.1.q4.2.1 (0:Int) (100:Int)|| !kX d.1.q4.2.2.1 (0:Int) (10000:Int)||decide ((jgU d)≠4)|| !kX d.1.q4.2.2.2.1 (0:Int) (1000000:Int)))=true->d.1.q4.q4.2.1.length<4611686018427387904)->((jiQ d)=true->(false,())=(yf d.1,()))/\((jiQ d)=false->(∃(x:Nat),((0=(x:Int)/\True)/\True)/\x<=(ff d.1).length/\∀(j:Nat),j<x->kX (nth (ff d.1) j) (0:Int) 100=true)/\∀(x:Nat),(x<=(ff d.1).length/\∀(j:Nat),j<x->kX (nth (ff d.1) j) (0:Int) 100=true)->d.1.q4.q4.1.length<4611686018427387904->(decide ((x:Int)<(jgU d))=true->0<=(x:Int)/\(x:Int)<(jgU d)/\((jiR d x)=true->(false,())=(yf d.1,()))/\((jiR d x)=false->wn ((x:Int)+1)/\∃(a:Nat),(((x:Int)+1=(a:Int)/\True)/\True)/\(a<=(ff d.1).length/\∀(j:Nat),j<a->kX (nth (ff d.1) j) (0:Int) 100=true)/\(ff d.1).length-a<(ff d.1).length-x))/\(decide ((x:Int)<(jgU d))=false->(∃(x:Nat),((0=(x:Int)/\True)/\True)/\x<=(fq d.1).length/\∀(j:Nat),j<x->SS (fq d.1) j=true)/\∀(x:Nat),(x<=(fq d.1).length/\∀(j:Nat),j<x->SS (fq d.1) j=true)->d.1.q4.q4.2.1.length<4611686018427387904->(decide ((x:Int)<(jgT d))=true->0<=(x:Int)/\(x:Int)<(jgT d)/\((jh1 d x)=true->wn ((x:Int)-1))/\((jh1 d x)=true->0<=(x:Int)-1)/\((jh1 d x)=true->(x:Int)-1<(jgT d))/\((jiP d x)=true->(false,())=(yf d.1,()))/\((jiP d x)=false->wn ((x:Int)+1)/\∃(a:Nat),(((x:Int)+1=(a:Int)/\True)/\True)/\(a<=(fq d.1).length/\∀(j:Nat),j<a->SS (fq d.1) j=true)/\(fq d.1).length-a<(fq d.1).length-x))/\(decide ((x:Int)<(jgT d))=false->(true,())=(yf d.1,()))))
def EQ:wO:=⟨[.val tLg],[.bool],false,fun _=>[],fun d=>(cK d.1,())⟩
def ER:Ann:=fun r=>match r with
 |5=>some fun σ=>{X:=Nat,sl:=fun i=>[(4,.dat .int (i:Int))],ob:=fun _=>[],inv:=fun i=>i<=(gd .int σ 3).toNat/\∀j:Nat,j<i->S5 (gb tLg σ 1) j=true,mu:=fun i=>(gd .int σ 3).toNat-i}
 |10=>some fun σ=>{X:=Nat,sl:=fun i=>[(5,.dat .int (i:Int))],ob:=fun _=>[],inv:=fun i=>i<=(ql (gb tLg σ 1)).length/\∀j:Nat,j<i->nU (gd .int σ 3).toNat (nth (ql (gb tLg σ 1)) j)=true,mu:=fun i=>(ql (gb tLg σ 1)).length-i}
 |_=>none
abbrev jeS (d:LgD×Unit):=(d.1.1.2.2.1.length:Int)
abbrev jiS (d:LgD×Unit)(x:Nat):=(!kX (nth d.1.2.1 x) (0:Int) (20:Int)|| !kX (nth d.1.2.2.1 x) (0:Int) (300:Int))
abbrev jhm (d:LgD×Unit)(x:Nat):=(nth d.1.q4.1 x)
abbrev jiT (d:LgD×Unit)(x:Nat):=(!kX (jhm d x).1 (0:Int) (99:Int)|| !kX (jhm d x).2.1 (0:Int) ((jeS d)-1)|| !kX (jhm d x).2.2.1 (-100000:Int) (1440:Int))
abbrev jh2 (d:LgD×Unit):=((d.1.2.1.length:Int)≠(jeS d))
abbrev jhn (d:LgD×Unit):=(d.1.q4.1.length:Int)
abbrev jiU (d:LgD×Unit):=(decide (jh2 d)||decide ((d.1.2.2.1.length:Int)≠(jeS d))|| !yf d.1.2.2.2.1||decide (10<(jhn d)))
def ES:Prop:=∀(d:LgD×Unit),d.1.1.2.2.1.length<4611686018427387904->d.1.2.1.length<4611686018427387904->((!decide (jh2 d))=true->d.1.2.2.1.length<4611686018427387904)->((!(decide (jh2 d)||decide ((d.1.2.2.1.length:Int)≠(jeS d))|| !yf d.1.2.2.2.1))=true->d.1.q4.1.length<4611686018427387904)->((jiU d)=true->(false,())=(cK d.1,()))/\((jiU d)=false->(∃(x:Nat),((0=(x:Int)/\True)/\True)/\x<=(jeS d).toNat/\∀(j:Nat),j<x->S5 d.1 j=true)/\∀(x:Nat),(x<=(jeS d).toNat/\∀(j:Nat),j<x->S5 d.1 j=true)->(decide ((x:Int)<(jeS d))=true->0<=(x:Int)/\(x:Int)<d.1.2.1.length/\((!!kX (nth d.1.2.1 x) (0:Int) (20:Int))=true->0<=(x:Int))/\((!!kX (nth d.1.2.1 x) (0:Int) (20:Int))=true->(x:Int)<d.1.2.2.1.length)/\((jiS d x)=true->(false,())=(cK d.1,()))/\((jiS d x)=false->wn ((x:Int)+1)/\∃(a:Nat),(((x:Int)+1=(a:Int)/\True)/\True)/\(a<=(jeS d).toNat/\∀(j:Nat),j<a->S5 d.1 j=true)/\(jeS d).toNat-a<(jeS d).toNat-x))/\(decide ((x:Int)<(jeS d))=false->(∃(x:Nat),((0=(x:Int)/\True)/\True)/\x<=(ql d.1).length/\∀(j:Nat),j<x->nU (jeS d).toNat (nth (ql d.1) j)=true)/\∀(x:Nat),(x<=(ql d.1).length/\∀(j:Nat),j<x->nU (jeS d).toNat (nth (ql d.1) j)=true)->d.1.q4.1.length<4611686018427387904->(decide ((x:Int)<(jhn d))=true->0<=(x:Int)/\(x:Int)<(jhn d)/\((!!kX (jhm d x).1 (0:Int) (99:Int))=true->wn ((jeS d)-1))/\((jiT d x)=true->(false,())=(cK d.1,()))/\((jiT d x)=false->wn ((x:Int)+1)/\∃(a:Nat),(((x:Int)+1=(a:Int)/\True)/\True)/\(a<=(ql d.1).length/\∀(j:Nat),j<a->nU (jeS d).toNat (nth (ql d.1) j)=true)/\(ql d.1).length-a<(ql d.1).length-x))/\(decide ((x:Int)<(jhn d))=false->(true,())=(cK d.1,()))))
def Om:wO:=⟨[.val tLg],[.int],false,fun d=>[(wm (wv d.1)).length<=1000000],fun d=>(qV d.1,())⟩
def On:Ann:=fun r=>match r with
 |7=>some fun σ=>{X:=Nat,sl:=fun i=>[(4,.dat .int (i:Int))],ob:=fun _=>[],inv:=fun i=>i<=(ql (gb tLg σ 1)).length/\∀b:Nat,b<i->bq (ql (gb tLg σ 1)) b=false,mu:=fun i=>(ql (gb tLg σ 1)).length-i}
 |10=>some fun σ=>{X:=Nat,sl:=fun i=>[(5,.dat .int (i:Int))],ob:=fun _=>[],inv:=fun i=>i<=(gd .int σ 4).toNat/\∀j:Nat,j<i->WL (nth (ql (gb tLg σ 1)) (gd .int σ 4).toNat) (nth (ql (gb tLg σ 1)) j)=false,mu:=fun i=>(gd .int σ 4).toNat-i}
 |_=>none
abbrev jgV (d:LgD×Unit)(x:Nat)(a:Nat):=((nth d.1.q4.1 x).1=(nth d.1.q4.1 a).1)
abbrev jgk (d:LgD×Unit):=(d.1.q4.1.length:Int)
abbrev jiV (d:LgD×Unit)(x:Nat)(a:Nat):=(decide (jgV d x a)&& !decide (nth d.1.q4.1 x=nth d.1.q4.1 a))
def Oo:Prop:=∀(d:LgD×Unit),(wm (wv d.1)).length<=1000000->(wm d.1.1).length<=1000000/\(decide (gQ d.1.1≠0)=true->(gQ d.1.1,())=(qV d.1,()))/\(decide (gQ d.1.1≠0)=false->((!cK d.1)=true->((70:Int),())=(qV d.1,()))/\((!cK d.1)=false->(∃(x:Nat),((0=(x:Int)/\True)/\True)/\x<=(ql d.1).length/\∀(b:Nat),b<x->bq (ql d.1) b=false)/\∀(x:Nat),(x<=(ql d.1).length/\∀(b:Nat),b<x->bq (ql d.1) b=false)->d.1.q4.1.length<4611686018427387904->(decide ((x:Int)<(jgk d))=true->(∃(a:Nat),((0=(a:Int)/\True)/\True)/\a<=x/\∀(j:Nat),j<a->WL (nth (ql d.1) x) (nth (ql d.1) j)=false)/\∀(a:Nat),(a<=x/\∀(j:Nat),j<a->WL (nth (ql d.1) x) (nth (ql d.1) j)=false)->(decide ((a:Int)<(x:Int))=true->0<=(x:Int)/\(x:Int)<(jgk d)/\0<=(a:Int)/\(a:Int)<(jgk d)/\(decide (jgV d x a)=true->0<=(x:Int))/\(decide (jgV d x a)=true->(x:Int)<(jgk d))/\(decide (jgV d x a)=true->0<=(a:Int))/\(decide (jgV d x a)=true->(a:Int)<(jgk d))/\((jiV d x a)=true->((71:Int),())=(qV d.1,()))/\((jiV d x a)=false->wn ((a:Int)+1)/\∃(c:Nat),(((a:Int)+1=(c:Int)/\True)/\True)/\(c<=x/\∀(j:Nat),j<c->WL (nth (ql d.1) x) (nth (ql d.1) j)=false)/\x-c<x-a))/\(decide ((a:Int)<(x:Int))=false->wn ((x:Int)+1)/\∃(c:Nat),(((x:Int)+1=(c:Int)/\True)/\True)/\(c<=(ql d.1).length/\∀(b:Nat),b<c->bq (ql d.1) b=false)/\(ql d.1).length-c<(ql d.1).length-x))/\(decide ((x:Int)<(jgk d))=false->((0:Int),())=(qV d.1,()))))
def Dw:wO:=⟨[.val tLg,.val .int],[.bool],false,fun _=>[],fun d=>(vg d.1 d.2.1,())⟩
def Dx:Prop:=∀(d:LgD×Int×Unit),d.1.1.2.2.1.length<4611686018427387904->wn ((d.1.1.2.2.1.length:Int)-1)/\(kX d.2.1 (0:Int) ((d.1.1.2.2.1.length:Int)-1),())=(vg d.1 d.2.1,())
def K6:wO:=⟨[.val tLg,.val .int],[.int,.bool],false,fun d=>[gQ (wv d.1)=0,0<=d.2.1/\d.2.1<((wm (wv d.1)).length:Int)],fun d=>(gT d.1 d.2.1,SR d.1 d.2.1,())⟩
def K7:Prop:=∀(d:LgD×Int×Unit),gQ (wv d.1)=0->0<=d.2.1/\d.2.1<(↑(wm (wv d.1)).length:Int)->(wm d.1.1).length<=1000000/\0<=d.2.1/\d.2.1<(↑(tu d.1.1).length:Int)/\0<=d.2.1/\d.2.1<(d.1.1.2.2.1.length:Int)/\0<=d.2.1/\d.2.1<(↑(tu d.1.1).length:Int)/\wo d.1.1.1=true/\wZ d.1.1.1 (nth d.1.1.2.2.1 d.2.1.toNat).1=true/\WQ (nth (tu d.1.1) d.2.1.toNat)/\(nth (tu d.1.1) d.2.1.toNat,DJ d.1.1.1 (nth d.1.1.2.2.1 d.2.1.toNat).1 (nth (tu d.1.1) d.2.1.toNat),())=(gT d.1 d.2.1,SR d.1 d.2.1,())
theorem Oq:K5:=by
 rintro⟨n,a,b,⟨⟩⟩;rfl
theorem mA:wX PR 40 K4:=wJ Oq Tryz.func40 kcN koN
theorem Dy:∀{l:List NoD} {last:Int},xm last l=true↔∀j,j<l.length->In (if j=0 then last else WS (nth l (j-1))) (nth l j)=true
 |[],_=>⟨fun _ j a=>(by cases a),fun _=>rfl⟩
 |n::r,last=>by
  have d:=Dy (l:=r) (last:=WS n)
  show(In last n&&xm (WS n) r)=true↔_
  rw[ji,d]
  constructor
  rintro⟨b,c⟩ j a
  cases j with
  |zero=>exact b
  |succ j=>
   rw[jd (by omega)]
   have:=c j (by simpa using a)
   cases j with
   |zero=>exact this
   |succ j=>exact this
  intro h
  refine⟨h 0 (by simp),fun j a=> ?_⟩
  have:=h (j+1) (by simpa using a)
  rw[jd (by omega)] at this
  cases j with
  |zero=>exact this
  |succ j=>exact this
theorem jcO {l:List NoD}:xm 100001 l=true↔∀j,j<l.length->SS l j=true:=by
 constructor;intro h j b;have a:=(HO h _ (L.we b));have c:=Dy.1 h j b;unfold SS;simp only[ji,zr,jo,qY];refine⟨⟨by omega,by omega⟩,?_⟩;by_cases e:j=0;exact Or.inl e;rw[jd e] at c;unfold In at c;rw[ji,qY] at c;right;omega;intro h;refine Dy.2 fun j b=> ?_
 have a:=h j b;unfold SS at a;simp only[ji,zr,jo,qY] at a;unfold In U.share;rw[ji,qY,qY];refine⟨?_,a.1.2⟩;by_cases e:j=0;rw[je e];omega;rw[jd e];omega
def taH (t:TaD):Bool:= !kX (WT t) 1 240|| !kX (jcY t) 0 10000|| !kX (jcZ t) 0 20|| !kX (jbA t) 0 (YO t)||decide (1440<YO t)|| !kX (WU t) 0 100|| !kX (jbO t) 0 10000||decide (((ff t).length:Int)≠4)|| !kX (WA t) 0 1000000||decide (4<((fq t).length:Int))
theorem H6 (t:TaD):yf t=true↔taH t=false/\(∀j,j<(ff t).length->kX (nth (ff t) j) 0 100=true)/\∀j,j<(fq t).length->SS (fq t) j=true:=by
 rw[<-jcO];unfold yf taH U.share;simp only[jN,jH,ze,ji,jo,qY,jT];constructor;rintro⟨⟨⟨⟨⟨⟨⟨a,b⟩,c⟩,l⟩,d⟩,e⟩,f⟩,⟨⟨⟨m,g⟩,h⟩,n⟩,i⟩;exact⟨⟨⟨⟨⟨⟨⟨⟨⟨⟨a,b⟩,c⟩,d⟩,by omega⟩,e⟩,f⟩,by omega⟩,h⟩,by omega⟩,fun j k=>g _ (L.we k),i⟩;rintro⟨⟨⟨⟨⟨⟨⟨⟨⟨⟨a,b⟩,c⟩,d⟩,l⟩,e⟩,f⟩,m⟩,h⟩,n⟩,g,i⟩;refine⟨⟨⟨⟨⟨⟨⟨a,b⟩,c⟩,by omega⟩,d⟩,e⟩,f⟩,⟨⟨⟨by omega,fun x o=> ?_⟩,h⟩,by omega⟩,i⟩;obtain⟨j,k,rfl⟩:=L.mem_iff.1 o;exact g j k
theorem jbi {t:TaD} (h:¬yf t=true):(false,())=(yf t,()):=by
 rw[zZ] at h;rw[h]
theorem Dz (l:LgD):cK l=true↔((fg l).length=(wm (wv l)).length/\(Gg l).length=(wm (wv l)).length/\yf (xl l)=true/\(ql l).length<=10)/\(∀j,j<(wm (wv l)).length->S5 l j=true)/\∀j,j<(ql l).length->nU (wm (wv l)).length (nth (ql l) j)=true:=by
 unfold cK S5;simp only[ji,jo,jT];constructor;rintro⟨⟨⟨c,h⟩,d,i⟩,e,f,k⟩;exact⟨⟨c,d,e,f⟩,fun j a=>⟨h _ (L.we (by omega)),i _ (L.we (by omega))⟩,fun j a=>k _ (L.we a)⟩;rintro⟨⟨c,d,e,f⟩,g,m⟩;refine⟨⟨⟨c,fun x b=> ?_⟩,d,fun x b=> ?_⟩,e,f,fun x b=> ?_⟩;obtain⟨j,a,rfl⟩:=L.mem_iff.1 b;exact(g j (by omega)).1;obtain⟨j,a,rfl⟩:=L.mem_iff.1 b;exact(g j (by omega)).2;obtain⟨j,a,rfl⟩:=L.mem_iff.1 b;exact m j a
theorem jbj {l:LgD} (h:¬cK l=true):(false,())=(cK l,()):=by
 rw[zZ] at h;rw[h]
theorem jcP {l:List CaD} {i:Nat} (h:∀j:Nat,j<i->WL (nth l i) (nth l j)=false) (hi:i<=l.length):bq l i=false:=by
 unfold bq;rw[zj];intro x c;obtain⟨j,b,rfl⟩:=L.mem_iff.1 c;rw[jY] at b;rw[L.nth_take (by omega)];have:=h j (by omega);unfold WL at this;rw[zZ,kl] at*;rcases this with a|a;left;exact zm fun e=>jc a e.symm
 right;rw[ze,jo] at a;rw[a,jL rfl];rfl
theorem jbk {l:List CaD} {i j:Nat} (hi:i<l.length) (a:j<i) (h:WL (nth l i) (nth l j)=true):cy l=true:=by
 unfold cy DK;rw[zb];refine⟨i,jE.2 hi,?_⟩;unfold bq;rw[zb];unfold WL at h;rw[ji,jo,jQ,jH] at h;refine⟨nth l j,?_,?_⟩;exact L.mem_iff.2 ⟨j,by rw[jY];omega,L.nth_take (by omega)⟩;rw[ji,jo,jQ,jH];exact⟨h.1.symm,fun e=>h.2 e.symm⟩
theorem H7:EP:=by
 unfold EP jiR jiQ jgU jgT jiP jh1 jgS Prod.q4;rintro⟨t,⟨⟩⟩ _ _;refine⟨fun h=>jbi (t:=t) (fun c=> ?_),fun k=> ?_⟩;have h:taH t=true:=h;rw[((H6 t).1 c).1] at h;cases h;have k:taH t=false:=k;refine⟨⟨0,⟨⟨rfl,tZ⟩,tZ⟩,jp _,fun j f=>by omega⟩,fun x d g=>⟨fun h=> ?_,fun h=> ?_⟩⟩;have g:(ff t).length<4611686018427387904:=g;have h:(x:Int)<(ff t).length:=ja h;refine⟨by omega,h,fun c=>jbi (t:=t) (fun i=> ?_),fun c=>⟨iZ6,x+1,⟨⟨by simp,tZ⟩,tZ⟩,⟨by show x+1<=(ff t).length;omega,fun j f=> ?_⟩,by show(ff t).length-(x+1)<(ff t).length-x;omega⟩⟩;have c:(!kX (nth (ff t) x) 0 100)=true:=c;rw[((H6 t).1 i).2.1 x (by omega)] at c;cases c;have c:kX (nth (ff t) x) 0 100=true:=(by simpa using(show(!kX (nth (ff t) x) 0 100)=false from c));by_cases e:j=x;subst e;exact c;exact d.2 j (by omega);have h:¬(x:Int)<(ff t).length:=jc h;have o:∀j,j<(ff t).length->kX (nth (ff t) j) 0 100=true:=fun j f=>d.2 j (by omega)
 clear d h;refine⟨⟨0,⟨⟨rfl,tZ⟩,tZ⟩,jp _,fun j f=>by omega⟩,fun x d g=>⟨fun h=> ?_,fun h=> ?_⟩⟩;have g:(fq t).length<4611686018427387904:=g;have h:(x:Int)<(fq t).length:=ja h;have l:(!kX (WS (nth (fq t) x)) 0 100000|| !kX (Zy (nth (fq t) x)) 0 100||decide (0<(x:Int))&&decide (WS (nth (fq t) ((x:Int)-1).toNat)<=WS (nth (fq t) x)))= !SS (fq t) x:=by
  have e2:((x:Int)-1).toNat=x-1:=(by omega);have m:∀a b:Int,(decide (0<(x:Int))&&decide (a<=b))= !(decide (x=0)||decide (b<a)):=fun a b=>by
   rw[jX];simp only[ji,jo,jQ,jN,jH];omega
  unfold SS;rw[e2,m,Bool.not_and,Bool.not_and]
 refine⟨by omega,h,fun _=>iZ6,fun c=> ?_,fun _=>by show(x:Int)-1<((fq t).length:Int);omega,fun c=>jbi (t:=t) (fun i=> ?_),fun c=>⟨iZ6,x+1,⟨⟨by simp,tZ⟩,tZ⟩,⟨by show x+1<=(fq t).length;omega,fun j f=> ?_⟩,by show(fq t).length-(x+1)<(fq t).length-x;omega⟩⟩;rw[ji] at c;have c:0<(x:Int):=ja c.2;show 0<=(x:Int)-1;omega;have c:(!SS (fq t) x)=true:=l.symm.trans c;rw[((H6 t).1 i).2.2 x (by omega)] at c;cases c;have c:(!SS (fq t) x)=false:=l.symm.trans c;by_cases e:j=x;subst e;show SS (fq t) j=true;simpa using c;exact d.2 j (by omega);have h:¬(x:Int)<(fq t).length:=jc h;have n:∀j,j<(fq t).length->SS (fq t) j=true:=fun j f=>d.2 j (by omega)
 show(true,())=(yf t,());rw[(H6 t).2 ⟨k,o,n⟩]
theorem ET:wX PR 95 EM:=vF EO H7 Tryz.func95 (kcC mA kcN) koN
def lgH (l:LgD):Bool:=decide (((fg l).length:Int)≠(wm (wv l)).length)||decide (((Gg l).length:Int)≠(wm (wv l)).length)|| !yf (xl l)||decide (10<((ql l).length:Int))
theorem Wj (l:LgD):lgH l=false↔((fg l).length=(wm (wv l)).length/\(Gg l).length=(wm (wv l)).length/\yf (xl l)=true/\(ql l).length<=10):=by
 unfold lgH;simp only[jN,jH,ze];constructor;rintro⟨⟨⟨b,c⟩,a⟩,d⟩;exact⟨by omega,by omega,a,by omega⟩;rintro⟨b,c,a,d⟩;exact⟨⟨⟨by omega,by omega⟩,a⟩,by omega⟩
theorem H8:ES:=by
 unfold ES jiU jhn jh2 jiT jhm jiS jeS Prod.q4;rintro⟨l,⟨⟩⟩ i _ _ _;have i:(wm (wv l)).length<4611686018427387904:=i;refine⟨fun h=>jbj (l:=l) (fun a=> ?_),fun f=> ?_⟩;have h:lgH l=true:=h;rw[(Wj l).2 ((Dz l).1 a).1] at h;cases h;have f:=(Wj l).1 (show lgH l=false from f);obtain⟨r,s,p,o⟩:=id f;refine⟨⟨0,⟨⟨rfl,tZ⟩,tZ⟩,jp _,fun j d=>by omega⟩,fun x b=>⟨fun h=> ?_,fun h=> ?_⟩⟩;have h:(x:Int)<(wm (wv l)).length:=ja h;have b:x<=(((wm (wv l)).length:Int)).toNat/\∀j:Nat,j<x->S5 l j=true:=b;have c:(!kX (nth (fg l) x) 0 20|| !kX (nth (Gg l) x) 0 300)= !S5 l x:=by
  unfold S5 Ln xn;rw[Bool.not_and]
 refine⟨by omega,by show(x:Int)<(fg l).length;omega,fun _=>by omega,fun _=>by show(x:Int)<(Gg l).length;omega,fun a=>jbj (l:=l) (fun g=> ?_),fun a=>⟨iZ6,x+1,⟨⟨by simp,tZ⟩,tZ⟩,⟨by show x+1<=(((wm (wv l)).length:Int)).toNat;omega,fun j d=> ?_⟩,by show(((wm (wv l)).length:Int)).toNat-(x+1)<(((wm (wv l)).length:Int)).toNat-x;omega⟩⟩;have a:(!S5 l x)=true:=c.symm.trans a;rw[((Dz l).1 g).2.1 x (by omega)] at a;cases a;have a:(!S5 l x)=false:=c.symm.trans a;by_cases e:j=x;subst e;show S5 l j=true;simpa using a;exact b.2 j (by omega);have h:¬(x:Int)<(wm (wv l)).length:=jc h;have n:∀j,j<(wm (wv l)).length->S5 l j=true:=fun j d=>b.2 j (by omega)
 clear b h;refine⟨⟨0,⟨⟨rfl,tZ⟩,tZ⟩,jp _,fun j d=>by omega⟩,fun x b k=>⟨fun h=> ?_,fun h=> ?_⟩⟩;have k:(ql l).length<4611686018427387904:=k;have h:(x:Int)<(ql l).length:=ja h;have q:(((wm (wv l)).length:Int)).toNat=(wm (wv l)).length:=(by omega);have c:(!kX (S4 (nth (ql l) x)) 0 99|| !kX (jc0 (nth (ql l) x)) 0 (((wm (wv l)).length:Int)-1)|| !kX (WV (nth (ql l) x)) (-100000) 1440)= !nU (wm (wv l)).length (nth (ql l) x):=by
  unfold nU;rw[Bool.not_and,Bool.not_and]
 refine⟨by omega,h,fun _=> ?_,fun a=>jbj (l:=l) (fun g=> ?_),fun a=>⟨iZ6,x+1,⟨⟨by simp,tZ⟩,tZ⟩,⟨by show x+1<=(ql l).length;omega,fun j d=> ?_⟩,by show(ql l).length-(x+1)<(ql l).length-x;omega⟩⟩;show wn (((wm (wv l)).length:Int)-1);exact iZ6;have a:(!nU (wm (wv l)).length (nth (ql l) x))=true:=c.symm.trans a;rw[((Dz l).1 g).2.2 x (by omega)] at a;cases a;have a:(!nU (wm (wv l)).length (nth (ql l) x))=false:=c.symm.trans a;by_cases e:j=x;subst e;show nU (wm (wv l)).length (nth (ql l) j)=true;simpa using a;exact b.2 j (by omega);have h:¬(x:Int)<(ql l).length:=jc h;have m:∀j,j<(ql l).length->nU (wm (wv l)).length (nth (ql l) j)=true:=fun j d=>b.2 j (by omega)
 show(true,())=(cK l,());rw[(Dz l).2 ⟨f,n,m⟩]
theorem EU:wX PR 58 EQ:=vF ER H8 Tryz.func58 (kcC mA (kcC ET kcN)) koN
theorem Sw:Oo:=by
 unfold Oo jiV jgk jgV Prod.q4;rintro⟨l,⟨⟩⟩ r;have f:w5 (wv l)=gQ (wv l):=de _;refine⟨r,fun h=> ?_,fun h=> ?_⟩;have h:gQ (wv l)≠0:=ja h;show(gQ (wv l),())=(qV l,());unfold qV;rw[f,je h];have h:¬gQ (wv l)≠0:=jc h;refine⟨fun c=> ?_,fun c=> ?_⟩;have c:cK l=false:=(by simpa using(show(!cK l)=true from c));show((70:Int),())=(qV l,());unfold qV;rw[f,jd h,je c];have c:cK l=true:=(by simpa using(show(!cK l)=false from c));have q:=((Dz l).1 c).1.2.2.2;have n:∀v,(if cy (ql l)=true then(71:Int) else 0)=v->(v,())=(qV l,()):=fun v s=>by
  unfold qV;rw[f,jd h,jd (by rw[c];decide),s]
 refine⟨⟨0,⟨⟨rfl,tZ⟩,tZ⟩,jp _,fun j g=>by omega⟩,fun x p o=>⟨fun d=> ?_,fun d=> ?_⟩⟩;have o:(ql l).length<4611686018427387904:=o;have d:(x:Int)<(ql l).length:=ja d;refine⟨⟨0,⟨⟨rfl,tZ⟩,tZ⟩,jp _,fun j g=>by omega⟩,fun y i=>⟨fun b=> ?_,fun b=> ?_⟩⟩;have b:(y:Int)<(x:Int):=ja b;have i:y<=x/\∀j:Nat,j<y->WL (nth (ql l) x) (nth (ql l) j)=false:=i;have k:(y:Int)<(ql l).length:=(by omega);refine⟨by omega,d,by omega,k,fun _=>by omega,fun _=>d,fun _=>by omega,fun _=>k,fun a=> ?_,fun a=>⟨iZ6,y+1,⟨⟨by simp,tZ⟩,tZ⟩,⟨by show y+1<=x;omega,fun j g=> ?_⟩,by show x-(y+1)<x-y;omega⟩⟩;have a:WL (nth (ql l) x) (nth (ql l) y)=true:=a;exact n 71 (je (jbk (by omega) (by omega) a));have a:WL (nth (ql l) x) (nth (ql l) y)=false:=a;by_cases e:j=y;subst e;exact a;exact i.2 j (by omega);have b:¬(y:Int)<(x:Int):=jc b;have i:y<=x/\∀j:Nat,j<y->WL (nth (ql l) x) (nth (ql l) j)=false:=i;have m:y=x:=(by omega);subst m;refine⟨iZ6,y+1,⟨⟨by simp,tZ⟩,tZ⟩,⟨by show y+1<=(ql l).length;omega,fun j g=> ?_⟩,by show(ql l).length-(y+1)<(ql l).length-y;omega⟩;by_cases e:j=y;subst e;exact jcP i.2 (by omega);exact p.2 j (by omega);have d:¬(x:Int)<(ql l).length:=jc d;refine n 0 (jd fun b=> ?_);unfold cy DK at b;rw[zb] at b;obtain⟨j,g,a⟩:=b;have g:=jE.1 g;have:=p.2 j (by omega);rw[this] at a;cases a
theorem Ot:wX PR 21 Om:=vF On Sw Tryz.func21 (kcC pF (kcC EU kcN)) koN
theorem EV:Dx:=by
 rintro⟨l,n,⟨⟩⟩ a;have a:(wm (wv l)).length<4611686018427387904:=a;exact⟨by show wn (((wm (wv l)).length:Int)-1);exact iZ6,rfl⟩
theorem DA:wX PR 16 Dw:=wJ EV Tryz.func16 (kcC mA kcN) koN
theorem Ou:K7:=by
 rintro⟨l,b,⟨⟩⟩ c a;have c:gQ (wv l)=0:=c;have a:0<=b/\b<((wm (wv l)).length:Int):=a;have g:((tu (wv l)).length:Int)=(wm (wv l)).length:=(by rw[HG c]);have d:b<((tu (wv l)).length:Int):=(by omega);have f:=Kv c;have h:=Vu f (b:=b.toNat) (by omega);have i:WQ (nth (tu (wv l)) b.toNat):=(by rw[VI c];exact jaX c (by omega));have j:(wm (wv l)).length<=4:=by
  have e:=f.2.2;unfold qn at e;rw[ji] at e;exact(ja e.1).1
 exact⟨by show(wm (wv l)).length<=1000000;omega,a.1,d,a.1,a.2,a.1,d,f.1,h,i,rfl⟩
theorem K8:wX PR 18 K6:=wJ Ou Tryz.func18 (kcC NZ (kcC RN kcN)) koN
namespace U
def ZB (l:LgD) (n:Int):List Int:=if qo l (vg l n)=0 then E7 l n else[]
def jdR (l:LgD):Prop:=OR (wv l)/\(fg l).length<=20/\(Gg l).length<=20/\(ff (xl l)).length<=20/\(fq (xl l)).length<=20/\(ql l).length<=30
end U
theorem jcQ {l:LgD} (h:qV l=0):gQ (wv l)=0:=(de (wv l)).symm.trans (mq h).cp
theorem jbl {l:LgD} (h:qV l=0) {t:Bool} (b:t=true):qo l t=0:=by
 unfold qo;rw[jd (fun a=>a h),je b]
def Wk:wO:=⟨[.val tLg,.fn [tBo] [.bool]],[tBo,.int],false,fun d=>[(w4 (wv d.1)).length<=100000,qV d.1=0->wu (d.2.1.pre ((d.1,[],()),()))],fun d=>(qi d.1 (w8 d.1 d.2.1.F),qo d.1 (w8 d.1 d.2.1.F),())⟩
def Wl:Ann:=fun r=>match r with
 |10=>some fun σ=>{X:=Nat,sl:=fun i=>[(46,.dat .int (i:Int))],ob:=fun i=>[(25,some (.map false .int (.ptr tBl) (AD (gb tLg σ 2) i)))],inv:=fun i=>i<=(gd (.slice .int) σ 44).length,mu:=fun i=>(gd (.slice .int) σ 44).length-i}
 |14=>some fun σ=>{X:=Nat,sl:=fun p=>[(71,.dat .int (p:Int))],ob:=fun p=>[(65,some (.box 85 false ((bx σ 65).set 21 (.own (ou 65 21) .int)))),(ou 65 21,some (.row 3 .int false .yes (qx (gb tLg σ 2) (gd .int σ 13) p)))],inv:=fun p=>p<=(wd (wj (wv (gb tLg σ 2)))).length,mu:=fun p=>(wd (wj (wv (gb tLg σ 2)))).length-p}
 |21=>some fun σ=>{X:=Nat,sl:=fun i=>[(103,.dat .int (i:Int))],ob:=fun i=>[(65,some (.box 85 false (((bx σ 65).set 24 (.dat .bool (tw (wl (gb tLg σ 2) (gd .int σ 13) i)))).set 25 (.dat .int (pT (wl (gb tLg σ 2) (gd .int σ 13) i))))))],inv:=fun i=>i<=(ql (gb tLg σ 2)).length,mu:=fun i=>(ql (gb tLg σ 2)).length-i}
 |_=>none
abbrev jff (d:LgD×FnD [tBo] [Ty.bool]×Unit):=d.1.2.2.2.1.q4.q4.2.1
abbrev jfg (d:LgD×FnD [tBo] [Ty.bool]×Unit):=d.1.2.2.2.1.q4.q4.1
abbrev jfh (d:LgD×FnD [tBo] [Ty.bool]×Unit):=d.1.2.2.2.1.q4.2.2.2.1
abbrev jfi (d:LgD×FnD [tBo] [Ty.bool]×Unit):=d.1.2.2.2.1.q4.2.2.1
abbrev jfM (d:LgD×FnD [tBo] [Ty.bool]×Unit):=(wd (wj (wv d.1)))
abbrev jh3 (d:LgD×FnD [tBo] [Ty.bool]×Unit):=(qi d.1 (w8 d.1 d.2.1.2),qo d.1 (w8 d.1 d.2.1.2),())
abbrev jfj (d:LgD×FnD [tBo] [Ty.bool]×Unit):=d.1.2.2.2.1.q4.2.1
abbrev jeu (d:LgD×FnD [tBo] [Ty.bool]×Unit):=(kY d.1.1)
abbrev jer (d:LgD×FnD [tBo] [Ty.bool]×Unit)(x:Nat):=(nth (jeu d) x)
abbrev jeo (d:LgD×FnD [tBo] [Ty.bool]×Unit)(x:Nat):=(nth d.1.1.2.2.1 (jer d x).toNat)
abbrev jf1 (d:LgD×FnD [tBo] [Ty.bool]×Unit)(x:Nat):=(nth d.1.2.2.1 (jer d x).toNat)
abbrev jfk (d:LgD×FnD [tBo] [Ty.bool]×Unit):=d.1.2.2.2.1.q4.1
abbrev jeK (d:LgD×FnD [tBo] [Ty.bool]×Unit)(x:Nat)(a:Nat):=(vi ((jeo d x).1.1,(jeo d x).1.2.1,(jeo d x).1.2.2.1,(jeo d x).1.2.2.2.1,(jeo d x).1.q4.1,(jeo d x).1.q4.2.1,(jeo d x).2.1,(jeo d x).2.2.1,(jeo d x).2.2.2.1,d.1.2.2.2.1.1,d.1.2.2.2.1.2.1,d.1.2.2.2.1.2.2.1,d.1.2.2.2.1.2.2.2.1,(jfk d),(jfj d),(jfi d),(jfh d),(jfg d),(jff d),nth (jeu d) x,nth d.1.2.1 (jer d x).toNat,qx d.1 (jer d x) a,(0:Int),(0:Int),false,(0:Int),()))
abbrev jh4 (d:LgD×FnD [tBo] [Ty.bool]×Unit)(x:Nat):=((jeo d x).1.1=(jeo d x).1.1/\(jeo d x).1.2.1=(jeo d x).1.2.1/\(jeo d x).1.2.2.1=(jeo d x).1.2.2.1/\(jeo d x).1.2.2.2.1=(jeo d x).1.2.2.2.1/\(jeo d x).1.q4.1=(jeo d x).1.q4.1/\(jeo d x).1.q4.2.1=(jeo d x).1.q4.2.1/\(jeo d x).2.1=(jeo d x).2.1/\(jeo d x).2.2.1=(jeo d x).2.2.1/\(jeo d x).2.2.2.1=(jeo d x).2.2.2.1/\d.1.2.2.2.1.1=d.1.2.2.2.1.1/\d.1.2.2.2.1.2.1=d.1.2.2.2.1.2.1/\d.1.2.2.2.1.2.2.1=d.1.2.2.2.1.2.2.1/\d.1.2.2.2.1.2.2.2.1=d.1.2.2.2.1.2.2.2.1/\(jfk d)=(jfk d)/\(jfj d)=(jfj d)/\(jfi d)=(jfi d)/\(jfh d)=(jfh d)/\(jfg d)=(jfg d)/\(jff d)=(jff d)/\nth (jeu d) x=nth (jeu d) x/\nth d.1.2.1 (jer d x).toNat=nth d.1.2.1 (jer d x).toNat/\True/\(0:Int)=0/\(0:Int)=0/\qF/\(0:Int)=0/\True)
abbrev jfN (d:LgD×FnD [tBo] [Ty.bool]×Unit)(x:Nat)(a:Nat):=(wl d.1 (jer d x) a)
abbrev jho (d:LgD×FnD [tBo] [Ty.bool]×Unit)(x:Nat)(a:Nat)(b:Nat):=(vi ((jeo d x).1.1,(jeo d x).1.2.1,(jeo d x).1.2.2.1,(jeo d x).1.2.2.2.1,(jeo d x).1.q4.1,(jeo d x).1.q4.2.1,(jeo d x).2.1,(jeo d x).2.2.1,(jeo d x).2.2.2.1,d.1.2.2.2.1.1,d.1.2.2.2.1.2.1,d.1.2.2.2.1.2.2.1,d.1.2.2.2.1.2.2.2.1,(jfk d),(jfj d),(jfi d),(jfh d),(jfg d),(jff d),nth (jeu d) x,nth d.1.2.1 (jer d x).toNat,qx d.1 (jer d x) a,bE (jeK d x a),cz (jf1 d x) (jeK d x a),tw (jfN d x b),pT (jfN d x b),()))
def Wm:Prop:=∀(d:LgD×FnD [tBo] [Ty.bool]×Unit),(w4 (wv d.1)).length<=100000->(qV d.1=0->wu (d.2.1.1 ((d.1,[],()),())))->(w4 (wv d.1)).length<=100000/\(decide (qV d.1≠0)=true->((((((0:Int),[],[],()),[],[],(0:Int),(0:Int),[],()),[],[],((0:Int),(0:Int),(0:Int),(0:Int),(0:Int),(0:Int),(0:Int),(0:Int),[],[],()),[],()),[],()),qV d.1,())=(jh3 d))/\(decide (qV d.1≠0)=false->asks (d.2.1.1 ((d.1,[],()),())) (((!(d.2.1.2 ((d.1,[],()),())).1)=true->((((((0:Int),[],[],()),[],[],(0:Int),(0:Int),[],()),[],[],((0:Int),(0:Int),(0:Int),(0:Int),(0:Int),(0:Int),(0:Int),(0:Int),[],[],()),[],()),[],()),(1:Int),())=(jh3 d))/\((!(d.2.1.2 ((d.1,[],()),())).1)=false->(w4 d.1.1).length<=100000/\(w4 d.1.1).length<=100000/\((jeu d).length<4611686018427387904->(∃(x:Nat),((0=(x:Int)/\True)/\[]=AD d.1 x/\True)/\x<=(jeu d).length)/\∀(x:Nat),x<=(jeu d).length->(decide ((x:Int)<(jeu d).length)=true->0<=(x:Int)/\(x:Int)<(jeu d).length/\0<=nth (jeu d) x/\nth (jeu d) x<(d.1.1.2.2.1.length:Int)/\0<=nth (jeu d) x/\nth (jeu d) x<(d.1.2.1.length:Int)/\(d.1.1.1.2.1.length<4611686018427387904->(∃(a:Nat),((0=(a:Int)/\True)/\(jh4 d x)/\qx d.1 (jer d x) a=[]/\True)/\a<=(jfM d).length)/\∀(a:Nat),a<=(jfM d).length->(decide ((a:Int)<d.1.1.1.2.1.length)=true->0<=nth (jeu d) x/\nth (jeu d) x<(↑(cJ d.1.1).length:Int)/\0<=(a:Int)/\(a:Int)<=64/\(decide (iP (nth (cJ d.1.1) (jer d x).toNat/(2:Int)^a) (1:Int)=1)=true->((qx d.1 (jer d x) a).length+[(a:Int)].length)*8<=140737488355328/\wn ((a:Int)+1)/\∃(c:Nat),(((a:Int)+1=(c:Int)/\True)/\(jh4 d x)/\qx d.1 (jer d x) a++[(a:Int)]=qx d.1 (jer d x) c/\True)/\c<=(jfM d).length/\(jfM d).length-c<(jfM d).length-a)/\(decide (iP (nth (cJ d.1.1) (jer d x).toNat/(2:Int)^a) (1:Int)=1)=false->wn ((a:Int)+1)/\∃(c:Nat),(((a:Int)+1=(c:Int)/\True)/\qx d.1 (jer d x) a=qx d.1 (jer d x) c/\(jh4 d x)/\True)/\c<=(jfM d).length/\(jfM d).length-c<(jfM d).length-a))/\(decide ((a:Int)<d.1.1.1.2.1.length)=false->0<=nth (jeu d) x/\nth (jeu d) x<(d.1.2.2.1.length:Int)/\E4 (jeK d x a)/\0<=nth d.1.2.2.1 (jer d x).toNat/\nth d.1.2.2.1 (jer d x).toNat<=300/\(d.1.q4.1.length<4611686018427387904->(∃(b:Nat),((0=(b:Int)/\True)/\((jeo d x).1.1=(jeo d x).1.1/\(jeo d x).1.2.1=(jeo d x).1.2.1/\(jeo d x).1.2.2.1=(jeo d x).1.2.2.1/\(jeo d x).1.2.2.2.1=(jeo d x).1.2.2.2.1/\(jeo d x).1.q4.1=(jeo d x).1.q4.1/\(jeo d x).1.q4.2.1=(jeo d x).1.q4.2.1/\(jeo d x).2.1=(jeo d x).2.1/\(jeo d x).2.2.1=(jeo d x).2.2.1/\(jeo d x).2.2.2.1=(jeo d x).2.2.2.1/\d.1.2.2.2.1.1=d.1.2.2.2.1.1/\d.1.2.2.2.1.2.1=d.1.2.2.2.1.2.1/\d.1.2.2.2.1.2.2.1=d.1.2.2.2.1.2.2.1/\d.1.2.2.2.1.2.2.2.1=d.1.2.2.2.1.2.2.2.1/\(jfk d)=(jfk d)/\(jfj d)=(jfj d)/\(jfi d)=(jfi d)/\(jfh d)=(jfh d)/\(jfg d)=(jfg d)/\(jff d)=(jff d)/\nth (jeu d) x=nth (jeu d) x/\nth d.1.2.1 (jer d x).toNat=nth d.1.2.1 (jer d x).toNat/\qx d.1 (jer d x) a=qx d.1 (jer d x) a/\bE (jeK d x a)=bE (jeK d x a)/\cz (jf1 d x) (jeK d x a)=cz (jf1 d x) (jeK d x a)/\tw (jeK d x a)=tw (jfN d x b)/\pT (jeK d x a)=pT (jfN d x b)/\True)/\True)/\b<=(ql d.1).length)/\∀(b:Nat),b<=(ql d.1).length->(decide ((b:Int)<d.1.q4.1.length)=true->0<=(b:Int)/\(b:Int)<d.1.q4.1.length/\(decide ((nth d.1.q4.1 b).2.1=nth (jeu d) x)=true->wn ((b:Int)+1)/\∃(c:Nat),(((b:Int)+1=(c:Int)/\True)/\((jeo d x).1.1=(jeo d x).1.1/\(jeo d x).1.2.1=(jeo d x).1.2.1/\(jeo d x).1.2.2.1=(jeo d x).1.2.2.1/\(jeo d x).1.2.2.2.1=(jeo d x).1.2.2.2.1/\(jeo d x).1.q4.1=(jeo d x).1.q4.1/\(jeo d x).1.q4.2.1=(jeo d x).1.q4.2.1/\(jeo d x).2.1=(jeo d x).2.1/\(jeo d x).2.2.1=(jeo d x).2.2.1/\(jeo d x).2.2.2.1=(jeo d x).2.2.2.1/\d.1.2.2.2.1.1=d.1.2.2.2.1.1/\d.1.2.2.2.1.2.1=d.1.2.2.2.1.2.1/\d.1.2.2.2.1.2.2.1=d.1.2.2.2.1.2.2.1/\d.1.2.2.2.1.2.2.2.1=d.1.2.2.2.1.2.2.2.1/\(jfk d)=(jfk d)/\(jfj d)=(jfj d)/\(jfi d)=(jfi d)/\(jfh d)=(jfh d)/\(jfg d)=(jfg d)/\(jff d)=(jff d)/\nth (jeu d) x=nth (jeu d) x/\nth d.1.2.1 (jer d x).toNat=nth d.1.2.1 (jer d x).toNat/\qx d.1 (jer d x) a=qx d.1 (jer d x) a/\pS (jho d x a b)=bE (jeK d x a)/\E3 (jho d x a b)=cz (jf1 d x) (jeK d x a)/\WC (nth d.1.q4.1 b).2.2.1 (jho d x a b)=tw (wl d.1 (jer d x) c)/\WD (nth d.1.q4.1 b).2.2.1 (jho d x a b)=pT (wl d.1 (jer d x) c)/\True)/\True)/\c<=(ql d.1).length/\(ql d.1).length-c<(ql d.1).length-b)/\(decide ((nth d.1.q4.1 b).2.1=nth (jeu d) x)=false->wn ((b:Int)+1)/\∃(c:Nat),(((b:Int)+1=(c:Int)/\True)/\((jeo d x).1.1=(jeo d x).1.1/\(jeo d x).1.2.1=(jeo d x).1.2.1/\(jeo d x).1.2.2.1=(jeo d x).1.2.2.1/\(jeo d x).1.2.2.2.1=(jeo d x).1.2.2.2.1/\(jeo d x).1.q4.1=(jeo d x).1.q4.1/\(jeo d x).1.q4.2.1=(jeo d x).1.q4.2.1/\(jeo d x).2.1=(jeo d x).2.1/\(jeo d x).2.2.1=(jeo d x).2.2.1/\(jeo d x).2.2.2.1=(jeo d x).2.2.2.1/\d.1.2.2.2.1.1=d.1.2.2.2.1.1/\d.1.2.2.2.1.2.1=d.1.2.2.2.1.2.1/\d.1.2.2.2.1.2.2.1=d.1.2.2.2.1.2.2.1/\d.1.2.2.2.1.2.2.2.1=d.1.2.2.2.1.2.2.2.1/\(jfk d)=(jfk d)/\(jfj d)=(jfj d)/\(jfi d)=(jfi d)/\(jfh d)=(jfh d)/\(jfg d)=(jfg d)/\(jff d)=(jff d)/\nth (jeu d) x=nth (jeu d) x/\nth d.1.2.1 (jer d x).toNat=nth d.1.2.1 (jer d x).toNat/\qx d.1 (jer d x) a=qx d.1 (jer d x) a/\bE (jeK d x a)=bE (jeK d x a)/\cz (jf1 d x) (jeK d x a)=cz (jf1 d x) (jeK d x a)/\tw (jfN d x b)=tw (wl d.1 (jer d x) c)/\pT (jfN d x b)=pT (wl d.1 (jer d x) c)/\True)/\True)/\c<=(ql d.1).length/\(ql d.1).length-c<(ql d.1).length-b))/\(decide ((b:Int)<d.1.q4.1.length)=false->wn ((x:Int)+1)/\∃(c:Nat),(((x:Int)+1=(c:Int)/\True)/\fu Ty.int (jer d x) (some (nth d.1.1.2.2.1 (jer d x).toNat,d.1.2.2.2.1,nth (jeu d) x,nth d.1.2.1 (jer d x).toNat,qx d.1 (jer d x) a,bE (jeK d x a),cz (jf1 d x) (jeK d x a),tw (jfN d x b),pT (jfN d x b),())) (AD d.1 x)=AD d.1 c/\True)/\c<=(jeu d).length/\(jeu d).length-c<(jeu d).length-x)))))/\(decide ((x:Int)<(jeu d).length)=false->((d.1,AD d.1 x,()),(0:Int),())=(jh3 d))))))
def jbJ (l:LgD) (n:Int) (k:Nat):BlD:=
 (nth (wm (wv l)) n.toNat,xl l,n,nth (fg l) n.toNat,qx l n (wd (wj (wv l))).length,
  bE (tg l n (qx l n (wd (wj (wv l))).length)),cz (nth (Gg l) n.toNat) (tg l n (qx l n (wd (wj (wv l))).length)),tw (wl l n k),pT (wl l n k),())
theorem Ov (l:LgD) (n:Int) {k:Nat} (hk:k<=(ql l).length):jbJ l n k=wl l n k:=by
 obtain⟨c1,c2,a,b,c,d,f⟩:=ym l n k hk;have e:wl l n k=(vb (wl l n k),gH (wl l n k),Qi (wl l n k),Qj (wl l n k),qO (wl l n k),pS (wl l n k),E3 (wl l n k),tw (wl l n k),pT (wl l n k),()):=rfl;rw[c1,c2,a,b,c,d,f] at e;exact e.symm
theorem Wn (l:LgD) (n:Int) (k:Nat):qx l n (k+1)=qx l n k++(if wD (nth (cJ (wv l)) n.toNat) (k:Int)=true then[(k:Int)] else[]):=by
 unfold qx qq;rw[zg,kC,zw];congr 1;by_cases h:wD (nth (cJ (wv l)) n.toNat) (k:Int)=true;rw[je h];simp only[List.filter,h,List.map];rw[jd h];rw[zZ] at h;simp only[List.filter,h,List.map]
theorem YA {l:LgD} (h:Dg l):(cJ (wv l)).length=(wm (wv l)).length:=by
 unfold cJ;rw[je h.cp];unfold ae;rw[zp,zI]
theorem YC:Wm:=by
 unfold Wm jho jfN jh4 jeK jfk jf1 jeo jer jeu jfj jh3 jfM jfi jfh jfg jff Prod.q4;rintro⟨l,told,⟨⟩⟩ w K;have w:(w4 (wv l)).length<=100000:=w;refine⟨w,fun h=> ?_,fun h=> ?_⟩;have h:qV l≠0:=ja h;have e:∀t,qo l t=qV l:=fun t=>je h
 have e2:∀t,qi l t=jdM:=fun t=>jd (by rw[e];exact h)
 show(jdM,qV l,())=(qi l (w8 l told.2),qo l (w8 l told.2),());rw[e,e2];have h:qV l=0:=jR.1 (jc h);have g:=mq h;refine vI _ (K h) ⟨fun o=> ?_,fun o=>⟨w,w,fun H=>⟨⟨0,⟨⟨rfl,tZ⟩,rfl,tZ⟩,jp _⟩,fun x I=>⟨fun q=> ?_,fun q=> ?_⟩⟩⟩⟩;have o:w8 l told.2=false:=(by simpa using(show(!w8 l told.2)=true from o));show(jdM,(1:Int),())=(qi l (w8 l told.2),qo l (w8 l told.2),());have e:qo l (w8 l told.2)=1:=by
  unfold qo;rw[jd (fun z=>z h),o];rfl
 have e2:qi l (w8 l told.2)=jdM:=jd (by rw[e];decide);rw[e,e2];have q:(x:Int)<(kY (wv l)).length:=ja q;have f:x<(kY (wv l)).length:=(by omega);obtain⟨n,en⟩:∃n,n=nth (kY (wv l)) x:=⟨_,rfl⟩;have c:0<=n/\n<((wm (wv l)).length:Int):=(by rw[en];exact N4 (L.we f));have M:(kY (wv l)).length<=4:=P7 g;have C:n<((fg l).length:Int):=(by rw[g.py.1];exact c.2);have F:n<((Gg l).length:Int):=(by rw[g.tr.1];exact c.2);have E:n<((cJ (wv l)).length:Int):=(by rw[YA g];exact c.2);have O:=jdd g;have u:=sM (nth (cJ (wv l)) n.toNat);have G:=g.tr.2 _ (L.we (show n.toNat<(Gg l).length by omega));have D:AD l (x+1)=fu .int n (some (qt l n)) (AD l x):=(by rw[KJ f,<-en];rfl);have N:=g.cl;have step:∀k,k<(ql l).length->wl l n (k+1)=th n (jbJ l n k) (nth (ql l) k):=fun k hk=>by rw[dg hk,Ov l n (by omega)]
 subst en;refine⟨by omega,q,c.1,c.2,c.1,C,fun P=>⟨⟨0,⟨⟨rfl,tZ⟩,(by repeat' (first|exact trivial|exact rfl|apply And.intro)),rfl,tZ⟩,jp _⟩,fun p v=>⟨fun b=> ?_,fun b=> ?_⟩⟩⟩;have b:(p:Int)<(wd (wj (wv l))).length:=ja b;have d:=Wn l (nth (kY (wv l)) x) p;have s:=(u p).1;have s:(qx l (nth (kY (wv l)) x) p).length<=p:=s;have up:p+1<=(wd (wj (wv l))).length:=(by omega);have r:(wd (wj (wv l))).length-(p+1)<(wd (wj (wv l))).length-p:=(by omega);refine⟨c.1,E,by omega,by omega,fun j=> ?_,fun j=> ?_⟩;have j:wD (nth (cJ (wv l)) (nth (kY (wv l)) x).toNat) (p:Int)=true:=j;rw[je j] at d;exact⟨by show((qx l (nth (kY (wv l)) x) p).length+1)*8<=140737488355328;omega,iZ6,p+1,⟨⟨by simp,tZ⟩,(by repeat' (first|exact trivial|exact rfl|apply And.intro)),d.symm,tZ⟩,up,r⟩;have j:wD (nth (cJ (wv l)) (nth (kY (wv l)) x).toNat) (p:Int)=false:=j;rw[jd (by rw[j];decide),j8] at d;exact⟨iZ6,p+1,⟨⟨by simp,tZ⟩,d.symm,(by repeat' (first|exact trivial|exact rfl|apply And.intro)),tZ⟩,up,r⟩;have b:¬(p:Int)<(wd (wj (wv l))).length:=jc b;have v:p<=(wd (wj (wv l))).length:=v;have B:p=(wd (wj (wv l))).length:=(by omega);subst B;have J:Df (tg l (nth (kY (wv l)) x) (qx l (nth (kY (wv l)) x) (wd (wj (wv l))).length)):=P5 g c (by have:=(u (wd (wj (wv l))).length).1;unfold qx;omega);refine⟨c.1,F,sL.2 J,G.1,G.2,fun Q=>⟨⟨0,⟨⟨rfl,tZ⟩,(by repeat' (first|exact trivial|exact rfl|apply And.intro)),tZ⟩,jp _⟩,fun k hk=>⟨fun a=> ?_,fun a=> ?_⟩⟩⟩;have a:(k:Int)<(ql l).length:=ja a;have i:=step k (by omega);have up:k+1<=(ql l).length:=(by omega);have r:(ql l).length-(k+1)<(ql l).length-k:=(by omega);refine⟨by omega,a,fun m=> ?_,fun m=> ?_⟩;have m:jc0 (nth (ql l) k)=(nth (kY (wv l)) x):=ja m;have e:wl l (nth (kY (wv l)) x) (k+1)=gn (WV (nth (ql l) k)) (jbJ l (nth (kY (wv l)) x) k):=(by rw[i];exact je m);have y:tw (gn (WV (nth (ql l) k)) (jbJ l (nth (kY (wv l)) x) k))=tw (wl l (nth (kY (wv l)) x) (k+1)):=(by rw[e]);have e2:pT (gn (WV (nth (ql l) k)) (jbJ l (nth (kY (wv l)) x) k))=pT (wl l (nth (kY (wv l)) x) (k+1)):=(by rw[e]);exact⟨iZ6,k+1,⟨⟨by simp,tZ⟩,(by repeat' (first|exact trivial|exact y|exact e2|exact rfl|apply And.intro)),tZ⟩,up,r⟩;have m:¬jc0 (nth (ql l) k)=(nth (kY (wv l)) x):=jc m;have e:wl l (nth (kY (wv l)) x) (k+1)=wl l (nth (kY (wv l)) x) k:=(by rw[i,Ov l (nth (kY (wv l)) x) (by omega)];exact jd m);have y:tw (wl l (nth (kY (wv l)) x) k)=tw (wl l (nth (kY (wv l)) x) (k+1)):=(by rw[e]);have e2:pT (wl l (nth (kY (wv l)) x) k)=pT (wl l (nth (kY (wv l)) x) (k+1)):=(by rw[e]);exact⟨iZ6,k+1,⟨⟨by simp,tZ⟩,(by repeat' (first|exact trivial|exact y|exact e2|exact rfl|apply And.intro)),tZ⟩,up,r⟩;have a:¬(k:Int)<(ql l).length:=jc a;have hk:k<=(ql l).length:=hk;have A:k=(ql l).length:=(by omega);subst A;have e:fu .int (nth (kY (wv l)) x) (some (jbJ l (nth (kY (wv l)) x) (ql l).length)) (AD l x)=AD l (x+1):=by
  rw[D,Ov l (nth (kY (wv l)) x) (jj _)];rfl
 exact⟨iZ6,x+1,⟨⟨by simp,tZ⟩,e,tZ⟩,by show x+1<=(kY (wv l)).length;omega,by show(kY (wv l)).length-(x+1)<(kY (wv l)).length-x;omega⟩;have q:¬(x:Int)<(kY (wv l)).length:=jc q;have I:x<=(kY (wv l)).length:=I;have f:x=(kY (wv l)).length:=(by omega);subst f;have o:w8 l told.2=true:=(by simpa using(show(!w8 l told.2)=false from o));show((l,SN l,()),(0:Int),())=(qi l (w8 l told.2),qo l (w8 l told.2),());have e:qo l (w8 l told.2)=0:=by
  unfold qo;rw[jd (fun z=>z h),je o]
 have e2:qi l (w8 l told.2)=(l,SN l,()):=je e;rw[e,e2]
theorem sY:wX PR 34 Wk:=vF Wl YC Tryz.func34 (kcC Sq (kcC Ry (kcC Nd kcN))) (koC Am (koC oh koN))
def Ow:wO:=⟨[.val tLg],[.slice .int,.int],false,fun d=>[(w4 (wv d.1)).length<=100000],fun d=>(Lo d.1,qV d.1,())⟩
abbrev jgW (d:LgD×Unit):=(w8 d.1 fun(a:BoD×Unit)=>(true,()))
def Ox:Prop:=∀(d:LgD×Unit),(w4 (wv d.1)).length<=100000->(w4 (wv d.1)).length<=100000/\(qV d.1=0->wu [])/\(decide (qo d.1 (jgW d)≠0)=true->([],qo d.1 (jgW d),())=(Lo d.1,qV d.1,()))/\(decide (qo d.1 (jgW d)≠0)=false->WG (qi d.1 (jgW d))/\(SO (qi d.1 (jgW d)),(0:Int),())=(Lo d.1,qV d.1,()))
def Sx:wO:=⟨[.val tBo,.ref .int],[.bool],false,fun d=>[(wm (wv (bw d.1))).length<=100],fun d=>(qH d.1 d.2.1,())⟩
def Sy:Prop:=∀(d:BoD×Int×Unit),(wm (wv (bw d.1))).length<=100->(wm (wv (bw d.1))).length<=100/\(qH d.1 d.2.1,())=(qH d.1 d.2.1,())
def YD:wO:=⟨[.val tLg,.val .int],[.slice .int,.int],false,fun d=>[(w4 (wv d.1)).length<=100000],fun d=>(qc d.1 d.2.1,qo d.1 (vg d.1 d.2.1),())⟩
abbrev jgX (d:LgD×Int×Unit):=(w8 d.1 fun(a:BoD×Unit)=>(qH a.1 d.2.1,()))
def YE:Prop:=∀(d:LgD×Int×Unit),(w4 (wv d.1)).length<=100000->(w4 (wv d.1)).length<=100000/\(qV d.1=0->wu [(wm (wv (bw (d.1,[],())))).length<=100])/\(decide (qo d.1 (jgX d)≠0)=true->([],qo d.1 (jgX d),())=(qc d.1 d.2.1,qo d.1 (vg d.1 d.2.1),()))/\(decide (qo d.1 (jgX d)≠0)=false->SQ (qi d.1 (jgX d))/\(E5 (qi d.1 (jgX d)) d.2.1,(0:Int),())=(qc d.1 d.2.1,qo d.1 (vg d.1 d.2.1),()))
def K9:wO:=⟨[.val tBo,.ref .int,.ref .int],[.bool],false,fun d=>[(wm (wv (bw d.1))).length<=100],fun d=>(qH d.1 d.2.1&&yP d.2.2.1,())⟩
def La:Prop:=∀(d:BoD×Int×Int×Unit),(wm (wv (bw d.1))).length<=100->(wm (wv (bw d.1))).length<=100/\(qH d.1 d.2.1&&kX d.2.2.1 (-100000:Int) (1440:Int),())=(qH d.1 d.2.1&&yP d.2.2.1,())
def H9:wO:=⟨[.val tBo,.ref .int,.ref .int],[.bool],false,fun d=>[(wm (wv (bw d.1))).length<=100],fun d=>(qH d.1 d.2.1&&yX d.2.2.1,())⟩
def Ia:Prop:=∀(d:BoD×Int×Int×Unit),(wm (wv (bw d.1))).length<=100->(wm (wv (bw d.1))).length<=100/\(qH d.1 d.2.1&&kX d.2.2.1 (0:Int) (1000000000:Int),())=(qH d.1 d.2.1&&yX d.2.2.1,())
def Sz:wO:=⟨[.val tLg,.val .int,.val .int],[.int,.int],false,fun d=>[(w4 (wv d.1)).length<=100000],fun d=>(E6 d.1 d.2.1 d.2.2.1,qo d.1 (vg d.1 d.2.1&&yP d.2.2.1),())⟩
abbrev jhp (d:LgD×Int×Int×Unit):=(w8 d.1 fun(a:BoD×Unit)=>(qH a.1 d.2.1&&yP d.2.2.1,()))
abbrev jgY (d:LgD×Int×Int×Unit):=(wH none (wx Ty.int d.2.1 (qi d.1 (jhp d)).2.1))
abbrev jgl (d:LgD×Int×Int×Unit):=(wE ((((0:Int),(0:Int),(0:Int),(0:Int),(0:Int),(0:Int),()),(0:Int),(0:Int),(0:Int),()),((0:Int),(0:Int),(0:Int),(0:Int),(0:Int),(0:Int),(0:Int),(0:Int),[],[],()),(0:Int),(0:Int),[],(0:Int),(0:Int),false,(0:Int),()) (jgY d))
abbrev jh5 (d:LgD×Int×Int×Unit):=(E6 d.1 d.2.1 d.2.2.1,qo d.1 (vg d.1 d.2.1&&yP d.2.2.1),())
def SA:Prop:=∀(d:LgD×Int×Int×Unit),(w4 (wv d.1)).length<=100000->(w4 (wv d.1)).length<=100000/\(qV d.1=0->wu [(wm (wv (bw (d.1,[],())))).length<=100])/\(decide (qo d.1 (jhp d)≠0)=true->((0:Int),qo d.1 (jhp d),())=(jh5 d))/\(decide (qo d.1 (jhp d)≠0)=false->((jgY d).isNone=true->((0:Int),(0:Int),())=(jh5 d))/\((jgY d).isNone=false->(jgY d).isSome=true/\pO (jgl d)/\(jgY d).isSome=true/\pO (jgl d)/\(-100000:Int)<=d.2.2.1/\d.2.2.1<=1440/\wn ((vG (jgl d)).q4.2.1-gC d.2.2.1 (jgl d))/\((vG (jgl d)).q4.2.1-gC d.2.2.1 (jgl d),(0:Int),())=(jh5 d)))
theorem Wo:Sy:=fun _ h=>⟨h,rfl⟩
theorem SB:wX PR 46 Sx:=wJ Wo Tryz.func46 (kcC gY kcN) koN
theorem Oy:La:=fun _ h=>⟨h,rfl⟩
theorem Lb:wX PR 35 K9:=wJ Oy Tryz.func35 (kcC gY (kcC yx kcN)) koN
theorem Lc:Ia:=fun _ h=>⟨h,rfl⟩
theorem Ib:wX PR 43 H9:=wJ Lc Tryz.func43 (kcC gY (kcC yx kcN)) koN
theorem jdG {l:LgD} (h:Dg l):(wm (wv l)).length<=4:=by
 have a:=h.dy;unfold qn at a;rw[ji] at a;exact(ja a.1).1
theorem Qb (l:LgD):qo l true=qV l:=by
 unfold qo;by_cases h:qV l=0;rw[jd (fun a=>a h),je rfl,h];rw[je h]
theorem Ic {l:LgD} {t:Bool} (h:qo l t=0):qi l t=U.bo l/\Dg l/\t=true:=by
 have e:qi l t=U.bo l:=(by unfold qi;rw[je h];rfl);unfold qo at h
 split at h
 rename_i a;exact absurd h a;rename_i a
 split at h
 rename_i b;exact⟨e,mq (jR.1 a),b⟩;cases h
theorem SC:Ox:=by
 unfold Ox jgW;rintro⟨l,⟨⟩⟩ c;refine⟨c,fun _=>tZ,fun h=> ?_,fun h=> ?_⟩;have h:qo l true≠0:=ja h;show(([]:List Int),qo l true,())=(Lo l,qV l,());rw[Qb] at h⊢;unfold Lo;rw[jd h];have h:qo l true=0:=jR.1 (jc h);obtain⟨a,b,_⟩:=Ic h;rw[Qb] at h;refine⟨?_,?_⟩;show WG (qi l true);rw[a];exact jdF b;show(SO (qi l true),(0:Int),())=(Lo l,qV l,());rw[a,h];unfold Lo;rw[je h]
theorem Oz:wX PR 24 Ow:=wJ SC Tryz.func24 (kcC sY (kcC Oc (kcC uG kcN))) koN
theorem jbm:YE:=by
 unfold YE jgX;rintro⟨l,n,⟨⟩⟩ d;refine⟨d,fun b=> ?_,fun h=> ?_,fun h=> ?_⟩;have:(wm (wv l)).length<=4:=jdG (mq b);exact⟨by show(wm (wv l)).length<=100;omega,tZ⟩;have h:qo l (vg l n)≠0:=ja h;show(([]:List Int),qo l (vg l n),())=(qc l n,qo l (vg l n),());unfold qc;rw[jd h];have h:qo l (vg l n)=0:=jR.1 (jc h);obtain⟨a,c,_⟩:=Ic h;refine⟨?_,?_⟩;show SQ (qi l (vg l n));rw[a];exact jcK c;show(E5 (qi l (vg l n)) n,(0:Int),())=(qc l n,qo l (vg l n),());rw[a,h];unfold qc;rw[je h]
theorem Qc:wX PR 17 YD:=wJ jbm Tryz.func17 (kcC sY (kcC SB (kcC EL kcN))) koN
theorem Zv {l:LgD} (i:Dg l) {n:Int} {b:BlD} (h:OS (U.bo l) n=some b):Ip b:=by
 have a:=jbb i;have d:(n,some b)∈SN l:=by
  refine(M.fj (kt:= .int) a.2.2.1).1 ?_;have e:wH none (wx .int n (SN l))=some b:=h;cases f:wx (β:=Option BlD) Ty.int n (SN l) with
  |none=>rw[f] at e;cases e
  |some v=>rw[f] at e;exact f.trans (jF some e)
 obtain⟨g,c,j⟩:=a.1 _ d;have c:some b=some g:=c;simp only[jy] at c;subst c;exact aL.1 j
theorem Wp {b:BlD} {m:Int} (w:Ip b) (a: -100000<=m/\m<=1440): -1000000<=gC m b/\gC m b<=20000000000000000:=Oj (HR w a)
theorem Wq:SA:=by
 unfold SA jh5 jgl jgY jhp Prod.q4;rintro⟨l,n,m,⟨⟩⟩ j;refine⟨j,fun g=> ?_,fun h=> ?_,fun h=> ?_⟩;have:(wm (wv l)).length<=4:=jdG (mq g);exact⟨by show(wm (wv l)).length<=100;omega,tZ⟩;have h:qo l (vg l n&&yP m)≠0:=ja h;show((0:Int),qo l (vg l n&&yP m),())=(E6 l n m,qo l (vg l n&&yP m),());unfold E6;rw[jd h];have h:qo l (vg l n&&yP m)=0:=jR.1 (jc h);obtain⟨f,i,c⟩:=Ic h;rw[ji] at c;have a: -100000<=m/\m<=1440:=qY.1 c.2;show((OS (qi l (vg l n&&yP m)) n).isNone=true->((0:Int),(0:Int),())=(E6 l n m,qo l (vg l n&&yP m),()))/\
  ((OS (qi l (vg l n&&yP m)) n).isNone=false->(OS (qi l (vg l n&&yP m)) n).isSome=true/\pO (wE _ (OS (qi l (vg l n&&yP m)) n))/\(OS (qi l (vg l n&&yP m)) n).isSome=true/\pO (wE _ (OS (qi l (vg l n&&yP m)) n))/\-100000<=m/\m<=1440/\
    wn (YP (vG (wE _ (OS (qi l (vg l n&&yP m)) n)))-gC m (wE _ (OS (qi l (vg l n&&yP m)) n)))/\(YP (vG (wE _ (OS (qi l (vg l n&&yP m)) n)))-gC m (wE _ (OS (qi l (vg l n&&yP m)) n)),(0:Int),())=(E6 l n m,qo l (vg l n&&yP m),()))
 rw[f,h];unfold E6;rw[je h];cases e:OS (U.bo l) n with
 |none=>exact⟨fun _=>rfl,fun h=>(by cases h)⟩
 |some b=>
  have w:=Zv i e;have d:=aL.2 w;have k:=Oj w;have o:=Wp w a;refine⟨fun h=>(by cases h),fun _=>⟨rfl,d,rfl,d,a.1,a.2,?_,rfl⟩⟩;show wn (YP (vG b)-gC m b);exact iZ6
theorem SD:wX PR 11 Sz:=wJ Wq Tryz.func11 (kcC sY (kcC Lb (kcC aM (kcC iJ kcN)))) koN
namespace U
def yg (o:Option BlD):BlD:=o.getD default
end U
def OA:wO:=⟨[.val tLg,.val .int,.val .int],[.int,.int],false,fun d=>[(w4 (wv d.1)).length<=100000],fun d=>(Lq d.1 d.2.1 d.2.2.1,Lr d.1 d.2.1 d.2.2.1,())⟩
def OB:Ann:=fun r=>match r with
 |7=>some fun σ=>{X:=Nat,sl:=fun k=>[(11,.dat .int (qP (vb (yg (gd (.ptr tBl) σ 10)))-(k:Int)))],ob:=fun _=>[],inv:=fun k=>k<=dG (yg (gd (.ptr tBl) σ 10))/\∀j:Nat,j<k->fi (yg (gd (.ptr tBl) σ 10)) (gb .int σ 5) j=false,mu:=fun k=>dG (yg (gd (.ptr tBl) σ 10))-k}
 |_=>none
abbrev jhq (d:LgD×Int×Int×Unit):=(w8 d.1 fun(a:BoD×Unit)=>(qH a.1 d.2.1&&yX d.2.2.1,()))
abbrev jgm (d:LgD×Int×Int×Unit):=(wH none (wx Ty.int d.2.1 (qi d.1 (jhq d)).2.1))
abbrev jhr (d:LgD×Int×Int×Unit):=(wE ((((0:Int),(0:Int),(0:Int),(0:Int),(0:Int),(0:Int),()),(0:Int),(0:Int),(0:Int),()),((0:Int),(0:Int),(0:Int),(0:Int),(0:Int),(0:Int),(0:Int),(0:Int),[],[],()),(0:Int),(0:Int),[],(0:Int),(0:Int),false,(0:Int),()) (jgm d))
abbrev jhs (d:LgD×Int×Int×Unit):=(Lq d.1 d.2.1 d.2.2.1,Lr d.1 d.2.1 d.2.2.1,())
abbrev jfu (d:LgD×Int×Int×Unit):=(yg (jgm d))
abbrev je8 (d:LgD×Int×Int×Unit):=(vb (jfu d))
def OC:Prop:=∀(d:LgD×Int×Int×Unit),(w4 (wv d.1)).length<=100000->(w4 (wv d.1)).length<=100000/\(qV d.1=0->wu [(wm (wv (bw (d.1,[],())))).length<=100])/\(decide (qo d.1 (jhq d)≠0)=true->((0:Int),qo d.1 (jhq d),())=(jhs d))/\(decide (qo d.1 (jhq d)≠0)=false->((!(jgm d).isNone)=true->(jgm d).isSome=true/\(∃(x:Nat),(((jhr d).1.2.2.1=qP (je8 d)-(x:Int)/\True)/\True)/\x<=dG (jfu d)/\∀(j:Nat),j<x->fi (jfu d) d.2.2.1 j=false)/\∀(x:Nat),(x<=dG (jfu d)/\∀(j:Nat),j<x->fi (jfu d) d.2.2.1 j=false)->(decide ((-100000:Int)<=qP (je8 d)-(x:Int))=true->(jgm d).isSome=true/\pO (jhr d)/\(-100000:Int)<=qP (je8 d)-(x:Int)/\qP (je8 d)-(x:Int)<=1440/\(decide (gC (qP (je8 d)-(x:Int)) (jhr d)<=d.2.2.1)=true->(qP (je8 d)-(x:Int),(0:Int),())=(jhs d))/\(decide (gC (qP (je8 d)-(x:Int)) (jhr d)<=d.2.2.1)=false->wn (qP (je8 d)-(x:Int)-1)/\∃(a:Nat),((qP (je8 d)-(x:Int)-1=qP (je8 d)-(a:Int)/\True)/\True)/\(a<=dG (jfu d)/\∀(j:Nat),j<a->fi (jfu d) d.2.2.1 j=false)/\dG (jfu d)-a<dG (jfu d)-x))/\(decide ((-100000:Int)<=qP (je8 d)-(x:Int))=false->((0:Int),(3:Int),())=(jhs d)))/\((!(jgm d).isNone)=false->((0:Int),(3:Int),())=(jhs d)))
theorem jcR {o:Option BlD} {Z:BlD} {a P E:Int} (t:∀b,o=some b->Ip b) (r:P=jd8 a o) (p:E=jd9 a o):
 ((!o.isNone)=true->o.isSome=true/\(∃(x:Nat),((qP (vb (wE Z o))=qP (vb (yg o))-(x:Int)/\True)/\True)/\x<=dG (yg o)/\∀(j:Nat),j<x->fi (yg o) a j=false)/\
   ∀(x:Nat),(x<=dG (yg o)/\∀(j:Nat),j<x->fi (yg o) a j=false)->
    (decide (-100000<=qP (vb (yg o))-(x:Int))=true->o.isSome=true/\pO (wE Z o)/\-100000<=qP (vb (yg o))-(x:Int)/\qP (vb (yg o))-(x:Int)<=1440/\
     (decide (gC (qP (vb (yg o))-(x:Int)) (wE Z o)<=a)=true->(qP (vb (yg o))-(x:Int),(0:Int),())=(P,E,()))/\
     (decide (gC (qP (vb (yg o))-(x:Int)) (wE Z o)<=a)=false->wn (qP (vb (yg o))-(x:Int)-1)/\∃(m:Nat),((qP (vb (yg o))-(x:Int)-1=qP (vb (yg o))-(m:Int)/\True)/\True)/\(m<=dG (yg o)/\∀(j:Nat),j<m->fi (yg o) a j=false)/\dG (yg o)-m<dG (yg o)-x))/\
    (decide (-100000<=qP (vb (yg o))-(x:Int))=false->((0:Int),(3:Int),())=(P,E,())))/\
 ((!o.isNone)=false->((0:Int),(3:Int),())=(P,E,())):=by
 subst r p;cases o with
 |none=>exact⟨fun h=>(by cases h),fun _=>rfl⟩
 |some b=>
  have w:=t b rfl;have n:=w.bl;refine⟨fun _=>⟨rfl,⟨0,⟨⟨?_,tZ⟩,tZ⟩,jp _,fun j s=>by omega⟩,fun x d=>⟨fun f=> ?_,fun f=> ?_⟩⟩,fun h=>(by cases h)⟩;show qP (vb b)=qP (vb b)-((0:Nat):Int);omega;have d:x<=dG b/\∀j:Nat,j<x->fi b a j=false:=d;have f: -100000<=qP (vb b)-(x:Int):=ja f;have s1:=n.st;have s2:=n.en;have u:=n.e2;have q:dG b=(qP (vb b)+100001).toNat:=rfl;refine⟨rfl,aL.2 w,f,?_,fun c=> ?_,fun c=> ?_⟩;show qP (vb b)-(x:Int)<=1440;omega;have c:fi b a x=true:=c;have e:E8 b a=some x:=by
   rcases Gd b a with⟨k,e,hk,g,i⟩|⟨e,i⟩;rw[e];have:k=x:=by
    rcases kG k x with l|l|l;rw[d.2 k l] at g;cases g;exact l;rw[i x l] at c;cases c
   rw[this];rw[i x (by omega)] at c;cases c
  show(qP (vb b)-(x:Int),(0:Int),())=(jdP b (E8 b a),jdQ (E8 b a),());rw[e];rfl;have c:fi b a x=false:=c;refine⟨?_,x+1,⟨⟨?_,tZ⟩,tZ⟩,⟨?_,fun j s=> ?_⟩,?_⟩;show wn (qP (vb b)-(x:Int)-1);exact iZ6;show qP (vb b)-(x:Int)-1=qP (vb b)-((x+1:Nat):Int);omega;show x+1<=dG b;omega;by_cases e:j=x;subst e;exact c;exact d.2 j (by omega);show dG b-(x+1)<dG b-x;omega;have d:x<=dG b/\∀j:Nat,j<x->fi b a j=false:=d;have f:¬-100000<=qP (vb b)-(x:Int):=jc f;have q:dG b=(qP (vb b)+100001).toNat:=rfl;have e:E8 b a=none:=by
   rcases Gd b a with⟨k,e,hk,g,i⟩|⟨e,i⟩;rw[d.2 k (by omega)] at g;cases g;exact e
  show((0:Int),(3:Int),())=(jdP b (E8 b a),jdQ (E8 b a),());rw[e];rfl
theorem SE:OC:=by
 unfold OC je8 jfu jhs jhr jgm jhq;rintro⟨l,n,a,⟨⟩⟩ g;refine⟨g,fun e=> ?_,fun h=> ?_,fun h=> ?_⟩;have:(wm (wv l)).length<=4:=jdG (mq e);exact⟨by show(wm (wv l)).length<=100;omega,tZ⟩;have h:qo l (vg l n&&yX a)≠0:=ja h;show((0:Int),qo l (vg l n&&yX a),())=(Lq l n a,Lr l n a,());unfold Lq Lr;rw[jd h,jd h];have h:qo l (vg l n&&yX a)=0:=jR.1 (jc h);obtain⟨c,f,i⟩:=Ic h;exact jcR (o:=OS (qi l (vg l n&&yX a)) n) (fun b d=>by rw[c] at d;exact Zv f d) (by rw[c];exact je h) (by rw[c];exact je h)
theorem OE:wX PR 13 OA:=vF OB SE Tryz.func13 (kcC sY (kcC Ib (kcC iJ kcN))) koN
end Go.X
namespace Go.X
open U
open Go.Proofs
namespace U
def Ls (l:LgD):Bool:=((((Im (wv l)||decide (20<((fg l).length:Int)))||decide (20<((Gg l).length:Int)))||decide (20<((ff (xl l)).length:Int)))||decide (20<((fq (xl l)).length:Int)))||decide (30<((ql l).length:Int))
def SU (l:LgD):Bool:= !Ls l&&decide (qV l=0)
def exT:TaD:=(30,100,2,1200,90,50,2,150,[0,10,25,50],[(1000,0,()),(60,50,())],())
def xo:LgD:=(jd5,[0,1,0],[30,0,45],exT,[(1,1,80,()),(2,1,120,())],())
end U
def Wr:wO:=⟨[.val tLg],[.bool],false,fun _=>[],fun d=>(Ls d.1,())⟩
abbrev jiW (d:LgD×Unit):=(20<(d.1.2.2.2.1.q4.q4.1.length:Int))
abbrev jht (d:LgD×Unit):=(20<(d.1.2.1.length:Int))
abbrev jh6 (d:LgD×Unit):=(20<(d.1.2.2.1.length:Int))
def Ws:Prop:=∀(d:LgD×Unit),((!Im d.1.1)=true->d.1.2.1.length<4611686018427387904)->((!(Im d.1.1||decide (jht d)))=true->d.1.2.2.1.length<4611686018427387904)->((!(Im d.1.1||decide (jht d)||decide (jh6 d)))=true->d.1.2.2.2.1.q4.q4.1.length<4611686018427387904)->((!(Im d.1.1||decide (jht d)||decide (jh6 d)||decide (jiW d)))=true->d.1.2.2.2.1.q4.q4.2.1.length<4611686018427387904)->((!(Im d.1.1||decide (jht d)||decide (jh6 d)||decide (jiW d)||decide (20<(d.1.2.2.2.1.q4.q4.2.1.length:Int))))=true->d.1.q4.1.length<4611686018427387904)->(Im d.1.1||decide (jht d)||decide (jh6 d)||decide (jiW d)||decide (20<(d.1.2.2.2.1.q4.q4.2.1.length:Int))||decide (30<(d.1.q4.1.length:Int)),())=(Ls d.1,())
def OF:wO:=⟨[.val tLg],[.bool],false,fun _=>[],fun d=>(SU d.1,())⟩
def OG:Prop:=∀(d:LgD×Unit),((!Ls d.1)=true->(wm (wv d.1)).length<=1000000)/\(!Ls d.1&&decide (qV d.1=0),())=(SU d.1,())
def EW:wO:=⟨[.val (.slice .int),.val (.slice .int)],[.bool],false,fun _=>[],fun d=>(decide (d.1=d.2.1),())⟩
def EX:Ann:=fun r=>match r with
 |4=>some fun σ=>{X:=Nat,sl:=fun i=>[(5,.dat .int (i:Int))],ob:=fun _=>[],inv:=fun i=>i<=(gd (.slice .int) σ 0).length/\∀j:Nat,j<i->nth (gd (.slice .int) σ 0) j=nth (gd (.slice .int) σ 1) j,mu:=fun i=>(gd (.slice .int) σ 0).length-i}
 |_=>none
def EY:Prop:=∀(d:List Int×List Int×Unit),d.1.length<4611686018427387904->d.2.1.length<4611686018427387904->(decide ((d.1.length:Int)≠d.2.1.length)=true->(false,())=(decide (d.1=d.2.1),()))/\(decide ((d.1.length:Int)≠d.2.1.length)=false->(∃(x:Nat),((0=(x:Int)/\True)/\True)/\x<=d.1.length/\∀(j:Nat),j<x->nth d.1 j=nth d.2.1 j)/\∀(x:Nat),(x<=d.1.length/\∀(j:Nat),j<x->nth d.1 j=nth d.2.1 j)->d.1.length<4611686018427387904->(decide ((x:Int)<d.1.length)=true->0<=(x:Int)/\(x:Int)<d.1.length/\0<=(x:Int)/\(x:Int)<d.2.1.length/\(decide (nth d.1 x≠nth d.2.1 x)=true->(false,())=(decide (d.1=d.2.1),()))/\(decide (nth d.1 x≠nth d.2.1 x)=false->wn ((x:Int)+1)/\∃(a:Nat),(((x:Int)+1=(a:Int)/\True)/\True)/\(a<=d.1.length/\∀(j:Nat),j<a->nth d.1 j=nth d.2.1 j)/\d.1.length-a<d.1.length-x))/\(decide ((x:Int)<d.1.length)=false->(true,())=(decide (d.1=d.2.1),())))
def Ie:wO:=⟨[],[tLg],false,fun _=>[],fun _=>(xo,())⟩
def If:Prop:=∀(_:Unit),((jd5,[(0:Int),(1:Int),(0:Int)],[(30:Int),(0:Int),(45:Int)],((30:Int),(100:Int),(2:Int),(1200:Int),(90:Int),(50:Int),(2:Int),(150:Int),[(0:Int),(10:Int),(25:Int),(50:Int)],[((1000:Int),(0:Int),()),((60:Int),(50:Int),())],()),[((1:Int),(1:Int),(80:Int),()),((2:Int),(1:Int),(120:Int),())],()),())=(xo,())
def OH:wO:=⟨[],[.bool],false,fun _=>[],fun _=>(true,())⟩
abbrev jhu:=(w4 (wv xo))
def OI:Prop:=∀(_:Unit),jhu.length<=100000/\jhu.length<=100000/\jhu.length<=100000/\jhu.length<=100000/\(decide (qV xo=0)&&decide (qo xo (vg xo (2:Int))=0)&&decide (qo xo (vg xo (0:Int)&&yP (0:Int))=0)&&decide (Lr xo (0:Int) (0:Int)=0)&&decide (Lo xo=[(940:Int),(100:Int)])&&decide (qc xo (2:Int)=[(390:Int),(390:Int),(0:Int),(0:Int)])&&decide (E6 xo (0:Int) (0:Int)=185)&&decide (Lq xo (0:Int) (0:Int)=(-940:Int)),())=(true,())
theorem jbn (l:LgD) (n:Int):qc l n=ZB l n:=by
 unfold qc ZB
 split
 rename_i h;obtain⟨a,b⟩:=Wi h;exact Zu a (Qa.1 b);rfl
theorem YF:Ws:=fun _ _ _ _ _ _=>rfl
theorem Wt:wX PR 8 Wr:=wJ YF Tryz.func8 (kcC VU kcN) koN
theorem SF {l:LgD} (h:Ls l=false):jdR l:=by
 unfold Ls at h;simp only[jN,jH] at h;obtain⟨⟨⟨⟨⟨a,b⟩,c⟩,d⟩,e⟩,f⟩:=h;exact⟨Yn a,by omega,by omega,by omega,by omega,by omega⟩
theorem Ld {l:LgD} (h:Ls l=false):(w4 (wv l)).length<=100000/\(wm (wv l)).length<=1000000:=by
 have a:=(SF h).1;have b:=a.2.2.2.1;have c:=a.2.2.1;omega
theorem SG:OG:=by
 rintro⟨l,⟨⟩⟩;refine⟨fun h=> ?_,rfl⟩;have h:(!Ls l)=true:=h;rw[jQ] at h;exact(Ld h).2
theorem OJ:wX PR 15 OF:=wJ SG Tryz.func15 (kcC Wt (kcC Ot kcN)) koN
theorem jbo {l:LgD} (h:SU l=true):Ls l=false/\Dg l/\qV l=0:=by
 unfold SU at h;rw[ji,jQ,jo] at h;exact⟨h.1,mq h.2,h.2⟩
theorem Ig:EY:=by
 rintro⟨a,b,⟨⟩⟩ _ l;refine⟨fun h=> ?_,fun h=>⟨⟨0,⟨⟨rfl,tZ⟩,tZ⟩,jp _,fun j k=>by omega⟩,fun x g f=>⟨fun c=>⟨j7 _,ja c,j7 _,?_,fun d=> ?_,fun d=> ?_⟩,fun c=> ?_⟩⟩⟩;have h:(a.length:Int)≠b.length:=ja h;have:¬a=b:=fun e=>h (by rw[e])
 show(false,())=(decide (a=b),());rw[zm this];have h:(a.length:Int)=b.length:=jR.1 (jc h);have c:(x:Int)<a.length:=ja c;show(x:Int)<b.length;omega;have d:nth a x≠nth b x:=ja d;have:¬a=b:=fun e=>d (by rw[e])
 show(false,())=(decide (a=b),());rw[zm this];have c:(x:Int)<a.length:=ja c;have d:nth a x=nth b x:=jR.1 (jc d);have f:a.length<4611686018427387904:=f;refine⟨iZ6,x+1,⟨⟨by simp,tZ⟩,tZ⟩,⟨by show x+1<=a.length;omega,fun j k=> ?_⟩,by show a.length-(x+1)<a.length-x;omega⟩;by_cases e:j=x;subst e;exact d;exact g.2 j (by omega);have h:(a.length:Int)=b.length:=jR.1 (jc h);have c:¬(x:Int)<a.length:=jc c;have e:a=b:=L.ext_nth (by omega) fun i hi=>g.2 i (by omega)
 show(true,())=(decide (a=b),());rw[jL e]
theorem EZ:wX PR 27 EW:=vF EX Ig Tryz.func27 kcN koN
theorem Le:If:=fun _=>rfl
theorem Ih:wX PR 32 Ie:=wJ Le Tryz.func32 (kcC HN kcN) koN
theorem jbp:qV xo=0:=by decide+kernel
theorem jbq:Lo xo=[940,100]:=by decide+kernel
theorem jbr:qc xo 2=[390,390,0,0]:=by decide+kernel
theorem jbt:E6 xo 0 0=185:=by decide+kernel
theorem YG:Lr xo 0 0=0:=by decide+kernel
theorem YH:Lq xo 0 0= -940:=by decide+kernel
theorem jcS:qo xo (vg xo 2)=0:=by decide+kernel
theorem jcT:qo xo (vg xo 0&&yP 0)=0:=by decide+kernel
theorem SH:OI:=by
 unfold OI jhu;intro _;have a:(w4 (wv xo)).length<=100000:=(by decide+kernel);refine⟨a,a,a,a,?_⟩;rw[jbp,jcS,jcT,YG,jbq,jbr,jbt,YH];rfl
theorem OK:wX PR 9 OH:=wJ SH Tryz.func9 (kcC Ih (kcC Oz (kcC Qc (kcC SD (kcC OE (kcC EZ kcN)))))) koN
end Go.X
namespace Go.X
open U
open Go.Proofs
def DB:wO:=VL [tLg,.int]
def DC:Ann:=fun r=>match r with
 |8=>some fun σ=>{X:=Nat,sl:=fun p=>[(9,.dat .int (p:Int))],ob:=fun _=>[],inv:=fun p=>p<=(gd (.slice .int) σ 5).length,mu:=fun p=>(gd (.slice .int) σ 5).length-p}
 |14=>some fun σ=>{X:=Nat,sl:=fun q=>[(10,.dat .int (q:Int))],ob:=fun _=>[],inv:=fun q=>q<=(gd .int σ 9).toNat,mu:=fun q=>(gd .int σ 9).toNat-q}
 |_=>none
abbrev jeE (d:LgD×Int×Unit):=(qc d.1 d.2.1)
abbrev jgZ (d:LgD×Int×Unit)(a:Nat)(x:Nat):=(wD (gT d.1 d.2.1) (a:Int)&& !decide (nth (jeE d) a<nth (jeE d) x))
abbrev jh7:=(Ty.int.pair (Ty.int.pair Ty.unit))
abbrev jiX (d:LgD×Int×Unit)(a:Nat)(x:Nat):=(wD (gT d.1 d.2.1) (a:Int)&&(decide (nth (jeE d) a<nth (jeE d) x)||decide (nth (jeE d) x+2<nth (jeE d) a)))
abbrev jfO (d:LgD×Int×Unit):=(↑(jeE d).length:Int)
abbrev jiY (d:LgD×Int×Unit):=(decide (qo d.1 (vg d.1 d.2.1)≠0)||decide ((jfO d)≠(d.1.1.1.2.1.length:Int)))
abbrev jhv:=(Ty.int.pair jh7)
def DD:Prop:=∀(d:LgD×Int×Unit),HH 1048576 [((Ty.int.pair ((Ty.int.slice.pair (Ty.int.pair (Ty.int.pair (Ty.int.slice.pair (Ty.bool.pair (Ty.int.pair Ty.unit)))))).slice.pair ((Ty.int.pair (Ty.int.pair (Ty.bool.pair Ty.unit))).slice.pair Ty.unit))).pair (jh7.slice.slice.pair (((Ty.int.pair (Ty.int.pair (Ty.int.pair jhv))).pair jhv).slice.pair (Ty.int.pair (Ty.int.pair ((Ty.int.pair (Ty.int.pair jhv)).slice.pair Ty.unit)))))).pair (Ty.int.slice.pair (Ty.int.slice.pair ((Ty.int.pair (Ty.int.pair (Ty.int.pair (Ty.int.pair (Ty.int.pair (Ty.int.pair (Ty.int.pair (Ty.int.pair (Ty.int.slice.pair (jh7.slice.pair Ty.unit)))))))))).pair (jhv.slice.pair Ty.unit)))),Ty.int] d->((!SU d.1|| !vg d.1 d.2.1)=true->(true,())=(true,()))/\((!SU d.1|| !vg d.1 d.2.1)=false->(w4 (wv d.1)).length<=100000/\gQ (wv d.1)=0/\(0<=d.2.1/\d.2.1<(↑(wm (wv d.1)).length:Int))/\(((!decide (qo d.1 (vg d.1 d.2.1)≠0))=true->(jeE d).length<4611686018427387904)->((!decide (qo d.1 (vg d.1 d.2.1)≠0))=true->d.1.1.1.2.1.length<4611686018427387904)->((jiY d)=true->(false,())=(true,()))/\((jiY d)=false->(∃(x:Nat),((0=(x:Int)/\True)/\True)/\x<=(jeE d).length)/\∀(x:Nat),x<=(jeE d).length->(jeE d).length<4611686018427387904->(decide ((x:Int)<(jfO d))=true->((!!SR d.1 d.2.1)=true->0<=(x:Int)/\(x:Int)<=63)/\((!SR d.1 d.2.1|| !wD (gT d.1 d.2.1) (x:Int))=true->0<=(x:Int)/\(x:Int)<(jfO d)/\(decide (nth (jeE d) x≠0)=true->(false,())=(true,()))/\(decide (nth (jeE d) x≠0)=false->wn ((x:Int)+1)/\∃(b:Nat),(((x:Int)+1=(b:Int)/\True)/\True)/\b<=(jeE d).length/\(jeE d).length-b<(jeE d).length-x))/\((!SR d.1 d.2.1|| !wD (gT d.1 d.2.1) (x:Int))=false->(∃(a:Nat),((0=(a:Int)/\True)/\True)/\a<=x)/\∀(a:Nat),a<=x->(decide ((a:Int)<(x:Int))=true->(0<=(a:Int)/\(a:Int)<=63)/\(wD (gT d.1 d.2.1) (a:Int)=true->0<=(a:Int))/\(wD (gT d.1 d.2.1) (a:Int)=true->(a:Int)<(jfO d))/\(wD (gT d.1 d.2.1) (a:Int)=true->0<=(x:Int))/\(wD (gT d.1 d.2.1) (a:Int)=true->(x:Int)<(jfO d))/\((jgZ d a x)=true->0<=(a:Int))/\((jgZ d a x)=true->(a:Int)<(jfO d))/\((jgZ d a x)=true->0<=(x:Int))/\((jgZ d a x)=true->(x:Int)<(jfO d))/\((jgZ d a x)=true->wn (nth (jeE d) x+2))/\((jiX d a x)=true->(false,())=(true,()))/\((jiX d a x)=false->wn ((a:Int)+1)/\∃(b:Nat),(((a:Int)+1=(b:Int)/\True)/\True)/\b<=x/\x-b<x-a))/\(decide ((a:Int)<(x:Int))=false->wn ((x:Int)+1)/\∃(b:Nat),(((x:Int)+1=(b:Int)/\True)/\True)/\b<=(jeE d).length/\(jeE d).length-b<(jeE d).length-x)))/\(decide ((x:Int)<(jfO d))=false->(true,())=(true,())))))
theorem E0:DD:=by
 unfold DD jhv jiY jfO jiX jh7 jgZ jeE;rintro⟨l,b,⟨⟩⟩ _;refine⟨fun _=>rfl,fun h=> ?_⟩;have h:(!SU l|| !vg l b)=false:=h;rw[jN,ze,ze] at h;obtain⟨C,g,w⟩:=jbo h.1;have k:=Qa.1 h.2;obtain⟨J,N⟩:=Ld C;have o0:qo l (vg l b)=0:=jbl w h.2;have o:qc l b=E7 l b:=(by rw[jbn];unfold ZB;rw[je o0]);obtain⟨c,_⟩:=uJ g k;rw[<-o] at c;have K:ll l<=8:=jdd g;have s:∀j,j<ll l->-1000000000000000000<=nth (qc l b) j/\nth (qc l b) j<=1700000000000000000:=fun j t=>by
  have:=jcM (jcK g) (n:=b) j t;rw[Zu g k,<-o] at this;exact this
 have H:∀j,j<ll l->¬(SR l b=true/\wD (gT l b) (j:Int)=true)->nth (qc l b) j=0:=fun j t u=>by rw[o];exact Wh g k t u
 have G:∀p q:Nat,p<ll l->q<p->SR l b=true->wD (gT l b) (p:Int)=true->wD (gT l b) (q:Int)=true->nth (qc l b) p<=nth (qc l b) q/\nth (qc l b) q<=nth (qc l b) p+2:=fun p q E F u B d=>by rw[o];exact Yz g k E F u B d
 refine⟨J,jcQ w,k,fun _ _=>⟨fun d=> ?_,fun d=>⟨⟨0,⟨⟨rfl,tZ⟩,tZ⟩,jp _⟩,fun x L D=>⟨fun i=> ?_,fun _=>rfl⟩⟩⟩⟩;have d:(decide (qo l (vg l b)≠0)||decide (((qc l b).length:Int)≠((ll l:Nat):Int)))=true:=d;rw[o0,c,zm (fun h=>h rfl),zm (fun h=>h rfl)] at d;cases d;have i:(x:Int)<(qc l b).length:=ja i;have e:x<ll l:=(by omega);have up:x+1<=(qc l b).length:=(by omega);have v:(qc l b).length-(x+1)<(qc l b).length-x:=(by omega);have A:wn ((x:Int)+1):=iZ6;have I:wn (nth (qc l b) x+2):=(by have:=s x e;exact iZ6);refine⟨fun _=>⟨by omega,by omega⟩,fun a=>⟨by omega,i,fun f=> ?_,fun _=>⟨A,x+1,⟨⟨by simp,tZ⟩,tZ⟩,up,v⟩⟩,fun a=> ?_⟩;have f:nth (qc l b) x≠0:=ja f;refine absurd (H x e fun z=> ?_) f;have a:(!SR l b|| !wD (gT l b) (x:Int))=true:=a;rw[z.1,z.2] at a;cases a;have a:(!SR l b|| !wD (gT l b) (x:Int))=false:=a;rw[jN,ze,ze] at a;refine⟨⟨0,⟨⟨rfl,tZ⟩,tZ⟩,jp _⟩,fun y M=>⟨fun f=> ?_,fun _=>⟨A,x+1,⟨⟨by simp,tZ⟩,tZ⟩,up,v⟩⟩⟩;have f:(y:Int)<(x:Int):=ja f;have m:(y:Int)<(qc l b).length:=(by omega);refine⟨⟨by omega,by omega⟩,fun _=>by omega,fun _=>m,fun _=>by omega,fun _=>i,fun _=>by omega,fun _=>m,fun _=>by omega,fun _=>i,fun _=>I,fun r=> ?_,fun _=>⟨iZ6,y+1,⟨⟨by simp,tZ⟩,tZ⟩,by show y+1<=x;omega,by show x-(y+1)<x-y;omega⟩⟩;have r:(wD (gT l b) (y:Int)&&(decide (nth (qc l b) y<nth (qc l b) x)||decide (nth (qc l b) x+2<nth (qc l b) y)))=true:=r;rw[ji,zr,jo,jo] at r;have:=G x y e (by omega) a.1 a.2 r.1;omega
theorem Wu:wX PR 4 DB:=vF DC E0 Tryz.func4 (kcC OJ (kcC OK (kcC DA (kcC Qc (kcC K8 (kcC mh kcN)))))) koN
end Go.X
namespace Go.X
open U
open Go.Proofs
open Go.Proofs Go.Proofs.YtacjhnpgiklpdaaGreatDoor
noncomputable def YI:Array Field:=match Tryz.prog.underlying 63 with|some (.struct fs)=>fs|_=> #[]
theorem jcU:Tryz.prog.globalNamed "handshape/rosters.some"=some 0:=by kernel_rfl
theorem jcV:(Tryz.prog.globals[0]?).map (·.type)=some 63:=by kernel_rfl
theorem jeh:Tryz.prog.underlying 63=some (.struct YI):=by kernel_rfl
theorem jei:Tryz.prog.underlying 3=some (.int .i64):=by kernel_rfl
theorem jej:Tryz.prog.cellsOf 3=1:=by kernel_rfl
noncomputable def dC (i:Nat):Bool:=match YI[i]? with|some f=>Nat.beq f.type 3&&Nat.beq f.offset i|none=>false
theorem fields:(dC 0&&dC 1&&dC 2&&dC 3&&dC 4&&dC 5)=true:=by kernel_rfl
theorem YJ {i:Nat} (h:dC i=true):∃f,YI[i]? =some f/\f.type=3/\f.offset=i:=by
 unfold dC at h
 split at h
 rename_i f a;rw[ji] at h;exact⟨f,a,jb h.1,jb h.2⟩;cases h
theorem YK {H:Type} {enc:TypeId×Value->H} {w:World} {base:Nat} {sp:Nat->Bool} {a:Bool} {n:Nat} {cs:List Value} {xs:List (DataW H×List MemPlace)} {d:List Int} (o:xs.map (·.1)=d.map fun z=>(DataW.lit (.int .i64 z):DataW H))
 (k:∀(i:Nat) (f:Field),YI[i]? =some f->DataW.trod enc Tryz.prog w base sp a n f.type ((cs.drop f.offset).take (Tryz.prog.cellsOf f.type))=xs[i]?) {i:Nat} {z:Int} (hi:dC i=true) (q:d[i]? =some z):cs[i]? =some (.int .i64 z):=by
 obtain⟨f,g,h,j⟩:=YJ hi;have b:=k i f g;rw[h,j,jej] at b;have c:(xs.map (·.1))[i]? =some (DataW.lit (.int .i64 z):DataW H):=(by rw[o,zT,q];rfl);rw[zT] at c;obtain⟨y,p,e⟩:=ki.1 c;rw[p] at b;obtain⟨m,l,rfl,_⟩:=DataW.trod_int jei b;have e:m=z:=by
  have e:(DataW.lit (.int .i64 m):DataW H)=DataW.lit (.int .i64 z):=e;simpa only[DataW.lit.injEq,Lit.int.injEq,true_and] using e
 subst e;have:=jF (·[0]?) l;simpa[zP,zi] using this
theorem jdH {W:World} (h:laidMet Tryz.prog [("handshape/rosters.some",Rows.laid_handshape_rosters_some)] W):ZR (Hof W):=by
 obtain⟨ps,⟨H,E,cs,k,p,q,d,f,a,A,_,_⟩,_⟩:=h;obtain rfl:=Option.some.inj (jcU.symm.trans d);obtain rfl:=Option.some.inj (jcV.symm.trans f);obtain⟨xs,n,_,C,I,l,B⟩:=DataW.trod_struct jeh A;have j:xs.map (·.1)=[0,1,0,0,0,1].map fun z=>(DataW.lit (.int .i64 z):DataW Unit):=by
  have e:=jF Prod.fst C;have e:(DataW.agg [.lit (.int .i64 0),.lit (.int .i64 1),.lit (.int .i64 0),.lit (.int .i64 0),.lit (.int .i64 0),.lit (.int .i64 1)]:DataW Unit)= .agg (xs.map (·.1)):=e;simp only[DataW.agg.injEq] at e;exact e.symm
 have fs:=fields;simp only[ji] at fs;obtain⟨⟨⟨⟨⟨o,r⟩,s⟩,u⟩,v⟩,w⟩:=fs;have c:∀{i:Nat} {z:Int},dC i=true->([0,1,0,0,0,1]:List Int)[i]? =some z->cs[i]? =some (.int .i64 z):=fun hi D=>by
  have:=YK j B hi D;simpa using this
 unfold World.var? at a;rw[jcU] at a;intro g x b;have b:wF [(0,(⟨.st [.int,.int,.int,.int,.int,.int],((0:Int),(1:Int),(0:Int),(0:Int),(0:Int),(1:Int),())⟩:(t:Ty)×t.Data))] g=some x:=b;have y:Hof W 0=some (.cells cs):=by
  unfold Hof;simp only[Option.bind_some] at a
  split at a
  rename_i F E G e;rw[e];have:=Option.some.inj a;rw[this];cases a
 have m:=qC _ _ _ b;simp only[kU,Prod.mk.injEq] at m;obtain⟨rfl,rfl⟩:=m;exact⟨cs,y,c o rfl,c r rfl,c s rfl,c u rfl,c v rfl,c w rfl,tZ⟩
end Go.X
