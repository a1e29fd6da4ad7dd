/-
  Part 8 of the road: a checked reading of bodies, and what the functions on it do (X25 X26 C5 PC15 C6 PC16 S6 S7 PC17 DM S8 S9 S10 S11 S12 S13 S14 C7 C8 LW).
-/
import Derived.Test.YtnkahkkofmoipaaGreatDoorK07
import Derived.Test.YtnkahkkofmoipaaGreatDoorRows
import Derived.WalkKit
import Derived.ProofKit
import Derived.OpenShut
import Derived.JoinedCond
import Derived.Carry
import Derived.ChangeArms
import Derived.Test.YtnkahkkofmoipaaGreatDoorCards
import Derived.Test.YtnkahkkofmoipaaGreatDoorTie
import Derived.Deep.DeepHandedRow
import Derived.Lib.LaidTab
namespace Go.X
open Go.RowKit (Below)
open Go.Proofs.YtnkahkkofmoipaaGreatDoor
def Hof (w:World):Imm:=fun b=>match w.heap[b]? with|some (.cells c _ _)=>some (.cells c)|_=>none
theorem jCW (w:World) (d:jFL (Hof w)):jbT (Hof w) w:=by
 refine⟨fun b c h=> ?_,d⟩;unfold Hof at h
 split at h
 .rename_i f T a e;simp at h;subst h;exact⟨T,a,e⟩
 .cases h
def Ty.fits (N:Nat):(t:Ty)->t.Data->Prop
 | .int,x=>jz x
 | .bool,_=>True
 | .uint k,x=>k.min<=x/\x<=k.max
 | .slice t,l=>l.length<=N/\∀x∈l,t.fits N x
 | .unit,_=>True
 | .pair a b,d=>a.fits N d.1/\b.fits N d.2
 | .map k v,l=>l.length<=N/\∀x∈l,k.fits N x.1/\v.fits N x.2
 | .ptr t,d=>∀x,d=some x->t.fits N x
theorem Ty.fits_mono {N M:Nat} (h:N<=M):∀(t:Ty) (d:t.Data),t.fits N d->t.fits M d
 | .int,_,k=>k
 | .bool,_,k=>k
 | .uint _,_,k=>k
 | .unit,_,k=>k
 | .slice t,_,k=>⟨jHW k.1 h,fun x c=>t.fits_mono h x (k.2 x c)⟩
 | .pair a b,_,k=>⟨a.fits_mono h _ k.1,b.fits_mono h _ k.2⟩
 | .map k v,_,q=>⟨jHW q.1 h,fun x c=>⟨k.fits_mono h _ (q.2 x c).1,v.fits_mono h _ (q.2 x c).2⟩⟩
 | .ptr t,_,k=>fun x c=>t.fits_mono h x (k x c)
def jF7 (P:Program) (go:Nat->Ty->Bool):List Field->Nat->Ty->Bool
 |[],_,.unit=>true
 |f::fs,off,.pair a b=>Nat.beq f.offset off&&Nat.beq (P.cellsOf f.type) a.size&&go f.type a&&jF7 P go fs (off+a.size) b
 |_,_,_=>false
def jEE (P:Program):Nat->Nat->Ty->Bool
 |0,_,_=>false
 |d+1,T,ty=>match ty,P.underlying T with
  | .int,some (.int .i64)=>true
  | .bool,some .bool=>true
  | .uint k,some (.int k')=>jaT k k'
  | .slice t,some (.slice e)=>Nat.beq (P.cellsOf e) t.size&&Nat.ble 1 t.size&&jEE P d e t
  | .pair a b,some (.struct fs)=>Nat.beq (P.cellsOf T) (Ty.pair a b).size&&jF7 P (jEE P d) fs.toList 0 (.pair a b)
  |_,_=>false
section
variable {P:Program} {K:Type} {enc:TypeId×Value->K} {w:World}
theorem jF8 (d:DataW K):1<=Rows.uptoBulk d:=by
 cases d with
 |lit l=>cases l<;>simp[Rows.uptoBulk]
 |_=>simp[Rows.uptoBulk]
theorem jqK (l:List (DataW K)):l.length<=Rows.uptoBulkAll l:=by
 induction l with
 |nil=>simp[Rows.uptoBulkAll]
 |cons x r a=>have:=jF8 x;simp only[Rows.uptoBulkAll,jIi];omega
theorem jEH {d:DataW K} {l:List (DataW K)} (h:d∈l):Rows.uptoBulk d<=Rows.uptoBulkAll l:=by
 induction l with
 |nil=>cases h
 |cons x r a=>
  simp only[Rows.uptoBulkAll];cases jHL.1 h with
  |inl e=>subst e;omega
  |inr e=>have:=a e;omega
theorem jAi {α:Type} {Q:Nat->α->Prop}:∀(n:Nat),(∀i,i<n->∃y,Q i y)->∃l:List α,l.length=n/\∀i y,l[i]? =some y->Q i y
 |0,_=>⟨[],rfl,fun i y h=>by simp at h⟩
 |n+1,h=>by
  obtain⟨l,b,c⟩:=jAi n (fun i hi=>h i (by omega))
  obtain⟨y,d⟩:=h n (by omega)
  refine⟨l++[y],by simp[b],fun i z a=> ?_⟩
  by_cases hi:i<l.length
  .rw[jHX hi] at a;exact c i z a
  .rw[jHV (by omega)] at a
   have:i=n:=by
    by_cases e:i-l.length=0
    .omega
    .obtain⟨k,hk⟩:∃k,i-l.length=k+1:=⟨i-l.length-1,by omega⟩;rw[hk] at a;simp at a
   subst this;rw[<-b] at a;simp at a;subst a;exact d
def jGK (P:Program) (w:World) (enc:TypeId×Value->K) (T:Nat) (ty:Ty):Prop:=
 ∀(a:Nat) (cs:List Value) (x:DataW K×List MemPlace),DataW.trod enc P w 0 (fun _=>true) true a T cs=some x->Rows.uptoBulk x.1<=1048576->
  ∃d:ty.Data,ty.rd (Hof w) (fun i=>cs[i]?) d/\cs.length=ty.size/\ty.fits (Rows.uptoBulk x.1) d
theorem jFZ {n:Int} (h:(Lit.int .i64 n).wf=true):jz n:=by
 simp[Lit.wf,IntKind.min,IntKind.max,IntKind.signed,IntKind.bits] at h;exact h
theorem jhT {go:Nat->Ty->Bool} (c:∀T ty,go T ty=true->jGK P w enc T ty) {n:Nat} {cs:List Value}:
 ∀(fs:List Field) (off:Nat) (ty:Ty) (xs:List (DataW K×List MemPlace)),jF7 P go fs off ty=true->xs.length=fs.length->
  (∀(i:Nat) (f:Field),fs[i]? =some f->DataW.trod enc P w 0 (fun _=>true) true n f.type ((cs.drop f.offset).take (P.cellsOf f.type))=xs[i]?)->Rows.uptoBulkAll (xs.map (·.1))<=1048576->
  ∃d:ty.Data,ty.rd (Hof w) (fun i=>cs[off+i]?) d/\ty.fits (Rows.uptoBulkAll (xs.map (·.1))) d
 |[],off,ty,xs,h,g,e,j=>by
  cases ty<;>simp[jF7] at h
  exact⟨(),trivial,trivial⟩
 |f::fs,off,ty,[],h,g,e,j=>by simp at g
 |f::fs,off,ty,x::xs,h,g,e,j=>by
  cases ty<;>simp[jF7] at h
  rename_i a b
  obtain⟨⟨⟨q,v⟩,r⟩,s⟩:=h
  simp only[jIQ,Rows.uptoBulkAll] at j
  have k:=e 0 f (by simp)
  simp only[List.getElem?_cons_zero] at k
  obtain⟨d,t,y,u⟩:=c _ _ r _ _ _ k (by omega)
  obtain⟨l,o,p⟩:=jhT c fs (off+a.size) b xs s (by simpa using g) (fun i m hi=>by simpa using e (i+1) m (by simpa using hi)) (by omega)
  refine⟨(d,l),⟨?_,?_⟩,?_,?_⟩
  .refine Ty.rd_congr a _ _ _ (fun i hi=> ?_) t
   rw[jH9 (by omega),jIp,q]
  .refine Ty.rd_congr b _ _ _ (fun i hi=> ?_) o
   rw[jIR]
  .exact a.fits_mono (by simp[Rows.uptoBulkAll]) _ u
  .exact b.fits_mono (by simp[Rows.uptoBulkAll]) _ p
theorem jeB:∀(d T:Nat) (ty:Ty),jEE P d T ty=true->jGK P w enc T ty
 |0,_,_,h=>by cases h
 |d+1,T,ty,h=>by
  intro fuel cs x B r
  unfold jEE at h
  split at h
  .rename_i u
   obtain⟨n,rfl,rfl,H⟩:=DataW.trod_int u B
   exact⟨n,rfl,rfl,jFZ H⟩
  .rename_i u
   obtain⟨b,rfl,rfl⟩:=DataW.trod_bool u B
   exact⟨b,rfl,rfl,trivial⟩
  .rename_i k k' u
   obtain⟨n,rfl,rfl,H⟩:=DataW.trod_int u B
   have:k=k':=by simpa[jaT] using h
   subst this
   refine⟨n,rfl,rfl,?_⟩
   simp[Lit.wf] at H
   exact H
  .rename_i t e u
   simp only[jHK] at h
   obtain⟨⟨L,M⟩,h3⟩:=h
   have e1:=jHH L
   have e2:=jHY M
   rcases DataW.trod_slice u B with⟨rfl,rfl⟩|⟨a,len,J,yC,rest,n,_,rfl,rfl,hb,hl,hm,A,D,_,_⟩
   .refine⟨[],⟨none,0,0,rfl,rfl,jHM _,by simp,fun _=>rfl,fun h=>absurd rfl h⟩,rfl,by simp,fun x B=>by simp at B⟩
   .simp only[Rows.uptoBulk] at r
    have key:∀i,i<len->∃y:t.Data,(∃blk,Hof w a.block=some (.cells blk)/\a.spot=none/\t.rd (Hof w) (fun j=>blk[a.off+i*t.size+j]?) y)/\t.fits (Rows.uptoBulkAll (yC.map (·.1))) y:=by
     intro i hi;have h0:=D i hi;have X:yC[i]? =some yC[i]:=jHO (by omega);rw[X,Option.bind_eq_some_iff] at h0;obtain⟨cl,c1,c2⟩:=h0;have Q:Rows.uptoBulk yC[i].1<=Rows.uptoBulkAll (yC.map (·.1)):=jEH (jIk.2 ⟨yC[i],List.getElem_mem _,rfl⟩);obtain⟨y,y1,y2,y3⟩:=jeB d e t h3 _ _ _ c2 (by omega);unfold World.cells? at c1;rw[if_pos (jHR _),e1] at c1;have z:∀j,j<t.size->w.cell? ((a.add (i*t.size)).add j)=cl[j]? :=fun j O=>by
      have:=mapM_some_get c1 j j (by simp[O]);simpa using this
     have N:cl.length=t.size:=(by simpa using mapM_some_length c1);have I:=z 0 (by omega);have g:cl[0]?≠none:=(by rw[jHO (by omega)];simp);rw[<-I] at g;have m:∃blk T G,w.heap[a.block]? =some (.cells blk T G):=by
      unfold World.cell? at g;have q:((a.add (i*t.size)).add 0).block=a.block:=by unfold Addr.add;simp;split<;>rfl
      rw[q] at g
      split at g
      .rename_i c T G e;exact⟨c,T,G,e⟩
      .exact absurd rfl g
     obtain⟨blk,T',G,m⟩:=m;have p:((a.add (i*t.size)).add 0).spot=none:=by
      unfold World.cell? at g;have q:((a.add (i*t.size)).add 0).block=a.block:=by unfold Addr.add;simp;split<;>rfl
      rw[q,m] at g;simp only at g;cases R:((a.add (i*t.size)).add 0).spot with
      |none=>rfl
      |some s=>rw[R] at g;simp at g
     have hH:Hof w a.block=some (.cells blk):=(by unfold Hof;rw[m]);refine⟨y,⟨blk,hH,?_,?_⟩,t.fits_mono Q _ y3⟩
     .--the first element shows that the address is plain
      have C:=D 0 (by omega);have W:yC[0]? =some yC[0]:=jHO (by omega);rw[W,Option.bind_eq_some_iff] at C;obtain⟨K,F,_⟩:=C;unfold World.cells? at F;rw[if_pos (jHR _),e1] at F;have v:=mapM_some_get F 0 0 (by rw[List.getElem?_range (by omega)]);have hl0:K.length=t.size:=(by simpa using mapM_some_length F);rw[jHO (by omega)] at v;simp only[Nat.zero_mul] at v;have ea:(a.add 0).add 0=a:=(by unfold Addr.add;simp);rw[ea] at v;unfold World.cell? at v;rw[m] at v;simp only at v;cases R:a.spot with
      |none=>rfl
      |some s=>rw[R] at v;simp at v
     .refine Ty.rd_congr t _ _ _ (fun j O=> ?_) y1;rw[<-z j O];unfold World.cell?;have q:((a.add (i*t.size)).add j).block=a.block:=by unfold Addr.add;split<;>split<;>rfl
      have E:((a.add (i*t.size)).add j).off=a.off+i*t.size+j:=by
       unfold Addr.add;split<;>split<;>simp_all
      have V:((a.add (i*t.size)).add j).spot=none:=by
       have S:(a.add (i*t.size)).spot=none:=by
        have:(a.add (i*t.size)).add 0=a.add (i*t.size):=(by simp[Addr.add]);rw[this] at p;exact p
       unfold Addr.add at S⊢
       split<;>split<;>simp_all
      rw[q,m,E,V];simp
    obtain⟨l,l1,l2⟩:=jAi len key;refine⟨l,⟨some a,len,J,rfl,l1.symm,hl,?_,(fun h=>by cases h),fun g=> ?_⟩,rfl,?_,?_⟩
    .have:=jqK (yC.map (·.1));simp at this;omega
    .have hz:0<l.length:=List.length_pos_iff.2 g;obtain⟨blk,q1,q2,_⟩:=(l2 0 l[0] (jHO hz)).1;refine⟨a.block,a.off,blk,?_,q1,fun i y Z=> ?_⟩
     .rcases a with⟨b,o,s⟩;simp only at q2;subst q2;rfl
     .obtain⟨blk',q3,_,q4⟩:=(l2 i y Z).1;rw[q1] at q3;simp at q3;subst q3;exact q4
    .simp only[Rows.uptoBulk];have:=jqK (yC.map (·.1));simp at this;omega
    .intro y Z;obtain⟨i,hi⟩:=jIY Z;exact t.fits_mono (by simp only[Rows.uptoBulk];omega) _ (l2 i y hi).2
  .rename_i a b fs u;simp only[jHK] at h;obtain⟨L,M⟩:=h;obtain⟨xs,n,_,rfl,A,Y,hf⟩:=DataW.trod_struct u B;simp only[Rows.uptoBulk] at r;obtain⟨y,y1,y2⟩:=jhT (fun T ty h=>jeB d T ty h) (n:=n) (cs:=cs) fs.toList 0 (.pair a b) xs M (by simpa using Y) (fun i f hi=>hf i f (by simpa using hi)) (by omega);refine⟨y,by simpa using y1,by rw[A];exact jHH L,?_⟩;exact Ty.fits_mono (by simp only[Rows.uptoBulk];omega) (.pair a b) _ y2
  .cases h
end
end Go.X
namespace Go.X
open Go.RowKit (Below)
open Go.ChangeShapes Go.WideShapes Go.ChangeAt Go.RowKit
open Go.Proofs.YtnkahkkofmoipaaGreatDoor
def jk3 (N:Nat):(ts:List Ty)->PD (ts.map Par.val)->Prop
 |[],_=>True
 |t::ts,d=>t.fits N d.1/\jk3 N ts d.2
def jAk (ts:List Ty):j9:=⟨ts.map Par.val,[.bool],false,fun d=>[jk3 1048576 ts d],fun _=>(true,())⟩
def jhW (P:Program):List Nat->List Ty->Bool
 |[],[]=>true
 |T::Ts,t::ts=>jEE P 20 T t&&(P.readableRec T&&decide (T<P.types.size))&&jhW P Ts ts
 |_,_=>false
section
variable {P:Program} {K:Type} {enc:TypeId×Value->K} {W W':World}
theorem jfy (j:laidOutB P=true) (i:Below W.heap.size W W'):∀(a:List Nat) (ts:List Ty) (vs:List Value) (ds:List (DataW K)) (ps:List MemPlace),jhW P a ts=true->
 DataW.TrodAll enc P W 0 (fun _=>true) true a vs ds ps->(∀x∈ps,x.block<W.heap.size)->DataW.TrodAll enc P W' 0 (fun b=>decide (b<W.heap.size)) true a vs ds ps
 |[],ts,vs,ds,ps,_,h,_=>by
  obtain⟨rfl,rfl,rfl⟩:=trodAll_nil h
  exact trodAll_mk0
 |T::a,[],vs,ds,ps,c,_,_=>by cases c
 |T::a,t::ts,vs,ds,ps,c,h,hlt=>by
  obtain⟨v,g,d,e,p,q,rfl,rfl,rfl,n,o⟩:=trodAll_cons h
  simp only[jhW,jHK] at c
  obtain⟨⟨_,k,l⟩,m⟩:=c
  exact trodAll_cons_mk (Below.trod j k (of_decide_eq_true l) n i (fun x f=>hlt x (jHJ _ f)))
   (jfy j i a ts g e q m o (fun x f=>hlt x (jHI _ f)))
theorem jFF {T:Nat} {t:Ty} {r:Reach} {c:Nat} {v:Value} (h:jEE P 20 T t=true) (b:Value.okWide P W r c T v):kW v=t.agg:=by
 unfold jEE at h
 split at h
 .rename_i a;obtain⟨n,rfl⟩:=okWide_int a b;rfl
 .rename_i a;obtain⟨n,rfl⟩:=okWide_bool a b;rfl
 .rename_i a;obtain⟨n,rfl⟩:=okWide_int a b;rfl
 .rename_i a;unfold Value.okWide at b;rw[a] at b;simp only[Cell.okWide,a] at b;cases v with
  |agg vs=>simp[Cell.ok,a] at b
  |_=>rfl
 .rename_i a;unfold Value.okWide at b;rw[a] at b;obtain⟨cs,rfl,_⟩:=b;rfl
 .cases h
theorem jDH {r:Reach} {l:Nat}:∀(a:List Nat) (ts:List Ty) (vs:List Value) (ds:List (DataW K)) (ps:List MemPlace),jhW P a ts=true->
 DataW.TrodAll enc P W 0 (fun _=>true) true a vs ds ps->(∀(j:Nat) t v,a[j]? =some t->vs[j]? =some v->Value.okWide P W r l t v)->Rows.uptoBulkAll ds<=1048576->
 ∃d:PD (ts.map Par.val),pvs P (Hof W) (ts.map Par.val) vs d/\jk3 1048576 ts d
 |[],ts,vs,ds,ps,b,h,_,_=>by
  obtain⟨rfl,rfl,rfl⟩:=trodAll_nil h
  cases ts with
  |nil=>exact⟨(),rfl,trivial⟩
  |cons t ts=>cases b
 |T::a,[],vs,ds,ps,b,_,_,_=>by cases b
 |T::a,t::ts,vs,ds,ps,b,h,hv,hb=>by
  obtain⟨v,g,d,e,p,q,rfl,rfl,rfl,n,o⟩:=trodAll_cons h
  simp only[jhW,jHK] at b
  obtain⟨⟨k,_⟩,m⟩:=b
  simp only[Rows.uptoBulkAll] at hb
  obtain⟨c,s⟩:=n
  obtain⟨x,w,z,A⟩:=jeB 20 T t k c _ _ s (by simp only;omega)
  obtain⟨y,B,C⟩:=jDH a ts g e q m o (fun j t v u f=>hv (j+1) t v (by simpa using u) (by simpa using f)) (by omega)
  refine⟨(x,y),⟨⟨jFF k (hv 0 T v rfl rfl),by simpa using z,?_⟩,B⟩,Ty.fits_mono (by simp only;omega) t x A,C⟩
  refine Ty.rd_congr t _ _ _ (fun i _=> ?_) w
  simp
theorem jem:∀(a:List Nat) (ts:List Ty) (vs:List Value) (ds:List (DataW K)) (ps:List MemPlace),jhW P a ts=true->DataW.TrodAll enc P W 0 (fun _=>true) true a vs ds ps->ds.length=ts.length:=by
 intro a
 induction a with
 |nil=>intro ts vs ds ps b h;obtain⟨rfl,rfl,rfl⟩:=trodAll_nil h;cases ts with|nil=>rfl|cons=>cases b
 |cons T a g=>intro ts vs ds ps b h;cases ts with
  |nil=>cases b
  |cons t ts=>
   obtain⟨v,e,d,c,p,q,rfl,rfl,rfl,i,f⟩:=trodAll_cons h;simp only[jhW,jHK] at b;simp[g ts e c q b.2 f]
theorem jDN {f:Nat} {fn:Func} {s:ChangeSpec} {ts:List Ty} (I:laidOutB P=true) (k:jhW P fn.params.toList ts=true) (L:fn.resultTypes= #[4]) (D:P.underlying 4=some .bool)
 (a:s.vars=[]) (m:∀(ds:List (DataW K)),ds.length=ts.length->s.fn K (ds++[])={results:=[.lit (.bool true)],args:=ds})
 (G:zm P f (jAk ts)) (base:Nat) (args:Array Value) (ds o:List (DataW K)) (before:List MemPlace)
 (l:∀(j:Nat) t v,fn.params[j]? =some t->args[j]? =some v->Value.okWide P W .any base t v)
 (w:DataW.Whole enc P fn.params.toList s.vars false W args.toList ds o before) (hk:Rows.uptoSmall K (ds++o)=true) (E:jFL (Hof W)):
 Calls P f args W fun e W'=>∃v,e= .returned v/\s.post enc P fn false true false false W args v W':=by
 have b:=w;obtain⟨p,q,i,u,rfl,H,J⟩:=w;rw[a] at u;obtain⟨rfl,rfl⟩:=trodVars_none u;simp only[jIc] at b hk;have c:Rows.uptoBulkAll ds<=1048576:=of_decide_eq_true hk;have g:∀(j:Nat) t v,fn.params.toList[j]? =some t->args.toList[j]? =some v->Value.okWide P W .any base t v:=fun j t v B C=>l j t v (by simpa using B) (by simpa using C)
 obtain⟨d,z,A⟩:=jDH fn.params.toList ts args.toList ds p k i g c;have y:=G.calls (Hof W) W args.toList d (jCW W E) z ⟨A,trivial⟩;simp only[Array.toArray_toList] at y;refine y.mono fun e W' F=> ?_
 obtain⟨v,H',rfl,r,M⟩:=F;have n:v= .bool true:=z7 M;subst n;refine⟨_,rfl,ds,[],p,[],p,[],b,?_,?_,?_,r.below.frame _,fun h=>by cases h⟩
 .rw[m ds ?_,L]
  .exact trodAll_cons_mk (shut_bool D _) trodAll_mk0
  .exact jem _ _ _ _ _ k i
 .rw[m ds ?_]
  .exact jfy I r.below _ ts _ _ _ k i (fun x N=>by simpa using b.lt x N)
  .exact jem _ _ _ _ _ k i
 .rw[a,m ds ?_]
  .rfl
  .exact jem _ _ _ _ _ k i
end
end Go.X
namespace Go.X
open Go.Proofs
abbrev tAk:Ty:= .st [.int,.int]
namespace U
def jG2 (p:PeD):Prop:=(lv p).length<=20/\(zS p).length<=30
def jnT (c:CrD):Prop:=(jh c).length<=20/\(wu c).length<=20/\∀p∈jh c,jG2 p
def jg4 (d:DyD):Prop:=jnT (jc d)/\(jZ d).length<=20/\(ju d).length<=20/\(zc d).length<=60/\∀r∈jZ d,r.length<=20
def jry (p:PeD):Bool:=decide (20<((lv p).length:Int))||decide (30<((zS p).length:Int))
def jbQ (c:CrD):Bool:=(decide (20<((jh c).length:Int))||decide (20<((wu c).length:Int)))||((jh c).any jry||(js c&&decide (5<((jh c).length:Int))))
def jrx (r:List SpD):Bool:=decide (20<(r.length:Int))
def yz (d:DyD):Bool:=(((jbQ (jc d)||decide (20<((jZ d).length:Int)))||decide (20<((ju d).length:Int)))||decide (60<((zc d).length:Int)))||(jZ d).any jrx
def jt5 (d:DyD):Bool:=yz d||(decide (wt d=0)&&decide (12<((zc d).length:Int)))
def jHw:CrD:=(3,[([5,4,0],3,15,[],false,50,()),([0,5,3],3,15,[],true,40,()),([4,0,4],1,3,[7],false,30,()),([3,3,3],255,1,[],false,10,())],[(2,1,false,()),(4,2,false,()),(3,2,true,()),(5,1,false,())],())
def jBU:List JbD:=[(0,2,7,1,2,1,()),(0,2,3,0,0,1,()),(0,2,7,1,1,1,())]
def jmg:DyD:=(jHw,[[(0,0,()),(10,20,())],[(10,25,()),(0,0,())]],[((0,2,3,0,0,1,()),0,60,120,()),((0,2,3,1,0,1,()),1,150,200,()),((0,2,7,1,2,1,()),0,230,300,())],10,140,
 [(1,5,1,0,3,()),(2,6,1,1,3,()),(3,4,1,2,2,()),(4,7,1,2,0,()),(5,8,1,2,1,()),(6,9,1,0,2,()),(7,10,2,0,2,())],())
end U
def jwC:j9:=⟨[.val tCr],[tCr],false,fun d=>[U.jnT d.1],fun d=>(d.1,())⟩
def jyc:Ann:=fun r=>match r with
 |3=>some fun σ=>{X:=Nat,sl:=fun i=>[(4,.dat .int (i:Int))],ob:=fun i=>[(3,some (.box 25 false ((bx σ 3).set 1 (.own (gx 3 1) tPe)))),(gx 3 1,some (.row 102 tPe false .yes ((U.jh (gb tCr σ 1)).take i)))],inv:=fun i=>i<=(U.jh (gb tCr σ 1)).length,mu:=fun i=>(U.jh (gb tCr σ 1)).length-i}
 |_=>none
abbrev q142_0 (d:CrD×Unit)(x:Nat):=(nth d.1.2.1 (x:Int).toNat)
def jwf:Prop:=∀(d:CrD×Unit),U.jnT d.1->(0+d.1.2.2.1.length)*24<=140737488355328/\(∃(x:Nat),((0=(x:Int)/\True)/\(d.1.1=d.1.1/\True/\True/\True)/\List.take x (U.jh d.1)=[]/\True)/\x<=(U.jh d.1).length)/\∀(x:Nat),x<=(U.jh d.1).length->d.1.2.1.length<4611686018427387904->(decide ((x:Int)<(d.1.2.1.length:Int))=true->0<=(x:Int)/\(x:Int)<(d.1.2.1.length:Int)/\(0+(q142_0 d x).1.length)*8<=140737488355328/\(0+(q142_0 d x).2.2.2.1.length)*8<=140737488355328/\((List.take x (U.jh d.1)).length+[([]++(q142_0 d x).1,(q142_0 d x).2.1,(q142_0 d x).2.2.1,[]++(q142_0 d x).2.2.2.1,(q142_0 d x).2.2.2.2)].length)*80<=140737488355328/\jz ((x:Int)+1)/\∃(a:Nat),(((x:Int)+1=(a:Int)/\True)/\(d.1.1=d.1.1/\True/\True/\True)/\List.take x (U.jh d.1)++[([]++(q142_0 d x).1,(q142_0 d x).2.1,(q142_0 d x).2.2.1,[]++(q142_0 d x).2.2.2.1,(q142_0 d x).2.2.2.2)]=List.take a (U.jh d.1)/\True)/\a<=(U.jh d.1).length/\(U.jh d.1).length-a<(U.jh d.1).length-x)/\(decide ((x:Int)<(d.1.2.1.length:Int))=false->((d.1.1,List.take x (U.jh d.1),[]++d.1.2.2.1,()),())=d)
def jwy:j9:=⟨[.val tDy],[tDy],false,fun d=>[U.jg4 d.1],fun d=>(d.1,())⟩
def jx9:Ann:=fun r=>match r with
 |5=>some fun σ=>{X:=Nat,sl:=fun i=>[(4,.dat .int (i:Int))],ob:=fun i=>[(3,some (.box 30 false ((bx σ 3).set 3 (.own (gx 3 3) (.slice tSp))))),(gx 3 3,some (.row 75 (.slice tSp) false .yes ((U.jZ (gb tDy σ 1)).take i)))],inv:=fun i=>i<=(U.jZ (gb tDy σ 1)).length,mu:=fun i=>(U.jZ (gb tDy σ 1)).length-i}
 |_=>none
abbrev q143_0 (d:DyD×Unit):=(d.1.1.1=d.1.1.1/\d.1.1.2.1=d.1.1.2.1/\d.1.1.2.2.1=d.1.1.2.2.1/\True/\d.1.2.2.1=d.1.2.2.1/\d.1.2.2.2.1=d.1.2.2.2.1/\d.1.2.2.2.2.1=d.1.2.2.2.2.1/\d.1.2.2.2.2.2.1=d.1.2.2.2.2.2.1/\True)
def jwb:Prop:=∀(d:DyD×Unit),U.jg4 d.1->U.jnT d.1.1/\(∃(x:Nat),((0=(x:Int)/\True)/\(q143_0 d)/\List.take x (U.jZ d.1)=[]/\True)/\x<=(U.jZ d.1).length)/\∀(x:Nat),x<=(U.jZ d.1).length->d.1.2.1.length<4611686018427387904->(decide ((x:Int)<(d.1.2.1.length:Int))=true->0<=(x:Int)/\(x:Int)<(d.1.2.1.length:Int)/\(0+(nth d.1.2.1 (x:Int).toNat).length)*16<=140737488355328/\((List.take x (U.jZ d.1)).length+[[]++nth d.1.2.1 (x:Int).toNat].length)*24<=140737488355328/\jz ((x:Int)+1)/\∃(a:Nat),(((x:Int)+1=(a:Int)/\True)/\(q143_0 d)/\List.take x (U.jZ d.1)++[[]++nth d.1.2.1 (x:Int).toNat]=List.take a (U.jZ d.1)/\True)/\a<=(U.jZ d.1).length/\(U.jZ d.1).length-a<(U.jZ d.1).length-x)/\(decide ((x:Int)<(d.1.2.1.length:Int))=false->(0+d.1.2.2.1.length)*72<=140737488355328/\(0+d.1.2.2.2.2.2.1.length)*40<=140737488355328/\((d.1.1,List.take x (U.jZ d.1),[]++d.1.2.2.1,d.1.2.2.2.1,d.1.2.2.2.2.1,[]++d.1.2.2.2.2.2.1,()),())=d)
def jlK:j9:=⟨[.val (.slice .int),.val (.slice .int)],[.bool],false,fun _=>[],fun d=>(decide (d.1=d.2.1),())⟩
def jmm:Ann:=fun r=>match r with
 |4=>some fun σ=>{X:=Nat,sl:=fun i=>[(5,.dat .int (i:Int))],ob:=fun _=>[],inv:=fun i=>i<=(gd (.slice .int) σ 0).length/\∀j:Nat,j<i->nth (gd (.slice .int) σ 0) j=nth (gd (.slice .int) σ 1) j,mu:=fun i=>(gd (.slice .int) σ 0).length-i}
 |_=>none
def jlB:Prop:=∀(d:List Int×List Int×Unit),d.1.length<4611686018427387904->d.2.1.length<4611686018427387904->(decide ((d.1.length:Int)≠(d.2.1.length:Int))=true->(false,())=(decide (d.1=d.2.1),()))/\(decide ((d.1.length:Int)≠(d.2.1.length:Int))=false->(∃(x:Nat),((0=(x:Int)/\True)/\True)/\x<=d.1.length/\∀(j:Nat),j<x->nth d.1 j=nth d.2.1 j)/\∀(x:Nat),(x<=d.1.length/\∀(j:Nat),j<x->nth d.1 j=nth d.2.1 j)->d.1.length<4611686018427387904->(decide ((x:Int)<(d.1.length:Int))=true->0<=(x:Int)/\(x:Int)<(d.1.length:Int)/\0<=(x:Int)/\(x:Int)<(d.2.1.length:Int)/\(decide (nth d.1 (x:Int).toNat≠nth d.2.1 (x:Int).toNat)=true->(false,())=(decide (d.1=d.2.1),()))/\(decide (nth d.1 (x:Int).toNat≠nth d.2.1 (x:Int).toNat)=false->jz ((x:Int)+1)/\∃(a:Nat),(((x:Int)+1=(a:Int)/\True)/\True)/\(a<=d.1.length/\∀(j:Nat),j<a->nth d.1 j=nth d.2.1 j)/\d.1.length-a<d.1.length-x))/\(decide ((x:Int)<(d.1.length:Int))=false->(true,())=(decide (d.1=d.2.1),())))
def jyT:j9:=⟨[.val tCr],[.bool],false,fun _=>[],fun d=>(U.jbQ d.1,())⟩
def jBE:Ann:=fun r=>match r with
 |4=>some fun σ=>{X:=Nat,sl:=fun i=>[(3,.dat .int (i:Int))],ob:=fun _=>[],inv:=fun i=>i<=(U.jh (gb tCr σ 1)).length/\∀j:Nat,j<i->U.jry (nth (U.jh (gb tCr σ 1)) j)=false,mu:=fun i=>(U.jh (gb tCr σ 1)).length-i}
 |_=>none
abbrev q145_0 (d:CrD×Unit)(x:Nat):=((20:Int)<(↑(nth d.1.2.1 (x:Int).toNat).1.length:Int))
abbrev q145_1 (d:CrD×Unit):=(d.1.2.1.length:Int)
abbrev q145_2 (d:CrD×Unit)(x:Nat):=(decide (q145_0 d x)||decide ((30:Int)<(↑(nth d.1.2.1 (x:Int).toNat).2.2.2.1.length:Int)))
abbrev q145_3 (d:CrD×Unit):=(decide (20<(q145_1 d))||decide (20<(d.1.2.2.1.length:Int)))
def jyr:Prop:=∀(d:CrD×Unit),d.1.2.1.length<4611686018427387904->((!decide (20<(q145_1 d)))=true->d.1.2.2.1.length<4611686018427387904)->((q145_3 d)=true->(true,())=(U.jbQ d.1,()))/\((q145_3 d)=false->(∃(x:Nat),((0=(x:Int)/\True)/\True)/\x<=(U.jh d.1).length/\∀(j:Nat),j<x->U.jry (nth (U.jh d.1) j)=false)/\∀(x:Nat),(x<=(U.jh d.1).length/\∀(j:Nat),j<x->U.jry (nth (U.jh d.1) j)=false)->d.1.2.1.length<4611686018427387904->(decide ((x:Int)<(q145_1 d))=true->0<=(x:Int)/\(x:Int)<(q145_1 d)/\((nth d.1.2.1 (x:Int).toNat).1.length<4611686018427387904->((!decide (q145_0 d x))=true->0<=(x:Int))/\((!decide (q145_0 d x))=true->(x:Int)<(q145_1 d))/\(((!decide (q145_0 d x))=true->(nth d.1.2.1 (x:Int).toNat).2.2.2.1.length<4611686018427387904)->((q145_2 d x)=true->(true,())=(U.jbQ d.1,()))/\((q145_2 d x)=false->jz ((x:Int)+1)/\∃(a:Nat),(((x:Int)+1=(a:Int)/\True)/\True)/\(a<=(U.jh d.1).length/\∀(j:Nat),j<a->U.jry (nth (U.jh d.1) j)=false)/\(U.jh d.1).length-a<(U.jh d.1).length-x))))/\(decide ((x:Int)<(q145_1 d))=false->(U.js d.1=true->d.1.2.1.length<4611686018427387904)->(U.js d.1&&decide (5<(q145_1 d)),())=(U.jbQ d.1,())))
def jwn:j9:=⟨[.val tDy],[.bool],false,fun _=>[],fun d=>(U.yz d.1,())⟩
def jx3:Ann:=fun r=>match r with
 |4=>some fun σ=>{X:=Nat,sl:=fun i=>[(3,.dat .int (i:Int))],ob:=fun _=>[],inv:=fun i=>i<=(U.jZ (gb tDy σ 1)).length/\∀j:Nat,j<i->U.jrx (nth (U.jZ (gb tDy σ 1)) j)=false,mu:=fun i=>(U.jZ (gb tDy σ 1)).length-i}
 |_=>none
abbrev q146_1 (d:DyD×Unit):=(d.1.2.1.length:Int)
abbrev q146_0 (d:DyD×Unit):=(U.jbQ d.1.1||decide (20<(q146_1 d))||decide (20<(d.1.2.2.1.length:Int))||decide (60<(d.1.2.2.2.2.2.1.length:Int)))
def jv0:Prop:=∀(d:DyD×Unit),((!U.jbQ d.1.1)=true->d.1.2.1.length<4611686018427387904)->((!(U.jbQ d.1.1||decide (20<(q146_1 d))))=true->d.1.2.2.1.length<4611686018427387904)->((!(U.jbQ d.1.1||decide (20<(q146_1 d))||decide (20<(d.1.2.2.1.length:Int))))=true->d.1.2.2.2.2.2.1.length<4611686018427387904)->((q146_0 d)=true->(true,())=(U.yz d.1,()))/\((q146_0 d)=false->(∃(x:Nat),((0=(x:Int)/\True)/\True)/\x<=(U.jZ d.1).length/\∀(j:Nat),j<x->U.jrx (nth (U.jZ d.1) j)=false)/\∀(x:Nat),(x<=(U.jZ d.1).length/\∀(j:Nat),j<x->U.jrx (nth (U.jZ d.1) j)=false)->d.1.2.1.length<4611686018427387904->(decide ((x:Int)<(q146_1 d))=true->0<=(x:Int)/\(x:Int)<(q146_1 d)/\((nth d.1.2.1 (x:Int).toNat).length<4611686018427387904->(decide ((20:Int)<(↑(nth d.1.2.1 (x:Int).toNat).length:Int))=true->(true,())=(U.yz d.1,()))/\(decide ((20:Int)<(↑(nth d.1.2.1 (x:Int).toNat).length:Int))=false->jz ((x:Int)+1)/\∃(a:Nat),(((x:Int)+1=(a:Int)/\True)/\True)/\(a<=(U.jZ d.1).length/\∀(j:Nat),j<a->U.jrx (nth (U.jZ d.1) j)=false)/\(U.jZ d.1).length-a<(U.jZ d.1).length-x)))/\(decide ((x:Int)<(q146_1 d))=false->(false,())=(U.yz d.1,())))
def jyS:j9:=⟨[.val tDy],[.bool],false,fun _=>[],fun d=>(U.jt5 d.1,())⟩
def jyq:Prop:=∀(d:DyD×Unit),((!U.yz d.1)=true->(U.ju d.1).length<=1000000)/\(((!U.yz d.1&&decide (U.wt d.1=0))=true->d.1.2.2.2.2.2.1.length<4611686018427387904)->(U.yz d.1||decide (U.wt d.1=0)&&decide (12<(d.1.2.2.2.2.2.1.length:Int)),())=(U.jt5 d.1,()))
def jwm:j9:=⟨[.val .int,.val .int],[tSp],false,fun _=>[],fun d=>((d.1,d.2.1,()),())⟩
def jvZ:Prop:=∀(d:Int×Int×Unit),(d,())=(d,())
def jnM:j9:=⟨[],[tCr,.slice tJb],false,fun _=>[],fun _=>(U.jHw,U.jBU,())⟩
def jnv:Prop:=∀(d:Unit),(((3:Int),[([(5:Int),(4:Int),(0:Int)],(3:Int),(15:Int),[],false,(50:Int),()),([(0:Int),(5:Int),(3:Int)],(3:Int),(15:Int),[],true,(40:Int),()),([(4:Int),(0:Int),(4:Int)],(1:Int),(3:Int),[(7:Int)],false,(30:Int),()),([(3:Int),(3:Int),(3:Int)],(255:Int),(1:Int),[],false,(10:Int),())],[((2:Int),(1:Int),false,()),((4:Int),(2:Int),false,()),((3:Int),(2:Int),true,()),((5:Int),(1:Int),false,())],()),[((0:Int),(2:Int),(7:Int),(1:Int),(2:Int),(1:Int),()),((0:Int),(2:Int),(3:Int),(0:Int),(0:Int),(1:Int),()),((0:Int),(2:Int),(7:Int),(1:Int),(1:Int),(1:Int),())],())=(U.jHw,U.jBU,())
def jnL:j9:=⟨[],[tDy],false,fun _=>[],fun _=>(U.jmg,())⟩
abbrev q150_0:=(nth U.jBU (Int.toNat 1))
def jnu:Prop:=∀(d:Unit),(0:Int)<=1/\1<(U.jBU.length:Int)/\(0:Int)<=1/\1<(U.jBU.length:Int)/\(0:Int)<=0/\0<(U.jBU.length:Int)/\((U.jHw,[[((0:Int),(0:Int),()),((10:Int),(20:Int),())],[((10:Int),(25:Int),()),((0:Int),(0:Int),())]],[(nth U.jBU (Int.toNat 1),(0:Int),(60:Int),(120:Int),()),((q150_0.1,q150_0.2.1,q150_0.2.2.1,(1:Int),q150_0.2.2.2.2),(1:Int),(150:Int),(200:Int),()),(nth U.jBU (Int.toNat 0),(0:Int),(230:Int),(300:Int),())],(10:Int),(140:Int),[((1:Int),(5:Int),(1:Int),(0:Int),(3:Int),()),((2:Int),(6:Int),(1:Int),(1:Int),(3:Int),()),((3:Int),(4:Int),(1:Int),(2:Int),(2:Int),()),((4:Int),(7:Int),(1:Int),(2:Int),(0:Int),()),((5:Int),(8:Int),(1:Int),(2:Int),(1:Int),()),((6:Int),(9:Int),(1:Int),(0:Int),(2:Int),()),((7:Int),(10:Int),(2:Int),(0:Int),(2:Int),())],()),())=(U.jmg,())
def jsu:j9:=⟨[],[.bool],false,fun _=>[],fun _=>(true,())⟩
def jrX:Prop:=∀(d:Unit),(U.zc U.jmg).length<=100000/\(U.zc U.jmg).length<=100000/\(U.zc U.jmg).length<=100000/\(decide (U.jU U.jmg=0)&&decide (U.jU U.jmg=0)&&decide (U.jeC U.jmg=0)&&decide (U.jgV U.jmg=[(8:Int),(8:Int),(3:Int)])&&decide (U.jg7 U.jmg=[(3:Int)])&&decide (U.jiC U.jmg=[(8:Int),(8:Int),(3:Int)])&&decide (U.jiB U.jmg=110),())=(true,())
abbrev q152_0:=(Ty.int.pair (Ty.int.pair Ty.unit))
abbrev q152_1:=(Ty.int.pair (Ty.int.pair (Ty.int.pair q152_0)))
def jfm:Prop:=∀(d:DyD×Unit),jk3 1048576 [(Ty.int.pair ((Ty.int.slice.pair (Ty.int.pair (Ty.int.pair (Ty.int.slice.pair (Ty.bool.pair (Ty.int.pair Ty.unit)))))).slice.pair ((Ty.int.pair (Ty.int.pair (Ty.bool.pair Ty.unit))).slice.pair Ty.unit))).pair (q152_0.slice.slice.pair (((Ty.int.pair q152_1).pair (Ty.int.pair q152_0)).slice.pair (Ty.int.pair (Ty.int.pair (q152_1.slice.pair Ty.unit)))))] d->(U.jt5 d.1=true->(true,())=(true,()))/\(U.jt5 d.1=false->U.jg4 d.1/\(U.zc d.1).length<=100000/\(U.ju d.1).length<=1000000/\(decide (U.jU d.1≠U.wt d.1)=true->(false,())=(true,()))/\(decide (U.jU d.1≠U.wt d.1)=false->(U.zc d.1).length<=100000/\(U.ju d.1).length<=1000000/\(U.zc d.1).length<=100000/\(U.ju d.1).length<=1000000/\(U.zc d.1).length<=100000/\(U.ju d.1).length<=1000000/\(decide (U.jgV d.1=U.jC d.1)&&decide (U.jU d.1=U.wt d.1)&&decide (U.jg7 d.1=U.jHq d.1)&&decide (U.jU d.1=U.wt d.1)&&decide (U.jEs d.1=U.jG1 d.1)&&decide (U.jU d.1=U.wt d.1)&&true,())=(true,())))
def jfD:j9:=jAk [tDy,tAk]
abbrev q153_0 (d:DyD×(Int×Int×Unit)×Unit):=(!decide (U.jjS d.1 d.2.1.1=U.jdI d.1 d.2.1.1)||decide (U.jjR d.1 d.2.1.1≠U.jdH d.1 d.2.1.1)||decide (U.vW d.1 (U.ji d.1 d.2.1.1)≠U.qP d.1 (U.ji d.1 d.2.1.1)))
abbrev q153_1:=(Ty.int.pair (Ty.int.pair Ty.unit))
abbrev q153_2:=(Ty.int.pair (Ty.int.pair (Ty.int.pair q153_1)))
def jfn:Prop:=∀(d:DyD×(Int×Int×Unit)×Unit),jk3 1048576 [(Ty.int.pair ((Ty.int.slice.pair (Ty.int.pair (Ty.int.pair (Ty.int.slice.pair (Ty.bool.pair (Ty.int.pair Ty.unit)))))).slice.pair ((Ty.int.pair (Ty.int.pair (Ty.bool.pair Ty.unit))).slice.pair Ty.unit))).pair (q153_1.slice.slice.pair (((Ty.int.pair q153_2).pair (Ty.int.pair q153_1)).slice.pair (Ty.int.pair (Ty.int.pair (q153_2.slice.pair Ty.unit))))),Ty.int.pair (Ty.int.pair Ty.unit)] d->(U.jt5 d.1=true->(true,())=(true,()))/\(U.jt5 d.1=false->U.jg4 d.1/\(U.zc d.1).length<=100000/\(U.ju d.1).length<=1000000/\((q153_0 d)=true->(false,())=(true,()))/\((q153_0 d)=false->(U.zc d.1).length<=100000/\(U.ju d.1).length<=1000000/\(U.zc d.1).length<=100000/\(U.ju d.1).length<=1000000/\(decide (U.jmd d.1 d.2.1.2.1=U.jme d.1 d.2.1.2.1)&&decide (U.vW d.1 (U.jj d.1 d.2.1.2.1)=U.qP d.1 (U.jj d.1 d.2.1.2.1))&&decide (U.jhE d.1 d.2.1.2.1=U.jgt d.1 d.2.1.2.1)&&decide (U.jhD d.1 d.2.1.2.1=U.jgs d.1 d.2.1.2.1)&&decide (U.jbf d.1 d.2.1.2.1=U.jbd d.1 d.2.1.2.1)&&true,())=(true,())))
end Go.X
namespace Go.X
open Go.Proofs
theorem jAO:jwf:=by
 unfold jwf q142_0;rintro⟨c,⟨⟩⟩ g;obtain⟨m,j,a⟩:U.jnT c:=g;refine⟨by show(0+(U.wu c).length)*24<=140737488355328;omega,⟨0,⟨⟨rfl,trivial⟩,⟨rfl,trivial,trivial,trivial⟩,rfl,trivial⟩,jHR _⟩,fun x f _=>⟨fun h=> ?_,fun h=> ?_⟩⟩
 .have h:(x:Int)<((U.jh c).length:Int):=of_decide_eq_true h;have k:=L.take_succ (l:=U.jh c) (i:=x) (by omega);obtain⟨s1,s2⟩:=a _ (L.mem_nth (l:=U.jh c) (i:=x) (by omega));have d:((U.jh c).take x).length<=20:=(by rw[jH6];omega);refine⟨jH4 _,h,by show(0+(U.lv (nth (U.jh c) x)).length)*8<=140737488355328;omega,by show(0+(U.zS (nth (U.jh c) x)).length)*8<=140737488355328;omega,by show(((U.jh c).take x).length+1)*80<=140737488355328;omega,L.in64 (by omega) (by omega),x+1,⟨⟨by simp,trivial⟩,⟨rfl,trivial,trivial,trivial⟩,k.symm,trivial⟩,by show x+1<=(U.jh c).length;omega,by show(U.jh c).length-(x+1)<(U.jh c).length-x;omega⟩
 .have h:¬(x:Int)<((U.jh c).length:Int):=of_decide_eq_false h;have f:x<=(U.jh c).length:=f;have b:x=(U.jh c).length:=(by omega);subst b;have e:(U.jh c).take (U.jh c).length=U.jh c:=jIO;show((c.1,(U.jh c).take (U.jh c).length,c.2.2.1,()),())=(c,());rw[e];rfl
theorem jw2:zm PR 42 jwC:=kH jyc jAO Tryz.func42 kcN koN
theorem jAK:jwb:=by
 unfold jwb q143_0;rintro⟨d,⟨⟩⟩ g;obtain⟨k,o,j,n,a⟩:U.jg4 d:=g;refine⟨k,⟨0,⟨⟨rfl,trivial⟩,⟨rfl,rfl,rfl,trivial,rfl,rfl,rfl,rfl,trivial⟩,rfl,trivial⟩,jHR _⟩,fun x f _=>⟨fun h=> ?_,fun h=> ?_⟩⟩
 .have h:(x:Int)<((U.jZ d).length:Int):=of_decide_eq_true h;have m:=L.take_succ (l:=U.jZ d) (i:=x) (by omega);have p:=a _ (L.mem_nth (l:=U.jZ d) (i:=x) (by omega));have c:((U.jZ d).take x).length<=20:=(by rw[jH6];omega);refine⟨jH4 _,h,by show(0+(nth (U.jZ d) x).length)*16<=140737488355328;omega,by show(((U.jZ d).take x).length+1)*24<=140737488355328;omega,L.in64 (by omega) (by omega),x+1,⟨⟨by simp,trivial⟩,⟨rfl,rfl,rfl,trivial,rfl,rfl,rfl,rfl,trivial⟩,m.symm,trivial⟩,by show x+1<=(U.jZ d).length;omega,by show(U.jZ d).length-(x+1)<(U.jZ d).length-x;omega⟩
 .have h:¬(x:Int)<((U.jZ d).length:Int):=of_decide_eq_false h;have f:x<=(U.jZ d).length:=f;have b:x=(U.jZ d).length:=(by omega);subst b;have e:(U.jZ d).take (U.jZ d).length=U.jZ d:=jIO;refine⟨by show(0+(U.ju d).length)*72<=140737488355328;omega,by show(0+(U.zc d).length)*40<=140737488355328;omega,?_⟩;show((U.jc d,(U.jZ d).take (U.jZ d).length,U.ju d,U.jcj d,U.jCB d,U.zc d,()),())=(d,());rw[e];rfl
theorem jwZ:zm PR 13 jwy:=kH jx9 jAK Tryz.func13 (kcC jw2 kcN) koN
theorem jow:jlB:=by
 rintro⟨a,b,⟨⟩⟩ _ l;refine⟨fun h=> ?_,fun h=>⟨⟨0,⟨⟨rfl,trivial⟩,trivial⟩,jHR _,fun j k=>by omega⟩,fun x g f=>⟨fun c=>⟨jH4 _,of_decide_eq_true c,jH4 _,?_,fun d=> ?_,fun d=> ?_⟩,fun c=> ?_⟩⟩⟩
 .have h:(a.length:Int)≠(b.length:Int):=of_decide_eq_true h;have:¬a=b:=fun e=>h (by rw[e])
  show(false,())=(decide (a=b),());rw[decide_eq_false this]
 .have h:(a.length:Int)=(b.length:Int):=Classical.not_not.1 (of_decide_eq_false h);have c:(x:Int)<(a.length:Int):=of_decide_eq_true c;show(x:Int)<(b.length:Int);omega
 .have d:nth a x≠nth b x:=of_decide_eq_true d;have:¬a=b:=fun e=>d (by rw[e])
  show(false,())=(decide (a=b),());rw[decide_eq_false this]
 .have c:(x:Int)<(a.length:Int):=of_decide_eq_true c;have d:nth a x=nth b x:=Classical.not_not.1 (of_decide_eq_false d);have f:a.length<4611686018427387904:=f;refine⟨L.in64 (by omega) (by omega),x+1,⟨⟨by simp,trivial⟩,trivial⟩,⟨by show x+1<=a.length;omega,fun j k=> ?_⟩,by show a.length-(x+1)<a.length-x;omega⟩;by_cases e:j=x
  .subst e;exact d
  .exact g.2 j (by omega)
 .have h:(a.length:Int)=(b.length:Int):=Classical.not_not.1 (of_decide_eq_false h);have c:¬(x:Int)<(a.length:Int):=of_decide_eq_false c;have e:a=b:=L.ext_nth (by omega) fun i hi=>g.2 i (by omega)
  show(true,())=(decide (a=b),());rw[decide_eq_true e]
theorem jdV:zm PR 15 jlK:=kH jmm jow Tryz.func15 kcN koN
theorem jCM:jyr:=by
 unfold jyr q145_3 q145_2 q145_1 q145_0;rintro⟨c,⟨⟩⟩ _ _;refine⟨fun h=> ?_,fun h=>⟨⟨0,⟨⟨rfl,trivial⟩,trivial⟩,jHR _,fun j g=>by omega⟩,fun x f d=>⟨fun a=>⟨jH4 _,of_decide_eq_true a,fun _=>⟨fun _=>jH4 _,fun _=>of_decide_eq_true a,fun _=>⟨fun b=> ?_,fun b=> ?_⟩⟩⟩,fun a _=> ?_⟩⟩⟩
 .have h:(decide (20<((U.jh c).length:Int))||decide (20<((U.wu c).length:Int)))=true:=h;show(true,())=(U.jbQ c,());unfold U.jbQ;rw[h];rfl
 .have b:U.jry (nth (U.jh c) x)=true:=b;have a:(x:Int)<((U.jh c).length:Int):=of_decide_eq_true a;have:(U.jh c).any U.jry=true:=jIn.2 ⟨_,L.mem_nth (l:=U.jh c) (i:=x) (by omega),b⟩;show(true,())=(U.jbQ c,());unfold U.jbQ;rw[this,Bool.true_or,Bool.or_true]
 .have b:U.jry (nth (U.jh c) x)=false:=b;have a:(x:Int)<((U.jh c).length:Int):=of_decide_eq_true a;have d:(U.jh c).length<4611686018427387904:=d;refine⟨L.in64 (by omega) (by omega),x+1,⟨⟨by simp,trivial⟩,trivial⟩,⟨by show x+1<=(U.jh c).length;omega,fun j g=> ?_⟩,by show(U.jh c).length-(x+1)<(U.jh c).length-x;omega⟩;by_cases e:j=x
  .subst e;exact b
  .exact f.2 j (by omega)
 .have h:(decide (20<((U.jh c).length:Int))||decide (20<((U.wu c).length:Int)))=false:=h;have a:¬(x:Int)<((U.jh c).length:Int):=of_decide_eq_false a;have:(U.jh c).any U.jry=false:=jIv.2 fun p k=>by
   obtain⟨i,hi,rfl⟩:=L.mem_iff.1 k;rw[f.2 i (by omega)];simp
  show(U.js c&&decide (5<((U.jh c).length:Int)),())=(U.jbQ c,());unfold U.jbQ;rw[h,this,Bool.false_or,Bool.false_or]
theorem jzN:zm PR 70 jyT:=kH jBE jCM Tryz.func70 (kcC jhZ kcN) koN
theorem jAz:jv0:=by
 unfold jv0 q146_0 q146_1;rintro⟨d,⟨⟩⟩ _ _ _;refine⟨fun h=> ?_,fun h=>⟨⟨0,⟨⟨rfl,trivial⟩,trivial⟩,jHR _,fun j g=>by omega⟩,fun x f c=>⟨fun a=>⟨jH4 _,of_decide_eq_true a,fun _=>⟨fun b=> ?_,fun b=> ?_⟩⟩,fun a=> ?_⟩⟩⟩
 .have h:(((U.jbQ (U.jc d)||decide (20<((U.jZ d).length:Int)))||decide (20<((U.ju d).length:Int)))||decide (60<((U.zc d).length:Int)))=true:=h;show(true,())=(U.yz d,());unfold U.yz;rw[h];rfl
 .have b:U.jrx (nth (U.jZ d) x)=true:=b;have a:(x:Int)<((U.jZ d).length:Int):=of_decide_eq_true a;have:(U.jZ d).any U.jrx=true:=jIn.2 ⟨_,L.mem_nth (l:=U.jZ d) (i:=x) (by omega),b⟩;show(true,())=(U.yz d,());unfold U.yz;rw[this,Bool.or_true]
 .have b:U.jrx (nth (U.jZ d) x)=false:=b;have a:(x:Int)<((U.jZ d).length:Int):=of_decide_eq_true a;have c:(U.jZ d).length<4611686018427387904:=c;refine⟨L.in64 (by omega) (by omega),x+1,⟨⟨by simp,trivial⟩,trivial⟩,⟨by show x+1<=(U.jZ d).length;omega,fun j g=> ?_⟩,by show(U.jZ d).length-(x+1)<(U.jZ d).length-x;omega⟩;by_cases e:j=x
  .subst e;exact b
  .exact f.2 j (by omega)
 .have h:(((U.jbQ (U.jc d)||decide (20<((U.jZ d).length:Int)))||decide (20<((U.ju d).length:Int)))||decide (60<((U.zc d).length:Int)))=false:=h;have a:¬(x:Int)<((U.jZ d).length:Int):=of_decide_eq_false a;have:(U.jZ d).any U.jrx=false:=jIv.2 fun p k=>by
   obtain⟨i,hi,rfl⟩:=L.mem_iff.1 k;rw[f.2 i (by omega)];simp
  show(false,())=(U.yz d,());unfold U.yz;rw[h,this];rfl
theorem jwR:zm PR 30 jwn:=kH jx3 jAz Tryz.func30 (kcC jzN kcN) koN
theorem jA2 {c:CrD} (h:U.jbQ c=false):U.jnT c:=by
 unfold U.jbQ at h;rw[jIg,jIg,jIg,decide_eq_false_iff_not] at h;have b:=of_decide_eq_false h.1.2;refine⟨by have:=h.1.1;omega,by omega,fun p a=> ?_⟩;have:=jIv.1 h.2.1 p a;unfold U.jry at this;rw[jIK,decide_eq_true_iff,decide_eq_true_iff] at this;unfold U.jG2;omega
theorem jmT {d:DyD} (h:U.yz d=false):U.jg4 d:=by
 unfold U.yz at h;rw[jIg,jIg,jIg,jIg] at h;obtain⟨⟨⟨⟨e,a⟩,b⟩,c⟩,f⟩:=h;have a:=of_decide_eq_false a;have b:=of_decide_eq_false b;have c:=of_decide_eq_false c;refine⟨jA2 e,by omega,by omega,by omega,fun r g=> ?_⟩;have:=jIv.1 f r g;unfold U.jrx at this;rw[decide_eq_true_iff] at this;omega
theorem jCL:jyq:=by
 rintro⟨d,⟨⟩⟩;refine⟨fun h=> ?_,fun _=>rfl⟩;have h:(!U.yz d)=true:=h;rw[jIj] at h;have:=(jmT h).2.2.1;show(U.ju d).length<=1000000;omega
theorem jzM:zm PR 9 jyS:=j8 jCL Tryz.func9 (kcC jwR (kcC jkh kcN)) koN
theorem jAy:jvZ:=fun _=>rfl
theorem jwQ:zm PR 78 jwm:=j8 jAy Tryz.func78 kcN koN
theorem jqQ:jnv:=fun _=>rfl
theorem job:zm PR 77 jnM:=j8 jqQ Tryz.func77 kcN koN
theorem jqP:jnu:=by
 unfold jnu q150_0;intro _;refine⟨by decide,by decide,by decide,by decide,by decide,by decide,rfl⟩
theorem joa:zm PR 38 jnL:=j8 jqP Tryz.func38 (kcC job (kcC jwQ kcN)) koN
theorem jA6:U.wt U.jmg=0:=by decide+kernel
theorem jGy:(U.jiq U.jmg).1=[8,8,3]:=by decide+kernel
theorem jGz:U.gW (U.jiq U.jmg).2 100=[3]:=by decide+kernel
theorem jA5:(U.jG5 U.jmg).2=([8,8,3],110,true):=by decide+kernel
theorem jxf:jrX:=by
 intro _;refine⟨by decide,by decide,by decide,?_⟩;have b:U.jU U.jmg=0:=(qz _).trans jA6;have c:U.jgV U.jmg=[8,8,3]:=(by rw[jyD,if_pos jA6];exact jGy);have d:U.jg7 U.jmg=[3]:=(by rw[jzn,if_pos jA6];exact jGz);have a:U.jeC U.jmg=0:=(by unfold U.jeC;rw[if_pos b,jA5,if_pos rfl]);have e:U.jiC U.jmg=[8,8,3]:=(by unfold U.jiC;rw[if_pos a,jA5]);have f:U.jiB U.jmg=110:=(by unfold U.jiB;rw[if_pos a,jA5]);rw[b,c,d,a,e,f];rfl
theorem jte:zm PR 11 jsu:=j8 jxf Tryz.func11 (kcC joa (kcC jdV (kcC jwV (kcC jqz (kcC jzP kcN))))) koN
theorem jvy {d:DyD} (h:U.jt5 d=false):U.jg4 d:=by
 unfold U.jt5 at h;rw[jIg] at h;exact jmT h.1
theorem jxg:jfm:=by
 unfold jfm q152_1 q152_0;rintro⟨d,⟨⟩⟩ _;refine⟨fun _=>rfl,fun h=> ?_⟩;have e:=jvy (d:=d) h;have b:(U.zc d).length<=100000:=(by have:=e.2.2.2.1;omega);have c:(U.ju d).length<=1000000:=(by have:=e.2.2.1;omega);refine⟨e,b,c,fun a=> ?_,fun a=>⟨b,c,b,c,b,c,?_⟩⟩
 .have a:U.jU d≠U.wt d:=of_decide_eq_true a;exact absurd (qz d) a
 .have f:U.jgV d=U.jC d:=jyD d;have g:U.jg7 d=U.jHq d:=jzn d;show(decide (U.jgV d=U.jC d)&&decide (U.jU d=U.wt d)&&decide (U.jg7 d=U.jHq d)&&decide (U.jU d=U.wt d)&&decide (U.jEs d=U.jG1 d)&&decide (U.jU d=U.wt d)&&true,())=(true,());rw[decide_eq_true f,decide_eq_true g,decide_eq_true (jEr d),decide_eq_true (qz d)];rfl
theorem jho:jfn:=by
 unfold jfn q153_2 q153_1 q153_0;rintro⟨d,⟨p,b,⟨⟩⟩,⟨⟩⟩ _;refine⟨fun _=>rfl,fun h=> ?_⟩;have c:=jvy (d:=d) h;have e:(U.zc d).length<=100000:=(by have:=c.2.2.2.1;omega);have g:(U.ju d).length<=1000000:=(by have:=c.2.2.1;omega);have r:=jF3 d p;have f:=jGu d b;refine⟨c,e,g,fun a=> ?_,fun a=>⟨e,g,e,g,?_⟩⟩
 .have a:(!decide (U.jjS d p=U.jdI d p)||decide (U.jjR d p≠U.jdH d p)||decide (U.vW d (U.ji d p)≠U.qP d (U.ji d p)))=true:=a;rw[decide_eq_true r.1,decide_eq_false (Classical.not_not.2 r.2),decide_eq_false (Classical.not_not.2 (jqj d _))] at a;cases a
 .show(decide (U.jmd d b=U.jme d b)&&decide (U.vW d (U.jj d b)=U.qP d (U.jj d b))&&decide (U.jhE d b=U.jgt d b)&&decide (U.jhD d b=U.jgs d b)&&decide (U.jbf d b=U.jbd d b)&&true,())=(true,());rw[decide_eq_true (jE4 d b),decide_eq_true (jqj d _),decide_eq_true f.1,decide_eq_true f.2.1,decide_eq_true f.2.2];rfl
theorem jva:zm PR 5 jfD:=j8 jho Tryz.func5 (kcC jzM (kcC jte (kcC jwZ (kcC jwW (kcC jtm (kcC jzQ (kcC jwX (kcC jzR (kcC jwY (kcC jdV kcN)))))))))) koN
end Go.X
namespace Go.X
open Go.Proofs
end Go.X
namespace Go.X
open Go.Proofs
section
attribute [local irreducible] U.jaq U.kG U.on U.jcw U.jo7
end
section
attribute [local irreducible] U.jk5
end
section
attribute [local irreducible] U.jcw U.jo7
end
section
attribute [local irreducible] U.wt U.jcw
end
end Go.X

namespace Go.X
section
attribute [local irreducible] U.qI U.jaq U.gC U.wb U.kG
end
section
attribute [local irreducible] U.jaq U.gC U.wb U.kG U.qQ
end
end Go.X
namespace Go.X
open Go.Proofs
section
attribute [local irreducible] U.qI U.wb
end
end Go.X






namespace Go.X
instance:Inhabited (Nat×Nat):=⟨(0,0)⟩
end Go.X

namespace Go.X
open Go.Proofs
end Go.X
namespace Go.X
open Go.Proofs
instance (a b:BkD):Decidable (a=b):=tBk.decEq a b
end Go.X
namespace Go.X
open Go.Proofs Go.Proofs.YtnkahkkofmoipaaGreatDoor
noncomputable def jCH:Array Field:=match Tryz.prog.underlying 60 with|some (.struct fs)=>fs|_=> #[]
theorem jGr:Tryz.prog.globalNamed "handshape/rosters.some"=some 0:=by kernel_rfl
theorem jGq:(Tryz.prog.globals[0]?).map (·.type)=some 60:=by kernel_rfl
theorem jHC:Tryz.prog.underlying 60=some (.struct jCH):=by kernel_rfl
theorem jHD:Tryz.prog.underlying 3=some (.int .i64):=by kernel_rfl
theorem jHE:Tryz.prog.cellsOf 3=1:=by kernel_rfl
noncomputable def gz (i:Nat):Bool:=match jCH[i]? with|some f=>Nat.beq f.type 3&&Nat.beq f.offset i|none=>false
theorem fields:(gz 0&&gz 1&&gz 2&&gz 3&&gz 4&&gz 5)=true:=by kernel_rfl
theorem jC3 {i:Nat} (h:gz i=true):∃f,jCH[i]? =some f/\f.type=3/\f.offset=i:=by
 unfold gz at h
 split at h
 .rename_i f a;rw[jHK] at h;exact⟨f,a,jHH h.1,jHH h.2⟩
 .cases h
theorem jCG {H:Type} {enc:TypeId×Value->H} {w:World} {base:Nat} {sp:Nat->Bool} {a:Bool} {n:Nat} {cs:List Value} {xs:List (DataW H×List MemPlace)} {d:List Int} (o:xs.map (·.1)=d.map fun z=>(DataW.lit (.int .i64 z):DataW H))
 (k:∀(i:Nat) (f:Field),jCH[i]? =some f->DataW.trod enc Tryz.prog w base sp a n f.type ((cs.drop f.offset).take (Tryz.prog.cellsOf f.type))=xs[i]?) {i:Nat} {z:Int} (hi:gz i=true) (q:d[i]? =some z):cs[i]? =some (.int .i64 z):=by
 obtain⟨f,g,h,j⟩:=jC3 hi;have b:=k i f g;rw[h,j,jHE] at b;have c:(xs.map (·.1))[i]? =some (DataW.lit (.int .i64 z):DataW H):=(by rw[o,jI0,q];rfl);rw[jI0] at c;obtain⟨y,p,e⟩:=jJc.1 c;rw[p] at b;obtain⟨m,l,rfl,_⟩:=DataW.trod_int jHD b;have e:m=z:=by
  have e:(DataW.lit (.int .i64 m):DataW H)=DataW.lit (.int .i64 z):=e;simpa only[DataW.lit.injEq,Lit.int.injEq,true_and] using e
 subst e;have:=congrArg (·[0]?) l;simpa[jIW,jIp] using this
theorem jHa {W:World} (h:laidMet Tryz.prog [("handshape/rosters.some",Rows.laid_handshape_rosters_some)] W):jFL (Hof W):=by
 obtain⟨ps,⟨H,E,cs,k,p,q,d,f,a,A,_,_⟩,_⟩:=h;obtain rfl:=Option.some.inj (jGr.symm.trans d);obtain rfl:=Option.some.inj (jGq.symm.trans f);obtain⟨xs,n,_,C,I,l,B⟩:=DataW.trod_struct jHC A;have j:xs.map (·.1)=[0,1,0,0,0,1].map fun z=>(DataW.lit (.int .i64 z):DataW Unit):=by
  have e:=congrArg Prod.fst C;have e:(DataW.agg [.lit (.int .i64 0),.lit (.int .i64 1),.lit (.int .i64 0),.lit (.int .i64 0),.lit (.int .i64 0),.lit (.int .i64 1)]:DataW Unit)= .agg (xs.map (·.1)):=e;simp only[DataW.agg.injEq] at e;exact e.symm
 have fs:=fields;simp only[jHK] at fs;obtain⟨⟨⟨⟨⟨o,r⟩,s⟩,u⟩,v⟩,w⟩:=fs;have c:∀{i:Nat} {z:Int},gz i=true->([0,1,0,0,0,1]:List Int)[i]? =some z->cs[i]? =some (.int .i64 z):=fun hi D=>by
  have:=jCG j B hi D;simpa using this
 unfold World.var? at a;rw[jGr] at a;intro g x b;have b:jJ [(0,(⟨.st [.int,.int,.int,.int,.int,.int],((0:Int),(1:Int),(0:Int),(0:Int),(0:Int),(1:Int),())⟩:(t:Ty)×t.Data))] g=some x:=b;have y:Hof W 0=some (.cells cs):=by
  unfold Hof;simp only[Option.bind_some] at a
  split at a
  .rename_i F E G e;rw[e];have:=Option.some.inj a;rw[this]
  .cases a
 have m:=zD _ _ _ b;simp only[List.mem_singleton,Prod.mk.injEq] at m;obtain⟨rfl,rfl⟩:=m;exact⟨cs,y,c o rfl,c r rfl,c s rfl,c u rfl,c v rfl,c w rfl,trivial⟩
end Go.X
