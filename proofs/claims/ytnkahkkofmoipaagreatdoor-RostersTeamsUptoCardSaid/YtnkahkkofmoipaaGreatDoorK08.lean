/-
  Part 8 of the road: a checked reading of bodies, and what the functions on it do (X25 X26 C5 PC15 LW).
-/
import Derived.Test.YtnkahkkofmoipaaGreatDoorK07
import Derived.Test.YtnkahkkofmoipaaGreatDoorRows
import Derived.WalkKit
import Derived.ProofKit
import Derived.OpenShut
import Derived.JoinedCond
import Derived.Carry
import Derived.ChangeArms
import Derived.Test.YtnkahkkofmoipaaGreatDoorCards
import Derived.Test.YtnkahkkofmoipaaGreatDoorTie
import Derived.Deep.DeepHandedRow
import Derived.Lib.LaidTab
namespace Go.X
open Go.RowKit (Below)
open Go.Proofs.YtnkahkkofmoipaaGreatDoor
def Hof (w:World):Imm:=fun b=>match w.heap[b]? with|some (.cells c _ _)=>some (.cells c)|_=>none
theorem jCk (w:World) (hG:jE0 (Hof w)):jcY (Hof w) w:=by
  refine⟨fun b c h=> ?_,hG⟩;unfold Hof at h
  split at h
  · rename_i c' T fr e;simp at h;subst h;exact⟨T,fr,e⟩
  · cases h
def Ty.fits (N:Nat):(t:Ty)→t.Data→Prop
  | .int,x=>jx x
  | .bool,_=>True
  | .uint k,x=>k.min≤x∧x≤k.max
  | .slice t,l=>l.length≤N∧∀x∈l,t.fits N x
  | .unit,_=>True
  | .pair a b,d=>a.fits N d.1∧b.fits N d.2
  | .map k v,l=>l.length≤N∧∀x∈l,k.fits N x.1∧v.fits N x.2
  | .ptr t,d=>∀x,d=some x→t.fits N x
theorem Ty.fits_mono {N M:Nat} (h:N≤M):∀(t:Ty) (d:t.Data),t.fits N d→t.fits M d
  | .int,_,k=>k
  | .bool,_,k=>k
  | .uint _,_,k=>k
  | .unit,_,k=>k
  | .slice t,_,k=>⟨jG5 k.1 h,fun x hx=>t.fits_mono h x (k.2 x hx)⟩
  | .pair a b,_,k=>⟨a.fits_mono h _ k.1,b.fits_mono h _ k.2⟩
  | .map k v,_,q=>⟨jG5 q.1 h,fun x hx=>⟨k.fits_mono h _ (q.2 x hx).1,v.fits_mono h _ (q.2 x hx).2⟩⟩
  | .ptr t,_,k=>fun x hx=>t.fits_mono h x (k x hx)
def jFk (P:Program) (go:Nat→Ty→Bool):List Field→Nat→Ty→Bool
  |[],_,.unit=>true
  |f::fs,off,.pair a b=>Nat.beq f.offset off&&Nat.beq (P.cellsOf f.type) a.size&&go f.type a&&jFk P go fs (off+a.size) b
  |_,_,_=>false
def jDV (P:Program):Nat→Nat→Ty→Bool
  |0,_,_=>false
  |d+1,T,ty=>match ty,P.underlying T with
    | .int,some (.int .i64)=>true
    | .bool,some .bool=>true
    | .uint k,some (.int k')=>jbS k k'
    | .slice t,some (.slice e)=>Nat.beq (P.cellsOf e) t.size&&Nat.ble 1 t.size&&jDV P d e t
    | .pair a b,some (.struct fs)=>Nat.beq (P.cellsOf T) (Ty.pair a b).size&&jFk P (jDV P d) fs.toList 0 (.pair a b)
    |_,_=>false
section
variable {P:Program} {K:Type} {enc:TypeId×Value→K} {w:World}
theorem jFl (d:DataW K):1≤Rows.uptoBulk d:=by
  cases d with
  |lit l=>cases l<;>simp[Rows.uptoBulk]
  |_=>simp[Rows.uptoBulk]
theorem jso (l:List (DataW K)):l.length≤Rows.uptoBulkAll l:=by
  induction l with
  |nil=>simp[Rows.uptoBulkAll]
  |cons x r ih=>have:=jFl x;simp only[Rows.uptoBulkAll,jHr];omega
theorem jDX {d:DataW K} {l:List (DataW K)} (h:d∈l):Rows.uptoBulk d≤Rows.uptoBulkAll l:=by
  induction l with
  |nil=>cases h
  |cons x r ih=>
    simp only[Rows.uptoBulkAll];cases jGS.1 h with
    |inl e=>subst e;omega
    |inr e=>have:=ih e;omega
theorem jzU {α:Type} {Q:Nat→α→Prop}:∀(n:Nat),(∀i,i<n→∃y,Q i y)→∃l:List α,l.length=n∧∀i y,l[i]? =some y→Q i y
  |0,_=>⟨[],rfl,fun i y h=>by simp at h⟩
  |n+1,h=>by
    obtain⟨l,h1,h2⟩:=jzU n (fun i hi=>h i (by omega))
    obtain⟨y,hy⟩:=h n (by omega)
    refine⟨l++[y],by simp[h1],fun i z hz=> ?_⟩
    by_cases hi:i<l.length
    · rw[jG4 hi] at hz;exact h2 i z hz
    · rw[jG3 (by omega)] at hz
      have:i=n:=by
        by_cases e:i-l.length=0
        · omega
        · obtain⟨k,hk⟩:∃k,i-l.length=k+1:=⟨i-l.length-1,by omega⟩;rw[hk] at hz;simp at hz
      subst this;rw[←h1] at hz;simp at hz;subst hz;exact hy
def jFW (P:Program) (w:World) (enc:TypeId×Value→K) (T:Nat) (ty:Ty):Prop:=
  ∀(fuel:Nat) (cs:List Value) (x:DataW K×List MemPlace),DataW.trod enc P w 0 (fun _=>true) true fuel T cs=some x→Rows.uptoBulk x.1≤1048576→
    ∃d:ty.Data,ty.rd (Hof w) (fun i=>cs[i]?) d∧cs.length=ty.size∧ty.fits (Rows.uptoBulk x.1) d
theorem jFd {n:Int} (h:(Lit.int .i64 n).wf=true):jx n:=by
  simp[Lit.wf,IntKind.min,IntKind.max,IntKind.signed,IntKind.bits] at h;exact h
theorem jjH {go:Nat→Ty→Bool} (hgo:∀T ty,go T ty=true→jFW P w enc T ty) {n:Nat} {cs:List Value}:
    ∀(fs:List Field) (off:Nat) (ty:Ty) (xs:List (DataW K×List MemPlace)),jFk P go fs off ty=true→xs.length=fs.length→
      (∀(i:Nat) (f:Field),fs[i]? =some f→DataW.trod enc P w 0 (fun _=>true) true n f.type ((cs.drop f.offset).take (P.cellsOf f.type))=xs[i]?)→Rows.uptoBulkAll (xs.map (·.1))≤1048576→
      ∃d:ty.Data,ty.rd (Hof w) (fun i=>cs[off+i]?) d∧ty.fits (Rows.uptoBulkAll (xs.map (·.1))) d
  |[],off,ty,xs,h,hl,hf,hb=>by
    cases ty<;>simp[jFk] at h
    exact⟨(),trivial,trivial⟩
  |f::fs,off,ty,[],h,hl,hf,hb=>by simp at hl
  |f::fs,off,ty,x::xs,h,hl,hf,hb=>by
    cases ty<;>simp[jFk] at h
    rename_i a b
    obtain⟨⟨⟨h1,h2⟩,h3⟩,h4⟩:=h
    simp only[jHU,Rows.uptoBulkAll] at hb
    have h0:=hf 0 f (by simp)
    simp only[List.getElem?_cons_zero] at h0
    obtain⟨d,k1,k2,k3⟩:=hgo _ _ h3 _ _ _ h0 (by omega)
    obtain⟨d',g1,g2⟩:=jjH hgo fs (off+a.size) b xs h4 (by simpa using hl) (fun i f' hi=>by simpa using hf (i+1) f' (by simpa using hi)) (by omega)
    refine⟨(d,d'),⟨?_,?_⟩,?_,?_⟩
    · refine Ty.rd_congr a _ _ _ (fun i hi=> ?_) k1
      rw[jHd (by omega),jHw,h1]
    · refine Ty.rd_congr b _ _ _ (fun i hi=> ?_) g1
      rw[jHZ]
    · exact a.fits_mono (by simp[Rows.uptoBulkAll]) _ k3
    · exact b.fits_mono (by simp[Rows.uptoBulkAll]) _ g2
theorem jf9:∀(d T:Nat) (ty:Ty),jDV P d T ty=true→jFW P w enc T ty
  |0,_,_,h=>by cases h
  |d+1,T,ty,h=>by
    intro fuel cs x hx hbulk
    unfold jDV at h
    split at h
    · rename_i hu
      obtain⟨n,rfl,rfl,hw⟩:=DataW.trod_int hu hx
      exact⟨n,rfl,rfl,jFd hw⟩
    · rename_i hu
      obtain⟨b,rfl,rfl⟩:=DataW.trod_bool hu hx
      exact⟨b,rfl,rfl,trivial⟩
    · rename_i k k' hu
      obtain⟨n,rfl,rfl,hw⟩:=DataW.trod_int hu hx
      have:k=k':=by simpa[jbS] using h
      subst this
      refine⟨n,rfl,rfl,?_⟩
      simp[Lit.wf] at hw
      exact hw
    · rename_i t e hu
      simp only[jGT] at h
      obtain⟨⟨h1,h2⟩,h3⟩:=h
      have e1:=jGP h1
      have e2:=jG6 h2
      rcases DataW.trod_slice hu hx with⟨rfl,rfl⟩|⟨a,len,cap,gD,rest,n,_,rfl,rfl,hb,hl,hm,hlen,hel,_,_⟩
      · refine⟨[],⟨none,0,0,rfl,rfl,jGU _,by simp,fun _=>rfl,fun h=>absurd rfl h⟩,rfl,by simp,fun x hx=>by simp at hx⟩
      · simp only[Rows.uptoBulk] at hbulk
        have key:∀i,i<len→∃y:t.Data,(∃blk,Hof w a.block=some (.cells blk)∧a.spot=none∧t.rd (Hof w) (fun j=>blk[a.off+i*t.size+j]?) y)∧t.fits (Rows.uptoBulkAll (gD.map (·.1))) y:=by
          intro i hi;have h0:=hel i hi;have hxi:gD[i]? =some gD[i]:=jGY (by omega);rw[hxi,Option.bind_eq_some_iff] at h0;obtain⟨cl,c1,c2⟩:=h0;have hle:Rows.uptoBulk gD[i].1≤Rows.uptoBulkAll (gD.map (·.1)):=jDX (jHs.2 ⟨gD[i],List.getElem_mem _,rfl⟩);obtain⟨y,y1,y2,y3⟩:=jf9 d e t h3 _ _ _ c2 (by omega);unfold World.cells? at c1;rw[if_pos (jG2 _),e1] at c1;have hget:∀j,j<t.size→w.cell? ((a.add (i*t.size)).add j)=cl[j]? :=fun j hj=>by
            have:=mapM_some_get c1 j j (by simp[hj]);simpa using this
          have hclen:cl.length=t.size:=(by simpa using mapM_some_length c1);have c00:=hget 0 (by omega);have hne:cl[0]?≠none:=(by rw[jGY (by omega)];simp);rw[←c00] at hne;have hblk:∃blk T fr,w.heap[a.block]? =some (.cells blk T fr):=by
            unfold World.cell? at hne;have hbk:((a.add (i*t.size)).add 0).block=a.block:=by unfold Addr.add;simp;split<;>rfl
            rw[hbk] at hne
            split at hne
            · rename_i c T fr e;exact⟨c,T,fr,e⟩
            · exact absurd rfl hne
          obtain⟨blk,T',fr,hblk⟩:=hblk;have hspot0:((a.add (i*t.size)).add 0).spot=none:=by
            unfold World.cell? at hne;have hbk:((a.add (i*t.size)).add 0).block=a.block:=by unfold Addr.add;simp;split<;>rfl
            rw[hbk,hblk] at hne;simp only at hne;cases hs:((a.add (i*t.size)).add 0).spot with
            |none=>rfl
            |some s=>rw[hs] at hne;simp at hne
          have hH:Hof w a.block=some (.cells blk):=(by unfold Hof;rw[hblk]);refine⟨y,⟨blk,hH,?_,?_⟩,t.fits_mono hle _ y3⟩
          · --the first element shows that the address is plain
            have h00:=hel 0 (by omega);have hx0:gD[0]? =some gD[0]:=jGY (by omega);rw[hx0,Option.bind_eq_some_iff] at h00;obtain⟨cl0,d1,_⟩:=h00;unfold World.cells? at d1;rw[if_pos (jG2 _),e1] at d1;have g0:=mapM_some_get d1 0 0 (by rw[List.getElem?_range (by omega)]);have hl0:cl0.length=t.size:=(by simpa using mapM_some_length d1);rw[jGY (by omega)] at g0;simp only[Nat.zero_mul] at g0;have ea:(a.add 0).add 0=a:=(by unfold Addr.add;simp);rw[ea] at g0;unfold World.cell? at g0;rw[hblk] at g0;simp only at g0;cases hs:a.spot with
            |none=>rfl
            |some s=>rw[hs] at g0;simp at g0
          · refine Ty.rd_congr t _ _ _ (fun j hj=> ?_) y1;rw[←hget j hj];unfold World.cell?;have hbk:((a.add (i*t.size)).add j).block=a.block:=by unfold Addr.add;split<;>split<;>rfl
            have hoff:((a.add (i*t.size)).add j).off=a.off+i*t.size+j:=by
              unfold Addr.add;split<;>split<;>simp_all
            have hsp:((a.add (i*t.size)).add j).spot=none:=by
              have hs0:(a.add (i*t.size)).spot=none:=by
                have:(a.add (i*t.size)).add 0=a.add (i*t.size):=(by simp[Addr.add]);rw[this] at hspot0;exact hspot0
              unfold Addr.add at hs0⊢
              split<;>split<;>simp_all
            rw[hbk,hblk,hoff,hsp];simp
        obtain⟨l,l1,l2⟩:=jzU len key;refine⟨l,⟨some a,len,cap,rfl,l1.symm,hl,?_,(fun h=>by cases h),fun hne=> ?_⟩,rfl,?_,?_⟩
        · have:=jso (gD.map (·.1));simp at this;omega
        · have hz:0<l.length:=List.length_pos_iff.2 hne;obtain⟨blk,q1,q2,_⟩:=(l2 0 l[0] (jGY hz)).1;refine⟨a.block,a.off,blk,?_,q1,fun i y hy=> ?_⟩
          · rcases a with⟨b,o,s⟩;simp only at q2;subst q2;rfl
          · obtain⟨blk',q3,_,q4⟩:=(l2 i y hy).1;rw[q1] at q3;simp at q3;subst q3;exact q4
        · simp only[Rows.uptoBulk];have:=jso (gD.map (·.1));simp at this;omega
        · intro y hy;obtain⟨i,hi⟩:=jH5 hy;exact t.fits_mono (by simp only[Rows.uptoBulk];omega) _ (l2 i y hi).2
    · rename_i a b fs hu;simp only[jGT] at h;obtain⟨h1,h2⟩:=h;obtain⟨xs,n,_,rfl,hlen,hxl,hf⟩:=DataW.trod_struct hu hx;simp only[Rows.uptoBulk] at hbulk;obtain⟨y,y1,y2⟩:=jjH (fun T ty h=>jf9 d T ty h) (n:=n) (cs:=cs) fs.toList 0 (.pair a b) xs h2 (by simpa using hxl) (fun i f hi=>hf i f (by simpa using hi)) (by omega);refine⟨y,by simpa using y1,by rw[hlen];exact jGP h1,?_⟩;exact Ty.fits_mono (by simp only[Rows.uptoBulk];omega) (.pair a b) _ y2
    · cases h
end
end Go.X
namespace Go.X
open Go.RowKit (Below)
open Go.ChangeShapes Go.WideShapes Go.ChangeAt Go.RowKit
open Go.Proofs.YtnkahkkofmoipaaGreatDoor
def jqN (N:Nat):(ts:List Ty)→PD (ts.map Par.val)→Prop
  |[],_=>True
  |t::ts,d=>t.fits N d.1∧jqN N ts d.2
def jzW (ts:List Ty):jW:=⟨ts.map Par.val,[.bool],false,fun d=>[jqN 1048576 ts d],fun _=>(true,())⟩
def jjK (P:Program):List Nat→List Ty→Bool
  |[],[]=>true
  |T::Ts,t::ts=>jDV P 20 T t&&(P.readableRec T&&decide (T<P.types.size))&&jjK P Ts ts
  |_,_=>false
section
variable {P:Program} {K:Type} {enc:TypeId×Value→K} {W W':World}
theorem jhb (hl:laidOutB P=true) (hb:Below W.heap.size W W'):∀(Ts:List Nat) (ts:List Ty) (vs:List Value) (ds:List (DataW K)) (ps:List MemPlace),jjK P Ts ts=true→
    DataW.TrodAll enc P W 0 (fun _=>true) true Ts vs ds ps→(∀x∈ps,x.block<W.heap.size)→DataW.TrodAll enc P W' 0 (fun b=>decide (b<W.heap.size)) true Ts vs ds ps
  |[],ts,vs,ds,ps,_,h,_=>by
    obtain⟨rfl,rfl,rfl⟩:=trodAll_nil h
    exact trodAll_mk0
  |T::Ts,[],vs,ds,ps,hp,_,_=>by cases hp
  |T::Ts,t::ts,vs,ds,ps,hp,h,hlt=>by
    obtain⟨v,vs',d,ds',p,q,rfl,rfl,rfl,h1,h2⟩:=trodAll_cons h
    simp only[jjK,jGT] at hp
    obtain⟨⟨_,g1,g2⟩,g3⟩:=hp
    exact trodAll_cons_mk (Below.trod hl g1 (of_decide_eq_true g2) h1 hb (fun x hx=>hlt x (jGR _ hx)))
      (jhb hl hb Ts ts vs' ds' q g3 h2 (fun x hx=>hlt x (jGQ _ hx)))
theorem jET {T:Nat} {t:Ty} {r:Reach} {b0:Nat} {v:Value} (h:jDV P 20 T t=true) (hv:Value.okWide P W r b0 T v):kJ v=t.agg:=by
  unfold jDV at h
  split at h
  · rename_i hu;obtain⟨n,rfl⟩:=okWide_int hu hv;rfl
  · rename_i hu;obtain⟨n,rfl⟩:=okWide_bool hu hv;rfl
  · rename_i hu;obtain⟨n,rfl⟩:=okWide_int hu hv;rfl
  · rename_i hu;unfold Value.okWide at hv;rw[hu] at hv;simp only[Cell.okWide,hu] at hv;cases v with
    |agg vs=>simp[Cell.ok,hu] at hv
    |_=>rfl
  · rename_i hu;unfold Value.okWide at hv;rw[hu] at hv;obtain⟨cs,rfl,_⟩:=hv;rfl
  · cases h
theorem jC2 {r:Reach} {b0:Nat}:∀(Ts:List Nat) (ts:List Ty) (vs:List Value) (ds:List (DataW K)) (ps:List MemPlace),jjK P Ts ts=true→
    DataW.TrodAll enc P W 0 (fun _=>true) true Ts vs ds ps→(∀(j:Nat) t v,Ts[j]? =some t→vs[j]? =some v→Value.okWide P W r b0 t v)→Rows.uptoBulkAll ds≤1048576→
    ∃d:PD (ts.map Par.val),pvs P (Hof W) (ts.map Par.val) vs d∧jqN 1048576 ts d
  |[],ts,vs,ds,ps,hp,h,_,_=>by
    obtain⟨rfl,rfl,rfl⟩:=trodAll_nil h
    cases ts with
    |nil=>exact⟨(),rfl,trivial⟩
    |cons t ts=>cases hp
  |T::Ts,[],vs,ds,ps,hp,_,_,_=>by cases hp
  |T::Ts,t::ts,vs,ds,ps,hp,h,hv,hb=>by
    obtain⟨v,vs',d,ds',p,q,rfl,rfl,rfl,h1,h2⟩:=trodAll_cons h
    simp only[jjK,jGT] at hp
    obtain⟨⟨g0,_⟩,g3⟩:=hp
    simp only[Rows.uptoBulkAll] at hb
    obtain⟨fuel,hf⟩:=h1
    obtain⟨x,x1,x2,x3⟩:=jf9 20 T t g0 fuel _ _ hf (by simp only;omega)
    obtain⟨y,y1,y2⟩:=jC2 Ts ts vs' ds' q g3 h2 (fun j t v hj hvj=>hv (j+1) t v (by simpa using hj) (by simpa using hvj)) (by omega)
    refine⟨(x,y),⟨⟨jET g0 (hv 0 T v rfl rfl),by simpa using x2,?_⟩,y1⟩,Ty.fits_mono (by simp only;omega) t x x3,y2⟩
    refine Ty.rd_congr t _ _ _ (fun i _=> ?_) x1
    simp
theorem jfK:∀(Ts:List Nat) (ts:List Ty) (vs:List Value) (ds:List (DataW K)) (ps:List MemPlace),jjK P Ts ts=true→DataW.TrodAll enc P W 0 (fun _=>true) true Ts vs ds ps→ds.length=ts.length:=by
  intro Ts
  induction Ts with
  |nil=>intro ts vs ds ps hp h;obtain⟨rfl,rfl,rfl⟩:=trodAll_nil h;cases ts with|nil=>rfl|cons=>cases hp
  |cons T Ts ih=>intro ts vs ds ps hp h;cases ts with
    |nil=>cases hp
    |cons t ts=>
      obtain⟨v,vs',d,ds',p,q,rfl,rfl,rfl,h1,h2⟩:=trodAll_cons h;simp only[jjK,jGT] at hp;simp[ih ts vs' ds' q hp.2 h2]
theorem jC8 {f:Nat} {fn:Func} {s:ChangeSpec} {ts:List Ty} (hl:laidOutB P=true) (hp:jjK P fn.params.toList ts=true) (hr:fn.resultTypes= #[4]) (hB:P.underlying 4=some .bool)
    (hvars:s.vars=[]) (hs:∀(ds:List (DataW K)),ds.length=ts.length→s.fn K (ds++[])={results:=[.lit (.bool true)],args:=ds})
    (hf:ze P f (jzW ts)) (base:Nat) (args:Array Value) (ds gs:List (DataW K)) (before:List MemPlace)
    (hval:∀(j:Nat) t v,fn.params[j]? =some t→args[j]? =some v→Value.okWide P W .any base t v)
    (hW:DataW.Whole enc P fn.params.toList s.vars false W args.toList ds gs before) (hk:Rows.uptoSmall K (ds++gs)=true) (hG:jE0 (Hof W)):
    Calls P f args W fun e W'=>∃v,e= .returned v∧s.post enc P fn false true false false W args v W':=by
  have hW':=hW;obtain⟨p,q,hA,hV,rfl,hfz,hnd⟩:=hW;rw[hvars] at hV;obtain⟨rfl,rfl⟩:=trodVars_none hV;simp only[jHf] at hW' hk;have hbulk:Rows.uptoBulkAll ds≤1048576:=of_decide_eq_true hk;have hval':∀(j:Nat) t v,fn.params.toList[j]? =some t→args.toList[j]? =some v→Value.okWide P W .any base t v:=fun j t v h1 h2=>hval j t v (by simpa using h1) (by simpa using h2)
  obtain⟨d,d1,d2⟩:=jC2 fn.params.toList ts args.toList ds p hp hA hval' hbulk;have hc:=hf.calls (Hof W) W args.toList d (jCk W hG) d1 ⟨d2,trivial⟩;simp only[Array.toArray_toList] at hc;refine hc.mono fun e W' he=> ?_
  obtain⟨v,H',rfl,hE,hv⟩:=he;have hvb:v= .bool true:=zG hv;subst hvb;refine⟨_,rfl,ds,[],p,[],p,[],hW',?_,?_,?_,hE.below.frame _,fun h=>by cases h⟩
  · rw[hs ds ?_,hr]
    · exact trodAll_cons_mk (shut_bool hB _) trodAll_mk0
    · exact jfK _ _ _ _ _ hp hA
  · rw[hs ds ?_]
    · exact jhb hl hE.below _ ts _ _ _ hp hA (fun x hx=>by simpa using hW'.lt x hx)
    · exact jfK _ _ _ _ _ hp hA
  · rw[hvars,hs ds ?_]
    · rfl
    · exact jfK _ _ _ _ _ hp hA
end
end Go.X
namespace Go.X
open Go.Proofs
namespace U
def jGe (p:PeD):Prop:=(lv p).length≤20∧(zy p).length≤30
def jpX (c:CrD):Prop:=(ji c).length≤20∧(wi c).length≤20∧∀p∈ji c,jGe p
def jlW (d:DyD):Prop:=jpX (jo d)∧(jO d).length≤20∧(jv d).length≤20∧(jT d).length≤60∧∀r∈jO d,r.length≤20
def jtc (p:PeD):Bool:=decide (20<((lv p).length:Int))||decide (30<((zy p).length:Int))
def jd7 (c:CrD):Bool:=(decide (20<((ji c).length:Int))||decide (20<((wi c).length:Int)))||((ji c).any jtc||(jq c&&decide (5<((ji c).length:Int))))
def jtb (r:List SpD):Bool:=decide (20<(r.length:Int))
def jcC (d:DyD):Bool:=(((jd7 (jo d)||decide (20<((jO d).length:Int)))||decide (20<((jv d).length:Int)))||decide (60<((jT d).length:Int)))||(jO d).any jtb
def jAv (d:DyD):Bool:=jcC d||(decide (kM d=0)&&decide (12<((jT d).length:Int)))
def jGD:CrD:=(3,[([5,4,0],3,15,[],false,50,()),([0,5,3],3,15,[],true,40,()),([4,0,4],1,3,[7],false,30,()),([3,3,3],255,1,[],false,10,())],[(2,1,false,()),(4,2,false,()),(3,2,true,()),(5,1,false,())],())
def jBm:List JbD:=[(0,2,7,1,2,1,()),(0,2,3,0,0,1,()),(0,2,7,1,1,1,())]
def joh:DyD:=(jGD,[[(0,0,()),(10,20,())],[(10,25,()),(0,0,())]],[((0,2,3,0,0,1,()),0,60,120,()),((0,2,3,1,0,1,()),1,150,200,()),((0,2,7,1,2,1,()),0,230,300,())],10,140,
  [(1,5,1,0,3,()),(2,6,1,1,3,()),(3,4,1,2,2,()),(4,7,1,2,0,()),(5,8,1,2,1,()),(6,9,1,0,2,()),(7,10,2,0,2,())],())
end U
def jiA:jW:=⟨[.val tCr],[tCr],false,fun d=>[U.jpX d.1],fun d=>(d.1,())⟩
def jx8:Ann:=fun r=>match r with
  |3=>some fun σ=>{X:=Nat,sl:=fun i=>[(4,.dat .int (i:Int))],ob:=fun i=>[(3,some (.box 25 false ((bx σ 3).set 1 (.own (jbb 3 1) tPe)))),(jbb 3 1,some (.row 102 tPe false .yes ((U.ji (gb tCr σ 1)).take i)))],inv:=fun i=>i≤(U.ji (gb tCr σ 1)).length,mu:=fun i=>(U.ji (gb tCr σ 1)).length-i}
  |_=>none
abbrev q127_0 (d:CrD×Unit)(x:Nat):=(nth d.1.2.1 (x:Int).toNat)
def joJ:Prop:=∀(d:CrD×Unit),U.jpX d.1→(0+d.1.2.2.1.length)*24≤140737488355328∧(∃(x:Nat),(((0:Int)=(x:Int)∧True)∧(d.1.1=d.1.1∧True∧True∧True)∧List.take x (U.ji d.1)=[]∧True)∧x≤(U.ji d.1).length)∧∀(x:Nat),x≤(U.ji d.1).length→d.1.2.1.length<4611686018427387904→(decide ((x:Int)<(d.1.2.1.length:Int))=true→(0:Int)≤(x:Int)∧(x:Int)<(d.1.2.1.length:Int)∧(0+(q127_0 d x).1.length)*8≤140737488355328∧(0+(q127_0 d x).2.2.2.1.length)*8≤140737488355328∧((List.take x (U.ji d.1)).length+[([]++(q127_0 d x).1,(q127_0 d x).2.1,(q127_0 d x).2.2.1,[]++(q127_0 d x).2.2.2.1,(q127_0 d x).2.2.2.2)].length)*80≤140737488355328∧jx ((x:Int)+(1:Int))∧∃(x':Nat),(((x:Int)+(1:Int)=(x':Int)∧True)∧(d.1.1=d.1.1∧True∧True∧True)∧List.take x (U.ji d.1)++[([]++(q127_0 d x).1,(q127_0 d x).2.1,(q127_0 d x).2.2.1,[]++(q127_0 d x).2.2.2.1,(q127_0 d x).2.2.2.2)]=List.take x' (U.ji d.1)∧True)∧x'≤(U.ji d.1).length∧(U.ji d.1).length-x'<(U.ji d.1).length-x)∧(decide ((x:Int)<(d.1.2.1.length:Int))=false→((d.1.1,List.take x (U.ji d.1),[]++d.1.2.2.1,()),())=d)
theorem jpO:zq (ctx 42 [] []) (jx8) Tryz.f42 (jd Tryz.f42) jiA=joJ:=by kernel_rfl
def jix:jW:=⟨[.val tDy],[tDy],false,fun d=>[U.jlW d.1],fun d=>(d.1,())⟩
def jx5:Ann:=fun r=>match r with
  |5=>some fun σ=>{X:=Nat,sl:=fun i=>[(4,.dat .int (i:Int))],ob:=fun i=>[(3,some (.box 30 false ((bx σ 3).set 3 (.own (jbb 3 3) (.slice tSp))))),(jbb 3 3,some (.row 75 (.slice tSp) false .yes ((U.jO (gb tDy σ 1)).take i)))],inv:=fun i=>i≤(U.jO (gb tDy σ 1)).length,mu:=fun i=>(U.jO (gb tDy σ 1)).length-i}
  |_=>none
abbrev q128_0 (d:DyD×Unit):=(d.1.1.1=d.1.1.1∧d.1.1.2.1=d.1.1.2.1∧d.1.1.2.2.1=d.1.1.2.2.1∧True∧d.1.2.2.1=d.1.2.2.1∧d.1.2.2.2.1=d.1.2.2.2.1∧d.1.2.2.2.2.1=d.1.2.2.2.2.1∧d.1.2.2.2.2.2.1=d.1.2.2.2.2.2.1∧True)
def joF:Prop:=∀(d:DyD×Unit),U.jlW d.1→U.jpX d.1.1∧(∃(x:Nat),(((0:Int)=(x:Int)∧True)∧(q128_0 d)∧List.take x (U.jO d.1)=[]∧True)∧x≤(U.jO d.1).length)∧∀(x:Nat),x≤(U.jO d.1).length→d.1.2.1.length<4611686018427387904→(decide ((x:Int)<(d.1.2.1.length:Int))=true→(0:Int)≤(x:Int)∧(x:Int)<(d.1.2.1.length:Int)∧(0+(nth d.1.2.1 (x:Int).toNat).length)*16≤140737488355328∧((List.take x (U.jO d.1)).length+[[]++nth d.1.2.1 (x:Int).toNat].length)*24≤140737488355328∧jx ((x:Int)+(1:Int))∧∃(x':Nat),(((x:Int)+(1:Int)=(x':Int)∧True)∧(q128_0 d)∧List.take x (U.jO d.1)++[[]++nth d.1.2.1 (x:Int).toNat]=List.take x' (U.jO d.1)∧True)∧x'≤(U.jO d.1).length∧(U.jO d.1).length-x'<(U.jO d.1).length-x)∧(decide ((x:Int)<(d.1.2.1.length:Int))=false→(0+d.1.2.2.1.length)*72≤140737488355328∧(0+d.1.2.2.2.2.2.1.length)*40≤140737488355328∧((d.1.1,List.take x (U.jO d.1),[]++d.1.2.2.1,d.1.2.2.2.1,d.1.2.2.2.2.1,[]++d.1.2.2.2.2.2.1,()),())=d)
theorem jpK:zq (ctx 41 [(42,jiA)] []) (jx5) Tryz.f13 (jd Tryz.f13) jix=joF:=by kernel_rfl
def vJ:jW:=⟨[.val (.slice .int),.val (.slice .int)],[.bool],false,fun _=>[],fun d=>(decide (d.1=d.2.1),())⟩
def jon:Ann:=fun r=>match r with
  |4=>some fun σ=>{X:=Nat,sl:=fun i=>[(5,.dat .int (i:Int))],ob:=fun _=>[],inv:=fun i=>i≤(gd (.slice .int) σ 0).length∧∀j:Nat,j<i→nth (gd (.slice .int) σ 0) j=nth (gd (.slice .int) σ 1) j,mu:=fun i=>(gd (.slice .int) σ 0).length-i}
  |_=>none
def je7:Prop:=∀(d:List Int×List Int×Unit),d.1.length<4611686018427387904→d.2.1.length<4611686018427387904→(decide ((d.1.length:Int)≠(d.2.1.length:Int))=true→(false,())=(decide (d.1=d.2.1),()))∧(decide ((d.1.length:Int)≠(d.2.1.length:Int))=false→(∃(x:Nat),(((0:Int)=(x:Int)∧True)∧True)∧x≤d.1.length∧∀(j:Nat),j<x→nth d.1 j=nth d.2.1 j)∧∀(x:Nat),(x≤d.1.length∧∀(j:Nat),j<x→nth d.1 j=nth d.2.1 j)→d.1.length<4611686018427387904→(decide ((x:Int)<(d.1.length:Int))=true→(0:Int)≤(x:Int)∧(x:Int)<(d.1.length:Int)∧(0:Int)≤(x:Int)∧(x:Int)<(d.2.1.length:Int)∧(decide (nth d.1 (x:Int).toNat≠nth d.2.1 (x:Int).toNat)=true→(false,())=(decide (d.1=d.2.1),()))∧(decide (nth d.1 (x:Int).toNat≠nth d.2.1 (x:Int).toNat)=false→jx ((x:Int)+(1:Int))∧∃(x':Nat),(((x:Int)+(1:Int)=(x':Int)∧True)∧True)∧(x'≤d.1.length∧∀(j:Nat),j<x'→nth d.1 j=nth d.2.1 j)∧d.1.length-x'<d.1.length-x))∧(decide ((x:Int)<(d.1.length:Int))=false→(true,())=(decide (d.1=d.2.1),())))
theorem jik:zq (ctx 26 [] []) (jon) Tryz.f15 (jd Tryz.f15) vJ=je7:=by kernel_rfl
def jlR:jW:=⟨[.val tCr],[.bool],false,fun _=>[],fun d=>(U.jd7 d.1,())⟩
def jA4:Ann:=fun r=>match r with
  |4=>some fun σ=>{X:=Nat,sl:=fun i=>[(3,.dat .int (i:Int))],ob:=fun _=>[],inv:=fun i=>i≤(U.ji (gb tCr σ 1)).length∧∀j:Nat,j<i→U.jtc (nth (U.ji (gb tCr σ 1)) j)=false,mu:=fun i=>(U.ji (gb tCr σ 1)).length-i}
  |_=>none
abbrev q130_0 (d:CrD×Unit)(x:Nat):=((20:Int)<(↑(nth d.1.2.1 (x:Int).toNat).1.length:Int))
abbrev q130_2 (d:CrD×Unit)(x:Nat):=(decide (q130_0 d x)||decide ((30:Int)<(↑(nth d.1.2.1 (x:Int).toNat).2.2.2.1.length:Int)))
abbrev q130_3 (d:CrD×Unit):=(d.1.2.1.length:Int)
abbrev q130_1 (d:CrD×Unit):=(decide ((20:Int)<(q130_3 d))||decide ((20:Int)<(d.1.2.2.1.length:Int)))
def jrh:Prop:=∀(d:CrD×Unit),d.1.2.1.length<4611686018427387904→((!decide ((20:Int)<(q130_3 d)))=true→d.1.2.2.1.length<4611686018427387904)→((q130_1 d)=true→(true,())=(U.jd7 d.1,()))∧((q130_1 d)=false→(∃(x:Nat),(((0:Int)=(x:Int)∧True)∧True)∧x≤(U.ji d.1).length∧∀(j:Nat),j<x→U.jtc (nth (U.ji d.1) j)=false)∧∀(x:Nat),(x≤(U.ji d.1).length∧∀(j:Nat),j<x→U.jtc (nth (U.ji d.1) j)=false)→d.1.2.1.length<4611686018427387904→(decide ((x:Int)<(q130_3 d))=true→(0:Int)≤(x:Int)∧(x:Int)<(q130_3 d)∧((nth d.1.2.1 (x:Int).toNat).1.length<4611686018427387904→((!decide (q130_0 d x))=true→(0:Int)≤(x:Int))∧((!decide (q130_0 d x))=true→(x:Int)<(q130_3 d))∧(((!decide (q130_0 d x))=true→(nth d.1.2.1 (x:Int).toNat).2.2.2.1.length<4611686018427387904)→((q130_2 d x)=true→(true,())=(U.jd7 d.1,()))∧((q130_2 d x)=false→jx ((x:Int)+(1:Int))∧∃(x':Nat),(((x:Int)+(1:Int)=(x':Int)∧True)∧True)∧(x'≤(U.ji d.1).length∧∀(j:Nat),j<x'→U.jtc (nth (U.ji d.1) j)=false)∧(U.ji d.1).length-x'<(U.ji d.1).length-x))))∧(decide ((x:Int)<(q130_3 d))=false→(U.jq d.1=true→d.1.2.1.length<4611686018427387904)→(U.jq d.1&&decide ((5:Int)<(q130_3 d)),())=(U.jd7 d.1,())))
theorem jrg:zq (ctx 47 [(49,jad)] []) (jA4) Tryz.f70 (jd Tryz.f70) jlR=jrh:=by kernel_rfl
def jit:jW:=⟨[.val tDy],[.bool],false,fun _=>[],fun d=>(U.jcC d.1,())⟩
def jx3:Ann:=fun r=>match r with
  |4=>some fun σ=>{X:=Nat,sl:=fun i=>[(3,.dat .int (i:Int))],ob:=fun _=>[],inv:=fun i=>i≤(U.jO (gb tDy σ 1)).length∧∀j:Nat,j<i→U.jtb (nth (U.jO (gb tDy σ 1)) j)=false,mu:=fun i=>(U.jO (gb tDy σ 1)).length-i}
  |_=>none
abbrev q131_1 (d:DyD×Unit):=(d.1.2.1.length:Int)
abbrev q131_0 (d:DyD×Unit):=(U.jd7 d.1.1||decide ((20:Int)<(q131_1 d))||decide ((20:Int)<(d.1.2.2.1.length:Int))||decide ((60:Int)<(d.1.2.2.2.2.2.1.length:Int)))
def joy:Prop:=∀(d:DyD×Unit),((!U.jd7 d.1.1)=true→d.1.2.1.length<4611686018427387904)→((!(U.jd7 d.1.1||decide ((20:Int)<(q131_1 d))))=true→d.1.2.2.1.length<4611686018427387904)→((!(U.jd7 d.1.1||decide ((20:Int)<(q131_1 d))||decide ((20:Int)<(d.1.2.2.1.length:Int))))=true→d.1.2.2.2.2.2.1.length<4611686018427387904)→((q131_0 d)=true→(true,())=(U.jcC d.1,()))∧((q131_0 d)=false→(∃(x:Nat),(((0:Int)=(x:Int)∧True)∧True)∧x≤(U.jO d.1).length∧∀(j:Nat),j<x→U.jtb (nth (U.jO d.1) j)=false)∧∀(x:Nat),(x≤(U.jO d.1).length∧∀(j:Nat),j<x→U.jtb (nth (U.jO d.1) j)=false)→d.1.2.1.length<4611686018427387904→(decide ((x:Int)<(q131_1 d))=true→(0:Int)≤(x:Int)∧(x:Int)<(q131_1 d)∧((nth d.1.2.1 (x:Int).toNat).length<4611686018427387904→(decide ((20:Int)<(↑(nth d.1.2.1 (x:Int).toNat).length:Int))=true→(true,())=(U.jcC d.1,()))∧(decide ((20:Int)<(↑(nth d.1.2.1 (x:Int).toNat).length:Int))=false→jx ((x:Int)+(1:Int))∧∃(x':Nat),(((x:Int)+(1:Int)=(x':Int)∧True)∧True)∧(x'≤(U.jO d.1).length∧∀(j:Nat),j<x'→U.jtb (nth (U.jO d.1) j)=false)∧(U.jO d.1).length-x'<(U.jO d.1).length-x)))∧(decide ((x:Int)<(q131_1 d))=false→(false,())=(U.jcC d.1,())))
theorem jpD:zq (ctx 39 [(70,jlR)] []) (jx3) Tryz.f30 (jd Tryz.f30) jit=joy:=by kernel_rfl
def jlQ:jW:=⟨[.val tDy],[.bool],false,fun _=>[],fun d=>(U.jAv d.1,())⟩
def jrf:Prop:=∀(d:DyD×Unit),((!U.jcC d.1)=true→(U.jv d.1).length≤1000000)∧(((!U.jcC d.1&&decide (U.kM d.1=(0:Int)))=true→d.1.2.2.2.2.2.1.length<4611686018427387904)→(U.jcC d.1||decide (U.kM d.1=(0:Int))&&decide ((12:Int)<(d.1.2.2.2.2.2.1.length:Int)),())=(U.jAv d.1,()))
theorem jre:zq (ctx 16 [(30,jit),(17,vu)] []) (fun _=>none) Tryz.f9 (jd Tryz.f9) jlQ=jrf:=by kernel_rfl
def jis:jW:=⟨[.val .int,.val .int],[tSp],false,fun _=>[],fun d=>((d.1,d.2.1,()),())⟩
def jox:Prop:=∀(d:Int×Int×Unit),(d,())=(d,())
theorem jpC:zq (ctx 8 [] []) (fun _=>none) Tryz.f78 (jd Tryz.f78) jis=jox:=by kernel_rfl
def jbJ:jW:=⟨[],[tCr,.slice tJb],false,fun _=>[],fun _=>(U.jGD,U.jBm,())⟩
def jgV:Prop:=∀(d:Unit),(((3:Int),[([(5:Int),(4:Int),(0:Int)],(3:Int),(15:Int),[],false,(50:Int),()),([(0:Int),(5:Int),(3:Int)],(3:Int),(15:Int),[],true,(40:Int),()),([(4:Int),(0:Int),(4:Int)],(1:Int),(3:Int),[(7:Int)],false,(30:Int),()),([(3:Int),(3:Int),(3:Int)],(255:Int),(1:Int),[],false,(10:Int),())],[((2:Int),(1:Int),false,()),((4:Int),(2:Int),false,()),((3:Int),(2:Int),true,()),((5:Int),(1:Int),false,())],()),[((0:Int),(2:Int),(7:Int),(1:Int),(2:Int),(1:Int),()),((0:Int),(2:Int),(3:Int),(0:Int),(0:Int),(1:Int),()),((0:Int),(2:Int),(7:Int),(1:Int),(1:Int),(1:Int),())],())=(U.jGD,U.jBm,())
theorem jj6:zq (ctx 22 [] []) (fun _=>none) Tryz.f77 (jd Tryz.f77) jbJ=jgV:=by kernel_rfl
def jbI:jW:=⟨[],[tDy],false,fun _=>[],fun _=>(U.joh,())⟩
abbrev q135_0:=(nth U.jBm (Int.toNat (1:Int)))
def jgU:Prop:=∀(d:Unit),(0:Int)≤(1:Int)∧(1:Int)<(U.jBm.length:Int)∧(0:Int)≤(1:Int)∧(1:Int)<(U.jBm.length:Int)∧(0:Int)≤(0:Int)∧(0:Int)<(U.jBm.length:Int)∧((U.jGD,[[((0:Int),(0:Int),()),((10:Int),(20:Int),())],[((10:Int),(25:Int),()),((0:Int),(0:Int),())]],[(nth U.jBm (Int.toNat (1:Int)),(0:Int),(60:Int),(120:Int),()),((q135_0.1,q135_0.2.1,q135_0.2.2.1,(1:Int),q135_0.2.2.2.2),(1:Int),(150:Int),(200:Int),()),(nth U.jBm (Int.toNat (0:Int)),(0:Int),(230:Int),(300:Int),())],(10:Int),(140:Int),[((1:Int),(5:Int),(1:Int),(0:Int),(3:Int),()),((2:Int),(6:Int),(1:Int),(1:Int),(3:Int),()),((3:Int),(4:Int),(1:Int),(2:Int),(2:Int),()),((4:Int),(7:Int),(1:Int),(2:Int),(0:Int),()),((5:Int),(8:Int),(1:Int),(2:Int),(1:Int),()),((6:Int),(9:Int),(1:Int),(0:Int),(2:Int),()),((7:Int),(10:Int),(2:Int),(0:Int),(2:Int),())],()),())=(U.joh,())
theorem jj5:zq (ctx 40 [(77,jbJ),(78,jis)] []) (fun _=>none) Tryz.f38 (jd Tryz.f38) jbI=jgU:=by kernel_rfl
def jfN:jW:=⟨[],[.bool],false,fun _=>[],fun _=>(true,())⟩
def jk7:Prop:=∀(d:Unit),(U.jT U.joh).length≤100000∧(U.jT U.joh).length≤100000∧(U.jT U.joh).length≤100000∧(decide (U.jI U.joh=(0:Int))&&decide (U.jI U.joh=(0:Int))&&decide (U.jga U.joh=(0:Int))&&decide (U.jir U.joh=[(8:Int),(8:Int),(3:Int)])&&decide (U.jiG U.joh=[(3:Int)])&&decide (U.jkk U.joh=[(8:Int),(8:Int),(3:Int)])&&decide (U.jkj U.joh=(110:Int)),())=(true,())
theorem jny:zq (ctx 55 [(38,jbI),(15,vJ),(18,jel),(20,jab),(12,jlT)] []) (fun _=>none) Tryz.f11 (jd Tryz.f11) jfN=jk7:=by kernel_rfl
def gZ:jW:=jzW [tDy]
abbrev q137_0:=(Ty.int.pair (Ty.int.pair Ty.unit))
abbrev q137_1:=(Ty.int.pair (Ty.int.pair (Ty.int.pair q137_0)))
def gN:Prop:=∀(d:DyD×Unit),jqN 1048576 [(Ty.int.pair ((Ty.int.slice.pair (Ty.int.pair (Ty.int.pair (Ty.int.slice.pair (Ty.bool.pair (Ty.int.pair Ty.unit)))))).slice.pair ((Ty.int.pair (Ty.int.pair (Ty.bool.pair Ty.unit))).slice.pair Ty.unit))).pair (q137_0.slice.slice.pair (((Ty.int.pair q137_1).pair (Ty.int.pair q137_0)).slice.pair (Ty.int.pair (Ty.int.pair (q137_1.slice.pair Ty.unit)))))] d→(U.jAv d.1=true→(true,())=(true,()))∧(U.jAv d.1=false→U.jlW d.1∧(U.jT d.1).length≤100000∧(U.jv d.1).length≤1000000∧(decide (U.jI d.1≠U.kM d.1)=true→(false,())=(true,()))∧(decide (U.jI d.1≠U.kM d.1)=false→(U.jT d.1).length≤100000∧(U.jv d.1).length≤1000000∧(U.jT d.1).length≤100000∧(U.jv d.1).length≤1000000∧(U.jT d.1).length≤100000∧(U.jv d.1).length≤1000000∧(decide (U.jir d.1=U.vb d.1)&&decide (U.jI d.1=U.kM d.1)&&decide (U.jiG d.1=U.jBE d.1)&&decide (U.jI d.1=U.kM d.1)&&decide (U.jnT d.1=U.jBh d.1)&&decide (U.jI d.1=U.kM d.1)&&true,())=(true,())))
theorem jc2:zq (ctx 87 [(9,jlQ),(11,jfN),(13,jix),(16,jem),(17,vu),(18,jel),(19,jbL),(20,jab),(21,jbM),(22,jfQ),(23,jdw),(15,vJ)] []) (fun _=>none) Tryz.f4 (jd Tryz.f4) gZ=gN:=by kernel_rfl
end Go.X
namespace Go.X
open Go.Proofs
theorem jAm:joJ:=by
  unfold joJ q127_0;rintro⟨c,⟨⟩⟩ h0;obtain⟨hp,hlw,hall⟩:U.jpX c:=h0;refine⟨by show(0+(U.wi c).length)*24≤140737488355328;omega,⟨0,⟨⟨rfl,trivial⟩,⟨rfl,trivial,trivial,trivial⟩,rfl,trivial⟩,jG2 _⟩,fun x hx _=>⟨fun h=> ?_,fun h=> ?_⟩⟩
  · have h:(x:Int)<((U.ji c).length:Int):=of_decide_eq_true h;have hs:=L.take_succ (l:=U.ji c) (i:=x) (by omega);obtain⟨s1,s2⟩:=hall _ (L.mem_nth (l:=U.ji c) (i:=x) (by omega));have hlen:((U.ji c).take x).length≤20:=(by rw[jHj];omega);refine⟨jHn _,h,by show(0+(U.lv (nth (U.ji c) x)).length)*8≤140737488355328;omega,by show(0+(U.zy (nth (U.ji c) x)).length)*8≤140737488355328;omega,by show(((U.ji c).take x).length+1)*80≤140737488355328;omega,L.in64 (by omega) (by omega),x+1,⟨⟨by simp,trivial⟩,⟨rfl,trivial,trivial,trivial⟩,hs.symm,trivial⟩,by show x+1≤(U.ji c).length;omega,by show(U.ji c).length-(x+1)<(U.ji c).length-x;omega⟩
  · have h:¬(x:Int)<((U.ji c).length:Int):=of_decide_eq_false h;have hx:x≤(U.ji c).length:=hx;have hxl:x=(U.ji c).length:=(by omega);subst hxl;have e:(U.ji c).take (U.ji c).length=U.ji c:=jHS;show((c.1,(U.ji c).take (U.ji c).length,c.2.2.1,()),())=(c,());rw[e];rfl
theorem jw7:ze PR 42 jiA:=zv (jpO.mpr jAm) Tryz.func42 (by kernel_rfl) (by kernel_rfl) (by kernel_rfl) (by kernel_rfl) trivial trivial
theorem jAi:joF:=by
  unfold joF q128_0;rintro⟨d,⟨⟩⟩ h0;obtain⟨hc,htr,hbk,hsh,hrow⟩:U.jlW d:=h0;refine⟨hc,⟨0,⟨⟨rfl,trivial⟩,⟨rfl,rfl,rfl,trivial,rfl,rfl,rfl,rfl,trivial⟩,rfl,trivial⟩,jG2 _⟩,fun x hx _=>⟨fun h=> ?_,fun h=> ?_⟩⟩
  · have h:(x:Int)<((U.jO d).length:Int):=of_decide_eq_true h;have hs:=L.take_succ (l:=U.jO d) (i:=x) (by omega);have hr:=hrow _ (L.mem_nth (l:=U.jO d) (i:=x) (by omega));have hlen:((U.jO d).take x).length≤20:=(by rw[jHj];omega);refine⟨jHn _,h,by show(0+(nth (U.jO d) x).length)*16≤140737488355328;omega,by show(((U.jO d).take x).length+1)*24≤140737488355328;omega,L.in64 (by omega) (by omega),x+1,⟨⟨by simp,trivial⟩,⟨rfl,rfl,rfl,trivial,rfl,rfl,rfl,rfl,trivial⟩,hs.symm,trivial⟩,by show x+1≤(U.jO d).length;omega,by show(U.jO d).length-(x+1)<(U.jO d).length-x;omega⟩
  · have h:¬(x:Int)<((U.jO d).length:Int):=of_decide_eq_false h;have hx:x≤(U.jO d).length:=hx;have hxl:x=(U.jO d).length:=(by omega);subst hxl;have e:(U.jO d).take (U.jO d).length=U.jO d:=jHS;refine⟨by show(0+(U.jv d).length)*72≤140737488355328;omega,by show(0+(U.jT d).length)*40≤140737488355328;omega,?_⟩;show((U.jo d,(U.jO d).take (U.jO d).length,U.jv d,U.jki d,U.jB2 d,U.jT d,()),())=(d,());rw[e];rfl
theorem jw4:ze PR 13 jix:=zv (jpK.mpr jAi) Tryz.func13 (by kernel_rfl) (by kernel_rfl) (by kernel_rfl) (by kernel_rfl) ⟨fun _=>jw7,trivial⟩ trivial
theorem jqz:je7:=by
  rintro⟨a,b,⟨⟩⟩ _ hb;refine⟨fun h=> ?_,fun h=>⟨⟨0,⟨⟨rfl,trivial⟩,trivial⟩,jG2 _,fun j hj=>by omega⟩,fun x hx hf=>⟨fun h2=>⟨jHn _,of_decide_eq_true h2,jHn _,?_,fun h3=> ?_,fun h3=> ?_⟩,fun h2=> ?_⟩⟩⟩
  · have h:(a.length:Int)≠(b.length:Int):=of_decide_eq_true h;have:¬a=b:=fun e=>h (by rw[e])
    show(false,())=(decide (a=b),());rw[decide_eq_false this]
  · have h:(a.length:Int)=(b.length:Int):=Classical.not_not.1 (of_decide_eq_false h);have h2:(x:Int)<(a.length:Int):=of_decide_eq_true h2;show(x:Int)<(b.length:Int);omega
  · have h3:nth a x≠nth b x:=of_decide_eq_true h3;have:¬a=b:=fun e=>h3 (by rw[e])
    show(false,())=(decide (a=b),());rw[decide_eq_false this]
  · have h2:(x:Int)<(a.length:Int):=of_decide_eq_true h2;have h3:nth a x=nth b x:=Classical.not_not.1 (of_decide_eq_false h3);have hf:a.length<4611686018427387904:=hf;refine⟨L.in64 (by omega) (by omega),x+1,⟨⟨by simp,trivial⟩,trivial⟩,⟨by show x+1≤a.length;omega,fun j hj=> ?_⟩,by show a.length-(x+1)<a.length-x;omega⟩;by_cases e:j=x
    · subst e;exact h3
    · exact hx.2 j (by omega)
  · have h:(a.length:Int)=(b.length:Int):=Classical.not_not.1 (of_decide_eq_false h);have h2:¬(x:Int)<(a.length:Int):=of_decide_eq_false h2;have e:a=b:=L.ext_nth (by omega) fun i hi=>hx.2 i (by omega)
    show(true,())=(decide (a=b),());rw[decide_eq_true e]
theorem jfi:ze PR 15 vJ:=zv (jik.mpr jqz) Tryz.func15 (by kernel_rfl) (by kernel_rfl) (by kernel_rfl) (by kernel_rfl) trivial trivial
theorem jCd:jrh:=by
  unfold jrh q130_1 q130_3 q130_2 q130_0;rintro⟨c,⟨⟩⟩ _ _;refine⟨fun h=> ?_,fun h=>⟨⟨0,⟨⟨rfl,trivial⟩,trivial⟩,jG2 _,fun j hj=>by omega⟩,fun x hx hf=>⟨fun h2=>⟨jHn _,of_decide_eq_true h2,fun _=>⟨fun _=>jHn _,fun _=>of_decide_eq_true h2,fun _=>⟨fun h3=> ?_,fun h3=> ?_⟩⟩⟩,fun h2 _=> ?_⟩⟩⟩
  · have h:(decide (20<((U.ji c).length:Int))||decide (20<((U.wi c).length:Int)))=true:=h;show(true,())=(U.jd7 c,());unfold U.jd7;rw[h];rfl
  · have h3:U.jtc (nth (U.ji c) x)=true:=h3;have h2:(x:Int)<((U.ji c).length:Int):=of_decide_eq_true h2;have:(U.ji c).any U.jtc=true:=jHz.2 ⟨_,L.mem_nth (l:=U.ji c) (i:=x) (by omega),h3⟩;show(true,())=(U.jd7 c,());unfold U.jd7;rw[this,Bool.true_or,Bool.or_true]
  · have h3:U.jtc (nth (U.ji c) x)=false:=h3;have h2:(x:Int)<((U.ji c).length:Int):=of_decide_eq_true h2;have hf:(U.ji c).length<4611686018427387904:=hf;refine⟨L.in64 (by omega) (by omega),x+1,⟨⟨by simp,trivial⟩,trivial⟩,⟨by show x+1≤(U.ji c).length;omega,fun j hj=> ?_⟩,by show(U.ji c).length-(x+1)<(U.ji c).length-x;omega⟩;by_cases e:j=x
    · subst e;exact h3
    · exact hx.2 j (by omega)
  · have h:(decide (20<((U.ji c).length:Int))||decide (20<((U.wi c).length:Int)))=false:=h;have h2:¬(x:Int)<((U.ji c).length:Int):=of_decide_eq_false h2;have:(U.ji c).any U.jtc=false:=jHC.2 fun p hp=>by
      obtain⟨i,hi,rfl⟩:=L.mem_iff.1 hp;rw[hx.2 i (by omega)];simp
    show(U.jq c&&decide (5<((U.ji c).length:Int)),())=(U.jd7 c,());unfold U.jd7;rw[h,this,Bool.false_or,Bool.false_or]
theorem jzu:ze PR 70 jlR:=zv (jrg.mpr jCd) Tryz.func70 (by kernel_rfl) (by kernel_rfl) (by kernel_rfl) (by kernel_rfl) ⟨fun _=>jjO,trivial⟩ trivial
theorem jAb:joy:=by
  unfold joy q131_0 q131_1;rintro⟨d,⟨⟩⟩ _ _ _;refine⟨fun h=> ?_,fun h=>⟨⟨0,⟨⟨rfl,trivial⟩,trivial⟩,jG2 _,fun j hj=>by omega⟩,fun x hx hf=>⟨fun h2=>⟨jHn _,of_decide_eq_true h2,fun _=>⟨fun h3=> ?_,fun h3=> ?_⟩⟩,fun h2=> ?_⟩⟩⟩
  · have h:(((U.jd7 (U.jo d)||decide (20<((U.jO d).length:Int)))||decide (20<((U.jv d).length:Int)))||decide (60<((U.jT d).length:Int)))=true:=h;show(true,())=(U.jcC d,());unfold U.jcC;rw[h];rfl
  · have h3:U.jtb (nth (U.jO d) x)=true:=h3;have h2:(x:Int)<((U.jO d).length:Int):=of_decide_eq_true h2;have:(U.jO d).any U.jtb=true:=jHz.2 ⟨_,L.mem_nth (l:=U.jO d) (i:=x) (by omega),h3⟩;show(true,())=(U.jcC d,());unfold U.jcC;rw[this,Bool.or_true]
  · have h3:U.jtb (nth (U.jO d) x)=false:=h3;have h2:(x:Int)<((U.jO d).length:Int):=of_decide_eq_true h2;have hf:(U.jO d).length<4611686018427387904:=hf;refine⟨L.in64 (by omega) (by omega),x+1,⟨⟨by simp,trivial⟩,trivial⟩,⟨by show x+1≤(U.jO d).length;omega,fun j hj=> ?_⟩,by show(U.jO d).length-(x+1)<(U.jO d).length-x;omega⟩;by_cases e:j=x
    · subst e;exact h3
    · exact hx.2 j (by omega)
  · have h:(((U.jd7 (U.jo d)||decide (20<((U.jO d).length:Int)))||decide (20<((U.jv d).length:Int)))||decide (60<((U.jT d).length:Int)))=false:=h;have h2:¬(x:Int)<((U.jO d).length:Int):=of_decide_eq_false h2;have:(U.jO d).any U.jtb=false:=jHC.2 fun p hp=>by
      obtain⟨i,hi,rfl⟩:=L.mem_iff.1 hp;rw[hx.2 i (by omega)];simp
    show(false,())=(U.jcC d,());unfold U.jcC;rw[h,this];rfl
theorem jw0:ze PR 30 jit:=zv (jpD.mpr jAb) Tryz.func30 (by kernel_rfl) (by kernel_rfl) (by kernel_rfl) (by kernel_rfl) ⟨fun _=>jzu,trivial⟩ trivial
theorem jAt {c:CrD} (h:U.jd7 c=false):U.jpX c:=by
  unfold U.jd7 at h;rw[jHl,jHl,jHl,decide_eq_false_iff_not] at h;have h2:=of_decide_eq_false h.1.2;refine⟨by have:=h.1.1;omega,by omega,fun p hp=> ?_⟩;have:=jHC.1 h.2.1 p hp;unfold U.jtc at this;rw[jHY,decide_eq_true_iff,decide_eq_true_iff] at this;unfold U.jGe;omega
theorem jo5 {d:DyD} (h:U.jcC d=false):U.jlW d:=by
  unfold U.jcC at h;rw[jHl,jHl,jHl,jHl] at h;obtain⟨⟨⟨⟨h1,h2⟩,h3⟩,h4⟩,h5⟩:=h;have h2:=of_decide_eq_false h2;have h3:=of_decide_eq_false h3;have h4:=of_decide_eq_false h4;refine⟨jAt h1,by omega,by omega,by omega,fun r hr=> ?_⟩;have:=jHC.1 h5 r hr;unfold U.jtb at this;rw[decide_eq_true_iff] at this;omega
theorem jCc:jrf:=by
  rintro⟨d,⟨⟩⟩;refine⟨fun h=> ?_,fun _=>rfl⟩;have h:(!U.jcC d)=true:=h;rw[jHt] at h;have:=(jo5 h).2.2.1;show(U.jv d).length≤1000000;omega
theorem jzt:ze PR 9 jlQ:=zv (jre.mpr jCc) Tryz.func9 (by kernel_rfl) (by kernel_rfl) (by kernel_rfl) (by kernel_rfl) ⟨fun _=>jw0,fun _=>jb1,trivial⟩ trivial
theorem jAa:jox:=fun _=>rfl
theorem jwZ:ze PR 78 jis:=zv (jpC.mpr jAa) Tryz.func78 (by kernel_rfl) (by kernel_rfl) (by kernel_rfl) (by kernel_rfl) trivial trivial
theorem jsu:jgV:=fun _=>rfl
theorem jqc:ze PR 77 jbJ:=zv (jj6.mpr jsu) Tryz.func77 (by kernel_rfl) (by kernel_rfl) (by kernel_rfl) (by kernel_rfl) trivial trivial
theorem jst:jgU:=by
  unfold jgU q135_0;intro _;refine⟨by decide,by decide,by decide,by decide,by decide,by decide,rfl⟩
theorem jqb:ze PR 38 jbI:=zv (jj5.mpr jst) Tryz.func38 (by kernel_rfl) (by kernel_rfl) (by kernel_rfl) (by kernel_rfl) ⟨fun _=>jqc,fun _=>jwZ,trivial⟩ trivial
theorem jAy:U.kM U.joh=0:=by decide+kernel
theorem jFJ:(U.kW U.joh).1=[8,8,3]:=by decide+kernel
theorem jFK:U.zU (U.kW U.joh).2 100=[3]:=by decide+kernel
theorem jAx:(U.jGh U.joh).2=([8,8,3],110,true):=by decide+kernel
theorem jxj:jk7:=by
  intro _;refine⟨by decide,by decide,by decide,?_⟩;have e0:U.jI U.joh=0:=(jbr _).trans jAy;have e1:U.jir U.joh=[8,8,3]:=(by rw[jyq,if_pos jAy];exact jFJ);have e2:U.jiG U.joh=[3]:=(by rw[jy5,if_pos jAy];exact jFK);have e3:U.jga U.joh=0:=(by unfold U.jga;rw[if_pos e0,jAx,if_pos rfl]);have e4:U.jkk U.joh=[8,8,3]:=(by unfold U.jkk;rw[if_pos e3,jAx]);have e5:U.jkj U.joh=110:=(by unfold U.jkj;rw[if_pos e3,jAx]);rw[e0,e1,e2,e3,e4,e5];rfl
theorem juc:ze PR 11 jfN:=zv (jny.mpr jxj) Tryz.func11 (by kernel_rfl) (by kernel_rfl) (by kernel_rfl) (by kernel_rfl) ⟨fun _=>jqb,fun _=>jfi,fun _=>joW,fun _=>jjM,fun _=>jzw,trivial⟩ trivial
theorem jCq {d:DyD} (h:U.jAv d=false):U.jlW d:=by
  unfold U.jAv at h;rw[jHl] at h;exact jo5 h.1
theorem ji0:gN:=by
  unfold gN q137_1 q137_0;rintro⟨d,⟨⟩⟩ _;refine⟨fun _=>rfl,fun h=> ?_⟩;have hs:=jCq (d:=d) h;have l1:(U.jT d).length≤100000:=(by have:=hs.2.2.2.1;omega);have l2:(U.jv d).length≤1000000:=(by have:=hs.2.2.1;omega);refine⟨hs,l1,l2,fun h2=> ?_,fun h2=>⟨l1,l2,l1,l2,l1,l2,?_⟩⟩
  · have h2:U.jI d≠U.kM d:=of_decide_eq_true h2;exact absurd (jbr d) h2
  · have e1:U.jir d=U.vb d:=jyq d;have e2:U.jiG d=U.jBE d:=jy5 d;show(decide (U.jir d=U.vb d)&&decide (U.jI d=U.kM d)&&decide (U.jiG d=U.jBE d)&&decide (U.jI d=U.kM d)&&decide (U.jnT d=U.jBh d)&&decide (U.jI d=U.kM d)&&true,())=(true,());rw[decide_eq_true e1,decide_eq_true e2,decide_eq_true (jDL d),decide_eq_true (jbr d)];rfl
theorem jv0:ze PR 4 gZ:=zv (jc2.mpr ji0) Tryz.func4 (by kernel_rfl) (by kernel_rfl) (by kernel_rfl) (by kernel_rfl) ⟨fun _=>jzt,fun _=>juc,fun _=>jw4,fun _=>joX,fun _=>jb1,fun _=>joW,fun _=>jmk,fun _=>jjM,fun _=>jqf,fun _=>juf,fun _=>jsd,fun _=>jfi,trivial⟩ trivial
end Go.X
namespace Go.X
open Go.Proofs Go.Proofs.YtnkahkkofmoipaaGreatDoor
noncomputable def jB8:Array Field:=match Tryz.prog.underlying 60 with|some (.struct fs)=>fs|_=> #[]
theorem jFF:Tryz.prog.globalNamed "handshape/rosters.some"=some 0:=by kernel_rfl
theorem jFE:(Tryz.prog.globals[0]?).map (·.type)=some 60:=by kernel_rfl
theorem jGJ:Tryz.prog.underlying 60=some (.struct jB8):=by kernel_rfl
theorem jGK:Tryz.prog.underlying 3=some (.int .i64):=by kernel_rfl
theorem jGL:Tryz.prog.cellsOf 3=1:=by kernel_rfl
noncomputable def jaJ (i:Nat):Bool:=match jB8[i]? with|some f=>Nat.beq f.type 3&&Nat.beq f.offset i|none=>false
theorem fields:(jaJ 0&&jaJ 1&&jaJ 2&&jaJ 3&&jaJ 4&&jaJ 5)=true:=by kernel_rfl
theorem jCp {i:Nat} (h:jaJ i=true):∃f,jB8[i]? =some f∧f.type=3∧f.offset=i:=by
  unfold jaJ at h
  split at h
  · rename_i f hf;rw[jGT] at h;exact⟨f,hf,jGP h.1,jGP h.2⟩
  · cases h
theorem jB7 {H:Type} {enc:TypeId×Value→H} {w:World} {base:Nat} {sp:Nat→Bool} {held:Bool} {n:Nat} {cs:List Value} {xs:List (DataW H×List MemPlace)} {zs:List Int} (hx:xs.map (·.1)=zs.map fun z=>(DataW.lit (.int .i64 z):DataW H))
    (hf:∀(i:Nat) (f:Field),jB8[i]? =some f→DataW.trod enc Tryz.prog w base sp held n f.type ((cs.drop f.offset).take (Tryz.prog.cellsOf f.type))=xs[i]?) {i:Nat} {z:Int} (hi:jaJ i=true) (hz:zs[i]? =some z):cs[i]? =some (.int .i64 z):=by
  obtain⟨f,h1,h2,h3⟩:=jCp hi;have h4:=hf i f h1;rw[h2,h3,jGL] at h4;have h5:(xs.map (·.1))[i]? =some (DataW.lit (.int .i64 z):DataW H):=(by rw[hx,jH6,hz];rfl);rw[jH6] at h5;obtain⟨y,hy,e⟩:=jIh.1 h5;rw[hy] at h4;obtain⟨m,hm,rfl,_⟩:=DataW.trod_int jGK h4;have e:m=z:=by
    have e:(DataW.lit (.int .i64 m):DataW H)=DataW.lit (.int .i64 z):=e;simpa only[DataW.lit.injEq,Lit.int.injEq,true_and] using e
  subst e;have:=congrArg (·[0]?) hm;simpa[jH3,jHw] using this
theorem jGm {W:World} (h:laidMet Tryz.prog [("handshape/rosters.some",Rows.laid_handshape_rosters_some)] W):jE0 (Hof W):=by
  obtain⟨ps,⟨g',t',cs,fuel,p,q,hg',ht',hvar,hd,_,_⟩,_⟩:=h;obtain rfl:=Option.some.inj (jFF.symm.trans hg');obtain rfl:=Option.some.inj (jFE.symm.trans ht');obtain⟨xs,n,_,hx,hl,hlen,hf⟩:=DataW.trod_struct jGJ hd;have hx1:xs.map (·.1)=[0,1,0,0,0,1].map fun z=>(DataW.lit (.int .i64 z):DataW Unit):=by
    have e:=congrArg Prod.fst hx;have e:(DataW.agg [.lit (.int .i64 0),.lit (.int .i64 1),.lit (.int .i64 0),.lit (.int .i64 0),.lit (.int .i64 0),.lit (.int .i64 1)]:DataW Unit)= .agg (xs.map (·.1)):=e;simp only[DataW.agg.injEq] at e;exact e.symm
  have fs:=fields;simp only[jGT] at fs;obtain⟨⟨⟨⟨⟨f0,f1⟩,f2⟩,f3⟩,f4⟩,f5⟩:=fs;have c:∀{i:Nat} {z:Int},jaJ i=true→([0,1,0,0,0,1]:List Int)[i]? =some z→cs[i]? =some (.int .i64 z):=fun hi hz=>by
    have:=jB7 hx1 hf hi hz;simpa using this
  unfold World.var? at hvar;rw[jFF] at hvar;intro g x hgx;have hgx:jF [(0,(⟨.st [.int,.int,.int,.int,.int,.int],((0:Int),(1:Int),(0:Int),(0:Int),(0:Int),(1:Int),())⟩:(t:Ty)×t.Data))] g=some x:=hgx;have hb:Hof W 0=some (.cells cs):=by
    unfold Hof;simp only[Option.bind_some] at hvar
    split at hvar
    · rename_i c' t' fr e;rw[e];have:=Option.some.inj hvar;rw[this]
    · cases hvar
  have hm:=zk _ _ _ hgx;simp only[List.mem_singleton,Prod.mk.injEq] at hm;obtain⟨rfl,rfl⟩:=hm;exact⟨cs,hb,c f0 rfl,c f1 rfl,c f2 rfl,c f3 rfl,c f4 rfl,c f5 rfl,trivial⟩
end Go.X
