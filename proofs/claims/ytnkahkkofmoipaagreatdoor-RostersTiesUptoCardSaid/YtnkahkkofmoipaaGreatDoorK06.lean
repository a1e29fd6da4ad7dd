/-
  Part 6 of the road: a checked reading of bodies, and what the functions on it do (P10 B5 P11 B6 P12 P13 B7 P14 B8 P15 C1 PC1 PC2 PC3 PC4 C2 PC5 PC6 PC7 PC8 C3 PC9 SL PC10 S1 S2 S3 PC11 C4 PC12 PC13 PC14 S4 S5).
-/
import Derived.Test.YtnkahkkofmoipaaGreatDoorK05
namespace Go.X
open Go.Proofs
theorem zm {d:DyD} (h:U.jw d=0):U.joP d/\∀a∈U.zv d,∀b∈U.zv d,U.zX a=U.zX b->a=b:=by
 unfold U.jw U.jjQ at h;cases c:U.jr (U.jf d) with
 |false=>rw[c] at h;simp at h
 |true=>
  cases e:U.jwy d with
  |false=>rw[c,e] at h;simp at h
  |true=>
   cases f:U.zi d with
   |false=>rw[c,e,f] at h;simp at h
   |true=>
    cases g:U.jrI (U.jH (U.zv d)) with
    |true=>rw[c,e,f,g] at h;simp at h
    |false=>exact⟨⟨c,e,f⟩,(jxb _).1 g⟩
theorem jBd:jaQ U.jo:=by
 have e:U.jo=jxS (fun a b=>U.gj (U.jnl a) (U.jnl b)) (fun a b=>U.gj (U.zX a) (U.zX b)):=by
  funext a b;unfold U.jo;rw[j0,kO];rfl
 rw[e];exact jf6 (jgG jfi U.jnl) (jgG jfi U.zX)
theorem jxq {a b:ShD} (h:U.jo a b=0):U.zX a=U.zX b:=by
 unfold U.jo at h;rw[j0,kO] at h
 split at h
 .contradiction
 .exact qX.1 h
theorem jDl {d:DyD} (h:U.jw d=0):kh (U.jd tSh fun x=>(U.jo x.1 x.2.1,())) (U.jH (U.zv d)):=
 jmq jBd (fun a b e f c=>(zm h).2 a (jad.1 e) b (jad.1 f) (jxq c))
theorem qM {d:DyD} {s:ShD}:s∈U.jL d↔s∈U.zv d:=((j9 _).mem_iff).trans jad
theorem qn (d:DyD):(U.jL d).Nodup:=(j9 _).nodup_iff.2 (jfe _)
theorem jAm (d:DyD):(U.jL d).length<=(U.zv d).length:=by
 unfold U.jL U.jDD;rw[(j9 _).length_eq];exact jxi _
theorem jeq {d:DyD} (h:U.zi d=true) {s:ShD} (a:s∈U.zv d):(0<=U.vS s/\U.vS s<((U.jh (U.jf d)).length:Int))/\U.qV d (U.jix s):=by
 have:=(j6 h).2.2.2.2.2.2.2 _ a;unfold U.yO at this;have:=of_decide_eq_true this;unfold U.qV;omega
theorem ji9 {l:List ShD} {i:Nat} (h:i<l.length):U.zk l (i+1)=jdq tSt (U.yG (nth l i)) (nth l i) (U.zk l i):=by
 unfold U.zk;rw[L.take_succ h,jEi];rfl
theorem jef {r:RoD} {l:List ShD} {i:Nat} (h:i<l.length):U.zO r l (i+1)=U.jnM (U.rd r) (U.yU r) (U.zk l l.length) (U.zO r l i) (nth l i):=by
 unfold U.zO;rw[L.take_succ h,jEi];rfl
theorem jCU {d:DyD} {l:List Int} (c:l.Nodup) (a:∀b∈l,U.qV d b):l.length<=(U.jp d).length:=by
 have:=L.nodup_len l ((List.range (U.jp d).length).map (fun(b:Nat)=>(b:Int))) c (fun x e=>by
  have:=a x e;unfold U.qV at this;exact jEj.2 ⟨x.toNat,jD3.2 (by omega),by omega⟩)
 simpa using this
section
variable {r:RoD} {l:List ShD} {i:Nat}
theorem jsc (u:U.zi (U.rd r)=true) (v:∀s∈l,s∈U.zv (U.rd r)) (nd:l.Nodup) (h:i<l.length) {x:List (List Int)×List Int} (y:U.vQ (U.rd r,U.yU r,U.wg r,U.jCI r,()) l i x)
 (k:U.zW (U.zk l l.length) (nth l i)=true):(nth x.1 (U.vS (nth l i)).toNat++[U.jix (nth l i)]).Nodup/\(∀b∈nth x.1 (U.vS (nth l i)).toNat++[U.jix (nth l i)],U.qV (U.rd r) b)/\
  ∀b∈nth x.1 (U.vS (nth l i)).toNat++[U.jix (nth l i)],∃j:Nat,j<i+1/\U.yG (nth l j)=(b,((U.vS (nth l i)).toNat:Int),())/\kr (Ty.dflt tSh) (zt tSt (U.yG (nth l j)) (U.zk l l.length))=nth l j:=by
 obtain⟨A,B,q⟩:=y;have w:=jeq u (v _ (L.mem_nth h));have d:kr (Ty.dflt tSh) (zt tSt (U.yG (nth l i)) (U.zk l l.length))=nth l i:=by
  unfold U.zW at k;simp only[jEd,jD7,jED,decide_eq_true_eq] at k;exact k.1
 have o:((U.vS (nth l i)).toNat:Int)=U.vS (nth l i):=(by omega);obtain⟨z,m⟩:=q (U.vS (nth l i)).toNat;refine⟨?_,fun b c=> ?_,fun b c=> ?_⟩
 .refine jEJ.2 ⟨z,by simp,fun a t b c e=> ?_⟩;simp at c;subst c;subst e;obtain⟨_,j,n,f,g⟩:=m _ t;rw[o] at f;have p:U.yG (nth l j)=U.yG (nth l i):=f;rw[p,d] at g;have:=(List.nodup_iff_pairwise_ne.1 nd);rw[jEA] at this;refine this j i (by omega) h n ?_;rw[<-L.nth_lt,<-L.nth_lt h];exact g.symm
 .rcases jDP.1 c with c|c
  .exact(m b c).1
  .simp at c;subst c;exact w.2
 .rcases jDP.1 c with c|c
  .obtain⟨_,j,n,f,g⟩:=m b c;exact⟨j,by omega,f,g⟩
  .simp at c;subst c;exact⟨i,by omega,by rw[o];rfl,d⟩
theorem jwF {r:RoD} {x:List (List Int)×List Int} (a:U.vQ r l i x):U.vQ r l (i+1) x:=
 ⟨a.1,by have:=a.2.1;omega,fun p=>⟨(a.2.2 p).1,fun b c=>⟨((a.2.2 p).2 b c).1,by
  obtain⟨j,d,e⟩:=((a.2.2 p).2 b c).2
  exact⟨j,by omega,e⟩⟩⟩⟩
theorem jzD (g:U.zi (U.rd r)=true) (j:∀s∈l,s∈U.zv (U.rd r)) (nd:l.Nodup) (h:i<l.length) {x:List (List Int)×List Int} (a:U.vQ r l i x):
 U.vQ r l (i+1) (U.jnM (U.rd r) (U.yU r) (U.zk l l.length) x (nth l i)):=by
 unfold U.jnM;cases k:U.zW (U.zk l l.length) (nth l i) with
 |false=>rw[if_neg (by simp)];exact jwF a
 |true=>
  rw[if_pos rfl];have d:=jsc g j nd h a k;have m:=jeq g (j _ (L.mem_nth h))
  split
  .refine⟨by show(x.1.set _ _).length=_;rw[List.length_set];exact a.1,by have:=a.2.1;show x.2.length<=_;omega,fun p=> ?_⟩;have c:(U.vS (nth l i)).toNat<x.1.length:=(by rw[a.1];omega);show(nth (x.1.set (U.vS (nth l i)).toNat (nth x.1 (U.vS (nth l i)).toNat++[U.jix (nth l i)])) p).Nodup/\_;rw[L.nth_set c]
   split
   .rename_i e;subst e;exact⟨d.1,fun b f=>⟨d.2.1 b f,d.2.2 b f⟩⟩
   .exact(jwF a).2.2 p
  .refine⟨a.1,?_,(jwF a).2.2⟩;have:=a.2.1;show(x.2++[U.zX (nth l i)]).length<=_;rw[jD0];simp;omega
end
theorem jmB {l:List (List Int)} (h:U.jyv l) (p:Nat):nth l p=[]:=by
 by_cases a:p<l.length
 .exact h _ (L.mem_nth a)
 .unfold nth;rw[jEc,List.getElem?_eq_none (by omega)];rfl
theorem jvd {r:RoD} {l:List ShD} (a:(U.wg r).length=(U.jh (U.jf (U.rd r))).length) (c:U.jyv (U.wg r)) (d:U.jCI r=U.q8):U.vQ r l 0 (U.zO r l 0):=by
 refine⟨a,?_,fun p=> ?_⟩
 .show(U.jCI r).length<=0;rw[d];exact jDJ 0
 .have e:nth (U.zO r l 0).1 p=[]:=jmB c p;rw[e];exact⟨List.nodup_nil,fun b f=>by cases f⟩
theorem jCt (m:List ((Int×Int×Unit)×ShD)) (s:ShD):U.zW m s= !(!decide (kr (Ty.dflt tSh) (zt tSt (U.yG s) m)=s)||decide (U.jx7 s≠1)):=by
 unfold U.zW;by_cases h:U.jx7 s=1<;>simp[h]
section
variable {r:RoD} {l:List ShD} {i:Nat}
theorem jl0 (h:i<l.length) (a:U.zW (U.zk l l.length) (nth l i)=false):U.zO r l (i+1)=U.zO r l i:=by
 rw[jef h];unfold U.jnM;rw[a,if_neg (by simp)]
theorem jlZ (h:i<l.length) (a:U.zW (U.zk l l.length) (nth l i)=true) (b:U.jm9 (U.rd r) (U.yU r) (U.vS (nth l i)) (nth (U.zO r l i).1 (U.vS (nth l i)).toNat++[U.jix (nth l i)])=true):
 U.zO r l (i+1)=((U.zO r l i).1.set (U.vS (nth l i)).toNat (nth (U.zO r l i).1 (U.vS (nth l i)).toNat++[U.jix (nth l i)]),(U.zO r l i).2):=by
 rw[jef h];unfold U.jnM;rw[a,if_pos rfl,if_pos b]
theorem jsd (h:i<l.length) (a:U.zW (U.zk l l.length) (nth l i)=true) (b:U.jm9 (U.rd r) (U.yU r) (U.vS (nth l i)) (nth (U.zO r l i).1 (U.vS (nth l i)).toNat++[U.jix (nth l i)])=false):
 U.zO r l (i+1)=((U.zO r l i).1,(U.zO r l i).2++[U.zX (nth l i)]):=by
 rw[jef h];unfold U.jnM;rw[a,if_pos rfl,b,if_neg (by simp)]
end
theorem jhE:jfB:=by
 unfold jfB q92_5 q92_0 q92_4 q92_1 q92_3 q92_2;rintro⟨b,⟨⟩⟩ K;obtain⟨⟨hk,O⟩,⟨P,B⟩,C⟩:U.jyp (U.kk b):=K;have G:=(zm hk).1;have u:=G.2.2;have v:(U.zv (U.rd (U.kk b))).length<=30:=(j6 u).2.2.2.2.1;have I:b.2.2.2.2.2.2.2.1.length<=30:=v;have N:(U.jL (U.rd (U.kk b))).length<=30:=jDV (jAm _) v;have g:∀s∈U.jL (U.rd (U.kk b)),s∈U.zv (U.rd (U.kk b)):=fun s D=>qM.1 D
 have w:=qn (U.rd (U.kk b));have M:(U.jp (U.rd (U.kk b))).length<=4:=(j6 u).1;refine⟨by show b.2.2.2.2.2.2.2.1.length<=100000;omega,fun _ _ _ _=>trivial,jDl hk,fun _=>⟨⟨0,⟨⟨rfl,trivial⟩,rfl,trivial⟩,jDU _⟩,fun x J=>⟨fun h=> ?_,fun h _=>⟨⟨0,⟨⟨rfl,trivial⟩,rfl,rfl,trivial⟩,jDU _,jvd (r:=U.kk b) P B C⟩,fun y n=>⟨fun t=> ?_,fun t=> ?_⟩⟩⟩⟩⟩
 .have h:(x:Int)<((U.jL (U.rd (U.kk b))).length:Int):=of_decide_eq_true h;have D:=ji9 (l:=U.jL (U.rd (U.kk b))) (i:=x) (by omega);exact⟨by omega,h,L.in64 (by omega) (by omega),x+1,⟨⟨by simp,trivial⟩,D.symm,trivial⟩,by show x+1<=(U.jL (U.rd (U.kk b))).length;omega,by show(U.jL (U.rd (U.kk b))).length-(x+1)<(U.jL (U.rd (U.kk b))).length-x;omega⟩
 .have J:x<=(U.jL (U.rd (U.kk b))).length:=J;have h:¬(x:Int)<((U.jL (U.rd (U.kk b))).length:Int):=of_decide_eq_false h;have E:x=(U.jL (U.rd (U.kk b))).length:=(by omega);have t:(y:Int)<((U.jL (U.rd (U.kk b))).length:Int):=of_decide_eq_true t;have a:y<(U.jL (U.rd (U.kk b))).length:=(by omega);obtain⟨_,e⟩:y<=(U.jL (U.rd (U.kk b))).length/\U.vQ (U.kk b) (U.jL (U.rd (U.kk b))) y (U.zO (U.kk b) (U.jL (U.rd (U.kk b))) y):=n;have c:=jzD (r:=U.kk b) u g w a e;rw[<-jef a] at c;have F:y+1<=(U.jL (U.rd (U.kk b))).length:=a;have A:(U.jL (U.rd (U.kk b))).length-(y+1)<(U.jL (U.rd (U.kk b))).length-y:=(by omega);have q:=jeq u (g _ (L.mem_nth a));have o:=jCt (U.zk (U.jL (U.rd (U.kk b))) (U.jL (U.rd (U.kk b))).length) (nth (U.jL (U.rd (U.kk b))) y);subst E;refine⟨by omega,t,fun p=> ?_,fun p=> ?_⟩
  .have f:U.zW (U.zk (U.jL (U.rd (U.kk b))) (U.jL (U.rd (U.kk b))).length) (nth (U.jL (U.rd (U.kk b))) y)=false:=by
    rw[o];have p:(!decide (kr (Ty.dflt tSh) (zt tSt (U.yG (nth (U.jL (U.rd (U.kk b))) y)) (U.zk (U.jL (U.rd (U.kk b))) (U.jL (U.rd (U.kk b))).length))=nth (U.jL (U.rd (U.kk b))) y)||decide (U.jx7 (nth (U.jL (U.rd (U.kk b))) y)≠1))=true:=p;rw[p];rfl
   have d:=jl0 (r:=U.kk b) a f;exact⟨L.in64 (by omega) (by omega),y+1,⟨⟨by simp,trivial⟩,congrArg (·.2) d.symm,congrArg (·.1) d.symm,trivial⟩,⟨F,c⟩,A⟩
  .have f:U.zW (U.zk (U.jL (U.rd (U.kk b))) (U.jL (U.rd (U.kk b))).length) (nth (U.jL (U.rd (U.kk b))) y)=true:=by
    rw[o];have p:(!decide (kr (Ty.dflt tSh) (zt tSt (U.yG (nth (U.jL (U.rd (U.kk b))) y)) (U.zk (U.jL (U.rd (U.kk b))) (U.jL (U.rd (U.kk b))).length))=nth (U.jL (U.rd (U.kk b))) y)||decide (U.jx7 (nth (U.jL (U.rd (U.kk b))) y)≠1))=false:=p;rw[p];rfl
   have j:=jsc (r:=U.kk b) u g w a e f;have z:=jCU j.1 j.2.1;have H:(nth (U.zO (U.kk b) (U.jL (U.rd (U.kk b))) y).1 (U.vS (nth (U.jL (U.rd (U.kk b))) y)).toNat).length<=4:=by
    rw[jD0] at z;omega
   have k:0<=U.vS (nth (U.jL (U.rd (U.kk b))) y):=q.1.1;have m:U.vS (nth (U.jL (U.rd (U.kk b))) y)<((U.zO (U.kk b) (U.jL (U.rd (U.kk b))) y).1.length:Int):=(by rw[e.1];exact q.1.2);have Q:=e.2.1;refine⟨k,m,k,m,k,m,rfl,rfl,?_,rfl,⟨G,O⟩,q.1,⟨jDV z (by omega),j.2.1⟩,fun n=> ?_,fun n=> ?_⟩
   .show((nth (U.zO (U.kk b) (U.jL (U.rd (U.kk b))) y).1 (U.vS (nth (U.jL (U.rd (U.kk b))) y)).toNat).length+1)*8<=140737488355328;omega
   .have d:=jlZ (r:=U.kk b) a f n;exact⟨k,m,L.in64 (by omega) (by omega),y+1,⟨⟨by simp,trivial⟩,congrArg (·.2) d.symm,congrArg (·.1) d.symm,trivial⟩,⟨F,c⟩,A⟩
   .have d:=jsd (r:=U.kk b) a f n;refine⟨?_,L.in64 (by omega) (by omega),y+1,⟨⟨by simp,trivial⟩,congrArg (·.1) d.symm,⟨rfl,rfl,rfl,rfl,rfl,rfl,rfl,rfl,trivial,trivial,trivial,trivial⟩,congrArg (·.2) d.symm,trivial⟩,⟨F,c⟩,A⟩;show((U.zO (U.kk b) (U.jL (U.rd (U.kk b))) y).2.length+1)*8<=140737488355328;omega
 .have t:¬(y:Int)<((U.jL (U.rd (U.kk b))).length:Int):=of_decide_eq_false t;have n:=n.1;have n:y<=(U.jL (U.rd (U.kk b))).length:=n;have a:y=(U.jL (U.rd (U.kk b))).length:=(by omega);subst a;exact⟨rfl,rfl⟩
theorem jko:wD PR 120 jkg:=jx5 Tryz.sortI 3 (wi Tryz.func120 (c:=zz Tryz.f120) (by kernel_rfl) (by kernel_rfl))
theorem jfX:wD PR 80 jfO:=ji0 jgt jhE Tryz.func80 (kcC jq0 (kcC jbm kcN)) (koC gQ (koC qS (koC jko koN)))
end Go.X
namespace Go.X
open Go.Proofs
namespace U
def jap (l:List Int) (n:Nat):Int:=(l.take n).foldl (fun s p=>bor s (1*2^p.toNat)) 0
def jsh (l:List Int):Int:=jap l l.length
def zU (d:DyD) (n:Nat):List Int:=((jp d).take n).map (fun b=>jsh (vY (jf d) (jcJ b)))
def jAE (d:DyD):List (List Int):=List.replicate (jh (jf d)).length q8
def jcr (d:DyD):RoD:=(d,zU d (jp d).length,jAE d,q8,())
def jnm (d:DyD):RoD:=(d,zU d (jp d).length,(qK (jcr d)).1,(qK (jcr d)).2,())
def zr (d:DyD):Option RoD:=if jw d=0 then some (jnm d) else none
end U
def jn7:zw:=⟨[.val tDy,.nil true],[.cl (.dat (.ptr tRo)),.cl (.dat .int)],fun d=>[(U.zv d.1).length<=100000],fun d=>((U.zr d.1,U.jw d.1,()),())⟩
def jxF:Ann:=fun r=>match r with
 |8=>some fun σ=>{X:=Nat,sl:=fun i=>[(39,.dat .int (i:Int))],ob:=fun i=>[(27,some (.box 72 false (((bx σ 27).set 8 (.own (yS 27 8) .int)).set 10 (.own (yS 27 10) .int)))),(yS 27 10,some (.row 3 .int false .yes U.q8)),(yS 27 8,some (.row 3 .int false .yes (U.zU (gb tDy σ 2) i)))],inv:=fun i=>i<=(U.jp (gb tDy σ 2)).length,mu:=fun i=>(U.jp (gb tDy σ 2)).length-i}
 |13=>some fun σ=>{X:=Nat,sl:=fun i=>[(53,.dat .int (i:Int)),(12,.dat .int (U.jap (gd (.slice .int) σ 51) i))],ob:=fun _=>[],inv:=fun i=>i<=(gd (.slice .int) σ 51).length,mu:=fun i=>(gd (.slice .int) σ 51).length-i}
 |3000005=>some fun _=>{X:=Unit,sl:=fun _=>[],ob:=fun _=>[],inv:=fun _=>True,mu:=fun _=>0}
 |_=>none
abbrev q93_1 (d:DyD×Unit×Unit)(x:Nat):=(U.vY d.1.1 (nth d.1.2.2.1 (x:Int).toNat).1)
abbrev q93_2 (d:DyD×Unit×Unit):=(d.1.1.1=d.1.1.1/\d.1.1.2.1=d.1.1.2.1/\d.1.1.2.2.1=d.1.1.2.2.1/\d.1.2.1=d.1.2.1/\d.1.2.2.1=d.1.2.2.1/\d.1.2.2.2.1=d.1.2.2.2.1/\d.1.2.2.2.2.1=d.1.2.2.2.2.1/\d.1.2.2.2.2.2.1=d.1.2.2.2.2.2.1/\True/\True/\True/\True)
abbrev q93_4 (d:DyD×Unit×Unit):=(d.1.1.2.1.length:Int)
abbrev q93_3 (d:DyD×Unit×Unit)(x:Nat):=(U.kk (d.1.1.1,d.1.1.2.1,d.1.1.2.2.1,d.1.2.1,d.1.2.2.1,d.1.2.2.2.1,d.1.2.2.2.2.1,d.1.2.2.2.2.2.1,U.zU d.1 x,List.replicate (q93_4 d).toNat [],U.q8,()))
abbrev q93_0 (d:DyD×Unit×Unit)(x:Nat):=(U.jhI (d.1.1.1,d.1.1.2.1,d.1.1.2.2.1,d.1.2.1,d.1.2.2.1,d.1.2.2.2.1,d.1.2.2.2.2.1,d.1.2.2.2.2.2.1,U.zU d.1 x,List.replicate (q93_4 d).toNat [],U.q8,()) (U.qK (q93_3 d x)))
def jnv:Prop:=∀(d:DyD×Unit×Unit),(U.zv d.1).length<=100000->(U.zv d.1).length<=100000/\(decide (U.jw d.1≠0)=true->(none,U.jw d.1,())=(U.zr d.1,U.jw d.1,())/\()=())/\(decide (U.jw d.1≠0)=false->0<=(q93_4 d)/\(q93_4 d)=(q93_4 d)/\(q93_4 d).toNat*24<=140737488355328/\((!true)=true->(!true)=true/\(!true)=true/\False)/\((!true)=false->(!true)=false/\(!true)=false/\(!true)=false/\(!true)=false/\(false=true->(none,(1:Int),())=(U.zr d.1,U.jw d.1,())/\()=())/\(false=false->d.1.2.2.1.length<4611686018427387904->(∃(x:Nat),((0=(x:Int)/\True)/\(q93_2 d)/\U.q8=[]/\U.zU d.1 x=[]/\True)/\x<=(U.jp d.1).length)/\∀(x:Nat),x<=(U.jp d.1).length->(decide ((x:Int)<(d.1.2.2.1.length:Int))=true->0<=(x:Int)/\(x:Int)<(d.1.2.2.1.length:Int)/\((q93_1 d x).length<4611686018427387904->(∃(a:Nat),((0=(a:Int)/\0=U.jap (q93_1 d x) a/\True)/\True)/\a<=(q93_1 d x).length)/\∀(a:Nat),a<=(q93_1 d x).length->(decide ((a:Int)<(↑(q93_1 d x).length:Int))=true->0<=(a:Int)/\(a:Int)<(↑(q93_1 d x).length:Int)/\0<=nth (q93_1 d x) (a:Int).toNat/\nth (q93_1 d x) (a:Int).toNat<=64/\jC ((1:Int)*2^(nth (q93_1 d x) (a:Int).toNat).toNat)/\jC ((a:Int)+1)/\∃(b:Nat),(((a:Int)+1=(b:Int)/\bor (U.jap (q93_1 d x) a) ((1:Int)*2^(nth (q93_1 d x) (a:Int).toNat).toNat)=U.jap (q93_1 d x) b/\True)/\True)/\b<=(q93_1 d x).length/\(q93_1 d x).length-b<(q93_1 d x).length-a)/\(decide ((a:Int)<(↑(q93_1 d x).length:Int))=false->((U.zU d.1 x).length+[U.jap (q93_1 d x) a].length)*8<=140737488355328/\jC ((x:Int)+1)/\∃(b:Nat),(((x:Int)+1=(b:Int)/\True)/\U.q8=U.q8/\(q93_2 d)/\U.zU d.1 x++[U.jap (q93_1 d x) a]=U.zU d.1 b/\True)/\b<=(U.jp d.1).length/\(U.jp d.1).length-b<(U.jp d.1).length-x)))/\(decide ((x:Int)<(d.1.2.2.1.length:Int))=false->U.jyp (q93_3 d x)/\(some ((((q93_0 d x).1,(q93_0 d x).2.1,(q93_0 d x).2.2.1,()),(q93_0 d x).2.2.2.1,(q93_0 d x).2.2.2.2.1,(q93_0 d x).2.2.2.2.2.1,(q93_0 d x).2.2.2.2.2.2.1,(q93_0 d x).2.2.2.2.2.2.2.1,()),(q93_0 d x).2.2.2.2.2.2.2.2.1,(q93_0 d x).2.2.2.2.2.2.2.2.2.1,(q93_0 d x).2.2.2.2.2.2.2.2.2.2.1,()),(0:Int),())=(U.zr d.1,U.jw d.1,())/\()=()))))
end Go.X
namespace Go.X
open Go.Proofs
theorem jfP {l:List Int} {i:Nat} (h:i<l.length):U.jap l (i+1)=bor (U.jap l i) (1*2^(nth l i).toNat):=by
 unfold U.jap;rw[L.take_succ h,jEi];rfl
theorem jwq {d:DyD} {i:Nat} (h:i<(U.jp d).length):U.zU d (i+1)=U.zU d i++[U.jsh (U.vY (U.jf d) (U.jcJ (nth (U.jp d) i)))]:=by
 unfold U.zU;rw[L.take_succ h,jEI];rfl
theorem jyx (d:DyD) (i:Nat):(U.zU d i).length<=i:=by
 unfold U.zU;rw[jE2,jEa];omega
theorem jwn {c:CrD} (h:U.jr c=true) {j:JbD} {p:Int} (a:p∈U.vY c j):0<=p/\p<8:=by
 have d:=(jG h).2.2.1;unfold U.vY at a
 split at a
 .unfold U.vA at a;obtain⟨n,b,rfl⟩:=jEj.1 a;have:=jD3.1 (jD6.1 b).1;omega
 .cases a
theorem jAM {c:CrD} (h:U.jr c=true) (j:JbD):(U.vY c j).length<=8:=by
 have a:=(jG h).2.2.1;unfold U.vY
 split
 .unfold U.vA;rw[jE2];exact jDV (List.length_filter_le _ _) (by simpa using a)
 .exact jDU _
theorem jsq {d:DyD} (h:U.jw d=0):U.jyp (U.jcr d):=by
 refine⟨⟨h,?_⟩,⟨?_,fun x a=> ?_⟩,rfl⟩
 .show(U.zU d (U.jp d).length).length=(U.jp d).length;unfold U.zU;simp
 .show(U.jAE d).length=(U.jh (U.jf d)).length;unfold U.jAE;simp
 .have a:x∈U.jAE d:=a;unfold U.jAE at a;exact(List.mem_replicate.1 a).2
theorem jrm:jnv:=by
 unfold jnv q93_0 q93_3 q93_4 q93_2 q93_1;rintro⟨d,⟨⟩,⟨⟩⟩ j;refine⟨j,fun h=>⟨?_,rfl⟩,fun h=>⟨jD9 _,rfl,?_,fun c=>(by cases c),fun _=>⟨rfl,rfl,rfl,rfl,fun c=>(by cases c),fun _=> ?_⟩⟩⟩
 .have h:U.jw d≠0:=of_decide_eq_true h;show(none,U.jw d,())=(U.zr d,U.jw d,());unfold U.zr;rw[if_neg h]
 .have hk:U.jw d=0:=Classical.not_not.1 (of_decide_eq_false h);have e:=(jG (zm hk).1.1).2.2.1;have e:d.1.2.1.length<=8:=e;show((d.1.2.1.length:Int)).toNat*24<=140737488355328;omega
 have hk:U.jw d=0:=Classical.not_not.1 (of_decide_eq_false h);clear j h;have f:=(zm hk).1;have r:=f.2.2;have g:(U.jp d).length<=4:=(j6 r).1;have n:d.2.2.1.length<=4:=g;refine fun _=>⟨⟨0,⟨⟨rfl,trivial⟩,⟨rfl,rfl,rfl,rfl,rfl,rfl,rfl,rfl,trivial,trivial,trivial,trivial⟩,rfl,rfl,trivial⟩,jDU _⟩,fun x o=>⟨fun h=>⟨by omega,of_decide_eq_true h,fun _=>⟨⟨0,⟨⟨rfl,rfl,trivial⟩,trivial⟩,jDU _⟩,fun y p=>⟨fun a=> ?_,fun a=> ?_⟩⟩⟩,fun h=> ?_⟩⟩
 .have a:(y:Int)<((U.vY (U.jf d) (nth d.2.2.1 (x:Int).toNat).1).length:Int):=of_decide_eq_true a;have b:y<(U.vY (U.jf d) (nth d.2.2.1 (x:Int).toNat).1).length:=(by omega);have s:=jwn f.1 (L.mem_nth b);have k:=jfP b;have e:=jAM f.1 (nth d.2.2.1 (x:Int).toNat).1;have q:BT.Set' ((2:Int)^(nth (U.vY (U.jf d) (nth d.2.2.1 (x:Int).toNat).1) y).toNat):=BT.two_set (by omega);unfold BT.Set' at q;exact⟨by omega,a,s.1,by show nth (U.vY (U.jf d) (nth d.2.2.1 (x:Int).toNat).1) y<=64;omega,by show jC (1*2^(nth (U.vY (U.jf d) (nth d.2.2.1 (x:Int).toNat).1) y).toNat);rw[jbi];exact L.in64 (by omega) (by omega),L.in64 (by omega) (by omega),y+1,⟨⟨by simp,k.symm,trivial⟩,trivial⟩,by show y+1<=(U.vY (U.jf d) (nth d.2.2.1 (x:Int).toNat).1).length;omega,by show(U.vY (U.jf d) (nth d.2.2.1 (x:Int).toNat).1).length-(y+1)<(U.vY (U.jf d) (nth d.2.2.1 (x:Int).toNat).1).length-y;omega⟩
 .have h:(x:Int)<((U.jp d).length:Int):=of_decide_eq_true h;have k:=jwq (d:=d) (i:=x) (by omega);have j:=jyx d x;have p:y<=(U.vY (U.jf d) (nth d.2.2.1 (x:Int).toNat).1).length:=p;have a:¬(y:Int)<((U.vY (U.jf d) (nth d.2.2.1 (x:Int).toNat).1).length:Int):=of_decide_eq_false a;have m:y=(U.vY (U.jf d) (nth d.2.2.1 (x:Int).toNat).1).length:=(by omega);subst m;refine⟨?_,L.in64 (by omega) (by omega),x+1,⟨⟨by simp,trivial⟩,rfl,⟨rfl,rfl,rfl,rfl,rfl,rfl,rfl,rfl,trivial,trivial,trivial,trivial⟩,k.symm,trivial⟩,by show x+1<=(U.jp d).length;omega,by show(U.jp d).length-(x+1)<(U.jp d).length-x;omega⟩;show((U.zU d x).length+1)*8<=140737488355328;omega
 .have h:¬(x:Int)<((U.jp d).length:Int):=of_decide_eq_false h;have o:x<=(U.jp d).length:=o;have l:x=(U.jp d).length:=(by omega);subst l;refine⟨jsq hk,?_⟩;refine⟨?_,rfl⟩;show(some (U.jnm d),(0:Int),())=(U.zr d,U.jw d,());unfold U.zr;rw[if_pos hk,hk]
theorem jbn:wD PR 39 jn7:=ji0 jxF jrm Tryz.func39 (kcC jk7 (kcC jyn kcN)) (koC jfX koN)
end Go.X
namespace Go.X
open Go.Proofs
namespace U
def wU (d:DyD) (n:Nat):List Int:=(List.range n).map (fun(b:Nat)=>jfF (wg (jnm d)) (b:Int))
def wZ (d:DyD):List Int:=if jw d=0 then wU d (jp d).length else[]
def jkk (d:DyD):List Int:=if jw d=0 then jCI (jnm d) else[]
def jo0 (d:DyD) (p:Int):Bool:=ja p 0 (((jh (jf d)).length:Int)-1)
def jwD (d:DyD) (b:Int):Bool:=ja b 0 (((jp d).length:Int)-1)
end U
def jtA:jR:=⟨[.val tDy],[.slice .int,.int],false,fun d=>[(U.zv d.1).length<=100000],fun d=>(U.wZ d.1,U.jw d.1,())⟩
def juI:Ann:=fun r=>match r with
 |6=>some fun σ=>{X:=Nat,sl:=fun i=>[(19,.dat .int (i:Int)),(6,.own 6 .int)],ob:=fun i=>[(6,some (.row 3 .int false .yes (U.wU (gb tDy σ 1) i)))],inv:=fun i=>i<=(U.jp (gb tDy σ 1)).length,mu:=fun i=>(U.jp (gb tDy σ 1)).length-i}
 |_=>none
def jti:Prop:=∀(d:DyD×Unit),(U.zv d.1).length<=100000->(U.zv d.1).length<=100000/\(decide (U.jw d.1≠0)=true->([],U.jw d.1,())=(U.wZ d.1,U.jw d.1,()))/\(decide (U.jw d.1≠0)=false->d.1.2.2.1.length<4611686018427387904->(∃(x:Nat),((0=(x:Int)/\True/\True)/\U.wU d.1 x=[]/\True)/\x<=(U.jp d.1).length)/\∀(x:Nat),x<=(U.jp d.1).length->(decide ((x:Int)<(d.1.2.2.1.length:Int))=true->(U.zr d.1).isSome=true/\(U.wg (U.ro (U.zr d.1))).length<=60/\((U.wU d.1 x).length+[U.jfF (U.wg (U.ro (U.zr d.1))) (x:Int)].length)*8<=140737488355328/\jC ((x:Int)+1)/\∃(a:Nat),(((x:Int)+1=(a:Int)/\True/\True)/\U.wU d.1 x++[U.jfF (U.wg (U.ro (U.zr d.1))) (x:Int)]=U.wU d.1 a/\True)/\a<=(U.jp d.1).length/\(U.jp d.1).length-a<(U.jp d.1).length-x)/\(decide ((x:Int)<(d.1.2.2.1.length:Int))=false->(U.wU d.1 x,(0:Int),())=(U.wZ d.1,U.jw d.1,())))
def jn0:jR:=⟨[.val tDy],[.slice .int,.int],false,fun d=>[(U.zv d.1).length<=100000],fun d=>(U.jkk d.1,U.jw d.1,())⟩
def jnC:Prop:=∀(d:DyD×Unit),(U.zv d.1).length<=100000->(U.zv d.1).length<=100000/\(decide (U.jw d.1≠0)=true->([],U.jw d.1,())=(U.jkk d.1,U.jw d.1,()))/\(decide (U.jw d.1≠0)=false->(U.zr d.1).isSome=true/\((jS ((((0:Int),[],[],()),[],[],(0:Int),(0:Int),[],()),[],[],[],()) (U.zr d.1)).2.2.2.1,(0:Int),())=(U.jkk d.1,U.jw d.1,()))
end Go.X
namespace Go.X
open Go.Proofs
theorem jl1 {r:RoD} {l:List ShD} (d:U.zi (U.rd r)=true) (e:∀s∈l,s∈U.zv (U.rd r)) (nd:l.Nodup) (a:(U.wg r).length=(U.jh (U.jf (U.rd r))).length) (b:U.jyv (U.wg r)) (c:U.jCI r=U.q8):
 ∀i,i<=l.length->U.vQ r l i (U.zO r l i)
 |0,_=>jvd a b c
 |i+1,hi=>by
  rw[jef hi]
  exact jzD d e nd hi (jl1 d e nd a b c i (by omega))
structure jBv (d:DyD):Prop where
 may:U.joO (U.jnm d)
 len:(U.wg (U.jnm d)).length=(U.jh (U.jf d)).length
 row:∀p,(nth (U.wg (U.jnm d)) p).Nodup/\∀b∈nth (U.wg (U.jnm d)) p,U.qV d b
theorem jsp {d:DyD} (h:U.jw d=0):jBv d:=by
 obtain⟨⟨_,i⟩,⟨j,c⟩,e⟩:=jsq h;have f:=(zm h).1;have a:=jl1 (r:=U.jcr d) (l:=U.jL d) f.2.2 (fun s k=>qM.1 k) (qn d) j c e _ (jDJ _);refine⟨⟨f,i⟩,a.1,fun p=> ?_⟩;have:=a.2.2 p;exact⟨this.1,fun b g=>(this.2 b g).1⟩
theorem jBv.len60 {d:DyD} (h:jBv d):(U.wg (U.jnm d)).length<=60:=by
 have a:=(jG h.may.1.1).2.2.1;have a:(U.jh (U.jf d)).length<=8:=a;rw[h.len];omega
theorem jvW {d:DyD} (h:U.jw d=0):U.zr d=some (U.jnm d):=if_pos h
theorem jtp (d:DyD) (n:Nat):U.wU d (n+1)=U.wU d n++[U.jfF (U.wg (U.jnm d)) (n:Int)]:=by
 unfold U.wU;rw[jEw,jEI];rfl
theorem jwQ:jti:=by
 rintro⟨d,⟨⟩⟩ j;refine⟨j,fun h=> ?_,fun h _=>⟨⟨0,⟨⟨rfl,trivial,trivial⟩,rfl,trivial⟩,jDU _⟩,fun x g=>⟨fun a=> ?_,fun a=> ?_⟩⟩⟩
 .have h:U.jw d≠0:=of_decide_eq_true h;show([],U.jw d,())=(U.wZ d,U.jw d,());unfold U.wZ;rw[if_neg h]
 .have hk:U.jw d=0:=Classical.not_not.1 (of_decide_eq_false h);have f:=jsp hk;have i:(U.jp d).length<=4:=(j6 f.may.1.2.2).1;have a:(x:Int)<((U.jp d).length:Int):=of_decide_eq_true a;have k:=jtp d x;have e:(U.wU d x).length=x:=(by unfold U.wU;simp);have b:=jvW hk;refine⟨by show(U.zr d).isSome=true;rw[b];rfl,by show(U.wg (U.ro (U.zr d))).length<=60;rw[b];exact f.len60,?_,L.in64 (by omega) (by omega),x+1,⟨⟨by simp,trivial,trivial⟩,?_,trivial⟩,by show x+1<=(U.jp d).length;omega,by show(U.jp d).length-(x+1)<(U.jp d).length-x;omega⟩
  .show((U.wU d x).length+1)*8<=_;omega
  .show U.wU d x++[U.jfF (U.wg (U.ro (U.zr d))) (x:Int)]=U.wU d (x+1);rw[b,k];rfl
 .have hk:U.jw d=0:=Classical.not_not.1 (of_decide_eq_false h);have g:x<=(U.jp d).length:=g;have a:¬(x:Int)<((U.jp d).length:Int):=of_decide_eq_false a;have c:x=(U.jp d).length:=(by omega);subst c;show(U.wU d _,(0:Int),())=(U.wZ d,U.jw d,());unfold U.wZ;rw[if_pos hk,hk]
theorem jk6:zh PR 18 jtA:=wt juI jwQ Tryz.func18 (kcC jhu kcN) (koC jbn koN)
theorem jrt:jnC:=by
 rintro⟨d,⟨⟩⟩ b;refine⟨b,fun h=> ?_,fun h=> ?_⟩
 .have h:U.jw d≠0:=of_decide_eq_true h;show([],U.jw d,())=(U.jkk d,U.jw d,());unfold U.jkk;rw[if_neg h]
 .have hk:U.jw d=0:=Classical.not_not.1 (of_decide_eq_false h);have a:=jvW hk;refine⟨by show(U.zr d).isSome=true;rw[a];rfl,?_⟩;show(U.jCI (U.ro (U.zr d)),(0:Int),())=(U.jkk d,U.jw d,());unfold U.jkk;rw[if_pos hk,hk,a];rfl
theorem joJ:zh PR 20 jn0:=jM jrt Tryz.func20 kcN (koC jbn koN)
end Go.X
namespace Go.X
open Go.Proofs
theorem jc9 {l:List Int} (h:∀p∈l,0<=p/\p<8):∀n,n<=l.length->BT.Set' (U.jap l n)/\∀q,BT.has (U.jap l n) q=true->q<8
 |0,_=>⟨BT.zero_set,fun q a=>by rw[show U.jap l 0=0 from rfl,BT.has_zero] at a;cases a⟩
 |n+1,d=>by
  have b:=jc9 h n (by omega)
  have e:=h _ (L.mem_nth (l:=l) (i:=n) (by omega))
  have c:BT.Set' ((2:Int)^(nth l n).toNat):=BT.two_set (by omega)
  rw[jfP (by omega),jbi]
  refine⟨BT.bor_set b.1 c,fun q a=> ?_⟩
  rw[BT.has_bor b.1 c,jE1,BT.has_two,decide_eq_true_eq] at a
  rcases a with a|a
  .exact b.2 q a
  .omega
end Go.X
namespace Go.X
open Go.Proofs
abbrev tSe:Ty:= .st [.ptr tRo,.slice (.slice .int),.slice .int,.slice .int,.int,.bool]
abbrev jDw:Sh:= .box 70 [.dat (.ptr tRo),.row 33 (.slice .int) .unk,.row 3 .int .no,.row 3 .int .unk,.dat .int,.dat .bool]
abbrev SeD:Type:=Option RoD×List (List Int)×List Int×List Int×Int×Bool×Unit
abbrev StD:Type:=List Int×List Int×Int×Bool
namespace U
def kH (ts:List Int) (p:Int) (n:Nat):List Int:=((List.range n).filter (fun i=>decide (va (nth ts i/2^p.toNat) 1=1))).map (fun(i:Nat)=>(i:Int))
def vp (r:RoD) (ts:List Int) (b n:Nat):Bool:=(List.range n).all (fun p=>jaO r (p:Int) (kH ts (p:Int) (b+1)))
def wR (r:RoD) (ch:List (List Int)):Nat->Nat->Int->StD->StD
 |0,_,_,x=>x
 |k+1,b,fee,x=>
  if(x.2.2.2&&decide (x.2.2.1<=fee))=true then x
  else if b=(jp (rd r)).length then(x.1,x.1,fee,true)
  else(nth ch b).foldl (fun x t=>if vp r (x.1.set b t) b (wg r).length=true then wR r ch k (b+1) (fee+vD (rd r) t) (x.1.set b t,x.2) else(x.1.set b t,x.2)) x
def jl3 (r:RoD) (ch:List (List Int)) (k b:Nat) (fee:Int) (x:StD) (t:Int):StD:=
 if vp r (x.1.set b t) b (wg r).length=true then wR r ch k (b+1) (fee+vD (rd r) t) (x.1.set b t,x.2) else(x.1.set b t,x.2)
def jl (r:RoD) (ch:List (List Int)) (k b:Nat) (fee:Int) (x:StD) (n:Nat):StD:=((nth ch b).take n).foldl (jl3 r ch k b fee) x
def jj (s:SeD):StD:=(s.2.2.1,s.2.2.2.1,s.2.2.2.2.1,s.2.2.2.2.2.1)
def qQ (s:SeD) (x:StD):SeD:=(s.1,s.2.1,x.1,x.2.1,x.2.2.1,x.2.2.2,())
def okCh (d:DyD) (ch:List (List Int)):Prop:=ch.length=(jp d).length/\∀l∈ch,∀t∈l,0<=t/\t<256
def jtT (k:Nat) (s:SeD) (b fee:Int):Prop:=s.1.isSome=true/\joO (ro s.1)/\(wg (ro s.1)).length=(jh (jf (rd (ro s.1)))).length/\okCh (rd (ro s.1)) s.2.1/\s.2.2.1.length=(jp (rd (ro s.1))).length/\
 (0<=b/\b<=((jp (rd (ro s.1))).length:Int)/\((jp (rd (ro s.1))).length:Int)<b+k)/\0<=fee/\fee<=8000*b
end U
def vU:zw:=⟨[.own (.cl (.row 3 .int .no)) true],[rwI],fun d=>[d.1.length<=100000],fun d=>((d.1,()),(d.1,()))⟩
def jd5:Prop:=∀(d:List Int×Unit),d.1.length<=100000->(false=true->([],())=d/\d=d)/\(false=false->(0+d.1.length)*8<=140737488355328/\([]++d.1,())=d/\d=d)
def qL (k:Nat):zw:=⟨[.own jDw true,.val .int,.val .int],[],fun d=>[U.jtT k d.1 d.2.1 d.2.2.1],fun d=>((),(U.qQ d.1 (U.wR (U.ro d.1.1) d.1.2.1 k d.2.1.toNat d.2.2.1 (U.jj d.1)),()))⟩
def jhK (k:Nat):Ann:=fun r=>match r with
 |4=>some fun σ=>{X:=Nat,sl:=fun i=>[(58,.dat .int (i:Int)),(53,.any),(55,.any)],ob:=fun i=>[(1000000,some (.box 70 false (((bx σ 1000000).set 4 (.dat .int (U.jl (U.ro (gb tSe σ 1000000).1) (gb tSe σ 1000000).2.1 k (gd .int σ 1).toNat (gd .int σ 2) (U.jj (gb tSe σ 1000000)) i).2.2.1)).set 5 (.dat .bool (U.jl (U.ro (gb tSe σ 1000000).1) (gb tSe σ 1000000).2.1 k (gd .int σ 1).toNat (gd .int σ 2) (U.jj (gb tSe σ 1000000)) i).2.2.2)))),(400002,some (.row 3 .int false .no (U.jl (U.ro (gb tSe σ 1000000).1) (gb tSe σ 1000000).2.1 k (gd .int σ 1).toNat (gd .int σ 2) (U.jj (gb tSe σ 1000000)) i).1)),(400003,some (.row 3 .int false .unk (U.jl (U.ro (gb tSe σ 1000000).1) (gb tSe σ 1000000).2.1 k (gd .int σ 1).toNat (gd .int σ 2) (U.jj (gb tSe σ 1000000)) i).2.1))],inv:=fun i=>i<=(nth (gb tSe σ 1000000).2.1 (gd .int σ 1).toNat).length/\(U.jl (U.ro (gb tSe σ 1000000).1) (gb tSe σ 1000000).2.1 k (gd .int σ 1).toNat (gd .int σ 2) (U.jj (gb tSe σ 1000000)) i).1.length=(gb tSe σ 1000000).2.2.1.length,mu:=fun i=>(nth (gb tSe σ 1000000).2.1 (gd .int σ 1).toNat).length-i}
 |8=>some fun σ=>{X:=Nat,sl:=fun p=>[(77,.dat .int (p:Int))],ob:=fun _=>[],inv:=fun p=>p<=(U.wg (U.ro (gb tSe σ 1000000).1)).length/\U.vp (U.ro (gb tSe σ 1000000).1) (gr .int σ 400002) (gd .int σ 1).toNat p=true,mu:=fun p=>(U.wg (U.ro (gb tSe σ 1000000).1)).length-p}
 |12=>some fun σ=>{X:=Nat,sl:=fun i=>[(88,.dat .int (i:Int)),(9,.own 9 .int)],ob:=fun i=>[(9,some (.row 3 .int false .yes (U.kH (gr .int σ 400002) (gd .int σ 8) i)))],inv:=fun i=>i<=(gd .int σ 1).toNat+1,mu:=fun i=>(gd .int σ 1).toNat+1-i}
 |_=>none
def jiK:Prop:=∀k:Nat,jtV (ctx 125 [(83,ja7),(68,ja6)] [(82,vU),(41,qL k)]) (jhK k) Tryz.f41 (zz Tryz.f41) (qL (k+1))
abbrev q97_1 (d:(Option RoD×List (List Int)×List Int×List Int×Int×Bool×Unit)×Int×Int×Unit)(k:Nat)(x:Nat):=(U.jl (U.ro d.1.1) d.1.2.1 k d.2.1.toNat d.2.2.1 (U.jj d.1) x)
abbrev q97_3 (d:(Option RoD×List (List Int)×List Int×List Int×Int×Bool×Unit)×Int×Int×Unit)(k:Nat)(a:Nat):=(U.jl (U.ro d.1.1) d.1.2.1 k d.2.1.toNat d.2.2.1 (U.jj d.1) a)
abbrev q97_4 (d:(Option RoD×List (List Int)×List Int×List Int×Int×Bool×Unit)×Int×Int×Unit):=(jS ((((0:Int),[],[],()),[],[],(0:Int),(0:Int),[],()),[],[],[],()) d.1.1)
abbrev q97_5 (d:(Option RoD×List (List Int)×List Int×List Int×Int×Bool×Unit)×Int×Int×Unit):=(nth d.1.2.1 d.2.1.toNat)
abbrev q97_2 (d:(Option RoD×List (List Int)×List Int×List Int×Int×Bool×Unit)×Int×Int×Unit)(k:Nat)(x:Nat):=((q97_1 d k x).1.set d.2.1.toNat (nth (q97_5 d) (x:Int).toNat))
abbrev q97_6 (d:(Option RoD×List (List Int)×List Int×List Int×Int×Bool×Unit)×Int×Int×Unit)(k:Nat)(x:Nat):=(d.1.1,d.1.2.1,(q97_1 d k x).1.set d.2.1.toNat (nth (q97_5 d) (x:Int).toNat),(q97_1 d k x).2.1,(q97_1 d k x).2.2.1,(q97_1 d k x).2.2.2,())
abbrev q97_0 (d:(Option RoD×List (List Int)×List Int×List Int×Int×Bool×Unit)×Int×Int×Unit)(k:Nat)(x:Nat):=(U.qQ (q97_6 d k x) (U.wR (U.ro d.1.1) d.1.2.1 k (d.2.1+1).toNat (d.2.2.1+U.vD (U.rd (U.ro d.1.1)) (nth (q97_5 d) (x:Int).toNat)) (U.jj (q97_6 d k x))))
abbrev q97_7 (d:(Option RoD×List (List Int)×List Int×List Int×Int×Bool×Unit)×Int×Int×Unit)(k:Nat):=(U.qQ d.1 (U.wR (U.ro d.1.1) d.1.2.1 (k+1) d.2.1.toNat d.2.2.1 (U.jj d.1)),())
def jam:Prop:=∀(k:Nat) (d:(Option RoD×List (List Int)×List Int×List Int×Int×Bool×Unit)×Int×Int×Unit),U.jtT (k+1) d.1 d.2.1 d.2.2.1->((d.1.2.2.2.2.2.1&&decide (d.1.2.2.2.2.1<=d.2.2.1))=true->()=()/\(d.1,())=(q97_7 d k))/\((d.1.2.2.2.2.2.1&&decide (d.1.2.2.2.2.1<=d.2.2.1))=false->d.1.1.isSome=true/\((q97_4 d).1.2.2.1.length<4611686018427387904->(decide (d.2.1=(↑(q97_4 d).1.2.2.1.length:Int))=true->d.1.2.2.1.length<=100000/\()=()/\((d.1.1,d.1.2.1,d.1.2.2.1,d.1.2.2.1,d.2.2.1,true,()),())=(q97_7 d k))/\(decide (d.2.1=(↑(q97_4 d).1.2.2.1.length:Int))=false->0<=d.2.1/\d.2.1<(d.1.2.1.length:Int)/\((q97_5 d).length<4611686018427387904->(∃(x:Nat),((0=(x:Int)/\True)/\(d.1.1=d.1.1/\True/\True/\True/\d.1.2.2.2.2.1=(q97_1 d k x).2.2.1/\d.1.2.2.2.2.2.1=(q97_1 d k x).2.2.2/\True)/\d.1.2.2.1=(q97_1 d k x).1/\d.1.2.2.2.1=(q97_1 d k x).2.1/\True)/\x<=(q97_5 d).length/\(q97_1 d k x).1.length=d.1.2.2.1.length)/\∀(x:Nat),x<=(q97_5 d).length/\(q97_1 d k x).1.length=d.1.2.2.1.length->(decide ((x:Int)<(↑(q97_5 d).length:Int))=true->0<=(x:Int)/\(x:Int)<(↑(q97_5 d).length:Int)/\0<=d.2.1/\d.2.1<(↑(q97_1 d k x).1.length:Int)/\d.1.1.isSome=true/\((q97_4 d).2.2.1.length<4611686018427387904->(∃(a:Nat),((0=(a:Int)/\True)/\True)/\a<=(U.wg (U.ro d.1.1)).length/\U.vp (U.ro d.1.1) (q97_2 d k x) d.2.1.toNat a=true)/\∀(a:Nat),a<=(U.wg (U.ro d.1.1)).length/\U.vp (U.ro d.1.1) (q97_2 d k x) d.2.1.toNat a=true->(decide ((a:Int)<(↑(q97_4 d).2.2.1.length:Int))=true->jC (d.2.1+1)/\(0:Int)<=0/\0<=d.2.1+1/\d.2.1+1<=(↑(q97_2 d k x).length:Int)/\((d.2.1+1).toNat-Int.toNat 0<4611686018427387904->(∃(b:Nat),((0=(b:Int)/\True/\True)/\U.kH (q97_2 d k x) (a:Int) b=[]/\True)/\b<=d.2.1.toNat+1)/\∀(b:Nat),b<=d.2.1.toNat+1->(decide ((b:Int)<(↑((d.2.1+1).toNat-Int.toNat 0):Int))=true->0<=(b:Int)/\(b:Int)<(↑((d.2.1+1).toNat-Int.toNat 0):Int)/\0<=(a:Int)/\(a:Int)<=64/\(decide (va (nth (q97_2 d k x) (Int.toNat 0+(b:Int).toNat)/(2:Int)^(a:Int).toNat) (1:Int)=1)=true->((U.kH (q97_2 d k x) (a:Int) b).length+[(b:Int)].length)*8<=140737488355328/\jC ((b:Int)+1)/\∃(c:Nat),(((b:Int)+1=(c:Int)/\True/\True)/\U.kH (q97_2 d k x) (a:Int) b++[(b:Int)]=U.kH (q97_2 d k x) (a:Int) c/\True)/\c<=d.2.1.toNat+1/\d.2.1.toNat+1-c<d.2.1.toNat+1-b)/\(decide (va (nth (q97_2 d k x) (Int.toNat 0+(b:Int).toNat)/(2:Int)^(a:Int).toNat) (1:Int)=1)=false->jC ((b:Int)+1)/\∃(c:Nat),((True/\(b:Int)+1=(c:Int)/\True)/\U.kH (q97_2 d k x) (a:Int) b=U.kH (q97_2 d k x) (a:Int) c/\True)/\c<=d.2.1.toNat+1/\d.2.1.toNat+1-c<d.2.1.toNat+1-b))/\(decide ((b:Int)<(↑((d.2.1+1).toNat-Int.toNat 0):Int))=false->d.1.1.isSome=true/\U.joO (U.ro d.1.1)/\U.jtU (U.rd (U.ro d.1.1)) (a:Int)/\U.joQ (U.rd (U.ro d.1.1)) (U.kH (q97_2 d k x) (a:Int) b)/\((!U.jaO (U.ro d.1.1) (a:Int) (U.kH (q97_2 d k x) (a:Int) b))=true->jC ((x:Int)+1)/\∃(c:Nat),(((x:Int)+1=(c:Int)/\True)/\(q97_1 d k x).2.1=(q97_3 d k c).2.1/\(d.1.1=d.1.1/\True/\True/\True/\(q97_1 d k x).2.2.1=(q97_3 d k c).2.2.1/\(q97_1 d k x).2.2.2=(q97_3 d k c).2.2.2/\True)/\(q97_1 d k x).1.set d.2.1.toNat (nth (q97_5 d) (x:Int).toNat)=(q97_3 d k c).1/\True)/\(c<=(q97_5 d).length/\(q97_3 d k c).1.length=d.1.2.2.1.length)/\(q97_5 d).length-c<(q97_5 d).length-x)/\((!U.jaO (U.ro d.1.1) (a:Int) (U.kH (q97_2 d k x) (a:Int) b))=false->jC ((a:Int)+1)/\∃(c:Nat),(((a:Int)+1=(c:Int)/\True)/\True)/\(c<=(U.wg (U.ro d.1.1)).length/\U.vp (U.ro d.1.1) (q97_2 d k x) d.2.1.toNat c=true)/\(U.wg (U.ro d.1.1)).length-c<(U.wg (U.ro d.1.1)).length-a))))/\(decide ((a:Int)<(↑(q97_4 d).2.2.1.length:Int))=false->jC (d.2.1+1)/\d.1.1.isSome=true/\U.jr (U.jf (U.rd (U.ro d.1.1)))=true/\0<=nth (q97_5 d) (x:Int).toNat/\nth (q97_5 d) (x:Int).toNat<=1000000/\jC (d.2.2.1+U.vD (U.rd (U.ro d.1.1)) (nth (q97_5 d) (x:Int).toNat))/\U.jtT k (q97_6 d k x) (d.2.1+1) (d.2.2.1+U.vD (U.rd (U.ro d.1.1)) (nth (q97_5 d) (x:Int).toNat))/\jC ((x:Int)+1)/\∃(c:Nat),(((x:Int)+1=(c:Int)/\True)/\((q97_0 d k x).1=d.1.1/\True/\True/\True/\(q97_0 d k x).2.2.2.2.1=(q97_3 d k c).2.2.1/\(q97_0 d k x).2.2.2.2.2.1=(q97_3 d k c).2.2.2/\True)/\(q97_0 d k x).2.1=d.1.2.1/\(q97_0 d k x).2.2.2.1=(q97_3 d k c).2.1/\(q97_0 d k x).2.2.1=(q97_3 d k c).1/\True)/\(c<=(q97_5 d).length/\(q97_3 d k c).1.length=d.1.2.2.1.length)/\(q97_5 d).length-c<(q97_5 d).length-x)))/\(decide ((x:Int)<(↑(q97_5 d).length:Int))=false->()=()/\((d.1.1,d.1.2.1,(q97_1 d k x).1,(q97_1 d k x).2.1,(q97_1 d k x).2.2.1,(q97_1 d k x).2.2.2,()),())=(q97_7 d k))))))
theorem jcY:(jiK)=jam:=by kernel_rfl
end Go.X
namespace Go.X
open Go.Proofs
theorem jgf:jd5:=by
 rintro⟨l,⟨⟩⟩ a;have a:l.length<=100000:=a;exact⟨fun h=>(by cases h),fun _=>⟨by show(0+l.length)*8<=_;omega,rfl,rfl⟩⟩
theorem jeG:wD PR 82 vU:=jgK jgf Tryz.func82 kcN koN
theorem jtL (ts:List Int) (p:Int) (n:Nat):U.kH ts p (n+1)=U.kH ts p n++(if decide (va (nth ts n/2^p.toNat) 1=1)=true then[(n:Int)] else[]):=by
 unfold U.kH;rw[L.range_filter_succ,jEI];by_cases h:decide (va (nth ts n/2^p.toNat) 1=1)=true
 .rw[if_pos h,if_pos h];rfl
 .rw[if_neg h,if_neg h];rfl
theorem jot (ts:List Int) (p:Int) (n:Nat):(U.kH ts p n).length<=n:=by
 unfold U.kH;rw[jE2];exact jDV (List.length_filter_le _ _) (by simp)
theorem jvR {ts:List Int} {p:Int} {n:Nat} {b:Int} (h:b∈U.kH ts p n):0<=b/\b<(n:Int):=by
 unfold U.kH at h;obtain⟨i,hi,rfl⟩:=jEj.1 h;have:=jD3.1 (jD6.1 hi).1;omega
theorem jqU {r:RoD} {ts:List Int} {b n:Nat}:U.vp r ts b (n+1)=(U.vp r ts b n&&U.jaO r (n:Int) (U.kH ts (n:Int) (b+1))):=by
 unfold U.vp;rw[jEw,List.all_append];simp
theorem jos {r:RoD} {ts:List Int} {b n m:Nat} (a:m<n) (h:U.jaO r (m:Int) (U.kH ts (m:Int) (b+1))=false):U.vp r ts b n=false:=by
 unfold U.vp;rw[jEM];exact⟨m,jD3.2 a,by rw[h];simp⟩
theorem jnP {r:RoD} {ch:List (List Int)} {k b:Nat} {fee:Int} {x:StD} {n:Nat} (h:n<(nth ch b).length):U.jl r ch k b fee x (n+1)=U.jl3 r ch k b fee (U.jl r ch k b fee x n) (nth (nth ch b) n):=by
 unfold U.jl;rw[L.take_succ h,jEi];rfl
theorem jnO {r:RoD} {ch:List (List Int)} {k b:Nat} {fee:Int} {x:StD} (a:(x.2.2.2&&decide (x.2.2.1<=fee))=false) (c:b≠(U.jp (U.rd r)).length):U.wR r ch (k+1) b fee x=U.jl r ch k b fee x (nth ch b).length:=by
 show(if(x.2.2.2&&decide (x.2.2.1<=fee))=true then x else if b=(U.jp (U.rd r)).length then(x.1,x.1,fee,true) else(nth ch b).foldl (U.jl3 r ch k b fee) x)=_;rw[a,if_neg (by simp),if_neg c];unfold U.jl;rw[jEx (jDJ _)]
mutual
theorem jx3 {r:RoD} {ch:List (List Int)}:∀(k b:Nat) (fee:Int) (x:StD),(U.wR r ch k b fee x).1.length=x.1.length
 |0,_,_,_=>rfl
 |k+1,b,fee,x=>by
  by_cases a:(x.2.2.2&&decide (x.2.2.1<=fee))=true
  .show(if(x.2.2.2&&decide (x.2.2.1<=fee))=true then x else _).1.length=_
   rw[if_pos a]
  .by_cases c:b=(U.jp (U.rd r)).length
   .show(if(x.2.2.2&&decide (x.2.2.1<=fee))=true then x else if b=(U.jp (U.rd r)).length then(x.1,x.1,fee,true) else _).1.length=_
    rw[if_neg a,if_pos c]
   .rw[jnO (by simpa using a) c]
    exact jl2 k b fee x _ (jDJ _)
termination_by k=>(k,0)
theorem jl2 {r:RoD} {ch:List (List Int)}:∀(k b:Nat) (fee:Int) (x:StD) (n:Nat),n<=(nth ch b).length->(U.jl r ch k b fee x n).1.length=x.1.length
 |_,_,_,_,0,_=>rfl
 |k,b,fee,x,n+1,h=>by
  rw[jnP h]
  have d:=jl2 (r:=r) (ch:=ch) k b fee x n (by omega)
  unfold U.jl3
  split
  .rw[jx3 k]
   show((U.jl r ch k b fee x n).1.set b _).length=_
   rw[List.length_set,d]
  .show((U.jl r ch k b fee x n).1.set b _).length=_
   rw[List.length_set,d]
termination_by k _ _ _ n=>(k,n+1)
end
theorem jjq:jam:=by
 unfold jam q97_7 q97_0 q97_6 q97_2 q97_5 q97_4 q97_3 q97_1;rintro k ⟨s,b,fee,⟨⟩⟩ h0;obtain⟨g,d,Q,⟨M,D⟩,S,⟨V,b1,b2⟩,f0,f1⟩:U.jtT (k+1) s b fee:=h0;obtain⟨B,hB⟩:∃B:Nat,b=(B:Int):=⟨b.toNat,by omega⟩;subst hB;have I:=d.1;have hb4:(U.jp (U.rd (U.ro s.1))).length<=4:=(j6 I.2.2).1;have h8:(U.jh (U.jf (U.rd (U.ro s.1)))).length<=8:=(jG I.1).2.2.1;refine⟨fun h=>⟨rfl,?_⟩,fun h=>⟨g,fun _=>⟨fun A=>⟨?_,rfl,?_⟩,fun A=> ?_⟩⟩⟩
 .have h:((U.jj s).2.2.2&&decide ((U.jj s).2.2.1<=fee))=true:=h;have e:U.wR (U.ro s.1) s.2.1 (k+1) B fee (U.jj s)=U.jj s:=by
   show(if((U.jj s).2.2.2&&decide ((U.jj s).2.2.1<=fee))=true then U.jj s else _)=_;rw[if_pos h]
  show(s,())=(U.qQ s (U.wR (U.ro s.1) s.2.1 (k+1) B fee (U.jj s)),());rw[e];rfl
 .show s.2.2.1.length<=100000;omega
 .have A:(B:Int)=((U.jp (U.rd (U.ro s.1))).length:Int):=of_decide_eq_true A;have h:((U.jj s).2.2.2&&decide ((U.jj s).2.2.1<=fee))=false:=h;have e:U.wR (U.ro s.1) s.2.1 (k+1) B fee (U.jj s)=(s.2.2.1,s.2.2.1,fee,true):=by
   show(if((U.jj s).2.2.2&&decide ((U.jj s).2.2.1<=fee))=true then U.jj s else if B=(U.jp (U.rd (U.ro s.1))).length then((U.jj s).1,(U.jj s).1,fee,true) else _)=_;rw[h,if_neg (by simp),if_pos (by omega)];rfl
  show((s.1,s.2.1,s.2.2.1,s.2.2.1,fee,true,()),())=(U.qQ s (U.wR (U.ro s.1) s.2.1 (k+1) B fee (U.jj s)),());rw[e];rfl
 have A:¬(B:Int)=((U.jp (U.rd (U.ro s.1))).length:Int):=of_decide_eq_false A;have h:((U.jj s).2.2.2&&decide ((U.jj s).2.2.1<=fee))=false:=h;have hBn:B<(U.jp (U.rd (U.ro s.1))).length:=(by omega);have C:=jnO (r:=U.ro s.1) (ch:=s.2.1) (k:=k) (b:=B) (fee:=fee) h (by omega);have u:jC ((B:Int)+1):=L.in64 (by omega) (by omega);have K:0<=(B:Int)+1:=(by omega);refine⟨V,by show(B:Int)<(s.2.1.length:Int);omega,fun E=>⟨⟨0,⟨⟨rfl,trivial⟩,⟨rfl,trivial,trivial,trivial,rfl,rfl,trivial⟩,rfl,rfl,trivial⟩,jDU _,rfl⟩,fun x hx=>⟨fun z=> ?_,fun z=>⟨rfl,?_⟩⟩⟩⟩
 .have z:(x:Int)<((nth s.2.1 B).length:Int):=of_decide_eq_true z;have E:(nth s.2.1 B).length<4611686018427387904:=E;have m:x<(nth s.2.1 B).length:=(by omega);obtain⟨_,F⟩:x<=(nth s.2.1 B).length/\(U.jl (U.ro s.1) s.2.1 k B fee (U.jj s) x).1.length=s.2.2.1.length:=hx;have f:=jnP (r:=U.ro s.1) (ch:=s.2.1) (k:=k) (b:=B) (fee:=fee) (x:=U.jj s) m;have o:=jl2 (r:=U.ro s.1) (ch:=s.2.1) k B fee (U.jj s) (x+1) (by omega);have o:(U.jl (U.ro s.1) s.2.1 k B fee (U.jj s) (x+1)).1.length=s.2.2.1.length:=o;have Z:=D _ (L.mem_nth (l:=s.2.1) (i:=B) (by omega)) _ (L.mem_nth m);have up:x+1<=(nth s.2.1 B).length:=m;have W:(nth s.2.1 B).length-(x+1)<(nth s.2.1 B).length-x:=(by omega);have tl:((U.jl (U.ro s.1) s.2.1 k B fee (U.jj s) x).1.set B (nth (nth s.2.1 B) x)).length=(U.jp (U.rd (U.ro s.1))).length:=by
   rw[List.length_set,F,S]
  refine⟨by omega,z,V,by show(B:Int)<((U.jl (U.ro s.1) s.2.1 k B fee (U.jj s) x).1.length:Int);omega,g,fun _=>⟨⟨0,⟨⟨rfl,trivial⟩,trivial⟩,jDU _,rfl⟩,fun p Y=>⟨fun w=>⟨u,jEB 0,K,?_,fun _=>⟨⟨0,⟨⟨rfl,trivial,trivial⟩,rfl,trivial⟩,jDU _⟩,fun j J=>⟨fun t=> ?_,fun t=> ?_⟩⟩⟩,fun w=> ?_⟩⟩⟩
  .show(B:Int)+1<=(((U.jl (U.ro s.1) s.2.1 k B fee (U.jj s) x).1.set B (nth (nth s.2.1 B) x)).length:Int);rw[tl];omega
  .have t:(j:Int)<((((B:Int)+1).toNat-Int.toNat 0:Nat):Int):=of_decide_eq_true t;have H:((B:Int)+1).toNat-Int.toNat 0=B+1:=(by simp only[Int.toNat_zero];omega);rw[H] at t;have w:(p:Int)<((U.wg (U.ro s.1)).length:Int):=of_decide_eq_true w;have J:j<=B+1:=J;have q:=jtL ((U.jl (U.ro s.1) s.2.1 k B fee (U.jj s) x).1.set B (nth (nth s.2.1 B) x)) (p:Int) j;have P:=jot ((U.jl (U.ro s.1) s.2.1 k B fee (U.jj s) x).1.set B (nth (nth s.2.1 B) x)) (p:Int) j;have e0:Int.toNat 0+(j:Int).toNat=j:=(by simp);have X:∀T:Bool,decide (va (nth ((U.jl (U.ro s.1) s.2.1 k B fee (U.jj s) x).1.set B (nth (nth s.2.1 B) x)) (Int.toNat 0+(j:Int).toNat)/2^(p:Int).toNat) 1=1)=T->decide (va (nth ((U.jl (U.ro s.1) s.2.1 k B fee (U.jj s) x).1.set B (nth (nth s.2.1 B) x)) j/2^(p:Int).toNat) 1=1)=T:=by
    intro T G;rw[e0] at G;exact G
   refine⟨by omega,by show(j:Int)<((((B:Int)+1).toNat-Int.toNat 0:Nat):Int);rw[H];exact t,by omega,by omega,fun a=>⟨?_,L.in64 (by omega) (by omega),j+1,⟨⟨by simp,trivial,trivial⟩,?_,trivial⟩,by show j+1<=B+1;omega,by show B+1-(j+1)<B+1-j;omega⟩,fun a=>⟨L.in64 (by omega) (by omega),j+1,⟨⟨trivial,by simp,trivial⟩,?_,trivial⟩,by show j+1<=B+1;omega,by show B+1-(j+1)<B+1-j;omega⟩⟩
   .show((U.kH ((U.jl (U.ro s.1) s.2.1 k B fee (U.jj s) x).1.set B (nth (nth s.2.1 B) x)) (p:Int) j).length+1)*8<=140737488355328;omega
   .rw[X _ a,if_pos rfl] at q;exact q.symm
   .rw[X _ a,if_neg (by simp),jEb] at q;exact q.symm
  .have t:¬(j:Int)<((((B:Int)+1).toNat-Int.toNat 0:Nat):Int):=of_decide_eq_false t;have H:((B:Int)+1).toNat-Int.toNat 0=B+1:=(by simp only[Int.toNat_zero];omega);rw[H] at t;have w:(p:Int)<((U.wg (U.ro s.1)).length:Int):=of_decide_eq_true w;have J:j<=B+1:=J;have N:j=B+1:=(by omega);subst N;have P:=jot ((U.jl (U.ro s.1) s.2.1 k B fee (U.jj s) x).1.set B (nth (nth s.2.1 B) x)) (p:Int) (B+1);obtain⟨_,y⟩:p<=(U.wg (U.ro s.1)).length/\U.vp (U.ro s.1) ((U.jl (U.ro s.1) s.2.1 k B fee (U.jj s) x).1.set B (nth (nth s.2.1 B) x)) B p=true:=Y;refine⟨g,d,⟨by omega,by show(p:Int)<((U.jh (U.jf (U.rd (U.ro s.1)))).length:Int);omega⟩,⟨by show(U.kH ((U.jl (U.ro s.1) s.2.1 k B fee (U.jj s) x).1.set B (nth (nth s.2.1 B) x)) (p:Int) (B+1)).length<=12;omega,fun c hc=> ?_⟩,fun a=> ?_,fun a=> ?_⟩
   .have:=jvR hc;exact⟨this.1,by show c<((U.jp (U.rd (U.ro s.1))).length:Int);omega⟩
   .have a:(!U.jaO (U.ro s.1) (p:Int) (U.kH ((U.jl (U.ro s.1) s.2.1 k B fee (U.jj s) x).1.set B (nth (nth s.2.1 B) x)) (p:Int) (B+1)))=true:=a;have a:U.jaO (U.ro s.1) (p:Int) (U.kH ((U.jl (U.ro s.1) s.2.1 k B fee (U.jj s) x).1.set B (nth (nth s.2.1 B) x)) (p:Int) (B+1))=false:=(by simpa using a);have O:=jos (n:=(U.wg (U.ro s.1)).length) (by omega) a;have e:U.jl (U.ro s.1) s.2.1 k B fee (U.jj s) (x+1)=((U.jl (U.ro s.1) s.2.1 k B fee (U.jj s) x).1.set B (nth (nth s.2.1 B) x),(U.jl (U.ro s.1) s.2.1 k B fee (U.jj s) x).2):=by
     rw[f];unfold U.jl3;rw[O,if_neg (by simp)]
    exact⟨L.in64 (by omega) (by omega),x+1,⟨⟨by simp,trivial⟩,congrArg (·.2.1) e.symm,⟨rfl,trivial,trivial,trivial,congrArg (·.2.2.1) e.symm,congrArg (·.2.2.2) e.symm,trivial⟩,congrArg (·.1) e.symm,trivial⟩,⟨up,o⟩,W⟩
   .have a:(!U.jaO (U.ro s.1) (p:Int) (U.kH ((U.jl (U.ro s.1) s.2.1 k B fee (U.jj s) x).1.set B (nth (nth s.2.1 B) x)) (p:Int) (B+1)))=false:=a;have a:U.jaO (U.ro s.1) (p:Int) (U.kH ((U.jl (U.ro s.1) s.2.1 k B fee (U.jj s) x).1.set B (nth (nth s.2.1 B) x)) (p:Int) (B+1))=true:=(by simpa using a);refine⟨L.in64 (by omega) (by omega),p+1,⟨⟨by simp,trivial⟩,trivial⟩,⟨by show p+1<=(U.wg (U.ro s.1)).length;omega,?_⟩,by show(U.wg (U.ro s.1)).length-(p+1)<(U.wg (U.ro s.1)).length-p;omega⟩;show U.vp (U.ro s.1) ((U.jl (U.ro s.1) s.2.1 k B fee (U.jj s) x).1.set B (nth (nth s.2.1 B) x)) B (p+1)=true;rw[jqU,y,a];rfl
  .have w:¬(p:Int)<((U.wg (U.ro s.1)).length:Int):=of_decide_eq_false w;obtain⟨hp1,y⟩:p<=(U.wg (U.ro s.1)).length/\U.vp (U.ro s.1) ((U.jl (U.ro s.1) s.2.1 k B fee (U.jj s) x).1.set B (nth (nth s.2.1 B) x)) B p=true:=Y;have R:p=(U.wg (U.ro s.1)).length:=(by omega);subst R;have v:=jm0 I.1 (nth (nth s.2.1 B) x) _ (jDJ _);have v:0<=U.vD (U.rd (U.ro s.1)) (nth (nth s.2.1 B) x)/\U.vD (U.rd (U.ro s.1)) (nth (nth s.2.1 B) x)<=1000*((U.jh (U.jf (U.rd (U.ro s.1)))).length:Int):=v;have eB:((B:Int)+1).toNat=B+1:=(by omega);have e:U.jl (U.ro s.1) s.2.1 k B fee (U.jj s) (x+1)=U.wR (U.ro s.1) s.2.1 k ((B:Int)+1).toNat (fee+U.vD (U.rd (U.ro s.1)) (nth (nth s.2.1 B) x)) ((U.jl (U.ro s.1) s.2.1 k B fee (U.jj s) x).1.set B (nth (nth s.2.1 B) x),(U.jl (U.ro s.1) s.2.1 k B fee (U.jj s) x).2):=by
    rw[f,eB];unfold U.jl3;rw[if_pos y]
   refine⟨u,g,I.1,Z.1,by show nth (nth s.2.1 B) x<=1000000;have:=Z.2;omega,?_,⟨g,d,Q,⟨M,D⟩,tl,⟨by omega,by show(B:Int)+1<=((U.jp (U.rd (U.ro s.1))).length:Int);omega,by show((U.jp (U.rd (U.ro s.1))).length:Int)<(B:Int)+1+(k:Int);omega⟩,?_,?_⟩,L.in64 (by omega) (by omega),x+1,⟨⟨by simp,trivial⟩,⟨rfl,trivial,trivial,trivial,congrArg (·.2.2.1) e.symm,congrArg (·.2.2.2) e.symm,trivial⟩,rfl,congrArg (·.2.1) e.symm,congrArg (·.1) e.symm,trivial⟩,⟨up,o⟩,W⟩
   .show jC (fee+U.vD (U.rd (U.ro s.1)) (nth (nth s.2.1 B) x));exact L.in64 (by omega) (by omega)
   .show 0<=fee+U.vD (U.rd (U.ro s.1)) (nth (nth s.2.1 B) x);omega
   .show fee+U.vD (U.rd (U.ro s.1)) (nth (nth s.2.1 B) x)<=8000*((B:Int)+1);omega
 .have z:¬(x:Int)<((nth s.2.1 B).length:Int):=of_decide_eq_false z;have hx1:x<=(nth s.2.1 B).length:=hx.1;have m:x=(nth s.2.1 B).length:=(by omega);subst m;show((s.1,s.2.1,(U.jl (U.ro s.1) s.2.1 k B fee (U.jj s) (nth s.2.1 B).length).1,(U.jl (U.ro s.1) s.2.1 k B fee (U.jj s) (nth s.2.1 B).length).2.1,(U.jl (U.ro s.1) s.2.1 k B fee (U.jj s) (nth s.2.1 B).length).2.2.1,(U.jl (U.ro s.1) s.2.1 k B fee (U.jj s) (nth s.2.1 B).length).2.2.2,()),())=(U.qQ s (U.wR (U.ro s.1) s.2.1 (k+1) B fee (U.jj s)),());rw[C];rfl
theorem jar:∀k:Nat,wD PR 41 (qL k)
 |0=>⟨wi Tryz.func41 (c:=zz Tryz.f41) (by kernel_rfl) (by kernel_rfl),fun H w vals d bs _ _ _ b=>by
  obtain⟨⟨_,_,_,_,_,⟨e,f,a⟩,_⟩,_⟩:=b
  exact absurd a (by omega)⟩
 |k+1=>jAL (jcY.mpr jjq k) Tryz.func41 (by kernel_rfl) (by kernel_rfl) (by kernel_rfl) (by kernel_rfl) (by kernel_rfl) ⟨fun _=>jbm,fun _=>jiP,trivial⟩ ⟨jeG,jar k,trivial⟩
end Go.X
namespace Go.X
open Go.Proofs
namespace U
def jBf (r:RoD) (b:Int) (t:Nat):Bool:=decide (juF (t:Int) (nth (yU r) b.toNat)=0)&&jwZ (rd r) b (t:Int)
def wY (r:RoD) (b:Int) (n:Nat):List Int:=((List.range n).filter (jBf r b)).map (fun(t:Nat)=>(t:Int))
def ki (r:RoD) (n:Nat):List (List Int):=(List.range n).map (fun(b:Nat)=>wY r (b:Int) (2^(jh (jf (rd r))).length))
def jCW (d:DyD):StD:=wR (jnm d) (ki (jnm d) (jp d).length) 5 0 0 (List.replicate (jp d).length 0,q8,0,false)
def jdh (d:DyD):Int:=if jw d=0 then(if(jCW d).2.2.2=true then 0 else 3) else jw d
def jhl (d:DyD):List Int:=if jdh d=0 then(jCW d).2.1 else[]
def jhk (d:DyD):Int:=if jdh d=0 then(jCW d).2.2.1 else 0
end U
def jvj:jR:=⟨[.val tDy],[.slice .int,.int,.int],false,fun d=>[(U.zv d.1).length<=100000],fun d=>(U.jhl d.1,U.jhk d.1,U.jdh d.1,())⟩
def jxG:Ann:=fun r=>match r with
 |6=>some fun σ=>{X:=Nat,sl:=fun i=>[(28,.dat .int (i:Int))],ob:=fun i=>[(24,some (.box 70 false (((bx σ 24).set 1 (.own (yS 24 1) (.slice .int))).set 3 (.own (yS 24 3) .int)))),(yS 24 3,some (.row 3 .int false .yes U.q8)),(yS 24 1,some (.row 33 (.slice .int) false .yes (U.ki (U.ro (gd (.ptr tRo) σ 5)) i)))],inv:=fun i=>i<=(U.jp (gb tDy σ 1)).length,mu:=fun i=>(U.jp (gb tDy σ 1)).length-i}
 |10=>some fun σ=>{X:=Nat,sl:=fun t=>[(36,.dat .int (t:Int)),(8,.own 8 .int)],ob:=fun t=>[(8,some (.row 3 .int false .yes (U.wY (U.ro (gd (.ptr tRo) σ 5)) (gd .int σ 7) t)))],inv:=fun t=>t<=2^(U.jh (U.jf (gb tDy σ 1))).length,mu:=fun t=>2^(U.jh (U.jf (gb tDy σ 1))).length-t}
 |_=>none
abbrev q98_3 (d:DyD×Unit):=(U.ro (U.zr d.1))
abbrev q98_4 (d:DyD×Unit):=(jS ((((0:Int),[],[],()),[],[],(0:Int),(0:Int),[],()),[],[],[],()) (U.zr d.1))
abbrev q98_1 (a:Nat)(d:DyD×Unit)(x:Nat):=(juF (a:Int) (nth (q98_4 d).2.1 (x:Int).toNat)=0)
abbrev q98_5 (d:DyD×Unit):=(d.1.2.2.1.length:Int)
abbrev q98_2 (d:DyD×Unit)(x:Nat):=(U.zr d.1,U.ki (q98_3 d) x,List.replicate (q98_5 d).toNat (0:Int),U.q8,(0:Int),false,())
abbrev q98_0 (d:DyD×Unit)(x:Nat):=(U.qQ (q98_2 d x) (U.wR (q98_3 d) (U.ki (q98_3 d) x) 5 (Int.toNat 0) (0:Int) (U.jj (q98_2 d x))))
abbrev q98_6 (d:DyD×Unit):=(U.zr d.1=U.zr d.1/\True/\True/\True/\(0:Int)=0/\false=false/\True)
abbrev q98_7 (d:DyD×Unit):=(U.jh (U.jf d.1))
abbrev q98_8 (d:DyD×Unit):=(U.jhl d.1,U.jhk d.1,U.jdh d.1,())
abbrev q98_9 (d:DyD×Unit):=(d.1.1.2.1.length:Int)
def juZ:Prop:=∀(d:DyD×Unit),(U.zv d.1).length<=100000->(U.zv d.1).length<=100000/\(decide (U.jw d.1≠0)=true->([],(0:Int),U.jw d.1,())=(q98_8 d))/\(decide (U.jw d.1≠0)=false->d.1.2.2.1.length<4611686018427387904->0<=(q98_5 d)/\(q98_5 d)=(q98_5 d)/\(q98_5 d).toNat*8<=140737488355328/\(d.1.2.2.1.length<4611686018427387904->(∃(x:Nat),((0=(x:Int)/\True)/\(q98_6 d)/\U.q8=[]/\U.ki (q98_3 d) x=[]/\True)/\x<=(U.jp d.1).length)/\∀(x:Nat),x<=(U.jp d.1).length->(decide ((x:Int)<(q98_5 d))=true->d.1.1.2.1.length<4611686018427387904->0<=(q98_9 d)/\(q98_9 d)<=64/\jC ((1:Int)*2^(q98_9 d).toNat)/\(∃(a:Nat),((0=(a:Int)/\True/\True)/\U.wY (q98_3 d) (x:Int) a=[]/\True)/\a<=2^(q98_7 d).length)/\∀(a:Nat),a<=2^(q98_7 d).length->(decide ((a:Int)<1*2^(q98_9 d).toNat)=true->(U.zr d.1).isSome=true/\0<=(x:Int)/\(x:Int)<(↑(q98_4 d).2.1.length:Int)/\(decide (q98_1 a d x)=true->(U.zr d.1).isSome=true)/\(decide (q98_1 a d x)=true->U.qV (U.rd (q98_3 d)) (x:Int))/\((decide (q98_1 a d x)&&U.jwZ (U.rd (q98_3 d)) (x:Int) (a:Int))=true->((U.wY (q98_3 d) (x:Int) a).length+[(a:Int)].length)*8<=140737488355328/\jC ((a:Int)+1)/\∃(b:Nat),(((a:Int)+1=(b:Int)/\True/\True)/\U.wY (q98_3 d) (x:Int) a++[(a:Int)]=U.wY (q98_3 d) (x:Int) b/\True)/\b<=2^(q98_7 d).length/\2^(q98_7 d).length-b<2^(q98_7 d).length-a)/\((decide (q98_1 a d x)&&U.jwZ (U.rd (q98_3 d)) (x:Int) (a:Int))=false->jC ((a:Int)+1)/\∃(b:Nat),((True/\(a:Int)+1=(b:Int)/\True)/\U.wY (q98_3 d) (x:Int) a=U.wY (q98_3 d) (x:Int) b/\True)/\b<=2^(q98_7 d).length/\2^(q98_7 d).length-b<2^(q98_7 d).length-a))/\(decide ((a:Int)<1*2^(q98_9 d).toNat)=false->((U.ki (q98_3 d) x).length+[U.wY (q98_3 d) (x:Int) a].length)*24<=140737488355328/\jC ((x:Int)+1)/\∃(b:Nat),(((x:Int)+1=(b:Int)/\True)/\U.q8=U.q8/\(q98_6 d)/\U.ki (q98_3 d) x++[U.wY (q98_3 d) (x:Int) a]=U.ki (q98_3 d) b/\True)/\b<=(U.jp d.1).length/\(U.jp d.1).length-b<(U.jp d.1).length-x))/\(decide ((x:Int)<(q98_5 d))=false->U.jtT 5 (q98_2 d x) (0:Int) (0:Int)/\((!(q98_0 d x).2.2.2.2.2.1)=true->([],(0:Int),(3:Int),())=(q98_8 d))/\((!(q98_0 d x).2.2.2.2.2.1)=false->((q98_0 d x).2.2.2.1,(q98_0 d x).2.2.2.2.1,(0:Int),())=(q98_8 d)))))
end Go.X
namespace Go.X
open Go.Proofs
theorem juA (r:RoD) (b:Int) (n:Nat):U.wY r b (n+1)=U.wY r b n++(if U.jBf r b n=true then[(n:Int)] else[]):=by
 unfold U.wY;rw[L.range_filter_succ,jEI];by_cases h:U.jBf r b n=true
 .rw[if_pos h,if_pos h];rfl
 .rw[if_neg h,if_neg h];rfl
theorem jxu (r:RoD) (b:Int) (n:Nat):(U.wY r b n).length<=n:=by
 unfold U.wY;rw[jE2];exact jDV (List.length_filter_le _ _) (by simp)
theorem jpE {r:RoD} {b:Int} {n:Nat} {t:Int} (h:t∈U.wY r b n):0<=t/\t<(n:Int):=by
 unfold U.wY at h;obtain⟨i,hi,rfl⟩:=jEj.1 h;have:=jD3.1 (jD6.1 hi).1;omega
theorem jxt (r:RoD) (n:Nat):U.ki r (n+1)=U.ki r n++[U.wY r (n:Int) (2^(U.jh (U.jf (U.rd r))).length)]:=by
 unfold U.ki;rw[jEw,jEI];rfl
theorem jsY (r:RoD) (n:Nat):(U.ki r n).length=n:=by unfold U.ki;simp
theorem jzB {n:Nat} (h:n<=8):(2:Nat)^n<=256:=jDV (Nat.pow_le_pow_right (by decide) h) (by decide)
theorem jCX {d:DyD} (hk:U.jw d=0):U.jtT 5 (some (U.jnm d),U.ki (U.jnm d) (U.jp d).length,List.replicate (U.jp d).length 0,U.q8,0,false,()) 0 0:=by
 have c:=jsp hk;have i:(U.jp d).length<=4:=(j6 c.may.1.2.2).1;have h:(U.jh (U.jf d)).length<=8:=(jG c.may.1.1).2.2.1;refine⟨rfl,c.may,c.len,⟨jsY _ _,fun l a t e=> ?_⟩,jEG,⟨jEB 0,by show(0:Int)<=((U.jp d).length:Int);omega,by show((U.jp d).length:Int)<0+((5:Nat):Int);omega⟩,jEB 0,by omega⟩;have a:l∈U.ki (U.jnm d) (U.jp d).length:=a;unfold U.ki at a;obtain⟨b,_,rfl⟩:=jEj.1 a;have:=jpE e;have f:=jzB h;have g:(2:Nat)^(U.jh (U.jf (U.rd (U.jnm d)))).length<=256:=f;have:t<((2^(U.jh (U.jf (U.rd (U.jnm d)))).length:Nat):Int):=this.2;refine⟨(jpE e).1,by omega⟩
theorem jyO:juZ:=by
 unfold juZ q98_9 q98_8 q98_7 q98_6 q98_0 q98_2 q98_5 q98_1 q98_4 q98_3;rintro⟨d,⟨⟩⟩ A;refine⟨A,fun h=> ?_,fun h=> ?_⟩
 .have h:U.jw d≠0:=of_decide_eq_true h;have e:U.jdh d=U.jw d:=(by unfold U.jdh;rw[if_neg h]);show([],(0:Int),U.jw d,())=(U.jhl d,U.jhk d,U.jdh d,());unfold U.jhl U.jhk;rw[e,if_neg h,if_neg h]
 have hk:U.jw d=0:=Classical.not_not.1 (of_decide_eq_false h);have m:=jsp hk;have z:(U.jp d).length<=4:=(j6 m.may.1.2.2).1;have y:(U.jh (U.jf d)).length<=8:=(jG m.may.1.1).2.2.1;have s:=jzB y;have l:=jvW hk;have i:U.ro (U.zr d)=U.jnm d:=(by rw[l];rfl);have r:U.rd (U.ro (U.zr d))=d:=(by rw[i];rfl);have q:(U.zr d).isSome=true:=(by rw[l];rfl);have B:(U.yU (U.ro (U.zr d))).length=(U.jp d).length:=(by rw[i];exact m.may.2);refine fun _=>⟨jD9 _,rfl,?_,fun _=>⟨⟨0,⟨⟨rfl,trivial⟩,⟨rfl,trivial,trivial,trivial,rfl,rfl,trivial⟩,rfl,rfl,trivial⟩,jDU _⟩,fun x u=>⟨fun b _=>⟨jD9 _,?_,?_,⟨0,⟨⟨rfl,trivial,trivial⟩,rfl,trivial⟩,jDU _⟩,fun t j=>⟨fun a=> ?_,fun a=> ?_⟩⟩,fun b=> ?_⟩⟩⟩
 .show((U.jp d).length:Int).toNat*8<=140737488355328;omega
 .show((U.jh (U.jf d)).length:Int)<=64;omega
 .show jC (1*2^((U.jh (U.jf d)).length:Int).toNat);rw[jbi,jDN];have a:BT.Set' ((2:Int)^(U.jh (U.jf d)).length):=BT.two_set (by omega);unfold BT.Set' at a;exact L.in64 (by omega) (by omega)
 .have b:(x:Int)<((U.jp d).length:Int):=of_decide_eq_true b;have j:t<=2^(U.jh (U.jf d)).length:=j;have a:(t:Int)<1*2^((U.jh (U.jf d)).length:Int).toNat:=of_decide_eq_true a;rw[jbi,jDN,BT.two_nat] at a;have a:t<2^(U.jh (U.jf d)).length:=(by omega);have f:=juA (U.ro (U.zr d)) (x:Int) t;have g:=jxu (U.ro (U.zr d)) (x:Int) t;have w:U.qV (U.rd (U.ro (U.zr d))) (x:Int):=(by rw[r];exact⟨by omega,b⟩);have v:t+1<=2^(U.jh (U.jf d)).length:=(by omega);have p:2^(U.jh (U.jf d)).length-(t+1)<2^(U.jh (U.jf d)).length-t:=(by omega);refine⟨q,by omega,by show(x:Int)<((U.yU (U.ro (U.zr d))).length:Int);omega,fun _=>q,fun _=>w,fun c=> ?_,fun c=> ?_⟩
  .have c:U.jBf (U.ro (U.zr d)) (x:Int) t=true:=c;refine⟨?_,L.in64 (by omega) (by omega),t+1,⟨⟨by simp,trivial,trivial⟩,?_,trivial⟩,v,p⟩
   .show((U.wY (U.ro (U.zr d)) (x:Int) t).length+1)*8<=140737488355328;omega
   .rw[if_pos c] at f;exact f.symm
  .have c:U.jBf (U.ro (U.zr d)) (x:Int) t=false:=c;refine⟨L.in64 (by omega) (by omega),t+1,⟨⟨trivial,by simp,trivial⟩,?_,trivial⟩,v,p⟩;rw[if_neg (by rw[c];simp),jEb] at f;exact f.symm
 .have b:(x:Int)<((U.jp d).length:Int):=of_decide_eq_true b;have j:t<=2^(U.jh (U.jf d)).length:=j;have a:¬(t:Int)<1*2^((U.jh (U.jf d)).length:Int).toNat:=of_decide_eq_false a;rw[jbi,jDN,BT.two_nat] at a;have n:t=2^(U.jh (U.jf d)).length:=(by omega);have f:=jxt (U.ro (U.zr d)) x;rw[r,<-n] at f;have g:=jsY (U.ro (U.zr d)) x;refine⟨?_,L.in64 (by omega) (by omega),x+1,⟨⟨by simp,trivial⟩,rfl,⟨rfl,trivial,trivial,trivial,rfl,rfl,trivial⟩,f.symm,trivial⟩,by show x+1<=(U.jp d).length;omega,by show(U.jp d).length-(x+1)<(U.jp d).length-x;omega⟩;show((U.ki (U.ro (U.zr d)) x).length+1)*24<=140737488355328;omega
 .have b:¬(x:Int)<((U.jp d).length:Int):=of_decide_eq_false b;have u:x<=(U.jp d).length:=u;have o:x=(U.jp d).length:=(by omega);subst o;have k:U.wR (U.ro (U.zr d)) (U.ki (U.ro (U.zr d)) (U.jp d).length) 5 (Int.toNat 0) 0 (U.jj (U.zr d,U.ki (U.ro (U.zr d)) (U.jp d).length,List.replicate ((U.jp d).length:Int).toNat 0,U.q8,0,false,()))=U.jCW d:=by
   rw[i,jDN];rfl
  refine⟨?_,fun a=> ?_,fun a=> ?_⟩
  .show U.jtT 5 (U.zr d,U.ki (U.ro (U.zr d)) (U.jp d).length,List.replicate ((U.jp d).length:Int).toNat 0,U.q8,0,false,()) 0 0;rw[i,l,jDN];exact jCX hk
  .have a:(!(U.wR (U.ro (U.zr d)) (U.ki (U.ro (U.zr d)) (U.jp d).length) 5 (Int.toNat 0) 0 (U.jj (U.zr d,U.ki (U.ro (U.zr d)) (U.jp d).length,List.replicate ((U.jp d).length:Int).toNat 0,U.q8,0,false,()))).2.2.2)=true:=a;rw[k] at a;have a:(U.jCW d).2.2.2=false:=(by simpa using a);have e:U.jdh d=3:=(by unfold U.jdh;rw[if_pos hk,a,if_neg (by simp)]);show([],(0:Int),(3:Int),())=(U.jhl d,U.jhk d,U.jdh d,());unfold U.jhl U.jhk;rw[e];rfl
  .have a:(!(U.wR (U.ro (U.zr d)) (U.ki (U.ro (U.zr d)) (U.jp d).length) 5 (Int.toNat 0) 0 (U.jj (U.zr d,U.ki (U.ro (U.zr d)) (U.jp d).length,List.replicate ((U.jp d).length:Int).toNat 0,U.q8,0,false,()))).2.2.2)=false:=a;rw[k] at a;have a:(U.jCW d).2.2.2=true:=(by simpa using a);have e:U.jdh d=0:=(by unfold U.jdh;rw[if_pos hk,a,if_pos rfl]);show((U.wR (U.ro (U.zr d)) (U.ki (U.ro (U.zr d)) (U.jp d).length) 5 (Int.toNat 0) 0 (U.jj (U.zr d,U.ki (U.ro (U.zr d)) (U.jp d).length,List.replicate ((U.jp d).length:Int).toNat 0,U.q8,0,false,()))).2.1,(U.wR (U.ro (U.zr d)) (U.ki (U.ro (U.zr d)) (U.jp d).length) 5 (Int.toNat 0) 0 (U.jj (U.zr d,U.ki (U.ro (U.zr d)) (U.jp d).length,List.replicate ((U.jp d).length:Int).toNat 0,U.q8,0,false,()))).2.2.1,(0:Int),())=(U.jhl d,U.jhk d,U.jdh d,());rw[k];unfold U.jhl U.jhk;rw[e];rfl
theorem jv3:zh PR 12 jvj:=wt jxG jyO Tryz.func12 (kcC jhv kcN) (koC jbn (koC (jar 5) koN))
end Go.X
namespace Go.X
open Go.Proofs
def jn2:jR:=⟨[.val .int,.val .int,.val .int],[.bool],false,fun _=>[],fun d=>(U.ja d.1 d.2.1 d.2.2.1,())⟩
def jnE:Prop:=∀(d:Int×Int×Int×Unit),(decide (d.2.1<=d.1)&&decide (d.1<=d.2.2.1),())=(U.ja d.1 d.2.1 d.2.2.1,())
def jvk:jR:=⟨[.val .int,.val .int],[.bool],false,fun d=>[0<=d.2.1/\d.2.1<=63],fun d=>(U.qB d.1 d.2.1,())⟩
def ju0:Prop:=∀(d:Int×Int×Unit),0<=d.2.1/\d.2.1<=63->0<=d.2.1/\d.2.1<=18446744073709551615/\0<=d.2.1/\d.2.1<=64/\(decide (va (d.1/(2:Int)^d.2.1.toNat) (1:Int)=1),())=(U.qB d.1 d.2.1,())
def jn4:jR:=⟨[.val tCr],[.bool],false,fun _=>[],fun d=>(U.jr d.1,())⟩
def jpI:Ann:=fun r=>match r with
 |4=>some fun σ=>{X:=Nat,sl:=fun i=>[(3,.dat .int (i:Int))],ob:=fun _=>[],inv:=fun i=>i<=(U.jh (gb tCr σ 1)).length/\∀j:Nat,j<i->U.yn (U.la (gb tCr σ 1)) (nth (U.jh (gb tCr σ 1)) j)=true,mu:=fun i=>(U.jh (gb tCr σ 1)).length-i}
 |10=>some fun σ=>{X:=Nat,sl:=fun i=>[(5,.dat .int (i:Int))],ob:=fun _=>[],inv:=fun i=>i<=(U.lv (gb tPe σ 4)).length/\∀j:Nat,j<i->U.ja (nth (U.lv (gb tPe σ 4)) j) 0 5=true,mu:=fun i=>(U.lv (gb tPe σ 4)).length-i}
 |15=>some fun σ=>{X:=Nat,sl:=fun i=>[(6,.dat .int (i:Int))],ob:=fun _=>[],inv:=fun i=>i<=(U.zn (gb tPe σ 4)).length/\∀j:Nat,j<i->U.ja (nth (U.zn (gb tPe σ 4)) j) 0 99=true,mu:=fun i=>(U.zn (gb tPe σ 4)).length-i}
 |20=>some fun σ=>{X:=Nat,sl:=fun i=>[(7,.dat .int (i:Int))],ob:=fun _=>[],inv:=fun i=>i<=(U.kz (gb tCr σ 1)).length/\∀j:Nat,j<i->U.yP (nth (U.kz (gb tCr σ 1)) j)=true,mu:=fun i=>(U.kz (gb tCr σ 1)).length-i}
 |_=>none
abbrev q101_0 (d:CrD×Unit)(x:Nat):=(nth d.1.2.1 (x:Int).toNat)
abbrev q101_2 (d:CrD×Unit)(x:Nat):=(!U.ja (nth d.1.2.2.1 (x:Int).toNat).1 (1:Int) (5:Int)|| !U.ja (nth d.1.2.2.1 (x:Int).toNat).2.1 (1:Int) (8:Int))
abbrev q101_4 (d:CrD×Unit)(x:Nat):=(↑(q101_0 d x).1.length:Int)
abbrev q101_5 (d:CrD×Unit)(x:Nat):=(↑(q101_0 d x).2.2.2.1.length:Int)
abbrev q101_1 (d:CrD×Unit)(x:Nat):=(decide ((q101_4 d x)≠d.1.1)|| !U.ja (q101_0 d x).2.1 (0:Int) (255:Int)|| !U.ja (q101_0 d x).2.2.1 (0:Int) (255:Int)||decide ((10:Int)<(q101_5 d x))|| !U.ja (q101_0 d x).2.2.2.2.2.1 (0:Int) (1000:Int))
abbrev q101_6 (d:CrD×Unit):=(d.1.2.2.1.length:Int)
abbrev q101_3 (d:CrD×Unit):=(!U.ja d.1.1 (2:Int) (5:Int)||decide (8<(d.1.2.1.length:Int))||decide ((q101_6 d)≠4))
abbrev q101_7 (d:CrD×Unit)(x:Nat):=(U.zn (q101_0 d x))
def jnG:Prop:=∀(d:CrD×Unit),((!!U.ja d.1.1 (2:Int) (5:Int))=true->d.1.2.1.length<4611686018427387904)->((!(!U.ja d.1.1 (2:Int) (5:Int)||decide (8<(d.1.2.1.length:Int))))=true->d.1.2.2.1.length<4611686018427387904)->((q101_3 d)=true->(false,())=(U.jr d.1,()))/\((q101_3 d)=false->(∃(x:Nat),((0=(x:Int)/\True)/\True)/\x<=(U.jh d.1).length/\∀(j:Nat),j<x->U.yn (U.la d.1) (nth (U.jh d.1) j)=true)/\∀(x:Nat),(x<=(U.jh d.1).length/\∀(j:Nat),j<x->U.yn (U.la d.1) (nth (U.jh d.1) j)=true)->d.1.2.1.length<4611686018427387904->(decide ((x:Int)<(d.1.2.1.length:Int))=true->0<=(x:Int)/\(x:Int)<(d.1.2.1.length:Int)/\((q101_0 d x).1.length<4611686018427387904->((!(decide ((q101_4 d x)≠d.1.1)|| !U.ja (q101_0 d x).2.1 (0:Int) (255:Int)|| !U.ja (q101_0 d x).2.2.1 (0:Int) (255:Int)))=true->(q101_0 d x).2.2.2.1.length<4611686018427387904)->((q101_1 d x)=true->(false,())=(U.jr d.1,()))/\((q101_1 d x)=false->(∃(b:Nat),((0=(b:Int)/\True)/\True)/\b<=(U.lv (q101_0 d x)).length/\∀(j:Nat),j<b->U.ja (nth (U.lv (q101_0 d x)) j) (0:Int) 5=true)/\∀(b:Nat),(b<=(U.lv (q101_0 d x)).length/\∀(j:Nat),j<b->U.ja (nth (U.lv (q101_0 d x)) j) (0:Int) 5=true)->(q101_0 d x).1.length<4611686018427387904->(decide ((b:Int)<(q101_4 d x))=true->0<=(b:Int)/\(b:Int)<(q101_4 d x)/\((!U.ja (nth (q101_0 d x).1 (b:Int).toNat) (0:Int) (5:Int))=true->(false,())=(U.jr d.1,()))/\((!U.ja (nth (q101_0 d x).1 (b:Int).toNat) (0:Int) (5:Int))=false->jC ((b:Int)+1)/\∃(c:Nat),(((b:Int)+1=(c:Int)/\True)/\True)/\(c<=(U.lv (q101_0 d x)).length/\∀(j:Nat),j<c->U.ja (nth (U.lv (q101_0 d x)) j) (0:Int) 5=true)/\(U.lv (q101_0 d x)).length-c<(U.lv (q101_0 d x)).length-b))/\(decide ((b:Int)<(q101_4 d x))=false->(∃(a:Nat),((0=(a:Int)/\True)/\True)/\a<=(q101_7 d x).length/\∀(j:Nat),j<a->U.ja (nth (q101_7 d x) j) (0:Int) 99=true)/\∀(a:Nat),(a<=(q101_7 d x).length/\∀(j:Nat),j<a->U.ja (nth (q101_7 d x) j) (0:Int) 99=true)->(q101_0 d x).2.2.2.1.length<4611686018427387904->(decide ((a:Int)<(q101_5 d x))=true->0<=(a:Int)/\(a:Int)<(q101_5 d x)/\((!U.ja (nth (q101_0 d x).2.2.2.1 (a:Int).toNat) (0:Int) (99:Int))=true->(false,())=(U.jr d.1,()))/\((!U.ja (nth (q101_0 d x).2.2.2.1 (a:Int).toNat) (0:Int) (99:Int))=false->jC ((a:Int)+1)/\∃(c:Nat),(((a:Int)+1=(c:Int)/\True)/\True)/\(c<=(q101_7 d x).length/\∀(j:Nat),j<c->U.ja (nth (q101_7 d x) j) (0:Int) 99=true)/\(q101_7 d x).length-c<(q101_7 d x).length-a))/\(decide ((a:Int)<(q101_5 d x))=false->jC ((x:Int)+1)/\∃(c:Nat),(((x:Int)+1=(c:Int)/\True)/\True)/\(c<=(U.jh d.1).length/\∀(j:Nat),j<c->U.yn (U.la d.1) (nth (U.jh d.1) j)=true)/\(U.jh d.1).length-c<(U.jh d.1).length-x)))))/\(decide ((x:Int)<(d.1.2.1.length:Int))=false->(∃(x:Nat),((0=(x:Int)/\True)/\True)/\x<=(U.kz d.1).length/\∀(j:Nat),j<x->U.yP (nth (U.kz d.1) j)=true)/\∀(x:Nat),(x<=(U.kz d.1).length/\∀(j:Nat),j<x->U.yP (nth (U.kz d.1) j)=true)->d.1.2.2.1.length<4611686018427387904->(decide ((x:Int)<(q101_6 d))=true->0<=(x:Int)/\(x:Int)<(q101_6 d)/\((!!U.ja (nth d.1.2.2.1 (x:Int).toNat).1 (1:Int) (5:Int))=true->0<=(x:Int))/\((!!U.ja (nth d.1.2.2.1 (x:Int).toNat).1 (1:Int) (5:Int))=true->(x:Int)<(q101_6 d))/\((q101_2 d x)=true->(false,())=(U.jr d.1,()))/\((q101_2 d x)=false->jC ((x:Int)+1)/\∃(c:Nat),(((x:Int)+1=(c:Int)/\True)/\True)/\(c<=(U.kz d.1).length/\∀(j:Nat),j<c->U.yP (nth (U.kz d.1) j)=true)/\(U.kz d.1).length-c<(U.kz d.1).length-x))/\(decide ((x:Int)<(q101_6 d))=false->(true,())=(U.jr d.1,()))))
def jqr:jR:=⟨[.val tCr,.val tJb],[.bool],false,fun d=>[U.jr d.1=true],fun d=>(U.j7 d.1 d.2.1,())⟩
def jp7:Prop:=∀(d:CrD×JbD×Unit),U.jr d.1=true->jC (d.1.1-1)/\(U.ja d.2.1.1 (0:Int) (d.1.1-1)=true->jC (d.1.1-1))/\(U.ja d.2.1.1 (0:Int) (d.1.1-1)&&U.ja d.2.1.2.1 (0:Int) (d.1.1-1)&&decide (d.2.1.1≠d.2.1.2.1)&&U.ja d.2.1.2.2.1 (0:Int) (99:Int)&&U.ja d.2.1.2.2.2.1 (0:Int) (7:Int)&&U.ja d.2.1.2.2.2.2.1 (0:Int) (3:Int)&&U.ja d.2.1.2.2.2.2.2.1 (1:Int) (8:Int),())=(U.j7 d.1 d.2.1,())
def jtD:jR:=⟨[.val tPe,.val .int],[.bool],false,fun _=>[],fun d=>(U.jaZ d.1 d.2.1,())⟩
def juK:Ann:=fun r=>match r with
 |2=>some fun σ=>{X:=Nat,sl:=fun i=>[(5,.dat .int (i:Int))],ob:=fun _=>[],inv:=fun i=>i<=(U.zn (gb tPe σ 2)).length/\∀j:Nat,j<i->nth (U.zn (gb tPe σ 2)) j≠gd .int σ 1,mu:=fun i=>(U.zn (gb tPe σ 2)).length-i}
 |_=>none
def jtm:Prop:=∀(d:PeD×Int×Unit),(∃(x:Nat),((0=(x:Int)/\True)/\True)/\x<=(U.zn d.1).length/\∀(j:Nat),j<x->nth (U.zn d.1) j≠d.2.1)/\∀(x:Nat),(x<=(U.zn d.1).length/\∀(j:Nat),j<x->nth (U.zn d.1) j≠d.2.1)->d.1.2.2.2.1.length<4611686018427387904->(decide ((x:Int)<(d.1.2.2.2.1.length:Int))=true->0<=(x:Int)/\(x:Int)<(d.1.2.2.2.1.length:Int)/\(decide (nth d.1.2.2.2.1 (x:Int).toNat=d.2.1)=true->(true,())=(U.jaZ d.1 d.2.1,()))/\(decide (nth d.1.2.2.2.1 (x:Int).toNat=d.2.1)=false->jC ((x:Int)+1)/\∃(a:Nat),(((x:Int)+1=(a:Int)/\True)/\True)/\(a<=(U.zn d.1).length/\∀(j:Nat),j<a->nth (U.zn d.1) j≠d.2.1)/\(U.zn d.1).length-a<(U.zn d.1).length-x))/\(decide ((x:Int)<(d.1.2.2.2.1.length:Int))=false->(false,())=(U.jaZ d.1 d.2.1,()))
def jl6:jR:=⟨[.val tCr,.val tJb,.val .int],[.bool],false,fun d=>[0<=d.2.2.1/\d.2.2.1<((U.jh d.1).length:Int),U.j7 d.1 d.2.1=true],fun d=>(U.ky d.1 d.2.1 d.2.2.1,())⟩
abbrev q104_0 (d:CrD×JbD×Int×Unit):=(nth d.1.2.1 d.2.2.1.toNat)
def jlS:Prop:=∀(d:CrD×JbD×Int×Unit),0<=d.2.2.1/\d.2.2.1<(↑(U.jh d.1).length:Int)->U.j7 d.1 d.2.1=true->0<=d.2.2.1/\d.2.2.1<(d.1.2.1.length:Int)/\((!U.jaZ (q104_0 d) d.2.1.2.2.1)=true->0<=d.2.1.2.2.2.1/\d.2.1.2.2.2.1<=63)/\((!U.jaZ (q104_0 d) d.2.1.2.2.1&&U.qB (q104_0 d).2.1 d.2.1.2.2.2.1)=true->0<=d.2.1.2.2.2.2.1/\d.2.1.2.2.2.2.1<=63)/\(!U.jaZ (q104_0 d) d.2.1.2.2.1&&U.qB (q104_0 d).2.1 d.2.1.2.2.2.1&&U.qB (q104_0 d).2.2.1 d.2.1.2.2.2.2.1,())=(U.ky d.1 d.2.1 d.2.2.1,())
end Go.X
namespace Go.X
open Go.Proofs
theorem jrv:jnE:=by
 rintro⟨n,a,b,⟨⟩⟩;rfl
theorem jbp:zh PR 75 jn2:=jM jrv Tryz.func75 kcN koN
theorem jyP:ju0:=by
 rintro⟨s,n,⟨⟩⟩ ⟨a,b⟩;have a:0<=n:=a;have b:n<=63:=b;exact⟨a,by show n<=18446744073709551615;omega,a,by show n<=64;omega,rfl⟩
theorem joL:zh PR 36 jvk:=jM jyP Tryz.func36 kcN koN
theorem jyJ (c:CrD) (j:JbD):(U.ja (U.jyH j) 0 (U.la c-1)&&U.ja (U.jrb j) 0 (U.la c-1)&&decide (U.jyH j≠U.jrb j)&&U.ja (U.jBG j) 0 99&&U.ja (U.jyI j) 0 7&&U.ja (U.jyG j) 0 3&&U.ja (U.jCa j) 1 8)=U.j7 c j:=by
 unfold U.j7 U.ja;rw[jEk];simp only[jDK,decide_eq_true_eq,ne_eq];constructor
 .rintro⟨⟨⟨⟨⟨⟨⟨f,g⟩,h,i⟩,k⟩,l,m⟩,n,o⟩,a,b⟩,d,e⟩;exact⟨f,g,h,i,k,l,m,n,o,a,b,d,e⟩
 .rintro⟨f,g,h,i,k,l,m,n,o,a,b,d,e⟩;exact⟨⟨⟨⟨⟨⟨⟨f,g⟩,h,i⟩,k⟩,l,m⟩,n,o⟩,a,b⟩,d,e⟩
theorem juc:jp7:=by
 rintro⟨c,j,⟨⟩⟩ h;have h:U.jr c=true:=h;have d:=jG h;have a:jC (U.la c-1):=L.in64 (by omega) (by omega);refine⟨a,fun _=>a,?_⟩;exact congrArg (fun b=>(b,())) (jyJ c j)
theorem jq4:zh PR 50 jqr:=jM juc Tryz.func50 (kcC jbp kcN) koN
theorem jwT:jtm:=by
 rintro⟨p,n,⟨⟩⟩;refine⟨⟨0,⟨⟨rfl,trivial⟩,trivial⟩,jDU _,fun j d=>by omega⟩,fun x b c=>⟨fun h=> ?_,fun h=> ?_⟩⟩
 .have c:(U.zn p).length<4611686018427387904:=c;have h:(x:Int)<((U.zn p).length:Int):=of_decide_eq_true h;refine⟨by omega,h,fun a=> ?_,fun a=>⟨L.in64 (by omega) (by omega),x+1,⟨⟨by simp,trivial⟩,trivial⟩,⟨by show x+1<=(U.zn p).length;omega,fun j d=> ?_⟩,by show(U.zn p).length-(x+1)<(U.zn p).length-x;omega⟩⟩
  .have a:nth (U.zn p) x=n:=of_decide_eq_true a;have:U.jaZ p n=true:=by
    unfold U.jaZ;rw[jEF];exact⟨_,L.mem_nth (l:=U.zn p) (i:=x) (by omega),by simpa using a⟩
   show(true,())=(U.jaZ p n,());rw[this]
  .have a:¬nth (U.zn p) x=n:=of_decide_eq_false a;by_cases e:j=x
   .subst e;exact a
   .exact b.2 j (by omega)
 .have h:¬(x:Int)<((U.zn p).length:Int):=of_decide_eq_false h;have g:x<=(U.zn p).length:=b.1;have:U.jaZ p n=false:=by
   unfold U.jaZ;rw[jEq];intro t f;obtain⟨i,hi,rfl⟩:=L.mem_iff.1 f;have:=b.2 i (by omega);have this:nth (U.zn p) i≠n:=this;simpa using this
  show(false,())=(U.jaZ p n,());rw[this]
theorem jtS:zh PR 76 jtD:=wt juK jwT Tryz.func76 kcN koN
theorem jAS {c:CrD} {j:JbD} (h:U.j7 c j=true):(0<=U.jyH j/\U.jyH j<U.la c)/\(0<=U.jrb j/\U.jrb j<U.la c)/\(0<=U.jyI j/\U.jyI j<=7)/\(0<=U.jyG j/\U.jyG j<=3)/\1<=U.jCa j/\U.jCa j<=8:=by
 unfold U.j7 at h;have:=of_decide_eq_true h;omega
theorem jo9:jlS:=by
 unfold jlS q104_0;rintro⟨c,j,p,⟨⟩⟩ ⟨b,d⟩ a;have a:U.j7 c j=true:=a;obtain⟨_,_,f,k,_⟩:=jAS a;exact⟨b,d,fun _=>⟨f.1,by show U.jyI j<=63;omega⟩,fun _=>⟨k.1,by show U.jyG j<=63;omega⟩,rfl⟩
theorem jmv:zh PR 37 jl6:=jM jo9 Tryz.func37 (kcC jtS (kcC joL kcN)) koN
end Go.X
namespace Go.X
open Go.Proofs
end Go.X
namespace Go.X
open Go.Proofs
end Go.X
namespace Go.X
open Go.Proofs
theorem jyh (l:Int) (p:PeD):U.yn l p=(!(decide (((U.lv p).length:Int)≠l)|| !U.ja (U.fd p) 0 255|| !U.ja (U.cl p) 0 255||decide (10<((U.zn p).length:Int))|| !U.ja (U.fe p) 0 1000)&&((U.lv p).all (fun n=>U.ja n 0 5)&&(U.zn p).all (fun n=>U.ja n 0 99))):=by
 unfold U.yn;congr 1;rw[jEk];simp only[U.ja,jEd,jD7,decide_eq_false_iff_not,jED,jDK,decide_eq_true_eq];omega
theorem jhY (c:CrD):U.jr c=(!(!U.ja (U.la c) 2 5||decide (8<((U.jh c).length:Int))||decide (((U.kz c).length:Int)≠4))&&((U.jh c).all (U.yn (U.la c))&&(U.kz c).all U.yP)):=by
 unfold U.jr;congr 1;rw[jEk];simp only[U.ja,jEd,jD7,decide_eq_false_iff_not,jED,jDK,decide_eq_true_eq];omega
theorem jgo {c:CrD} {x:Nat} (a:x<(U.jh c).length) (h:U.yn (U.la c) (nth (U.jh c) x)=false):U.jr c=false:=by
 have:(U.jh c).all (U.yn (U.la c))=false:=jEM.2 ⟨_,L.mem_nth a,by rw[h];simp⟩;rw[jhY,this];simp
theorem jux {c:CrD} {x:Nat} (a:x<(U.kz c).length) (h:U.yP (nth (U.kz c) x)=false):U.jr c=false:=by
 have:(U.kz c).all U.yP=false:=jEM.2 ⟨_,L.mem_nth a,by rw[h];simp⟩;rw[jhY,this];simp
theorem jai {α:Type} [Inhabited α] {l:List α} {p:α->Bool} {x:Nat} (c:¬x<l.length) (h:∀j:Nat,j<x->p (nth l j)=true):l.all p=true:=by
 rw[jEf];intro a b;obtain⟨i,hi,rfl⟩:=L.mem_iff.1 b;exact h i (by omega)
theorem jbe {c:CrD} (h:U.jr c=false):(false,())=(U.jr c,()):=by rw[h]
theorem jrx:jnG:=by
 unfold jnG q101_7 q101_3 q101_6 q101_1 q101_5 q101_4 q101_2 q101_0;rintro⟨c,⟨⟩⟩ _ _;refine⟨fun h=> ?_,fun h=> ?_⟩
 .have h:(!U.ja (U.la c) 2 5||decide (8<((U.jh c).length:Int))||decide (((U.kz c).length:Int)≠4))=true:=h;refine jbe (c:=c) ?_;rw[jhY,h];rfl
 have B:(!U.ja (U.la c) 2 5||decide (8<((U.jh c).length:Int))||decide (((U.kz c).length:Int)≠4))=false:=h;clear h;refine⟨⟨0,⟨⟨rfl,trivial⟩,trivial⟩,jDU _,fun j k=>by omega⟩,fun x s r=>⟨fun h=> ?_,fun h=> ?_⟩⟩
 .have r:(U.jh c).length<4611686018427387904:=r;have h:(x:Int)<((U.jh c).length:Int):=of_decide_eq_true h;have m:x<(U.jh c).length:=(by omega);refine⟨by omega,h,fun _ _=>⟨fun g=> ?_,fun g=> ?_⟩⟩
  .have g:(decide (((U.lv (nth (U.jh c) x)).length:Int)≠U.la c)|| !U.ja (U.fd (nth (U.jh c) x)) 0 255|| !U.ja (U.cl (nth (U.jh c) x)) 0 255||decide (10<((U.zn (nth (U.jh c) x)).length:Int))|| !U.ja (U.fe (nth (U.jh c) x)) 0 1000)=true:=g;refine jbe (c:=c) (jgo m ?_);rw[jyh,g];rfl
  have g:(decide (((U.lv (nth (U.jh c) x)).length:Int)≠U.la c)|| !U.ja (U.fd (nth (U.jh c) x)) 0 255|| !U.ja (U.cl (nth (U.jh c) x)) 0 255||decide (10<((U.zn (nth (U.jh c) x)).length:Int))|| !U.ja (U.fe (nth (U.jh c) x)) 0 1000)=false:=g;refine⟨⟨0,⟨⟨rfl,trivial⟩,trivial⟩,jDU _,fun j k=>by omega⟩,fun y q d=>⟨fun b=> ?_,fun b=> ?_⟩⟩
  .have d:(U.lv (nth (U.jh c) x)).length<4611686018427387904:=d;have b:(y:Int)<((U.lv (nth (U.jh c) x)).length:Int):=of_decide_eq_true b;refine⟨by omega,b,fun a=> ?_,fun a=>⟨L.in64 (by omega) (by omega),y+1,⟨⟨by simp,trivial⟩,trivial⟩,⟨by show y+1<=(U.lv (nth (U.jh c) x)).length;omega,fun j k=> ?_⟩,by show(U.lv (nth (U.jh c) x)).length-(y+1)<(U.lv (nth (U.jh c) x)).length-y;omega⟩⟩
   .have a:(!U.ja (nth (U.lv (nth (U.jh c) x)) y) 0 5)=true:=a;have a:U.ja (nth (U.lv (nth (U.jh c) x)) y) 0 5=false:=(by simpa using a);refine jbe (c:=c) (jgo m ?_);have:(U.lv (nth (U.jh c) x)).all (fun n=>U.ja n 0 5)=false:=jEM.2 ⟨_,L.mem_nth (l:=U.lv (nth (U.jh c) x)) (i:=y) (by omega),by rw[a];simp⟩;rw[jyh,this];simp
   .have a:(!U.ja (nth (U.lv (nth (U.jh c) x)) y) 0 5)=false:=a;by_cases e:j=y
    .subst e;exact(show U.ja (nth (U.lv (nth (U.jh c) x)) j) 0 5=true by simpa using a)
    .exact q.2 j (by omega)
  have b:¬(y:Int)<((U.lv (nth (U.jh c) x)).length:Int):=of_decide_eq_false b;have u:(U.lv (nth (U.jh c) x)).all (fun n=>U.ja n 0 5)=true:=jai (by omega) q.2;refine⟨⟨0,⟨⟨rfl,trivial⟩,trivial⟩,jDU _,fun j k=>by omega⟩,fun z t o=>⟨fun a=> ?_,fun a=> ?_⟩⟩
  .have o:(U.zn (nth (U.jh c) x)).length<4611686018427387904:=o;have a:(z:Int)<((U.zn (nth (U.jh c) x)).length:Int):=of_decide_eq_true a;refine⟨by omega,a,fun f=> ?_,fun f=>⟨L.in64 (by omega) (by omega),z+1,⟨⟨by simp,trivial⟩,trivial⟩,⟨by show z+1<=(U.zn (nth (U.jh c) x)).length;omega,fun j k=> ?_⟩,by show(U.zn (nth (U.jh c) x)).length-(z+1)<(U.zn (nth (U.jh c) x)).length-z;omega⟩⟩
   .have f:(!U.ja (nth (U.zn (nth (U.jh c) x)) z) 0 99)=true:=f;have f:U.ja (nth (U.zn (nth (U.jh c) x)) z) 0 99=false:=(by simpa using f);refine jbe (c:=c) (jgo m ?_);have:(U.zn (nth (U.jh c) x)).all (fun n=>U.ja n 0 99)=false:=jEM.2 ⟨_,L.mem_nth (l:=U.zn (nth (U.jh c) x)) (i:=z) (by omega),by rw[f];simp⟩;rw[jyh,this];simp
   .have f:(!U.ja (nth (U.zn (nth (U.jh c) x)) z) 0 99)=false:=f;by_cases e:j=z
    .subst e;exact(show U.ja (nth (U.zn (nth (U.jh c) x)) j) 0 99=true by simpa using f)
    .exact t.2 j (by omega)
  have a:¬(z:Int)<((U.zn (nth (U.jh c) x)).length:Int):=of_decide_eq_false a;have v:(U.zn (nth (U.jh c) x)).all (fun n=>U.ja n 0 99)=true:=jai (by omega) t.2;refine⟨L.in64 (by omega) (by omega),x+1,⟨⟨by simp,trivial⟩,trivial⟩,⟨by show x+1<=(U.jh c).length;omega,fun j k=> ?_⟩,by show(U.jh c).length-(x+1)<(U.jh c).length-x;omega⟩;by_cases e:j=x
  .subst e;show U.yn (U.la c) (nth (U.jh c) j)=true;rw[jyh,g,u,v];rfl
  .exact s.2 j (by omega)
 have h:¬(x:Int)<((U.jh c).length:Int):=of_decide_eq_false h;have A:(U.jh c).all (U.yn (U.la c))=true:=jai (by omega) s.2;refine⟨⟨0,⟨⟨rfl,trivial⟩,trivial⟩,jDU _,fun j k=>by omega⟩,fun y q d=>⟨fun b=> ?_,fun b=> ?_⟩⟩
 .have d:(U.kz c).length<4611686018427387904:=d;have b:(y:Int)<((U.kz c).length:Int):=of_decide_eq_true b;have p:U.yP (nth (U.kz c) y)= !(!U.ja (U.jDq (nth (U.kz c) y)) 1 5|| !U.ja (U.jC2 (nth (U.kz c) y)) 1 8):=by
   unfold U.yP;rw[Bool.not_or,Bool.not_not,Bool.not_not]
  refine⟨by omega,b,fun _=>by omega,fun _=>b,fun a=> ?_,fun a=>⟨L.in64 (by omega) (by omega),y+1,⟨⟨by simp,trivial⟩,trivial⟩,⟨by show y+1<=(U.kz c).length;omega,fun j k=> ?_⟩,by show(U.kz c).length-(y+1)<(U.kz c).length-y;omega⟩⟩
  .have a:(!U.ja (U.jDq (nth (U.kz c) y)) 1 5|| !U.ja (U.jC2 (nth (U.kz c) y)) 1 8)=true:=a;exact jbe (c:=c) (jux (x:=y) (by omega) (by rw[p,a];rfl))
  .have a:(!U.ja (U.jDq (nth (U.kz c) y)) 1 5|| !U.ja (U.jC2 (nth (U.kz c) y)) 1 8)=false:=a;by_cases e:j=y
   .subst e;show U.yP (nth (U.kz c) j)=true;rw[p,a];rfl
   .exact q.2 j (by omega)
 .have b:¬(y:Int)<((U.kz c).length:Int):=of_decide_eq_false b;have w:(U.kz c).all U.yP=true:=jai (by omega) q.2;show(true,())=(U.jr c,());rw[jhY,B,A,w];rfl
theorem jgH:zh PR 49 jn4:=wt jpI jrx Tryz.func49 (kcC jbp kcN) koN
end Go.X
namespace Go.X
open Go.Proofs
def jn1:jR:=⟨[.val .int,.val .int,.val .int],[.bool],false,fun _=>[],fun d=>(U.ja d.1 d.2.1 d.2.2.1,())⟩
def jnD:Prop:=∀(d:Int×Int×Int×Unit),(decide (d.2.1<=d.1)&&decide (d.1<=d.2.2.1),())=(U.ja d.1 d.2.1 d.2.2.1,())
def jis:jR:=⟨[.val tDy,.val .int],[.bool],false,fun _=>[],fun d=>(U.jwD d.1 d.2.1,())⟩
def jif:Prop:=∀(d:DyD×Int×Unit),d.1.2.2.1.length<4611686018427387904->jC ((d.1.2.2.1.length:Int)-1)/\(U.ja d.2.1 (0:Int) ((d.1.2.2.1.length:Int)-1),())=(U.jwD d.1 d.2.1,())
def jkf:jR:=⟨[.val tDy,.val .int],[.bool],false,fun _=>[],fun d=>(U.jo0 d.1 d.2.1,())⟩
def jj7:Prop:=∀(d:DyD×Int×Unit),d.1.1.2.1.length<4611686018427387904->jC ((d.1.1.2.1.length:Int)-1)/\(U.ja d.2.1 (0:Int) ((d.1.1.2.1.length:Int)-1),())=(U.jo0 d.1 d.2.1,())
def jqp:jR:=⟨[.val tDy],[.bool],false,fun _=>[],fun d=>(U.zi d.1,())⟩
def jr3:Ann:=fun r=>match r with
 |4=>some fun σ=>{X:=Nat,sl:=fun i=>[(3,.dat .int (i:Int))],ob:=fun _=>[],inv:=fun i=>i<=(U.jz (gb tDy σ 1)).length/\∀j:Nat,j<i->U.qv (U.jz (gb tDy σ 1)).length (nth (U.jz (gb tDy σ 1)) j)=true,mu:=fun i=>(U.jz (gb tDy σ 1)).length-i}
 |9=>some fun σ=>{X:=Nat,sl:=fun i=>[(4,.dat .int (i:Int))],ob:=fun _=>[],inv:=fun i=>i<=(nth (U.jz (gb tDy σ 1)) (gd .int σ 3).toNat).length/\∀j:Nat,j<i->U.jeM (nth (nth (U.jz (gb tDy σ 1)) (gd .int σ 3).toNat) j)=true,mu:=fun i=>(nth (U.jz (gb tDy σ 1)) (gd .int σ 3).toNat).length-i}
 |15=>some fun σ=>{X:=Nat,sl:=fun i=>[(6,.dat .int (i:Int))],ob:=fun _=>[],inv:=fun i=>i<=(U.jp (gb tDy σ 1)).length/\∀j:Nat,j<i->U.jbq (U.jz (gb tDy σ 1)).length (nth (U.jp (gb tDy σ 1)) j)=true,mu:=fun i=>(U.jp (gb tDy σ 1)).length-i}
 |21=>some fun σ=>{X:=Nat,sl:=fun i=>[(8,.dat .int (i:Int))],ob:=fun _=>[],inv:=fun i=>i<=(U.zv (gb tDy σ 1)).length/\∀j:Nat,j<i->U.yO (U.jp (gb tDy σ 1)).length (U.jh (U.jf (gb tDy σ 1))).length (nth (U.zv (gb tDy σ 1)) j)=true,mu:=fun i=>(U.zv (gb tDy σ 1)).length-i}
 |_=>none
abbrev q108_4 (d:DyD×Unit)(x:Nat):=(nth d.1.2.1 (x:Int).toNat)
abbrev q108_2 (d:DyD×Unit)(x:Nat)(a:Nat):=(decide ((nth (q108_4 d x) (a:Int).toNat).1<0)||decide ((nth (q108_4 d x) (a:Int).toNat).2.1<(nth (q108_4 d x) (a:Int).toNat).1)||decide ((300:Int)<(nth (q108_4 d x) (a:Int).toNat).2.1))
abbrev q108_5 (d:DyD×Unit)(x:Nat):=(nth (U.jz d.1) (x:Int).toNat)
abbrev q108_6 (d:DyD×Unit):=(d.1.2.1.length:Int)
abbrev q108_7 (d:DyD×Unit)(x:Nat):=(nth d.1.2.2.2.2.2.1 (x:Int).toNat)
abbrev q108_0 (d:DyD×Unit)(x:Nat):=(!U.ja (q108_7 d x).1 (0:Int) (99:Int)|| !U.ja (q108_7 d x).2.1 (0:Int) (9999:Int)|| !U.ja (q108_7 d x).2.2.1 (1:Int) (2:Int)|| !U.jwD d.1 (q108_7 d x).2.2.2.1|| !U.jo0 d.1 (q108_7 d x).2.2.2.2.1)
abbrev q108_8 (d:DyD×Unit):=(d.1.2.2.1.length:Int)
abbrev q108_9 (x:Nat)(a:Nat):=(((x:Int)+1=(a:Int)/\True)/\True)
abbrev q108_10 (d:DyD×Unit)(x:Nat):=(nth d.1.2.2.1 (x:Int).toNat)
abbrev q108_1 (d:DyD×Unit)(x:Nat):=(!U.ja (q108_10 d x).2.1 (0:Int) ((q108_6 d)-1)||decide ((q108_10 d x).2.2.1<0)||decide ((q108_10 d x).2.2.2.1<=(q108_10 d x).2.2.1)||decide ((1440:Int)<(q108_10 d x).2.2.2.1))
abbrev q108_11 (d:DyD×Unit)(x:Nat):=(↑(q108_4 d x).length:Int)
abbrev q108_12 (d:DyD×Unit):=(d.1.2.2.2.2.2.1.length:Int)
abbrev q108_3 (d:DyD×Unit):=(decide (4<(q108_8 d))|| !U.ja (q108_6 d) (1:Int) (5:Int)|| !U.ja d.1.2.2.2.1 (0:Int) (300:Int)|| !U.ja d.1.2.2.2.2.1 (0:Int) (1440:Int)||decide (30<(q108_12 d)))
abbrev q108_13 (x:Nat):=((0=(x:Int)/\True)/\True)
def jp5:Prop:=∀(d:DyD×Unit),d.1.2.2.1.length<4611686018427387904->((!decide (4<(q108_8 d)))=true->d.1.2.1.length<4611686018427387904)->((!(decide (4<(q108_8 d))|| !U.ja (q108_6 d) (1:Int) (5:Int)|| !U.ja d.1.2.2.2.1 (0:Int) (300:Int)|| !U.ja d.1.2.2.2.2.1 (0:Int) (1440:Int)))=true->d.1.2.2.2.2.2.1.length<4611686018427387904)->((q108_3 d)=true->(false,())=(U.zi d.1,()))/\((q108_3 d)=false->(∃(x:Nat),(q108_13 x)/\x<=(U.jz d.1).length/\∀(j:Nat),j<x->U.qv (U.jz d.1).length (nth (U.jz d.1) j)=true)/\∀(x:Nat),(x<=(U.jz d.1).length/\∀(j:Nat),j<x->U.qv (U.jz d.1).length (nth (U.jz d.1) j)=true)->d.1.2.1.length<4611686018427387904->(decide ((x:Int)<(q108_6 d))=true->0<=(x:Int)/\(x:Int)<(q108_6 d)/\(decide ((q108_11 d x)≠(q108_6 d))=true->(false,())=(U.zi d.1,()))/\(decide ((q108_11 d x)≠(q108_6 d))=false->(∃(a:Nat),((0=(a:Int)/\True)/\True)/\a<=(q108_5 d x).length/\∀(j:Nat),j<a->U.jeM (nth (q108_5 d x) j)=true)/\∀(a:Nat),(a<=(q108_5 d x).length/\∀(j:Nat),j<a->U.jeM (nth (q108_5 d x) j)=true)->0<=(x:Int)/\(x:Int)<(q108_6 d)/\((q108_4 d x).length<4611686018427387904->(decide ((a:Int)<(q108_11 d x))=true->0<=(x:Int)/\(x:Int)<(q108_6 d)/\0<=(a:Int)/\(a:Int)<(q108_11 d x)/\((q108_2 d x a)=true->(false,())=(U.zi d.1,()))/\((q108_2 d x a)=false->jC ((a:Int)+1)/\∃(b:Nat),(((a:Int)+1=(b:Int)/\True)/\True)/\(b<=(q108_5 d x).length/\∀(j:Nat),j<b->U.jeM (nth (q108_5 d x) j)=true)/\(q108_5 d x).length-b<(q108_5 d x).length-a))/\(decide ((a:Int)<(q108_11 d x))=false->jC ((x:Int)+1)/\∃(b:Nat),(q108_9 x b)/\(b<=(U.jz d.1).length/\∀(j:Nat),j<b->U.qv (U.jz d.1).length (nth (U.jz d.1) j)=true)/\(U.jz d.1).length-b<(U.jz d.1).length-x))))/\(decide ((x:Int)<(q108_6 d))=false->(∃(x:Nat),(q108_13 x)/\x<=(U.jp d.1).length/\∀(j:Nat),j<x->U.jbq (U.jz d.1).length (nth (U.jp d.1) j)=true)/\∀(x:Nat),(x<=(U.jp d.1).length/\∀(j:Nat),j<x->U.jbq (U.jz d.1).length (nth (U.jp d.1) j)=true)->d.1.2.2.1.length<4611686018427387904->(decide ((x:Int)<(q108_8 d))=true->0<=(x:Int)/\(x:Int)<(q108_8 d)/\(d.1.2.1.length<4611686018427387904->jC ((q108_6 d)-1)/\((q108_1 d x)=true->(false,())=(U.zi d.1,()))/\((q108_1 d x)=false->jC ((x:Int)+1)/\∃(b:Nat),(q108_9 x b)/\(b<=(U.jp d.1).length/\∀(j:Nat),j<b->U.jbq (U.jz d.1).length (nth (U.jp d.1) j)=true)/\(U.jp d.1).length-b<(U.jp d.1).length-x)))/\(decide ((x:Int)<(q108_8 d))=false->(∃(x:Nat),(q108_13 x)/\x<=(U.zv d.1).length/\∀(j:Nat),j<x->U.yO (U.jp d.1).length (U.jh (U.jf d.1)).length (nth (U.zv d.1) j)=true)/\∀(x:Nat),(x<=(U.zv d.1).length/\∀(j:Nat),j<x->U.yO (U.jp d.1).length (U.jh (U.jf d.1)).length (nth (U.zv d.1) j)=true)->d.1.2.2.2.2.2.1.length<4611686018427387904->(decide ((x:Int)<(q108_12 d))=true->0<=(x:Int)/\(x:Int)<(q108_12 d)/\((q108_0 d x)=true->(false,())=(U.zi d.1,()))/\((q108_0 d x)=false->jC ((x:Int)+1)/\∃(b:Nat),(q108_9 x b)/\(b<=(U.zv d.1).length/\∀(j:Nat),j<b->U.yO (U.jp d.1).length (U.jh (U.jf d.1)).length (nth (U.zv d.1) j)=true)/\(U.zv d.1).length-b<(U.zv d.1).length-x))/\(decide ((x:Int)<(q108_12 d))=false->(true,())=(U.zi d.1,())))))
def jqo:jR:=⟨[.val (.slice tSh)],[.bool],false,fun d=>[d.1.length<=1000000],fun d=>(U.kR d.1,())⟩
def jr2:Ann:=fun r=>match r with
 |2=>some fun σ=>{X:=Nat,sl:=fun i=>[(3,.dat .int (i:Int))],ob:=fun _=>[],inv:=fun i=>i<=(gd (.slice tSh) σ 0).length/\U.wJ (gd (.slice tSh) σ 0) i=false,mu:=fun i=>(gd (.slice tSh) σ 0).length-i}
 |5=>some fun σ=>{X:=Nat,sl:=fun i=>[(4,.dat .int (i:Int))],ob:=fun _=>[],inv:=fun i=>i<=(gd .int σ 3).toNat/\∀j:Nat,j<i->U.jjO (nth (gd (.slice tSh) σ 0) (gd .int σ 3).toNat) (nth (gd (.slice tSh) σ 0) j)=false,mu:=fun i=>(gd .int σ 3).toNat-i}
 |_=>none
abbrev q109_0 (d:List ShD×Unit)(x:Nat)(a:Nat):=((nth d.1 (x:Int).toNat).1=(nth d.1 (a:Int).toNat).1)
def jp4:Prop:=∀(d:List ShD×Unit),d.1.length<=1000000->(∃(x:Nat),((0=(x:Int)/\True)/\True)/\x<=d.1.length/\U.wJ d.1 x=false)/\∀(x:Nat),x<=d.1.length/\U.wJ d.1 x=false->d.1.length<4611686018427387904->(decide ((x:Int)<(d.1.length:Int))=true->(∃(a:Nat),((0=(a:Int)/\True)/\True)/\a<=(x:Int).toNat/\∀(j:Nat),j<a->U.jjO (nth d.1 (x:Int).toNat) (nth d.1 j)=false)/\∀(a:Nat),(a<=(x:Int).toNat/\∀(j:Nat),j<a->U.jjO (nth d.1 (x:Int).toNat) (nth d.1 j)=false)->(decide ((a:Int)<(x:Int))=true->0<=(x:Int)/\(x:Int)<(d.1.length:Int)/\0<=(a:Int)/\(a:Int)<(d.1.length:Int)/\(decide (q109_0 d x a)=true->0<=(x:Int))/\(decide (q109_0 d x a)=true->(x:Int)<(d.1.length:Int))/\(decide (q109_0 d x a)=true->0<=(a:Int))/\(decide (q109_0 d x a)=true->(a:Int)<(d.1.length:Int))/\((decide (q109_0 d x a)&& !decide (nth d.1 (x:Int).toNat=nth d.1 (a:Int).toNat))=true->(true,())=(U.kR d.1,()))/\((decide (q109_0 d x a)&& !decide (nth d.1 (x:Int).toNat=nth d.1 (a:Int).toNat))=false->jC ((a:Int)+1)/\∃(b:Nat),(((a:Int)+1=(b:Int)/\True)/\True)/\(b<=(x:Int).toNat/\∀(j:Nat),j<b->U.jjO (nth d.1 (x:Int).toNat) (nth d.1 j)=false)/\(x:Int).toNat-b<(x:Int).toNat-a))/\(decide ((a:Int)<(x:Int))=false->jC ((x:Int)+1)/\∃(b:Nat),(((x:Int)+1=(b:Int)/\True)/\True)/\(b<=d.1.length/\U.wJ d.1 b=false)/\d.1.length-b<d.1.length-x))/\(decide ((x:Int)<(d.1.length:Int))=false->(false,())=(U.kR d.1,()))
def jqq:jR:=⟨[.val tDy],[.int],false,fun d=>[(U.jp d.1).length<=1000000],fun d=>(U.v8 d.1,())⟩
def jr4:Ann:=fun r=>match r with
 |4=>some fun σ=>{X:=Nat,sl:=fun i=>[(3,.dat .int (i:Int))],ob:=fun _=>[],inv:=fun i=>i<=(U.jp (gb tDy σ 1)).length/\∀j:Nat,j<i->U.j7 (U.jf (gb tDy σ 1)) (U.jcJ (nth (U.jp (gb tDy σ 1)) j))=true,mu:=fun i=>(U.jp (gb tDy σ 1)).length-i}
 |_=>none
def jp6:Prop:=∀(d:DyD×Unit),(U.jp d.1).length<=1000000->((!U.jr d.1.1)=true->((30:Int),())=(U.v8 d.1,()))/\((!U.jr d.1.1)=false->(∃(x:Nat),((0=(x:Int)/\True)/\True)/\x<=(U.jp d.1).length/\∀(j:Nat),j<x->U.j7 (U.jf d.1) (U.jcJ (nth (U.jp d.1) j))=true)/\∀(x:Nat),(x<=(U.jp d.1).length/\∀(j:Nat),j<x->U.j7 (U.jf d.1) (U.jcJ (nth (U.jp d.1) j))=true)->d.1.2.2.1.length<4611686018427387904->(decide ((x:Int)<(d.1.2.2.1.length:Int))=true->0<=(x:Int)/\(x:Int)<(d.1.2.2.1.length:Int)/\U.jr d.1.1=true/\((!U.j7 d.1.1 (nth d.1.2.2.1 (x:Int).toNat).1)=true->((31:Int),())=(U.v8 d.1,()))/\((!U.j7 d.1.1 (nth d.1.2.2.1 (x:Int).toNat).1)=false->jC ((x:Int)+1)/\∃(a:Nat),(((x:Int)+1=(a:Int)/\True)/\True)/\(a<=(U.jp d.1).length/\∀(j:Nat),j<a->U.j7 (U.jf d.1) (U.jcJ (nth (U.jp d.1) j))=true)/\(U.jp d.1).length-a<(U.jp d.1).length-x))/\(decide ((x:Int)<(d.1.2.2.1.length:Int))=false->((!U.zi d.1)=true->((50:Int),())=(U.v8 d.1,()))/\((!U.zi d.1)=false->d.1.2.2.2.2.2.1.length<=1000000/\(U.kR d.1.2.2.2.2.2.1=true->((51:Int),())=(U.v8 d.1,()))/\(U.kR d.1.2.2.2.2.2.1=false->((0:Int),())=(U.v8 d.1,())))))
end Go.X
namespace Go.X
open Go.Proofs
theorem jru:jnD:=by
 rintro⟨n,a,b,⟨⟩⟩;rfl
theorem jbo:zh PR 103 jn1:=jM jru Tryz.func103 kcN koN
theorem jkB:jif:=by
 rintro⟨d,n,⟨⟩⟩ a;have a:(U.jp d).length<4611686018427387904:=a;exact⟨by show jC (((U.jp d).length:Int)-1);exact L.in64 (by omega) (by omega),rfl⟩
theorem jiS:zh PR 104 jis:=jM jkB Tryz.func104 (kcC jbo kcN) koN
theorem jmR:jj7:=by
 rintro⟨d,n,⟨⟩⟩ a;have a:(U.jh (U.jf d)).length<4611686018427387904:=a;exact⟨by show jC (((U.jh (U.jf d)).length:Int)-1);exact L.in64 (by omega) (by omega),rfl⟩
theorem jkq:zh PR 60 jkf:=jM jmR Tryz.func60 (kcC jbo kcN) koN
theorem jpD (l:List ShD) (n:Nat):U.wJ l (n+1)=(U.wJ l n||U.jhZ l n):=by
 unfold U.wJ;rw[jEw,List.any_append];simp
theorem jm7 {l:List ShD} {i:Nat} (h:∀j:Nat,j<i->U.jjO (nth l i) (nth l j)=false) (hi:i<=l.length):U.jhZ l i=false:=by
 unfold U.jhZ;rw[jEq];intro s a;rw[jEs] at a;obtain⟨j,b,rfl⟩:=a;have:=h j (by omega);rw[L.nth_lt (l:=l) (i:=j) (by omega)] at this;simpa using this
theorem juz {l:List ShD} {i j:Nat} (hi:i<l.length) (a:j<i) (h:U.jjO (nth l i) (nth l j)=true):U.kR l=true:=by
 unfold U.kR U.wJ U.jhZ;rw[jEF];refine⟨i,jD3.2 hi,?_⟩;rw[jEF];refine⟨nth l j,?_,h⟩;rw[jEs];exact⟨j,by omega,(L.nth_lt (by omega)).symm⟩
theorem jt9:jp4:=by
 unfold jp4 q109_0;rintro⟨l,⟨⟩⟩ k;have k:l.length<=1000000:=k;refine⟨⟨0,⟨⟨rfl,trivial⟩,trivial⟩,jDU _,rfl⟩,fun x m _=>⟨fun h=> ?_,fun h=> ?_⟩⟩
 .have h:(x:Int)<(l.length:Int):=of_decide_eq_true h;obtain⟨_,a⟩:x<=l.length/\U.wJ l x=false:=m;refine⟨⟨0,⟨⟨rfl,trivial⟩,trivial⟩,jDU _,fun j o=>by omega⟩,fun y n=>⟨fun c=> ?_,fun c=> ?_⟩⟩
  .have c:(y:Int)<(x:Int):=of_decide_eq_true c;obtain⟨_,b⟩:y<=x/\∀j:Nat,j<y->U.jjO (nth l x) (nth l j)=false:=n;have f:(y:Int)<(l.length:Int):=(by omega);refine⟨by omega,h,by omega,f,fun _=>by omega,fun _=>h,fun _=>by omega,fun _=>f,fun d=> ?_,fun d=>⟨L.in64 (by omega) (by omega),y+1,⟨⟨by simp,trivial⟩,trivial⟩,⟨by show y+1<=x;omega,fun j o=> ?_⟩,by show x-(y+1)<x-y;omega⟩⟩
   .have d:U.jjO (nth l x) (nth l y)=true:=d;have:=juz (by omega) (by omega) d;show(true,())=(U.kR l,());rw[this]
   .by_cases e:j=y
    .subst e;exact d
    .exact b j (by omega)
  .have c:¬(y:Int)<(x:Int):=of_decide_eq_false c;obtain⟨q,b⟩:y<=x/\∀j:Nat,j<y->U.jjO (nth l x) (nth l j)=false:=n;have i:y=x:=(by omega);subst i;refine⟨L.in64 (by omega) (by omega),y+1,⟨⟨by simp,trivial⟩,trivial⟩,⟨by show y+1<=l.length;omega,?_⟩,by show l.length-(y+1)<l.length-y;omega⟩;show U.wJ l (y+1)=false;rw[jpD,a,jm7 b (by omega)];rfl
 .have h:¬(x:Int)<(l.length:Int):=of_decide_eq_false h;obtain⟨p,a⟩:x<=l.length/\U.wJ l x=false:=m;have g:x=l.length:=(by omega);subst g;show(false,())=(U.kR l,());unfold U.kR;rw[a]
theorem jq1:zh PR 52 jqo:=wt jr2 jt9 Tryz.func52 kcN koN
theorem jub:jp6:=by
 rintro⟨d,⟨⟩⟩ k;have k:(U.jp d).length<=1000000:=k;refine⟨fun h=> ?_,fun h=> ?_⟩
 .have h:U.jr (U.jf d)=false:=(by simpa using(show(!U.jr (U.jf d))=true from h));show((30:Int),())=(U.v8 d,());unfold U.v8;rw[h];rfl
 have g:U.jr (U.jf d)=true:=(by simpa using(show(!U.jr (U.jf d))=false from h));refine⟨⟨0,⟨⟨rfl,trivial⟩,trivial⟩,jDU _,fun j f=>by omega⟩,fun x m _=>⟨fun h=> ?_,fun h=> ?_⟩⟩
 .have h:(x:Int)<((U.jp d).length:Int):=of_decide_eq_true h;refine⟨by omega,h,g,fun a=> ?_,fun a=>⟨L.in64 (by omega) (by omega),x+1,⟨⟨by simp,trivial⟩,trivial⟩,⟨by show x+1<=(U.jp d).length;omega,fun j f=> ?_⟩,by show(U.jp d).length-(x+1)<(U.jp d).length-x;omega⟩⟩
  .have a:U.j7 (U.jf d) (U.jcJ (nth (U.jp d) x))=false:=(by simpa using(show(!U.j7 (U.jf d) (U.jcJ (nth (U.jp d) x)))=true from a));have f:U.jwy d=false:=by
    unfold U.jwy;exact jEM.2 ⟨_,L.mem_nth (l:=U.jp d) (i:=x) (by omega),by rw[a];simp⟩
   show((31:Int),())=(U.v8 d,());unfold U.v8;rw[g,f];rfl
  .have a:U.j7 (U.jf d) (U.jcJ (nth (U.jp d) x))=true:=(by simpa using(show(!U.j7 (U.jf d) (U.jcJ (nth (U.jp d) x)))=false from a));by_cases e:j=x
   .subst e;exact a
   .exact m.2 j (by omega)
 .have h:¬(x:Int)<((U.jp d).length:Int):=of_decide_eq_false h;have f:U.jwy d=true:=jai (p:=fun b=>U.j7 (U.jf d) (U.jcJ b)) (by omega) m.2;refine⟨fun a=> ?_,fun a=> ?_⟩
  .have a:U.zi d=false:=(by simpa using(show(!U.zi d)=true from a));show((50:Int),())=(U.v8 d,());unfold U.v8;rw[g,f,a];rfl
  .have a:U.zi d=true:=(by simpa using(show(!U.zi d)=false from a));have n:(U.zv d).length<=30:=(j6 a).2.2.2.2.1;refine⟨by show(U.zv d).length<=1000000;omega,fun c=> ?_,fun c=> ?_⟩
   .have c:U.kR (U.zv d)=true:=c;show((51:Int),())=(U.v8 d,());unfold U.v8;rw[g,f,a,c];rfl
   .have c:U.kR (U.zv d)=false:=c;show((0:Int),())=(U.v8 d,());unfold U.v8;rw[g,f,a,c];rfl
end Go.X
namespace Go.X
open Go.Proofs
end Go.X
namespace Go.X
open Go.Proofs
end Go.X
namespace Go.X
open Go.Proofs
def jCu (d:DyD):Bool:=decide (4<((U.jp d).length:Int))|| !U.ja ((U.jz d).length:Int) 1 5|| !U.ja (U.jog d) 0 300|| !U.ja (U.jt1 d) 0 1440||decide (30<((U.zv d).length:Int))
def spH (s:SpD):Bool:=decide (U.lo s<0)||decide (U.hi s<U.lo s)||decide (300<U.hi s)
def bkH (n:Nat) (b:BkD):Bool:= !U.ja (U.jBj b) 0 ((n:Int)-1)||decide (U.jdM b<0)||decide (U.jzj b<=U.jdM b)||decide (1440<U.jzj b)
def shH (d:DyD) (s:ShD):Bool:= !U.ja (U.zX s) 0 99|| !U.ja (U.jnl s) 0 9999|| !U.ja (U.jx7 s) 1 2|| !U.jwD d (U.jix s)|| !U.jo0 d (U.vS s)
theorem jxl (d:DyD):U.zi d=(!jCu d&&((U.jz d).all (U.qv (U.jz d).length)&&((U.jp d).all (U.jbq (U.jz d).length)&&(U.zv d).all (U.yO (U.jp d).length (U.jh (U.jf d)).length)))):=by
 unfold U.zi jCu;congr 1;rw[jEk];simp only[U.ja,jEd,jD7,decide_eq_false_iff_not,jED,jDK,decide_eq_true_eq];omega
theorem jzE (s:SpD):U.jeM s= !spH s:=by
 unfold U.jeM spH;rw[jEk];simp only[jEd,jD7,decide_eq_false_iff_not,decide_eq_true_eq];omega
theorem jz1 (n:Nat) (b:BkD):U.jbq n b= !bkH n b:=by
 unfold U.jbq bkH;rw[jEk];simp only[U.ja,jEd,jD7,decide_eq_false_iff_not,jED,jDK,decide_eq_true_eq];omega
theorem jzG (d:DyD) (s:ShD):U.yO (U.jp d).length (U.jh (U.jf d)).length s= !shH d s:=by
 unfold U.yO shH U.jwD U.jo0;rw[jEk];simp only[U.ja,jEd,jD7,decide_eq_false_iff_not,jED,jDK,decide_eq_true_eq];omega
theorem jpw {d:DyD} (h:jCu d=true\/(U.jz d).all (U.qv (U.jz d).length)=false\/(U.jp d).all (U.jbq (U.jz d).length)=false\/(U.zv d).all (U.yO (U.jp d).length (U.jh (U.jf d)).length)=false):(false,())=(U.zi d,()):=by
 have:U.zi d=false:=by
  rw[jxl];rcases h with h|h|h|h<;>rw[h]<;>simp
 rw[this]
theorem jpK {α:Type} [Inhabited α] {l:List α} {p:α->Bool} {x:Nat} (a:x<l.length) (h:p (nth l x)=false):l.all p=false:=jEM.2 ⟨_,L.mem_nth a,by rw[h];simp⟩
theorem jua:jp5:=by
 unfold jp5 q108_13 q108_3 q108_12 q108_11 q108_1 q108_10 q108_9 q108_8 q108_0 q108_7 q108_6 q108_5 q108_2 q108_4;rintro⟨d,⟨⟩⟩ _ _ _;refine⟨fun h=>jpw (d:=d) (.inl h),fun k=> ?_⟩;have k:jCu d=false:=k;have l:=k;unfold jCu at l;simp only[U.ja,jD7,decide_eq_false_iff_not,jED,jDK,decide_eq_true_eq] at l;refine⟨⟨0,⟨⟨rfl,trivial⟩,trivial⟩,jDU _,fun j g=>by omega⟩,fun x c _=>⟨fun h=> ?_,fun h=> ?_⟩⟩
 .have h:(x:Int)<((U.jz d).length:Int):=of_decide_eq_true h;have b:x<(U.jz d).length:=(by omega);refine⟨by omega,h,fun a=> ?_,fun a=>⟨⟨0,⟨⟨rfl,trivial⟩,trivial⟩,jDU _,fun j g=>by omega⟩,fun y n=>⟨by omega,h,fun m=>⟨fun i=> ?_,fun i=> ?_⟩⟩⟩⟩
  .have a:¬((nth (U.jz d) x).length:Int)=((U.jz d).length:Int):=of_decide_eq_true a;refine jpw (d:=d) (.inr (.inl (jpK b ?_)));unfold U.qv;rw[decide_eq_false (by omega)];rfl
  .have m:(nth (U.jz d) x).length<4611686018427387904:=m;have i:(y:Int)<((nth (U.jz d) x).length:Int):=of_decide_eq_true i;refine⟨by omega,h,by omega,i,fun f=> ?_,fun f=>⟨L.in64 (by omega) (by omega),y+1,⟨⟨by simp,trivial⟩,trivial⟩,⟨by show y+1<=(nth (U.jz d) x).length;omega,fun j g=> ?_⟩,by show(nth (U.jz d) x).length-(y+1)<(nth (U.jz d) x).length-y;omega⟩⟩
   .have f:spH (nth (nth (U.jz d) x) y)=true:=f;refine jpw (d:=d) (.inr (.inl (jpK b ?_)));have:(nth (U.jz d) x).all U.jeM=false:=jpK (x:=y) (by omega) (by rw[jzE,f];rfl);unfold U.qv;rw[this,Bool.and_false]
   .have f:spH (nth (nth (U.jz d) x) y)=false:=f;by_cases e:j=y
    .subst e;show U.jeM (nth (nth (U.jz d) x) j)=true;rw[jzE,f];rfl
    .exact n.2 j (by omega)
  .have i:¬(y:Int)<((nth (U.jz d) x).length:Int):=of_decide_eq_false i;have a:((nth (U.jz d) x).length:Int)=((U.jz d).length:Int):=Classical.not_not.1 (of_decide_eq_false a);have o:(nth (U.jz d) x).all U.jeM=true:=jai (by omega) n.2;refine⟨L.in64 (by omega) (by omega),x+1,⟨⟨by simp,trivial⟩,trivial⟩,⟨by show x+1<=(U.jz d).length;omega,fun j g=> ?_⟩,by show(U.jz d).length-(x+1)<(U.jz d).length-x;omega⟩;by_cases e:j=x
   .subst e;show U.qv (U.jz d).length (nth (U.jz d) j)=true;unfold U.qv;rw[o,decide_eq_true (by omega)];rfl
   .exact c.2 j (by omega)
 have h:¬(x:Int)<((U.jz d).length:Int):=of_decide_eq_false h;have r:(U.jz d).all (U.qv (U.jz d).length)=true:=jai (by omega) c.2;clear c h;refine⟨⟨0,⟨⟨rfl,trivial⟩,trivial⟩,jDU _,fun j g=>by omega⟩,fun x c _=>⟨fun h=> ?_,fun h=> ?_⟩⟩
 .have h:(x:Int)<((U.jp d).length:Int):=of_decide_eq_true h;have b:x<(U.jp d).length:=(by omega);refine⟨by omega,h,fun _=>⟨by show jC (((U.jz d).length:Int)-1);exact L.in64 (by omega) (by omega),fun a=> ?_,fun a=>⟨L.in64 (by omega) (by omega),x+1,⟨⟨by simp,trivial⟩,trivial⟩,⟨by show x+1<=(U.jp d).length;omega,fun j g=> ?_⟩,by show(U.jp d).length-(x+1)<(U.jp d).length-x;omega⟩⟩⟩
  .have a:bkH (U.jz d).length (nth (U.jp d) x)=true:=a;exact jpw (d:=d) (.inr (.inr (.inl (jpK b (by rw[jz1,a];rfl)))))
  .have a:bkH (U.jz d).length (nth (U.jp d) x)=false:=a;by_cases e:j=x
   .subst e;show U.jbq (U.jz d).length (nth (U.jp d) j)=true;rw[jz1,a];rfl
   .exact c.2 j (by omega)
 have h:¬(x:Int)<((U.jp d).length:Int):=of_decide_eq_false h;have p:(U.jp d).all (U.jbq (U.jz d).length)=true:=jai (by omega) c.2;clear c h;refine⟨⟨0,⟨⟨rfl,trivial⟩,trivial⟩,jDU _,fun j g=>by omega⟩,fun x c _=>⟨fun h=> ?_,fun h=> ?_⟩⟩
 .have h:(x:Int)<((U.zv d).length:Int):=of_decide_eq_true h;have b:x<(U.zv d).length:=(by omega);refine⟨by omega,h,fun a=> ?_,fun a=>⟨L.in64 (by omega) (by omega),x+1,⟨⟨by simp,trivial⟩,trivial⟩,⟨by show x+1<=(U.zv d).length;omega,fun j g=> ?_⟩,by show(U.zv d).length-(x+1)<(U.zv d).length-x;omega⟩⟩
  .have a:shH d (nth (U.zv d) x)=true:=a;exact jpw (d:=d) (.inr (.inr (.inr (jpK b (by rw[jzG,a];rfl)))))
  .have a:shH d (nth (U.zv d) x)=false:=a;by_cases e:j=x
   .subst e;show U.yO (U.jp d).length (U.jh (U.jf d)).length (nth (U.zv d) j)=true;rw[jzG,a];rfl
   .exact c.2 j (by omega)
 .have h:¬(x:Int)<((U.zv d).length:Int):=of_decide_eq_false h;have q:(U.zv d).all (U.yO (U.jp d).length (U.jh (U.jf d)).length)=true:=jai (by omega) c.2;show(true,())=(U.zi d,());rw[jxl,k,r,p,q];rfl
theorem jq2:zh PR 51 jqp:=wt jr3 jua Tryz.func51 (kcC jbo (kcC jiS (kcC jkq kcN))) koN
theorem jq3:zh PR 17 jqq:=wt jr4 jub Tryz.func17 (kcC jgH (kcC jq4 (kcC jq2 (kcC jq1 kcN)))) koN
end Go.X
namespace Go.X
open Go.Proofs
namespace U
def jwv (l:List ShD) (i n:Nat):Bool:=decide (jx7 (nth l i)=1)&& !((l.take n).any (fun t=>decide (jix t=jix (nth l i))&&decide (vS t=vS (nth l i))&&wz t (nth l i)))
def jzx (l:List ShD) (n:Nat):List ShD:=((List.range n).filter (fun i=>jwv l i l.length)).map (nth l)
def jcD (l:List ShD) (n:Nat):Nat:=(List.range n).foldl (fun f i=>if wz (nth l f) (nth l i)=true then i else f) 0
def wl (l:List ShD):Nat->List ShD×List ShD
 |0=>([],l)
 |n+1=>((wl l n).1++[nth (wl l n).2 (jcD (wl l n).2 (wl l n).2.length)],(wl l n).2.take (jcD (wl l n).2 (wl l n).2.length)++(wl l n).2.drop (jcD (wl l n).2 (wl l n).2.length+1))
def jd0 (d:DyD):List ShD:=jzx (y8 (zv d)) (y8 (zv d)).length
def juQ (d:DyD):List ShD:=(wl (jd0 d) (jd0 d).length).1
def jnN (d:DyD) (n:Nat):List Int×List Int:=((juQ d).take n).foldl (jbT d) (List.replicate (jp d).length 0,[])
def jgz (d:DyD):List Int×List Int:=jnN d (juQ d).length
end U
end Go.X
namespace Go.X
open Go.Proofs
end Go.X
namespace Go.X
theorem jld (l:List ShD) (n:Nat):U.jcD l (n+1)=if U.wz (nth l (U.jcD l n)) (nth l n)=true then n else U.jcD l n:=by
 unfold U.jcD;rw[jEw,jEi];rfl
theorem jhR (l:List ShD):∀n,n<=l.length->0<l.length->U.jcD l n<l.length
 |0,_,h=>h
 |n+1,a,h=>by
  have b:=jhR l n (by omega) h
  rw[jld]
  split<;>omega
theorem jhN (l:List ShD):∀n,n<=l.length->(U.wl l n).1.length=n/\(U.wl l n).2.length=l.length-n
 |0,_=>⟨rfl,rfl⟩
 |n+1,d=>by
  obtain⟨a,b⟩:=jhN l n (by omega)
  have c:=jhR (U.wl l n).2 _ (jDJ _) (by omega)
  refine⟨?_,?_⟩
  .show((U.wl l n).1++[_]).length=_
   rw[jD0,a];rfl
  .show((U.wl l n).2.take _++(U.wl l n).2.drop _).length=_
   rw[jD0,jEa,jEX]
   omega
theorem jy9 {α:Type} [Inhabited α] {l:List α} {m:Nat} (h:m<l.length):(nth l m::(l.take m++l.drop (m+1))).Perm l:=by
 have e:l=l.take m++nth l m::l.drop (m+1):=by
  conv=>lhs;rw[<-jEY m l]
  rw[List.drop_eq_getElem_cons h,L.nth_lt h]
 conv=>rhs;rw[e]
 exact List.perm_middle.symm
theorem jiw (l:List ShD):∀n,n<=l.length->((U.wl l n).1++(U.wl l n).2).Perm l
 |0,_=>List.Perm.refl _
 |n+1,d=>by
  have b:=jiw l n (by omega)
  have c:=jhN l n (by omega)
  have a:=jhR (U.wl l n).2 _ (jDJ _) (by omega)
  refine List.Perm.trans ?_ b
  show((U.wl l n).1++[nth (U.wl l n).2 (U.jcD (U.wl l n).2 (U.wl l n).2.length)]++_).Perm _
  rw[jDY]
  exact List.Perm.append_left _ (jy9 a)
theorem jx2 {d:DyD} {n:Nat} (h:n<(U.juQ d).length):U.jnN d (n+1)=U.jbT d (U.jnN d n) (nth (U.juQ d) n):=by
 unfold U.jnN;rw[L.take_succ h,jEi];rfl
theorem jpX {d:DyD} {s:ShD} (h:s∈U.juQ d):s∈U.y8 (U.zv d):=by
 have b:=jiw (U.jd0 d) (U.jd0 d).length (jDJ _);have a:s∈U.jd0 d:=b.mem_iff.1 (jDG _ h);unfold U.jd0 U.jzx at a;obtain⟨i,hi,rfl⟩:=jEj.1 a;exact L.mem_nth (jD3.1 (jD6.1 hi).1)
theorem qj {l:List ShD} {s:ShD} (h:s∈U.y8 l):s∈l:=by
 unfold U.y8 U.jrN at h;obtain⟨m,_,h⟩:=List.mem_flatMap.1 h;unfold U.jzk at h;obtain⟨i,hi,rfl⟩:=jEj.1 h;exact L.mem_nth (jD3.1 (jD6.1 hi).1)
end Go.X
namespace Go.X
open Go.Proofs
attribute [local irreducible] U.juQ U.jnN U.wC U.on
end Go.X
namespace Go.X
theorem jlH (c:CrD) (j:JbD) (i:Nat):(U.wd (c,j,U.jyB c j,()) (nth (U.jh c) i)=0)↔U.ky c j (i:Int)=true:=by
 show U.jtt (U.jaZ (nth (U.jh c) i) (U.jBG j)) (!U.qB (U.fd (nth (U.jh c) i)) (U.jyI j)) (!U.qB (U.cl (nth (U.jh c) i)) (U.jyG j))=0↔
  (!(U.jaZ (nth (U.jh c) ((i:Int)).toNat) (U.jBG j))&&U.qB (U.fd (nth (U.jh c) ((i:Int)).toNat)) (U.jyI j)&&U.qB (U.cl (nth (U.jh c) ((i:Int)).toNat)) (U.jyG j))=true
 rw[jDN];generalize U.jaZ (nth (U.jh c) i) (U.jBG j)=x;generalize U.qB (U.fd (nth (U.jh c) i)) (U.jyI j)=y;generalize U.qB (U.cl (nth (U.jh c) i)) (U.jyG j)=z;cases x<;>cases y<;>cases z<;>decide
theorem jAN {c:CrD} {j:JbD} (b:U.jr c=true) (d:U.j7 c j=true) (p:Nat):(p:Int)∈U.vY c j↔p<(U.jh c).length/\U.ky c j (p:Int)=true:=by
 have a:U.zN c j=0:=(by unfold U.zN;rw[b,d];rfl);unfold U.vY U.vA;rw[if_pos a,jEj];refine⟨fun⟨i,hi,e⟩=> ?_,fun h=>⟨p,?_,rfl⟩⟩
 .have e:i=p:=(by omega);subst e;have:=jD6.1 hi;exact⟨jD3.1 this.1,(jlH c j i).1 (of_decide_eq_true this.2)⟩
 .exact jD6.2 ⟨jD3.2 h.1,decide_eq_true ((jlH c j p).2 h.2)⟩
theorem jvr {l:List Int} (h:∀p∈l,0<=p/\p<8):∀n,n<=l.length->∀q,BT.has (U.jap l n) q=(l.take n).any (fun p=>decide (p.toNat=q))
 |0,_,q=>BT.has_zero q
 |n+1,c,q=>by
  have b:=jvr h n (by omega) q
  have a:=jc9 h n (by omega)
  have d:=h _ (L.mem_nth (l:=l) (i:=n) (by omega))
  rw[jfP (by omega),jbi,BT.has_bor a.1 (BT.two_set (by omega)),b,BT.has_two,L.take_succ (by omega),List.any_append]
  simp
theorem jvs {l:List Int} (h:∀p∈l,0<=p/\p<8) (q:Nat):BT.has (U.jsh l) q=l.any (fun p=>decide (p.toNat=q)):=by
 have:=jvr h l.length (jDJ _) q;rw[jEz] at this;exact this
theorem jyw {d:DyD} {b:Nat} (a:b<(U.jp d).length):nth (U.zU d (U.jp d).length) b=U.jsh (U.vY (U.jf d) (U.jcJ (nth (U.jp d) b))):=by
 unfold U.zU;rw[jEz,L.nth_map a]
theorem jzP {d:DyD} (a:U.joP d) {b:Nat} (c:b<(U.jp d).length):U.j7 (U.jf d) (U.jcJ (nth (U.jp d) b))=true:=
 jEf.1 a.2.1 _ (L.mem_nth c)
theorem jwo {d:DyD} (g:U.joP d) {b p:Int} (m:U.qV d b) (n:U.jtU d p):decide (va (nth (U.zU d (U.jp d).length) b.toNat/2^p.toNat) 1=0)= !U.ky (U.jf d) (U.jcJ (U.bk d b)) p:=by
 unfold U.qV at m;unfold U.jtU at n;have a:b.toNat<(U.jp d).length:=(by omega);have j:=fun q (c:q∈U.vY (U.jf d) (U.jcJ (nth (U.jp d) b.toNat)))=>jwn g.1 c
 have o:BT.Set' (U.jsh (U.vY (U.jf d) (U.jcJ (nth (U.jp d) b.toNat)))):=(jc9 j _ (jDJ _)).1;have i:U.bk d b=nth (U.jp d) b.toNat:=rfl;rw[jyw a,BT.bit_num o,i];have k:=jvs j p.toNat;have f:=jAN g.1 (jzP g a) p.toNat;have ep:((p.toNat:Nat):Int)=p:=(by omega);rw[ep] at f;have l:BT.has (U.jsh (U.vY (U.jf d) (U.jcJ (nth (U.jp d) b.toNat)))) p.toNat=U.ky (U.jf d) (U.jcJ (nth (U.jp d) b.toNat)) p:=by
  rw[k];cases h:U.ky (U.jf d) (U.jcJ (nth (U.jp d) b.toNat)) p with
  |true=>exact jEF.2 ⟨p,f.2 ⟨by omega,h⟩,by simp⟩
  |false=>
   refine jEq.2 fun q c e=> ?_
   have e:q.toNat=p.toNat:=of_decide_eq_true e;have:=j q c;have e:q=p:=(by omega);rw[e] at c;rw[(f.1 c).2] at h;cases h
 rw[l];cases U.ky (U.jf d) (U.jcJ (nth (U.jp d) b.toNat)) p<;>rfl
theorem jor {α:Type} [Inhabited α] {R:α->α->Prop} {l:List α}:(∀i,i<l.length->∀b∈l.take i,R b (nth l i))↔l.Pairwise R:=by
 rw[jEA];refine⟨fun h i j hi a d=> ?_,fun h i hi b c=> ?_⟩
 .have:=h j a l[i] (jEs.2 ⟨i,by omega,rfl⟩);rw[L.nth_lt a] at this;exact this
 .obtain⟨k,hk,rfl⟩:=jEs.1 c;rw[L.nth_lt hi];exact h k i (by omega) hi (by omega)
theorem jvP {α:Type} [Inhabited α] {R:α->α->Prop} {l:List α}:(∀i,i<l.length->∀b∈l.drop (i+1),R (nth l i) b)↔l.Pairwise R:=by
 rw[jEA];refine⟨fun h i j hi d c=> ?_,fun h i hi b a=> ?_⟩
 .have:=h i hi l[j] (List.mem_drop_iff_getElem.2 ⟨j-(i+1),by omega,by congr 1;omega⟩);rw[L.nth_lt hi] at this;exact this
 .obtain⟨k,hk,rfl⟩:=List.mem_drop_iff_getElem.1 a;rw[L.nth_lt hi];exact h i (i+1+k) hi (by omega) (by omega)
theorem jbO (d:DyD) (a b:Int):U.yc d a b=true↔(U.jdM (U.bk d a)<U.jdM (U.bk d b)\/(U.jdM (U.bk d a)=U.jdM (U.bk d b)/\a<b)):=decide_eq_true_iff
theorem jbN (d:DyD) (a b:Int):U.yc d a b=false↔¬(U.jdM (U.bk d a)<U.jdM (U.bk d b)\/(U.jdM (U.bk d a)=U.jdM (U.bk d b)/\a<b)):=decide_eq_false_iff_not
theorem jxH (d:DyD) (l:List Int):kh (U.yc d) l where
 irrefl x _:=(jbN d x x).2 (by omega)
 trans x y z _ _ _ a b:=by
  have a:=(jbO d x y).1 a;have b:=(jbO d y z).1 b;exact(jbO d x z).2 (by omega)
 total x y _ _ a b:=by
  have a:=(jbN d x y).1 a;have b:=(jbN d y x).1 b;omega
theorem jjZ {d:DyD} {a b:Int} (h:a≠b) (c:U.yc d b a=false):U.yc d a b=true:=by
 have c:=(jbN d b a).1 c;exact(jbO d a b).2 (by omega)
theorem juO {d:DyD} {a b:Int} (c:U.yc d a b=true):U.yc d b a=false:=by
 have c:=(jbO d a b).1 c;exact(jbN d b a).2 (by omega)
theorem jec {d:DyD} {a b:Int} (h:U.yc d a b=true):(U.jaY d b a=decide (0<=U.vj d a b))/\(U.jaY d a b=decide (0<=U.vj d a b)):=by
 unfold U.jaY;rw[if_pos h,juO h,if_neg (by simp)];exact⟨rfl,rfl⟩
theorem jxZ {d:DyD} {a b:Int} (h:a≠b):U.jaY d a b=U.jaY d b a:=by
 cases c:U.yc d b a with
 |false=>have:=jec (jjZ h c);rw[this.1,this.2]
 |true=>have:=jec c;rw[this.1,this.2]
def TgR (d:DyD) (a b:Int):Prop:=a≠b->U.jaY d b a=true
theorem jvO {d:DyD} {l:List Int} (f:l.Nodup):U.jBS d l=true↔l.Pairwise (TgR d):=by
 rw[<-jor];unfold U.jBS;rw[jEf];have e:∀i,i<l.length->∀b∈l.take i,b≠nth l i:=(jor (R:=fun a b=>a≠b)).2 f;refine⟨fun h i hi b c _=> ?_,fun h i hi=>jEf.2 fun b c=> ?_⟩
 .exact jEf.1 (h i (jD3.2 hi)) b c
 .exact h i (jD3.1 hi) b c (e i (jD3.1 hi) b c)
theorem TgR.symm {d:DyD} {a b:Int} (h:TgR d a b):TgR d b a:=fun e=>(jxZ (Ne.symm e)).trans (h (Ne.symm e))
theorem jwk {d:DyD} {l l':List Int} (h:l.Perm l'):U.jq9 d l=U.jq9 d l':=by
 unfold U.jq9;exact List.Perm.foldl_eq' (h.map _) (fun x _ y _ z=>by omega) 0
theorem jna (d:DyD) (p:Int) {l:List Int} (a:l.Nodup):U.wC d p l=true↔(∀b∈l,U.ky (U.jf d) (U.jcJ (U.bk d b)) p=true)/\l.Pairwise (TgR d)/\U.jq9 d l<=U.jt1 d:=by
 unfold U.wC;rw[jDK,jDK,jEf,jvO a,decide_eq_true_iff]
theorem jlA (d:DyD) (p:Int) {l l':List Int} (h:l.Perm l') (g:l.Nodup):U.wC d p l=U.wC d p l':=by
 have f:=h.nodup_iff.1 g;refine jEk.2 ?_;rw[jna d p g,jna d p f,jwk h,h.pairwise_iff (fun h=>TgR.symm h)];exact⟨fun⟨a,c⟩=>⟨fun b e=>a b (h.mem_iff.2 e),c⟩,fun⟨a,c⟩=>⟨fun b e=>a b (h.mem_iff.1 e),c⟩⟩
theorem jze (d:DyD) (may:List Int) (p:Int) (s:List Int):U.jBh d may p s=true↔(∀b∈s,decide (va (nth may b.toNat/2^p.toNat) 1=0)=false)/\s.Pairwise (fun a b=>0<=U.vj d a b)/\U.jq9 d s<=U.jt1 d:=by
 rw[<-jvP];unfold U.jBh;rw[jDK,decide_eq_true_iff,jEf,<-and_assoc];refine and_congr_left fun _=> ?_
 have e:∀i,U.jmy d may p s i=true↔decide (va (nth may (nth s i).toNat/2^p.toNat) 1=0)=false/\∀b∈s.drop (i+1),0<=U.vj d (nth s i) b:=by
  intro i;unfold U.jmy;rw[jEd,jD7,jEq];refine and_congr_right fun _=>⟨fun h b c=> ?_,fun h b c=> ?_⟩
  .have:=h b c;simp at this;omega
  .have:=h b c;simp;omega
 refine⟨fun h=>⟨fun b c=> ?_,fun i hi=>((e i).1 (h i (jD3.2 hi))).2⟩,fun h i hi=>(e i).2 ⟨h.1 _ (L.mem_nth (jD3.1 hi)),h.2 i (jD3.1 hi)⟩⟩;obtain⟨i,hi,rfl⟩:=L.mem_iff.1 c;exact((e i).1 (h i (jD3.2 hi))).1
theorem jxx {d:DyD} {may:List Int} {p:Int} {l:List Int} (m:l.Nodup) (j:∀b∈l,decide (va (nth may b.toNat/2^p.toNat) 1=0)= !U.ky (U.jf d) (U.jcJ (U.bk d b)) p):U.jm9 d may p l=U.wC d p l:=by
 have f:(U.jk d l).Perm l:=j9 l;have c:(U.jk d l).Nodup:=f.nodup_iff.2 m;have k:(U.jk d l).Pairwise (fun a b=>U.yc d b a=false):=qZ (jxH d l);rw[<-jlA d p f c];unfold U.jm9;refine jEk.2 ?_;rw[jze,jna d p c];have i:=List.Pairwise.and k c;refine and_congr ⟨fun h b e=> ?_,fun h b e=> ?_⟩ (and_congr_left fun _=>⟨fun h=> ?_,fun h=> ?_⟩)
 .have g:=h b e;rw[j b (f.mem_iff.1 e)] at g;simpa using g
 .rw[j b (f.mem_iff.1 e),h b e];rfl
 .refine(List.Pairwise.and i h).imp fun{a b} x _=> ?_
  rw[(jec (jjZ x.1.2 x.1.1)).1];exact decide_eq_true x.2
 .refine(List.Pairwise.and i h).imp fun{a b} x=> ?_
  have:=x.2 x.1.2;rw[(jec (jjZ x.1.2 x.1.1)).1] at this;exact of_decide_eq_true this
end Go.X
namespace Go.X
theorem jbt (a b:ShD):U.wz a b=true↔(U.jnl b<U.jnl a\/(U.jnl a=U.jnl b/\U.zX b<U.zX a)):=decide_eq_true_iff
theorem jeP (a b:ShD):U.wz a b=false↔¬(U.jnl b<U.jnl a\/(U.jnl a=U.jnl b/\U.zX b<U.zX a)):=decide_eq_false_iff_not
theorem vZ (a:ShD):U.wz a a=false:=(jeP a a).2 (by omega)
theorem jlh {a b:ShD} (h:U.wz a b=true):U.wz b a=false:=by
 have h:=(jbt a b).1 h;exact(jeP b a).2 (by omega)
theorem ji8 {a b c:ShD} (d:U.wz a b=true) (e:U.wz b c=true):U.wz a c=true:=by
 have d:=(jbt a b).1 d;have e:=(jbt b c).1 e;exact(jbt a c).2 (by omega)
theorem jzb (a b:ShD):U.jo a b<0↔U.wz b a=true:=by
 rw[jbt];unfold U.jo;rw[j0,kO]
 split
 .rename_i h;have c:¬U.jnl a=U.jnl b:=fun e=>h (qX.2 e)
  rw[jrT];omega
 .rename_i h;have d:U.jnl a=U.jnl b:=qX.1 (Classical.not_not.1 h);rw[jrT];omega
theorem jBp {l:List ShD} (hi:∀a∈l,∀b∈l,U.zX a=U.zX b->a=b):kh U.jBo l where
 irrefl x _:=vZ x
 trans x y z _ _ _ c d:=ji8 d c
 total x y hx hy c d:=by
  have c:=(jeP y x).1 c;have d:=(jeP x y).1 d;exact hi x hx y hy (by omega)
theorem jw1 {l:List ShD}:∀i,i<l.length->∃j,j<l.length/\nth l j=nth l i/\U.jmZ l j=true:=by
 intro i
 induction i using Nat.strongRecOn with
 |_ i f=>
  intro hi;cases h:U.jmZ l i with
  |true=>exact⟨i,hi,rfl,h⟩
  |false=>
   simp only[U.jmZ,jED] at h;obtain⟨x,d,e⟩:=jEF.1 h;obtain⟨k,hk,rfl⟩:=jEs.1 d;have e:l[k]=nth l i:=of_decide_eq_true e;obtain⟨j,c,a,b⟩:=f k (by omega) (by omega);exact⟨j,c,by rw[a,L.nth_lt (by omega)];exact e,b⟩
theorem jxh {l:List ShD} {s:ShD} (h:s∈l) (d:0<=U.zX s) (e:U.zX s<=99):s∈U.y8 l:=by
 obtain⟨i,hi,rfl⟩:=L.mem_iff.1 h;obtain⟨j,c,a,b⟩:=jw1 i hi;unfold U.y8 U.jrN;refine List.mem_flatMap.2 ⟨(U.zX (nth l i)).toNat,jD3.2 (by omega),?_⟩;unfold U.jzk;refine jEj.2 ⟨j,jD6.2 ⟨jD3.2 c,?_⟩,a⟩;show(decide (U.zX (nth l j)=(((U.zX (nth l i)).toNat:Nat):Int))&&U.jmZ l j)=true;rw[b,a,Bool.and_true];exact decide_eq_true (by omega)
theorem jce {l:List ShD} {n m:Nat} {s:ShD} (h:s∈U.jzk l n m):U.zX s=(m:Int):=by
 unfold U.jzk at h;obtain⟨i,hi,rfl⟩:=jEj.1 h;have a:=(jD6.1 hi).2;rw[jDK] at a;exact of_decide_eq_true a.1
theorem jca (l:List ShD):(U.y8 l).Nodup:=by
 unfold U.y8 U.jrN;refine List.pairwise_flatMap.2 ⟨fun m _=> ?_,?_⟩
 .unfold U.jzk;refine List.pairwise_map.2 (List.Pairwise.imp_of_mem ?_ (List.Pairwise.filter _ jEW));intro i j hi c k e;have c:=jD6.1 c;have d:=c.2;rw[jDK] at d;have f:=d.2;have n:=jD3.1 c.1;have o:((l.take j).any (fun x=>decide (x=nth l j)))=true:=
   jEF.2 ⟨nth l i,jEs.2 ⟨i,by omega,(L.nth_lt (by omega)).symm⟩,decide_eq_true e⟩
  unfold U.jmZ at f;rw[o] at f;cases f
 .refine List.Pairwise.imp ?_ jEW;intro a b h x p y q e;have g:=jce p;have d:=jce q;rw[e] at g;omega
theorem jsj (t s:ShD):U.yG t=U.yG s↔U.jix t=U.jix s/\U.vS t=U.vS s:=by
 unfold U.yG;refine⟨fun h=>⟨congrArg (·.1) h,congrArg (·.2.1) h⟩,fun h=>by rw[h.1,h.2]⟩
theorem jrQ (l:List ShD) (s:ShD):U.jhX l s=true↔U.jx7 s=1/\∀t∈l,U.yG t=U.yG s->U.wz t s=false:=by
 unfold U.jhX;rw[jDK,decide_eq_true_iff,jEd,jEq];refine and_congr_right fun _=>⟨fun h t a e=> ?_,fun h t a e=> ?_⟩
 .have e:=(jsj t s).1 e;have:=h t a;rw[e.1,e.2,decide_eq_true rfl,decide_eq_true rfl] at this;simpa using this
 .rw[jDK,jDK,decide_eq_true_iff,decide_eq_true_iff] at e;rw[h t a ((jsj t s).2 e.1)] at e;exact absurd e.2 (by simp)
theorem jpY (d:DyD):U.jd0 d=(U.y8 (U.zv d)).filter (U.jhX (U.y8 (U.zv d))):=by
 unfold U.jd0;generalize U.y8 (U.zv d)=l;unfold U.jzx;have e:(fun i=>U.jwv l i l.length)=(U.jhX l)∘(nth l):=by
  funext i;unfold U.jwv;rw[jEz];rfl
 rw[e];have:=List.filter_map (f:=nth l) (p:=U.jhX l) (l:=List.range l.length);rw[<-this,L.range_map_nth]
theorem joT (l:List ShD):∀n,∀i,i<n->U.wz (nth l (U.jcD l n)) (nth l i)=false
 |0,i,h=>absurd h (by omega)
 |n+1,i,h=>by
  have b:=joT l n
  rw[jld]
  split
  .rename_i a
   rcases Nat.lt_succ_iff_lt_or_eq.1 h with h|h
   .cases c:U.wz (nth l n) (nth l i) with
    |false=>rfl
    |true=>have:=ji8 a c;rw[b i h] at this;cases this
   .subst h;exact vZ _
  .rename_i a
   rcases Nat.lt_succ_iff_lt_or_eq.1 h with h|h
   .exact b i h
   .subst h;simpa using a
theorem jvt (l:List ShD):∀n,n<=l.length->(U.wl l n).1.Pairwise (fun a b=>U.wz a b=false)/\∀a∈(U.wl l n).1,∀b∈(U.wl l n).2,U.wz a b=false
 |0,_=>⟨List.Pairwise.nil,fun a d=>by cases d⟩
 |n+1,m=>by
  obtain⟨j,g⟩:=jvt l n (by omega)
  have k:=jhN l n (by omega)
  have h:=jhR (U.wl l n).2 _ (jDJ _) (by omega)
  have e:=joT (U.wl l n).2 (U.wl l n).2.length
  have f:∀b∈(U.wl l n).2.take (U.jcD (U.wl l n).2 (U.wl l n).2.length)++(U.wl l n).2.drop (U.jcD (U.wl l n).2 (U.wl l n).2.length+1),b∈(U.wl l n).2:=by
   intro b c;rcases jDP.1 c with c|c
   .exact jE0 c
   .exact jEZ c
  refine⟨List.pairwise_append.2 ⟨j,List.pairwise_singleton _ _,fun a d b c=> ?_⟩,fun a d b c=> ?_⟩
  .simp at c;subst c;exact g a d _ (L.mem_nth h)
  .have c:=f b c;have d:a∈(U.wl l n).1++[nth (U.wl l n).2 (U.jcD (U.wl l n).2 (U.wl l n).2.length)]:=d;rcases jDP.1 d with d|d
   .exact g a d b c
   .simp at d;subst d;obtain⟨i,hi,rfl⟩:=L.mem_iff.1 c;exact e i hi
theorem jAb (d:DyD):js9 U.jBo (U.juQ d):=(jvt (U.jd0 d) _ (jDJ _)).1
theorem jlM (d:DyD):(U.juQ d).Perm (U.jd0 d):=by
 have a:=jiw (U.jd0 d) (U.jd0 d).length (jDJ _);have b:=(jhN (U.jd0 d) (U.jd0 d).length (jDJ _)).2;have:(U.wl (U.jd0 d) (U.jd0 d).length).2=[]:=List.length_eq_zero_iff.1 (by omega);rw[this,jEb] at a;exact a
theorem jsJ {l:List ShD} (i:l.Pairwise (fun a b=>U.wz b a=true)):∀n,n<=l.length->∀s∈l.take n,(kr (Ty.dflt tSh) (zt tSt (U.yG s) (U.zk l n))=s↔∀t∈l.take n,U.yG t=U.yG s->U.wz t s=false)
 |0,_,s,c=>by simp at c
 |n+1,k,s,c=>by
  have j:=jsJ i n (by omega)
  have g:(l.take (n+1)).Pairwise (fun a b=>U.wz b a=true):=i.sublist (List.take_sublist _ _)
  rw[L.take_succ (by omega)] at g c
  have f:∀t∈l.take n,U.wz (nth l n) t=true:=fun t d=>(List.pairwise_append.1 g).2.2 t d _ (by simp)
  rw[ji9 (by omega),L.take_succ (by omega)]
  by_cases hk:U.yG s=U.yG (nth l n)
  .rw[hk,M.mfind_mput]
   show nth l n=s↔_
   rcases jDP.1 c with c|c
   .refine⟨fun e=> ?_,fun h=> ?_⟩
    .have:=f s c
     rw[e,vZ] at this;cases this
    .have:=h (nth l n) (by simp) rfl
     rw[f s c] at this;cases this
   .simp at c;subst c
    refine⟨fun _ t d _=> ?_,fun _=>rfl⟩
    rcases jDP.1 d with d|d
    .exact jlh (f t d)
    .simp at d;subst d;exact vZ _
  .rw[M.mfind_mput_ne hk]
   have c:s∈l.take n:=by
    rcases jDP.1 c with c|c
    .exact c
    .simp at c;subst c;exact absurd rfl hk
   rw[j s c];refine⟨fun h t d e=> ?_,fun h t d=>h t (jDG _ d)⟩;rcases jDP.1 d with d|d
   .exact h t d e
   .simp at d;subst d;exact absurd e.symm hk
theorem jvq {d:DyD} (h:U.jw d=0):(U.jL d).Pairwise (fun a b=>U.wz b a=true):=by
 have f:=jDl h;have g:js9 (U.jd tSh fun x=>(U.jo x.1 x.2.1,())) (U.jL d):=qZ f;have e:∀s∈U.jL d,s∈U.jH (U.zv d):=fun s i=>(j9 _).mem_iff.1 i
 refine List.Pairwise.imp_of_mem ?_ (List.Pairwise.and g (qn d));intro a b j k ⟨h1,h2⟩;cases c:U.jd tSh (fun x=>(U.jo x.1 x.2.1,())) a b with
 |false=>exact absurd (f.total a b (e a j) (e b k) c h1) h2
 |true=>
  have c:U.jo a b<0:=of_decide_eq_true c;exact(jzb a b).1 c
theorem jpu {d:DyD} (h:U.jw d=0) {s:ShD} (a:s∈U.jL d):U.zW (U.zk (U.jL d) (U.jL d).length) s=true↔U.jx7 s=1/\∀t∈U.jL d,U.yG t=U.yG s->U.wz t s=false:=by
 have:=jsJ (jvq h) (U.jL d).length (jDJ _) s (by rw[jEz];exact a);rw[jEz] at this;rw[<-this];unfold U.zW;rw[jEd,jD7,jED,jED,decide_eq_true_iff,decide_eq_true_iff];exact and_comm
theorem jiu {d:DyD} (h:U.zi d=true) {s:ShD} (a:s∈U.zv d):0<=U.zX s/\U.zX s<=99:=by
 have:=(j6 h).2.2.2.2.2.2.2 _ a;unfold U.yO at this;have:=of_decide_eq_true this;omega
def jpv (d:DyD):ShD->Bool:=U.zW (U.zk (U.jL d) (U.jL d).length)
theorem jzw {d:DyD} (h:U.jw d=0):(U.jL d).filter (jpv d)=U.juQ d:=by
 have j:=zm h;have f:∀s,s∈U.y8 (U.zv d)↔s∈U.jL d:=fun s=>⟨fun c=>qM.2 (qj c),fun c=>by
  have c:=qM.1 c;have:=jiu j.1.2.2 c;exact jxh c this.1 this.2⟩
 have g:∀s,s∈(U.jL d).filter (jpv d)↔s∈U.juQ d:=by
  intro s;rw[(jlM d).mem_iff,jpY,jD6,jD6,f s];refine and_congr_right fun c=> ?_
  rw[jrQ];have:=jpu h c;refine this.trans (and_congr_right fun _=>⟨fun h t i=>h t ((f t).1 i),fun h t i=>h t ((f t).2 i)⟩)
 have n:((U.jL d).filter (jpv d)).Nodup:=List.Pairwise.filter _ (qn d);have o:(U.juQ d).Nodup:=(jlM d).nodup_iff.2 (by rw[jpY];exact List.Pairwise.filter _ (jca _));have m:=L.perm_of_nodup n o g;refine jag (jBp ?_) m ?_ (jAb d)
 .intro a k b l e;exact j.2 a (qM.1 (jD6.1 k).1) b (qM.1 (jD6.1 l).1) e
 .exact(List.Pairwise.filter _ (jvq h)).imp fun x=>jlh x
end Go.X
namespace Go.X
namespace U
def jAw (r:List Int) (m n:Nat):List Int:=(r.take n).filter (fun x=>decide (x=(m:Int)))
def jez (r:List Int) (n:Nat):List Int:=(List.range n).flatMap (fun m=>jAw r m r.length)
end U
structure jkM (d:DyD) (x:List (List Int)×List Int) (y:List Int×List Int):Prop where
 ref:x.2=y.2
 len:y.1.length=(U.jp d).length
 set:∀b,b<(U.jp d).length->BT.Set' (nth y.1 b)
 bit:∀b,b<(U.jp d).length->∀p,BT.has (nth y.1 b) p=true↔p<(U.jh (U.jf d)).length/\(b:Int)∈nth x.1 p
theorem jmL {t:Int} (h:BT.Set' t) (p:Int):U.qB t p=BT.has t p.toNat:=BT.has_shr h p.toNat
theorem jBU {d:DyD} {x:List (List Int)×List Int} {y:List Int×List Int} (h:jkM d x y) {p:Int} (k:U.jtU d p) (j:∀b∈nth x.1 p.toNat,U.qV d b) (n:Int):n∈U.on y.1 p↔n∈nth x.1 p.toNat:=by
 unfold U.jtU at k;unfold U.on U.jCY;rw[jEj];refine⟨fun⟨i,hi,e⟩=> ?_,fun g=> ?_⟩
 .subst e;have hi:=jD6.1 hi;have a:=jD3.1 hi.1;rw[h.len] at a;have f:U.qB (nth y.1 i) p=true:=hi.2;rw[jmL (h.set i a)] at f;exact((h.bit i a p.toNat).1 f).2
 .have hk:=j n g;unfold U.qV at hk;have c:((n.toNat:Nat):Int)=n:=(by omega);refine⟨n.toNat,jD6.2 ⟨jD3.2 (by rw[h.len];omega),?_⟩,c⟩;show U.qB (nth y.1 n.toNat) p=true;rw[jmL (h.set _ (by omega))];exact(h.bit _ (by omega) _).2 ⟨by omega,by rw[c];exact g⟩
theorem jym (t:List Int) (p:Int):(U.on t p).Nodup:=by
 unfold U.on U.jCY;refine List.pairwise_map.2 ((List.Pairwise.filter _ jEW).imp ?_);intro a b c e;omega
theorem jAD {d:DyD} {x:List (List Int)×List Int} {y:List Int×List Int} (h:jkM d x y) {p:Int} (e:U.jtU d p) (c:(nth x.1 p.toNat).Nodup) (a:∀b∈nth x.1 p.toNat,U.qV d b):(nth x.1 p.toNat).Perm (U.on y.1 p):=
 L.perm_of_nodup c (jym _ _) (fun n=>(jBU h e a n).symm)
theorem jCy {d:DyD} (i:U.joP d) {x:List (List Int)×List Int} {y:List Int×List Int} (h:jkM d x y) {p b:Int} (g:U.jtU d p) (e:(nth x.1 p.toNat++[b]).Nodup) (f:∀c∈nth x.1 p.toNat++[b],U.qV d c):
 U.jm9 d (U.zU d (U.jp d).length) p (nth x.1 p.toNat++[b])=U.wC d p (U.on y.1 p++[b]):=by
 rw[jxx e (fun c a=>jwo i (f c a) g)];exact jlA d p ((jAD h g (jEJ.1 e).1 (fun c a=>f c (jDG _ a))).append_right [b]) e
theorem jBP {d:DyD} {x:List (List Int)×List Int} {y:List Int×List Int} (h:jkM d x y) (v:x.1.length=(U.jh (U.jf d)).length) (u:(U.jh (U.jf d)).length<=8) {p b:Int} (t:U.jtU d p) (s:U.qV d b) (i:b∉nth x.1 p.toNat):
 jkM d (x.1.set p.toNat (nth x.1 p.toNat++[b]),x.2) (y.1.set b.toNat (nth y.1 b.toNat+2^p.toNat),y.2):=by
 unfold U.jtU at t;unfold U.qV at s;have r:((b.toNat:Nat):Int)=b:=(by omega);have g:b.toNat<y.1.length:=(by rw[h.len];omega);have n:p.toNat<x.1.length:=(by omega);have o:=h.set b.toNat (by omega);have m:BT.has (nth y.1 b.toNat) p.toNat=false:=by
  cases j:BT.has (nth y.1 b.toNat) p.toNat with
  |false=>rfl
  |true=>exact absurd (by have:=((h.bit _ (by omega) _).1 j).2;rw[r] at this;exact this) i
 have a:=BT.add_two o (p:=p.toNat) (by omega) m;have j:=BT.two_set (k:=p.toNat) (by omega);refine⟨h.ref,by show(y.1.set _ _).length=_;rw[List.length_set];exact h.len,fun c l=> ?_,fun c l q=> ?_⟩
 .show BT.Set' (nth (y.1.set b.toNat (nth y.1 b.toNat+2^p.toNat)) c);rw[L.nth_set g]
  split
  .rw[a];exact BT.bor_set o j
  .exact h.set c l
 .show BT.has (nth (y.1.set b.toNat (nth y.1 b.toNat+2^p.toNat)) c) q=true↔_/\(c:Int)∈nth (x.1.set p.toNat (nth x.1 p.toNat++[b])) q;rw[L.nth_set g,L.nth_set n];by_cases f:b.toNat=c
  .rw[if_pos f,a,BT.has_bor o j,BT.has_two,jE1,decide_eq_true_iff,h.bit _ (by omega),<-f,r];by_cases e:p.toNat=q
   .rw[if_pos e];refine⟨fun _=>⟨by omega,by simp⟩,fun _=> .inr e⟩
   .rw[if_neg e];exact⟨fun h=>h.elim id (fun h=>absurd h e),.inl⟩
  .rw[if_neg f,h.bit c l];by_cases e:p.toNat=q
   .rw[if_pos e,jDP,<-e];refine and_congr_right fun _=>⟨.inl,fun h=>h.elim id (fun h=> ?_)⟩
    simp at h;omega
   .rw[if_neg e]
theorem jyd (d:DyD):jkM d (U.zO (U.jcr d) (U.jL d) 0) (List.replicate (U.jp d).length 0,[]):=by
 have c:∀b,b<(U.jp d).length->nth (List.replicate (U.jp d).length (0:Int)) b=0:=fun b a=>L.nth_rep a
 refine⟨rfl,jEG,fun b a=> ?_,fun b a p=> ?_⟩
 .show BT.Set' (nth (List.replicate (U.jp d).length (0:Int)) b);rw[c b a];exact BT.zero_set
 .show BT.has (nth (List.replicate (U.jp d).length (0:Int)) b) p=true↔_/\(b:Int)∈nth (U.jAE d) p;rw[c b a,BT.has_zero];have f:U.jyv (U.jAE d):=fun x g=>(List.mem_replicate.1 g).2
  have e:nth (U.jAE d) p=[]:=jmB f p;rw[e];simp
def jxk (d:DyD) (i:Nat):List Int×List Int:=(((U.jL d).take i).filter (jpv d)).foldl (U.jbT d) (List.replicate (U.jp d).length 0,[])
attribute [local irreducible] U.zO U.wC U.jm9 U.on jxk U.jL jpv U.jcr U.zU in
theorem jye {d:DyD} (h:U.jw d=0) {i:Nat} (hi:i<(U.jL d).length) (ih:jkM d (U.zO (U.jcr d) (U.jL d) i) (jxk d i)) (hinv:U.vQ (U.jcr d) (U.jL d) i (U.zO (U.jcr d) (U.jL d) i)) (hrd:U.rd (U.jcr d)=d) (hml:U.yU (U.jcr d)=U.zU d (U.jp d).length)
 (hx:(U.zO (U.jcr d) (U.jL d) i).1.length=(U.jh (U.jf d)).length) (hdec:jpv d=U.zW (U.zk (U.jL d) (U.jL d).length)) (hft:jxk d (i+1)=if jpv d (nth (U.jL d) i)=true then U.jbT d (jxk d i) (nth (U.jL d) i) else jxk d i)
 (hnew:jpv d (nth (U.jL d) i)=true->(nth (U.zO (U.jcr d) (U.jL d) i).1 (U.vS (nth (U.jL d) i)).toNat++[U.jix (nth (U.jL d) i)]).Nodup/\∀b∈nth (U.zO (U.jcr d) (U.jL d) i).1 (U.vS (nth (U.jL d) i)).toNat++[U.jix (nth (U.jL d) i)],U.qV d b):
 jkM d (U.zO (U.jcr d) (U.jL d) (i+1)) (jxk d (i+1)):=by
 have hD:=(zm h).1
 have h8:(U.jh (U.jf d)).length<=8:=(jG hD.1).2.2.1
 have hsf:=jeq hD.2.2 (qM.1 (L.mem_nth (l:=U.jL d) (i:=i) hi))
 rw[hft]
 cases hc:jpv d (nth (U.jL d) i) with
 |false=>
  rw[hdec] at hc
  rw[jl0 hi hc,if_neg (by simp)]
  exact ih
 |true=>
  have hn:=hnew hc
  have hcan:=jCy hD ih (p:=U.vS (nth (U.jL d) i)) (b:=U.jix (nth (U.jL d) i)) hsf.1 hn.1 hn.2
  rw[hdec] at hc
  rw[if_pos rfl]
  unfold U.jbT
  cases hk:U.wC d (U.vS (nth (U.jL d) i)) (U.on (jxk d i).1 (U.vS (nth (U.jL d) i))++[U.jix (nth (U.jL d) i)]) with
  |true=>
   rw[hk] at hcan
   rw[jlZ hi hc (by rw[hrd,hml];exact hcan),if_pos rfl]
   refine jBP ih hx h8 hsf.1 hsf.2 (fun hin=> ?_)
   exact(jEJ.1 hn.1).2.2 _ hin _ (by simp) rfl
  |false=>
   rw[hk] at hcan
   rw[jsd hi hc (by rw[hrd,hml];exact hcan),if_neg (by simp)]
   exact⟨congrArg (·++[U.zX (nth (U.jL d) i)]) ih.ref,ih.len,ih.set,ih.bit⟩
theorem jvI {d:DyD} (h:U.jw d=0):∀i,i<=(U.jL d).length->jkM d (U.zO (U.jcr d) (U.jL d) i) (jxk d i)
 |0,_=>jyd d
 |i+1,hi=>by
  have k:=jvI h i (by omega)
  obtain⟨⟨_,m⟩,⟨j,b⟩,c⟩:=jsq h
  have f:=(zm h).1
  have a:=jl1 (r:=U.jcr d) (l:=U.jL d) f.2.2 (fun s e=>qM.1 e) (qn d) j b c i (by omega)
  refine jye h hi k a rfl rfl a.1 rfl ?_ fun g=> ?_
  .unfold jxk
   rw[L.filter_take (p:=jpv d) (l:=U.jL d) (i:=i) hi,jEi]
   split<;>rfl
  .have:=jsc (r:=U.jcr d) (l:=U.jL d) f.2.2 (fun s e=>qM.1 e) (qn d) hi a g
   exact⟨this.1,this.2.1⟩
theorem jy7 {d:DyD} (h:U.jw d=0):jxk d (U.jL d).length=U.jgz d:=by
 unfold jxk U.jgz U.jnN;rw[jEz,jEz,jzw h]
theorem jfR {d:DyD} (h:U.jw d=0):jkM d (U.wg (U.jnm d),(U.zO (U.jcr d) (U.jL d) (U.jL d).length).2) (U.jgz d):=by
 have:=jvI h _ (jDJ _);rw[jy7 h] at this;exact⟨this.ref,this.len,this.set,this.bit⟩
theorem jsa (on:List (List Int)) (b:Int):∀n,n<=60->BT.Set' (U.w4 on b n)/\∀q,BT.has (U.w4 on b n) q=true↔q<n/\b∈nth on q
 |0,_=>⟨BT.zero_set,fun q=>by
  have:U.w4 on b 0=0:=rfl
  rw[this,BT.has_zero];simp⟩
 |n+1,m=>by
  obtain⟨f,i⟩:=jsa on b n (by omega)
  have g:=BT.two_set (k:=n) (by omega)
  have a:(nth on n).any (fun x=>decide (x=b))=true↔b∈nth on n:=by
   rw[jEF];exact⟨fun⟨x,l,e⟩=>(of_decide_eq_true e)▸l,fun j=>⟨b,j,decide_eq_true rfl⟩⟩
  rw[jih]
  split
  .rename_i c;have c:=a.1 c;rw[jbi];refine⟨BT.bor_set f g,fun q=> ?_⟩;rw[BT.has_bor f g,BT.has_two,jE1,decide_eq_true_iff,i];refine⟨fun h=>h.elim (fun h=>⟨by omega,h.2⟩) (fun h=>by subst h;exact⟨by omega,c⟩),fun h=> ?_⟩;by_cases d:q=n
   .exact .inr d.symm
   .exact .inl ⟨by omega,h.2⟩
  .rename_i c;refine⟨f,fun q=> ?_⟩;rw[i];refine⟨fun h=>⟨by omega,h.2⟩,fun h=>⟨?_,h.2⟩⟩;by_cases d:q=n
   .subst d;exact absurd (a.2 h.2) c
   .omega
theorem jAi {d:DyD} (h:U.jw d=0) {b:Nat} (a:b<(U.jp d).length):U.jfF (U.wg (U.jnm d)) (b:Int)=nth (U.jgz d).1 b:=by
 have f:=jfR h;have c:=jsp h;have g:=jsa (U.wg (U.jnm d)) (b:Int) (U.wg (U.jnm d)).length c.len60;refine BT.ext g.1 (f.set b a) fun p=>jEk.2 ?_
 have e:=(g.2 p).trans (f.bit b a p|>.trans (by rw[<-c.len])).symm;exact e
theorem jBM {d:DyD} (h:U.jw d=0):U.wU d (U.jp d).length=(U.jgz d).1:=by
 have b:=jfR h;have a:(U.wU d (U.jp d).length).length=(U.jp d).length:=(by unfold U.wU;simp);refine L.ext_nth (by rw[a];exact b.len.symm) fun i hi=> ?_
 rw[a] at hi;unfold U.wU;rw[L.nth_map (by simpa using hi)];have:nth (List.range (U.jp d).length) i=i:=(by rw[L.nth_lt (by simpa using hi)];simp);rw[this];exact jAi h hi
theorem ju4 (d:DyD):U.wZ d=if U.v8 d=0 then(U.jgz d).1 else[]:=by
 unfold U.wZ;rw[jay]
 split
 .rename_i h;exact jBM ((jay d).trans h)
 .rfl
theorem jvJ (d:DyD):∀n,n<=(U.juQ d).length->(U.jnN d n).2.Sublist (((U.juQ d).take n).map U.zX)
 |0,_=>List.nil_sublist _
 |n+1,b=>by
  have a:=jvJ d n (by omega)
  rw[jx2 (by omega),L.take_succ (by omega),jEI]
  unfold U.jbT
  split
  .exact a.trans (List.sublist_append_left _ _)
  .exact List.Sublist.append a (List.Sublist.refl _)
theorem jvK {d:DyD} (h:U.jw d=0):(U.jgz d).2.Nodup/\∀x∈(U.jgz d).2,0<=x/\x<=99:=by
 have c:=jvJ d _ (jDJ _);rw[jEz] at c;have g:=zm h;have l:(U.juQ d).Nodup:=(jlM d).nodup_iff.2 (by rw[jpY];exact List.Pairwise.filter _ (jca _));refine⟨List.Pairwise.sublist c (List.pairwise_map.2 (List.Pairwise.imp_of_mem ?_ l)),fun x k=> ?_⟩
 .intro a b i j f e;exact f (g.2 a (qj (jpX i)) b (qj (jpX j)) e)
 .obtain⟨s,c,rfl⟩:=jEj.1 (c.subset k);exact jiu g.1.2.2 (qj (jpX c))
theorem jtI {r:List Int} (k:r.Nodup) (h:∀x∈r,0<=x/\x<=99):U.jez r 100=U.jen r:=by
 have e:∀m,U.jAw r m r.length=r.filter (fun x=>decide (x=(m:Int))):=fun m=>by unfold U.jAw;rw[jEz]
 have d:∀m x,x∈U.jAw r m r.length->x=(m:Int)/\x∈r:=fun m x c=>by
  rw[e m] at c;have:=jD6.1 c;exact⟨of_decide_eq_true this.2,this.1⟩
 have f:(U.jez r 100).Pairwise (fun a b=>a<=b):=by
  unfold U.jez;refine List.pairwise_flatMap.2 ⟨fun m _=> ?_,List.Pairwise.imp ?_ jEW⟩
  .refine List.Pairwise.imp_of_mem ?_ (R:=fun _ _=>True) (List.pairwise_of_forall (fun _ _=>trivial));intro a b n o _;have:=(d m a n).1;have:=(d m b o).1;omega
  .intro a b g x c y j;have:=(d a x c).1;have:=(d b y j).1;omega
 have i:(U.jez r 100).Nodup:=by
  unfold U.jez;refine List.pairwise_flatMap.2 ⟨fun m _=> ?_,List.Pairwise.imp ?_ jEW⟩
  .rw[e m];exact List.Pairwise.filter _ k
  .intro a b g x c y j l;have:=(d a x c).1;have:=(d b y j).1;omega
 have p:(U.jez r 100).Perm r:=L.perm_of_nodup i k fun x=>by
  unfold U.jez;rw[List.mem_flatMap];refine⟨fun⟨m,_,c⟩=>(d m x c).2,fun c=> ?_⟩;have q:=h x c;refine⟨x.toNat,jD3.2 (by omega),?_⟩;rw[e];exact jD6.2 ⟨c,decide_eq_true (by omega)⟩
 exact jcK (p.trans (jfL r).symm) f (jvl r)
theorem jAt (d:DyD):U.jkk d=if U.v8 d=0 then U.jez (U.jgz d).2 100 else[]:=by
 unfold U.jkk;rw[jay]
 split
 .rename_i h;have h:=(jay d).trans h;have a:=jvK h;rw[jtI a.1 a.2,<-(jfR h).ref];rfl
 .rfl
end Go.X
namespace Go.X
open Go.Proofs
attribute [local irreducible] U.wl U.jcD U.jzx U.y8 U.jd0 U.juQ U.jwv
end Go.X
namespace Go.X
open Go.Proofs
end Go.X
namespace Go.X
open Go.Proofs
section
attribute [local irreducible] U.jez U.jAw U.jgz U.v8
end
section
attribute [local irreducible] U.v8
end
section
attribute [local irreducible] U.wC U.on U.qB U.joP
end
section
attribute [local irreducible] U.v8 U.qB
end
end Go.X
namespace Go.X
open Go.Proofs
section
attribute [local irreducible] U.v8
end
end Go.X
namespace Go.X
open Go.Proofs
end Go.X

namespace Go.X
theorem jBN {d:DyD} (h:U.v8 d=0) {b:Nat} (a:b<(U.jp d).length):0<=nth (U.jgz d).1 b/\nth (U.jgz d).1 b<2^(U.jh (U.jf d)).length:=by
 have c:=jfR ((jay d).trans h);have e:=c.set b a;exact⟨e.1,BT.lt_of_has e (fun p f=>((c.bit b a p).1 f).1)⟩
end Go.X
