/-
  Part 6 of the road: a checked reading of bodies, and what the functions on it do (P10 B5 P11 B6 P12 P13 B7 P14 B8 P15 C1 PC1 PC2 PC3 PC4 C2 PC5 PC6 PC7 PC8 C3 PC9 SL PC10 S1 S2 S3 PC11 C4 PC12 PC13 PC14 S4 S5).
-/
import Derived.Test.YtnkahkkofmoipaaGreatDoorK05
namespace Go.X
open Go.Proofs
theorem zp {d:DyD} (h:U.jJ d=0):U.ja5 d/\∀a∈U.kR d,∀b∈U.kR d,U.wO a=U.wO b->a=b:=by
 unfold U.jJ U.jj3 at h;cases c:U.jl (U.jd d) with
 |false=>rw[c] at h;simp at h
 |true=>
  cases e:U.jvg d with
  |false=>rw[c,e] at h;simp at h
  |true=>
   cases f:U.zC d with
   |false=>rw[c,e,f] at h;simp at h
   |true=>
    cases g:U.jwj (U.jU (U.kR d)) with
    |true=>rw[c,e,f,g] at h;simp at h
    |false=>exact⟨⟨c,e,f⟩,(jyT _).1 g⟩
theorem jDf:jba U.js:=by
 have e:U.js=jzG (fun a b=>U.gK (U.jnT a) (U.jnT b)) (fun a b=>U.gK (U.wO a) (U.wO b)):=by
  funext a b;unfold U.js;rw[zq,wg];rfl
 rw[e];exact jgm (jgU jfC U.jnT) (jgU jfC U.wO)
theorem jza {a b:ShD} (h:U.js a b=0):U.wO a=U.wO b:=by
 unfold U.js at h;rw[zq,wg] at h
 split at h
 .contradiction
 .exact vn.1 h
theorem jFj {d:DyD} (h:U.jJ d=0):kD (U.jg tSh fun x=>(U.js x.1 x.2.1,())) (U.jU (U.kR d)):=
 jmR jDf (fun a b e f c=>(zp h).2 a (jd3.1 e) b (jd3.1 f) (jza c))
theorem jac {d:DyD} {s:ShD}:s∈U.zL d↔s∈U.kR d:=((zg _).mem_iff).trans jd3
theorem y5 (d:DyD):(U.zL d).Nodup:=(zg _).nodup_iff.2 (jp2 _)
theorem jCi (d:DyD):(U.zL d).length<=(U.kR d).length:=by
 unfold U.zL U.jFy;rw[(zg _).length_eq];exact jy1 _
theorem jhW {d:DyD} (h:U.zC d=true) {s:ShD} (a:s∈U.kR d):(0<=U.jcY s/\U.jcY s<((U.je (U.jd d)).length:Int))/\U.qb d (U.joH s):=by
 have:=(zl h).2.2.2.2.2.2.2 _ a;unfold U.jbG at this;have:=of_decide_eq_true this;unfold U.qb;omega
theorem jjn {l:List ShD} {i:Nat} (h:i<l.length):U.zB l (i+1)=jdM tSt (U.y7 (nth l i)) (nth l i) (U.zB l i):=by
 unfold U.zB;rw[L.take_succ h,jFX];rfl
theorem jeD {r:RoD} {l:List ShD} {i:Nat} (h:i<l.length):U.kA r l (i+1)=U.joi (U.rd r) (U.q6 r) (U.zB l l.length) (U.kA r l i) (nth l i):=by
 unfold U.kA;rw[L.take_succ h,jFX];rfl
theorem jEW {d:DyD} {l:List Int} (c:l.Nodup) (a:∀b∈l,U.qb d b):l.length<=(U.jq d).length:=by
 have:=L.nodup_len l ((List.range (U.jq d).length).map (fun(b:Nat)=>(b:Int))) c (fun x e=>by
  have:=a x e;unfold U.qb at this;exact jGc.2 ⟨x.toNat,jFP.2 (by omega),by omega⟩)
 simpa using this
section
variable {r:RoD} {l:List ShD} {i:Nat}
theorem jwI (u:U.zC (U.rd r)=true) (v:∀s∈l,s∈U.kR (U.rd r)) (nd:l.Nodup) (h:i<l.length) {x:List (List Int)×List Int} (y:U.yi (U.rd r,U.q6 r,U.wy r,U.jEM r,()) l i x)
 (k:U.kx (U.zB l l.length) (nth l i)=true):(nth x.1 (U.jcY (nth l i)).toNat++[U.joH (nth l i)]).Nodup/\(∀b∈nth x.1 (U.jcY (nth l i)).toNat++[U.joH (nth l i)],U.qb (U.rd r) b)/\
  ∀b∈nth x.1 (U.jcY (nth l i)).toNat++[U.joH (nth l i)],∃j:Nat,j<i+1/\U.y7 (nth l j)=(b,((U.jcY (nth l i)).toNat:Int),())/\kJ (Ty.dflt tSh) (zA tSt (U.y7 (nth l j)) (U.zB l l.length))=nth l j:=by
 obtain⟨A,B,q⟩:=y;have w:=jhW u (v _ (L.mem_nth h));have d:kJ (Ty.dflt tSh) (zA tSt (U.y7 (nth l i)) (U.zB l l.length))=nth l i:=by
  unfold U.kx at k;simp only[jF9,jF3,jGl,decide_eq_true_eq] at k;exact k.1
 have o:((U.jcY (nth l i)).toNat:Int)=U.jcY (nth l i):=(by omega);obtain⟨z,m⟩:=q (U.jcY (nth l i)).toNat;refine⟨?_,fun b c=> ?_,fun b c=> ?_⟩
 .refine jGF.2 ⟨z,by simp,fun a t b c e=> ?_⟩;simp at c;subst c;subst e;obtain⟨_,j,n,f,g⟩:=m _ t;rw[o] at f;have p:U.y7 (nth l j)=U.y7 (nth l i):=f;rw[p,d] at g;have:=(List.nodup_iff_pairwise_ne.1 nd);rw[jGE] at this;refine this j i (by omega) h n ?_;rw[<-L.nth_lt,<-L.nth_lt h];exact g.symm
 .rcases jFL.1 c with c|c
  .exact(m b c).1
  .simp at c;subst c;exact w.2
 .rcases jFL.1 c with c|c
  .obtain⟨_,j,n,f,g⟩:=m b c;exact⟨j,by omega,f,g⟩
  .simp at c;subst c;exact⟨i,by omega,by rw[o];rfl,d⟩
theorem jyj {r:RoD} {x:List (List Int)×List Int} (a:U.yi r l i x):U.yi r l (i+1) x:=
 ⟨a.1,by have:=a.2.1;omega,fun p=>⟨(a.2.2 p).1,fun b c=>⟨((a.2.2 p).2 b c).1,by
  obtain⟨j,d,e⟩:=((a.2.2 p).2 b c).2
  exact⟨j,by omega,e⟩⟩⟩⟩
theorem jBu (g:U.zC (U.rd r)=true) (j:∀s∈l,s∈U.kR (U.rd r)) (nd:l.Nodup) (h:i<l.length) {x:List (List Int)×List Int} (a:U.yi r l i x):
 U.yi r l (i+1) (U.joi (U.rd r) (U.q6 r) (U.zB l l.length) x (nth l i)):=by
 unfold U.joi;cases k:U.kx (U.zB l l.length) (nth l i) with
 |false=>rw[if_neg (by simp)];exact jyj a
 |true=>
  rw[if_pos rfl];have d:=jwI g j nd h a k;have m:=jhW g (j _ (L.mem_nth h))
  split
  .refine⟨by show(x.1.set _ _).length=_;rw[jGK];exact a.1,by have:=a.2.1;show x.2.length<=_;omega,fun p=> ?_⟩;have c:(U.jcY (nth l i)).toNat<x.1.length:=(by rw[a.1];omega);show(nth (x.1.set (U.jcY (nth l i)).toNat (nth x.1 (U.jcY (nth l i)).toNat++[U.joH (nth l i)])) p).Nodup/\_;rw[L.nth_set c]
   split
   .rename_i e;subst e;exact⟨d.1,fun b f=>⟨d.2.1 b f,d.2.2 b f⟩⟩
   .exact(jyj a).2.2 p
  .refine⟨a.1,?_,(jyj a).2.2⟩;have:=a.2.1;show(x.2++[U.wO (nth l i)]).length<=_;rw[jFY];simp;omega
end
theorem jty {l:List (List Int)} (h:U.jCI l) (p:Nat):nth l p=[]:=by
 by_cases a:p<l.length
 .exact h _ (L.mem_nth a)
 .unfold nth;rw[jGd,List.getElem?_eq_none (by omega)];rfl
theorem jwH {r:RoD} {l:List ShD} (a:(U.wy r).length=(U.je (U.jd (U.rd r))).length) (c:U.jCI (U.wy r)) (d:U.jEM r=U.qX):U.yi r l 0 (U.kA r l 0):=by
 refine⟨a,?_,fun p=> ?_⟩
 .show(U.jEM r).length<=0;rw[d];exact jFE 0
 .have e:nth (U.kA r l 0).1 p=[]:=jty c p;rw[e];exact⟨List.nodup_nil,fun b f=>by cases f⟩
theorem jEt (m:List ((Int×Int×Unit)×ShD)) (s:ShD):U.kx m s= !(!decide (kJ (Ty.dflt tSh) (zA tSt (U.y7 s) m)=s)||decide (U.jz0 s≠1)):=by
 unfold U.kx;by_cases h:U.jz0 s=1<;>simp[h]
section
variable {r:RoD} {l:List ShD} {i:Nat}
theorem js3 (h:i<l.length) (a:U.kx (U.zB l l.length) (nth l i)=false):U.kA r l (i+1)=U.kA r l i:=by
 rw[jeD h];unfold U.joi;rw[a,if_neg (by simp)]
theorem jwJ (h:i<l.length) (a:U.kx (U.zB l l.length) (nth l i)=true) (b:U.jqe (U.rd r) (U.q6 r) (U.jcY (nth l i)) (nth (U.kA r l i).1 (U.jcY (nth l i)).toNat++[U.joH (nth l i)])=true):
 U.kA r l (i+1)=((U.kA r l i).1.set (U.jcY (nth l i)).toNat (nth (U.kA r l i).1 (U.jcY (nth l i)).toNat++[U.joH (nth l i)]),(U.kA r l i).2):=by
 rw[jeD h];unfold U.joi;rw[a,if_pos rfl,if_pos b]
theorem jBv (h:i<l.length) (a:U.kx (U.zB l l.length) (nth l i)=true) (b:U.jqe (U.rd r) (U.q6 r) (U.jcY (nth l i)) (nth (U.kA r l i).1 (U.jcY (nth l i)).toNat++[U.joH (nth l i)])=false):
 U.kA r l (i+1)=((U.kA r l i).1,(U.kA r l i).2++[U.wO (nth l i)]):=by
 rw[jeD h];unfold U.joi;rw[a,if_pos rfl,b,if_neg (by simp)]
end
theorem jhN:jfS:=by
 unfold jfS q92_5 q92_0 q92_4 q92_1 q92_3 q92_2;rintro⟨b,⟨⟩⟩ K;obtain⟨⟨hk,O⟩,⟨P,B⟩,C⟩:U.jAj (U.kF b):=K;have G:=(zp hk).1;have u:=G.2.2;have v:(U.kR (U.rd (U.kF b))).length<=30:=(zl u).2.2.2.2.1;have I:b.2.2.2.2.2.2.2.1.length<=30:=v;have N:(U.zL (U.rd (U.kF b))).length<=30:=jFR (jCi _) v;have g:∀s∈U.zL (U.rd (U.kF b)),s∈U.kR (U.rd (U.kF b)):=fun s D=>jac.1 D
 have w:=y5 (U.rd (U.kF b));have M:(U.jq (U.rd (U.kF b))).length<=4:=(zl u).1;refine⟨by show b.2.2.2.2.2.2.2.1.length<=100000;omega,fun _ _ _ _=>trivial,jFj hk,fun _=>⟨⟨0,⟨⟨rfl,trivial⟩,rfl,trivial⟩,jFM _⟩,fun x J=>⟨fun h=> ?_,fun h _=>⟨⟨0,⟨⟨rfl,trivial⟩,rfl,rfl,trivial⟩,jFM _,jwH (r:=U.kF b) P B C⟩,fun y n=>⟨fun t=> ?_,fun t=> ?_⟩⟩⟩⟩⟩
 .have h:(x:Int)<((U.zL (U.rd (U.kF b))).length:Int):=of_decide_eq_true h;have D:=jjn (l:=U.zL (U.rd (U.kF b))) (i:=x) (by omega);exact⟨by omega,h,L.in64 (by omega) (by omega),x+1,⟨⟨by simp,trivial⟩,D.symm,trivial⟩,by show x+1<=(U.zL (U.rd (U.kF b))).length;omega,by show(U.zL (U.rd (U.kF b))).length-(x+1)<(U.zL (U.rd (U.kF b))).length-x;omega⟩
 .have J:x<=(U.zL (U.rd (U.kF b))).length:=J;have h:¬(x:Int)<((U.zL (U.rd (U.kF b))).length:Int):=of_decide_eq_false h;have E:x=(U.zL (U.rd (U.kF b))).length:=(by omega);have t:(y:Int)<((U.zL (U.rd (U.kF b))).length:Int):=of_decide_eq_true t;have a:y<(U.zL (U.rd (U.kF b))).length:=(by omega);obtain⟨_,e⟩:y<=(U.zL (U.rd (U.kF b))).length/\U.yi (U.kF b) (U.zL (U.rd (U.kF b))) y (U.kA (U.kF b) (U.zL (U.rd (U.kF b))) y):=n;have c:=jBu (r:=U.kF b) u g w a e;rw[<-jeD a] at c;have F:y+1<=(U.zL (U.rd (U.kF b))).length:=a;have A:(U.zL (U.rd (U.kF b))).length-(y+1)<(U.zL (U.rd (U.kF b))).length-y:=(by omega);have q:=jhW u (g _ (L.mem_nth a));have o:=jEt (U.zB (U.zL (U.rd (U.kF b))) (U.zL (U.rd (U.kF b))).length) (nth (U.zL (U.rd (U.kF b))) y);subst E;refine⟨by omega,t,fun p=> ?_,fun p=> ?_⟩
  .have f:U.kx (U.zB (U.zL (U.rd (U.kF b))) (U.zL (U.rd (U.kF b))).length) (nth (U.zL (U.rd (U.kF b))) y)=false:=by
    rw[o];have p:(!decide (kJ (Ty.dflt tSh) (zA tSt (U.y7 (nth (U.zL (U.rd (U.kF b))) y)) (U.zB (U.zL (U.rd (U.kF b))) (U.zL (U.rd (U.kF b))).length))=nth (U.zL (U.rd (U.kF b))) y)||decide (U.jz0 (nth (U.zL (U.rd (U.kF b))) y)≠1))=true:=p;rw[p];rfl
   have d:=js3 (r:=U.kF b) a f;exact⟨L.in64 (by omega) (by omega),y+1,⟨⟨by simp,trivial⟩,congrArg (·.2) d.symm,congrArg (·.1) d.symm,trivial⟩,⟨F,c⟩,A⟩
  .have f:U.kx (U.zB (U.zL (U.rd (U.kF b))) (U.zL (U.rd (U.kF b))).length) (nth (U.zL (U.rd (U.kF b))) y)=true:=by
    rw[o];have p:(!decide (kJ (Ty.dflt tSh) (zA tSt (U.y7 (nth (U.zL (U.rd (U.kF b))) y)) (U.zB (U.zL (U.rd (U.kF b))) (U.zL (U.rd (U.kF b))).length))=nth (U.zL (U.rd (U.kF b))) y)||decide (U.jz0 (nth (U.zL (U.rd (U.kF b))) y)≠1))=false:=p;rw[p];rfl
   have j:=jwI (r:=U.kF b) u g w a e f;have z:=jEW j.1 j.2.1;have H:(nth (U.kA (U.kF b) (U.zL (U.rd (U.kF b))) y).1 (U.jcY (nth (U.zL (U.rd (U.kF b))) y)).toNat).length<=4:=by
    rw[jFY] at z;omega
   have k:0<=U.jcY (nth (U.zL (U.rd (U.kF b))) y):=q.1.1;have m:U.jcY (nth (U.zL (U.rd (U.kF b))) y)<((U.kA (U.kF b) (U.zL (U.rd (U.kF b))) y).1.length:Int):=(by rw[e.1];exact q.1.2);have Q:=e.2.1;refine⟨k,m,k,m,k,m,rfl,rfl,?_,rfl,⟨G,O⟩,q.1,⟨jFR z (by omega),j.2.1⟩,fun n=> ?_,fun n=> ?_⟩
   .show((nth (U.kA (U.kF b) (U.zL (U.rd (U.kF b))) y).1 (U.jcY (nth (U.zL (U.rd (U.kF b))) y)).toNat).length+1)*8<=140737488355328;omega
   .have d:=jwJ (r:=U.kF b) a f n;exact⟨k,m,L.in64 (by omega) (by omega),y+1,⟨⟨by simp,trivial⟩,congrArg (·.2) d.symm,congrArg (·.1) d.symm,trivial⟩,⟨F,c⟩,A⟩
   .have d:=jBv (r:=U.kF b) a f n;refine⟨?_,L.in64 (by omega) (by omega),y+1,⟨⟨by simp,trivial⟩,congrArg (·.1) d.symm,⟨rfl,rfl,rfl,rfl,rfl,rfl,rfl,rfl,trivial,trivial,trivial,trivial⟩,congrArg (·.2) d.symm,trivial⟩,⟨F,c⟩,A⟩;show((U.kA (U.kF b) (U.zL (U.rd (U.kF b))) y).2.length+1)*8<=140737488355328;omega
 .have t:¬(y:Int)<((U.zL (U.rd (U.kF b))).length:Int):=of_decide_eq_false t;have n:=n.1;have n:y<=(U.zL (U.rd (U.kF b))).length:=n;have a:y=(U.zL (U.rd (U.kF b))).length:=(by omega);subst a;exact⟨rfl,rfl⟩
theorem jkM:qa PR 120 jkD:=jzY Tryz.sortI 3 (wi Tryz.func120 (c:=zu Tryz.f120) (by kernel_rfl) (by kernel_rfl))
theorem jge:qa PR 80 jf4:=jjf jgI jhN Tryz.func80 (kcC jrH (kcC jbC kcN)) (koC je7 (koC vf (koC jkM koN)))
end Go.X
namespace Go.X
open Go.Proofs
namespace U
def jaL (l:List Int) (n:Nat):Int:=(l.take n).foldl (fun s p=>bor s (1*2^p.toNat)) 0
def joG (l:List Int):Int:=jaL l l.length
def kc (d:DyD) (n:Nat):List Int:=((jq d).take n).map (fun b=>joG (v6 (jd d) (vz b)))
def jDJ (d:DyD):List (List Int):=List.replicate (je (jd d)).length qX
def jqs (d:DyD):RoD:=(d,kc d (jq d).length,jDJ d,qX,())
def qh (d:DyD):RoD:=(d,kc d (jq d).length,(qY (jqs d)).1,(qY (jqs d)).2,())
def zz (d:DyD):Option RoD:=if jJ d=0 then some (qh d) else none
end U
def joB:zK:=⟨[.val tDy,.nil true],[.cl (.dat (.ptr tRo)),.cl (.dat .int)],fun d=>[(U.kR d.1).length<=100000],fun d=>((U.zz d.1,U.jJ d.1,()),())⟩
def jzs:Ann:=fun r=>match r with
 |8=>some fun σ=>{X:=Nat,sl:=fun i=>[(39,.dat .int (i:Int))],ob:=fun i=>[(27,some (.box 72 false (((bx σ 27).set 8 (.own (yJ 27 8) .int)).set 10 (.own (yJ 27 10) .int)))),(yJ 27 10,some (.row 3 .int false .yes U.qX)),(yJ 27 8,some (.row 3 .int false .yes (U.kc (gb tDy σ 2) i)))],inv:=fun i=>i<=(U.jq (gb tDy σ 2)).length,mu:=fun i=>(U.jq (gb tDy σ 2)).length-i}
 |13=>some fun σ=>{X:=Nat,sl:=fun i=>[(53,.dat .int (i:Int)),(12,.dat .int (U.jaL (gd (.slice .int) σ 51) i))],ob:=fun _=>[],inv:=fun i=>i<=(gd (.slice .int) σ 51).length,mu:=fun i=>(gd (.slice .int) σ 51).length-i}
 |3000005=>some fun _=>{X:=Unit,sl:=fun _=>[],ob:=fun _=>[],inv:=fun _=>True,mu:=fun _=>0}
 |_=>none
abbrev q93_1 (d:DyD×Unit×Unit)(x:Nat):=(U.v6 d.1.1 (nth d.1.2.2.1 (x:Int).toNat).1)
abbrev q93_2 (d:DyD×Unit×Unit):=(d.1.1.1=d.1.1.1/\d.1.1.2.1=d.1.1.2.1/\d.1.1.2.2.1=d.1.1.2.2.1/\d.1.2.1=d.1.2.1/\d.1.2.2.1=d.1.2.2.1/\d.1.2.2.2.1=d.1.2.2.2.1/\d.1.2.2.2.2.1=d.1.2.2.2.2.1/\d.1.2.2.2.2.2.1=d.1.2.2.2.2.2.1/\True/\True/\True/\True)
abbrev q93_4 (d:DyD×Unit×Unit):=(d.1.1.2.1.length:Int)
abbrev q93_3 (d:DyD×Unit×Unit)(x:Nat):=(U.kF (d.1.1.1,d.1.1.2.1,d.1.1.2.2.1,d.1.2.1,d.1.2.2.1,d.1.2.2.2.1,d.1.2.2.2.2.1,d.1.2.2.2.2.2.1,U.kc d.1 x,List.replicate (q93_4 d).toNat [],U.qX,()))
abbrev q93_0 (d:DyD×Unit×Unit)(x:Nat):=(U.jhR (d.1.1.1,d.1.1.2.1,d.1.1.2.2.1,d.1.2.1,d.1.2.2.1,d.1.2.2.2.1,d.1.2.2.2.2.1,d.1.2.2.2.2.2.1,U.kc d.1 x,List.replicate (q93_4 d).toNat [],U.qX,()) (U.qY (q93_3 d x)))
def jn3:Prop:=∀(d:DyD×Unit×Unit),(U.kR d.1).length<=100000->(U.kR d.1).length<=100000/\(decide (U.jJ d.1≠0)=true->(none,U.jJ d.1,())=(U.zz d.1,U.jJ d.1,())/\()=())/\(decide (U.jJ d.1≠0)=false->0<=(q93_4 d)/\(q93_4 d)=(q93_4 d)/\(q93_4 d).toNat*24<=140737488355328/\((!true)=true->(!true)=true/\(!true)=true/\False)/\((!true)=false->(!true)=false/\(!true)=false/\(!true)=false/\(!true)=false/\(false=true->(none,(1:Int),())=(U.zz d.1,U.jJ d.1,())/\()=())/\(false=false->d.1.2.2.1.length<4611686018427387904->(∃(x:Nat),((0=(x:Int)/\True)/\(q93_2 d)/\U.qX=[]/\U.kc d.1 x=[]/\True)/\x<=(U.jq d.1).length)/\∀(x:Nat),x<=(U.jq d.1).length->(decide ((x:Int)<(d.1.2.2.1.length:Int))=true->0<=(x:Int)/\(x:Int)<(d.1.2.2.1.length:Int)/\((q93_1 d x).length<4611686018427387904->(∃(a:Nat),((0=(a:Int)/\0=U.jaL (q93_1 d x) a/\True)/\True)/\a<=(q93_1 d x).length)/\∀(a:Nat),a<=(q93_1 d x).length->(decide ((a:Int)<(↑(q93_1 d x).length:Int))=true->0<=(a:Int)/\(a:Int)<(↑(q93_1 d x).length:Int)/\0<=nth (q93_1 d x) (a:Int).toNat/\nth (q93_1 d x) (a:Int).toNat<=64/\jz ((1:Int)*2^(nth (q93_1 d x) (a:Int).toNat).toNat)/\jz ((a:Int)+1)/\∃(b:Nat),(((a:Int)+1=(b:Int)/\bor (U.jaL (q93_1 d x) a) ((1:Int)*2^(nth (q93_1 d x) (a:Int).toNat).toNat)=U.jaL (q93_1 d x) b/\True)/\True)/\b<=(q93_1 d x).length/\(q93_1 d x).length-b<(q93_1 d x).length-a)/\(decide ((a:Int)<(↑(q93_1 d x).length:Int))=false->((U.kc d.1 x).length+[U.jaL (q93_1 d x) a].length)*8<=140737488355328/\jz ((x:Int)+1)/\∃(b:Nat),(((x:Int)+1=(b:Int)/\True)/\U.qX=U.qX/\(q93_2 d)/\U.kc d.1 x++[U.jaL (q93_1 d x) a]=U.kc d.1 b/\True)/\b<=(U.jq d.1).length/\(U.jq d.1).length-b<(U.jq d.1).length-x)))/\(decide ((x:Int)<(d.1.2.2.1.length:Int))=false->U.jAj (q93_3 d x)/\(some ((((q93_0 d x).1,(q93_0 d x).2.1,(q93_0 d x).2.2.1,()),(q93_0 d x).2.2.2.1,(q93_0 d x).2.2.2.2.1,(q93_0 d x).2.2.2.2.2.1,(q93_0 d x).2.2.2.2.2.2.1,(q93_0 d x).2.2.2.2.2.2.2.1,()),(q93_0 d x).2.2.2.2.2.2.2.2.1,(q93_0 d x).2.2.2.2.2.2.2.2.2.1,(q93_0 d x).2.2.2.2.2.2.2.2.2.2.1,()),(0:Int),())=(U.zz d.1,U.jJ d.1,())/\()=()))))
end Go.X
namespace Go.X
open Go.Proofs
theorem jf5 {l:List Int} {i:Nat} (h:i<l.length):U.jaL l (i+1)=bor (U.jaL l i) (1*2^(nth l i).toNat):=by
 unfold U.jaL;rw[L.take_succ h,jFX];rfl
theorem jx2 {d:DyD} {i:Nat} (h:i<(U.jq d).length):U.kc d (i+1)=U.kc d i++[U.joG (U.v6 (U.jd d) (U.vz (nth (U.jq d) i)))]:=by
 unfold U.kc;rw[L.take_succ h,jGA];rfl
theorem jAr (d:DyD) (i:Nat):(U.kc d i).length<=i:=by
 unfold U.kc;rw[jGR,jGa];omega
theorem jrU {c:CrD} (h:U.jl c=true) {j:JbD} {p:Int} (a:p∈U.v6 c j):0<=p/\p<8:=by
 have d:=(jx h).2.2.1;unfold U.v6 at a
 split at a
 .unfold U.vR at a;obtain⟨n,b,rfl⟩:=jGc.1 a;have:=jFP.1 (jF0.1 b).1;omega
 .cases a
theorem jCM {c:CrD} (h:U.jl c=true) (j:JbD):(U.v6 c j).length<=8:=by
 have a:=(jx h).2.2.1;unfold U.v6
 split
 .unfold U.vR;rw[jGR];exact jFR (List.length_filter_le _ _) (by simpa using a)
 .exact jFM _
theorem jxe {d:DyD} (h:U.jJ d=0):U.jAj (U.jqs d):=by
 refine⟨⟨h,?_⟩,⟨?_,fun x a=> ?_⟩,rfl⟩
 .show(U.kc d (U.jq d).length).length=(U.jq d).length;unfold U.kc;simp
 .show(U.jDJ d).length=(U.je (U.jd d)).length;unfold U.jDJ;simp
 .have a:x∈U.jDJ d:=a;unfold U.jDJ at a;exact(List.mem_replicate.1 a).2
theorem jr6:jn3:=by
 unfold jn3 q93_0 q93_3 q93_4 q93_2 q93_1;rintro⟨d,⟨⟩,⟨⟩⟩ j;refine⟨j,fun h=>⟨?_,rfl⟩,fun h=>⟨jF8 _,rfl,?_,fun c=>(by cases c),fun _=>⟨rfl,rfl,rfl,rfl,fun c=>(by cases c),fun _=> ?_⟩⟩⟩
 .have h:U.jJ d≠0:=of_decide_eq_true h;show(none,U.jJ d,())=(U.zz d,U.jJ d,());unfold U.zz;rw[if_neg h]
 .have hk:U.jJ d=0:=Classical.not_not.1 (of_decide_eq_false h);have e:=(jx (zp hk).1.1).2.2.1;have e:d.1.2.1.length<=8:=e;show((d.1.2.1.length:Int)).toNat*24<=140737488355328;omega
 have hk:U.jJ d=0:=Classical.not_not.1 (of_decide_eq_false h);clear j h;have f:=(zp hk).1;have r:=f.2.2;have g:(U.jq d).length<=4:=(zl r).1;have n:d.2.2.1.length<=4:=g;refine fun _=>⟨⟨0,⟨⟨rfl,trivial⟩,⟨rfl,rfl,rfl,rfl,rfl,rfl,rfl,rfl,trivial,trivial,trivial,trivial⟩,rfl,rfl,trivial⟩,jFM _⟩,fun x o=>⟨fun h=>⟨by omega,of_decide_eq_true h,fun _=>⟨⟨0,⟨⟨rfl,rfl,trivial⟩,trivial⟩,jFM _⟩,fun y p=>⟨fun a=> ?_,fun a=> ?_⟩⟩⟩,fun h=> ?_⟩⟩
 .have a:(y:Int)<((U.v6 (U.jd d) (nth d.2.2.1 (x:Int).toNat).1).length:Int):=of_decide_eq_true a;have b:y<(U.v6 (U.jd d) (nth d.2.2.1 (x:Int).toNat).1).length:=(by omega);have s:=jrU f.1 (L.mem_nth b);have k:=jf5 b;have e:=jCM f.1 (nth d.2.2.1 (x:Int).toNat).1;have q:BT.Set' ((2:Int)^(nth (U.v6 (U.jd d) (nth d.2.2.1 (x:Int).toNat).1) y).toNat):=BT.two_set (by omega);unfold BT.Set' at q;exact⟨by omega,a,s.1,by show nth (U.v6 (U.jd d) (nth d.2.2.1 (x:Int).toNat).1) y<=64;omega,by show jz (1*2^(nth (U.v6 (U.jd d) (nth d.2.2.1 (x:Int).toNat).1) y).toNat);rw[vK];exact L.in64 (by omega) (by omega),L.in64 (by omega) (by omega),y+1,⟨⟨by simp,k.symm,trivial⟩,trivial⟩,by show y+1<=(U.v6 (U.jd d) (nth d.2.2.1 (x:Int).toNat).1).length;omega,by show(U.v6 (U.jd d) (nth d.2.2.1 (x:Int).toNat).1).length-(y+1)<(U.v6 (U.jd d) (nth d.2.2.1 (x:Int).toNat).1).length-y;omega⟩
 .have h:(x:Int)<((U.jq d).length:Int):=of_decide_eq_true h;have k:=jx2 (d:=d) (i:=x) (by omega);have j:=jAr d x;have p:y<=(U.v6 (U.jd d) (nth d.2.2.1 (x:Int).toNat).1).length:=p;have a:¬(y:Int)<((U.v6 (U.jd d) (nth d.2.2.1 (x:Int).toNat).1).length:Int):=of_decide_eq_false a;have m:y=(U.v6 (U.jd d) (nth d.2.2.1 (x:Int).toNat).1).length:=(by omega);subst m;refine⟨?_,L.in64 (by omega) (by omega),x+1,⟨⟨by simp,trivial⟩,rfl,⟨rfl,rfl,rfl,rfl,rfl,rfl,rfl,rfl,trivial,trivial,trivial,trivial⟩,k.symm,trivial⟩,by show x+1<=(U.jq d).length;omega,by show(U.jq d).length-(x+1)<(U.jq d).length-x;omega⟩;show((U.kc d x).length+1)*8<=140737488355328;omega
 .have h:¬(x:Int)<((U.jq d).length:Int):=of_decide_eq_false h;have o:x<=(U.jq d).length:=o;have l:x=(U.jq d).length:=(by omega);subst l;refine⟨jxe hk,?_⟩;refine⟨?_,rfl⟩;show(some (U.qh d),(0:Int),())=(U.zz d,U.jJ d,());unfold U.zz;rw[if_pos hk,hk]
theorem jbD:qa PR 39 joB:=jjf jzs jr6 Tryz.func39 (kcC ju1 (kcC jAh kcN)) (koC jge koN)
end Go.X
namespace Go.X
open Go.Proofs
namespace U
def qg (d:DyD) (n:Nat):List Int:=(List.range n).map (fun(b:Nat)=>jfW (wy (qh d)) (b:Int))
def jku (d:DyD):List Int:=if jJ d=0 then qg d (jq d).length else[]
def jkH (d:DyD):List Int:=if jJ d=0 then jEM (qh d) else[]
def jps (d:DyD) (p:Int):Bool:=ja p 0 (((je (jd d)).length:Int)-1)
def jyh (d:DyD) (b:Int):Bool:=ja b 0 (((jq d).length:Int)-1)
end U
def juA:jQ:=⟨[.val tDy],[.slice .int,.int],false,fun d=>[(U.kR d.1).length<=100000],fun d=>(U.jku d.1,U.jJ d.1,())⟩
def jv3:Ann:=fun r=>match r with
 |6=>some fun σ=>{X:=Nat,sl:=fun i=>[(19,.dat .int (i:Int)),(6,.own 6 .int)],ob:=fun i=>[(6,some (.row 3 .int false .yes (U.qg (gb tDy σ 1) i)))],inv:=fun i=>i<=(U.jq (gb tDy σ 1)).length,mu:=fun i=>(U.jq (gb tDy σ 1)).length-i}
 |_=>none
def jug:Prop:=∀(d:DyD×Unit),(U.kR d.1).length<=100000->(U.kR d.1).length<=100000/\(decide (U.jJ d.1≠0)=true->([],U.jJ d.1,())=(U.jku d.1,U.jJ d.1,()))/\(decide (U.jJ d.1≠0)=false->d.1.2.2.1.length<4611686018427387904->(∃(x:Nat),((0=(x:Int)/\True/\True)/\U.qg d.1 x=[]/\True)/\x<=(U.jq d.1).length)/\∀(x:Nat),x<=(U.jq d.1).length->(decide ((x:Int)<(d.1.2.2.1.length:Int))=true->(U.zz d.1).isSome=true/\(U.wy (U.ro (U.zz d.1))).length<=60/\((U.qg d.1 x).length+[U.jfW (U.wy (U.ro (U.zz d.1))) (x:Int)].length)*8<=140737488355328/\jz ((x:Int)+1)/\∃(a:Nat),(((x:Int)+1=(a:Int)/\True/\True)/\U.qg d.1 x++[U.jfW (U.wy (U.ro (U.zz d.1))) (x:Int)]=U.qg d.1 a/\True)/\a<=(U.jq d.1).length/\(U.jq d.1).length-a<(U.jq d.1).length-x)/\(decide ((x:Int)<(d.1.2.2.1.length:Int))=false->(U.qg d.1 x,(0:Int),())=(U.jku d.1,U.jJ d.1,())))
def jou:jQ:=⟨[.val tDy],[.slice .int,.int],false,fun d=>[(U.kR d.1).length<=100000],fun d=>(U.jkH d.1,U.jJ d.1,())⟩
def jn9:Prop:=∀(d:DyD×Unit),(U.kR d.1).length<=100000->(U.kR d.1).length<=100000/\(decide (U.jJ d.1≠0)=true->([],U.jJ d.1,())=(U.jkH d.1,U.jJ d.1,()))/\(decide (U.jJ d.1≠0)=false->(U.zz d.1).isSome=true/\((jX ((((0:Int),[],[],()),[],[],(0:Int),(0:Int),[],()),[],[],[],()) (U.zz d.1)).2.2.2.1,(0:Int),())=(U.jkH d.1,U.jJ d.1,()))
end Go.X
namespace Go.X
open Go.Proofs
theorem jqX {r:RoD} {l:List ShD} (d:U.zC (U.rd r)=true) (e:∀s∈l,s∈U.kR (U.rd r)) (nd:l.Nodup) (a:(U.wy r).length=(U.je (U.jd (U.rd r))).length) (b:U.jCI (U.wy r)) (c:U.jEM r=U.qX):
 ∀i,i<=l.length->U.yi r l i (U.kA r l i)
 |0,_=>jwH a b c
 |i+1,hi=>by
  rw[jeD hi]
  exact jBu d e nd hi (jqX d e nd a b c i (by omega))
structure jDy (d:DyD):Prop where
 may:U.jpk (U.qh d)
 len:(U.wy (U.qh d)).length=(U.je (U.jd d)).length
 row:∀p,(nth (U.wy (U.qh d)) p).Nodup/\∀b∈nth (U.wy (U.qh d)) p,U.qb d b
theorem joK {d:DyD} (h:U.jJ d=0):jDy d:=by
 obtain⟨⟨_,i⟩,⟨j,c⟩,e⟩:=jxe h;have f:=(zp h).1;have a:=jqX (r:=U.jqs d) (l:=U.zL d) f.2.2 (fun s k=>jac.1 k) (y5 d) j c e _ (jFE _);refine⟨⟨f,i⟩,a.1,fun p=> ?_⟩;have:=a.2.2 p;exact⟨this.1,fun b g=>(this.2 b g).1⟩
theorem jDy.len60 {d:DyD} (h:jDy d):(U.wy (U.qh d)).length<=60:=by
 have a:=(jx h.may.1.1).2.2.1;have a:(U.je (U.jd d)).length<=8:=a;rw[h.len];omega
theorem jxy {d:DyD} (h:U.jJ d=0):U.zz d=some (U.qh d):=if_pos h
theorem jup (d:DyD) (n:Nat):U.qg d (n+1)=U.qg d n++[U.jfW (U.wy (U.qh d)) (n:Int)]:=by
 unfold U.qg;rw[jF5,jGA];rfl
theorem jyu:jug:=by
 rintro⟨d,⟨⟩⟩ j;refine⟨j,fun h=> ?_,fun h _=>⟨⟨0,⟨⟨rfl,trivial,trivial⟩,rfl,trivial⟩,jFM _⟩,fun x g=>⟨fun a=> ?_,fun a=> ?_⟩⟩⟩
 .have h:U.jJ d≠0:=of_decide_eq_true h;show([],U.jJ d,())=(U.jku d,U.jJ d,());unfold U.jku;rw[if_neg h]
 .have hk:U.jJ d=0:=Classical.not_not.1 (of_decide_eq_false h);have f:=joK hk;have i:(U.jq d).length<=4:=(zl f.may.1.2.2).1;have a:(x:Int)<((U.jq d).length:Int):=of_decide_eq_true a;have k:=jup d x;have e:(U.qg d x).length=x:=(by unfold U.qg;simp);have b:=jxy hk;refine⟨by show(U.zz d).isSome=true;rw[b];rfl,by show(U.wy (U.ro (U.zz d))).length<=60;rw[b];exact f.len60,?_,L.in64 (by omega) (by omega),x+1,⟨⟨by simp,trivial,trivial⟩,?_,trivial⟩,by show x+1<=(U.jq d).length;omega,by show(U.jq d).length-(x+1)<(U.jq d).length-x;omega⟩
  .show((U.qg d x).length+1)*8<=_;omega
  .show U.qg d x++[U.jfW (U.wy (U.ro (U.zz d))) (x:Int)]=U.qg d (x+1);rw[b,k];rfl
 .have hk:U.jJ d=0:=Classical.not_not.1 (of_decide_eq_false h);have g:x<=(U.jq d).length:=g;have a:¬(x:Int)<((U.jq d).length:Int):=of_decide_eq_false a;have c:x=(U.jq d).length:=(by omega);subst c;show(U.qg d _,(0:Int),())=(U.jku d,U.jJ d,());unfold U.jku;rw[if_pos hk,hk]
theorem ju0:zc PR 18 juA:=kK jv3 jyu Tryz.func18 (kcC jhD kcN) (koC jbD koN)
theorem jsc:jn9:=by
 rintro⟨d,⟨⟩⟩ b;refine⟨b,fun h=> ?_,fun h=> ?_⟩
 .have h:U.jJ d≠0:=of_decide_eq_true h;show([],U.jJ d,())=(U.jkH d,U.jJ d,());unfold U.jkH;rw[if_neg h]
 .have hk:U.jJ d=0:=Classical.not_not.1 (of_decide_eq_false h);have a:=jxy hk;refine⟨by show(U.zz d).isSome=true;rw[a];rfl,?_⟩;show(U.jEM (U.ro (U.zz d)),(0:Int),())=(U.jkH d,U.jJ d,());unfold U.jkH;rw[if_pos hk,hk,a];rfl
theorem jpf:zc PR 20 jou:=jR jsc Tryz.func20 kcN (koC jbD koN)
end Go.X
namespace Go.X
open Go.Proofs
theorem jad {l:List Int} (h:∀p∈l,0<=p/\p<8):∀n,n<=l.length->BT.Set' (U.jaL l n)/\∀q,BT.has (U.jaL l n) q=true->q<8
 |0,_=>⟨BT.zero_set,fun q a=>by rw[show U.jaL l 0=0 from rfl,BT.has_zero] at a;cases a⟩
 |n+1,d=>by
  have b:=jad h n (by omega)
  have e:=h _ (L.mem_nth (l:=l) (i:=n) (by omega))
  have c:BT.Set' ((2:Int)^(nth l n).toNat):=BT.two_set (by omega)
  rw[jf5 (by omega),vK]
  refine⟨BT.bor_set b.1 c,fun q a=> ?_⟩
  rw[BT.has_bor b.1 c,jGJ,BT.has_two,decide_eq_true_eq] at a
  rcases a with a|a
  .exact b.2 q a
  .omega
end Go.X
namespace Go.X
open Go.Proofs
abbrev tSe:Ty:= .st [.ptr tRo,.slice (.slice .int),.slice .int,.slice .int,.int,.bool]
abbrev jFs:Sh:= .box 70 [.dat (.ptr tRo),.row 33 (.slice .int) .unk,.row 3 .int .no,.row 3 .int .unk,.dat .int,.dat .bool]
abbrev SeD:Type:=Option RoD×List (List Int)×List Int×List Int×Int×Bool×Unit
abbrev StD:Type:=List Int×List Int×Int×Bool
namespace U
def kr (ts:List Int) (p:Int) (n:Nat):List Int:=((List.range n).filter (fun i=>decide (qz (nth ts i/2^p.toNat) 1=1))).map (fun(i:Nat)=>(i:Int))
def wH (r:RoD) (ts:List Int) (b n:Nat):Bool:=(List.range n).all (fun p=>gL r (p:Int) (kr ts (p:Int) (b+1)))
def k8 (r:RoD) (ch:List (List Int)):Nat->Nat->Int->StD->StD
 |0,_,_,x=>x
 |k+1,b,fee,x=>
  if(x.2.2.2&&decide (x.2.2.1<=fee))=true then x
  else if b=(jq (rd r)).length then(x.1,x.1,fee,true)
  else(nth ch b).foldl (fun x t=>if wH r (x.1.set b t) b (wy r).length=true then k8 r ch k (b+1) (fee+wC (rd r) t) (x.1.set b t,x.2) else(x.1.set b t,x.2)) x
def yB (r:RoD) (ch:List (List Int)) (k b:Nat) (fee:Int) (x:StD) (t:Int):StD:=
 if wH r (x.1.set b t) b (wy r).length=true then k8 r ch k (b+1) (fee+wC (rd r) t) (x.1.set b t,x.2) else(x.1.set b t,x.2)
def jp (r:RoD) (ch:List (List Int)) (k b:Nat) (fee:Int) (x:StD) (n:Nat):StD:=((nth ch b).take n).foldl (yB r ch k b fee) x
def jk (s:SeD):StD:=(s.2.2.1,s.2.2.2.1,s.2.2.2.2.1,s.2.2.2.2.2.1)
def vb (s:SeD) (x:StD):SeD:=(s.1,s.2.1,x.1,x.2.1,x.2.2.1,x.2.2.2,())
def okCh (d:DyD) (ch:List (List Int)):Prop:=ch.length=(jq d).length/\∀l∈ch,∀t∈l,0<=t/\t<256
def ju8 (k:Nat) (s:SeD) (b fee:Int):Prop:=s.1.isSome=true/\jpk (ro s.1)/\(wy (ro s.1)).length=(je (jd (rd (ro s.1)))).length/\okCh (rd (ro s.1)) s.2.1/\s.2.2.1.length=(jq (rd (ro s.1))).length/\
 (0<=b/\b<=((jq (rd (ro s.1))).length:Int)/\((jq (rd (ro s.1))).length:Int)<b+k)/\0<=fee/\fee<=8000*b
end U
def yl:zK:=⟨[.own (.cl (.row 3 .int .no)) true],[rwI],fun d=>[d.1.length<=100000],fun d=>((d.1,()),(d.1,()))⟩
def jet:Prop:=∀(d:List Int×Unit),d.1.length<=100000->(false=true->([],())=d/\d=d)/\(false=false->(0+d.1.length)*8<=140737488355328/\([]++d.1,())=d/\d=d)
def qZ (k:Nat):zK:=⟨[.own jFs true,.val .int,.val .int],[],fun d=>[U.ju8 k d.1 d.2.1 d.2.2.1],fun d=>((),(U.vb d.1 (U.k8 (U.ro d.1.1) d.1.2.1 k d.2.1.toNat d.2.2.1 (U.jk d.1)),()))⟩
def jhT (k:Nat):Ann:=fun r=>match r with
 |4=>some fun σ=>{X:=Nat,sl:=fun i=>[(58,.dat .int (i:Int)),(53,.any),(55,.any)],ob:=fun i=>[(1000000,some (.box 70 false (((bx σ 1000000).set 4 (.dat .int (U.jp (U.ro (gb tSe σ 1000000).1) (gb tSe σ 1000000).2.1 k (gd .int σ 1).toNat (gd .int σ 2) (U.jk (gb tSe σ 1000000)) i).2.2.1)).set 5 (.dat .bool (U.jp (U.ro (gb tSe σ 1000000).1) (gb tSe σ 1000000).2.1 k (gd .int σ 1).toNat (gd .int σ 2) (U.jk (gb tSe σ 1000000)) i).2.2.2)))),(400002,some (.row 3 .int false .no (U.jp (U.ro (gb tSe σ 1000000).1) (gb tSe σ 1000000).2.1 k (gd .int σ 1).toNat (gd .int σ 2) (U.jk (gb tSe σ 1000000)) i).1)),(400003,some (.row 3 .int false .unk (U.jp (U.ro (gb tSe σ 1000000).1) (gb tSe σ 1000000).2.1 k (gd .int σ 1).toNat (gd .int σ 2) (U.jk (gb tSe σ 1000000)) i).2.1))],inv:=fun i=>i<=(nth (gb tSe σ 1000000).2.1 (gd .int σ 1).toNat).length/\(U.jp (U.ro (gb tSe σ 1000000).1) (gb tSe σ 1000000).2.1 k (gd .int σ 1).toNat (gd .int σ 2) (U.jk (gb tSe σ 1000000)) i).1.length=(gb tSe σ 1000000).2.2.1.length,mu:=fun i=>(nth (gb tSe σ 1000000).2.1 (gd .int σ 1).toNat).length-i}
 |8=>some fun σ=>{X:=Nat,sl:=fun p=>[(77,.dat .int (p:Int))],ob:=fun _=>[],inv:=fun p=>p<=(U.wy (U.ro (gb tSe σ 1000000).1)).length/\U.wH (U.ro (gb tSe σ 1000000).1) (gr .int σ 400002) (gd .int σ 1).toNat p=true,mu:=fun p=>(U.wy (U.ro (gb tSe σ 1000000).1)).length-p}
 |12=>some fun σ=>{X:=Nat,sl:=fun i=>[(88,.dat .int (i:Int)),(9,.own 9 .int)],ob:=fun i=>[(9,some (.row 3 .int false .yes (U.kr (gr .int σ 400002) (gd .int σ 8) i)))],inv:=fun i=>i<=(gd .int σ 1).toNat+1,mu:=fun i=>(gd .int σ 1).toNat+1-i}
 |_=>none
def jiW:Prop:=∀k:Nat,jrP (ctx 125 [(83,jbp),(68,jbo)] [(82,yl),(41,qZ k)]) (jhT k) Tryz.f41 (zu Tryz.f41) (qZ (k+1))
abbrev q97_1 (d:(Option RoD×List (List Int)×List Int×List Int×Int×Bool×Unit)×Int×Int×Unit)(k:Nat)(x:Nat):=(U.jp (U.ro d.1.1) d.1.2.1 k d.2.1.toNat d.2.2.1 (U.jk d.1) x)
abbrev q97_3 (d:(Option RoD×List (List Int)×List Int×List Int×Int×Bool×Unit)×Int×Int×Unit)(k:Nat)(a:Nat):=(U.jp (U.ro d.1.1) d.1.2.1 k d.2.1.toNat d.2.2.1 (U.jk d.1) a)
abbrev q97_4 (d:(Option RoD×List (List Int)×List Int×List Int×Int×Bool×Unit)×Int×Int×Unit):=(jX ((((0:Int),[],[],()),[],[],(0:Int),(0:Int),[],()),[],[],[],()) d.1.1)
abbrev q97_5 (d:(Option RoD×List (List Int)×List Int×List Int×Int×Bool×Unit)×Int×Int×Unit):=(nth d.1.2.1 d.2.1.toNat)
abbrev q97_2 (d:(Option RoD×List (List Int)×List Int×List Int×Int×Bool×Unit)×Int×Int×Unit)(k:Nat)(x:Nat):=((q97_1 d k x).1.set d.2.1.toNat (nth (q97_5 d) (x:Int).toNat))
abbrev q97_6 (d:(Option RoD×List (List Int)×List Int×List Int×Int×Bool×Unit)×Int×Int×Unit)(k:Nat)(x:Nat):=(d.1.1,d.1.2.1,(q97_1 d k x).1.set d.2.1.toNat (nth (q97_5 d) (x:Int).toNat),(q97_1 d k x).2.1,(q97_1 d k x).2.2.1,(q97_1 d k x).2.2.2,())
abbrev q97_0 (d:(Option RoD×List (List Int)×List Int×List Int×Int×Bool×Unit)×Int×Int×Unit)(k:Nat)(x:Nat):=(U.vb (q97_6 d k x) (U.k8 (U.ro d.1.1) d.1.2.1 k (d.2.1+1).toNat (d.2.2.1+U.wC (U.rd (U.ro d.1.1)) (nth (q97_5 d) (x:Int).toNat)) (U.jk (q97_6 d k x))))
abbrev q97_7 (d:(Option RoD×List (List Int)×List Int×List Int×Int×Bool×Unit)×Int×Int×Unit)(k:Nat):=(U.vb d.1 (U.k8 (U.ro d.1.1) d.1.2.1 (k+1) d.2.1.toNat d.2.2.1 (U.jk d.1)),())
def jaI:Prop:=∀(k:Nat) (d:(Option RoD×List (List Int)×List Int×List Int×Int×Bool×Unit)×Int×Int×Unit),U.ju8 (k+1) d.1 d.2.1 d.2.2.1->((d.1.2.2.2.2.2.1&&decide (d.1.2.2.2.2.1<=d.2.2.1))=true->()=()/\(d.1,())=(q97_7 d k))/\((d.1.2.2.2.2.2.1&&decide (d.1.2.2.2.2.1<=d.2.2.1))=false->d.1.1.isSome=true/\((q97_4 d).1.2.2.1.length<4611686018427387904->(decide (d.2.1=(↑(q97_4 d).1.2.2.1.length:Int))=true->d.1.2.2.1.length<=100000/\()=()/\((d.1.1,d.1.2.1,d.1.2.2.1,d.1.2.2.1,d.2.2.1,true,()),())=(q97_7 d k))/\(decide (d.2.1=(↑(q97_4 d).1.2.2.1.length:Int))=false->0<=d.2.1/\d.2.1<(d.1.2.1.length:Int)/\((q97_5 d).length<4611686018427387904->(∃(x:Nat),((0=(x:Int)/\True)/\(d.1.1=d.1.1/\True/\True/\True/\d.1.2.2.2.2.1=(q97_1 d k x).2.2.1/\d.1.2.2.2.2.2.1=(q97_1 d k x).2.2.2/\True)/\d.1.2.2.1=(q97_1 d k x).1/\d.1.2.2.2.1=(q97_1 d k x).2.1/\True)/\x<=(q97_5 d).length/\(q97_1 d k x).1.length=d.1.2.2.1.length)/\∀(x:Nat),x<=(q97_5 d).length/\(q97_1 d k x).1.length=d.1.2.2.1.length->(decide ((x:Int)<(↑(q97_5 d).length:Int))=true->0<=(x:Int)/\(x:Int)<(↑(q97_5 d).length:Int)/\0<=d.2.1/\d.2.1<(↑(q97_1 d k x).1.length:Int)/\d.1.1.isSome=true/\((q97_4 d).2.2.1.length<4611686018427387904->(∃(a:Nat),((0=(a:Int)/\True)/\True)/\a<=(U.wy (U.ro d.1.1)).length/\U.wH (U.ro d.1.1) (q97_2 d k x) d.2.1.toNat a=true)/\∀(a:Nat),a<=(U.wy (U.ro d.1.1)).length/\U.wH (U.ro d.1.1) (q97_2 d k x) d.2.1.toNat a=true->(decide ((a:Int)<(↑(q97_4 d).2.2.1.length:Int))=true->jz (d.2.1+1)/\(0:Int)<=0/\0<=d.2.1+1/\d.2.1+1<=(↑(q97_2 d k x).length:Int)/\((d.2.1+1).toNat-Int.toNat 0<4611686018427387904->(∃(b:Nat),((0=(b:Int)/\True/\True)/\U.kr (q97_2 d k x) (a:Int) b=[]/\True)/\b<=d.2.1.toNat+1)/\∀(b:Nat),b<=d.2.1.toNat+1->(decide ((b:Int)<(↑((d.2.1+1).toNat-Int.toNat 0):Int))=true->0<=(b:Int)/\(b:Int)<(↑((d.2.1+1).toNat-Int.toNat 0):Int)/\0<=(a:Int)/\(a:Int)<=64/\(decide (qz (nth (q97_2 d k x) (Int.toNat 0+(b:Int).toNat)/(2:Int)^(a:Int).toNat) (1:Int)=1)=true->((U.kr (q97_2 d k x) (a:Int) b).length+[(b:Int)].length)*8<=140737488355328/\jz ((b:Int)+1)/\∃(c:Nat),(((b:Int)+1=(c:Int)/\True/\True)/\U.kr (q97_2 d k x) (a:Int) b++[(b:Int)]=U.kr (q97_2 d k x) (a:Int) c/\True)/\c<=d.2.1.toNat+1/\d.2.1.toNat+1-c<d.2.1.toNat+1-b)/\(decide (qz (nth (q97_2 d k x) (Int.toNat 0+(b:Int).toNat)/(2:Int)^(a:Int).toNat) (1:Int)=1)=false->jz ((b:Int)+1)/\∃(c:Nat),((True/\(b:Int)+1=(c:Int)/\True)/\U.kr (q97_2 d k x) (a:Int) b=U.kr (q97_2 d k x) (a:Int) c/\True)/\c<=d.2.1.toNat+1/\d.2.1.toNat+1-c<d.2.1.toNat+1-b))/\(decide ((b:Int)<(↑((d.2.1+1).toNat-Int.toNat 0):Int))=false->d.1.1.isSome=true/\U.jpk (U.ro d.1.1)/\U.jnU (U.rd (U.ro d.1.1)) (a:Int)/\U.jhI (U.rd (U.ro d.1.1)) (U.kr (q97_2 d k x) (a:Int) b)/\((!U.gL (U.ro d.1.1) (a:Int) (U.kr (q97_2 d k x) (a:Int) b))=true->jz ((x:Int)+1)/\∃(c:Nat),(((x:Int)+1=(c:Int)/\True)/\(q97_1 d k x).2.1=(q97_3 d k c).2.1/\(d.1.1=d.1.1/\True/\True/\True/\(q97_1 d k x).2.2.1=(q97_3 d k c).2.2.1/\(q97_1 d k x).2.2.2=(q97_3 d k c).2.2.2/\True)/\(q97_1 d k x).1.set d.2.1.toNat (nth (q97_5 d) (x:Int).toNat)=(q97_3 d k c).1/\True)/\(c<=(q97_5 d).length/\(q97_3 d k c).1.length=d.1.2.2.1.length)/\(q97_5 d).length-c<(q97_5 d).length-x)/\((!U.gL (U.ro d.1.1) (a:Int) (U.kr (q97_2 d k x) (a:Int) b))=false->jz ((a:Int)+1)/\∃(c:Nat),(((a:Int)+1=(c:Int)/\True)/\True)/\(c<=(U.wy (U.ro d.1.1)).length/\U.wH (U.ro d.1.1) (q97_2 d k x) d.2.1.toNat c=true)/\(U.wy (U.ro d.1.1)).length-c<(U.wy (U.ro d.1.1)).length-a))))/\(decide ((a:Int)<(↑(q97_4 d).2.2.1.length:Int))=false->jz (d.2.1+1)/\d.1.1.isSome=true/\U.jl (U.jd (U.rd (U.ro d.1.1)))=true/\0<=nth (q97_5 d) (x:Int).toNat/\nth (q97_5 d) (x:Int).toNat<=1000000/\jz (d.2.2.1+U.wC (U.rd (U.ro d.1.1)) (nth (q97_5 d) (x:Int).toNat))/\U.ju8 k (q97_6 d k x) (d.2.1+1) (d.2.2.1+U.wC (U.rd (U.ro d.1.1)) (nth (q97_5 d) (x:Int).toNat))/\jz ((x:Int)+1)/\∃(c:Nat),(((x:Int)+1=(c:Int)/\True)/\((q97_0 d k x).1=d.1.1/\True/\True/\True/\(q97_0 d k x).2.2.2.2.1=(q97_3 d k c).2.2.1/\(q97_0 d k x).2.2.2.2.2.1=(q97_3 d k c).2.2.2/\True)/\(q97_0 d k x).2.1=d.1.2.1/\(q97_0 d k x).2.2.2.1=(q97_3 d k c).2.1/\(q97_0 d k x).2.2.1=(q97_3 d k c).1/\True)/\(c<=(q97_5 d).length/\(q97_3 d k c).1.length=d.1.2.2.1.length)/\(q97_5 d).length-c<(q97_5 d).length-x)))/\(decide ((x:Int)<(↑(q97_5 d).length:Int))=false->()=()/\((d.1.1,d.1.2.1,(q97_1 d k x).1,(q97_1 d k x).2.1,(q97_1 d k x).2.2.1,(q97_1 d k x).2.2.2,()),())=(q97_7 d k))))))
theorem jdm:(jiW)=jaI:=by kernel_rfl
end Go.X
namespace Go.X
open Go.Proofs
theorem jgu:jet:=by
 rintro⟨l,⟨⟩⟩ a;have a:l.length<=100000:=a;exact⟨fun h=>(by cases h),fun _=>⟨by show(0+l.length)*8<=_;omega,rfl,rfl⟩⟩
theorem je2:qa PR 82 yl:=jlz jgu Tryz.func82 kcN koN
theorem juU (ts:List Int) (p:Int) (n:Nat):U.kr ts p (n+1)=U.kr ts p n++(if decide (qz (nth ts n/2^p.toNat) 1=1)=true then[(n:Int)] else[]):=by
 unfold U.kr;rw[L.range_filter_succ,jGA];by_cases h:decide (qz (nth ts n/2^p.toNat) 1=1)=true
 .rw[if_pos h,if_pos h];rfl
 .rw[if_neg h,if_neg h];rfl
theorem joZ (ts:List Int) (p:Int) (n:Nat):(U.kr ts p n).length<=n:=by
 unfold U.kr;rw[jGR];exact jFR (List.length_filter_le _ _) (by simp)
theorem jxu {ts:List Int} {p:Int} {n:Nat} {b:Int} (h:b∈U.kr ts p n):0<=b/\b<(n:Int):=by
 unfold U.kr at h;obtain⟨i,hi,rfl⟩:=jGc.1 h;have:=jFP.1 (jF0.1 hi).1;omega
theorem jrC {r:RoD} {ts:List Int} {b n:Nat}:U.wH r ts b (n+1)=(U.wH r ts b n&&U.gL r (n:Int) (U.kr ts (n:Int) (b+1))):=by
 unfold U.wH;rw[jF5,List.all_append];simp
theorem joY {r:RoD} {ts:List Int} {b n m:Nat} (a:m<n) (h:U.gL r (m:Int) (U.kr ts (m:Int) (b+1))=false):U.wH r ts b n=false:=by
 unfold U.wH;rw[jGD];exact⟨m,jFP.2 a,by rw[h];simp⟩
theorem jok {r:RoD} {ch:List (List Int)} {k b:Nat} {fee:Int} {x:StD} {n:Nat} (h:n<(nth ch b).length):U.jp r ch k b fee x (n+1)=U.yB r ch k b fee (U.jp r ch k b fee x n) (nth (nth ch b) n):=by
 unfold U.jp;rw[L.take_succ h,jFX];rfl
theorem jiA {r:RoD} {ch:List (List Int)} {k b:Nat} {fee:Int} {x:StD} (a:(x.2.2.2&&decide (x.2.2.1<=fee))=false) (c:b≠(U.jq (U.rd r)).length):U.k8 r ch (k+1) b fee x=U.jp r ch k b fee x (nth ch b).length:=by
 show(if(x.2.2.2&&decide (x.2.2.1<=fee))=true then x else if b=(U.jq (U.rd r)).length then(x.1,x.1,fee,true) else(nth ch b).foldl (U.yB r ch k b fee) x)=_;rw[a,if_neg (by simp),if_neg c];unfold U.jp;rw[jGm (jFE _)]
mutual
theorem jzV {r:RoD} {ch:List (List Int)}:∀(k b:Nat) (fee:Int) (x:StD),(U.k8 r ch k b fee x).1.length=x.1.length
 |0,_,_,_=>rfl
 |k+1,b,fee,x=>by
  by_cases a:(x.2.2.2&&decide (x.2.2.1<=fee))=true
  .show(if(x.2.2.2&&decide (x.2.2.1<=fee))=true then x else _).1.length=_
   rw[if_pos a]
  .by_cases c:b=(U.jq (U.rd r)).length
   .show(if(x.2.2.2&&decide (x.2.2.1<=fee))=true then x else if b=(U.jq (U.rd r)).length then(x.1,x.1,fee,true) else _).1.length=_
    rw[if_neg a,if_pos c]
   .rw[jiA (by simpa using a) c]
    exact jmr k b fee x _ (jFE _)
termination_by k=>(k,0)
theorem jmr {r:RoD} {ch:List (List Int)}:∀(k b:Nat) (fee:Int) (x:StD) (n:Nat),n<=(nth ch b).length->(U.jp r ch k b fee x n).1.length=x.1.length
 |_,_,_,_,0,_=>rfl
 |k,b,fee,x,n+1,h=>by
  rw[jok h]
  have d:=jmr (r:=r) (ch:=ch) k b fee x n (by omega)
  unfold U.yB
  split
  .rw[jzV k]
   show((U.jp r ch k b fee x n).1.set b _).length=_
   rw[jGK,d]
  .show((U.jp r ch k b fee x n).1.set b _).length=_
   rw[jGK,d]
termination_by k _ _ _ n=>(k,n+1)
end
theorem jjC:jaI:=by
 unfold jaI q97_7 q97_0 q97_6 q97_2 q97_5 q97_4 q97_3 q97_1;rintro k ⟨s,b,fee,⟨⟩⟩ h0;obtain⟨g,d,Q,⟨M,D⟩,S,⟨V,b1,b2⟩,f0,f1⟩:U.ju8 (k+1) s b fee:=h0;obtain⟨B,hB⟩:∃B:Nat,b=(B:Int):=⟨b.toNat,by omega⟩;subst hB;have I:=d.1;have hb4:(U.jq (U.rd (U.ro s.1))).length<=4:=(zl I.2.2).1;have h8:(U.je (U.jd (U.rd (U.ro s.1)))).length<=8:=(jx I.1).2.2.1;refine⟨fun h=>⟨rfl,?_⟩,fun h=>⟨g,fun _=>⟨fun A=>⟨?_,rfl,?_⟩,fun A=> ?_⟩⟩⟩
 .have h:((U.jk s).2.2.2&&decide ((U.jk s).2.2.1<=fee))=true:=h;have e:U.k8 (U.ro s.1) s.2.1 (k+1) B fee (U.jk s)=U.jk s:=by
   show(if((U.jk s).2.2.2&&decide ((U.jk s).2.2.1<=fee))=true then U.jk s else _)=_;rw[if_pos h]
  show(s,())=(U.vb s (U.k8 (U.ro s.1) s.2.1 (k+1) B fee (U.jk s)),());rw[e];rfl
 .show s.2.2.1.length<=100000;omega
 .have A:(B:Int)=((U.jq (U.rd (U.ro s.1))).length:Int):=of_decide_eq_true A;have h:((U.jk s).2.2.2&&decide ((U.jk s).2.2.1<=fee))=false:=h;have e:U.k8 (U.ro s.1) s.2.1 (k+1) B fee (U.jk s)=(s.2.2.1,s.2.2.1,fee,true):=by
   show(if((U.jk s).2.2.2&&decide ((U.jk s).2.2.1<=fee))=true then U.jk s else if B=(U.jq (U.rd (U.ro s.1))).length then((U.jk s).1,(U.jk s).1,fee,true) else _)=_;rw[h,if_neg (by simp),if_pos (by omega)];rfl
  show((s.1,s.2.1,s.2.2.1,s.2.2.1,fee,true,()),())=(U.vb s (U.k8 (U.ro s.1) s.2.1 (k+1) B fee (U.jk s)),());rw[e];rfl
 have A:¬(B:Int)=((U.jq (U.rd (U.ro s.1))).length:Int):=of_decide_eq_false A;have h:((U.jk s).2.2.2&&decide ((U.jk s).2.2.1<=fee))=false:=h;have hBn:B<(U.jq (U.rd (U.ro s.1))).length:=(by omega);have C:=jiA (r:=U.ro s.1) (ch:=s.2.1) (k:=k) (b:=B) (fee:=fee) h (by omega);have u:jz ((B:Int)+1):=L.in64 (by omega) (by omega);have K:0<=(B:Int)+1:=(by omega);refine⟨V,by show(B:Int)<(s.2.1.length:Int);omega,fun E=>⟨⟨0,⟨⟨rfl,trivial⟩,⟨rfl,trivial,trivial,trivial,rfl,rfl,trivial⟩,rfl,rfl,trivial⟩,jFM _,rfl⟩,fun x hx=>⟨fun z=> ?_,fun z=>⟨rfl,?_⟩⟩⟩⟩
 .have z:(x:Int)<((nth s.2.1 B).length:Int):=of_decide_eq_true z;have E:(nth s.2.1 B).length<4611686018427387904:=E;have m:x<(nth s.2.1 B).length:=(by omega);obtain⟨_,F⟩:x<=(nth s.2.1 B).length/\(U.jp (U.ro s.1) s.2.1 k B fee (U.jk s) x).1.length=s.2.2.1.length:=hx;have f:=jok (r:=U.ro s.1) (ch:=s.2.1) (k:=k) (b:=B) (fee:=fee) (x:=U.jk s) m;have o:=jmr (r:=U.ro s.1) (ch:=s.2.1) k B fee (U.jk s) (x+1) (by omega);have o:(U.jp (U.ro s.1) s.2.1 k B fee (U.jk s) (x+1)).1.length=s.2.2.1.length:=o;have Z:=D _ (L.mem_nth (l:=s.2.1) (i:=B) (by omega)) _ (L.mem_nth m);have up:x+1<=(nth s.2.1 B).length:=m;have W:(nth s.2.1 B).length-(x+1)<(nth s.2.1 B).length-x:=(by omega);have tl:((U.jp (U.ro s.1) s.2.1 k B fee (U.jk s) x).1.set B (nth (nth s.2.1 B) x)).length=(U.jq (U.rd (U.ro s.1))).length:=by
   rw[jGK,F,S]
  refine⟨by omega,z,V,by show(B:Int)<((U.jp (U.ro s.1) s.2.1 k B fee (U.jk s) x).1.length:Int);omega,g,fun _=>⟨⟨0,⟨⟨rfl,trivial⟩,trivial⟩,jFM _,rfl⟩,fun p Y=>⟨fun w=>⟨u,jGy 0,K,?_,fun _=>⟨⟨0,⟨⟨rfl,trivial,trivial⟩,rfl,trivial⟩,jFM _⟩,fun j J=>⟨fun t=> ?_,fun t=> ?_⟩⟩⟩,fun w=> ?_⟩⟩⟩
  .show(B:Int)+1<=(((U.jp (U.ro s.1) s.2.1 k B fee (U.jk s) x).1.set B (nth (nth s.2.1 B) x)).length:Int);rw[tl];omega
  .have t:(j:Int)<((((B:Int)+1).toNat-Int.toNat 0:Nat):Int):=of_decide_eq_true t;have H:((B:Int)+1).toNat-Int.toNat 0=B+1:=(by simp only[Int.toNat_zero];omega);rw[H] at t;have w:(p:Int)<((U.wy (U.ro s.1)).length:Int):=of_decide_eq_true w;have J:j<=B+1:=J;have q:=juU ((U.jp (U.ro s.1) s.2.1 k B fee (U.jk s) x).1.set B (nth (nth s.2.1 B) x)) (p:Int) j;have P:=joZ ((U.jp (U.ro s.1) s.2.1 k B fee (U.jk s) x).1.set B (nth (nth s.2.1 B) x)) (p:Int) j;have e0:Int.toNat 0+(j:Int).toNat=j:=(by simp);have X:∀T:Bool,decide (qz (nth ((U.jp (U.ro s.1) s.2.1 k B fee (U.jk s) x).1.set B (nth (nth s.2.1 B) x)) (Int.toNat 0+(j:Int).toNat)/2^(p:Int).toNat) 1=1)=T->decide (qz (nth ((U.jp (U.ro s.1) s.2.1 k B fee (U.jk s) x).1.set B (nth (nth s.2.1 B) x)) j/2^(p:Int).toNat) 1=1)=T:=by
    intro T G;rw[e0] at G;exact G
   refine⟨by omega,by show(j:Int)<((((B:Int)+1).toNat-Int.toNat 0:Nat):Int);rw[H];exact t,by omega,by omega,fun a=>⟨?_,L.in64 (by omega) (by omega),j+1,⟨⟨by simp,trivial,trivial⟩,?_,trivial⟩,by show j+1<=B+1;omega,by show B+1-(j+1)<B+1-j;omega⟩,fun a=>⟨L.in64 (by omega) (by omega),j+1,⟨⟨trivial,by simp,trivial⟩,?_,trivial⟩,by show j+1<=B+1;omega,by show B+1-(j+1)<B+1-j;omega⟩⟩
   .show((U.kr ((U.jp (U.ro s.1) s.2.1 k B fee (U.jk s) x).1.set B (nth (nth s.2.1 B) x)) (p:Int) j).length+1)*8<=140737488355328;omega
   .rw[X _ a,if_pos rfl] at q;exact q.symm
   .rw[X _ a,if_neg (by simp),jGb] at q;exact q.symm
  .have t:¬(j:Int)<((((B:Int)+1).toNat-Int.toNat 0:Nat):Int):=of_decide_eq_false t;have H:((B:Int)+1).toNat-Int.toNat 0=B+1:=(by simp only[Int.toNat_zero];omega);rw[H] at t;have w:(p:Int)<((U.wy (U.ro s.1)).length:Int):=of_decide_eq_true w;have J:j<=B+1:=J;have N:j=B+1:=(by omega);subst N;have P:=joZ ((U.jp (U.ro s.1) s.2.1 k B fee (U.jk s) x).1.set B (nth (nth s.2.1 B) x)) (p:Int) (B+1);obtain⟨_,y⟩:p<=(U.wy (U.ro s.1)).length/\U.wH (U.ro s.1) ((U.jp (U.ro s.1) s.2.1 k B fee (U.jk s) x).1.set B (nth (nth s.2.1 B) x)) B p=true:=Y;refine⟨g,d,⟨by omega,by show(p:Int)<((U.je (U.jd (U.rd (U.ro s.1)))).length:Int);omega⟩,⟨by show(U.kr ((U.jp (U.ro s.1) s.2.1 k B fee (U.jk s) x).1.set B (nth (nth s.2.1 B) x)) (p:Int) (B+1)).length<=12;omega,fun c hc=> ?_⟩,fun a=> ?_,fun a=> ?_⟩
   .have:=jxu hc;exact⟨this.1,by show c<((U.jq (U.rd (U.ro s.1))).length:Int);omega⟩
   .have a:(!U.gL (U.ro s.1) (p:Int) (U.kr ((U.jp (U.ro s.1) s.2.1 k B fee (U.jk s) x).1.set B (nth (nth s.2.1 B) x)) (p:Int) (B+1)))=true:=a;have a:U.gL (U.ro s.1) (p:Int) (U.kr ((U.jp (U.ro s.1) s.2.1 k B fee (U.jk s) x).1.set B (nth (nth s.2.1 B) x)) (p:Int) (B+1))=false:=(by simpa using a);have O:=joY (n:=(U.wy (U.ro s.1)).length) (by omega) a;have e:U.jp (U.ro s.1) s.2.1 k B fee (U.jk s) (x+1)=((U.jp (U.ro s.1) s.2.1 k B fee (U.jk s) x).1.set B (nth (nth s.2.1 B) x),(U.jp (U.ro s.1) s.2.1 k B fee (U.jk s) x).2):=by
     rw[f];unfold U.yB;rw[O,if_neg (by simp)]
    exact⟨L.in64 (by omega) (by omega),x+1,⟨⟨by simp,trivial⟩,congrArg (·.2.1) e.symm,⟨rfl,trivial,trivial,trivial,congrArg (·.2.2.1) e.symm,congrArg (·.2.2.2) e.symm,trivial⟩,congrArg (·.1) e.symm,trivial⟩,⟨up,o⟩,W⟩
   .have a:(!U.gL (U.ro s.1) (p:Int) (U.kr ((U.jp (U.ro s.1) s.2.1 k B fee (U.jk s) x).1.set B (nth (nth s.2.1 B) x)) (p:Int) (B+1)))=false:=a;have a:U.gL (U.ro s.1) (p:Int) (U.kr ((U.jp (U.ro s.1) s.2.1 k B fee (U.jk s) x).1.set B (nth (nth s.2.1 B) x)) (p:Int) (B+1))=true:=(by simpa using a);refine⟨L.in64 (by omega) (by omega),p+1,⟨⟨by simp,trivial⟩,trivial⟩,⟨by show p+1<=(U.wy (U.ro s.1)).length;omega,?_⟩,by show(U.wy (U.ro s.1)).length-(p+1)<(U.wy (U.ro s.1)).length-p;omega⟩;show U.wH (U.ro s.1) ((U.jp (U.ro s.1) s.2.1 k B fee (U.jk s) x).1.set B (nth (nth s.2.1 B) x)) B (p+1)=true;rw[jrC,y,a];rfl
  .have w:¬(p:Int)<((U.wy (U.ro s.1)).length:Int):=of_decide_eq_false w;obtain⟨hp1,y⟩:p<=(U.wy (U.ro s.1)).length/\U.wH (U.ro s.1) ((U.jp (U.ro s.1) s.2.1 k B fee (U.jk s) x).1.set B (nth (nth s.2.1 B) x)) B p=true:=Y;have R:p=(U.wy (U.ro s.1)).length:=(by omega);subst R;have v:=jnw I.1 (nth (nth s.2.1 B) x) _ (jFE _);have v:0<=U.wC (U.rd (U.ro s.1)) (nth (nth s.2.1 B) x)/\U.wC (U.rd (U.ro s.1)) (nth (nth s.2.1 B) x)<=1000*((U.je (U.jd (U.rd (U.ro s.1)))).length:Int):=v;have eB:((B:Int)+1).toNat=B+1:=(by omega);have e:U.jp (U.ro s.1) s.2.1 k B fee (U.jk s) (x+1)=U.k8 (U.ro s.1) s.2.1 k ((B:Int)+1).toNat (fee+U.wC (U.rd (U.ro s.1)) (nth (nth s.2.1 B) x)) ((U.jp (U.ro s.1) s.2.1 k B fee (U.jk s) x).1.set B (nth (nth s.2.1 B) x),(U.jp (U.ro s.1) s.2.1 k B fee (U.jk s) x).2):=by
    rw[f,eB];unfold U.yB;rw[if_pos y]
   refine⟨u,g,I.1,Z.1,by show nth (nth s.2.1 B) x<=1000000;have:=Z.2;omega,?_,⟨g,d,Q,⟨M,D⟩,tl,⟨by omega,by show(B:Int)+1<=((U.jq (U.rd (U.ro s.1))).length:Int);omega,by show((U.jq (U.rd (U.ro s.1))).length:Int)<(B:Int)+1+(k:Int);omega⟩,?_,?_⟩,L.in64 (by omega) (by omega),x+1,⟨⟨by simp,trivial⟩,⟨rfl,trivial,trivial,trivial,congrArg (·.2.2.1) e.symm,congrArg (·.2.2.2) e.symm,trivial⟩,rfl,congrArg (·.2.1) e.symm,congrArg (·.1) e.symm,trivial⟩,⟨up,o⟩,W⟩
   .show jz (fee+U.wC (U.rd (U.ro s.1)) (nth (nth s.2.1 B) x));exact L.in64 (by omega) (by omega)
   .show 0<=fee+U.wC (U.rd (U.ro s.1)) (nth (nth s.2.1 B) x);omega
   .show fee+U.wC (U.rd (U.ro s.1)) (nth (nth s.2.1 B) x)<=8000*((B:Int)+1);omega
 .have z:¬(x:Int)<((nth s.2.1 B).length:Int):=of_decide_eq_false z;have hx1:x<=(nth s.2.1 B).length:=hx.1;have m:x=(nth s.2.1 B).length:=(by omega);subst m;show((s.1,s.2.1,(U.jp (U.ro s.1) s.2.1 k B fee (U.jk s) (nth s.2.1 B).length).1,(U.jp (U.ro s.1) s.2.1 k B fee (U.jk s) (nth s.2.1 B).length).2.1,(U.jp (U.ro s.1) s.2.1 k B fee (U.jk s) (nth s.2.1 B).length).2.2.1,(U.jp (U.ro s.1) s.2.1 k B fee (U.jk s) (nth s.2.1 B).length).2.2.2,()),())=(U.vb s (U.k8 (U.ro s.1) s.2.1 (k+1) B fee (U.jk s)),());rw[C];rfl
theorem jaN:∀k:Nat,qa PR 41 (qZ k)
 |0=>⟨wi Tryz.func41 (c:=zu Tryz.f41) (by kernel_rfl) (by kernel_rfl),fun H w vals d bs _ _ _ b=>by
  obtain⟨⟨_,_,_,_,_,⟨e,f,a⟩,_⟩,_⟩:=b
  exact absurd a (by omega)⟩
 |k+1=>jAq (jdm.mpr jjC k) Tryz.func41 (by kernel_rfl) (by kernel_rfl) (by kernel_rfl) (by kernel_rfl) (by kernel_rfl) ⟨fun _=>jbC,fun _=>ji2,trivial⟩ ⟨je2,jaN k,trivial⟩
end Go.X
namespace Go.X
open Go.Proofs
namespace U
def jnG (r:RoD) (b:Int) (t:Nat):Bool:=decide (jkb (t:Int) (nth (q6 r) b.toNat)=0)&&jlR (rd r) b (t:Int)
def wD (r:RoD) (b:Int) (n:Nat):List Int:=((List.range n).filter (jnG r b)).map (fun(t:Nat)=>(t:Int))
def zY (r:RoD) (n:Nat):List (List Int):=(List.range n).map (fun(b:Nat)=>wD r (b:Int) (2^(je (jd (rd r))).length))
def jDI (d:DyD):StD:=k8 (qh d) (zY (qh d) (jq d).length) 5 0 0 (List.replicate (jq d).length 0,qX,0,false)
def jak (d:DyD):Int:=if jJ d=0 then(if(jDI d).2.2.2=true then 0 else 3) else jJ d
def jcN (d:DyD):List Int:=if jak d=0 then(jDI d).2.1 else[]
def jcM (d:DyD):Int:=if jak d=0 then(jDI d).2.2.1 else 0
end U
def jwS:jQ:=⟨[.val tDy],[.slice .int,.int,.int],false,fun d=>[(U.kR d.1).length<=100000],fun d=>(U.jcN d.1,U.jcM d.1,U.jak d.1,())⟩
def jzt:Ann:=fun r=>match r with
 |6=>some fun σ=>{X:=Nat,sl:=fun i=>[(28,.dat .int (i:Int))],ob:=fun i=>[(24,some (.box 70 false (((bx σ 24).set 1 (.own (yJ 24 1) (.slice .int))).set 3 (.own (yJ 24 3) .int)))),(yJ 24 3,some (.row 3 .int false .yes U.qX)),(yJ 24 1,some (.row 33 (.slice .int) false .yes (U.zY (U.ro (gd (.ptr tRo) σ 5)) i)))],inv:=fun i=>i<=(U.jq (gb tDy σ 1)).length,mu:=fun i=>(U.jq (gb tDy σ 1)).length-i}
 |10=>some fun σ=>{X:=Nat,sl:=fun t=>[(36,.dat .int (t:Int)),(8,.own 8 .int)],ob:=fun t=>[(8,some (.row 3 .int false .yes (U.wD (U.ro (gd (.ptr tRo) σ 5)) (gd .int σ 7) t)))],inv:=fun t=>t<=2^(U.je (U.jd (gb tDy σ 1))).length,mu:=fun t=>2^(U.je (U.jd (gb tDy σ 1))).length-t}
 |_=>none
abbrev q98_3 (d:DyD×Unit):=(U.ro (U.zz d.1))
abbrev q98_4 (d:DyD×Unit):=(jX ((((0:Int),[],[],()),[],[],(0:Int),(0:Int),[],()),[],[],[],()) (U.zz d.1))
abbrev q98_1 (a:Nat)(d:DyD×Unit)(x:Nat):=(jkb (a:Int) (nth (q98_4 d).2.1 (x:Int).toNat)=0)
abbrev q98_5 (d:DyD×Unit):=(d.1.2.2.1.length:Int)
abbrev q98_2 (d:DyD×Unit)(x:Nat):=(U.zz d.1,U.zY (q98_3 d) x,List.replicate (q98_5 d).toNat (0:Int),U.qX,(0:Int),false,())
abbrev q98_0 (d:DyD×Unit)(x:Nat):=(U.vb (q98_2 d x) (U.k8 (q98_3 d) (U.zY (q98_3 d) x) 5 (Int.toNat 0) (0:Int) (U.jk (q98_2 d x))))
abbrev q98_6 (d:DyD×Unit):=(U.zz d.1=U.zz d.1/\True/\True/\True/\(0:Int)=0/\false=false/\True)
abbrev q98_7 (d:DyD×Unit):=(U.je (U.jd d.1))
abbrev q98_8 (d:DyD×Unit):=(U.jcN d.1,U.jcM d.1,U.jak d.1,())
abbrev q98_9 (d:DyD×Unit):=(d.1.1.2.1.length:Int)
def jws:Prop:=∀(d:DyD×Unit),(U.kR d.1).length<=100000->(U.kR d.1).length<=100000/\(decide (U.jJ d.1≠0)=true->([],(0:Int),U.jJ d.1,())=(q98_8 d))/\(decide (U.jJ d.1≠0)=false->d.1.2.2.1.length<4611686018427387904->0<=(q98_5 d)/\(q98_5 d)=(q98_5 d)/\(q98_5 d).toNat*8<=140737488355328/\(d.1.2.2.1.length<4611686018427387904->(∃(x:Nat),((0=(x:Int)/\True)/\(q98_6 d)/\U.qX=[]/\U.zY (q98_3 d) x=[]/\True)/\x<=(U.jq d.1).length)/\∀(x:Nat),x<=(U.jq d.1).length->(decide ((x:Int)<(q98_5 d))=true->d.1.1.2.1.length<4611686018427387904->0<=(q98_9 d)/\(q98_9 d)<=64/\jz ((1:Int)*2^(q98_9 d).toNat)/\(∃(a:Nat),((0=(a:Int)/\True/\True)/\U.wD (q98_3 d) (x:Int) a=[]/\True)/\a<=2^(q98_7 d).length)/\∀(a:Nat),a<=2^(q98_7 d).length->(decide ((a:Int)<1*2^(q98_9 d).toNat)=true->(U.zz d.1).isSome=true/\0<=(x:Int)/\(x:Int)<(↑(q98_4 d).2.1.length:Int)/\(decide (q98_1 a d x)=true->(U.zz d.1).isSome=true)/\(decide (q98_1 a d x)=true->U.qb (U.rd (q98_3 d)) (x:Int))/\((decide (q98_1 a d x)&&U.jlR (U.rd (q98_3 d)) (x:Int) (a:Int))=true->((U.wD (q98_3 d) (x:Int) a).length+[(a:Int)].length)*8<=140737488355328/\jz ((a:Int)+1)/\∃(b:Nat),(((a:Int)+1=(b:Int)/\True/\True)/\U.wD (q98_3 d) (x:Int) a++[(a:Int)]=U.wD (q98_3 d) (x:Int) b/\True)/\b<=2^(q98_7 d).length/\2^(q98_7 d).length-b<2^(q98_7 d).length-a)/\((decide (q98_1 a d x)&&U.jlR (U.rd (q98_3 d)) (x:Int) (a:Int))=false->jz ((a:Int)+1)/\∃(b:Nat),((True/\(a:Int)+1=(b:Int)/\True)/\U.wD (q98_3 d) (x:Int) a=U.wD (q98_3 d) (x:Int) b/\True)/\b<=2^(q98_7 d).length/\2^(q98_7 d).length-b<2^(q98_7 d).length-a))/\(decide ((a:Int)<1*2^(q98_9 d).toNat)=false->((U.zY (q98_3 d) x).length+[U.wD (q98_3 d) (x:Int) a].length)*24<=140737488355328/\jz ((x:Int)+1)/\∃(b:Nat),(((x:Int)+1=(b:Int)/\True)/\U.qX=U.qX/\(q98_6 d)/\U.zY (q98_3 d) x++[U.wD (q98_3 d) (x:Int) a]=U.zY (q98_3 d) b/\True)/\b<=(U.jq d.1).length/\(U.jq d.1).length-b<(U.jq d.1).length-x))/\(decide ((x:Int)<(q98_5 d))=false->U.ju8 5 (q98_2 d x) (0:Int) (0:Int)/\((!(q98_0 d x).2.2.2.2.2.1)=true->([],(0:Int),(3:Int),())=(q98_8 d))/\((!(q98_0 d x).2.2.2.2.2.1)=false->((q98_0 d x).2.2.2.1,(q98_0 d x).2.2.2.2.1,(0:Int),())=(q98_8 d)))))
end Go.X
namespace Go.X
open Go.Proofs
theorem jvR (r:RoD) (b:Int) (n:Nat):U.wD r b (n+1)=U.wD r b n++(if U.jnG r b n=true then[(n:Int)] else[]):=by
 unfold U.wD;rw[L.range_filter_succ,jGA];by_cases h:U.jnG r b n=true
 .rw[if_pos h,if_pos h];rfl
 .rw[if_neg h,if_neg h];rfl
theorem jzf (r:RoD) (b:Int) (n:Nat):(U.wD r b n).length<=n:=by
 unfold U.wD;rw[jGR];exact jFR (List.length_filter_le _ _) (by simp)
theorem jqd {r:RoD} {b:Int} {n:Nat} {t:Int} (h:t∈U.wD r b n):0<=t/\t<(n:Int):=by
 unfold U.wD at h;obtain⟨i,hi,rfl⟩:=jGc.1 h;have:=jFP.1 (jF0.1 hi).1;omega
theorem jze (r:RoD) (n:Nat):U.zY r (n+1)=U.zY r n++[U.wD r (n:Int) (2^(U.je (U.jd (U.rd r))).length)]:=by
 unfold U.zY;rw[jF5,jGA];rfl
theorem jtV (r:RoD) (n:Nat):(U.zY r n).length=n:=by unfold U.zY;simp
theorem jBt {n:Nat} (h:n<=8):(2:Nat)^n<=256:=jFR (jGH (by decide) h) (by decide)
theorem jEY {d:DyD} (hk:U.jJ d=0):U.ju8 5 (some (U.qh d),U.zY (U.qh d) (U.jq d).length,List.replicate (U.jq d).length 0,U.qX,0,false,()) 0 0:=by
 have c:=joK hk;have i:(U.jq d).length<=4:=(zl c.may.1.2.2).1;have h:(U.je (U.jd d)).length<=8:=(jx c.may.1.1).2.2.1;refine⟨rfl,c.may,c.len,⟨jtV _ _,fun l a t e=> ?_⟩,jGv,⟨jGy 0,by show(0:Int)<=((U.jq d).length:Int);omega,by show((U.jq d).length:Int)<0+((5:Nat):Int);omega⟩,jGy 0,by omega⟩;have a:l∈U.zY (U.qh d) (U.jq d).length:=a;unfold U.zY at a;obtain⟨b,_,rfl⟩:=jGc.1 a;have:=jqd e;have f:=jBt h;have g:(2:Nat)^(U.je (U.jd (U.rd (U.qh d)))).length<=256:=f;have:t<((2^(U.je (U.jd (U.rd (U.qh d)))).length:Nat):Int):=this.2;refine⟨(jqd e).1,by omega⟩
theorem jAI:jws:=by
 unfold jws q98_9 q98_8 q98_7 q98_6 q98_0 q98_2 q98_5 q98_1 q98_4 q98_3;rintro⟨d,⟨⟩⟩ A;refine⟨A,fun h=> ?_,fun h=> ?_⟩
 .have h:U.jJ d≠0:=of_decide_eq_true h;have e:U.jak d=U.jJ d:=(by unfold U.jak;rw[if_neg h]);show([],(0:Int),U.jJ d,())=(U.jcN d,U.jcM d,U.jak d,());unfold U.jcN U.jcM;rw[e,if_neg h,if_neg h]
 have hk:U.jJ d=0:=Classical.not_not.1 (of_decide_eq_false h);have m:=joK hk;have z:(U.jq d).length<=4:=(zl m.may.1.2.2).1;have y:(U.je (U.jd d)).length<=8:=(jx m.may.1.1).2.2.1;have s:=jBt y;have l:=jxy hk;have i:U.ro (U.zz d)=U.qh d:=(by rw[l];rfl);have r:U.rd (U.ro (U.zz d))=d:=(by rw[i];rfl);have q:(U.zz d).isSome=true:=(by rw[l];rfl);have B:(U.q6 (U.ro (U.zz d))).length=(U.jq d).length:=(by rw[i];exact m.may.2);refine fun _=>⟨jF8 _,rfl,?_,fun _=>⟨⟨0,⟨⟨rfl,trivial⟩,⟨rfl,trivial,trivial,trivial,rfl,rfl,trivial⟩,rfl,rfl,trivial⟩,jFM _⟩,fun x u=>⟨fun b _=>⟨jF8 _,?_,?_,⟨0,⟨⟨rfl,trivial,trivial⟩,rfl,trivial⟩,jFM _⟩,fun t j=>⟨fun a=> ?_,fun a=> ?_⟩⟩,fun b=> ?_⟩⟩⟩
 .show((U.jq d).length:Int).toNat*8<=140737488355328;omega
 .show((U.je (U.jd d)).length:Int)<=64;omega
 .show jz (1*2^((U.je (U.jd d)).length:Int).toNat);rw[vK,jFJ];have a:BT.Set' ((2:Int)^(U.je (U.jd d)).length):=BT.two_set (by omega);unfold BT.Set' at a;exact L.in64 (by omega) (by omega)
 .have b:(x:Int)<((U.jq d).length:Int):=of_decide_eq_true b;have j:t<=2^(U.je (U.jd d)).length:=j;have a:(t:Int)<1*2^((U.je (U.jd d)).length:Int).toNat:=of_decide_eq_true a;rw[vK,jFJ,BT.two_nat] at a;have a:t<2^(U.je (U.jd d)).length:=(by omega);have f:=jvR (U.ro (U.zz d)) (x:Int) t;have g:=jzf (U.ro (U.zz d)) (x:Int) t;have w:U.qb (U.rd (U.ro (U.zz d))) (x:Int):=(by rw[r];exact⟨by omega,b⟩);have v:t+1<=2^(U.je (U.jd d)).length:=(by omega);have p:2^(U.je (U.jd d)).length-(t+1)<2^(U.je (U.jd d)).length-t:=(by omega);refine⟨q,by omega,by show(x:Int)<((U.q6 (U.ro (U.zz d))).length:Int);omega,fun _=>q,fun _=>w,fun c=> ?_,fun c=> ?_⟩
  .have c:U.jnG (U.ro (U.zz d)) (x:Int) t=true:=c;refine⟨?_,L.in64 (by omega) (by omega),t+1,⟨⟨by simp,trivial,trivial⟩,?_,trivial⟩,v,p⟩
   .show((U.wD (U.ro (U.zz d)) (x:Int) t).length+1)*8<=140737488355328;omega
   .rw[if_pos c] at f;exact f.symm
  .have c:U.jnG (U.ro (U.zz d)) (x:Int) t=false:=c;refine⟨L.in64 (by omega) (by omega),t+1,⟨⟨trivial,by simp,trivial⟩,?_,trivial⟩,v,p⟩;rw[if_neg (by rw[c];simp),jGb] at f;exact f.symm
 .have b:(x:Int)<((U.jq d).length:Int):=of_decide_eq_true b;have j:t<=2^(U.je (U.jd d)).length:=j;have a:¬(t:Int)<1*2^((U.je (U.jd d)).length:Int).toNat:=of_decide_eq_false a;rw[vK,jFJ,BT.two_nat] at a;have n:t=2^(U.je (U.jd d)).length:=(by omega);have f:=jze (U.ro (U.zz d)) x;rw[r,<-n] at f;have g:=jtV (U.ro (U.zz d)) x;refine⟨?_,L.in64 (by omega) (by omega),x+1,⟨⟨by simp,trivial⟩,rfl,⟨rfl,trivial,trivial,trivial,rfl,rfl,trivial⟩,f.symm,trivial⟩,by show x+1<=(U.jq d).length;omega,by show(U.jq d).length-(x+1)<(U.jq d).length-x;omega⟩;show((U.zY (U.ro (U.zz d)) x).length+1)*24<=140737488355328;omega
 .have b:¬(x:Int)<((U.jq d).length:Int):=of_decide_eq_false b;have u:x<=(U.jq d).length:=u;have o:x=(U.jq d).length:=(by omega);subst o;have k:U.k8 (U.ro (U.zz d)) (U.zY (U.ro (U.zz d)) (U.jq d).length) 5 (Int.toNat 0) 0 (U.jk (U.zz d,U.zY (U.ro (U.zz d)) (U.jq d).length,List.replicate ((U.jq d).length:Int).toNat 0,U.qX,0,false,()))=U.jDI d:=by
   rw[i,jFJ];rfl
  refine⟨?_,fun a=> ?_,fun a=> ?_⟩
  .show U.ju8 5 (U.zz d,U.zY (U.ro (U.zz d)) (U.jq d).length,List.replicate ((U.jq d).length:Int).toNat 0,U.qX,0,false,()) 0 0;rw[i,l,jFJ];exact jEY hk
  .have a:(!(U.k8 (U.ro (U.zz d)) (U.zY (U.ro (U.zz d)) (U.jq d).length) 5 (Int.toNat 0) 0 (U.jk (U.zz d,U.zY (U.ro (U.zz d)) (U.jq d).length,List.replicate ((U.jq d).length:Int).toNat 0,U.qX,0,false,()))).2.2.2)=true:=a;rw[k] at a;have a:(U.jDI d).2.2.2=false:=(by simpa using a);have e:U.jak d=3:=(by unfold U.jak;rw[if_pos hk,a,if_neg (by simp)]);show([],(0:Int),(3:Int),())=(U.jcN d,U.jcM d,U.jak d,());unfold U.jcN U.jcM;rw[e];rfl
  .have a:(!(U.k8 (U.ro (U.zz d)) (U.zY (U.ro (U.zz d)) (U.jq d).length) 5 (Int.toNat 0) 0 (U.jk (U.zz d,U.zY (U.ro (U.zz d)) (U.jq d).length,List.replicate ((U.jq d).length:Int).toNat 0,U.qX,0,false,()))).2.2.2)=false:=a;rw[k] at a;have a:(U.jDI d).2.2.2=true:=(by simpa using a);have e:U.jak d=0:=(by unfold U.jak;rw[if_pos hk,a,if_pos rfl]);show((U.k8 (U.ro (U.zz d)) (U.zY (U.ro (U.zz d)) (U.jq d).length) 5 (Int.toNat 0) 0 (U.jk (U.zz d,U.zY (U.ro (U.zz d)) (U.jq d).length,List.replicate ((U.jq d).length:Int).toNat 0,U.qX,0,false,()))).2.1,(U.k8 (U.ro (U.zz d)) (U.zY (U.ro (U.zz d)) (U.jq d).length) 5 (Int.toNat 0) 0 (U.jk (U.zz d,U.zY (U.ro (U.zz d)) (U.jq d).length,List.replicate ((U.jq d).length:Int).toNat 0,U.qX,0,false,()))).2.2.1,(0:Int),())=(U.jcN d,U.jcM d,U.jak d,());rw[k];unfold U.jcN U.jcM;rw[e];rfl
theorem jpg:zc PR 12 jwS:=kK jzt jAI Tryz.func12 (kcC jhE kcN) (koC jbD (koC (jaN 5) koN))
end Go.X
namespace Go.X
open Go.Proofs
namespace U
def kB (s:Int):Nat->Int
 |0=>s
 |j+1=>kB s j/2^1
def J3 (c:CrD) (t d:Int) (a b:Nat):Bool:=jaQ c t d (a:Int) (b:Int)
def jb0 (c:CrD) (t b a:Int):List Int:=ze (J3 c t b) (la c).toNat a.toNat (la c).toNat
def jtp (c:Bool) (s b:Int):Int:=if c=true then bor s b else s
def jsH (c:CrD) (j:JbD) (t:Int) (x:Int×Bool) (i:Nat):Int×Bool:=
 if jM t (i:Int)=true then(jtp (!jM (cl (nth (je c) i)) (jqw j)) (jtp (!jM (fd (nth (je c) i)) (jrX j)) (jtp (vE (nth (je c) i) (jzH j)) x.1 1) 2) 4,x.2||jDa (nth (je c) i)) else x
def jY (c:CrD) (j:JbD) (t:Int) (n:Nat):Int×Bool:=(List.range n).foldl (jsH c j t) (0,false)
def jE9 (c:CrD) (j:JbD) (t:Int):Int:=(jY c j t (je c).length).1
def jFa (c:CrD) (j:JbD) (t:Int):Bool:=(jY c j t (je c).length).2
def jvW (c:CrD) (j:JbD) (t:Int):Int:=
 jtp (decide (nth (jb0 c t (jwi (yd c j)) (jqx j)) (jlG j).toNat<0)) (jtp (jEO (yd c j)&& !jFa c j t) (jtp (decide (BT.size t≠max (jAx j) (jCO (yd c j)))) (jE9 c j t) 8) 16) 32
def vU (c:CrD) (j:JbD) (t:Int):Bool:=decide (0<t)&&decide (jvW c j t=0)
def zJ (c:CrD) (t:Int) (n:Nat):Int:=(List.range n).foldl (fun s (i:Nat)=>if jM t (i:Int)=true then s+fe (nth (je c) i) else s) 0
def jgC (c:CrD) (t:Int):Int:=zJ c t (je c).length
def jxJ (t:Int):Prop:=0<=t/\t<256
end U
def jow:jQ:=⟨[.val .int,.val .int,.val .int],[.bool],false,fun _=>[],fun d=>(U.ja d.1 d.2.1 d.2.2.1,())⟩
def job:Prop:=∀(d:Int×Int×Int×Unit),(decide (d.2.1<=d.1)&&decide (d.1<=d.2.2.1),())=(U.ja d.1 d.2.1 d.2.2.1,())
def jwU:jQ:=⟨[.val .int,.val .int],[.bool],false,fun d=>[0<=d.2.1/\d.2.1<=63],fun d=>(U.jM d.1 d.2.1,())⟩
def jwu:Prop:=∀(d:Int×Int×Unit),0<=d.2.1/\d.2.1<=63->0<=d.2.1/\d.2.1<=18446744073709551615/\0<=d.2.1/\d.2.1<=64/\(decide (qz (d.1/(2:Int)^d.2.1.toNat) (1:Int)=1),())=(U.jM d.1 d.2.1,())
def joy:jQ:=⟨[.val tCr],[.bool],false,fun _=>[],fun d=>(U.jl d.1,())⟩
def jqk:Ann:=fun r=>match r with
 |4=>some fun σ=>{X:=Nat,sl:=fun i=>[(3,.dat .int (i:Int))],ob:=fun _=>[],inv:=fun i=>i<=(U.je (gb tCr σ 1)).length/\∀j:Nat,j<i->U.yI (U.la (gb tCr σ 1)) (nth (U.je (gb tCr σ 1)) j)=true,mu:=fun i=>(U.je (gb tCr σ 1)).length-i}
 |10=>some fun σ=>{X:=Nat,sl:=fun i=>[(5,.dat .int (i:Int))],ob:=fun _=>[],inv:=fun i=>i<=(U.lv (gb tPe σ 4)).length/\∀j:Nat,j<i->U.ja (nth (U.lv (gb tPe σ 4)) j) 0 5=true,mu:=fun i=>(U.lv (gb tPe σ 4)).length-i}
 |15=>some fun σ=>{X:=Nat,sl:=fun i=>[(6,.dat .int (i:Int))],ob:=fun _=>[],inv:=fun i=>i<=(U.zw (gb tPe σ 4)).length/\∀j:Nat,j<i->U.ja (nth (U.zw (gb tPe σ 4)) j) 0 99=true,mu:=fun i=>(U.zw (gb tPe σ 4)).length-i}
 |20=>some fun σ=>{X:=Nat,sl:=fun i=>[(7,.dat .int (i:Int))],ob:=fun _=>[],inv:=fun i=>i<=(U.kO (gb tCr σ 1)).length/\∀j:Nat,j<i->U.gn (nth (U.kO (gb tCr σ 1)) j)=true,mu:=fun i=>(U.kO (gb tCr σ 1)).length-i}
 |_=>none
abbrev q101_0 (d:CrD×Unit)(x:Nat):=(nth d.1.2.1 (x:Int).toNat)
abbrev q101_2 (d:CrD×Unit)(x:Nat):=(!U.ja (nth d.1.2.2.1 (x:Int).toNat).1 (1:Int) (5:Int)|| !U.ja (nth d.1.2.2.1 (x:Int).toNat).2.1 (1:Int) (8:Int))
abbrev q101_4 (d:CrD×Unit)(x:Nat):=(↑(q101_0 d x).1.length:Int)
abbrev q101_5 (d:CrD×Unit)(x:Nat):=(↑(q101_0 d x).2.2.2.1.length:Int)
abbrev q101_1 (d:CrD×Unit)(x:Nat):=(decide ((q101_4 d x)≠d.1.1)|| !U.ja (q101_0 d x).2.1 (0:Int) (255:Int)|| !U.ja (q101_0 d x).2.2.1 (0:Int) (255:Int)||decide ((10:Int)<(q101_5 d x))|| !U.ja (q101_0 d x).2.2.2.2.2.1 (0:Int) (1000:Int))
abbrev q101_6 (d:CrD×Unit):=(d.1.2.2.1.length:Int)
abbrev q101_3 (d:CrD×Unit):=(!U.ja d.1.1 (2:Int) (5:Int)||decide (8<(d.1.2.1.length:Int))||decide ((q101_6 d)≠4))
abbrev q101_7 (d:CrD×Unit)(x:Nat):=(U.zw (q101_0 d x))
def jod:Prop:=∀(d:CrD×Unit),((!!U.ja d.1.1 (2:Int) (5:Int))=true->d.1.2.1.length<4611686018427387904)->((!(!U.ja d.1.1 (2:Int) (5:Int)||decide (8<(d.1.2.1.length:Int))))=true->d.1.2.2.1.length<4611686018427387904)->((q101_3 d)=true->(false,())=(U.jl d.1,()))/\((q101_3 d)=false->(∃(x:Nat),((0=(x:Int)/\True)/\True)/\x<=(U.je d.1).length/\∀(j:Nat),j<x->U.yI (U.la d.1) (nth (U.je d.1) j)=true)/\∀(x:Nat),(x<=(U.je d.1).length/\∀(j:Nat),j<x->U.yI (U.la d.1) (nth (U.je d.1) j)=true)->d.1.2.1.length<4611686018427387904->(decide ((x:Int)<(d.1.2.1.length:Int))=true->0<=(x:Int)/\(x:Int)<(d.1.2.1.length:Int)/\((q101_0 d x).1.length<4611686018427387904->((!(decide ((q101_4 d x)≠d.1.1)|| !U.ja (q101_0 d x).2.1 (0:Int) (255:Int)|| !U.ja (q101_0 d x).2.2.1 (0:Int) (255:Int)))=true->(q101_0 d x).2.2.2.1.length<4611686018427387904)->((q101_1 d x)=true->(false,())=(U.jl d.1,()))/\((q101_1 d x)=false->(∃(b:Nat),((0=(b:Int)/\True)/\True)/\b<=(U.lv (q101_0 d x)).length/\∀(j:Nat),j<b->U.ja (nth (U.lv (q101_0 d x)) j) (0:Int) 5=true)/\∀(b:Nat),(b<=(U.lv (q101_0 d x)).length/\∀(j:Nat),j<b->U.ja (nth (U.lv (q101_0 d x)) j) (0:Int) 5=true)->(q101_0 d x).1.length<4611686018427387904->(decide ((b:Int)<(q101_4 d x))=true->0<=(b:Int)/\(b:Int)<(q101_4 d x)/\((!U.ja (nth (q101_0 d x).1 (b:Int).toNat) (0:Int) (5:Int))=true->(false,())=(U.jl d.1,()))/\((!U.ja (nth (q101_0 d x).1 (b:Int).toNat) (0:Int) (5:Int))=false->jz ((b:Int)+1)/\∃(c:Nat),(((b:Int)+1=(c:Int)/\True)/\True)/\(c<=(U.lv (q101_0 d x)).length/\∀(j:Nat),j<c->U.ja (nth (U.lv (q101_0 d x)) j) (0:Int) 5=true)/\(U.lv (q101_0 d x)).length-c<(U.lv (q101_0 d x)).length-b))/\(decide ((b:Int)<(q101_4 d x))=false->(∃(a:Nat),((0=(a:Int)/\True)/\True)/\a<=(q101_7 d x).length/\∀(j:Nat),j<a->U.ja (nth (q101_7 d x) j) (0:Int) 99=true)/\∀(a:Nat),(a<=(q101_7 d x).length/\∀(j:Nat),j<a->U.ja (nth (q101_7 d x) j) (0:Int) 99=true)->(q101_0 d x).2.2.2.1.length<4611686018427387904->(decide ((a:Int)<(q101_5 d x))=true->0<=(a:Int)/\(a:Int)<(q101_5 d x)/\((!U.ja (nth (q101_0 d x).2.2.2.1 (a:Int).toNat) (0:Int) (99:Int))=true->(false,())=(U.jl d.1,()))/\((!U.ja (nth (q101_0 d x).2.2.2.1 (a:Int).toNat) (0:Int) (99:Int))=false->jz ((a:Int)+1)/\∃(c:Nat),(((a:Int)+1=(c:Int)/\True)/\True)/\(c<=(q101_7 d x).length/\∀(j:Nat),j<c->U.ja (nth (q101_7 d x) j) (0:Int) 99=true)/\(q101_7 d x).length-c<(q101_7 d x).length-a))/\(decide ((a:Int)<(q101_5 d x))=false->jz ((x:Int)+1)/\∃(c:Nat),(((x:Int)+1=(c:Int)/\True)/\True)/\(c<=(U.je d.1).length/\∀(j:Nat),j<c->U.yI (U.la d.1) (nth (U.je d.1) j)=true)/\(U.je d.1).length-c<(U.je d.1).length-x)))))/\(decide ((x:Int)<(d.1.2.1.length:Int))=false->(∃(x:Nat),((0=(x:Int)/\True)/\True)/\x<=(U.kO d.1).length/\∀(j:Nat),j<x->U.gn (nth (U.kO d.1) j)=true)/\∀(x:Nat),(x<=(U.kO d.1).length/\∀(j:Nat),j<x->U.gn (nth (U.kO d.1) j)=true)->d.1.2.2.1.length<4611686018427387904->(decide ((x:Int)<(q101_6 d))=true->0<=(x:Int)/\(x:Int)<(q101_6 d)/\((!!U.ja (nth d.1.2.2.1 (x:Int).toNat).1 (1:Int) (5:Int))=true->0<=(x:Int))/\((!!U.ja (nth d.1.2.2.1 (x:Int).toNat).1 (1:Int) (5:Int))=true->(x:Int)<(q101_6 d))/\((q101_2 d x)=true->(false,())=(U.jl d.1,()))/\((q101_2 d x)=false->jz ((x:Int)+1)/\∃(c:Nat),(((x:Int)+1=(c:Int)/\True)/\True)/\(c<=(U.kO d.1).length/\∀(j:Nat),j<c->U.gn (nth (U.kO d.1) j)=true)/\(U.kO d.1).length-c<(U.kO d.1).length-x))/\(decide ((x:Int)<(q101_6 d))=false->(true,())=(U.jl d.1,()))))
def jra:jQ:=⟨[.val tCr,.val tJb],[.bool],false,fun d=>[U.jl d.1=true],fun d=>(U.jN d.1 d.2.1,())⟩
def jqM:Prop:=∀(d:CrD×JbD×Unit),U.jl d.1=true->jz (d.1.1-1)/\(U.ja d.2.1.1 (0:Int) (d.1.1-1)=true->jz (d.1.1-1))/\(U.ja d.2.1.1 (0:Int) (d.1.1-1)&&U.ja d.2.1.2.1 (0:Int) (d.1.1-1)&&decide (d.2.1.1≠d.2.1.2.1)&&U.ja d.2.1.2.2.1 (0:Int) (99:Int)&&U.ja d.2.1.2.2.2.1 (0:Int) (7:Int)&&U.ja d.2.1.2.2.2.2.1 (0:Int) (3:Int)&&U.ja d.2.1.2.2.2.2.2.1 (1:Int) (8:Int),())=(U.jN d.1 d.2.1,())
def juF:jQ:=⟨[.val tPe,.val .int],[.bool],false,fun _=>[],fun d=>(U.vE d.1 d.2.1,())⟩
def jv7:Ann:=fun r=>match r with
 |2=>some fun σ=>{X:=Nat,sl:=fun i=>[(5,.dat .int (i:Int))],ob:=fun _=>[],inv:=fun i=>i<=(U.zw (gb tPe σ 2)).length/\∀j:Nat,j<i->nth (U.zw (gb tPe σ 2)) j≠gd .int σ 1,mu:=fun i=>(U.zw (gb tPe σ 2)).length-i}
 |_=>none
def jul:Prop:=∀(d:PeD×Int×Unit),(∃(x:Nat),((0=(x:Int)/\True)/\True)/\x<=(U.zw d.1).length/\∀(j:Nat),j<x->nth (U.zw d.1) j≠d.2.1)/\∀(x:Nat),(x<=(U.zw d.1).length/\∀(j:Nat),j<x->nth (U.zw d.1) j≠d.2.1)->d.1.2.2.2.1.length<4611686018427387904->(decide ((x:Int)<(d.1.2.2.2.1.length:Int))=true->0<=(x:Int)/\(x:Int)<(d.1.2.2.2.1.length:Int)/\(decide (nth d.1.2.2.2.1 (x:Int).toNat=d.2.1)=true->(true,())=(U.vE d.1 d.2.1,()))/\(decide (nth d.1.2.2.2.1 (x:Int).toNat=d.2.1)=false->jz ((x:Int)+1)/\∃(a:Nat),(((x:Int)+1=(a:Int)/\True)/\True)/\(a<=(U.zw d.1).length/\∀(j:Nat),j<a->nth (U.zw d.1) j≠d.2.1)/\(U.zw d.1).length-a<(U.zw d.1).length-x))/\(decide ((x:Int)<(d.1.2.2.2.1.length:Int))=false->(false,())=(U.vE d.1 d.2.1,()))
def jmv:jQ:=⟨[.val tCr,.val tJb,.val .int],[.bool],false,fun d=>[0<=d.2.2.1/\d.2.2.1<((U.je d.1).length:Int),U.jN d.1 d.2.1=true],fun d=>(U.j7 d.1 d.2.1 d.2.2.1,())⟩
abbrev q104_0 (d:CrD×JbD×Int×Unit):=(nth d.1.2.1 d.2.2.1.toNat)
def jmi:Prop:=∀(d:CrD×JbD×Int×Unit),0<=d.2.2.1/\d.2.2.1<(↑(U.je d.1).length:Int)->U.jN d.1 d.2.1=true->0<=d.2.2.1/\d.2.2.1<(d.1.2.1.length:Int)/\((!U.vE (q104_0 d) d.2.1.2.2.1)=true->0<=d.2.1.2.2.2.1/\d.2.1.2.2.2.1<=63)/\((!U.vE (q104_0 d) d.2.1.2.2.1&&U.jM (q104_0 d).2.1 d.2.1.2.2.2.1)=true->0<=d.2.1.2.2.2.2.1/\d.2.1.2.2.2.2.1<=63)/\(!U.vE (q104_0 d) d.2.1.2.2.1&&U.jM (q104_0 d).2.1 d.2.1.2.2.2.1&&U.jM (q104_0 d).2.2.1 d.2.1.2.2.2.2.1,())=(U.j7 d.1 d.2.1 d.2.2.1,())
def juG:jQ:=⟨[.val .int],[.int],false,fun d=>[BT.Set' d.1],fun d=>(BT.size d.1,())⟩
def jv8:Ann:=fun r=>match r with
 |2=>some fun σ=>{X:=Nat,sl:=fun j=>[(0,.dat .int (U.kB (gd .int σ 0) j)),(3,.dat .int (BT.size (gd .int σ 0)-BT.size (U.kB (gd .int σ 0) j)))],ob:=fun _=>[],inv:=fun j=>BT.Set' (U.kB (gd .int σ 0) j),mu:=fun j=>(U.kB (gd .int σ 0) j).toNat}
 |_=>none
def jum:Prop:=∀(d:Int×Unit),BT.Set' d.1->(∃(x:Nat),((d.1=U.kB d.1 x/\0=BT.size d.1-BT.size (U.kB d.1 x)/\True)/\True)/\BT.Set' (U.kB d.1 x))/\∀(x:Nat),BT.Set' (U.kB d.1 x)->(decide (0<U.kB d.1 x)=true->jz (BT.size d.1-BT.size (U.kB d.1 x)+qz (U.kB d.1 x) (1:Int))/\(0:Int)<=1/\(1:Int)<=64/\∃(a:Nat),((U.kB d.1 x/(2:Int)^Int.toNat 1=U.kB d.1 a/\BT.size d.1-BT.size (U.kB d.1 x)+qz (U.kB d.1 x) 1=BT.size d.1-BT.size (U.kB d.1 a)/\True)/\True)/\BT.Set' (U.kB d.1 a)/\(U.kB d.1 a).toNat<(U.kB d.1 x).toNat)/\(decide (0<U.kB d.1 x)=false->(BT.size d.1-BT.size (U.kB d.1 x),())=(BT.size d.1,()))
def jq9:jQ:=⟨[.val tCr,.val .int,.val .int,.val .int,.val .int],[.bool],false,fun d=>[U.jl d.1=true,0<=d.2.2.2.1/\d.2.2.2.1<U.la d.1,0<=d.2.2.2.2.1/\d.2.2.2.2.1<U.la d.1],fun d=>(U.jaQ d.1 d.2.1 d.2.2.1 d.2.2.2.1 d.2.2.2.2.1,())⟩
def jsS:Ann:=fun r=>match r with
 |2=>some fun σ=>{X:=Nat,sl:=fun i=>[(11,.dat .int (i:Int))],ob:=fun _=>[],inv:=fun i=>i<=(U.je (gb tCr σ 5)).length/\∀j:Nat,j<i->(U.jM (gd .int σ 1) (j:Int)&&decide (gd .int σ 2<=nth (U.lv (nth (U.je (gb tCr σ 5)) j)) (gd .int σ 3).toNat)&&decide (gd .int σ 2<=nth (U.lv (nth (U.je (gb tCr σ 5)) j)) (gd .int σ 4).toNat))=false,mu:=fun i=>(U.je (gb tCr σ 5)).length-i}
 |_=>none
abbrev q106_0 (d:CrD×Int×Int×Int×Int×Unit)(j:Nat):=(U.jM d.2.1 (j:Int)&&decide (d.2.2.1<=nth (U.lv (nth (U.je d.1) j)) d.2.2.2.1.toNat)&&decide (d.2.2.1<=nth (U.lv (nth (U.je d.1) j)) d.2.2.2.2.1.toNat))
abbrev q106_1 (d:CrD×Int×Int×Int×Int×Unit)(x:Nat):=(d.2.2.1<=nth (nth d.1.2.1 (x:Int).toNat).1 d.2.2.2.1.toNat)
abbrev q106_2 (d:CrD×Int×Int×Int×Int×Unit)(x:Nat):=(U.jM d.2.1 (x:Int)&&decide (q106_1 d x)&&decide (d.2.2.1<=nth (nth d.1.2.1 (x:Int).toNat).1 d.2.2.2.2.1.toNat))
abbrev q106_3 (d:CrD×Int×Int×Int×Int×Unit)(x:Nat):=(U.jM d.2.1 (x:Int)&&decide (q106_1 d x))
def jqL:Prop:=∀(d:CrD×Int×Int×Int×Int×Unit),U.jl d.1=true->0<=d.2.2.2.1/\d.2.2.2.1<U.la d.1->0<=d.2.2.2.2.1/\d.2.2.2.2.1<U.la d.1->(∃(x:Nat),((0=(x:Int)/\True)/\True)/\x<=(U.je d.1).length/\∀(j:Nat),j<x->(q106_0 d j)=false)/\∀(x:Nat),(x<=(U.je d.1).length/\∀(j:Nat),j<x->(q106_0 d j)=false)->d.1.2.1.length<4611686018427387904->(decide ((x:Int)<(d.1.2.1.length:Int))=true->(0<=(x:Int)/\(x:Int)<=63)/\(U.jM d.2.1 (x:Int)=true->0<=(x:Int))/\(U.jM d.2.1 (x:Int)=true->(x:Int)<(d.1.2.1.length:Int))/\(U.jM d.2.1 (x:Int)=true->0<=d.2.2.2.1)/\(U.jM d.2.1 (x:Int)=true->d.2.2.2.1<(↑(nth d.1.2.1 (x:Int).toNat).1.length:Int))/\((q106_3 d x)=true->0<=(x:Int))/\((q106_3 d x)=true->(x:Int)<(d.1.2.1.length:Int))/\((q106_3 d x)=true->0<=d.2.2.2.2.1)/\((q106_3 d x)=true->d.2.2.2.2.1<(↑(nth d.1.2.1 (x:Int).toNat).1.length:Int))/\((q106_2 d x)=true->(true,())=(U.jaQ d.1 d.2.1 d.2.2.1 d.2.2.2.1 d.2.2.2.2.1,()))/\((q106_2 d x)=false->jz ((x:Int)+1)/\∃(a:Nat),(((x:Int)+1=(a:Int)/\True)/\True)/\(a<=(U.je d.1).length/\∀(j:Nat),j<a->(q106_0 d j)=false)/\(U.je d.1).length-a<(U.je d.1).length-x))/\(decide ((x:Int)<(d.1.2.1.length:Int))=false->(false,())=(U.jaQ d.1 d.2.1 d.2.2.1 d.2.2.2.1 d.2.2.2.2.1,()))
def jwT:jQ:=⟨[.val tCr,.val .int,.val .int,.val .int],[.slice .int],false,fun d=>[U.jl d.1=true,0<=d.2.2.2.1/\d.2.2.2.1<U.la d.1],fun d=>(U.jb0 d.1 d.2.1 d.2.2.1 d.2.2.2.1,())⟩
def jzu:Ann:=fun r=>match r with
 |3=>some fun σ=>{X:=Nat,sl:=fun i=>[(10,.dat .int (i:Int)),(9,.own 9 .int)],ob:=fun i=>[(9,some (.row 3 .int false .yes (List.replicate i (-1))))],inv:=fun i=>i<=(U.la (gb tCr σ 4)).toNat,mu:=fun i=>(U.la (gb tCr σ 4)).toNat-i}
 |8=>some fun σ=>{X:=Nat,sl:=fun i=>[(11,.dat .int (i:Int)),(9,.own 9 .int)],ob:=fun i=>[(9,some (.row 3 .int false .yes (U.ze (U.J3 (gb tCr σ 4) (gd .int σ 1) (gd .int σ 2)) (U.la (gb tCr σ 4)).toNat (gd .int σ 3).toNat i)))],inv:=fun i=>i<=(U.la (gb tCr σ 4)).toNat,mu:=fun i=>(U.la (gb tCr σ 4)).toNat-i}
 |11=>some fun σ=>{X:=Nat,sl:=fun i=>[(12,.dat .int (i:Int)),(9,.own 9 .int)],ob:=fun i=>[(9,some (.row 3 .int false .yes (U.kd (U.J3 (gb tCr σ 4) (gd .int σ 1) (gd .int σ 2)) (U.la (gb tCr σ 4)).toNat (gd .int σ 11).toNat (gr .int σ 9) i)))],inv:=fun i=>i<=(U.la (gb tCr σ 4)).toNat,mu:=fun i=>(U.la (gb tCr σ 4)).toNat-i}
 |14=>some fun σ=>{X:=Nat,sl:=fun i=>[(13,.dat .int (i:Int)),(9,.own 9 .int)],ob:=fun i=>[(9,some (.row 3 .int false .yes (U.kC (U.J3 (gb tCr σ 4) (gd .int σ 1) (gd .int σ 2)) (gd .int σ 11).toNat (gd .int σ 12).toNat (gr .int σ 9) i)))],inv:=fun i=>i<=(U.la (gb tCr σ 4)).toNat,mu:=fun i=>(U.la (gb tCr σ 4)).toNat-i}
 |_=>none
abbrev q107_2 (d:CrD×Int×Int×Int×Unit):=(U.J3 d.1 d.2.1 d.2.2.1)
abbrev q107_4 (d:CrD×Int×Int×Int×Unit)(x:Nat):=(U.ze (q107_2 d) (U.la d.1).toNat d.2.2.2.1.toNat x)
abbrev q107_1 (d:CrD×Int×Int×Int×Unit)(x:Nat)(a:Nat):=(U.kd (q107_2 d) (U.la d.1).toNat (x:Int).toNat (q107_4 d x) a)
abbrev q107_0 (d:CrD×Int×Int×Int×Unit)(x:Nat)(a:Nat)(b:Nat):=(U.kC (q107_2 d) (x:Int).toNat (a:Int).toNat (q107_1 d x a) b)
abbrev q107_3 (d:CrD×Int×Int×Int×Unit)(x:Nat)(a:Nat)(b:Nat):=(nth (q107_0 d x a b) (a:Int).toNat=(x:Int))
abbrev q107_5 (d:CrD×Int×Int×Int×Unit)(x:Nat)(b:Nat)(a:Nat):=(decide (q107_3 d x b a)&&decide (nth (q107_0 d x b a) (a:Int).toNat<0))
abbrev q107_6 (d:CrD×Int×Int×Int×Unit)(x:Nat)(b:Nat)(a:Nat):=(decide (q107_3 d x b a)&&decide (nth (q107_0 d x b a) (a:Int).toNat<0)&&U.jaQ d.1 d.2.1 d.2.2.1 (b:Int) (a:Int))
def jwt:Prop:=∀(d:CrD×Int×Int×Int×Unit),U.jl d.1=true->0<=d.2.2.2.1/\d.2.2.2.1<U.la d.1->(∃(x:Nat),((0=(x:Int)/\True/\True)/\List.replicate x (-1:Int)=[]/\True)/\x<=(U.la d.1).toNat)/\∀(x:Nat),x<=(U.la d.1).toNat->(decide ((x:Int)<d.1.1)=true->((List.replicate x (-1:Int)).length+[(-1:Int)].length)*8<=140737488355328/\jz ((x:Int)+1)/\∃(c:Nat),(((x:Int)+1=(c:Int)/\True/\True)/\List.replicate x (-1:Int)++[(-1:Int)]=List.replicate c (-1:Int)/\True)/\c<=(U.la d.1).toNat/\(U.la d.1).toNat-c<(U.la d.1).toNat-x)/\(decide ((x:Int)<d.1.1)=false->0<=d.2.2.2.1/\d.2.2.2.1<(↑(List.replicate x (-1:Int)).length:Int)/\(∃(e:Nat),((0=(e:Int)/\True/\True)/\(List.replicate x (-1:Int)).set d.2.2.2.1.toNat 0=U.ze (q107_2 d) (U.la d.1).toNat d.2.2.2.1.toNat e/\True)/\e<=(U.la d.1).toNat)/\∀(x:Nat),x<=(U.la d.1).toNat->(decide ((x:Int)<d.1.1)=true->(∃(a:Nat),((0=(a:Int)/\True/\True)/\U.ze (q107_2 d) (U.la d.1).toNat d.2.2.2.1.toNat x=U.kd (q107_2 d) (U.la d.1).toNat (x:Int).toNat (q107_4 d x) a/\True)/\a<=(U.la d.1).toNat)/\∀(a:Nat),a<=(U.la d.1).toNat->(decide ((a:Int)<d.1.1)=true->(∃(b:Nat),((0=(b:Int)/\True/\True)/\U.kd (q107_2 d) (U.la d.1).toNat (x:Int).toNat (q107_4 d x) a=U.kC (q107_2 d) (x:Int).toNat (a:Int).toNat (q107_1 d x a) b/\True)/\b<=(U.la d.1).toNat)/\∀(b:Nat),b<=(U.la d.1).toNat->(decide ((b:Int)<d.1.1)=true->0<=(a:Int)/\(a:Int)<(↑(q107_0 d x a b).length:Int)/\(decide (q107_3 d x a b)=true->0<=(b:Int))/\(decide (q107_3 d x a b)=true->(b:Int)<(↑(q107_0 d x a b).length:Int))/\((q107_5 d x a b)=true->U.jl d.1=true)/\((q107_5 d x a b)=true->0<=(a:Int)/\(a:Int)<U.la d.1)/\((q107_5 d x a b)=true->0<=(b:Int)/\(b:Int)<U.la d.1)/\((q107_6 d x a b)=true->jz ((x:Int)+1)/\0<=(b:Int)/\(b:Int)<(↑(q107_0 d x a b).length:Int)/\jz ((b:Int)+1)/\∃(c:Nat),((True/\(b:Int)+1=(c:Int)/\True)/\(q107_0 d x a b).set (b:Int).toNat ((x:Int)+1)=U.kC (q107_2 d) (x:Int).toNat (a:Int).toNat (q107_1 d x a) c/\True)/\c<=(U.la d.1).toNat/\(U.la d.1).toNat-c<(U.la d.1).toNat-b)/\((q107_6 d x a b)=false->jz ((b:Int)+1)/\∃(c:Nat),((True/\(b:Int)+1=(c:Int)/\True)/\U.kC (q107_2 d) (x:Int).toNat (a:Int).toNat (q107_1 d x a) b=U.kC (q107_2 d) (x:Int).toNat (a:Int).toNat (q107_1 d x a) c/\True)/\c<=(U.la d.1).toNat/\(U.la d.1).toNat-c<(U.la d.1).toNat-b))/\(decide ((b:Int)<d.1.1)=false->jz ((a:Int)+1)/\∃(c:Nat),(((a:Int)+1=(c:Int)/\True/\True)/\U.kC (q107_2 d) (x:Int).toNat (a:Int).toNat (q107_1 d x a) b=U.kd (q107_2 d) (U.la d.1).toNat (x:Int).toNat (q107_4 d x) c/\True)/\c<=(U.la d.1).toNat/\(U.la d.1).toNat-c<(U.la d.1).toNat-a))/\(decide ((a:Int)<d.1.1)=false->jz ((x:Int)+1)/\∃(c:Nat),(((x:Int)+1=(c:Int)/\True/\True)/\U.kd (q107_2 d) (U.la d.1).toNat (x:Int).toNat (q107_4 d x) a=U.ze (q107_2 d) (U.la d.1).toNat d.2.2.2.1.toNat c/\True)/\c<=(U.la d.1).toNat/\(U.la d.1).toNat-c<(U.la d.1).toNat-x))/\(decide ((x:Int)<d.1.1)=false->(U.ze (q107_2 d) (U.la d.1).toNat d.2.2.2.1.toNat x,())=(U.jb0 d.1 d.2.1 d.2.2.1 d.2.2.2.1,())))
def jox:jQ:=⟨[.val tCr,.val tJb,.val .int],[.int],false,fun d=>[U.jl d.1=true,U.jN d.1 d.2.1=true,U.jxJ d.2.2.1],fun d=>(U.jvW d.1 d.2.1 d.2.2.1,())⟩
def jqj:Ann:=fun r=>match r with
 |5=>some fun σ=>{X:=Nat,sl:=fun i=>[(10,.dat .int (i:Int)),(8,.dat .int (U.jY (gb tCr σ 3) (gb tJb σ 4) (gd .int σ 2) i).1),(9,.dat .bool (U.jY (gb tCr σ 3) (gb tJb σ 4) (gd .int σ 2) i).2)],ob:=fun _=>[],inv:=fun i=>i<=(U.je (gb tCr σ 3)).length,mu:=fun i=>(U.je (gb tCr σ 3)).length-i}
 |_=>none
abbrev q108_1 (d:CrD×JbD×Int×Unit)(x:Nat):=(U.jY d.1 d.2.1 d.2.2.1 x)
abbrev q108_2 (d:CrD×JbD×Int×Unit)(x:Nat):=(nth d.1.2.1 (x:Int).toNat)
abbrev q108_3 (d:CrD×JbD×Int×Unit)(a:Nat):=(U.jY d.1 d.2.1 d.2.2.1 a)
abbrev q108_4 (d:CrD×JbD×Int×Unit)(x:Nat):=(!U.jM (q108_2 d x).2.2.1 d.2.1.2.2.2.2.1)
abbrev q108_5 (d:CrD×JbD×Int×Unit)(x:Nat):=((q108_1 d x).2||(q108_2 d x).2.2.2.2.1)
abbrev q108_7 (d:CrD×JbD×Int×Unit):=(nth d.1.2.2.1 d.2.1.2.2.2.2.1.toNat)
abbrev q108_0 (d:CrD×JbD×Int×Unit):=(U.jb0 d.1 d.2.2.1 (q108_7 d).1 d.2.1.1)
abbrev q108_6 (d:CrD×JbD×Int×Unit):=(nth (q108_0 d) d.2.1.2.1.toNat<0)
abbrev q108_8 (d:CrD×JbD×Int×Unit):=(U.jvW d.1 d.2.1 d.2.2.1,())
abbrev q108_9 (d:CrD×JbD×Int×Unit):=(0<=d.2.1.2.2.2.2.1/\d.2.1.2.2.2.2.1<=63)
abbrev q108_10 (d:CrD×JbD×Int×Unit):=(0<=d.2.1.1/\d.2.1.1<U.la d.1)
abbrev q108_11 (d:CrD×JbD×Int×Unit)(x:Nat):=(!U.jM (q108_2 d x).2.1 d.2.1.2.2.2.1)
def joc:Prop:=∀(d:CrD×JbD×Int×Unit),U.jl d.1=true->U.jN d.1 d.2.1=true->U.jxJ d.2.2.1->0<=d.2.1.2.2.2.2.1/\d.2.1.2.2.2.2.1<(d.1.2.2.1.length:Int)/\(∃(x:Nat),((0=(x:Int)/\0=(q108_1 d x).1/\false=(q108_1 d x).2/\True)/\True)/\x<=(U.je d.1).length)/\∀(x:Nat),x<=(U.je d.1).length->d.1.2.1.length<4611686018427387904->(decide ((x:Int)<(d.1.2.1.length:Int))=true->(0<=(x:Int)/\(x:Int)<=63)/\((!U.jM d.2.2.1 (x:Int))=true->jz ((x:Int)+1)/\∃(a:Nat),(((q108_1 d x).2=(q108_3 d a).2/\(q108_1 d x).1=(q108_3 d a).1/\(x:Int)+1=(a:Int)/\True)/\True)/\a<=(U.je d.1).length/\(U.je d.1).length-a<(U.je d.1).length-x)/\((!U.jM d.2.2.1 (x:Int))=false->0<=(x:Int)/\(x:Int)<(d.1.2.1.length:Int)/\(U.vE (q108_2 d x) d.2.1.2.2.1=true->(0<=d.2.1.2.2.2.1/\d.2.1.2.2.2.1<=63)/\((q108_11 d x)=true->(q108_9 d)/\((q108_4 d x)=true->jz ((x:Int)+1)/\∃(a:Nat),(((x:Int)+1=(a:Int)/\(q108_5 d x)=(q108_3 d a).2/\bor (bor (bor (q108_1 d x).1 (1:Int)) (2:Int)) 4=(q108_3 d a).1/\True)/\True)/\a<=(U.je d.1).length/\(U.je d.1).length-a<(U.je d.1).length-x)/\((q108_4 d x)=false->jz ((x:Int)+1)/\∃(a:Nat),(((x:Int)+1=(a:Int)/\(q108_5 d x)=(q108_3 d a).2/\bor (bor (q108_1 d x).1 (1:Int)) 2=(q108_3 d a).1/\True)/\True)/\a<=(U.je d.1).length/\(U.je d.1).length-a<(U.je d.1).length-x))/\((q108_11 d x)=false->(q108_9 d)/\((q108_4 d x)=true->jz ((x:Int)+1)/\∃(a:Nat),(((x:Int)+1=(a:Int)/\(q108_5 d x)=(q108_3 d a).2/\bor (bor (q108_1 d x).1 (1:Int)) 4=(q108_3 d a).1/\True)/\True)/\a<=(U.je d.1).length/\(U.je d.1).length-a<(U.je d.1).length-x)/\((q108_4 d x)=false->jz ((x:Int)+1)/\∃(a:Nat),(((x:Int)+1=(a:Int)/\(q108_5 d x)=(q108_3 d a).2/\bor (q108_1 d x).1 1=(q108_3 d a).1/\True)/\True)/\a<=(U.je d.1).length/\(U.je d.1).length-a<(U.je d.1).length-x)))/\(U.vE (q108_2 d x) d.2.1.2.2.1=false->(0<=d.2.1.2.2.2.1/\d.2.1.2.2.2.1<=63)/\((q108_11 d x)=true->(q108_9 d)/\((q108_4 d x)=true->jz ((x:Int)+1)/\∃(a:Nat),(((x:Int)+1=(a:Int)/\(q108_5 d x)=(q108_3 d a).2/\bor (bor (q108_1 d x).1 (2:Int)) 4=(q108_3 d a).1/\True)/\True)/\a<=(U.je d.1).length/\(U.je d.1).length-a<(U.je d.1).length-x)/\((q108_4 d x)=false->jz ((x:Int)+1)/\∃(a:Nat),(((x:Int)+1=(a:Int)/\(q108_5 d x)=(q108_3 d a).2/\bor (q108_1 d x).1 2=(q108_3 d a).1/\True)/\True)/\a<=(U.je d.1).length/\(U.je d.1).length-a<(U.je d.1).length-x))/\((q108_11 d x)=false->(q108_9 d)/\((q108_4 d x)=true->jz ((x:Int)+1)/\∃(a:Nat),(((x:Int)+1=(a:Int)/\(q108_5 d x)=(q108_3 d a).2/\bor (q108_1 d x).1 4=(q108_3 d a).1/\True)/\True)/\a<=(U.je d.1).length/\(U.je d.1).length-a<(U.je d.1).length-x)/\((q108_4 d x)=false->jz ((x:Int)+1)/\∃(a:Nat),(((q108_1 d x).1=(q108_3 d a).1/\(x:Int)+1=(a:Int)/\(q108_5 d x)=(q108_3 d a).2/\True)/\True)/\a<=(U.je d.1).length/\(U.je d.1).length-a<(U.je d.1).length-x)))))/\(decide ((x:Int)<(d.1.2.1.length:Int))=false->BT.Set' d.2.2.1/\(decide (BT.size d.2.2.1≠max d.2.1.2.2.2.2.2.1 (q108_7 d).2.1)=true->(((q108_7 d).2.2.1&& !(q108_1 d x).2)=true->U.jl d.1=true/\(q108_10 d)/\0<=d.2.1.2.1/\d.2.1.2.1<(↑(q108_0 d).length:Int)/\(decide (q108_6 d)=true->(bor (bor (bor (q108_1 d x).1 (8:Int)) (16:Int)) (32:Int),())=(q108_8 d))/\(decide (q108_6 d)=false->(bor (bor (q108_1 d x).1 (8:Int)) (16:Int),())=(q108_8 d)))/\(((q108_7 d).2.2.1&& !(q108_1 d x).2)=false->U.jl d.1=true/\(q108_10 d)/\0<=d.2.1.2.1/\d.2.1.2.1<(↑(q108_0 d).length:Int)/\(decide (q108_6 d)=true->(bor (bor (q108_1 d x).1 (8:Int)) (32:Int),())=(q108_8 d))/\(decide (q108_6 d)=false->(bor (q108_1 d x).1 (8:Int),())=(q108_8 d))))/\(decide (BT.size d.2.2.1≠max d.2.1.2.2.2.2.2.1 (q108_7 d).2.1)=false->(((q108_7 d).2.2.1&& !(q108_1 d x).2)=true->U.jl d.1=true/\(q108_10 d)/\0<=d.2.1.2.1/\d.2.1.2.1<(↑(q108_0 d).length:Int)/\(decide (q108_6 d)=true->(bor (bor (q108_1 d x).1 (16:Int)) (32:Int),())=(q108_8 d))/\(decide (q108_6 d)=false->(bor (q108_1 d x).1 (16:Int),())=(q108_8 d)))/\(((q108_7 d).2.2.1&& !(q108_1 d x).2)=false->U.jl d.1=true/\(q108_10 d)/\0<=d.2.1.2.1/\d.2.1.2.1<(↑(q108_0 d).length:Int)/\(decide (q108_6 d)=true->(bor (q108_1 d x).1 (32:Int),())=(q108_8 d))/\(decide (q108_6 d)=false->((q108_1 d x).1,())=(q108_8 d)))))
def juH:jQ:=⟨[.val tCr,.val tJb,.val .int],[.bool],false,fun d=>[U.jl d.1=true,U.jN d.1 d.2.1=true,U.jxJ d.2.2.1],fun d=>(U.vU d.1 d.2.1 d.2.2.1,())⟩
def jun:Prop:=∀(d:CrD×JbD×Int×Unit),U.jl d.1=true->U.jN d.1 d.2.1=true->U.jxJ d.2.2.1->(decide (0<d.2.2.1)=true->U.jl d.1=true)/\(decide (0<d.2.2.1)=true->U.jN d.1 d.2.1=true)/\(decide (0<d.2.2.1)=true->U.jxJ d.2.2.1)/\(decide (0<d.2.2.1)&&decide (U.jvW d.1 d.2.1 d.2.2.1=0),())=(U.vU d.1 d.2.1 d.2.2.1,())
def jwV:jQ:=⟨[.val tCr,.val .int],[.int],false,fun d=>[U.jl d.1=true],fun d=>(U.jgC d.1 d.2.1,())⟩
def jzv:Ann:=fun r=>match r with
 |3=>some fun σ=>{X:=Nat,sl:=fun i=>[(6,.dat .int (i:Int)),(5,.dat .int (U.zJ (gb tCr σ 2) (gd .int σ 1) i))],ob:=fun _=>[],inv:=fun i=>i<=(U.je (gb tCr σ 2)).length,mu:=fun i=>(U.je (gb tCr σ 2)).length-i}
 |_=>none
def jwv:Prop:=∀(d:CrD×Int×Unit),U.jl d.1=true->(∃(x:Nat),((0=(x:Int)/\0=U.zJ d.1 d.2.1 x/\True)/\True)/\x<=(U.je d.1).length)/\∀(x:Nat),x<=(U.je d.1).length->d.1.2.1.length<4611686018427387904->(decide ((x:Int)<(d.1.2.1.length:Int))=true->(0<=(x:Int)/\(x:Int)<=63)/\(U.jM d.2.1 (x:Int)=true->0<=(x:Int)/\(x:Int)<(d.1.2.1.length:Int)/\jz (U.zJ d.1 d.2.1 x+(nth d.1.2.1 (x:Int).toNat).2.2.2.2.2.1)/\jz ((x:Int)+1)/\∃(a:Nat),(((x:Int)+1=(a:Int)/\U.zJ d.1 d.2.1 x+(nth d.1.2.1 (x:Int).toNat).2.2.2.2.2.1=U.zJ d.1 d.2.1 a/\True)/\True)/\a<=(U.je d.1).length/\(U.je d.1).length-a<(U.je d.1).length-x)/\(U.jM d.2.1 (x:Int)=false->jz ((x:Int)+1)/\∃(a:Nat),((U.zJ d.1 d.2.1 x=U.zJ d.1 d.2.1 a/\(x:Int)+1=(a:Int)/\True)/\True)/\a<=(U.je d.1).length/\(U.je d.1).length-a<(U.je d.1).length-x))/\(decide ((x:Int)<(d.1.2.1.length:Int))=false->(U.zJ d.1 d.2.1 x,())=(U.jgC d.1 d.2.1,()))
end Go.X
namespace Go.X
open Go.Proofs
theorem jse:job:=by
 rintro⟨n,a,b,⟨⟩⟩;rfl
theorem jgV:zc PR 75 jow:=jR jse Tryz.func75 kcN koN
theorem jAK:jwu:=by
 rintro⟨s,n,⟨⟩⟩ ⟨a,b⟩;have a:0<=n:=a;have b:n<=63:=b;exact⟨a,by show n<=18446744073709551615;omega,a,by show n<=64;omega,rfl⟩
theorem jbF:zc PR 36 jwU:=jR jAK Tryz.func36 kcN koN
theorem jAB (c:CrD) (j:JbD):(U.ja (U.jqx j) 0 (U.la c-1)&&U.ja (U.jlG j) 0 (U.la c-1)&&decide (U.jqx j≠U.jlG j)&&U.ja (U.jzH j) 0 99&&U.ja (U.jrX j) 0 7&&U.ja (U.jqw j) 0 3&&U.ja (U.jAx j) 1 8)=U.jN c j:=by
 unfold U.jN U.ja;rw[jF6];simp only[jFD,decide_eq_true_eq,ne_eq];constructor
 .rintro⟨⟨⟨⟨⟨⟨⟨f,g⟩,h,i⟩,k⟩,l,m⟩,n,o⟩,a,b⟩,d,e⟩;exact⟨f,g,h,i,k,l,m,n,o,a,b,d,e⟩
 .rintro⟨f,g,h,i,k,l,m,n,o,a,b,d,e⟩;exact⟨⟨⟨⟨⟨⟨⟨f,g⟩,h,i⟩,k⟩,l,m⟩,n,o⟩,a,b⟩,d,e⟩
theorem jvs:jqM:=by
 rintro⟨c,j,⟨⟩⟩ h;have h:U.jl c=true:=h;have d:=jx h;have a:jz (U.la c-1):=L.in64 (by omega) (by omega);refine⟨a,fun _=>a,?_⟩;exact congrArg (fun b=>(b,())) (jAB c j)
theorem jrM:zc PR 50 jra:=jR jvs Tryz.func50 (kcC jgV kcN) koN
theorem jyz:jul:=by
 rintro⟨p,n,⟨⟩⟩;refine⟨⟨0,⟨⟨rfl,trivial⟩,trivial⟩,jFM _,fun j d=>by omega⟩,fun x b c=>⟨fun h=> ?_,fun h=> ?_⟩⟩
 .have c:(U.zw p).length<4611686018427387904:=c;have h:(x:Int)<((U.zw p).length:Int):=of_decide_eq_true h;refine⟨by omega,h,fun a=> ?_,fun a=>⟨L.in64 (by omega) (by omega),x+1,⟨⟨by simp,trivial⟩,trivial⟩,⟨by show x+1<=(U.zw p).length;omega,fun j d=> ?_⟩,by show(U.zw p).length-(x+1)<(U.zw p).length-x;omega⟩⟩
  .have a:nth (U.zw p) x=n:=of_decide_eq_true a;have:U.vE p n=true:=by
    unfold U.vE;rw[jGk];exact⟨_,L.mem_nth (l:=U.zw p) (i:=x) (by omega),by simpa using a⟩
   show(true,())=(U.vE p n,());rw[this]
  .have a:¬nth (U.zw p) x=n:=of_decide_eq_false a;by_cases e:j=x
   .subst e;exact a
   .exact b.2 j (by omega)
 .have h:¬(x:Int)<((U.zw p).length:Int):=of_decide_eq_false h;have g:x<=(U.zw p).length:=b.1;have:U.vE p n=false:=by
   unfold U.vE;rw[jGo];intro t f;obtain⟨i,hi,rfl⟩:=L.mem_iff.1 f;have:=b.2 i (by omega);have this:nth (U.zw p) i≠n:=this;simpa using this
  show(false,())=(U.vE p n,());rw[this]
theorem jlt:zc PR 76 juF:=kK jv7 jyz Tryz.func76 kcN koN
theorem jyc {c:CrD} {j:JbD} (h:U.jN c j=true):(0<=U.jqx j/\U.jqx j<U.la c)/\(0<=U.jlG j/\U.jlG j<U.la c)/\(0<=U.jrX j/\U.jrX j<=7)/\(0<=U.jqw j/\U.jqw j<=3)/\1<=U.jAx j/\U.jAx j<=8:=by
 unfold U.jN at h;have:=of_decide_eq_true h;omega
theorem jpD:jmi:=by
 unfold jmi q104_0;rintro⟨c,j,p,⟨⟩⟩ ⟨b,d⟩ a;have a:U.jN c j=true:=a;obtain⟨_,_,f,k,_⟩:=jyc a;exact⟨b,d,fun _=>⟨f.1,by show U.jrX j<=63;omega⟩,fun _=>⟨k.1,by show U.jqw j<=63;omega⟩,rfl⟩
theorem jmZ:zc PR 37 jmv:=jR jpD Tryz.func37 (kcC jlt (kcC jbF kcN)) koN
theorem jyA:jum:=by
 rintro⟨s,⟨⟩⟩ d;have d:BT.Set' s:=d;have e:=BT.size_le s;refine⟨⟨0,⟨⟨rfl,by show(0:Int)=BT.size s-BT.size s;omega,trivial⟩,trivial⟩,d⟩,fun x a=>⟨fun h=> ?_,fun h=> ?_⟩⟩
 .have h:0<U.kB s x:=of_decide_eq_true h;have a:BT.Set' (U.kB s x):=a;have g:=BT.size_half a;have i:=BT.size_le (U.kB s x);have j:qz (U.kB s x) 1=(U.kB s x)%2:=by
   obtain⟨n,f,c⟩:=BT.nat_of a;rw[f,show(1:Int)=((1:Nat):Int) from rfl,BT.band_nat (BT.lt63 c) (by decide),Nat.and_one_is_mod];omega
  have b:U.kB s (x+1)=U.kB s x/2:=(by show U.kB s x/2^1=_;simp);unfold BT.Set' at a;refine⟨?_,by decide,by decide,x+1,⟨⟨rfl,?_,trivial⟩,trivial⟩,?_,?_⟩
  .show jz (BT.size s-BT.size (U.kB s x)+qz (U.kB s x) 1);exact L.in64 (by omega) (by omega)
  .show BT.size s-BT.size (U.kB s x)+qz (U.kB s x) 1=BT.size s-BT.size (U.kB s (x+1));rw[b];omega
  .show BT.Set' (U.kB s (x+1));rw[b];unfold BT.Set';omega
  .show(U.kB s (x+1)).toNat<(U.kB s x).toNat;rw[b];omega
 .have h:¬0<U.kB s x:=of_decide_eq_false h;have a:BT.Set' (U.kB s x):=a;unfold BT.Set' at a;have:U.kB s x=0:=(by omega);show(BT.size s-BT.size (U.kB s x),())=(BT.size s,());rw[this,BT.size_zero];simp
theorem ju5:zc PR 148 juG:=kK jv8 jyA Tryz.func148 kcN koN
theorem jpP (c:CrD) (t:Int) (n:Nat):U.zJ c t (n+1)=if U.jM t (n:Int)=true then U.zJ c t n+U.fe (nth (U.je c) n) else U.zJ c t n:=by
 unfold U.zJ;rw[jF5,jFX];rfl
theorem jyK {c:CrD} (h:U.jl c=true) (t:Int):∀n,n<=(U.je c).length->0<=U.zJ c t n/\U.zJ c t n<=1000*(n:Int)
 |0,_=>⟨jGy _,jGy _⟩
 |n+1,a=>by
  have b:=jyK h t n (by omega)
  have:=jfw h (i:=n) (by omega)
  rw[jpP]
  split<;>omega
theorem jAL:jwv:=by
 rintro⟨c,t,⟨⟩⟩ b;have b:U.jl c=true:=b;have m:=(jx b).2.2.1;refine⟨⟨0,⟨⟨rfl,rfl,trivial⟩,trivial⟩,jFM _⟩,fun x g _=>⟨fun h=> ?_,fun h=> ?_⟩⟩
 .have h:(x:Int)<((U.je c).length:Int):=of_decide_eq_true h;have d:=jpP c t x;have l:=jyK b t x (by omega);have k:=jfw b (i:=x) (by omega);have j:x+1<=(U.je c).length:=(by omega);have f:(U.je c).length-(x+1)<(U.je c).length-x:=(by omega);refine⟨⟨by omega,by omega⟩,fun a=>⟨by omega,h,?_,L.in64 (by omega) (by omega),x+1,⟨⟨by simp,?_,trivial⟩,trivial⟩,j,f⟩,fun a=>⟨L.in64 (by omega) (by omega),x+1,⟨⟨?_,by simp,trivial⟩,trivial⟩,j,f⟩⟩
  .show jz (U.zJ c t x+U.fe (nth (U.je c) x));exact L.in64 (by omega) (by omega)
  .rw[if_pos a] at d;exact d.symm
  .have a:U.jM t (x:Int)=false:=a;rw[if_neg (by rw[a];simp)] at d;exact d.symm
 .have h:¬(x:Int)<((U.je c).length:Int):=of_decide_eq_false h;have g:x<=(U.je c).length:=g;have e:x=(U.je c).length:=(by omega);subst e;rfl
theorem jxI:zc PR 69 jwV:=kK jzv jAL Tryz.func69 (kcC jbF kcN) koN
end Go.X
namespace Go.X
open Go.Proofs
theorem jyB:jun:=by
 rintro⟨c,j,t,⟨⟩⟩ a b d;exact⟨fun _=>a,fun _=>b,fun _=>d,rfl⟩
theorem jEa {c:CrD} (h:U.jl c=true) {i:Nat} (hi:i<(U.je c).length):((U.lv (nth (U.je c) i)).length:Int)=U.la c:=by
 have:=(jx h).2.2.2.2.1 _ (L.mem_nth hi);unfold U.yI at this;simp only[jFD,decide_eq_true_eq] at this;exact this.1.1
theorem jvr:jqL:=by
 unfold jqL q106_3 q106_2 q106_1 q106_0;rintro⟨c,t,lev,a,b,⟨⟩⟩ f g k;have f:U.jl c=true:=f;have g:0<=a/\a<U.la c:=g;have k:0<=b/\b<U.la c:=k;have n:=(jx f).2.2.1;refine⟨⟨0,⟨⟨rfl,trivial⟩,trivial⟩,jFM _,fun j m=>by omega⟩,fun x l _=>⟨fun h=> ?_,fun h=> ?_⟩⟩
 .have h:(x:Int)<((U.je c).length:Int):=of_decide_eq_true h;have o:=jEa f (i:=x) (by omega);refine⟨⟨by omega,by omega⟩,fun _=>by omega,fun _=>h,fun _=>g.1,fun _=> ?_,fun _=>by omega,fun _=>h,fun _=>k.1,fun _=> ?_,fun d=> ?_,fun d=>⟨L.in64 (by omega) (by omega),x+1,⟨⟨by simp,trivial⟩,trivial⟩,⟨by show x+1<=(U.je c).length;omega,fun j m=> ?_⟩,by show(U.je c).length-(x+1)<(U.je c).length-x;omega⟩⟩
  .show a<((U.lv (nth (U.je c) x)).length:Int);omega
  .show b<((U.lv (nth (U.je c) x)).length:Int);omega
  .have d:(U.jM t (x:Int)&&decide (lev<=nth (U.lv (nth (U.je c) x)) a.toNat)&&decide (lev<=nth (U.lv (nth (U.je c) x)) b.toNat))=true:=d;have:U.jaQ c t lev a b=true:=by
    unfold U.jaQ;rw[jGk];exact⟨x,jFP.2 (by omega),d⟩
   show(true,())=(U.jaQ c t lev a b,());rw[this]
  .by_cases e:j=x
   .subst e;exact d
   .exact l.2 j (by omega)
 .have h:¬(x:Int)<((U.je c).length:Int):=of_decide_eq_false h;have:U.jaQ c t lev a b=false:=by
   unfold U.jaQ;rw[jGo];intro i hi;have hi:=jFP.1 hi;have:=l.2 i (by omega);rw[Bool.not_eq_true];exact this
  show(false,())=(U.jaQ c t lev a b,());rw[this]
theorem jrL:zc PR 177 jq9:=kK jsS jvr Tryz.func177 (kcC jbF kcN) koN
theorem jsk (J:Nat->Nat->Bool) (r a:Nat) (out:List Int) (b:Nat):(U.jcv J r a out b).length=out.length:=by
 unfold U.jcv
 split
 .rw[jGK]
 .rfl
theorem jpS (J:Nat->Nat->Bool) (r a:Nat) (out:List Int) (k:Nat):U.kC J r a out (k+1)=U.jcv J r a (U.kC J r a out k) k:=by
 unfold U.kC;rw[jF5,jFX];rfl
theorem jny (J:Nat->Nat->Bool) (r a:Nat) (out:List Int):∀k,(U.kC J r a out k).length=out.length
 |0=>rfl
 |k+1=>by rw[jpS,jsk,jny J r a out k]
theorem jpT (J:Nat->Nat->Bool) (n r:Nat) (out:List Int) (k:Nat):U.kd J n r out (k+1)=U.kC J r k (U.kd J n r out k) n:=by
 unfold U.kd;rw[jF5,jFX];rfl
theorem jnz (J:Nat->Nat->Bool) (n r:Nat) (out:List Int):∀k,(U.kd J n r out k).length=out.length
 |0=>rfl
 |k+1=>by rw[jpT,jny,jnz J n r out k]
theorem jpQ (J:Nat->Nat->Bool) (n s:Nat) (k:Nat):U.ze J n s (k+1)=U.kd J n k (U.ze J n s k) n:=by
 unfold U.ze;rw[jF5,jFX];rfl
theorem jnx (J:Nat->Nat->Bool) (n s:Nat):∀k,(U.ze J n s k).length=n
 |0=>jd0 n s
 |k+1=>by rw[jpQ,jnz,jnx J n s k]
theorem jAJ:jwt:=by
 unfold jwt q107_6 q107_5 q107_3 q107_0 q107_1 q107_4 q107_2;rintro⟨c,t,lev,s,⟨⟩⟩ j l;have j:U.jl c=true:=j;have l:0<=s/\s<U.la c:=l;have u:=jx j;obtain⟨J,v⟩:∃J,J=U.J3 c t lev:=⟨_,rfl⟩;refine⟨⟨0,⟨⟨rfl,trivial,trivial⟩,rfl,trivial⟩,jFM _⟩,fun x i=>⟨fun h=> ?_,fun h=> ?_⟩⟩
 .have h:(x:Int)<U.la c:=of_decide_eq_true h;refine⟨by simp only[jGv,jGe,jGr];omega,L.in64 (by omega) (by omega),x+1,⟨⟨by simp,trivial,trivial⟩,?_,trivial⟩,by show x+1<=(U.la c).toNat;omega,by show(U.la c).toNat-(x+1)<(U.la c).toNat-x;omega⟩;exact List.replicate_succ'.symm
 .have h:¬(x:Int)<U.la c:=of_decide_eq_false h;have i:x<=(U.la c).toNat:=i;have f:x=(U.la c).toNat:=(by omega);subst f;refine⟨l.1,by rw[jGv];show s<(((U.la c).toNat:Nat):Int);omega,⟨0,⟨⟨rfl,trivial,trivial⟩,rfl,trivial⟩,jFM _⟩,fun x i=>⟨fun h=>⟨⟨0,⟨⟨rfl,trivial,trivial⟩,rfl,trivial⟩,jFM _⟩,fun y p=>⟨fun e=>⟨⟨0,⟨⟨rfl,trivial,trivial⟩,rfl,trivial⟩,jFM _⟩,fun z q=>⟨fun g=> ?_,fun g=> ?_⟩⟩,fun e=> ?_⟩⟩,fun h=> ?_⟩⟩
  .have h:(x:Int)<U.la c:=of_decide_eq_true h;have e:(y:Int)<U.la c:=of_decide_eq_true e;have g:(z:Int)<U.la c:=of_decide_eq_true g;have d:=jpS (U.J3 c t lev) x y (U.kd (U.J3 c t lev) (U.la c).toNat x (U.ze (U.J3 c t lev) (U.la c).toNat s.toNat x) y) z;have b:(U.kC (U.J3 c t lev) x y (U.kd (U.J3 c t lev) (U.la c).toNat x (U.ze (U.J3 c t lev) (U.la c).toNat s.toNat x) y) z).length=(U.la c).toNat:=(by rw[jny,jnz,jnx]);have r:z+1<=(U.la c).toNat:=(by omega);have o:(U.la c).toNat-(z+1)<(U.la c).toNat-z:=(by omega);refine⟨by omega,by show(y:Int)<((U.kC (U.J3 c t lev) x y (U.kd (U.J3 c t lev) (U.la c).toNat x (U.ze (U.J3 c t lev) (U.la c).toNat s.toNat x) y) z).length:Int);rw[b];omega,fun _=>by omega,fun _=>by show(z:Int)<((U.kC (U.J3 c t lev) x y (U.kd (U.J3 c t lev) (U.la c).toNat x (U.ze (U.J3 c t lev) (U.la c).toNat s.toNat x) y) z).length:Int);rw[b];omega,fun _=>j,fun _=>⟨by omega,e⟩,fun _=>⟨by omega,g⟩,fun a=> ?_,fun a=> ?_⟩
   .have a:((decide (nth (U.kC (U.J3 c t lev) x y (U.kd (U.J3 c t lev) (U.la c).toNat x (U.ze (U.J3 c t lev) (U.la c).toNat s.toNat x) y) z) y=(x:Int))&&decide (nth (U.kC (U.J3 c t lev) x y (U.kd (U.J3 c t lev) (U.la c).toNat x (U.ze (U.J3 c t lev) (U.la c).toNat s.toNat x) y) z) z<0))&&U.J3 c t lev y z)=true:=a;simp only[jFD,decide_eq_true_eq] at a;refine⟨L.in64 (by omega) (by omega),by omega,by show(z:Int)<((U.kC (U.J3 c t lev) x y (U.kd (U.J3 c t lev) (U.la c).toNat x (U.ze (U.J3 c t lev) (U.la c).toNat s.toNat x) y) z).length:Int);rw[b];omega,L.in64 (by omega) (by omega),z+1,⟨⟨trivial,by simp,trivial⟩,?_,trivial⟩,r,o⟩;show(U.kC (U.J3 c t lev) x y (U.kd (U.J3 c t lev) (U.la c).toNat x (U.ze (U.J3 c t lev) (U.la c).toNat s.toNat x) y) z).set z ((x:Int)+1)=U.kC (U.J3 c t lev) x y (U.kd (U.J3 c t lev) (U.la c).toNat x (U.ze (U.J3 c t lev) (U.la c).toNat s.toNat x) y) (z+1);rw[d];unfold U.jcv;rw[if_pos ⟨a.1.1,a.1.2,a.2⟩]
   .have a:((decide (nth (U.kC (U.J3 c t lev) x y (U.kd (U.J3 c t lev) (U.la c).toNat x (U.ze (U.J3 c t lev) (U.la c).toNat s.toNat x) y) z) y=(x:Int))&&decide (nth (U.kC (U.J3 c t lev) x y (U.kd (U.J3 c t lev) (U.la c).toNat x (U.ze (U.J3 c t lev) (U.la c).toNat s.toNat x) y) z) z<0))&&U.J3 c t lev y z)=false:=a;refine⟨L.in64 (by omega) (by omega),z+1,⟨⟨trivial,by simp,trivial⟩,?_,trivial⟩,r,o⟩;show U.kC (U.J3 c t lev) x y (U.kd (U.J3 c t lev) (U.la c).toNat x (U.ze (U.J3 c t lev) (U.la c).toNat s.toNat x) y) z=U.kC (U.J3 c t lev) x y (U.kd (U.J3 c t lev) (U.la c).toNat x (U.ze (U.J3 c t lev) (U.la c).toNat s.toNat x) y) (z+1);rw[d];unfold U.jcv;rw[if_neg (fun k=>by rw[decide_eq_true k.1,decide_eq_true k.2.1,k.2.2] at a;cases a)]
  .have e:(y:Int)<U.la c:=of_decide_eq_true e;have g:¬(z:Int)<U.la c:=of_decide_eq_false g;have q:z<=(U.la c).toNat:=q;have n:z=(U.la c).toNat:=(by omega);subst n;refine⟨L.in64 (by omega) (by omega),y+1,⟨⟨by simp,trivial,trivial⟩,?_,trivial⟩,by show y+1<=(U.la c).toNat;omega,by show(U.la c).toNat-(y+1)<(U.la c).toNat-y;omega⟩;exact(jpT (U.J3 c t lev) (U.la c).toNat x (U.ze (U.J3 c t lev) (U.la c).toNat s.toNat x) y).symm
  .have h:(x:Int)<U.la c:=of_decide_eq_true h;have e:¬(y:Int)<U.la c:=of_decide_eq_false e;have p:y<=(U.la c).toNat:=p;have m:y=(U.la c).toNat:=(by omega);subst m;refine⟨L.in64 (by omega) (by omega),x+1,⟨⟨by simp,trivial,trivial⟩,?_,trivial⟩,by show x+1<=(U.la c).toNat;omega,by show(U.la c).toNat-(x+1)<(U.la c).toNat-x;omega⟩;exact(jpQ (U.J3 c t lev) (U.la c).toNat s.toNat x).symm
  .have h:¬(x:Int)<U.la c:=of_decide_eq_false h;have i:x<=(U.la c).toNat:=i;have f:x=(U.la c).toNat:=(by omega);subst f;rfl
theorem jxH:zc PR 149 jwT:=kK jzu jAJ Tryz.func149 (kcC jrL kcN) koN
end Go.X
namespace Go.X
open Go.Proofs
theorem jj9 (c:CrD) (j:JbD) (t:Int) (n:Nat):U.jY c j t (n+1)=U.jsH c j t (U.jY c j t n) n:=by
 unfold U.jY;rw[jF5,jFX];rfl
theorem jqf {c:CrD} {j:JbD} {t:Int} {n:Nat} (h:U.jM t (n:Int)=false):U.jY c j t (n+1)=U.jY c j t n:=by
 rw[jj9];unfold U.jsH;rw[h,if_neg (by simp)]
theorem jDl {c:CrD} {j:JbD} {t:Int} {n:Nat} {a b d:Bool} (h:U.jM t (n:Int)=true) (e:U.vE (nth (U.je c) n) (U.jzH j)=a) (f:(!U.jM (U.fd (nth (U.je c) n)) (U.jrX j))=b) (g:(!U.jM (U.cl (nth (U.je c) n)) (U.jqw j))=d):
 U.jY c j t (n+1)=(U.jtp d (U.jtp b (U.jtp a (U.jY c j t n).1 1) 2) 4,(U.jY c j t n).2||U.jDa (nth (U.je c) n)):=by
 rw[jj9];unfold U.jsH;rw[if_pos h,e,f,g]
theorem jEA {c:CrD} {j:JbD} {t:Int} {a b d:Bool} (e:decide (BT.size t≠max (U.jAx j) (U.jCO (U.yd c j)))=a) (f:(U.jEO (U.yd c j)&& !U.jFa c j t)=b) (g:decide (nth (U.jb0 c t (U.jwi (U.yd c j)) (U.jqx j)) (U.jlG j).toNat<0)=d):
 U.jvW c j t=U.jtp d (U.jtp b (U.jtp a (U.jE9 c j t) 8) 16) 32:=by
 unfold U.jvW;rw[e,f,g]
theorem jsf:joc:=by
 unfold joc q108_11 q108_10 q108_9 q108_8 q108_6 q108_0 q108_7 q108_5 q108_4 q108_3 q108_2 q108_1;rintro⟨c,j,t,⟨⟩⟩ l u v;have l:U.jl c=true:=l;have u:U.jN c j=true:=u;have v:U.jxJ t:=v;have B:=(jx l).2.2.1;have d:=(jx l).2.2.2.1;obtain⟨r,s,f,k,_⟩:=jyc u;have q:0<=U.jrX j/\U.jrX j<=63:=(by omega);have i:0<=U.jqw j/\U.jqw j<=63:=(by omega);have A:BT.Set' t:=(by unfold U.jxJ at v;unfold BT.Set';omega);refine⟨k.1,by show U.jqw j<((U.kO c).length:Int);omega,⟨0,⟨⟨rfl,rfl,rfl,trivial⟩,trivial⟩,jFM _⟩,fun x y _=>⟨fun h=> ?_,fun h=> ?_⟩⟩
 .have h:(x:Int)<((U.je c).length:Int):=of_decide_eq_true h;have p:x+1<=(U.je c).length:=(by omega);have m:(U.je c).length-(x+1)<(U.je c).length-x:=(by omega);have i64:jz ((x:Int)+1):=L.in64 (by omega) (by omega);refine⟨⟨by omega,by omega⟩,fun b=> ?_,fun b=> ?_⟩
  .have b:(!U.jM t (x:Int))=true:=b;have e:=jqf (c:=c) (j:=j) (t:=t) (n:=x) (by simpa using b);exact⟨i64,x+1,⟨⟨congrArg (·.2) e.symm,congrArg (·.1) e.symm,by simp,trivial⟩,trivial⟩,p,m⟩
  .have b:(!U.jM t (x:Int))=false:=b;have b:U.jM t (x:Int)=true:=(by simpa using b);refine⟨by omega,h,fun o=>⟨q,fun a=>⟨i,fun d=> ?_,fun d=> ?_⟩,fun a=>⟨i,fun d=> ?_,fun d=> ?_⟩⟩,fun o=>⟨q,fun a=>⟨i,fun d=> ?_,fun d=> ?_⟩,fun a=>⟨i,fun d=> ?_,fun d=> ?_⟩⟩⟩
   all_goals
    have e:=jDl (c:=c) (j:=j) (t:=t) (n:=x) b o a d
    first
    |exact⟨i64,x+1,⟨⟨by simp,congrArg (·.2) e.symm,congrArg (·.1) e.symm,trivial⟩,trivial⟩,p,m⟩
    |exact⟨i64,x+1,⟨⟨congrArg (·.1) e.symm,by simp,congrArg (·.2) e.symm,trivial⟩,trivial⟩,p,m⟩
    |exact⟨i64,x+1,⟨⟨congrArg (·.2) e.symm,by simp,congrArg (·.1) e.symm,trivial⟩,trivial⟩,p,m⟩
    |exact⟨i64,x+1,⟨⟨congrArg (·.2) e.symm,congrArg (·.1) e.symm,by simp,trivial⟩,trivial⟩,p,m⟩
    |exact⟨i64,x+1,⟨⟨by simp,congrArg (·.1) e.symm,congrArg (·.2) e.symm,trivial⟩,trivial⟩,p,m⟩
    |exact⟨i64,x+1,⟨⟨congrArg (·.1) e.symm,congrArg (·.2) e.symm,by simp,trivial⟩,trivial⟩,p,m⟩
 .have h:¬(x:Int)<((U.je c).length:Int):=of_decide_eq_false h;have y:x<=(U.je c).length:=y;have w:x=(U.je c).length:=(by omega);subst w;have g:U.jlG j<((U.jb0 c t (U.jwi (U.yd c j)) (U.jqx j)).length:Int):=by
   unfold U.jb0;rw[jnx];omega
  refine⟨A,fun b=>⟨fun o=>⟨l,r,s.1,g,fun a=> ?_,fun a=> ?_⟩,fun o=>⟨l,r,s.1,g,fun a=> ?_,fun a=> ?_⟩⟩,fun b=>⟨fun o=>⟨l,r,s.1,g,fun a=> ?_,fun a=> ?_⟩,fun o=>⟨l,r,s.1,g,fun a=> ?_,fun a=> ?_⟩⟩⟩
  all_goals
   have e:=jEA (c:=c) (j:=j) (t:=t) b o a;exact congrArg (fun z=>(z,())) e.symm
theorem jph:zc PR 108 jox:=kK jqj jsf Tryz.func108 (kcC jbF (kcC jlt (kcC ju5 (kcC jxH kcN)))) koN
theorem ju6:zc PR 55 juH:=jR jyB Tryz.func55 (kcC jph kcN) koN
end Go.X
namespace Go.X
open Go.Proofs
theorem jAb (l:Int) (p:PeD):U.yI l p=(!(decide (((U.lv p).length:Int)≠l)|| !U.ja (U.fd p) 0 255|| !U.ja (U.cl p) 0 255||decide (10<((U.zw p).length:Int))|| !U.ja (U.fe p) 0 1000)&&((U.lv p).all (fun n=>U.ja n 0 5)&&(U.zw p).all (fun n=>U.ja n 0 99))):=by
 unfold U.yI;congr 1;rw[jF6];simp only[U.ja,jF9,jF3,decide_eq_false_iff_not,jGl,jFD,decide_eq_true_eq];omega
theorem jh9 (c:CrD):U.jl c=(!(!U.ja (U.la c) 2 5||decide (8<((U.je c).length:Int))||decide (((U.kO c).length:Int)≠4))&&((U.je c).all (U.yI (U.la c))&&(U.kO c).all U.gn)):=by
 unfold U.jl;congr 1;rw[jF6];simp only[U.ja,jF9,jF3,decide_eq_false_iff_not,jGl,jFD,decide_eq_true_eq];omega
theorem jgD {c:CrD} {x:Nat} (a:x<(U.je c).length) (h:U.yI (U.la c) (nth (U.je c) x)=false):U.jl c=false:=by
 have:(U.je c).all (U.yI (U.la c))=false:=jGD.2 ⟨_,L.mem_nth a,by rw[h];simp⟩;rw[jh9,this];simp
theorem jvO {c:CrD} {x:Nat} (a:x<(U.kO c).length) (h:U.gn (nth (U.kO c) x)=false):U.jl c=false:=by
 have:(U.kO c).all U.gn=false:=jGD.2 ⟨_,L.mem_nth a,by rw[h];simp⟩;rw[jh9,this];simp
theorem jaE {α:Type} [Inhabited α] {l:List α} {p:α->Bool} {x:Nat} (c:¬x<l.length) (h:∀j:Nat,j<x->p (nth l j)=true):l.all p=true:=by
 rw[jFW];intro a b;obtain⟨i,hi,rfl⟩:=L.mem_iff.1 b;exact h i (by omega)
theorem jbv {c:CrD} (h:U.jl c=false):(false,())=(U.jl c,()):=by rw[h]
theorem jsg:jod:=by
 unfold jod q101_7 q101_3 q101_6 q101_1 q101_5 q101_4 q101_2 q101_0;rintro⟨c,⟨⟩⟩ _ _;refine⟨fun h=> ?_,fun h=> ?_⟩
 .have h:(!U.ja (U.la c) 2 5||decide (8<((U.je c).length:Int))||decide (((U.kO c).length:Int)≠4))=true:=h;refine jbv (c:=c) ?_;rw[jh9,h];rfl
 have B:(!U.ja (U.la c) 2 5||decide (8<((U.je c).length:Int))||decide (((U.kO c).length:Int)≠4))=false:=h;clear h;refine⟨⟨0,⟨⟨rfl,trivial⟩,trivial⟩,jFM _,fun j k=>by omega⟩,fun x s r=>⟨fun h=> ?_,fun h=> ?_⟩⟩
 .have r:(U.je c).length<4611686018427387904:=r;have h:(x:Int)<((U.je c).length:Int):=of_decide_eq_true h;have m:x<(U.je c).length:=(by omega);refine⟨by omega,h,fun _ _=>⟨fun g=> ?_,fun g=> ?_⟩⟩
  .have g:(decide (((U.lv (nth (U.je c) x)).length:Int)≠U.la c)|| !U.ja (U.fd (nth (U.je c) x)) 0 255|| !U.ja (U.cl (nth (U.je c) x)) 0 255||decide (10<((U.zw (nth (U.je c) x)).length:Int))|| !U.ja (U.fe (nth (U.je c) x)) 0 1000)=true:=g;refine jbv (c:=c) (jgD m ?_);rw[jAb,g];rfl
  have g:(decide (((U.lv (nth (U.je c) x)).length:Int)≠U.la c)|| !U.ja (U.fd (nth (U.je c) x)) 0 255|| !U.ja (U.cl (nth (U.je c) x)) 0 255||decide (10<((U.zw (nth (U.je c) x)).length:Int))|| !U.ja (U.fe (nth (U.je c) x)) 0 1000)=false:=g;refine⟨⟨0,⟨⟨rfl,trivial⟩,trivial⟩,jFM _,fun j k=>by omega⟩,fun y q d=>⟨fun b=> ?_,fun b=> ?_⟩⟩
  .have d:(U.lv (nth (U.je c) x)).length<4611686018427387904:=d;have b:(y:Int)<((U.lv (nth (U.je c) x)).length:Int):=of_decide_eq_true b;refine⟨by omega,b,fun a=> ?_,fun a=>⟨L.in64 (by omega) (by omega),y+1,⟨⟨by simp,trivial⟩,trivial⟩,⟨by show y+1<=(U.lv (nth (U.je c) x)).length;omega,fun j k=> ?_⟩,by show(U.lv (nth (U.je c) x)).length-(y+1)<(U.lv (nth (U.je c) x)).length-y;omega⟩⟩
   .have a:(!U.ja (nth (U.lv (nth (U.je c) x)) y) 0 5)=true:=a;have a:U.ja (nth (U.lv (nth (U.je c) x)) y) 0 5=false:=(by simpa using a);refine jbv (c:=c) (jgD m ?_);have:(U.lv (nth (U.je c) x)).all (fun n=>U.ja n 0 5)=false:=jGD.2 ⟨_,L.mem_nth (l:=U.lv (nth (U.je c) x)) (i:=y) (by omega),by rw[a];simp⟩;rw[jAb,this];simp
   .have a:(!U.ja (nth (U.lv (nth (U.je c) x)) y) 0 5)=false:=a;by_cases e:j=y
    .subst e;exact(show U.ja (nth (U.lv (nth (U.je c) x)) j) 0 5=true by simpa using a)
    .exact q.2 j (by omega)
  have b:¬(y:Int)<((U.lv (nth (U.je c) x)).length:Int):=of_decide_eq_false b;have u:(U.lv (nth (U.je c) x)).all (fun n=>U.ja n 0 5)=true:=jaE (by omega) q.2;refine⟨⟨0,⟨⟨rfl,trivial⟩,trivial⟩,jFM _,fun j k=>by omega⟩,fun z t o=>⟨fun a=> ?_,fun a=> ?_⟩⟩
  .have o:(U.zw (nth (U.je c) x)).length<4611686018427387904:=o;have a:(z:Int)<((U.zw (nth (U.je c) x)).length:Int):=of_decide_eq_true a;refine⟨by omega,a,fun f=> ?_,fun f=>⟨L.in64 (by omega) (by omega),z+1,⟨⟨by simp,trivial⟩,trivial⟩,⟨by show z+1<=(U.zw (nth (U.je c) x)).length;omega,fun j k=> ?_⟩,by show(U.zw (nth (U.je c) x)).length-(z+1)<(U.zw (nth (U.je c) x)).length-z;omega⟩⟩
   .have f:(!U.ja (nth (U.zw (nth (U.je c) x)) z) 0 99)=true:=f;have f:U.ja (nth (U.zw (nth (U.je c) x)) z) 0 99=false:=(by simpa using f);refine jbv (c:=c) (jgD m ?_);have:(U.zw (nth (U.je c) x)).all (fun n=>U.ja n 0 99)=false:=jGD.2 ⟨_,L.mem_nth (l:=U.zw (nth (U.je c) x)) (i:=z) (by omega),by rw[f];simp⟩;rw[jAb,this];simp
   .have f:(!U.ja (nth (U.zw (nth (U.je c) x)) z) 0 99)=false:=f;by_cases e:j=z
    .subst e;exact(show U.ja (nth (U.zw (nth (U.je c) x)) j) 0 99=true by simpa using f)
    .exact t.2 j (by omega)
  have a:¬(z:Int)<((U.zw (nth (U.je c) x)).length:Int):=of_decide_eq_false a;have v:(U.zw (nth (U.je c) x)).all (fun n=>U.ja n 0 99)=true:=jaE (by omega) t.2;refine⟨L.in64 (by omega) (by omega),x+1,⟨⟨by simp,trivial⟩,trivial⟩,⟨by show x+1<=(U.je c).length;omega,fun j k=> ?_⟩,by show(U.je c).length-(x+1)<(U.je c).length-x;omega⟩;by_cases e:j=x
  .subst e;show U.yI (U.la c) (nth (U.je c) j)=true;rw[jAb,g,u,v];rfl
  .exact s.2 j (by omega)
 have h:¬(x:Int)<((U.je c).length:Int):=of_decide_eq_false h;have A:(U.je c).all (U.yI (U.la c))=true:=jaE (by omega) s.2;refine⟨⟨0,⟨⟨rfl,trivial⟩,trivial⟩,jFM _,fun j k=>by omega⟩,fun y q d=>⟨fun b=> ?_,fun b=> ?_⟩⟩
 .have d:(U.kO c).length<4611686018427387904:=d;have b:(y:Int)<((U.kO c).length:Int):=of_decide_eq_true b;have p:U.gn (nth (U.kO c) y)= !(!U.ja (U.jwi (nth (U.kO c) y)) 1 5|| !U.ja (U.jCO (nth (U.kO c) y)) 1 8):=by
   unfold U.gn;rw[Bool.not_or,Bool.not_not,Bool.not_not]
  refine⟨by omega,b,fun _=>by omega,fun _=>b,fun a=> ?_,fun a=>⟨L.in64 (by omega) (by omega),y+1,⟨⟨by simp,trivial⟩,trivial⟩,⟨by show y+1<=(U.kO c).length;omega,fun j k=> ?_⟩,by show(U.kO c).length-(y+1)<(U.kO c).length-y;omega⟩⟩
  .have a:(!U.ja (U.jwi (nth (U.kO c) y)) 1 5|| !U.ja (U.jCO (nth (U.kO c) y)) 1 8)=true:=a;exact jbv (c:=c) (jvO (x:=y) (by omega) (by rw[p,a];rfl))
  .have a:(!U.ja (U.jwi (nth (U.kO c) y)) 1 5|| !U.ja (U.jCO (nth (U.kO c) y)) 1 8)=false:=a;by_cases e:j=y
   .subst e;show U.gn (nth (U.kO c) j)=true;rw[p,a];rfl
   .exact q.2 j (by omega)
 .have b:¬(y:Int)<((U.kO c).length:Int):=of_decide_eq_false b;have w:(U.kO c).all U.gn=true:=jaE (by omega) q.2;show(true,())=(U.jl c,());rw[jh9,B,A,w];rfl
theorem jgW:zc PR 49 joy:=kK jqk jsg Tryz.func49 (kcC jgV kcN) koN
end Go.X
namespace Go.X
open Go.Proofs
def jov:jQ:=⟨[.val .int,.val .int,.val .int],[.bool],false,fun _=>[],fun d=>(U.ja d.1 d.2.1 d.2.2.1,())⟩
def joa:Prop:=∀(d:Int×Int×Int×Unit),(decide (d.2.1<=d.1)&&decide (d.1<=d.2.2.1),())=(U.ja d.1 d.2.1 d.2.2.1,())
def jiE:jQ:=⟨[.val tDy,.val .int],[.bool],false,fun _=>[],fun d=>(U.jyh d.1 d.2.1,())⟩
def jir:Prop:=∀(d:DyD×Int×Unit),d.1.2.2.1.length<4611686018427387904->jz ((d.1.2.2.1.length:Int)-1)/\(U.ja d.2.1 (0:Int) ((d.1.2.2.1.length:Int)-1),())=(U.jyh d.1 d.2.1,())
def jkC:jQ:=⟨[.val tDy,.val .int],[.bool],false,fun _=>[],fun d=>(U.jps d.1 d.2.1,())⟩
def jkt:Prop:=∀(d:DyD×Int×Unit),d.1.1.2.1.length<4611686018427387904->jz ((d.1.1.2.1.length:Int)-1)/\(U.ja d.2.1 (0:Int) ((d.1.1.2.1.length:Int)-1),())=(U.jps d.1 d.2.1,())
def jq6:jQ:=⟨[.val tDy],[.bool],false,fun _=>[],fun d=>(U.zC d.1,())⟩
def jsP:Ann:=fun r=>match r with
 |4=>some fun σ=>{X:=Nat,sl:=fun i=>[(3,.dat .int (i:Int))],ob:=fun _=>[],inv:=fun i=>i<=(U.jK (gb tDy σ 1)).length/\∀j:Nat,j<i->U.vN (U.jK (gb tDy σ 1)).length (nth (U.jK (gb tDy σ 1)) j)=true,mu:=fun i=>(U.jK (gb tDy σ 1)).length-i}
 |9=>some fun σ=>{X:=Nat,sl:=fun i=>[(4,.dat .int (i:Int))],ob:=fun _=>[],inv:=fun i=>i<=(nth (U.jK (gb tDy σ 1)) (gd .int σ 3).toNat).length/\∀j:Nat,j<i->U.je8 (nth (nth (U.jK (gb tDy σ 1)) (gd .int σ 3).toNat) j)=true,mu:=fun i=>(nth (U.jK (gb tDy σ 1)) (gd .int σ 3).toNat).length-i}
 |15=>some fun σ=>{X:=Nat,sl:=fun i=>[(6,.dat .int (i:Int))],ob:=fun _=>[],inv:=fun i=>i<=(U.jq (gb tDy σ 1)).length/\∀j:Nat,j<i->U.jcR (U.jK (gb tDy σ 1)).length (nth (U.jq (gb tDy σ 1)) j)=true,mu:=fun i=>(U.jq (gb tDy σ 1)).length-i}
 |21=>some fun σ=>{X:=Nat,sl:=fun i=>[(8,.dat .int (i:Int))],ob:=fun _=>[],inv:=fun i=>i<=(U.kR (gb tDy σ 1)).length/\∀j:Nat,j<i->U.jbG (U.jq (gb tDy σ 1)).length (U.je (U.jd (gb tDy σ 1))).length (nth (U.kR (gb tDy σ 1)) j)=true,mu:=fun i=>(U.kR (gb tDy σ 1)).length-i}
 |_=>none
abbrev q114_4 (d:DyD×Unit)(x:Nat):=(nth d.1.2.1 (x:Int).toNat)
abbrev q114_2 (d:DyD×Unit)(x:Nat)(a:Nat):=(decide ((nth (q114_4 d x) (a:Int).toNat).1<0)||decide ((nth (q114_4 d x) (a:Int).toNat).2.1<(nth (q114_4 d x) (a:Int).toNat).1)||decide ((300:Int)<(nth (q114_4 d x) (a:Int).toNat).2.1))
abbrev q114_5 (d:DyD×Unit)(x:Nat):=(nth (U.jK d.1) (x:Int).toNat)
abbrev q114_6 (d:DyD×Unit):=(d.1.2.1.length:Int)
abbrev q114_7 (d:DyD×Unit)(x:Nat):=(nth d.1.2.2.2.2.2.1 (x:Int).toNat)
abbrev q114_0 (d:DyD×Unit)(x:Nat):=(!U.ja (q114_7 d x).1 (0:Int) (99:Int)|| !U.ja (q114_7 d x).2.1 (0:Int) (9999:Int)|| !U.ja (q114_7 d x).2.2.1 (1:Int) (2:Int)|| !U.jyh d.1 (q114_7 d x).2.2.2.1|| !U.jps d.1 (q114_7 d x).2.2.2.2.1)
abbrev q114_8 (d:DyD×Unit):=(d.1.2.2.1.length:Int)
abbrev q114_9 (x:Nat)(a:Nat):=(((x:Int)+1=(a:Int)/\True)/\True)
abbrev q114_10 (d:DyD×Unit)(x:Nat):=(nth d.1.2.2.1 (x:Int).toNat)
abbrev q114_1 (d:DyD×Unit)(x:Nat):=(!U.ja (q114_10 d x).2.1 (0:Int) ((q114_6 d)-1)||decide ((q114_10 d x).2.2.1<0)||decide ((q114_10 d x).2.2.2.1<=(q114_10 d x).2.2.1)||decide ((1440:Int)<(q114_10 d x).2.2.2.1))
abbrev q114_11 (d:DyD×Unit)(x:Nat):=(↑(q114_4 d x).length:Int)
abbrev q114_12 (d:DyD×Unit):=(d.1.2.2.2.2.2.1.length:Int)
abbrev q114_3 (d:DyD×Unit):=(decide (4<(q114_8 d))|| !U.ja (q114_6 d) (1:Int) (5:Int)|| !U.ja d.1.2.2.2.1 (0:Int) (300:Int)|| !U.ja d.1.2.2.2.2.1 (0:Int) (1440:Int)||decide (30<(q114_12 d)))
abbrev q114_13 (x:Nat):=((0=(x:Int)/\True)/\True)
def jqI:Prop:=∀(d:DyD×Unit),d.1.2.2.1.length<4611686018427387904->((!decide (4<(q114_8 d)))=true->d.1.2.1.length<4611686018427387904)->((!(decide (4<(q114_8 d))|| !U.ja (q114_6 d) (1:Int) (5:Int)|| !U.ja d.1.2.2.2.1 (0:Int) (300:Int)|| !U.ja d.1.2.2.2.2.1 (0:Int) (1440:Int)))=true->d.1.2.2.2.2.2.1.length<4611686018427387904)->((q114_3 d)=true->(false,())=(U.zC d.1,()))/\((q114_3 d)=false->(∃(x:Nat),(q114_13 x)/\x<=(U.jK d.1).length/\∀(j:Nat),j<x->U.vN (U.jK d.1).length (nth (U.jK d.1) j)=true)/\∀(x:Nat),(x<=(U.jK d.1).length/\∀(j:Nat),j<x->U.vN (U.jK d.1).length (nth (U.jK d.1) j)=true)->d.1.2.1.length<4611686018427387904->(decide ((x:Int)<(q114_6 d))=true->0<=(x:Int)/\(x:Int)<(q114_6 d)/\(decide ((q114_11 d x)≠(q114_6 d))=true->(false,())=(U.zC d.1,()))/\(decide ((q114_11 d x)≠(q114_6 d))=false->(∃(a:Nat),((0=(a:Int)/\True)/\True)/\a<=(q114_5 d x).length/\∀(j:Nat),j<a->U.je8 (nth (q114_5 d x) j)=true)/\∀(a:Nat),(a<=(q114_5 d x).length/\∀(j:Nat),j<a->U.je8 (nth (q114_5 d x) j)=true)->0<=(x:Int)/\(x:Int)<(q114_6 d)/\((q114_4 d x).length<4611686018427387904->(decide ((a:Int)<(q114_11 d x))=true->0<=(x:Int)/\(x:Int)<(q114_6 d)/\0<=(a:Int)/\(a:Int)<(q114_11 d x)/\((q114_2 d x a)=true->(false,())=(U.zC d.1,()))/\((q114_2 d x a)=false->jz ((a:Int)+1)/\∃(b:Nat),(((a:Int)+1=(b:Int)/\True)/\True)/\(b<=(q114_5 d x).length/\∀(j:Nat),j<b->U.je8 (nth (q114_5 d x) j)=true)/\(q114_5 d x).length-b<(q114_5 d x).length-a))/\(decide ((a:Int)<(q114_11 d x))=false->jz ((x:Int)+1)/\∃(b:Nat),(q114_9 x b)/\(b<=(U.jK d.1).length/\∀(j:Nat),j<b->U.vN (U.jK d.1).length (nth (U.jK d.1) j)=true)/\(U.jK d.1).length-b<(U.jK d.1).length-x))))/\(decide ((x:Int)<(q114_6 d))=false->(∃(x:Nat),(q114_13 x)/\x<=(U.jq d.1).length/\∀(j:Nat),j<x->U.jcR (U.jK d.1).length (nth (U.jq d.1) j)=true)/\∀(x:Nat),(x<=(U.jq d.1).length/\∀(j:Nat),j<x->U.jcR (U.jK d.1).length (nth (U.jq d.1) j)=true)->d.1.2.2.1.length<4611686018427387904->(decide ((x:Int)<(q114_8 d))=true->0<=(x:Int)/\(x:Int)<(q114_8 d)/\(d.1.2.1.length<4611686018427387904->jz ((q114_6 d)-1)/\((q114_1 d x)=true->(false,())=(U.zC d.1,()))/\((q114_1 d x)=false->jz ((x:Int)+1)/\∃(b:Nat),(q114_9 x b)/\(b<=(U.jq d.1).length/\∀(j:Nat),j<b->U.jcR (U.jK d.1).length (nth (U.jq d.1) j)=true)/\(U.jq d.1).length-b<(U.jq d.1).length-x)))/\(decide ((x:Int)<(q114_8 d))=false->(∃(x:Nat),(q114_13 x)/\x<=(U.kR d.1).length/\∀(j:Nat),j<x->U.jbG (U.jq d.1).length (U.je (U.jd d.1)).length (nth (U.kR d.1) j)=true)/\∀(x:Nat),(x<=(U.kR d.1).length/\∀(j:Nat),j<x->U.jbG (U.jq d.1).length (U.je (U.jd d.1)).length (nth (U.kR d.1) j)=true)->d.1.2.2.2.2.2.1.length<4611686018427387904->(decide ((x:Int)<(q114_12 d))=true->0<=(x:Int)/\(x:Int)<(q114_12 d)/\((q114_0 d x)=true->(false,())=(U.zC d.1,()))/\((q114_0 d x)=false->jz ((x:Int)+1)/\∃(b:Nat),(q114_9 x b)/\(b<=(U.kR d.1).length/\∀(j:Nat),j<b->U.jbG (U.jq d.1).length (U.je (U.jd d.1)).length (nth (U.kR d.1) j)=true)/\(U.kR d.1).length-b<(U.kR d.1).length-x))/\(decide ((x:Int)<(q114_12 d))=false->(true,())=(U.zC d.1,())))))
def jq5:jQ:=⟨[.val (.slice tSh)],[.bool],false,fun d=>[d.1.length<=1000000],fun d=>(U.vj d.1,())⟩
def jsO:Ann:=fun r=>match r with
 |2=>some fun σ=>{X:=Nat,sl:=fun i=>[(3,.dat .int (i:Int))],ob:=fun _=>[],inv:=fun i=>i<=(gd (.slice tSh) σ 0).length/\U.w4 (gd (.slice tSh) σ 0) i=false,mu:=fun i=>(gd (.slice tSh) σ 0).length-i}
 |5=>some fun σ=>{X:=Nat,sl:=fun i=>[(4,.dat .int (i:Int))],ob:=fun _=>[],inv:=fun i=>i<=(gd .int σ 3).toNat/\∀j:Nat,j<i->U.jj1 (nth (gd (.slice tSh) σ 0) (gd .int σ 3).toNat) (nth (gd (.slice tSh) σ 0) j)=false,mu:=fun i=>(gd .int σ 3).toNat-i}
 |_=>none
abbrev q115_0 (d:List ShD×Unit)(x:Nat)(a:Nat):=((nth d.1 (x:Int).toNat).1=(nth d.1 (a:Int).toNat).1)
def jqH:Prop:=∀(d:List ShD×Unit),d.1.length<=1000000->(∃(x:Nat),((0=(x:Int)/\True)/\True)/\x<=d.1.length/\U.w4 d.1 x=false)/\∀(x:Nat),x<=d.1.length/\U.w4 d.1 x=false->d.1.length<4611686018427387904->(decide ((x:Int)<(d.1.length:Int))=true->(∃(a:Nat),((0=(a:Int)/\True)/\True)/\a<=(x:Int).toNat/\∀(j:Nat),j<a->U.jj1 (nth d.1 (x:Int).toNat) (nth d.1 j)=false)/\∀(a:Nat),(a<=(x:Int).toNat/\∀(j:Nat),j<a->U.jj1 (nth d.1 (x:Int).toNat) (nth d.1 j)=false)->(decide ((a:Int)<(x:Int))=true->0<=(x:Int)/\(x:Int)<(d.1.length:Int)/\0<=(a:Int)/\(a:Int)<(d.1.length:Int)/\(decide (q115_0 d x a)=true->0<=(x:Int))/\(decide (q115_0 d x a)=true->(x:Int)<(d.1.length:Int))/\(decide (q115_0 d x a)=true->0<=(a:Int))/\(decide (q115_0 d x a)=true->(a:Int)<(d.1.length:Int))/\((decide (q115_0 d x a)&& !decide (nth d.1 (x:Int).toNat=nth d.1 (a:Int).toNat))=true->(true,())=(U.vj d.1,()))/\((decide (q115_0 d x a)&& !decide (nth d.1 (x:Int).toNat=nth d.1 (a:Int).toNat))=false->jz ((a:Int)+1)/\∃(b:Nat),(((a:Int)+1=(b:Int)/\True)/\True)/\(b<=(x:Int).toNat/\∀(j:Nat),j<b->U.jj1 (nth d.1 (x:Int).toNat) (nth d.1 j)=false)/\(x:Int).toNat-b<(x:Int).toNat-a))/\(decide ((a:Int)<(x:Int))=false->jz ((x:Int)+1)/\∃(b:Nat),(((x:Int)+1=(b:Int)/\True)/\True)/\(b<=d.1.length/\U.w4 d.1 b=false)/\d.1.length-b<d.1.length-x))/\(decide ((x:Int)<(d.1.length:Int))=false->(false,())=(U.vj d.1,()))
def jq7:jQ:=⟨[.val tDy],[.int],false,fun d=>[(U.jq d.1).length<=1000000],fun d=>(U.yu d.1,())⟩
def jsQ:Ann:=fun r=>match r with
 |4=>some fun σ=>{X:=Nat,sl:=fun i=>[(3,.dat .int (i:Int))],ob:=fun _=>[],inv:=fun i=>i<=(U.jq (gb tDy σ 1)).length/\∀j:Nat,j<i->U.jN (U.jd (gb tDy σ 1)) (U.vz (nth (U.jq (gb tDy σ 1)) j))=true,mu:=fun i=>(U.jq (gb tDy σ 1)).length-i}
 |_=>none
def jqJ:Prop:=∀(d:DyD×Unit),(U.jq d.1).length<=1000000->((!U.jl d.1.1)=true->((30:Int),())=(U.yu d.1,()))/\((!U.jl d.1.1)=false->(∃(x:Nat),((0=(x:Int)/\True)/\True)/\x<=(U.jq d.1).length/\∀(j:Nat),j<x->U.jN (U.jd d.1) (U.vz (nth (U.jq d.1) j))=true)/\∀(x:Nat),(x<=(U.jq d.1).length/\∀(j:Nat),j<x->U.jN (U.jd d.1) (U.vz (nth (U.jq d.1) j))=true)->d.1.2.2.1.length<4611686018427387904->(decide ((x:Int)<(d.1.2.2.1.length:Int))=true->0<=(x:Int)/\(x:Int)<(d.1.2.2.1.length:Int)/\U.jl d.1.1=true/\((!U.jN d.1.1 (nth d.1.2.2.1 (x:Int).toNat).1)=true->((31:Int),())=(U.yu d.1,()))/\((!U.jN d.1.1 (nth d.1.2.2.1 (x:Int).toNat).1)=false->jz ((x:Int)+1)/\∃(a:Nat),(((x:Int)+1=(a:Int)/\True)/\True)/\(a<=(U.jq d.1).length/\∀(j:Nat),j<a->U.jN (U.jd d.1) (U.vz (nth (U.jq d.1) j))=true)/\(U.jq d.1).length-a<(U.jq d.1).length-x))/\(decide ((x:Int)<(d.1.2.2.1.length:Int))=false->((!U.zC d.1)=true->((50:Int),())=(U.yu d.1,()))/\((!U.zC d.1)=false->d.1.2.2.2.2.2.1.length<=1000000/\(U.vj d.1.2.2.2.2.2.1=true->((51:Int),())=(U.yu d.1,()))/\(U.vj d.1.2.2.2.2.2.1=false->((0:Int),())=(U.yu d.1,())))))
def jkB:jQ:=⟨[.val tDy,.val .int,.val .int],[.bool],false,fun d=>[U.ja5 d.1,U.qb d.1 d.2.1,U.qb d.1 d.2.2.1],fun d=>(U.jG d.1 d.2.1 d.2.2.1,())⟩
abbrev q117_0 (d:DyD×Int×Int×Unit):=(nth d.1.2.2.1 d.2.2.1.toNat)
abbrev q117_1 (d:DyD×Int×Int×Unit):=(nth d.1.2.2.1 d.2.1.toNat)
abbrev q117_2 (d:DyD×Int×Int×Unit):=((q117_0 d).2.2.1<(q117_1 d).2.2.1)
abbrev q117_3 (d:DyD×Int×Int×Unit):=(d.1.2.2.1.length:Int)
abbrev q117_4 (d:DyD×Int×Int×Unit):=(decide (q117_2 d)||decide ((q117_0 d).2.2.1=(q117_1 d).2.2.1)&&decide (d.2.2.1<d.2.1))
def jks:Prop:=∀(d:DyD×Int×Int×Unit),U.ja5 d.1->U.qb d.1 d.2.1->U.qb d.1 d.2.2.1->0<=d.2.2.1/\d.2.2.1<(q117_3 d)/\0<=d.2.1/\d.2.1<(q117_3 d)/\((!decide (q117_2 d))=true->0<=d.2.2.1)/\((!decide (q117_2 d))=true->d.2.2.1<(q117_3 d))/\((!decide (q117_2 d))=true->0<=d.2.1)/\((!decide (q117_2 d))=true->d.2.1<(q117_3 d))/\((q117_4 d)=true->0<=d.2.2.1/\d.2.2.1<(q117_3 d)/\0<=d.2.1/\d.2.1<(q117_3 d)/\jz ((q117_0 d).2.2.2.1+d.1.2.2.2.1)/\(0:Int)<=(q117_0 d).2.1/\(q117_0 d).2.1<(d.1.2.1.length:Int)/\(0:Int)<=(q117_1 d).2.1/\(q117_1 d).2.1<(↑(nth d.1.2.1 (q117_0 d).2.1.toNat).length:Int)/\jz ((q117_0 d).2.2.2.1+d.1.2.2.2.1+(nth (nth d.1.2.1 (q117_0 d).2.1.toNat) (q117_1 d).2.1.toNat).2.1)/\(decide ((q117_0 d).2.2.2.1+d.1.2.2.2.1+(nth (nth d.1.2.1 (q117_0 d).2.1.toNat) (q117_1 d).2.1.toNat).2.1<=(q117_1 d).2.2.1),())=(U.jG d.1 d.2.1 d.2.2.1,()))/\((q117_4 d)=false->0<=d.2.1/\d.2.1<(q117_3 d)/\0<=d.2.2.1/\d.2.2.1<(q117_3 d)/\jz ((q117_1 d).2.2.2.1+d.1.2.2.2.1)/\(0:Int)<=(q117_1 d).2.1/\(q117_1 d).2.1<(d.1.2.1.length:Int)/\(0:Int)<=(q117_0 d).2.1/\(q117_0 d).2.1<(↑(nth d.1.2.1 (q117_1 d).2.1.toNat).length:Int)/\jz ((q117_1 d).2.2.2.1+d.1.2.2.2.1+(nth (nth d.1.2.1 (q117_1 d).2.1.toNat) (q117_0 d).2.1.toNat).2.1)/\(decide ((q117_1 d).2.2.2.1+d.1.2.2.2.1+(nth (nth d.1.2.1 (q117_1 d).2.1.toNat) (q117_0 d).2.1.toNat).2.1<=(q117_0 d).2.2.1),())=(U.jG d.1 d.2.1 d.2.2.1,()))
def jzX:jQ:=⟨[.val (.slice .int),.val .int],[.slice .int],false,fun d=>[d.1.length<=1000,0<=d.2.1/\d.2.1<=63],fun d=>(U.on d.1 d.2.1,())⟩
def jBk:Ann:=fun r=>match r with
 |3=>some fun σ=>{X:=Nat,sl:=fun i=>[(6,.dat .int (i:Int)),(5,.own 5 .int)],ob:=fun i=>[(5,some (.row 3 .int false .yes (U.ja2 (gd (.slice .int) σ 0) (gd .int σ 1) i)))],inv:=fun i=>i<=(gd (.slice .int) σ 0).length,mu:=fun i=>(gd (.slice .int) σ 0).length-i}
 |_=>none
def jzM:Prop:=∀(d:List Int×Int×Unit),d.1.length<=1000->0<=d.2.1/\d.2.1<=63->(∃(x:Nat),((0=(x:Int)/\True/\True)/\U.ja2 d.1 d.2.1 x=[]/\True)/\x<=d.1.length)/\∀(x:Nat),x<=d.1.length->d.1.length<4611686018427387904->(decide ((x:Int)<(d.1.length:Int))=true->0<=(x:Int)/\(x:Int)<(d.1.length:Int)/\(0<=d.2.1/\d.2.1<=63)/\(U.jM (nth d.1 (x:Int).toNat) d.2.1=true->((U.ja2 d.1 d.2.1 x).length+[(x:Int)].length)*8<=140737488355328/\jz ((x:Int)+1)/\∃(a:Nat),(((x:Int)+1=(a:Int)/\True/\True)/\U.ja2 d.1 d.2.1 x++[(x:Int)]=U.ja2 d.1 d.2.1 a/\True)/\a<=d.1.length/\d.1.length-a<d.1.length-x)/\(U.jM (nth d.1 (x:Int).toNat) d.2.1=false->jz ((x:Int)+1)/\∃(a:Nat),((True/\(x:Int)+1=(a:Int)/\True)/\U.ja2 d.1 d.2.1 x=U.ja2 d.1 d.2.1 a/\True)/\a<=d.1.length/\d.1.length-a<d.1.length-x))/\(decide ((x:Int)<(d.1.length:Int))=false->(U.ja2 d.1 d.2.1 x,())=(U.on d.1 d.2.1,()))
def jq8:jQ:=⟨[.val tDy,.val .int,.val (.slice .int)],[.bool],false,fun d=>[U.ja5 d.1,U.jnU d.1 d.2.1,U.jhI d.1 d.2.2.1],fun d=>(U.ky d.1 d.2.1 d.2.2.1,())⟩
def jsR:Ann:=fun r=>match r with
 |3=>some fun σ=>{X:=Nat,sl:=fun i=>[(8,.dat .int (i:Int)),(7,.dat .int (U.zX (gb tDy σ 3) (gd (.slice .int) σ 2) i))],ob:=fun _=>[],inv:=fun i=>i<=(gd (.slice .int) σ 2).length/\(∀j:Nat,j<i->U.j7 (U.jd (gb tDy σ 3)) (U.vz (U.bk (gb tDy σ 3) (nth (gd (.slice .int) σ 2) j))) (gd .int σ 1)=true)/\∀j:Nat,j<i->∀m:Nat,m<j->U.jG (gb tDy σ 3) (nth (gd (.slice .int) σ 2) j) (nth (gd (.slice .int) σ 2) m)=true,mu:=fun i=>(gd (.slice .int) σ 2).length-i}
 |10=>some fun σ=>{X:=Nat,sl:=fun i=>[(10,.dat .int (i:Int))],ob:=fun _=>[],inv:=fun i=>i<=(gd .int σ 8).toNat/\∀m:Nat,m<i->U.jG (gb tDy σ 3) (nth (gd (.slice .int) σ 2) (gd .int σ 8).toNat) (nth (gd (.slice .int) σ 2) m)=true,mu:=fun i=>(gd .int σ 8).toNat-i}
 |_=>none
abbrev q119_1 (d:DyD×Int×List Int×Unit)(x:Nat):=(nth d.2.2.1 (x:Int).toNat)
abbrev q119_0 (d:DyD×Int×List Int×Unit)(x:Nat):=(nth d.1.2.2.1 (q119_1 d x).toNat)
def jqK:Prop:=∀(d:DyD×Int×List Int×Unit),U.ja5 d.1->U.jnU d.1 d.2.1->U.jhI d.1 d.2.2.1->(∃(x:Nat),((0=(x:Int)/\0=U.zX d.1 d.2.2.1 x/\True)/\True)/\x<=d.2.2.1.length/\(∀(j:Nat),j<x->U.j7 (U.jd d.1) (U.vz (U.bk d.1 (nth d.2.2.1 j))) d.2.1=true)/\∀(j:Nat),j<x->∀(m:Nat),m<j->U.jG d.1 (nth d.2.2.1 j) (nth d.2.2.1 m)=true)/\∀(x:Nat),(x<=d.2.2.1.length/\(∀(j:Nat),j<x->U.j7 (U.jd d.1) (U.vz (U.bk d.1 (nth d.2.2.1 j))) d.2.1=true)/\∀(j:Nat),j<x->∀(m:Nat),m<j->U.jG d.1 (nth d.2.2.1 j) (nth d.2.2.1 m)=true)->d.2.2.1.length<4611686018427387904->(decide ((x:Int)<(d.2.2.1.length:Int))=true->0<=(x:Int)/\(x:Int)<(d.2.2.1.length:Int)/\0<=nth d.2.2.1 (x:Int).toNat/\nth d.2.2.1 (x:Int).toNat<(d.1.2.2.1.length:Int)/\(0<=d.2.1/\d.2.1<(↑(U.je d.1.1).length:Int))/\U.jN d.1.1 (q119_0 d x).1=true/\((!U.j7 d.1.1 (q119_0 d x).1 d.2.1)=true->(false,())=(U.ky d.1 d.2.1 d.2.2.1,()))/\((!U.j7 d.1.1 (q119_0 d x).1 d.2.1)=false->jz ((q119_0 d x).2.2.2.1-(q119_0 d x).2.2.1)/\jz (U.zX d.1 d.2.2.1 x+((q119_0 d x).2.2.2.1-(q119_0 d x).2.2.1))/\(∃(a:Nat),((0=(a:Int)/\True)/\True)/\a<=(x:Int).toNat/\∀(m:Nat),m<a->U.jG d.1 (q119_1 d x) (nth d.2.2.1 m)=true)/\∀(a:Nat),(a<=(x:Int).toNat/\∀(m:Nat),m<a->U.jG d.1 (q119_1 d x) (nth d.2.2.1 m)=true)->(decide ((a:Int)<(x:Int))=true->0<=(x:Int)/\(x:Int)<(d.2.2.1.length:Int)/\0<=(a:Int)/\(a:Int)<(d.2.2.1.length:Int)/\U.ja5 d.1/\U.qb d.1 (q119_1 d x)/\U.qb d.1 (nth d.2.2.1 (a:Int).toNat)/\((!U.jG d.1 (q119_1 d x) (nth d.2.2.1 (a:Int).toNat))=true->(false,())=(U.ky d.1 d.2.1 d.2.2.1,()))/\((!U.jG d.1 (q119_1 d x) (nth d.2.2.1 (a:Int).toNat))=false->jz ((a:Int)+1)/\∃(b:Nat),(((a:Int)+1=(b:Int)/\True)/\True)/\(b<=(x:Int).toNat/\∀(m:Nat),m<b->U.jG d.1 (q119_1 d x) (nth d.2.2.1 m)=true)/\(x:Int).toNat-b<(x:Int).toNat-a))/\(decide ((a:Int)<(x:Int))=false->jz ((x:Int)+1)/\∃(b:Nat),(((x:Int)+1=(b:Int)/\U.zX d.1 d.2.2.1 x+((q119_0 d x).2.2.2.1-(q119_0 d x).2.2.1)=U.zX d.1 d.2.2.1 b/\True)/\True)/\(b<=d.2.2.1.length/\(∀(j:Nat),j<b->U.j7 (U.jd d.1) (U.vz (U.bk d.1 (nth d.2.2.1 j))) d.2.1=true)/\∀(j:Nat),j<b->∀(m:Nat),m<j->U.jG d.1 (nth d.2.2.1 j) (nth d.2.2.1 m)=true)/\d.2.2.1.length-b<d.2.2.1.length-x)))/\(decide ((x:Int)<(d.2.2.1.length:Int))=false->(decide (U.zX d.1 d.2.2.1 x<=d.1.2.2.2.2.1),())=(U.ky d.1 d.2.1 d.2.2.1,()))
end Go.X
namespace Go.X
open Go.Proofs
theorem jsd:joa:=by
 rintro⟨n,a,b,⟨⟩⟩;rfl
theorem jbE:zc PR 103 jov:=jR jsd Tryz.func103 kcN koN
theorem jkY:jir:=by
 rintro⟨d,n,⟨⟩⟩ a;have a:(U.jq d).length<4611686018427387904:=a;exact⟨by show jz (((U.jq d).length:Int)-1);exact L.in64 (by omega) (by omega),rfl⟩
theorem ji6:zc PR 104 jiE:=jR jkY Tryz.func104 (kcC jbE kcN) koN
theorem jnm:jkt:=by
 rintro⟨d,n,⟨⟩⟩ a;have a:(U.je (U.jd d)).length<4611686018427387904:=a;exact⟨by show jz (((U.je (U.jd d)).length:Int)-1);exact L.in64 (by omega) (by omega),rfl⟩
theorem jkP:zc PR 60 jkC:=jR jnm Tryz.func60 (kcC jbE kcN) koN
theorem jqc (l:List ShD) (n:Nat):U.w4 l (n+1)=(U.w4 l n||U.jia l n):=by
 unfold U.w4;rw[jF5,List.any_append];simp
theorem jnF {l:List ShD} {i:Nat} (h:∀j:Nat,j<i->U.jj1 (nth l i) (nth l j)=false) (hi:i<=l.length):U.jia l i=false:=by
 unfold U.jia;rw[jGo];intro s a;rw[jGh] at a;obtain⟨j,b,rfl⟩:=a;have:=h j (by omega);rw[L.nth_lt (l:=l) (i:=j) (by omega)] at this;simpa using this
theorem jvQ {l:List ShD} {i j:Nat} (hi:i<l.length) (a:j<i) (h:U.jj1 (nth l i) (nth l j)=true):U.vj l=true:=by
 unfold U.vj U.w4 U.jia;rw[jGk];refine⟨i,jFP.2 hi,?_⟩;rw[jGk];refine⟨nth l j,?_,h⟩;rw[jGh];exact⟨j,by omega,(L.nth_lt (by omega)).symm⟩
theorem jvn:jqH:=by
 unfold jqH q115_0;rintro⟨l,⟨⟩⟩ k;have k:l.length<=1000000:=k;refine⟨⟨0,⟨⟨rfl,trivial⟩,trivial⟩,jFM _,rfl⟩,fun x m _=>⟨fun h=> ?_,fun h=> ?_⟩⟩
 .have h:(x:Int)<(l.length:Int):=of_decide_eq_true h;obtain⟨_,a⟩:x<=l.length/\U.w4 l x=false:=m;refine⟨⟨0,⟨⟨rfl,trivial⟩,trivial⟩,jFM _,fun j o=>by omega⟩,fun y n=>⟨fun c=> ?_,fun c=> ?_⟩⟩
  .have c:(y:Int)<(x:Int):=of_decide_eq_true c;obtain⟨_,b⟩:y<=x/\∀j:Nat,j<y->U.jj1 (nth l x) (nth l j)=false:=n;have f:(y:Int)<(l.length:Int):=(by omega);refine⟨by omega,h,by omega,f,fun _=>by omega,fun _=>h,fun _=>by omega,fun _=>f,fun d=> ?_,fun d=>⟨L.in64 (by omega) (by omega),y+1,⟨⟨by simp,trivial⟩,trivial⟩,⟨by show y+1<=x;omega,fun j o=> ?_⟩,by show x-(y+1)<x-y;omega⟩⟩
   .have d:U.jj1 (nth l x) (nth l y)=true:=d;have:=jvQ (by omega) (by omega) d;show(true,())=(U.vj l,());rw[this]
   .by_cases e:j=y
    .subst e;exact d
    .exact b j (by omega)
  .have c:¬(y:Int)<(x:Int):=of_decide_eq_false c;obtain⟨q,b⟩:y<=x/\∀j:Nat,j<y->U.jj1 (nth l x) (nth l j)=false:=n;have i:y=x:=(by omega);subst i;refine⟨L.in64 (by omega) (by omega),y+1,⟨⟨by simp,trivial⟩,trivial⟩,⟨by show y+1<=l.length;omega,?_⟩,by show l.length-(y+1)<l.length-y;omega⟩;show U.w4 l (y+1)=false;rw[jqc,a,jnF b (by omega)];rfl
 .have h:¬(x:Int)<(l.length:Int):=of_decide_eq_false h;obtain⟨p,a⟩:x<=l.length/\U.w4 l x=false:=m;have g:x=l.length:=(by omega);subst g;show(false,())=(U.vj l,());unfold U.vj;rw[a]
theorem jrI:zc PR 52 jq5:=kK jsO jvn Tryz.func52 kcN koN
theorem jvp:jqJ:=by
 rintro⟨d,⟨⟩⟩ k;have k:(U.jq d).length<=1000000:=k;refine⟨fun h=> ?_,fun h=> ?_⟩
 .have h:U.jl (U.jd d)=false:=(by simpa using(show(!U.jl (U.jd d))=true from h));show((30:Int),())=(U.yu d,());unfold U.yu;rw[h];rfl
 have g:U.jl (U.jd d)=true:=(by simpa using(show(!U.jl (U.jd d))=false from h));refine⟨⟨0,⟨⟨rfl,trivial⟩,trivial⟩,jFM _,fun j f=>by omega⟩,fun x m _=>⟨fun h=> ?_,fun h=> ?_⟩⟩
 .have h:(x:Int)<((U.jq d).length:Int):=of_decide_eq_true h;refine⟨by omega,h,g,fun a=> ?_,fun a=>⟨L.in64 (by omega) (by omega),x+1,⟨⟨by simp,trivial⟩,trivial⟩,⟨by show x+1<=(U.jq d).length;omega,fun j f=> ?_⟩,by show(U.jq d).length-(x+1)<(U.jq d).length-x;omega⟩⟩
  .have a:U.jN (U.jd d) (U.vz (nth (U.jq d) x))=false:=(by simpa using(show(!U.jN (U.jd d) (U.vz (nth (U.jq d) x)))=true from a));have f:U.jvg d=false:=by
    unfold U.jvg;exact jGD.2 ⟨_,L.mem_nth (l:=U.jq d) (i:=x) (by omega),by rw[a];simp⟩
   show((31:Int),())=(U.yu d,());unfold U.yu;rw[g,f];rfl
  .have a:U.jN (U.jd d) (U.vz (nth (U.jq d) x))=true:=(by simpa using(show(!U.jN (U.jd d) (U.vz (nth (U.jq d) x)))=false from a));by_cases e:j=x
   .subst e;exact a
   .exact m.2 j (by omega)
 .have h:¬(x:Int)<((U.jq d).length:Int):=of_decide_eq_false h;have f:U.jvg d=true:=jaE (p:=fun b=>U.jN (U.jd d) (U.vz b)) (by omega) m.2;refine⟨fun a=> ?_,fun a=> ?_⟩
  .have a:U.zC d=false:=(by simpa using(show(!U.zC d)=true from a));show((50:Int),())=(U.yu d,());unfold U.yu;rw[g,f,a];rfl
  .have a:U.zC d=true:=(by simpa using(show(!U.zC d)=false from a));have n:(U.kR d).length<=30:=(zl a).2.2.2.2.1;refine⟨by show(U.kR d).length<=1000000;omega,fun c=> ?_,fun c=> ?_⟩
   .have c:U.vj (U.kR d)=true:=c;show((51:Int),())=(U.yu d,());unfold U.yu;rw[g,f,a,c];rfl
   .have c:U.vj (U.kR d)=false:=c;show((0:Int),())=(U.yu d,());unfold U.yu;rw[g,f,a,c];rfl
theorem jxD (t:List Int) (p:Int) (n:Nat):U.ja2 t p (n+1)=U.ja2 t p n++(if U.jM (nth t n) p=true then[(n:Int)] else[]):=by
 unfold U.ja2;rw[L.range_filter_succ,jGA];by_cases h:U.jM (nth t n) p=true
 .rw[if_pos h,if_pos h];rfl
 .rw[if_neg h,if_neg h];rfl
theorem jts (t:List Int) (p:Int) (n:Nat):(U.ja2 t p n).length<=n:=by
 unfold U.ja2;rw[jGR];exact jFR (List.length_filter_le _ _) (by simp)
theorem jCW:jzM:=by
 rintro⟨l,p,⟨⟩⟩ e j;have e:l.length<=1000:=e;refine⟨⟨0,⟨⟨rfl,trivial,trivial⟩,rfl,trivial⟩,jFM _⟩,fun x g _=>⟨fun h=> ?_,fun h=> ?_⟩⟩
 .have h:(x:Int)<(l.length:Int):=of_decide_eq_true h;have b:=jxD l p x;have f:=jts l p x;have i:x+1<=l.length:=(by omega);have d:l.length-(x+1)<l.length-x:=(by omega);refine⟨by omega,h,j,fun a=>⟨?_,L.in64 (by omega) (by omega),x+1,⟨⟨by simp,trivial,trivial⟩,?_,trivial⟩,i,d⟩,fun a=>⟨L.in64 (by omega) (by omega),x+1,⟨⟨trivial,by simp,trivial⟩,?_,trivial⟩,i,d⟩⟩
  .show((U.ja2 l p x).length+1)*8<=140737488355328;omega
  .have a:U.jM (nth l x) p=true:=a;rw[if_pos a] at b;exact b.symm
  .have a:U.jM (nth l x) p=false:=a;rw[if_neg (by rw[a];simp),jGb] at b;exact b.symm
 .have h:¬(x:Int)<(l.length:Int):=of_decide_eq_false h;have g:x<=l.length:=g;have c:x=l.length:=(by omega);subst c;rfl
theorem jAi:zc PR 61 jzX:=kK jBk jCW Tryz.func61 (kcC jbF kcN) koN
end Go.X
namespace Go.X
open Go.Proofs
theorem jj5 {d:DyD} {p:Int} {l:List Int}:U.ky d p l=true↔(∀j:Nat,j<l.length->U.j7 (U.jd d) (U.vz (U.bk d (nth l j))) p=true)/\(∀j:Nat,j<l.length->∀m:Nat,m<j->U.jG d (nth l j) (nth l m)=true)/\U.jm8 d l<=U.jx6 d:=by
 unfold U.ky U.jBD;rw[jFD,jFD,jFW,jFW,decide_eq_true_eq];refine and_congr ?_ (and_congr ?_ Iff.rfl)
 .constructor
  .intro h j a;exact h _ (L.mem_nth a)
  .intro h b c;obtain⟨i,hi,rfl⟩:=L.mem_iff.1 c;exact h i hi
 .constructor
  .intro h j a m e;have:=h j (jFP.2 a);rw[jFW] at this;exact this _ (by rw[jGh];exact⟨m,by omega,(L.nth_lt (by omega)).symm⟩)
  .intro h j a;have a:=jFP.1 a;rw[jFW];intro b c;rw[jGh] at c;obtain⟨m,e,rfl⟩:=c;have:=h j a m (by omega);rw[L.nth_lt (l:=l) (i:=m) (by omega)] at this;exact this
theorem jj6 {d:DyD} {p:Int} {l:List Int} (h:¬U.ky d p l=true):(false,())=(U.ky d p l,()):=by
 cases a:U.ky d p l with
 |false=>rfl
 |true=>exact absurd a h
theorem jvq:jqK:=by
 unfold jqK q119_0 q119_1;rintro⟨d,p,l,⟨⟩⟩ f t C;have f:U.ja5 d:=f;have t:U.jnU d p:=t;obtain⟨J,A⟩:U.jhI d l:=C;refine⟨⟨0,⟨⟨rfl,rfl,trivial⟩,trivial⟩,jFM _,fun j s=>by omega,fun j s=>by omega⟩,fun x q _=>⟨fun h=> ?_,fun h=> ?_⟩⟩
 .have h:(x:Int)<(l.length:Int):=of_decide_eq_true h;have a:x<l.length:=(by omega);have n:=A _ (L.mem_nth a);have B:=vo f.2.2 n;have D:=jrT f.2.2 A x (by omega);have E:=jdN (d:=d) a;have o:U.jN (U.jd d) (U.vz (U.bk d (nth l x)))=true:=by
   have:=f.2.1;unfold U.jvg at this;exact jFW.1 this _ (jEB n)
  have H:jz (U.jqi (U.bk d (nth l x))-U.jaA (U.bk d (nth l x))):=L.in64 (by omega) (by omega);have I:jz (U.zX d l x+(U.jqi (U.bk d (nth l x))-U.jaA (U.bk d (nth l x)))):=L.in64 (by omega) (by omega);refine⟨by omega,h,n.1,n.2,t,o,fun b=> ?_,fun b=>⟨H,I,⟨0,⟨⟨rfl,trivial⟩,trivial⟩,jFM _,fun m g=>by omega⟩,fun y u=>⟨fun k=> ?_,fun k=> ?_⟩⟩⟩
  .have b:U.j7 (U.jd d) (U.vz (U.bk d (nth l x))) p=false:=(by simpa using(show(!U.j7 (U.jd d) (U.vz (U.bk d (nth l x))) p)=true from b));exact jj6 (d:=d) (p:=p) (l:=l) (fun r=>by
    have:=(jj5.1 r).1 x a;rw[b] at this;cases this)
  .have k:(y:Int)<(x:Int):=of_decide_eq_true k;have v:(y:Int)<(l.length:Int):=(by omega);refine⟨by omega,h,by omega,v,f,n,A _ (L.mem_nth (l:=l) (i:=y) (by omega)),fun c=> ?_,fun c=>⟨L.in64 (by omega) (by omega),y+1,⟨⟨by simp,trivial⟩,trivial⟩,⟨by show y+1<=x;omega,fun m g=> ?_⟩,by show x-(y+1)<x-y;omega⟩⟩
   .have c:U.jG d (nth l x) (nth l y)=false:=(by simpa using(show(!U.jG d (nth l x) (nth l y))=true from c));exact jj6 (d:=d) (p:=p) (l:=l) (fun r=>by
     have:=(jj5.1 r).2.1 x a y (by omega);rw[c] at this;cases this)
   .have c:U.jG d (nth l x) (nth l y)=true:=(by simpa using(show(!U.jG d (nth l x) (nth l y))=false from c));by_cases e:m=y
    .subst e;exact c
    .exact u.2 m (by omega)
  .have k:¬(y:Int)<(x:Int):=of_decide_eq_false k;have G:y<=x:=u.1;have w:y=x:=(by omega);subst w;have b:U.j7 (U.jd d) (U.vz (U.bk d (nth l y))) p=true:=(by simpa using(show(!U.j7 (U.jd d) (U.vz (U.bk d (nth l y))) p)=false from b));refine⟨L.in64 (by omega) (by omega),y+1,⟨⟨by simp,E.symm,trivial⟩,trivial⟩,⟨by show y+1<=l.length;omega,fun j s=> ?_,fun j s m g=> ?_⟩,by show l.length-(y+1)<l.length-y;omega⟩
   .by_cases e:j=y
    .subst e;exact b
    .exact q.2.1 j (by omega)
   .by_cases e:j=y
    .subst e;exact u.2 m g
    .exact q.2.2 j (by omega) m g
 .have h:¬(x:Int)<(l.length:Int):=of_decide_eq_false h;have F:x<=l.length:=q.1;have a:x=l.length:=(by omega);subst a;have g:U.zX d l l.length=U.jm8 d l:=by
   unfold U.zX;rw[jGm (jFE _)]
  show(decide (U.zX d l l.length<=U.jx6 d),())=(U.ky d p l,());rw[g];refine congrArg (fun z=>(z,())) ?_;rw[jF6,decide_eq_true_eq,jj5];exact⟨fun h=>⟨q.2.1,q.2.2,h⟩,fun h=>h.2.2⟩
end Go.X
namespace Go.X
open Go.Proofs
theorem jDS {d:DyD} {a b:Int} (h:U.wU d b a=true):U.jG d a b=decide (U.jqi (U.bk d b)+U.jhw d+U.jsl d b a<=U.jaA (U.bk d a)):=by
 unfold U.jG;rw[if_pos h];refine decide_eq_decide.2 ?_;unfold U.qF;omega
theorem jB9 {d:DyD} {a b:Int} (h:U.wU d b a=false):U.jG d a b=decide (U.jqi (U.bk d a)+U.jhw d+U.jsl d a b<=U.jaA (U.bk d b)):=by
 unfold U.jG;rw[h,if_neg (by simp)];refine decide_eq_decide.2 ?_;unfold U.qF;omega
theorem jt2 (d:DyD) (a b:Int):U.wU d b a=(decide (U.jaA (U.bk d b)<U.jaA (U.bk d a))||decide (U.jaA (U.bk d b)=U.jaA (U.bk d a))&&decide (b<a)):=by
 unfold U.wU;rw[jF6];simp only[jGJ,jFD,decide_eq_true_eq]
theorem jnl:jks:=by
 unfold jks q117_4 q117_3 q117_2 q117_1 q117_0;rintro⟨d,a,b,⟨⟩⟩ c e f;have c:U.ja5 d:=c;have e:U.qb d a:=e;have f:U.qb d b:=f;have m:=vo c.2.2 e;have n:=vo c.2.2 f;have p:=jjP c.2.2 e f;have q:=jjP c.2.2 f e;have o:=(zl c.2.2).2.2.1;have r:=(jeQ c.2.2 (i:=(U.jvX (U.bk d a)).toNat) (by omega)).1;have s:=(jeQ c.2.2 (i:=(U.jvX (U.bk d b)).toNat) (by omega)).1;have g:=e.1;have j:=e.2;have k:=f.1;have l:=f.2;refine⟨k,l,g,j,fun _=>k,fun _=>l,fun _=>g,fun _=>j,fun h=>⟨k,l,g,j,?_,n.1.1,n.1.2,m.1.1,?_,?_,?_⟩,fun h=>⟨g,j,k,l,?_,m.1.1,m.1.2,n.1.1,?_,?_,?_⟩⟩
 .show jz (U.jqi (U.bk d b)+U.jhw d);exact L.in64 (by omega) (by omega)
 .show U.jvX (U.bk d a)<((nth (U.jK d) (U.jvX (U.bk d b)).toNat).length:Int);omega
 .show jz (U.jqi (U.bk d b)+U.jhw d+U.jsl d b a);exact L.in64 (by omega) (by omega)
 .have h:U.wU d b a=true:=(by rw[jt2];exact h);exact congrArg (fun z=>(z,())) (jDS h).symm
 .show jz (U.jqi (U.bk d a)+U.jhw d);exact L.in64 (by omega) (by omega)
 .show U.jvX (U.bk d b)<((nth (U.jK d) (U.jvX (U.bk d a)).toNat).length:Int);omega
 .show jz (U.jqi (U.bk d a)+U.jhw d+U.jsl d a b);exact L.in64 (by omega) (by omega)
 .have h:U.wU d b a=false:=(by rw[jt2];exact h);exact congrArg (fun z=>(z,())) (jB9 h).symm
theorem jkO:zc PR 147 jkB:=jR jnl Tryz.func147 kcN koN
theorem jrK:zc PR 107 jq8:=kK jsR jvq Tryz.func107 (kcC jmZ (kcC jkO kcN)) koN
end Go.X
namespace Go.X
open Go.Proofs
def jEu (d:DyD):Bool:=decide (4<((U.jq d).length:Int))|| !U.ja ((U.jK d).length:Int) 1 5|| !U.ja (U.jhw d) 0 300|| !U.ja (U.jx6 d) 0 1440||decide (30<((U.kR d).length:Int))
def spH (s:SpD):Bool:=decide (U.lo s<0)||decide (U.hi s<U.lo s)||decide (300<U.hi s)
def bkH (n:Nat) (b:BkD):Bool:= !U.ja (U.jvX b) 0 ((n:Int)-1)||decide (U.jaA b<0)||decide (U.jqi b<=U.jaA b)||decide (1440<U.jqi b)
def shH (d:DyD) (s:ShD):Bool:= !U.ja (U.wO s) 0 99|| !U.ja (U.jnT s) 0 9999|| !U.ja (U.jz0 s) 1 2|| !U.jyh d (U.joH s)|| !U.jps d (U.jcY s)
theorem jy4 (d:DyD):U.zC d=(!jEu d&&((U.jK d).all (U.vN (U.jK d).length)&&((U.jq d).all (U.jcR (U.jK d).length)&&(U.kR d).all (U.jbG (U.jq d).length (U.je (U.jd d)).length)))):=by
 unfold U.zC jEu;congr 1;rw[jF6];simp only[U.ja,jF9,jF3,decide_eq_false_iff_not,jGl,jFD,decide_eq_true_eq];omega
theorem jBw (s:SpD):U.je8 s= !spH s:=by
 unfold U.je8 spH;rw[jF6];simp only[jF9,jF3,decide_eq_false_iff_not,decide_eq_true_eq];omega
theorem jBV (n:Nat) (b:BkD):U.jcR n b= !bkH n b:=by
 unfold U.jcR bkH;rw[jF6];simp only[U.ja,jF9,jF3,decide_eq_false_iff_not,jGl,jFD,decide_eq_true_eq];omega
theorem jBy (d:DyD) (s:ShD):U.jbG (U.jq d).length (U.je (U.jd d)).length s= !shH d s:=by
 unfold U.jbG shH U.jyh U.jps;rw[jF6];simp only[U.ja,jF9,jF3,decide_eq_false_iff_not,jGl,jFD,decide_eq_true_eq];omega
theorem jp4 {d:DyD} (h:jEu d=true\/(U.jK d).all (U.vN (U.jK d).length)=false\/(U.jq d).all (U.jcR (U.jK d).length)=false\/(U.kR d).all (U.jbG (U.jq d).length (U.je (U.jd d)).length)=false):(false,())=(U.zC d,()):=by
 have:U.zC d=false:=by
  rw[jy4];rcases h with h|h|h|h<;>rw[h]<;>simp
 rw[this]
theorem jql {α:Type} [Inhabited α] {l:List α} {p:α->Bool} {x:Nat} (a:x<l.length) (h:p (nth l x)=false):l.all p=false:=jGD.2 ⟨_,L.mem_nth a,by rw[h];simp⟩
theorem jvo:jqI:=by
 unfold jqI q114_13 q114_3 q114_12 q114_11 q114_1 q114_10 q114_9 q114_8 q114_0 q114_7 q114_6 q114_5 q114_2 q114_4;rintro⟨d,⟨⟩⟩ _ _ _;refine⟨fun h=>jp4 (d:=d) (.inl h),fun k=> ?_⟩;have k:jEu d=false:=k;have l:=k;unfold jEu at l;simp only[U.ja,jF3,decide_eq_false_iff_not,jGl,jFD,decide_eq_true_eq] at l;refine⟨⟨0,⟨⟨rfl,trivial⟩,trivial⟩,jFM _,fun j g=>by omega⟩,fun x c _=>⟨fun h=> ?_,fun h=> ?_⟩⟩
 .have h:(x:Int)<((U.jK d).length:Int):=of_decide_eq_true h;have b:x<(U.jK d).length:=(by omega);refine⟨by omega,h,fun a=> ?_,fun a=>⟨⟨0,⟨⟨rfl,trivial⟩,trivial⟩,jFM _,fun j g=>by omega⟩,fun y n=>⟨by omega,h,fun m=>⟨fun i=> ?_,fun i=> ?_⟩⟩⟩⟩
  .have a:¬((nth (U.jK d) x).length:Int)=((U.jK d).length:Int):=of_decide_eq_true a;refine jp4 (d:=d) (.inr (.inl (jql b ?_)));unfold U.vN;rw[decide_eq_false (by omega)];rfl
  .have m:(nth (U.jK d) x).length<4611686018427387904:=m;have i:(y:Int)<((nth (U.jK d) x).length:Int):=of_decide_eq_true i;refine⟨by omega,h,by omega,i,fun f=> ?_,fun f=>⟨L.in64 (by omega) (by omega),y+1,⟨⟨by simp,trivial⟩,trivial⟩,⟨by show y+1<=(nth (U.jK d) x).length;omega,fun j g=> ?_⟩,by show(nth (U.jK d) x).length-(y+1)<(nth (U.jK d) x).length-y;omega⟩⟩
   .have f:spH (nth (nth (U.jK d) x) y)=true:=f;refine jp4 (d:=d) (.inr (.inl (jql b ?_)));have:(nth (U.jK d) x).all U.je8=false:=jql (x:=y) (by omega) (by rw[jBw,f];rfl);unfold U.vN;rw[this,Bool.and_false]
   .have f:spH (nth (nth (U.jK d) x) y)=false:=f;by_cases e:j=y
    .subst e;show U.je8 (nth (nth (U.jK d) x) j)=true;rw[jBw,f];rfl
    .exact n.2 j (by omega)
  .have i:¬(y:Int)<((nth (U.jK d) x).length:Int):=of_decide_eq_false i;have a:((nth (U.jK d) x).length:Int)=((U.jK d).length:Int):=Classical.not_not.1 (of_decide_eq_false a);have o:(nth (U.jK d) x).all U.je8=true:=jaE (by omega) n.2;refine⟨L.in64 (by omega) (by omega),x+1,⟨⟨by simp,trivial⟩,trivial⟩,⟨by show x+1<=(U.jK d).length;omega,fun j g=> ?_⟩,by show(U.jK d).length-(x+1)<(U.jK d).length-x;omega⟩;by_cases e:j=x
   .subst e;show U.vN (U.jK d).length (nth (U.jK d) j)=true;unfold U.vN;rw[o,decide_eq_true (by omega)];rfl
   .exact c.2 j (by omega)
 have h:¬(x:Int)<((U.jK d).length:Int):=of_decide_eq_false h;have r:(U.jK d).all (U.vN (U.jK d).length)=true:=jaE (by omega) c.2;clear c h;refine⟨⟨0,⟨⟨rfl,trivial⟩,trivial⟩,jFM _,fun j g=>by omega⟩,fun x c _=>⟨fun h=> ?_,fun h=> ?_⟩⟩
 .have h:(x:Int)<((U.jq d).length:Int):=of_decide_eq_true h;have b:x<(U.jq d).length:=(by omega);refine⟨by omega,h,fun _=>⟨by show jz (((U.jK d).length:Int)-1);exact L.in64 (by omega) (by omega),fun a=> ?_,fun a=>⟨L.in64 (by omega) (by omega),x+1,⟨⟨by simp,trivial⟩,trivial⟩,⟨by show x+1<=(U.jq d).length;omega,fun j g=> ?_⟩,by show(U.jq d).length-(x+1)<(U.jq d).length-x;omega⟩⟩⟩
  .have a:bkH (U.jK d).length (nth (U.jq d) x)=true:=a;exact jp4 (d:=d) (.inr (.inr (.inl (jql b (by rw[jBV,a];rfl)))))
  .have a:bkH (U.jK d).length (nth (U.jq d) x)=false:=a;by_cases e:j=x
   .subst e;show U.jcR (U.jK d).length (nth (U.jq d) j)=true;rw[jBV,a];rfl
   .exact c.2 j (by omega)
 have h:¬(x:Int)<((U.jq d).length:Int):=of_decide_eq_false h;have p:(U.jq d).all (U.jcR (U.jK d).length)=true:=jaE (by omega) c.2;clear c h;refine⟨⟨0,⟨⟨rfl,trivial⟩,trivial⟩,jFM _,fun j g=>by omega⟩,fun x c _=>⟨fun h=> ?_,fun h=> ?_⟩⟩
 .have h:(x:Int)<((U.kR d).length:Int):=of_decide_eq_true h;have b:x<(U.kR d).length:=(by omega);refine⟨by omega,h,fun a=> ?_,fun a=>⟨L.in64 (by omega) (by omega),x+1,⟨⟨by simp,trivial⟩,trivial⟩,⟨by show x+1<=(U.kR d).length;omega,fun j g=> ?_⟩,by show(U.kR d).length-(x+1)<(U.kR d).length-x;omega⟩⟩
  .have a:shH d (nth (U.kR d) x)=true:=a;exact jp4 (d:=d) (.inr (.inr (.inr (jql b (by rw[jBy,a];rfl)))))
  .have a:shH d (nth (U.kR d) x)=false:=a;by_cases e:j=x
   .subst e;show U.jbG (U.jq d).length (U.je (U.jd d)).length (nth (U.kR d) j)=true;rw[jBy,a];rfl
   .exact c.2 j (by omega)
 .have h:¬(x:Int)<((U.kR d).length:Int):=of_decide_eq_false h;have q:(U.kR d).all (U.jbG (U.jq d).length (U.je (U.jd d)).length)=true:=jaE (by omega) c.2;show(true,())=(U.zC d,());rw[jy4,k,r,p,q];rfl
theorem jrJ:zc PR 51 jq6:=kK jsP jvo Tryz.func51 (kcC jbE (kcC ji6 (kcC jkP kcN))) koN
theorem jdK:zc PR 17 jq7:=kK jsQ jvp Tryz.func17 (kcC jgW (kcC jrM (kcC jrJ (kcC jrI kcN)))) koN
end Go.X
namespace Go.X
open Go.Proofs
namespace U
def jx9 (l:List ShD) (i n:Nat):Bool:=decide (jz0 (nth l i)=1)&& !((l.take n).any (fun t=>decide (joH t=joH (nth l i))&&decide (jcY t=jcY (nth l i))&&wR t (nth l i)))
def jBr (l:List ShD) (n:Nat):List ShD:=((List.range n).filter (fun i=>jx9 l i l.length)).map (nth l)
def jc2 (l:List ShD) (n:Nat):Nat:=(List.range n).foldl (fun f i=>if wR (nth l f) (nth l i)=true then i else f) 0
def wG (l:List ShD):Nat->List ShD×List ShD
 |0=>([],l)
 |n+1=>((wG l n).1++[nth (wG l n).2 (jc2 (wG l n).2 (wG l n).2.length)],(wG l n).2.take (jc2 (wG l n).2 (wG l n).2.length)++(wG l n).2.drop (jc2 (wG l n).2 (wG l n).2.length+1))
def jep (d:DyD):List ShD:=jBr (jjW (kR d)) (jjW (kR d)).length
def jwg (d:DyD):List ShD:=(wG (jep d) (jep d).length).1
def joj (d:DyD) (n:Nat):List Int×List Int:=((jwg d).take n).foldl (jcc d) (List.replicate (jq d).length 0,[])
def jwK (d:DyD):List Int×List Int:=joj d (jwg d).length
end U
end Go.X
namespace Go.X
open Go.Proofs
end Go.X
namespace Go.X
theorem jlA (l:List ShD) (n:Nat):U.jc2 l (n+1)=if U.wR (nth l (U.jc2 l n)) (nth l n)=true then n else U.jc2 l n:=by
 unfold U.jc2;rw[jF5,jFX];rfl
theorem jh1 (l:List ShD):∀n,n<=l.length->0<l.length->U.jc2 l n<l.length
 |0,_,h=>h
 |n+1,a,h=>by
  have b:=jh1 l n (by omega) h
  rw[jlA]
  split<;>omega
theorem jhX (l:List ShD):∀n,n<=l.length->(U.wG l n).1.length=n/\(U.wG l n).2.length=l.length-n
 |0,_=>⟨rfl,rfl⟩
 |n+1,d=>by
  obtain⟨a,b⟩:=jhX l n (by omega)
  have c:=jh1 (U.wG l n).2 _ (jFE _) (by omega)
  refine⟨?_,?_⟩
  .show((U.wG l n).1++[_]).length=_
   rw[jFY,a];rfl
  .show((U.wG l n).2.take _++(U.wG l n).2.drop _).length=_
   rw[jFY,jGa,jGV]
   omega
theorem jA2 {α:Type} [Inhabited α] {l:List α} {m:Nat} (h:m<l.length):(nth l m::(l.take m++l.drop (m+1))).Perm l:=by
 have e:l=l.take m++nth l m::l.drop (m+1):=by
  conv=>lhs;rw[<-jGW m l]
  rw[List.drop_eq_getElem_cons h,L.nth_lt h]
 conv=>rhs;rw[e]
 exact List.perm_middle.symm
theorem jiI (l:List ShD):∀n,n<=l.length->((U.wG l n).1++(U.wG l n).2).Perm l
 |0,_=>List.Perm.refl _
 |n+1,d=>by
  have b:=jiI l n (by omega)
  have c:=jhX l n (by omega)
  have a:=jh1 (U.wG l n).2 _ (jFE _) (by omega)
  refine List.Perm.trans ?_ b
  show((U.wG l n).1++[nth (U.wG l n).2 (U.jc2 (U.wG l n).2 (U.wG l n).2.length)]++_).Perm _
  rw[jFU]
  exact List.Perm.append_left _ (jA2 a)
theorem jzU {d:DyD} {n:Nat} (h:n<(U.jwg d).length):U.joj d (n+1)=U.jcc d (U.joj d n) (nth (U.jwg d) n):=by
 unfold U.joj;rw[L.take_succ h,jFX];rfl
theorem jqA {d:DyD} {s:ShD} (h:s∈U.jwg d):s∈U.jjW (U.kR d):=by
 have b:=jiI (U.jep d) (U.jep d).length (jFE _);have a:s∈U.jep d:=b.mem_iff.1 (jFB _ h);unfold U.jep U.jBr at a;obtain⟨i,hi,rfl⟩:=jGc.1 a;exact L.mem_nth (jFP.1 (jF0.1 hi).1)
theorem jh7 {l:List ShD} {s:ShD} (h:s∈U.jjW l):s∈l:=by
 unfold U.jjW U.jy0 at h;obtain⟨m,_,h⟩:=List.mem_flatMap.1 h;unfold U.jBg at h;obtain⟨i,hi,rfl⟩:=jGc.1 h;exact L.mem_nth (jFP.1 (jF0.1 hi).1)
end Go.X
namespace Go.X
open Go.Proofs
theorem jEw {d:DyD} (h:U.yu d=0):U.ja5 d:=(zp ((jc8 d).trans h)).1
theorem jBE {t:List Int} {p b:Int} (h:b∈U.on t p):0<=b/\b<(t.length:Int):=by
 unfold U.on U.ja2 at h;obtain⟨i,hi,rfl⟩:=jGc.1 h;have:=jFP.1 (jF0.1 hi).1;omega
theorem jD1 (t:List Int) (p:Int):(U.on t p).length<=t.length:=jts t p t.length
attribute [local irreducible] U.jwg U.joj U.ky U.on
end Go.X
namespace Go.X
theorem jcA (c:CrD) (j:JbD) (i:Nat):(U.kz (c,j,U.yd c j,()) (nth (U.je c) i)=0)↔U.j7 c j (i:Int)=true:=by
 show U.jut (U.vE (nth (U.je c) i) (U.jzH j)) (!U.jM (U.fd (nth (U.je c) i)) (U.jrX j)) (!U.jM (U.cl (nth (U.je c) i)) (U.jqw j))=0↔
  (!(U.vE (nth (U.je c) ((i:Int)).toNat) (U.jzH j))&&U.jM (U.fd (nth (U.je c) ((i:Int)).toNat)) (U.jrX j)&&U.jM (U.cl (nth (U.je c) ((i:Int)).toNat)) (U.jqw j))=true
 rw[jFJ];generalize U.vE (nth (U.je c) i) (U.jzH j)=x;generalize U.jM (U.fd (nth (U.je c) i)) (U.jrX j)=y;generalize U.jM (U.cl (nth (U.je c) i)) (U.jqw j)=z;cases x<;>cases y<;>cases z<;>decide
theorem jCN {c:CrD} {j:JbD} (b:U.jl c=true) (d:U.jN c j=true) (p:Nat):(p:Int)∈U.v6 c j↔p<(U.je c).length/\U.j7 c j (p:Int)=true:=by
 have a:U.zR c j=0:=(by unfold U.zR;rw[b,d];rfl);unfold U.v6 U.vR;rw[if_pos a,jGc];refine⟨fun⟨i,hi,e⟩=> ?_,fun h=>⟨p,?_,rfl⟩⟩
 .have e:i=p:=(by omega);subst e;have:=jF0.1 hi;exact⟨jFP.1 this.1,(jcA c j i).1 (of_decide_eq_true this.2)⟩
 .exact jF0.2 ⟨jFP.2 h.1,decide_eq_true ((jcA c j p).2 h.2)⟩
theorem jw2 {l:List Int} (h:∀p∈l,0<=p/\p<8):∀n,n<=l.length->∀q,BT.has (U.jaL l n) q=(l.take n).any (fun p=>decide (p.toNat=q))
 |0,_,q=>BT.has_zero q
 |n+1,c,q=>by
  have b:=jw2 h n (by omega) q
  have a:=jad h n (by omega)
  have d:=h _ (L.mem_nth (l:=l) (i:=n) (by omega))
  rw[jf5 (by omega),vK,BT.has_bor a.1 (BT.two_set (by omega)),b,BT.has_two,L.take_succ (by omega),List.any_append]
  simp
theorem jw3 {l:List Int} (h:∀p∈l,0<=p/\p<8) (q:Nat):BT.has (U.joG l) q=l.any (fun p=>decide (p.toNat=q)):=by
 have:=jw2 h l.length (jFE _) q;rw[jGC] at this;exact this
theorem jtC {d:DyD} {b:Nat} (a:b<(U.jq d).length):nth (U.kc d (U.jq d).length) b=U.joG (U.v6 (U.jd d) (U.vz (nth (U.jq d) b))):=by
 unfold U.kc;rw[jGC,L.nth_map a]
theorem jyd {d:DyD} (a:U.ja5 d) {b:Nat} (c:b<(U.jq d).length):U.jN (U.jd d) (U.vz (nth (U.jq d) b))=true:=
 jFW.1 a.2.1 _ (L.mem_nth c)
theorem jrV {d:DyD} (g:U.ja5 d) {b p:Int} (m:U.qb d b) (n:U.jnU d p):decide (qz (nth (U.kc d (U.jq d).length) b.toNat/2^p.toNat) 1=0)= !U.j7 (U.jd d) (U.vz (U.bk d b)) p:=by
 unfold U.qb at m;unfold U.jnU at n;have a:b.toNat<(U.jq d).length:=(by omega);have j:=fun q (c:q∈U.v6 (U.jd d) (U.vz (nth (U.jq d) b.toNat)))=>jrU g.1 c
 have o:BT.Set' (U.joG (U.v6 (U.jd d) (U.vz (nth (U.jq d) b.toNat)))):=(jad j _ (jFE _)).1;have i:U.bk d b=nth (U.jq d) b.toNat:=rfl;rw[jtC a,BT.bit_num o,i];have k:=jw3 j p.toNat;have f:=jCN g.1 (jyd g a) p.toNat;have ep:((p.toNat:Nat):Int)=p:=(by omega);rw[ep] at f;have l:BT.has (U.joG (U.v6 (U.jd d) (U.vz (nth (U.jq d) b.toNat)))) p.toNat=U.j7 (U.jd d) (U.vz (nth (U.jq d) b.toNat)) p:=by
  rw[k];cases h:U.j7 (U.jd d) (U.vz (nth (U.jq d) b.toNat)) p with
  |true=>exact jGk.2 ⟨p,f.2 ⟨by omega,h⟩,by simp⟩
  |false=>
   refine jGo.2 fun q c e=> ?_
   have e:q.toNat=p.toNat:=of_decide_eq_true e;have:=j q c;have e:q=p:=(by omega);rw[e] at c;rw[(f.1 c).2] at h;cases h
 rw[l];cases U.j7 (U.jd d) (U.vz (nth (U.jq d) b.toNat)) p<;>rfl
theorem joX {α:Type} [Inhabited α] {R:α->α->Prop} {l:List α}:(∀i,i<l.length->∀b∈l.take i,R b (nth l i))↔l.Pairwise R:=by
 rw[jGE];refine⟨fun h i j hi a d=> ?_,fun h i hi b c=> ?_⟩
 .have:=h j a l[i] (jGh.2 ⟨i,by omega,rfl⟩);rw[L.nth_lt a] at this;exact this
 .obtain⟨k,hk,rfl⟩:=jGh.1 c;rw[L.nth_lt hi];exact h k i (by omega) hi (by omega)
theorem jxs {α:Type} [Inhabited α] {R:α->α->Prop} {l:List α}:(∀i,i<l.length->∀b∈l.drop (i+1),R (nth l i) b)↔l.Pairwise R:=by
 rw[jGE];refine⟨fun h i j hi d c=> ?_,fun h i hi b a=> ?_⟩
 .have:=h i hi l[j] (List.mem_drop_iff_getElem.2 ⟨j-(i+1),by omega,by congr 1;omega⟩);rw[L.nth_lt hi] at this;exact this
 .obtain⟨k,hk,rfl⟩:=List.mem_drop_iff_getElem.1 a;rw[L.nth_lt hi];exact h i (i+1+k) hi (by omega) (by omega)
theorem jb7 (d:DyD) (a b:Int):U.wU d a b=true↔(U.jaA (U.bk d a)<U.jaA (U.bk d b)\/(U.jaA (U.bk d a)=U.jaA (U.bk d b)/\a<b)):=decide_eq_true_iff
theorem jb6 (d:DyD) (a b:Int):U.wU d a b=false↔¬(U.jaA (U.bk d a)<U.jaA (U.bk d b)\/(U.jaA (U.bk d a)=U.jaA (U.bk d b)/\a<b)):=decide_eq_false_iff_not
theorem jzx (d:DyD) (l:List Int):kD (U.wU d) l where
 irrefl x _:=(jb6 d x x).2 (by omega)
 trans x y z _ _ _ a b:=by
  have a:=(jb7 d x y).1 a;have b:=(jb7 d y z).1 b;exact(jb7 d x z).2 (by omega)
 total x y _ _ a b:=by
  have a:=(jb6 d x y).1 a;have b:=(jb6 d y x).1 b;omega
theorem jkj {d:DyD} {a b:Int} (h:a≠b) (c:U.wU d b a=false):U.wU d a b=true:=by
 have c:=(jb6 d b a).1 c;exact(jb7 d a b).2 (by omega)
theorem jwd {d:DyD} {a b:Int} (c:U.wU d a b=true):U.wU d b a=false:=by
 have c:=(jb7 d a b).1 c;exact(jb6 d b a).2 (by omega)
theorem jez {d:DyD} {a b:Int} (h:U.wU d a b=true):(U.jG d b a=decide (0<=U.qF d a b))/\(U.jG d a b=decide (0<=U.qF d a b)):=by
 unfold U.jG;rw[if_pos h,jwd h,if_neg (by simp)];exact⟨rfl,rfl⟩
theorem jzQ {d:DyD} {a b:Int} (h:a≠b):U.jG d a b=U.jG d b a:=by
 cases c:U.wU d b a with
 |false=>have:=jez (jkj h c);rw[this.1,this.2]
 |true=>have:=jez c;rw[this.1,this.2]
def TgR (d:DyD) (a b:Int):Prop:=a≠b->U.jG d b a=true
theorem jxr {d:DyD} {l:List Int} (f:l.Nodup):U.jBD d l=true↔l.Pairwise (TgR d):=by
 rw[<-joX];unfold U.jBD;rw[jFW];have e:∀i,i<l.length->∀b∈l.take i,b≠nth l i:=(joX (R:=fun a b=>a≠b)).2 f;refine⟨fun h i hi b c _=> ?_,fun h i hi=>jFW.2 fun b c=> ?_⟩
 .exact jFW.1 (h i (jFP.2 hi)) b c
 .exact h i (jFP.1 hi) b c (e i (jFP.1 hi) b c)
theorem TgR.symm {d:DyD} {a b:Int} (h:TgR d a b):TgR d b a:=fun e=>(jzQ (Ne.symm e)).trans (h (Ne.symm e))
theorem jxZ {d:DyD} {l l':List Int} (h:l.Perm l'):U.jm8 d l=U.jm8 d l':=by
 unfold U.jm8;exact List.Perm.foldl_eq' (h.map _) (fun x _ y _ z=>by omega) 0
theorem jib (d:DyD) (p:Int) {l:List Int} (a:l.Nodup):U.ky d p l=true↔(∀b∈l,U.j7 (U.jd d) (U.vz (U.bk d b)) p=true)/\l.Pairwise (TgR d)/\U.jm8 d l<=U.jx6 d:=by
 unfold U.ky;rw[jFD,jFD,jFW,jxr a,decide_eq_true_iff]
theorem jlY (d:DyD) (p:Int) {l l':List Int} (h:l.Perm l') (g:l.Nodup):U.ky d p l=U.ky d p l':=by
 have f:=h.nodup_iff.1 g;refine jF6.2 ?_;rw[jib d p g,jib d p f,jxZ h,h.pairwise_iff (fun h=>TgR.symm h)];exact⟨fun⟨a,c⟩=>⟨fun b e=>a b (h.mem_iff.2 e),c⟩,fun⟨a,c⟩=>⟨fun b e=>a b (h.mem_iff.1 e),c⟩⟩
theorem jA9 (d:DyD) (may:List Int) (p:Int) (s:List Int):U.jDj d may p s=true↔(∀b∈s,decide (qz (nth may b.toNat/2^p.toNat) 1=0)=false)/\s.Pairwise (fun a b=>0<=U.qF d a b)/\U.jm8 d s<=U.jx6 d:=by
 rw[<-jxs];unfold U.jDj;rw[jFD,decide_eq_true_iff,jFW,<-and_assoc];refine and_congr_left fun _=> ?_
 have e:∀i,U.jm2 d may p s i=true↔decide (qz (nth may (nth s i).toNat/2^p.toNat) 1=0)=false/\∀b∈s.drop (i+1),0<=U.qF d (nth s i) b:=by
  intro i;unfold U.jm2;rw[jF9,jF3,jGo];refine and_congr_right fun _=>⟨fun h b c=> ?_,fun h b c=> ?_⟩
  .have:=h b c;simp at this;omega
  .have:=h b c;simp;omega
 refine⟨fun h=>⟨fun b c=> ?_,fun i hi=>((e i).1 (h i (jFP.2 hi))).2⟩,fun h i hi=>(e i).2 ⟨h.1 _ (L.mem_nth (jFP.1 hi)),h.2 i (jFP.1 hi)⟩⟩;obtain⟨i,hi,rfl⟩:=L.mem_iff.1 c;exact((e i).1 (h i (jFP.2 hi))).1
theorem jzi {d:DyD} {may:List Int} {p:Int} {l:List Int} (m:l.Nodup) (j:∀b∈l,decide (qz (nth may b.toNat/2^p.toNat) 1=0)= !U.j7 (U.jd d) (U.vz (U.bk d b)) p):U.jqe d may p l=U.ky d p l:=by
 have f:(U.jo d l).Perm l:=zg l;have c:(U.jo d l).Nodup:=f.nodup_iff.2 m;have k:(U.jo d l).Pairwise (fun a b=>U.wU d b a=false):=yX (jzx d l);rw[<-jlY d p f c];unfold U.jqe;refine jF6.2 ?_;rw[jA9,jib d p c];have i:=List.Pairwise.and k c;refine and_congr ⟨fun h b e=> ?_,fun h b e=> ?_⟩ (and_congr_left fun _=>⟨fun h=> ?_,fun h=> ?_⟩)
 .have g:=h b e;rw[j b (f.mem_iff.1 e)] at g;simpa using g
 .rw[j b (f.mem_iff.1 e),h b e];rfl
 .refine(List.Pairwise.and i h).imp fun{a b} x _=> ?_
  rw[(jez (jkj x.1.2 x.1.1)).1];exact decide_eq_true x.2
 .refine(List.Pairwise.and i h).imp fun{a b} x=> ?_
  have:=x.2 x.1.2;rw[(jez (jkj x.1.2 x.1.1)).1] at this;exact of_decide_eq_true this
end Go.X
namespace Go.X
theorem jbJ (a b:ShD):U.wR a b=true↔(U.jnT b<U.jnT a\/(U.jnT a=U.jnT b/\U.wO b<U.wO a)):=decide_eq_true_iff
theorem jfb (a b:ShD):U.wR a b=false↔¬(U.jnT b<U.jnT a\/(U.jnT a=U.jnT b/\U.wO b<U.wO a)):=decide_eq_false_iff_not
theorem yp (a:ShD):U.wR a a=false:=(jfb a a).2 (by omega)
theorem jlE {a b:ShD} (h:U.wR a b=true):U.wR b a=false:=by
 have h:=(jbJ a b).1 h;exact(jfb b a).2 (by omega)
theorem jjm {a b c:ShD} (d:U.wR a b=true) (e:U.wR b c=true):U.wR a c=true:=by
 have d:=(jbJ a b).1 d;have e:=(jbJ b c).1 e;exact(jbJ a c).2 (by omega)
theorem jA6 (a b:ShD):U.js a b<0↔U.wR b a=true:=by
 rw[jbJ];unfold U.js;rw[zq,wg]
 split
 .rename_i h;have c:¬U.jnT a=U.jnT b:=fun e=>h (vn.2 e)
  rw[jy7];omega
 .rename_i h;have d:U.jnT a=U.jnT b:=vn.1 (Classical.not_not.1 h);rw[jy7];omega
theorem jDr {l:List ShD} (hi:∀a∈l,∀b∈l,U.wO a=U.wO b->a=b):kD U.jDq l where
 irrefl x _:=yp x
 trans x y z _ _ _ c d:=jjm d c
 total x y hx hy c d:=by
  have c:=(jfb y x).1 c;have d:=(jfb x y).1 d;exact hi x hx y hy (by omega)
theorem jyJ {l:List ShD}:∀i,i<l.length->∃j,j<l.length/\nth l j=nth l i/\U.jnv l j=true:=by
 intro i
 induction i using Nat.strongRecOn with
 |_ i f=>
  intro hi;cases h:U.jnv l i with
  |true=>exact⟨i,hi,rfl,h⟩
  |false=>
   simp only[U.jnv,jGl] at h;obtain⟨x,d,e⟩:=jGk.1 h;obtain⟨k,hk,rfl⟩:=jGh.1 d;have e:l[k]=nth l i:=of_decide_eq_true e;obtain⟨j,c,a,b⟩:=f k (by omega) (by omega);exact⟨j,c,by rw[a,L.nth_lt (by omega)];exact e,b⟩
theorem jC9 {l:List ShD} {s:ShD} (h:s∈l) (d:0<=U.wO s) (e:U.wO s<=99):s∈U.jjW l:=by
 obtain⟨i,hi,rfl⟩:=L.mem_iff.1 h;obtain⟨j,c,a,b⟩:=jyJ i hi;unfold U.jjW U.jy0;refine List.mem_flatMap.2 ⟨(U.wO (nth l i)).toNat,jFP.2 (by omega),?_⟩;unfold U.jBg;refine jGc.2 ⟨j,jF0.2 ⟨jFP.2 c,?_⟩,a⟩;show(decide (U.wO (nth l j)=(((U.wO (nth l i)).toNat:Nat):Int))&&U.jnv l j)=true;rw[b,a,Bool.and_true];exact decide_eq_true (by omega)
theorem jtY {l:List ShD} {n m:Nat} {s:ShD} (h:s∈U.jBg l n m):U.wO s=(m:Int):=by
 unfold U.jBg at h;obtain⟨i,hi,rfl⟩:=jGc.1 h;have a:=(jF0.1 hi).2;rw[jFD] at a;exact of_decide_eq_true a.1
theorem jlV (l:List ShD):(U.jjW l).Nodup:=by
 unfold U.jjW U.jy0;refine List.pairwise_flatMap.2 ⟨fun m _=> ?_,?_⟩
 .unfold U.jBg;refine List.pairwise_map.2 (List.Pairwise.imp_of_mem ?_ (List.Pairwise.filter _ jG2));intro i j hi c k e;have c:=jF0.1 c;have d:=c.2;rw[jFD] at d;have f:=d.2;have n:=jFP.1 c.1;have o:((l.take j).any (fun x=>decide (x=nth l j)))=true:=
   jGk.2 ⟨nth l i,jGh.2 ⟨i,by omega,(L.nth_lt (by omega)).symm⟩,decide_eq_true e⟩
  unfold U.jnv at f;rw[o] at f;cases f
 .refine List.Pairwise.imp ?_ jG2;intro a b h x p y q e;have g:=jtY p;have d:=jtY q;rw[e] at g;omega
theorem js8 (t s:ShD):U.y7 t=U.y7 s↔U.joH t=U.joH s/\U.jcY t=U.jcY s:=by
 unfold U.y7;refine⟨fun h=>⟨congrArg (·.1) h,congrArg (·.2.1) h⟩,fun h=>by rw[h.1,h.2]⟩
theorem jsA (l:List ShD) (s:ShD):U.jh8 l s=true↔U.jz0 s=1/\∀t∈l,U.y7 t=U.y7 s->U.wR t s=false:=by
 unfold U.jh8;rw[jFD,decide_eq_true_iff,jF9,jGo];refine and_congr_right fun _=>⟨fun h t a e=> ?_,fun h t a e=> ?_⟩
 .have e:=(js8 t s).1 e;have:=h t a;rw[e.1,e.2,decide_eq_true rfl,decide_eq_true rfl] at this;simpa using this
 .rw[jFD,jFD,decide_eq_true_iff,decide_eq_true_iff] at e;rw[h t a ((js8 t s).2 e.1)] at e;exact absurd e.2 (by simp)
theorem jqB (d:DyD):U.jep d=(U.jjW (U.kR d)).filter (U.jh8 (U.jjW (U.kR d))):=by
 unfold U.jep;generalize U.jjW (U.kR d)=l;unfold U.jBr;have e:(fun i=>U.jx9 l i l.length)=(U.jh8 l)∘(nth l):=by
  funext i;unfold U.jx9;rw[jGC];rfl
 rw[e];have:=List.filter_map (f:=nth l) (p:=U.jh8 l) (l:=List.range l.length);rw[<-this,L.range_map_nth]
theorem jpn (l:List ShD):∀n,∀i,i<n->U.wR (nth l (U.jc2 l n)) (nth l i)=false
 |0,i,h=>absurd h (by omega)
 |n+1,i,h=>by
  have b:=jpn l n
  rw[jlA]
  split
  .rename_i a
   rcases Nat.lt_succ_iff_lt_or_eq.1 h with h|h
   .cases c:U.wR (nth l n) (nth l i) with
    |false=>rfl
    |true=>have:=jjm a c;rw[b i h] at this;cases this
   .subst h;exact yp _
  .rename_i a
   rcases Nat.lt_succ_iff_lt_or_eq.1 h with h|h
   .exact b i h
   .subst h;simpa using a
theorem jw4 (l:List ShD):∀n,n<=l.length->(U.wG l n).1.Pairwise (fun a b=>U.wR a b=false)/\∀a∈(U.wG l n).1,∀b∈(U.wG l n).2,U.wR a b=false
 |0,_=>⟨List.Pairwise.nil,fun a d=>by cases d⟩
 |n+1,m=>by
  obtain⟨j,g⟩:=jw4 l n (by omega)
  have k:=jhX l n (by omega)
  have h:=jh1 (U.wG l n).2 _ (jFE _) (by omega)
  have e:=jpn (U.wG l n).2 (U.wG l n).2.length
  have f:∀b∈(U.wG l n).2.take (U.jc2 (U.wG l n).2 (U.wG l n).2.length)++(U.wG l n).2.drop (U.jc2 (U.wG l n).2 (U.wG l n).2.length+1),b∈(U.wG l n).2:=by
   intro b c;rcases jFL.1 c with c|c
   .exact jGY c
   .exact jGX c
  refine⟨List.pairwise_append.2 ⟨j,List.pairwise_singleton _ _,fun a d b c=> ?_⟩,fun a d b c=> ?_⟩
  .simp at c;subst c;exact g a d _ (L.mem_nth h)
  .have c:=f b c;have d:a∈(U.wG l n).1++[nth (U.wG l n).2 (U.jc2 (U.wG l n).2 (U.wG l n).2.length)]:=d;rcases jFL.1 d with d|d
   .exact g a d b c
   .simp at d;subst d;obtain⟨i,hi,rfl⟩:=L.mem_iff.1 c;exact e i hi
theorem jB5 (d:DyD):jwf U.jDq (U.jwg d):=(jw4 (U.jep d) _ (jFE _)).1
theorem jma (d:DyD):(U.jwg d).Perm (U.jep d):=by
 have a:=jiI (U.jep d) (U.jep d).length (jFE _);have b:=(jhX (U.jep d) (U.jep d).length (jFE _)).2;have:(U.wG (U.jep d) (U.jep d).length).2=[]:=List.length_eq_zero_iff.1 (by omega);rw[this,jGb] at a;exact a
theorem jtF {l:List ShD} (i:l.Pairwise (fun a b=>U.wR b a=true)):∀n,n<=l.length->∀s∈l.take n,(kJ (Ty.dflt tSh) (zA tSt (U.y7 s) (U.zB l n))=s↔∀t∈l.take n,U.y7 t=U.y7 s->U.wR t s=false)
 |0,_,s,c=>by simp at c
 |n+1,k,s,c=>by
  have j:=jtF i n (by omega)
  have g:(l.take (n+1)).Pairwise (fun a b=>U.wR b a=true):=i.sublist (List.take_sublist _ _)
  rw[L.take_succ (by omega)] at g c
  have f:∀t∈l.take n,U.wR (nth l n) t=true:=fun t d=>(List.pairwise_append.1 g).2.2 t d _ (by simp)
  rw[jjn (by omega),L.take_succ (by omega)]
  by_cases hk:U.y7 s=U.y7 (nth l n)
  .rw[hk,M.mfind_mput]
   show nth l n=s↔_
   rcases jFL.1 c with c|c
   .refine⟨fun e=> ?_,fun h=> ?_⟩
    .have:=f s c
     rw[e,yp] at this;cases this
    .have:=h (nth l n) (by simp) rfl
     rw[f s c] at this;cases this
   .simp at c;subst c
    refine⟨fun _ t d _=> ?_,fun _=>rfl⟩
    rcases jFL.1 d with d|d
    .exact jlE (f t d)
    .simp at d;subst d;exact yp _
  .rw[M.mfind_mput_ne hk]
   have c:s∈l.take n:=by
    rcases jFL.1 c with c|c
    .exact c
    .simp at c;subst c;exact absurd rfl hk
   rw[j s c];refine⟨fun h t d e=> ?_,fun h t d=>h t (jFB _ d)⟩;rcases jFL.1 d with d|d
   .exact h t d e
   .simp at d;subst d;exact absurd e.symm hk
theorem jw1 {d:DyD} (h:U.jJ d=0):(U.zL d).Pairwise (fun a b=>U.wR b a=true):=by
 have f:=jFj h;have g:jwf (U.jg tSh fun x=>(U.js x.1 x.2.1,())) (U.zL d):=yX f;have e:∀s∈U.zL d,s∈U.jU (U.kR d):=fun s i=>(zg _).mem_iff.1 i
 refine List.Pairwise.imp_of_mem ?_ (List.Pairwise.and g (y5 d));intro a b j k ⟨h1,h2⟩;cases c:U.jg tSh (fun x=>(U.js x.1 x.2.1,())) a b with
 |false=>exact absurd (f.total a b (e a j) (e b k) c h1) h2
 |true=>
  have c:U.js a b<0:=of_decide_eq_true c;exact(jA6 a b).1 c
theorem jp3 {d:DyD} (h:U.jJ d=0) {s:ShD} (a:s∈U.zL d):U.kx (U.zB (U.zL d) (U.zL d).length) s=true↔U.jz0 s=1/\∀t∈U.zL d,U.y7 t=U.y7 s->U.wR t s=false:=by
 have:=jtF (jw1 h) (U.zL d).length (jFE _) s (by rw[jGC];exact a);rw[jGC] at this;rw[<-this];unfold U.kx;rw[jF9,jF3,jGl,jGl,decide_eq_true_iff,decide_eq_true_iff];exact and_comm
theorem joF {d:DyD} (h:U.zC d=true) {s:ShD} (a:s∈U.kR d):0<=U.wO s/\U.wO s<=99:=by
 have:=(zl h).2.2.2.2.2.2.2 _ a;unfold U.jbG at this;have:=of_decide_eq_true this;omega
def jzJ (d:DyD):ShD->Bool:=U.kx (U.zB (U.zL d) (U.zL d).length)
theorem jDQ {d:DyD} (h:U.jJ d=0):(U.zL d).filter (jzJ d)=U.jwg d:=by
 have j:=zp h;have f:∀s,s∈U.jjW (U.kR d)↔s∈U.zL d:=fun s=>⟨fun c=>jac.2 (jh7 c),fun c=>by
  have c:=jac.1 c;have:=joF j.1.2.2 c;exact jC9 c this.1 this.2⟩
 have g:∀s,s∈(U.zL d).filter (jzJ d)↔s∈U.jwg d:=by
  intro s;rw[(jma d).mem_iff,jqB,jF0,jF0,f s];refine and_congr_right fun c=> ?_
  rw[jsA];have:=jp3 h c;refine this.trans (and_congr_right fun _=>⟨fun h t i=>h t ((f t).1 i),fun h t i=>h t ((f t).2 i)⟩)
 have n:((U.zL d).filter (jzJ d)).Nodup:=List.Pairwise.filter _ (y5 d);have o:(U.jwg d).Nodup:=(jma d).nodup_iff.2 (by rw[jqB];exact List.Pairwise.filter _ (jlV _));have m:=L.perm_of_nodup n o g;refine jec (jDr ?_) m ?_ (jB5 d)
 .intro a k b l e;exact j.2 a (jac.1 (jF0.1 k).1) b (jac.1 (jF0.1 l).1) e
 .exact(List.Pairwise.filter _ (jw1 h)).imp fun x=>jlE x
end Go.X
namespace Go.X
namespace U
def jCs (r:List Int) (m n:Nat):List Int:=(r.take n).filter (fun x=>decide (x=(m:Int)))
def jeW (r:List Int) (n:Nat):List Int:=(List.range n).flatMap (fun m=>jCs r m r.length)
end U
structure jk9 (d:DyD) (x:List (List Int)×List Int) (y:List Int×List Int):Prop where
 ref:x.2=y.2
 len:y.1.length=(U.jq d).length
 set:∀b,b<(U.jq d).length->BT.Set' (nth y.1 b)
 bit:∀b,b<(U.jq d).length->∀p,BT.has (nth y.1 b) p=true↔p<(U.je (U.jd d)).length/\(b:Int)∈nth x.1 p
theorem jfk {t:Int} (h:BT.Set' t) (p:Int):U.jM t p=BT.has t p.toNat:=BT.has_shr h p.toNat
theorem jD2 {d:DyD} {x:List (List Int)×List Int} {y:List Int×List Int} (h:jk9 d x y) {p:Int} (k:U.jnU d p) (j:∀b∈nth x.1 p.toNat,U.qb d b) (n:Int):n∈U.on y.1 p↔n∈nth x.1 p.toNat:=by
 unfold U.jnU at k;unfold U.on U.ja2;rw[jGc];refine⟨fun⟨i,hi,e⟩=> ?_,fun g=> ?_⟩
 .subst e;have hi:=jF0.1 hi;have a:=jFP.1 hi.1;rw[h.len] at a;have f:U.jM (nth y.1 i) p=true:=hi.2;rw[jfk (h.set i a)] at f;exact((h.bit i a p.toNat).1 f).2
 .have hk:=j n g;unfold U.qb at hk;have c:((n.toNat:Nat):Int)=n:=(by omega);refine⟨n.toNat,jF0.2 ⟨jFP.2 (by rw[h.len];omega),?_⟩,c⟩;show U.jM (nth y.1 n.toNat) p=true;rw[jfk (h.set _ (by omega))];exact(h.bit _ (by omega) _).2 ⟨by omega,by rw[c];exact g⟩
theorem jmS (t:List Int) (p:Int):(U.on t p).Nodup:=by
 unfold U.on U.ja2;refine List.pairwise_map.2 ((List.Pairwise.filter _ jG2).imp ?_);intro a b c e;omega
theorem jCC {d:DyD} {x:List (List Int)×List Int} {y:List Int×List Int} (h:jk9 d x y) {p:Int} (e:U.jnU d p) (c:(nth x.1 p.toNat).Nodup) (a:∀b∈nth x.1 p.toNat,U.qb d b):(nth x.1 p.toNat).Perm (U.on y.1 p):=
 L.perm_of_nodup c (jmS _ _) (fun n=>(jD2 h e a n).symm)
theorem jEz {d:DyD} (i:U.ja5 d) {x:List (List Int)×List Int} {y:List Int×List Int} (h:jk9 d x y) {p b:Int} (g:U.jnU d p) (e:(nth x.1 p.toNat++[b]).Nodup) (f:∀c∈nth x.1 p.toNat++[b],U.qb d c):
 U.jqe d (U.kc d (U.jq d).length) p (nth x.1 p.toNat++[b])=U.ky d p (U.on y.1 p++[b]):=by
 rw[jzi e (fun c a=>jrV i (f c a) g)];exact jlY d p ((jCC h g (jGF.1 e).1 (fun c a=>f c (jFB _ a))).append_right [b]) e
theorem jDV {d:DyD} {x:List (List Int)×List Int} {y:List Int×List Int} (h:jk9 d x y) (v:x.1.length=(U.je (U.jd d)).length) (u:(U.je (U.jd d)).length<=8) {p b:Int} (t:U.jnU d p) (s:U.qb d b) (i:b∉nth x.1 p.toNat):
 jk9 d (x.1.set p.toNat (nth x.1 p.toNat++[b]),x.2) (y.1.set b.toNat (nth y.1 b.toNat+2^p.toNat),y.2):=by
 unfold U.jnU at t;unfold U.qb at s;have r:((b.toNat:Nat):Int)=b:=(by omega);have g:b.toNat<y.1.length:=(by rw[h.len];omega);have n:p.toNat<x.1.length:=(by omega);have o:=h.set b.toNat (by omega);have m:BT.has (nth y.1 b.toNat) p.toNat=false:=by
  cases j:BT.has (nth y.1 b.toNat) p.toNat with
  |false=>rfl
  |true=>exact absurd (by have:=((h.bit _ (by omega) _).1 j).2;rw[r] at this;exact this) i
 have a:=BT.add_two o (p:=p.toNat) (by omega) m;have j:=BT.two_set (k:=p.toNat) (by omega);refine⟨h.ref,by show(y.1.set _ _).length=_;rw[jGK];exact h.len,fun c l=> ?_,fun c l q=> ?_⟩
 .show BT.Set' (nth (y.1.set b.toNat (nth y.1 b.toNat+2^p.toNat)) c);rw[L.nth_set g]
  split
  .rw[a];exact BT.bor_set o j
  .exact h.set c l
 .show BT.has (nth (y.1.set b.toNat (nth y.1 b.toNat+2^p.toNat)) c) q=true↔_/\(c:Int)∈nth (x.1.set p.toNat (nth x.1 p.toNat++[b])) q;rw[L.nth_set g,L.nth_set n];by_cases f:b.toNat=c
  .rw[if_pos f,a,BT.has_bor o j,BT.has_two,jGJ,decide_eq_true_iff,h.bit _ (by omega),<-f,r];by_cases e:p.toNat=q
   .rw[if_pos e];refine⟨fun _=>⟨by omega,by simp⟩,fun _=> .inr e⟩
   .rw[if_neg e];exact⟨fun h=>h.elim id (fun h=>absurd h e),.inl⟩
  .rw[if_neg f,h.bit c l];by_cases e:p.toNat=q
   .rw[if_pos e,jFL,<-e];refine and_congr_right fun _=>⟨.inl,fun h=>h.elim id (fun h=> ?_)⟩
    simp at h;omega
   .rw[if_neg e]
theorem jz6 (d:DyD):jk9 d (U.kA (U.jqs d) (U.zL d) 0) (List.replicate (U.jq d).length 0,[]):=by
 have c:∀b,b<(U.jq d).length->nth (List.replicate (U.jq d).length (0:Int)) b=0:=fun b a=>L.nth_rep a
 refine⟨rfl,jGv,fun b a=> ?_,fun b a p=> ?_⟩
 .show BT.Set' (nth (List.replicate (U.jq d).length (0:Int)) b);rw[c b a];exact BT.zero_set
 .show BT.has (nth (List.replicate (U.jq d).length (0:Int)) b) p=true↔_/\(b:Int)∈nth (U.jDJ d) p;rw[c b a,BT.has_zero];have f:U.jCI (U.jDJ d):=fun x g=>(List.mem_replicate.1 g).2
  have e:nth (U.jDJ d) p=[]:=jty f p;rw[e];simp
def jy3 (d:DyD) (i:Nat):List Int×List Int:=(((U.zL d).take i).filter (jzJ d)).foldl (U.jcc d) (List.replicate (U.jq d).length 0,[])
attribute [local irreducible] U.kA U.ky U.jqe U.on jy3 U.zL jzJ U.jqs U.kc in
theorem jz7 {d:DyD} (h:U.jJ d=0) {i:Nat} (hi:i<(U.zL d).length) (ih:jk9 d (U.kA (U.jqs d) (U.zL d) i) (jy3 d i)) (hinv:U.yi (U.jqs d) (U.zL d) i (U.kA (U.jqs d) (U.zL d) i)) (hrd:U.rd (U.jqs d)=d) (hml:U.q6 (U.jqs d)=U.kc d (U.jq d).length)
 (hx:(U.kA (U.jqs d) (U.zL d) i).1.length=(U.je (U.jd d)).length) (hdec:jzJ d=U.kx (U.zB (U.zL d) (U.zL d).length)) (hft:jy3 d (i+1)=if jzJ d (nth (U.zL d) i)=true then U.jcc d (jy3 d i) (nth (U.zL d) i) else jy3 d i)
 (hnew:jzJ d (nth (U.zL d) i)=true->(nth (U.kA (U.jqs d) (U.zL d) i).1 (U.jcY (nth (U.zL d) i)).toNat++[U.joH (nth (U.zL d) i)]).Nodup/\∀b∈nth (U.kA (U.jqs d) (U.zL d) i).1 (U.jcY (nth (U.zL d) i)).toNat++[U.joH (nth (U.zL d) i)],U.qb d b):
 jk9 d (U.kA (U.jqs d) (U.zL d) (i+1)) (jy3 d (i+1)):=by
 have hD:=(zp h).1
 have h8:(U.je (U.jd d)).length<=8:=(jx hD.1).2.2.1
 have hsf:=jhW hD.2.2 (jac.1 (L.mem_nth (l:=U.zL d) (i:=i) hi))
 rw[hft]
 cases hc:jzJ d (nth (U.zL d) i) with
 |false=>
  rw[hdec] at hc
  rw[js3 hi hc,if_neg (by simp)]
  exact ih
 |true=>
  have hn:=hnew hc
  have hcan:=jEz hD ih (p:=U.jcY (nth (U.zL d) i)) (b:=U.joH (nth (U.zL d) i)) hsf.1 hn.1 hn.2
  rw[hdec] at hc
  rw[if_pos rfl]
  unfold U.jcc
  cases hk:U.ky d (U.jcY (nth (U.zL d) i)) (U.on (jy3 d i).1 (U.jcY (nth (U.zL d) i))++[U.joH (nth (U.zL d) i)]) with
  |true=>
   rw[hk] at hcan
   rw[jwJ hi hc (by rw[hrd,hml];exact hcan),if_pos rfl]
   refine jDV ih hx h8 hsf.1 hsf.2 (fun hin=> ?_)
   exact(jGF.1 hn.1).2.2 _ hin _ (by simp) rfl
  |false=>
   rw[hk] at hcan
   rw[jBv hi hc (by rw[hrd,hml];exact hcan),if_neg (by simp)]
   exact⟨congrArg (·++[U.wO (nth (U.zL d) i)]) ih.ref,ih.len,ih.set,ih.bit⟩
theorem jxk {d:DyD} (h:U.jJ d=0):∀i,i<=(U.zL d).length->jk9 d (U.kA (U.jqs d) (U.zL d) i) (jy3 d i)
 |0,_=>jz6 d
 |i+1,hi=>by
  have k:=jxk h i (by omega)
  obtain⟨⟨_,m⟩,⟨j,b⟩,c⟩:=jxe h
  have f:=(zp h).1
  have a:=jqX (r:=U.jqs d) (l:=U.zL d) f.2.2 (fun s e=>jac.1 e) (y5 d) j b c i (by omega)
  refine jz7 h hi k a rfl rfl a.1 rfl ?_ fun g=> ?_
  .unfold jy3
   rw[L.filter_take (p:=jzJ d) (l:=U.zL d) (i:=i) hi,jFX]
   split<;>rfl
  .have:=jwI (r:=U.jqs d) (l:=U.zL d) f.2.2 (fun s e=>jac.1 e) (y5 d) hi a g
   exact⟨this.1,this.2.1⟩
theorem jA0 {d:DyD} (h:U.jJ d=0):jy3 d (U.zL d).length=U.jwK d:=by
 unfold jy3 U.jwK U.joj;rw[jGC,jGC,jDQ h]
theorem jrn {d:DyD} (h:U.jJ d=0):jk9 d (U.wy (U.qh d),(U.kA (U.jqs d) (U.zL d) (U.zL d).length).2) (U.jwK d):=by
 have:=jxk h _ (jFE _);rw[jA0 h] at this;exact⟨this.ref,this.len,this.set,this.bit⟩
theorem js1 (on:List (List Int)) (b:Int):∀n,n<=60->BT.Set' (U.ql on b n)/\∀q,BT.has (U.ql on b n) q=true↔q<n/\b∈nth on q
 |0,_=>⟨BT.zero_set,fun q=>by
  have:U.ql on b 0=0:=rfl
  rw[this,BT.has_zero];simp⟩
 |n+1,m=>by
  obtain⟨f,i⟩:=js1 on b n (by omega)
  have g:=BT.two_set (k:=n) (by omega)
  have a:(nth on n).any (fun x=>decide (x=b))=true↔b∈nth on n:=by
   rw[jGk];exact⟨fun⟨x,l,e⟩=>(of_decide_eq_true e)▸l,fun j=>⟨b,j,decide_eq_true rfl⟩⟩
  rw[jit]
  split
  .rename_i c;have c:=a.1 c;rw[vK];refine⟨BT.bor_set f g,fun q=> ?_⟩;rw[BT.has_bor f g,BT.has_two,jGJ,decide_eq_true_iff,i];refine⟨fun h=>h.elim (fun h=>⟨by omega,h.2⟩) (fun h=>by subst h;exact⟨by omega,c⟩),fun h=> ?_⟩;by_cases d:q=n
   .exact .inr d.symm
   .exact .inl ⟨by omega,h.2⟩
  .rename_i c;refine⟨f,fun q=> ?_⟩;rw[i];refine⟨fun h=>⟨by omega,h.2⟩,fun h=>⟨?_,h.2⟩⟩;by_cases d:q=n
   .subst d;exact absurd (a.2 h.2) c
   .omega
theorem jCe {d:DyD} (h:U.jJ d=0) {b:Nat} (a:b<(U.jq d).length):U.jfW (U.wy (U.qh d)) (b:Int)=nth (U.jwK d).1 b:=by
 have f:=jrn h;have c:=joK h;have g:=js1 (U.wy (U.qh d)) (b:Int) (U.wy (U.qh d)).length c.len60;refine BT.ext g.1 (f.set b a) fun p=>jF6.2 ?_
 have e:=(g.2 p).trans (f.bit b a p|>.trans (by rw[<-c.len])).symm;exact e
theorem jDT {d:DyD} (h:U.jJ d=0):U.qg d (U.jq d).length=(U.jwK d).1:=by
 have b:=jrn h;have a:(U.qg d (U.jq d).length).length=(U.jq d).length:=(by unfold U.qg;simp);refine L.ext_nth (by rw[a];exact b.len.symm) fun i hi=> ?_
 rw[a] at hi;unfold U.qg;rw[L.nth_map (by simpa using hi)];have:nth (List.range (U.jq d).length) i=i:=(by rw[L.nth_lt (by simpa using hi)];simp);rw[this];exact jCe h hi
theorem jCb (d:DyD):U.jku d=if U.yu d=0 then(U.jwK d).1 else[]:=by
 unfold U.jku;rw[jc8]
 split
 .rename_i h;exact jDT ((jc8 d).trans h)
 .rfl
theorem jxl (d:DyD):∀n,n<=(U.jwg d).length->(U.joj d n).2.Sublist (((U.jwg d).take n).map U.wO)
 |0,_=>List.nil_sublist _
 |n+1,b=>by
  have a:=jxl d n (by omega)
  rw[jzU (by omega),L.take_succ (by omega),jGA]
  unfold U.jcc
  split
  .exact a.trans (List.sublist_append_left _ _)
  .exact List.Sublist.append a (List.Sublist.refl _)
theorem jxm {d:DyD} (h:U.jJ d=0):(U.jwK d).2.Nodup/\∀x∈(U.jwK d).2,0<=x/\x<=99:=by
 have c:=jxl d _ (jFE _);rw[jGC] at c;have g:=zp h;have l:(U.jwg d).Nodup:=(jma d).nodup_iff.2 (by rw[jqB];exact List.Pairwise.filter _ (jlV _));refine⟨List.Pairwise.sublist c (List.pairwise_map.2 (List.Pairwise.imp_of_mem ?_ l)),fun x k=> ?_⟩
 .intro a b i j f e;exact f (g.2 a (jh7 (jqA i)) b (jh7 (jqA j)) e)
 .obtain⟨s,c,rfl⟩:=jGc.1 (c.subset k);exact joF g.1.2.2 (jh7 (jqA c))
theorem juN {r:List Int} (k:r.Nodup) (h:∀x∈r,0<=x/\x<=99):U.jeW r 100=U.jeL r:=by
 have e:∀m,U.jCs r m r.length=r.filter (fun x=>decide (x=(m:Int))):=fun m=>by unfold U.jCs;rw[jGC]
 have d:∀m x,x∈U.jCs r m r.length->x=(m:Int)/\x∈r:=fun m x c=>by
  rw[e m] at c;have:=jF0.1 c;exact⟨of_decide_eq_true this.2,this.1⟩
 have f:(U.jeW r 100).Pairwise (fun a b=>a<=b):=by
  unfold U.jeW;refine List.pairwise_flatMap.2 ⟨fun m _=> ?_,List.Pairwise.imp ?_ jG2⟩
  .refine List.Pairwise.imp_of_mem ?_ (R:=fun _ _=>True) (List.pairwise_of_forall (fun _ _=>trivial));intro a b n o _;have:=(d m a n).1;have:=(d m b o).1;omega
  .intro a b g x c y j;have:=(d a x c).1;have:=(d b y j).1;omega
 have i:(U.jeW r 100).Nodup:=by
  unfold U.jeW;refine List.pairwise_flatMap.2 ⟨fun m _=> ?_,List.Pairwise.imp ?_ jG2⟩
  .rw[e m];exact List.Pairwise.filter _ k
  .intro a b g x c y j l;have:=(d a x c).1;have:=(d b y j).1;omega
 have p:(U.jeW r 100).Perm r:=L.perm_of_nodup i k fun x=>by
  unfold U.jeW;rw[List.mem_flatMap];refine⟨fun⟨m,_,c⟩=>(d m x c).2,fun c=> ?_⟩;have q:=h x c;refine⟨x.toNat,jFP.2 (by omega),?_⟩;rw[e];exact jF0.2 ⟨c,decide_eq_true (by omega)⟩
 exact jc9 (p.trans (jf1 r).symm) f (jwW r)
theorem jCp (d:DyD):U.jkH d=if U.yu d=0 then U.jeW (U.jwK d).2 100 else[]:=by
 unfold U.jkH;rw[jc8]
 split
 .rename_i h;have h:=(jc8 d).trans h;have a:=jxm h;rw[juN a.1 a.2,<-(jrn h).ref];rfl
 .rfl
end Go.X
namespace Go.X
open Go.Proofs
attribute [local irreducible] U.wG U.jc2 U.jBr U.jjW U.jep U.jwg U.jx9
end Go.X
namespace Go.X
open Go.Proofs
end Go.X
namespace Go.X
open Go.Proofs
section
attribute [local irreducible] U.jeW U.jCs U.jwK U.yu
end
section
attribute [local irreducible] U.yu U.vU
end
section
attribute [local irreducible] U.ky U.on U.jM U.ja5
end
section
attribute [local irreducible] U.yu U.jM
end
end Go.X
namespace Go.X
open Go.Proofs
theorem jCu {x k:Nat} (h:(x:Int)<1*2^k):x<2^k:=by
 rw[vK,BT.two_nat] at h;exact Int.ofNat_lt.1 h
section
attribute [local irreducible] U.yu U.vU U.jgC U.jxJ
end
end Go.X
namespace Go.X
open Go.Proofs
end Go.X
namespace Go.X
theorem jje (n m:Nat):n|||m=0↔n=0/\m=0:=by
 constructor
 .intro h;constructor
  .refine jGZ fun i=> ?_
   have:=congrArg (fun z=>Nat.testBit z i) h;simp only[Nat.testBit_or,Nat.zero_testBit,jF3] at this;rw[this.1,Nat.zero_testBit]
  .refine jGZ fun i=> ?_
   have:=congrArg (fun z=>Nat.testBit z i) h;simp only[Nat.testBit_or,Nat.zero_testBit,jF3] at this;rw[this.2,Nat.zero_testBit]
 .rintro⟨rfl,rfl⟩;rfl
theorem jsY {a b:Int} (c:0<=a/\a<64) (d:0<=b/\b<64):uor a b=0↔a=0/\b=0:=by
 obtain⟨n,rfl⟩:∃n:Nat,a=(n:Int):=⟨a.toNat,by omega⟩;obtain⟨m,rfl⟩:∃m:Nat,b=(m:Int):=⟨b.toNat,by omega⟩;rw[BT.uor_nat (by omega) (by omega)];have:=jje n m;omega
theorem jBd {a b:Int} (c:0<=a/\a<64) (d:0<=b/\b<64):bor a b=0↔a=0/\b=0:=by
 obtain⟨n,rfl⟩:∃n:Nat,a=(n:Int):=⟨a.toNat,by omega⟩;obtain⟨m,rfl⟩:∃m:Nat,b=(m:Int):=⟨b.toNat,by omega⟩;rw[BT.bor_nat (by omega) (by omega)];have:=jje n m;omega
theorem jBe {a b:Int} (c:0<=a/\a<64) (d:0<=b/\b<64):0<=bor a b/\bor a b<64:=by
 obtain⟨n,rfl⟩:∃n:Nat,a=(n:Int):=⟨a.toNat,by omega⟩;obtain⟨m,rfl⟩:∃m:Nat,b=(m:Int):=⟨b.toNat,by omega⟩;rw[BT.bor_nat (by omega) (by omega)];have:n|||m<2^6:=Nat.or_lt_two_pow (by omega) (by omega);omega
theorem jiY {b:Bool} {o k:Int} (h:0<=o/\o<64) (hk:0<k/\k<64):U.jkJ b o k=0↔b=false/\o=0:=by
 unfold U.jkJ;cases b with
 |false=>rw[if_neg (by simp)];simp
 |true=>
  rw[if_pos rfl,jsY h ⟨by omega,by omega⟩];refine⟨fun h=>absurd h.2 (by omega),fun h=>absurd h.1 (by simp)⟩
theorem jcj {b:Bool} {o k:Int} (h:0<=o/\o<64) (hk:0<k/\k<64):U.jtp b o k=0↔b=false/\o=0:=by
 unfold U.jtp;cases b with
 |false=>rw[if_neg (by simp)];simp
 |true=>
  rw[if_pos rfl,jBd h ⟨by omega,by omega⟩];refine⟨fun h=>absurd h.2 (by omega),fun h=>absurd h.1 (by simp)⟩
theorem jo1 {b:Bool} {o k:Int} (h:0<=o/\o<64) (hk:0<k/\k<64):0<=U.jtp b o k/\U.jtp b o k<64:=by
 unfold U.jtp
 split
 .exact jBe h ⟨by omega,hk.2⟩
 .exact h
theorem joe (t:TkD):∀(q:List (Int×PeD×Unit)) (o:Int),(0<=o/\o<64)->(U.v8 t o q=0↔o=0/\∀x∈q,U.kz t x.2.1=0)
 |[],o,_=>by
  show o=0↔_
  simp
 |x::q,o,h=>by
  have b:=jki t x.2.1
  have a:=joe t q (uor o (U.kz t x.2.1)) (jww h ⟨by omega,by omega⟩)
  show U.v8 t (uor o (U.kz t x.2.1)) q=0↔_
  rw[a,jsY h ⟨by omega,by omega⟩]
  simp only[jFC,forall_eq_or_imp,and_assoc]
theorem jAD {t:Int} (h:BT.Set' t) (p:Int):U.jfj t p=BT.has t p.toNat:=BT.has_ushr h p.toNat
theorem jBK {t:Int} (h:BT.Set' t) (p:Int):U.jfj t p=U.jM t p:=(jAD h p).trans (jfk h p).symm
theorem jco {t:TkD} {s:Int} (b:BT.Set' s) {x:Int×PeD×Unit}:x∈U.jgZ t s↔∃i:Nat,i<(U.je (U.tc t)).length/\U.jM s (i:Int)=true/\x=((i:Int),nth (U.je (U.tc t)) i,()):=by
 unfold U.jgZ U.we;rw[jGc];refine⟨fun⟨i,hi,e⟩=> ?_,fun⟨i,c,a,e⟩=>⟨i,jF0.2 ⟨jFP.2 c,?_⟩,e.symm⟩⟩
 .have hi:=jF0.1 hi;have a:U.jfj s (i:Int)=true:=hi.2;exact⟨i,jFP.1 hi.1,(jBK b _)▸a,e.symm⟩
 .show U.jfj s (i:Int)=true;rw[jBK b];exact a
theorem jgG (c:CrD) (j:JbD) (t:Int):∀n,(0<=(U.jY c j t n).1/\(U.jY c j t n).1<64)/\((U.jY c j t n).1=0↔∀i:Nat,i<n->U.jM t (i:Int)=true->U.j7 c j (i:Int)=true)/\
 ((U.jY c j t n).2=true↔∃i:Nat,i<n/\U.jM t (i:Int)=true/\U.jDa (nth (U.je c) i)=true)
 |0=>⟨by show(0:Int)<=0/\(0:Int)<64;omega,⟨fun _ i h=>absurd h (by omega),fun _=>rfl⟩,⟨fun h=>(by cases h),fun⟨i,h,_⟩=>absurd h (by omega)⟩⟩
 |n+1=>by
  obtain⟨l,o,p⟩:=jgG c j t n
  cases g:U.jM t (n:Int) with
  |false=>
   rw[jqf g]
   refine⟨l,o.trans ⟨fun h i hi a=> ?_,fun h i hi=>h i (by omega)⟩,p.trans ⟨fun⟨i,hi,a⟩=>⟨i,by omega,a⟩,fun⟨i,hi,d,f⟩=>⟨i,?_,d,f⟩⟩⟩
   .by_cases e:i=n
    .subst e;rw[g] at a;cases a
    .exact h i (by omega) a
   .by_cases e:i=n
    .subst e;rw[g] at d;cases d
    .omega
  |true=>
   have e:U.jY c j t (n+1)=(U.jtp (!U.jM (U.cl (nth (U.je c) n)) (U.jqw j)) (U.jtp (!U.jM (U.fd (nth (U.je c) n)) (U.jrX j)) (U.jtp (U.vE (nth (U.je c) n) (U.jzH j)) (U.jY c j t n).1 1) 2) 4,(U.jY c j t n).2||U.jDa (nth (U.je c) n)):=by
    rw[jj9];unfold U.jsH;rw[if_pos g]
   rw[e];have o1:=jo1 (b:=U.vE (nth (U.je c) n) (U.jzH j)) (k:=1) l (by omega);have o2:=jo1 (b:= !U.jM (U.fd (nth (U.je c) n)) (U.jrX j)) (k:=2) o1 (by omega);have s:=jo1 (b:= !U.jM (U.cl (nth (U.je c) n)) (U.jqw j)) (k:=4) o2 (by omega);refine⟨s,?_,?_⟩
   .show U.jtp _ _ 4=0↔_;rw[jcj o2 (by omega),jcj o1 (by omega),jcj l (by omega),o];have m:U.j7 c j (n:Int)=(!(U.vE (nth (U.je c) n) (U.jzH j))&&U.jM (U.fd (nth (U.je c) n)) (U.jrX j)&&U.jM (U.cl (nth (U.je c) n)) (U.jqw j)):=by
     unfold U.j7;rw[jFJ]
    refine⟨fun⟨d,f,q,r⟩ i hi a=> ?_,fun h=> ?_⟩
    .by_cases e:i=n
     .subst e;rw[m];simp only[jGl] at d f;rw[d,f,q];rfl
     .exact r i (by omega) a
    .have:=h n (by omega) g;rw[m,jFD,jFD,jF9] at this;exact⟨by rw[this.2];rfl,by rw[this.1.2];rfl,this.1.1,fun i hi=>h i (by omega)⟩
   .show((U.jY c j t n).2||U.jDa (nth (U.je c) n))=true↔_;rw[jGJ,p];refine⟨fun h=>h.elim (fun⟨i,hi,a⟩=>⟨i,by omega,a⟩) (fun h=>⟨n,by omega,g,h⟩),fun⟨i,hi,d,f⟩=> ?_⟩;by_cases e:i=n
    .subst e;exact .inr f
    .exact .inl ⟨i,by omega,d,f⟩
theorem jAy {c:CrD} {j:JbD} {t:Int} (d:BT.Set' t) (a b:Nat):U.jqv (c,j,U.yd c j,()) t a b=U.J3 c t (U.jwi (U.yd c j)) a b:=by
 unfold U.jqv U.J3 U.jbO U.jaQ;refine jF6.2 ?_;rw[jGk,jGk];refine⟨fun⟨x,g,h⟩=> ?_,fun⟨i,hi,h⟩=> ?_⟩
 .obtain⟨i,e,f,rfl⟩:=(jco d).1 g;refine⟨i,jFP.2 e,?_⟩;have h:U.jwi (U.yd c j)<=min (nth (U.lv (nth (U.je c) i)) ((a:Int)).toNat) (nth (U.lv (nth (U.je c) i)) ((b:Int)).toNat):=of_decide_eq_true h;rw[f,decide_eq_true (by omega:U.jwi (U.yd c j)<=nth (U.lv (nth (U.je c) i)) ((a:Int)).toNat),decide_eq_true (by omega:U.jwi (U.yd c j)<=nth (U.lv (nth (U.je c) i)) ((b:Int)).toNat)];rfl
 .rw[jFD,jFD,decide_eq_true_iff,decide_eq_true_iff] at h;refine⟨((i:Int),nth (U.je c) i,()),(jco d).2 ⟨i,jFP.1 hi,h.1.1,rfl⟩,?_⟩;exact decide_eq_true (show U.jwi (U.yd c j)<=min (nth (U.lv (nth (U.je c) i)) ((a:Int)).toNat) (nth (U.lv (nth (U.je c) i)) ((b:Int)).toNat) by have:=h.1.2;have:=h.2;omega)
theorem jDB (c:CrD) (t lev:Int) (a b:Nat):U.J3 c t lev a b=U.J3 c t lev b a:=by
 unfold U.J3 U.jaQ;refine jF6.2 ?_;rw[jGk,jGk];constructor<;>
 .rintro⟨i,hi,h⟩;refine⟨i,hi,?_⟩;rw[jFD,jFD] at h⊢;exact⟨⟨h.1.1,h.2⟩,h.1.2⟩
theorem jEp {c:CrD} {j:JbD} {t:Int} (g:U.jl c=true) (d:U.jN c j=true) (f:BT.Set' t):nth (U.jay (c,j,U.yd c j,()) t) (U.jqx j).toNat<0↔nth (U.jb0 c t (U.jwi (U.yd c j)) (U.jqx j)) (U.jlG j).toNat<0:=by
 have h:=jbP d;have e:U.jqv (c,j,U.yd c j,()) t=U.J3 c t (U.jwi (U.yd c j)):=(by funext a b;exact jAy f a b);show nth (U.jED (U.jqv (c,j,U.yd c j,()) t) (U.la c).toNat (U.jlG j).toNat) (U.jqx j).toNat<0↔nth (U.ze (U.J3 c t (U.jwi (U.yd c j))) (U.la c).toNat (U.jqx j).toNat (U.la c).toNat) (U.jlG j).toNat<0;rw[e];exact(jC2 (jDB c t _) (by omega) (by omega)).symm
theorem jzw {c:CrD} {j:JbD} {t:Int} (a:BT.Set' t):(∀x∈U.jgZ (c,j,U.yd c j,()) t,U.kz (c,j,U.yd c j,()) x.2.1=0)↔∀i:Nat,i<(U.je c).length->U.jM t (i:Int)=true->U.j7 c j (i:Int)=true:=by
 refine⟨fun h i hi e=>(jcA c j i).1 (h ((i:Int),nth (U.je c) i,()) ((jco a).2 ⟨i,hi,e,rfl⟩)),fun h x f=> ?_⟩;obtain⟨i,b,d,rfl⟩:=(jco a).1 f;exact(jcA c j i).2 (h i b d)
theorem jA1 {c:CrD} {j:JbD} {t:Int} (d:BT.Set' t):U.gG (U.jgZ (c,j,U.yd c j,()) t)=U.jFa c j t:=by
 refine jF6.2 ?_;unfold U.jFa;rw[(jgG c j t (U.je c).length).2.2];unfold U.gG;rw[jGk];refine⟨fun⟨x,f,h⟩=> ?_,fun⟨i,a,b,e⟩=>⟨((i:Int),nth (U.je c) i,()),(jco d).2 ⟨i,a,b,rfl⟩,e⟩⟩;obtain⟨i,a,b,rfl⟩:=(jco d).1 f;exact⟨i,a,b,h⟩
theorem jsG {c:CrD} {j:JbD} {t:Int} (n:U.jl c=true) (o:U.jN c j=true) (a:BT.Set' t):U.z7 (c,j,U.yd c j,()) t=0↔U.jvW c j t=0:=by
 have f:=jgG c j t (U.je c).length;have g:=jqQ (c,j,U.yd c j,()) (U.jgZ (c,j,U.yd c j,()) t) 0 (by omega);have i:=jiZ (b:=decide (BT.size t≠max (U.jAx j) (U.jCO (U.yd c j)))) (k:=8) g (by omega);have q:=jiZ (b:=(U.jEO (U.yd c j)&& !U.gG (U.jgZ (c,j,U.yd c j,()) t))) (k:=16) i (by omega);have d:0<=U.jE9 c j t/\U.jE9 c j t<64:=f.1;have e:=jo1 (b:=decide (BT.size t≠max (U.jAx j) (U.jCO (U.yd c j)))) (k:=8) d (by omega);have l:=jo1 (b:=(U.jEO (U.yd c j)&& !U.jFa c j t)) (k:=16) e (by omega);have m:U.z7 (c,j,U.yd c j,()) t=U.jkJ (decide (nth (U.jay (c,j,U.yd c j,()) t) (U.jqx j).toNat<0)) (U.jkJ (U.jEO (U.yd c j)&& !U.gG (U.jgZ (c,j,U.yd c j,()) t)) (U.jkJ (decide (BT.size t≠max (U.jAx j) (U.jCO (U.yd c j)))) (U.v8 (c,j,U.yd c j,()) 0 (U.jgZ (c,j,U.yd c j,()) t)) 8) 16) 32:=rfl;have p:U.jE9 c j t=0↔U.v8 (c,j,U.yd c j,()) 0 (U.jgZ (c,j,U.yd c j,()) t)=0:=by
  rw[joe _ _ _ (by omega),jzw a];exact f.2.1.trans ⟨fun h=>⟨rfl,h⟩,fun h=>h.2⟩
 rw[m,jiY q (by omega),jiY i (by omega),jiY g (by omega)];unfold U.jvW;rw[jcj l (by omega),jcj e (by omega),jcj d (by omega),p,jA1 a,decide_eq_false_iff_not,decide_eq_false_iff_not,jEp n o a,decide_eq_false_iff_not]
theorem jCY {d:DyD} (a:U.ja5 d) {b:Int} (k:U.qb d b) {t:Int} (e:0<=t) (n:t<2^(U.je (U.jd d)).length):U.jlR d b t=U.vU (U.jd d) (U.vz (U.bk d b)) t:=by
 unfold U.qb at k;have h:U.jN (U.jd d) (U.vz (U.bk d b))=true:=jyd a (b:=b.toNat) (by omega);have o:=(jf9 a.1).2;have m:BT.Set' t:=(by unfold BT.Set';omega);have i:U.zR (U.jd d) (U.vz (U.bk d b))=0:=(by unfold U.zR;rw[a.1,h];rfl);have j:U.jne (U.jd d) t=true:=by
  unfold U.jne U.ja;rw[decide_eq_true e,decide_eq_true (by omega)];rfl
 have l:U.qE (U.jd d) (U.vz (U.bk d b)) t=0:=by
  unfold U.qE;rw[if_neg (by rw[i];simp),j,if_pos rfl]
 have c:=jsG a.1 h m;unfold U.jlR U.vU U.jDM;rw[l,if_pos rfl];refine jF6.2 ?_;simp only[jFD,decide_eq_true_iff,true_and];rw[c];constructor
 .rintro⟨f,g⟩;exact⟨by omega,f⟩
 .rintro⟨f,g⟩;exact⟨g,by omega⟩
theorem jEn {d:DyD} {t:Int} (a:BT.Set' t):U.wC d t=U.jgC (U.jd d) t:=by
 unfold U.wC U.jgC;have:∀n,U.vi (U.je (U.jd d)) t n=U.zJ (U.jd d) t n:=by
  intro n
  induction n with
  |zero=>rfl
  |succ n e=>
   have b:U.vi (U.je (U.jd d)) t (n+1)=U.vi (U.je (U.jd d)) t n+qz (t/2^n) 1*U.fe (nth (U.je (U.jd d)) n):=by
    unfold U.vi;rw[jF5,jFX];rfl
   have c:U.zJ (U.jd d) t (n+1)=if U.jM t (n:Int)=true then U.zJ (U.jd d) t n+U.fe (nth (U.je (U.jd d)) n) else U.zJ (U.jd d) t n:=by
    unfold U.zJ;rw[jF5,jFX];rfl
   rw[b,c,e,BT.bit_num a,jfk a,jFJ]
   split
   .rw[Int.one_mul]
   .rw[Int.zero_mul,Int.add_zero]
 exact this _
end Go.X

