/-
  Part 6 of the road: a checked reading of bodies, and what the functions on it do (P10 B5 P11 B6 P12 P13 B7 P14 B8 P15 C1 PC1 PC2 PC3 PC4 C2 PC5 PC6 PC7 PC8 C3 PC9 SL PC10 S1 S2 S3 PC11 C4 PC12 PC13 PC14 S4 S5).
-/
import Derived.Test.YtnkahkkofmoipaaGreatDoorK05
namespace Go.X
open Go.Proofs
theorem zJ {d:DyD} (h:U.jz d=0):U.jpV d/\∀a∈U.jW d,∀b∈U.jW d,U.zT a=U.zT b->a=b:=by
 unfold U.jz U.jj1 at h;cases c:U.ju (U.jf d) with
 |false=>rw[c] at h;simp at h
 |true=>
  cases e:U.jwN d with
  |false=>rw[c,e] at h;simp at h
  |true=>
   cases f:U.zo d with
   |false=>rw[c,e,f] at h;simp at h
   |true=>
    cases g:U.jrL (U.jG (U.jW d)) with
    |true=>rw[c,e,f,g] at h;simp at h
    |false=>exact⟨⟨c,e,f⟩,(jxt _).1 g⟩
theorem jBo:jaQ U.jo:=by
 have e:U.jo=jx8 (fun a b=>U.gi (U.jnu a) (U.jnu b)) (fun a b=>U.gi (U.zT a) (U.zT b)):=by
  funext a b;unfold U.jo;rw[jZ,kR];rfl
 rw[e];exact jga (jgI jfo U.jnu) (jgI jfo U.zT)
theorem jxI {a b:ShD} (h:U.jo a b=0):U.zT a=U.zT b:=by
 unfold U.jo at h;rw[jZ,kR] at h
 split at h
 .contradiction
 .exact qU.1 h
theorem jDq {d:DyD} (h:U.jz d=0):kj (U.jd tSh fun x=>(U.jo x.1 x.2.1,())) (U.jG (U.jW d)):=
 jmC jBo (fun a b e f c=>(zJ h).2 a (jad.1 e) b (jad.1 f) (jxI c))
theorem gG {d:DyD} {s:ShD}:s∈U.zA d↔s∈U.jW d:=((j6 _).mem_iff).trans jad
theorem yG (d:DyD):(U.zA d).Nodup:=(j6 _).nodup_iff.2 (jfk _)
theorem jAs (d:DyD):(U.zA d).length<=(U.jW d).length:=by
 unfold U.zA U.jDH;rw[(j6 _).length_eq];exact jxA _
theorem jhV {d:DyD} (h:U.zo d=true) {s:ShD} (a:s∈U.jW d):(0<=U.jcA s/\U.jcA s<((U.jj (U.jf d)).length:Int))/\U.q6 d (U.joi s):=by
 have:=(zp h).2.2.2.2.2.2.2 _ a;unfold U.jbn at this;have:=of_decide_eq_true this;unfold U.q6;omega
theorem jji {l:List ShD} {i:Nat} (h:i<l.length):U.zn l (i+1)=jdr tSt (U.yI (nth l i)) (nth l i) (U.zn l i):=by
 unfold U.zn;rw[L.take_succ h,jEo];rfl
theorem jei {r:RoD} {l:List ShD} {i:Nat} (h:i<l.length):U.kk r l (i+1)=U.jnS (U.rd r) (U.gT r) (U.zn l l.length) (U.kk r l i) (nth l i):=by
 unfold U.kk;rw[L.take_succ h,jEo];rfl
theorem jCZ {d:DyD} {l:List Int} (c:l.Nodup) (a:∀b∈l,U.q6 d b):l.length<=(U.jp d).length:=by
 have:=L.nodup_len l ((List.range (U.jp d).length).map (fun(b:Nat)=>(b:Int))) c (fun x e=>by
  have:=a x e;unfold U.q6 at this;exact jEl.2 ⟨x.toNat,jD8.2 (by omega),by omega⟩)
 simpa using this
section
variable {r:RoD} {l:List ShD} {i:Nat}
theorem jvr (u:U.zo (U.rd r)=true) (v:∀s∈l,s∈U.jW (U.rd r)) (nd:l.Nodup) (h:i<l.length) {x:List (List Int)×List Int} (y:U.vR (U.rd r,U.gT r,U.wm r,U.jCP r,()) l i x)
 (k:U.ki (U.zn l l.length) (nth l i)=true):(nth x.1 (U.jcA (nth l i)).toNat++[U.joi (nth l i)]).Nodup/\(∀b∈nth x.1 (U.jcA (nth l i)).toNat++[U.joi (nth l i)],U.q6 (U.rd r) b)/\
  ∀b∈nth x.1 (U.jcA (nth l i)).toNat++[U.joi (nth l i)],∃j:Nat,j<i+1/\U.yI (nth l j)=(b,((U.jcA (nth l i)).toNat:Int),())/\kx (Ty.dflt tSh) (zl tSt (U.yI (nth l j)) (U.zn l l.length))=nth l j:=by
 obtain⟨A,B,q⟩:=y;have w:=jhV u (v _ (L.mem_nth h));have d:kx (Ty.dflt tSh) (zl tSt (U.yI (nth l i)) (U.zn l l.length))=nth l i:=by
  unfold U.ki at k;simp only[jEe,jEc,jEq,decide_eq_true_eq] at k;exact k.1
 have o:((U.jcA (nth l i)).toNat:Int)=U.jcA (nth l i):=(by omega);obtain⟨z,m⟩:=q (U.jcA (nth l i)).toNat;refine⟨?_,fun b c=> ?_,fun b c=> ?_⟩
 .refine jEN.2 ⟨z,by simp,fun a t b c e=> ?_⟩;simp at c;subst c;subst e;obtain⟨_,j,n,f,g⟩:=m _ t;rw[o] at f;have p:U.yI (nth l j)=U.yI (nth l i):=f;rw[p,d] at g;have:=(List.nodup_iff_pairwise_ne.1 nd);rw[jEE] at this;refine this j i (by omega) h n ?_;rw[<-L.nth_lt,<-L.nth_lt h];exact g.symm
 .rcases jDU.1 c with c|c
  .exact(m b c).1
  .simp at c;subst c;exact w.2
 .rcases jDU.1 c with c|c
  .obtain⟨_,j,n,f,g⟩:=m b c;exact⟨j,by omega,f,g⟩
  .simp at c;subst c;exact⟨i,by omega,by rw[o];rfl,d⟩
theorem jwU {r:RoD} {x:List (List Int)×List Int} (a:U.vR r l i x):U.vR r l (i+1) x:=
 ⟨a.1,by have:=a.2.1;omega,fun p=>⟨(a.2.2 p).1,fun b c=>⟨((a.2.2 p).2 b c).1,by
  obtain⟨j,d,e⟩:=((a.2.2 p).2 b c).2
  exact⟨j,by omega,e⟩⟩⟩⟩
theorem jzI (g:U.zo (U.rd r)=true) (j:∀s∈l,s∈U.jW (U.rd r)) (nd:l.Nodup) (h:i<l.length) {x:List (List Int)×List Int} (a:U.vR r l i x):
 U.vR r l (i+1) (U.jnS (U.rd r) (U.gT r) (U.zn l l.length) x (nth l i)):=by
 unfold U.jnS;cases k:U.ki (U.zn l l.length) (nth l i) with
 |false=>rw[if_neg (by simp)];exact jwU a
 |true=>
  rw[if_pos rfl];have d:=jvr g j nd h a k;have m:=jhV g (j _ (L.mem_nth h))
  split
  .refine⟨by show(x.1.set _ _).length=_;rw[List.length_set];exact a.1,by have:=a.2.1;show x.2.length<=_;omega,fun p=> ?_⟩;have c:(U.jcA (nth l i)).toNat<x.1.length:=(by rw[a.1];omega);show(nth (x.1.set (U.jcA (nth l i)).toNat (nth x.1 (U.jcA (nth l i)).toNat++[U.joi (nth l i)])) p).Nodup/\_;rw[L.nth_set c]
   split
   .rename_i e;subst e;exact⟨d.1,fun b f=>⟨d.2.1 b f,d.2.2 b f⟩⟩
   .exact(jwU a).2.2 p
  .refine⟨a.1,?_,(jwU a).2.2⟩;have:=a.2.1;show(x.2++[U.zT (nth l i)]).length<=_;rw[jD2];simp;omega
end
theorem jsF {l:List (List Int)} (h:U.jAO l) (p:Nat):nth l p=[]:=by
 by_cases a:p<l.length
 .exact h _ (L.mem_nth a)
 .unfold nth;rw[jEh,List.getElem?_eq_none (by omega)];rfl
theorem jvq {r:RoD} {l:List ShD} (a:(U.wm r).length=(U.jj (U.jf (U.rd r))).length) (c:U.jAO (U.wm r)) (d:U.jCP r=U.q7):U.vR r l 0 (U.kk r l 0):=by
 refine⟨a,?_,fun p=> ?_⟩
 .show(U.jCP r).length<=0;rw[d];exact jDO 0
 .have e:nth (U.kk r l 0).1 p=[]:=jsF c p;rw[e];exact⟨List.nodup_nil,fun b f=>by cases f⟩
theorem jCA (m:List ((Int×Int×Unit)×ShD)) (s:ShD):U.ki m s= !(!decide (kx (Ty.dflt tSh) (zl tSt (U.yI s) m)=s)||decide (U.jyo s≠1)):=by
 unfold U.ki;by_cases h:U.jyo s=1<;>simp[h]
section
variable {r:RoD} {l:List ShD} {i:Nat}
theorem jsf (h:i<l.length) (a:U.ki (U.zn l l.length) (nth l i)=false):U.kk r l (i+1)=U.kk r l i:=by
 rw[jei h];unfold U.jnS;rw[a,if_neg (by simp)]
theorem jvs (h:i<l.length) (a:U.ki (U.zn l l.length) (nth l i)=true) (b:U.jrY (U.rd r) (U.gT r) (U.jcA (nth l i)) (nth (U.kk r l i).1 (U.jcA (nth l i)).toNat++[U.joi (nth l i)])=true):
 U.kk r l (i+1)=((U.kk r l i).1.set (U.jcA (nth l i)).toNat (nth (U.kk r l i).1 (U.jcA (nth l i)).toNat++[U.joi (nth l i)]),(U.kk r l i).2):=by
 rw[jei h];unfold U.jnS;rw[a,if_pos rfl,if_pos b]
theorem jzJ (h:i<l.length) (a:U.ki (U.zn l l.length) (nth l i)=true) (b:U.jrY (U.rd r) (U.gT r) (U.jcA (nth l i)) (nth (U.kk r l i).1 (U.jcA (nth l i)).toNat++[U.joi (nth l i)])=false):
 U.kk r l (i+1)=((U.kk r l i).1,(U.kk r l i).2++[U.zT (nth l i)]):=by
 rw[jei h];unfold U.jnS;rw[a,if_pos rfl,b,if_neg (by simp)]
end
theorem jhL:jfI:=by
 unfold jfI q92_5 q92_0 q92_4 q92_1 q92_3 q92_2;rintro⟨b,⟨⟩⟩ K;obtain⟨⟨hk,O⟩,⟨P,B⟩,C⟩:U.jyF (U.ko b):=K;have G:=(zJ hk).1;have u:=G.2.2;have v:(U.jW (U.rd (U.ko b))).length<=30:=(zp u).2.2.2.2.1;have I:b.2.2.2.2.2.2.2.1.length<=30:=v;have N:(U.zA (U.rd (U.ko b))).length<=30:=jDZ (jAs _) v;have g:∀s∈U.zA (U.rd (U.ko b)),s∈U.jW (U.rd (U.ko b)):=fun s D=>gG.1 D
 have w:=yG (U.rd (U.ko b));have M:(U.jp (U.rd (U.ko b))).length<=4:=(zp u).1;refine⟨by show b.2.2.2.2.2.2.2.1.length<=100000;omega,fun _ _ _ _=>trivial,jDq hk,fun _=>⟨⟨0,⟨⟨rfl,trivial⟩,rfl,trivial⟩,jDV _⟩,fun x J=>⟨fun h=> ?_,fun h _=>⟨⟨0,⟨⟨rfl,trivial⟩,rfl,rfl,trivial⟩,jDV _,jvq (r:=U.ko b) P B C⟩,fun y n=>⟨fun t=> ?_,fun t=> ?_⟩⟩⟩⟩⟩
 .have h:(x:Int)<((U.zA (U.rd (U.ko b))).length:Int):=of_decide_eq_true h;have D:=jji (l:=U.zA (U.rd (U.ko b))) (i:=x) (by omega);exact⟨by omega,h,L.in64 (by omega) (by omega),x+1,⟨⟨by simp,trivial⟩,D.symm,trivial⟩,by show x+1<=(U.zA (U.rd (U.ko b))).length;omega,by show(U.zA (U.rd (U.ko b))).length-(x+1)<(U.zA (U.rd (U.ko b))).length-x;omega⟩
 .have J:x<=(U.zA (U.rd (U.ko b))).length:=J;have h:¬(x:Int)<((U.zA (U.rd (U.ko b))).length:Int):=of_decide_eq_false h;have E:x=(U.zA (U.rd (U.ko b))).length:=(by omega);have t:(y:Int)<((U.zA (U.rd (U.ko b))).length:Int):=of_decide_eq_true t;have a:y<(U.zA (U.rd (U.ko b))).length:=(by omega);obtain⟨_,e⟩:y<=(U.zA (U.rd (U.ko b))).length/\U.vR (U.ko b) (U.zA (U.rd (U.ko b))) y (U.kk (U.ko b) (U.zA (U.rd (U.ko b))) y):=n;have c:=jzI (r:=U.ko b) u g w a e;rw[<-jei a] at c;have F:y+1<=(U.zA (U.rd (U.ko b))).length:=a;have A:(U.zA (U.rd (U.ko b))).length-(y+1)<(U.zA (U.rd (U.ko b))).length-y:=(by omega);have q:=jhV u (g _ (L.mem_nth a));have o:=jCA (U.zn (U.zA (U.rd (U.ko b))) (U.zA (U.rd (U.ko b))).length) (nth (U.zA (U.rd (U.ko b))) y);subst E;refine⟨by omega,t,fun p=> ?_,fun p=> ?_⟩
  .have f:U.ki (U.zn (U.zA (U.rd (U.ko b))) (U.zA (U.rd (U.ko b))).length) (nth (U.zA (U.rd (U.ko b))) y)=false:=by
    rw[o];have p:(!decide (kx (Ty.dflt tSh) (zl tSt (U.yI (nth (U.zA (U.rd (U.ko b))) y)) (U.zn (U.zA (U.rd (U.ko b))) (U.zA (U.rd (U.ko b))).length))=nth (U.zA (U.rd (U.ko b))) y)||decide (U.jyo (nth (U.zA (U.rd (U.ko b))) y)≠1))=true:=p;rw[p];rfl
   have d:=jsf (r:=U.ko b) a f;exact⟨L.in64 (by omega) (by omega),y+1,⟨⟨by simp,trivial⟩,congrArg (·.2) d.symm,congrArg (·.1) d.symm,trivial⟩,⟨F,c⟩,A⟩
  .have f:U.ki (U.zn (U.zA (U.rd (U.ko b))) (U.zA (U.rd (U.ko b))).length) (nth (U.zA (U.rd (U.ko b))) y)=true:=by
    rw[o];have p:(!decide (kx (Ty.dflt tSh) (zl tSt (U.yI (nth (U.zA (U.rd (U.ko b))) y)) (U.zn (U.zA (U.rd (U.ko b))) (U.zA (U.rd (U.ko b))).length))=nth (U.zA (U.rd (U.ko b))) y)||decide (U.jyo (nth (U.zA (U.rd (U.ko b))) y)≠1))=false:=p;rw[p];rfl
   have j:=jvr (r:=U.ko b) u g w a e f;have z:=jCZ j.1 j.2.1;have H:(nth (U.kk (U.ko b) (U.zA (U.rd (U.ko b))) y).1 (U.jcA (nth (U.zA (U.rd (U.ko b))) y)).toNat).length<=4:=by
    rw[jD2] at z;omega
   have k:0<=U.jcA (nth (U.zA (U.rd (U.ko b))) y):=q.1.1;have m:U.jcA (nth (U.zA (U.rd (U.ko b))) y)<((U.kk (U.ko b) (U.zA (U.rd (U.ko b))) y).1.length:Int):=(by rw[e.1];exact q.1.2);have Q:=e.2.1;refine⟨k,m,k,m,k,m,rfl,rfl,?_,rfl,⟨G,O⟩,q.1,⟨jDZ z (by omega),j.2.1⟩,fun n=> ?_,fun n=> ?_⟩
   .show((nth (U.kk (U.ko b) (U.zA (U.rd (U.ko b))) y).1 (U.jcA (nth (U.zA (U.rd (U.ko b))) y)).toNat).length+1)*8<=140737488355328;omega
   .have d:=jvs (r:=U.ko b) a f n;exact⟨k,m,L.in64 (by omega) (by omega),y+1,⟨⟨by simp,trivial⟩,congrArg (·.2) d.symm,congrArg (·.1) d.symm,trivial⟩,⟨F,c⟩,A⟩
   .have d:=jzJ (r:=U.ko b) a f n;refine⟨?_,L.in64 (by omega) (by omega),y+1,⟨⟨by simp,trivial⟩,congrArg (·.1) d.symm,⟨rfl,rfl,rfl,rfl,rfl,rfl,rfl,rfl,trivial,trivial,trivial,trivial⟩,congrArg (·.2) d.symm,trivial⟩,⟨F,c⟩,A⟩;show((U.kk (U.ko b) (U.zA (U.rd (U.ko b))) y).2.length+1)*8<=140737488355328;omega
 .have t:¬(y:Int)<((U.zA (U.rd (U.ko b))).length:Int):=of_decide_eq_false t;have n:=n.1;have n:y<=(U.zA (U.rd (U.ko b))).length:=n;have a:y=(U.zA (U.rd (U.ko b))).length:=(by omega);subst a;exact⟨rfl,rfl⟩
theorem jkC:wE PR 120 jku:=jym Tryz.sortI 3 (wl Tryz.func120 (c:=zw Tryz.f120) (by kernel_rfl) (by kernel_rfl))
theorem jf2:wE PR 80 jfU:=ji9 jgw jhL Tryz.func80 (kcC jq6 (kcC jbk kcN)) (koC gP (koC qO (koC jkC koN)))
end Go.X
namespace Go.X
open Go.Proofs
namespace U
def jaq (l:List Int) (n:Nat):Int:=(l.take n).foldl (fun s p=>bor s (1*2^p.toNat)) 0
def jsj (l:List Int):Int:=jaq l l.length
def kf (d:DyD) (n:Nat):List Int:=((jp d).take n).map (fun b=>jsj (vY (jf d) (jfE b)))
def jBP (d:DyD):List (List Int):=List.replicate (jj (jf d)).length q7
def jpT (d:DyD):RoD:=(d,kf d (jp d).length,jBP d,q7,())
def jom (d:DyD):RoD:=(d,kf d (jp d).length,(qH (jpT d)).1,(qH (jpT d)).2,())
def zk (d:DyD):Option RoD:=if jz d=0 then some (jom d) else none
end U
def joc:zr:=⟨[.val tDy,.nil true],[.cl (.dat (.ptr tRo)),.cl (.dat .int)],fun d=>[(U.jW d.1).length<=100000],fun d=>((U.zk d.1,U.jz d.1,()),())⟩
def jxW:Ann:=fun r=>match r with
 |8=>some fun σ=>{X:=Nat,sl:=fun i=>[(39,.dat .int (i:Int))],ob:=fun i=>[(27,some (.box 72 false (((bx σ 27).set 8 (.own (qS 27 8) .int)).set 10 (.own (qS 27 10) .int)))),(qS 27 10,some (.row 3 .int false .yes U.q7)),(qS 27 8,some (.row 3 .int false .yes (U.kf (gb tDy σ 2) i)))],inv:=fun i=>i<=(U.jp (gb tDy σ 2)).length,mu:=fun i=>(U.jp (gb tDy σ 2)).length-i}
 |13=>some fun σ=>{X:=Nat,sl:=fun i=>[(53,.dat .int (i:Int)),(12,.dat .int (U.jaq (gd (.slice .int) σ 51) i))],ob:=fun _=>[],inv:=fun i=>i<=(gd (.slice .int) σ 51).length,mu:=fun i=>(gd (.slice .int) σ 51).length-i}
 |3000005=>some fun _=>{X:=Unit,sl:=fun _=>[],ob:=fun _=>[],inv:=fun _=>True,mu:=fun _=>0}
 |_=>none
abbrev q93_1 (d:DyD×Unit×Unit)(x:Nat):=(U.vY d.1.1 (nth d.1.2.2.1 (x:Int).toNat).1)
abbrev q93_2 (d:DyD×Unit×Unit):=(d.1.1.1=d.1.1.1/\d.1.1.2.1=d.1.1.2.1/\d.1.1.2.2.1=d.1.1.2.2.1/\d.1.2.1=d.1.2.1/\d.1.2.2.1=d.1.2.2.1/\d.1.2.2.2.1=d.1.2.2.2.1/\d.1.2.2.2.2.1=d.1.2.2.2.2.1/\d.1.2.2.2.2.2.1=d.1.2.2.2.2.2.1/\True/\True/\True/\True)
abbrev q93_4 (d:DyD×Unit×Unit):=(d.1.1.2.1.length:Int)
abbrev q93_3 (d:DyD×Unit×Unit)(x:Nat):=(U.ko (d.1.1.1,d.1.1.2.1,d.1.1.2.2.1,d.1.2.1,d.1.2.2.1,d.1.2.2.2.1,d.1.2.2.2.2.1,d.1.2.2.2.2.2.1,U.kf d.1 x,List.replicate (q93_4 d).toNat [],U.q7,()))
abbrev q93_0 (d:DyD×Unit×Unit)(x:Nat):=(U.jhP (d.1.1.1,d.1.1.2.1,d.1.1.2.2.1,d.1.2.1,d.1.2.2.1,d.1.2.2.2.1,d.1.2.2.2.2.1,d.1.2.2.2.2.2.1,U.kf d.1 x,List.replicate (q93_4 d).toNat [],U.q7,()) (U.qH (q93_3 d x)))
def jnD:Prop:=∀(d:DyD×Unit×Unit),(U.jW d.1).length<=100000->(U.jW d.1).length<=100000/\(decide (U.jz d.1≠0)=true->(none,U.jz d.1,())=(U.zk d.1,U.jz d.1,())/\()=())/\(decide (U.jz d.1≠0)=false->0<=(q93_4 d)/\(q93_4 d)=(q93_4 d)/\(q93_4 d).toNat*24<=140737488355328/\((!true)=true->(!true)=true/\(!true)=true/\False)/\((!true)=false->(!true)=false/\(!true)=false/\(!true)=false/\(!true)=false/\(false=true->(none,(1:Int),())=(U.zk d.1,U.jz d.1,())/\()=())/\(false=false->d.1.2.2.1.length<4611686018427387904->(∃(x:Nat),((0=(x:Int)/\True)/\(q93_2 d)/\U.q7=[]/\U.kf d.1 x=[]/\True)/\x<=(U.jp d.1).length)/\∀(x:Nat),x<=(U.jp d.1).length->(decide ((x:Int)<(d.1.2.2.1.length:Int))=true->0<=(x:Int)/\(x:Int)<(d.1.2.2.1.length:Int)/\((q93_1 d x).length<4611686018427387904->(∃(a:Nat),((0=(a:Int)/\0=U.jaq (q93_1 d x) a/\True)/\True)/\a<=(q93_1 d x).length)/\∀(a:Nat),a<=(q93_1 d x).length->(decide ((a:Int)<(↑(q93_1 d x).length:Int))=true->0<=(a:Int)/\(a:Int)<(↑(q93_1 d x).length:Int)/\0<=nth (q93_1 d x) (a:Int).toNat/\nth (q93_1 d x) (a:Int).toNat<=64/\jA ((1:Int)*2^(nth (q93_1 d x) (a:Int).toNat).toNat)/\jA ((a:Int)+1)/\∃(b:Nat),(((a:Int)+1=(b:Int)/\bor (U.jaq (q93_1 d x) a) ((1:Int)*2^(nth (q93_1 d x) (a:Int).toNat).toNat)=U.jaq (q93_1 d x) b/\True)/\True)/\b<=(q93_1 d x).length/\(q93_1 d x).length-b<(q93_1 d x).length-a)/\(decide ((a:Int)<(↑(q93_1 d x).length:Int))=false->((U.kf d.1 x).length+[U.jaq (q93_1 d x) a].length)*8<=140737488355328/\jA ((x:Int)+1)/\∃(b:Nat),(((x:Int)+1=(b:Int)/\True)/\U.q7=U.q7/\(q93_2 d)/\U.kf d.1 x++[U.jaq (q93_1 d x) a]=U.kf d.1 b/\True)/\b<=(U.jp d.1).length/\(U.jp d.1).length-b<(U.jp d.1).length-x)))/\(decide ((x:Int)<(d.1.2.2.1.length:Int))=false->U.jyF (q93_3 d x)/\(some ((((q93_0 d x).1,(q93_0 d x).2.1,(q93_0 d x).2.2.1,()),(q93_0 d x).2.2.2.1,(q93_0 d x).2.2.2.2.1,(q93_0 d x).2.2.2.2.2.1,(q93_0 d x).2.2.2.2.2.2.1,(q93_0 d x).2.2.2.2.2.2.2.1,()),(q93_0 d x).2.2.2.2.2.2.2.2.1,(q93_0 d x).2.2.2.2.2.2.2.2.2.1,(q93_0 d x).2.2.2.2.2.2.2.2.2.2.1,()),(0:Int),())=(U.zk d.1,U.jz d.1,())/\()=()))))
end Go.X
namespace Go.X
open Go.Proofs
theorem jfV {l:List Int} {i:Nat} (h:i<l.length):U.jaq l (i+1)=bor (U.jaq l i) (1*2^(nth l i).toNat):=by
 unfold U.jaq;rw[L.take_succ h,jEo];rfl
theorem jwE {d:DyD} {i:Nat} (h:i<(U.jp d).length):U.kf d (i+1)=U.kf d i++[U.jsj (U.vY (U.jf d) (U.jfE (nth (U.jp d) i)))]:=by
 unfold U.kf;rw[L.take_succ h,jEH];rfl
theorem jyM (d:DyD) (i:Nat):(U.kf d i).length<=i:=by
 unfold U.kf;rw[jEX,jEf];omega
theorem jwC {c:CrD} (h:U.ju c=true) {j:JbD} {p:Int} (a:p∈U.vY c j):0<=p/\p<8:=by
 have d:=(jI h).2.2.1;unfold U.vY at a
 split at a
 .unfold U.vw at a;obtain⟨n,b,rfl⟩:=jEl.1 a;have:=jD8.1 (jEb.1 b).1;omega
 .cases a
theorem jAS {c:CrD} (h:U.ju c=true) (j:JbD):(U.vY c j).length<=8:=by
 have a:=(jI h).2.2.1;unfold U.vY
 split
 .unfold U.vw;rw[jEX];exact jDZ (List.length_filter_le _ _) (by simpa using a)
 .exact jDV _
theorem jvS {d:DyD} (h:U.jz d=0):U.jyF (U.jpT d):=by
 refine⟨⟨h,?_⟩,⟨?_,fun x a=> ?_⟩,rfl⟩
 .show(U.kf d (U.jp d).length).length=(U.jp d).length;unfold U.kf;simp
 .show(U.jBP d).length=(U.jj (U.jf d)).length;unfold U.jBP;simp
 .have a:x∈U.jBP d:=a;unfold U.jBP at a;exact(List.mem_replicate.1 a).2
theorem jrp:jnD:=by
 unfold jnD q93_0 q93_3 q93_4 q93_2 q93_1;rintro⟨d,⟨⟩,⟨⟩⟩ j;refine⟨j,fun h=>⟨?_,rfl⟩,fun h=>⟨jD6 _,rfl,?_,fun c=>(by cases c),fun _=>⟨rfl,rfl,rfl,rfl,fun c=>(by cases c),fun _=> ?_⟩⟩⟩
 .have h:U.jz d≠0:=of_decide_eq_true h;show(none,U.jz d,())=(U.zk d,U.jz d,());unfold U.zk;rw[if_neg h]
 .have hk:U.jz d=0:=Classical.not_not.1 (of_decide_eq_false h);have e:=(jI (zJ hk).1.1).2.2.1;have e:d.1.2.1.length<=8:=e;show((d.1.2.1.length:Int)).toNat*24<=140737488355328;omega
 have hk:U.jz d=0:=Classical.not_not.1 (of_decide_eq_false h);clear j h;have f:=(zJ hk).1;have r:=f.2.2;have g:(U.jp d).length<=4:=(zp r).1;have n:d.2.2.1.length<=4:=g;refine fun _=>⟨⟨0,⟨⟨rfl,trivial⟩,⟨rfl,rfl,rfl,rfl,rfl,rfl,rfl,rfl,trivial,trivial,trivial,trivial⟩,rfl,rfl,trivial⟩,jDV _⟩,fun x o=>⟨fun h=>⟨by omega,of_decide_eq_true h,fun _=>⟨⟨0,⟨⟨rfl,rfl,trivial⟩,trivial⟩,jDV _⟩,fun y p=>⟨fun a=> ?_,fun a=> ?_⟩⟩⟩,fun h=> ?_⟩⟩
 .have a:(y:Int)<((U.vY (U.jf d) (nth d.2.2.1 (x:Int).toNat).1).length:Int):=of_decide_eq_true a;have b:y<(U.vY (U.jf d) (nth d.2.2.1 (x:Int).toNat).1).length:=(by omega);have s:=jwC f.1 (L.mem_nth b);have k:=jfV b;have e:=jAS f.1 (nth d.2.2.1 (x:Int).toNat).1;have q:BT.Set' ((2:Int)^(nth (U.vY (U.jf d) (nth d.2.2.1 (x:Int).toNat).1) y).toNat):=BT.two_set (by omega);unfold BT.Set' at q;exact⟨by omega,a,s.1,by show nth (U.vY (U.jf d) (nth d.2.2.1 (x:Int).toNat).1) y<=64;omega,by show jA (1*2^(nth (U.vY (U.jf d) (nth d.2.2.1 (x:Int).toNat).1) y).toNat);rw[jbg];exact L.in64 (by omega) (by omega),L.in64 (by omega) (by omega),y+1,⟨⟨by simp,k.symm,trivial⟩,trivial⟩,by show y+1<=(U.vY (U.jf d) (nth d.2.2.1 (x:Int).toNat).1).length;omega,by show(U.vY (U.jf d) (nth d.2.2.1 (x:Int).toNat).1).length-(y+1)<(U.vY (U.jf d) (nth d.2.2.1 (x:Int).toNat).1).length-y;omega⟩
 .have h:(x:Int)<((U.jp d).length:Int):=of_decide_eq_true h;have k:=jwE (d:=d) (i:=x) (by omega);have j:=jyM d x;have p:y<=(U.vY (U.jf d) (nth d.2.2.1 (x:Int).toNat).1).length:=p;have a:¬(y:Int)<((U.vY (U.jf d) (nth d.2.2.1 (x:Int).toNat).1).length:Int):=of_decide_eq_false a;have m:y=(U.vY (U.jf d) (nth d.2.2.1 (x:Int).toNat).1).length:=(by omega);subst m;refine⟨?_,L.in64 (by omega) (by omega),x+1,⟨⟨by simp,trivial⟩,rfl,⟨rfl,rfl,rfl,rfl,rfl,rfl,rfl,rfl,trivial,trivial,trivial,trivial⟩,k.symm,trivial⟩,by show x+1<=(U.jp d).length;omega,by show(U.jp d).length-(x+1)<(U.jp d).length-x;omega⟩;show((U.kf d x).length+1)*8<=140737488355328;omega
 .have h:¬(x:Int)<((U.jp d).length:Int):=of_decide_eq_false h;have o:x<=(U.jp d).length:=o;have l:x=(U.jp d).length:=(by omega);subst l;refine⟨jvS hk,?_⟩;refine⟨?_,rfl⟩;show(some (U.jom d),(0:Int),())=(U.zk d,U.jz d,());unfold U.zk;rw[if_pos hk,hk]
theorem jbl:wE PR 39 joc:=ji9 jxW jrp Tryz.func39 (kcC jlm (kcC jyE kcN)) (koC jf2 koN)
end Go.X
namespace Go.X
open Go.Proofs
namespace U
def wV (d:DyD) (n:Nat):List Int:=(List.range n).map (fun(b:Nat)=>jfM (wm (jom d)) (b:Int))
def jkl (d:DyD):List Int:=if jz d=0 then wV d (jp d).length else[]
def jky (d:DyD):List Int:=if jz d=0 then jCP (jom d) else[]
def jo3 (d:DyD) (p:Int):Bool:=ja p 0 (((jj (jf d)).length:Int)-1)
def jwS (d:DyD) (b:Int):Bool:=ja b 0 (((jp d).length:Int)-1)
end U
def jtF:jO:=⟨[.val tDy],[.slice .int,.int],false,fun d=>[(U.jW d.1).length<=100000],fun d=>(U.jkl d.1,U.jz d.1,())⟩
def juU:Ann:=fun r=>match r with
 |6=>some fun σ=>{X:=Nat,sl:=fun i=>[(19,.dat .int (i:Int)),(6,.own 6 .int)],ob:=fun i=>[(6,some (.row 3 .int false .yes (U.wV (gb tDy σ 1) i)))],inv:=fun i=>i<=(U.jp (gb tDy σ 1)).length,mu:=fun i=>(U.jp (gb tDy σ 1)).length-i}
 |_=>none
def jtn:Prop:=∀(d:DyD×Unit),(U.jW d.1).length<=100000->(U.jW d.1).length<=100000/\(decide (U.jz d.1≠0)=true->([],U.jz d.1,())=(U.jkl d.1,U.jz d.1,()))/\(decide (U.jz d.1≠0)=false->d.1.2.2.1.length<4611686018427387904->(∃(x:Nat),((0=(x:Int)/\True/\True)/\U.wV d.1 x=[]/\True)/\x<=(U.jp d.1).length)/\∀(x:Nat),x<=(U.jp d.1).length->(decide ((x:Int)<(d.1.2.2.1.length:Int))=true->(U.zk d.1).isSome=true/\(U.wm (U.ro (U.zk d.1))).length<=60/\((U.wV d.1 x).length+[U.jfM (U.wm (U.ro (U.zk d.1))) (x:Int)].length)*8<=140737488355328/\jA ((x:Int)+1)/\∃(a:Nat),(((x:Int)+1=(a:Int)/\True/\True)/\U.wV d.1 x++[U.jfM (U.wm (U.ro (U.zk d.1))) (x:Int)]=U.wV d.1 a/\True)/\a<=(U.jp d.1).length/\(U.jp d.1).length-a<(U.jp d.1).length-x)/\(decide ((x:Int)<(d.1.2.2.1.length:Int))=false->(U.wV d.1 x,(0:Int),())=(U.jkl d.1,U.jz d.1,())))
def jn6:jO:=⟨[.val tDy],[.slice .int,.int],false,fun d=>[(U.jW d.1).length<=100000],fun d=>(U.jky d.1,U.jz d.1,())⟩
def jnL:Prop:=∀(d:DyD×Unit),(U.jW d.1).length<=100000->(U.jW d.1).length<=100000/\(decide (U.jz d.1≠0)=true->([],U.jz d.1,())=(U.jky d.1,U.jz d.1,()))/\(decide (U.jz d.1≠0)=false->(U.zk d.1).isSome=true/\((jQ ((((0:Int),[],[],()),[],[],(0:Int),(0:Int),[],()),[],[],[],()) (U.zk d.1)).2.2.2.1,(0:Int),())=(U.jky d.1,U.jz d.1,()))
end Go.X
namespace Go.X
open Go.Proofs
theorem jqk {r:RoD} {l:List ShD} (d:U.zo (U.rd r)=true) (e:∀s∈l,s∈U.jW (U.rd r)) (nd:l.Nodup) (a:(U.wm r).length=(U.jj (U.jf (U.rd r))).length) (b:U.jAO (U.wm r)) (c:U.jCP r=U.q7):
 ∀i,i<=l.length->U.vR r l i (U.kk r l i)
 |0,_=>jvq a b c
 |i+1,hi=>by
  rw[jei hi]
  exact jzI d e nd hi (jqk d e nd a b c i (by omega))
structure jBG (d:DyD):Prop where
 may:U.joS (U.jom d)
 len:(U.wm (U.jom d)).length=(U.jj (U.jf d)).length
 row:∀p,(nth (U.wm (U.jom d)) p).Nodup/\∀b∈nth (U.wm (U.jom d)) p,U.q6 d b
theorem jsr {d:DyD} (h:U.jz d=0):jBG d:=by
 obtain⟨⟨_,i⟩,⟨j,c⟩,e⟩:=jvS h;have f:=(zJ h).1;have a:=jqk (r:=U.jpT d) (l:=U.zA d) f.2.2 (fun s k=>gG.1 k) (yG d) j c e _ (jDO _);refine⟨⟨f,i⟩,a.1,fun p=> ?_⟩;have:=a.2.2 p;exact⟨this.1,fun b g=>(this.2 b g).1⟩
theorem jBG.len60 {d:DyD} (h:jBG d):(U.wm (U.jom d)).length<=60:=by
 have a:=(jI h.may.1.1).2.2.1;have a:(U.jj (U.jf d)).length<=8:=a;rw[h.len];omega
theorem jwc {d:DyD} (h:U.jz d=0):U.zk d=some (U.jom d):=if_pos h
theorem jtu (d:DyD) (n:Nat):U.wV d (n+1)=U.wV d n++[U.jfM (U.wm (U.jom d)) (n:Int)]:=by
 unfold U.wV;rw[jEz,jEH];rfl
theorem jw6:jtn:=by
 rintro⟨d,⟨⟩⟩ j;refine⟨j,fun h=> ?_,fun h _=>⟨⟨0,⟨⟨rfl,trivial,trivial⟩,rfl,trivial⟩,jDV _⟩,fun x g=>⟨fun a=> ?_,fun a=> ?_⟩⟩⟩
 .have h:U.jz d≠0:=of_decide_eq_true h;show([],U.jz d,())=(U.jkl d,U.jz d,());unfold U.jkl;rw[if_neg h]
 .have hk:U.jz d=0:=Classical.not_not.1 (of_decide_eq_false h);have f:=jsr hk;have i:(U.jp d).length<=4:=(zp f.may.1.2.2).1;have a:(x:Int)<((U.jp d).length:Int):=of_decide_eq_true a;have k:=jtu d x;have e:(U.wV d x).length=x:=(by unfold U.wV;simp);have b:=jwc hk;refine⟨by show(U.zk d).isSome=true;rw[b];rfl,by show(U.wm (U.ro (U.zk d))).length<=60;rw[b];exact f.len60,?_,L.in64 (by omega) (by omega),x+1,⟨⟨by simp,trivial,trivial⟩,?_,trivial⟩,by show x+1<=(U.jp d).length;omega,by show(U.jp d).length-(x+1)<(U.jp d).length-x;omega⟩
  .show((U.wV d x).length+1)*8<=_;omega
  .show U.wV d x++[U.jfM (U.wm (U.ro (U.zk d))) (x:Int)]=U.wV d (x+1);rw[b,k];rfl
 .have hk:U.jz d=0:=Classical.not_not.1 (of_decide_eq_false h);have g:x<=(U.jp d).length:=g;have a:¬(x:Int)<((U.jp d).length:Int):=of_decide_eq_false a;have c:x=(U.jp d).length:=(by omega);subst c;show(U.wV d _,(0:Int),())=(U.jkl d,U.jz d,());unfold U.jkl;rw[if_pos hk,hk]
theorem jtY:ze PR 18 jtF:=wa juU jw6 Tryz.func18 (kcC jhz kcN) (koC jbl koN)
theorem jrw:jnL:=by
 rintro⟨d,⟨⟩⟩ b;refine⟨b,fun h=> ?_,fun h=> ?_⟩
 .have h:U.jz d≠0:=of_decide_eq_true h;show([],U.jz d,())=(U.jky d,U.jz d,());unfold U.jky;rw[if_neg h]
 .have hk:U.jz d=0:=Classical.not_not.1 (of_decide_eq_false h);have a:=jwc hk;refine⟨by show(U.zk d).isSome=true;rw[a];rfl,?_⟩;show(U.jCP (U.ro (U.zk d)),(0:Int),())=(U.jky d,U.jz d,());unfold U.jky;rw[if_pos hk,hk,a];rfl
theorem joP:ze PR 20 jn6:=jL jrw Tryz.func20 kcN (koC jbl koN)
end Go.X
namespace Go.X
open Go.Proofs
theorem jda {l:List Int} (h:∀p∈l,0<=p/\p<8):∀n,n<=l.length->BT.Set' (U.jaq l n)/\∀q,BT.has (U.jaq l n) q=true->q<8
 |0,_=>⟨BT.zero_set,fun q a=>by rw[show U.jaq l 0=0 from rfl,BT.has_zero] at a;cases a⟩
 |n+1,d=>by
  have b:=jda h n (by omega)
  have e:=h _ (L.mem_nth (l:=l) (i:=n) (by omega))
  have c:BT.Set' ((2:Int)^(nth l n).toNat):=BT.two_set (by omega)
  rw[jfV (by omega),jbg]
  refine⟨BT.bor_set b.1 c,fun q a=> ?_⟩
  rw[BT.has_bor b.1 c,jE6,BT.has_two,decide_eq_true_eq] at a
  rcases a with a|a
  .exact b.2 q a
  .omega
end Go.X
namespace Go.X
open Go.Proofs
abbrev tSe:Ty:= .st [.ptr tRo,.slice (.slice .int),.slice .int,.slice .int,.int,.bool]
abbrev jDA:Sh:= .box 70 [.dat (.ptr tRo),.row 33 (.slice .int) .unk,.row 3 .int .no,.row 3 .int .unk,.dat .int,.dat .bool]
abbrev SeD:Type:=Option RoD×List (List Int)×List Int×List Int×Int×Bool×Unit
abbrev StD:Type:=List Int×List Int×Int×Bool
namespace U
def kJ (ts:List Int) (p:Int) (n:Nat):List Int:=((List.range n).filter (fun i=>decide (vG (nth ts i/2^p.toNat) 1=1))).map (fun(i:Nat)=>(i:Int))
def vn (r:RoD) (ts:List Int) (b n:Nat):Bool:=(List.range n).all (fun p=>jaO r (p:Int) (kJ ts (p:Int) (b+1)))
def wS (r:RoD) (ch:List (List Int)):Nat->Nat->Int->StD->StD
 |0,_,_,x=>x
 |k+1,b,fee,x=>
  if(x.2.2.2&&decide (x.2.2.1<=fee))=true then x
  else if b=(jp (rd r)).length then(x.1,x.1,fee,true)
  else(nth ch b).foldl (fun x t=>if vn r (x.1.set b t) b (wm r).length=true then wS r ch k (b+1) (fee+vC (rd r) t) (x.1.set b t,x.2) else(x.1.set b t,x.2)) x
def jmf (r:RoD) (ch:List (List Int)) (k b:Nat) (fee:Int) (x:StD) (t:Int):StD:=
 if vn r (x.1.set b t) b (wm r).length=true then wS r ch k (b+1) (fee+vC (rd r) t) (x.1.set b t,x.2) else(x.1.set b t,x.2)
def jl (r:RoD) (ch:List (List Int)) (k b:Nat) (fee:Int) (x:StD) (n:Nat):StD:=((nth ch b).take n).foldl (jmf r ch k b fee) x
def ji (s:SeD):StD:=(s.2.2.1,s.2.2.2.1,s.2.2.2.2.1,s.2.2.2.2.2.1)
def qM (s:SeD) (x:StD):SeD:=(s.1,s.2.1,x.1,x.2.1,x.2.2.1,x.2.2.2,())
def okCh (d:DyD) (ch:List (List Int)):Prop:=ch.length=(jp d).length/\∀l∈ch,∀t∈l,0<=t/\t<256
def jt2 (k:Nat) (s:SeD) (b fee:Int):Prop:=s.1.isSome=true/\joS (ro s.1)/\(wm (ro s.1)).length=(jj (jf (rd (ro s.1)))).length/\okCh (rd (ro s.1)) s.2.1/\s.2.2.1.length=(jp (rd (ro s.1))).length/\
 (0<=b/\b<=((jp (rd (ro s.1))).length:Int)/\((jp (rd (ro s.1))).length:Int)<b+k)/\0<=fee/\fee<=8000*b
end U
def vU:zr:=⟨[.own (.cl (.row 3 .int .no)) true],[rwI],fun d=>[d.1.length<=100000],fun d=>((d.1,()),(d.1,()))⟩
def jd8:Prop:=∀(d:List Int×Unit),d.1.length<=100000->(false=true->([],())=d/\d=d)/\(false=false->(0+d.1.length)*8<=140737488355328/\([]++d.1,())=d/\d=d)
def qI (k:Nat):zr:=⟨[.own jDA true,.val .int,.val .int],[],fun d=>[U.jt2 k d.1 d.2.1 d.2.2.1],fun d=>((),(U.qM d.1 (U.wS (U.ro d.1.1) d.1.2.1 k d.2.1.toNat d.2.2.1 (U.ji d.1)),()))⟩
def jhR (k:Nat):Ann:=fun r=>match r with
 |4=>some fun σ=>{X:=Nat,sl:=fun i=>[(58,.dat .int (i:Int)),(53,.any),(55,.any)],ob:=fun i=>[(1000000,some (.box 70 false (((bx σ 1000000).set 4 (.dat .int (U.jl (U.ro (gb tSe σ 1000000).1) (gb tSe σ 1000000).2.1 k (gd .int σ 1).toNat (gd .int σ 2) (U.ji (gb tSe σ 1000000)) i).2.2.1)).set 5 (.dat .bool (U.jl (U.ro (gb tSe σ 1000000).1) (gb tSe σ 1000000).2.1 k (gd .int σ 1).toNat (gd .int σ 2) (U.ji (gb tSe σ 1000000)) i).2.2.2)))),(400002,some (.row 3 .int false .no (U.jl (U.ro (gb tSe σ 1000000).1) (gb tSe σ 1000000).2.1 k (gd .int σ 1).toNat (gd .int σ 2) (U.ji (gb tSe σ 1000000)) i).1)),(400003,some (.row 3 .int false .unk (U.jl (U.ro (gb tSe σ 1000000).1) (gb tSe σ 1000000).2.1 k (gd .int σ 1).toNat (gd .int σ 2) (U.ji (gb tSe σ 1000000)) i).2.1))],inv:=fun i=>i<=(nth (gb tSe σ 1000000).2.1 (gd .int σ 1).toNat).length/\(U.jl (U.ro (gb tSe σ 1000000).1) (gb tSe σ 1000000).2.1 k (gd .int σ 1).toNat (gd .int σ 2) (U.ji (gb tSe σ 1000000)) i).1.length=(gb tSe σ 1000000).2.2.1.length,mu:=fun i=>(nth (gb tSe σ 1000000).2.1 (gd .int σ 1).toNat).length-i}
 |8=>some fun σ=>{X:=Nat,sl:=fun p=>[(77,.dat .int (p:Int))],ob:=fun _=>[],inv:=fun p=>p<=(U.wm (U.ro (gb tSe σ 1000000).1)).length/\U.vn (U.ro (gb tSe σ 1000000).1) (gr .int σ 400002) (gd .int σ 1).toNat p=true,mu:=fun p=>(U.wm (U.ro (gb tSe σ 1000000).1)).length-p}
 |12=>some fun σ=>{X:=Nat,sl:=fun i=>[(88,.dat .int (i:Int)),(9,.own 9 .int)],ob:=fun i=>[(9,some (.row 3 .int false .yes (U.kJ (gr .int σ 400002) (gd .int σ 8) i)))],inv:=fun i=>i<=(gd .int σ 1).toNat+1,mu:=fun i=>(gd .int σ 1).toNat+1-i}
 |_=>none
def jiS:Prop:=∀k:Nat,jt4 (ctx 125 [(83,ja6),(68,ja5)] [(82,vU),(41,qI k)]) (jhR k) Tryz.f41 (zw Tryz.f41) (qI (k+1))
abbrev q97_1 (d:(Option RoD×List (List Int)×List Int×List Int×Int×Bool×Unit)×Int×Int×Unit)(k:Nat)(x:Nat):=(U.jl (U.ro d.1.1) d.1.2.1 k d.2.1.toNat d.2.2.1 (U.ji d.1) x)
abbrev q97_3 (d:(Option RoD×List (List Int)×List Int×List Int×Int×Bool×Unit)×Int×Int×Unit)(k:Nat)(a:Nat):=(U.jl (U.ro d.1.1) d.1.2.1 k d.2.1.toNat d.2.2.1 (U.ji d.1) a)
abbrev q97_4 (d:(Option RoD×List (List Int)×List Int×List Int×Int×Bool×Unit)×Int×Int×Unit):=(jQ ((((0:Int),[],[],()),[],[],(0:Int),(0:Int),[],()),[],[],[],()) d.1.1)
abbrev q97_5 (d:(Option RoD×List (List Int)×List Int×List Int×Int×Bool×Unit)×Int×Int×Unit):=(nth d.1.2.1 d.2.1.toNat)
abbrev q97_2 (d:(Option RoD×List (List Int)×List Int×List Int×Int×Bool×Unit)×Int×Int×Unit)(k:Nat)(x:Nat):=((q97_1 d k x).1.set d.2.1.toNat (nth (q97_5 d) (x:Int).toNat))
abbrev q97_6 (d:(Option RoD×List (List Int)×List Int×List Int×Int×Bool×Unit)×Int×Int×Unit)(k:Nat)(x:Nat):=(d.1.1,d.1.2.1,(q97_1 d k x).1.set d.2.1.toNat (nth (q97_5 d) (x:Int).toNat),(q97_1 d k x).2.1,(q97_1 d k x).2.2.1,(q97_1 d k x).2.2.2,())
abbrev q97_0 (d:(Option RoD×List (List Int)×List Int×List Int×Int×Bool×Unit)×Int×Int×Unit)(k:Nat)(x:Nat):=(U.qM (q97_6 d k x) (U.wS (U.ro d.1.1) d.1.2.1 k (d.2.1+1).toNat (d.2.2.1+U.vC (U.rd (U.ro d.1.1)) (nth (q97_5 d) (x:Int).toNat)) (U.ji (q97_6 d k x))))
abbrev q97_7 (d:(Option RoD×List (List Int)×List Int×List Int×Int×Bool×Unit)×Int×Int×Unit)(k:Nat):=(U.qM d.1 (U.wS (U.ro d.1.1) d.1.2.1 (k+1) d.2.1.toNat d.2.2.1 (U.ji d.1)),())
def jan:Prop:=∀(k:Nat) (d:(Option RoD×List (List Int)×List Int×List Int×Int×Bool×Unit)×Int×Int×Unit),U.jt2 (k+1) d.1 d.2.1 d.2.2.1->((d.1.2.2.2.2.2.1&&decide (d.1.2.2.2.2.1<=d.2.2.1))=true->()=()/\(d.1,())=(q97_7 d k))/\((d.1.2.2.2.2.2.1&&decide (d.1.2.2.2.2.1<=d.2.2.1))=false->d.1.1.isSome=true/\((q97_4 d).1.2.2.1.length<4611686018427387904->(decide (d.2.1=(↑(q97_4 d).1.2.2.1.length:Int))=true->d.1.2.2.1.length<=100000/\()=()/\((d.1.1,d.1.2.1,d.1.2.2.1,d.1.2.2.1,d.2.2.1,true,()),())=(q97_7 d k))/\(decide (d.2.1=(↑(q97_4 d).1.2.2.1.length:Int))=false->0<=d.2.1/\d.2.1<(d.1.2.1.length:Int)/\((q97_5 d).length<4611686018427387904->(∃(x:Nat),((0=(x:Int)/\True)/\(d.1.1=d.1.1/\True/\True/\True/\d.1.2.2.2.2.1=(q97_1 d k x).2.2.1/\d.1.2.2.2.2.2.1=(q97_1 d k x).2.2.2/\True)/\d.1.2.2.1=(q97_1 d k x).1/\d.1.2.2.2.1=(q97_1 d k x).2.1/\True)/\x<=(q97_5 d).length/\(q97_1 d k x).1.length=d.1.2.2.1.length)/\∀(x:Nat),x<=(q97_5 d).length/\(q97_1 d k x).1.length=d.1.2.2.1.length->(decide ((x:Int)<(↑(q97_5 d).length:Int))=true->0<=(x:Int)/\(x:Int)<(↑(q97_5 d).length:Int)/\0<=d.2.1/\d.2.1<(↑(q97_1 d k x).1.length:Int)/\d.1.1.isSome=true/\((q97_4 d).2.2.1.length<4611686018427387904->(∃(a:Nat),((0=(a:Int)/\True)/\True)/\a<=(U.wm (U.ro d.1.1)).length/\U.vn (U.ro d.1.1) (q97_2 d k x) d.2.1.toNat a=true)/\∀(a:Nat),a<=(U.wm (U.ro d.1.1)).length/\U.vn (U.ro d.1.1) (q97_2 d k x) d.2.1.toNat a=true->(decide ((a:Int)<(↑(q97_4 d).2.2.1.length:Int))=true->jA (d.2.1+1)/\(0:Int)<=0/\0<=d.2.1+1/\d.2.1+1<=(↑(q97_2 d k x).length:Int)/\((d.2.1+1).toNat-Int.toNat 0<4611686018427387904->(∃(b:Nat),((0=(b:Int)/\True/\True)/\U.kJ (q97_2 d k x) (a:Int) b=[]/\True)/\b<=d.2.1.toNat+1)/\∀(b:Nat),b<=d.2.1.toNat+1->(decide ((b:Int)<(↑((d.2.1+1).toNat-Int.toNat 0):Int))=true->0<=(b:Int)/\(b:Int)<(↑((d.2.1+1).toNat-Int.toNat 0):Int)/\0<=(a:Int)/\(a:Int)<=64/\(decide (vG (nth (q97_2 d k x) (Int.toNat 0+(b:Int).toNat)/(2:Int)^(a:Int).toNat) (1:Int)=1)=true->((U.kJ (q97_2 d k x) (a:Int) b).length+[(b:Int)].length)*8<=140737488355328/\jA ((b:Int)+1)/\∃(c:Nat),(((b:Int)+1=(c:Int)/\True/\True)/\U.kJ (q97_2 d k x) (a:Int) b++[(b:Int)]=U.kJ (q97_2 d k x) (a:Int) c/\True)/\c<=d.2.1.toNat+1/\d.2.1.toNat+1-c<d.2.1.toNat+1-b)/\(decide (vG (nth (q97_2 d k x) (Int.toNat 0+(b:Int).toNat)/(2:Int)^(a:Int).toNat) (1:Int)=1)=false->jA ((b:Int)+1)/\∃(c:Nat),((True/\(b:Int)+1=(c:Int)/\True)/\U.kJ (q97_2 d k x) (a:Int) b=U.kJ (q97_2 d k x) (a:Int) c/\True)/\c<=d.2.1.toNat+1/\d.2.1.toNat+1-c<d.2.1.toNat+1-b))/\(decide ((b:Int)<(↑((d.2.1+1).toNat-Int.toNat 0):Int))=false->d.1.1.isSome=true/\U.joS (U.ro d.1.1)/\U.jt3 (U.rd (U.ro d.1.1)) (a:Int)/\U.joT (U.rd (U.ro d.1.1)) (U.kJ (q97_2 d k x) (a:Int) b)/\((!U.jaO (U.ro d.1.1) (a:Int) (U.kJ (q97_2 d k x) (a:Int) b))=true->jA ((x:Int)+1)/\∃(c:Nat),(((x:Int)+1=(c:Int)/\True)/\(q97_1 d k x).2.1=(q97_3 d k c).2.1/\(d.1.1=d.1.1/\True/\True/\True/\(q97_1 d k x).2.2.1=(q97_3 d k c).2.2.1/\(q97_1 d k x).2.2.2=(q97_3 d k c).2.2.2/\True)/\(q97_1 d k x).1.set d.2.1.toNat (nth (q97_5 d) (x:Int).toNat)=(q97_3 d k c).1/\True)/\(c<=(q97_5 d).length/\(q97_3 d k c).1.length=d.1.2.2.1.length)/\(q97_5 d).length-c<(q97_5 d).length-x)/\((!U.jaO (U.ro d.1.1) (a:Int) (U.kJ (q97_2 d k x) (a:Int) b))=false->jA ((a:Int)+1)/\∃(c:Nat),(((a:Int)+1=(c:Int)/\True)/\True)/\(c<=(U.wm (U.ro d.1.1)).length/\U.vn (U.ro d.1.1) (q97_2 d k x) d.2.1.toNat c=true)/\(U.wm (U.ro d.1.1)).length-c<(U.wm (U.ro d.1.1)).length-a))))/\(decide ((a:Int)<(↑(q97_4 d).2.2.1.length:Int))=false->jA (d.2.1+1)/\d.1.1.isSome=true/\U.ju (U.jf (U.rd (U.ro d.1.1)))=true/\0<=nth (q97_5 d) (x:Int).toNat/\nth (q97_5 d) (x:Int).toNat<=1000000/\jA (d.2.2.1+U.vC (U.rd (U.ro d.1.1)) (nth (q97_5 d) (x:Int).toNat))/\U.jt2 k (q97_6 d k x) (d.2.1+1) (d.2.2.1+U.vC (U.rd (U.ro d.1.1)) (nth (q97_5 d) (x:Int).toNat))/\jA ((x:Int)+1)/\∃(c:Nat),(((x:Int)+1=(c:Int)/\True)/\((q97_0 d k x).1=d.1.1/\True/\True/\True/\(q97_0 d k x).2.2.2.2.1=(q97_3 d k c).2.2.1/\(q97_0 d k x).2.2.2.2.2.1=(q97_3 d k c).2.2.2/\True)/\(q97_0 d k x).2.1=d.1.2.1/\(q97_0 d k x).2.2.2.1=(q97_3 d k c).2.1/\(q97_0 d k x).2.2.1=(q97_3 d k c).1/\True)/\(c<=(q97_5 d).length/\(q97_3 d k c).1.length=d.1.2.2.1.length)/\(q97_5 d).length-c<(q97_5 d).length-x)))/\(decide ((x:Int)<(↑(q97_5 d).length:Int))=false->()=()/\((d.1.1,d.1.2.1,(q97_1 d k x).1,(q97_1 d k x).2.1,(q97_1 d k x).2.2.1,(q97_1 d k x).2.2.2,()),())=(q97_7 d k))))))
theorem jcY:(jiS)=jan:=by kernel_rfl
end Go.X
namespace Go.X
open Go.Proofs
theorem jgj:jd8:=by
 rintro⟨l,⟨⟩⟩ a;have a:l.length<=100000:=a;exact⟨fun h=>(by cases h),fun _=>⟨by show(0+l.length)*8<=_;omega,rfl,rfl⟩⟩
theorem jeI:wE PR 82 vU:=jgN jgj Tryz.func82 kcN koN
theorem jtT (ts:List Int) (p:Int) (n:Nat):U.kJ ts p (n+1)=U.kJ ts p n++(if decide (vG (nth ts n/2^p.toNat) 1=1)=true then[(n:Int)] else[]):=by
 unfold U.kJ;rw[L.range_filter_succ,jEH];by_cases h:decide (vG (nth ts n/2^p.toNat) 1=1)=true
 .rw[if_pos h,if_pos h];rfl
 .rw[if_neg h,if_neg h];rfl
theorem joz (ts:List Int) (p:Int) (n:Nat):(U.kJ ts p n).length<=n:=by
 unfold U.kJ;rw[jEX];exact jDZ (List.length_filter_le _ _) (by simp)
theorem jv7 {ts:List Int} {p:Int} {n:Nat} {b:Int} (h:b∈U.kJ ts p n):0<=b/\b<(n:Int):=by
 unfold U.kJ at h;obtain⟨i,hi,rfl⟩:=jEl.1 h;have:=jD8.1 (jEb.1 hi).1;omega
theorem jqZ {r:RoD} {ts:List Int} {b n:Nat}:U.vn r ts b (n+1)=(U.vn r ts b n&&U.jaO r (n:Int) (U.kJ ts (n:Int) (b+1))):=by
 unfold U.vn;rw[jEz,List.all_append];simp
theorem joy {r:RoD} {ts:List Int} {b n m:Nat} (a:m<n) (h:U.jaO r (m:Int) (U.kJ ts (m:Int) (b+1))=false):U.vn r ts b n=false:=by
 unfold U.vn;rw[jEQ];exact⟨m,jD8.2 a,by rw[h];simp⟩
theorem jnV {r:RoD} {ch:List (List Int)} {k b:Nat} {fee:Int} {x:StD} {n:Nat} (h:n<(nth ch b).length):U.jl r ch k b fee x (n+1)=U.jmf r ch k b fee (U.jl r ch k b fee x n) (nth (nth ch b) n):=by
 unfold U.jl;rw[L.take_succ h,jEo];rfl
theorem jnU {r:RoD} {ch:List (List Int)} {k b:Nat} {fee:Int} {x:StD} (a:(x.2.2.2&&decide (x.2.2.1<=fee))=false) (c:b≠(U.jp (U.rd r)).length):U.wS r ch (k+1) b fee x=U.jl r ch k b fee x (nth ch b).length:=by
 show(if(x.2.2.2&&decide (x.2.2.1<=fee))=true then x else if b=(U.jp (U.rd r)).length then(x.1,x.1,fee,true) else(nth ch b).foldl (U.jmf r ch k b fee) x)=_;rw[a,if_neg (by simp),if_neg c];unfold U.jl;rw[jEC (jDO _)]
mutual
theorem jyk {r:RoD} {ch:List (List Int)}:∀(k b:Nat) (fee:Int) (x:StD),(U.wS r ch k b fee x).1.length=x.1.length
 |0,_,_,_=>rfl
 |k+1,b,fee,x=>by
  by_cases a:(x.2.2.2&&decide (x.2.2.1<=fee))=true
  .show(if(x.2.2.2&&decide (x.2.2.1<=fee))=true then x else _).1.length=_
   rw[if_pos a]
  .by_cases c:b=(U.jp (U.rd r)).length
   .show(if(x.2.2.2&&decide (x.2.2.1<=fee))=true then x else if b=(U.jp (U.rd r)).length then(x.1,x.1,fee,true) else _).1.length=_
    rw[if_neg a,if_pos c]
   .rw[jnU (by simpa using a) c]
    exact jme k b fee x _ (jDO _)
termination_by k=>(k,0)
theorem jme {r:RoD} {ch:List (List Int)}:∀(k b:Nat) (fee:Int) (x:StD) (n:Nat),n<=(nth ch b).length->(U.jl r ch k b fee x n).1.length=x.1.length
 |_,_,_,_,0,_=>rfl
 |k,b,fee,x,n+1,h=>by
  rw[jnV h]
  have d:=jme (r:=r) (ch:=ch) k b fee x n (by omega)
  unfold U.jmf
  split
  .rw[jyk k]
   show((U.jl r ch k b fee x n).1.set b _).length=_
   rw[List.length_set,d]
  .show((U.jl r ch k b fee x n).1.set b _).length=_
   rw[List.length_set,d]
termination_by k _ _ _ n=>(k,n+1)
end
theorem jjz:jan:=by
 unfold jan q97_7 q97_0 q97_6 q97_2 q97_5 q97_4 q97_3 q97_1;rintro k ⟨s,b,fee,⟨⟩⟩ h0;obtain⟨g,d,Q,⟨M,D⟩,S,⟨V,b1,b2⟩,f0,f1⟩:U.jt2 (k+1) s b fee:=h0;obtain⟨B,hB⟩:∃B:Nat,b=(B:Int):=⟨b.toNat,by omega⟩;subst hB;have I:=d.1;have hb4:(U.jp (U.rd (U.ro s.1))).length<=4:=(zp I.2.2).1;have h8:(U.jj (U.jf (U.rd (U.ro s.1)))).length<=8:=(jI I.1).2.2.1;refine⟨fun h=>⟨rfl,?_⟩,fun h=>⟨g,fun _=>⟨fun A=>⟨?_,rfl,?_⟩,fun A=> ?_⟩⟩⟩
 .have h:((U.ji s).2.2.2&&decide ((U.ji s).2.2.1<=fee))=true:=h;have e:U.wS (U.ro s.1) s.2.1 (k+1) B fee (U.ji s)=U.ji s:=by
   show(if((U.ji s).2.2.2&&decide ((U.ji s).2.2.1<=fee))=true then U.ji s else _)=_;rw[if_pos h]
  show(s,())=(U.qM s (U.wS (U.ro s.1) s.2.1 (k+1) B fee (U.ji s)),());rw[e];rfl
 .show s.2.2.1.length<=100000;omega
 .have A:(B:Int)=((U.jp (U.rd (U.ro s.1))).length:Int):=of_decide_eq_true A;have h:((U.ji s).2.2.2&&decide ((U.ji s).2.2.1<=fee))=false:=h;have e:U.wS (U.ro s.1) s.2.1 (k+1) B fee (U.ji s)=(s.2.2.1,s.2.2.1,fee,true):=by
   show(if((U.ji s).2.2.2&&decide ((U.ji s).2.2.1<=fee))=true then U.ji s else if B=(U.jp (U.rd (U.ro s.1))).length then((U.ji s).1,(U.ji s).1,fee,true) else _)=_;rw[h,if_neg (by simp),if_pos (by omega)];rfl
  show((s.1,s.2.1,s.2.2.1,s.2.2.1,fee,true,()),())=(U.qM s (U.wS (U.ro s.1) s.2.1 (k+1) B fee (U.ji s)),());rw[e];rfl
 have A:¬(B:Int)=((U.jp (U.rd (U.ro s.1))).length:Int):=of_decide_eq_false A;have h:((U.ji s).2.2.2&&decide ((U.ji s).2.2.1<=fee))=false:=h;have hBn:B<(U.jp (U.rd (U.ro s.1))).length:=(by omega);have C:=jnU (r:=U.ro s.1) (ch:=s.2.1) (k:=k) (b:=B) (fee:=fee) h (by omega);have u:jA ((B:Int)+1):=L.in64 (by omega) (by omega);have K:0<=(B:Int)+1:=(by omega);refine⟨V,by show(B:Int)<(s.2.1.length:Int);omega,fun E=>⟨⟨0,⟨⟨rfl,trivial⟩,⟨rfl,trivial,trivial,trivial,rfl,rfl,trivial⟩,rfl,rfl,trivial⟩,jDV _,rfl⟩,fun x hx=>⟨fun z=> ?_,fun z=>⟨rfl,?_⟩⟩⟩⟩
 .have z:(x:Int)<((nth s.2.1 B).length:Int):=of_decide_eq_true z;have E:(nth s.2.1 B).length<4611686018427387904:=E;have m:x<(nth s.2.1 B).length:=(by omega);obtain⟨_,F⟩:x<=(nth s.2.1 B).length/\(U.jl (U.ro s.1) s.2.1 k B fee (U.ji s) x).1.length=s.2.2.1.length:=hx;have f:=jnV (r:=U.ro s.1) (ch:=s.2.1) (k:=k) (b:=B) (fee:=fee) (x:=U.ji s) m;have o:=jme (r:=U.ro s.1) (ch:=s.2.1) k B fee (U.ji s) (x+1) (by omega);have o:(U.jl (U.ro s.1) s.2.1 k B fee (U.ji s) (x+1)).1.length=s.2.2.1.length:=o;have Z:=D _ (L.mem_nth (l:=s.2.1) (i:=B) (by omega)) _ (L.mem_nth m);have up:x+1<=(nth s.2.1 B).length:=m;have W:(nth s.2.1 B).length-(x+1)<(nth s.2.1 B).length-x:=(by omega);have tl:((U.jl (U.ro s.1) s.2.1 k B fee (U.ji s) x).1.set B (nth (nth s.2.1 B) x)).length=(U.jp (U.rd (U.ro s.1))).length:=by
   rw[List.length_set,F,S]
  refine⟨by omega,z,V,by show(B:Int)<((U.jl (U.ro s.1) s.2.1 k B fee (U.ji s) x).1.length:Int);omega,g,fun _=>⟨⟨0,⟨⟨rfl,trivial⟩,trivial⟩,jDV _,rfl⟩,fun p Y=>⟨fun w=>⟨u,jEF 0,K,?_,fun _=>⟨⟨0,⟨⟨rfl,trivial,trivial⟩,rfl,trivial⟩,jDV _⟩,fun j J=>⟨fun t=> ?_,fun t=> ?_⟩⟩⟩,fun w=> ?_⟩⟩⟩
  .show(B:Int)+1<=(((U.jl (U.ro s.1) s.2.1 k B fee (U.ji s) x).1.set B (nth (nth s.2.1 B) x)).length:Int);rw[tl];omega
  .have t:(j:Int)<((((B:Int)+1).toNat-Int.toNat 0:Nat):Int):=of_decide_eq_true t;have H:((B:Int)+1).toNat-Int.toNat 0=B+1:=(by simp only[Int.toNat_zero];omega);rw[H] at t;have w:(p:Int)<((U.wm (U.ro s.1)).length:Int):=of_decide_eq_true w;have J:j<=B+1:=J;have q:=jtT ((U.jl (U.ro s.1) s.2.1 k B fee (U.ji s) x).1.set B (nth (nth s.2.1 B) x)) (p:Int) j;have P:=joz ((U.jl (U.ro s.1) s.2.1 k B fee (U.ji s) x).1.set B (nth (nth s.2.1 B) x)) (p:Int) j;have e0:Int.toNat 0+(j:Int).toNat=j:=(by simp);have X:∀T:Bool,decide (vG (nth ((U.jl (U.ro s.1) s.2.1 k B fee (U.ji s) x).1.set B (nth (nth s.2.1 B) x)) (Int.toNat 0+(j:Int).toNat)/2^(p:Int).toNat) 1=1)=T->decide (vG (nth ((U.jl (U.ro s.1) s.2.1 k B fee (U.ji s) x).1.set B (nth (nth s.2.1 B) x)) j/2^(p:Int).toNat) 1=1)=T:=by
    intro T G;rw[e0] at G;exact G
   refine⟨by omega,by show(j:Int)<((((B:Int)+1).toNat-Int.toNat 0:Nat):Int);rw[H];exact t,by omega,by omega,fun a=>⟨?_,L.in64 (by omega) (by omega),j+1,⟨⟨by simp,trivial,trivial⟩,?_,trivial⟩,by show j+1<=B+1;omega,by show B+1-(j+1)<B+1-j;omega⟩,fun a=>⟨L.in64 (by omega) (by omega),j+1,⟨⟨trivial,by simp,trivial⟩,?_,trivial⟩,by show j+1<=B+1;omega,by show B+1-(j+1)<B+1-j;omega⟩⟩
   .show((U.kJ ((U.jl (U.ro s.1) s.2.1 k B fee (U.ji s) x).1.set B (nth (nth s.2.1 B) x)) (p:Int) j).length+1)*8<=140737488355328;omega
   .rw[X _ a,if_pos rfl] at q;exact q.symm
   .rw[X _ a,if_neg (by simp),jEg] at q;exact q.symm
  .have t:¬(j:Int)<((((B:Int)+1).toNat-Int.toNat 0:Nat):Int):=of_decide_eq_false t;have H:((B:Int)+1).toNat-Int.toNat 0=B+1:=(by simp only[Int.toNat_zero];omega);rw[H] at t;have w:(p:Int)<((U.wm (U.ro s.1)).length:Int):=of_decide_eq_true w;have J:j<=B+1:=J;have N:j=B+1:=(by omega);subst N;have P:=joz ((U.jl (U.ro s.1) s.2.1 k B fee (U.ji s) x).1.set B (nth (nth s.2.1 B) x)) (p:Int) (B+1);obtain⟨_,y⟩:p<=(U.wm (U.ro s.1)).length/\U.vn (U.ro s.1) ((U.jl (U.ro s.1) s.2.1 k B fee (U.ji s) x).1.set B (nth (nth s.2.1 B) x)) B p=true:=Y;refine⟨g,d,⟨by omega,by show(p:Int)<((U.jj (U.jf (U.rd (U.ro s.1)))).length:Int);omega⟩,⟨by show(U.kJ ((U.jl (U.ro s.1) s.2.1 k B fee (U.ji s) x).1.set B (nth (nth s.2.1 B) x)) (p:Int) (B+1)).length<=12;omega,fun c hc=> ?_⟩,fun a=> ?_,fun a=> ?_⟩
   .have:=jv7 hc;exact⟨this.1,by show c<((U.jp (U.rd (U.ro s.1))).length:Int);omega⟩
   .have a:(!U.jaO (U.ro s.1) (p:Int) (U.kJ ((U.jl (U.ro s.1) s.2.1 k B fee (U.ji s) x).1.set B (nth (nth s.2.1 B) x)) (p:Int) (B+1)))=true:=a;have a:U.jaO (U.ro s.1) (p:Int) (U.kJ ((U.jl (U.ro s.1) s.2.1 k B fee (U.ji s) x).1.set B (nth (nth s.2.1 B) x)) (p:Int) (B+1))=false:=(by simpa using a);have O:=joy (n:=(U.wm (U.ro s.1)).length) (by omega) a;have e:U.jl (U.ro s.1) s.2.1 k B fee (U.ji s) (x+1)=((U.jl (U.ro s.1) s.2.1 k B fee (U.ji s) x).1.set B (nth (nth s.2.1 B) x),(U.jl (U.ro s.1) s.2.1 k B fee (U.ji s) x).2):=by
     rw[f];unfold U.jmf;rw[O,if_neg (by simp)]
    exact⟨L.in64 (by omega) (by omega),x+1,⟨⟨by simp,trivial⟩,congrArg (·.2.1) e.symm,⟨rfl,trivial,trivial,trivial,congrArg (·.2.2.1) e.symm,congrArg (·.2.2.2) e.symm,trivial⟩,congrArg (·.1) e.symm,trivial⟩,⟨up,o⟩,W⟩
   .have a:(!U.jaO (U.ro s.1) (p:Int) (U.kJ ((U.jl (U.ro s.1) s.2.1 k B fee (U.ji s) x).1.set B (nth (nth s.2.1 B) x)) (p:Int) (B+1)))=false:=a;have a:U.jaO (U.ro s.1) (p:Int) (U.kJ ((U.jl (U.ro s.1) s.2.1 k B fee (U.ji s) x).1.set B (nth (nth s.2.1 B) x)) (p:Int) (B+1))=true:=(by simpa using a);refine⟨L.in64 (by omega) (by omega),p+1,⟨⟨by simp,trivial⟩,trivial⟩,⟨by show p+1<=(U.wm (U.ro s.1)).length;omega,?_⟩,by show(U.wm (U.ro s.1)).length-(p+1)<(U.wm (U.ro s.1)).length-p;omega⟩;show U.vn (U.ro s.1) ((U.jl (U.ro s.1) s.2.1 k B fee (U.ji s) x).1.set B (nth (nth s.2.1 B) x)) B (p+1)=true;rw[jqZ,y,a];rfl
  .have w:¬(p:Int)<((U.wm (U.ro s.1)).length:Int):=of_decide_eq_false w;obtain⟨hp1,y⟩:p<=(U.wm (U.ro s.1)).length/\U.vn (U.ro s.1) ((U.jl (U.ro s.1) s.2.1 k B fee (U.ji s) x).1.set B (nth (nth s.2.1 B) x)) B p=true:=Y;have R:p=(U.wm (U.ro s.1)).length:=(by omega);subst R;have v:=jnb I.1 (nth (nth s.2.1 B) x) _ (jDO _);have v:0<=U.vC (U.rd (U.ro s.1)) (nth (nth s.2.1 B) x)/\U.vC (U.rd (U.ro s.1)) (nth (nth s.2.1 B) x)<=1000*((U.jj (U.jf (U.rd (U.ro s.1)))).length:Int):=v;have eB:((B:Int)+1).toNat=B+1:=(by omega);have e:U.jl (U.ro s.1) s.2.1 k B fee (U.ji s) (x+1)=U.wS (U.ro s.1) s.2.1 k ((B:Int)+1).toNat (fee+U.vC (U.rd (U.ro s.1)) (nth (nth s.2.1 B) x)) ((U.jl (U.ro s.1) s.2.1 k B fee (U.ji s) x).1.set B (nth (nth s.2.1 B) x),(U.jl (U.ro s.1) s.2.1 k B fee (U.ji s) x).2):=by
    rw[f,eB];unfold U.jmf;rw[if_pos y]
   refine⟨u,g,I.1,Z.1,by show nth (nth s.2.1 B) x<=1000000;have:=Z.2;omega,?_,⟨g,d,Q,⟨M,D⟩,tl,⟨by omega,by show(B:Int)+1<=((U.jp (U.rd (U.ro s.1))).length:Int);omega,by show((U.jp (U.rd (U.ro s.1))).length:Int)<(B:Int)+1+(k:Int);omega⟩,?_,?_⟩,L.in64 (by omega) (by omega),x+1,⟨⟨by simp,trivial⟩,⟨rfl,trivial,trivial,trivial,congrArg (·.2.2.1) e.symm,congrArg (·.2.2.2) e.symm,trivial⟩,rfl,congrArg (·.2.1) e.symm,congrArg (·.1) e.symm,trivial⟩,⟨up,o⟩,W⟩
   .show jA (fee+U.vC (U.rd (U.ro s.1)) (nth (nth s.2.1 B) x));exact L.in64 (by omega) (by omega)
   .show 0<=fee+U.vC (U.rd (U.ro s.1)) (nth (nth s.2.1 B) x);omega
   .show fee+U.vC (U.rd (U.ro s.1)) (nth (nth s.2.1 B) x)<=8000*((B:Int)+1);omega
 .have z:¬(x:Int)<((nth s.2.1 B).length:Int):=of_decide_eq_false z;have hx1:x<=(nth s.2.1 B).length:=hx.1;have m:x=(nth s.2.1 B).length:=(by omega);subst m;show((s.1,s.2.1,(U.jl (U.ro s.1) s.2.1 k B fee (U.ji s) (nth s.2.1 B).length).1,(U.jl (U.ro s.1) s.2.1 k B fee (U.ji s) (nth s.2.1 B).length).2.1,(U.jl (U.ro s.1) s.2.1 k B fee (U.ji s) (nth s.2.1 B).length).2.2.1,(U.jl (U.ro s.1) s.2.1 k B fee (U.ji s) (nth s.2.1 B).length).2.2.2,()),())=(U.qM s (U.wS (U.ro s.1) s.2.1 (k+1) B fee (U.ji s)),());rw[C];rfl
theorem jas:∀k:Nat,wE PR 41 (qI k)
 |0=>⟨wl Tryz.func41 (c:=zw Tryz.f41) (by kernel_rfl) (by kernel_rfl),fun H w vals d bs _ _ _ b=>by
  obtain⟨⟨_,_,_,_,_,⟨e,f,a⟩,_⟩,_⟩:=b
  exact absurd a (by omega)⟩
 |k+1=>jAR (jcY.mpr jjz k) Tryz.func41 (by kernel_rfl) (by kernel_rfl) (by kernel_rfl) (by kernel_rfl) (by kernel_rfl) ⟨fun _=>jbk,fun _=>jiX,trivial⟩ ⟨jeI,jas k,trivial⟩
end Go.X
namespace Go.X
open Go.Proofs
namespace U
def jBq (r:RoD) (b:Int) (t:Nat):Bool:=decide (juR (t:Int) (nth (gT r) b.toNat)=0)&&jxh (rd r) b (t:Int)
def wZ (r:RoD) (b:Int) (n:Nat):List Int:=((List.range n).filter (jBq r b)).map (fun(t:Nat)=>(t:Int))
def kl (r:RoD) (n:Nat):List (List Int):=(List.range n).map (fun(b:Nat)=>wZ r (b:Int) (2^(jj (jf (rd r))).length))
def jC1 (d:DyD):StD:=wS (jom d) (kl (jom d) (jp d).length) 5 0 0 (List.replicate (jp d).length 0,q7,0,false)
def jdi (d:DyD):Int:=if jz d=0 then(if(jC1 d).2.2.2=true then 0 else 3) else jz d
def jhq (d:DyD):List Int:=if jdi d=0 then(jC1 d).2.1 else[]
def jhp (d:DyD):Int:=if jdi d=0 then(jC1 d).2.2.1 else 0
end U
def jvz:jO:=⟨[.val tDy],[.slice .int,.int,.int],false,fun d=>[(U.jW d.1).length<=100000],fun d=>(U.jhq d.1,U.jhp d.1,U.jdi d.1,())⟩
def jxX:Ann:=fun r=>match r with
 |6=>some fun σ=>{X:=Nat,sl:=fun i=>[(28,.dat .int (i:Int))],ob:=fun i=>[(24,some (.box 70 false (((bx σ 24).set 1 (.own (qS 24 1) (.slice .int))).set 3 (.own (qS 24 3) .int)))),(qS 24 3,some (.row 3 .int false .yes U.q7)),(qS 24 1,some (.row 33 (.slice .int) false .yes (U.kl (U.ro (gd (.ptr tRo) σ 5)) i)))],inv:=fun i=>i<=(U.jp (gb tDy σ 1)).length,mu:=fun i=>(U.jp (gb tDy σ 1)).length-i}
 |10=>some fun σ=>{X:=Nat,sl:=fun t=>[(36,.dat .int (t:Int)),(8,.own 8 .int)],ob:=fun t=>[(8,some (.row 3 .int false .yes (U.wZ (U.ro (gd (.ptr tRo) σ 5)) (gd .int σ 7) t)))],inv:=fun t=>t<=2^(U.jj (U.jf (gb tDy σ 1))).length,mu:=fun t=>2^(U.jj (U.jf (gb tDy σ 1))).length-t}
 |_=>none
abbrev q98_3 (d:DyD×Unit):=(U.ro (U.zk d.1))
abbrev q98_4 (d:DyD×Unit):=(jQ ((((0:Int),[],[],()),[],[],(0:Int),(0:Int),[],()),[],[],[],()) (U.zk d.1))
abbrev q98_1 (a:Nat)(d:DyD×Unit)(x:Nat):=(juR (a:Int) (nth (q98_4 d).2.1 (x:Int).toNat)=0)
abbrev q98_5 (d:DyD×Unit):=(d.1.2.2.1.length:Int)
abbrev q98_2 (d:DyD×Unit)(x:Nat):=(U.zk d.1,U.kl (q98_3 d) x,List.replicate (q98_5 d).toNat (0:Int),U.q7,(0:Int),false,())
abbrev q98_0 (d:DyD×Unit)(x:Nat):=(U.qM (q98_2 d x) (U.wS (q98_3 d) (U.kl (q98_3 d) x) 5 (Int.toNat 0) (0:Int) (U.ji (q98_2 d x))))
abbrev q98_6 (d:DyD×Unit):=(U.zk d.1=U.zk d.1/\True/\True/\True/\(0:Int)=0/\false=false/\True)
abbrev q98_7 (d:DyD×Unit):=(U.jj (U.jf d.1))
abbrev q98_8 (d:DyD×Unit):=(U.jhq d.1,U.jhp d.1,U.jdi d.1,())
abbrev q98_9 (d:DyD×Unit):=(d.1.1.2.1.length:Int)
def jvd:Prop:=∀(d:DyD×Unit),(U.jW d.1).length<=100000->(U.jW d.1).length<=100000/\(decide (U.jz d.1≠0)=true->([],(0:Int),U.jz d.1,())=(q98_8 d))/\(decide (U.jz d.1≠0)=false->d.1.2.2.1.length<4611686018427387904->0<=(q98_5 d)/\(q98_5 d)=(q98_5 d)/\(q98_5 d).toNat*8<=140737488355328/\(d.1.2.2.1.length<4611686018427387904->(∃(x:Nat),((0=(x:Int)/\True)/\(q98_6 d)/\U.q7=[]/\U.kl (q98_3 d) x=[]/\True)/\x<=(U.jp d.1).length)/\∀(x:Nat),x<=(U.jp d.1).length->(decide ((x:Int)<(q98_5 d))=true->d.1.1.2.1.length<4611686018427387904->0<=(q98_9 d)/\(q98_9 d)<=64/\jA ((1:Int)*2^(q98_9 d).toNat)/\(∃(a:Nat),((0=(a:Int)/\True/\True)/\U.wZ (q98_3 d) (x:Int) a=[]/\True)/\a<=2^(q98_7 d).length)/\∀(a:Nat),a<=2^(q98_7 d).length->(decide ((a:Int)<1*2^(q98_9 d).toNat)=true->(U.zk d.1).isSome=true/\0<=(x:Int)/\(x:Int)<(↑(q98_4 d).2.1.length:Int)/\(decide (q98_1 a d x)=true->(U.zk d.1).isSome=true)/\(decide (q98_1 a d x)=true->U.q6 (U.rd (q98_3 d)) (x:Int))/\((decide (q98_1 a d x)&&U.jxh (U.rd (q98_3 d)) (x:Int) (a:Int))=true->((U.wZ (q98_3 d) (x:Int) a).length+[(a:Int)].length)*8<=140737488355328/\jA ((a:Int)+1)/\∃(b:Nat),(((a:Int)+1=(b:Int)/\True/\True)/\U.wZ (q98_3 d) (x:Int) a++[(a:Int)]=U.wZ (q98_3 d) (x:Int) b/\True)/\b<=2^(q98_7 d).length/\2^(q98_7 d).length-b<2^(q98_7 d).length-a)/\((decide (q98_1 a d x)&&U.jxh (U.rd (q98_3 d)) (x:Int) (a:Int))=false->jA ((a:Int)+1)/\∃(b:Nat),((True/\(a:Int)+1=(b:Int)/\True)/\U.wZ (q98_3 d) (x:Int) a=U.wZ (q98_3 d) (x:Int) b/\True)/\b<=2^(q98_7 d).length/\2^(q98_7 d).length-b<2^(q98_7 d).length-a))/\(decide ((a:Int)<1*2^(q98_9 d).toNat)=false->((U.kl (q98_3 d) x).length+[U.wZ (q98_3 d) (x:Int) a].length)*24<=140737488355328/\jA ((x:Int)+1)/\∃(b:Nat),(((x:Int)+1=(b:Int)/\True)/\U.q7=U.q7/\(q98_6 d)/\U.kl (q98_3 d) x++[U.wZ (q98_3 d) (x:Int) a]=U.kl (q98_3 d) b/\True)/\b<=(U.jp d.1).length/\(U.jp d.1).length-b<(U.jp d.1).length-x))/\(decide ((x:Int)<(q98_5 d))=false->U.jt2 5 (q98_2 d x) (0:Int) (0:Int)/\((!(q98_0 d x).2.2.2.2.2.1)=true->([],(0:Int),(3:Int),())=(q98_8 d))/\((!(q98_0 d x).2.2.2.2.2.1)=false->((q98_0 d x).2.2.2.1,(q98_0 d x).2.2.2.2.1,(0:Int),())=(q98_8 d)))))
end Go.X
namespace Go.X
open Go.Proofs
theorem juM (r:RoD) (b:Int) (n:Nat):U.wZ r b (n+1)=U.wZ r b n++(if U.jBq r b n=true then[(n:Int)] else[]):=by
 unfold U.wZ;rw[L.range_filter_succ,jEH];by_cases h:U.jBq r b n=true
 .rw[if_pos h,if_pos h];rfl
 .rw[if_neg h,if_neg h];rfl
theorem jxM (r:RoD) (b:Int) (n:Nat):(U.wZ r b n).length<=n:=by
 unfold U.wZ;rw[jEX];exact jDZ (List.length_filter_le _ _) (by simp)
theorem jpG {r:RoD} {b:Int} {n:Nat} {t:Int} (h:t∈U.wZ r b n):0<=t/\t<(n:Int):=by
 unfold U.wZ at h;obtain⟨i,hi,rfl⟩:=jEl.1 h;have:=jD8.1 (jEb.1 hi).1;omega
theorem jxL (r:RoD) (n:Nat):U.kl r (n+1)=U.kl r n++[U.wZ r (n:Int) (2^(U.jj (U.jf (U.rd r))).length)]:=by
 unfold U.kl;rw[jEz,jEH];rfl
theorem js2 (r:RoD) (n:Nat):(U.kl r n).length=n:=by unfold U.kl;simp
theorem jzH {n:Nat} (h:n<=8):(2:Nat)^n<=256:=jDZ (Nat.pow_le_pow_right (by decide) h) (by decide)
theorem jC2 {d:DyD} (hk:U.jz d=0):U.jt2 5 (some (U.jom d),U.kl (U.jom d) (U.jp d).length,List.replicate (U.jp d).length 0,U.q7,0,false,()) 0 0:=by
 have c:=jsr hk;have i:(U.jp d).length<=4:=(zp c.may.1.2.2).1;have h:(U.jj (U.jf d)).length<=8:=(jI c.may.1.1).2.2.1;refine⟨rfl,c.may,c.len,⟨js2 _ _,fun l a t e=> ?_⟩,jEK,⟨jEF 0,by show(0:Int)<=((U.jp d).length:Int);omega,by show((U.jp d).length:Int)<0+((5:Nat):Int);omega⟩,jEF 0,by omega⟩;have a:l∈U.kl (U.jom d) (U.jp d).length:=a;unfold U.kl at a;obtain⟨b,_,rfl⟩:=jEl.1 a;have:=jpG e;have f:=jzH h;have g:(2:Nat)^(U.jj (U.jf (U.rd (U.jom d)))).length<=256:=f;have:t<((2^(U.jj (U.jf (U.rd (U.jom d)))).length:Nat):Int):=this.2;refine⟨(jpG e).1,by omega⟩
theorem jy0:jvd:=by
 unfold jvd q98_9 q98_8 q98_7 q98_6 q98_0 q98_2 q98_5 q98_1 q98_4 q98_3;rintro⟨d,⟨⟩⟩ A;refine⟨A,fun h=> ?_,fun h=> ?_⟩
 .have h:U.jz d≠0:=of_decide_eq_true h;have e:U.jdi d=U.jz d:=(by unfold U.jdi;rw[if_neg h]);show([],(0:Int),U.jz d,())=(U.jhq d,U.jhp d,U.jdi d,());unfold U.jhq U.jhp;rw[e,if_neg h,if_neg h]
 have hk:U.jz d=0:=Classical.not_not.1 (of_decide_eq_false h);have m:=jsr hk;have z:(U.jp d).length<=4:=(zp m.may.1.2.2).1;have y:(U.jj (U.jf d)).length<=8:=(jI m.may.1.1).2.2.1;have s:=jzH y;have l:=jwc hk;have i:U.ro (U.zk d)=U.jom d:=(by rw[l];rfl);have r:U.rd (U.ro (U.zk d))=d:=(by rw[i];rfl);have q:(U.zk d).isSome=true:=(by rw[l];rfl);have B:(U.gT (U.ro (U.zk d))).length=(U.jp d).length:=(by rw[i];exact m.may.2);refine fun _=>⟨jD6 _,rfl,?_,fun _=>⟨⟨0,⟨⟨rfl,trivial⟩,⟨rfl,trivial,trivial,trivial,rfl,rfl,trivial⟩,rfl,rfl,trivial⟩,jDV _⟩,fun x u=>⟨fun b _=>⟨jD6 _,?_,?_,⟨0,⟨⟨rfl,trivial,trivial⟩,rfl,trivial⟩,jDV _⟩,fun t j=>⟨fun a=> ?_,fun a=> ?_⟩⟩,fun b=> ?_⟩⟩⟩
 .show((U.jp d).length:Int).toNat*8<=140737488355328;omega
 .show((U.jj (U.jf d)).length:Int)<=64;omega
 .show jA (1*2^((U.jj (U.jf d)).length:Int).toNat);rw[jbg,jDN];have a:BT.Set' ((2:Int)^(U.jj (U.jf d)).length):=BT.two_set (by omega);unfold BT.Set' at a;exact L.in64 (by omega) (by omega)
 .have b:(x:Int)<((U.jp d).length:Int):=of_decide_eq_true b;have j:t<=2^(U.jj (U.jf d)).length:=j;have a:(t:Int)<1*2^((U.jj (U.jf d)).length:Int).toNat:=of_decide_eq_true a;rw[jbg,jDN,BT.two_nat] at a;have a:t<2^(U.jj (U.jf d)).length:=(by omega);have f:=juM (U.ro (U.zk d)) (x:Int) t;have g:=jxM (U.ro (U.zk d)) (x:Int) t;have w:U.q6 (U.rd (U.ro (U.zk d))) (x:Int):=(by rw[r];exact⟨by omega,b⟩);have v:t+1<=2^(U.jj (U.jf d)).length:=(by omega);have p:2^(U.jj (U.jf d)).length-(t+1)<2^(U.jj (U.jf d)).length-t:=(by omega);refine⟨q,by omega,by show(x:Int)<((U.gT (U.ro (U.zk d))).length:Int);omega,fun _=>q,fun _=>w,fun c=> ?_,fun c=> ?_⟩
  .have c:U.jBq (U.ro (U.zk d)) (x:Int) t=true:=c;refine⟨?_,L.in64 (by omega) (by omega),t+1,⟨⟨by simp,trivial,trivial⟩,?_,trivial⟩,v,p⟩
   .show((U.wZ (U.ro (U.zk d)) (x:Int) t).length+1)*8<=140737488355328;omega
   .rw[if_pos c] at f;exact f.symm
  .have c:U.jBq (U.ro (U.zk d)) (x:Int) t=false:=c;refine⟨L.in64 (by omega) (by omega),t+1,⟨⟨trivial,by simp,trivial⟩,?_,trivial⟩,v,p⟩;rw[if_neg (by rw[c];simp),jEg] at f;exact f.symm
 .have b:(x:Int)<((U.jp d).length:Int):=of_decide_eq_true b;have j:t<=2^(U.jj (U.jf d)).length:=j;have a:¬(t:Int)<1*2^((U.jj (U.jf d)).length:Int).toNat:=of_decide_eq_false a;rw[jbg,jDN,BT.two_nat] at a;have n:t=2^(U.jj (U.jf d)).length:=(by omega);have f:=jxL (U.ro (U.zk d)) x;rw[r,<-n] at f;have g:=js2 (U.ro (U.zk d)) x;refine⟨?_,L.in64 (by omega) (by omega),x+1,⟨⟨by simp,trivial⟩,rfl,⟨rfl,trivial,trivial,trivial,rfl,rfl,trivial⟩,f.symm,trivial⟩,by show x+1<=(U.jp d).length;omega,by show(U.jp d).length-(x+1)<(U.jp d).length-x;omega⟩;show((U.kl (U.ro (U.zk d)) x).length+1)*24<=140737488355328;omega
 .have b:¬(x:Int)<((U.jp d).length:Int):=of_decide_eq_false b;have u:x<=(U.jp d).length:=u;have o:x=(U.jp d).length:=(by omega);subst o;have k:U.wS (U.ro (U.zk d)) (U.kl (U.ro (U.zk d)) (U.jp d).length) 5 (Int.toNat 0) 0 (U.ji (U.zk d,U.kl (U.ro (U.zk d)) (U.jp d).length,List.replicate ((U.jp d).length:Int).toNat 0,U.q7,0,false,()))=U.jC1 d:=by
   rw[i,jDN];rfl
  refine⟨?_,fun a=> ?_,fun a=> ?_⟩
  .show U.jt2 5 (U.zk d,U.kl (U.ro (U.zk d)) (U.jp d).length,List.replicate ((U.jp d).length:Int).toNat 0,U.q7,0,false,()) 0 0;rw[i,l,jDN];exact jC2 hk
  .have a:(!(U.wS (U.ro (U.zk d)) (U.kl (U.ro (U.zk d)) (U.jp d).length) 5 (Int.toNat 0) 0 (U.ji (U.zk d,U.kl (U.ro (U.zk d)) (U.jp d).length,List.replicate ((U.jp d).length:Int).toNat 0,U.q7,0,false,()))).2.2.2)=true:=a;rw[k] at a;have a:(U.jC1 d).2.2.2=false:=(by simpa using a);have e:U.jdi d=3:=(by unfold U.jdi;rw[if_pos hk,a,if_neg (by simp)]);show([],(0:Int),(3:Int),())=(U.jhq d,U.jhp d,U.jdi d,());unfold U.jhq U.jhp;rw[e];rfl
  .have a:(!(U.wS (U.ro (U.zk d)) (U.kl (U.ro (U.zk d)) (U.jp d).length) 5 (Int.toNat 0) 0 (U.ji (U.zk d,U.kl (U.ro (U.zk d)) (U.jp d).length,List.replicate ((U.jp d).length:Int).toNat 0,U.q7,0,false,()))).2.2.2)=false:=a;rw[k] at a;have a:(U.jC1 d).2.2.2=true:=(by simpa using a);have e:U.jdi d=0:=(by unfold U.jdi;rw[if_pos hk,a,if_pos rfl]);show((U.wS (U.ro (U.zk d)) (U.kl (U.ro (U.zk d)) (U.jp d).length) 5 (Int.toNat 0) 0 (U.ji (U.zk d,U.kl (U.ro (U.zk d)) (U.jp d).length,List.replicate ((U.jp d).length:Int).toNat 0,U.q7,0,false,()))).2.1,(U.wS (U.ro (U.zk d)) (U.kl (U.ro (U.zk d)) (U.jp d).length) 5 (Int.toNat 0) 0 (U.ji (U.zk d,U.kl (U.ro (U.zk d)) (U.jp d).length,List.replicate ((U.jp d).length:Int).toNat 0,U.q7,0,false,()))).2.2.1,(0:Int),())=(U.jhq d,U.jhp d,U.jdi d,());rw[k];unfold U.jhq U.jhp;rw[e];rfl
theorem jwj:ze PR 12 jvz:=wa jxX jy0 Tryz.func12 (kcC jhA kcN) (koC jbl (koC (jas 5) koN))
end Go.X
namespace Go.X
open Go.Proofs
def jn8:jO:=⟨[.val .int,.val .int,.val .int],[.bool],false,fun _=>[],fun d=>(U.ja d.1 d.2.1 d.2.2.1,())⟩
def jnN:Prop:=∀(d:Int×Int×Int×Unit),(decide (d.2.1<=d.1)&&decide (d.1<=d.2.2.1),())=(U.ja d.1 d.2.1 d.2.2.1,())
def jn9:jO:=⟨[.val tCr],[.bool],false,fun _=>[],fun d=>(U.ju d.1,())⟩
def jpK:Ann:=fun r=>match r with
 |4=>some fun σ=>{X:=Nat,sl:=fun i=>[(3,.dat .int (i:Int))],ob:=fun _=>[],inv:=fun i=>i<=(U.jj (gb tCr σ 1)).length/\∀j:Nat,j<i->U.yo (U.la (gb tCr σ 1)) (nth (U.jj (gb tCr σ 1)) j)=true,mu:=fun i=>(U.jj (gb tCr σ 1)).length-i}
 |10=>some fun σ=>{X:=Nat,sl:=fun i=>[(5,.dat .int (i:Int))],ob:=fun _=>[],inv:=fun i=>i<=(U.lv (gb tPe σ 4)).length/\∀j:Nat,j<i->U.ja (nth (U.lv (gb tPe σ 4)) j) 0 5=true,mu:=fun i=>(U.lv (gb tPe σ 4)).length-i}
 |15=>some fun σ=>{X:=Nat,sl:=fun i=>[(6,.dat .int (i:Int))],ob:=fun _=>[],inv:=fun i=>i<=(U.zN (gb tPe σ 4)).length/\∀j:Nat,j<i->U.ja (nth (U.zN (gb tPe σ 4)) j) 0 99=true,mu:=fun i=>(U.zN (gb tPe σ 4)).length-i}
 |20=>some fun σ=>{X:=Nat,sl:=fun i=>[(7,.dat .int (i:Int))],ob:=fun _=>[],inv:=fun i=>i<=(U.zm (gb tCr σ 1)).length/\∀j:Nat,j<i->U.yQ (nth (U.zm (gb tCr σ 1)) j)=true,mu:=fun i=>(U.zm (gb tCr σ 1)).length-i}
 |_=>none
abbrev q100_0 (d:CrD×Unit)(x:Nat):=(nth d.1.2.1 (x:Int).toNat)
abbrev q100_2 (d:CrD×Unit)(x:Nat):=(!U.ja (nth d.1.2.2.1 (x:Int).toNat).1 (1:Int) (5:Int)|| !U.ja (nth d.1.2.2.1 (x:Int).toNat).2.1 (1:Int) (8:Int))
abbrev q100_4 (d:CrD×Unit)(x:Nat):=(↑(q100_0 d x).1.length:Int)
abbrev q100_5 (d:CrD×Unit)(x:Nat):=(↑(q100_0 d x).2.2.2.1.length:Int)
abbrev q100_1 (d:CrD×Unit)(x:Nat):=(decide ((q100_4 d x)≠d.1.1)|| !U.ja (q100_0 d x).2.1 (0:Int) (255:Int)|| !U.ja (q100_0 d x).2.2.1 (0:Int) (255:Int)||decide ((10:Int)<(q100_5 d x))|| !U.ja (q100_0 d x).2.2.2.2.2.1 (0:Int) (1000:Int))
abbrev q100_6 (d:CrD×Unit):=(d.1.2.2.1.length:Int)
abbrev q100_3 (d:CrD×Unit):=(!U.ja d.1.1 (2:Int) (5:Int)||decide (8<(d.1.2.1.length:Int))||decide ((q100_6 d)≠4))
abbrev q100_7 (d:CrD×Unit)(x:Nat):=(U.zN (q100_0 d x))
def jnO:Prop:=∀(d:CrD×Unit),((!!U.ja d.1.1 (2:Int) (5:Int))=true->d.1.2.1.length<4611686018427387904)->((!(!U.ja d.1.1 (2:Int) (5:Int)||decide (8<(d.1.2.1.length:Int))))=true->d.1.2.2.1.length<4611686018427387904)->((q100_3 d)=true->(false,())=(U.ju d.1,()))/\((q100_3 d)=false->(∃(x:Nat),((0=(x:Int)/\True)/\True)/\x<=(U.jj d.1).length/\∀(j:Nat),j<x->U.yo (U.la d.1) (nth (U.jj d.1) j)=true)/\∀(x:Nat),(x<=(U.jj d.1).length/\∀(j:Nat),j<x->U.yo (U.la d.1) (nth (U.jj d.1) j)=true)->d.1.2.1.length<4611686018427387904->(decide ((x:Int)<(d.1.2.1.length:Int))=true->0<=(x:Int)/\(x:Int)<(d.1.2.1.length:Int)/\((q100_0 d x).1.length<4611686018427387904->((!(decide ((q100_4 d x)≠d.1.1)|| !U.ja (q100_0 d x).2.1 (0:Int) (255:Int)|| !U.ja (q100_0 d x).2.2.1 (0:Int) (255:Int)))=true->(q100_0 d x).2.2.2.1.length<4611686018427387904)->((q100_1 d x)=true->(false,())=(U.ju d.1,()))/\((q100_1 d x)=false->(∃(b:Nat),((0=(b:Int)/\True)/\True)/\b<=(U.lv (q100_0 d x)).length/\∀(j:Nat),j<b->U.ja (nth (U.lv (q100_0 d x)) j) (0:Int) 5=true)/\∀(b:Nat),(b<=(U.lv (q100_0 d x)).length/\∀(j:Nat),j<b->U.ja (nth (U.lv (q100_0 d x)) j) (0:Int) 5=true)->(q100_0 d x).1.length<4611686018427387904->(decide ((b:Int)<(q100_4 d x))=true->0<=(b:Int)/\(b:Int)<(q100_4 d x)/\((!U.ja (nth (q100_0 d x).1 (b:Int).toNat) (0:Int) (5:Int))=true->(false,())=(U.ju d.1,()))/\((!U.ja (nth (q100_0 d x).1 (b:Int).toNat) (0:Int) (5:Int))=false->jA ((b:Int)+1)/\∃(c:Nat),(((b:Int)+1=(c:Int)/\True)/\True)/\(c<=(U.lv (q100_0 d x)).length/\∀(j:Nat),j<c->U.ja (nth (U.lv (q100_0 d x)) j) (0:Int) 5=true)/\(U.lv (q100_0 d x)).length-c<(U.lv (q100_0 d x)).length-b))/\(decide ((b:Int)<(q100_4 d x))=false->(∃(a:Nat),((0=(a:Int)/\True)/\True)/\a<=(q100_7 d x).length/\∀(j:Nat),j<a->U.ja (nth (q100_7 d x) j) (0:Int) 99=true)/\∀(a:Nat),(a<=(q100_7 d x).length/\∀(j:Nat),j<a->U.ja (nth (q100_7 d x) j) (0:Int) 99=true)->(q100_0 d x).2.2.2.1.length<4611686018427387904->(decide ((a:Int)<(q100_5 d x))=true->0<=(a:Int)/\(a:Int)<(q100_5 d x)/\((!U.ja (nth (q100_0 d x).2.2.2.1 (a:Int).toNat) (0:Int) (99:Int))=true->(false,())=(U.ju d.1,()))/\((!U.ja (nth (q100_0 d x).2.2.2.1 (a:Int).toNat) (0:Int) (99:Int))=false->jA ((a:Int)+1)/\∃(c:Nat),(((a:Int)+1=(c:Int)/\True)/\True)/\(c<=(q100_7 d x).length/\∀(j:Nat),j<c->U.ja (nth (q100_7 d x) j) (0:Int) 99=true)/\(q100_7 d x).length-c<(q100_7 d x).length-a))/\(decide ((a:Int)<(q100_5 d x))=false->jA ((x:Int)+1)/\∃(c:Nat),(((x:Int)+1=(c:Int)/\True)/\True)/\(c<=(U.jj d.1).length/\∀(j:Nat),j<c->U.yo (U.la d.1) (nth (U.jj d.1) j)=true)/\(U.jj d.1).length-c<(U.jj d.1).length-x)))))/\(decide ((x:Int)<(d.1.2.1.length:Int))=false->(∃(x:Nat),((0=(x:Int)/\True)/\True)/\x<=(U.zm d.1).length/\∀(j:Nat),j<x->U.yQ (nth (U.zm d.1) j)=true)/\∀(x:Nat),(x<=(U.zm d.1).length/\∀(j:Nat),j<x->U.yQ (nth (U.zm d.1) j)=true)->d.1.2.2.1.length<4611686018427387904->(decide ((x:Int)<(q100_6 d))=true->0<=(x:Int)/\(x:Int)<(q100_6 d)/\((!!U.ja (nth d.1.2.2.1 (x:Int).toNat).1 (1:Int) (5:Int))=true->0<=(x:Int))/\((!!U.ja (nth d.1.2.2.1 (x:Int).toNat).1 (1:Int) (5:Int))=true->(x:Int)<(q100_6 d))/\((q100_2 d x)=true->(false,())=(U.ju d.1,()))/\((q100_2 d x)=false->jA ((x:Int)+1)/\∃(c:Nat),(((x:Int)+1=(c:Int)/\True)/\True)/\(c<=(U.zm d.1).length/\∀(j:Nat),j<c->U.yQ (nth (U.zm d.1) j)=true)/\(U.zm d.1).length-c<(U.zm d.1).length-x))/\(decide ((x:Int)<(q100_6 d))=false->(true,())=(U.ju d.1,()))))
def jqw:jO:=⟨[.val tCr,.val tJb],[.bool],false,fun d=>[U.ju d.1=true],fun d=>(U.zu d.1 d.2.1,())⟩
def jqa:Prop:=∀(d:CrD×JbD×Unit),U.ju d.1=true->jA (d.1.1-1)/\(U.ja d.2.1.1 (0:Int) (d.1.1-1)=true->jA (d.1.1-1))/\(U.ja d.2.1.1 (0:Int) (d.1.1-1)&&U.ja d.2.1.2.1 (0:Int) (d.1.1-1)&&decide (d.2.1.1≠d.2.1.2.1)&&U.ja d.2.1.2.2.1 (0:Int) (99:Int)&&U.ja d.2.1.2.2.2.1 (0:Int) (7:Int)&&U.ja d.2.1.2.2.2.2.1 (0:Int) (3:Int)&&U.ja d.2.1.2.2.2.2.2.1 (1:Int) (8:Int),())=(U.zu d.1 d.2.1,())
end Go.X
namespace Go.X
open Go.Proofs
theorem jry:jnN:=by
 rintro⟨n,a,b,⟨⟩⟩;rfl
theorem jgJ:ze PR 75 jn8:=jL jry Tryz.func75 kcN koN
theorem jyV (c:CrD) (j:JbD):(U.ja (U.jA1 j) 0 (U.la c-1)&&U.ja (U.jue j) 0 (U.la c-1)&&decide (U.jA1 j≠U.jue j)&&U.ja (U.jBT j) 0 99&&U.ja (U.jBS j) 0 7&&U.ja (U.jBR j) 0 3&&U.ja (U.jC9 j) 1 8)=U.zu c j:=by
 unfold U.zu U.ja;rw[jEm];simp only[jDR,decide_eq_true_eq,ne_eq];constructor
 .rintro⟨⟨⟨⟨⟨⟨⟨f,g⟩,h,i⟩,k⟩,l,m⟩,n,o⟩,a,b⟩,d,e⟩;exact⟨f,g,h,i,k,l,m,n,o,a,b,d,e⟩
 .rintro⟨f,g,h,i,k,l,m,n,o,a,b,d,e⟩;exact⟨⟨⟨⟨⟨⟨⟨f,g⟩,h,i⟩,k⟩,l,m⟩,n,o⟩,a,b⟩,d,e⟩
theorem juo:jqa:=by
 rintro⟨c,j,⟨⟩⟩ h;have h:U.ju c=true:=h;have d:=jI h;have a:jA (U.la c-1):=L.in64 (by omega) (by omega);refine⟨a,fun _=>a,?_⟩;exact congrArg (fun b=>(b,())) (jyV c j)
theorem jra:ze PR 50 jqw:=jL juo Tryz.func50 (kcC jgJ kcN) koN
end Go.X
namespace Go.X
open Go.Proofs
end Go.X
namespace Go.X
open Go.Proofs
end Go.X
namespace Go.X
open Go.Proofs
theorem jyy (l:Int) (p:PeD):U.yo l p=(!(decide (((U.lv p).length:Int)≠l)|| !U.ja (U.fd p) 0 255|| !U.ja (U.cl p) 0 255||decide (10<((U.zN p).length:Int))|| !U.ja (U.fe p) 0 1000)&&((U.lv p).all (fun n=>U.ja n 0 5)&&(U.zN p).all (fun n=>U.ja n 0 99))):=by
 unfold U.yo;congr 1;rw[jEm];simp only[U.ja,jEe,jEc,decide_eq_false_iff_not,jEq,jDR,decide_eq_true_eq];omega
theorem jh7 (c:CrD):U.ju c=(!(!U.ja (U.la c) 2 5||decide (8<((U.jj c).length:Int))||decide (((U.zm c).length:Int)≠4))&&((U.jj c).all (U.yo (U.la c))&&(U.zm c).all U.yQ)):=by
 unfold U.ju;congr 1;rw[jEm];simp only[U.ja,jEe,jEc,decide_eq_false_iff_not,jEq,jDR,decide_eq_true_eq];omega
theorem jgs {c:CrD} {x:Nat} (a:x<(U.jj c).length) (h:U.yo (U.la c) (nth (U.jj c) x)=false):U.ju c=false:=by
 have:(U.jj c).all (U.yo (U.la c))=false:=jEQ.2 ⟨_,L.mem_nth a,by rw[h];simp⟩;rw[jh7,this];simp
theorem juJ {c:CrD} {x:Nat} (a:x<(U.zm c).length) (h:U.yQ (nth (U.zm c) x)=false):U.ju c=false:=by
 have:(U.zm c).all U.yQ=false:=jEQ.2 ⟨_,L.mem_nth a,by rw[h];simp⟩;rw[jh7,this];simp
theorem jaj {α:Type} [Inhabited α] {l:List α} {p:α->Bool} {x:Nat} (c:¬x<l.length) (h:∀j:Nat,j<x->p (nth l j)=true):l.all p=true:=by
 rw[jEp];intro a b;obtain⟨i,hi,rfl⟩:=L.mem_iff.1 b;exact h i (by omega)
theorem jbc {c:CrD} (h:U.ju c=false):(false,())=(U.ju c,()):=by rw[h]
theorem jrz:jnO:=by
 unfold jnO q100_7 q100_3 q100_6 q100_1 q100_5 q100_4 q100_2 q100_0;rintro⟨c,⟨⟩⟩ _ _;refine⟨fun h=> ?_,fun h=> ?_⟩
 .have h:(!U.ja (U.la c) 2 5||decide (8<((U.jj c).length:Int))||decide (((U.zm c).length:Int)≠4))=true:=h;refine jbc (c:=c) ?_;rw[jh7,h];rfl
 have B:(!U.ja (U.la c) 2 5||decide (8<((U.jj c).length:Int))||decide (((U.zm c).length:Int)≠4))=false:=h;clear h;refine⟨⟨0,⟨⟨rfl,trivial⟩,trivial⟩,jDV _,fun j k=>by omega⟩,fun x s r=>⟨fun h=> ?_,fun h=> ?_⟩⟩
 .have r:(U.jj c).length<4611686018427387904:=r;have h:(x:Int)<((U.jj c).length:Int):=of_decide_eq_true h;have m:x<(U.jj c).length:=(by omega);refine⟨by omega,h,fun _ _=>⟨fun g=> ?_,fun g=> ?_⟩⟩
  .have g:(decide (((U.lv (nth (U.jj c) x)).length:Int)≠U.la c)|| !U.ja (U.fd (nth (U.jj c) x)) 0 255|| !U.ja (U.cl (nth (U.jj c) x)) 0 255||decide (10<((U.zN (nth (U.jj c) x)).length:Int))|| !U.ja (U.fe (nth (U.jj c) x)) 0 1000)=true:=g;refine jbc (c:=c) (jgs m ?_);rw[jyy,g];rfl
  have g:(decide (((U.lv (nth (U.jj c) x)).length:Int)≠U.la c)|| !U.ja (U.fd (nth (U.jj c) x)) 0 255|| !U.ja (U.cl (nth (U.jj c) x)) 0 255||decide (10<((U.zN (nth (U.jj c) x)).length:Int))|| !U.ja (U.fe (nth (U.jj c) x)) 0 1000)=false:=g;refine⟨⟨0,⟨⟨rfl,trivial⟩,trivial⟩,jDV _,fun j k=>by omega⟩,fun y q d=>⟨fun b=> ?_,fun b=> ?_⟩⟩
  .have d:(U.lv (nth (U.jj c) x)).length<4611686018427387904:=d;have b:(y:Int)<((U.lv (nth (U.jj c) x)).length:Int):=of_decide_eq_true b;refine⟨by omega,b,fun a=> ?_,fun a=>⟨L.in64 (by omega) (by omega),y+1,⟨⟨by simp,trivial⟩,trivial⟩,⟨by show y+1<=(U.lv (nth (U.jj c) x)).length;omega,fun j k=> ?_⟩,by show(U.lv (nth (U.jj c) x)).length-(y+1)<(U.lv (nth (U.jj c) x)).length-y;omega⟩⟩
   .have a:(!U.ja (nth (U.lv (nth (U.jj c) x)) y) 0 5)=true:=a;have a:U.ja (nth (U.lv (nth (U.jj c) x)) y) 0 5=false:=(by simpa using a);refine jbc (c:=c) (jgs m ?_);have:(U.lv (nth (U.jj c) x)).all (fun n=>U.ja n 0 5)=false:=jEQ.2 ⟨_,L.mem_nth (l:=U.lv (nth (U.jj c) x)) (i:=y) (by omega),by rw[a];simp⟩;rw[jyy,this];simp
   .have a:(!U.ja (nth (U.lv (nth (U.jj c) x)) y) 0 5)=false:=a;by_cases e:j=y
    .subst e;exact(show U.ja (nth (U.lv (nth (U.jj c) x)) j) 0 5=true by simpa using a)
    .exact q.2 j (by omega)
  have b:¬(y:Int)<((U.lv (nth (U.jj c) x)).length:Int):=of_decide_eq_false b;have u:(U.lv (nth (U.jj c) x)).all (fun n=>U.ja n 0 5)=true:=jaj (by omega) q.2;refine⟨⟨0,⟨⟨rfl,trivial⟩,trivial⟩,jDV _,fun j k=>by omega⟩,fun z t o=>⟨fun a=> ?_,fun a=> ?_⟩⟩
  .have o:(U.zN (nth (U.jj c) x)).length<4611686018427387904:=o;have a:(z:Int)<((U.zN (nth (U.jj c) x)).length:Int):=of_decide_eq_true a;refine⟨by omega,a,fun f=> ?_,fun f=>⟨L.in64 (by omega) (by omega),z+1,⟨⟨by simp,trivial⟩,trivial⟩,⟨by show z+1<=(U.zN (nth (U.jj c) x)).length;omega,fun j k=> ?_⟩,by show(U.zN (nth (U.jj c) x)).length-(z+1)<(U.zN (nth (U.jj c) x)).length-z;omega⟩⟩
   .have f:(!U.ja (nth (U.zN (nth (U.jj c) x)) z) 0 99)=true:=f;have f:U.ja (nth (U.zN (nth (U.jj c) x)) z) 0 99=false:=(by simpa using f);refine jbc (c:=c) (jgs m ?_);have:(U.zN (nth (U.jj c) x)).all (fun n=>U.ja n 0 99)=false:=jEQ.2 ⟨_,L.mem_nth (l:=U.zN (nth (U.jj c) x)) (i:=z) (by omega),by rw[f];simp⟩;rw[jyy,this];simp
   .have f:(!U.ja (nth (U.zN (nth (U.jj c) x)) z) 0 99)=false:=f;by_cases e:j=z
    .subst e;exact(show U.ja (nth (U.zN (nth (U.jj c) x)) j) 0 99=true by simpa using f)
    .exact t.2 j (by omega)
  have a:¬(z:Int)<((U.zN (nth (U.jj c) x)).length:Int):=of_decide_eq_false a;have v:(U.zN (nth (U.jj c) x)).all (fun n=>U.ja n 0 99)=true:=jaj (by omega) t.2;refine⟨L.in64 (by omega) (by omega),x+1,⟨⟨by simp,trivial⟩,trivial⟩,⟨by show x+1<=(U.jj c).length;omega,fun j k=> ?_⟩,by show(U.jj c).length-(x+1)<(U.jj c).length-x;omega⟩;by_cases e:j=x
  .subst e;show U.yo (U.la c) (nth (U.jj c) j)=true;rw[jyy,g,u,v];rfl
  .exact s.2 j (by omega)
 have h:¬(x:Int)<((U.jj c).length:Int):=of_decide_eq_false h;have A:(U.jj c).all (U.yo (U.la c))=true:=jaj (by omega) s.2;refine⟨⟨0,⟨⟨rfl,trivial⟩,trivial⟩,jDV _,fun j k=>by omega⟩,fun y q d=>⟨fun b=> ?_,fun b=> ?_⟩⟩
 .have d:(U.zm c).length<4611686018427387904:=d;have b:(y:Int)<((U.zm c).length:Int):=of_decide_eq_true b;have p:U.yQ (nth (U.zm c) y)= !(!U.ja (U.jDu (nth (U.zm c) y)) 1 5|| !U.ja (U.jC7 (nth (U.zm c) y)) 1 8):=by
   unfold U.yQ;rw[Bool.not_or,Bool.not_not,Bool.not_not]
  refine⟨by omega,b,fun _=>by omega,fun _=>b,fun a=> ?_,fun a=>⟨L.in64 (by omega) (by omega),y+1,⟨⟨by simp,trivial⟩,trivial⟩,⟨by show y+1<=(U.zm c).length;omega,fun j k=> ?_⟩,by show(U.zm c).length-(y+1)<(U.zm c).length-y;omega⟩⟩
  .have a:(!U.ja (U.jDu (nth (U.zm c) y)) 1 5|| !U.ja (U.jC7 (nth (U.zm c) y)) 1 8)=true:=a;exact jbc (c:=c) (juJ (x:=y) (by omega) (by rw[p,a];rfl))
  .have a:(!U.ja (U.jDu (nth (U.zm c) y)) 1 5|| !U.ja (U.jC7 (nth (U.zm c) y)) 1 8)=false:=a;by_cases e:j=y
   .subst e;show U.yQ (nth (U.zm c) j)=true;rw[p,a];rfl
   .exact q.2 j (by omega)
 .have b:¬(y:Int)<((U.zm c).length:Int):=of_decide_eq_false b;have w:(U.zm c).all U.yQ=true:=jaj (by omega) q.2;show(true,())=(U.ju c,());rw[jh7,B,A,w];rfl
theorem jgK:ze PR 49 jn9:=wa jpK jrz Tryz.func49 (kcC jgJ kcN) koN
end Go.X
namespace Go.X
open Go.Proofs
namespace U
def kL (l:List ShD) (i k:Nat) (id:Int):Bool:=decide (zT (nth l i)=id)&& !((l.take k).any (fun x=>decide (x=nth l i)))
end U
def jn7:jO:=⟨[.val .int,.val .int,.val .int],[.bool],false,fun _=>[],fun d=>(U.ja d.1 d.2.1 d.2.2.1,())⟩
def jnM:Prop:=∀(d:Int×Int×Int×Unit),(decide (d.2.1<=d.1)&&decide (d.1<=d.2.2.1),())=(U.ja d.1 d.2.1 d.2.2.1,())
def jiB:jO:=⟨[.val tDy,.val .int],[.bool],false,fun _=>[],fun d=>(U.jwS d.1 d.2.1,())⟩
def jio:Prop:=∀(d:DyD×Int×Unit),d.1.2.2.1.length<4611686018427387904->jA ((d.1.2.2.1.length:Int)-1)/\(U.ja d.2.1 (0:Int) ((d.1.2.2.1.length:Int)-1),())=(U.jwS d.1 d.2.1,())
def jkt:jO:=⟨[.val tDy,.val .int],[.bool],false,fun _=>[],fun d=>(U.jo3 d.1 d.2.1,())⟩
def jkk:Prop:=∀(d:DyD×Int×Unit),d.1.1.2.1.length<4611686018427387904->jA ((d.1.1.2.1.length:Int)-1)/\(U.ja d.2.1 (0:Int) ((d.1.1.2.1.length:Int)-1),())=(U.jo3 d.1 d.2.1,())
def jqu:jO:=⟨[.val tDy],[.bool],false,fun _=>[],fun d=>(U.zo d.1,())⟩
def jr6:Ann:=fun r=>match r with
 |4=>some fun σ=>{X:=Nat,sl:=fun i=>[(3,.dat .int (i:Int))],ob:=fun _=>[],inv:=fun i=>i<=(U.jt (gb tDy σ 1)).length/\∀j:Nat,j<i->U.qP (U.jt (gb tDy σ 1)).length (nth (U.jt (gb tDy σ 1)) j)=true,mu:=fun i=>(U.jt (gb tDy σ 1)).length-i}
 |9=>some fun σ=>{X:=Nat,sl:=fun i=>[(4,.dat .int (i:Int))],ob:=fun _=>[],inv:=fun i=>i<=(nth (U.jt (gb tDy σ 1)) (gd .int σ 3).toNat).length/\∀j:Nat,j<i->U.jeO (nth (nth (U.jt (gb tDy σ 1)) (gd .int σ 3).toNat) j)=true,mu:=fun i=>(nth (U.jt (gb tDy σ 1)) (gd .int σ 3).toNat).length-i}
 |15=>some fun σ=>{X:=Nat,sl:=fun i=>[(6,.dat .int (i:Int))],ob:=fun _=>[],inv:=fun i=>i<=(U.jp (gb tDy σ 1)).length/\∀j:Nat,j<i->U.jct (U.jt (gb tDy σ 1)).length (nth (U.jp (gb tDy σ 1)) j)=true,mu:=fun i=>(U.jp (gb tDy σ 1)).length-i}
 |21=>some fun σ=>{X:=Nat,sl:=fun i=>[(8,.dat .int (i:Int))],ob:=fun _=>[],inv:=fun i=>i<=(U.jW (gb tDy σ 1)).length/\∀j:Nat,j<i->U.jbn (U.jp (gb tDy σ 1)).length (U.jj (U.jf (gb tDy σ 1))).length (nth (U.jW (gb tDy σ 1)) j)=true,mu:=fun i=>(U.jW (gb tDy σ 1)).length-i}
 |_=>none
abbrev q105_4 (d:DyD×Unit)(x:Nat):=(nth d.1.2.1 (x:Int).toNat)
abbrev q105_2 (d:DyD×Unit)(x:Nat)(a:Nat):=(decide ((nth (q105_4 d x) (a:Int).toNat).1<0)||decide ((nth (q105_4 d x) (a:Int).toNat).2.1<(nth (q105_4 d x) (a:Int).toNat).1)||decide ((300:Int)<(nth (q105_4 d x) (a:Int).toNat).2.1))
abbrev q105_5 (d:DyD×Unit)(x:Nat):=(nth (U.jt d.1) (x:Int).toNat)
abbrev q105_6 (d:DyD×Unit):=(d.1.2.1.length:Int)
abbrev q105_7 (d:DyD×Unit)(x:Nat):=(nth d.1.2.2.2.2.2.1 (x:Int).toNat)
abbrev q105_0 (d:DyD×Unit)(x:Nat):=(!U.ja (q105_7 d x).1 (0:Int) (99:Int)|| !U.ja (q105_7 d x).2.1 (0:Int) (9999:Int)|| !U.ja (q105_7 d x).2.2.1 (1:Int) (2:Int)|| !U.jwS d.1 (q105_7 d x).2.2.2.1|| !U.jo3 d.1 (q105_7 d x).2.2.2.2.1)
abbrev q105_8 (d:DyD×Unit):=(d.1.2.2.1.length:Int)
abbrev q105_9 (x:Nat)(a:Nat):=(((x:Int)+1=(a:Int)/\True)/\True)
abbrev q105_10 (d:DyD×Unit)(x:Nat):=(nth d.1.2.2.1 (x:Int).toNat)
abbrev q105_1 (d:DyD×Unit)(x:Nat):=(!U.ja (q105_10 d x).2.1 (0:Int) ((q105_6 d)-1)||decide ((q105_10 d x).2.2.1<0)||decide ((q105_10 d x).2.2.2.1<=(q105_10 d x).2.2.1)||decide ((1440:Int)<(q105_10 d x).2.2.2.1))
abbrev q105_11 (d:DyD×Unit)(x:Nat):=(↑(q105_4 d x).length:Int)
abbrev q105_12 (d:DyD×Unit):=(d.1.2.2.2.2.2.1.length:Int)
abbrev q105_3 (d:DyD×Unit):=(decide (4<(q105_8 d))|| !U.ja (q105_6 d) (1:Int) (5:Int)|| !U.ja d.1.2.2.2.1 (0:Int) (300:Int)|| !U.ja d.1.2.2.2.2.1 (0:Int) (1440:Int)||decide (30<(q105_12 d)))
abbrev q105_13 (x:Nat):=((0=(x:Int)/\True)/\True)
def jp8:Prop:=∀(d:DyD×Unit),d.1.2.2.1.length<4611686018427387904->((!decide (4<(q105_8 d)))=true->d.1.2.1.length<4611686018427387904)->((!(decide (4<(q105_8 d))|| !U.ja (q105_6 d) (1:Int) (5:Int)|| !U.ja d.1.2.2.2.1 (0:Int) (300:Int)|| !U.ja d.1.2.2.2.2.1 (0:Int) (1440:Int)))=true->d.1.2.2.2.2.2.1.length<4611686018427387904)->((q105_3 d)=true->(false,())=(U.zo d.1,()))/\((q105_3 d)=false->(∃(x:Nat),(q105_13 x)/\x<=(U.jt d.1).length/\∀(j:Nat),j<x->U.qP (U.jt d.1).length (nth (U.jt d.1) j)=true)/\∀(x:Nat),(x<=(U.jt d.1).length/\∀(j:Nat),j<x->U.qP (U.jt d.1).length (nth (U.jt d.1) j)=true)->d.1.2.1.length<4611686018427387904->(decide ((x:Int)<(q105_6 d))=true->0<=(x:Int)/\(x:Int)<(q105_6 d)/\(decide ((q105_11 d x)≠(q105_6 d))=true->(false,())=(U.zo d.1,()))/\(decide ((q105_11 d x)≠(q105_6 d))=false->(∃(a:Nat),((0=(a:Int)/\True)/\True)/\a<=(q105_5 d x).length/\∀(j:Nat),j<a->U.jeO (nth (q105_5 d x) j)=true)/\∀(a:Nat),(a<=(q105_5 d x).length/\∀(j:Nat),j<a->U.jeO (nth (q105_5 d x) j)=true)->0<=(x:Int)/\(x:Int)<(q105_6 d)/\((q105_4 d x).length<4611686018427387904->(decide ((a:Int)<(q105_11 d x))=true->0<=(x:Int)/\(x:Int)<(q105_6 d)/\0<=(a:Int)/\(a:Int)<(q105_11 d x)/\((q105_2 d x a)=true->(false,())=(U.zo d.1,()))/\((q105_2 d x a)=false->jA ((a:Int)+1)/\∃(b:Nat),(((a:Int)+1=(b:Int)/\True)/\True)/\(b<=(q105_5 d x).length/\∀(j:Nat),j<b->U.jeO (nth (q105_5 d x) j)=true)/\(q105_5 d x).length-b<(q105_5 d x).length-a))/\(decide ((a:Int)<(q105_11 d x))=false->jA ((x:Int)+1)/\∃(b:Nat),(q105_9 x b)/\(b<=(U.jt d.1).length/\∀(j:Nat),j<b->U.qP (U.jt d.1).length (nth (U.jt d.1) j)=true)/\(U.jt d.1).length-b<(U.jt d.1).length-x))))/\(decide ((x:Int)<(q105_6 d))=false->(∃(x:Nat),(q105_13 x)/\x<=(U.jp d.1).length/\∀(j:Nat),j<x->U.jct (U.jt d.1).length (nth (U.jp d.1) j)=true)/\∀(x:Nat),(x<=(U.jp d.1).length/\∀(j:Nat),j<x->U.jct (U.jt d.1).length (nth (U.jp d.1) j)=true)->d.1.2.2.1.length<4611686018427387904->(decide ((x:Int)<(q105_8 d))=true->0<=(x:Int)/\(x:Int)<(q105_8 d)/\(d.1.2.1.length<4611686018427387904->jA ((q105_6 d)-1)/\((q105_1 d x)=true->(false,())=(U.zo d.1,()))/\((q105_1 d x)=false->jA ((x:Int)+1)/\∃(b:Nat),(q105_9 x b)/\(b<=(U.jp d.1).length/\∀(j:Nat),j<b->U.jct (U.jt d.1).length (nth (U.jp d.1) j)=true)/\(U.jp d.1).length-b<(U.jp d.1).length-x)))/\(decide ((x:Int)<(q105_8 d))=false->(∃(x:Nat),(q105_13 x)/\x<=(U.jW d.1).length/\∀(j:Nat),j<x->U.jbn (U.jp d.1).length (U.jj (U.jf d.1)).length (nth (U.jW d.1) j)=true)/\∀(x:Nat),(x<=(U.jW d.1).length/\∀(j:Nat),j<x->U.jbn (U.jp d.1).length (U.jj (U.jf d.1)).length (nth (U.jW d.1) j)=true)->d.1.2.2.2.2.2.1.length<4611686018427387904->(decide ((x:Int)<(q105_12 d))=true->0<=(x:Int)/\(x:Int)<(q105_12 d)/\((q105_0 d x)=true->(false,())=(U.zo d.1,()))/\((q105_0 d x)=false->jA ((x:Int)+1)/\∃(b:Nat),(q105_9 x b)/\(b<=(U.jW d.1).length/\∀(j:Nat),j<b->U.jbn (U.jp d.1).length (U.jj (U.jf d.1)).length (nth (U.jW d.1) j)=true)/\(U.jW d.1).length-b<(U.jW d.1).length-x))/\(decide ((x:Int)<(q105_12 d))=false->(true,())=(U.zo d.1,())))))
def jqs:jO:=⟨[.val (.slice tSh)],[.bool],false,fun d=>[d.1.length<=1000000],fun d=>(U.zZ d.1,())⟩
def jr5:Ann:=fun r=>match r with
 |2=>some fun σ=>{X:=Nat,sl:=fun i=>[(3,.dat .int (i:Int))],ob:=fun _=>[],inv:=fun i=>i<=(gd (.slice tSh) σ 0).length/\U.wK (gd (.slice tSh) σ 0) i=false,mu:=fun i=>(gd (.slice tSh) σ 0).length-i}
 |5=>some fun σ=>{X:=Nat,sl:=fun i=>[(4,.dat .int (i:Int))],ob:=fun _=>[],inv:=fun i=>i<=(gd .int σ 3).toNat/\∀j:Nat,j<i->U.jjZ (nth (gd (.slice tSh) σ 0) (gd .int σ 3).toNat) (nth (gd (.slice tSh) σ 0) j)=false,mu:=fun i=>(gd .int σ 3).toNat-i}
 |_=>none
abbrev q106_0 (d:List ShD×Unit)(x:Nat)(a:Nat):=((nth d.1 (x:Int).toNat).1=(nth d.1 (a:Int).toNat).1)
def jp6:Prop:=∀(d:List ShD×Unit),d.1.length<=1000000->(∃(x:Nat),((0=(x:Int)/\True)/\True)/\x<=d.1.length/\U.wK d.1 x=false)/\∀(x:Nat),x<=d.1.length/\U.wK d.1 x=false->d.1.length<4611686018427387904->(decide ((x:Int)<(d.1.length:Int))=true->(∃(a:Nat),((0=(a:Int)/\True)/\True)/\a<=(x:Int).toNat/\∀(j:Nat),j<a->U.jjZ (nth d.1 (x:Int).toNat) (nth d.1 j)=false)/\∀(a:Nat),(a<=(x:Int).toNat/\∀(j:Nat),j<a->U.jjZ (nth d.1 (x:Int).toNat) (nth d.1 j)=false)->(decide ((a:Int)<(x:Int))=true->0<=(x:Int)/\(x:Int)<(d.1.length:Int)/\0<=(a:Int)/\(a:Int)<(d.1.length:Int)/\(decide (q106_0 d x a)=true->0<=(x:Int))/\(decide (q106_0 d x a)=true->(x:Int)<(d.1.length:Int))/\(decide (q106_0 d x a)=true->0<=(a:Int))/\(decide (q106_0 d x a)=true->(a:Int)<(d.1.length:Int))/\((decide (q106_0 d x a)&& !decide (nth d.1 (x:Int).toNat=nth d.1 (a:Int).toNat))=true->(true,())=(U.zZ d.1,()))/\((decide (q106_0 d x a)&& !decide (nth d.1 (x:Int).toNat=nth d.1 (a:Int).toNat))=false->jA ((a:Int)+1)/\∃(b:Nat),(((a:Int)+1=(b:Int)/\True)/\True)/\(b<=(x:Int).toNat/\∀(j:Nat),j<b->U.jjZ (nth d.1 (x:Int).toNat) (nth d.1 j)=false)/\(x:Int).toNat-b<(x:Int).toNat-a))/\(decide ((a:Int)<(x:Int))=false->jA ((x:Int)+1)/\∃(b:Nat),(((x:Int)+1=(b:Int)/\True)/\True)/\(b<=d.1.length/\U.wK d.1 b=false)/\d.1.length-b<d.1.length-x))/\(decide ((x:Int)<(d.1.length:Int))=false->(false,())=(U.zZ d.1,()))
def jqv:jO:=⟨[.val tDy],[.int],false,fun d=>[(U.jp d.1).length<=1000000],fun d=>(U.qV d.1,())⟩
def jr7:Ann:=fun r=>match r with
 |4=>some fun σ=>{X:=Nat,sl:=fun i=>[(3,.dat .int (i:Int))],ob:=fun _=>[],inv:=fun i=>i<=(U.jp (gb tDy σ 1)).length/\∀j:Nat,j<i->U.zu (U.jf (gb tDy σ 1)) (U.jfE (nth (U.jp (gb tDy σ 1)) j))=true,mu:=fun i=>(U.jp (gb tDy σ 1)).length-i}
 |_=>none
def jp9:Prop:=∀(d:DyD×Unit),(U.jp d.1).length<=1000000->((!U.ju d.1.1)=true->((30:Int),())=(U.qV d.1,()))/\((!U.ju d.1.1)=false->(∃(x:Nat),((0=(x:Int)/\True)/\True)/\x<=(U.jp d.1).length/\∀(j:Nat),j<x->U.zu (U.jf d.1) (U.jfE (nth (U.jp d.1) j))=true)/\∀(x:Nat),(x<=(U.jp d.1).length/\∀(j:Nat),j<x->U.zu (U.jf d.1) (U.jfE (nth (U.jp d.1) j))=true)->d.1.2.2.1.length<4611686018427387904->(decide ((x:Int)<(d.1.2.2.1.length:Int))=true->0<=(x:Int)/\(x:Int)<(d.1.2.2.1.length:Int)/\U.ju d.1.1=true/\((!U.zu d.1.1 (nth d.1.2.2.1 (x:Int).toNat).1)=true->((31:Int),())=(U.qV d.1,()))/\((!U.zu d.1.1 (nth d.1.2.2.1 (x:Int).toNat).1)=false->jA ((x:Int)+1)/\∃(a:Nat),(((x:Int)+1=(a:Int)/\True)/\True)/\(a<=(U.jp d.1).length/\∀(j:Nat),j<a->U.zu (U.jf d.1) (U.jfE (nth (U.jp d.1) j))=true)/\(U.jp d.1).length-a<(U.jp d.1).length-x))/\(decide ((x:Int)<(d.1.2.2.1.length:Int))=false->((!U.zo d.1)=true->((50:Int),())=(U.qV d.1,()))/\((!U.zo d.1)=false->d.1.2.2.2.2.2.1.length<=1000000/\(U.zZ d.1.2.2.2.2.2.1=true->((51:Int),())=(U.qV d.1,()))/\(U.zZ d.1.2.2.2.2.2.1=false->((0:Int),())=(U.qV d.1,())))))
def jks:jO:=⟨[.val (.slice tSh)],[.slice tSh],false,fun d=>[d.1.length<=1000],fun d=>(U.kA d.1,())⟩
def jk1:Ann:=fun r=>match r with
 |3=>some fun σ=>{X:=Nat,sl:=fun i=>[(4,.dat .int (i:Int)),(3,.own 3 tSh)],ob:=fun i=>[(3,some (.row 54 tSh false .yes (U.zH (gd (.slice tSh) σ 0) i)))],inv:=fun i=>i<=100,mu:=fun i=>100-i}
 |6=>some fun σ=>{X:=Nat,sl:=fun i=>[(5,.dat .int (i:Int)),(3,.own 3 tSh)],ob:=fun i=>[(3,some (.row 54 tSh false .yes (gr tSh σ 3++U.vH (gd (.slice tSh) σ 0) i (gd .int σ 4).toNat)))],inv:=fun i=>i<=(gd (.slice tSh) σ 0).length,mu:=fun i=>(gd (.slice tSh) σ 0).length-i}
 |10=>some fun σ=>{X:=Nat,sl:=fun k=>[(7,.dat .int (k:Int)),(6,.dat .bool (U.kL (gd (.slice tSh) σ 0) (gd .int σ 5).toNat k (gd .int σ 4)))],ob:=fun _=>[],inv:=fun k=>k<=(gd .int σ 5).toNat,mu:=fun k=>(gd .int σ 5).toNat-k}
 |_=>none
def jkj:Prop:=∀(d:List ShD×Unit),d.1.length<=1000->(∃(x:Nat),((0=(x:Int)/\True/\True)/\U.zH d.1 x=[]/\True)/\x<=100)/\∀(x:Nat),x<=100->(decide ((x:Int)<=99)=true->(∃(a:Nat),((0=(a:Int)/\True/\True)/\U.zH d.1 x=U.zH d.1 x++U.vH d.1 a (x:Int).toNat/\True)/\a<=d.1.length)/\∀(a:Nat),a<=d.1.length->d.1.length<4611686018427387904->(decide ((a:Int)<(d.1.length:Int))=true->0<=(a:Int)/\(a:Int)<(d.1.length:Int)/\(∃(b:Nat),((0=(b:Int)/\decide ((nth d.1 (a:Int).toNat).1=(x:Int))=U.kL d.1 (a:Int).toNat b (x:Int)/\True)/\True)/\b<=(a:Int).toNat)/\∀(b:Nat),b<=(a:Int).toNat->(decide ((b:Int)<(a:Int))=true->(U.kL d.1 (a:Int).toNat b (x:Int)=true->0<=(b:Int))/\(U.kL d.1 (a:Int).toNat b (x:Int)=true->(b:Int)<(d.1.length:Int))/\(U.kL d.1 (a:Int).toNat b (x:Int)=true->0<=(a:Int))/\(U.kL d.1 (a:Int).toNat b (x:Int)=true->(a:Int)<(d.1.length:Int))/\jA ((b:Int)+1)/\∃(c:Nat),(((b:Int)+1=(c:Int)/\(U.kL d.1 (a:Int).toNat b (x:Int)&& !decide (nth d.1 (b:Int).toNat=nth d.1 (a:Int).toNat))=U.kL d.1 (a:Int).toNat c (x:Int)/\True)/\True)/\c<=(a:Int).toNat/\(a:Int).toNat-c<(a:Int).toNat-b)/\(decide ((b:Int)<(a:Int))=false->(U.kL d.1 (a:Int).toNat b (x:Int)=true->0<=(a:Int)/\(a:Int)<(d.1.length:Int)/\((U.zH d.1 x++U.vH d.1 a (x:Int).toNat).length+[nth d.1 (a:Int).toNat].length)*40<=140737488355328/\jA ((a:Int)+1)/\∃(c:Nat),(((a:Int)+1=(c:Int)/\True/\True)/\U.zH d.1 x++U.vH d.1 a (x:Int).toNat++[nth d.1 (a:Int).toNat]=U.zH d.1 x++U.vH d.1 c (x:Int).toNat/\True)/\c<=d.1.length/\d.1.length-c<d.1.length-a)/\(U.kL d.1 (a:Int).toNat b (x:Int)=false->jA ((a:Int)+1)/\∃(c:Nat),((True/\(a:Int)+1=(c:Int)/\True)/\U.zH d.1 x++U.vH d.1 a (x:Int).toNat=U.zH d.1 x++U.vH d.1 c (x:Int).toNat/\True)/\c<=d.1.length/\d.1.length-c<d.1.length-a)))/\(decide ((a:Int)<(d.1.length:Int))=false->jA ((x:Int)+1)/\∃(c:Nat),(((x:Int)+1=(c:Int)/\True/\True)/\U.zH d.1 x++U.vH d.1 a (x:Int).toNat=U.zH d.1 c/\True)/\c<=100/\100-c<100-x))/\(decide ((x:Int)<=99)=false->(U.zH d.1 x,())=(U.kA d.1,()))
end Go.X
namespace Go.X
open Go.Proofs
theorem jrx:jnM:=by
 rintro⟨n,a,b,⟨⟩⟩;rfl
theorem jbm:ze PR 103 jn7:=jL jrx Tryz.func103 kcN koN
theorem jkQ:jio:=by
 rintro⟨d,n,⟨⟩⟩ a;have a:(U.jp d).length<4611686018427387904:=a;exact⟨by show jA (((U.jp d).length:Int)-1);exact L.in64 (by omega) (by omega),rfl⟩
theorem ji1:ze PR 104 jiB:=jL jkQ Tryz.func104 (kcC jbm kcN) koN
theorem jm3:jkk:=by
 rintro⟨d,n,⟨⟩⟩ a;have a:(U.jj (U.jf d)).length<4611686018427387904:=a;exact⟨by show jA (((U.jj (U.jf d)).length:Int)-1);exact L.in64 (by omega) (by omega),rfl⟩
theorem jkF:ze PR 60 jkt:=jL jm3 Tryz.func60 (kcC jbm kcN) koN
theorem jpF (l:List ShD) (n:Nat):U.wK l (n+1)=(U.wK l n||U.jh8 l n):=by
 unfold U.wK;rw[jEz,List.any_append];simp
theorem jni {l:List ShD} {i:Nat} (h:∀j:Nat,j<i->U.jjZ (nth l i) (nth l j)=false) (hi:i<=l.length):U.jh8 l i=false:=by
 unfold U.jh8;rw[jEA];intro s a;rw[jEw] at a;obtain⟨j,b,rfl⟩:=a;have:=h j (by omega);rw[L.nth_lt (l:=l) (i:=j) (by omega)] at this;simpa using this
theorem juL {l:List ShD} {i j:Nat} (hi:i<l.length) (a:j<i) (h:U.jjZ (nth l i) (nth l j)=true):U.zZ l=true:=by
 unfold U.zZ U.wK U.jh8;rw[jEM];refine⟨i,jD8.2 hi,?_⟩;rw[jEM];refine⟨nth l j,?_,h⟩;rw[jEw];exact⟨j,by omega,(L.nth_lt (by omega)).symm⟩
theorem juk:jp6:=by
 unfold jp6 q106_0;rintro⟨l,⟨⟩⟩ k;have k:l.length<=1000000:=k;refine⟨⟨0,⟨⟨rfl,trivial⟩,trivial⟩,jDV _,rfl⟩,fun x m _=>⟨fun h=> ?_,fun h=> ?_⟩⟩
 .have h:(x:Int)<(l.length:Int):=of_decide_eq_true h;obtain⟨_,a⟩:x<=l.length/\U.wK l x=false:=m;refine⟨⟨0,⟨⟨rfl,trivial⟩,trivial⟩,jDV _,fun j o=>by omega⟩,fun y n=>⟨fun c=> ?_,fun c=> ?_⟩⟩
  .have c:(y:Int)<(x:Int):=of_decide_eq_true c;obtain⟨_,b⟩:y<=x/\∀j:Nat,j<y->U.jjZ (nth l x) (nth l j)=false:=n;have f:(y:Int)<(l.length:Int):=(by omega);refine⟨by omega,h,by omega,f,fun _=>by omega,fun _=>h,fun _=>by omega,fun _=>f,fun d=> ?_,fun d=>⟨L.in64 (by omega) (by omega),y+1,⟨⟨by simp,trivial⟩,trivial⟩,⟨by show y+1<=x;omega,fun j o=> ?_⟩,by show x-(y+1)<x-y;omega⟩⟩
   .have d:U.jjZ (nth l x) (nth l y)=true:=d;have:=juL (by omega) (by omega) d;show(true,())=(U.zZ l,());rw[this]
   .by_cases e:j=y
    .subst e;exact d
    .exact b j (by omega)
  .have c:¬(y:Int)<(x:Int):=of_decide_eq_false c;obtain⟨q,b⟩:y<=x/\∀j:Nat,j<y->U.jjZ (nth l x) (nth l j)=false:=n;have i:y=x:=(by omega);subst i;refine⟨L.in64 (by omega) (by omega),y+1,⟨⟨by simp,trivial⟩,trivial⟩,⟨by show y+1<=l.length;omega,?_⟩,by show l.length-(y+1)<l.length-y;omega⟩;show U.wK l (y+1)=false;rw[jpF,a,jni b (by omega)];rfl
 .have h:¬(x:Int)<(l.length:Int):=of_decide_eq_false h;obtain⟨p,a⟩:x<=l.length/\U.wK l x=false:=m;have g:x=l.length:=(by omega);subst g;show(false,())=(U.zZ l,());unfold U.zZ;rw[a]
theorem ji0:ze PR 52 jqs:=wa jr5 juk Tryz.func52 kcN koN
theorem jun:jp9:=by
 rintro⟨d,⟨⟩⟩ k;have k:(U.jp d).length<=1000000:=k;refine⟨fun h=> ?_,fun h=> ?_⟩
 .have h:U.ju (U.jf d)=false:=(by simpa using(show(!U.ju (U.jf d))=true from h));show((30:Int),())=(U.qV d,());unfold U.qV;rw[h];rfl
 have g:U.ju (U.jf d)=true:=(by simpa using(show(!U.ju (U.jf d))=false from h));refine⟨⟨0,⟨⟨rfl,trivial⟩,trivial⟩,jDV _,fun j f=>by omega⟩,fun x m _=>⟨fun h=> ?_,fun h=> ?_⟩⟩
 .have h:(x:Int)<((U.jp d).length:Int):=of_decide_eq_true h;refine⟨by omega,h,g,fun a=> ?_,fun a=>⟨L.in64 (by omega) (by omega),x+1,⟨⟨by simp,trivial⟩,trivial⟩,⟨by show x+1<=(U.jp d).length;omega,fun j f=> ?_⟩,by show(U.jp d).length-(x+1)<(U.jp d).length-x;omega⟩⟩
  .have a:U.zu (U.jf d) (U.jfE (nth (U.jp d) x))=false:=(by simpa using(show(!U.zu (U.jf d) (U.jfE (nth (U.jp d) x)))=true from a));have f:U.jwN d=false:=by
    unfold U.jwN;exact jEQ.2 ⟨_,L.mem_nth (l:=U.jp d) (i:=x) (by omega),by rw[a];simp⟩
   show((31:Int),())=(U.qV d,());unfold U.qV;rw[g,f];rfl
  .have a:U.zu (U.jf d) (U.jfE (nth (U.jp d) x))=true:=(by simpa using(show(!U.zu (U.jf d) (U.jfE (nth (U.jp d) x)))=false from a));by_cases e:j=x
   .subst e;exact a
   .exact m.2 j (by omega)
 .have h:¬(x:Int)<((U.jp d).length:Int):=of_decide_eq_false h;have f:U.jwN d=true:=jaj (p:=fun b=>U.zu (U.jf d) (U.jfE b)) (by omega) m.2;refine⟨fun a=> ?_,fun a=> ?_⟩
  .have a:U.zo d=false:=(by simpa using(show(!U.zo d)=true from a));show((50:Int),())=(U.qV d,());unfold U.qV;rw[g,f,a];rfl
  .have a:U.zo d=true:=(by simpa using(show(!U.zo d)=false from a));have n:(U.jW d).length<=30:=(zp a).2.2.2.2.1;refine⟨by show(U.jW d).length<=1000000;omega,fun c=> ?_,fun c=> ?_⟩
   .have c:U.zZ (U.jW d)=true:=c;show((51:Int),())=(U.qV d,());unfold U.qV;rw[g,f,a,c];rfl
   .have c:U.zZ (U.jW d)=false:=c;show((0:Int),())=(U.qV d,());unfold U.qV;rw[g,f,a,c];rfl
end Go.X
namespace Go.X
open Go.Proofs
theorem jxS (l:List ShD) (n m:Nat):U.vH l (n+1) m=U.vH l n m++(if(decide (U.zT (nth l n)=(m:Int))&&U.jbG l n)=true then[nth l n] else[]):=by
 unfold U.vH;rw[L.range_filter_succ,jEH];by_cases h:(decide (U.zT (nth l n)=(m:Int))&&U.jbG l n)=true
 .rw[if_pos h,if_pos h];rfl
 .rw[if_neg h,if_neg h];rfl
theorem js5 (l:List ShD) (n m:Nat):(U.vH l n m).length<=n:=by
 unfold U.vH;rw[jEX];exact jDZ (List.length_filter_le _ _) (by simp)
theorem jjU (l:List ShD) (n:Nat):U.zH l (n+1)=U.zH l n++U.vH l l.length n:=by
 unfold U.zH;rw[jEz,List.flatMap_append];simp
theorem jlL (l:List ShD):∀n,(U.zH l n).length<=l.length*n
 |0=>jDV _
 |n+1=>by
  have a:=jlL l n
  have:=js5 l l.length n
  rw[jjU,jD2,Nat.mul_succ]
  omega
theorem jpl {l:List ShD} {i k:Nat} {id:Int} (h:k<l.length):U.kL l i (k+1) id=(U.kL l i k id&& !decide (nth l k=nth l i)):=by
 unfold U.kL;rw[L.take_succ h,List.any_append];simp only[List.any_cons,List.any_nil,Bool.or_false,Bool.not_or,Bool.and_assoc]
theorem jm2:jkj:=by
 rintro⟨l,⟨⟩⟩ f;have f:l.length<=1000:=f;refine⟨⟨0,⟨⟨rfl,trivial,trivial⟩,rfl,trivial⟩,jDV _⟩,fun x u=>⟨fun h=>⟨⟨0,⟨⟨rfl,trivial,trivial⟩,?_,trivial⟩,jDV _⟩,fun y e _=>⟨fun a=> ?_,fun a=> ?_⟩⟩,fun h=> ?_⟩⟩
 .exact(jEg _).symm
 .have h:(x:Int)<=99:=of_decide_eq_true h;have a:(y:Int)<(l.length:Int):=of_decide_eq_true a;have e:y<=l.length:=e;refine⟨by omega,a,⟨0,⟨⟨rfl,?_,trivial⟩,trivial⟩,jDV _⟩,fun z p=>⟨fun c=> ?_,fun c=> ?_⟩⟩
  .show decide (U.zT (nth l y)=(x:Int))=U.kL l y 0 (x:Int);unfold U.kL;simp
  .have c:(z:Int)<(y:Int):=of_decide_eq_true c;have m:(z:Int)<(l.length:Int):=(by omega);have d:=jpl (l:=l) (i:=y) (k:=z) (id:=(x:Int)) (by omega);exact⟨fun _=>by omega,fun _=>m,fun _=>by omega,fun _=>a,L.in64 (by omega) (by omega),z+1,⟨⟨by simp,d.symm,trivial⟩,trivial⟩,by show z+1<=y;omega,by show y-(z+1)<y-z;omega⟩
  .have c:¬(z:Int)<(y:Int):=of_decide_eq_false c;have p:z<=y:=p;have n:z=y:=(by omega);subst n;have d:=jxS l z x;have s:=js5 l z x;have t:=jlL l x;have r:l.length*x<=1000*99:=Nat.mul_le_mul f (by omega);have q:z+1<=l.length:=(by omega);have o:l.length-(z+1)<l.length-z:=(by omega);refine⟨fun b=>⟨by omega,a,?_,L.in64 (by omega) (by omega),z+1,⟨⟨by simp,trivial,trivial⟩,?_,trivial⟩,q,o⟩,fun b=>⟨L.in64 (by omega) (by omega),z+1,⟨⟨trivial,by simp,trivial⟩,?_,trivial⟩,q,o⟩⟩
   .show((U.zH l x++U.vH l z x).length+1)*40<=140737488355328;rw[jD2];omega
   .have b:(decide (U.zT (nth l z)=(x:Int))&&U.jbG l z)=true:=b;show U.zH l x++U.vH l z x++[nth l z]=U.zH l x++U.vH l (z+1) x;rw[d,if_pos b,jD3]
   .have b:(decide (U.zT (nth l z)=(x:Int))&&U.jbG l z)=false:=b;show U.zH l x++U.vH l z x=U.zH l x++U.vH l (z+1) x;rw[d,if_neg (by rw[b];simp),jEg]
 .have h:(x:Int)<=99:=of_decide_eq_true h;have a:¬(y:Int)<(l.length:Int):=of_decide_eq_false a;have e:y<=l.length:=e;have j:y=l.length:=(by omega);subst j;exact⟨L.in64 (by omega) (by omega),x+1,⟨⟨by simp,trivial,trivial⟩,(jjU l x).symm,trivial⟩,by omega,by omega⟩
 .have h:¬(x:Int)<=99:=of_decide_eq_false h;have g:x=100:=(by omega);subst g;rfl
theorem jkE:ze PR 73 jks:=wa jk1 jm2 Tryz.func73 kcN koN
end Go.X
namespace Go.X
open Go.Proofs
end Go.X
namespace Go.X
open Go.Proofs
def jCB (d:DyD):Bool:=decide (4<((U.jp d).length:Int))|| !U.ja ((U.jt d).length:Int) 1 5|| !U.ja (U.jtN d) 0 300|| !U.ja (U.jAY d) 0 1440||decide (30<((U.jW d).length:Int))
def spH (s:SpD):Bool:=decide (U.lo s<0)||decide (U.hi s<U.lo s)||decide (300<U.hi s)
def bkH (n:Nat) (b:BkD):Bool:= !U.ja (U.jBv b) 0 ((n:Int)-1)||decide (U.jdP b<0)||decide (U.jzt b<=U.jdP b)||decide (1440<U.jzt b)
def shH (d:DyD) (s:ShD):Bool:= !U.ja (U.zT s) 0 99|| !U.ja (U.jnu s) 0 9999|| !U.ja (U.jyo s) 1 2|| !U.jwS d (U.joi s)|| !U.jo3 d (U.jcA s)
theorem jxD (d:DyD):U.zo d=(!jCB d&&((U.jt d).all (U.qP (U.jt d).length)&&((U.jp d).all (U.jct (U.jt d).length)&&(U.jW d).all (U.jbn (U.jp d).length (U.jj (U.jf d)).length)))):=by
 unfold U.zo jCB;congr 1;rw[jEm];simp only[U.ja,jEe,jEc,decide_eq_false_iff_not,jEq,jDR,decide_eq_true_eq];omega
theorem jzK (s:SpD):U.jeO s= !spH s:=by
 unfold U.jeO spH;rw[jEm];simp only[jEe,jEc,decide_eq_false_iff_not,decide_eq_true_eq];omega
theorem jz6 (n:Nat) (b:BkD):U.jct n b= !bkH n b:=by
 unfold U.jct bkH;rw[jEm];simp only[U.ja,jEe,jEc,decide_eq_false_iff_not,jEq,jDR,decide_eq_true_eq];omega
theorem jzM (d:DyD) (s:ShD):U.jbn (U.jp d).length (U.jj (U.jf d)).length s= !shH d s:=by
 unfold U.jbn shH U.jwS U.jo3;rw[jEm];simp only[U.ja,jEe,jEc,decide_eq_false_iff_not,jEq,jDR,decide_eq_true_eq];omega
theorem jpy {d:DyD} (h:jCB d=true\/(U.jt d).all (U.qP (U.jt d).length)=false\/(U.jp d).all (U.jct (U.jt d).length)=false\/(U.jW d).all (U.jbn (U.jp d).length (U.jj (U.jf d)).length)=false):(false,())=(U.zo d,()):=by
 have:U.zo d=false:=by
  rw[jxD];rcases h with h|h|h|h<;>rw[h]<;>simp
 rw[this]
theorem jpM {α:Type} [Inhabited α] {l:List α} {p:α->Bool} {x:Nat} (a:x<l.length) (h:p (nth l x)=false):l.all p=false:=jEQ.2 ⟨_,L.mem_nth a,by rw[h];simp⟩
theorem jum:jp8:=by
 unfold jp8 q105_13 q105_3 q105_12 q105_11 q105_1 q105_10 q105_9 q105_8 q105_0 q105_7 q105_6 q105_5 q105_2 q105_4;rintro⟨d,⟨⟩⟩ _ _ _;refine⟨fun h=>jpy (d:=d) (.inl h),fun k=> ?_⟩;have k:jCB d=false:=k;have l:=k;unfold jCB at l;simp only[U.ja,jEc,decide_eq_false_iff_not,jEq,jDR,decide_eq_true_eq] at l;refine⟨⟨0,⟨⟨rfl,trivial⟩,trivial⟩,jDV _,fun j g=>by omega⟩,fun x c _=>⟨fun h=> ?_,fun h=> ?_⟩⟩
 .have h:(x:Int)<((U.jt d).length:Int):=of_decide_eq_true h;have b:x<(U.jt d).length:=(by omega);refine⟨by omega,h,fun a=> ?_,fun a=>⟨⟨0,⟨⟨rfl,trivial⟩,trivial⟩,jDV _,fun j g=>by omega⟩,fun y n=>⟨by omega,h,fun m=>⟨fun i=> ?_,fun i=> ?_⟩⟩⟩⟩
  .have a:¬((nth (U.jt d) x).length:Int)=((U.jt d).length:Int):=of_decide_eq_true a;refine jpy (d:=d) (.inr (.inl (jpM b ?_)));unfold U.qP;rw[decide_eq_false (by omega)];rfl
  .have m:(nth (U.jt d) x).length<4611686018427387904:=m;have i:(y:Int)<((nth (U.jt d) x).length:Int):=of_decide_eq_true i;refine⟨by omega,h,by omega,i,fun f=> ?_,fun f=>⟨L.in64 (by omega) (by omega),y+1,⟨⟨by simp,trivial⟩,trivial⟩,⟨by show y+1<=(nth (U.jt d) x).length;omega,fun j g=> ?_⟩,by show(nth (U.jt d) x).length-(y+1)<(nth (U.jt d) x).length-y;omega⟩⟩
   .have f:spH (nth (nth (U.jt d) x) y)=true:=f;refine jpy (d:=d) (.inr (.inl (jpM b ?_)));have:(nth (U.jt d) x).all U.jeO=false:=jpM (x:=y) (by omega) (by rw[jzK,f];rfl);unfold U.qP;rw[this,Bool.and_false]
   .have f:spH (nth (nth (U.jt d) x) y)=false:=f;by_cases e:j=y
    .subst e;show U.jeO (nth (nth (U.jt d) x) j)=true;rw[jzK,f];rfl
    .exact n.2 j (by omega)
  .have i:¬(y:Int)<((nth (U.jt d) x).length:Int):=of_decide_eq_false i;have a:((nth (U.jt d) x).length:Int)=((U.jt d).length:Int):=Classical.not_not.1 (of_decide_eq_false a);have o:(nth (U.jt d) x).all U.jeO=true:=jaj (by omega) n.2;refine⟨L.in64 (by omega) (by omega),x+1,⟨⟨by simp,trivial⟩,trivial⟩,⟨by show x+1<=(U.jt d).length;omega,fun j g=> ?_⟩,by show(U.jt d).length-(x+1)<(U.jt d).length-x;omega⟩;by_cases e:j=x
   .subst e;show U.qP (U.jt d).length (nth (U.jt d) j)=true;unfold U.qP;rw[o,decide_eq_true (by omega)];rfl
   .exact c.2 j (by omega)
 have h:¬(x:Int)<((U.jt d).length:Int):=of_decide_eq_false h;have r:(U.jt d).all (U.qP (U.jt d).length)=true:=jaj (by omega) c.2;clear c h;refine⟨⟨0,⟨⟨rfl,trivial⟩,trivial⟩,jDV _,fun j g=>by omega⟩,fun x c _=>⟨fun h=> ?_,fun h=> ?_⟩⟩
 .have h:(x:Int)<((U.jp d).length:Int):=of_decide_eq_true h;have b:x<(U.jp d).length:=(by omega);refine⟨by omega,h,fun _=>⟨by show jA (((U.jt d).length:Int)-1);exact L.in64 (by omega) (by omega),fun a=> ?_,fun a=>⟨L.in64 (by omega) (by omega),x+1,⟨⟨by simp,trivial⟩,trivial⟩,⟨by show x+1<=(U.jp d).length;omega,fun j g=> ?_⟩,by show(U.jp d).length-(x+1)<(U.jp d).length-x;omega⟩⟩⟩
  .have a:bkH (U.jt d).length (nth (U.jp d) x)=true:=a;exact jpy (d:=d) (.inr (.inr (.inl (jpM b (by rw[jz6,a];rfl)))))
  .have a:bkH (U.jt d).length (nth (U.jp d) x)=false:=a;by_cases e:j=x
   .subst e;show U.jct (U.jt d).length (nth (U.jp d) j)=true;rw[jz6,a];rfl
   .exact c.2 j (by omega)
 have h:¬(x:Int)<((U.jp d).length:Int):=of_decide_eq_false h;have p:(U.jp d).all (U.jct (U.jt d).length)=true:=jaj (by omega) c.2;clear c h;refine⟨⟨0,⟨⟨rfl,trivial⟩,trivial⟩,jDV _,fun j g=>by omega⟩,fun x c _=>⟨fun h=> ?_,fun h=> ?_⟩⟩
 .have h:(x:Int)<((U.jW d).length:Int):=of_decide_eq_true h;have b:x<(U.jW d).length:=(by omega);refine⟨by omega,h,fun a=> ?_,fun a=>⟨L.in64 (by omega) (by omega),x+1,⟨⟨by simp,trivial⟩,trivial⟩,⟨by show x+1<=(U.jW d).length;omega,fun j g=> ?_⟩,by show(U.jW d).length-(x+1)<(U.jW d).length-x;omega⟩⟩
  .have a:shH d (nth (U.jW d) x)=true:=a;exact jpy (d:=d) (.inr (.inr (.inr (jpM b (by rw[jzM,a];rfl)))))
  .have a:shH d (nth (U.jW d) x)=false:=a;by_cases e:j=x
   .subst e;show U.jbn (U.jp d).length (U.jj (U.jf d)).length (nth (U.jW d) j)=true;rw[jzM,a];rfl
   .exact c.2 j (by omega)
 .have h:¬(x:Int)<((U.jW d).length:Int):=of_decide_eq_false h;have q:(U.jW d).all (U.jbn (U.jp d).length (U.jj (U.jf d)).length)=true:=jaj (by omega) c.2;show(true,())=(U.zo d,());rw[jxD,k,r,p,q];rfl
theorem jq8:ze PR 51 jqu:=wa jr6 jum Tryz.func51 (kcC jbm (kcC ji1 (kcC jkF kcN))) koN
theorem jq9:ze PR 17 jqv:=wa jr7 jun Tryz.func17 (kcC jgK (kcC jra (kcC jq8 (kcC ji0 kcN)))) koN
end Go.X
namespace Go.X
open Go.Proofs
namespace U
def jwK (l:List ShD) (i n:Nat):Bool:=decide (jyo (nth l i)=1)&& !((l.take n).any (fun t=>decide (joi t=joi (nth l i))&&decide (jcA t=jcA (nth l i))&&wB t (nth l i)))
def jzD (l:List ShD) (n:Nat):List ShD:=((List.range n).filter (fun i=>jwK l i l.length)).map (nth l)
def jcD (l:List ShD) (n:Nat):Nat:=(List.range n).foldl (fun f i=>if wB (nth l f) (nth l i)=true then i else f) 0
def wq (l:List ShD):Nat->List ShD×List ShD
 |0=>([],l)
 |n+1=>((wq l n).1++[nth (wq l n).2 (jcD (wq l n).2 (wq l n).2.length)],(wq l n).2.take (jcD (wq l n).2 (wq l n).2.length)++(wq l n).2.drop (jcD (wq l n).2 (wq l n).2.length+1))
def jd3 (d:DyD):List ShD:=jzD (kA (jW d)) (kA (jW d)).length
def ju4 (d:DyD):List ShD:=(wq (jd3 d) (jd3 d).length).1
def jnT (d:DyD) (n:Nat):List Int×List Int:=((ju4 d).take n).foldl (jbT d) (List.replicate (jp d).length 0,[])
def jvt (d:DyD):List Int×List Int:=jnT d (ju4 d).length
end U
end Go.X
namespace Go.X
open Go.Proofs
end Go.X
namespace Go.X
theorem jlt (l:List ShD) (n:Nat):U.jcD l (n+1)=if U.wB (nth l (U.jcD l n)) (nth l n)=true then n else U.jcD l n:=by
 unfold U.jcD;rw[jEz,jEo];rfl
theorem jh0 (l:List ShD):∀n,n<=l.length->0<l.length->U.jcD l n<l.length
 |0,_,h=>h
 |n+1,a,h=>by
  have b:=jh0 l n (by omega) h
  rw[jlt]
  split<;>omega
theorem jhW (l:List ShD):∀n,n<=l.length->(U.wq l n).1.length=n/\(U.wq l n).2.length=l.length-n
 |0,_=>⟨rfl,rfl⟩
 |n+1,d=>by
  obtain⟨a,b⟩:=jhW l n (by omega)
  have c:=jh0 (U.wq l n).2 _ (jDO _) (by omega)
  refine⟨?_,?_⟩
  .show((U.wq l n).1++[_]).length=_
   rw[jD2,a];rfl
  .show((U.wq l n).2.take _++(U.wq l n).2.drop _).length=_
   rw[jD2,jEf,jE2]
   omega
theorem jzk {α:Type} [Inhabited α] {l:List α} {m:Nat} (h:m<l.length):(nth l m::(l.take m++l.drop (m+1))).Perm l:=by
 have e:l=l.take m++nth l m::l.drop (m+1):=by
  conv=>lhs;rw[<-jE3 m l]
  rw[List.drop_eq_getElem_cons h,L.nth_lt h]
 conv=>rhs;rw[e]
 exact List.perm_middle.symm
theorem jiF (l:List ShD):∀n,n<=l.length->((U.wq l n).1++(U.wq l n).2).Perm l
 |0,_=>List.Perm.refl _
 |n+1,d=>by
  have b:=jiF l n (by omega)
  have c:=jhW l n (by omega)
  have a:=jh0 (U.wq l n).2 _ (jDO _) (by omega)
  refine List.Perm.trans ?_ b
  show((U.wq l n).1++[nth (U.wq l n).2 (U.jcD (U.wq l n).2 (U.wq l n).2.length)]++_).Perm _
  rw[jD3]
  exact List.Perm.append_left _ (jzk a)
theorem jyj {d:DyD} {n:Nat} (h:n<(U.ju4 d).length):U.jnT d (n+1)=U.jbT d (U.jnT d n) (nth (U.ju4 d) n):=by
 unfold U.jnT;rw[L.take_succ h,jEo];rfl
theorem jpZ {d:DyD} {s:ShD} (h:s∈U.ju4 d):s∈U.kA (U.jW d):=by
 have b:=jiF (U.jd3 d) (U.jd3 d).length (jDO _);have a:s∈U.jd3 d:=b.mem_iff.1 (jDK _ h);unfold U.jd3 U.jzD at a;obtain⟨i,hi,rfl⟩:=jEl.1 a;exact L.mem_nth (jD8.1 (jEb.1 hi).1)
theorem qj {l:List ShD} {s:ShD} (h:s∈U.kA l):s∈l:=by
 unfold U.kA U.zH at h;obtain⟨m,_,h⟩:=List.mem_flatMap.1 h;unfold U.vH at h;obtain⟨i,hi,rfl⟩:=jEl.1 h;exact L.mem_nth (jD8.1 (jEb.1 hi).1)
end Go.X
namespace Go.X
open Go.Proofs
attribute [local irreducible] U.ju4 U.jnT U.jay U.on
end Go.X
namespace Go.X
theorem jlX (c:CrD) (j:JbD) (i:Nat):(U.wi (c,j,U.jyQ c j,()) (nth (U.jj c) i)=0)↔U.jai c j (i:Int)=true:=by
 show U.jty (U.jvh (nth (U.jj c) i) (U.jBT j)) (!U.jhG (U.fd (nth (U.jj c) i)) (U.jBS j)) (!U.jhG (U.cl (nth (U.jj c) i)) (U.jBR j))=0↔
  (!(U.jvh (nth (U.jj c) ((i:Int)).toNat) (U.jBT j))&&U.jhG (U.fd (nth (U.jj c) ((i:Int)).toNat)) (U.jBS j)&&U.jhG (U.cl (nth (U.jj c) ((i:Int)).toNat)) (U.jBR j))=true
 rw[jDN];generalize U.jvh (nth (U.jj c) i) (U.jBT j)=x;generalize U.jhG (U.fd (nth (U.jj c) i)) (U.jBS j)=y;generalize U.jhG (U.cl (nth (U.jj c) i)) (U.jBR j)=z;cases x<;>cases y<;>cases z<;>decide
theorem jAT {c:CrD} {j:JbD} (b:U.ju c=true) (d:U.zu c j=true) (p:Nat):(p:Int)∈U.vY c j↔p<(U.jj c).length/\U.jai c j (p:Int)=true:=by
 have a:U.zP c j=0:=(by unfold U.zP;rw[b,d];rfl);unfold U.vY U.vw;rw[if_pos a,jEl];refine⟨fun⟨i,hi,e⟩=> ?_,fun h=>⟨p,?_,rfl⟩⟩
 .have e:i=p:=(by omega);subst e;have:=jEb.1 hi;exact⟨jD8.1 this.1,(jlX c j i).1 (of_decide_eq_true this.2)⟩
 .exact jEb.2 ⟨jD8.2 h.1,decide_eq_true ((jlX c j p).2 h.2)⟩
theorem jvG {l:List Int} (h:∀p∈l,0<=p/\p<8):∀n,n<=l.length->∀q,BT.has (U.jaq l n) q=(l.take n).any (fun p=>decide (p.toNat=q))
 |0,_,q=>BT.has_zero q
 |n+1,c,q=>by
  have b:=jvG h n (by omega) q
  have a:=jda h n (by omega)
  have d:=h _ (L.mem_nth (l:=l) (i:=n) (by omega))
  rw[jfV (by omega),jbg,BT.has_bor a.1 (BT.two_set (by omega)),b,BT.has_two,L.take_succ (by omega),List.any_append]
  simp
theorem jvH {l:List Int} (h:∀p∈l,0<=p/\p<8) (q:Nat):BT.has (U.jsj l) q=l.any (fun p=>decide (p.toNat=q)):=by
 have:=jvG h l.length (jDO _) q;rw[jEJ] at this;exact this
theorem jyL {d:DyD} {b:Nat} (a:b<(U.jp d).length):nth (U.kf d (U.jp d).length) b=U.jsj (U.vY (U.jf d) (U.jfE (nth (U.jp d) b))):=by
 unfold U.kf;rw[jEJ,L.nth_map a]
theorem jCj {d:DyD} (a:U.jpV d) {b:Nat} (c:b<(U.jp d).length):U.zu (U.jf d) (U.jfE (nth (U.jp d) b))=true:=
 jEp.1 a.2.1 _ (L.mem_nth c)
theorem jAU {d:DyD} (g:U.jpV d) {b p:Int} (m:U.q6 d b) (n:U.jt3 d p):decide (vG (nth (U.kf d (U.jp d).length) b.toNat/2^p.toNat) 1=0)= !U.jai (U.jf d) (U.jfE (U.bk d b)) p:=by
 unfold U.q6 at m;unfold U.jt3 at n;have a:b.toNat<(U.jp d).length:=(by omega);have j:=fun q (c:q∈U.vY (U.jf d) (U.jfE (nth (U.jp d) b.toNat)))=>jwC g.1 c
 have o:BT.Set' (U.jsj (U.vY (U.jf d) (U.jfE (nth (U.jp d) b.toNat)))):=(jda j _ (jDO _)).1;have i:U.bk d b=nth (U.jp d) b.toNat:=rfl;rw[jyL a,BT.bit_num o,i];have k:=jvH j p.toNat;have f:=jAT g.1 (jCj g a) p.toNat;have ep:((p.toNat:Nat):Int)=p:=(by omega);rw[ep] at f;have l:BT.has (U.jsj (U.vY (U.jf d) (U.jfE (nth (U.jp d) b.toNat)))) p.toNat=U.jai (U.jf d) (U.jfE (nth (U.jp d) b.toNat)) p:=by
  rw[k];cases h:U.jai (U.jf d) (U.jfE (nth (U.jp d) b.toNat)) p with
  |true=>exact jEM.2 ⟨p,f.2 ⟨by omega,h⟩,by simp⟩
  |false=>
   refine jEA.2 fun q c e=> ?_
   have e:q.toNat=p.toNat:=of_decide_eq_true e;have:=j q c;have e:q=p:=(by omega);rw[e] at c;rw[(f.1 c).2] at h;cases h
 rw[l];cases U.jai (U.jf d) (U.jfE (nth (U.jp d) b.toNat)) p<;>rfl
theorem jox {α:Type} [Inhabited α] {R:α->α->Prop} {l:List α}:(∀i,i<l.length->∀b∈l.take i,R b (nth l i))↔l.Pairwise R:=by
 rw[jEE];refine⟨fun h i j hi a d=> ?_,fun h i hi b c=> ?_⟩
 .have:=h j a l[i] (jEw.2 ⟨i,by omega,rfl⟩);rw[L.nth_lt a] at this;exact this
 .obtain⟨k,hk,rfl⟩:=jEw.1 c;rw[L.nth_lt hi];exact h k i (by omega) hi (by omega)
theorem jv5 {α:Type} [Inhabited α] {R:α->α->Prop} {l:List α}:(∀i,i<l.length->∀b∈l.drop (i+1),R (nth l i) b)↔l.Pairwise R:=by
 rw[jEE];refine⟨fun h i j hi d c=> ?_,fun h i hi b a=> ?_⟩
 .have:=h i hi l[j] (List.mem_drop_iff_getElem.2 ⟨j-(i+1),by omega,by congr 1;omega⟩);rw[L.nth_lt hi] at this;exact this
 .obtain⟨k,hk,rfl⟩:=List.mem_drop_iff_getElem.1 a;rw[L.nth_lt hi];exact h i (i+1+k) hi (by omega) (by omega)
theorem jbO (d:DyD) (a b:Int):U.yc d a b=true↔(U.jdP (U.bk d a)<U.jdP (U.bk d b)\/(U.jdP (U.bk d a)=U.jdP (U.bk d b)/\a<b)):=decide_eq_true_iff
theorem jbN (d:DyD) (a b:Int):U.yc d a b=false↔¬(U.jdP (U.bk d a)<U.jdP (U.bk d b)\/(U.jdP (U.bk d a)=U.jdP (U.bk d b)/\a<b)):=decide_eq_false_iff_not
theorem jxY (d:DyD) (l:List Int):kj (U.yc d) l where
 irrefl x _:=(jbN d x x).2 (by omega)
 trans x y z _ _ _ a b:=by
  have a:=(jbO d x y).1 a;have b:=(jbO d y z).1 b;exact(jbO d x z).2 (by omega)
 total x y _ _ a b:=by
  have a:=(jbN d x y).1 a;have b:=(jbN d y x).1 b;omega
theorem jka {d:DyD} {a b:Int} (h:a≠b) (c:U.yc d b a=false):U.yc d a b=true:=by
 have c:=(jbN d b a).1 c;exact(jbO d a b).2 (by omega)
theorem ju2 {d:DyD} {a b:Int} (c:U.yc d a b=true):U.yc d b a=false:=by
 have c:=(jbO d a b).1 c;exact(jbN d b a).2 (by omega)
theorem jef {d:DyD} {a b:Int} (h:U.yc d a b=true):(U.jaY d b a=decide (0<=U.vg d a b))/\(U.jaY d a b=decide (0<=U.vg d a b)):=by
 unfold U.jaY;rw[if_pos h,ju2 h,if_neg (by simp)];exact⟨rfl,rfl⟩
theorem jyg {d:DyD} {a b:Int} (h:a≠b):U.jaY d a b=U.jaY d b a:=by
 cases c:U.yc d b a with
 |false=>have:=jef (jka h c);rw[this.1,this.2]
 |true=>have:=jef c;rw[this.1,this.2]
def TgR (d:DyD) (a b:Int):Prop:=a≠b->U.jaY d b a=true
theorem jv4 {d:DyD} {l:List Int} (f:l.Nodup):U.jB5 d l=true↔l.Pairwise (TgR d):=by
 rw[<-jox];unfold U.jB5;rw[jEp];have e:∀i,i<l.length->∀b∈l.take i,b≠nth l i:=(jox (R:=fun a b=>a≠b)).2 f;refine⟨fun h i hi b c _=> ?_,fun h i hi=>jEp.2 fun b c=> ?_⟩
 .exact jEp.1 (h i (jD8.2 hi)) b c
 .exact h i (jD8.1 hi) b c (e i (jD8.1 hi) b c)
theorem TgR.symm {d:DyD} {a b:Int} (h:TgR d a b):TgR d b a:=fun e=>(jyg (Ne.symm e)).trans (h (Ne.symm e))
theorem jwz {d:DyD} {l l':List Int} (h:l.Perm l'):U.jrf d l=U.jrf d l':=by
 unfold U.jrf;exact List.Perm.foldl_eq' (h.map _) (fun x _ y _ z=>by omega) 0
theorem jnj (d:DyD) (p:Int) {l:List Int} (a:l.Nodup):U.jay d p l=true↔(∀b∈l,U.jai (U.jf d) (U.jfE (U.bk d b)) p=true)/\l.Pairwise (TgR d)/\U.jrf d l<=U.jAY d:=by
 unfold U.jay;rw[jDR,jDR,jEp,jv4 a,decide_eq_true_iff]
theorem jlQ (d:DyD) (p:Int) {l l':List Int} (h:l.Perm l') (g:l.Nodup):U.jay d p l=U.jay d p l':=by
 have f:=h.nodup_iff.1 g;refine jEm.2 ?_;rw[jnj d p g,jnj d p f,jwz h,h.pairwise_iff (fun h=>TgR.symm h)];exact⟨fun⟨a,c⟩=>⟨fun b e=>a b (h.mem_iff.2 e),c⟩,fun⟨a,c⟩=>⟨fun b e=>a b (h.mem_iff.1 e),c⟩⟩
theorem jzo (d:DyD) (may:List Int) (p:Int) (s:List Int):U.jBs d may p s=true↔(∀b∈s,decide (vG (nth may b.toNat/2^p.toNat) 1=0)=false)/\s.Pairwise (fun a b=>0<=U.vg d a b)/\U.jrf d s<=U.jAY d:=by
 rw[<-jv5];unfold U.jBs;rw[jDR,decide_eq_true_iff,jEp,<-and_assoc];refine and_congr_left fun _=> ?_
 have e:∀i,U.jmJ d may p s i=true↔decide (vG (nth may (nth s i).toNat/2^p.toNat) 1=0)=false/\∀b∈s.drop (i+1),0<=U.vg d (nth s i) b:=by
  intro i;unfold U.jmJ;rw[jEe,jEc,jEA];refine and_congr_right fun _=>⟨fun h b c=> ?_,fun h b c=> ?_⟩
  .have:=h b c;simp at this;omega
  .have:=h b c;simp;omega
 refine⟨fun h=>⟨fun b c=> ?_,fun i hi=>((e i).1 (h i (jD8.2 hi))).2⟩,fun h i hi=>(e i).2 ⟨h.1 _ (L.mem_nth (jD8.1 hi)),h.2 i (jD8.1 hi)⟩⟩;obtain⟨i,hi,rfl⟩:=L.mem_iff.1 c;exact((e i).1 (h i (jD8.2 hi))).1
theorem jBt {d:DyD} {may:List Int} {p:Int} {l:List Int} (m:l.Nodup) (j:∀b∈l,decide (vG (nth may b.toNat/2^p.toNat) 1=0)= !U.jai (U.jf d) (U.jfE (U.bk d b)) p):U.jrY d may p l=U.jay d p l:=by
 have f:(U.jk d l).Perm l:=j6 l;have c:(U.jk d l).Nodup:=f.nodup_iff.2 m;have k:(U.jk d l).Pairwise (fun a b=>U.yc d b a=false):=qX (jxY d l);rw[<-jlQ d p f c];unfold U.jrY;refine jEm.2 ?_;rw[jzo,jnj d p c];have i:=List.Pairwise.and k c;refine and_congr ⟨fun h b e=> ?_,fun h b e=> ?_⟩ (and_congr_left fun _=>⟨fun h=> ?_,fun h=> ?_⟩)
 .have g:=h b e;rw[j b (f.mem_iff.1 e)] at g;simpa using g
 .rw[j b (f.mem_iff.1 e),h b e];rfl
 .refine(List.Pairwise.and i h).imp fun{a b} x _=> ?_
  rw[(jef (jka x.1.2 x.1.1)).1];exact decide_eq_true x.2
 .refine(List.Pairwise.and i h).imp fun{a b} x=> ?_
  have:=x.2 x.1.2;rw[(jef (jka x.1.2 x.1.1)).1] at this;exact of_decide_eq_true this
end Go.X
namespace Go.X
theorem jbr (a b:ShD):U.wB a b=true↔(U.jnu b<U.jnu a\/(U.jnu a=U.jnu b/\U.zT b<U.zT a)):=decide_eq_true_iff
theorem jeT (a b:ShD):U.wB a b=false↔¬(U.jnu b<U.jnu a\/(U.jnu a=U.jnu b/\U.zT b<U.zT a)):=decide_eq_false_iff_not
theorem v6 (a:ShD):U.wB a a=false:=(jeT a a).2 (by omega)
theorem jlw {a b:ShD} (h:U.wB a b=true):U.wB b a=false:=by
 have h:=(jbr a b).1 h;exact(jeT b a).2 (by omega)
theorem jjh {a b c:ShD} (d:U.wB a b=true) (e:U.wB b c=true):U.wB a c=true:=by
 have d:=(jbr a b).1 d;have e:=(jbr b c).1 e;exact(jbr a c).2 (by omega)
theorem jzm (a b:ShD):U.jo a b<0↔U.wB b a=true:=by
 rw[jbr];unfold U.jo;rw[jZ,kR]
 split
 .rename_i h;have c:¬U.jnu a=U.jnu b:=fun e=>h (qU.2 e)
  rw[jrV];omega
 .rename_i h;have d:U.jnu a=U.jnu b:=qU.1 (Classical.not_not.1 h);rw[jrV];omega
theorem jBA {l:List ShD} (hi:∀a∈l,∀b∈l,U.zT a=U.zT b->a=b):kj U.jBz l where
 irrefl x _:=v6 x
 trans x y z _ _ _ c d:=jjh d c
 total x y hx hy c d:=by
  have c:=(jeT y x).1 c;have d:=(jeT x y).1 d;exact hi x hx y hy (by omega)
theorem jxj {l:List ShD}:∀i,i<l.length->∃j,j<l.length/\nth l j=nth l i/\U.jbG l j=true:=by
 intro i
 induction i using Nat.strongRecOn with
 |_ i f=>
  intro hi;cases h:U.jbG l i with
  |true=>exact⟨i,hi,rfl,h⟩
  |false=>
   simp only[U.jbG,jEq] at h;obtain⟨x,d,e⟩:=jEM.1 h;obtain⟨k,hk,rfl⟩:=jEw.1 d;have e:l[k]=nth l i:=of_decide_eq_true e;obtain⟨j,c,a,b⟩:=f k (by omega) (by omega);exact⟨j,c,by rw[a,L.nth_lt (by omega)];exact e,b⟩
theorem jxz {l:List ShD} {s:ShD} (h:s∈l) (d:0<=U.zT s) (e:U.zT s<=99):s∈U.kA l:=by
 obtain⟨i,hi,rfl⟩:=L.mem_iff.1 h;obtain⟨j,c,a,b⟩:=jxj i hi;unfold U.kA U.zH;refine List.mem_flatMap.2 ⟨(U.zT (nth l i)).toNat,jD8.2 (by omega),?_⟩;unfold U.vH;refine jEl.2 ⟨j,jEb.2 ⟨jD8.2 c,?_⟩,a⟩;show(decide (U.zT (nth l j)=(((U.zT (nth l i)).toNat:Nat):Int))&&U.jbG l j)=true;rw[b,a,Bool.and_true];exact decide_eq_true (by omega)
theorem jcd {l:List ShD} {n m:Nat} {s:ShD} (h:s∈U.vH l n m):U.zT s=(m:Int):=by
 unfold U.vH at h;obtain⟨i,hi,rfl⟩:=jEl.1 h;have a:=(jEb.1 hi).2;rw[jDR] at a;exact of_decide_eq_true a.1
theorem y7 (l:List ShD):(U.kA l).Nodup:=by
 unfold U.kA U.zH;refine List.pairwise_flatMap.2 ⟨fun m _=> ?_,?_⟩
 .unfold U.vH;refine List.pairwise_map.2 (List.Pairwise.imp_of_mem ?_ (List.Pairwise.filter _ jE1));intro i j hi c k e;have c:=jEb.1 c;have d:=c.2;rw[jDR] at d;have f:=d.2;have n:=jD8.1 c.1;have o:((l.take j).any (fun x=>decide (x=nth l j)))=true:=
   jEM.2 ⟨nth l i,jEw.2 ⟨i,by omega,(L.nth_lt (by omega)).symm⟩,decide_eq_true e⟩
  unfold U.jbG at f;rw[o] at f;cases f
 .refine List.Pairwise.imp ?_ jE1;intro a b h x p y q e;have g:=jcd p;have d:=jcd q;rw[e] at g;omega
theorem jsl (t s:ShD):U.yI t=U.yI s↔U.joi t=U.joi s/\U.jcA t=U.jcA s:=by
 unfold U.yI;refine⟨fun h=>⟨congrArg (·.1) h,congrArg (·.2.1) h⟩,fun h=>by rw[h.1,h.2]⟩
theorem jrS (l:List ShD) (s:ShD):U.jh6 l s=true↔U.jyo s=1/\∀t∈l,U.yI t=U.yI s->U.wB t s=false:=by
 unfold U.jh6;rw[jDR,decide_eq_true_iff,jEe,jEA];refine and_congr_right fun _=>⟨fun h t a e=> ?_,fun h t a e=> ?_⟩
 .have e:=(jsl t s).1 e;have:=h t a;rw[e.1,e.2,decide_eq_true rfl,decide_eq_true rfl] at this;simpa using this
 .rw[jDR,jDR,decide_eq_true_iff,decide_eq_true_iff] at e;rw[h t a ((jsl t s).2 e.1)] at e;exact absurd e.2 (by simp)
theorem jp0 (d:DyD):U.jd3 d=(U.kA (U.jW d)).filter (U.jh6 (U.kA (U.jW d))):=by
 unfold U.jd3;generalize U.kA (U.jW d)=l;unfold U.jzD;have e:(fun i=>U.jwK l i l.length)=(U.jh6 l)∘(nth l):=by
  funext i;unfold U.jwK;rw[jEJ];rfl
 rw[e];have:=List.filter_map (f:=nth l) (p:=U.jh6 l) (l:=List.range l.length);rw[<-this,L.range_map_nth]
theorem joW (l:List ShD):∀n,∀i,i<n->U.wB (nth l (U.jcD l n)) (nth l i)=false
 |0,i,h=>absurd h (by omega)
 |n+1,i,h=>by
  have b:=joW l n
  rw[jlt]
  split
  .rename_i a
   rcases Nat.lt_succ_iff_lt_or_eq.1 h with h|h
   .cases c:U.wB (nth l n) (nth l i) with
    |false=>rfl
    |true=>have:=jjh a c;rw[b i h] at this;cases this
   .subst h;exact v6 _
  .rename_i a
   rcases Nat.lt_succ_iff_lt_or_eq.1 h with h|h
   .exact b i h
   .subst h;simpa using a
theorem jvI (l:List ShD):∀n,n<=l.length->(U.wq l n).1.Pairwise (fun a b=>U.wB a b=false)/\∀a∈(U.wq l n).1,∀b∈(U.wq l n).2,U.wB a b=false
 |0,_=>⟨List.Pairwise.nil,fun a d=>by cases d⟩
 |n+1,m=>by
  obtain⟨j,g⟩:=jvI l n (by omega)
  have k:=jhW l n (by omega)
  have h:=jh0 (U.wq l n).2 _ (jDO _) (by omega)
  have e:=joW (U.wq l n).2 (U.wq l n).2.length
  have f:∀b∈(U.wq l n).2.take (U.jcD (U.wq l n).2 (U.wq l n).2.length)++(U.wq l n).2.drop (U.jcD (U.wq l n).2 (U.wq l n).2.length+1),b∈(U.wq l n).2:=by
   intro b c;rcases jDU.1 c with c|c
   .exact jE5 c
   .exact jE4 c
  refine⟨List.pairwise_append.2 ⟨j,List.pairwise_singleton _ _,fun a d b c=> ?_⟩,fun a d b c=> ?_⟩
  .simp at c;subst c;exact g a d _ (L.mem_nth h)
  .have c:=f b c;have d:a∈(U.wq l n).1++[nth (U.wq l n).2 (U.jcD (U.wq l n).2 (U.wq l n).2.length)]:=d;rcases jDU.1 d with d|d
   .exact g a d b c
   .simp at d;subst d;obtain⟨i,hi,rfl⟩:=L.mem_iff.1 c;exact e i hi
theorem jAg (d:DyD):jte U.jBz (U.ju4 d):=(jvI (U.jd3 d) _ (jDO _)).1
theorem jl2 (d:DyD):(U.ju4 d).Perm (U.jd3 d):=by
 have a:=jiF (U.jd3 d) (U.jd3 d).length (jDO _);have b:=(jhW (U.jd3 d) (U.jd3 d).length (jDO _)).2;have:(U.wq (U.jd3 d) (U.jd3 d).length).2=[]:=List.length_eq_zero_iff.1 (by omega);rw[this,jEg] at a;exact a
theorem jsL {l:List ShD} (i:l.Pairwise (fun a b=>U.wB b a=true)):∀n,n<=l.length->∀s∈l.take n,(kx (Ty.dflt tSh) (zl tSt (U.yI s) (U.zn l n))=s↔∀t∈l.take n,U.yI t=U.yI s->U.wB t s=false)
 |0,_,s,c=>by simp at c
 |n+1,k,s,c=>by
  have j:=jsL i n (by omega)
  have g:(l.take (n+1)).Pairwise (fun a b=>U.wB b a=true):=i.sublist (List.take_sublist _ _)
  rw[L.take_succ (by omega)] at g c
  have f:∀t∈l.take n,U.wB (nth l n) t=true:=fun t d=>(List.pairwise_append.1 g).2.2 t d _ (by simp)
  rw[jji (by omega),L.take_succ (by omega)]
  by_cases hk:U.yI s=U.yI (nth l n)
  .rw[hk,M.mfind_mput]
   show nth l n=s↔_
   rcases jDU.1 c with c|c
   .refine⟨fun e=> ?_,fun h=> ?_⟩
    .have:=f s c
     rw[e,v6] at this;cases this
    .have:=h (nth l n) (by simp) rfl
     rw[f s c] at this;cases this
   .simp at c;subst c
    refine⟨fun _ t d _=> ?_,fun _=>rfl⟩
    rcases jDU.1 d with d|d
    .exact jlw (f t d)
    .simp at d;subst d;exact v6 _
  .rw[M.mfind_mput_ne hk]
   have c:s∈l.take n:=by
    rcases jDU.1 c with c|c
    .exact c
    .simp at c;subst c;exact absurd rfl hk
   rw[j s c];refine⟨fun h t d e=> ?_,fun h t d=>h t (jDK _ d)⟩;rcases jDU.1 d with d|d
   .exact h t d e
   .simp at d;subst d;exact absurd e.symm hk
theorem jvF {d:DyD} (h:U.jz d=0):(U.zA d).Pairwise (fun a b=>U.wB b a=true):=by
 have f:=jDq h;have g:jte (U.jd tSh fun x=>(U.jo x.1 x.2.1,())) (U.zA d):=qX f;have e:∀s∈U.zA d,s∈U.jG (U.jW d):=fun s i=>(j6 _).mem_iff.1 i
 refine List.Pairwise.imp_of_mem ?_ (List.Pairwise.and g (yG d));intro a b j k ⟨h1,h2⟩;cases c:U.jd tSh (fun x=>(U.jo x.1 x.2.1,())) a b with
 |false=>exact absurd (f.total a b (e a j) (e b k) c h1) h2
 |true=>
  have c:U.jo a b<0:=of_decide_eq_true c;exact(jzm a b).1 c
theorem jpx {d:DyD} (h:U.jz d=0) {s:ShD} (a:s∈U.zA d):U.ki (U.zn (U.zA d) (U.zA d).length) s=true↔U.jyo s=1/\∀t∈U.zA d,U.yI t=U.yI s->U.wB t s=false:=by
 have:=jsL (jvF h) (U.zA d).length (jDO _) s (by rw[jEJ];exact a);rw[jEJ] at this;rw[<-this];unfold U.ki;rw[jEe,jEc,jEq,jEq,decide_eq_true_iff,decide_eq_true_iff];exact and_comm
theorem jiD {d:DyD} (h:U.zo d=true) {s:ShD} (a:s∈U.jW d):0<=U.zT s/\U.zT s<=99:=by
 have:=(zp h).2.2.2.2.2.2.2 _ a;unfold U.jbn at this;have:=of_decide_eq_true this;omega
def jya (d:DyD):ShD->Bool:=U.ki (U.zn (U.zA d) (U.zA d).length)
theorem jBY {d:DyD} (h:U.jz d=0):(U.zA d).filter (jya d)=U.ju4 d:=by
 have j:=zJ h;have f:∀s,s∈U.kA (U.jW d)↔s∈U.zA d:=fun s=>⟨fun c=>gG.2 (qj c),fun c=>by
  have c:=gG.1 c;have:=jiD j.1.2.2 c;exact jxz c this.1 this.2⟩
 have g:∀s,s∈(U.zA d).filter (jya d)↔s∈U.ju4 d:=by
  intro s;rw[(jl2 d).mem_iff,jp0,jEb,jEb,f s];refine and_congr_right fun c=> ?_
  rw[jrS];have:=jpx h c;refine this.trans (and_congr_right fun _=>⟨fun h t i=>h t ((f t).1 i),fun h t i=>h t ((f t).2 i)⟩)
 have n:((U.zA d).filter (jya d)).Nodup:=List.Pairwise.filter _ (yG d);have o:(U.ju4 d).Nodup:=(jl2 d).nodup_iff.2 (by rw[jp0];exact List.Pairwise.filter _ (y7 _));have m:=L.perm_of_nodup n o g;refine jag (jBA ?_) m ?_ (jAg d)
 .intro a k b l e;exact j.2 a (gG.1 (jEb.1 k).1) b (gG.1 (jEb.1 l).1) e
 .exact(List.Pairwise.filter _ (jvF h)).imp fun x=>jlw x
end Go.X
namespace Go.X
namespace U
def jAC (r:List Int) (m n:Nat):List Int:=(r.take n).filter (fun x=>decide (x=(m:Int)))
def jeB (r:List Int) (n:Nat):List Int:=(List.range n).flatMap (fun m=>jAC r m r.length)
end U
structure jk2 (d:DyD) (x:List (List Int)×List Int) (y:List Int×List Int):Prop where
 ref:x.2=y.2
 len:y.1.length=(U.jp d).length
 set:∀b,b<(U.jp d).length->BT.Set' (nth y.1 b)
 bit:∀b,b<(U.jp d).length->∀p,BT.has (nth y.1 b) p=true↔p<(U.jj (U.jf d)).length/\(b:Int)∈nth x.1 p
theorem jsP {t:Int} (h:BT.Set' t) (p:Int):U.jhG t p=BT.has t p.toNat:=BT.has_shr h p.toNat
theorem jB7 {d:DyD} {x:List (List Int)×List Int} {y:List Int×List Int} (h:jk2 d x y) {p:Int} (k:U.jt3 d p) (j:∀b∈nth x.1 p.toNat,U.q6 d b) (n:Int):n∈U.on y.1 p↔n∈nth x.1 p.toNat:=by
 unfold U.jt3 at k;unfold U.on U.jC3;rw[jEl];refine⟨fun⟨i,hi,e⟩=> ?_,fun g=> ?_⟩
 .subst e;have hi:=jEb.1 hi;have a:=jD8.1 hi.1;rw[h.len] at a;have f:U.jhG (nth y.1 i) p=true:=hi.2;rw[jsP (h.set i a)] at f;exact((h.bit i a p.toNat).1 f).2
 .have hk:=j n g;unfold U.q6 at hk;have c:((n.toNat:Nat):Int)=n:=(by omega);refine⟨n.toNat,jEb.2 ⟨jD8.2 (by rw[h.len];omega),?_⟩,c⟩;show U.jhG (nth y.1 n.toNat) p=true;rw[jsP (h.set _ (by omega))];exact(h.bit _ (by omega) _).2 ⟨by omega,by rw[c];exact g⟩
theorem jyD (t:List Int) (p:Int):(U.on t p).Nodup:=by
 unfold U.on U.jC3;refine List.pairwise_map.2 ((List.Pairwise.filter _ jE1).imp ?_);intro a b c e;omega
theorem jAJ {d:DyD} {x:List (List Int)×List Int} {y:List Int×List Int} (h:jk2 d x y) {p:Int} (e:U.jt3 d p) (c:(nth x.1 p.toNat).Nodup) (a:∀b∈nth x.1 p.toNat,U.q6 d b):(nth x.1 p.toNat).Perm (U.on y.1 p):=
 L.perm_of_nodup c (jyD _ _) (fun n=>(jB7 h e a n).symm)
theorem jCF {d:DyD} (i:U.jpV d) {x:List (List Int)×List Int} {y:List Int×List Int} (h:jk2 d x y) {p b:Int} (g:U.jt3 d p) (e:(nth x.1 p.toNat++[b]).Nodup) (f:∀c∈nth x.1 p.toNat++[b],U.q6 d c):
 U.jrY d (U.kf d (U.jp d).length) p (nth x.1 p.toNat++[b])=U.jay d p (U.on y.1 p++[b]):=by
 rw[jBt e (fun c a=>jAU i (f c a) g)];exact jlQ d p ((jAJ h g (jEN.1 e).1 (fun c a=>f c (jDK _ a))).append_right [b]) e
theorem jB2 {d:DyD} {x:List (List Int)×List Int} {y:List Int×List Int} (h:jk2 d x y) (v:x.1.length=(U.jj (U.jf d)).length) (u:(U.jj (U.jf d)).length<=8) {p b:Int} (t:U.jt3 d p) (s:U.q6 d b) (i:b∉nth x.1 p.toNat):
 jk2 d (x.1.set p.toNat (nth x.1 p.toNat++[b]),x.2) (y.1.set b.toNat (nth y.1 b.toNat+2^p.toNat),y.2):=by
 unfold U.jt3 at t;unfold U.q6 at s;have r:((b.toNat:Nat):Int)=b:=(by omega);have g:b.toNat<y.1.length:=(by rw[h.len];omega);have n:p.toNat<x.1.length:=(by omega);have o:=h.set b.toNat (by omega);have m:BT.has (nth y.1 b.toNat) p.toNat=false:=by
  cases j:BT.has (nth y.1 b.toNat) p.toNat with
  |false=>rfl
  |true=>exact absurd (by have:=((h.bit _ (by omega) _).1 j).2;rw[r] at this;exact this) i
 have a:=BT.add_two o (p:=p.toNat) (by omega) m;have j:=BT.two_set (k:=p.toNat) (by omega);refine⟨h.ref,by show(y.1.set _ _).length=_;rw[List.length_set];exact h.len,fun c l=> ?_,fun c l q=> ?_⟩
 .show BT.Set' (nth (y.1.set b.toNat (nth y.1 b.toNat+2^p.toNat)) c);rw[L.nth_set g]
  split
  .rw[a];exact BT.bor_set o j
  .exact h.set c l
 .show BT.has (nth (y.1.set b.toNat (nth y.1 b.toNat+2^p.toNat)) c) q=true↔_/\(c:Int)∈nth (x.1.set p.toNat (nth x.1 p.toNat++[b])) q;rw[L.nth_set g,L.nth_set n];by_cases f:b.toNat=c
  .rw[if_pos f,a,BT.has_bor o j,BT.has_two,jE6,decide_eq_true_iff,h.bit _ (by omega),<-f,r];by_cases e:p.toNat=q
   .rw[if_pos e];refine⟨fun _=>⟨by omega,by simp⟩,fun _=> .inr e⟩
   .rw[if_neg e];exact⟨fun h=>h.elim id (fun h=>absurd h e),.inl⟩
  .rw[if_neg f,h.bit c l];by_cases e:p.toNat=q
   .rw[if_pos e,jDU,<-e];refine and_congr_right fun _=>⟨.inl,fun h=>h.elim id (fun h=> ?_)⟩
    simp at h;omega
   .rw[if_neg e]
theorem jyu (d:DyD):jk2 d (U.kk (U.jpT d) (U.zA d) 0) (List.replicate (U.jp d).length 0,[]):=by
 have c:∀b,b<(U.jp d).length->nth (List.replicate (U.jp d).length (0:Int)) b=0:=fun b a=>L.nth_rep a
 refine⟨rfl,jEK,fun b a=> ?_,fun b a p=> ?_⟩
 .show BT.Set' (nth (List.replicate (U.jp d).length (0:Int)) b);rw[c b a];exact BT.zero_set
 .show BT.has (nth (List.replicate (U.jp d).length (0:Int)) b) p=true↔_/\(b:Int)∈nth (U.jBP d) p;rw[c b a,BT.has_zero];have f:U.jAO (U.jBP d):=fun x g=>(List.mem_replicate.1 g).2
  have e:nth (U.jBP d) p=[]:=jsF f p;rw[e];simp
def jxC (d:DyD) (i:Nat):List Int×List Int:=(((U.zA d).take i).filter (jya d)).foldl (U.jbT d) (List.replicate (U.jp d).length 0,[])
attribute [local irreducible] U.kk U.jay U.jrY U.on jxC U.zA jya U.jpT U.kf in
theorem jyv {d:DyD} (h:U.jz d=0) {i:Nat} (hi:i<(U.zA d).length) (ih:jk2 d (U.kk (U.jpT d) (U.zA d) i) (jxC d i)) (hinv:U.vR (U.jpT d) (U.zA d) i (U.kk (U.jpT d) (U.zA d) i)) (hrd:U.rd (U.jpT d)=d) (hml:U.gT (U.jpT d)=U.kf d (U.jp d).length)
 (hx:(U.kk (U.jpT d) (U.zA d) i).1.length=(U.jj (U.jf d)).length) (hdec:jya d=U.ki (U.zn (U.zA d) (U.zA d).length)) (hft:jxC d (i+1)=if jya d (nth (U.zA d) i)=true then U.jbT d (jxC d i) (nth (U.zA d) i) else jxC d i)
 (hnew:jya d (nth (U.zA d) i)=true->(nth (U.kk (U.jpT d) (U.zA d) i).1 (U.jcA (nth (U.zA d) i)).toNat++[U.joi (nth (U.zA d) i)]).Nodup/\∀b∈nth (U.kk (U.jpT d) (U.zA d) i).1 (U.jcA (nth (U.zA d) i)).toNat++[U.joi (nth (U.zA d) i)],U.q6 d b):
 jk2 d (U.kk (U.jpT d) (U.zA d) (i+1)) (jxC d (i+1)):=by
 have hD:=(zJ h).1
 have h8:(U.jj (U.jf d)).length<=8:=(jI hD.1).2.2.1
 have hsf:=jhV hD.2.2 (gG.1 (L.mem_nth (l:=U.zA d) (i:=i) hi))
 rw[hft]
 cases hc:jya d (nth (U.zA d) i) with
 |false=>
  rw[hdec] at hc
  rw[jsf hi hc,if_neg (by simp)]
  exact ih
 |true=>
  have hn:=hnew hc
  have hcan:=jCF hD ih (p:=U.jcA (nth (U.zA d) i)) (b:=U.joi (nth (U.zA d) i)) hsf.1 hn.1 hn.2
  rw[hdec] at hc
  rw[if_pos rfl]
  unfold U.jbT
  cases hk:U.jay d (U.jcA (nth (U.zA d) i)) (U.on (jxC d i).1 (U.jcA (nth (U.zA d) i))++[U.joi (nth (U.zA d) i)]) with
  |true=>
   rw[hk] at hcan
   rw[jvs hi hc (by rw[hrd,hml];exact hcan),if_pos rfl]
   refine jB2 ih hx h8 hsf.1 hsf.2 (fun hin=> ?_)
   exact(jEN.1 hn.1).2.2 _ hin _ (by simp) rfl
  |false=>
   rw[hk] at hcan
   rw[jzJ hi hc (by rw[hrd,hml];exact hcan),if_neg (by simp)]
   exact⟨congrArg (·++[U.zT (nth (U.zA d) i)]) ih.ref,ih.len,ih.set,ih.bit⟩
theorem jvY {d:DyD} (h:U.jz d=0):∀i,i<=(U.zA d).length->jk2 d (U.kk (U.jpT d) (U.zA d) i) (jxC d i)
 |0,_=>jyu d
 |i+1,hi=>by
  have k:=jvY h i (by omega)
  obtain⟨⟨_,m⟩,⟨j,b⟩,c⟩:=jvS h
  have f:=(zJ h).1
  have a:=jqk (r:=U.jpT d) (l:=U.zA d) f.2.2 (fun s e=>gG.1 e) (yG d) j b c i (by omega)
  refine jyv h hi k a rfl rfl a.1 rfl ?_ fun g=> ?_
  .unfold jxC
   rw[L.filter_take (p:=jya d) (l:=U.zA d) (i:=i) hi,jEo]
   split<;>rfl
  .have:=jvr (r:=U.jpT d) (l:=U.zA d) f.2.2 (fun s e=>gG.1 e) (yG d) hi a g
   exact⟨this.1,this.2.1⟩
theorem jzj {d:DyD} (h:U.jz d=0):jxC d (U.zA d).length=U.jvt d:=by
 unfold jxC U.jvt U.jnT;rw[jEJ,jEJ,jBY h]
theorem jqJ {d:DyD} (h:U.jz d=0):jk2 d (U.wm (U.jom d),(U.kk (U.jpT d) (U.zA d) (U.zA d).length).2) (U.jvt d):=by
 have:=jvY h _ (jDO _);rw[jzj h] at this;exact⟨this.ref,this.len,this.set,this.bit⟩
theorem jsd (on:List (List Int)) (b:Int):∀n,n<=60->BT.Set' (U.w4 on b n)/\∀q,BT.has (U.w4 on b n) q=true↔q<n/\b∈nth on q
 |0,_=>⟨BT.zero_set,fun q=>by
  have:U.w4 on b 0=0:=rfl
  rw[this,BT.has_zero];simp⟩
 |n+1,m=>by
  obtain⟨f,i⟩:=jsd on b n (by omega)
  have g:=BT.two_set (k:=n) (by omega)
  have a:(nth on n).any (fun x=>decide (x=b))=true↔b∈nth on n:=by
   rw[jEM];exact⟨fun⟨x,l,e⟩=>(of_decide_eq_true e)▸l,fun j=>⟨b,j,decide_eq_true rfl⟩⟩
  rw[jiq]
  split
  .rename_i c;have c:=a.1 c;rw[jbg];refine⟨BT.bor_set f g,fun q=> ?_⟩;rw[BT.has_bor f g,BT.has_two,jE6,decide_eq_true_iff,i];refine⟨fun h=>h.elim (fun h=>⟨by omega,h.2⟩) (fun h=>by subst h;exact⟨by omega,c⟩),fun h=> ?_⟩;by_cases d:q=n
   .exact .inr d.symm
   .exact .inl ⟨by omega,h.2⟩
  .rename_i c;refine⟨f,fun q=> ?_⟩;rw[i];refine⟨fun h=>⟨by omega,h.2⟩,fun h=>⟨?_,h.2⟩⟩;by_cases d:q=n
   .subst d;exact absurd (a.2 h.2) c
   .omega
theorem jAo {d:DyD} (h:U.jz d=0) {b:Nat} (a:b<(U.jp d).length):U.jfM (U.wm (U.jom d)) (b:Int)=nth (U.jvt d).1 b:=by
 have f:=jqJ h;have c:=jsr h;have g:=jsd (U.wm (U.jom d)) (b:Int) (U.wm (U.jom d)).length c.len60;refine BT.ext g.1 (f.set b a) fun p=>jEm.2 ?_
 have e:=(g.2 p).trans (f.bit b a p|>.trans (by rw[<-c.len])).symm;exact e
theorem jB0 {d:DyD} (h:U.jz d=0):U.wV d (U.jp d).length=(U.jvt d).1:=by
 have b:=jqJ h;have a:(U.wV d (U.jp d).length).length=(U.jp d).length:=(by unfold U.wV;simp);refine L.ext_nth (by rw[a];exact b.len.symm) fun i hi=> ?_
 rw[a] at hi;unfold U.wV;rw[L.nth_map (by simpa using hi)];have:nth (List.range (U.jp d).length) i=i:=(by rw[L.nth_lt (by simpa using hi)];simp);rw[this];exact jAo h hi
theorem jAl (d:DyD):U.jkl d=if U.qV d=0 then(U.jvt d).1 else[]:=by
 unfold U.jkl;rw[jfq]
 split
 .rename_i h;exact jB0 ((jfq d).trans h)
 .rfl
theorem jvZ (d:DyD):∀n,n<=(U.ju4 d).length->(U.jnT d n).2.Sublist (((U.ju4 d).take n).map U.zT)
 |0,_=>List.nil_sublist _
 |n+1,b=>by
  have a:=jvZ d n (by omega)
  rw[jyj (by omega),L.take_succ (by omega),jEH]
  unfold U.jbT
  split
  .exact a.trans (List.sublist_append_left _ _)
  .exact List.Sublist.append a (List.Sublist.refl _)
theorem jv0 {d:DyD} (h:U.jz d=0):(U.jvt d).2.Nodup/\∀x∈(U.jvt d).2,0<=x/\x<=99:=by
 have c:=jvZ d _ (jDO _);rw[jEJ] at c;have g:=zJ h;have l:(U.ju4 d).Nodup:=(jl2 d).nodup_iff.2 (by rw[jp0];exact List.Pairwise.filter _ (y7 _));refine⟨List.Pairwise.sublist c (List.pairwise_map.2 (List.Pairwise.imp_of_mem ?_ l)),fun x k=> ?_⟩
 .intro a b i j f e;exact f (g.2 a (qj (jpZ i)) b (qj (jpZ j)) e)
 .obtain⟨s,c,rfl⟩:=jEl.1 (c.subset k);exact jiD g.1.2.2 (qj (jpZ c))
theorem jtQ {r:List Int} (k:r.Nodup) (h:∀x∈r,0<=x/\x<=99):U.jeB r 100=U.jeq r:=by
 have e:∀m,U.jAC r m r.length=r.filter (fun x=>decide (x=(m:Int))):=fun m=>by unfold U.jAC;rw[jEJ]
 have d:∀m x,x∈U.jAC r m r.length->x=(m:Int)/\x∈r:=fun m x c=>by
  rw[e m] at c;have:=jEb.1 c;exact⟨of_decide_eq_true this.2,this.1⟩
 have f:(U.jeB r 100).Pairwise (fun a b=>a<=b):=by
  unfold U.jeB;refine List.pairwise_flatMap.2 ⟨fun m _=> ?_,List.Pairwise.imp ?_ jE1⟩
  .refine List.Pairwise.imp_of_mem ?_ (R:=fun _ _=>True) (List.pairwise_of_forall (fun _ _=>trivial));intro a b n o _;have:=(d m a n).1;have:=(d m b o).1;omega
  .intro a b g x c y j;have:=(d a x c).1;have:=(d b y j).1;omega
 have i:(U.jeB r 100).Nodup:=by
  unfold U.jeB;refine List.pairwise_flatMap.2 ⟨fun m _=> ?_,List.Pairwise.imp ?_ jE1⟩
  .rw[e m];exact List.Pairwise.filter _ k
  .intro a b g x c y j l;have:=(d a x c).1;have:=(d b y j).1;omega
 have p:(U.jeB r 100).Perm r:=L.perm_of_nodup i k fun x=>by
  unfold U.jeB;rw[List.mem_flatMap];refine⟨fun⟨m,_,c⟩=>(d m x c).2,fun c=> ?_⟩;have q:=h x c;refine⟨x.toNat,jD8.2 (by omega),?_⟩;rw[e];exact jEb.2 ⟨c,decide_eq_true (by omega)⟩
 exact jcJ (p.trans (jfR r).symm) f (jvA r)
theorem jAz (d:DyD):U.jky d=if U.qV d=0 then U.jeB (U.jvt d).2 100 else[]:=by
 unfold U.jky;rw[jfq]
 split
 .rename_i h;have h:=(jfq d).trans h;have a:=jv0 h;rw[jtQ a.1 a.2,<-(jqJ h).ref];rfl
 .rfl
end Go.X
namespace Go.X
open Go.Proofs
attribute [local irreducible] U.wq U.jcD U.jzD U.kA U.jd3 U.ju4 U.jwK
end Go.X
namespace Go.X
open Go.Proofs
end Go.X
namespace Go.X
open Go.Proofs
section
attribute [local irreducible] U.jeB U.jAC U.jvt U.qV
end
section
attribute [local irreducible] U.qV
end
section
attribute [local irreducible] U.jay U.on U.jhG U.jpV
end
section
attribute [local irreducible] U.qV U.jhG
end
end Go.X
namespace Go.X
open Go.Proofs
section
attribute [local irreducible] U.qV
end
end Go.X
namespace Go.X
open Go.Proofs
end Go.X


