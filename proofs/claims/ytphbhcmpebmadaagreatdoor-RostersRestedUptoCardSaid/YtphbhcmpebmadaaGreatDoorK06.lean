/-
  Part 6 of the road: a checked reading of bodies, and what the functions on it do (P10 B5 P11 B6 P12 P13 B7 P14 B8 P15 C1 PC1 PC2 PC3 PC4 C2 PC5 PC6 PC7 PC8 C3 PC9 SL PC10 S1 S2 S3 PC11 C4 PC12 PC13 PC14 S4 S5).
-/
import Derived.Test.YtphbhcmpebmadaaGreatDoorK05
namespace Go.X
open Go.Proofs
theorem zq {d:DyD} (h:U.jB d=0):U.joF d/\∀a∈U.kg d,∀b∈U.kg d,U.wy a=U.wy b->a=b:=by
 unfold U.jB U.jjI at h;cases c:U.ju (U.jj d) with
 |false=>rw[c] at h;simp at h
 |true=>
  cases e:U.jwo d with
  |false=>rw[c,e] at h;simp at h
  |true=>
   cases f:U.zr d with
   |false=>rw[c,e,f] at h;simp at h
   |true=>
    cases g:U.juH (U.jQ (U.kg d)) with
    |true=>rw[c,e,f,g] at h;simp at h
    |false=>exact⟨⟨c,e,f⟩,(jwZ _).1 g⟩
theorem jAV:jaX U.jp:=by
 have e:U.jp=jxG (fun a b=>U.gy (U.jm9 a) (U.jm9 b)) (fun a b=>U.gy (U.wy a) (U.wy b)):=by
  funext a b;unfold U.jp;rw[zl,kY];rfl
 rw[e];exact jf0 (jgv jfg U.jm9) (jgv jfg U.wy)
theorem jxg {a b:ShD} (h:U.jp a b=0):U.wy a=U.wy b:=by
 unfold U.jp at h;rw[zl,kY] at h
 split at h
 .contradiction
 .exact q8.1 h
theorem jCQ {d:DyD} (h:U.jB d=0):kx (U.jf tSh fun x=>(U.jp x.1 x.2.1,())) (U.jQ (U.kg d)):=
 jmh jAV (fun a b e f c=>(zq h).2 a (jdI.1 e) b (jdI.1 f) (jxg c))
theorem qP {d:DyD} {s:ShD}:s∈U.jN d↔s∈U.kg d:=((j8 _).mem_iff).trans jdI
theorem qw (d:DyD):(U.jN d).Nodup:=(j8 _).nodup_iff.2 (jpg _)
theorem jz6 (d:DyD):(U.jN d).length<=(U.kg d).length:=by
 unfold U.jN U.jC9;rw[(j8 _).length_eq];exact jw7 _
theorem jeq {d:DyD} (h:U.zr d=true) {s:ShD} (a:s∈U.kg d):(0<=U.vZ s/\U.vZ s<((U.jl (U.jj d)).length:Int))/\U.qc d (U.jil s):=by
 have:=(zb h).2.2.2.2.2.2.2 _ a;unfold U.jbu at this;have:=of_decide_eq_true this;unfold U.qc;omega
theorem ji0 {l:List ShD} {i:Nat} (h:i<l.length):U.zo l (i+1)=jdr tSt (U.yP (nth l i)) (nth l i) (U.zo l i):=by
 unfold U.zo;rw[L.take_succ h,jDI];rfl
theorem jeh {r:RoD} {l:List ShD} {i:Nat} (h:i<l.length):U.zW r l (i+1)=U.jnA (U.rd r) (U.y8 r) (U.zo l l.length) (U.zW r l i) (nth l i):=by
 unfold U.zW;rw[L.take_succ h,jDI];rfl
theorem jz5 {d:DyD} {l:List Int} (c:l.Nodup) (a:∀b∈l,U.qc d b):l.length<=(U.jq d).length:=by
 have:=L.nodup_len l ((List.range (U.jq d).length).map (fun(b:Nat)=>(b:Int))) c (fun x e=>by
  have:=a x e;unfold U.qc at this;exact jDP.2 ⟨x.toNat,jDy.2 (by omega),by omega⟩)
 simpa using this
section
variable {r:RoD} {l:List ShD} {i:Nat}
theorem jrV (u:U.zr (U.rd r)=true) (v:∀s∈l,s∈U.kg (U.rd r)) (nd:l.Nodup) (h:i<l.length) {x:List (List Int)×List Int} (y:U.vX (U.rd r,U.y8 r,U.zP r,U.jCi r,()) l i x)
 (k:U.kd (U.zo l l.length) (nth l i)=true):(nth x.1 (U.vZ (nth l i)).toNat++[U.jil (nth l i)]).Nodup/\(∀b∈nth x.1 (U.vZ (nth l i)).toNat++[U.jil (nth l i)],U.qc (U.rd r) b)/\
  ∀b∈nth x.1 (U.vZ (nth l i)).toNat++[U.jil (nth l i)],∃j:Nat,j<i+1/\U.yP (nth l j)=(b,((U.vZ (nth l i)).toNat:Int),())/\kE (Ty.dflt tSh) (zx tSt (U.yP (nth l j)) (U.zo l l.length))=nth l j:=by
 obtain⟨A,B,q⟩:=y;have w:=jeq u (v _ (L.mem_nth h));have d:kE (Ty.dflt tSh) (zx tSt (U.yP (nth l i)) (U.zo l l.length))=nth l i:=by
  unfold U.kd at k;simp only[jDH,jDD,jD5,decide_eq_true_eq] at k;exact k.1
 have o:((U.vZ (nth l i)).toNat:Int)=U.vZ (nth l i):=(by omega);obtain⟨z,m⟩:=q (U.vZ (nth l i)).toNat;refine⟨?_,fun b c=> ?_,fun b c=> ?_⟩
 .refine jEd.2 ⟨z,by simp,fun a t b c e=> ?_⟩;simp at c;subst c;subst e;obtain⟨_,j,n,f,g⟩:=m _ t;rw[o] at f;have p:U.yP (nth l j)=U.yP (nth l i):=f;rw[p,d] at g;have:=(List.nodup_iff_pairwise_ne.1 nd);rw[jD6] at this;refine this j i (by omega) h n ?_;rw[<-L.nth_lt,<-L.nth_lt h];exact g.symm
 .rcases jDk.1 c with c|c
  .exact(m b c).1
  .simp at c;subst c;exact w.2
 .rcases jDk.1 c with c|c
  .obtain⟨_,j,n,f,g⟩:=m b c;exact⟨j,by omega,f,g⟩
  .simp at c;subst c;exact⟨i,by omega,by rw[o];rfl,d⟩
theorem jwu {r:RoD} {x:List (List Int)×List Int} (a:U.vX r l i x):U.vX r l (i+1) x:=
 ⟨a.1,by have:=a.2.1;omega,fun p=>⟨(a.2.2 p).1,fun b c=>⟨((a.2.2 p).2 b c).1,by
  obtain⟨j,d,e⟩:=((a.2.2 p).2 b c).2
  exact⟨j,by omega,e⟩⟩⟩⟩
theorem jzo (g:U.zr (U.rd r)=true) (j:∀s∈l,s∈U.kg (U.rd r)) (nd:l.Nodup) (h:i<l.length) {x:List (List Int)×List Int} (a:U.vX r l i x):
 U.vX r l (i+1) (U.jnA (U.rd r) (U.y8 r) (U.zo l l.length) x (nth l i)):=by
 unfold U.jnA;cases k:U.kd (U.zo l l.length) (nth l i) with
 |false=>rw[if_neg (by simp)];exact jwu a
 |true=>
  rw[if_pos rfl];have d:=jrV g j nd h a k;have m:=jeq g (j _ (L.mem_nth h))
  split
  .refine⟨by show(x.1.set _ _).length=_;rw[List.length_set];exact a.1,by have:=a.2.1;show x.2.length<=_;omega,fun p=> ?_⟩;have c:(U.vZ (nth l i)).toNat<x.1.length:=(by rw[a.1];omega);show(nth (x.1.set (U.vZ (nth l i)).toNat (nth x.1 (U.vZ (nth l i)).toNat++[U.jil (nth l i)])) p).Nodup/\_;rw[L.nth_set c]
   split
   .rename_i e;subst e;exact⟨d.1,fun b f=>⟨d.2.1 b f,d.2.2 b f⟩⟩
   .exact(jwu a).2.2 p
  .refine⟨a.1,?_,(jwu a).2.2⟩;have:=a.2.1;show(x.2++[U.wy (nth l i)]).length<=_;rw[jDA];simp;omega
end
theorem jmr {l:List (List Int)} (h:U.jyp l) (p:Nat):nth l p=[]:=by
 by_cases a:p<l.length
 .exact h _ (L.mem_nth a)
 .unfold nth;rw[jDJ,List.getElem?_eq_none (by omega)];rfl
theorem ju3 {r:RoD} {l:List ShD} (a:(U.zP r).length=(U.jl (U.jj (U.rd r))).length) (c:U.jyp (U.zP r)) (d:U.jCi r=U.zL):U.vX r l 0 (U.zW r l 0):=by
 refine⟨a,?_,fun p=> ?_⟩
 .show(U.jCi r).length<=0;rw[d];exact jDf 0
 .have e:nth (U.zW r l 0).1 p=[]:=jmr c p;rw[e];exact⟨List.nodup_nil,fun b f=>by cases f⟩
theorem jB4 (m:List ((Int×Int×Unit)×ShD)) (s:ShD):U.kd m s= !(!decide (kE (Ty.dflt tSh) (zx tSt (U.yP s) m)=s)||decide (U.jxZ s≠1)):=by
 unfold U.kd;by_cases h:U.jxZ s=1<;>simp[h]
section
variable {r:RoD} {l:List ShD} {i:Nat}
theorem jlQ (h:i<l.length) (a:U.kd (U.zo l l.length) (nth l i)=false):U.zW r l (i+1)=U.zW r l i:=by
 rw[jeh h];unfold U.jnA;rw[a,if_neg (by simp)]
theorem jlP (h:i<l.length) (a:U.kd (U.zo l l.length) (nth l i)=true) (b:U.jjK (U.rd r) (U.y8 r) (U.vZ (nth l i)) (nth (U.zW r l i).1 (U.vZ (nth l i)).toNat++[U.jil (nth l i)])=true):
 U.zW r l (i+1)=((U.zW r l i).1.set (U.vZ (nth l i)).toNat (nth (U.zW r l i).1 (U.vZ (nth l i)).toNat++[U.jil (nth l i)]),(U.zW r l i).2):=by
 rw[jeh h];unfold U.jnA;rw[a,if_pos rfl,if_pos b]
theorem jrW (h:i<l.length) (a:U.kd (U.zo l l.length) (nth l i)=true) (b:U.jjK (U.rd r) (U.y8 r) (U.vZ (nth l i)) (nth (U.zW r l i).1 (U.vZ (nth l i)).toNat++[U.jil (nth l i)])=false):
 U.zW r l (i+1)=((U.zW r l i).1,(U.zW r l i).2++[U.wy (nth l i)]):=by
 rw[jeh h];unfold U.jnA;rw[a,if_pos rfl,b,if_neg (by simp)]
end
theorem jhp:jfB:=by
 unfold jfB q93_5 q93_0 q93_4 q93_1 q93_3 q93_2;rintro⟨b,⟨⟩⟩ K;obtain⟨⟨hk,O⟩,⟨P,B⟩,C⟩:U.jtE (U.zz b):=K;have G:=(zq hk).1;have u:=G.2.2;have v:(U.kg (U.rd (U.zz b))).length<=30:=(zb u).2.2.2.2.1;have I:b.2.2.2.2.2.2.2.1.length<=30:=v;have N:(U.jN (U.rd (U.zz b))).length<=30:=jDr (jz6 _) v;have g:∀s∈U.jN (U.rd (U.zz b)),s∈U.kg (U.rd (U.zz b)):=fun s D=>qP.1 D
 have w:=qw (U.rd (U.zz b));have M:(U.jq (U.rd (U.zz b))).length<=4:=(zb u).1;refine⟨by show b.2.2.2.2.2.2.2.1.length<=100000;omega,fun _ _ _ _=>trivial,jCQ hk,fun _=>⟨⟨0,⟨⟨rfl,trivial⟩,rfl,trivial⟩,jDq _⟩,fun x J=>⟨fun h=> ?_,fun h _=>⟨⟨0,⟨⟨rfl,trivial⟩,rfl,rfl,trivial⟩,jDq _,ju3 (r:=U.zz b) P B C⟩,fun y n=>⟨fun t=> ?_,fun t=> ?_⟩⟩⟩⟩⟩
 .have h:(x:Int)<((U.jN (U.rd (U.zz b))).length:Int):=of_decide_eq_true h;have D:=ji0 (l:=U.jN (U.rd (U.zz b))) (i:=x) (by omega);exact⟨by omega,h,L.in64 (by omega) (by omega),x+1,⟨⟨by simp,trivial⟩,D.symm,trivial⟩,by show x+1<=(U.jN (U.rd (U.zz b))).length;omega,by show(U.jN (U.rd (U.zz b))).length-(x+1)<(U.jN (U.rd (U.zz b))).length-x;omega⟩
 .have J:x<=(U.jN (U.rd (U.zz b))).length:=J;have h:¬(x:Int)<((U.jN (U.rd (U.zz b))).length:Int):=of_decide_eq_false h;have E:x=(U.jN (U.rd (U.zz b))).length:=(by omega);have t:(y:Int)<((U.jN (U.rd (U.zz b))).length:Int):=of_decide_eq_true t;have a:y<(U.jN (U.rd (U.zz b))).length:=(by omega);obtain⟨_,e⟩:y<=(U.jN (U.rd (U.zz b))).length/\U.vX (U.zz b) (U.jN (U.rd (U.zz b))) y (U.zW (U.zz b) (U.jN (U.rd (U.zz b))) y):=n;have c:=jzo (r:=U.zz b) u g w a e;rw[<-jeh a] at c;have F:y+1<=(U.jN (U.rd (U.zz b))).length:=a;have A:(U.jN (U.rd (U.zz b))).length-(y+1)<(U.jN (U.rd (U.zz b))).length-y:=(by omega);have q:=jeq u (g _ (L.mem_nth a));have o:=jB4 (U.zo (U.jN (U.rd (U.zz b))) (U.jN (U.rd (U.zz b))).length) (nth (U.jN (U.rd (U.zz b))) y);subst E;refine⟨by omega,t,fun p=> ?_,fun p=> ?_⟩
  .have f:U.kd (U.zo (U.jN (U.rd (U.zz b))) (U.jN (U.rd (U.zz b))).length) (nth (U.jN (U.rd (U.zz b))) y)=false:=by
    rw[o];have p:(!decide (kE (Ty.dflt tSh) (zx tSt (U.yP (nth (U.jN (U.rd (U.zz b))) y)) (U.zo (U.jN (U.rd (U.zz b))) (U.jN (U.rd (U.zz b))).length))=nth (U.jN (U.rd (U.zz b))) y)||decide (U.jxZ (nth (U.jN (U.rd (U.zz b))) y)≠1))=true:=p;rw[p];rfl
   have d:=jlQ (r:=U.zz b) a f;exact⟨L.in64 (by omega) (by omega),y+1,⟨⟨by simp,trivial⟩,congrArg (·.2) d.symm,congrArg (·.1) d.symm,trivial⟩,⟨F,c⟩,A⟩
  .have f:U.kd (U.zo (U.jN (U.rd (U.zz b))) (U.jN (U.rd (U.zz b))).length) (nth (U.jN (U.rd (U.zz b))) y)=true:=by
    rw[o];have p:(!decide (kE (Ty.dflt tSh) (zx tSt (U.yP (nth (U.jN (U.rd (U.zz b))) y)) (U.zo (U.jN (U.rd (U.zz b))) (U.jN (U.rd (U.zz b))).length))=nth (U.jN (U.rd (U.zz b))) y)||decide (U.jxZ (nth (U.jN (U.rd (U.zz b))) y)≠1))=false:=p;rw[p];rfl
   have j:=jrV (r:=U.zz b) u g w a e f;have z:=jz5 j.1 j.2.1;have H:(nth (U.zW (U.zz b) (U.jN (U.rd (U.zz b))) y).1 (U.vZ (nth (U.jN (U.rd (U.zz b))) y)).toNat).length<=4:=by
    rw[jDA] at z;omega
   have k:0<=U.vZ (nth (U.jN (U.rd (U.zz b))) y):=q.1.1;have m:U.vZ (nth (U.jN (U.rd (U.zz b))) y)<((U.zW (U.zz b) (U.jN (U.rd (U.zz b))) y).1.length:Int):=(by rw[e.1];exact q.1.2);have Q:=e.2.1;refine⟨k,m,k,m,k,m,rfl,rfl,?_,rfl,⟨G,O⟩,q.1,⟨jDr z (by omega),j.2.1⟩,fun n=> ?_,fun n=> ?_⟩
   .show((nth (U.zW (U.zz b) (U.jN (U.rd (U.zz b))) y).1 (U.vZ (nth (U.jN (U.rd (U.zz b))) y)).toNat).length+1)*8<=140737488355328;omega
   .have d:=jlP (r:=U.zz b) a f n;exact⟨k,m,L.in64 (by omega) (by omega),y+1,⟨⟨by simp,trivial⟩,congrArg (·.2) d.symm,congrArg (·.1) d.symm,trivial⟩,⟨F,c⟩,A⟩
   .have d:=jrW (r:=U.zz b) a f n;refine⟨?_,L.in64 (by omega) (by omega),y+1,⟨⟨by simp,trivial⟩,congrArg (·.1) d.symm,⟨rfl,rfl,rfl,rfl,rfl,rfl,rfl,rfl,trivial,trivial,trivial,trivial⟩,congrArg (·.2) d.symm,trivial⟩,⟨F,c⟩,A⟩;show((U.zW (U.zz b) (U.jN (U.rd (U.zz b))) y).2.length+1)*8<=140737488355328;omega
 .have t:¬(y:Int)<((U.jN (U.rd (U.zz b))).length:Int):=of_decide_eq_false t;have n:=n.1;have n:y<=(U.jN (U.rd (U.zz b))).length:=n;have a:y=(U.jN (U.rd (U.zz b))).length:=(by omega);subst a;exact⟨rfl,rfl⟩
theorem jkf:wY PR 97 jj7:=jxX Tryz.sortI 3 (wx Tryz.func97 (c:=zD Tryz.f97) (by kernel_rfl) (by kernel_rfl))
theorem yY:wY PR 66 jfN:=jgA jgk jhp Tryz.func66 (kcC jqM (kcC jbq kcN)) (koC jeI (koC qW (koC jkf koN)))
end Go.X
namespace Go.X
open Go.Proofs
namespace U
def wl (l:List Int) (n:Nat):Int:=(l.take n).foldl (fun s p=>bor s (1*2^p.toNat)) 0
def jr0 (l:List Int):Int:=wl l l.length
def jy (d:DyD) (n:Nat):List Int:=((jq d).take n).map (fun b=>jr0 (zZ (jj d) (jfx b)))
def jAn (d:DyD):List (List Int):=List.replicate (jl (jj d)).length zL
def z6 (d:DyD):RoD:=(d,zL,jAn d,zL,())
def jcr (d:DyD):RoD:=(d,jy d (jq d).length,jAn d,zL,())
def jfv (d:DyD):RoD:=(d,jy d (jq d).length,(jR (jcr d)).1,(jR (jcr d)).2,())
def zw (d:DyD):Option RoD:=if jB d=0 then some (jfv d) else none
def jW (d:DyD) (b:Bool):Option RoD:=if jB d=0 then(if b=true then some (jfv d) else none) else none
def jcE (d:DyD) (b:Bool):Int:=if jB d=0 then(if b=true then 0 else 1) else jB d
end U
def jnW:zH:=⟨[.val tDy,.nil true],[.cl (.dat (.ptr tRo)),.cl (.dat .int)],fun d=>[(U.kg d.1).length<=100000],fun d=>((U.zw d.1,U.jB d.1,()),())⟩
def jpv:Ann:=fun r=>match r with
 |8=>some fun σ=>{X:=Nat,sl:=fun i=>[(39,.dat .int (i:Int))],ob:=fun i=>[(27,some (.box 82 false (((bx σ 27).set 8 (.own (jbw 27 8) .int)).set 10 (.own (jbw 27 10) .int)))),(jbw 27 10,some (.row 3 .int false .yes U.zL)),(jbw 27 8,some (.row 3 .int false .yes (U.jy (gb tDy σ 2) i)))],inv:=fun i=>i<=(U.jq (gb tDy σ 2)).length,mu:=fun i=>(U.jq (gb tDy σ 2)).length-i}
 |13=>some fun σ=>{X:=Nat,sl:=fun i=>[(53,.dat .int (i:Int)),(12,.dat .int (U.wl (gd (.slice .int) σ 51) i))],ob:=fun _=>[],inv:=fun i=>i<=(gd (.slice .int) σ 51).length,mu:=fun i=>(gd (.slice .int) σ 51).length-i}
 |3000005=>some fun _=>{X:=Unit,sl:=fun _=>[],ob:=fun _=>[],inv:=fun _=>True,mu:=fun _=>0}
 |_=>none
abbrev q94_1 (d:DyD×Unit×Unit)(x:Nat):=(U.zZ d.1.1 (nth d.1.2.2.1 (x:Int).toNat).1)
abbrev q94_2 (d:DyD×Unit×Unit):=(d.1.1.1=d.1.1.1/\d.1.1.2.1=d.1.1.2.1/\d.1.1.2.2.1=d.1.1.2.2.1/\d.1.2.1=d.1.2.1/\d.1.2.2.1=d.1.2.2.1/\d.1.2.2.2.1=d.1.2.2.2.1/\d.1.2.2.2.2.1=d.1.2.2.2.2.1/\d.1.2.2.2.2.2.1=d.1.2.2.2.2.2.1/\True/\True/\True/\True)
abbrev q94_4 (d:DyD×Unit×Unit):=(d.1.1.2.1.length:Int)
abbrev q94_3 (d:DyD×Unit×Unit)(x:Nat):=(U.zz (d.1.1.1,d.1.1.2.1,d.1.1.2.2.1,d.1.2.1,d.1.2.2.1,d.1.2.2.2.1,d.1.2.2.2.2.1,d.1.2.2.2.2.2.1,U.jy d.1 x,List.replicate (q94_4 d).toNat [],U.zL,()))
abbrev q94_0 (d:DyD×Unit×Unit)(x:Nat):=(U.wk (d.1.1.1,d.1.1.2.1,d.1.1.2.2.1,d.1.2.1,d.1.2.2.1,d.1.2.2.2.1,d.1.2.2.2.2.1,d.1.2.2.2.2.2.1,U.jy d.1 x,List.replicate (q94_4 d).toNat [],U.zL,()) (U.jR (q94_3 d x)))
def jnj:Prop:=∀(d:DyD×Unit×Unit),(U.kg d.1).length<=100000->(U.kg d.1).length<=100000/\(decide (U.jB d.1≠0)=true->(none,U.jB d.1,())=(U.zw d.1,U.jB d.1,())/\()=())/\(decide (U.jB d.1≠0)=false->0<=(q94_4 d)/\(q94_4 d)=(q94_4 d)/\(q94_4 d).toNat*24<=140737488355328/\((!true)=true->(!true)=true/\(!true)=true/\False)/\((!true)=false->(!true)=false/\(!true)=false/\(!true)=false/\(!true)=false/\(false=true->(none,(1:Int),())=(U.zw d.1,U.jB d.1,())/\()=())/\(false=false->d.1.2.2.1.length<4611686018427387904->(∃(x:Nat),((0=(x:Int)/\True)/\(q94_2 d)/\U.zL=[]/\U.jy d.1 x=[]/\True)/\x<=(U.jq d.1).length)/\∀(x:Nat),x<=(U.jq d.1).length->(decide ((x:Int)<(d.1.2.2.1.length:Int))=true->0<=(x:Int)/\(x:Int)<(d.1.2.2.1.length:Int)/\((q94_1 d x).length<4611686018427387904->(∃(a:Nat),((0=(a:Int)/\0=U.wl (q94_1 d x) a/\True)/\True)/\a<=(q94_1 d x).length)/\∀(a:Nat),a<=(q94_1 d x).length->(decide ((a:Int)<(↑(q94_1 d x).length:Int))=true->0<=(a:Int)/\(a:Int)<(↑(q94_1 d x).length:Int)/\0<=nth (q94_1 d x) (a:Int).toNat/\nth (q94_1 d x) (a:Int).toNat<=64/\jA ((1:Int)*2^(nth (q94_1 d x) (a:Int).toNat).toNat)/\jA ((a:Int)+1)/\∃(b:Nat),(((a:Int)+1=(b:Int)/\bor (U.wl (q94_1 d x) a) ((1:Int)*2^(nth (q94_1 d x) (a:Int).toNat).toNat)=U.wl (q94_1 d x) b/\True)/\True)/\b<=(q94_1 d x).length/\(q94_1 d x).length-b<(q94_1 d x).length-a)/\(decide ((a:Int)<(↑(q94_1 d x).length:Int))=false->((U.jy d.1 x).length+[U.wl (q94_1 d x) a].length)*8<=140737488355328/\jA ((x:Int)+1)/\∃(b:Nat),(((x:Int)+1=(b:Int)/\True)/\U.zL=U.zL/\(q94_2 d)/\U.jy d.1 x++[U.wl (q94_1 d x) a]=U.jy d.1 b/\True)/\b<=(U.jq d.1).length/\(U.jq d.1).length-b<(U.jq d.1).length-x)))/\(decide ((x:Int)<(d.1.2.2.1.length:Int))=false->U.jtE (q94_3 d x)/\(some ((((q94_0 d x).1,(q94_0 d x).2.1,(q94_0 d x).2.2.1,()),(q94_0 d x).2.2.2.1,(q94_0 d x).2.2.2.2.1,(q94_0 d x).2.2.2.2.2.1,(q94_0 d x).2.2.2.2.2.2.1,(q94_0 d x).2.2.2.2.2.2.2.1,()),(q94_0 d x).2.2.2.2.2.2.2.2.1,(q94_0 d x).2.2.2.2.2.2.2.2.2.1,(q94_0 d x).2.2.2.2.2.2.2.2.2.2.1,()),(0:Int),())=(U.zw d.1,U.jB d.1,())/\()=()))))
def jnX:zH:=⟨[.val tDy,.fn [.ptr tRo] [.bool]],[.cl (.dat (.ptr tRo)),.cl (.dat .int)],fun d=>[(U.kg d.1).length<=100000,U.jB d.1=0->U.jw (d.2.1.pre (some (U.z6 d.1),()))],
 fun d=>((U.jW d.1 (d.2.1.F (some (U.z6 d.1),())).1,U.jcE d.1 (d.2.1.F (some (U.z6 d.1),())).1,()),())⟩
abbrev q95_1 (d:DyD×FnD [tRo.ptr] [Ty.bool]×Unit)(x:Nat):=(U.zZ d.1.1 (nth d.1.2.2.1 (x:Int).toNat).1)
abbrev q95_2 (d:DyD×FnD [tRo.ptr] [Ty.bool]×Unit):=(d.1.1.1=d.1.1.1/\d.1.1.2.1=d.1.1.2.1/\d.1.1.2.2.1=d.1.1.2.2.1/\d.1.2.1=d.1.2.1/\d.1.2.2.1=d.1.2.2.1/\d.1.2.2.2.1=d.1.2.2.2.1/\d.1.2.2.2.2.1=d.1.2.2.2.2.1/\d.1.2.2.2.2.2.1=d.1.2.2.2.2.2.1/\True/\True/\True/\True)
abbrev q95_4 (d:DyD×FnD [tRo.ptr] [Ty.bool]×Unit):=(U.jW d.1 (d.2.1.2 (some (U.z6 d.1),())).1,U.jcE d.1 (d.2.1.2 (some (U.z6 d.1),())).1,())
abbrev q95_6 (d:DyD×FnD [tRo.ptr] [Ty.bool]×Unit):=(d.1.1.2.1.length:Int)
abbrev q95_5 (d:DyD×FnD [tRo.ptr] [Ty.bool]×Unit)(x:Nat):=(U.zz (d.1.1.1,d.1.1.2.1,d.1.1.2.2.1,d.1.2.1,d.1.2.2.1,d.1.2.2.2.1,d.1.2.2.2.2.1,d.1.2.2.2.2.2.1,U.jy d.1 x,List.replicate (q95_6 d).toNat [],U.zL,()))
abbrev q95_0 (d:DyD×FnD [tRo.ptr] [Ty.bool]×Unit)(x:Nat):=(U.wk (d.1.1.1,d.1.1.2.1,d.1.1.2.2.1,d.1.2.1,d.1.2.2.1,d.1.2.2.2.1,d.1.2.2.2.2.1,d.1.2.2.2.2.2.1,U.jy d.1 x,List.replicate (q95_6 d).toNat [],U.zL,()) (U.jR (q95_5 d x)))
abbrev q95_3 (x:Nat)(d:DyD×FnD [tRo.ptr] [Ty.bool]×Unit):=(decide ((x:Int)<(d.1.2.2.1.length:Int))=false->U.jtE (q95_5 d x)/\(some ((((q95_0 d x).1,(q95_0 d x).2.1,(q95_0 d x).2.2.1,()),(q95_0 d x).2.2.2.1,(q95_0 d x).2.2.2.2.1,(q95_0 d x).2.2.2.2.2.1,(q95_0 d x).2.2.2.2.2.2.1,(q95_0 d x).2.2.2.2.2.2.2.1,()),(q95_0 d x).2.2.2.2.2.2.2.2.1,(q95_0 d x).2.2.2.2.2.2.2.2.2.1,(q95_0 d x).2.2.2.2.2.2.2.2.2.2.1,()),(0:Int),())=(q95_4 d)/\()=())
abbrev q95_7 (a:Nat)(b:Nat)(d:DyD×FnD [tRo.ptr] [Ty.bool]×Unit)(x:Nat):=(((a:Int)+1=(b:Int)/\bor (U.wl (q95_1 d x) a) ((1:Int)*2^(nth (q95_1 d x) (a:Int).toNat).toNat)=U.wl (q95_1 d x) b/\True)/\True)
abbrev q95_8 (x:Nat)(b:Nat)(d:DyD×FnD [tRo.ptr] [Ty.bool]×Unit)(a:Nat):=(((x:Int)+1=(b:Int)/\True)/\U.zL=U.zL/\(q95_2 d)/\U.jy d.1 x++[U.wl (q95_1 d x) a]=U.jy d.1 b/\True)
abbrev q95_9 (d:DyD×FnD [tRo.ptr] [Ty.bool]×Unit)(x:Nat):=(↑(q95_1 d x).length:Int)
def jnk:Prop:=∀(d:DyD×FnD [tRo.ptr] [Ty.bool]×Unit),(U.kg d.1).length<=100000->(U.jB d.1=0->U.jw (d.2.1.1 (some (U.z6 d.1),())))->(U.kg d.1).length<=100000/\(decide (U.jB d.1≠0)=true->(none,U.jB d.1,())=(q95_4 d)/\()=())/\(decide (U.jB d.1≠0)=false->0<=(q95_6 d)/\(q95_6 d)=(q95_6 d)/\(q95_6 d).toNat*24<=140737488355328/\((!false)=true->(!false)=true/\(!false)=true/\asks (d.2.1.1 (some (d.1,[],List.replicate (q95_6 d).toNat [],[],()),())) ((!false)=true/\(!false)=true/\((!(d.2.1.2 (some (d.1,[],List.replicate (q95_6 d).toNat [],[],()),())).1)=true->(none,(1:Int),())=(q95_4 d)/\()=())/\((!(d.2.1.2 (some (d.1,[],List.replicate (q95_6 d).toNat [],[],()),())).1)=false->d.1.2.2.1.length<4611686018427387904->(∃(x:Nat),((0=(x:Int)/\True)/\(q95_2 d)/\U.zL=[]/\U.jy d.1 x=[]/\True)/\x<=(U.jq d.1).length)/\∀(x:Nat),x<=(U.jq d.1).length->(decide ((x:Int)<(d.1.2.2.1.length:Int))=true->0<=(x:Int)/\(x:Int)<(d.1.2.2.1.length:Int)/\((q95_1 d x).length<4611686018427387904->(∃(a:Nat),((0=(a:Int)/\0=U.wl (q95_1 d x) a/\True)/\True)/\a<=(q95_1 d x).length)/\∀(a:Nat),a<=(q95_1 d x).length->(decide ((a:Int)<(q95_9 d x))=true->0<=(a:Int)/\(a:Int)<(q95_9 d x)/\0<=nth (q95_1 d x) (a:Int).toNat/\nth (q95_1 d x) (a:Int).toNat<=64/\jA ((1:Int)*2^(nth (q95_1 d x) (a:Int).toNat).toNat)/\jA ((a:Int)+1)/\∃(b:Nat),(q95_7 a b d x)/\b<=(q95_1 d x).length/\(q95_1 d x).length-b<(q95_1 d x).length-a)/\(decide ((a:Int)<(q95_9 d x))=false->((U.jy d.1 x).length+[U.wl (q95_1 d x) a].length)*8<=140737488355328/\jA ((x:Int)+1)/\∃(b:Nat),(q95_8 x b d a)/\b<=(U.jq d.1).length/\(U.jq d.1).length-b<(U.jq d.1).length-x)))/\(q95_3 x d))))/\((!false)=false->(!false)=false/\(!false)=false/\(!false)=false/\(!false)=false/\(false=true->(none,(1:Int),())=(q95_4 d)/\()=())/\(false=false->d.1.2.2.1.length<4611686018427387904->(∃(x:Nat),((0=(x:Int)/\True)/\(q95_2 d)/\U.zL=[]/\U.jy d.1 x=[]/\True)/\x<=(U.jq d.1).length)/\∀(x:Nat),x<=(U.jq d.1).length->(decide ((x:Int)<(d.1.2.2.1.length:Int))=true->0<=(x:Int)/\(x:Int)<(d.1.2.2.1.length:Int)/\((q95_1 d x).length<4611686018427387904->(∃(a:Nat),((0=(a:Int)/\0=U.wl (q95_1 d x) a/\True)/\True)/\a<=(q95_1 d x).length)/\∀(a:Nat),a<=(q95_1 d x).length->(decide ((a:Int)<(q95_9 d x))=true->0<=(a:Int)/\(a:Int)<(q95_9 d x)/\0<=nth (q95_1 d x) (a:Int).toNat/\nth (q95_1 d x) (a:Int).toNat<=64/\jA ((1:Int)*2^(nth (q95_1 d x) (a:Int).toNat).toNat)/\jA ((a:Int)+1)/\∃(b:Nat),(q95_7 a b d x)/\b<=(q95_1 d x).length/\(q95_1 d x).length-b<(q95_1 d x).length-a)/\(decide ((a:Int)<(q95_9 d x))=false->((U.jy d.1 x).length+[U.wl (q95_1 d x) a].length)*8<=140737488355328/\jA ((x:Int)+1)/\∃(b:Nat),(q95_8 x b d a)/\b<=(U.jq d.1).length/\(U.jq d.1).length-b<(U.jq d.1).length-x)))/\(q95_3 x d))))
end Go.X
namespace Go.X
open Go.Proofs
theorem jbX {l:List Int} {i:Nat} (h:i<l.length):U.wl l (i+1)=bor (U.wl l i) (1*2^(nth l i).toNat):=by
 unfold U.wl;rw[L.take_succ h,jDI];rfl
theorem joM {d:DyD} {i:Nat} (h:i<(U.jq d).length):U.jy d (i+1)=U.jy d i++[U.jr0 (U.zZ (U.jj d) (U.jfx (nth (U.jq d) i)))]:=by
 unfold U.jy;rw[L.take_succ h,jD9];rfl
theorem jsp (d:DyD) (i:Nat):(U.jy d i).length<=i:=by
 unfold U.jy;rw[jEq,jDG];omega
theorem jqV {c:CrD} (h:U.ju c=true) {j:JbD} {p:Int} (a:p∈U.zZ c j):0<=p/\p<8:=by
 have d:=(jK h).2.2.1;unfold U.zZ at a
 split at a
 .unfold U.vE at a;obtain⟨n,b,rfl⟩:=jDP.1 a;have:=jDy.1 (jDC.1 b).1;omega
 .cases a
theorem jwf {c:CrD} (h:U.ju c=true) (j:JbD):(U.zZ c j).length<=8:=by
 have a:=(jK h).2.2.1;unfold U.zZ
 split
 .unfold U.vE;rw[jEq];exact jDr (List.length_filter_le _ _) (by simpa using a)
 .exact jDq _
theorem jn5 {d:DyD} (h:U.jB d=0):U.jtE (U.jcr d):=by
 refine⟨⟨h,?_⟩,⟨?_,fun x a=> ?_⟩,rfl⟩
 .show(U.jy d (U.jq d).length).length=(U.jq d).length;unfold U.jy;simp
 .show(U.jAn d).length=(U.jl (U.jj d)).length;unfold U.jAn;simp
 .have a:x∈U.jAn d:=a;unfold U.jAn at a;exact(List.mem_replicate.1 a).2
theorem jq6:jnj:=by
 unfold jnj q94_0 q94_3 q94_4 q94_2 q94_1;rintro⟨d,⟨⟩,⟨⟩⟩ j;refine⟨j,fun h=>⟨?_,rfl⟩,fun h=>⟨jDK _,rfl,?_,fun c=>(by cases c),fun _=>⟨rfl,rfl,rfl,rfl,fun c=>(by cases c),fun _=> ?_⟩⟩⟩
 .have h:U.jB d≠0:=of_decide_eq_true h;show(none,U.jB d,())=(U.zw d,U.jB d,());unfold U.zw;rw[if_neg h]
 .have hk:U.jB d=0:=Classical.not_not.1 (of_decide_eq_false h);have e:=(jK (zq hk).1.1).2.2.1;have e:d.1.2.1.length<=8:=e;show((d.1.2.1.length:Int)).toNat*24<=140737488355328;omega
 have hk:U.jB d=0:=Classical.not_not.1 (of_decide_eq_false h);clear j h;have f:=(zq hk).1;have r:=f.2.2;have g:(U.jq d).length<=4:=(zb r).1;have n:d.2.2.1.length<=4:=g;refine fun _=>⟨⟨0,⟨⟨rfl,trivial⟩,⟨rfl,rfl,rfl,rfl,rfl,rfl,rfl,rfl,trivial,trivial,trivial,trivial⟩,rfl,rfl,trivial⟩,jDq _⟩,fun x o=>⟨fun h=>⟨by omega,of_decide_eq_true h,fun _=>⟨⟨0,⟨⟨rfl,rfl,trivial⟩,trivial⟩,jDq _⟩,fun y p=>⟨fun a=> ?_,fun a=> ?_⟩⟩⟩,fun h=> ?_⟩⟩
 .have a:(y:Int)<((U.zZ (U.jj d) (nth d.2.2.1 (x:Int).toNat).1).length:Int):=of_decide_eq_true a;have b:y<(U.zZ (U.jj d) (nth d.2.2.1 (x:Int).toNat).1).length:=(by omega);have s:=jqV f.1 (L.mem_nth b);have k:=jbX b;have e:=jwf f.1 (nth d.2.2.1 (x:Int).toNat).1;have q:BT.Set' ((2:Int)^(nth (U.zZ (U.jj d) (nth d.2.2.1 (x:Int).toNat).1) y).toNat):=BT.two_set (by omega);unfold BT.Set' at q;exact⟨by omega,a,s.1,by show nth (U.zZ (U.jj d) (nth d.2.2.1 (x:Int).toNat).1) y<=64;omega,by show jA (1*2^(nth (U.zZ (U.jj d) (nth d.2.2.1 (x:Int).toNat).1) y).toNat);rw[gZ];exact L.in64 (by omega) (by omega),L.in64 (by omega) (by omega),y+1,⟨⟨by simp,k.symm,trivial⟩,trivial⟩,by show y+1<=(U.zZ (U.jj d) (nth d.2.2.1 (x:Int).toNat).1).length;omega,by show(U.zZ (U.jj d) (nth d.2.2.1 (x:Int).toNat).1).length-(y+1)<(U.zZ (U.jj d) (nth d.2.2.1 (x:Int).toNat).1).length-y;omega⟩
 .have h:(x:Int)<((U.jq d).length:Int):=of_decide_eq_true h;have k:=joM (d:=d) (i:=x) (by omega);have j:=jsp d x;have p:y<=(U.zZ (U.jj d) (nth d.2.2.1 (x:Int).toNat).1).length:=p;have a:¬(y:Int)<((U.zZ (U.jj d) (nth d.2.2.1 (x:Int).toNat).1).length:Int):=of_decide_eq_false a;have m:y=(U.zZ (U.jj d) (nth d.2.2.1 (x:Int).toNat).1).length:=(by omega);subst m;refine⟨?_,L.in64 (by omega) (by omega),x+1,⟨⟨by simp,trivial⟩,rfl,⟨rfl,rfl,rfl,rfl,rfl,rfl,rfl,rfl,trivial,trivial,trivial,trivial⟩,k.symm,trivial⟩,by show x+1<=(U.jq d).length;omega,by show(U.jq d).length-(x+1)<(U.jq d).length-x;omega⟩;show((U.jy d x).length+1)*8<=140737488355328;omega
 .have h:¬(x:Int)<((U.jq d).length:Int):=of_decide_eq_false h;have o:x<=(U.jq d).length:=o;have l:x=(U.jq d).length:=(by omega);subst l;refine⟨jn5 hk,?_⟩;refine⟨?_,rfl⟩;show(some (U.jfv d),(0:Int),())=(U.zw d,U.jB d,());unfold U.zw;rw[if_pos hk,hk]
theorem jbr:wY PR 34 jnW:=jgA jpv jq6 Tryz.func34 (kcC jkW (kcC jsh kcN)) (koC yY koN)
theorem jq7:jnk:=by
 unfold jnk q95_9 q95_8 q95_7 q95_3 q95_0 q95_5 q95_6 q95_4 q95_2 q95_1;rintro⟨d,f,⟨⟩⟩ k t;refine⟨k,fun h=>⟨?_,rfl⟩,fun h=>⟨jDK _,rfl,?_,fun _=> ?_,fun r=>(by cases r)⟩⟩
 .have h:U.jB d≠0:=of_decide_eq_true h;show(none,U.jB d,())=(U.jW d _,U.jcE d _,());unfold U.jW U.jcE;rw[if_neg h,if_neg h]
 .have hk:U.jB d=0:=Classical.not_not.1 (of_decide_eq_false h);have e:=(jK (zq hk).1.1).2.2.1;have e:d.1.2.1.length<=8:=e;show((d.1.2.1.length:Int)).toNat*24<=140737488355328;omega
 have hk:U.jB d=0:=Classical.not_not.1 (of_decide_eq_false h);refine⟨rfl,rfl,wq _ (t hk) ⟨rfl,rfl,fun a=>⟨?_,rfl⟩,fun a=> ?_⟩⟩
 .have a:(!(f.2 (some (U.z6 d),())).1)=true:=a;show(none,(1:Int),())=(U.jW d (f.2 (some (U.z6 d),())).1,U.jcE d (f.2 (some (U.z6 d),())).1,());have a:(f.2 (some (U.z6 d),())).1=false:=(by simpa using a);unfold U.jW U.jcE;rw[a,if_pos hk,if_pos hk,if_neg (by simp),if_neg (by simp)]
 have a:(!(f.2 (some (U.z6 d),())).1)=false:=a;have a:(f.2 (some (U.z6 d),())).1=true:=(by simpa using a);clear k h;have g:=(zq hk).1;have s:=g.2.2;have j:(U.jq d).length<=4:=(zb s).1;have o:d.2.2.1.length<=4:=j;refine fun _=>⟨⟨0,⟨⟨rfl,trivial⟩,⟨rfl,rfl,rfl,rfl,rfl,rfl,rfl,rfl,trivial,trivial,trivial,trivial⟩,rfl,rfl,trivial⟩,jDq _⟩,fun x p=>⟨fun h=>⟨by omega,of_decide_eq_true h,fun _=>⟨⟨0,⟨⟨rfl,rfl,trivial⟩,trivial⟩,jDq _⟩,fun y q=>⟨fun b=> ?_,fun b=> ?_⟩⟩⟩,fun h=> ?_⟩⟩
 .have b:(y:Int)<((U.zZ (U.jj d) (nth d.2.2.1 (x:Int).toNat).1).length:Int):=of_decide_eq_true b;have c:y<(U.zZ (U.jj d) (nth d.2.2.1 (x:Int).toNat).1).length:=(by omega);have u:=jqV g.1 (L.mem_nth c);have l:=jbX c;have e:=jwf g.1 (nth d.2.2.1 (x:Int).toNat).1;have a:BT.Set' ((2:Int)^(nth (U.zZ (U.jj d) (nth d.2.2.1 (x:Int).toNat).1) y).toNat):=BT.two_set (by omega);unfold BT.Set' at a;exact⟨by omega,b,u.1,by show nth (U.zZ (U.jj d) (nth d.2.2.1 (x:Int).toNat).1) y<=64;omega,by show jA (1*2^(nth (U.zZ (U.jj d) (nth d.2.2.1 (x:Int).toNat).1) y).toNat);rw[gZ];exact L.in64 (by omega) (by omega),L.in64 (by omega) (by omega),y+1,⟨⟨by simp,l.symm,trivial⟩,trivial⟩,by show y+1<=(U.zZ (U.jj d) (nth d.2.2.1 (x:Int).toNat).1).length;omega,by show(U.zZ (U.jj d) (nth d.2.2.1 (x:Int).toNat).1).length-(y+1)<(U.zZ (U.jj d) (nth d.2.2.1 (x:Int).toNat).1).length-y;omega⟩
 .have h:(x:Int)<((U.jq d).length:Int):=of_decide_eq_true h;have l:=joM (d:=d) (i:=x) (by omega);have k:=jsp d x;have q:y<=(U.zZ (U.jj d) (nth d.2.2.1 (x:Int).toNat).1).length:=q;have b:¬(y:Int)<((U.zZ (U.jj d) (nth d.2.2.1 (x:Int).toNat).1).length:Int):=of_decide_eq_false b;have n:y=(U.zZ (U.jj d) (nth d.2.2.1 (x:Int).toNat).1).length:=(by omega);subst n;refine⟨?_,L.in64 (by omega) (by omega),x+1,⟨⟨by simp,trivial⟩,rfl,⟨rfl,rfl,rfl,rfl,rfl,rfl,rfl,rfl,trivial,trivial,trivial,trivial⟩,l.symm,trivial⟩,by show x+1<=(U.jq d).length;omega,by show(U.jq d).length-(x+1)<(U.jq d).length-x;omega⟩;show((U.jy d x).length+1)*8<=140737488355328;omega
 .have h:¬(x:Int)<((U.jq d).length:Int):=of_decide_eq_false h;have p:x<=(U.jq d).length:=p;have m:x=(U.jq d).length:=(by omega);subst m;refine⟨jn5 hk,?_⟩;refine⟨?_,rfl⟩;show(some (U.jfv d),(0:Int),())=(U.jW d (f.2 (some (U.z6 d),())).1,U.jcE d (f.2 (some (U.z6 d),())).1,());unfold U.jW U.jcE;rw[a,if_pos hk,if_pos hk,if_pos rfl,if_pos rfl]
theorem jot:wY PR 34 jnX:=jgA jpv jq7 Tryz.func34 (kcC jkW (kcC jsh kcN)) (koC yY koN)
end Go.X
namespace Go.X
open Go.Proofs
namespace U
def w8 (d:DyD) (n:Nat):List Int:=(List.range n).map (fun(b:Nat)=>jfF (zP (jfv d)) (b:Int))
def yo (d:DyD):List Int:=if jB d=0 then w8 d (jq d).length else[]
def jka (d:DyD):List Int:=if jB d=0 then jCi (jfv d) else[]
def je (d:DyD) (p:Int):Bool:=ja p 0 (((jl (jj d)).length:Int)-1)
def jeT (d:DyD) (b:Int):Bool:=ja b 0 (((jq d).length:Int)-1)
def yR (d:DyD) (p:Int):List Int:=jd d (nth (zP (jfv d)) p.toNat)
def w9 (d:DyD) (l:List Int) (n:Nat):Int:=(List.range n).foldl (fun s i=>min s (kP d (nth l i) (nth l (i+1)))) 1440
def jC (d:DyD) (p:Int):List Int:=if jcE d (je d p)=0 then yR d p else[]
def gU (d:DyD) (p:Int):Int:=if jcE d (je d p)=0 then w9 d (yR d p) ((yR d p).length-1) else 0
end U
def jtm:jX:=⟨[.val tDy],[.slice .int,.int],false,fun d=>[(U.kg d.1).length<=100000],fun d=>(U.yo d.1,U.jB d.1,())⟩
def juw:Ann:=fun r=>match r with
 |6=>some fun σ=>{X:=Nat,sl:=fun i=>[(19,.dat .int (i:Int)),(6,.own 6 .int)],ob:=fun i=>[(6,some (.row 3 .int false .yes (U.w8 (gb tDy σ 1) i)))],inv:=fun i=>i<=(U.jq (gb tDy σ 1)).length,mu:=fun i=>(U.jq (gb tDy σ 1)).length-i}
 |_=>none
def js5:Prop:=∀(d:DyD×Unit),(U.kg d.1).length<=100000->(U.kg d.1).length<=100000/\(decide (U.jB d.1≠0)=true->([],U.jB d.1,())=(U.yo d.1,U.jB d.1,()))/\(decide (U.jB d.1≠0)=false->d.1.2.2.1.length<4611686018427387904->(∃(x:Nat),((0=(x:Int)/\True/\True)/\U.w8 d.1 x=[]/\True)/\x<=(U.jq d.1).length)/\∀(x:Nat),x<=(U.jq d.1).length->(decide ((x:Int)<(d.1.2.2.1.length:Int))=true->(U.zw d.1).isSome=true/\(U.zP (U.ro (U.zw d.1))).length<=60/\((U.w8 d.1 x).length+[U.jfF (U.zP (U.ro (U.zw d.1))) (x:Int)].length)*8<=140737488355328/\jA ((x:Int)+1)/\∃(a:Nat),(((x:Int)+1=(a:Int)/\True/\True)/\U.w8 d.1 x++[U.jfF (U.zP (U.ro (U.zw d.1))) (x:Int)]=U.w8 d.1 a/\True)/\a<=(U.jq d.1).length/\(U.jq d.1).length-a<(U.jq d.1).length-x)/\(decide ((x:Int)<(d.1.2.2.1.length:Int))=false->(U.w8 d.1 x,(0:Int),())=(U.yo d.1,U.jB d.1,())))
def jnQ:jX:=⟨[.val tDy],[.slice .int,.int],false,fun d=>[(U.kg d.1).length<=100000],fun d=>(U.jka d.1,U.jB d.1,())⟩
def jnr:Prop:=∀(d:DyD×Unit),(U.kg d.1).length<=100000->(U.kg d.1).length<=100000/\(decide (U.jB d.1≠0)=true->([],U.jB d.1,())=(U.jka d.1,U.jB d.1,()))/\(decide (U.jB d.1≠0)=false->(U.zw d.1).isSome=true/\((jH ((((0:Int),[],[],()),[],[],(0:Int),(0:Int),[],()),[],[],[],()) (U.zw d.1)).2.2.2.1,(0:Int),())=(U.jka d.1,U.jB d.1,()))
def jnP:jX:=⟨[.val (.ptr tRo),.ref .int],[.bool],false,fun d=>[d.1.isSome=true,(U.jl (U.jj (U.rd (U.ro d.1)))).length<=8],fun d=>(U.je (U.rd (U.ro d.1)) d.2.1,())⟩
def jnq:Prop:=∀(d:Option RoD×Int×Unit),d.1.isSome=true->(U.jl (U.jj (U.rd (U.ro d.1)))).length<=8->d.1.isSome=true/\(U.jl (U.jj (U.rd (U.ro d.1)))).length<=8/\(U.ja d.2.1 (0:Int) ((↑(U.jl (U.jj (U.rd (U.ro d.1)))).length:Int)-1),())=(U.je (U.rd (U.ro d.1)) d.2.1,())
def jtn:jX:=⟨[.val tDy,.val .int],[.slice .int,.int,.int],false,fun d=>[(U.kg d.1).length<=100000],fun d=>(U.jC d.1 d.2.1,U.gU d.1 d.2.1,U.jcE d.1 (U.je d.1 d.2.1),())⟩
def jux:Ann:=fun r=>match r with
 |6=>some fun σ=>{X:=Nat,sl:=fun i=>[(34,.dat .int (i:Int)),(5,.dat .int (U.w9 (gb tDy σ 2) (gd (.slice .int) σ 4) i))],ob:=fun _=>[],inv:=fun i=>i<=(gd (.slice .int) σ 4).length-1,mu:=fun i=>(gd (.slice .int) σ 4).length-1-i}
 |_=>none
abbrev q99_4 (d:DyD×Int×Unit):=(U.je (U.rd (U.ro (some (U.z6 d.1)))) d.2.1)
abbrev q99_1 (d:DyD×Int×Unit):=(U.jW d.1 (q99_4 d))
abbrev q99_2 (d:DyD×Int×Unit):=(jH ((((0:Int),[],[],()),[],[],(0:Int),(0:Int),[],()),[],[],[],()) (q99_1 d))
abbrev q99_6 (d:DyD×Int×Unit):=(U.rd (U.ro (q99_1 d)))
abbrev q99_0 (d:DyD×Int×Unit):=(U.jd (q99_6 d) (nth (q99_2 d).2.2.1 d.2.1.toNat))
abbrev q99_5 (d:DyD×Int×Unit):=(↑(q99_0 d).length:Int)
abbrev q99_3 (d:DyD×Int×Unit):=(List.take ((max (0:Int) ((q99_5 d)-1)).toNat-Int.toNat 0) (List.drop (Int.toNat 0) (q99_0 d)))
abbrev q99_7 (d:DyD×Int×Unit):=(U.jC d.1 d.2.1,U.gU d.1 d.2.1,U.jcE d.1 (U.je d.1 d.2.1),())
def js6:Prop:=∀(d:DyD×Int×Unit),(U.kg d.1).length<=100000->(U.kg d.1).length<=100000/\(U.jB d.1=0->U.jw [(some (U.z6 d.1)).isSome=true,(U.jl (U.jj (U.rd (U.ro (some (U.z6 d.1)))))).length<=8])/\(decide (U.jcE d.1 (q99_4 d)≠0)=true->([],(0:Int),U.jcE d.1 (q99_4 d),())=(q99_7 d))/\(decide (U.jcE d.1 (q99_4 d)≠0)=false->(q99_1 d).isSome=true/\0<=d.2.1/\d.2.1<(↑(q99_2 d).2.2.1.length:Int)/\(q99_1 d).isSome=true/\U.jiL (q99_6 d) (nth (q99_2 d).2.2.1 d.2.1.toNat)/\((q99_0 d).length<4611686018427387904->jA ((q99_5 d)-1)/\(0:Int)<=0/\0<=max (0:Int) ((q99_5 d)-1)/\max (0:Int) ((q99_5 d)-1)<=(q99_5 d)/\((q99_3 d).length<4611686018427387904->(∃(x:Nat),((0=(x:Int)/\1440=U.w9 d.1 (q99_0 d) x/\True)/\True)/\x<=(q99_0 d).length-1)/\∀(x:Nat),x<=(q99_0 d).length-1->(decide ((x:Int)<(↑(q99_3 d).length:Int))=true->0<=(x:Int)/\(x:Int)<(q99_5 d)/\jA ((x:Int)+1)/\0<=(x:Int)+1/\(x:Int)+1<(q99_5 d)/\(q99_1 d).isSome=true/\U.joF (q99_6 d)/\U.qc (q99_6 d) (nth (q99_0 d) (x:Int).toNat)/\U.qc (q99_6 d) (nth (q99_0 d) ((x:Int)+1).toNat)/\jA ((x:Int)+1)/\∃(a:Nat),(((x:Int)+1=(a:Int)/\min (U.w9 d.1 (q99_0 d) x) (U.kP (q99_6 d) (nth (q99_0 d) (x:Int).toNat) (nth (q99_0 d) ((x:Int)+1).toNat))=U.w9 d.1 (q99_0 d) a/\True)/\True)/\a<=(q99_0 d).length-1/\(q99_0 d).length-1-a<(q99_0 d).length-1-x)/\(decide ((x:Int)<(↑(q99_3 d).length:Int))=false->(U.jd (q99_6 d) (nth (q99_2 d).2.2.1 d.2.1.toNat),U.w9 d.1 (q99_0 d) x,(0:Int),())=(q99_7 d)))))
end Go.X
namespace Go.X
open Go.Proofs
theorem jlR {r:RoD} {l:List ShD} (d:U.zr (U.rd r)=true) (e:∀s∈l,s∈U.kg (U.rd r)) (nd:l.Nodup) (a:(U.zP r).length=(U.jl (U.jj (U.rd r))).length) (b:U.jyp (U.zP r)) (c:U.jCi r=U.zL):
 ∀i,i<=l.length->U.vX r l i (U.zW r l i)
 |0,_=>ju3 a b c
 |i+1,hi=>by
  rw[jeh hi]
  exact jzo d e nd hi (jlR d e nd a b c i (by omega))
structure jxz (d:DyD):Prop where
 may:U.joE (U.jfv d)
 len:(U.zP (U.jfv d)).length=(U.jl (U.jj d)).length
 row:∀p,(nth (U.zP (U.jfv d)) p).Nodup/\∀b∈nth (U.zP (U.jfv d)) p,U.qc d b
theorem jkQ {d:DyD} (h:U.jB d=0):jxz d:=by
 obtain⟨⟨_,i⟩,⟨j,c⟩,e⟩:=jn5 h;have f:=(zq h).1;have a:=jlR (r:=U.jcr d) (l:=U.jN d) f.2.2 (fun s k=>qP.1 k) (qw d) j c e _ (jDf _);refine⟨⟨f,i⟩,a.1,fun p=> ?_⟩;have:=a.2.2 p;exact⟨this.1,fun b g=>(this.2 b g).1⟩
theorem jxz.len60 {d:DyD} (h:jxz d):(U.zP (U.jfv d)).length<=60:=by
 have a:=(jK h.may.1.1).2.2.1;have a:(U.jl (U.jj d)).length<=8:=a;rw[h.len];omega
theorem jxz.bs {d:DyD} (h:jxz d) (p:Nat):U.jiL d (nth (U.zP (U.jfv d)) p):=by
 have:=jz5 (h.row p).1 (h.row p).2;have a:(U.jq d).length<=4:=(zb h.may.1.2.2).1;exact⟨by omega,(h.row p).2⟩
theorem jvN {d:DyD} (h:U.jB d=0):U.zw d=some (U.jfv d):=if_pos h
theorem jyg {d:DyD} {b:Bool} (h:U.jcE d b=0):U.jB d=0/\b=true/\U.jW d b=some (U.jfv d):=by
 unfold U.jcE at h
 split at h
 .rename_i hk;cases b with
  |true=>exact⟨hk,rfl,by unfold U.jW;rw[if_pos hk,if_pos rfl]⟩
  |false=>simp at h
 .contradiction
theorem jta (d:DyD) (n:Nat):U.w8 d (n+1)=U.w8 d n++[U.jfF (U.zP (U.jfv d)) (n:Int)]:=by
 unfold U.w8;rw[jDW,jD9];rfl
theorem jwF:js5:=by
 rintro⟨d,⟨⟩⟩ j;refine⟨j,fun h=> ?_,fun h _=>⟨⟨0,⟨⟨rfl,trivial,trivial⟩,rfl,trivial⟩,jDq _⟩,fun x g=>⟨fun a=> ?_,fun a=> ?_⟩⟩⟩
 .have h:U.jB d≠0:=of_decide_eq_true h;show([],U.jB d,())=(U.yo d,U.jB d,());unfold U.yo;rw[if_neg h]
 .have hk:U.jB d=0:=Classical.not_not.1 (of_decide_eq_false h);have f:=jkQ hk;have i:(U.jq d).length<=4:=(zb f.may.1.2.2).1;have a:(x:Int)<((U.jq d).length:Int):=of_decide_eq_true a;have k:=jta d x;have e:(U.w8 d x).length=x:=(by unfold U.w8;simp);have b:=jvN hk;refine⟨by show(U.zw d).isSome=true;rw[b];rfl,by show(U.zP (U.ro (U.zw d))).length<=60;rw[b];exact f.len60,?_,L.in64 (by omega) (by omega),x+1,⟨⟨by simp,trivial,trivial⟩,?_,trivial⟩,by show x+1<=(U.jq d).length;omega,by show(U.jq d).length-(x+1)<(U.jq d).length-x;omega⟩
  .show((U.w8 d x).length+1)*8<=_;omega
  .show U.w8 d x++[U.jfF (U.zP (U.ro (U.zw d))) (x:Int)]=U.w8 d (x+1);rw[b,k];rfl
 .have hk:U.jB d=0:=Classical.not_not.1 (of_decide_eq_false h);have g:x<=(U.jq d).length:=g;have a:¬(x:Int)<((U.jq d).length:Int):=of_decide_eq_false a;have c:x=(U.jq d).length:=(by omega);subst c;show(U.w8 d _,(0:Int),())=(U.yo d,U.jB d,());unfold U.yo;rw[if_pos hk,hk]
theorem jkV:zn PR 9 jtm:=wO juw jwF Tryz.func9 (kcC jhg kcN) (koC jbr koN)
theorem jre:jnr:=by
 rintro⟨d,⟨⟩⟩ b;refine⟨b,fun h=> ?_,fun h=> ?_⟩
 .have h:U.jB d≠0:=of_decide_eq_true h;show([],U.jB d,())=(U.jka d,U.jB d,());unfold U.jka;rw[if_neg h]
 .have hk:U.jB d=0:=Classical.not_not.1 (of_decide_eq_false h);have a:=jvN hk;refine⟨by show(U.zw d).isSome=true;rw[a];rfl,?_⟩;show(U.jCi (U.ro (U.zw d)),(0:Int),())=(U.jka d,U.jB d,());unfold U.jka;rw[if_pos hk,hk,a];rfl
theorem joA:zn PR 19 jnQ:=jT jre Tryz.func19 kcN (koC jbr koN)
theorem jrd:jnq:=by
 rintro⟨r,n,⟨⟩⟩ a b;exact⟨a,b,rfl⟩
theorem joz:zn PR 36 jnP:=jT jrd Tryz.func36 (kcC jeE kcN) koN
theorem jtf (d:DyD) (l:List Int) (n:Nat):U.w9 d l (n+1)=min (U.w9 d l n) (U.kP d (nth l n) (nth l (n+1))):=by
 unfold U.w9;rw[jDW,jDI];rfl
theorem jwG:js6:=by
 unfold js6 q99_7 q99_3 q99_5 q99_0 q99_6 q99_2 q99_1 q99_4;rintro⟨d,p,⟨⟩⟩ o;refine⟨o,fun hk=>⟨rfl,(jK (zq hk).1.1).2.2.1,trivial⟩,fun h=> ?_,fun h=> ?_⟩
 .have h:U.jcE d (U.je d p)≠0:=of_decide_eq_true h;show([],(0:Int),U.jcE d (U.je d p),())=(U.jC d p,U.gU d p,U.jcE d (U.je d p),());unfold U.jC U.gU;rw[if_neg h,if_neg h]
 .have h:U.jcE d (U.je d p)=0:=Classical.not_not.1 (of_decide_eq_false h);obtain⟨hk,g,u⟩:=jyg h;have j:=jkQ hk;have m:(U.jW d (U.je d p)).isSome=true:=(by rw[u];rfl);have k:U.ro (U.jW d (U.je d p))=U.jfv d:=(by rw[u];rfl);have f:U.rd (U.ro (U.jW d (U.je d p)))=d:=(by rw[k];rfl);unfold U.je U.ja at g;simp only[jDg,decide_eq_true_eq] at g;have w:(nth (U.zP (U.jfv d)) p.toNat).length<=12:=(j.bs p.toNat).1;have a:U.jd (U.rd (U.ro (U.jW d (U.je d p)))) (nth (U.zP (U.ro (U.jW d (U.je d p)))) p.toNat)=U.yR d p:=(by rw[f,k];rfl);have v:(U.yR d p).length<=12:=(by unfold U.yR;rw[jih];exact w);have c:∀b∈U.yR d p,U.qc d b:=fun b g=>(j.bs p.toNat).2 b (jig.1 g)
  have s:∀{l:List Int},l=U.yR d p->(l.take ((max 0 ((l.length:Int)-1)).toNat-Int.toNat 0)).length=(U.yR d p).length-1:=by
   intro l o;subst o;rw[jDG];simp only[Int.toNat_zero];omega
  refine⟨m,g.1,?_,m,?_,fun _=> ?_⟩
  .show p<((U.zP (U.ro (U.jW d (U.je d p)))).length:Int);rw[k,j.len];omega
  .show U.jiL (U.rd (U.ro (U.jW d (U.je d p)))) (nth (U.zP (U.ro (U.jW d (U.je d p)))) p.toNat);rw[f,k];exact j.bs _
  have n:((U.jd (U.rd (U.ro (U.jW d (U.je d p)))) (nth (U.zP (U.ro (U.jW d (U.je d p)))) p.toNat)).length:Int)=((U.yR d p).length:Int):=(by rw[a]);refine⟨?_,jEg 0,?_,?_,fun _=>⟨⟨0,⟨⟨rfl,rfl,trivial⟩,trivial⟩,jDq _⟩,fun x q=>⟨fun e=> ?_,fun e=> ?_⟩⟩⟩
  .show jA (((U.jd (U.rd (U.ro (U.jW d (U.je d p)))) (nth (U.zP (U.ro (U.jW d (U.je d p)))) p.toNat)).length:Int)-1);rw[n];exact L.in64 (by omega) (by omega)
  .exact Int.le_max_left _ _
  .show max 0 (((U.jd (U.rd (U.ro (U.jW d (U.je d p)))) (nth (U.zP (U.ro (U.jW d (U.je d p)))) p.toNat)).length:Int)-1)<=((U.jd (U.rd (U.ro (U.jW d (U.je d p)))) (nth (U.zP (U.ro (U.jW d (U.je d p)))) p.toNat)).length:Int);omega
  .have e:(x:Int)<(((U.jd (U.rd (U.ro (U.jW d (U.je d p)))) (nth (U.zP (U.ro (U.jW d (U.je d p)))) p.toNat)).take ((max 0 (((U.jd (U.rd (U.ro (U.jW d (U.je d p)))) (nth (U.zP (U.ro (U.jW d (U.je d p)))) p.toNat)).length:Int)-1)).toNat-Int.toNat 0)).length:Int):=of_decide_eq_true e;rw[s a] at e;have y:=c _ (L.mem_nth (l:=U.yR d p) (i:=x) (by omega));have z:=c _ (L.mem_nth (l:=U.yR d p) (i:=x+1) (by omega));have A:=jtf d (U.yR d p) x;have t:((x:Int)+1).toNat=x+1:=(by omega);refine⟨by omega,?_,L.in64 (by omega) (by omega),by omega,?_,m,?_,?_,?_,L.in64 (by omega) (by omega),x+1,⟨⟨by simp,?_,trivial⟩,trivial⟩,?_,?_⟩
   .show(x:Int)<((U.jd (U.rd (U.ro (U.jW d (U.je d p)))) (nth (U.zP (U.ro (U.jW d (U.je d p)))) p.toNat)).length:Int);rw[n];omega
   .show(x:Int)+1<((U.jd (U.rd (U.ro (U.jW d (U.je d p)))) (nth (U.zP (U.ro (U.jW d (U.je d p)))) p.toNat)).length:Int);rw[n];omega
   .show U.joF (U.rd (U.ro (U.jW d (U.je d p))));rw[f];exact j.may.1
   .show U.qc (U.rd (U.ro (U.jW d (U.je d p)))) (nth (U.jd (U.rd (U.ro (U.jW d (U.je d p)))) (nth (U.zP (U.ro (U.jW d (U.je d p)))) p.toNat)) x);rw[a,f];exact y
   .show U.qc (U.rd (U.ro (U.jW d (U.je d p)))) (nth (U.jd (U.rd (U.ro (U.jW d (U.je d p)))) (nth (U.zP (U.ro (U.jW d (U.je d p)))) p.toNat)) ((x:Int)+1).toNat);rw[a,f,t];exact z
   .show min (U.w9 d (U.jd (U.rd (U.ro (U.jW d (U.je d p)))) (nth (U.zP (U.ro (U.jW d (U.je d p)))) p.toNat)) x) (U.kP (U.rd (U.ro (U.jW d (U.je d p)))) (nth (U.jd (U.rd (U.ro (U.jW d (U.je d p)))) (nth (U.zP (U.ro (U.jW d (U.je d p)))) p.toNat)) x) (nth (U.jd (U.rd (U.ro (U.jW d (U.je d p)))) (nth (U.zP (U.ro (U.jW d (U.je d p)))) p.toNat)) ((x:Int)+1).toNat))=U.w9 d (U.jd (U.rd (U.ro (U.jW d (U.je d p)))) (nth (U.zP (U.ro (U.jW d (U.je d p)))) p.toNat)) (x+1);rw[a,f,t,A]
   .show x+1<=(U.jd (U.rd (U.ro (U.jW d (U.je d p)))) (nth (U.zP (U.ro (U.jW d (U.je d p)))) p.toNat)).length-1;rw[a];omega
   .show(U.jd (U.rd (U.ro (U.jW d (U.je d p)))) (nth (U.zP (U.ro (U.jW d (U.je d p)))) p.toNat)).length-1-(x+1)<(U.jd (U.rd (U.ro (U.jW d (U.je d p)))) (nth (U.zP (U.ro (U.jW d (U.je d p)))) p.toNat)).length-1-x;rw[a];omega
  .have e:¬(x:Int)<(((U.jd (U.rd (U.ro (U.jW d (U.je d p)))) (nth (U.zP (U.ro (U.jW d (U.je d p)))) p.toNat)).take ((max 0 (((U.jd (U.rd (U.ro (U.jW d (U.je d p)))) (nth (U.zP (U.ro (U.jW d (U.je d p)))) p.toNat)).length:Int)-1)).toNat-Int.toNat 0)).length:Int):=of_decide_eq_false e;rw[s a] at e;have q:x<=(U.jd (U.rd (U.ro (U.jW d (U.je d p)))) (nth (U.zP (U.ro (U.jW d (U.je d p)))) p.toNat)).length-1:=q;rw[a] at q;have r:x=(U.yR d p).length-1:=(by omega);subst r;show(U.jd (U.rd (U.ro (U.jW d (U.je d p)))) (nth (U.zP (U.ro (U.jW d (U.je d p)))) p.toNat),U.w9 d (U.jd (U.rd (U.ro (U.jW d (U.je d p)))) (nth (U.zP (U.ro (U.jW d (U.je d p)))) p.toNat)) ((U.yR d p).length-1),(0:Int),())=(U.jC d p,U.gU d p,U.jcE d (U.je d p),());rw[a];unfold U.jC U.gU;rw[if_pos h,if_pos h,h]
theorem jtD:zn PR 10 jtn:=wO jux jwG Tryz.func10 (kcC joz (kcC ya (kcC yZ kcN))) (koC jot koN)
end Go.X
namespace Go.X
open Go.Proofs
theorem jdb {l:List Int} (h:∀p∈l,0<=p/\p<8):∀n,n<=l.length->BT.Set' (U.wl l n)/\∀q,BT.has (U.wl l n) q=true->q<8
 |0,_=>⟨BT.zero_set,fun q a=>by rw[show U.wl l 0=0 from rfl,BT.has_zero] at a;cases a⟩
 |n+1,d=>by
  have b:=jdb h n (by omega)
  have e:=h _ (L.mem_nth (l:=l) (i:=n) (by omega))
  have c:BT.Set' ((2:Int)^(nth l n).toNat):=BT.two_set (by omega)
  rw[jbX (by omega),gZ]
  refine⟨BT.bor_set b.1 c,fun q a=> ?_⟩
  rw[BT.has_bor b.1 c,jEp,BT.has_two,decide_eq_true_eq] at a
  rcases a with a|a
  .exact b.2 q a
  .omega
end Go.X
namespace Go.X
open Go.Proofs
abbrev tSe:Ty:= .st [.ptr tRo,.slice (.slice .int),.slice .int,.slice .int,.int,.bool]
abbrev jC1:Sh:= .box 87 [.dat (.ptr tRo),.row 34 (.slice .int) .unk,.row 3 .int .no,.row 3 .int .unk,.dat .int,.dat .bool]
abbrev SeD:Type:=Option RoD×List (List Int)×List Int×List Int×Int×Bool×Unit
abbrev StD:Type:=List Int×List Int×Int×Bool
namespace U
def kQ (ts:List Int) (p:Int) (n:Nat):List Int:=((List.range n).filter (fun i=>decide (vf (nth ts i/2^p.toNat) 1=1))).map (fun(i:Nat)=>(i:Int))
def vw (r:RoD) (ts:List Int) (b n:Nat):Bool:=(List.range n).all (fun p=>jaV r (p:Int) (kQ ts (p:Int) (b+1)))
def w5 (r:RoD) (ch:List (List Int)):Nat->Nat->Int->StD->StD
 |0,_,_,x=>x
 |k+1,b,fee,x=>
  if(x.2.2.2&&decide (x.2.2.1<=fee))=true then x
  else if b=(jq (rd r)).length then(x.1,x.1,fee,true)
  else(nth ch b).foldl (fun x t=>if vw r (x.1.set b t) b (zP r).length=true then w5 r ch k (b+1) (fee+vK (rd r) t) (x.1.set b t,x.2) else(x.1.set b t,x.2)) x
def jlT (r:RoD) (ch:List (List Int)) (k b:Nat) (fee:Int) (x:StD) (t:Int):StD:=
 if vw r (x.1.set b t) b (zP r).length=true then w5 r ch k (b+1) (fee+vK (rd r) t) (x.1.set b t,x.2) else(x.1.set b t,x.2)
def jm (r:RoD) (ch:List (List Int)) (k b:Nat) (fee:Int) (x:StD) (n:Nat):StD:=((nth ch b).take n).foldl (jlT r ch k b fee) x
def jk (s:SeD):StD:=(s.2.2.1,s.2.2.2.1,s.2.2.2.2.1,s.2.2.2.2.2.1)
def qU (s:SeD) (x:StD):SeD:=(s.1,s.2.1,x.1,x.2.1,x.2.2.1,x.2.2.2,())
def okCh (d:DyD) (ch:List (List Int)):Prop:=ch.length=(jq d).length/\∀l∈ch,∀t∈l,0<=t/\t<256
def jtF (k:Nat) (s:SeD) (b fee:Int):Prop:=s.1.isSome=true/\joE (ro s.1)/\(zP (ro s.1)).length=(jl (jj (rd (ro s.1)))).length/\okCh (rd (ro s.1)) s.2.1/\s.2.2.1.length=(jq (rd (ro s.1))).length/\
 (0<=b/\b<=((jq (rd (ro s.1))).length:Int)/\((jq (rd (ro s.1))).length:Int)<b+k)/\0<=fee/\fee<=8000*b
end U
def v7:zH:=⟨[.own (.cl (.row 3 .int .no)) true],[rwI],fun d=>[d.1.length<=100000],fun d=>((d.1,()),(d.1,()))⟩
def jd7:Prop:=∀(d:List Int×Unit),d.1.length<=100000->(false=true->([],())=d/\d=d)/\(false=false->(0+d.1.length)*8<=140737488355328/\([]++d.1,())=d/\d=d)
def qO (k:Nat):zH:=⟨[.own jC1 true,.val .int,.val .int],[],fun d=>[U.jtF k d.1 d.2.1 d.2.2.1],fun d=>((),(U.qU d.1 (U.w5 (U.ro d.1.1) d.1.2.1 k d.2.1.toNat d.2.2.1 (U.jk d.1)),()))⟩
def jhu (k:Nat):Ann:=fun r=>match r with
 |4=>some fun σ=>{X:=Nat,sl:=fun i=>[(58,.dat .int (i:Int)),(53,.any),(55,.any)],ob:=fun i=>[(1000000,some (.box 87 false (((bx σ 1000000).set 4 (.dat .int (U.jm (U.ro (gb tSe σ 1000000).1) (gb tSe σ 1000000).2.1 k (gd .int σ 1).toNat (gd .int σ 2) (U.jk (gb tSe σ 1000000)) i).2.2.1)).set 5 (.dat .bool (U.jm (U.ro (gb tSe σ 1000000).1) (gb tSe σ 1000000).2.1 k (gd .int σ 1).toNat (gd .int σ 2) (U.jk (gb tSe σ 1000000)) i).2.2.2)))),(400002,some (.row 3 .int false .no (U.jm (U.ro (gb tSe σ 1000000).1) (gb tSe σ 1000000).2.1 k (gd .int σ 1).toNat (gd .int σ 2) (U.jk (gb tSe σ 1000000)) i).1)),(400003,some (.row 3 .int false .unk (U.jm (U.ro (gb tSe σ 1000000).1) (gb tSe σ 1000000).2.1 k (gd .int σ 1).toNat (gd .int σ 2) (U.jk (gb tSe σ 1000000)) i).2.1))],inv:=fun i=>i<=(nth (gb tSe σ 1000000).2.1 (gd .int σ 1).toNat).length/\(U.jm (U.ro (gb tSe σ 1000000).1) (gb tSe σ 1000000).2.1 k (gd .int σ 1).toNat (gd .int σ 2) (U.jk (gb tSe σ 1000000)) i).1.length=(gb tSe σ 1000000).2.2.1.length,mu:=fun i=>(nth (gb tSe σ 1000000).2.1 (gd .int σ 1).toNat).length-i}
 |8=>some fun σ=>{X:=Nat,sl:=fun p=>[(77,.dat .int (p:Int))],ob:=fun _=>[],inv:=fun p=>p<=(U.zP (U.ro (gb tSe σ 1000000).1)).length/\U.vw (U.ro (gb tSe σ 1000000).1) (gr .int σ 400002) (gd .int σ 1).toNat p=true,mu:=fun p=>(U.zP (U.ro (gb tSe σ 1000000).1)).length-p}
 |12=>some fun σ=>{X:=Nat,sl:=fun i=>[(88,.dat .int (i:Int)),(9,.own 9 .int)],ob:=fun i=>[(9,some (.row 3 .int false .yes (U.kQ (gr .int σ 400002) (gd .int σ 8) i)))],inv:=fun i=>i<=(gd .int σ 1).toNat+1,mu:=fun i=>(gd .int σ 1).toNat+1-i}
 |_=>none
def jiD:Prop:=∀k:Nat,jtG (ctx 125 [(76,jbd),(49,jbc)] [(75,v7),(42,qO k)]) (jhu k) Tryz.f42 (zD Tryz.f42) (qO (k+1))
abbrev q101_1 (d:(Option RoD×List (List Int)×List Int×List Int×Int×Bool×Unit)×Int×Int×Unit)(k:Nat)(x:Nat):=(U.jm (U.ro d.1.1) d.1.2.1 k d.2.1.toNat d.2.2.1 (U.jk d.1) x)
abbrev q101_3 (d:(Option RoD×List (List Int)×List Int×List Int×Int×Bool×Unit)×Int×Int×Unit)(k:Nat)(a:Nat):=(U.jm (U.ro d.1.1) d.1.2.1 k d.2.1.toNat d.2.2.1 (U.jk d.1) a)
abbrev q101_4 (d:(Option RoD×List (List Int)×List Int×List Int×Int×Bool×Unit)×Int×Int×Unit):=(jH ((((0:Int),[],[],()),[],[],(0:Int),(0:Int),[],()),[],[],[],()) d.1.1)
abbrev q101_5 (d:(Option RoD×List (List Int)×List Int×List Int×Int×Bool×Unit)×Int×Int×Unit):=(nth d.1.2.1 d.2.1.toNat)
abbrev q101_2 (d:(Option RoD×List (List Int)×List Int×List Int×Int×Bool×Unit)×Int×Int×Unit)(k:Nat)(x:Nat):=((q101_1 d k x).1.set d.2.1.toNat (nth (q101_5 d) (x:Int).toNat))
abbrev q101_6 (d:(Option RoD×List (List Int)×List Int×List Int×Int×Bool×Unit)×Int×Int×Unit)(k:Nat)(x:Nat):=(d.1.1,d.1.2.1,(q101_1 d k x).1.set d.2.1.toNat (nth (q101_5 d) (x:Int).toNat),(q101_1 d k x).2.1,(q101_1 d k x).2.2.1,(q101_1 d k x).2.2.2,())
abbrev q101_0 (d:(Option RoD×List (List Int)×List Int×List Int×Int×Bool×Unit)×Int×Int×Unit)(k:Nat)(x:Nat):=(U.qU (q101_6 d k x) (U.w5 (U.ro d.1.1) d.1.2.1 k (d.2.1+1).toNat (d.2.2.1+U.vK (U.rd (U.ro d.1.1)) (nth (q101_5 d) (x:Int).toNat)) (U.jk (q101_6 d k x))))
abbrev q101_7 (d:(Option RoD×List (List Int)×List Int×List Int×Int×Bool×Unit)×Int×Int×Unit)(k:Nat):=(U.qU d.1 (U.w5 (U.ro d.1.1) d.1.2.1 (k+1) d.2.1.toNat d.2.2.1 (U.jk d.1)),())
def jaw:Prop:=∀(k:Nat) (d:(Option RoD×List (List Int)×List Int×List Int×Int×Bool×Unit)×Int×Int×Unit),U.jtF (k+1) d.1 d.2.1 d.2.2.1->((d.1.2.2.2.2.2.1&&decide (d.1.2.2.2.2.1<=d.2.2.1))=true->()=()/\(d.1,())=(q101_7 d k))/\((d.1.2.2.2.2.2.1&&decide (d.1.2.2.2.2.1<=d.2.2.1))=false->d.1.1.isSome=true/\((q101_4 d).1.2.2.1.length<4611686018427387904->(decide (d.2.1=(↑(q101_4 d).1.2.2.1.length:Int))=true->d.1.2.2.1.length<=100000/\()=()/\((d.1.1,d.1.2.1,d.1.2.2.1,d.1.2.2.1,d.2.2.1,true,()),())=(q101_7 d k))/\(decide (d.2.1=(↑(q101_4 d).1.2.2.1.length:Int))=false->0<=d.2.1/\d.2.1<(d.1.2.1.length:Int)/\((q101_5 d).length<4611686018427387904->(∃(x:Nat),((0=(x:Int)/\True)/\(d.1.1=d.1.1/\True/\True/\True/\d.1.2.2.2.2.1=(q101_1 d k x).2.2.1/\d.1.2.2.2.2.2.1=(q101_1 d k x).2.2.2/\True)/\d.1.2.2.1=(q101_1 d k x).1/\d.1.2.2.2.1=(q101_1 d k x).2.1/\True)/\x<=(q101_5 d).length/\(q101_1 d k x).1.length=d.1.2.2.1.length)/\∀(x:Nat),x<=(q101_5 d).length/\(q101_1 d k x).1.length=d.1.2.2.1.length->(decide ((x:Int)<(↑(q101_5 d).length:Int))=true->0<=(x:Int)/\(x:Int)<(↑(q101_5 d).length:Int)/\0<=d.2.1/\d.2.1<(↑(q101_1 d k x).1.length:Int)/\d.1.1.isSome=true/\((q101_4 d).2.2.1.length<4611686018427387904->(∃(a:Nat),((0=(a:Int)/\True)/\True)/\a<=(U.zP (U.ro d.1.1)).length/\U.vw (U.ro d.1.1) (q101_2 d k x) d.2.1.toNat a=true)/\∀(a:Nat),a<=(U.zP (U.ro d.1.1)).length/\U.vw (U.ro d.1.1) (q101_2 d k x) d.2.1.toNat a=true->(decide ((a:Int)<(↑(q101_4 d).2.2.1.length:Int))=true->jA (d.2.1+1)/\(0:Int)<=0/\0<=d.2.1+1/\d.2.1+1<=(↑(q101_2 d k x).length:Int)/\((d.2.1+1).toNat-Int.toNat 0<4611686018427387904->(∃(b:Nat),((0=(b:Int)/\True/\True)/\U.kQ (q101_2 d k x) (a:Int) b=[]/\True)/\b<=d.2.1.toNat+1)/\∀(b:Nat),b<=d.2.1.toNat+1->(decide ((b:Int)<(↑((d.2.1+1).toNat-Int.toNat 0):Int))=true->0<=(b:Int)/\(b:Int)<(↑((d.2.1+1).toNat-Int.toNat 0):Int)/\0<=(a:Int)/\(a:Int)<=64/\(decide (vf (nth (q101_2 d k x) (Int.toNat 0+(b:Int).toNat)/(2:Int)^(a:Int).toNat) (1:Int)=1)=true->((U.kQ (q101_2 d k x) (a:Int) b).length+[(b:Int)].length)*8<=140737488355328/\jA ((b:Int)+1)/\∃(c:Nat),(((b:Int)+1=(c:Int)/\True/\True)/\U.kQ (q101_2 d k x) (a:Int) b++[(b:Int)]=U.kQ (q101_2 d k x) (a:Int) c/\True)/\c<=d.2.1.toNat+1/\d.2.1.toNat+1-c<d.2.1.toNat+1-b)/\(decide (vf (nth (q101_2 d k x) (Int.toNat 0+(b:Int).toNat)/(2:Int)^(a:Int).toNat) (1:Int)=1)=false->jA ((b:Int)+1)/\∃(c:Nat),((True/\(b:Int)+1=(c:Int)/\True)/\U.kQ (q101_2 d k x) (a:Int) b=U.kQ (q101_2 d k x) (a:Int) c/\True)/\c<=d.2.1.toNat+1/\d.2.1.toNat+1-c<d.2.1.toNat+1-b))/\(decide ((b:Int)<(↑((d.2.1+1).toNat-Int.toNat 0):Int))=false->d.1.1.isSome=true/\U.joE (U.ro d.1.1)/\U.jsi (U.rd (U.ro d.1.1)) (a:Int)/\U.jiL (U.rd (U.ro d.1.1)) (U.kQ (q101_2 d k x) (a:Int) b)/\((!U.jaV (U.ro d.1.1) (a:Int) (U.kQ (q101_2 d k x) (a:Int) b))=true->jA ((x:Int)+1)/\∃(c:Nat),(((x:Int)+1=(c:Int)/\True)/\(q101_1 d k x).2.1=(q101_3 d k c).2.1/\(d.1.1=d.1.1/\True/\True/\True/\(q101_1 d k x).2.2.1=(q101_3 d k c).2.2.1/\(q101_1 d k x).2.2.2=(q101_3 d k c).2.2.2/\True)/\(q101_1 d k x).1.set d.2.1.toNat (nth (q101_5 d) (x:Int).toNat)=(q101_3 d k c).1/\True)/\(c<=(q101_5 d).length/\(q101_3 d k c).1.length=d.1.2.2.1.length)/\(q101_5 d).length-c<(q101_5 d).length-x)/\((!U.jaV (U.ro d.1.1) (a:Int) (U.kQ (q101_2 d k x) (a:Int) b))=false->jA ((a:Int)+1)/\∃(c:Nat),(((a:Int)+1=(c:Int)/\True)/\True)/\(c<=(U.zP (U.ro d.1.1)).length/\U.vw (U.ro d.1.1) (q101_2 d k x) d.2.1.toNat c=true)/\(U.zP (U.ro d.1.1)).length-c<(U.zP (U.ro d.1.1)).length-a))))/\(decide ((a:Int)<(↑(q101_4 d).2.2.1.length:Int))=false->jA (d.2.1+1)/\d.1.1.isSome=true/\U.ju (U.jj (U.rd (U.ro d.1.1)))=true/\0<=nth (q101_5 d) (x:Int).toNat/\nth (q101_5 d) (x:Int).toNat<=1000000/\jA (d.2.2.1+U.vK (U.rd (U.ro d.1.1)) (nth (q101_5 d) (x:Int).toNat))/\U.jtF k (q101_6 d k x) (d.2.1+1) (d.2.2.1+U.vK (U.rd (U.ro d.1.1)) (nth (q101_5 d) (x:Int).toNat))/\jA ((x:Int)+1)/\∃(c:Nat),(((x:Int)+1=(c:Int)/\True)/\((q101_0 d k x).1=d.1.1/\True/\True/\True/\(q101_0 d k x).2.2.2.2.1=(q101_3 d k c).2.2.1/\(q101_0 d k x).2.2.2.2.2.1=(q101_3 d k c).2.2.2/\True)/\(q101_0 d k x).2.1=d.1.2.1/\(q101_0 d k x).2.2.2.1=(q101_3 d k c).2.1/\(q101_0 d k x).2.2.1=(q101_3 d k c).1/\True)/\(c<=(q101_5 d).length/\(q101_3 d k c).1.length=d.1.2.2.1.length)/\(q101_5 d).length-c<(q101_5 d).length-x)))/\(decide ((x:Int)<(↑(q101_5 d).length:Int))=false->()=()/\((d.1.1,d.1.2.1,(q101_1 d k x).1,(q101_1 d k x).2.1,(q101_1 d k x).2.2.1,(q101_1 d k x).2.2.2,()),())=(q101_7 d k))))))
theorem jc0:(jiD)=jaw:=by kernel_rfl
end Go.X
namespace Go.X
open Go.Proofs
theorem jf7:jd7:=by
 rintro⟨l,⟨⟩⟩ a;have a:l.length<=100000:=a;exact⟨fun h=>(by cases h),fun _=>⟨by show(0+l.length)*8<=_;omega,rfl,rfl⟩⟩
theorem jeD:wY PR 75 v7:=jk3 jf7 Tryz.func75 kcN koN
theorem jtx (ts:List Int) (p:Int) (n:Nat):U.kQ ts p (n+1)=U.kQ ts p n++(if decide (vf (nth ts n/2^p.toNat) 1=1)=true then[(n:Int)] else[]):=by
 unfold U.kQ;rw[L.range_filter_succ,jD9];by_cases h:decide (vf (nth ts n/2^p.toNat) 1=1)=true
 .rw[if_pos h,if_pos h];rfl
 .rw[if_neg h,if_neg h];rfl
theorem joj (ts:List Int) (p:Int) (n:Nat):(U.kQ ts p n).length<=n:=by
 unfold U.kQ;rw[jEq];exact jDr (List.length_filter_le _ _) (by simp)
theorem jvI {ts:List Int} {p:Int} {n:Nat} {b:Int} (h:b∈U.kQ ts p n):0<=b/\b<(n:Int):=by
 unfold U.kQ at h;obtain⟨i,hi,rfl⟩:=jDP.1 h;have:=jDy.1 (jDC.1 hi).1;omega
theorem jqE {r:RoD} {ts:List Int} {b n:Nat}:U.vw r ts b (n+1)=(U.vw r ts b n&&U.jaV r (n:Int) (U.kQ ts (n:Int) (b+1))):=by
 unfold U.vw;rw[jDW,List.all_append];simp
theorem joi {r:RoD} {ts:List Int} {b n m:Nat} (a:m<n) (h:U.jaV r (m:Int) (U.kQ ts (m:Int) (b+1))=false):U.vw r ts b n=false:=by
 unfold U.vw;rw[jEi];exact⟨m,jDy.2 a,by rw[h];simp⟩
theorem jnE {r:RoD} {ch:List (List Int)} {k b:Nat} {fee:Int} {x:StD} {n:Nat} (h:n<(nth ch b).length):U.jm r ch k b fee x (n+1)=U.jlT r ch k b fee (U.jm r ch k b fee x n) (nth (nth ch b) n):=by
 unfold U.jm;rw[L.take_succ h,jDI];rfl
theorem jnD {r:RoD} {ch:List (List Int)} {k b:Nat} {fee:Int} {x:StD} (a:(x.2.2.2&&decide (x.2.2.1<=fee))=false) (c:b≠(U.jq (U.rd r)).length):U.w5 r ch (k+1) b fee x=U.jm r ch k b fee x (nth ch b).length:=by
 show(if(x.2.2.2&&decide (x.2.2.1<=fee))=true then x else if b=(U.jq (U.rd r)).length then(x.1,x.1,fee,true) else(nth ch b).foldl (U.jlT r ch k b fee) x)=_;rw[a,if_neg (by simp),if_neg c];unfold U.jm;rw[jD7 (jDf _)]
mutual
theorem jxU {r:RoD} {ch:List (List Int)}:∀(k b:Nat) (fee:Int) (x:StD),(U.w5 r ch k b fee x).1.length=x.1.length
 |0,_,_,_=>rfl
 |k+1,b,fee,x=>by
  by_cases a:(x.2.2.2&&decide (x.2.2.1<=fee))=true
  .show(if(x.2.2.2&&decide (x.2.2.1<=fee))=true then x else _).1.length=_
   rw[if_pos a]
  .by_cases c:b=(U.jq (U.rd r)).length
   .show(if(x.2.2.2&&decide (x.2.2.1<=fee))=true then x else if b=(U.jq (U.rd r)).length then(x.1,x.1,fee,true) else _).1.length=_
    rw[if_neg a,if_pos c]
   .rw[jnD (by simpa using a) c]
    exact jlS k b fee x _ (jDf _)
termination_by k=>(k,0)
theorem jlS {r:RoD} {ch:List (List Int)}:∀(k b:Nat) (fee:Int) (x:StD) (n:Nat),n<=(nth ch b).length->(U.jm r ch k b fee x n).1.length=x.1.length
 |_,_,_,_,0,_=>rfl
 |k,b,fee,x,n+1,h=>by
  rw[jnE h]
  have d:=jlS (r:=r) (ch:=ch) k b fee x n (by omega)
  unfold U.jlT
  split
  .rw[jxU k]
   show((U.jm r ch k b fee x n).1.set b _).length=_
   rw[List.length_set,d]
  .show((U.jm r ch k b fee x n).1.set b _).length=_
   rw[List.length_set,d]
termination_by k _ _ _ n=>(k,n+1)
end
theorem jjf:jaw:=by
 unfold jaw q101_7 q101_0 q101_6 q101_2 q101_5 q101_4 q101_3 q101_1;rintro k ⟨s,b,fee,⟨⟩⟩ h0;obtain⟨g,d,Q,⟨M,D⟩,S,⟨V,b1,b2⟩,f0,f1⟩:U.jtF (k+1) s b fee:=h0;obtain⟨B,hB⟩:∃B:Nat,b=(B:Int):=⟨b.toNat,by omega⟩;subst hB;have I:=d.1;have hb4:(U.jq (U.rd (U.ro s.1))).length<=4:=(zb I.2.2).1;have h8:(U.jl (U.jj (U.rd (U.ro s.1)))).length<=8:=(jK I.1).2.2.1;refine⟨fun h=>⟨rfl,?_⟩,fun h=>⟨g,fun _=>⟨fun A=>⟨?_,rfl,?_⟩,fun A=> ?_⟩⟩⟩
 .have h:((U.jk s).2.2.2&&decide ((U.jk s).2.2.1<=fee))=true:=h;have e:U.w5 (U.ro s.1) s.2.1 (k+1) B fee (U.jk s)=U.jk s:=by
   show(if((U.jk s).2.2.2&&decide ((U.jk s).2.2.1<=fee))=true then U.jk s else _)=_;rw[if_pos h]
  show(s,())=(U.qU s (U.w5 (U.ro s.1) s.2.1 (k+1) B fee (U.jk s)),());rw[e];rfl
 .show s.2.2.1.length<=100000;omega
 .have A:(B:Int)=((U.jq (U.rd (U.ro s.1))).length:Int):=of_decide_eq_true A;have h:((U.jk s).2.2.2&&decide ((U.jk s).2.2.1<=fee))=false:=h;have e:U.w5 (U.ro s.1) s.2.1 (k+1) B fee (U.jk s)=(s.2.2.1,s.2.2.1,fee,true):=by
   show(if((U.jk s).2.2.2&&decide ((U.jk s).2.2.1<=fee))=true then U.jk s else if B=(U.jq (U.rd (U.ro s.1))).length then((U.jk s).1,(U.jk s).1,fee,true) else _)=_;rw[h,if_neg (by simp),if_pos (by omega)];rfl
  show((s.1,s.2.1,s.2.2.1,s.2.2.1,fee,true,()),())=(U.qU s (U.w5 (U.ro s.1) s.2.1 (k+1) B fee (U.jk s)),());rw[e];rfl
 have A:¬(B:Int)=((U.jq (U.rd (U.ro s.1))).length:Int):=of_decide_eq_false A;have h:((U.jk s).2.2.2&&decide ((U.jk s).2.2.1<=fee))=false:=h;have hBn:B<(U.jq (U.rd (U.ro s.1))).length:=(by omega);have C:=jnD (r:=U.ro s.1) (ch:=s.2.1) (k:=k) (b:=B) (fee:=fee) h (by omega);have u:jA ((B:Int)+1):=L.in64 (by omega) (by omega);have K:0<=(B:Int)+1:=(by omega);refine⟨V,by show(B:Int)<(s.2.1.length:Int);omega,fun E=>⟨⟨0,⟨⟨rfl,trivial⟩,⟨rfl,trivial,trivial,trivial,rfl,rfl,trivial⟩,rfl,rfl,trivial⟩,jDq _,rfl⟩,fun x hx=>⟨fun z=> ?_,fun z=>⟨rfl,?_⟩⟩⟩⟩
 .have z:(x:Int)<((nth s.2.1 B).length:Int):=of_decide_eq_true z;have E:(nth s.2.1 B).length<4611686018427387904:=E;have m:x<(nth s.2.1 B).length:=(by omega);obtain⟨_,F⟩:x<=(nth s.2.1 B).length/\(U.jm (U.ro s.1) s.2.1 k B fee (U.jk s) x).1.length=s.2.2.1.length:=hx;have f:=jnE (r:=U.ro s.1) (ch:=s.2.1) (k:=k) (b:=B) (fee:=fee) (x:=U.jk s) m;have o:=jlS (r:=U.ro s.1) (ch:=s.2.1) k B fee (U.jk s) (x+1) (by omega);have o:(U.jm (U.ro s.1) s.2.1 k B fee (U.jk s) (x+1)).1.length=s.2.2.1.length:=o;have Z:=D _ (L.mem_nth (l:=s.2.1) (i:=B) (by omega)) _ (L.mem_nth m);have up:x+1<=(nth s.2.1 B).length:=m;have W:(nth s.2.1 B).length-(x+1)<(nth s.2.1 B).length-x:=(by omega);have tl:((U.jm (U.ro s.1) s.2.1 k B fee (U.jk s) x).1.set B (nth (nth s.2.1 B) x)).length=(U.jq (U.rd (U.ro s.1))).length:=by
   rw[List.length_set,F,S]
  refine⟨by omega,z,V,by show(B:Int)<((U.jm (U.ro s.1) s.2.1 k B fee (U.jk s) x).1.length:Int);omega,g,fun _=>⟨⟨0,⟨⟨rfl,trivial⟩,trivial⟩,jDq _,rfl⟩,fun p Y=>⟨fun w=>⟨u,jEg 0,K,?_,fun _=>⟨⟨0,⟨⟨rfl,trivial,trivial⟩,rfl,trivial⟩,jDq _⟩,fun j J=>⟨fun t=> ?_,fun t=> ?_⟩⟩⟩,fun w=> ?_⟩⟩⟩
  .show(B:Int)+1<=(((U.jm (U.ro s.1) s.2.1 k B fee (U.jk s) x).1.set B (nth (nth s.2.1 B) x)).length:Int);rw[tl];omega
  .have t:(j:Int)<((((B:Int)+1).toNat-Int.toNat 0:Nat):Int):=of_decide_eq_true t;have H:((B:Int)+1).toNat-Int.toNat 0=B+1:=(by simp only[Int.toNat_zero];omega);rw[H] at t;have w:(p:Int)<((U.zP (U.ro s.1)).length:Int):=of_decide_eq_true w;have J:j<=B+1:=J;have q:=jtx ((U.jm (U.ro s.1) s.2.1 k B fee (U.jk s) x).1.set B (nth (nth s.2.1 B) x)) (p:Int) j;have P:=joj ((U.jm (U.ro s.1) s.2.1 k B fee (U.jk s) x).1.set B (nth (nth s.2.1 B) x)) (p:Int) j;have e0:Int.toNat 0+(j:Int).toNat=j:=(by simp);have X:∀T:Bool,decide (vf (nth ((U.jm (U.ro s.1) s.2.1 k B fee (U.jk s) x).1.set B (nth (nth s.2.1 B) x)) (Int.toNat 0+(j:Int).toNat)/2^(p:Int).toNat) 1=1)=T->decide (vf (nth ((U.jm (U.ro s.1) s.2.1 k B fee (U.jk s) x).1.set B (nth (nth s.2.1 B) x)) j/2^(p:Int).toNat) 1=1)=T:=by
    intro T G;rw[e0] at G;exact G
   refine⟨by omega,by show(j:Int)<((((B:Int)+1).toNat-Int.toNat 0:Nat):Int);rw[H];exact t,by omega,by omega,fun a=>⟨?_,L.in64 (by omega) (by omega),j+1,⟨⟨by simp,trivial,trivial⟩,?_,trivial⟩,by show j+1<=B+1;omega,by show B+1-(j+1)<B+1-j;omega⟩,fun a=>⟨L.in64 (by omega) (by omega),j+1,⟨⟨trivial,by simp,trivial⟩,?_,trivial⟩,by show j+1<=B+1;omega,by show B+1-(j+1)<B+1-j;omega⟩⟩
   .show((U.kQ ((U.jm (U.ro s.1) s.2.1 k B fee (U.jk s) x).1.set B (nth (nth s.2.1 B) x)) (p:Int) j).length+1)*8<=140737488355328;omega
   .rw[X _ a,if_pos rfl] at q;exact q.symm
   .rw[X _ a,if_neg (by simp),jDF] at q;exact q.symm
  .have t:¬(j:Int)<((((B:Int)+1).toNat-Int.toNat 0:Nat):Int):=of_decide_eq_false t;have H:((B:Int)+1).toNat-Int.toNat 0=B+1:=(by simp only[Int.toNat_zero];omega);rw[H] at t;have w:(p:Int)<((U.zP (U.ro s.1)).length:Int):=of_decide_eq_true w;have J:j<=B+1:=J;have N:j=B+1:=(by omega);subst N;have P:=joj ((U.jm (U.ro s.1) s.2.1 k B fee (U.jk s) x).1.set B (nth (nth s.2.1 B) x)) (p:Int) (B+1);obtain⟨_,y⟩:p<=(U.zP (U.ro s.1)).length/\U.vw (U.ro s.1) ((U.jm (U.ro s.1) s.2.1 k B fee (U.jk s) x).1.set B (nth (nth s.2.1 B) x)) B p=true:=Y;refine⟨g,d,⟨by omega,by show(p:Int)<((U.jl (U.jj (U.rd (U.ro s.1)))).length:Int);omega⟩,⟨by show(U.kQ ((U.jm (U.ro s.1) s.2.1 k B fee (U.jk s) x).1.set B (nth (nth s.2.1 B) x)) (p:Int) (B+1)).length<=12;omega,fun c hc=> ?_⟩,fun a=> ?_,fun a=> ?_⟩
   .have:=jvI hc;exact⟨this.1,by show c<((U.jq (U.rd (U.ro s.1))).length:Int);omega⟩
   .have a:(!U.jaV (U.ro s.1) (p:Int) (U.kQ ((U.jm (U.ro s.1) s.2.1 k B fee (U.jk s) x).1.set B (nth (nth s.2.1 B) x)) (p:Int) (B+1)))=true:=a;have a:U.jaV (U.ro s.1) (p:Int) (U.kQ ((U.jm (U.ro s.1) s.2.1 k B fee (U.jk s) x).1.set B (nth (nth s.2.1 B) x)) (p:Int) (B+1))=false:=(by simpa using a);have O:=joi (n:=(U.zP (U.ro s.1)).length) (by omega) a;have e:U.jm (U.ro s.1) s.2.1 k B fee (U.jk s) (x+1)=((U.jm (U.ro s.1) s.2.1 k B fee (U.jk s) x).1.set B (nth (nth s.2.1 B) x),(U.jm (U.ro s.1) s.2.1 k B fee (U.jk s) x).2):=by
     rw[f];unfold U.jlT;rw[O,if_neg (by simp)]
    exact⟨L.in64 (by omega) (by omega),x+1,⟨⟨by simp,trivial⟩,congrArg (·.2.1) e.symm,⟨rfl,trivial,trivial,trivial,congrArg (·.2.2.1) e.symm,congrArg (·.2.2.2) e.symm,trivial⟩,congrArg (·.1) e.symm,trivial⟩,⟨up,o⟩,W⟩
   .have a:(!U.jaV (U.ro s.1) (p:Int) (U.kQ ((U.jm (U.ro s.1) s.2.1 k B fee (U.jk s) x).1.set B (nth (nth s.2.1 B) x)) (p:Int) (B+1)))=false:=a;have a:U.jaV (U.ro s.1) (p:Int) (U.kQ ((U.jm (U.ro s.1) s.2.1 k B fee (U.jk s) x).1.set B (nth (nth s.2.1 B) x)) (p:Int) (B+1))=true:=(by simpa using a);refine⟨L.in64 (by omega) (by omega),p+1,⟨⟨by simp,trivial⟩,trivial⟩,⟨by show p+1<=(U.zP (U.ro s.1)).length;omega,?_⟩,by show(U.zP (U.ro s.1)).length-(p+1)<(U.zP (U.ro s.1)).length-p;omega⟩;show U.vw (U.ro s.1) ((U.jm (U.ro s.1) s.2.1 k B fee (U.jk s) x).1.set B (nth (nth s.2.1 B) x)) B (p+1)=true;rw[jqE,y,a];rfl
  .have w:¬(p:Int)<((U.zP (U.ro s.1)).length:Int):=of_decide_eq_false w;obtain⟨hp1,y⟩:p<=(U.zP (U.ro s.1)).length/\U.vw (U.ro s.1) ((U.jm (U.ro s.1) s.2.1 k B fee (U.jk s) x).1.set B (nth (nth s.2.1 B) x)) B p=true:=Y;have R:p=(U.zP (U.ro s.1)).length:=(by omega);subst R;have v:=jmS I.1 (nth (nth s.2.1 B) x) _ (jDf _);have v:0<=U.vK (U.rd (U.ro s.1)) (nth (nth s.2.1 B) x)/\U.vK (U.rd (U.ro s.1)) (nth (nth s.2.1 B) x)<=1000*((U.jl (U.jj (U.rd (U.ro s.1)))).length:Int):=v;have eB:((B:Int)+1).toNat=B+1:=(by omega);have e:U.jm (U.ro s.1) s.2.1 k B fee (U.jk s) (x+1)=U.w5 (U.ro s.1) s.2.1 k ((B:Int)+1).toNat (fee+U.vK (U.rd (U.ro s.1)) (nth (nth s.2.1 B) x)) ((U.jm (U.ro s.1) s.2.1 k B fee (U.jk s) x).1.set B (nth (nth s.2.1 B) x),(U.jm (U.ro s.1) s.2.1 k B fee (U.jk s) x).2):=by
    rw[f,eB];unfold U.jlT;rw[if_pos y]
   refine⟨u,g,I.1,Z.1,by show nth (nth s.2.1 B) x<=1000000;have:=Z.2;omega,?_,⟨g,d,Q,⟨M,D⟩,tl,⟨by omega,by show(B:Int)+1<=((U.jq (U.rd (U.ro s.1))).length:Int);omega,by show((U.jq (U.rd (U.ro s.1))).length:Int)<(B:Int)+1+(k:Int);omega⟩,?_,?_⟩,L.in64 (by omega) (by omega),x+1,⟨⟨by simp,trivial⟩,⟨rfl,trivial,trivial,trivial,congrArg (·.2.2.1) e.symm,congrArg (·.2.2.2) e.symm,trivial⟩,rfl,congrArg (·.2.1) e.symm,congrArg (·.1) e.symm,trivial⟩,⟨up,o⟩,W⟩
   .show jA (fee+U.vK (U.rd (U.ro s.1)) (nth (nth s.2.1 B) x));exact L.in64 (by omega) (by omega)
   .show 0<=fee+U.vK (U.rd (U.ro s.1)) (nth (nth s.2.1 B) x);omega
   .show fee+U.vK (U.rd (U.ro s.1)) (nth (nth s.2.1 B) x)<=8000*((B:Int)+1);omega
 .have z:¬(x:Int)<((nth s.2.1 B).length:Int):=of_decide_eq_false z;have hx1:x<=(nth s.2.1 B).length:=hx.1;have m:x=(nth s.2.1 B).length:=(by omega);subst m;show((s.1,s.2.1,(U.jm (U.ro s.1) s.2.1 k B fee (U.jk s) (nth s.2.1 B).length).1,(U.jm (U.ro s.1) s.2.1 k B fee (U.jk s) (nth s.2.1 B).length).2.1,(U.jm (U.ro s.1) s.2.1 k B fee (U.jk s) (nth s.2.1 B).length).2.2.1,(U.jm (U.ro s.1) s.2.1 k B fee (U.jk s) (nth s.2.1 B).length).2.2.2,()),())=(U.qU s (U.w5 (U.ro s.1) s.2.1 (k+1) B fee (U.jk s)),());rw[C];rfl
theorem jaA:∀k:Nat,wY PR 42 (qO k)
 |0=>⟨wx Tryz.func42 (c:=zD Tryz.f42) (by kernel_rfl) (by kernel_rfl),fun H w vals d bs _ _ _ b=>by
  obtain⟨⟨_,_,_,_,_,⟨e,f,a⟩,_⟩,_⟩:=b
  exact absurd a (by omega)⟩
 |k+1=>jAu (jc0.mpr jjf k) Tryz.func42 (by kernel_rfl) (by kernel_rfl) (by kernel_rfl) (by kernel_rfl) (by kernel_rfl) ⟨fun _=>jbq,fun _=>jiH,trivial⟩ ⟨jeD,jaA k,trivial⟩
end Go.X
namespace Go.X
open Go.Proofs
namespace U
def jAX (r:RoD) (b:Int) (t:Nat):Bool:=decide (jut (t:Int) (nth (y8 r) b.toNat)=0)&&jwN (rd r) b (t:Int)
def qd (r:RoD) (b:Int) (n:Nat):List Int:=((List.range n).filter (jAX r b)).map (fun(t:Nat)=>(t:Int))
def kw (r:RoD) (n:Nat):List (List Int):=(List.range n).map (fun(b:Nat)=>qd r (b:Int) (2^(jl (jj (rd r))).length))
def jCt (d:DyD):StD:=w5 (jfv d) (kw (jfv d) (jq d).length) 5 0 0 (List.replicate (jq d).length 0,zL,0,false)
def jdi (d:DyD):Int:=if jB d=0 then(if(jCt d).2.2.2=true then 0 else 3) else jB d
def jg9 (d:DyD):List Int:=if jdi d=0 then(jCt d).2.1 else[]
def jg8 (d:DyD):Int:=if jdi d=0 then(jCt d).2.2.1 else 0
end U
def jva:jX:=⟨[.val tDy],[.slice .int,.int,.int],false,fun d=>[(U.kg d.1).length<=100000],fun d=>(U.jg9 d.1,U.jg8 d.1,U.jdi d.1,())⟩
def jxt:Ann:=fun r=>match r with
 |6=>some fun σ=>{X:=Nat,sl:=fun i=>[(28,.dat .int (i:Int))],ob:=fun i=>[(24,some (.box 87 false (((bx σ 24).set 1 (.own (jbw 24 1) (.slice .int))).set 3 (.own (jbw 24 3) .int)))),(jbw 24 3,some (.row 3 .int false .yes U.zL)),(jbw 24 1,some (.row 34 (.slice .int) false .yes (U.kw (U.ro (gd (.ptr tRo) σ 5)) i)))],inv:=fun i=>i<=(U.jq (gb tDy σ 1)).length,mu:=fun i=>(U.jq (gb tDy σ 1)).length-i}
 |10=>some fun σ=>{X:=Nat,sl:=fun t=>[(36,.dat .int (t:Int)),(8,.own 8 .int)],ob:=fun t=>[(8,some (.row 3 .int false .yes (U.qd (U.ro (gd (.ptr tRo) σ 5)) (gd .int σ 7) t)))],inv:=fun t=>t<=2^(U.jl (U.jj (gb tDy σ 1))).length,mu:=fun t=>2^(U.jl (U.jj (gb tDy σ 1))).length-t}
 |_=>none
abbrev q102_3 (d:DyD×Unit):=(U.ro (U.zw d.1))
abbrev q102_4 (d:DyD×Unit):=(jH ((((0:Int),[],[],()),[],[],(0:Int),(0:Int),[],()),[],[],[],()) (U.zw d.1))
abbrev q102_1 (a:Nat)(d:DyD×Unit)(x:Nat):=(jut (a:Int) (nth (q102_4 d).2.1 (x:Int).toNat)=0)
abbrev q102_5 (d:DyD×Unit):=(U.zw d.1=U.zw d.1/\True/\True/\True/\(0:Int)=0/\false=false/\True)
abbrev q102_6 (d:DyD×Unit):=(d.1.2.2.1.length:Int)
abbrev q102_2 (d:DyD×Unit)(x:Nat):=(U.zw d.1,U.kw (q102_3 d) x,List.replicate (q102_6 d).toNat (0:Int),U.zL,(0:Int),false,())
abbrev q102_0 (d:DyD×Unit)(x:Nat):=(U.qU (q102_2 d x) (U.w5 (q102_3 d) (U.kw (q102_3 d) x) 5 (Int.toNat 0) (0:Int) (U.jk (q102_2 d x))))
abbrev q102_7 (d:DyD×Unit):=(U.jl (U.jj d.1))
abbrev q102_8 (d:DyD×Unit):=(U.jg9 d.1,U.jg8 d.1,U.jdi d.1,())
abbrev q102_9 (d:DyD×Unit):=(d.1.1.2.1.length:Int)
def juP:Prop:=∀(d:DyD×Unit),(U.kg d.1).length<=100000->(U.kg d.1).length<=100000/\(decide (U.jB d.1≠0)=true->([],(0:Int),U.jB d.1,())=(q102_8 d))/\(decide (U.jB d.1≠0)=false->d.1.2.2.1.length<4611686018427387904->0<=(q102_6 d)/\(q102_6 d)=(q102_6 d)/\(q102_6 d).toNat*8<=140737488355328/\(d.1.2.2.1.length<4611686018427387904->(∃(x:Nat),((0=(x:Int)/\True)/\(q102_5 d)/\U.zL=[]/\U.kw (q102_3 d) x=[]/\True)/\x<=(U.jq d.1).length)/\∀(x:Nat),x<=(U.jq d.1).length->(decide ((x:Int)<(q102_6 d))=true->d.1.1.2.1.length<4611686018427387904->0<=(q102_9 d)/\(q102_9 d)<=64/\jA ((1:Int)*2^(q102_9 d).toNat)/\(∃(a:Nat),((0=(a:Int)/\True/\True)/\U.qd (q102_3 d) (x:Int) a=[]/\True)/\a<=2^(q102_7 d).length)/\∀(a:Nat),a<=2^(q102_7 d).length->(decide ((a:Int)<1*2^(q102_9 d).toNat)=true->(U.zw d.1).isSome=true/\0<=(x:Int)/\(x:Int)<(↑(q102_4 d).2.1.length:Int)/\(decide (q102_1 a d x)=true->(U.zw d.1).isSome=true)/\(decide (q102_1 a d x)=true->U.qc (U.rd (q102_3 d)) (x:Int))/\((decide (q102_1 a d x)&&U.jwN (U.rd (q102_3 d)) (x:Int) (a:Int))=true->((U.qd (q102_3 d) (x:Int) a).length+[(a:Int)].length)*8<=140737488355328/\jA ((a:Int)+1)/\∃(b:Nat),(((a:Int)+1=(b:Int)/\True/\True)/\U.qd (q102_3 d) (x:Int) a++[(a:Int)]=U.qd (q102_3 d) (x:Int) b/\True)/\b<=2^(q102_7 d).length/\2^(q102_7 d).length-b<2^(q102_7 d).length-a)/\((decide (q102_1 a d x)&&U.jwN (U.rd (q102_3 d)) (x:Int) (a:Int))=false->jA ((a:Int)+1)/\∃(b:Nat),((True/\(a:Int)+1=(b:Int)/\True)/\U.qd (q102_3 d) (x:Int) a=U.qd (q102_3 d) (x:Int) b/\True)/\b<=2^(q102_7 d).length/\2^(q102_7 d).length-b<2^(q102_7 d).length-a))/\(decide ((a:Int)<1*2^(q102_9 d).toNat)=false->((U.kw (q102_3 d) x).length+[U.qd (q102_3 d) (x:Int) a].length)*24<=140737488355328/\jA ((x:Int)+1)/\∃(b:Nat),(((x:Int)+1=(b:Int)/\True)/\U.zL=U.zL/\(q102_5 d)/\U.kw (q102_3 d) x++[U.qd (q102_3 d) (x:Int) a]=U.kw (q102_3 d) b/\True)/\b<=(U.jq d.1).length/\(U.jq d.1).length-b<(U.jq d.1).length-x))/\(decide ((x:Int)<(q102_6 d))=false->U.jtF 5 (q102_2 d x) (0:Int) (0:Int)/\((!(q102_0 d x).2.2.2.2.2.1)=true->([],(0:Int),(3:Int),())=(q102_8 d))/\((!(q102_0 d x).2.2.2.2.2.1)=false->((q102_0 d x).2.2.2.1,(q102_0 d x).2.2.2.2.1,(0:Int),())=(q102_8 d)))))
end Go.X
namespace Go.X
open Go.Proofs
theorem juo (r:RoD) (b:Int) (n:Nat):U.qd r b (n+1)=U.qd r b n++(if U.jAX r b n=true then[(n:Int)] else[]):=by
 unfold U.qd;rw[L.range_filter_succ,jD9];by_cases h:U.jAX r b n=true
 .rw[if_pos h,if_pos h];rfl
 .rw[if_neg h,if_neg h];rfl
theorem jxj (r:RoD) (b:Int) (n:Nat):(U.qd r b n).length<=n:=by
 unfold U.qd;rw[jEq];exact jDr (List.length_filter_le _ _) (by simp)
theorem jps {r:RoD} {b:Int} {n:Nat} {t:Int} (h:t∈U.qd r b n):0<=t/\t<(n:Int):=by
 unfold U.qd at h;obtain⟨i,hi,rfl⟩:=jDP.1 h;have:=jDy.1 (jDC.1 hi).1;omega
theorem jxi (r:RoD) (n:Nat):U.kw r (n+1)=U.kw r n++[U.qd r (n:Int) (2^(U.jl (U.jj (U.rd r))).length)]:=by
 unfold U.kw;rw[jDW,jD9];rfl
theorem jsK (r:RoD) (n:Nat):(U.kw r n).length=n:=by unfold U.kw;simp
theorem jzm {n:Nat} (h:n<=8):(2:Nat)^n<=256:=jDr (Nat.pow_le_pow_right (by decide) h) (by decide)
theorem jCu {d:DyD} (hk:U.jB d=0):U.jtF 5 (some (U.jfv d),U.kw (U.jfv d) (U.jq d).length,List.replicate (U.jq d).length 0,U.zL,0,false,()) 0 0:=by
 have c:=jkQ hk;have i:(U.jq d).length<=4:=(zb c.may.1.2.2).1;have h:(U.jl (U.jj d)).length<=8:=(jK c.may.1.1).2.2.1;refine⟨rfl,c.may,c.len,⟨jsK _ _,fun l a t e=> ?_⟩,jEf,⟨jEg 0,by show(0:Int)<=((U.jq d).length:Int);omega,by show((U.jq d).length:Int)<0+((5:Nat):Int);omega⟩,jEg 0,by omega⟩;have a:l∈U.kw (U.jfv d) (U.jq d).length:=a;unfold U.kw at a;obtain⟨b,_,rfl⟩:=jDP.1 a;have:=jps e;have f:=jzm h;have g:(2:Nat)^(U.jl (U.jj (U.rd (U.jfv d)))).length<=256:=f;have:t<((2^(U.jl (U.jj (U.rd (U.jfv d)))).length:Nat):Int):=this.2;refine⟨(jps e).1,by omega⟩
theorem jyF:juP:=by
 unfold juP q102_9 q102_8 q102_7 q102_0 q102_2 q102_6 q102_5 q102_1 q102_4 q102_3;rintro⟨d,⟨⟩⟩ A;refine⟨A,fun h=> ?_,fun h=> ?_⟩
 .have h:U.jB d≠0:=of_decide_eq_true h;have e:U.jdi d=U.jB d:=(by unfold U.jdi;rw[if_neg h]);show([],(0:Int),U.jB d,())=(U.jg9 d,U.jg8 d,U.jdi d,());unfold U.jg9 U.jg8;rw[e,if_neg h,if_neg h]
 have hk:U.jB d=0:=Classical.not_not.1 (of_decide_eq_false h);have m:=jkQ hk;have z:(U.jq d).length<=4:=(zb m.may.1.2.2).1;have y:(U.jl (U.jj d)).length<=8:=(jK m.may.1.1).2.2.1;have s:=jzm y;have l:=jvN hk;have i:U.ro (U.zw d)=U.jfv d:=(by rw[l];rfl);have r:U.rd (U.ro (U.zw d))=d:=(by rw[i];rfl);have q:(U.zw d).isSome=true:=(by rw[l];rfl);have B:(U.y8 (U.ro (U.zw d))).length=(U.jq d).length:=(by rw[i];exact m.may.2);refine fun _=>⟨jDK _,rfl,?_,fun _=>⟨⟨0,⟨⟨rfl,trivial⟩,⟨rfl,trivial,trivial,trivial,rfl,rfl,trivial⟩,rfl,rfl,trivial⟩,jDq _⟩,fun x u=>⟨fun b _=>⟨jDK _,?_,?_,⟨0,⟨⟨rfl,trivial,trivial⟩,rfl,trivial⟩,jDq _⟩,fun t j=>⟨fun a=> ?_,fun a=> ?_⟩⟩,fun b=> ?_⟩⟩⟩
 .show((U.jq d).length:Int).toNat*8<=140737488355328;omega
 .show((U.jl (U.jj d)).length:Int)<=64;omega
 .show jA (1*2^((U.jl (U.jj d)).length:Int).toNat);rw[gZ,jDm];have a:BT.Set' ((2:Int)^(U.jl (U.jj d)).length):=BT.two_set (by omega);unfold BT.Set' at a;exact L.in64 (by omega) (by omega)
 .have b:(x:Int)<((U.jq d).length:Int):=of_decide_eq_true b;have j:t<=2^(U.jl (U.jj d)).length:=j;have a:(t:Int)<1*2^((U.jl (U.jj d)).length:Int).toNat:=of_decide_eq_true a;rw[gZ,jDm,BT.two_nat] at a;have a:t<2^(U.jl (U.jj d)).length:=(by omega);have f:=juo (U.ro (U.zw d)) (x:Int) t;have g:=jxj (U.ro (U.zw d)) (x:Int) t;have w:U.qc (U.rd (U.ro (U.zw d))) (x:Int):=(by rw[r];exact⟨by omega,b⟩);have v:t+1<=2^(U.jl (U.jj d)).length:=(by omega);have p:2^(U.jl (U.jj d)).length-(t+1)<2^(U.jl (U.jj d)).length-t:=(by omega);refine⟨q,by omega,by show(x:Int)<((U.y8 (U.ro (U.zw d))).length:Int);omega,fun _=>q,fun _=>w,fun c=> ?_,fun c=> ?_⟩
  .have c:U.jAX (U.ro (U.zw d)) (x:Int) t=true:=c;refine⟨?_,L.in64 (by omega) (by omega),t+1,⟨⟨by simp,trivial,trivial⟩,?_,trivial⟩,v,p⟩
   .show((U.qd (U.ro (U.zw d)) (x:Int) t).length+1)*8<=140737488355328;omega
   .rw[if_pos c] at f;exact f.symm
  .have c:U.jAX (U.ro (U.zw d)) (x:Int) t=false:=c;refine⟨L.in64 (by omega) (by omega),t+1,⟨⟨trivial,by simp,trivial⟩,?_,trivial⟩,v,p⟩;rw[if_neg (by rw[c];simp),jDF] at f;exact f.symm
 .have b:(x:Int)<((U.jq d).length:Int):=of_decide_eq_true b;have j:t<=2^(U.jl (U.jj d)).length:=j;have a:¬(t:Int)<1*2^((U.jl (U.jj d)).length:Int).toNat:=of_decide_eq_false a;rw[gZ,jDm,BT.two_nat] at a;have n:t=2^(U.jl (U.jj d)).length:=(by omega);have f:=jxi (U.ro (U.zw d)) x;rw[r,<-n] at f;have g:=jsK (U.ro (U.zw d)) x;refine⟨?_,L.in64 (by omega) (by omega),x+1,⟨⟨by simp,trivial⟩,rfl,⟨rfl,trivial,trivial,trivial,rfl,rfl,trivial⟩,f.symm,trivial⟩,by show x+1<=(U.jq d).length;omega,by show(U.jq d).length-(x+1)<(U.jq d).length-x;omega⟩;show((U.kw (U.ro (U.zw d)) x).length+1)*24<=140737488355328;omega
 .have b:¬(x:Int)<((U.jq d).length:Int):=of_decide_eq_false b;have u:x<=(U.jq d).length:=u;have o:x=(U.jq d).length:=(by omega);subst o;have k:U.w5 (U.ro (U.zw d)) (U.kw (U.ro (U.zw d)) (U.jq d).length) 5 (Int.toNat 0) 0 (U.jk (U.zw d,U.kw (U.ro (U.zw d)) (U.jq d).length,List.replicate ((U.jq d).length:Int).toNat 0,U.zL,0,false,()))=U.jCt d:=by
   rw[i,jDm];rfl
  refine⟨?_,fun a=> ?_,fun a=> ?_⟩
  .show U.jtF 5 (U.zw d,U.kw (U.ro (U.zw d)) (U.jq d).length,List.replicate ((U.jq d).length:Int).toNat 0,U.zL,0,false,()) 0 0;rw[i,l,jDm];exact jCu hk
  .have a:(!(U.w5 (U.ro (U.zw d)) (U.kw (U.ro (U.zw d)) (U.jq d).length) 5 (Int.toNat 0) 0 (U.jk (U.zw d,U.kw (U.ro (U.zw d)) (U.jq d).length,List.replicate ((U.jq d).length:Int).toNat 0,U.zL,0,false,()))).2.2.2)=true:=a;rw[k] at a;have a:(U.jCt d).2.2.2=false:=(by simpa using a);have e:U.jdi d=3:=(by unfold U.jdi;rw[if_pos hk,a,if_neg (by simp)]);show([],(0:Int),(3:Int),())=(U.jg9 d,U.jg8 d,U.jdi d,());unfold U.jg9 U.jg8;rw[e];rfl
  .have a:(!(U.w5 (U.ro (U.zw d)) (U.kw (U.ro (U.zw d)) (U.jq d).length) 5 (Int.toNat 0) 0 (U.jk (U.zw d,U.kw (U.ro (U.zw d)) (U.jq d).length,List.replicate ((U.jq d).length:Int).toNat 0,U.zL,0,false,()))).2.2.2)=false:=a;rw[k] at a;have a:(U.jCt d).2.2.2=true:=(by simpa using a);have e:U.jdi d=0:=(by unfold U.jdi;rw[if_pos hk,a,if_pos rfl]);show((U.w5 (U.ro (U.zw d)) (U.kw (U.ro (U.zw d)) (U.jq d).length) 5 (Int.toNat 0) 0 (U.jk (U.zw d,U.kw (U.ro (U.zw d)) (U.jq d).length,List.replicate ((U.jq d).length:Int).toNat 0,U.zL,0,false,()))).2.1,(U.w5 (U.ro (U.zw d)) (U.kw (U.ro (U.zw d)) (U.jq d).length) 5 (Int.toNat 0) 0 (U.jk (U.zw d,U.kw (U.ro (U.zw d)) (U.jq d).length,List.replicate ((U.jq d).length:Int).toNat 0,U.zL,0,false,()))).2.2.1,(0:Int),())=(U.jg9 d,U.jg8 d,U.jdi d,());rw[k];unfold U.jg9 U.jg8;rw[e];rfl
theorem jvW:zn PR 15 jva:=wO jxt jyF Tryz.func15 (kcC jhh kcN) (koC jbr (koC (jaA 5) koN))
end Go.X
namespace Go.X
open Go.Proofs
def jnS:jX:=⟨[.val .int,.val .int,.val .int],[.bool],false,fun _=>[],fun d=>(U.ja d.1 d.2.1 d.2.2.1,())⟩
def jnt:Prop:=∀(d:Int×Int×Int×Unit),(decide (d.2.1<=d.1)&&decide (d.1<=d.2.2.1),())=(U.ja d.1 d.2.1 d.2.2.1,())
def jvb:jX:=⟨[.val .int,.val .int],[.bool],false,fun d=>[0<=d.2.1/\d.2.1<=63],fun d=>(U.vH d.1 d.2.1,())⟩
def juQ:Prop:=∀(d:Int×Int×Unit),0<=d.2.1/\d.2.1<=63->0<=d.2.1/\d.2.1<=18446744073709551615/\0<=d.2.1/\d.2.1<=64/\(decide (vf (d.1/(2:Int)^d.2.1.toNat) (1:Int)=1),())=(U.vH d.1 d.2.1,())
def jnT:jX:=⟨[.val tCr],[.bool],false,fun _=>[],fun d=>(U.ju d.1,())⟩
def jpw:Ann:=fun r=>match r with
 |4=>some fun σ=>{X:=Nat,sl:=fun i=>[(3,.dat .int (i:Int))],ob:=fun _=>[],inv:=fun i=>i<=(U.jl (gb tCr σ 1)).length/\∀j:Nat,j<i->U.y4 (U.la (gb tCr σ 1)) (nth (U.jl (gb tCr σ 1)) j)=true,mu:=fun i=>(U.jl (gb tCr σ 1)).length-i}
 |10=>some fun σ=>{X:=Nat,sl:=fun i=>[(5,.dat .int (i:Int))],ob:=fun _=>[],inv:=fun i=>i<=(U.lv (gb tPe σ 4)).length/\∀j:Nat,j<i->U.ja (nth (U.lv (gb tPe σ 4)) j) 0 5=true,mu:=fun i=>(U.lv (gb tPe σ 4)).length-i}
 |15=>some fun σ=>{X:=Nat,sl:=fun i=>[(6,.dat .int (i:Int))],ob:=fun _=>[],inv:=fun i=>i<=(U.wA (gb tPe σ 4)).length/\∀j:Nat,j<i->U.ja (nth (U.wA (gb tPe σ 4)) j) 0 99=true,mu:=fun i=>(U.wA (gb tPe σ 4)).length-i}
 |20=>some fun σ=>{X:=Nat,sl:=fun i=>[(7,.dat .int (i:Int))],ob:=fun _=>[],inv:=fun i=>i<=(U.kN (gb tCr σ 1)).length/\∀j:Nat,j<i->U.y5 (nth (U.kN (gb tCr σ 1)) j)=true,mu:=fun i=>(U.kN (gb tCr σ 1)).length-i}
 |_=>none
abbrev q105_0 (d:CrD×Unit)(x:Nat):=(nth d.1.2.1 (x:Int).toNat)
abbrev q105_2 (d:CrD×Unit)(x:Nat):=(!U.ja (nth d.1.2.2.1 (x:Int).toNat).1 (1:Int) (5:Int)|| !U.ja (nth d.1.2.2.1 (x:Int).toNat).2.1 (1:Int) (8:Int))
abbrev q105_4 (d:CrD×Unit)(x:Nat):=(↑(q105_0 d x).1.length:Int)
abbrev q105_5 (d:CrD×Unit)(x:Nat):=(↑(q105_0 d x).2.2.2.1.length:Int)
abbrev q105_1 (d:CrD×Unit)(x:Nat):=(decide ((q105_4 d x)≠d.1.1)|| !U.ja (q105_0 d x).2.1 (0:Int) (255:Int)|| !U.ja (q105_0 d x).2.2.1 (0:Int) (255:Int)||decide ((10:Int)<(q105_5 d x))|| !U.ja (q105_0 d x).2.2.2.2.2.1 (0:Int) (1000:Int))
abbrev q105_6 (d:CrD×Unit):=(d.1.2.2.1.length:Int)
abbrev q105_3 (d:CrD×Unit):=(!U.ja d.1.1 (2:Int) (5:Int)||decide (8<(d.1.2.1.length:Int))||decide ((q105_6 d)≠4))
abbrev q105_7 (d:CrD×Unit)(x:Nat):=(U.wA (q105_0 d x))
def jnu:Prop:=∀(d:CrD×Unit),((!!U.ja d.1.1 (2:Int) (5:Int))=true->d.1.2.1.length<4611686018427387904)->((!(!U.ja d.1.1 (2:Int) (5:Int)||decide (8<(d.1.2.1.length:Int))))=true->d.1.2.2.1.length<4611686018427387904)->((q105_3 d)=true->(false,())=(U.ju d.1,()))/\((q105_3 d)=false->(∃(x:Nat),((0=(x:Int)/\True)/\True)/\x<=(U.jl d.1).length/\∀(j:Nat),j<x->U.y4 (U.la d.1) (nth (U.jl d.1) j)=true)/\∀(x:Nat),(x<=(U.jl d.1).length/\∀(j:Nat),j<x->U.y4 (U.la d.1) (nth (U.jl d.1) j)=true)->d.1.2.1.length<4611686018427387904->(decide ((x:Int)<(d.1.2.1.length:Int))=true->0<=(x:Int)/\(x:Int)<(d.1.2.1.length:Int)/\((q105_0 d x).1.length<4611686018427387904->((!(decide ((q105_4 d x)≠d.1.1)|| !U.ja (q105_0 d x).2.1 (0:Int) (255:Int)|| !U.ja (q105_0 d x).2.2.1 (0:Int) (255:Int)))=true->(q105_0 d x).2.2.2.1.length<4611686018427387904)->((q105_1 d x)=true->(false,())=(U.ju d.1,()))/\((q105_1 d x)=false->(∃(b:Nat),((0=(b:Int)/\True)/\True)/\b<=(U.lv (q105_0 d x)).length/\∀(j:Nat),j<b->U.ja (nth (U.lv (q105_0 d x)) j) (0:Int) 5=true)/\∀(b:Nat),(b<=(U.lv (q105_0 d x)).length/\∀(j:Nat),j<b->U.ja (nth (U.lv (q105_0 d x)) j) (0:Int) 5=true)->(q105_0 d x).1.length<4611686018427387904->(decide ((b:Int)<(q105_4 d x))=true->0<=(b:Int)/\(b:Int)<(q105_4 d x)/\((!U.ja (nth (q105_0 d x).1 (b:Int).toNat) (0:Int) (5:Int))=true->(false,())=(U.ju d.1,()))/\((!U.ja (nth (q105_0 d x).1 (b:Int).toNat) (0:Int) (5:Int))=false->jA ((b:Int)+1)/\∃(c:Nat),(((b:Int)+1=(c:Int)/\True)/\True)/\(c<=(U.lv (q105_0 d x)).length/\∀(j:Nat),j<c->U.ja (nth (U.lv (q105_0 d x)) j) (0:Int) 5=true)/\(U.lv (q105_0 d x)).length-c<(U.lv (q105_0 d x)).length-b))/\(decide ((b:Int)<(q105_4 d x))=false->(∃(a:Nat),((0=(a:Int)/\True)/\True)/\a<=(q105_7 d x).length/\∀(j:Nat),j<a->U.ja (nth (q105_7 d x) j) (0:Int) 99=true)/\∀(a:Nat),(a<=(q105_7 d x).length/\∀(j:Nat),j<a->U.ja (nth (q105_7 d x) j) (0:Int) 99=true)->(q105_0 d x).2.2.2.1.length<4611686018427387904->(decide ((a:Int)<(q105_5 d x))=true->0<=(a:Int)/\(a:Int)<(q105_5 d x)/\((!U.ja (nth (q105_0 d x).2.2.2.1 (a:Int).toNat) (0:Int) (99:Int))=true->(false,())=(U.ju d.1,()))/\((!U.ja (nth (q105_0 d x).2.2.2.1 (a:Int).toNat) (0:Int) (99:Int))=false->jA ((a:Int)+1)/\∃(c:Nat),(((a:Int)+1=(c:Int)/\True)/\True)/\(c<=(q105_7 d x).length/\∀(j:Nat),j<c->U.ja (nth (q105_7 d x) j) (0:Int) 99=true)/\(q105_7 d x).length-c<(q105_7 d x).length-a))/\(decide ((a:Int)<(q105_5 d x))=false->jA ((x:Int)+1)/\∃(c:Nat),(((x:Int)+1=(c:Int)/\True)/\True)/\(c<=(U.jl d.1).length/\∀(j:Nat),j<c->U.y4 (U.la d.1) (nth (U.jl d.1) j)=true)/\(U.jl d.1).length-c<(U.jl d.1).length-x)))))/\(decide ((x:Int)<(d.1.2.1.length:Int))=false->(∃(x:Nat),((0=(x:Int)/\True)/\True)/\x<=(U.kN d.1).length/\∀(j:Nat),j<x->U.y5 (nth (U.kN d.1) j)=true)/\∀(x:Nat),(x<=(U.kN d.1).length/\∀(j:Nat),j<x->U.y5 (nth (U.kN d.1) j)=true)->d.1.2.2.1.length<4611686018427387904->(decide ((x:Int)<(q105_6 d))=true->0<=(x:Int)/\(x:Int)<(q105_6 d)/\((!!U.ja (nth d.1.2.2.1 (x:Int).toNat).1 (1:Int) (5:Int))=true->0<=(x:Int))/\((!!U.ja (nth d.1.2.2.1 (x:Int).toNat).1 (1:Int) (5:Int))=true->(x:Int)<(q105_6 d))/\((q105_2 d x)=true->(false,())=(U.ju d.1,()))/\((q105_2 d x)=false->jA ((x:Int)+1)/\∃(c:Nat),(((x:Int)+1=(c:Int)/\True)/\True)/\(c<=(U.kN d.1).length/\∀(j:Nat),j<c->U.y5 (nth (U.kN d.1) j)=true)/\(U.kN d.1).length-c<(U.kN d.1).length-x))/\(decide ((x:Int)<(q105_6 d))=false->(true,())=(U.ju d.1,()))))
def jqf:jX:=⟨[.val tCr,.val tJb],[.bool],false,fun d=>[U.ju d.1=true],fun d=>(U.zB d.1 d.2.1,())⟩
def jpU:Prop:=∀(d:CrD×JbD×Unit),U.ju d.1=true->jA (d.1.1-1)/\(U.ja d.2.1.1 (0:Int) (d.1.1-1)=true->jA (d.1.1-1))/\(U.ja d.2.1.1 (0:Int) (d.1.1-1)&&U.ja d.2.1.2.1 (0:Int) (d.1.1-1)&&decide (d.2.1.1≠d.2.1.2.1)&&U.ja d.2.1.2.2.1 (0:Int) (99:Int)&&U.ja d.2.1.2.2.2.1 (0:Int) (7:Int)&&U.ja d.2.1.2.2.2.2.1 (0:Int) (3:Int)&&U.ja d.2.1.2.2.2.2.2.1 (1:Int) (8:Int),())=(U.zB d.1 d.2.1,())
end Go.X
namespace Go.X
open Go.Proofs
theorem jrg:jnt:=by
 rintro⟨n,a,b,⟨⟩⟩;rfl
theorem jgw:zn PR 44 jnS:=jT jrg Tryz.func44 kcN koN
theorem jyG:juQ:=by
 rintro⟨s,n,⟨⟩⟩ ⟨a,b⟩;have a:0<=n:=a;have b:n<=63:=b;exact⟨a,by show n<=18446744073709551615;omega,a,by show n<=64;omega,rfl⟩
theorem joB:zn PR 13 jvb:=jT jyG Tryz.func13 kcN koN
theorem jyz (c:CrD) (j:JbD):(U.ja (U.jAz j) 0 (U.la c-1)&&U.ja (U.jtP j) 0 (U.la c-1)&&decide (U.jAz j≠U.jtP j)&&U.ja (U.jBm j) 0 99&&U.ja (U.jBl j) 0 7&&U.ja (U.jBk j) 0 3&&U.ja (U.jCz j) 1 8)=U.zB c j:=by
 unfold U.zB U.ja;rw[jDQ];simp only[jDg,decide_eq_true_eq,ne_eq];constructor
 .rintro⟨⟨⟨⟨⟨⟨⟨f,g⟩,h,i⟩,k⟩,l,m⟩,n,o⟩,a,b⟩,d,e⟩;exact⟨f,g,h,i,k,l,m,n,o,a,b,d,e⟩
 .rintro⟨f,g,h,i,k,l,m,n,o,a,b,d,e⟩;exact⟨⟨⟨⟨⟨⟨⟨f,g⟩,h,i⟩,k⟩,l,m⟩,n,o⟩,a,b⟩,d,e⟩
theorem jtZ:jpU:=by
 rintro⟨c,j,⟨⟩⟩ h;have h:U.ju c=true:=h;have d:=jK h;have a:jA (U.la c-1):=L.in64 (by omega) (by omega);refine⟨a,fun _=>a,?_⟩;exact congrArg (fun b=>(b,())) (jyz c j)
theorem jqP:zn PR 60 jqf:=jT jtZ Tryz.func60 (kcC jgw kcN) koN
end Go.X
namespace Go.X
open Go.Proofs
end Go.X
namespace Go.X
open Go.Proofs
end Go.X
namespace Go.X
open Go.Proofs
theorem jya (l:Int) (p:PeD):U.y4 l p=(!(decide (((U.lv p).length:Int)≠l)|| !U.ja (U.fd p) 0 255|| !U.ja (U.cl p) 0 255||decide (10<((U.wA p).length:Int))|| !U.ja (U.fe p) 0 1000)&&((U.lv p).all (fun n=>U.ja n 0 5)&&(U.wA p).all (fun n=>U.ja n 0 99))):=by
 unfold U.y4;congr 1;rw[jDQ];simp only[U.ja,jDH,jDD,decide_eq_false_iff_not,jD5,jDg,decide_eq_true_eq];omega
theorem jhJ (c:CrD):U.ju c=(!(!U.ja (U.la c) 2 5||decide (8<((U.jl c).length:Int))||decide (((U.kN c).length:Int)≠4))&&((U.jl c).all (U.y4 (U.la c))&&(U.kN c).all U.y5)):=by
 unfold U.ju;congr 1;rw[jDQ];simp only[U.ja,jDH,jDD,decide_eq_false_iff_not,jD5,jDg,decide_eq_true_eq];omega
theorem jgg {c:CrD} {x:Nat} (a:x<(U.jl c).length) (h:U.y4 (U.la c) (nth (U.jl c) x)=false):U.ju c=false:=by
 have:(U.jl c).all (U.y4 (U.la c))=false:=jEi.2 ⟨_,L.mem_nth a,by rw[h];simp⟩;rw[jhJ,this];simp
theorem jul {c:CrD} {x:Nat} (a:x<(U.kN c).length) (h:U.y5 (nth (U.kN c) x)=false):U.ju c=false:=by
 have:(U.kN c).all U.y5=false:=jEi.2 ⟨_,L.mem_nth a,by rw[h];simp⟩;rw[jhJ,this];simp
theorem jas {α:Type} [Inhabited α] {l:List α} {p:α->Bool} {x:Nat} (c:¬x<l.length) (h:∀j:Nat,j<x->p (nth l j)=true):l.all p=true:=by
 rw[jDO];intro a b;obtain⟨i,hi,rfl⟩:=L.mem_iff.1 b;exact h i (by omega)
theorem jbj {c:CrD} (h:U.ju c=false):(false,())=(U.ju c,()):=by rw[h]
theorem jrh:jnu:=by
 unfold jnu q105_7 q105_3 q105_6 q105_1 q105_5 q105_4 q105_2 q105_0;rintro⟨c,⟨⟩⟩ _ _;refine⟨fun h=> ?_,fun h=> ?_⟩
 .have h:(!U.ja (U.la c) 2 5||decide (8<((U.jl c).length:Int))||decide (((U.kN c).length:Int)≠4))=true:=h;refine jbj (c:=c) ?_;rw[jhJ,h];rfl
 have B:(!U.ja (U.la c) 2 5||decide (8<((U.jl c).length:Int))||decide (((U.kN c).length:Int)≠4))=false:=h;clear h;refine⟨⟨0,⟨⟨rfl,trivial⟩,trivial⟩,jDq _,fun j k=>by omega⟩,fun x s r=>⟨fun h=> ?_,fun h=> ?_⟩⟩
 .have r:(U.jl c).length<4611686018427387904:=r;have h:(x:Int)<((U.jl c).length:Int):=of_decide_eq_true h;have m:x<(U.jl c).length:=(by omega);refine⟨by omega,h,fun _ _=>⟨fun g=> ?_,fun g=> ?_⟩⟩
  .have g:(decide (((U.lv (nth (U.jl c) x)).length:Int)≠U.la c)|| !U.ja (U.fd (nth (U.jl c) x)) 0 255|| !U.ja (U.cl (nth (U.jl c) x)) 0 255||decide (10<((U.wA (nth (U.jl c) x)).length:Int))|| !U.ja (U.fe (nth (U.jl c) x)) 0 1000)=true:=g;refine jbj (c:=c) (jgg m ?_);rw[jya,g];rfl
  have g:(decide (((U.lv (nth (U.jl c) x)).length:Int)≠U.la c)|| !U.ja (U.fd (nth (U.jl c) x)) 0 255|| !U.ja (U.cl (nth (U.jl c) x)) 0 255||decide (10<((U.wA (nth (U.jl c) x)).length:Int))|| !U.ja (U.fe (nth (U.jl c) x)) 0 1000)=false:=g;refine⟨⟨0,⟨⟨rfl,trivial⟩,trivial⟩,jDq _,fun j k=>by omega⟩,fun y q d=>⟨fun b=> ?_,fun b=> ?_⟩⟩
  .have d:(U.lv (nth (U.jl c) x)).length<4611686018427387904:=d;have b:(y:Int)<((U.lv (nth (U.jl c) x)).length:Int):=of_decide_eq_true b;refine⟨by omega,b,fun a=> ?_,fun a=>⟨L.in64 (by omega) (by omega),y+1,⟨⟨by simp,trivial⟩,trivial⟩,⟨by show y+1<=(U.lv (nth (U.jl c) x)).length;omega,fun j k=> ?_⟩,by show(U.lv (nth (U.jl c) x)).length-(y+1)<(U.lv (nth (U.jl c) x)).length-y;omega⟩⟩
   .have a:(!U.ja (nth (U.lv (nth (U.jl c) x)) y) 0 5)=true:=a;have a:U.ja (nth (U.lv (nth (U.jl c) x)) y) 0 5=false:=(by simpa using a);refine jbj (c:=c) (jgg m ?_);have:(U.lv (nth (U.jl c) x)).all (fun n=>U.ja n 0 5)=false:=jEi.2 ⟨_,L.mem_nth (l:=U.lv (nth (U.jl c) x)) (i:=y) (by omega),by rw[a];simp⟩;rw[jya,this];simp
   .have a:(!U.ja (nth (U.lv (nth (U.jl c) x)) y) 0 5)=false:=a;by_cases e:j=y
    .subst e;exact(show U.ja (nth (U.lv (nth (U.jl c) x)) j) 0 5=true by simpa using a)
    .exact q.2 j (by omega)
  have b:¬(y:Int)<((U.lv (nth (U.jl c) x)).length:Int):=of_decide_eq_false b;have u:(U.lv (nth (U.jl c) x)).all (fun n=>U.ja n 0 5)=true:=jas (by omega) q.2;refine⟨⟨0,⟨⟨rfl,trivial⟩,trivial⟩,jDq _,fun j k=>by omega⟩,fun z t o=>⟨fun a=> ?_,fun a=> ?_⟩⟩
  .have o:(U.wA (nth (U.jl c) x)).length<4611686018427387904:=o;have a:(z:Int)<((U.wA (nth (U.jl c) x)).length:Int):=of_decide_eq_true a;refine⟨by omega,a,fun f=> ?_,fun f=>⟨L.in64 (by omega) (by omega),z+1,⟨⟨by simp,trivial⟩,trivial⟩,⟨by show z+1<=(U.wA (nth (U.jl c) x)).length;omega,fun j k=> ?_⟩,by show(U.wA (nth (U.jl c) x)).length-(z+1)<(U.wA (nth (U.jl c) x)).length-z;omega⟩⟩
   .have f:(!U.ja (nth (U.wA (nth (U.jl c) x)) z) 0 99)=true:=f;have f:U.ja (nth (U.wA (nth (U.jl c) x)) z) 0 99=false:=(by simpa using f);refine jbj (c:=c) (jgg m ?_);have:(U.wA (nth (U.jl c) x)).all (fun n=>U.ja n 0 99)=false:=jEi.2 ⟨_,L.mem_nth (l:=U.wA (nth (U.jl c) x)) (i:=z) (by omega),by rw[f];simp⟩;rw[jya,this];simp
   .have f:(!U.ja (nth (U.wA (nth (U.jl c) x)) z) 0 99)=false:=f;by_cases e:j=z
    .subst e;exact(show U.ja (nth (U.wA (nth (U.jl c) x)) j) 0 99=true by simpa using f)
    .exact t.2 j (by omega)
  have a:¬(z:Int)<((U.wA (nth (U.jl c) x)).length:Int):=of_decide_eq_false a;have v:(U.wA (nth (U.jl c) x)).all (fun n=>U.ja n 0 99)=true:=jas (by omega) t.2;refine⟨L.in64 (by omega) (by omega),x+1,⟨⟨by simp,trivial⟩,trivial⟩,⟨by show x+1<=(U.jl c).length;omega,fun j k=> ?_⟩,by show(U.jl c).length-(x+1)<(U.jl c).length-x;omega⟩;by_cases e:j=x
  .subst e;show U.y4 (U.la c) (nth (U.jl c) j)=true;rw[jya,g,u,v];rfl
  .exact s.2 j (by omega)
 have h:¬(x:Int)<((U.jl c).length:Int):=of_decide_eq_false h;have A:(U.jl c).all (U.y4 (U.la c))=true:=jas (by omega) s.2;refine⟨⟨0,⟨⟨rfl,trivial⟩,trivial⟩,jDq _,fun j k=>by omega⟩,fun y q d=>⟨fun b=> ?_,fun b=> ?_⟩⟩
 .have d:(U.kN c).length<4611686018427387904:=d;have b:(y:Int)<((U.kN c).length:Int):=of_decide_eq_true b;have p:U.y5 (nth (U.kN c) y)= !(!U.ja (U.jCU (nth (U.kN c) y)) 1 5|| !U.ja (U.jCy (nth (U.kN c) y)) 1 8):=by
   unfold U.y5;rw[Bool.not_or,Bool.not_not,Bool.not_not]
  refine⟨by omega,b,fun _=>by omega,fun _=>b,fun a=> ?_,fun a=>⟨L.in64 (by omega) (by omega),y+1,⟨⟨by simp,trivial⟩,trivial⟩,⟨by show y+1<=(U.kN c).length;omega,fun j k=> ?_⟩,by show(U.kN c).length-(y+1)<(U.kN c).length-y;omega⟩⟩
  .have a:(!U.ja (U.jCU (nth (U.kN c) y)) 1 5|| !U.ja (U.jCy (nth (U.kN c) y)) 1 8)=true:=a;exact jbj (c:=c) (jul (x:=y) (by omega) (by rw[p,a];rfl))
  .have a:(!U.ja (U.jCU (nth (U.kN c) y)) 1 5|| !U.ja (U.jCy (nth (U.kN c) y)) 1 8)=false:=a;by_cases e:j=y
   .subst e;show U.y5 (nth (U.kN c) j)=true;rw[p,a];rfl
   .exact q.2 j (by omega)
 .have b:¬(y:Int)<((U.kN c).length:Int):=of_decide_eq_false b;have w:(U.kN c).all U.y5=true:=jas (by omega) q.2;show(true,())=(U.ju c,());rw[jhJ,B,A,w];rfl
theorem jgx:zn PR 59 jnT:=wO jpw jrh Tryz.func59 (kcC jgw kcN) koN
end Go.X
namespace Go.X
open Go.Proofs
def jnR:jX:=⟨[.val .int,.val .int,.val .int],[.bool],false,fun _=>[],fun d=>(U.ja d.1 d.2.1 d.2.2.1,())⟩
def jns:Prop:=∀(d:Int×Int×Int×Unit),(decide (d.2.1<=d.1)&&decide (d.1<=d.2.2.1),())=(U.ja d.1 d.2.1 d.2.2.1,())
def jif:jX:=⟨[.val tDy,.val .int],[.bool],false,fun _=>[],fun d=>(U.jeT d.1 d.2.1,())⟩
def jh1:Prop:=∀(d:DyD×Int×Unit),d.1.2.2.1.length<4611686018427387904->jA ((d.1.2.2.1.length:Int)-1)/\(U.ja d.2.1 (0:Int) ((d.1.2.2.1.length:Int)-1),())=(U.jeT d.1 d.2.1,())
def jj6:jX:=⟨[.val tDy,.val .int],[.bool],false,fun _=>[],fun d=>(U.je d.1 d.2.1,())⟩
def jj0:Prop:=∀(d:DyD×Int×Unit),d.1.1.2.1.length<4611686018427387904->jA ((d.1.1.2.1.length:Int)-1)/\(U.ja d.2.1 (0:Int) ((d.1.1.2.1.length:Int)-1),())=(U.je d.1 d.2.1,())
def jqd:jX:=⟨[.val tDy],[.bool],false,fun _=>[],fun d=>(U.zr d.1,())⟩
def jrK:Ann:=fun r=>match r with
 |4=>some fun σ=>{X:=Nat,sl:=fun i=>[(3,.dat .int (i:Int))],ob:=fun _=>[],inv:=fun i=>i<=(U.jE (gb tDy σ 1)).length/\∀j:Nat,j<i->U.qX (U.jE (gb tDy σ 1)).length (nth (U.jE (gb tDy σ 1)) j)=true,mu:=fun i=>(U.jE (gb tDy σ 1)).length-i}
 |9=>some fun σ=>{X:=Nat,sl:=fun i=>[(4,.dat .int (i:Int))],ob:=fun _=>[],inv:=fun i=>i<=(nth (U.jE (gb tDy σ 1)) (gd .int σ 3).toNat).length/\∀j:Nat,j<i->U.jdp (nth (nth (U.jE (gb tDy σ 1)) (gd .int σ 3).toNat) j)=true,mu:=fun i=>(nth (U.jE (gb tDy σ 1)) (gd .int σ 3).toNat).length-i}
 |15=>some fun σ=>{X:=Nat,sl:=fun i=>[(6,.dat .int (i:Int))],ob:=fun _=>[],inv:=fun i=>i<=(U.jq (gb tDy σ 1)).length/\∀j:Nat,j<i->U.jcv (U.jE (gb tDy σ 1)).length (nth (U.jq (gb tDy σ 1)) j)=true,mu:=fun i=>(U.jq (gb tDy σ 1)).length-i}
 |21=>some fun σ=>{X:=Nat,sl:=fun i=>[(8,.dat .int (i:Int))],ob:=fun _=>[],inv:=fun i=>i<=(U.kg (gb tDy σ 1)).length/\∀j:Nat,j<i->U.jbu (U.jq (gb tDy σ 1)).length (U.jl (U.jj (gb tDy σ 1))).length (nth (U.kg (gb tDy σ 1)) j)=true,mu:=fun i=>(U.kg (gb tDy σ 1)).length-i}
 |_=>none
abbrev q110_4 (d:DyD×Unit)(x:Nat):=(nth d.1.2.1 (x:Int).toNat)
abbrev q110_2 (d:DyD×Unit)(x:Nat)(a:Nat):=(decide ((nth (q110_4 d x) (a:Int).toNat).1<0)||decide ((nth (q110_4 d x) (a:Int).toNat).2.1<(nth (q110_4 d x) (a:Int).toNat).1)||decide ((300:Int)<(nth (q110_4 d x) (a:Int).toNat).2.1))
abbrev q110_5 (d:DyD×Unit)(x:Nat):=(nth (U.jE d.1) (x:Int).toNat)
abbrev q110_6 (d:DyD×Unit):=(d.1.2.1.length:Int)
abbrev q110_7 (d:DyD×Unit)(x:Nat):=(nth d.1.2.2.2.2.2.1 (x:Int).toNat)
abbrev q110_0 (d:DyD×Unit)(x:Nat):=(!U.ja (q110_7 d x).1 (0:Int) (99:Int)|| !U.ja (q110_7 d x).2.1 (0:Int) (9999:Int)|| !U.ja (q110_7 d x).2.2.1 (1:Int) (2:Int)|| !U.jeT d.1 (q110_7 d x).2.2.2.1|| !U.je d.1 (q110_7 d x).2.2.2.2.1)
abbrev q110_8 (d:DyD×Unit):=(d.1.2.2.1.length:Int)
abbrev q110_9 (x:Nat)(a:Nat):=(((x:Int)+1=(a:Int)/\True)/\True)
abbrev q110_10 (d:DyD×Unit)(x:Nat):=(nth d.1.2.2.1 (x:Int).toNat)
abbrev q110_1 (d:DyD×Unit)(x:Nat):=(!U.ja (q110_10 d x).2.1 (0:Int) ((q110_6 d)-1)||decide ((q110_10 d x).2.2.1<0)||decide ((q110_10 d x).2.2.2.1<=(q110_10 d x).2.2.1)||decide ((1440:Int)<(q110_10 d x).2.2.2.1))
abbrev q110_11 (d:DyD×Unit)(x:Nat):=(↑(q110_4 d x).length:Int)
abbrev q110_12 (d:DyD×Unit):=(d.1.2.2.2.2.2.1.length:Int)
abbrev q110_3 (d:DyD×Unit):=(decide (4<(q110_8 d))|| !U.ja (q110_6 d) (1:Int) (5:Int)|| !U.ja d.1.2.2.2.1 (0:Int) (300:Int)|| !U.ja d.1.2.2.2.2.1 (0:Int) (1440:Int)||decide (30<(q110_12 d)))
abbrev q110_13 (x:Nat):=((0=(x:Int)/\True)/\True)
def jpS:Prop:=∀(d:DyD×Unit),d.1.2.2.1.length<4611686018427387904->((!decide (4<(q110_8 d)))=true->d.1.2.1.length<4611686018427387904)->((!(decide (4<(q110_8 d))|| !U.ja (q110_6 d) (1:Int) (5:Int)|| !U.ja d.1.2.2.2.1 (0:Int) (300:Int)|| !U.ja d.1.2.2.2.2.1 (0:Int) (1440:Int)))=true->d.1.2.2.2.2.2.1.length<4611686018427387904)->((q110_3 d)=true->(false,())=(U.zr d.1,()))/\((q110_3 d)=false->(∃(x:Nat),(q110_13 x)/\x<=(U.jE d.1).length/\∀(j:Nat),j<x->U.qX (U.jE d.1).length (nth (U.jE d.1) j)=true)/\∀(x:Nat),(x<=(U.jE d.1).length/\∀(j:Nat),j<x->U.qX (U.jE d.1).length (nth (U.jE d.1) j)=true)->d.1.2.1.length<4611686018427387904->(decide ((x:Int)<(q110_6 d))=true->0<=(x:Int)/\(x:Int)<(q110_6 d)/\(decide ((q110_11 d x)≠(q110_6 d))=true->(false,())=(U.zr d.1,()))/\(decide ((q110_11 d x)≠(q110_6 d))=false->(∃(a:Nat),((0=(a:Int)/\True)/\True)/\a<=(q110_5 d x).length/\∀(j:Nat),j<a->U.jdp (nth (q110_5 d x) j)=true)/\∀(a:Nat),(a<=(q110_5 d x).length/\∀(j:Nat),j<a->U.jdp (nth (q110_5 d x) j)=true)->0<=(x:Int)/\(x:Int)<(q110_6 d)/\((q110_4 d x).length<4611686018427387904->(decide ((a:Int)<(q110_11 d x))=true->0<=(x:Int)/\(x:Int)<(q110_6 d)/\0<=(a:Int)/\(a:Int)<(q110_11 d x)/\((q110_2 d x a)=true->(false,())=(U.zr d.1,()))/\((q110_2 d x a)=false->jA ((a:Int)+1)/\∃(b:Nat),(((a:Int)+1=(b:Int)/\True)/\True)/\(b<=(q110_5 d x).length/\∀(j:Nat),j<b->U.jdp (nth (q110_5 d x) j)=true)/\(q110_5 d x).length-b<(q110_5 d x).length-a))/\(decide ((a:Int)<(q110_11 d x))=false->jA ((x:Int)+1)/\∃(b:Nat),(q110_9 x b)/\(b<=(U.jE d.1).length/\∀(j:Nat),j<b->U.qX (U.jE d.1).length (nth (U.jE d.1) j)=true)/\(U.jE d.1).length-b<(U.jE d.1).length-x))))/\(decide ((x:Int)<(q110_6 d))=false->(∃(x:Nat),(q110_13 x)/\x<=(U.jq d.1).length/\∀(j:Nat),j<x->U.jcv (U.jE d.1).length (nth (U.jq d.1) j)=true)/\∀(x:Nat),(x<=(U.jq d.1).length/\∀(j:Nat),j<x->U.jcv (U.jE d.1).length (nth (U.jq d.1) j)=true)->d.1.2.2.1.length<4611686018427387904->(decide ((x:Int)<(q110_8 d))=true->0<=(x:Int)/\(x:Int)<(q110_8 d)/\(d.1.2.1.length<4611686018427387904->jA ((q110_6 d)-1)/\((q110_1 d x)=true->(false,())=(U.zr d.1,()))/\((q110_1 d x)=false->jA ((x:Int)+1)/\∃(b:Nat),(q110_9 x b)/\(b<=(U.jq d.1).length/\∀(j:Nat),j<b->U.jcv (U.jE d.1).length (nth (U.jq d.1) j)=true)/\(U.jq d.1).length-b<(U.jq d.1).length-x)))/\(decide ((x:Int)<(q110_8 d))=false->(∃(x:Nat),(q110_13 x)/\x<=(U.kg d.1).length/\∀(j:Nat),j<x->U.jbu (U.jq d.1).length (U.jl (U.jj d.1)).length (nth (U.kg d.1) j)=true)/\∀(x:Nat),(x<=(U.kg d.1).length/\∀(j:Nat),j<x->U.jbu (U.jq d.1).length (U.jl (U.jj d.1)).length (nth (U.kg d.1) j)=true)->d.1.2.2.2.2.2.1.length<4611686018427387904->(decide ((x:Int)<(q110_12 d))=true->0<=(x:Int)/\(x:Int)<(q110_12 d)/\((q110_0 d x)=true->(false,())=(U.zr d.1,()))/\((q110_0 d x)=false->jA ((x:Int)+1)/\∃(b:Nat),(q110_9 x b)/\(b<=(U.kg d.1).length/\∀(j:Nat),j<b->U.jbu (U.jq d.1).length (U.jl (U.jj d.1)).length (nth (U.kg d.1) j)=true)/\(U.kg d.1).length-b<(U.kg d.1).length-x))/\(decide ((x:Int)<(q110_12 d))=false->(true,())=(U.zr d.1,())))))
def jqc:jX:=⟨[.val (.slice tSh)],[.bool],false,fun d=>[d.1.length<=1000000],fun d=>(U.qZ d.1,())⟩
def jrJ:Ann:=fun r=>match r with
 |2=>some fun σ=>{X:=Nat,sl:=fun i=>[(3,.dat .int (i:Int))],ob:=fun _=>[],inv:=fun i=>i<=(gd (.slice tSh) σ 0).length/\U.wR (gd (.slice tSh) σ 0) i=false,mu:=fun i=>(gd (.slice tSh) σ 0).length-i}
 |5=>some fun σ=>{X:=Nat,sl:=fun i=>[(4,.dat .int (i:Int))],ob:=fun _=>[],inv:=fun i=>i<=(gd .int σ 3).toNat/\∀j:Nat,j<i->U.jjH (nth (gd (.slice tSh) σ 0) (gd .int σ 3).toNat) (nth (gd (.slice tSh) σ 0) j)=false,mu:=fun i=>(gd .int σ 3).toNat-i}
 |_=>none
abbrev q111_0 (d:List ShD×Unit)(x:Nat)(a:Nat):=((nth d.1 (x:Int).toNat).1=(nth d.1 (a:Int).toNat).1)
def jpR:Prop:=∀(d:List ShD×Unit),d.1.length<=1000000->(∃(x:Nat),((0=(x:Int)/\True)/\True)/\x<=d.1.length/\U.wR d.1 x=false)/\∀(x:Nat),x<=d.1.length/\U.wR d.1 x=false->d.1.length<4611686018427387904->(decide ((x:Int)<(d.1.length:Int))=true->(∃(a:Nat),((0=(a:Int)/\True)/\True)/\a<=(x:Int).toNat/\∀(j:Nat),j<a->U.jjH (nth d.1 (x:Int).toNat) (nth d.1 j)=false)/\∀(a:Nat),(a<=(x:Int).toNat/\∀(j:Nat),j<a->U.jjH (nth d.1 (x:Int).toNat) (nth d.1 j)=false)->(decide ((a:Int)<(x:Int))=true->0<=(x:Int)/\(x:Int)<(d.1.length:Int)/\0<=(a:Int)/\(a:Int)<(d.1.length:Int)/\(decide (q111_0 d x a)=true->0<=(x:Int))/\(decide (q111_0 d x a)=true->(x:Int)<(d.1.length:Int))/\(decide (q111_0 d x a)=true->0<=(a:Int))/\(decide (q111_0 d x a)=true->(a:Int)<(d.1.length:Int))/\((decide (q111_0 d x a)&& !decide (nth d.1 (x:Int).toNat=nth d.1 (a:Int).toNat))=true->(true,())=(U.qZ d.1,()))/\((decide (q111_0 d x a)&& !decide (nth d.1 (x:Int).toNat=nth d.1 (a:Int).toNat))=false->jA ((a:Int)+1)/\∃(b:Nat),(((a:Int)+1=(b:Int)/\True)/\True)/\(b<=(x:Int).toNat/\∀(j:Nat),j<b->U.jjH (nth d.1 (x:Int).toNat) (nth d.1 j)=false)/\(x:Int).toNat-b<(x:Int).toNat-a))/\(decide ((a:Int)<(x:Int))=false->jA ((x:Int)+1)/\∃(b:Nat),(((x:Int)+1=(b:Int)/\True)/\True)/\(b<=d.1.length/\U.wR d.1 b=false)/\d.1.length-b<d.1.length-x))/\(decide ((x:Int)<(d.1.length:Int))=false->(false,())=(U.qZ d.1,()))
def jqe:jX:=⟨[.val tDy],[.int],false,fun d=>[(U.jq d.1).length<=1000000],fun d=>(U.gE d.1,())⟩
def jrL:Ann:=fun r=>match r with
 |4=>some fun σ=>{X:=Nat,sl:=fun i=>[(3,.dat .int (i:Int))],ob:=fun _=>[],inv:=fun i=>i<=(U.jq (gb tDy σ 1)).length/\∀j:Nat,j<i->U.zB (U.jj (gb tDy σ 1)) (U.jfx (nth (U.jq (gb tDy σ 1)) j))=true,mu:=fun i=>(U.jq (gb tDy σ 1)).length-i}
 |_=>none
def jpT:Prop:=∀(d:DyD×Unit),(U.jq d.1).length<=1000000->((!U.ju d.1.1)=true->((30:Int),())=(U.gE d.1,()))/\((!U.ju d.1.1)=false->(∃(x:Nat),((0=(x:Int)/\True)/\True)/\x<=(U.jq d.1).length/\∀(j:Nat),j<x->U.zB (U.jj d.1) (U.jfx (nth (U.jq d.1) j))=true)/\∀(x:Nat),(x<=(U.jq d.1).length/\∀(j:Nat),j<x->U.zB (U.jj d.1) (U.jfx (nth (U.jq d.1) j))=true)->d.1.2.2.1.length<4611686018427387904->(decide ((x:Int)<(d.1.2.2.1.length:Int))=true->0<=(x:Int)/\(x:Int)<(d.1.2.2.1.length:Int)/\U.ju d.1.1=true/\((!U.zB d.1.1 (nth d.1.2.2.1 (x:Int).toNat).1)=true->((31:Int),())=(U.gE d.1,()))/\((!U.zB d.1.1 (nth d.1.2.2.1 (x:Int).toNat).1)=false->jA ((x:Int)+1)/\∃(a:Nat),(((x:Int)+1=(a:Int)/\True)/\True)/\(a<=(U.jq d.1).length/\∀(j:Nat),j<a->U.zB (U.jj d.1) (U.jfx (nth (U.jq d.1) j))=true)/\(U.jq d.1).length-a<(U.jq d.1).length-x))/\(decide ((x:Int)<(d.1.2.2.1.length:Int))=false->((!U.zr d.1)=true->((50:Int),())=(U.gE d.1,()))/\((!U.zr d.1)=false->d.1.2.2.2.2.2.1.length<=1000000/\(U.qZ d.1.2.2.2.2.2.1=true->((51:Int),())=(U.gE d.1,()))/\(U.qZ d.1.2.2.2.2.2.1=false->((0:Int),())=(U.gE d.1,())))))
def jxW:jX:=⟨[.val (.slice .int),.val .int],[.slice .int],false,fun d=>[d.1.length<=1000,0<=d.2.1/\d.2.1<=63],fun d=>(U.on d.1 d.2.1,())⟩
def jy9:Ann:=fun r=>match r with
 |3=>some fun σ=>{X:=Nat,sl:=fun i=>[(6,.dat .int (i:Int)),(5,.own 5 .int)],ob:=fun i=>[(5,some (.row 3 .int false .yes (U.jdk (gd (.slice .int) σ 0) (gd .int σ 1) i)))],inv:=fun i=>i<=(gd (.slice .int) σ 0).length,mu:=fun i=>(gd (.slice .int) σ 0).length-i}
 |_=>none
def jxL:Prop:=∀(d:List Int×Int×Unit),d.1.length<=1000->0<=d.2.1/\d.2.1<=63->(∃(x:Nat),((0=(x:Int)/\True/\True)/\U.jdk d.1 d.2.1 x=[]/\True)/\x<=d.1.length)/\∀(x:Nat),x<=d.1.length->d.1.length<4611686018427387904->(decide ((x:Int)<(d.1.length:Int))=true->0<=(x:Int)/\(x:Int)<(d.1.length:Int)/\(0<=d.2.1/\d.2.1<=63)/\(U.vH (nth d.1 (x:Int).toNat) d.2.1=true->((U.jdk d.1 d.2.1 x).length+[(x:Int)].length)*8<=140737488355328/\jA ((x:Int)+1)/\∃(a:Nat),(((x:Int)+1=(a:Int)/\True/\True)/\U.jdk d.1 d.2.1 x++[(x:Int)]=U.jdk d.1 d.2.1 a/\True)/\a<=d.1.length/\d.1.length-a<d.1.length-x)/\(U.vH (nth d.1 (x:Int).toNat) d.2.1=false->jA ((x:Int)+1)/\∃(a:Nat),((True/\(x:Int)+1=(a:Int)/\True)/\U.jdk d.1 d.2.1 x=U.jdk d.1 d.2.1 a/\True)/\a<=d.1.length/\d.1.length-a<d.1.length-x))/\(decide ((x:Int)<(d.1.length:Int))=false->(U.jdk d.1 d.2.1 x,())=(U.on d.1 d.2.1,()))
end Go.X
namespace Go.X
open Go.Proofs
theorem jrf:jns:=by
 rintro⟨n,a,b,⟨⟩⟩;rfl
theorem jbs:zn PR 40 jnR:=jT jrf Tryz.func40 kcN koN
theorem jkr:jh1:=by
 rintro⟨d,n,⟨⟩⟩ a;have a:(U.jq d).length<4611686018427387904:=a;exact⟨by show jA (((U.jq d).length:Int)-1);exact L.in64 (by omega) (by omega),rfl⟩
theorem jbt:zn PR 12 jif:=jT jkr Tryz.func12 (kcC jbs kcN) koN
theorem jmI:jj0:=by
 rintro⟨d,n,⟨⟩⟩ a;have a:(U.jl (U.jj d)).length<4611686018427387904:=a;exact⟨by show jA (((U.jl (U.jj d)).length:Int)-1);exact L.in64 (by omega) (by omega),rfl⟩
theorem jkh:zn PR 26 jj6:=jT jmI Tryz.func26 (kcC jbs kcN) koN
theorem jpr (l:List ShD) (n:Nat):U.wR l (n+1)=(U.wR l n||U.jhK l n):=by
 unfold U.wR;rw[jDW,List.any_append];simp
theorem jmY {l:List ShD} {i:Nat} (h:∀j:Nat,j<i->U.jjH (nth l i) (nth l j)=false) (hi:i<=l.length):U.jhK l i=false:=by
 unfold U.jhK;rw[jD1];intro s a;rw[jDY] at a;obtain⟨j,b,rfl⟩:=a;have:=h j (by omega);rw[L.nth_lt (l:=l) (i:=j) (by omega)] at this;simpa using this
theorem jun {l:List ShD} {i j:Nat} (hi:i<l.length) (a:j<i) (h:U.jjH (nth l i) (nth l j)=true):U.qZ l=true:=by
 unfold U.qZ U.wR U.jhK;rw[jEc];refine⟨i,jDy.2 hi,?_⟩;rw[jEc];refine⟨nth l j,?_,h⟩;rw[jDY];exact⟨j,by omega,(L.nth_lt (by omega)).symm⟩
theorem jtW:jpR:=by
 unfold jpR q111_0;rintro⟨l,⟨⟩⟩ k;have k:l.length<=1000000:=k;refine⟨⟨0,⟨⟨rfl,trivial⟩,trivial⟩,jDq _,rfl⟩,fun x m _=>⟨fun h=> ?_,fun h=> ?_⟩⟩
 .have h:(x:Int)<(l.length:Int):=of_decide_eq_true h;obtain⟨_,a⟩:x<=l.length/\U.wR l x=false:=m;refine⟨⟨0,⟨⟨rfl,trivial⟩,trivial⟩,jDq _,fun j o=>by omega⟩,fun y n=>⟨fun c=> ?_,fun c=> ?_⟩⟩
  .have c:(y:Int)<(x:Int):=of_decide_eq_true c;obtain⟨_,b⟩:y<=x/\∀j:Nat,j<y->U.jjH (nth l x) (nth l j)=false:=n;have f:(y:Int)<(l.length:Int):=(by omega);refine⟨by omega,h,by omega,f,fun _=>by omega,fun _=>h,fun _=>by omega,fun _=>f,fun d=> ?_,fun d=>⟨L.in64 (by omega) (by omega),y+1,⟨⟨by simp,trivial⟩,trivial⟩,⟨by show y+1<=x;omega,fun j o=> ?_⟩,by show x-(y+1)<x-y;omega⟩⟩
   .have d:U.jjH (nth l x) (nth l y)=true:=d;have:=jun (by omega) (by omega) d;show(true,())=(U.qZ l,());rw[this]
   .by_cases e:j=y
    .subst e;exact d
    .exact b j (by omega)
  .have c:¬(y:Int)<(x:Int):=of_decide_eq_false c;obtain⟨q,b⟩:y<=x/\∀j:Nat,j<y->U.jjH (nth l x) (nth l j)=false:=n;have i:y=x:=(by omega);subst i;refine⟨L.in64 (by omega) (by omega),y+1,⟨⟨by simp,trivial⟩,trivial⟩,⟨by show y+1<=l.length;omega,?_⟩,by show l.length-(y+1)<l.length-y;omega⟩;show U.wR l (y+1)=false;rw[jpr,a,jmY b (by omega)];rfl
 .have h:¬(x:Int)<(l.length:Int):=of_decide_eq_false h;obtain⟨p,a⟩:x<=l.length/\U.wR l x=false:=m;have g:x=l.length:=(by omega);subst g;show(false,())=(U.qZ l,());unfold U.qZ;rw[a]
theorem jqN:zn PR 62 jqc:=wO jrJ jtW Tryz.func62 kcN koN
theorem jtY:jpT:=by
 rintro⟨d,⟨⟩⟩ k;have k:(U.jq d).length<=1000000:=k;refine⟨fun h=> ?_,fun h=> ?_⟩
 .have h:U.ju (U.jj d)=false:=(by simpa using(show(!U.ju (U.jj d))=true from h));show((30:Int),())=(U.gE d,());unfold U.gE;rw[h];rfl
 have g:U.ju (U.jj d)=true:=(by simpa using(show(!U.ju (U.jj d))=false from h));refine⟨⟨0,⟨⟨rfl,trivial⟩,trivial⟩,jDq _,fun j f=>by omega⟩,fun x m _=>⟨fun h=> ?_,fun h=> ?_⟩⟩
 .have h:(x:Int)<((U.jq d).length:Int):=of_decide_eq_true h;refine⟨by omega,h,g,fun a=> ?_,fun a=>⟨L.in64 (by omega) (by omega),x+1,⟨⟨by simp,trivial⟩,trivial⟩,⟨by show x+1<=(U.jq d).length;omega,fun j f=> ?_⟩,by show(U.jq d).length-(x+1)<(U.jq d).length-x;omega⟩⟩
  .have a:U.zB (U.jj d) (U.jfx (nth (U.jq d) x))=false:=(by simpa using(show(!U.zB (U.jj d) (U.jfx (nth (U.jq d) x)))=true from a));have f:U.jwo d=false:=by
    unfold U.jwo;exact jEi.2 ⟨_,L.mem_nth (l:=U.jq d) (i:=x) (by omega),by rw[a];simp⟩
   show((31:Int),())=(U.gE d,());unfold U.gE;rw[g,f];rfl
  .have a:U.zB (U.jj d) (U.jfx (nth (U.jq d) x))=true:=(by simpa using(show(!U.zB (U.jj d) (U.jfx (nth (U.jq d) x)))=false from a));by_cases e:j=x
   .subst e;exact a
   .exact m.2 j (by omega)
 .have h:¬(x:Int)<((U.jq d).length:Int):=of_decide_eq_false h;have f:U.jwo d=true:=jas (p:=fun b=>U.zB (U.jj d) (U.jfx b)) (by omega) m.2;refine⟨fun a=> ?_,fun a=> ?_⟩
  .have a:U.zr d=false:=(by simpa using(show(!U.zr d)=true from a));show((50:Int),())=(U.gE d,());unfold U.gE;rw[g,f,a];rfl
  .have a:U.zr d=true:=(by simpa using(show(!U.zr d)=false from a));have n:(U.kg d).length<=30:=(zb a).2.2.2.2.1;refine⟨by show(U.kg d).length<=1000000;omega,fun c=> ?_,fun c=> ?_⟩
   .have c:U.qZ (U.kg d)=true:=c;show((51:Int),())=(U.gE d,());unfold U.gE;rw[g,f,a,c];rfl
   .have c:U.qZ (U.kg d)=false:=c;show((0:Int),())=(U.gE d,());unfold U.gE;rw[g,f,a,c];rfl
theorem jvS (t:List Int) (p:Int) (n:Nat):U.jdk t p (n+1)=U.jdk t p n++(if U.vH (nth t n) p=true then[(n:Int)] else[]):=by
 unfold U.jdk;rw[L.range_filter_succ,jD9];by_cases h:U.vH (nth t n) p=true
 .rw[if_pos h,if_pos h];rfl
 .rw[if_neg h,if_neg h];rfl
theorem jyi (t:List Int) (p:Int) (n:Nat):(U.jdk t p n).length<=n:=by
 unfold U.jdk;rw[jEq];exact jDr (List.length_filter_le _ _) (by simp)
theorem jAE:jxL:=by
 rintro⟨l,p,⟨⟩⟩ e j;have e:l.length<=1000:=e;refine⟨⟨0,⟨⟨rfl,trivial,trivial⟩,rfl,trivial⟩,jDq _⟩,fun x g _=>⟨fun h=> ?_,fun h=> ?_⟩⟩
 .have h:(x:Int)<(l.length:Int):=of_decide_eq_true h;have b:=jvS l p x;have f:=jyi l p x;have i:x+1<=l.length:=(by omega);have d:l.length-(x+1)<l.length-x:=(by omega);refine⟨by omega,h,j,fun a=>⟨?_,L.in64 (by omega) (by omega),x+1,⟨⟨by simp,trivial,trivial⟩,?_,trivial⟩,i,d⟩,fun a=>⟨L.in64 (by omega) (by omega),x+1,⟨⟨trivial,by simp,trivial⟩,?_,trivial⟩,i,d⟩⟩
  .show((U.jdk l p x).length+1)*8<=140737488355328;omega
  .have a:U.vH (nth l x) p=true:=a;rw[if_pos a] at b;exact b.symm
  .have a:U.vH (nth l x) p=false:=a;rw[if_neg (by rw[a];simp),jDF] at b;exact b.symm
 .have h:¬(x:Int)<(l.length:Int):=of_decide_eq_false h;have g:x<=l.length:=g;have c:x=l.length:=(by omega);subst c;rfl
theorem jyj:zn PR 11 jxW:=wO jy9 jAE Tryz.func11 (kcC joB kcN) koN
end Go.X
namespace Go.X
open Go.Proofs
end Go.X
namespace Go.X
open Go.Proofs
end Go.X
namespace Go.X
open Go.Proofs
def jB5 (d:DyD):Bool:=decide (4<((U.jq d).length:Int))|| !U.ja ((U.jE d).length:Int) 1 5|| !U.ja (U.jg7 d) 0 300|| !U.ja (U.jtM d) 0 1440||decide (30<((U.kg d).length:Int))
def spH (s:SpD):Bool:=decide (U.lo s<0)||decide (U.hi s<U.lo s)||decide (300<U.hi s)
def bkH (n:Nat) (b:BkD):Bool:= !U.ja (U.jhL b) 0 ((n:Int)-1)||decide (U.gF b<0)||decide (U.jna b<=U.gF b)||decide (1440<U.jna b)
def shH (d:DyD) (s:ShD):Bool:= !U.ja (U.wy s) 0 99|| !U.ja (U.jm9 s) 0 9999|| !U.ja (U.jxZ s) 1 2|| !U.jeT d (U.jil s)|| !U.je d (U.vZ s)
theorem jxa (d:DyD):U.zr d=(!jB5 d&&((U.jE d).all (U.qX (U.jE d).length)&&((U.jq d).all (U.jcv (U.jE d).length)&&(U.kg d).all (U.jbu (U.jq d).length (U.jl (U.jj d)).length)))):=by
 unfold U.zr jB5;congr 1;rw[jDQ];simp only[U.ja,jDH,jDD,decide_eq_false_iff_not,jD5,jDg,decide_eq_true_eq];omega
theorem jzq (s:SpD):U.jdp s= !spH s:=by
 unfold U.jdp spH;rw[jDQ];simp only[jDH,jDD,decide_eq_false_iff_not,decide_eq_true_eq];omega
theorem jzL (n:Nat) (b:BkD):U.jcv n b= !bkH n b:=by
 unfold U.jcv bkH;rw[jDQ];simp only[U.ja,jDH,jDD,decide_eq_false_iff_not,jD5,jDg,decide_eq_true_eq];omega
theorem jzs (d:DyD) (s:ShD):U.jbu (U.jq d).length (U.jl (U.jj d)).length s= !shH d s:=by
 unfold U.jbu shH U.jeT U.je;rw[jDQ];simp only[U.ja,jDH,jDD,decide_eq_false_iff_not,jD5,jDg,decide_eq_true_eq];omega
theorem jpj {d:DyD} (h:jB5 d=true\/(U.jE d).all (U.qX (U.jE d).length)=false\/(U.jq d).all (U.jcv (U.jE d).length)=false\/(U.kg d).all (U.jbu (U.jq d).length (U.jl (U.jj d)).length)=false):(false,())=(U.zr d,()):=by
 have:U.zr d=false:=by
  rw[jxa];rcases h with h|h|h|h<;>rw[h]<;>simp
 rw[this]
theorem jpy {α:Type} [Inhabited α] {l:List α} {p:α->Bool} {x:Nat} (a:x<l.length) (h:p (nth l x)=false):l.all p=false:=jEi.2 ⟨_,L.mem_nth a,by rw[h];simp⟩
theorem jtX:jpS:=by
 unfold jpS q110_13 q110_3 q110_12 q110_11 q110_1 q110_10 q110_9 q110_8 q110_0 q110_7 q110_6 q110_5 q110_2 q110_4;rintro⟨d,⟨⟩⟩ _ _ _;refine⟨fun h=>jpj (d:=d) (.inl h),fun k=> ?_⟩;have k:jB5 d=false:=k;have l:=k;unfold jB5 at l;simp only[U.ja,jDD,decide_eq_false_iff_not,jD5,jDg,decide_eq_true_eq] at l;refine⟨⟨0,⟨⟨rfl,trivial⟩,trivial⟩,jDq _,fun j g=>by omega⟩,fun x c _=>⟨fun h=> ?_,fun h=> ?_⟩⟩
 .have h:(x:Int)<((U.jE d).length:Int):=of_decide_eq_true h;have b:x<(U.jE d).length:=(by omega);refine⟨by omega,h,fun a=> ?_,fun a=>⟨⟨0,⟨⟨rfl,trivial⟩,trivial⟩,jDq _,fun j g=>by omega⟩,fun y n=>⟨by omega,h,fun m=>⟨fun i=> ?_,fun i=> ?_⟩⟩⟩⟩
  .have a:¬((nth (U.jE d) x).length:Int)=((U.jE d).length:Int):=of_decide_eq_true a;refine jpj (d:=d) (.inr (.inl (jpy b ?_)));unfold U.qX;rw[decide_eq_false (by omega)];rfl
  .have m:(nth (U.jE d) x).length<4611686018427387904:=m;have i:(y:Int)<((nth (U.jE d) x).length:Int):=of_decide_eq_true i;refine⟨by omega,h,by omega,i,fun f=> ?_,fun f=>⟨L.in64 (by omega) (by omega),y+1,⟨⟨by simp,trivial⟩,trivial⟩,⟨by show y+1<=(nth (U.jE d) x).length;omega,fun j g=> ?_⟩,by show(nth (U.jE d) x).length-(y+1)<(nth (U.jE d) x).length-y;omega⟩⟩
   .have f:spH (nth (nth (U.jE d) x) y)=true:=f;refine jpj (d:=d) (.inr (.inl (jpy b ?_)));have:(nth (U.jE d) x).all U.jdp=false:=jpy (x:=y) (by omega) (by rw[jzq,f];rfl);unfold U.qX;rw[this,Bool.and_false]
   .have f:spH (nth (nth (U.jE d) x) y)=false:=f;by_cases e:j=y
    .subst e;show U.jdp (nth (nth (U.jE d) x) j)=true;rw[jzq,f];rfl
    .exact n.2 j (by omega)
  .have i:¬(y:Int)<((nth (U.jE d) x).length:Int):=of_decide_eq_false i;have a:((nth (U.jE d) x).length:Int)=((U.jE d).length:Int):=Classical.not_not.1 (of_decide_eq_false a);have o:(nth (U.jE d) x).all U.jdp=true:=jas (by omega) n.2;refine⟨L.in64 (by omega) (by omega),x+1,⟨⟨by simp,trivial⟩,trivial⟩,⟨by show x+1<=(U.jE d).length;omega,fun j g=> ?_⟩,by show(U.jE d).length-(x+1)<(U.jE d).length-x;omega⟩;by_cases e:j=x
   .subst e;show U.qX (U.jE d).length (nth (U.jE d) j)=true;unfold U.qX;rw[o,decide_eq_true (by omega)];rfl
   .exact c.2 j (by omega)
 have h:¬(x:Int)<((U.jE d).length:Int):=of_decide_eq_false h;have r:(U.jE d).all (U.qX (U.jE d).length)=true:=jas (by omega) c.2;clear c h;refine⟨⟨0,⟨⟨rfl,trivial⟩,trivial⟩,jDq _,fun j g=>by omega⟩,fun x c _=>⟨fun h=> ?_,fun h=> ?_⟩⟩
 .have h:(x:Int)<((U.jq d).length:Int):=of_decide_eq_true h;have b:x<(U.jq d).length:=(by omega);refine⟨by omega,h,fun _=>⟨by show jA (((U.jE d).length:Int)-1);exact L.in64 (by omega) (by omega),fun a=> ?_,fun a=>⟨L.in64 (by omega) (by omega),x+1,⟨⟨by simp,trivial⟩,trivial⟩,⟨by show x+1<=(U.jq d).length;omega,fun j g=> ?_⟩,by show(U.jq d).length-(x+1)<(U.jq d).length-x;omega⟩⟩⟩
  .have a:bkH (U.jE d).length (nth (U.jq d) x)=true:=a;exact jpj (d:=d) (.inr (.inr (.inl (jpy b (by rw[jzL,a];rfl)))))
  .have a:bkH (U.jE d).length (nth (U.jq d) x)=false:=a;by_cases e:j=x
   .subst e;show U.jcv (U.jE d).length (nth (U.jq d) j)=true;rw[jzL,a];rfl
   .exact c.2 j (by omega)
 have h:¬(x:Int)<((U.jq d).length:Int):=of_decide_eq_false h;have p:(U.jq d).all (U.jcv (U.jE d).length)=true:=jas (by omega) c.2;clear c h;refine⟨⟨0,⟨⟨rfl,trivial⟩,trivial⟩,jDq _,fun j g=>by omega⟩,fun x c _=>⟨fun h=> ?_,fun h=> ?_⟩⟩
 .have h:(x:Int)<((U.kg d).length:Int):=of_decide_eq_true h;have b:x<(U.kg d).length:=(by omega);refine⟨by omega,h,fun a=> ?_,fun a=>⟨L.in64 (by omega) (by omega),x+1,⟨⟨by simp,trivial⟩,trivial⟩,⟨by show x+1<=(U.kg d).length;omega,fun j g=> ?_⟩,by show(U.kg d).length-(x+1)<(U.kg d).length-x;omega⟩⟩
  .have a:shH d (nth (U.kg d) x)=true:=a;exact jpj (d:=d) (.inr (.inr (.inr (jpy b (by rw[jzs,a];rfl)))))
  .have a:shH d (nth (U.kg d) x)=false:=a;by_cases e:j=x
   .subst e;show U.jbu (U.jq d).length (U.jl (U.jj d)).length (nth (U.kg d) j)=true;rw[jzs,a];rfl
   .exact c.2 j (by omega)
 .have h:¬(x:Int)<((U.kg d).length:Int):=of_decide_eq_false h;have q:(U.kg d).all (U.jbu (U.jq d).length (U.jl (U.jj d)).length)=true:=jas (by omega) c.2;show(true,())=(U.zr d,());rw[jxa,k,r,p,q];rfl
theorem jqO:zn PR 61 jqd:=wO jrK jtX Tryz.func61 (kcC jbs (kcC jbt (kcC jkh kcN))) koN
theorem jiK:zn PR 32 jqe:=wO jrL jtY Tryz.func32 (kcC jgx (kcC jqP (kcC jqO (kcC jqN kcN)))) koN
end Go.X
namespace Go.X
open Go.Proofs
namespace U
def jwl (l:List ShD) (i n:Nat):Bool:=decide (jxZ (nth l i)=1)&& !((l.take n).any (fun t=>decide (jil t=jil (nth l i))&&decide (vZ t=vZ (nth l i))&&wI t (nth l i)))
def jzj (l:List ShD) (n:Nat):List ShD:=((List.range n).filter (fun i=>jwl l i l.length)).map (nth l)
def jcG (l:List ShD) (n:Nat):Nat:=(List.range n).foldl (fun f i=>if wI (nth l f) (nth l i)=true then i else f) 0
def wC (l:List ShD):Nat->List ShD×List ShD
 |0=>([],l)
 |n+1=>((wC l n).1++[nth (wC l n).2 (jcG (wC l n).2 (wC l n).2.length)],(wC l n).2.take (jcG (wC l n).2 (wC l n).2.length)++(wC l n).2.drop (jcG (wC l n).2 (wC l n).2.length+1))
def jd4 (d:DyD):List ShD:=jzj (jjC (kg d)) (jjC (kg d)).length
def juE (d:DyD):List ShD:=(wC (jd4 d) (jd4 d).length).1
def jnB (d:DyD) (n:Nat):List Int×List Int:=((juE d).take n).foldl (jbW d) (List.replicate (jq d).length 0,[])
def jnC (d:DyD):List Int×List Int:=jnB d (juE d).length
end U
end Go.X
namespace Go.X
open Go.Proofs
end Go.X
namespace Go.X
theorem jk4 (l:List ShD) (n:Nat):U.jcG l (n+1)=if U.wI (nth l (U.jcG l n)) (nth l n)=true then n else U.jcG l n:=by
 unfold U.jcG;rw[jDW,jDI];rfl
theorem jhB (l:List ShD):∀n,n<=l.length->0<l.length->U.jcG l n<l.length
 |0,_,h=>h
 |n+1,a,h=>by
  have b:=jhB l n (by omega) h
  rw[jk4]
  split<;>omega
theorem jhx (l:List ShD):∀n,n<=l.length->(U.wC l n).1.length=n/\(U.wC l n).2.length=l.length-n
 |0,_=>⟨rfl,rfl⟩
 |n+1,d=>by
  obtain⟨a,b⟩:=jhx l n (by omega)
  have c:=jhB (U.wC l n).2 _ (jDf _) (by omega)
  refine⟨?_,?_⟩
  .show((U.wC l n).1++[_]).length=_
   rw[jDA,a];rfl
  .show((U.wC l n).2.take _++(U.wC l n).2.drop _).length=_
   rw[jDA,jDG,jEu]
   omega
theorem jyX {α:Type} [Inhabited α] {l:List α} {m:Nat} (h:m<l.length):(nth l m::(l.take m++l.drop (m+1))).Perm l:=by
 have e:l=l.take m++nth l m::l.drop (m+1):=by
  conv=>lhs;rw[<-jEv m l]
  rw[List.drop_eq_getElem_cons h,L.nth_lt h]
 conv=>rhs;rw[e]
 exact List.perm_middle.symm
theorem jik (l:List ShD):∀n,n<=l.length->((U.wC l n).1++(U.wC l n).2).Perm l
 |0,_=>List.Perm.refl _
 |n+1,d=>by
  have b:=jik l n (by omega)
  have c:=jhx l n (by omega)
  have a:=jhB (U.wC l n).2 _ (jDf _) (by omega)
  refine List.Perm.trans ?_ b
  show((U.wC l n).1++[nth (U.wC l n).2 (U.jcG (U.wC l n).2 (U.wC l n).2.length)]++_).Perm _
  rw[jDu]
  exact List.Perm.append_left _ (jyX a)
theorem jxT {d:DyD} {n:Nat} (h:n<(U.juE d).length):U.jnB d (n+1)=U.jbW d (U.jnB d n) (nth (U.juE d) n):=by
 unfold U.jnB;rw[L.take_succ h,jDI];rfl
theorem jpJ {d:DyD} {s:ShD} (h:s∈U.juE d):s∈U.jjC (U.kg d):=by
 have b:=jik (U.jd4 d) (U.jd4 d).length (jDf _);have a:s∈U.jd4 d:=b.mem_iff.1 (jDc _ h);unfold U.jd4 U.jzj at a;obtain⟨i,hi,rfl⟩:=jDP.1 a;exact L.mem_nth (jDy.1 (jDC.1 hi).1)
theorem jhH {l:List ShD} {s:ShD} (h:s∈U.jjC l):s∈l:=by
 unfold U.jjC U.jw6 at h;obtain⟨m,_,h⟩:=List.mem_flatMap.1 h;unfold U.jy5 at h;obtain⟨i,hi,rfl⟩:=jDP.1 h;exact L.mem_nth (jDy.1 (jDC.1 hi).1)
end Go.X
namespace Go.X
open Go.Proofs
attribute [local irreducible] U.juE U.jnB U.wT U.on
end Go.X
namespace Go.X
theorem jly (c:CrD) (j:JbD) (i:Nat):(U.wt (c,j,U.jyu c j,()) (nth (U.jl c) i)=0)↔U.jar c j (i:Int)=true:=by
 show U.jte (U.juU (nth (U.jl c) i) (U.jBm j)) (!U.vH (U.fd (nth (U.jl c) i)) (U.jBl j)) (!U.vH (U.cl (nth (U.jl c) i)) (U.jBk j))=0↔
  (!(U.juU (nth (U.jl c) ((i:Int)).toNat) (U.jBm j))&&U.vH (U.fd (nth (U.jl c) ((i:Int)).toNat)) (U.jBl j)&&U.vH (U.cl (nth (U.jl c) ((i:Int)).toNat)) (U.jBk j))=true
 rw[jDm];generalize U.juU (nth (U.jl c) i) (U.jBm j)=x;generalize U.vH (U.fd (nth (U.jl c) i)) (U.jBl j)=y;generalize U.vH (U.cl (nth (U.jl c) i)) (U.jBk j)=z;cases x<;>cases y<;>cases z<;>decide
theorem jAv {c:CrD} {j:JbD} (b:U.ju c=true) (d:U.zB c j=true) (p:Nat):(p:Int)∈U.zZ c j↔p<(U.jl c).length/\U.jar c j (p:Int)=true:=by
 have a:U.zV c j=0:=(by unfold U.zV;rw[b,d];rfl);unfold U.zZ U.vE;rw[if_pos a,jDP];refine⟨fun⟨i,hi,e⟩=> ?_,fun h=>⟨p,?_,rfl⟩⟩
 .have e:i=p:=(by omega);subst e;have:=jDC.1 hi;exact⟨jDy.1 this.1,(jly c j i).1 (of_decide_eq_true this.2)⟩
 .exact jDC.2 ⟨jDy.2 h.1,decide_eq_true ((jly c j p).2 h.2)⟩
theorem jvi {l:List Int} (h:∀p∈l,0<=p/\p<8):∀n,n<=l.length->∀q,BT.has (U.wl l n) q=(l.take n).any (fun p=>decide (p.toNat=q))
 |0,_,q=>BT.has_zero q
 |n+1,c,q=>by
  have b:=jvi h n (by omega) q
  have a:=jdb h n (by omega)
  have d:=h _ (L.mem_nth (l:=l) (i:=n) (by omega))
  rw[jbX (by omega),gZ,BT.has_bor a.1 (BT.two_set (by omega)),b,BT.has_two,L.take_succ (by omega),List.any_append]
  simp
theorem jvj {l:List Int} (h:∀p∈l,0<=p/\p<8) (q:Nat):BT.has (U.jr0 l) q=l.any (fun p=>decide (p.toNat=q)):=by
 have:=jvi h l.length (jDf _) q;rw[jD3] at this;exact this
theorem jyq {d:DyD} {b:Nat} (a:b<(U.jq d).length):nth (U.jy d (U.jq d).length) b=U.jr0 (U.zZ (U.jj d) (U.jfx (nth (U.jq d) b))):=by
 unfold U.jy;rw[jD3,L.nth_map a]
theorem jBM {d:DyD} (a:U.joF d) {b:Nat} (c:b<(U.jq d).length):U.zB (U.jj d) (U.jfx (nth (U.jq d) b))=true:=
 jDO.1 a.2.1 _ (L.mem_nth c)
theorem jqW {d:DyD} (g:U.joF d) {b p:Int} (m:U.qc d b) (n:U.jsi d p):decide (vf (nth (U.jy d (U.jq d).length) b.toNat/2^p.toNat) 1=0)= !U.jar (U.jj d) (U.jfx (U.bk d b)) p:=by
 unfold U.qc at m;unfold U.jsi at n;have a:b.toNat<(U.jq d).length:=(by omega);have j:=fun q (c:q∈U.zZ (U.jj d) (U.jfx (nth (U.jq d) b.toNat)))=>jqV g.1 c
 have o:BT.Set' (U.jr0 (U.zZ (U.jj d) (U.jfx (nth (U.jq d) b.toNat)))):=(jdb j _ (jDf _)).1;have i:U.bk d b=nth (U.jq d) b.toNat:=rfl;rw[jyq a,BT.bit_num o,i];have k:=jvj j p.toNat;have f:=jAv g.1 (jBM g a) p.toNat;have ep:((p.toNat:Nat):Int)=p:=(by omega);rw[ep] at f;have l:BT.has (U.jr0 (U.zZ (U.jj d) (U.jfx (nth (U.jq d) b.toNat)))) p.toNat=U.jar (U.jj d) (U.jfx (nth (U.jq d) b.toNat)) p:=by
  rw[k];cases h:U.jar (U.jj d) (U.jfx (nth (U.jq d) b.toNat)) p with
  |true=>exact jEc.2 ⟨p,f.2 ⟨by omega,h⟩,by simp⟩
  |false=>
   refine jD1.2 fun q c e=> ?_
   have e:q.toNat=p.toNat:=of_decide_eq_true e;have:=j q c;have e:q=p:=(by omega);rw[e] at c;rw[(f.1 c).2] at h;cases h
 rw[l];cases U.jar (U.jj d) (U.jfx (nth (U.jq d) b.toNat)) p<;>rfl
theorem joh {α:Type} [Inhabited α] {R:α->α->Prop} {l:List α}:(∀i,i<l.length->∀b∈l.take i,R b (nth l i))↔l.Pairwise R:=by
 rw[jD6];refine⟨fun h i j hi a d=> ?_,fun h i hi b c=> ?_⟩
 .have:=h j a l[i] (jDY.2 ⟨i,by omega,rfl⟩);rw[L.nth_lt a] at this;exact this
 .obtain⟨k,hk,rfl⟩:=jDY.1 c;rw[L.nth_lt hi];exact h k i (by omega) hi (by omega)
theorem jvG {α:Type} [Inhabited α] {R:α->α->Prop} {l:List α}:(∀i,i<l.length->∀b∈l.drop (i+1),R (nth l i) b)↔l.Pairwise R:=by
 rw[jD6];refine⟨fun h i j hi d c=> ?_,fun h i hi b a=> ?_⟩
 .have:=h i hi l[j] (List.mem_drop_iff_getElem.2 ⟨j-(i+1),by omega,by congr 1;omega⟩);rw[L.nth_lt hi] at this;exact this
 .obtain⟨k,hk,rfl⟩:=List.mem_drop_iff_getElem.1 a;rw[L.nth_lt hi];exact h i (i+1+k) hi (by omega) (by omega)
theorem jbR (d:DyD) (a b:Int):U.yk d a b=true↔(U.gF (U.bk d a)<U.gF (U.bk d b)\/(U.gF (U.bk d a)=U.gF (U.bk d b)/\a<b)):=decide_eq_true_iff
theorem jbQ (d:DyD) (a b:Int):U.yk d a b=false↔¬(U.gF (U.bk d a)<U.gF (U.bk d b)\/(U.gF (U.bk d a)=U.gF (U.bk d b)/\a<b)):=decide_eq_false_iff_not
theorem jxu (d:DyD) (l:List Int):kx (U.yk d) l where
 irrefl x _:=(jbQ d x x).2 (by omega)
 trans x y z _ _ _ a b:=by
  have a:=(jbR d x y).1 a;have b:=(jbR d y z).1 b;exact(jbR d x z).2 (by omega)
 total x y _ _ a b:=by
  have a:=(jbQ d x y).1 a;have b:=(jbQ d y x).1 b;omega
theorem jjS {d:DyD} {a b:Int} (h:a≠b) (c:U.yk d b a=false):U.yk d a b=true:=by
 have c:=(jbQ d b a).1 c;exact(jbR d a b).2 (by omega)
theorem juB {d:DyD} {a b:Int} (c:U.yk d a b=true):U.yk d b a=false:=by
 have c:=(jbR d a b).1 c;exact(jbQ d b a).2 (by omega)
theorem jee {d:DyD} {a b:Int} (h:U.yk d a b=true):(U.ja5 d b a=decide (0<=U.kP d a b))/\(U.ja5 d a b=decide (0<=U.kP d a b)):=by
 unfold U.ja5;rw[if_pos h,juB h,if_neg (by simp)];exact⟨rfl,rfl⟩
theorem jxP {d:DyD} {a b:Int} (h:a≠b):U.ja5 d a b=U.ja5 d b a:=by
 cases c:U.yk d b a with
 |false=>have:=jee (jjS h c);rw[this.1,this.2]
 |true=>have:=jee c;rw[this.1,this.2]
def TgR (d:DyD) (a b:Int):Prop:=a≠b->U.ja5 d b a=true
theorem jvF {d:DyD} {l:List Int} (f:l.Nodup):U.jBx d l=true↔l.Pairwise (TgR d):=by
 rw[<-joh];unfold U.jBx;rw[jDO];have e:∀i,i<l.length->∀b∈l.take i,b≠nth l i:=(joh (R:=fun a b=>a≠b)).2 f;refine⟨fun h i hi b c _=> ?_,fun h i hi=>jDO.2 fun b c=> ?_⟩
 .exact jDO.1 (h i (jDy.2 hi)) b c
 .exact h i (jDy.1 hi) b c (e i (jDy.1 hi) b c)
theorem TgR.symm {d:DyD} {a b:Int} (h:TgR d a b):TgR d b a:=fun e=>(jxP (Ne.symm e)).trans (h (Ne.symm e))
theorem jwd {d:DyD} {l l':List Int} (h:l.Perm l'):U.jmv d l=U.jmv d l':=by
 unfold U.jmv;exact List.Perm.foldl_eq' (h.map _) (fun x _ y _ z=>by omega) 0
theorem jmZ (d:DyD) (p:Int) {l:List Int} (a:l.Nodup):U.wT d p l=true↔(∀b∈l,U.jar (U.jj d) (U.jfx (U.bk d b)) p=true)/\l.Pairwise (TgR d)/\U.jmv d l<=U.jtM d:=by
 unfold U.wT;rw[jDg,jDg,jDO,jvF a,decide_eq_true_iff]
theorem jlr (d:DyD) (p:Int) {l l':List Int} (h:l.Perm l') (g:l.Nodup):U.wT d p l=U.wT d p l':=by
 have f:=h.nodup_iff.1 g;refine jDQ.2 ?_;rw[jmZ d p g,jmZ d p f,jwd h,h.pairwise_iff (fun h=>TgR.symm h)];exact⟨fun⟨a,c⟩=>⟨fun b e=>a b (h.mem_iff.2 e),c⟩,fun⟨a,c⟩=>⟨fun b e=>a b (h.mem_iff.1 e),c⟩⟩
theorem jsL (d:DyD) (may:List Int) (p:Int) (s:List Int):U.jAZ d may p s=true↔(∀b∈s,decide (vf (nth may b.toNat/2^p.toNat) 1=0)=false)/\s.Pairwise (fun a b=>0<=U.kP d a b)/\U.jmv d s<=U.jtM d:=by
 rw[<-jvG];unfold U.jAZ;rw[jDg,decide_eq_true_iff,jDO,<-and_assoc];refine and_congr_left fun _=> ?_
 have e:∀i,U.jmo d may p s i=true↔decide (vf (nth may (nth s i).toNat/2^p.toNat) 1=0)=false/\∀b∈s.drop (i+1),0<=U.kP d (nth s i) b:=by
  intro i;unfold U.jmo;rw[jDH,jDD,jD1];refine and_congr_right fun _=>⟨fun h b c=> ?_,fun h b c=> ?_⟩
  .have:=h b c;simp at this;omega
  .have:=h b c;simp;omega
 refine⟨fun h=>⟨fun b c=> ?_,fun i hi=>((e i).1 (h i (jDy.2 hi))).2⟩,fun h i hi=>(e i).2 ⟨h.1 _ (L.mem_nth (jDy.1 hi)),h.2 i (jDy.1 hi)⟩⟩;obtain⟨i,hi,rfl⟩:=L.mem_iff.1 c;exact((e i).1 (h i (jDy.2 hi))).1
theorem jrC {d:DyD} {may:List Int} {p:Int} {l:List Int} (m:l.Nodup) (j:∀b∈l,decide (vf (nth may b.toNat/2^p.toNat) 1=0)= !U.jar (U.jj d) (U.jfx (U.bk d b)) p):U.jjK d may p l=U.wT d p l:=by
 have f:(U.jd d l).Perm l:=j8 l;have c:(U.jd d l).Nodup:=f.nodup_iff.2 m;have k:(U.jd d l).Pairwise (fun a b=>U.yk d b a=false):=yK (jxu d l);rw[<-jlr d p f c];unfold U.jjK;refine jDQ.2 ?_;rw[jsL,jmZ d p c];have i:=List.Pairwise.and k c;refine and_congr ⟨fun h b e=> ?_,fun h b e=> ?_⟩ (and_congr_left fun _=>⟨fun h=> ?_,fun h=> ?_⟩)
 .have g:=h b e;rw[j b (f.mem_iff.1 e)] at g;simpa using g
 .rw[j b (f.mem_iff.1 e),h b e];rfl
 .refine(List.Pairwise.and i h).imp fun{a b} x _=> ?_
  rw[(jee (jjS x.1.2 x.1.1)).1];exact decide_eq_true x.2
 .refine(List.Pairwise.and i h).imp fun{a b} x=> ?_
  have:=x.2 x.1.2;rw[(jee (jjS x.1.2 x.1.1)).1] at this;exact of_decide_eq_true this
end Go.X
namespace Go.X
theorem jby (a b:ShD):U.wI a b=true↔(U.jm9 b<U.jm9 a\/(U.jm9 a=U.jm9 b/\U.wy b<U.wy a)):=decide_eq_true_iff
theorem jeM (a b:ShD):U.wI a b=false↔¬(U.jm9 b<U.jm9 a\/(U.jm9 a=U.jm9 b/\U.wy b<U.wy a)):=decide_eq_false_iff_not
theorem yc (a:ShD):U.wI a a=false:=(jeM a a).2 (by omega)
theorem jk8 {a b:ShD} (h:U.wI a b=true):U.wI b a=false:=by
 have h:=(jby a b).1 h;exact(jeM b a).2 (by omega)
theorem jiZ {a b c:ShD} (d:U.wI a b=true) (e:U.wI b c=true):U.wI a c=true:=by
 have d:=(jby a b).1 d;have e:=(jby b c).1 e;exact(jby a c).2 (by omega)
theorem jyZ (a b:ShD):U.jp a b<0↔U.wI b a=true:=by
 rw[jby];unfold U.jp;rw[zl,kY]
 split
 .rename_i h;have c:¬U.jm9 a=U.jm9 b:=fun e=>h (q8.2 e)
  rw[jxd];omega
 .rename_i h;have d:U.jm9 a=U.jm9 b:=q8.1 (Classical.not_not.1 h);rw[jxd];omega
theorem jA5 {l:List ShD} (hi:∀a∈l,∀b∈l,U.wy a=U.wy b->a=b):kx U.jA4 l where
 irrefl x _:=yc x
 trans x y z _ _ _ c d:=jiZ d c
 total x y hx hy c d:=by
  have c:=(jeM y x).1 c;have d:=(jeM x y).1 d;exact hi x hx y hy (by omega)
theorem jwP {l:List ShD}:∀i,i<l.length->∃j,j<l.length/\nth l j=nth l i/\U.jmR l j=true:=by
 intro i
 induction i using Nat.strongRecOn with
 |_ i f=>
  intro hi;cases h:U.jmR l i with
  |true=>exact⟨i,hi,rfl,h⟩
  |false=>
   simp only[U.jmR,jD5] at h;obtain⟨x,d,e⟩:=jEc.1 h;obtain⟨k,hk,rfl⟩:=jDY.1 d;have e:l[k]=nth l i:=of_decide_eq_true e;obtain⟨j,c,a,b⟩:=f k (by omega) (by omega);exact⟨j,c,by rw[a,L.nth_lt (by omega)];exact e,b⟩
theorem jAQ {l:List ShD} {s:ShD} (h:s∈l) (d:0<=U.wy s) (e:U.wy s<=99):s∈U.jjC l:=by
 obtain⟨i,hi,rfl⟩:=L.mem_iff.1 h;obtain⟨j,c,a,b⟩:=jwP i hi;unfold U.jjC U.jw6;refine List.mem_flatMap.2 ⟨(U.wy (nth l i)).toNat,jDy.2 (by omega),?_⟩;unfold U.jy5;refine jDP.2 ⟨j,jDC.2 ⟨jDy.2 c,?_⟩,a⟩;show(decide (U.wy (nth l j)=(((U.wy (nth l i)).toNat:Nat):Int))&&U.jmR l j)=true;rw[b,a,Bool.and_true];exact decide_eq_true (by omega)
theorem jsO {l:List ShD} {n m:Nat} {s:ShD} (h:s∈U.jy5 l n m):U.wy s=(m:Int):=by
 unfold U.jy5 at h;obtain⟨i,hi,rfl⟩:=jDP.1 h;have a:=(jDC.1 hi).2;rw[jDg] at a;exact of_decide_eq_true a.1
theorem jln (l:List ShD):(U.jjC l).Nodup:=by
 unfold U.jjC U.jw6;refine List.pairwise_flatMap.2 ⟨fun m _=> ?_,?_⟩
 .unfold U.jy5;refine List.pairwise_map.2 (List.Pairwise.imp_of_mem ?_ (List.Pairwise.filter _ jEA));intro i j hi c k e;have c:=jDC.1 c;have d:=c.2;rw[jDg] at d;have f:=d.2;have n:=jDy.1 c.1;have o:((l.take j).any (fun x=>decide (x=nth l j)))=true:=
   jEc.2 ⟨nth l i,jDY.2 ⟨i,by omega,(L.nth_lt (by omega)).symm⟩,decide_eq_true e⟩
  unfold U.jmR at f;rw[o] at f;cases f
 .refine List.Pairwise.imp ?_ jEA;intro a b h x p y q e;have g:=jsO p;have d:=jsO q;rw[e] at g;omega
theorem jr2 (t s:ShD):U.yP t=U.yP s↔U.jil t=U.jil s/\U.vZ t=U.vZ s:=by
 unfold U.yP;refine⟨fun h=>⟨congrArg (·.1) h,congrArg (·.2.1) h⟩,fun h=>by rw[h.1,h.2]⟩
theorem jrx (l:List ShD) (s:ShD):U.jhI l s=true↔U.jxZ s=1/\∀t∈l,U.yP t=U.yP s->U.wI t s=false:=by
 unfold U.jhI;rw[jDg,decide_eq_true_iff,jDH,jD1];refine and_congr_right fun _=>⟨fun h t a e=> ?_,fun h t a e=> ?_⟩
 .have e:=(jr2 t s).1 e;have:=h t a;rw[e.1,e.2,decide_eq_true rfl,decide_eq_true rfl] at this;simpa using this
 .rw[jDg,jDg,decide_eq_true_iff,decide_eq_true_iff] at e;rw[h t a ((jr2 t s).2 e.1)] at e;exact absurd e.2 (by simp)
theorem jpK (d:DyD):U.jd4 d=(U.jjC (U.kg d)).filter (U.jhI (U.jjC (U.kg d))):=by
 unfold U.jd4;generalize U.jjC (U.kg d)=l;unfold U.jzj;have e:(fun i=>U.jwl l i l.length)=(U.jhI l)∘(nth l):=by
  funext i;unfold U.jwl;rw[jD3];rfl
 rw[e];have:=List.filter_map (f:=nth l) (p:=U.jhI l) (l:=List.range l.length);rw[<-this,L.range_map_nth]
theorem joJ (l:List ShD):∀n,∀i,i<n->U.wI (nth l (U.jcG l n)) (nth l i)=false
 |0,i,h=>absurd h (by omega)
 |n+1,i,h=>by
  have b:=joJ l n
  rw[jk4]
  split
  .rename_i a
   rcases Nat.lt_succ_iff_lt_or_eq.1 h with h|h
   .cases c:U.wI (nth l n) (nth l i) with
    |false=>rfl
    |true=>have:=jiZ a c;rw[b i h] at this;cases this
   .subst h;exact yc _
  .rename_i a
   rcases Nat.lt_succ_iff_lt_or_eq.1 h with h|h
   .exact b i h
   .subst h;simpa using a
theorem jvk (l:List ShD):∀n,n<=l.length->(U.wC l n).1.Pairwise (fun a b=>U.wI a b=false)/\∀a∈(U.wC l n).1,∀b∈(U.wC l n).2,U.wI a b=false
 |0,_=>⟨List.Pairwise.nil,fun a d=>by cases d⟩
 |n+1,m=>by
  obtain⟨j,g⟩:=jvk l n (by omega)
  have k:=jhx l n (by omega)
  have h:=jhB (U.wC l n).2 _ (jDf _) (by omega)
  have e:=joJ (U.wC l n).2 (U.wC l n).2.length
  have f:∀b∈(U.wC l n).2.take (U.jcG (U.wC l n).2 (U.wC l n).2.length)++(U.wC l n).2.drop (U.jcG (U.wC l n).2 (U.wC l n).2.length+1),b∈(U.wC l n).2:=by
   intro b c;rcases jDk.1 c with c|c
   .exact jEx c
   .exact jEw c
  refine⟨List.pairwise_append.2 ⟨j,List.pairwise_singleton _ _,fun a d b c=> ?_⟩,fun a d b c=> ?_⟩
  .simp at c;subst c;exact g a d _ (L.mem_nth h)
  .have c:=f b c;have d:a∈(U.wC l n).1++[nth (U.wC l n).2 (U.jcG (U.wC l n).2 (U.wC l n).2.length)]:=d;rcases jDk.1 d with d|d
   .exact g a d b c
   .simp at d;subst d;obtain⟨i,hi,rfl⟩:=L.mem_iff.1 c;exact e i hi
theorem jzU (d:DyD):juD U.jA4 (U.juE d):=(jvk (U.jd4 d) _ (jDf _)).1
theorem jlD (d:DyD):(U.juE d).Perm (U.jd4 d):=by
 have a:=jik (U.jd4 d) (U.jd4 d).length (jDf _);have b:=(jhx (U.jd4 d) (U.jd4 d).length (jDf _)).2;have:(U.wC (U.jd4 d) (U.jd4 d).length).2=[]:=List.length_eq_zero_iff.1 (by omega);rw[this,jDF] at a;exact a
theorem jss {l:List ShD} (i:l.Pairwise (fun a b=>U.wI b a=true)):∀n,n<=l.length->∀s∈l.take n,(kE (Ty.dflt tSh) (zx tSt (U.yP s) (U.zo l n))=s↔∀t∈l.take n,U.yP t=U.yP s->U.wI t s=false)
 |0,_,s,c=>by simp at c
 |n+1,k,s,c=>by
  have j:=jss i n (by omega)
  have g:(l.take (n+1)).Pairwise (fun a b=>U.wI b a=true):=i.sublist (List.take_sublist _ _)
  rw[L.take_succ (by omega)] at g c
  have f:∀t∈l.take n,U.wI (nth l n) t=true:=fun t d=>(List.pairwise_append.1 g).2.2 t d _ (by simp)
  rw[ji0 (by omega),L.take_succ (by omega)]
  by_cases hk:U.yP s=U.yP (nth l n)
  .rw[hk,M.mfind_mput]
   show nth l n=s↔_
   rcases jDk.1 c with c|c
   .refine⟨fun e=> ?_,fun h=> ?_⟩
    .have:=f s c
     rw[e,yc] at this;cases this
    .have:=h (nth l n) (by simp) rfl
     rw[f s c] at this;cases this
   .simp at c;subst c
    refine⟨fun _ t d _=> ?_,fun _=>rfl⟩
    rcases jDk.1 d with d|d
    .exact jk8 (f t d)
    .simp at d;subst d;exact yc _
  .rw[M.mfind_mput_ne hk]
   have c:s∈l.take n:=by
    rcases jDk.1 c with c|c
    .exact c
    .simp at c;subst c;exact absurd rfl hk
   rw[j s c];refine⟨fun h t d e=> ?_,fun h t d=>h t (jDc _ d)⟩;rcases jDk.1 d with d|d
   .exact h t d e
   .simp at d;subst d;exact absurd e.symm hk
theorem jvh {d:DyD} (h:U.jB d=0):(U.jN d).Pairwise (fun a b=>U.wI b a=true):=by
 have f:=jCQ h;have g:juD (U.jf tSh fun x=>(U.jp x.1 x.2.1,())) (U.jN d):=yK f;have e:∀s∈U.jN d,s∈U.jQ (U.kg d):=fun s i=>(j8 _).mem_iff.1 i
 refine List.Pairwise.imp_of_mem ?_ (List.Pairwise.and g (qw d));intro a b j k ⟨h1,h2⟩;cases c:U.jf tSh (fun x=>(U.jp x.1 x.2.1,())) a b with
 |false=>exact absurd (f.total a b (e a j) (e b k) c h1) h2
 |true=>
  have c:U.jp a b<0:=of_decide_eq_true c;exact(jyZ a b).1 c
theorem jph {d:DyD} (h:U.jB d=0) {s:ShD} (a:s∈U.jN d):U.kd (U.zo (U.jN d) (U.jN d).length) s=true↔U.jxZ s=1/\∀t∈U.jN d,U.yP t=U.yP s->U.wI t s=false:=by
 have:=jss (jvh h) (U.jN d).length (jDf _) s (by rw[jD3];exact a);rw[jD3] at this;rw[<-this];unfold U.kd;rw[jDH,jDD,jD5,jD5,decide_eq_true_iff,decide_eq_true_iff];exact and_comm
theorem jn1 {d:DyD} (h:U.zr d=true) {s:ShD} (a:s∈U.kg d):0<=U.wy s/\U.wy s<=99:=by
 have:=(zb h).2.2.2.2.2.2.2 _ a;unfold U.jbu at this;have:=of_decide_eq_true this;omega
def jpi (d:DyD):ShD->Bool:=U.kd (U.zo (U.jN d) (U.jN d).length)
theorem jzi {d:DyD} (h:U.jB d=0):(U.jN d).filter (jpi d)=U.juE d:=by
 have j:=zq h;have f:∀s,s∈U.jjC (U.kg d)↔s∈U.jN d:=fun s=>⟨fun c=>qP.2 (jhH c),fun c=>by
  have c:=qP.1 c;have:=jn1 j.1.2.2 c;exact jAQ c this.1 this.2⟩
 have g:∀s,s∈(U.jN d).filter (jpi d)↔s∈U.juE d:=by
  intro s;rw[(jlD d).mem_iff,jpK,jDC,jDC,f s];refine and_congr_right fun c=> ?_
  rw[jrx];have:=jph h c;refine this.trans (and_congr_right fun _=>⟨fun h t i=>h t ((f t).1 i),fun h t i=>h t ((f t).2 i)⟩)
 have n:((U.jN d).filter (jpi d)).Nodup:=List.Pairwise.filter _ (qw d);have o:(U.juE d).Nodup:=(jlD d).nodup_iff.2 (by rw[jpK];exact List.Pairwise.filter _ (jln _));have m:=L.perm_of_nodup n o g;refine jdQ (jA5 ?_) m ?_ (jzU d)
 .intro a k b l e;exact j.2 a (qP.1 (jDC.1 k).1) b (qP.1 (jDC.1 l).1) e
 .exact(List.Pairwise.filter _ (jvh h)).imp fun x=>jk8 x
end Go.X
namespace Go.X
namespace U
def jAg (r:List Int) (m n:Nat):List Int:=(r.take n).filter (fun x=>decide (x=(m:Int)))
def jey (r:List Int) (n:Nat):List Int:=(List.range n).flatMap (fun m=>jAg r m r.length)
end U
structure jkC (d:DyD) (x:List (List Int)×List Int) (y:List Int×List Int):Prop where
 ref:x.2=y.2
 len:y.1.length=(U.jq d).length
 set:∀b,b<(U.jq d).length->BT.Set' (nth y.1 b)
 bit:∀b,b<(U.jq d).length->∀p,BT.has (nth y.1 b) p=true↔p<(U.jl (U.jj d)).length/\(b:Int)∈nth x.1 p
theorem jmC {t:Int} (h:BT.Set' t) (p:Int):U.vH t p=BT.has t p.toNat:=BT.has_shr h p.toNat
theorem jBz {d:DyD} {x:List (List Int)×List Int} {y:List Int×List Int} (h:jkC d x y) {p:Int} (k:U.jsi d p) (j:∀b∈nth x.1 p.toNat,U.qc d b) (n:Int):n∈U.on y.1 p↔n∈nth x.1 p.toNat:=by
 unfold U.jsi at k;unfold U.on U.jdk;rw[jDP];refine⟨fun⟨i,hi,e⟩=> ?_,fun g=> ?_⟩
 .subst e;have hi:=jDC.1 hi;have a:=jDy.1 hi.1;rw[h.len] at a;have f:U.vH (nth y.1 i) p=true:=hi.2;rw[jmC (h.set i a)] at f;exact((h.bit i a p.toNat).1 f).2
 .have hk:=j n g;unfold U.qc at hk;have c:((n.toNat:Nat):Int)=n:=(by omega);refine⟨n.toNat,jDC.2 ⟨jDy.2 (by rw[h.len];omega),?_⟩,c⟩;show U.vH (nth y.1 n.toNat) p=true;rw[jmC (h.set _ (by omega))];exact(h.bit _ (by omega) _).2 ⟨by omega,by rw[c];exact g⟩
theorem jyh (t:List Int) (p:Int):(U.on t p).Nodup:=by
 unfold U.on U.jdk;refine List.pairwise_map.2 ((List.Pairwise.filter _ jEA).imp ?_);intro a b c e;omega
theorem jvR {d:DyD} {x:List (List Int)×List Int} {y:List Int×List Int} (h:jkC d x y) {p:Int} (e:U.jsi d p) (c:(nth x.1 p.toNat).Nodup) (a:∀b∈nth x.1 p.toNat,U.qc d b):(nth x.1 p.toNat).Perm (U.on y.1 p):=
 L.perm_of_nodup c (jyh _ _) (fun n=>(jBz h e a n).symm)
theorem jB8 {d:DyD} (i:U.joF d) {x:List (List Int)×List Int} {y:List Int×List Int} (h:jkC d x y) {p b:Int} (g:U.jsi d p) (e:(nth x.1 p.toNat++[b]).Nodup) (f:∀c∈nth x.1 p.toNat++[b],U.qc d c):
 U.jjK d (U.jy d (U.jq d).length) p (nth x.1 p.toNat++[b])=U.wT d p (U.on y.1 p++[b]):=by
 rw[jrC e (fun c a=>jqW i (f c a) g)];exact jlr d p ((jvR h g (jEd.1 e).1 (fun c a=>f c (jDc _ a))).append_right [b]) e
theorem jBu {d:DyD} {x:List (List Int)×List Int} {y:List Int×List Int} (h:jkC d x y) (v:x.1.length=(U.jl (U.jj d)).length) (u:(U.jl (U.jj d)).length<=8) {p b:Int} (t:U.jsi d p) (s:U.qc d b) (i:b∉nth x.1 p.toNat):
 jkC d (x.1.set p.toNat (nth x.1 p.toNat++[b]),x.2) (y.1.set b.toNat (nth y.1 b.toNat+2^p.toNat),y.2):=by
 unfold U.jsi at t;unfold U.qc at s;have r:((b.toNat:Nat):Int)=b:=(by omega);have g:b.toNat<y.1.length:=(by rw[h.len];omega);have n:p.toNat<x.1.length:=(by omega);have o:=h.set b.toNat (by omega);have m:BT.has (nth y.1 b.toNat) p.toNat=false:=by
  cases j:BT.has (nth y.1 b.toNat) p.toNat with
  |false=>rfl
  |true=>exact absurd (by have:=((h.bit _ (by omega) _).1 j).2;rw[r] at this;exact this) i
 have a:=BT.add_two o (p:=p.toNat) (by omega) m;have j:=BT.two_set (k:=p.toNat) (by omega);refine⟨h.ref,by show(y.1.set _ _).length=_;rw[List.length_set];exact h.len,fun c l=> ?_,fun c l q=> ?_⟩
 .show BT.Set' (nth (y.1.set b.toNat (nth y.1 b.toNat+2^p.toNat)) c);rw[L.nth_set g]
  split
  .rw[a];exact BT.bor_set o j
  .exact h.set c l
 .show BT.has (nth (y.1.set b.toNat (nth y.1 b.toNat+2^p.toNat)) c) q=true↔_/\(c:Int)∈nth (x.1.set p.toNat (nth x.1 p.toNat++[b])) q;rw[L.nth_set g,L.nth_set n];by_cases f:b.toNat=c
  .rw[if_pos f,a,BT.has_bor o j,BT.has_two,jEp,decide_eq_true_iff,h.bit _ (by omega),<-f,r];by_cases e:p.toNat=q
   .rw[if_pos e];refine⟨fun _=>⟨by omega,by simp⟩,fun _=> .inr e⟩
   .rw[if_neg e];exact⟨fun h=>h.elim id (fun h=>absurd h e),.inl⟩
  .rw[if_neg f,h.bit c l];by_cases e:p.toNat=q
   .rw[if_pos e,jDk,<-e];refine and_congr_right fun _=>⟨.inl,fun h=>h.elim id (fun h=> ?_)⟩
    simp at h;omega
   .rw[if_neg e]
theorem jx6 (d:DyD):jkC d (U.zW (U.jcr d) (U.jN d) 0) (List.replicate (U.jq d).length 0,[]):=by
 have c:∀b,b<(U.jq d).length->nth (List.replicate (U.jq d).length (0:Int)) b=0:=fun b a=>L.nth_rep a
 refine⟨rfl,jEf,fun b a=> ?_,fun b a p=> ?_⟩
 .show BT.Set' (nth (List.replicate (U.jq d).length (0:Int)) b);rw[c b a];exact BT.zero_set
 .show BT.has (nth (List.replicate (U.jq d).length (0:Int)) b) p=true↔_/\(b:Int)∈nth (U.jAn d) p;rw[c b a,BT.has_zero];have f:U.jyp (U.jAn d):=fun x g=>(List.mem_replicate.1 g).2
  have e:nth (U.jAn d) p=[]:=jmr f p;rw[e];simp
def jw9 (d:DyD) (i:Nat):List Int×List Int:=(((U.jN d).take i).filter (jpi d)).foldl (U.jbW d) (List.replicate (U.jq d).length 0,[])
attribute [local irreducible] U.zW U.wT U.jjK U.on jw9 U.jN jpi U.jcr U.jy in
theorem jx7 {d:DyD} (h:U.jB d=0) {i:Nat} (hi:i<(U.jN d).length) (ih:jkC d (U.zW (U.jcr d) (U.jN d) i) (jw9 d i)) (hinv:U.vX (U.jcr d) (U.jN d) i (U.zW (U.jcr d) (U.jN d) i)) (hrd:U.rd (U.jcr d)=d) (hml:U.y8 (U.jcr d)=U.jy d (U.jq d).length)
 (hx:(U.zW (U.jcr d) (U.jN d) i).1.length=(U.jl (U.jj d)).length) (hdec:jpi d=U.kd (U.zo (U.jN d) (U.jN d).length)) (hft:jw9 d (i+1)=if jpi d (nth (U.jN d) i)=true then U.jbW d (jw9 d i) (nth (U.jN d) i) else jw9 d i)
 (hnew:jpi d (nth (U.jN d) i)=true->(nth (U.zW (U.jcr d) (U.jN d) i).1 (U.vZ (nth (U.jN d) i)).toNat++[U.jil (nth (U.jN d) i)]).Nodup/\∀b∈nth (U.zW (U.jcr d) (U.jN d) i).1 (U.vZ (nth (U.jN d) i)).toNat++[U.jil (nth (U.jN d) i)],U.qc d b):
 jkC d (U.zW (U.jcr d) (U.jN d) (i+1)) (jw9 d (i+1)):=by
 have hD:=(zq h).1
 have h8:(U.jl (U.jj d)).length<=8:=(jK hD.1).2.2.1
 have hsf:=jeq hD.2.2 (qP.1 (L.mem_nth (l:=U.jN d) (i:=i) hi))
 rw[hft]
 cases hc:jpi d (nth (U.jN d) i) with
 |false=>
  rw[hdec] at hc
  rw[jlQ hi hc,if_neg (by simp)]
  exact ih
 |true=>
  have hn:=hnew hc
  have hcan:=jB8 hD ih (p:=U.vZ (nth (U.jN d) i)) (b:=U.jil (nth (U.jN d) i)) hsf.1 hn.1 hn.2
  rw[hdec] at hc
  rw[if_pos rfl]
  unfold U.jbW
  cases hk:U.wT d (U.vZ (nth (U.jN d) i)) (U.on (jw9 d i).1 (U.vZ (nth (U.jN d) i))++[U.jil (nth (U.jN d) i)]) with
  |true=>
   rw[hk] at hcan
   rw[jlP hi hc (by rw[hrd,hml];exact hcan),if_pos rfl]
   refine jBu ih hx h8 hsf.1 hsf.2 (fun hin=> ?_)
   exact(jEd.1 hn.1).2.2 _ hin _ (by simp) rfl
  |false=>
   rw[hk] at hcan
   rw[jrW hi hc (by rw[hrd,hml];exact hcan),if_neg (by simp)]
   exact⟨congrArg (·++[U.wy (nth (U.jN d) i)]) ih.ref,ih.len,ih.set,ih.bit⟩
theorem jvz {d:DyD} (h:U.jB d=0):∀i,i<=(U.jN d).length->jkC d (U.zW (U.jcr d) (U.jN d) i) (jw9 d i)
 |0,_=>jx6 d
 |i+1,hi=>by
  have k:=jvz h i (by omega)
  obtain⟨⟨_,m⟩,⟨j,b⟩,c⟩:=jn5 h
  have f:=(zq h).1
  have a:=jlR (r:=U.jcr d) (l:=U.jN d) f.2.2 (fun s e=>qP.1 e) (qw d) j b c i (by omega)
  refine jx7 h hi k a rfl rfl a.1 rfl ?_ fun g=> ?_
  .unfold jw9
   rw[L.filter_take (p:=jpi d) (l:=U.jN d) (i:=i) hi,jDI]
   split<;>rfl
  .have:=jrV (r:=U.jcr d) (l:=U.jN d) f.2.2 (fun s e=>qP.1 e) (qw d) hi a g
   exact⟨this.1,this.2.1⟩
theorem jyW {d:DyD} (h:U.jB d=0):jw9 d (U.jN d).length=U.jnC d:=by
 unfold jw9 U.jnC U.jnB;rw[jD3,jD3,jzi h]
theorem jiq {d:DyD} (h:U.jB d=0):jkC d (U.zP (U.jfv d),(U.zW (U.jcr d) (U.jN d) (U.jN d).length).2) (U.jnC d):=by
 have:=jvz h _ (jDf _);rw[jyW h] at this;exact⟨this.ref,this.len,this.set,this.bit⟩
theorem jrT (on:List (List Int)) (b:Int):∀n,n<=60->BT.Set' (U.qe on b n)/\∀q,BT.has (U.qe on b n) q=true↔q<n/\b∈nth on q
 |0,_=>⟨BT.zero_set,fun q=>by
  have:U.qe on b 0=0:=rfl
  rw[this,BT.has_zero];simp⟩
 |n+1,m=>by
  obtain⟨f,i⟩:=jrT on b n (by omega)
  have g:=BT.two_set (k:=n) (by omega)
  have a:(nth on n).any (fun x=>decide (x=b))=true↔b∈nth on n:=by
   rw[jEc];exact⟨fun⟨x,l,e⟩=>(of_decide_eq_true e)▸l,fun j=>⟨b,j,decide_eq_true rfl⟩⟩
  rw[jh3]
  split
  .rename_i c;have c:=a.1 c;rw[gZ];refine⟨BT.bor_set f g,fun q=> ?_⟩;rw[BT.has_bor f g,BT.has_two,jEp,decide_eq_true_iff,i];refine⟨fun h=>h.elim (fun h=>⟨by omega,h.2⟩) (fun h=>by subst h;exact⟨by omega,c⟩),fun h=> ?_⟩;by_cases d:q=n
   .exact .inr d.symm
   .exact .inl ⟨by omega,h.2⟩
  .rename_i c;refine⟨f,fun q=> ?_⟩;rw[i];refine⟨fun h=>⟨by omega,h.2⟩,fun h=>⟨?_,h.2⟩⟩;by_cases d:q=n
   .subst d;exact absurd (a.2 h.2) c
   .omega
theorem jz1 {d:DyD} (h:U.jB d=0) {b:Nat} (a:b<(U.jq d).length):U.jfF (U.zP (U.jfv d)) (b:Int)=nth (U.jnC d).1 b:=by
 have f:=jiq h;have c:=jkQ h;have g:=jrT (U.zP (U.jfv d)) (b:Int) (U.zP (U.jfv d)).length c.len60;refine BT.ext g.1 (f.set b a) fun p=>jDQ.2 ?_
 have e:=(g.2 p).trans (f.bit b a p|>.trans (by rw[<-c.len])).symm;exact e
theorem jBs {d:DyD} (h:U.jB d=0):U.w8 d (U.jq d).length=(U.jnC d).1:=by
 have b:=jiq h;have a:(U.w8 d (U.jq d).length).length=(U.jq d).length:=(by unfold U.w8;simp);refine L.ext_nth (by rw[a];exact b.len.symm) fun i hi=> ?_
 rw[a] at hi;unfold U.w8;rw[L.nth_map (by simpa using hi)];have:nth (List.range (U.jq d).length) i=i:=(by rw[L.nth_lt (by simpa using hi)];simp);rw[this];exact jz1 h hi
theorem juT (d:DyD):U.yo d=if U.gE d=0 then(U.jnC d).1 else[]:=by
 unfold U.yo;rw[jgL]
 split
 .rename_i h;exact jBs ((jgL d).trans h)
 .rfl
theorem jvA (d:DyD):∀n,n<=(U.juE d).length->(U.jnB d n).2.Sublist (((U.juE d).take n).map U.wy)
 |0,_=>List.nil_sublist _
 |n+1,b=>by
  have a:=jvA d n (by omega)
  rw[jxT (by omega),L.take_succ (by omega),jD9]
  unfold U.jbW
  split
  .exact a.trans (List.sublist_append_left _ _)
  .exact List.Sublist.append a (List.Sublist.refl _)
theorem jvB {d:DyD} (h:U.jB d=0):(U.jnC d).2.Nodup/\∀x∈(U.jnC d).2,0<=x/\x<=99:=by
 have c:=jvA d _ (jDf _);rw[jD3] at c;have g:=zq h;have l:(U.juE d).Nodup:=(jlD d).nodup_iff.2 (by rw[jpK];exact List.Pairwise.filter _ (jln _));refine⟨List.Pairwise.sublist c (List.pairwise_map.2 (List.Pairwise.imp_of_mem ?_ l)),fun x k=> ?_⟩
 .intro a b i j f e;exact f (g.2 a (jhH (jpJ i)) b (jhH (jpJ j)) e)
 .obtain⟨s,c,rfl⟩:=jDP.1 (c.subset k);exact jn1 g.1.2.2 (jhH (jpJ c))
theorem jtu {r:List Int} (k:r.Nodup) (h:∀x∈r,0<=x/\x<=99):U.jey r 100=U.jeo r:=by
 have e:∀m,U.jAg r m r.length=r.filter (fun x=>decide (x=(m:Int))):=fun m=>by unfold U.jAg;rw[jD3]
 have d:∀m x,x∈U.jAg r m r.length->x=(m:Int)/\x∈r:=fun m x c=>by
  rw[e m] at c;have:=jDC.1 c;exact⟨of_decide_eq_true this.2,this.1⟩
 have f:(U.jey r 100).Pairwise (fun a b=>a<=b):=by
  unfold U.jey;refine List.pairwise_flatMap.2 ⟨fun m _=> ?_,List.Pairwise.imp ?_ jEA⟩
  .refine List.Pairwise.imp_of_mem ?_ (R:=fun _ _=>True) (List.pairwise_of_forall (fun _ _=>trivial));intro a b n o _;have:=(d m a n).1;have:=(d m b o).1;omega
  .intro a b g x c y j;have:=(d a x c).1;have:=(d b y j).1;omega
 have i:(U.jey r 100).Nodup:=by
  unfold U.jey;refine List.pairwise_flatMap.2 ⟨fun m _=> ?_,List.Pairwise.imp ?_ jEA⟩
  .rw[e m];exact List.Pairwise.filter _ k
  .intro a b g x c y j l;have:=(d a x c).1;have:=(d b y j).1;omega
 have p:(U.jey r 100).Perm r:=L.perm_of_nodup i k fun x=>by
  unfold U.jey;rw[List.mem_flatMap];refine⟨fun⟨m,_,c⟩=>(d m x c).2,fun c=> ?_⟩;have q:=h x c;refine⟨x.toNat,jDy.2 (by omega),?_⟩;rw[e];exact jDC.2 ⟨c,decide_eq_true (by omega)⟩
 exact jcM (p.trans (jfK r).symm) f (jvc r)
theorem jAd (d:DyD):U.jka d=if U.gE d=0 then U.jey (U.jnC d).2 100 else[]:=by
 unfold U.jka;rw[jgL]
 split
 .rename_i h;have h:=(jgL d).trans h;have a:=jvB h;rw[jtu a.1 a.2,<-(jiq h).ref];rfl
 .rfl
end Go.X
namespace Go.X
open Go.Proofs
attribute [local irreducible] U.wC U.jcG U.jzj U.jjC U.jd4 U.juE U.jwl
end Go.X
namespace Go.X
open Go.Proofs
end Go.X
namespace Go.X
open Go.Proofs
section
attribute [local irreducible] U.jey U.jAg U.jnC U.gE
end
section
attribute [local irreducible] U.gE
end
section
attribute [local irreducible] U.wT U.on U.vH U.joF
end
section
attribute [local irreducible] U.gE U.vH
end
end Go.X
namespace Go.X
open Go.Proofs
section
attribute [local irreducible] U.gE
end
end Go.X
namespace Go.X
open Go.Proofs
section
attribute [local irreducible] U.w9
end
end Go.X


