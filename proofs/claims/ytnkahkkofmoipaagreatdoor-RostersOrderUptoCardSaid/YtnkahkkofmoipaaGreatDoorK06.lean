/-
  Part 6 of the road: a checked reading of bodies, and what the functions on it do (P10 B5 P11 B6 P12 P13 B7 P14 B8 P15 C1 PC1 PC2 PC3 PC4 C2 PC5 PC6 PC7 PC8 C3 PC9 SL PC10 S1 S2 S3 PC11 C4 PC12 PC13 PC14 S4 S5).
-/
import Derived.Test.YtnkahkkofmoipaaGreatDoorK05
namespace Go.X
open Go.Proofs
theorem zx {d:DyD} (h:U.jt d=0):U.joQ d/\∀a∈U.jh d,∀b∈U.jh d,U.kK a=U.kK b->a=b:=by
 unfold U.jt U.jj3 at h;cases c:U.jx (U.jg d) with
 |false=>rw[c] at h;simp at h
 |true=>
  cases e:U.jwM d with
  |false=>rw[c,e] at h;simp at h
  |true=>
   cases f:U.zi d with
   |false=>rw[c,e,f] at h;simp at h
   |true=>
    cases g:U.jpS (U.jJ (U.jh d)) with
    |true=>rw[c,e,f,g] at h;simp at h
    |false=>exact⟨⟨c,e,f⟩,(jxr _).1 g⟩
theorem jBw:jaR U.jq:=by
 have e:U.jq=jya (fun a b=>U.gj (U.jnr a) (U.jnr b)) (fun a b=>U.gj (U.kK a) (U.kK b)):=by
  funext a b;unfold U.jq;rw[zh,kO];rfl
 rw[e];exact jf6 (jgH jfj U.jnr) (jgH jfj U.kK)
theorem jxI {a b:ShD} (h:U.jq a b=0):U.kK a=U.kK b:=by
 unfold U.jq at h;rw[zh,kO] at h
 split at h
 .contradiction
 .exact qT.1 h
theorem jDt {d:DyD} (h:U.jt d=0):kh (U.je tSh fun x=>(U.jq x.1 x.2.1,())) (U.jJ (U.jh d)):=
 jmA jBw (fun a b e f c=>(zx h).2 a (vC.1 e) b (vC.1 f) (jxI c))
theorem gH {d:DyD} {s:ShD}:s∈U.zC d↔s∈U.jh d:=((j7 _).mem_iff).trans vC
theorem yH (d:DyD):(U.zC d).Nodup:=(j7 _).nodup_iff.2 (y8 _)
theorem jAB (d:DyD):(U.zC d).length<=(U.jh d).length:=by
 unfold U.zC U.jDL;rw[(j7 _).length_eq];exact jxz _
theorem jhV {d:DyD} (h:U.zi d=true) {s:ShD} (a:s∈U.jh d):(0<=U.jcx s/\U.jcx s<((U.jk (U.jg d)).length:Int))/\U.qY d (U.jof s):=by
 have:=(zc h).2.2.2.2.2.2.2 _ a;unfold U.yQ at this;have:=of_decide_eq_true this;unfold U.qY;omega
theorem jjj {l:List ShD} {i:Nat} (h:i<l.length):U.zr l (i+1)=jdn tSt (U.vK (nth l i)) (nth l i) (U.zr l i):=by
 unfold U.zr;rw[L.take_succ h,jEu];rfl
theorem jef {r:RoD} {l:List ShD} {i:Nat} (h:i<l.length):U.ki r l (i+1)=U.jnQ (U.rd r) (U.gU r) (U.zr l l.length) (U.ki r l i) (nth l i):=by
 unfold U.ki;rw[L.take_succ h,jEu];rfl
theorem jC3 {d:DyD} {l:List Int} (c:l.Nodup) (a:∀b∈l,U.qY d b):l.length<=(U.jr d).length:=by
 have:=L.nodup_len l ((List.range (U.jr d).length).map (fun(b:Nat)=>(b:Int))) c (fun x e=>by
  have:=a x e;unfold U.qY at this;exact jEn.2 ⟨x.toNat,jEd.2 (by omega),by omega⟩)
 simpa using this
section
variable {r:RoD} {l:List ShD} {i:Nat}
theorem jvo (u:U.zi (U.rd r)=true) (v:∀s∈l,s∈U.jh (U.rd r)) (nd:l.Nodup) (h:i<l.length) {x:List (List Int)×List Int} (y:U.vT (U.rd r,U.gU r,U.wk r,U.jCS r,()) l i x)
 (k:U.kg (U.zr l l.length) (nth l i)=true):(nth x.1 (U.jcx (nth l i)).toNat++[U.jof (nth l i)]).Nodup/\(∀b∈nth x.1 (U.jcx (nth l i)).toNat++[U.jof (nth l i)],U.qY (U.rd r) b)/\
  ∀b∈nth x.1 (U.jcx (nth l i)).toNat++[U.jof (nth l i)],∃j:Nat,j<i+1/\U.vK (nth l j)=(b,((U.jcx (nth l i)).toNat:Int),())/\ku (Ty.dflt tSh) (zp tSt (U.vK (nth l j)) (U.zr l l.length))=nth l j:=by
 obtain⟨A,B,q⟩:=y;have w:=jhV u (v _ (L.mem_nth h));have d:ku (Ty.dflt tSh) (zp tSt (U.vK (nth l i)) (U.zr l l.length))=nth l i:=by
  unfold U.kg at k;simp only[jEe,jEg,jEq,decide_eq_true_eq] at k;exact k.1
 have o:((U.jcx (nth l i)).toNat:Int)=U.jcx (nth l i):=(by omega);obtain⟨z,m⟩:=q (U.jcx (nth l i)).toNat;refine⟨?_,fun b c=> ?_,fun b c=> ?_⟩
 .refine jER.2 ⟨z,by simp,fun a t b c e=> ?_⟩;simp at c;subst c;subst e;obtain⟨_,j,n,f,g⟩:=m _ t;rw[o] at f;have p:U.vK (nth l j)=U.vK (nth l i):=f;rw[p,d] at g;have:=(List.nodup_iff_pairwise_ne.1 nd);rw[jEQ] at this;refine this j i (by omega) h n ?_;rw[<-L.nth_lt,<-L.nth_lt h];exact g.symm
 .rcases jDY.1 c with c|c
  .exact(m b c).1
  .simp at c;subst c;exact w.2
 .rcases jDY.1 c with c|c
  .obtain⟨_,j,n,f,g⟩:=m b c;exact⟨j,by omega,f,g⟩
  .simp at c;subst c;exact⟨i,by omega,by rw[o];rfl,d⟩
theorem jwT {r:RoD} {x:List (List Int)×List Int} (a:U.vT r l i x):U.vT r l (i+1) x:=
 ⟨a.1,by have:=a.2.1;omega,fun p=>⟨(a.2.2 p).1,fun b c=>⟨((a.2.2 p).2 b c).1,by
  obtain⟨j,d,e⟩:=((a.2.2 p).2 b c).2
  exact⟨j,by omega,e⟩⟩⟩⟩
theorem jzU (g:U.zi (U.rd r)=true) (j:∀s∈l,s∈U.jh (U.rd r)) (nd:l.Nodup) (h:i<l.length) {x:List (List Int)×List Int} (a:U.vT r l i x):
 U.vT r l (i+1) (U.jnQ (U.rd r) (U.gU r) (U.zr l l.length) x (nth l i)):=by
 unfold U.jnQ;cases k:U.kg (U.zr l l.length) (nth l i) with
 |false=>rw[if_neg (by simp)];exact jwT a
 |true=>
  rw[if_pos rfl];have d:=jvo g j nd h a k;have m:=jhV g (j _ (L.mem_nth h))
  split
  .refine⟨by show(x.1.set _ _).length=_;rw[List.length_set];exact a.1,by have:=a.2.1;show x.2.length<=_;omega,fun p=> ?_⟩;have c:(U.jcx (nth l i)).toNat<x.1.length:=(by rw[a.1];omega);show(nth (x.1.set (U.jcx (nth l i)).toNat (nth x.1 (U.jcx (nth l i)).toNat++[U.jof (nth l i)])) p).Nodup/\_;rw[L.nth_set c]
   split
   .rename_i e;subst e;exact⟨d.1,fun b f=>⟨d.2.1 b f,d.2.2 b f⟩⟩
   .exact(jwT a).2.2 p
  .refine⟨a.1,?_,(jwT a).2.2⟩;have:=a.2.1;show(x.2++[U.kK (nth l i)]).length<=_;rw[jD7];simp;omega
end
theorem jsD {l:List (List Int)} (h:U.jAX l) (p:Nat):nth l p=[]:=by
 by_cases a:p<l.length
 .exact h _ (L.mem_nth a)
 .unfold nth;rw[jEl,List.getElem?_eq_none (by omega)];rfl
theorem jvn {r:RoD} {l:List ShD} (a:(U.wk r).length=(U.jk (U.jg (U.rd r))).length) (c:U.jAX (U.wk r)) (d:U.jCS r=U.qZ):U.vT r l 0 (U.ki r l 0):=by
 refine⟨a,?_,fun p=> ?_⟩
 .show(U.jCS r).length<=0;rw[d];exact jDS 0
 .have e:nth (U.ki r l 0).1 p=[]:=jsD c p;rw[e];exact⟨List.nodup_nil,fun b f=>by cases f⟩
theorem jCD (m:List ((Int×Int×Unit)×ShD)) (s:ShD):U.kg m s= !(!decide (ku (Ty.dflt tSh) (zp tSt (U.vK s) m)=s)||decide (U.jx8 s≠1)):=by
 unfold U.kg;by_cases h:U.jx8 s=1<;>simp[h]
section
variable {r:RoD} {l:List ShD} {i:Nat}
theorem jsb (h:i<l.length) (a:U.kg (U.zr l l.length) (nth l i)=false):U.ki r l (i+1)=U.ki r l i:=by
 rw[jef h];unfold U.jnQ;rw[a,if_neg (by simp)]
theorem jvp (h:i<l.length) (a:U.kg (U.zr l l.length) (nth l i)=true) (b:U.jrT (U.rd r) (U.gU r) (U.jcx (nth l i)) (nth (U.ki r l i).1 (U.jcx (nth l i)).toNat++[U.jof (nth l i)])=true):
 U.ki r l (i+1)=((U.ki r l i).1.set (U.jcx (nth l i)).toNat (nth (U.ki r l i).1 (U.jcx (nth l i)).toNat++[U.jof (nth l i)]),(U.ki r l i).2):=by
 rw[jef h];unfold U.jnQ;rw[a,if_pos rfl,if_pos b]
theorem jzV (h:i<l.length) (a:U.kg (U.zr l l.length) (nth l i)=true) (b:U.jrT (U.rd r) (U.gU r) (U.jcx (nth l i)) (nth (U.ki r l i).1 (U.jcx (nth l i)).toNat++[U.jof (nth l i)])=false):
 U.ki r l (i+1)=((U.ki r l i).1,(U.ki r l i).2++[U.kK (nth l i)]):=by
 rw[jef h];unfold U.jnQ;rw[a,if_pos rfl,b,if_neg (by simp)]
end
theorem jhK:jfD:=by
 unfold jfD q92_5 q92_0 q92_4 q92_1 q92_3 q92_2;rintro⟨b,⟨⟩⟩ K;obtain⟨⟨hk,O⟩,⟨P,B⟩,C⟩:U.jyM (U.kl b):=K;have G:=(zx hk).1;have u:=G.2.2;have v:(U.jh (U.rd (U.kl b))).length<=30:=(zc u).2.2.2.2.1;have I:b.2.2.2.2.2.2.2.1.length<=30:=v;have N:(U.zC (U.rd (U.kl b))).length<=30:=jD3 (jAB _) v;have g:∀s∈U.zC (U.rd (U.kl b)),s∈U.jh (U.rd (U.kl b)):=fun s D=>gH.1 D
 have w:=yH (U.rd (U.kl b));have M:(U.jr (U.rd (U.kl b))).length<=4:=(zc u).1;refine⟨by show b.2.2.2.2.2.2.2.1.length<=100000;omega,fun _ _ _ _=>trivial,jDt hk,fun _=>⟨⟨0,⟨⟨rfl,trivial⟩,rfl,trivial⟩,jD0 _⟩,fun x J=>⟨fun h=> ?_,fun h _=>⟨⟨0,⟨⟨rfl,trivial⟩,rfl,rfl,trivial⟩,jD0 _,jvn (r:=U.kl b) P B C⟩,fun y n=>⟨fun t=> ?_,fun t=> ?_⟩⟩⟩⟩⟩
 .have h:(x:Int)<((U.zC (U.rd (U.kl b))).length:Int):=of_decide_eq_true h;have D:=jjj (l:=U.zC (U.rd (U.kl b))) (i:=x) (by omega);exact⟨by omega,h,L.in64 (by omega) (by omega),x+1,⟨⟨by simp,trivial⟩,D.symm,trivial⟩,by show x+1<=(U.zC (U.rd (U.kl b))).length;omega,by show(U.zC (U.rd (U.kl b))).length-(x+1)<(U.zC (U.rd (U.kl b))).length-x;omega⟩
 .have J:x<=(U.zC (U.rd (U.kl b))).length:=J;have h:¬(x:Int)<((U.zC (U.rd (U.kl b))).length:Int):=of_decide_eq_false h;have E:x=(U.zC (U.rd (U.kl b))).length:=(by omega);have t:(y:Int)<((U.zC (U.rd (U.kl b))).length:Int):=of_decide_eq_true t;have a:y<(U.zC (U.rd (U.kl b))).length:=(by omega);obtain⟨_,e⟩:y<=(U.zC (U.rd (U.kl b))).length/\U.vT (U.kl b) (U.zC (U.rd (U.kl b))) y (U.ki (U.kl b) (U.zC (U.rd (U.kl b))) y):=n;have c:=jzU (r:=U.kl b) u g w a e;rw[<-jef a] at c;have F:y+1<=(U.zC (U.rd (U.kl b))).length:=a;have A:(U.zC (U.rd (U.kl b))).length-(y+1)<(U.zC (U.rd (U.kl b))).length-y:=(by omega);have q:=jhV u (g _ (L.mem_nth a));have o:=jCD (U.zr (U.zC (U.rd (U.kl b))) (U.zC (U.rd (U.kl b))).length) (nth (U.zC (U.rd (U.kl b))) y);subst E;refine⟨by omega,t,fun p=> ?_,fun p=> ?_⟩
  .have f:U.kg (U.zr (U.zC (U.rd (U.kl b))) (U.zC (U.rd (U.kl b))).length) (nth (U.zC (U.rd (U.kl b))) y)=false:=by
    rw[o];have p:(!decide (ku (Ty.dflt tSh) (zp tSt (U.vK (nth (U.zC (U.rd (U.kl b))) y)) (U.zr (U.zC (U.rd (U.kl b))) (U.zC (U.rd (U.kl b))).length))=nth (U.zC (U.rd (U.kl b))) y)||decide (U.jx8 (nth (U.zC (U.rd (U.kl b))) y)≠1))=true:=p;rw[p];rfl
   have d:=jsb (r:=U.kl b) a f;exact⟨L.in64 (by omega) (by omega),y+1,⟨⟨by simp,trivial⟩,congrArg (·.2) d.symm,congrArg (·.1) d.symm,trivial⟩,⟨F,c⟩,A⟩
  .have f:U.kg (U.zr (U.zC (U.rd (U.kl b))) (U.zC (U.rd (U.kl b))).length) (nth (U.zC (U.rd (U.kl b))) y)=true:=by
    rw[o];have p:(!decide (ku (Ty.dflt tSh) (zp tSt (U.vK (nth (U.zC (U.rd (U.kl b))) y)) (U.zr (U.zC (U.rd (U.kl b))) (U.zC (U.rd (U.kl b))).length))=nth (U.zC (U.rd (U.kl b))) y)||decide (U.jx8 (nth (U.zC (U.rd (U.kl b))) y)≠1))=false:=p;rw[p];rfl
   have j:=jvo (r:=U.kl b) u g w a e f;have z:=jC3 j.1 j.2.1;have H:(nth (U.ki (U.kl b) (U.zC (U.rd (U.kl b))) y).1 (U.jcx (nth (U.zC (U.rd (U.kl b))) y)).toNat).length<=4:=by
    rw[jD7] at z;omega
   have k:0<=U.jcx (nth (U.zC (U.rd (U.kl b))) y):=q.1.1;have m:U.jcx (nth (U.zC (U.rd (U.kl b))) y)<((U.ki (U.kl b) (U.zC (U.rd (U.kl b))) y).1.length:Int):=(by rw[e.1];exact q.1.2);have Q:=e.2.1;refine⟨k,m,k,m,k,m,rfl,rfl,?_,rfl,⟨G,O⟩,q.1,⟨jD3 z (by omega),j.2.1⟩,fun n=> ?_,fun n=> ?_⟩
   .show((nth (U.ki (U.kl b) (U.zC (U.rd (U.kl b))) y).1 (U.jcx (nth (U.zC (U.rd (U.kl b))) y)).toNat).length+1)*8<=140737488355328;omega
   .have d:=jvp (r:=U.kl b) a f n;exact⟨k,m,L.in64 (by omega) (by omega),y+1,⟨⟨by simp,trivial⟩,congrArg (·.2) d.symm,congrArg (·.1) d.symm,trivial⟩,⟨F,c⟩,A⟩
   .have d:=jzV (r:=U.kl b) a f n;refine⟨?_,L.in64 (by omega) (by omega),y+1,⟨⟨by simp,trivial⟩,congrArg (·.1) d.symm,⟨rfl,rfl,rfl,rfl,rfl,rfl,rfl,rfl,trivial,trivial,trivial,trivial⟩,congrArg (·.2) d.symm,trivial⟩,⟨F,c⟩,A⟩;show((U.ki (U.kl b) (U.zC (U.rd (U.kl b))) y).2.length+1)*8<=140737488355328;omega
 .have t:¬(y:Int)<((U.zC (U.rd (U.kl b))).length:Int):=of_decide_eq_false t;have n:=n.1;have n:y<=(U.zC (U.rd (U.kl b))).length:=n;have a:y=(U.zC (U.rd (U.kl b))).length:=(by omega);subst a;exact⟨rfl,rfl⟩
theorem jkz:wC PR 120 jkt:=jyq Tryz.sortI 3 (wj Tryz.func120 (c:=zz Tryz.f120) (by kernel_rfl) (by kernel_rfl))
theorem jfX:wC PR 80 jfP:=jja jgv jhK Tryz.func80 (kcC jq5 (kcC jbl kcN)) (koC gQ (koC qM (koC jkz koN)))
end Go.X
namespace Go.X
open Go.Proofs
namespace U
def jaq (l:List Int) (n:Nat):Int:=(l.take n).foldl (fun s p=>bor s (1*2^p.toNat)) 0
def jsh (l:List Int):Int:=jaq l l.length
def kd (d:DyD) (n:Nat):List Int:=((jr d).take n).map (fun b=>jsh (v6 (jg d) (jfz b)))
def jBV (d:DyD):List (List Int):=List.replicate (jk (jg d)).length qZ
def jpP (d:DyD):RoD:=(d,kd d (jr d).length,jBV d,qZ,())
def joj (d:DyD):RoD:=(d,kd d (jr d).length,(qF (jpP d)).1,(qF (jpP d)).2,())
def zo (d:DyD):Option RoD:=if jt d=0 then some (joj d) else none
end U
def jn9:zu:=⟨[.val tDy,.nil true],[.cl (.dat (.ptr tRo)),.cl (.dat .int)],fun d=>[(U.jh d.1).length<=100000],fun d=>((U.zo d.1,U.jt d.1,()),())⟩
def jxX:Ann:=fun r=>match r with
 |8=>some fun σ=>{X:=Nat,sl:=fun i=>[(39,.dat .int (i:Int))],ob:=fun i=>[(27,some (.box 72 false (((bx σ 27).set 8 (.own (qR 27 8) .int)).set 10 (.own (qR 27 10) .int)))),(qR 27 10,some (.row 3 .int false .yes U.qZ)),(qR 27 8,some (.row 3 .int false .yes (U.kd (gb tDy σ 2) i)))],inv:=fun i=>i<=(U.jr (gb tDy σ 2)).length,mu:=fun i=>(U.jr (gb tDy σ 2)).length-i}
 |13=>some fun σ=>{X:=Nat,sl:=fun i=>[(53,.dat .int (i:Int)),(12,.dat .int (U.jaq (gd (.slice .int) σ 51) i))],ob:=fun _=>[],inv:=fun i=>i<=(gd (.slice .int) σ 51).length,mu:=fun i=>(gd (.slice .int) σ 51).length-i}
 |3000005=>some fun _=>{X:=Unit,sl:=fun _=>[],ob:=fun _=>[],inv:=fun _=>True,mu:=fun _=>0}
 |_=>none
abbrev q93_1 (d:DyD×Unit×Unit)(x:Nat):=(U.v6 d.1.1 (nth d.1.2.2.1 (x:Int).toNat).1)
abbrev q93_2 (d:DyD×Unit×Unit):=(d.1.1.1=d.1.1.1/\d.1.1.2.1=d.1.1.2.1/\d.1.1.2.2.1=d.1.1.2.2.1/\d.1.2.1=d.1.2.1/\d.1.2.2.1=d.1.2.2.1/\d.1.2.2.2.1=d.1.2.2.2.1/\d.1.2.2.2.2.1=d.1.2.2.2.2.1/\d.1.2.2.2.2.2.1=d.1.2.2.2.2.2.1/\True/\True/\True/\True)
abbrev q93_4 (d:DyD×Unit×Unit):=(d.1.1.2.1.length:Int)
abbrev q93_3 (d:DyD×Unit×Unit)(x:Nat):=(U.kl (d.1.1.1,d.1.1.2.1,d.1.1.2.2.1,d.1.2.1,d.1.2.2.1,d.1.2.2.2.1,d.1.2.2.2.2.1,d.1.2.2.2.2.2.1,U.kd d.1 x,List.replicate (q93_4 d).toNat [],U.qZ,()))
abbrev q93_0 (d:DyD×Unit×Unit)(x:Nat):=(U.jhP (d.1.1.1,d.1.1.2.1,d.1.1.2.2.1,d.1.2.1,d.1.2.2.1,d.1.2.2.2.1,d.1.2.2.2.2.1,d.1.2.2.2.2.2.1,U.kd d.1 x,List.replicate (q93_4 d).toNat [],U.qZ,()) (U.qF (q93_3 d x)))
def jnB:Prop:=∀(d:DyD×Unit×Unit),(U.jh d.1).length<=100000->(U.jh d.1).length<=100000/\(decide (U.jt d.1≠0)=true->(none,U.jt d.1,())=(U.zo d.1,U.jt d.1,())/\()=())/\(decide (U.jt d.1≠0)=false->0<=(q93_4 d)/\(q93_4 d)=(q93_4 d)/\(q93_4 d).toNat*24<=140737488355328/\((!true)=true->(!true)=true/\(!true)=true/\False)/\((!true)=false->(!true)=false/\(!true)=false/\(!true)=false/\(!true)=false/\(false=true->(none,(1:Int),())=(U.zo d.1,U.jt d.1,())/\()=())/\(false=false->d.1.2.2.1.length<4611686018427387904->(∃(x:Nat),((0=(x:Int)/\True)/\(q93_2 d)/\U.qZ=[]/\U.kd d.1 x=[]/\True)/\x<=(U.jr d.1).length)/\∀(x:Nat),x<=(U.jr d.1).length->(decide ((x:Int)<(d.1.2.2.1.length:Int))=true->0<=(x:Int)/\(x:Int)<(d.1.2.2.1.length:Int)/\((q93_1 d x).length<4611686018427387904->(∃(a:Nat),((0=(a:Int)/\0=U.jaq (q93_1 d x) a/\True)/\True)/\a<=(q93_1 d x).length)/\∀(a:Nat),a<=(q93_1 d x).length->(decide ((a:Int)<(↑(q93_1 d x).length:Int))=true->0<=(a:Int)/\(a:Int)<(↑(q93_1 d x).length:Int)/\0<=nth (q93_1 d x) (a:Int).toNat/\nth (q93_1 d x) (a:Int).toNat<=64/\jD ((1:Int)*2^(nth (q93_1 d x) (a:Int).toNat).toNat)/\jD ((a:Int)+1)/\∃(b:Nat),(((a:Int)+1=(b:Int)/\bor (U.jaq (q93_1 d x) a) ((1:Int)*2^(nth (q93_1 d x) (a:Int).toNat).toNat)=U.jaq (q93_1 d x) b/\True)/\True)/\b<=(q93_1 d x).length/\(q93_1 d x).length-b<(q93_1 d x).length-a)/\(decide ((a:Int)<(↑(q93_1 d x).length:Int))=false->((U.kd d.1 x).length+[U.jaq (q93_1 d x) a].length)*8<=140737488355328/\jD ((x:Int)+1)/\∃(b:Nat),(((x:Int)+1=(b:Int)/\True)/\U.qZ=U.qZ/\(q93_2 d)/\U.kd d.1 x++[U.jaq (q93_1 d x) a]=U.kd d.1 b/\True)/\b<=(U.jr d.1).length/\(U.jr d.1).length-b<(U.jr d.1).length-x)))/\(decide ((x:Int)<(d.1.2.2.1.length:Int))=false->U.jyM (q93_3 d x)/\(some ((((q93_0 d x).1,(q93_0 d x).2.1,(q93_0 d x).2.2.1,()),(q93_0 d x).2.2.2.1,(q93_0 d x).2.2.2.2.1,(q93_0 d x).2.2.2.2.2.1,(q93_0 d x).2.2.2.2.2.2.1,(q93_0 d x).2.2.2.2.2.2.2.1,()),(q93_0 d x).2.2.2.2.2.2.2.2.1,(q93_0 d x).2.2.2.2.2.2.2.2.2.1,(q93_0 d x).2.2.2.2.2.2.2.2.2.2.1,()),(0:Int),())=(U.zo d.1,U.jt d.1,())/\()=()))))
end Go.X
namespace Go.X
open Go.Proofs
theorem jfQ {l:List Int} {i:Nat} (h:i<l.length):U.jaq l (i+1)=bor (U.jaq l i) (1*2^(nth l i).toNat):=by
 unfold U.jaq;rw[L.take_succ h,jEu];rfl
theorem jwE {d:DyD} {i:Nat} (h:i<(U.jr d).length):U.kd d (i+1)=U.kd d i++[U.jsh (U.v6 (U.jg d) (U.jfz (nth (U.jr d) i)))]:=by
 unfold U.kd;rw[L.take_succ h,jEK];rfl
theorem jyT (d:DyD) (i:Nat):(U.kd d i).length<=i:=by
 unfold U.kd;rw[jE9,jEj];omega
theorem jwC {c:CrD} (h:U.jx c=true) {j:JbD} {p:Int} (a:p∈U.v6 c j):0<=p/\p<8:=by
 have d:=(jL h).2.2.1;unfold U.v6 at a
 split at a
 .unfold U.vq at a;obtain⟨n,b,rfl⟩:=jEn.1 a;have:=jEd.1 (jEb.1 b).1;omega
 .cases a
theorem jA2 {c:CrD} (h:U.jx c=true) (j:JbD):(U.v6 c j).length<=8:=by
 have a:=(jL h).2.2.1;unfold U.v6
 split
 .unfold U.vq;rw[jE9];exact jD3 (List.length_filter_le _ _) (by simpa using a)
 .exact jD0 _
theorem jvP {d:DyD} (h:U.jt d=0):U.jyM (U.jpP d):=by
 refine⟨⟨h,?_⟩,⟨?_,fun x a=> ?_⟩,rfl⟩
 .show(U.kd d (U.jr d).length).length=(U.jr d).length;unfold U.kd;simp
 .show(U.jBV d).length=(U.jk (U.jg d)).length;unfold U.jBV;simp
 .have a:x∈U.jBV d:=a;unfold U.jBV at a;exact(List.mem_replicate.1 a).2
theorem jrn:jnB:=by
 unfold jnB q93_0 q93_3 q93_4 q93_2 q93_1;rintro⟨d,⟨⟩,⟨⟩⟩ j;refine⟨j,fun h=>⟨?_,rfl⟩,fun h=>⟨jD9 _,rfl,?_,fun c=>(by cases c),fun _=>⟨rfl,rfl,rfl,rfl,fun c=>(by cases c),fun _=> ?_⟩⟩⟩
 .have h:U.jt d≠0:=of_decide_eq_true h;show(none,U.jt d,())=(U.zo d,U.jt d,());unfold U.zo;rw[if_neg h]
 .have hk:U.jt d=0:=Classical.not_not.1 (of_decide_eq_false h);have e:=(jL (zx hk).1.1).2.2.1;have e:d.1.2.1.length<=8:=e;show((d.1.2.1.length:Int)).toNat*24<=140737488355328;omega
 have hk:U.jt d=0:=Classical.not_not.1 (of_decide_eq_false h);clear j h;have f:=(zx hk).1;have r:=f.2.2;have g:(U.jr d).length<=4:=(zc r).1;have n:d.2.2.1.length<=4:=g;refine fun _=>⟨⟨0,⟨⟨rfl,trivial⟩,⟨rfl,rfl,rfl,rfl,rfl,rfl,rfl,rfl,trivial,trivial,trivial,trivial⟩,rfl,rfl,trivial⟩,jD0 _⟩,fun x o=>⟨fun h=>⟨by omega,of_decide_eq_true h,fun _=>⟨⟨0,⟨⟨rfl,rfl,trivial⟩,trivial⟩,jD0 _⟩,fun y p=>⟨fun a=> ?_,fun a=> ?_⟩⟩⟩,fun h=> ?_⟩⟩
 .have a:(y:Int)<((U.v6 (U.jg d) (nth d.2.2.1 (x:Int).toNat).1).length:Int):=of_decide_eq_true a;have b:y<(U.v6 (U.jg d) (nth d.2.2.1 (x:Int).toNat).1).length:=(by omega);have s:=jwC f.1 (L.mem_nth b);have k:=jfQ b;have e:=jA2 f.1 (nth d.2.2.1 (x:Int).toNat).1;have q:BT.Set' ((2:Int)^(nth (U.v6 (U.jg d) (nth d.2.2.1 (x:Int).toNat).1) y).toNat):=BT.two_set (by omega);unfold BT.Set' at q;exact⟨by omega,a,s.1,by show nth (U.v6 (U.jg d) (nth d.2.2.1 (x:Int).toNat).1) y<=64;omega,by show jD (1*2^(nth (U.v6 (U.jg d) (nth d.2.2.1 (x:Int).toNat).1) y).toNat);rw[jbh];exact L.in64 (by omega) (by omega),L.in64 (by omega) (by omega),y+1,⟨⟨by simp,k.symm,trivial⟩,trivial⟩,by show y+1<=(U.v6 (U.jg d) (nth d.2.2.1 (x:Int).toNat).1).length;omega,by show(U.v6 (U.jg d) (nth d.2.2.1 (x:Int).toNat).1).length-(y+1)<(U.v6 (U.jg d) (nth d.2.2.1 (x:Int).toNat).1).length-y;omega⟩
 .have h:(x:Int)<((U.jr d).length:Int):=of_decide_eq_true h;have k:=jwE (d:=d) (i:=x) (by omega);have j:=jyT d x;have p:y<=(U.v6 (U.jg d) (nth d.2.2.1 (x:Int).toNat).1).length:=p;have a:¬(y:Int)<((U.v6 (U.jg d) (nth d.2.2.1 (x:Int).toNat).1).length:Int):=of_decide_eq_false a;have m:y=(U.v6 (U.jg d) (nth d.2.2.1 (x:Int).toNat).1).length:=(by omega);subst m;refine⟨?_,L.in64 (by omega) (by omega),x+1,⟨⟨by simp,trivial⟩,rfl,⟨rfl,rfl,rfl,rfl,rfl,rfl,rfl,rfl,trivial,trivial,trivial,trivial⟩,k.symm,trivial⟩,by show x+1<=(U.jr d).length;omega,by show(U.jr d).length-(x+1)<(U.jr d).length-x;omega⟩;show((U.kd d x).length+1)*8<=140737488355328;omega
 .have h:¬(x:Int)<((U.jr d).length:Int):=of_decide_eq_false h;have o:x<=(U.jr d).length:=o;have l:x=(U.jr d).length:=(by omega);subst l;refine⟨jvP hk,?_⟩;refine⟨?_,rfl⟩;show(some (U.joj d),(0:Int),())=(U.zo d,U.jt d,());unfold U.zo;rw[if_pos hk,hk]
theorem jbm:wC PR 39 jn9:=jja jxX jrn Tryz.func39 (kcC jlm (kcC jyK kcN)) (koC jfX koN)
end Go.X
namespace Go.X
open Go.Proofs
namespace U
def wU (d:DyD) (n:Nat):List Int:=(List.range n).map (fun(b:Nat)=>jfH (wk (joj d)) (b:Int))
def vI (d:DyD):List Int:=if jt d=0 then wU d (jr d).length else[]
def vM (d:DyD):List Int:=if jt d=0 then jCS (joj d) else[]
def jo0 (d:DyD) (p:Int):Bool:=ja p 0 (((jk (jg d)).length:Int)-1)
def jwR (d:DyD) (b:Int):Bool:=ja b 0 (((jr d).length:Int)-1)
end U
def jtF:jR:=⟨[.val tDy],[.slice .int,.int],false,fun d=>[(U.jh d.1).length<=100000],fun d=>(U.vI d.1,U.jt d.1,())⟩
def juR:Ann:=fun r=>match r with
 |6=>some fun σ=>{X:=Nat,sl:=fun i=>[(19,.dat .int (i:Int)),(6,.own 6 .int)],ob:=fun i=>[(6,some (.row 3 .int false .yes (U.wU (gb tDy σ 1) i)))],inv:=fun i=>i<=(U.jr (gb tDy σ 1)).length,mu:=fun i=>(U.jr (gb tDy σ 1)).length-i}
 |_=>none
def jtm:Prop:=∀(d:DyD×Unit),(U.jh d.1).length<=100000->(U.jh d.1).length<=100000/\(decide (U.jt d.1≠0)=true->([],U.jt d.1,())=(U.vI d.1,U.jt d.1,()))/\(decide (U.jt d.1≠0)=false->d.1.2.2.1.length<4611686018427387904->(∃(x:Nat),((0=(x:Int)/\True/\True)/\U.wU d.1 x=[]/\True)/\x<=(U.jr d.1).length)/\∀(x:Nat),x<=(U.jr d.1).length->(decide ((x:Int)<(d.1.2.2.1.length:Int))=true->(U.zo d.1).isSome=true/\(U.wk (U.ro (U.zo d.1))).length<=60/\((U.wU d.1 x).length+[U.jfH (U.wk (U.ro (U.zo d.1))) (x:Int)].length)*8<=140737488355328/\jD ((x:Int)+1)/\∃(a:Nat),(((x:Int)+1=(a:Int)/\True/\True)/\U.wU d.1 x++[U.jfH (U.wk (U.ro (U.zo d.1))) (x:Int)]=U.wU d.1 a/\True)/\a<=(U.jr d.1).length/\(U.jr d.1).length-a<(U.jr d.1).length-x)/\(decide ((x:Int)<(d.1.2.2.1.length:Int))=false->(U.wU d.1 x,(0:Int),())=(U.vI d.1,U.jt d.1,())))
def jn3:jR:=⟨[.val tDy],[.slice .int,.int],false,fun d=>[(U.jh d.1).length<=100000],fun d=>(U.vM d.1,U.jt d.1,())⟩
def jnJ:Prop:=∀(d:DyD×Unit),(U.jh d.1).length<=100000->(U.jh d.1).length<=100000/\(decide (U.jt d.1≠0)=true->([],U.jt d.1,())=(U.vM d.1,U.jt d.1,()))/\(decide (U.jt d.1≠0)=false->(U.zo d.1).isSome=true/\((jT ((((0:Int),[],[],()),[],[],(0:Int),(0:Int),[],()),[],[],[],()) (U.zo d.1)).2.2.2.1,(0:Int),())=(U.vM d.1,U.jt d.1,()))
end Go.X
namespace Go.X
open Go.Proofs
theorem jqi {r:RoD} {l:List ShD} (d:U.zi (U.rd r)=true) (e:∀s∈l,s∈U.jh (U.rd r)) (nd:l.Nodup) (a:(U.wk r).length=(U.jk (U.jg (U.rd r))).length) (b:U.jAX (U.wk r)) (c:U.jCS r=U.qZ):
 ∀i,i<=l.length->U.vT r l i (U.ki r l i)
 |0,_=>jvn a b c
 |i+1,hi=>by
  rw[jef hi]
  exact jzU d e nd hi (jqi d e nd a b c i (by omega))
structure jBM (d:DyD):Prop where
 may:U.joP (U.joj d)
 len:(U.wk (U.joj d)).length=(U.jk (U.jg d)).length
 row:∀p,(nth (U.wk (U.joj d)) p).Nodup/\∀b∈nth (U.wk (U.joj d)) p,U.qY d b
theorem jsp {d:DyD} (h:U.jt d=0):jBM d:=by
 obtain⟨⟨_,i⟩,⟨j,c⟩,e⟩:=jvP h;have f:=(zx h).1;have a:=jqi (r:=U.jpP d) (l:=U.zC d) f.2.2 (fun s k=>gH.1 k) (yH d) j c e _ (jDS _);refine⟨⟨f,i⟩,a.1,fun p=> ?_⟩;have:=a.2.2 p;exact⟨this.1,fun b g=>(this.2 b g).1⟩
theorem jBM.len60 {d:DyD} (h:jBM d):(U.wk (U.joj d)).length<=60:=by
 have a:=(jL h.may.1.1).2.2.1;have a:(U.jk (U.jg d)).length<=8:=a;rw[h.len];omega
theorem jwa {d:DyD} (h:U.jt d=0):U.zo d=some (U.joj d):=if_pos h
theorem jtu (d:DyD) (n:Nat):U.wU d (n+1)=U.wU d n++[U.jfH (U.wk (U.joj d)) (n:Int)]:=by
 unfold U.wU;rw[jEE,jEK];rfl
theorem jw4:jtm:=by
 rintro⟨d,⟨⟩⟩ j;refine⟨j,fun h=> ?_,fun h _=>⟨⟨0,⟨⟨rfl,trivial,trivial⟩,rfl,trivial⟩,jD0 _⟩,fun x g=>⟨fun a=> ?_,fun a=> ?_⟩⟩⟩
 .have h:U.jt d≠0:=of_decide_eq_true h;show([],U.jt d,())=(U.vI d,U.jt d,());unfold U.vI;rw[if_neg h]
 .have hk:U.jt d=0:=Classical.not_not.1 (of_decide_eq_false h);have f:=jsp hk;have i:(U.jr d).length<=4:=(zc f.may.1.2.2).1;have a:(x:Int)<((U.jr d).length:Int):=of_decide_eq_true a;have k:=jtu d x;have e:(U.wU d x).length=x:=(by unfold U.wU;simp);have b:=jwa hk;refine⟨by show(U.zo d).isSome=true;rw[b];rfl,by show(U.wk (U.ro (U.zo d))).length<=60;rw[b];exact f.len60,?_,L.in64 (by omega) (by omega),x+1,⟨⟨by simp,trivial,trivial⟩,?_,trivial⟩,by show x+1<=(U.jr d).length;omega,by show(U.jr d).length-(x+1)<(U.jr d).length-x;omega⟩
  .show((U.wU d x).length+1)*8<=_;omega
  .show U.wU d x++[U.jfH (U.wk (U.ro (U.zo d))) (x:Int)]=U.wU d (x+1);rw[b,k];rfl
 .have hk:U.jt d=0:=Classical.not_not.1 (of_decide_eq_false h);have g:x<=(U.jr d).length:=g;have a:¬(x:Int)<((U.jr d).length:Int):=of_decide_eq_false a;have c:x=(U.jr d).length:=(by omega);subst c;show(U.wU d _,(0:Int),())=(U.vI d,U.jt d,());unfold U.vI;rw[if_pos hk,hk]
theorem jll:zg PR 18 jtF:=kX juR jw4 Tryz.func18 (kcC jhz kcN) (koC jbm koN)
theorem jru:jnJ:=by
 rintro⟨d,⟨⟩⟩ b;refine⟨b,fun h=> ?_,fun h=> ?_⟩
 .have h:U.jt d≠0:=of_decide_eq_true h;show([],U.jt d,())=(U.vM d,U.jt d,());unfold U.vM;rw[if_neg h]
 .have hk:U.jt d=0:=Classical.not_not.1 (of_decide_eq_false h);have a:=jwa hk;refine⟨by show(U.zo d).isSome=true;rw[a];rfl,?_⟩;show(U.jCS (U.ro (U.zo d)),(0:Int),())=(U.vM d,U.jt d,());unfold U.vM;rw[if_pos hk,hk,a];rfl
theorem jgI:zg PR 20 jn3:=jO jru Tryz.func20 kcN (koC jbm koN)
end Go.X
namespace Go.X
open Go.Proofs
theorem jc6 {l:List Int} (h:∀p∈l,0<=p/\p<8):∀n,n<=l.length->BT.Set' (U.jaq l n)/\∀q,BT.has (U.jaq l n) q=true->q<8
 |0,_=>⟨BT.zero_set,fun q a=>by rw[show U.jaq l 0=0 from rfl,BT.has_zero] at a;cases a⟩
 |n+1,d=>by
  have b:=jc6 h n (by omega)
  have e:=h _ (L.mem_nth (l:=l) (i:=n) (by omega))
  have c:BT.Set' ((2:Int)^(nth l n).toNat):=BT.two_set (by omega)
  rw[jfQ (by omega),jbh]
  refine⟨BT.bor_set b.1 c,fun q a=> ?_⟩
  rw[BT.has_bor b.1 c,jE8,BT.has_two,decide_eq_true_eq] at a
  rcases a with a|a
  .exact b.2 q a
  .omega
end Go.X
namespace Go.X
open Go.Proofs
abbrev tSe:Ty:= .st [.ptr tRo,.slice (.slice .int),.slice .int,.slice .int,.int,.bool]
abbrev jDD:Sh:= .box 70 [.dat (.ptr tRo),.row 33 (.slice .int) .unk,.row 3 .int .no,.row 3 .int .unk,.dat .int,.dat .bool]
abbrev SeD:Type:=Option RoD×List (List Int)×List Int×List Int×Int×Bool×Unit
abbrev StD:Type:=List Int×List Int×Int×Bool
namespace U
def kG (ts:List Int) (p:Int) (n:Nat):List Int:=((List.range n).filter (fun i=>decide (vF (nth ts i/2^p.toNat) 1=1))).map (fun(i:Nat)=>(i:Int))
def vk (r:RoD) (ts:List Int) (b n:Nat):Bool:=(List.range n).all (fun p=>jaP r (p:Int) (kG ts (p:Int) (b+1)))
def wR (r:RoD) (ch:List (List Int)):Nat->Nat->Int->StD->StD
 |0,_,_,x=>x
 |k+1,b,fee,x=>
  if(x.2.2.2&&decide (x.2.2.1<=fee))=true then x
  else if b=(jr (rd r)).length then(x.1,x.1,fee,true)
  else(nth ch b).foldl (fun x t=>if vk r (x.1.set b t) b (wk r).length=true then wR r ch k (b+1) (fee+vA (rd r) t) (x.1.set b t,x.2) else(x.1.set b t,x.2)) x
def jmd (r:RoD) (ch:List (List Int)) (k b:Nat) (fee:Int) (x:StD) (t:Int):StD:=
 if vk r (x.1.set b t) b (wk r).length=true then wR r ch k (b+1) (fee+vA (rd r) t) (x.1.set b t,x.2) else(x.1.set b t,x.2)
def jo (r:RoD) (ch:List (List Int)) (k b:Nat) (fee:Int) (x:StD) (n:Nat):StD:=((nth ch b).take n).foldl (jmd r ch k b fee) x
def jl (s:SeD):StD:=(s.2.2.1,s.2.2.2.1,s.2.2.2.2.1,s.2.2.2.2.2.1)
def qK (s:SeD) (x:StD):SeD:=(s.1,s.2.1,x.1,x.2.1,x.2.2.1,x.2.2.2,())
def okCh (d:DyD) (ch:List (List Int)):Prop:=ch.length=(jr d).length/\∀l∈ch,∀t∈l,0<=t/\t<256
def jt1 (k:Nat) (s:SeD) (b fee:Int):Prop:=s.1.isSome=true/\joP (ro s.1)/\(wk (ro s.1)).length=(jk (jg (rd (ro s.1)))).length/\okCh (rd (ro s.1)) s.2.1/\s.2.2.1.length=(jr (rd (ro s.1))).length/\
 (0<=b/\b<=((jr (rd (ro s.1))).length:Int)/\((jr (rd (ro s.1))).length:Int)<b+k)/\0<=fee/\fee<=8000*b
end U
def vW:zu:=⟨[.own (.cl (.row 3 .int .no)) true],[rwI],fun d=>[d.1.length<=100000],fun d=>((d.1,()),(d.1,()))⟩
def jd5:Prop:=∀(d:List Int×Unit),d.1.length<=100000->(false=true->([],())=d/\d=d)/\(false=false->(0+d.1.length)*8<=140737488355328/\([]++d.1,())=d/\d=d)
def qG (k:Nat):zu:=⟨[.own jDD true,.val .int,.val .int],[],fun d=>[U.jt1 k d.1 d.2.1 d.2.2.1],fun d=>((),(U.qK d.1 (U.wR (U.ro d.1.1) d.1.2.1 k d.2.1.toNat d.2.2.1 (U.jl d.1)),()))⟩
def jhR (k:Nat):Ann:=fun r=>match r with
 |4=>some fun σ=>{X:=Nat,sl:=fun i=>[(58,.dat .int (i:Int)),(53,.any),(55,.any)],ob:=fun i=>[(1000000,some (.box 70 false (((bx σ 1000000).set 4 (.dat .int (U.jo (U.ro (gb tSe σ 1000000).1) (gb tSe σ 1000000).2.1 k (gd .int σ 1).toNat (gd .int σ 2) (U.jl (gb tSe σ 1000000)) i).2.2.1)).set 5 (.dat .bool (U.jo (U.ro (gb tSe σ 1000000).1) (gb tSe σ 1000000).2.1 k (gd .int σ 1).toNat (gd .int σ 2) (U.jl (gb tSe σ 1000000)) i).2.2.2)))),(400002,some (.row 3 .int false .no (U.jo (U.ro (gb tSe σ 1000000).1) (gb tSe σ 1000000).2.1 k (gd .int σ 1).toNat (gd .int σ 2) (U.jl (gb tSe σ 1000000)) i).1)),(400003,some (.row 3 .int false .unk (U.jo (U.ro (gb tSe σ 1000000).1) (gb tSe σ 1000000).2.1 k (gd .int σ 1).toNat (gd .int σ 2) (U.jl (gb tSe σ 1000000)) i).2.1))],inv:=fun i=>i<=(nth (gb tSe σ 1000000).2.1 (gd .int σ 1).toNat).length/\(U.jo (U.ro (gb tSe σ 1000000).1) (gb tSe σ 1000000).2.1 k (gd .int σ 1).toNat (gd .int σ 2) (U.jl (gb tSe σ 1000000)) i).1.length=(gb tSe σ 1000000).2.2.1.length,mu:=fun i=>(nth (gb tSe σ 1000000).2.1 (gd .int σ 1).toNat).length-i}
 |8=>some fun σ=>{X:=Nat,sl:=fun p=>[(77,.dat .int (p:Int))],ob:=fun _=>[],inv:=fun p=>p<=(U.wk (U.ro (gb tSe σ 1000000).1)).length/\U.vk (U.ro (gb tSe σ 1000000).1) (gr .int σ 400002) (gd .int σ 1).toNat p=true,mu:=fun p=>(U.wk (U.ro (gb tSe σ 1000000).1)).length-p}
 |12=>some fun σ=>{X:=Nat,sl:=fun i=>[(88,.dat .int (i:Int)),(9,.own 9 .int)],ob:=fun i=>[(9,some (.row 3 .int false .yes (U.kG (gr .int σ 400002) (gd .int σ 8) i)))],inv:=fun i=>i<=(gd .int σ 1).toNat+1,mu:=fun i=>(gd .int σ 1).toNat+1-i}
 |_=>none
def jiT:Prop:=∀k:Nat,jt3 (ctx 125 [(83,ja7),(68,ja6)] [(82,vW),(41,qG k)]) (jhR k) Tryz.f41 (zz Tryz.f41) (qG (k+1))
abbrev q97_1 (d:(Option RoD×List (List Int)×List Int×List Int×Int×Bool×Unit)×Int×Int×Unit)(k:Nat)(x:Nat):=(U.jo (U.ro d.1.1) d.1.2.1 k d.2.1.toNat d.2.2.1 (U.jl d.1) x)
abbrev q97_3 (d:(Option RoD×List (List Int)×List Int×List Int×Int×Bool×Unit)×Int×Int×Unit)(k:Nat)(a:Nat):=(U.jo (U.ro d.1.1) d.1.2.1 k d.2.1.toNat d.2.2.1 (U.jl d.1) a)
abbrev q97_4 (d:(Option RoD×List (List Int)×List Int×List Int×Int×Bool×Unit)×Int×Int×Unit):=(jT ((((0:Int),[],[],()),[],[],(0:Int),(0:Int),[],()),[],[],[],()) d.1.1)
abbrev q97_5 (d:(Option RoD×List (List Int)×List Int×List Int×Int×Bool×Unit)×Int×Int×Unit):=(nth d.1.2.1 d.2.1.toNat)
abbrev q97_2 (d:(Option RoD×List (List Int)×List Int×List Int×Int×Bool×Unit)×Int×Int×Unit)(k:Nat)(x:Nat):=((q97_1 d k x).1.set d.2.1.toNat (nth (q97_5 d) (x:Int).toNat))
abbrev q97_6 (d:(Option RoD×List (List Int)×List Int×List Int×Int×Bool×Unit)×Int×Int×Unit)(k:Nat)(x:Nat):=(d.1.1,d.1.2.1,(q97_1 d k x).1.set d.2.1.toNat (nth (q97_5 d) (x:Int).toNat),(q97_1 d k x).2.1,(q97_1 d k x).2.2.1,(q97_1 d k x).2.2.2,())
abbrev q97_0 (d:(Option RoD×List (List Int)×List Int×List Int×Int×Bool×Unit)×Int×Int×Unit)(k:Nat)(x:Nat):=(U.qK (q97_6 d k x) (U.wR (U.ro d.1.1) d.1.2.1 k (d.2.1+1).toNat (d.2.2.1+U.vA (U.rd (U.ro d.1.1)) (nth (q97_5 d) (x:Int).toNat)) (U.jl (q97_6 d k x))))
abbrev q97_7 (d:(Option RoD×List (List Int)×List Int×List Int×Int×Bool×Unit)×Int×Int×Unit)(k:Nat):=(U.qK d.1 (U.wR (U.ro d.1.1) d.1.2.1 (k+1) d.2.1.toNat d.2.2.1 (U.jl d.1)),())
def jan:Prop:=∀(k:Nat) (d:(Option RoD×List (List Int)×List Int×List Int×Int×Bool×Unit)×Int×Int×Unit),U.jt1 (k+1) d.1 d.2.1 d.2.2.1->((d.1.2.2.2.2.2.1&&decide (d.1.2.2.2.2.1<=d.2.2.1))=true->()=()/\(d.1,())=(q97_7 d k))/\((d.1.2.2.2.2.2.1&&decide (d.1.2.2.2.2.1<=d.2.2.1))=false->d.1.1.isSome=true/\((q97_4 d).1.2.2.1.length<4611686018427387904->(decide (d.2.1=(↑(q97_4 d).1.2.2.1.length:Int))=true->d.1.2.2.1.length<=100000/\()=()/\((d.1.1,d.1.2.1,d.1.2.2.1,d.1.2.2.1,d.2.2.1,true,()),())=(q97_7 d k))/\(decide (d.2.1=(↑(q97_4 d).1.2.2.1.length:Int))=false->0<=d.2.1/\d.2.1<(d.1.2.1.length:Int)/\((q97_5 d).length<4611686018427387904->(∃(x:Nat),((0=(x:Int)/\True)/\(d.1.1=d.1.1/\True/\True/\True/\d.1.2.2.2.2.1=(q97_1 d k x).2.2.1/\d.1.2.2.2.2.2.1=(q97_1 d k x).2.2.2/\True)/\d.1.2.2.1=(q97_1 d k x).1/\d.1.2.2.2.1=(q97_1 d k x).2.1/\True)/\x<=(q97_5 d).length/\(q97_1 d k x).1.length=d.1.2.2.1.length)/\∀(x:Nat),x<=(q97_5 d).length/\(q97_1 d k x).1.length=d.1.2.2.1.length->(decide ((x:Int)<(↑(q97_5 d).length:Int))=true->0<=(x:Int)/\(x:Int)<(↑(q97_5 d).length:Int)/\0<=d.2.1/\d.2.1<(↑(q97_1 d k x).1.length:Int)/\d.1.1.isSome=true/\((q97_4 d).2.2.1.length<4611686018427387904->(∃(a:Nat),((0=(a:Int)/\True)/\True)/\a<=(U.wk (U.ro d.1.1)).length/\U.vk (U.ro d.1.1) (q97_2 d k x) d.2.1.toNat a=true)/\∀(a:Nat),a<=(U.wk (U.ro d.1.1)).length/\U.vk (U.ro d.1.1) (q97_2 d k x) d.2.1.toNat a=true->(decide ((a:Int)<(↑(q97_4 d).2.2.1.length:Int))=true->jD (d.2.1+1)/\(0:Int)<=0/\0<=d.2.1+1/\d.2.1+1<=(↑(q97_2 d k x).length:Int)/\((d.2.1+1).toNat-Int.toNat 0<4611686018427387904->(∃(b:Nat),((0=(b:Int)/\True/\True)/\U.kG (q97_2 d k x) (a:Int) b=[]/\True)/\b<=d.2.1.toNat+1)/\∀(b:Nat),b<=d.2.1.toNat+1->(decide ((b:Int)<(↑((d.2.1+1).toNat-Int.toNat 0):Int))=true->0<=(b:Int)/\(b:Int)<(↑((d.2.1+1).toNat-Int.toNat 0):Int)/\0<=(a:Int)/\(a:Int)<=64/\(decide (vF (nth (q97_2 d k x) (Int.toNat 0+(b:Int).toNat)/(2:Int)^(a:Int).toNat) (1:Int)=1)=true->((U.kG (q97_2 d k x) (a:Int) b).length+[(b:Int)].length)*8<=140737488355328/\jD ((b:Int)+1)/\∃(c:Nat),(((b:Int)+1=(c:Int)/\True/\True)/\U.kG (q97_2 d k x) (a:Int) b++[(b:Int)]=U.kG (q97_2 d k x) (a:Int) c/\True)/\c<=d.2.1.toNat+1/\d.2.1.toNat+1-c<d.2.1.toNat+1-b)/\(decide (vF (nth (q97_2 d k x) (Int.toNat 0+(b:Int).toNat)/(2:Int)^(a:Int).toNat) (1:Int)=1)=false->jD ((b:Int)+1)/\∃(c:Nat),((True/\(b:Int)+1=(c:Int)/\True)/\U.kG (q97_2 d k x) (a:Int) b=U.kG (q97_2 d k x) (a:Int) c/\True)/\c<=d.2.1.toNat+1/\d.2.1.toNat+1-c<d.2.1.toNat+1-b))/\(decide ((b:Int)<(↑((d.2.1+1).toNat-Int.toNat 0):Int))=false->d.1.1.isSome=true/\U.joP (U.ro d.1.1)/\U.jt2 (U.rd (U.ro d.1.1)) (a:Int)/\U.joR (U.rd (U.ro d.1.1)) (U.kG (q97_2 d k x) (a:Int) b)/\((!U.jaP (U.ro d.1.1) (a:Int) (U.kG (q97_2 d k x) (a:Int) b))=true->jD ((x:Int)+1)/\∃(c:Nat),(((x:Int)+1=(c:Int)/\True)/\(q97_1 d k x).2.1=(q97_3 d k c).2.1/\(d.1.1=d.1.1/\True/\True/\True/\(q97_1 d k x).2.2.1=(q97_3 d k c).2.2.1/\(q97_1 d k x).2.2.2=(q97_3 d k c).2.2.2/\True)/\(q97_1 d k x).1.set d.2.1.toNat (nth (q97_5 d) (x:Int).toNat)=(q97_3 d k c).1/\True)/\(c<=(q97_5 d).length/\(q97_3 d k c).1.length=d.1.2.2.1.length)/\(q97_5 d).length-c<(q97_5 d).length-x)/\((!U.jaP (U.ro d.1.1) (a:Int) (U.kG (q97_2 d k x) (a:Int) b))=false->jD ((a:Int)+1)/\∃(c:Nat),(((a:Int)+1=(c:Int)/\True)/\True)/\(c<=(U.wk (U.ro d.1.1)).length/\U.vk (U.ro d.1.1) (q97_2 d k x) d.2.1.toNat c=true)/\(U.wk (U.ro d.1.1)).length-c<(U.wk (U.ro d.1.1)).length-a))))/\(decide ((a:Int)<(↑(q97_4 d).2.2.1.length:Int))=false->jD (d.2.1+1)/\d.1.1.isSome=true/\U.jx (U.jg (U.rd (U.ro d.1.1)))=true/\0<=nth (q97_5 d) (x:Int).toNat/\nth (q97_5 d) (x:Int).toNat<=1000000/\jD (d.2.2.1+U.vA (U.rd (U.ro d.1.1)) (nth (q97_5 d) (x:Int).toNat))/\U.jt1 k (q97_6 d k x) (d.2.1+1) (d.2.2.1+U.vA (U.rd (U.ro d.1.1)) (nth (q97_5 d) (x:Int).toNat))/\jD ((x:Int)+1)/\∃(c:Nat),(((x:Int)+1=(c:Int)/\True)/\((q97_0 d k x).1=d.1.1/\True/\True/\True/\(q97_0 d k x).2.2.2.2.1=(q97_3 d k c).2.2.1/\(q97_0 d k x).2.2.2.2.2.1=(q97_3 d k c).2.2.2/\True)/\(q97_0 d k x).2.1=d.1.2.1/\(q97_0 d k x).2.2.2.1=(q97_3 d k c).2.1/\(q97_0 d k x).2.2.1=(q97_3 d k c).1/\True)/\(c<=(q97_5 d).length/\(q97_3 d k c).1.length=d.1.2.2.1.length)/\(q97_5 d).length-c<(q97_5 d).length-x)))/\(decide ((x:Int)<(↑(q97_5 d).length:Int))=false->()=()/\((d.1.1,d.1.2.1,(q97_1 d k x).1,(q97_1 d k x).2.1,(q97_1 d k x).2.2.1,(q97_1 d k x).2.2.2,()),())=(q97_7 d k))))))
theorem jcV:(jiT)=jan:=by kernel_rfl
end Go.X
namespace Go.X
open Go.Proofs
theorem jgg:jd5:=by
 rintro⟨l,⟨⟩⟩ a;have a:l.length<=100000:=a;exact⟨fun h=>(by cases h),fun _=>⟨by show(0+l.length)*8<=_;omega,rfl,rfl⟩⟩
theorem jeG:wC PR 82 vW:=jgN jgg Tryz.func82 kcN koN
theorem jtS (ts:List Int) (p:Int) (n:Nat):U.kG ts p (n+1)=U.kG ts p n++(if decide (vF (nth ts n/2^p.toNat) 1=1)=true then[(n:Int)] else[]):=by
 unfold U.kG;rw[L.range_filter_succ,jEK];by_cases h:decide (vF (nth ts n/2^p.toNat) 1=1)=true
 .rw[if_pos h,if_pos h];rfl
 .rw[if_neg h,if_neg h];rfl
theorem jox (ts:List Int) (p:Int) (n:Nat):(U.kG ts p n).length<=n:=by
 unfold U.kG;rw[jE9];exact jD3 (List.length_filter_le _ _) (by simp)
theorem jv4 {ts:List Int} {p:Int} {n:Nat} {b:Int} (h:b∈U.kG ts p n):0<=b/\b<(n:Int):=by
 unfold U.kG at h;obtain⟨i,hi,rfl⟩:=jEn.1 h;have:=jEd.1 (jEb.1 hi).1;omega
theorem jqY {r:RoD} {ts:List Int} {b n:Nat}:U.vk r ts b (n+1)=(U.vk r ts b n&&U.jaP r (n:Int) (U.kG ts (n:Int) (b+1))):=by
 unfold U.vk;rw[jEE,List.all_append];simp
theorem jow {r:RoD} {ts:List Int} {b n m:Nat} (a:m<n) (h:U.jaP r (m:Int) (U.kG ts (m:Int) (b+1))=false):U.vk r ts b n=false:=by
 unfold U.vk;rw[jEV];exact⟨m,jEd.2 a,by rw[h];simp⟩
theorem jnS {r:RoD} {ch:List (List Int)} {k b:Nat} {fee:Int} {x:StD} {n:Nat} (h:n<(nth ch b).length):U.jo r ch k b fee x (n+1)=U.jmd r ch k b fee (U.jo r ch k b fee x n) (nth (nth ch b) n):=by
 unfold U.jo;rw[L.take_succ h,jEu];rfl
theorem jnR {r:RoD} {ch:List (List Int)} {k b:Nat} {fee:Int} {x:StD} (a:(x.2.2.2&&decide (x.2.2.1<=fee))=false) (c:b≠(U.jr (U.rd r)).length):U.wR r ch (k+1) b fee x=U.jo r ch k b fee x (nth ch b).length:=by
 show(if(x.2.2.2&&decide (x.2.2.1<=fee))=true then x else if b=(U.jr (U.rd r)).length then(x.1,x.1,fee,true) else(nth ch b).foldl (U.jmd r ch k b fee) x)=_;rw[a,if_neg (by simp),if_neg c];unfold U.jo;rw[jEB (jDS _)]
mutual
theorem jyo {r:RoD} {ch:List (List Int)}:∀(k b:Nat) (fee:Int) (x:StD),(U.wR r ch k b fee x).1.length=x.1.length
 |0,_,_,_=>rfl
 |k+1,b,fee,x=>by
  by_cases a:(x.2.2.2&&decide (x.2.2.1<=fee))=true
  .show(if(x.2.2.2&&decide (x.2.2.1<=fee))=true then x else _).1.length=_
   rw[if_pos a]
  .by_cases c:b=(U.jr (U.rd r)).length
   .show(if(x.2.2.2&&decide (x.2.2.1<=fee))=true then x else if b=(U.jr (U.rd r)).length then(x.1,x.1,fee,true) else _).1.length=_
    rw[if_neg a,if_pos c]
   .rw[jnR (by simpa using a) c]
    exact jmc k b fee x _ (jDS _)
termination_by k=>(k,0)
theorem jmc {r:RoD} {ch:List (List Int)}:∀(k b:Nat) (fee:Int) (x:StD) (n:Nat),n<=(nth ch b).length->(U.jo r ch k b fee x n).1.length=x.1.length
 |_,_,_,_,0,_=>rfl
 |k,b,fee,x,n+1,h=>by
  rw[jnS h]
  have d:=jmc (r:=r) (ch:=ch) k b fee x n (by omega)
  unfold U.jmd
  split
  .rw[jyo k]
   show((U.jo r ch k b fee x n).1.set b _).length=_
   rw[List.length_set,d]
  .show((U.jo r ch k b fee x n).1.set b _).length=_
   rw[List.length_set,d]
termination_by k _ _ _ n=>(k,n+1)
end
theorem jjA:jan:=by
 unfold jan q97_7 q97_0 q97_6 q97_2 q97_5 q97_4 q97_3 q97_1;rintro k ⟨s,b,fee,⟨⟩⟩ h0;obtain⟨g,d,Q,⟨M,D⟩,S,⟨V,b1,b2⟩,f0,f1⟩:U.jt1 (k+1) s b fee:=h0;obtain⟨B,hB⟩:∃B:Nat,b=(B:Int):=⟨b.toNat,by omega⟩;subst hB;have I:=d.1;have hb4:(U.jr (U.rd (U.ro s.1))).length<=4:=(zc I.2.2).1;have h8:(U.jk (U.jg (U.rd (U.ro s.1)))).length<=8:=(jL I.1).2.2.1;refine⟨fun h=>⟨rfl,?_⟩,fun h=>⟨g,fun _=>⟨fun A=>⟨?_,rfl,?_⟩,fun A=> ?_⟩⟩⟩
 .have h:((U.jl s).2.2.2&&decide ((U.jl s).2.2.1<=fee))=true:=h;have e:U.wR (U.ro s.1) s.2.1 (k+1) B fee (U.jl s)=U.jl s:=by
   show(if((U.jl s).2.2.2&&decide ((U.jl s).2.2.1<=fee))=true then U.jl s else _)=_;rw[if_pos h]
  show(s,())=(U.qK s (U.wR (U.ro s.1) s.2.1 (k+1) B fee (U.jl s)),());rw[e];rfl
 .show s.2.2.1.length<=100000;omega
 .have A:(B:Int)=((U.jr (U.rd (U.ro s.1))).length:Int):=of_decide_eq_true A;have h:((U.jl s).2.2.2&&decide ((U.jl s).2.2.1<=fee))=false:=h;have e:U.wR (U.ro s.1) s.2.1 (k+1) B fee (U.jl s)=(s.2.2.1,s.2.2.1,fee,true):=by
   show(if((U.jl s).2.2.2&&decide ((U.jl s).2.2.1<=fee))=true then U.jl s else if B=(U.jr (U.rd (U.ro s.1))).length then((U.jl s).1,(U.jl s).1,fee,true) else _)=_;rw[h,if_neg (by simp),if_pos (by omega)];rfl
  show((s.1,s.2.1,s.2.2.1,s.2.2.1,fee,true,()),())=(U.qK s (U.wR (U.ro s.1) s.2.1 (k+1) B fee (U.jl s)),());rw[e];rfl
 have A:¬(B:Int)=((U.jr (U.rd (U.ro s.1))).length:Int):=of_decide_eq_false A;have h:((U.jl s).2.2.2&&decide ((U.jl s).2.2.1<=fee))=false:=h;have hBn:B<(U.jr (U.rd (U.ro s.1))).length:=(by omega);have C:=jnR (r:=U.ro s.1) (ch:=s.2.1) (k:=k) (b:=B) (fee:=fee) h (by omega);have u:jD ((B:Int)+1):=L.in64 (by omega) (by omega);have K:0<=(B:Int)+1:=(by omega);refine⟨V,by show(B:Int)<(s.2.1.length:Int);omega,fun E=>⟨⟨0,⟨⟨rfl,trivial⟩,⟨rfl,trivial,trivial,trivial,rfl,rfl,trivial⟩,rfl,rfl,trivial⟩,jD0 _,rfl⟩,fun x hx=>⟨fun z=> ?_,fun z=>⟨rfl,?_⟩⟩⟩⟩
 .have z:(x:Int)<((nth s.2.1 B).length:Int):=of_decide_eq_true z;have E:(nth s.2.1 B).length<4611686018427387904:=E;have m:x<(nth s.2.1 B).length:=(by omega);obtain⟨_,F⟩:x<=(nth s.2.1 B).length/\(U.jo (U.ro s.1) s.2.1 k B fee (U.jl s) x).1.length=s.2.2.1.length:=hx;have f:=jnS (r:=U.ro s.1) (ch:=s.2.1) (k:=k) (b:=B) (fee:=fee) (x:=U.jl s) m;have o:=jmc (r:=U.ro s.1) (ch:=s.2.1) k B fee (U.jl s) (x+1) (by omega);have o:(U.jo (U.ro s.1) s.2.1 k B fee (U.jl s) (x+1)).1.length=s.2.2.1.length:=o;have Z:=D _ (L.mem_nth (l:=s.2.1) (i:=B) (by omega)) _ (L.mem_nth m);have up:x+1<=(nth s.2.1 B).length:=m;have W:(nth s.2.1 B).length-(x+1)<(nth s.2.1 B).length-x:=(by omega);have tl:((U.jo (U.ro s.1) s.2.1 k B fee (U.jl s) x).1.set B (nth (nth s.2.1 B) x)).length=(U.jr (U.rd (U.ro s.1))).length:=by
   rw[List.length_set,F,S]
  refine⟨by omega,z,V,by show(B:Int)<((U.jo (U.ro s.1) s.2.1 k B fee (U.jl s) x).1.length:Int);omega,g,fun _=>⟨⟨0,⟨⟨rfl,trivial⟩,trivial⟩,jD0 _,rfl⟩,fun p Y=>⟨fun w=>⟨u,jEI 0,K,?_,fun _=>⟨⟨0,⟨⟨rfl,trivial,trivial⟩,rfl,trivial⟩,jD0 _⟩,fun j J=>⟨fun t=> ?_,fun t=> ?_⟩⟩⟩,fun w=> ?_⟩⟩⟩
  .show(B:Int)+1<=(((U.jo (U.ro s.1) s.2.1 k B fee (U.jl s) x).1.set B (nth (nth s.2.1 B) x)).length:Int);rw[tl];omega
  .have t:(j:Int)<((((B:Int)+1).toNat-Int.toNat 0:Nat):Int):=of_decide_eq_true t;have H:((B:Int)+1).toNat-Int.toNat 0=B+1:=(by simp only[Int.toNat_zero];omega);rw[H] at t;have w:(p:Int)<((U.wk (U.ro s.1)).length:Int):=of_decide_eq_true w;have J:j<=B+1:=J;have q:=jtS ((U.jo (U.ro s.1) s.2.1 k B fee (U.jl s) x).1.set B (nth (nth s.2.1 B) x)) (p:Int) j;have P:=jox ((U.jo (U.ro s.1) s.2.1 k B fee (U.jl s) x).1.set B (nth (nth s.2.1 B) x)) (p:Int) j;have e0:Int.toNat 0+(j:Int).toNat=j:=(by simp);have X:∀T:Bool,decide (vF (nth ((U.jo (U.ro s.1) s.2.1 k B fee (U.jl s) x).1.set B (nth (nth s.2.1 B) x)) (Int.toNat 0+(j:Int).toNat)/2^(p:Int).toNat) 1=1)=T->decide (vF (nth ((U.jo (U.ro s.1) s.2.1 k B fee (U.jl s) x).1.set B (nth (nth s.2.1 B) x)) j/2^(p:Int).toNat) 1=1)=T:=by
    intro T G;rw[e0] at G;exact G
   refine⟨by omega,by show(j:Int)<((((B:Int)+1).toNat-Int.toNat 0:Nat):Int);rw[H];exact t,by omega,by omega,fun a=>⟨?_,L.in64 (by omega) (by omega),j+1,⟨⟨by simp,trivial,trivial⟩,?_,trivial⟩,by show j+1<=B+1;omega,by show B+1-(j+1)<B+1-j;omega⟩,fun a=>⟨L.in64 (by omega) (by omega),j+1,⟨⟨trivial,by simp,trivial⟩,?_,trivial⟩,by show j+1<=B+1;omega,by show B+1-(j+1)<B+1-j;omega⟩⟩
   .show((U.kG ((U.jo (U.ro s.1) s.2.1 k B fee (U.jl s) x).1.set B (nth (nth s.2.1 B) x)) (p:Int) j).length+1)*8<=140737488355328;omega
   .rw[X _ a,if_pos rfl] at q;exact q.symm
   .rw[X _ a,if_neg (by simp),jEk] at q;exact q.symm
  .have t:¬(j:Int)<((((B:Int)+1).toNat-Int.toNat 0:Nat):Int):=of_decide_eq_false t;have H:((B:Int)+1).toNat-Int.toNat 0=B+1:=(by simp only[Int.toNat_zero];omega);rw[H] at t;have w:(p:Int)<((U.wk (U.ro s.1)).length:Int):=of_decide_eq_true w;have J:j<=B+1:=J;have N:j=B+1:=(by omega);subst N;have P:=jox ((U.jo (U.ro s.1) s.2.1 k B fee (U.jl s) x).1.set B (nth (nth s.2.1 B) x)) (p:Int) (B+1);obtain⟨_,y⟩:p<=(U.wk (U.ro s.1)).length/\U.vk (U.ro s.1) ((U.jo (U.ro s.1) s.2.1 k B fee (U.jl s) x).1.set B (nth (nth s.2.1 B) x)) B p=true:=Y;refine⟨g,d,⟨by omega,by show(p:Int)<((U.jk (U.jg (U.rd (U.ro s.1)))).length:Int);omega⟩,⟨by show(U.kG ((U.jo (U.ro s.1) s.2.1 k B fee (U.jl s) x).1.set B (nth (nth s.2.1 B) x)) (p:Int) (B+1)).length<=12;omega,fun c hc=> ?_⟩,fun a=> ?_,fun a=> ?_⟩
   .have:=jv4 hc;exact⟨this.1,by show c<((U.jr (U.rd (U.ro s.1))).length:Int);omega⟩
   .have a:(!U.jaP (U.ro s.1) (p:Int) (U.kG ((U.jo (U.ro s.1) s.2.1 k B fee (U.jl s) x).1.set B (nth (nth s.2.1 B) x)) (p:Int) (B+1)))=true:=a;have a:U.jaP (U.ro s.1) (p:Int) (U.kG ((U.jo (U.ro s.1) s.2.1 k B fee (U.jl s) x).1.set B (nth (nth s.2.1 B) x)) (p:Int) (B+1))=false:=(by simpa using a);have O:=jow (n:=(U.wk (U.ro s.1)).length) (by omega) a;have e:U.jo (U.ro s.1) s.2.1 k B fee (U.jl s) (x+1)=((U.jo (U.ro s.1) s.2.1 k B fee (U.jl s) x).1.set B (nth (nth s.2.1 B) x),(U.jo (U.ro s.1) s.2.1 k B fee (U.jl s) x).2):=by
     rw[f];unfold U.jmd;rw[O,if_neg (by simp)]
    exact⟨L.in64 (by omega) (by omega),x+1,⟨⟨by simp,trivial⟩,congrArg (·.2.1) e.symm,⟨rfl,trivial,trivial,trivial,congrArg (·.2.2.1) e.symm,congrArg (·.2.2.2) e.symm,trivial⟩,congrArg (·.1) e.symm,trivial⟩,⟨up,o⟩,W⟩
   .have a:(!U.jaP (U.ro s.1) (p:Int) (U.kG ((U.jo (U.ro s.1) s.2.1 k B fee (U.jl s) x).1.set B (nth (nth s.2.1 B) x)) (p:Int) (B+1)))=false:=a;have a:U.jaP (U.ro s.1) (p:Int) (U.kG ((U.jo (U.ro s.1) s.2.1 k B fee (U.jl s) x).1.set B (nth (nth s.2.1 B) x)) (p:Int) (B+1))=true:=(by simpa using a);refine⟨L.in64 (by omega) (by omega),p+1,⟨⟨by simp,trivial⟩,trivial⟩,⟨by show p+1<=(U.wk (U.ro s.1)).length;omega,?_⟩,by show(U.wk (U.ro s.1)).length-(p+1)<(U.wk (U.ro s.1)).length-p;omega⟩;show U.vk (U.ro s.1) ((U.jo (U.ro s.1) s.2.1 k B fee (U.jl s) x).1.set B (nth (nth s.2.1 B) x)) B (p+1)=true;rw[jqY,y,a];rfl
  .have w:¬(p:Int)<((U.wk (U.ro s.1)).length:Int):=of_decide_eq_false w;obtain⟨hp1,y⟩:p<=(U.wk (U.ro s.1)).length/\U.vk (U.ro s.1) ((U.jo (U.ro s.1) s.2.1 k B fee (U.jl s) x).1.set B (nth (nth s.2.1 B) x)) B p=true:=Y;have R:p=(U.wk (U.ro s.1)).length:=(by omega);subst R;have v:=jm8 I.1 (nth (nth s.2.1 B) x) _ (jDS _);have v:0<=U.vA (U.rd (U.ro s.1)) (nth (nth s.2.1 B) x)/\U.vA (U.rd (U.ro s.1)) (nth (nth s.2.1 B) x)<=1000*((U.jk (U.jg (U.rd (U.ro s.1)))).length:Int):=v;have eB:((B:Int)+1).toNat=B+1:=(by omega);have e:U.jo (U.ro s.1) s.2.1 k B fee (U.jl s) (x+1)=U.wR (U.ro s.1) s.2.1 k ((B:Int)+1).toNat (fee+U.vA (U.rd (U.ro s.1)) (nth (nth s.2.1 B) x)) ((U.jo (U.ro s.1) s.2.1 k B fee (U.jl s) x).1.set B (nth (nth s.2.1 B) x),(U.jo (U.ro s.1) s.2.1 k B fee (U.jl s) x).2):=by
    rw[f,eB];unfold U.jmd;rw[if_pos y]
   refine⟨u,g,I.1,Z.1,by show nth (nth s.2.1 B) x<=1000000;have:=Z.2;omega,?_,⟨g,d,Q,⟨M,D⟩,tl,⟨by omega,by show(B:Int)+1<=((U.jr (U.rd (U.ro s.1))).length:Int);omega,by show((U.jr (U.rd (U.ro s.1))).length:Int)<(B:Int)+1+(k:Int);omega⟩,?_,?_⟩,L.in64 (by omega) (by omega),x+1,⟨⟨by simp,trivial⟩,⟨rfl,trivial,trivial,trivial,congrArg (·.2.2.1) e.symm,congrArg (·.2.2.2) e.symm,trivial⟩,rfl,congrArg (·.2.1) e.symm,congrArg (·.1) e.symm,trivial⟩,⟨up,o⟩,W⟩
   .show jD (fee+U.vA (U.rd (U.ro s.1)) (nth (nth s.2.1 B) x));exact L.in64 (by omega) (by omega)
   .show 0<=fee+U.vA (U.rd (U.ro s.1)) (nth (nth s.2.1 B) x);omega
   .show fee+U.vA (U.rd (U.ro s.1)) (nth (nth s.2.1 B) x)<=8000*((B:Int)+1);omega
 .have z:¬(x:Int)<((nth s.2.1 B).length:Int):=of_decide_eq_false z;have hx1:x<=(nth s.2.1 B).length:=hx.1;have m:x=(nth s.2.1 B).length:=(by omega);subst m;show((s.1,s.2.1,(U.jo (U.ro s.1) s.2.1 k B fee (U.jl s) (nth s.2.1 B).length).1,(U.jo (U.ro s.1) s.2.1 k B fee (U.jl s) (nth s.2.1 B).length).2.1,(U.jo (U.ro s.1) s.2.1 k B fee (U.jl s) (nth s.2.1 B).length).2.2.1,(U.jo (U.ro s.1) s.2.1 k B fee (U.jl s) (nth s.2.1 B).length).2.2.2,()),())=(U.qK s (U.wR (U.ro s.1) s.2.1 (k+1) B fee (U.jl s)),());rw[C];rfl
theorem jas:∀k:Nat,wC PR 41 (qG k)
 |0=>⟨wj Tryz.func41 (c:=zz Tryz.f41) (by kernel_rfl) (by kernel_rfl),fun H w vals d bs _ _ _ b=>by
  obtain⟨⟨_,_,_,_,_,⟨e,f,a⟩,_⟩,_⟩:=b
  exact absurd a (by omega)⟩
 |k+1=>jA0 (jcV.mpr jjA k) Tryz.func41 (by kernel_rfl) (by kernel_rfl) (by kernel_rfl) (by kernel_rfl) (by kernel_rfl) ⟨fun _=>jbl,fun _=>jiY,trivial⟩ ⟨jeG,jas k,trivial⟩
end Go.X
namespace Go.X
open Go.Proofs
namespace U
def jBy (r:RoD) (b:Int) (t:Nat):Bool:=decide (juO (t:Int) (nth (gU r) b.toNat)=0)&&jxf (rd r) b (t:Int)
def wX (r:RoD) (b:Int) (n:Nat):List Int:=((List.range n).filter (jBy r b)).map (fun(t:Nat)=>(t:Int))
def kj (r:RoD) (n:Nat):List (List Int):=(List.range n).map (fun(b:Nat)=>wX r (b:Int) (2^(jk (jg (rd r))).length))
def jC5 (d:DyD):StD:=wR (joj d) (kj (joj d) (jr d).length) 5 0 0 (List.replicate (jr d).length 0,qZ,0,false)
def jde (d:DyD):Int:=if jt d=0 then(if(jC5 d).2.2.2=true then 0 else 3) else jt d
def jhq (d:DyD):List Int:=if jde d=0 then(jC5 d).2.1 else[]
def jhp (d:DyD):Int:=if jde d=0 then(jC5 d).2.2.1 else 0
end U
def jvw:jR:=⟨[.val tDy],[.slice .int,.int,.int],false,fun d=>[(U.jh d.1).length<=100000],fun d=>(U.jhq d.1,U.jhp d.1,U.jde d.1,())⟩
def jxY:Ann:=fun r=>match r with
 |6=>some fun σ=>{X:=Nat,sl:=fun i=>[(28,.dat .int (i:Int))],ob:=fun i=>[(24,some (.box 70 false (((bx σ 24).set 1 (.own (qR 24 1) (.slice .int))).set 3 (.own (qR 24 3) .int)))),(qR 24 3,some (.row 3 .int false .yes U.qZ)),(qR 24 1,some (.row 33 (.slice .int) false .yes (U.kj (U.ro (gd (.ptr tRo) σ 5)) i)))],inv:=fun i=>i<=(U.jr (gb tDy σ 1)).length,mu:=fun i=>(U.jr (gb tDy σ 1)).length-i}
 |10=>some fun σ=>{X:=Nat,sl:=fun t=>[(36,.dat .int (t:Int)),(8,.own 8 .int)],ob:=fun t=>[(8,some (.row 3 .int false .yes (U.wX (U.ro (gd (.ptr tRo) σ 5)) (gd .int σ 7) t)))],inv:=fun t=>t<=2^(U.jk (U.jg (gb tDy σ 1))).length,mu:=fun t=>2^(U.jk (U.jg (gb tDy σ 1))).length-t}
 |_=>none
abbrev q98_3 (d:DyD×Unit):=(U.ro (U.zo d.1))
abbrev q98_4 (d:DyD×Unit):=(jT ((((0:Int),[],[],()),[],[],(0:Int),(0:Int),[],()),[],[],[],()) (U.zo d.1))
abbrev q98_1 (a:Nat)(d:DyD×Unit)(x:Nat):=(juO (a:Int) (nth (q98_4 d).2.1 (x:Int).toNat)=0)
abbrev q98_5 (d:DyD×Unit):=(d.1.2.2.1.length:Int)
abbrev q98_2 (d:DyD×Unit)(x:Nat):=(U.zo d.1,U.kj (q98_3 d) x,List.replicate (q98_5 d).toNat (0:Int),U.qZ,(0:Int),false,())
abbrev q98_0 (d:DyD×Unit)(x:Nat):=(U.qK (q98_2 d x) (U.wR (q98_3 d) (U.kj (q98_3 d) x) 5 (Int.toNat 0) (0:Int) (U.jl (q98_2 d x))))
abbrev q98_6 (d:DyD×Unit):=(U.zo d.1=U.zo d.1/\True/\True/\True/\(0:Int)=0/\false=false/\True)
abbrev q98_7 (d:DyD×Unit):=(U.jk (U.jg d.1))
abbrev q98_8 (d:DyD×Unit):=(U.jhq d.1,U.jhp d.1,U.jde d.1,())
abbrev q98_9 (d:DyD×Unit):=(d.1.1.2.1.length:Int)
def jva:Prop:=∀(d:DyD×Unit),(U.jh d.1).length<=100000->(U.jh d.1).length<=100000/\(decide (U.jt d.1≠0)=true->([],(0:Int),U.jt d.1,())=(q98_8 d))/\(decide (U.jt d.1≠0)=false->d.1.2.2.1.length<4611686018427387904->0<=(q98_5 d)/\(q98_5 d)=(q98_5 d)/\(q98_5 d).toNat*8<=140737488355328/\(d.1.2.2.1.length<4611686018427387904->(∃(x:Nat),((0=(x:Int)/\True)/\(q98_6 d)/\U.qZ=[]/\U.kj (q98_3 d) x=[]/\True)/\x<=(U.jr d.1).length)/\∀(x:Nat),x<=(U.jr d.1).length->(decide ((x:Int)<(q98_5 d))=true->d.1.1.2.1.length<4611686018427387904->0<=(q98_9 d)/\(q98_9 d)<=64/\jD ((1:Int)*2^(q98_9 d).toNat)/\(∃(a:Nat),((0=(a:Int)/\True/\True)/\U.wX (q98_3 d) (x:Int) a=[]/\True)/\a<=2^(q98_7 d).length)/\∀(a:Nat),a<=2^(q98_7 d).length->(decide ((a:Int)<1*2^(q98_9 d).toNat)=true->(U.zo d.1).isSome=true/\0<=(x:Int)/\(x:Int)<(↑(q98_4 d).2.1.length:Int)/\(decide (q98_1 a d x)=true->(U.zo d.1).isSome=true)/\(decide (q98_1 a d x)=true->U.qY (U.rd (q98_3 d)) (x:Int))/\((decide (q98_1 a d x)&&U.jxf (U.rd (q98_3 d)) (x:Int) (a:Int))=true->((U.wX (q98_3 d) (x:Int) a).length+[(a:Int)].length)*8<=140737488355328/\jD ((a:Int)+1)/\∃(b:Nat),(((a:Int)+1=(b:Int)/\True/\True)/\U.wX (q98_3 d) (x:Int) a++[(a:Int)]=U.wX (q98_3 d) (x:Int) b/\True)/\b<=2^(q98_7 d).length/\2^(q98_7 d).length-b<2^(q98_7 d).length-a)/\((decide (q98_1 a d x)&&U.jxf (U.rd (q98_3 d)) (x:Int) (a:Int))=false->jD ((a:Int)+1)/\∃(b:Nat),((True/\(a:Int)+1=(b:Int)/\True)/\U.wX (q98_3 d) (x:Int) a=U.wX (q98_3 d) (x:Int) b/\True)/\b<=2^(q98_7 d).length/\2^(q98_7 d).length-b<2^(q98_7 d).length-a))/\(decide ((a:Int)<1*2^(q98_9 d).toNat)=false->((U.kj (q98_3 d) x).length+[U.wX (q98_3 d) (x:Int) a].length)*24<=140737488355328/\jD ((x:Int)+1)/\∃(b:Nat),(((x:Int)+1=(b:Int)/\True)/\U.qZ=U.qZ/\(q98_6 d)/\U.kj (q98_3 d) x++[U.wX (q98_3 d) (x:Int) a]=U.kj (q98_3 d) b/\True)/\b<=(U.jr d.1).length/\(U.jr d.1).length-b<(U.jr d.1).length-x))/\(decide ((x:Int)<(q98_5 d))=false->U.jt1 5 (q98_2 d x) (0:Int) (0:Int)/\((!(q98_0 d x).2.2.2.2.2.1)=true->([],(0:Int),(3:Int),())=(q98_8 d))/\((!(q98_0 d x).2.2.2.2.2.1)=false->((q98_0 d x).2.2.2.1,(q98_0 d x).2.2.2.2.1,(0:Int),())=(q98_8 d)))))
end Go.X
namespace Go.X
open Go.Proofs
theorem juJ (r:RoD) (b:Int) (n:Nat):U.wX r b (n+1)=U.wX r b n++(if U.jBy r b n=true then[(n:Int)] else[]):=by
 unfold U.wX;rw[L.range_filter_succ,jEK];by_cases h:U.jBy r b n=true
 .rw[if_pos h,if_pos h];rfl
 .rw[if_neg h,if_neg h];rfl
theorem jxM (r:RoD) (b:Int) (n:Nat):(U.wX r b n).length<=n:=by
 unfold U.wX;rw[jE9];exact jD3 (List.length_filter_le _ _) (by simp)
theorem jpC {r:RoD} {b:Int} {n:Nat} {t:Int} (h:t∈U.wX r b n):0<=t/\t<(n:Int):=by
 unfold U.wX at h;obtain⟨i,hi,rfl⟩:=jEn.1 h;have:=jEd.1 (jEb.1 hi).1;omega
theorem jxL (r:RoD) (n:Nat):U.kj r (n+1)=U.kj r n++[U.wX r (n:Int) (2^(U.jk (U.jg (U.rd r))).length)]:=by
 unfold U.kj;rw[jEE,jEK];rfl
theorem js1 (r:RoD) (n:Nat):(U.kj r n).length=n:=by unfold U.kj;simp
theorem jzT {n:Nat} (h:n<=8):(2:Nat)^n<=256:=jD3 (Nat.pow_le_pow_right (by decide) h) (by decide)
theorem jC6 {d:DyD} (hk:U.jt d=0):U.jt1 5 (some (U.joj d),U.kj (U.joj d) (U.jr d).length,List.replicate (U.jr d).length 0,U.qZ,0,false,()) 0 0:=by
 have c:=jsp hk;have i:(U.jr d).length<=4:=(zc c.may.1.2.2).1;have h:(U.jk (U.jg d)).length<=8:=(jL c.may.1.1).2.2.1;refine⟨rfl,c.may,c.len,⟨js1 _ _,fun l a t e=> ?_⟩,jEN,⟨jEI 0,by show(0:Int)<=((U.jr d).length:Int);omega,by show((U.jr d).length:Int)<0+((5:Nat):Int);omega⟩,jEI 0,by omega⟩;have a:l∈U.kj (U.joj d) (U.jr d).length:=a;unfold U.kj at a;obtain⟨b,_,rfl⟩:=jEn.1 a;have:=jpC e;have f:=jzT h;have g:(2:Nat)^(U.jk (U.jg (U.rd (U.joj d)))).length<=256:=f;have:t<((2^(U.jk (U.jg (U.rd (U.joj d)))).length:Nat):Int):=this.2;refine⟨(jpC e).1,by omega⟩
theorem jy9:jva:=by
 unfold jva q98_9 q98_8 q98_7 q98_6 q98_0 q98_2 q98_5 q98_1 q98_4 q98_3;rintro⟨d,⟨⟩⟩ A;refine⟨A,fun h=> ?_,fun h=> ?_⟩
 .have h:U.jt d≠0:=of_decide_eq_true h;have e:U.jde d=U.jt d:=(by unfold U.jde;rw[if_neg h]);show([],(0:Int),U.jt d,())=(U.jhq d,U.jhp d,U.jde d,());unfold U.jhq U.jhp;rw[e,if_neg h,if_neg h]
 have hk:U.jt d=0:=Classical.not_not.1 (of_decide_eq_false h);have m:=jsp hk;have z:(U.jr d).length<=4:=(zc m.may.1.2.2).1;have y:(U.jk (U.jg d)).length<=8:=(jL m.may.1.1).2.2.1;have s:=jzT y;have l:=jwa hk;have i:U.ro (U.zo d)=U.joj d:=(by rw[l];rfl);have r:U.rd (U.ro (U.zo d))=d:=(by rw[i];rfl);have q:(U.zo d).isSome=true:=(by rw[l];rfl);have B:(U.gU (U.ro (U.zo d))).length=(U.jr d).length:=(by rw[i];exact m.may.2);refine fun _=>⟨jD9 _,rfl,?_,fun _=>⟨⟨0,⟨⟨rfl,trivial⟩,⟨rfl,trivial,trivial,trivial,rfl,rfl,trivial⟩,rfl,rfl,trivial⟩,jD0 _⟩,fun x u=>⟨fun b _=>⟨jD9 _,?_,?_,⟨0,⟨⟨rfl,trivial,trivial⟩,rfl,trivial⟩,jD0 _⟩,fun t j=>⟨fun a=> ?_,fun a=> ?_⟩⟩,fun b=> ?_⟩⟩⟩
 .show((U.jr d).length:Int).toNat*8<=140737488355328;omega
 .show((U.jk (U.jg d)).length:Int)<=64;omega
 .show jD (1*2^((U.jk (U.jg d)).length:Int).toNat);rw[jbh,jDR];have a:BT.Set' ((2:Int)^(U.jk (U.jg d)).length):=BT.two_set (by omega);unfold BT.Set' at a;exact L.in64 (by omega) (by omega)
 .have b:(x:Int)<((U.jr d).length:Int):=of_decide_eq_true b;have j:t<=2^(U.jk (U.jg d)).length:=j;have a:(t:Int)<1*2^((U.jk (U.jg d)).length:Int).toNat:=of_decide_eq_true a;rw[jbh,jDR,BT.two_nat] at a;have a:t<2^(U.jk (U.jg d)).length:=(by omega);have f:=juJ (U.ro (U.zo d)) (x:Int) t;have g:=jxM (U.ro (U.zo d)) (x:Int) t;have w:U.qY (U.rd (U.ro (U.zo d))) (x:Int):=(by rw[r];exact⟨by omega,b⟩);have v:t+1<=2^(U.jk (U.jg d)).length:=(by omega);have p:2^(U.jk (U.jg d)).length-(t+1)<2^(U.jk (U.jg d)).length-t:=(by omega);refine⟨q,by omega,by show(x:Int)<((U.gU (U.ro (U.zo d))).length:Int);omega,fun _=>q,fun _=>w,fun c=> ?_,fun c=> ?_⟩
  .have c:U.jBy (U.ro (U.zo d)) (x:Int) t=true:=c;refine⟨?_,L.in64 (by omega) (by omega),t+1,⟨⟨by simp,trivial,trivial⟩,?_,trivial⟩,v,p⟩
   .show((U.wX (U.ro (U.zo d)) (x:Int) t).length+1)*8<=140737488355328;omega
   .rw[if_pos c] at f;exact f.symm
  .have c:U.jBy (U.ro (U.zo d)) (x:Int) t=false:=c;refine⟨L.in64 (by omega) (by omega),t+1,⟨⟨trivial,by simp,trivial⟩,?_,trivial⟩,v,p⟩;rw[if_neg (by rw[c];simp),jEk] at f;exact f.symm
 .have b:(x:Int)<((U.jr d).length:Int):=of_decide_eq_true b;have j:t<=2^(U.jk (U.jg d)).length:=j;have a:¬(t:Int)<1*2^((U.jk (U.jg d)).length:Int).toNat:=of_decide_eq_false a;rw[jbh,jDR,BT.two_nat] at a;have n:t=2^(U.jk (U.jg d)).length:=(by omega);have f:=jxL (U.ro (U.zo d)) x;rw[r,<-n] at f;have g:=js1 (U.ro (U.zo d)) x;refine⟨?_,L.in64 (by omega) (by omega),x+1,⟨⟨by simp,trivial⟩,rfl,⟨rfl,trivial,trivial,trivial,rfl,rfl,trivial⟩,f.symm,trivial⟩,by show x+1<=(U.jr d).length;omega,by show(U.jr d).length-(x+1)<(U.jr d).length-x;omega⟩;show((U.kj (U.ro (U.zo d)) x).length+1)*24<=140737488355328;omega
 .have b:¬(x:Int)<((U.jr d).length:Int):=of_decide_eq_false b;have u:x<=(U.jr d).length:=u;have o:x=(U.jr d).length:=(by omega);subst o;have k:U.wR (U.ro (U.zo d)) (U.kj (U.ro (U.zo d)) (U.jr d).length) 5 (Int.toNat 0) 0 (U.jl (U.zo d,U.kj (U.ro (U.zo d)) (U.jr d).length,List.replicate ((U.jr d).length:Int).toNat 0,U.qZ,0,false,()))=U.jC5 d:=by
   rw[i,jDR];rfl
  refine⟨?_,fun a=> ?_,fun a=> ?_⟩
  .show U.jt1 5 (U.zo d,U.kj (U.ro (U.zo d)) (U.jr d).length,List.replicate ((U.jr d).length:Int).toNat 0,U.qZ,0,false,()) 0 0;rw[i,l,jDR];exact jC6 hk
  .have a:(!(U.wR (U.ro (U.zo d)) (U.kj (U.ro (U.zo d)) (U.jr d).length) 5 (Int.toNat 0) 0 (U.jl (U.zo d,U.kj (U.ro (U.zo d)) (U.jr d).length,List.replicate ((U.jr d).length:Int).toNat 0,U.qZ,0,false,()))).2.2.2)=true:=a;rw[k] at a;have a:(U.jC5 d).2.2.2=false:=(by simpa using a);have e:U.jde d=3:=(by unfold U.jde;rw[if_pos hk,a,if_neg (by simp)]);show([],(0:Int),(3:Int),())=(U.jhq d,U.jhp d,U.jde d,());unfold U.jhq U.jhp;rw[e];rfl
  .have a:(!(U.wR (U.ro (U.zo d)) (U.kj (U.ro (U.zo d)) (U.jr d).length) 5 (Int.toNat 0) 0 (U.jl (U.zo d,U.kj (U.ro (U.zo d)) (U.jr d).length,List.replicate ((U.jr d).length:Int).toNat 0,U.qZ,0,false,()))).2.2.2)=false:=a;rw[k] at a;have a:(U.jC5 d).2.2.2=true:=(by simpa using a);have e:U.jde d=0:=(by unfold U.jde;rw[if_pos hk,a,if_pos rfl]);show((U.wR (U.ro (U.zo d)) (U.kj (U.ro (U.zo d)) (U.jr d).length) 5 (Int.toNat 0) 0 (U.jl (U.zo d,U.kj (U.ro (U.zo d)) (U.jr d).length,List.replicate ((U.jr d).length:Int).toNat 0,U.qZ,0,false,()))).2.1,(U.wR (U.ro (U.zo d)) (U.kj (U.ro (U.zo d)) (U.jr d).length) 5 (Int.toNat 0) 0 (U.jl (U.zo d,U.kj (U.ro (U.zo d)) (U.jr d).length,List.replicate ((U.jr d).length:Int).toNat 0,U.qZ,0,false,()))).2.2.1,(0:Int),())=(U.jhq d,U.jhp d,U.jde d,());rw[k];unfold U.jhq U.jhp;rw[e];rfl
theorem jwi:zg PR 12 jvw:=kX jxY jy9 Tryz.func12 (kcC jhA kcN) (koC jbm (koC (jas 5) koN))
end Go.X
namespace Go.X
open Go.Proofs
def jn5:jR:=⟨[.val .int,.val .int,.val .int],[.bool],false,fun _=>[],fun d=>(U.ja d.1 d.2.1 d.2.2.1,())⟩
def jnL:Prop:=∀(d:Int×Int×Int×Unit),(decide (d.2.1<=d.1)&&decide (d.1<=d.2.2.1),())=(U.ja d.1 d.2.1 d.2.2.1,())
def jn6:jR:=⟨[.val tCr],[.bool],false,fun _=>[],fun d=>(U.jx d.1,())⟩
def jpG:Ann:=fun r=>match r with
 |4=>some fun σ=>{X:=Nat,sl:=fun i=>[(3,.dat .int (i:Int))],ob:=fun _=>[],inv:=fun i=>i<=(U.jk (gb tCr σ 1)).length/\∀j:Nat,j<i->U.yp (U.la (gb tCr σ 1)) (nth (U.jk (gb tCr σ 1)) j)=true,mu:=fun i=>(U.jk (gb tCr σ 1)).length-i}
 |10=>some fun σ=>{X:=Nat,sl:=fun i=>[(5,.dat .int (i:Int))],ob:=fun _=>[],inv:=fun i=>i<=(U.lv (gb tPe σ 4)).length/\∀j:Nat,j<i->U.ja (nth (U.lv (gb tPe σ 4)) j) 0 5=true,mu:=fun i=>(U.lv (gb tPe σ 4)).length-i}
 |15=>some fun σ=>{X:=Nat,sl:=fun i=>[(6,.dat .int (i:Int))],ob:=fun _=>[],inv:=fun i=>i<=(U.zN (gb tPe σ 4)).length/\∀j:Nat,j<i->U.ja (nth (U.zN (gb tPe σ 4)) j) 0 99=true,mu:=fun i=>(U.zN (gb tPe σ 4)).length-i}
 |20=>some fun σ=>{X:=Nat,sl:=fun i=>[(7,.dat .int (i:Int))],ob:=fun _=>[],inv:=fun i=>i<=(U.zq (gb tCr σ 1)).length/\∀j:Nat,j<i->U.yR (nth (U.zq (gb tCr σ 1)) j)=true,mu:=fun i=>(U.zq (gb tCr σ 1)).length-i}
 |_=>none
abbrev q100_0 (d:CrD×Unit)(x:Nat):=(nth d.1.2.1 (x:Int).toNat)
abbrev q100_2 (d:CrD×Unit)(x:Nat):=(!U.ja (nth d.1.2.2.1 (x:Int).toNat).1 (1:Int) (5:Int)|| !U.ja (nth d.1.2.2.1 (x:Int).toNat).2.1 (1:Int) (8:Int))
abbrev q100_4 (d:CrD×Unit)(x:Nat):=(↑(q100_0 d x).1.length:Int)
abbrev q100_5 (d:CrD×Unit)(x:Nat):=(↑(q100_0 d x).2.2.2.1.length:Int)
abbrev q100_1 (d:CrD×Unit)(x:Nat):=(decide ((q100_4 d x)≠d.1.1)|| !U.ja (q100_0 d x).2.1 (0:Int) (255:Int)|| !U.ja (q100_0 d x).2.2.1 (0:Int) (255:Int)||decide ((10:Int)<(q100_5 d x))|| !U.ja (q100_0 d x).2.2.2.2.2.1 (0:Int) (1000:Int))
abbrev q100_6 (d:CrD×Unit):=(d.1.2.2.1.length:Int)
abbrev q100_3 (d:CrD×Unit):=(!U.ja d.1.1 (2:Int) (5:Int)||decide (8<(d.1.2.1.length:Int))||decide ((q100_6 d)≠4))
abbrev q100_7 (d:CrD×Unit)(x:Nat):=(U.zN (q100_0 d x))
def jnM:Prop:=∀(d:CrD×Unit),((!!U.ja d.1.1 (2:Int) (5:Int))=true->d.1.2.1.length<4611686018427387904)->((!(!U.ja d.1.1 (2:Int) (5:Int)||decide (8<(d.1.2.1.length:Int))))=true->d.1.2.2.1.length<4611686018427387904)->((q100_3 d)=true->(false,())=(U.jx d.1,()))/\((q100_3 d)=false->(∃(x:Nat),((0=(x:Int)/\True)/\True)/\x<=(U.jk d.1).length/\∀(j:Nat),j<x->U.yp (U.la d.1) (nth (U.jk d.1) j)=true)/\∀(x:Nat),(x<=(U.jk d.1).length/\∀(j:Nat),j<x->U.yp (U.la d.1) (nth (U.jk d.1) j)=true)->d.1.2.1.length<4611686018427387904->(decide ((x:Int)<(d.1.2.1.length:Int))=true->0<=(x:Int)/\(x:Int)<(d.1.2.1.length:Int)/\((q100_0 d x).1.length<4611686018427387904->((!(decide ((q100_4 d x)≠d.1.1)|| !U.ja (q100_0 d x).2.1 (0:Int) (255:Int)|| !U.ja (q100_0 d x).2.2.1 (0:Int) (255:Int)))=true->(q100_0 d x).2.2.2.1.length<4611686018427387904)->((q100_1 d x)=true->(false,())=(U.jx d.1,()))/\((q100_1 d x)=false->(∃(b:Nat),((0=(b:Int)/\True)/\True)/\b<=(U.lv (q100_0 d x)).length/\∀(j:Nat),j<b->U.ja (nth (U.lv (q100_0 d x)) j) (0:Int) 5=true)/\∀(b:Nat),(b<=(U.lv (q100_0 d x)).length/\∀(j:Nat),j<b->U.ja (nth (U.lv (q100_0 d x)) j) (0:Int) 5=true)->(q100_0 d x).1.length<4611686018427387904->(decide ((b:Int)<(q100_4 d x))=true->0<=(b:Int)/\(b:Int)<(q100_4 d x)/\((!U.ja (nth (q100_0 d x).1 (b:Int).toNat) (0:Int) (5:Int))=true->(false,())=(U.jx d.1,()))/\((!U.ja (nth (q100_0 d x).1 (b:Int).toNat) (0:Int) (5:Int))=false->jD ((b:Int)+1)/\∃(c:Nat),(((b:Int)+1=(c:Int)/\True)/\True)/\(c<=(U.lv (q100_0 d x)).length/\∀(j:Nat),j<c->U.ja (nth (U.lv (q100_0 d x)) j) (0:Int) 5=true)/\(U.lv (q100_0 d x)).length-c<(U.lv (q100_0 d x)).length-b))/\(decide ((b:Int)<(q100_4 d x))=false->(∃(a:Nat),((0=(a:Int)/\True)/\True)/\a<=(q100_7 d x).length/\∀(j:Nat),j<a->U.ja (nth (q100_7 d x) j) (0:Int) 99=true)/\∀(a:Nat),(a<=(q100_7 d x).length/\∀(j:Nat),j<a->U.ja (nth (q100_7 d x) j) (0:Int) 99=true)->(q100_0 d x).2.2.2.1.length<4611686018427387904->(decide ((a:Int)<(q100_5 d x))=true->0<=(a:Int)/\(a:Int)<(q100_5 d x)/\((!U.ja (nth (q100_0 d x).2.2.2.1 (a:Int).toNat) (0:Int) (99:Int))=true->(false,())=(U.jx d.1,()))/\((!U.ja (nth (q100_0 d x).2.2.2.1 (a:Int).toNat) (0:Int) (99:Int))=false->jD ((a:Int)+1)/\∃(c:Nat),(((a:Int)+1=(c:Int)/\True)/\True)/\(c<=(q100_7 d x).length/\∀(j:Nat),j<c->U.ja (nth (q100_7 d x) j) (0:Int) 99=true)/\(q100_7 d x).length-c<(q100_7 d x).length-a))/\(decide ((a:Int)<(q100_5 d x))=false->jD ((x:Int)+1)/\∃(c:Nat),(((x:Int)+1=(c:Int)/\True)/\True)/\(c<=(U.jk d.1).length/\∀(j:Nat),j<c->U.yp (U.la d.1) (nth (U.jk d.1) j)=true)/\(U.jk d.1).length-c<(U.jk d.1).length-x)))))/\(decide ((x:Int)<(d.1.2.1.length:Int))=false->(∃(x:Nat),((0=(x:Int)/\True)/\True)/\x<=(U.zq d.1).length/\∀(j:Nat),j<x->U.yR (nth (U.zq d.1) j)=true)/\∀(x:Nat),(x<=(U.zq d.1).length/\∀(j:Nat),j<x->U.yR (nth (U.zq d.1) j)=true)->d.1.2.2.1.length<4611686018427387904->(decide ((x:Int)<(q100_6 d))=true->0<=(x:Int)/\(x:Int)<(q100_6 d)/\((!!U.ja (nth d.1.2.2.1 (x:Int).toNat).1 (1:Int) (5:Int))=true->0<=(x:Int))/\((!!U.ja (nth d.1.2.2.1 (x:Int).toNat).1 (1:Int) (5:Int))=true->(x:Int)<(q100_6 d))/\((q100_2 d x)=true->(false,())=(U.jx d.1,()))/\((q100_2 d x)=false->jD ((x:Int)+1)/\∃(c:Nat),(((x:Int)+1=(c:Int)/\True)/\True)/\(c<=(U.zq d.1).length/\∀(j:Nat),j<c->U.yR (nth (U.zq d.1) j)=true)/\(U.zq d.1).length-c<(U.zq d.1).length-x))/\(decide ((x:Int)<(q100_6 d))=false->(true,())=(U.jx d.1,()))))
def jqu:jR:=⟨[.val tCr,.val tJb],[.bool],false,fun d=>[U.jx d.1=true],fun d=>(U.zw d.1 d.2.1,())⟩
def jp6:Prop:=∀(d:CrD×JbD×Unit),U.jx d.1=true->jD (d.1.1-1)/\(U.ja d.2.1.1 (0:Int) (d.1.1-1)=true->jD (d.1.1-1))/\(U.ja d.2.1.1 (0:Int) (d.1.1-1)&&U.ja d.2.1.2.1 (0:Int) (d.1.1-1)&&decide (d.2.1.1≠d.2.1.2.1)&&U.ja d.2.1.2.2.1 (0:Int) (99:Int)&&U.ja d.2.1.2.2.2.1 (0:Int) (7:Int)&&U.ja d.2.1.2.2.2.2.1 (0:Int) (3:Int)&&U.ja d.2.1.2.2.2.2.2.1 (1:Int) (8:Int),())=(U.zw d.1 d.2.1,())
end Go.X
namespace Go.X
open Go.Proofs
theorem jrw:jnL:=by
 rintro⟨n,a,b,⟨⟩⟩;rfl
theorem jgJ:zg PR 75 jn5:=jO jrw Tryz.func75 kcN koN
theorem jy3 (c:CrD) (j:JbD):(U.ja (U.jA8 j) 0 (U.la c-1)&&U.ja (U.jub j) 0 (U.la c-1)&&decide (U.jA8 j≠U.jub j)&&U.ja (U.jBZ j) 0 99&&U.ja (U.jBY j) 0 7&&U.ja (U.jBX j) 0 3&&U.ja (U.jDc j) 1 8)=U.zw c j:=by
 unfold U.zw U.ja;rw[jEs];simp only[jDT,decide_eq_true_eq,ne_eq];constructor
 .rintro⟨⟨⟨⟨⟨⟨⟨f,g⟩,h,i⟩,k⟩,l,m⟩,n,o⟩,a,b⟩,d,e⟩;exact⟨f,g,h,i,k,l,m,n,o,a,b,d,e⟩
 .rintro⟨f,g,h,i,k,l,m,n,o,a,b,d,e⟩;exact⟨⟨⟨⟨⟨⟨⟨f,g⟩,h,i⟩,k⟩,l,m⟩,n,o⟩,a,b⟩,d,e⟩
theorem jul:jp6:=by
 rintro⟨c,j,⟨⟩⟩ h;have h:U.jx c=true:=h;have d:=jL h;have a:jD (U.la c-1):=L.in64 (by omega) (by omega);refine⟨a,fun _=>a,?_⟩;exact congrArg (fun b=>(b,())) (jy3 c j)
theorem jq8:zg PR 50 jqu:=jO jul Tryz.func50 (kcC jgJ kcN) koN
end Go.X
namespace Go.X
open Go.Proofs
end Go.X
namespace Go.X
open Go.Proofs
end Go.X
namespace Go.X
open Go.Proofs
theorem jyC (l:Int) (p:PeD):U.yp l p=(!(decide (((U.lv p).length:Int)≠l)|| !U.ja (U.fd p) 0 255|| !U.ja (U.cl p) 0 255||decide (10<((U.zN p).length:Int))|| !U.ja (U.fe p) 0 1000)&&((U.lv p).all (fun n=>U.ja n 0 5)&&(U.zN p).all (fun n=>U.ja n 0 99))):=by
 unfold U.yp;congr 1;rw[jEs];simp only[U.ja,jEe,jEg,decide_eq_false_iff_not,jEq,jDT,decide_eq_true_eq];omega
theorem jh7 (c:CrD):U.jx c=(!(!U.ja (U.la c) 2 5||decide (8<((U.jk c).length:Int))||decide (((U.zq c).length:Int)≠4))&&((U.jk c).all (U.yp (U.la c))&&(U.zq c).all U.yR)):=by
 unfold U.jx;congr 1;rw[jEs];simp only[U.ja,jEe,jEg,decide_eq_false_iff_not,jEq,jDT,decide_eq_true_eq];omega
theorem jgr {c:CrD} {x:Nat} (a:x<(U.jk c).length) (h:U.yp (U.la c) (nth (U.jk c) x)=false):U.jx c=false:=by
 have:(U.jk c).all (U.yp (U.la c))=false:=jEV.2 ⟨_,L.mem_nth a,by rw[h];simp⟩;rw[jh7,this];simp
theorem juG {c:CrD} {x:Nat} (a:x<(U.zq c).length) (h:U.yR (nth (U.zq c) x)=false):U.jx c=false:=by
 have:(U.zq c).all U.yR=false:=jEV.2 ⟨_,L.mem_nth a,by rw[h];simp⟩;rw[jh7,this];simp
theorem jaj {α:Type} [Inhabited α] {l:List α} {p:α->Bool} {x:Nat} (c:¬x<l.length) (h:∀j:Nat,j<x->p (nth l j)=true):l.all p=true:=by
 rw[jEr];intro a b;obtain⟨i,hi,rfl⟩:=L.mem_iff.1 b;exact h i (by omega)
theorem jbd {c:CrD} (h:U.jx c=false):(false,())=(U.jx c,()):=by rw[h]
theorem jrx:jnM:=by
 unfold jnM q100_7 q100_3 q100_6 q100_1 q100_5 q100_4 q100_2 q100_0;rintro⟨c,⟨⟩⟩ _ _;refine⟨fun h=> ?_,fun h=> ?_⟩
 .have h:(!U.ja (U.la c) 2 5||decide (8<((U.jk c).length:Int))||decide (((U.zq c).length:Int)≠4))=true:=h;refine jbd (c:=c) ?_;rw[jh7,h];rfl
 have B:(!U.ja (U.la c) 2 5||decide (8<((U.jk c).length:Int))||decide (((U.zq c).length:Int)≠4))=false:=h;clear h;refine⟨⟨0,⟨⟨rfl,trivial⟩,trivial⟩,jD0 _,fun j k=>by omega⟩,fun x s r=>⟨fun h=> ?_,fun h=> ?_⟩⟩
 .have r:(U.jk c).length<4611686018427387904:=r;have h:(x:Int)<((U.jk c).length:Int):=of_decide_eq_true h;have m:x<(U.jk c).length:=(by omega);refine⟨by omega,h,fun _ _=>⟨fun g=> ?_,fun g=> ?_⟩⟩
  .have g:(decide (((U.lv (nth (U.jk c) x)).length:Int)≠U.la c)|| !U.ja (U.fd (nth (U.jk c) x)) 0 255|| !U.ja (U.cl (nth (U.jk c) x)) 0 255||decide (10<((U.zN (nth (U.jk c) x)).length:Int))|| !U.ja (U.fe (nth (U.jk c) x)) 0 1000)=true:=g;refine jbd (c:=c) (jgr m ?_);rw[jyC,g];rfl
  have g:(decide (((U.lv (nth (U.jk c) x)).length:Int)≠U.la c)|| !U.ja (U.fd (nth (U.jk c) x)) 0 255|| !U.ja (U.cl (nth (U.jk c) x)) 0 255||decide (10<((U.zN (nth (U.jk c) x)).length:Int))|| !U.ja (U.fe (nth (U.jk c) x)) 0 1000)=false:=g;refine⟨⟨0,⟨⟨rfl,trivial⟩,trivial⟩,jD0 _,fun j k=>by omega⟩,fun y q d=>⟨fun b=> ?_,fun b=> ?_⟩⟩
  .have d:(U.lv (nth (U.jk c) x)).length<4611686018427387904:=d;have b:(y:Int)<((U.lv (nth (U.jk c) x)).length:Int):=of_decide_eq_true b;refine⟨by omega,b,fun a=> ?_,fun a=>⟨L.in64 (by omega) (by omega),y+1,⟨⟨by simp,trivial⟩,trivial⟩,⟨by show y+1<=(U.lv (nth (U.jk c) x)).length;omega,fun j k=> ?_⟩,by show(U.lv (nth (U.jk c) x)).length-(y+1)<(U.lv (nth (U.jk c) x)).length-y;omega⟩⟩
   .have a:(!U.ja (nth (U.lv (nth (U.jk c) x)) y) 0 5)=true:=a;have a:U.ja (nth (U.lv (nth (U.jk c) x)) y) 0 5=false:=(by simpa using a);refine jbd (c:=c) (jgr m ?_);have:(U.lv (nth (U.jk c) x)).all (fun n=>U.ja n 0 5)=false:=jEV.2 ⟨_,L.mem_nth (l:=U.lv (nth (U.jk c) x)) (i:=y) (by omega),by rw[a];simp⟩;rw[jyC,this];simp
   .have a:(!U.ja (nth (U.lv (nth (U.jk c) x)) y) 0 5)=false:=a;by_cases e:j=y
    .subst e;exact(show U.ja (nth (U.lv (nth (U.jk c) x)) j) 0 5=true by simpa using a)
    .exact q.2 j (by omega)
  have b:¬(y:Int)<((U.lv (nth (U.jk c) x)).length:Int):=of_decide_eq_false b;have u:(U.lv (nth (U.jk c) x)).all (fun n=>U.ja n 0 5)=true:=jaj (by omega) q.2;refine⟨⟨0,⟨⟨rfl,trivial⟩,trivial⟩,jD0 _,fun j k=>by omega⟩,fun z t o=>⟨fun a=> ?_,fun a=> ?_⟩⟩
  .have o:(U.zN (nth (U.jk c) x)).length<4611686018427387904:=o;have a:(z:Int)<((U.zN (nth (U.jk c) x)).length:Int):=of_decide_eq_true a;refine⟨by omega,a,fun f=> ?_,fun f=>⟨L.in64 (by omega) (by omega),z+1,⟨⟨by simp,trivial⟩,trivial⟩,⟨by show z+1<=(U.zN (nth (U.jk c) x)).length;omega,fun j k=> ?_⟩,by show(U.zN (nth (U.jk c) x)).length-(z+1)<(U.zN (nth (U.jk c) x)).length-z;omega⟩⟩
   .have f:(!U.ja (nth (U.zN (nth (U.jk c) x)) z) 0 99)=true:=f;have f:U.ja (nth (U.zN (nth (U.jk c) x)) z) 0 99=false:=(by simpa using f);refine jbd (c:=c) (jgr m ?_);have:(U.zN (nth (U.jk c) x)).all (fun n=>U.ja n 0 99)=false:=jEV.2 ⟨_,L.mem_nth (l:=U.zN (nth (U.jk c) x)) (i:=z) (by omega),by rw[f];simp⟩;rw[jyC,this];simp
   .have f:(!U.ja (nth (U.zN (nth (U.jk c) x)) z) 0 99)=false:=f;by_cases e:j=z
    .subst e;exact(show U.ja (nth (U.zN (nth (U.jk c) x)) j) 0 99=true by simpa using f)
    .exact t.2 j (by omega)
  have a:¬(z:Int)<((U.zN (nth (U.jk c) x)).length:Int):=of_decide_eq_false a;have v:(U.zN (nth (U.jk c) x)).all (fun n=>U.ja n 0 99)=true:=jaj (by omega) t.2;refine⟨L.in64 (by omega) (by omega),x+1,⟨⟨by simp,trivial⟩,trivial⟩,⟨by show x+1<=(U.jk c).length;omega,fun j k=> ?_⟩,by show(U.jk c).length-(x+1)<(U.jk c).length-x;omega⟩;by_cases e:j=x
  .subst e;show U.yp (U.la c) (nth (U.jk c) j)=true;rw[jyC,g,u,v];rfl
  .exact s.2 j (by omega)
 have h:¬(x:Int)<((U.jk c).length:Int):=of_decide_eq_false h;have A:(U.jk c).all (U.yp (U.la c))=true:=jaj (by omega) s.2;refine⟨⟨0,⟨⟨rfl,trivial⟩,trivial⟩,jD0 _,fun j k=>by omega⟩,fun y q d=>⟨fun b=> ?_,fun b=> ?_⟩⟩
 .have d:(U.zq c).length<4611686018427387904:=d;have b:(y:Int)<((U.zq c).length:Int):=of_decide_eq_true b;have p:U.yR (nth (U.zq c) y)= !(!U.ja (U.jDx (nth (U.zq c) y)) 1 5|| !U.ja (U.jDb (nth (U.zq c) y)) 1 8):=by
   unfold U.yR;rw[Bool.not_or,Bool.not_not,Bool.not_not]
  refine⟨by omega,b,fun _=>by omega,fun _=>b,fun a=> ?_,fun a=>⟨L.in64 (by omega) (by omega),y+1,⟨⟨by simp,trivial⟩,trivial⟩,⟨by show y+1<=(U.zq c).length;omega,fun j k=> ?_⟩,by show(U.zq c).length-(y+1)<(U.zq c).length-y;omega⟩⟩
  .have a:(!U.ja (U.jDx (nth (U.zq c) y)) 1 5|| !U.ja (U.jDb (nth (U.zq c) y)) 1 8)=true:=a;exact jbd (c:=c) (juG (x:=y) (by omega) (by rw[p,a];rfl))
  .have a:(!U.ja (U.jDx (nth (U.zq c) y)) 1 5|| !U.ja (U.jDb (nth (U.zq c) y)) 1 8)=false:=a;by_cases e:j=y
   .subst e;show U.yR (nth (U.zq c) j)=true;rw[p,a];rfl
   .exact q.2 j (by omega)
 .have b:¬(y:Int)<((U.zq c).length:Int):=of_decide_eq_false b;have w:(U.zq c).all U.yR=true:=jaj (by omega) q.2;show(true,())=(U.jx c,());rw[jh7,B,A,w];rfl
theorem jgK:zg PR 49 jn6:=kX jpG jrx Tryz.func49 (kcC jgJ kcN) koN
end Go.X
namespace Go.X
open Go.Proofs
def jn4:jR:=⟨[.val .int,.val .int,.val .int],[.bool],false,fun _=>[],fun d=>(U.ja d.1 d.2.1 d.2.2.1,())⟩
def jnK:Prop:=∀(d:Int×Int×Int×Unit),(decide (d.2.1<=d.1)&&decide (d.1<=d.2.2.1),())=(U.ja d.1 d.2.1 d.2.2.1,())
def jiC:jR:=⟨[.val tDy,.val .int],[.bool],false,fun _=>[],fun d=>(U.jwR d.1 d.2.1,())⟩
def jip:Prop:=∀(d:DyD×Int×Unit),d.1.2.2.1.length<4611686018427387904->jD ((d.1.2.2.1.length:Int)-1)/\(U.ja d.2.1 (0:Int) ((d.1.2.2.1.length:Int)-1),())=(U.jwR d.1 d.2.1,())
def jks:jR:=⟨[.val tDy,.val .int],[.bool],false,fun _=>[],fun d=>(U.jo0 d.1 d.2.1,())⟩
def jkl:Prop:=∀(d:DyD×Int×Unit),d.1.1.2.1.length<4611686018427387904->jD ((d.1.1.2.1.length:Int)-1)/\(U.ja d.2.1 (0:Int) ((d.1.1.2.1.length:Int)-1),())=(U.jo0 d.1 d.2.1,())
def jqs:jR:=⟨[.val tDy],[.bool],false,fun _=>[],fun d=>(U.zi d.1,())⟩
def jr1:Ann:=fun r=>match r with
 |4=>some fun σ=>{X:=Nat,sl:=fun i=>[(3,.dat .int (i:Int))],ob:=fun _=>[],inv:=fun i=>i<=(U.ju (gb tDy σ 1)).length/\∀j:Nat,j<i->U.qp (U.ju (gb tDy σ 1)).length (nth (U.ju (gb tDy σ 1)) j)=true,mu:=fun i=>(U.ju (gb tDy σ 1)).length-i}
 |9=>some fun σ=>{X:=Nat,sl:=fun i=>[(4,.dat .int (i:Int))],ob:=fun _=>[],inv:=fun i=>i<=(nth (U.ju (gb tDy σ 1)) (gd .int σ 3).toNat).length/\∀j:Nat,j<i->U.jeM (nth (nth (U.ju (gb tDy σ 1)) (gd .int σ 3).toNat) j)=true,mu:=fun i=>(nth (U.ju (gb tDy σ 1)) (gd .int σ 3).toNat).length-i}
 |15=>some fun σ=>{X:=Nat,sl:=fun i=>[(6,.dat .int (i:Int))],ob:=fun _=>[],inv:=fun i=>i<=(U.jr (gb tDy σ 1)).length/\∀j:Nat,j<i->U.jbo (U.ju (gb tDy σ 1)).length (nth (U.jr (gb tDy σ 1)) j)=true,mu:=fun i=>(U.jr (gb tDy σ 1)).length-i}
 |21=>some fun σ=>{X:=Nat,sl:=fun i=>[(8,.dat .int (i:Int))],ob:=fun _=>[],inv:=fun i=>i<=(U.jh (gb tDy σ 1)).length/\∀j:Nat,j<i->U.yQ (U.jr (gb tDy σ 1)).length (U.jk (U.jg (gb tDy σ 1))).length (nth (U.jh (gb tDy σ 1)) j)=true,mu:=fun i=>(U.jh (gb tDy σ 1)).length-i}
 |_=>none
abbrev q105_4 (d:DyD×Unit)(x:Nat):=(nth d.1.2.1 (x:Int).toNat)
abbrev q105_2 (d:DyD×Unit)(x:Nat)(a:Nat):=(decide ((nth (q105_4 d x) (a:Int).toNat).1<0)||decide ((nth (q105_4 d x) (a:Int).toNat).2.1<(nth (q105_4 d x) (a:Int).toNat).1)||decide ((300:Int)<(nth (q105_4 d x) (a:Int).toNat).2.1))
abbrev q105_5 (d:DyD×Unit)(x:Nat):=(nth (U.ju d.1) (x:Int).toNat)
abbrev q105_6 (d:DyD×Unit):=(d.1.2.1.length:Int)
abbrev q105_7 (d:DyD×Unit)(x:Nat):=(nth d.1.2.2.2.2.2.1 (x:Int).toNat)
abbrev q105_0 (d:DyD×Unit)(x:Nat):=(!U.ja (q105_7 d x).1 (0:Int) (99:Int)|| !U.ja (q105_7 d x).2.1 (0:Int) (9999:Int)|| !U.ja (q105_7 d x).2.2.1 (1:Int) (2:Int)|| !U.jwR d.1 (q105_7 d x).2.2.2.1|| !U.jo0 d.1 (q105_7 d x).2.2.2.2.1)
abbrev q105_8 (d:DyD×Unit):=(d.1.2.2.1.length:Int)
abbrev q105_9 (x:Nat)(a:Nat):=(((x:Int)+1=(a:Int)/\True)/\True)
abbrev q105_10 (d:DyD×Unit)(x:Nat):=(nth d.1.2.2.1 (x:Int).toNat)
abbrev q105_1 (d:DyD×Unit)(x:Nat):=(!U.ja (q105_10 d x).2.1 (0:Int) ((q105_6 d)-1)||decide ((q105_10 d x).2.2.1<0)||decide ((q105_10 d x).2.2.2.1<=(q105_10 d x).2.2.1)||decide ((1440:Int)<(q105_10 d x).2.2.2.1))
abbrev q105_11 (d:DyD×Unit)(x:Nat):=(↑(q105_4 d x).length:Int)
abbrev q105_12 (d:DyD×Unit):=(d.1.2.2.2.2.2.1.length:Int)
abbrev q105_3 (d:DyD×Unit):=(decide (4<(q105_8 d))|| !U.ja (q105_6 d) (1:Int) (5:Int)|| !U.ja d.1.2.2.2.1 (0:Int) (300:Int)|| !U.ja d.1.2.2.2.2.1 (0:Int) (1440:Int)||decide (30<(q105_12 d)))
abbrev q105_13 (x:Nat):=((0=(x:Int)/\True)/\True)
def jp4:Prop:=∀(d:DyD×Unit),d.1.2.2.1.length<4611686018427387904->((!decide (4<(q105_8 d)))=true->d.1.2.1.length<4611686018427387904)->((!(decide (4<(q105_8 d))|| !U.ja (q105_6 d) (1:Int) (5:Int)|| !U.ja d.1.2.2.2.1 (0:Int) (300:Int)|| !U.ja d.1.2.2.2.2.1 (0:Int) (1440:Int)))=true->d.1.2.2.2.2.2.1.length<4611686018427387904)->((q105_3 d)=true->(false,())=(U.zi d.1,()))/\((q105_3 d)=false->(∃(x:Nat),(q105_13 x)/\x<=(U.ju d.1).length/\∀(j:Nat),j<x->U.qp (U.ju d.1).length (nth (U.ju d.1) j)=true)/\∀(x:Nat),(x<=(U.ju d.1).length/\∀(j:Nat),j<x->U.qp (U.ju d.1).length (nth (U.ju d.1) j)=true)->d.1.2.1.length<4611686018427387904->(decide ((x:Int)<(q105_6 d))=true->0<=(x:Int)/\(x:Int)<(q105_6 d)/\(decide ((q105_11 d x)≠(q105_6 d))=true->(false,())=(U.zi d.1,()))/\(decide ((q105_11 d x)≠(q105_6 d))=false->(∃(a:Nat),((0=(a:Int)/\True)/\True)/\a<=(q105_5 d x).length/\∀(j:Nat),j<a->U.jeM (nth (q105_5 d x) j)=true)/\∀(a:Nat),(a<=(q105_5 d x).length/\∀(j:Nat),j<a->U.jeM (nth (q105_5 d x) j)=true)->0<=(x:Int)/\(x:Int)<(q105_6 d)/\((q105_4 d x).length<4611686018427387904->(decide ((a:Int)<(q105_11 d x))=true->0<=(x:Int)/\(x:Int)<(q105_6 d)/\0<=(a:Int)/\(a:Int)<(q105_11 d x)/\((q105_2 d x a)=true->(false,())=(U.zi d.1,()))/\((q105_2 d x a)=false->jD ((a:Int)+1)/\∃(b:Nat),(((a:Int)+1=(b:Int)/\True)/\True)/\(b<=(q105_5 d x).length/\∀(j:Nat),j<b->U.jeM (nth (q105_5 d x) j)=true)/\(q105_5 d x).length-b<(q105_5 d x).length-a))/\(decide ((a:Int)<(q105_11 d x))=false->jD ((x:Int)+1)/\∃(b:Nat),(q105_9 x b)/\(b<=(U.ju d.1).length/\∀(j:Nat),j<b->U.qp (U.ju d.1).length (nth (U.ju d.1) j)=true)/\(U.ju d.1).length-b<(U.ju d.1).length-x))))/\(decide ((x:Int)<(q105_6 d))=false->(∃(x:Nat),(q105_13 x)/\x<=(U.jr d.1).length/\∀(j:Nat),j<x->U.jbo (U.ju d.1).length (nth (U.jr d.1) j)=true)/\∀(x:Nat),(x<=(U.jr d.1).length/\∀(j:Nat),j<x->U.jbo (U.ju d.1).length (nth (U.jr d.1) j)=true)->d.1.2.2.1.length<4611686018427387904->(decide ((x:Int)<(q105_8 d))=true->0<=(x:Int)/\(x:Int)<(q105_8 d)/\(d.1.2.1.length<4611686018427387904->jD ((q105_6 d)-1)/\((q105_1 d x)=true->(false,())=(U.zi d.1,()))/\((q105_1 d x)=false->jD ((x:Int)+1)/\∃(b:Nat),(q105_9 x b)/\(b<=(U.jr d.1).length/\∀(j:Nat),j<b->U.jbo (U.ju d.1).length (nth (U.jr d.1) j)=true)/\(U.jr d.1).length-b<(U.jr d.1).length-x)))/\(decide ((x:Int)<(q105_8 d))=false->(∃(x:Nat),(q105_13 x)/\x<=(U.jh d.1).length/\∀(j:Nat),j<x->U.yQ (U.jr d.1).length (U.jk (U.jg d.1)).length (nth (U.jh d.1) j)=true)/\∀(x:Nat),(x<=(U.jh d.1).length/\∀(j:Nat),j<x->U.yQ (U.jr d.1).length (U.jk (U.jg d.1)).length (nth (U.jh d.1) j)=true)->d.1.2.2.2.2.2.1.length<4611686018427387904->(decide ((x:Int)<(q105_12 d))=true->0<=(x:Int)/\(x:Int)<(q105_12 d)/\((q105_0 d x)=true->(false,())=(U.zi d.1,()))/\((q105_0 d x)=false->jD ((x:Int)+1)/\∃(b:Nat),(q105_9 x b)/\(b<=(U.jh d.1).length/\∀(j:Nat),j<b->U.yQ (U.jr d.1).length (U.jk (U.jg d.1)).length (nth (U.jh d.1) j)=true)/\(U.jh d.1).length-b<(U.jh d.1).length-x))/\(decide ((x:Int)<(q105_12 d))=false->(true,())=(U.zi d.1,())))))
def jqr:jR:=⟨[.val (.slice tSh)],[.bool],false,fun d=>[d.1.length<=1000000],fun d=>(U.qP d.1,())⟩
def jr0:Ann:=fun r=>match r with
 |2=>some fun σ=>{X:=Nat,sl:=fun i=>[(3,.dat .int (i:Int))],ob:=fun _=>[],inv:=fun i=>i<=(gd (.slice tSh) σ 0).length/\U.wI (gd (.slice tSh) σ 0) i=false,mu:=fun i=>(gd (.slice tSh) σ 0).length-i}
 |5=>some fun σ=>{X:=Nat,sl:=fun i=>[(4,.dat .int (i:Int))],ob:=fun _=>[],inv:=fun i=>i<=(gd .int σ 3).toNat/\∀j:Nat,j<i->U.jj0 (nth (gd (.slice tSh) σ 0) (gd .int σ 3).toNat) (nth (gd (.slice tSh) σ 0) j)=false,mu:=fun i=>(gd .int σ 3).toNat-i}
 |_=>none
abbrev q106_0 (d:List ShD×Unit)(x:Nat)(a:Nat):=((nth d.1 (x:Int).toNat).1=(nth d.1 (a:Int).toNat).1)
def jp3:Prop:=∀(d:List ShD×Unit),d.1.length<=1000000->(∃(x:Nat),((0=(x:Int)/\True)/\True)/\x<=d.1.length/\U.wI d.1 x=false)/\∀(x:Nat),x<=d.1.length/\U.wI d.1 x=false->d.1.length<4611686018427387904->(decide ((x:Int)<(d.1.length:Int))=true->(∃(a:Nat),((0=(a:Int)/\True)/\True)/\a<=(x:Int).toNat/\∀(j:Nat),j<a->U.jj0 (nth d.1 (x:Int).toNat) (nth d.1 j)=false)/\∀(a:Nat),(a<=(x:Int).toNat/\∀(j:Nat),j<a->U.jj0 (nth d.1 (x:Int).toNat) (nth d.1 j)=false)->(decide ((a:Int)<(x:Int))=true->0<=(x:Int)/\(x:Int)<(d.1.length:Int)/\0<=(a:Int)/\(a:Int)<(d.1.length:Int)/\(decide (q106_0 d x a)=true->0<=(x:Int))/\(decide (q106_0 d x a)=true->(x:Int)<(d.1.length:Int))/\(decide (q106_0 d x a)=true->0<=(a:Int))/\(decide (q106_0 d x a)=true->(a:Int)<(d.1.length:Int))/\((decide (q106_0 d x a)&& !decide (nth d.1 (x:Int).toNat=nth d.1 (a:Int).toNat))=true->(true,())=(U.qP d.1,()))/\((decide (q106_0 d x a)&& !decide (nth d.1 (x:Int).toNat=nth d.1 (a:Int).toNat))=false->jD ((a:Int)+1)/\∃(b:Nat),(((a:Int)+1=(b:Int)/\True)/\True)/\(b<=(x:Int).toNat/\∀(j:Nat),j<b->U.jj0 (nth d.1 (x:Int).toNat) (nth d.1 j)=false)/\(x:Int).toNat-b<(x:Int).toNat-a))/\(decide ((a:Int)<(x:Int))=false->jD ((x:Int)+1)/\∃(b:Nat),(((x:Int)+1=(b:Int)/\True)/\True)/\(b<=d.1.length/\U.wI d.1 b=false)/\d.1.length-b<d.1.length-x))/\(decide ((x:Int)<(d.1.length:Int))=false->(false,())=(U.qP d.1,()))
def jqt:jR:=⟨[.val tDy],[.int],false,fun d=>[(U.jr d.1).length<=1000000],fun d=>(U.wO d.1,())⟩
def jr2:Ann:=fun r=>match r with
 |4=>some fun σ=>{X:=Nat,sl:=fun i=>[(3,.dat .int (i:Int))],ob:=fun _=>[],inv:=fun i=>i<=(U.jr (gb tDy σ 1)).length/\∀j:Nat,j<i->U.zw (U.jg (gb tDy σ 1)) (U.jfz (nth (U.jr (gb tDy σ 1)) j))=true,mu:=fun i=>(U.jr (gb tDy σ 1)).length-i}
 |_=>none
def jp5:Prop:=∀(d:DyD×Unit),(U.jr d.1).length<=1000000->((!U.jx d.1.1)=true->((30:Int),())=(U.wO d.1,()))/\((!U.jx d.1.1)=false->(∃(x:Nat),((0=(x:Int)/\True)/\True)/\x<=(U.jr d.1).length/\∀(j:Nat),j<x->U.zw (U.jg d.1) (U.jfz (nth (U.jr d.1) j))=true)/\∀(x:Nat),(x<=(U.jr d.1).length/\∀(j:Nat),j<x->U.zw (U.jg d.1) (U.jfz (nth (U.jr d.1) j))=true)->d.1.2.2.1.length<4611686018427387904->(decide ((x:Int)<(d.1.2.2.1.length:Int))=true->0<=(x:Int)/\(x:Int)<(d.1.2.2.1.length:Int)/\U.jx d.1.1=true/\((!U.zw d.1.1 (nth d.1.2.2.1 (x:Int).toNat).1)=true->((31:Int),())=(U.wO d.1,()))/\((!U.zw d.1.1 (nth d.1.2.2.1 (x:Int).toNat).1)=false->jD ((x:Int)+1)/\∃(a:Nat),(((x:Int)+1=(a:Int)/\True)/\True)/\(a<=(U.jr d.1).length/\∀(j:Nat),j<a->U.zw (U.jg d.1) (U.jfz (nth (U.jr d.1) j))=true)/\(U.jr d.1).length-a<(U.jr d.1).length-x))/\(decide ((x:Int)<(d.1.2.2.1.length:Int))=false->((!U.zi d.1)=true->((50:Int),())=(U.wO d.1,()))/\((!U.zi d.1)=false->d.1.2.2.2.2.2.1.length<=1000000/\(U.qP d.1.2.2.2.2.2.1=true->((51:Int),())=(U.wO d.1,()))/\(U.qP d.1.2.2.2.2.2.1=false->((0:Int),())=(U.wO d.1,())))))
end Go.X
namespace Go.X
open Go.Proofs
theorem jrv:jnK:=by
 rintro⟨n,a,b,⟨⟩⟩;rfl
theorem jbn:zg PR 103 jn4:=jO jrv Tryz.func103 kcN koN
theorem jkN:jip:=by
 rintro⟨d,n,⟨⟩⟩ a;have a:(U.jr d).length<4611686018427387904:=a;exact⟨by show jD (((U.jr d).length:Int)-1);exact L.in64 (by omega) (by omega),rfl⟩
theorem ji1:zg PR 104 jiC:=jO jkN Tryz.func104 (kcC jbn kcN) koN
theorem jmZ:jkl:=by
 rintro⟨d,n,⟨⟩⟩ a;have a:(U.jk (U.jg d)).length<4611686018427387904:=a;exact⟨by show jD (((U.jk (U.jg d)).length:Int)-1);exact L.in64 (by omega) (by omega),rfl⟩
theorem jkB:zg PR 60 jks:=jO jmZ Tryz.func60 (kcC jbn kcN) koN
theorem jpB (l:List ShD) (n:Nat):U.wI l (n+1)=(U.wI l n||U.jh8 l n):=by
 unfold U.wI;rw[jEE,List.any_append];simp
theorem jne {l:List ShD} {i:Nat} (h:∀j:Nat,j<i->U.jj0 (nth l i) (nth l j)=false) (hi:i<=l.length):U.jh8 l i=false:=by
 unfold U.jh8;rw[jEF];intro s a;rw[jEA] at a;obtain⟨j,b,rfl⟩:=a;have:=h j (by omega);rw[L.nth_lt (l:=l) (i:=j) (by omega)] at this;simpa using this
theorem juI {l:List ShD} {i j:Nat} (hi:i<l.length) (a:j<i) (h:U.jj0 (nth l i) (nth l j)=true):U.qP l=true:=by
 unfold U.qP U.wI U.jh8;rw[jEP];refine⟨i,jEd.2 hi,?_⟩;rw[jEP];refine⟨nth l j,?_,h⟩;rw[jEA];exact⟨j,by omega,(L.nth_lt (by omega)).symm⟩
theorem jui:jp3:=by
 unfold jp3 q106_0;rintro⟨l,⟨⟩⟩ k;have k:l.length<=1000000:=k;refine⟨⟨0,⟨⟨rfl,trivial⟩,trivial⟩,jD0 _,rfl⟩,fun x m _=>⟨fun h=> ?_,fun h=> ?_⟩⟩
 .have h:(x:Int)<(l.length:Int):=of_decide_eq_true h;obtain⟨_,a⟩:x<=l.length/\U.wI l x=false:=m;refine⟨⟨0,⟨⟨rfl,trivial⟩,trivial⟩,jD0 _,fun j o=>by omega⟩,fun y n=>⟨fun c=> ?_,fun c=> ?_⟩⟩
  .have c:(y:Int)<(x:Int):=of_decide_eq_true c;obtain⟨_,b⟩:y<=x/\∀j:Nat,j<y->U.jj0 (nth l x) (nth l j)=false:=n;have f:(y:Int)<(l.length:Int):=(by omega);refine⟨by omega,h,by omega,f,fun _=>by omega,fun _=>h,fun _=>by omega,fun _=>f,fun d=> ?_,fun d=>⟨L.in64 (by omega) (by omega),y+1,⟨⟨by simp,trivial⟩,trivial⟩,⟨by show y+1<=x;omega,fun j o=> ?_⟩,by show x-(y+1)<x-y;omega⟩⟩
   .have d:U.jj0 (nth l x) (nth l y)=true:=d;have:=juI (by omega) (by omega) d;show(true,())=(U.qP l,());rw[this]
   .by_cases e:j=y
    .subst e;exact d
    .exact b j (by omega)
  .have c:¬(y:Int)<(x:Int):=of_decide_eq_false c;obtain⟨q,b⟩:y<=x/\∀j:Nat,j<y->U.jj0 (nth l x) (nth l j)=false:=n;have i:y=x:=(by omega);subst i;refine⟨L.in64 (by omega) (by omega),y+1,⟨⟨by simp,trivial⟩,trivial⟩,⟨by show y+1<=l.length;omega,?_⟩,by show l.length-(y+1)<l.length-y;omega⟩;show U.wI l (y+1)=false;rw[jpB,a,jne b (by omega)];rfl
 .have h:¬(x:Int)<(l.length:Int):=of_decide_eq_false h;obtain⟨p,a⟩:x<=l.length/\U.wI l x=false:=m;have g:x=l.length:=(by omega);subst g;show(false,())=(U.qP l,());unfold U.qP;rw[a]
theorem jq6:zg PR 52 jqr:=kX jr0 jui Tryz.func52 kcN koN
theorem juk:jp5:=by
 rintro⟨d,⟨⟩⟩ k;have k:(U.jr d).length<=1000000:=k;refine⟨fun h=> ?_,fun h=> ?_⟩
 .have h:U.jx (U.jg d)=false:=(by simpa using(show(!U.jx (U.jg d))=true from h));show((30:Int),())=(U.wO d,());unfold U.wO;rw[h];rfl
 have g:U.jx (U.jg d)=true:=(by simpa using(show(!U.jx (U.jg d))=false from h));refine⟨⟨0,⟨⟨rfl,trivial⟩,trivial⟩,jD0 _,fun j f=>by omega⟩,fun x m _=>⟨fun h=> ?_,fun h=> ?_⟩⟩
 .have h:(x:Int)<((U.jr d).length:Int):=of_decide_eq_true h;refine⟨by omega,h,g,fun a=> ?_,fun a=>⟨L.in64 (by omega) (by omega),x+1,⟨⟨by simp,trivial⟩,trivial⟩,⟨by show x+1<=(U.jr d).length;omega,fun j f=> ?_⟩,by show(U.jr d).length-(x+1)<(U.jr d).length-x;omega⟩⟩
  .have a:U.zw (U.jg d) (U.jfz (nth (U.jr d) x))=false:=(by simpa using(show(!U.zw (U.jg d) (U.jfz (nth (U.jr d) x)))=true from a));have f:U.jwM d=false:=by
    unfold U.jwM;exact jEV.2 ⟨_,L.mem_nth (l:=U.jr d) (i:=x) (by omega),by rw[a];simp⟩
   show((31:Int),())=(U.wO d,());unfold U.wO;rw[g,f];rfl
  .have a:U.zw (U.jg d) (U.jfz (nth (U.jr d) x))=true:=(by simpa using(show(!U.zw (U.jg d) (U.jfz (nth (U.jr d) x)))=false from a));by_cases e:j=x
   .subst e;exact a
   .exact m.2 j (by omega)
 .have h:¬(x:Int)<((U.jr d).length:Int):=of_decide_eq_false h;have f:U.jwM d=true:=jaj (p:=fun b=>U.zw (U.jg d) (U.jfz b)) (by omega) m.2;refine⟨fun a=> ?_,fun a=> ?_⟩
  .have a:U.zi d=false:=(by simpa using(show(!U.zi d)=true from a));show((50:Int),())=(U.wO d,());unfold U.wO;rw[g,f,a];rfl
  .have a:U.zi d=true:=(by simpa using(show(!U.zi d)=false from a));have n:(U.jh d).length<=30:=(zc a).2.2.2.2.1;refine⟨by show(U.jh d).length<=1000000;omega,fun c=> ?_,fun c=> ?_⟩
   .have c:U.qP (U.jh d)=true:=c;show((51:Int),())=(U.wO d,());unfold U.wO;rw[g,f,a,c];rfl
   .have c:U.qP (U.jh d)=false:=c;show((0:Int),())=(U.wO d,());unfold U.wO;rw[g,f,a,c];rfl
end Go.X
namespace Go.X
open Go.Proofs
end Go.X
namespace Go.X
open Go.Proofs
end Go.X
namespace Go.X
open Go.Proofs
def jCE (d:DyD):Bool:=decide (4<((U.jr d).length:Int))|| !U.ja ((U.ju d).length:Int) 1 5|| !U.ja (U.jok d) 0 300|| !U.ja (U.jyX d) 0 1440||decide (30<((U.jh d).length:Int))
def spH (s:SpD):Bool:=decide (U.lo s<0)||decide (U.hi s<U.lo s)||decide (300<U.hi s)
def bkH (n:Nat) (b:BkD):Bool:= !U.ja (U.jBD b) 0 ((n:Int)-1)||decide (U.jdK b<0)||decide (U.jzE b<=U.jdK b)||decide (1440<U.jzE b)
def shH (d:DyD) (s:ShD):Bool:= !U.ja (U.kK s) 0 99|| !U.ja (U.jnr s) 0 9999|| !U.ja (U.jx8 s) 1 2|| !U.jwR d (U.jof s)|| !U.jo0 d (U.jcx s)
theorem jxC (d:DyD):U.zi d=(!jCE d&&((U.ju d).all (U.qp (U.ju d).length)&&((U.jr d).all (U.jbo (U.ju d).length)&&(U.jh d).all (U.yQ (U.jr d).length (U.jk (U.jg d)).length)))):=by
 unfold U.zi jCE;congr 1;rw[jEs];simp only[U.ja,jEe,jEg,decide_eq_false_iff_not,jEq,jDT,decide_eq_true_eq];omega
theorem jzW (s:SpD):U.jeM s= !spH s:=by
 unfold U.jeM spH;rw[jEs];simp only[jEe,jEg,decide_eq_false_iff_not,decide_eq_true_eq];omega
theorem jAh (n:Nat) (b:BkD):U.jbo n b= !bkH n b:=by
 unfold U.jbo bkH;rw[jEs];simp only[U.ja,jEe,jEg,decide_eq_false_iff_not,jEq,jDT,decide_eq_true_eq];omega
theorem jzY (d:DyD) (s:ShD):U.yQ (U.jr d).length (U.jk (U.jg d)).length s= !shH d s:=by
 unfold U.yQ shH U.jwR U.jo0;rw[jEs];simp only[U.ja,jEe,jEg,decide_eq_false_iff_not,jEq,jDT,decide_eq_true_eq];omega
theorem jpu {d:DyD} (h:jCE d=true\/(U.ju d).all (U.qp (U.ju d).length)=false\/(U.jr d).all (U.jbo (U.ju d).length)=false\/(U.jh d).all (U.yQ (U.jr d).length (U.jk (U.jg d)).length)=false):(false,())=(U.zi d,()):=by
 have:U.zi d=false:=by
  rw[jxC];rcases h with h|h|h|h<;>rw[h]<;>simp
 rw[this]
theorem jpI {α:Type} [Inhabited α] {l:List α} {p:α->Bool} {x:Nat} (a:x<l.length) (h:p (nth l x)=false):l.all p=false:=jEV.2 ⟨_,L.mem_nth a,by rw[h];simp⟩
theorem juj:jp4:=by
 unfold jp4 q105_13 q105_3 q105_12 q105_11 q105_1 q105_10 q105_9 q105_8 q105_0 q105_7 q105_6 q105_5 q105_2 q105_4;rintro⟨d,⟨⟩⟩ _ _ _;refine⟨fun h=>jpu (d:=d) (.inl h),fun k=> ?_⟩;have k:jCE d=false:=k;have l:=k;unfold jCE at l;simp only[U.ja,jEg,decide_eq_false_iff_not,jEq,jDT,decide_eq_true_eq] at l;refine⟨⟨0,⟨⟨rfl,trivial⟩,trivial⟩,jD0 _,fun j g=>by omega⟩,fun x c _=>⟨fun h=> ?_,fun h=> ?_⟩⟩
 .have h:(x:Int)<((U.ju d).length:Int):=of_decide_eq_true h;have b:x<(U.ju d).length:=(by omega);refine⟨by omega,h,fun a=> ?_,fun a=>⟨⟨0,⟨⟨rfl,trivial⟩,trivial⟩,jD0 _,fun j g=>by omega⟩,fun y n=>⟨by omega,h,fun m=>⟨fun i=> ?_,fun i=> ?_⟩⟩⟩⟩
  .have a:¬((nth (U.ju d) x).length:Int)=((U.ju d).length:Int):=of_decide_eq_true a;refine jpu (d:=d) (.inr (.inl (jpI b ?_)));unfold U.qp;rw[decide_eq_false (by omega)];rfl
  .have m:(nth (U.ju d) x).length<4611686018427387904:=m;have i:(y:Int)<((nth (U.ju d) x).length:Int):=of_decide_eq_true i;refine⟨by omega,h,by omega,i,fun f=> ?_,fun f=>⟨L.in64 (by omega) (by omega),y+1,⟨⟨by simp,trivial⟩,trivial⟩,⟨by show y+1<=(nth (U.ju d) x).length;omega,fun j g=> ?_⟩,by show(nth (U.ju d) x).length-(y+1)<(nth (U.ju d) x).length-y;omega⟩⟩
   .have f:spH (nth (nth (U.ju d) x) y)=true:=f;refine jpu (d:=d) (.inr (.inl (jpI b ?_)));have:(nth (U.ju d) x).all U.jeM=false:=jpI (x:=y) (by omega) (by rw[jzW,f];rfl);unfold U.qp;rw[this,Bool.and_false]
   .have f:spH (nth (nth (U.ju d) x) y)=false:=f;by_cases e:j=y
    .subst e;show U.jeM (nth (nth (U.ju d) x) j)=true;rw[jzW,f];rfl
    .exact n.2 j (by omega)
  .have i:¬(y:Int)<((nth (U.ju d) x).length:Int):=of_decide_eq_false i;have a:((nth (U.ju d) x).length:Int)=((U.ju d).length:Int):=Classical.not_not.1 (of_decide_eq_false a);have o:(nth (U.ju d) x).all U.jeM=true:=jaj (by omega) n.2;refine⟨L.in64 (by omega) (by omega),x+1,⟨⟨by simp,trivial⟩,trivial⟩,⟨by show x+1<=(U.ju d).length;omega,fun j g=> ?_⟩,by show(U.ju d).length-(x+1)<(U.ju d).length-x;omega⟩;by_cases e:j=x
   .subst e;show U.qp (U.ju d).length (nth (U.ju d) j)=true;unfold U.qp;rw[o,decide_eq_true (by omega)];rfl
   .exact c.2 j (by omega)
 have h:¬(x:Int)<((U.ju d).length:Int):=of_decide_eq_false h;have r:(U.ju d).all (U.qp (U.ju d).length)=true:=jaj (by omega) c.2;clear c h;refine⟨⟨0,⟨⟨rfl,trivial⟩,trivial⟩,jD0 _,fun j g=>by omega⟩,fun x c _=>⟨fun h=> ?_,fun h=> ?_⟩⟩
 .have h:(x:Int)<((U.jr d).length:Int):=of_decide_eq_true h;have b:x<(U.jr d).length:=(by omega);refine⟨by omega,h,fun _=>⟨by show jD (((U.ju d).length:Int)-1);exact L.in64 (by omega) (by omega),fun a=> ?_,fun a=>⟨L.in64 (by omega) (by omega),x+1,⟨⟨by simp,trivial⟩,trivial⟩,⟨by show x+1<=(U.jr d).length;omega,fun j g=> ?_⟩,by show(U.jr d).length-(x+1)<(U.jr d).length-x;omega⟩⟩⟩
  .have a:bkH (U.ju d).length (nth (U.jr d) x)=true:=a;exact jpu (d:=d) (.inr (.inr (.inl (jpI b (by rw[jAh,a];rfl)))))
  .have a:bkH (U.ju d).length (nth (U.jr d) x)=false:=a;by_cases e:j=x
   .subst e;show U.jbo (U.ju d).length (nth (U.jr d) j)=true;rw[jAh,a];rfl
   .exact c.2 j (by omega)
 have h:¬(x:Int)<((U.jr d).length:Int):=of_decide_eq_false h;have p:(U.jr d).all (U.jbo (U.ju d).length)=true:=jaj (by omega) c.2;clear c h;refine⟨⟨0,⟨⟨rfl,trivial⟩,trivial⟩,jD0 _,fun j g=>by omega⟩,fun x c _=>⟨fun h=> ?_,fun h=> ?_⟩⟩
 .have h:(x:Int)<((U.jh d).length:Int):=of_decide_eq_true h;have b:x<(U.jh d).length:=(by omega);refine⟨by omega,h,fun a=> ?_,fun a=>⟨L.in64 (by omega) (by omega),x+1,⟨⟨by simp,trivial⟩,trivial⟩,⟨by show x+1<=(U.jh d).length;omega,fun j g=> ?_⟩,by show(U.jh d).length-(x+1)<(U.jh d).length-x;omega⟩⟩
  .have a:shH d (nth (U.jh d) x)=true:=a;exact jpu (d:=d) (.inr (.inr (.inr (jpI b (by rw[jzY,a];rfl)))))
  .have a:shH d (nth (U.jh d) x)=false:=a;by_cases e:j=x
   .subst e;show U.yQ (U.jr d).length (U.jk (U.jg d)).length (nth (U.jh d) j)=true;rw[jzY,a];rfl
   .exact c.2 j (by omega)
 .have h:¬(x:Int)<((U.jh d).length:Int):=of_decide_eq_false h;have q:(U.jh d).all (U.yQ (U.jr d).length (U.jk (U.jg d)).length)=true:=jaj (by omega) c.2;show(true,())=(U.zi d,());rw[jxC,k,r,p,q];rfl
theorem jq7:zg PR 51 jqs:=kX jr1 juj Tryz.func51 (kcC jbn (kcC ji1 (kcC jkB kcN))) koN
theorem ji2:zg PR 17 jqt:=kX jr2 juk Tryz.func17 (kcC jgK (kcC jq8 (kcC jq7 (kcC jq6 kcN)))) koN
end Go.X
namespace Go.X
open Go.Proofs
namespace U
def jwJ (l:List ShD) (i n:Nat):Bool:=decide (jx8 (nth l i)=1)&& !((l.take n).any (fun t=>decide (jof t=jof (nth l i))&&decide (jcx t=jcx (nth l i))&&wh t (nth l i)))
def jzP (l:List ShD) (n:Nat):List ShD:=((List.range n).filter (fun i=>jwJ l i l.length)).map (nth l)
def jcB (l:List ShD) (n:Nat):Nat:=(List.range n).foldl (fun f i=>if wh (nth l f) (nth l i)=true then i else f) 0
def wo (l:List ShD):Nat->List ShD×List ShD
 |0=>([],l)
 |n+1=>((wo l n).1++[nth (wo l n).2 (jcB (wo l n).2 (wo l n).2.length)],(wo l n).2.take (jcB (wo l n).2 (wo l n).2.length)++(wo l n).2.drop (jcB (wo l n).2 (wo l n).2.length+1))
def jdZ (d:DyD):List ShD:=jzP (jhO (jh d)) (jhO (jh d)).length
def jk4 (d:DyD):List ShD:=(wo (jdZ d) (jdZ d).length).1
def jlb (d:DyD) (n:Nat):List Int×List Int:=((jk4 d).take n).foldl (jbS d) (List.replicate (jr d).length 0,[])
def jsd (d:DyD):List Int×List Int:=jlb d (jk4 d).length
end U
end Go.X
namespace Go.X
open Go.Proofs
end Go.X
namespace Go.X
theorem jls (l:List ShD) (n:Nat):U.jcB l (n+1)=if U.wh (nth l (U.jcB l n)) (nth l n)=true then n else U.jcB l n:=by
 unfold U.jcB;rw[jEE,jEu];rfl
theorem jh0 (l:List ShD):∀n,n<=l.length->0<l.length->U.jcB l n<l.length
 |0,_,h=>h
 |n+1,a,h=>by
  have b:=jh0 l n (by omega) h
  rw[jls]
  split<;>omega
theorem jhW (l:List ShD):∀n,n<=l.length->(U.wo l n).1.length=n/\(U.wo l n).2.length=l.length-n
 |0,_=>⟨rfl,rfl⟩
 |n+1,d=>by
  obtain⟨a,b⟩:=jhW l n (by omega)
  have c:=jh0 (U.wo l n).2 _ (jDS _) (by omega)
  refine⟨?_,?_⟩
  .show((U.wo l n).1++[_]).length=_
   rw[jD7,a];rfl
  .show((U.wo l n).2.take _++(U.wo l n).2.drop _).length=_
   rw[jD7,jEj,jET]
   omega
theorem jzu {α:Type} [Inhabited α] {l:List α} {m:Nat} (h:m<l.length):(nth l m::(l.take m++l.drop (m+1))).Perm l:=by
 have e:l=l.take m++nth l m::l.drop (m+1):=by
  conv=>lhs;rw[<-jEW m l]
  rw[List.drop_eq_getElem_cons h,L.nth_lt h]
 conv=>rhs;rw[e]
 exact List.perm_middle.symm
theorem jiG (l:List ShD):∀n,n<=l.length->((U.wo l n).1++(U.wo l n).2).Perm l
 |0,_=>List.Perm.refl _
 |n+1,d=>by
  have b:=jiG l n (by omega)
  have c:=jhW l n (by omega)
  have a:=jh0 (U.wo l n).2 _ (jDS _) (by omega)
  refine List.Perm.trans ?_ b
  show((U.wo l n).1++[nth (U.wo l n).2 (U.jcB (U.wo l n).2 (U.wo l n).2.length)]++_).Perm _
  rw[jD6]
  exact List.Perm.append_left _ (jzu a)
theorem jyn {d:DyD} {n:Nat} (h:n<(U.jk4 d).length):U.jlb d (n+1)=U.jbS d (U.jlb d n) (nth (U.jk4 d) n):=by
 unfold U.jlb;rw[L.take_succ h,jEu];rfl
theorem jpV {d:DyD} {s:ShD} (h:s∈U.jk4 d):s∈U.jhO (U.jh d):=by
 have b:=jiG (U.jdZ d) (U.jdZ d).length (jDS _);have a:s∈U.jdZ d:=b.mem_iff.1 (jDO _ h);unfold U.jdZ U.jzP at a;obtain⟨i,hi,rfl⟩:=jEn.1 a;exact L.mem_nth (jEd.1 (jEb.1 hi).1)
theorem jfg {l:List ShD} {s:ShD} (h:s∈U.jhO l):s∈l:=by
 unfold U.jhO U.jxy at h;obtain⟨m,_,h⟩:=List.mem_flatMap.1 h;unfold U.jzF at h;obtain⟨i,hi,rfl⟩:=jEn.1 h;exact L.mem_nth (jEd.1 (jEb.1 hi).1)
end Go.X
namespace Go.X
open Go.Proofs
attribute [local irreducible] U.jk4 U.jlb U.jaz U.on
end Go.X
namespace Go.X
theorem jlV (c:CrD) (j:JbD) (i:Nat):(U.we (c,j,U.jyY c j,()) (nth (U.jk c) i)=0)↔U.jai c j (i:Int)=true:=by
 show U.jty (U.jve (nth (U.jk c) i) (U.jBZ j)) (!U.jhF (U.fd (nth (U.jk c) i)) (U.jBY j)) (!U.jhF (U.cl (nth (U.jk c) i)) (U.jBX j))=0↔
  (!(U.jve (nth (U.jk c) ((i:Int)).toNat) (U.jBZ j))&&U.jhF (U.fd (nth (U.jk c) ((i:Int)).toNat)) (U.jBY j)&&U.jhF (U.cl (nth (U.jk c) ((i:Int)).toNat)) (U.jBX j))=true
 rw[jDR];generalize U.jve (nth (U.jk c) i) (U.jBZ j)=x;generalize U.jhF (U.fd (nth (U.jk c) i)) (U.jBY j)=y;generalize U.jhF (U.cl (nth (U.jk c) i)) (U.jBX j)=z;cases x<;>cases y<;>cases z<;>decide
theorem jA3 {c:CrD} {j:JbD} (b:U.jx c=true) (d:U.zw c j=true) (p:Nat):(p:Int)∈U.v6 c j↔p<(U.jk c).length/\U.jai c j (p:Int)=true:=by
 have a:U.zP c j=0:=(by unfold U.zP;rw[b,d];rfl);unfold U.v6 U.vq;rw[if_pos a,jEn];refine⟨fun⟨i,hi,e⟩=> ?_,fun h=>⟨p,?_,rfl⟩⟩
 .have e:i=p:=(by omega);subst e;have:=jEb.1 hi;exact⟨jEd.1 this.1,(jlV c j i).1 (of_decide_eq_true this.2)⟩
 .exact jEb.2 ⟨jEd.2 h.1,decide_eq_true ((jlV c j p).2 h.2)⟩
theorem jvD {l:List Int} (h:∀p∈l,0<=p/\p<8):∀n,n<=l.length->∀q,BT.has (U.jaq l n) q=(l.take n).any (fun p=>decide (p.toNat=q))
 |0,_,q=>BT.has_zero q
 |n+1,c,q=>by
  have b:=jvD h n (by omega) q
  have a:=jc6 h n (by omega)
  have d:=h _ (L.mem_nth (l:=l) (i:=n) (by omega))
  rw[jfQ (by omega),jbh,BT.has_bor a.1 (BT.two_set (by omega)),b,BT.has_two,L.take_succ (by omega),List.any_append]
  simp
theorem jvE {l:List Int} (h:∀p∈l,0<=p/\p<8) (q:Nat):BT.has (U.jsh l) q=l.any (fun p=>decide (p.toNat=q)):=by
 have:=jvD h l.length (jDS _) q;rw[jEM] at this;exact this
theorem jyS {d:DyD} {b:Nat} (a:b<(U.jr d).length):nth (U.kd d (U.jr d).length) b=U.jsh (U.v6 (U.jg d) (U.jfz (nth (U.jr d) b))):=by
 unfold U.kd;rw[jEM,L.nth_map a]
theorem jCm {d:DyD} (a:U.joQ d) {b:Nat} (c:b<(U.jr d).length):U.zw (U.jg d) (U.jfz (nth (U.jr d) b))=true:=
 jEr.1 a.2.1 _ (L.mem_nth c)
theorem jA4 {d:DyD} (g:U.joQ d) {b p:Int} (m:U.qY d b) (n:U.jt2 d p):decide (vF (nth (U.kd d (U.jr d).length) b.toNat/2^p.toNat) 1=0)= !U.jai (U.jg d) (U.jfz (U.bk d b)) p:=by
 unfold U.qY at m;unfold U.jt2 at n;have a:b.toNat<(U.jr d).length:=(by omega);have j:=fun q (c:q∈U.v6 (U.jg d) (U.jfz (nth (U.jr d) b.toNat)))=>jwC g.1 c
 have o:BT.Set' (U.jsh (U.v6 (U.jg d) (U.jfz (nth (U.jr d) b.toNat)))):=(jc6 j _ (jDS _)).1;have i:U.bk d b=nth (U.jr d) b.toNat:=rfl;rw[jyS a,BT.bit_num o,i];have k:=jvE j p.toNat;have f:=jA3 g.1 (jCm g a) p.toNat;have ep:((p.toNat:Nat):Int)=p:=(by omega);rw[ep] at f;have l:BT.has (U.jsh (U.v6 (U.jg d) (U.jfz (nth (U.jr d) b.toNat)))) p.toNat=U.jai (U.jg d) (U.jfz (nth (U.jr d) b.toNat)) p:=by
  rw[k];cases h:U.jai (U.jg d) (U.jfz (nth (U.jr d) b.toNat)) p with
  |true=>exact jEP.2 ⟨p,f.2 ⟨by omega,h⟩,by simp⟩
  |false=>
   refine jEF.2 fun q c e=> ?_
   have e:q.toNat=p.toNat:=of_decide_eq_true e;have:=j q c;have e:q=p:=(by omega);rw[e] at c;rw[(f.1 c).2] at h;cases h
 rw[l];cases U.jai (U.jg d) (U.jfz (nth (U.jr d) b.toNat)) p<;>rfl
theorem jov {α:Type} [Inhabited α] {R:α->α->Prop} {l:List α}:(∀i,i<l.length->∀b∈l.take i,R b (nth l i))↔l.Pairwise R:=by
 rw[jEQ];refine⟨fun h i j hi a d=> ?_,fun h i hi b c=> ?_⟩
 .have:=h j a l[i] (jEA.2 ⟨i,by omega,rfl⟩);rw[L.nth_lt a] at this;exact this
 .obtain⟨k,hk,rfl⟩:=jEA.1 c;rw[L.nth_lt hi];exact h k i (by omega) hi (by omega)
theorem jv2 {α:Type} [Inhabited α] {R:α->α->Prop} {l:List α}:(∀i,i<l.length->∀b∈l.drop (i+1),R (nth l i) b)↔l.Pairwise R:=by
 rw[jEQ];refine⟨fun h i j hi d c=> ?_,fun h i hi b a=> ?_⟩
 .have:=h i hi l[j] (List.mem_drop_iff_getElem.2 ⟨j-(i+1),by omega,by congr 1;omega⟩);rw[L.nth_lt hi] at this;exact this
 .obtain⟨k,hk,rfl⟩:=List.mem_drop_iff_getElem.1 a;rw[L.nth_lt hi];exact h i (i+1+k) hi (by omega) (by omega)
theorem jbN (d:DyD) (a b:Int):U.ye d a b=true↔(U.jdK (U.bk d a)<U.jdK (U.bk d b)\/(U.jdK (U.bk d a)=U.jdK (U.bk d b)/\a<b)):=decide_eq_true_iff
theorem jbM (d:DyD) (a b:Int):U.ye d a b=false↔¬(U.jdK (U.bk d a)<U.jdK (U.bk d b)\/(U.jdK (U.bk d a)=U.jdK (U.bk d b)/\a<b)):=decide_eq_false_iff_not
theorem jxZ (d:DyD) (l:List Int):kh (U.ye d) l where
 irrefl x _:=(jbM d x x).2 (by omega)
 trans x y z _ _ _ a b:=by
  have a:=(jbN d x y).1 a;have b:=(jbN d y z).1 b;exact(jbN d x z).2 (by omega)
 total x y _ _ a b:=by
  have a:=(jbM d x y).1 a;have b:=(jbM d y x).1 b;omega
theorem jkc {d:DyD} {a b:Int} (h:a≠b) (c:U.ye d b a=false):U.ye d a b=true:=by
 have c:=(jbM d b a).1 c;exact(jbN d a b).2 (by omega)
theorem juZ {d:DyD} {a b:Int} (c:U.ye d a b=true):U.ye d b a=false:=by
 have c:=(jbN d a b).1 c;exact(jbM d b a).2 (by omega)
theorem jec {d:DyD} {a b:Int} (h:U.ye d a b=true):(U.jaZ d b a=decide (0<=U.ve d a b))/\(U.jaZ d a b=decide (0<=U.ve d a b)):=by
 unfold U.jaZ;rw[if_pos h,juZ h,if_neg (by simp)];exact⟨rfl,rfl⟩
theorem jyj {d:DyD} {a b:Int} (h:a≠b):U.jaZ d a b=U.jaZ d b a:=by
 cases c:U.ye d b a with
 |false=>have:=jec (jkc h c);rw[this.1,this.2]
 |true=>have:=jec c;rw[this.1,this.2]
def TgR (d:DyD) (a b:Int):Prop:=a≠b->U.jaZ d b a=true
theorem jv1 {d:DyD} {l:List Int} (f:l.Nodup):U.jCb d l=true↔l.Pairwise (TgR d):=by
 rw[<-jov];unfold U.jCb;rw[jEr];have e:∀i,i<l.length->∀b∈l.take i,b≠nth l i:=(jov (R:=fun a b=>a≠b)).2 f;refine⟨fun h i hi b c _=> ?_,fun h i hi=>jEr.2 fun b c=> ?_⟩
 .exact jEr.1 (h i (jEd.2 hi)) b c
 .exact h i (jEd.1 hi) b c (e i (jEd.1 hi) b c)
theorem TgR.symm {d:DyD} {a b:Int} (h:TgR d a b):TgR d b a:=fun e=>(jyj (Ne.symm e)).trans (h (Ne.symm e))
theorem jwz {d:DyD} {l l':List Int} (h:l.Perm l'):U.jrd d l=U.jrd d l':=by
 unfold U.jrd;exact List.Perm.foldl_eq' (h.map _) (fun x _ y _ z=>by omega) 0
theorem jng (d:DyD) (p:Int) {l:List Int} (a:l.Nodup):U.jaz d p l=true↔(∀b∈l,U.jai (U.jg d) (U.jfz (U.bk d b)) p=true)/\l.Pairwise (TgR d)/\U.jrd d l<=U.jyX d:=by
 unfold U.jaz;rw[jDT,jDT,jEr,jv1 a,decide_eq_true_iff]
theorem jlO (d:DyD) (p:Int) {l l':List Int} (h:l.Perm l') (g:l.Nodup):U.jaz d p l=U.jaz d p l':=by
 have f:=h.nodup_iff.1 g;refine jEs.2 ?_;rw[jng d p g,jng d p f,jwz h,h.pairwise_iff (fun h=>TgR.symm h)];exact⟨fun⟨a,c⟩=>⟨fun b e=>a b (h.mem_iff.2 e),c⟩,fun⟨a,c⟩=>⟨fun b e=>a b (h.mem_iff.1 e),c⟩⟩
theorem jzz (d:DyD) (may:List Int) (p:Int) (s:List Int):U.jBA d may p s=true↔(∀b∈s,decide (vF (nth may b.toNat/2^p.toNat) 1=0)=false)/\s.Pairwise (fun a b=>0<=U.ve d a b)/\U.jrd d s<=U.jyX d:=by
 rw[<-jv2];unfold U.jBA;rw[jDT,decide_eq_true_iff,jEr,<-and_assoc];refine and_congr_left fun _=> ?_
 have e:∀i,U.jmH d may p s i=true↔decide (vF (nth may (nth s i).toNat/2^p.toNat) 1=0)=false/\∀b∈s.drop (i+1),0<=U.ve d (nth s i) b:=by
  intro i;unfold U.jmH;rw[jEe,jEg,jEF];refine and_congr_right fun _=>⟨fun h b c=> ?_,fun h b c=> ?_⟩
  .have:=h b c;simp at this;omega
  .have:=h b c;simp;omega
 refine⟨fun h=>⟨fun b c=> ?_,fun i hi=>((e i).1 (h i (jEd.2 hi))).2⟩,fun h i hi=>(e i).2 ⟨h.1 _ (L.mem_nth (jEd.1 hi)),h.2 i (jEd.1 hi)⟩⟩;obtain⟨i,hi,rfl⟩:=L.mem_iff.1 c;exact((e i).1 (h i (jEd.2 hi))).1
theorem jBB {d:DyD} {may:List Int} {p:Int} {l:List Int} (m:l.Nodup) (j:∀b∈l,decide (vF (nth may b.toNat/2^p.toNat) 1=0)= !U.jai (U.jg d) (U.jfz (U.bk d b)) p):U.jrT d may p l=U.jaz d p l:=by
 have f:(U.jm d l).Perm l:=j7 l;have c:(U.jm d l).Nodup:=f.nodup_iff.2 m;have k:(U.jm d l).Pairwise (fun a b=>U.ye d b a=false):=qV (jxZ d l);rw[<-jlO d p f c];unfold U.jrT;refine jEs.2 ?_;rw[jzz,jng d p c];have i:=List.Pairwise.and k c;refine and_congr ⟨fun h b e=> ?_,fun h b e=> ?_⟩ (and_congr_left fun _=>⟨fun h=> ?_,fun h=> ?_⟩)
 .have g:=h b e;rw[j b (f.mem_iff.1 e)] at g;simpa using g
 .rw[j b (f.mem_iff.1 e),h b e];rfl
 .refine(List.Pairwise.and i h).imp fun{a b} x _=> ?_
  rw[(jec (jkc x.1.2 x.1.1)).1];exact decide_eq_true x.2
 .refine(List.Pairwise.and i h).imp fun{a b} x=> ?_
  have:=x.2 x.1.2;rw[(jec (jkc x.1.2 x.1.1)).1] at this;exact of_decide_eq_true this
end Go.X
namespace Go.X
theorem jbs (a b:ShD):U.wh a b=true↔(U.jnr b<U.jnr a\/(U.jnr a=U.jnr b/\U.kK b<U.kK a)):=decide_eq_true_iff
theorem jeQ (a b:ShD):U.wh a b=false↔¬(U.jnr b<U.jnr a\/(U.jnr a=U.jnr b/\U.kK b<U.kK a)):=decide_eq_false_iff_not
theorem v8 (a:ShD):U.wh a a=false:=(jeQ a a).2 (by omega)
theorem jlw {a b:ShD} (h:U.wh a b=true):U.wh b a=false:=by
 have h:=(jbs a b).1 h;exact(jeQ b a).2 (by omega)
theorem jji {a b c:ShD} (d:U.wh a b=true) (e:U.wh b c=true):U.wh a c=true:=by
 have d:=(jbs a b).1 d;have e:=(jbs b c).1 e;exact(jbs a c).2 (by omega)
theorem jzw (a b:ShD):U.jq a b<0↔U.wh b a=true:=by
 rw[jbs];unfold U.jq;rw[zh,kO]
 split
 .rename_i h;have c:¬U.jnr a=U.jnr b:=fun e=>h (qT.2 e)
  rw[jxF];omega
 .rename_i h;have d:U.jnr a=U.jnr b:=qT.1 (Classical.not_not.1 h);rw[jxF];omega
theorem jxT {l:List ShD} (hi:∀a∈l,∀b∈l,U.kK a=U.kK b->a=b):kh U.jxS l where
 irrefl x _:=v8 x
 trans x y z _ _ _ c d:=jji d c
 total x y hx hy c d:=by
  have c:=(jeQ y x).1 c;have d:=(jeQ x y).1 d;exact hi x hx y hy (by omega)
theorem jxh {l:List ShD}:∀i,i<l.length->∃j,j<l.length/\nth l j=nth l i/\U.jm7 l j=true:=by
 intro i
 induction i using Nat.strongRecOn with
 |_ i f=>
  intro hi;cases h:U.jm7 l i with
  |true=>exact⟨i,hi,rfl,h⟩
  |false=>
   simp only[U.jm7,jEq] at h;obtain⟨x,d,e⟩:=jEP.1 h;obtain⟨k,hk,rfl⟩:=jEA.1 d;have e:l[k]=nth l i:=of_decide_eq_true e;obtain⟨j,c,a,b⟩:=f k (by omega) (by omega);exact⟨j,c,by rw[a,L.nth_lt (by omega)];exact e,b⟩
theorem jxx {l:List ShD} {s:ShD} (h:s∈l) (d:0<=U.kK s) (e:U.kK s<=99):s∈U.jhO l:=by
 obtain⟨i,hi,rfl⟩:=L.mem_iff.1 h;obtain⟨j,c,a,b⟩:=jxh i hi;unfold U.jhO U.jxy;refine List.mem_flatMap.2 ⟨(U.kK (nth l i)).toNat,jEd.2 (by omega),?_⟩;unfold U.jzF;refine jEn.2 ⟨j,jEb.2 ⟨jEd.2 c,?_⟩,a⟩;show(decide (U.kK (nth l j)=(((U.kK (nth l i)).toNat:Nat):Int))&&U.jm7 l j)=true;rw[b,a,Bool.and_true];exact decide_eq_true (by omega)
theorem js4 {l:List ShD} {n m:Nat} {s:ShD} (h:s∈U.jzF l n m):U.kK s=(m:Int):=by
 unfold U.jzF at h;obtain⟨i,hi,rfl⟩:=jEn.1 h;have a:=(jEb.1 hi).2;rw[jDT] at a;exact of_decide_eq_true a.1
theorem jgq (l:List ShD):(U.jhO l).Nodup:=by
 unfold U.jhO U.jxy;refine List.pairwise_flatMap.2 ⟨fun m _=> ?_,?_⟩
 .unfold U.jzF;refine List.pairwise_map.2 (List.Pairwise.imp_of_mem ?_ (List.Pairwise.filter _ jFc));intro i j hi c k e;have c:=jEb.1 c;have d:=c.2;rw[jDT] at d;have f:=d.2;have n:=jEd.1 c.1;have o:((l.take j).any (fun x=>decide (x=nth l j)))=true:=
   jEP.2 ⟨nth l i,jEA.2 ⟨i,by omega,(L.nth_lt (by omega)).symm⟩,decide_eq_true e⟩
  unfold U.jm7 at f;rw[o] at f;cases f
 .refine List.Pairwise.imp ?_ jFc;intro a b h x p y q e;have g:=js4 p;have d:=js4 q;rw[e] at g;omega
theorem jsj (t s:ShD):U.vK t=U.vK s↔U.jof t=U.jof s/\U.jcx t=U.jcx s:=by
 unfold U.vK;refine⟨fun h=>⟨congrArg (·.1) h,congrArg (·.2.1) h⟩,fun h=>by rw[h.1,h.2]⟩
theorem jjW (l:List ShD) (s:ShD):U.jh6 l s=true↔U.jx8 s=1/\∀t∈l,U.vK t=U.vK s->U.wh t s=false:=by
 unfold U.jh6;rw[jDT,decide_eq_true_iff,jEe,jEF];refine and_congr_right fun _=>⟨fun h t a e=> ?_,fun h t a e=> ?_⟩
 .have e:=(jsj t s).1 e;have:=h t a;rw[e.1,e.2,decide_eq_true rfl,decide_eq_true rfl] at this;simpa using this
 .rw[jDT,jDT,decide_eq_true_iff,decide_eq_true_iff] at e;rw[h t a ((jsj t s).2 e.1)] at e;exact absurd e.2 (by simp)
theorem jie (d:DyD):U.jdZ d=(U.jhO (U.jh d)).filter (U.jh6 (U.jhO (U.jh d))):=by
 unfold U.jdZ;generalize U.jhO (U.jh d)=l;unfold U.jzP;have e:(fun i=>U.jwJ l i l.length)=(U.jh6 l)∘(nth l):=by
  funext i;unfold U.jwJ;rw[jEM];rfl
 rw[e];have:=List.filter_map (f:=nth l) (p:=U.jh6 l) (l:=List.range l.length);rw[<-this,L.range_map_nth]
theorem joU (l:List ShD):∀n,∀i,i<n->U.wh (nth l (U.jcB l n)) (nth l i)=false
 |0,i,h=>absurd h (by omega)
 |n+1,i,h=>by
  have b:=joU l n
  rw[jls]
  split
  .rename_i a
   rcases Nat.lt_succ_iff_lt_or_eq.1 h with h|h
   .cases c:U.wh (nth l n) (nth l i) with
    |false=>rfl
    |true=>have:=jji a c;rw[b i h] at this;cases this
   .subst h;exact v8 _
  .rename_i a
   rcases Nat.lt_succ_iff_lt_or_eq.1 h with h|h
   .exact b i h
   .subst h;simpa using a
theorem jvF (l:List ShD):∀n,n<=l.length->(U.wo l n).1.Pairwise (fun a b=>U.wh a b=false)/\∀a∈(U.wo l n).1,∀b∈(U.wo l n).2,U.wh a b=false
 |0,_=>⟨List.Pairwise.nil,fun a d=>by cases d⟩
 |n+1,m=>by
  obtain⟨j,g⟩:=jvF l n (by omega)
  have k:=jhW l n (by omega)
  have h:=jh0 (U.wo l n).2 _ (jDS _) (by omega)
  have e:=joU (U.wo l n).2 (U.wo l n).2.length
  have f:∀b∈(U.wo l n).2.take (U.jcB (U.wo l n).2 (U.wo l n).2.length)++(U.wo l n).2.drop (U.jcB (U.wo l n).2 (U.wo l n).2.length+1),b∈(U.wo l n).2:=by
   intro b c;rcases jDY.1 c with c|c
   .exact jE7 c
   .exact jE6 c
  refine⟨List.pairwise_append.2 ⟨j,List.pairwise_singleton _ _,fun a d b c=> ?_⟩,fun a d b c=> ?_⟩
  .simp at c;subst c;exact g a d _ (L.mem_nth h)
  .have c:=f b c;have d:a∈(U.wo l n).1++[nth (U.wo l n).2 (U.jcB (U.wo l n).2 (U.wo l n).2.length)]:=d;rcases jDY.1 d with d|d
   .exact g a d b c
   .simp at d;subst d;obtain⟨i,hi,rfl⟩:=L.mem_iff.1 c;exact e i hi
theorem jpW (d:DyD):jr6 U.jxS (U.jk4 d):=(jvF (U.jdZ d) _ (jDS _)).1
theorem jdY (d:DyD):(U.jk4 d).Perm (U.jdZ d):=by
 have a:=jiG (U.jdZ d) (U.jdZ d).length (jDS _);have b:=(jhW (U.jdZ d) (U.jdZ d).length (jDS _)).2;have:(U.wo (U.jdZ d) (U.jdZ d).length).2=[]:=List.length_eq_zero_iff.1 (by omega);rw[this,jEk] at a;exact a
theorem jsJ {l:List ShD} (i:l.Pairwise (fun a b=>U.wh b a=true)):∀n,n<=l.length->∀s∈l.take n,(ku (Ty.dflt tSh) (zp tSt (U.vK s) (U.zr l n))=s↔∀t∈l.take n,U.vK t=U.vK s->U.wh t s=false)
 |0,_,s,c=>by simp at c
 |n+1,k,s,c=>by
  have j:=jsJ i n (by omega)
  have g:(l.take (n+1)).Pairwise (fun a b=>U.wh b a=true):=i.sublist (List.take_sublist _ _)
  rw[L.take_succ (by omega)] at g c
  have f:∀t∈l.take n,U.wh (nth l n) t=true:=fun t d=>(List.pairwise_append.1 g).2.2 t d _ (by simp)
  rw[jjj (by omega),L.take_succ (by omega)]
  by_cases hk:U.vK s=U.vK (nth l n)
  .rw[hk,M.mfind_mput]
   show nth l n=s↔_
   rcases jDY.1 c with c|c
   .refine⟨fun e=> ?_,fun h=> ?_⟩
    .have:=f s c
     rw[e,v8] at this;cases this
    .have:=h (nth l n) (by simp) rfl
     rw[f s c] at this;cases this
   .simp at c;subst c
    refine⟨fun _ t d _=> ?_,fun _=>rfl⟩
    rcases jDY.1 d with d|d
    .exact jlw (f t d)
    .simp at d;subst d;exact v8 _
  .rw[M.mfind_mput_ne hk]
   have c:s∈l.take n:=by
    rcases jDY.1 c with c|c
    .exact c
    .simp at c;subst c;exact absurd rfl hk
   rw[j s c];refine⟨fun h t d e=> ?_,fun h t d=>h t (jDO _ d)⟩;rcases jDY.1 d with d|d
   .exact h t d e
   .simp at d;subst d;exact absurd e.symm hk
theorem jvC {d:DyD} (h:U.jt d=0):(U.zC d).Pairwise (fun a b=>U.wh b a=true):=by
 have f:=jDt h;have g:jr6 (U.je tSh fun x=>(U.jq x.1 x.2.1,())) (U.zC d):=qV f;have e:∀s∈U.zC d,s∈U.jJ (U.jh d):=fun s i=>(j7 _).mem_iff.1 i
 refine List.Pairwise.imp_of_mem ?_ (List.Pairwise.and g (yH d));intro a b j k ⟨h1,h2⟩;cases c:U.je tSh (fun x=>(U.jq x.1 x.2.1,())) a b with
 |false=>exact absurd (f.total a b (e a j) (e b k) c h1) h2
 |true=>
  have c:U.jq a b<0:=of_decide_eq_true c;exact(jzw a b).1 c
theorem jpt {d:DyD} (h:U.jt d=0) {s:ShD} (a:s∈U.zC d):U.kg (U.zr (U.zC d) (U.zC d).length) s=true↔U.jx8 s=1/\∀t∈U.zC d,U.vK t=U.vK s->U.wh t s=false:=by
 have:=jsJ (jvC h) (U.zC d).length (jDS _) s (by rw[jEM];exact a);rw[jEM] at this;rw[<-this];unfold U.kg;rw[jEe,jEg,jEq,jEq,decide_eq_true_iff,decide_eq_true_iff];exact and_comm
theorem jiE {d:DyD} (h:U.zi d=true) {s:ShD} (a:s∈U.jh d):0<=U.kK s/\U.kK s<=99:=by
 have:=(zc h).2.2.2.2.2.2.2 _ a;unfold U.yQ at this;have:=of_decide_eq_true this;omega
def jyc (d:DyD):ShD->Bool:=U.kg (U.zr (U.zC d) (U.zC d).length)
theorem jB4 {d:DyD} (h:U.jt d=0):(U.zC d).filter (jyc d)=U.jk4 d:=by
 have j:=zx h;have f:∀s,s∈U.jhO (U.jh d)↔s∈U.zC d:=fun s=>⟨fun c=>gH.2 (jfg c),fun c=>by
  have c:=gH.1 c;have:=jiE j.1.2.2 c;exact jxx c this.1 this.2⟩
 have g:∀s,s∈(U.zC d).filter (jyc d)↔s∈U.jk4 d:=by
  intro s;rw[(jdY d).mem_iff,jie,jEb,jEb,f s];refine and_congr_right fun c=> ?_
  rw[jjW];have:=jpt h c;refine this.trans (and_congr_right fun _=>⟨fun h t i=>h t ((f t).1 i),fun h t i=>h t ((f t).2 i)⟩)
 have n:((U.zC d).filter (jyc d)).Nodup:=List.Pairwise.filter _ (yH d);have o:(U.jk4 d).Nodup:=(jdY d).nodup_iff.2 (by rw[jie];exact List.Pairwise.filter _ (jgq _));have m:=L.perm_of_nodup n o g;refine vG (jxT ?_) m ?_ (jpW d)
 .intro a k b l e;exact j.2 a (gH.1 (jEb.1 k).1) b (gH.1 (jEb.1 l).1) e
 .exact(List.Pairwise.filter _ (jvC h)).imp fun x=>jlw x
end Go.X
namespace Go.X
namespace U
def jAK (r:List Int) (m n:Nat):List Int:=(r.take n).filter (fun x=>decide (x=(m:Int)))
def jez (r:List Int) (n:Nat):List Int:=(List.range n).flatMap (fun m=>jAK r m r.length)
end U
structure jkY (d:DyD) (x:List (List Int)×List Int) (y:List Int×List Int):Prop where
 ref:x.2=y.2
 len:y.1.length=(U.jr d).length
 set:∀b,b<(U.jr d).length->BT.Set' (nth y.1 b)
 bit:∀b,b<(U.jr d).length->∀p,BT.has (nth y.1 b) p=true↔p<(U.jk (U.jg d)).length/\(b:Int)∈nth x.1 p
theorem jsN {t:Int} (h:BT.Set' t) (p:Int):U.jhF t p=BT.has t p.toNat:=BT.has_shr h p.toNat
theorem jCd {d:DyD} {x:List (List Int)×List Int} {y:List Int×List Int} (h:jkY d x y) {p:Int} (k:U.jt2 d p) (j:∀b∈nth x.1 p.toNat,U.qY d b) (n:Int):n∈U.on y.1 p↔n∈nth x.1 p.toNat:=by
 unfold U.jt2 at k;unfold U.on U.jC7;rw[jEn];refine⟨fun⟨i,hi,e⟩=> ?_,fun g=> ?_⟩
 .subst e;have hi:=jEb.1 hi;have a:=jEd.1 hi.1;rw[h.len] at a;have f:U.jhF (nth y.1 i) p=true:=hi.2;rw[jsN (h.set i a)] at f;exact((h.bit i a p.toNat).1 f).2
 .have hk:=j n g;unfold U.qY at hk;have c:((n.toNat:Nat):Int)=n:=(by omega);refine⟨n.toNat,jEb.2 ⟨jEd.2 (by rw[h.len];omega),?_⟩,c⟩;show U.jhF (nth y.1 n.toNat) p=true;rw[jsN (h.set _ (by omega))];exact(h.bit _ (by omega) _).2 ⟨by omega,by rw[c];exact g⟩
theorem jyJ (t:List Int) (p:Int):(U.on t p).Nodup:=by
 unfold U.on U.jC7;refine List.pairwise_map.2 ((List.Pairwise.filter _ jFc).imp ?_);intro a b c e;omega
theorem jAS {d:DyD} {x:List (List Int)×List Int} {y:List Int×List Int} (h:jkY d x y) {p:Int} (e:U.jt2 d p) (c:(nth x.1 p.toNat).Nodup) (a:∀b∈nth x.1 p.toNat,U.qY d b):(nth x.1 p.toNat).Perm (U.on y.1 p):=
 L.perm_of_nodup c (jyJ _ _) (fun n=>(jCd h e a n).symm)
theorem jCI {d:DyD} (i:U.joQ d) {x:List (List Int)×List Int} {y:List Int×List Int} (h:jkY d x y) {p b:Int} (g:U.jt2 d p) (e:(nth x.1 p.toNat++[b]).Nodup) (f:∀c∈nth x.1 p.toNat++[b],U.qY d c):
 U.jrT d (U.kd d (U.jr d).length) p (nth x.1 p.toNat++[b])=U.jaz d p (U.on y.1 p++[b]):=by
 rw[jBB e (fun c a=>jA4 i (f c a) g)];exact jlO d p ((jAS h g (jER.1 e).1 (fun c a=>f c (jDO _ a))).append_right [b]) e
theorem jB8 {d:DyD} {x:List (List Int)×List Int} {y:List Int×List Int} (h:jkY d x y) (v:x.1.length=(U.jk (U.jg d)).length) (u:(U.jk (U.jg d)).length<=8) {p b:Int} (t:U.jt2 d p) (s:U.qY d b) (i:b∉nth x.1 p.toNat):
 jkY d (x.1.set p.toNat (nth x.1 p.toNat++[b]),x.2) (y.1.set b.toNat (nth y.1 b.toNat+2^p.toNat),y.2):=by
 unfold U.jt2 at t;unfold U.qY at s;have r:((b.toNat:Nat):Int)=b:=(by omega);have g:b.toNat<y.1.length:=(by rw[h.len];omega);have n:p.toNat<x.1.length:=(by omega);have o:=h.set b.toNat (by omega);have m:BT.has (nth y.1 b.toNat) p.toNat=false:=by
  cases j:BT.has (nth y.1 b.toNat) p.toNat with
  |false=>rfl
  |true=>exact absurd (by have:=((h.bit _ (by omega) _).1 j).2;rw[r] at this;exact this) i
 have a:=BT.add_two o (p:=p.toNat) (by omega) m;have j:=BT.two_set (k:=p.toNat) (by omega);refine⟨h.ref,by show(y.1.set _ _).length=_;rw[List.length_set];exact h.len,fun c l=> ?_,fun c l q=> ?_⟩
 .show BT.Set' (nth (y.1.set b.toNat (nth y.1 b.toNat+2^p.toNat)) c);rw[L.nth_set g]
  split
  .rw[a];exact BT.bor_set o j
  .exact h.set c l
 .show BT.has (nth (y.1.set b.toNat (nth y.1 b.toNat+2^p.toNat)) c) q=true↔_/\(c:Int)∈nth (x.1.set p.toNat (nth x.1 p.toNat++[b])) q;rw[L.nth_set g,L.nth_set n];by_cases f:b.toNat=c
  .rw[if_pos f,a,BT.has_bor o j,BT.has_two,jE8,decide_eq_true_iff,h.bit _ (by omega),<-f,r];by_cases e:p.toNat=q
   .rw[if_pos e];refine⟨fun _=>⟨by omega,by simp⟩,fun _=> .inr e⟩
   .rw[if_neg e];exact⟨fun h=>h.elim id (fun h=>absurd h e),.inl⟩
  .rw[if_neg f,h.bit c l];by_cases e:p.toNat=q
   .rw[if_pos e,jDY,<-e];refine and_congr_right fun _=>⟨.inl,fun h=>h.elim id (fun h=> ?_)⟩
    simp at h;omega
   .rw[if_neg e]
theorem jyy (d:DyD):jkY d (U.ki (U.jpP d) (U.zC d) 0) (List.replicate (U.jr d).length 0,[]):=by
 have c:∀b,b<(U.jr d).length->nth (List.replicate (U.jr d).length (0:Int)) b=0:=fun b a=>L.nth_rep a
 refine⟨rfl,jEN,fun b a=> ?_,fun b a p=> ?_⟩
 .show BT.Set' (nth (List.replicate (U.jr d).length (0:Int)) b);rw[c b a];exact BT.zero_set
 .show BT.has (nth (List.replicate (U.jr d).length (0:Int)) b) p=true↔_/\(b:Int)∈nth (U.jBV d) p;rw[c b a,BT.has_zero];have f:U.jAX (U.jBV d):=fun x g=>(List.mem_replicate.1 g).2
  have e:nth (U.jBV d) p=[]:=jsD f p;rw[e];simp
def jxB (d:DyD) (i:Nat):List Int×List Int:=(((U.zC d).take i).filter (jyc d)).foldl (U.jbS d) (List.replicate (U.jr d).length 0,[])
attribute [local irreducible] U.ki U.jaz U.jrT U.on jxB U.zC jyc U.jpP U.kd in
theorem jyz {d:DyD} (h:U.jt d=0) {i:Nat} (hi:i<(U.zC d).length) (ih:jkY d (U.ki (U.jpP d) (U.zC d) i) (jxB d i)) (hinv:U.vT (U.jpP d) (U.zC d) i (U.ki (U.jpP d) (U.zC d) i)) (hrd:U.rd (U.jpP d)=d) (hml:U.gU (U.jpP d)=U.kd d (U.jr d).length)
 (hx:(U.ki (U.jpP d) (U.zC d) i).1.length=(U.jk (U.jg d)).length) (hdec:jyc d=U.kg (U.zr (U.zC d) (U.zC d).length)) (hft:jxB d (i+1)=if jyc d (nth (U.zC d) i)=true then U.jbS d (jxB d i) (nth (U.zC d) i) else jxB d i)
 (hnew:jyc d (nth (U.zC d) i)=true->(nth (U.ki (U.jpP d) (U.zC d) i).1 (U.jcx (nth (U.zC d) i)).toNat++[U.jof (nth (U.zC d) i)]).Nodup/\∀b∈nth (U.ki (U.jpP d) (U.zC d) i).1 (U.jcx (nth (U.zC d) i)).toNat++[U.jof (nth (U.zC d) i)],U.qY d b):
 jkY d (U.ki (U.jpP d) (U.zC d) (i+1)) (jxB d (i+1)):=by
 have hD:=(zx h).1
 have h8:(U.jk (U.jg d)).length<=8:=(jL hD.1).2.2.1
 have hsf:=jhV hD.2.2 (gH.1 (L.mem_nth (l:=U.zC d) (i:=i) hi))
 rw[hft]
 cases hc:jyc d (nth (U.zC d) i) with
 |false=>
  rw[hdec] at hc
  rw[jsb hi hc,if_neg (by simp)]
  exact ih
 |true=>
  have hn:=hnew hc
  have hcan:=jCI hD ih (p:=U.jcx (nth (U.zC d) i)) (b:=U.jof (nth (U.zC d) i)) hsf.1 hn.1 hn.2
  rw[hdec] at hc
  rw[if_pos rfl]
  unfold U.jbS
  cases hk:U.jaz d (U.jcx (nth (U.zC d) i)) (U.on (jxB d i).1 (U.jcx (nth (U.zC d) i))++[U.jof (nth (U.zC d) i)]) with
  |true=>
   rw[hk] at hcan
   rw[jvp hi hc (by rw[hrd,hml];exact hcan),if_pos rfl]
   refine jB8 ih hx h8 hsf.1 hsf.2 (fun hin=> ?_)
   exact(jER.1 hn.1).2.2 _ hin _ (by simp) rfl
  |false=>
   rw[hk] at hcan
   rw[jzV hi hc (by rw[hrd,hml];exact hcan),if_neg (by simp)]
   exact⟨congrArg (·++[U.kK (nth (U.zC d) i)]) ih.ref,ih.len,ih.set,ih.bit⟩
theorem jvV {d:DyD} (h:U.jt d=0):∀i,i<=(U.zC d).length->jkY d (U.ki (U.jpP d) (U.zC d) i) (jxB d i)
 |0,_=>jyy d
 |i+1,hi=>by
  have k:=jvV h i (by omega)
  obtain⟨⟨_,m⟩,⟨j,b⟩,c⟩:=jvP h
  have f:=(zx h).1
  have a:=jqi (r:=U.jpP d) (l:=U.zC d) f.2.2 (fun s e=>gH.1 e) (yH d) j b c i (by omega)
  refine jyz h hi k a rfl rfl a.1 rfl ?_ fun g=> ?_
  .unfold jxB
   rw[L.filter_take (p:=jyc d) (l:=U.zC d) (i:=i) hi,jEu]
   split<;>rfl
  .have:=jvo (r:=U.jpP d) (l:=U.zC d) f.2.2 (fun s e=>gH.1 e) (yH d) hi a g
   exact⟨this.1,this.2.1⟩
theorem jzs {d:DyD} (h:U.jt d=0):jxB d (U.zC d).length=U.jsd d:=by
 unfold jxB U.jsd U.jlb;rw[jEM,jEM,jB4 h]
theorem jqH {d:DyD} (h:U.jt d=0):jkY d (U.wk (U.joj d),(U.ki (U.jpP d) (U.zC d) (U.zC d).length).2) (U.jsd d):=by
 have:=jvV h _ (jDS _);rw[jzs h] at this;exact⟨this.ref,this.len,this.set,this.bit⟩
theorem jr9 (on:List (List Int)) (b:Int):∀n,n<=60->BT.Set' (U.wY on b n)/\∀q,BT.has (U.wY on b n) q=true↔q<n/\b∈nth on q
 |0,_=>⟨BT.zero_set,fun q=>by
  have:U.wY on b 0=0:=rfl
  rw[this,BT.has_zero];simp⟩
 |n+1,m=>by
  obtain⟨f,i⟩:=jr9 on b n (by omega)
  have g:=BT.two_set (k:=n) (by omega)
  have a:(nth on n).any (fun x=>decide (x=b))=true↔b∈nth on n:=by
   rw[jEP];exact⟨fun⟨x,l,e⟩=>(of_decide_eq_true e)▸l,fun j=>⟨b,j,decide_eq_true rfl⟩⟩
  rw[jir]
  split
  .rename_i c;have c:=a.1 c;rw[jbh];refine⟨BT.bor_set f g,fun q=> ?_⟩;rw[BT.has_bor f g,BT.has_two,jE8,decide_eq_true_iff,i];refine⟨fun h=>h.elim (fun h=>⟨by omega,h.2⟩) (fun h=>by subst h;exact⟨by omega,c⟩),fun h=> ?_⟩;by_cases d:q=n
   .exact .inr d.symm
   .exact .inl ⟨by omega,h.2⟩
  .rename_i c;refine⟨f,fun q=> ?_⟩;rw[i];refine⟨fun h=>⟨by omega,h.2⟩,fun h=>⟨?_,h.2⟩⟩;by_cases d:q=n
   .subst d;exact absurd (a.2 h.2) c
   .omega
theorem jAx {d:DyD} (h:U.jt d=0) {b:Nat} (a:b<(U.jr d).length):U.jfH (U.wk (U.joj d)) (b:Int)=nth (U.jsd d).1 b:=by
 have f:=jqH h;have c:=jsp h;have g:=jr9 (U.wk (U.joj d)) (b:Int) (U.wk (U.joj d)).length c.len60;refine BT.ext g.1 (f.set b a) fun p=>jEs.2 ?_
 have e:=(g.2 p).trans (f.bit b a p|>.trans (by rw[<-c.len])).symm;exact e
theorem jB6 {d:DyD} (h:U.jt d=0):U.wU d (U.jr d).length=(U.jsd d).1:=by
 have b:=jqH h;have a:(U.wU d (U.jr d).length).length=(U.jr d).length:=(by unfold U.wU;simp);refine L.ext_nth (by rw[a];exact b.len.symm) fun i hi=> ?_
 rw[a] at hi;unfold U.wU;rw[L.nth_map (by simpa using hi)];have:nth (List.range (U.jr d).length) i=i:=(by rw[L.nth_lt (by simpa using hi)];simp);rw[this];exact jAx h hi
theorem jqc (d:DyD):U.vI d=if U.wO d=0 then(U.jsd d).1 else[]:=by
 unfold U.vI;rw[jay]
 split
 .rename_i h;exact jB6 ((jay d).trans h)
 .rfl
theorem jvW (d:DyD):∀n,n<=(U.jk4 d).length->(U.jlb d n).2.Sublist (((U.jk4 d).take n).map U.kK)
 |0,_=>List.nil_sublist _
 |n+1,b=>by
  have a:=jvW d n (by omega)
  rw[jyn (by omega),L.take_succ (by omega),jEK]
  unfold U.jbS
  split
  .exact a.trans (List.sublist_append_left _ _)
  .exact List.Sublist.append a (List.Sublist.refl _)
theorem jvX {d:DyD} (h:U.jt d=0):(U.jsd d).2.Nodup/\∀x∈(U.jsd d).2,0<=x/\x<=99:=by
 have c:=jvW d _ (jDS _);rw[jEM] at c;have g:=zx h;have l:(U.jk4 d).Nodup:=(jdY d).nodup_iff.2 (by rw[jie];exact List.Pairwise.filter _ (jgq _));refine⟨List.Pairwise.sublist c (List.pairwise_map.2 (List.Pairwise.imp_of_mem ?_ l)),fun x k=> ?_⟩
 .intro a b i j f e;exact f (g.2 a (jfg (jpV i)) b (jfg (jpV j)) e)
 .obtain⟨s,c,rfl⟩:=jEn.1 (c.subset k);exact jiE g.1.2.2 (jfg (jpV c))
theorem jtP {r:List Int} (k:r.Nodup) (h:∀x∈r,0<=x/\x<=99):U.jez r 100=U.jeo r:=by
 have e:∀m,U.jAK r m r.length=r.filter (fun x=>decide (x=(m:Int))):=fun m=>by unfold U.jAK;rw[jEM]
 have d:∀m x,x∈U.jAK r m r.length->x=(m:Int)/\x∈r:=fun m x c=>by
  rw[e m] at c;have:=jEb.1 c;exact⟨of_decide_eq_true this.2,this.1⟩
 have f:(U.jez r 100).Pairwise (fun a b=>a<=b):=by
  unfold U.jez;refine List.pairwise_flatMap.2 ⟨fun m _=> ?_,List.Pairwise.imp ?_ jFc⟩
  .refine List.Pairwise.imp_of_mem ?_ (R:=fun _ _=>True) (List.pairwise_of_forall (fun _ _=>trivial));intro a b n o _;have:=(d m a n).1;have:=(d m b o).1;omega
  .intro a b g x c y j;have:=(d a x c).1;have:=(d b y j).1;omega
 have i:(U.jez r 100).Nodup:=by
  unfold U.jez;refine List.pairwise_flatMap.2 ⟨fun m _=> ?_,List.Pairwise.imp ?_ jFc⟩
  .rw[e m];exact List.Pairwise.filter _ k
  .intro a b g x c y j l;have:=(d a x c).1;have:=(d b y j).1;omega
 have p:(U.jez r 100).Perm r:=L.perm_of_nodup i k fun x=>by
  unfold U.jez;rw[List.mem_flatMap];refine⟨fun⟨m,_,c⟩=>(d m x c).2,fun c=> ?_⟩;have q:=h x c;refine⟨x.toNat,jEd.2 (by omega),?_⟩;rw[e];exact jEb.2 ⟨c,decide_eq_true (by omega)⟩
 exact jcH (p.trans (jfM r).symm) f (jvx r)
theorem jqK (d:DyD):U.vM d=if U.wO d=0 then U.jez (U.jsd d).2 100 else[]:=by
 unfold U.vM;rw[jay]
 split
 .rename_i h;have h:=(jay d).trans h;have a:=jvX h;rw[jtP a.1 a.2,<-(jqH h).ref];rfl
 .rfl
end Go.X
namespace Go.X
open Go.Proofs
attribute [local irreducible] U.wo U.jcB U.jzP U.jhO U.jdZ U.jk4 U.jwJ
end Go.X
namespace Go.X
open Go.Proofs
end Go.X
namespace Go.X
open Go.Proofs
section
attribute [local irreducible] U.jez U.jAK U.jsd U.wO
end
section
attribute [local irreducible] U.wO
end
section
attribute [local irreducible] U.jaz U.on U.jhF U.joQ
end
section
attribute [local irreducible] U.wO U.jhF
end
end Go.X
namespace Go.X
open Go.Proofs
section
attribute [local irreducible] U.wO
end
end Go.X
namespace Go.X
open Go.Proofs
end Go.X


