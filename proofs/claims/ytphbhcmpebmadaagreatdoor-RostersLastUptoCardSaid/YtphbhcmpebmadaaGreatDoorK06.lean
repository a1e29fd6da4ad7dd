/-
  Part 6 of the road: a checked reading of bodies, and what the functions on it do (P10 B5 P11 B6 P12 P13 B7 P14 B8 P15 C1 PC1 PC2 PC3 PC4 C2 PC5 PC6 PC7 PC8 C3 PC9 SL PC10 S1 S2 S3 PC11 C4 PC12 PC13 PC14 S4 S5).
-/
import Derived.Test.YtphbhcmpebmadaaGreatDoorK05
namespace Go.X
open Go.Proofs
theorem zh {d:DyD} (h:U.jr d=0):U.jo7 d/\∀a∈U.jH d,∀b∈U.jH d,U.zJ a=U.zJ b->a=b:=by
 unfold U.jr U.jkh at h;cases c:U.ju (U.jf d) with
 |false=>rw[c] at h;simp at h
 |true=>
  cases e:U.juc d with
  |false=>rw[c,e] at h;simp at h
  |true=>
   cases f:U.zj d with
   |false=>rw[c,e,f] at h;simp at h
   |true=>
    cases g:U.jrU (U.jJ (U.jH d)) with
    |true=>rw[c,e,f,g] at h;simp at h
    |false=>exact⟨⟨c,e,f⟩,(jxq _).1 g⟩
theorem jBs:jaV U.jo:=by
 have e:U.jo=jx8 (fun a b=>U.gx (U.jh0 a) (U.jh0 b)) (fun a b=>U.gx (U.zJ a) (U.zJ b)):=by
  funext a b;unfold U.jo;rw[j6,kT];rfl
 rw[e];exact jgj (jgS jfs U.jh0) (jgS jfs U.zJ)
theorem jxF {a b:ShD} (h:U.jo a b=0):U.zJ a=U.zJ b:=by
 unfold U.jo at h;rw[j6,kT] at h
 split at h
 .contradiction
 .exact q8.1 h
theorem jDx {d:DyD} (h:U.jr d=0):ki (U.jd tSh fun x=>(U.jo x.1 x.2.1,())) (U.jJ (U.jH d)):=
 jmQ jBs (fun a b e f c=>(zh h).2 a (jak.1 e) b (jak.1 f) (jxF c))
theorem qQ {d:DyD} {s:ShD}:s∈U.jM d↔s∈U.jH d:=((j9 _).mem_iff).trans jak
theorem qr (d:DyD):(U.jM d).Nodup:=(j9 _).nodup_iff.2 (jfn _)
theorem jAA (d:DyD):(U.jM d).length<=(U.jH d).length:=by
 unfold U.jM U.jDP;rw[(j9 _).length_eq];exact jxx _
theorem jbX {d:DyD} (h:U.zj d=true) {s:ShD} (a:s∈U.jH d):(0<=U.zZ s/\U.zZ s<((U.ji (U.jf d)).length:Int))/\U.q6 d (U.w4 s):=by
 have:=(j7 h).2.2.2.2.2.2.2 _ a;unfold U.yx at this;have:=of_decide_eq_true this;unfold U.q6;omega
theorem jjw {l:List ShD} {i:Nat} (h:i<l.length):U.zm l (i+1)=jdv tSt (U.qw (nth l i)) (nth l i) (U.zm l i):=by
 unfold U.zm;rw[L.take_succ h,jEv];rfl
theorem jel {r:RoD} {l:List ShD} {i:Nat} (h:i<l.length):U.zP r l (i+1)=U.jn6 (U.rd r) (U.y5 r) (U.zm l l.length) (U.zP r l i) (nth l i):=by
 unfold U.zP;rw[L.take_succ h,jEv];rfl
theorem jC6 {d:DyD} {l:List Int} (c:l.Nodup) (a:∀b∈l,U.q6 d b):l.length<=(U.jp d).length:=by
 have:=L.nodup_len l ((List.range (U.jp d).length).map (fun(b:Nat)=>(b:Int))) c (fun x e=>by
  have:=a x e;unfold U.q6 at this;exact jEx.2 ⟨x.toNat,jEg.2 (by omega),by omega⟩)
 simpa using this
section
variable {r:RoD} {l:List ShD} {i:Nat}
theorem jso (u:U.zj (U.rd r)=true) (v:∀s∈l,s∈U.jH (U.rd r)) (nd:l.Nodup) (h:i<l.length) {x:List (List Int)×List Int} (y:U.v8 (U.rd r,U.y5 r,U.wm r,U.jCV r,()) l i x)
 (k:U.zW (U.zm l l.length) (nth l i)=true):(nth x.1 (U.zZ (nth l i)).toNat++[U.w4 (nth l i)]).Nodup/\(∀b∈nth x.1 (U.zZ (nth l i)).toNat++[U.w4 (nth l i)],U.q6 (U.rd r) b)/\
  ∀b∈nth x.1 (U.zZ (nth l i)).toNat++[U.w4 (nth l i)],∃j:Nat,j<i+1/\U.qw (nth l j)=(b,((U.zZ (nth l i)).toNat:Int),())/\kx (Ty.dflt tSh) (zt tSt (U.qw (nth l j)) (U.zm l l.length))=nth l j:=by
 obtain⟨A,B,q⟩:=y;have w:=jbX u (v _ (L.mem_nth h));have d:kx (Ty.dflt tSh) (zt tSt (U.qw (nth l i)) (U.zm l l.length))=nth l i:=by
  unfold U.zW at k;simp only[jEl,jEh,jEN,decide_eq_true_eq] at k;exact k.1
 have o:((U.zZ (nth l i)).toNat:Int)=U.zZ (nth l i):=(by omega);obtain⟨z,m⟩:=q (U.zZ (nth l i)).toNat;refine⟨?_,fun b c=> ?_,fun b c=> ?_⟩
 .refine jEU.2 ⟨z,by simp,fun a t b c e=> ?_⟩;simp at c;subst c;subst e;obtain⟨_,j,n,f,g⟩:=m _ t;rw[o] at f;have p:U.qw (nth l j)=U.qw (nth l i):=f;rw[p,d] at g;have:=(List.nodup_iff_pairwise_ne.1 nd);rw[jEO] at this;refine this j i (by omega) h n ?_;rw[<-L.nth_lt,<-L.nth_lt h];exact g.symm
 .rcases jDY.1 c with c|c
  .exact(m b c).1
  .simp at c;subst c;exact w.2
 .rcases jDY.1 c with c|c
  .obtain⟨_,j,n,f,g⟩:=m b c;exact⟨j,by omega,f,g⟩
  .simp at c;subst c;exact⟨i,by omega,by rw[o];rfl,d⟩
theorem jwT {r:RoD} {x:List (List Int)×List Int} (a:U.v8 r l i x):U.v8 r l (i+1) x:=
 ⟨a.1,by have:=a.2.1;omega,fun p=>⟨(a.2.2 p).1,fun b c=>⟨((a.2.2 p).2 b c).1,by
  obtain⟨j,d,e⟩:=((a.2.2 p).2 b c).2
  exact⟨j,by omega,e⟩⟩⟩⟩
theorem jzV (g:U.zj (U.rd r)=true) (j:∀s∈l,s∈U.jH (U.rd r)) (nd:l.Nodup) (h:i<l.length) {x:List (List Int)×List Int} (a:U.v8 r l i x):
 U.v8 r l (i+1) (U.jn6 (U.rd r) (U.y5 r) (U.zm l l.length) x (nth l i)):=by
 unfold U.jn6;cases k:U.zW (U.zm l l.length) (nth l i) with
 |false=>rw[if_neg (by simp)];exact jwT a
 |true=>
  rw[if_pos rfl];have d:=jso g j nd h a k;have m:=jbX g (j _ (L.mem_nth h))
  split
  .refine⟨by show(x.1.set _ _).length=_;rw[List.length_set];exact a.1,by have:=a.2.1;show x.2.length<=_;omega,fun p=> ?_⟩;have c:(U.zZ (nth l i)).toNat<x.1.length:=(by rw[a.1];omega);show(nth (x.1.set (U.zZ (nth l i)).toNat (nth x.1 (U.zZ (nth l i)).toNat++[U.w4 (nth l i)])) p).Nodup/\_;rw[L.nth_set c]
   split
   .rename_i e;subst e;exact⟨d.1,fun b f=>⟨d.2.1 b f,d.2.2 b f⟩⟩
   .exact(jwT a).2.2 p
  .refine⟨a.1,?_,(jwT a).2.2⟩;have:=a.2.1;show(x.2++[U.zJ (nth l i)]).length<=_;rw[jEd];simp;omega
end
theorem jm0 {l:List (List Int)} (h:U.jyN l) (p:Nat):nth l p=[]:=by
 by_cases a:p<l.length
 .exact h _ (L.mem_nth a)
 .unfold nth;rw[jEq,List.getElem?_eq_none (by omega)];rfl
theorem jvo {r:RoD} {l:List ShD} (a:(U.wm r).length=(U.ji (U.jf (U.rd r))).length) (c:U.jyN (U.wm r)) (d:U.jCV r=U.ve):U.v8 r l 0 (U.zP r l 0):=by
 refine⟨a,?_,fun p=> ?_⟩
 .show(U.jCV r).length<=0;rw[d];exact jDW 0
 .have e:nth (U.zP r l 0).1 p=[]:=jm0 c p;rw[e];exact⟨List.nodup_nil,fun b f=>by cases f⟩
theorem jCH (m:List ((Int×Int×Unit)×ShD)) (s:ShD):U.zW m s= !(!decide (kx (Ty.dflt tSh) (zt tSt (U.qw s) m)=s)||decide (U.jqT s≠1)):=by
 unfold U.zW;by_cases h:U.jqT s=1<;>simp[h]
section
variable {r:RoD} {l:List ShD} {i:Nat}
theorem jmp (h:i<l.length) (a:U.zW (U.zm l l.length) (nth l i)=false):U.zP r l (i+1)=U.zP r l i:=by
 rw[jel h];unfold U.jn6;rw[a,if_neg (by simp)]
theorem jmo (h:i<l.length) (a:U.zW (U.zm l l.length) (nth l i)=true) (b:U.jnw (U.rd r) (U.y5 r) (U.zZ (nth l i)) (nth (U.zP r l i).1 (U.zZ (nth l i)).toNat++[U.w4 (nth l i)])=true):
 U.zP r l (i+1)=((U.zP r l i).1.set (U.zZ (nth l i)).toNat (nth (U.zP r l i).1 (U.zZ (nth l i)).toNat++[U.w4 (nth l i)]),(U.zP r l i).2):=by
 rw[jel h];unfold U.jn6;rw[a,if_pos rfl,if_pos b]
theorem jsp (h:i<l.length) (a:U.zW (U.zm l l.length) (nth l i)=true) (b:U.jnw (U.rd r) (U.y5 r) (U.zZ (nth l i)) (nth (U.zP r l i).1 (U.zZ (nth l i)).toNat++[U.w4 (nth l i)])=false):
 U.zP r l (i+1)=((U.zP r l i).1,(U.zP r l i).2++[U.zJ (nth l i)]):=by
 rw[jel h];unfold U.jn6;rw[a,if_pos rfl,b,if_neg (by simp)]
end
theorem jhR:jfP:=by
 unfold jfP q92_5 q92_0 q92_4 q92_1 q92_3 q92_2;rintro⟨b,⟨⟩⟩ K;obtain⟨⟨hk,O⟩,⟨P,B⟩,C⟩:U.jyH (U.kl b):=K;have G:=(zh hk).1;have u:=G.2.2;have v:(U.jH (U.rd (U.kl b))).length<=30:=(j7 u).2.2.2.2.1;have I:b.2.2.2.2.2.2.2.1.length<=30:=v;have N:(U.jM (U.rd (U.kl b))).length<=30:=jD7 (jAA _) v;have g:∀s∈U.jM (U.rd (U.kl b)),s∈U.jH (U.rd (U.kl b)):=fun s D=>qQ.1 D
 have w:=qr (U.rd (U.kl b));have M:(U.jp (U.rd (U.kl b))).length<=4:=(j7 u).1;refine⟨by show b.2.2.2.2.2.2.2.1.length<=100000;omega,fun _ _ _ _=>trivial,jDx hk,fun _=>⟨⟨0,⟨⟨rfl,trivial⟩,rfl,trivial⟩,jD6 _⟩,fun x J=>⟨fun h=> ?_,fun h _=>⟨⟨0,⟨⟨rfl,trivial⟩,rfl,rfl,trivial⟩,jD6 _,jvo (r:=U.kl b) P B C⟩,fun y n=>⟨fun t=> ?_,fun t=> ?_⟩⟩⟩⟩⟩
 .have h:(x:Int)<((U.jM (U.rd (U.kl b))).length:Int):=of_decide_eq_true h;have D:=jjw (l:=U.jM (U.rd (U.kl b))) (i:=x) (by omega);exact⟨by omega,h,L.in64 (by omega) (by omega),x+1,⟨⟨by simp,trivial⟩,D.symm,trivial⟩,by show x+1<=(U.jM (U.rd (U.kl b))).length;omega,by show(U.jM (U.rd (U.kl b))).length-(x+1)<(U.jM (U.rd (U.kl b))).length-x;omega⟩
 .have J:x<=(U.jM (U.rd (U.kl b))).length:=J;have h:¬(x:Int)<((U.jM (U.rd (U.kl b))).length:Int):=of_decide_eq_false h;have E:x=(U.jM (U.rd (U.kl b))).length:=(by omega);have t:(y:Int)<((U.jM (U.rd (U.kl b))).length:Int):=of_decide_eq_true t;have a:y<(U.jM (U.rd (U.kl b))).length:=(by omega);obtain⟨_,e⟩:y<=(U.jM (U.rd (U.kl b))).length/\U.v8 (U.kl b) (U.jM (U.rd (U.kl b))) y (U.zP (U.kl b) (U.jM (U.rd (U.kl b))) y):=n;have c:=jzV (r:=U.kl b) u g w a e;rw[<-jel a] at c;have F:y+1<=(U.jM (U.rd (U.kl b))).length:=a;have A:(U.jM (U.rd (U.kl b))).length-(y+1)<(U.jM (U.rd (U.kl b))).length-y:=(by omega);have q:=jbX u (g _ (L.mem_nth a));have o:=jCH (U.zm (U.jM (U.rd (U.kl b))) (U.jM (U.rd (U.kl b))).length) (nth (U.jM (U.rd (U.kl b))) y);subst E;refine⟨by omega,t,fun p=> ?_,fun p=> ?_⟩
  .have f:U.zW (U.zm (U.jM (U.rd (U.kl b))) (U.jM (U.rd (U.kl b))).length) (nth (U.jM (U.rd (U.kl b))) y)=false:=by
    rw[o];have p:(!decide (kx (Ty.dflt tSh) (zt tSt (U.qw (nth (U.jM (U.rd (U.kl b))) y)) (U.zm (U.jM (U.rd (U.kl b))) (U.jM (U.rd (U.kl b))).length))=nth (U.jM (U.rd (U.kl b))) y)||decide (U.jqT (nth (U.jM (U.rd (U.kl b))) y)≠1))=true:=p;rw[p];rfl
   have d:=jmp (r:=U.kl b) a f;exact⟨L.in64 (by omega) (by omega),y+1,⟨⟨by simp,trivial⟩,congrArg (·.2) d.symm,congrArg (·.1) d.symm,trivial⟩,⟨F,c⟩,A⟩
  .have f:U.zW (U.zm (U.jM (U.rd (U.kl b))) (U.jM (U.rd (U.kl b))).length) (nth (U.jM (U.rd (U.kl b))) y)=true:=by
    rw[o];have p:(!decide (kx (Ty.dflt tSh) (zt tSt (U.qw (nth (U.jM (U.rd (U.kl b))) y)) (U.zm (U.jM (U.rd (U.kl b))) (U.jM (U.rd (U.kl b))).length))=nth (U.jM (U.rd (U.kl b))) y)||decide (U.jqT (nth (U.jM (U.rd (U.kl b))) y)≠1))=false:=p;rw[p];rfl
   have j:=jso (r:=U.kl b) u g w a e f;have z:=jC6 j.1 j.2.1;have H:(nth (U.zP (U.kl b) (U.jM (U.rd (U.kl b))) y).1 (U.zZ (nth (U.jM (U.rd (U.kl b))) y)).toNat).length<=4:=by
    rw[jEd] at z;omega
   have k:0<=U.zZ (nth (U.jM (U.rd (U.kl b))) y):=q.1.1;have m:U.zZ (nth (U.jM (U.rd (U.kl b))) y)<((U.zP (U.kl b) (U.jM (U.rd (U.kl b))) y).1.length:Int):=(by rw[e.1];exact q.1.2);have Q:=e.2.1;refine⟨k,m,k,m,k,m,rfl,rfl,?_,rfl,⟨G,O⟩,q.1,⟨jD7 z (by omega),j.2.1⟩,fun n=> ?_,fun n=> ?_⟩
   .show((nth (U.zP (U.kl b) (U.jM (U.rd (U.kl b))) y).1 (U.zZ (nth (U.jM (U.rd (U.kl b))) y)).toNat).length+1)*8<=140737488355328;omega
   .have d:=jmo (r:=U.kl b) a f n;exact⟨k,m,L.in64 (by omega) (by omega),y+1,⟨⟨by simp,trivial⟩,congrArg (·.2) d.symm,congrArg (·.1) d.symm,trivial⟩,⟨F,c⟩,A⟩
   .have d:=jsp (r:=U.kl b) a f n;refine⟨?_,L.in64 (by omega) (by omega),y+1,⟨⟨by simp,trivial⟩,congrArg (·.1) d.symm,⟨rfl,rfl,rfl,rfl,rfl,rfl,rfl,rfl,trivial,trivial,trivial,trivial⟩,congrArg (·.2) d.symm,trivial⟩,⟨F,c⟩,A⟩;show((U.zP (U.kl b) (U.jM (U.rd (U.kl b))) y).2.length+1)*8<=140737488355328;omega
 .have t:¬(y:Int)<((U.jM (U.rd (U.kl b))).length:Int):=of_decide_eq_false t;have n:=n.1;have n:y<=(U.jM (U.rd (U.kl b))).length:=n;have a:y=(U.jM (U.rd (U.kl b))).length:=(by omega);subst a;exact⟨rfl,rfl⟩
theorem jkO:wI PR 97 jkH:=jyo Tryz.sortI 3 (wq Tryz.func97 (c:=zz Tryz.f97) (by kernel_rfl) (by kernel_rfl))
theorem jgc:wI PR 66 jf2:=jjn jgH jhR Tryz.func66 (kcC jrh (kcC jbr kcN)) (koC gY (koC qW (koC jkO koN)))
end Go.X
namespace Go.X
open Go.Proofs
namespace U
def jaw (l:List Int) (n:Nat):Int:=(l.take n).foldl (fun s p=>bor s (1*2^p.toNat)) 0
def jst (l:List Int):Int:=jaw l l.length
def zU (d:DyD) (n:Nat):List Int:=((jp d).take n).map (fun b=>jst (yf (jf d) (jfJ b)))
def jAS (d:DyD):List (List Int):=List.replicate (ji (jf d)).length ve
def jcv (d:DyD):RoD:=(d,zU d (jp d).length,jAS d,ve,())
def jnH (d:DyD):RoD:=(d,zU d (jp d).length,(qO (jcv d)).1,(qO (jcv d)).2,())
def zr (d:DyD):Option RoD:=if jr d=0 then some (jnH d) else none
end U
def joq:zv:=⟨[.val tDy,.nil true],[.cl (.dat (.ptr tRo)),.cl (.dat .int)],fun d=>[(U.jH d.1).length<=100000],fun d=>((U.zr d.1,U.jr d.1,()),())⟩
def jxV:Ann:=fun r=>match r with
 |8=>some fun σ=>{X:=Nat,sl:=fun i=>[(39,.dat .int (i:Int))],ob:=fun i=>[(27,some (.box 82 false (((bx σ 27).set 8 (.own (yZ 27 8) .int)).set 10 (.own (yZ 27 10) .int)))),(yZ 27 10,some (.row 3 .int false .yes U.ve)),(yZ 27 8,some (.row 3 .int false .yes (U.zU (gb tDy σ 2) i)))],inv:=fun i=>i<=(U.jp (gb tDy σ 2)).length,mu:=fun i=>(U.jp (gb tDy σ 2)).length-i}
 |13=>some fun σ=>{X:=Nat,sl:=fun i=>[(53,.dat .int (i:Int)),(12,.dat .int (U.jaw (gd (.slice .int) σ 51) i))],ob:=fun _=>[],inv:=fun i=>i<=(gd (.slice .int) σ 51).length,mu:=fun i=>(gd (.slice .int) σ 51).length-i}
 |3000005=>some fun _=>{X:=Unit,sl:=fun _=>[],ob:=fun _=>[],inv:=fun _=>True,mu:=fun _=>0}
 |_=>none
abbrev q93_1 (d:DyD×Unit×Unit)(x:Nat):=(U.yf d.1.1 (nth d.1.2.2.1 (x:Int).toNat).1)
abbrev q93_2 (d:DyD×Unit×Unit):=(d.1.1.1=d.1.1.1/\d.1.1.2.1=d.1.1.2.1/\d.1.1.2.2.1=d.1.1.2.2.1/\d.1.2.1=d.1.2.1/\d.1.2.2.1=d.1.2.2.1/\d.1.2.2.2.1=d.1.2.2.2.1/\d.1.2.2.2.2.1=d.1.2.2.2.2.1/\d.1.2.2.2.2.2.1=d.1.2.2.2.2.2.1/\True/\True/\True/\True)
abbrev q93_4 (d:DyD×Unit×Unit):=(d.1.1.2.1.length:Int)
abbrev q93_3 (d:DyD×Unit×Unit)(x:Nat):=(U.kl (d.1.1.1,d.1.1.2.1,d.1.1.2.2.1,d.1.2.1,d.1.2.2.1,d.1.2.2.2.1,d.1.2.2.2.2.1,d.1.2.2.2.2.2.1,U.zU d.1 x,List.replicate (q93_4 d).toNat [],U.ve,()))
abbrev q93_0 (d:DyD×Unit×Unit)(x:Nat):=(U.jhV (d.1.1.1,d.1.1.2.1,d.1.1.2.2.1,d.1.2.1,d.1.2.2.1,d.1.2.2.2.1,d.1.2.2.2.2.1,d.1.2.2.2.2.2.1,U.zU d.1 x,List.replicate (q93_4 d).toNat [],U.ve,()) (U.qO (q93_3 d x)))
def jnR:Prop:=∀(d:DyD×Unit×Unit),(U.jH d.1).length<=100000->(U.jH d.1).length<=100000/\(decide (U.jr d.1≠0)=true->(none,U.jr d.1,())=(U.zr d.1,U.jr d.1,())/\()=())/\(decide (U.jr d.1≠0)=false->0<=(q93_4 d)/\(q93_4 d)=(q93_4 d)/\(q93_4 d).toNat*24<=140737488355328/\((!true)=true->(!true)=true/\(!true)=true/\False)/\((!true)=false->(!true)=false/\(!true)=false/\(!true)=false/\(!true)=false/\(false=true->(none,(1:Int),())=(U.zr d.1,U.jr d.1,())/\()=())/\(false=false->d.1.2.2.1.length<4611686018427387904->(∃(x:Nat),((0=(x:Int)/\True)/\(q93_2 d)/\U.ve=[]/\U.zU d.1 x=[]/\True)/\x<=(U.jp d.1).length)/\∀(x:Nat),x<=(U.jp d.1).length->(decide ((x:Int)<(d.1.2.2.1.length:Int))=true->0<=(x:Int)/\(x:Int)<(d.1.2.2.1.length:Int)/\((q93_1 d x).length<4611686018427387904->(∃(a:Nat),((0=(a:Int)/\0=U.jaw (q93_1 d x) a/\True)/\True)/\a<=(q93_1 d x).length)/\∀(a:Nat),a<=(q93_1 d x).length->(decide ((a:Int)<(↑(q93_1 d x).length:Int))=true->0<=(a:Int)/\(a:Int)<(↑(q93_1 d x).length:Int)/\0<=nth (q93_1 d x) (a:Int).toNat/\nth (q93_1 d x) (a:Int).toNat<=64/\jD ((1:Int)*2^(nth (q93_1 d x) (a:Int).toNat).toNat)/\jD ((a:Int)+1)/\∃(b:Nat),(((a:Int)+1=(b:Int)/\bor (U.jaw (q93_1 d x) a) ((1:Int)*2^(nth (q93_1 d x) (a:Int).toNat).toNat)=U.jaw (q93_1 d x) b/\True)/\True)/\b<=(q93_1 d x).length/\(q93_1 d x).length-b<(q93_1 d x).length-a)/\(decide ((a:Int)<(↑(q93_1 d x).length:Int))=false->((U.zU d.1 x).length+[U.jaw (q93_1 d x) a].length)*8<=140737488355328/\jD ((x:Int)+1)/\∃(b:Nat),(((x:Int)+1=(b:Int)/\True)/\U.ve=U.ve/\(q93_2 d)/\U.zU d.1 x++[U.jaw (q93_1 d x) a]=U.zU d.1 b/\True)/\b<=(U.jp d.1).length/\(U.jp d.1).length-b<(U.jp d.1).length-x)))/\(decide ((x:Int)<(d.1.2.2.1.length:Int))=false->U.jyH (q93_3 d x)/\(some ((((q93_0 d x).1,(q93_0 d x).2.1,(q93_0 d x).2.2.1,()),(q93_0 d x).2.2.2.1,(q93_0 d x).2.2.2.2.1,(q93_0 d x).2.2.2.2.2.1,(q93_0 d x).2.2.2.2.2.2.1,(q93_0 d x).2.2.2.2.2.2.2.1,()),(q93_0 d x).2.2.2.2.2.2.2.2.1,(q93_0 d x).2.2.2.2.2.2.2.2.2.1,(q93_0 d x).2.2.2.2.2.2.2.2.2.2.1,()),(0:Int),())=(U.zr d.1,U.jr d.1,())/\()=()))))
end Go.X
namespace Go.X
open Go.Proofs
theorem jf3 {l:List Int} {i:Nat} (h:i<l.length):U.jaw l (i+1)=bor (U.jaw l i) (1*2^(nth l i).toNat):=by
 unfold U.jaw;rw[L.take_succ h,jEv];rfl
theorem jwE {d:DyD} {i:Nat} (h:i<(U.jp d).length):U.zU d (i+1)=U.zU d i++[U.jst (U.yf (U.jf d) (U.jfJ (nth (U.jp d) i)))]:=by
 unfold U.zU;rw[L.take_succ h,jEW];rfl
theorem jyP (d:DyD) (i:Nat):(U.zU d i).length<=i:=by
 unfold U.zU;rw[jFf,jEp];omega
theorem jwB {c:CrD} (h:U.ju c=true) {j:JbD} {p:Int} (a:p∈U.yf c j):0<=p/\p<8:=by
 have d:=(jI h).2.2.1;unfold U.yf at a
 split at a
 .unfold U.vI at a;obtain⟨n,b,rfl⟩:=jEx.1 a;have:=jEg.1 (jEa.1 b).1;omega
 .cases a
theorem jA0 {c:CrD} (h:U.ju c=true) (j:JbD):(U.yf c j).length<=8:=by
 have a:=(jI h).2.2.1;unfold U.yf
 split
 .unfold U.vI;rw[jFf];exact jD7 (List.length_filter_le _ _) (by simpa using a)
 .exact jD6 _
theorem jsC {d:DyD} (h:U.jr d=0):U.jyH (U.jcv d):=by
 refine⟨⟨h,?_⟩,⟨?_,fun x a=> ?_⟩,rfl⟩
 .show(U.zU d (U.jp d).length).length=(U.jp d).length;unfold U.zU;simp
 .show(U.jAS d).length=(U.ji (U.jf d)).length;unfold U.jAS;simp
 .have a:x∈U.jAS d:=a;unfold U.jAS at a;exact(List.mem_replicate.1 a).2
theorem jrA:jnR:=by
 unfold jnR q93_0 q93_3 q93_4 q93_2 q93_1;rintro⟨d,⟨⟩,⟨⟩⟩ j;refine⟨j,fun h=>⟨?_,rfl⟩,fun h=>⟨jEo _,rfl,?_,fun c=>(by cases c),fun _=>⟨rfl,rfl,rfl,rfl,fun c=>(by cases c),fun _=> ?_⟩⟩⟩
 .have h:U.jr d≠0:=of_decide_eq_true h;show(none,U.jr d,())=(U.zr d,U.jr d,());unfold U.zr;rw[if_neg h]
 .have hk:U.jr d=0:=Classical.not_not.1 (of_decide_eq_false h);have e:=(jI (zh hk).1.1).2.2.1;have e:d.1.2.1.length<=8:=e;show((d.1.2.1.length:Int)).toNat*24<=140737488355328;omega
 have hk:U.jr d=0:=Classical.not_not.1 (of_decide_eq_false h);clear j h;have f:=(zh hk).1;have r:=f.2.2;have g:(U.jp d).length<=4:=(j7 r).1;have n:d.2.2.1.length<=4:=g;refine fun _=>⟨⟨0,⟨⟨rfl,trivial⟩,⟨rfl,rfl,rfl,rfl,rfl,rfl,rfl,rfl,trivial,trivial,trivial,trivial⟩,rfl,rfl,trivial⟩,jD6 _⟩,fun x o=>⟨fun h=>⟨by omega,of_decide_eq_true h,fun _=>⟨⟨0,⟨⟨rfl,rfl,trivial⟩,trivial⟩,jD6 _⟩,fun y p=>⟨fun a=> ?_,fun a=> ?_⟩⟩⟩,fun h=> ?_⟩⟩
 .have a:(y:Int)<((U.yf (U.jf d) (nth d.2.2.1 (x:Int).toNat).1).length:Int):=of_decide_eq_true a;have b:y<(U.yf (U.jf d) (nth d.2.2.1 (x:Int).toNat).1).length:=(by omega);have s:=jwB f.1 (L.mem_nth b);have k:=jf3 b;have e:=jA0 f.1 (nth d.2.2.1 (x:Int).toNat).1;have q:BT.Set' ((2:Int)^(nth (U.yf (U.jf d) (nth d.2.2.1 (x:Int).toNat).1) y).toNat):=BT.two_set (by omega);unfold BT.Set' at q;exact⟨by omega,a,s.1,by show nth (U.yf (U.jf d) (nth d.2.2.1 (x:Int).toNat).1) y<=64;omega,by show jD (1*2^(nth (U.yf (U.jf d) (nth d.2.2.1 (x:Int).toNat).1) y).toNat);rw[jbn];exact L.in64 (by omega) (by omega),L.in64 (by omega) (by omega),y+1,⟨⟨by simp,k.symm,trivial⟩,trivial⟩,by show y+1<=(U.yf (U.jf d) (nth d.2.2.1 (x:Int).toNat).1).length;omega,by show(U.yf (U.jf d) (nth d.2.2.1 (x:Int).toNat).1).length-(y+1)<(U.yf (U.jf d) (nth d.2.2.1 (x:Int).toNat).1).length-y;omega⟩
 .have h:(x:Int)<((U.jp d).length:Int):=of_decide_eq_true h;have k:=jwE (d:=d) (i:=x) (by omega);have j:=jyP d x;have p:y<=(U.yf (U.jf d) (nth d.2.2.1 (x:Int).toNat).1).length:=p;have a:¬(y:Int)<((U.yf (U.jf d) (nth d.2.2.1 (x:Int).toNat).1).length:Int):=of_decide_eq_false a;have m:y=(U.yf (U.jf d) (nth d.2.2.1 (x:Int).toNat).1).length:=(by omega);subst m;refine⟨?_,L.in64 (by omega) (by omega),x+1,⟨⟨by simp,trivial⟩,rfl,⟨rfl,rfl,rfl,rfl,rfl,rfl,rfl,rfl,trivial,trivial,trivial,trivial⟩,k.symm,trivial⟩,by show x+1<=(U.jp d).length;omega,by show(U.jp d).length-(x+1)<(U.jp d).length-x;omega⟩;show((U.zU d x).length+1)*8<=140737488355328;omega
 .have h:¬(x:Int)<((U.jp d).length:Int):=of_decide_eq_false h;have o:x<=(U.jp d).length:=o;have l:x=(U.jp d).length:=(by omega);subst l;refine⟨jsC hk,?_⟩;refine⟨?_,rfl⟩;show(some (U.jnH d),(0:Int),())=(U.zr d,U.jr d,());unfold U.zr;rw[if_pos hk,hk]
theorem jbs:wI PR 34 joq:=jjn jxV jrA Tryz.func34 (kcC jlx (kcC jyF kcN)) (koC jgc koN)
end Go.X
namespace Go.X
open Go.Proofs
namespace U
def wZ (d:DyD) (n:Nat):List Int:=(List.range n).map (fun(b:Nat)=>jfT (wm (jnH d)) (b:Int))
def kO (d:DyD):List Int:=if jr d=0 then wZ d (jp d).length else[]
def jkK (d:DyD):List Int:=if jr d=0 then jCV (jnH d) else[]
def jpk (d:DyD) (p:Int):Bool:=ja p 0 (((ji (jf d)).length:Int)-1)
def jwR (d:DyD) (b:Int):Bool:=ja b 0 (((jp d).length:Int)-1)
end U
def jtK:jU:=⟨[.val tDy],[.slice .int,.int],false,fun d=>[(U.jH d.1).length<=100000],fun d=>(U.kO d.1,U.jr d.1,())⟩
def juU:Ann:=fun r=>match r with
 |6=>some fun σ=>{X:=Nat,sl:=fun i=>[(19,.dat .int (i:Int)),(6,.own 6 .int)],ob:=fun i=>[(6,some (.row 3 .int false .yes (U.wZ (gb tDy σ 1) i)))],inv:=fun i=>i<=(U.jp (gb tDy σ 1)).length,mu:=fun i=>(U.jp (gb tDy σ 1)).length-i}
 |_=>none
def jtu:Prop:=∀(d:DyD×Unit),(U.jH d.1).length<=100000->(U.jH d.1).length<=100000/\(decide (U.jr d.1≠0)=true->([],U.jr d.1,())=(U.kO d.1,U.jr d.1,()))/\(decide (U.jr d.1≠0)=false->d.1.2.2.1.length<4611686018427387904->(∃(x:Nat),((0=(x:Int)/\True/\True)/\U.wZ d.1 x=[]/\True)/\x<=(U.jp d.1).length)/\∀(x:Nat),x<=(U.jp d.1).length->(decide ((x:Int)<(d.1.2.2.1.length:Int))=true->(U.zr d.1).isSome=true/\(U.wm (U.ro (U.zr d.1))).length<=60/\((U.wZ d.1 x).length+[U.jfT (U.wm (U.ro (U.zr d.1))) (x:Int)].length)*8<=140737488355328/\jD ((x:Int)+1)/\∃(a:Nat),(((x:Int)+1=(a:Int)/\True/\True)/\U.wZ d.1 x++[U.jfT (U.wm (U.ro (U.zr d.1))) (x:Int)]=U.wZ d.1 a/\True)/\a<=(U.jp d.1).length/\(U.jp d.1).length-a<(U.jp d.1).length-x)/\(decide ((x:Int)<(d.1.2.2.1.length:Int))=false->(U.wZ d.1 x,(0:Int),())=(U.kO d.1,U.jr d.1,())))
def jok:jU:=⟨[.val tDy],[.slice .int,.int],false,fun d=>[(U.jH d.1).length<=100000],fun d=>(U.jkK d.1,U.jr d.1,())⟩
def jnY:Prop:=∀(d:DyD×Unit),(U.jH d.1).length<=100000->(U.jH d.1).length<=100000/\(decide (U.jr d.1≠0)=true->([],U.jr d.1,())=(U.jkK d.1,U.jr d.1,()))/\(decide (U.jr d.1≠0)=false->(U.zr d.1).isSome=true/\((jT ((((0:Int),[],[],()),[],[],(0:Int),(0:Int),[],()),[],[],[],()) (U.zr d.1)).2.2.2.1,(0:Int),())=(U.jkK d.1,U.jr d.1,()))
end Go.X
namespace Go.X
open Go.Proofs
theorem jmq {r:RoD} {l:List ShD} (d:U.zj (U.rd r)=true) (e:∀s∈l,s∈U.jH (U.rd r)) (nd:l.Nodup) (a:(U.wm r).length=(U.ji (U.jf (U.rd r))).length) (b:U.jyN (U.wm r)) (c:U.jCV r=U.ve):
 ∀i,i<=l.length->U.v8 r l i (U.zP r l i)
 |0,_=>jvo a b c
 |i+1,hi=>by
  rw[jel hi]
  exact jzV d e nd hi (jmq d e nd a b c i (by omega))
structure jBH (d:DyD):Prop where
 may:U.jo6 (U.jnH d)
 len:(U.wm (U.jnH d)).length=(U.ji (U.jf d)).length
 row:∀p,(nth (U.wm (U.jnH d)) p).Nodup/\∀b∈nth (U.wm (U.jnH d)) p,U.q6 d b
theorem jsB {d:DyD} (h:U.jr d=0):jBH d:=by
 obtain⟨⟨_,i⟩,⟨j,c⟩,e⟩:=jsC h;have f:=(zh h).1;have a:=jmq (r:=U.jcv d) (l:=U.jM d) f.2.2 (fun s k=>qQ.1 k) (qr d) j c e _ (jDW _);refine⟨⟨f,i⟩,a.1,fun p=> ?_⟩;have:=a.2.2 p;exact⟨this.1,fun b g=>(this.2 b g).1⟩
theorem jBH.len60 {d:DyD} (h:jBH d):(U.wm (U.jnH d)).length<=60:=by
 have a:=(jI h.may.1.1).2.2.1;have a:(U.ji (U.jf d)).length<=8:=a;rw[h.len];omega
theorem jv8 {d:DyD} (h:U.jr d=0):U.zr d=some (U.jnH d):=if_pos h
theorem jtz (d:DyD) (n:Nat):U.wZ d (n+1)=U.wZ d n++[U.jfT (U.wm (U.jnH d)) (n:Int)]:=by
 unfold U.wZ;rw[jEJ,jEW];rfl
theorem jw6:jtu:=by
 rintro⟨d,⟨⟩⟩ j;refine⟨j,fun h=> ?_,fun h _=>⟨⟨0,⟨⟨rfl,trivial,trivial⟩,rfl,trivial⟩,jD6 _⟩,fun x g=>⟨fun a=> ?_,fun a=> ?_⟩⟩⟩
 .have h:U.jr d≠0:=of_decide_eq_true h;show([],U.jr d,())=(U.kO d,U.jr d,());unfold U.kO;rw[if_neg h]
 .have hk:U.jr d=0:=Classical.not_not.1 (of_decide_eq_false h);have f:=jsB hk;have i:(U.jp d).length<=4:=(j7 f.may.1.2.2).1;have a:(x:Int)<((U.jp d).length:Int):=of_decide_eq_true a;have k:=jtz d x;have e:(U.wZ d x).length=x:=(by unfold U.wZ;simp);have b:=jv8 hk;refine⟨by show(U.zr d).isSome=true;rw[b];rfl,by show(U.wm (U.ro (U.zr d))).length<=60;rw[b];exact f.len60,?_,L.in64 (by omega) (by omega),x+1,⟨⟨by simp,trivial,trivial⟩,?_,trivial⟩,by show x+1<=(U.jp d).length;omega,by show(U.jp d).length-(x+1)<(U.jp d).length-x;omega⟩
  .show((U.wZ d x).length+1)*8<=_;omega
  .show U.wZ d x++[U.jfT (U.wm (U.ro (U.zr d))) (x:Int)]=U.wZ d (x+1);rw[b,k];rfl
 .have hk:U.jr d=0:=Classical.not_not.1 (of_decide_eq_false h);have g:x<=(U.jp d).length:=g;have a:¬(x:Int)<((U.jp d).length:Int):=of_decide_eq_false a;have c:x=(U.jp d).length:=(by omega);subst c;show(U.wZ d _,(0:Int),())=(U.kO d,U.jr d,());unfold U.kO;rw[if_pos hk,hk]
theorem jlw:zk PR 9 jtK:=wF juU jw6 Tryz.func9 (kcC jhH kcN) (koC jbs koN)
theorem jrH:jnY:=by
 rintro⟨d,⟨⟩⟩ b;refine⟨b,fun h=> ?_,fun h=> ?_⟩
 .have h:U.jr d≠0:=of_decide_eq_true h;show([],U.jr d,())=(U.jkK d,U.jr d,());unfold U.jkK;rw[if_neg h]
 .have hk:U.jr d=0:=Classical.not_not.1 (of_decide_eq_false h);have a:=jv8 hk;refine⟨by show(U.zr d).isSome=true;rw[a];rfl,?_⟩;show(U.jCV (U.ro (U.zr d)),(0:Int),())=(U.jkK d,U.jr d,());unfold U.jkK;rw[if_pos hk,hk,a];rfl
theorem jo3:zk PR 19 jok:=jN jrH Tryz.func19 kcN (koC jbs koN)
end Go.X
namespace Go.X
open Go.Proofs
theorem jdf {l:List Int} (h:∀p∈l,0<=p/\p<8):∀n,n<=l.length->BT.Set' (U.jaw l n)/\∀q,BT.has (U.jaw l n) q=true->q<8
 |0,_=>⟨BT.zero_set,fun q a=>by rw[show U.jaw l 0=0 from rfl,BT.has_zero] at a;cases a⟩
 |n+1,d=>by
  have b:=jdf h n (by omega)
  have e:=h _ (L.mem_nth (l:=l) (i:=n) (by omega))
  have c:BT.Set' ((2:Int)^(nth l n).toNat):=BT.two_set (by omega)
  rw[jf3 (by omega),jbn]
  refine⟨BT.bor_set b.1 c,fun q a=> ?_⟩
  rw[BT.has_bor b.1 c,jE6,BT.has_two,decide_eq_true_eq] at a
  rcases a with a|a
  .exact b.2 q a
  .omega
end Go.X
namespace Go.X
open Go.Proofs
abbrev tSe:Ty:= .st [.ptr tRo,.slice (.slice .int),.slice .int,.slice .int,.int,.bool]
abbrev jDI:Sh:= .box 87 [.dat (.ptr tRo),.row 34 (.slice .int) .unk,.row 3 .int .no,.row 3 .int .unk,.dat .int,.dat .bool]
abbrev SeD:Type:=Option RoD×List (List Int)×List Int×List Int×Int×Bool×Unit
abbrev StD:Type:=List Int×List Int×Int×Bool
namespace U
def kI (ts:List Int) (p:Int) (n:Nat):List Int:=((List.range n).filter (fun i=>decide (vj (nth ts i/2^p.toNat) 1=1))).map (fun(i:Nat)=>(i:Int))
def vC (r:RoD) (ts:List Int) (b n:Nat):Bool:=(List.range n).all (fun p=>jaT r (p:Int) (kI ts (p:Int) (b+1)))
def wW (r:RoD) (ch:List (List Int)):Nat->Nat->Int->StD->StD
 |0,_,_,x=>x
 |k+1,b,fee,x=>
  if(x.2.2.2&&decide (x.2.2.1<=fee))=true then x
  else if b=(jp (rd r)).length then(x.1,x.1,fee,true)
  else(nth ch b).foldl (fun x t=>if vC r (x.1.set b t) b (wm r).length=true then wW r ch k (b+1) (fee+vN (rd r) t) (x.1.set b t,x.2) else(x.1.set b t,x.2)) x
def jms (r:RoD) (ch:List (List Int)) (k b:Nat) (fee:Int) (x:StD) (t:Int):StD:=
 if vC r (x.1.set b t) b (wm r).length=true then wW r ch k (b+1) (fee+vN (rd r) t) (x.1.set b t,x.2) else(x.1.set b t,x.2)
def jl (r:RoD) (ch:List (List Int)) (k b:Nat) (fee:Int) (x:StD) (n:Nat):StD:=((nth ch b).take n).foldl (jms r ch k b fee) x
def jj (s:SeD):StD:=(s.2.2.1,s.2.2.2.1,s.2.2.2.2.1,s.2.2.2.2.2.1)
def qU (s:SeD) (x:StD):SeD:=(s.1,s.2.1,x.1,x.2.1,x.2.2.1,x.2.2.2,())
def okCh (d:DyD) (ch:List (List Int)):Prop:=ch.length=(jp d).length/\∀l∈ch,∀t∈l,0<=t/\t<256
def jt1 (k:Nat) (s:SeD) (b fee:Int):Prop:=s.1.isSome=true/\jo6 (ro s.1)/\(wm (ro s.1)).length=(ji (jf (rd (ro s.1)))).length/\okCh (rd (ro s.1)) s.2.1/\s.2.2.1.length=(jp (rd (ro s.1))).length/\
 (0<=b/\b<=((jp (rd (ro s.1))).length:Int)/\((jp (rd (ro s.1))).length:Int)<b+k)/\0<=fee/\fee<=8000*b
end U
def yc:zv:=⟨[.own (.cl (.row 3 .int .no)) true],[rwI],fun d=>[d.1.length<=100000],fun d=>((d.1,()),(d.1,()))⟩
def jeb:Prop:=∀(d:List Int×Unit),d.1.length<=100000->(false=true->([],())=d/\d=d)/\(false=false->(0+d.1.length)*8<=140737488355328/\([]++d.1,())=d/\d=d)
def qP (k:Nat):zv:=⟨[.own jDI true,.val .int,.val .int],[],fun d=>[U.jt1 k d.1 d.2.1 d.2.2.1],fun d=>((),(U.qU d.1 (U.wW (U.ro d.1.1) d.1.2.1 k d.2.1.toNat d.2.2.1 (U.jj d.1)),()))⟩
def jhX (k:Nat):Ann:=fun r=>match r with
 |4=>some fun σ=>{X:=Nat,sl:=fun i=>[(58,.dat .int (i:Int)),(53,.any),(55,.any)],ob:=fun i=>[(1000000,some (.box 87 false (((bx σ 1000000).set 4 (.dat .int (U.jl (U.ro (gb tSe σ 1000000).1) (gb tSe σ 1000000).2.1 k (gd .int σ 1).toNat (gd .int σ 2) (U.jj (gb tSe σ 1000000)) i).2.2.1)).set 5 (.dat .bool (U.jl (U.ro (gb tSe σ 1000000).1) (gb tSe σ 1000000).2.1 k (gd .int σ 1).toNat (gd .int σ 2) (U.jj (gb tSe σ 1000000)) i).2.2.2)))),(400002,some (.row 3 .int false .no (U.jl (U.ro (gb tSe σ 1000000).1) (gb tSe σ 1000000).2.1 k (gd .int σ 1).toNat (gd .int σ 2) (U.jj (gb tSe σ 1000000)) i).1)),(400003,some (.row 3 .int false .unk (U.jl (U.ro (gb tSe σ 1000000).1) (gb tSe σ 1000000).2.1 k (gd .int σ 1).toNat (gd .int σ 2) (U.jj (gb tSe σ 1000000)) i).2.1))],inv:=fun i=>i<=(nth (gb tSe σ 1000000).2.1 (gd .int σ 1).toNat).length/\(U.jl (U.ro (gb tSe σ 1000000).1) (gb tSe σ 1000000).2.1 k (gd .int σ 1).toNat (gd .int σ 2) (U.jj (gb tSe σ 1000000)) i).1.length=(gb tSe σ 1000000).2.2.1.length,mu:=fun i=>(nth (gb tSe σ 1000000).2.1 (gd .int σ 1).toNat).length-i}
 |8=>some fun σ=>{X:=Nat,sl:=fun p=>[(77,.dat .int (p:Int))],ob:=fun _=>[],inv:=fun p=>p<=(U.wm (U.ro (gb tSe σ 1000000).1)).length/\U.vC (U.ro (gb tSe σ 1000000).1) (gr .int σ 400002) (gd .int σ 1).toNat p=true,mu:=fun p=>(U.wm (U.ro (gb tSe σ 1000000).1)).length-p}
 |12=>some fun σ=>{X:=Nat,sl:=fun i=>[(88,.dat .int (i:Int)),(9,.own 9 .int)],ob:=fun i=>[(9,some (.row 3 .int false .yes (U.kI (gr .int σ 400002) (gd .int σ 8) i)))],inv:=fun i=>i<=(gd .int σ 1).toNat+1,mu:=fun i=>(gd .int σ 1).toNat+1-i}
 |_=>none
def ji6:Prop:=∀k:Nat,jt3 (ctx 125 [(76,jbc),(49,jbb)] [(75,yc),(42,qP k)]) (jhX k) Tryz.f42 (zz Tryz.f42) (qP (k+1))
abbrev q97_1 (d:(Option RoD×List (List Int)×List Int×List Int×Int×Bool×Unit)×Int×Int×Unit)(k:Nat)(x:Nat):=(U.jl (U.ro d.1.1) d.1.2.1 k d.2.1.toNat d.2.2.1 (U.jj d.1) x)
abbrev q97_3 (d:(Option RoD×List (List Int)×List Int×List Int×Int×Bool×Unit)×Int×Int×Unit)(k:Nat)(a:Nat):=(U.jl (U.ro d.1.1) d.1.2.1 k d.2.1.toNat d.2.2.1 (U.jj d.1) a)
abbrev q97_4 (d:(Option RoD×List (List Int)×List Int×List Int×Int×Bool×Unit)×Int×Int×Unit):=(jT ((((0:Int),[],[],()),[],[],(0:Int),(0:Int),[],()),[],[],[],()) d.1.1)
abbrev q97_5 (d:(Option RoD×List (List Int)×List Int×List Int×Int×Bool×Unit)×Int×Int×Unit):=(nth d.1.2.1 d.2.1.toNat)
abbrev q97_2 (d:(Option RoD×List (List Int)×List Int×List Int×Int×Bool×Unit)×Int×Int×Unit)(k:Nat)(x:Nat):=((q97_1 d k x).1.set d.2.1.toNat (nth (q97_5 d) (x:Int).toNat))
abbrev q97_6 (d:(Option RoD×List (List Int)×List Int×List Int×Int×Bool×Unit)×Int×Int×Unit)(k:Nat)(x:Nat):=(d.1.1,d.1.2.1,(q97_1 d k x).1.set d.2.1.toNat (nth (q97_5 d) (x:Int).toNat),(q97_1 d k x).2.1,(q97_1 d k x).2.2.1,(q97_1 d k x).2.2.2,())
abbrev q97_0 (d:(Option RoD×List (List Int)×List Int×List Int×Int×Bool×Unit)×Int×Int×Unit)(k:Nat)(x:Nat):=(U.qU (q97_6 d k x) (U.wW (U.ro d.1.1) d.1.2.1 k (d.2.1+1).toNat (d.2.2.1+U.vN (U.rd (U.ro d.1.1)) (nth (q97_5 d) (x:Int).toNat)) (U.jj (q97_6 d k x))))
abbrev q97_7 (d:(Option RoD×List (List Int)×List Int×List Int×Int×Bool×Unit)×Int×Int×Unit)(k:Nat):=(U.qU d.1 (U.wW (U.ro d.1.1) d.1.2.1 (k+1) d.2.1.toNat d.2.2.1 (U.jj d.1)),())
def jat:Prop:=∀(k:Nat) (d:(Option RoD×List (List Int)×List Int×List Int×Int×Bool×Unit)×Int×Int×Unit),U.jt1 (k+1) d.1 d.2.1 d.2.2.1->((d.1.2.2.2.2.2.1&&decide (d.1.2.2.2.2.1<=d.2.2.1))=true->()=()/\(d.1,())=(q97_7 d k))/\((d.1.2.2.2.2.2.1&&decide (d.1.2.2.2.2.1<=d.2.2.1))=false->d.1.1.isSome=true/\((q97_4 d).1.2.2.1.length<4611686018427387904->(decide (d.2.1=(↑(q97_4 d).1.2.2.1.length:Int))=true->d.1.2.2.1.length<=100000/\()=()/\((d.1.1,d.1.2.1,d.1.2.2.1,d.1.2.2.1,d.2.2.1,true,()),())=(q97_7 d k))/\(decide (d.2.1=(↑(q97_4 d).1.2.2.1.length:Int))=false->0<=d.2.1/\d.2.1<(d.1.2.1.length:Int)/\((q97_5 d).length<4611686018427387904->(∃(x:Nat),((0=(x:Int)/\True)/\(d.1.1=d.1.1/\True/\True/\True/\d.1.2.2.2.2.1=(q97_1 d k x).2.2.1/\d.1.2.2.2.2.2.1=(q97_1 d k x).2.2.2/\True)/\d.1.2.2.1=(q97_1 d k x).1/\d.1.2.2.2.1=(q97_1 d k x).2.1/\True)/\x<=(q97_5 d).length/\(q97_1 d k x).1.length=d.1.2.2.1.length)/\∀(x:Nat),x<=(q97_5 d).length/\(q97_1 d k x).1.length=d.1.2.2.1.length->(decide ((x:Int)<(↑(q97_5 d).length:Int))=true->0<=(x:Int)/\(x:Int)<(↑(q97_5 d).length:Int)/\0<=d.2.1/\d.2.1<(↑(q97_1 d k x).1.length:Int)/\d.1.1.isSome=true/\((q97_4 d).2.2.1.length<4611686018427387904->(∃(a:Nat),((0=(a:Int)/\True)/\True)/\a<=(U.wm (U.ro d.1.1)).length/\U.vC (U.ro d.1.1) (q97_2 d k x) d.2.1.toNat a=true)/\∀(a:Nat),a<=(U.wm (U.ro d.1.1)).length/\U.vC (U.ro d.1.1) (q97_2 d k x) d.2.1.toNat a=true->(decide ((a:Int)<(↑(q97_4 d).2.2.1.length:Int))=true->jD (d.2.1+1)/\(0:Int)<=0/\0<=d.2.1+1/\d.2.1+1<=(↑(q97_2 d k x).length:Int)/\((d.2.1+1).toNat-Int.toNat 0<4611686018427387904->(∃(b:Nat),((0=(b:Int)/\True/\True)/\U.kI (q97_2 d k x) (a:Int) b=[]/\True)/\b<=d.2.1.toNat+1)/\∀(b:Nat),b<=d.2.1.toNat+1->(decide ((b:Int)<(↑((d.2.1+1).toNat-Int.toNat 0):Int))=true->0<=(b:Int)/\(b:Int)<(↑((d.2.1+1).toNat-Int.toNat 0):Int)/\0<=(a:Int)/\(a:Int)<=64/\(decide (vj (nth (q97_2 d k x) (Int.toNat 0+(b:Int).toNat)/(2:Int)^(a:Int).toNat) (1:Int)=1)=true->((U.kI (q97_2 d k x) (a:Int) b).length+[(b:Int)].length)*8<=140737488355328/\jD ((b:Int)+1)/\∃(c:Nat),(((b:Int)+1=(c:Int)/\True/\True)/\U.kI (q97_2 d k x) (a:Int) b++[(b:Int)]=U.kI (q97_2 d k x) (a:Int) c/\True)/\c<=d.2.1.toNat+1/\d.2.1.toNat+1-c<d.2.1.toNat+1-b)/\(decide (vj (nth (q97_2 d k x) (Int.toNat 0+(b:Int).toNat)/(2:Int)^(a:Int).toNat) (1:Int)=1)=false->jD ((b:Int)+1)/\∃(c:Nat),((True/\(b:Int)+1=(c:Int)/\True)/\U.kI (q97_2 d k x) (a:Int) b=U.kI (q97_2 d k x) (a:Int) c/\True)/\c<=d.2.1.toNat+1/\d.2.1.toNat+1-c<d.2.1.toNat+1-b))/\(decide ((b:Int)<(↑((d.2.1+1).toNat-Int.toNat 0):Int))=false->d.1.1.isSome=true/\U.jo6 (U.ro d.1.1)/\U.jt2 (U.rd (U.ro d.1.1)) (a:Int)/\U.jo8 (U.rd (U.ro d.1.1)) (U.kI (q97_2 d k x) (a:Int) b)/\((!U.jaT (U.ro d.1.1) (a:Int) (U.kI (q97_2 d k x) (a:Int) b))=true->jD ((x:Int)+1)/\∃(c:Nat),(((x:Int)+1=(c:Int)/\True)/\(q97_1 d k x).2.1=(q97_3 d k c).2.1/\(d.1.1=d.1.1/\True/\True/\True/\(q97_1 d k x).2.2.1=(q97_3 d k c).2.2.1/\(q97_1 d k x).2.2.2=(q97_3 d k c).2.2.2/\True)/\(q97_1 d k x).1.set d.2.1.toNat (nth (q97_5 d) (x:Int).toNat)=(q97_3 d k c).1/\True)/\(c<=(q97_5 d).length/\(q97_3 d k c).1.length=d.1.2.2.1.length)/\(q97_5 d).length-c<(q97_5 d).length-x)/\((!U.jaT (U.ro d.1.1) (a:Int) (U.kI (q97_2 d k x) (a:Int) b))=false->jD ((a:Int)+1)/\∃(c:Nat),(((a:Int)+1=(c:Int)/\True)/\True)/\(c<=(U.wm (U.ro d.1.1)).length/\U.vC (U.ro d.1.1) (q97_2 d k x) d.2.1.toNat c=true)/\(U.wm (U.ro d.1.1)).length-c<(U.wm (U.ro d.1.1)).length-a))))/\(decide ((a:Int)<(↑(q97_4 d).2.2.1.length:Int))=false->jD (d.2.1+1)/\d.1.1.isSome=true/\U.ju (U.jf (U.rd (U.ro d.1.1)))=true/\0<=nth (q97_5 d) (x:Int).toNat/\nth (q97_5 d) (x:Int).toNat<=1000000/\jD (d.2.2.1+U.vN (U.rd (U.ro d.1.1)) (nth (q97_5 d) (x:Int).toNat))/\U.jt1 k (q97_6 d k x) (d.2.1+1) (d.2.2.1+U.vN (U.rd (U.ro d.1.1)) (nth (q97_5 d) (x:Int).toNat))/\jD ((x:Int)+1)/\∃(c:Nat),(((x:Int)+1=(c:Int)/\True)/\((q97_0 d k x).1=d.1.1/\True/\True/\True/\(q97_0 d k x).2.2.2.2.1=(q97_3 d k c).2.2.1/\(q97_0 d k x).2.2.2.2.2.1=(q97_3 d k c).2.2.2/\True)/\(q97_0 d k x).2.1=d.1.2.1/\(q97_0 d k x).2.2.2.1=(q97_3 d k c).2.1/\(q97_0 d k x).2.2.1=(q97_3 d k c).1/\True)/\(c<=(q97_5 d).length/\(q97_3 d k c).1.length=d.1.2.2.1.length)/\(q97_5 d).length-c<(q97_5 d).length-x)))/\(decide ((x:Int)<(↑(q97_5 d).length:Int))=false->()=()/\((d.1.1,d.1.2.1,(q97_1 d k x).1,(q97_1 d k x).2.1,(q97_1 d k x).2.2.1,(q97_1 d k x).2.2.2,()),())=(q97_7 d k))))))
theorem jc4:(ji6)=jat:=by kernel_rfl
end Go.X
namespace Go.X
open Go.Proofs
theorem jgs:jeb:=by
 rintro⟨l,⟨⟩⟩ a;have a:l.length<=100000:=a;exact⟨fun h=>(by cases h),fun _=>⟨by show(0+l.length)*8<=_;omega,rfl,rfl⟩⟩
theorem jeK:wI PR 75 yc:=jgX jgs Tryz.func75 kcN koN
theorem jtU (ts:List Int) (p:Int) (n:Nat):U.kI ts p (n+1)=U.kI ts p n++(if decide (vj (nth ts n/2^p.toNat) 1=1)=true then[(n:Int)] else[]):=by
 unfold U.kI;rw[L.range_filter_succ,jEW];by_cases h:decide (vj (nth ts n/2^p.toNat) 1=1)=true
 .rw[if_pos h,if_pos h];rfl
 .rw[if_neg h,if_neg h];rfl
theorem joN (ts:List Int) (p:Int) (n:Nat):(U.kI ts p n).length<=n:=by
 unfold U.kI;rw[jFf];exact jD7 (List.length_filter_le _ _) (by simp)
theorem jv3 {ts:List Int} {p:Int} {n:Nat} {b:Int} (h:b∈U.kI ts p n):0<=b/\b<(n:Int):=by
 unfold U.kI at h;obtain⟨i,hi,rfl⟩:=jEx.1 h;have:=jEg.1 (jEa.1 hi).1;omega
theorem jra {r:RoD} {ts:List Int} {b n:Nat}:U.vC r ts b (n+1)=(U.vC r ts b n&&U.jaT r (n:Int) (U.kI ts (n:Int) (b+1))):=by
 unfold U.vC;rw[jEJ,List.all_append];simp
theorem joM {r:RoD} {ts:List Int} {b n m:Nat} (a:m<n) (h:U.jaT r (m:Int) (U.kI ts (m:Int) (b+1))=false):U.vC r ts b n=false:=by
 unfold U.vC;rw[jEZ];exact⟨m,jEg.2 a,by rw[h];simp⟩
theorem jn9 {r:RoD} {ch:List (List Int)} {k b:Nat} {fee:Int} {x:StD} {n:Nat} (h:n<(nth ch b).length):U.jl r ch k b fee x (n+1)=U.jms r ch k b fee (U.jl r ch k b fee x n) (nth (nth ch b) n):=by
 unfold U.jl;rw[L.take_succ h,jEv];rfl
theorem jn8 {r:RoD} {ch:List (List Int)} {k b:Nat} {fee:Int} {x:StD} (a:(x.2.2.2&&decide (x.2.2.1<=fee))=false) (c:b≠(U.jp (U.rd r)).length):U.wW r ch (k+1) b fee x=U.jl r ch k b fee x (nth ch b).length:=by
 show(if(x.2.2.2&&decide (x.2.2.1<=fee))=true then x else if b=(U.jp (U.rd r)).length then(x.1,x.1,fee,true) else(nth ch b).foldl (U.jms r ch k b fee) x)=_;rw[a,if_neg (by simp),if_neg c];unfold U.jl;rw[jEL (jDW _)]
mutual
theorem jym {r:RoD} {ch:List (List Int)}:∀(k b:Nat) (fee:Int) (x:StD),(U.wW r ch k b fee x).1.length=x.1.length
 |0,_,_,_=>rfl
 |k+1,b,fee,x=>by
  by_cases a:(x.2.2.2&&decide (x.2.2.1<=fee))=true
  .show(if(x.2.2.2&&decide (x.2.2.1<=fee))=true then x else _).1.length=_
   rw[if_pos a]
  .by_cases c:b=(U.jp (U.rd r)).length
   .show(if(x.2.2.2&&decide (x.2.2.1<=fee))=true then x else if b=(U.jp (U.rd r)).length then(x.1,x.1,fee,true) else _).1.length=_
    rw[if_neg a,if_pos c]
   .rw[jn8 (by simpa using a) c]
    exact jmr k b fee x _ (jDW _)
termination_by k=>(k,0)
theorem jmr {r:RoD} {ch:List (List Int)}:∀(k b:Nat) (fee:Int) (x:StD) (n:Nat),n<=(nth ch b).length->(U.jl r ch k b fee x n).1.length=x.1.length
 |_,_,_,_,0,_=>rfl
 |k,b,fee,x,n+1,h=>by
  rw[jn9 h]
  have d:=jmr (r:=r) (ch:=ch) k b fee x n (by omega)
  unfold U.jms
  split
  .rw[jym k]
   show((U.jl r ch k b fee x n).1.set b _).length=_
   rw[List.length_set,d]
  .show((U.jl r ch k b fee x n).1.set b _).length=_
   rw[List.length_set,d]
termination_by k _ _ _ n=>(k,n+1)
end
theorem jjN:jat:=by
 unfold jat q97_7 q97_0 q97_6 q97_2 q97_5 q97_4 q97_3 q97_1;rintro k ⟨s,b,fee,⟨⟩⟩ h0;obtain⟨g,d,Q,⟨M,D⟩,S,⟨V,b1,b2⟩,f0,f1⟩:U.jt1 (k+1) s b fee:=h0;obtain⟨B,hB⟩:∃B:Nat,b=(B:Int):=⟨b.toNat,by omega⟩;subst hB;have I:=d.1;have hb4:(U.jp (U.rd (U.ro s.1))).length<=4:=(j7 I.2.2).1;have h8:(U.ji (U.jf (U.rd (U.ro s.1)))).length<=8:=(jI I.1).2.2.1;refine⟨fun h=>⟨rfl,?_⟩,fun h=>⟨g,fun _=>⟨fun A=>⟨?_,rfl,?_⟩,fun A=> ?_⟩⟩⟩
 .have h:((U.jj s).2.2.2&&decide ((U.jj s).2.2.1<=fee))=true:=h;have e:U.wW (U.ro s.1) s.2.1 (k+1) B fee (U.jj s)=U.jj s:=by
   show(if((U.jj s).2.2.2&&decide ((U.jj s).2.2.1<=fee))=true then U.jj s else _)=_;rw[if_pos h]
  show(s,())=(U.qU s (U.wW (U.ro s.1) s.2.1 (k+1) B fee (U.jj s)),());rw[e];rfl
 .show s.2.2.1.length<=100000;omega
 .have A:(B:Int)=((U.jp (U.rd (U.ro s.1))).length:Int):=of_decide_eq_true A;have h:((U.jj s).2.2.2&&decide ((U.jj s).2.2.1<=fee))=false:=h;have e:U.wW (U.ro s.1) s.2.1 (k+1) B fee (U.jj s)=(s.2.2.1,s.2.2.1,fee,true):=by
   show(if((U.jj s).2.2.2&&decide ((U.jj s).2.2.1<=fee))=true then U.jj s else if B=(U.jp (U.rd (U.ro s.1))).length then((U.jj s).1,(U.jj s).1,fee,true) else _)=_;rw[h,if_neg (by simp),if_pos (by omega)];rfl
  show((s.1,s.2.1,s.2.2.1,s.2.2.1,fee,true,()),())=(U.qU s (U.wW (U.ro s.1) s.2.1 (k+1) B fee (U.jj s)),());rw[e];rfl
 have A:¬(B:Int)=((U.jp (U.rd (U.ro s.1))).length:Int):=of_decide_eq_false A;have h:((U.jj s).2.2.2&&decide ((U.jj s).2.2.1<=fee))=false:=h;have hBn:B<(U.jp (U.rd (U.ro s.1))).length:=(by omega);have C:=jn8 (r:=U.ro s.1) (ch:=s.2.1) (k:=k) (b:=B) (fee:=fee) h (by omega);have u:jD ((B:Int)+1):=L.in64 (by omega) (by omega);have K:0<=(B:Int)+1:=(by omega);refine⟨V,by show(B:Int)<(s.2.1.length:Int);omega,fun E=>⟨⟨0,⟨⟨rfl,trivial⟩,⟨rfl,trivial,trivial,trivial,rfl,rfl,trivial⟩,rfl,rfl,trivial⟩,jD6 _,rfl⟩,fun x hx=>⟨fun z=> ?_,fun z=>⟨rfl,?_⟩⟩⟩⟩
 .have z:(x:Int)<((nth s.2.1 B).length:Int):=of_decide_eq_true z;have E:(nth s.2.1 B).length<4611686018427387904:=E;have m:x<(nth s.2.1 B).length:=(by omega);obtain⟨_,F⟩:x<=(nth s.2.1 B).length/\(U.jl (U.ro s.1) s.2.1 k B fee (U.jj s) x).1.length=s.2.2.1.length:=hx;have f:=jn9 (r:=U.ro s.1) (ch:=s.2.1) (k:=k) (b:=B) (fee:=fee) (x:=U.jj s) m;have o:=jmr (r:=U.ro s.1) (ch:=s.2.1) k B fee (U.jj s) (x+1) (by omega);have o:(U.jl (U.ro s.1) s.2.1 k B fee (U.jj s) (x+1)).1.length=s.2.2.1.length:=o;have Z:=D _ (L.mem_nth (l:=s.2.1) (i:=B) (by omega)) _ (L.mem_nth m);have up:x+1<=(nth s.2.1 B).length:=m;have W:(nth s.2.1 B).length-(x+1)<(nth s.2.1 B).length-x:=(by omega);have tl:((U.jl (U.ro s.1) s.2.1 k B fee (U.jj s) x).1.set B (nth (nth s.2.1 B) x)).length=(U.jp (U.rd (U.ro s.1))).length:=by
   rw[List.length_set,F,S]
  refine⟨by omega,z,V,by show(B:Int)<((U.jl (U.ro s.1) s.2.1 k B fee (U.jj s) x).1.length:Int);omega,g,fun _=>⟨⟨0,⟨⟨rfl,trivial⟩,trivial⟩,jD6 _,rfl⟩,fun p Y=>⟨fun w=>⟨u,jEP 0,K,?_,fun _=>⟨⟨0,⟨⟨rfl,trivial,trivial⟩,rfl,trivial⟩,jD6 _⟩,fun j J=>⟨fun t=> ?_,fun t=> ?_⟩⟩⟩,fun w=> ?_⟩⟩⟩
  .show(B:Int)+1<=(((U.jl (U.ro s.1) s.2.1 k B fee (U.jj s) x).1.set B (nth (nth s.2.1 B) x)).length:Int);rw[tl];omega
  .have t:(j:Int)<((((B:Int)+1).toNat-Int.toNat 0:Nat):Int):=of_decide_eq_true t;have H:((B:Int)+1).toNat-Int.toNat 0=B+1:=(by simp only[Int.toNat_zero];omega);rw[H] at t;have w:(p:Int)<((U.wm (U.ro s.1)).length:Int):=of_decide_eq_true w;have J:j<=B+1:=J;have q:=jtU ((U.jl (U.ro s.1) s.2.1 k B fee (U.jj s) x).1.set B (nth (nth s.2.1 B) x)) (p:Int) j;have P:=joN ((U.jl (U.ro s.1) s.2.1 k B fee (U.jj s) x).1.set B (nth (nth s.2.1 B) x)) (p:Int) j;have e0:Int.toNat 0+(j:Int).toNat=j:=(by simp);have X:∀T:Bool,decide (vj (nth ((U.jl (U.ro s.1) s.2.1 k B fee (U.jj s) x).1.set B (nth (nth s.2.1 B) x)) (Int.toNat 0+(j:Int).toNat)/2^(p:Int).toNat) 1=1)=T->decide (vj (nth ((U.jl (U.ro s.1) s.2.1 k B fee (U.jj s) x).1.set B (nth (nth s.2.1 B) x)) j/2^(p:Int).toNat) 1=1)=T:=by
    intro T G;rw[e0] at G;exact G
   refine⟨by omega,by show(j:Int)<((((B:Int)+1).toNat-Int.toNat 0:Nat):Int);rw[H];exact t,by omega,by omega,fun a=>⟨?_,L.in64 (by omega) (by omega),j+1,⟨⟨by simp,trivial,trivial⟩,?_,trivial⟩,by show j+1<=B+1;omega,by show B+1-(j+1)<B+1-j;omega⟩,fun a=>⟨L.in64 (by omega) (by omega),j+1,⟨⟨trivial,by simp,trivial⟩,?_,trivial⟩,by show j+1<=B+1;omega,by show B+1-(j+1)<B+1-j;omega⟩⟩
   .show((U.kI ((U.jl (U.ro s.1) s.2.1 k B fee (U.jj s) x).1.set B (nth (nth s.2.1 B) x)) (p:Int) j).length+1)*8<=140737488355328;omega
   .rw[X _ a,if_pos rfl] at q;exact q.symm
   .rw[X _ a,if_neg (by simp),jEm] at q;exact q.symm
  .have t:¬(j:Int)<((((B:Int)+1).toNat-Int.toNat 0:Nat):Int):=of_decide_eq_false t;have H:((B:Int)+1).toNat-Int.toNat 0=B+1:=(by simp only[Int.toNat_zero];omega);rw[H] at t;have w:(p:Int)<((U.wm (U.ro s.1)).length:Int):=of_decide_eq_true w;have J:j<=B+1:=J;have N:j=B+1:=(by omega);subst N;have P:=joN ((U.jl (U.ro s.1) s.2.1 k B fee (U.jj s) x).1.set B (nth (nth s.2.1 B) x)) (p:Int) (B+1);obtain⟨_,y⟩:p<=(U.wm (U.ro s.1)).length/\U.vC (U.ro s.1) ((U.jl (U.ro s.1) s.2.1 k B fee (U.jj s) x).1.set B (nth (nth s.2.1 B) x)) B p=true:=Y;refine⟨g,d,⟨by omega,by show(p:Int)<((U.ji (U.jf (U.rd (U.ro s.1)))).length:Int);omega⟩,⟨by show(U.kI ((U.jl (U.ro s.1) s.2.1 k B fee (U.jj s) x).1.set B (nth (nth s.2.1 B) x)) (p:Int) (B+1)).length<=12;omega,fun c hc=> ?_⟩,fun a=> ?_,fun a=> ?_⟩
   .have:=jv3 hc;exact⟨this.1,by show c<((U.jp (U.rd (U.ro s.1))).length:Int);omega⟩
   .have a:(!U.jaT (U.ro s.1) (p:Int) (U.kI ((U.jl (U.ro s.1) s.2.1 k B fee (U.jj s) x).1.set B (nth (nth s.2.1 B) x)) (p:Int) (B+1)))=true:=a;have a:U.jaT (U.ro s.1) (p:Int) (U.kI ((U.jl (U.ro s.1) s.2.1 k B fee (U.jj s) x).1.set B (nth (nth s.2.1 B) x)) (p:Int) (B+1))=false:=(by simpa using a);have O:=joM (n:=(U.wm (U.ro s.1)).length) (by omega) a;have e:U.jl (U.ro s.1) s.2.1 k B fee (U.jj s) (x+1)=((U.jl (U.ro s.1) s.2.1 k B fee (U.jj s) x).1.set B (nth (nth s.2.1 B) x),(U.jl (U.ro s.1) s.2.1 k B fee (U.jj s) x).2):=by
     rw[f];unfold U.jms;rw[O,if_neg (by simp)]
    exact⟨L.in64 (by omega) (by omega),x+1,⟨⟨by simp,trivial⟩,congrArg (·.2.1) e.symm,⟨rfl,trivial,trivial,trivial,congrArg (·.2.2.1) e.symm,congrArg (·.2.2.2) e.symm,trivial⟩,congrArg (·.1) e.symm,trivial⟩,⟨up,o⟩,W⟩
   .have a:(!U.jaT (U.ro s.1) (p:Int) (U.kI ((U.jl (U.ro s.1) s.2.1 k B fee (U.jj s) x).1.set B (nth (nth s.2.1 B) x)) (p:Int) (B+1)))=false:=a;have a:U.jaT (U.ro s.1) (p:Int) (U.kI ((U.jl (U.ro s.1) s.2.1 k B fee (U.jj s) x).1.set B (nth (nth s.2.1 B) x)) (p:Int) (B+1))=true:=(by simpa using a);refine⟨L.in64 (by omega) (by omega),p+1,⟨⟨by simp,trivial⟩,trivial⟩,⟨by show p+1<=(U.wm (U.ro s.1)).length;omega,?_⟩,by show(U.wm (U.ro s.1)).length-(p+1)<(U.wm (U.ro s.1)).length-p;omega⟩;show U.vC (U.ro s.1) ((U.jl (U.ro s.1) s.2.1 k B fee (U.jj s) x).1.set B (nth (nth s.2.1 B) x)) B (p+1)=true;rw[jra,y,a];rfl
  .have w:¬(p:Int)<((U.wm (U.ro s.1)).length:Int):=of_decide_eq_false w;obtain⟨hp1,y⟩:p<=(U.wm (U.ro s.1)).length/\U.vC (U.ro s.1) ((U.jl (U.ro s.1) s.2.1 k B fee (U.jj s) x).1.set B (nth (nth s.2.1 B) x)) B p=true:=Y;have R:p=(U.wm (U.ro s.1)).length:=(by omega);subst R;have v:=jnp I.1 (nth (nth s.2.1 B) x) _ (jDW _);have v:0<=U.vN (U.rd (U.ro s.1)) (nth (nth s.2.1 B) x)/\U.vN (U.rd (U.ro s.1)) (nth (nth s.2.1 B) x)<=1000*((U.ji (U.jf (U.rd (U.ro s.1)))).length:Int):=v;have eB:((B:Int)+1).toNat=B+1:=(by omega);have e:U.jl (U.ro s.1) s.2.1 k B fee (U.jj s) (x+1)=U.wW (U.ro s.1) s.2.1 k ((B:Int)+1).toNat (fee+U.vN (U.rd (U.ro s.1)) (nth (nth s.2.1 B) x)) ((U.jl (U.ro s.1) s.2.1 k B fee (U.jj s) x).1.set B (nth (nth s.2.1 B) x),(U.jl (U.ro s.1) s.2.1 k B fee (U.jj s) x).2):=by
    rw[f,eB];unfold U.jms;rw[if_pos y]
   refine⟨u,g,I.1,Z.1,by show nth (nth s.2.1 B) x<=1000000;have:=Z.2;omega,?_,⟨g,d,Q,⟨M,D⟩,tl,⟨by omega,by show(B:Int)+1<=((U.jp (U.rd (U.ro s.1))).length:Int);omega,by show((U.jp (U.rd (U.ro s.1))).length:Int)<(B:Int)+1+(k:Int);omega⟩,?_,?_⟩,L.in64 (by omega) (by omega),x+1,⟨⟨by simp,trivial⟩,⟨rfl,trivial,trivial,trivial,congrArg (·.2.2.1) e.symm,congrArg (·.2.2.2) e.symm,trivial⟩,rfl,congrArg (·.2.1) e.symm,congrArg (·.1) e.symm,trivial⟩,⟨up,o⟩,W⟩
   .show jD (fee+U.vN (U.rd (U.ro s.1)) (nth (nth s.2.1 B) x));exact L.in64 (by omega) (by omega)
   .show 0<=fee+U.vN (U.rd (U.ro s.1)) (nth (nth s.2.1 B) x);omega
   .show fee+U.vN (U.rd (U.ro s.1)) (nth (nth s.2.1 B) x)<=8000*((B:Int)+1);omega
 .have z:¬(x:Int)<((nth s.2.1 B).length:Int):=of_decide_eq_false z;have hx1:x<=(nth s.2.1 B).length:=hx.1;have m:x=(nth s.2.1 B).length:=(by omega);subst m;show((s.1,s.2.1,(U.jl (U.ro s.1) s.2.1 k B fee (U.jj s) (nth s.2.1 B).length).1,(U.jl (U.ro s.1) s.2.1 k B fee (U.jj s) (nth s.2.1 B).length).2.1,(U.jl (U.ro s.1) s.2.1 k B fee (U.jj s) (nth s.2.1 B).length).2.2.1,(U.jl (U.ro s.1) s.2.1 k B fee (U.jj s) (nth s.2.1 B).length).2.2.2,()),())=(U.qU s (U.wW (U.ro s.1) s.2.1 (k+1) B fee (U.jj s)),());rw[C];rfl
theorem jay:∀k:Nat,wI PR 42 (qP k)
 |0=>⟨wq Tryz.func42 (c:=zz Tryz.f42) (by kernel_rfl) (by kernel_rfl),fun H w vals d bs _ _ _ b=>by
  obtain⟨⟨_,_,_,_,_,⟨e,f,a⟩,_⟩,_⟩:=b
  exact absurd a (by omega)⟩
 |k+1=>jAZ (jc4.mpr jjN k) Tryz.func42 (by kernel_rfl) (by kernel_rfl) (by kernel_rfl) (by kernel_rfl) (by kernel_rfl) ⟨fun _=>jbr,fun _=>jjb,trivial⟩ ⟨jeK,jay k,trivial⟩
end Go.X
namespace Go.X
open Go.Proofs
namespace U
def jBu (r:RoD) (b:Int) (t:Nat):Bool:=decide (juR (t:Int) (nth (y5 r) b.toNat)=0)&&jxe (rd r) b (t:Int)
def w8 (r:RoD) (b:Int) (n:Nat):List Int:=((List.range n).filter (jBu r b)).map (fun(t:Nat)=>(t:Int))
def kj (r:RoD) (n:Nat):List (List Int):=(List.range n).map (fun(b:Nat)=>w8 r (b:Int) (2^(ji (jf (rd r))).length))
def jC8 (d:DyD):StD:=wW (jnH d) (kj (jnH d) (jp d).length) 5 0 0 (List.replicate (jp d).length 0,ve,0,false)
def jdm (d:DyD):Int:=if jr d=0 then(if(jC8 d).2.2.2=true then 0 else 3) else jr d
def jhy (d:DyD):List Int:=if jdm d=0 then(jC8 d).2.1 else[]
def jhx (d:DyD):Int:=if jdm d=0 then(jC8 d).2.2.1 else 0
end U
def jvv:jU:=⟨[.val tDy],[.slice .int,.int,.int],false,fun d=>[(U.jH d.1).length<=100000],fun d=>(U.jhy d.1,U.jhx d.1,U.jdm d.1,())⟩
def jxW:Ann:=fun r=>match r with
 |6=>some fun σ=>{X:=Nat,sl:=fun i=>[(28,.dat .int (i:Int))],ob:=fun i=>[(24,some (.box 87 false (((bx σ 24).set 1 (.own (yZ 24 1) (.slice .int))).set 3 (.own (yZ 24 3) .int)))),(yZ 24 3,some (.row 3 .int false .yes U.ve)),(yZ 24 1,some (.row 34 (.slice .int) false .yes (U.kj (U.ro (gd (.ptr tRo) σ 5)) i)))],inv:=fun i=>i<=(U.jp (gb tDy σ 1)).length,mu:=fun i=>(U.jp (gb tDy σ 1)).length-i}
 |10=>some fun σ=>{X:=Nat,sl:=fun t=>[(36,.dat .int (t:Int)),(8,.own 8 .int)],ob:=fun t=>[(8,some (.row 3 .int false .yes (U.w8 (U.ro (gd (.ptr tRo) σ 5)) (gd .int σ 7) t)))],inv:=fun t=>t<=2^(U.ji (U.jf (gb tDy σ 1))).length,mu:=fun t=>2^(U.ji (U.jf (gb tDy σ 1))).length-t}
 |_=>none
abbrev q98_3 (d:DyD×Unit):=(U.ro (U.zr d.1))
abbrev q98_4 (d:DyD×Unit):=(jT ((((0:Int),[],[],()),[],[],(0:Int),(0:Int),[],()),[],[],[],()) (U.zr d.1))
abbrev q98_1 (a:Nat)(d:DyD×Unit)(x:Nat):=(juR (a:Int) (nth (q98_4 d).2.1 (x:Int).toNat)=0)
abbrev q98_5 (d:DyD×Unit):=(d.1.2.2.1.length:Int)
abbrev q98_2 (d:DyD×Unit)(x:Nat):=(U.zr d.1,U.kj (q98_3 d) x,List.replicate (q98_5 d).toNat (0:Int),U.ve,(0:Int),false,())
abbrev q98_0 (d:DyD×Unit)(x:Nat):=(U.qU (q98_2 d x) (U.wW (q98_3 d) (U.kj (q98_3 d) x) 5 (Int.toNat 0) (0:Int) (U.jj (q98_2 d x))))
abbrev q98_6 (d:DyD×Unit):=(U.zr d.1=U.zr d.1/\True/\True/\True/\(0:Int)=0/\false=false/\True)
abbrev q98_7 (d:DyD×Unit):=(U.ji (U.jf d.1))
abbrev q98_8 (d:DyD×Unit):=(U.jhy d.1,U.jhx d.1,U.jdm d.1,())
abbrev q98_9 (d:DyD×Unit):=(d.1.1.2.1.length:Int)
def jva:Prop:=∀(d:DyD×Unit),(U.jH d.1).length<=100000->(U.jH d.1).length<=100000/\(decide (U.jr d.1≠0)=true->([],(0:Int),U.jr d.1,())=(q98_8 d))/\(decide (U.jr d.1≠0)=false->d.1.2.2.1.length<4611686018427387904->0<=(q98_5 d)/\(q98_5 d)=(q98_5 d)/\(q98_5 d).toNat*8<=140737488355328/\(d.1.2.2.1.length<4611686018427387904->(∃(x:Nat),((0=(x:Int)/\True)/\(q98_6 d)/\U.ve=[]/\U.kj (q98_3 d) x=[]/\True)/\x<=(U.jp d.1).length)/\∀(x:Nat),x<=(U.jp d.1).length->(decide ((x:Int)<(q98_5 d))=true->d.1.1.2.1.length<4611686018427387904->0<=(q98_9 d)/\(q98_9 d)<=64/\jD ((1:Int)*2^(q98_9 d).toNat)/\(∃(a:Nat),((0=(a:Int)/\True/\True)/\U.w8 (q98_3 d) (x:Int) a=[]/\True)/\a<=2^(q98_7 d).length)/\∀(a:Nat),a<=2^(q98_7 d).length->(decide ((a:Int)<1*2^(q98_9 d).toNat)=true->(U.zr d.1).isSome=true/\0<=(x:Int)/\(x:Int)<(↑(q98_4 d).2.1.length:Int)/\(decide (q98_1 a d x)=true->(U.zr d.1).isSome=true)/\(decide (q98_1 a d x)=true->U.q6 (U.rd (q98_3 d)) (x:Int))/\((decide (q98_1 a d x)&&U.jxe (U.rd (q98_3 d)) (x:Int) (a:Int))=true->((U.w8 (q98_3 d) (x:Int) a).length+[(a:Int)].length)*8<=140737488355328/\jD ((a:Int)+1)/\∃(b:Nat),(((a:Int)+1=(b:Int)/\True/\True)/\U.w8 (q98_3 d) (x:Int) a++[(a:Int)]=U.w8 (q98_3 d) (x:Int) b/\True)/\b<=2^(q98_7 d).length/\2^(q98_7 d).length-b<2^(q98_7 d).length-a)/\((decide (q98_1 a d x)&&U.jxe (U.rd (q98_3 d)) (x:Int) (a:Int))=false->jD ((a:Int)+1)/\∃(b:Nat),((True/\(a:Int)+1=(b:Int)/\True)/\U.w8 (q98_3 d) (x:Int) a=U.w8 (q98_3 d) (x:Int) b/\True)/\b<=2^(q98_7 d).length/\2^(q98_7 d).length-b<2^(q98_7 d).length-a))/\(decide ((a:Int)<1*2^(q98_9 d).toNat)=false->((U.kj (q98_3 d) x).length+[U.w8 (q98_3 d) (x:Int) a].length)*24<=140737488355328/\jD ((x:Int)+1)/\∃(b:Nat),(((x:Int)+1=(b:Int)/\True)/\U.ve=U.ve/\(q98_6 d)/\U.kj (q98_3 d) x++[U.w8 (q98_3 d) (x:Int) a]=U.kj (q98_3 d) b/\True)/\b<=(U.jp d.1).length/\(U.jp d.1).length-b<(U.jp d.1).length-x))/\(decide ((x:Int)<(q98_5 d))=false->U.jt1 5 (q98_2 d x) (0:Int) (0:Int)/\((!(q98_0 d x).2.2.2.2.2.1)=true->([],(0:Int),(3:Int),())=(q98_8 d))/\((!(q98_0 d x).2.2.2.2.2.1)=false->((q98_0 d x).2.2.2.1,(q98_0 d x).2.2.2.2.1,(0:Int),())=(q98_8 d)))))
end Go.X
namespace Go.X
open Go.Proofs
theorem juL (r:RoD) (b:Int) (n:Nat):U.w8 r b (n+1)=U.w8 r b n++(if U.jBu r b n=true then[(n:Int)] else[]):=by
 unfold U.w8;rw[L.range_filter_succ,jEW];by_cases h:U.jBu r b n=true
 .rw[if_pos h,if_pos h];rfl
 .rw[if_neg h,if_neg h];rfl
theorem jxI (r:RoD) (b:Int) (n:Nat):(U.w8 r b n).length<=n:=by
 unfold U.w8;rw[jFf];exact jD7 (List.length_filter_le _ _) (by simp)
theorem jpW {r:RoD} {b:Int} {n:Nat} {t:Int} (h:t∈U.w8 r b n):0<=t/\t<(n:Int):=by
 unfold U.w8 at h;obtain⟨i,hi,rfl⟩:=jEx.1 h;have:=jEg.1 (jEa.1 hi).1;omega
theorem jxH (r:RoD) (n:Nat):U.kj r (n+1)=U.kj r n++[U.w8 r (n:Int) (2^(U.ji (U.jf (U.rd r))).length)]:=by
 unfold U.kj;rw[jEJ,jEW];rfl
theorem jta (r:RoD) (n:Nat):(U.kj r n).length=n:=by unfold U.kj;simp
theorem jzU {n:Nat} (h:n<=8):(2:Nat)^n<=256:=jD7 (Nat.pow_le_pow_right (by decide) h) (by decide)
theorem jC9 {d:DyD} (hk:U.jr d=0):U.jt1 5 (some (U.jnH d),U.kj (U.jnH d) (U.jp d).length,List.replicate (U.jp d).length 0,U.ve,0,false,()) 0 0:=by
 have c:=jsB hk;have i:(U.jp d).length<=4:=(j7 c.may.1.2.2).1;have h:(U.ji (U.jf d)).length<=8:=(jI c.may.1.1).2.2.1;refine⟨rfl,c.may,c.len,⟨jta _ _,fun l a t e=> ?_⟩,jET,⟨jEP 0,by show(0:Int)<=((U.jp d).length:Int);omega,by show((U.jp d).length:Int)<0+((5:Nat):Int);omega⟩,jEP 0,by omega⟩;have a:l∈U.kj (U.jnH d) (U.jp d).length:=a;unfold U.kj at a;obtain⟨b,_,rfl⟩:=jEx.1 a;have:=jpW e;have f:=jzU h;have g:(2:Nat)^(U.ji (U.jf (U.rd (U.jnH d)))).length<=256:=f;have:t<((2^(U.ji (U.jf (U.rd (U.jnH d)))).length:Nat):Int):=this.2;refine⟨(jpW e).1,by omega⟩
theorem jy6:jva:=by
 unfold jva q98_9 q98_8 q98_7 q98_6 q98_0 q98_2 q98_5 q98_1 q98_4 q98_3;rintro⟨d,⟨⟩⟩ A;refine⟨A,fun h=> ?_,fun h=> ?_⟩
 .have h:U.jr d≠0:=of_decide_eq_true h;have e:U.jdm d=U.jr d:=(by unfold U.jdm;rw[if_neg h]);show([],(0:Int),U.jr d,())=(U.jhy d,U.jhx d,U.jdm d,());unfold U.jhy U.jhx;rw[e,if_neg h,if_neg h]
 have hk:U.jr d=0:=Classical.not_not.1 (of_decide_eq_false h);have m:=jsB hk;have z:(U.jp d).length<=4:=(j7 m.may.1.2.2).1;have y:(U.ji (U.jf d)).length<=8:=(jI m.may.1.1).2.2.1;have s:=jzU y;have l:=jv8 hk;have i:U.ro (U.zr d)=U.jnH d:=(by rw[l];rfl);have r:U.rd (U.ro (U.zr d))=d:=(by rw[i];rfl);have q:(U.zr d).isSome=true:=(by rw[l];rfl);have B:(U.y5 (U.ro (U.zr d))).length=(U.jp d).length:=(by rw[i];exact m.may.2);refine fun _=>⟨jEo _,rfl,?_,fun _=>⟨⟨0,⟨⟨rfl,trivial⟩,⟨rfl,trivial,trivial,trivial,rfl,rfl,trivial⟩,rfl,rfl,trivial⟩,jD6 _⟩,fun x u=>⟨fun b _=>⟨jEo _,?_,?_,⟨0,⟨⟨rfl,trivial,trivial⟩,rfl,trivial⟩,jD6 _⟩,fun t j=>⟨fun a=> ?_,fun a=> ?_⟩⟩,fun b=> ?_⟩⟩⟩
 .show((U.jp d).length:Int).toNat*8<=140737488355328;omega
 .show((U.ji (U.jf d)).length:Int)<=64;omega
 .show jD (1*2^((U.ji (U.jf d)).length:Int).toNat);rw[jbn,jD0];have a:BT.Set' ((2:Int)^(U.ji (U.jf d)).length):=BT.two_set (by omega);unfold BT.Set' at a;exact L.in64 (by omega) (by omega)
 .have b:(x:Int)<((U.jp d).length:Int):=of_decide_eq_true b;have j:t<=2^(U.ji (U.jf d)).length:=j;have a:(t:Int)<1*2^((U.ji (U.jf d)).length:Int).toNat:=of_decide_eq_true a;rw[jbn,jD0,BT.two_nat] at a;have a:t<2^(U.ji (U.jf d)).length:=(by omega);have f:=juL (U.ro (U.zr d)) (x:Int) t;have g:=jxI (U.ro (U.zr d)) (x:Int) t;have w:U.q6 (U.rd (U.ro (U.zr d))) (x:Int):=(by rw[r];exact⟨by omega,b⟩);have v:t+1<=2^(U.ji (U.jf d)).length:=(by omega);have p:2^(U.ji (U.jf d)).length-(t+1)<2^(U.ji (U.jf d)).length-t:=(by omega);refine⟨q,by omega,by show(x:Int)<((U.y5 (U.ro (U.zr d))).length:Int);omega,fun _=>q,fun _=>w,fun c=> ?_,fun c=> ?_⟩
  .have c:U.jBu (U.ro (U.zr d)) (x:Int) t=true:=c;refine⟨?_,L.in64 (by omega) (by omega),t+1,⟨⟨by simp,trivial,trivial⟩,?_,trivial⟩,v,p⟩
   .show((U.w8 (U.ro (U.zr d)) (x:Int) t).length+1)*8<=140737488355328;omega
   .rw[if_pos c] at f;exact f.symm
  .have c:U.jBu (U.ro (U.zr d)) (x:Int) t=false:=c;refine⟨L.in64 (by omega) (by omega),t+1,⟨⟨trivial,by simp,trivial⟩,?_,trivial⟩,v,p⟩;rw[if_neg (by rw[c];simp),jEm] at f;exact f.symm
 .have b:(x:Int)<((U.jp d).length:Int):=of_decide_eq_true b;have j:t<=2^(U.ji (U.jf d)).length:=j;have a:¬(t:Int)<1*2^((U.ji (U.jf d)).length:Int).toNat:=of_decide_eq_false a;rw[jbn,jD0,BT.two_nat] at a;have n:t=2^(U.ji (U.jf d)).length:=(by omega);have f:=jxH (U.ro (U.zr d)) x;rw[r,<-n] at f;have g:=jta (U.ro (U.zr d)) x;refine⟨?_,L.in64 (by omega) (by omega),x+1,⟨⟨by simp,trivial⟩,rfl,⟨rfl,trivial,trivial,trivial,rfl,rfl,trivial⟩,f.symm,trivial⟩,by show x+1<=(U.jp d).length;omega,by show(U.jp d).length-(x+1)<(U.jp d).length-x;omega⟩;show((U.kj (U.ro (U.zr d)) x).length+1)*24<=140737488355328;omega
 .have b:¬(x:Int)<((U.jp d).length:Int):=of_decide_eq_false b;have u:x<=(U.jp d).length:=u;have o:x=(U.jp d).length:=(by omega);subst o;have k:U.wW (U.ro (U.zr d)) (U.kj (U.ro (U.zr d)) (U.jp d).length) 5 (Int.toNat 0) 0 (U.jj (U.zr d,U.kj (U.ro (U.zr d)) (U.jp d).length,List.replicate ((U.jp d).length:Int).toNat 0,U.ve,0,false,()))=U.jC8 d:=by
   rw[i,jD0];rfl
  refine⟨?_,fun a=> ?_,fun a=> ?_⟩
  .show U.jt1 5 (U.zr d,U.kj (U.ro (U.zr d)) (U.jp d).length,List.replicate ((U.jp d).length:Int).toNat 0,U.ve,0,false,()) 0 0;rw[i,l,jD0];exact jC9 hk
  .have a:(!(U.wW (U.ro (U.zr d)) (U.kj (U.ro (U.zr d)) (U.jp d).length) 5 (Int.toNat 0) 0 (U.jj (U.zr d,U.kj (U.ro (U.zr d)) (U.jp d).length,List.replicate ((U.jp d).length:Int).toNat 0,U.ve,0,false,()))).2.2.2)=true:=a;rw[k] at a;have a:(U.jC8 d).2.2.2=false:=(by simpa using a);have e:U.jdm d=3:=(by unfold U.jdm;rw[if_pos hk,a,if_neg (by simp)]);show([],(0:Int),(3:Int),())=(U.jhy d,U.jhx d,U.jdm d,());unfold U.jhy U.jhx;rw[e];rfl
  .have a:(!(U.wW (U.ro (U.zr d)) (U.kj (U.ro (U.zr d)) (U.jp d).length) 5 (Int.toNat 0) 0 (U.jj (U.zr d,U.kj (U.ro (U.zr d)) (U.jp d).length,List.replicate ((U.jp d).length:Int).toNat 0,U.ve,0,false,()))).2.2.2)=false:=a;rw[k] at a;have a:(U.jC8 d).2.2.2=true:=(by simpa using a);have e:U.jdm d=0:=(by unfold U.jdm;rw[if_pos hk,a,if_pos rfl]);show((U.wW (U.ro (U.zr d)) (U.kj (U.ro (U.zr d)) (U.jp d).length) 5 (Int.toNat 0) 0 (U.jj (U.zr d,U.kj (U.ro (U.zr d)) (U.jp d).length,List.replicate ((U.jp d).length:Int).toNat 0,U.ve,0,false,()))).2.1,(U.wW (U.ro (U.zr d)) (U.kj (U.ro (U.zr d)) (U.jp d).length) 5 (Int.toNat 0) 0 (U.jj (U.zr d,U.kj (U.ro (U.zr d)) (U.jp d).length,List.replicate ((U.jp d).length:Int).toNat 0,U.ve,0,false,()))).2.2.1,(0:Int),())=(U.jhy d,U.jhx d,U.jdm d,());rw[k];unfold U.jhy U.jhx;rw[e];rfl
theorem jwf:zk PR 15 jvv:=wF jxW jy6 Tryz.func15 (kcC jhI kcN) (koC jbs (koC (jay 5) koN))
end Go.X
namespace Go.X
open Go.Proofs
def jom:jU:=⟨[.val .int,.val .int,.val .int],[.bool],false,fun _=>[],fun d=>(U.ja d.1 d.2.1 d.2.2.1,())⟩
def jn0:Prop:=∀(d:Int×Int×Int×Unit),(decide (d.2.1<=d.1)&&decide (d.1<=d.2.2.1),())=(U.ja d.1 d.2.1 d.2.2.1,())
def jvw:jU:=⟨[.val .int,.val .int],[.bool],false,fun d=>[0<=d.2.1/\d.2.1<=63],fun d=>(U.wG d.1 d.2.1,())⟩
def jvb:Prop:=∀(d:Int×Int×Unit),0<=d.2.1/\d.2.1<=63->0<=d.2.1/\d.2.1<=18446744073709551615/\0<=d.2.1/\d.2.1<=64/\(decide (vj (d.1/(2:Int)^d.2.1.toNat) (1:Int)=1),())=(U.wG d.1 d.2.1,())
def jon:jU:=⟨[.val tCr],[.bool],false,fun _=>[],fun d=>(U.ju d.1,())⟩
def jp0:Ann:=fun r=>match r with
 |4=>some fun σ=>{X:=Nat,sl:=fun i=>[(3,.dat .int (i:Int))],ob:=fun _=>[],inv:=fun i=>i<=(U.ji (gb tCr σ 1)).length/\∀j:Nat,j<i->U.yy (U.la (gb tCr σ 1)) (nth (U.ji (gb tCr σ 1)) j)=true,mu:=fun i=>(U.ji (gb tCr σ 1)).length-i}
 |10=>some fun σ=>{X:=Nat,sl:=fun i=>[(5,.dat .int (i:Int))],ob:=fun _=>[],inv:=fun i=>i<=(U.lv (gb tPe σ 4)).length/\∀j:Nat,j<i->U.ja (nth (U.lv (gb tPe σ 4)) j) 0 5=true,mu:=fun i=>(U.lv (gb tPe σ 4)).length-i}
 |15=>some fun σ=>{X:=Nat,sl:=fun i=>[(6,.dat .int (i:Int))],ob:=fun _=>[],inv:=fun i=>i<=(U.wk (gb tPe σ 4)).length/\∀j:Nat,j<i->U.ja (nth (U.wk (gb tPe σ 4)) j) 0 99=true,mu:=fun i=>(U.wk (gb tPe σ 4)).length-i}
 |20=>some fun σ=>{X:=Nat,sl:=fun i=>[(7,.dat .int (i:Int))],ob:=fun _=>[],inv:=fun i=>i<=(U.kB (gb tCr σ 1)).length/\∀j:Nat,j<i->U.yX (nth (U.kB (gb tCr σ 1)) j)=true,mu:=fun i=>(U.kB (gb tCr σ 1)).length-i}
 |_=>none
abbrev q101_0 (d:CrD×Unit)(x:Nat):=(nth d.1.2.1 (x:Int).toNat)
abbrev q101_2 (d:CrD×Unit)(x:Nat):=(!U.ja (nth d.1.2.2.1 (x:Int).toNat).1 (1:Int) (5:Int)|| !U.ja (nth d.1.2.2.1 (x:Int).toNat).2.1 (1:Int) (8:Int))
abbrev q101_4 (d:CrD×Unit)(x:Nat):=(↑(q101_0 d x).1.length:Int)
abbrev q101_5 (d:CrD×Unit)(x:Nat):=(↑(q101_0 d x).2.2.2.1.length:Int)
abbrev q101_1 (d:CrD×Unit)(x:Nat):=(decide ((q101_4 d x)≠d.1.1)|| !U.ja (q101_0 d x).2.1 (0:Int) (255:Int)|| !U.ja (q101_0 d x).2.2.1 (0:Int) (255:Int)||decide ((10:Int)<(q101_5 d x))|| !U.ja (q101_0 d x).2.2.2.2.2.1 (0:Int) (1000:Int))
abbrev q101_6 (d:CrD×Unit):=(d.1.2.2.1.length:Int)
abbrev q101_3 (d:CrD×Unit):=(!U.ja d.1.1 (2:Int) (5:Int)||decide (8<(d.1.2.1.length:Int))||decide ((q101_6 d)≠4))
abbrev q101_7 (d:CrD×Unit)(x:Nat):=(U.wk (q101_0 d x))
def jn1:Prop:=∀(d:CrD×Unit),((!!U.ja d.1.1 (2:Int) (5:Int))=true->d.1.2.1.length<4611686018427387904)->((!(!U.ja d.1.1 (2:Int) (5:Int)||decide (8<(d.1.2.1.length:Int))))=true->d.1.2.2.1.length<4611686018427387904)->((q101_3 d)=true->(false,())=(U.ju d.1,()))/\((q101_3 d)=false->(∃(x:Nat),((0=(x:Int)/\True)/\True)/\x<=(U.ji d.1).length/\∀(j:Nat),j<x->U.yy (U.la d.1) (nth (U.ji d.1) j)=true)/\∀(x:Nat),(x<=(U.ji d.1).length/\∀(j:Nat),j<x->U.yy (U.la d.1) (nth (U.ji d.1) j)=true)->d.1.2.1.length<4611686018427387904->(decide ((x:Int)<(d.1.2.1.length:Int))=true->0<=(x:Int)/\(x:Int)<(d.1.2.1.length:Int)/\((q101_0 d x).1.length<4611686018427387904->((!(decide ((q101_4 d x)≠d.1.1)|| !U.ja (q101_0 d x).2.1 (0:Int) (255:Int)|| !U.ja (q101_0 d x).2.2.1 (0:Int) (255:Int)))=true->(q101_0 d x).2.2.2.1.length<4611686018427387904)->((q101_1 d x)=true->(false,())=(U.ju d.1,()))/\((q101_1 d x)=false->(∃(b:Nat),((0=(b:Int)/\True)/\True)/\b<=(U.lv (q101_0 d x)).length/\∀(j:Nat),j<b->U.ja (nth (U.lv (q101_0 d x)) j) (0:Int) 5=true)/\∀(b:Nat),(b<=(U.lv (q101_0 d x)).length/\∀(j:Nat),j<b->U.ja (nth (U.lv (q101_0 d x)) j) (0:Int) 5=true)->(q101_0 d x).1.length<4611686018427387904->(decide ((b:Int)<(q101_4 d x))=true->0<=(b:Int)/\(b:Int)<(q101_4 d x)/\((!U.ja (nth (q101_0 d x).1 (b:Int).toNat) (0:Int) (5:Int))=true->(false,())=(U.ju d.1,()))/\((!U.ja (nth (q101_0 d x).1 (b:Int).toNat) (0:Int) (5:Int))=false->jD ((b:Int)+1)/\∃(c:Nat),(((b:Int)+1=(c:Int)/\True)/\True)/\(c<=(U.lv (q101_0 d x)).length/\∀(j:Nat),j<c->U.ja (nth (U.lv (q101_0 d x)) j) (0:Int) 5=true)/\(U.lv (q101_0 d x)).length-c<(U.lv (q101_0 d x)).length-b))/\(decide ((b:Int)<(q101_4 d x))=false->(∃(a:Nat),((0=(a:Int)/\True)/\True)/\a<=(q101_7 d x).length/\∀(j:Nat),j<a->U.ja (nth (q101_7 d x) j) (0:Int) 99=true)/\∀(a:Nat),(a<=(q101_7 d x).length/\∀(j:Nat),j<a->U.ja (nth (q101_7 d x) j) (0:Int) 99=true)->(q101_0 d x).2.2.2.1.length<4611686018427387904->(decide ((a:Int)<(q101_5 d x))=true->0<=(a:Int)/\(a:Int)<(q101_5 d x)/\((!U.ja (nth (q101_0 d x).2.2.2.1 (a:Int).toNat) (0:Int) (99:Int))=true->(false,())=(U.ju d.1,()))/\((!U.ja (nth (q101_0 d x).2.2.2.1 (a:Int).toNat) (0:Int) (99:Int))=false->jD ((a:Int)+1)/\∃(c:Nat),(((a:Int)+1=(c:Int)/\True)/\True)/\(c<=(q101_7 d x).length/\∀(j:Nat),j<c->U.ja (nth (q101_7 d x) j) (0:Int) 99=true)/\(q101_7 d x).length-c<(q101_7 d x).length-a))/\(decide ((a:Int)<(q101_5 d x))=false->jD ((x:Int)+1)/\∃(c:Nat),(((x:Int)+1=(c:Int)/\True)/\True)/\(c<=(U.ji d.1).length/\∀(j:Nat),j<c->U.yy (U.la d.1) (nth (U.ji d.1) j)=true)/\(U.ji d.1).length-c<(U.ji d.1).length-x)))))/\(decide ((x:Int)<(d.1.2.1.length:Int))=false->(∃(x:Nat),((0=(x:Int)/\True)/\True)/\x<=(U.kB d.1).length/\∀(j:Nat),j<x->U.yX (nth (U.kB d.1) j)=true)/\∀(x:Nat),(x<=(U.kB d.1).length/\∀(j:Nat),j<x->U.yX (nth (U.kB d.1) j)=true)->d.1.2.2.1.length<4611686018427387904->(decide ((x:Int)<(q101_6 d))=true->0<=(x:Int)/\(x:Int)<(q101_6 d)/\((!!U.ja (nth d.1.2.2.1 (x:Int).toNat).1 (1:Int) (5:Int))=true->0<=(x:Int))/\((!!U.ja (nth d.1.2.2.1 (x:Int).toNat).1 (1:Int) (5:Int))=true->(x:Int)<(q101_6 d))/\((q101_2 d x)=true->(false,())=(U.ju d.1,()))/\((q101_2 d x)=false->jD ((x:Int)+1)/\∃(c:Nat),(((x:Int)+1=(c:Int)/\True)/\True)/\(c<=(U.kB d.1).length/\∀(j:Nat),j<c->U.yX (nth (U.kB d.1) j)=true)/\(U.kB d.1).length-c<(U.kB d.1).length-x))/\(decide ((x:Int)<(q101_6 d))=false->(true,())=(U.ju d.1,()))))
def jqJ:jU:=⟨[.val tCr,.val tJb],[.bool],false,fun d=>[U.ju d.1=true],fun d=>(U.zx d.1 d.2.1,())⟩
def jqn:Prop:=∀(d:CrD×JbD×Unit),U.ju d.1=true->jD (d.1.1-1)/\(U.ja d.2.1.1 (0:Int) (d.1.1-1)=true->jD (d.1.1-1))/\(U.ja d.2.1.1 (0:Int) (d.1.1-1)&&U.ja d.2.1.2.1 (0:Int) (d.1.1-1)&&decide (d.2.1.1≠d.2.1.2.1)&&U.ja d.2.1.2.2.1 (0:Int) (99:Int)&&U.ja d.2.1.2.2.2.1 (0:Int) (7:Int)&&U.ja d.2.1.2.2.2.2.1 (0:Int) (3:Int)&&U.ja d.2.1.2.2.2.2.2.1 (1:Int) (8:Int),())=(U.zx d.1 d.2.1,())
end Go.X
namespace Go.X
open Go.Proofs
theorem jrJ:jn0:=by
 rintro⟨n,a,b,⟨⟩⟩;rfl
theorem jgT:zk PR 44 jom:=jN jrJ Tryz.func44 kcN koN
theorem jy7:jvb:=by
 rintro⟨s,n,⟨⟩⟩ ⟨a,b⟩;have a:0<=n:=a;have b:n<=63:=b;exact⟨a,by show n<=18446744073709551615;omega,a,by show n<=64;omega,rfl⟩
theorem jwg:zk PR 13 jvw:=jN jy7 Tryz.func13 kcN koN
theorem jy0 (c:CrD) (j:JbD):(U.ja (U.jA7 j) 0 (U.la c-1)&&U.ja (U.jub j) 0 (U.la c-1)&&decide (U.jA7 j≠U.jub j)&&U.ja (U.jBT j) 0 99&&U.ja (U.jBS j) 0 7&&U.ja (U.jBR j) 0 3&&U.ja (U.jDg j) 1 8)=U.zx c j:=by
 unfold U.zx U.ja;rw[jEs];simp only[jDV,decide_eq_true_eq,ne_eq];constructor
 .rintro⟨⟨⟨⟨⟨⟨⟨f,g⟩,h,i⟩,k⟩,l,m⟩,n,o⟩,a,b⟩,d,e⟩;exact⟨f,g,h,i,k,l,m,n,o,a,b,d,e⟩
 .rintro⟨f,g,h,i,k,l,m,n,o,a,b,d,e⟩;exact⟨⟨⟨⟨⟨⟨⟨f,g⟩,h,i⟩,k⟩,l,m⟩,n,o⟩,a,b⟩,d,e⟩
theorem jum:jqn:=by
 rintro⟨c,j,⟨⟩⟩ h;have h:U.ju c=true:=h;have d:=jI h;have a:jD (U.la c-1):=L.in64 (by omega) (by omega);refine⟨a,fun _=>a,?_⟩;exact congrArg (fun b=>(b,())) (jy0 c j)
theorem jrk:zk PR 60 jqJ:=jN jum Tryz.func60 (kcC jgT kcN) koN
end Go.X
namespace Go.X
open Go.Proofs
end Go.X
namespace Go.X
open Go.Proofs
end Go.X
namespace Go.X
open Go.Proofs
theorem jyz (l:Int) (p:PeD):U.yy l p=(!(decide (((U.lv p).length:Int)≠l)|| !U.ja (U.fd p) 0 255|| !U.ja (U.cl p) 0 255||decide (10<((U.wk p).length:Int))|| !U.ja (U.fe p) 0 1000)&&((U.lv p).all (fun n=>U.ja n 0 5)&&(U.wk p).all (fun n=>U.ja n 0 99))):=by
 unfold U.yy;congr 1;rw[jEs];simp only[U.ja,jEl,jEh,decide_eq_false_iff_not,jEN,jDV,decide_eq_true_eq];omega
theorem jic (c:CrD):U.ju c=(!(!U.ja (U.la c) 2 5||decide (8<((U.ji c).length:Int))||decide (((U.kB c).length:Int)≠4))&&((U.ji c).all (U.yy (U.la c))&&(U.kB c).all U.yX)):=by
 unfold U.ju;congr 1;rw[jEs];simp only[U.ja,jEl,jEh,decide_eq_false_iff_not,jEN,jDV,decide_eq_true_eq];omega
theorem jgC {c:CrD} {x:Nat} (a:x<(U.ji c).length) (h:U.yy (U.la c) (nth (U.ji c) x)=false):U.ju c=false:=by
 have:(U.ji c).all (U.yy (U.la c))=false:=jEZ.2 ⟨_,L.mem_nth a,by rw[h];simp⟩;rw[jic,this];simp
theorem juI {c:CrD} {x:Nat} (a:x<(U.kB c).length) (h:U.yX (nth (U.kB c) x)=false):U.ju c=false:=by
 have:(U.kB c).all U.yX=false:=jEZ.2 ⟨_,L.mem_nth a,by rw[h];simp⟩;rw[jic,this];simp
theorem jap {α:Type} [Inhabited α] {l:List α} {p:α->Bool} {x:Nat} (c:¬x<l.length) (h:∀j:Nat,j<x->p (nth l j)=true):l.all p=true:=by
 rw[jEw];intro a b;obtain⟨i,hi,rfl⟩:=L.mem_iff.1 b;exact h i (by omega)
theorem jbj {c:CrD} (h:U.ju c=false):(false,())=(U.ju c,()):=by rw[h]
theorem jrK:jn1:=by
 unfold jn1 q101_7 q101_3 q101_6 q101_1 q101_5 q101_4 q101_2 q101_0;rintro⟨c,⟨⟩⟩ _ _;refine⟨fun h=> ?_,fun h=> ?_⟩
 .have h:(!U.ja (U.la c) 2 5||decide (8<((U.ji c).length:Int))||decide (((U.kB c).length:Int)≠4))=true:=h;refine jbj (c:=c) ?_;rw[jic,h];rfl
 have B:(!U.ja (U.la c) 2 5||decide (8<((U.ji c).length:Int))||decide (((U.kB c).length:Int)≠4))=false:=h;clear h;refine⟨⟨0,⟨⟨rfl,trivial⟩,trivial⟩,jD6 _,fun j k=>by omega⟩,fun x s r=>⟨fun h=> ?_,fun h=> ?_⟩⟩
 .have r:(U.ji c).length<4611686018427387904:=r;have h:(x:Int)<((U.ji c).length:Int):=of_decide_eq_true h;have m:x<(U.ji c).length:=(by omega);refine⟨by omega,h,fun _ _=>⟨fun g=> ?_,fun g=> ?_⟩⟩
  .have g:(decide (((U.lv (nth (U.ji c) x)).length:Int)≠U.la c)|| !U.ja (U.fd (nth (U.ji c) x)) 0 255|| !U.ja (U.cl (nth (U.ji c) x)) 0 255||decide (10<((U.wk (nth (U.ji c) x)).length:Int))|| !U.ja (U.fe (nth (U.ji c) x)) 0 1000)=true:=g;refine jbj (c:=c) (jgC m ?_);rw[jyz,g];rfl
  have g:(decide (((U.lv (nth (U.ji c) x)).length:Int)≠U.la c)|| !U.ja (U.fd (nth (U.ji c) x)) 0 255|| !U.ja (U.cl (nth (U.ji c) x)) 0 255||decide (10<((U.wk (nth (U.ji c) x)).length:Int))|| !U.ja (U.fe (nth (U.ji c) x)) 0 1000)=false:=g;refine⟨⟨0,⟨⟨rfl,trivial⟩,trivial⟩,jD6 _,fun j k=>by omega⟩,fun y q d=>⟨fun b=> ?_,fun b=> ?_⟩⟩
  .have d:(U.lv (nth (U.ji c) x)).length<4611686018427387904:=d;have b:(y:Int)<((U.lv (nth (U.ji c) x)).length:Int):=of_decide_eq_true b;refine⟨by omega,b,fun a=> ?_,fun a=>⟨L.in64 (by omega) (by omega),y+1,⟨⟨by simp,trivial⟩,trivial⟩,⟨by show y+1<=(U.lv (nth (U.ji c) x)).length;omega,fun j k=> ?_⟩,by show(U.lv (nth (U.ji c) x)).length-(y+1)<(U.lv (nth (U.ji c) x)).length-y;omega⟩⟩
   .have a:(!U.ja (nth (U.lv (nth (U.ji c) x)) y) 0 5)=true:=a;have a:U.ja (nth (U.lv (nth (U.ji c) x)) y) 0 5=false:=(by simpa using a);refine jbj (c:=c) (jgC m ?_);have:(U.lv (nth (U.ji c) x)).all (fun n=>U.ja n 0 5)=false:=jEZ.2 ⟨_,L.mem_nth (l:=U.lv (nth (U.ji c) x)) (i:=y) (by omega),by rw[a];simp⟩;rw[jyz,this];simp
   .have a:(!U.ja (nth (U.lv (nth (U.ji c) x)) y) 0 5)=false:=a;by_cases e:j=y
    .subst e;exact(show U.ja (nth (U.lv (nth (U.ji c) x)) j) 0 5=true by simpa using a)
    .exact q.2 j (by omega)
  have b:¬(y:Int)<((U.lv (nth (U.ji c) x)).length:Int):=of_decide_eq_false b;have u:(U.lv (nth (U.ji c) x)).all (fun n=>U.ja n 0 5)=true:=jap (by omega) q.2;refine⟨⟨0,⟨⟨rfl,trivial⟩,trivial⟩,jD6 _,fun j k=>by omega⟩,fun z t o=>⟨fun a=> ?_,fun a=> ?_⟩⟩
  .have o:(U.wk (nth (U.ji c) x)).length<4611686018427387904:=o;have a:(z:Int)<((U.wk (nth (U.ji c) x)).length:Int):=of_decide_eq_true a;refine⟨by omega,a,fun f=> ?_,fun f=>⟨L.in64 (by omega) (by omega),z+1,⟨⟨by simp,trivial⟩,trivial⟩,⟨by show z+1<=(U.wk (nth (U.ji c) x)).length;omega,fun j k=> ?_⟩,by show(U.wk (nth (U.ji c) x)).length-(z+1)<(U.wk (nth (U.ji c) x)).length-z;omega⟩⟩
   .have f:(!U.ja (nth (U.wk (nth (U.ji c) x)) z) 0 99)=true:=f;have f:U.ja (nth (U.wk (nth (U.ji c) x)) z) 0 99=false:=(by simpa using f);refine jbj (c:=c) (jgC m ?_);have:(U.wk (nth (U.ji c) x)).all (fun n=>U.ja n 0 99)=false:=jEZ.2 ⟨_,L.mem_nth (l:=U.wk (nth (U.ji c) x)) (i:=z) (by omega),by rw[f];simp⟩;rw[jyz,this];simp
   .have f:(!U.ja (nth (U.wk (nth (U.ji c) x)) z) 0 99)=false:=f;by_cases e:j=z
    .subst e;exact(show U.ja (nth (U.wk (nth (U.ji c) x)) j) 0 99=true by simpa using f)
    .exact t.2 j (by omega)
  have a:¬(z:Int)<((U.wk (nth (U.ji c) x)).length:Int):=of_decide_eq_false a;have v:(U.wk (nth (U.ji c) x)).all (fun n=>U.ja n 0 99)=true:=jap (by omega) t.2;refine⟨L.in64 (by omega) (by omega),x+1,⟨⟨by simp,trivial⟩,trivial⟩,⟨by show x+1<=(U.ji c).length;omega,fun j k=> ?_⟩,by show(U.ji c).length-(x+1)<(U.ji c).length-x;omega⟩;by_cases e:j=x
  .subst e;show U.yy (U.la c) (nth (U.ji c) j)=true;rw[jyz,g,u,v];rfl
  .exact s.2 j (by omega)
 have h:¬(x:Int)<((U.ji c).length:Int):=of_decide_eq_false h;have A:(U.ji c).all (U.yy (U.la c))=true:=jap (by omega) s.2;refine⟨⟨0,⟨⟨rfl,trivial⟩,trivial⟩,jD6 _,fun j k=>by omega⟩,fun y q d=>⟨fun b=> ?_,fun b=> ?_⟩⟩
 .have d:(U.kB c).length<4611686018427387904:=d;have b:(y:Int)<((U.kB c).length:Int):=of_decide_eq_true b;have p:U.yX (nth (U.kB c) y)= !(!U.ja (U.jDC (nth (U.kB c) y)) 1 5|| !U.ja (U.jDe (nth (U.kB c) y)) 1 8):=by
   unfold U.yX;rw[Bool.not_or,Bool.not_not,Bool.not_not]
  refine⟨by omega,b,fun _=>by omega,fun _=>b,fun a=> ?_,fun a=>⟨L.in64 (by omega) (by omega),y+1,⟨⟨by simp,trivial⟩,trivial⟩,⟨by show y+1<=(U.kB c).length;omega,fun j k=> ?_⟩,by show(U.kB c).length-(y+1)<(U.kB c).length-y;omega⟩⟩
  .have a:(!U.ja (U.jDC (nth (U.kB c) y)) 1 5|| !U.ja (U.jDe (nth (U.kB c) y)) 1 8)=true:=a;exact jbj (c:=c) (juI (x:=y) (by omega) (by rw[p,a];rfl))
  .have a:(!U.ja (U.jDC (nth (U.kB c) y)) 1 5|| !U.ja (U.jDe (nth (U.kB c) y)) 1 8)=false:=a;by_cases e:j=y
   .subst e;show U.yX (nth (U.kB c) j)=true;rw[p,a];rfl
   .exact q.2 j (by omega)
 .have b:¬(y:Int)<((U.kB c).length:Int):=of_decide_eq_false b;have w:(U.kB c).all U.yX=true:=jap (by omega) q.2;show(true,())=(U.ju c,());rw[jic,B,A,w];rfl
theorem jgU:zk PR 59 jon:=wF jp0 jrK Tryz.func59 (kcC jgT kcN) koN
end Go.X
namespace Go.X
open Go.Proofs
def jol:jU:=⟨[.val .int,.val .int,.val .int],[.bool],false,fun _=>[],fun d=>(U.ja d.1 d.2.1 d.2.2.1,())⟩
def jnZ:Prop:=∀(d:Int×Int×Int×Unit),(decide (d.2.1<=d.1)&&decide (d.1<=d.2.2.1),())=(U.ja d.1 d.2.1 d.2.2.1,())
def jiL:jU:=⟨[.val tDy,.val .int],[.bool],false,fun _=>[],fun d=>(U.jwR d.1 d.2.1,())⟩
def jiw:Prop:=∀(d:DyD×Int×Unit),d.1.2.2.1.length<4611686018427387904->jD ((d.1.2.2.1.length:Int)-1)/\(U.ja d.2.1 (0:Int) ((d.1.2.2.1.length:Int)-1),())=(U.jwR d.1 d.2.1,())
def jkG:jU:=⟨[.val tDy,.val .int],[.bool],false,fun _=>[],fun d=>(U.jpk d.1 d.2.1,())⟩
def jkA:Prop:=∀(d:DyD×Int×Unit),d.1.1.2.1.length<4611686018427387904->jD ((d.1.1.2.1.length:Int)-1)/\(U.ja d.2.1 (0:Int) ((d.1.1.2.1.length:Int)-1),())=(U.jpk d.1 d.2.1,())
def jqH:jU:=⟨[.val tDy],[.bool],false,fun _=>[],fun d=>(U.zj d.1,())⟩
def jse:Ann:=fun r=>match r with
 |4=>some fun σ=>{X:=Nat,sl:=fun i=>[(3,.dat .int (i:Int))],ob:=fun _=>[],inv:=fun i=>i<=(U.jA (gb tDy σ 1)).length/\∀j:Nat,j<i->U.qB (U.jA (gb tDy σ 1)).length (nth (U.jA (gb tDy σ 1)) j)=true,mu:=fun i=>(U.jA (gb tDy σ 1)).length-i}
 |9=>some fun σ=>{X:=Nat,sl:=fun i=>[(4,.dat .int (i:Int))],ob:=fun _=>[],inv:=fun i=>i<=(nth (U.jA (gb tDy σ 1)) (gd .int σ 3).toNat).length/\∀j:Nat,j<i->U.jeQ (nth (nth (U.jA (gb tDy σ 1)) (gd .int σ 3).toNat) j)=true,mu:=fun i=>(nth (U.jA (gb tDy σ 1)) (gd .int σ 3).toNat).length-i}
 |15=>some fun σ=>{X:=Nat,sl:=fun i=>[(6,.dat .int (i:Int))],ob:=fun _=>[],inv:=fun i=>i<=(U.jp (gb tDy σ 1)).length/\∀j:Nat,j<i->U.jbu (U.jA (gb tDy σ 1)).length (nth (U.jp (gb tDy σ 1)) j)=true,mu:=fun i=>(U.jp (gb tDy σ 1)).length-i}
 |21=>some fun σ=>{X:=Nat,sl:=fun i=>[(8,.dat .int (i:Int))],ob:=fun _=>[],inv:=fun i=>i<=(U.jH (gb tDy σ 1)).length/\∀j:Nat,j<i->U.yx (U.jp (gb tDy σ 1)).length (U.ji (U.jf (gb tDy σ 1))).length (nth (U.jH (gb tDy σ 1)) j)=true,mu:=fun i=>(U.jH (gb tDy σ 1)).length-i}
 |_=>none
abbrev q106_4 (d:DyD×Unit)(x:Nat):=(nth d.1.2.1 (x:Int).toNat)
abbrev q106_2 (d:DyD×Unit)(x:Nat)(a:Nat):=(decide ((nth (q106_4 d x) (a:Int).toNat).1<0)||decide ((nth (q106_4 d x) (a:Int).toNat).2.1<(nth (q106_4 d x) (a:Int).toNat).1)||decide ((300:Int)<(nth (q106_4 d x) (a:Int).toNat).2.1))
abbrev q106_5 (d:DyD×Unit)(x:Nat):=(nth (U.jA d.1) (x:Int).toNat)
abbrev q106_6 (d:DyD×Unit):=(d.1.2.1.length:Int)
abbrev q106_7 (d:DyD×Unit)(x:Nat):=(nth d.1.2.2.2.2.2.1 (x:Int).toNat)
abbrev q106_0 (d:DyD×Unit)(x:Nat):=(!U.ja (q106_7 d x).1 (0:Int) (99:Int)|| !U.ja (q106_7 d x).2.1 (0:Int) (9999:Int)|| !U.ja (q106_7 d x).2.2.1 (1:Int) (2:Int)|| !U.jwR d.1 (q106_7 d x).2.2.2.1|| !U.jpk d.1 (q106_7 d x).2.2.2.2.1)
abbrev q106_8 (d:DyD×Unit):=(d.1.2.2.1.length:Int)
abbrev q106_9 (x:Nat)(a:Nat):=(((x:Int)+1=(a:Int)/\True)/\True)
abbrev q106_10 (d:DyD×Unit)(x:Nat):=(nth d.1.2.2.1 (x:Int).toNat)
abbrev q106_1 (d:DyD×Unit)(x:Nat):=(!U.ja (q106_10 d x).2.1 (0:Int) ((q106_6 d)-1)||decide ((q106_10 d x).2.2.1<0)||decide ((q106_10 d x).2.2.2.1<=(q106_10 d x).2.2.1)||decide ((1440:Int)<(q106_10 d x).2.2.2.1))
abbrev q106_11 (d:DyD×Unit)(x:Nat):=(↑(q106_4 d x).length:Int)
abbrev q106_12 (d:DyD×Unit):=(d.1.2.2.2.2.2.1.length:Int)
abbrev q106_3 (d:DyD×Unit):=(decide (4<(q106_8 d))|| !U.ja (q106_6 d) (1:Int) (5:Int)|| !U.ja d.1.2.2.2.1 (0:Int) (300:Int)|| !U.ja d.1.2.2.2.2.1 (0:Int) (1440:Int)||decide (30<(q106_12 d)))
abbrev q106_13 (x:Nat):=((0=(x:Int)/\True)/\True)
def jql:Prop:=∀(d:DyD×Unit),d.1.2.2.1.length<4611686018427387904->((!decide (4<(q106_8 d)))=true->d.1.2.1.length<4611686018427387904)->((!(decide (4<(q106_8 d))|| !U.ja (q106_6 d) (1:Int) (5:Int)|| !U.ja d.1.2.2.2.1 (0:Int) (300:Int)|| !U.ja d.1.2.2.2.2.1 (0:Int) (1440:Int)))=true->d.1.2.2.2.2.2.1.length<4611686018427387904)->((q106_3 d)=true->(false,())=(U.zj d.1,()))/\((q106_3 d)=false->(∃(x:Nat),(q106_13 x)/\x<=(U.jA d.1).length/\∀(j:Nat),j<x->U.qB (U.jA d.1).length (nth (U.jA d.1) j)=true)/\∀(x:Nat),(x<=(U.jA d.1).length/\∀(j:Nat),j<x->U.qB (U.jA d.1).length (nth (U.jA d.1) j)=true)->d.1.2.1.length<4611686018427387904->(decide ((x:Int)<(q106_6 d))=true->0<=(x:Int)/\(x:Int)<(q106_6 d)/\(decide ((q106_11 d x)≠(q106_6 d))=true->(false,())=(U.zj d.1,()))/\(decide ((q106_11 d x)≠(q106_6 d))=false->(∃(a:Nat),((0=(a:Int)/\True)/\True)/\a<=(q106_5 d x).length/\∀(j:Nat),j<a->U.jeQ (nth (q106_5 d x) j)=true)/\∀(a:Nat),(a<=(q106_5 d x).length/\∀(j:Nat),j<a->U.jeQ (nth (q106_5 d x) j)=true)->0<=(x:Int)/\(x:Int)<(q106_6 d)/\((q106_4 d x).length<4611686018427387904->(decide ((a:Int)<(q106_11 d x))=true->0<=(x:Int)/\(x:Int)<(q106_6 d)/\0<=(a:Int)/\(a:Int)<(q106_11 d x)/\((q106_2 d x a)=true->(false,())=(U.zj d.1,()))/\((q106_2 d x a)=false->jD ((a:Int)+1)/\∃(b:Nat),(((a:Int)+1=(b:Int)/\True)/\True)/\(b<=(q106_5 d x).length/\∀(j:Nat),j<b->U.jeQ (nth (q106_5 d x) j)=true)/\(q106_5 d x).length-b<(q106_5 d x).length-a))/\(decide ((a:Int)<(q106_11 d x))=false->jD ((x:Int)+1)/\∃(b:Nat),(q106_9 x b)/\(b<=(U.jA d.1).length/\∀(j:Nat),j<b->U.qB (U.jA d.1).length (nth (U.jA d.1) j)=true)/\(U.jA d.1).length-b<(U.jA d.1).length-x))))/\(decide ((x:Int)<(q106_6 d))=false->(∃(x:Nat),(q106_13 x)/\x<=(U.jp d.1).length/\∀(j:Nat),j<x->U.jbu (U.jA d.1).length (nth (U.jp d.1) j)=true)/\∀(x:Nat),(x<=(U.jp d.1).length/\∀(j:Nat),j<x->U.jbu (U.jA d.1).length (nth (U.jp d.1) j)=true)->d.1.2.2.1.length<4611686018427387904->(decide ((x:Int)<(q106_8 d))=true->0<=(x:Int)/\(x:Int)<(q106_8 d)/\(d.1.2.1.length<4611686018427387904->jD ((q106_6 d)-1)/\((q106_1 d x)=true->(false,())=(U.zj d.1,()))/\((q106_1 d x)=false->jD ((x:Int)+1)/\∃(b:Nat),(q106_9 x b)/\(b<=(U.jp d.1).length/\∀(j:Nat),j<b->U.jbu (U.jA d.1).length (nth (U.jp d.1) j)=true)/\(U.jp d.1).length-b<(U.jp d.1).length-x)))/\(decide ((x:Int)<(q106_8 d))=false->(∃(x:Nat),(q106_13 x)/\x<=(U.jH d.1).length/\∀(j:Nat),j<x->U.yx (U.jp d.1).length (U.ji (U.jf d.1)).length (nth (U.jH d.1) j)=true)/\∀(x:Nat),(x<=(U.jH d.1).length/\∀(j:Nat),j<x->U.yx (U.jp d.1).length (U.ji (U.jf d.1)).length (nth (U.jH d.1) j)=true)->d.1.2.2.2.2.2.1.length<4611686018427387904->(decide ((x:Int)<(q106_12 d))=true->0<=(x:Int)/\(x:Int)<(q106_12 d)/\((q106_0 d x)=true->(false,())=(U.zj d.1,()))/\((q106_0 d x)=false->jD ((x:Int)+1)/\∃(b:Nat),(q106_9 x b)/\(b<=(U.jH d.1).length/\∀(j:Nat),j<b->U.yx (U.jp d.1).length (U.ji (U.jf d.1)).length (nth (U.jH d.1) j)=true)/\(U.jH d.1).length-b<(U.jH d.1).length-x))/\(decide ((x:Int)<(q106_12 d))=false->(true,())=(U.zj d.1,())))))
def jqG:jU:=⟨[.val (.slice tSh)],[.bool],false,fun d=>[d.1.length<=1000000],fun d=>(U.kM d.1,())⟩
def jsd:Ann:=fun r=>match r with
 |2=>some fun σ=>{X:=Nat,sl:=fun i=>[(3,.dat .int (i:Int))],ob:=fun _=>[],inv:=fun i=>i<=(gd (.slice tSh) σ 0).length/\U.wO (gd (.slice tSh) σ 0) i=false,mu:=fun i=>(gd (.slice tSh) σ 0).length-i}
 |5=>some fun σ=>{X:=Nat,sl:=fun i=>[(4,.dat .int (i:Int))],ob:=fun _=>[],inv:=fun i=>i<=(gd .int σ 3).toNat/\∀j:Nat,j<i->U.jkg (nth (gd (.slice tSh) σ 0) (gd .int σ 3).toNat) (nth (gd (.slice tSh) σ 0) j)=false,mu:=fun i=>(gd .int σ 3).toNat-i}
 |_=>none
abbrev q107_0 (d:List ShD×Unit)(x:Nat)(a:Nat):=((nth d.1 (x:Int).toNat).1=(nth d.1 (a:Int).toNat).1)
def jqk:Prop:=∀(d:List ShD×Unit),d.1.length<=1000000->(∃(x:Nat),((0=(x:Int)/\True)/\True)/\x<=d.1.length/\U.wO d.1 x=false)/\∀(x:Nat),x<=d.1.length/\U.wO d.1 x=false->d.1.length<4611686018427387904->(decide ((x:Int)<(d.1.length:Int))=true->(∃(a:Nat),((0=(a:Int)/\True)/\True)/\a<=(x:Int).toNat/\∀(j:Nat),j<a->U.jkg (nth d.1 (x:Int).toNat) (nth d.1 j)=false)/\∀(a:Nat),(a<=(x:Int).toNat/\∀(j:Nat),j<a->U.jkg (nth d.1 (x:Int).toNat) (nth d.1 j)=false)->(decide ((a:Int)<(x:Int))=true->0<=(x:Int)/\(x:Int)<(d.1.length:Int)/\0<=(a:Int)/\(a:Int)<(d.1.length:Int)/\(decide (q107_0 d x a)=true->0<=(x:Int))/\(decide (q107_0 d x a)=true->(x:Int)<(d.1.length:Int))/\(decide (q107_0 d x a)=true->0<=(a:Int))/\(decide (q107_0 d x a)=true->(a:Int)<(d.1.length:Int))/\((decide (q107_0 d x a)&& !decide (nth d.1 (x:Int).toNat=nth d.1 (a:Int).toNat))=true->(true,())=(U.kM d.1,()))/\((decide (q107_0 d x a)&& !decide (nth d.1 (x:Int).toNat=nth d.1 (a:Int).toNat))=false->jD ((a:Int)+1)/\∃(b:Nat),(((a:Int)+1=(b:Int)/\True)/\True)/\(b<=(x:Int).toNat/\∀(j:Nat),j<b->U.jkg (nth d.1 (x:Int).toNat) (nth d.1 j)=false)/\(x:Int).toNat-b<(x:Int).toNat-a))/\(decide ((a:Int)<(x:Int))=false->jD ((x:Int)+1)/\∃(b:Nat),(((x:Int)+1=(b:Int)/\True)/\True)/\(b<=d.1.length/\U.wO d.1 b=false)/\d.1.length-b<d.1.length-x))/\(decide ((x:Int)<(d.1.length:Int))=false->(false,())=(U.kM d.1,()))
def jqI:jU:=⟨[.val tDy],[.int],false,fun d=>[(U.jp d.1).length<=1000000],fun d=>(U.wH d.1,())⟩
def jsf:Ann:=fun r=>match r with
 |4=>some fun σ=>{X:=Nat,sl:=fun i=>[(3,.dat .int (i:Int))],ob:=fun _=>[],inv:=fun i=>i<=(U.jp (gb tDy σ 1)).length/\∀j:Nat,j<i->U.zx (U.jf (gb tDy σ 1)) (U.jfJ (nth (U.jp (gb tDy σ 1)) j))=true,mu:=fun i=>(U.jp (gb tDy σ 1)).length-i}
 |_=>none
def jqm:Prop:=∀(d:DyD×Unit),(U.jp d.1).length<=1000000->((!U.ju d.1.1)=true->((30:Int),())=(U.wH d.1,()))/\((!U.ju d.1.1)=false->(∃(x:Nat),((0=(x:Int)/\True)/\True)/\x<=(U.jp d.1).length/\∀(j:Nat),j<x->U.zx (U.jf d.1) (U.jfJ (nth (U.jp d.1) j))=true)/\∀(x:Nat),(x<=(U.jp d.1).length/\∀(j:Nat),j<x->U.zx (U.jf d.1) (U.jfJ (nth (U.jp d.1) j))=true)->d.1.2.2.1.length<4611686018427387904->(decide ((x:Int)<(d.1.2.2.1.length:Int))=true->0<=(x:Int)/\(x:Int)<(d.1.2.2.1.length:Int)/\U.ju d.1.1=true/\((!U.zx d.1.1 (nth d.1.2.2.1 (x:Int).toNat).1)=true->((31:Int),())=(U.wH d.1,()))/\((!U.zx d.1.1 (nth d.1.2.2.1 (x:Int).toNat).1)=false->jD ((x:Int)+1)/\∃(a:Nat),(((x:Int)+1=(a:Int)/\True)/\True)/\(a<=(U.jp d.1).length/\∀(j:Nat),j<a->U.zx (U.jf d.1) (U.jfJ (nth (U.jp d.1) j))=true)/\(U.jp d.1).length-a<(U.jp d.1).length-x))/\(decide ((x:Int)<(d.1.2.2.1.length:Int))=false->((!U.zj d.1)=true->((50:Int),())=(U.wH d.1,()))/\((!U.zj d.1)=false->d.1.2.2.2.2.2.1.length<=1000000/\(U.kM d.1.2.2.2.2.2.1=true->((51:Int),())=(U.wH d.1,()))/\(U.kM d.1.2.2.2.2.2.1=false->((0:Int),())=(U.wH d.1,())))))
end Go.X
namespace Go.X
open Go.Proofs
theorem jrI:jnZ:=by
 rintro⟨n,a,b,⟨⟩⟩;rfl
theorem jbt:zk PR 40 jol:=jN jrI Tryz.func40 kcN koN
theorem jk1:jiw:=by
 rintro⟨d,n,⟨⟩⟩ a;have a:(U.jp d).length<4611686018427387904:=a;exact⟨by show jD (((U.jp d).length:Int)-1);exact L.in64 (by omega) (by omega),rfl⟩
theorem jje:zk PR 12 jiL:=jN jk1 Tryz.func12 (kcC jbt kcN) koN
theorem jng:jkA:=by
 rintro⟨d,n,⟨⟩⟩ a;have a:(U.ji (U.jf d)).length<4611686018427387904:=a;exact⟨by show jD (((U.ji (U.jf d)).length:Int)-1);exact L.in64 (by omega) (by omega),rfl⟩
theorem jkQ:zk PR 26 jkG:=jN jng Tryz.func26 (kcC jbt kcN) koN
theorem jpV (l:List ShD) (n:Nat):U.wO l (n+1)=(U.wO l n||U.jid l n):=by
 unfold U.wO;rw[jEJ,List.any_append];simp
theorem jnv {l:List ShD} {i:Nat} (h:∀j:Nat,j<i->U.jkg (nth l i) (nth l j)=false) (hi:i<=l.length):U.jid l i=false:=by
 unfold U.jid;rw[jEH];intro s a;rw[jEE] at a;obtain⟨j,b,rfl⟩:=a;have:=h j (by omega);rw[L.nth_lt (l:=l) (i:=j) (by omega)] at this;simpa using this
theorem juK {l:List ShD} {i j:Nat} (hi:i<l.length) (a:j<i) (h:U.jkg (nth l i) (nth l j)=true):U.kM l=true:=by
 unfold U.kM U.wO U.jid;rw[jES];refine⟨i,jEg.2 hi,?_⟩;rw[jES];refine⟨nth l j,?_,h⟩;rw[jEE];exact⟨j,by omega,(L.nth_lt (by omega)).symm⟩
theorem juj:jqk:=by
 unfold jqk q107_0;rintro⟨l,⟨⟩⟩ k;have k:l.length<=1000000:=k;refine⟨⟨0,⟨⟨rfl,trivial⟩,trivial⟩,jD6 _,rfl⟩,fun x m _=>⟨fun h=> ?_,fun h=> ?_⟩⟩
 .have h:(x:Int)<(l.length:Int):=of_decide_eq_true h;obtain⟨_,a⟩:x<=l.length/\U.wO l x=false:=m;refine⟨⟨0,⟨⟨rfl,trivial⟩,trivial⟩,jD6 _,fun j o=>by omega⟩,fun y n=>⟨fun c=> ?_,fun c=> ?_⟩⟩
  .have c:(y:Int)<(x:Int):=of_decide_eq_true c;obtain⟨_,b⟩:y<=x/\∀j:Nat,j<y->U.jkg (nth l x) (nth l j)=false:=n;have f:(y:Int)<(l.length:Int):=(by omega);refine⟨by omega,h,by omega,f,fun _=>by omega,fun _=>h,fun _=>by omega,fun _=>f,fun d=> ?_,fun d=>⟨L.in64 (by omega) (by omega),y+1,⟨⟨by simp,trivial⟩,trivial⟩,⟨by show y+1<=x;omega,fun j o=> ?_⟩,by show x-(y+1)<x-y;omega⟩⟩
   .have d:U.jkg (nth l x) (nth l y)=true:=d;have:=juK (by omega) (by omega) d;show(true,())=(U.kM l,());rw[this]
   .by_cases e:j=y
    .subst e;exact d
    .exact b j (by omega)
  .have c:¬(y:Int)<(x:Int):=of_decide_eq_false c;obtain⟨q,b⟩:y<=x/\∀j:Nat,j<y->U.jkg (nth l x) (nth l j)=false:=n;have i:y=x:=(by omega);subst i;refine⟨L.in64 (by omega) (by omega),y+1,⟨⟨by simp,trivial⟩,trivial⟩,⟨by show y+1<=l.length;omega,?_⟩,by show l.length-(y+1)<l.length-y;omega⟩;show U.wO l (y+1)=false;rw[jpV,a,jnv b (by omega)];rfl
 .have h:¬(x:Int)<(l.length:Int):=of_decide_eq_false h;obtain⟨p,a⟩:x<=l.length/\U.wO l x=false:=m;have g:x=l.length:=(by omega);subst g;show(false,())=(U.kM l,());unfold U.kM;rw[a]
theorem jri:zk PR 62 jqG:=wF jsd juj Tryz.func62 kcN koN
theorem jul:jqm:=by
 rintro⟨d,⟨⟩⟩ k;have k:(U.jp d).length<=1000000:=k;refine⟨fun h=> ?_,fun h=> ?_⟩
 .have h:U.ju (U.jf d)=false:=(by simpa using(show(!U.ju (U.jf d))=true from h));show((30:Int),())=(U.wH d,());unfold U.wH;rw[h];rfl
 have g:U.ju (U.jf d)=true:=(by simpa using(show(!U.ju (U.jf d))=false from h));refine⟨⟨0,⟨⟨rfl,trivial⟩,trivial⟩,jD6 _,fun j f=>by omega⟩,fun x m _=>⟨fun h=> ?_,fun h=> ?_⟩⟩
 .have h:(x:Int)<((U.jp d).length:Int):=of_decide_eq_true h;refine⟨by omega,h,g,fun a=> ?_,fun a=>⟨L.in64 (by omega) (by omega),x+1,⟨⟨by simp,trivial⟩,trivial⟩,⟨by show x+1<=(U.jp d).length;omega,fun j f=> ?_⟩,by show(U.jp d).length-(x+1)<(U.jp d).length-x;omega⟩⟩
  .have a:U.zx (U.jf d) (U.jfJ (nth (U.jp d) x))=false:=(by simpa using(show(!U.zx (U.jf d) (U.jfJ (nth (U.jp d) x)))=true from a));have f:U.juc d=false:=by
    unfold U.juc;exact jEZ.2 ⟨_,L.mem_nth (l:=U.jp d) (i:=x) (by omega),by rw[a];simp⟩
   show((31:Int),())=(U.wH d,());unfold U.wH;rw[g,f];rfl
  .have a:U.zx (U.jf d) (U.jfJ (nth (U.jp d) x))=true:=(by simpa using(show(!U.zx (U.jf d) (U.jfJ (nth (U.jp d) x)))=false from a));by_cases e:j=x
   .subst e;exact a
   .exact m.2 j (by omega)
 .have h:¬(x:Int)<((U.jp d).length:Int):=of_decide_eq_false h;have f:U.juc d=true:=jap (p:=fun b=>U.zx (U.jf d) (U.jfJ b)) (by omega) m.2;refine⟨fun a=> ?_,fun a=> ?_⟩
  .have a:U.zj d=false:=(by simpa using(show(!U.zj d)=true from a));show((50:Int),())=(U.wH d,());unfold U.wH;rw[g,f,a];rfl
  .have a:U.zj d=true:=(by simpa using(show(!U.zj d)=false from a));have n:(U.jH d).length<=30:=(j7 a).2.2.2.2.1;refine⟨by show(U.jH d).length<=1000000;omega,fun c=> ?_,fun c=> ?_⟩
   .have c:U.kM (U.jH d)=true:=c;show((51:Int),())=(U.wH d,());unfold U.wH;rw[g,f,a,c];rfl
   .have c:U.kM (U.jH d)=false:=c;show((0:Int),())=(U.wH d,());unfold U.wH;rw[g,f,a,c];rfl
end Go.X
namespace Go.X
open Go.Proofs
end Go.X
namespace Go.X
open Go.Proofs
end Go.X
namespace Go.X
open Go.Proofs
def jCI (d:DyD):Bool:=decide (4<((U.jp d).length:Int))|| !U.ja ((U.jA d).length:Int) 1 5|| !U.ja (U.joz d) 0 300|| !U.ja (U.jyT d) 0 1440||decide (30<((U.jH d).length:Int))
def spH (s:SpD):Bool:=decide (U.lo s<0)||decide (U.hi s<U.lo s)||decide (300<U.hi s)
def bkH (n:Nat) (b:BkD):Bool:= !U.ja (U.jBy b) 0 ((n:Int)-1)||decide (U.jdR b<0)||decide (U.jzC b<=U.jdR b)||decide (1440<U.jzC b)
def shH (d:DyD) (s:ShD):Bool:= !U.ja (U.zJ s) 0 99|| !U.ja (U.jh0 s) 0 9999|| !U.ja (U.jqT s) 1 2|| !U.jwR d (U.w4 s)|| !U.jpk d (U.zZ s)
theorem jxA (d:DyD):U.zj d=(!jCI d&&((U.jA d).all (U.qB (U.jA d).length)&&((U.jp d).all (U.jbu (U.jA d).length)&&(U.jH d).all (U.yx (U.jp d).length (U.ji (U.jf d)).length)))):=by
 unfold U.zj jCI;congr 1;rw[jEs];simp only[U.ja,jEl,jEh,decide_eq_false_iff_not,jEN,jDV,decide_eq_true_eq];omega
theorem jzW (s:SpD):U.jeQ s= !spH s:=by
 unfold U.jeQ spH;rw[jEs];simp only[jEl,jEh,decide_eq_false_iff_not,decide_eq_true_eq];omega
theorem jAh (n:Nat) (b:BkD):U.jbu n b= !bkH n b:=by
 unfold U.jbu bkH;rw[jEs];simp only[U.ja,jEl,jEh,decide_eq_false_iff_not,jEN,jDV,decide_eq_true_eq];omega
theorem jzY (d:DyD) (s:ShD):U.yx (U.jp d).length (U.ji (U.jf d)).length s= !shH d s:=by
 unfold U.yx shH U.jwR U.jpk;rw[jEs];simp only[U.ja,jEl,jEh,decide_eq_false_iff_not,jEN,jDV,decide_eq_true_eq];omega
theorem jpO {d:DyD} (h:jCI d=true\/(U.jA d).all (U.qB (U.jA d).length)=false\/(U.jp d).all (U.jbu (U.jA d).length)=false\/(U.jH d).all (U.yx (U.jp d).length (U.ji (U.jf d)).length)=false):(false,())=(U.zj d,()):=by
 have:U.zj d=false:=by
  rw[jxA];rcases h with h|h|h|h<;>rw[h]<;>simp
 rw[this]
theorem jp2 {α:Type} [Inhabited α] {l:List α} {p:α->Bool} {x:Nat} (a:x<l.length) (h:p (nth l x)=false):l.all p=false:=jEZ.2 ⟨_,L.mem_nth a,by rw[h];simp⟩
theorem juk:jql:=by
 unfold jql q106_13 q106_3 q106_12 q106_11 q106_1 q106_10 q106_9 q106_8 q106_0 q106_7 q106_6 q106_5 q106_2 q106_4;rintro⟨d,⟨⟩⟩ _ _ _;refine⟨fun h=>jpO (d:=d) (.inl h),fun k=> ?_⟩;have k:jCI d=false:=k;have l:=k;unfold jCI at l;simp only[U.ja,jEh,decide_eq_false_iff_not,jEN,jDV,decide_eq_true_eq] at l;refine⟨⟨0,⟨⟨rfl,trivial⟩,trivial⟩,jD6 _,fun j g=>by omega⟩,fun x c _=>⟨fun h=> ?_,fun h=> ?_⟩⟩
 .have h:(x:Int)<((U.jA d).length:Int):=of_decide_eq_true h;have b:x<(U.jA d).length:=(by omega);refine⟨by omega,h,fun a=> ?_,fun a=>⟨⟨0,⟨⟨rfl,trivial⟩,trivial⟩,jD6 _,fun j g=>by omega⟩,fun y n=>⟨by omega,h,fun m=>⟨fun i=> ?_,fun i=> ?_⟩⟩⟩⟩
  .have a:¬((nth (U.jA d) x).length:Int)=((U.jA d).length:Int):=of_decide_eq_true a;refine jpO (d:=d) (.inr (.inl (jp2 b ?_)));unfold U.qB;rw[decide_eq_false (by omega)];rfl
  .have m:(nth (U.jA d) x).length<4611686018427387904:=m;have i:(y:Int)<((nth (U.jA d) x).length:Int):=of_decide_eq_true i;refine⟨by omega,h,by omega,i,fun f=> ?_,fun f=>⟨L.in64 (by omega) (by omega),y+1,⟨⟨by simp,trivial⟩,trivial⟩,⟨by show y+1<=(nth (U.jA d) x).length;omega,fun j g=> ?_⟩,by show(nth (U.jA d) x).length-(y+1)<(nth (U.jA d) x).length-y;omega⟩⟩
   .have f:spH (nth (nth (U.jA d) x) y)=true:=f;refine jpO (d:=d) (.inr (.inl (jp2 b ?_)));have:(nth (U.jA d) x).all U.jeQ=false:=jp2 (x:=y) (by omega) (by rw[jzW,f];rfl);unfold U.qB;rw[this,Bool.and_false]
   .have f:spH (nth (nth (U.jA d) x) y)=false:=f;by_cases e:j=y
    .subst e;show U.jeQ (nth (nth (U.jA d) x) j)=true;rw[jzW,f];rfl
    .exact n.2 j (by omega)
  .have i:¬(y:Int)<((nth (U.jA d) x).length:Int):=of_decide_eq_false i;have a:((nth (U.jA d) x).length:Int)=((U.jA d).length:Int):=Classical.not_not.1 (of_decide_eq_false a);have o:(nth (U.jA d) x).all U.jeQ=true:=jap (by omega) n.2;refine⟨L.in64 (by omega) (by omega),x+1,⟨⟨by simp,trivial⟩,trivial⟩,⟨by show x+1<=(U.jA d).length;omega,fun j g=> ?_⟩,by show(U.jA d).length-(x+1)<(U.jA d).length-x;omega⟩;by_cases e:j=x
   .subst e;show U.qB (U.jA d).length (nth (U.jA d) j)=true;unfold U.qB;rw[o,decide_eq_true (by omega)];rfl
   .exact c.2 j (by omega)
 have h:¬(x:Int)<((U.jA d).length:Int):=of_decide_eq_false h;have r:(U.jA d).all (U.qB (U.jA d).length)=true:=jap (by omega) c.2;clear c h;refine⟨⟨0,⟨⟨rfl,trivial⟩,trivial⟩,jD6 _,fun j g=>by omega⟩,fun x c _=>⟨fun h=> ?_,fun h=> ?_⟩⟩
 .have h:(x:Int)<((U.jp d).length:Int):=of_decide_eq_true h;have b:x<(U.jp d).length:=(by omega);refine⟨by omega,h,fun _=>⟨by show jD (((U.jA d).length:Int)-1);exact L.in64 (by omega) (by omega),fun a=> ?_,fun a=>⟨L.in64 (by omega) (by omega),x+1,⟨⟨by simp,trivial⟩,trivial⟩,⟨by show x+1<=(U.jp d).length;omega,fun j g=> ?_⟩,by show(U.jp d).length-(x+1)<(U.jp d).length-x;omega⟩⟩⟩
  .have a:bkH (U.jA d).length (nth (U.jp d) x)=true:=a;exact jpO (d:=d) (.inr (.inr (.inl (jp2 b (by rw[jAh,a];rfl)))))
  .have a:bkH (U.jA d).length (nth (U.jp d) x)=false:=a;by_cases e:j=x
   .subst e;show U.jbu (U.jA d).length (nth (U.jp d) j)=true;rw[jAh,a];rfl
   .exact c.2 j (by omega)
 have h:¬(x:Int)<((U.jp d).length:Int):=of_decide_eq_false h;have p:(U.jp d).all (U.jbu (U.jA d).length)=true:=jap (by omega) c.2;clear c h;refine⟨⟨0,⟨⟨rfl,trivial⟩,trivial⟩,jD6 _,fun j g=>by omega⟩,fun x c _=>⟨fun h=> ?_,fun h=> ?_⟩⟩
 .have h:(x:Int)<((U.jH d).length:Int):=of_decide_eq_true h;have b:x<(U.jH d).length:=(by omega);refine⟨by omega,h,fun a=> ?_,fun a=>⟨L.in64 (by omega) (by omega),x+1,⟨⟨by simp,trivial⟩,trivial⟩,⟨by show x+1<=(U.jH d).length;omega,fun j g=> ?_⟩,by show(U.jH d).length-(x+1)<(U.jH d).length-x;omega⟩⟩
  .have a:shH d (nth (U.jH d) x)=true:=a;exact jpO (d:=d) (.inr (.inr (.inr (jp2 b (by rw[jzY,a];rfl)))))
  .have a:shH d (nth (U.jH d) x)=false:=a;by_cases e:j=x
   .subst e;show U.yx (U.jp d).length (U.ji (U.jf d)).length (nth (U.jH d) j)=true;rw[jzY,a];rfl
   .exact c.2 j (by omega)
 .have h:¬(x:Int)<((U.jH d).length:Int):=of_decide_eq_false h;have q:(U.jH d).all (U.yx (U.jp d).length (U.ji (U.jf d)).length)=true:=jap (by omega) c.2;show(true,())=(U.zj d,());rw[jxA,k,r,p,q];rfl
theorem jrj:zk PR 61 jqH:=wF jse juk Tryz.func61 (kcC jbt (kcC jje (kcC jkQ kcN))) koN
theorem jjf:zk PR 32 jqI:=wF jsf jul Tryz.func32 (kcC jgU (kcC jrk (kcC jrj (kcC jri kcN)))) koN
end Go.X
namespace Go.X
open Go.Proofs
namespace U
def jwK (l:List ShD) (i n:Nat):Bool:=decide (jqT (nth l i)=1)&& !((l.take n).any (fun t=>decide (w4 t=w4 (nth l i))&&decide (zZ t=zZ (nth l i))&&kS t (nth l i)))
def jzQ (l:List ShD) (n:Nat):List ShD:=((List.range n).filter (fun i=>jwK l i l.length)).map (nth l)
def jcK (l:List ShD) (n:Nat):Nat:=(List.range n).foldl (fun f i=>if kS (nth l f) (nth l i)=true then i else f) 0
def wv (l:List ShD):Nat->List ShD×List ShD
 |0=>([],l)
 |n+1=>((wv l n).1++[nth (wv l n).2 (jcK (wv l n).2 (wv l n).2.length)],(wv l n).2.take (jcK (wv l n).2 (wv l n).2.length)++(wv l n).2.drop (jcK (wv l n).2 (wv l n).2.length+1))
def jd6 (d:DyD):List ShD:=jzQ (gn (jH d)) (gn (jH d)).length
def jp8 (d:DyD):List ShD:=(wv (jd6 d) (jd6 d).length).1
def jn7 (d:DyD) (n:Nat):List Int×List Int:=((jp8 d).take n).foldl (jbW d) (List.replicate (jp d).length 0,[])
def jcF (d:DyD):List Int×List Int:=jn7 d (jp8 d).length
end U
end Go.X
namespace Go.X
open Go.Proofs
end Go.X
namespace Go.X
theorem jlE (l:List ShD) (n:Nat):U.jcK l (n+1)=if U.kS (nth l (U.jcK l n)) (nth l n)=true then n else U.jcK l n:=by
 unfold U.jcK;rw[jEJ,jEv];rfl
theorem jh5 (l:List ShD):∀n,n<=l.length->0<l.length->U.jcK l n<l.length
 |0,_,h=>h
 |n+1,a,h=>by
  have b:=jh5 l n (by omega) h
  rw[jlE]
  split<;>omega
theorem jh1 (l:List ShD):∀n,n<=l.length->(U.wv l n).1.length=n/\(U.wv l n).2.length=l.length-n
 |0,_=>⟨rfl,rfl⟩
 |n+1,d=>by
  obtain⟨a,b⟩:=jh1 l n (by omega)
  have c:=jh5 (U.wv l n).2 _ (jDW _) (by omega)
  refine⟨?_,?_⟩
  .show((U.wv l n).1++[_]).length=_
   rw[jEd,a];rfl
  .show((U.wv l n).2.take _++(U.wv l n).2.drop _).length=_
   rw[jEd,jEp,jFb]
   omega
theorem jzs {α:Type} [Inhabited α] {l:List α} {m:Nat} (h:m<l.length):(nth l m::(l.take m++l.drop (m+1))).Perm l:=by
 have e:l=l.take m++nth l m::l.drop (m+1):=by
  conv=>lhs;rw[<-jFc m l]
  rw[List.drop_eq_getElem_cons h,L.nth_lt h]
 conv=>rhs;rw[e]
 exact List.perm_middle.symm
theorem jiP (l:List ShD):∀n,n<=l.length->((U.wv l n).1++(U.wv l n).2).Perm l
 |0,_=>List.Perm.refl _
 |n+1,d=>by
  have b:=jiP l n (by omega)
  have c:=jh1 l n (by omega)
  have a:=jh5 (U.wv l n).2 _ (jDW _) (by omega)
  refine List.Perm.trans ?_ b
  show((U.wv l n).1++[nth (U.wv l n).2 (U.jcK (U.wv l n).2 (U.wv l n).2.length)]++_).Perm _
  rw[jEb]
  exact List.Perm.append_left _ (jzs a)
theorem jyl {d:DyD} {n:Nat} (h:n<(U.jp8 d).length):U.jn7 d (n+1)=U.jbW d (U.jn7 d n) (nth (U.jp8 d) n):=by
 unfold U.jn7;rw[L.take_succ h,jEv];rfl
theorem jqd {d:DyD} {s:ShD} (h:s∈U.jp8 d):s∈U.gn (U.jH d):=by
 have b:=jiP (U.jd6 d) (U.jd6 d).length (jDW _);have a:s∈U.jd6 d:=b.mem_iff.1 (jDS _ h);unfold U.jd6 U.jzQ at a;obtain⟨i,hi,rfl⟩:=jEx.1 a;exact L.mem_nth (jEg.1 (jEa.1 hi).1)
theorem we {l:List ShD} {s:ShD} (h:s∈U.gn l):s∈l:=by
 unfold U.gn U.jrZ at h;obtain⟨m,_,h⟩:=List.mem_flatMap.1 h;unfold U.jzD at h;obtain⟨i,hi,rfl⟩:=jEx.1 h;exact L.mem_nth (jEg.1 (jEa.1 hi).1)
end Go.X
namespace Go.X
open Go.Proofs
attribute [local irreducible] U.jp8 U.jn7 U.qY U.on
end Go.X
namespace Go.X
theorem jl7 (c:CrD) (j:JbD) (i:Nat):(U.wj (c,j,U.jyU c j,()) (nth (U.ji c) i)=0)↔U.jao c j (i:Int)=true:=by
 show U.jtD (U.jve (nth (U.ji c) i) (U.jBT j)) (!U.wG (U.fd (nth (U.ji c) i)) (U.jBS j)) (!U.wG (U.cl (nth (U.ji c) i)) (U.jBR j))=0↔
  (!(U.jve (nth (U.ji c) ((i:Int)).toNat) (U.jBT j))&&U.wG (U.fd (nth (U.ji c) ((i:Int)).toNat)) (U.jBS j)&&U.wG (U.cl (nth (U.ji c) ((i:Int)).toNat)) (U.jBR j))=true
 rw[jD0];generalize U.jve (nth (U.ji c) i) (U.jBT j)=x;generalize U.wG (U.fd (nth (U.ji c) i)) (U.jBS j)=y;generalize U.wG (U.cl (nth (U.ji c) i)) (U.jBR j)=z;cases x<;>cases y<;>cases z<;>decide
theorem jA1 {c:CrD} {j:JbD} (b:U.ju c=true) (d:U.zx c j=true) (p:Nat):(p:Int)∈U.yf c j↔p<(U.ji c).length/\U.jao c j (p:Int)=true:=by
 have a:U.zO c j=0:=(by unfold U.zO;rw[b,d];rfl);unfold U.yf U.vI;rw[if_pos a,jEx];refine⟨fun⟨i,hi,e⟩=> ?_,fun h=>⟨p,?_,rfl⟩⟩
 .have e:i=p:=(by omega);subst e;have:=jEa.1 hi;exact⟨jEg.1 this.1,(jl7 c j i).1 (of_decide_eq_true this.2)⟩
 .exact jEa.2 ⟨jEg.2 h.1,decide_eq_true ((jl7 c j p).2 h.2)⟩
theorem jvD {l:List Int} (h:∀p∈l,0<=p/\p<8):∀n,n<=l.length->∀q,BT.has (U.jaw l n) q=(l.take n).any (fun p=>decide (p.toNat=q))
 |0,_,q=>BT.has_zero q
 |n+1,c,q=>by
  have b:=jvD h n (by omega) q
  have a:=jdf h n (by omega)
  have d:=h _ (L.mem_nth (l:=l) (i:=n) (by omega))
  rw[jf3 (by omega),jbn,BT.has_bor a.1 (BT.two_set (by omega)),b,BT.has_two,L.take_succ (by omega),List.any_append]
  simp
theorem jvE {l:List Int} (h:∀p∈l,0<=p/\p<8) (q:Nat):BT.has (U.jst l) q=l.any (fun p=>decide (p.toNat=q)):=by
 have:=jvD h l.length (jDW _) q;rw[jEK] at this;exact this
theorem jyO {d:DyD} {b:Nat} (a:b<(U.jp d).length):nth (U.zU d (U.jp d).length) b=U.jst (U.yf (U.jf d) (U.jfJ (nth (U.jp d) b))):=by
 unfold U.zU;rw[jEK,L.nth_map a]
theorem jCn {d:DyD} (a:U.jo7 d) {b:Nat} (c:b<(U.jp d).length):U.zx (U.jf d) (U.jfJ (nth (U.jp d) b))=true:=
 jEw.1 a.2.1 _ (L.mem_nth c)
theorem jwC {d:DyD} (g:U.jo7 d) {b p:Int} (m:U.q6 d b) (n:U.jt2 d p):decide (vj (nth (U.zU d (U.jp d).length) b.toNat/2^p.toNat) 1=0)= !U.jao (U.jf d) (U.jfJ (U.bk d b)) p:=by
 unfold U.q6 at m;unfold U.jt2 at n;have a:b.toNat<(U.jp d).length:=(by omega);have j:=fun q (c:q∈U.yf (U.jf d) (U.jfJ (nth (U.jp d) b.toNat)))=>jwB g.1 c
 have o:BT.Set' (U.jst (U.yf (U.jf d) (U.jfJ (nth (U.jp d) b.toNat)))):=(jdf j _ (jDW _)).1;have i:U.bk d b=nth (U.jp d) b.toNat:=rfl;rw[jyO a,BT.bit_num o,i];have k:=jvE j p.toNat;have f:=jA1 g.1 (jCn g a) p.toNat;have ep:((p.toNat:Nat):Int)=p:=(by omega);rw[ep] at f;have l:BT.has (U.jst (U.yf (U.jf d) (U.jfJ (nth (U.jp d) b.toNat)))) p.toNat=U.jao (U.jf d) (U.jfJ (nth (U.jp d) b.toNat)) p:=by
  rw[k];cases h:U.jao (U.jf d) (U.jfJ (nth (U.jp d) b.toNat)) p with
  |true=>exact jES.2 ⟨p,f.2 ⟨by omega,h⟩,by simp⟩
  |false=>
   refine jEH.2 fun q c e=> ?_
   have e:q.toNat=p.toNat:=of_decide_eq_true e;have:=j q c;have e:q=p:=(by omega);rw[e] at c;rw[(f.1 c).2] at h;cases h
 rw[l];cases U.jao (U.jf d) (U.jfJ (nth (U.jp d) b.toNat)) p<;>rfl
theorem joL {α:Type} [Inhabited α] {R:α->α->Prop} {l:List α}:(∀i,i<l.length->∀b∈l.take i,R b (nth l i))↔l.Pairwise R:=by
 rw[jEO];refine⟨fun h i j hi a d=> ?_,fun h i hi b c=> ?_⟩
 .have:=h j a l[i] (jEE.2 ⟨i,by omega,rfl⟩);rw[L.nth_lt a] at this;exact this
 .obtain⟨k,hk,rfl⟩:=jEE.1 c;rw[L.nth_lt hi];exact h k i (by omega) hi (by omega)
theorem jv1 {α:Type} [Inhabited α] {R:α->α->Prop} {l:List α}:(∀i,i<l.length->∀b∈l.drop (i+1),R (nth l i) b)↔l.Pairwise R:=by
 rw[jEO];refine⟨fun h i j hi d c=> ?_,fun h i hi b a=> ?_⟩
 .have:=h i hi l[j] (List.mem_drop_iff_getElem.2 ⟨j-(i+1),by omega,by congr 1;omega⟩);rw[L.nth_lt hi] at this;exact this
 .obtain⟨k,hk,rfl⟩:=List.mem_drop_iff_getElem.1 a;rw[L.nth_lt hi];exact h i (i+1+k) hi (by omega) (by omega)
theorem jbR (d:DyD) (a b:Int):U.yl d a b=true↔(U.jdR (U.bk d a)<U.jdR (U.bk d b)\/(U.jdR (U.bk d a)=U.jdR (U.bk d b)/\a<b)):=decide_eq_true_iff
theorem jbQ (d:DyD) (a b:Int):U.yl d a b=false↔¬(U.jdR (U.bk d a)<U.jdR (U.bk d b)\/(U.jdR (U.bk d a)=U.jdR (U.bk d b)/\a<b)):=decide_eq_false_iff_not
theorem jxX (d:DyD) (l:List Int):ki (U.yl d) l where
 irrefl x _:=(jbQ d x x).2 (by omega)
 trans x y z _ _ _ a b:=by
  have a:=(jbR d x y).1 a;have b:=(jbR d y z).1 b;exact(jbR d x z).2 (by omega)
 total x y _ _ a b:=by
  have a:=(jbQ d x y).1 a;have b:=(jbQ d y x).1 b;omega
theorem jkq {d:DyD} {a b:Int} (h:a≠b) (c:U.yl d b a=false):U.yl d a b=true:=by
 have c:=(jbQ d b a).1 c;exact(jbR d a b).2 (by omega)
theorem juZ {d:DyD} {a b:Int} (c:U.yl d a b=true):U.yl d b a=false:=by
 have c:=(jbR d a b).1 c;exact(jbQ d b a).2 (by omega)
theorem jei {d:DyD} {a b:Int} (h:U.yl d a b=true):(U.ja4 d b a=decide (0<=U.vu d a b))/\(U.ja4 d a b=decide (0<=U.vu d a b)):=by
 unfold U.ja4;rw[if_pos h,juZ h,if_neg (by simp)];exact⟨rfl,rfl⟩
theorem jyi {d:DyD} {a b:Int} (h:a≠b):U.ja4 d a b=U.ja4 d b a:=by
 cases c:U.yl d b a with
 |false=>have:=jei (jkq h c);rw[this.1,this.2]
 |true=>have:=jei c;rw[this.1,this.2]
def TgR (d:DyD) (a b:Int):Prop:=a≠b->U.ja4 d b a=true
theorem jv0 {d:DyD} {l:List Int} (f:l.Nodup):U.jB4 d l=true↔l.Pairwise (TgR d):=by
 rw[<-joL];unfold U.jB4;rw[jEw];have e:∀i,i<l.length->∀b∈l.take i,b≠nth l i:=(joL (R:=fun a b=>a≠b)).2 f;refine⟨fun h i hi b c _=> ?_,fun h i hi=>jEw.2 fun b c=> ?_⟩
 .exact jEw.1 (h i (jEg.2 hi)) b c
 .exact h i (jEg.1 hi) b c (e i (jEg.1 hi) b c)
theorem TgR.symm {d:DyD} {a b:Int} (h:TgR d a b):TgR d b a:=fun e=>(jyi (Ne.symm e)).trans (h (Ne.symm e))
theorem jwx {d:DyD} {l l':List Int} (h:l.Perm l'):U.jrp d l=U.jrp d l':=by
 unfold U.jrp;exact List.Perm.foldl_eq' (h.map _) (fun x _ y _ z=>by omega) 0
theorem jnx (d:DyD) (p:Int) {l:List Int} (a:l.Nodup):U.qY d p l=true↔(∀b∈l,U.jao (U.jf d) (U.jfJ (U.bk d b)) p=true)/\l.Pairwise (TgR d)/\U.jrp d l<=U.jyT d:=by
 unfold U.qY;rw[jDV,jDV,jEw,jv0 a,decide_eq_true_iff]
theorem jl0 (d:DyD) (p:Int) {l l':List Int} (h:l.Perm l') (g:l.Nodup):U.qY d p l=U.qY d p l':=by
 have f:=h.nodup_iff.1 g;refine jEs.2 ?_;rw[jnx d p g,jnx d p f,jwx h,h.pairwise_iff (fun h=>TgR.symm h)];exact⟨fun⟨a,c⟩=>⟨fun b e=>a b (h.mem_iff.2 e),c⟩,fun⟨a,c⟩=>⟨fun b e=>a b (h.mem_iff.1 e),c⟩⟩
theorem jzx (d:DyD) (may:List Int) (p:Int) (s:List Int):U.jBw d may p s=true↔(∀b∈s,decide (vj (nth may b.toNat/2^p.toNat) 1=0)=false)/\s.Pairwise (fun a b=>0<=U.vu d a b)/\U.jrp d s<=U.jyT d:=by
 rw[<-jv1];unfold U.jBw;rw[jDV,decide_eq_true_iff,jEw,<-and_assoc];refine and_congr_left fun _=> ?_
 have e:∀i,U.jmX d may p s i=true↔decide (vj (nth may (nth s i).toNat/2^p.toNat) 1=0)=false/\∀b∈s.drop (i+1),0<=U.vu d (nth s i) b:=by
  intro i;unfold U.jmX;rw[jEl,jEh,jEH];refine and_congr_right fun _=>⟨fun h b c=> ?_,fun h b c=> ?_⟩
  .have:=h b c;simp at this;omega
  .have:=h b c;simp;omega
 refine⟨fun h=>⟨fun b c=> ?_,fun i hi=>((e i).1 (h i (jEg.2 hi))).2⟩,fun h i hi=>(e i).2 ⟨h.1 _ (L.mem_nth (jEg.1 hi)),h.2 i (jEg.1 hi)⟩⟩;obtain⟨i,hi,rfl⟩:=L.mem_iff.1 c;exact((e i).1 (h i (jEg.2 hi))).1
theorem jxL {d:DyD} {may:List Int} {p:Int} {l:List Int} (m:l.Nodup) (j:∀b∈l,decide (vj (nth may b.toNat/2^p.toNat) 1=0)= !U.jao (U.jf d) (U.jfJ (U.bk d b)) p):U.jnw d may p l=U.qY d p l:=by
 have f:(U.jk d l).Perm l:=j9 l;have c:(U.jk d l).Nodup:=f.nodup_iff.2 m;have k:(U.jk d l).Pairwise (fun a b=>U.yl d b a=false):=va (jxX d l);rw[<-jl0 d p f c];unfold U.jnw;refine jEs.2 ?_;rw[jzx,jnx d p c];have i:=List.Pairwise.and k c;refine and_congr ⟨fun h b e=> ?_,fun h b e=> ?_⟩ (and_congr_left fun _=>⟨fun h=> ?_,fun h=> ?_⟩)
 .have g:=h b e;rw[j b (f.mem_iff.1 e)] at g;simpa using g
 .rw[j b (f.mem_iff.1 e),h b e];rfl
 .refine(List.Pairwise.and i h).imp fun{a b} x _=> ?_
  rw[(jei (jkq x.1.2 x.1.1)).1];exact decide_eq_true x.2
 .refine(List.Pairwise.and i h).imp fun{a b} x=> ?_
  have:=x.2 x.1.2;rw[(jei (jkq x.1.2 x.1.1)).1] at this;exact of_decide_eq_true this
end Go.X
namespace Go.X
theorem y7 (a b:ShD):U.kS a b=true↔(U.jh0 b<U.jh0 a\/(U.jh0 a=U.jh0 b/\U.zJ b<U.zJ a)):=decide_eq_true_iff
theorem jeU (a b:ShD):U.kS a b=false↔¬(U.jh0 b<U.jh0 a\/(U.jh0 a=U.jh0 b/\U.zJ b<U.zJ a)):=decide_eq_false_iff_not
theorem wC (a:ShD):U.kS a a=false:=(jeU a a).2 (by omega)
theorem jb6 {a b:ShD} (h:U.kS a b=true):U.kS b a=false:=by
 have h:=(y7 a b).1 h;exact(jeU b a).2 (by omega)
theorem jjv {a b c:ShD} (d:U.kS a b=true) (e:U.kS b c=true):U.kS a c=true:=by
 have d:=(y7 a b).1 d;have e:=(y7 b c).1 e;exact(y7 a c).2 (by omega)
theorem jzu (a b:ShD):U.jo a b<0↔U.kS b a=true:=by
 rw[y7];unfold U.jo;rw[j6,kT]
 split
 .rename_i h;have c:¬U.jh0 a=U.jh0 b:=fun e=>h (q8.2 e)
  rw[jr4];omega
 .rename_i h;have d:U.jh0 a=U.jh0 b:=q8.1 (Classical.not_not.1 h);rw[jr4];omega
theorem jxQ {l:List ShD} (hi:∀a∈l,∀b∈l,U.zJ a=U.zJ b->a=b):ki U.jxP l where
 irrefl x _:=wC x
 trans x y z _ _ _ c d:=jjv d c
 total x y hx hy c d:=by
  have c:=(jeU y x).1 c;have d:=(jeU x y).1 d;exact hi x hx y hy (by omega)
theorem jxg {l:List ShD}:∀i,i<l.length->∃j,j<l.length/\nth l j=nth l i/\U.jno l j=true:=by
 intro i
 induction i using Nat.strongRecOn with
 |_ i f=>
  intro hi;cases h:U.jno l i with
  |true=>exact⟨i,hi,rfl,h⟩
  |false=>
   simp only[U.jno,jEN] at h;obtain⟨x,d,e⟩:=jES.1 h;obtain⟨k,hk,rfl⟩:=jEE.1 d;have e:l[k]=nth l i:=of_decide_eq_true e;obtain⟨j,c,a,b⟩:=f k (by omega) (by omega);exact⟨j,c,by rw[a,L.nth_lt (by omega)];exact e,b⟩
theorem jxw {l:List ShD} {s:ShD} (h:s∈l) (d:0<=U.zJ s) (e:U.zJ s<=99):s∈U.gn l:=by
 obtain⟨i,hi,rfl⟩:=L.mem_iff.1 h;obtain⟨j,c,a,b⟩:=jxg i hi;unfold U.gn U.jrZ;refine List.mem_flatMap.2 ⟨(U.zJ (nth l i)).toNat,jEg.2 (by omega),?_⟩;unfold U.jzD;refine jEx.2 ⟨j,jEa.2 ⟨jEg.2 c,?_⟩,a⟩;show(decide (U.zJ (nth l j)=(((U.zJ (nth l i)).toNat:Nat):Int))&&U.jno l j)=true;rw[b,a,Bool.and_true];exact decide_eq_true (by omega)
theorem jci {l:List ShD} {n m:Nat} {s:ShD} (h:s∈U.jzD l n m):U.zJ s=(m:Int):=by
 unfold U.jzD at h;obtain⟨i,hi,rfl⟩:=jEx.1 h;have a:=(jEa.1 hi).2;rw[jDV] at a;exact of_decide_eq_true a.1
theorem vg (l:List ShD):(U.gn l).Nodup:=by
 unfold U.gn U.jrZ;refine List.pairwise_flatMap.2 ⟨fun m _=> ?_,?_⟩
 .unfold U.jzD;refine List.pairwise_map.2 (List.Pairwise.imp_of_mem ?_ (List.Pairwise.filter _ jFa));intro i j hi c k e;have c:=jEa.1 c;have d:=c.2;rw[jDV] at d;have f:=d.2;have n:=jEg.1 c.1;have o:((l.take j).any (fun x=>decide (x=nth l j)))=true:=
   jES.2 ⟨nth l i,jEE.2 ⟨i,by omega,(L.nth_lt (by omega)).symm⟩,decide_eq_true e⟩
  unfold U.jno at f;rw[o] at f;cases f
 .refine List.Pairwise.imp ?_ jFa;intro a b h x p y q e;have g:=jci p;have d:=jci q;rw[e] at g;omega
theorem jbY (t s:ShD):U.qw t=U.qw s↔U.w4 t=U.w4 s/\U.zZ t=U.zZ s:=by
 unfold U.qw;refine⟨fun h=>⟨congrArg (·.1) h,congrArg (·.2.1) h⟩,fun h=>by rw[h.1,h.2]⟩
theorem jkb (l:List ShD) (s:ShD):U.jib l s=true↔U.jqT s=1/\∀t∈l,U.qw t=U.qw s->U.kS t s=false:=by
 unfold U.jib;rw[jDV,decide_eq_true_iff,jEl,jEH];refine and_congr_right fun _=>⟨fun h t a e=> ?_,fun h t a e=> ?_⟩
 .have e:=(jbY t s).1 e;have:=h t a;rw[e.1,e.2,decide_eq_true rfl,decide_eq_true rfl] at this;simpa using this
 .rw[jDV,jDV,decide_eq_true_iff,decide_eq_true_iff] at e;rw[h t a ((jbY t s).2 e.1)] at e;exact absurd e.2 (by simp)
theorem jil (d:DyD):U.jd6 d=(U.gn (U.jH d)).filter (U.jib (U.gn (U.jH d))):=by
 unfold U.jd6;generalize U.gn (U.jH d)=l;unfold U.jzQ;have e:(fun i=>U.jwK l i l.length)=(U.jib l)∘(nth l):=by
  funext i;unfold U.jwK;rw[jEK];rfl
 rw[e];have:=List.filter_map (f:=nth l) (p:=U.jib l) (l:=List.range l.length);rw[<-this,L.range_map_nth]
theorem jpc (l:List ShD):∀n,∀i,i<n->U.kS (nth l (U.jcK l n)) (nth l i)=false
 |0,i,h=>absurd h (by omega)
 |n+1,i,h=>by
  have b:=jpc l n
  rw[jlE]
  split
  .rename_i a
   rcases Nat.lt_succ_iff_lt_or_eq.1 h with h|h
   .cases c:U.kS (nth l n) (nth l i) with
    |false=>rfl
    |true=>have:=jjv a c;rw[b i h] at this;cases this
   .subst h;exact wC _
  .rename_i a
   rcases Nat.lt_succ_iff_lt_or_eq.1 h with h|h
   .exact b i h
   .subst h;simpa using a
theorem jvF (l:List ShD):∀n,n<=l.length->(U.wv l n).1.Pairwise (fun a b=>U.kS a b=false)/\∀a∈(U.wv l n).1,∀b∈(U.wv l n).2,U.kS a b=false
 |0,_=>⟨List.Pairwise.nil,fun a d=>by cases d⟩
 |n+1,m=>by
  obtain⟨j,g⟩:=jvF l n (by omega)
  have k:=jh1 l n (by omega)
  have h:=jh5 (U.wv l n).2 _ (jDW _) (by omega)
  have e:=jpc (U.wv l n).2 (U.wv l n).2.length
  have f:∀b∈(U.wv l n).2.take (U.jcK (U.wv l n).2 (U.wv l n).2.length)++(U.wv l n).2.drop (U.jcK (U.wv l n).2 (U.wv l n).2.length+1),b∈(U.wv l n).2:=by
   intro b c;rcases jDY.1 c with c|c
   .exact jFe c
   .exact jFd c
  refine⟨List.pairwise_append.2 ⟨j,List.pairwise_singleton _ _,fun a d b c=> ?_⟩,fun a d b c=> ?_⟩
  .simp at c;subst c;exact g a d _ (L.mem_nth h)
  .have c:=f b c;have d:a∈(U.wv l n).1++[nth (U.wv l n).2 (U.jcK (U.wv l n).2 (U.wv l n).2.length)]:=d;rcases jDY.1 d with d|d
   .exact g a d b c
   .simp at d;subst d;obtain⟨i,hi,rfl⟩:=L.mem_iff.1 c;exact e i hi
theorem jmc (d:DyD):jsj U.jxP (U.jp8 d):=(jvF (U.jd6 d) _ (jDW _)).1
theorem jd5 (d:DyD):(U.jp8 d).Perm (U.jd6 d):=by
 have a:=jiP (U.jd6 d) (U.jd6 d).length (jDW _);have b:=(jh1 (U.jd6 d) (U.jd6 d).length (jDW _)).2;have:(U.wv (U.jd6 d) (U.jd6 d).length).2=[]:=List.length_eq_zero_iff.1 (by omega);rw[this,jEm] at a;exact a
theorem jsU {l:List ShD} (i:l.Pairwise (fun a b=>U.kS b a=true)):∀n,n<=l.length->∀s∈l.take n,(kx (Ty.dflt tSh) (zt tSt (U.qw s) (U.zm l n))=s↔∀t∈l.take n,U.qw t=U.qw s->U.kS t s=false)
 |0,_,s,c=>by simp at c
 |n+1,k,s,c=>by
  have j:=jsU i n (by omega)
  have g:(l.take (n+1)).Pairwise (fun a b=>U.kS b a=true):=i.sublist (List.take_sublist _ _)
  rw[L.take_succ (by omega)] at g c
  have f:∀t∈l.take n,U.kS (nth l n) t=true:=fun t d=>(List.pairwise_append.1 g).2.2 t d _ (by simp)
  rw[jjw (by omega),L.take_succ (by omega)]
  by_cases hk:U.qw s=U.qw (nth l n)
  .rw[hk,M.mfind_mput]
   show nth l n=s↔_
   rcases jDY.1 c with c|c
   .refine⟨fun e=> ?_,fun h=> ?_⟩
    .have:=f s c
     rw[e,wC] at this;cases this
    .have:=h (nth l n) (by simp) rfl
     rw[f s c] at this;cases this
   .simp at c;subst c
    refine⟨fun _ t d _=> ?_,fun _=>rfl⟩
    rcases jDY.1 d with d|d
    .exact jb6 (f t d)
    .simp at d;subst d;exact wC _
  .rw[M.mfind_mput_ne hk]
   have c:s∈l.take n:=by
    rcases jDY.1 c with c|c
    .exact c
    .simp at c;subst c;exact absurd rfl hk
   rw[j s c];refine⟨fun h t d e=> ?_,fun h t d=>h t (jDS _ d)⟩;rcases jDY.1 d with d|d
   .exact h t d e
   .simp at d;subst d;exact absurd e.symm hk
theorem jvC {d:DyD} (h:U.jr d=0):(U.jM d).Pairwise (fun a b=>U.kS b a=true):=by
 have f:=jDx h;have g:jsj (U.jd tSh fun x=>(U.jo x.1 x.2.1,())) (U.jM d):=va f;have e:∀s∈U.jM d,s∈U.jJ (U.jH d):=fun s i=>(j9 _).mem_iff.1 i
 refine List.Pairwise.imp_of_mem ?_ (List.Pairwise.and g (qr d));intro a b j k ⟨h1,h2⟩;cases c:U.jd tSh (fun x=>(U.jo x.1 x.2.1,())) a b with
 |false=>exact absurd (f.total a b (e a j) (e b k) c h1) h2
 |true=>
  have c:U.jo a b<0:=of_decide_eq_true c;exact(jzu a b).1 c
theorem jpM {d:DyD} (h:U.jr d=0) {s:ShD} (a:s∈U.jM d):U.zW (U.zm (U.jM d) (U.jM d).length) s=true↔U.jqT s=1/\∀t∈U.jM d,U.qw t=U.qw s->U.kS t s=false:=by
 have:=jsU (jvC h) (U.jM d).length (jDW _) s (by rw[jEK];exact a);rw[jEK] at this;rw[<-this];unfold U.zW;rw[jEl,jEh,jEN,jEN,decide_eq_true_iff,decide_eq_true_iff];exact and_comm
theorem jiN {d:DyD} (h:U.zj d=true) {s:ShD} (a:s∈U.jH d):0<=U.zJ s/\U.zJ s<=99:=by
 have:=(j7 h).2.2.2.2.2.2.2 _ a;unfold U.yx at this;have:=of_decide_eq_true this;omega
def jpN (d:DyD):ShD->Bool:=U.zW (U.zm (U.jM d) (U.jM d).length)
theorem jzP {d:DyD} (h:U.jr d=0):(U.jM d).filter (jpN d)=U.jp8 d:=by
 have j:=zh h;have f:∀s,s∈U.gn (U.jH d)↔s∈U.jM d:=fun s=>⟨fun c=>qQ.2 (we c),fun c=>by
  have c:=qQ.1 c;have:=jiN j.1.2.2 c;exact jxw c this.1 this.2⟩
 have g:∀s,s∈(U.jM d).filter (jpN d)↔s∈U.jp8 d:=by
  intro s;rw[(jd5 d).mem_iff,jil,jEa,jEa,f s];refine and_congr_right fun c=> ?_
  rw[jkb];have:=jpM h c;refine this.trans (and_congr_right fun _=>⟨fun h t i=>h t ((f t).1 i),fun h t i=>h t ((f t).2 i)⟩)
 have n:((U.jM d).filter (jpN d)).Nodup:=List.Pairwise.filter _ (qr d);have o:(U.jp8 d).Nodup:=(jd5 d).nodup_iff.2 (by rw[jil];exact List.Pairwise.filter _ (vg _));have m:=L.perm_of_nodup n o g;refine vT (jxQ ?_) m ?_ (jmc d)
 .intro a k b l e;exact j.2 a (qQ.1 (jEa.1 k).1) b (qQ.1 (jEa.1 l).1) e
 .exact(List.Pairwise.filter _ (jvC h)).imp fun x=>jb6 x
end Go.X
namespace Go.X
namespace U
def jAK (r:List Int) (m n:Nat):List Int:=(r.take n).filter (fun x=>decide (x=(m:Int)))
def jeD (r:List Int) (n:Nat):List Int:=(List.range n).flatMap (fun m=>jAK r m r.length)
end U
structure jlc (d:DyD) (x:List (List Int)×List Int) (y:List Int×List Int):Prop where
 ref:x.2=y.2
 len:y.1.length=(U.jp d).length
 set:∀b,b<(U.jp d).length->BT.Set' (nth y.1 b)
 bit:∀b,b<(U.jp d).length->∀p,BT.has (nth y.1 b) p=true↔p<(U.ji (U.jf d)).length/\(b:Int)∈nth x.1 p
theorem jna {t:Int} (h:BT.Set' t) (p:Int):U.wG t p=BT.has t p.toNat:=BT.has_shr h p.toNat
theorem jB6 {d:DyD} {x:List (List Int)×List Int} {y:List Int×List Int} (h:jlc d x y) {p:Int} (k:U.jt2 d p) (j:∀b∈nth x.1 p.toNat,U.q6 d b) (n:Int):n∈U.on y.1 p↔n∈nth x.1 p.toNat:=by
 unfold U.jt2 at k;unfold U.on U.jDa;rw[jEx];refine⟨fun⟨i,hi,e⟩=> ?_,fun g=> ?_⟩
 .subst e;have hi:=jEa.1 hi;have a:=jEg.1 hi.1;rw[h.len] at a;have f:U.wG (nth y.1 i) p=true:=hi.2;rw[jna (h.set i a)] at f;exact((h.bit i a p.toNat).1 f).2
 .have hk:=j n g;unfold U.q6 at hk;have c:((n.toNat:Nat):Int)=n:=(by omega);refine⟨n.toNat,jEa.2 ⟨jEg.2 (by rw[h.len];omega),?_⟩,c⟩;show U.wG (nth y.1 n.toNat) p=true;rw[jna (h.set _ (by omega))];exact(h.bit _ (by omega) _).2 ⟨by omega,by rw[c];exact g⟩
theorem jyE (t:List Int) (p:Int):(U.on t p).Nodup:=by
 unfold U.on U.jDa;refine List.pairwise_map.2 ((List.Pairwise.filter _ jFa).imp ?_);intro a b c e;omega
theorem jAR {d:DyD} {x:List (List Int)×List Int} {y:List Int×List Int} (h:jlc d x y) {p:Int} (e:U.jt2 d p) (c:(nth x.1 p.toNat).Nodup) (a:∀b∈nth x.1 p.toNat,U.q6 d b):(nth x.1 p.toNat).Perm (U.on y.1 p):=
 L.perm_of_nodup c (jyE _ _) (fun n=>(jB6 h e a n).symm)
theorem jCL {d:DyD} (i:U.jo7 d) {x:List (List Int)×List Int} {y:List Int×List Int} (h:jlc d x y) {p b:Int} (g:U.jt2 d p) (e:(nth x.1 p.toNat++[b]).Nodup) (f:∀c∈nth x.1 p.toNat++[b],U.q6 d c):
 U.jnw d (U.zU d (U.jp d).length) p (nth x.1 p.toNat++[b])=U.qY d p (U.on y.1 p++[b]):=by
 rw[jxL e (fun c a=>jwC i (f c a) g)];exact jl0 d p ((jAR h g (jEU.1 e).1 (fun c a=>f c (jDS _ a))).append_right [b]) e
theorem jB1 {d:DyD} {x:List (List Int)×List Int} {y:List Int×List Int} (h:jlc d x y) (v:x.1.length=(U.ji (U.jf d)).length) (u:(U.ji (U.jf d)).length<=8) {p b:Int} (t:U.jt2 d p) (s:U.q6 d b) (i:b∉nth x.1 p.toNat):
 jlc d (x.1.set p.toNat (nth x.1 p.toNat++[b]),x.2) (y.1.set b.toNat (nth y.1 b.toNat+2^p.toNat),y.2):=by
 unfold U.jt2 at t;unfold U.q6 at s;have r:((b.toNat:Nat):Int)=b:=(by omega);have g:b.toNat<y.1.length:=(by rw[h.len];omega);have n:p.toNat<x.1.length:=(by omega);have o:=h.set b.toNat (by omega);have m:BT.has (nth y.1 b.toNat) p.toNat=false:=by
  cases j:BT.has (nth y.1 b.toNat) p.toNat with
  |false=>rfl
  |true=>exact absurd (by have:=((h.bit _ (by omega) _).1 j).2;rw[r] at this;exact this) i
 have a:=BT.add_two o (p:=p.toNat) (by omega) m;have j:=BT.two_set (k:=p.toNat) (by omega);refine⟨h.ref,by show(y.1.set _ _).length=_;rw[List.length_set];exact h.len,fun c l=> ?_,fun c l q=> ?_⟩
 .show BT.Set' (nth (y.1.set b.toNat (nth y.1 b.toNat+2^p.toNat)) c);rw[L.nth_set g]
  split
  .rw[a];exact BT.bor_set o j
  .exact h.set c l
 .show BT.has (nth (y.1.set b.toNat (nth y.1 b.toNat+2^p.toNat)) c) q=true↔_/\(c:Int)∈nth (x.1.set p.toNat (nth x.1 p.toNat++[b])) q;rw[L.nth_set g,L.nth_set n];by_cases f:b.toNat=c
  .rw[if_pos f,a,BT.has_bor o j,BT.has_two,jE6,decide_eq_true_iff,h.bit _ (by omega),<-f,r];by_cases e:p.toNat=q
   .rw[if_pos e];refine⟨fun _=>⟨by omega,by simp⟩,fun _=> .inr e⟩
   .rw[if_neg e];exact⟨fun h=>h.elim id (fun h=>absurd h e),.inl⟩
  .rw[if_neg f,h.bit c l];by_cases e:p.toNat=q
   .rw[if_pos e,jDY,<-e];refine and_congr_right fun _=>⟨.inl,fun h=>h.elim id (fun h=> ?_)⟩
    simp at h;omega
   .rw[if_neg e]
theorem jyv (d:DyD):jlc d (U.zP (U.jcv d) (U.jM d) 0) (List.replicate (U.jp d).length 0,[]):=by
 have c:∀b,b<(U.jp d).length->nth (List.replicate (U.jp d).length (0:Int)) b=0:=fun b a=>L.nth_rep a
 refine⟨rfl,jET,fun b a=> ?_,fun b a p=> ?_⟩
 .show BT.Set' (nth (List.replicate (U.jp d).length (0:Int)) b);rw[c b a];exact BT.zero_set
 .show BT.has (nth (List.replicate (U.jp d).length (0:Int)) b) p=true↔_/\(b:Int)∈nth (U.jAS d) p;rw[c b a,BT.has_zero];have f:U.jyN (U.jAS d):=fun x g=>(List.mem_replicate.1 g).2
  have e:nth (U.jAS d) p=[]:=jm0 f p;rw[e];simp
def jxz (d:DyD) (i:Nat):List Int×List Int:=(((U.jM d).take i).filter (jpN d)).foldl (U.jbW d) (List.replicate (U.jp d).length 0,[])
attribute [local irreducible] U.zP U.qY U.jnw U.on jxz U.jM jpN U.jcv U.zU in
theorem jyw {d:DyD} (h:U.jr d=0) {i:Nat} (hi:i<(U.jM d).length) (ih:jlc d (U.zP (U.jcv d) (U.jM d) i) (jxz d i)) (hinv:U.v8 (U.jcv d) (U.jM d) i (U.zP (U.jcv d) (U.jM d) i)) (hrd:U.rd (U.jcv d)=d) (hml:U.y5 (U.jcv d)=U.zU d (U.jp d).length)
 (hx:(U.zP (U.jcv d) (U.jM d) i).1.length=(U.ji (U.jf d)).length) (hdec:jpN d=U.zW (U.zm (U.jM d) (U.jM d).length)) (hft:jxz d (i+1)=if jpN d (nth (U.jM d) i)=true then U.jbW d (jxz d i) (nth (U.jM d) i) else jxz d i)
 (hnew:jpN d (nth (U.jM d) i)=true->(nth (U.zP (U.jcv d) (U.jM d) i).1 (U.zZ (nth (U.jM d) i)).toNat++[U.w4 (nth (U.jM d) i)]).Nodup/\∀b∈nth (U.zP (U.jcv d) (U.jM d) i).1 (U.zZ (nth (U.jM d) i)).toNat++[U.w4 (nth (U.jM d) i)],U.q6 d b):
 jlc d (U.zP (U.jcv d) (U.jM d) (i+1)) (jxz d (i+1)):=by
 have hD:=(zh h).1
 have h8:(U.ji (U.jf d)).length<=8:=(jI hD.1).2.2.1
 have hsf:=jbX hD.2.2 (qQ.1 (L.mem_nth (l:=U.jM d) (i:=i) hi))
 rw[hft]
 cases hc:jpN d (nth (U.jM d) i) with
 |false=>
  rw[hdec] at hc
  rw[jmp hi hc,if_neg (by simp)]
  exact ih
 |true=>
  have hn:=hnew hc
  have hcan:=jCL hD ih (p:=U.zZ (nth (U.jM d) i)) (b:=U.w4 (nth (U.jM d) i)) hsf.1 hn.1 hn.2
  rw[hdec] at hc
  rw[if_pos rfl]
  unfold U.jbW
  cases hk:U.qY d (U.zZ (nth (U.jM d) i)) (U.on (jxz d i).1 (U.zZ (nth (U.jM d) i))++[U.w4 (nth (U.jM d) i)]) with
  |true=>
   rw[hk] at hcan
   rw[jmo hi hc (by rw[hrd,hml];exact hcan),if_pos rfl]
   refine jB1 ih hx h8 hsf.1 hsf.2 (fun hin=> ?_)
   exact(jEU.1 hn.1).2.2 _ hin _ (by simp) rfl
  |false=>
   rw[hk] at hcan
   rw[jsp hi hc (by rw[hrd,hml];exact hcan),if_neg (by simp)]
   exact⟨congrArg (·++[U.zJ (nth (U.jM d) i)]) ih.ref,ih.len,ih.set,ih.bit⟩
theorem jvU {d:DyD} (h:U.jr d=0):∀i,i<=(U.jM d).length->jlc d (U.zP (U.jcv d) (U.jM d) i) (jxz d i)
 |0,_=>jyv d
 |i+1,hi=>by
  have k:=jvU h i (by omega)
  obtain⟨⟨_,m⟩,⟨j,b⟩,c⟩:=jsC h
  have f:=(zh h).1
  have a:=jmq (r:=U.jcv d) (l:=U.jM d) f.2.2 (fun s e=>qQ.1 e) (qr d) j b c i (by omega)
  refine jyw h hi k a rfl rfl a.1 rfl ?_ fun g=> ?_
  .unfold jxz
   rw[L.filter_take (p:=jpN d) (l:=U.jM d) (i:=i) hi,jEv]
   split<;>rfl
  .have:=jso (r:=U.jcv d) (l:=U.jM d) f.2.2 (fun s e=>qQ.1 e) (qr d) hi a g
   exact⟨this.1,this.2.1⟩
theorem jzq {d:DyD} (h:U.jr d=0):jxz d (U.jM d).length=U.jcF d:=by
 unfold jxz U.jcF U.jn7;rw[jEK,jEK,jzP h]
theorem jf5 {d:DyD} (h:U.jr d=0):jlc d (U.wm (U.jnH d),(U.zP (U.jcv d) (U.jM d) (U.jM d).length).2) (U.jcF d):=by
 have:=jvU h _ (jDW _);rw[jzq h] at this;exact⟨this.ref,this.len,this.set,this.bit⟩
theorem jsm (on:List (List Int)) (b:Int):∀n,n<=60->BT.Set' (U.qa on b n)/\∀q,BT.has (U.qa on b n) q=true↔q<n/\b∈nth on q
 |0,_=>⟨BT.zero_set,fun q=>by
  have:U.qa on b 0=0:=rfl
  rw[this,BT.has_zero];simp⟩
 |n+1,m=>by
  obtain⟨f,i⟩:=jsm on b n (by omega)
  have g:=BT.two_set (k:=n) (by omega)
  have a:(nth on n).any (fun x=>decide (x=b))=true↔b∈nth on n:=by
   rw[jES];exact⟨fun⟨x,l,e⟩=>(of_decide_eq_true e)▸l,fun j=>⟨b,j,decide_eq_true rfl⟩⟩
  rw[jiy]
  split
  .rename_i c;have c:=a.1 c;rw[jbn];refine⟨BT.bor_set f g,fun q=> ?_⟩;rw[BT.has_bor f g,BT.has_two,jE6,decide_eq_true_iff,i];refine⟨fun h=>h.elim (fun h=>⟨by omega,h.2⟩) (fun h=>by subst h;exact⟨by omega,c⟩),fun h=> ?_⟩;by_cases d:q=n
   .exact .inr d.symm
   .exact .inl ⟨by omega,h.2⟩
  .rename_i c;refine⟨f,fun q=> ?_⟩;rw[i];refine⟨fun h=>⟨by omega,h.2⟩,fun h=>⟨?_,h.2⟩⟩;by_cases d:q=n
   .subst d;exact absurd (a.2 h.2) c
   .omega
theorem jAw {d:DyD} (h:U.jr d=0) {b:Nat} (a:b<(U.jp d).length):U.jfT (U.wm (U.jnH d)) (b:Int)=nth (U.jcF d).1 b:=by
 have f:=jf5 h;have c:=jsB h;have g:=jsm (U.wm (U.jnH d)) (b:Int) (U.wm (U.jnH d)).length c.len60;refine BT.ext g.1 (f.set b a) fun p=>jEs.2 ?_
 have e:=(g.2 p).trans (f.bit b a p|>.trans (by rw[<-c.len])).symm;exact e
theorem jBZ {d:DyD} (h:U.jr d=0):U.wZ d (U.jp d).length=(U.jcF d).1:=by
 have b:=jf5 h;have a:(U.wZ d (U.jp d).length).length=(U.jp d).length:=(by unfold U.wZ;simp);refine L.ext_nth (by rw[a];exact b.len.symm) fun i hi=> ?_
 rw[a] at hi;unfold U.wZ;rw[L.nth_map (by simpa using hi)];have:nth (List.range (U.jp d).length) i=i:=(by rw[L.nth_lt (by simpa using hi)];simp);rw[this];exact jAw h hi
theorem jqs (d:DyD):U.kO d=if U.wH d=0 then(U.jcF d).1 else[]:=by
 unfold U.kO;rw[gy]
 split
 .rename_i h;exact jBZ ((gy d).trans h)
 .rfl
theorem jvV (d:DyD):∀n,n<=(U.jp8 d).length->(U.jn7 d n).2.Sublist (((U.jp8 d).take n).map U.zJ)
 |0,_=>List.nil_sublist _
 |n+1,b=>by
  have a:=jvV d n (by omega)
  rw[jyl (by omega),L.take_succ (by omega),jEW]
  unfold U.jbW
  split
  .exact a.trans (List.sublist_append_left _ _)
  .exact List.Sublist.append a (List.Sublist.refl _)
theorem jvW {d:DyD} (h:U.jr d=0):(U.jcF d).2.Nodup/\∀x∈(U.jcF d).2,0<=x/\x<=99:=by
 have c:=jvV d _ (jDW _);rw[jEK] at c;have g:=zh h;have l:(U.jp8 d).Nodup:=(jd5 d).nodup_iff.2 (by rw[jil];exact List.Pairwise.filter _ (vg _));refine⟨List.Pairwise.sublist c (List.pairwise_map.2 (List.Pairwise.imp_of_mem ?_ l)),fun x k=> ?_⟩
 .intro a b i j f e;exact f (g.2 a (we (jqd i)) b (we (jqd j)) e)
 .obtain⟨s,c,rfl⟩:=jEx.1 (c.subset k);exact jiN g.1.2.2 (we (jqd c))
theorem jtR {r:List Int} (k:r.Nodup) (h:∀x∈r,0<=x/\x<=99):U.jeD r 100=U.jet r:=by
 have e:∀m,U.jAK r m r.length=r.filter (fun x=>decide (x=(m:Int))):=fun m=>by unfold U.jAK;rw[jEK]
 have d:∀m x,x∈U.jAK r m r.length->x=(m:Int)/\x∈r:=fun m x c=>by
  rw[e m] at c;have:=jEa.1 c;exact⟨of_decide_eq_true this.2,this.1⟩
 have f:(U.jeD r 100).Pairwise (fun a b=>a<=b):=by
  unfold U.jeD;refine List.pairwise_flatMap.2 ⟨fun m _=> ?_,List.Pairwise.imp ?_ jFa⟩
  .refine List.Pairwise.imp_of_mem ?_ (R:=fun _ _=>True) (List.pairwise_of_forall (fun _ _=>trivial));intro a b n o _;have:=(d m a n).1;have:=(d m b o).1;omega
  .intro a b g x c y j;have:=(d a x c).1;have:=(d b y j).1;omega
 have i:(U.jeD r 100).Nodup:=by
  unfold U.jeD;refine List.pairwise_flatMap.2 ⟨fun m _=> ?_,List.Pairwise.imp ?_ jFa⟩
  .rw[e m];exact List.Pairwise.filter _ k
  .intro a b g x c y j l;have:=(d a x c).1;have:=(d b y j).1;omega
 have p:(U.jeD r 100).Perm r:=L.perm_of_nodup i k fun x=>by
  unfold U.jeD;rw[List.mem_flatMap];refine⟨fun⟨m,_,c⟩=>(d m x c).2,fun c=> ?_⟩;have q:=h x c;refine⟨x.toNat,jEg.2 (by omega),?_⟩;rw[e];exact jEa.2 ⟨c,decide_eq_true (by omega)⟩
 exact jcQ (p.trans (jfZ r).symm) f (jvx r)
theorem jAH (d:DyD):U.jkK d=if U.wH d=0 then U.jeD (U.jcF d).2 100 else[]:=by
 unfold U.jkK;rw[gy]
 split
 .rename_i h;have h:=(gy d).trans h;have a:=jvW h;rw[jtR a.1 a.2,<-(jf5 h).ref];rfl
 .rfl
end Go.X
namespace Go.X
open Go.Proofs
attribute [local irreducible] U.wv U.jcK U.jzQ U.gn U.jd6 U.jp8 U.jwK
end Go.X
namespace Go.X
open Go.Proofs
end Go.X
namespace Go.X
open Go.Proofs
section
attribute [local irreducible] U.jeD U.jAK U.jcF U.wH
end
section
attribute [local irreducible] U.wH
end
section
attribute [local irreducible] U.qY U.on U.wG U.jo7
end
section
attribute [local irreducible] U.wH U.wG
end
end Go.X
namespace Go.X
open Go.Proofs
section
attribute [local irreducible] U.wH
end
end Go.X
namespace Go.X
open Go.Proofs
end Go.X


