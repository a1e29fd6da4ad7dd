/-
  Part 6 of the road: a checked reading of bodies, and what the functions on it do (P10 B5 P11 B6 P12 P13 B7 P14 B8 P15 C1 PC1 PC2 PC3 PC4 C2 PC5 PC6 PC7 PC8 C3 PC9 SL PC10 S1 S2 S3 PC11 C4 PC12 PC13 PC14 S4 S5).
-/
import Derived.Test.YtphbhcmpebmadaaGreatDoorK05
namespace Go.X
open Go.Proofs
theorem jO {d:DyD} (h:U.ju d=0):U.vK d/\∀a∈U.kl d,∀b∈U.kl d,U.wv a=U.wv b->a=b:=by
 unfold U.ju U.jkQ at h;cases c:U.jj (U.jc d) with
 |false=>rw[c] at h;simp at h
 |true=>
  cases e:U.jv8 d with
  |false=>rw[c,e] at h;simp at h
  |true=>
   cases f:U.zA d with
   |false=>rw[c,e,f] at h;simp at h
   |true=>
    cases g:U.jxd (U.jY (U.kl d)) with
    |true=>rw[c,e,f,g] at h;simp at h
    |false=>exact⟨⟨c,e,f⟩,(jzP _).1 g⟩
theorem jEt:jbu U.js:=by
 have e:U.js=jAD (fun a b=>U.jae (U.joM a) (U.joM b)) (fun a b=>U.jae (U.wv a) (U.wv b)):=by
  funext a b;unfold U.js;rw[zy,wq];rfl
 rw[e];exact jgS (jhq jf4 U.joM) (jhq jf4 U.wv)
theorem jz7 {a b:ShD} (h:U.js a b=0):U.wv a=U.wv b:=by
 unfold U.js at h;rw[zy,wq] at h
 split at h
 .contradiction
 .exact vM.1 h
theorem jGD {d:DyD} (h:U.ju d=0):kK (U.jg tSh fun x=>(U.js x.1 x.2.1,())) (U.jY (U.kl d)):=
 jnG jEt (fun a b e f c=>(jO h).2 a (jeq.1 e) b (jeq.1 f) (jz7 c))
theorem wU {d:DyD} {s:ShD}:s∈U.jF d↔s∈U.kl d:=((zp _).mem_iff).trans jeq
theorem wK (d:DyD):(U.jF d).Nodup:=(zp _).nodup_iff.2 (jqY _)
theorem jDy (d:DyD):(U.jF d).length<=(U.kl d).length:=by
 unfold U.jF U.jGS;rw[(zp _).length_eq];exact jzY _
theorem jcA {d:DyD} (h:U.zA d=true) {s:ShD} (a:s∈U.kl d):(0<=U.qq s/\U.qq s<((U.je (U.jc d)).length:Int))/\U.wJ d (U.vq s):=by
 have:=(zc h).2.2.2.2.2.2.2 _ a;unfold U.gN at this;have:=of_decide_eq_true this;unfold U.wJ;omega
theorem jj7 {l:List ShD} {i:Nat} (h:i<l.length):U.zz l (i+1)=jd8 tSt (U.yw (nth l i)) (nth l i) (U.zz l i):=by
 unfold U.zz;rw[L.take_succ h,jHh];rfl
theorem jeZ {r:RoD} {l:List ShD} {i:Nat} (h:i<l.length):U.zN r l (i+1)=U.jpd (U.rd r) (U.qG r) (U.zz l l.length) (U.zN r l i) (nth l i):=by
 unfold U.zN;rw[L.take_succ h,jHh];rfl
theorem jGe {d:DyD} {l:List Int} (c:l.Nodup) (a:∀b∈l,U.wJ d b):l.length<=(U.jm d).length:=by
 have:=L.nodup_len l ((List.range (U.jm d).length).map (fun(b:Nat)=>(b:Int))) c (fun x e=>by
  have:=a x e;unfold U.wJ at this;exact jHm.2 ⟨x.toNat,jG4.2 (by omega),by omega⟩)
 simpa using this
section
variable {r:RoD} {l:List ShD} {i:Nat}
theorem jpe (u:U.zA (U.rd r)=true) (v:∀s∈l,s∈U.kl (U.rd r)) (nd:l.Nodup) (h:i<l.length) {x:List (List Int)×List Int} (y:U.yF (U.rd r,U.qG r,U.wa r,U.jF3 r,()) l i x)
 (k:U.kf (U.zz l l.length) (nth l i)=true):(nth x.1 (U.qq (nth l i)).toNat++[U.vq (nth l i)]).Nodup/\(∀b∈nth x.1 (U.qq (nth l i)).toNat++[U.vq (nth l i)],U.wJ (U.rd r) b)/\
  ∀b∈nth x.1 (U.qq (nth l i)).toNat++[U.vq (nth l i)],∃j:Nat,j<i+1/\U.yw (nth l j)=(b,((U.qq (nth l i)).toNat:Int),())/\kS (Ty.dflt tSh) (zI tSt (U.yw (nth l j)) (U.zz l l.length))=nth l j:=by
 obtain⟨A,B,q⟩:=y;have w:=jcA u (v _ (L.mem_nth h));have d:kS (Ty.dflt tSh) (zI tSt (U.yw (nth l i)) (U.zz l l.length))=nth l i:=by
  unfold U.kf at k;simp only[jHw,jHp,jHC,decide_eq_true_eq] at k;exact k.1
 have o:((U.qq (nth l i)).toNat:Int)=U.qq (nth l i):=(by omega);obtain⟨z,m⟩:=q (U.qq (nth l i)).toNat;refine⟨?_,fun b c=> ?_,fun b c=> ?_⟩
 .refine jH1.2 ⟨z,by simp,fun a t b c e=> ?_⟩;simp at c;subst c;subst e;obtain⟨_,j,n,f,g⟩:=m _ t;rw[o] at f;have p:U.yw (nth l j)=U.yw (nth l i):=f;rw[p,d] at g;have:=(List.nodup_iff_pairwise_ne.1 nd);rw[jHO] at this;refine this j i (by omega) h n ?_;rw[<-L.nth_lt,<-L.nth_lt h];exact g.symm
 .rcases jG5.1 c with c|c
  .exact(m b c).1
  .simp at c;subst c;exact w.2
 .rcases jG5.1 c with c|c
  .obtain⟨_,j,n,f,g⟩:=m b c;exact⟨j,by omega,f,g⟩
  .simp at c;subst c;exact⟨i,by omega,by rw[o];rfl,d⟩
theorem jze {r:RoD} {x:List (List Int)×List Int} (a:U.yF r l i x):U.yF r l (i+1) x:=
 ⟨a.1,by have:=a.2.1;omega,fun p=>⟨(a.2.2 p).1,fun b c=>⟨((a.2.2 p).2 b c).1,by
  obtain⟨j,d,e⟩:=((a.2.2 p).2 b c).2
  exact⟨j,by omega,e⟩⟩⟩⟩
theorem jCG (g:U.zA (U.rd r)=true) (j:∀s∈l,s∈U.kl (U.rd r)) (nd:l.Nodup) (h:i<l.length) {x:List (List Int)×List Int} (a:U.yF r l i x):
 U.yF r l (i+1) (U.jpd (U.rd r) (U.qG r) (U.zz l l.length) x (nth l i)):=by
 unfold U.jpd;cases k:U.kf (U.zz l l.length) (nth l i) with
 |false=>rw[if_neg (by simp)];exact jze a
 |true=>
  rw[if_pos rfl];have d:=jpe g j nd h a k;have m:=jcA g (j _ (L.mem_nth h))
  split
  .refine⟨by show(x.1.set _ _).length=_;rw[jH6];exact a.1,by have:=a.2.1;show x.2.length<=_;omega,fun p=> ?_⟩;have c:(U.qq (nth l i)).toNat<x.1.length:=(by rw[a.1];omega);show(nth (x.1.set (U.qq (nth l i)).toNat (nth x.1 (U.qq (nth l i)).toNat++[U.vq (nth l i)])) p).Nodup/\_;rw[L.nth_set c]
   split
   .rename_i e;subst e;exact⟨d.1,fun b f=>⟨d.2.1 b f,d.2.2 b f⟩⟩
   .exact(jze a).2.2 p
  .refine⟨a.1,?_,(jze a).2.2⟩;have:=a.2.1;show(x.2++[U.wv (nth l i)]).length<=_;rw[jHk];simp;omega
end
theorem jnV {l:List (List Int)} (h:U.jBs l) (p:Nat):nth l p=[]:=by
 by_cases a:p<l.length
 .exact h _ (L.mem_nth a)
 .unfold nth;rw[jHu,List.getElem?_eq_none (by omega)];rfl
theorem jxF {r:RoD} {l:List ShD} (a:(U.wa r).length=(U.je (U.jc (U.rd r))).length) (c:U.jBs (U.wa r)) (d:U.jF3 r=U.vn):U.yF r l 0 (U.zN r l 0):=by
 refine⟨a,?_,fun p=> ?_⟩
 .show(U.jF3 r).length<=0;rw[d];exact jGY 0
 .have e:nth (U.zN r l 0).1 p=[]:=jnV c p;rw[e];exact⟨List.nodup_nil,fun b f=>by cases f⟩
theorem jFL (m:List ((Int×Int×Unit)×ShD)) (s:ShD):U.kf m s= !(!decide (kS (Ty.dflt tSh) (zI tSt (U.yw s) m)=s)||decide (U.jAB s≠1)):=by
 unfold U.kf;by_cases h:U.jAB s=1<;>simp[h]
section
variable {r:RoD} {l:List ShD} {i:Nat}
theorem jiu (h:i<l.length) (a:U.kf (U.zz l l.length) (nth l i)=false):U.zN r l (i+1)=U.zN r l i:=by
 rw[jeZ h];unfold U.jpd;rw[a,if_neg (by simp)]
theorem jja (h:i<l.length) (a:U.kf (U.zz l l.length) (nth l i)=true) (b:U.jin (U.rd r) (U.qG r) (U.qq (nth l i)) (nth (U.zN r l i).1 (U.qq (nth l i)).toNat++[U.vq (nth l i)])=true):
 U.zN r l (i+1)=((U.zN r l i).1.set (U.qq (nth l i)).toNat (nth (U.zN r l i).1 (U.qq (nth l i)).toNat++[U.vq (nth l i)]),(U.zN r l i).2):=by
 rw[jeZ h];unfold U.jpd;rw[a,if_pos rfl,if_pos b]
theorem jt1 (h:i<l.length) (a:U.kf (U.zz l l.length) (nth l i)=true) (b:U.jin (U.rd r) (U.qG r) (U.qq (nth l i)) (nth (U.zN r l i).1 (U.qq (nth l i)).toNat++[U.vq (nth l i)])=false):
 U.zN r l (i+1)=((U.zN r l i).1,(U.zN r l i).2++[U.wv (nth l i)]):=by
 rw[jeZ h];unfold U.jpd;rw[a,if_pos rfl,b,if_neg (by simp)]
end
theorem jih:jgn:=by
 unfold jgn q92_5 q92_0 q92_4 q92_1 q92_3 q92_2;rintro⟨b,⟨⟩⟩ K;obtain⟨⟨hk,O⟩,⟨P,B⟩,C⟩:U.jBl (U.kM b):=K;have G:=(jO hk).1;have u:=G.2.2;have v:(U.kl (U.rd (U.kM b))).length<=30:=(zc u).2.2.2.2.1;have I:b.2.2.2.2.2.2.2.1.length<=30:=v;have N:(U.jF (U.rd (U.kM b))).length<=30:=jHb (jDy _) v;have g:∀s∈U.jF (U.rd (U.kM b)),s∈U.kl (U.rd (U.kM b)):=fun s D=>wU.1 D
 have w:=wK (U.rd (U.kM b));have M:(U.jm (U.rd (U.kM b))).length<=4:=(zc u).1;refine⟨by show b.2.2.2.2.2.2.2.1.length<=100000;omega,fun _ _ _ _=>trivial,jGD hk,fun _=>⟨⟨0,⟨⟨rfl,trivial⟩,rfl,trivial⟩,jG7 _⟩,fun x J=>⟨fun h=> ?_,fun h _=>⟨⟨0,⟨⟨rfl,trivial⟩,rfl,rfl,trivial⟩,jG7 _,jxF (r:=U.kM b) P B C⟩,fun y n=>⟨fun t=> ?_,fun t=> ?_⟩⟩⟩⟩⟩
 .have h:(x:Int)<((U.jF (U.rd (U.kM b))).length:Int):=of_decide_eq_true h;have D:=jj7 (l:=U.jF (U.rd (U.kM b))) (i:=x) (by omega);exact⟨by omega,h,L.in64 (by omega) (by omega),x+1,⟨⟨by simp,trivial⟩,D.symm,trivial⟩,by show x+1<=(U.jF (U.rd (U.kM b))).length;omega,by show(U.jF (U.rd (U.kM b))).length-(x+1)<(U.jF (U.rd (U.kM b))).length-x;omega⟩
 .have J:x<=(U.jF (U.rd (U.kM b))).length:=J;have h:¬(x:Int)<((U.jF (U.rd (U.kM b))).length:Int):=of_decide_eq_false h;have E:x=(U.jF (U.rd (U.kM b))).length:=(by omega);have t:(y:Int)<((U.jF (U.rd (U.kM b))).length:Int):=of_decide_eq_true t;have a:y<(U.jF (U.rd (U.kM b))).length:=(by omega);obtain⟨_,e⟩:y<=(U.jF (U.rd (U.kM b))).length/\U.yF (U.kM b) (U.jF (U.rd (U.kM b))) y (U.zN (U.kM b) (U.jF (U.rd (U.kM b))) y):=n;have c:=jCG (r:=U.kM b) u g w a e;rw[<-jeZ a] at c;have F:y+1<=(U.jF (U.rd (U.kM b))).length:=a;have A:(U.jF (U.rd (U.kM b))).length-(y+1)<(U.jF (U.rd (U.kM b))).length-y:=(by omega);have q:=jcA u (g _ (L.mem_nth a));have o:=jFL (U.zz (U.jF (U.rd (U.kM b))) (U.jF (U.rd (U.kM b))).length) (nth (U.jF (U.rd (U.kM b))) y);subst E;refine⟨by omega,t,fun p=> ?_,fun p=> ?_⟩
  .have f:U.kf (U.zz (U.jF (U.rd (U.kM b))) (U.jF (U.rd (U.kM b))).length) (nth (U.jF (U.rd (U.kM b))) y)=false:=by
    rw[o];have p:(!decide (kS (Ty.dflt tSh) (zI tSt (U.yw (nth (U.jF (U.rd (U.kM b))) y)) (U.zz (U.jF (U.rd (U.kM b))) (U.jF (U.rd (U.kM b))).length))=nth (U.jF (U.rd (U.kM b))) y)||decide (U.jAB (nth (U.jF (U.rd (U.kM b))) y)≠1))=true:=p;rw[p];rfl
   have d:=jiu (r:=U.kM b) a f;exact⟨L.in64 (by omega) (by omega),y+1,⟨⟨by simp,trivial⟩,congrArg (·.2) d.symm,congrArg (·.1) d.symm,trivial⟩,⟨F,c⟩,A⟩
  .have f:U.kf (U.zz (U.jF (U.rd (U.kM b))) (U.jF (U.rd (U.kM b))).length) (nth (U.jF (U.rd (U.kM b))) y)=true:=by
    rw[o];have p:(!decide (kS (Ty.dflt tSh) (zI tSt (U.yw (nth (U.jF (U.rd (U.kM b))) y)) (U.zz (U.jF (U.rd (U.kM b))) (U.jF (U.rd (U.kM b))).length))=nth (U.jF (U.rd (U.kM b))) y)||decide (U.jAB (nth (U.jF (U.rd (U.kM b))) y)≠1))=false:=p;rw[p];rfl
   have j:=jpe (r:=U.kM b) u g w a e f;have z:=jGe j.1 j.2.1;have H:(nth (U.zN (U.kM b) (U.jF (U.rd (U.kM b))) y).1 (U.qq (nth (U.jF (U.rd (U.kM b))) y)).toNat).length<=4:=by
    rw[jHk] at z;omega
   have k:0<=U.qq (nth (U.jF (U.rd (U.kM b))) y):=q.1.1;have m:U.qq (nth (U.jF (U.rd (U.kM b))) y)<((U.zN (U.kM b) (U.jF (U.rd (U.kM b))) y).1.length:Int):=(by rw[e.1];exact q.1.2);have Q:=e.2.1;refine⟨k,m,k,m,k,m,rfl,rfl,?_,rfl,⟨G,O⟩,q.1,⟨jHb z (by omega),j.2.1⟩,fun n=> ?_,fun n=> ?_⟩
   .show((nth (U.zN (U.kM b) (U.jF (U.rd (U.kM b))) y).1 (U.qq (nth (U.jF (U.rd (U.kM b))) y)).toNat).length+1)*8<=140737488355328;omega
   .have d:=jja (r:=U.kM b) a f n;exact⟨k,m,L.in64 (by omega) (by omega),y+1,⟨⟨by simp,trivial⟩,congrArg (·.2) d.symm,congrArg (·.1) d.symm,trivial⟩,⟨F,c⟩,A⟩
   .have d:=jt1 (r:=U.kM b) a f n;refine⟨?_,L.in64 (by omega) (by omega),y+1,⟨⟨by simp,trivial⟩,congrArg (·.1) d.symm,⟨rfl,rfl,rfl,rfl,rfl,rfl,rfl,rfl,trivial,trivial,trivial,trivial⟩,congrArg (·.2) d.symm,trivial⟩,⟨F,c⟩,A⟩;show((U.zN (U.kM b) (U.jF (U.rd (U.kM b))) y).2.length+1)*8<=140737488355328;omega
 .have t:¬(y:Int)<((U.jF (U.rd (U.kM b))).length:Int):=of_decide_eq_false t;have n:=n.1;have n:y<=(U.jF (U.rd (U.kM b))).length:=n;have a:y=(U.jF (U.rd (U.kM b))).length:=(by omega);subst a;exact⟨rfl,rfl⟩
theorem jls:qv PR 97 jlm:=jAW Tryz.sortI 3 (wQ Tryz.func97 (c:=zM Tryz.f97) (by kernel_rfl) (by kernel_rfl))
theorem jgL:qv PR 66 jgz:=jjX jhf jih Tryz.func66 (kcC jsG (kcC jb0 kcN)) (koC jfu (koC vD (koC jls koN)))
end Go.X
namespace Go.X
open Go.Proofs
namespace U
def ja5 (l:List Int) (n:Nat):Int:=(l.take n).foldl (fun s p=>bor s (1*2^p.toNat)) 0
def jpC (l:List Int):Int:=ja5 l l.length
def zP (d:DyD) (n:Nat):List Int:=((jm d).take n).map (fun b=>jpC (yr (jc d) (vJ b)))
def jDT (d:DyD):List (List Int):=List.replicate (je (jc d)).length vn
def yq (d:DyD):RoD:=(d,zP d (jm d).length,jDT d,vn,())
def qa (d:DyD):RoD:=(d,zP d (jm d).length,(vo (yq d)).1,(vo (yq d)).2,())
def zo (d:DyD):Option RoD:=if ju d=0 then some (qa d) else none
end U
def jpy:zV:=⟨[.val tDy,.nil true],[.cl (.dat (.ptr tRo)),.cl (.dat .int)],fun d=>[(U.kl d.1).length<=100000],fun d=>((U.zo d.1,U.ju d.1,()),())⟩
def jAn:Ann:=fun r=>match r with
 |8=>some fun σ=>{X:=Nat,sl:=fun i=>[(39,.dat .int (i:Int))],ob:=fun i=>[(27,some (.box 82 false (((bx σ 27).set 8 (.own (yf 27 8) .int)).set 10 (.own (yf 27 10) .int)))),(yf 27 10,some (.row 3 .int false .yes U.vn)),(yf 27 8,some (.row 3 .int false .yes (U.zP (gb tDy σ 2) i)))],inv:=fun i=>i<=(U.jm (gb tDy σ 2)).length,mu:=fun i=>(U.jm (gb tDy σ 2)).length-i}
 |13=>some fun σ=>{X:=Nat,sl:=fun i=>[(53,.dat .int (i:Int)),(12,.dat .int (U.ja5 (gd (.slice .int) σ 51) i))],ob:=fun _=>[],inv:=fun i=>i<=(gd (.slice .int) σ 51).length,mu:=fun i=>(gd (.slice .int) σ 51).length-i}
 |3000005=>some fun _=>{X:=Unit,sl:=fun _=>[],ob:=fun _=>[],inv:=fun _=>True,mu:=fun _=>0}
 |_=>none
abbrev q93_1 (d:DyD×Unit×Unit)(x:Nat):=(U.yr d.1.1 (nth d.1.2.2.1 (x:Int).toNat).1)
abbrev q93_2 (d:DyD×Unit×Unit):=(d.1.1.1=d.1.1.1/\d.1.1.2.1=d.1.1.2.1/\d.1.1.2.2.1=d.1.1.2.2.1/\d.1.2.1=d.1.2.1/\d.1.2.2.1=d.1.2.2.1/\d.1.2.2.2.1=d.1.2.2.2.1/\d.1.2.2.2.2.1=d.1.2.2.2.2.1/\d.1.2.2.2.2.2.1=d.1.2.2.2.2.2.1/\True/\True/\True/\True)
abbrev q93_4 (d:DyD×Unit×Unit):=(d.1.1.2.1.length:Int)
abbrev q93_3 (d:DyD×Unit×Unit)(x:Nat):=(U.kM (d.1.1.1,d.1.1.2.1,d.1.1.2.2.1,d.1.2.1,d.1.2.2.1,d.1.2.2.2.1,d.1.2.2.2.2.1,d.1.2.2.2.2.2.1,U.zP d.1 x,List.replicate (q93_4 d).toNat [],U.vn,()))
abbrev q93_0 (d:DyD×Unit×Unit)(x:Nat):=(U.jio (d.1.1.1,d.1.1.2.1,d.1.1.2.2.1,d.1.2.1,d.1.2.2.1,d.1.2.2.2.1,d.1.2.2.2.2.1,d.1.2.2.2.2.2.1,U.zP d.1 x,List.replicate (q93_4 d).toNat [],U.vn,()) (U.vo (q93_3 d x)))
def joW:Prop:=∀(d:DyD×Unit×Unit),(U.kl d.1).length<=100000->(U.kl d.1).length<=100000/\(decide (U.ju d.1≠0)=true->(none,U.ju d.1,())=(U.zo d.1,U.ju d.1,())/\()=())/\(decide (U.ju d.1≠0)=false->0<=(q93_4 d)/\(q93_4 d)=(q93_4 d)/\(q93_4 d).toNat*24<=140737488355328/\((!true)=true->(!true)=true/\(!true)=true/\False)/\((!true)=false->(!true)=false/\(!true)=false/\(!true)=false/\(!true)=false/\(false=true->(none,(1:Int),())=(U.zo d.1,U.ju d.1,())/\()=())/\(false=false->d.1.2.2.1.length<4611686018427387904->(∃(x:Nat),((0=(x:Int)/\True)/\(q93_2 d)/\U.vn=[]/\U.zP d.1 x=[]/\True)/\x<=(U.jm d.1).length)/\∀(x:Nat),x<=(U.jm d.1).length->(decide ((x:Int)<(d.1.2.2.1.length:Int))=true->0<=(x:Int)/\(x:Int)<(d.1.2.2.1.length:Int)/\((q93_1 d x).length<4611686018427387904->(∃(a:Nat),((0=(a:Int)/\0=U.ja5 (q93_1 d x) a/\True)/\True)/\a<=(q93_1 d x).length)/\∀(a:Nat),a<=(q93_1 d x).length->(decide ((a:Int)<(↑(q93_1 d x).length:Int))=true->0<=(a:Int)/\(a:Int)<(↑(q93_1 d x).length:Int)/\0<=nth (q93_1 d x) (a:Int).toNat/\nth (q93_1 d x) (a:Int).toNat<=64/\jw ((1:Int)*2^(nth (q93_1 d x) (a:Int).toNat).toNat)/\jw ((a:Int)+1)/\∃(b:Nat),(((a:Int)+1=(b:Int)/\bor (U.ja5 (q93_1 d x) a) ((1:Int)*2^(nth (q93_1 d x) (a:Int).toNat).toNat)=U.ja5 (q93_1 d x) b/\True)/\True)/\b<=(q93_1 d x).length/\(q93_1 d x).length-b<(q93_1 d x).length-a)/\(decide ((a:Int)<(↑(q93_1 d x).length:Int))=false->((U.zP d.1 x).length+[U.ja5 (q93_1 d x) a].length)*8<=140737488355328/\jw ((x:Int)+1)/\∃(b:Nat),(((x:Int)+1=(b:Int)/\True)/\U.vn=U.vn/\(q93_2 d)/\U.zP d.1 x++[U.ja5 (q93_1 d x) a]=U.zP d.1 b/\True)/\b<=(U.jm d.1).length/\(U.jm d.1).length-b<(U.jm d.1).length-x)))/\(decide ((x:Int)<(d.1.2.2.1.length:Int))=false->U.jBl (q93_3 d x)/\(some ((((q93_0 d x).1,(q93_0 d x).2.1,(q93_0 d x).2.2.1,()),(q93_0 d x).2.2.2.1,(q93_0 d x).2.2.2.2.1,(q93_0 d x).2.2.2.2.2.1,(q93_0 d x).2.2.2.2.2.2.1,(q93_0 d x).2.2.2.2.2.2.2.1,()),(q93_0 d x).2.2.2.2.2.2.2.2.1,(q93_0 d x).2.2.2.2.2.2.2.2.2.1,(q93_0 d x).2.2.2.2.2.2.2.2.2.2.1,()),(0:Int),())=(U.zo d.1,U.ju d.1,())/\()=()))))
end Go.X
namespace Go.X
open Go.Proofs
theorem jgA {l:List Int} {i:Nat} (h:i<l.length):U.ja5 l (i+1)=bor (U.ja5 l i) (1*2^(nth l i).toNat):=by
 unfold U.ja5;rw[L.take_succ h,jHh];rfl
theorem jyY {d:DyD} {i:Nat} (h:i<(U.jm d).length):U.zP d (i+1)=U.zP d i++[U.jpC (U.yr (U.jc d) (U.vJ (nth (U.jm d) i)))]:=by
 unfold U.zP;rw[L.take_succ h,jHH];rfl
theorem jBv (d:DyD) (i:Nat):(U.zP d i).length<=i:=by
 unfold U.zP;rw[jHX,jHv];omega
theorem jsS {c:CrD} (h:U.jj c=true) {j:JbD} {p:Int} (a:p∈U.yr c j):0<=p/\p<8:=by
 have d:=(jA h).2.2.1;unfold U.yr at a
 split at a
 .unfold U.yh at a;obtain⟨n,b,rfl⟩:=jHm.1 a;have:=jG4.1 (jHc.1 b).1;omega
 .cases a
theorem jD2 {c:CrD} (h:U.jj c=true) (j:JbD):(U.yr c j).length<=8:=by
 have a:=(jA h).2.2.1;unfold U.yr
 split
 .unfold U.yh;rw[jHX];exact jHb (jH3 _ _) (by simpa using a)
 .exact jG7 _
theorem jpF {d:DyD} (h:U.ju d=0):U.jBl (U.yq d):=by
 refine⟨⟨h,?_⟩,⟨?_,fun x a=> ?_⟩,rfl⟩
 .show(U.zP d (U.jm d).length).length=(U.jm d).length;unfold U.zP;simp
 .show(U.jDT d).length=(U.je (U.jc d)).length;unfold U.jDT;simp
 .have a:x∈U.jDT d:=a;unfold U.jDT at a;exact(List.mem_replicate.1 a).2
theorem js3:joW:=by
 unfold joW q93_0 q93_3 q93_4 q93_2 q93_1;rintro⟨d,⟨⟩,⟨⟩⟩ j;refine⟨j,fun h=>⟨?_,rfl⟩,fun h=>⟨jHi _,rfl,?_,fun c=>(by cases c),fun _=>⟨rfl,rfl,rfl,rfl,fun c=>(by cases c),fun _=> ?_⟩⟩⟩
 .have h:U.ju d≠0:=of_decide_eq_true h;show(none,U.ju d,())=(U.zo d,U.ju d,());unfold U.zo;rw[if_neg h]
 .have hk:U.ju d=0:=Classical.not_not.1 (of_decide_eq_false h);have e:=(jA (jO hk).1.1).2.2.1;have e:d.1.2.1.length<=8:=e;show((d.1.2.1.length:Int)).toNat*24<=140737488355328;omega
 have hk:U.ju d=0:=Classical.not_not.1 (of_decide_eq_false h);clear j h;have f:=(jO hk).1;have r:=f.2.2;have g:(U.jm d).length<=4:=(zc r).1;have n:d.2.2.1.length<=4:=g;refine fun _=>⟨⟨0,⟨⟨rfl,trivial⟩,⟨rfl,rfl,rfl,rfl,rfl,rfl,rfl,rfl,trivial,trivial,trivial,trivial⟩,rfl,rfl,trivial⟩,jG7 _⟩,fun x o=>⟨fun h=>⟨by omega,of_decide_eq_true h,fun _=>⟨⟨0,⟨⟨rfl,rfl,trivial⟩,trivial⟩,jG7 _⟩,fun y p=>⟨fun a=> ?_,fun a=> ?_⟩⟩⟩,fun h=> ?_⟩⟩
 .have a:(y:Int)<((U.yr (U.jc d) (nth d.2.2.1 (x:Int).toNat).1).length:Int):=of_decide_eq_true a;have b:y<(U.yr (U.jc d) (nth d.2.2.1 (x:Int).toNat).1).length:=(by omega);have s:=jsS f.1 (L.mem_nth b);have k:=jgA b;have e:=jD2 f.1 (nth d.2.2.1 (x:Int).toNat).1;have q:BT.Set' ((2:Int)^(nth (U.yr (U.jc d) (nth d.2.2.1 (x:Int).toNat).1) y).toNat):=BT.two_set (by omega);unfold BT.Set' at q;exact⟨by omega,a,s.1,by show nth (U.yr (U.jc d) (nth d.2.2.1 (x:Int).toNat).1) y<=64;omega,by show jw (1*2^(nth (U.yr (U.jc d) (nth d.2.2.1 (x:Int).toNat).1) y).toNat);rw[jbW];exact L.in64 (by omega) (by omega),L.in64 (by omega) (by omega),y+1,⟨⟨by simp,k.symm,trivial⟩,trivial⟩,by show y+1<=(U.yr (U.jc d) (nth d.2.2.1 (x:Int).toNat).1).length;omega,by show(U.yr (U.jc d) (nth d.2.2.1 (x:Int).toNat).1).length-(y+1)<(U.yr (U.jc d) (nth d.2.2.1 (x:Int).toNat).1).length-y;omega⟩
 .have h:(x:Int)<((U.jm d).length:Int):=of_decide_eq_true h;have k:=jyY (d:=d) (i:=x) (by omega);have j:=jBv d x;have p:y<=(U.yr (U.jc d) (nth d.2.2.1 (x:Int).toNat).1).length:=p;have a:¬(y:Int)<((U.yr (U.jc d) (nth d.2.2.1 (x:Int).toNat).1).length:Int):=of_decide_eq_false a;have m:y=(U.yr (U.jc d) (nth d.2.2.1 (x:Int).toNat).1).length:=(by omega);subst m;refine⟨?_,L.in64 (by omega) (by omega),x+1,⟨⟨by simp,trivial⟩,rfl,⟨rfl,rfl,rfl,rfl,rfl,rfl,rfl,rfl,trivial,trivial,trivial,trivial⟩,k.symm,trivial⟩,by show x+1<=(U.jm d).length;omega,by show(U.jm d).length-(x+1)<(U.jm d).length-x;omega⟩;show((U.zP d x).length+1)*8<=140737488355328;omega
 .have h:¬(x:Int)<((U.jm d).length:Int):=of_decide_eq_false h;have o:x<=(U.jm d).length:=o;have l:x=(U.jm d).length:=(by omega);subst l;refine⟨jpF hk,?_⟩;refine⟨?_,rfl⟩;show(some (U.qa d),(0:Int),())=(U.zo d,U.ju d,());unfold U.zo;rw[if_pos hk,hk]
theorem yK:qv PR 34 jpy:=jjX jAn js3 Tryz.func34 (kcC jvS (kcC jBj kcN)) (koC jgL koN)
end Go.X
namespace Go.X
open Go.Proofs
namespace U
def qw (d:DyD) (n:Nat):List Int:=(List.range n).map (fun(b:Nat)=>yV (wa (qa d)) (b:Int))
def jbD (d:DyD):List Int:=if ju d=0 then qw d (jm d).length else[]
def jbR (d:DyD):List Int:=if ju d=0 then jF3 (qa d) else[]
def jt2 (d:DyD) (b:Nat):Bool:=jdr d (b:Int) (yV (wa (qa d)) (b:Int))
def vZ (d:DyD) (n:Nat):List Int:=((List.range n).filter (jt2 d)).map (fun(b:Nat)=>(b:Int))
def jgr (d:DyD):List Int:=if ju d=0 then vZ d (jm d).length else[]
def jqq (d:DyD) (p:Int):Bool:=ja p 0 (((je (jc d)).length:Int)-1)
def jzc (d:DyD) (b:Int):Bool:=ja b 0 (((jm d).length:Int)-1)
end U
def jvv:jT:=⟨[.val tDy],[.slice .int,.int],false,fun d=>[(U.kl d.1).length<=100000],fun d=>(U.jbD d.1,U.ju d.1,())⟩
def jwY:Ann:=fun r=>match r with
 |6=>some fun σ=>{X:=Nat,sl:=fun i=>[(19,.dat .int (i:Int)),(6,.own 6 .int)],ob:=fun i=>[(6,some (.row 3 .int false .yes (U.qw (gb tDy σ 1) i)))],inv:=fun i=>i<=(U.jm (gb tDy σ 1)).length,mu:=fun i=>(U.jm (gb tDy σ 1)).length-i}
 |_=>none
def jva:Prop:=∀(d:DyD×Unit),(U.kl d.1).length<=100000->(U.kl d.1).length<=100000/\(decide (U.ju d.1≠0)=true->([],U.ju d.1,())=(U.jbD d.1,U.ju d.1,()))/\(decide (U.ju d.1≠0)=false->d.1.2.2.1.length<4611686018427387904->(∃(x:Nat),((0=(x:Int)/\True/\True)/\U.qw d.1 x=[]/\True)/\x<=(U.jm d.1).length)/\∀(x:Nat),x<=(U.jm d.1).length->(decide ((x:Int)<(d.1.2.2.1.length:Int))=true->(U.zo d.1).isSome=true/\(U.wa (U.ro (U.zo d.1))).length<=60/\((U.qw d.1 x).length+[U.yV (U.wa (U.ro (U.zo d.1))) (x:Int)].length)*8<=140737488355328/\jw ((x:Int)+1)/\∃(a:Nat),(((x:Int)+1=(a:Int)/\True/\True)/\U.qw d.1 x++[U.yV (U.wa (U.ro (U.zo d.1))) (x:Int)]=U.qw d.1 a/\True)/\a<=(U.jm d.1).length/\(U.jm d.1).length-a<(U.jm d.1).length-x)/\(decide ((x:Int)<(d.1.2.2.1.length:Int))=false->(U.qw d.1 x,(0:Int),())=(U.jbD d.1,U.ju d.1,())))
def jpq:jT:=⟨[.val tDy],[.slice .int,.int],false,fun d=>[(U.kl d.1).length<=100000],fun d=>(U.jbR d.1,U.ju d.1,())⟩
def jo2:Prop:=∀(d:DyD×Unit),(U.kl d.1).length<=100000->(U.kl d.1).length<=100000/\(decide (U.ju d.1≠0)=true->([],U.ju d.1,())=(U.jbR d.1,U.ju d.1,()))/\(decide (U.ju d.1≠0)=false->(U.zo d.1).isSome=true/\((j7 ((((0:Int),[],[],()),[],[],(0:Int),(0:Int),[],()),[],[],[],()) (U.zo d.1)).2.2.2.1,(0:Int),())=(U.jbR d.1,U.ju d.1,()))
def jr6:jT:=⟨[.val tDy],[.slice .int,.int],false,fun d=>[(U.kl d.1).length<=100000],fun d=>(U.jgr d.1,U.ju d.1,())⟩
def jtK:Ann:=fun r=>match r with
 |6=>some fun σ=>{X:=Nat,sl:=fun i=>[(19,.dat .int (i:Int)),(6,.own 6 .int)],ob:=fun i=>[(6,some (.row 3 .int false .yes (U.vZ (gb tDy σ 1) i)))],inv:=fun i=>i<=(U.jm (gb tDy σ 1)).length,mu:=fun i=>(U.jm (gb tDy σ 1)).length-i}
 |_=>none
def jrG:Prop:=∀(d:DyD×Unit),(U.kl d.1).length<=100000->(U.kl d.1).length<=100000/\(decide (U.ju d.1≠0)=true->([],U.ju d.1,())=(U.jgr d.1,U.ju d.1,()))/\(decide (U.ju d.1≠0)=false->d.1.2.2.1.length<4611686018427387904->(∃(x:Nat),((0=(x:Int)/\True/\True)/\U.vZ d.1 x=[]/\True)/\x<=(U.jm d.1).length)/\∀(x:Nat),x<=(U.jm d.1).length->(decide ((x:Int)<(d.1.2.2.1.length:Int))=true->(U.zo d.1).isSome=true/\(U.wa (U.ro (U.zo d.1))).length<=60/\(U.zo d.1).isSome=true/\U.wJ (U.rd (U.ro (U.zo d.1))) (x:Int)/\(U.jdr (U.rd (U.ro (U.zo d.1))) (x:Int) (U.yV (U.wa (U.ro (U.zo d.1))) (x:Int))=true->((U.vZ d.1 x).length+[(x:Int)].length)*8<=140737488355328/\jw ((x:Int)+1)/\∃(a:Nat),(((x:Int)+1=(a:Int)/\True/\True)/\U.vZ d.1 x++[(x:Int)]=U.vZ d.1 a/\True)/\a<=(U.jm d.1).length/\(U.jm d.1).length-a<(U.jm d.1).length-x)/\(U.jdr (U.rd (U.ro (U.zo d.1))) (x:Int) (U.yV (U.wa (U.ro (U.zo d.1))) (x:Int))=false->jw ((x:Int)+1)/\∃(a:Nat),((True/\(x:Int)+1=(a:Int)/\True)/\U.vZ d.1 x=U.vZ d.1 a/\True)/\a<=(U.jm d.1).length/\(U.jm d.1).length-a<(U.jm d.1).length-x))/\(decide ((x:Int)<(d.1.2.2.1.length:Int))=false->(U.vZ d.1 x,(0:Int),())=(U.jgr d.1,U.ju d.1,())))
end Go.X
namespace Go.X
open Go.Proofs
theorem jjb {r:RoD} {l:List ShD} (d:U.zA (U.rd r)=true) (e:∀s∈l,s∈U.kl (U.rd r)) (nd:l.Nodup) (a:(U.wa r).length=(U.je (U.jc (U.rd r))).length) (b:U.jBs (U.wa r)) (c:U.jF3 r=U.vn):
 ∀i,i<=l.length->U.yF r l i (U.zN r l i)
 |0,_=>jxF a b c
 |i+1,hi=>by
  rw[jeZ hi]
  exact jCG d e nd hi (jjb d e nd a b c i (by omega))
structure jEM (d:DyD):Prop where
 may:U.jqg (U.qa d)
 len:(U.wa (U.qa d)).length=(U.je (U.jc d)).length
 row:∀p,(nth (U.wa (U.qa d)) p).Nodup/\∀b∈nth (U.wa (U.qa d)) p,U.wJ d b
theorem jl4 {d:DyD} (h:U.ju d=0):jEM d:=by
 obtain⟨⟨_,i⟩,⟨j,c⟩,e⟩:=jpF h;have f:=(jO h).1;have a:=jjb (r:=U.yq d) (l:=U.jF d) f.2.2 (fun s k=>wU.1 k) (wK d) j c e _ (jGY _);refine⟨⟨f,i⟩,a.1,fun p=> ?_⟩;have:=a.2.2 p;exact⟨this.1,fun b g=>(this.2 b g).1⟩
theorem jEM.len60 {d:DyD} (h:jEM d):(U.wa (U.qa d)).length<=60:=by
 have a:=(jA h.may.1.1).2.2.1;have a:(U.je (U.jc d)).length<=8:=a;rw[h.len];omega
theorem jum {d:DyD} (h:U.ju d=0):U.zo d=some (U.qa d):=if_pos h
theorem jvj (d:DyD) (n:Nat):U.qw d (n+1)=U.qw d n++[U.yV (U.wa (U.qa d)) (n:Int)]:=by
 unfold U.qw;rw[jHn,jHH];rfl
theorem jzp:jva:=by
 rintro⟨d,⟨⟩⟩ j;refine⟨j,fun h=> ?_,fun h _=>⟨⟨0,⟨⟨rfl,trivial,trivial⟩,rfl,trivial⟩,jG7 _⟩,fun x g=>⟨fun a=> ?_,fun a=> ?_⟩⟩⟩
 .have h:U.ju d≠0:=of_decide_eq_true h;show([],U.ju d,())=(U.jbD d,U.ju d,());unfold U.jbD;rw[if_neg h]
 .have hk:U.ju d=0:=Classical.not_not.1 (of_decide_eq_false h);have f:=jl4 hk;have i:(U.jm d).length<=4:=(zc f.may.1.2.2).1;have a:(x:Int)<((U.jm d).length:Int):=of_decide_eq_true a;have k:=jvj d x;have e:(U.qw d x).length=x:=(by unfold U.qw;simp);have b:=jum hk;refine⟨by show(U.zo d).isSome=true;rw[b];rfl,by show(U.wa (U.ro (U.zo d))).length<=60;rw[b];exact f.len60,?_,L.in64 (by omega) (by omega),x+1,⟨⟨by simp,trivial,trivial⟩,?_,trivial⟩,by show x+1<=(U.jm d).length;omega,by show(U.jm d).length-(x+1)<(U.jm d).length-x;omega⟩
  .show((U.qw d x).length+1)*8<=_;omega
  .show U.qw d x++[U.yV (U.wa (U.ro (U.zo d))) (x:Int)]=U.qw d (x+1);rw[b,k];rfl
 .have hk:U.ju d=0:=Classical.not_not.1 (of_decide_eq_false h);have g:x<=(U.jm d).length:=g;have a:¬(x:Int)<((U.jm d).length:Int):=of_decide_eq_false a;have c:x=(U.jm d).length:=(by omega);subst c;show(U.qw d _,(0:Int),())=(U.jbD d,U.ju d,());unfold U.jbD;rw[if_pos hk,hk]
theorem jma:zk PR 9 jvv:=kI jwY jzp Tryz.func9 (kcC ja8 kcN) (koC yK koN)
theorem js9:jo2:=by
 rintro⟨d,⟨⟩⟩ b;refine⟨b,fun h=> ?_,fun h=> ?_⟩
 .have h:U.ju d≠0:=of_decide_eq_true h;show([],U.ju d,())=(U.jbR d,U.ju d,());unfold U.jbR;rw[if_neg h]
 .have hk:U.ju d=0:=Classical.not_not.1 (of_decide_eq_false h);have a:=jum hk;refine⟨by show(U.zo d).isSome=true;rw[a];rfl,?_⟩;show(U.jF3 (U.ro (U.zo d)),(0:Int),())=(U.jbR d,U.ju d,());unfold U.jbR;rw[if_pos hk,hk,a];rfl
theorem jhr:zk PR 19 jpq:=jU js9 Tryz.func19 kcN (koC yK koN)
theorem jvo (d:DyD) (n:Nat):U.vZ d (n+1)=U.vZ d n++(if U.jt2 d n=true then[(n:Int)] else[]):=by
 unfold U.vZ;rw[L.range_filter_succ,jHH];by_cases h:U.jt2 d n=true
 .rw[if_pos h,if_pos h];rfl
 .rw[if_neg h,if_neg h];rfl
theorem jwf:jrG:=by
 rintro⟨d,⟨⟩⟩ r;refine⟨r,fun h=> ?_,fun h _=>⟨⟨0,⟨⟨rfl,trivial,trivial⟩,rfl,trivial⟩,jG7 _⟩,fun x m=>⟨fun b=> ?_,fun b=> ?_⟩⟩⟩
 .have h:U.ju d≠0:=of_decide_eq_true h;show([],U.ju d,())=(U.jgr d,U.ju d,());unfold U.jgr;rw[if_neg h]
 .have hk:U.ju d=0:=Classical.not_not.1 (of_decide_eq_false h);have l:=jl4 hk;have q:(U.jm d).length<=4:=(zc l.may.1.2.2).1;have b:(x:Int)<((U.jm d).length:Int):=of_decide_eq_true b;have e:=jvo d x;have k:(U.vZ d x).length<=x:=by
   unfold U.vZ;rw[jHX];exact jHb (jH3 _ _) (by simp)
  have c:=jum hk;have i:(U.zo d).isSome=true:=(by rw[c];rfl);have o:(U.wa (U.ro (U.zo d))).length<=60:=(by rw[c];exact l.len60);have p:U.wJ (U.rd (U.ro (U.zo d))) (x:Int):=(by rw[c];exact⟨by omega,b⟩);have j:U.jdr (U.rd (U.ro (U.zo d))) (x:Int) (U.yV (U.wa (U.ro (U.zo d))) (x:Int))=U.jt2 d x:=(by rw[c];rfl);have n:x+1<=(U.jm d).length:=(by omega);have g:(U.jm d).length-(x+1)<(U.jm d).length-x:=(by omega);refine⟨i,o,i,p,fun a=> ?_,fun a=> ?_⟩
  .have a:U.jt2 d x=true:=(by rw[<-j];exact a);refine⟨?_,L.in64 (by omega) (by omega),x+1,⟨⟨by simp,trivial,trivial⟩,?_,trivial⟩,n,g⟩
   .show((U.vZ d x).length+1)*8<=_;omega
   .rw[if_pos a] at e;exact e.symm
  .have a:U.jt2 d x=false:=(by rw[<-j];exact a);refine⟨L.in64 (by omega) (by omega),x+1,⟨⟨trivial,by simp,trivial⟩,?_,trivial⟩,n,g⟩;rw[if_neg (by rw[a];simp),jHq] at e;exact e.symm
 .have hk:U.ju d=0:=Classical.not_not.1 (of_decide_eq_false h);have m:x<=(U.jm d).length:=m;have b:¬(x:Int)<((U.jm d).length:Int):=of_decide_eq_false b;have f:x=(U.jm d).length:=(by omega);subst f;show(U.vZ d _,(0:Int),())=(U.jgr d,U.ju d,());unfold U.jgr;rw[if_pos hk,hk]
theorem jsH:zk PR 20 jr6:=kI jtK jwf Tryz.func20 (kcC ja8 (kcC ja9 kcN)) (koC yK koN)
end Go.X
namespace Go.X
open Go.Proofs
theorem jax {l:List Int} (h:∀p∈l,0<=p/\p<8):∀n,n<=l.length->BT.Set' (U.ja5 l n)/\∀q,BT.has (U.ja5 l n) q=true->q<8
 |0,_=>⟨BT.zero_set,fun q a=>by rw[show U.ja5 l 0=0 from rfl,BT.has_zero] at a;cases a⟩
 |n+1,d=>by
  have b:=jax h n (by omega)
  have e:=h _ (L.mem_nth (l:=l) (i:=n) (by omega))
  have c:BT.Set' ((2:Int)^(nth l n).toNat):=BT.two_set (by omega)
  rw[jgA (by omega),jbW]
  refine⟨BT.bor_set b.1 c,fun q a=> ?_⟩
  rw[BT.has_bor b.1 c,jH5,BT.has_two,decide_eq_true_eq] at a
  rcases a with a|a
  .exact b.2 q a
  .omega
end Go.X
namespace Go.X
open Go.Proofs
abbrev tSe:Ty:= .st [.ptr tRo,.slice (.slice .int),.slice .int,.slice .int,.int,.bool]
abbrev jGM:Sh:= .box 87 [.dat (.ptr tRo),.row 34 (.slice .int) .unk,.row 3 .int .no,.row 3 .int .unk,.dat .int,.dat .bool]
abbrev SeD:Type:=Option RoD×List (List Int)×List Int×List Int×Int×Bool×Unit
abbrev StD:Type:=List Int×List Int×Int×Bool
namespace U
def kC (ts:List Int) (p:Int) (n:Nat):List Int:=((List.range n).filter (fun i=>decide (qO (nth ts i/2^p.toNat) 1=1))).map (fun(i:Nat)=>(i:Int))
def wW (r:RoD) (ts:List Int) (b n:Nat):Bool:=(List.range n).all (fun p=>jaf r (p:Int) (kC ts (p:Int) (b+1)))
def wj (r:RoD) (ch:List (List Int)):Nat->Nat->Int->StD->StD
 |0,_,_,x=>x
 |k+1,b,fee,x=>
  if(x.2.2.2&&decide (x.2.2.1<=fee))=true then x
  else if b=(jm (rd r)).length then(x.1,x.1,fee,true)
  else(nth ch b).foldl (fun x t=>if wW r (x.1.set b t) b (wa r).length=true then wj r ch k (b+1) (fee+wP (rd r) t) (x.1.set b t,x.2) else(x.1.set b t,x.2)) x
def yX (r:RoD) (ch:List (List Int)) (k b:Nat) (fee:Int) (x:StD) (t:Int):StD:=
 if wW r (x.1.set b t) b (wa r).length=true then wj r ch k (b+1) (fee+wP (rd r) t) (x.1.set b t,x.2) else(x.1.set b t,x.2)
def jq (r:RoD) (ch:List (List Int)) (k b:Nat) (fee:Int) (x:StD) (n:Nat):StD:=((nth ch b).take n).foldl (yX r ch k b fee) x
def jl (s:SeD):StD:=(s.2.2.1,s.2.2.2.1,s.2.2.2.2.1,s.2.2.2.2.2.1)
def vB (s:SeD) (x:StD):SeD:=(s.1,s.2.1,x.1,x.2.1,x.2.2.1,x.2.2.2,())
def okCh (d:DyD) (ch:List (List Int)):Prop:=ch.length=(jm d).length/\∀l∈ch,∀t∈l,0<=t/\t<256
def jvZ (k:Nat) (s:SeD) (b fee:Int):Prop:=s.1.isSome=true/\jqg (ro s.1)/\(wa (ro s.1)).length=(je (jc (rd (ro s.1)))).length/\okCh (rd (ro s.1)) s.2.1/\s.2.2.1.length=(jm (rd (ro s.1))).length/\
 (0<=b/\b<=((jm (rd (ro s.1))).length:Int)/\((jm (rd (ro s.1))).length:Int)<b+k)/\0<=fee/\fee<=8000*b
end U
def yI:zV:=⟨[.own (.cl (.row 3 .int .no)) true],[rwI],fun d=>[d.1.length<=100000],fun d=>((d.1,()),(d.1,()))⟩
def jeP:Prop:=∀(d:List Int×Unit),d.1.length<=100000->(false=true->([],())=d/\d=d)/\(false=false->(0+d.1.length)*8<=140737488355328/\([]++d.1,())=d/\d=d)
def vp (k:Nat):zV:=⟨[.own jGM true,.val .int,.val .int],[],fun d=>[U.jvZ k d.1 d.2.1 d.2.2.1],fun d=>((),(U.vB d.1 (U.wj (U.ro d.1.1) d.1.2.1 k d.2.1.toNat d.2.2.1 (U.jl d.1)),()))⟩
def jiq (k:Nat):Ann:=fun r=>match r with
 |4=>some fun σ=>{X:=Nat,sl:=fun i=>[(58,.dat .int (i:Int)),(53,.any),(55,.any)],ob:=fun i=>[(1000000,some (.box 87 false (((bx σ 1000000).set 4 (.dat .int (U.jq (U.ro (gb tSe σ 1000000).1) (gb tSe σ 1000000).2.1 k (gd .int σ 1).toNat (gd .int σ 2) (U.jl (gb tSe σ 1000000)) i).2.2.1)).set 5 (.dat .bool (U.jq (U.ro (gb tSe σ 1000000).1) (gb tSe σ 1000000).2.1 k (gd .int σ 1).toNat (gd .int σ 2) (U.jl (gb tSe σ 1000000)) i).2.2.2)))),(400002,some (.row 3 .int false .no (U.jq (U.ro (gb tSe σ 1000000).1) (gb tSe σ 1000000).2.1 k (gd .int σ 1).toNat (gd .int σ 2) (U.jl (gb tSe σ 1000000)) i).1)),(400003,some (.row 3 .int false .unk (U.jq (U.ro (gb tSe σ 1000000).1) (gb tSe σ 1000000).2.1 k (gd .int σ 1).toNat (gd .int σ 2) (U.jl (gb tSe σ 1000000)) i).2.1))],inv:=fun i=>i<=(nth (gb tSe σ 1000000).2.1 (gd .int σ 1).toNat).length/\(U.jq (U.ro (gb tSe σ 1000000).1) (gb tSe σ 1000000).2.1 k (gd .int σ 1).toNat (gd .int σ 2) (U.jl (gb tSe σ 1000000)) i).1.length=(gb tSe σ 1000000).2.2.1.length,mu:=fun i=>(nth (gb tSe σ 1000000).2.1 (gd .int σ 1).toNat).length-i}
 |8=>some fun σ=>{X:=Nat,sl:=fun p=>[(77,.dat .int (p:Int))],ob:=fun _=>[],inv:=fun p=>p<=(U.wa (U.ro (gb tSe σ 1000000).1)).length/\U.wW (U.ro (gb tSe σ 1000000).1) (gr .int σ 400002) (gd .int σ 1).toNat p=true,mu:=fun p=>(U.wa (U.ro (gb tSe σ 1000000).1)).length-p}
 |12=>some fun σ=>{X:=Nat,sl:=fun i=>[(88,.dat .int (i:Int)),(9,.own 9 .int)],ob:=fun i=>[(9,some (.row 3 .int false .yes (U.kC (gr .int σ 400002) (gd .int σ 8) i)))],inv:=fun i=>i<=(gd .int σ 1).toNat+1,mu:=fun i=>(gd .int σ 1).toNat+1-i}
 |_=>none
def jjF:Prop:=∀k:Nat,jv0 (ctx 125 [(76,jbL),(49,jbK)] [(75,yI),(42,vp k)]) (jiq k) Tryz.f42 (zM Tryz.f42) (vp (k+1))
abbrev q98_1 (d:(Option RoD×List (List Int)×List Int×List Int×Int×Bool×Unit)×Int×Int×Unit)(k:Nat)(x:Nat):=(U.jq (U.ro d.1.1) d.1.2.1 k d.2.1.toNat d.2.2.1 (U.jl d.1) x)
abbrev q98_3 (d:(Option RoD×List (List Int)×List Int×List Int×Int×Bool×Unit)×Int×Int×Unit)(k:Nat)(a:Nat):=(U.jq (U.ro d.1.1) d.1.2.1 k d.2.1.toNat d.2.2.1 (U.jl d.1) a)
abbrev q98_4 (d:(Option RoD×List (List Int)×List Int×List Int×Int×Bool×Unit)×Int×Int×Unit):=(j7 ((((0:Int),[],[],()),[],[],(0:Int),(0:Int),[],()),[],[],[],()) d.1.1)
abbrev q98_5 (d:(Option RoD×List (List Int)×List Int×List Int×Int×Bool×Unit)×Int×Int×Unit):=(nth d.1.2.1 d.2.1.toNat)
abbrev q98_2 (d:(Option RoD×List (List Int)×List Int×List Int×Int×Bool×Unit)×Int×Int×Unit)(k:Nat)(x:Nat):=((q98_1 d k x).1.set d.2.1.toNat (nth (q98_5 d) (x:Int).toNat))
abbrev q98_6 (d:(Option RoD×List (List Int)×List Int×List Int×Int×Bool×Unit)×Int×Int×Unit)(k:Nat)(x:Nat):=(d.1.1,d.1.2.1,(q98_1 d k x).1.set d.2.1.toNat (nth (q98_5 d) (x:Int).toNat),(q98_1 d k x).2.1,(q98_1 d k x).2.2.1,(q98_1 d k x).2.2.2,())
abbrev q98_0 (d:(Option RoD×List (List Int)×List Int×List Int×Int×Bool×Unit)×Int×Int×Unit)(k:Nat)(x:Nat):=(U.vB (q98_6 d k x) (U.wj (U.ro d.1.1) d.1.2.1 k (d.2.1+1).toNat (d.2.2.1+U.wP (U.rd (U.ro d.1.1)) (nth (q98_5 d) (x:Int).toNat)) (U.jl (q98_6 d k x))))
abbrev q98_7 (d:(Option RoD×List (List Int)×List Int×List Int×Int×Bool×Unit)×Int×Int×Unit)(k:Nat):=(U.vB d.1 (U.wj (U.ro d.1.1) d.1.2.1 (k+1) d.2.1.toNat d.2.2.1 (U.jl d.1)),())
def ja2:Prop:=∀(k:Nat) (d:(Option RoD×List (List Int)×List Int×List Int×Int×Bool×Unit)×Int×Int×Unit),U.jvZ (k+1) d.1 d.2.1 d.2.2.1->((d.1.2.2.2.2.2.1&&decide (d.1.2.2.2.2.1<=d.2.2.1))=true->()=()/\(d.1,())=(q98_7 d k))/\((d.1.2.2.2.2.2.1&&decide (d.1.2.2.2.2.1<=d.2.2.1))=false->d.1.1.isSome=true/\((q98_4 d).1.2.2.1.length<4611686018427387904->(decide (d.2.1=(↑(q98_4 d).1.2.2.1.length:Int))=true->d.1.2.2.1.length<=100000/\()=()/\((d.1.1,d.1.2.1,d.1.2.2.1,d.1.2.2.1,d.2.2.1,true,()),())=(q98_7 d k))/\(decide (d.2.1=(↑(q98_4 d).1.2.2.1.length:Int))=false->0<=d.2.1/\d.2.1<(d.1.2.1.length:Int)/\((q98_5 d).length<4611686018427387904->(∃(x:Nat),((0=(x:Int)/\True)/\(d.1.1=d.1.1/\True/\True/\True/\d.1.2.2.2.2.1=(q98_1 d k x).2.2.1/\d.1.2.2.2.2.2.1=(q98_1 d k x).2.2.2/\True)/\d.1.2.2.1=(q98_1 d k x).1/\d.1.2.2.2.1=(q98_1 d k x).2.1/\True)/\x<=(q98_5 d).length/\(q98_1 d k x).1.length=d.1.2.2.1.length)/\∀(x:Nat),x<=(q98_5 d).length/\(q98_1 d k x).1.length=d.1.2.2.1.length->(decide ((x:Int)<(↑(q98_5 d).length:Int))=true->0<=(x:Int)/\(x:Int)<(↑(q98_5 d).length:Int)/\0<=d.2.1/\d.2.1<(↑(q98_1 d k x).1.length:Int)/\d.1.1.isSome=true/\((q98_4 d).2.2.1.length<4611686018427387904->(∃(a:Nat),((0=(a:Int)/\True)/\True)/\a<=(U.wa (U.ro d.1.1)).length/\U.wW (U.ro d.1.1) (q98_2 d k x) d.2.1.toNat a=true)/\∀(a:Nat),a<=(U.wa (U.ro d.1.1)).length/\U.wW (U.ro d.1.1) (q98_2 d k x) d.2.1.toNat a=true->(decide ((a:Int)<(↑(q98_4 d).2.2.1.length:Int))=true->jw (d.2.1+1)/\(0:Int)<=0/\0<=d.2.1+1/\d.2.1+1<=(↑(q98_2 d k x).length:Int)/\((d.2.1+1).toNat-Int.toNat 0<4611686018427387904->(∃(b:Nat),((0=(b:Int)/\True/\True)/\U.kC (q98_2 d k x) (a:Int) b=[]/\True)/\b<=d.2.1.toNat+1)/\∀(b:Nat),b<=d.2.1.toNat+1->(decide ((b:Int)<(↑((d.2.1+1).toNat-Int.toNat 0):Int))=true->0<=(b:Int)/\(b:Int)<(↑((d.2.1+1).toNat-Int.toNat 0):Int)/\0<=(a:Int)/\(a:Int)<=64/\(decide (qO (nth (q98_2 d k x) (Int.toNat 0+(b:Int).toNat)/(2:Int)^(a:Int).toNat) (1:Int)=1)=true->((U.kC (q98_2 d k x) (a:Int) b).length+[(b:Int)].length)*8<=140737488355328/\jw ((b:Int)+1)/\∃(c:Nat),(((b:Int)+1=(c:Int)/\True/\True)/\U.kC (q98_2 d k x) (a:Int) b++[(b:Int)]=U.kC (q98_2 d k x) (a:Int) c/\True)/\c<=d.2.1.toNat+1/\d.2.1.toNat+1-c<d.2.1.toNat+1-b)/\(decide (qO (nth (q98_2 d k x) (Int.toNat 0+(b:Int).toNat)/(2:Int)^(a:Int).toNat) (1:Int)=1)=false->jw ((b:Int)+1)/\∃(c:Nat),((True/\(b:Int)+1=(c:Int)/\True)/\U.kC (q98_2 d k x) (a:Int) b=U.kC (q98_2 d k x) (a:Int) c/\True)/\c<=d.2.1.toNat+1/\d.2.1.toNat+1-c<d.2.1.toNat+1-b))/\(decide ((b:Int)<(↑((d.2.1+1).toNat-Int.toNat 0):Int))=false->d.1.1.isSome=true/\U.jqg (U.ro d.1.1)/\U.joN (U.rd (U.ro d.1.1)) (a:Int)/\U.jib (U.rd (U.ro d.1.1)) (U.kC (q98_2 d k x) (a:Int) b)/\((!U.jaf (U.ro d.1.1) (a:Int) (U.kC (q98_2 d k x) (a:Int) b))=true->jw ((x:Int)+1)/\∃(c:Nat),(((x:Int)+1=(c:Int)/\True)/\(q98_1 d k x).2.1=(q98_3 d k c).2.1/\(d.1.1=d.1.1/\True/\True/\True/\(q98_1 d k x).2.2.1=(q98_3 d k c).2.2.1/\(q98_1 d k x).2.2.2=(q98_3 d k c).2.2.2/\True)/\(q98_1 d k x).1.set d.2.1.toNat (nth (q98_5 d) (x:Int).toNat)=(q98_3 d k c).1/\True)/\(c<=(q98_5 d).length/\(q98_3 d k c).1.length=d.1.2.2.1.length)/\(q98_5 d).length-c<(q98_5 d).length-x)/\((!U.jaf (U.ro d.1.1) (a:Int) (U.kC (q98_2 d k x) (a:Int) b))=false->jw ((a:Int)+1)/\∃(c:Nat),(((a:Int)+1=(c:Int)/\True)/\True)/\(c<=(U.wa (U.ro d.1.1)).length/\U.wW (U.ro d.1.1) (q98_2 d k x) d.2.1.toNat c=true)/\(U.wa (U.ro d.1.1)).length-c<(U.wa (U.ro d.1.1)).length-a))))/\(decide ((a:Int)<(↑(q98_4 d).2.2.1.length:Int))=false->jw (d.2.1+1)/\d.1.1.isSome=true/\U.jj (U.jc (U.rd (U.ro d.1.1)))=true/\0<=nth (q98_5 d) (x:Int).toNat/\nth (q98_5 d) (x:Int).toNat<=1000000/\jw (d.2.2.1+U.wP (U.rd (U.ro d.1.1)) (nth (q98_5 d) (x:Int).toNat))/\U.jvZ k (q98_6 d k x) (d.2.1+1) (d.2.2.1+U.wP (U.rd (U.ro d.1.1)) (nth (q98_5 d) (x:Int).toNat))/\jw ((x:Int)+1)/\∃(c:Nat),(((x:Int)+1=(c:Int)/\True)/\((q98_0 d k x).1=d.1.1/\True/\True/\True/\(q98_0 d k x).2.2.2.2.1=(q98_3 d k c).2.2.1/\(q98_0 d k x).2.2.2.2.2.1=(q98_3 d k c).2.2.2/\True)/\(q98_0 d k x).2.1=d.1.2.1/\(q98_0 d k x).2.2.2.1=(q98_3 d k c).2.1/\(q98_0 d k x).2.2.1=(q98_3 d k c).1/\True)/\(c<=(q98_5 d).length/\(q98_3 d k c).1.length=d.1.2.2.1.length)/\(q98_5 d).length-c<(q98_5 d).length-x)))/\(decide ((x:Int)<(↑(q98_5 d).length:Int))=false->()=()/\((d.1.1,d.1.2.1,(q98_1 d k x).1,(q98_1 d k x).2.1,(q98_1 d k x).2.2.1,(q98_1 d k x).2.2.2,()),())=(q98_7 d k))))))
theorem jdI:(jjF)=ja2:=by kernel_rfl
end Go.X
namespace Go.X
open Go.Proofs
theorem jgZ:jeP:=by
 rintro⟨l,⟨⟩⟩ a;have a:l.length<=100000:=a;exact⟨fun h=>(by cases h),fun _=>⟨by show(0+l.length)*8<=_;omega,rfl,rfl⟩⟩
theorem jfo:qv PR 75 yI:=jmi jgZ Tryz.func75 kcN koN
theorem jvM (ts:List Int) (p:Int) (n:Nat):U.kC ts p (n+1)=U.kC ts p n++(if decide (qO (nth ts n/2^p.toNat) 1=1)=true then[(n:Int)] else[]):=by
 unfold U.kC;rw[L.range_filter_succ,jHH];by_cases h:decide (qO (nth ts n/2^p.toNat) 1=1)=true
 .rw[if_pos h,if_pos h];rfl
 .rw[if_neg h,if_neg h];rfl
theorem jpV (ts:List Int) (p:Int) (n:Nat):(U.kC ts p n).length<=n:=by
 unfold U.kC;rw[jHX];exact jHb (jH3 _ _) (by simp)
theorem jyt {ts:List Int} {p:Int} {n:Nat} {b:Int} (h:b∈U.kC ts p n):0<=b/\b<(n:Int):=by
 unfold U.kC at h;obtain⟨i,hi,rfl⟩:=jHm.1 h;have:=jG4.1 (jHc.1 hi).1;omega
theorem jsA {r:RoD} {ts:List Int} {b n:Nat}:U.wW r ts b (n+1)=(U.wW r ts b n&&U.jaf r (n:Int) (U.kC ts (n:Int) (b+1))):=by
 unfold U.wW;rw[jHn,List.all_append];simp
theorem jpU {r:RoD} {ts:List Int} {b n m:Nat} (a:m<n) (h:U.jaf r (m:Int) (U.kC ts (m:Int) (b+1))=false):U.wW r ts b n=false:=by
 unfold U.wW;rw[jHZ];exact⟨m,jG4.2 a,by rw[h];simp⟩
theorem jpg {r:RoD} {ch:List (List Int)} {k b:Nat} {fee:Int} {x:StD} {n:Nat} (h:n<(nth ch b).length):U.jq r ch k b fee x (n+1)=U.yX r ch k b fee (U.jq r ch k b fee x n) (nth (nth ch b) n):=by
 unfold U.jq;rw[L.take_succ h,jHh];rfl
theorem jjc {r:RoD} {ch:List (List Int)} {k b:Nat} {fee:Int} {x:StD} (a:(x.2.2.2&&decide (x.2.2.1<=fee))=false) (c:b≠(U.jm (U.rd r)).length):U.wj r ch (k+1) b fee x=U.jq r ch k b fee x (nth ch b).length:=by
 show(if(x.2.2.2&&decide (x.2.2.1<=fee))=true then x else if b=(U.jm (U.rd r)).length then(x.1,x.1,fee,true) else(nth ch b).foldl (U.yX r ch k b fee) x)=_;rw[a,if_neg (by simp),if_neg c];unfold U.jq;rw[jHA (jGY _)]
mutual
theorem jAT {r:RoD} {ch:List (List Int)}:∀(k b:Nat) (fee:Int) (x:StD),(U.wj r ch k b fee x).1.length=x.1.length
 |0,_,_,_=>rfl
 |k+1,b,fee,x=>by
  by_cases a:(x.2.2.2&&decide (x.2.2.1<=fee))=true
  .show(if(x.2.2.2&&decide (x.2.2.1<=fee))=true then x else _).1.length=_
   rw[if_pos a]
  .by_cases c:b=(U.jm (U.rd r)).length
   .show(if(x.2.2.2&&decide (x.2.2.1<=fee))=true then x else if b=(U.jm (U.rd r)).length then(x.1,x.1,fee,true) else _).1.length=_
    rw[if_neg a,if_pos c]
   .rw[jjc (by simpa using a) c]
    exact jm8 k b fee x _ (jGY _)
termination_by k=>(k,0)
theorem jm8 {r:RoD} {ch:List (List Int)}:∀(k b:Nat) (fee:Int) (x:StD) (n:Nat),n<=(nth ch b).length->(U.jq r ch k b fee x n).1.length=x.1.length
 |_,_,_,_,0,_=>rfl
 |k,b,fee,x,n+1,h=>by
  rw[jpg h]
  have d:=jm8 (r:=r) (ch:=ch) k b fee x n (by omega)
  unfold U.yX
  split
  .rw[jAT k]
   show((U.jq r ch k b fee x n).1.set b _).length=_
   rw[jH6,d]
  .show((U.jq r ch k b fee x n).1.set b _).length=_
   rw[jH6,d]
termination_by k _ _ _ n=>(k,n+1)
end
theorem jkn:ja2:=by
 unfold ja2 q98_7 q98_0 q98_6 q98_2 q98_5 q98_4 q98_3 q98_1;rintro k ⟨s,b,fee,⟨⟩⟩ h0;obtain⟨g,d,Q,⟨M,D⟩,S,⟨V,b1,b2⟩,f0,f1⟩:U.jvZ (k+1) s b fee:=h0;obtain⟨B,hB⟩:∃B:Nat,b=(B:Int):=⟨b.toNat,by omega⟩;subst hB;have I:=d.1;have hb4:(U.jm (U.rd (U.ro s.1))).length<=4:=(zc I.2.2).1;have h8:(U.je (U.jc (U.rd (U.ro s.1)))).length<=8:=(jA I.1).2.2.1;refine⟨fun h=>⟨rfl,?_⟩,fun h=>⟨g,fun _=>⟨fun A=>⟨?_,rfl,?_⟩,fun A=> ?_⟩⟩⟩
 .have h:((U.jl s).2.2.2&&decide ((U.jl s).2.2.1<=fee))=true:=h;have e:U.wj (U.ro s.1) s.2.1 (k+1) B fee (U.jl s)=U.jl s:=by
   show(if((U.jl s).2.2.2&&decide ((U.jl s).2.2.1<=fee))=true then U.jl s else _)=_;rw[if_pos h]
  show(s,())=(U.vB s (U.wj (U.ro s.1) s.2.1 (k+1) B fee (U.jl s)),());rw[e];rfl
 .show s.2.2.1.length<=100000;omega
 .have A:(B:Int)=((U.jm (U.rd (U.ro s.1))).length:Int):=of_decide_eq_true A;have h:((U.jl s).2.2.2&&decide ((U.jl s).2.2.1<=fee))=false:=h;have e:U.wj (U.ro s.1) s.2.1 (k+1) B fee (U.jl s)=(s.2.2.1,s.2.2.1,fee,true):=by
   show(if((U.jl s).2.2.2&&decide ((U.jl s).2.2.1<=fee))=true then U.jl s else if B=(U.jm (U.rd (U.ro s.1))).length then((U.jl s).1,(U.jl s).1,fee,true) else _)=_;rw[h,if_neg (by simp),if_pos (by omega)];rfl
  show((s.1,s.2.1,s.2.2.1,s.2.2.1,fee,true,()),())=(U.vB s (U.wj (U.ro s.1) s.2.1 (k+1) B fee (U.jl s)),());rw[e];rfl
 have A:¬(B:Int)=((U.jm (U.rd (U.ro s.1))).length:Int):=of_decide_eq_false A;have h:((U.jl s).2.2.2&&decide ((U.jl s).2.2.1<=fee))=false:=h;have hBn:B<(U.jm (U.rd (U.ro s.1))).length:=(by omega);have C:=jjc (r:=U.ro s.1) (ch:=s.2.1) (k:=k) (b:=B) (fee:=fee) h (by omega);have u:jw ((B:Int)+1):=L.in64 (by omega) (by omega);have K:0<=(B:Int)+1:=(by omega);refine⟨V,by show(B:Int)<(s.2.1.length:Int);omega,fun E=>⟨⟨0,⟨⟨rfl,trivial⟩,⟨rfl,trivial,trivial,trivial,rfl,rfl,trivial⟩,rfl,rfl,trivial⟩,jG7 _,rfl⟩,fun x hx=>⟨fun z=> ?_,fun z=>⟨rfl,?_⟩⟩⟩⟩
 .have z:(x:Int)<((nth s.2.1 B).length:Int):=of_decide_eq_true z;have E:(nth s.2.1 B).length<4611686018427387904:=E;have m:x<(nth s.2.1 B).length:=(by omega);obtain⟨_,F⟩:x<=(nth s.2.1 B).length/\(U.jq (U.ro s.1) s.2.1 k B fee (U.jl s) x).1.length=s.2.2.1.length:=hx;have f:=jpg (r:=U.ro s.1) (ch:=s.2.1) (k:=k) (b:=B) (fee:=fee) (x:=U.jl s) m;have o:=jm8 (r:=U.ro s.1) (ch:=s.2.1) k B fee (U.jl s) (x+1) (by omega);have o:(U.jq (U.ro s.1) s.2.1 k B fee (U.jl s) (x+1)).1.length=s.2.2.1.length:=o;have Z:=D _ (L.mem_nth (l:=s.2.1) (i:=B) (by omega)) _ (L.mem_nth m);have up:x+1<=(nth s.2.1 B).length:=m;have W:(nth s.2.1 B).length-(x+1)<(nth s.2.1 B).length-x:=(by omega);have tl:((U.jq (U.ro s.1) s.2.1 k B fee (U.jl s) x).1.set B (nth (nth s.2.1 B) x)).length=(U.jm (U.rd (U.ro s.1))).length:=by
   rw[jH6,F,S]
  refine⟨by omega,z,V,by show(B:Int)<((U.jq (U.ro s.1) s.2.1 k B fee (U.jl s) x).1.length:Int);omega,g,fun _=>⟨⟨0,⟨⟨rfl,trivial⟩,trivial⟩,jG7 _,rfl⟩,fun p Y=>⟨fun w=>⟨u,jHV 0,K,?_,fun _=>⟨⟨0,⟨⟨rfl,trivial,trivial⟩,rfl,trivial⟩,jG7 _⟩,fun j J=>⟨fun t=> ?_,fun t=> ?_⟩⟩⟩,fun w=> ?_⟩⟩⟩
  .show(B:Int)+1<=(((U.jq (U.ro s.1) s.2.1 k B fee (U.jl s) x).1.set B (nth (nth s.2.1 B) x)).length:Int);rw[tl];omega
  .have t:(j:Int)<((((B:Int)+1).toNat-Int.toNat 0:Nat):Int):=of_decide_eq_true t;have H:((B:Int)+1).toNat-Int.toNat 0=B+1:=(by simp only[Int.toNat_zero];omega);rw[H] at t;have w:(p:Int)<((U.wa (U.ro s.1)).length:Int):=of_decide_eq_true w;have J:j<=B+1:=J;have q:=jvM ((U.jq (U.ro s.1) s.2.1 k B fee (U.jl s) x).1.set B (nth (nth s.2.1 B) x)) (p:Int) j;have P:=jpV ((U.jq (U.ro s.1) s.2.1 k B fee (U.jl s) x).1.set B (nth (nth s.2.1 B) x)) (p:Int) j;have e0:Int.toNat 0+(j:Int).toNat=j:=(by simp);have X:∀T:Bool,decide (qO (nth ((U.jq (U.ro s.1) s.2.1 k B fee (U.jl s) x).1.set B (nth (nth s.2.1 B) x)) (Int.toNat 0+(j:Int).toNat)/2^(p:Int).toNat) 1=1)=T->decide (qO (nth ((U.jq (U.ro s.1) s.2.1 k B fee (U.jl s) x).1.set B (nth (nth s.2.1 B) x)) j/2^(p:Int).toNat) 1=1)=T:=by
    intro T G;rw[e0] at G;exact G
   refine⟨by omega,by show(j:Int)<((((B:Int)+1).toNat-Int.toNat 0:Nat):Int);rw[H];exact t,by omega,by omega,fun a=>⟨?_,L.in64 (by omega) (by omega),j+1,⟨⟨by simp,trivial,trivial⟩,?_,trivial⟩,by show j+1<=B+1;omega,by show B+1-(j+1)<B+1-j;omega⟩,fun a=>⟨L.in64 (by omega) (by omega),j+1,⟨⟨trivial,by simp,trivial⟩,?_,trivial⟩,by show j+1<=B+1;omega,by show B+1-(j+1)<B+1-j;omega⟩⟩
   .show((U.kC ((U.jq (U.ro s.1) s.2.1 k B fee (U.jl s) x).1.set B (nth (nth s.2.1 B) x)) (p:Int) j).length+1)*8<=140737488355328;omega
   .rw[X _ a,if_pos rfl] at q;exact q.symm
   .rw[X _ a,if_neg (by simp),jHq] at q;exact q.symm
  .have t:¬(j:Int)<((((B:Int)+1).toNat-Int.toNat 0:Nat):Int):=of_decide_eq_false t;have H:((B:Int)+1).toNat-Int.toNat 0=B+1:=(by simp only[Int.toNat_zero];omega);rw[H] at t;have w:(p:Int)<((U.wa (U.ro s.1)).length:Int):=of_decide_eq_true w;have J:j<=B+1:=J;have N:j=B+1:=(by omega);subst N;have P:=jpV ((U.jq (U.ro s.1) s.2.1 k B fee (U.jl s) x).1.set B (nth (nth s.2.1 B) x)) (p:Int) (B+1);obtain⟨_,y⟩:p<=(U.wa (U.ro s.1)).length/\U.wW (U.ro s.1) ((U.jq (U.ro s.1) s.2.1 k B fee (U.jl s) x).1.set B (nth (nth s.2.1 B) x)) B p=true:=Y;refine⟨g,d,⟨by omega,by show(p:Int)<((U.je (U.jc (U.rd (U.ro s.1)))).length:Int);omega⟩,⟨by show(U.kC ((U.jq (U.ro s.1) s.2.1 k B fee (U.jl s) x).1.set B (nth (nth s.2.1 B) x)) (p:Int) (B+1)).length<=12;omega,fun c hc=> ?_⟩,fun a=> ?_,fun a=> ?_⟩
   .have:=jyt hc;exact⟨this.1,by show c<((U.jm (U.rd (U.ro s.1))).length:Int);omega⟩
   .have a:(!U.jaf (U.ro s.1) (p:Int) (U.kC ((U.jq (U.ro s.1) s.2.1 k B fee (U.jl s) x).1.set B (nth (nth s.2.1 B) x)) (p:Int) (B+1)))=true:=a;have a:U.jaf (U.ro s.1) (p:Int) (U.kC ((U.jq (U.ro s.1) s.2.1 k B fee (U.jl s) x).1.set B (nth (nth s.2.1 B) x)) (p:Int) (B+1))=false:=(by simpa using a);have O:=jpU (n:=(U.wa (U.ro s.1)).length) (by omega) a;have e:U.jq (U.ro s.1) s.2.1 k B fee (U.jl s) (x+1)=((U.jq (U.ro s.1) s.2.1 k B fee (U.jl s) x).1.set B (nth (nth s.2.1 B) x),(U.jq (U.ro s.1) s.2.1 k B fee (U.jl s) x).2):=by
     rw[f];unfold U.yX;rw[O,if_neg (by simp)]
    exact⟨L.in64 (by omega) (by omega),x+1,⟨⟨by simp,trivial⟩,congrArg (·.2.1) e.symm,⟨rfl,trivial,trivial,trivial,congrArg (·.2.2.1) e.symm,congrArg (·.2.2.2) e.symm,trivial⟩,congrArg (·.1) e.symm,trivial⟩,⟨up,o⟩,W⟩
   .have a:(!U.jaf (U.ro s.1) (p:Int) (U.kC ((U.jq (U.ro s.1) s.2.1 k B fee (U.jl s) x).1.set B (nth (nth s.2.1 B) x)) (p:Int) (B+1)))=false:=a;have a:U.jaf (U.ro s.1) (p:Int) (U.kC ((U.jq (U.ro s.1) s.2.1 k B fee (U.jl s) x).1.set B (nth (nth s.2.1 B) x)) (p:Int) (B+1))=true:=(by simpa using a);refine⟨L.in64 (by omega) (by omega),p+1,⟨⟨by simp,trivial⟩,trivial⟩,⟨by show p+1<=(U.wa (U.ro s.1)).length;omega,?_⟩,by show(U.wa (U.ro s.1)).length-(p+1)<(U.wa (U.ro s.1)).length-p;omega⟩;show U.wW (U.ro s.1) ((U.jq (U.ro s.1) s.2.1 k B fee (U.jl s) x).1.set B (nth (nth s.2.1 B) x)) B (p+1)=true;rw[jsA,y,a];rfl
  .have w:¬(p:Int)<((U.wa (U.ro s.1)).length:Int):=of_decide_eq_false w;obtain⟨hp1,y⟩:p<=(U.wa (U.ro s.1)).length/\U.wW (U.ro s.1) ((U.jq (U.ro s.1) s.2.1 k B fee (U.jl s) x).1.set B (nth (nth s.2.1 B) x)) B p=true:=Y;have R:p=(U.wa (U.ro s.1)).length:=(by omega);subst R;have v:=jom I.1 (nth (nth s.2.1 B) x) _ (jGY _);have v:0<=U.wP (U.rd (U.ro s.1)) (nth (nth s.2.1 B) x)/\U.wP (U.rd (U.ro s.1)) (nth (nth s.2.1 B) x)<=1000*((U.je (U.jc (U.rd (U.ro s.1)))).length:Int):=v;have eB:((B:Int)+1).toNat=B+1:=(by omega);have e:U.jq (U.ro s.1) s.2.1 k B fee (U.jl s) (x+1)=U.wj (U.ro s.1) s.2.1 k ((B:Int)+1).toNat (fee+U.wP (U.rd (U.ro s.1)) (nth (nth s.2.1 B) x)) ((U.jq (U.ro s.1) s.2.1 k B fee (U.jl s) x).1.set B (nth (nth s.2.1 B) x),(U.jq (U.ro s.1) s.2.1 k B fee (U.jl s) x).2):=by
    rw[f,eB];unfold U.yX;rw[if_pos y]
   refine⟨u,g,I.1,Z.1,by show nth (nth s.2.1 B) x<=1000000;have:=Z.2;omega,?_,⟨g,d,Q,⟨M,D⟩,tl,⟨by omega,by show(B:Int)+1<=((U.jm (U.rd (U.ro s.1))).length:Int);omega,by show((U.jm (U.rd (U.ro s.1))).length:Int)<(B:Int)+1+(k:Int);omega⟩,?_,?_⟩,L.in64 (by omega) (by omega),x+1,⟨⟨by simp,trivial⟩,⟨rfl,trivial,trivial,trivial,congrArg (·.2.2.1) e.symm,congrArg (·.2.2.2) e.symm,trivial⟩,rfl,congrArg (·.2.1) e.symm,congrArg (·.1) e.symm,trivial⟩,⟨up,o⟩,W⟩
   .show jw (fee+U.wP (U.rd (U.ro s.1)) (nth (nth s.2.1 B) x));exact L.in64 (by omega) (by omega)
   .show 0<=fee+U.wP (U.rd (U.ro s.1)) (nth (nth s.2.1 B) x);omega
   .show fee+U.wP (U.rd (U.ro s.1)) (nth (nth s.2.1 B) x)<=8000*((B:Int)+1);omega
 .have z:¬(x:Int)<((nth s.2.1 B).length:Int):=of_decide_eq_false z;have hx1:x<=(nth s.2.1 B).length:=hx.1;have m:x=(nth s.2.1 B).length:=(by omega);subst m;show((s.1,s.2.1,(U.jq (U.ro s.1) s.2.1 k B fee (U.jl s) (nth s.2.1 B).length).1,(U.jq (U.ro s.1) s.2.1 k B fee (U.jl s) (nth s.2.1 B).length).2.1,(U.jq (U.ro s.1) s.2.1 k B fee (U.jl s) (nth s.2.1 B).length).2.2.1,(U.jq (U.ro s.1) s.2.1 k B fee (U.jl s) (nth s.2.1 B).length).2.2.2,()),())=(U.vB s (U.wj (U.ro s.1) s.2.1 (k+1) B fee (U.jl s)),());rw[C];rfl
theorem ja7:∀k:Nat,qv PR 42 (vp k)
 |0=>⟨wQ Tryz.func42 (c:=zM Tryz.f42) (by kernel_rfl) (by kernel_rfl),fun H w vals d bs _ _ _ b=>by
  obtain⟨⟨_,_,_,_,_,⟨e,f,a⟩,_⟩,_⟩:=b
  exact absurd a (by omega)⟩
 |k+1=>jD1 (jdI.mpr jkn k) Tryz.func42 (by kernel_rfl) (by kernel_rfl) (by kernel_rfl) (by kernel_rfl) (by kernel_rfl) ⟨fun _=>jb0,fun _=>jjL,trivial⟩ ⟨jfo,ja7 k,trivial⟩
end Go.X
namespace Go.X
open Go.Proofs
namespace U
def jox (r:RoD) (b:Int) (t:Nat):Bool:=decide (jkY (t:Int) (nth (qG r) b.toNat)=0)&&jdr (rd r) b (t:Int)
def wR (r:RoD) (b:Int) (n:Nat):List Int:=((List.range n).filter (jox r b)).map (fun(t:Nat)=>(t:Int))
def kg (r:RoD) (n:Nat):List (List Int):=(List.range n).map (fun(b:Nat)=>wR r (b:Int) (2^(je (jc (rd r))).length))
def jEW (d:DyD):StD:=wj (qa d) (kg (qa d) (jm d).length) 5 0 0 (List.replicate (jm d).length 0,vn,0,false)
def kd (d:DyD):Int:=if ju d=0 then(if(jEW d).2.2.2=true then 0 else 3) else ju d
def jo (d:DyD):List Int:=if kd d=0 then(jEW d).2.1 else[]
def wc (d:DyD):Int:=if kd d=0 then(jEW d).2.2.1 else 0
end U
def jxN:jT:=⟨[.val tDy],[.slice .int,.int,.int],false,fun d=>[(U.kl d.1).length<=100000],fun d=>(U.jo d.1,U.wc d.1,U.kd d.1,())⟩
def jAo:Ann:=fun r=>match r with
 |6=>some fun σ=>{X:=Nat,sl:=fun i=>[(28,.dat .int (i:Int))],ob:=fun i=>[(24,some (.box 87 false (((bx σ 24).set 1 (.own (yf 24 1) (.slice .int))).set 3 (.own (yf 24 3) .int)))),(yf 24 3,some (.row 3 .int false .yes U.vn)),(yf 24 1,some (.row 34 (.slice .int) false .yes (U.kg (U.ro (gd (.ptr tRo) σ 5)) i)))],inv:=fun i=>i<=(U.jm (gb tDy σ 1)).length,mu:=fun i=>(U.jm (gb tDy σ 1)).length-i}
 |10=>some fun σ=>{X:=Nat,sl:=fun t=>[(36,.dat .int (t:Int)),(8,.own 8 .int)],ob:=fun t=>[(8,some (.row 3 .int false .yes (U.wR (U.ro (gd (.ptr tRo) σ 5)) (gd .int σ 7) t)))],inv:=fun t=>t<=2^(U.je (U.jc (gb tDy σ 1))).length,mu:=fun t=>2^(U.je (U.jc (gb tDy σ 1))).length-t}
 |_=>none
abbrev q99_3 (d:DyD×Unit):=(U.ro (U.zo d.1))
abbrev q99_4 (d:DyD×Unit):=(j7 ((((0:Int),[],[],()),[],[],(0:Int),(0:Int),[],()),[],[],[],()) (U.zo d.1))
abbrev q99_1 (a:Nat)(d:DyD×Unit)(x:Nat):=(jkY (a:Int) (nth (q99_4 d).2.1 (x:Int).toNat)=0)
abbrev q99_5 (d:DyD×Unit):=(d.1.2.2.1.length:Int)
abbrev q99_2 (d:DyD×Unit)(x:Nat):=(U.zo d.1,U.kg (q99_3 d) x,List.replicate (q99_5 d).toNat (0:Int),U.vn,(0:Int),false,())
abbrev q99_0 (d:DyD×Unit)(x:Nat):=(U.vB (q99_2 d x) (U.wj (q99_3 d) (U.kg (q99_3 d) x) 5 (Int.toNat 0) (0:Int) (U.jl (q99_2 d x))))
abbrev q99_6 (d:DyD×Unit):=(U.zo d.1=U.zo d.1/\True/\True/\True/\(0:Int)=0/\false=false/\True)
abbrev q99_7 (d:DyD×Unit):=(U.je (U.jc d.1))
abbrev q99_8 (d:DyD×Unit):=(U.jo d.1,U.wc d.1,U.kd d.1,())
abbrev q99_9 (d:DyD×Unit):=(d.1.1.2.1.length:Int)
def jxo:Prop:=∀(d:DyD×Unit),(U.kl d.1).length<=100000->(U.kl d.1).length<=100000/\(decide (U.ju d.1≠0)=true->([],(0:Int),U.ju d.1,())=(q99_8 d))/\(decide (U.ju d.1≠0)=false->d.1.2.2.1.length<4611686018427387904->0<=(q99_5 d)/\(q99_5 d)=(q99_5 d)/\(q99_5 d).toNat*8<=140737488355328/\(d.1.2.2.1.length<4611686018427387904->(∃(x:Nat),((0=(x:Int)/\True)/\(q99_6 d)/\U.vn=[]/\U.kg (q99_3 d) x=[]/\True)/\x<=(U.jm d.1).length)/\∀(x:Nat),x<=(U.jm d.1).length->(decide ((x:Int)<(q99_5 d))=true->d.1.1.2.1.length<4611686018427387904->0<=(q99_9 d)/\(q99_9 d)<=64/\jw ((1:Int)*2^(q99_9 d).toNat)/\(∃(a:Nat),((0=(a:Int)/\True/\True)/\U.wR (q99_3 d) (x:Int) a=[]/\True)/\a<=2^(q99_7 d).length)/\∀(a:Nat),a<=2^(q99_7 d).length->(decide ((a:Int)<1*2^(q99_9 d).toNat)=true->(U.zo d.1).isSome=true/\0<=(x:Int)/\(x:Int)<(↑(q99_4 d).2.1.length:Int)/\(decide (q99_1 a d x)=true->(U.zo d.1).isSome=true)/\(decide (q99_1 a d x)=true->U.wJ (U.rd (q99_3 d)) (x:Int))/\((decide (q99_1 a d x)&&U.jdr (U.rd (q99_3 d)) (x:Int) (a:Int))=true->((U.wR (q99_3 d) (x:Int) a).length+[(a:Int)].length)*8<=140737488355328/\jw ((a:Int)+1)/\∃(b:Nat),(((a:Int)+1=(b:Int)/\True/\True)/\U.wR (q99_3 d) (x:Int) a++[(a:Int)]=U.wR (q99_3 d) (x:Int) b/\True)/\b<=2^(q99_7 d).length/\2^(q99_7 d).length-b<2^(q99_7 d).length-a)/\((decide (q99_1 a d x)&&U.jdr (U.rd (q99_3 d)) (x:Int) (a:Int))=false->jw ((a:Int)+1)/\∃(b:Nat),((True/\(a:Int)+1=(b:Int)/\True)/\U.wR (q99_3 d) (x:Int) a=U.wR (q99_3 d) (x:Int) b/\True)/\b<=2^(q99_7 d).length/\2^(q99_7 d).length-b<2^(q99_7 d).length-a))/\(decide ((a:Int)<1*2^(q99_9 d).toNat)=false->((U.kg (q99_3 d) x).length+[U.wR (q99_3 d) (x:Int) a].length)*24<=140737488355328/\jw ((x:Int)+1)/\∃(b:Nat),(((x:Int)+1=(b:Int)/\True)/\U.vn=U.vn/\(q99_6 d)/\U.kg (q99_3 d) x++[U.wR (q99_3 d) (x:Int) a]=U.kg (q99_3 d) b/\True)/\b<=(U.jm d.1).length/\(U.jm d.1).length-b<(U.jm d.1).length-x))/\(decide ((x:Int)<(q99_5 d))=false->U.jvZ 5 (q99_2 d x) (0:Int) (0:Int)/\((!(q99_0 d x).2.2.2.2.2.1)=true->([],(0:Int),(3:Int),())=(q99_8 d))/\((!(q99_0 d x).2.2.2.2.2.1)=false->((q99_0 d x).2.2.2.1,(q99_0 d x).2.2.2.2.1,(0:Int),())=(q99_8 d)))))
end Go.X
namespace Go.X
open Go.Proofs
theorem jwL (r:RoD) (b:Int) (n:Nat):U.wR r b (n+1)=U.wR r b n++(if U.jox r b n=true then[(n:Int)] else[]):=by
 unfold U.wR;rw[L.range_filter_succ,jHH];by_cases h:U.jox r b n=true
 .rw[if_pos h,if_pos h];rfl
 .rw[if_neg h,if_neg h];rfl
theorem jAa (r:RoD) (b:Int) (n:Nat):(U.wR r b n).length<=n:=by
 unfold U.wR;rw[jHX];exact jHb (jH3 _ _) (by simp)
theorem jra {r:RoD} {b:Int} {n:Nat} {t:Int} (h:t∈U.wR r b n):0<=t/\t<(n:Int):=by
 unfold U.wR at h;obtain⟨i,hi,rfl⟩:=jHm.1 h;have:=jG4.1 (jHc.1 hi).1;omega
theorem jz9 (r:RoD) (n:Nat):U.kg r (n+1)=U.kg r n++[U.wR r (n:Int) (2^(U.je (U.jc (U.rd r))).length)]:=by
 unfold U.kg;rw[jHn,jHH];rfl
theorem juP (r:RoD) (n:Nat):(U.kg r n).length=n:=by unfold U.kg;simp
theorem jCC {n:Nat} (h:n<=8):(2:Nat)^n<=256:=jHb (Nat.pow_le_pow_right (by decide) h) (by decide)
theorem jGg {d:DyD} (hk:U.ju d=0):U.jvZ 5 (some (U.qa d),U.kg (U.qa d) (U.jm d).length,List.replicate (U.jm d).length 0,U.vn,0,false,()) 0 0:=by
 have c:=jl4 hk;have i:(U.jm d).length<=4:=(zc c.may.1.2.2).1;have h:(U.je (U.jc d)).length<=8:=(jA c.may.1.1).2.2.1;refine⟨rfl,c.may,c.len,⟨juP _ _,fun l a t e=> ?_⟩,jHR,⟨jHV 0,by show(0:Int)<=((U.jm d).length:Int);omega,by show((U.jm d).length:Int)<0+((5:Nat):Int);omega⟩,jHV 0,by omega⟩;have a:l∈U.kg (U.qa d) (U.jm d).length:=a;unfold U.kg at a;obtain⟨b,_,rfl⟩:=jHm.1 a;have:=jra e;have f:=jCC h;have g:(2:Nat)^(U.je (U.jc (U.rd (U.qa d)))).length<=256:=f;have:t<((2^(U.je (U.jc (U.rd (U.qa d)))).length:Nat):Int):=this.2;refine⟨(jra e).1,by omega⟩
theorem jBN:jxo:=by
 unfold jxo q99_9 q99_8 q99_7 q99_6 q99_0 q99_2 q99_5 q99_1 q99_4 q99_3;rintro⟨d,⟨⟩⟩ A;refine⟨A,fun h=> ?_,fun h=> ?_⟩
 .have h:U.ju d≠0:=of_decide_eq_true h;have e:U.kd d=U.ju d:=(by unfold U.kd;rw[if_neg h]);show([],(0:Int),U.ju d,())=(U.jo d,U.wc d,U.kd d,());unfold U.jo U.wc;rw[e,if_neg h,if_neg h]
 have hk:U.ju d=0:=Classical.not_not.1 (of_decide_eq_false h);have m:=jl4 hk;have z:(U.jm d).length<=4:=(zc m.may.1.2.2).1;have y:(U.je (U.jc d)).length<=8:=(jA m.may.1.1).2.2.1;have s:=jCC y;have l:=jum hk;have i:U.ro (U.zo d)=U.qa d:=(by rw[l];rfl);have r:U.rd (U.ro (U.zo d))=d:=(by rw[i];rfl);have q:(U.zo d).isSome=true:=(by rw[l];rfl);have B:(U.qG (U.ro (U.zo d))).length=(U.jm d).length:=(by rw[i];exact m.may.2);refine fun _=>⟨jHi _,rfl,?_,fun _=>⟨⟨0,⟨⟨rfl,trivial⟩,⟨rfl,trivial,trivial,trivial,rfl,rfl,trivial⟩,rfl,rfl,trivial⟩,jG7 _⟩,fun x u=>⟨fun b _=>⟨jHi _,?_,?_,⟨0,⟨⟨rfl,trivial,trivial⟩,rfl,trivial⟩,jG7 _⟩,fun t j=>⟨fun a=> ?_,fun a=> ?_⟩⟩,fun b=> ?_⟩⟩⟩
 .show((U.jm d).length:Int).toNat*8<=140737488355328;omega
 .show((U.je (U.jc d)).length:Int)<=64;omega
 .show jw (1*2^((U.je (U.jc d)).length:Int).toNat);rw[jbW,jG1];have a:BT.Set' ((2:Int)^(U.je (U.jc d)).length):=BT.two_set (by omega);unfold BT.Set' at a;exact L.in64 (by omega) (by omega)
 .have b:(x:Int)<((U.jm d).length:Int):=of_decide_eq_true b;have j:t<=2^(U.je (U.jc d)).length:=j;have a:(t:Int)<1*2^((U.je (U.jc d)).length:Int).toNat:=of_decide_eq_true a;rw[jbW,jG1,BT.two_nat] at a;have a:t<2^(U.je (U.jc d)).length:=(by omega);have f:=jwL (U.ro (U.zo d)) (x:Int) t;have g:=jAa (U.ro (U.zo d)) (x:Int) t;have w:U.wJ (U.rd (U.ro (U.zo d))) (x:Int):=(by rw[r];exact⟨by omega,b⟩);have v:t+1<=2^(U.je (U.jc d)).length:=(by omega);have p:2^(U.je (U.jc d)).length-(t+1)<2^(U.je (U.jc d)).length-t:=(by omega);refine⟨q,by omega,by show(x:Int)<((U.qG (U.ro (U.zo d))).length:Int);omega,fun _=>q,fun _=>w,fun c=> ?_,fun c=> ?_⟩
  .have c:U.jox (U.ro (U.zo d)) (x:Int) t=true:=c;refine⟨?_,L.in64 (by omega) (by omega),t+1,⟨⟨by simp,trivial,trivial⟩,?_,trivial⟩,v,p⟩
   .show((U.wR (U.ro (U.zo d)) (x:Int) t).length+1)*8<=140737488355328;omega
   .rw[if_pos c] at f;exact f.symm
  .have c:U.jox (U.ro (U.zo d)) (x:Int) t=false:=c;refine⟨L.in64 (by omega) (by omega),t+1,⟨⟨trivial,by simp,trivial⟩,?_,trivial⟩,v,p⟩;rw[if_neg (by rw[c];simp),jHq] at f;exact f.symm
 .have b:(x:Int)<((U.jm d).length:Int):=of_decide_eq_true b;have j:t<=2^(U.je (U.jc d)).length:=j;have a:¬(t:Int)<1*2^((U.je (U.jc d)).length:Int).toNat:=of_decide_eq_false a;rw[jbW,jG1,BT.two_nat] at a;have n:t=2^(U.je (U.jc d)).length:=(by omega);have f:=jz9 (U.ro (U.zo d)) x;rw[r,<-n] at f;have g:=juP (U.ro (U.zo d)) x;refine⟨?_,L.in64 (by omega) (by omega),x+1,⟨⟨by simp,trivial⟩,rfl,⟨rfl,trivial,trivial,trivial,rfl,rfl,trivial⟩,f.symm,trivial⟩,by show x+1<=(U.jm d).length;omega,by show(U.jm d).length-(x+1)<(U.jm d).length-x;omega⟩;show((U.kg (U.ro (U.zo d)) x).length+1)*24<=140737488355328;omega
 .have b:¬(x:Int)<((U.jm d).length:Int):=of_decide_eq_false b;have u:x<=(U.jm d).length:=u;have o:x=(U.jm d).length:=(by omega);subst o;have k:U.wj (U.ro (U.zo d)) (U.kg (U.ro (U.zo d)) (U.jm d).length) 5 (Int.toNat 0) 0 (U.jl (U.zo d,U.kg (U.ro (U.zo d)) (U.jm d).length,List.replicate ((U.jm d).length:Int).toNat 0,U.vn,0,false,()))=U.jEW d:=by
   rw[i,jG1];rfl
  refine⟨?_,fun a=> ?_,fun a=> ?_⟩
  .show U.jvZ 5 (U.zo d,U.kg (U.ro (U.zo d)) (U.jm d).length,List.replicate ((U.jm d).length:Int).toNat 0,U.vn,0,false,()) 0 0;rw[i,l,jG1];exact jGg hk
  .have a:(!(U.wj (U.ro (U.zo d)) (U.kg (U.ro (U.zo d)) (U.jm d).length) 5 (Int.toNat 0) 0 (U.jl (U.zo d,U.kg (U.ro (U.zo d)) (U.jm d).length,List.replicate ((U.jm d).length:Int).toNat 0,U.vn,0,false,()))).2.2.2)=true:=a;rw[k] at a;have a:(U.jEW d).2.2.2=false:=(by simpa using a);have e:U.kd d=3:=(by unfold U.kd;rw[if_pos hk,a,if_neg (by simp)]);show([],(0:Int),(3:Int),())=(U.jo d,U.wc d,U.kd d,());unfold U.jo U.wc;rw[e];rfl
  .have a:(!(U.wj (U.ro (U.zo d)) (U.kg (U.ro (U.zo d)) (U.jm d).length) 5 (Int.toNat 0) 0 (U.jl (U.zo d,U.kg (U.ro (U.zo d)) (U.jm d).length,List.replicate ((U.jm d).length:Int).toNat 0,U.vn,0,false,()))).2.2.2)=false:=a;rw[k] at a;have a:(U.jEW d).2.2.2=true:=(by simpa using a);have e:U.kd d=0:=(by unfold U.kd;rw[if_pos hk,a,if_pos rfl]);show((U.wj (U.ro (U.zo d)) (U.kg (U.ro (U.zo d)) (U.jm d).length) 5 (Int.toNat 0) 0 (U.jl (U.zo d,U.kg (U.ro (U.zo d)) (U.jm d).length,List.replicate ((U.jm d).length:Int).toNat 0,U.vn,0,false,()))).2.1,(U.wj (U.ro (U.zo d)) (U.kg (U.ro (U.zo d)) (U.jm d).length) 5 (Int.toNat 0) 0 (U.jl (U.zo d,U.kg (U.ro (U.zo d)) (U.jm d).length,List.replicate ((U.jm d).length:Int).toNat 0,U.vn,0,false,()))).2.2.1,(0:Int),())=(U.jo d,U.wc d,U.kd d,());rw[k];unfold U.jo U.wc;rw[e];rfl
theorem jqb:zk PR 15 jxN:=kI jAo jBN Tryz.func15 (kcC ja9 kcN) (koC yK (koC (ja7 5) koN))
end Go.X
namespace Go.X
open Go.Proofs
namespace U
def kH (s:Int):Nat->Int
 |0=>s
 |j+1=>kH s j/2^1
def J3 (c:CrD) (t d:Int) (a b:Nat):Bool:=jbc c t d (a:Int) (b:Int)
def jcm (c:CrD) (t b a:Int):List Int:=zm (J3 c t b) (la c).toNat a.toNat (la c).toNat
def juk (c:Bool) (s b:Int):Int:=if c=true then bor s b else s
def jtD (c:CrD) (j:JbD) (t:Int) (x:Int×Bool) (i:Nat):Int×Bool:=
 if jG t (i:Int)=true then(juk (!jG (cl (nth (je c) i)) (jru j)) (juk (!jG (fd (nth (je c) i)) (jsU j)) (juk (vX (nth (je c) i) (jAE j)) x.1 1) 2) 4,x.2||jEo (nth (je c) i)) else x
def j8 (c:CrD) (j:JbD) (t:Int) (n:Nat):Int×Bool:=(List.range n).foldl (jtD c j t) (0,false)
def jGr (c:CrD) (j:JbD) (t:Int):Int:=(j8 c j t (je c).length).1
def jGs (c:CrD) (j:JbD) (t:Int):Bool:=(j8 c j t (je c).length).2
def jwQ (c:CrD) (j:JbD) (t:Int):Int:=
 juk (decide (nth (jcm c t (jxc (yA c j)) (jrv j)) (jmp j).toNat<0)) (juk (jF5 (yA c j)&& !jGs c j t) (juk (decide (BT.size t≠max (jBB j) (jD4 (yA c j)))) (jGr c j t) 8) 16) 32
def qg (c:CrD) (j:JbD) (t:Int):Bool:=decide (0<t)&&decide (jwQ c j t=0)
def zR (c:CrD) (t:Int) (n:Nat):Int:=(List.range n).foldl (fun s (i:Nat)=>if jG t (i:Int)=true then s+fe (nth (je c) i) else s) 0
def jg7 (c:CrD) (t:Int):Int:=zR c t (je c).length
def jxb (t:Int):Prop:=0<=t/\t<256
end U
def jps:jT:=⟨[.val .int,.val .int,.val .int],[.bool],false,fun _=>[],fun d=>(U.ja d.1 d.2.1 d.2.2.1,())⟩
def jo4:Prop:=∀(d:Int×Int×Int×Unit),(decide (d.2.1<=d.1)&&decide (d.1<=d.2.2.1),())=(U.ja d.1 d.2.1 d.2.2.1,())
def jxP:jT:=⟨[.val .int,.val .int],[.bool],false,fun d=>[0<=d.2.1/\d.2.1<=63],fun d=>(U.jG d.1 d.2.1,())⟩
def jxq:Prop:=∀(d:Int×Int×Unit),0<=d.2.1/\d.2.1<=63->0<=d.2.1/\d.2.1<=18446744073709551615/\0<=d.2.1/\d.2.1<=64/\(decide (qO (d.1/(2:Int)^d.2.1.toNat) (1:Int)=1),())=(U.jG d.1 d.2.1,())
def jpv:jT:=⟨[.val tCr],[.bool],false,fun _=>[],fun d=>(U.jj d.1,())⟩
def jrf:Ann:=fun r=>match r with
 |4=>some fun σ=>{X:=Nat,sl:=fun i=>[(3,.dat .int (i:Int))],ob:=fun _=>[],inv:=fun i=>i<=(U.je (gb tCr σ 1)).length/\∀j:Nat,j<i->U.y8 (U.la (gb tCr σ 1)) (nth (U.je (gb tCr σ 1)) j)=true,mu:=fun i=>(U.je (gb tCr σ 1)).length-i}
 |10=>some fun σ=>{X:=Nat,sl:=fun i=>[(5,.dat .int (i:Int))],ob:=fun _=>[],inv:=fun i=>i<=(U.lv (gb tPe σ 4)).length/\∀j:Nat,j<i->U.ja (nth (U.lv (gb tPe σ 4)) j) 0 5=true,mu:=fun i=>(U.lv (gb tPe σ 4)).length-i}
 |15=>some fun σ=>{X:=Nat,sl:=fun i=>[(6,.dat .int (i:Int))],ob:=fun _=>[],inv:=fun i=>i<=(U.zF (gb tPe σ 4)).length/\∀j:Nat,j<i->U.ja (nth (U.zF (gb tPe σ 4)) j) 0 99=true,mu:=fun i=>(U.zF (gb tPe σ 4)).length-i}
 |20=>some fun σ=>{X:=Nat,sl:=fun i=>[(7,.dat .int (i:Int))],ob:=fun _=>[],inv:=fun i=>i<=(U.kX (gb tCr σ 1)).length/\∀j:Nat,j<i->U.gO (nth (U.kX (gb tCr σ 1)) j)=true,mu:=fun i=>(U.kX (gb tCr σ 1)).length-i}
 |_=>none
abbrev q102_0 (d:CrD×Unit)(x:Nat):=(nth d.1.2.1 (x:Int).toNat)
abbrev q102_2 (d:CrD×Unit)(x:Nat):=(!U.ja (nth d.1.2.2.1 (x:Int).toNat).1 (1:Int) (5:Int)|| !U.ja (nth d.1.2.2.1 (x:Int).toNat).2.1 (1:Int) (8:Int))
abbrev q102_4 (d:CrD×Unit)(x:Nat):=(↑(q102_0 d x).1.length:Int)
abbrev q102_5 (d:CrD×Unit)(x:Nat):=(↑(q102_0 d x).2.2.2.1.length:Int)
abbrev q102_1 (d:CrD×Unit)(x:Nat):=(decide ((q102_4 d x)≠d.1.1)|| !U.ja (q102_0 d x).2.1 (0:Int) (255:Int)|| !U.ja (q102_0 d x).2.2.1 (0:Int) (255:Int)||decide ((10:Int)<(q102_5 d x))|| !U.ja (q102_0 d x).2.2.2.2.2.1 (0:Int) (1000:Int))
abbrev q102_6 (d:CrD×Unit):=(d.1.2.2.1.length:Int)
abbrev q102_3 (d:CrD×Unit):=(!U.ja d.1.1 (2:Int) (5:Int)||decide (8<(d.1.2.1.length:Int))||decide ((q102_6 d)≠4))
abbrev q102_7 (d:CrD×Unit)(x:Nat):=(U.zF (q102_0 d x))
def jo7:Prop:=∀(d:CrD×Unit),((!!U.ja d.1.1 (2:Int) (5:Int))=true->d.1.2.1.length<4611686018427387904)->((!(!U.ja d.1.1 (2:Int) (5:Int)||decide (8<(d.1.2.1.length:Int))))=true->d.1.2.2.1.length<4611686018427387904)->((q102_3 d)=true->(false,())=(U.jj d.1,()))/\((q102_3 d)=false->(∃(x:Nat),((0=(x:Int)/\True)/\True)/\x<=(U.je d.1).length/\∀(j:Nat),j<x->U.y8 (U.la d.1) (nth (U.je d.1) j)=true)/\∀(x:Nat),(x<=(U.je d.1).length/\∀(j:Nat),j<x->U.y8 (U.la d.1) (nth (U.je d.1) j)=true)->d.1.2.1.length<4611686018427387904->(decide ((x:Int)<(d.1.2.1.length:Int))=true->0<=(x:Int)/\(x:Int)<(d.1.2.1.length:Int)/\((q102_0 d x).1.length<4611686018427387904->((!(decide ((q102_4 d x)≠d.1.1)|| !U.ja (q102_0 d x).2.1 (0:Int) (255:Int)|| !U.ja (q102_0 d x).2.2.1 (0:Int) (255:Int)))=true->(q102_0 d x).2.2.2.1.length<4611686018427387904)->((q102_1 d x)=true->(false,())=(U.jj d.1,()))/\((q102_1 d x)=false->(∃(b:Nat),((0=(b:Int)/\True)/\True)/\b<=(U.lv (q102_0 d x)).length/\∀(j:Nat),j<b->U.ja (nth (U.lv (q102_0 d x)) j) (0:Int) 5=true)/\∀(b:Nat),(b<=(U.lv (q102_0 d x)).length/\∀(j:Nat),j<b->U.ja (nth (U.lv (q102_0 d x)) j) (0:Int) 5=true)->(q102_0 d x).1.length<4611686018427387904->(decide ((b:Int)<(q102_4 d x))=true->0<=(b:Int)/\(b:Int)<(q102_4 d x)/\((!U.ja (nth (q102_0 d x).1 (b:Int).toNat) (0:Int) (5:Int))=true->(false,())=(U.jj d.1,()))/\((!U.ja (nth (q102_0 d x).1 (b:Int).toNat) (0:Int) (5:Int))=false->jw ((b:Int)+1)/\∃(c:Nat),(((b:Int)+1=(c:Int)/\True)/\True)/\(c<=(U.lv (q102_0 d x)).length/\∀(j:Nat),j<c->U.ja (nth (U.lv (q102_0 d x)) j) (0:Int) 5=true)/\(U.lv (q102_0 d x)).length-c<(U.lv (q102_0 d x)).length-b))/\(decide ((b:Int)<(q102_4 d x))=false->(∃(a:Nat),((0=(a:Int)/\True)/\True)/\a<=(q102_7 d x).length/\∀(j:Nat),j<a->U.ja (nth (q102_7 d x) j) (0:Int) 99=true)/\∀(a:Nat),(a<=(q102_7 d x).length/\∀(j:Nat),j<a->U.ja (nth (q102_7 d x) j) (0:Int) 99=true)->(q102_0 d x).2.2.2.1.length<4611686018427387904->(decide ((a:Int)<(q102_5 d x))=true->0<=(a:Int)/\(a:Int)<(q102_5 d x)/\((!U.ja (nth (q102_0 d x).2.2.2.1 (a:Int).toNat) (0:Int) (99:Int))=true->(false,())=(U.jj d.1,()))/\((!U.ja (nth (q102_0 d x).2.2.2.1 (a:Int).toNat) (0:Int) (99:Int))=false->jw ((a:Int)+1)/\∃(c:Nat),(((a:Int)+1=(c:Int)/\True)/\True)/\(c<=(q102_7 d x).length/\∀(j:Nat),j<c->U.ja (nth (q102_7 d x) j) (0:Int) 99=true)/\(q102_7 d x).length-c<(q102_7 d x).length-a))/\(decide ((a:Int)<(q102_5 d x))=false->jw ((x:Int)+1)/\∃(c:Nat),(((x:Int)+1=(c:Int)/\True)/\True)/\(c<=(U.je d.1).length/\∀(j:Nat),j<c->U.y8 (U.la d.1) (nth (U.je d.1) j)=true)/\(U.je d.1).length-c<(U.je d.1).length-x)))))/\(decide ((x:Int)<(d.1.2.1.length:Int))=false->(∃(x:Nat),((0=(x:Int)/\True)/\True)/\x<=(U.kX d.1).length/\∀(j:Nat),j<x->U.gO (nth (U.kX d.1) j)=true)/\∀(x:Nat),(x<=(U.kX d.1).length/\∀(j:Nat),j<x->U.gO (nth (U.kX d.1) j)=true)->d.1.2.2.1.length<4611686018427387904->(decide ((x:Int)<(q102_6 d))=true->0<=(x:Int)/\(x:Int)<(q102_6 d)/\((!!U.ja (nth d.1.2.2.1 (x:Int).toNat).1 (1:Int) (5:Int))=true->0<=(x:Int))/\((!!U.ja (nth d.1.2.2.1 (x:Int).toNat).1 (1:Int) (5:Int))=true->(x:Int)<(q102_6 d))/\((q102_2 d x)=true->(false,())=(U.jj d.1,()))/\((q102_2 d x)=false->jw ((x:Int)+1)/\∃(c:Nat),(((x:Int)+1=(c:Int)/\True)/\True)/\(c<=(U.kX d.1).length/\∀(j:Nat),j<c->U.gO (nth (U.kX d.1) j)=true)/\(U.kX d.1).length-c<(U.kX d.1).length-x))/\(decide ((x:Int)<(q102_6 d))=false->(true,())=(U.jj d.1,()))))
def jsc:jT:=⟨[.val tCr,.val tJb],[.bool],false,fun d=>[U.jj d.1=true],fun d=>(U.jQ d.1 d.2.1,())⟩
def jrM:Prop:=∀(d:CrD×JbD×Unit),U.jj d.1=true->jw (d.1.1-1)/\(U.ja d.2.1.1 (0:Int) (d.1.1-1)=true->jw (d.1.1-1))/\(U.ja d.2.1.1 (0:Int) (d.1.1-1)&&U.ja d.2.1.2.1 (0:Int) (d.1.1-1)&&decide (d.2.1.1≠d.2.1.2.1)&&U.ja d.2.1.2.2.1 (0:Int) (99:Int)&&U.ja d.2.1.2.2.2.1 (0:Int) (7:Int)&&U.ja d.2.1.2.2.2.2.1 (0:Int) (3:Int)&&U.ja d.2.1.2.2.2.2.2.1 (1:Int) (8:Int),())=(U.jQ d.1 d.2.1,())
def jvz:jT:=⟨[.val tPe,.val .int],[.bool],false,fun _=>[],fun d=>(U.vX d.1 d.2.1,())⟩
def jw1:Ann:=fun r=>match r with
 |2=>some fun σ=>{X:=Nat,sl:=fun i=>[(5,.dat .int (i:Int))],ob:=fun _=>[],inv:=fun i=>i<=(U.zF (gb tPe σ 2)).length/\∀j:Nat,j<i->nth (U.zF (gb tPe σ 2)) j≠gd .int σ 1,mu:=fun i=>(U.zF (gb tPe σ 2)).length-i}
 |_=>none
def jve:Prop:=∀(d:PeD×Int×Unit),(∃(x:Nat),((0=(x:Int)/\True)/\True)/\x<=(U.zF d.1).length/\∀(j:Nat),j<x->nth (U.zF d.1) j≠d.2.1)/\∀(x:Nat),(x<=(U.zF d.1).length/\∀(j:Nat),j<x->nth (U.zF d.1) j≠d.2.1)->d.1.2.2.2.1.length<4611686018427387904->(decide ((x:Int)<(d.1.2.2.2.1.length:Int))=true->0<=(x:Int)/\(x:Int)<(d.1.2.2.2.1.length:Int)/\(decide (nth d.1.2.2.2.1 (x:Int).toNat=d.2.1)=true->(true,())=(U.vX d.1 d.2.1,()))/\(decide (nth d.1.2.2.2.1 (x:Int).toNat=d.2.1)=false->jw ((x:Int)+1)/\∃(a:Nat),(((x:Int)+1=(a:Int)/\True)/\True)/\(a<=(U.zF d.1).length/\∀(j:Nat),j<a->nth (U.zF d.1) j≠d.2.1)/\(U.zF d.1).length-a<(U.zF d.1).length-x))/\(decide ((x:Int)<(d.1.2.2.2.1.length:Int))=false->(false,())=(U.vX d.1 d.2.1,()))
def jnd:jT:=⟨[.val tCr,.val tJb,.val .int],[.bool],false,fun d=>[0<=d.2.2.1/\d.2.2.1<((U.je d.1).length:Int),U.jQ d.1 d.2.1=true],fun d=>(U.ze d.1 d.2.1 d.2.2.1,())⟩
abbrev q105_0 (d:CrD×JbD×Int×Unit):=(nth d.1.2.1 d.2.2.1.toNat)
def jmZ:Prop:=∀(d:CrD×JbD×Int×Unit),0<=d.2.2.1/\d.2.2.1<(↑(U.je d.1).length:Int)->U.jQ d.1 d.2.1=true->0<=d.2.2.1/\d.2.2.1<(d.1.2.1.length:Int)/\((!U.vX (q105_0 d) d.2.1.2.2.1)=true->0<=d.2.1.2.2.2.1/\d.2.1.2.2.2.1<=63)/\((!U.vX (q105_0 d) d.2.1.2.2.1&&U.jG (q105_0 d).2.1 d.2.1.2.2.2.1)=true->0<=d.2.1.2.2.2.2.1/\d.2.1.2.2.2.2.1<=63)/\(!U.vX (q105_0 d) d.2.1.2.2.1&&U.jG (q105_0 d).2.1 d.2.1.2.2.2.1&&U.jG (q105_0 d).2.2.1 d.2.1.2.2.2.2.1,())=(U.ze d.1 d.2.1 d.2.2.1,())
def jvA:jT:=⟨[.val .int],[.int],false,fun d=>[BT.Set' d.1],fun d=>(BT.size d.1,())⟩
def jw2:Ann:=fun r=>match r with
 |2=>some fun σ=>{X:=Nat,sl:=fun j=>[(0,.dat .int (U.kH (gd .int σ 0) j)),(3,.dat .int (BT.size (gd .int σ 0)-BT.size (U.kH (gd .int σ 0) j)))],ob:=fun _=>[],inv:=fun j=>BT.Set' (U.kH (gd .int σ 0) j),mu:=fun j=>(U.kH (gd .int σ 0) j).toNat}
 |_=>none
def jvf:Prop:=∀(d:Int×Unit),BT.Set' d.1->(∃(x:Nat),((d.1=U.kH d.1 x/\0=BT.size d.1-BT.size (U.kH d.1 x)/\True)/\True)/\BT.Set' (U.kH d.1 x))/\∀(x:Nat),BT.Set' (U.kH d.1 x)->(decide (0<U.kH d.1 x)=true->jw (BT.size d.1-BT.size (U.kH d.1 x)+qO (U.kH d.1 x) (1:Int))/\(0:Int)<=1/\(1:Int)<=64/\∃(a:Nat),((U.kH d.1 x/(2:Int)^Int.toNat 1=U.kH d.1 a/\BT.size d.1-BT.size (U.kH d.1 x)+qO (U.kH d.1 x) 1=BT.size d.1-BT.size (U.kH d.1 a)/\True)/\True)/\BT.Set' (U.kH d.1 a)/\(U.kH d.1 a).toNat<(U.kH d.1 x).toNat)/\(decide (0<U.kH d.1 x)=false->(BT.size d.1-BT.size (U.kH d.1 x),())=(BT.size d.1,()))
def jsb:jT:=⟨[.val tCr,.val .int,.val .int,.val .int,.val .int],[.bool],false,fun d=>[U.jj d.1=true,0<=d.2.2.2.1/\d.2.2.2.1<U.la d.1,0<=d.2.2.2.2.1/\d.2.2.2.2.1<U.la d.1],fun d=>(U.jbc d.1 d.2.1 d.2.2.1 d.2.2.2.1 d.2.2.2.2.1,())⟩
def jtP:Ann:=fun r=>match r with
 |2=>some fun σ=>{X:=Nat,sl:=fun i=>[(11,.dat .int (i:Int))],ob:=fun _=>[],inv:=fun i=>i<=(U.je (gb tCr σ 5)).length/\∀j:Nat,j<i->(U.jG (gd .int σ 1) (j:Int)&&decide (gd .int σ 2<=nth (U.lv (nth (U.je (gb tCr σ 5)) j)) (gd .int σ 3).toNat)&&decide (gd .int σ 2<=nth (U.lv (nth (U.je (gb tCr σ 5)) j)) (gd .int σ 4).toNat))=false,mu:=fun i=>(U.je (gb tCr σ 5)).length-i}
 |_=>none
abbrev q107_0 (d:CrD×Int×Int×Int×Int×Unit)(j:Nat):=(U.jG d.2.1 (j:Int)&&decide (d.2.2.1<=nth (U.lv (nth (U.je d.1) j)) d.2.2.2.1.toNat)&&decide (d.2.2.1<=nth (U.lv (nth (U.je d.1) j)) d.2.2.2.2.1.toNat))
abbrev q107_1 (d:CrD×Int×Int×Int×Int×Unit)(x:Nat):=(d.2.2.1<=nth (nth d.1.2.1 (x:Int).toNat).1 d.2.2.2.1.toNat)
abbrev q107_2 (d:CrD×Int×Int×Int×Int×Unit)(x:Nat):=(U.jG d.2.1 (x:Int)&&decide (q107_1 d x)&&decide (d.2.2.1<=nth (nth d.1.2.1 (x:Int).toNat).1 d.2.2.2.2.1.toNat))
abbrev q107_3 (d:CrD×Int×Int×Int×Int×Unit)(x:Nat):=(U.jG d.2.1 (x:Int)&&decide (q107_1 d x))
def jrL:Prop:=∀(d:CrD×Int×Int×Int×Int×Unit),U.jj d.1=true->0<=d.2.2.2.1/\d.2.2.2.1<U.la d.1->0<=d.2.2.2.2.1/\d.2.2.2.2.1<U.la d.1->(∃(x:Nat),((0=(x:Int)/\True)/\True)/\x<=(U.je d.1).length/\∀(j:Nat),j<x->(q107_0 d j)=false)/\∀(x:Nat),(x<=(U.je d.1).length/\∀(j:Nat),j<x->(q107_0 d j)=false)->d.1.2.1.length<4611686018427387904->(decide ((x:Int)<(d.1.2.1.length:Int))=true->(0<=(x:Int)/\(x:Int)<=63)/\(U.jG d.2.1 (x:Int)=true->0<=(x:Int))/\(U.jG d.2.1 (x:Int)=true->(x:Int)<(d.1.2.1.length:Int))/\(U.jG d.2.1 (x:Int)=true->0<=d.2.2.2.1)/\(U.jG d.2.1 (x:Int)=true->d.2.2.2.1<(↑(nth d.1.2.1 (x:Int).toNat).1.length:Int))/\((q107_3 d x)=true->0<=(x:Int))/\((q107_3 d x)=true->(x:Int)<(d.1.2.1.length:Int))/\((q107_3 d x)=true->0<=d.2.2.2.2.1)/\((q107_3 d x)=true->d.2.2.2.2.1<(↑(nth d.1.2.1 (x:Int).toNat).1.length:Int))/\((q107_2 d x)=true->(true,())=(U.jbc d.1 d.2.1 d.2.2.1 d.2.2.2.1 d.2.2.2.2.1,()))/\((q107_2 d x)=false->jw ((x:Int)+1)/\∃(a:Nat),(((x:Int)+1=(a:Int)/\True)/\True)/\(a<=(U.je d.1).length/\∀(j:Nat),j<a->(q107_0 d j)=false)/\(U.je d.1).length-a<(U.je d.1).length-x))/\(decide ((x:Int)<(d.1.2.1.length:Int))=false->(false,())=(U.jbc d.1 d.2.1 d.2.2.1 d.2.2.2.1 d.2.2.2.2.1,()))
def jxO:jT:=⟨[.val tCr,.val .int,.val .int,.val .int],[.slice .int],false,fun d=>[U.jj d.1=true,0<=d.2.2.2.1/\d.2.2.2.1<U.la d.1],fun d=>(U.jcm d.1 d.2.1 d.2.2.1 d.2.2.2.1,())⟩
def jAp:Ann:=fun r=>match r with
 |3=>some fun σ=>{X:=Nat,sl:=fun i=>[(10,.dat .int (i:Int)),(9,.own 9 .int)],ob:=fun i=>[(9,some (.row 3 .int false .yes (List.replicate i (-1))))],inv:=fun i=>i<=(U.la (gb tCr σ 4)).toNat,mu:=fun i=>(U.la (gb tCr σ 4)).toNat-i}
 |8=>some fun σ=>{X:=Nat,sl:=fun i=>[(11,.dat .int (i:Int)),(9,.own 9 .int)],ob:=fun i=>[(9,some (.row 3 .int false .yes (U.zm (U.J3 (gb tCr σ 4) (gd .int σ 1) (gd .int σ 2)) (U.la (gb tCr σ 4)).toNat (gd .int σ 3).toNat i)))],inv:=fun i=>i<=(U.la (gb tCr σ 4)).toNat,mu:=fun i=>(U.la (gb tCr σ 4)).toNat-i}
 |11=>some fun σ=>{X:=Nat,sl:=fun i=>[(12,.dat .int (i:Int)),(9,.own 9 .int)],ob:=fun i=>[(9,some (.row 3 .int false .yes (U.kk (U.J3 (gb tCr σ 4) (gd .int σ 1) (gd .int σ 2)) (U.la (gb tCr σ 4)).toNat (gd .int σ 11).toNat (gr .int σ 9) i)))],inv:=fun i=>i<=(U.la (gb tCr σ 4)).toNat,mu:=fun i=>(U.la (gb tCr σ 4)).toNat-i}
 |14=>some fun σ=>{X:=Nat,sl:=fun i=>[(13,.dat .int (i:Int)),(9,.own 9 .int)],ob:=fun i=>[(9,some (.row 3 .int false .yes (U.kJ (U.J3 (gb tCr σ 4) (gd .int σ 1) (gd .int σ 2)) (gd .int σ 11).toNat (gd .int σ 12).toNat (gr .int σ 9) i)))],inv:=fun i=>i<=(U.la (gb tCr σ 4)).toNat,mu:=fun i=>(U.la (gb tCr σ 4)).toNat-i}
 |_=>none
abbrev q108_2 (d:CrD×Int×Int×Int×Unit):=(U.J3 d.1 d.2.1 d.2.2.1)
abbrev q108_4 (d:CrD×Int×Int×Int×Unit)(x:Nat):=(U.zm (q108_2 d) (U.la d.1).toNat d.2.2.2.1.toNat x)
abbrev q108_1 (d:CrD×Int×Int×Int×Unit)(x:Nat)(a:Nat):=(U.kk (q108_2 d) (U.la d.1).toNat (x:Int).toNat (q108_4 d x) a)
abbrev q108_0 (d:CrD×Int×Int×Int×Unit)(x:Nat)(a:Nat)(b:Nat):=(U.kJ (q108_2 d) (x:Int).toNat (a:Int).toNat (q108_1 d x a) b)
abbrev q108_3 (d:CrD×Int×Int×Int×Unit)(x:Nat)(a:Nat)(b:Nat):=(nth (q108_0 d x a b) (a:Int).toNat=(x:Int))
abbrev q108_5 (d:CrD×Int×Int×Int×Unit)(x:Nat)(b:Nat)(a:Nat):=(decide (q108_3 d x b a)&&decide (nth (q108_0 d x b a) (a:Int).toNat<0))
abbrev q108_6 (d:CrD×Int×Int×Int×Unit)(x:Nat)(b:Nat)(a:Nat):=(decide (q108_3 d x b a)&&decide (nth (q108_0 d x b a) (a:Int).toNat<0)&&U.jbc d.1 d.2.1 d.2.2.1 (b:Int) (a:Int))
def jxp:Prop:=∀(d:CrD×Int×Int×Int×Unit),U.jj d.1=true->0<=d.2.2.2.1/\d.2.2.2.1<U.la d.1->(∃(x:Nat),((0=(x:Int)/\True/\True)/\List.replicate x (-1:Int)=[]/\True)/\x<=(U.la d.1).toNat)/\∀(x:Nat),x<=(U.la d.1).toNat->(decide ((x:Int)<d.1.1)=true->((List.replicate x (-1:Int)).length+[(-1:Int)].length)*8<=140737488355328/\jw ((x:Int)+1)/\∃(c:Nat),(((x:Int)+1=(c:Int)/\True/\True)/\List.replicate x (-1:Int)++[(-1:Int)]=List.replicate c (-1:Int)/\True)/\c<=(U.la d.1).toNat/\(U.la d.1).toNat-c<(U.la d.1).toNat-x)/\(decide ((x:Int)<d.1.1)=false->0<=d.2.2.2.1/\d.2.2.2.1<(↑(List.replicate x (-1:Int)).length:Int)/\(∃(e:Nat),((0=(e:Int)/\True/\True)/\(List.replicate x (-1:Int)).set d.2.2.2.1.toNat 0=U.zm (q108_2 d) (U.la d.1).toNat d.2.2.2.1.toNat e/\True)/\e<=(U.la d.1).toNat)/\∀(x:Nat),x<=(U.la d.1).toNat->(decide ((x:Int)<d.1.1)=true->(∃(a:Nat),((0=(a:Int)/\True/\True)/\U.zm (q108_2 d) (U.la d.1).toNat d.2.2.2.1.toNat x=U.kk (q108_2 d) (U.la d.1).toNat (x:Int).toNat (q108_4 d x) a/\True)/\a<=(U.la d.1).toNat)/\∀(a:Nat),a<=(U.la d.1).toNat->(decide ((a:Int)<d.1.1)=true->(∃(b:Nat),((0=(b:Int)/\True/\True)/\U.kk (q108_2 d) (U.la d.1).toNat (x:Int).toNat (q108_4 d x) a=U.kJ (q108_2 d) (x:Int).toNat (a:Int).toNat (q108_1 d x a) b/\True)/\b<=(U.la d.1).toNat)/\∀(b:Nat),b<=(U.la d.1).toNat->(decide ((b:Int)<d.1.1)=true->0<=(a:Int)/\(a:Int)<(↑(q108_0 d x a b).length:Int)/\(decide (q108_3 d x a b)=true->0<=(b:Int))/\(decide (q108_3 d x a b)=true->(b:Int)<(↑(q108_0 d x a b).length:Int))/\((q108_5 d x a b)=true->U.jj d.1=true)/\((q108_5 d x a b)=true->0<=(a:Int)/\(a:Int)<U.la d.1)/\((q108_5 d x a b)=true->0<=(b:Int)/\(b:Int)<U.la d.1)/\((q108_6 d x a b)=true->jw ((x:Int)+1)/\0<=(b:Int)/\(b:Int)<(↑(q108_0 d x a b).length:Int)/\jw ((b:Int)+1)/\∃(c:Nat),((True/\(b:Int)+1=(c:Int)/\True)/\(q108_0 d x a b).set (b:Int).toNat ((x:Int)+1)=U.kJ (q108_2 d) (x:Int).toNat (a:Int).toNat (q108_1 d x a) c/\True)/\c<=(U.la d.1).toNat/\(U.la d.1).toNat-c<(U.la d.1).toNat-b)/\((q108_6 d x a b)=false->jw ((b:Int)+1)/\∃(c:Nat),((True/\(b:Int)+1=(c:Int)/\True)/\U.kJ (q108_2 d) (x:Int).toNat (a:Int).toNat (q108_1 d x a) b=U.kJ (q108_2 d) (x:Int).toNat (a:Int).toNat (q108_1 d x a) c/\True)/\c<=(U.la d.1).toNat/\(U.la d.1).toNat-c<(U.la d.1).toNat-b))/\(decide ((b:Int)<d.1.1)=false->jw ((a:Int)+1)/\∃(c:Nat),(((a:Int)+1=(c:Int)/\True/\True)/\U.kJ (q108_2 d) (x:Int).toNat (a:Int).toNat (q108_1 d x a) b=U.kk (q108_2 d) (U.la d.1).toNat (x:Int).toNat (q108_4 d x) c/\True)/\c<=(U.la d.1).toNat/\(U.la d.1).toNat-c<(U.la d.1).toNat-a))/\(decide ((a:Int)<d.1.1)=false->jw ((x:Int)+1)/\∃(c:Nat),(((x:Int)+1=(c:Int)/\True/\True)/\U.kk (q108_2 d) (U.la d.1).toNat (x:Int).toNat (q108_4 d x) a=U.zm (q108_2 d) (U.la d.1).toNat d.2.2.2.1.toNat c/\True)/\c<=(U.la d.1).toNat/\(U.la d.1).toNat-c<(U.la d.1).toNat-x))/\(decide ((x:Int)<d.1.1)=false->(U.zm (q108_2 d) (U.la d.1).toNat d.2.2.2.1.toNat x,())=(U.jcm d.1 d.2.1 d.2.2.1 d.2.2.2.1,())))
def jpt:jT:=⟨[.val tCr,.val tJb,.val .int],[.int],false,fun d=>[U.jj d.1=true,U.jQ d.1 d.2.1=true,U.jxb d.2.2.1],fun d=>(U.jwQ d.1 d.2.1 d.2.2.1,())⟩
def jre:Ann:=fun r=>match r with
 |5=>some fun σ=>{X:=Nat,sl:=fun i=>[(10,.dat .int (i:Int)),(8,.dat .int (U.j8 (gb tCr σ 3) (gb tJb σ 4) (gd .int σ 2) i).1),(9,.dat .bool (U.j8 (gb tCr σ 3) (gb tJb σ 4) (gd .int σ 2) i).2)],ob:=fun _=>[],inv:=fun i=>i<=(U.je (gb tCr σ 3)).length,mu:=fun i=>(U.je (gb tCr σ 3)).length-i}
 |_=>none
abbrev q109_1 (d:CrD×JbD×Int×Unit)(x:Nat):=(U.j8 d.1 d.2.1 d.2.2.1 x)
abbrev q109_2 (d:CrD×JbD×Int×Unit)(x:Nat):=(nth d.1.2.1 (x:Int).toNat)
abbrev q109_3 (d:CrD×JbD×Int×Unit)(a:Nat):=(U.j8 d.1 d.2.1 d.2.2.1 a)
abbrev q109_4 (d:CrD×JbD×Int×Unit)(x:Nat):=(!U.jG (q109_2 d x).2.2.1 d.2.1.2.2.2.2.1)
abbrev q109_5 (d:CrD×JbD×Int×Unit)(x:Nat):=((q109_1 d x).2||(q109_2 d x).2.2.2.2.1)
abbrev q109_7 (d:CrD×JbD×Int×Unit):=(nth d.1.2.2.1 d.2.1.2.2.2.2.1.toNat)
abbrev q109_0 (d:CrD×JbD×Int×Unit):=(U.jcm d.1 d.2.2.1 (q109_7 d).1 d.2.1.1)
abbrev q109_6 (d:CrD×JbD×Int×Unit):=(nth (q109_0 d) d.2.1.2.1.toNat<0)
abbrev q109_8 (d:CrD×JbD×Int×Unit):=(U.jwQ d.1 d.2.1 d.2.2.1,())
abbrev q109_9 (d:CrD×JbD×Int×Unit):=(0<=d.2.1.2.2.2.2.1/\d.2.1.2.2.2.2.1<=63)
abbrev q109_10 (d:CrD×JbD×Int×Unit):=(0<=d.2.1.1/\d.2.1.1<U.la d.1)
abbrev q109_11 (d:CrD×JbD×Int×Unit)(x:Nat):=(!U.jG (q109_2 d x).2.1 d.2.1.2.2.2.1)
def jo5:Prop:=∀(d:CrD×JbD×Int×Unit),U.jj d.1=true->U.jQ d.1 d.2.1=true->U.jxb d.2.2.1->0<=d.2.1.2.2.2.2.1/\d.2.1.2.2.2.2.1<(d.1.2.2.1.length:Int)/\(∃(x:Nat),((0=(x:Int)/\0=(q109_1 d x).1/\false=(q109_1 d x).2/\True)/\True)/\x<=(U.je d.1).length)/\∀(x:Nat),x<=(U.je d.1).length->d.1.2.1.length<4611686018427387904->(decide ((x:Int)<(d.1.2.1.length:Int))=true->(0<=(x:Int)/\(x:Int)<=63)/\((!U.jG d.2.2.1 (x:Int))=true->jw ((x:Int)+1)/\∃(a:Nat),(((q109_1 d x).2=(q109_3 d a).2/\(q109_1 d x).1=(q109_3 d a).1/\(x:Int)+1=(a:Int)/\True)/\True)/\a<=(U.je d.1).length/\(U.je d.1).length-a<(U.je d.1).length-x)/\((!U.jG d.2.2.1 (x:Int))=false->0<=(x:Int)/\(x:Int)<(d.1.2.1.length:Int)/\(U.vX (q109_2 d x) d.2.1.2.2.1=true->(0<=d.2.1.2.2.2.1/\d.2.1.2.2.2.1<=63)/\((q109_11 d x)=true->(q109_9 d)/\((q109_4 d x)=true->jw ((x:Int)+1)/\∃(a:Nat),(((x:Int)+1=(a:Int)/\(q109_5 d x)=(q109_3 d a).2/\bor (bor (bor (q109_1 d x).1 (1:Int)) (2:Int)) 4=(q109_3 d a).1/\True)/\True)/\a<=(U.je d.1).length/\(U.je d.1).length-a<(U.je d.1).length-x)/\((q109_4 d x)=false->jw ((x:Int)+1)/\∃(a:Nat),(((x:Int)+1=(a:Int)/\(q109_5 d x)=(q109_3 d a).2/\bor (bor (q109_1 d x).1 (1:Int)) 2=(q109_3 d a).1/\True)/\True)/\a<=(U.je d.1).length/\(U.je d.1).length-a<(U.je d.1).length-x))/\((q109_11 d x)=false->(q109_9 d)/\((q109_4 d x)=true->jw ((x:Int)+1)/\∃(a:Nat),(((x:Int)+1=(a:Int)/\(q109_5 d x)=(q109_3 d a).2/\bor (bor (q109_1 d x).1 (1:Int)) 4=(q109_3 d a).1/\True)/\True)/\a<=(U.je d.1).length/\(U.je d.1).length-a<(U.je d.1).length-x)/\((q109_4 d x)=false->jw ((x:Int)+1)/\∃(a:Nat),(((x:Int)+1=(a:Int)/\(q109_5 d x)=(q109_3 d a).2/\bor (q109_1 d x).1 1=(q109_3 d a).1/\True)/\True)/\a<=(U.je d.1).length/\(U.je d.1).length-a<(U.je d.1).length-x)))/\(U.vX (q109_2 d x) d.2.1.2.2.1=false->(0<=d.2.1.2.2.2.1/\d.2.1.2.2.2.1<=63)/\((q109_11 d x)=true->(q109_9 d)/\((q109_4 d x)=true->jw ((x:Int)+1)/\∃(a:Nat),(((x:Int)+1=(a:Int)/\(q109_5 d x)=(q109_3 d a).2/\bor (bor (q109_1 d x).1 (2:Int)) 4=(q109_3 d a).1/\True)/\True)/\a<=(U.je d.1).length/\(U.je d.1).length-a<(U.je d.1).length-x)/\((q109_4 d x)=false->jw ((x:Int)+1)/\∃(a:Nat),(((x:Int)+1=(a:Int)/\(q109_5 d x)=(q109_3 d a).2/\bor (q109_1 d x).1 2=(q109_3 d a).1/\True)/\True)/\a<=(U.je d.1).length/\(U.je d.1).length-a<(U.je d.1).length-x))/\((q109_11 d x)=false->(q109_9 d)/\((q109_4 d x)=true->jw ((x:Int)+1)/\∃(a:Nat),(((x:Int)+1=(a:Int)/\(q109_5 d x)=(q109_3 d a).2/\bor (q109_1 d x).1 4=(q109_3 d a).1/\True)/\True)/\a<=(U.je d.1).length/\(U.je d.1).length-a<(U.je d.1).length-x)/\((q109_4 d x)=false->jw ((x:Int)+1)/\∃(a:Nat),(((q109_1 d x).1=(q109_3 d a).1/\(x:Int)+1=(a:Int)/\(q109_5 d x)=(q109_3 d a).2/\True)/\True)/\a<=(U.je d.1).length/\(U.je d.1).length-a<(U.je d.1).length-x)))))/\(decide ((x:Int)<(d.1.2.1.length:Int))=false->BT.Set' d.2.2.1/\(decide (BT.size d.2.2.1≠max d.2.1.2.2.2.2.2.1 (q109_7 d).2.1)=true->(((q109_7 d).2.2.1&& !(q109_1 d x).2)=true->U.jj d.1=true/\(q109_10 d)/\0<=d.2.1.2.1/\d.2.1.2.1<(↑(q109_0 d).length:Int)/\(decide (q109_6 d)=true->(bor (bor (bor (q109_1 d x).1 (8:Int)) (16:Int)) (32:Int),())=(q109_8 d))/\(decide (q109_6 d)=false->(bor (bor (q109_1 d x).1 (8:Int)) (16:Int),())=(q109_8 d)))/\(((q109_7 d).2.2.1&& !(q109_1 d x).2)=false->U.jj d.1=true/\(q109_10 d)/\0<=d.2.1.2.1/\d.2.1.2.1<(↑(q109_0 d).length:Int)/\(decide (q109_6 d)=true->(bor (bor (q109_1 d x).1 (8:Int)) (32:Int),())=(q109_8 d))/\(decide (q109_6 d)=false->(bor (q109_1 d x).1 (8:Int),())=(q109_8 d))))/\(decide (BT.size d.2.2.1≠max d.2.1.2.2.2.2.2.1 (q109_7 d).2.1)=false->(((q109_7 d).2.2.1&& !(q109_1 d x).2)=true->U.jj d.1=true/\(q109_10 d)/\0<=d.2.1.2.1/\d.2.1.2.1<(↑(q109_0 d).length:Int)/\(decide (q109_6 d)=true->(bor (bor (q109_1 d x).1 (16:Int)) (32:Int),())=(q109_8 d))/\(decide (q109_6 d)=false->(bor (q109_1 d x).1 (16:Int),())=(q109_8 d)))/\(((q109_7 d).2.2.1&& !(q109_1 d x).2)=false->U.jj d.1=true/\(q109_10 d)/\0<=d.2.1.2.1/\d.2.1.2.1<(↑(q109_0 d).length:Int)/\(decide (q109_6 d)=true->(bor (q109_1 d x).1 (32:Int),())=(q109_8 d))/\(decide (q109_6 d)=false->((q109_1 d x).1,())=(q109_8 d)))))
def jvB:jT:=⟨[.val tCr,.val tJb,.val .int],[.bool],false,fun d=>[U.jj d.1=true,U.jQ d.1 d.2.1=true,U.jxb d.2.2.1],fun d=>(U.qg d.1 d.2.1 d.2.2.1,())⟩
def jvg:Prop:=∀(d:CrD×JbD×Int×Unit),U.jj d.1=true->U.jQ d.1 d.2.1=true->U.jxb d.2.2.1->(decide (0<d.2.2.1)=true->U.jj d.1=true)/\(decide (0<d.2.2.1)=true->U.jQ d.1 d.2.1=true)/\(decide (0<d.2.2.1)=true->U.jxb d.2.2.1)/\(decide (0<d.2.2.1)&&decide (U.jwQ d.1 d.2.1 d.2.2.1=0),())=(U.qg d.1 d.2.1 d.2.2.1,())
def jxQ:jT:=⟨[.val tCr,.val .int],[.int],false,fun d=>[U.jj d.1=true],fun d=>(U.jg7 d.1 d.2.1,())⟩
def jAq:Ann:=fun r=>match r with
 |3=>some fun σ=>{X:=Nat,sl:=fun i=>[(6,.dat .int (i:Int)),(5,.dat .int (U.zR (gb tCr σ 2) (gd .int σ 1) i))],ob:=fun _=>[],inv:=fun i=>i<=(U.je (gb tCr σ 2)).length,mu:=fun i=>(U.je (gb tCr σ 2)).length-i}
 |_=>none
def jxr:Prop:=∀(d:CrD×Int×Unit),U.jj d.1=true->(∃(x:Nat),((0=(x:Int)/\0=U.zR d.1 d.2.1 x/\True)/\True)/\x<=(U.je d.1).length)/\∀(x:Nat),x<=(U.je d.1).length->d.1.2.1.length<4611686018427387904->(decide ((x:Int)<(d.1.2.1.length:Int))=true->(0<=(x:Int)/\(x:Int)<=63)/\(U.jG d.2.1 (x:Int)=true->0<=(x:Int)/\(x:Int)<(d.1.2.1.length:Int)/\jw (U.zR d.1 d.2.1 x+(nth d.1.2.1 (x:Int).toNat).2.2.2.2.2.1)/\jw ((x:Int)+1)/\∃(a:Nat),(((x:Int)+1=(a:Int)/\U.zR d.1 d.2.1 x+(nth d.1.2.1 (x:Int).toNat).2.2.2.2.2.1=U.zR d.1 d.2.1 a/\True)/\True)/\a<=(U.je d.1).length/\(U.je d.1).length-a<(U.je d.1).length-x)/\(U.jG d.2.1 (x:Int)=false->jw ((x:Int)+1)/\∃(a:Nat),((U.zR d.1 d.2.1 x=U.zR d.1 d.2.1 a/\(x:Int)+1=(a:Int)/\True)/\True)/\a<=(U.je d.1).length/\(U.je d.1).length-a<(U.je d.1).length-x))/\(decide ((x:Int)<(d.1.2.1.length:Int))=false->(U.zR d.1 d.2.1 x,())=(U.jg7 d.1 d.2.1,()))
end Go.X
namespace Go.X
open Go.Proofs
theorem jtb:jo4:=by
 rintro⟨n,a,b,⟨⟩⟩;rfl
theorem jb2:zk PR 44 jps:=jU jtb Tryz.func44 kcN koN
theorem jBP:jxq:=by
 rintro⟨s,n,⟨⟩⟩ ⟨a,b⟩;have a:0<=n:=a;have b:n<=63:=b;exact⟨a,by show n<=18446744073709551615;omega,a,by show n<=64;omega,rfl⟩
theorem gM:zk PR 13 jxP:=jU jBP Tryz.func13 kcN koN
theorem jBG (c:CrD) (j:JbD):(U.ja (U.jrv j) 0 (U.la c-1)&&U.ja (U.jmp j) 0 (U.la c-1)&&decide (U.jrv j≠U.jmp j)&&U.ja (U.jAE j) 0 99&&U.ja (U.jsU j) 0 7&&U.ja (U.jru j) 0 3&&U.ja (U.jBB j) 1 8)=U.jQ c j:=by
 unfold U.jQ U.ja;rw[jHs];simp only[jGW,decide_eq_true_eq,ne_eq];constructor
 .rintro⟨⟨⟨⟨⟨⟨⟨f,g⟩,h,i⟩,k⟩,l,m⟩,n,o⟩,a,b⟩,d,e⟩;exact⟨f,g,h,i,k,l,m,n,o,a,b,d,e⟩
 .rintro⟨f,g,h,i,k,l,m,n,o,a,b,d,e⟩;exact⟨⟨⟨⟨⟨⟨⟨f,g⟩,h,i⟩,k⟩,l,m⟩,n,o⟩,a,b⟩,d,e⟩
theorem jwl:jrM:=by
 rintro⟨c,j,⟨⟩⟩ h;have h:U.jj c=true:=h;have d:=jA h;have a:jw (U.la c-1):=L.in64 (by omega) (by omega);refine⟨a,fun _=>a,?_⟩;exact congrArg (fun b=>(b,())) (jBG c j)
theorem jsM:zk PR 60 jsc:=jU jwl Tryz.func60 (kcC jb2 kcN) koN
theorem jzt:jve:=by
 rintro⟨p,n,⟨⟩⟩;refine⟨⟨0,⟨⟨rfl,trivial⟩,trivial⟩,jG7 _,fun j d=>by omega⟩,fun x b c=>⟨fun h=> ?_,fun h=> ?_⟩⟩
 .have c:(U.zF p).length<4611686018427387904:=c;have h:(x:Int)<((U.zF p).length:Int):=of_decide_eq_true h;refine⟨by omega,h,fun a=> ?_,fun a=>⟨L.in64 (by omega) (by omega),x+1,⟨⟨by simp,trivial⟩,trivial⟩,⟨by show x+1<=(U.zF p).length;omega,fun j d=> ?_⟩,by show(U.zF p).length-(x+1)<(U.zF p).length-x;omega⟩⟩
  .have a:nth (U.zF p) x=n:=of_decide_eq_true a;have:U.vX p n=true:=by
    unfold U.vX;rw[jHG];exact⟨_,L.mem_nth (l:=U.zF p) (i:=x) (by omega),by simpa using a⟩
   show(true,())=(U.vX p n,());rw[this]
  .have a:¬nth (U.zF p) x=n:=of_decide_eq_false a;by_cases e:j=x
   .subst e;exact a
   .exact b.2 j (by omega)
 .have h:¬(x:Int)<((U.zF p).length:Int):=of_decide_eq_false h;have g:x<=(U.zF p).length:=b.1;have:U.vX p n=false:=by
   unfold U.vX;rw[jHJ];intro t f;obtain⟨i,hi,rfl⟩:=L.mem_iff.1 f;have:=b.2 i (by omega);have this:nth (U.zF p) i≠n:=this;simpa using this
  show(false,())=(U.vX p n,());rw[this]
theorem jmb:zk PR 77 jvz:=kI jw1 jzt Tryz.func77 kcN koN
theorem jy7 {c:CrD} {j:JbD} (h:U.jQ c j=true):(0<=U.jrv j/\U.jrv j<U.la c)/\(0<=U.jmp j/\U.jmp j<U.la c)/\(0<=U.jsU j/\U.jsU j<=7)/\(0<=U.jru j/\U.jru j<=3)/\1<=U.jBB j/\U.jBB j<=8:=by
 unfold U.jQ at h;have:=of_decide_eq_true h;omega
theorem jqB:jmZ:=by
 unfold jmZ q105_0;rintro⟨c,j,p,⟨⟩⟩ ⟨b,d⟩ a;have a:U.jQ c j=true:=a;obtain⟨_,_,f,k,_⟩:=jy7 a;exact⟨b,d,fun _=>⟨f.1,by show U.jsU j<=63;omega⟩,fun _=>⟨k.1,by show U.jru j<=63;omega⟩,rfl⟩
theorem jnO:zk PR 50 jnd:=jU jqB Tryz.func50 (kcC jmb (kcC gM kcN)) koN
theorem jzu:jvf:=by
 rintro⟨s,⟨⟩⟩ d;have d:BT.Set' s:=d;have e:=BT.size_le s;refine⟨⟨0,⟨⟨rfl,by show(0:Int)=BT.size s-BT.size s;omega,trivial⟩,trivial⟩,d⟩,fun x a=>⟨fun h=> ?_,fun h=> ?_⟩⟩
 .have h:0<U.kH s x:=of_decide_eq_true h;have a:BT.Set' (U.kH s x):=a;have g:=BT.size_half a;have i:=BT.size_le (U.kH s x);have j:qO (U.kH s x) 1=(U.kH s x)%2:=by
   obtain⟨n,f,c⟩:=BT.nat_of a;rw[f,show(1:Int)=((1:Nat):Int) from rfl,BT.band_nat (BT.lt63 c) (by decide),Nat.and_one_is_mod];omega
  have b:U.kH s (x+1)=U.kH s x/2:=(by show U.kH s x/2^1=_;simp);unfold BT.Set' at a;refine⟨?_,by decide,by decide,x+1,⟨⟨rfl,?_,trivial⟩,trivial⟩,?_,?_⟩
  .show jw (BT.size s-BT.size (U.kH s x)+qO (U.kH s x) 1);exact L.in64 (by omega) (by omega)
  .show BT.size s-BT.size (U.kH s x)+qO (U.kH s x) 1=BT.size s-BT.size (U.kH s (x+1));rw[b];omega
  .show BT.Set' (U.kH s (x+1));rw[b];unfold BT.Set';omega
  .show(U.kH s (x+1)).toNat<(U.kH s x).toNat;rw[b];omega
 .have h:¬0<U.kH s x:=of_decide_eq_false h;have a:BT.Set' (U.kH s x):=a;unfold BT.Set' at a;have:U.kH s x=0:=(by omega);show(BT.size s-BT.size (U.kH s x),())=(BT.size s,());rw[this,BT.size_zero];simp
theorem jvV:zk PR 78 jvA:=kI jw2 jzu Tryz.func78 kcN koN
theorem jqM (c:CrD) (t:Int) (n:Nat):U.zR c t (n+1)=if U.jG t (n:Int)=true then U.zR c t n+U.fe (nth (U.je c) n) else U.zR c t n:=by
 unfold U.zR;rw[jHn,jHh];rfl
theorem jzG {c:CrD} (h:U.jj c=true) (t:Int):∀n,n<=(U.je c).length->0<=U.zR c t n/\U.zR c t n<=1000*(n:Int)
 |0,_=>⟨jHV _,jHV _⟩
 |n+1,a=>by
  have b:=jzG h t n (by omega)
  have:=jfW h (i:=n) (by omega)
  rw[jqM]
  split<;>omega
theorem jBQ:jxr:=by
 rintro⟨c,t,⟨⟩⟩ b;have b:U.jj c=true:=b;have m:=(jA b).2.2.1;refine⟨⟨0,⟨⟨rfl,rfl,trivial⟩,trivial⟩,jG7 _⟩,fun x g _=>⟨fun h=> ?_,fun h=> ?_⟩⟩
 .have h:(x:Int)<((U.je c).length:Int):=of_decide_eq_true h;have d:=jqM c t x;have l:=jzG b t x (by omega);have k:=jfW b (i:=x) (by omega);have j:x+1<=(U.je c).length:=(by omega);have f:(U.je c).length-(x+1)<(U.je c).length-x:=(by omega);refine⟨⟨by omega,by omega⟩,fun a=>⟨by omega,h,?_,L.in64 (by omega) (by omega),x+1,⟨⟨by simp,?_,trivial⟩,trivial⟩,j,f⟩,fun a=>⟨L.in64 (by omega) (by omega),x+1,⟨⟨?_,by simp,trivial⟩,trivial⟩,j,f⟩⟩
  .show jw (U.zR c t x+U.fe (nth (U.je c) x));exact L.in64 (by omega) (by omega)
  .rw[if_pos a] at d;exact d.symm
  .have a:U.jG t (x:Int)=false:=a;rw[if_neg (by rw[a];simp)] at d;exact d.symm
 .have h:¬(x:Int)<((U.je c).length:Int):=of_decide_eq_false h;have g:x<=(U.je c).length:=g;have e:x=(U.je c).length:=(by omega);subst e;rfl
theorem jyF:zk PR 27 jxQ:=kI jAq jBQ Tryz.func27 (kcC gM kcN) koN
end Go.X
namespace Go.X
open Go.Proofs
theorem jzv:jvg:=by
 rintro⟨c,j,t,⟨⟩⟩ a b d;exact⟨fun _=>a,fun _=>b,fun _=>d,rfl⟩
theorem jFp {c:CrD} (h:U.jj c=true) {i:Nat} (hi:i<(U.je c).length):((U.lv (nth (U.je c) i)).length:Int)=U.la c:=by
 have:=(jA h).2.2.2.2.1 _ (L.mem_nth hi);unfold U.y8 at this;simp only[jGW,decide_eq_true_eq] at this;exact this.1.1
theorem jwk:jrL:=by
 unfold jrL q107_3 q107_2 q107_1 q107_0;rintro⟨c,t,lev,a,b,⟨⟩⟩ f g k;have f:U.jj c=true:=f;have g:0<=a/\a<U.la c:=g;have k:0<=b/\b<U.la c:=k;have n:=(jA f).2.2.1;refine⟨⟨0,⟨⟨rfl,trivial⟩,trivial⟩,jG7 _,fun j m=>by omega⟩,fun x l _=>⟨fun h=> ?_,fun h=> ?_⟩⟩
 .have h:(x:Int)<((U.je c).length:Int):=of_decide_eq_true h;have o:=jFp f (i:=x) (by omega);refine⟨⟨by omega,by omega⟩,fun _=>by omega,fun _=>h,fun _=>g.1,fun _=> ?_,fun _=>by omega,fun _=>h,fun _=>k.1,fun _=> ?_,fun d=> ?_,fun d=>⟨L.in64 (by omega) (by omega),x+1,⟨⟨by simp,trivial⟩,trivial⟩,⟨by show x+1<=(U.je c).length;omega,fun j m=> ?_⟩,by show(U.je c).length-(x+1)<(U.je c).length-x;omega⟩⟩
  .show a<((U.lv (nth (U.je c) x)).length:Int);omega
  .show b<((U.lv (nth (U.je c) x)).length:Int);omega
  .have d:(U.jG t (x:Int)&&decide (lev<=nth (U.lv (nth (U.je c) x)) a.toNat)&&decide (lev<=nth (U.lv (nth (U.je c) x)) b.toNat))=true:=d;have:U.jbc c t lev a b=true:=by
    unfold U.jbc;rw[jHG];exact⟨x,jG4.2 (by omega),d⟩
   show(true,())=(U.jbc c t lev a b,());rw[this]
  .by_cases e:j=x
   .subst e;exact d
   .exact l.2 j (by omega)
 .have h:¬(x:Int)<((U.je c).length:Int):=of_decide_eq_false h;have:U.jbc c t lev a b=false:=by
   unfold U.jbc;rw[jHJ];intro i hi;have hi:=jG4.1 hi;have:=l.2 i (by omega);rw[Bool.not_eq_true];exact this
  show(false,())=(U.jbc c t lev a b,());rw[this]
theorem jsL:zk PR 107 jsb:=kI jtP jwk Tryz.func107 (kcC gM kcN) koN
theorem jti (J:Nat->Nat->Bool) (r a:Nat) (out:List Int) (b:Nat):(U.jcQ J r a out b).length=out.length:=by
 unfold U.jcQ
 split
 .rw[jH6]
 .rfl
theorem jqO (J:Nat->Nat->Bool) (r a:Nat) (out:List Int) (k:Nat):U.kJ J r a out (k+1)=U.jcQ J r a (U.kJ J r a out k) k:=by
 unfold U.kJ;rw[jHn,jHh];rfl
theorem jop (J:Nat->Nat->Bool) (r a:Nat) (out:List Int):∀k,(U.kJ J r a out k).length=out.length
 |0=>rfl
 |k+1=>by rw[jqO,jti,jop J r a out k]
theorem jqP (J:Nat->Nat->Bool) (n r:Nat) (out:List Int) (k:Nat):U.kk J n r out (k+1)=U.kJ J r k (U.kk J n r out k) n:=by
 unfold U.kk;rw[jHn,jHh];rfl
theorem joq (J:Nat->Nat->Bool) (n r:Nat) (out:List Int):∀k,(U.kk J n r out k).length=out.length
 |0=>rfl
 |k+1=>by rw[jqP,jop,joq J n r out k]
theorem jqN (J:Nat->Nat->Bool) (n s:Nat) (k:Nat):U.zm J n s (k+1)=U.kk J n k (U.zm J n s k) n:=by
 unfold U.zm;rw[jHn,jHh];rfl
theorem joo (J:Nat->Nat->Bool) (n s:Nat):∀k,(U.zm J n s k).length=n
 |0=>jen n s
 |k+1=>by rw[jqN,joq,joo J n s k]
theorem jBO:jxp:=by
 unfold jxp q108_6 q108_5 q108_3 q108_0 q108_1 q108_4 q108_2;rintro⟨c,t,lev,s,⟨⟩⟩ j l;have j:U.jj c=true:=j;have l:0<=s/\s<U.la c:=l;have u:=jA j;obtain⟨J,v⟩:∃J,J=U.J3 c t lev:=⟨_,rfl⟩;refine⟨⟨0,⟨⟨rfl,trivial,trivial⟩,rfl,trivial⟩,jG7 _⟩,fun x i=>⟨fun h=> ?_,fun h=> ?_⟩⟩
 .have h:(x:Int)<U.la c:=of_decide_eq_true h;refine⟨by simp only[jHR,jHy,jHM];omega,L.in64 (by omega) (by omega),x+1,⟨⟨by simp,trivial,trivial⟩,?_,trivial⟩,by show x+1<=(U.la c).toNat;omega,by show(U.la c).toNat-(x+1)<(U.la c).toNat-x;omega⟩;exact List.replicate_succ'.symm
 .have h:¬(x:Int)<U.la c:=of_decide_eq_false h;have i:x<=(U.la c).toNat:=i;have f:x=(U.la c).toNat:=(by omega);subst f;refine⟨l.1,by rw[jHR];show s<(((U.la c).toNat:Nat):Int);omega,⟨0,⟨⟨rfl,trivial,trivial⟩,rfl,trivial⟩,jG7 _⟩,fun x i=>⟨fun h=>⟨⟨0,⟨⟨rfl,trivial,trivial⟩,rfl,trivial⟩,jG7 _⟩,fun y p=>⟨fun e=>⟨⟨0,⟨⟨rfl,trivial,trivial⟩,rfl,trivial⟩,jG7 _⟩,fun z q=>⟨fun g=> ?_,fun g=> ?_⟩⟩,fun e=> ?_⟩⟩,fun h=> ?_⟩⟩
  .have h:(x:Int)<U.la c:=of_decide_eq_true h;have e:(y:Int)<U.la c:=of_decide_eq_true e;have g:(z:Int)<U.la c:=of_decide_eq_true g;have d:=jqO (U.J3 c t lev) x y (U.kk (U.J3 c t lev) (U.la c).toNat x (U.zm (U.J3 c t lev) (U.la c).toNat s.toNat x) y) z;have b:(U.kJ (U.J3 c t lev) x y (U.kk (U.J3 c t lev) (U.la c).toNat x (U.zm (U.J3 c t lev) (U.la c).toNat s.toNat x) y) z).length=(U.la c).toNat:=(by rw[jop,joq,joo]);have r:z+1<=(U.la c).toNat:=(by omega);have o:(U.la c).toNat-(z+1)<(U.la c).toNat-z:=(by omega);refine⟨by omega,by show(y:Int)<((U.kJ (U.J3 c t lev) x y (U.kk (U.J3 c t lev) (U.la c).toNat x (U.zm (U.J3 c t lev) (U.la c).toNat s.toNat x) y) z).length:Int);rw[b];omega,fun _=>by omega,fun _=>by show(z:Int)<((U.kJ (U.J3 c t lev) x y (U.kk (U.J3 c t lev) (U.la c).toNat x (U.zm (U.J3 c t lev) (U.la c).toNat s.toNat x) y) z).length:Int);rw[b];omega,fun _=>j,fun _=>⟨by omega,e⟩,fun _=>⟨by omega,g⟩,fun a=> ?_,fun a=> ?_⟩
   .have a:((decide (nth (U.kJ (U.J3 c t lev) x y (U.kk (U.J3 c t lev) (U.la c).toNat x (U.zm (U.J3 c t lev) (U.la c).toNat s.toNat x) y) z) y=(x:Int))&&decide (nth (U.kJ (U.J3 c t lev) x y (U.kk (U.J3 c t lev) (U.la c).toNat x (U.zm (U.J3 c t lev) (U.la c).toNat s.toNat x) y) z) z<0))&&U.J3 c t lev y z)=true:=a;simp only[jGW,decide_eq_true_eq] at a;refine⟨L.in64 (by omega) (by omega),by omega,by show(z:Int)<((U.kJ (U.J3 c t lev) x y (U.kk (U.J3 c t lev) (U.la c).toNat x (U.zm (U.J3 c t lev) (U.la c).toNat s.toNat x) y) z).length:Int);rw[b];omega,L.in64 (by omega) (by omega),z+1,⟨⟨trivial,by simp,trivial⟩,?_,trivial⟩,r,o⟩;show(U.kJ (U.J3 c t lev) x y (U.kk (U.J3 c t lev) (U.la c).toNat x (U.zm (U.J3 c t lev) (U.la c).toNat s.toNat x) y) z).set z ((x:Int)+1)=U.kJ (U.J3 c t lev) x y (U.kk (U.J3 c t lev) (U.la c).toNat x (U.zm (U.J3 c t lev) (U.la c).toNat s.toNat x) y) (z+1);rw[d];unfold U.jcQ;rw[if_pos ⟨a.1.1,a.1.2,a.2⟩]
   .have a:((decide (nth (U.kJ (U.J3 c t lev) x y (U.kk (U.J3 c t lev) (U.la c).toNat x (U.zm (U.J3 c t lev) (U.la c).toNat s.toNat x) y) z) y=(x:Int))&&decide (nth (U.kJ (U.J3 c t lev) x y (U.kk (U.J3 c t lev) (U.la c).toNat x (U.zm (U.J3 c t lev) (U.la c).toNat s.toNat x) y) z) z<0))&&U.J3 c t lev y z)=false:=a;refine⟨L.in64 (by omega) (by omega),z+1,⟨⟨trivial,by simp,trivial⟩,?_,trivial⟩,r,o⟩;show U.kJ (U.J3 c t lev) x y (U.kk (U.J3 c t lev) (U.la c).toNat x (U.zm (U.J3 c t lev) (U.la c).toNat s.toNat x) y) z=U.kJ (U.J3 c t lev) x y (U.kk (U.J3 c t lev) (U.la c).toNat x (U.zm (U.J3 c t lev) (U.la c).toNat s.toNat x) y) (z+1);rw[d];unfold U.jcQ;rw[if_neg (fun k=>by rw[decide_eq_true k.1,decide_eq_true k.2.1,k.2.2] at a;cases a)]
  .have e:(y:Int)<U.la c:=of_decide_eq_true e;have g:¬(z:Int)<U.la c:=of_decide_eq_false g;have q:z<=(U.la c).toNat:=q;have n:z=(U.la c).toNat:=(by omega);subst n;refine⟨L.in64 (by omega) (by omega),y+1,⟨⟨by simp,trivial,trivial⟩,?_,trivial⟩,by show y+1<=(U.la c).toNat;omega,by show(U.la c).toNat-(y+1)<(U.la c).toNat-y;omega⟩;exact(jqP (U.J3 c t lev) (U.la c).toNat x (U.zm (U.J3 c t lev) (U.la c).toNat s.toNat x) y).symm
  .have h:(x:Int)<U.la c:=of_decide_eq_true h;have e:¬(y:Int)<U.la c:=of_decide_eq_false e;have p:y<=(U.la c).toNat:=p;have m:y=(U.la c).toNat:=(by omega);subst m;refine⟨L.in64 (by omega) (by omega),x+1,⟨⟨by simp,trivial,trivial⟩,?_,trivial⟩,by show x+1<=(U.la c).toNat;omega,by show(U.la c).toNat-(x+1)<(U.la c).toNat-x;omega⟩;exact(jqN (U.J3 c t lev) (U.la c).toNat s.toNat x).symm
  .have h:¬(x:Int)<U.la c:=of_decide_eq_false h;have i:x<=(U.la c).toNat:=i;have f:x=(U.la c).toNat:=(by omega);subst f;rfl
theorem jyE:zk PR 79 jxO:=kI jAp jBO Tryz.func79 (kcC jsL kcN) koN
end Go.X
namespace Go.X
open Go.Proofs
theorem jkW (c:CrD) (j:JbD) (t:Int) (n:Nat):U.j8 c j t (n+1)=U.jtD c j t (U.j8 c j t n) n:=by
 unfold U.j8;rw[jHn,jHh];rfl
theorem jrb {c:CrD} {j:JbD} {t:Int} {n:Nat} (h:U.jG t (n:Int)=false):U.j8 c j t (n+1)=U.j8 c j t n:=by
 rw[jkW];unfold U.jtD;rw[h,if_neg (by simp)]
theorem jEz {c:CrD} {j:JbD} {t:Int} {n:Nat} {a b d:Bool} (h:U.jG t (n:Int)=true) (e:U.vX (nth (U.je c) n) (U.jAE j)=a) (f:(!U.jG (U.fd (nth (U.je c) n)) (U.jsU j))=b) (g:(!U.jG (U.cl (nth (U.je c) n)) (U.jru j))=d):
 U.j8 c j t (n+1)=(U.juk d (U.juk b (U.juk a (U.j8 c j t n).1 1) 2) 4,(U.j8 c j t n).2||U.jEo (nth (U.je c) n)):=by
 rw[jkW];unfold U.jtD;rw[if_pos h,e,f,g]
theorem jFR {c:CrD} {j:JbD} {t:Int} {a b d:Bool} (e:decide (BT.size t≠max (U.jBB j) (U.jD4 (U.yA c j)))=a) (f:(U.jF5 (U.yA c j)&& !U.jGs c j t)=b) (g:decide (nth (U.jcm c t (U.jxc (U.yA c j)) (U.jrv j)) (U.jmp j).toNat<0)=d):
 U.jwQ c j t=U.juk d (U.juk b (U.juk a (U.jGr c j t) 8) 16) 32:=by
 unfold U.jwQ;rw[e,f,g]
theorem jtc:jo5:=by
 unfold jo5 q109_11 q109_10 q109_9 q109_8 q109_6 q109_0 q109_7 q109_5 q109_4 q109_3 q109_2 q109_1;rintro⟨c,j,t,⟨⟩⟩ l u v;have l:U.jj c=true:=l;have u:U.jQ c j=true:=u;have v:U.jxb t:=v;have B:=(jA l).2.2.1;have d:=(jA l).2.2.2.1;obtain⟨r,s,f,k,_⟩:=jy7 u;have q:0<=U.jsU j/\U.jsU j<=63:=(by omega);have i:0<=U.jru j/\U.jru j<=63:=(by omega);have A:BT.Set' t:=(by unfold U.jxb at v;unfold BT.Set';omega);refine⟨k.1,by show U.jru j<((U.kX c).length:Int);omega,⟨0,⟨⟨rfl,rfl,rfl,trivial⟩,trivial⟩,jG7 _⟩,fun x y _=>⟨fun h=> ?_,fun h=> ?_⟩⟩
 .have h:(x:Int)<((U.je c).length:Int):=of_decide_eq_true h;have p:x+1<=(U.je c).length:=(by omega);have m:(U.je c).length-(x+1)<(U.je c).length-x:=(by omega);have i64:jw ((x:Int)+1):=L.in64 (by omega) (by omega);refine⟨⟨by omega,by omega⟩,fun b=> ?_,fun b=> ?_⟩
  .have b:(!U.jG t (x:Int))=true:=b;have e:=jrb (c:=c) (j:=j) (t:=t) (n:=x) (by simpa using b);exact⟨i64,x+1,⟨⟨congrArg (·.2) e.symm,congrArg (·.1) e.symm,by simp,trivial⟩,trivial⟩,p,m⟩
  .have b:(!U.jG t (x:Int))=false:=b;have b:U.jG t (x:Int)=true:=(by simpa using b);refine⟨by omega,h,fun o=>⟨q,fun a=>⟨i,fun d=> ?_,fun d=> ?_⟩,fun a=>⟨i,fun d=> ?_,fun d=> ?_⟩⟩,fun o=>⟨q,fun a=>⟨i,fun d=> ?_,fun d=> ?_⟩,fun a=>⟨i,fun d=> ?_,fun d=> ?_⟩⟩⟩
   all_goals
    have e:=jEz (c:=c) (j:=j) (t:=t) (n:=x) b o a d
    first
    |exact⟨i64,x+1,⟨⟨by simp,congrArg (·.2) e.symm,congrArg (·.1) e.symm,trivial⟩,trivial⟩,p,m⟩
    |exact⟨i64,x+1,⟨⟨congrArg (·.1) e.symm,by simp,congrArg (·.2) e.symm,trivial⟩,trivial⟩,p,m⟩
    |exact⟨i64,x+1,⟨⟨congrArg (·.2) e.symm,by simp,congrArg (·.1) e.symm,trivial⟩,trivial⟩,p,m⟩
    |exact⟨i64,x+1,⟨⟨congrArg (·.2) e.symm,congrArg (·.1) e.symm,by simp,trivial⟩,trivial⟩,p,m⟩
    |exact⟨i64,x+1,⟨⟨by simp,congrArg (·.1) e.symm,congrArg (·.2) e.symm,trivial⟩,trivial⟩,p,m⟩
    |exact⟨i64,x+1,⟨⟨congrArg (·.1) e.symm,congrArg (·.2) e.symm,by simp,trivial⟩,trivial⟩,p,m⟩
 .have h:¬(x:Int)<((U.je c).length:Int):=of_decide_eq_false h;have y:x<=(U.je c).length:=y;have w:x=(U.je c).length:=(by omega);subst w;have g:U.jmp j<((U.jcm c t (U.jxc (U.yA c j)) (U.jrv j)).length:Int):=by
   unfold U.jcm;rw[joo];omega
  refine⟨A,fun b=>⟨fun o=>⟨l,r,s.1,g,fun a=> ?_,fun a=> ?_⟩,fun o=>⟨l,r,s.1,g,fun a=> ?_,fun a=> ?_⟩⟩,fun b=>⟨fun o=>⟨l,r,s.1,g,fun a=> ?_,fun a=> ?_⟩,fun o=>⟨l,r,s.1,g,fun a=> ?_,fun a=> ?_⟩⟩⟩
  all_goals
   have e:=jFR (c:=c) (j:=j) (t:=t) b o a;exact congrArg (fun z=>(z,())) e.symm
theorem jqc:zk PR 52 jpt:=kI jre jtc Tryz.func52 (kcC gM (kcC jmb (kcC jvV (kcC jyE kcN)))) koN
theorem jvW:zk PR 29 jvB:=jU jzv Tryz.func29 (kcC jqc kcN) koN
end Go.X
namespace Go.X
open Go.Proofs
theorem jBc (l:Int) (p:PeD):U.y8 l p=(!(decide (((U.lv p).length:Int)≠l)|| !U.ja (U.fd p) 0 255|| !U.ja (U.cl p) 0 255||decide (10<((U.zF p).length:Int))|| !U.ja (U.fe p) 0 1000)&&((U.lv p).all (fun n=>U.ja n 0 5)&&(U.zF p).all (fun n=>U.ja n 0 99))):=by
 unfold U.y8;congr 1;rw[jHs];simp only[U.ja,jHw,jHp,decide_eq_false_iff_not,jHC,jGW,decide_eq_true_eq];omega
theorem jiH (c:CrD):U.jj c=(!(!U.ja (U.la c) 2 5||decide (8<((U.je c).length:Int))||decide (((U.kX c).length:Int)≠4))&&((U.je c).all (U.y8 (U.la c))&&(U.kX c).all U.gO)):=by
 unfold U.jj;congr 1;rw[jHs];simp only[U.ja,jHw,jHp,decide_eq_false_iff_not,jHC,jGW,decide_eq_true_eq];omega
theorem jg9 {c:CrD} {x:Nat} (a:x<(U.je c).length) (h:U.y8 (U.la c) (nth (U.je c) x)=false):U.jj c=false:=by
 have:(U.je c).all (U.y8 (U.la c))=false:=jHZ.2 ⟨_,L.mem_nth a,by rw[h];simp⟩;rw[jiH,this];simp
theorem jwI {c:CrD} {x:Nat} (a:x<(U.kX c).length) (h:U.gO (nth (U.kX c) x)=false):U.jj c=false:=by
 have:(U.kX c).all U.gO=false:=jHZ.2 ⟨_,L.mem_nth a,by rw[h];simp⟩;rw[jiH,this];simp
theorem jaY {α:Type} [Inhabited α] {l:List α} {p:α->Bool} {x:Nat} (c:¬x<l.length) (h:∀j:Nat,j<x->p (nth l j)=true):l.all p=true:=by
 rw[jHg];intro a b;obtain⟨i,hi,rfl⟩:=L.mem_iff.1 b;exact h i (by omega)
theorem jbS {c:CrD} (h:U.jj c=false):(false,())=(U.jj c,()):=by rw[h]
theorem jte:jo7:=by
 unfold jo7 q102_7 q102_3 q102_6 q102_1 q102_5 q102_4 q102_2 q102_0;rintro⟨c,⟨⟩⟩ _ _;refine⟨fun h=> ?_,fun h=> ?_⟩
 .have h:(!U.ja (U.la c) 2 5||decide (8<((U.je c).length:Int))||decide (((U.kX c).length:Int)≠4))=true:=h;refine jbS (c:=c) ?_;rw[jiH,h];rfl
 have B:(!U.ja (U.la c) 2 5||decide (8<((U.je c).length:Int))||decide (((U.kX c).length:Int)≠4))=false:=h;clear h;refine⟨⟨0,⟨⟨rfl,trivial⟩,trivial⟩,jG7 _,fun j k=>by omega⟩,fun x s r=>⟨fun h=> ?_,fun h=> ?_⟩⟩
 .have r:(U.je c).length<4611686018427387904:=r;have h:(x:Int)<((U.je c).length:Int):=of_decide_eq_true h;have m:x<(U.je c).length:=(by omega);refine⟨by omega,h,fun _ _=>⟨fun g=> ?_,fun g=> ?_⟩⟩
  .have g:(decide (((U.lv (nth (U.je c) x)).length:Int)≠U.la c)|| !U.ja (U.fd (nth (U.je c) x)) 0 255|| !U.ja (U.cl (nth (U.je c) x)) 0 255||decide (10<((U.zF (nth (U.je c) x)).length:Int))|| !U.ja (U.fe (nth (U.je c) x)) 0 1000)=true:=g;refine jbS (c:=c) (jg9 m ?_);rw[jBc,g];rfl
  have g:(decide (((U.lv (nth (U.je c) x)).length:Int)≠U.la c)|| !U.ja (U.fd (nth (U.je c) x)) 0 255|| !U.ja (U.cl (nth (U.je c) x)) 0 255||decide (10<((U.zF (nth (U.je c) x)).length:Int))|| !U.ja (U.fe (nth (U.je c) x)) 0 1000)=false:=g;refine⟨⟨0,⟨⟨rfl,trivial⟩,trivial⟩,jG7 _,fun j k=>by omega⟩,fun y q d=>⟨fun b=> ?_,fun b=> ?_⟩⟩
  .have d:(U.lv (nth (U.je c) x)).length<4611686018427387904:=d;have b:(y:Int)<((U.lv (nth (U.je c) x)).length:Int):=of_decide_eq_true b;refine⟨by omega,b,fun a=> ?_,fun a=>⟨L.in64 (by omega) (by omega),y+1,⟨⟨by simp,trivial⟩,trivial⟩,⟨by show y+1<=(U.lv (nth (U.je c) x)).length;omega,fun j k=> ?_⟩,by show(U.lv (nth (U.je c) x)).length-(y+1)<(U.lv (nth (U.je c) x)).length-y;omega⟩⟩
   .have a:(!U.ja (nth (U.lv (nth (U.je c) x)) y) 0 5)=true:=a;have a:U.ja (nth (U.lv (nth (U.je c) x)) y) 0 5=false:=(by simpa using a);refine jbS (c:=c) (jg9 m ?_);have:(U.lv (nth (U.je c) x)).all (fun n=>U.ja n 0 5)=false:=jHZ.2 ⟨_,L.mem_nth (l:=U.lv (nth (U.je c) x)) (i:=y) (by omega),by rw[a];simp⟩;rw[jBc,this];simp
   .have a:(!U.ja (nth (U.lv (nth (U.je c) x)) y) 0 5)=false:=a;by_cases e:j=y
    .subst e;exact(show U.ja (nth (U.lv (nth (U.je c) x)) j) 0 5=true by simpa using a)
    .exact q.2 j (by omega)
  have b:¬(y:Int)<((U.lv (nth (U.je c) x)).length:Int):=of_decide_eq_false b;have u:(U.lv (nth (U.je c) x)).all (fun n=>U.ja n 0 5)=true:=jaY (by omega) q.2;refine⟨⟨0,⟨⟨rfl,trivial⟩,trivial⟩,jG7 _,fun j k=>by omega⟩,fun z t o=>⟨fun a=> ?_,fun a=> ?_⟩⟩
  .have o:(U.zF (nth (U.je c) x)).length<4611686018427387904:=o;have a:(z:Int)<((U.zF (nth (U.je c) x)).length:Int):=of_decide_eq_true a;refine⟨by omega,a,fun f=> ?_,fun f=>⟨L.in64 (by omega) (by omega),z+1,⟨⟨by simp,trivial⟩,trivial⟩,⟨by show z+1<=(U.zF (nth (U.je c) x)).length;omega,fun j k=> ?_⟩,by show(U.zF (nth (U.je c) x)).length-(z+1)<(U.zF (nth (U.je c) x)).length-z;omega⟩⟩
   .have f:(!U.ja (nth (U.zF (nth (U.je c) x)) z) 0 99)=true:=f;have f:U.ja (nth (U.zF (nth (U.je c) x)) z) 0 99=false:=(by simpa using f);refine jbS (c:=c) (jg9 m ?_);have:(U.zF (nth (U.je c) x)).all (fun n=>U.ja n 0 99)=false:=jHZ.2 ⟨_,L.mem_nth (l:=U.zF (nth (U.je c) x)) (i:=z) (by omega),by rw[f];simp⟩;rw[jBc,this];simp
   .have f:(!U.ja (nth (U.zF (nth (U.je c) x)) z) 0 99)=false:=f;by_cases e:j=z
    .subst e;exact(show U.ja (nth (U.zF (nth (U.je c) x)) j) 0 99=true by simpa using f)
    .exact t.2 j (by omega)
  have a:¬(z:Int)<((U.zF (nth (U.je c) x)).length:Int):=of_decide_eq_false a;have v:(U.zF (nth (U.je c) x)).all (fun n=>U.ja n 0 99)=true:=jaY (by omega) t.2;refine⟨L.in64 (by omega) (by omega),x+1,⟨⟨by simp,trivial⟩,trivial⟩,⟨by show x+1<=(U.je c).length;omega,fun j k=> ?_⟩,by show(U.je c).length-(x+1)<(U.je c).length-x;omega⟩;by_cases e:j=x
  .subst e;show U.y8 (U.la c) (nth (U.je c) j)=true;rw[jBc,g,u,v];rfl
  .exact s.2 j (by omega)
 have h:¬(x:Int)<((U.je c).length:Int):=of_decide_eq_false h;have A:(U.je c).all (U.y8 (U.la c))=true:=jaY (by omega) s.2;refine⟨⟨0,⟨⟨rfl,trivial⟩,trivial⟩,jG7 _,fun j k=>by omega⟩,fun y q d=>⟨fun b=> ?_,fun b=> ?_⟩⟩
 .have d:(U.kX c).length<4611686018427387904:=d;have b:(y:Int)<((U.kX c).length:Int):=of_decide_eq_true b;have p:U.gO (nth (U.kX c) y)= !(!U.ja (U.jxc (nth (U.kX c) y)) 1 5|| !U.ja (U.jD4 (nth (U.kX c) y)) 1 8):=by
   unfold U.gO;rw[Bool.not_or,Bool.not_not,Bool.not_not]
  refine⟨by omega,b,fun _=>by omega,fun _=>b,fun a=> ?_,fun a=>⟨L.in64 (by omega) (by omega),y+1,⟨⟨by simp,trivial⟩,trivial⟩,⟨by show y+1<=(U.kX c).length;omega,fun j k=> ?_⟩,by show(U.kX c).length-(y+1)<(U.kX c).length-y;omega⟩⟩
  .have a:(!U.ja (U.jxc (nth (U.kX c) y)) 1 5|| !U.ja (U.jD4 (nth (U.kX c) y)) 1 8)=true:=a;exact jbS (c:=c) (jwI (x:=y) (by omega) (by rw[p,a];rfl))
  .have a:(!U.ja (U.jxc (nth (U.kX c) y)) 1 5|| !U.ja (U.jD4 (nth (U.kX c) y)) 1 8)=false:=a;by_cases e:j=y
   .subst e;show U.gO (nth (U.kX c) j)=true;rw[p,a];rfl
   .exact q.2 j (by omega)
 .have b:¬(y:Int)<((U.kX c).length:Int):=of_decide_eq_false b;have w:(U.kX c).all U.gO=true:=jaY (by omega) q.2;show(true,())=(U.jj c,());rw[jiH,B,A,w];rfl
theorem jhs:zk PR 59 jpv:=kI jrf jte Tryz.func59 (kcC jb2 kcN) koN
end Go.X
namespace Go.X
open Go.Proofs
def jpr:jT:=⟨[.val .int,.val .int,.val .int],[.bool],false,fun _=>[],fun d=>(U.ja d.1 d.2.1 d.2.2.1,())⟩
def jo3:Prop:=∀(d:Int×Int×Int×Unit),(decide (d.2.1<=d.1)&&decide (d.1<=d.2.2.1),())=(U.ja d.1 d.2.1 d.2.2.1,())
def jjg:jT:=⟨[.val tDy,.val .int],[.bool],false,fun _=>[],fun d=>(U.jzc d.1 d.2.1,())⟩
def jiZ:Prop:=∀(d:DyD×Int×Unit),d.1.2.2.1.length<4611686018427387904->jw ((d.1.2.2.1.length:Int)-1)/\(U.ja d.2.1 (0:Int) ((d.1.2.2.1.length:Int)-1),())=(U.jzc d.1 d.2.1,())
def jll:jT:=⟨[.val tDy,.val .int],[.bool],false,fun _=>[],fun d=>(U.jqq d.1 d.2.1,())⟩
def jle:Prop:=∀(d:DyD×Int×Unit),d.1.1.2.1.length<4611686018427387904->jw ((d.1.1.2.1.length:Int)-1)/\(U.ja d.2.1 (0:Int) ((d.1.1.2.1.length:Int)-1),())=(U.jqq d.1 d.2.1,())
def jr8:jT:=⟨[.val tDy],[.bool],false,fun _=>[],fun d=>(U.zA d.1,())⟩
def jtM:Ann:=fun r=>match r with
 |4=>some fun σ=>{X:=Nat,sl:=fun i=>[(3,.dat .int (i:Int))],ob:=fun _=>[],inv:=fun i=>i<=(U.jK (gb tDy σ 1)).length/\∀j:Nat,j<i->U.vE (U.jK (gb tDy σ 1)).length (nth (U.jK (gb tDy σ 1)) j)=true,mu:=fun i=>(U.jK (gb tDy σ 1)).length-i}
 |9=>some fun σ=>{X:=Nat,sl:=fun i=>[(4,.dat .int (i:Int))],ob:=fun _=>[],inv:=fun i=>i<=(nth (U.jK (gb tDy σ 1)) (gd .int σ 3).toNat).length/\∀j:Nat,j<i->U.jfv (nth (nth (U.jK (gb tDy σ 1)) (gd .int σ 3).toNat) j)=true,mu:=fun i=>(nth (U.jK (gb tDy σ 1)) (gd .int σ 3).toNat).length-i}
 |15=>some fun σ=>{X:=Nat,sl:=fun i=>[(6,.dat .int (i:Int))],ob:=fun _=>[],inv:=fun i=>i<=(U.jm (gb tDy σ 1)).length/\∀j:Nat,j<i->U.jb3 (U.jK (gb tDy σ 1)).length (nth (U.jm (gb tDy σ 1)) j)=true,mu:=fun i=>(U.jm (gb tDy σ 1)).length-i}
 |21=>some fun σ=>{X:=Nat,sl:=fun i=>[(8,.dat .int (i:Int))],ob:=fun _=>[],inv:=fun i=>i<=(U.kl (gb tDy σ 1)).length/\∀j:Nat,j<i->U.gN (U.jm (gb tDy σ 1)).length (U.je (U.jc (gb tDy σ 1))).length (nth (U.kl (gb tDy σ 1)) j)=true,mu:=fun i=>(U.kl (gb tDy σ 1)).length-i}
 |_=>none
abbrev q115_4 (d:DyD×Unit)(x:Nat):=(nth d.1.2.1 (x:Int).toNat)
abbrev q115_2 (d:DyD×Unit)(x:Nat)(a:Nat):=(decide ((nth (q115_4 d x) (a:Int).toNat).1<0)||decide ((nth (q115_4 d x) (a:Int).toNat).2.1<(nth (q115_4 d x) (a:Int).toNat).1)||decide ((300:Int)<(nth (q115_4 d x) (a:Int).toNat).2.1))
abbrev q115_5 (d:DyD×Unit)(x:Nat):=(nth (U.jK d.1) (x:Int).toNat)
abbrev q115_6 (d:DyD×Unit):=(d.1.2.1.length:Int)
abbrev q115_7 (d:DyD×Unit)(x:Nat):=(nth d.1.2.2.2.2.2.1 (x:Int).toNat)
abbrev q115_0 (d:DyD×Unit)(x:Nat):=(!U.ja (q115_7 d x).1 (0:Int) (99:Int)|| !U.ja (q115_7 d x).2.1 (0:Int) (9999:Int)|| !U.ja (q115_7 d x).2.2.1 (1:Int) (2:Int)|| !U.jzc d.1 (q115_7 d x).2.2.2.1|| !U.jqq d.1 (q115_7 d x).2.2.2.2.1)
abbrev q115_8 (d:DyD×Unit):=(d.1.2.2.1.length:Int)
abbrev q115_9 (x:Nat)(a:Nat):=(((x:Int)+1=(a:Int)/\True)/\True)
abbrev q115_10 (d:DyD×Unit)(x:Nat):=(nth d.1.2.2.1 (x:Int).toNat)
abbrev q115_1 (d:DyD×Unit)(x:Nat):=(!U.ja (q115_10 d x).2.1 (0:Int) ((q115_6 d)-1)||decide ((q115_10 d x).2.2.1<0)||decide ((q115_10 d x).2.2.2.1<=(q115_10 d x).2.2.1)||decide ((1440:Int)<(q115_10 d x).2.2.2.1))
abbrev q115_11 (d:DyD×Unit)(x:Nat):=(↑(q115_4 d x).length:Int)
abbrev q115_12 (d:DyD×Unit):=(d.1.2.2.2.2.2.1.length:Int)
abbrev q115_3 (d:DyD×Unit):=(decide (4<(q115_8 d))|| !U.ja (q115_6 d) (1:Int) (5:Int)|| !U.ja d.1.2.2.2.1 (0:Int) (300:Int)|| !U.ja d.1.2.2.2.2.1 (0:Int) (1440:Int)||decide (30<(q115_12 d)))
abbrev q115_13 (x:Nat):=((0=(x:Int)/\True)/\True)
def jrI:Prop:=∀(d:DyD×Unit),d.1.2.2.1.length<4611686018427387904->((!decide (4<(q115_8 d)))=true->d.1.2.1.length<4611686018427387904)->((!(decide (4<(q115_8 d))|| !U.ja (q115_6 d) (1:Int) (5:Int)|| !U.ja d.1.2.2.2.1 (0:Int) (300:Int)|| !U.ja d.1.2.2.2.2.1 (0:Int) (1440:Int)))=true->d.1.2.2.2.2.2.1.length<4611686018427387904)->((q115_3 d)=true->(false,())=(U.zA d.1,()))/\((q115_3 d)=false->(∃(x:Nat),(q115_13 x)/\x<=(U.jK d.1).length/\∀(j:Nat),j<x->U.vE (U.jK d.1).length (nth (U.jK d.1) j)=true)/\∀(x:Nat),(x<=(U.jK d.1).length/\∀(j:Nat),j<x->U.vE (U.jK d.1).length (nth (U.jK d.1) j)=true)->d.1.2.1.length<4611686018427387904->(decide ((x:Int)<(q115_6 d))=true->0<=(x:Int)/\(x:Int)<(q115_6 d)/\(decide ((q115_11 d x)≠(q115_6 d))=true->(false,())=(U.zA d.1,()))/\(decide ((q115_11 d x)≠(q115_6 d))=false->(∃(a:Nat),((0=(a:Int)/\True)/\True)/\a<=(q115_5 d x).length/\∀(j:Nat),j<a->U.jfv (nth (q115_5 d x) j)=true)/\∀(a:Nat),(a<=(q115_5 d x).length/\∀(j:Nat),j<a->U.jfv (nth (q115_5 d x) j)=true)->0<=(x:Int)/\(x:Int)<(q115_6 d)/\((q115_4 d x).length<4611686018427387904->(decide ((a:Int)<(q115_11 d x))=true->0<=(x:Int)/\(x:Int)<(q115_6 d)/\0<=(a:Int)/\(a:Int)<(q115_11 d x)/\((q115_2 d x a)=true->(false,())=(U.zA d.1,()))/\((q115_2 d x a)=false->jw ((a:Int)+1)/\∃(b:Nat),(((a:Int)+1=(b:Int)/\True)/\True)/\(b<=(q115_5 d x).length/\∀(j:Nat),j<b->U.jfv (nth (q115_5 d x) j)=true)/\(q115_5 d x).length-b<(q115_5 d x).length-a))/\(decide ((a:Int)<(q115_11 d x))=false->jw ((x:Int)+1)/\∃(b:Nat),(q115_9 x b)/\(b<=(U.jK d.1).length/\∀(j:Nat),j<b->U.vE (U.jK d.1).length (nth (U.jK d.1) j)=true)/\(U.jK d.1).length-b<(U.jK d.1).length-x))))/\(decide ((x:Int)<(q115_6 d))=false->(∃(x:Nat),(q115_13 x)/\x<=(U.jm d.1).length/\∀(j:Nat),j<x->U.jb3 (U.jK d.1).length (nth (U.jm d.1) j)=true)/\∀(x:Nat),(x<=(U.jm d.1).length/\∀(j:Nat),j<x->U.jb3 (U.jK d.1).length (nth (U.jm d.1) j)=true)->d.1.2.2.1.length<4611686018427387904->(decide ((x:Int)<(q115_8 d))=true->0<=(x:Int)/\(x:Int)<(q115_8 d)/\(d.1.2.1.length<4611686018427387904->jw ((q115_6 d)-1)/\((q115_1 d x)=true->(false,())=(U.zA d.1,()))/\((q115_1 d x)=false->jw ((x:Int)+1)/\∃(b:Nat),(q115_9 x b)/\(b<=(U.jm d.1).length/\∀(j:Nat),j<b->U.jb3 (U.jK d.1).length (nth (U.jm d.1) j)=true)/\(U.jm d.1).length-b<(U.jm d.1).length-x)))/\(decide ((x:Int)<(q115_8 d))=false->(∃(x:Nat),(q115_13 x)/\x<=(U.kl d.1).length/\∀(j:Nat),j<x->U.gN (U.jm d.1).length (U.je (U.jc d.1)).length (nth (U.kl d.1) j)=true)/\∀(x:Nat),(x<=(U.kl d.1).length/\∀(j:Nat),j<x->U.gN (U.jm d.1).length (U.je (U.jc d.1)).length (nth (U.kl d.1) j)=true)->d.1.2.2.2.2.2.1.length<4611686018427387904->(decide ((x:Int)<(q115_12 d))=true->0<=(x:Int)/\(x:Int)<(q115_12 d)/\((q115_0 d x)=true->(false,())=(U.zA d.1,()))/\((q115_0 d x)=false->jw ((x:Int)+1)/\∃(b:Nat),(q115_9 x b)/\(b<=(U.kl d.1).length/\∀(j:Nat),j<b->U.gN (U.jm d.1).length (U.je (U.jc d.1)).length (nth (U.kl d.1) j)=true)/\(U.kl d.1).length-b<(U.kl d.1).length-x))/\(decide ((x:Int)<(q115_12 d))=false->(true,())=(U.zA d.1,())))))
def jr7:jT:=⟨[.val (.slice tSh)],[.bool],false,fun d=>[d.1.length<=1000000],fun d=>(U.vH d.1,())⟩
def jtL:Ann:=fun r=>match r with
 |2=>some fun σ=>{X:=Nat,sl:=fun i=>[(3,.dat .int (i:Int))],ob:=fun _=>[],inv:=fun i=>i<=(gd (.slice tSh) σ 0).length/\U.qh (gd (.slice tSh) σ 0) i=false,mu:=fun i=>(gd (.slice tSh) σ 0).length-i}
 |5=>some fun σ=>{X:=Nat,sl:=fun i=>[(4,.dat .int (i:Int))],ob:=fun _=>[],inv:=fun i=>i<=(gd .int σ 3).toNat/\∀j:Nat,j<i->U.jkP (nth (gd (.slice tSh) σ 0) (gd .int σ 3).toNat) (nth (gd (.slice tSh) σ 0) j)=false,mu:=fun i=>(gd .int σ 3).toNat-i}
 |_=>none
abbrev q116_0 (d:List ShD×Unit)(x:Nat)(a:Nat):=((nth d.1 (x:Int).toNat).1=(nth d.1 (a:Int).toNat).1)
def jrH:Prop:=∀(d:List ShD×Unit),d.1.length<=1000000->(∃(x:Nat),((0=(x:Int)/\True)/\True)/\x<=d.1.length/\U.qh d.1 x=false)/\∀(x:Nat),x<=d.1.length/\U.qh d.1 x=false->d.1.length<4611686018427387904->(decide ((x:Int)<(d.1.length:Int))=true->(∃(a:Nat),((0=(a:Int)/\True)/\True)/\a<=(x:Int).toNat/\∀(j:Nat),j<a->U.jkP (nth d.1 (x:Int).toNat) (nth d.1 j)=false)/\∀(a:Nat),(a<=(x:Int).toNat/\∀(j:Nat),j<a->U.jkP (nth d.1 (x:Int).toNat) (nth d.1 j)=false)->(decide ((a:Int)<(x:Int))=true->0<=(x:Int)/\(x:Int)<(d.1.length:Int)/\0<=(a:Int)/\(a:Int)<(d.1.length:Int)/\(decide (q116_0 d x a)=true->0<=(x:Int))/\(decide (q116_0 d x a)=true->(x:Int)<(d.1.length:Int))/\(decide (q116_0 d x a)=true->0<=(a:Int))/\(decide (q116_0 d x a)=true->(a:Int)<(d.1.length:Int))/\((decide (q116_0 d x a)&& !decide (nth d.1 (x:Int).toNat=nth d.1 (a:Int).toNat))=true->(true,())=(U.vH d.1,()))/\((decide (q116_0 d x a)&& !decide (nth d.1 (x:Int).toNat=nth d.1 (a:Int).toNat))=false->jw ((a:Int)+1)/\∃(b:Nat),(((a:Int)+1=(b:Int)/\True)/\True)/\(b<=(x:Int).toNat/\∀(j:Nat),j<b->U.jkP (nth d.1 (x:Int).toNat) (nth d.1 j)=false)/\(x:Int).toNat-b<(x:Int).toNat-a))/\(decide ((a:Int)<(x:Int))=false->jw ((x:Int)+1)/\∃(b:Nat),(((x:Int)+1=(b:Int)/\True)/\True)/\(b<=d.1.length/\U.qh d.1 b=false)/\d.1.length-b<d.1.length-x))/\(decide ((x:Int)<(d.1.length:Int))=false->(false,())=(U.vH d.1,()))
def jr9:jT:=⟨[.val tDy],[.int],false,fun d=>[(U.jm d.1).length<=1000000],fun d=>(U.wG d.1,())⟩
def jtN:Ann:=fun r=>match r with
 |4=>some fun σ=>{X:=Nat,sl:=fun i=>[(3,.dat .int (i:Int))],ob:=fun _=>[],inv:=fun i=>i<=(U.jm (gb tDy σ 1)).length/\∀j:Nat,j<i->U.jQ (U.jc (gb tDy σ 1)) (U.vJ (nth (U.jm (gb tDy σ 1)) j))=true,mu:=fun i=>(U.jm (gb tDy σ 1)).length-i}
 |_=>none
def jrJ:Prop:=∀(d:DyD×Unit),(U.jm d.1).length<=1000000->((!U.jj d.1.1)=true->((30:Int),())=(U.wG d.1,()))/\((!U.jj d.1.1)=false->(∃(x:Nat),((0=(x:Int)/\True)/\True)/\x<=(U.jm d.1).length/\∀(j:Nat),j<x->U.jQ (U.jc d.1) (U.vJ (nth (U.jm d.1) j))=true)/\∀(x:Nat),(x<=(U.jm d.1).length/\∀(j:Nat),j<x->U.jQ (U.jc d.1) (U.vJ (nth (U.jm d.1) j))=true)->d.1.2.2.1.length<4611686018427387904->(decide ((x:Int)<(d.1.2.2.1.length:Int))=true->0<=(x:Int)/\(x:Int)<(d.1.2.2.1.length:Int)/\U.jj d.1.1=true/\((!U.jQ d.1.1 (nth d.1.2.2.1 (x:Int).toNat).1)=true->((31:Int),())=(U.wG d.1,()))/\((!U.jQ d.1.1 (nth d.1.2.2.1 (x:Int).toNat).1)=false->jw ((x:Int)+1)/\∃(a:Nat),(((x:Int)+1=(a:Int)/\True)/\True)/\(a<=(U.jm d.1).length/\∀(j:Nat),j<a->U.jQ (U.jc d.1) (U.vJ (nth (U.jm d.1) j))=true)/\(U.jm d.1).length-a<(U.jm d.1).length-x))/\(decide ((x:Int)<(d.1.2.2.1.length:Int))=false->((!U.zA d.1)=true->((50:Int),())=(U.wG d.1,()))/\((!U.zA d.1)=false->d.1.2.2.2.2.2.1.length<=1000000/\(U.vH d.1.2.2.2.2.2.1=true->((51:Int),())=(U.wG d.1,()))/\(U.vH d.1.2.2.2.2.2.1=false->((0:Int),())=(U.wG d.1,())))))
def jlk:jT:=⟨[.val tDy,.val .int,.val .int],[.bool],false,fun d=>[U.vK d.1,U.wJ d.1 d.2.1,U.wJ d.1 d.2.2.1],fun d=>(U.jL d.1 d.2.1 d.2.2.1,())⟩
abbrev q118_0 (d:DyD×Int×Int×Unit):=(nth d.1.2.2.1 d.2.2.1.toNat)
abbrev q118_1 (d:DyD×Int×Int×Unit):=(nth d.1.2.2.1 d.2.1.toNat)
abbrev q118_2 (d:DyD×Int×Int×Unit):=((q118_0 d).2.2.1<(q118_1 d).2.2.1)
abbrev q118_3 (d:DyD×Int×Int×Unit):=(d.1.2.2.1.length:Int)
abbrev q118_4 (d:DyD×Int×Int×Unit):=(decide (q118_2 d)||decide ((q118_0 d).2.2.1=(q118_1 d).2.2.1)&&decide (d.2.2.1<d.2.1))
def jld:Prop:=∀(d:DyD×Int×Int×Unit),U.vK d.1->U.wJ d.1 d.2.1->U.wJ d.1 d.2.2.1->0<=d.2.2.1/\d.2.2.1<(q118_3 d)/\0<=d.2.1/\d.2.1<(q118_3 d)/\((!decide (q118_2 d))=true->0<=d.2.2.1)/\((!decide (q118_2 d))=true->d.2.2.1<(q118_3 d))/\((!decide (q118_2 d))=true->0<=d.2.1)/\((!decide (q118_2 d))=true->d.2.1<(q118_3 d))/\((q118_4 d)=true->0<=d.2.2.1/\d.2.2.1<(q118_3 d)/\0<=d.2.1/\d.2.1<(q118_3 d)/\jw ((q118_0 d).2.2.2.1+d.1.2.2.2.1)/\(0:Int)<=(q118_0 d).2.1/\(q118_0 d).2.1<(d.1.2.1.length:Int)/\(0:Int)<=(q118_1 d).2.1/\(q118_1 d).2.1<(↑(nth d.1.2.1 (q118_0 d).2.1.toNat).length:Int)/\jw ((q118_0 d).2.2.2.1+d.1.2.2.2.1+(nth (nth d.1.2.1 (q118_0 d).2.1.toNat) (q118_1 d).2.1.toNat).2.1)/\(decide ((q118_0 d).2.2.2.1+d.1.2.2.2.1+(nth (nth d.1.2.1 (q118_0 d).2.1.toNat) (q118_1 d).2.1.toNat).2.1<=(q118_1 d).2.2.1),())=(U.jL d.1 d.2.1 d.2.2.1,()))/\((q118_4 d)=false->0<=d.2.1/\d.2.1<(q118_3 d)/\0<=d.2.2.1/\d.2.2.1<(q118_3 d)/\jw ((q118_1 d).2.2.2.1+d.1.2.2.2.1)/\(0:Int)<=(q118_1 d).2.1/\(q118_1 d).2.1<(d.1.2.1.length:Int)/\(0:Int)<=(q118_0 d).2.1/\(q118_0 d).2.1<(↑(nth d.1.2.1 (q118_1 d).2.1.toNat).length:Int)/\jw ((q118_1 d).2.2.2.1+d.1.2.2.2.1+(nth (nth d.1.2.1 (q118_1 d).2.1.toNat) (q118_0 d).2.1.toNat).2.1)/\(decide ((q118_1 d).2.2.2.1+d.1.2.2.2.1+(nth (nth d.1.2.1 (q118_1 d).2.1.toNat) (q118_0 d).2.1.toNat).2.1<=(q118_0 d).2.2.1),())=(U.jL d.1 d.2.1 d.2.2.1,()))
def jAV:jT:=⟨[.val (.slice .int),.val .int],[.slice .int],false,fun d=>[d.1.length<=1000,0<=d.2.1/\d.2.1<=63],fun d=>(U.on d.1 d.2.1,())⟩
def jCs:Ann:=fun r=>match r with
 |3=>some fun σ=>{X:=Nat,sl:=fun i=>[(6,.dat .int (i:Int)),(5,.own 5 .int)],ob:=fun i=>[(5,some (.row 3 .int false .yes (U.yy (gd (.slice .int) σ 0) (gd .int σ 1) i)))],inv:=fun i=>i<=(gd (.slice .int) σ 0).length,mu:=fun i=>(gd (.slice .int) σ 0).length-i}
 |_=>none
def jAJ:Prop:=∀(d:List Int×Int×Unit),d.1.length<=1000->0<=d.2.1/\d.2.1<=63->(∃(x:Nat),((0=(x:Int)/\True/\True)/\U.yy d.1 d.2.1 x=[]/\True)/\x<=d.1.length)/\∀(x:Nat),x<=d.1.length->d.1.length<4611686018427387904->(decide ((x:Int)<(d.1.length:Int))=true->0<=(x:Int)/\(x:Int)<(d.1.length:Int)/\(0<=d.2.1/\d.2.1<=63)/\(U.jG (nth d.1 (x:Int).toNat) d.2.1=true->((U.yy d.1 d.2.1 x).length+[(x:Int)].length)*8<=140737488355328/\jw ((x:Int)+1)/\∃(a:Nat),(((x:Int)+1=(a:Int)/\True/\True)/\U.yy d.1 d.2.1 x++[(x:Int)]=U.yy d.1 d.2.1 a/\True)/\a<=d.1.length/\d.1.length-a<d.1.length-x)/\(U.jG (nth d.1 (x:Int).toNat) d.2.1=false->jw ((x:Int)+1)/\∃(a:Nat),((True/\(x:Int)+1=(a:Int)/\True)/\U.yy d.1 d.2.1 x=U.yy d.1 d.2.1 a/\True)/\a<=d.1.length/\d.1.length-a<d.1.length-x))/\(decide ((x:Int)<(d.1.length:Int))=false->(U.yy d.1 d.2.1 x,())=(U.on d.1 d.2.1,()))
def jsa:jT:=⟨[.val tDy,.val .int,.val (.slice .int)],[.bool],false,fun d=>[U.vK d.1,U.joN d.1 d.2.1,U.jib d.1 d.2.2.1],fun d=>(U.zg d.1 d.2.1 d.2.2.1,())⟩
def jtO:Ann:=fun r=>match r with
 |3=>some fun σ=>{X:=Nat,sl:=fun i=>[(8,.dat .int (i:Int)),(7,.dat .int (U.ke (gb tDy σ 3) (gd (.slice .int) σ 2) i))],ob:=fun _=>[],inv:=fun i=>i<=(gd (.slice .int) σ 2).length/\(∀j:Nat,j<i->U.ze (U.jc (gb tDy σ 3)) (U.vJ (U.bk (gb tDy σ 3) (nth (gd (.slice .int) σ 2) j))) (gd .int σ 1)=true)/\∀j:Nat,j<i->∀m:Nat,m<j->U.jL (gb tDy σ 3) (nth (gd (.slice .int) σ 2) j) (nth (gd (.slice .int) σ 2) m)=true,mu:=fun i=>(gd (.slice .int) σ 2).length-i}
 |10=>some fun σ=>{X:=Nat,sl:=fun i=>[(10,.dat .int (i:Int))],ob:=fun _=>[],inv:=fun i=>i<=(gd .int σ 8).toNat/\∀m:Nat,m<i->U.jL (gb tDy σ 3) (nth (gd (.slice .int) σ 2) (gd .int σ 8).toNat) (nth (gd (.slice .int) σ 2) m)=true,mu:=fun i=>(gd .int σ 8).toNat-i}
 |_=>none
abbrev q120_1 (d:DyD×Int×List Int×Unit)(x:Nat):=(nth d.2.2.1 (x:Int).toNat)
abbrev q120_0 (d:DyD×Int×List Int×Unit)(x:Nat):=(nth d.1.2.2.1 (q120_1 d x).toNat)
def jrK:Prop:=∀(d:DyD×Int×List Int×Unit),U.vK d.1->U.joN d.1 d.2.1->U.jib d.1 d.2.2.1->(∃(x:Nat),((0=(x:Int)/\0=U.ke d.1 d.2.2.1 x/\True)/\True)/\x<=d.2.2.1.length/\(∀(j:Nat),j<x->U.ze (U.jc d.1) (U.vJ (U.bk d.1 (nth d.2.2.1 j))) d.2.1=true)/\∀(j:Nat),j<x->∀(m:Nat),m<j->U.jL d.1 (nth d.2.2.1 j) (nth d.2.2.1 m)=true)/\∀(x:Nat),(x<=d.2.2.1.length/\(∀(j:Nat),j<x->U.ze (U.jc d.1) (U.vJ (U.bk d.1 (nth d.2.2.1 j))) d.2.1=true)/\∀(j:Nat),j<x->∀(m:Nat),m<j->U.jL d.1 (nth d.2.2.1 j) (nth d.2.2.1 m)=true)->d.2.2.1.length<4611686018427387904->(decide ((x:Int)<(d.2.2.1.length:Int))=true->0<=(x:Int)/\(x:Int)<(d.2.2.1.length:Int)/\0<=nth d.2.2.1 (x:Int).toNat/\nth d.2.2.1 (x:Int).toNat<(d.1.2.2.1.length:Int)/\(0<=d.2.1/\d.2.1<(↑(U.je d.1.1).length:Int))/\U.jQ d.1.1 (q120_0 d x).1=true/\((!U.ze d.1.1 (q120_0 d x).1 d.2.1)=true->(false,())=(U.zg d.1 d.2.1 d.2.2.1,()))/\((!U.ze d.1.1 (q120_0 d x).1 d.2.1)=false->jw ((q120_0 d x).2.2.2.1-(q120_0 d x).2.2.1)/\jw (U.ke d.1 d.2.2.1 x+((q120_0 d x).2.2.2.1-(q120_0 d x).2.2.1))/\(∃(a:Nat),((0=(a:Int)/\True)/\True)/\a<=(x:Int).toNat/\∀(m:Nat),m<a->U.jL d.1 (q120_1 d x) (nth d.2.2.1 m)=true)/\∀(a:Nat),(a<=(x:Int).toNat/\∀(m:Nat),m<a->U.jL d.1 (q120_1 d x) (nth d.2.2.1 m)=true)->(decide ((a:Int)<(x:Int))=true->0<=(x:Int)/\(x:Int)<(d.2.2.1.length:Int)/\0<=(a:Int)/\(a:Int)<(d.2.2.1.length:Int)/\U.vK d.1/\U.wJ d.1 (q120_1 d x)/\U.wJ d.1 (nth d.2.2.1 (a:Int).toNat)/\((!U.jL d.1 (q120_1 d x) (nth d.2.2.1 (a:Int).toNat))=true->(false,())=(U.zg d.1 d.2.1 d.2.2.1,()))/\((!U.jL d.1 (q120_1 d x) (nth d.2.2.1 (a:Int).toNat))=false->jw ((a:Int)+1)/\∃(b:Nat),(((a:Int)+1=(b:Int)/\True)/\True)/\(b<=(x:Int).toNat/\∀(m:Nat),m<b->U.jL d.1 (q120_1 d x) (nth d.2.2.1 m)=true)/\(x:Int).toNat-b<(x:Int).toNat-a))/\(decide ((a:Int)<(x:Int))=false->jw ((x:Int)+1)/\∃(b:Nat),(((x:Int)+1=(b:Int)/\U.ke d.1 d.2.2.1 x+((q120_0 d x).2.2.2.1-(q120_0 d x).2.2.1)=U.ke d.1 d.2.2.1 b/\True)/\True)/\(b<=d.2.2.1.length/\(∀(j:Nat),j<b->U.ze (U.jc d.1) (U.vJ (U.bk d.1 (nth d.2.2.1 j))) d.2.1=true)/\∀(j:Nat),j<b->∀(m:Nat),m<j->U.jL d.1 (nth d.2.2.1 j) (nth d.2.2.1 m)=true)/\d.2.2.1.length-b<d.2.2.1.length-x)))/\(decide ((x:Int)<(d.2.2.1.length:Int))=false->(decide (U.ke d.1 d.2.2.1 x<=d.1.2.2.2.2.1),())=(U.zg d.1 d.2.1 d.2.2.1,()))
end Go.X
namespace Go.X
open Go.Proofs
theorem jta:jo3:=by
 rintro⟨n,a,b,⟨⟩⟩;rfl
theorem jb1:zk PR 40 jpr:=jU jta Tryz.func40 kcN koN
theorem jlE:jiZ:=by
 rintro⟨d,n,⟨⟩⟩ a;have a:(U.jm d).length<4611686018427387904:=a;exact⟨by show jw (((U.jm d).length:Int)-1);exact L.in64 (by omega) (by omega),rfl⟩
theorem jjO:zk PR 12 jjg:=jU jlE Tryz.func12 (kcC jb1 kcN) koN
theorem joc:jle:=by
 rintro⟨d,n,⟨⟩⟩ a;have a:(U.je (U.jc d)).length<4611686018427387904:=a;exact⟨by show jw (((U.je (U.jc d)).length:Int)-1);exact L.in64 (by omega) (by omega),rfl⟩
theorem jlv:zk PR 26 jll:=jU joc Tryz.func26 (kcC jb1 kcN) koN
theorem jq9 (l:List ShD) (n:Nat):U.qh l (n+1)=(U.qh l n||U.jiI l n):=by
 unfold U.qh;rw[jHn,List.any_append];simp
theorem jow {l:List ShD} {i:Nat} (h:∀j:Nat,j<i->U.jkP (nth l i) (nth l j)=false) (hi:i<=l.length):U.jiI l i=false:=by
 unfold U.jiI;rw[jHJ];intro s a;rw[jHD] at a;obtain⟨j,b,rfl⟩:=a;have:=h j (by omega);rw[L.nth_lt (l:=l) (i:=j) (by omega)] at this;simpa using this
theorem jwK {l:List ShD} {i j:Nat} (hi:i<l.length) (a:j<i) (h:U.jkP (nth l i) (nth l j)=true):U.vH l=true:=by
 unfold U.vH U.qh U.jiI;rw[jHG];refine⟨i,jG4.2 hi,?_⟩;rw[jHG];refine⟨nth l j,?_,h⟩;rw[jHD];exact⟨j,by omega,(L.nth_lt (by omega)).symm⟩
theorem jwg:jrH:=by
 unfold jrH q116_0;rintro⟨l,⟨⟩⟩ k;have k:l.length<=1000000:=k;refine⟨⟨0,⟨⟨rfl,trivial⟩,trivial⟩,jG7 _,rfl⟩,fun x m _=>⟨fun h=> ?_,fun h=> ?_⟩⟩
 .have h:(x:Int)<(l.length:Int):=of_decide_eq_true h;obtain⟨_,a⟩:x<=l.length/\U.qh l x=false:=m;refine⟨⟨0,⟨⟨rfl,trivial⟩,trivial⟩,jG7 _,fun j o=>by omega⟩,fun y n=>⟨fun c=> ?_,fun c=> ?_⟩⟩
  .have c:(y:Int)<(x:Int):=of_decide_eq_true c;obtain⟨_,b⟩:y<=x/\∀j:Nat,j<y->U.jkP (nth l x) (nth l j)=false:=n;have f:(y:Int)<(l.length:Int):=(by omega);refine⟨by omega,h,by omega,f,fun _=>by omega,fun _=>h,fun _=>by omega,fun _=>f,fun d=> ?_,fun d=>⟨L.in64 (by omega) (by omega),y+1,⟨⟨by simp,trivial⟩,trivial⟩,⟨by show y+1<=x;omega,fun j o=> ?_⟩,by show x-(y+1)<x-y;omega⟩⟩
   .have d:U.jkP (nth l x) (nth l y)=true:=d;have:=jwK (by omega) (by omega) d;show(true,())=(U.vH l,());rw[this]
   .by_cases e:j=y
    .subst e;exact d
    .exact b j (by omega)
  .have c:¬(y:Int)<(x:Int):=of_decide_eq_false c;obtain⟨q,b⟩:y<=x/\∀j:Nat,j<y->U.jkP (nth l x) (nth l j)=false:=n;have i:y=x:=(by omega);subst i;refine⟨L.in64 (by omega) (by omega),y+1,⟨⟨by simp,trivial⟩,trivial⟩,⟨by show y+1<=l.length;omega,?_⟩,by show l.length-(y+1)<l.length-y;omega⟩;show U.qh l (y+1)=false;rw[jq9,a,jow b (by omega)];rfl
 .have h:¬(x:Int)<(l.length:Int):=of_decide_eq_false h;obtain⟨p,a⟩:x<=l.length/\U.qh l x=false:=m;have g:x=l.length:=(by omega);subst g;show(false,())=(U.vH l,());unfold U.vH;rw[a]
theorem jsI:zk PR 62 jr7:=kI jtL jwg Tryz.func62 kcN koN
theorem jwi:jrJ:=by
 rintro⟨d,⟨⟩⟩ k;have k:(U.jm d).length<=1000000:=k;refine⟨fun h=> ?_,fun h=> ?_⟩
 .have h:U.jj (U.jc d)=false:=(by simpa using(show(!U.jj (U.jc d))=true from h));show((30:Int),())=(U.wG d,());unfold U.wG;rw[h];rfl
 have g:U.jj (U.jc d)=true:=(by simpa using(show(!U.jj (U.jc d))=false from h));refine⟨⟨0,⟨⟨rfl,trivial⟩,trivial⟩,jG7 _,fun j f=>by omega⟩,fun x m _=>⟨fun h=> ?_,fun h=> ?_⟩⟩
 .have h:(x:Int)<((U.jm d).length:Int):=of_decide_eq_true h;refine⟨by omega,h,g,fun a=> ?_,fun a=>⟨L.in64 (by omega) (by omega),x+1,⟨⟨by simp,trivial⟩,trivial⟩,⟨by show x+1<=(U.jm d).length;omega,fun j f=> ?_⟩,by show(U.jm d).length-(x+1)<(U.jm d).length-x;omega⟩⟩
  .have a:U.jQ (U.jc d) (U.vJ (nth (U.jm d) x))=false:=(by simpa using(show(!U.jQ (U.jc d) (U.vJ (nth (U.jm d) x)))=true from a));have f:U.jv8 d=false:=by
    unfold U.jv8;exact jHZ.2 ⟨_,L.mem_nth (l:=U.jm d) (i:=x) (by omega),by rw[a];simp⟩
   show((31:Int),())=(U.wG d,());unfold U.wG;rw[g,f];rfl
  .have a:U.jQ (U.jc d) (U.vJ (nth (U.jm d) x))=true:=(by simpa using(show(!U.jQ (U.jc d) (U.vJ (nth (U.jm d) x)))=false from a));by_cases e:j=x
   .subst e;exact a
   .exact m.2 j (by omega)
 .have h:¬(x:Int)<((U.jm d).length:Int):=of_decide_eq_false h;have f:U.jv8 d=true:=jaY (p:=fun b=>U.jQ (U.jc d) (U.vJ b)) (by omega) m.2;refine⟨fun a=> ?_,fun a=> ?_⟩
  .have a:U.zA d=false:=(by simpa using(show(!U.zA d)=true from a));show((50:Int),())=(U.wG d,());unfold U.wG;rw[g,f,a];rfl
  .have a:U.zA d=true:=(by simpa using(show(!U.zA d)=false from a));have n:(U.kl d).length<=30:=(zc a).2.2.2.2.1;refine⟨by show(U.kl d).length<=1000000;omega,fun c=> ?_,fun c=> ?_⟩
   .have c:U.vH (U.kl d)=true:=c;show((51:Int),())=(U.wG d,());unfold U.wG;rw[g,f,a,c];rfl
   .have c:U.vH (U.kl d)=false:=c;show((0:Int),())=(U.wG d,());unfold U.wG;rw[g,f,a,c];rfl
theorem jyA (t:List Int) (p:Int) (n:Nat):U.yy t p (n+1)=U.yy t p n++(if U.jG (nth t n) p=true then[(n:Int)] else[]):=by
 unfold U.yy;rw[L.range_filter_succ,jHH];by_cases h:U.jG (nth t n) p=true
 .rw[if_pos h,if_pos h];rfl
 .rw[if_neg h,if_neg h];rfl
theorem juq (t:List Int) (p:Int) (n:Nat):(U.yy t p n).length<=n:=by
 unfold U.yy;rw[jHX];exact jHb (jH3 _ _) (by simp)
theorem jEc:jAJ:=by
 rintro⟨l,p,⟨⟩⟩ e j;have e:l.length<=1000:=e;refine⟨⟨0,⟨⟨rfl,trivial,trivial⟩,rfl,trivial⟩,jG7 _⟩,fun x g _=>⟨fun h=> ?_,fun h=> ?_⟩⟩
 .have h:(x:Int)<(l.length:Int):=of_decide_eq_true h;have b:=jyA l p x;have f:=juq l p x;have i:x+1<=l.length:=(by omega);have d:l.length-(x+1)<l.length-x:=(by omega);refine⟨by omega,h,j,fun a=>⟨?_,L.in64 (by omega) (by omega),x+1,⟨⟨by simp,trivial,trivial⟩,?_,trivial⟩,i,d⟩,fun a=>⟨L.in64 (by omega) (by omega),x+1,⟨⟨trivial,by simp,trivial⟩,?_,trivial⟩,i,d⟩⟩
  .show((U.yy l p x).length+1)*8<=140737488355328;omega
  .have a:U.jG (nth l x) p=true:=a;rw[if_pos a] at b;exact b.symm
  .have a:U.jG (nth l x) p=false:=a;rw[if_neg (by rw[a];simp),jHq] at b;exact b.symm
 .have h:¬(x:Int)<(l.length:Int):=of_decide_eq_false h;have g:x<=l.length:=g;have c:x=l.length:=(by omega);subst c;rfl
theorem jBk:zk PR 11 jAV:=kI jCs jEc Tryz.func11 (kcC gM kcN) koN
end Go.X
namespace Go.X
open Go.Proofs
theorem jkS {d:DyD} {p:Int} {l:List Int}:U.zg d p l=true↔(∀j:Nat,j<l.length->U.ze (U.jc d) (U.vJ (U.bk d (nth l j))) p=true)/\(∀j:Nat,j<l.length->∀m:Nat,m<j->U.jL d (nth l j) (nth l m)=true)/\U.jfy d l<=U.jrs d:=by
 unfold U.zg U.jCP;rw[jGW,jGW,jHg,jHg,decide_eq_true_eq];refine and_congr ?_ (and_congr ?_ Iff.rfl)
 .constructor
  .intro h j a;exact h _ (L.mem_nth a)
  .intro h b c;obtain⟨i,hi,rfl⟩:=L.mem_iff.1 c;exact h i hi
 .constructor
  .intro h j a m e;have:=h j (jG4.2 a);rw[jHg] at this;exact this _ (by rw[jHD];exact⟨m,by omega,(L.nth_lt (by omega)).symm⟩)
  .intro h j a;have a:=jG4.1 a;rw[jHg];intro b c;rw[jHD] at c;obtain⟨m,e,rfl⟩:=c;have:=h j a m (by omega);rw[L.nth_lt (l:=l) (i:=m) (by omega)] at this;exact this
theorem jkT {d:DyD} {p:Int} {l:List Int} (h:¬U.zg d p l=true):(false,())=(U.zg d p l,()):=by
 cases a:U.zg d p l with
 |false=>rfl
 |true=>exact absurd a h
theorem jwj:jrK:=by
 unfold jrK q120_0 q120_1;rintro⟨d,p,l,⟨⟩⟩ f t C;have f:U.vK d:=f;have t:U.joN d p:=t;obtain⟨J,A⟩:U.jib d l:=C;refine⟨⟨0,⟨⟨rfl,rfl,trivial⟩,trivial⟩,jG7 _,fun j s=>by omega,fun j s=>by omega⟩,fun x q _=>⟨fun h=> ?_,fun h=> ?_⟩⟩
 .have h:(x:Int)<(l.length:Int):=of_decide_eq_true h;have a:x<l.length:=(by omega);have n:=A _ (L.mem_nth a);have B:=qR f.2.2 n;have D:=jsR f.2.2 A x (by omega);have E:=jd9 (d:=d) a;have o:U.jQ (U.jc d) (U.vJ (U.bk d (nth l x)))=true:=by
   have:=f.2.1;unfold U.jv8 at this;exact jHg.1 this _ (jFS n)
  have H:jw (U.joB (U.bk d (nth l x))-U.jag (U.bk d (nth l x))):=L.in64 (by omega) (by omega);have I:jw (U.ke d l x+(U.joB (U.bk d (nth l x))-U.jag (U.bk d (nth l x)))):=L.in64 (by omega) (by omega);refine⟨by omega,h,n.1,n.2,t,o,fun b=> ?_,fun b=>⟨H,I,⟨0,⟨⟨rfl,trivial⟩,trivial⟩,jG7 _,fun m g=>by omega⟩,fun y u=>⟨fun k=> ?_,fun k=> ?_⟩⟩⟩
  .have b:U.ze (U.jc d) (U.vJ (U.bk d (nth l x))) p=false:=(by simpa using(show(!U.ze (U.jc d) (U.vJ (U.bk d (nth l x))) p)=true from b));exact jkT (d:=d) (p:=p) (l:=l) (fun r=>by
    have:=(jkS.1 r).1 x a;rw[b] at this;cases this)
  .have k:(y:Int)<(x:Int):=of_decide_eq_true k;have v:(y:Int)<(l.length:Int):=(by omega);refine⟨by omega,h,by omega,v,f,n,A _ (L.mem_nth (l:=l) (i:=y) (by omega)),fun c=> ?_,fun c=>⟨L.in64 (by omega) (by omega),y+1,⟨⟨by simp,trivial⟩,trivial⟩,⟨by show y+1<=x;omega,fun m g=> ?_⟩,by show x-(y+1)<x-y;omega⟩⟩
   .have c:U.jL d (nth l x) (nth l y)=false:=(by simpa using(show(!U.jL d (nth l x) (nth l y))=true from c));exact jkT (d:=d) (p:=p) (l:=l) (fun r=>by
     have:=(jkS.1 r).2.1 x a y (by omega);rw[c] at this;cases this)
   .have c:U.jL d (nth l x) (nth l y)=true:=(by simpa using(show(!U.jL d (nth l x) (nth l y))=false from c));by_cases e:m=y
    .subst e;exact c
    .exact u.2 m (by omega)
  .have k:¬(y:Int)<(x:Int):=of_decide_eq_false k;have G:y<=x:=u.1;have w:y=x:=(by omega);subst w;have b:U.ze (U.jc d) (U.vJ (U.bk d (nth l y))) p=true:=(by simpa using(show(!U.ze (U.jc d) (U.vJ (U.bk d (nth l y))) p)=false from b));refine⟨L.in64 (by omega) (by omega),y+1,⟨⟨by simp,E.symm,trivial⟩,trivial⟩,⟨by show y+1<=l.length;omega,fun j s=> ?_,fun j s m g=> ?_⟩,by show l.length-(y+1)<l.length-y;omega⟩
   .by_cases e:j=y
    .subst e;exact b
    .exact q.2.1 j (by omega)
   .by_cases e:j=y
    .subst e;exact u.2 m g
    .exact q.2.2 j (by omega) m g
 .have h:¬(x:Int)<(l.length:Int):=of_decide_eq_false h;have F:x<=l.length:=q.1;have a:x=l.length:=(by omega);subst a;have g:U.ke d l l.length=U.jfy d l:=by
   unfold U.ke;rw[jHA (jGY _)]
  show(decide (U.ke d l l.length<=U.jrs d),())=(U.zg d p l,());rw[g];refine congrArg (fun z=>(z,())) ?_;rw[jHs,decide_eq_true_eq,jkS];exact⟨fun h=>⟨q.2.1,q.2.2,h⟩,fun h=>h.2.2⟩
end Go.X
namespace Go.X
open Go.Proofs
theorem jE4 {d:DyD} {a b:Int} (h:U.w9 d b a=true):U.jL d a b=decide (U.joB (U.bk d b)+U.jfe d+U.jtj d b a<=U.jag (U.bk d a)):=by
 unfold U.jL;rw[if_pos h];refine decide_eq_decide.2 ?_;unfold U.qV;omega
theorem jDn {d:DyD} {a b:Int} (h:U.w9 d b a=false):U.jL d a b=decide (U.joB (U.bk d a)+U.jfe d+U.jtj d a b<=U.jag (U.bk d b)):=by
 unfold U.jL;rw[h,if_neg (by simp)];refine decide_eq_decide.2 ?_;unfold U.qV;omega
theorem juW (d:DyD) (a b:Int):U.w9 d b a=(decide (U.jag (U.bk d b)<U.jag (U.bk d a))||decide (U.jag (U.bk d b)=U.jag (U.bk d a))&&decide (b<a)):=by
 unfold U.w9;rw[jHs];simp only[jH5,jGW,decide_eq_true_eq]
theorem job:jld:=by
 unfold jld q118_4 q118_3 q118_2 q118_1 q118_0;rintro⟨d,a,b,⟨⟩⟩ c e f;have c:U.vK d:=c;have e:U.wJ d a:=e;have f:U.wJ d b:=f;have m:=qR c.2.2 e;have n:=qR c.2.2 f;have p:=jkB c.2.2 e f;have q:=jkB c.2.2 f e;have o:=(zc c.2.2).2.2.1;have r:=(jfa c.2.2 (i:=(U.jwR (U.bk d a)).toNat) (by omega)).1;have s:=(jfa c.2.2 (i:=(U.jwR (U.bk d b)).toNat) (by omega)).1;have g:=e.1;have j:=e.2;have k:=f.1;have l:=f.2;refine⟨k,l,g,j,fun _=>k,fun _=>l,fun _=>g,fun _=>j,fun h=>⟨k,l,g,j,?_,n.1.1,n.1.2,m.1.1,?_,?_,?_⟩,fun h=>⟨g,j,k,l,?_,m.1.1,m.1.2,n.1.1,?_,?_,?_⟩⟩
 .show jw (U.joB (U.bk d b)+U.jfe d);exact L.in64 (by omega) (by omega)
 .show U.jwR (U.bk d a)<((nth (U.jK d) (U.jwR (U.bk d b)).toNat).length:Int);omega
 .show jw (U.joB (U.bk d b)+U.jfe d+U.jtj d b a);exact L.in64 (by omega) (by omega)
 .have h:U.w9 d b a=true:=(by rw[juW];exact h);exact congrArg (fun z=>(z,())) (jE4 h).symm
 .show jw (U.joB (U.bk d a)+U.jfe d);exact L.in64 (by omega) (by omega)
 .show U.jwR (U.bk d b)<((nth (U.jK d) (U.jwR (U.bk d a)).toNat).length:Int);omega
 .show jw (U.joB (U.bk d a)+U.jfe d+U.jtj d a b);exact L.in64 (by omega) (by omega)
 .have h:U.w9 d b a=false:=(by rw[juW];exact h);exact congrArg (fun z=>(z,())) (jDn h).symm
theorem jlu:zk PR 51 jlk:=jU job Tryz.func51 kcN koN
theorem jsK:zk PR 25 jsa:=kI jtO jwj Tryz.func25 (kcC jnO (kcC jlu kcN)) koN
end Go.X
namespace Go.X
open Go.Proofs
def jFM (d:DyD):Bool:=decide (4<((U.jm d).length:Int))|| !U.ja ((U.jK d).length:Int) 1 5|| !U.ja (U.jfe d) 0 300|| !U.ja (U.jrs d) 0 1440||decide (30<((U.kl d).length:Int))
def spH (s:SpD):Bool:=decide (U.lo s<0)||decide (U.hi s<U.lo s)||decide (300<U.hi s)
def bkH (n:Nat) (b:BkD):Bool:= !U.ja (U.jwR b) 0 ((n:Int)-1)||decide (U.jag b<0)||decide (U.joB b<=U.jag b)||decide (1440<U.joB b)
def shH (d:DyD) (s:ShD):Bool:= !U.ja (U.wv s) 0 99|| !U.ja (U.joM s) 0 9999|| !U.ja (U.jAB s) 1 2|| !U.jzc d (U.vq s)|| !U.jqq d (U.qq s)
theorem jz1 (d:DyD):U.zA d=(!jFM d&&((U.jK d).all (U.vE (U.jK d).length)&&((U.jm d).all (U.jb3 (U.jK d).length)&&(U.kl d).all (U.gN (U.jm d).length (U.je (U.jc d)).length)))):=by
 unfold U.zA jFM;congr 1;rw[jHs];simp only[U.ja,jHw,jHp,decide_eq_false_iff_not,jHC,jGW,decide_eq_true_eq];omega
theorem jCH (s:SpD):U.jfv s= !spH s:=by
 unfold U.jfv spH;rw[jHs];simp only[jHw,jHp,decide_eq_false_iff_not,decide_eq_true_eq];omega
theorem jC9 (n:Nat) (b:BkD):U.jb3 n b= !bkH n b:=by
 unfold U.jb3 bkH;rw[jHs];simp only[U.ja,jHw,jHp,decide_eq_false_iff_not,jHC,jGW,decide_eq_true_eq];omega
theorem jCJ (d:DyD) (s:ShD):U.gN (U.jm d).length (U.je (U.jc d)).length s= !shH d s:=by
 unfold U.gN shH U.jzc U.jqq;rw[jHs];simp only[U.ja,jHw,jHp,decide_eq_false_iff_not,jHC,jGW,decide_eq_true_eq];omega
theorem jq0 {d:DyD} (h:jFM d=true\/(U.jK d).all (U.vE (U.jK d).length)=false\/(U.jm d).all (U.jb3 (U.jK d).length)=false\/(U.kl d).all (U.gN (U.jm d).length (U.je (U.jc d)).length)=false):(false,())=(U.zA d,()):=by
 have:U.zA d=false:=by
  rw[jz1];rcases h with h|h|h|h<;>rw[h]<;>simp
 rw[this]
theorem jrg {α:Type} [Inhabited α] {l:List α} {p:α->Bool} {x:Nat} (a:x<l.length) (h:p (nth l x)=false):l.all p=false:=jHZ.2 ⟨_,L.mem_nth a,by rw[h];simp⟩
theorem jwh:jrI:=by
 unfold jrI q115_13 q115_3 q115_12 q115_11 q115_1 q115_10 q115_9 q115_8 q115_0 q115_7 q115_6 q115_5 q115_2 q115_4;rintro⟨d,⟨⟩⟩ _ _ _;refine⟨fun h=>jq0 (d:=d) (.inl h),fun k=> ?_⟩;have k:jFM d=false:=k;have l:=k;unfold jFM at l;simp only[U.ja,jHp,decide_eq_false_iff_not,jHC,jGW,decide_eq_true_eq] at l;refine⟨⟨0,⟨⟨rfl,trivial⟩,trivial⟩,jG7 _,fun j g=>by omega⟩,fun x c _=>⟨fun h=> ?_,fun h=> ?_⟩⟩
 .have h:(x:Int)<((U.jK d).length:Int):=of_decide_eq_true h;have b:x<(U.jK d).length:=(by omega);refine⟨by omega,h,fun a=> ?_,fun a=>⟨⟨0,⟨⟨rfl,trivial⟩,trivial⟩,jG7 _,fun j g=>by omega⟩,fun y n=>⟨by omega,h,fun m=>⟨fun i=> ?_,fun i=> ?_⟩⟩⟩⟩
  .have a:¬((nth (U.jK d) x).length:Int)=((U.jK d).length:Int):=of_decide_eq_true a;refine jq0 (d:=d) (.inr (.inl (jrg b ?_)));unfold U.vE;rw[decide_eq_false (by omega)];rfl
  .have m:(nth (U.jK d) x).length<4611686018427387904:=m;have i:(y:Int)<((nth (U.jK d) x).length:Int):=of_decide_eq_true i;refine⟨by omega,h,by omega,i,fun f=> ?_,fun f=>⟨L.in64 (by omega) (by omega),y+1,⟨⟨by simp,trivial⟩,trivial⟩,⟨by show y+1<=(nth (U.jK d) x).length;omega,fun j g=> ?_⟩,by show(nth (U.jK d) x).length-(y+1)<(nth (U.jK d) x).length-y;omega⟩⟩
   .have f:spH (nth (nth (U.jK d) x) y)=true:=f;refine jq0 (d:=d) (.inr (.inl (jrg b ?_)));have:(nth (U.jK d) x).all U.jfv=false:=jrg (x:=y) (by omega) (by rw[jCH,f];rfl);unfold U.vE;rw[this,Bool.and_false]
   .have f:spH (nth (nth (U.jK d) x) y)=false:=f;by_cases e:j=y
    .subst e;show U.jfv (nth (nth (U.jK d) x) j)=true;rw[jCH,f];rfl
    .exact n.2 j (by omega)
  .have i:¬(y:Int)<((nth (U.jK d) x).length:Int):=of_decide_eq_false i;have a:((nth (U.jK d) x).length:Int)=((U.jK d).length:Int):=Classical.not_not.1 (of_decide_eq_false a);have o:(nth (U.jK d) x).all U.jfv=true:=jaY (by omega) n.2;refine⟨L.in64 (by omega) (by omega),x+1,⟨⟨by simp,trivial⟩,trivial⟩,⟨by show x+1<=(U.jK d).length;omega,fun j g=> ?_⟩,by show(U.jK d).length-(x+1)<(U.jK d).length-x;omega⟩;by_cases e:j=x
   .subst e;show U.vE (U.jK d).length (nth (U.jK d) j)=true;unfold U.vE;rw[o,decide_eq_true (by omega)];rfl
   .exact c.2 j (by omega)
 have h:¬(x:Int)<((U.jK d).length:Int):=of_decide_eq_false h;have r:(U.jK d).all (U.vE (U.jK d).length)=true:=jaY (by omega) c.2;clear c h;refine⟨⟨0,⟨⟨rfl,trivial⟩,trivial⟩,jG7 _,fun j g=>by omega⟩,fun x c _=>⟨fun h=> ?_,fun h=> ?_⟩⟩
 .have h:(x:Int)<((U.jm d).length:Int):=of_decide_eq_true h;have b:x<(U.jm d).length:=(by omega);refine⟨by omega,h,fun _=>⟨by show jw (((U.jK d).length:Int)-1);exact L.in64 (by omega) (by omega),fun a=> ?_,fun a=>⟨L.in64 (by omega) (by omega),x+1,⟨⟨by simp,trivial⟩,trivial⟩,⟨by show x+1<=(U.jm d).length;omega,fun j g=> ?_⟩,by show(U.jm d).length-(x+1)<(U.jm d).length-x;omega⟩⟩⟩
  .have a:bkH (U.jK d).length (nth (U.jm d) x)=true:=a;exact jq0 (d:=d) (.inr (.inr (.inl (jrg b (by rw[jC9,a];rfl)))))
  .have a:bkH (U.jK d).length (nth (U.jm d) x)=false:=a;by_cases e:j=x
   .subst e;show U.jb3 (U.jK d).length (nth (U.jm d) j)=true;rw[jC9,a];rfl
   .exact c.2 j (by omega)
 have h:¬(x:Int)<((U.jm d).length:Int):=of_decide_eq_false h;have p:(U.jm d).all (U.jb3 (U.jK d).length)=true:=jaY (by omega) c.2;clear c h;refine⟨⟨0,⟨⟨rfl,trivial⟩,trivial⟩,jG7 _,fun j g=>by omega⟩,fun x c _=>⟨fun h=> ?_,fun h=> ?_⟩⟩
 .have h:(x:Int)<((U.kl d).length:Int):=of_decide_eq_true h;have b:x<(U.kl d).length:=(by omega);refine⟨by omega,h,fun a=> ?_,fun a=>⟨L.in64 (by omega) (by omega),x+1,⟨⟨by simp,trivial⟩,trivial⟩,⟨by show x+1<=(U.kl d).length;omega,fun j g=> ?_⟩,by show(U.kl d).length-(x+1)<(U.kl d).length-x;omega⟩⟩
  .have a:shH d (nth (U.kl d) x)=true:=a;exact jq0 (d:=d) (.inr (.inr (.inr (jrg b (by rw[jCJ,a];rfl)))))
  .have a:shH d (nth (U.kl d) x)=false:=a;by_cases e:j=x
   .subst e;show U.gN (U.jm d).length (U.je (U.jc d)).length (nth (U.kl d) j)=true;rw[jCJ,a];rfl
   .exact c.2 j (by omega)
 .have h:¬(x:Int)<((U.kl d).length:Int):=of_decide_eq_false h;have q:(U.kl d).all (U.gN (U.jm d).length (U.je (U.jc d)).length)=true:=jaY (by omega) c.2;show(true,())=(U.zA d,());rw[jz1,k,r,p,q];rfl
theorem jsJ:zk PR 61 jr8:=kI jtM jwh Tryz.func61 (kcC jb1 (kcC jjO (kcC jlv kcN))) koN
theorem jd6:zk PR 32 jr9:=kI jtN jwi Tryz.func32 (kcC jhs (kcC jsM (kcC jsJ (kcC jsI kcN)))) koN
end Go.X
namespace Go.X
open Go.Proofs
namespace U
def jy4 (l:List ShD) (i n:Nat):Bool:=decide (jAB (nth l i)=1)&& !((l.take n).any (fun t=>decide (vq t=vq (nth l i))&&decide (qq t=qq (nth l i))&&wN t (nth l i)))
def jCA (l:List ShD) (n:Nat):List ShD:=((List.range n).filter (fun i=>jy4 l i l.length)).map (nth l)
def jdo (l:List ShD) (n:Nat):Nat:=(List.range n).foldl (fun f i=>if wN (nth l f) (nth l i)=true then i else f) 0
def wV (l:List ShD):Nat->List ShD×List ShD
 |0=>([],l)
 |n+1=>((wV l n).1++[nth (wV l n).2 (jdo (wV l n).2 (wV l n).2.length)],(wV l n).2.take (jdo (wV l n).2 (wV l n).2.length)++(wV l n).2.drop (jdo (wV l n).2 (wV l n).2.length+1))
def jeM (d:DyD):List ShD:=jCA (jil (kl d)) (jil (kl d)).length
def jrz (d:DyD):List ShD:=(wV (jeM d) (jeM d).length).1
def jpf (d:DyD) (n:Nat):List Int×List Int:=((jrz d).take n).foldl (jcz d) (List.replicate (jm d).length 0,[])
def joL (d:DyD):List Int×List Int:=jpf d (jrz d).length
def jDq (d:DyD):List Int:=if wG d=0 then(joL d).1 else[]
end U
end Go.X
namespace Go.X
open Go.Proofs
end Go.X
namespace Go.X
theorem jmj (l:List ShD) (n:Nat):U.jdo l (n+1)=if U.wN (nth l (U.jdo l n)) (nth l n)=true then n else U.jdo l n:=by
 unfold U.jdo;rw[jHn,jHh];rfl
theorem jiA (l:List ShD):∀n,n<=l.length->0<l.length->U.jdo l n<l.length
 |0,_,h=>h
 |n+1,a,h=>by
  have b:=jiA l n (by omega) h
  rw[jmj]
  split<;>omega
theorem jiv (l:List ShD):∀n,n<=l.length->(U.wV l n).1.length=n/\(U.wV l n).2.length=l.length-n
 |0,_=>⟨rfl,rfl⟩
 |n+1,d=>by
  obtain⟨a,b⟩:=jiv l n (by omega)
  have c:=jiA (U.wV l n).2 _ (jGY _) (by omega)
  refine⟨?_,?_⟩
  .show((U.wV l n).1++[_]).length=_
   rw[jHk,a];rfl
  .show((U.wV l n).2.take _++(U.wV l n).2.drop _).length=_
   rw[jHk,jHv,jIh]
   omega
theorem jB9 {α:Type} [Inhabited α] {l:List α} {m:Nat} (h:m<l.length):(nth l m::(l.take m++l.drop (m+1))).Perm l:=by
 have e:l=l.take m++nth l m::l.drop (m+1):=by
  conv=>lhs;rw[<-jIi m l]
  rw[List.drop_eq_getElem_cons h,L.nth_lt h]
 conv=>rhs;rw[e]
 exact List.perm_middle.symm
theorem jjl (l:List ShD):∀n,n<=l.length->((U.wV l n).1++(U.wV l n).2).Perm l
 |0,_=>List.Perm.refl _
 |n+1,d=>by
  have b:=jjl l n (by omega)
  have c:=jiv l n (by omega)
  have a:=jiA (U.wV l n).2 _ (jGY _) (by omega)
  refine List.Perm.trans ?_ b
  show((U.wV l n).1++[nth (U.wV l n).2 (U.jdo (U.wV l n).2 (U.wV l n).2.length)]++_).Perm _
  rw[jHf]
  exact List.Perm.append_left _ (jB9 a)
theorem jAS {d:DyD} {n:Nat} (h:n<(U.jrz d).length):U.jpf d (n+1)=U.jcz d (U.jpf d n) (nth (U.jrz d) n):=by
 unfold U.jpf;rw[L.take_succ h,jHh];rfl
theorem jry {d:DyD} {s:ShD} (h:s∈U.jrz d):s∈U.jil (U.kl d):=by
 have b:=jjl (U.jeM d) (U.jeM d).length (jGY _);have a:s∈U.jeM d:=b.mem_iff.1 (jGV _ h);unfold U.jeM U.jCA at a;obtain⟨i,hi,rfl⟩:=jHm.1 a;exact L.mem_nth (jG4.1 (jHc.1 hi).1)
theorem jf2 {l:List ShD} {s:ShD} (h:s∈U.jil l):s∈l:=by
 unfold U.jil U.jzX at h;obtain⟨m,_,h⟩:=jIp.1 h;unfold U.jCo at h;obtain⟨i,hi,rfl⟩:=jHm.1 h;exact L.mem_nth (jG4.1 (jHc.1 hi).1)
end Go.X
namespace Go.X
open Go.Proofs
theorem jFO {d:DyD} (h:U.wG d=0):U.vK d:=(jO ((qi d).trans h)).1
theorem jup {t:List Int} {p b:Int} (h:b∈U.on t p):0<=b/\b<(t.length:Int):=by
 unfold U.on U.yy at h;obtain⟨i,hi,rfl⟩:=jHm.1 h;have:=jG4.1 (jHc.1 hi).1;omega
theorem jFe (t:List Int) (p:Int):(U.on t p).length<=t.length:=juq t p t.length
attribute [local irreducible] U.jrz U.jpf U.zg U.on
end Go.X
namespace Go.X
theorem jcW (c:CrD) (j:JbD) (i:Nat):(U.kG (c,j,U.yA c j,()) (nth (U.je c) i)=0)↔U.ze c j (i:Int)=true:=by
 show U.jvn (U.vX (nth (U.je c) i) (U.jAE j)) (!U.jG (U.fd (nth (U.je c) i)) (U.jsU j)) (!U.jG (U.cl (nth (U.je c) i)) (U.jru j))=0↔
  (!(U.vX (nth (U.je c) ((i:Int)).toNat) (U.jAE j))&&U.jG (U.fd (nth (U.je c) ((i:Int)).toNat)) (U.jsU j)&&U.jG (U.cl (nth (U.je c) ((i:Int)).toNat)) (U.jru j))=true
 rw[jG1];generalize U.vX (nth (U.je c) i) (U.jAE j)=x;generalize U.jG (U.fd (nth (U.je c) i)) (U.jsU j)=y;generalize U.jG (U.cl (nth (U.je c) i)) (U.jru j)=z;cases x<;>cases y<;>cases z<;>decide
theorem jD3 {c:CrD} {j:JbD} (b:U.jj c=true) (d:U.jQ c j=true) (p:Nat):(p:Int)∈U.yr c j↔p<(U.je c).length/\U.ze c j (p:Int)=true:=by
 have a:U.zX c j=0:=(by unfold U.zX;rw[b,d];rfl);unfold U.yr U.yh;rw[if_pos a,jHm];refine⟨fun⟨i,hi,e⟩=> ?_,fun h=>⟨p,?_,rfl⟩⟩
 .have e:i=p:=(by omega);subst e;have:=jHc.1 hi;exact⟨jG4.1 this.1,(jcW c j i).1 (of_decide_eq_true this.2)⟩
 .exact jHc.2 ⟨jG4.2 h.1,decide_eq_true ((jcW c j p).2 h.2)⟩
theorem jxY {l:List Int} (h:∀p∈l,0<=p/\p<8):∀n,n<=l.length->∀q,BT.has (U.ja5 l n) q=(l.take n).any (fun p=>decide (p.toNat=q))
 |0,_,q=>BT.has_zero q
 |n+1,c,q=>by
  have b:=jxY h n (by omega) q
  have a:=jax h n (by omega)
  have d:=h _ (L.mem_nth (l:=l) (i:=n) (by omega))
  rw[jgA (by omega),jbW,BT.has_bor a.1 (BT.two_set (by omega)),b,BT.has_two,L.take_succ (by omega),List.any_append]
  simp
theorem jxZ {l:List Int} (h:∀p∈l,0<=p/\p<8) (q:Nat):BT.has (U.jpC l) q=l.any (fun p=>decide (p.toNat=q)):=by
 have:=jxY h l.length (jGY _) q;rw[jHS] at this;exact this
theorem jux {d:DyD} {b:Nat} (a:b<(U.jm d).length):nth (U.zP d (U.jm d).length) b=U.jpC (U.yr (U.jc d) (U.vJ (nth (U.jm d) b))):=by
 unfold U.zP;rw[jHS,L.nth_map a]
theorem jy8 {d:DyD} (a:U.vK d) {b:Nat} (c:b<(U.jm d).length):U.jQ (U.jc d) (U.vJ (nth (U.jm d) b))=true:=
 jHg.1 a.2.1 _ (L.mem_nth c)
theorem jj0 {d:DyD} (g:U.vK d) {b p:Int} (m:U.wJ d b) (n:U.joN d p):decide (qO (nth (U.zP d (U.jm d).length) b.toNat/2^p.toNat) 1=0)= !U.ze (U.jc d) (U.vJ (U.bk d b)) p:=by
 unfold U.wJ at m;unfold U.joN at n;have a:b.toNat<(U.jm d).length:=(by omega);have j:=fun q (c:q∈U.yr (U.jc d) (U.vJ (nth (U.jm d) b.toNat)))=>jsS g.1 c
 have o:BT.Set' (U.jpC (U.yr (U.jc d) (U.vJ (nth (U.jm d) b.toNat)))):=(jax j _ (jGY _)).1;have i:U.bk d b=nth (U.jm d) b.toNat:=rfl;rw[jux a,BT.bit_num o,i];have k:=jxZ j p.toNat;have f:=jD3 g.1 (jy8 g a) p.toNat;have ep:((p.toNat:Nat):Int)=p:=(by omega);rw[ep] at f;have l:BT.has (U.jpC (U.yr (U.jc d) (U.vJ (nth (U.jm d) b.toNat)))) p.toNat=U.ze (U.jc d) (U.vJ (nth (U.jm d) b.toNat)) p:=by
  rw[k];cases h:U.ze (U.jc d) (U.vJ (nth (U.jm d) b.toNat)) p with
  |true=>exact jHG.2 ⟨p,f.2 ⟨by omega,h⟩,by simp⟩
  |false=>
   refine jHJ.2 fun q c e=> ?_
   have e:q.toNat=p.toNat:=of_decide_eq_true e;have:=j q c;have e:q=p:=(by omega);rw[e] at c;rw[(f.1 c).2] at h;cases h
 rw[l];cases U.ze (U.jc d) (U.vJ (nth (U.jm d) b.toNat)) p<;>rfl
theorem jpT {α:Type} [Inhabited α] {R:α->α->Prop} {l:List α}:(∀i,i<l.length->∀b∈l.take i,R b (nth l i))↔l.Pairwise R:=by
 rw[jHO];refine⟨fun h i j hi a d=> ?_,fun h i hi b c=> ?_⟩
 .have:=h j a l[i] (jHD.2 ⟨i,by omega,rfl⟩);rw[L.nth_lt a] at this;exact this
 .obtain⟨k,hk,rfl⟩:=jHD.1 c;rw[L.nth_lt hi];exact h k i (by omega) hi (by omega)
theorem jyr {α:Type} [Inhabited α] {R:α->α->Prop} {l:List α}:(∀i,i<l.length->∀b∈l.drop (i+1),R (nth l i) b)↔l.Pairwise R:=by
 rw[jHO];refine⟨fun h i j hi d c=> ?_,fun h i hi b a=> ?_⟩
 .have:=h i hi l[j] (List.mem_drop_iff_getElem.2 ⟨j-(i+1),by omega,by congr 1;omega⟩);rw[L.nth_lt hi] at this;exact this
 .obtain⟨k,hk,rfl⟩:=List.mem_drop_iff_getElem.1 a;rw[L.nth_lt hi];exact h i (i+1+k) hi (by omega) (by omega)
theorem jcu (d:DyD) (a b:Int):U.w9 d a b=true↔(U.jag (U.bk d a)<U.jag (U.bk d b)\/(U.jag (U.bk d a)=U.jag (U.bk d b)/\a<b)):=decide_eq_true_iff
theorem jct (d:DyD) (a b:Int):U.w9 d a b=false↔¬(U.jag (U.bk d a)<U.jag (U.bk d b)\/(U.jag (U.bk d a)=U.jag (U.bk d b)/\a<b)):=decide_eq_false_iff_not
theorem jAt (d:DyD) (l:List Int):kK (U.w9 d) l where
 irrefl x _:=(jct d x x).2 (by omega)
 trans x y z _ _ _ a b:=by
  have a:=(jcu d x y).1 a;have b:=(jcu d y z).1 b;exact(jcu d x z).2 (by omega)
 total x y _ _ a b:=by
  have a:=(jct d x y).1 a;have b:=(jct d y x).1 b;omega
theorem jk5 {d:DyD} {a b:Int} (h:a≠b) (c:U.w9 d b a=false):U.w9 d a b=true:=by
 have c:=(jct d b a).1 c;exact(jcu d a b).2 (by omega)
theorem jw7 {d:DyD} {a b:Int} (c:U.w9 d a b=true):U.w9 d b a=false:=by
 have c:=(jcu d a b).1 c;exact(jct d b a).2 (by omega)
theorem jeV {d:DyD} {a b:Int} (h:U.w9 d a b=true):(U.jL d b a=decide (0<=U.qV d a b))/\(U.jL d a b=decide (0<=U.qV d a b)):=by
 unfold U.jL;rw[if_pos h,jw7 h,if_neg (by simp)];exact⟨rfl,rfl⟩
theorem jAN {d:DyD} {a b:Int} (h:a≠b):U.jL d a b=U.jL d b a:=by
 cases c:U.w9 d b a with
 |false=>have:=jeV (jk5 h c);rw[this.1,this.2]
 |true=>have:=jeV c;rw[this.1,this.2]
def TgR (d:DyD) (a b:Int):Prop:=a≠b->U.jL d b a=true
theorem jyq {d:DyD} {l:List Int} (f:l.Nodup):U.jCP d l=true↔l.Pairwise (TgR d):=by
 rw[<-jpT];unfold U.jCP;rw[jHg];have e:∀i,i<l.length->∀b∈l.take i,b≠nth l i:=(jpT (R:=fun a b=>a≠b)).2 f;refine⟨fun h i hi b c _=> ?_,fun h i hi=>jHg.2 fun b c=> ?_⟩
 .exact jHg.1 (h i (jG4.2 hi)) b c
 .exact h i (jG4.1 hi) b c (e i (jG4.1 hi) b c)
theorem TgR.symm {d:DyD} {a b:Int} (h:TgR d a b):TgR d b a:=fun e=>(jAN (Ne.symm e)).trans (h (Ne.symm e))
theorem jyV {d:DyD} {l l':List Int} (h:l.Perm l'):U.jfy d l=U.jfy d l':=by
 unfold U.jfy;exact List.Perm.foldl_eq' (h.map _) (fun x _ y _ z=>by omega) 0
theorem jcU (d:DyD) (p:Int) {l:List Int} (a:l.Nodup):U.zg d p l=true↔(∀b∈l,U.ze (U.jc d) (U.vJ (U.bk d b)) p=true)/\l.Pairwise (TgR d)/\U.jfy d l<=U.jrs d:=by
 unfold U.zg;rw[jGW,jGW,jHg,jyq a,decide_eq_true_iff]
theorem jhc (d:DyD) (p:Int) {l l':List Int} (h:l.Perm l') (g:l.Nodup):U.zg d p l=U.zg d p l':=by
 have f:=h.nodup_iff.1 g;refine jHs.2 ?_;rw[jcU d p g,jcU d p f,jyV h,h.pairwise_iff (fun h=>TgR.symm h)];exact⟨fun⟨a,c⟩=>⟨fun b e=>a b (h.mem_iff.2 e),c⟩,fun⟨a,c⟩=>⟨fun b e=>a b (h.mem_iff.1 e),c⟩⟩
theorem jCh (d:DyD) (may:List Int) (p:Int) (s:List Int):U.jEx d may p s=true↔(∀b∈s,decide (qO (nth may b.toNat/2^p.toNat) 1=0)=false)/\s.Pairwise (fun a b=>0<=U.qV d a b)/\U.jfy d s<=U.jrs d:=by
 rw[<-jyr];unfold U.jEx;rw[jGW,decide_eq_true_iff,jHg,<-and_assoc];refine and_congr_left fun _=> ?_
 have e:∀i,U.jnR d may p s i=true↔decide (qO (nth may (nth s i).toNat/2^p.toNat) 1=0)=false/\∀b∈s.drop (i+1),0<=U.qV d (nth s i) b:=by
  intro i;unfold U.jnR;rw[jHw,jHp,jHJ];refine and_congr_right fun _=>⟨fun h b c=> ?_,fun h b c=> ?_⟩
  .have:=h b c;simp at this;omega
  .have:=h b c;simp;omega
 refine⟨fun h=>⟨fun b c=> ?_,fun i hi=>((e i).1 (h i (jG4.2 hi))).2⟩,fun h i hi=>(e i).2 ⟨h.1 _ (L.mem_nth (jG4.1 hi)),h.2 i (jG4.1 hi)⟩⟩;obtain⟨i,hi,rfl⟩:=L.mem_iff.1 c;exact((e i).1 (h i (jG4.2 hi))).1
theorem joz {d:DyD} {may:List Int} {p:Int} {l:List Int} (m:l.Nodup) (j:∀b∈l,decide (qO (nth may b.toNat/2^p.toNat) 1=0)= !U.ze (U.jc d) (U.vJ (U.bk d b)) p):U.jin d may p l=U.zg d p l:=by
 have f:(U.jp d l).Perm l:=zp l;have c:(U.jp d l).Nodup:=f.nodup_iff.2 m;have k:(U.jp d l).Pairwise (fun a b=>U.w9 d b a=false):=gz (jAt d l);rw[<-jhc d p f c];unfold U.jin;refine jHs.2 ?_;rw[jCh,jcU d p c];have i:=List.Pairwise.and k c;refine and_congr ⟨fun h b e=> ?_,fun h b e=> ?_⟩ (and_congr_left fun _=>⟨fun h=> ?_,fun h=> ?_⟩)
 .have g:=h b e;rw[j b (f.mem_iff.1 e)] at g;simpa using g
 .rw[j b (f.mem_iff.1 e),h b e];rfl
 .refine(List.Pairwise.and i h).imp fun{a b} x _=> ?_
  rw[(jeV (jk5 x.1.2 x.1.1)).1];exact decide_eq_true x.2
 .refine(List.Pairwise.and i h).imp fun{a b} x=> ?_
  have:=x.2 x.1.2;rw[(jeV (jk5 x.1.2 x.1.1)).1] at this;exact of_decide_eq_true this
end Go.X
namespace Go.X
theorem jb6 (a b:ShD):U.wN a b=true↔(U.joM b<U.joM a\/(U.joM a=U.joM b/\U.wv b<U.wv a)):=decide_eq_true_iff
theorem jfB (a b:ShD):U.wN a b=false↔¬(U.joM b<U.joM a\/(U.joM a=U.joM b/\U.wv b<U.wv a)):=decide_eq_false_iff_not
theorem vd (a:ShD):U.wN a a=false:=(jfB a a).2 (by omega)
theorem jmn {a b:ShD} (h:U.wN a b=true):U.wN b a=false:=by
 have h:=(jb6 a b).1 h;exact(jfB b a).2 (by omega)
theorem jj6 {a b c:ShD} (d:U.wN a b=true) (e:U.wN b c=true):U.wN a c=true:=by
 have d:=(jb6 a b).1 d;have e:=(jb6 b c).1 e;exact(jb6 a c).2 (by omega)
theorem jCd (a b:ShD):U.js a b<0↔U.wN b a=true:=by
 rw[jb6];unfold U.js;rw[zy,wq]
 split
 .rename_i h;have c:¬U.joM a=U.joM b:=fun e=>h (vM.2 e)
  rw[jz4];omega
 .rename_i h;have d:U.joM a=U.joM b:=vM.1 (Classical.not_not.1 h);rw[jz4];omega
theorem jEF {l:List ShD} (hi:∀a∈l,∀b∈l,U.wv a=U.wv b->a=b):kK U.jEE l where
 irrefl x _:=vd x
 trans x y z _ _ _ c d:=jj6 d c
 total x y hx hy c d:=by
  have c:=(jfB y x).1 c;have d:=(jfB x y).1 d;exact hi x hx y hy (by omega)
theorem jzF {l:List ShD}:∀i,i<l.length->∃j,j<l.length/\nth l j=nth l i/\U.jol l j=true:=by
 intro i
 induction i using Nat.strongRecOn with
 |_ i f=>
  intro hi;cases h:U.jol l i with
  |true=>exact⟨i,hi,rfl,h⟩
  |false=>
   simp only[U.jol,jHC] at h;obtain⟨x,d,e⟩:=jHG.1 h;obtain⟨k,hk,rfl⟩:=jHD.1 d;have e:l[k]=nth l i:=of_decide_eq_true e;obtain⟨j,c,a,b⟩:=f k (by omega) (by omega);exact⟨j,c,by rw[a,L.nth_lt (by omega)];exact e,b⟩
theorem jzW {l:List ShD} {s:ShD} (h:s∈l) (d:0<=U.wv s) (e:U.wv s<=99):s∈U.jil l:=by
 obtain⟨i,hi,rfl⟩:=L.mem_iff.1 h;obtain⟨j,c,a,b⟩:=jzF i hi;unfold U.jil U.jzX;refine jIp.2 ⟨(U.wv (nth l i)).toNat,jG4.2 (by omega),?_⟩;unfold U.jCo;refine jHm.2 ⟨j,jHc.2 ⟨jG4.2 c,?_⟩,a⟩;show(decide (U.wv (nth l j)=(((U.wv (nth l i)).toNat:Nat):Int))&&U.jol l j)=true;rw[b,a,Bool.and_true];exact decide_eq_true (by omega)
theorem juS {l:List ShD} {n m:Nat} {s:ShD} (h:s∈U.jCo l n m):U.wv s=(m:Int):=by
 unfold U.jCo at h;obtain⟨i,hi,rfl⟩:=jHm.1 h;have a:=(jHc.1 hi).2;rw[jGW] at a;exact of_decide_eq_true a.1
theorem jg8 (l:List ShD):(U.jil l).Nodup:=by
 unfold U.jil U.jzX;refine List.pairwise_flatMap.2 ⟨fun m _=> ?_,?_⟩
 .unfold U.jCo;refine jId.2 (List.Pairwise.imp_of_mem ?_ (List.Pairwise.filter _ jH0));intro i j hi c k e;have c:=jHc.1 c;have d:=c.2;rw[jGW] at d;have f:=d.2;have n:=jG4.1 c.1;have o:((l.take j).any (fun x=>decide (x=nth l j)))=true:=
   jHG.2 ⟨nth l i,jHD.2 ⟨i,by omega,(L.nth_lt (by omega)).symm⟩,decide_eq_true e⟩
  unfold U.jol at f;rw[o] at f;cases f
 .refine List.Pairwise.imp ?_ jH0;intro a b h x p y q e;have g:=juS p;have d:=juS q;rw[e] at g;omega
theorem jnp (t s:ShD):U.yw t=U.yw s↔U.vq t=U.vq s/\U.qq t=U.qq s:=by
 unfold U.yw;refine⟨fun h=>⟨congrArg (·.1) h,congrArg (·.2.1) h⟩,fun h=>by rw[h.1,h.2]⟩
theorem jkL (l:List ShD) (s:ShD):U.jiG l s=true↔U.jAB s=1/\∀t∈l,U.yw t=U.yw s->U.wN t s=false:=by
 unfold U.jiG;rw[jGW,decide_eq_true_iff,jHw,jHJ];refine and_congr_right fun _=>⟨fun h t a e=> ?_,fun h t a e=> ?_⟩
 .have e:=(jnp t s).1 e;have:=h t a;rw[e.1,e.2,decide_eq_true rfl,decide_eq_true rfl] at this;simpa using this
 .rw[jGW,jGW,decide_eq_true_iff,decide_eq_true_iff] at e;rw[h t a ((jnp t s).2 e.1)] at e;exact absurd e.2 (by simp)
theorem jiP (d:DyD):U.jeM d=(U.jil (U.kl d)).filter (U.jiG (U.jil (U.kl d))):=by
 unfold U.jeM;generalize U.jil (U.kl d)=l;unfold U.jCA;have e:(fun i=>U.jy4 l i l.length)=(U.jiG l)∘(nth l):=by
  funext i;unfold U.jy4;rw[jHS];rfl
 rw[e];have:=List.filter_map (f:=nth l) (p:=U.jiG l) (l:=List.range l.length);rw[<-this,L.range_map_nth]
theorem jql (l:List ShD):∀n,∀i,i<n->U.wN (nth l (U.jdo l n)) (nth l i)=false
 |0,i,h=>absurd h (by omega)
 |n+1,i,h=>by
  have b:=jql l n
  rw[jmj]
  split
  .rename_i a
   rcases Nat.lt_succ_iff_lt_or_eq.1 h with h|h
   .cases c:U.wN (nth l n) (nth l i) with
    |false=>rfl
    |true=>have:=jj6 a c;rw[b i h] at this;cases this
   .subst h;exact vd _
  .rename_i a
   rcases Nat.lt_succ_iff_lt_or_eq.1 h with h|h
   .exact b i h
   .subst h;simpa using a
theorem jx0 (l:List ShD):∀n,n<=l.length->(U.wV l n).1.Pairwise (fun a b=>U.wN a b=false)/\∀a∈(U.wV l n).1,∀b∈(U.wV l n).2,U.wN a b=false
 |0,_=>⟨List.Pairwise.nil,fun a d=>by cases d⟩
 |n+1,m=>by
  obtain⟨j,g⟩:=jx0 l n (by omega)
  have k:=jiv l n (by omega)
  have h:=jiA (U.wV l n).2 _ (jGY _) (by omega)
  have e:=jql (U.wV l n).2 (U.wV l n).2.length
  have f:∀b∈(U.wV l n).2.take (U.jdo (U.wV l n).2 (U.wV l n).2.length)++(U.wV l n).2.drop (U.jdo (U.wV l n).2 (U.wV l n).2.length+1),b∈(U.wV l n).2:=by
   intro b c;rcases jG5.1 c with c|c
   .exact jIl c
   .exact jIk c
  refine⟨List.pairwise_append.2 ⟨j,List.pairwise_singleton _ _,fun a d b c=> ?_⟩,fun a d b c=> ?_⟩
  .simp at c;subst c;exact g a d _ (L.mem_nth h)
  .have c:=f b c;have d:a∈(U.wV l n).1++[nth (U.wV l n).2 (U.jdo (U.wV l n).2 (U.wV l n).2.length)]:=d;rcases jG5.1 d with d|d
   .exact g a d b c
   .simp at d;subst d;obtain⟨i,hi,rfl⟩:=L.mem_iff.1 c;exact e i hi
theorem jDj (d:DyD):jw9 U.jEE (U.jrz d):=(jx0 (U.jeM d) _ (jGY _)).1
theorem jeL (d:DyD):(U.jrz d).Perm (U.jeM d):=by
 have a:=jjl (U.jeM d) (U.jeM d).length (jGY _);have b:=(jiv (U.jeM d) (U.jeM d).length (jGY _)).2;have:(U.wV (U.jeM d) (U.jeM d).length).2=[]:=List.length_eq_zero_iff.1 (by omega);rw[this,jHq] at a;exact a
theorem juA {l:List ShD} (i:l.Pairwise (fun a b=>U.wN b a=true)):∀n,n<=l.length->∀s∈l.take n,(kS (Ty.dflt tSh) (zI tSt (U.yw s) (U.zz l n))=s↔∀t∈l.take n,U.yw t=U.yw s->U.wN t s=false)
 |0,_,s,c=>by simp at c
 |n+1,k,s,c=>by
  have j:=juA i n (by omega)
  have g:(l.take (n+1)).Pairwise (fun a b=>U.wN b a=true):=i.sublist (List.take_sublist _ _)
  rw[L.take_succ (by omega)] at g c
  have f:∀t∈l.take n,U.wN (nth l n) t=true:=fun t d=>(List.pairwise_append.1 g).2.2 t d _ (by simp)
  rw[jj7 (by omega),L.take_succ (by omega)]
  by_cases hk:U.yw s=U.yw (nth l n)
  .rw[hk,M.mfind_mput]
   show nth l n=s↔_
   rcases jG5.1 c with c|c
   .refine⟨fun e=> ?_,fun h=> ?_⟩
    .have:=f s c
     rw[e,vd] at this;cases this
    .have:=h (nth l n) (by simp) rfl
     rw[f s c] at this;cases this
   .simp at c;subst c
    refine⟨fun _ t d _=> ?_,fun _=>rfl⟩
    rcases jG5.1 d with d|d
    .exact jmn (f t d)
    .simp at d;subst d;exact vd _
  .rw[M.mfind_mput_ne hk]
   have c:s∈l.take n:=by
    rcases jG5.1 c with c|c
    .exact c
    .simp at c;subst c;exact absurd rfl hk
   rw[j s c];refine⟨fun h t d e=> ?_,fun h t d=>h t (jGV _ d)⟩;rcases jG5.1 d with d|d
   .exact h t d e
   .simp at d;subst d;exact absurd e.symm hk
theorem jxX {d:DyD} (h:U.ju d=0):(U.jF d).Pairwise (fun a b=>U.wN b a=true):=by
 have f:=jGD h;have g:jw9 (U.jg tSh fun x=>(U.js x.1 x.2.1,())) (U.jF d):=gz f;have e:∀s∈U.jF d,s∈U.jY (U.kl d):=fun s i=>(zp _).mem_iff.1 i
 refine List.Pairwise.imp_of_mem ?_ (List.Pairwise.and g (wK d));intro a b j k ⟨h1,h2⟩;cases c:U.jg tSh (fun x=>(U.js x.1 x.2.1,())) a b with
 |false=>exact absurd (f.total a b (e a j) (e b k) c h1) h2
 |true=>
  have c:U.js a b<0:=of_decide_eq_true c;exact(jCd a b).1 c
theorem jqZ {d:DyD} (h:U.ju d=0) {s:ShD} (a:s∈U.jF d):U.kf (U.zz (U.jF d) (U.jF d).length) s=true↔U.jAB s=1/\∀t∈U.jF d,U.yw t=U.yw s->U.wN t s=false:=by
 have:=juA (jxX h) (U.jF d).length (jGY _) s (by rw[jHS];exact a);rw[jHS] at this;rw[<-this];unfold U.kf;rw[jHw,jHp,jHC,jHC,decide_eq_true_iff,decide_eq_true_iff];exact and_comm
theorem jjj {d:DyD} (h:U.zA d=true) {s:ShD} (a:s∈U.kl d):0<=U.wv s/\U.wv s<=99:=by
 have:=(zc h).2.2.2.2.2.2.2 _ a;unfold U.gN at this;have:=of_decide_eq_true this;omega
def jim (d:DyD):ShD->Bool:=U.kf (U.zz (U.jF d) (U.jF d).length)
theorem jxj {d:DyD} (h:U.ju d=0):(U.jF d).filter (jim d)=U.jrz d:=by
 have j:=jO h;have f:∀s,s∈U.jil (U.kl d)↔s∈U.jF d:=fun s=>⟨fun c=>wU.2 (jf2 c),fun c=>by
  have c:=wU.1 c;have:=jjj j.1.2.2 c;exact jzW c this.1 this.2⟩
 have g:∀s,s∈(U.jF d).filter (jim d)↔s∈U.jrz d:=by
  intro s;rw[(jeL d).mem_iff,jiP,jHc,jHc,f s];refine and_congr_right fun c=> ?_
  rw[jkL];have:=jqZ h c;refine this.trans (and_congr_right fun _=>⟨fun h t i=>h t ((f t).1 i),fun h t i=>h t ((f t).2 i)⟩)
 have n:((U.jF d).filter (jim d)).Nodup:=List.Pairwise.filter _ (wK d);have o:(U.jrz d).Nodup:=(jeL d).nodup_iff.2 (by rw[jiP];exact List.Pairwise.filter _ (jg8 _));have m:=L.perm_of_nodup n o g;refine jey (jEF ?_) m ?_ (jDj d)
 .intro a k b l e;exact j.2 a (wU.1 (jHc.1 k).1) b (wU.1 (jHc.1 l).1) e
 .exact(List.Pairwise.filter _ (jxX h)).imp fun x=>jmn x
end Go.X
namespace Go.X
namespace U
def jDH (r:List Int) (m n:Nat):List Int:=(r.take n).filter (fun x=>decide (x=(m:Int)))
def jfh (r:List Int) (n:Nat):List Int:=(List.range n).flatMap (fun m=>jDH r m r.length)
end U
structure jlP (d:DyD) (x:List (List Int)×List Int) (y:List Int×List Int):Prop where
 ref:x.2=y.2
 len:y.1.length=(U.jm d).length
 set:∀b,b<(U.jm d).length->BT.Set' (nth y.1 b)
 bit:∀b,b<(U.jm d).length->∀p,BT.has (nth y.1 b) p=true↔p<(U.je (U.jc d)).length/\(b:Int)∈nth x.1 p
theorem jaM {t:Int} (h:BT.Set' t) (p:Int):U.jG t p=BT.has t p.toNat:=BT.has_shr h p.toNat
theorem jFf {d:DyD} {x:List (List Int)×List Int} {y:List Int×List Int} (h:jlP d x y) {p:Int} (k:U.joN d p) (j:∀b∈nth x.1 p.toNat,U.wJ d b) (n:Int):n∈U.on y.1 p↔n∈nth x.1 p.toNat:=by
 unfold U.joN at k;unfold U.on U.yy;rw[jHm];refine⟨fun⟨i,hi,e⟩=> ?_,fun g=> ?_⟩
 .subst e;have hi:=jHc.1 hi;have a:=jG4.1 hi.1;rw[h.len] at a;have f:U.jG (nth y.1 i) p=true:=hi.2;rw[jaM (h.set i a)] at f;exact((h.bit i a p.toNat).1 f).2
 .have hk:=j n g;unfold U.wJ at hk;have c:((n.toNat:Nat):Int)=n:=(by omega);refine⟨n.toNat,jHc.2 ⟨jG4.2 (by rw[h.len];omega),?_⟩,c⟩;show U.jG (nth y.1 n.toNat) p=true;rw[jaM (h.set _ (by omega))];exact(h.bit _ (by omega) _).2 ⟨by omega,by rw[c];exact g⟩
theorem jfm (t:List Int) (p:Int):(U.on t p).Nodup:=by
 unfold U.on U.yy;refine jId.2 ((List.Pairwise.filter _ jH0).imp ?_);intro a b c e;omega
theorem jDS {d:DyD} {x:List (List Int)×List Int} {y:List Int×List Int} (h:jlP d x y) {p:Int} (e:U.joN d p) (c:(nth x.1 p.toNat).Nodup) (a:∀b∈nth x.1 p.toNat,U.wJ d b):(nth x.1 p.toNat).Perm (U.on y.1 p):=
 L.perm_of_nodup c (jfm _ _) (fun n=>(jFf h e a n).symm)
theorem jFQ {d:DyD} (i:U.vK d) {x:List (List Int)×List Int} {y:List Int×List Int} (h:jlP d x y) {p b:Int} (g:U.joN d p) (e:(nth x.1 p.toNat++[b]).Nodup) (f:∀c∈nth x.1 p.toNat++[b],U.wJ d c):
 U.jin d (U.zP d (U.jm d).length) p (nth x.1 p.toNat++[b])=U.zg d p (U.on y.1 p++[b]):=by
 rw[joz e (fun c a=>jj0 i (f c a) g)];exact jhc d p ((jDS h g (jH1.1 e).1 (fun c a=>f c (jGV _ a))).append_right [b]) e
theorem jE8 {d:DyD} {x:List (List Int)×List Int} {y:List Int×List Int} (h:jlP d x y) (v:x.1.length=(U.je (U.jc d)).length) (u:(U.je (U.jc d)).length<=8) {p b:Int} (t:U.joN d p) (s:U.wJ d b) (i:b∉nth x.1 p.toNat):
 jlP d (x.1.set p.toNat (nth x.1 p.toNat++[b]),x.2) (y.1.set b.toNat (nth y.1 b.toNat+2^p.toNat),y.2):=by
 unfold U.joN at t;unfold U.wJ at s;have r:((b.toNat:Nat):Int)=b:=(by omega);have g:b.toNat<y.1.length:=(by rw[h.len];omega);have n:p.toNat<x.1.length:=(by omega);have o:=h.set b.toNat (by omega);have m:BT.has (nth y.1 b.toNat) p.toNat=false:=by
  cases j:BT.has (nth y.1 b.toNat) p.toNat with
  |false=>rfl
  |true=>exact absurd (by have:=((h.bit _ (by omega) _).1 j).2;rw[r] at this;exact this) i
 have a:=BT.add_two o (p:=p.toNat) (by omega) m;have j:=BT.two_set (k:=p.toNat) (by omega);refine⟨h.ref,by show(y.1.set _ _).length=_;rw[jH6];exact h.len,fun c l=> ?_,fun c l q=> ?_⟩
 .show BT.Set' (nth (y.1.set b.toNat (nth y.1 b.toNat+2^p.toNat)) c);rw[L.nth_set g]
  split
  .rw[a];exact BT.bor_set o j
  .exact h.set c l
 .show BT.has (nth (y.1.set b.toNat (nth y.1 b.toNat+2^p.toNat)) c) q=true↔_/\(c:Int)∈nth (x.1.set p.toNat (nth x.1 p.toNat++[b])) q;rw[L.nth_set g,L.nth_set n];by_cases f:b.toNat=c
  .rw[if_pos f,a,BT.has_bor o j,BT.has_two,jH5,decide_eq_true_iff,h.bit _ (by omega),<-f,r];by_cases e:p.toNat=q
   .rw[if_pos e];refine⟨fun _=>⟨by omega,by simp⟩,fun _=> .inr e⟩
   .rw[if_neg e];exact⟨fun h=>h.elim id (fun h=>absurd h e),.inl⟩
  .rw[if_neg f,h.bit c l];by_cases e:p.toNat=q
   .rw[if_pos e,jG5,<-e];refine and_congr_right fun _=>⟨.inl,fun h=>h.elim id (fun h=> ?_)⟩
    simp at h;omega
   .rw[if_neg e]
theorem jA4 (d:DyD):jlP d (U.zN (U.yq d) (U.jF d) 0) (List.replicate (U.jm d).length 0,[]):=by
 have c:∀b,b<(U.jm d).length->nth (List.replicate (U.jm d).length (0:Int)) b=0:=fun b a=>L.nth_rep a
 refine⟨rfl,jHR,fun b a=> ?_,fun b a p=> ?_⟩
 .show BT.Set' (nth (List.replicate (U.jm d).length (0:Int)) b);rw[c b a];exact BT.zero_set
 .show BT.has (nth (List.replicate (U.jm d).length (0:Int)) b) p=true↔_/\(b:Int)∈nth (U.jDT d) p;rw[c b a,BT.has_zero];have f:U.jBs (U.jDT d):=fun x g=>(List.mem_replicate.1 g).2
  have e:nth (U.jDT d) p=[]:=jnV f p;rw[e];simp
def jz0 (d:DyD) (i:Nat):List Int×List Int:=(((U.jF d).take i).filter (jim d)).foldl (U.jcz d) (List.replicate (U.jm d).length 0,[])
attribute [local irreducible] U.zN U.zg U.jin U.on jz0 U.jF jim U.yq U.zP in
theorem jA5 {d:DyD} (h:U.ju d=0) {i:Nat} (hi:i<(U.jF d).length) (ih:jlP d (U.zN (U.yq d) (U.jF d) i) (jz0 d i)) (hinv:U.yF (U.yq d) (U.jF d) i (U.zN (U.yq d) (U.jF d) i)) (hrd:U.rd (U.yq d)=d) (hml:U.qG (U.yq d)=U.zP d (U.jm d).length)
 (hx:(U.zN (U.yq d) (U.jF d) i).1.length=(U.je (U.jc d)).length) (hdec:jim d=U.kf (U.zz (U.jF d) (U.jF d).length)) (hft:jz0 d (i+1)=if jim d (nth (U.jF d) i)=true then U.jcz d (jz0 d i) (nth (U.jF d) i) else jz0 d i)
 (hnew:jim d (nth (U.jF d) i)=true->(nth (U.zN (U.yq d) (U.jF d) i).1 (U.qq (nth (U.jF d) i)).toNat++[U.vq (nth (U.jF d) i)]).Nodup/\∀b∈nth (U.zN (U.yq d) (U.jF d) i).1 (U.qq (nth (U.jF d) i)).toNat++[U.vq (nth (U.jF d) i)],U.wJ d b):
 jlP d (U.zN (U.yq d) (U.jF d) (i+1)) (jz0 d (i+1)):=by
 have hD:=(jO h).1
 have h8:(U.je (U.jc d)).length<=8:=(jA hD.1).2.2.1
 have hsf:=jcA hD.2.2 (wU.1 (L.mem_nth (l:=U.jF d) (i:=i) hi))
 rw[hft]
 cases hc:jim d (nth (U.jF d) i) with
 |false=>
  rw[hdec] at hc
  rw[jiu hi hc,if_neg (by simp)]
  exact ih
 |true=>
  have hn:=hnew hc
  have hcan:=jFQ hD ih (p:=U.qq (nth (U.jF d) i)) (b:=U.vq (nth (U.jF d) i)) hsf.1 hn.1 hn.2
  rw[hdec] at hc
  rw[if_pos rfl]
  unfold U.jcz
  cases hk:U.zg d (U.qq (nth (U.jF d) i)) (U.on (jz0 d i).1 (U.qq (nth (U.jF d) i))++[U.vq (nth (U.jF d) i)]) with
  |true=>
   rw[hk] at hcan
   rw[jja hi hc (by rw[hrd,hml];exact hcan),if_pos rfl]
   refine jE8 ih hx h8 hsf.1 hsf.2 (fun hin=> ?_)
   exact(jH1.1 hn.1).2.2 _ hin _ (by simp) rfl
  |false=>
   rw[hk] at hcan
   rw[jt1 hi hc (by rw[hrd,hml];exact hcan),if_neg (by simp)]
   exact⟨congrArg (·++[U.wv (nth (U.jF d) i)]) ih.ref,ih.len,ih.set,ih.bit⟩
theorem jyg {d:DyD} (h:U.ju d=0):∀i,i<=(U.jF d).length->jlP d (U.zN (U.yq d) (U.jF d) i) (jz0 d i)
 |0,_=>jA4 d
 |i+1,hi=>by
  have k:=jyg h i (by omega)
  obtain⟨⟨_,m⟩,⟨j,b⟩,c⟩:=jpF h
  have f:=(jO h).1
  have a:=jjb (r:=U.yq d) (l:=U.jF d) f.2.2 (fun s e=>wU.1 e) (wK d) j b c i (by omega)
  refine jA5 h hi k a rfl rfl a.1 rfl ?_ fun g=> ?_
  .unfold jz0
   rw[L.filter_take (p:=jim d) (l:=U.jF d) (i:=i) hi,jHh]
   split<;>rfl
  .have:=jpe (r:=U.yq d) (l:=U.jF d) f.2.2 (fun s e=>wU.1 e) (wK d) hi a g
   exact⟨this.1,this.2.1⟩
theorem jB6 {d:DyD} (h:U.ju d=0):jz0 d (U.jF d).length=U.joL d:=by
 unfold jz0 U.joL U.jpf;rw[jHS,jHS,jxj h]
theorem jdS {d:DyD} (h:U.ju d=0):jlP d (U.wa (U.qa d),(U.zN (U.yq d) (U.jF d) (U.jF d).length).2) (U.joL d):=by
 have:=jyg h _ (jGY _);rw[jB6 h] at this;exact⟨this.ref,this.len,this.set,this.bit⟩
theorem jtZ (on:List (List Int)) (b:Int):∀n,n<=60->BT.Set' (U.qB on b n)/\∀q,BT.has (U.qB on b n) q=true↔q<n/\b∈nth on q
 |0,_=>⟨BT.zero_set,fun q=>by
  have:U.qB on b 0=0:=rfl
  rw[this,BT.has_zero];simp⟩
 |n+1,m=>by
  obtain⟨f,i⟩:=jtZ on b n (by omega)
  have g:=BT.two_set (k:=n) (by omega)
  have a:(nth on n).any (fun x=>decide (x=b))=true↔b∈nth on n:=by
   rw[jHG];exact⟨fun⟨x,l,e⟩=>(of_decide_eq_true e)▸l,fun j=>⟨b,j,decide_eq_true rfl⟩⟩
  rw[ji1]
  split
  .rename_i c;have c:=a.1 c;rw[jbW];refine⟨BT.bor_set f g,fun q=> ?_⟩;rw[BT.has_bor f g,BT.has_two,jH5,decide_eq_true_iff,i];refine⟨fun h=>h.elim (fun h=>⟨by omega,h.2⟩) (fun h=>by subst h;exact⟨by omega,c⟩),fun h=> ?_⟩;by_cases d:q=n
   .exact .inr d.symm
   .exact .inl ⟨by omega,h.2⟩
  .rename_i c;refine⟨f,fun q=> ?_⟩;rw[i];refine⟨fun h=>⟨by omega,h.2⟩,fun h=>⟨?_,h.2⟩⟩;by_cases d:q=n
   .subst d;exact absurd (a.2 h.2) c
   .omega
theorem jxw {d:DyD} (h:U.ju d=0) {b:Nat} (a:b<(U.jm d).length):U.yV (U.wa (U.qa d)) (b:Int)=nth (U.joL d).1 b:=by
 have f:=jdS h;have c:=jl4 h;have g:=jtZ (U.wa (U.qa d)) (b:Int) (U.wa (U.qa d)).length c.len60;refine BT.ext g.1 (f.set b a) fun p=>jHs.2 ?_
 have e:=(g.2 p).trans (f.bit b a p|>.trans (by rw[<-c.len])).symm;exact e
theorem jE5 {d:DyD} (h:U.ju d=0):U.qw d (U.jm d).length=(U.joL d).1:=by
 have b:=jdS h;have a:(U.qw d (U.jm d).length).length=(U.jm d).length:=(by unfold U.qw;simp);refine L.ext_nth (by rw[a];exact b.len.symm) fun i hi=> ?_
 rw[a] at hi;unfold U.qw;rw[L.nth_map (by simpa using hi)];have:nth (List.range (U.jm d).length) i=i:=(by rw[L.nth_lt (by simpa using hi)];simp);rw[this];exact jxw h hi
theorem jxu (d:DyD):U.jbD d=if U.wG d=0 then(U.joL d).1 else[]:=by
 unfold U.jbD;rw[qi]
 split
 .rename_i h;exact jE5 ((qi d).trans h)
 .rfl
theorem jyh (d:DyD):∀n,n<=(U.jrz d).length->(U.jpf d n).2.Sublist (((U.jrz d).take n).map U.wv)
 |0,_=>List.nil_sublist _
 |n+1,b=>by
  have a:=jyh d n (by omega)
  rw[jAS (by omega),L.take_succ (by omega),jHH]
  unfold U.jcz
  split
  .exact a.trans (List.sublist_append_left _ _)
  .exact List.Sublist.append a (List.Sublist.refl _)
theorem jyi {d:DyD} (h:U.ju d=0):(U.joL d).2.Nodup/\∀x∈(U.joL d).2,0<=x/\x<=99:=by
 have c:=jyh d _ (jGY _);rw[jHS] at c;have g:=jO h;have l:(U.jrz d).Nodup:=(jeL d).nodup_iff.2 (by rw[jiP];exact List.Pairwise.filter _ (jg8 _));refine⟨List.Pairwise.sublist c (jId.2 (List.Pairwise.imp_of_mem ?_ l)),fun x k=> ?_⟩
 .intro a b i j f e;exact f (g.2 a (jf2 (jry i)) b (jf2 (jry j)) e)
 .obtain⟨s,c,rfl⟩:=jHm.1 (c.subset k);exact jjj g.1.2.2 (jf2 (jry c))
theorem jvH {r:List Int} (k:r.Nodup) (h:∀x∈r,0<=x/\x<=99):U.jfh r 100=U.je5 r:=by
 have e:∀m,U.jDH r m r.length=r.filter (fun x=>decide (x=(m:Int))):=fun m=>by unfold U.jDH;rw[jHS]
 have d:∀m x,x∈U.jDH r m r.length->x=(m:Int)/\x∈r:=fun m x c=>by
  rw[e m] at c;have:=jHc.1 c;exact⟨of_decide_eq_true this.2,this.1⟩
 have f:(U.jfh r 100).Pairwise (fun a b=>a<=b):=by
  unfold U.jfh;refine List.pairwise_flatMap.2 ⟨fun m _=> ?_,List.Pairwise.imp ?_ jH0⟩
  .refine List.Pairwise.imp_of_mem ?_ (R:=fun _ _=>True) (List.pairwise_of_forall (fun _ _=>trivial));intro a b n o _;have:=(d m a n).1;have:=(d m b o).1;omega
  .intro a b g x c y j;have:=(d a x c).1;have:=(d b y j).1;omega
 have i:(U.jfh r 100).Nodup:=by
  unfold U.jfh;refine List.pairwise_flatMap.2 ⟨fun m _=> ?_,List.Pairwise.imp ?_ jH0⟩
  .rw[e m];exact List.Pairwise.filter _ k
  .intro a b g x c y j l;have:=(d a x c).1;have:=(d b y j).1;omega
 have p:(U.jfh r 100).Perm r:=L.perm_of_nodup i k fun x=>by
  unfold U.jfh;rw[jIp];refine⟨fun⟨m,_,c⟩=>(d m x c).2,fun c=> ?_⟩;have q:=h x c;refine⟨x.toNat,jG4.2 (by omega),?_⟩;rw[e];exact jHc.2 ⟨c,decide_eq_true (by omega)⟩
 exact jdv (p.trans (jgw r).symm) f (jxR r)
theorem jyd (d:DyD):U.jbR d=if U.wG d=0 then U.jfh (U.joL d).2 100 else[]:=by
 unfold U.jbR;rw[qi]
 split
 .rename_i h;have h:=(qi d).trans h;have a:=jyi h;rw[jvH a.1 a.2,<-(jdS h).ref];rfl
 .rfl
end Go.X
namespace Go.X
open Go.Proofs
attribute [local irreducible] U.wV U.jdo U.jCA U.jil U.jeM U.jrz U.jy4
end Go.X
namespace Go.X
open Go.Proofs
namespace U
def jGB (d:DyD) (t:List Int) (b:Nat):Bool:=qg (jc d) (vJ (nth (jm d) b)) (nth t b)
def jCF (d:DyD) (t:List Int) (n:Nat):List Int:=((List.range n).filter (jGB d t)).map (fun(b:Nat)=>(b:Int))
def jGC (d:DyD):List Int:=if wG d=0 then jCF d (jDq d) (jDq d).length else[]
end U
end Go.X
namespace Go.X
open Go.Proofs
theorem jDv {d:DyD} (h:U.wG d=0):(U.joL d).1.length=(U.jm d).length:=(jdS ((qi d).trans h)).len
theorem jCD {d:DyD} (h:U.wG d=0):U.jDq d=(U.joL d).1:=if_pos h
theorem jDp {d:DyD} (h:U.wG d=0):(U.jDq d).length=(U.jm d).length:=by rw[jCD h];exact jDv h
section
attribute [local irreducible] U.jfh U.jDH U.joL U.wG
end
section
attribute [local irreducible] U.jCF U.jDq U.wG U.qg
end
section
attribute [local irreducible] U.zg U.on U.jG U.vK
end
section
attribute [local irreducible] U.jDq U.wG U.jG
end
end Go.X
namespace Go.X
open Go.Proofs
section
attribute [local irreducible] U.jDq U.wG U.qg U.jg7 U.jxb
end
end Go.X
namespace Go.X
open Go.Proofs
end Go.X
namespace Go.X
theorem jjW (n m:Nat):n|||m=0↔n=0/\m=0:=by
 constructor
 .intro h;constructor
  .refine jIn fun i=> ?_
   have:=congrArg (fun z=>Nat.testBit z i) h;simp only[Nat.testBit_or,Nat.zero_testBit,jHp] at this;rw[this.1,Nat.zero_testBit]
  .refine jIn fun i=> ?_
   have:=congrArg (fun z=>Nat.testBit z i) h;simp only[Nat.testBit_or,Nat.zero_testBit,jHp] at this;rw[this.2,Nat.zero_testBit]
 .rintro⟨rfl,rfl⟩;rfl
theorem jtW {a b:Int} (c:0<=a/\a<64) (d:0<=b/\b<64):uor a b=0↔a=0/\b=0:=by
 obtain⟨n,rfl⟩:∃n:Nat,a=(n:Int):=⟨a.toNat,by omega⟩;obtain⟨m,rfl⟩:∃m:Nat,b=(m:Int):=⟨b.toNat,by omega⟩;rw[BT.uor_nat (by omega) (by omega)];have:=jjW n m;omega
theorem jCl {a b:Int} (c:0<=a/\a<64) (d:0<=b/\b<64):bor a b=0↔a=0/\b=0:=by
 obtain⟨n,rfl⟩:∃n:Nat,a=(n:Int):=⟨a.toNat,by omega⟩;obtain⟨m,rfl⟩:∃m:Nat,b=(m:Int):=⟨b.toNat,by omega⟩;rw[BT.bor_nat (by omega) (by omega)];have:=jjW n m;omega
theorem jCm {a b:Int} (c:0<=a/\a<64) (d:0<=b/\b<64):0<=bor a b/\bor a b<64:=by
 obtain⟨n,rfl⟩:∃n:Nat,a=(n:Int):=⟨a.toNat,by omega⟩;obtain⟨m,rfl⟩:∃m:Nat,b=(m:Int):=⟨b.toNat,by omega⟩;rw[BT.bor_nat (by omega) (by omega)];have:n|||m<2^6:=Nat.or_lt_two_pow (by omega) (by omega);omega
theorem jjH {b:Bool} {o k:Int} (h:0<=o/\o<64) (hk:0<k/\k<64):U.jlp b o k=0↔b=false/\o=0:=by
 unfold U.jlp;cases b with
 |false=>rw[if_neg (by simp)];simp
 |true=>
  rw[if_pos rfl,jtW h ⟨by omega,by omega⟩];refine⟨fun h=>absurd h.2 (by omega),fun h=>absurd h.1 (by simp)⟩
theorem jcF {b:Bool} {o k:Int} (h:0<=o/\o<64) (hk:0<k/\k<64):U.juk b o k=0↔b=false/\o=0:=by
 unfold U.juk;cases b with
 |false=>rw[if_neg (by simp)];simp
 |true=>
  rw[if_pos rfl,jCl h ⟨by omega,by omega⟩];refine⟨fun h=>absurd h.2 (by omega),fun h=>absurd h.1 (by simp)⟩
theorem jpX {b:Bool} {o k:Int} (h:0<=o/\o<64) (hk:0<k/\k<64):0<=U.juk b o k/\U.juk b o k<64:=by
 unfold U.juk
 split
 .exact jCm h ⟨by omega,hk.2⟩
 .exact h
theorem jo8 (t:TkD):∀(q:List (Int×PeD×Unit)) (o:Int),(0<=o/\o<64)->(U.yu t o q=0↔o=0/\∀x∈q,U.kG t x.2.1=0)
 |[],o,_=>by
  show o=0↔_
  simp
 |x::q,o,h=>by
  have b:=jk4 t x.2.1
  have a:=jo8 t q (uor o (U.kG t x.2.1)) (jxs h ⟨by omega,by omega⟩)
  show U.yu t (uor o (U.kG t x.2.1)) q=0↔_
  rw[a,jtW h ⟨by omega,by omega⟩]
  simp only[jGX,forall_eq_or_imp,and_assoc]
theorem jBI {t:Int} (h:BT.Set' t) (p:Int):U.jfI t p=BT.has t p.toNat:=BT.has_ushr h p.toNat
theorem jCX {t:Int} (h:BT.Set' t) (p:Int):U.jfI t p=U.jG t p:=(jBI h p).trans (jaM h p).symm
theorem jcJ {t:TkD} {s:Int} (b:BT.Set' s) {x:Int×PeD×Unit}:x∈U.jhv t s↔∃i:Nat,i<(U.je (U.tc t)).length/\U.jG s (i:Int)=true/\x=((i:Int),nth (U.je (U.tc t)) i,()):=by
 unfold U.jhv U.wo;rw[jHm];refine⟨fun⟨i,hi,e⟩=> ?_,fun⟨i,c,a,e⟩=>⟨i,jHc.2 ⟨jG4.2 c,?_⟩,e.symm⟩⟩
 .have hi:=jHc.1 hi;have a:U.jfI s (i:Int)=true:=hi.2;exact⟨i,jG4.1 hi.1,(jCX b _)▸a,e.symm⟩
 .show U.jfI s (i:Int)=true;rw[jCX b];exact a
theorem jhd (c:CrD) (j:JbD) (t:Int):∀n,(0<=(U.j8 c j t n).1/\(U.j8 c j t n).1<64)/\((U.j8 c j t n).1=0↔∀i:Nat,i<n->U.jG t (i:Int)=true->U.ze c j (i:Int)=true)/\
 ((U.j8 c j t n).2=true↔∃i:Nat,i<n/\U.jG t (i:Int)=true/\U.jEo (nth (U.je c) i)=true)
 |0=>⟨by show(0:Int)<=0/\(0:Int)<64;omega,⟨fun _ i h=>absurd h (by omega),fun _=>rfl⟩,⟨fun h=>(by cases h),fun⟨i,h,_⟩=>absurd h (by omega)⟩⟩
 |n+1=>by
  obtain⟨l,o,p⟩:=jhd c j t n
  cases g:U.jG t (n:Int) with
  |false=>
   rw[jrb g]
   refine⟨l,o.trans ⟨fun h i hi a=> ?_,fun h i hi=>h i (by omega)⟩,p.trans ⟨fun⟨i,hi,a⟩=>⟨i,by omega,a⟩,fun⟨i,hi,d,f⟩=>⟨i,?_,d,f⟩⟩⟩
   .by_cases e:i=n
    .subst e;rw[g] at a;cases a
    .exact h i (by omega) a
   .by_cases e:i=n
    .subst e;rw[g] at d;cases d
    .omega
  |true=>
   have e:U.j8 c j t (n+1)=(U.juk (!U.jG (U.cl (nth (U.je c) n)) (U.jru j)) (U.juk (!U.jG (U.fd (nth (U.je c) n)) (U.jsU j)) (U.juk (U.vX (nth (U.je c) n) (U.jAE j)) (U.j8 c j t n).1 1) 2) 4,(U.j8 c j t n).2||U.jEo (nth (U.je c) n)):=by
    rw[jkW];unfold U.jtD;rw[if_pos g]
   rw[e];have o1:=jpX (b:=U.vX (nth (U.je c) n) (U.jAE j)) (k:=1) l (by omega);have o2:=jpX (b:= !U.jG (U.fd (nth (U.je c) n)) (U.jsU j)) (k:=2) o1 (by omega);have s:=jpX (b:= !U.jG (U.cl (nth (U.je c) n)) (U.jru j)) (k:=4) o2 (by omega);refine⟨s,?_,?_⟩
   .show U.juk _ _ 4=0↔_;rw[jcF o2 (by omega),jcF o1 (by omega),jcF l (by omega),o];have m:U.ze c j (n:Int)=(!(U.vX (nth (U.je c) n) (U.jAE j))&&U.jG (U.fd (nth (U.je c) n)) (U.jsU j)&&U.jG (U.cl (nth (U.je c) n)) (U.jru j)):=by
     unfold U.ze;rw[jG1]
    refine⟨fun⟨d,f,q,r⟩ i hi a=> ?_,fun h=> ?_⟩
    .by_cases e:i=n
     .subst e;rw[m];simp only[jHC] at d f;rw[d,f,q];rfl
     .exact r i (by omega) a
    .have:=h n (by omega) g;rw[m,jGW,jGW,jHw] at this;exact⟨by rw[this.2];rfl,by rw[this.1.2];rfl,this.1.1,fun i hi=>h i (by omega)⟩
   .show((U.j8 c j t n).2||U.jEo (nth (U.je c) n))=true↔_;rw[jH5,p];refine⟨fun h=>h.elim (fun⟨i,hi,a⟩=>⟨i,by omega,a⟩) (fun h=>⟨n,by omega,g,h⟩),fun⟨i,hi,d,f⟩=> ?_⟩;by_cases e:i=n
    .subst e;exact .inr f
    .exact .inl ⟨i,by omega,d,f⟩
theorem jBC {c:CrD} {j:JbD} {t:Int} (d:BT.Set' t) (a b:Nat):U.jrt (c,j,U.yA c j,()) t a b=U.J3 c t (U.jxc (U.yA c j)) a b:=by
 unfold U.jrt U.J3 U.jcb U.jbc;refine jHs.2 ?_;rw[jHG,jHG];refine⟨fun⟨x,g,h⟩=> ?_,fun⟨i,hi,h⟩=> ?_⟩
 .obtain⟨i,e,f,rfl⟩:=(jcJ d).1 g;refine⟨i,jG4.2 e,?_⟩;have h:U.jxc (U.yA c j)<=min (nth (U.lv (nth (U.je c) i)) ((a:Int)).toNat) (nth (U.lv (nth (U.je c) i)) ((b:Int)).toNat):=of_decide_eq_true h;rw[f,decide_eq_true (by omega:U.jxc (U.yA c j)<=nth (U.lv (nth (U.je c) i)) ((a:Int)).toNat),decide_eq_true (by omega:U.jxc (U.yA c j)<=nth (U.lv (nth (U.je c) i)) ((b:Int)).toNat)];rfl
 .rw[jGW,jGW,decide_eq_true_iff,decide_eq_true_iff] at h;refine⟨((i:Int),nth (U.je c) i,()),(jcJ d).2 ⟨i,jG4.1 hi,h.1.1,rfl⟩,?_⟩;exact decide_eq_true (show U.jxc (U.yA c j)<=min (nth (U.lv (nth (U.je c) i)) ((a:Int)).toNat) (nth (U.lv (nth (U.je c) i)) ((b:Int)).toNat) by have:=h.1.2;have:=h.2;omega)
theorem jEP (c:CrD) (t lev:Int) (a b:Nat):U.J3 c t lev a b=U.J3 c t lev b a:=by
 unfold U.J3 U.jbc;refine jHs.2 ?_;rw[jHG,jHG];constructor<;>
 .rintro⟨i,hi,h⟩;refine⟨i,hi,?_⟩;rw[jGW,jGW] at h⊢;exact⟨⟨h.1.1,h.2⟩,h.1.2⟩
theorem jFH {c:CrD} {j:JbD} {t:Int} (g:U.jj c=true) (d:U.jQ c j=true) (f:BT.Set' t):nth (U.jaT (c,j,U.yA c j,()) t) (U.jrv j).toNat<0↔nth (U.jcm c t (U.jxc (U.yA c j)) (U.jrv j)) (U.jmp j).toNat<0:=by
 have h:=jcc d;have e:U.jrt (c,j,U.yA c j,()) t=U.J3 c t (U.jxc (U.yA c j)):=(by funext a b;exact jBC f a b);show nth (U.jFU (U.jrt (c,j,U.yA c j,()) t) (U.la c).toNat (U.jmp j).toNat) (U.jrv j).toNat<0↔nth (U.zm (U.J3 c t (U.jxc (U.yA c j))) (U.la c).toNat (U.jrv j).toNat (U.la c).toNat) (U.jmp j).toNat<0;rw[e];exact(jEh (jEP c t _) (by omega) (by omega)).symm
theorem jAr {c:CrD} {j:JbD} {t:Int} (a:BT.Set' t):(∀x∈U.jhv (c,j,U.yA c j,()) t,U.kG (c,j,U.yA c j,()) x.2.1=0)↔∀i:Nat,i<(U.je c).length->U.jG t (i:Int)=true->U.ze c j (i:Int)=true:=by
 refine⟨fun h i hi e=>(jcW c j i).1 (h ((i:Int),nth (U.je c) i,()) ((jcJ a).2 ⟨i,hi,e,rfl⟩)),fun h x f=> ?_⟩;obtain⟨i,b,d,rfl⟩:=(jcJ a).1 f;exact(jcW c j i).2 (h i b d)
theorem jB7 {c:CrD} {j:JbD} {t:Int} (d:BT.Set' t):U.jaa (U.jhv (c,j,U.yA c j,()) t)=U.jGs c j t:=by
 refine jHs.2 ?_;unfold U.jGs;rw[(jhd c j t (U.je c).length).2.2];unfold U.jaa;rw[jHG];refine⟨fun⟨x,f,h⟩=> ?_,fun⟨i,a,b,e⟩=>⟨((i:Int),nth (U.je c) i,()),(jcJ d).2 ⟨i,a,b,rfl⟩,e⟩⟩;obtain⟨i,a,b,rfl⟩:=(jcJ d).1 f;exact⟨i,a,b,h⟩
theorem jtC {c:CrD} {j:JbD} {t:Int} (n:U.jj c=true) (o:U.jQ c j=true) (a:BT.Set' t):U.kj (c,j,U.yA c j,()) t=0↔U.jwQ c j t=0:=by
 have f:=jhd c j t (U.je c).length;have g:=jrQ (c,j,U.yA c j,()) (U.jhv (c,j,U.yA c j,()) t) 0 (by omega);have i:=jjI (b:=decide (BT.size t≠max (U.jBB j) (U.jD4 (U.yA c j)))) (k:=8) g (by omega);have q:=jjI (b:=(U.jF5 (U.yA c j)&& !U.jaa (U.jhv (c,j,U.yA c j,()) t))) (k:=16) i (by omega);have d:0<=U.jGr c j t/\U.jGr c j t<64:=f.1;have e:=jpX (b:=decide (BT.size t≠max (U.jBB j) (U.jD4 (U.yA c j)))) (k:=8) d (by omega);have l:=jpX (b:=(U.jF5 (U.yA c j)&& !U.jGs c j t)) (k:=16) e (by omega);have m:U.kj (c,j,U.yA c j,()) t=U.jlp (decide (nth (U.jaT (c,j,U.yA c j,()) t) (U.jrv j).toNat<0)) (U.jlp (U.jF5 (U.yA c j)&& !U.jaa (U.jhv (c,j,U.yA c j,()) t)) (U.jlp (decide (BT.size t≠max (U.jBB j) (U.jD4 (U.yA c j)))) (U.yu (c,j,U.yA c j,()) 0 (U.jhv (c,j,U.yA c j,()) t)) 8) 16) 32:=rfl;have p:U.jGr c j t=0↔U.yu (c,j,U.yA c j,()) 0 (U.jhv (c,j,U.yA c j,()) t)=0:=by
  rw[jo8 _ _ _ (by omega),jAr a];exact f.2.1.trans ⟨fun h=>⟨rfl,h⟩,fun h=>h.2⟩
 rw[m,jjH q (by omega),jjH i (by omega),jjH g (by omega)];unfold U.jwQ;rw[jcF l (by omega),jcF e (by omega),jcF d (by omega),p,jB7 a,decide_eq_false_iff_not,decide_eq_false_iff_not,jFH n o a,decide_eq_false_iff_not]
theorem jzB {d:DyD} (a:U.vK d) {b:Int} (k:U.wJ d b) {t:Int} (e:0<=t) (n:t<2^(U.je (U.jc d)).length):U.jdr d b t=U.qg (U.jc d) (U.vJ (U.bk d b)) t:=by
 unfold U.wJ at k;have h:U.jQ (U.jc d) (U.vJ (U.bk d b))=true:=jy8 a (b:=b.toNat) (by omega);have o:=(jaF a.1).2;have m:BT.Set' t:=(by unfold BT.Set';omega);have i:U.zX (U.jc d) (U.vJ (U.bk d b))=0:=(by unfold U.zX;rw[a.1,h];rfl);have j:U.jn4 (U.jc d) t=true:=by
  unfold U.jn4 U.ja;rw[decide_eq_true e,decide_eq_true (by omega)];rfl
 have l:U.qU (U.jc d) (U.vJ (U.bk d b)) t=0:=by
  unfold U.qU;rw[if_neg (by rw[i];simp),j,if_pos rfl]
 have c:=jtC a.1 h m;unfold U.jdr U.qg U.jEZ;rw[l,if_pos rfl];refine jHs.2 ?_;simp only[jGW,decide_eq_true_iff,true_and];rw[c];constructor
 .rintro⟨f,g⟩;exact⟨by omega,f⟩
 .rintro⟨f,g⟩;exact⟨g,by omega⟩
theorem jFF {d:DyD} {t:Int} (a:BT.Set' t):U.wP d t=U.jg7 (U.jc d) t:=by
 unfold U.wP U.jg7;have:∀n,U.vG (U.je (U.jc d)) t n=U.zR (U.jc d) t n:=by
  intro n
  induction n with
  |zero=>rfl
  |succ n e=>
   have b:U.vG (U.je (U.jc d)) t (n+1)=U.vG (U.je (U.jc d)) t n+qO (t/2^n) 1*U.fe (nth (U.je (U.jc d)) n):=by
    unfold U.vG;rw[jHn,jHh];rfl
   have c:U.zR (U.jc d) t (n+1)=if U.jG t (n:Int)=true then U.zR (U.jc d) t n+U.fe (nth (U.je (U.jc d)) n) else U.zR (U.jc d) t n:=by
    unfold U.zR;rw[jHn,jHh];rfl
   rw[b,c,e,BT.bit_num a,jaM a,jG1]
   split
   .rw[Int.one_mul]
   .rw[Int.zero_mul,Int.add_zero]
 exact this _
end Go.X
namespace Go.X
theorem jE6 {d:DyD} (h:U.wG d=0) {b:Nat} (a:b<(U.jm d).length):0<=nth (U.joL d).1 b/\nth (U.joL d).1 b<2^(U.je (U.jc d)).length:=by
 have c:=jdS ((qi d).trans h);have e:=c.set b a;exact⟨e.1,BT.lt_of_has e (fun p f=>((c.bit b a p).1 f).1)⟩
theorem jDw (d:DyD):U.jgr d=U.jGC d:=by
 unfold U.jgr U.jGC;rw[qi];by_cases h:U.wG d=0
 .rw[if_pos h,if_pos h,jDp h];unfold U.vZ U.jCF;congr 1;refine List.filter_congr fun b a=> ?_
  have a:=jG4.1 a;have hk:=(qi d).trans h;have c:=jE6 h a;show U.jdr d (b:Int) (U.yV (U.wa (U.qa d)) (b:Int))=U.qg (U.jc d) (U.vJ (nth (U.jm d) b)) (nth (U.jDq d) b);rw[jxw hk a,jCD h,jzB (jFO h) (by unfold U.wJ;omega) c.1 c.2];rfl
 .rw[if_neg h,if_neg h]
end Go.X
