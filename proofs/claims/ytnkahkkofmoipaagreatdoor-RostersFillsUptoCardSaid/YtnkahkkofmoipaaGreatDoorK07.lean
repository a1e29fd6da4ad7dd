/-
  Part 7 of the road: a checked reading of bodies, and what the functions on it do (PC13 PC14 S4 S5).
-/
import Derived.Test.YtnkahkkofmoipaaGreatDoorK06
namespace Go.X
open Go.Proofs
theorem jhC (d:DyD) (b all t:Int) (n:Nat):U.zr d b all t (n+1)=U.ji8 d b all t (U.zr d b all t n) n:=by
 unfold U.zr;rw[jIe,jH8];rfl
theorem jhB (d:DyD) (b all t:Int):U.zr d b all t 0=(0,0,false):=rfl
theorem jFv {a b:Int} (d:U.jo7 a) (e:U.jo7 b):U.jo7 (bor a b):=by
 unfold U.jo7 at*;have g:BT.Set' a:=(by unfold BT.Set';omega);have h:BT.Set' b:=(by unfold BT.Set';omega);have f:=BT.bor_set g h;refine⟨f.1,BT.lt_of_has (k:=8) f fun p c=> ?_⟩;rw[BT.has_bor g h,jIK] at c;rcases c with c|c
 .exact BT.has_lt (k:=8) d.1 d.2 c
 .exact BT.has_lt (k:=8) e.1 e.2 c
theorem jEF {x k:Nat} (h:(x:Int)<1*2^k):x<2^k:=by
 rw[wj,BT.two_nat] at h;exact Int.ofNat_lt.1 h
theorem jE6 {d:DyD} {b:Int} (h:U.qP d (U.jj d b)≠0):(0,0,U.qP d (U.jj d b),())=(U.jgt d b,U.jgs d b,U.jbd d b,()):=by
 have e:U.jbd d b=U.qP d (U.jj d b):=(by unfold U.jbd;rw[if_neg h]);unfold U.jgt U.jgs;rw[e,if_neg h,if_neg h]
theorem jE5 {d:DyD} {b:Int} (h:U.qP d (U.jj d b)=0) (a:(U.jq4 d b).2.2=false):((0:Int),(0:Int),(3:Int),())=(U.jgt d b,U.jgs d b,U.jbd d b,()):=by
 have e:U.jbd d b=3:=(by unfold U.jbd;rw[if_pos h,a,if_neg (by simp)]);unfold U.jgt U.jgs;rw[e,if_neg (by decide),if_neg (by decide)]
theorem jC1 {d:DyD} {b:Int} (h:U.qP d (U.jj d b)=0) (a:(U.jq4 d b).2.2=true):((U.jq4 d b).1,(U.jq4 d b).2.1,(0:Int),())=(U.jgt d b,U.jgs d b,U.jbd d b,()):=by
 have e:U.jbd d b=0:=(by unfold U.jbd;rw[if_pos h,a,if_pos rfl]);unfold U.jgt U.jgs;rw[e,if_pos rfl,if_pos rfl]
theorem jt0 (d:DyD) (b:Int):U.zr d b (U.we d (U.jC d) b) (nth (U.jC d) b.toNat) (2^(U.jh (U.jc d)).length)=U.jq4 d b:=rfl
section
attribute [local irreducible] U.zr U.jC U.wt U.we U.jaq U.jk5 U.qP U.jq4 U.jgt U.jgs U.jbd U.jo7
theorem jAJ:jwa:=by
 unfold jwa q141_6 q141_5 q141_4 q141_3 q141_2 q141_1 q141_0;rintro⟨d,b,⟨⟩⟩ w;refine⟨w,fun h=> ?_,fun h=> ?_⟩
 .have h:U.qP d (U.jj d b)≠0:=of_decide_eq_true h;exact jE6 h
 .have h:U.qP d (U.jj d b)=0:=Classical.not_not.1 (of_decide_eq_false h);have hk:=jdp h;have i:=jd5 hk.1;have s:(U.jh (U.jc d)).length<=8:=(jy i.1).2.2.1;have p:=jkH hk.2;have f:=p;unfold U.kr at f;have g:(2:Nat)^(U.jh (U.jc d)).length<=2^8:=jIZ (by decide) s;have k:=jnF hk.1;have j:b<((U.jC d).length:Int):=(by omega);have u:U.jo7 (nth (U.jC d) b.toNat):=(by rw[jhO hk.1];exact jEp hk.1 (by omega));have v:U.za (U.jc d) (U.yG (nth (U.ju d) b.toNat))=true:=jAo i (by omega);have q:(0:Int)<=((U.jh (U.jc d)).length:Int):=jH4 _;refine⟨i,k,p,⟨0,⟨⟨rfl,by rw[jhB],by rw[jhB],by rw[jhB],trivial⟩,trivial⟩,jHR _⟩,fun x l _=>⟨q,by show((U.jh (U.jc d)).length:Int)<=18446744073709551615;omega,q,by show((U.jh (U.jc d)).length:Int)<=64;omega,?_,fun e=> ?_,fun e=> ?_⟩⟩
  .show jz (1*2^(U.jh (U.jc d)).length);rw[wj,BT.two_nat];clear l;generalize 2^(U.jh (U.jc d)).length=m at g⊢;have g:m<=256:=g;exact L.in64 (by omega) (by omega)
  .have e:(x:Int)<1*2^(U.jh (U.jc d)).length:=of_decide_eq_true e;have y:=jEF e;have c:=jhC d b (U.we d (U.jC d) b) (nth (U.jC d) b.toNat) x;have t:U.jo7 (bor (nth (U.jC d) b.toNat) (x:Int)):=jFv u (by unfold U.jo7;omega);have i64:jz ((x:Int)+1):=L.in64 (by omega) (by omega);have r:x+1<=2^(U.jh (U.jc d)).length:=(by omega);have o:2^(U.jh (U.jc d)).length-(x+1)<2^(U.jh (U.jc d)).length-x:=(by omega);refine⟨i.1,fun _=>f.1,fun _=>f.2,fun _=>f.1,fun _=>j,fun _=>i.1,fun _=>v,fun _=>t,fun a=>⟨i64,x+1,⟨⟨by simp,?_,?_,?_,trivial⟩,trivial⟩,r,o⟩,fun a=>⟨i64,x+1,⟨⟨?_,?_,?_,by simp,trivial⟩,trivial⟩,r,o⟩⟩
   all_goals
    have a:((decide (qp (x:Int) (U.we d (U.jC d) b)=0)&&U.jaq (U.jc d) (U.yG (U.bk d b)) (bor (nth (U.jC d) b.toNat) (x:Int)))&&(!(U.zr d b (U.we d (U.jC d) b) (nth (U.jC d) b.toNat) x).2.2||decide (U.jk5 (U.jc d) (x:Int)<(U.zr d b (U.we d (U.jC d) b) (nth (U.jC d) b.toNat) x).2.1)))=_:=a;unfold U.ji8 at c;rw[a] at c
   .rw[if_pos rfl] at c;show true=(U.zr d b (U.we d (U.jC d) b) (nth (U.jC d) b.toNat) (x+1)).2.2;rw[c]
   .rw[if_pos rfl] at c;show U.jk5 (U.jc d) (x:Int)=(U.zr d b (U.we d (U.jC d) b) (nth (U.jC d) b.toNat) (x+1)).2.1;rw[c]
   .rw[if_pos rfl] at c;show(x:Int)=(U.zr d b (U.we d (U.jC d) b) (nth (U.jC d) b.toNat) (x+1)).1;rw[c]
   .rw[if_neg (by simp)] at c;show _=(U.zr d b (U.we d (U.jC d) b) (nth (U.jC d) b.toNat) (x+1)).2.2;rw[c]
   .rw[if_neg (by simp)] at c;show _=(U.zr d b (U.we d (U.jC d) b) (nth (U.jC d) b.toNat) (x+1)).2.1;rw[c]
   .rw[if_neg (by simp)] at c;show _=(U.zr d b (U.we d (U.jC d) b) (nth (U.jC d) b.toNat) (x+1)).1;rw[c]
  .have e:¬(x:Int)<1*2^(U.jh (U.jc d)).length:=of_decide_eq_false e;rw[wj,BT.two_nat] at e;have e:¬x<2^(U.jh (U.jc d)).length:=fun h=>e (Int.ofNat_lt.2 h)
   have l:x<=2^(U.jh (U.jc d)).length:=l;have n:x=2^(U.jh (U.jc d)).length:=(by omega);subst n;refine⟨fun a=> ?_,fun a=> ?_⟩
   .have a:(!(U.zr d b (U.we d (U.jC d) b) (nth (U.jC d) b.toNat) (2^(U.jh (U.jc d)).length)).2.2)=true:=a;rw[jt0,jIj] at a;exact jE5 h a
   .have a:(!(U.zr d b (U.we d (U.jC d) b) (nth (U.jC d) b.toNat) (2^(U.jh (U.jc d)).length)).2.2)=false:=a;rw[jt0,jIC] at a;show((U.zr d b (U.we d (U.jC d) b) (nth (U.jC d) b.toNat) (2^(U.jh (U.jc d)).length)).1,(U.zr d b (U.we d (U.jC d) b) (nth (U.jC d) b.toNat) (2^(U.jh (U.jc d)).length)).2.1,(0:Int),())=_;rw[jt0];exact jC1 h a
end
theorem jwY:zm PR 29 jwx:=kH jx8 jAJ Tryz.func29 (kcC yX (kcC jmK (kcC jzT (kcC jw1 kcN)))) koN
end Go.X
namespace Go.X
open Go.Proofs
theorem jbe (d:DyD) (l:List Int) (n:Nat):U.jx d l (n+1)=if U.ve (U.bk d (nth l n))<U.ve (U.bk d (nth l (U.jx d l n))) then n else U.jx d l n:=by
 unfold U.jx;rw[jIe,jH8];rfl
theorem jt1 (d:DyD) (l:List Int):U.jx d l 0=0:=rfl
theorem jar (d:DyD) (l:List Int):∀n,n<=l.length->0<l.length->U.jx d l n<l.length
 |0,_,h=>h
 |n+1,a,h=>by
  have b:=jar d l n (by omega) h
  rw[jbe]
  split<;>omega
theorem jp1 (d:DyD) (l:List Int):U.jb d l 0=([],l):=rfl
theorem jc5 (d:DyD) (l:List Int) (n:Nat):(U.jb d l (n+1)).1=(U.jb d l n).1++[nth (U.jb d l n).2 (U.jx d (U.jb d l n).2 (U.jb d l n).2.length)]:=rfl
theorem jc4 (d:DyD) (l:List Int) (n:Nat):(U.jb d l (n+1)).2=(U.jb d l n).2.take (U.jx d (U.jb d l n).2 (U.jb d l n).2.length)++(U.jb d l n).2.drop (U.jx d (U.jb d l n).2 (U.jb d l n).2.length+1):=rfl
theorem jfN (d:DyD) (l:List Int):∀n,n<=l.length->(U.jb d l n).1.length=n/\(U.jb d l n).2.length=l.length-n
 |0,_=>⟨rfl,rfl⟩
 |n+1,e=>by
  obtain⟨a,b⟩:=jfN d l n (by omega)
  have c:=jar d (U.jb d l n).2 _ (jHM _) (by omega)
  rw[jc5,jc4]
  refine⟨?_,?_⟩
  .rw[jH2,a];rfl
  .rw[jH2,jH6,jIy];omega
theorem jjO (d:DyD) (l:List Int):∀n,n<=l.length->((U.jb d l n).1++(U.jb d l n).2).Perm l
 |0,_=>List.Perm.refl _
 |n+1,e=>by
  have b:=jjO d l n (by omega)
  have c:=jfN d l n (by omega)
  have a:=jar d (U.jb d l n).2 _ (jHM _) (by omega)
  refine List.Perm.trans ?_ b
  rw[jc5,jc4,jH3]
  exact List.Perm.append_left _ (jvF a)
theorem jwl (d:DyD) (l:List Int):U.w5 d l 0=1440:=rfl
section
attribute [local irreducible] U.jb U.jx U.w5 U.jdI U.jdH U.qP
theorem jwH (d:DyD) (p:Int) (l:List Int) (k:U.zK d=true) (N:l.length<=1000) (w:∀b∈l,U.kr d b)
 (H:((U.jb d l l.length).1,U.w5 d (U.jb d l l.length).1 ((U.jb d l l.length).1.length-1),(0:Int),())=(U.jdI d p,U.jdH d p,U.qP d (U.ji d p),())):
 (∃(x:Nat),((True/\True/\True)/\l=(U.jb d l x).snd/\(U.jb d l x).fst=[]/\True)/\x<=l.length)/\∀(x:Nat),x<=l.length->(U.jb d l x).snd.length<(4611686018427387904:Nat)->(decide ((0:Int)<(↑(U.jb d l x).snd.length:Int))=true->(∃(a:Nat),(((0:Int)=(↑a:Int)/\(0:Int)=(↑(U.jx d (U.jb d l x).snd a):Int)/\True)/\True)/\a<=(U.jb d l x).snd.length)/\∀(a:Nat),a<=(U.jb d l x).snd.length->(U.jb d l x).snd.length<(4611686018427387904:Nat)->(decide ((↑a:Int)<(↑(U.jb d l x).snd.length:Int))=true->(0:Int)<=(↑a:Int)/\(↑a:Int)<(↑(U.jb d l x).snd.length:Int)/\(0:Int)<=nth (U.jb d l x).snd (↑a:Int).toNat/\nth (U.jb d l x).snd (↑a:Int).toNat<(↑(U.ju d).length:Int)/\(0:Int)<=(↑(U.jx d (U.jb d l x).snd a):Int)/\(↑(U.jx d (U.jb d l x).snd a):Int)<(↑(U.jb d l x).snd.length:Int)/\(0:Int)<=nth (U.jb d l x).snd (↑(U.jx d (U.jb d l x).snd a):Int).toNat/\nth (U.jb d l x).snd (↑(U.jx d (U.jb d l x).snd a):Int).toNat<(↑(U.ju d).length:Int)/\(decide ((nth (U.ju d) (nth (U.jb d l x).snd (↑a:Int).toNat).toNat).snd.snd.fst<(nth (U.ju d) (nth (U.jb d l x).snd (↑(U.jx d (U.jb d l x).snd a):Int).toNat).toNat).snd.snd.fst)=true->jz ((↑a:Int)+(1:Int))/\∃(c:Nat),(((↑a:Int)+(1:Int)=(↑c:Int)/\(↑a:Int)=(↑(U.jx d (U.jb d l x).snd c):Int)/\True)/\True)/\c<=(U.jb d l x).snd.length/\(U.jb d l x).snd.length-c<(U.jb d l x).snd.length-a)/\(decide ((nth (U.ju d) (nth (U.jb d l x).snd (↑a:Int).toNat).toNat).snd.snd.fst<(nth (U.ju d) (nth (U.jb d l x).snd (↑(U.jx d (U.jb d l x).snd a):Int).toNat).toNat).snd.snd.fst)=false->jz ((↑a:Int)+(1:Int))/\∃(c:Nat),(((↑(U.jx d (U.jb d l x).snd a):Int)=(↑(U.jx d (U.jb d l x).snd c):Int)/\(↑a:Int)+(1:Int)=(↑c:Int)/\True)/\True)/\c<=(U.jb d l x).snd.length/\(U.jb d l x).snd.length-c<(U.jb d l x).snd.length-a))/\(decide ((↑a:Int)<(↑(U.jb d l x).snd.length:Int))=false->(0:Int)<=(↑(U.jx d (U.jb d l x).snd a):Int)/\(↑(U.jx d (U.jb d l x).snd a):Int)<(↑(U.jb d l x).snd.length:Int)/\((U.jb d l x).fst.length+[nth (U.jb d l x).snd (↑(U.jx d (U.jb d l x).snd a):Int).toNat].length)*(8:Nat)<=(140737488355328:Nat)/\(0:Int)<=(0:Int)/\(0:Int)<=(↑(U.jx d (U.jb d l x).snd a):Int)/\(↑(U.jx d (U.jb d l x).snd a):Int)<=(↑(U.jb d l x).snd.length:Int)/\((0:Nat)+(List.take ((↑(U.jx d (U.jb d l x).snd a):Int).toNat-Int.toNat (0:Int)) (List.drop (Int.toNat (0:Int)) (U.jb d l x).snd)).length)*(8:Nat)<=(140737488355328:Nat)/\jz ((↑(U.jx d (U.jb d l x).snd a):Int)+(1:Int))/\(0:Int)<=(↑(U.jx d (U.jb d l x).snd a):Int)+(1:Int)/\(↑(U.jx d (U.jb d l x).snd a):Int)+(1:Int)<=(↑(U.jb d l x).snd.length:Int)/\(↑(U.jb d l x).snd.length:Int)<=(↑(U.jb d l x).snd.length:Int)/\(([]++List.take ((↑(U.jx d (U.jb d l x).snd a):Int).toNat-Int.toNat (0:Int)) (List.drop (Int.toNat (0:Int)) (U.jb d l x).snd)).length+(List.take ((↑(U.jb d l x).snd.length:Int).toNat-((↑(U.jx d (U.jb d l x).snd a):Int)+(1:Int)).toNat) (List.drop ((↑(U.jx d (U.jb d l x).snd a):Int)+(1:Int)).toNat (U.jb d l x).snd)).length)*(8:Nat)<=(140737488355328:Nat)/\∃(c:Nat),((True/\True/\True)/\[]++List.take ((↑(U.jx d (U.jb d l x).snd a):Int).toNat-Int.toNat (0:Int)) (List.drop (Int.toNat (0:Int)) (U.jb d l x).snd)++List.take ((↑(U.jb d l x).snd.length:Int).toNat-((↑(U.jx d (U.jb d l x).snd a):Int)+(1:Int)).toNat) (List.drop ((↑(U.jx d (U.jb d l x).snd a):Int)+(1:Int)).toNat (U.jb d l x).snd)=(U.jb d l c).snd/\(U.jb d l x).fst++[nth (U.jb d l x).snd (↑(U.jx d (U.jb d l x).snd a):Int).toNat]=(U.jb d l c).fst/\True)/\c<=l.length/\l.length-c<l.length-x))/\(decide ((0:Int)<(↑(U.jb d l x).snd.length:Int))=false->(∃(a:Nat),(((1:Int)=(↑a:Int)+(1:Int)/\(1440:Int)=U.w5 d (U.jb d l x).fst a/\True)/\True)/\a<=(U.jb d l x).fst.length-(1:Nat))/\∀(a:Nat),a<=(U.jb d l x).fst.length-(1:Nat)->(U.jb d l x).fst.length<(4611686018427387904:Nat)->(decide ((↑a:Int)+(1:Int)<(↑(U.jb d l x).fst.length:Int))=true->jz ((↑a:Int)+(1:Int)-(1:Int))/\(0:Int)<=(↑a:Int)+(1:Int)-(1:Int)/\(↑a:Int)+(1:Int)-(1:Int)<(↑(U.jb d l x).fst.length:Int)/\(0:Int)<=nth (U.jb d l x).fst ((↑a:Int)+(1:Int)-(1:Int)).toNat/\nth (U.jb d l x).fst ((↑a:Int)+(1:Int)-(1:Int)).toNat<(↑(U.ju d).length:Int)/\(0:Int)<=(↑a:Int)+(1:Int)/\(↑a:Int)+(1:Int)<(↑(U.jb d l x).fst.length:Int)/\(0:Int)<=nth (U.jb d l x).fst ((↑a:Int)+(1:Int)).toNat/\nth (U.jb d l x).fst ((↑a:Int)+(1:Int)).toNat<(↑(U.ju d).length:Int)/\jz ((nth (U.ju d) (nth (U.jb d l x).fst ((↑a:Int)+(1:Int)).toNat).toNat).snd.snd.fst-(nth (U.ju d) (nth (U.jb d l x).fst ((↑a:Int)+(1:Int)-(1:Int)).toNat).toNat).snd.snd.snd.fst)/\jz ((nth (U.ju d) (nth (U.jb d l x).fst ((↑a:Int)+(1:Int)).toNat).toNat).snd.snd.fst-(nth (U.ju d) (nth (U.jb d l x).fst ((↑a:Int)+(1:Int)-(1:Int)).toNat).toNat).snd.snd.snd.fst-(U.jcj d))/\(0:Int)<=(nth (U.ju d) (nth (U.jb d l x).fst ((↑a:Int)+(1:Int)-(1:Int)).toNat).toNat).snd.fst/\(nth (U.ju d) (nth (U.jb d l x).fst ((↑a:Int)+(1:Int)-(1:Int)).toNat).toNat).snd.fst<(↑(U.jZ d).length:Int)/\(0:Int)<=(nth (U.ju d) (nth (U.jb d l x).fst ((↑a:Int)+(1:Int)).toNat).toNat).snd.fst/\(nth (U.ju d) (nth (U.jb d l x).fst ((↑a:Int)+(1:Int)).toNat).toNat).snd.fst<(↑(nth (U.jZ d) (nth (U.ju d) (nth (U.jb d l x).fst ((↑a:Int)+(1:Int)-(1:Int)).toNat).toNat).snd.fst.toNat).length:Int)/\jz ((nth (U.ju d) (nth (U.jb d l x).fst ((↑a:Int)+(1:Int)).toNat).toNat).snd.snd.fst-(nth (U.ju d) (nth (U.jb d l x).fst ((↑a:Int)+(1:Int)-(1:Int)).toNat).toNat).snd.snd.snd.fst-(U.jcj d)-(nth (nth (U.jZ d) (nth (U.ju d) (nth (U.jb d l x).fst ((↑a:Int)+(1:Int)-(1:Int)).toNat).toNat).snd.fst.toNat) (nth (U.ju d) (nth (U.jb d l x).fst ((↑a:Int)+(1:Int)).toNat).toNat).snd.fst.toNat).snd.fst)/\jz ((↑a:Int)+(1:Int)+(1:Int))/\∃(c:Nat),(((↑a:Int)+(1:Int)+(1:Int)=(↑c:Int)+(1:Int)/\min (U.w5 d (U.jb d l x).fst a) ((nth (U.ju d) (nth (U.jb d l x).fst ((↑a:Int)+(1:Int)).toNat).toNat).snd.snd.fst-(nth (U.ju d) (nth (U.jb d l x).fst ((↑a:Int)+(1:Int)-(1:Int)).toNat).toNat).snd.snd.snd.fst-(U.jcj d)-(nth (nth (U.jZ d) (nth (U.ju d) (nth (U.jb d l x).fst ((↑a:Int)+(1:Int)-(1:Int)).toNat).toNat).snd.fst.toNat) (nth (U.ju d) (nth (U.jb d l x).fst ((↑a:Int)+(1:Int)).toNat).toNat).snd.fst.toNat).snd.fst)=U.w5 d (U.jb d l x).fst c/\True)/\True)/\c<=(U.jb d l x).fst.length-(1:Nat)/\(U.jb d l x).fst.length-c<(U.jb d l x).fst.length-a)/\(decide ((↑a:Int)+(1:Int)<(↑(U.jb d l x).fst.length:Int))=false->((U.jb d l x).fst,U.w5 d (U.jb d l x).fst a,(0:Int),())=(U.jdI d p,U.jdH d p,U.qP d (U.ji d p),()))):=by
 refine⟨⟨0,⟨⟨trivial,trivial,trivial⟩,by rw[jp1],by rw[jp1],trivial⟩,jHR _⟩,fun n A _=> ?_⟩;obtain⟨O,P⟩:=jfN d l n A;have m:=jjO d l n A;have q:∀i,i<(U.jb d l n).2.length->U.kr d (nth (U.jb d l n).2 i):=fun i hi=>w _ (m.mem_iff.1 (jHI _ (L.mem_nth hi)))
 have o:∀i,i<(U.jb d l n).1.length->U.kr d (nth (U.jb d l n).1 i):=fun i hi=>w _ (m.mem_iff.1 (jHJ _ (L.mem_nth hi)))
 refine⟨fun g=>⟨⟨0,⟨⟨rfl,by rw[jt1];rfl,trivial⟩,trivial⟩,jHR _⟩,fun i hi _=>⟨fun e=> ?_,fun e=> ?_⟩⟩,fun g=>⟨⟨0,⟨⟨rfl,by rw[jwl],trivial⟩,trivial⟩,jHR _⟩,fun i hi _=>⟨fun e=> ?_,fun e=> ?_⟩⟩⟩
 .have g:(0:Int)<((U.jb d l n).2.length:Int):=of_decide_eq_true g;have e:(i:Int)<((U.jb d l n).2.length:Int):=of_decide_eq_true e;have z:=jar d (U.jb d l n).2 i hi (by omega);have s:=jbe d (U.jb d l n).2 i;have D:i+1<=(U.jb d l n).2.length:=(by omega);have u:(U.jb d l n).2.length-(i+1)<(U.jb d l n).2.length-i:=(by omega);have B:=q i (by omega);have C:=q _ z;refine⟨jH4 _,e,B.1,B.2,jH4 _,by omega,C.1,C.2,fun h=>⟨L.in64 (by omega) (by omega),i+1,⟨⟨by simp,?_,trivial⟩,trivial⟩,D,u⟩,fun h=>⟨L.in64 (by omega) (by omega),i+1,⟨⟨?_,by simp,trivial⟩,trivial⟩,D,u⟩⟩
  .have h:U.ve (U.bk d (nth (U.jb d l n).2 i))<U.ve (U.bk d (nth (U.jb d l n).2 (U.jx d (U.jb d l n).2 i))):=of_decide_eq_true h;rw[s,if_pos h]
  .have h:¬U.ve (U.bk d (nth (U.jb d l n).2 i))<U.ve (U.bk d (nth (U.jb d l n).2 (U.jx d (U.jb d l n).2 i))):=of_decide_eq_false h;rw[s,if_neg h]
 .have g:(0:Int)<((U.jb d l n).2.length:Int):=of_decide_eq_true g;have e:¬(i:Int)<((U.jb d l n).2.length:Int):=of_decide_eq_false e;have j:i=(U.jb d l n).2.length:=(by omega);subst j;have z:=jar d (U.jb d l n).2 _ (jHM _) (by omega);have I:=jvE (U.jb d l n).2 (U.jx d (U.jb d l n).2 (U.jb d l n).2.length);have K:=jc5 d l n;have M:=jc4 d l n;refine⟨jH4 _,by omega,by show((U.jb d l n).1.length+1)*8<=140737488355328;omega,jIA 0,jH4 _,by omega,?_,L.in64 (by omega) (by omega),by omega,by omega,jIA _,?_,n+1,⟨⟨trivial,trivial,trivial⟩,?_,?_,trivial⟩,by omega,by omega⟩
  .rw[jH6,jIy];omega
  .rw[jIa,jH6,jH6,jIy,jIy];omega
  .rw[M];exact I
  .rw[K];rfl
 .have e:(i:Int)+1<((U.jb d l n).1.length:Int):=of_decide_eq_true e;have E:((i:Int)+1-1).toNat=i:=(by omega);have F:((i:Int)+1).toNat=i+1:=(by omega);have r:=o i (by omega);have f:=o (i+1) (by omega);have v:=qB k r;have G:=qB k f;have J:=(zb k).2.2.1;have Q:=(jcd k (i:=(U.jrT (U.bk d (nth (U.jb d l n).1 i))).toNat) (by omega)).1;have y:=jgv k r f;have s:=jmA d (U.jb d l n).1 i;rw[E,F];refine⟨L.in64 (by omega) (by omega),by omega,by omega,r.1,r.2,by omega,e,f.1,f.2,?_,?_,v.1.1,v.1.2,G.1.1,?_,?_,L.in64 (by omega) (by omega),i+1,⟨⟨by simp,?_,trivial⟩,trivial⟩,by omega,by omega⟩
  .show jz (U.ve (U.bk d (nth (U.jb d l n).1 (i+1)))-U.jnm (U.bk d (nth (U.jb d l n).1 i)));exact L.in64 (by omega) (by omega)
  .show jz (U.ve (U.bk d (nth (U.jb d l n).1 (i+1)))-U.jnm (U.bk d (nth (U.jb d l n).1 i))-U.jcj d);exact L.in64 (by omega) (by omega)
  .show U.jrT (U.bk d (nth (U.jb d l n).1 (i+1)))<((nth (U.jZ d) (U.jrT (U.bk d (nth (U.jb d l n).1 i))).toNat).length:Int);omega
  .show jz (U.ve (U.bk d (nth (U.jb d l n).1 (i+1)))-U.jnm (U.bk d (nth (U.jb d l n).1 i))-U.jcj d-U.jrc d (nth (U.jb d l n).1 i) (nth (U.jb d l n).1 (i+1)));exact L.in64 (by omega) (by omega)
  .rw[s];rfl
 .have g:¬(0:Int)<((U.jb d l n).2.length:Int):=of_decide_eq_false g;have e:¬(i:Int)+1<((U.jb d l n).1.length:Int):=of_decide_eq_false e;have t:n=l.length:=(by omega);subst t;have j:i=(U.jb d l l.length).1.length-1:=(by omega);subst j;exact H
theorem jxr:jr8:=by
 unfold jr8 q137_7 q137_6 q137_4 q137_3 q137_2 q137_1 q137_0 q137_8 q137_5;rintro⟨d,p,⟨⟩⟩ j;refine⟨j,fun h=> ?_,fun h=>⟨fun a=> ?_,fun a=> ?_⟩⟩
 .have h:U.wt d≠0:=of_decide_eq_true h;have e:U.qP d (U.ji d p)=U.wt d:=(by unfold U.qP;rw[if_neg h]);show([],(0:Int),U.wt d,())=(U.jdI d p,U.jdH d p,U.qP d (U.ji d p),());unfold U.jdI U.jdH;rw[e,if_neg h,if_neg h]
 .have h:U.wt d=0:=Classical.not_not.1 (of_decide_eq_false h);have a:(!U.ji d p)=true:=a;rw[jIj] at a;have e:U.qP d (U.ji d p)=1:=(by unfold U.qP;rw[if_pos h,a];rfl);show([],(0:Int),(1:Int),())=(U.jdI d p,U.jdH d p,U.qP d (U.ji d p),());unfold U.jdI U.jdH;rw[e,if_neg (by decide),if_neg (by decide)]
 .have h:U.wt d=0:=Classical.not_not.1 (of_decide_eq_false h);have a:(!U.ji d p)=false:=a;rw[jIC] at a;have c:=jd5 h;have f:=jvo a;unfold U.ji1 at f;have k:(U.jh (U.jc d)).length<=8:=(jy c.1).2.2.1;have i:(U.ju d).length<=4:=(zb c.2.2).1;have l:=jnF h;have m:=jzL (U.jC d) p;have e:U.qP d (U.ji d p)=0:=(by unfold U.qP;rw[if_pos h,a];rfl);refine⟨by show(U.jC d).length<=1000;omega,⟨f.1,by show p<=63;omega⟩,?_⟩;refine jwH d p (U.on (U.jC d) p) c.2.2 (by omega) (fun b g=> ?_) ?_
  .have:=jzK g;exact⟨this.1,by omega⟩
  .unfold U.jdI U.jdH;rw[e,if_pos rfl,if_pos rfl];rfl
end
theorem jtm:zm PR 25 jsG:=kH juy jxr Tryz.func25 (kcC jkf (kcC jdW kcN)) (koC jkg koN)
end Go.X
namespace Go.X
theorem jkq (n m:Nat):n|||m=0↔n=0/\m=0:=by
 constructor
 .intro h;constructor
  .refine jI8 fun i=> ?_
   have:=congrArg (fun z=>Nat.testBit z i) h;simp only[Nat.testBit_or,Nat.zero_testBit,jIg] at this;rw[this.1,Nat.zero_testBit]
  .refine jI8 fun i=> ?_
   have:=congrArg (fun z=>Nat.testBit z i) h;simp only[Nat.testBit_or,Nat.zero_testBit,jIg] at this;rw[this.2,Nat.zero_testBit]
 .rintro⟨rfl,rfl⟩;rfl
theorem juH {a b:Int} (c:0<=a/\a<64) (d:0<=b/\b<64):uor a b=0↔a=0/\b=0:=by
 obtain⟨n,rfl⟩:∃n:Nat,a=(n:Int):=⟨a.toNat,by omega⟩;obtain⟨m,rfl⟩:∃m:Nat,b=(m:Int):=⟨b.toNat,by omega⟩;rw[BT.uor_nat (by omega) (by omega)];have:=jkq n m;omega
theorem jDk {a b:Int} (c:0<=a/\a<64) (d:0<=b/\b<64):bor a b=0↔a=0/\b=0:=by
 obtain⟨n,rfl⟩:∃n:Nat,a=(n:Int):=⟨a.toNat,by omega⟩;obtain⟨m,rfl⟩:∃m:Nat,b=(m:Int):=⟨b.toNat,by omega⟩;rw[BT.bor_nat (by omega) (by omega)];have:=jkq n m;omega
theorem jDl {a b:Int} (c:0<=a/\a<64) (d:0<=b/\b<64):0<=bor a b/\bor a b<64:=by
 obtain⟨n,rfl⟩:∃n:Nat,a=(n:Int):=⟨a.toNat,by omega⟩;obtain⟨m,rfl⟩:∃m:Nat,b=(m:Int):=⟨b.toNat,by omega⟩;rw[BT.bor_nat (by omega) (by omega)];have:n|||m<2^6:=Nat.or_lt_two_pow (by omega) (by omega);omega
theorem jj7 {b:Bool} {o k:Int} (h:0<=o/\o<64) (hk:0<k/\k<64):U.jlV b o k=0↔b=false/\o=0:=by
 unfold U.jlV;cases b with
 |false=>rw[if_neg (by simp)];simp
 |true=>
  rw[if_pos rfl,juH h ⟨by omega,by omega⟩];refine⟨fun h=>absurd h.2 (by omega),fun h=>absurd h.1 (by simp)⟩
theorem jdb {b:Bool} {o k:Int} (h:0<=o/\o<64) (hk:0<k/\k<64):U.ju7 b o k=0↔b=false/\o=0:=by
 unfold U.ju7;cases b with
 |false=>rw[if_neg (by simp)];simp
 |true=>
  rw[if_pos rfl,jDk h ⟨by omega,by omega⟩];refine⟨fun h=>absurd h.2 (by omega),fun h=>absurd h.1 (by simp)⟩
theorem jqi {b:Bool} {o k:Int} (h:0<=o/\o<64) (hk:0<k/\k<64):0<=U.ju7 b o k/\U.ju7 b o k<64:=by
 unfold U.ju7
 split
 .exact jDl h ⟨by omega,hk.2⟩
 .exact h
theorem jpv (t:TkD):∀(q:List (Int×PeD×Unit)) (o:Int),(0<=o/\o<64)->(U.yI t o q=0↔o=0/\∀x∈q,U.kY t x.2.1=0)
 |[],o,_=>by
  show o=0↔_
  simp
 |x::q,o,h=>by
  have b:=jlv t x.2.1
  have a:=jpv t q (uor o (U.kY t x.2.1)) (jyA h ⟨by omega,by omega⟩)
  show U.yI t (uor o (U.kY t x.2.1)) q=0↔_
  rw[a,juH h ⟨by omega,by omega⟩]
  simp only[jHL,forall_eq_or_imp,and_assoc]
theorem jCK {t:Int} (h:BT.Set' t) (p:Int):U.jgg t p=BT.has t p.toNat:=BT.has_ushr h p.toNat
theorem jDP {t:Int} (h:BT.Set' t) (p:Int):U.jgg t p=U.jR t p:=(jCK h p).trans (ja5 h p).symm
theorem jdg {t:TkD} {s:Int} (b:BT.Set' s) {x:Int×PeD×Unit}:x∈U.jh2 t s↔∃i:Nat,i<(U.jh (U.tc t)).length/\U.jR s (i:Int)=true/\x=((i:Int),nth (U.jh (U.tc t)) i,()):=by
 unfold U.jh2 U.wL;rw[jIk];refine⟨fun⟨i,hi,e⟩=> ?_,fun⟨i,c,a,e⟩=>⟨i,jH7.2 ⟨jHZ.2 c,?_⟩,e.symm⟩⟩
 .have hi:=jH7.1 hi;have a:U.jgg s (i:Int)=true:=hi.2;exact⟨i,jHZ.1 hi.1,(jDP b _)▸a,e.symm⟩
 .show U.jgg s (i:Int)=true;rw[jDP b];exact a
theorem jhI (c:CrD) (j:JbD) (t:Int):∀n,(0<=(U.zo c j t n).1/\(U.zo c j t n).1<64)/\((U.zo c j t n).1=0↔∀i:Nat,i<n->U.jR t (i:Int)=true->U.zy c j (i:Int)=true)/\
 ((U.zo c j t n).2=true↔∃i:Nat,i<n/\U.jR t (i:Int)=true/\U.jFi (nth (U.jh c) i)=true)
 |0=>⟨by show(0:Int)<=0/\(0:Int)<64;omega,⟨fun _ i h=>absurd h (by omega),fun _=>rfl⟩,⟨fun h=>(by cases h),fun⟨i,h,_⟩=>absurd h (by omega)⟩⟩
 |n+1=>by
  obtain⟨l,o,p⟩:=jhI c j t n
  cases g:U.jR t (n:Int) with
  |false=>
   rw[jrw g]
   refine⟨l,o.trans ⟨fun h i hi a=> ?_,fun h i hi=>h i (by omega)⟩,p.trans ⟨fun⟨i,hi,a⟩=>⟨i,by omega,a⟩,fun⟨i,hi,d,f⟩=>⟨i,?_,d,f⟩⟩⟩
   .by_cases e:i=n
    .subst e;rw[g] at a;cases a
    .exact h i (by omega) a
   .by_cases e:i=n
    .subst e;rw[g] at d;cases d
    .omega
  |true=>
   have e:U.zo c j t (n+1)=(U.ju7 (!U.jR (U.cl (nth (U.jh c) n)) (U.jrQ j)) (U.ju7 (!U.jR (U.fd (nth (U.jh c) n)) (U.jtB j)) (U.ju7 (U.yf (nth (U.jh c) n) (U.jBT j)) (U.zo c j t n).1 1) 2) 4,(U.zo c j t n).2||U.jFi (nth (U.jh c) n)):=by
    rw[jlp];unfold U.juq;rw[if_pos g]
   rw[e];have o1:=jqi (b:=U.yf (nth (U.jh c) n) (U.jBT j)) (k:=1) l (by omega);have o2:=jqi (b:= !U.jR (U.fd (nth (U.jh c) n)) (U.jtB j)) (k:=2) o1 (by omega);have s:=jqi (b:= !U.jR (U.cl (nth (U.jh c) n)) (U.jrQ j)) (k:=4) o2 (by omega);refine⟨s,?_,?_⟩
   .show U.ju7 _ _ 4=0↔_;rw[jdb o2 (by omega),jdb o1 (by omega),jdb l (by omega),o];have m:U.zy c j (n:Int)=(!(U.yf (nth (U.jh c) n) (U.jBT j))&&U.jR (U.fd (nth (U.jh c) n)) (U.jtB j)&&U.jR (U.cl (nth (U.jh c) n)) (U.jrQ j)):=by
     unfold U.zy;rw[jHQ]
    refine⟨fun⟨d,f,q,r⟩ i hi a=> ?_,fun h=> ?_⟩
    .by_cases e:i=n
     .subst e;rw[m];simp only[jIC] at d f;rw[d,f,q];rfl
     .exact r i (by omega) a
    .have:=h n (by omega) g;rw[m,jHK,jHK,jIj] at this;exact⟨by rw[this.2];rfl,by rw[this.1.2];rfl,this.1.1,fun i hi=>h i (by omega)⟩
   .show((U.zo c j t n).2||U.jFi (nth (U.jh c) n))=true↔_;rw[jIK,p];refine⟨fun h=>h.elim (fun⟨i,hi,a⟩=>⟨i,by omega,a⟩) (fun h=>⟨n,by omega,g,h⟩),fun⟨i,hi,d,f⟩=> ?_⟩;by_cases e:i=n
    .subst e;exact .inr f
    .exact .inl ⟨i,by omega,d,f⟩
theorem jCF {c:CrD} {j:JbD} {t:Int} (d:BT.Set' t) (a b:Nat):U.jrP (c,j,U.yM c j,()) t a b=U.J3 c t (U.jyk (U.yM c j)) a b:=by
 unfold U.jrP U.J3 U.jcF U.jbz;refine jId.2 ?_;rw[jIn,jIn];refine⟨fun⟨x,g,h⟩=> ?_,fun⟨i,hi,h⟩=> ?_⟩
 .obtain⟨i,e,f,rfl⟩:=(jdg d).1 g;refine⟨i,jHZ.2 e,?_⟩;have h:U.jyk (U.yM c j)<=min (nth (U.lv (nth (U.jh c) i)) ((a:Int)).toNat) (nth (U.lv (nth (U.jh c) i)) ((b:Int)).toNat):=of_decide_eq_true h;rw[f,decide_eq_true (by omega:U.jyk (U.yM c j)<=nth (U.lv (nth (U.jh c) i)) ((a:Int)).toNat),decide_eq_true (by omega:U.jyk (U.yM c j)<=nth (U.lv (nth (U.jh c) i)) ((b:Int)).toNat)];rfl
 .rw[jHK,jHK,decide_eq_true_iff,decide_eq_true_iff] at h;refine⟨((i:Int),nth (U.jh c) i,()),(jdg d).2 ⟨i,jHZ.1 hi,h.1.1,rfl⟩,?_⟩;exact decide_eq_true (show U.jyk (U.yM c j)<=min (nth (U.lv (nth (U.jh c) i)) ((a:Int)).toNat) (nth (U.lv (nth (U.jh c) i)) ((b:Int)).toNat) by have:=h.1.2;have:=h.2;omega)
theorem jFJ (c:CrD) (t lev:Int) (a b:Nat):U.J3 c t lev a b=U.J3 c t lev b a:=by
 unfold U.J3 U.jbz;refine jId.2 ?_;rw[jIn,jIn];constructor<;>
 .rintro⟨i,hi,h⟩;refine⟨i,hi,?_⟩;rw[jHK,jHK] at h⊢;exact⟨⟨h.1.1,h.2⟩,h.1.2⟩
theorem jGx {c:CrD} {j:JbD} {t:Int} (g:U.js c=true) (d:U.za c j=true) (f:BT.Set' t):nth (U.jbg (c,j,U.yM c j,()) t) (U.jrR j).toNat<0↔nth (U.jcS c t (U.jyk (U.yM c j)) (U.jrR j)) (U.jmW j).toNat<0:=by
 have h:=jcG d;have e:U.jrP (c,j,U.yM c j,()) t=U.J3 c t (U.jyk (U.yM c j)):=(by funext a b;exact jCF f a b);show nth (U.jGJ (U.jrP (c,j,U.yM c j,()) t) (U.la c).toNat (U.jmW j).toNat) (U.jrR j).toNat<0↔nth (U.zz (U.J3 c t (U.jyk (U.yM c j))) (U.la c).toNat (U.jrR j).toNat (U.la c).toNat) (U.jmW j).toNat<0;rw[e];exact(jFa (jFJ c t _) (by omega) (by omega)).symm
theorem jBJ {c:CrD} {j:JbD} {t:Int} (a:BT.Set' t):(∀x∈U.jh2 (c,j,U.yM c j,()) t,U.kY (c,j,U.yM c j,()) x.2.1=0)↔∀i:Nat,i<(U.jh c).length->U.jR t (i:Int)=true->U.zy c j (i:Int)=true:=by
 refine⟨fun h i hi e=>(jdw c j i).1 (h ((i:Int),nth (U.jh c) i,()) ((jdg a).2 ⟨i,hi,e,rfl⟩)),fun h x f=> ?_⟩;obtain⟨i,b,d,rfl⟩:=(jdg a).1 f;exact(jdw c j i).2 (h i b d)
theorem jDc {c:CrD} {j:JbD} {t:Int} (d:BT.Set' t):U.jav (U.jh2 (c,j,U.yM c j,()) t)=U.jHg c j t:=by
 refine jId.2 ?_;unfold U.jHg;rw[(jhI c j t (U.jh c).length).2.2];unfold U.jav;rw[jIn];refine⟨fun⟨x,f,h⟩=> ?_,fun⟨i,a,b,e⟩=>⟨((i:Int),nth (U.jh c) i,()),(jdg d).2 ⟨i,a,b,rfl⟩,e⟩⟩;obtain⟨i,a,b,rfl⟩:=(jdg d).1 f;exact⟨i,a,b,h⟩
theorem jup {c:CrD} {j:JbD} {t:Int} (n:U.js c=true) (o:U.za c j=true) (a:BT.Set' t):U.kE (c,j,U.yM c j,()) t=0↔U.jx1 c j t=0:=by
 have f:=jhI c j t (U.jh c).length;have g:=jsj (c,j,U.yM c j,()) (U.jh2 (c,j,U.yM c j,()) t) 0 (by omega);have i:=jj8 (b:=decide (BT.size t≠max (U.jCE j) (U.jEV (U.yM c j)))) (k:=8) g (by omega);have q:=jj8 (b:=(U.jGU (U.yM c j)&& !U.jav (U.jh2 (c,j,U.yM c j,()) t))) (k:=16) i (by omega);have d:0<=U.jHf c j t/\U.jHf c j t<64:=f.1;have e:=jqi (b:=decide (BT.size t≠max (U.jCE j) (U.jEV (U.yM c j)))) (k:=8) d (by omega);have l:=jqi (b:=(U.jGU (U.yM c j)&& !U.jHg c j t)) (k:=16) e (by omega);have m:U.kE (c,j,U.yM c j,()) t=U.jlV (decide (nth (U.jbg (c,j,U.yM c j,()) t) (U.jrR j).toNat<0)) (U.jlV (U.jGU (U.yM c j)&& !U.jav (U.jh2 (c,j,U.yM c j,()) t)) (U.jlV (decide (BT.size t≠max (U.jCE j) (U.jEV (U.yM c j)))) (U.yI (c,j,U.yM c j,()) 0 (U.jh2 (c,j,U.yM c j,()) t)) 8) 16) 32:=rfl;have p:U.jHf c j t=0↔U.yI (c,j,U.yM c j,()) 0 (U.jh2 (c,j,U.yM c j,()) t)=0:=by
  rw[jpv _ _ _ (by omega),jBJ a];exact f.2.1.trans ⟨fun h=>⟨rfl,h⟩,fun h=>h.2⟩
 rw[m,jj7 q (by omega),jj7 i (by omega),jj7 g (by omega)];unfold U.jx1;rw[jdb l (by omega),jdb e (by omega),jdb d (by omega),p,jDc a,decide_eq_false_iff_not,decide_eq_false_iff_not,jGx n o a,decide_eq_false_iff_not]
theorem jAV {d:DyD} (a:U.jcw d) {b:Int} (k:U.kr d b) {t:Int} (e:0<=t) (n:t<2^(U.jh (U.jc d)).length):U.jd1 d b t=U.jaq (U.jc d) (U.yG (U.bk d b)) t:=by
 unfold U.kr at k;have h:U.za (U.jc d) (U.yG (U.bk d b))=true:=jAo a (b:=b.toNat) (by omega);have o:=(jj4 a.1).2;have m:BT.Set' t:=(by unfold BT.Set';omega);have i:U.kl (U.jc d) (U.yG (U.bk d b))=0:=(by unfold U.kl;rw[a.1,h];rfl);have j:U.jot (U.jc d) t=true:=by
  unfold U.jot U.ja;rw[decide_eq_true e,decide_eq_true (by omega)];rfl
 have l:U.vi (U.jc d) (U.yG (U.bk d b)) t=0:=by
  unfold U.vi;rw[if_neg (by rw[i];simp),j,if_pos rfl]
 have c:=jup a.1 h m;unfold U.jd1 U.jaq U.jFU;rw[l,if_pos rfl];refine jId.2 ?_;simp only[jHK,decide_eq_true_iff,true_and];rw[c];constructor
 .rintro⟨f,g⟩;exact⟨by omega,f⟩
 .rintro⟨f,g⟩;exact⟨g,by omega⟩
theorem jGv {d:DyD} {t:Int} (a:BT.Set' t):U.wh d t=U.jk5 (U.jc d) t:=by
 unfold U.wh U.jk5;have:∀n,U.vT (U.jh (U.jc d)) t n=U.wo (U.jc d) t n:=by
  intro n
  induction n with
  |zero=>rfl
  |succ n e=>
   have b:U.vT (U.jh (U.jc d)) t (n+1)=U.vT (U.jh (U.jc d)) t n+qL (t/2^n) 1*U.fe (nth (U.jh (U.jc d)) n):=by
    unfold U.vT;rw[jIe,jH8];rfl
   have c:U.wo (U.jc d) t (n+1)=if U.jR t (n:Int)=true then U.wo (U.jc d) t n+U.fe (nth (U.jh (U.jc d)) n) else U.wo (U.jc d) t n:=by
    unfold U.wo;rw[jIe,jH8];rfl
   rw[b,c,e,BT.bit_num a,ja5 a,jHQ]
   split
   .rw[Int.one_mul]
   .rw[Int.zero_mul,Int.add_zero]
 exact this _
end Go.X
namespace Go.X
theorem jqj (d:DyD) (b:Bool):U.vW d b=U.qP d b:=by
 unfold U.vW U.qP;rw[qz]
theorem jDC {d:DyD} (h:U.wt d=0) {b:Nat} (a:b<(U.ju d).length):0<=nth (U.jiq d).1 b/\nth (U.jiq d).1 b<2^(U.jh (U.jc d)).length:=by
 have c:=jce ((qz d).trans h);have e:=c.set b a;exact⟨e.1,BT.lt_of_has e (fun p f=>((c.bit b a p).1 f).1)⟩
theorem jEr (d:DyD):U.jEs d=U.jG1 d:=by
 unfold U.jEs U.jG1;rw[qz];by_cases h:U.wt d=0
 .rw[if_pos h,if_pos h,jnF h];unfold U.jHp U.jF2;congr 1;refine List.filter_congr fun b a=> ?_
  have a:=jHZ.1 a;have hk:=(qz d).trans h;have c:=jDC h a;show U.jd1 d (b:Int) (U.jI (U.jY (U.yk d)) (b:Int))=U.jaq (U.jc d) (U.yG (nth (U.ju d) b)) (nth (U.jC d) b);rw[jsm hk a,jhO h,jAV (jd5 h) (by unfold U.kr;omega) c.1 c.2];rfl
 .rw[if_neg h,if_neg h]
theorem joH (d:DyD) (t:List Int) (b:Int):∀n,n<=61->BT.Set' (U.ko d t b n)/\∀q,BT.has (U.ko d t b n) q=true↔q<n/\U.jgp d t b q=true
 |0,_=>⟨BT.zero_set,fun q=>by rw[jm8,BT.has_zero];simp⟩
 |n+1,m=>by
  obtain⟨a,g⟩:=joH d t b n (by omega)
  have i:=BT.two_set (k:=n) (by omega)
  rw[jdn]
  split
  .rename_i c
   have e:BT.has (U.ko d t b n) n=false:=by
    cases l:BT.has (U.ko d t b n) n with
    |false=>rfl
    |true=>have:=((g n).1 l).1;omega
   have j:=BT.add_two a (p:=n) (by omega) e;rw[j];refine⟨BT.bor_set a i,fun q=> ?_⟩;rw[BT.has_bor a i,BT.has_two,jIK,decide_eq_true_iff,g];refine⟨fun h=>h.elim (fun h=>⟨by omega,h.2⟩) (fun h=>by subst h;exact⟨by omega,c⟩),fun h=> ?_⟩;by_cases f:q=n
   .exact .inr f.symm
   .exact .inl ⟨by omega,h.2⟩
  .rename_i c;refine⟨a,fun q=> ?_⟩;rw[g];refine⟨fun h=>⟨by omega,h.2⟩,fun h=>⟨?_,h.2⟩⟩;by_cases f:q=n
   .subst f;exact absurd h.2 c
   .omega
theorem jAS {d:DyD} (h:U.wt d=0) {b:Int} (m:U.kr d b) {p:Nat} (A:p<(U.jh (U.jc d)).length):U.jkY (U.yk d) b p=U.jgp d (U.jC d) b p:=by
 have hk:=(qz d).trans h;have s:=jce hk;have z:=jcf hk;have n:=m;unfold U.kr at n;have v:((b.toNat:Nat):Int)=b:=(by omega);have i:=z.row p;have l:=s.set b.toNat (by omega);have g:U.jR (nth (U.jC d) b.toNat) (p:Int)=true↔b∈nth (U.jY (U.yk d)) p:=by
  rw[jhO h,ja5 l,jHQ];refine(s.bit b.toNat (by omega) p).trans ?_;rw[v];exact⟨fun h=>h.2,fun h=>⟨A,h⟩⟩
 have j:(nth (U.jY (U.yk d)) p).any (fun x=>decide (x=b))=true↔b∈nth (U.jY (U.yk d)) p:=by
  rw[jIn];exact⟨fun⟨x,B,e⟩=>(of_decide_eq_true e)▸B,fun m=>⟨b,m,decide_eq_true rfl⟩⟩
 have u:(nth (U.jY (U.yk d)) p).any (fun x=>decide (x=b))=U.jR (nth (U.jC d) b.toNat) (p:Int):=jId.2 (j.trans g.symm);unfold U.jkY U.jgp;rw[u];cases t:U.jR (nth (U.jC d) b.toNat) (p:Int) with
 |true=>rfl
 |false=>
  have k:b∉nth (U.jY (U.yk d)) p:=fun q=>by rw[g.2 q] at t;cases t
  have y:(nth (U.jY (U.yk d)) p++[b]).Nodup:=jIP.2 ⟨i.1,by simp,fun a w c f e=>by
   simp at f;subst f;subst e;exact k w⟩
  have o:∀c∈nth (U.jY (U.yk d)) p++[b],U.kr d c:=fun c f=>by
   rcases jHT.1 f with f|f
   .exact i.2 c f
   .simp at f;subst f;exact m
  have r:U.ji1 d (p:Int):=⟨jH4 _,by omega⟩;have:=jDZ (jd5 h) s (p:=(p:Int)) (b:=b) r y o;rw[jhO h,<-this];rfl
theorem jAR {d:DyD} (h:U.wt d=0) {b:Int} (g:U.kr d b):U.jv (U.yk d) b=U.yx (U.we d (U.jC d) b) (U.jh (U.jc d)).length:=by
 have hk:=(qz d).trans h;have i:=jcf hk;have j:(U.jh (U.jc d)).length<=8:=(jy (jd5 h).1).2.2.1;have c:=joH d (U.jC d) b (U.jh (U.jc d)).length (by omega);unfold U.jv U.kA U.yx;rw[i.len];congr 1;refine List.filter_congr fun p a=> ?_
 have a:=jHZ.1 a;rw[jAS h g a];have e:U.jR (U.we d (U.jC d) b) (p:Int)=BT.has (U.we d (U.jC d) b) p:=ja5 c.1 p;rw[e];refine jId.2 ?_;exact⟨fun f=>(c.2 p).2 ⟨a,f⟩,fun f=>((c.2 p).1 f).2⟩
theorem jE4 (d:DyD) (b:Int):U.jmd d b=U.jme d b:=by
 unfold U.jmd U.jme;rw[jqj];by_cases h:U.qP d (U.jj d b)=0
 .rw[if_pos h,if_pos h];have hk:=jdp h;exact jAR hk.1 (jkH hk.2)
 .rw[if_neg h,if_neg h]
theorem jCY {d:DyD} (h:U.wt d=0) {b:Int} (m:U.kr d b):U.jbB d b=U.we d (U.jC d) b:=by
 have hk:=(qz d).trans h;have r:(U.jh (U.jc d)).length<=8:=(jy (jd5 h).1).2.2.1;have c:=joH d (U.jC d) b (U.jh (U.jc d)).length (by omega);have i:∀q:Nat,U.jR (U.we d (U.jC d) b) (q:Int)=BT.has (U.we d (U.jC d) b) q:=fun q=>ja5 c.1 q
 have l:=fun p (g:p∈U.jv (U.yk d) b)=>jvt (jcf hk) g
 have n:BT.Set' (U.jbB d b):=(yi l _ (jHM _)).1;refine BT.ext n c.1 fun q=> ?_
 have e:BT.has (U.jbB d b) q=(U.jv (U.yk d) b).any (fun p=>decide (p.toNat=q)):=jpZ l q;rw[e,jAR h m];refine jId.2 ?_;rw[jIn];unfold U.yx;refine⟨fun⟨x,o,a⟩=> ?_,fun k=> ?_⟩
 .obtain⟨p,g,rfl⟩:=jIk.1 o;have a:((p:Int)).toNat=q:=of_decide_eq_true a;have a:p=q:=(by omega);subst a;have j:U.jR (U.we d (U.jC d) b) (p:Int)=true:=(jH7.1 g).2;rw[i p] at j;exact j
 .have f:=((c.2 q).1 k).1;refine⟨(q:Int),jIk.2 ⟨q,jH7.2 ⟨jHZ.2 f,?_⟩,rfl⟩,decide_eq_true (by omega)⟩;show U.jR (U.we d (U.jC d) b) (q:Int)=true;rw[i q];exact k
theorem jDn {s all:Int} (a:BT.Set' s) (c:BT.Set' all) (h:qp s all=0):s<=all:=by
 have e:qL s all=s:=by
  refine BT.ext (BT.band_set a c) a fun p=> ?_
  rw[BT.has_band a c];have b:=BT.has_bandn a c p;rw[h,BT.has_zero] at b;cases d:BT.has s p with
  |false=>rfl
  |true=>
   rw[d] at b;cases f:BT.has all p with
   |true=>rfl
   |false=>rw[f] at b;cases b
 obtain⟨n,rfl,i⟩:=BT.nat_of a;obtain⟨m,rfl,g⟩:=BT.nat_of c;rw[BT.band_nat (BT.lt63 i) (BT.lt63 g)] at e;have:n&&&m<=m:=Nat.and_le_right;omega
theorem jEo {d:DyD} (f:U.jcw d) {b:Int} (h:U.kr d b) {all t:Int} (j:0<=t) (k:t<2^(U.jh (U.jc d)).length) {s:Nat} (i:s<2^(U.jh (U.jc d)).length) (x:Int×Int×Bool):U.ji9 d b all t x s=U.ji8 d b all t x s:=by
 have l:=(jj4 f.1).2;have e:(s:Int)<2^(U.jh (U.jc d)).length:=(by rw[BT.two_nat];exact Int.ofNat_lt.2 i);have ss:BT.Set' (s:Int):=(by unfold BT.Set';omega);have st:BT.Set' t:=(by unfold BT.Set';omega);have g:=BT.bor_set st ss;have c:bor t (s:Int)<2^(U.jh (U.jc d)).length:=BT.lt_of_has g fun p a=>by
  rw[BT.has_bor st ss,jIK] at a;rcases a with a|a
  .exact BT.has_lt j k a
  .exact BT.has_lt (by omega) e a
 unfold U.ji9 U.ji8;rw[jAV f h g.1 c,jGv ss];generalize decide (qp (s:Int) all=0)=A;generalize U.jaq (U.jc d) (U.yG (U.bk d b)) (bor t (s:Int))=F;generalize (!x.2.2||decide (U.jk5 (U.jc d) (s:Int)<x.2.1))=G;cases A<;>cases F<;>cases G<;>rfl
theorem jvx {d:DyD} (a:U.jcw d) {b:Int} (c:U.kr d b) {all t:Int} (e:0<=t) (f:t<2^(U.jh (U.jc d)).length):∀n,n<=2^(U.jh (U.jc d)).length->U.zg d b all t n=U.zr d b all t n
 |0,_=>rfl
 |n+1,g=>by
  rw[jna,jhC,jvx a c e f n (by omega),jEo a c e f (by omega)]
theorem jvw {d:DyD} {b all t:Int} (c:BT.Set' all) {n:Nat} (e:all.toNat<n):∀k,n+k<=1000->U.zr d b all t (n+k)=U.zr d b all t n
 |0,_=>rfl
 |k+1,hk=>by
  rw[<-jIR,jhC,jvw c e k (by omega)]
  unfold U.ji8
  have a:¬qp ((n+k:Nat):Int) all=0:=fun h=>by
   have:=jDn (by unfold BT.Set';omega) c h
   omega
  rw[decide_eq_false a,Bool.false_and,Bool.false_and,if_neg (by simp)]
theorem jAZ {d:DyD} (h:U.wt d=0) {b:Int} (g:U.kr d b):U.jA0 d b=U.jq4 d b:=by
 have hk:=(qz d).trans h;have m:=jd5 h;have i:=g;unfold U.kr at i;have r:(U.jh (U.jc d)).length<=8:=(jy m.1).2.2.1;have q:(2:Nat)^(U.jh (U.jc d)).length<=2^8:=jIZ (by decide) r;have s:=joH d (U.jC d) b (U.jh (U.jc d)).length (by omega);have l:=joI d (U.jC d) b (U.jh (U.jc d)).length;have f:=jDC h (b:=b.toNat) (by omega);have n:=jsm hk (b:=b.toNat) (by omega);have o:((b.toNat:Nat):Int)=b:=(by omega);rw[o] at n;have c:0<=U.we d (U.jC d) b/\U.we d (U.jC d) b<2^(U.jh (U.jc d)).length:=l;have e:(U.we d (U.jC d) b).toNat+1<=2^(U.jh (U.jc d)).length:=by
  have p:=c.2;rw[BT.two_nat] at p;omega
 have a:BT.Set' (U.we d (U.jC d) b):=s.1;unfold U.jA0 U.jq4;rw[jCY h g,n,jhO h];rw[jhO h] at e a;rw[jvx m g f.1 f.2 _ e];obtain⟨k,j⟩:∃k,2^(U.jh (U.jc d)).length=((U.we d (U.jiq d).1 b).toNat+1)+k:=⟨2^(U.jh (U.jc d)).length-((U.we d (U.jiq d).1 b).toNat+1),by omega⟩;rw[j];exact(jvw a (by omega) k (by omega)).symm
theorem jGu (d:DyD) (b:Int):U.jhE d b=U.jgt d b/\U.jhD d b=U.jgs d b/\U.jbf d b=U.jbd d b:=by
 have e:U.jbf d b=U.jbd d b:=by
  unfold U.jbf U.jbd;rw[jqj];by_cases h:U.qP d (U.jj d b)=0
  .have hk:=jdp h;rw[if_pos h,if_pos h,jAZ hk.1 (jkH hk.2)]
  .rw[if_neg h,if_neg h]
 have ex:U.jbf d b=0->U.jA0 d b=U.jq4 d b:=fun a=>by
  by_cases h:U.qP d (U.jj d b)=0
  .have hk:=jdp h;exact jAZ hk.1 (jkH hk.2)
  .rw[e] at a;unfold U.jbd at a;rw[if_neg h] at a;exact absurd a h
 unfold U.jhE U.jhD U.jgt U.jgs;rw[<-e];by_cases a:U.jbf d b=0
 .rw[if_pos a,if_pos a,if_pos a,if_pos a,ex a];exact⟨rfl,rfl,rfl⟩
 .rw[if_neg a,if_neg a,if_neg a,if_neg a];exact⟨rfl,rfl,rfl⟩
theorem jm9 (d:DyD) (l:List Int):∀n,∀i,i<n->U.ve (U.bk d (nth l (U.jx d l n)))<U.ve (U.bk d (nth l i))\/(U.ve (U.bk d (nth l (U.jx d l n)))=U.ve (U.bk d (nth l i))/\U.jx d l n<=i)
 |0,i,h=>absurd h (by omega)
 |n+1,i,h=>by
  have a:=jm9 d l n
  rw[jbe]
  split
  .rename_i b
   rcases Nat.lt_succ_iff_lt_or_eq.1 h with h|h
   .have:=a i h;left;omega
   .subst h;right;exact⟨rfl,jHM _⟩
  .rename_i b
   rcases Nat.lt_succ_iff_lt_or_eq.1 h with h|h
   .exact a i h
   .subst h
    by_cases e:U.ve (U.bk d (nth l (U.jx d l i)))=U.ve (U.bk d (nth l i))
    .right
     refine⟨e,?_⟩
     have c:∀m,U.jx d l m<=m:=by
      intro m
      induction m with
      |zero=>exact jHM _
      |succ m f=>rw[jbe];split<;>omega
     exact c i
    .left;omega
theorem juS (d:DyD) (l:List Int) (p:l.Pairwise (·<·)):∀n,n<=l.length->(U.jb d l n).1.Pairwise (fun a b=>U.wQ d b a=false)/\(U.jb d l n).2.Pairwise (·<·)/\∀a∈(U.jb d l n).1,∀b∈(U.jb d l n).2,U.wQ d b a=false
 |0,_=>⟨List.Pairwise.nil,p,fun a c=>by cases c⟩
 |n+1,x=>by
  obtain⟨v,r,s⟩:=juS d l p n (by omega)
  have q:=jfN d l n (by omega)
  have o:=jar d (U.jb d l n).2 _ (jHM _) (by omega)
  have j:=jm9 d (U.jb d l n).2 (U.jb d l n).2.length
  have f:((U.jb d l n).2.take (U.jx d (U.jb d l n).2 (U.jb d l n).2.length)++(U.jb d l n).2.drop (U.jx d (U.jb d l n).2 (U.jb d l n).2.length+1)).Sublist (U.jb d l n).2:=by
   rw[<-List.eraseIdx_eq_take_drop_succ];exact List.eraseIdx_sublist _ _
  have g:∀b∈(U.jb d l n).2,U.wQ d b (nth (U.jb d l n).2 (U.jx d (U.jb d l n).2 (U.jb d l n).2.length))=false:=by
   intro b e;obtain⟨i,hi,rfl⟩:=L.mem_iff.1 e;rw[jaD];have k:=j i hi;have t:U.jx d (U.jb d l n).2 (U.jb d l n).2.length<=i->nth (U.jb d l n).2 (U.jx d (U.jb d l n).2 (U.jb d l n).2.length)<=nth (U.jb d l n).2 i:=fun m=>by
    rcases Nat.lt_or_eq_of_le m with h|h
    .have:=jIM.1 r _ _ o hi h;rw[L.nth_lt o,L.nth_lt hi];omega
    .rw[h];exact jIA _
   intro w;rcases k with k|⟨k,u⟩
   .omega
   .have:=t u;omega
  rw[jc5,jc4];refine⟨List.pairwise_append.2 ⟨v,List.pairwise_singleton _ _,fun a c b e=> ?_⟩,r.sublist f,fun a c b e=> ?_⟩
  .simp at e;subst e;exact s a c _ (L.mem_nth o)
  .have e:=f.subset e;rcases jHT.1 c with c|c
   .exact s a c b e
   .simp at c;subst c;exact g b e
theorem jGa (t:List Int) (p:Int):(U.on t p).Pairwise (·<·):=by
 unfold U.on U.vp;refine jJa.2 ((List.Pairwise.filter _ jI4).imp ?_);intro a b c;omega
theorem jCb {d:DyD} (h:U.wt d=0) {p:Int} (j:U.ji1 d p):U.jg6 d p=U.jG4 d p:=by
 have hk:=(qz d).trans h;have k:=jce hk;have i:=jcf hk;have a:=i.row p.toNat;have b:=jzJ k j a.1 a.2;have f:=jjO d (U.jFQ d p) _ (jHM _);have l:=(jfN d (U.jFQ d p) _ (jHM _)).2;have g:(U.jb d (U.jFQ d p) (U.jFQ d p).length).2=[]:=List.length_eq_zero_iff.1 (by omega);rw[g,jIc] at f;have e:U.jFQ d p=U.on (U.jiq d).1 p:=(by unfold U.jFQ;rw[jhO h]);have c:=(juS d (U.jFQ d p) (by rw[e];exact jGa _ _) _ (jHM _)).1;unfold U.jg6 U.jG4 U.jg;refine(jjK (jrE d _) ?_ c).symm;exact f.trans (by rw[e];exact b.symm)
theorem jF3 (d:DyD) (p:Int):U.jjS d p=U.jdI d p/\U.jjR d p=U.jdH d p:=by
 unfold U.jjS U.jjR U.jdI U.jdH;rw[jqj];by_cases h:U.qP d (U.ji d p)=0
 .have hk:=jdp h;rw[if_pos h,if_pos h,if_pos h,if_pos h,jCb hk.1 (jvo hk.2)];exact⟨rfl,rfl⟩
 .rw[if_neg h,if_neg h,if_neg h,if_neg h];exact⟨rfl,rfl⟩
end Go.X
