/-
  Part 6 of the road: a checked reading of bodies, and what the functions on it do (PC1 PC2 PC3 PC4 C2 PC5 PC6 PC7 PC8 C3 PC9 SL PC10 S1 S2 S3 PC11 C4 PC12 PC13 PC14 S4 S5).
-/
import Derived.Test.YtjmbjgjcdklgdaaGreatDoorK05
namespace Go.X
open U
open Go.Proofs
theorem MG:JO:=by
 rintro⟨n,a,b,⟨⟩⟩;rfl
theorem uA:wm PR 81 JN:=kZ MG Tryz.func81 kcN koN
theorem WG (c:CrD) (j:JbD):(kk (RE j) 0 (U.la c-1)&&kk (KW j) 0 (U.la c-1)&&decide (RE j≠KW j)&&kk (Xx j) 0 99&&kk (Xy j) 0 7&&kk (iH j) 0 3&&kk (jaz j) 1 8)=wV c j:=by
 unfold wV kk;rw[j0];simp only[ji,js,ne_eq];constructor;rintro⟨⟨⟨⟨⟨⟨⟨f,g⟩,h,i⟩,k⟩,l,m⟩,n,o⟩,a,b⟩,d,e⟩;exact⟨f,g,h,i,k,l,m,n,o,a,b,d,e⟩;rintro⟨f,g,h,i,k,l,m,n,o,a,b,d,e⟩;exact⟨⟨⟨⟨⟨⟨⟨f,g⟩,h,i⟩,k⟩,l,m⟩,n,o⟩,a,b⟩,d,e⟩
theorem Qp:MF:=by
 unfold MF Prod.q4;rintro⟨c,j,⟨⟩⟩ h;have h:kR c=true:=h;have d:=w5 h;have a:kK (U.la c-1):=iZ6;refine⟨a,fun _=>a,?_⟩;exact jS (fun b=>(b,())) (WG c j)
theorem MH:wm PR 55 ME:=kZ Qp Tryz.func55 (kcC uA kcN) koN
end Go.X
namespace Go.X
open U
open Go.Proofs
theorem JS (c:CrD) (j:JbD) (t:Int) (n:Nat):x7 c j t (n+1)=Vj c j t (x7 c j t n) n:=by
 unfold x7;rw[zq,jU];rfl
theorem TZ {c:CrD} {j:JbD} {t:Int} {n:Nat} (h:yI t (n:Int)=false):x7 c j t (n+1)=x7 c j t n:=by
 rw[JS];unfold Vj;rw[h,jc (by simp)]
theorem WH (l:Int) (p:PeD):fL l p=(!(decide (((U.lv p).length:Int)≠l)|| !kk (U.fd p) 0 255|| !kk (U.cl p) 0 255||decide (10<((yH p).length:Int))|| !kk (U.fe p) 0 1000)&&((U.lv p).all (fun n=>kk n 0 5)&&(yH p).all (fun n=>kk n 0 99))):=by
 unfold fL;congr 1;rw[j0];simp only[kk,jI,jM,jD,zg,ji,js];omega
theorem Ao (c:CrD):kR c=(!(!kk (U.la c) 2 5||decide (8<((kB c).length:Int))||decide (((vP c).length:Int)≠4))&&((kB c).all (fL (U.la c))&&(vP c).all dV)):=by
 unfold kR;congr 1;rw[j0];simp only[kk,jI,jM,jD,zg,ji,js];omega
theorem tL {c:CrD} {x:Nat} (a:x<(kB c).length) (h:fL (U.la c) (nth (kB c) x)=false):kR c=false:=by
 have:(kB c).all (fL (U.la c))=false:=zV.2 ⟨_,L.kx a,by rw[h];simp⟩;rw[Ao,this];simp
theorem Qq {c:CrD} {x:Nat} (a:x<(vP c).length) (h:dV (nth (vP c) x)=false):kR c=false:=by
 have:(vP c).all dV=false:=zV.2 ⟨_,L.kx a,by rw[h];simp⟩;rw[Ao,this];simp
theorem fE {α:Type} [Inhabited α] {l:List α} {p:α->Bool} {x:Nat} (c:¬x<l.length) (h:∀j:Nat,j<x->p (nth l j)=true):l.all p=true:=by
 rw[jY];intro a b;obtain⟨i,hi,rfl⟩:=L.mem_iff.1 b;exact h i (by omega)
theorem lK {c:CrD} (h:kR c=false):(false,())=(kR c,()):=by rw[h]
theorem MI:JR:=by
 unfold JR jg5 jfO jg4 jfj jeq jfi jg3 jfN jfh jdB Prod.q4;rintro⟨c,⟨⟩⟩ _ _;refine⟨fun h=> ?_,fun h=> ?_⟩;have h:(!kk (U.la c) 2 5||decide (8<((kB c).length:Int))||decide (((vP c).length:Int)≠4))=true:=h;refine lK (c:=c) ?_;rw[Ao,h];rfl;have B:(!kk (U.la c) 2 5||decide (8<((kB c).length:Int))||decide (((vP c).length:Int)≠4))=false:=h;clear h;refine⟨⟨0,⟨⟨rfl,tZ⟩,tZ⟩,jw _,fun j k=>by omega⟩,fun x s r=>⟨fun h=> ?_,fun h=> ?_⟩⟩;have r:(kB c).length<4611686018427387904:=r;have h:(x:Int)<(kB c).length:=jb h;have m:x<(kB c).length:=(by omega);refine⟨by omega,h,fun _ _=>⟨fun g=> ?_,fun g=> ?_⟩⟩;have g:(decide (((U.lv (nth (kB c) x)).length:Int)≠U.la c)|| !kk (U.fd (nth (kB c) x)) 0 255|| !kk (U.cl (nth (kB c) x)) 0 255||decide (10<((yH (nth (kB c) x)).length:Int))|| !kk (U.fe (nth (kB c) x)) 0 1000)=true:=g;refine lK (c:=c) (tL m ?_);rw[WH,g];rfl;have g:(decide (((U.lv (nth (kB c) x)).length:Int)≠U.la c)|| !kk (U.fd (nth (kB c) x)) 0 255|| !kk (U.cl (nth (kB c) x)) 0 255||decide (10<((yH (nth (kB c) x)).length:Int))|| !kk (U.fe (nth (kB c) x)) 0 1000)=false:=g;refine⟨⟨0,⟨⟨rfl,tZ⟩,tZ⟩,jw _,fun j k=>by omega⟩,fun y q d=>⟨fun b=> ?_,fun b=> ?_⟩⟩;have d:(U.lv (nth (kB c) x)).length<4611686018427387904:=d;have b:(y:Int)<(U.lv (nth (kB c) x)).length:=jb b;refine⟨by omega,b,fun a=> ?_,fun a=>⟨iZ6,y+1,⟨⟨by simp,tZ⟩,tZ⟩,⟨by show y+1<=(U.lv (nth (kB c) x)).length;omega,fun j k=> ?_⟩,by show(U.lv (nth (kB c) x)).length-(y+1)<(U.lv (nth (kB c) x)).length-y;omega⟩⟩;have a:(!kk (nth (U.lv (nth (kB c) x)) y) 0 5)=true:=a;have a:kk (nth (U.lv (nth (kB c) x)) y) 0 5=false:=(by simpa using a);refine lK (c:=c) (tL m ?_);have:(U.lv (nth (kB c) x)).all (fun n=>kk n 0 5)=false:=zV.2 ⟨_,L.kx (l:=U.lv (nth (kB c) x)) (i:=y) (by omega),by rw[a];simp⟩;rw[WH,this];simp;have a:(!kk (nth (U.lv (nth (kB c) x)) y) 0 5)=false:=a;by_cases e:j=y;subst e;exact(show kk (nth (U.lv (nth (kB c) x)) j) 0 5=true by simpa using a);exact q.2 j (by omega);have b:¬(y:Int)<(U.lv (nth (kB c) x)).length:=jd b;have u:(U.lv (nth (kB c) x)).all (fun n=>kk n 0 5)=true:=fE (by omega) q.2;refine⟨⟨0,⟨⟨rfl,tZ⟩,tZ⟩,jw _,fun j k=>by omega⟩,fun z t o=>⟨fun a=> ?_,fun a=> ?_⟩⟩;have o:(yH (nth (kB c) x)).length<4611686018427387904:=o;have a:(z:Int)<(yH (nth (kB c) x)).length:=jb a;refine⟨by omega,a,fun f=> ?_,fun f=>⟨iZ6,z+1,⟨⟨by simp,tZ⟩,tZ⟩,⟨by show z+1<=(yH (nth (kB c) x)).length;omega,fun j k=> ?_⟩,by show(yH (nth (kB c) x)).length-(z+1)<(yH (nth (kB c) x)).length-z;omega⟩⟩;have f:(!kk (nth (yH (nth (kB c) x)) z) 0 99)=true:=f;have f:kk (nth (yH (nth (kB c) x)) z) 0 99=false:=(by simpa using f);refine lK (c:=c) (tL m ?_);have:(yH (nth (kB c) x)).all (fun n=>kk n 0 99)=false:=zV.2 ⟨_,L.kx (l:=yH (nth (kB c) x)) (i:=z) (by omega),by rw[f];simp⟩;rw[WH,this];simp;have f:(!kk (nth (yH (nth (kB c) x)) z) 0 99)=false:=f;by_cases e:j=z;subst e;exact(show kk (nth (yH (nth (kB c) x)) j) 0 99=true by simpa using f);exact t.2 j (by omega);have a:¬(z:Int)<(yH (nth (kB c) x)).length:=jd a;have v:(yH (nth (kB c) x)).all (fun n=>kk n 0 99)=true:=fE (by omega) t.2;refine⟨iZ6,x+1,⟨⟨by simp,tZ⟩,tZ⟩,⟨by show x+1<=(kB c).length;omega,fun j k=> ?_⟩,by show(kB c).length-(x+1)<(kB c).length-x;omega⟩;by_cases e:j=x;subst e;show fL (U.la c) (nth (kB c) j)=true;rw[WH,g,u,v];rfl;exact s.2 j (by omega);have h:¬(x:Int)<(kB c).length:=jd h;have A:(kB c).all (fL (U.la c))=true:=fE (by omega) s.2;refine⟨⟨0,⟨⟨rfl,tZ⟩,tZ⟩,jw _,fun j k=>by omega⟩,fun y q d=>⟨fun b=> ?_,fun b=> ?_⟩⟩;have d:(vP c).length<4611686018427387904:=d;have b:(y:Int)<(vP c).length:=jb b;have p:dV (nth (vP c) y)= !(!kk (Vy (nth (vP c) y)) 1 5|| !kk (jay (nth (vP c) y)) 1 8):=by
  unfold dV;rw[Bool.not_or,Bool.not_not,Bool.not_not]
 refine⟨by omega,b,fun _=>by omega,fun _=>b,fun a=> ?_,fun a=>⟨iZ6,y+1,⟨⟨by simp,tZ⟩,tZ⟩,⟨by show y+1<=(vP c).length;omega,fun j k=> ?_⟩,by show(vP c).length-(y+1)<(vP c).length-y;omega⟩⟩;have a:(!kk (Vy (nth (vP c) y)) 1 5|| !kk (jay (nth (vP c) y)) 1 8)=true:=a;exact lK (c:=c) (Qq (x:=y) (by omega) (by rw[p,a];rfl));have a:(!kk (Vy (nth (vP c) y)) 1 5|| !kk (jay (nth (vP c) y)) 1 8)=false:=a;by_cases e:j=y;subst e;show dV (nth (vP c) j)=true;rw[p,a];rfl;exact q.2 j (by omega);have b:¬(y:Int)<(vP c).length:=jd b;have w:(vP c).all dV=true:=fE (by omega) q.2;show(true,())=(kR c,());rw[Ao,B,A,w];rfl
theorem uB:wm PR 54 JP:=vd JQ MI Tryz.func54 (kcC uA kcN) koN
def JT:wd:=⟨[.val .int,.val .int,.val .int],[.bool],false,fun _=>[],fun d=>(kk d.1 d.2.1 d.2.2.1,())⟩
def JU:Prop:=∀(d:Int×Int×Int×Unit),(decide (d.2.1<=d.1)&&decide (d.1<=d.2.2.1),())=(kk d.1 d.2.1 d.2.2.1,())
def Cy:wd:=⟨[.val tDy,.val .int],[.bool],false,fun _=>[],fun d=>(Vi d.1 d.2.1,())⟩
def Cz:Prop:=∀(d:DyD×Int×Unit),d.1.2.2.1.length<4611686018427387904->kK ((d.1.2.2.1.length:Int)-1)/\(kk d.2.1 (0:Int) ((d.1.2.2.1.length:Int)-1),())=(Vi d.1 d.2.1,())
def D3:wd:=⟨[.val tDy,.val .int],[.bool],false,fun _=>[],fun d=>(KK d.1 d.2.1,())⟩
def D4:Prop:=∀(d:DyD×Int×Unit),d.1.1.2.1.length<4611686018427387904->kK ((d.1.1.2.1.length:Int)-1)/\(kk d.2.1 (0:Int) ((d.1.1.2.1.length:Int)-1),())=(KK d.1 d.2.1,())
def MJ:wd:=⟨[.val tDy],[.bool],false,fun _=>[],fun d=>(wL d.1,())⟩
def MK:Ann:=fun r=>match r with
 |4=>some fun σ=>{X:=Nat,sl:=fun i=>[(3,.dat .int (i:Int))],ob:=fun _=>[],inv:=fun i=>i<=(wh (gb tDy σ 1)).length/\∀j:Nat,j<i->bG (wh (gb tDy σ 1)).length (nth (wh (gb tDy σ 1)) j)=true,mu:=fun i=>(wh (gb tDy σ 1)).length-i}
 |9=>some fun σ=>{X:=Nat,sl:=fun i=>[(4,.dat .int (i:Int))],ob:=fun _=>[],inv:=fun i=>i<=(nth (wh (gb tDy σ 1)) (gd .int σ 3).toNat).length/\∀j:Nat,j<i->sn (nth (nth (wh (gb tDy σ 1)) (gd .int σ 3).toNat) j)=true,mu:=fun i=>(nth (wh (gb tDy σ 1)) (gd .int σ 3).toNat).length-i}
 |15=>some fun σ=>{X:=Nat,sl:=fun i=>[(6,.dat .int (i:Int))],ob:=fun _=>[],inv:=fun i=>i<=(kA (gb tDy σ 1)).length/\∀j:Nat,j<i->lS (wh (gb tDy σ 1)).length (nth (kA (gb tDy σ 1)) j)=true,mu:=fun i=>(kA (gb tDy σ 1)).length-i}
 |21=>some fun σ=>{X:=Nat,sl:=fun i=>[(8,.dat .int (i:Int))],ob:=fun _=>[],inv:=fun i=>i<=(qh (gb tDy σ 1)).length/\∀j:Nat,j<i->lT (kA (gb tDy σ 1)).length (kB (kE (gb tDy σ 1))).length (nth (qh (gb tDy σ 1)) j)=true,mu:=fun i=>(qh (gb tDy σ 1)).length-i}
 |_=>none
abbrev jeU (d:DyD×Unit)(x:Nat):=(nth d.1.2.1 (x:Int).toNat)
abbrev jg6 (d:DyD×Unit)(x:Nat)(a:Nat):=(decide ((nth (jeU d x) (a:Int).toNat).1<0)||decide ((nth (jeU d x) (a:Int).toNat).2.1<(nth (jeU d x) (a:Int).toNat).1)||decide ((300:Int)<(nth (jeU d x) (a:Int).toNat).2.1))
abbrev jer (d:DyD×Unit)(x:Nat):=(nth (wh d.1) (x:Int).toNat)
abbrev jdZ (d:DyD×Unit):=(d.1.2.1.length:Int)
abbrev jfk (d:DyD×Unit)(x:Nat):=(nth d.1.q4.2.1 (x:Int).toNat)
abbrev jg7 (d:DyD×Unit)(x:Nat):=(!kk (jfk d x).1 (0:Int) (99:Int)|| !kk (jfk d x).2.1 (0:Int) (9999:Int)|| !kk (jfk d x).2.2.1 (1:Int) (2:Int)|| !Vi d.1 (jfk d x).2.2.2.1|| !KK d.1 (jfk d x).q4.1)
abbrev jeV (d:DyD×Unit):=(d.1.2.2.1.length:Int)
abbrev jgt (x:Nat)(a:Nat):=(((x:Int)+1=(a:Int)/\True)/\True)
abbrev jfl (d:DyD×Unit)(x:Nat):=(nth d.1.2.2.1 (x:Int).toNat)
abbrev jg8 (d:DyD×Unit)(x:Nat):=(!kk (jfl d x).2.1 (0:Int) ((jdZ d)-1)||decide ((jfl d x).2.2.1<0)||decide ((jfl d x).2.2.2.1<=(jfl d x).2.2.1)||decide ((1440:Int)<(jfl d x).2.2.2.1))
abbrev jfm (d:DyD×Unit)(x:Nat):=(↑(jeU d x).length:Int)
abbrev jfP (d:DyD×Unit):=(d.1.q4.2.1.length:Int)
abbrev jg9 (d:DyD×Unit):=(decide (4<(jeV d))|| !kk (jdZ d) (1:Int) (5:Int)|| !kk d.1.2.2.2.1 (0:Int) (300:Int)|| !kk d.1.q4.1 (0:Int) (1440:Int)||decide (30<(jfP d)))
abbrev jgu (x:Nat):=((0=(x:Int)/\True)/\True)
def ML:Prop:=∀(d:DyD×Unit),d.1.2.2.1.length<4611686018427387904->((!decide (4<(jeV d)))=true->d.1.2.1.length<4611686018427387904)->((!(decide (4<(jeV d))|| !kk (jdZ d) (1:Int) (5:Int)|| !kk d.1.2.2.2.1 (0:Int) (300:Int)|| !kk d.1.q4.1 (0:Int) (1440:Int)))=true->d.1.q4.2.1.length<4611686018427387904)->((jg9 d)=true->(false,())=(wL d.1,()))/\((jg9 d)=false->(∃(x:Nat),(jgu x)/\x<=(wh d.1).length/\∀(j:Nat),j<x->bG (wh d.1).length (nth (wh d.1) j)=true)/\∀(x:Nat),(x<=(wh d.1).length/\∀(j:Nat),j<x->bG (wh d.1).length (nth (wh d.1) j)=true)->d.1.2.1.length<4611686018427387904->(decide ((x:Int)<(jdZ d))=true->0<=(x:Int)/\(x:Int)<(jdZ d)/\(decide ((jfm d x)≠(jdZ d))=true->(false,())=(wL d.1,()))/\(decide ((jfm d x)≠(jdZ d))=false->(∃(a:Nat),((0=(a:Int)/\True)/\True)/\a<=(jer d x).length/\∀(j:Nat),j<a->sn (nth (jer d x) j)=true)/\∀(a:Nat),(a<=(jer d x).length/\∀(j:Nat),j<a->sn (nth (jer d x) j)=true)->0<=(x:Int)/\(x:Int)<(jdZ d)/\((jeU d x).length<4611686018427387904->(decide ((a:Int)<(jfm d x))=true->0<=(x:Int)/\(x:Int)<(jdZ d)/\0<=(a:Int)/\(a:Int)<(jfm d x)/\((jg6 d x a)=true->(false,())=(wL d.1,()))/\((jg6 d x a)=false->kK ((a:Int)+1)/\∃(b:Nat),(((a:Int)+1=(b:Int)/\True)/\True)/\(b<=(jer d x).length/\∀(j:Nat),j<b->sn (nth (jer d x) j)=true)/\(jer d x).length-b<(jer d x).length-a))/\(decide ((a:Int)<(jfm d x))=false->kK ((x:Int)+1)/\∃(b:Nat),(jgt x b)/\(b<=(wh d.1).length/\∀(j:Nat),j<b->bG (wh d.1).length (nth (wh d.1) j)=true)/\(wh d.1).length-b<(wh d.1).length-x))))/\(decide ((x:Int)<(jdZ d))=false->(∃(x:Nat),(jgu x)/\x<=(kA d.1).length/\∀(j:Nat),j<x->lS (wh d.1).length (nth (kA d.1) j)=true)/\∀(x:Nat),(x<=(kA d.1).length/\∀(j:Nat),j<x->lS (wh d.1).length (nth (kA d.1) j)=true)->d.1.2.2.1.length<4611686018427387904->(decide ((x:Int)<(jeV d))=true->0<=(x:Int)/\(x:Int)<(jeV d)/\(d.1.2.1.length<4611686018427387904->kK ((jdZ d)-1)/\((jg8 d x)=true->(false,())=(wL d.1,()))/\((jg8 d x)=false->kK ((x:Int)+1)/\∃(b:Nat),(jgt x b)/\(b<=(kA d.1).length/\∀(j:Nat),j<b->lS (wh d.1).length (nth (kA d.1) j)=true)/\(kA d.1).length-b<(kA d.1).length-x)))/\(decide ((x:Int)<(jeV d))=false->(∃(x:Nat),(jgu x)/\x<=(qh d.1).length/\∀(j:Nat),j<x->lT (kA d.1).length (kB (kE d.1)).length (nth (qh d.1) j)=true)/\∀(x:Nat),(x<=(qh d.1).length/\∀(j:Nat),j<x->lT (kA d.1).length (kB (kE d.1)).length (nth (qh d.1) j)=true)->d.1.q4.2.1.length<4611686018427387904->(decide ((x:Int)<(jfP d))=true->0<=(x:Int)/\(x:Int)<(jfP d)/\((jg7 d x)=true->(false,())=(wL d.1,()))/\((jg7 d x)=false->kK ((x:Int)+1)/\∃(b:Nat),(jgt x b)/\(b<=(qh d.1).length/\∀(j:Nat),j<b->lT (kA d.1).length (kB (kE d.1)).length (nth (qh d.1) j)=true)/\(qh d.1).length-b<(qh d.1).length-x))/\(decide ((x:Int)<(jfP d))=false->(true,())=(wL d.1,())))))
def MM:wd:=⟨[.val (.slice tSh)],[.bool],false,fun d=>[d.1.length<=1000000],fun d=>(aD d.1,())⟩
def MN:Ann:=fun r=>match r with
 |2=>some fun σ=>{X:=Nat,sl:=fun i=>[(3,.dat .int (i:Int))],ob:=fun _=>[],inv:=fun i=>i<=(gd (.slice tSh) σ 0).length/\y5 (gd (.slice tSh) σ 0) i=false,mu:=fun i=>(gd (.slice tSh) σ 0).length-i}
 |5=>some fun σ=>{X:=Nat,sl:=fun i=>[(4,.dat .int (i:Int))],ob:=fun _=>[],inv:=fun i=>i<=(gd .int σ 3).toNat/\∀j:Nat,j<i->Di (nth (gd (.slice tSh) σ 0) (gd .int σ 3).toNat) (nth (gd (.slice tSh) σ 0) j)=false,mu:=fun i=>(gd .int σ 3).toNat-i}
 |_=>none
abbrev jeW (d:List ShD×Unit)(x:Nat)(a:Nat):=((nth d.1 (x:Int).toNat).1=(nth d.1 (a:Int).toNat).1)
def MO:Prop:=∀(d:List ShD×Unit),d.1.length<=1000000->(∃(x:Nat),((0=(x:Int)/\True)/\True)/\x<=d.1.length/\y5 d.1 x=false)/\∀(x:Nat),x<=d.1.length/\y5 d.1 x=false->d.1.length<4611686018427387904->(decide ((x:Int)<d.1.length)=true->(∃(a:Nat),((0=(a:Int)/\True)/\True)/\a<=(x:Int).toNat/\∀(j:Nat),j<a->Di (nth d.1 (x:Int).toNat) (nth d.1 j)=false)/\∀(a:Nat),(a<=(x:Int).toNat/\∀(j:Nat),j<a->Di (nth d.1 (x:Int).toNat) (nth d.1 j)=false)->(decide ((a:Int)<(x:Int))=true->0<=(x:Int)/\(x:Int)<d.1.length/\0<=(a:Int)/\(a:Int)<d.1.length/\(decide (jeW d x a)=true->0<=(x:Int))/\(decide (jeW d x a)=true->(x:Int)<d.1.length)/\(decide (jeW d x a)=true->0<=(a:Int))/\(decide (jeW d x a)=true->(a:Int)<d.1.length)/\((decide (jeW d x a)&& !decide (nth d.1 (x:Int).toNat=nth d.1 (a:Int).toNat))=true->(true,())=(aD d.1,()))/\((decide (jeW d x a)&& !decide (nth d.1 (x:Int).toNat=nth d.1 (a:Int).toNat))=false->kK ((a:Int)+1)/\∃(b:Nat),(((a:Int)+1=(b:Int)/\True)/\True)/\(b<=(x:Int).toNat/\∀(j:Nat),j<b->Di (nth d.1 (x:Int).toNat) (nth d.1 j)=false)/\(x:Int).toNat-b<(x:Int).toNat-a))/\(decide ((a:Int)<(x:Int))=false->kK ((x:Int)+1)/\∃(b:Nat),(((x:Int)+1=(b:Int)/\True)/\True)/\(b<=d.1.length/\y5 d.1 b=false)/\d.1.length-b<d.1.length-x))/\(decide ((x:Int)<d.1.length)=false->(false,())=(aD d.1,()))
def MP:wd:=⟨[.val tDy],[.int],false,fun d=>[(kA d.1).length<=1000000],fun d=>(dW d.1,())⟩
def MQ:Ann:=fun r=>match r with
 |4=>some fun σ=>{X:=Nat,sl:=fun i=>[(3,.dat .int (i:Int))],ob:=fun _=>[],inv:=fun i=>i<=(kA (gb tDy σ 1)).length/\∀j:Nat,j<i->wV (kE (gb tDy σ 1)) (yQ (nth (kA (gb tDy σ 1)) j))=true,mu:=fun i=>(kA (gb tDy σ 1)).length-i}
 |_=>none
def MR:Prop:=∀(d:DyD×Unit),(kA d.1).length<=1000000->((!kR d.1.1)=true->((30:Int),())=(dW d.1,()))/\((!kR d.1.1)=false->(∃(x:Nat),((0=(x:Int)/\True)/\True)/\x<=(kA d.1).length/\∀(j:Nat),j<x->wV (kE d.1) (yQ (nth (kA d.1) j))=true)/\∀(x:Nat),(x<=(kA d.1).length/\∀(j:Nat),j<x->wV (kE d.1) (yQ (nth (kA d.1) j))=true)->d.1.2.2.1.length<4611686018427387904->(decide ((x:Int)<d.1.2.2.1.length)=true->0<=(x:Int)/\(x:Int)<d.1.2.2.1.length/\kR d.1.1=true/\((!wV d.1.1 (nth d.1.2.2.1 (x:Int).toNat).1)=true->((31:Int),())=(dW d.1,()))/\((!wV d.1.1 (nth d.1.2.2.1 (x:Int).toNat).1)=false->kK ((x:Int)+1)/\∃(a:Nat),(((x:Int)+1=(a:Int)/\True)/\True)/\(a<=(kA d.1).length/\∀(j:Nat),j<a->wV (kE d.1) (yQ (nth (kA d.1) j))=true)/\(kA d.1).length-a<(kA d.1).length-x))/\(decide ((x:Int)<d.1.2.2.1.length)=false->((!wL d.1)=true->((50:Int),())=(dW d.1,()))/\((!wL d.1)=false->d.1.q4.2.1.length<=1000000/\(aD d.1.q4.2.1=true->((51:Int),())=(dW d.1,()))/\(aD d.1.q4.2.1=false->((0:Int),())=(dW d.1,())))))
theorem MS:JU:=by
 rintro⟨n,a,b,⟨⟩⟩;rfl
theorem lL:wm PR 82 JT:=kZ MS Tryz.func82 kcN koN
theorem D5:Cz:=by
 rintro⟨d,n,⟨⟩⟩ a;have a:(kA d).length<4611686018427387904:=a;exact⟨by show kK (((kA d).length:Int)-1);exact iZ6,rfl⟩
theorem CA:wm PR 83 Cy:=kZ D5 Tryz.func83 (kcC lL kcN) koN
theorem G8:D4:=by
 rintro⟨d,n,⟨⟩⟩ a;have a:(kB (kE d)).length<4611686018427387904:=a;exact⟨by show kK (((kB (kE d)).length:Int)-1);exact iZ6,rfl⟩
theorem D6:wm PR 84 D3:=kZ G8 Tryz.func84 (kcC lL kcN) koN
theorem JV (l:List ShD) (n:Nat):y5 l (n+1)=(y5 l n||Av l n):=by
 unfold y5;rw[zq,List.any_append];simp
theorem G9 {l:List ShD} {i:Nat} (h:∀j:Nat,j<i->Di (nth l i) (nth l j)=false) (hi:i<=l.length):Av l i=false:=by
 unfold Av;rw[zl];intro s a;rw[ze] at a;obtain⟨j,b,rfl⟩:=a;have:=h j (by omega);rw[L.wG (l:=l) (i:=j) (by omega)] at this;simpa using this
theorem Qr {l:List ShD} {i j:Nat} (hi:i<l.length) (a:j<i) (h:Di (nth l i) (nth l j)=true):aD l=true:=by
 unfold aD y5 Av;rw[j9];refine⟨i,jC.2 hi,?_⟩;rw[j9];refine⟨nth l j,?_,h⟩;rw[ze];exact⟨j,by omega,(L.wG (by omega)).symm⟩
theorem Qs:MO:=by
 unfold MO jeW;rintro⟨l,⟨⟩⟩ k;have k:l.length<=1000000:=k;refine⟨⟨0,⟨⟨rfl,tZ⟩,tZ⟩,jw _,rfl⟩,fun x m _=>⟨fun h=> ?_,fun h=> ?_⟩⟩;have h:(x:Int)<l.length:=jb h;obtain⟨_,a⟩:x<=l.length/\y5 l x=false:=m;refine⟨⟨0,⟨⟨rfl,tZ⟩,tZ⟩,jw _,fun j o=>by omega⟩,fun y n=>⟨fun c=> ?_,fun c=> ?_⟩⟩;have c:(y:Int)<(x:Int):=jb c;obtain⟨_,b⟩:y<=x/\∀j:Nat,j<y->Di (nth l x) (nth l j)=false:=n;have f:(y:Int)<l.length:=(by omega);refine⟨by omega,h,by omega,f,fun _=>by omega,fun _=>h,fun _=>by omega,fun _=>f,fun d=> ?_,fun d=>⟨iZ6,y+1,⟨⟨by simp,tZ⟩,tZ⟩,⟨by show y+1<=x;omega,fun j o=> ?_⟩,by show x-(y+1)<x-y;omega⟩⟩;have d:Di (nth l x) (nth l y)=true:=d;have:=Qr (by omega) (by omega) d;show(true,())=(aD l,());rw[this];by_cases e:j=y;subst e;exact d;exact b j (by omega);have c:¬(y:Int)<(x:Int):=jd c;obtain⟨q,b⟩:y<=x/\∀j:Nat,j<y->Di (nth l x) (nth l j)=false:=n;have i:y=x:=(by omega);subst i;refine⟨iZ6,y+1,⟨⟨by simp,tZ⟩,tZ⟩,⟨by show y+1<=l.length;omega,?_⟩,by show l.length-(y+1)<l.length-y;omega⟩;show y5 l (y+1)=false;rw[JV,a,G9 b (by omega)];rfl;have h:¬(x:Int)<l.length:=jd h;obtain⟨p,a⟩:x<=l.length/\y5 l x=false:=m;have g:x=l.length:=(by omega);subst g;show(false,())=(aD l,());unfold aD;rw[a]
theorem MT:wm PR 57 MM:=vd MN Qs Tryz.func57 kcN koN
theorem Qt:MR:=by
 unfold MR Prod.q4;rintro⟨d,⟨⟩⟩ k;have k:(kA d).length<=1000000:=k;refine⟨fun h=> ?_,fun h=> ?_⟩;have h:kR (kE d)=false:=(by simpa using(show(!kR (kE d))=true from h));show((30:Int),())=(dW d,());unfold dW;rw[h];rfl;have g:kR (kE d)=true:=(by simpa using(show(!kR (kE d))=false from h));refine⟨⟨0,⟨⟨rfl,tZ⟩,tZ⟩,jw _,fun j f=>by omega⟩,fun x m _=>⟨fun h=> ?_,fun h=> ?_⟩⟩;have h:(x:Int)<(kA d).length:=jb h;refine⟨by omega,h,g,fun a=> ?_,fun a=>⟨iZ6,x+1,⟨⟨by simp,tZ⟩,tZ⟩,⟨by show x+1<=(kA d).length;omega,fun j f=> ?_⟩,by show(kA d).length-(x+1)<(kA d).length-x;omega⟩⟩;have a:wV (kE d) (yQ (nth (kA d) x))=false:=(by simpa using(show(!wV (kE d) (yQ (nth (kA d) x)))=true from a));have f:KF d=false:=by
  unfold KF;exact zV.2 ⟨_,L.kx (l:=kA d) (i:=x) (by omega),by rw[a];simp⟩
 show((31:Int),())=(dW d,());unfold dW;rw[g,f];rfl;have a:wV (kE d) (yQ (nth (kA d) x))=true:=(by simpa using(show(!wV (kE d) (yQ (nth (kA d) x)))=false from a));by_cases e:j=x;subst e;exact a;exact m.2 j (by omega);have h:¬(x:Int)<(kA d).length:=jd h;have f:KF d=true:=fE (p:=fun b=>wV (kE d) (yQ b)) (by omega) m.2;refine⟨fun a=> ?_,fun a=> ?_⟩;have a:wL d=false:=(by simpa using(show(!wL d)=true from a));show((50:Int),())=(dW d,());unfold dW;rw[g,f,a];rfl;have a:wL d=true:=(by simpa using(show(!wL d)=false from a));have n:(qh d).length<=30:=(ya a).2.2.2.2.1;refine⟨by show(qh d).length<=1000000;omega,fun c=> ?_,fun c=> ?_⟩;have c:aD (qh d)=true:=c;show((51:Int),())=(dW d,());unfold dW;rw[g,f,a,c];rfl;have c:aD (qh d)=false:=c;show((0:Int),())=(dW d,());unfold dW;rw[g,f,a,c];rfl
end Go.X
namespace Go.X
open U
open Go.Proofs
def ja8 (d:DyD):Bool:=decide (4<((kA d).length:Int))|| !kk ((wh d).length:Int) 1 5|| !kk (Rn d) 0 300|| !kk (jah d) 0 1440||decide (30<((qh d).length:Int))
def spH (s:SpD):Bool:=decide (U.lo s<0)||decide (U.hi s<U.lo s)||decide (300<U.hi s)
def bkH (n:Nat) (b:BkD):Bool:= !kk (jag b) 0 ((n:Int)-1)||decide (w8 b<0)||decide (fK b<=w8 b)||decide (1440<fK b)
def shH (d:DyD) (s:ShD):Bool:= !kk (yR s) 0 99|| !kk (H4 s) 0 9999|| !kk (Xz s) 1 2|| !Vi d (KE s)|| !KK d (nE s)
theorem T3 (d:DyD):wL d=(!ja8 d&&((wh d).all (bG (wh d).length)&&((kA d).all (lS (wh d).length)&&(qh d).all (lT (kA d).length (kB (kE d)).length)))):=by
 unfold wL ja8;congr 1;rw[j0];simp only[kk,jI,jM,jD,zg,ji,js];omega
theorem X8 (s:SpD):sn s= !spH s:=by
 unfold sn spH;rw[j0];simp only[jI,jM,jD,js];omega
theorem X9 (n:Nat) (b:BkD):lS n b= !bkH n b:=by
 unfold lS bkH;rw[j0];simp only[kk,jI,jM,jD,zg,ji,js];omega
theorem Ya (d:DyD) (s:ShD):lT (kA d).length (kB (kE d)).length s= !shH d s:=by
 unfold lT shH Vi KK;rw[j0];simp only[kk,jI,jM,zg,ji,js];omega
theorem JW {d:DyD} (h:ja8 d=true\/(wh d).all (bG (wh d).length)=false\/(kA d).all (lS (wh d).length)=false\/(qh d).all (lT (kA d).length (kB (kE d)).length)=false):(false,())=(wL d,()):=by
 have:wL d=false:=by
  rw[T3];rcases h with h|h|h|h<;>rw[h]<;>simp
 rw[this]
theorem JX {α:Type} [Inhabited α] {l:List α} {p:α->Bool} {x:Nat} (a:x<l.length) (h:p (nth l x)=false):l.all p=false:=zV.2 ⟨_,L.kx a,by rw[h];simp⟩
theorem Qu:ML:=by
 unfold ML jgu jg9 jfP jfm jg8 jfl jgt jeV jg7 jfk jdZ jer jg6 jeU Prod.q4;rintro⟨d,⟨⟩⟩ _ _ _;refine⟨fun h=>JW (d:=d) (.inl h),fun k=> ?_⟩;have k:ja8 d=false:=k;have l:=k;unfold ja8 at l;simp only[kk,jM,jD,zg,ji,js] at l;refine⟨⟨0,⟨⟨rfl,tZ⟩,tZ⟩,jw _,fun j g=>by omega⟩,fun x c _=>⟨fun h=> ?_,fun h=> ?_⟩⟩;have h:(x:Int)<(wh d).length:=jb h;have b:x<(wh d).length:=(by omega);refine⟨by omega,h,fun a=> ?_,fun a=>⟨⟨0,⟨⟨rfl,tZ⟩,tZ⟩,jw _,fun j g=>by omega⟩,fun y n=>⟨by omega,h,fun m=>⟨fun i=> ?_,fun i=> ?_⟩⟩⟩⟩;have a:¬((nth (wh d) x).length:Int)=(wh d).length:=jb a;refine JW (d:=d) (.inr (.inl (JX b ?_)));unfold bG;rw[zi (by omega)];rfl;have m:(nth (wh d) x).length<4611686018427387904:=m;have i:(y:Int)<(nth (wh d) x).length:=jb i;refine⟨by omega,h,by omega,i,fun f=> ?_,fun f=>⟨iZ6,y+1,⟨⟨by simp,tZ⟩,tZ⟩,⟨by show y+1<=(nth (wh d) x).length;omega,fun j g=> ?_⟩,by show(nth (wh d) x).length-(y+1)<(nth (wh d) x).length-y;omega⟩⟩;have f:spH (nth (nth (wh d) x) y)=true:=f;refine JW (d:=d) (.inr (.inl (JX b ?_)));have:(nth (wh d) x).all sn=false:=JX (x:=y) (by omega) (by rw[X8,f];rfl);unfold bG;rw[this,Bool.and_false];have f:spH (nth (nth (wh d) x) y)=false:=f;by_cases e:j=y;subst e;show sn (nth (nth (wh d) x) j)=true;rw[X8,f];rfl;exact n.2 j (by omega);have i:¬(y:Int)<(nth (wh d) x).length:=jd i;have a:((nth (wh d) x).length:Int)=(wh d).length:=jN.1 (jd a);have o:(nth (wh d) x).all sn=true:=fE (by omega) n.2;refine⟨iZ6,x+1,⟨⟨by simp,tZ⟩,tZ⟩,⟨by show x+1<=(wh d).length;omega,fun j g=> ?_⟩,by show(wh d).length-(x+1)<(wh d).length-x;omega⟩;by_cases e:j=x;subst e;show bG (wh d).length (nth (wh d) j)=true;unfold bG;rw[o,jK (by omega)];rfl;exact c.2 j (by omega);have h:¬(x:Int)<(wh d).length:=jd h;have r:(wh d).all (bG (wh d).length)=true:=fE (by omega) c.2;clear c h;refine⟨⟨0,⟨⟨rfl,tZ⟩,tZ⟩,jw _,fun j g=>by omega⟩,fun x c _=>⟨fun h=> ?_,fun h=> ?_⟩⟩;have h:(x:Int)<(kA d).length:=jb h;have b:x<(kA d).length:=(by omega);refine⟨by omega,h,fun _=>⟨by show kK (((wh d).length:Int)-1);exact iZ6,fun a=> ?_,fun a=>⟨iZ6,x+1,⟨⟨by simp,tZ⟩,tZ⟩,⟨by show x+1<=(kA d).length;omega,fun j g=> ?_⟩,by show(kA d).length-(x+1)<(kA d).length-x;omega⟩⟩⟩;have a:bkH (wh d).length (nth (kA d) x)=true:=a;exact JW (d:=d) (.inr (.inr (.inl (JX b (by rw[X9,a];rfl)))));have a:bkH (wh d).length (nth (kA d) x)=false:=a;by_cases e:j=x;subst e;show lS (wh d).length (nth (kA d) j)=true;rw[X9,a];rfl;exact c.2 j (by omega);have h:¬(x:Int)<(kA d).length:=jd h;have p:(kA d).all (lS (wh d).length)=true:=fE (by omega) c.2;clear c h;refine⟨⟨0,⟨⟨rfl,tZ⟩,tZ⟩,jw _,fun j g=>by omega⟩,fun x c _=>⟨fun h=> ?_,fun h=> ?_⟩⟩;have h:(x:Int)<(qh d).length:=jb h;have b:x<(qh d).length:=(by omega);refine⟨by omega,h,fun a=> ?_,fun a=>⟨iZ6,x+1,⟨⟨by simp,tZ⟩,tZ⟩,⟨by show x+1<=(qh d).length;omega,fun j g=> ?_⟩,by show(qh d).length-(x+1)<(qh d).length-x;omega⟩⟩;have a:shH d (nth (qh d) x)=true:=a;exact JW (d:=d) (.inr (.inr (.inr (JX b (by rw[Ya,a];rfl)))));have a:shH d (nth (qh d) x)=false:=a;by_cases e:j=x;subst e;show lT (kA d).length (kB (kE d)).length (nth (qh d) j)=true;rw[Ya,a];rfl;exact c.2 j (by omega);have h:¬(x:Int)<(qh d).length:=jd h;have q:(qh d).all (lT (kA d).length (kB (kE d)).length)=true:=fE (by omega) c.2;show(true,())=(wL d,());rw[T3,k,r,p,q];rfl
theorem MU:wm PR 56 MJ:=vd MK Qu Tryz.func56 (kcC lL (kcC CA (kcC D6 kcN))) koN
theorem CB:wm PR 31 MP:=vd MQ Qt Tryz.func31 (kcC uB (kcC MH (kcC MU (kcC MT kcN)))) koN
namespace U
def Vk (l:List ShD) (i n:Nat):Bool:=decide (Xz (nth l i)=1)&& !((l.take n).any (fun t=>decide (KE t=KE (nth l i))&&decide (nE t=nE (nth l i))&&yO t (nth l i)))
def jbH (l:List ShD) (n:Nat):List ShD:=((List.range n).filter (fun i=>Vk l i l.length)).map (nth l)
def nF (l:List ShD) (n:Nat):Nat:=(List.range n).foldl (fun f i=>if yO (nth l f) (nth l i)=true then i else f) 0
def yJ (l:List ShD):Nat->List ShD×List ShD
 |0=>([],l)
 |n+1=>((yJ l n).1++[nth (yJ l n).2 (nF (yJ l n).2 (yJ l n).2.length)],(yJ l n).2.take (nF (yJ l n).2 (yJ l n).2.length)++(yJ l n).2.drop (nF (yJ l n).2 (yJ l n).2.length+1))
def EA (d:DyD):List ShD:=jbH (Ew (qh d)) (Ew (qh d)).length
def jaE (d:DyD):List ShD:=(yJ (EA d) (EA d).length).1
def jbI (d:DyD) (n:Nat):List Int×List Int:=((jaE d).take n).foldl (FQ d) (List.replicate (kA d).length 0,[])
def Vl (d:DyD):List Int×List Int:=jbI d (jaE d).length
def O4 (d:DyD):List Int:=if dW d=0 then(Vl d).1 else[]
end U
end Go.X
namespace Go.X
open U
theorem Fu (l:List ShD) (n:Nat):nF l (n+1)=if yO (nth l (nF l n)) (nth l n)=true then n else nF l n:=by
 unfold nF;rw[zq,jU];rfl
theorem Ap (l:List ShD):∀n,n<=l.length->0<l.length->nF l n<l.length
 |0,_,h=>h
 |n+1,a,h=>by
  have b:=Ap l n (by omega) h
  rw[Fu]
  split<;>omega
theorem Aq (l:List ShD):∀n,n<=l.length->(yJ l n).1.length=n/\(yJ l n).2.length=l.length-n
 |0,_=>⟨rfl,rfl⟩
 |n+1,d=>by
  obtain⟨a,b⟩:=Aq l n (by omega)
  have c:=Ap (yJ l n).2 _ (jk _) (by omega)
  refine⟨?_,?_⟩
  show((yJ l n).1++[_]).length=_
  rw[jJ,a];rfl
  show((yJ l n).2.take _++(yJ l n).2.drop _).length=_
  rw[jJ,j6,zY]
  omega
theorem WI {α:Type} [Inhabited α] {l:List α} {m:Nat} (h:m<l.length):(nth l m::(l.take m++l.drop (m+1))).Perm l:=by
 have e:l=l.take m++nth l m::l.drop (m+1):=by
  conv=>lhs;rw[<-zZ m l]
  rw[z8 h,L.wG h]
 conv=>rhs;rw[e]
 exact List.perm_middle.symm
theorem JY (l:List ShD):∀n,n<=l.length->((yJ l n).1++(yJ l n).2).Perm l
 |0,_=>List.Perm.refl _
 |n+1,d=>by
  have b:=JY l n (by omega)
  have c:=Aq l n (by omega)
  have a:=Ap (yJ l n).2 _ (jk _) (by omega)
  refine List.Perm.trans ?_ b
  show((yJ l n).1++[nth (yJ l n).2 (nF (yJ l n).2 (yJ l n).2.length)]++_).Perm _
  rw[jL]
  exact List.Perm.append_left _ (WI a)
theorem WJ {l:List ShD} {s:ShD} (h:s∈Ew l):s∈l:=by
 unfold Ew Vf at h;obtain⟨m,_,h⟩:=List.mem_flatMap.1 h;unfold XA at h;obtain⟨i,hi,rfl⟩:=jT.1 h;exact L.kx (jC.1 (jQ.1 hi).1)
open Go.Proofs
theorem Yb {d:DyD} (h:dW d=0):KY d:=(yn ((ct d).trans h)).1
attribute [local irreducible] jaE jbI f7 U.on
end Go.X
namespace Go.X
open U
theorem mn (c:CrD) (j:JbD) (i:Nat):(vg (c,j,dX c j,()) (nth (kB c) i)=0)↔y6 c j (i:Int)=true:=by
 show Ro (KG (nth (kB c) i) (Xx j)) (!yI (U.fd (nth (kB c) i)) (Xy j)) (!yI (U.cl (nth (kB c) i)) (iH j))=0↔
  (!(KG (nth (kB c) ((i:Int)).toNat) (Xx j))&&yI (U.fd (nth (kB c) ((i:Int)).toNat)) (Xy j)&&yI (U.cl (nth (kB c) ((i:Int)).toNat)) (iH j))=true
 rw[ju];generalize KG (nth (kB c) i) (Xx j)=x;generalize yI (U.fd (nth (kB c) i)) (Xy j)=y;generalize yI (U.cl (nth (kB c) i)) (iH j)=z;cases x<;>cases y<;>cases z<;>decide
theorem ZB {c:CrD} {j:JbD} (b:kR c=true) (d:wV c j=true) (p:Nat):(p:Int)∈cx c j↔p<(kB c).length/\y6 c j (p:Int)=true:=by
 have a:qv c j=0:=(by unfold qv;rw[b,d];rfl);unfold cx bJ;rw[jg a,jT];refine⟨fun⟨i,hi,e⟩=> ?_,fun h=>⟨p,?_,rfl⟩⟩;have e:i=p:=(by omega);subst e;have:=jQ.1 hi;exact⟨jC.1 this.1,(mn c j i).1 (jb this.2)⟩;exact jQ.2 ⟨jC.2 h.1,jK ((mn c j p).2 h.2)⟩
theorem T4 {l:List Int} (h:∀p∈l,0<=p/\p<8):∀n,n<=l.length->∀q,BT.has (ic l n) q=(l.take n).any (fun p=>decide (p.toNat=q))
 |0,_,q=>BT.sB q
 |n+1,c,q=>by
  have b:=T4 h n (by omega) q
  have a:=oY h n (by omega)
  have d:=h _ (L.kx (l:=l) (i:=n) (by omega))
  rw[tK (by omega),Cu,BT.has_bor a.1 (BT.mC (by omega)),b,BT.Ax,L.wb (by omega),List.any_append]
  simp
theorem T6 {l:List Int} (h:∀p∈l,0<=p/\p<8) (q:Nat):BT.has (O2 l) q=l.any (fun p=>decide (p.toNat=q)):=by
 have:=T4 h l.length (jk _) q;rw[zt] at this;exact this
theorem WK {d:DyD} {b:Nat} (a:b<(kA d).length):nth (vj d (kA d).length) b=O2 (cx (kE d) (yQ (nth (kA d) b))):=by
 unfold vj;rw[zt,L.nth_map a]
theorem Yc {d:DyD} (a:KY d) {b:Nat} (c:b<(kA d).length):wV (kE d) (yQ (nth (kA d) b))=true:=
 jY.1 a.2.1 _ (L.kx c)
theorem ZC {d:DyD} (g:KY d) {b p:Int} (m:ax d b) (n:RG d p):decide (nL (nth (vj d (kA d).length) b.toNat/2^p.toNat) 1=0)= !y6 (kE d) (yQ (U.bk d b)) p:=by
 unfold ax at m;unfold RG at n;have a:b.toNat<(kA d).length:=(by omega);have j:=fun q (c:q∈cx (kE d) (yQ (nth (kA d) b.toNat)))=>TV g.1 c
 have o:BT.qV (O2 (cx (kE d) (yQ (nth (kA d) b.toNat)))):=(oY j _ (jk _)).1;have i:U.bk d b=nth (kA d) b.toNat:=rfl;rw[WK a,BT.bit_num o,i];have k:=T6 j p.toNat;have f:=ZB g.1 (Yc g a) p.toNat;have ep:((p.toNat:Nat):Int)=p:=(by omega);rw[ep] at f;have l:BT.has (O2 (cx (kE d) (yQ (nth (kA d) b.toNat)))) p.toNat=y6 (kE d) (yQ (nth (kA d) b.toNat)) p:=by
  rw[k];cases h:y6 (kE d) (yQ (nth (kA d) b.toNat)) p with
  |true=>exact j9.2 ⟨p,f.2 ⟨by omega,h⟩,by simp⟩
  |false=>
   refine zl.2 fun q c e=> ?_
   have e:q.toNat=p.toNat:=jb e;have:=j q c;have e:q=p:=(by omega);rw[e] at c;rw[(f.1 c).2] at h;cases h
 rw[l];cases y6 (kE d) (yQ (nth (kA d) b.toNat)) p<;>rfl
theorem JZ {α:Type} [Inhabited α] {R:α->α->Prop} {l:List α}:(∀i,i<l.length->∀b∈l.take i,R b (nth l i))↔l.Pairwise R:=by
 rw[zF];refine⟨fun h i j hi a d=> ?_,fun h i hi b c=> ?_⟩;have:=h j a l[i] (ze.2 ⟨i,by omega,rfl⟩);rw[L.wG a] at this;exact this;obtain⟨k,hk,rfl⟩:=ze.1 c;rw[L.wG hi];exact h k i (by omega) hi (by omega)
theorem T7 {α:Type} [Inhabited α] {R:α->α->Prop} {l:List α}:(∀i,i<l.length->∀b∈l.drop (i+1),R (nth l i) b)↔l.Pairwise R:=by
 rw[zF];refine⟨fun h i j hi d c=> ?_,fun h i hi b a=> ?_⟩;have:=h i hi l[j] (List.mem_drop_iff_getElem.2 ⟨j-(i+1),by omega,by congr 1;omega⟩);rw[L.wG hi] at this;exact this;obtain⟨k,hk,rfl⟩:=List.mem_drop_iff_getElem.1 a;rw[L.wG hi];exact h i (i+1+k) hi (by omega) (by omega)
theorem lM (d:DyD) (a b:Int):cw d a b=true↔(w8 (U.bk d a)<w8 (U.bk d b)\/(w8 (U.bk d a)=w8 (U.bk d b)/\a<b)):=decide_eq_true_iff
theorem lN (d:DyD) (a b:Int):cw d a b=false↔¬(w8 (U.bk d a)<w8 (U.bk d b)\/(w8 (U.bk d a)=w8 (U.bk d b)/\a<b)):=jD
theorem T8 (d:DyD) (l:List Int):qR (cw d) l where
 irrefl x _:=(lN d x x).2 (by omega)
 trans x y z _ _ _ a b:=by
  have a:=(lM d x y).1 a;have b:=(lM d y z).1 b;exact(lM d x z).2 (by omega)
 total x y _ _ a b:=by
  have a:=(lN d x y).1 a;have b:=(lN d y x).1 b;omega
theorem CC {d:DyD} {a b:Int} (h:a≠b) (c:cw d b a=false):cw d a b=true:=by
 have c:=(lN d b a).1 c;exact(lM d a b).2 (by omega)
theorem Qv {d:DyD} {a b:Int} (c:cw d a b=true):cw d b a=false:=by
 have c:=(lM d a b).1 c;exact(lN d b a).2 (by omega)
theorem rU {d:DyD} {a b:Int} (h:cw d a b=true):(lU d b a=decide (0<=bH d a b))/\(lU d a b=decide (0<=bH d a b)):=by
 unfold lU;rw[jg h,Qv h,jc (by simp)];exact⟨rfl,rfl⟩
theorem WL {d:DyD} {a b:Int} (h:a≠b):lU d a b=lU d b a:=by
 cases c:cw d b a with
 |false=>have:=rU (CC h c);rw[this.1,this.2]
 |true=>have:=rU c;rw[this.1,this.2]
def TgR (d:DyD) (a b:Int):Prop:=a≠b->lU d b a=true
theorem T9 {d:DyD} {l:List Int} (f:l.Nodup):jbD d l=true↔l.Pairwise (TgR d):=by
 rw[<-JZ];unfold jbD;rw[jY];have e:∀i,i<l.length->∀b∈l.take i,b≠nth l i:=(JZ (R:=fun a b=>a≠b)).2 f;refine⟨fun h i hi b c _=> ?_,fun h i hi=>jY.2 fun b c=> ?_⟩;exact jY.1 (h i (jC.2 hi)) b c;exact h i (jC.1 hi) b c (e i (jC.1 hi) b c)
theorem TgR.symm {d:DyD} {a b:Int} (h:TgR d a b):TgR d b a:=fun e=>(WL (Ne.symm e)).trans (h (Ne.symm e))
theorem Ua {d:DyD} {l l':List Int} (h:l.Perm l'):NA d l=NA d l':=by
 unfold NA;exact List.Perm.foldl_eq' (h.map _) (fun x _ y _ z=>by omega) 0
theorem Ha (d:DyD) (p:Int) {l:List Int} (a:l.Nodup):f7 d p l=true↔(∀b∈l,y6 (kE d) (yQ (U.bk d b)) p=true)/\l.Pairwise (TgR d)/\NA d l<=jah d:=by
 unfold f7;rw[ji,ji,jY,T9 a,decide_eq_true_iff]
theorem Fv (d:DyD) (p:Int) {l l':List Int} (h:l.Perm l') (g:l.Nodup):f7 d p l=f7 d p l':=by
 have f:=h.nodup_iff.1 g;refine j0.2 ?_;rw[Ha d p g,Ha d p f,Ua h,h.pairwise_iff (fun h=>TgR.symm h)];exact⟨fun⟨a,c⟩=>⟨fun b e=>a b (h.mem_iff.2 e),c⟩,fun⟨a,c⟩=>⟨fun b e=>a b (h.mem_iff.1 e),c⟩⟩
theorem WM (d:DyD) (may:List Int) (p:Int) (s:List Int):jak d may p s=true↔(∀b∈s,decide (nL (nth may b.toNat/2^p.toNat) 1=0)=false)/\s.Pairwise (fun a b=>0<=bH d a b)/\NA d s<=jah d:=by
 rw[<-T7];unfold jak;rw[ji,decide_eq_true_iff,jY,<-and_assoc];refine and_congr_left fun _=> ?_
 have e:∀i,HU d may p s i=true↔decide (nL (nth may (nth s i).toNat/2^p.toNat) 1=0)=false/\∀b∈s.drop (i+1),0<=bH d (nth s i) b:=by
  intro i;unfold HU;rw[jI,jM,zl];refine and_congr_right fun _=>⟨fun h b c=> ?_,fun h b c=> ?_⟩
  have:=h b c;simp at this;omega;have:=h b c;simp;omega
 refine⟨fun h=>⟨fun b c=> ?_,fun i hi=>((e i).1 (h i (jC.2 hi))).2⟩,fun h i hi=>(e i).2 ⟨h.1 _ (L.kx (jC.1 hi)),h.2 i (jC.1 hi)⟩⟩;obtain⟨i,hi,rfl⟩:=L.mem_iff.1 c;exact((e i).1 (h i (jC.2 hi))).1
theorem ZD {d:DyD} {may:List Int} {p:Int} {l:List Int} (m:l.Nodup) (j:∀b∈l,decide (nL (nth may b.toNat/2^p.toNat) 1=0)= !y6 (kE d) (yQ (U.bk d b)) p):NC d may p l=f7 d p l:=by
 have f:(kF d l).Perm l:=wj l;have c:(kF d l).Nodup:=f.nodup_iff.2 m;have k:(kF d l).Pairwise (fun a b=>cw d b a=false):=aT (T8 d l);rw[<-Fv d p f c];unfold NC;refine j0.2 ?_;rw[WM,Ha d p c];have i:=List.Pairwise.and k c;refine and_congr ⟨fun h b e=> ?_,fun h b e=> ?_⟩ (and_congr_left fun _=>⟨fun h=> ?_,fun h=> ?_⟩);have g:=h b e;rw[j b (f.mem_iff.1 e)] at g;simpa using g;rw[j b (f.mem_iff.1 e),h b e];rfl;refine(List.Pairwise.and i h).imp fun{a b} x _=> ?_
 rw[(rU (CC x.1.2 x.1.1)).1];exact jK x.2;refine(List.Pairwise.and i h).imp fun{a b} x=> ?_
 have:=x.2 x.1.2;rw[(rU (CC x.1.2 x.1.1)).1] at this;exact jb this
theorem lO (a b:ShD):yO a b=true↔(H4 b<H4 a\/(H4 a=H4 b/\yR b<yR a)):=decide_eq_true_iff
theorem rV (a b:ShD):yO a b=false↔¬(H4 b<H4 a\/(H4 a=H4 b/\yR b<yR a)):=jD
theorem cu (a:ShD):yO a a=false:=(rV a a).2 (by omega)
theorem Fw {a b:ShD} (h:yO a b=true):yO b a=false:=by
 have h:=(lO a b).1 h;exact(rV b a).2 (by omega)
theorem CD {a b c:ShD} (d:yO a b=true) (e:yO b c=true):yO a c=true:=by
 have d:=(lO a b).1 d;have e:=(lO b c).1 e;exact(lO a c).2 (by omega)
theorem WN (a b:ShD):kI a b<0↔yO b a=true:=by
 rw[lO];unfold kI;rw[wx,qE]
 split
 rename_i h;have c:¬H4 a=H4 b:=fun e=>h (gO.2 e)
 rw[Tz];omega;rename_i h;have d:H4 a=H4 b:=gO.1 (jN.1 h);rw[Tz];omega
theorem ZE {l:List ShD} (hi:∀a∈l,∀b∈l,yR a=yR b->a=b):qR jaj l where
 irrefl x _:=cu x
 trans x y z _ _ _ c d:=CD d c
 total x y hx hy c d:=by
  have c:=(rV y x).1 c;have d:=(rV x y).1 d;exact hi x hx y hy (by omega)
theorem Ub {l:List ShD}:∀i,i<l.length->∃j,j<l.length/\nth l j=nth l i/\HS l j=true:=by
 intro i
 induction i using Nat.strongRecOn with
 |_ i d=>
  intro hi;cases h:HS l i with
  |true=>exact⟨i,hi,rfl,h⟩
  |false=>
   simp only[HS,zg] at h;obtain⟨x,c,e⟩:=j9.1 h;obtain⟨k,hk,rfl⟩:=ze.1 c;have e:l[k]=nth l i:=jb e;obtain⟨j,b,a,e2⟩:=d k (by omega) (by omega);exact⟨j,b,by rw[a,L.wG (by omega)];exact e,e2⟩
theorem ZF {l:List ShD} {s:ShD} (h:s∈l) (c:0<=yR s) (d:yR s<=99):s∈Ew l:=by
 obtain⟨i,hi,rfl⟩:=L.mem_iff.1 h;obtain⟨j,b,a,e2⟩:=Ub i hi;unfold Ew Vf;refine List.mem_flatMap.2 ⟨(yR (nth l i)).toNat,jC.2 (by omega),?_⟩;unfold XA;refine jT.2 ⟨j,jQ.2 ⟨jC.2 b,?_⟩,a⟩;show(decide (yR (nth l j)=(((yR (nth l i)).toNat:Nat):Int))&&HS l j)=true;rw[e2,a,Bool.and_true];exact jK (by omega)
theorem OH {l:List ShD} {n m:Nat} {s:ShD} (h:s∈XA l n m):yR s=(m:Int):=by
 unfold XA at h;obtain⟨i,hi,rfl⟩:=jT.1 h;have a:=(jQ.1 hi).2;rw[ji] at a;exact jb a.1
theorem Qw (l:List ShD):(Ew l).Nodup:=by
 unfold Ew Vf;refine List.pairwise_flatMap.2 ⟨fun m _=> ?_,?_⟩;unfold XA;refine zU.2 (List.Pairwise.imp_of_mem ?_ (List.Pairwise.filter _ List.pairwise_lt_range));intro i j hi c k e;have c:=jQ.1 c;have d:=c.2;rw[ji] at d;have f:=d.2;have n:=jC.1 c.1;have o:((l.take j).any (fun x=>decide (x=nth l j)))=true:=
  j9.2 ⟨nth l i,ze.2 ⟨i,by omega,(L.wG (by omega)).symm⟩,jK e⟩
 unfold HS at f;rw[o] at f;cases f;refine List.Pairwise.imp ?_ List.pairwise_lt_range;intro a b h x p y q e;have g:=OH p;have d:=OH q;rw[e] at g;omega
theorem OI (t s:ShD):dZ t=dZ s↔KE t=KE s/\nE t=nE s:=by
 unfold dZ;refine⟨fun h=>⟨jS (·.1) h,jS (·.2.1) h⟩,fun h=>by rw[h.1,h.2]⟩
theorem MV (l:List ShD) (s:ShD):Aw l s=true↔Xz s=1/\∀t∈l,dZ t=dZ s->yO t s=false:=by
 unfold Aw;rw[ji,decide_eq_true_iff,jI,zl];refine and_congr_right fun _=>⟨fun h t a e=> ?_,fun h t a e=> ?_⟩
 have e:=(OI t s).1 e;have:=h t a;rw[e.1,e.2,jK rfl,jK rfl] at this;simpa using this;rw[ji,ji,decide_eq_true_iff,decide_eq_true_iff] at e;rw[h t a ((OI t s).2 e.1)] at e;exact absurd e.2 (by simp)
theorem Uc (d:DyD):EA d=(Ew (qh d)).filter (Aw (Ew (qh d))):=by
 unfold EA;generalize Ew (qh d)=l;unfold jbH;have e:(fun i=>Vk l i l.length)=(Aw l)∘(nth l):=by
  funext i;unfold Vk;rw[zt];rfl
 rw[e];have:=List.filter_map (f:=nth l) (p:=Aw l) (l:=List.range l.length);rw[<-this,L.range_map_nth]
theorem J0 (l:List ShD):∀n,∀i,i<n->yO (nth l (nF l n)) (nth l i)=false
 |0,i,h=>absurd h (by omega)
 |n+1,i,h=>by
  have b:=J0 l n
  rw[Fu]
  split
  rename_i a
  rcases Nat.lt_succ_iff_lt_or_eq.1 h with h|h
  cases c:yO (nth l n) (nth l i) with
  |false=>rfl
  |true=>have:=CD a c;rw[b i h] at this;cases this
  subst h;exact cu _
  rename_i a
  rcases Nat.lt_succ_iff_lt_or_eq.1 h with h|h
  exact b i h
  subst h;simpa using a
theorem Ud (l:List ShD):∀n,n<=l.length->(yJ l n).1.Pairwise (fun a b=>yO a b=false)/\∀a∈(yJ l n).1,∀b∈(yJ l n).2,yO a b=false
 |0,_=>⟨List.Pairwise.nil,fun a d=>by cases d⟩
 |n+1,m=>by
  obtain⟨j,g⟩:=Ud l n (by omega)
  have k:=Aq l n (by omega)
  have h:=Ap (yJ l n).2 _ (jk _) (by omega)
  have e:=J0 (yJ l n).2 (yJ l n).2.length
  have f:∀b∈(yJ l n).2.take (nF (yJ l n).2 (yJ l n).2.length)++(yJ l n).2.drop (nF (yJ l n).2 (yJ l n).2.length+1),b∈(yJ l n).2:=by
   intro b c;rcases jr.1 c with c|c;exact kf c;exact ke c
  refine⟨List.pairwise_append.2 ⟨j,List.pairwise_singleton _ _,fun a d b c=> ?_⟩,fun a d b c=> ?_⟩;simp at c;subst c;exact g a d _ (L.kx h);have c:=f b c;have d:a∈(yJ l n).1++[nth (yJ l n).2 (nF (yJ l n).2 (yJ l n).2.length)]:=d;rcases jr.1 d with d|d;exact g a d b c;simp at d;subst d;obtain⟨i,hi,rfl⟩:=L.mem_iff.1 c;exact e i hi
theorem ZG (d:DyD):PN jaj (jaE d):=(Ud (EA d) _ (jk _)).1
theorem OJ (d:DyD):(jaE d).Perm (EA d):=by
 have a:=JY (EA d) (EA d).length (jk _);have b:=(Aq (EA d) (EA d).length (jk _)).2;have:(yJ (EA d) (EA d).length).2=[]:=List.length_eq_zero_iff.1 (by omega);rw[this,j7] at a;exact a
theorem OK {l:List ShD} (i:l.Pairwise (fun a b=>yO b a=true)):∀n,n<=l.length->∀s∈l.take n,(kW (Ty.dflt tSh) (kJ tSt (dZ s) (qc l n))=s↔∀t∈l.take n,dZ t=dZ s->yO t s=false)
 |0,_,s,c=>by simp at c
 |n+1,k,s,c=>by
  have j:=OK i n (by omega)
  have g:(l.take (n+1)).Pairwise (fun a b=>yO b a=true):=i.sublist (List.take_sublist _ _)
  rw[L.wb (by omega)] at g c
  have f:∀t∈l.take n,yO (nth l n) t=true:=fun t d=>(List.pairwise_append.1 g).2.2 t d _ (by simp)
  rw[Cx (by omega),L.wb (by omega)]
  by_cases hk:dZ s=dZ (nth l n)
  rw[hk,M.ph]
  show nth l n=s↔_
  rcases jr.1 c with c|c
  refine⟨fun e=> ?_,fun h=> ?_⟩
  have:=f s c
  rw[e,cu] at this;cases this
  have:=h (nth l n) (by simp) rfl
  rw[f s c] at this;cases this
  simp at c;subst c
  refine⟨fun _ t d _=> ?_,fun _=>rfl⟩
  rcases jr.1 d with d|d
  exact Fw (f t d)
  simp at d;subst d;exact cu _
  rw[M.cS hk]
  have c:s∈l.take n:=by
   rcases jr.1 c with c|c;exact c;simp at c;subst c;exact absurd rfl hk
  rw[j s c];refine⟨fun h t d e=> ?_,fun h t d=>h t (jh _ d)⟩;rcases jr.1 d with d|d;exact h t d e;simp at d;subst d;exact absurd e.symm hk
theorem Ue {d:DyD} (h:wn d=0):(qk d).Pairwise (fun a b=>yO b a=true):=by
 have f:=jcU h;have g:PN (kr tSh fun x=>(kI x.1 x.2.1,())) (qk d):=aT f;have e:∀s∈qk d,s∈wz (qh d):=fun s i=>(wj _).mem_iff.1 i
 refine List.Pairwise.imp_of_mem ?_ (List.Pairwise.and g (dQ d));intro a b j k ⟨h1,h2⟩;cases c:kr tSh (fun x=>(kI x.1 x.2.1,())) a b with
 |false=>exact absurd (f.total a b (e a j) (e b k) c h1) h2
 |true=>
  have c:kI a b<0:=jb c;exact(WN a b).1 c
theorem J1 {d:DyD} (h:wn d=0) {s:ShD} (a:s∈qk d):vi (qc (qk d) (qk d).length) s=true↔Xz s=1/\∀t∈qk d,dZ t=dZ s->yO t s=false:=by
 have:=OK (Ue h) (qk d).length (jk _) s (by rw[zt];exact a);rw[zt] at this;rw[<-this];unfold vi;rw[jI,jM,zg,zg,decide_eq_true_iff,decide_eq_true_iff];exact and_comm
theorem Uf {d:DyD} (h:wL d=true) {s:ShD} (a:s∈qh d):0<=yR s/\yR s<=99:=by
 have:=(ya h).2.2.2.2.2.2.2 _ a;unfold lT at this;have:=jb this;omega
def Vx (d:DyD):ShD->Bool:=vi (qc (qk d) (qk d).length)
theorem ja9 {d:DyD} (h:wn d=0):(qk d).filter (Vx d)=jaE d:=by
 have j:=yn h;have f:∀s,s∈Ew (qh d)↔s∈qk d:=fun s=>⟨fun c=>fD.2 (WJ c),fun c=>by
  have c:=fD.1 c;have:=Uf j.1.2.2 c;exact ZF c this.1 this.2⟩
 have g:∀s,s∈(qk d).filter (Vx d)↔s∈jaE d:=by
  intro s;rw[(OJ d).mem_iff,Uc,jQ,jQ,f s];refine and_congr_right fun c=> ?_
  rw[MV];have:=J1 h c;refine this.trans (and_congr_right fun _=>⟨fun h t i=>h t ((f t).1 i),fun h t i=>h t ((f t).2 i)⟩)
 have n:((qk d).filter (Vx d)).Nodup:=List.Pairwise.filter _ (dQ d);have o:(jaE d).Nodup:=(OJ d).nodup_iff.2 (by rw[Uc];exact List.Pairwise.filter _ (Qw _));have m:=L.nK n o g;refine ou (ZE ?_) m ?_ (ZG d);intro a k b l e;exact j.2 a (fD.1 (jQ.1 k).1) b (fD.1 (jQ.1 l).1) e;exact(List.Pairwise.filter _ (Ue h)).imp fun x=>Fw x
structure D7 (d:DyD) (x:List (List Int)×List Int) (y:List Int×List Int):Prop where
 ref:x.2=y.2
 len:y.1.length=(kA d).length
 set:∀b,b<(kA d).length->BT.qV (nth y.1 b)
 bit:∀b,b<(kA d).length->∀p,BT.has (nth y.1 b) p=true↔p<(kB (kE d)).length/\(b:Int)∈nth x.1 p
theorem Ar {t:Int} (h:BT.qV t) (p:Int):yI t p=BT.has t p.toNat:=BT.has_shr h p.toNat
theorem jba {d:DyD} {x:List (List Int)×List Int} {y:List Int×List Int} (h:D7 d x y) {p:Int} (j:RG d p) (g:∀b∈nth x.1 p.toNat,ax d b) (n:Int):n∈U.on y.1 p↔n∈nth x.1 p.toNat:=by
 unfold RG at j;unfold U.on jcC;rw[jT];refine⟨fun⟨i,hi,e⟩=> ?_,fun f=> ?_⟩;subst e;have hi:=jQ.1 hi;have a:=jC.1 hi.1;rw[h.len] at a;have c:yI (nth y.1 i) p=true:=hi.2;rw[Ar (h.set i a)] at c;exact((h.bit i a p.toNat).1 c).2;have hk:=g n f;unfold ax at hk;have en:((n.toNat:Nat):Int)=n:=(by omega);refine⟨n.toNat,jQ.2 ⟨jC.2 (by rw[h.len];omega),?_⟩,en⟩;show yI (nth y.1 n.toNat) p=true;rw[Ar (h.set _ (by omega))];exact(h.bit _ (by omega) _).2 ⟨by omega,by rw[en];exact f⟩
theorem WO (t:List Int) (p:Int):(U.on t p).Nodup:=by
 unfold U.on jcC;refine zU.2 ((List.Pairwise.filter _ List.pairwise_lt_range).imp ?_);intro a b c e;omega
theorem ZH {d:DyD} {x:List (List Int)×List Int} {y:List Int×List Int} (h:D7 d x y) {p:Int} (e:RG d p) (c:(nth x.1 p.toNat).Nodup) (a:∀b∈nth x.1 p.toNat,ax d b):(nth x.1 p.toNat).Perm (U.on y.1 p):=
 L.nK c (WO _ _) (fun n=>(jba h e a n).symm)
theorem jbb {d:DyD} (i:KY d) {x:List (List Int)×List Int} {y:List Int×List Int} (h:D7 d x y) {p b:Int} (g:RG d p) (e:(nth x.1 p.toNat++[b]).Nodup) (f:∀c∈nth x.1 p.toNat++[b],ax d c):
 NC d (vj d (kA d).length) p (nth x.1 p.toNat++[b])=f7 d p (U.on y.1 p++[b]):=by
 rw[ZD e (fun c a=>ZC i (f c a) g)];exact Fv d p ((ZH h g (zD.1 e).1 (fun c a=>f c (jh _ a))).append_right [b]) e
theorem jbc {d:DyD} {x:List (List Int)×List Int} {y:List Int×List Int} (h:D7 d x y) (v:x.1.length=(kB (kE d)).length) (u:(kB (kE d)).length<=8) {p b:Int} (t:RG d p) (s:ax d b) (i:b∉nth x.1 p.toNat):
 D7 d (x.1.set p.toNat (nth x.1 p.toNat++[b]),x.2) (y.1.set b.toNat (nth y.1 b.toNat+2^p.toNat),y.2):=by
 unfold RG at t;unfold ax at s;have r:((b.toNat:Nat):Int)=b:=(by omega);have g:b.toNat<y.1.length:=(by rw[h.len];omega);have n:p.toNat<x.1.length:=(by omega);have o:=h.set b.toNat (by omega);have m:BT.has (nth y.1 b.toNat) p.toNat=false:=by
  cases j:BT.has (nth y.1 b.toNat) p.toNat with
  |false=>rfl
  |true=>exact absurd (by have:=((h.bit _ (by omega) _).1 j).2;rw[r] at this;exact this) i
 have a:=BT.add_two o (p:=p.toNat) (by omega) m;have j:=BT.mC (k:=p.toNat) (by omega);refine⟨h.ref,by show(y.1.set _ _).length=_;rw[List.length_set];exact h.len,fun c l=> ?_,fun c l q=> ?_⟩;show BT.qV (nth (y.1.set b.toNat (nth y.1 b.toNat+2^p.toNat)) c);rw[L.aO g]
 split
 rw[a];exact BT.bor_set o j;exact h.set c l;show BT.has (nth (y.1.set b.toNat (nth y.1 b.toNat+2^p.toNat)) c) q=true↔_/\(c:Int)∈nth (x.1.set p.toNat (nth x.1 p.toNat++[b])) q;rw[L.aO g,L.aO n];by_cases f:b.toNat=c;rw[jg f,a,BT.has_bor o j,BT.Ax,zm,decide_eq_true_iff,h.bit _ (by omega),<-f,r];by_cases e:p.toNat=q;rw[jg e];refine⟨fun _=>⟨by omega,by simp⟩,fun _=> .inr e⟩;rw[jc e];exact⟨fun h=>h.elim id (fun h=>absurd h e),.inl⟩;rw[jc f,h.bit c l];by_cases e:p.toNat=q;rw[jg e,jr,<-e];refine and_congr_right fun _=>⟨.inl,fun h=>h.elim id (fun h=> ?_)⟩
 simp at h;omega;rw[jc e]
theorem WP (d:DyD):D7 d (vl (KZ d) (qk d) 0) (List.replicate (kA d).length 0,[]):=by
 have c:∀b,b<(kA d).length->nth (List.replicate (kA d).length (0:Int)) b=0:=fun b a=>L.nth_rep a
 refine⟨rfl,zC,fun b a=> ?_,fun b a p=> ?_⟩;show BT.qV (nth (List.replicate (kA d).length (0:Int)) b);rw[c b a];exact BT.Dv;show BT.has (nth (List.replicate (kA d).length (0:Int)) b) p=true↔_/\(b:Int)∈nth (jaD d) p;rw[c b a,BT.sB];have f:jal (jaD d):=fun x g=>(List.mem_replicate.1 g).2
 have e:nth (jaD d) p=[]:=OF f p;rw[e];simp
def Ug (d:DyD) (i:Nat):List Int×List Int:=(((qk d).take i).filter (Vx d)).foldl (FQ d) (List.replicate (kA d).length 0,[])
attribute [local irreducible] vl f7 NC U.on Ug qk Vx KZ vj in
theorem WQ {d:DyD} (h:wn d=0) {i:Nat} (hi:i<(qk d).length) (ih:D7 d (vl (KZ d) (qk d) i) (Ug d i)) (_:cz (KZ d) (qk d) i (vl (KZ d) (qk d) i)) (hrd:U.rd (KZ d)=d) (hml:lX (KZ d)=vj d (kA d).length)
 (hx:(vl (KZ d) (qk d) i).1.length=(kB (kE d)).length) (hdec:Vx d=vi (qc (qk d) (qk d).length)) (hft:Ug d (i+1)=if Vx d (nth (qk d) i)=true then FQ d (Ug d i) (nth (qk d) i) else Ug d i)
 (hnew:Vx d (nth (qk d) i)=true->(nth (vl (KZ d) (qk d) i).1 (nE (nth (qk d) i)).toNat++[KE (nth (qk d) i)]).Nodup/\∀b∈nth (vl (KZ d) (qk d) i).1 (nE (nth (qk d) i)).toNat++[KE (nth (qk d) i)],ax d b):
 D7 d (vl (KZ d) (qk d) (i+1)) (Ug d (i+1)):=by
 have hD:=(yn h).1
 have h8:(kB (kE d)).length<=8:=(w5 hD.1).2.2.1
 have hsf:=An hD.2.2 (fD.1 (L.kx (l:=qk d) (i:=i) hi))
 rw[hft]
 cases hc:Vx d (nth (qk d) i) with
 |false=>
  rw[hdec] at hc
  rw[OG hi hc,jc (by simp)]
  exact ih
 |true=>
  have hn:=hnew hc
  have hcan:=jbb hD ih (p:=nE (nth (qk d) i)) (b:=KE (nth (qk d) i)) hsf.1 hn.1 hn.2
  rw[hdec] at hc
  rw[jg rfl]
  unfold FQ
  cases hk:f7 d (nE (nth (qk d) i)) (U.on (Ug d i).1 (nE (nth (qk d) i))++[KE (nth (qk d) i)]) with
  |true=>
   rw[hk] at hcan
   rw[TS hi hc (by rw[hrd,hml];exact hcan),jg rfl]
   refine jbc ih hx h8 hsf.1 hsf.2 (fun hin=> ?_)
   exact(zD.1 hn.1).2.2 _ hin _ (by simp) rfl
  |false=>
   rw[hk] at hcan
   rw[X6 hi hc (by rw[hrd,hml];exact hcan),jc (by simp)]
   exact⟨jS (·++[yR (nth (qk d) i)]) ih.ref,ih.len,ih.set,ih.bit⟩
theorem Uh {d:DyD} (h:wn d=0):∀i,i<=(qk d).length->D7 d (vl (KZ d) (qk d) i) (Ug d i)
 |0,_=>WP d
 |i+1,hi=>by
  have k:=Uh h i (by omega)
  obtain⟨⟨_,m⟩,⟨j,b⟩,c⟩:=TW h
  have f:=(yn h).1
  have a:=MC (r:=KZ d) (l:=qk d) f.2.2 (fun s e=>fD.1 e) (dQ d) j b c i (by omega)
  refine WQ h hi k a rfl rfl a.1 rfl ?_ fun g=> ?_
  unfold Ug
  rw[L.filter_take (p:=Vx d) (l:=qk d) (i:=i) hi,jU]
  split<;>rfl
  have:=TP (r:=KZ d) (l:=qk d) f.2.2 (fun s e=>fD.1 e) (dQ d) hi a g
  exact⟨this.1,this.2.1⟩
theorem WR {d:DyD} (h:wn d=0):Ug d (qk d).length=Vl d:=by
 unfold Ug Vl jbI;rw[zt,zt,ja9 h]
theorem Hb {d:DyD} (h:wn d=0):D7 d (aq (RH d),(vl (KZ d) (qk d) (qk d).length).2) (Vl d):=by
 have:=Uh h _ (jk _);rw[WR h] at this;exact⟨this.ref,this.len,this.set,this.bit⟩
theorem OL (on:List (List Int)) (b:Int):∀n,n<=60->BT.qV (gJ on b n)/\∀q,BT.has (gJ on b n) q=true↔q<n/\b∈nth on q
 |0,_=>⟨BT.Dv,fun q=>by
  have:gJ on b 0=0:=rfl
  rw[this,BT.sB];simp⟩
 |n+1,m=>by
  obtain⟨f,i⟩:=OL on b n (by omega)
  have g:=BT.mC (k:=n) (by omega)
  have a:(nth on n).any (fun x=>decide (x=b))=true↔b∈nth on n:=by
   rw[j9];exact⟨fun⟨x,l,e⟩=>(jb e)▸l,fun j=>⟨b,j,jK rfl⟩⟩
  rw[Ct]
  split
  rename_i c;have c:=a.1 c;rw[Cu];refine⟨BT.bor_set f g,fun q=> ?_⟩;rw[BT.has_bor f g,BT.Ax,zm,decide_eq_true_iff,i];refine⟨fun h=>h.elim (fun h=>⟨by omega,h.2⟩) (fun h=>by subst h;exact⟨by omega,c⟩),fun h=> ?_⟩;by_cases d:q=n;exact .inr d.symm;exact .inl ⟨by omega,h.2⟩;rename_i c;refine⟨f,fun q=> ?_⟩;rw[i];refine⟨fun h=>⟨by omega,h.2⟩,fun h=>⟨?_,h.2⟩⟩;by_cases d:q=n;subst d;exact absurd (a.2 h.2) c;omega
theorem Ui {d:DyD} (h:wn d=0) {b:Nat} (a:b<(kA d).length):cQ (aq (RH d)) (b:Int)=nth (Vl d).1 b:=by
 have f:=Hb h;have c:=TX h;have g:=OL (aq (RH d)) (b:Int) (aq (RH d)).length c.len60;refine BT.ext g.1 (f.set b a) fun p=>j0.2 ?_
 have e:=(g.2 p).trans (f.bit b a p|>.trans (by rw[<-c.len])).symm;exact e
theorem jbd {d:DyD} (h:wn d=0):y9 d (kA d).length=(Vl d).1:=by
 have b:=Hb h;have a:(y9 d (kA d).length).length=(kA d).length:=(by unfold y9;simp);refine L.ext_nth (by rw[a];exact b.len.symm) fun i hi=> ?_
 rw[a] at hi;unfold y9;rw[L.nth_map (by simpa using hi)];have:nth (List.range (kA d).length) i=i:=(by rw[L.wG (by simpa using hi)];simp);rw[this];exact Ui h hi
theorem ZI (d:DyD):d4 d=if dW d=0 then(Vl d).1 else[]:=by
 unfold d4;rw[ct]
 split
 rename_i h;exact jbd ((ct d).trans h);rfl
end Go.X
namespace Go.X
open U
open Go.Proofs
attribute [local irreducible] yJ nF jbH Ew EA jaE Vk
end Go.X
namespace Go.X
open U
open Go.Proofs
namespace U
def jc1 (d:DyD) (t:List Int) (b:Nat):Bool:=Dl (kE d) (yQ (nth (kA d) b)) (nth t b)
def Vm (d:DyD) (t:List Int) (n:Nat):List Int:=((List.range n).filter (jc1 d t)).map (fun(b:Nat)=>(b:Int))
def jcG (d:DyD):List Int:=if dW d=0 then Vm d (O4 d) (O4 d).length else[]
end U
theorem ZJ {d:DyD} (h:dW d=0):(Vl d).1.length=(kA d).length:=(Hb ((ct d).trans h)).len
theorem Yd {d:DyD} (h:dW d=0):O4 d=(Vl d).1:=jg h
theorem Hc {d:DyD} (h:dW d=0):(O4 d).length=(kA d).length:=by rw[Yd h];exact ZJ h
section
attribute [local irreducible] Vl dW
end
section
attribute [local irreducible] Vm O4 dW Dl
end
section
attribute [local irreducible] f7 U.on yI KY
end
section
attribute [local irreducible] O4 dW yI
end
end Go.X
namespace Go.X
open U
open Go.Proofs
section
attribute [local irreducible] O4 dW Dl
end
end Go.X
namespace Go.X
open U
open Go.Proofs
theorem CE (n m:Nat):n|||m=0↔n=0/\m=0:=by
 constructor;intro h;constructor;refine kg fun i=> ?_
 have:=jS (fun z=>Nat.testBit z i) h;simp only[Nat.testBit_or,Nat.zero_testBit,jM] at this;rw[this.1,Nat.zero_testBit];refine kg fun i=> ?_
 have:=jS (fun z=>Nat.testBit z i) h;simp only[Nat.testBit_or,Nat.zero_testBit,jM] at this;rw[this.2,Nat.zero_testBit];rintro⟨rfl,rfl⟩;rfl
theorem OM {a b:Int} (c:0<=a/\a<64) (d:0<=b/\b<64):uor a b=0↔a=0/\b=0:=by
 obtain⟨n,rfl⟩:∃n:Nat,a=(n:Int):=⟨a.toNat,by omega⟩;obtain⟨m,rfl⟩:∃m:Nat,b=(m:Int):=⟨b.toNat,by omega⟩;rw[BT.uor_nat (by omega) (by omega)];have:=CE n m;omega
theorem WS {a b:Int} (c:0<=a/\a<64) (d:0<=b/\b<64):bor a b=0↔a=0/\b=0:=by
 obtain⟨n,rfl⟩:∃n:Nat,a=(n:Int):=⟨a.toNat,by omega⟩;obtain⟨m,rfl⟩:∃m:Nat,b=(m:Int):=⟨b.toNat,by omega⟩;rw[BT.bor_nat (by omega) (by omega)];have:=CE n m;omega
theorem WT {a b:Int} (c:0<=a/\a<64) (d:0<=b/\b<64):0<=bor a b/\bor a b<64:=by
 obtain⟨n,rfl⟩:∃n:Nat,a=(n:Int):=⟨a.toNat,by omega⟩;obtain⟨m,rfl⟩:∃m:Nat,b=(m:Int):=⟨b.toNat,by omega⟩;rw[BT.bor_nat (by omega) (by omega)];have:n|||m<2^6:=Nat.or_lt_two_pow (by omega) (by omega);omega
theorem CF {b:Bool} {o k:Int} (h:0<=o/\o<64) (hk:0<k/\k<64):Ey b o k=0↔b=false/\o=0:=by
 unfold Ey;cases b with
 |false=>rw[jc (by simp)];simp
 |true=>
  rw[jg rfl,OM h ⟨by omega,by omega⟩];refine⟨fun h=>absurd h.2 (by omega),fun h=>absurd h.1 (by simp)⟩
theorem mq {b:Bool} {o k:Int} (h:0<=o/\o<64) (hk:0<k/\k<64):Yn b o k=0↔b=false/\o=0:=by
 unfold Yn;cases b with
 |false=>rw[jc (by simp)];simp
 |true=>
  rw[jg rfl,WS h ⟨by omega,by omega⟩];refine⟨fun h=>absurd h.2 (by omega),fun h=>absurd h.1 (by simp)⟩
theorem J2 {b:Bool} {o k:Int} (h:0<=o/\o<64) (hk:0<k/\k<64):0<=Yn b o k/\Yn b o k<64:=by
 unfold Yn
 split
 exact WT h ⟨by omega,hk.2⟩;exact h
theorem J4 (t:TkD):∀(q:List (Int×PeD×Unit)) (o:Int),(0<=o/\o<64)->(bX t o q=0↔o=0/\∀x∈q,vg t x.2.1=0)
 |[],o,_=>by
  show o=0↔_
  simp
 |x::q,o,h=>by
  have b:=B6 t x.2.1
  have a:=J4 t q (uor o (vg t x.2.1)) (Tu h ⟨by omega,by omega⟩)
  show bX t (uor o (vg t x.2.1)) q=0↔_
  rw[a,OM h ⟨by omega,by omega⟩]
  simp only[jj,forall_eq_or_imp,and_assoc]
theorem WU {t:Int} (h:BT.qV t) (p:Int):sr t p=BT.has t p.toNat:=BT.has_ushr h p.toNat
theorem Ye {t:Int} (h:BT.qV t) (p:Int):sr t p=yI t p:=(WU h p).trans (Ar h p).symm
theorem mr {t:TkD} {s:Int} (b:BT.qV s) {x:Int×PeD×Unit}:x∈uF t s↔∃i:Nat,i<(kB (U.tc t)).length/\yI s (i:Int)=true/\x=((i:Int),nth (kB (U.tc t)) i,()):=by
 unfold uF yb;rw[jT];refine⟨fun⟨i,hi,e⟩=> ?_,fun⟨i,c,a,e⟩=>⟨i,jQ.2 ⟨jC.2 c,?_⟩,e.symm⟩⟩;have hi:=jQ.1 hi;have a:sr s (i:Int)=true:=hi.2;exact⟨i,jC.1 hi.1,(Ye b _)▸a,e.symm⟩;show sr s (i:Int)=true;rw[Ye b];exact a
theorem tM (c:CrD) (j:JbD) (t:Int):∀n,(0<=(x7 c j t n).1/\(x7 c j t n).1<64)/\((x7 c j t n).1=0↔∀i:Nat,i<n->yI t (i:Int)=true->y6 c j (i:Int)=true)/\
 ((x7 c j t n).2=true↔∃i:Nat,i<n/\yI t (i:Int)=true/\jbC (nth (kB c) i)=true)
 |0=>⟨by show(0:Int)<=0/\(0:Int)<64;omega,⟨fun _ i h=>absurd h (by omega),fun _=>rfl⟩,⟨fun h=>(by cases h),fun⟨i,h,_⟩=>absurd h (by omega)⟩⟩
 |n+1=>by
  obtain⟨l,o,p⟩:=tM c j t n
  cases g:yI t (n:Int) with
  |false=>
   rw[TZ g]
   refine⟨l,o.trans ⟨fun h i hi a=> ?_,fun h i hi=>h i (by omega)⟩,p.trans ⟨fun⟨i,hi,a⟩=>⟨i,by omega,a⟩,fun⟨i,hi,d,f⟩=>⟨i,?_,d,f⟩⟩⟩
   by_cases e:i=n
   subst e;rw[g] at a;cases a
   exact h i (by omega) a
   by_cases e:i=n
   subst e;rw[g] at d;cases d
   omega
  |true=>
   have e:x7 c j t (n+1)=(Yn (!yI (U.cl (nth (kB c) n)) (iH j)) (Yn (!yI (U.fd (nth (kB c) n)) (Xy j)) (Yn (KG (nth (kB c) n) (Xx j)) (x7 c j t n).1 1) 2) 4,(x7 c j t n).2||jbC (nth (kB c) n)):=by
    rw[JS];unfold Vj;rw[jg g]
   rw[e];have o1:=J2 (b:=KG (nth (kB c) n) (Xx j)) (k:=1) l (by omega);have o2:=J2 (b:= !yI (U.fd (nth (kB c) n)) (Xy j)) (k:=2) o1 (by omega);have s:=J2 (b:= !yI (U.cl (nth (kB c) n)) (iH j)) (k:=4) o2 (by omega);refine⟨s,?_,?_⟩;show Yn _ _ 4=0↔_;rw[mq o2 (by omega),mq o1 (by omega),mq l (by omega),o];have m:y6 c j (n:Int)=(!(KG (nth (kB c) n) (Xx j))&&yI (U.fd (nth (kB c) n)) (Xy j)&&yI (U.cl (nth (kB c) n)) (iH j)):=by
    unfold y6;rw[ju]
   refine⟨fun⟨d,f,q,r⟩ i hi a=> ?_,fun h=> ?_⟩;by_cases e:i=n;subst e;rw[m];simp only[zg] at d f;rw[d,f,q];rfl;exact r i (by omega) a;have:=h n (by omega) g;rw[m,ji,ji,jI] at this;exact⟨by rw[this.2];rfl,by rw[this.1.2];rfl,this.1.1,fun i hi=>h i (by omega)⟩;show((x7 c j t n).2||jbC (nth (kB c) n))=true↔_;rw[zm,p];refine⟨fun h=>h.elim (fun⟨i,hi,a⟩=>⟨i,by omega,a⟩) (fun h=>⟨n,by omega,g,h⟩),fun⟨i,hi,d,f⟩=> ?_⟩;by_cases e:i=n;subst e;exact .inr f;exact .inl ⟨i,by omega,d,f⟩
theorem WV {c:CrD} {j:JbD} {t:Int} (d:BT.qV t) (a b:Nat):KX (c,j,dX c j,()) t a b=U.J3 c t (Vy (dX c j)) a b:=by
 unfold KX U.J3 lV jbE;refine j0.2 ?_;rw[j9,j9];refine⟨fun⟨x,g,h⟩=> ?_,fun⟨i,hi,h⟩=> ?_⟩;obtain⟨i,e,f,rfl⟩:=(mr d).1 g;refine⟨i,jC.2 e,?_⟩;have h:Vy (dX c j)<=min (nth (U.lv (nth (kB c) i)) ((a:Int)).toNat) (nth (U.lv (nth (kB c) i)) ((b:Int)).toNat):=jb h;rw[f,jK (by omega:Vy (dX c j)<=nth (U.lv (nth (kB c) i)) ((a:Int)).toNat),jK (by omega:Vy (dX c j)<=nth (U.lv (nth (kB c) i)) ((b:Int)).toNat)];rfl;rw[ji,ji,decide_eq_true_iff,decide_eq_true_iff] at h;refine⟨((i:Int),nth (kB c) i,()),(mr d).2 ⟨i,jC.1 hi,h.1.1,rfl⟩,?_⟩;exact jK (show Vy (dX c j)<=min (nth (U.lv (nth (kB c) i)) ((a:Int)).toNat) (nth (U.lv (nth (kB c) i)) ((b:Int)).toNat) by have:=h.1.2;have:=h.2;omega)
theorem ZK (c:CrD) (t lev:Int) (a b:Nat):U.J3 c t lev a b=U.J3 c t lev b a:=by
 unfold U.J3 jbE;refine j0.2 ?_;rw[j9,j9];constructor<;>
 .rintro⟨i,hi,h⟩;refine⟨i,hi,?_⟩;rw[ji,ji] at h⊢;exact⟨⟨h.1.1,h.2⟩,h.1.2⟩
theorem jbe {c:CrD} {j:JbD} {t:Int} (_:kR c=true) (d:wV c j=true) (f:BT.qV t):nth (fM (c,j,dX c j,()) t) (RE j).toNat<0↔nth (jdp c t (Vy (dX c j)) (RE j)) (KW j).toNat<0:=by
 have h:=lw d;have e:KX (c,j,dX c j,()) t=U.J3 c t (Vy (dX c j)):=(by funext a b;exact WV f a b);show nth (jbF (KX (c,j,dX c j,()) t) (U.la c).toNat (KW j).toNat) (RE j).toNat<0↔nth (xY (U.J3 c t (Vy (dX c j))) (U.la c).toNat (RE j).toNat (U.la c).toNat) (KW j).toNat<0;rw[e];exact(Zm (ZK c t _) (by omega) (by omega)).symm
theorem Uj {c:CrD} {j:JbD} {t:Int} (a:BT.qV t):(∀x∈uF (c,j,dX c j,()) t,vg (c,j,dX c j,()) x.2.1=0)↔∀i:Nat,i<(kB c).length->yI t (i:Int)=true->y6 c j (i:Int)=true:=by
 refine⟨fun h i hi e=>(mn c j i).1 (h ((i:Int),nth (kB c) i,()) ((mr a).2 ⟨i,hi,e,rfl⟩)),fun h x f=> ?_⟩;obtain⟨i,b,d,rfl⟩:=(mr a).1 f;exact(mn c j i).2 (h i b d)
theorem WW {c:CrD} {j:JbD} {t:Int} (d:BT.qV t):dY (uF (c,j,dX c j,()) t)=jc0 c j t:=by
 refine j0.2 ?_;unfold jc0;rw[(tM c j t (kB c).length).2.2];unfold dY;rw[j9];refine⟨fun⟨x,f,h⟩=> ?_,fun⟨i,a,b,e⟩=>⟨((i:Int),nth (kB c) i,()),(mr d).2 ⟨i,a,b,rfl⟩,e⟩⟩;obtain⟨i,a,b,rfl⟩:=(mr d).1 f;exact⟨i,a,b,h⟩
theorem MW {c:CrD} {j:JbD} {t:Int} (n:kR c=true) (o:wV c j=true) (a:BT.qV t):qK (c,j,dX c j,()) t=0↔jdq c j t=0:=by
 have f:=tM c j t (kB c).length;have g:=Mf (c,j,dX c j,()) (uF (c,j,dX c j,()) t) 0 (by omega);have i:=B7 (b:=decide (BT.size t≠max (jaz j) (jay (dX c j)))) (k:=8) g (by omega);have q:=B7 (b:=(jcB (dX c j)&& !dY (uF (c,j,dX c j,()) t))) (k:=16) i (by omega);have d:0<=jcZ c j t/\jcZ c j t<64:=f.1;have e:=J2 (b:=decide (BT.size t≠max (jaz j) (jay (dX c j)))) (k:=8) d (by omega);have l:=J2 (b:=(jcB (dX c j)&& !jc0 c j t)) (k:=16) e (by omega);have m:qK (c,j,dX c j,()) t=Ey (decide (nth (fM (c,j,dX c j,()) t) (RE j).toNat<0)) (Ey (jcB (dX c j)&& !dY (uF (c,j,dX c j,()) t)) (Ey (decide (BT.size t≠max (jaz j) (jay (dX c j)))) (bX (c,j,dX c j,()) 0 (uF (c,j,dX c j,()) t)) 8) 16) 32:=rfl;have p:jcZ c j t=0↔bX (c,j,dX c j,()) 0 (uF (c,j,dX c j,()) t)=0:=by
  rw[J4 _ _ _ (by omega),Uj a];exact f.2.1.trans ⟨fun h=>⟨rfl,h⟩,fun h=>h.2⟩
 rw[m,CF q (by omega),CF i (by omega),CF g (by omega)];unfold jdq;rw[mq l (by omega),mq e (by omega),mq d (by omega),p,WW a,jD,jD,jbe n o a,jD]
theorem ZL {d:DyD} (a:KY d) {b:Int} (k:ax d b) {t:Int} (e:0<=t) (n:t<2^(kB (kE d)).length):Dk d b t=Dl (kE d) (yQ (U.bk d b)) t:=by
 unfold ax at k;have h:wV (kE d) (yQ (U.bk d b))=true:=Yc a (b:=b.toNat) (by omega);have o:=(GY a.1).2;have m:BT.qV t:=(by unfold BT.qV;omega);have i:qv (kE d) (yQ (U.bk d b))=0:=(by unfold qv;rw[a.1,h];rfl);have j:HT (kE d) t=true:=by
  unfold HT kk;rw[jK e,jK (by omega)];rfl
 have l:ao (kE d) (yQ (U.bk d b)) t=0:=by
  unfold ao;rw[jc (by rw[i];simp),j,jg rfl]
 have c:=MW a.1 h m;unfold Dk Dl jaC;rw[l,jg rfl];refine j0.2 ?_;simp only[ji,decide_eq_true_iff,true_and];rw[c];constructor;rintro⟨f,g⟩;exact⟨by omega,f⟩;rintro⟨f,g⟩;exact⟨g,by omega⟩
theorem Yf {d:DyD} (h:dW d=0) {b:Nat} (a:b<(kA d).length):0<=nth (Vl d).1 b/\nth (Vl d).1 b<2^(kB (kE d)).length:=by
 have c:=Hb ((ct d).trans h);have e:=c.set b a;exact⟨e.1,BT.lt_of_has e (fun p f=>((c.bit b a p).1 f).1)⟩
theorem Uk (d:DyD):kl d=jcG d:=by
 unfold kl jcG;rw[ct];by_cases h:dW d=0;rw[jg h,jg h,Hc h];unfold yP Vm;congr 1;refine List.filter_congr fun b a=> ?_
 have a:=jC.1 a;have hk:=(ct d).trans h;have c:=Yf h a;show Dk d (b:Int) (cQ (aq (RH d)) (b:Int))=Dl (kE d) (yQ (nth (kA d) b)) (nth (O4 d) b);rw[Ui hk a,Yd h,ZL (Yb h) (by unfold ax;omega) c.1 c.2];rfl;rw[jc h,jc h]
end Go.X
