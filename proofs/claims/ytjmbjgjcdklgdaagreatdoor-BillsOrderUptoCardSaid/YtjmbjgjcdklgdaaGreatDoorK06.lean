/-
  Part 6 of the road: a checked reading of bodies, and what the functions on it do (PC1 PC2 PC3 PC4 C2 PC5 PC6 PC7 PC8 C3 PC9 SL PC10 S1 S2 S3 PC11 C4 PC12 PC13 PC14 S4 S5).
-/
import Derived.Test.YtjmbjgjcdklgdaaGreatDoorK05
namespace Go.X
open U
open Go.Proofs
theorem Nc:Kb:=by
 rintro⟨n,a,b,⟨⟩⟩;rfl
theorem uQ:wo PR 81 Ka:=wb Nc Tryz.func81 kcN koN
theorem Xe (c:CrD) (j:JbD):(kj (Sa j) 0 (U.la c-1)&&kj (Ls j) 0 (U.la c-1)&&decide (Sa j≠Ls j)&&kj (X3 j) 0 99&&kj (X4 j) 0 7&&kj (iT j) 0 3&&kj (ja2 j) 1 8)=wY c j:=by
 unfold wY kj;rw[j6];simp only[ji,jr,ne_eq];constructor;rintro⟨⟨⟨⟨⟨⟨⟨f,g⟩,h,i⟩,k⟩,l,m⟩,n,o⟩,a,b⟩,d,e⟩;exact⟨f,g,h,i,k,l,m,n,o,a,b,d,e⟩;rintro⟨f,g,h,i,k,l,m,n,o,a,b,d,e⟩;exact⟨⟨⟨⟨⟨⟨⟨f,g⟩,h,i⟩,k⟩,l,m⟩,n,o⟩,a,b⟩,d,e⟩
theorem QW:Nb:=by
 unfold Nb Prod.q4;rintro⟨c,j,⟨⟩⟩ h;have h:kU c=true:=h;have d:=w7 h;have a:kM (U.la c-1):=iZ6;refine⟨a,fun _=>a,?_⟩;exact jR (fun b=>(b,())) (Xe c j)
theorem Nd:wo PR 55 Na:=wb QW Tryz.func55 (kcC uQ kcN) koN
end Go.X
namespace Go.X
open U
open Go.Proofs
theorem Kf (c:CrD) (j:JbD) (t:Int) (n:Nat):Ap c j t (n+1)=VP c j t (Ap c j t n) n:=by
 unfold Ap;rw[ze,jT];rfl
theorem Uv {c:CrD} {j:JbD} {t:Int} {n:Nat} (h:vD t (n:Int)=false):Ap c j t (n+1)=Ap c j t n:=by
 rw[Kf];unfold VP;rw[h,jc (by simp)]
theorem Xf (l:Int) (p:PeD):fV l p=(!(decide (((U.lv p).length:Int)≠l)|| !kj (U.fd p) 0 255|| !kj (U.cl p) 0 255||decide (10<((yJ p).length:Int))|| !kj (U.fe p) 0 1000)&&((U.lv p).all (fun n=>kj n 0 5)&&(yJ p).all (fun n=>kj n 0 99))):=by
 unfold fV;congr 1;rw[j6];simp only[kj,jN,jP,jD,zc,ji,jr];omega
theorem AH (c:CrD):kU c=(!(!kj (U.la c) 2 5||decide (8<((kC c).length:Int))||decide (((vP c).length:Int)≠4))&&((kC c).all (fV (U.la c))&&(vP c).all d4)):=by
 unfold kU;congr 1;rw[j6];simp only[kj,jN,jP,jD,zc,ji,jr];omega
theorem t8 {c:CrD} {x:Nat} (a:x<(kC c).length) (h:fV (U.la c) (nth (kC c) x)=false):kU c=false:=by
 have:(kC c).all (fV (U.la c))=false:=zV.2 ⟨_,L.kw a,by rw[h];simp⟩;rw[AH,this];simp
theorem QX {c:CrD} {x:Nat} (a:x<(vP c).length) (h:d4 (nth (vP c) x)=false):kU c=false:=by
 have:(vP c).all d4=false:=zV.2 ⟨_,L.kw a,by rw[h];simp⟩;rw[AH,this];simp
theorem fQ {α:Type} [Inhabited α] {l:List α} {p:α->Bool} {x:Nat} (c:¬x<l.length) (h:∀j:Nat,j<x->p (nth l j)=true):l.all p=true:=by
 rw[jV];intro a b;obtain⟨i,hi,rfl⟩:=L.mem_iff.1 b;exact h i (by omega)
theorem lS {c:CrD} (h:kU c=false):(false,())=(kU c,()):=by rw[h]
theorem Nf:Ke:=by
 unfold Ke jhq jgc jhp jfI jeP jfH jho jgb jfG jdW Prod.q4;rintro⟨c,⟨⟩⟩ _ _;refine⟨fun h=> ?_,fun h=> ?_⟩;have h:(!kj (U.la c) 2 5||decide (8<((kC c).length:Int))||decide (((vP c).length:Int)≠4))=true:=h;refine lS (c:=c) ?_;rw[AH,h];rfl;have B:(!kj (U.la c) 2 5||decide (8<((kC c).length:Int))||decide (((vP c).length:Int)≠4))=false:=h;clear h;refine⟨⟨0,⟨⟨rfl,tZ⟩,tZ⟩,jv _,fun j k=>by omega⟩,fun x s r=>⟨fun h=> ?_,fun h=> ?_⟩⟩;have r:(kC c).length<4611686018427387904:=r;have h:(x:Int)<(kC c).length:=ja h;have m:x<(kC c).length:=(by omega);refine⟨by omega,h,fun _ _=>⟨fun g=> ?_,fun g=> ?_⟩⟩;have g:(decide (((U.lv (nth (kC c) x)).length:Int)≠U.la c)|| !kj (U.fd (nth (kC c) x)) 0 255|| !kj (U.cl (nth (kC c) x)) 0 255||decide (10<((yJ (nth (kC c) x)).length:Int))|| !kj (U.fe (nth (kC c) x)) 0 1000)=true:=g;refine lS (c:=c) (t8 m ?_);rw[Xf,g];rfl;have g:(decide (((U.lv (nth (kC c) x)).length:Int)≠U.la c)|| !kj (U.fd (nth (kC c) x)) 0 255|| !kj (U.cl (nth (kC c) x)) 0 255||decide (10<((yJ (nth (kC c) x)).length:Int))|| !kj (U.fe (nth (kC c) x)) 0 1000)=false:=g;refine⟨⟨0,⟨⟨rfl,tZ⟩,tZ⟩,jv _,fun j k=>by omega⟩,fun y q d=>⟨fun b=> ?_,fun b=> ?_⟩⟩;have d:(U.lv (nth (kC c) x)).length<4611686018427387904:=d;have b:(y:Int)<(U.lv (nth (kC c) x)).length:=ja b;refine⟨by omega,b,fun a=> ?_,fun a=>⟨iZ6,y+1,⟨⟨by simp,tZ⟩,tZ⟩,⟨by show y+1<=(U.lv (nth (kC c) x)).length;omega,fun j k=> ?_⟩,by show(U.lv (nth (kC c) x)).length-(y+1)<(U.lv (nth (kC c) x)).length-y;omega⟩⟩;have a:(!kj (nth (U.lv (nth (kC c) x)) y) 0 5)=true:=a;have a:kj (nth (U.lv (nth (kC c) x)) y) 0 5=false:=(by simpa using a);refine lS (c:=c) (t8 m ?_);have:(U.lv (nth (kC c) x)).all (fun n=>kj n 0 5)=false:=zV.2 ⟨_,L.kw (l:=U.lv (nth (kC c) x)) (i:=y) (by omega),by rw[a];simp⟩;rw[Xf,this];simp;have a:(!kj (nth (U.lv (nth (kC c) x)) y) 0 5)=false:=a;by_cases e:j=y;subst e;exact(show kj (nth (U.lv (nth (kC c) x)) j) 0 5=true by simpa using a);exact q.2 j (by omega);have b:¬(y:Int)<(U.lv (nth (kC c) x)).length:=jd b;have u:(U.lv (nth (kC c) x)).all (fun n=>kj n 0 5)=true:=fQ (by omega) q.2;refine⟨⟨0,⟨⟨rfl,tZ⟩,tZ⟩,jv _,fun j k=>by omega⟩,fun z t o=>⟨fun a=> ?_,fun a=> ?_⟩⟩;have o:(yJ (nth (kC c) x)).length<4611686018427387904:=o;have a:(z:Int)<(yJ (nth (kC c) x)).length:=ja a;refine⟨by omega,a,fun f=> ?_,fun f=>⟨iZ6,z+1,⟨⟨by simp,tZ⟩,tZ⟩,⟨by show z+1<=(yJ (nth (kC c) x)).length;omega,fun j k=> ?_⟩,by show(yJ (nth (kC c) x)).length-(z+1)<(yJ (nth (kC c) x)).length-z;omega⟩⟩;have f:(!kj (nth (yJ (nth (kC c) x)) z) 0 99)=true:=f;have f:kj (nth (yJ (nth (kC c) x)) z) 0 99=false:=(by simpa using f);refine lS (c:=c) (t8 m ?_);have:(yJ (nth (kC c) x)).all (fun n=>kj n 0 99)=false:=zV.2 ⟨_,L.kw (l:=yJ (nth (kC c) x)) (i:=z) (by omega),by rw[f];simp⟩;rw[Xf,this];simp;have f:(!kj (nth (yJ (nth (kC c) x)) z) 0 99)=false:=f;by_cases e:j=z;subst e;exact(show kj (nth (yJ (nth (kC c) x)) j) 0 99=true by simpa using f);exact t.2 j (by omega);have a:¬(z:Int)<(yJ (nth (kC c) x)).length:=jd a;have v:(yJ (nth (kC c) x)).all (fun n=>kj n 0 99)=true:=fQ (by omega) t.2;refine⟨iZ6,x+1,⟨⟨by simp,tZ⟩,tZ⟩,⟨by show x+1<=(kC c).length;omega,fun j k=> ?_⟩,by show(kC c).length-(x+1)<(kC c).length-x;omega⟩;by_cases e:j=x;subst e;show fV (U.la c) (nth (kC c) j)=true;rw[Xf,g,u,v];rfl;exact s.2 j (by omega);have h:¬(x:Int)<(kC c).length:=jd h;have A:(kC c).all (fV (U.la c))=true:=fQ (by omega) s.2;refine⟨⟨0,⟨⟨rfl,tZ⟩,tZ⟩,jv _,fun j k=>by omega⟩,fun y q d=>⟨fun b=> ?_,fun b=> ?_⟩⟩;have d:(vP c).length<4611686018427387904:=d;have b:(y:Int)<(vP c).length:=ja b;have p:d4 (nth (vP c) y)= !(!kj (V3 (nth (vP c) y)) 1 5|| !kj (ja1 (nth (vP c) y)) 1 8):=by
  unfold d4;rw[Bool.not_or,Bool.not_not,Bool.not_not]
 refine⟨by omega,b,fun _=>by omega,fun _=>b,fun a=> ?_,fun a=>⟨iZ6,y+1,⟨⟨by simp,tZ⟩,tZ⟩,⟨by show y+1<=(vP c).length;omega,fun j k=> ?_⟩,by show(vP c).length-(y+1)<(vP c).length-y;omega⟩⟩;have a:(!kj (V3 (nth (vP c) y)) 1 5|| !kj (ja1 (nth (vP c) y)) 1 8)=true:=a;exact lS (c:=c) (QX (x:=y) (by omega) (by rw[p,a];rfl));have a:(!kj (V3 (nth (vP c) y)) 1 5|| !kj (ja1 (nth (vP c) y)) 1 8)=false:=a;by_cases e:j=y;subst e;show d4 (nth (vP c) j)=true;rw[p,a];rfl;exact q.2 j (by omega);have b:¬(y:Int)<(vP c).length:=jd b;have w:(vP c).all d4=true:=fQ (by omega) q.2;show(true,())=(kU c,());rw[AH,B,A,w];rfl
theorem uR:wo PR 54 Kc:=q7 Kd Nf Tryz.func54 (kcC uQ kcN) koN
def Kg:we:=⟨[.val .int,.val .int,.val .int],[.bool],false,fun _=>[],fun d=>(kj d.1 d.2.1 d.2.2.1,())⟩
def Kh:Prop:=∀(d:Int×Int×Int×Unit),(decide (d.2.1<=d.1)&&decide (d.1<=d.2.2.1),())=(kj d.1 d.2.1 d.2.2.1,())
def CS:we:=⟨[.val tDy,.val .int],[.bool],false,fun _=>[],fun d=>(VO d.1 d.2.1,())⟩
def CT:Prop:=∀(d:DyD×Int×Unit),d.1.2.2.1.length<4611686018427387904->kM ((d.1.2.2.1.length:Int)-1)/\(kj d.2.1 (0:Int) ((d.1.2.2.1.length:Int)-1),())=(VO d.1 d.2.1,())
def Ee:we:=⟨[.val tDy,.val .int],[.bool],false,fun _=>[],fun d=>(Lb d.1 d.2.1,())⟩
def Ef:Prop:=∀(d:DyD×Int×Unit),d.1.1.2.1.length<4611686018427387904->kM ((d.1.1.2.1.length:Int)-1)/\(kj d.2.1 (0:Int) ((d.1.1.2.1.length:Int)-1),())=(Lb d.1 d.2.1,())
def Ng:we:=⟨[.val tDy],[.bool],false,fun _=>[],fun d=>(wE d.1,())⟩
def Nh:Ann:=fun r=>match r with
 |4=>some fun σ=>{X:=Nat,sl:=fun i=>[(3,.dat .int (i:Int))],ob:=fun _=>[],inv:=fun i=>i<=(wl (gb tDy σ 1)).length/\∀j:Nat,j<i->aM (wl (gb tDy σ 1)).length (nth (wl (gb tDy σ 1)) j)=true,mu:=fun i=>(wl (gb tDy σ 1)).length-i}
 |9=>some fun σ=>{X:=Nat,sl:=fun i=>[(4,.dat .int (i:Int))],ob:=fun _=>[],inv:=fun i=>i<=(nth (wl (gb tDy σ 1)) (gd .int σ 3).toNat).length/\∀j:Nat,j<i->sG (nth (nth (wl (gb tDy σ 1)) (gd .int σ 3).toNat) j)=true,mu:=fun i=>(nth (wl (gb tDy σ 1)) (gd .int σ 3).toNat).length-i}
 |15=>some fun σ=>{X:=Nat,sl:=fun i=>[(6,.dat .int (i:Int))],ob:=fun _=>[],inv:=fun i=>i<=(kB (gb tDy σ 1)).length/\∀j:Nat,j<i->iQ (wl (gb tDy σ 1)).length (nth (kB (gb tDy σ 1)) j)=true,mu:=fun i=>(kB (gb tDy σ 1)).length-i}
 |21=>some fun σ=>{X:=Nat,sl:=fun i=>[(8,.dat .int (i:Int))],ob:=fun _=>[],inv:=fun i=>i<=(kX (gb tDy σ 1)).length/\∀j:Nat,j<i->d6 (kB (gb tDy σ 1)).length (kC (kE (gb tDy σ 1))).length (nth (kX (gb tDy σ 1)) j)=true,mu:=fun i=>(kX (gb tDy σ 1)).length-i}
 |_=>none
abbrev jfl (d:DyD×Unit)(x:Nat):=(nth d.1.2.1 (x:Int).toNat)
abbrev jhr (d:DyD×Unit)(x:Nat)(a:Nat):=(decide ((nth (jfl d x) (a:Int).toNat).1<0)||decide ((nth (jfl d x) (a:Int).toNat).2.1<(nth (jfl d x) (a:Int).toNat).1)||decide ((300:Int)<(nth (jfl d x) (a:Int).toNat).2.1))
abbrev jeQ (d:DyD×Unit)(x:Nat):=(nth (wl d.1) (x:Int).toNat)
abbrev jep (d:DyD×Unit):=(d.1.2.1.length:Int)
abbrev jfJ (d:DyD×Unit)(x:Nat):=(nth d.1.q4.2.1 (x:Int).toNat)
abbrev jhs (d:DyD×Unit)(x:Nat):=(!kj (jfJ d x).1 (0:Int) (99:Int)|| !kj (jfJ d x).2.1 (0:Int) (9999:Int)|| !kj (jfJ d x).2.2.1 (1:Int) (2:Int)|| !VO d.1 (jfJ d x).2.2.2.1|| !Lb d.1 (jfJ d x).q4.1)
abbrev jfm (d:DyD×Unit):=(d.1.2.2.1.length:Int)
abbrev jgQ (x:Nat)(a:Nat):=(((x:Int)+1=(a:Int)/\True)/\True)
abbrev jfK (d:DyD×Unit)(x:Nat):=(nth d.1.2.2.1 (x:Int).toNat)
abbrev jht (d:DyD×Unit)(x:Nat):=(!kj (jfK d x).2.1 (0:Int) ((jep d)-1)||decide ((jfK d x).2.2.1<0)||decide ((jfK d x).2.2.2.1<=(jfK d x).2.2.1)||decide ((1440:Int)<(jfK d x).2.2.2.1))
abbrev jfL (d:DyD×Unit)(x:Nat):=(↑(jfl d x).length:Int)
abbrev jgd (d:DyD×Unit):=(d.1.q4.2.1.length:Int)
abbrev jhu (d:DyD×Unit):=(decide (4<(jfm d))|| !kj (jep d) (1:Int) (5:Int)|| !kj d.1.2.2.2.1 (0:Int) (300:Int)|| !kj d.1.q4.1 (0:Int) (1440:Int)||decide (30<(jgd d)))
abbrev jgR (x:Nat):=((0=(x:Int)/\True)/\True)
def Ni:Prop:=∀(d:DyD×Unit),d.1.2.2.1.length<4611686018427387904->((!decide (4<(jfm d)))=true->d.1.2.1.length<4611686018427387904)->((!(decide (4<(jfm d))|| !kj (jep d) (1:Int) (5:Int)|| !kj d.1.2.2.2.1 (0:Int) (300:Int)|| !kj d.1.q4.1 (0:Int) (1440:Int)))=true->d.1.q4.2.1.length<4611686018427387904)->((jhu d)=true->(false,())=(wE d.1,()))/\((jhu d)=false->(∃(x:Nat),(jgR x)/\x<=(wl d.1).length/\∀(j:Nat),j<x->aM (wl d.1).length (nth (wl d.1) j)=true)/\∀(x:Nat),(x<=(wl d.1).length/\∀(j:Nat),j<x->aM (wl d.1).length (nth (wl d.1) j)=true)->d.1.2.1.length<4611686018427387904->(decide ((x:Int)<(jep d))=true->0<=(x:Int)/\(x:Int)<(jep d)/\(decide ((jfL d x)≠(jep d))=true->(false,())=(wE d.1,()))/\(decide ((jfL d x)≠(jep d))=false->(∃(a:Nat),((0=(a:Int)/\True)/\True)/\a<=(jeQ d x).length/\∀(j:Nat),j<a->sG (nth (jeQ d x) j)=true)/\∀(a:Nat),(a<=(jeQ d x).length/\∀(j:Nat),j<a->sG (nth (jeQ d x) j)=true)->0<=(x:Int)/\(x:Int)<(jep d)/\((jfl d x).length<4611686018427387904->(decide ((a:Int)<(jfL d x))=true->0<=(x:Int)/\(x:Int)<(jep d)/\0<=(a:Int)/\(a:Int)<(jfL d x)/\((jhr d x a)=true->(false,())=(wE d.1,()))/\((jhr d x a)=false->kM ((a:Int)+1)/\∃(b:Nat),(((a:Int)+1=(b:Int)/\True)/\True)/\(b<=(jeQ d x).length/\∀(j:Nat),j<b->sG (nth (jeQ d x) j)=true)/\(jeQ d x).length-b<(jeQ d x).length-a))/\(decide ((a:Int)<(jfL d x))=false->kM ((x:Int)+1)/\∃(b:Nat),(jgQ x b)/\(b<=(wl d.1).length/\∀(j:Nat),j<b->aM (wl d.1).length (nth (wl d.1) j)=true)/\(wl d.1).length-b<(wl d.1).length-x))))/\(decide ((x:Int)<(jep d))=false->(∃(x:Nat),(jgR x)/\x<=(kB d.1).length/\∀(j:Nat),j<x->iQ (wl d.1).length (nth (kB d.1) j)=true)/\∀(x:Nat),(x<=(kB d.1).length/\∀(j:Nat),j<x->iQ (wl d.1).length (nth (kB d.1) j)=true)->d.1.2.2.1.length<4611686018427387904->(decide ((x:Int)<(jfm d))=true->0<=(x:Int)/\(x:Int)<(jfm d)/\(d.1.2.1.length<4611686018427387904->kM ((jep d)-1)/\((jht d x)=true->(false,())=(wE d.1,()))/\((jht d x)=false->kM ((x:Int)+1)/\∃(b:Nat),(jgQ x b)/\(b<=(kB d.1).length/\∀(j:Nat),j<b->iQ (wl d.1).length (nth (kB d.1) j)=true)/\(kB d.1).length-b<(kB d.1).length-x)))/\(decide ((x:Int)<(jfm d))=false->(∃(x:Nat),(jgR x)/\x<=(kX d.1).length/\∀(j:Nat),j<x->d6 (kB d.1).length (kC (kE d.1)).length (nth (kX d.1) j)=true)/\∀(x:Nat),(x<=(kX d.1).length/\∀(j:Nat),j<x->d6 (kB d.1).length (kC (kE d.1)).length (nth (kX d.1) j)=true)->d.1.q4.2.1.length<4611686018427387904->(decide ((x:Int)<(jgd d))=true->0<=(x:Int)/\(x:Int)<(jgd d)/\((jhs d x)=true->(false,())=(wE d.1,()))/\((jhs d x)=false->kM ((x:Int)+1)/\∃(b:Nat),(jgQ x b)/\(b<=(kX d.1).length/\∀(j:Nat),j<b->d6 (kB d.1).length (kC (kE d.1)).length (nth (kX d.1) j)=true)/\(kX d.1).length-b<(kX d.1).length-x))/\(decide ((x:Int)<(jgd d))=false->(true,())=(wE d.1,())))))
def Nj:we:=⟨[.val (.slice tSh)],[.bool],false,fun d=>[d.1.length<=1000000],fun d=>(aN d.1,())⟩
def Nk:Ann:=fun r=>match r with
 |2=>some fun σ=>{X:=Nat,sl:=fun i=>[(3,.dat .int (i:Int))],ob:=fun _=>[],inv:=fun i=>i<=(gd (.slice tSh) σ 0).length/\y8 (gd (.slice tSh) σ 0) i=false,mu:=fun i=>(gd (.slice tSh) σ 0).length-i}
 |5=>some fun σ=>{X:=Nat,sl:=fun i=>[(4,.dat .int (i:Int))],ob:=fun _=>[],inv:=fun i=>i<=(gd .int σ 3).toNat/\∀j:Nat,j<i->Dw (nth (gd (.slice tSh) σ 0) (gd .int σ 3).toNat) (nth (gd (.slice tSh) σ 0) j)=false,mu:=fun i=>(gd .int σ 3).toNat-i}
 |_=>none
abbrev jfn (d:List ShD×Unit)(x:Nat)(a:Nat):=((nth d.1 (x:Int).toNat).1=(nth d.1 (a:Int).toNat).1)
def Nm:Prop:=∀(d:List ShD×Unit),d.1.length<=1000000->(∃(x:Nat),((0=(x:Int)/\True)/\True)/\x<=d.1.length/\y8 d.1 x=false)/\∀(x:Nat),x<=d.1.length/\y8 d.1 x=false->d.1.length<4611686018427387904->(decide ((x:Int)<d.1.length)=true->(∃(a:Nat),((0=(a:Int)/\True)/\True)/\a<=(x:Int).toNat/\∀(j:Nat),j<a->Dw (nth d.1 (x:Int).toNat) (nth d.1 j)=false)/\∀(a:Nat),(a<=(x:Int).toNat/\∀(j:Nat),j<a->Dw (nth d.1 (x:Int).toNat) (nth d.1 j)=false)->(decide ((a:Int)<(x:Int))=true->0<=(x:Int)/\(x:Int)<d.1.length/\0<=(a:Int)/\(a:Int)<d.1.length/\(decide (jfn d x a)=true->0<=(x:Int))/\(decide (jfn d x a)=true->(x:Int)<d.1.length)/\(decide (jfn d x a)=true->0<=(a:Int))/\(decide (jfn d x a)=true->(a:Int)<d.1.length)/\((decide (jfn d x a)&& !decide (nth d.1 (x:Int).toNat=nth d.1 (a:Int).toNat))=true->(true,())=(aN d.1,()))/\((decide (jfn d x a)&& !decide (nth d.1 (x:Int).toNat=nth d.1 (a:Int).toNat))=false->kM ((a:Int)+1)/\∃(b:Nat),(((a:Int)+1=(b:Int)/\True)/\True)/\(b<=(x:Int).toNat/\∀(j:Nat),j<b->Dw (nth d.1 (x:Int).toNat) (nth d.1 j)=false)/\(x:Int).toNat-b<(x:Int).toNat-a))/\(decide ((a:Int)<(x:Int))=false->kM ((x:Int)+1)/\∃(b:Nat),(((x:Int)+1=(b:Int)/\True)/\True)/\(b<=d.1.length/\y8 d.1 b=false)/\d.1.length-b<d.1.length-x))/\(decide ((x:Int)<d.1.length)=false->(false,())=(aN d.1,()))
def Nn:we:=⟨[.val tDy],[.int],false,fun d=>[(kB d.1).length<=1000000],fun d=>(gL d.1,())⟩
def No:Ann:=fun r=>match r with
 |4=>some fun σ=>{X:=Nat,sl:=fun i=>[(3,.dat .int (i:Int))],ob:=fun _=>[],inv:=fun i=>i<=(kB (gb tDy σ 1)).length/\∀j:Nat,j<i->wY (kE (gb tDy σ 1)) (yV (nth (kB (gb tDy σ 1)) j))=true,mu:=fun i=>(kB (gb tDy σ 1)).length-i}
 |_=>none
def Np:Prop:=∀(d:DyD×Unit),(kB d.1).length<=1000000->((!kU d.1.1)=true->((30:Int),())=(gL d.1,()))/\((!kU d.1.1)=false->(∃(x:Nat),((0=(x:Int)/\True)/\True)/\x<=(kB d.1).length/\∀(j:Nat),j<x->wY (kE d.1) (yV (nth (kB d.1) j))=true)/\∀(x:Nat),(x<=(kB d.1).length/\∀(j:Nat),j<x->wY (kE d.1) (yV (nth (kB d.1) j))=true)->d.1.2.2.1.length<4611686018427387904->(decide ((x:Int)<d.1.2.2.1.length)=true->0<=(x:Int)/\(x:Int)<d.1.2.2.1.length/\kU d.1.1=true/\((!wY d.1.1 (nth d.1.2.2.1 (x:Int).toNat).1)=true->((31:Int),())=(gL d.1,()))/\((!wY d.1.1 (nth d.1.2.2.1 (x:Int).toNat).1)=false->kM ((x:Int)+1)/\∃(a:Nat),(((x:Int)+1=(a:Int)/\True)/\True)/\(a<=(kB d.1).length/\∀(j:Nat),j<a->wY (kE d.1) (yV (nth (kB d.1) j))=true)/\(kB d.1).length-a<(kB d.1).length-x))/\(decide ((x:Int)<d.1.2.2.1.length)=false->((!wE d.1)=true->((50:Int),())=(gL d.1,()))/\((!wE d.1)=false->d.1.q4.2.1.length<=1000000/\(aN d.1.q4.2.1=true->((51:Int),())=(gL d.1,()))/\(aN d.1.q4.2.1=false->((0:Int),())=(gL d.1,())))))
theorem Nq:Kh:=by
 rintro⟨n,a,b,⟨⟩⟩;rfl
theorem lT:wo PR 82 Kg:=wb Nq Tryz.func82 kcN koN
theorem Eg:CT:=by
 rintro⟨d,n,⟨⟩⟩ a;have a:(kB d).length<4611686018427387904:=a;exact⟨by show kM (((kB d).length:Int)-1);exact iZ6,rfl⟩
theorem CU:wo PR 83 CS:=wb Eg Tryz.func83 (kcC lT kcN) koN
theorem Hm:Ef:=by
 rintro⟨d,n,⟨⟩⟩ a;have a:(kC (kE d)).length<4611686018427387904:=a;exact⟨by show kM (((kC (kE d)).length:Int)-1);exact iZ6,rfl⟩
theorem Eh:wo PR 84 Ee:=wb Hm Tryz.func84 (kcC lT kcN) koN
theorem Ki (l:List ShD) (n:Nat):y8 l (n+1)=(y8 l n||AO l n):=by
 unfold y8;rw[ze,List.any_append];simp
theorem Hn {l:List ShD} {i:Nat} (h:∀j:Nat,j<i->Dw (nth l i) (nth l j)=false) (hi:i<=l.length):AO l i=false:=by
 unfold AO;rw[zh];intro s a;rw[zi] at a;obtain⟨j,b,rfl⟩:=a;have:=h j (by omega);rw[L.wD (l:=l) (i:=j) (by omega)] at this;simpa using this
theorem QY {l:List ShD} {i j:Nat} (hi:i<l.length) (a:j<i) (h:Dw (nth l i) (nth l j)=true):aN l=true:=by
 unfold aN y8 AO;rw[j8];refine⟨i,jC.2 hi,?_⟩;rw[j8];refine⟨nth l j,?_,h⟩;rw[zi];exact⟨j,by omega,(L.wD (by omega)).symm⟩
theorem QZ:Nm:=by
 unfold Nm jfn;rintro⟨l,⟨⟩⟩ k;have k:l.length<=1000000:=k;refine⟨⟨0,⟨⟨rfl,tZ⟩,tZ⟩,jv _,rfl⟩,fun x m _=>⟨fun h=> ?_,fun h=> ?_⟩⟩;have h:(x:Int)<l.length:=ja h;obtain⟨_,a⟩:x<=l.length/\y8 l x=false:=m;refine⟨⟨0,⟨⟨rfl,tZ⟩,tZ⟩,jv _,fun j o=>by omega⟩,fun y n=>⟨fun c=> ?_,fun c=> ?_⟩⟩;have c:(y:Int)<(x:Int):=ja c;obtain⟨_,b⟩:y<=x/\∀j:Nat,j<y->Dw (nth l x) (nth l j)=false:=n;have f:(y:Int)<l.length:=(by omega);refine⟨by omega,h,by omega,f,fun _=>by omega,fun _=>h,fun _=>by omega,fun _=>f,fun d=> ?_,fun d=>⟨iZ6,y+1,⟨⟨by simp,tZ⟩,tZ⟩,⟨by show y+1<=x;omega,fun j o=> ?_⟩,by show x-(y+1)<x-y;omega⟩⟩;have d:Dw (nth l x) (nth l y)=true:=d;have:=QY (by omega) (by omega) d;show(true,())=(aN l,());rw[this];by_cases e:j=y;subst e;exact d;exact b j (by omega);have c:¬(y:Int)<(x:Int):=jd c;obtain⟨q,b⟩:y<=x/\∀j:Nat,j<y->Dw (nth l x) (nth l j)=false:=n;have i:y=x:=(by omega);subst i;refine⟨iZ6,y+1,⟨⟨by simp,tZ⟩,tZ⟩,⟨by show y+1<=l.length;omega,?_⟩,by show l.length-(y+1)<l.length-y;omega⟩;show y8 l (y+1)=false;rw[Ki,a,Hn b (by omega)];rfl;have h:¬(x:Int)<l.length:=jd h;obtain⟨p,a⟩:x<=l.length/\y8 l x=false:=m;have g:x=l.length:=(by omega);subst g;show(false,())=(aN l,());unfold aN;rw[a]
theorem Nr:wo PR 57 Nj:=q7 Nk QZ Tryz.func57 kcN koN
theorem Q1:Np:=by
 unfold Np Prod.q4;rintro⟨d,⟨⟩⟩ k;have k:(kB d).length<=1000000:=k;refine⟨fun h=> ?_,fun h=> ?_⟩;have h:kU (kE d)=false:=(by simpa using(show(!kU (kE d))=true from h));show((30:Int),())=(gL d,());unfold gL;rw[h];rfl;have g:kU (kE d)=true:=(by simpa using(show(!kU (kE d))=false from h));refine⟨⟨0,⟨⟨rfl,tZ⟩,tZ⟩,jv _,fun j f=>by omega⟩,fun x m _=>⟨fun h=> ?_,fun h=> ?_⟩⟩;have h:(x:Int)<(kB d).length:=ja h;refine⟨by omega,h,g,fun a=> ?_,fun a=>⟨iZ6,x+1,⟨⟨by simp,tZ⟩,tZ⟩,⟨by show x+1<=(kB d).length;omega,fun j f=> ?_⟩,by show(kB d).length-(x+1)<(kB d).length-x;omega⟩⟩;have a:wY (kE d) (yV (nth (kB d) x))=false:=(by simpa using(show(!wY (kE d) (yV (nth (kB d) x)))=true from a));have f:K6 d=false:=by
  unfold K6;exact zV.2 ⟨_,L.kw (l:=kB d) (i:=x) (by omega),by rw[a];simp⟩
 show((31:Int),())=(gL d,());unfold gL;rw[g,f];rfl;have a:wY (kE d) (yV (nth (kB d) x))=true:=(by simpa using(show(!wY (kE d) (yV (nth (kB d) x)))=false from a));by_cases e:j=x;subst e;exact a;exact m.2 j (by omega);have h:¬(x:Int)<(kB d).length:=jd h;have f:K6 d=true:=fQ (p:=fun b=>wY (kE d) (yV b)) (by omega) m.2;refine⟨fun a=> ?_,fun a=> ?_⟩;have a:wE d=false:=(by simpa using(show(!wE d)=true from a));show((50:Int),())=(gL d,());unfold gL;rw[g,f,a];rfl;have a:wE d=true:=(by simpa using(show(!wE d)=false from a));have n:(kX d).length<=30:=(vb a).2.2.2.2.1;refine⟨by show(kX d).length<=1000000;omega,fun c=> ?_,fun c=> ?_⟩;have c:aN (kX d)=true:=c;show((51:Int),())=(gL d,());unfold gL;rw[g,f,a,c];rfl;have c:aN (kX d)=false:=c;show((0:Int),())=(gL d,());unfold gL;rw[g,f,a,c];rfl
end Go.X
namespace Go.X
open U
open Go.Proofs
def jbC (d:DyD):Bool:=decide (4<((kB d).length:Int))|| !kj ((wl d).length:Int) 1 5|| !kj (K5 d) 0 300|| !kj (X5 d) 0 1440||decide (30<((kX d).length:Int))
def spH (s:SpD):Bool:=decide (U.lo s<0)||decide (U.hi s<U.lo s)||decide (300<U.hi s)
def bkH (n:Nat) (b:BkD):Bool:= !kj (jaM b) 0 ((n:Int)-1)||decide (qn b<0)||decide (mN b<=qn b)||decide (1440<mN b)
def shH (d:DyD) (s:ShD):Bool:= !kj (yc s) 0 99|| !kj (Ip s) 0 9999|| !kj (V4 s) 1 2|| !VO d (K4 s)|| !Lb d (nU s)
theorem Uw (d:DyD):wE d=(!jbC d&&((wl d).all (aM (wl d).length)&&((kB d).all (iQ (wl d).length)&&(kX d).all (d6 (kB d).length (kC (kE d)).length)))):=by
 unfold wE jbC;congr 1;rw[j6];simp only[kj,jN,jP,jD,zc,ji,jr];omega
theorem YF (s:SpD):sG s= !spH s:=by
 unfold sG spH;rw[j6];simp only[jN,jP,jD,jr];omega
theorem YG (n:Nat) (b:BkD):iQ n b= !bkH n b:=by
 unfold iQ bkH;rw[j6];simp only[kj,jN,jP,jD,zc,ji,jr];omega
theorem YH (d:DyD) (s:ShD):d6 (kB d).length (kC (kE d)).length s= !shH d s:=by
 unfold d6 shH VO Lb;rw[j6];simp only[kj,jN,jP,zc,ji,jr];omega
theorem Kj {d:DyD} (h:jbC d=true\/(wl d).all (aM (wl d).length)=false\/(kB d).all (iQ (wl d).length)=false\/(kX d).all (d6 (kB d).length (kC (kE d)).length)=false):(false,())=(wE d,()):=by
 have:wE d=false:=by
  rw[Uw];rcases h with h|h|h|h<;>rw[h]<;>simp
 rw[this]
theorem Kk {α:Type} [Inhabited α] {l:List α} {p:α->Bool} {x:Nat} (a:x<l.length) (h:p (nth l x)=false):l.all p=false:=zV.2 ⟨_,L.kw a,by rw[h];simp⟩
theorem Q2:Ni:=by
 unfold Ni jgR jhu jgd jfL jht jfK jgQ jfm jhs jfJ jep jeQ jhr jfl Prod.q4;rintro⟨d,⟨⟩⟩ _ _ _;refine⟨fun h=>Kj (d:=d) (.inl h),fun k=> ?_⟩;have k:jbC d=false:=k;have l:=k;unfold jbC at l;simp only[kj,jP,jD,zc,ji,jr] at l;refine⟨⟨0,⟨⟨rfl,tZ⟩,tZ⟩,jv _,fun j g=>by omega⟩,fun x c _=>⟨fun h=> ?_,fun h=> ?_⟩⟩;have h:(x:Int)<(wl d).length:=ja h;have b:x<(wl d).length:=(by omega);refine⟨by omega,h,fun a=> ?_,fun a=>⟨⟨0,⟨⟨rfl,tZ⟩,tZ⟩,jv _,fun j g=>by omega⟩,fun y n=>⟨by omega,h,fun m=>⟨fun i=> ?_,fun i=> ?_⟩⟩⟩⟩;have a:¬((nth (wl d) x).length:Int)=(wl d).length:=ja a;refine Kj (d:=d) (.inr (.inl (Kk b ?_)));unfold aM;rw[zl (by omega)];rfl;have m:(nth (wl d) x).length<4611686018427387904:=m;have i:(y:Int)<(nth (wl d) x).length:=ja i;refine⟨by omega,h,by omega,i,fun f=> ?_,fun f=>⟨iZ6,y+1,⟨⟨by simp,tZ⟩,tZ⟩,⟨by show y+1<=(nth (wl d) x).length;omega,fun j g=> ?_⟩,by show(nth (wl d) x).length-(y+1)<(nth (wl d) x).length-y;omega⟩⟩;have f:spH (nth (nth (wl d) x) y)=true:=f;refine Kj (d:=d) (.inr (.inl (Kk b ?_)));have:(nth (wl d) x).all sG=false:=Kk (x:=y) (by omega) (by rw[YF,f];rfl);unfold aM;rw[this,Bool.and_false];have f:spH (nth (nth (wl d) x) y)=false:=f;by_cases e:j=y;subst e;show sG (nth (nth (wl d) x) j)=true;rw[YF,f];rfl;exact n.2 j (by omega);have i:¬(y:Int)<(nth (wl d) x).length:=jd i;have a:((nth (wl d) x).length:Int)=(wl d).length:=jM.1 (jd a);have o:(nth (wl d) x).all sG=true:=fQ (by omega) n.2;refine⟨iZ6,x+1,⟨⟨by simp,tZ⟩,tZ⟩,⟨by show x+1<=(wl d).length;omega,fun j g=> ?_⟩,by show(wl d).length-(x+1)<(wl d).length-x;omega⟩;by_cases e:j=x;subst e;show aM (wl d).length (nth (wl d) j)=true;unfold aM;rw[o,jJ (by omega)];rfl;exact c.2 j (by omega);have h:¬(x:Int)<(wl d).length:=jd h;have r:(wl d).all (aM (wl d).length)=true:=fQ (by omega) c.2;clear c h;refine⟨⟨0,⟨⟨rfl,tZ⟩,tZ⟩,jv _,fun j g=>by omega⟩,fun x c _=>⟨fun h=> ?_,fun h=> ?_⟩⟩;have h:(x:Int)<(kB d).length:=ja h;have b:x<(kB d).length:=(by omega);refine⟨by omega,h,fun _=>⟨by show kM (((wl d).length:Int)-1);exact iZ6,fun a=> ?_,fun a=>⟨iZ6,x+1,⟨⟨by simp,tZ⟩,tZ⟩,⟨by show x+1<=(kB d).length;omega,fun j g=> ?_⟩,by show(kB d).length-(x+1)<(kB d).length-x;omega⟩⟩⟩;have a:bkH (wl d).length (nth (kB d) x)=true:=a;exact Kj (d:=d) (.inr (.inr (.inl (Kk b (by rw[YG,a];rfl)))));have a:bkH (wl d).length (nth (kB d) x)=false:=a;by_cases e:j=x;subst e;show iQ (wl d).length (nth (kB d) j)=true;rw[YG,a];rfl;exact c.2 j (by omega);have h:¬(x:Int)<(kB d).length:=jd h;have p:(kB d).all (iQ (wl d).length)=true:=fQ (by omega) c.2;clear c h;refine⟨⟨0,⟨⟨rfl,tZ⟩,tZ⟩,jv _,fun j g=>by omega⟩,fun x c _=>⟨fun h=> ?_,fun h=> ?_⟩⟩;have h:(x:Int)<(kX d).length:=ja h;have b:x<(kX d).length:=(by omega);refine⟨by omega,h,fun a=> ?_,fun a=>⟨iZ6,x+1,⟨⟨by simp,tZ⟩,tZ⟩,⟨by show x+1<=(kX d).length;omega,fun j g=> ?_⟩,by show(kX d).length-(x+1)<(kX d).length-x;omega⟩⟩;have a:shH d (nth (kX d) x)=true:=a;exact Kj (d:=d) (.inr (.inr (.inr (Kk b (by rw[YH,a];rfl)))));have a:shH d (nth (kX d) x)=false:=a;by_cases e:j=x;subst e;show d6 (kB d).length (kC (kE d)).length (nth (kX d) j)=true;rw[YH,a];rfl;exact c.2 j (by omega);have h:¬(x:Int)<(kX d).length:=jd h;have q:(kX d).all (d6 (kB d).length (kC (kE d)).length)=true:=fQ (by omega) c.2;show(true,())=(wE d,());rw[Uw,k,r,p,q];rfl
theorem Ns:wo PR 56 Ng:=q7 Nh Q2 Tryz.func56 (kcC lT (kcC CU (kcC Eh kcN))) koN
theorem CV:wo PR 31 Nn:=q7 No Q1 Tryz.func31 (kcC uR (kcC Nd (kcC Ns (kcC Nr kcN)))) koN
namespace U
def VQ (l:List ShD) (i n:Nat):Bool:=decide (V4 (nth l i)=1)&& !((l.take n).any (fun t=>decide (K4 t=K4 (nth l i))&&decide (nU t=nU (nth l i))&&yC t (nth l i)))
def jce (l:List ShD) (n:Nat):List ShD:=((List.range n).filter (fun i=>VQ l i l.length)).map (nth l)
def nV (l:List ShD) (n:Nat):Nat:=(List.range n).foldl (fun f i=>if yC (nth l f) (nth l i)=true then i else f) 0
def yK (l:List ShD):Nat->List ShD×List ShD
 |0=>([],l)
 |n+1=>((yK l n).1++[nth (yK l n).2 (nV (yK l n).2 (yK l n).2.length)],(yK l n).2.take (nV (yK l n).2 (yK l n).2.length)++(yK l n).2.drop (nV (yK l n).2 (yK l n).2.length+1))
def EJ (d:DyD):List ShD:=jce (Dx (kX d)) (Dx (kX d)).length
def PE (d:DyD):List ShD:=(yK (EJ d) (EJ d).length).1
def YY (d:DyD) (n:Nat):List Int×List Int:=((PE d).take n).foldl (F4 d) (List.replicate (kB d).length 0,[])
def PF (d:DyD):List Int×List Int:=YY d (PE d).length
def Lc (d:DyD):List Int:=if gL d=0 then(PF d).1 else[]
end U
end Go.X
namespace Go.X
open U
theorem FK (l:List ShD) (n:Nat):nV l (n+1)=if yC (nth l (nV l n)) (nth l n)=true then n else nV l n:=by
 unfold nV;rw[ze,jT];rfl
theorem AI (l:List ShD):∀n,n<=l.length->0<l.length->nV l n<l.length
 |0,_,h=>h
 |n+1,a,h=>by
  have b:=AI l n (by omega) h
  rw[FK]
  split<;>omega
theorem AJ (l:List ShD):∀n,n<=l.length->(yK l n).1.length=n/\(yK l n).2.length=l.length-n
 |0,_=>⟨rfl,rfl⟩
 |n+1,d=>by
  obtain⟨a,b⟩:=AJ l n (by omega)
  have c:=AI (yK l n).2 _ (jj _) (by omega)
  refine⟨?_,?_⟩
  show((yK l n).1++[_]).length=_
  rw[jI,a];rfl
  show((yK l n).2.take _++(yK l n).2.drop _).length=_
  rw[jI,jX,z6]
  omega
theorem Xg {α:Type} [Inhabited α] {l:List α} {m:Nat} (h:m<l.length):(nth l m::(l.take m++l.drop (m+1))).Perm l:=by
 have e:l=l.take m++nth l m::l.drop (m+1):=by
  conv=>lhs;rw[<-z7 m l]
  rw[kc h,L.wD h]
 conv=>rhs;rw[e]
 exact List.perm_middle.symm
theorem Kl (l:List ShD):∀n,n<=l.length->((yK l n).1++(yK l n).2).Perm l
 |0,_=>List.Perm.refl _
 |n+1,d=>by
  have b:=Kl l n (by omega)
  have c:=AJ l n (by omega)
  have a:=AI (yK l n).2 _ (jj _) (by omega)
  refine List.Perm.trans ?_ b
  show((yK l n).1++[nth (yK l n).2 (nV (yK l n).2 (yK l n).2.length)]++_).Perm _
  rw[jK]
  exact List.Perm.append_left _ (Xg a)
theorem Pg {l:List ShD} {s:ShD} (h:s∈Dx l):s∈l:=by
 unfold Dx VK at h;obtain⟨m,_,h⟩:=List.mem_flatMap.1 h;unfold X6 at h;obtain⟨i,hi,rfl⟩:=jS.1 h;exact L.kw (jC.1 (jL.1 hi).1)
open Go.Proofs
theorem YI {d:DyD} (h:gL d=0):Iq d:=(qL ((gx d).trans h)).1
attribute [local irreducible] PE YY il U.on
end Go.X
namespace Go.X
open U
theorem mF (c:CrD) (j:JbD) (i:Nat):(vd (c,j,d7 c j,()) (nth (kC c) i)=0)↔y9 c j (i:Int)=true:=by
 show RX (K7 (nth (kC c) i) (X3 j)) (!vD (U.fd (nth (kC c) i)) (X4 j)) (!vD (U.cl (nth (kC c) i)) (iT j))=0↔
  (!(K7 (nth (kC c) ((i:Int)).toNat) (X3 j))&&vD (U.fd (nth (kC c) ((i:Int)).toNat)) (X4 j)&&vD (U.cl (nth (kC c) ((i:Int)).toNat)) (iT j))=true
 rw[ju];generalize K7 (nth (kC c) i) (X3 j)=x;generalize vD (U.fd (nth (kC c) i)) (X4 j)=y;generalize vD (U.cl (nth (kC c) i)) (iT j)=z;cases x<;>cases y<;>cases z<;>decide
theorem jaa {c:CrD} {j:JbD} (b:kU c=true) (d:wY c j=true) (p:Nat):(p:Int)∈cv c j↔p<(kC c).length/\y9 c j (p:Int)=true:=by
 have a:qr c j=0:=(by unfold qr;rw[b,d];rfl);unfold cv bN;rw[je a,jS];refine⟨fun⟨i,hi,e⟩=> ?_,fun h=>⟨p,?_,rfl⟩⟩;have e:i=p:=(by omega);subst e;have:=jL.1 hi;exact⟨jC.1 this.1,(mF c j i).1 (ja this.2)⟩;exact jL.2 ⟨jC.2 h.1,jJ ((mF c j p).2 h.2)⟩
theorem Ux {l:List Int} (h:∀p∈l,0<=p/\p<8):∀n,n<=l.length->∀q,BT.has (iq l n) q=(l.take n).any (fun p=>decide (p.toNat=q))
 |0,_,q=>BT.sQ q
 |n+1,c,q=>by
  have b:=Ux h n (by omega) q
  have a:=pg h n (by omega)
  have d:=h _ (L.kw (l:=l) (i:=n) (by omega))
  rw[t7 (by omega),CO,BT.has_bor a.1 (BT.mQ (by omega)),b,BT.AQ,L.k8 (by omega),List.any_append]
  simp
theorem Uy {l:List Int} (h:∀p∈l,0<=p/\p<8) (q:Nat):BT.has (PB l) q=l.any (fun p=>decide (p.toNat=q)):=by
 have:=Ux h l.length (jj _) q;rw[zD] at this;exact this
theorem Xh {d:DyD} {b:Nat} (a:b<(kB d).length):nth (vf d (kB d).length) b=PB (cv (kE d) (yV (nth (kB d) b))):=by
 unfold vf;rw[zD,L.nth_map a]
theorem YJ {d:DyD} (a:Iq d) {b:Nat} (c:b<(kB d).length):wY (kE d) (yV (nth (kB d) b))=true:=
 jV.1 a.2.1 _ (L.kw c)
theorem jab {d:DyD} (g:Iq d) {b p:Int} (m:aG d b) (n:Sc d p):decide (nY (nth (vf d (kB d).length) b.toNat/2^p.toNat) 1=0)= !y9 (kE d) (yV (U.bk d b)) p:=by
 unfold aG at m;unfold Sc at n;have a:b.toNat<(kB d).length:=(by omega);have j:=fun q (c:q∈cv (kE d) (yV (nth (kB d) b.toNat)))=>Ur g.1 c
 have o:BT.qS (PB (cv (kE d) (yV (nth (kB d) b.toNat)))):=(pg j _ (jj _)).1;have i:U.bk d b=nth (kB d) b.toNat:=rfl;rw[Xh a,BT.bit_num o,i];have k:=Uy j p.toNat;have f:=jaa g.1 (YJ g a) p.toNat;have ep:((p.toNat:Nat):Int)=p:=(by omega);rw[ep] at f;have l:BT.has (PB (cv (kE d) (yV (nth (kB d) b.toNat)))) p.toNat=y9 (kE d) (yV (nth (kB d) b.toNat)) p:=by
  rw[k];cases h:y9 (kE d) (yV (nth (kB d) b.toNat)) p with
  |true=>exact j8.2 ⟨p,f.2 ⟨by omega,h⟩,by simp⟩
  |false=>
   refine zh.2 fun q c e=> ?_
   have e:q.toNat=p.toNat:=ja e;have:=j q c;have e:q=p:=(by omega);rw[e] at c;rw[(f.1 c).2] at h;cases h
 rw[l];cases y9 (kE d) (yV (nth (kB d) b.toNat)) p<;>rfl
theorem Km {α:Type} [Inhabited α] {R:α->α->Prop} {l:List α}:(∀i,i<l.length->∀b∈l.take i,R b (nth l i))↔l.Pairwise R:=by
 rw[zz];refine⟨fun h i j hi a d=> ?_,fun h i hi b c=> ?_⟩;have:=h j a l[i] (zi.2 ⟨i,by omega,rfl⟩);rw[L.wD a] at this;exact this;obtain⟨k,hk,rfl⟩:=zi.1 c;rw[L.wD hi];exact h k i (by omega) hi (by omega)
theorem Uz {α:Type} [Inhabited α] {R:α->α->Prop} {l:List α}:(∀i,i<l.length->∀b∈l.drop (i+1),R (nth l i) b)↔l.Pairwise R:=by
 rw[zz];refine⟨fun h i j hi d c=> ?_,fun h i hi b a=> ?_⟩;have:=h i hi l[j] (List.mem_drop_iff_getElem.2 ⟨j-(i+1),by omega,by congr 1;omega⟩);rw[L.wD hi] at this;exact this;obtain⟨k,hk,rfl⟩:=List.mem_drop_iff_getElem.1 a;rw[L.wD hi];exact h i (i+1+k) hi (by omega) (by omega)
theorem lU (d:DyD) (a b:Int):cu d a b=true↔(qn (U.bk d a)<qn (U.bk d b)\/(qn (U.bk d a)=qn (U.bk d b)/\a<b)):=decide_eq_true_iff
theorem lV (d:DyD) (a b:Int):cu d a b=false↔¬(qn (U.bk d a)<qn (U.bk d b)\/(qn (U.bk d a)=qn (U.bk d b)/\a<b)):=jD
theorem UA (d:DyD) (l:List Int):qP (cu d) l where
 irrefl x _:=(lV d x x).2 (by omega)
 trans x y z _ _ _ a b:=by
  have a:=(lU d x y).1 a;have b:=(lU d y z).1 b;exact(lU d x z).2 (by omega)
 total x y _ _ a b:=by
  have a:=(lV d x y).1 a;have b:=(lV d y x).1 b;omega
theorem CW {d:DyD} {a b:Int} (h:a≠b) (c:cu d b a=false):cu d a b=true:=by
 have c:=(lV d b a).1 c;exact(lU d a b).2 (by omega)
theorem Q3 {d:DyD} {a b:Int} (c:cu d a b=true):cu d b a=false:=by
 have c:=(lU d a b).1 c;exact(lV d b a).2 (by omega)
theorem sj {d:DyD} {a b:Int} (h:cu d a b=true):(l5 d b a=decide (0<=bL d a b))/\(l5 d a b=decide (0<=bL d a b)):=by
 unfold l5;rw[je h,Q3 h,jc (by simp)];exact⟨rfl,rfl⟩
theorem Xi {d:DyD} {a b:Int} (h:a≠b):l5 d a b=l5 d b a:=by
 cases c:cu d b a with
 |false=>have:=sj (CW h c);rw[this.1,this.2]
 |true=>have:=sj c;rw[this.1,this.2]
def TgR (d:DyD) (a b:Int):Prop:=a≠b->l5 d b a=true
theorem UB {d:DyD} {l:List Int} (f:l.Nodup):jca d l=true↔l.Pairwise (TgR d):=by
 rw[<-Km];unfold jca;rw[jV];have e:∀i,i<l.length->∀b∈l.take i,b≠nth l i:=(Km (R:=fun a b=>a≠b)).2 f;refine⟨fun h i hi b c _=> ?_,fun h i hi=>jV.2 fun b c=> ?_⟩;exact jV.1 (h i (jC.2 hi)) b c;exact h i (jC.1 hi) b c (e i (jC.1 hi) b c)
theorem TgR.symm {d:DyD} {a b:Int} (h:TgR d a b):TgR d b a:=fun e=>(Xi (Ne.symm e)).trans (h (Ne.symm e))
theorem UC {d:DyD} {l l':List Int} (h:l.Perm l'):N9 d l=N9 d l':=by
 unfold N9;exact List.Perm.foldl_eq' (h.map _) (fun x _ y _ z=>by omega) 0
theorem Ho (d:DyD) (p:Int) {l:List Int} (a:l.Nodup):il d p l=true↔(∀b∈l,y9 (kE d) (yV (U.bk d b)) p=true)/\l.Pairwise (TgR d)/\N9 d l<=X5 d:=by
 unfold il;rw[ji,ji,jV,UB a,decide_eq_true_iff]
theorem FL (d:DyD) (p:Int) {l l':List Int} (h:l.Perm l') (g:l.Nodup):il d p l=il d p l':=by
 have f:=h.nodup_iff.1 g;refine j6.2 ?_;rw[Ho d p g,Ho d p f,UC h,h.pairwise_iff (fun h=>TgR.symm h)];exact⟨fun⟨a,c⟩=>⟨fun b e=>a b (h.mem_iff.2 e),c⟩,fun⟨a,c⟩=>⟨fun b e=>a b (h.mem_iff.1 e),c⟩⟩
theorem Xj (d:DyD) (may:List Int) (p:Int) (s:List Int):jaO d may p s=true↔(∀b∈s,decide (nY (nth may b.toNat/2^p.toNat) 1=0)=false)/\s.Pairwise (fun a b=>0<=bL d a b)/\N9 d s<=X5 d:=by
 rw[<-Uz];unfold jaO;rw[ji,decide_eq_true_iff,jV,<-and_assoc];refine and_congr_left fun _=> ?_
 have e:∀i,Ie d may p s i=true↔decide (nY (nth may (nth s i).toNat/2^p.toNat) 1=0)=false/\∀b∈s.drop (i+1),0<=bL d (nth s i) b:=by
  intro i;unfold Ie;rw[jN,jP,zh];refine and_congr_right fun _=>⟨fun h b c=> ?_,fun h b c=> ?_⟩
  have:=h b c;simp at this;omega;have:=h b c;simp;omega
 refine⟨fun h=>⟨fun b c=> ?_,fun i hi=>((e i).1 (h i (jC.2 hi))).2⟩,fun h i hi=>(e i).2 ⟨h.1 _ (L.kw (jC.1 hi)),h.2 i (jC.1 hi)⟩⟩;obtain⟨i,hi,rfl⟩:=L.mem_iff.1 c;exact((e i).1 (h i (jC.2 hi))).1
theorem jac {d:DyD} {may:List Int} {p:Int} {l:List Int} (m:l.Nodup) (j:∀b∈l,decide (nY (nth may b.toNat/2^p.toNat) 1=0)= !y9 (kE d) (yV (U.bk d b)) p):Oc d may p l=il d p l:=by
 have f:(kF d l).Perm l:=wq l;have c:(kF d l).Nodup:=f.nodup_iff.2 m;have k:(kF d l).Pairwise (fun a b=>cu d b a=false):=ba (UA d l);rw[<-FL d p f c];unfold Oc;refine j6.2 ?_;rw[Xj,Ho d p c];have i:=List.Pairwise.and k c;refine and_congr ⟨fun h b e=> ?_,fun h b e=> ?_⟩ (and_congr_left fun _=>⟨fun h=> ?_,fun h=> ?_⟩);have g:=h b e;rw[j b (f.mem_iff.1 e)] at g;simpa using g;rw[j b (f.mem_iff.1 e),h b e];rfl;refine(List.Pairwise.and i h).imp fun{a b} x _=> ?_
 rw[(sj (CW x.1.2 x.1.1)).1];exact jJ x.2;refine(List.Pairwise.and i h).imp fun{a b} x=> ?_
 have:=x.2 x.1.2;rw[(sj (CW x.1.2 x.1.1)).1] at this;exact ja this
theorem lW (a b:ShD):yC a b=true↔(Ip b<Ip a\/(Ip a=Ip b/\yc b<yc a)):=decide_eq_true_iff
theorem sk (a b:ShD):yC a b=false↔¬(Ip b<Ip a\/(Ip a=Ip b/\yc b<yc a)):=jD
theorem cr (a:ShD):yC a a=false:=(sk a a).2 (by omega)
theorem FM {a b:ShD} (h:yC a b=true):yC b a=false:=by
 have h:=(lW a b).1 h;exact(sk b a).2 (by omega)
theorem CX {a b c:ShD} (d:yC a b=true) (e:yC b c=true):yC a c=true:=by
 have d:=(lW a b).1 d;have e:=(lW b c).1 e;exact(lW a c).2 (by omega)
theorem Xk (a b:ShD):kK a b<0↔yC b a=true:=by
 rw[lW];unfold kK;rw[ww,qD]
 split
 rename_i h;have c:¬Ip a=Ip b:=fun e=>h (gS.2 e)
 rw[T7];omega;rename_i h;have d:Ip a=Ip b:=gS.1 (jM.1 h);rw[T7];omega
theorem UD {l:List ShD} (hi:∀a∈l,∀b∈l,yc a=yc b->a=b):qP VL l where
 irrefl x _:=cr x
 trans x y z _ _ _ c d:=CX d c
 total x y hx hy c d:=by
  have c:=(sk y x).1 c;have d:=(sk x y).1 d;exact hi x hx y hy (by omega)
theorem UE {l:List ShD}:∀i,i<l.length->∃j,j<l.length/\nth l j=nth l i/\Ib l j=true:=by
 intro i
 induction i using Nat.strongRecOn with
 |_ i d=>
  intro hi;cases h:Ib l i with
  |true=>exact⟨i,hi,rfl,h⟩
  |false=>
   simp only[Ib,zc] at h;obtain⟨x,c,e⟩:=j8.1 h;obtain⟨k,hk,rfl⟩:=zi.1 c;have e:l[k]=nth l i:=ja e;obtain⟨j,b,a,e2⟩:=d k (by omega) (by omega);exact⟨j,b,by rw[a,L.wD (by omega)];exact e,e2⟩
theorem UF {l:List ShD} {s:ShD} (h:s∈l) (c:0<=yc s) (d:yc s<=99):s∈Dx l:=by
 obtain⟨i,hi,rfl⟩:=L.mem_iff.1 h;obtain⟨j,b,a,e2⟩:=UE i hi;unfold Dx VK;refine List.mem_flatMap.2 ⟨(yc (nth l i)).toNat,jC.2 (by omega),?_⟩;unfold X6;refine jS.2 ⟨j,jL.2 ⟨jC.2 b,?_⟩,a⟩;show(decide (yc (nth l j)=(((yc (nth l i)).toNat:Nat):Int))&&Ib l j)=true;rw[e2,a,Bool.and_true];exact jJ (by omega)
theorem Ph {l:List ShD} {n m:Nat} {s:ShD} (h:s∈X6 l n m):yc s=(m:Int):=by
 unfold X6 at h;obtain⟨i,hi,rfl⟩:=jS.1 h;have a:=(jL.1 hi).2;rw[ji] at a;exact ja a.1
theorem FN (l:List ShD):(Dx l).Nodup:=by
 unfold Dx VK;refine List.pairwise_flatMap.2 ⟨fun m _=> ?_,?_⟩;unfold X6;refine zL.2 (List.Pairwise.imp_of_mem ?_ (List.Pairwise.filter _ List.pairwise_lt_range));intro i j hi c k e;have c:=jL.1 c;have d:=c.2;rw[ji] at d;have f:=d.2;have n:=jC.1 c.1;have o:((l.take j).any (fun x=>decide (x=nth l j)))=true:=
  j8.2 ⟨nth l i,zi.2 ⟨i,by omega,(L.wD (by omega)).symm⟩,jJ e⟩
 unfold Ib at f;rw[o] at f;cases f;refine List.Pairwise.imp ?_ List.pairwise_lt_range;intro a b h x p y q e;have g:=Ph p;have d:=Ph q;rw[e] at g;omega
theorem Pi (t s:ShD):bZ t=bZ s↔K4 t=K4 s/\nU t=nU s:=by
 unfold bZ;refine⟨fun h=>⟨jR (·.1) h,jR (·.2.1) h⟩,fun h=>by rw[h.1,h.2]⟩
theorem CY (l:List ShD) (s:ShD):AP l s=true↔V4 s=1/\∀t∈l,bZ t=bZ s->yC t s=false:=by
 unfold AP;rw[ji,decide_eq_true_iff,jN,zh];refine and_congr_right fun _=>⟨fun h t a e=> ?_,fun h t a e=> ?_⟩
 have e:=(Pi t s).1 e;have:=h t a;rw[e.1,e.2,jJ rfl,jJ rfl] at this;simpa using this;rw[ji,ji,decide_eq_true_iff,decide_eq_true_iff] at e;rw[h t a ((Pi t s).2 e.1)] at e;exact absurd e.2 (by simp)
theorem Hp (d:DyD):EJ d=(Dx (kX d)).filter (AP (Dx (kX d))):=by
 unfold EJ;generalize Dx (kX d)=l;unfold jce;have e:(fun i=>VQ l i l.length)=(AP l)∘(nth l):=by
  funext i;unfold VQ;rw[zD];rfl
 rw[e];have:=List.filter_map (f:=nth l) (p:=AP l) (l:=List.range l.length);rw[<-this,L.range_map_nth]
theorem Kn (l:List ShD):∀n,∀i,i<n->yC (nth l (nV l n)) (nth l i)=false
 |0,i,h=>absurd h (by omega)
 |n+1,i,h=>by
  have b:=Kn l n
  rw[FK]
  split
  rename_i a
  rcases Nat.lt_succ_iff_lt_or_eq.1 h with h|h
  cases c:yC (nth l n) (nth l i) with
  |false=>rfl
  |true=>have:=CX a c;rw[b i h] at this;cases this
  subst h;exact cr _
  rename_i a
  rcases Nat.lt_succ_iff_lt_or_eq.1 h with h|h
  exact b i h
  subst h;simpa using a
theorem UG (l:List ShD):∀n,n<=l.length->(yK l n).1.Pairwise (fun a b=>yC a b=false)/\∀a∈(yK l n).1,∀b∈(yK l n).2,yC a b=false
 |0,_=>⟨List.Pairwise.nil,fun a d=>by cases d⟩
 |n+1,m=>by
  obtain⟨j,g⟩:=UG l n (by omega)
  have k:=AJ l n (by omega)
  have h:=AI (yK l n).2 _ (jj _) (by omega)
  have e:=Kn (yK l n).2 (yK l n).2.length
  have f:∀b∈(yK l n).2.take (nV (yK l n).2 (yK l n).2.length)++(yK l n).2.drop (nV (yK l n).2 (yK l n).2.length+1),b∈(yK l n).2:=by
   intro b c;rcases js.1 c with c|c;exact zS c;exact ke c
  refine⟨List.pairwise_append.2 ⟨j,List.pairwise_singleton _ _,fun a d b c=> ?_⟩,fun a d b c=> ?_⟩;simp at c;subst c;exact g a d _ (L.kw h);have c:=f b c;have d:a∈(yK l n).1++[nth (yK l n).2 (nV (yK l n).2 (yK l n).2.length)]:=d;rcases js.1 d with d|d;exact g a d b c;simp at d;subst d;obtain⟨i,hi,rfl⟩:=L.mem_iff.1 c;exact e i hi
theorem Nt (d:DyD):O5 VL (PE d):=(UG (EJ d) _ (jj _)).1
theorem AK (d:DyD):(PE d).Perm (EJ d):=by
 have a:=Kl (EJ d) (EJ d).length (jj _);have b:=(AJ (EJ d) (EJ d).length (jj _)).2;have:(yK (EJ d) (EJ d).length).2=[]:=List.length_eq_zero_iff.1 (by omega);rw[this,j9] at a;exact a
theorem Pj {l:List ShD} (i:l.Pairwise (fun a b=>yC b a=true)):∀n,n<=l.length->∀s∈l.take n,(kW (Ty.dflt tSh) (kL tSt (bZ s) (qa l n))=s↔∀t∈l.take n,bZ t=bZ s->yC t s=false)
 |0,_,s,c=>by simp at c
 |n+1,k,s,c=>by
  have j:=Pj i n (by omega)
  have g:(l.take (n+1)).Pairwise (fun a b=>yC b a=true):=i.sublist (List.take_sublist _ _)
  rw[L.k8 (by omega)] at g c
  have f:∀t∈l.take n,yC (nth l n) t=true:=fun t d=>(List.pairwise_append.1 g).2.2 t d _ (by simp)
  rw[CR (by omega),L.k8 (by omega)]
  by_cases hk:bZ s=bZ (nth l n)
  rw[hk,M.pC]
  show nth l n=s↔_
  rcases js.1 c with c|c
  refine⟨fun e=> ?_,fun h=> ?_⟩
  have:=f s c
  rw[e,cr] at this;cases this
  have:=h (nth l n) (by simp) rfl
  rw[f s c] at this;cases this
  simp at c;subst c
  refine⟨fun _ t d _=> ?_,fun _=>rfl⟩
  rcases js.1 d with d|d
  exact FM (f t d)
  simp at d;subst d;exact cr _
  rw[M.cT hk]
  have c:s∈l.take n:=by
   rcases js.1 c with c|c;exact c;simp at c;subst c;exact absurd rfl hk
  rw[j s c];refine⟨fun h t d e=> ?_,fun h t d=>h t (jh _ d)⟩;rcases js.1 d with d|d;exact h t d e;simp at d;subst d;exact absurd e.symm hk
theorem UH {d:DyD} (h:wm d=0):(qj d).Pairwise (fun a b=>yC b a=true):=by
 have f:=jdm h;have g:O5 (ko tSh fun x=>(kK x.1 x.2.1,())) (qj d):=ba f;have e:∀s∈qj d,s∈wy (kX d):=fun s i=>(wq _).mem_iff.1 i
 refine List.Pairwise.imp_of_mem ?_ (List.Pairwise.and g (dR d));intro a b j k ⟨h1,h2⟩;cases c:ko tSh (fun x=>(kK x.1 x.2.1,())) a b with
 |false=>exact absurd (f.total a b (e a j) (e b k) c h1) h2
 |true=>
  have c:kK a b<0:=ja c;exact(Xk a b).1 c
theorem Ko {d:DyD} (h:wm d=0) {s:ShD} (a:s∈qj d):ve (qa (qj d) (qj d).length) s=true↔V4 s=1/\∀t∈qj d,bZ t=bZ s->yC t s=false:=by
 have:=Pj (UH h) (qj d).length (jj _) s (by rw[zD];exact a);rw[zD] at this;rw[<-this];unfold ve;rw[jN,jP,zc,zc,decide_eq_true_iff,decide_eq_true_iff];exact and_comm
theorem Kp {d:DyD} (h:wE d=true) {s:ShD} (a:s∈kX d):0<=yc s/\yc s<=99:=by
 have:=(vb h).2.2.2.2.2.2.2 _ a;unfold d6 at this;have:=ja this;omega
def V2 (d:DyD):ShD->Bool:=ve (qa (qj d) (qj d).length)
theorem jbD {d:DyD} (h:wm d=0):(qj d).filter (V2 d)=PE d:=by
 have j:=qL h;have f:∀s,s∈Dx (kX d)↔s∈qj d:=fun s=>⟨fun c=>fP.2 (Pg c),fun c=>by
  have c:=fP.1 c;have:=Kp j.1.2.2 c;exact UF c this.1 this.2⟩
 have g:∀s,s∈(qj d).filter (V2 d)↔s∈PE d:=by
  intro s;rw[(AK d).mem_iff,Hp,jL,jL,f s];refine and_congr_right fun c=> ?_
  rw[CY];have:=Ko h c;refine this.trans (and_congr_right fun _=>⟨fun h t i=>h t ((f t).1 i),fun h t i=>h t ((f t).2 i)⟩)
 have n:((qj d).filter (V2 d)).Nodup:=List.Pairwise.filter _ (dR d);have o:(PE d).Nodup:=(AK d).nodup_iff.2 (by rw[Hp];exact List.Pairwise.filter _ (FN _));have m:=L.cS n o g;refine fA (UD ?_) m ?_ (Nt d);intro a k b l e;exact j.2 a (fP.1 (jL.1 k).1) b (fP.1 (jL.1 l).1) e;exact(List.Pairwise.filter _ (UH h)).imp fun x=>FM x
structure Ei (d:DyD) (x:List (List Int)×List Int) (y:List Int×List Int):Prop where
 ref:x.2=y.2
 len:y.1.length=(kB d).length
 set:∀b,b<(kB d).length->BT.qS (nth y.1 b)
 bit:∀b,b<(kB d).length->∀p,BT.has (nth y.1 b) p=true↔p<(kC (kE d)).length/\(b:Int)∈nth x.1 p
theorem AL {t:Int} (h:BT.qS t) (p:Int):vD t p=BT.has t p.toNat:=BT.has_shr h p.toNat
theorem jbE {d:DyD} {x:List (List Int)×List Int} {y:List Int×List Int} (h:Ei d x y) {p:Int} (j:Sc d p) (g:∀b∈nth x.1 p.toNat,aG d b) (n:Int):n∈U.on y.1 p↔n∈nth x.1 p.toNat:=by
 unfold Sc at j;unfold U.on jc9;rw[jS];refine⟨fun⟨i,hi,e⟩=> ?_,fun f=> ?_⟩;subst e;have hi:=jL.1 hi;have a:=jC.1 hi.1;rw[h.len] at a;have c:vD (nth y.1 i) p=true:=hi.2;rw[AL (h.set i a)] at c;exact((h.bit i a p.toNat).1 c).2;have hk:=g n f;unfold aG at hk;have en:((n.toNat:Nat):Int)=n:=(by omega);refine⟨n.toNat,jL.2 ⟨jC.2 (by rw[h.len];omega),?_⟩,en⟩;show vD (nth y.1 n.toNat) p=true;rw[AL (h.set _ (by omega))];exact(h.bit _ (by omega) _).2 ⟨by omega,by rw[en];exact f⟩
theorem Xl (t:List Int) (p:Int):(U.on t p).Nodup:=by
 unfold U.on jc9;refine zL.2 ((List.Pairwise.filter _ List.pairwise_lt_range).imp ?_);intro a b c e;omega
theorem jad {d:DyD} {x:List (List Int)×List Int} {y:List Int×List Int} (h:Ei d x y) {p:Int} (e:Sc d p) (c:(nth x.1 p.toNat).Nodup) (a:∀b∈nth x.1 p.toNat,aG d b):(nth x.1 p.toNat).Perm (U.on y.1 p):=
 L.cS c (Xl _ _) (fun n=>(jbE h e a n).symm)
theorem jbF {d:DyD} (i:Iq d) {x:List (List Int)×List Int} {y:List Int×List Int} (h:Ei d x y) {p b:Int} (g:Sc d p) (e:(nth x.1 p.toNat++[b]).Nodup) (f:∀c∈nth x.1 p.toNat++[b],aG d c):
 Oc d (vf d (kB d).length) p (nth x.1 p.toNat++[b])=il d p (U.on y.1 p++[b]):=by
 rw[jac e (fun c a=>jab i (f c a) g)];exact FL d p ((jad h g (zF.1 e).1 (fun c a=>f c (jh _ a))).append_right [b]) e
theorem jbG {d:DyD} {x:List (List Int)×List Int} {y:List Int×List Int} (h:Ei d x y) (v:x.1.length=(kC (kE d)).length) (u:(kC (kE d)).length<=8) {p b:Int} (t:Sc d p) (s:aG d b) (i:b∉nth x.1 p.toNat):
 Ei d (x.1.set p.toNat (nth x.1 p.toNat++[b]),x.2) (y.1.set b.toNat (nth y.1 b.toNat+2^p.toNat),y.2):=by
 unfold Sc at t;unfold aG at s;have r:((b.toNat:Nat):Int)=b:=(by omega);have g:b.toNat<y.1.length:=(by rw[h.len];omega);have n:p.toNat<x.1.length:=(by omega);have o:=h.set b.toNat (by omega);have m:BT.has (nth y.1 b.toNat) p.toNat=false:=by
  cases j:BT.has (nth y.1 b.toNat) p.toNat with
  |false=>rfl
  |true=>exact absurd (by have:=((h.bit _ (by omega) _).1 j).2;rw[r] at this;exact this) i
 have a:=BT.add_two o (p:=p.toNat) (by omega) m;have j:=BT.mQ (k:=p.toNat) (by omega);refine⟨h.ref,by show(y.1.set _ _).length=_;rw[zW];exact h.len,fun c l=> ?_,fun c l q=> ?_⟩;show BT.qS (nth (y.1.set b.toNat (nth y.1 b.toNat+2^p.toNat)) c);rw[L.yq g]
 split
 rw[a];exact BT.bor_set o j;exact h.set c l;show BT.has (nth (y.1.set b.toNat (nth y.1 b.toNat+2^p.toNat)) c) q=true↔_/\(c:Int)∈nth (x.1.set p.toNat (nth x.1 p.toNat++[b])) q;rw[L.yq g,L.yq n];by_cases f:b.toNat=c;rw[je f,a,BT.has_bor o j,BT.AQ,zy,decide_eq_true_iff,h.bit _ (by omega),<-f,r];by_cases e:p.toNat=q;rw[je e];refine⟨fun _=>⟨by omega,by simp⟩,fun _=> .inr e⟩;rw[jc e];exact⟨fun h=>h.elim id (fun h=>absurd h e),.inl⟩;rw[jc f,h.bit c l];by_cases e:p.toNat=q;rw[je e,js,<-e];refine and_congr_right fun _=>⟨.inl,fun h=>h.elim id (fun h=> ?_)⟩
 simp at h;omega;rw[jc e]
theorem Xm (d:DyD):Ei d (vk (Lu d) (qj d) 0) (List.replicate (kB d).length 0,[]):=by
 have c:∀b,b<(kB d).length->nth (List.replicate (kB d).length (0:Int)) b=0:=fun b a=>L.cz a
 refine⟨rfl,j7,fun b a=> ?_,fun b a p=> ?_⟩;show BT.qS (nth (List.replicate (kB d).length (0:Int)) b);rw[c b a];exact BT.DG;show BT.has (nth (List.replicate (kB d).length (0:Int)) b) p=true↔_/\(b:Int)∈nth (ja6 d) p;rw[c b a,BT.sQ];have f:jaP (ja6 d):=fun x g=>(List.mem_replicate.1 g).2
 have e:nth (ja6 d) p=[]:=Pe f p;rw[e];simp
def UI (d:DyD) (i:Nat):List Int×List Int:=(((qj d).take i).filter (V2 d)).foldl (F4 d) (List.replicate (kB d).length 0,[])
attribute [local irreducible] vk il Oc U.on UI qj V2 Lu vf in
theorem Xn {d:DyD} (h:wm d=0) {i:Nat} (hi:i<(qj d).length) (ih:Ei d (vk (Lu d) (qj d) i) (UI d i)) (_:cx (Lu d) (qj d) i (vk (Lu d) (qj d) i)) (hrd:U.rd (Lu d)=d) (hml:l8 (Lu d)=vf d (kB d).length)
 (hx:(vk (Lu d) (qj d) i).1.length=(kC (kE d)).length) (hdec:V2 d=ve (qa (qj d) (qj d).length)) (hft:UI d (i+1)=if V2 d (nth (qj d) i)=true then F4 d (UI d i) (nth (qj d) i) else UI d i)
 (hnew:V2 d (nth (qj d) i)=true->(nth (vk (Lu d) (qj d) i).1 (nU (nth (qj d) i)).toNat++[K4 (nth (qj d) i)]).Nodup/\∀b∈nth (vk (Lu d) (qj d) i).1 (nU (nth (qj d) i)).toNat++[K4 (nth (qj d) i)],aG d b):
 Ei d (vk (Lu d) (qj d) (i+1)) (UI d (i+1)):=by
 have hD:=(qL h).1
 have h8:(kC (kE d)).length<=8:=(w7 hD.1).2.2.1
 have hsf:=AG hD.2.2 (fP.1 (L.kw (l:=qj d) (i:=i) hi))
 rw[hft]
 cases hc:V2 d (nth (qj d) i) with
 |false=>
  rw[hdec] at hc
  rw[Pf hi hc,jc (by simp)]
  exact ih
 |true=>
  have hn:=hnew hc
  have hcan:=jbF hD ih (p:=nU (nth (qj d) i)) (b:=K4 (nth (qj d) i)) hsf.1 hn.1 hn.2
  rw[hdec] at hc
  rw[je rfl]
  unfold F4
  cases hk:il d (nU (nth (qj d) i)) (U.on (UI d i).1 (nU (nth (qj d) i))++[K4 (nth (qj d) i)]) with
  |true=>
   rw[hk] at hcan
   rw[Uo hi hc (by rw[hrd,hml];exact hcan),je rfl]
   refine jbG ih hx h8 hsf.1 hsf.2 (fun hin=> ?_)
   exact(zF.1 hn.1).2.2 _ hin _ (by simp) rfl
  |false=>
   rw[hk] at hcan
   rw[YD hi hc (by rw[hrd,hml];exact hcan),jc (by simp)]
   exact⟨jR (·++[yc (nth (qj d) i)]) ih.ref,ih.len,ih.set,ih.bit⟩
theorem UJ {d:DyD} (h:wm d=0):∀i,i<=(qj d).length->Ei d (vk (Lu d) (qj d) i) (UI d i)
 |0,_=>Xm d
 |i+1,hi=>by
  have k:=UJ h i (by omega)
  obtain⟨⟨_,m⟩,⟨j,b⟩,c⟩:=Us h
  have f:=(qL h).1
  have a:=M8 (r:=Lu d) (l:=qj d) f.2.2 (fun s e=>fP.1 e) (dR d) j b c i (by omega)
  refine Xn h hi k a rfl rfl a.1 rfl ?_ fun g=> ?_
  unfold UI
  rw[L.filter_take (p:=V2 d) (l:=qj d) (i:=i) hi,jT]
  split<;>rfl
  have:=Ul (r:=Lu d) (l:=qj d) f.2.2 (fun s e=>fP.1 e) (dR d) hi a g
  exact⟨this.1,this.2.1⟩
theorem Xo {d:DyD} (h:wm d=0):UI d (qj d).length=PF d:=by
 unfold UI PF YY;rw[zD,zD,jbD h]
theorem Hq {d:DyD} (h:wm d=0):Ei d (ax (Sd d),(vk (Lu d) (qj d) (qj d).length).2) (PF d):=by
 have:=UJ h _ (jj _);rw[Xo h] at this;exact⟨this.ref,this.len,this.set,this.bit⟩
theorem Pk (on:List (List Int)) (b:Int):∀n,n<=60->BT.qS (gN on b n)/\∀q,BT.has (gN on b n) q=true↔q<n/\b∈nth on q
 |0,_=>⟨BT.DG,fun q=>by
  have:gN on b 0=0:=rfl
  rw[this,BT.sQ];simp⟩
 |n+1,m=>by
  obtain⟨f,i⟩:=Pk on b n (by omega)
  have g:=BT.mQ (k:=n) (by omega)
  have a:(nth on n).any (fun x=>decide (x=b))=true↔b∈nth on n:=by
   rw[j8];exact⟨fun⟨x,l,e⟩=>(ja e)▸l,fun j=>⟨b,j,jJ rfl⟩⟩
  rw[CN]
  split
  rename_i c;have c:=a.1 c;rw[CO];refine⟨BT.bor_set f g,fun q=> ?_⟩;rw[BT.has_bor f g,BT.AQ,zy,decide_eq_true_iff,i];refine⟨fun h=>h.elim (fun h=>⟨by omega,h.2⟩) (fun h=>by subst h;exact⟨by omega,c⟩),fun h=> ?_⟩;by_cases d:q=n;exact .inr d.symm;exact .inl ⟨by omega,h.2⟩;rename_i c;refine⟨f,fun q=> ?_⟩;rw[i];refine⟨fun h=>⟨by omega,h.2⟩,fun h=>⟨?_,h.2⟩⟩;by_cases d:q=n;subst d;exact absurd (a.2 h.2) c;omega
theorem UK {d:DyD} (h:wm d=0) {b:Nat} (a:b<(kB d).length):cP (ax (Sd d)) (b:Int)=nth (PF d).1 b:=by
 have f:=Hq h;have c:=Ut h;have g:=Pk (ax (Sd d)) (b:Int) (ax (Sd d)).length c.len60;refine BT.ext g.1 (f.set b a) fun p=>j6.2 ?_
 have e:=(g.2 p).trans (f.bit b a p|>.trans (by rw[<-c.len])).symm;exact e
theorem jbH {d:DyD} (h:wm d=0):gi d (kB d).length=(PF d).1:=by
 have b:=Hq h;have a:(gi d (kB d).length).length=(kB d).length:=(by unfold gi;simp);refine L.ext_nth (by rw[a];exact b.len.symm) fun i hi=> ?_
 rw[a] at hi;unfold gi;rw[L.nth_map (by simpa using hi)];have:nth (List.range (kB d).length) i=i:=(by rw[L.wD (by simpa using hi)];simp);rw[this];exact UK h hi
theorem UL (d:DyD):b7 d=if gL d=0 then(PF d).1 else[]:=by
 unfold b7;rw[gx]
 split
 rename_i h;exact jbH ((gx d).trans h);rfl
end Go.X
namespace Go.X
open U
open Go.Proofs
attribute [local irreducible] yK nV jce Dx EJ PE VQ
end Go.X
namespace Go.X
open U
open Go.Proofs
namespace U
def jds (d:DyD) (t:List Int) (b:Nat):Bool:=DA (kE d) (yV (nth (kB d) b)) (nth t b)
def YZ (d:DyD) (t:List Int) (n:Nat):List Int:=((List.range n).filter (jds d t)).map (fun(b:Nat)=>(b:Int))
def jdt (d:DyD):List Int:=if gL d=0 then YZ d (Lc d) (Lc d).length else[]
end U
theorem jae {d:DyD} (h:gL d=0):(PF d).1.length=(kB d).length:=(Hq ((gx d).trans h)).len
theorem YK {d:DyD} (h:gL d=0):Lc d=(PF d).1:=je h
theorem Nu {d:DyD} (h:gL d=0):(Lc d).length=(kB d).length:=by rw[YK h];exact jae h
section
attribute [local irreducible] PF gL
end
section
attribute [local irreducible] YZ Lc gL DA
end
section
attribute [local irreducible] il U.on vD Iq
end
section
attribute [local irreducible] Lc gL vD
end
end Go.X
namespace Go.X
open U
open Go.Proofs
section
attribute [local irreducible] Lc gL DA
end
end Go.X
namespace Go.X
open U
open Go.Proofs
theorem CZ (n m:Nat):n|||m=0↔n=0/\m=0:=by
 constructor;intro h;constructor;refine kg fun i=> ?_
 have:=jR (fun z=>Nat.testBit z i) h;simp only[Nat.testBit_or,Nat.zero_testBit,jP] at this;rw[this.1,Nat.zero_testBit];refine kg fun i=> ?_
 have:=jR (fun z=>Nat.testBit z i) h;simp only[Nat.testBit_or,Nat.zero_testBit,jP] at this;rw[this.2,Nat.zero_testBit];rintro⟨rfl,rfl⟩;rfl
theorem Pl {a b:Int} (c:0<=a/\a<64) (d:0<=b/\b<64):uor a b=0↔a=0/\b=0:=by
 obtain⟨n,rfl⟩:∃n:Nat,a=(n:Int):=⟨a.toNat,by omega⟩;obtain⟨m,rfl⟩:∃m:Nat,b=(m:Int):=⟨b.toNat,by omega⟩;rw[BT.uor_nat (by omega) (by omega)];have:=CZ n m;omega
theorem Xp {a b:Int} (c:0<=a/\a<64) (d:0<=b/\b<64):bor a b=0↔a=0/\b=0:=by
 obtain⟨n,rfl⟩:∃n:Nat,a=(n:Int):=⟨a.toNat,by omega⟩;obtain⟨m,rfl⟩:∃m:Nat,b=(m:Int):=⟨b.toNat,by omega⟩;rw[BT.bor_nat (by omega) (by omega)];have:=CZ n m;omega
theorem Xq {a b:Int} (c:0<=a/\a<64) (d:0<=b/\b<64):0<=bor a b/\bor a b<64:=by
 obtain⟨n,rfl⟩:∃n:Nat,a=(n:Int):=⟨a.toNat,by omega⟩;obtain⟨m,rfl⟩:∃m:Nat,b=(m:Int):=⟨b.toNat,by omega⟩;rw[BT.bor_nat (by omega) (by omega)];have:n|||m<2^6:=Nat.or_lt_two_pow (by omega) (by omega);omega
theorem C4 {b:Bool} {o k:Int} (h:0<=o/\o<64) (hk:0<k/\k<64):EH b o k=0↔b=false/\o=0:=by
 unfold EH;cases b with
 |false=>rw[jc (by simp)];simp
 |true=>
  rw[je rfl,Pl h ⟨by omega,by omega⟩];refine⟨fun h=>absurd h.2 (by omega),fun h=>absurd h.1 (by simp)⟩
theorem mG {b:Bool} {o k:Int} (h:0<=o/\o<64) (hk:0<k/\k<64):YX b o k=0↔b=false/\o=0:=by
 unfold YX;cases b with
 |false=>rw[jc (by simp)];simp
 |true=>
  rw[je rfl,Xp h ⟨by omega,by omega⟩];refine⟨fun h=>absurd h.2 (by omega),fun h=>absurd h.1 (by simp)⟩
theorem Kq {b:Bool} {o k:Int} (h:0<=o/\o<64) (hk:0<k/\k<64):0<=YX b o k/\YX b o k<64:=by
 unfold YX
 split
 exact Xq h ⟨by omega,hk.2⟩;exact h
theorem Kr (t:TkD):∀(q:List (Int×PeD×Unit)) (o:Int),(0<=o/\o<64)->(bY t o q=0↔o=0/\∀x∈q,vd t x.2.1=0)
 |[],o,_=>by
  show o=0↔_
  simp
 |x::q,o,h=>by
  have b:=Ct t x.2.1
  have a:=Kr t q (uor o (vd t x.2.1)) (TZ h ⟨by omega,by omega⟩)
  show bY t (uor o (vd t x.2.1)) q=0↔_
  rw[a,Pl h ⟨by omega,by omega⟩]
  simp only[jk,forall_eq_or_imp,and_assoc]
theorem Xr {t:Int} (h:BT.qS t) (p:Int):sJ t p=BT.has t p.toNat:=BT.has_ushr h p.toNat
theorem YL {t:Int} (h:BT.qS t) (p:Int):sJ t p=vD t p:=(Xr h p).trans (AL h p).symm
theorem mH {t:TkD} {s:Int} (b:BT.qS s) {x:Int×PeD×Unit}:x∈uV t s↔∃i:Nat,i<(kC (U.tc t)).length/\vD s (i:Int)=true/\x=((i:Int),nth (kC (U.tc t)) i,()):=by
 unfold uV yd;rw[jS];refine⟨fun⟨i,hi,e⟩=> ?_,fun⟨i,c,a,e⟩=>⟨i,jL.2 ⟨jC.2 c,?_⟩,e.symm⟩⟩;have hi:=jL.1 hi;have a:sJ s (i:Int)=true:=hi.2;exact⟨i,jC.1 hi.1,(YL b _)▸a,e.symm⟩;show sJ s (i:Int)=true;rw[YL b];exact a
theorem ua (c:CrD) (j:JbD) (t:Int):∀n,(0<=(Ap c j t n).1/\(Ap c j t n).1<64)/\((Ap c j t n).1=0↔∀i:Nat,i<n->vD t (i:Int)=true->y9 c j (i:Int)=true)/\
 ((Ap c j t n).2=true↔∃i:Nat,i<n/\vD t (i:Int)=true/\jb9 (nth (kC c) i)=true)
 |0=>⟨by show(0:Int)<=0/\(0:Int)<64;omega,⟨fun _ i h=>absurd h (by omega),fun _=>rfl⟩,⟨fun h=>(by cases h),fun⟨i,h,_⟩=>absurd h (by omega)⟩⟩
 |n+1=>by
  obtain⟨l,o,p⟩:=ua c j t n
  cases g:vD t (n:Int) with
  |false=>
   rw[Uv g]
   refine⟨l,o.trans ⟨fun h i hi a=> ?_,fun h i hi=>h i (by omega)⟩,p.trans ⟨fun⟨i,hi,a⟩=>⟨i,by omega,a⟩,fun⟨i,hi,d,f⟩=>⟨i,?_,d,f⟩⟩⟩
   by_cases e:i=n
   subst e;rw[g] at a;cases a
   exact h i (by omega) a
   by_cases e:i=n
   subst e;rw[g] at d;cases d
   omega
  |true=>
   have e:Ap c j t (n+1)=(YX (!vD (U.cl (nth (kC c) n)) (iT j)) (YX (!vD (U.fd (nth (kC c) n)) (X4 j)) (YX (K7 (nth (kC c) n) (X3 j)) (Ap c j t n).1 1) 2) 4,(Ap c j t n).2||jb9 (nth (kC c) n)):=by
    rw[Kf];unfold VP;rw[je g]
   rw[e];have o1:=Kq (b:=K7 (nth (kC c) n) (X3 j)) (k:=1) l (by omega);have o2:=Kq (b:= !vD (U.fd (nth (kC c) n)) (X4 j)) (k:=2) o1 (by omega);have s:=Kq (b:= !vD (U.cl (nth (kC c) n)) (iT j)) (k:=4) o2 (by omega);refine⟨s,?_,?_⟩;show YX _ _ 4=0↔_;rw[mG o2 (by omega),mG o1 (by omega),mG l (by omega),o];have m:y9 c j (n:Int)=(!(K7 (nth (kC c) n) (X3 j))&&vD (U.fd (nth (kC c) n)) (X4 j)&&vD (U.cl (nth (kC c) n)) (iT j)):=by
    unfold y9;rw[ju]
   refine⟨fun⟨d,f,q,r⟩ i hi a=> ?_,fun h=> ?_⟩;by_cases e:i=n;subst e;rw[m];simp only[zc] at d f;rw[d,f,q];rfl;exact r i (by omega) a;have:=h n (by omega) g;rw[m,ji,ji,jN] at this;exact⟨by rw[this.2];rfl,by rw[this.1.2];rfl,this.1.1,fun i hi=>h i (by omega)⟩;show((Ap c j t n).2||jb9 (nth (kC c) n))=true↔_;rw[zy,p];refine⟨fun h=>h.elim (fun⟨i,hi,a⟩=>⟨i,by omega,a⟩) (fun h=>⟨n,by omega,g,h⟩),fun⟨i,hi,d,f⟩=> ?_⟩;by_cases e:i=n;subst e;exact .inr f;exact .inl ⟨i,by omega,d,f⟩
theorem Xs {c:CrD} {j:JbD} {t:Int} (d:BT.qS t) (a b:Nat):Lt (c,j,d7 c j,()) t a b=U.J3 c t (V3 (d7 c j)) a b:=by
 unfold Lt U.J3 l6 jcb;refine j6.2 ?_;rw[j8,j8];refine⟨fun⟨x,g,h⟩=> ?_,fun⟨i,hi,h⟩=> ?_⟩;obtain⟨i,e,f,rfl⟩:=(mH d).1 g;refine⟨i,jC.2 e,?_⟩;have h:V3 (d7 c j)<=min (nth (U.lv (nth (kC c) i)) ((a:Int)).toNat) (nth (U.lv (nth (kC c) i)) ((b:Int)).toNat):=ja h;rw[f,jJ (by omega:V3 (d7 c j)<=nth (U.lv (nth (kC c) i)) ((a:Int)).toNat),jJ (by omega:V3 (d7 c j)<=nth (U.lv (nth (kC c) i)) ((b:Int)).toNat)];rfl;rw[ji,ji,decide_eq_true_iff,decide_eq_true_iff] at h;refine⟨((i:Int),nth (kC c) i,()),(mH d).2 ⟨i,jC.1 hi,h.1.1,rfl⟩,?_⟩;exact jJ (show V3 (d7 c j)<=min (nth (U.lv (nth (kC c) i)) ((a:Int)).toNat) (nth (U.lv (nth (kC c) i)) ((b:Int)).toNat) by have:=h.1.2;have:=h.2;omega)
theorem jaf (c:CrD) (t lev:Int) (a b:Nat):U.J3 c t lev a b=U.J3 c t lev b a:=by
 unfold U.J3 jcb;refine j6.2 ?_;rw[j8,j8];constructor<;>
 .rintro⟨i,hi,h⟩;refine⟨i,hi,?_⟩;rw[ji,ji] at h⊢;exact⟨⟨h.1.1,h.2⟩,h.1.2⟩
theorem jbI {c:CrD} {j:JbD} {t:Int} (_:kU c=true) (d:wY c j=true) (f:BT.qS t):nth (fW (c,j,d7 c j,()) t) (Sa j).toNat<0↔nth (jdK c t (V3 (d7 c j)) (Sa j)) (Ls j).toNat<0:=by
 have h:=lE d;have e:Lt (c,j,d7 c j,()) t=U.J3 c t (V3 (d7 c j)):=(by funext a b;exact Xs f a b);show nth (jcc (Lt (c,j,d7 c j,()) t) (U.la c).toNat (Ls j).toNat) (Sa j).toNat<0↔nth (An (U.J3 c t (V3 (d7 c j))) (U.la c).toNat (Sa j).toNat (U.la c).toNat) (Ls j).toNat<0;rw[e];exact(ZV (jaf c t _) (by omega) (by omega)).symm
theorem UM {c:CrD} {j:JbD} {t:Int} (a:BT.qS t):(∀x∈uV (c,j,d7 c j,()) t,vd (c,j,d7 c j,()) x.2.1=0)↔∀i:Nat,i<(kC c).length->vD t (i:Int)=true->y9 c j (i:Int)=true:=by
 refine⟨fun h i hi e=>(mF c j i).1 (h ((i:Int),nth (kC c) i,()) ((mH a).2 ⟨i,hi,e,rfl⟩)),fun h x f=> ?_⟩;obtain⟨i,b,d,rfl⟩:=(mH a).1 f;exact(mF c j i).2 (h i b d)
theorem Xt {c:CrD} {j:JbD} {t:Int} (d:BT.qS t):d8 (uV (c,j,d7 c j,()) t)=jdr c j t:=by
 refine j6.2 ?_;unfold jdr;rw[(ua c j t (kC c).length).2.2];unfold d8;rw[j8];refine⟨fun⟨x,f,h⟩=> ?_,fun⟨i,a,b,e⟩=>⟨((i:Int),nth (kC c) i,()),(mH d).2 ⟨i,a,b,rfl⟩,e⟩⟩;obtain⟨i,a,b,rfl⟩:=(mH d).1 f;exact⟨i,a,b,h⟩
theorem Nv {c:CrD} {j:JbD} {t:Int} (n:kU c=true) (o:wY c j=true) (a:BT.qS t):qI (c,j,d7 c j,()) t=0↔jdL c j t=0:=by
 have f:=ua c j t (kC c).length;have g:=ML (c,j,d7 c j,()) (uV (c,j,d7 c j,()) t) 0 (by omega);have i:=Cu (b:=decide (BT.size t≠max (ja2 j) (ja1 (d7 c j)))) (k:=8) g (by omega);have q:=Cu (b:=(jc8 (d7 c j)&& !d8 (uV (c,j,d7 c j,()) t))) (k:=16) i (by omega);have d:0<=jdq c j t/\jdq c j t<64:=f.1;have e:=Kq (b:=decide (BT.size t≠max (ja2 j) (ja1 (d7 c j)))) (k:=8) d (by omega);have l:=Kq (b:=(jc8 (d7 c j)&& !jdr c j t)) (k:=16) e (by omega);have m:qI (c,j,d7 c j,()) t=EH (decide (nth (fW (c,j,d7 c j,()) t) (Sa j).toNat<0)) (EH (jc8 (d7 c j)&& !d8 (uV (c,j,d7 c j,()) t)) (EH (decide (BT.size t≠max (ja2 j) (ja1 (d7 c j)))) (bY (c,j,d7 c j,()) 0 (uV (c,j,d7 c j,()) t)) 8) 16) 32:=rfl;have p:jdq c j t=0↔bY (c,j,d7 c j,()) 0 (uV (c,j,d7 c j,()) t)=0:=by
  rw[Kr _ _ _ (by omega),UM a];exact f.2.1.trans ⟨fun h=>⟨rfl,h⟩,fun h=>h.2⟩
 rw[m,C4 q (by omega),C4 i (by omega),C4 g (by omega)];unfold jdL;rw[mG l (by omega),mG e (by omega),mG d (by omega),p,Xt a,jD,jD,jbI n o a,jD]
theorem jag {d:DyD} (a:Iq d) {b:Int} (k:aG d b) {t:Int} (e:0<=t) (n:t<2^(kC (kE d)).length):Dz d b t=DA (kE d) (yV (U.bk d b)) t:=by
 unfold aG at k;have h:wY (kE d) (yV (U.bk d b))=true:=YJ a (b:=b.toNat) (by omega);have o:=(Hc a.1).2;have m:BT.qS t:=(by unfold BT.qS;omega);have i:qr (kE d) (yV (U.bk d b))=0:=(by unfold qr;rw[a.1,h];rfl);have j:Ic (kE d) t=true:=by
  unfold Ic kj;rw[jJ e,jJ (by omega)];rfl
 have l:aw (kE d) (yV (U.bk d b)) t=0:=by
  unfold aw;rw[jc (by rw[i];simp),j,je rfl]
 have c:=Nv a.1 h m;unfold Dz DA ja5;rw[l,je rfl];refine j6.2 ?_;simp only[ji,decide_eq_true_iff,true_and];rw[c];constructor;rintro⟨f,g⟩;exact⟨by omega,f⟩;rintro⟨f,g⟩;exact⟨g,by omega⟩
theorem YM {d:DyD} (h:gL d=0) {b:Nat} (a:b<(kB d).length):0<=nth (PF d).1 b/\nth (PF d).1 b<2^(kC (kE d)).length:=by
 have c:=Hq ((gx d).trans h);have e:=c.set b a;exact⟨e.1,BT.lt_of_has e (fun p f=>((c.bit b a p).1 f).1)⟩
theorem jah (d:DyD):kk d=jdt d:=by
 unfold kk jdt;rw[gx];by_cases h:gL d=0;rw[je h,je h,Nu h];unfold yR YZ;congr 1;refine List.filter_congr fun b a=> ?_
 have a:=jC.1 a;have hk:=(gx d).trans h;have c:=YM h a;show Dz d (b:Int) (cP (ax (Sd d)) (b:Int))=DA (kE d) (yV (nth (kB d) b)) (nth (Lc d) b);rw[UK hk a,YK h,jag (YI h) (by unfold aG;omega) c.1 c.2];rfl;rw[jc h,jc h]
end Go.X
