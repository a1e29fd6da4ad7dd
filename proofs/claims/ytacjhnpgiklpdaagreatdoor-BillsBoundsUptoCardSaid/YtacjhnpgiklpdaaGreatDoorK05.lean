/-
  Part 5 of the road: a checked reading of bodies, and what the functions on it do (PC4 C2 PC5 PC6 PC7 PC8 C3 PC9 SL PC10 S1 S2 S3 PC11 C4 PC12 PC13 PC14 S4 S5).
-/
import Derived.Test.YtacjhnpgiklpdaaGreatDoorK04
namespace Go.X
open U
open Go.Proofs
theorem VS (l:Int) (p:PeD):fP l p=(!(decide (((U.lv p).length:Int)≠l)|| !kV (U.fd p) 0 255|| !kV (U.cl p) 0 255||decide (10<((y8 p).length:Int))|| !kV (U.fe p) 0 1000)&&((U.lv p).all (fun n=>kV n 0 5)&&(y8 p).all (fun n=>kV n 0 99))):=by
 unfold fP;congr 1;rw[jZ];simp only[kV,jO,jN,jE,zl,ji,jp];omega
theorem Ao (c:CrD):wz c=(!(!kV (U.la c) 2 5||decide (8<((we c).length:Int))||decide (((yk c).length:Int)≠4))&&((we c).all (fP (U.la c))&&(yk c).all dZ)):=by
 unfold wz;congr 1;rw[jZ];simp only[kV,jO,jN,jE,zl,ji,jp];omega
theorem tI {c:CrD} {x:Nat} (a:x<(we c).length) (h:fP (U.la c) (nth (we c) x)=false):wz c=false:=by
 have:(we c).all (fP (U.la c))=false:=zQ.2 ⟨_,L.wd a,by rw[h];simp⟩;rw[Ao,this];simp
theorem PS {c:CrD} {x:Nat} (a:x<(yk c).length) (h:dZ (nth (yk c) x)=false):wz c=false:=by
 have:(yk c).all dZ=false:=zQ.2 ⟨_,L.wd a,by rw[h];simp⟩;rw[Ao,this];simp
theorem fJ {α:Type} [Inhabited α] {l:List α} {p:α->Bool} {x:Nat} (c:¬x<l.length) (h:∀j:Nat,j<x->p (nth l j)=true):l.all p=true:=by
 rw[j6];intro a b;obtain⟨i,hi,rfl⟩:=L.mem_iff.1 b;exact h i (by omega)
theorem lM {c:CrD} (h:wz c=false):(false,())=(wz c,()):=by rw[h]
theorem Mc:Jj:=by
 unfold Jj jfU jeF jfT jec jdm jeb jfS jeE jea jcy Prod.q4;rintro⟨c,⟨⟩⟩ _ _;refine⟨fun h=> ?_,fun h=> ?_⟩;have h:(!kV (U.la c) 2 5||decide (8<((we c).length:Int))||decide (((yk c).length:Int)≠4))=true:=h;refine lM (c:=c) ?_;rw[Ao,h];rfl;have B:(!kV (U.la c) 2 5||decide (8<((we c).length:Int))||decide (((yk c).length:Int)≠4))=false:=h;clear h;refine⟨⟨0,⟨⟨rfl,tZ⟩,tZ⟩,jw _,fun j k=>by omega⟩,fun x s r=>⟨fun h=> ?_,fun h=> ?_⟩⟩;have r:(we c).length<4611686018427387904:=r;have h:(x:Int)<(we c).length:=jb h;have m:x<(we c).length:=(by omega);refine⟨by omega,h,fun _ _=>⟨fun g=> ?_,fun g=> ?_⟩⟩;have g:(decide (((U.lv (nth (we c) x)).length:Int)≠U.la c)|| !kV (U.fd (nth (we c) x)) 0 255|| !kV (U.cl (nth (we c) x)) 0 255||decide (10<((y8 (nth (we c) x)).length:Int))|| !kV (U.fe (nth (we c) x)) 0 1000)=true:=g;refine lM (c:=c) (tI m ?_);rw[VS,g];rfl;have g:(decide (((U.lv (nth (we c) x)).length:Int)≠U.la c)|| !kV (U.fd (nth (we c) x)) 0 255|| !kV (U.cl (nth (we c) x)) 0 255||decide (10<((y8 (nth (we c) x)).length:Int))|| !kV (U.fe (nth (we c) x)) 0 1000)=false:=g;refine⟨⟨0,⟨⟨rfl,tZ⟩,tZ⟩,jw _,fun j k=>by omega⟩,fun y q d=>⟨fun b=> ?_,fun b=> ?_⟩⟩;have d:(U.lv (nth (we c) x)).length<4611686018427387904:=d;have b:(y:Int)<(U.lv (nth (we c) x)).length:=jb b;refine⟨by omega,b,fun a=> ?_,fun a=>⟨iZ6,y+1,⟨⟨by simp,tZ⟩,tZ⟩,⟨by show y+1<=(U.lv (nth (we c) x)).length;omega,fun j k=> ?_⟩,by show(U.lv (nth (we c) x)).length-(y+1)<(U.lv (nth (we c) x)).length-y;omega⟩⟩;have a:(!kV (nth (U.lv (nth (we c) x)) y) 0 5)=true:=a;have a:kV (nth (U.lv (nth (we c) x)) y) 0 5=false:=(by simpa using a);refine lM (c:=c) (tI m ?_);have:(U.lv (nth (we c) x)).all (fun n=>kV n 0 5)=false:=zQ.2 ⟨_,L.wd (l:=U.lv (nth (we c) x)) (i:=y) (by omega),by rw[a];simp⟩;rw[VS,this];simp;have a:(!kV (nth (U.lv (nth (we c) x)) y) 0 5)=false:=a;by_cases e:j=y;subst e;exact(show kV (nth (U.lv (nth (we c) x)) j) 0 5=true by simpa using a);exact q.2 j (by omega);have b:¬(y:Int)<(U.lv (nth (we c) x)).length:=je b;have u:(U.lv (nth (we c) x)).all (fun n=>kV n 0 5)=true:=fJ (by omega) q.2;refine⟨⟨0,⟨⟨rfl,tZ⟩,tZ⟩,jw _,fun j k=>by omega⟩,fun z t o=>⟨fun a=> ?_,fun a=> ?_⟩⟩;have o:(y8 (nth (we c) x)).length<4611686018427387904:=o;have a:(z:Int)<(y8 (nth (we c) x)).length:=jb a;refine⟨by omega,a,fun f=> ?_,fun f=>⟨iZ6,z+1,⟨⟨by simp,tZ⟩,tZ⟩,⟨by show z+1<=(y8 (nth (we c) x)).length;omega,fun j k=> ?_⟩,by show(y8 (nth (we c) x)).length-(z+1)<(y8 (nth (we c) x)).length-z;omega⟩⟩;have f:(!kV (nth (y8 (nth (we c) x)) z) 0 99)=true:=f;have f:kV (nth (y8 (nth (we c) x)) z) 0 99=false:=(by simpa using f);refine lM (c:=c) (tI m ?_);have:(y8 (nth (we c) x)).all (fun n=>kV n 0 99)=false:=zQ.2 ⟨_,L.wd (l:=y8 (nth (we c) x)) (i:=z) (by omega),by rw[f];simp⟩;rw[VS,this];simp;have f:(!kV (nth (y8 (nth (we c) x)) z) 0 99)=false:=f;by_cases e:j=z;subst e;exact(show kV (nth (y8 (nth (we c) x)) j) 0 99=true by simpa using f);exact t.2 j (by omega);have a:¬(z:Int)<(y8 (nth (we c) x)).length:=je a;have v:(y8 (nth (we c) x)).all (fun n=>kV n 0 99)=true:=fJ (by omega) t.2;refine⟨iZ6,x+1,⟨⟨by simp,tZ⟩,tZ⟩,⟨by show x+1<=(we c).length;omega,fun j k=> ?_⟩,by show(we c).length-(x+1)<(we c).length-x;omega⟩;by_cases e:j=x;subst e;show fP (U.la c) (nth (we c) j)=true;rw[VS,g,u,v];rfl;exact s.2 j (by omega);have h:¬(x:Int)<(we c).length:=je h;have A:(we c).all (fP (U.la c))=true:=fJ (by omega) s.2;refine⟨⟨0,⟨⟨rfl,tZ⟩,tZ⟩,jw _,fun j k=>by omega⟩,fun y q d=>⟨fun b=> ?_,fun b=> ?_⟩⟩;have d:(yk c).length<4611686018427387904:=d;have b:(y:Int)<(yk c).length:=jb b;have p:dZ (nth (yk c) y)= !(!kV (UH (nth (yk c) y)) 1 5|| !kV (Zx (nth (yk c) y)) 1 8):=by
  unfold dZ;rw[Bool.not_or,Bool.not_not,Bool.not_not]
 refine⟨by omega,b,fun _=>by omega,fun _=>b,fun a=> ?_,fun a=>⟨iZ6,y+1,⟨⟨by simp,tZ⟩,tZ⟩,⟨by show y+1<=(yk c).length;omega,fun j k=> ?_⟩,by show(yk c).length-(y+1)<(yk c).length-y;omega⟩⟩;have a:(!kV (UH (nth (yk c) y)) 1 5|| !kV (Zx (nth (yk c) y)) 1 8)=true:=a;exact lM (c:=c) (PS (x:=y) (by omega) (by rw[p,a];rfl));have a:(!kV (UH (nth (yk c) y)) 1 5|| !kV (Zx (nth (yk c) y)) 1 8)=false:=a;by_cases e:j=y;subst e;show dZ (nth (yk c) j)=true;rw[p,a];rfl;exact q.2 j (by omega);have b:¬(y:Int)<(yk c).length:=je b;have w:(yk c).all dZ=true:=fJ (by omega) q.2;show(true,())=(wz c,());rw[Ao,B,A,w];rfl
theorem uC:wU PR 91 Jh:=yi Ji Mc Tryz.func91 (kcC uB kcN) koN
def Jl:wL:=⟨[.val .int,.val .int,.val .int],[.bool],false,fun _=>[],fun d=>(kV d.1 d.2.1 d.2.2.1,())⟩
def Jm:Prop:=∀(d:Int×Int×Int×Unit),(decide (d.2.1<=d.1)&&decide (d.1<=d.2.2.1),())=(kV d.1 d.2.1 d.2.2.1,())
def Cv:wL:=⟨[.val tDy,.val .int],[.bool],false,fun _=>[],fun d=>(Ur d.1 d.2.1,())⟩
def Cw:Prop:=∀(d:DyD×Int×Unit),d.1.2.2.1.length<4611686018427387904->wq ((d.1.2.2.1.length:Int)-1)/\(kV d.2.1 (0:Int) ((d.1.2.2.1.length:Int)-1),())=(Ur d.1 d.2.1,())
def DP:wL:=⟨[.val tDy,.val .int],[.bool],false,fun _=>[],fun d=>(Kc d.1 d.2.1,())⟩
def DQ:Prop:=∀(d:DyD×Int×Unit),d.1.1.2.1.length<4611686018427387904->wq ((d.1.1.2.1.length:Int)-1)/\(kV d.2.1 (0:Int) ((d.1.1.2.1.length:Int)-1),())=(Kc d.1 d.2.1,())
def Md:wL:=⟨[.val tDy],[.bool],false,fun _=>[],fun d=>(qc d.1,())⟩
def Me:Ann:=fun r=>match r with
 |4=>some fun σ=>{X:=Nat,sl:=fun i=>[(3,.dat .int (i:Int))],ob:=fun _=>[],inv:=fun i=>i<=(wO (gb tDy σ 1)).length/\∀j:Nat,j<i->bQ (wO (gb tDy σ 1)).length (nth (wO (gb tDy σ 1)) j)=true,mu:=fun i=>(wO (gb tDy σ 1)).length-i}
 |9=>some fun σ=>{X:=Nat,sl:=fun i=>[(4,.dat .int (i:Int))],ob:=fun _=>[],inv:=fun i=>i<=(nth (wO (gb tDy σ 1)) (gd .int σ 3).toNat).length/\∀j:Nat,j<i->sj (nth (nth (wO (gb tDy σ 1)) (gd .int σ 3).toNat) j)=true,mu:=fun i=>(nth (wO (gb tDy σ 1)) (gd .int σ 3).toNat).length-i}
 |15=>some fun σ=>{X:=Nat,sl:=fun i=>[(6,.dat .int (i:Int))],ob:=fun _=>[],inv:=fun i=>i<=(wg (gb tDy σ 1)).length/\∀j:Nat,j<i->lW (wO (gb tDy σ 1)).length (nth (wg (gb tDy σ 1)) j)=true,mu:=fun i=>(wg (gb tDy σ 1)).length-i}
 |21=>some fun σ=>{X:=Nat,sl:=fun i=>[(8,.dat .int (i:Int))],ob:=fun _=>[],inv:=fun i=>i<=(qV (gb tDy σ 1)).length/\∀j:Nat,j<i->lX (wg (gb tDy σ 1)).length (we (wi (gb tDy σ 1))).length (nth (qV (gb tDy σ 1)) j)=true,mu:=fun i=>(qV (gb tDy σ 1)).length-i}
 |_=>none
abbrev jdP (d:DyD×Unit)(x:Nat):=(nth d.1.2.1 (x:Int).toNat)
abbrev jfV (d:DyD×Unit)(x:Nat)(a:Nat):=(decide ((nth (jdP d x) (a:Int).toNat).1<0)||decide ((nth (jdP d x) (a:Int).toNat).2.1<(nth (jdP d x) (a:Int).toNat).1)||decide ((300:Int)<(nth (jdP d x) (a:Int).toNat).2.1))
abbrev jdn (d:DyD×Unit)(x:Nat):=(nth (wO d.1) (x:Int).toNat)
abbrev jcW (d:DyD×Unit):=(d.1.2.1.length:Int)
abbrev jed (d:DyD×Unit)(x:Nat):=(nth d.1.q4.2.1 (x:Int).toNat)
abbrev jfW (d:DyD×Unit)(x:Nat):=(!kV (jed d x).1 (0:Int) (99:Int)|| !kV (jed d x).2.1 (0:Int) (9999:Int)|| !kV (jed d x).2.2.1 (1:Int) (2:Int)|| !Ur d.1 (jed d x).2.2.2.1|| !Kc d.1 (jed d x).q4.1)
abbrev jdQ (d:DyD×Unit):=(d.1.2.2.1.length:Int)
abbrev jfi (x:Nat)(a:Nat):=(((x:Int)+1=(a:Int)/\True)/\True)
abbrev jee (d:DyD×Unit)(x:Nat):=(nth d.1.2.2.1 (x:Int).toNat)
abbrev jfX (d:DyD×Unit)(x:Nat):=(!kV (jee d x).2.1 (0:Int) ((jcW d)-1)||decide ((jee d x).2.2.1<0)||decide ((jee d x).2.2.2.1<=(jee d x).2.2.1)||decide ((1440:Int)<(jee d x).2.2.2.1))
abbrev jef (d:DyD×Unit)(x:Nat):=(↑(jdP d x).length:Int)
abbrev jeG (d:DyD×Unit):=(d.1.q4.2.1.length:Int)
abbrev jfY (d:DyD×Unit):=(decide (4<(jdQ d))|| !kV (jcW d) (1:Int) (5:Int)|| !kV d.1.2.2.2.1 (0:Int) (300:Int)|| !kV d.1.q4.1 (0:Int) (1440:Int)||decide (30<(jeG d)))
abbrev jfj (x:Nat):=((0=(x:Int)/\True)/\True)
def Mf:Prop:=∀(d:DyD×Unit),d.1.2.2.1.length<4611686018427387904->((!decide (4<(jdQ d)))=true->d.1.2.1.length<4611686018427387904)->((!(decide (4<(jdQ d))|| !kV (jcW d) (1:Int) (5:Int)|| !kV d.1.2.2.2.1 (0:Int) (300:Int)|| !kV d.1.q4.1 (0:Int) (1440:Int)))=true->d.1.q4.2.1.length<4611686018427387904)->((jfY d)=true->(false,())=(qc d.1,()))/\((jfY d)=false->(∃(x:Nat),(jfj x)/\x<=(wO d.1).length/\∀(j:Nat),j<x->bQ (wO d.1).length (nth (wO d.1) j)=true)/\∀(x:Nat),(x<=(wO d.1).length/\∀(j:Nat),j<x->bQ (wO d.1).length (nth (wO d.1) j)=true)->d.1.2.1.length<4611686018427387904->(decide ((x:Int)<(jcW d))=true->0<=(x:Int)/\(x:Int)<(jcW d)/\(decide ((jef d x)≠(jcW d))=true->(false,())=(qc d.1,()))/\(decide ((jef d x)≠(jcW d))=false->(∃(a:Nat),((0=(a:Int)/\True)/\True)/\a<=(jdn d x).length/\∀(j:Nat),j<a->sj (nth (jdn d x) j)=true)/\∀(a:Nat),(a<=(jdn d x).length/\∀(j:Nat),j<a->sj (nth (jdn d x) j)=true)->0<=(x:Int)/\(x:Int)<(jcW d)/\((jdP d x).length<4611686018427387904->(decide ((a:Int)<(jef d x))=true->0<=(x:Int)/\(x:Int)<(jcW d)/\0<=(a:Int)/\(a:Int)<(jef d x)/\((jfV d x a)=true->(false,())=(qc d.1,()))/\((jfV d x a)=false->wq ((a:Int)+1)/\∃(b:Nat),(((a:Int)+1=(b:Int)/\True)/\True)/\(b<=(jdn d x).length/\∀(j:Nat),j<b->sj (nth (jdn d x) j)=true)/\(jdn d x).length-b<(jdn d x).length-a))/\(decide ((a:Int)<(jef d x))=false->wq ((x:Int)+1)/\∃(b:Nat),(jfi x b)/\(b<=(wO d.1).length/\∀(j:Nat),j<b->bQ (wO d.1).length (nth (wO d.1) j)=true)/\(wO d.1).length-b<(wO d.1).length-x))))/\(decide ((x:Int)<(jcW d))=false->(∃(x:Nat),(jfj x)/\x<=(wg d.1).length/\∀(j:Nat),j<x->lW (wO d.1).length (nth (wg d.1) j)=true)/\∀(x:Nat),(x<=(wg d.1).length/\∀(j:Nat),j<x->lW (wO d.1).length (nth (wg d.1) j)=true)->d.1.2.2.1.length<4611686018427387904->(decide ((x:Int)<(jdQ d))=true->0<=(x:Int)/\(x:Int)<(jdQ d)/\(d.1.2.1.length<4611686018427387904->wq ((jcW d)-1)/\((jfX d x)=true->(false,())=(qc d.1,()))/\((jfX d x)=false->wq ((x:Int)+1)/\∃(b:Nat),(jfi x b)/\(b<=(wg d.1).length/\∀(j:Nat),j<b->lW (wO d.1).length (nth (wg d.1) j)=true)/\(wg d.1).length-b<(wg d.1).length-x)))/\(decide ((x:Int)<(jdQ d))=false->(∃(x:Nat),(jfj x)/\x<=(qV d.1).length/\∀(j:Nat),j<x->lX (wg d.1).length (we (wi d.1)).length (nth (qV d.1) j)=true)/\∀(x:Nat),(x<=(qV d.1).length/\∀(j:Nat),j<x->lX (wg d.1).length (we (wi d.1)).length (nth (qV d.1) j)=true)->d.1.q4.2.1.length<4611686018427387904->(decide ((x:Int)<(jeG d))=true->0<=(x:Int)/\(x:Int)<(jeG d)/\((jfW d x)=true->(false,())=(qc d.1,()))/\((jfW d x)=false->wq ((x:Int)+1)/\∃(b:Nat),(jfi x b)/\(b<=(qV d.1).length/\∀(j:Nat),j<b->lX (wg d.1).length (we (wi d.1)).length (nth (qV d.1) j)=true)/\(qV d.1).length-b<(qV d.1).length-x))/\(decide ((x:Int)<(jeG d))=false->(true,())=(qc d.1,())))))
def Mg:wL:=⟨[.val (.slice tSh)],[.bool],false,fun d=>[d.1.length<=1000000],fun d=>(aV d.1,())⟩
def Mh:Ann:=fun r=>match r with
 |2=>some fun σ=>{X:=Nat,sl:=fun i=>[(3,.dat .int (i:Int))],ob:=fun _=>[],inv:=fun i=>i<=(gd (.slice tSh) σ 0).length/\gE (gd (.slice tSh) σ 0) i=false,mu:=fun i=>(gd (.slice tSh) σ 0).length-i}
 |5=>some fun σ=>{X:=Nat,sl:=fun i=>[(4,.dat .int (i:Int))],ob:=fun _=>[],inv:=fun i=>i<=(gd .int σ 3).toNat/\∀j:Nat,j<i->Da (nth (gd (.slice tSh) σ 0) (gd .int σ 3).toNat) (nth (gd (.slice tSh) σ 0) j)=false,mu:=fun i=>(gd .int σ 3).toNat-i}
 |_=>none
abbrev jdR (d:List ShD×Unit)(x:Nat)(a:Nat):=((nth d.1 (x:Int).toNat).1=(nth d.1 (a:Int).toNat).1)
def Mi:Prop:=∀(d:List ShD×Unit),d.1.length<=1000000->(∃(x:Nat),((0=(x:Int)/\True)/\True)/\x<=d.1.length/\gE d.1 x=false)/\∀(x:Nat),x<=d.1.length/\gE d.1 x=false->d.1.length<4611686018427387904->(decide ((x:Int)<d.1.length)=true->(∃(a:Nat),((0=(a:Int)/\True)/\True)/\a<=(x:Int).toNat/\∀(j:Nat),j<a->Da (nth d.1 (x:Int).toNat) (nth d.1 j)=false)/\∀(a:Nat),(a<=(x:Int).toNat/\∀(j:Nat),j<a->Da (nth d.1 (x:Int).toNat) (nth d.1 j)=false)->(decide ((a:Int)<(x:Int))=true->0<=(x:Int)/\(x:Int)<d.1.length/\0<=(a:Int)/\(a:Int)<d.1.length/\(decide (jdR d x a)=true->0<=(x:Int))/\(decide (jdR d x a)=true->(x:Int)<d.1.length)/\(decide (jdR d x a)=true->0<=(a:Int))/\(decide (jdR d x a)=true->(a:Int)<d.1.length)/\((decide (jdR d x a)&& !decide (nth d.1 (x:Int).toNat=nth d.1 (a:Int).toNat))=true->(true,())=(aV d.1,()))/\((decide (jdR d x a)&& !decide (nth d.1 (x:Int).toNat=nth d.1 (a:Int).toNat))=false->wq ((a:Int)+1)/\∃(b:Nat),(((a:Int)+1=(b:Int)/\True)/\True)/\(b<=(x:Int).toNat/\∀(j:Nat),j<b->Da (nth d.1 (x:Int).toNat) (nth d.1 j)=false)/\(x:Int).toNat-b<(x:Int).toNat-a))/\(decide ((a:Int)<(x:Int))=false->wq ((x:Int)+1)/\∃(b:Nat),(((x:Int)+1=(b:Int)/\True)/\True)/\(b<=d.1.length/\gE d.1 b=false)/\d.1.length-b<d.1.length-x))/\(decide ((x:Int)<d.1.length)=false->(false,())=(aV d.1,()))
def Mj:wL:=⟨[.val tDy],[.int],false,fun d=>[(wg d.1).length<=1000000],fun d=>(ez d.1,())⟩
def Mk:Ann:=fun r=>match r with
 |4=>some fun σ=>{X:=Nat,sl:=fun i=>[(3,.dat .int (i:Int))],ob:=fun _=>[],inv:=fun i=>i<=(wg (gb tDy σ 1)).length/\∀j:Nat,j<i->qr (wi (gb tDy σ 1)) (y9 (nth (wg (gb tDy σ 1)) j))=true,mu:=fun i=>(wg (gb tDy σ 1)).length-i}
 |_=>none
def Ml:Prop:=∀(d:DyD×Unit),(wg d.1).length<=1000000->((!wz d.1.1)=true->((30:Int),())=(ez d.1,()))/\((!wz d.1.1)=false->(∃(x:Nat),((0=(x:Int)/\True)/\True)/\x<=(wg d.1).length/\∀(j:Nat),j<x->qr (wi d.1) (y9 (nth (wg d.1) j))=true)/\∀(x:Nat),(x<=(wg d.1).length/\∀(j:Nat),j<x->qr (wi d.1) (y9 (nth (wg d.1) j))=true)->d.1.2.2.1.length<4611686018427387904->(decide ((x:Int)<d.1.2.2.1.length)=true->0<=(x:Int)/\(x:Int)<d.1.2.2.1.length/\wz d.1.1=true/\((!qr d.1.1 (nth d.1.2.2.1 (x:Int).toNat).1)=true->((31:Int),())=(ez d.1,()))/\((!qr d.1.1 (nth d.1.2.2.1 (x:Int).toNat).1)=false->wq ((x:Int)+1)/\∃(a:Nat),(((x:Int)+1=(a:Int)/\True)/\True)/\(a<=(wg d.1).length/\∀(j:Nat),j<a->qr (wi d.1) (y9 (nth (wg d.1) j))=true)/\(wg d.1).length-a<(wg d.1).length-x))/\(decide ((x:Int)<d.1.2.2.1.length)=false->((!qc d.1)=true->((50:Int),())=(ez d.1,()))/\((!qc d.1)=false->d.1.q4.2.1.length<=1000000/\(aV d.1.q4.2.1=true->((51:Int),())=(ez d.1,()))/\(aV d.1.q4.2.1=false->((0:Int),())=(ez d.1,())))))
theorem Mm:Jm:=by
 rintro⟨n,a,b,⟨⟩⟩;rfl
theorem lN:wU PR 136 Jl:=wF Mm Tryz.func136 kcN koN
theorem DR:Cw:=by
 rintro⟨d,n,⟨⟩⟩ a;have a:(wg d).length<4611686018427387904:=a;exact⟨by show wq (((wg d).length:Int)-1);exact iZ6,rfl⟩
theorem Cx:wU PR 137 Cv:=wF DR Tryz.func137 (kcC lN kcN) koN
theorem GI:DQ:=by
 rintro⟨d,n,⟨⟩⟩ a;have a:(we (wi d)).length<4611686018427387904:=a;exact⟨by show wq (((we (wi d)).length:Int)-1);exact iZ6,rfl⟩
theorem DS:wU PR 138 DP:=wF GI Tryz.func138 (kcC lN kcN) koN
theorem Jn (l:List ShD) (n:Nat):gE l (n+1)=(gE l n||Au l n):=by
 unfold gE;rw[zq,List.any_append];simp
theorem GJ {l:List ShD} {i:Nat} (h:∀j:Nat,j<i->Da (nth l i) (nth l j)=false) (hi:i<=l.length):Au l i=false:=by
 unfold Au;rw[zj];intro s a;rw[ze] at a;obtain⟨j,b,rfl⟩:=a;have:=h j (by omega);rw[L.ql (l:=l) (i:=j) (by omega)] at this;simpa using this
theorem PT {l:List ShD} {i j:Nat} (hi:i<l.length) (a:j<i) (h:Da (nth l i) (nth l j)=true):aV l=true:=by
 unfold aV gE Au;rw[j9];refine⟨i,jC.2 hi,?_⟩;rw[j9];refine⟨nth l j,?_,h⟩;rw[ze];exact⟨j,by omega,(L.ql (by omega)).symm⟩
theorem PU:Mi:=by
 unfold Mi jdR;rintro⟨l,⟨⟩⟩ k;have k:l.length<=1000000:=k;refine⟨⟨0,⟨⟨rfl,tZ⟩,tZ⟩,jw _,rfl⟩,fun x m _=>⟨fun h=> ?_,fun h=> ?_⟩⟩;have h:(x:Int)<l.length:=jb h;obtain⟨_,a⟩:x<=l.length/\gE l x=false:=m;refine⟨⟨0,⟨⟨rfl,tZ⟩,tZ⟩,jw _,fun j o=>by omega⟩,fun y n=>⟨fun c=> ?_,fun c=> ?_⟩⟩;have c:(y:Int)<(x:Int):=jb c;obtain⟨_,b⟩:y<=x/\∀j:Nat,j<y->Da (nth l x) (nth l j)=false:=n;have f:(y:Int)<l.length:=(by omega);refine⟨by omega,h,by omega,f,fun _=>by omega,fun _=>h,fun _=>by omega,fun _=>f,fun d=> ?_,fun d=>⟨iZ6,y+1,⟨⟨by simp,tZ⟩,tZ⟩,⟨by show y+1<=x;omega,fun j o=> ?_⟩,by show x-(y+1)<x-y;omega⟩⟩;have d:Da (nth l x) (nth l y)=true:=d;have:=PT (by omega) (by omega) d;show(true,())=(aV l,());rw[this];by_cases e:j=y;subst e;exact d;exact b j (by omega);have c:¬(y:Int)<(x:Int):=je c;obtain⟨q,b⟩:y<=x/\∀j:Nat,j<y->Da (nth l x) (nth l j)=false:=n;have i:y=x:=(by omega);subst i;refine⟨iZ6,y+1,⟨⟨by simp,tZ⟩,tZ⟩,⟨by show y+1<=l.length;omega,?_⟩,by show l.length-(y+1)<l.length-y;omega⟩;show gE l (y+1)=false;rw[Jn,a,GJ b (by omega)];rfl;have h:¬(x:Int)<l.length:=je h;obtain⟨p,a⟩:x<=l.length/\gE l x=false:=m;have g:x=l.length:=(by omega);subst g;show(false,())=(aV l,());unfold aV;rw[a]
theorem Mn:wU PR 94 Mg:=yi Mh PU Tryz.func94 kcN koN
theorem PV:Ml:=by
 unfold Ml Prod.q4;rintro⟨d,⟨⟩⟩ k;have k:(wg d).length<=1000000:=k;refine⟨fun h=> ?_,fun h=> ?_⟩;have h:wz (wi d)=false:=(by simpa using(show(!wz (wi d))=true from h));show((30:Int),())=(ez d,());unfold ez;rw[h];rfl;have g:wz (wi d)=true:=(by simpa using(show(!wz (wi d))=false from h));refine⟨⟨0,⟨⟨rfl,tZ⟩,tZ⟩,jw _,fun j f=>by omega⟩,fun x m _=>⟨fun h=> ?_,fun h=> ?_⟩⟩;have h:(x:Int)<(wg d).length:=jb h;refine⟨by omega,h,g,fun a=> ?_,fun a=>⟨iZ6,x+1,⟨⟨by simp,tZ⟩,tZ⟩,⟨by show x+1<=(wg d).length;omega,fun j f=> ?_⟩,by show(wg d).length-(x+1)<(wg d).length-x;omega⟩⟩;have a:qr (wi d) (y9 (nth (wg d) x))=false:=(by simpa using(show(!qr (wi d) (y9 (nth (wg d) x)))=true from a));have f:J6 d=false:=by
  unfold J6;exact zQ.2 ⟨_,L.wd (l:=wg d) (i:=x) (by omega),by rw[a];simp⟩
 show((31:Int),())=(ez d,());unfold ez;rw[g,f];rfl;have a:qr (wi d) (y9 (nth (wg d) x))=true:=(by simpa using(show(!qr (wi d) (y9 (nth (wg d) x)))=false from a));by_cases e:j=x;subst e;exact a;exact m.2 j (by omega);have h:¬(x:Int)<(wg d).length:=je h;have f:J6 d=true:=fJ (p:=fun b=>qr (wi d) (y9 b)) (by omega) m.2;refine⟨fun a=> ?_,fun a=> ?_⟩;have a:qc d=false:=(by simpa using(show(!qc d)=true from a));show((50:Int),())=(ez d,());unfold ez;rw[g,f,a];rfl;have a:qc d=true:=(by simpa using(show(!qc d)=false from a));have n:(qV d).length<=30:=(yz a).2.2.2.2.1;refine⟨by show(qV d).length<=1000000;omega,fun c=> ?_,fun c=> ?_⟩;have c:aV (qV d)=true:=c;show((51:Int),())=(ez d,());unfold ez;rw[g,f,a,c];rfl;have c:aV (qV d)=false:=c;show((0:Int),())=(ez d,());unfold ez;rw[g,f,a,c];rfl
end Go.X
namespace Go.X
open U
open Go.Proofs
def Z8 (d:DyD):Bool:=decide (4<((wg d).length:Int))|| !kV ((wO d).length:Int) 1 5|| !kV (QE d) 0 300|| !kV (Zh d) 0 1440||decide (30<((qV d).length:Int))
def spH (s:SpD):Bool:=decide (U.lo s<0)||decide (U.hi s<U.lo s)||decide (300<U.hi s)
def bkH (n:Nat) (b:BkD):Bool:= !kV (Zg b) 0 ((n:Int)-1)||decide (qR b<0)||decide (mB b<=qR b)||decide (1440<mB b)
def shH (d:DyD) (s:ShD):Bool:= !kV (gu s) 0 99|| !kV (Hu s) 0 9999|| !kV (WD s) 1 2|| !Ur d (J5 s)|| !Kc d (nD s)
theorem Td (d:DyD):qc d=(!Z8 d&&((wO d).all (bQ (wO d).length)&&((wg d).all (lW (wO d).length)&&(qV d).all (lX (wg d).length (we (wi d)).length)))):=by
 unfold qc Z8;congr 1;rw[jZ];simp only[kV,jO,jN,jE,zl,ji,jp];omega
theorem Xd (s:SpD):sj s= !spH s:=by
 unfold sj spH;rw[jZ];simp only[jO,jN,jE,jp];omega
theorem Xe (n:Nat) (b:BkD):lW n b= !bkH n b:=by
 unfold lW bkH;rw[jZ];simp only[kV,jO,jN,jE,zl,ji,jp];omega
theorem Xf (d:DyD) (s:ShD):lX (wg d).length (we (wi d)).length s= !shH d s:=by
 unfold lX shH Ur Kc;rw[jZ];simp only[kV,jO,jN,zl,ji,jp];omega
theorem Jo {d:DyD} (h:Z8 d=true\/(wO d).all (bQ (wO d).length)=false\/(wg d).all (lW (wO d).length)=false\/(qV d).all (lX (wg d).length (we (wi d)).length)=false):(false,())=(qc d,()):=by
 have:qc d=false:=by
  rw[Td];rcases h with h|h|h|h<;>rw[h]<;>simp
 rw[this]
theorem Jp {α:Type} [Inhabited α] {l:List α} {p:α->Bool} {x:Nat} (a:x<l.length) (h:p (nth l x)=false):l.all p=false:=zQ.2 ⟨_,L.wd a,by rw[h];simp⟩
theorem PW:Mf:=by
 unfold Mf jfj jfY jeG jef jfX jee jfi jdQ jfW jed jcW jdn jfV jdP Prod.q4;rintro⟨d,⟨⟩⟩ _ _ _;refine⟨fun h=>Jo (d:=d) (.inl h),fun k=> ?_⟩;have k:Z8 d=false:=k;have l:=k;unfold Z8 at l;simp only[kV,jN,jE,zl,ji,jp] at l;refine⟨⟨0,⟨⟨rfl,tZ⟩,tZ⟩,jw _,fun j g=>by omega⟩,fun x c _=>⟨fun h=> ?_,fun h=> ?_⟩⟩;have h:(x:Int)<(wO d).length:=jb h;have b:x<(wO d).length:=(by omega);refine⟨by omega,h,fun a=> ?_,fun a=>⟨⟨0,⟨⟨rfl,tZ⟩,tZ⟩,jw _,fun j g=>by omega⟩,fun y n=>⟨by omega,h,fun m=>⟨fun i=> ?_,fun i=> ?_⟩⟩⟩⟩;have a:¬((nth (wO d) x).length:Int)=(wO d).length:=jb a;refine Jo (d:=d) (.inr (.inl (Jp b ?_)));unfold bQ;rw[za (by omega)];rfl;have m:(nth (wO d) x).length<4611686018427387904:=m;have i:(y:Int)<(nth (wO d) x).length:=jb i;refine⟨by omega,h,by omega,i,fun f=> ?_,fun f=>⟨iZ6,y+1,⟨⟨by simp,tZ⟩,tZ⟩,⟨by show y+1<=(nth (wO d) x).length;omega,fun j g=> ?_⟩,by show(nth (wO d) x).length-(y+1)<(nth (wO d) x).length-y;omega⟩⟩;have f:spH (nth (nth (wO d) x) y)=true:=f;refine Jo (d:=d) (.inr (.inl (Jp b ?_)));have:(nth (wO d) x).all sj=false:=Jp (x:=y) (by omega) (by rw[Xd,f];rfl);unfold bQ;rw[this,ku];have f:spH (nth (nth (wO d) x) y)=false:=f;by_cases e:j=y;subst e;show sj (nth (nth (wO d) x) j)=true;rw[Xd,f];rfl;exact n.2 j (by omega);have i:¬(y:Int)<(nth (wO d) x).length:=je i;have a:((nth (wO d) x).length:Int)=(wO d).length:=jQ.1 (je a);have o:(nth (wO d) x).all sj=true:=fJ (by omega) n.2;refine⟨iZ6,x+1,⟨⟨by simp,tZ⟩,tZ⟩,⟨by show x+1<=(wO d).length;omega,fun j g=> ?_⟩,by show(wO d).length-(x+1)<(wO d).length-x;omega⟩;by_cases e:j=x;subst e;show bQ (wO d).length (nth (wO d) j)=true;unfold bQ;rw[o,jI (by omega)];rfl;exact c.2 j (by omega);have h:¬(x:Int)<(wO d).length:=je h;have r:(wO d).all (bQ (wO d).length)=true:=fJ (by omega) c.2;clear c h;refine⟨⟨0,⟨⟨rfl,tZ⟩,tZ⟩,jw _,fun j g=>by omega⟩,fun x c _=>⟨fun h=> ?_,fun h=> ?_⟩⟩;have h:(x:Int)<(wg d).length:=jb h;have b:x<(wg d).length:=(by omega);refine⟨by omega,h,fun _=>⟨by show wq (((wO d).length:Int)-1);exact iZ6,fun a=> ?_,fun a=>⟨iZ6,x+1,⟨⟨by simp,tZ⟩,tZ⟩,⟨by show x+1<=(wg d).length;omega,fun j g=> ?_⟩,by show(wg d).length-(x+1)<(wg d).length-x;omega⟩⟩⟩;have a:bkH (wO d).length (nth (wg d) x)=true:=a;exact Jo (d:=d) (.inr (.inr (.inl (Jp b (by rw[Xe,a];rfl)))));have a:bkH (wO d).length (nth (wg d) x)=false:=a;by_cases e:j=x;subst e;show lW (wO d).length (nth (wg d) j)=true;rw[Xe,a];rfl;exact c.2 j (by omega);have h:¬(x:Int)<(wg d).length:=je h;have p:(wg d).all (lW (wO d).length)=true:=fJ (by omega) c.2;clear c h;refine⟨⟨0,⟨⟨rfl,tZ⟩,tZ⟩,jw _,fun j g=>by omega⟩,fun x c _=>⟨fun h=> ?_,fun h=> ?_⟩⟩;have h:(x:Int)<(qV d).length:=jb h;have b:x<(qV d).length:=(by omega);refine⟨by omega,h,fun a=> ?_,fun a=>⟨iZ6,x+1,⟨⟨by simp,tZ⟩,tZ⟩,⟨by show x+1<=(qV d).length;omega,fun j g=> ?_⟩,by show(qV d).length-(x+1)<(qV d).length-x;omega⟩⟩;have a:shH d (nth (qV d) x)=true:=a;exact Jo (d:=d) (.inr (.inr (.inr (Jp b (by rw[Xf,a];rfl)))));have a:shH d (nth (qV d) x)=false:=a;by_cases e:j=x;subst e;show lX (wg d).length (we (wi d)).length (nth (qV d) j)=true;rw[Xf,a];rfl;exact c.2 j (by omega);have h:¬(x:Int)<(qV d).length:=je h;have q:(qV d).all (lX (wg d).length (we (wi d)).length)=true:=fJ (by omega) c.2;show(true,())=(qc d,());rw[Td,k,r,p,q];rfl
theorem Mo:wU PR 93 Md:=yi Me PW Tryz.func93 (kcC lN (kcC Cx (kcC DS kcN))) koN
theorem Cy:wU PR 57 Mj:=yi Mk PV Tryz.func57 (kcC uC (kcC Mb (kcC Mo (kcC Mn kcN)))) koN
namespace U
def Ut (l:List ShD) (i n:Nat):Bool:=decide (WD (nth l i)=1)&& !((l.take n).any (fun t=>decide (J5 t=J5 (nth l i))&&decide (nD t=nD (nth l i))&&gn t (nth l i)))
def jaE (l:List ShD) (n:Nat):List ShD:=((List.range n).filter (fun i=>Ut l i l.length)).map (nth l)
def nE (l:List ShD) (n:Nat):Nat:=(List.range n).foldl (fun f i=>if gn (nth l f) (nth l i)=true then i else f) 0
def ga (l:List ShD):Nat->List ShD×List ShD
 |0=>([],l)
 |n+1=>((ga l n).1++[nth (ga l n).2 (nE (ga l n).2 (ga l n).2.length)],(ga l n).2.take (nE (ga l n).2 (ga l n).2.length)++(ga l n).2.drop (nE (ga l n).2 (ga l n).2.length+1))
def Ek (d:DyD):List ShD:=jaE (Ei (qV d)) (Ei (qV d)).length
def ZD (d:DyD):List ShD:=(ga (Ek d) (Ek d).length).1
def jaF (d:DyD) (n:Nat):List Int×List Int:=((ZD d).take n).foldl (Fq d) (List.replicate (wg d).length 0,[])
def Uu (d:DyD):List Int×List Int:=jaF d (ZD d).length
def QV (d:DyD):List Int:=if ez d=0 then(Uu d).1 else[]
end U
end Go.X
namespace Go.X
open U
theorem Ff (l:List ShD) (n:Nat):nE l (n+1)=if gn (nth l (nE l n)) (nth l n)=true then n else nE l n:=by
 unfold nE;rw[zq,jV];rfl
theorem Ap (l:List ShD):∀n,n<=l.length->0<l.length->nE l n<l.length
 |0,_,h=>h
 |n+1,a,h=>by
  have b:=Ap l n (by omega) h
  rw[Ff]
  split<;>omega
theorem Aq (l:List ShD):∀n,n<=l.length->(ga l n).1.length=n/\(ga l n).2.length=l.length-n
 |0,_=>⟨rfl,rfl⟩
 |n+1,d=>by
  obtain⟨a,b⟩:=Aq l n (by omega)
  have c:=Ap (ga l n).2 _ (jk _) (by omega)
  refine⟨?_,?_⟩
  show((ga l n).1++[_]).length=_
  rw[jL,a];rfl
  show((ga l n).2.take _++(ga l n).2.drop _).length=_
  rw[jL,j0,zV]
  omega
theorem VT {α:Type} [Inhabited α] {l:List α} {m:Nat} (h:m<l.length):(nth l m::(l.take m++l.drop (m+1))).Perm l:=by
 have e:l=l.take m++nth l m::l.drop (m+1):=by
  conv=>lhs;rw[<-zW m l]
  rw[zY h,L.ql h]
 conv=>rhs;rw[e]
 exact List.perm_middle.symm
theorem Jq (l:List ShD):∀n,n<=l.length->((ga l n).1++(ga l n).2).Perm l
 |0,_=>List.Perm.refl _
 |n+1,d=>by
  have b:=Jq l n (by omega)
  have c:=Aq l n (by omega)
  have a:=Ap (ga l n).2 _ (jk _) (by omega)
  refine List.Perm.trans ?_ b
  show((ga l n).1++[nth (ga l n).2 (nE (ga l n).2 (ga l n).2.length)]++_).Perm _
  rw[jJ]
  exact List.Perm.append_left _ (VT a)
theorem VU {l:List ShD} {s:ShD} (h:s∈Ei l):s∈l:=by
 unfold Ei Uo at h;obtain⟨m,_,h⟩:=List.mem_flatMap.1 h;unfold WE at h;obtain⟨i,hi,rfl⟩:=jT.1 h;exact L.wd (jC.1 (jP.1 hi).1)
open Go.Proofs
theorem Xg {d:DyD} (h:ez d=0):QH d:=(yO ((lL d).trans h)).1
attribute [local irreducible] ZD jaF sk U.on
end Go.X
namespace Go.X
open U
theorem mw (c:CrD) (j:JbD) (i:Nat):(vL (c,j,d4 c j,()) (nth (we c) i)=0)↔gG c j (i:Int)=true:=by
 show QF (J7 (nth (we c) i) (WB j)) (!gF (U.fd (nth (we c) i)) (WC j)) (!gF (U.cl (nth (we c) i)) (fO j))=0↔
  (!(J7 (nth (we c) ((i:Int)).toNat) (WB j))&&gF (U.fd (nth (we c) ((i:Int)).toNat)) (WC j)&&gF (U.cl (nth (we c) ((i:Int)).toNat)) (fO j))=true
 rw[ju];generalize J7 (nth (we c) i) (WB j)=x;generalize gF (U.fd (nth (we c) i)) (WC j)=y;generalize gF (U.cl (nth (we c) i)) (fO j)=z;cases x<;>cases y<;>cases z<;>decide
theorem YF {c:CrD} {j:JbD} (b:wz c=true) (d:qr c j=true) (p:Nat):(p:Int)∈cE c j↔p<(we c).length/\gG c j (p:Int)=true:=by
 have a:qW c j=0:=(by unfold qW;rw[b,d];rfl);unfold cE bU;rw[jh a,jT];refine⟨fun⟨i,hi,e⟩=> ?_,fun h=>⟨p,?_,rfl⟩⟩;have e:i=p:=(by omega);subst e;have:=jP.1 hi;exact⟨jC.1 this.1,(mw c j i).1 (jb this.2)⟩;exact jP.2 ⟨jC.2 h.1,jI ((mw c j p).2 h.2)⟩
theorem Te {l:List Int} (h:∀p∈l,0<=p/\p<8):∀n,n<=l.length->∀q,BT.has (ij l n) q=(l.take n).any (fun p=>decide (p.toNat=q))
 |0,_,q=>BT.sy q
 |n+1,c,q=>by
  have b:=Te h n (by omega) q
  have a:=oX h n (by omega)
  have d:=h _ (L.wd (l:=l) (i:=n) (by omega))
  rw[tH (by omega),Cr,BT.has_bor a.1 (BT.mD (by omega)),b,BT.Aw,L.wG (by omega),List.any_append]
  simp
theorem Tf {l:List Int} (h:∀p∈l,0<=p/\p<8) (q:Nat):BT.has (Ow l) q=l.any (fun p=>decide (p.toNat=q)):=by
 have:=Te h l.length (jk _) q;rw[zD] at this;exact this
theorem VV {d:DyD} {b:Nat} (a:b<(wg d).length):nth (vN d (wg d).length) b=Ow (cE (wi d) (y9 (nth (wg d) b))):=by
 unfold vN;rw[zD,L.nth_map a]
theorem Xh {d:DyD} (a:QH d) {b:Nat} (c:b<(wg d).length):qr (wi d) (y9 (nth (wg d) b))=true:=
 j6.1 a.2.1 _ (L.wd c)
theorem YG {d:DyD} (g:QH d) {b p:Int} (m:aO d b) (n:QT d p):decide (nI (nth (vN d (wg d).length) b.toNat/2^p.toNat) 1=0)= !gG (wi d) (y9 (U.bk d b)) p:=by
 unfold aO at m;unfold QT at n;have a:b.toNat<(wg d).length:=(by omega);have j:=fun q (c:q∈cE (wi d) (y9 (nth (wg d) b.toNat)))=>S8 g.1 c
 have o:BT.vA (Ow (cE (wi d) (y9 (nth (wg d) b.toNat)))):=(oX j _ (jk _)).1;have i:U.bk d b=nth (wg d) b.toNat:=rfl;rw[VV a,BT.bit_num o,i];have k:=Tf j p.toNat;have f:=YF g.1 (Xh g a) p.toNat;have ep:((p.toNat:Nat):Int)=p:=(by omega);rw[ep] at f;have l:BT.has (Ow (cE (wi d) (y9 (nth (wg d) b.toNat)))) p.toNat=gG (wi d) (y9 (nth (wg d) b.toNat)) p:=by
  rw[k];cases h:gG (wi d) (y9 (nth (wg d) b.toNat)) p with
  |true=>exact j9.2 ⟨p,f.2 ⟨by omega,h⟩,by simp⟩
  |false=>
   refine zj.2 fun q c e=> ?_
   have e:q.toNat=p.toNat:=jb e;have:=j q c;have e:q=p:=(by omega);rw[e] at c;rw[(f.1 c).2] at h;cases h
 rw[l];cases gG (wi d) (y9 (nth (wg d) b.toNat)) p<;>rfl
theorem Jr {α:Type} [Inhabited α] {R:α->α->Prop} {l:List α}:(∀i,i<l.length->∀b∈l.take i,R b (nth l i))↔l.Pairwise R:=by
 rw[zy];refine⟨fun h i j hi a d=> ?_,fun h i hi b c=> ?_⟩;have:=h j a l[i] (ze.2 ⟨i,by omega,rfl⟩);rw[L.ql a] at this;exact this;obtain⟨k,hk,rfl⟩:=ze.1 c;rw[L.ql hi];exact h k i (by omega) hi (by omega)
theorem Tg {α:Type} [Inhabited α] {R:α->α->Prop} {l:List α}:(∀i,i<l.length->∀b∈l.drop (i+1),R (nth l i) b)↔l.Pairwise R:=by
 rw[zy];refine⟨fun h i j hi d c=> ?_,fun h i hi b a=> ?_⟩;have:=h i hi l[j] (List.mem_drop_iff_getElem.2 ⟨j-(i+1),by omega,by congr 1;omega⟩);rw[L.ql hi] at this;exact this;obtain⟨k,hk,rfl⟩:=List.mem_drop_iff_getElem.1 a;rw[L.ql hi];exact h i (i+1+k) hi (by omega) (by omega)
theorem lO (d:DyD) (a b:Int):cD d a b=true↔(qR (U.bk d a)<qR (U.bk d b)\/(qR (U.bk d a)=qR (U.bk d b)/\a<b)):=decide_eq_true_iff
theorem lP (d:DyD) (a b:Int):cD d a b=false↔¬(qR (U.bk d a)<qR (U.bk d b)\/(qR (U.bk d a)=qR (U.bk d b)/\a<b)):=jE
theorem Th (d:DyD) (l:List Int):vu (cD d) l where
 irrefl x _:=(lP d x x).2 (by omega)
 trans x y z _ _ _ a b:=by
  have a:=(lO d x y).1 a;have b:=(lO d y z).1 b;exact(lO d x z).2 (by omega)
 total x y _ _ a b:=by
  have a:=(lP d x y).1 a;have b:=(lP d y x).1 b;omega
theorem Cz {d:DyD} {a b:Int} (h:a≠b) (c:cD d b a=false):cD d a b=true:=by
 have c:=(lP d b a).1 c;exact(lO d a b).2 (by omega)
theorem PX {d:DyD} {a b:Int} (c:cD d a b=true):cD d b a=false:=by
 have c:=(lO d a b).1 c;exact(lP d b a).2 (by omega)
theorem rT {d:DyD} {a b:Int} (h:cD d a b=true):(lY d b a=decide (0<=bR d a b))/\(lY d a b=decide (0<=bR d a b)):=by
 unfold lY;rw[jh h,PX h,jc (by simp)];exact⟨rfl,rfl⟩
theorem VW {d:DyD} {a b:Int} (h:a≠b):lY d a b=lY d b a:=by
 cases c:cD d b a with
 |false=>have:=rT (Cz h c);rw[this.1,this.2]
 |true=>have:=rT c;rw[this.1,this.2]
def TgR (d:DyD) (a b:Int):Prop:=a≠b->lY d b a=true
theorem Ti {d:DyD} {l:List Int} (f:l.Nodup):jaA d l=true↔l.Pairwise (TgR d):=by
 rw[<-Jr];unfold jaA;rw[j6];have e:∀i,i<l.length->∀b∈l.take i,b≠nth l i:=(Jr (R:=fun a b=>a≠b)).2 f;refine⟨fun h i hi b c _=> ?_,fun h i hi=>j6.2 fun b c=> ?_⟩;exact j6.1 (h i (jC.2 hi)) b c;exact h i (jC.1 hi) b c (e i (jC.1 hi) b c)
theorem TgR.symm {d:DyD} {a b:Int} (h:TgR d a b):TgR d b a:=fun e=>(VW (Ne.symm e)).trans (h (Ne.symm e))
theorem Tj {d:DyD} {l l':List Int} (h:l.Perm l'):M3 d l=M3 d l':=by
 unfold M3;exact List.Perm.foldl_eq' (h.map _) (fun x _ y _ z=>by omega) 0
theorem GK (d:DyD) (p:Int) {l:List Int} (a:l.Nodup):sk d p l=true↔(∀b∈l,gG (wi d) (y9 (U.bk d b)) p=true)/\l.Pairwise (TgR d)/\M3 d l<=Zh d:=by
 unfold sk;rw[ji,ji,j6,Ti a,decide_eq_true_iff]
theorem Fg (d:DyD) (p:Int) {l l':List Int} (h:l.Perm l') (g:l.Nodup):sk d p l=sk d p l':=by
 have f:=h.nodup_iff.1 g;refine jZ.2 ?_;rw[GK d p g,GK d p f,Tj h,h.pairwise_iff (fun h=>TgR.symm h)];exact⟨fun⟨a,c⟩=>⟨fun b e=>a b (h.mem_iff.2 e),c⟩,fun⟨a,c⟩=>⟨fun b e=>a b (h.mem_iff.1 e),c⟩⟩
theorem VX (d:DyD) (may:List Int) (p:Int) (s:List Int):Zk d may p s=true↔(∀b∈s,decide (nI (nth may b.toNat/2^p.toNat) 1=0)=false)/\s.Pairwise (fun a b=>0<=bR d a b)/\M3 d s<=Zh d:=by
 rw[<-Tg];unfold Zk;rw[ji,decide_eq_true_iff,j6,<-and_assoc];refine and_congr_left fun _=> ?_
 have e:∀i,Hp d may p s i=true↔decide (nI (nth may (nth s i).toNat/2^p.toNat) 1=0)=false/\∀b∈s.drop (i+1),0<=bR d (nth s i) b:=by
  intro i;unfold Hp;rw[jO,jN,zj];refine and_congr_right fun _=>⟨fun h b c=> ?_,fun h b c=> ?_⟩
  have:=h b c;simp at this;omega;have:=h b c;simp;omega
 refine⟨fun h=>⟨fun b c=> ?_,fun i hi=>((e i).1 (h i (jC.2 hi))).2⟩,fun h i hi=>(e i).2 ⟨h.1 _ (L.wd (jC.1 hi)),h.2 i (jC.1 hi)⟩⟩;obtain⟨i,hi,rfl⟩:=L.mem_iff.1 c;exact((e i).1 (h i (jC.2 hi))).1
theorem YH {d:DyD} {may:List Int} {p:Int} {l:List Int} (m:l.Nodup) (j:∀b∈l,decide (nI (nth may b.toNat/2^p.toNat) 1=0)= !gG (wi d) (y9 (U.bk d b)) p):M5 d may p l=sk d p l:=by
 have f:(wj d l).Perm l:=wQ l;have c:(wj d l).Nodup:=f.nodup_iff.2 m;have k:(wj d l).Pairwise (fun a b=>cD d b a=false):=bu (Th d l);rw[<-Fg d p f c];unfold M5;refine jZ.2 ?_;rw[VX,GK d p c];have i:=List.Pairwise.and k c;refine and_congr ⟨fun h b e=> ?_,fun h b e=> ?_⟩ (and_congr_left fun _=>⟨fun h=> ?_,fun h=> ?_⟩);have g:=h b e;rw[j b (f.mem_iff.1 e)] at g;simpa using g;rw[j b (f.mem_iff.1 e),h b e];rfl;refine(List.Pairwise.and i h).imp fun{a b} x _=> ?_
 rw[(rT (Cz x.1.2 x.1.1)).1];exact jI x.2;refine(List.Pairwise.and i h).imp fun{a b} x=> ?_
 have:=x.2 x.1.2;rw[(rT (Cz x.1.2 x.1.1)).1] at this;exact jb this
theorem lQ (a b:ShD):gn a b=true↔(Hu b<Hu a\/(Hu a=Hu b/\gu b<gu a)):=decide_eq_true_iff
theorem rU (a b:ShD):gn a b=false↔¬(Hu b<Hu a\/(Hu a=Hu b/\gu b<gu a)):=jE
theorem cB (a:ShD):gn a a=false:=(rU a a).2 (by omega)
theorem Fh {a b:ShD} (h:gn a b=true):gn b a=false:=by
 have h:=(lQ a b).1 h;exact(rU b a).2 (by omega)
theorem CA {a b c:ShD} (d:gn a b=true) (e:gn b c=true):gn a c=true:=by
 have d:=(lQ a b).1 d;have e:=(lQ b c).1 e;exact(lQ a c).2 (by omega)
theorem VY (a b:ShD):wn a b<0↔gn b a=true:=by
 rw[lQ];unfold wn;rw[wY,q9]
 split
 rename_i h;have c:¬Hu a=Hu b:=fun e=>h (am.2 e)
 rw[SK];omega;rename_i h;have d:Hu a=Hu b:=am.1 (jQ.1 h);rw[SK];omega
theorem YI {l:List ShD} (hi:∀a∈l,∀b∈l,gu a=gu b->a=b):vu Zj l where
 irrefl x _:=cB x
 trans x y z _ _ _ c d:=CA d c
 total x y hx hy c d:=by
  have c:=(rU y x).1 c;have d:=(rU x y).1 d;exact hi x hx y hy (by omega)
theorem Tk {l:List ShD}:∀i,i<l.length->∃j,j<l.length/\nth l j=nth l i/\Hn l j=true:=by
 intro i
 induction i using Nat.strongRecOn with
 |_ i d=>
  intro hi;cases h:Hn l i with
  |true=>exact⟨i,hi,rfl,h⟩
  |false=>
   simp only[Hn,zl] at h;obtain⟨x,c,e⟩:=j9.1 h;obtain⟨k,hk,rfl⟩:=ze.1 c;have e:l[k]=nth l i:=jb e;obtain⟨j,b,a,e2⟩:=d k (by omega) (by omega);exact⟨j,b,by rw[a,L.ql (by omega)];exact e,e2⟩
theorem YJ {l:List ShD} {s:ShD} (h:s∈l) (c:0<=gu s) (d:gu s<=99):s∈Ei l:=by
 obtain⟨i,hi,rfl⟩:=L.mem_iff.1 h;obtain⟨j,b,a,e2⟩:=Tk i hi;unfold Ei Uo;refine List.mem_flatMap.2 ⟨(gu (nth l i)).toNat,jC.2 (by omega),?_⟩;unfold WE;refine jT.2 ⟨j,jP.2 ⟨jC.2 b,?_⟩,a⟩;show(decide (gu (nth l j)=(((gu (nth l i)).toNat:Nat):Int))&&Hn l j)=true;rw[e2,a,Bool.and_true];exact jI (by omega)
theorem N9 {l:List ShD} {n m:Nat} {s:ShD} (h:s∈WE l n m):gu s=(m:Int):=by
 unfold WE at h;obtain⟨i,hi,rfl⟩:=jT.1 h;have a:=(jP.1 hi).2;rw[ji] at a;exact jb a.1
theorem PY (l:List ShD):(Ei l).Nodup:=by
 unfold Ei Uo;refine List.pairwise_flatMap.2 ⟨fun m _=> ?_,?_⟩;unfold WE;refine zP.2 (List.Pairwise.imp_of_mem ?_ (List.Pairwise.filter _ kE));intro i j hi c k e;have c:=jP.1 c;have d:=c.2;rw[ji] at d;have f:=d.2;have n:=jC.1 c.1;have o:((l.take j).any (fun x=>decide (x=nth l j)))=true:=
  j9.2 ⟨nth l i,ze.2 ⟨i,by omega,(L.ql (by omega)).symm⟩,jI e⟩
 unfold Hn at f;rw[o] at f;cases f;refine List.Pairwise.imp ?_ kE;intro a b h x p y q e;have g:=N9 p;have d:=N9 q;rw[e] at g;omega
theorem Oa (t s:ShD):d7 t=d7 s↔J5 t=J5 s/\nD t=nD s:=by
 unfold d7;refine⟨fun h=>⟨jS (·.1) h,jS (·.2.1) h⟩,fun h=>by rw[h.1,h.2]⟩
theorem Mp (l:List ShD) (s:ShD):Av l s=true↔WD s=1/\∀t∈l,d7 t=d7 s->gn t s=false:=by
 unfold Av;rw[ji,decide_eq_true_iff,jO,zj];refine and_congr_right fun _=>⟨fun h t a e=> ?_,fun h t a e=> ?_⟩
 have e:=(Oa t s).1 e;have:=h t a;rw[e.1,e.2,jI rfl,jI rfl] at this;simpa using this;rw[ji,ji,decide_eq_true_iff,decide_eq_true_iff] at e;rw[h t a ((Oa t s).2 e.1)] at e;exact absurd e.2 (by simp)
theorem Tl (d:DyD):Ek d=(Ei (qV d)).filter (Av (Ei (qV d))):=by
 unfold Ek;generalize Ei (qV d)=l;unfold jaE;have e:(fun i=>Ut l i l.length)=(Av l)∘(nth l):=by
  funext i;unfold Ut;rw[zD];rfl
 rw[e];have:=List.filter_map (f:=nth l) (p:=Av l) (l:=List.range l.length);rw[<-this,L.range_map_nth]
theorem Js (l:List ShD):∀n,∀i,i<n->gn (nth l (nE l n)) (nth l i)=false
 |0,i,h=>absurd h (by omega)
 |n+1,i,h=>by
  have b:=Js l n
  rw[Ff]
  split
  rename_i a
  rcases Nat.lt_succ_iff_lt_or_eq.1 h with h|h
  cases c:gn (nth l n) (nth l i) with
  |false=>rfl
  |true=>have:=CA a c;rw[b i h] at this;cases this
  subst h;exact cB _
  rename_i a
  rcases Nat.lt_succ_iff_lt_or_eq.1 h with h|h
  exact b i h
  subst h;simpa using a
theorem Tm (l:List ShD):∀n,n<=l.length->(ga l n).1.Pairwise (fun a b=>gn a b=false)/\∀a∈(ga l n).1,∀b∈(ga l n).2,gn a b=false
 |0,_=>⟨List.Pairwise.nil,fun a d=>by cases d⟩
 |n+1,m=>by
  obtain⟨j,g⟩:=Tm l n (by omega)
  have k:=Aq l n (by omega)
  have h:=Ap (ga l n).2 _ (jk _) (by omega)
  have e:=Js (ga l n).2 (ga l n).2.length
  have f:∀b∈(ga l n).2.take (nE (ga l n).2 (ga l n).2.length)++(ga l n).2.drop (nE (ga l n).2 (ga l n).2.length+1),b∈(ga l n).2:=by
   intro b c;rcases js.1 c with c|c;exact z6 c;exact zZ c
  refine⟨List.pairwise_append.2 ⟨j,List.pairwise_singleton _ _,fun a d b c=> ?_⟩,fun a d b c=> ?_⟩;simp at c;subst c;exact g a d _ (L.wd h);have c:=f b c;have d:a∈(ga l n).1++[nth (ga l n).2 (nE (ga l n).2 (ga l n).2.length)]:=d;rcases js.1 d with d|d;exact g a d b c;simp at d;subst d;obtain⟨i,hi,rfl⟩:=L.mem_iff.1 c;exact e i hi
theorem YK (d:DyD):Pd Zj (ZD d):=(Tm (Ek d) _ (jk _)).1
theorem Oc (d:DyD):(ZD d).Perm (Ek d):=by
 have a:=Jq (Ek d) (Ek d).length (jk _);have b:=(Aq (Ek d) (Ek d).length (jk _)).2;have:(ga (Ek d) (Ek d).length).2=[]:=List.length_eq_zero_iff.1 (by omega);rw[this,j7] at a;exact a
theorem Od {l:List ShD} (i:l.Pairwise (fun a b=>gn b a=true)):∀n,n<=l.length->∀s∈l.take n,(wD (Ty.dflt tSh) (wo tSt (d7 s) (qz l n))=s↔∀t∈l.take n,d7 t=d7 s->gn t s=false)
 |0,_,s,c=>by simp at c
 |n+1,k,s,c=>by
  have j:=Od i n (by omega)
  have g:(l.take (n+1)).Pairwise (fun a b=>gn b a=true):=i.sublist (List.take_sublist _ _)
  rw[L.wG (by omega)] at g c
  have f:∀t∈l.take n,gn (nth l n) t=true:=fun t d=>(List.pairwise_append.1 g).2.2 t d _ (by simp)
  rw[Cu (by omega),L.wG (by omega)]
  by_cases hk:d7 s=d7 (nth l n)
  rw[hk,M.pf]
  show nth l n=s↔_
  rcases js.1 c with c|c
  refine⟨fun e=> ?_,fun h=> ?_⟩
  have:=f s c
  rw[e,cB] at this;cases this
  have:=h (nth l n) (by simp) rfl
  rw[f s c] at this;cases this
  simp at c;subst c
  refine⟨fun _ t d _=> ?_,fun _=>rfl⟩
  rcases js.1 d with d|d
  exact Fh (f t d)
  simp at d;subst d;exact cB _
  rw[M.cW hk]
  have c:s∈l.take n:=by
   rcases js.1 c with c|c;exact c;simp at c;subst c;exact absurd rfl hk
  rw[j s c];refine⟨fun h t d e=> ?_,fun h t d=>h t (jg _ d)⟩;rcases js.1 d with d|d;exact h t d e;simp at d;subst d;exact absurd e.symm hk
theorem Tn {d:DyD} (h:wR d=0):(qM d).Pairwise (fun a b=>gn b a=true):=by
 have f:=jbR h;have g:Pd (k8 tSh fun x=>(wn x.1 x.2.1,())) (qM d):=bu f;have e:∀s∈qM d,s∈w4 (qV d):=fun s i=>(wQ _).mem_iff.1 i
 refine List.Pairwise.imp_of_mem ?_ (List.Pairwise.and g (dU d));intro a b j k ⟨h1,h2⟩;cases c:k8 tSh (fun x=>(wn x.1 x.2.1,())) a b with
 |false=>exact absurd (f.total a b (e a j) (e b k) c h1) h2
 |true=>
  have c:wn a b<0:=jb c;exact(VY a b).1 c
theorem Jt {d:DyD} (h:wR d=0) {s:ShD} (a:s∈qM d):vM (qz (qM d) (qM d).length) s=true↔WD s=1/\∀t∈qM d,d7 t=d7 s->gn t s=false:=by
 have:=Od (Tn h) (qM d).length (jk _) s (by rw[zD];exact a);rw[zD] at this;rw[<-this];unfold vM;rw[jO,jN,zl,zl,decide_eq_true_iff,decide_eq_true_iff];exact and_comm
theorem To {d:DyD} (h:qc d=true) {s:ShD} (a:s∈qV d):0<=gu s/\gu s<=99:=by
 have:=(yz h).2.2.2.2.2.2.2 _ a;unfold lX at this;have:=jb this;omega
def UF (d:DyD):ShD->Bool:=vM (qz (qM d) (qM d).length)
theorem Z9 {d:DyD} (h:wR d=0):(qM d).filter (UF d)=ZD d:=by
 have j:=yO h;have f:∀s,s∈Ei (qV d)↔s∈qM d:=fun s=>⟨fun c=>fI.2 (VU c),fun c=>by
  have c:=fI.1 c;have:=To j.1.2.2 c;exact YJ c this.1 this.2⟩
 have g:∀s,s∈(qM d).filter (UF d)↔s∈ZD d:=by
  intro s;rw[(Oc d).mem_iff,Tl,jP,jP,f s];refine and_congr_right fun c=> ?_
  rw[Mp];have:=Jt h c;refine this.trans (and_congr_right fun _=>⟨fun h t i=>h t ((f t).1 i),fun h t i=>h t ((f t).2 i)⟩)
 have n:((qM d).filter (UF d)).Nodup:=List.Pairwise.filter _ (dU d);have o:(ZD d).Nodup:=(Oc d).nodup_iff.2 (by rw[Tl];exact List.Pairwise.filter _ (PY _));have m:=L.nG n o g;refine ot (YI ?_) m ?_ (YK d);intro a k b l e;exact j.2 a (fI.1 (jP.1 k).1) b (fI.1 (jP.1 l).1) e;exact(List.Pairwise.filter _ (Tn h)).imp fun x=>Fh x
structure DT (d:DyD) (x:List (List Int)×List Int) (y:List Int×List Int):Prop where
 ref:x.2=y.2
 len:y.1.length=(wg d).length
 set:∀b,b<(wg d).length->BT.vA (nth y.1 b)
 bit:∀b,b<(wg d).length->∀p,BT.has (nth y.1 b) p=true↔p<(we (wi d)).length/\(b:Int)∈nth x.1 p
theorem Ar {t:Int} (h:BT.vA t) (p:Int):gF t p=BT.has t p.toNat:=BT.has_shr h p.toNat
theorem jaa {d:DyD} {x:List (List Int)×List Int} {y:List Int×List Int} (h:DT d x y) {p:Int} (j:QT d p) (g:∀b∈nth x.1 p.toNat,aO d b) (n:Int):n∈U.on y.1 p↔n∈nth x.1 p.toNat:=by
 unfold QT at j;unfold U.on jbz;rw[jT];refine⟨fun⟨i,hi,e⟩=> ?_,fun f=> ?_⟩;subst e;have hi:=jP.1 hi;have a:=jC.1 hi.1;rw[h.len] at a;have c:gF (nth y.1 i) p=true:=hi.2;rw[Ar (h.set i a)] at c;exact((h.bit i a p.toNat).1 c).2;have hk:=g n f;unfold aO at hk;have en:((n.toNat:Nat):Int)=n:=(by omega);refine⟨n.toNat,jP.2 ⟨jC.2 (by rw[h.len];omega),?_⟩,en⟩;show gF (nth y.1 n.toNat) p=true;rw[Ar (h.set _ (by omega))];exact(h.bit _ (by omega) _).2 ⟨by omega,by rw[en];exact f⟩
theorem VZ (t:List Int) (p:Int):(U.on t p).Nodup:=by
 unfold U.on jbz;refine zP.2 ((List.Pairwise.filter _ kE).imp ?_);intro a b c e;omega
theorem YL {d:DyD} {x:List (List Int)×List Int} {y:List Int×List Int} (h:DT d x y) {p:Int} (e:QT d p) (c:(nth x.1 p.toNat).Nodup) (a:∀b∈nth x.1 p.toNat,aO d b):(nth x.1 p.toNat).Perm (U.on y.1 p):=
 L.nG c (VZ _ _) (fun n=>(jaa h e a n).symm)
theorem jab {d:DyD} (i:QH d) {x:List (List Int)×List Int} {y:List Int×List Int} (h:DT d x y) {p b:Int} (g:QT d p) (e:(nth x.1 p.toNat++[b]).Nodup) (f:∀c∈nth x.1 p.toNat++[b],aO d c):
 M5 d (vN d (wg d).length) p (nth x.1 p.toNat++[b])=sk d p (U.on y.1 p++[b]):=by
 rw[YH e (fun c a=>YG i (f c a) g)];exact Fg d p ((YL h g (zB.1 e).1 (fun c a=>f c (jg _ a))).append_right [b]) e
theorem jac {d:DyD} {x:List (List Int)×List Int} {y:List Int×List Int} (h:DT d x y) (v:x.1.length=(we (wi d)).length) (u:(we (wi d)).length<=8) {p b:Int} (t:QT d p) (s:aO d b) (i:b∉nth x.1 p.toNat):
 DT d (x.1.set p.toNat (nth x.1 p.toNat++[b]),x.2) (y.1.set b.toNat (nth y.1 b.toNat+2^p.toNat),y.2):=by
 unfold QT at t;unfold aO at s;have r:((b.toNat:Nat):Int)=b:=(by omega);have g:b.toNat<y.1.length:=(by rw[h.len];omega);have n:p.toNat<x.1.length:=(by omega);have o:=h.set b.toNat (by omega);have m:BT.has (nth y.1 b.toNat) p.toNat=false:=by
  cases j:BT.has (nth y.1 b.toNat) p.toNat with
  |false=>rfl
  |true=>exact absurd (by have:=((h.bit _ (by omega) _).1 j).2;rw[r] at this;exact this) i
 have a:=BT.add_two o (p:=p.toNat) (by omega) m;have j:=BT.mD (k:=p.toNat) (by omega);refine⟨h.ref,by show(y.1.set _ _).length=_;rw[kc];exact h.len,fun c l=> ?_,fun c l q=> ?_⟩;show BT.vA (nth (y.1.set b.toNat (nth y.1 b.toNat+2^p.toNat)) c);rw[L.gL g]
 split
 rw[a];exact BT.bor_set o j;exact h.set c l;show BT.has (nth (y.1.set b.toNat (nth y.1 b.toNat+2^p.toNat)) c) q=true↔_/\(c:Int)∈nth (x.1.set p.toNat (nth x.1 p.toNat++[b])) q;rw[L.gL g,L.gL n];by_cases f:b.toNat=c;rw[jh f,a,BT.has_bor o j,BT.Aw,zo,decide_eq_true_iff,h.bit _ (by omega),<-f,r];by_cases e:p.toNat=q;rw[jh e];refine⟨fun _=>⟨by omega,by simp⟩,fun _=> .inr e⟩;rw[jc e];exact⟨fun h=>h.elim id (fun h=>absurd h e),.inl⟩;rw[jc f,h.bit c l];by_cases e:p.toNat=q;rw[jh e,js,<-e];refine and_congr_right fun _=>⟨.inl,fun h=>h.elim id (fun h=> ?_)⟩
 simp at h;omega;rw[jc e]
theorem V0 (d:DyD):DT d (vR (Kt d) (qM d) 0) (List.replicate (wg d).length 0,[]):=by
 have c:∀b,b<(wg d).length->nth (List.replicate (wg d).length (0:Int)) b=0:=fun b a=>L.Ax a
 refine⟨rfl,zw,fun b a=> ?_,fun b a p=> ?_⟩;show BT.vA (nth (List.replicate (wg d).length (0:Int)) b);rw[c b a];exact BT.Dg;show BT.has (nth (List.replicate (wg d).length (0:Int)) b) p=true↔_/\(b:Int)∈nth (ZC d) p;rw[c b a,BT.sy];have f:Zl (ZC d):=fun x g=>(List.mem_replicate.1 g).2
 have e:nth (ZC d) p=[]:=N7 f p;rw[e];simp
def Tp (d:DyD) (i:Nat):List Int×List Int:=(((qM d).take i).filter (UF d)).foldl (Fq d) (List.replicate (wg d).length 0,[])
attribute [local irreducible] vR sk M5 U.on Tp qM UF Kt vN in
theorem V1 {d:DyD} (h:wR d=0) {i:Nat} (hi:i<(qM d).length) (ih:DT d (vR (Kt d) (qM d) i) (Tp d i)) (_:cG (Kt d) (qM d) i (vR (Kt d) (qM d) i)) (hrd:U.rd (Kt d)=d) (hml:l4 (Kt d)=vN d (wg d).length)
 (hx:(vR (Kt d) (qM d) i).1.length=(we (wi d)).length) (hdec:UF d=vM (qz (qM d) (qM d).length)) (hft:Tp d (i+1)=if UF d (nth (qM d) i)=true then Fq d (Tp d i) (nth (qM d) i) else Tp d i)
 (hnew:UF d (nth (qM d) i)=true->(nth (vR (Kt d) (qM d) i).1 (nD (nth (qM d) i)).toNat++[J5 (nth (qM d) i)]).Nodup/\∀b∈nth (vR (Kt d) (qM d) i).1 (nD (nth (qM d) i)).toNat++[J5 (nth (qM d) i)],aO d b):
 DT d (vR (Kt d) (qM d) (i+1)) (Tp d (i+1)):=by
 have hD:=(yO h).1
 have h8:(we (wi d)).length<=8:=(qx hD.1).2.2.1
 have hsf:=An hD.2.2 (fI.1 (L.wd (l:=qM d) (i:=i) hi))
 rw[hft]
 cases hc:UF d (nth (qM d) i) with
 |false=>
  rw[hdec] at hc
  rw[N8 hi hc,jc (by simp)]
  exact ih
 |true=>
  have hn:=hnew hc
  have hcan:=jab hD ih (p:=nD (nth (qM d) i)) (b:=J5 (nth (qM d) i)) hsf.1 hn.1 hn.2
  rw[hdec] at hc
  rw[jh rfl]
  unfold Fq
  cases hk:sk d (nD (nth (qM d) i)) (U.on (Tp d i).1 (nD (nth (qM d) i))++[J5 (nth (qM d) i)]) with
  |true=>
   rw[hk] at hcan
   rw[S5 hi hc (by rw[hrd,hml];exact hcan),jh rfl]
   refine jac ih hx h8 hsf.1 hsf.2 (fun hin=> ?_)
   exact(zB.1 hn.1).2.2 _ hin _ (by simp) rfl
  |false=>
   rw[hk] at hcan
   rw[Xb hi hc (by rw[hrd,hml];exact hcan),jc (by simp)]
   exact⟨jS (·++[gu (nth (qM d) i)]) ih.ref,ih.len,ih.set,ih.bit⟩
theorem Tq {d:DyD} (h:wR d=0):∀i,i<=(qM d).length->DT d (vR (Kt d) (qM d) i) (Tp d i)
 |0,_=>V0 d
 |i+1,hi=>by
  have k:=Tq h i (by omega)
  obtain⟨⟨_,m⟩,⟨j,b⟩,c⟩:=S9 h
  have f:=(yO h).1
  have a:=L6 (r:=Kt d) (l:=qM d) f.2.2 (fun s e=>fI.1 e) (dU d) j b c i (by omega)
  refine V1 h hi k a rfl rfl a.1 rfl ?_ fun g=> ?_
  unfold Tp
  rw[L.filter_take (p:=UF d) (l:=qM d) (i:=i) hi,jV]
  split<;>rfl
  have:=S2 (r:=Kt d) (l:=qM d) f.2.2 (fun s e=>fI.1 e) (dU d) hi a g
  exact⟨this.1,this.2.1⟩
theorem V2 {d:DyD} (h:wR d=0):Tp d (qM d).length=Uu d:=by
 unfold Tp Uu jaF;rw[zD,zD,Z9 h]
theorem GM {d:DyD} (h:wR d=0):DT d (aJ (QU d),(vR (Kt d) (qM d) (qM d).length).2) (Uu d):=by
 have:=Tq h _ (jk _);rw[V2 h] at this;exact⟨this.ref,this.len,this.set,this.bit⟩
theorem Oe (on:List (List Int)) (b:Int):∀n,n<=60->BT.vA (ai on b n)/\∀q,BT.has (ai on b n) q=true↔q<n/\b∈nth on q
 |0,_=>⟨BT.Dg,fun q=>by
  have:ai on b 0=0:=rfl
  rw[this,BT.sy];simp⟩
 |n+1,m=>by
  obtain⟨f,i⟩:=Oe on b n (by omega)
  have g:=BT.mD (k:=n) (by omega)
  have a:(nth on n).any (fun x=>decide (x=b))=true↔b∈nth on n:=by
   rw[j9];exact⟨fun⟨x,l,e⟩=>(jb e)▸l,fun j=>⟨b,j,jI rfl⟩⟩
  rw[Cq]
  split
  rename_i c;have c:=a.1 c;rw[Cr];refine⟨BT.bor_set f g,fun q=> ?_⟩;rw[BT.has_bor f g,BT.Aw,zo,decide_eq_true_iff,i];refine⟨fun h=>h.elim (fun h=>⟨by omega,h.2⟩) (fun h=>by subst h;exact⟨by omega,c⟩),fun h=> ?_⟩;by_cases d:q=n;exact .inr d.symm;exact .inl ⟨by omega,h.2⟩;rename_i c;refine⟨f,fun q=> ?_⟩;rw[i];refine⟨fun h=>⟨by omega,h.2⟩,fun h=>⟨?_,h.2⟩⟩;by_cases d:q=n;subst d;exact absurd (a.2 h.2) c;omega
theorem Tr {d:DyD} (h:wR d=0) {b:Nat} (a:b<(wg d).length):cU (aJ (QU d)) (b:Int)=nth (Uu d).1 b:=by
 have f:=GM h;have c:=Ta h;have g:=Oe (aJ (QU d)) (b:Int) (aJ (QU d)).length c.len60;refine BT.ext g.1 (f.set b a) fun p=>jZ.2 ?_
 have e:=(g.2 p).trans (f.bit b a p|>.trans (by rw[<-c.len])).symm;exact e
theorem jad {d:DyD} (h:wR d=0):gJ d (wg d).length=(Uu d).1:=by
 have b:=GM h;have a:(gJ d (wg d).length).length=(wg d).length:=(by unfold gJ;simp);refine L.ext_nth (by rw[a];exact b.len.symm) fun i hi=> ?_
 rw[a] at hi;unfold gJ;rw[L.nth_map (by simpa using hi)];have:nth (List.range (wg d).length) i=i:=(by rw[L.ql (by simpa using hi)];simp);rw[this];exact Tr h hi
theorem YM (d:DyD):d8 d=if ez d=0 then(Uu d).1 else[]:=by
 unfold d8;rw[lL]
 split
 rename_i h;exact jad ((lL d).trans h);rfl
end Go.X
namespace Go.X
open U
open Go.Proofs
attribute [local irreducible] ga nE jaE Ei Ek ZD Ut
end Go.X
namespace Go.X
open U
open Go.Proofs
namespace U
def jbZ (d:DyD) (t:List Int) (b:Nat):Bool:=Oy (wi d) (y9 (nth (wg d) b)) (nth t b)
def Xr (d:DyD) (t:List Int) (n:Nat):List Int:=((List.range n).filter (jbZ d t)).map (fun(b:Nat)=>(b:Int))
def jb0 (d:DyD):List Int:=if ez d=0 then Xr d (QV d) (QV d).length else[]
end U
theorem YN {d:DyD} (h:ez d=0):(Uu d).1.length=(wg d).length:=(GM ((lL d).trans h)).len
theorem Xi {d:DyD} (h:ez d=0):QV d=(Uu d).1:=jh h
theorem Mq {d:DyD} (h:ez d=0):(QV d).length=(wg d).length:=by rw[Xi h];exact YN h
section
attribute [local irreducible] Uu ez
end
section
attribute [local irreducible] Xr QV ez Oy
end
section
attribute [local irreducible] sk U.on gF QH
end
section
attribute [local irreducible] QV ez gF
end
end Go.X
namespace Go.X
open U
open Go.Proofs
section
attribute [local irreducible] QV ez Oy
end
end Go.X
namespace Go.X
open U
open Go.Proofs
theorem CB (n m:Nat):n|||m=0↔n=0/\m=0:=by
 constructor;intro h;constructor;refine z8 fun i=> ?_
 have:=jS (fun z=>Nat.testBit z i) h;simp only[kU,Nat.zero_testBit,jN] at this;rw[this.1,Nat.zero_testBit];refine z8 fun i=> ?_
 have:=jS (fun z=>Nat.testBit z i) h;simp only[kU,Nat.zero_testBit,jN] at this;rw[this.2,Nat.zero_testBit];rintro⟨rfl,rfl⟩;rfl
theorem Of {a b:Int} (c:0<=a/\a<64) (d:0<=b/\b<64):uor a b=0↔a=0/\b=0:=by
 obtain⟨n,rfl⟩:∃n:Nat,a=(n:Int):=⟨a.toNat,by omega⟩;obtain⟨m,rfl⟩:∃m:Nat,b=(m:Int):=⟨b.toNat,by omega⟩;rw[BT.uor_nat (by omega) (by omega)];have:=CB n m;omega
theorem V3 {a b:Int} (c:0<=a/\a<64) (d:0<=b/\b<64):bor a b=0↔a=0/\b=0:=by
 obtain⟨n,rfl⟩:∃n:Nat,a=(n:Int):=⟨a.toNat,by omega⟩;obtain⟨m,rfl⟩:∃m:Nat,b=(m:Int):=⟨b.toNat,by omega⟩;rw[BT.bor_nat (by omega) (by omega)];have:=CB n m;omega
theorem V4 {a b:Int} (c:0<=a/\a<64) (d:0<=b/\b<64):0<=bor a b/\bor a b<64:=by
 obtain⟨n,rfl⟩:∃n:Nat,a=(n:Int):=⟨a.toNat,by omega⟩;obtain⟨m,rfl⟩:∃m:Nat,b=(m:Int):=⟨b.toNat,by omega⟩;rw[BT.bor_nat (by omega) (by omega)];have:n|||m<2^6:=ko (by omega) (by omega);omega
theorem CC {b:Bool} {o k:Int} (h:0<=o/\o<64) (hk:0<k/\k<64):Ej b o k=0↔b=false/\o=0:=by
 unfold Ej;cases b with
 |false=>rw[jc (by simp)];simp
 |true=>
  rw[jh rfl,Of h ⟨by omega,by omega⟩];refine⟨fun h=>absurd h.2 (by omega),fun h=>absurd h.1 (by simp)⟩
theorem mz {b:Bool} {o k:Int} (h:0<=o/\o<64) (hk:0<k/\k<64):Xq b o k=0↔b=false/\o=0:=by
 unfold Xq;cases b with
 |false=>rw[jc (by simp)];simp
 |true=>
  rw[jh rfl,V3 h ⟨by omega,by omega⟩];refine⟨fun h=>absurd h.2 (by omega),fun h=>absurd h.1 (by simp)⟩
theorem Ju {b:Bool} {o k:Int} (h:0<=o/\o<64) (hk:0<k/\k<64):0<=Xq b o k/\Xq b o k<64:=by
 unfold Xq
 split
 exact V4 h ⟨by omega,hk.2⟩;exact h
theorem Jv (t:TkD):∀(q:List (Int×PeD×Unit)) (o:Int),(0<=o/\o<64)->(cf t o q=0↔o=0/\∀x∈q,vL t x.2.1=0)
 |[],o,_=>by
  show o=0↔_
  simp
 |x::q,o,h=>by
  have b:=BZ t x.2.1
  have a:=Jv t q (uor o (vL t x.2.1)) (SG h ⟨by omega,by omega⟩)
  show cf t (uor o (vL t x.2.1)) q=0↔_
  rw[a,Of h ⟨by omega,by omega⟩]
  simp only[jj,forall_eq_or_imp,and_assoc]
theorem V5 {t:Int} (h:BT.vA t) (p:Int):so t p=BT.has t p.toNat:=BT.has_ushr h p.toNat
theorem Xj {t:Int} (h:BT.vA t) (p:Int):so t p=gF t p:=(V5 h p).trans (Ar h p).symm
theorem mA {t:TkD} {s:Int} (b:BT.vA s) {x:Int×PeD×Unit}:x∈uF t s↔∃i:Nat,i<(we (U.tc t)).length/\gF s (i:Int)=true/\x=((i:Int),nth (we (U.tc t)) i,()):=by
 unfold uF yA;rw[jT];refine⟨fun⟨i,hi,e⟩=> ?_,fun⟨i,c,a,e⟩=>⟨i,jP.2 ⟨jC.2 c,?_⟩,e.symm⟩⟩;have hi:=jP.1 hi;have a:so s (i:Int)=true:=hi.2;exact⟨i,jC.1 hi.1,(Xj b _)▸a,e.symm⟩;show so s (i:Int)=true;rw[Xj b];exact a
theorem tJ (c:CrD) (j:JbD) (t:Int):∀n,(0<=(xY c j t n).1/\(xY c j t n).1<64)/\((xY c j t n).1=0↔∀i:Nat,i<n->gF t (i:Int)=true->gG c j (i:Int)=true)/\
 ((xY c j t n).2=true↔∃i:Nat,i<n/\gF t (i:Int)=true/\jaz (nth (we c) i)=true)
 |0=>⟨by show(0:Int)<=0/\(0:Int)<64;omega,⟨fun _ i h=>absurd h (by omega),fun _=>rfl⟩,⟨fun h=>(by cases h),fun⟨i,h,_⟩=>absurd h (by omega)⟩⟩
 |n+1=>by
  obtain⟨l,o,p⟩:=tJ c j t n
  cases g:gF t (n:Int) with
  |false=>
   rw[Tc g]
   refine⟨l,o.trans ⟨fun h i hi a=> ?_,fun h i hi=>h i (by omega)⟩,p.trans ⟨fun⟨i,hi,a⟩=>⟨i,by omega,a⟩,fun⟨i,hi,d,f⟩=>⟨i,?_,d,f⟩⟩⟩
   by_cases e:i=n
   subst e;rw[g] at a;cases a
   exact h i (by omega) a
   by_cases e:i=n
   subst e;rw[g] at d;cases d
   omega
  |true=>
   have e:xY c j t (n+1)=(Xq (!gF (U.cl (nth (we c) n)) (fO j)) (Xq (!gF (U.fd (nth (we c) n)) (WC j)) (Xq (J7 (nth (we c) n) (WB j)) (xY c j t n).1 1) 2) 4,(xY c j t n).2||jaz (nth (we c) n)):=by
    rw[Jk];unfold Us;rw[jh g]
   rw[e];have o1:=Ju (b:=J7 (nth (we c) n) (WB j)) (k:=1) l (by omega);have o2:=Ju (b:= !gF (U.fd (nth (we c) n)) (WC j)) (k:=2) o1 (by omega);have s:=Ju (b:= !gF (U.cl (nth (we c) n)) (fO j)) (k:=4) o2 (by omega);refine⟨s,?_,?_⟩;show Xq _ _ 4=0↔_;rw[mz o2 (by omega),mz o1 (by omega),mz l (by omega),o];have m:gG c j (n:Int)=(!(J7 (nth (we c) n) (WB j))&&gF (U.fd (nth (we c) n)) (WC j)&&gF (U.cl (nth (we c) n)) (fO j)):=by
    unfold gG;rw[ju]
   refine⟨fun⟨d,f,q,r⟩ i hi a=> ?_,fun h=> ?_⟩;by_cases e:i=n;subst e;rw[m];simp only[zl] at d f;rw[d,f,q];rfl;exact r i (by omega) a;have:=h n (by omega) g;rw[m,ji,ji,jO] at this;exact⟨by rw[this.2];rfl,by rw[this.1.2];rfl,this.1.1,fun i hi=>h i (by omega)⟩;show((xY c j t n).2||jaz (nth (we c) n))=true↔_;rw[zo,p];refine⟨fun h=>h.elim (fun⟨i,hi,a⟩=>⟨i,by omega,a⟩) (fun h=>⟨n,by omega,g,h⟩),fun⟨i,hi,d,f⟩=> ?_⟩;by_cases e:i=n;subst e;exact .inr f;exact .inl ⟨i,by omega,d,f⟩
theorem V6 {c:CrD} {j:JbD} {t:Int} (d:BT.vA t) (a b:Nat):Ks (c,j,d4 c j,()) t a b=U.J3 c t (UH (d4 c j)) a b:=by
 unfold Ks U.J3 lZ jaB;refine jZ.2 ?_;rw[j9,j9];refine⟨fun⟨x,g,h⟩=> ?_,fun⟨i,hi,h⟩=> ?_⟩;obtain⟨i,e,f,rfl⟩:=(mA d).1 g;refine⟨i,jC.2 e,?_⟩;have h:UH (d4 c j)<=min (nth (U.lv (nth (we c) i)) ((a:Int)).toNat) (nth (U.lv (nth (we c) i)) ((b:Int)).toNat):=jb h;rw[f,jI (by omega:UH (d4 c j)<=nth (U.lv (nth (we c) i)) ((a:Int)).toNat),jI (by omega:UH (d4 c j)<=nth (U.lv (nth (we c) i)) ((b:Int)).toNat)];rfl;rw[ji,ji,decide_eq_true_iff,decide_eq_true_iff] at h;refine⟨((i:Int),nth (we c) i,()),(mA d).2 ⟨i,jC.1 hi,h.1.1,rfl⟩,?_⟩;exact jI (show UH (d4 c j)<=min (nth (U.lv (nth (we c) i)) ((a:Int)).toNat) (nth (U.lv (nth (we c) i)) ((b:Int)).toNat) by have:=h.1.2;have:=h.2;omega)
theorem YO (c:CrD) (t lev:Int) (a b:Nat):U.J3 c t lev a b=U.J3 c t lev b a:=by
 unfold U.J3 jaB;refine jZ.2 ?_;rw[j9,j9];constructor<;>
 .rintro⟨i,hi,h⟩;refine⟨i,hi,?_⟩;rw[ji,ji] at h⊢;exact⟨⟨h.1.1,h.2⟩,h.1.2⟩
theorem jae {c:CrD} {j:JbD} {t:Int} (_:wz c=true) (d:qr c j=true) (f:BT.vA t):nth (fQ (c,j,d4 c j,()) t) (QR j).toNat<0↔nth (jci c t (UH (d4 c j)) (QR j)) (Kr j).toNat<0:=by
 have h:=lx d;have e:Ks (c,j,d4 c j,()) t=U.J3 c t (UH (d4 c j)):=(by funext a b;exact V6 f a b);show nth (jaC (Ks (c,j,d4 c j,()) t) (U.la c).toNat (Kr j).toNat) (QR j).toNat<0↔nth (xW (U.J3 c t (UH (d4 c j))) (U.la c).toNat (QR j).toNat (U.la c).toNat) (Kr j).toNat<0;rw[e];exact(Yp (YO c t _) (by omega) (by omega)).symm
theorem Tt {c:CrD} {j:JbD} {t:Int} (a:BT.vA t):(∀x∈uF (c,j,d4 c j,()) t,vL (c,j,d4 c j,()) x.2.1=0)↔∀i:Nat,i<(we c).length->gF t (i:Int)=true->gG c j (i:Int)=true:=by
 refine⟨fun h i hi e=>(mw c j i).1 (h ((i:Int),nth (we c) i,()) ((mA a).2 ⟨i,hi,e,rfl⟩)),fun h x f=> ?_⟩;obtain⟨i,b,d,rfl⟩:=(mA a).1 f;exact(mw c j i).2 (h i b d)
theorem V7 {c:CrD} {j:JbD} {t:Int} (d:BT.vA t):d6 (uF (c,j,d4 c j,()) t)=jbY c j t:=by
 refine jZ.2 ?_;unfold jbY;rw[(tJ c j t (we c).length).2.2];unfold d6;rw[j9];refine⟨fun⟨x,f,h⟩=> ?_,fun⟨i,a,b,e⟩=>⟨((i:Int),nth (we c) i,()),(mA d).2 ⟨i,a,b,rfl⟩,e⟩⟩;obtain⟨i,a,b,rfl⟩:=(mA d).1 f;exact⟨i,a,b,h⟩
theorem Mr {c:CrD} {j:JbD} {t:Int} (n:wz c=true) (o:qr c j=true) (a:BT.vA t):vf (c,j,d4 c j,()) t=0↔jcj c j t=0:=by
 have f:=tJ c j t (we c).length;have g:=LH (c,j,d4 c j,()) (uF (c,j,d4 c j,()) t) 0 (by omega);have i:=B4 (b:=decide (BT.size t≠max (Zy j) (Zx (d4 c j)))) (k:=8) g (by omega);have q:=B4 (b:=(jby (d4 c j)&& !d6 (uF (c,j,d4 c j,()) t))) (k:=16) i (by omega);have d:0<=jbX c j t/\jbX c j t<64:=f.1;have e:=Ju (b:=decide (BT.size t≠max (Zy j) (Zx (d4 c j)))) (k:=8) d (by omega);have l:=Ju (b:=(jby (d4 c j)&& !jbY c j t)) (k:=16) e (by omega);have m:vf (c,j,d4 c j,()) t=Ej (decide (nth (fQ (c,j,d4 c j,()) t) (QR j).toNat<0)) (Ej (jby (d4 c j)&& !d6 (uF (c,j,d4 c j,()) t)) (Ej (decide (BT.size t≠max (Zy j) (Zx (d4 c j)))) (cf (c,j,d4 c j,()) 0 (uF (c,j,d4 c j,()) t)) 8) 16) 32:=rfl;have p:jbX c j t=0↔cf (c,j,d4 c j,()) 0 (uF (c,j,d4 c j,()) t)=0:=by
  rw[Jv _ _ _ (by omega),Tt a];exact f.2.1.trans ⟨fun h=>⟨rfl,h⟩,fun h=>h.2⟩
 rw[m,CC q (by omega),CC i (by omega),CC g (by omega)];unfold jcj;rw[mz l (by omega),mz e (by omega),mz d (by omega),p,V7 a,jE,jE,jae n o a,jE]
theorem YP {d:DyD} (a:QH d) {b:Int} (k:aO d b) {t:Int} (e:0<=t) (n:t<2^(we (wi d)).length):Dc d b t=Oy (wi d) (y9 (U.bk d b)) t:=by
 unfold aO at k;have h:qr (wi d) (y9 (U.bk d b))=true:=Xh a (b:=b.toNat) (by omega);have o:=(Gx a.1).2;have m:BT.vA t:=(by unfold BT.vA;omega);have i:qW (wi d) (y9 (U.bk d b))=0:=(by unfold qW;rw[a.1,h];rfl);have j:Ho (wi d) t=true:=by
  unfold Ho kV;rw[jI e,jI (by omega)];rfl
 have l:aI (wi d) (y9 (U.bk d b)) t=0:=by
  unfold aI;rw[jc (by rw[i];simp),j,jh rfl]
 have c:=Mr a.1 h m;unfold Dc Oy ZB;rw[l,jh rfl];refine jZ.2 ?_;simp only[ji,decide_eq_true_iff,true_and];rw[c];constructor;rintro⟨f,g⟩;exact⟨by omega,f⟩;rintro⟨f,g⟩;exact⟨g,by omega⟩
theorem Xk {d:DyD} (h:ez d=0) {b:Nat} (a:b<(wg d).length):0<=nth (Uu d).1 b/\nth (Uu d).1 b<2^(we (wi d)).length:=by
 have c:=GM ((lL d).trans h);have e:=c.set b a;exact⟨e.1,BT.lt_of_has e (fun p f=>((c.bit b a p).1 f).1)⟩
theorem YQ (d:DyD):kW d=jb0 d:=by
 unfold kW jb0;rw[lL];by_cases h:ez d=0;rw[jh h,jh h,Mq h];unfold gp Xr;congr 1;refine List.filter_congr fun b a=> ?_
 have a:=jC.1 a;have hk:=(lL d).trans h;have c:=Xk h a;show Dc d (b:Int) (cU (aJ (QU d)) (b:Int))=Oy (wi d) (y9 (nth (wg d) b)) (nth (QV d) b);rw[Tr hk a,Xi h,YP (Xg h) (by unfold aO;omega) c.1 c.2];rfl;rw[jc h,jc h]
end Go.X
