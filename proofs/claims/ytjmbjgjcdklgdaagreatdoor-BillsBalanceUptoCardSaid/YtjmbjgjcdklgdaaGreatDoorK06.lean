/-
  Part 6 of the road: a checked reading of bodies, and what the functions on it do (C1 PC1 PC2 PC3 PC4 C2 PC5 PC6 PC7 PC8 C3 PC9 SL PC10 S1 S2 S3 PC11 C4 PC12 PC13 PC14 S4 S5).
-/
import Derived.Test.YtjmbjgjcdklgdaaGreatDoorK05
namespace Go.X
open U
open Go.Proofs
namespace U
def J3 (c:CrD) (t d:Int) (a b:Nat):Bool:=jcp c t d (a:Int) (b:Int)
def jdY (c:CrD) (t b a:Int):List Int:=AN (J3 c t b) (la c).toNat a.toNat (la c).toNat
def Y5 (c:Bool) (s b:Int):Int:=if c=true then bor s b else s
def V7 (c:CrD) (j:JbD) (t:Int) (x:Int×Bool) (i:Nat):Int×Bool:=
 if qb t (i:Int)=true then(Y5 (!qb (cl (nth (kE c) i)) (i9 j)) (Y5 (!qb (fd (nth (kE c) i)) (Yh j)) (Y5 (Lh (nth (kE c) i) (Yg j)) x.1 1) 2) 4,x.2||jcn (nth (kE c) i)) else x
def AP (c:CrD) (j:JbD) (t:Int) (n:Nat):Int×Bool:=(List.range n).foldl (V7 c j t) (0,false)
def jdD (c:CrD) (j:JbD) (t:Int):Int:=(AP c j t (kE c).length).1
def jdE (c:CrD) (j:JbD) (t:Int):Bool:=(AP c j t (kE c).length).2
def jdZ (c:CrD) (j:JbD) (t:Int):Int:=
 Y5 (decide (nth (jdY c t (Wi (eN c j)) (Sl j)) (LC j).toNat<0)) (Y5 (jdi (eN c j)&& !jdE c j t) (Y5 (decide (BT.size t≠max (jbf j) (jbe (eN c j)))) (jdD c j t) 8) 16) 32
def tu (c:CrD) (j:JbD) (t:Int):Bool:=decide (0<t)&&decide (jdZ c j t=0)
def jcM (t:Int):Prop:=0<=t/\t<256
end U
def Km:wi:=⟨[.val .int,.val .int,.val .int],[.bool],false,fun _=>[],fun d=>(kl d.1 d.2.1 d.2.2.1,())⟩
def Kn:Prop:=∀(d:Int×Int×Int×Unit),(decide (d.2.1<=d.1)&&decide (d.1<=d.2.2.1),())=(kl d.1 d.2.1 d.2.2.1,())
def UI:wi:=⟨[.val .int,.val .int],[.bool],false,fun d=>[0<=d.2.1/\d.2.1<=63],fun d=>(qb d.1 d.2.1,())⟩
def UJ:Prop:=∀(d:Int×Int×Unit),0<=d.2.1/\d.2.1<=63->0<=d.2.1/\d.2.1<=18446744073709551615/\0<=d.2.1/\d.2.1<=64/\(decide (nQ (d.1/(2:Int)^d.2.1.toNat) (1:Int)=1),())=(qb d.1 d.2.1,())
def Ko:wi:=⟨[.val tCr],[.bool],false,fun _=>[],fun d=>(kV d.1,())⟩
def Kp:Ann:=fun r=>match r with
 |4=>some fun σ=>{X:=Nat,sl:=fun i=>[(3,.dat .int (i:Int))],ob:=fun _=>[],inv:=fun i=>i<=(kE (gb tCr σ 1)).length/\∀j:Nat,j<i->ij (U.la (gb tCr σ 1)) (nth (kE (gb tCr σ 1)) j)=true,mu:=fun i=>(kE (gb tCr σ 1)).length-i}
 |10=>some fun σ=>{X:=Nat,sl:=fun i=>[(5,.dat .int (i:Int))],ob:=fun _=>[],inv:=fun i=>i<=(U.lv (gb tPe σ 4)).length/\∀j:Nat,j<i->kl (nth (U.lv (gb tPe σ 4)) j) 0 5=true,mu:=fun i=>(U.lv (gb tPe σ 4)).length-i}
 |15=>some fun σ=>{X:=Nat,sl:=fun i=>[(6,.dat .int (i:Int))],ob:=fun _=>[],inv:=fun i=>i<=(yU (gb tPe σ 4)).length/\∀j:Nat,j<i->kl (nth (yU (gb tPe σ 4)) j) 0 99=true,mu:=fun i=>(yU (gb tPe σ 4)).length-i}
 |20=>some fun σ=>{X:=Nat,sl:=fun i=>[(7,.dat .int (i:Int))],ob:=fun _=>[],inv:=fun i=>i<=(v6 (gb tCr σ 1)).length/\∀j:Nat,j<i->eM (nth (v6 (gb tCr σ 1)) j)=true,mu:=fun i=>(v6 (gb tCr σ 1)).length-i}
 |_=>none
abbrev jeb (d:CrD×Unit)(x:Nat):=(nth d.1.2.1 (x:Int).toNat)
abbrev jfT (d:CrD×Unit)(x:Nat):=(↑(jeb d x).1.length:Int)
abbrev jgq (d:CrD×Unit)(x:Nat):=(↑(jeb d x).2.2.2.1.length:Int)
abbrev jhF (d:CrD×Unit)(x:Nat):=(decide ((jfT d x)≠d.1.1)|| !kl (jeb d x).2.1 (0:Int) (255:Int)|| !kl (jeb d x).2.2.1 (0:Int) (255:Int)||decide ((10:Int)<(jgq d x))|| !kl (jeb d x).q4.2.1 (0:Int) (1000:Int))
abbrev jfU (d:CrD×Unit):=(d.1.2.2.1.length:Int)
abbrev je4 (d:CrD×Unit)(x:Nat):=(yU (jeb d x))
abbrev jfV (d:CrD×Unit):=(d.1.2.1.length:Int)
abbrev jhG (d:CrD×Unit):=(!kl d.1.1 (2:Int) (5:Int)||decide (8<(jfV d))||decide ((jfU d)≠4))
abbrev jgr (d:CrD×Unit)(x:Nat):=(nth d.1.2.2.1 (x:Int).toNat)
abbrev jhH (d:CrD×Unit)(x:Nat):=(!kl (jgr d x).1 (1:Int) (5:Int)|| !kl (jgr d x).2.1 (1:Int) (8:Int))
def Kq:Prop:=∀(d:CrD×Unit),((!!kl d.1.1 (2:Int) (5:Int))=true->d.1.2.1.length<4611686018427387904)->((!(!kl d.1.1 (2:Int) (5:Int)||decide (8<(jfV d))))=true->d.1.2.2.1.length<4611686018427387904)->((jhG d)=true->(false,())=(kV d.1,()))/\((jhG d)=false->(∃(x:Nat),((0=(x:Int)/\True)/\True)/\x<=(kE d.1).length/\∀(j:Nat),j<x->ij (U.la d.1) (nth (kE d.1) j)=true)/\∀(x:Nat),(x<=(kE d.1).length/\∀(j:Nat),j<x->ij (U.la d.1) (nth (kE d.1) j)=true)->d.1.2.1.length<4611686018427387904->(decide ((x:Int)<(jfV d))=true->0<=(x:Int)/\(x:Int)<(jfV d)/\((jeb d x).1.length<4611686018427387904->((!(decide ((jfT d x)≠d.1.1)|| !kl (jeb d x).2.1 (0:Int) (255:Int)|| !kl (jeb d x).2.2.1 (0:Int) (255:Int)))=true->(jeb d x).2.2.2.1.length<4611686018427387904)->((jhF d x)=true->(false,())=(kV d.1,()))/\((jhF d x)=false->(∃(b:Nat),((0=(b:Int)/\True)/\True)/\b<=(U.lv (jeb d x)).length/\∀(j:Nat),j<b->kl (nth (U.lv (jeb d x)) j) (0:Int) 5=true)/\∀(b:Nat),(b<=(U.lv (jeb d x)).length/\∀(j:Nat),j<b->kl (nth (U.lv (jeb d x)) j) (0:Int) 5=true)->(jeb d x).1.length<4611686018427387904->(decide ((b:Int)<(jfT d x))=true->0<=(b:Int)/\(b:Int)<(jfT d x)/\((!kl (nth (jeb d x).1 (b:Int).toNat) (0:Int) (5:Int))=true->(false,())=(kV d.1,()))/\((!kl (nth (jeb d x).1 (b:Int).toNat) (0:Int) (5:Int))=false->kK ((b:Int)+1)/\∃(c:Nat),(((b:Int)+1=(c:Int)/\True)/\True)/\(c<=(U.lv (jeb d x)).length/\∀(j:Nat),j<c->kl (nth (U.lv (jeb d x)) j) (0:Int) 5=true)/\(U.lv (jeb d x)).length-c<(U.lv (jeb d x)).length-b))/\(decide ((b:Int)<(jfT d x))=false->(∃(a:Nat),((0=(a:Int)/\True)/\True)/\a<=(je4 d x).length/\∀(j:Nat),j<a->kl (nth (je4 d x) j) (0:Int) 99=true)/\∀(a:Nat),(a<=(je4 d x).length/\∀(j:Nat),j<a->kl (nth (je4 d x) j) (0:Int) 99=true)->(jeb d x).2.2.2.1.length<4611686018427387904->(decide ((a:Int)<(jgq d x))=true->0<=(a:Int)/\(a:Int)<(jgq d x)/\((!kl (nth (jeb d x).2.2.2.1 (a:Int).toNat) (0:Int) (99:Int))=true->(false,())=(kV d.1,()))/\((!kl (nth (jeb d x).2.2.2.1 (a:Int).toNat) (0:Int) (99:Int))=false->kK ((a:Int)+1)/\∃(c:Nat),(((a:Int)+1=(c:Int)/\True)/\True)/\(c<=(je4 d x).length/\∀(j:Nat),j<c->kl (nth (je4 d x) j) (0:Int) 99=true)/\(je4 d x).length-c<(je4 d x).length-a))/\(decide ((a:Int)<(jgq d x))=false->kK ((x:Int)+1)/\∃(c:Nat),(((x:Int)+1=(c:Int)/\True)/\True)/\(c<=(kE d.1).length/\∀(j:Nat),j<c->ij (U.la d.1) (nth (kE d.1) j)=true)/\(kE d.1).length-c<(kE d.1).length-x)))))/\(decide ((x:Int)<(jfV d))=false->(∃(x:Nat),((0=(x:Int)/\True)/\True)/\x<=(v6 d.1).length/\∀(j:Nat),j<x->eM (nth (v6 d.1) j)=true)/\∀(x:Nat),(x<=(v6 d.1).length/\∀(j:Nat),j<x->eM (nth (v6 d.1) j)=true)->d.1.2.2.1.length<4611686018427387904->(decide ((x:Int)<(jfU d))=true->0<=(x:Int)/\(x:Int)<(jfU d)/\((!!kl (jgr d x).1 (1:Int) (5:Int))=true->0<=(x:Int))/\((!!kl (jgr d x).1 (1:Int) (5:Int))=true->(x:Int)<(jfU d))/\((jhH d x)=true->(false,())=(kV d.1,()))/\((jhH d x)=false->kK ((x:Int)+1)/\∃(c:Nat),(((x:Int)+1=(c:Int)/\True)/\True)/\(c<=(v6 d.1).length/\∀(j:Nat),j<c->eM (nth (v6 d.1) j)=true)/\(v6 d.1).length-c<(v6 d.1).length-x))/\(decide ((x:Int)<(jfU d))=false->(true,())=(kV d.1,()))))
def Nj:wi:=⟨[.val tCr,.val tJb],[.bool],false,fun d=>[kV d.1=true],fun d=>(w6 d.1 d.2.1,())⟩
def Nk:Prop:=∀(d:CrD×JbD×Unit),kV d.1=true->kK (d.1.1-1)/\(kl d.2.1.1 (0:Int) (d.1.1-1)=true->kK (d.1.1-1))/\(kl d.2.1.1 (0:Int) (d.1.1-1)&&kl d.2.1.2.1 (0:Int) (d.1.1-1)&&decide (d.2.1.1≠d.2.1.2.1)&&kl d.2.1.2.2.1 (0:Int) (99:Int)&&kl d.2.1.2.2.2.1 (0:Int) (7:Int)&&kl d.2.1.q4.1 (0:Int) (3:Int)&&kl d.2.1.q4.2.1 (1:Int) (8:Int),())=(w6 d.1 d.2.1,())
theorem Nm:Kn:=by
 rintro⟨n,a,b,⟨⟩⟩;rfl
theorem xu:wq PR 81 Km:=wb Nm Tryz.func81 kcN koN
theorem Xt:UJ:=by
 rintro⟨s,n,⟨⟩⟩ ⟨a,b⟩;have a:0<=n:=a;have b:n<=63:=b;exact⟨a,by show n<=18446744073709551615;omega,a,by show n<=64;omega,rfl⟩
theorem UK:wq PR 24 UI:=wb Xt Tryz.func24 kcN koN
theorem Xu (c:CrD) (j:JbD):(kl (Sl j) 0 (U.la c-1)&&kl (LC j) 0 (U.la c-1)&&decide (Sl j≠LC j)&&kl (Yg j) 0 99&&kl (Yh j) 0 7&&kl (i9 j) 0 3&&kl (jbf j) 1 8)=w6 c j:=by
 unfold w6 kl;rw[j7];simp only[ji,jr,ne_eq];constructor;rintro⟨⟨⟨⟨⟨⟨⟨f,g⟩,h,i⟩,k⟩,l,m⟩,n,o⟩,a,b⟩,d,e⟩;exact⟨f,g,h,i,k,l,m,n,o,a,b,d,e⟩;rintro⟨f,g,h,i,k,l,m,n,o,a,b,d,e⟩;exact⟨⟨⟨⟨⟨⟨⟨f,g⟩,h,i⟩,k⟩,l,m⟩,n,o⟩,a,b⟩,d,e⟩
theorem Rj:Nk:=by
 unfold Nk Prod.q4;rintro⟨c,j,⟨⟩⟩ h;have h:kV c=true:=h;have d:=wX h;have a:kK (U.la c-1):=iZ6;refine⟨a,fun _=>a,?_⟩;exact jN (fun b=>(b,())) (Xu c j)
theorem Nn:wq PR 55 Nj:=wb Rj Tryz.func55 (kcC xu kcN) koN
end Go.X
namespace Go.X
open U
open Go.Proofs
theorem Kr (c:CrD) (j:JbD) (t:Int) (n:Nat):AP c j t (n+1)=V7 c j t (AP c j t n) n:=by
 unfold AP;rw[za,jL];rfl
theorem UL {c:CrD} {j:JbD} {t:Int} {n:Nat} (h:qb t (n:Int)=false):AP c j t (n+1)=AP c j t n:=by
 rw[Kr];unfold V7;rw[h,jc (by simp)]
theorem Xv (l:Int) (p:PeD):ij l p=(!(decide (((U.lv p).length:Int)≠l)|| !kl (U.fd p) 0 255|| !kl (U.cl p) 0 255||decide (10<((yU p).length:Int))|| !kl (U.fe p) 0 1000)&&((U.lv p).all (fun n=>kl n 0 5)&&(yU p).all (fun n=>kl n 0 99))):=by
 unfold ij;congr 1;rw[j7];simp only[kl,jP,jS,jE,zr,ji,jr];omega
theorem A6 (c:CrD):kV c=(!(!kl (U.la c) 2 5||decide (8<((kE c).length:Int))||decide (((v6 c).length:Int)≠4))&&((kE c).all (ij (U.la c))&&(v6 c).all eM)):=by
 unfold kV;congr 1;rw[j7];simp only[kl,jP,jS,jE,zr,ji,jr];omega
theorem uz {c:CrD} {x:Nat} (a:x<(kE c).length) (h:ij (U.la c) (nth (kE c) x)=false):kV c=false:=by
 have:(kE c).all (ij (U.la c))=false:=zX.2 ⟨_,L.kx a,by rw[h];simp⟩;rw[A6,this];simp
theorem Rk {c:CrD} {x:Nat} (a:x<(v6 c).length) (h:eM (nth (v6 c) x)=false):kV c=false:=by
 have:(v6 c).all eM=false:=zX.2 ⟨_,L.kx a,by rw[h];simp⟩;rw[A6,this];simp
theorem fZ {α:Type} [Inhabited α] {l:List α} {p:α->Bool} {x:Nat} (c:¬x<l.length) (h:∀j:Nat,j<x->p (nth l j)=true):l.all p=true:=by
 rw[j8];intro a b;obtain⟨i,hi,rfl⟩:=L.mem_iff.1 b;exact h i (by omega)
theorem l7 {c:CrD} (h:kV c=false):(false,())=(kV c,()):=by rw[h]
theorem No:Kq:=by
 unfold Kq jhH jgr jhG jfV je4 jfU jhF jgq jfT jeb Prod.q4;rintro⟨c,⟨⟩⟩ _ _;refine⟨fun h=> ?_,fun h=> ?_⟩;have h:(!kl (U.la c) 2 5||decide (8<((kE c).length:Int))||decide (((v6 c).length:Int)≠4))=true:=h;refine l7 (c:=c) ?_;rw[A6,h];rfl;have B:(!kl (U.la c) 2 5||decide (8<((kE c).length:Int))||decide (((v6 c).length:Int)≠4))=false:=h;clear h;refine⟨⟨0,⟨⟨rfl,tZ⟩,tZ⟩,jv _,fun j k=>by omega⟩,fun x s r=>⟨fun h=> ?_,fun h=> ?_⟩⟩;have r:(kE c).length<4611686018427387904:=r;have h:(x:Int)<(kE c).length:=ja h;have m:x<(kE c).length:=(by omega);refine⟨by omega,h,fun _ _=>⟨fun g=> ?_,fun g=> ?_⟩⟩;have g:(decide (((U.lv (nth (kE c) x)).length:Int)≠U.la c)|| !kl (U.fd (nth (kE c) x)) 0 255|| !kl (U.cl (nth (kE c) x)) 0 255||decide (10<((yU (nth (kE c) x)).length:Int))|| !kl (U.fe (nth (kE c) x)) 0 1000)=true:=g;refine l7 (c:=c) (uz m ?_);rw[Xv,g];rfl;have g:(decide (((U.lv (nth (kE c) x)).length:Int)≠U.la c)|| !kl (U.fd (nth (kE c) x)) 0 255|| !kl (U.cl (nth (kE c) x)) 0 255||decide (10<((yU (nth (kE c) x)).length:Int))|| !kl (U.fe (nth (kE c) x)) 0 1000)=false:=g;refine⟨⟨0,⟨⟨rfl,tZ⟩,tZ⟩,jv _,fun j k=>by omega⟩,fun y q d=>⟨fun b=> ?_,fun b=> ?_⟩⟩;have d:(U.lv (nth (kE c) x)).length<4611686018427387904:=d;have b:(y:Int)<(U.lv (nth (kE c) x)).length:=ja b;refine⟨by omega,b,fun a=> ?_,fun a=>⟨iZ6,y+1,⟨⟨by simp,tZ⟩,tZ⟩,⟨by show y+1<=(U.lv (nth (kE c) x)).length;omega,fun j k=> ?_⟩,by show(U.lv (nth (kE c) x)).length-(y+1)<(U.lv (nth (kE c) x)).length-y;omega⟩⟩;have a:(!kl (nth (U.lv (nth (kE c) x)) y) 0 5)=true:=a;have a:kl (nth (U.lv (nth (kE c) x)) y) 0 5=false:=(by simpa using a);refine l7 (c:=c) (uz m ?_);have:(U.lv (nth (kE c) x)).all (fun n=>kl n 0 5)=false:=zX.2 ⟨_,L.kx (l:=U.lv (nth (kE c) x)) (i:=y) (by omega),by rw[a];simp⟩;rw[Xv,this];simp;have a:(!kl (nth (U.lv (nth (kE c) x)) y) 0 5)=false:=a;by_cases e:j=y;subst e;exact(show kl (nth (U.lv (nth (kE c) x)) j) 0 5=true by simpa using a);exact q.2 j (by omega);have b:¬(y:Int)<(U.lv (nth (kE c) x)).length:=je b;have u:(U.lv (nth (kE c) x)).all (fun n=>kl n 0 5)=true:=fZ (by omega) q.2;refine⟨⟨0,⟨⟨rfl,tZ⟩,tZ⟩,jv _,fun j k=>by omega⟩,fun z t o=>⟨fun a=> ?_,fun a=> ?_⟩⟩;have o:(yU (nth (kE c) x)).length<4611686018427387904:=o;have a:(z:Int)<(yU (nth (kE c) x)).length:=ja a;refine⟨by omega,a,fun f=> ?_,fun f=>⟨iZ6,z+1,⟨⟨by simp,tZ⟩,tZ⟩,⟨by show z+1<=(yU (nth (kE c) x)).length;omega,fun j k=> ?_⟩,by show(yU (nth (kE c) x)).length-(z+1)<(yU (nth (kE c) x)).length-z;omega⟩⟩;have f:(!kl (nth (yU (nth (kE c) x)) z) 0 99)=true:=f;have f:kl (nth (yU (nth (kE c) x)) z) 0 99=false:=(by simpa using f);refine l7 (c:=c) (uz m ?_);have:(yU (nth (kE c) x)).all (fun n=>kl n 0 99)=false:=zX.2 ⟨_,L.kx (l:=yU (nth (kE c) x)) (i:=z) (by omega),by rw[f];simp⟩;rw[Xv,this];simp;have f:(!kl (nth (yU (nth (kE c) x)) z) 0 99)=false:=f;by_cases e:j=z;subst e;exact(show kl (nth (yU (nth (kE c) x)) j) 0 99=true by simpa using f);exact t.2 j (by omega);have a:¬(z:Int)<(yU (nth (kE c) x)).length:=je a;have v:(yU (nth (kE c) x)).all (fun n=>kl n 0 99)=true:=fZ (by omega) t.2;refine⟨iZ6,x+1,⟨⟨by simp,tZ⟩,tZ⟩,⟨by show x+1<=(kE c).length;omega,fun j k=> ?_⟩,by show(kE c).length-(x+1)<(kE c).length-x;omega⟩;by_cases e:j=x;subst e;show ij (U.la c) (nth (kE c) j)=true;rw[Xv,g,u,v];rfl;exact s.2 j (by omega);have h:¬(x:Int)<(kE c).length:=je h;have A:(kE c).all (ij (U.la c))=true:=fZ (by omega) s.2;refine⟨⟨0,⟨⟨rfl,tZ⟩,tZ⟩,jv _,fun j k=>by omega⟩,fun y q d=>⟨fun b=> ?_,fun b=> ?_⟩⟩;have d:(v6 c).length<4611686018427387904:=d;have b:(y:Int)<(v6 c).length:=ja b;have p:eM (nth (v6 c) y)= !(!kl (Wi (nth (v6 c) y)) 1 5|| !kl (jbe (nth (v6 c) y)) 1 8):=by
  unfold eM;rw[Bool.not_or,Bool.not_not,Bool.not_not]
 refine⟨by omega,b,fun _=>by omega,fun _=>b,fun a=> ?_,fun a=>⟨iZ6,y+1,⟨⟨by simp,tZ⟩,tZ⟩,⟨by show y+1<=(v6 c).length;omega,fun j k=> ?_⟩,by show(v6 c).length-(y+1)<(v6 c).length-y;omega⟩⟩;have a:(!kl (Wi (nth (v6 c) y)) 1 5|| !kl (jbe (nth (v6 c) y)) 1 8)=true:=a;exact l7 (c:=c) (Rk (x:=y) (by omega) (by rw[p,a];rfl));have a:(!kl (Wi (nth (v6 c) y)) 1 5|| !kl (jbe (nth (v6 c) y)) 1 8)=false:=a;by_cases e:j=y;subst e;show eM (nth (v6 c) j)=true;rw[p,a];rfl;exact q.2 j (by omega);have b:¬(y:Int)<(v6 c).length:=je b;have w:(v6 c).all eM=true:=fZ (by omega) q.2;show(true,())=(kV c,());rw[A6,B,A,w];rfl
theorem xv:wq PR 54 Ko:=vN Kp No Tryz.func54 (kcC xu kcN) koN
def Ks:wi:=⟨[.val .int,.val .int,.val .int],[.bool],false,fun _=>[],fun d=>(kl d.1 d.2.1 d.2.2.1,())⟩
def Kt:Prop:=∀(d:Int×Int×Int×Unit),(decide (d.2.1<=d.1)&&decide (d.1<=d.2.2.1),())=(kl d.1 d.2.1 d.2.2.1,())
def Do:wi:=⟨[.val tDy,.val .int],[.bool],false,fun _=>[],fun d=>(V6 d.1 d.2.1,())⟩
def Dp:Prop:=∀(d:DyD×Int×Unit),d.1.2.2.1.length<4611686018427387904->kK ((d.1.2.2.1.length:Int)-1)/\(kl d.2.1 (0:Int) ((d.1.2.2.1.length:Int)-1),())=(V6 d.1 d.2.1,())
def EA:wi:=⟨[.val tDy,.val .int],[.bool],false,fun _=>[],fun d=>(Ll d.1 d.2.1,())⟩
def EB:Prop:=∀(d:DyD×Int×Unit),d.1.1.2.1.length<4611686018427387904->kK ((d.1.1.2.1.length:Int)-1)/\(kl d.2.1 (0:Int) ((d.1.1.2.1.length:Int)-1),())=(Ll d.1 d.2.1,())
def Np:wi:=⟨[.val tDy],[.bool],false,fun _=>[],fun d=>(wK d.1,())⟩
def Nq:Ann:=fun r=>match r with
 |4=>some fun σ=>{X:=Nat,sl:=fun i=>[(3,.dat .int (i:Int))],ob:=fun _=>[],inv:=fun i=>i<=(wn (gb tDy σ 1)).length/\∀j:Nat,j<i->bV (wn (gb tDy σ 1)).length (nth (wn (gb tDy σ 1)) j)=true,mu:=fun i=>(wn (gb tDy σ 1)).length-i}
 |9=>some fun σ=>{X:=Nat,sl:=fun i=>[(4,.dat .int (i:Int))],ob:=fun _=>[],inv:=fun i=>i<=(nth (wn (gb tDy σ 1)) (gd .int σ 3).toNat).length/\∀j:Nat,j<i->tb (nth (nth (wn (gb tDy σ 1)) (gd .int σ 3).toNat) j)=true,mu:=fun i=>(nth (wn (gb tDy σ 1)) (gd .int σ 3).toNat).length-i}
 |15=>some fun σ=>{X:=Nat,sl:=fun i=>[(6,.dat .int (i:Int))],ob:=fun _=>[],inv:=fun i=>i<=(kC (gb tDy σ 1)).length/\∀j:Nat,j<i->mj (wn (gb tDy σ 1)).length (nth (kC (gb tDy σ 1)) j)=true,mu:=fun i=>(kC (gb tDy σ 1)).length-i}
 |21=>some fun σ=>{X:=Nat,sl:=fun i=>[(8,.dat .int (i:Int))],ob:=fun _=>[],inv:=fun i=>i<=(qj (gb tDy σ 1)).length/\∀j:Nat,j<i->ml (kC (gb tDy σ 1)).length (kE (kG (gb tDy σ 1))).length (nth (qj (gb tDy σ 1)) j)=true,mu:=fun i=>(qj (gb tDy σ 1)).length-i}
 |_=>none
abbrev jfy (d:DyD×Unit)(x:Nat):=(nth d.1.2.1 (x:Int).toNat)
abbrev jhI (d:DyD×Unit)(x:Nat)(a:Nat):=(decide ((nth (jfy d x) (a:Int).toNat).1<0)||decide ((nth (jfy d x) (a:Int).toNat).2.1<(nth (jfy d x) (a:Int).toNat).1)||decide ((300:Int)<(nth (jfy d x) (a:Int).toNat).2.1))
abbrev je5 (d:DyD×Unit)(x:Nat):=(nth (wn d.1) (x:Int).toNat)
abbrev jeC (d:DyD×Unit):=(d.1.2.1.length:Int)
abbrev jfW (d:DyD×Unit)(x:Nat):=(nth d.1.q4.2.1 (x:Int).toNat)
abbrev jhJ (d:DyD×Unit)(x:Nat):=(!kl (jfW d x).1 (0:Int) (99:Int)|| !kl (jfW d x).2.1 (0:Int) (9999:Int)|| !kl (jfW d x).2.2.1 (1:Int) (2:Int)|| !V6 d.1 (jfW d x).2.2.2.1|| !Ll d.1 (jfW d x).q4.1)
abbrev jfz (d:DyD×Unit):=(d.1.2.2.1.length:Int)
abbrev jg6 (x:Nat)(a:Nat):=(((x:Int)+1=(a:Int)/\True)/\True)
abbrev jfX (d:DyD×Unit)(x:Nat):=(nth d.1.2.2.1 (x:Int).toNat)
abbrev jhK (d:DyD×Unit)(x:Nat):=(!kl (jfX d x).2.1 (0:Int) ((jeC d)-1)||decide ((jfX d x).2.2.1<0)||decide ((jfX d x).2.2.2.1<=(jfX d x).2.2.1)||decide ((1440:Int)<(jfX d x).2.2.2.1))
abbrev jfY (d:DyD×Unit)(x:Nat):=(↑(jfy d x).length:Int)
abbrev jgs (d:DyD×Unit):=(d.1.q4.2.1.length:Int)
abbrev jhL (d:DyD×Unit):=(decide (4<(jfz d))|| !kl (jeC d) (1:Int) (5:Int)|| !kl d.1.2.2.2.1 (0:Int) (300:Int)|| !kl d.1.q4.1 (0:Int) (1440:Int)||decide (30<(jgs d)))
abbrev jg7 (x:Nat):=((0=(x:Int)/\True)/\True)
def Nr:Prop:=∀(d:DyD×Unit),d.1.2.2.1.length<4611686018427387904->((!decide (4<(jfz d)))=true->d.1.2.1.length<4611686018427387904)->((!(decide (4<(jfz d))|| !kl (jeC d) (1:Int) (5:Int)|| !kl d.1.2.2.2.1 (0:Int) (300:Int)|| !kl d.1.q4.1 (0:Int) (1440:Int)))=true->d.1.q4.2.1.length<4611686018427387904)->((jhL d)=true->(false,())=(wK d.1,()))/\((jhL d)=false->(∃(x:Nat),(jg7 x)/\x<=(wn d.1).length/\∀(j:Nat),j<x->bV (wn d.1).length (nth (wn d.1) j)=true)/\∀(x:Nat),(x<=(wn d.1).length/\∀(j:Nat),j<x->bV (wn d.1).length (nth (wn d.1) j)=true)->d.1.2.1.length<4611686018427387904->(decide ((x:Int)<(jeC d))=true->0<=(x:Int)/\(x:Int)<(jeC d)/\(decide ((jfY d x)≠(jeC d))=true->(false,())=(wK d.1,()))/\(decide ((jfY d x)≠(jeC d))=false->(∃(a:Nat),((0=(a:Int)/\True)/\True)/\a<=(je5 d x).length/\∀(j:Nat),j<a->tb (nth (je5 d x) j)=true)/\∀(a:Nat),(a<=(je5 d x).length/\∀(j:Nat),j<a->tb (nth (je5 d x) j)=true)->0<=(x:Int)/\(x:Int)<(jeC d)/\((jfy d x).length<4611686018427387904->(decide ((a:Int)<(jfY d x))=true->0<=(x:Int)/\(x:Int)<(jeC d)/\0<=(a:Int)/\(a:Int)<(jfY d x)/\((jhI d x a)=true->(false,())=(wK d.1,()))/\((jhI d x a)=false->kK ((a:Int)+1)/\∃(b:Nat),(((a:Int)+1=(b:Int)/\True)/\True)/\(b<=(je5 d x).length/\∀(j:Nat),j<b->tb (nth (je5 d x) j)=true)/\(je5 d x).length-b<(je5 d x).length-a))/\(decide ((a:Int)<(jfY d x))=false->kK ((x:Int)+1)/\∃(b:Nat),(jg6 x b)/\(b<=(wn d.1).length/\∀(j:Nat),j<b->bV (wn d.1).length (nth (wn d.1) j)=true)/\(wn d.1).length-b<(wn d.1).length-x))))/\(decide ((x:Int)<(jeC d))=false->(∃(x:Nat),(jg7 x)/\x<=(kC d.1).length/\∀(j:Nat),j<x->mj (wn d.1).length (nth (kC d.1) j)=true)/\∀(x:Nat),(x<=(kC d.1).length/\∀(j:Nat),j<x->mj (wn d.1).length (nth (kC d.1) j)=true)->d.1.2.2.1.length<4611686018427387904->(decide ((x:Int)<(jfz d))=true->0<=(x:Int)/\(x:Int)<(jfz d)/\(d.1.2.1.length<4611686018427387904->kK ((jeC d)-1)/\((jhK d x)=true->(false,())=(wK d.1,()))/\((jhK d x)=false->kK ((x:Int)+1)/\∃(b:Nat),(jg6 x b)/\(b<=(kC d.1).length/\∀(j:Nat),j<b->mj (wn d.1).length (nth (kC d.1) j)=true)/\(kC d.1).length-b<(kC d.1).length-x)))/\(decide ((x:Int)<(jfz d))=false->(∃(x:Nat),(jg7 x)/\x<=(qj d.1).length/\∀(j:Nat),j<x->ml (kC d.1).length (kE (kG d.1)).length (nth (qj d.1) j)=true)/\∀(x:Nat),(x<=(qj d.1).length/\∀(j:Nat),j<x->ml (kC d.1).length (kE (kG d.1)).length (nth (qj d.1) j)=true)->d.1.q4.2.1.length<4611686018427387904->(decide ((x:Int)<(jgs d))=true->0<=(x:Int)/\(x:Int)<(jgs d)/\((jhJ d x)=true->(false,())=(wK d.1,()))/\((jhJ d x)=false->kK ((x:Int)+1)/\∃(b:Nat),(jg6 x b)/\(b<=(qj d.1).length/\∀(j:Nat),j<b->ml (kC d.1).length (kE (kG d.1)).length (nth (qj d.1) j)=true)/\(qj d.1).length-b<(qj d.1).length-x))/\(decide ((x:Int)<(jgs d))=false->(true,())=(wK d.1,())))))
def Ns:wi:=⟨[.val (.slice tSh)],[.bool],false,fun d=>[d.1.length<=1000000],fun d=>(aX d.1,())⟩
def Nt:Ann:=fun r=>match r with
 |2=>some fun σ=>{X:=Nat,sl:=fun i=>[(3,.dat .int (i:Int))],ob:=fun _=>[],inv:=fun i=>i<=(gd (.slice tSh) σ 0).length/\gw (gd (.slice tSh) σ 0) i=false,mu:=fun i=>(gd (.slice tSh) σ 0).length-i}
 |5=>some fun σ=>{X:=Nat,sl:=fun i=>[(4,.dat .int (i:Int))],ob:=fun _=>[],inv:=fun i=>i<=(gd .int σ 3).toNat/\∀j:Nat,j<i->DU (nth (gd (.slice tSh) σ 0) (gd .int σ 3).toNat) (nth (gd (.slice tSh) σ 0) j)=false,mu:=fun i=>(gd .int σ 3).toNat-i}
 |_=>none
abbrev jfA (d:List ShD×Unit)(x:Nat)(a:Nat):=((nth d.1 (x:Int).toNat).1=(nth d.1 (a:Int).toNat).1)
def Nu:Prop:=∀(d:List ShD×Unit),d.1.length<=1000000->(∃(x:Nat),((0=(x:Int)/\True)/\True)/\x<=d.1.length/\gw d.1 x=false)/\∀(x:Nat),x<=d.1.length/\gw d.1 x=false->d.1.length<4611686018427387904->(decide ((x:Int)<d.1.length)=true->(∃(a:Nat),((0=(a:Int)/\True)/\True)/\a<=(x:Int).toNat/\∀(j:Nat),j<a->DU (nth d.1 (x:Int).toNat) (nth d.1 j)=false)/\∀(a:Nat),(a<=(x:Int).toNat/\∀(j:Nat),j<a->DU (nth d.1 (x:Int).toNat) (nth d.1 j)=false)->(decide ((a:Int)<(x:Int))=true->0<=(x:Int)/\(x:Int)<d.1.length/\0<=(a:Int)/\(a:Int)<d.1.length/\(decide (jfA d x a)=true->0<=(x:Int))/\(decide (jfA d x a)=true->(x:Int)<d.1.length)/\(decide (jfA d x a)=true->0<=(a:Int))/\(decide (jfA d x a)=true->(a:Int)<d.1.length)/\((decide (jfA d x a)&& !decide (nth d.1 (x:Int).toNat=nth d.1 (a:Int).toNat))=true->(true,())=(aX d.1,()))/\((decide (jfA d x a)&& !decide (nth d.1 (x:Int).toNat=nth d.1 (a:Int).toNat))=false->kK ((a:Int)+1)/\∃(b:Nat),(((a:Int)+1=(b:Int)/\True)/\True)/\(b<=(x:Int).toNat/\∀(j:Nat),j<b->DU (nth d.1 (x:Int).toNat) (nth d.1 j)=false)/\(x:Int).toNat-b<(x:Int).toNat-a))/\(decide ((a:Int)<(x:Int))=false->kK ((x:Int)+1)/\∃(b:Nat),(((x:Int)+1=(b:Int)/\True)/\True)/\(b<=d.1.length/\gw d.1 b=false)/\d.1.length-b<d.1.length-x))/\(decide ((x:Int)<d.1.length)=false->(false,())=(aX d.1,()))
def Nv:wi:=⟨[.val tDy],[.int],false,fun d=>[(kC d.1).length<=1000000],fun d=>(dm d.1,())⟩
def Nw:Ann:=fun r=>match r with
 |4=>some fun σ=>{X:=Nat,sl:=fun i=>[(3,.dat .int (i:Int))],ob:=fun _=>[],inv:=fun i=>i<=(kC (gb tDy σ 1)).length/\∀j:Nat,j<i->w6 (kG (gb tDy σ 1)) (y8 (nth (kC (gb tDy σ 1)) j))=true,mu:=fun i=>(kC (gb tDy σ 1)).length-i}
 |_=>none
def Nx:Prop:=∀(d:DyD×Unit),(kC d.1).length<=1000000->((!kV d.1.1)=true->((30:Int),())=(dm d.1,()))/\((!kV d.1.1)=false->(∃(x:Nat),((0=(x:Int)/\True)/\True)/\x<=(kC d.1).length/\∀(j:Nat),j<x->w6 (kG d.1) (y8 (nth (kC d.1) j))=true)/\∀(x:Nat),(x<=(kC d.1).length/\∀(j:Nat),j<x->w6 (kG d.1) (y8 (nth (kC d.1) j))=true)->d.1.2.2.1.length<4611686018427387904->(decide ((x:Int)<d.1.2.2.1.length)=true->0<=(x:Int)/\(x:Int)<d.1.2.2.1.length/\kV d.1.1=true/\((!w6 d.1.1 (nth d.1.2.2.1 (x:Int).toNat).1)=true->((31:Int),())=(dm d.1,()))/\((!w6 d.1.1 (nth d.1.2.2.1 (x:Int).toNat).1)=false->kK ((x:Int)+1)/\∃(a:Nat),(((x:Int)+1=(a:Int)/\True)/\True)/\(a<=(kC d.1).length/\∀(j:Nat),j<a->w6 (kG d.1) (y8 (nth (kC d.1) j))=true)/\(kC d.1).length-a<(kC d.1).length-x))/\(decide ((x:Int)<d.1.2.2.1.length)=false->((!wK d.1)=true->((50:Int),())=(dm d.1,()))/\((!wK d.1)=false->d.1.q4.2.1.length<=1000000/\(aX d.1.q4.2.1=true->((51:Int),())=(dm d.1,()))/\(aX d.1.q4.2.1=false->((0:Int),())=(dm d.1,())))))
theorem Ny:Kt:=by
 rintro⟨n,a,b,⟨⟩⟩;rfl
theorem l8:wq PR 82 Ks:=wb Ny Tryz.func82 kcN koN
theorem EC:Dp:=by
 rintro⟨d,n,⟨⟩⟩ a;have a:(kC d).length<4611686018427387904:=a;exact⟨by show kK (((kC d).length:Int)-1);exact iZ6,rfl⟩
theorem Dq:wq PR 83 Do:=wb EC Tryz.func83 (kcC l8 kcN) koN
theorem HD:EB:=by
 rintro⟨d,n,⟨⟩⟩ a;have a:(kE (kG d)).length<4611686018427387904:=a;exact⟨by show kK (((kE (kG d)).length:Int)-1);exact iZ6,rfl⟩
theorem ED:wq PR 84 EA:=wb HD Tryz.func84 (kcC l8 kcN) koN
theorem Ku (l:List ShD) (n:Nat):gw l (n+1)=(gw l n||Bd l n):=by
 unfold gw;rw[za,List.any_append];simp
theorem HE {l:List ShD} {i:Nat} (h:∀j:Nat,j<i->DU (nth l i) (nth l j)=false) (hi:i<=l.length):Bd l i=false:=by
 unfold Bd;rw[zq];intro s a;rw[zj] at a;obtain⟨j,b,rfl⟩:=a;have:=h j (by omega);rw[L.wB (l:=l) (i:=j) (by omega)] at this;simpa using this
theorem Rm {l:List ShD} {i j:Nat} (hi:i<l.length) (a:j<i) (h:DU (nth l i) (nth l j)=true):aX l=true:=by
 unfold aX gw Bd;rw[ze];refine⟨i,jC.2 hi,?_⟩;rw[ze];refine⟨nth l j,?_,h⟩;rw[zj];exact⟨j,by omega,(L.wB (by omega)).symm⟩
theorem Rn:Nu:=by
 unfold Nu jfA;rintro⟨l,⟨⟩⟩ k;have k:l.length<=1000000:=k;refine⟨⟨0,⟨⟨rfl,tZ⟩,tZ⟩,jv _,rfl⟩,fun x m _=>⟨fun h=> ?_,fun h=> ?_⟩⟩;have h:(x:Int)<l.length:=ja h;obtain⟨_,a⟩:x<=l.length/\gw l x=false:=m;refine⟨⟨0,⟨⟨rfl,tZ⟩,tZ⟩,jv _,fun j o=>by omega⟩,fun y n=>⟨fun c=> ?_,fun c=> ?_⟩⟩;have c:(y:Int)<(x:Int):=ja c;obtain⟨_,b⟩:y<=x/\∀j:Nat,j<y->DU (nth l x) (nth l j)=false:=n;have f:(y:Int)<l.length:=(by omega);refine⟨by omega,h,by omega,f,fun _=>by omega,fun _=>h,fun _=>by omega,fun _=>f,fun d=> ?_,fun d=>⟨iZ6,y+1,⟨⟨by simp,tZ⟩,tZ⟩,⟨by show y+1<=x;omega,fun j o=> ?_⟩,by show x-(y+1)<x-y;omega⟩⟩;have d:DU (nth l x) (nth l y)=true:=d;have:=Rm (by omega) (by omega) d;show(true,())=(aX l,());rw[this];by_cases e:j=y;subst e;exact d;exact b j (by omega);have c:¬(y:Int)<(x:Int):=je c;obtain⟨q,b⟩:y<=x/\∀j:Nat,j<y->DU (nth l x) (nth l j)=false:=n;have i:y=x:=(by omega);subst i;refine⟨iZ6,y+1,⟨⟨by simp,tZ⟩,tZ⟩,⟨by show y+1<=l.length;omega,?_⟩,by show l.length-(y+1)<l.length-y;omega⟩;show gw l (y+1)=false;rw[Ku,a,HE b (by omega)];rfl;have h:¬(x:Int)<l.length:=je h;obtain⟨p,a⟩:x<=l.length/\gw l x=false:=m;have g:x=l.length:=(by omega);subst g;show(false,())=(aX l,());unfold aX;rw[a]
theorem Nz:wq PR 57 Ns:=vN Nt Rn Tryz.func57 kcN koN
theorem Ro:Nx:=by
 unfold Nx Prod.q4;rintro⟨d,⟨⟩⟩ k;have k:(kC d).length<=1000000:=k;refine⟨fun h=> ?_,fun h=> ?_⟩;have h:kV (kG d)=false:=(by simpa using(show(!kV (kG d))=true from h));show((30:Int),())=(dm d,());unfold dm;rw[h];rfl;have g:kV (kG d)=true:=(by simpa using(show(!kV (kG d))=false from h));refine⟨⟨0,⟨⟨rfl,tZ⟩,tZ⟩,jv _,fun j f=>by omega⟩,fun x m _=>⟨fun h=> ?_,fun h=> ?_⟩⟩;have h:(x:Int)<(kC d).length:=ja h;refine⟨by omega,h,g,fun a=> ?_,fun a=>⟨iZ6,x+1,⟨⟨by simp,tZ⟩,tZ⟩,⟨by show x+1<=(kC d).length;omega,fun j f=> ?_⟩,by show(kC d).length-(x+1)<(kC d).length-x;omega⟩⟩;have a:w6 (kG d) (y8 (nth (kC d) x))=false:=(by simpa using(show(!w6 (kG d) (y8 (nth (kC d) x)))=true from a));have f:Lg d=false:=by
  unfold Lg;exact zX.2 ⟨_,L.kx (l:=kC d) (i:=x) (by omega),by rw[a];simp⟩
 show((31:Int),())=(dm d,());unfold dm;rw[g,f];rfl;have a:w6 (kG d) (y8 (nth (kC d) x))=true:=(by simpa using(show(!w6 (kG d) (y8 (nth (kC d) x)))=false from a));by_cases e:j=x;subst e;exact a;exact m.2 j (by omega);have h:¬(x:Int)<(kC d).length:=je h;have f:Lg d=true:=fZ (p:=fun b=>w6 (kG d) (y8 b)) (by omega) m.2;refine⟨fun a=> ?_,fun a=> ?_⟩;have a:wK d=false:=(by simpa using(show(!wK d)=true from a));show((50:Int),())=(dm d,());unfold dm;rw[g,f,a];rfl;have a:wK d=true:=(by simpa using(show(!wK d)=false from a));have n:(qj d).length<=30:=(ym a).2.2.2.2.1;refine⟨by show(qj d).length<=1000000;omega,fun c=> ?_,fun c=> ?_⟩;have c:aX (qj d)=true:=c;show((51:Int),())=(dm d,());unfold dm;rw[g,f,a,c];rfl;have c:aX (qj d)=false:=c;show((0:Int),())=(dm d,());unfold dm;rw[g,f,a,c];rfl
end Go.X
namespace Go.X
open U
open Go.Proofs
def jbP (d:DyD):Bool:=decide (4<((kC d).length:Int))|| !kl ((wn d).length:Int) 1 5|| !kl (R9 d) 0 300|| !kl (jaZ d) 0 1440||decide (30<((qj d).length:Int))
def spH (s:SpD):Bool:=decide (U.lo s<0)||decide (U.hi s<U.lo s)||decide (300<U.hi s)
def bkH (n:Nat) (b:BkD):Bool:= !kl (jaY b) 0 ((n:Int)-1)||decide (qx b<0)||decide (mY b<=qx b)||decide (1440<mY b)
def shH (d:DyD) (s:ShD):Bool:= !kl (y9 s) 0 99|| !kl (IA s) 0 9999|| !kl (Yi s) 1 2|| !V6 d (Lf s)|| !Ll d (oj s)
theorem UM (d:DyD):wK d=(!jbP d&&((wn d).all (bV (wn d).length)&&((kC d).all (mj (wn d).length)&&(qj d).all (ml (kC d).length (kE (kG d)).length)))):=by
 unfold wK jbP;congr 1;rw[j7];simp only[kl,jP,jS,jE,zr,ji,jr];omega
theorem YP (s:SpD):tb s= !spH s:=by
 unfold tb spH;rw[j7];simp only[jP,jS,jE,jr];omega
theorem YQ (n:Nat) (b:BkD):mj n b= !bkH n b:=by
 unfold mj bkH;rw[j7];simp only[kl,jP,jS,jE,zr,ji,jr];omega
theorem YR (d:DyD) (s:ShD):ml (kC d).length (kE (kG d)).length s= !shH d s:=by
 unfold ml shH V6 Ll;rw[j7];simp only[kl,jP,jS,zr,ji,jr];omega
theorem Kv {d:DyD} (h:jbP d=true\/(wn d).all (bV (wn d).length)=false\/(kC d).all (mj (wn d).length)=false\/(qj d).all (ml (kC d).length (kE (kG d)).length)=false):(false,())=(wK d,()):=by
 have:wK d=false:=by
  rw[UM];rcases h with h|h|h|h<;>rw[h]<;>simp
 rw[this]
theorem Kw {α:Type} [Inhabited α] {l:List α} {p:α->Bool} {x:Nat} (a:x<l.length) (h:p (nth l x)=false):l.all p=false:=zX.2 ⟨_,L.kx a,by rw[h];simp⟩
theorem Rp:Nr:=by
 unfold Nr jg7 jhL jgs jfY jhK jfX jg6 jfz jhJ jfW jeC je5 jhI jfy Prod.q4;rintro⟨d,⟨⟩⟩ _ _ _;refine⟨fun h=>Kv (d:=d) (.inl h),fun k=> ?_⟩;have k:jbP d=false:=k;have l:=k;unfold jbP at l;simp only[kl,jS,jE,zr,ji,jr] at l;refine⟨⟨0,⟨⟨rfl,tZ⟩,tZ⟩,jv _,fun j g=>by omega⟩,fun x c _=>⟨fun h=> ?_,fun h=> ?_⟩⟩;have h:(x:Int)<(wn d).length:=ja h;have b:x<(wn d).length:=(by omega);refine⟨by omega,h,fun a=> ?_,fun a=>⟨⟨0,⟨⟨rfl,tZ⟩,tZ⟩,jv _,fun j g=>by omega⟩,fun y n=>⟨by omega,h,fun m=>⟨fun i=> ?_,fun i=> ?_⟩⟩⟩⟩;have a:¬((nth (wn d) x).length:Int)=(wn d).length:=ja a;refine Kv (d:=d) (.inr (.inl (Kw b ?_)));unfold bV;rw[zm (by omega)];rfl;have m:(nth (wn d) x).length<4611686018427387904:=m;have i:(y:Int)<(nth (wn d) x).length:=ja i;refine⟨by omega,h,by omega,i,fun f=> ?_,fun f=>⟨iZ6,y+1,⟨⟨by simp,tZ⟩,tZ⟩,⟨by show y+1<=(nth (wn d) x).length;omega,fun j g=> ?_⟩,by show(nth (wn d) x).length-(y+1)<(nth (wn d) x).length-y;omega⟩⟩;have f:spH (nth (nth (wn d) x) y)=true:=f;refine Kv (d:=d) (.inr (.inl (Kw b ?_)));have:(nth (wn d) x).all tb=false:=Kw (x:=y) (by omega) (by rw[YP,f];rfl);unfold bV;rw[this,Bool.and_false];have f:spH (nth (nth (wn d) x) y)=false:=f;by_cases e:j=y;subst e;show tb (nth (nth (wn d) x) j)=true;rw[YP,f];rfl;exact n.2 j (by omega);have i:¬(y:Int)<(nth (wn d) x).length:=je i;have a:((nth (wn d) x).length:Int)=(wn d).length:=jQ.1 (je a);have o:(nth (wn d) x).all tb=true:=fZ (by omega) n.2;refine⟨iZ6,x+1,⟨⟨by simp,tZ⟩,tZ⟩,⟨by show x+1<=(wn d).length;omega,fun j g=> ?_⟩,by show(wn d).length-(x+1)<(wn d).length-x;omega⟩;by_cases e:j=x;subst e;show bV (wn d).length (nth (wn d) j)=true;unfold bV;rw[o,jK (by omega)];rfl;exact c.2 j (by omega);have h:¬(x:Int)<(wn d).length:=je h;have r:(wn d).all (bV (wn d).length)=true:=fZ (by omega) c.2;clear c h;refine⟨⟨0,⟨⟨rfl,tZ⟩,tZ⟩,jv _,fun j g=>by omega⟩,fun x c _=>⟨fun h=> ?_,fun h=> ?_⟩⟩;have h:(x:Int)<(kC d).length:=ja h;have b:x<(kC d).length:=(by omega);refine⟨by omega,h,fun _=>⟨by show kK (((wn d).length:Int)-1);exact iZ6,fun a=> ?_,fun a=>⟨iZ6,x+1,⟨⟨by simp,tZ⟩,tZ⟩,⟨by show x+1<=(kC d).length;omega,fun j g=> ?_⟩,by show(kC d).length-(x+1)<(kC d).length-x;omega⟩⟩⟩;have a:bkH (wn d).length (nth (kC d) x)=true:=a;exact Kv (d:=d) (.inr (.inr (.inl (Kw b (by rw[YQ,a];rfl)))));have a:bkH (wn d).length (nth (kC d) x)=false:=a;by_cases e:j=x;subst e;show mj (wn d).length (nth (kC d) j)=true;rw[YQ,a];rfl;exact c.2 j (by omega);have h:¬(x:Int)<(kC d).length:=je h;have p:(kC d).all (mj (wn d).length)=true:=fZ (by omega) c.2;clear c h;refine⟨⟨0,⟨⟨rfl,tZ⟩,tZ⟩,jv _,fun j g=>by omega⟩,fun x c _=>⟨fun h=> ?_,fun h=> ?_⟩⟩;have h:(x:Int)<(qj d).length:=ja h;have b:x<(qj d).length:=(by omega);refine⟨by omega,h,fun a=> ?_,fun a=>⟨iZ6,x+1,⟨⟨by simp,tZ⟩,tZ⟩,⟨by show x+1<=(qj d).length;omega,fun j g=> ?_⟩,by show(qj d).length-(x+1)<(qj d).length-x;omega⟩⟩;have a:shH d (nth (qj d) x)=true:=a;exact Kv (d:=d) (.inr (.inr (.inr (Kw b (by rw[YR,a];rfl)))));have a:shH d (nth (qj d) x)=false:=a;by_cases e:j=x;subst e;show ml (kC d).length (kE (kG d)).length (nth (qj d) j)=true;rw[YR,a];rfl;exact c.2 j (by omega);have h:¬(x:Int)<(qj d).length:=je h;have q:(qj d).all (ml (kC d).length (kE (kG d)).length)=true:=fZ (by omega) c.2;show(true,())=(wK d,());rw[UM,k,r,p,q];rfl
theorem NA:wq PR 56 Np:=vN Nq Rp Tryz.func56 (kcC l8 (kcC Dq (kcC ED kcN))) koN
theorem Dr:wq PR 31 Nv:=vN Nw Ro Tryz.func31 (kcC xv (kcC Nn (kcC NA (kcC Nz kcN)))) koN
namespace U
def V8 (l:List ShD) (i n:Nat):Bool:=decide (Yi (nth l i)=1)&& !((l.take n).any (fun t=>decide (Lf t=Lf (nth l i))&&decide (oj t=oj (nth l i))&&y5 t (nth l i)))
def jcs (l:List ShD) (n:Nat):List ShD:=((List.range n).filter (fun i=>V8 l i l.length)).map (nth l)
def ol (l:List ShD) (n:Nat):Nat:=(List.range n).foldl (fun f i=>if y5 (nth l f) (nth l i)=true then i else f) 0
def yV (l:List ShD):Nat->List ShD×List ShD
 |0=>([],l)
 |n+1=>((yV l n).1++[nth (yV l n).2 (ol (yV l n).2 (yV l n).2.length)],(yV l n).2.take (ol (yV l n).2 (yV l n).2.length)++(yV l n).2.drop (ol (yV l n).2 (yV l n).2.length+1))
def E5 (d:DyD):List ShD:=jcs (E2 (qj d)) (E2 (qj d)).length
def jbk (d:DyD):List ShD:=(yV (E5 d) (E5 d).length).1
def jct (d:DyD) (n:Nat):List Int×List Int:=((jbk d).take n).foldl (Gl d) (List.replicate (kC d).length 0,[])
def Sp (d:DyD):List Int×List Int:=jct d (jbk d).length
def P1 (d:DyD):List Int:=if dm d=0 then(Sp d).1 else[]
end U
end Go.X
namespace Go.X
open U
theorem F8 (l:List ShD) (n:Nat):ol l (n+1)=if y5 (nth l (ol l n)) (nth l n)=true then n else ol l n:=by
 unfold ol;rw[za,jL];rfl
theorem A7 (l:List ShD):∀n,n<=l.length->0<l.length->ol l n<l.length
 |0,_,h=>h
 |n+1,a,h=>by
  have b:=A7 l n (by omega) h
  rw[F8]
  split<;>omega
theorem A8 (l:List ShD):∀n,n<=l.length->(yV l n).1.length=n/\(yV l n).2.length=l.length-n
 |0,_=>⟨rfl,rfl⟩
 |n+1,d=>by
  obtain⟨a,b⟩:=A8 l n (by omega)
  have c:=A7 (yV l n).2 _ (jj _) (by omega)
  refine⟨?_,?_⟩
  show((yV l n).1++[_]).length=_
  rw[jJ,a];rfl
  show((yV l n).2.take _++(yV l n).2.drop _).length=_
  rw[jJ,jX,z8]
  omega
theorem Xw {α:Type} [Inhabited α] {l:List α} {m:Nat} (h:m<l.length):(nth l m::(l.take m++l.drop (m+1))).Perm l:=by
 have e:l=l.take m++nth l m::l.drop (m+1):=by
  conv=>lhs;rw[<-zO m l]
  rw[ke h,L.wB h]
 conv=>rhs;rw[e]
 exact List.perm_middle.symm
theorem Kx (l:List ShD):∀n,n<=l.length->((yV l n).1++(yV l n).2).Perm l
 |0,_=>List.Perm.refl _
 |n+1,d=>by
  have b:=Kx l n (by omega)
  have c:=A8 l n (by omega)
  have a:=A7 (yV l n).2 _ (jj _) (by omega)
  refine List.Perm.trans ?_ b
  show((yV l n).1++[nth (yV l n).2 (ol (yV l n).2 (yV l n).2.length)]++_).Perm _
  rw[jI]
  exact List.Perm.append_left _ (Xw a)
theorem Xx {l:List ShD} {s:ShD} (h:s∈E2 l):s∈l:=by
 unfold E2 V3 at h;obtain⟨m,_,h⟩:=List.mem_flatMap.1 h;unfold Yj at h;obtain⟨i,hi,rfl⟩:=jT.1 h;exact L.kx (jC.1 (jO.1 hi).1)
open Go.Proofs
theorem UN {d:DyD} (h:dm d=0):LF d:=(yC ((aH d).trans h)).1
attribute [local irreducible] jbk jct iB U.on
end Go.X
namespace Go.X
open U
theorem mQ (c:CrD) (j:JbD) (i:Nat):(vo (c,j,eN c j,()) (nth (kE c) i)=0)↔gx c j (i:Int)=true:=by
 show Sa (Lh (nth (kE c) i) (Yg j)) (!qb (U.fd (nth (kE c) i)) (Yh j)) (!qb (U.cl (nth (kE c) i)) (i9 j))=0↔
  (!(Lh (nth (kE c) ((i:Int)).toNat) (Yg j))&&qb (U.fd (nth (kE c) ((i:Int)).toNat)) (Yh j)&&qb (U.cl (nth (kE c) ((i:Int)).toNat)) (i9 j))=true
 rw[ju];generalize Lh (nth (kE c) i) (Yg j)=x;generalize qb (U.fd (nth (kE c) i)) (Yh j)=y;generalize qb (U.cl (nth (kE c) i)) (i9 j)=z;cases x<;>cases y<;>cases z<;>decide
theorem jah {c:CrD} {j:JbD} (b:kV c=true) (d:w6 c j=true) (p:Nat):(p:Int)∈cI c j↔p<(kE c).length/\gx c j (p:Int)=true:=by
 have a:qB c j=0:=(by unfold qB;rw[b,d];rfl);unfold cI bY;rw[jd a,jT];refine⟨fun⟨i,hi,e⟩=> ?_,fun h=>⟨p,?_,rfl⟩⟩;have e:i=p:=(by omega);subst e;have:=jO.1 hi;exact⟨jC.1 this.1,(mQ c j i).1 (ja this.2)⟩;exact jO.2 ⟨jC.2 h.1,jK ((mQ c j p).2 h.2)⟩
theorem UO {l:List Int} (h:∀p∈l,0<=p/\p<8):∀n,n<=l.length->∀q,BT.has (iF l n) q=(l.take n).any (fun p=>decide (p.toNat=q))
 |0,_,q=>BT.tA q
 |n+1,c,q=>by
  have b:=UO h n (by omega) q
  have a:=pE h n (by omega)
  have d:=h _ (L.kx (l:=l) (i:=n) (by omega))
  rw[uy (by omega),Dj,BT.has_bor a.1 (BT.na (by omega)),b,BT.Bf,L.kQ (by omega),List.any_append]
  simp
theorem UP {l:List Int} (h:∀p∈l,0<=p/\p<8) (q:Nat):BT.has (PZ l) q=l.any (fun p=>decide (p.toNat=q)):=by
 have:=UO h l.length (jj _) q;rw[zu] at this;exact this
theorem Xy {d:DyD} {b:Nat} (a:b<(kC d).length):nth (vq d (kC d).length) b=PZ (cI (kG d) (y8 (nth (kC d) b))):=by
 unfold vq;rw[zu,L.Bg a]
theorem YT {d:DyD} (a:LF d) {b:Nat} (c:b<(kC d).length):w6 (kG d) (y8 (nth (kC d) b))=true:=
 j8.1 a.2.1 _ (L.kx c)
theorem jai {d:DyD} (g:LF d) {b p:Int} (m:aR d b) (n:Sn d p):decide (nQ (nth (vq d (kC d).length) b.toNat/2^p.toNat) 1=0)= !gx (kG d) (y8 (U.bk d b)) p:=by
 unfold aR at m;unfold Sn at n;have a:b.toNat<(kC d).length:=(by omega);have j:=fun q (c:q∈cI (kG d) (y8 (nth (kC d) b.toNat)))=>UE g.1 c
 have o:BT.q9 (PZ (cI (kG d) (y8 (nth (kC d) b.toNat)))):=(pE j _ (jj _)).1;have i:U.bk d b=nth (kC d) b.toNat:=rfl;rw[Xy a,BT.bit_num o,i];have k:=UP j p.toNat;have f:=jah g.1 (YT g a) p.toNat;have ep:((p.toNat:Nat):Int)=p:=(by omega);rw[ep] at f;have l:BT.has (PZ (cI (kG d) (y8 (nth (kC d) b.toNat)))) p.toNat=gx (kG d) (y8 (nth (kC d) b.toNat)) p:=by
  rw[k];cases h:gx (kG d) (y8 (nth (kC d) b.toNat)) p with
  |true=>exact ze.2 ⟨p,f.2 ⟨by omega,h⟩,by simp⟩
  |false=>
   refine zq.2 fun q c e=> ?_
   have e:q.toNat=p.toNat:=ja e;have:=j q c;have e:q=p:=(by omega);rw[e] at c;rw[(f.1 c).2] at h;cases h
 rw[l];cases gx (kG d) (y8 (nth (kC d) b.toNat)) p<;>rfl
theorem Ky {α:Type} [Inhabited α] {R:α->α->Prop} {l:List α}:(∀i,i<l.length->∀b∈l.take i,R b (nth l i))↔l.Pairwise R:=by
 rw[zC];refine⟨fun h i j hi a d=> ?_,fun h i hi b c=> ?_⟩;have:=h j a l[i] (zj.2 ⟨i,by omega,rfl⟩);rw[L.wB a] at this;exact this;obtain⟨k,hk,rfl⟩:=zj.1 c;rw[L.wB hi];exact h k i (by omega) hi (by omega)
theorem UQ {α:Type} [Inhabited α] {R:α->α->Prop} {l:List α}:(∀i,i<l.length->∀b∈l.drop (i+1),R (nth l i) b)↔l.Pairwise R:=by
 rw[zC];refine⟨fun h i j hi d c=> ?_,fun h i hi b a=> ?_⟩;have:=h i hi l[j] (List.mem_drop_iff_getElem.2 ⟨j-(i+1),by omega,by congr 1;omega⟩);rw[L.wB hi] at this;exact this;obtain⟨k,hk,rfl⟩:=List.mem_drop_iff_getElem.1 a;rw[L.wB hi];exact h i (i+1+k) hi (by omega) (by omega)
theorem l9 (d:DyD) (a b:Int):cH d a b=true↔(qx (U.bk d a)<qx (U.bk d b)\/(qx (U.bk d a)=qx (U.bk d b)/\a<b)):=decide_eq_true_iff
theorem ma (d:DyD) (a b:Int):cH d a b=false↔¬(qx (U.bk d a)<qx (U.bk d b)\/(qx (U.bk d a)=qx (U.bk d b)/\a<b)):=jE
theorem UR (d:DyD) (l:List Int):qZ (cH d) l where
 irrefl x _:=(ma d x x).2 (by omega)
 trans x y z _ _ _ a b:=by
  have a:=(l9 d x y).1 a;have b:=(l9 d y z).1 b;exact(l9 d x z).2 (by omega)
 total x y _ _ a b:=by
  have a:=(ma d x y).1 a;have b:=(ma d y x).1 b;omega
theorem Dt {d:DyD} {a b:Int} (h:a≠b) (c:cH d b a=false):cH d a b=true:=by
 have c:=(ma d b a).1 c;exact(l9 d a b).2 (by omega)
theorem Rq {d:DyD} {a b:Int} (c:cH d a b=true):cH d b a=false:=by
 have c:=(l9 d a b).1 c;exact(ma d b a).2 (by omega)
theorem sI {d:DyD} {a b:Int} (h:cH d a b=true):(mm d b a=decide (0<=bW d a b))/\(mm d a b=decide (0<=bW d a b)):=by
 unfold mm;rw[jd h,Rq h,jc (by simp)];exact⟨rfl,rfl⟩
theorem Xz {d:DyD} {a b:Int} (h:a≠b):mm d a b=mm d b a:=by
 cases c:cH d b a with
 |false=>have:=sI (Dt h c);rw[this.1,this.2]
 |true=>have:=sI c;rw[this.1,this.2]
def TgR (d:DyD) (a b:Int):Prop:=a≠b->mm d b a=true
theorem US {d:DyD} {l:List Int} (f:l.Nodup):jco d l=true↔l.Pairwise (TgR d):=by
 rw[<-Ky];unfold jco;rw[j8];have e:∀i,i<l.length->∀b∈l.take i,b≠nth l i:=(Ky (R:=fun a b=>a≠b)).2 f;refine⟨fun h i hi b c _=> ?_,fun h i hi=>j8.2 fun b c=> ?_⟩;exact j8.1 (h i (jC.2 hi)) b c;exact h i (jC.1 hi) b c (e i (jC.1 hi) b c)
theorem TgR.symm {d:DyD} {a b:Int} (h:TgR d a b):TgR d b a:=fun e=>(Xz (Ne.symm e)).trans (h (Ne.symm e))
theorem UT {d:DyD} {l l':List Int} (h:l.Perm l'):Oq d l=Oq d l':=by
 unfold Oq;exact List.Perm.foldl_eq' (h.map _) (fun x _ y _ z=>by omega) 0
theorem HF (d:DyD) (p:Int) {l:List Int} (a:l.Nodup):iB d p l=true↔(∀b∈l,gx (kG d) (y8 (U.bk d b)) p=true)/\l.Pairwise (TgR d)/\Oq d l<=jaZ d:=by
 unfold iB;rw[ji,ji,j8,US a,decide_eq_true_iff]
theorem F9 (d:DyD) (p:Int) {l l':List Int} (h:l.Perm l') (g:l.Nodup):iB d p l=iB d p l':=by
 have f:=h.nodup_iff.1 g;refine j7.2 ?_;rw[HF d p g,HF d p f,UT h,h.pairwise_iff (fun h=>TgR.symm h)];exact⟨fun⟨a,c⟩=>⟨fun b e=>a b (h.mem_iff.2 e),c⟩,fun⟨a,c⟩=>⟨fun b e=>a b (h.mem_iff.1 e),c⟩⟩
theorem XA (d:DyD) (may:List Int) (p:Int) (s:List Int):ja2 d may p s=true↔(∀b∈s,decide (nQ (nth may b.toNat/2^p.toNat) 1=0)=false)/\s.Pairwise (fun a b=>0<=bW d a b)/\Oq d s<=jaZ d:=by
 rw[<-UQ];unfold ja2;rw[ji,decide_eq_true_iff,j8,<-and_assoc];refine and_congr_left fun _=> ?_
 have e:∀i,Is d may p s i=true↔decide (nQ (nth may (nth s i).toNat/2^p.toNat) 1=0)=false/\∀b∈s.drop (i+1),0<=bW d (nth s i) b:=by
  intro i;unfold Is;rw[jP,jS,zq];refine and_congr_right fun _=>⟨fun h b c=> ?_,fun h b c=> ?_⟩
  have:=h b c;simp at this;omega;have:=h b c;simp;omega
 refine⟨fun h=>⟨fun b c=> ?_,fun i hi=>((e i).1 (h i (jC.2 hi))).2⟩,fun h i hi=>(e i).2 ⟨h.1 _ (L.kx (jC.1 hi)),h.2 i (jC.1 hi)⟩⟩;obtain⟨i,hi,rfl⟩:=L.mem_iff.1 c;exact((e i).1 (h i (jC.2 hi))).1
theorem jaj {d:DyD} {may:List Int} {p:Int} {l:List Int} (m:l.Nodup) (j:∀b∈l,decide (nQ (nth may b.toNat/2^p.toNat) 1=0)= !gx (kG d) (y8 (U.bk d b)) p):Ou d may p l=iB d p l:=by
 have f:(kH d l).Perm l:=wm l;have c:(kH d l).Nodup:=f.nodup_iff.2 m;have k:(kH d l).Pairwise (fun a b=>cH d b a=false):=bt (UR d l);rw[<-F9 d p f c];unfold Ou;refine j7.2 ?_;rw[XA,HF d p c];have i:=List.Pairwise.and k c;refine and_congr ⟨fun h b e=> ?_,fun h b e=> ?_⟩ (and_congr_left fun _=>⟨fun h=> ?_,fun h=> ?_⟩);have g:=h b e;rw[j b (f.mem_iff.1 e)] at g;simpa using g;rw[j b (f.mem_iff.1 e),h b e];rfl;refine(List.Pairwise.and i h).imp fun{a b} x _=> ?_
 rw[(sI (Dt x.1.2 x.1.1)).1];exact jK x.2;refine(List.Pairwise.and i h).imp fun{a b} x=> ?_
 have:=x.2 x.1.2;rw[(sI (Dt x.1.2 x.1.1)).1] at this;exact ja this
theorem mb (a b:ShD):y5 a b=true↔(IA b<IA a\/(IA a=IA b/\y9 b<y9 a)):=decide_eq_true_iff
theorem sJ (a b:ShD):y5 a b=false↔¬(IA b<IA a\/(IA a=IA b/\y9 b<y9 a)):=jE
theorem cE (a:ShD):y5 a a=false:=(sJ a a).2 (by omega)
theorem Ga {a b:ShD} (h:y5 a b=true):y5 b a=false:=by
 have h:=(mb a b).1 h;exact(sJ b a).2 (by omega)
theorem Du {a b c:ShD} (d:y5 a b=true) (e:y5 b c=true):y5 a c=true:=by
 have d:=(mb a b).1 d;have e:=(mb b c).1 e;exact(mb a c).2 (by omega)
theorem XB (a b:ShD):kM a b<0↔y5 b a=true:=by
 rw[mb];unfold kM;rw[ww,qM]
 split
 rename_i h;have c:¬IA a=IA b:=fun e=>h (ab.2 e)
 rw[Uj];omega;rename_i h;have d:IA a=IA b:=ab.1 (jQ.1 h);rw[Uj];omega
theorem jak {l:List ShD} (hi:∀a∈l,∀b∈l,y9 a=y9 b->a=b):qZ ja1 l where
 irrefl x _:=cE x
 trans x y z _ _ _ c d:=Du d c
 total x y hx hy c d:=by
  have c:=(sJ y x).1 c;have d:=(sJ x y).1 d;exact hi x hx y hy (by omega)
theorem UU {l:List ShD}:∀i,i<l.length->∃j,j<l.length/\nth l j=nth l i/\Iq l j=true:=by
 intro i
 induction i using Nat.strongRecOn with
 |_ i d=>
  intro hi;cases h:Iq l i with
  |true=>exact⟨i,hi,rfl,h⟩
  |false=>
   simp only[Iq,zr] at h;obtain⟨x,c,e⟩:=ze.1 h;obtain⟨k,hk,rfl⟩:=zj.1 c;have e:l[k]=nth l i:=ja e;obtain⟨j,b,a,e2⟩:=d k (by omega) (by omega);exact⟨j,b,by rw[a,L.wB (by omega)];exact e,e2⟩
theorem jal {l:List ShD} {s:ShD} (h:s∈l) (c:0<=y9 s) (d:y9 s<=99):s∈E2 l:=by
 obtain⟨i,hi,rfl⟩:=L.mem_iff.1 h;obtain⟨j,b,a,e2⟩:=UU i hi;unfold E2 V3;refine List.mem_flatMap.2 ⟨(y9 (nth l i)).toNat,jC.2 (by omega),?_⟩;unfold Yj;refine jT.2 ⟨j,jO.2 ⟨jC.2 b,?_⟩,a⟩;show(decide (y9 (nth l j)=(((y9 (nth l i)).toNat:Nat):Int))&&Iq l j)=true;rw[e2,a,Bool.and_true];exact jK (by omega)
theorem Py {l:List ShD} {n m:Nat} {s:ShD} (h:s∈Yj l n m):y9 s=(m:Int):=by
 unfold Yj at h;obtain⟨i,hi,rfl⟩:=jT.1 h;have a:=(jO.1 hi).2;rw[ji] at a;exact ja a.1
theorem Rr (l:List ShD):(E2 l).Nodup:=by
 unfold E2 V3;refine List.pairwise_flatMap.2 ⟨fun m _=> ?_,?_⟩;unfold Yj;refine zL.2 (List.Pairwise.imp_of_mem ?_ (List.Pairwise.filter _ List.pairwise_lt_range));intro i j hi c k e;have c:=jO.1 c;have d:=c.2;rw[ji] at d;have f:=d.2;have n:=jC.1 c.1;have o:((l.take j).any (fun x=>decide (x=nth l j)))=true:=
  ze.2 ⟨nth l i,zj.2 ⟨i,by omega,(L.wB (by omega)).symm⟩,jK e⟩
 unfold Iq at f;rw[o] at f;cases f;refine List.Pairwise.imp ?_ List.pairwise_lt_range;intro a b h x p y q e;have g:=Py p;have d:=Py q;rw[e] at g;omega
theorem Pz (t s:ShD):eR t=eR s↔Lf t=Lf s/\oj t=oj s:=by
 unfold eR;refine⟨fun h=>⟨jN (·.1) h,jN (·.2.1) h⟩,fun h=>by rw[h.1,h.2]⟩
theorem NB (l:List ShD) (s:ShD):Be l s=true↔Yi s=1/\∀t∈l,eR t=eR s->y5 t s=false:=by
 unfold Be;rw[ji,decide_eq_true_iff,jP,zq];refine and_congr_right fun _=>⟨fun h t a e=> ?_,fun h t a e=> ?_⟩
 have e:=(Pz t s).1 e;have:=h t a;rw[e.1,e.2,jK rfl,jK rfl] at this;simpa using this;rw[ji,ji,decide_eq_true_iff,decide_eq_true_iff] at e;rw[h t a ((Pz t s).2 e.1)] at e;exact absurd e.2 (by simp)
theorem UV (d:DyD):E5 d=(E2 (qj d)).filter (Be (E2 (qj d))):=by
 unfold E5;generalize E2 (qj d)=l;unfold jcs;have e:(fun i=>V8 l i l.length)=(Be l)∘(nth l):=by
  funext i;unfold V8;rw[zu];rfl
 rw[e];have:=List.filter_map (f:=nth l) (p:=Be l) (l:=List.range l.length);rw[<-this,L.range_map_nth]
theorem Kz (l:List ShD):∀n,∀i,i<n->y5 (nth l (ol l n)) (nth l i)=false
 |0,i,h=>absurd h (by omega)
 |n+1,i,h=>by
  have b:=Kz l n
  rw[F8]
  split
  rename_i a
  rcases Nat.lt_succ_iff_lt_or_eq.1 h with h|h
  cases c:y5 (nth l n) (nth l i) with
  |false=>rfl
  |true=>have:=Du a c;rw[b i h] at this;cases this
  subst h;exact cE _
  rename_i a
  rcases Nat.lt_succ_iff_lt_or_eq.1 h with h|h
  exact b i h
  subst h;simpa using a
theorem UW (l:List ShD):∀n,n<=l.length->(yV l n).1.Pairwise (fun a b=>y5 a b=false)/\∀a∈(yV l n).1,∀b∈(yV l n).2,y5 a b=false
 |0,_=>⟨List.Pairwise.nil,fun a d=>by cases d⟩
 |n+1,m=>by
  obtain⟨j,g⟩:=UW l n (by omega)
  have k:=A8 l n (by omega)
  have h:=A7 (yV l n).2 _ (jj _) (by omega)
  have e:=Kz (yV l n).2 (yV l n).2.length
  have f:∀b∈(yV l n).2.take (ol (yV l n).2 (yV l n).2.length)++(yV l n).2.drop (ol (yV l n).2 (yV l n).2.length+1),b∈(yV l n).2:=by
   intro b c;rcases js.1 c with c|c;exact zJ c;exact zU c
  refine⟨List.pairwise_append.2 ⟨j,List.pairwise_singleton _ _,fun a d b c=> ?_⟩,fun a d b c=> ?_⟩;simp at c;subst c;exact g a d _ (L.kx h);have c:=f b c;have d:a∈(yV l n).1++[nth (yV l n).2 (ol (yV l n).2 (yV l n).2.length)]:=d;rcases js.1 d with d|d;exact g a d b c;simp at d;subst d;obtain⟨i,hi,rfl⟩:=L.mem_iff.1 c;exact e i hi
theorem jam (d:DyD):QH ja1 (jbk d):=(UW (E5 d) _ (jj _)).1
theorem PA (d:DyD):(jbk d).Perm (E5 d):=by
 have a:=Kx (E5 d) (E5 d).length (jj _);have b:=(A8 (E5 d) (E5 d).length (jj _)).2;have:(yV (E5 d) (E5 d).length).2=[]:=List.length_eq_zero_iff.1 (by omega);rw[this,j9] at a;exact a
theorem PB {l:List ShD} (i:l.Pairwise (fun a b=>y5 b a=true)):∀n,n<=l.length->∀s∈l.take n,(kY (Ty.dflt tSh) (kN tSt (eR s) (qg l n))=s↔∀t∈l.take n,eR t=eR s->y5 t s=false)
 |0,_,s,c=>by simp at c
 |n+1,k,s,c=>by
  have j:=PB i n (by omega)
  have g:(l.take (n+1)).Pairwise (fun a b=>y5 b a=true):=i.sublist (List.take_sublist _ _)
  rw[L.kQ (by omega)] at g c
  have f:∀t∈l.take n,y5 (nth l n) t=true:=fun t d=>(List.pairwise_append.1 g).2.2 t d _ (by simp)
  rw[Dm (by omega),L.kQ (by omega)]
  by_cases hk:eR s=eR (nth l n)
  rw[hk,M.pS]
  show nth l n=s↔_
  rcases js.1 c with c|c
  refine⟨fun e=> ?_,fun h=> ?_⟩
  have:=f s c
  rw[e,cE] at this;cases this
  have:=h (nth l n) (by simp) rfl
  rw[f s c] at this;cases this
  simp at c;subst c
  refine⟨fun _ t d _=> ?_,fun _=>rfl⟩
  rcases js.1 d with d|d
  exact Ga (f t d)
  simp at d;subst d;exact cE _
  rw[M.dl hk]
  have c:s∈l.take n:=by
   rcases js.1 c with c|c;exact c;simp at c;subst c;exact absurd rfl hk
  rw[j s c];refine⟨fun h t d e=> ?_,fun h t d=>h t (jh _ d)⟩;rcases js.1 d with d|d;exact h t d e;simp at d;subst d;exact absurd e.symm hk
theorem UX {d:DyD} (h:k8 d=0):(qq d).Pairwise (fun a b=>y5 b a=true):=by
 have f:=jdz h;have g:QH (ku tSh fun x=>(kM x.1 x.2.1,())) (qq d):=bt f;have e:∀s∈qq d,s∈wy (qj d):=fun s i=>(wm _).mem_iff.1 i
 refine List.Pairwise.imp_of_mem ?_ (List.Pairwise.and g (eg d));intro a b j k ⟨h1,h2⟩;cases c:ku tSh (fun x=>(kM x.1 x.2.1,())) a b with
 |false=>exact absurd (f.total a b (e a j) (e b k) c h1) h2
 |true=>
  have c:kM a b<0:=ja c;exact(XB a b).1 c
theorem KA {d:DyD} (h:k8 d=0) {s:ShD} (a:s∈qq d):vp (qg (qq d) (qq d).length) s=true↔Yi s=1/\∀t∈qq d,eR t=eR s->y5 t s=false:=by
 have:=PB (UX h) (qq d).length (jj _) s (by rw[zu];exact a);rw[zu] at this;rw[<-this];unfold vp;rw[jP,jS,zr,zr,decide_eq_true_iff,decide_eq_true_iff];exact and_comm
theorem UY {d:DyD} (h:wK d=true) {s:ShD} (a:s∈qj d):0<=y9 s/\y9 s<=99:=by
 have:=(ym h).2.2.2.2.2.2.2 _ a;unfold ml at this;have:=ja this;omega
def Wh (d:DyD):ShD->Bool:=vp (qg (qq d) (qq d).length)
theorem jbQ {d:DyD} (h:k8 d=0):(qq d).filter (Wh d)=jbk d:=by
 have j:=yC h;have f:∀s,s∈E2 (qj d)↔s∈qq d:=fun s=>⟨fun c=>fY.2 (Xx c),fun c=>by
  have c:=fY.1 c;have:=UY j.1.2.2 c;exact jal c this.1 this.2⟩
 have g:∀s,s∈(qq d).filter (Wh d)↔s∈jbk d:=by
  intro s;rw[(PA d).mem_iff,UV,jO,jO,f s];refine and_congr_right fun c=> ?_
  rw[NB];have:=KA h c;refine this.trans (and_congr_right fun _=>⟨fun h t i=>h t ((f t).1 i),fun h t i=>h t ((f t).2 i)⟩)
 have n:((qq d).filter (Wh d)).Nodup:=List.Pairwise.filter _ (eg d);have o:(jbk d).Nodup:=(PA d).nodup_iff.2 (by rw[UV];exact List.Pairwise.filter _ (Rr _));have m:=L.oq n o g;refine oZ (jak ?_) m ?_ (jam d);intro a k b l e;exact j.2 a (fY.1 (jO.1 k).1) b (fY.1 (jO.1 l).1) e;exact(List.Pairwise.filter _ (UX h)).imp fun x=>Ga x
structure EE (d:DyD) (x:List (List Int)×List Int) (y:List Int×List Int):Prop where
 ref:x.2=y.2
 len:y.1.length=(kC d).length
 set:∀b,b<(kC d).length->BT.q9 (nth y.1 b)
 bit:∀b,b<(kC d).length->∀p,BT.has (nth y.1 b) p=true↔p<(kE (kG d)).length/\(b:Int)∈nth x.1 p
theorem A9 {t:Int} (h:BT.q9 t) (p:Int):qb t p=BT.has t p.toNat:=BT.has_shr h p.toNat
theorem jbR {d:DyD} {x:List (List Int)×List Int} {y:List Int×List Int} (h:EE d x y) {p:Int} (j:Sn d p) (g:∀b∈nth x.1 p.toNat,aR d b) (n:Int):n∈U.on y.1 p↔n∈nth x.1 p.toNat:=by
 unfold Sn at j;unfold U.on jdj;rw[jT];refine⟨fun⟨i,hi,e⟩=> ?_,fun f=> ?_⟩;subst e;have hi:=jO.1 hi;have a:=jC.1 hi.1;rw[h.len] at a;have c:qb (nth y.1 i) p=true:=hi.2;rw[A9 (h.set i a)] at c;exact((h.bit i a p.toNat).1 c).2;have hk:=g n f;unfold aR at hk;have en:((n.toNat:Nat):Int)=n:=(by omega);refine⟨n.toNat,jO.2 ⟨jC.2 (by rw[h.len];omega),?_⟩,en⟩;show qb (nth y.1 n.toNat) p=true;rw[A9 (h.set _ (by omega))];exact(h.bit _ (by omega) _).2 ⟨by omega,by rw[en];exact f⟩
theorem XC (t:List Int) (p:Int):(U.on t p).Nodup:=by
 unfold U.on jdj;refine zL.2 ((List.Pairwise.filter _ List.pairwise_lt_range).imp ?_);intro a b c e;omega
theorem jan {d:DyD} {x:List (List Int)×List Int} {y:List Int×List Int} (h:EE d x y) {p:Int} (e:Sn d p) (c:(nth x.1 p.toNat).Nodup) (a:∀b∈nth x.1 p.toNat,aR d b):(nth x.1 p.toNat).Perm (U.on y.1 p):=
 L.oq c (XC _ _) (fun n=>(jbR h e a n).symm)
theorem jbS {d:DyD} (i:LF d) {x:List (List Int)×List Int} {y:List Int×List Int} (h:EE d x y) {p b:Int} (g:Sn d p) (e:(nth x.1 p.toNat++[b]).Nodup) (f:∀c∈nth x.1 p.toNat++[b],aR d c):
 Ou d (vq d (kC d).length) p (nth x.1 p.toNat++[b])=iB d p (U.on y.1 p++[b]):=by
 rw[jaj e (fun c a=>jai i (f c a) g)];exact F9 d p ((jan h g (zG.1 e).1 (fun c a=>f c (jh _ a))).append_right [b]) e
theorem jbT {d:DyD} {x:List (List Int)×List Int} {y:List Int×List Int} (h:EE d x y) (v:x.1.length=(kE (kG d)).length) (u:(kE (kG d)).length<=8) {p b:Int} (t:Sn d p) (s:aR d b) (i:b∉nth x.1 p.toNat):
 EE d (x.1.set p.toNat (nth x.1 p.toNat++[b]),x.2) (y.1.set b.toNat (nth y.1 b.toNat+2^p.toNat),y.2):=by
 unfold Sn at t;unfold aR at s;have r:((b.toNat:Nat):Int)=b:=(by omega);have g:b.toNat<y.1.length:=(by rw[h.len];omega);have n:p.toNat<x.1.length:=(by omega);have o:=h.set b.toNat (by omega);have m:BT.has (nth y.1 b.toNat) p.toNat=false:=by
  cases j:BT.has (nth y.1 b.toNat) p.toNat with
  |false=>rfl
  |true=>exact absurd (by have:=((h.bit _ (by omega) _).1 j).2;rw[r] at this;exact this) i
 have a:=BT.add_two o (p:=p.toNat) (by omega) m;have j:=BT.na (k:=p.toNat) (by omega);refine⟨h.ref,by show(y.1.set _ _).length=_;rw[zN];exact h.len,fun c l=> ?_,fun c l q=> ?_⟩;show BT.q9 (nth (y.1.set b.toNat (nth y.1 b.toNat+2^p.toNat)) c);rw[L.ye g]
 split
 rw[a];exact BT.bor_set o j;exact h.set c l;show BT.has (nth (y.1.set b.toNat (nth y.1 b.toNat+2^p.toNat)) c) q=true↔_/\(c:Int)∈nth (x.1.set p.toNat (nth x.1 p.toNat++[b])) q;rw[L.ye g,L.ye n];by_cases f:b.toNat=c;rw[jd f,a,BT.has_bor o j,BT.Bf,zy,decide_eq_true_iff,h.bit _ (by omega),<-f,r];by_cases e:p.toNat=q;rw[jd e];refine⟨fun _=>⟨by omega,by simp⟩,fun _=> .inr e⟩;rw[jc e];exact⟨fun h=>h.elim id (fun h=>absurd h e),.inl⟩;rw[jc f,h.bit c l];by_cases e:p.toNat=q;rw[jd e,js,<-e];refine and_congr_right fun _=>⟨.inl,fun h=>h.elim id (fun h=> ?_)⟩
 simp at h;omega;rw[jc e]
theorem XD (d:DyD):EE d (vC (LG d) (qq d) 0) (List.replicate (kC d).length 0,[]):=by
 have c:∀b,b<(kC d).length->nth (List.replicate (kC d).length (0:Int)) b=0:=fun b a=>L.ag a
 refine⟨rfl,jV,fun b a=> ?_,fun b a p=> ?_⟩;show BT.q9 (nth (List.replicate (kC d).length (0:Int)) b);rw[c b a];exact BT.D0;show BT.has (nth (List.replicate (kC d).length (0:Int)) b) p=true↔_/\(b:Int)∈nth (jbj d) p;rw[c b a,BT.tA];have f:ja3 (jbj d):=fun x g=>(List.mem_replicate.1 g).2
 have e:nth (jbj d) p=[]:=Pw f p;rw[e];simp
def UZ (d:DyD) (i:Nat):List Int×List Int:=(((qq d).take i).filter (Wh d)).foldl (Gl d) (List.replicate (kC d).length 0,[])
attribute [local irreducible] vC iB Ou U.on UZ qq Wh LG vq in
theorem XE {d:DyD} (h:k8 d=0) {i:Nat} (hi:i<(qq d).length) (ih:EE d (vC (LG d) (qq d) i) (UZ d i)) (_:cK (LG d) (qq d) i (vC (LG d) (qq d) i)) (hrd:U.rd (LG d)=d) (hml:mq (LG d)=vq d (kC d).length)
 (hx:(vC (LG d) (qq d) i).1.length=(kE (kG d)).length) (hdec:Wh d=vp (qg (qq d) (qq d).length)) (hft:UZ d (i+1)=if Wh d (nth (qq d) i)=true then Gl d (UZ d i) (nth (qq d) i) else UZ d i)
 (hnew:Wh d (nth (qq d) i)=true->(nth (vC (LG d) (qq d) i).1 (oj (nth (qq d) i)).toNat++[Lf (nth (qq d) i)]).Nodup/\∀b∈nth (vC (LG d) (qq d) i).1 (oj (nth (qq d) i)).toNat++[Lf (nth (qq d) i)],aR d b):
 EE d (vC (LG d) (qq d) (i+1)) (UZ d (i+1)):=by
 have hD:=(yC h).1
 have h8:(kE (kG d)).length<=8:=(wX hD.1).2.2.1
 have hsf:=A5 hD.2.2 (fY.1 (L.kx (l:=qq d) (i:=i) hi))
 rw[hft]
 cases hc:Wh d (nth (qq d) i) with
 |false=>
  rw[hdec] at hc
  rw[Px hi hc,jc (by simp)]
  exact ih
 |true=>
  have hn:=hnew hc
  have hcan:=jbS hD ih (p:=oj (nth (qq d) i)) (b:=Lf (nth (qq d) i)) hsf.1 hn.1 hn.2
  rw[hdec] at hc
  rw[jd rfl]
  unfold Gl
  cases hk:iB d (oj (nth (qq d) i)) (U.on (UZ d i).1 (oj (nth (qq d) i))++[Lf (nth (qq d) i)]) with
  |true=>
   rw[hk] at hcan
   rw[UB hi hc (by rw[hrd,hml];exact hcan),jd rfl]
   refine jbT ih hx h8 hsf.1 hsf.2 (fun hin=> ?_)
   exact(zG.1 hn.1).2.2 _ hin _ (by simp) rfl
  |false=>
   rw[hk] at hcan
   rw[YN hi hc (by rw[hrd,hml];exact hcan),jc (by simp)]
   exact⟨jN (·++[y9 (nth (qq d) i)]) ih.ref,ih.len,ih.set,ih.bit⟩
theorem U0 {d:DyD} (h:k8 d=0):∀i,i<=(qq d).length->EE d (vC (LG d) (qq d) i) (UZ d i)
 |0,_=>XD d
 |i+1,hi=>by
  have k:=U0 h i (by omega)
  obtain⟨⟨_,m⟩,⟨j,b⟩,c⟩:=UF h
  have f:=(yC h).1
  have a:=Ni (r:=LG d) (l:=qq d) f.2.2 (fun s e=>fY.1 e) (eg d) j b c i (by omega)
  refine XE h hi k a rfl rfl a.1 rfl ?_ fun g=> ?_
  unfold UZ
  rw[L.filter_take (p:=Wh d) (l:=qq d) (i:=i) hi,jL]
  split<;>rfl
  have:=Uy (r:=LG d) (l:=qq d) f.2.2 (fun s e=>fY.1 e) (eg d) hi a g
  exact⟨this.1,this.2.1⟩
theorem XF {d:DyD} (h:k8 d=0):UZ d (qq d).length=Sp d:=by
 unfold UZ Sp jct;rw[zu,zu,jbQ h]
theorem Dv {d:DyD} (h:k8 d=0):EE d (aL (So d),(vC (LG d) (qq d) (qq d).length).2) (Sp d):=by
 have:=U0 h _ (jj _);rw[XF h] at this;exact⟨this.ref,this.len,this.set,this.bit⟩
theorem PC (on:List (List Int)) (b:Int):∀n,n<=60->BT.q9 (gW on b n)/\∀q,BT.has (gW on b n) q=true↔q<n/\b∈nth on q
 |0,_=>⟨BT.D0,fun q=>by
  have:gW on b 0=0:=rfl
  rw[this,BT.tA];simp⟩
 |n+1,m=>by
  obtain⟨f,i⟩:=PC on b n (by omega)
  have g:=BT.na (k:=n) (by omega)
  have a:(nth on n).any (fun x=>decide (x=b))=true↔b∈nth on n:=by
   rw[ze];exact⟨fun⟨x,l,e⟩=>(ja e)▸l,fun j=>⟨b,j,jK rfl⟩⟩
  rw[Di]
  split
  rename_i c;have c:=a.1 c;rw[Dj];refine⟨BT.bor_set f g,fun q=> ?_⟩;rw[BT.has_bor f g,BT.Bf,zy,decide_eq_true_iff,i];refine⟨fun h=>h.elim (fun h=>⟨by omega,h.2⟩) (fun h=>by subst h;exact⟨by omega,c⟩),fun h=> ?_⟩;by_cases d:q=n;exact .inr d.symm;exact .inl ⟨by omega,h.2⟩;rename_i c;refine⟨f,fun q=> ?_⟩;rw[i];refine⟨fun h=>⟨by omega,h.2⟩,fun h=>⟨?_,h.2⟩⟩;by_cases d:q=n;subst d;exact absurd (a.2 h.2) c;omega
theorem U1 {d:DyD} (h:k8 d=0) {b:Nat} (a:b<(kC d).length):de (aL (So d)) (b:Int)=nth (Sp d).1 b:=by
 have f:=Dv h;have c:=UG h;have g:=PC (aL (So d)) (b:Int) (aL (So d)).length c.len60;refine BT.ext g.1 (f.set b a) fun p=>j7.2 ?_
 have e:=(g.2 p).trans (f.bit b a p|>.trans (by rw[<-c.len])).symm;exact e
theorem jbU {d:DyD} (h:k8 d=0):gA d (kC d).length=(Sp d).1:=by
 have b:=Dv h;have a:(gA d (kC d).length).length=(kC d).length:=(by unfold gA;simp);refine L.ext_nth (by rw[a];exact b.len.symm) fun i hi=> ?_
 rw[a] at hi;unfold gA;rw[L.Bg (by simpa using hi)];have:nth (List.range (kC d).length) i=i:=(by rw[L.wB (by simpa using hi)];simp);rw[this];exact U1 h hi
theorem NC (d:DyD):wZ d=if dm d=0 then(Sp d).1 else[]:=by
 unfold wZ;rw[aH]
 split
 rename_i h;exact jbU ((aH d).trans h);rfl
end Go.X
namespace Go.X
open U
open Go.Proofs
attribute [local irreducible] yV ol jcs E2 E5 jbk V8
end Go.X
namespace Go.X
open U
open Go.Proofs
namespace U
def jdF (d:DyD) (t:List Int) (b:Nat):Bool:=tu (kG d) (y8 (nth (kC d) b)) (nth t b)
def P2 (d:DyD) (t:List Int) (n:Nat):List Int:=((List.range n).filter (jdF d t)).map (fun(b:Nat)=>(b:Int))
def jcN (d:DyD):List Int:=if dm d=0 then P2 d (P1 d) (P1 d).length else[]
end U
theorem jao {d:DyD} (h:dm d=0):(Sp d).1.length=(kC d).length:=(Dv ((aH d).trans h)).len
theorem jap {d:DyD} (h:dm d=0) {b:Nat} (a:b<(kC d).length):jcM (nth (Sp d).1 b):=by
 have c:=Dv ((aH d).trans h);have i:(kE (kG d)).length<=8:=(wX (UN h).1).2.2.1;have e:=c.set b a;have f:=BT.lt_of_has (k:=8) e (fun p g=>by have:=((c.bit b a p).1 g).1;omega);exact⟨e.1,f⟩
theorem PE {d:DyD} (h:dm d=0):P1 d=(Sp d).1:=jd h
theorem uA {d:DyD} (h:dm d=0):(P1 d).length=(kC d).length:=by rw[PE h];exact jao h
section
attribute [local irreducible] Sp dm
end
section
attribute [local irreducible] P2 P1 dm tu
end
section
attribute [local irreducible] iB U.on qb LF
end
section
attribute [local irreducible] P1 dm qb
end
end Go.X
namespace Go.X
open U
open Go.Proofs
section
attribute [local irreducible] P1 dm tu jcM
end
end Go.X
namespace Go.X
open U
open Go.Proofs
theorem Dw (n m:Nat):n|||m=0↔n=0/\m=0:=by
 constructor;intro h;constructor;refine kh fun i=> ?_
 have:=jN (fun z=>Nat.testBit z i) h;simp only[Nat.testBit_or,Nat.zero_testBit,jS] at this;rw[this.1,Nat.zero_testBit];refine kh fun i=> ?_
 have:=jN (fun z=>Nat.testBit z i) h;simp only[Nat.testBit_or,Nat.zero_testBit,jS] at this;rw[this.2,Nat.zero_testBit];rintro⟨rfl,rfl⟩;rfl
theorem PF {a b:Int} (c:0<=a/\a<64) (d:0<=b/\b<64):uor a b=0↔a=0/\b=0:=by
 obtain⟨n,rfl⟩:∃n:Nat,a=(n:Int):=⟨a.toNat,by omega⟩;obtain⟨m,rfl⟩:∃m:Nat,b=(m:Int):=⟨b.toNat,by omega⟩;rw[BT.uor_nat (by omega) (by omega)];have:=Dw n m;omega
theorem XG {a b:Int} (c:0<=a/\a<64) (d:0<=b/\b<64):bor a b=0↔a=0/\b=0:=by
 obtain⟨n,rfl⟩:∃n:Nat,a=(n:Int):=⟨a.toNat,by omega⟩;obtain⟨m,rfl⟩:∃m:Nat,b=(m:Int):=⟨b.toNat,by omega⟩;rw[BT.bor_nat (by omega) (by omega)];have:=Dw n m;omega
theorem XH {a b:Int} (c:0<=a/\a<64) (d:0<=b/\b<64):0<=bor a b/\bor a b<64:=by
 obtain⟨n,rfl⟩:∃n:Nat,a=(n:Int):=⟨a.toNat,by omega⟩;obtain⟨m,rfl⟩:∃m:Nat,b=(m:Int):=⟨b.toNat,by omega⟩;rw[BT.bor_nat (by omega) (by omega)];have:n|||m<2^6:=Nat.or_lt_two_pow (by omega) (by omega);omega
theorem Dx {b:Bool} {o k:Int} (h:0<=o/\o<64) (hk:0<k/\k<64):E3 b o k=0↔b=false/\o=0:=by
 unfold E3;cases b with
 |false=>rw[jc (by simp)];simp
 |true=>
  rw[jd rfl,PF h ⟨by omega,by omega⟩];refine⟨fun h=>absurd h.2 (by omega),fun h=>absurd h.1 (by simp)⟩
theorem mR {b:Bool} {o k:Int} (h:0<=o/\o<64) (hk:0<k/\k<64):Y5 b o k=0↔b=false/\o=0:=by
 unfold Y5;cases b with
 |false=>rw[jc (by simp)];simp
 |true=>
  rw[jd rfl,XG h ⟨by omega,by omega⟩];refine⟨fun h=>absurd h.2 (by omega),fun h=>absurd h.1 (by simp)⟩
theorem KB {b:Bool} {o k:Int} (h:0<=o/\o<64) (hk:0<k/\k<64):0<=Y5 b o k/\Y5 b o k<64:=by
 unfold Y5
 split
 exact XH h ⟨by omega,hk.2⟩;exact h
theorem KC (t:TkD):∀(q:List (Int×PeD×Unit)) (o:Int),(0<=o/\o<64)->(ck t o q=0↔o=0/\∀x∈q,vo t x.2.1=0)
 |[],o,_=>by
  show o=0↔_
  simp
 |x::q,o,h=>by
  have b:=CT t x.2.1
  have a:=KC t q (uor o (vo t x.2.1)) (Uf h ⟨by omega,by omega⟩)
  show ck t (uor o (vo t x.2.1)) q=0↔_
  rw[a,PF h ⟨by omega,by omega⟩]
  simp only[jk,forall_eq_or_imp,and_assoc]
theorem XI {t:Int} (h:BT.q9 t) (p:Int):th t p=BT.has t p.toNat:=BT.has_ushr h p.toNat
theorem YU {t:Int} (h:BT.q9 t) (p:Int):th t p=qb t p:=(XI h p).trans (A9 h p).symm
theorem mS {t:TkD} {s:Int} (b:BT.q9 s) {x:Int×PeD×Unit}:x∈xA t s↔∃i:Nat,i<(kE (U.tc t)).length/\qb s (i:Int)=true/\x=((i:Int),nth (kE (U.tc t)) i,()):=by
 unfold xA yn;rw[jT];refine⟨fun⟨i,hi,e⟩=> ?_,fun⟨i,c,a,e⟩=>⟨i,jO.2 ⟨jC.2 c,?_⟩,e.symm⟩⟩;have hi:=jO.1 hi;have a:th s (i:Int)=true:=hi.2;exact⟨i,jC.1 hi.1,(YU b _)▸a,e.symm⟩;show th s (i:Int)=true;rw[YU b];exact a
theorem uB (c:CrD) (j:JbD) (t:Int):∀n,(0<=(AP c j t n).1/\(AP c j t n).1<64)/\((AP c j t n).1=0↔∀i:Nat,i<n->qb t (i:Int)=true->gx c j (i:Int)=true)/\
 ((AP c j t n).2=true↔∃i:Nat,i<n/\qb t (i:Int)=true/\jcn (nth (kE c) i)=true)
 |0=>⟨by show(0:Int)<=0/\(0:Int)<64;omega,⟨fun _ i h=>absurd h (by omega),fun _=>rfl⟩,⟨fun h=>(by cases h),fun⟨i,h,_⟩=>absurd h (by omega)⟩⟩
 |n+1=>by
  obtain⟨l,o,p⟩:=uB c j t n
  cases g:qb t (n:Int) with
  |false=>
   rw[UL g]
   refine⟨l,o.trans ⟨fun h i hi a=> ?_,fun h i hi=>h i (by omega)⟩,p.trans ⟨fun⟨i,hi,a⟩=>⟨i,by omega,a⟩,fun⟨i,hi,d,f⟩=>⟨i,?_,d,f⟩⟩⟩
   by_cases e:i=n
   subst e;rw[g] at a;cases a
   exact h i (by omega) a
   by_cases e:i=n
   subst e;rw[g] at d;cases d
   omega
  |true=>
   have e:AP c j t (n+1)=(Y5 (!qb (U.cl (nth (kE c) n)) (i9 j)) (Y5 (!qb (U.fd (nth (kE c) n)) (Yh j)) (Y5 (Lh (nth (kE c) n) (Yg j)) (AP c j t n).1 1) 2) 4,(AP c j t n).2||jcn (nth (kE c) n)):=by
    rw[Kr];unfold V7;rw[jd g]
   rw[e];have o1:=KB (b:=Lh (nth (kE c) n) (Yg j)) (k:=1) l (by omega);have o2:=KB (b:= !qb (U.fd (nth (kE c) n)) (Yh j)) (k:=2) o1 (by omega);have s:=KB (b:= !qb (U.cl (nth (kE c) n)) (i9 j)) (k:=4) o2 (by omega);refine⟨s,?_,?_⟩;show Y5 _ _ 4=0↔_;rw[mR o2 (by omega),mR o1 (by omega),mR l (by omega),o];have m:gx c j (n:Int)=(!(Lh (nth (kE c) n) (Yg j))&&qb (U.fd (nth (kE c) n)) (Yh j)&&qb (U.cl (nth (kE c) n)) (i9 j)):=by
    unfold gx;rw[ju]
   refine⟨fun⟨d,f,q,r⟩ i hi a=> ?_,fun h=> ?_⟩;by_cases e:i=n;subst e;rw[m];simp only[zr] at d f;rw[d,f,q];rfl;exact r i (by omega) a;have:=h n (by omega) g;rw[m,ji,ji,jP] at this;exact⟨by rw[this.2];rfl,by rw[this.1.2];rfl,this.1.1,fun i hi=>h i (by omega)⟩;show((AP c j t n).2||jcn (nth (kE c) n))=true↔_;rw[zy,p];refine⟨fun h=>h.elim (fun⟨i,hi,a⟩=>⟨i,by omega,a⟩) (fun h=>⟨n,by omega,g,h⟩),fun⟨i,hi,d,f⟩=> ?_⟩;by_cases e:i=n;subst e;exact .inr f;exact .inl ⟨i,by omega,d,f⟩
theorem XJ {c:CrD} {j:JbD} {t:Int} (d:BT.q9 t) (a b:Nat):LD (c,j,eN c j,()) t a b=U.J3 c t (Wi (eN c j)) a b:=by
 unfold LD U.J3 mn jcp;refine j7.2 ?_;rw[ze,ze];refine⟨fun⟨x,g,h⟩=> ?_,fun⟨i,hi,h⟩=> ?_⟩;obtain⟨i,e,f,rfl⟩:=(mS d).1 g;refine⟨i,jC.2 e,?_⟩;have h:Wi (eN c j)<=min (nth (U.lv (nth (kE c) i)) ((a:Int)).toNat) (nth (U.lv (nth (kE c) i)) ((b:Int)).toNat):=ja h;rw[f,jK (by omega:Wi (eN c j)<=nth (U.lv (nth (kE c) i)) ((a:Int)).toNat),jK (by omega:Wi (eN c j)<=nth (U.lv (nth (kE c) i)) ((b:Int)).toNat)];rfl;rw[ji,ji,decide_eq_true_iff,decide_eq_true_iff] at h;refine⟨((i:Int),nth (kE c) i,()),(mS d).2 ⟨i,jC.1 hi,h.1.1,rfl⟩,?_⟩;exact jK (show Wi (eN c j)<=min (nth (U.lv (nth (kE c) i)) ((a:Int)).toNat) (nth (U.lv (nth (kE c) i)) ((b:Int)).toNat) by have:=h.1.2;have:=h.2;omega)
theorem jaq (c:CrD) (t lev:Int) (a b:Nat):U.J3 c t lev a b=U.J3 c t lev b a:=by
 unfold U.J3 jcp;refine j7.2 ?_;rw[ze,ze];constructor<;>
 .rintro⟨i,hi,h⟩;refine⟨i,hi,?_⟩;rw[ji,ji] at h⊢;exact⟨⟨h.1.1,h.2⟩,h.1.2⟩
theorem jbV {c:CrD} {j:JbD} {t:Int} (_:kV c=true) (d:w6 c j=true) (f:BT.q9 t):nth (ik (c,j,eN c j,()) t) (Sl j).toNat<0↔nth (jdY c t (Wi (eN c j)) (Sl j)) (LC j).toNat<0:=by
 have h:=lQ d;have e:LD (c,j,eN c j,()) t=U.J3 c t (Wi (eN c j)):=(by funext a b;exact XJ f a b);show nth (jcq (LD (c,j,eN c j,()) t) (U.la c).toNat (LC j).toNat) (Sl j).toNat<0↔nth (AN (U.J3 c t (Wi (eN c j))) (U.la c).toNat (Sl j).toNat (U.la c).toNat) (LC j).toNat<0;rw[e];exact(Z2 (jaq c t _) (by omega) (by omega)).symm
theorem U2 {c:CrD} {j:JbD} {t:Int} (a:BT.q9 t):(∀x∈xA (c,j,eN c j,()) t,vo (c,j,eN c j,()) x.2.1=0)↔∀i:Nat,i<(kE c).length->qb t (i:Int)=true->gx c j (i:Int)=true:=by
 refine⟨fun h i hi e=>(mQ c j i).1 (h ((i:Int),nth (kE c) i,()) ((mS a).2 ⟨i,hi,e,rfl⟩)),fun h x f=> ?_⟩;obtain⟨i,b,d,rfl⟩:=(mS a).1 f;exact(mQ c j i).2 (h i b d)
theorem XK {c:CrD} {j:JbD} {t:Int} (d:BT.q9 t):eQ (xA (c,j,eN c j,()) t)=jdE c j t:=by
 refine j7.2 ?_;unfold jdE;rw[(uB c j t (kE c).length).2.2];unfold eQ;rw[ze];refine⟨fun⟨x,f,h⟩=> ?_,fun⟨i,a,b,e⟩=>⟨((i:Int),nth (kE c) i,()),(mS d).2 ⟨i,a,b,rfl⟩,e⟩⟩;obtain⟨i,a,b,rfl⟩:=(mS d).1 f;exact⟨i,a,b,h⟩
theorem ND {c:CrD} {j:JbD} {t:Int} (n:kV c=true) (o:w6 c j=true) (a:BT.q9 t):qS (c,j,eN c j,()) t=0↔jdZ c j t=0:=by
 have f:=uB c j t (kE c).length;have g:=MU (c,j,eN c j,()) (xA (c,j,eN c j,()) t) 0 (by omega);have i:=CU (b:=decide (BT.size t≠max (jbf j) (jbe (eN c j)))) (k:=8) g (by omega);have q:=CU (b:=(jdi (eN c j)&& !eQ (xA (c,j,eN c j,()) t))) (k:=16) i (by omega);have d:0<=jdD c j t/\jdD c j t<64:=f.1;have e:=KB (b:=decide (BT.size t≠max (jbf j) (jbe (eN c j)))) (k:=8) d (by omega);have l:=KB (b:=(jdi (eN c j)&& !jdE c j t)) (k:=16) e (by omega);have m:qS (c,j,eN c j,()) t=E3 (decide (nth (ik (c,j,eN c j,()) t) (Sl j).toNat<0)) (E3 (jdi (eN c j)&& !eQ (xA (c,j,eN c j,()) t)) (E3 (decide (BT.size t≠max (jbf j) (jbe (eN c j)))) (ck (c,j,eN c j,()) 0 (xA (c,j,eN c j,()) t)) 8) 16) 32:=rfl;have p:jdD c j t=0↔ck (c,j,eN c j,()) 0 (xA (c,j,eN c j,()) t)=0:=by
  rw[KC _ _ _ (by omega),U2 a];exact f.2.1.trans ⟨fun h=>⟨rfl,h⟩,fun h=>h.2⟩
 rw[m,Dx q (by omega),Dx i (by omega),Dx g (by omega)];unfold jdZ;rw[mR l (by omega),mR e (by omega),mR d (by omega),p,XK a,jE,jE,jbV n o a,jE]
theorem jar {d:DyD} (a:LF d) {b:Int} (k:aR d b) {t:Int} (e:0<=t) (n:t<2^(kE (kG d)).length):DW d b t=tu (kG d) (y8 (U.bk d b)) t:=by
 unfold aR at k;have h:w6 (kG d) (y8 (U.bk d b))=true:=YT a (b:=b.toNat) (by omega);have o:=(Ht a.1).2;have m:BT.q9 t:=(by unfold BT.q9;omega);have i:qB (kG d) (y8 (U.bk d b))=0:=(by unfold qB;rw[a.1,h];rfl);have j:Ir (kG d) t=true:=by
  unfold Ir kl;rw[jK e,jK (by omega)];rfl
 have l:aK (kG d) (y8 (U.bk d b)) t=0:=by
  unfold aK;rw[jc (by rw[i];simp),j,jd rfl]
 have c:=ND a.1 h m;unfold DW tu jbi;rw[l,jd rfl];refine j7.2 ?_;simp only[ji,decide_eq_true_iff,true_and];rw[c];constructor;rintro⟨f,g⟩;exact⟨by omega,f⟩;rintro⟨f,g⟩;exact⟨g,by omega⟩
theorem YV {d:DyD} (h:dm d=0) {b:Nat} (a:b<(kC d).length):0<=nth (Sp d).1 b/\nth (Sp d).1 b<2^(kE (kG d)).length:=by
 have c:=Dv ((aH d).trans h);have e:=c.set b a;exact⟨e.1,BT.lt_of_has e (fun p f=>((c.bit b a p).1 f).1)⟩
theorem NE (d:DyD):km d=jcN d:=by
 unfold km jcN;rw[aH];by_cases h:dm d=0;rw[jd h,jd h,uA h];unfold y6 P2;congr 1;refine List.filter_congr fun b a=> ?_
 have a:=jC.1 a;have hk:=(aH d).trans h;have c:=YV h a;show DW d (b:Int) (de (aL (So d)) (b:Int))=tu (kG d) (y8 (nth (kC d) b)) (nth (P1 d) b);rw[U1 hk a,PE h,jar (UN h) (by unfold aR;omega) c.1 c.2];rfl;rw[jc h,jc h]
end Go.X
