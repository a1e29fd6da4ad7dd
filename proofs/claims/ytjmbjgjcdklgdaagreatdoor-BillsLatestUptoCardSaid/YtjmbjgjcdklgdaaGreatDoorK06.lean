/-
  Part 6 of the road: a checked reading of bodies, and what the functions on it do (C1 PC1 PC2 PC3 PC4 C2 PC5 PC6 PC7 PC8 C3 PC9 SL PC10 S1 S2 S3 PC11 C4 PC12 PC13 PC14 S4 S5).
-/
import Derived.Test.YtjmbjgjcdklgdaaGreatDoorK05
namespace Go.X
open U
open Go.Proofs
namespace U
def vI (s:Int):Nat->Int
 |0=>s
 |j+1=>vI s j/2^1
def J3 (c:CrD) (t d:Int) (a b:Nat):Bool:=ir c t d (a:Int) (b:Int)
def mh (c:CrD) (t b a:Int):List Int:=w6 (J3 c t b) (la c).toNat a.toNat (la c).toNat
def Qk (c:Bool) (s b:Int):Int:=if c=true then bor s b else s
def OP (c:CrD) (j:JbD) (t:Int) (x:Int×Bool) (i:Nat):Int×Bool:=
 if wy t (i:Int)=true then(Qk (!wy (cl (nth (kz c) i)) (l8 j)) (Qk (!wy (fd (nth (kz c) i)) (OM j)) (Qk (bX (nth (kz c) i) (Xj j)) x.1 1) 2) 4,x.2||jbV (nth (kz c) i)) else x
def wM (c:CrD) (j:JbD) (t:Int) (n:Nat):Int×Bool:=(List.range n).foldl (OP c j t) (0,false)
def jea (c:CrD) (j:JbD) (t:Int):Int:=(wM c j t (kz c).length).1
def jeb (c:CrD) (j:JbD) (t:Int):Bool:=(wM c j t (kz c).length).2
def Tc (c:CrD) (j:JbD) (t:Int):Int:=
 Qk (decide (nth (mh c t (Tn (cv c j)) (Ly j)) (F6 j).toNat<0)) (Qk (jdD (cv c j)&& !jeb c j t) (Qk (decide (BT.size t≠max (Zg j) (jbW (cv c j)))) (jea c j t) 8) 16) 32
def nY (c:CrD) (j:JbD) (t:Int):Bool:=decide (0<t)&&decide (Tc c j t=0)
def Tq (t:Int):Prop:=0<=t/\t<256
end U
def J7:we:=⟨[.val .int,.val .int,.val .int],[.bool],false,fun _=>[],fun d=>(kl d.1 d.2.1 d.2.2.1,())⟩
def J8:Prop:=∀(d:Int×Int×Int×Unit),(decide (d.2.1<=d.1)&&decide (d.1<=d.2.2.1),())=(kl d.1 d.2.1 d.2.2.1,())
def VD:we:=⟨[.val .int,.val .int],[.bool],false,fun d=>[0<=d.2.1/\d.2.1<=63],fun d=>(wy d.1 d.2.1,())⟩
def VE:Prop:=∀(d:Int×Int×Unit),0<=d.2.1/\d.2.1<=63->0<=d.2.1/\d.2.1<=18446744073709551615/\0<=d.2.1/\d.2.1<=64/\(decide (iy (d.1/(2:Int)^d.2.1.toNat) (1:Int)=1),())=(wy d.1 d.2.1,())
def J9:we:=⟨[.val tCr],[.bool],false,fun _=>[],fun d=>(kG d.1,())⟩
def Ka:Ann:=fun r=>match r with
 |4=>some fun σ=>{X:=Nat,sl:=fun i=>[(3,.dat .int (i:Int))],ob:=fun _=>[],inv:=fun i=>i<=(kz (gb tCr σ 1)).length/\∀j:Nat,j<i->eC (U.la (gb tCr σ 1)) (nth (kz (gb tCr σ 1)) j)=true,mu:=fun i=>(kz (gb tCr σ 1)).length-i}
 |10=>some fun σ=>{X:=Nat,sl:=fun i=>[(5,.dat .int (i:Int))],ob:=fun _=>[],inv:=fun i=>i<=(U.lv (gb tPe σ 4)).length/\∀j:Nat,j<i->kl (nth (U.lv (gb tPe σ 4)) j) 0 5=true,mu:=fun i=>(U.lv (gb tPe σ 4)).length-i}
 |15=>some fun σ=>{X:=Nat,sl:=fun i=>[(6,.dat .int (i:Int))],ob:=fun _=>[],inv:=fun i=>i<=(qo (gb tPe σ 4)).length/\∀j:Nat,j<i->kl (nth (qo (gb tPe σ 4)) j) 0 99=true,mu:=fun i=>(qo (gb tPe σ 4)).length-i}
 |20=>some fun σ=>{X:=Nat,sl:=fun i=>[(7,.dat .int (i:Int))],ob:=fun _=>[],inv:=fun i=>i<=(vZ (gb tCr σ 1)).length/\∀j:Nat,j<i->eD (nth (vZ (gb tCr σ 1)) j)=true,mu:=fun i=>(vZ (gb tCr σ 1)).length-i}
 |_=>none
abbrev jeR (d:CrD×Unit)(x:Nat):=(nth d.1.2.1 (x:Int).toNat)
abbrev jgM (d:CrD×Unit)(x:Nat):=(↑(jeR d x).1.length:Int)
abbrev jhl (d:CrD×Unit)(x:Nat):=(↑(jeR d x).2.2.2.1.length:Int)
abbrev jiG (d:CrD×Unit)(x:Nat):=(decide ((jgM d x)≠d.1.1)|| !kl (jeR d x).2.1 (0:Int) (255:Int)|| !kl (jeR d x).2.2.1 (0:Int) (255:Int)||decide ((10:Int)<(jhl d x))|| !kl (jeR d x).q4.2.1 (0:Int) (1000:Int))
abbrev jgN (d:CrD×Unit):=(d.1.2.2.1.length:Int)
abbrev jfQ (d:CrD×Unit)(x:Nat):=(qo (jeR d x))
abbrev jgO (d:CrD×Unit):=(d.1.2.1.length:Int)
abbrev jiH (d:CrD×Unit):=(!kl d.1.1 (2:Int) (5:Int)||decide (8<(jgO d))||decide ((jgN d)≠4))
abbrev jhm (d:CrD×Unit)(x:Nat):=(nth d.1.2.2.1 (x:Int).toNat)
abbrev jiI (d:CrD×Unit)(x:Nat):=(!kl (jhm d x).1 (1:Int) (5:Int)|| !kl (jhm d x).2.1 (1:Int) (8:Int))
def Kb:Prop:=∀(d:CrD×Unit),((!!kl d.1.1 (2:Int) (5:Int))=true->d.1.2.1.length<4611686018427387904)->((!(!kl d.1.1 (2:Int) (5:Int)||decide (8<(jgO d))))=true->d.1.2.2.1.length<4611686018427387904)->((jiH d)=true->(false,())=(kG d.1,()))/\((jiH d)=false->(∃(x:Nat),((0=(x:Int)/\True)/\True)/\x<=(kz d.1).length/\∀(j:Nat),j<x->eC (U.la d.1) (nth (kz d.1) j)=true)/\∀(x:Nat),(x<=(kz d.1).length/\∀(j:Nat),j<x->eC (U.la d.1) (nth (kz d.1) j)=true)->d.1.2.1.length<4611686018427387904->(decide ((x:Int)<(jgO d))=true->0<=(x:Int)/\(x:Int)<(jgO d)/\((jeR d x).1.length<4611686018427387904->((!(decide ((jgM d x)≠d.1.1)|| !kl (jeR d x).2.1 (0:Int) (255:Int)|| !kl (jeR d x).2.2.1 (0:Int) (255:Int)))=true->(jeR d x).2.2.2.1.length<4611686018427387904)->((jiG d x)=true->(false,())=(kG d.1,()))/\((jiG d x)=false->(∃(b:Nat),((0=(b:Int)/\True)/\True)/\b<=(U.lv (jeR d x)).length/\∀(j:Nat),j<b->kl (nth (U.lv (jeR d x)) j) (0:Int) 5=true)/\∀(b:Nat),(b<=(U.lv (jeR d x)).length/\∀(j:Nat),j<b->kl (nth (U.lv (jeR d x)) j) (0:Int) 5=true)->(jeR d x).1.length<4611686018427387904->(decide ((b:Int)<(jgM d x))=true->0<=(b:Int)/\(b:Int)<(jgM d x)/\((!kl (nth (jeR d x).1 (b:Int).toNat) (0:Int) (5:Int))=true->(false,())=(kG d.1,()))/\((!kl (nth (jeR d x).1 (b:Int).toNat) (0:Int) (5:Int))=false->kH ((b:Int)+1)/\∃(c:Nat),(((b:Int)+1=(c:Int)/\True)/\True)/\(c<=(U.lv (jeR d x)).length/\∀(j:Nat),j<c->kl (nth (U.lv (jeR d x)) j) (0:Int) 5=true)/\(U.lv (jeR d x)).length-c<(U.lv (jeR d x)).length-b))/\(decide ((b:Int)<(jgM d x))=false->(∃(a:Nat),((0=(a:Int)/\True)/\True)/\a<=(jfQ d x).length/\∀(j:Nat),j<a->kl (nth (jfQ d x) j) (0:Int) 99=true)/\∀(a:Nat),(a<=(jfQ d x).length/\∀(j:Nat),j<a->kl (nth (jfQ d x) j) (0:Int) 99=true)->(jeR d x).2.2.2.1.length<4611686018427387904->(decide ((a:Int)<(jhl d x))=true->0<=(a:Int)/\(a:Int)<(jhl d x)/\((!kl (nth (jeR d x).2.2.2.1 (a:Int).toNat) (0:Int) (99:Int))=true->(false,())=(kG d.1,()))/\((!kl (nth (jeR d x).2.2.2.1 (a:Int).toNat) (0:Int) (99:Int))=false->kH ((a:Int)+1)/\∃(c:Nat),(((a:Int)+1=(c:Int)/\True)/\True)/\(c<=(jfQ d x).length/\∀(j:Nat),j<c->kl (nth (jfQ d x) j) (0:Int) 99=true)/\(jfQ d x).length-c<(jfQ d x).length-a))/\(decide ((a:Int)<(jhl d x))=false->kH ((x:Int)+1)/\∃(c:Nat),(((x:Int)+1=(c:Int)/\True)/\True)/\(c<=(kz d.1).length/\∀(j:Nat),j<c->eC (U.la d.1) (nth (kz d.1) j)=true)/\(kz d.1).length-c<(kz d.1).length-x)))))/\(decide ((x:Int)<(jgO d))=false->(∃(x:Nat),((0=(x:Int)/\True)/\True)/\x<=(vZ d.1).length/\∀(j:Nat),j<x->eD (nth (vZ d.1) j)=true)/\∀(x:Nat),(x<=(vZ d.1).length/\∀(j:Nat),j<x->eD (nth (vZ d.1) j)=true)->d.1.2.2.1.length<4611686018427387904->(decide ((x:Int)<(jgN d))=true->0<=(x:Int)/\(x:Int)<(jgN d)/\((!!kl (jhm d x).1 (1:Int) (5:Int))=true->0<=(x:Int))/\((!!kl (jhm d x).1 (1:Int) (5:Int))=true->(x:Int)<(jgN d))/\((jiI d x)=true->(false,())=(kG d.1,()))/\((jiI d x)=false->kH ((x:Int)+1)/\∃(c:Nat),(((x:Int)+1=(c:Int)/\True)/\True)/\(c<=(vZ d.1).length/\∀(j:Nat),j<c->eD (nth (vZ d.1) j)=true)/\(vZ d.1).length-c<(vZ d.1).length-x))/\(decide ((x:Int)<(jgN d))=false->(true,())=(kG d.1,()))))
def Ni:we:=⟨[.val tCr,.val tJb],[.bool],false,fun d=>[kG d.1=true],fun d=>(ww d.1 d.2.1,())⟩
def Nj:Prop:=∀(d:CrD×JbD×Unit),kG d.1=true->kH (d.1.1-1)/\(kl d.2.1.1 (0:Int) (d.1.1-1)=true->kH (d.1.1-1))/\(kl d.2.1.1 (0:Int) (d.1.1-1)&&kl d.2.1.2.1 (0:Int) (d.1.1-1)&&decide (d.2.1.1≠d.2.1.2.1)&&kl d.2.1.2.2.1 (0:Int) (99:Int)&&kl d.2.1.2.2.2.1 (0:Int) (7:Int)&&kl d.2.1.q4.1 (0:Int) (3:Int)&&kl d.2.1.q4.2.1 (1:Int) (8:Int),())=(ww d.1 d.2.1,())
def RJ:we:=⟨[.val tPe,.val .int],[.bool],false,fun _=>[],fun d=>(bX d.1 d.2.1,())⟩
def RK:Ann:=fun r=>match r with
 |2=>some fun σ=>{X:=Nat,sl:=fun i=>[(5,.dat .int (i:Int))],ob:=fun _=>[],inv:=fun i=>i<=(qo (gb tPe σ 2)).length/\∀j:Nat,j<i->nth (qo (gb tPe σ 2)) j≠gd .int σ 1,mu:=fun i=>(qo (gb tPe σ 2)).length-i}
 |_=>none
def RL:Prop:=∀(d:PeD×Int×Unit),(∃(x:Nat),((0=(x:Int)/\True)/\True)/\x<=(qo d.1).length/\∀(j:Nat),j<x->nth (qo d.1) j≠d.2.1)/\∀(x:Nat),(x<=(qo d.1).length/\∀(j:Nat),j<x->nth (qo d.1) j≠d.2.1)->d.1.2.2.2.1.length<4611686018427387904->(decide ((x:Int)<d.1.2.2.2.1.length)=true->0<=(x:Int)/\(x:Int)<d.1.2.2.2.1.length/\(decide (nth d.1.2.2.2.1 (x:Int).toNat=d.2.1)=true->(true,())=(bX d.1 d.2.1,()))/\(decide (nth d.1.2.2.2.1 (x:Int).toNat=d.2.1)=false->kH ((x:Int)+1)/\∃(a:Nat),(((x:Int)+1=(a:Int)/\True)/\True)/\(a<=(qo d.1).length/\∀(j:Nat),j<a->nth (qo d.1) j≠d.2.1)/\(qo d.1).length-a<(qo d.1).length-x))/\(decide ((x:Int)<d.1.2.2.2.1.length)=false->(false,())=(bX d.1 d.2.1,()))
def Hm:we:=⟨[.val tCr,.val tJb,.val .int],[.bool],false,fun d=>[0<=d.2.2.1/\d.2.2.1<((kz d.1).length:Int),ww d.1 d.2.1=true],fun d=>(wZ d.1 d.2.1 d.2.2.1,())⟩
abbrev jgq (d:CrD×JbD×Int×Unit):=(nth d.1.2.1 d.2.2.1.toNat)
def Hn:Prop:=∀(d:CrD×JbD×Int×Unit),0<=d.2.2.1/\d.2.2.1<(↑(kz d.1).length:Int)->ww d.1 d.2.1=true->0<=d.2.2.1/\d.2.2.1<(d.1.2.1.length:Int)/\((!bX (jgq d) d.2.1.2.2.1)=true->0<=d.2.1.2.2.2.1/\d.2.1.2.2.2.1<=63)/\((!bX (jgq d) d.2.1.2.2.1&&wy (jgq d).2.1 d.2.1.2.2.2.1)=true->0<=d.2.1.q4.1/\d.2.1.q4.1<=63)/\(!bX (jgq d) d.2.1.2.2.1&&wy (jgq d).2.1 d.2.1.2.2.2.1&&wy (jgq d).2.2.1 d.2.1.q4.1,())=(wZ d.1 d.2.1 d.2.2.1,())
def RM:we:=⟨[.val .int],[.int],false,fun d=>[BT.w4 d.1],fun d=>(BT.size d.1,())⟩
def RN:Ann:=fun r=>match r with
 |2=>some fun σ=>{X:=Nat,sl:=fun j=>[(0,.dat .int (vI (gd .int σ 0) j)),(3,.dat .int (BT.size (gd .int σ 0)-BT.size (vI (gd .int σ 0) j)))],ob:=fun _=>[],inv:=fun j=>BT.w4 (vI (gd .int σ 0) j),mu:=fun j=>(vI (gd .int σ 0) j).toNat}
 |_=>none
def RO:Prop:=∀(d:Int×Unit),BT.w4 d.1->(∃(x:Nat),((d.1=vI d.1 x/\0=BT.size d.1-BT.size (vI d.1 x)/\True)/\True)/\BT.w4 (vI d.1 x))/\∀(x:Nat),BT.w4 (vI d.1 x)->(decide (0<vI d.1 x)=true->kH (BT.size d.1-BT.size (vI d.1 x)+iy (vI d.1 x) (1:Int))/\(0:Int)<=1/\(1:Int)<=64/\∃(a:Nat),((vI d.1 x/(2:Int)^Int.toNat 1=vI d.1 a/\BT.size d.1-BT.size (vI d.1 x)+iy (vI d.1 x) 1=BT.size d.1-BT.size (vI d.1 a)/\True)/\True)/\BT.w4 (vI d.1 a)/\(vI d.1 a).toNat<(vI d.1 x).toNat)/\(decide (0<vI d.1 x)=false->(BT.size d.1-BT.size (vI d.1 x),())=(BT.size d.1,()))
def Nk:we:=⟨[.val tCr,.val .int,.val .int,.val .int,.val .int],[.bool],false,fun d=>[kG d.1=true,0<=d.2.2.2.1/\d.2.2.2.1<U.la d.1,0<=d.2.2.2.2.1/\d.2.2.2.2.1<U.la d.1],fun d=>(ir d.1 d.2.1 d.2.2.1 d.2.2.2.1 d.2.2.2.2.1,())⟩
def Nm:Ann:=fun r=>match r with
 |2=>some fun σ=>{X:=Nat,sl:=fun i=>[(11,.dat .int (i:Int))],ob:=fun _=>[],inv:=fun i=>i<=(kz (gb tCr σ 5)).length/\∀j:Nat,j<i->(wy (gd .int σ 1) (j:Int)&&decide (gd .int σ 2<=nth (U.lv (nth (kz (gb tCr σ 5)) j)) (gd .int σ 3).toNat)&&decide (gd .int σ 2<=nth (U.lv (nth (kz (gb tCr σ 5)) j)) (gd .int σ 4).toNat))=false,mu:=fun i=>(kz (gb tCr σ 5)).length-i}
 |_=>none
abbrev jh5 (d:CrD×Int×Int×Int×Int×Unit)(j:Nat):=(wy d.2.1 (j:Int)&&decide (d.2.2.1<=nth (U.lv (nth (kz d.1) j)) d.2.2.2.1.toNat)&&decide (d.2.2.1<=nth (U.lv (nth (kz d.1) j)) d.q4.1.toNat))
abbrev jiJ (d:CrD×Int×Int×Int×Int×Unit)(x:Nat):=(d.2.2.1<=nth (nth d.1.2.1 (x:Int).toNat).1 d.2.2.2.1.toNat)
abbrev jiK (d:CrD×Int×Int×Int×Int×Unit)(x:Nat):=(wy d.2.1 (x:Int)&&decide (jiJ d x)&&decide (d.2.2.1<=nth (nth d.1.2.1 (x:Int).toNat).1 d.q4.1.toNat))
abbrev jhn (d:CrD×Int×Int×Int×Int×Unit)(x:Nat):=(wy d.2.1 (x:Int)&&decide (jiJ d x))
def Nn:Prop:=∀(d:CrD×Int×Int×Int×Int×Unit),kG d.1=true->0<=d.2.2.2.1/\d.2.2.2.1<U.la d.1->0<=d.q4.1/\d.q4.1<U.la d.1->(∃(x:Nat),((0=(x:Int)/\True)/\True)/\x<=(kz d.1).length/\∀(j:Nat),j<x->(jh5 d j)=false)/\∀(x:Nat),(x<=(kz d.1).length/\∀(j:Nat),j<x->(jh5 d j)=false)->d.1.2.1.length<4611686018427387904->(decide ((x:Int)<d.1.2.1.length)=true->(0<=(x:Int)/\(x:Int)<=63)/\(wy d.2.1 (x:Int)=true->0<=(x:Int))/\(wy d.2.1 (x:Int)=true->(x:Int)<d.1.2.1.length)/\(wy d.2.1 (x:Int)=true->0<=d.2.2.2.1)/\(wy d.2.1 (x:Int)=true->d.2.2.2.1<(↑(nth d.1.2.1 (x:Int).toNat).1.length:Int))/\((jhn d x)=true->0<=(x:Int))/\((jhn d x)=true->(x:Int)<d.1.2.1.length)/\((jhn d x)=true->0<=d.q4.1)/\((jhn d x)=true->d.q4.1<(↑(nth d.1.2.1 (x:Int).toNat).1.length:Int))/\((jiK d x)=true->(true,())=(ir d.1 d.2.1 d.2.2.1 d.2.2.2.1 d.q4.1,()))/\((jiK d x)=false->kH ((x:Int)+1)/\∃(a:Nat),(((x:Int)+1=(a:Int)/\True)/\True)/\(a<=(kz d.1).length/\∀(j:Nat),j<a->(jh5 d j)=false)/\(kz d.1).length-a<(kz d.1).length-x))/\(decide ((x:Int)<d.1.2.1.length)=false->(false,())=(ir d.1 d.2.1 d.2.2.1 d.2.2.2.1 d.q4.1,()))
def VF:we:=⟨[.val tCr,.val .int,.val .int,.val .int],[.slice .int],false,fun d=>[kG d.1=true,0<=d.2.2.2.1/\d.2.2.2.1<U.la d.1],fun d=>(mh d.1 d.2.1 d.2.2.1 d.2.2.2.1,())⟩
def VG:Ann:=fun r=>match r with
 |3=>some fun σ=>{X:=Nat,sl:=fun i=>[(10,.dat .int (i:Int)),(9,.own 9 .int)],ob:=fun i=>[(9,some (.row 3 .int false .yes (List.replicate i (-1))))],inv:=fun i=>i<=(U.la (gb tCr σ 4)).toNat,mu:=fun i=>(U.la (gb tCr σ 4)).toNat-i}
 |8=>some fun σ=>{X:=Nat,sl:=fun i=>[(11,.dat .int (i:Int)),(9,.own 9 .int)],ob:=fun i=>[(9,some (.row 3 .int false .yes (w6 (U.J3 (gb tCr σ 4) (gd .int σ 1) (gd .int σ 2)) (U.la (gb tCr σ 4)).toNat (gd .int σ 3).toNat i)))],inv:=fun i=>i<=(U.la (gb tCr σ 4)).toNat,mu:=fun i=>(U.la (gb tCr σ 4)).toNat-i}
 |11=>some fun σ=>{X:=Nat,sl:=fun i=>[(12,.dat .int (i:Int)),(9,.own 9 .int)],ob:=fun i=>[(9,some (.row 3 .int false .yes (qZ (U.J3 (gb tCr σ 4) (gd .int σ 1) (gd .int σ 2)) (U.la (gb tCr σ 4)).toNat (gd .int σ 11).toNat (gr .int σ 9) i)))],inv:=fun i=>i<=(U.la (gb tCr σ 4)).toNat,mu:=fun i=>(U.la (gb tCr σ 4)).toNat-i}
 |14=>some fun σ=>{X:=Nat,sl:=fun i=>[(13,.dat .int (i:Int)),(9,.own 9 .int)],ob:=fun i=>[(9,some (.row 3 .int false .yes (vG (U.J3 (gb tCr σ 4) (gd .int σ 1) (gd .int σ 2)) (gd .int σ 11).toNat (gd .int σ 12).toNat (gr .int σ 9) i)))],inv:=fun i=>i<=(U.la (gb tCr σ 4)).toNat,mu:=fun i=>(U.la (gb tCr σ 4)).toNat-i}
 |_=>none
abbrev je4 (d:CrD×Int×Int×Int×Unit):=(U.J3 d.1 d.2.1 d.2.2.1)
abbrev jgP (d:CrD×Int×Int×Int×Unit)(x:Nat):=(w6 (je4 d) (U.la d.1).toNat d.2.2.2.1.toNat x)
abbrev jgr (d:CrD×Int×Int×Int×Unit)(x:Nat)(a:Nat):=(qZ (je4 d) (U.la d.1).toNat (x:Int).toNat (jgP d x) a)
abbrev jf7 (d:CrD×Int×Int×Int×Unit)(x:Nat)(a:Nat)(b:Nat):=(vG (je4 d) (x:Int).toNat (a:Int).toNat (jgr d x a) b)
abbrev jho (d:CrD×Int×Int×Int×Unit)(x:Nat)(a:Nat)(b:Nat):=(nth (jf7 d x a b) (a:Int).toNat=(x:Int))
abbrev jh6 (d:CrD×Int×Int×Int×Unit)(x:Nat)(b:Nat)(a:Nat):=(decide (jho d x b a)&&decide (nth (jf7 d x b a) (a:Int).toNat<0))
abbrev jiL (d:CrD×Int×Int×Int×Unit)(x:Nat)(b:Nat)(a:Nat):=(decide (jho d x b a)&&decide (nth (jf7 d x b a) (a:Int).toNat<0)&&ir d.1 d.2.1 d.2.2.1 (b:Int) (a:Int))
def VH:Prop:=∀(d:CrD×Int×Int×Int×Unit),kG d.1=true->0<=d.2.2.2.1/\d.2.2.2.1<U.la d.1->(∃(x:Nat),((0=(x:Int)/\True/\True)/\List.replicate x (-1:Int)=[]/\True)/\x<=(U.la d.1).toNat)/\∀(x:Nat),x<=(U.la d.1).toNat->(decide ((x:Int)<d.1.1)=true->((List.replicate x (-1:Int)).length+[(-1:Int)].length)*8<=140737488355328/\kH ((x:Int)+1)/\∃(c:Nat),(((x:Int)+1=(c:Int)/\True/\True)/\List.replicate x (-1:Int)++[(-1:Int)]=List.replicate c (-1:Int)/\True)/\c<=(U.la d.1).toNat/\(U.la d.1).toNat-c<(U.la d.1).toNat-x)/\(decide ((x:Int)<d.1.1)=false->0<=d.2.2.2.1/\d.2.2.2.1<(↑(List.replicate x (-1:Int)).length:Int)/\(∃(e:Nat),((0=(e:Int)/\True/\True)/\(List.replicate x (-1:Int)).set d.2.2.2.1.toNat 0=w6 (je4 d) (U.la d.1).toNat d.2.2.2.1.toNat e/\True)/\e<=(U.la d.1).toNat)/\∀(x:Nat),x<=(U.la d.1).toNat->(decide ((x:Int)<d.1.1)=true->(∃(a:Nat),((0=(a:Int)/\True/\True)/\w6 (je4 d) (U.la d.1).toNat d.2.2.2.1.toNat x=qZ (je4 d) (U.la d.1).toNat (x:Int).toNat (jgP d x) a/\True)/\a<=(U.la d.1).toNat)/\∀(a:Nat),a<=(U.la d.1).toNat->(decide ((a:Int)<d.1.1)=true->(∃(b:Nat),((0=(b:Int)/\True/\True)/\qZ (je4 d) (U.la d.1).toNat (x:Int).toNat (jgP d x) a=vG (je4 d) (x:Int).toNat (a:Int).toNat (jgr d x a) b/\True)/\b<=(U.la d.1).toNat)/\∀(b:Nat),b<=(U.la d.1).toNat->(decide ((b:Int)<d.1.1)=true->0<=(a:Int)/\(a:Int)<(jf7 d x a b).length/\(decide (jho d x a b)=true->0<=(b:Int))/\(decide (jho d x a b)=true->(b:Int)<(jf7 d x a b).length)/\((jh6 d x a b)=true->kG d.1=true)/\((jh6 d x a b)=true->0<=(a:Int)/\(a:Int)<U.la d.1)/\((jh6 d x a b)=true->0<=(b:Int)/\(b:Int)<U.la d.1)/\((jiL d x a b)=true->kH ((x:Int)+1)/\0<=(b:Int)/\(b:Int)<(jf7 d x a b).length/\kH ((b:Int)+1)/\∃(c:Nat),((True/\(b:Int)+1=(c:Int)/\True)/\(jf7 d x a b).set (b:Int).toNat ((x:Int)+1)=vG (je4 d) (x:Int).toNat (a:Int).toNat (jgr d x a) c/\True)/\c<=(U.la d.1).toNat/\(U.la d.1).toNat-c<(U.la d.1).toNat-b)/\((jiL d x a b)=false->kH ((b:Int)+1)/\∃(c:Nat),((True/\(b:Int)+1=(c:Int)/\True)/\vG (je4 d) (x:Int).toNat (a:Int).toNat (jgr d x a) b=vG (je4 d) (x:Int).toNat (a:Int).toNat (jgr d x a) c/\True)/\c<=(U.la d.1).toNat/\(U.la d.1).toNat-c<(U.la d.1).toNat-b))/\(decide ((b:Int)<d.1.1)=false->kH ((a:Int)+1)/\∃(c:Nat),(((a:Int)+1=(c:Int)/\True/\True)/\vG (je4 d) (x:Int).toNat (a:Int).toNat (jgr d x a) b=qZ (je4 d) (U.la d.1).toNat (x:Int).toNat (jgP d x) c/\True)/\c<=(U.la d.1).toNat/\(U.la d.1).toNat-c<(U.la d.1).toNat-a))/\(decide ((a:Int)<d.1.1)=false->kH ((x:Int)+1)/\∃(c:Nat),(((x:Int)+1=(c:Int)/\True/\True)/\qZ (je4 d) (U.la d.1).toNat (x:Int).toNat (jgP d x) a=w6 (je4 d) (U.la d.1).toNat d.2.2.2.1.toNat c/\True)/\c<=(U.la d.1).toNat/\(U.la d.1).toNat-c<(U.la d.1).toNat-x))/\(decide ((x:Int)<d.1.1)=false->(w6 (je4 d) (U.la d.1).toNat d.2.2.2.1.toNat x,())=(mh d.1 d.2.1 d.2.2.1 d.2.2.2.1,())))
def Kc:we:=⟨[.val tCr,.val tJb,.val .int],[.int],false,fun d=>[kG d.1=true,ww d.1 d.2.1=true,Tq d.2.2.1],fun d=>(Tc d.1 d.2.1 d.2.2.1,())⟩
def Kd:Ann:=fun r=>match r with
 |5=>some fun σ=>{X:=Nat,sl:=fun i=>[(10,.dat .int (i:Int)),(8,.dat .int (wM (gb tCr σ 3) (gb tJb σ 4) (gd .int σ 2) i).1),(9,.dat .bool (wM (gb tCr σ 3) (gb tJb σ 4) (gd .int σ 2) i).2)],ob:=fun _=>[],inv:=fun i=>i<=(kz (gb tCr σ 3)).length,mu:=fun i=>(kz (gb tCr σ 3)).length-i}
 |_=>none
abbrev jeP (d:CrD×JbD×Int×Unit)(x:Nat):=(wM d.1 d.2.1 d.2.2.1 x)
abbrev jgQ (d:CrD×JbD×Int×Unit)(x:Nat):=(nth d.1.2.1 (x:Int).toNat)
abbrev jeX (d:CrD×JbD×Int×Unit)(a:Nat):=(wM d.1 d.2.1 d.2.2.1 a)
abbrev jfR (d:CrD×JbD×Int×Unit)(x:Nat):=(!wy (jgQ d x).2.2.1 d.2.1.q4.1)
abbrev jfS (d:CrD×JbD×Int×Unit)(x:Nat):=((jeP d x).2||(jgQ d x).q4.1)
abbrev jf8 (d:CrD×JbD×Int×Unit):=(nth d.1.2.2.1 d.2.1.q4.1.toNat)
abbrev jgR (d:CrD×JbD×Int×Unit):=(mh d.1 d.2.2.1 (jf8 d).1 d.2.1.1)
abbrev jfT (d:CrD×JbD×Int×Unit):=(nth (jgR d) d.2.1.2.1.toNat<0)
abbrev jfU (d:CrD×JbD×Int×Unit):=(Tc d.1 d.2.1 d.2.2.1,())
abbrev jhp (d:CrD×JbD×Int×Unit):=(0<=d.2.1.q4.1/\d.2.1.q4.1<=63)
abbrev jhq (d:CrD×JbD×Int×Unit):=(0<=d.2.1.1/\d.2.1.1<U.la d.1)
abbrev jhr (d:CrD×JbD×Int×Unit)(x:Nat):=(!wy (jgQ d x).2.1 d.2.1.2.2.2.1)
def Ke:Prop:=∀(d:CrD×JbD×Int×Unit),kG d.1=true->ww d.1 d.2.1=true->Tq d.2.2.1->0<=d.2.1.q4.1/\d.2.1.q4.1<(d.1.2.2.1.length:Int)/\(∃(x:Nat),((0=(x:Int)/\0=(jeP d x).1/\false=(jeP d x).2/\True)/\True)/\x<=(kz d.1).length)/\∀(x:Nat),x<=(kz d.1).length->d.1.2.1.length<4611686018427387904->(decide ((x:Int)<d.1.2.1.length)=true->(0<=(x:Int)/\(x:Int)<=63)/\((!wy d.2.2.1 (x:Int))=true->kH ((x:Int)+1)/\∃(a:Nat),(((jeP d x).2=(jeX d a).2/\(jeP d x).1=(jeX d a).1/\(x:Int)+1=(a:Int)/\True)/\True)/\a<=(kz d.1).length/\(kz d.1).length-a<(kz d.1).length-x)/\((!wy d.2.2.1 (x:Int))=false->0<=(x:Int)/\(x:Int)<d.1.2.1.length/\(bX (jgQ d x) d.2.1.2.2.1=true->(0<=d.2.1.2.2.2.1/\d.2.1.2.2.2.1<=63)/\((jhr d x)=true->(jhp d)/\((jfR d x)=true->kH ((x:Int)+1)/\∃(a:Nat),(((x:Int)+1=(a:Int)/\(jfS d x)=(jeX d a).2/\bor (bor (bor (jeP d x).1 (1:Int)) (2:Int)) 4=(jeX d a).1/\True)/\True)/\a<=(kz d.1).length/\(kz d.1).length-a<(kz d.1).length-x)/\((jfR d x)=false->kH ((x:Int)+1)/\∃(a:Nat),(((x:Int)+1=(a:Int)/\(jfS d x)=(jeX d a).2/\bor (bor (jeP d x).1 (1:Int)) 2=(jeX d a).1/\True)/\True)/\a<=(kz d.1).length/\(kz d.1).length-a<(kz d.1).length-x))/\((jhr d x)=false->(jhp d)/\((jfR d x)=true->kH ((x:Int)+1)/\∃(a:Nat),(((x:Int)+1=(a:Int)/\(jfS d x)=(jeX d a).2/\bor (bor (jeP d x).1 (1:Int)) 4=(jeX d a).1/\True)/\True)/\a<=(kz d.1).length/\(kz d.1).length-a<(kz d.1).length-x)/\((jfR d x)=false->kH ((x:Int)+1)/\∃(a:Nat),(((x:Int)+1=(a:Int)/\(jfS d x)=(jeX d a).2/\bor (jeP d x).1 1=(jeX d a).1/\True)/\True)/\a<=(kz d.1).length/\(kz d.1).length-a<(kz d.1).length-x)))/\(bX (jgQ d x) d.2.1.2.2.1=false->(0<=d.2.1.2.2.2.1/\d.2.1.2.2.2.1<=63)/\((jhr d x)=true->(jhp d)/\((jfR d x)=true->kH ((x:Int)+1)/\∃(a:Nat),(((x:Int)+1=(a:Int)/\(jfS d x)=(jeX d a).2/\bor (bor (jeP d x).1 (2:Int)) 4=(jeX d a).1/\True)/\True)/\a<=(kz d.1).length/\(kz d.1).length-a<(kz d.1).length-x)/\((jfR d x)=false->kH ((x:Int)+1)/\∃(a:Nat),(((x:Int)+1=(a:Int)/\(jfS d x)=(jeX d a).2/\bor (jeP d x).1 2=(jeX d a).1/\True)/\True)/\a<=(kz d.1).length/\(kz d.1).length-a<(kz d.1).length-x))/\((jhr d x)=false->(jhp d)/\((jfR d x)=true->kH ((x:Int)+1)/\∃(a:Nat),(((x:Int)+1=(a:Int)/\(jfS d x)=(jeX d a).2/\bor (jeP d x).1 4=(jeX d a).1/\True)/\True)/\a<=(kz d.1).length/\(kz d.1).length-a<(kz d.1).length-x)/\((jfR d x)=false->kH ((x:Int)+1)/\∃(a:Nat),(((jeP d x).1=(jeX d a).1/\(x:Int)+1=(a:Int)/\(jfS d x)=(jeX d a).2/\True)/\True)/\a<=(kz d.1).length/\(kz d.1).length-a<(kz d.1).length-x)))))/\(decide ((x:Int)<d.1.2.1.length)=false->BT.w4 d.2.2.1/\(decide (BT.size d.2.2.1≠max d.2.1.q4.2.1 (jf8 d).2.1)=true->(((jf8 d).2.2.1&& !(jeP d x).2)=true->kG d.1=true/\(jhq d)/\0<=d.2.1.2.1/\d.2.1.2.1<(↑(jgR d).length:Int)/\(decide (jfT d)=true->(bor (bor (bor (jeP d x).1 (8:Int)) (16:Int)) (32:Int),())=(jfU d))/\(decide (jfT d)=false->(bor (bor (jeP d x).1 (8:Int)) (16:Int),())=(jfU d)))/\(((jf8 d).2.2.1&& !(jeP d x).2)=false->kG d.1=true/\(jhq d)/\0<=d.2.1.2.1/\d.2.1.2.1<(↑(jgR d).length:Int)/\(decide (jfT d)=true->(bor (bor (jeP d x).1 (8:Int)) (32:Int),())=(jfU d))/\(decide (jfT d)=false->(bor (jeP d x).1 (8:Int),())=(jfU d))))/\(decide (BT.size d.2.2.1≠max d.2.1.q4.2.1 (jf8 d).2.1)=false->(((jf8 d).2.2.1&& !(jeP d x).2)=true->kG d.1=true/\(jhq d)/\0<=d.2.1.2.1/\d.2.1.2.1<(↑(jgR d).length:Int)/\(decide (jfT d)=true->(bor (bor (jeP d x).1 (16:Int)) (32:Int),())=(jfU d))/\(decide (jfT d)=false->(bor (jeP d x).1 (16:Int),())=(jfU d)))/\(((jf8 d).2.2.1&& !(jeP d x).2)=false->kG d.1=true/\(jhq d)/\0<=d.2.1.2.1/\d.2.1.2.1<(↑(jgR d).length:Int)/\(decide (jfT d)=true->(bor (jeP d x).1 (32:Int),())=(jfU d))/\(decide (jfT d)=false->((jeP d x).1,())=(jfU d)))))
def RP:we:=⟨[.val tCr,.val tJb,.val .int],[.bool],false,fun d=>[kG d.1=true,ww d.1 d.2.1=true,Tq d.2.2.1],fun d=>(nY d.1 d.2.1 d.2.2.1,())⟩
def RQ:Prop:=∀(d:CrD×JbD×Int×Unit),kG d.1=true->ww d.1 d.2.1=true->Tq d.2.2.1->(decide (0<d.2.2.1)=true->kG d.1=true)/\(decide (0<d.2.2.1)=true->ww d.1 d.2.1=true)/\(decide (0<d.2.2.1)=true->Tq d.2.2.1)/\(decide (0<d.2.2.1)&&decide (Tc d.1 d.2.1 d.2.2.1=0),())=(nY d.1 d.2.1 d.2.2.1,())
theorem No:J8:=by
 rintro⟨n,a,b,⟨⟩⟩;rfl
theorem uY:wn PR 81 J7:=kY No Tryz.func81 kcN koN
theorem Ys:VE:=by
 rintro⟨s,n,⟨⟩⟩ ⟨a,b⟩;have a:0<=n:=a;have b:n<=63:=b;exact⟨a,by show n<=18446744073709551615;omega,a,by show n<=64;omega,rfl⟩
theorem sr:wn PR 24 VD:=kY Ys Tryz.func24 kcN koN
theorem Yt (c:CrD) (j:JbD):(kl (Ly j) 0 (U.la c-1)&&kl (F6 j) 0 (U.la c-1)&&decide (Ly j≠F6 j)&&kl (Xj j) 0 99&&kl (OM j) 0 7&&kl (l8 j) 0 3&&kl (Zg j) 1 8)=ww c j:=by
 unfold ww kl;rw[j0];simp only[ji,jm,ne_eq];constructor;rintro⟨⟨⟨⟨⟨⟨⟨f,g⟩,h,i⟩,k⟩,l,m⟩,n,o⟩,a,b⟩,d,e⟩;exact⟨f,g,h,i,k,l,m,n,o,a,b,d,e⟩;rintro⟨f,g,h,i,k,l,m,n,o,a,b,d,e⟩;exact⟨⟨⟨⟨⟨⟨⟨f,g⟩,h,i⟩,k⟩,l,m⟩,n,o⟩,a,b⟩,d,e⟩
theorem RR:Nj:=by
 unfold Nj Prod.q4;rintro⟨c,j,⟨⟩⟩ h;have h:kG c=true:=h;have d:=wo h;have a:kH (U.la c-1):=iZ6;refine⟨a,fun _=>a,?_⟩;exact jG (fun b=>(b,())) (Yt c j)
theorem Np:wn PR 55 Ni:=kY RR Tryz.func55 (kcC uY kcN) koN
theorem VI:RL:=by
 rintro⟨p,n,⟨⟩⟩;refine⟨⟨0,⟨⟨rfl,tZ⟩,tZ⟩,ju _,fun j d=>by omega⟩,fun x b c=>⟨fun h=> ?_,fun h=> ?_⟩⟩;have c:(qo p).length<4611686018427387904:=c;have h:(x:Int)<(qo p).length:=ja h;refine⟨by omega,h,fun a=> ?_,fun a=>⟨iZ6,x+1,⟨⟨by simp,tZ⟩,tZ⟩,⟨by show x+1<=(qo p).length;omega,fun j d=> ?_⟩,by show(qo p).length-(x+1)<(qo p).length-x;omega⟩⟩;have a:nth (qo p) x=n:=ja a;have:bX p n=true:=by
  unfold bX;rw[j9];exact⟨_,L.kB (l:=qo p) (i:=x) (by omega),by simpa using a⟩
 show(true,())=(bX p n,());rw[this];have a:¬nth (qo p) x=n:=jc a;by_cases e:j=x;subst e;exact a;exact b.2 j (by omega);have h:¬(x:Int)<(qo p).length:=jc h;have g:x<=(qo p).length:=b.1;have:bX p n=false:=by
  unfold bX;rw[ze];intro t f;obtain⟨i,hi,rfl⟩:=L.mem_iff.1 f;have:=b.2 i (by omega);have this:nth (qo p) i≠n:=this;simpa using this
 show(false,())=(bX p n,());rw[this]
theorem FU:wn PR 98 RJ:=qG RK VI Tryz.func98 kcN koN
theorem VJ {c:CrD} {j:JbD} (h:ww c j=true):(0<=Ly j/\Ly j<U.la c)/\(0<=F6 j/\F6 j<U.la c)/\(0<=OM j/\OM j<=7)/\(0<=l8 j/\l8 j<=3)/\1<=Zg j/\Zg j<=8:=by
 unfold ww at h;have:=ja h;omega
theorem Kf:Hn:=by
 unfold Hn jgq Prod.q4;rintro⟨c,j,p,⟨⟩⟩ ⟨b,d⟩ a;have a:ww c j=true:=a;obtain⟨_,_,f,k,_⟩:=VJ a;exact⟨b,d,fun _=>⟨f.1,by show OM j<=63;omega⟩,fun _=>⟨k.1,by show l8 j<=63;omega⟩,rfl⟩
theorem Ho:wn PR 134 Hm:=kY Kf Tryz.func134 (kcC FU (kcC sr kcN)) koN
theorem VK:RO:=by
 rintro⟨s,⟨⟩⟩ d;have d:BT.w4 s:=d;have e:=BT.size_le s;refine⟨⟨0,⟨⟨rfl,by show(0:Int)=BT.size s-BT.size s;omega,tZ⟩,tZ⟩,d⟩,fun x a=>⟨fun h=> ?_,fun h=> ?_⟩⟩;have h:0<vI s x:=ja h;have a:BT.w4 (vI s x):=a;have g:=BT.size_half a;have i:=BT.size_le (vI s x);have j:iy (vI s x) 1=(vI s x)%2:=by
  obtain⟨n,f,c⟩:=BT.nat_of a;rw[f,show(1:Int)=((1:Nat):Int) from rfl,BT.band_nat (BT.lt63 c) (by decide),Nat.and_one_is_mod];omega
 have b:vI s (x+1)=vI s x/2:=(by show vI s x/2^1=_;simp);unfold BT.w4 at a;refine⟨?_,by decide,by decide,x+1,⟨⟨rfl,?_,tZ⟩,tZ⟩,?_,?_⟩;show kH (BT.size s-BT.size (vI s x)+iy (vI s x) 1);exact iZ6;show BT.size s-BT.size (vI s x)+iy (vI s x) 1=BT.size s-BT.size (vI s (x+1));rw[b];omega;show BT.w4 (vI s (x+1));rw[b];unfold BT.w4;omega;show(vI s (x+1)).toNat<(vI s x).toNat;rw[b];omega;have h:¬0<vI s x:=jc h;have a:BT.w4 (vI s x):=a;unfold BT.w4 at a;have:vI s x=0:=(by omega);show(BT.size s-BT.size (vI s x),())=(BT.size s,());rw[this,BT.size_zero];simp
theorem RT:wn PR 99 RM:=qG RN VK Tryz.func99 kcN koN
theorem VL:RQ:=by
 rintro⟨c,j,t,⟨⟩⟩ a b d;exact⟨fun _=>a,fun _=>b,fun _=>d,rfl⟩
theorem jcL {c:CrD} (h:kG c=true) {i:Nat} (hi:i<(kz c).length):((U.lv (nth (kz c) i)).length:Int)=U.la c:=by
 have:=(wo h).2.2.2.2.1 _ (L.kB hi);unfold eC at this;simp only[ji,jm] at this;exact this.1.1
theorem RU:Nn:=by
 unfold Nn jhn jiK jiJ jh5 Prod.q4;rintro⟨c,t,lev,a,b,⟨⟩⟩ f g k;have f:kG c=true:=f;have g:0<=a/\a<U.la c:=g;have k:0<=b/\b<U.la c:=k;have n:=(wo f).2.2.1;refine⟨⟨0,⟨⟨rfl,tZ⟩,tZ⟩,ju _,fun j m=>by omega⟩,fun x l _=>⟨fun h=> ?_,fun h=> ?_⟩⟩;have h:(x:Int)<(kz c).length:=ja h;have o:=jcL f (i:=x) (by omega);refine⟨⟨by omega,by omega⟩,fun _=>by omega,fun _=>h,fun _=>g.1,fun _=> ?_,fun _=>by omega,fun _=>h,fun _=>k.1,fun _=> ?_,fun d=> ?_,fun d=>⟨iZ6,x+1,⟨⟨by simp,tZ⟩,tZ⟩,⟨by show x+1<=(kz c).length;omega,fun j m=> ?_⟩,by show(kz c).length-(x+1)<(kz c).length-x;omega⟩⟩;show a<((U.lv (nth (kz c) x)).length:Int);omega;show b<((U.lv (nth (kz c) x)).length:Int);omega;have d:(wy t (x:Int)&&decide (lev<=nth (U.lv (nth (kz c) x)) a.toNat)&&decide (lev<=nth (U.lv (nth (kz c) x)) b.toNat))=true:=d;have:ir c t lev a b=true:=by
  unfold ir;rw[j9];exact⟨x,jA.2 (by omega),d⟩
 show(true,())=(ir c t lev a b,());rw[this];by_cases e:j=x;subst e;exact d;exact l.2 j (by omega);have h:¬(x:Int)<(kz c).length:=jc h;have:ir c t lev a b=false:=by
  unfold ir;rw[ze];intro i hi;have hi:=jA.1 hi;have:=l.2 i (by omega);rw[zS];exact this
 show(false,())=(ir c t lev a b,());rw[this]
theorem Nq:wn PR 136 Nk:=qG Nm RU Tryz.func136 (kcC sr kcN) koN
theorem Nr (J:Nat->Nat->Bool) (r a:Nat) (out:List Int) (b:Nat):(mR J r a out b).length=out.length:=by
 unfold mR
 split
 rw[ki];rfl
theorem Kg (J:Nat->Nat->Bool) (r a:Nat) (out:List Int) (k:Nat):vG J r a out (k+1)=mR J r a (vG J r a out k) k:=by
 unfold vG;rw[zi,jU];rfl
theorem Hp (J:Nat->Nat->Bool) (r a:Nat) (out:List Int):∀k,(vG J r a out k).length=out.length
 |0=>rfl
 |k+1=>by rw[Kg,Nr,Hp J r a out k]
theorem Kh (J:Nat->Nat->Bool) (n r:Nat) (out:List Int) (k:Nat):qZ J n r out (k+1)=vG J r k (qZ J n r out k) n:=by
 unfold qZ;rw[zi,jU];rfl
theorem Hq (J:Nat->Nat->Bool) (n r:Nat) (out:List Int):∀k,(qZ J n r out k).length=out.length
 |0=>rfl
 |k+1=>by rw[Kh,Hp,Hq J n r out k]
theorem Ki (J:Nat->Nat->Bool) (n s:Nat) (k:Nat):w6 J n s (k+1)=qZ J n k (w6 J n s k) n:=by
 unfold w6;rw[zi,jU];rfl
theorem Hr (J:Nat->Nat->Bool) (n s:Nat):∀k,(w6 J n s k).length=n
 |0=>oO n s
 |k+1=>by rw[Ki,Hq,Hr J n s k]
theorem Yu:VH:=by
 unfold VH jiL jh6 jho jf7 jgr jgP je4;rintro⟨c,t,lev,s,⟨⟩⟩ j l;have j:kG c=true:=j;have l:0<=s/\s<U.la c:=l;have r:=wo j;obtain⟨J,u⟩:∃J,J=U.J3 c t lev:=⟨_,rfl⟩;refine⟨⟨0,⟨⟨rfl,tZ,tZ⟩,rfl,tZ⟩,ju _⟩,fun x i=>⟨fun h=> ?_,fun h=> ?_⟩⟩;have h:(x:Int)<U.la c:=ja h;refine⟨by simp only[zu,j7,zo];omega,iZ6,x+1,⟨⟨by simp,tZ,tZ⟩,?_,tZ⟩,by show x+1<=(U.la c).toNat;omega,by show(U.la c).toNat-(x+1)<(U.la c).toNat-x;omega⟩;exact List.replicate_succ'.symm;have h:¬(x:Int)<U.la c:=jc h;have i:x<=(U.la c).toNat:=i;have f:x=(U.la c).toNat:=(by omega);subst f;refine⟨l.1,by rw[zu];show s<(((U.la c).toNat:Nat):Int);omega,⟨0,⟨⟨rfl,tZ,tZ⟩,rfl,tZ⟩,ju _⟩,fun x i=>⟨fun h=>⟨⟨0,⟨⟨rfl,tZ,tZ⟩,rfl,tZ⟩,ju _⟩,fun y p=>⟨fun e=>⟨⟨0,⟨⟨rfl,tZ,tZ⟩,rfl,tZ⟩,ju _⟩,fun z q=>⟨fun g=> ?_,fun g=> ?_⟩⟩,fun e=> ?_⟩⟩,fun h=> ?_⟩⟩;have h:(x:Int)<U.la c:=ja h;have e:(y:Int)<U.la c:=ja e;have g:(z:Int)<U.la c:=ja g;have d:=Kg (U.J3 c t lev) x y (qZ (U.J3 c t lev) (U.la c).toNat x (w6 (U.J3 c t lev) (U.la c).toNat s.toNat x) y) z;have b:(vG (U.J3 c t lev) x y (qZ (U.J3 c t lev) (U.la c).toNat x (w6 (U.J3 c t lev) (U.la c).toNat s.toNat x) y) z).length=(U.la c).toNat:=(by rw[Hp,Hq,Hr]);have up:z+1<=(U.la c).toNat:=(by omega);have o:(U.la c).toNat-(z+1)<(U.la c).toNat-z:=(by omega);refine⟨by omega,by show(y:Int)<(vG (U.J3 c t lev) x y (qZ (U.J3 c t lev) (U.la c).toNat x (w6 (U.J3 c t lev) (U.la c).toNat s.toNat x) y) z).length;rw[b];omega,fun _=>by omega,fun _=>by show(z:Int)<(vG (U.J3 c t lev) x y (qZ (U.J3 c t lev) (U.la c).toNat x (w6 (U.J3 c t lev) (U.la c).toNat s.toNat x) y) z).length;rw[b];omega,fun _=>j,fun _=>⟨by omega,e⟩,fun _=>⟨by omega,g⟩,fun a=> ?_,fun a=> ?_⟩;have a:((decide (nth (vG (U.J3 c t lev) x y (qZ (U.J3 c t lev) (U.la c).toNat x (w6 (U.J3 c t lev) (U.la c).toNat s.toNat x) y) z) y=(x:Int))&&decide (nth (vG (U.J3 c t lev) x y (qZ (U.J3 c t lev) (U.la c).toNat x (w6 (U.J3 c t lev) (U.la c).toNat s.toNat x) y) z) z<0))&&U.J3 c t lev y z)=true:=a;simp only[ji,jm] at a;refine⟨iZ6,by omega,by show(z:Int)<(vG (U.J3 c t lev) x y (qZ (U.J3 c t lev) (U.la c).toNat x (w6 (U.J3 c t lev) (U.la c).toNat s.toNat x) y) z).length;rw[b];omega,iZ6,z+1,⟨⟨tZ,by simp,tZ⟩,?_,tZ⟩,up,o⟩;show(vG (U.J3 c t lev) x y (qZ (U.J3 c t lev) (U.la c).toNat x (w6 (U.J3 c t lev) (U.la c).toNat s.toNat x) y) z).set z ((x:Int)+1)=vG (U.J3 c t lev) x y (qZ (U.J3 c t lev) (U.la c).toNat x (w6 (U.J3 c t lev) (U.la c).toNat s.toNat x) y) (z+1);rw[d];unfold mR;rw[jh ⟨a.1.1,a.1.2,a.2⟩];have a:((decide (nth (vG (U.J3 c t lev) x y (qZ (U.J3 c t lev) (U.la c).toNat x (w6 (U.J3 c t lev) (U.la c).toNat s.toNat x) y) z) y=(x:Int))&&decide (nth (vG (U.J3 c t lev) x y (qZ (U.J3 c t lev) (U.la c).toNat x (w6 (U.J3 c t lev) (U.la c).toNat s.toNat x) y) z) z<0))&&U.J3 c t lev y z)=false:=a;refine⟨iZ6,z+1,⟨⟨tZ,by simp,tZ⟩,?_,tZ⟩,up,o⟩;show vG (U.J3 c t lev) x y (qZ (U.J3 c t lev) (U.la c).toNat x (w6 (U.J3 c t lev) (U.la c).toNat s.toNat x) y) z=vG (U.J3 c t lev) x y (qZ (U.J3 c t lev) (U.la c).toNat x (w6 (U.J3 c t lev) (U.la c).toNat s.toNat x) y) (z+1);rw[d];unfold mR;rw[jd (fun k=>by rw[jH k.1,jH k.2.1,k.2.2] at a;cases a)];have e:(y:Int)<U.la c:=ja e;have g:¬(z:Int)<U.la c:=jc g;have q:z<=(U.la c).toNat:=q;have n:z=(U.la c).toNat:=(by omega);subst n;refine⟨iZ6,y+1,⟨⟨by simp,tZ,tZ⟩,?_,tZ⟩,by show y+1<=(U.la c).toNat;omega,by show(U.la c).toNat-(y+1)<(U.la c).toNat-y;omega⟩;exact(Kh (U.J3 c t lev) (U.la c).toNat x (w6 (U.J3 c t lev) (U.la c).toNat s.toNat x) y).symm;have h:(x:Int)<U.la c:=ja h;have e:¬(y:Int)<U.la c:=jc e;have p:y<=(U.la c).toNat:=p;have m:y=(U.la c).toNat:=(by omega);subst m;refine⟨iZ6,x+1,⟨⟨by simp,tZ,tZ⟩,?_,tZ⟩,by show x+1<=(U.la c).toNat;omega,by show(U.la c).toNat-(x+1)<(U.la c).toNat-x;omega⟩;exact(Ki (U.J3 c t lev) (U.la c).toNat s.toNat x).symm;have h:¬(x:Int)<U.la c:=jc h;have i:x<=(U.la c).toNat:=i;have f:x=(U.la c).toNat:=(by omega);subst f;rfl
theorem VM:wn PR 100 VF:=qG VG Yu Tryz.func100 (kcC Nq kcN) koN
theorem CO (c:CrD) (j:JbD) (t:Int) (n:Nat):wM c j t (n+1)=OP c j t (wM c j t n) n:=by
 unfold wM;rw[zi,jU];rfl
theorem Kj {c:CrD} {j:JbD} {t:Int} {n:Nat} (h:wy t (n:Int)=false):wM c j t (n+1)=wM c j t n:=by
 rw[CO];unfold OP;rw[h,jd (by simp)]
theorem jbd {c:CrD} {j:JbD} {t:Int} {n:Nat} {a b d:Bool} (h:wy t (n:Int)=true) (e:bX (nth (kz c) n) (Xj j)=a) (f:(!wy (U.fd (nth (kz c) n)) (OM j))=b) (g:(!wy (U.cl (nth (kz c) n)) (l8 j))=d):
 wM c j t (n+1)=(Qk d (Qk b (Qk a (wM c j t n).1 1) 2) 4,(wM c j t n).2||jbV (nth (kz c) n)):=by
 rw[CO];unfold OP;rw[jh h,e,f,g]
theorem jcM {c:CrD} {j:JbD} {t:Int} {a b d:Bool} (e:decide (BT.size t≠max (Zg j) (jbW (cv c j)))=a) (f:(jdD (cv c j)&& !jeb c j t)=b) (g:decide (nth (mh c t (Tn (cv c j)) (Ly j)) (F6 j).toNat<0)=d):
 Tc c j t=Qk d (Qk b (Qk a (jea c j t) 8) 16) 32:=by
 unfold Tc;rw[e,f,g]
theorem Ns:Ke:=by
 unfold Ke jhr jhq jhp jfU jfT jgR jf8 jfS jfR jeX jgQ jeP Prod.q4;rintro⟨c,j,t,⟨⟩⟩ l s u;have l:kG c=true:=l;have s:ww c j=true:=s;have u:Tq t:=u;have A:=(wo l).2.2.1;have d:=(wo l).2.2.2.1;obtain⟨q,r,f,k,_⟩:=VJ s;have p:0<=OM j/\OM j<=63:=(by omega);have i:0<=l8 j/\l8 j<=63:=(by omega);have y:BT.w4 t:=(by unfold Tq at u;unfold BT.w4;omega);refine⟨k.1,by show l8 j<((vZ c).length:Int);omega,⟨0,⟨⟨rfl,rfl,rfl,tZ⟩,tZ⟩,ju _⟩,fun x w _=>⟨fun h=> ?_,fun h=> ?_⟩⟩
 .have h:(x:Int)<(kz c).length:=ja h;have up:x+1<=(kz c).length:=(by omega);have m:(kz c).length-(x+1)<(kz c).length-x:=(by omega);have i64:kH ((x:Int)+1):=iZ6;refine⟨⟨by omega,by omega⟩,fun b=> ?_,fun b=> ?_⟩
  .have b:(!wy t (x:Int))=true:=b;have e:=Kj (c:=c) (j:=j) (t:=t) (n:=x) (by simpa using b);exact⟨i64,x+1,⟨⟨jG (·.2) e.symm,jG (·.1) e.symm,by simp,tZ⟩,tZ⟩,up,m⟩
  .have b:(!wy t (x:Int))=false:=b;have b:wy t (x:Int)=true:=(by simpa using b);refine⟨by omega,h,fun o=>⟨p,fun a=>⟨i,fun d=> ?_,fun d=> ?_⟩,fun a=>⟨i,fun d=> ?_,fun d=> ?_⟩⟩,fun o=>⟨p,fun a=>⟨i,fun d=> ?_,fun d=> ?_⟩,fun a=>⟨i,fun d=> ?_,fun d=> ?_⟩⟩⟩
   all_goals
    have e:=jbd (c:=c) (j:=j) (t:=t) (n:=x) b o a d
    first
    |exact⟨i64,x+1,⟨⟨by simp,jG (·.2) e.symm,jG (·.1) e.symm,tZ⟩,tZ⟩,up,m⟩
    |exact⟨i64,x+1,⟨⟨jG (·.1) e.symm,by simp,jG (·.2) e.symm,tZ⟩,tZ⟩,up,m⟩
    |exact⟨i64,x+1,⟨⟨jG (·.2) e.symm,by simp,jG (·.1) e.symm,tZ⟩,tZ⟩,up,m⟩
    |exact⟨i64,x+1,⟨⟨jG (·.2) e.symm,jG (·.1) e.symm,by simp,tZ⟩,tZ⟩,up,m⟩
    |exact⟨i64,x+1,⟨⟨by simp,jG (·.1) e.symm,jG (·.2) e.symm,tZ⟩,tZ⟩,up,m⟩
    |exact⟨i64,x+1,⟨⟨jG (·.1) e.symm,jG (·.2) e.symm,by simp,tZ⟩,tZ⟩,up,m⟩
 .have h:¬(x:Int)<(kz c).length:=jc h;have w:x<=(kz c).length:=w;have v:x=(kz c).length:=(by omega);subst v;have g:F6 j<((mh c t (Tn (cv c j)) (Ly j)).length:Int):=by
   unfold mh;rw[Hr];omega
  refine⟨y,fun b=>⟨fun o=>⟨l,q,r.1,g,fun a=> ?_,fun a=> ?_⟩,fun o=>⟨l,q,r.1,g,fun a=> ?_,fun a=> ?_⟩⟩,fun b=>⟨fun o=>⟨l,q,r.1,g,fun a=> ?_,fun a=> ?_⟩,fun o=>⟨l,q,r.1,g,fun a=> ?_,fun a=> ?_⟩⟩⟩
  all_goals
   have e:=jcM (c:=c) (j:=j) (t:=t) b o a;exact jG (fun z=>(z,())) e.symm
theorem Kk:wn PR 70 Kc:=qG Kd Ns Tryz.func70 (kcC sr (kcC FU (kcC RT (kcC VM kcN)))) koN
theorem RV:wn PR 44 RP:=kY VL Tryz.func44 (kcC Kk kcN) koN
theorem Yv (l:Int) (p:PeD):eC l p=(!(decide (((U.lv p).length:Int)≠l)|| !kl (U.fd p) 0 255|| !kl (U.cl p) 0 255||decide (10<((qo p).length:Int))|| !kl (U.fe p) 0 1000)&&((U.lv p).all (fun n=>kl n 0 5)&&(qo p).all (fun n=>kl n 0 99))):=by
 unfold eC;congr 1;rw[j0];simp only[kl,jO,jN,jF,zb,ji,jm];omega
theorem AH (c:CrD):kG c=(!(!kl (U.la c) 2 5||decide (8<((kz c).length:Int))||decide (((vZ c).length:Int)≠4))&&((kz c).all (eC (U.la c))&&(vZ c).all eD)):=by
 unfold kG;congr 1;rw[j0];simp only[kl,jO,jN,jF,zb,ji,jm];omega
theorem ua {c:CrD} {x:Nat} (a:x<(kz c).length) (h:eC (U.la c) (nth (kz c) x)=false):kG c=false:=by
 have:(kz c).all (eC (U.la c))=false:=zY.2 ⟨_,L.kB a,by rw[h];simp⟩;rw[AH,this];simp
theorem RW {c:CrD} {x:Nat} (a:x<(vZ c).length) (h:eD (nth (vZ c) x)=false):kG c=false:=by
 have:(vZ c).all eD=false:=zY.2 ⟨_,L.kB a,by rw[h];simp⟩;rw[AH,this];simp
theorem fU {α:Type} [Inhabited α] {l:List α} {p:α->Bool} {x:Nat} (c:¬x<l.length) (h:∀j:Nat,j<x->p (nth l j)=true):l.all p=true:=by
 rw[jT];intro a b;obtain⟨i,hi,rfl⟩:=L.mem_iff.1 b;exact h i (by omega)
theorem lV {c:CrD} (h:kG c=false):(false,())=(kG c,()):=by rw[h]
theorem Nt:Kb:=by
 unfold Kb jiI jhm jiH jgO jfQ jgN jiG jhl jgM jeR Prod.q4;rintro⟨c,⟨⟩⟩ _ _;refine⟨fun h=> ?_,fun h=> ?_⟩;have h:(!kl (U.la c) 2 5||decide (8<((kz c).length:Int))||decide (((vZ c).length:Int)≠4))=true:=h;refine lV (c:=c) ?_;rw[AH,h];rfl;have B:(!kl (U.la c) 2 5||decide (8<((kz c).length:Int))||decide (((vZ c).length:Int)≠4))=false:=h;clear h;refine⟨⟨0,⟨⟨rfl,tZ⟩,tZ⟩,ju _,fun j k=>by omega⟩,fun x s r=>⟨fun h=> ?_,fun h=> ?_⟩⟩;have r:(kz c).length<4611686018427387904:=r;have h:(x:Int)<(kz c).length:=ja h;have m:x<(kz c).length:=(by omega);refine⟨by omega,h,fun _ _=>⟨fun g=> ?_,fun g=> ?_⟩⟩;have g:(decide (((U.lv (nth (kz c) x)).length:Int)≠U.la c)|| !kl (U.fd (nth (kz c) x)) 0 255|| !kl (U.cl (nth (kz c) x)) 0 255||decide (10<((qo (nth (kz c) x)).length:Int))|| !kl (U.fe (nth (kz c) x)) 0 1000)=true:=g;refine lV (c:=c) (ua m ?_);rw[Yv,g];rfl;have g:(decide (((U.lv (nth (kz c) x)).length:Int)≠U.la c)|| !kl (U.fd (nth (kz c) x)) 0 255|| !kl (U.cl (nth (kz c) x)) 0 255||decide (10<((qo (nth (kz c) x)).length:Int))|| !kl (U.fe (nth (kz c) x)) 0 1000)=false:=g;refine⟨⟨0,⟨⟨rfl,tZ⟩,tZ⟩,ju _,fun j k=>by omega⟩,fun y q d=>⟨fun b=> ?_,fun b=> ?_⟩⟩;have d:(U.lv (nth (kz c) x)).length<4611686018427387904:=d;have b:(y:Int)<(U.lv (nth (kz c) x)).length:=ja b;refine⟨by omega,b,fun a=> ?_,fun a=>⟨iZ6,y+1,⟨⟨by simp,tZ⟩,tZ⟩,⟨by show y+1<=(U.lv (nth (kz c) x)).length;omega,fun j k=> ?_⟩,by show(U.lv (nth (kz c) x)).length-(y+1)<(U.lv (nth (kz c) x)).length-y;omega⟩⟩;have a:(!kl (nth (U.lv (nth (kz c) x)) y) 0 5)=true:=a;have a:kl (nth (U.lv (nth (kz c) x)) y) 0 5=false:=(by simpa using a);refine lV (c:=c) (ua m ?_);have:(U.lv (nth (kz c) x)).all (fun n=>kl n 0 5)=false:=zY.2 ⟨_,L.kB (l:=U.lv (nth (kz c) x)) (i:=y) (by omega),by rw[a];simp⟩;rw[Yv,this];simp;have a:(!kl (nth (U.lv (nth (kz c) x)) y) 0 5)=false:=a;by_cases e:j=y;subst e;exact(show kl (nth (U.lv (nth (kz c) x)) j) 0 5=true by simpa using a);exact q.2 j (by omega);have b:¬(y:Int)<(U.lv (nth (kz c) x)).length:=jc b;have u:(U.lv (nth (kz c) x)).all (fun n=>kl n 0 5)=true:=fU (by omega) q.2;refine⟨⟨0,⟨⟨rfl,tZ⟩,tZ⟩,ju _,fun j k=>by omega⟩,fun z t o=>⟨fun a=> ?_,fun a=> ?_⟩⟩;have o:(qo (nth (kz c) x)).length<4611686018427387904:=o;have a:(z:Int)<(qo (nth (kz c) x)).length:=ja a;refine⟨by omega,a,fun f=> ?_,fun f=>⟨iZ6,z+1,⟨⟨by simp,tZ⟩,tZ⟩,⟨by show z+1<=(qo (nth (kz c) x)).length;omega,fun j k=> ?_⟩,by show(qo (nth (kz c) x)).length-(z+1)<(qo (nth (kz c) x)).length-z;omega⟩⟩;have f:(!kl (nth (qo (nth (kz c) x)) z) 0 99)=true:=f;have f:kl (nth (qo (nth (kz c) x)) z) 0 99=false:=(by simpa using f);refine lV (c:=c) (ua m ?_);have:(qo (nth (kz c) x)).all (fun n=>kl n 0 99)=false:=zY.2 ⟨_,L.kB (l:=qo (nth (kz c) x)) (i:=z) (by omega),by rw[f];simp⟩;rw[Yv,this];simp;have f:(!kl (nth (qo (nth (kz c) x)) z) 0 99)=false:=f;by_cases e:j=z;subst e;exact(show kl (nth (qo (nth (kz c) x)) j) 0 99=true by simpa using f);exact t.2 j (by omega);have a:¬(z:Int)<(qo (nth (kz c) x)).length:=jc a;have v:(qo (nth (kz c) x)).all (fun n=>kl n 0 99)=true:=fU (by omega) t.2;refine⟨iZ6,x+1,⟨⟨by simp,tZ⟩,tZ⟩,⟨by show x+1<=(kz c).length;omega,fun j k=> ?_⟩,by show(kz c).length-(x+1)<(kz c).length-x;omega⟩;by_cases e:j=x;subst e;show eC (U.la c) (nth (kz c) j)=true;rw[Yv,g,u,v];rfl;exact s.2 j (by omega);have h:¬(x:Int)<(kz c).length:=jc h;have A:(kz c).all (eC (U.la c))=true:=fU (by omega) s.2;refine⟨⟨0,⟨⟨rfl,tZ⟩,tZ⟩,ju _,fun j k=>by omega⟩,fun y q d=>⟨fun b=> ?_,fun b=> ?_⟩⟩;have d:(vZ c).length<4611686018427387904:=d;have b:(y:Int)<(vZ c).length:=ja b;have p:eD (nth (vZ c) y)= !(!kl (Tn (nth (vZ c) y)) 1 5|| !kl (jbW (nth (vZ c) y)) 1 8):=by
  unfold eD;rw[Bool.not_or,Bool.not_not,Bool.not_not]
 refine⟨by omega,b,fun _=>by omega,fun _=>b,fun a=> ?_,fun a=>⟨iZ6,y+1,⟨⟨by simp,tZ⟩,tZ⟩,⟨by show y+1<=(vZ c).length;omega,fun j k=> ?_⟩,by show(vZ c).length-(y+1)<(vZ c).length-y;omega⟩⟩;have a:(!kl (Tn (nth (vZ c) y)) 1 5|| !kl (jbW (nth (vZ c) y)) 1 8)=true:=a;exact lV (c:=c) (RW (x:=y) (by omega) (by rw[p,a];rfl));have a:(!kl (Tn (nth (vZ c) y)) 1 5|| !kl (jbW (nth (vZ c) y)) 1 8)=false:=a;by_cases e:j=y;subst e;show eD (nth (vZ c) j)=true;rw[p,a];rfl;exact q.2 j (by omega);have b:¬(y:Int)<(vZ c).length:=jc b;have w:(vZ c).all eD=true:=fU (by omega) q.2;show(true,())=(kG c,());rw[AH,B,A,w];rfl
theorem uZ:wn PR 54 J9:=qG Ka Nt Tryz.func54 (kcC uY kcN) koN
namespace U
def yk (l:List ShD) (i k:Nat) (id:Int):Bool:=decide (yy (nth l i)=id)&& !((l.take k).any (fun x=>decide (x=nth l i)))
end U
def Kl:we:=⟨[.val .int,.val .int,.val .int],[.bool],false,fun _=>[],fun d=>(kl d.1 d.2.1 d.2.2.1,())⟩
def Km:Prop:=∀(d:Int×Int×Int×Unit),(decide (d.2.1<=d.1)&&decide (d.1<=d.2.2.1),())=(kl d.1 d.2.1 d.2.2.1,())
def CP:we:=⟨[.val tDy,.val .int],[.bool],false,fun _=>[],fun d=>(W6 d.1 d.2.1,())⟩
def CQ:Prop:=∀(d:DyD×Int×Unit),d.1.2.2.1.length<4611686018427387904->kH ((d.1.2.2.1.length:Int)-1)/\(kl d.2.1 (0:Int) ((d.1.2.2.1.length:Int)-1),())=(W6 d.1 d.2.1,())
def Eh:we:=⟨[.val tDy,.val .int],[.bool],false,fun _=>[],fun d=>(Lk d.1 d.2.1,())⟩
def Ei:Prop:=∀(d:DyD×Int×Unit),d.1.1.2.1.length<4611686018427387904->kH ((d.1.1.2.1.length:Int)-1)/\(kl d.2.1 (0:Int) ((d.1.1.2.1.length:Int)-1),())=(Lk d.1 d.2.1,())
def Nu:we:=⟨[.val tDy],[.bool],false,fun _=>[],fun d=>(wR d.1,())⟩
def Nv:Ann:=fun r=>match r with
 |4=>some fun σ=>{X:=Nat,sl:=fun i=>[(3,.dat .int (i:Int))],ob:=fun _=>[],inv:=fun i=>i<=(wt (gb tDy σ 1)).length/\∀j:Nat,j<i->bV (wt (gb tDy σ 1)).length (nth (wt (gb tDy σ 1)) j)=true,mu:=fun i=>(wt (gb tDy σ 1)).length-i}
 |9=>some fun σ=>{X:=Nat,sl:=fun i=>[(4,.dat .int (i:Int))],ob:=fun _=>[],inv:=fun i=>i<=(nth (wt (gb tDy σ 1)) (gd .int σ 3).toNat).length/\∀j:Nat,j<i->sK (nth (nth (wt (gb tDy σ 1)) (gd .int σ 3).toNat) j)=true,mu:=fun i=>(nth (wt (gb tDy σ 1)) (gd .int σ 3).toNat).length-i}
 |15=>some fun σ=>{X:=Nat,sl:=fun i=>[(6,.dat .int (i:Int))],ob:=fun _=>[],inv:=fun i=>i<=(kE (gb tDy σ 1)).length/\∀j:Nat,j<i->l9 (wt (gb tDy σ 1)).length (nth (kE (gb tDy σ 1)) j)=true,mu:=fun i=>(kE (gb tDy σ 1)).length-i}
 |21=>some fun σ=>{X:=Nat,sl:=fun i=>[(8,.dat .int (i:Int))],ob:=fun _=>[],inv:=fun i=>i<=(wu (gb tDy σ 1)).length/\∀j:Nat,j<i->ma (kE (gb tDy σ 1)).length (kz (kD (gb tDy σ 1))).length (nth (wu (gb tDy σ 1)) j)=true,mu:=fun i=>(wu (gb tDy σ 1)).length-i}
 |_=>none
abbrev jgs (d:DyD×Unit)(x:Nat):=(nth d.1.2.1 (x:Int).toNat)
abbrev jiM (d:DyD×Unit)(x:Nat)(a:Nat):=(decide ((nth (jgs d x) (a:Int).toNat).1<0)||decide ((nth (jgs d x) (a:Int).toNat).2.1<(nth (jgs d x) (a:Int).toNat).1)||decide ((300:Int)<(nth (jgs d x) (a:Int).toNat).2.1))
abbrev jfV (d:DyD×Unit)(x:Nat):=(nth (wt d.1) (x:Int).toNat)
abbrev jfn (d:DyD×Unit):=(d.1.2.1.length:Int)
abbrev jgS (d:DyD×Unit)(x:Nat):=(nth d.1.q4.2.1 (x:Int).toNat)
abbrev jiN (d:DyD×Unit)(x:Nat):=(!kl (jgS d x).1 (0:Int) (99:Int)|| !kl (jgS d x).2.1 (0:Int) (9999:Int)|| !kl (jgS d x).2.2.1 (1:Int) (2:Int)|| !W6 d.1 (jgS d x).2.2.2.1|| !Lk d.1 (jgS d x).q4.1)
abbrev jgt (d:DyD×Unit):=(d.1.2.2.1.length:Int)
abbrev jh7 (x:Nat)(a:Nat):=(((x:Int)+1=(a:Int)/\True)/\True)
abbrev jgT (d:DyD×Unit)(x:Nat):=(nth d.1.2.2.1 (x:Int).toNat)
abbrev jiO (d:DyD×Unit)(x:Nat):=(!kl (jgT d x).2.1 (0:Int) ((jfn d)-1)||decide ((jgT d x).2.2.1<0)||decide ((jgT d x).2.2.2.1<=(jgT d x).2.2.1)||decide ((1440:Int)<(jgT d x).2.2.2.1))
abbrev jgU (d:DyD×Unit)(x:Nat):=(↑(jgs d x).length:Int)
abbrev jhs (d:DyD×Unit):=(d.1.q4.2.1.length:Int)
abbrev jiP (d:DyD×Unit):=(decide (4<(jgt d))|| !kl (jfn d) (1:Int) (5:Int)|| !kl d.1.2.2.2.1 (0:Int) (300:Int)|| !kl d.1.q4.1 (0:Int) (1440:Int)||decide (30<(jhs d)))
abbrev jh8 (x:Nat):=((0=(x:Int)/\True)/\True)
def Nw:Prop:=∀(d:DyD×Unit),d.1.2.2.1.length<4611686018427387904->((!decide (4<(jgt d)))=true->d.1.2.1.length<4611686018427387904)->((!(decide (4<(jgt d))|| !kl (jfn d) (1:Int) (5:Int)|| !kl d.1.2.2.2.1 (0:Int) (300:Int)|| !kl d.1.q4.1 (0:Int) (1440:Int)))=true->d.1.q4.2.1.length<4611686018427387904)->((jiP d)=true->(false,())=(wR d.1,()))/\((jiP d)=false->(∃(x:Nat),(jh8 x)/\x<=(wt d.1).length/\∀(j:Nat),j<x->bV (wt d.1).length (nth (wt d.1) j)=true)/\∀(x:Nat),(x<=(wt d.1).length/\∀(j:Nat),j<x->bV (wt d.1).length (nth (wt d.1) j)=true)->d.1.2.1.length<4611686018427387904->(decide ((x:Int)<(jfn d))=true->0<=(x:Int)/\(x:Int)<(jfn d)/\(decide ((jgU d x)≠(jfn d))=true->(false,())=(wR d.1,()))/\(decide ((jgU d x)≠(jfn d))=false->(∃(a:Nat),((0=(a:Int)/\True)/\True)/\a<=(jfV d x).length/\∀(j:Nat),j<a->sK (nth (jfV d x) j)=true)/\∀(a:Nat),(a<=(jfV d x).length/\∀(j:Nat),j<a->sK (nth (jfV d x) j)=true)->0<=(x:Int)/\(x:Int)<(jfn d)/\((jgs d x).length<4611686018427387904->(decide ((a:Int)<(jgU d x))=true->0<=(x:Int)/\(x:Int)<(jfn d)/\0<=(a:Int)/\(a:Int)<(jgU d x)/\((jiM d x a)=true->(false,())=(wR d.1,()))/\((jiM d x a)=false->kH ((a:Int)+1)/\∃(b:Nat),(((a:Int)+1=(b:Int)/\True)/\True)/\(b<=(jfV d x).length/\∀(j:Nat),j<b->sK (nth (jfV d x) j)=true)/\(jfV d x).length-b<(jfV d x).length-a))/\(decide ((a:Int)<(jgU d x))=false->kH ((x:Int)+1)/\∃(b:Nat),(jh7 x b)/\(b<=(wt d.1).length/\∀(j:Nat),j<b->bV (wt d.1).length (nth (wt d.1) j)=true)/\(wt d.1).length-b<(wt d.1).length-x))))/\(decide ((x:Int)<(jfn d))=false->(∃(x:Nat),(jh8 x)/\x<=(kE d.1).length/\∀(j:Nat),j<x->l9 (wt d.1).length (nth (kE d.1) j)=true)/\∀(x:Nat),(x<=(kE d.1).length/\∀(j:Nat),j<x->l9 (wt d.1).length (nth (kE d.1) j)=true)->d.1.2.2.1.length<4611686018427387904->(decide ((x:Int)<(jgt d))=true->0<=(x:Int)/\(x:Int)<(jgt d)/\(d.1.2.1.length<4611686018427387904->kH ((jfn d)-1)/\((jiO d x)=true->(false,())=(wR d.1,()))/\((jiO d x)=false->kH ((x:Int)+1)/\∃(b:Nat),(jh7 x b)/\(b<=(kE d.1).length/\∀(j:Nat),j<b->l9 (wt d.1).length (nth (kE d.1) j)=true)/\(kE d.1).length-b<(kE d.1).length-x)))/\(decide ((x:Int)<(jgt d))=false->(∃(x:Nat),(jh8 x)/\x<=(wu d.1).length/\∀(j:Nat),j<x->ma (kE d.1).length (kz (kD d.1)).length (nth (wu d.1) j)=true)/\∀(x:Nat),(x<=(wu d.1).length/\∀(j:Nat),j<x->ma (kE d.1).length (kz (kD d.1)).length (nth (wu d.1) j)=true)->d.1.q4.2.1.length<4611686018427387904->(decide ((x:Int)<(jhs d))=true->0<=(x:Int)/\(x:Int)<(jhs d)/\((jiN d x)=true->(false,())=(wR d.1,()))/\((jiN d x)=false->kH ((x:Int)+1)/\∃(b:Nat),(jh7 x b)/\(b<=(wu d.1).length/\∀(j:Nat),j<b->ma (kE d.1).length (kz (kD d.1)).length (nth (wu d.1) j)=true)/\(wu d.1).length-b<(wu d.1).length-x))/\(decide ((x:Int)<(jhs d))=false->(true,())=(wR d.1,())))))
def Nx:we:=⟨[.val (.slice tSh)],[.bool],false,fun d=>[d.1.length<=1000000],fun d=>(aV d.1,())⟩
def Ny:Ann:=fun r=>match r with
 |2=>some fun σ=>{X:=Nat,sl:=fun i=>[(3,.dat .int (i:Int))],ob:=fun _=>[],inv:=fun i=>i<=(gd (.slice tSh) σ 0).length/\gy (gd (.slice tSh) σ 0) i=false,mu:=fun i=>(gd (.slice tSh) σ 0).length-i}
 |5=>some fun σ=>{X:=Nat,sl:=fun i=>[(4,.dat .int (i:Int))],ob:=fun _=>[],inv:=fun i=>i<=(gd .int σ 3).toNat/\∀j:Nat,j<i->Dz (nth (gd (.slice tSh) σ 0) (gd .int σ 3).toNat) (nth (gd (.slice tSh) σ 0) j)=false,mu:=fun i=>(gd .int σ 3).toNat-i}
 |_=>none
abbrev jgu (d:List ShD×Unit)(x:Nat)(a:Nat):=((nth d.1 (x:Int).toNat).1=(nth d.1 (a:Int).toNat).1)
def Nz:Prop:=∀(d:List ShD×Unit),d.1.length<=1000000->(∃(x:Nat),((0=(x:Int)/\True)/\True)/\x<=d.1.length/\gy d.1 x=false)/\∀(x:Nat),x<=d.1.length/\gy d.1 x=false->d.1.length<4611686018427387904->(decide ((x:Int)<d.1.length)=true->(∃(a:Nat),((0=(a:Int)/\True)/\True)/\a<=(x:Int).toNat/\∀(j:Nat),j<a->Dz (nth d.1 (x:Int).toNat) (nth d.1 j)=false)/\∀(a:Nat),(a<=(x:Int).toNat/\∀(j:Nat),j<a->Dz (nth d.1 (x:Int).toNat) (nth d.1 j)=false)->(decide ((a:Int)<(x:Int))=true->0<=(x:Int)/\(x:Int)<d.1.length/\0<=(a:Int)/\(a:Int)<d.1.length/\(decide (jgu d x a)=true->0<=(x:Int))/\(decide (jgu d x a)=true->(x:Int)<d.1.length)/\(decide (jgu d x a)=true->0<=(a:Int))/\(decide (jgu d x a)=true->(a:Int)<d.1.length)/\((decide (jgu d x a)&& !decide (nth d.1 (x:Int).toNat=nth d.1 (a:Int).toNat))=true->(true,())=(aV d.1,()))/\((decide (jgu d x a)&& !decide (nth d.1 (x:Int).toNat=nth d.1 (a:Int).toNat))=false->kH ((a:Int)+1)/\∃(b:Nat),(((a:Int)+1=(b:Int)/\True)/\True)/\(b<=(x:Int).toNat/\∀(j:Nat),j<b->Dz (nth d.1 (x:Int).toNat) (nth d.1 j)=false)/\(x:Int).toNat-b<(x:Int).toNat-a))/\(decide ((a:Int)<(x:Int))=false->kH ((x:Int)+1)/\∃(b:Nat),(((x:Int)+1=(b:Int)/\True)/\True)/\(b<=d.1.length/\gy d.1 b=false)/\d.1.length-b<d.1.length-x))/\(decide ((x:Int)<d.1.length)=false->(false,())=(aV d.1,()))
def NA:we:=⟨[.val tDy],[.int],false,fun d=>[(kE d.1).length<=1000000],fun d=>(ga d.1,())⟩
def NB:Ann:=fun r=>match r with
 |4=>some fun σ=>{X:=Nat,sl:=fun i=>[(3,.dat .int (i:Int))],ob:=fun _=>[],inv:=fun i=>i<=(kE (gb tDy σ 1)).length/\∀j:Nat,j<i->ww (kD (gb tDy σ 1)) (y7 (nth (kE (gb tDy σ 1)) j))=true,mu:=fun i=>(kE (gb tDy σ 1)).length-i}
 |_=>none
def NC:Prop:=∀(d:DyD×Unit),(kE d.1).length<=1000000->((!kG d.1.1)=true->((30:Int),())=(ga d.1,()))/\((!kG d.1.1)=false->(∃(x:Nat),((0=(x:Int)/\True)/\True)/\x<=(kE d.1).length/\∀(j:Nat),j<x->ww (kD d.1) (y7 (nth (kE d.1) j))=true)/\∀(x:Nat),(x<=(kE d.1).length/\∀(j:Nat),j<x->ww (kD d.1) (y7 (nth (kE d.1) j))=true)->d.1.2.2.1.length<4611686018427387904->(decide ((x:Int)<d.1.2.2.1.length)=true->0<=(x:Int)/\(x:Int)<d.1.2.2.1.length/\kG d.1.1=true/\((!ww d.1.1 (nth d.1.2.2.1 (x:Int).toNat).1)=true->((31:Int),())=(ga d.1,()))/\((!ww d.1.1 (nth d.1.2.2.1 (x:Int).toNat).1)=false->kH ((x:Int)+1)/\∃(a:Nat),(((x:Int)+1=(a:Int)/\True)/\True)/\(a<=(kE d.1).length/\∀(j:Nat),j<a->ww (kD d.1) (y7 (nth (kE d.1) j))=true)/\(kE d.1).length-a<(kE d.1).length-x))/\(decide ((x:Int)<d.1.2.2.1.length)=false->((!wR d.1)=true->((50:Int),())=(ga d.1,()))/\((!wR d.1)=false->d.1.q4.2.1.length<=1000000/\(aV d.1.q4.2.1=true->((51:Int),())=(ga d.1,()))/\(aV d.1.q4.2.1=false->((0:Int),())=(ga d.1,())))))
def ND:we:=⟨[.val tSh,.val tSh],[.bool],false,fun _=>[],fun d=>(qj d.1 d.2.1,())⟩
def NE:Prop:=∀(d:ShD×ShD×Unit),(decide (d.2.1.2.1<d.1.2.1)||decide (d.1.2.1=d.2.1.2.1)&&decide (d.2.1.1<d.1.1),())=(qj d.1 d.2.1,())
def Ej:we:=⟨[.val tDy,.val .int,.val .int],[.bool],false,fun d=>[AM d.1,gg d.1 d.2.1,gg d.1 d.2.2.1],fun d=>(wq d.1 d.2.1 d.2.2.1,())⟩
abbrev je5 (d:DyD×Int×Int×Unit):=(nth d.1.2.2.1 d.2.2.1.toNat)
abbrev je6 (d:DyD×Int×Int×Unit):=(nth d.1.2.2.1 d.2.1.toNat)
abbrev jgV (d:DyD×Int×Int×Unit):=((je5 d).2.2.1<(je6 d).2.2.1)
abbrev jfW (d:DyD×Int×Int×Unit):=(d.1.2.2.1.length:Int)
abbrev jiQ (d:DyD×Int×Int×Unit):=(decide (jgV d)||decide ((je5 d).2.2.1=(je6 d).2.2.1)&&decide (d.2.2.1<d.2.1))
def Ek:Prop:=∀(d:DyD×Int×Int×Unit),AM d.1->gg d.1 d.2.1->gg d.1 d.2.2.1->0<=d.2.2.1/\d.2.2.1<(jfW d)/\0<=d.2.1/\d.2.1<(jfW d)/\((!decide (jgV d))=true->0<=d.2.2.1)/\((!decide (jgV d))=true->d.2.2.1<(jfW d))/\((!decide (jgV d))=true->0<=d.2.1)/\((!decide (jgV d))=true->d.2.1<(jfW d))/\((jiQ d)=true->0<=d.2.2.1/\d.2.2.1<(jfW d)/\0<=d.2.1/\d.2.1<(jfW d)/\kH ((je5 d).2.2.2.1+d.1.2.2.2.1)/\(0:Int)<=(je5 d).2.1/\(je5 d).2.1<(d.1.2.1.length:Int)/\(0:Int)<=(je6 d).2.1/\(je6 d).2.1<(↑(nth d.1.2.1 (je5 d).2.1.toNat).length:Int)/\kH ((je5 d).2.2.2.1+d.1.2.2.2.1+(nth (nth d.1.2.1 (je5 d).2.1.toNat) (je6 d).2.1.toNat).2.1)/\(decide ((je5 d).2.2.2.1+d.1.2.2.2.1+(nth (nth d.1.2.1 (je5 d).2.1.toNat) (je6 d).2.1.toNat).2.1<=(je6 d).2.2.1),())=(wq d.1 d.2.1 d.2.2.1,()))/\((jiQ d)=false->0<=d.2.1/\d.2.1<(jfW d)/\0<=d.2.2.1/\d.2.2.1<(jfW d)/\kH ((je6 d).2.2.2.1+d.1.2.2.2.1)/\(0:Int)<=(je6 d).2.1/\(je6 d).2.1<(d.1.2.1.length:Int)/\(0:Int)<=(je5 d).2.1/\(je5 d).2.1<(↑(nth d.1.2.1 (je6 d).2.1.toNat).length:Int)/\kH ((je6 d).2.2.2.1+d.1.2.2.2.1+(nth (nth d.1.2.1 (je6 d).2.1.toNat) (je5 d).2.1.toNat).2.1)/\(decide ((je6 d).2.2.2.1+d.1.2.2.2.1+(nth (nth d.1.2.1 (je6 d).2.1.toNat) (je5 d).2.1.toNat).2.1<=(je5 d).2.2.1),())=(wq d.1 d.2.1 d.2.2.1,()))
def NF:we:=⟨[.val tDy,.val .int,.val (.slice .int)],[.bool],false,fun d=>[AM d.1,LA d.1 d.2.1,DB d.1 d.2.2.1],fun d=>(vL d.1 d.2.1 d.2.2.1,())⟩
def NG:Ann:=fun r=>match r with
 |3=>some fun σ=>{X:=Nat,sl:=fun i=>[(8,.dat .int (i:Int)),(7,.dat .int (qS (gb tDy σ 3) (gd (.slice .int) σ 2) i))],ob:=fun _=>[],inv:=fun i=>i<=(gd (.slice .int) σ 2).length/\(∀j:Nat,j<i->wZ (kD (gb tDy σ 3)) (y7 (U.bk (gb tDy σ 3) (nth (gd (.slice .int) σ 2) j))) (gd .int σ 1)=true)/\∀j:Nat,j<i->∀m:Nat,m<j->wq (gb tDy σ 3) (nth (gd (.slice .int) σ 2) j) (nth (gd (.slice .int) σ 2) m)=true,mu:=fun i=>(gd (.slice .int) σ 2).length-i}
 |10=>some fun σ=>{X:=Nat,sl:=fun i=>[(10,.dat .int (i:Int))],ob:=fun _=>[],inv:=fun i=>i<=(gd .int σ 8).toNat/\∀m:Nat,m<i->wq (gb tDy σ 3) (nth (gd (.slice .int) σ 2) (gd .int σ 8).toNat) (nth (gd (.slice .int) σ 2) m)=true,mu:=fun i=>(gd .int σ 8).toNat-i}
 |_=>none
abbrev jf9 (d:DyD×Int×List Int×Unit)(x:Nat):=(nth d.2.2.1 (x:Int).toNat)
abbrev jfF (d:DyD×Int×List Int×Unit)(x:Nat):=(nth d.1.2.2.1 (jf9 d x).toNat)
abbrev jiR (x:Nat)(d:DyD×Int×List Int×Unit):=(∀(j:Nat),j<x->wZ (kD d.1) (y7 (U.bk d.1 (nth d.2.2.1 j))) d.2.1=true)
def NH:Prop:=∀(d:DyD×Int×List Int×Unit),AM d.1->LA d.1 d.2.1->DB d.1 d.2.2.1->(∃(x:Nat),((0=(x:Int)/\0=qS d.1 d.2.2.1 x/\True)/\True)/\x<=d.2.2.1.length/\(jiR x d)/\∀(j:Nat),j<x->∀(m:Nat),m<j->wq d.1 (nth d.2.2.1 j) (nth d.2.2.1 m)=true)/\∀(x:Nat),(x<=d.2.2.1.length/\(jiR x d)/\∀(j:Nat),j<x->∀(m:Nat),m<j->wq d.1 (nth d.2.2.1 j) (nth d.2.2.1 m)=true)->d.2.2.1.length<4611686018427387904->(decide ((x:Int)<d.2.2.1.length)=true->0<=(x:Int)/\(x:Int)<d.2.2.1.length/\0<=nth d.2.2.1 (x:Int).toNat/\nth d.2.2.1 (x:Int).toNat<(d.1.2.2.1.length:Int)/\(0<=d.2.1/\d.2.1<(↑(kz d.1.1).length:Int))/\ww d.1.1 (jfF d x).1=true/\((!wZ d.1.1 (jfF d x).1 d.2.1)=true->(false,())=(vL d.1 d.2.1 d.2.2.1,()))/\((!wZ d.1.1 (jfF d x).1 d.2.1)=false->kH ((jfF d x).2.2.2.1-(jfF d x).2.2.1)/\kH (qS d.1 d.2.2.1 x+((jfF d x).2.2.2.1-(jfF d x).2.2.1))/\(∃(a:Nat),((0=(a:Int)/\True)/\True)/\a<=(x:Int).toNat/\∀(m:Nat),m<a->wq d.1 (jf9 d x) (nth d.2.2.1 m)=true)/\∀(a:Nat),(a<=(x:Int).toNat/\∀(m:Nat),m<a->wq d.1 (jf9 d x) (nth d.2.2.1 m)=true)->(decide ((a:Int)<(x:Int))=true->0<=(x:Int)/\(x:Int)<d.2.2.1.length/\0<=(a:Int)/\(a:Int)<d.2.2.1.length/\AM d.1/\gg d.1 (jf9 d x)/\gg d.1 (nth d.2.2.1 (a:Int).toNat)/\((!wq d.1 (jf9 d x) (nth d.2.2.1 (a:Int).toNat))=true->(false,())=(vL d.1 d.2.1 d.2.2.1,()))/\((!wq d.1 (jf9 d x) (nth d.2.2.1 (a:Int).toNat))=false->kH ((a:Int)+1)/\∃(b:Nat),(((a:Int)+1=(b:Int)/\True)/\True)/\(b<=(x:Int).toNat/\∀(m:Nat),m<b->wq d.1 (jf9 d x) (nth d.2.2.1 m)=true)/\(x:Int).toNat-b<(x:Int).toNat-a))/\(decide ((a:Int)<(x:Int))=false->kH ((x:Int)+1)/\∃(b:Nat),(((x:Int)+1=(b:Int)/\qS d.1 d.2.2.1 x+((jfF d x).2.2.2.1-(jfF d x).2.2.1)=qS d.1 d.2.2.1 b/\True)/\True)/\(b<=d.2.2.1.length/\(∀(j:Nat),j<b->wZ (kD d.1) (y7 (U.bk d.1 (nth d.2.2.1 j))) d.2.1=true)/\∀(j:Nat),j<b->∀(m:Nat),m<j->wq d.1 (nth d.2.2.1 j) (nth d.2.2.1 m)=true)/\d.2.2.1.length-b<d.2.2.1.length-x)))/\(decide ((x:Int)<d.2.2.1.length)=false->(decide (qS d.1 d.2.2.1 x<=d.1.q4.1),())=(vL d.1 d.2.1 d.2.2.1,()))
def El:we:=⟨[.val (.slice tSh)],[.slice tSh],false,fun d=>[d.1.length<=1000],fun d=>(kw d.1,())⟩
def Em:Ann:=fun r=>match r with
 |3=>some fun σ=>{X:=Nat,sl:=fun i=>[(4,.dat .int (i:Int)),(3,.own 3 tSh)],ob:=fun i=>[(3,some (.row 75 tSh false .yes (qR (gd (.slice tSh) σ 0) i)))],inv:=fun i=>i<=100,mu:=fun i=>100-i}
 |6=>some fun σ=>{X:=Nat,sl:=fun i=>[(5,.dat .int (i:Int)),(3,.own 3 tSh)],ob:=fun i=>[(3,some (.row 75 tSh false .yes (gr tSh σ 3++bW (gd (.slice tSh) σ 0) i (gd .int σ 4).toNat)))],inv:=fun i=>i<=(gd (.slice tSh) σ 0).length,mu:=fun i=>(gd (.slice tSh) σ 0).length-i}
 |10=>some fun σ=>{X:=Nat,sl:=fun k=>[(7,.dat .int (k:Int)),(6,.dat .bool (yk (gd (.slice tSh) σ 0) (gd .int σ 5).toNat k (gd .int σ 4)))],ob:=fun _=>[],inv:=fun k=>k<=(gd .int σ 5).toNat,mu:=fun k=>(gd .int σ 5).toNat-k}
 |_=>none
def En:Prop:=∀(d:List ShD×Unit),d.1.length<=1000->(∃(x:Nat),((0=(x:Int)/\True/\True)/\qR d.1 x=[]/\True)/\x<=100)/\∀(x:Nat),x<=100->(decide ((x:Int)<=99)=true->(∃(a:Nat),((0=(a:Int)/\True/\True)/\qR d.1 x=qR d.1 x++bW d.1 a (x:Int).toNat/\True)/\a<=d.1.length)/\∀(a:Nat),a<=d.1.length->d.1.length<4611686018427387904->(decide ((a:Int)<d.1.length)=true->0<=(a:Int)/\(a:Int)<d.1.length/\(∃(b:Nat),((0=(b:Int)/\decide ((nth d.1 (a:Int).toNat).1=(x:Int))=yk d.1 (a:Int).toNat b (x:Int)/\True)/\True)/\b<=(a:Int).toNat)/\∀(b:Nat),b<=(a:Int).toNat->(decide ((b:Int)<(a:Int))=true->(yk d.1 (a:Int).toNat b (x:Int)=true->0<=(b:Int))/\(yk d.1 (a:Int).toNat b (x:Int)=true->(b:Int)<d.1.length)/\(yk d.1 (a:Int).toNat b (x:Int)=true->0<=(a:Int))/\(yk d.1 (a:Int).toNat b (x:Int)=true->(a:Int)<d.1.length)/\kH ((b:Int)+1)/\∃(c:Nat),(((b:Int)+1=(c:Int)/\(yk d.1 (a:Int).toNat b (x:Int)&& !decide (nth d.1 (b:Int).toNat=nth d.1 (a:Int).toNat))=yk d.1 (a:Int).toNat c (x:Int)/\True)/\True)/\c<=(a:Int).toNat/\(a:Int).toNat-c<(a:Int).toNat-b)/\(decide ((b:Int)<(a:Int))=false->(yk d.1 (a:Int).toNat b (x:Int)=true->0<=(a:Int)/\(a:Int)<d.1.length/\((qR d.1 x++bW d.1 a (x:Int).toNat).length+[nth d.1 (a:Int).toNat].length)*40<=140737488355328/\kH ((a:Int)+1)/\∃(c:Nat),(((a:Int)+1=(c:Int)/\True/\True)/\qR d.1 x++bW d.1 a (x:Int).toNat++[nth d.1 (a:Int).toNat]=qR d.1 x++bW d.1 c (x:Int).toNat/\True)/\c<=d.1.length/\d.1.length-c<d.1.length-a)/\(yk d.1 (a:Int).toNat b (x:Int)=false->kH ((a:Int)+1)/\∃(c:Nat),((True/\(a:Int)+1=(c:Int)/\True)/\qR d.1 x++bW d.1 a (x:Int).toNat=qR d.1 x++bW d.1 c (x:Int).toNat/\True)/\c<=d.1.length/\d.1.length-c<d.1.length-a)))/\(decide ((a:Int)<d.1.length)=false->kH ((x:Int)+1)/\∃(c:Nat),(((x:Int)+1=(c:Int)/\True/\True)/\qR d.1 x++bW d.1 a (x:Int).toNat=qR d.1 c/\True)/\c<=100/\100-c<100-x))/\(decide ((x:Int)<=99)=false->(qR d.1 x,())=(kw d.1,()))
theorem NI:Km:=by
 rintro⟨n,a,b,⟨⟩⟩;rfl
theorem lW:wn PR 82 Kl:=kY NI Tryz.func82 kcN koN
theorem Eo:CQ:=by
 rintro⟨d,n,⟨⟩⟩ a;have a:(kE d).length<4611686018427387904:=a;exact⟨by show kH (((kE d).length:Int)-1);exact iZ6,rfl⟩
theorem CR:wn PR 83 CP:=kY Eo Tryz.func83 (kcC lW kcN) koN
theorem Hs:Ei:=by
 rintro⟨d,n,⟨⟩⟩ a;have a:(kz (kD d)).length<4611686018427387904:=a;exact⟨by show kH (((kz (kD d)).length:Int)-1);exact iZ6,rfl⟩
theorem Ep:wn PR 84 Eh:=kY Hs Tryz.func84 (kcC lW kcN) koN
theorem RX:NE:=by
 rintro⟨a,b,⟨⟩⟩;show(decide (DL b<DL a)||decide (DL a=DL b)&&decide (yy b<yy a),())=(qj a b,());refine jG (fun z=>(z,())) ?_;unfold qj;rw[j0];simp only[zr,ji,jm]
theorem NJ:wn PR 133 ND:=kY RX Tryz.func133 kcN koN
theorem Kn (l:List ShD) (n:Nat):gy l (n+1)=(gy l n||AK l n):=by
 unfold gy;rw[zi,List.any_append];simp
theorem Ht {l:List ShD} {i:Nat} (h:∀j:Nat,j<i->Dz (nth l i) (nth l j)=false) (hi:i<=l.length):AK l i=false:=by
 unfold AK;rw[ze];intro s a;rw[zc] at a;obtain⟨j,b,rfl⟩:=a;have:=h j (by omega);rw[L.wW (l:=l) (i:=j) (by omega)] at this;simpa using this
theorem RY {l:List ShD} {i j:Nat} (hi:i<l.length) (a:j<i) (h:Dz (nth l i) (nth l j)=true):aV l=true:=by
 unfold aV gy AK;rw[j9];refine⟨i,jA.2 hi,?_⟩;rw[j9];refine⟨nth l j,?_,h⟩;rw[zc];exact⟨j,by omega,(L.wW (by omega)).symm⟩
theorem RZ:Nz:=by
 unfold Nz jgu;rintro⟨l,⟨⟩⟩ k;have k:l.length<=1000000:=k;refine⟨⟨0,⟨⟨rfl,tZ⟩,tZ⟩,ju _,rfl⟩,fun x m _=>⟨fun h=> ?_,fun h=> ?_⟩⟩;have h:(x:Int)<l.length:=ja h;obtain⟨_,a⟩:x<=l.length/\gy l x=false:=m;refine⟨⟨0,⟨⟨rfl,tZ⟩,tZ⟩,ju _,fun j o=>by omega⟩,fun y n=>⟨fun c=> ?_,fun c=> ?_⟩⟩;have c:(y:Int)<(x:Int):=ja c;obtain⟨_,b⟩:y<=x/\∀j:Nat,j<y->Dz (nth l x) (nth l j)=false:=n;have f:(y:Int)<l.length:=(by omega);refine⟨by omega,h,by omega,f,fun _=>by omega,fun _=>h,fun _=>by omega,fun _=>f,fun d=> ?_,fun d=>⟨iZ6,y+1,⟨⟨by simp,tZ⟩,tZ⟩,⟨by show y+1<=x;omega,fun j o=> ?_⟩,by show x-(y+1)<x-y;omega⟩⟩;have d:Dz (nth l x) (nth l y)=true:=d;have:=RY (by omega) (by omega) d;show(true,())=(aV l,());rw[this];by_cases e:j=y;subst e;exact d;exact b j (by omega);have c:¬(y:Int)<(x:Int):=jc c;obtain⟨q,b⟩:y<=x/\∀j:Nat,j<y->Dz (nth l x) (nth l j)=false:=n;have i:y=x:=(by omega);subst i;refine⟨iZ6,y+1,⟨⟨by simp,tZ⟩,tZ⟩,⟨by show y+1<=l.length;omega,?_⟩,by show l.length-(y+1)<l.length-y;omega⟩;show gy l (y+1)=false;rw[Kn,a,Ht b (by omega)];rfl;have h:¬(x:Int)<l.length:=jc h;obtain⟨p,a⟩:x<=l.length/\gy l x=false:=m;have g:x=l.length:=(by omega);subst g;show(false,())=(aV l,());unfold aV;rw[a]
theorem NK:wn PR 57 Nx:=qG Ny RZ Tryz.func57 kcN koN
theorem R0:NC:=by
 unfold NC Prod.q4;rintro⟨d,⟨⟩⟩ k;have k:(kE d).length<=1000000:=k;refine⟨fun h=> ?_,fun h=> ?_⟩;have h:kG (kD d)=false:=(by simpa using(show(!kG (kD d))=true from h));show((30:Int),())=(ga d,());unfold ga;rw[h];rfl;have g:kG (kD d)=true:=(by simpa using(show(!kG (kD d))=false from h));refine⟨⟨0,⟨⟨rfl,tZ⟩,tZ⟩,ju _,fun j f=>by omega⟩,fun x m _=>⟨fun h=> ?_,fun h=> ?_⟩⟩;have h:(x:Int)<(kE d).length:=ja h;refine⟨by omega,h,g,fun a=> ?_,fun a=>⟨iZ6,x+1,⟨⟨by simp,tZ⟩,tZ⟩,⟨by show x+1<=(kE d).length;omega,fun j f=> ?_⟩,by show(kE d).length-(x+1)<(kE d).length-x;omega⟩⟩;have a:ww (kD d) (y7 (nth (kE d) x))=false:=(by simpa using(show(!ww (kD d) (y7 (nth (kE d) x)))=true from a));have f:Ib d=false:=by
  unfold Ib;exact zY.2 ⟨_,L.kB (l:=kE d) (i:=x) (by omega),by rw[a];simp⟩
 show((31:Int),())=(ga d,());unfold ga;rw[g,f];rfl;have a:ww (kD d) (y7 (nth (kE d) x))=true:=(by simpa using(show(!ww (kD d) (y7 (nth (kE d) x)))=false from a));by_cases e:j=x;subst e;exact a;exact m.2 j (by omega);have h:¬(x:Int)<(kE d).length:=jc h;have f:Ib d=true:=fU (p:=fun b=>ww (kD d) (y7 b)) (by omega) m.2;refine⟨fun a=> ?_,fun a=> ?_⟩;have a:wR d=false:=(by simpa using(show(!wR d)=true from a));show((50:Int),())=(ga d,());unfold ga;rw[g,f,a];rfl;have a:wR d=true:=(by simpa using(show(!wR d)=false from a));have n:(wu d).length<=30:=(vb a).2.2.2.2.1;refine⟨by show(wu d).length<=1000000;omega,fun c=> ?_,fun c=> ?_⟩;have c:aV (wu d)=true:=c;show((51:Int),())=(ga d,());unfold ga;rw[g,f,a,c];rfl;have c:aV (wu d)=false:=c;show((0:Int),())=(ga d,());unfold ga;rw[g,f,a,c];rfl
theorem VN (t:List Int) (p:Int) (n:Nat):nC t p (n+1)=nC t p n++(if wy (nth t n) p=true then[(n:Int)] else[]):=by
 unfold nC;rw[L.ve,zz];by_cases h:wy (nth t n) p=true;rw[jh h,jh h];rfl;rw[jd h,jd h];rfl
theorem PQ (t:List Int) (p:Int) (n:Nat):(nC t p n).length<=n:=by
 unfold nC;rw[zp];exact jE (zG _ _) (by simp)
theorem VO (l:List ShD) (n m:Nat):bW l (n+1) m=bW l n m++(if(decide (yy (nth l n)=(m:Int))&&mb l n)=true then[nth l n] else[]):=by
 unfold bW;rw[L.ve,zz];by_cases h:(decide (yy (nth l n)=(m:Int))&&mb l n)=true;rw[jh h,jh h];rfl;rw[jd h,jd h];rfl
theorem PS (l:List ShD) (n m:Nat):(bW l n m).length<=n:=by
 unfold bW;rw[zp];exact jE (zG _ _) (by simp)
theorem CS (l:List ShD) (n:Nat):qR l (n+1)=qR l n++bW l l.length n:=by
 unfold qR;rw[zi,List.flatMap_append];simp
theorem mK (l:List ShD):∀n,(qR l n).length<=l.length*n
 |0=>ju _
 |n+1=>by
  have a:=mK l n
  have:=PS l l.length n
  rw[CS,jL,Nat.mul_succ]
  omega
theorem Ko {l:List ShD} {i k:Nat} {id:Int} (h:k<l.length):yk l i (k+1) id=(yk l i k id&& !decide (nth l k=nth l i)):=by
 unfold yk;rw[L.wd h,List.any_append];simp only[List.any_cons,List.any_nil,Bool.or_false,Bool.not_or,Bool.and_assoc]
theorem Hu:En:=by
 rintro⟨l,⟨⟩⟩ f;have f:l.length<=1000:=f;refine⟨⟨0,⟨⟨rfl,tZ,tZ⟩,rfl,tZ⟩,ju _⟩,fun x t=>⟨fun h=>⟨⟨0,⟨⟨rfl,tZ,tZ⟩,?_,tZ⟩,ju _⟩,fun y e _=>⟨fun a=> ?_,fun a=> ?_⟩⟩,fun h=> ?_⟩⟩;exact(j8 _).symm;have h:(x:Int)<=99:=ja h;have a:(y:Int)<l.length:=ja a;have e:y<=l.length:=e;refine⟨by omega,a,⟨0,⟨⟨rfl,?_,tZ⟩,tZ⟩,ju _⟩,fun z p=>⟨fun c=> ?_,fun c=> ?_⟩⟩;show decide (yy (nth l y)=(x:Int))=yk l y 0 (x:Int);unfold yk;simp;have c:(z:Int)<(y:Int):=ja c;have m:(z:Int)<l.length:=(by omega);have d:=Ko (l:=l) (i:=y) (k:=z) (id:=(x:Int)) (by omega);exact⟨fun _=>by omega,fun _=>m,fun _=>by omega,fun _=>a,iZ6,z+1,⟨⟨by simp,d.symm,tZ⟩,tZ⟩,by show z+1<=y;omega,by show y-(z+1)<y-z;omega⟩;have c:¬(z:Int)<(y:Int):=jc c;have p:z<=y:=p;have n:z=y:=(by omega);subst n;have d:=VO l z x;have r:=PS l z x;have s:=mK l x;have q:l.length*x<=1000*99:=Nat.mul_le_mul f (by omega);have up:z+1<=l.length:=(by omega);have o:l.length-(z+1)<l.length-z:=(by omega);refine⟨fun b=>⟨by omega,a,?_,iZ6,z+1,⟨⟨by simp,tZ,tZ⟩,?_,tZ⟩,up,o⟩,fun b=>⟨iZ6,z+1,⟨⟨tZ,by simp,tZ⟩,?_,tZ⟩,up,o⟩⟩;show((qR l x++bW l z x).length+1)*40<=140737488355328;rw[jL];omega;have b:(decide (yy (nth l z)=(x:Int))&&mb l z)=true:=b;show qR l x++bW l z x++[nth l z]=qR l x++bW l (z+1) x;rw[d,jh b,jM];have b:(decide (yy (nth l z)=(x:Int))&&mb l z)=false:=b;show qR l x++bW l z x=qR l x++bW l (z+1) x;rw[d,jd (by rw[b];simp),j8];have h:(x:Int)<=99:=ja h;have a:¬(y:Int)<l.length:=jc a;have e:y<=l.length:=e;have j:y=l.length:=(by omega);subst j;exact⟨iZ6,x+1,⟨⟨by simp,tZ,tZ⟩,(CS l x).symm,tZ⟩,by omega,by omega⟩;have h:¬(x:Int)<=99:=jc h;have g:x=100:=(by omega);subst g;rfl
theorem Er:wn PR 132 El:=qG Em Hu Tryz.func132 kcN koN
theorem CT {d:DyD} {p:Int} {l:List Int}:vL d p l=true↔(∀j:Nat,j<l.length->wZ (kD d) (y7 (U.bk d (nth l j))) p=true)/\(∀j:Nat,j<l.length->∀m:Nat,m<j->wq d (nth l j) (nth l m)=true)/\Ic d l<=Zh d:=by
 unfold vL Z0;rw[ji,ji,jT,jT,jm];refine and_congr ?_ (and_congr ?_ Iff.rfl);constructor;intro h j a;exact h _ (L.kB a);intro h b c;obtain⟨i,hi,rfl⟩:=L.mem_iff.1 c;exact h i hi;constructor;intro h j a m e;have:=h j (jA.2 a);rw[jT] at this;exact this _ (by rw[zc];exact⟨m,by omega,(L.wW (by omega)).symm⟩);intro h j a;have a:=jA.1 a;rw[jT];intro b c;rw[zc] at c;obtain⟨m,e,rfl⟩:=c;have:=h j a m (by omega);rw[L.wW (l:=l) (i:=m) (by omega)] at this;exact this
theorem CU {d:DyD} {p:Int} {l:List Int} (h:¬vL d p l=true):(false,())=(vL d p l,()):=by
 cases a:vL d p l with
 |false=>rfl
 |true=>exact absurd a h
theorem R1:NH:=by
 unfold NH jiR jfF jf9 Prod.q4;rintro⟨d,p,l,⟨⟩⟩ f t C;have f:AM d:=f;have t:LA d p:=t;obtain⟨J,A⟩:DB d l:=C;refine⟨⟨0,⟨⟨rfl,rfl,tZ⟩,tZ⟩,ju _,fun j s=>by omega,fun j s=>by omega⟩,fun x q _=>⟨fun h=> ?_,fun h=> ?_⟩⟩;have h:(x:Int)<l.length:=ja h;have a:x<l.length:=(by omega);have n:=A _ (L.kB a);have B:=bg f.2.2 n;have D:=M8 f.2.2 A x (by omega);have E:=pm (d:=d) a;have o:ww (kD d) (y7 (U.bk d (nth l x)))=true:=by
  have:=f.2.1;unfold Ib at this;exact jT.1 this _ (jcJ n)
 have H:kH (cj (U.bk d (nth l x))-wP (U.bk d (nth l x))):=iZ6;have I:kH (qS d l x+(cj (U.bk d (nth l x))-wP (U.bk d (nth l x)))):=iZ6;refine⟨by omega,h,n.1,n.2,t,o,fun b=> ?_,fun b=>⟨H,I,⟨0,⟨⟨rfl,tZ⟩,tZ⟩,ju _,fun m g=>by omega⟩,fun y u=>⟨fun k=> ?_,fun k=> ?_⟩⟩⟩;have b:wZ (kD d) (y7 (U.bk d (nth l x))) p=false:=(by simpa using(show(!wZ (kD d) (y7 (U.bk d (nth l x))) p)=true from b));exact CU (d:=d) (p:=p) (l:=l) (fun r=>by
  have:=(CT.1 r).1 x a;rw[b] at this;cases this)
 have k:(y:Int)<(x:Int):=ja k;have v:(y:Int)<l.length:=(by omega);refine⟨by omega,h,by omega,v,f,n,A _ (L.kB (l:=l) (i:=y) (by omega)),fun c=> ?_,fun c=>⟨iZ6,y+1,⟨⟨by simp,tZ⟩,tZ⟩,⟨by show y+1<=x;omega,fun m g=> ?_⟩,by show x-(y+1)<x-y;omega⟩⟩;have c:wq d (nth l x) (nth l y)=false:=(by simpa using(show(!wq d (nth l x) (nth l y))=true from c));exact CU (d:=d) (p:=p) (l:=l) (fun r=>by
  have:=(CT.1 r).2.1 x a y (by omega);rw[c] at this;cases this)
 have c:wq d (nth l x) (nth l y)=true:=(by simpa using(show(!wq d (nth l x) (nth l y))=false from c));by_cases e:m=y;subst e;exact c;exact u.2 m (by omega);have k:¬(y:Int)<(x:Int):=jc k;have G:y<=x:=u.1;have w:y=x:=(by omega);subst w;have b:wZ (kD d) (y7 (U.bk d (nth l y))) p=true:=(by simpa using(show(!wZ (kD d) (y7 (U.bk d (nth l y))) p)=false from b));refine⟨iZ6,y+1,⟨⟨by simp,E.symm,tZ⟩,tZ⟩,⟨by show y+1<=l.length;omega,fun j s=> ?_,fun j s m g=> ?_⟩,by show l.length-(y+1)<l.length-y;omega⟩;by_cases e:j=y;subst e;exact b;exact q.2.1 j (by omega);by_cases e:j=y;subst e;exact u.2 m g;exact q.2.2 j (by omega) m g;have h:¬(x:Int)<l.length:=jc h;have F:x<=l.length:=q.1;have a:x=l.length:=(by omega);subst a;have g:qS d l l.length=Ic d l:=by
  unfold qS;rw[zv (jk _)]
 show(decide (qS d l l.length<=Zh d),())=(vL d p l,());rw[g];refine jG (fun z=>(z,())) ?_;rw[j0,jm,CT];exact⟨fun h=>⟨q.2.1,q.2.2,h⟩,fun h=>h.2.2⟩
theorem jcN {d:DyD} {a b:Int} (h:y8 d b a=true):wq d a b=decide (cj (U.bk d b)+Ao d+ON d b a<=wP (U.bk d a)):=by
 unfold wq;rw[jh h];refine decide_eq_decide.2 ?_;unfold aH;omega
theorem jbe {d:DyD} {a b:Int} (h:y8 d b a=false):wq d a b=decide (cj (U.bk d a)+Ao d+ON d a b<=wP (U.bk d b)):=by
 unfold wq;rw[h,jd (by simp)];refine decide_eq_decide.2 ?_;unfold aH;omega
theorem PT (d:DyD) (a b:Int):y8 d b a=(decide (wP (U.bk d b)<wP (U.bk d a))||decide (wP (U.bk d b)=wP (U.bk d a))&&decide (b<a)):=by
 unfold y8;rw[j0];simp only[zr,ji,jm]
theorem Hv:Ek:=by
 unfold Ek jiQ jfW jgV je6 je5;rintro⟨d,a,b,⟨⟩⟩ c e f;have c:AM d:=c;have e:gg d a:=e;have f:gg d b:=f;have m:=bg c.2.2 e;have n:=bg c.2.2 f;have p:=CI c.2.2 e f;have q:=CI c.2.2 f e;have o:=(vb c.2.2).2.2.1;have r:=(sn c.2.2 (i:=(S9 (U.bk d a)).toNat) (by omega)).1;have s:=(sn c.2.2 (i:=(S9 (U.bk d b)).toNat) (by omega)).1;have g:=e.1;have j:=e.2;have k:=f.1;have l:=f.2;refine⟨k,l,g,j,fun _=>k,fun _=>l,fun _=>g,fun _=>j,fun h=>⟨k,l,g,j,?_,n.1.1,n.1.2,m.1.1,?_,?_,?_⟩,fun h=>⟨g,j,k,l,?_,m.1.1,m.1.2,n.1.1,?_,?_,?_⟩⟩;show kH (cj (U.bk d b)+Ao d);exact iZ6;show S9 (U.bk d a)<((nth (wt d) (S9 (U.bk d b)).toNat).length:Int);omega;show kH (cj (U.bk d b)+Ao d+ON d b a);exact iZ6;have h:y8 d b a=true:=(by rw[PT];exact h);exact jG (fun z=>(z,())) (jcN h).symm;show kH (cj (U.bk d a)+Ao d);exact iZ6;show S9 (U.bk d b)<((nth (wt d) (S9 (U.bk d a)).toNat).length:Int);omega;show kH (cj (U.bk d a)+Ao d+ON d a b);exact iZ6;have h:y8 d b a=false:=(by rw[PT];exact h);exact jG (fun z=>(z,())) (jbe h).symm
theorem Es:wn PR 135 Ej:=kY Hv Tryz.func135 kcN koN
theorem NL:wn PR 96 NF:=qG NG R1 Tryz.func96 (kcC Ho (kcC Es kcN)) koN
def jcO (d:DyD):Bool:=decide (4<((kE d).length:Int))|| !kl ((wt d).length:Int) 1 5|| !kl (Ao d) 0 300|| !kl (Zh d) 0 1440||decide (30<((wu d).length:Int))
def spH (s:SpD):Bool:=decide (U.lo s<0)||decide (U.hi s<U.lo s)||decide (300<U.hi s)
def bkH (n:Nat) (b:BkD):Bool:= !kl (S9 b) 0 ((n:Int)-1)||decide (wP b<0)||decide (cj b<=wP b)||decide (1440<cj b)
def shH (d:DyD) (s:ShD):Bool:= !kl (yy s) 0 99|| !kl (DL s) 0 9999|| !kl (W3 s) 1 2|| !W6 d (iV s)|| !Lk d (y9 s)
theorem VP (d:DyD):wR d=(!jcO d&&((wt d).all (bV (wt d).length)&&((kE d).all (l9 (wt d).length)&&(wu d).all (ma (kE d).length (kz (kD d)).length)))):=by
 unfold wR jcO;congr 1;rw[j0];simp only[kl,jO,jN,jF,zb,ji,jm];omega
theorem ZP (s:SpD):sK s= !spH s:=by
 unfold sK spH;rw[j0];simp only[jO,jN,jF,jm];omega
theorem ZQ (n:Nat) (b:BkD):l9 n b= !bkH n b:=by
 unfold l9 bkH;rw[j0];simp only[kl,jO,jN,jF,zb,ji,jm];omega
theorem ZR (d:DyD) (s:ShD):ma (kE d).length (kz (kD d)).length s= !shH d s:=by
 unfold ma shH W6 Lk;rw[j0];simp only[kl,jO,jN,zb,ji,jm];omega
theorem Kp {d:DyD} (h:jcO d=true\/(wt d).all (bV (wt d).length)=false\/(kE d).all (l9 (wt d).length)=false\/(wu d).all (ma (kE d).length (kz (kD d)).length)=false):(false,())=(wR d,()):=by
 have:wR d=false:=by
  rw[VP];rcases h with h|h|h|h<;>rw[h]<;>simp
 rw[this]
theorem Kq {α:Type} [Inhabited α] {l:List α} {p:α->Bool} {x:Nat} (a:x<l.length) (h:p (nth l x)=false):l.all p=false:=zY.2 ⟨_,L.kB a,by rw[h];simp⟩
theorem R2:Nw:=by
 unfold Nw jh8 jiP jhs jgU jiO jgT jh7 jgt jiN jgS jfn jfV jiM jgs Prod.q4;rintro⟨d,⟨⟩⟩ _ _ _;refine⟨fun h=>Kp (d:=d) (.inl h),fun k=> ?_⟩;have k:jcO d=false:=k;have l:=k;unfold jcO at l;simp only[kl,jN,jF,zb,ji,jm] at l;refine⟨⟨0,⟨⟨rfl,tZ⟩,tZ⟩,ju _,fun j g=>by omega⟩,fun x c _=>⟨fun h=> ?_,fun h=> ?_⟩⟩;have h:(x:Int)<(wt d).length:=ja h;have b:x<(wt d).length:=(by omega);refine⟨by omega,h,fun a=> ?_,fun a=>⟨⟨0,⟨⟨rfl,tZ⟩,tZ⟩,ju _,fun j g=>by omega⟩,fun y n=>⟨by omega,h,fun m=>⟨fun i=> ?_,fun i=> ?_⟩⟩⟩⟩;have a:¬((nth (wt d) x).length:Int)=(wt d).length:=ja a;refine Kp (d:=d) (.inr (.inl (Kq b ?_)));unfold bV;rw[zl (by omega)];rfl;have m:(nth (wt d) x).length<4611686018427387904:=m;have i:(y:Int)<(nth (wt d) x).length:=ja i;refine⟨by omega,h,by omega,i,fun f=> ?_,fun f=>⟨iZ6,y+1,⟨⟨by simp,tZ⟩,tZ⟩,⟨by show y+1<=(nth (wt d) x).length;omega,fun j g=> ?_⟩,by show(nth (wt d) x).length-(y+1)<(nth (wt d) x).length-y;omega⟩⟩;have f:spH (nth (nth (wt d) x) y)=true:=f;refine Kp (d:=d) (.inr (.inl (Kq b ?_)));have:(nth (wt d) x).all sK=false:=Kq (x:=y) (by omega) (by rw[ZP,f];rfl);unfold bV;rw[this,Bool.and_false];have f:spH (nth (nth (wt d) x) y)=false:=f;by_cases e:j=y;subst e;show sK (nth (nth (wt d) x) j)=true;rw[ZP,f];rfl;exact n.2 j (by omega);have i:¬(y:Int)<(nth (wt d) x).length:=jc i;have a:((nth (wt d) x).length:Int)=(wt d).length:=jP.1 (jc a);have o:(nth (wt d) x).all sK=true:=fU (by omega) n.2;refine⟨iZ6,x+1,⟨⟨by simp,tZ⟩,tZ⟩,⟨by show x+1<=(wt d).length;omega,fun j g=> ?_⟩,by show(wt d).length-(x+1)<(wt d).length-x;omega⟩;by_cases e:j=x;subst e;show bV (wt d).length (nth (wt d) j)=true;unfold bV;rw[o,jH (by omega)];rfl;exact c.2 j (by omega);have h:¬(x:Int)<(wt d).length:=jc h;have r:(wt d).all (bV (wt d).length)=true:=fU (by omega) c.2;clear c h;refine⟨⟨0,⟨⟨rfl,tZ⟩,tZ⟩,ju _,fun j g=>by omega⟩,fun x c _=>⟨fun h=> ?_,fun h=> ?_⟩⟩;have h:(x:Int)<(kE d).length:=ja h;have b:x<(kE d).length:=(by omega);refine⟨by omega,h,fun _=>⟨by show kH (((wt d).length:Int)-1);exact iZ6,fun a=> ?_,fun a=>⟨iZ6,x+1,⟨⟨by simp,tZ⟩,tZ⟩,⟨by show x+1<=(kE d).length;omega,fun j g=> ?_⟩,by show(kE d).length-(x+1)<(kE d).length-x;omega⟩⟩⟩;have a:bkH (wt d).length (nth (kE d) x)=true:=a;exact Kp (d:=d) (.inr (.inr (.inl (Kq b (by rw[ZQ,a];rfl)))));have a:bkH (wt d).length (nth (kE d) x)=false:=a;by_cases e:j=x;subst e;show l9 (wt d).length (nth (kE d) j)=true;rw[ZQ,a];rfl;exact c.2 j (by omega);have h:¬(x:Int)<(kE d).length:=jc h;have p:(kE d).all (l9 (wt d).length)=true:=fU (by omega) c.2;clear c h;refine⟨⟨0,⟨⟨rfl,tZ⟩,tZ⟩,ju _,fun j g=>by omega⟩,fun x c _=>⟨fun h=> ?_,fun h=> ?_⟩⟩;have h:(x:Int)<(wu d).length:=ja h;have b:x<(wu d).length:=(by omega);refine⟨by omega,h,fun a=> ?_,fun a=>⟨iZ6,x+1,⟨⟨by simp,tZ⟩,tZ⟩,⟨by show x+1<=(wu d).length;omega,fun j g=> ?_⟩,by show(wu d).length-(x+1)<(wu d).length-x;omega⟩⟩;have a:shH d (nth (wu d) x)=true:=a;exact Kp (d:=d) (.inr (.inr (.inr (Kq b (by rw[ZR,a];rfl)))));have a:shH d (nth (wu d) x)=false:=a;by_cases e:j=x;subst e;show ma (kE d).length (kz (kD d)).length (nth (wu d) j)=true;rw[ZR,a];rfl;exact c.2 j (by omega);have h:¬(x:Int)<(wu d).length:=jc h;have q:(wu d).all (ma (kE d).length (kz (kD d)).length)=true:=fU (by omega) c.2;show(true,())=(wR d,());rw[VP,k,r,p,q];rfl
theorem NM:wn PR 56 Nu:=qG Nv R2 Tryz.func56 (kcC lW (kcC CR (kcC Ep kcN))) koN
theorem pq:wn PR 31 NA:=qG NB R0 Tryz.func31 (kcC uZ (kcC Np (kcC NM (kcC NK kcN)))) koN
namespace U
def vf (l:List ShD) (i n:Nat):Bool:=decide (W3 (nth l i)=1)&& !((l.take n).any (fun t=>decide (iV t=iV (nth l i))&&decide (y9 t=y9 (nth l i))&&qj t (nth l i)))
def kI (l:List ShD) (n:Nat):List ShD:=((List.range n).filter (fun i=>vf l i l.length)).map (nth l)
def k8 (l:List ShD) (n:Nat):Nat:=(List.range n).foldl (fun f i=>if qj (nth l f) (nth l i)=true then i else f) 0
def ky (l:List ShD):Nat->List ShD×List ShD
 |0=>([],l)
 |n+1=>((ky l n).1++[nth (ky l n).2 (k8 (ky l n).2 (ky l n).2.length)],(ky l n).2.take (k8 (ky l n).2 (ky l n).2.length)++(ky l n).2.drop (k8 (ky l n).2 (ky l n).2.length+1))
def b7 (d:DyD):List ShD:=kI (kw (wu d)) (kw (wu d)).length
def ql (d:DyD):List ShD:=(ky (b7 d) (b7 d).length).1
def wb (d:DyD) (n:Nat):List Int×List Int:=((ql d).take n).foldl (bv d) (List.replicate (kE d).length 0,[])
def Ip (d:DyD):List Int×List Int:=wb d (ql d).length
def uw (d:DyD):List Int:=if ga d=0 then(Ip d).1 else[]
end U
def Kr:we:=⟨[.val tDy],[.slice tSh],false,fun d=>[(wu d.1).length<=1000],fun d=>(ql d.1,())⟩
def Ks:Ann:=fun r=>match r with
 |4=>some fun σ=>{X:=Nat,sl:=fun i=>[(5,.dat .int (i:Int)),(3,.own 3 tSh)],ob:=fun i=>[(3,some (.row 75 tSh false .yes (kI (gd (.slice tSh) σ 4) i)))],inv:=fun i=>i<=(gd (.slice tSh) σ 4).length,mu:=fun i=>(gd (.slice tSh) σ 4).length-i}
 |8=>some fun σ=>{X:=Nat,sl:=fun k=>[(7,.dat .int (k:Int)),(6,.dat .bool (vf (gd (.slice tSh) σ 4) (gd .int σ 5).toNat k))],ob:=fun _=>[],inv:=fun k=>k<=(gd (.slice tSh) σ 4).length,mu:=fun k=>(gd (.slice tSh) σ 4).length-k}
 |15=>some fun σ=>{X:=Nat,sl:=fun _=>[(3,.own 3 tSh),(8,.own 8 tSh)],ob:=fun n=>[(3,some (.row 75 tSh false .unk (ky (gr tSh σ 3) n).2)),(8,some (.row 75 tSh false .yes (ky (gr tSh σ 3) n).1))],inv:=fun n=>n<=(gr tSh σ 3).length,mu:=fun n=>(gr tSh σ 3).length-n}
 |18=>some fun σ=>{X:=Nat,sl:=fun i=>[(10,.dat .int (i:Int)),(9,.dat .int (k8 (gr tSh σ 3) i:Int))],ob:=fun _=>[],inv:=fun i=>i<=(gr tSh σ 3).length,mu:=fun i=>(gr tSh σ 3).length-i}
 |_=>none
abbrev jeH (d:DyD×Unit):=(kw d.1.q4.2.1)
abbrev jgv (d:DyD×Unit)(a:Nat)(x:Nat):=((nth (jeH d) (a:Int).toNat).2.2.2.1=(nth (jeH d) (x:Int).toNat).2.2.2.1)
abbrev jiS (d:DyD×Unit)(a:Nat)(x:Nat):=((nth (jeH d) (a:Int).toNat).q4.1=(nth (jeH d) (x:Int).toNat).q4.1)
abbrev jfe (d:DyD×Unit):=(↑(jeH d).length:Int)
abbrev jiT (d:DyD×Unit)(a:Nat)(x:Nat):=(decide (jgv d a x)&&decide (jiS d a x)&&qj (nth (jeH d) (a:Int).toNat) (nth (jeH d) (x:Int).toNat))
abbrev jht (d:DyD×Unit)(a:Nat)(x:Nat):=(decide (jgv d a x)&&decide (jiS d a x))
abbrev jfG (d:DyD×Unit)(x:Nat):=(kI (jeH d) x)
abbrev jeM (d:DyD×Unit)(x:Nat)(a:Nat):=(ky (jfG d x) a)
abbrev jeU (d:DyD×Unit)(x:Nat)(a:Nat)(b:Nat):=(↑(k8 (jeM d x a).2 b):Int)
abbrev jfa (d:DyD×Unit)(x:Nat)(a:Nat):=(↑(jeM d x a).2.length:Int)
def Kt:Prop:=∀(d:DyD×Unit),(wu d.1).length<=1000->d.1.q4.2.1.length<=1000/\(∃(x:Nat),((0=(x:Int)/\True/\True)/\kI (jeH d) x=[]/\True)/\x<=(jeH d).length)/\∀(x:Nat),x<=(jeH d).length->(jeH d).length<4611686018427387904->(decide ((x:Int)<(jfe d))=true->0<=(x:Int)/\(x:Int)<(jfe d)/\(∃(a:Nat),((0=(a:Int)/\decide ((nth (jeH d) (x:Int).toNat).2.2.1=1)=vf (jeH d) (x:Int).toNat a/\True)/\True)/\a<=(jeH d).length)/\∀(a:Nat),a<=(jeH d).length->(jeH d).length<4611686018427387904->(decide ((a:Int)<(jfe d))=true->0<=(a:Int)/\(a:Int)<(jfe d)/\0<=(x:Int)/\(x:Int)<(jfe d)/\(decide (jgv d a x)=true->0<=(a:Int))/\(decide (jgv d a x)=true->(a:Int)<(jfe d))/\(decide (jgv d a x)=true->0<=(x:Int))/\(decide (jgv d a x)=true->(x:Int)<(jfe d))/\((jht d a x)=true->0<=(a:Int))/\((jht d a x)=true->(a:Int)<(jfe d))/\((jht d a x)=true->0<=(x:Int))/\((jht d a x)=true->(x:Int)<(jfe d))/\((jiT d a x)=true->kH ((a:Int)+1)/\∃(c:Nat),(((a:Int)+1=(c:Int)/\false=vf (jeH d) (x:Int).toNat c/\True)/\True)/\c<=(jeH d).length/\(jeH d).length-c<(jeH d).length-a)/\((jiT d a x)=false->kH ((a:Int)+1)/\∃(c:Nat),((vf (jeH d) (x:Int).toNat a=vf (jeH d) (x:Int).toNat c/\(a:Int)+1=(c:Int)/\True)/\True)/\c<=(jeH d).length/\(jeH d).length-c<(jeH d).length-a))/\(decide ((a:Int)<(jfe d))=false->(vf (jeH d) (x:Int).toNat a=true->0<=(x:Int)/\(x:Int)<(jfe d)/\((jfG d x).length+[nth (jeH d) (x:Int).toNat].length)*40<=140737488355328/\kH ((x:Int)+1)/\∃(c:Nat),(((x:Int)+1=(c:Int)/\True/\True)/\kI (jeH d) x++[nth (jeH d) (x:Int).toNat]=kI (jeH d) c/\True)/\c<=(jeH d).length/\(jeH d).length-c<(jeH d).length-x)/\(vf (jeH d) (x:Int).toNat a=false->kH ((x:Int)+1)/\∃(c:Nat),((True/\(x:Int)+1=(c:Int)/\True)/\kI (jeH d) x=kI (jeH d) c/\True)/\c<=(jeH d).length/\(jeH d).length-c<(jeH d).length-x)))/\(decide ((x:Int)<(jfe d))=false->(∃(a:Nat),((True/\True/\True)/\kI (jeH d) x=(jeM d x a).2/\(jeM d x a).1=[]/\True)/\a<=(jfG d x).length)/\∀(a:Nat),a<=(jfG d x).length->(jeM d x a).2.length<4611686018427387904->(decide ((0:Int)<(jfa d x a))=true->(∃(b:Nat),((0=(b:Int)/\(0:Int)=(jeU d x a b)/\True)/\True)/\b<=(jeM d x a).2.length)/\∀(b:Nat),b<=(jeM d x a).2.length->(jeM d x a).2.length<4611686018427387904->(decide ((b:Int)<(jfa d x a))=true->(0:Int)<=(jeU d x a b)/\(jeU d x a b)<(jfa d x a)/\0<=(b:Int)/\(b:Int)<(jfa d x a)/\(qj (nth (jeM d x a).2 (jeU d x a b).toNat) (nth (jeM d x a).2 (b:Int).toNat)=true->kH ((b:Int)+1)/\∃(c:Nat),(((b:Int)+1=(c:Int)/\(b:Int)=(↑(k8 (jeM d x a).2 c):Int)/\True)/\True)/\c<=(jeM d x a).2.length/\(jeM d x a).2.length-c<(jeM d x a).2.length-b)/\(qj (nth (jeM d x a).2 (jeU d x a b).toNat) (nth (jeM d x a).2 (b:Int).toNat)=false->kH ((b:Int)+1)/\∃(c:Nat),(((jeU d x a b)=(↑(k8 (jeM d x a).2 c):Int)/\(b:Int)+1=(c:Int)/\True)/\True)/\c<=(jeM d x a).2.length/\(jeM d x a).2.length-c<(jeM d x a).2.length-b))/\(decide ((b:Int)<(jfa d x a))=false->(0:Int)<=(jeU d x a b)/\(jeU d x a b)<(jfa d x a)/\((jeM d x a).1.length+[nth (jeM d x a).2 (jeU d x a b).toNat].length)*40<=140737488355328/\(0:Int)<=0/\(0:Int)<=(jeU d x a b)/\(jeU d x a b)<=(jfa d x a)/\(0+(List.take ((jeU d x a b).toNat-Int.toNat 0) (List.drop (Int.toNat 0) (jeM d x a).2)).length)*40<=140737488355328/\kH ((jeU d x a b)+1)/\(0:Int)<=(jeU d x a b)+1/\(jeU d x a b)+1<=(jfa d x a)/\(jfa d x a)<=(jfa d x a)/\(([]++List.take ((jeU d x a b).toNat-Int.toNat 0) (List.drop (Int.toNat 0) (jeM d x a).2)).length+(List.take ((jfa d x a).toNat-((jeU d x a b)+1).toNat) (List.drop ((jeU d x a b)+1).toNat (jeM d x a).2)).length)*40<=140737488355328/\∃(c:Nat),((True/\True/\True)/\[]++List.take ((jeU d x a b).toNat-Int.toNat 0) (List.drop (Int.toNat 0) (jeM d x a).2)++List.take ((jfa d x a).toNat-((jeU d x a b)+1).toNat) (List.drop ((jeU d x a b)+1).toNat (jeM d x a).2)=(ky (jfG d x) c).2/\(jeM d x a).1++[nth (jeM d x a).2 (jeU d x a b).toNat]=(ky (jfG d x) c).1/\True)/\c<=(jfG d x).length/\(jfG d x).length-c<(jfG d x).length-a))/\(decide ((0:Int)<(jfa d x a))=false->((jeM d x a).1,())=(ql d.1,())))
def NN:qk:=⟨[.own (.cl (.row 3 .int .no)) true,.val .int],[.cl (.row 3 .int .yes)],fun d=>[d.1.length<=1000,0<=d.2.1/\d.2.1<=63],fun d=>((U.on d.1 d.2.1,()),(d.1,()))⟩
def NO:Ann:=fun r=>match r with
 |3=>some fun σ=>{X:=Nat,sl:=fun i=>[(6,.dat .int (i:Int)),(5,.own 5 .int)],ob:=fun i=>[(5,some (.row 3 .int false .yes (nC (gr .int σ 1000000) (gd .int σ 1) i)))],inv:=fun i=>i<=(gr .int σ 1000000).length,mu:=fun i=>(gr .int σ 1000000).length-i}
 |_=>none
def NP:Prop:=∀(d:List Int×Int×Unit),d.1.length<=1000->0<=d.2.1/\d.2.1<=63->(∃(x:Nat),((0=(x:Int)/\True/\True)/\nC d.1 d.2.1 x=[]/\True)/\x<=d.1.length)/\∀(x:Nat),x<=d.1.length->d.1.length<4611686018427387904->(decide ((x:Int)<d.1.length)=true->0<=(x:Int)/\(x:Int)<d.1.length/\(0<=d.2.1/\d.2.1<=63)/\(wy (nth d.1 (x:Int).toNat) d.2.1=true->((nC d.1 d.2.1 x).length+[(x:Int)].length)*8<=140737488355328/\kH ((x:Int)+1)/\∃(a:Nat),(((x:Int)+1=(a:Int)/\True/\True)/\nC d.1 d.2.1 x++[(x:Int)]=nC d.1 d.2.1 a/\True)/\a<=d.1.length/\d.1.length-a<d.1.length-x)/\(wy (nth d.1 (x:Int).toNat) d.2.1=false->kH ((x:Int)+1)/\∃(a:Nat),((True/\(x:Int)+1=(a:Int)/\True)/\nC d.1 d.2.1 x=nC d.1 d.2.1 a/\True)/\a<=d.1.length/\d.1.length-a<d.1.length-x))/\(decide ((x:Int)<d.1.length)=false->(nC d.1 d.2.1 x,())=(U.on d.1 d.2.1,())/\(d.1,())=(d.1,()))
def NQ:we:=⟨[.val tDy],[.slice .int,.slice .int],false,fun d=>[ga d.1=0],fun d=>((Ip d.1).1,(Ip d.1).2,())⟩
def NR:Ann:=fun r=>match r with
 |4=>some fun σ=>{X:=Nat,sl:=fun i=>[(5,.dat .int (i:Int)),(2,.own 2 .int),(3,.own 3 .int)],ob:=fun i=>[(2,some (.row 3 .int false .no (wb (gb tDy σ 1) i).1)),(3,some (.row 3 .int false .yes (wb (gb tDy σ 1) i).2))],inv:=fun i=>i<=(ql (gb tDy σ 1)).length,mu:=fun i=>(ql (gb tDy σ 1)).length-i}
 |_=>none
abbrev jeT (d:DyD×Unit)(x:Nat):=(nth (ql d.1) (x:Int).toNat)
abbrev jfX (d:DyD×Unit):=(↑(ql d.1).length:Int)
abbrev jh9 (d:DyD×Unit)(x:Nat):=(U.on (wb d.1 x).1 (jeT d x).q4.1++[(jeT d x).2.2.2.1])
abbrev jiU (d:DyD×Unit)(x:Nat):=(nth (wb d.1 x).1 (jeT d x).2.2.2.1.toNat+1*2^(jeT d x).q4.1.toNat)
abbrev jgW (d:DyD×Unit):=(d.1.2.2.1.length:Int)
def NS:Prop:=∀(d:DyD×Unit),ga d.1=0->d.1.2.2.1.length<4611686018427387904->0<=(jgW d)/\(jgW d)=(jgW d)/\(jgW d).toNat*8<=140737488355328/\(wu d.1).length<=1000/\(∃(x:Nat),((0=(x:Int)/\True/\True/\True)/\List.replicate (jgW d).toNat 0=(wb d.1 x).1/\(wb d.1 x).2=[]/\True)/\x<=(ql d.1).length)/\∀(x:Nat),x<=(ql d.1).length->(ql d.1).length<4611686018427387904->(decide ((x:Int)<(jfX d))=true->0<=(x:Int)/\(x:Int)<(jfX d)/\0<=(x:Int)/\(x:Int)<(jfX d)/\(wb d.1 x).1.length<=1000/\((0:Int)<=(jeT d x).q4.1/\(jeT d x).q4.1<=63)/\0<=(x:Int)/\(x:Int)<(jfX d)/\((U.on (wb d.1 x).1 (jeT d x).q4.1).length+[(jeT d x).2.2.2.1].length)*8<=140737488355328/\AM d.1/\LA d.1 (jeT d x).q4.1/\DB d.1 (jh9 d x)/\(vL d.1 (jeT d x).q4.1 (jh9 d x)=true->0<=(x:Int)/\(x:Int)<(jfX d)/\(0:Int)<=(jeT d x).2.2.2.1/\(jeT d x).2.2.2.1<(↑(wb d.1 x).1.length:Int)/\0<=(x:Int)/\(x:Int)<(jfX d)/\(0:Int)<=(jeT d x).q4.1/\(jeT d x).q4.1<=18446744073709551615/\(0:Int)<=(jeT d x).q4.1/\(jeT d x).q4.1<=64/\kH ((1:Int)*2^(jeT d x).q4.1.toNat)/\kH (jiU d x)/\(0:Int)<=(jeT d x).2.2.2.1/\(jeT d x).2.2.2.1<(↑(wb d.1 x).1.length:Int)/\kH ((x:Int)+1)/\∃(a:Nat),((True/\True/\(x:Int)+1=(a:Int)/\True)/\(wb d.1 x).2=(wb d.1 a).2/\(wb d.1 x).1.set (jeT d x).2.2.2.1.toNat (jiU d x)=(wb d.1 a).1/\True)/\a<=(ql d.1).length/\(ql d.1).length-a<(ql d.1).length-x)/\(vL d.1 (jeT d x).q4.1 (jh9 d x)=false->0<=(x:Int)/\(x:Int)<(jfX d)/\((wb d.1 x).2.length+[(jeT d x).1].length)*8<=140737488355328/\kH ((x:Int)+1)/\∃(a:Nat),((True/\(x:Int)+1=(a:Int)/\True/\True)/\(wb d.1 x).2++[(jeT d x).1]=(wb d.1 a).2/\(wb d.1 x).1=(wb d.1 a).1/\True)/\a<=(ql d.1).length/\(ql d.1).length-a<(ql d.1).length-x))/\(decide ((x:Int)<(jfX d))=false->((wb d.1 x).1,(wb d.1 x).2,())=((Ip d.1).1,(Ip d.1).2,()))
def NU:we:=⟨[.val tDy],[.slice .int,.int],false,fun d=>[(kE d.1).length<=1000000],fun d=>(uw d.1,ga d.1,())⟩
def NV:Prop:=∀(d:DyD×Unit),(kE d.1).length<=1000000->(kE d.1).length<=1000000/\(decide (ga d.1≠0)=true->([],ga d.1,())=(uw d.1,ga d.1,()))/\(decide (ga d.1≠0)=false->ga d.1=0/\((Ip d.1).1,(0:Int),())=(uw d.1,ga d.1,()))
theorem R3:NP:=by
 rintro⟨l,p,⟨⟩⟩ e i;have e:l.length<=1000:=e;refine⟨⟨0,⟨⟨rfl,tZ,tZ⟩,rfl,tZ⟩,ju _⟩,fun x g _=>⟨fun h=> ?_,fun h=> ?_⟩⟩;have h:(x:Int)<l.length:=ja h;have b:=VN l p x;have f:=PQ l p x;have up:x+1<=l.length:=(by omega);have d:l.length-(x+1)<l.length-x:=(by omega);refine⟨by omega,h,i,fun a=>⟨?_,iZ6,x+1,⟨⟨by simp,tZ,tZ⟩,?_,tZ⟩,up,d⟩,fun a=>⟨iZ6,x+1,⟨⟨tZ,by simp,tZ⟩,?_,tZ⟩,up,d⟩⟩;show((nC l p x).length+1)*8<=140737488355328;omega;have a:wy (nth l x) p=true:=a;rw[jh a] at b;exact b.symm;have a:wy (nth l x) p=false:=a;rw[jd (by rw[a];simp),j8] at b;exact b.symm;have h:¬(x:Int)<l.length:=jc h;have g:x<=l.length:=g;have c:x=l.length:=(by omega);subst c;exact⟨rfl,rfl⟩
theorem NW:yR PR 97 NN:=rK NO R3 Tryz.func97 (kcC sr kcN) koN
theorem R4:NV:=by
 rintro⟨d,⟨⟩⟩ a;refine⟨a,fun h=> ?_,fun h=> ?_⟩;have h:ga d≠0:=ja h;show([],ga d,())=(uw d,ga d,());unfold uw;rw[jd h];have h:ga d=0:=jP.1 (jc h);refine⟨h,?_⟩;show((Ip d).1,(0:Int),())=(uw d,ga d,());unfold uw;rw[jh h,h]
theorem ub (l:List ShD) (n:Nat):k8 l (n+1)=if qj (nth l (k8 l n)) (nth l n)=true then n else k8 l n:=by
 unfold k8;rw[zi,jU];rfl
theorem mL (l:List ShD):∀n,n<=l.length->0<l.length->k8 l n<l.length
 |0,_,h=>h
 |n+1,a,h=>by
  have b:=mL l n (by omega) h
  rw[ub]
  split<;>omega
theorem mM (l:List ShD):∀n,n<=l.length->(ky l n).1.length=n/\(ky l n).2.length=l.length-n
 |0,_=>⟨rfl,rfl⟩
 |n+1,d=>by
  obtain⟨a,b⟩:=mM l n (by omega)
  have c:=mL (ky l n).2 _ (jk _) (by omega)
  refine⟨?_,?_⟩
  show((ky l n).1++[_]).length=_
  rw[jL,a];rfl
  show((ky l n).2.take _++(ky l n).2.drop _).length=_
  rw[jL,jY,zD]
  omega
theorem Yw {α:Type} [Inhabited α] {l:List α} {m:Nat} (h:m<l.length):(nth l m::(l.take m++l.drop (m+1))).Perm l:=by
 have e:l=l.take m++nth l m::l.drop (m+1):=by
  conv=>lhs;rw[<-kc m l]
  rw[kf h,L.wW h]
 conv=>rhs;rw[e]
 exact List.perm_middle.symm
theorem CV (l:List ShD):∀n,n<=l.length->((ky l n).1++(ky l n).2).Perm l
 |0,_=>List.Perm.refl _
 |n+1,d=>by
  have b:=CV l n (by omega)
  have c:=mM l n (by omega)
  have a:=mL (ky l n).2 _ (jk _) (by omega)
  refine List.Perm.trans ?_ b
  show((ky l n).1++[nth (ky l n).2 (k8 (ky l n).2 (ky l n).2.length)]++_).Perm _
  rw[jM]
  exact List.Perm.append_left _ (Yw a)
theorem PU {d:DyD} {n:Nat} (h:n<(ql d).length):wb d (n+1)=bv d (wb d n) (nth (ql d) n):=by
 unfold wb;rw[L.wd h,jU];rfl
theorem VQ {d:DyD} {s:ShD} (h:s∈ql d):s∈kw (wu d):=by
 have b:=CV (b7 d) (b7 d).length (jk _);have a:s∈b7 d:=b.mem_iff.1 (jg _ h);unfold b7 kI at a;obtain⟨i,hi,rfl⟩:=jV.1 a;exact L.kB (jA.1 (jR.1 hi).1)
theorem Hw {l:List ShD} {s:ShD} (h:s∈kw l):s∈l:=by
 unfold kw qR at h;obtain⟨m,_,h⟩:=List.mem_flatMap.1 h;unfold bW at h;obtain⟨i,hi,rfl⟩:=jV.1 h;exact L.kB (jA.1 (jR.1 hi).1)
theorem VR {d:DyD} (k:wR d=true) (j:kG (kD d)=true):∀n,n<=(ql d).length->(wb d n).1.length=(kE d).length/\(wb d n).2.length<=n/\∀b,b<(kE d).length->0<=nth (wb d n).1 b/\nth (wb d n).1 b<=128*(n:Int)
 |0,_=>by
  refine⟨zu,ju _,fun b a=> ?_⟩
  have:nth (wb d 0).1 b=0:=L.AP a
  rw[this];exact⟨zT 0,zT 0⟩
 |n+1,s=>by
  obtain⟨g,q,h⟩:=VR k j n (by omega)
  have p:=mJ k (Hw (VQ (L.kB (l:=ql d) (i:=n) (by omega))))
  have r:(kz (kD d)).length<=8:=(wo j).2.2.1
  have o:(2:Int)^(y9 (nth (ql d) n)).toNat<=128:=by
   rw[BT.AN];have:(2:Nat)^(y9 (nth (ql d) n)).toNat<=2^7:=Nat.pow_le_pow_right (by decide) (by omega);omega
  have m:(0:Int)<(2:Int)^(y9 (nth (ql d) n)).toNat:=by
   rw[BT.AN];have:=Nat.two_pow_pos (y9 (nth (ql d) n)).toNat;omega
  have f:(iV (nth (ql d) n)).toNat<(wb d n).1.length:=by
   have:=p.2;unfold gg at this;omega
  rw[PU (by omega)];unfold bv
  split
  refine⟨by show((wb d n).1.set _ _).length=_;rw[ki,g],by show(wb d n).2.length<=_;omega,fun b a=> ?_⟩;show 0<=nth ((wb d n).1.set _ _) b/\nth ((wb d n).1.set _ _) b<=_;rw[L.ai f];have c:=h b a
  split
  rename_i e;rw[e];omega;omega;refine⟨g,by show((wb d n).2++[_]).length<=_;rw[jL];simp;omega,fun b a=> ?_⟩;have c:=h b a;show 0<=nth (wb d n).1 b/\nth (wb d n).1 b<=_;omega
theorem Ku {d:DyD} (h:ga d=0):AM d:=(yJ ((cL d).trans h)).1
theorem jcP {t:List Int} {p b:Int} (h:b∈U.on t p):0<=b/\b<(t.length:Int):=by
 unfold U.on nC at h;obtain⟨i,hi,rfl⟩:=jV.1 h;have:=jA.1 (jR.1 hi).1;omega
theorem jbf (d:DyD):(ql d).length<=(wu d).length*100:=by
 have a:=(mM (b7 d) (b7 d).length (jk _)).1;have b:(b7 d).length<=(kw (wu d)).length:=by
  unfold b7 kI;rw[zp];exact jE (zG _ _) (by simp)
 have c:(kw (wu d)).length<=(wu d).length*100:=mK _ 100;show(ky (b7 d) (b7 d).length).1.length<=_;omega
theorem jcQ (t:List Int) (p:Int):(U.on t p).length<=t.length:=PQ t p t.length
theorem PV (d:DyD):wb d 0=(List.replicate ((kE d).length:Int).toNat 0,[]):=rfl
attribute [local irreducible] ql wb vL U.on
theorem R5:NS:=by
 unfold NS jgW jiU jh9 jfX jeT Prod.q4;rintro⟨d,⟨⟩⟩ m _;have m:ga d=0:=m;have a:=Ku m;have y:(kE d).length<=4:=(vb a.2.2).1;have w:(wu d).length<=30:=(vb a.2.2).2.2.2.2.1;have E:(kz (kD d)).length<=8:=(wo a.1).2.2.1;refine⟨jW _,rfl,by show((kE d).length:Int).toNat*8<=140737488355328;omega,by show(wu d).length<=1000;omega,⟨0,⟨⟨rfl,tZ,tZ,tZ⟩,(jG (·.1) (PV d)).symm,jG (·.2) (PV d),tZ⟩,ju _⟩,fun x v z=>⟨fun h=> ?_,fun h=> ?_⟩⟩;have h:(x:Int)<(ql d).length:=ja h;have B:=jbf d;have z:(ql d).length<=3000:=(by omega);obtain⟨C,G,D⟩:=VR a.2.2 a.1 x (by omega);have g:=mJ a.2.2 (Hw (VQ (L.kB (l:=ql d) (i:=x) (by omega))));have o:=g.2;unfold gg at o;have F:=D (iV (nth (ql d) x)).toNat (by omega);have j:=PU (d:=d) (n:=x) (by omega);have H:=jcQ (wb d x).1 (y9 (nth (ql d) x));have u:BT.w4 ((2:Int)^(y9 (nth (ql d) x)).toNat):=BT.fZ (by omega);unfold BT.w4 at u;have up:x+1<=(ql d).length:=(by omega);have t:(ql d).length-(x+1)<(ql d).length-x:=(by omega);have x0:(0:Int)<=(x:Int):=jW x;have q:0<=y9 (nth (ql d) x):=g.1.1;have r:y9 (nth (ql d) x)<=63:=(by omega);have s:y9 (nth (ql d) x)<=64:=(by omega);have k:y9 (nth (ql d) x)<=18446744073709551615:=(by omega);have bl:iV (nth (ql d) x)<((wb d x).1.length:Int):=(by omega);have i64:kH ((x:Int)+1):=iZ6;refine⟨x0,h,x0,h,by show(wb d x).1.length<=1000;omega,⟨q,r⟩,x0,h,by show((U.on (wb d x).1 (y9 (nth (ql d) x))).length+1)*8<=140737488355328;omega,a,g.1,⟨?_,fun b f=> ?_⟩,fun c=> ?_,fun c=> ?_⟩;show(U.on (wb d x).1 (y9 (nth (ql d) x))++[iV (nth (ql d) x)]).length<=12;rw[jL];simp;omega;rcases js.1 f with f|f;have:=jcP f;exact⟨this.1,by show b<((kE d).length:Int);rw[<-C];exact this.2⟩;simp at f;subst f;exact g.2;have c:vL d (y9 (nth (ql d) x)) (U.on (wb d x).1 (y9 (nth (ql d) x))++[iV (nth (ql d) x)])=true:=c;have e:wb d (x+1)=((wb d x).1.set (iV (nth (ql d) x)).toNat (nth (wb d x).1 (iV (nth (ql d) x)).toNat+2^(y9 (nth (ql d) x)).toNat),(wb d x).2):=by
  rw[j];unfold bv;rw[jh c]
 have A:(2:Int)^(y9 (nth (ql d) x)).toNat<4611686018427387904:=u.2;refine⟨x0,h,g.2.1,bl,x0,h,q,k,q,s,?_,?_,g.2.1,bl,i64,x+1,⟨⟨tZ,tZ,by simp,tZ⟩,?_,?_,tZ⟩,up,t⟩;show kH (1*2^(y9 (nth (ql d) x)).toNat);rw[lU];exact iZ6;show kH (nth (wb d x).1 (iV (nth (ql d) x)).toNat+1*2^(y9 (nth (ql d) x)).toNat);rw[lU];exact iZ6;show(wb d x).2=(wb d (x+1)).2;rw[e];show(wb d x).1.set (iV (nth (ql d) x)).toNat (nth (wb d x).1 (iV (nth (ql d) x)).toNat+1*2^(y9 (nth (ql d) x)).toNat)=(wb d (x+1)).1;rw[lU,e];have c:vL d (y9 (nth (ql d) x)) (U.on (wb d x).1 (y9 (nth (ql d) x))++[iV (nth (ql d) x)])=false:=c;have e:wb d (x+1)=((wb d x).1,(wb d x).2++[yy (nth (ql d) x)]):=by
  rw[j];unfold bv;rw[c,jd (by simp)]
 refine⟨x0,h,by show((wb d x).2.length+1)*8<=140737488355328;omega,i64,x+1,⟨⟨tZ,by simp,tZ,tZ⟩,?_,?_,tZ⟩,up,t⟩;show(wb d x).2++[yy (nth (ql d) x)]=(wb d (x+1)).2;rw[e];show(wb d x).1=(wb d (x+1)).1;rw[e];have h:¬(x:Int)<(ql d).length:=jc h;have v:x<=(ql d).length:=v;have p:x=(ql d).length:=(by omega);subst p;rfl
end Go.X
namespace Go.X
open U
theorem mN (c:CrD) (j:JbD) (i:Nat):(vA (c,j,cv c j,()) (nth (kz c) i)=0)↔wZ c j (i:Int)=true:=by
 show Ta (bX (nth (kz c) i) (Xj j)) (!wy (U.fd (nth (kz c) i)) (OM j)) (!wy (U.cl (nth (kz c) i)) (l8 j))=0↔
  (!(bX (nth (kz c) ((i:Int)).toNat) (Xj j))&&wy (U.fd (nth (kz c) ((i:Int)).toNat)) (OM j)&&wy (U.cl (nth (kz c) ((i:Int)).toNat)) (l8 j))=true
 rw[jw];generalize bX (nth (kz c) i) (Xj j)=x;generalize wy (U.fd (nth (kz c) i)) (OM j)=y;generalize wy (U.cl (nth (kz c) i)) (l8 j)=z;cases x<;>cases y<;>cases z<;>decide
theorem jbg {c:CrD} {j:JbD} (b:kG c=true) (d:ww c j=true) (p:Nat):(p:Int)∈cO c j↔p<(kz c).length/\wZ c j (p:Int)=true:=by
 have a:qH c j=0:=(by unfold qH;rw[b,d];rfl);unfold cO bZ;rw[jh a,jV];refine⟨fun⟨i,hi,e⟩=> ?_,fun h=>⟨p,?_,rfl⟩⟩;have e:i=p:=(by omega);subst e;have:=jR.1 hi;exact⟨jA.1 this.1,(mN c j i).1 (ja this.2)⟩;exact jR.2 ⟨jA.2 h.1,jH ((mN c j p).2 h.2)⟩
theorem VS {l:List Int} (h:∀p∈l,0<=p/\p<8):∀n,n<=l.length->∀q,BT.has (iw l n) q=(l.take n).any (fun p=>decide (p.toNat=q))
 |0,_,q=>BT.sS q
 |n+1,c,q=>by
  have b:=VS h n (by omega) q
  have a:=po h n (by omega)
  have d:=h _ (L.kB (l:=l) (i:=n) (by omega))
  rw[t8 (by omega),lU,BT.has_bor a.1 (BT.fZ (by omega)),b,BT.AO,L.wd (by omega),List.any_append]
  simp
theorem VT {l:List Int} (h:∀p∈l,0<=p/\p<8) (q:Nat):BT.has (Qi l) q=l.any (fun p=>decide (p.toNat=q)):=by
 have:=VS h l.length (jk _) q;rw[zw] at this;exact this
theorem Yx {d:DyD} {b:Nat} (a:b<(kE d).length):nth (vC d (kE d).length) b=Qi (cO (kD d) (y7 (nth (kE d) b))):=by
 unfold vC;rw[zw,L.nth_map a]
theorem VU {d:DyD} (a:AM d) {b:Nat} (c:b<(kE d).length):ww (kD d) (y7 (nth (kE d) b))=true:=
 jT.1 a.2.1 _ (L.kB c)
theorem jbh {d:DyD} (g:AM d) {b p:Int} (m:gg d b) (n:LA d p):decide (iy (nth (vC d (kE d).length) b.toNat/2^p.toNat) 1=0)= !wZ (kD d) (y7 (U.bk d b)) p:=by
 unfold gg at m;unfold LA at n;have a:b.toNat<(kE d).length:=(by omega);have j:=fun q (c:q∈cO (kD d) (y7 (nth (kE d) b.toNat)))=>Vz g.1 c
 have o:BT.w4 (Qi (cO (kD d) (y7 (nth (kE d) b.toNat)))):=(po j _ (jk _)).1;have i:U.bk d b=nth (kE d) b.toNat:=rfl;rw[Yx a,BT.bit_num o,i];have k:=VT j p.toNat;have f:=jbg g.1 (VU g a) p.toNat;have ep:((p.toNat:Nat):Int)=p:=(by omega);rw[ep] at f;have l:BT.has (Qi (cO (kD d) (y7 (nth (kE d) b.toNat)))) p.toNat=wZ (kD d) (y7 (nth (kE d) b.toNat)) p:=by
  rw[k];cases h:wZ (kD d) (y7 (nth (kE d) b.toNat)) p with
  |true=>exact j9.2 ⟨p,f.2 ⟨by omega,h⟩,by simp⟩
  |false=>
   refine ze.2 fun q c e=> ?_
   have e:q.toNat=p.toNat:=ja e;have:=j q c;have e:q=p:=(by omega);rw[e] at c;rw[(f.1 c).2] at h;cases h
 rw[l];cases wZ (kD d) (y7 (nth (kE d) b.toNat)) p<;>rfl
theorem Kv {α:Type} [Inhabited α] {R:α->α->Prop} {l:List α}:(∀i,i<l.length->∀b∈l.take i,R b (nth l i))↔l.Pairwise R:=by
 rw[zI];refine⟨fun h i j hi a d=> ?_,fun h i hi b c=> ?_⟩;have:=h j a l[i] (zc.2 ⟨i,by omega,rfl⟩);rw[L.wW a] at this;exact this;obtain⟨k,hk,rfl⟩:=zc.1 c;rw[L.wW hi];exact h k i (by omega) hi (by omega)
theorem VV {α:Type} [Inhabited α] {R:α->α->Prop} {l:List α}:(∀i,i<l.length->∀b∈l.drop (i+1),R (nth l i) b)↔l.Pairwise R:=by
 rw[zI];refine⟨fun h i j hi d c=> ?_,fun h i hi b a=> ?_⟩;have:=h i hi l[j] (List.mem_drop_iff_getElem.2 ⟨j-(i+1),by omega,by congr 1;omega⟩);rw[L.wW hi] at this;exact this;obtain⟨k,hk,rfl⟩:=List.mem_drop_iff_getElem.1 a;rw[L.wW hi];exact h i (i+1+k) hi (by omega) (by omega)
theorem lX (d:DyD) (a b:Int):y8 d a b=true↔(wP (U.bk d a)<wP (U.bk d b)\/(wP (U.bk d a)=wP (U.bk d b)/\a<b)):=decide_eq_true_iff
theorem lY (d:DyD) (a b:Int):y8 d a b=false↔¬(wP (U.bk d a)<wP (U.bk d b)\/(wP (U.bk d a)=wP (U.bk d b)/\a<b)):=jF
theorem VW (d:DyD) (l:List Int):q9 (y8 d) l where
 irrefl x _:=(lY d x x).2 (by omega)
 trans x y z _ _ _ a b:=by
  have a:=(lX d x y).1 a;have b:=(lX d y z).1 b;exact(lX d x z).2 (by omega)
 total x y _ _ a b:=by
  have a:=(lY d x y).1 a;have b:=(lY d y x).1 b;omega
theorem CW {d:DyD} {a b:Int} (h:a≠b) (c:y8 d b a=false):y8 d a b=true:=by
 have c:=(lY d b a).1 c;exact(lX d a b).2 (by omega)
theorem R6 {d:DyD} {a b:Int} (c:y8 d a b=true):y8 d b a=false:=by
 have c:=(lX d a b).1 c;exact(lY d b a).2 (by omega)
theorem su {d:DyD} {a b:Int} (h:y8 d a b=true):(wq d b a=decide (0<=aH d a b))/\(wq d a b=decide (0<=aH d a b)):=by
 unfold wq;rw[jh h,R6 h,jd (by simp)];exact⟨rfl,rfl⟩
theorem Yy {d:DyD} {a b:Int} (h:a≠b):wq d a b=wq d b a:=by
 cases c:y8 d b a with
 |false=>have:=su (CW h c);rw[this.1,this.2]
 |true=>have:=su c;rw[this.1,this.2]
def TgR (d:DyD) (a b:Int):Prop:=a≠b->wq d b a=true
theorem VX {d:DyD} {l:List Int} (f:l.Nodup):Z0 d l=true↔l.Pairwise (TgR d):=by
 rw[<-Kv];unfold Z0;rw[jT];have e:∀i,i<l.length->∀b∈l.take i,b≠nth l i:=(Kv (R:=fun a b=>a≠b)).2 f;refine⟨fun h i hi b c _=> ?_,fun h i hi=>jT.2 fun b c=> ?_⟩;exact jT.1 (h i (jA.2 hi)) b c;exact h i (jA.1 hi) b c (e i (jA.1 hi) b c)
theorem TgR.symm {d:DyD} {a b:Int} (h:TgR d a b):TgR d b a:=fun e=>(Yy (Ne.symm e)).trans (h (Ne.symm e))
theorem VY {d:DyD} {l l':List Int} (h:l.Perm l'):Ic d l=Ic d l':=by
 unfold Ic;exact List.Perm.foldl_eq' (h.map _) (fun x _ y _ z=>by omega) 0
theorem Hx (d:DyD) (p:Int) {l:List Int} (a:l.Nodup):vL d p l=true↔(∀b∈l,wZ (kD d) (y7 (U.bk d b)) p=true)/\l.Pairwise (TgR d)/\Ic d l<=Zh d:=by
 unfold vL;rw[ji,ji,jT,VX a,decide_eq_true_iff]
theorem FV (d:DyD) (p:Int) {l l':List Int} (h:l.Perm l') (g:l.Nodup):vL d p l=vL d p l':=by
 have f:=h.nodup_iff.1 g;refine j0.2 ?_;rw[Hx d p g,Hx d p f,VY h,h.pairwise_iff (fun h=>TgR.symm h)];exact⟨fun⟨a,c⟩=>⟨fun b e=>a b (h.mem_iff.2 e),c⟩,fun⟨a,c⟩=>⟨fun b e=>a b (h.mem_iff.1 e),c⟩⟩
theorem Yz (d:DyD) (may:List Int) (p:Int) (s:List Int):jbY d may p s=true↔(∀b∈s,decide (iy (nth may b.toNat/2^p.toNat) 1=0)=false)/\s.Pairwise (fun a b=>0<=aH d a b)/\Ic d s<=Zh d:=by
 rw[<-VV];unfold jbY;rw[ji,decide_eq_true_iff,jT,<-and_assoc];refine and_congr_left fun _=> ?_
 have e:∀i,If d may p s i=true↔decide (iy (nth may (nth s i).toNat/2^p.toNat) 1=0)=false/\∀b∈s.drop (i+1),0<=aH d (nth s i) b:=by
  intro i;unfold If;rw[jO,jN,ze];refine and_congr_right fun _=>⟨fun h b c=> ?_,fun h b c=> ?_⟩
  have:=h b c;simp at this;omega;have:=h b c;simp;omega
 refine⟨fun h=>⟨fun b c=> ?_,fun i hi=>((e i).1 (h i (jA.2 hi))).2⟩,fun h i hi=>(e i).2 ⟨h.1 _ (L.kB (jA.1 hi)),h.2 i (jA.1 hi)⟩⟩;obtain⟨i,hi,rfl⟩:=L.mem_iff.1 c;exact((e i).1 (h i (jA.2 hi))).1
theorem jbi {d:DyD} {may:List Int} {p:Int} {l:List Int} (m:l.Nodup) (j:∀b∈l,decide (iy (nth may b.toNat/2^p.toNat) 1=0)= !wZ (kD d) (y7 (U.bk d b)) p):OO d may p l=vL d p l:=by
 have f:(kJ d l).Perm l:=wF l;have c:(kJ d l).Nodup:=f.nodup_iff.2 m;have k:(kJ d l).Pairwise (fun a b=>y8 d b a=false):=bt (VW d l);rw[<-FV d p f c];unfold OO;refine j0.2 ?_;rw[Yz,Hx d p c];have i:=List.Pairwise.and k c;refine and_congr ⟨fun h b e=> ?_,fun h b e=> ?_⟩ (and_congr_left fun _=>⟨fun h=> ?_,fun h=> ?_⟩);have g:=h b e;rw[j b (f.mem_iff.1 e)] at g;simpa using g;rw[j b (f.mem_iff.1 e),h b e];rfl;refine(List.Pairwise.and i h).imp fun{a b} x _=> ?_
 rw[(su (CW x.1.2 x.1.1)).1];exact jH x.2;refine(List.Pairwise.and i h).imp fun{a b} x=> ?_
 have:=x.2 x.1.2;rw[(su (CW x.1.2 x.1.1)).1] at this;exact ja this
theorem lZ (a b:ShD):qj a b=true↔(DL b<DL a\/(DL a=DL b/\yy b<yy a)):=decide_eq_true_iff
theorem sw (a b:ShD):qj a b=false↔¬(DL b<DL a\/(DL a=DL b/\yy b<yy a)):=jF
theorem cM (a:ShD):qj a a=false:=(sw a a).2 (by omega)
theorem FW {a b:ShD} (h:qj a b=true):qj b a=false:=by
 have h:=(lZ a b).1 h;exact(sw b a).2 (by omega)
theorem CX {a b c:ShD} (d:qj a b=true) (e:qj b c=true):qj a c=true:=by
 have d:=(lZ a b).1 d;have e:=(lZ b c).1 e;exact(lZ a c).2 (by omega)
theorem YA (a b:ShD):kN a b<0↔qj b a=true:=by
 rw[lZ];unfold kN;rw[wG,qP]
 split
 rename_i h;have c:¬DL a=DL b:=fun e=>h (ae.2 e)
 rw[Vg];omega;rename_i h;have d:DL a=DL b:=ae.1 (jP.1 h);rw[Vg];omega
theorem jbj {l:List ShD} (hi:∀a∈l,∀b∈l,yy a=yy b->a=b):q9 jbX l where
 irrefl x _:=cM x
 trans x y z _ _ _ c d:=CX d c
 total x y hx hy c d:=by
  have c:=(sw y x).1 c;have d:=(sw x y).1 d;exact hi x hx y hy (by omega)
theorem VZ {l:List ShD}:∀i,i<l.length->∃j,j<l.length/\nth l j=nth l i/\mb l j=true:=by
 intro i
 induction i using Nat.strongRecOn with
 |_ i d=>
  intro hi;cases h:mb l i with
  |true=>exact⟨i,hi,rfl,h⟩
  |false=>
   simp only[mb,zb] at h;obtain⟨x,c,e⟩:=j9.1 h;obtain⟨k,hk,rfl⟩:=zc.1 c;have e:l[k]=nth l i:=ja e;obtain⟨j,b,a,e2⟩:=d k (by omega) (by omega);exact⟨j,b,by rw[a,L.wW (by omega)];exact e,e2⟩
theorem jbk {l:List ShD} {s:ShD} (h:s∈l) (c:0<=yy s) (d:yy s<=99):s∈kw l:=by
 obtain⟨i,hi,rfl⟩:=L.mem_iff.1 h;obtain⟨j,b,a,e2⟩:=VZ i hi;unfold kw qR;refine List.mem_flatMap.2 ⟨(yy (nth l i)).toNat,jA.2 (by omega),?_⟩;unfold bW;refine jV.2 ⟨j,jR.2 ⟨jA.2 b,?_⟩,a⟩;show(decide (yy (nth l j)=(((yy (nth l i)).toNat:Nat):Int))&&mb l j)=true;rw[e2,a,Bool.and_true];exact jH (by omega)
theorem PW {l:List ShD} {n m:Nat} {s:ShD} (h:s∈bW l n m):yy s=(m:Int):=by
 unfold bW at h;obtain⟨i,hi,rfl⟩:=jV.1 h;have a:=(jR.1 hi).2;rw[ji] at a;exact ja a.1
theorem R7 (l:List ShD):(kw l).Nodup:=by
 unfold kw qR;refine List.pairwise_flatMap.2 ⟨fun m _=> ?_,?_⟩;unfold bW;refine zX.2 (List.Pairwise.imp_of_mem ?_ (List.Pairwise.filter _ List.pairwise_lt_range));intro i j hi c k e;have c:=jR.1 c;have d:=c.2;rw[ji] at d;have f:=d.2;have n:=jA.1 c.1;have o:((l.take j).any (fun x=>decide (x=nth l j)))=true:=
  j9.2 ⟨nth l i,zc.2 ⟨i,by omega,(L.wW (by omega)).symm⟩,jH e⟩
 unfold mb at f;rw[o] at f;cases f;refine List.Pairwise.imp ?_ List.pairwise_lt_range;intro a b h x p y q e;have g:=PW p;have d:=PW q;rw[e] at g;omega
theorem PX (t s:ShD):eH t=eH s↔iV t=iV s/\y9 t=y9 s:=by
 unfold eH;refine⟨fun h=>⟨jG (·.1) h,jG (·.2.1) h⟩,fun h=>by rw[h.1,h.2]⟩
theorem NX (l:List ShD) (s:ShD):AL l s=true↔W3 s=1/\∀t∈l,eH t=eH s->qj t s=false:=by
 unfold AL;rw[ji,decide_eq_true_iff,jO,ze];refine and_congr_right fun _=>⟨fun h t a e=> ?_,fun h t a e=> ?_⟩
 have e:=(PX t s).1 e;have:=h t a;rw[e.1,e.2,jH rfl,jH rfl] at this;simpa using this;rw[ji,ji,decide_eq_true_iff,decide_eq_true_iff] at e;rw[h t a ((PX t s).2 e.1)] at e;exact absurd e.2 (by simp)
theorem V0 (d:DyD):b7 d=(kw (wu d)).filter (AL (kw (wu d))):=by
 unfold b7;generalize kw (wu d)=l;unfold kI;have e:(fun i=>vf l i l.length)=(AL l)∘(nth l):=by
  funext i;unfold vf;rw[zw];rfl
 rw[e];have:=List.filter_map (f:=nth l) (p:=AL l) (l:=List.range l.length);rw[<-this,L.range_map_nth]
theorem Kw (l:List ShD):∀n,∀i,i<n->qj (nth l (k8 l n)) (nth l i)=false
 |0,i,h=>absurd h (by omega)
 |n+1,i,h=>by
  have b:=Kw l n
  rw[ub]
  split
  rename_i a
  rcases Nat.lt_succ_iff_lt_or_eq.1 h with h|h
  cases c:qj (nth l n) (nth l i) with
  |false=>rfl
  |true=>have:=CX a c;rw[b i h] at this;cases this
  subst h;exact cM _
  rename_i a
  rcases Nat.lt_succ_iff_lt_or_eq.1 h with h|h
  exact b i h
  subst h;simpa using a
theorem V1 (l:List ShD):∀n,n<=l.length->(ky l n).1.Pairwise (fun a b=>qj a b=false)/\∀a∈(ky l n).1,∀b∈(ky l n).2,qj a b=false
 |0,_=>⟨List.Pairwise.nil,fun a d=>by cases d⟩
 |n+1,m=>by
  obtain⟨j,g⟩:=V1 l n (by omega)
  have k:=mM l n (by omega)
  have h:=mL (ky l n).2 _ (jk _) (by omega)
  have e:=Kw (ky l n).2 (ky l n).2.length
  have f:∀b∈(ky l n).2.take (k8 (ky l n).2 (ky l n).2.length)++(ky l n).2.drop (k8 (ky l n).2 (ky l n).2.length+1),b∈(ky l n).2:=by
   intro b c;rcases js.1 c with c|c;exact zU c;exact kg c
  refine⟨List.pairwise_append.2 ⟨j,List.pairwise_singleton _ _,fun a d b c=> ?_⟩,fun a d b c=> ?_⟩;simp at c;subst c;exact g a d _ (L.kB h);have c:=f b c;have d:a∈(ky l n).1++[nth (ky l n).2 (k8 (ky l n).2 (ky l n).2.length)]:=d;rcases js.1 d with d|d;exact g a d b c;simp at d;subst d;obtain⟨i,hi,rfl⟩:=L.mem_iff.1 c;exact e i hi
theorem jbl (d:DyD):Q4 jbX (ql d):=(V1 (b7 d) _ (jk _)).1
theorem PY (d:DyD):(ql d).Perm (b7 d):=by
 have a:=CV (b7 d) (b7 d).length (jk _);have b:=(mM (b7 d) (b7 d).length (jk _)).2;have:(ky (b7 d) (b7 d).length).2=[]:=List.length_eq_zero_iff.1 (by omega);rw[this,j8] at a;exact a
theorem PZ {l:List ShD} (i:l.Pairwise (fun a b=>qj b a=true)):∀n,n<=l.length->∀s∈l.take n,(wa (Ty.dflt tSh) (kO tSt (eH s) (qp l n))=s↔∀t∈l.take n,eH t=eH s->qj t s=false)
 |0,_,s,c=>by simp at c
 |n+1,k,s,c=>by
  have j:=PZ i n (by omega)
  have g:(l.take (n+1)).Pairwise (fun a b=>qj b a=true):=i.sublist (List.take_sublist _ _)
  rw[L.wd (by omega)] at g c
  have f:∀t∈l.take n,qj (nth l n) t=true:=fun t d=>(List.pairwise_append.1 g).2.2 t d _ (by simp)
  rw[CN (by omega),L.wd (by omega)]
  by_cases hk:eH s=eH (nth l n)
  rw[hk,M.pF]
  show nth l n=s↔_
  rcases js.1 c with c|c
  refine⟨fun e=> ?_,fun h=> ?_⟩
  have:=f s c
  rw[e,cM] at this;cases this
  have:=h (nth l n) (by simp) rfl
  rw[f s c] at this;cases this
  simp at c;subst c
  refine⟨fun _ t d _=> ?_,fun _=>rfl⟩
  rcases js.1 d with d|d
  exact FW (f t d)
  simp at d;subst d;exact cM _
  rw[M.dm hk]
  have c:s∈l.take n:=by
   rcases js.1 c with c|c;exact c;simp at c;subst c;exact absurd rfl hk
  rw[j s c];refine⟨fun h t d e=> ?_,fun h t d=>h t (jg _ d)⟩;rcases js.1 d with d|d;exact h t d e;simp at d;subst d;exact absurd e.symm hk
theorem V2 {d:DyD} (h:wx d=0):(qx d).Pairwise (fun a b=>qj b a=true):=by
 have f:=jej h;have g:Q4 (ku tSh fun x=>(kN x.1 x.2.1,())) (qx d):=bt f;have e:∀s∈qx d,s∈wI (wu d):=fun s i=>(wF _).mem_iff.1 i
 refine List.Pairwise.imp_of_mem ?_ (List.Pairwise.and g (eg d));intro a b j k ⟨h1,h2⟩;cases c:ku tSh (fun x=>(kN x.1 x.2.1,())) a b with
 |false=>exact absurd (f.total a b (e a j) (e b k) c h1) h2
 |true=>
  have c:kN a b<0:=ja c;exact(YA a b).1 c
theorem Kx {d:DyD} (h:wx d=0) {s:ShD} (a:s∈qx d):vB (qp (qx d) (qx d).length) s=true↔W3 s=1/\∀t∈qx d,eH t=eH s->qj t s=false:=by
 have:=PZ (V2 h) (qx d).length (jk _) s (by rw[zw];exact a);rw[zw] at this;rw[<-this];unfold vB;rw[jO,jN,zb,zb,decide_eq_true_iff,decide_eq_true_iff];exact and_comm
theorem V3 {d:DyD} (h:wR d=true) {s:ShD} (a:s∈wu d):0<=yy s/\yy s<=99:=by
 have:=(vb h).2.2.2.2.2.2.2 _ a;unfold ma at this;have:=ja this;omega
def Xi (d:DyD):ShD->Bool:=vB (qp (qx d) (qx d).length)
theorem jcR {d:DyD} (h:wx d=0):(qx d).filter (Xi d)=ql d:=by
 have j:=yJ h;have f:∀s,s∈kw (wu d)↔s∈qx d:=fun s=>⟨fun c=>fT.2 (Hw c),fun c=>by
  have c:=fT.1 c;have:=V3 j.1.2.2 c;exact jbk c this.1 this.2⟩
 have g:∀s,s∈(qx d).filter (Xi d)↔s∈ql d:=by
  intro s;rw[(PY d).mem_iff,V0,jR,jR,f s];refine and_congr_right fun c=> ?_
  rw[NX];have:=Kx h c;refine this.trans (and_congr_right fun _=>⟨fun h t i=>h t ((f t).1 i),fun h t i=>h t ((f t).2 i)⟩)
 have n:((qx d).filter (Xi d)).Nodup:=List.Pairwise.filter _ (eg d);have o:(ql d).Nodup:=(PY d).nodup_iff.2 (by rw[V0];exact List.Pairwise.filter _ (R7 _));have m:=L.n7 n o g;refine oM (jbj ?_) m ?_ (jbl d);intro a k b l e;exact j.2 a (fT.1 (jR.1 k).1) b (fT.1 (jR.1 l).1) e;exact(List.Pairwise.filter _ (V2 h)).imp fun x=>FW x
structure Et (d:DyD) (x:List (List Int)×List Int) (y:List Int×List Int):Prop where
 ref:x.2=y.2
 len:y.1.length=(kE d).length
 set:∀b,b<(kE d).length->BT.w4 (nth y.1 b)
 bit:∀b,b<(kE d).length->∀p,BT.has (nth y.1 b) p=true↔p<(kz (kD d)).length/\(b:Int)∈nth x.1 p
theorem AI {t:Int} (h:BT.w4 t) (p:Int):wy t p=BT.has t p.toNat:=BT.has_shr h p.toNat
theorem jcS {d:DyD} {x:List (List Int)×List Int} {y:List Int×List Int} (h:Et d x y) {p:Int} (j:LA d p) (g:∀b∈nth x.1 p.toNat,gg d b) (n:Int):n∈U.on y.1 p↔n∈nth x.1 p.toNat:=by
 unfold LA at j;unfold U.on nC;rw[jV];refine⟨fun⟨i,hi,e⟩=> ?_,fun f=> ?_⟩;subst e;have hi:=jR.1 hi;have a:=jA.1 hi.1;rw[h.len] at a;have c:wy (nth y.1 i) p=true:=hi.2;rw[AI (h.set i a)] at c;exact((h.bit i a p.toNat).1 c).2;have hk:=g n f;unfold gg at hk;have en:((n.toNat:Nat):Int)=n:=(by omega);refine⟨n.toNat,jR.2 ⟨jA.2 (by rw[h.len];omega),?_⟩,en⟩;show wy (nth y.1 n.toNat) p=true;rw[AI (h.set _ (by omega))];exact(h.bit _ (by omega) _).2 ⟨by omega,by rw[en];exact f⟩
theorem YC (t:List Int) (p:Int):(U.on t p).Nodup:=by
 unfold U.on nC;refine zX.2 ((List.Pairwise.filter _ List.pairwise_lt_range).imp ?_);intro a b c e;omega
theorem jbm {d:DyD} {x:List (List Int)×List Int} {y:List Int×List Int} (h:Et d x y) {p:Int} (e:LA d p) (c:(nth x.1 p.toNat).Nodup) (a:∀b∈nth x.1 p.toNat,gg d b):(nth x.1 p.toNat).Perm (U.on y.1 p):=
 L.n7 c (YC _ _) (fun n=>(jcS h e a n).symm)
theorem jcT {d:DyD} (i:AM d) {x:List (List Int)×List Int} {y:List Int×List Int} (h:Et d x y) {p b:Int} (g:LA d p) (e:(nth x.1 p.toNat++[b]).Nodup) (f:∀c∈nth x.1 p.toNat++[b],gg d c):
 OO d (vC d (kE d).length) p (nth x.1 p.toNat++[b])=vL d p (U.on y.1 p++[b]):=by
 rw[jbi e (fun c a=>jbh i (f c a) g)];exact FV d p ((jbm h g (zH.1 e).1 (fun c a=>f c (jg _ a))).append_right [b]) e
theorem jcU {d:DyD} {x:List (List Int)×List Int} {y:List Int×List Int} (h:Et d x y) (v:x.1.length=(kz (kD d)).length) (u:(kz (kD d)).length<=8) {p b:Int} (t:LA d p) (s:gg d b) (i:b∉nth x.1 p.toNat):
 Et d (x.1.set p.toNat (nth x.1 p.toNat++[b]),x.2) (y.1.set b.toNat (nth y.1 b.toNat+2^p.toNat),y.2):=by
 unfold LA at t;unfold gg at s;have r:((b.toNat:Nat):Int)=b:=(by omega);have g:b.toNat<y.1.length:=(by rw[h.len];omega);have n:p.toNat<x.1.length:=(by omega);have o:=h.set b.toNat (by omega);have m:BT.has (nth y.1 b.toNat) p.toNat=false:=by
  cases j:BT.has (nth y.1 b.toNat) p.toNat with
  |false=>rfl
  |true=>exact absurd (by have:=((h.bit _ (by omega) _).1 j).2;rw[r] at this;exact this) i
 have a:=BT.add_two o (p:=p.toNat) (by omega) m;have j:=BT.fZ (k:=p.toNat) (by omega);refine⟨h.ref,by show(y.1.set _ _).length=_;rw[ki];exact h.len,fun c l=> ?_,fun c l q=> ?_⟩;show BT.w4 (nth (y.1.set b.toNat (nth y.1 b.toNat+2^p.toNat)) c);rw[L.ai g]
 split
 rw[a];exact BT.bor_set o j;exact h.set c l;show BT.has (nth (y.1.set b.toNat (nth y.1 b.toNat+2^p.toNat)) c) q=true↔_/\(c:Int)∈nth (x.1.set p.toNat (nth x.1 p.toNat++[b])) q;rw[L.ai g,L.ai n];by_cases f:b.toNat=c;rw[jh f,a,BT.has_bor o j,BT.AO,zr,decide_eq_true_iff,h.bit _ (by omega),<-f,r];by_cases e:p.toNat=q;rw[jh e];refine⟨fun _=>⟨by omega,by simp⟩,fun _=> .inr e⟩;rw[jd e];exact⟨fun h=>h.elim id (fun h=>absurd h e),.inl⟩;rw[jd f,h.bit c l];by_cases e:p.toNat=q;rw[jh e,js,<-e];refine and_congr_right fun _=>⟨.inl,fun h=>h.elim id (fun h=> ?_)⟩
 simp at h;omega;rw[jd e]
theorem YD (d:DyD):Et d (vH (LB d) (qx d) 0) (List.replicate (kE d).length 0,[]):=by
 have c:∀b,b<(kE d).length->nth (List.replicate (kE d).length (0:Int)) b=0:=fun b a=>L.AP a
 refine⟨rfl,zu,fun b a=> ?_,fun b a p=> ?_⟩;show BT.w4 (nth (List.replicate (kE d).length (0:Int)) b);rw[c b a];exact BT.DH;show BT.has (nth (List.replicate (kE d).length (0:Int)) b) p=true↔_/\(b:Int)∈nth (jcf d) p;rw[c b a,BT.sS];have f:jbZ (jcf d):=fun x g=>(List.mem_replicate.1 g).2
 have e:nth (jcf d) p=[]:=PO f p;rw[e];simp
def V4 (d:DyD) (i:Nat):List Int×List Int:=(((qx d).take i).filter (Xi d)).foldl (bv d) (List.replicate (kE d).length 0,[])
attribute [local irreducible] vH vL OO U.on V4 qx Xi LB vC in
theorem YE {d:DyD} (h:wx d=0) {i:Nat} (hi:i<(qx d).length) (ih:Et d (vH (LB d) (qx d) i) (V4 d i)) (_:cQ (LB d) (qx d) i (vH (LB d) (qx d) i)) (hrd:U.rd (LB d)=d) (hml:mg (LB d)=vC d (kE d).length)
 (hx:(vH (LB d) (qx d) i).1.length=(kz (kD d)).length) (hdec:Xi d=vB (qp (qx d) (qx d).length)) (hft:V4 d (i+1)=if Xi d (nth (qx d) i)=true then bv d (V4 d i) (nth (qx d) i) else V4 d i)
 (hnew:Xi d (nth (qx d) i)=true->(nth (vH (LB d) (qx d) i).1 (y9 (nth (qx d) i)).toNat++[iV (nth (qx d) i)]).Nodup/\∀b∈nth (vH (LB d) (qx d) i).1 (y9 (nth (qx d) i)).toNat++[iV (nth (qx d) i)],gg d b):
 Et d (vH (LB d) (qx d) (i+1)) (V4 d (i+1)):=by
 have hD:=(yJ h).1
 have h8:(kz (kD d)).length<=8:=(wo hD.1).2.2.1
 have hsf:=mJ hD.2.2 (fT.1 (L.kB (l:=qx d) (i:=i) hi))
 rw[hft]
 cases hc:Xi d (nth (qx d) i) with
 |false=>
  rw[hdec] at hc
  rw[PP hi hc,jd (by simp)]
  exact ih
 |true=>
  have hn:=hnew hc
  have hcan:=jcT hD ih (p:=y9 (nth (qx d) i)) (b:=iV (nth (qx d) i)) hsf.1 hn.1 hn.2
  rw[hdec] at hc
  rw[jh rfl]
  unfold bv
  cases hk:vL d (y9 (nth (qx d) i)) (U.on (V4 d i).1 (y9 (nth (qx d) i))++[iV (nth (qx d) i)]) with
  |true=>
   rw[hk] at hcan
   rw[Vw hi hc (by rw[hrd,hml];exact hcan),jh rfl]
   refine jcU ih hx h8 hsf.1 hsf.2 (fun hin=> ?_)
   exact(zH.1 hn.1).2.2 _ hin _ (by simp) rfl
  |false=>
   rw[hk] at hcan
   rw[ZN hi hc (by rw[hrd,hml];exact hcan),jd (by simp)]
   exact⟨jG (·++[yy (nth (qx d) i)]) ih.ref,ih.len,ih.set,ih.bit⟩
theorem V5 {d:DyD} (h:wx d=0):∀i,i<=(qx d).length->Et d (vH (LB d) (qx d) i) (V4 d i)
 |0,_=>YD d
 |i+1,hi=>by
  have k:=V5 h i (by omega)
  obtain⟨⟨_,m⟩,⟨j,b⟩,c⟩:=VA h
  have f:=(yJ h).1
  have a:=Ng (r:=LB d) (l:=qx d) f.2.2 (fun s e=>fT.1 e) (eg d) j b c i (by omega)
  refine YE h hi k a rfl rfl a.1 rfl ?_ fun g=> ?_
  unfold V4
  rw[L.filter_take (p:=Xi d) (l:=qx d) (i:=i) hi,jU]
  split<;>rfl
  have:=Vt (r:=LB d) (l:=qx d) f.2.2 (fun s e=>fT.1 e) (eg d) hi a g
  exact⟨this.1,this.2.1⟩
theorem YF {d:DyD} (h:wx d=0):V4 d (qx d).length=Ip d:=by
 unfold V4 Ip wb;rw[zw,zw,jcR h]
theorem CY {d:DyD} (h:wx d=0):Et d (aK (Tp d),(vH (LB d) (qx d) (qx d).length).2) (Ip d):=by
 have:=V5 h _ (jk _);rw[YF h] at this;exact⟨this.ref,this.len,this.set,this.bit⟩
theorem P0 (on:List (List Int)) (b:Int):∀n,n<=60->BT.w4 (gZ on b n)/\∀q,BT.has (gZ on b n) q=true↔q<n/\b∈nth on q
 |0,_=>⟨BT.DH,fun q=>by
  have:gZ on b 0=0:=rfl
  rw[this,BT.sS];simp⟩
 |n+1,m=>by
  obtain⟨f,i⟩:=P0 on b n (by omega)
  have g:=BT.fZ (k:=n) (by omega)
  have a:(nth on n).any (fun x=>decide (x=b))=true↔b∈nth on n:=by
   rw[j9];exact⟨fun⟨x,l,e⟩=>(ja e)▸l,fun j=>⟨b,j,jH rfl⟩⟩
  rw[CK]
  split
  rename_i c;have c:=a.1 c;rw[lU];refine⟨BT.bor_set f g,fun q=> ?_⟩;rw[BT.has_bor f g,BT.AO,zr,decide_eq_true_iff,i];refine⟨fun h=>h.elim (fun h=>⟨by omega,h.2⟩) (fun h=>by subst h;exact⟨by omega,c⟩),fun h=> ?_⟩;by_cases d:q=n;exact .inr d.symm;exact .inl ⟨by omega,h.2⟩;rename_i c;refine⟨f,fun q=> ?_⟩;rw[i];refine⟨fun h=>⟨by omega,h.2⟩,fun h=>⟨?_,h.2⟩⟩;by_cases d:q=n;subst d;exact absurd (a.2 h.2) c;omega
theorem V6 {d:DyD} (h:wx d=0) {b:Nat} (a:b<(kE d).length):dl (aK (Tp d)) (b:Int)=nth (Ip d).1 b:=by
 have f:=CY h;have c:=VB h;have g:=P0 (aK (Tp d)) (b:Int) (aK (Tp d)).length c.len60;refine BT.ext g.1 (f.set b a) fun p=>j0.2 ?_
 have e:=(g.2 p).trans (f.bit b a p|>.trans (by rw[<-c.len])).symm;exact e
theorem jcV {d:DyD} (h:wx d=0):gB d (kE d).length=(Ip d).1:=by
 have b:=CY h;have a:(gB d (kE d).length).length=(kE d).length:=(by unfold gB;simp);refine L.ext_nth (by rw[a];exact b.len.symm) fun i hi=> ?_
 rw[a] at hi;unfold gB;rw[L.nth_map (by simpa using hi)];have:nth (List.range (kE d).length) i=i:=(by rw[L.wW (by simpa using hi)];simp);rw[this];exact V6 h hi
theorem jbn (d:DyD):eI d=if ga d=0 then(Ip d).1 else[]:=by
 unfold eI;rw[cL]
 split
 rename_i h;exact jcV ((cL d).trans h);rfl
end Go.X
namespace Go.X
open U
open Go.Proofs
theorem R8 (l:List ShD) (n:Nat):kI l (n+1)=kI l n++(if vf l n l.length=true then[nth l n] else[]):=by
 unfold kI;rw[L.ve,zz];by_cases h:vf l n l.length=true;rw[jh h,jh h];rfl;rw[jd h,jd h];rfl
theorem Ky (l:List ShD) (n:Nat):(kI l n).length<=n:=by
 unfold kI;rw[zp];exact jE (zG _ _) (by simp)
theorem NY {l:List ShD} {i k:Nat} (h:k<l.length):vf l i (k+1)=(vf l i k&& !(decide (iV (nth l k)=iV (nth l i))&&decide (y9 (nth l k)=y9 (nth l i))&&qj (nth l k) (nth l i))):=by
 unfold vf;rw[L.wd h,List.any_append];generalize (l.take k).any _=a;generalize decide (W3 (nth l i)=1)=b;simp only[List.any_cons,List.any_nil,Bool.or_false];generalize (decide (iV (nth l k)=iV (nth l i))&&decide (y9 (nth l k)=y9 (nth l i))&&qj (nth l k) (nth l i))=c;cases a<;>cases b<;>cases c<;>rfl
theorem R9 (l:List ShD):kI l 0=[]:=rfl
theorem Kz (l:List ShD):ky l 0=([],l):=rfl
theorem Sa (l:List ShD):k8 l 0=0:=rfl
theorem Sb (l:List ShD) (n:Nat):(ky l (n+1)).1=(ky l n).1++[nth (ky l n).2 (k8 (ky l n).2 (ky l n).2.length)]:=rfl
theorem Sc (l:List ShD) (n:Nat):(ky l (n+1)).2=(ky l n).2.take (k8 (ky l n).2 (ky l n).2.length)++(ky l n).2.drop (k8 (ky l n).2 (ky l n).2.length+1):=rfl
theorem YG {α:Type} (l:List α) (m:Nat):[]++List.take (((m:Int)).toNat-Int.toNat 0) (List.drop (Int.toNat 0) l)++List.take (((l.length:Int)).toNat-((m:Int)+1).toNat) (List.drop ((m:Int)+1).toNat l)=l.take m++l.drop (m+1):=by
 have a:((m:Int)+1).toNat=m+1:=(by omega);have e2:Int.toNat 0=0:=rfl;rw[a,e2,jw,jw,List.drop_zero,Nat.sub_zero,jZ,zv (l:=List.drop (m+1) l) (by rw[zD];omega)]
theorem jbo (d:DyD):kI (kw (wu d)) (kw (wu d)).length=b7 d:=rfl
theorem jbp (d:DyD):(ky (b7 d) (b7 d).length).1=ql d:=rfl
attribute [local irreducible] ky k8 kI kw b7 ql vf
theorem NZ (d:DyD) (W:List ShD) (r:W.length<=100000) (l:(ky W W.length).1=ql d):
 (∃x:Nat,((True/\True/\True)/\W=(ky W x).2/\(ky W x).1=[]/\True)/\x<=W.length)/\∀n:Nat,n<=W.length->(ky W n).2.length<4611686018427387904->
  (decide ((0:Int)<(ky W n).2.length)=true->(∃x:Nat,(((0:Int)=(x:Int)/\(0:Int)=(k8 (ky W n).2 x:Int)/\True)/\True)/\x<=(ky W n).2.length)/\∀i:Nat,i<=(ky W n).2.length->(ky W n).2.length<4611686018427387904->
   (decide ((i:Int)<(ky W n).2.length)=true->(0:Int)<=(k8 (ky W n).2 i:Int)/\(k8 (ky W n).2 i:Int)<(ky W n).2.length/\(0:Int)<=(i:Int)/\(i:Int)<(ky W n).2.length/\
    (qj (nth (ky W n).2 ((k8 (ky W n).2 i:Int)).toNat) (nth (ky W n).2 ((i:Int)).toNat)=true->kH ((i:Int)+1)/\∃a:Nat,(((i:Int)+1=(a:Int)/\(i:Int)=(k8 (ky W n).2 a:Int)/\True)/\True)/\a<=(ky W n).2.length/\(ky W n).2.length-a<(ky W n).2.length-i)/\
    (qj (nth (ky W n).2 ((k8 (ky W n).2 i:Int)).toNat) (nth (ky W n).2 ((i:Int)).toNat)=false->kH ((i:Int)+1)/\∃a:Nat,(((k8 (ky W n).2 i:Int)=(k8 (ky W n).2 a:Int)/\(i:Int)+1=(a:Int)/\True)/\True)/\a<=(ky W n).2.length/\(ky W n).2.length-a<(ky W n).2.length-i))/\
   (decide ((i:Int)<(ky W n).2.length)=false->(0:Int)<=(k8 (ky W n).2 i:Int)/\(k8 (ky W n).2 i:Int)<(ky W n).2.length/\
    ((ky W n).1.length+[nth (ky W n).2 ((k8 (ky W n).2 i:Int)).toNat].length)*40<=140737488355328/\(0:Int)<=0/\(0:Int)<=(k8 (ky W n).2 i:Int)/\(k8 (ky W n).2 i:Int)<=(ky W n).2.length/\
    (0+(List.take (((k8 (ky W n).2 i:Int)).toNat-Int.toNat 0) (List.drop (Int.toNat 0) (ky W n).2)).length)*40<=140737488355328/\kH ((k8 (ky W n).2 i:Int)+1)/\(0:Int)<=(k8 (ky W n).2 i:Int)+1/\
    (k8 (ky W n).2 i:Int)+1<=((ky W n).2.length:Int)/\((ky W n).2.length:Int)<=(ky W n).2.length/\
    (([]++List.take (((k8 (ky W n).2 i:Int)).toNat-Int.toNat 0) (List.drop (Int.toNat 0) (ky W n).2)).length+(List.take ((((ky W n).2.length:Int)).toNat-((k8 (ky W n).2 i:Int)+1).toNat) (List.drop ((k8 (ky W n).2 i:Int)+1).toNat (ky W n).2)).length)*40<=140737488355328/\
    ∃a:Nat,((True/\True/\True)/\[]++List.take (((k8 (ky W n).2 i:Int)).toNat-Int.toNat 0) (List.drop (Int.toNat 0) (ky W n).2)++List.take ((((ky W n).2.length:Int)).toNat-((k8 (ky W n).2 i:Int)+1).toNat) (List.drop ((k8 (ky W n).2 i:Int)+1).toNat (ky W n).2)=(ky W a).2/\
     (ky W n).1++[nth (ky W n).2 ((k8 (ky W n).2 i:Int)).toNat]=(ky W a).1/\True)/\a<=W.length/\W.length-a<W.length-n))/\
  (decide ((0:Int)<(ky W n).2.length)=false->((ky W n).1,())=(ql d,())):=by
 refine⟨⟨0,⟨⟨tZ,tZ,tZ⟩,by rw[Kz],by rw[Kz],tZ⟩,ju _⟩,fun n o _=> ?_⟩;obtain⟨t,u⟩:=mM W n o;have s:∀i,k8 (ky W n).2 i+0=k8 (ky W n).2 i:=fun _=>rfl
 refine⟨fun b=>⟨⟨0,⟨⟨rfl,by rw[Sa];rfl,tZ⟩,tZ⟩,ju _⟩,fun i hi _=>⟨fun e=> ?_,fun e=> ?_⟩⟩,fun b=> ?_⟩;have b:(0:Int)<(ky W n).2.length:=ja b;have e:(i:Int)<(ky W n).2.length:=ja e;have m:=mL (ky W n).2 i hi (by omega);have j:=ub (ky W n).2 i;have up:i+1<=(ky W n).2.length:=(by omega);have h:(ky W n).2.length-(i+1)<(ky W n).2.length-i:=(by omega);refine⟨jW _,by omega,jW _,e,fun c=>⟨iZ6,i+1,⟨⟨by simp,?_,tZ⟩,tZ⟩,up,h⟩,fun c=>⟨iZ6,i+1,⟨⟨?_,by simp,tZ⟩,tZ⟩,up,h⟩⟩;have c:qj (nth (ky W n).2 (k8 (ky W n).2 i)) (nth (ky W n).2 i)=true:=c;rw[j,jh c];have c:qj (nth (ky W n).2 (k8 (ky W n).2 i)) (nth (ky W n).2 i)=false:=c;rw[j,jd (by rw[c];simp)];have b:(0:Int)<(ky W n).2.length:=ja b;have e:¬(i:Int)<(ky W n).2.length:=jc e;have f:i=(ky W n).2.length:=(by omega);subst f;have m:=mL (ky W n).2 _ (jk _) (by omega);have k:=YG (ky W n).2 (k8 (ky W n).2 (ky W n).2.length);have p:=Sb W n;have q:=Sc W n;refine⟨jW _,by omega,by show((ky W n).1.length+1)*40<=140737488355328;omega,zT 0,jW _,by omega,?_,iZ6,by omega,by omega,zT _,?_,n+1,⟨⟨tZ,tZ,tZ⟩,?_,?_,tZ⟩,by omega,by omega⟩;rw[jY,zD];omega;rw[jZ,jY,jY,zD,zD];omega;rw[q];exact k;rw[p];rfl;have b:¬(0:Int)<(ky W n).2.length:=jc b;have g:n=W.length:=(by omega);subst g;rw[l]
theorem N0:Kt:=by
 unfold Kt jfa jeU jeM jfG jht jiT jfe jiS jgv jeH Prod.q4;rintro⟨d,⟨⟩⟩ j;have j:(wu d).length<=1000:=j;have f:(kw (wu d)).length<=100000:=jE (by unfold kw;exact mK _ 100) (by omega);refine⟨j,⟨0,⟨⟨rfl,tZ,tZ⟩,R9 _,tZ⟩,ju _⟩,fun x o _=>⟨fun h=> ?_,fun h=> ?_⟩⟩;have h:(x:Int)<(kw (wu d)).length:=ja h;have x0:(0:Int)<=(x:Int):=jW x;refine⟨x0,h,⟨0,⟨⟨rfl,?_,tZ⟩,tZ⟩,ju _⟩,fun k hk _=>⟨fun b=> ?_,fun b=> ?_⟩⟩;show decide (W3 (nth (kw (wu d)) x)=1)=vf (kw (wu d)) x 0;unfold vf;simp;have b:(k:Int)<(kw (wu d)).length:=ja b;have n:(0:Int)<=(k:Int):=jW k;have e:=NY (l:=kw (wu d)) (i:=x) (k:=k) (by omega);have up:k+1<=(kw (wu d)).length:=(by omega);have c:(kw (wu d)).length-(k+1)<(kw (wu d)).length-k:=(by omega);have i64:kH ((k:Int)+1):=iZ6;refine⟨n,b,x0,h,fun _=>n,fun _=>b,fun _=>x0,fun _=>h,fun _=>n,fun _=>b,fun _=>x0,fun _=>h,fun a=>⟨i64,k+1,⟨⟨by simp,?_,tZ⟩,tZ⟩,up,c⟩,fun a=>⟨i64,k+1,⟨⟨?_,by simp,tZ⟩,tZ⟩,up,c⟩⟩;have a:(decide (iV (nth (kw (wu d)) k)=iV (nth (kw (wu d)) x))&&decide (y9 (nth (kw (wu d)) k)=y9 (nth (kw (wu d)) x))&&qj (nth (kw (wu d)) k) (nth (kw (wu d)) x))=true:=a;show false=vf (kw (wu d)) x (k+1);rw[e,a];simp;have a:(decide (iV (nth (kw (wu d)) k)=iV (nth (kw (wu d)) x))&&decide (y9 (nth (kw (wu d)) k)=y9 (nth (kw (wu d)) x))&&qj (nth (kw (wu d)) k) (nth (kw (wu d)) x))=false:=a;show vf (kw (wu d)) x k=vf (kw (wu d)) x (k+1);rw[e,a];simp;have b:¬(k:Int)<(kw (wu d)).length:=jc b;have hk:k<=(kw (wu d)).length:=hk;have g:k=(kw (wu d)).length:=(by omega);subst g;have e:=R8 (kw (wu d)) x;have p:=Ky (kw (wu d)) x;have up:x+1<=(kw (wu d)).length:=(by omega);have c:(kw (wu d)).length-(x+1)<(kw (wu d)).length-x:=(by omega);have i64:kH ((x:Int)+1):=iZ6;refine⟨fun a=>⟨x0,h,by show((kI (kw (wu d)) x).length+1)*40<=140737488355328;omega,i64,x+1,⟨⟨by simp,tZ,tZ⟩,?_,tZ⟩,up,c⟩,fun a=>⟨i64,x+1,⟨⟨tZ,by simp,tZ⟩,?_,tZ⟩,up,c⟩⟩;have a:vf (kw (wu d)) x (kw (wu d)).length=true:=a;show kI (kw (wu d)) x++[nth (kw (wu d)) x]=kI (kw (wu d)) (x+1);rw[e,jh a];have a:vf (kw (wu d)) x (kw (wu d)).length=false:=a;show kI (kw (wu d)) x=kI (kw (wu d)) (x+1);rw[e,jd (by rw[a];simp),j8];have h:¬(x:Int)<(kw (wu d)).length:=jc h;have o:x<=(kw (wu d)).length:=o;have m:x=(kw (wu d)).length:=(by omega);subst m;refine NZ d (kI (kw (wu d)) (kw (wu d)).length) (jE (Ky _ _) f) ?_;rw[jbo];exact jbp d
theorem KA:wn PR 95 Kr:=qG Ks N0 Tryz.func95 (kcC Er (kcC NJ kcN)) koN
theorem N1:wn PR 69 NQ:=qG NR R5 Tryz.func69 (kcC KA (kcC NL kcN)) (koC NW koN)
theorem N2:wn PR 43 NU:=kY R4 Tryz.func43 (kcC pq (kcC N1 kcN)) koN
end Go.X
namespace Go.X
open U
open Go.Proofs
namespace U
def jeo (d:DyD) (t:List Int) (b:Nat):Bool:=nY (kD d) (y7 (nth (kE d) b)) (nth t b)
def Z1 (d:DyD) (t:List Int) (n:Nat):List Int:=((List.range n).filter (jeo d t)).map (fun(b:Nat)=>(b:Int))
def jep (d:DyD):List Int:=if ga d=0 then Z1 d (uw d) (uw d).length else[]
end U
theorem jbq {d:DyD} (h:ga d=0):(Ip d).1.length=(kE d).length:=(CY ((cL d).trans h)).len
theorem jbr {d:DyD} (h:ga d=0) {b:Nat} (a:b<(kE d).length):Tq (nth (Ip d).1 b):=by
 have c:=CY ((cL d).trans h);have i:(kz (kD d)).length<=8:=(wo (Ku h).1).2.2.1;have e:=c.set b a;have f:=BT.lt_of_has (k:=8) e (fun p g=>by have:=((c.bit b a p).1 g).1;omega);exact⟨e.1,f⟩
theorem V7 {d:DyD} (h:ga d=0):uw d=(Ip d).1:=jh h
theorem Hy {d:DyD} (h:ga d=0):(uw d).length=(kE d).length:=by rw[V7 h];exact jbq h
section
attribute [local irreducible] Ip ga
end
section
attribute [local irreducible] Z1 uw ga nY
end
section
attribute [local irreducible] vL U.on wy AM
end
section
attribute [local irreducible] uw ga wy
end
end Go.X
namespace Go.X
open U
open Go.Proofs
section
attribute [local irreducible] uw ga nY Tq
end
end Go.X
namespace Go.X
open U
open Go.Proofs
theorem CZ (n m:Nat):n|||m=0↔n=0/\m=0:=by
 constructor;intro h;constructor;refine kh fun i=> ?_
 have:=jG (fun z=>Nat.testBit z i) h;simp only[Nat.testBit_or,Nat.zero_testBit,jN] at this;rw[this.1,Nat.zero_testBit];refine kh fun i=> ?_
 have:=jG (fun z=>Nat.testBit z i) h;simp only[Nat.testBit_or,Nat.zero_testBit,jN] at this;rw[this.2,Nat.zero_testBit];rintro⟨rfl,rfl⟩;rfl
theorem P1 {a b:Int} (c:0<=a/\a<64) (d:0<=b/\b<64):uor a b=0↔a=0/\b=0:=by
 obtain⟨n,rfl⟩:∃n:Nat,a=(n:Int):=⟨a.toNat,by omega⟩;obtain⟨m,rfl⟩:∃m:Nat,b=(m:Int):=⟨b.toNat,by omega⟩;rw[BT.uor_nat (by omega) (by omega)];have:=CZ n m;omega
theorem YH {a b:Int} (c:0<=a/\a<64) (d:0<=b/\b<64):bor a b=0↔a=0/\b=0:=by
 obtain⟨n,rfl⟩:∃n:Nat,a=(n:Int):=⟨a.toNat,by omega⟩;obtain⟨m,rfl⟩:∃m:Nat,b=(m:Int):=⟨b.toNat,by omega⟩;rw[BT.bor_nat (by omega) (by omega)];have:=CZ n m;omega
theorem YI {a b:Int} (c:0<=a/\a<64) (d:0<=b/\b<64):0<=bor a b/\bor a b<64:=by
 obtain⟨n,rfl⟩:∃n:Nat,a=(n:Int):=⟨a.toNat,by omega⟩;obtain⟨m,rfl⟩:∃m:Nat,b=(m:Int):=⟨b.toNat,by omega⟩;rw[BT.bor_nat (by omega) (by omega)];have:n|||m<2^6:=Nat.or_lt_two_pow (by omega) (by omega);omega
theorem C4 {b:Bool} {o k:Int} (h:0<=o/\o<64) (hk:0<k/\k<64):EU b o k=0↔b=false/\o=0:=by
 unfold EU;cases b with
 |false=>rw[jd (by simp)];simp
 |true=>
  rw[jh rfl,P1 h ⟨by omega,by omega⟩];refine⟨fun h=>absurd h.2 (by omega),fun h=>absurd h.1 (by simp)⟩
theorem mO {b:Bool} {o k:Int} (h:0<=o/\o<64) (hk:0<k/\k<64):Qk b o k=0↔b=false/\o=0:=by
 unfold Qk;cases b with
 |false=>rw[jd (by simp)];simp
 |true=>
  rw[jh rfl,YH h ⟨by omega,by omega⟩];refine⟨fun h=>absurd h.2 (by omega),fun h=>absurd h.1 (by simp)⟩
theorem KB {b:Bool} {o k:Int} (h:0<=o/\o<64) (hk:0<k/\k<64):0<=Qk b o k/\Qk b o k<64:=by
 unfold Qk
 split
 exact YI h ⟨by omega,hk.2⟩;exact h
theorem KC (t:TkD):∀(q:List (Int×PeD×Unit)) (o:Int),(0<=o/\o<64)->(cw t o q=0↔o=0/\∀x∈q,vA t x.2.1=0)
 |[],o,_=>by
  show o=0↔_
  simp
 |x::q,o,h=>by
  have b:=Cq t x.2.1
  have a:=KC t q (uor o (vA t x.2.1)) (Vc h ⟨by omega,by omega⟩)
  show cw t (uor o (vA t x.2.1)) q=0↔_
  rw[a,P1 h ⟨by omega,by omega⟩]
  simp only[jj,forall_eq_or_imp,and_assoc]
theorem YJ {t:Int} (h:BT.w4 t) (p:Int):sN t p=BT.has t p.toNat:=BT.has_ushr h p.toNat
theorem ZS {t:Int} (h:BT.w4 t) (p:Int):sN t p=wy t p:=(YJ h p).trans (AI h p).symm
theorem mP {t:TkD} {s:Int} (b:BT.w4 s) {x:Int×PeD×Unit}:x∈u7 t s↔∃i:Nat,i<(kz (U.tc t)).length/\wy s (i:Int)=true/\x=((i:Int),nth (kz (U.tc t)) i,()):=by
 unfold u7 yu;rw[jV];refine⟨fun⟨i,hi,e⟩=> ?_,fun⟨i,c,a,e⟩=>⟨i,jR.2 ⟨jA.2 c,?_⟩,e.symm⟩⟩;have hi:=jR.1 hi;have a:sN s (i:Int)=true:=hi.2;exact⟨i,jA.1 hi.1,(ZS b _)▸a,e.symm⟩;show sN s (i:Int)=true;rw[ZS b];exact a
theorem uc (c:CrD) (j:JbD) (t:Int):∀n,(0<=(wM c j t n).1/\(wM c j t n).1<64)/\((wM c j t n).1=0↔∀i:Nat,i<n->wy t (i:Int)=true->wZ c j (i:Int)=true)/\
 ((wM c j t n).2=true↔∃i:Nat,i<n/\wy t (i:Int)=true/\jbV (nth (kz c) i)=true)
 |0=>⟨by show(0:Int)<=0/\(0:Int)<64;omega,⟨fun _ i h=>absurd h (by omega),fun _=>rfl⟩,⟨fun h=>(by cases h),fun⟨i,h,_⟩=>absurd h (by omega)⟩⟩
 |n+1=>by
  obtain⟨l,o,p⟩:=uc c j t n
  cases g:wy t (n:Int) with
  |false=>
   rw[Kj g]
   refine⟨l,o.trans ⟨fun h i hi a=> ?_,fun h i hi=>h i (by omega)⟩,p.trans ⟨fun⟨i,hi,a⟩=>⟨i,by omega,a⟩,fun⟨i,hi,d,f⟩=>⟨i,?_,d,f⟩⟩⟩
   by_cases e:i=n
   subst e;rw[g] at a;cases a
   exact h i (by omega) a
   by_cases e:i=n
   subst e;rw[g] at d;cases d
   omega
  |true=>
   have e:wM c j t (n+1)=(Qk (!wy (U.cl (nth (kz c) n)) (l8 j)) (Qk (!wy (U.fd (nth (kz c) n)) (OM j)) (Qk (bX (nth (kz c) n) (Xj j)) (wM c j t n).1 1) 2) 4,(wM c j t n).2||jbV (nth (kz c) n)):=by
    rw[CO];unfold OP;rw[jh g]
   rw[e];have o1:=KB (b:=bX (nth (kz c) n) (Xj j)) (k:=1) l (by omega);have o2:=KB (b:= !wy (U.fd (nth (kz c) n)) (OM j)) (k:=2) o1 (by omega);have s:=KB (b:= !wy (U.cl (nth (kz c) n)) (l8 j)) (k:=4) o2 (by omega);refine⟨s,?_,?_⟩;show Qk _ _ 4=0↔_;rw[mO o2 (by omega),mO o1 (by omega),mO l (by omega),o];have m:wZ c j (n:Int)=(!(bX (nth (kz c) n) (Xj j))&&wy (U.fd (nth (kz c) n)) (OM j)&&wy (U.cl (nth (kz c) n)) (l8 j)):=by
    unfold wZ;rw[jw]
   refine⟨fun⟨d,f,q,r⟩ i hi a=> ?_,fun h=> ?_⟩;by_cases e:i=n;subst e;rw[m];simp only[zb] at d f;rw[d,f,q];rfl;exact r i (by omega) a;have:=h n (by omega) g;rw[m,ji,ji,jO] at this;exact⟨by rw[this.2];rfl,by rw[this.1.2];rfl,this.1.1,fun i hi=>h i (by omega)⟩;show((wM c j t n).2||jbV (nth (kz c) n))=true↔_;rw[zr,p];refine⟨fun h=>h.elim (fun⟨i,hi,a⟩=>⟨i,by omega,a⟩) (fun h=>⟨n,by omega,g,h⟩),fun⟨i,hi,d,f⟩=> ?_⟩;by_cases e:i=n;subst e;exact .inr f;exact .inl ⟨i,by omega,d,f⟩
theorem YK {c:CrD} {j:JbD} {t:Int} (d:BT.w4 t) (a b:Nat):Lz (c,j,cv c j,()) t a b=U.J3 c t (Tn (cv c j)) a b:=by
 unfold Lz U.J3 mc ir;refine j0.2 ?_;rw[j9,j9];refine⟨fun⟨x,g,h⟩=> ?_,fun⟨i,hi,h⟩=> ?_⟩;obtain⟨i,e,f,rfl⟩:=(mP d).1 g;refine⟨i,jA.2 e,?_⟩;have h:Tn (cv c j)<=min (nth (U.lv (nth (kz c) i)) ((a:Int)).toNat) (nth (U.lv (nth (kz c) i)) ((b:Int)).toNat):=ja h;rw[f,jH (by omega:Tn (cv c j)<=nth (U.lv (nth (kz c) i)) ((a:Int)).toNat),jH (by omega:Tn (cv c j)<=nth (U.lv (nth (kz c) i)) ((b:Int)).toNat)];rfl;rw[ji,ji,decide_eq_true_iff,decide_eq_true_iff] at h;refine⟨((i:Int),nth (kz c) i,()),(mP d).2 ⟨i,jA.1 hi,h.1.1,rfl⟩,?_⟩;exact jH (show Tn (cv c j)<=min (nth (U.lv (nth (kz c) i)) ((a:Int)).toNat) (nth (U.lv (nth (kz c) i)) ((b:Int)).toNat) by have:=h.1.2;have:=h.2;omega)
theorem jbt (c:CrD) (t lev:Int) (a b:Nat):U.J3 c t lev a b=U.J3 c t lev b a:=by
 unfold U.J3 ir;refine j0.2 ?_;rw[j9,j9];constructor<;>
 .rintro⟨i,hi,h⟩;refine⟨i,hi,?_⟩;rw[ji,ji] at h⊢;exact⟨⟨h.1.1,h.2⟩,h.1.2⟩
theorem jcW {c:CrD} {j:JbD} {t:Int} (_:kG c=true) (d:ww c j=true) (f:BT.w4 t):nth (fY (c,j,cv c j,()) t) (Ly j).toNat<0↔nth (mh c t (Tn (cv c j)) (Ly j)) (F6 j).toNat<0:=by
 have h:=lG d;have e:Lz (c,j,cv c j,()) t=U.J3 c t (Tn (cv c j)):=(by funext a b;exact YK f a b);show nth (jdi (Lz (c,j,cv c j,()) t) (U.la c).toNat (F6 j).toNat) (Ly j).toNat<0↔nth (w6 (U.J3 c t (Tn (cv c j))) (U.la c).toNat (Ly j).toNat (U.la c).toNat) (F6 j).toNat<0;rw[e];exact(jaY (jbt c t _) (by omega) (by omega)).symm
theorem V8 {c:CrD} {j:JbD} {t:Int} (a:BT.w4 t):(∀x∈u7 (c,j,cv c j,()) t,vA (c,j,cv c j,()) x.2.1=0)↔∀i:Nat,i<(kz c).length->wy t (i:Int)=true->wZ c j (i:Int)=true:=by
 refine⟨fun h i hi e=>(mN c j i).1 (h ((i:Int),nth (kz c) i,()) ((mP a).2 ⟨i,hi,e,rfl⟩)),fun h x f=> ?_⟩;obtain⟨i,b,d,rfl⟩:=(mP a).1 f;exact(mN c j i).2 (h i b d)
theorem YL {c:CrD} {j:JbD} {t:Int} (d:BT.w4 t):eG (u7 (c,j,cv c j,()) t)=jeb c j t:=by
 refine j0.2 ?_;unfold jeb;rw[(uc c j t (kz c).length).2.2];unfold eG;rw[j9];refine⟨fun⟨x,f,h⟩=> ?_,fun⟨i,a,b,e⟩=>⟨((i:Int),nth (kz c) i,()),(mP d).2 ⟨i,a,b,rfl⟩,e⟩⟩;obtain⟨i,a,b,rfl⟩:=(mP d).1 f;exact⟨i,a,b,h⟩
theorem N3 {c:CrD} {j:JbD} {t:Int} (n:kG c=true) (o:ww c j=true) (a:BT.w4 t):qW (c,j,cv c j,()) t=0↔Tc c j t=0:=by
 have f:=uc c j t (kz c).length;have g:=MR (c,j,cv c j,()) (u7 (c,j,cv c j,()) t) 0 (by omega);have i:=Cr (b:=decide (BT.size t≠max (Zg j) (jbW (cv c j)))) (k:=8) g (by omega);have q:=Cr (b:=(jdD (cv c j)&& !eG (u7 (c,j,cv c j,()) t))) (k:=16) i (by omega);have d:0<=jea c j t/\jea c j t<64:=f.1;have e:=KB (b:=decide (BT.size t≠max (Zg j) (jbW (cv c j)))) (k:=8) d (by omega);have l:=KB (b:=(jdD (cv c j)&& !jeb c j t)) (k:=16) e (by omega);have m:qW (c,j,cv c j,()) t=EU (decide (nth (fY (c,j,cv c j,()) t) (Ly j).toNat<0)) (EU (jdD (cv c j)&& !eG (u7 (c,j,cv c j,()) t)) (EU (decide (BT.size t≠max (Zg j) (jbW (cv c j)))) (cw (c,j,cv c j,()) 0 (u7 (c,j,cv c j,()) t)) 8) 16) 32:=rfl;have p:jea c j t=0↔cw (c,j,cv c j,()) 0 (u7 (c,j,cv c j,()) t)=0:=by
  rw[KC _ _ _ (by omega),V8 a];exact f.2.1.trans ⟨fun h=>⟨rfl,h⟩,fun h=>h.2⟩
 rw[m,C4 q (by omega),C4 i (by omega),C4 g (by omega)];unfold Tc;rw[mO l (by omega),mO e (by omega),mO d (by omega),p,YL a,jF,jF,jcW n o a,jF]
theorem jbu {d:DyD} (a:AM d) {b:Int} (k:gg d b) {t:Int} (e:0<=t) (n:t<2^(kz (kD d)).length):DC d b t=nY (kD d) (y7 (U.bk d b)) t:=by
 unfold gg at k;have h:ww (kD d) (y7 (U.bk d b))=true:=VU a (b:=b.toNat) (by omega);have o:=(Hc a.1).2;have m:BT.w4 t:=(by unfold BT.w4;omega);have i:qH (kD d) (y7 (U.bk d b))=0:=(by unfold qH;rw[a.1,h];rfl);have j:Ie (kD d) t=true:=by
  unfold Ie kl;rw[jH e,jH (by omega)];rfl
 have l:aJ (kD d) (y7 (U.bk d b)) t=0:=by
  unfold aJ;rw[jd (by rw[i];simp),j,jh rfl]
 have c:=N3 a.1 h m;unfold DC nY jce;rw[l,jh rfl];refine j0.2 ?_;simp only[ji,decide_eq_true_iff,true_and];rw[c];constructor;rintro⟨f,g⟩;exact⟨by omega,f⟩;rintro⟨f,g⟩;exact⟨g,by omega⟩
theorem ZT {d:DyD} (h:ga d=0) {b:Nat} (a:b<(kE d).length):0<=nth (Ip d).1 b/\nth (Ip d).1 b<2^(kz (kD d)).length:=by
 have c:=CY ((cL d).trans h);have e:=c.set b a;exact⟨e.1,BT.lt_of_has e (fun p f=>((c.bit b a p).1 f).1)⟩
theorem jbv (d:DyD):km d=jep d:=by
 unfold km jep;rw[cL];by_cases h:ga d=0;rw[jh h,jh h,Hy h];unfold gC Z1;congr 1;refine List.filter_congr fun b a=> ?_
 have a:=jA.1 a;have hk:=(cL d).trans h;have c:=ZT h a;show DC d (b:Int) (dl (aK (Tp d)) (b:Int))=nY (kD d) (y7 (nth (kE d) b)) (nth (uw d) b);rw[V6 hk a,V7 h,jbu (Ku h) (by unfold gg;omega) c.1 c.2];rfl;rw[jd h,jd h]
end Go.X
