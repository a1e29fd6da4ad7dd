/-
  Part 5 of the road: a checked reading of bodies, and what the functions on it do (C1 PC1 PC2 PC3 PC4 C2 PC5 PC6 PC7 PC8 C3 PC9 SL PC10 S1 S2 S3 PC11 C4 PC12 PC13 PC14 S4 S5).
-/
import Derived.Test.YtacjhnpgiklpdaaGreatDoorK04
namespace Go.X
open U
open Go.Proofs
namespace U
def qE (s:Int):Nat->Int
 |0=>s
 |j+1=>qE s j/2^1
def J3 (c:CrD) (t d:Int) (a b:Nat):Bool:=lf c t d (a:Int) (b:Int)
def mZ (c:CrD) (t b a:Int):List Int:=qI (J3 c t b) (la c).toNat a.toNat (la c).toNat
def Ri (c:Bool) (s b:Int):Int:=if c=true then bor s b else s
def PK (c:CrD) (j:JbD) (t:Int) (x:Int×Bool) (i:Nat):Int×Bool:=
 if qd t (i:Int)=true then(Ri (!qd (cl (nth (wi c) i)) (bU j)) (Ri (!qd (fd (nth (wi c) i)) (PH j)) (Ri (cL (nth (wi c) i) (X6 j)) x.1 1) 2) 4,x.2||jcC (nth (wi c) i)) else x
def qt (c:CrD) (j:JbD) (t:Int) (n:Nat):Int×Bool:=(List.range n).foldl (PK c j t) (0,false)
def jeQ (c:CrD) (j:JbD) (t:Int):Int:=(qt c j t (wi c).length).1
def jeR (c:CrD) (j:JbD) (t:Int):Bool:=(qt c j t (wi c).length).2
def Uc (c:CrD) (j:JbD) (t:Int):Int:=
 Ri (decide (nth (mZ c t (Um (db c j)) (Mw j)) (G1 j).toNat<0)) (Ri (jej (db c j)&& !jeR c j t) (Ri (decide (BT.size t≠max (Z4 j) (jcD (db c j)))) (jeQ c j t) 8) 16) 32
def Er (c:CrD) (j:JbD) (t:Int):Bool:=decide (0<t)&&decide (Uc c j t=0)
def XW (t:Int):Prop:=0<=t/\t<256
end U
def KW:wQ:=⟨[.val .int,.val .int,.val .int],[.bool],false,fun _=>[],fun d=>(k8 d.1 d.2.1 d.2.2.1,())⟩
def KX:Prop:=∀(d:Int×Int×Int×Unit),(decide (d.2.1<=d.1)&&decide (d.1<=d.2.2.1),())=(k8 d.1 d.2.1 d.2.2.1,())
def Ws:wQ:=⟨[.val .int,.val .int],[.bool],false,fun d=>[0<=d.2.1/\d.2.1<=63],fun d=>(qd d.1 d.2.1,())⟩
def Wt:Prop:=∀(d:Int×Int×Unit),0<=d.2.1/\d.2.1<=63->0<=d.2.1/\d.2.1<=18446744073709551615/\0<=d.2.1/\d.2.1<=64/\(decide (fO (d.1/(2:Int)^d.2.1.toNat) (1:Int)=1),())=(qd d.1 d.2.1,())
def KY:wQ:=⟨[.val tCr],[.bool],false,fun _=>[],fun d=>(wt d.1,())⟩
def KZ:Ann:=fun r=>match r with
 |4=>some fun σ=>{X:=Nat,sl:=fun i=>[(3,.dat .int (i:Int))],ob:=fun _=>[],inv:=fun i=>i<=(wi (gb tCr σ 1)).length/\∀j:Nat,j<i->fE (U.la (gb tCr σ 1)) (nth (wi (gb tCr σ 1)) j)=true,mu:=fun i=>(wi (gb tCr σ 1)).length-i}
 |10=>some fun σ=>{X:=Nat,sl:=fun i=>[(5,.dat .int (i:Int))],ob:=fun _=>[],inv:=fun i=>i<=(U.lv (gb tPe σ 4)).length/\∀j:Nat,j<i->k8 (nth (U.lv (gb tPe σ 4)) j) 0 5=true,mu:=fun i=>(U.lv (gb tPe σ 4)).length-i}
 |15=>some fun σ=>{X:=Nat,sl:=fun i=>[(6,.dat .int (i:Int))],ob:=fun _=>[],inv:=fun i=>i<=(q9 (gb tPe σ 4)).length/\∀j:Nat,j<i->k8 (nth (q9 (gb tPe σ 4)) j) 0 99=true,mu:=fun i=>(q9 (gb tPe σ 4)).length-i}
 |20=>some fun σ=>{X:=Nat,sl:=fun i=>[(7,.dat .int (i:Int))],ob:=fun _=>[],inv:=fun i=>i<=(yR (gb tCr σ 1)).length/\∀j:Nat,j<i->fF (nth (yR (gb tCr σ 1)) j)=true,mu:=fun i=>(yR (gb tCr σ 1)).length-i}
 |_=>none
abbrev jfG (d:CrD×Unit)(x:Nat):=(nth d.1.2.1 (x:Int).toNat)
abbrev jhL (d:CrD×Unit)(x:Nat):=(↑(jfG d x).1.length:Int)
abbrev jim (d:CrD×Unit)(x:Nat):=(↑(jfG d x).2.2.2.1.length:Int)
abbrev jjJ (d:CrD×Unit)(x:Nat):=(decide ((jhL d x)≠d.1.1)|| !k8 (jfG d x).2.1 (0:Int) (255:Int)|| !k8 (jfG d x).2.2.1 (0:Int) (255:Int)||decide ((10:Int)<(jim d x))|| !k8 (jfG d x).q4.2.1 (0:Int) (1000:Int))
abbrev jhM (d:CrD×Unit):=(d.1.2.2.1.length:Int)
abbrev jgG (d:CrD×Unit)(x:Nat):=(q9 (jfG d x))
abbrev jhN (d:CrD×Unit):=(d.1.2.1.length:Int)
abbrev jjK (d:CrD×Unit):=(!k8 d.1.1 (2:Int) (5:Int)||decide (8<(jhN d))||decide ((jhM d)≠4))
abbrev jin (d:CrD×Unit)(x:Nat):=(nth d.1.2.2.1 (x:Int).toNat)
abbrev jjL (d:CrD×Unit)(x:Nat):=(!k8 (jin d x).1 (1:Int) (5:Int)|| !k8 (jin d x).2.1 (1:Int) (8:Int))
def K0:Prop:=∀(d:CrD×Unit),((!!k8 d.1.1 (2:Int) (5:Int))=true->d.1.2.1.length<4611686018427387904)->((!(!k8 d.1.1 (2:Int) (5:Int)||decide (8<(jhN d))))=true->d.1.2.2.1.length<4611686018427387904)->((jjK d)=true->(false,())=(wt d.1,()))/\((jjK d)=false->(∃(x:Nat),((0=(x:Int)/\True)/\True)/\x<=(wi d.1).length/\∀(j:Nat),j<x->fE (U.la d.1) (nth (wi d.1) j)=true)/\∀(x:Nat),(x<=(wi d.1).length/\∀(j:Nat),j<x->fE (U.la d.1) (nth (wi d.1) j)=true)->d.1.2.1.length<4611686018427387904->(decide ((x:Int)<(jhN d))=true->0<=(x:Int)/\(x:Int)<(jhN d)/\((jfG d x).1.length<4611686018427387904->((!(decide ((jhL d x)≠d.1.1)|| !k8 (jfG d x).2.1 (0:Int) (255:Int)|| !k8 (jfG d x).2.2.1 (0:Int) (255:Int)))=true->(jfG d x).2.2.2.1.length<4611686018427387904)->((jjJ d x)=true->(false,())=(wt d.1,()))/\((jjJ d x)=false->(∃(b:Nat),((0=(b:Int)/\True)/\True)/\b<=(U.lv (jfG d x)).length/\∀(j:Nat),j<b->k8 (nth (U.lv (jfG d x)) j) (0:Int) 5=true)/\∀(b:Nat),(b<=(U.lv (jfG d x)).length/\∀(j:Nat),j<b->k8 (nth (U.lv (jfG d x)) j) (0:Int) 5=true)->(jfG d x).1.length<4611686018427387904->(decide ((b:Int)<(jhL d x))=true->0<=(b:Int)/\(b:Int)<(jhL d x)/\((!k8 (nth (jfG d x).1 (b:Int).toNat) (0:Int) (5:Int))=true->(false,())=(wt d.1,()))/\((!k8 (nth (jfG d x).1 (b:Int).toNat) (0:Int) (5:Int))=false->wm ((b:Int)+1)/\∃(c:Nat),(((b:Int)+1=(c:Int)/\True)/\True)/\(c<=(U.lv (jfG d x)).length/\∀(j:Nat),j<c->k8 (nth (U.lv (jfG d x)) j) (0:Int) 5=true)/\(U.lv (jfG d x)).length-c<(U.lv (jfG d x)).length-b))/\(decide ((b:Int)<(jhL d x))=false->(∃(a:Nat),((0=(a:Int)/\True)/\True)/\a<=(jgG d x).length/\∀(j:Nat),j<a->k8 (nth (jgG d x) j) (0:Int) 99=true)/\∀(a:Nat),(a<=(jgG d x).length/\∀(j:Nat),j<a->k8 (nth (jgG d x) j) (0:Int) 99=true)->(jfG d x).2.2.2.1.length<4611686018427387904->(decide ((a:Int)<(jim d x))=true->0<=(a:Int)/\(a:Int)<(jim d x)/\((!k8 (nth (jfG d x).2.2.2.1 (a:Int).toNat) (0:Int) (99:Int))=true->(false,())=(wt d.1,()))/\((!k8 (nth (jfG d x).2.2.2.1 (a:Int).toNat) (0:Int) (99:Int))=false->wm ((a:Int)+1)/\∃(c:Nat),(((a:Int)+1=(c:Int)/\True)/\True)/\(c<=(jgG d x).length/\∀(j:Nat),j<c->k8 (nth (jgG d x) j) (0:Int) 99=true)/\(jgG d x).length-c<(jgG d x).length-a))/\(decide ((a:Int)<(jim d x))=false->wm ((x:Int)+1)/\∃(c:Nat),(((x:Int)+1=(c:Int)/\True)/\True)/\(c<=(wi d.1).length/\∀(j:Nat),j<c->fE (U.la d.1) (nth (wi d.1) j)=true)/\(wi d.1).length-c<(wi d.1).length-x)))))/\(decide ((x:Int)<(jhN d))=false->(∃(x:Nat),((0=(x:Int)/\True)/\True)/\x<=(yR d.1).length/\∀(j:Nat),j<x->fF (nth (yR d.1) j)=true)/\∀(x:Nat),(x<=(yR d.1).length/\∀(j:Nat),j<x->fF (nth (yR d.1) j)=true)->d.1.2.2.1.length<4611686018427387904->(decide ((x:Int)<(jhM d))=true->0<=(x:Int)/\(x:Int)<(jhM d)/\((!!k8 (jin d x).1 (1:Int) (5:Int))=true->0<=(x:Int))/\((!!k8 (jin d x).1 (1:Int) (5:Int))=true->(x:Int)<(jhM d))/\((jjL d x)=true->(false,())=(wt d.1,()))/\((jjL d x)=false->wm ((x:Int)+1)/\∃(c:Nat),(((x:Int)+1=(c:Int)/\True)/\True)/\(c<=(yR d.1).length/\∀(j:Nat),j<c->fF (nth (yR d.1) j)=true)/\(yR d.1).length-c<(yR d.1).length-x))/\(decide ((x:Int)<(jhM d))=false->(true,())=(wt d.1,()))))
def Od:wQ:=⟨[.val tCr,.val tJb],[.bool],false,fun d=>[wt d.1=true],fun d=>(qb d.1 d.2.1,())⟩
def Oe:Prop:=∀(d:CrD×JbD×Unit),wt d.1=true->wm (d.1.1-1)/\(k8 d.2.1.1 (0:Int) (d.1.1-1)=true->wm (d.1.1-1))/\(k8 d.2.1.1 (0:Int) (d.1.1-1)&&k8 d.2.1.2.1 (0:Int) (d.1.1-1)&&decide (d.2.1.1≠d.2.1.2.1)&&k8 d.2.1.2.2.1 (0:Int) (99:Int)&&k8 d.2.1.2.2.2.1 (0:Int) (7:Int)&&k8 d.2.1.q4.1 (0:Int) (3:Int)&&k8 d.2.1.q4.2.1 (1:Int) (8:Int),())=(qb d.1 d.2.1,())
def SB:wQ:=⟨[.val tPe,.val .int],[.bool],false,fun _=>[],fun d=>(cL d.1 d.2.1,())⟩
def SC:Ann:=fun r=>match r with
 |2=>some fun σ=>{X:=Nat,sl:=fun i=>[(5,.dat .int (i:Int))],ob:=fun _=>[],inv:=fun i=>i<=(q9 (gb tPe σ 2)).length/\∀j:Nat,j<i->nth (q9 (gb tPe σ 2)) j≠gd .int σ 1,mu:=fun i=>(q9 (gb tPe σ 2)).length-i}
 |_=>none
def SD:Prop:=∀(d:PeD×Int×Unit),(∃(x:Nat),((0=(x:Int)/\True)/\True)/\x<=(q9 d.1).length/\∀(j:Nat),j<x->nth (q9 d.1) j≠d.2.1)/\∀(x:Nat),(x<=(q9 d.1).length/\∀(j:Nat),j<x->nth (q9 d.1) j≠d.2.1)->d.1.2.2.2.1.length<4611686018427387904->(decide ((x:Int)<d.1.2.2.2.1.length)=true->0<=(x:Int)/\(x:Int)<d.1.2.2.2.1.length/\(decide (nth d.1.2.2.2.1 (x:Int).toNat=d.2.1)=true->(true,())=(cL d.1 d.2.1,()))/\(decide (nth d.1.2.2.2.1 (x:Int).toNat=d.2.1)=false->wm ((x:Int)+1)/\∃(a:Nat),(((x:Int)+1=(a:Int)/\True)/\True)/\(a<=(q9 d.1).length/\∀(j:Nat),j<a->nth (q9 d.1) j≠d.2.1)/\(q9 d.1).length-a<(q9 d.1).length-x))/\(decide ((x:Int)<d.1.2.2.2.1.length)=false->(false,())=(cL d.1 d.2.1,()))
def Ic:wQ:=⟨[.val tCr,.val tJb,.val .int],[.bool],false,fun d=>[0<=d.2.2.1/\d.2.2.1<((wi d.1).length:Int),qb d.1 d.2.1=true],fun d=>(qD d.1 d.2.1 d.2.2.1,())⟩
abbrev jhl (d:CrD×JbD×Int×Unit):=(nth d.1.2.1 d.2.2.1.toNat)
def Ie:Prop:=∀(d:CrD×JbD×Int×Unit),0<=d.2.2.1/\d.2.2.1<(↑(wi d.1).length:Int)->qb d.1 d.2.1=true->0<=d.2.2.1/\d.2.2.1<(d.1.2.1.length:Int)/\((!cL (jhl d) d.2.1.2.2.1)=true->0<=d.2.1.2.2.2.1/\d.2.1.2.2.2.1<=63)/\((!cL (jhl d) d.2.1.2.2.1&&qd (jhl d).2.1 d.2.1.2.2.2.1)=true->0<=d.2.1.q4.1/\d.2.1.q4.1<=63)/\(!cL (jhl d) d.2.1.2.2.1&&qd (jhl d).2.1 d.2.1.2.2.2.1&&qd (jhl d).2.2.1 d.2.1.q4.1,())=(qD d.1 d.2.1 d.2.2.1,())
def SE:wQ:=⟨[.val .int],[.int],false,fun d=>[BT.qh d.1],fun d=>(BT.size d.1,())⟩
def SF:Ann:=fun r=>match r with
 |2=>some fun σ=>{X:=Nat,sl:=fun j=>[(0,.dat .int (qE (gd .int σ 0) j)),(3,.dat .int (BT.size (gd .int σ 0)-BT.size (qE (gd .int σ 0) j)))],ob:=fun _=>[],inv:=fun j=>BT.qh (qE (gd .int σ 0) j),mu:=fun j=>(qE (gd .int σ 0) j).toNat}
 |_=>none
def SG:Prop:=∀(d:Int×Unit),BT.qh d.1->(∃(x:Nat),((d.1=qE d.1 x/\0=BT.size d.1-BT.size (qE d.1 x)/\True)/\True)/\BT.qh (qE d.1 x))/\∀(x:Nat),BT.qh (qE d.1 x)->(decide (0<qE d.1 x)=true->wm (BT.size d.1-BT.size (qE d.1 x)+fO (qE d.1 x) (1:Int))/\(0:Int)<=1/\(1:Int)<=64/\∃(a:Nat),((qE d.1 x/(2:Int)^Int.toNat 1=qE d.1 a/\BT.size d.1-BT.size (qE d.1 x)+fO (qE d.1 x) 1=BT.size d.1-BT.size (qE d.1 a)/\True)/\True)/\BT.qh (qE d.1 a)/\(qE d.1 a).toNat<(qE d.1 x).toNat)/\(decide (0<qE d.1 x)=false->(BT.size d.1-BT.size (qE d.1 x),())=(BT.size d.1,()))
def Of:wQ:=⟨[.val tCr,.val .int,.val .int,.val .int,.val .int],[.bool],false,fun d=>[wt d.1=true,0<=d.2.2.2.1/\d.2.2.2.1<U.la d.1,0<=d.2.2.2.2.1/\d.2.2.2.2.1<U.la d.1],fun d=>(lf d.1 d.2.1 d.2.2.1 d.2.2.2.1 d.2.2.2.2.1,())⟩
def Og:Ann:=fun r=>match r with
 |2=>some fun σ=>{X:=Nat,sl:=fun i=>[(11,.dat .int (i:Int))],ob:=fun _=>[],inv:=fun i=>i<=(wi (gb tCr σ 5)).length/\∀j:Nat,j<i->(qd (gd .int σ 1) (j:Int)&&decide (gd .int σ 2<=nth (U.lv (nth (wi (gb tCr σ 5)) j)) (gd .int σ 3).toNat)&&decide (gd .int σ 2<=nth (U.lv (nth (wi (gb tCr σ 5)) j)) (gd .int σ 4).toNat))=false,mu:=fun i=>(wi (gb tCr σ 5)).length-i}
 |_=>none
abbrev ji5 (d:CrD×Int×Int×Int×Int×Unit)(j:Nat):=(qd d.2.1 (j:Int)&&decide (d.2.2.1<=nth (U.lv (nth (wi d.1) j)) d.2.2.2.1.toNat)&&decide (d.2.2.1<=nth (U.lv (nth (wi d.1) j)) d.q4.1.toNat))
abbrev jjM (d:CrD×Int×Int×Int×Int×Unit)(x:Nat):=(d.2.2.1<=nth (nth d.1.2.1 (x:Int).toNat).1 d.2.2.2.1.toNat)
abbrev jjN (d:CrD×Int×Int×Int×Int×Unit)(x:Nat):=(qd d.2.1 (x:Int)&&decide (jjM d x)&&decide (d.2.2.1<=nth (nth d.1.2.1 (x:Int).toNat).1 d.q4.1.toNat))
abbrev jio (d:CrD×Int×Int×Int×Int×Unit)(x:Nat):=(qd d.2.1 (x:Int)&&decide (jjM d x))
def Oh:Prop:=∀(d:CrD×Int×Int×Int×Int×Unit),wt d.1=true->0<=d.2.2.2.1/\d.2.2.2.1<U.la d.1->0<=d.q4.1/\d.q4.1<U.la d.1->(∃(x:Nat),((0=(x:Int)/\True)/\True)/\x<=(wi d.1).length/\∀(j:Nat),j<x->(ji5 d j)=false)/\∀(x:Nat),(x<=(wi d.1).length/\∀(j:Nat),j<x->(ji5 d j)=false)->d.1.2.1.length<4611686018427387904->(decide ((x:Int)<d.1.2.1.length)=true->(0<=(x:Int)/\(x:Int)<=63)/\(qd d.2.1 (x:Int)=true->0<=(x:Int))/\(qd d.2.1 (x:Int)=true->(x:Int)<d.1.2.1.length)/\(qd d.2.1 (x:Int)=true->0<=d.2.2.2.1)/\(qd d.2.1 (x:Int)=true->d.2.2.2.1<(↑(nth d.1.2.1 (x:Int).toNat).1.length:Int))/\((jio d x)=true->0<=(x:Int))/\((jio d x)=true->(x:Int)<d.1.2.1.length)/\((jio d x)=true->0<=d.q4.1)/\((jio d x)=true->d.q4.1<(↑(nth d.1.2.1 (x:Int).toNat).1.length:Int))/\((jjN d x)=true->(true,())=(lf d.1 d.2.1 d.2.2.1 d.2.2.2.1 d.q4.1,()))/\((jjN d x)=false->wm ((x:Int)+1)/\∃(a:Nat),(((x:Int)+1=(a:Int)/\True)/\True)/\(a<=(wi d.1).length/\∀(j:Nat),j<a->(ji5 d j)=false)/\(wi d.1).length-a<(wi d.1).length-x))/\(decide ((x:Int)<d.1.2.1.length)=false->(false,())=(lf d.1 d.2.1 d.2.2.1 d.2.2.2.1 d.q4.1,()))
def Wu:wQ:=⟨[.val tCr,.val .int,.val .int,.val .int],[.slice .int],false,fun d=>[wt d.1=true,0<=d.2.2.2.1/\d.2.2.2.1<U.la d.1],fun d=>(mZ d.1 d.2.1 d.2.2.1 d.2.2.2.1,())⟩
def Wv:Ann:=fun r=>match r with
 |3=>some fun σ=>{X:=Nat,sl:=fun i=>[(10,.dat .int (i:Int)),(9,.own 9 .int)],ob:=fun i=>[(9,some (.row 3 .int false .yes (List.replicate i (-1))))],inv:=fun i=>i<=(U.la (gb tCr σ 4)).toNat,mu:=fun i=>(U.la (gb tCr σ 4)).toNat-i}
 |8=>some fun σ=>{X:=Nat,sl:=fun i=>[(11,.dat .int (i:Int)),(9,.own 9 .int)],ob:=fun i=>[(9,some (.row 3 .int false .yes (qI (U.J3 (gb tCr σ 4) (gd .int σ 1) (gd .int σ 2)) (U.la (gb tCr σ 4)).toNat (gd .int σ 3).toNat i)))],inv:=fun i=>i<=(U.la (gb tCr σ 4)).toNat,mu:=fun i=>(U.la (gb tCr σ 4)).toNat-i}
 |11=>some fun σ=>{X:=Nat,sl:=fun i=>[(12,.dat .int (i:Int)),(9,.own 9 .int)],ob:=fun i=>[(9,some (.row 3 .int false .yes (vW (U.J3 (gb tCr σ 4) (gd .int σ 1) (gd .int σ 2)) (U.la (gb tCr σ 4)).toNat (gd .int σ 11).toNat (gr .int σ 9) i)))],inv:=fun i=>i<=(U.la (gb tCr σ 4)).toNat,mu:=fun i=>(U.la (gb tCr σ 4)).toNat-i}
 |14=>some fun σ=>{X:=Nat,sl:=fun i=>[(13,.dat .int (i:Int)),(9,.own 9 .int)],ob:=fun i=>[(9,some (.row 3 .int false .yes (yB (U.J3 (gb tCr σ 4) (gd .int σ 1) (gd .int σ 2)) (gd .int σ 11).toNat (gd .int σ 12).toNat (gr .int σ 9) i)))],inv:=fun i=>i<=(U.la (gb tCr σ 4)).toNat,mu:=fun i=>(U.la (gb tCr σ 4)).toNat-i}
 |_=>none
abbrev jfT (d:CrD×Int×Int×Int×Unit):=(U.J3 d.1 d.2.1 d.2.2.1)
abbrev jhO (d:CrD×Int×Int×Int×Unit)(x:Nat):=(qI (jfT d) (U.la d.1).toNat d.2.2.2.1.toNat x)
abbrev jhm (d:CrD×Int×Int×Int×Unit)(x:Nat)(a:Nat):=(vW (jfT d) (U.la d.1).toNat (x:Int).toNat (jhO d x) a)
abbrev jgZ (d:CrD×Int×Int×Int×Unit)(x:Nat)(a:Nat)(b:Nat):=(yB (jfT d) (x:Int).toNat (a:Int).toNat (jhm d x a) b)
abbrev jip (d:CrD×Int×Int×Int×Unit)(x:Nat)(a:Nat)(b:Nat):=(nth (jgZ d x a b) (a:Int).toNat=(x:Int))
abbrev ji6 (d:CrD×Int×Int×Int×Unit)(x:Nat)(b:Nat)(a:Nat):=(decide (jip d x b a)&&decide (nth (jgZ d x b a) (a:Int).toNat<0))
abbrev jjO (d:CrD×Int×Int×Int×Unit)(x:Nat)(b:Nat)(a:Nat):=(decide (jip d x b a)&&decide (nth (jgZ d x b a) (a:Int).toNat<0)&&lf d.1 d.2.1 d.2.2.1 (b:Int) (a:Int))
def Ww:Prop:=∀(d:CrD×Int×Int×Int×Unit),wt d.1=true->0<=d.2.2.2.1/\d.2.2.2.1<U.la d.1->(∃(x:Nat),((0=(x:Int)/\True/\True)/\List.replicate x (-1:Int)=[]/\True)/\x<=(U.la d.1).toNat)/\∀(x:Nat),x<=(U.la d.1).toNat->(decide ((x:Int)<d.1.1)=true->((List.replicate x (-1:Int)).length+[(-1:Int)].length)*8<=140737488355328/\wm ((x:Int)+1)/\∃(c:Nat),(((x:Int)+1=(c:Int)/\True/\True)/\List.replicate x (-1:Int)++[(-1:Int)]=List.replicate c (-1:Int)/\True)/\c<=(U.la d.1).toNat/\(U.la d.1).toNat-c<(U.la d.1).toNat-x)/\(decide ((x:Int)<d.1.1)=false->0<=d.2.2.2.1/\d.2.2.2.1<(↑(List.replicate x (-1:Int)).length:Int)/\(∃(e:Nat),((0=(e:Int)/\True/\True)/\(List.replicate x (-1:Int)).set d.2.2.2.1.toNat 0=qI (jfT d) (U.la d.1).toNat d.2.2.2.1.toNat e/\True)/\e<=(U.la d.1).toNat)/\∀(x:Nat),x<=(U.la d.1).toNat->(decide ((x:Int)<d.1.1)=true->(∃(a:Nat),((0=(a:Int)/\True/\True)/\qI (jfT d) (U.la d.1).toNat d.2.2.2.1.toNat x=vW (jfT d) (U.la d.1).toNat (x:Int).toNat (jhO d x) a/\True)/\a<=(U.la d.1).toNat)/\∀(a:Nat),a<=(U.la d.1).toNat->(decide ((a:Int)<d.1.1)=true->(∃(b:Nat),((0=(b:Int)/\True/\True)/\vW (jfT d) (U.la d.1).toNat (x:Int).toNat (jhO d x) a=yB (jfT d) (x:Int).toNat (a:Int).toNat (jhm d x a) b/\True)/\b<=(U.la d.1).toNat)/\∀(b:Nat),b<=(U.la d.1).toNat->(decide ((b:Int)<d.1.1)=true->0<=(a:Int)/\(a:Int)<(jgZ d x a b).length/\(decide (jip d x a b)=true->0<=(b:Int))/\(decide (jip d x a b)=true->(b:Int)<(jgZ d x a b).length)/\((ji6 d x a b)=true->wt d.1=true)/\((ji6 d x a b)=true->0<=(a:Int)/\(a:Int)<U.la d.1)/\((ji6 d x a b)=true->0<=(b:Int)/\(b:Int)<U.la d.1)/\((jjO d x a b)=true->wm ((x:Int)+1)/\0<=(b:Int)/\(b:Int)<(jgZ d x a b).length/\wm ((b:Int)+1)/\∃(c:Nat),((True/\(b:Int)+1=(c:Int)/\True)/\(jgZ d x a b).set (b:Int).toNat ((x:Int)+1)=yB (jfT d) (x:Int).toNat (a:Int).toNat (jhm d x a) c/\True)/\c<=(U.la d.1).toNat/\(U.la d.1).toNat-c<(U.la d.1).toNat-b)/\((jjO d x a b)=false->wm ((b:Int)+1)/\∃(c:Nat),((True/\(b:Int)+1=(c:Int)/\True)/\yB (jfT d) (x:Int).toNat (a:Int).toNat (jhm d x a) b=yB (jfT d) (x:Int).toNat (a:Int).toNat (jhm d x a) c/\True)/\c<=(U.la d.1).toNat/\(U.la d.1).toNat-c<(U.la d.1).toNat-b))/\(decide ((b:Int)<d.1.1)=false->wm ((a:Int)+1)/\∃(c:Nat),(((a:Int)+1=(c:Int)/\True/\True)/\yB (jfT d) (x:Int).toNat (a:Int).toNat (jhm d x a) b=vW (jfT d) (U.la d.1).toNat (x:Int).toNat (jhO d x) c/\True)/\c<=(U.la d.1).toNat/\(U.la d.1).toNat-c<(U.la d.1).toNat-a))/\(decide ((a:Int)<d.1.1)=false->wm ((x:Int)+1)/\∃(c:Nat),(((x:Int)+1=(c:Int)/\True/\True)/\vW (jfT d) (U.la d.1).toNat (x:Int).toNat (jhO d x) a=qI (jfT d) (U.la d.1).toNat d.2.2.2.1.toNat c/\True)/\c<=(U.la d.1).toNat/\(U.la d.1).toNat-c<(U.la d.1).toNat-x))/\(decide ((x:Int)<d.1.1)=false->(qI (jfT d) (U.la d.1).toNat d.2.2.2.1.toNat x,())=(mZ d.1 d.2.1 d.2.2.1 d.2.2.2.1,())))
def K1:wQ:=⟨[.val tCr,.val tJb,.val .int],[.int],false,fun d=>[wt d.1=true,qb d.1 d.2.1=true,XW d.2.2.1],fun d=>(Uc d.1 d.2.1 d.2.2.1,())⟩
def K2:Ann:=fun r=>match r with
 |5=>some fun σ=>{X:=Nat,sl:=fun i=>[(10,.dat .int (i:Int)),(8,.dat .int (qt (gb tCr σ 3) (gb tJb σ 4) (gd .int σ 2) i).1),(9,.dat .bool (qt (gb tCr σ 3) (gb tJb σ 4) (gd .int σ 2) i).2)],ob:=fun _=>[],inv:=fun i=>i<=(wi (gb tCr σ 3)).length,mu:=fun i=>(wi (gb tCr σ 3)).length-i}
 |_=>none
abbrev jfE (d:CrD×JbD×Int×Unit)(x:Nat):=(qt d.1 d.2.1 d.2.2.1 x)
abbrev jhP (d:CrD×JbD×Int×Unit)(x:Nat):=(nth d.1.2.1 (x:Int).toNat)
abbrev jfM (d:CrD×JbD×Int×Unit)(a:Nat):=(qt d.1 d.2.1 d.2.2.1 a)
abbrev jgH (d:CrD×JbD×Int×Unit)(x:Nat):=(!qd (jhP d x).2.2.1 d.2.1.q4.1)
abbrev jgI (d:CrD×JbD×Int×Unit)(x:Nat):=((jfE d x).2||(jhP d x).q4.1)
abbrev jg0 (d:CrD×JbD×Int×Unit):=(nth d.1.2.2.1 d.2.1.q4.1.toNat)
abbrev jhQ (d:CrD×JbD×Int×Unit):=(mZ d.1 d.2.2.1 (jg0 d).1 d.2.1.1)
abbrev jgJ (d:CrD×JbD×Int×Unit):=(nth (jhQ d) d.2.1.2.1.toNat<0)
abbrev jgK (d:CrD×JbD×Int×Unit):=(Uc d.1 d.2.1 d.2.2.1,())
abbrev jiq (d:CrD×JbD×Int×Unit):=(0<=d.2.1.q4.1/\d.2.1.q4.1<=63)
abbrev jir (d:CrD×JbD×Int×Unit):=(0<=d.2.1.1/\d.2.1.1<U.la d.1)
abbrev jis (d:CrD×JbD×Int×Unit)(x:Nat):=(!qd (jhP d x).2.1 d.2.1.2.2.2.1)
def K3:Prop:=∀(d:CrD×JbD×Int×Unit),wt d.1=true->qb d.1 d.2.1=true->XW d.2.2.1->0<=d.2.1.q4.1/\d.2.1.q4.1<(d.1.2.2.1.length:Int)/\(∃(x:Nat),((0=(x:Int)/\0=(jfE d x).1/\false=(jfE d x).2/\True)/\True)/\x<=(wi d.1).length)/\∀(x:Nat),x<=(wi d.1).length->d.1.2.1.length<4611686018427387904->(decide ((x:Int)<d.1.2.1.length)=true->(0<=(x:Int)/\(x:Int)<=63)/\((!qd d.2.2.1 (x:Int))=true->wm ((x:Int)+1)/\∃(a:Nat),(((jfE d x).2=(jfM d a).2/\(jfE d x).1=(jfM d a).1/\(x:Int)+1=(a:Int)/\True)/\True)/\a<=(wi d.1).length/\(wi d.1).length-a<(wi d.1).length-x)/\((!qd d.2.2.1 (x:Int))=false->0<=(x:Int)/\(x:Int)<d.1.2.1.length/\(cL (jhP d x) d.2.1.2.2.1=true->(0<=d.2.1.2.2.2.1/\d.2.1.2.2.2.1<=63)/\((jis d x)=true->(jiq d)/\((jgH d x)=true->wm ((x:Int)+1)/\∃(a:Nat),(((x:Int)+1=(a:Int)/\(jgI d x)=(jfM d a).2/\bor (bor (bor (jfE d x).1 (1:Int)) (2:Int)) 4=(jfM d a).1/\True)/\True)/\a<=(wi d.1).length/\(wi d.1).length-a<(wi d.1).length-x)/\((jgH d x)=false->wm ((x:Int)+1)/\∃(a:Nat),(((x:Int)+1=(a:Int)/\(jgI d x)=(jfM d a).2/\bor (bor (jfE d x).1 (1:Int)) 2=(jfM d a).1/\True)/\True)/\a<=(wi d.1).length/\(wi d.1).length-a<(wi d.1).length-x))/\((jis d x)=false->(jiq d)/\((jgH d x)=true->wm ((x:Int)+1)/\∃(a:Nat),(((x:Int)+1=(a:Int)/\(jgI d x)=(jfM d a).2/\bor (bor (jfE d x).1 (1:Int)) 4=(jfM d a).1/\True)/\True)/\a<=(wi d.1).length/\(wi d.1).length-a<(wi d.1).length-x)/\((jgH d x)=false->wm ((x:Int)+1)/\∃(a:Nat),(((x:Int)+1=(a:Int)/\(jgI d x)=(jfM d a).2/\bor (jfE d x).1 1=(jfM d a).1/\True)/\True)/\a<=(wi d.1).length/\(wi d.1).length-a<(wi d.1).length-x)))/\(cL (jhP d x) d.2.1.2.2.1=false->(0<=d.2.1.2.2.2.1/\d.2.1.2.2.2.1<=63)/\((jis d x)=true->(jiq d)/\((jgH d x)=true->wm ((x:Int)+1)/\∃(a:Nat),(((x:Int)+1=(a:Int)/\(jgI d x)=(jfM d a).2/\bor (bor (jfE d x).1 (2:Int)) 4=(jfM d a).1/\True)/\True)/\a<=(wi d.1).length/\(wi d.1).length-a<(wi d.1).length-x)/\((jgH d x)=false->wm ((x:Int)+1)/\∃(a:Nat),(((x:Int)+1=(a:Int)/\(jgI d x)=(jfM d a).2/\bor (jfE d x).1 2=(jfM d a).1/\True)/\True)/\a<=(wi d.1).length/\(wi d.1).length-a<(wi d.1).length-x))/\((jis d x)=false->(jiq d)/\((jgH d x)=true->wm ((x:Int)+1)/\∃(a:Nat),(((x:Int)+1=(a:Int)/\(jgI d x)=(jfM d a).2/\bor (jfE d x).1 4=(jfM d a).1/\True)/\True)/\a<=(wi d.1).length/\(wi d.1).length-a<(wi d.1).length-x)/\((jgH d x)=false->wm ((x:Int)+1)/\∃(a:Nat),(((jfE d x).1=(jfM d a).1/\(x:Int)+1=(a:Int)/\(jgI d x)=(jfM d a).2/\True)/\True)/\a<=(wi d.1).length/\(wi d.1).length-a<(wi d.1).length-x)))))/\(decide ((x:Int)<d.1.2.1.length)=false->BT.qh d.2.2.1/\(decide (BT.size d.2.2.1≠max d.2.1.q4.2.1 (jg0 d).2.1)=true->(((jg0 d).2.2.1&& !(jfE d x).2)=true->wt d.1=true/\(jir d)/\0<=d.2.1.2.1/\d.2.1.2.1<(↑(jhQ d).length:Int)/\(decide (jgJ d)=true->(bor (bor (bor (jfE d x).1 (8:Int)) (16:Int)) (32:Int),())=(jgK d))/\(decide (jgJ d)=false->(bor (bor (jfE d x).1 (8:Int)) (16:Int),())=(jgK d)))/\(((jg0 d).2.2.1&& !(jfE d x).2)=false->wt d.1=true/\(jir d)/\0<=d.2.1.2.1/\d.2.1.2.1<(↑(jhQ d).length:Int)/\(decide (jgJ d)=true->(bor (bor (jfE d x).1 (8:Int)) (32:Int),())=(jgK d))/\(decide (jgJ d)=false->(bor (jfE d x).1 (8:Int),())=(jgK d))))/\(decide (BT.size d.2.2.1≠max d.2.1.q4.2.1 (jg0 d).2.1)=false->(((jg0 d).2.2.1&& !(jfE d x).2)=true->wt d.1=true/\(jir d)/\0<=d.2.1.2.1/\d.2.1.2.1<(↑(jhQ d).length:Int)/\(decide (jgJ d)=true->(bor (bor (jfE d x).1 (16:Int)) (32:Int),())=(jgK d))/\(decide (jgJ d)=false->(bor (jfE d x).1 (16:Int),())=(jgK d)))/\(((jg0 d).2.2.1&& !(jfE d x).2)=false->wt d.1=true/\(jir d)/\0<=d.2.1.2.1/\d.2.1.2.1<(↑(jhQ d).length:Int)/\(decide (jgJ d)=true->(bor (jfE d x).1 (32:Int),())=(jgK d))/\(decide (jgJ d)=false->((jfE d x).1,())=(jgK d)))))
def SH:wQ:=⟨[.val tCr,.val tJb,.val .int],[.bool],false,fun d=>[wt d.1=true,qb d.1 d.2.1=true,XW d.2.2.1],fun d=>(Er d.1 d.2.1 d.2.2.1,())⟩
def SI:Prop:=∀(d:CrD×JbD×Int×Unit),wt d.1=true->qb d.1 d.2.1=true->XW d.2.2.1->(decide (0<d.2.2.1)=true->wt d.1=true)/\(decide (0<d.2.2.1)=true->qb d.1 d.2.1=true)/\(decide (0<d.2.2.1)=true->XW d.2.2.1)/\(decide (0<d.2.2.1)&&decide (Uc d.1 d.2.1 d.2.2.1=0),())=(Er d.1 d.2.1 d.2.2.1,())
theorem Oi:KX:=by
 rintro⟨n,a,b,⟨⟩⟩;rfl
theorem xD:wV PR 135 KW:=wK Oi Tryz.func135 kcN koN
theorem Zg:Wt:=by
 rintro⟨s,n,⟨⟩⟩ ⟨a,b⟩;have a:0<=n:=a;have b:n<=63:=b;exact⟨a,by show n<=18446744073709551615;omega,a,by show n<=64;omega,rfl⟩
theorem tb:wV PR 19 Ws:=wK Zg Tryz.func19 kcN koN
theorem Zh (c:CrD) (j:JbD):(k8 (Mw j) 0 (U.la c-1)&&k8 (G1 j) 0 (U.la c-1)&&decide (Mw j≠G1 j)&&k8 (X6 j) 0 99&&k8 (PH j) 0 7&&k8 (bU j) 0 3&&k8 (Z4 j) 1 8)=qb c j:=by
 unfold qb k8;rw[j0];simp only[ji,jp,ne_eq];constructor;rintro⟨⟨⟨⟨⟨⟨⟨f,g⟩,h,i⟩,k⟩,l,m⟩,n,o⟩,a,b⟩,d,e⟩;exact⟨f,g,h,i,k,l,m,n,o,a,b,d,e⟩;rintro⟨f,g,h,i,k,l,m,n,o,a,b,d,e⟩;exact⟨⟨⟨⟨⟨⟨⟨f,g⟩,h,i⟩,k⟩,l,m⟩,n,o⟩,a,b⟩,d,e⟩
theorem SJ:Oe:=by
 unfold Oe Prod.q4;rintro⟨c,j,⟨⟩⟩ h;have h:wt c=true:=h;have d:=w4 h;have a:wm (U.la c-1):=iZ6;refine⟨a,fun _=>a,?_⟩;exact jF (fun b=>(b,())) (Zh c j)
theorem Oj:wV PR 92 Od:=wK SJ Tryz.func92 (kcC xD kcN) koN
theorem Wx:SD:=by
 rintro⟨p,n,⟨⟩⟩;refine⟨⟨0,⟨⟨rfl,tZ⟩,tZ⟩,jl _,fun j d=>by omega⟩,fun x b c=>⟨fun h=> ?_,fun h=> ?_⟩⟩;have c:(q9 p).length<4611686018427387904:=c;have h:(x:Int)<(q9 p).length:=ja h;refine⟨by omega,h,fun a=> ?_,fun a=>⟨iZ6,x+1,⟨⟨by simp,tZ⟩,tZ⟩,⟨by show x+1<=(q9 p).length;omega,fun j d=> ?_⟩,by show(q9 p).length-(x+1)<(q9 p).length-x;omega⟩⟩;have a:nth (q9 p) x=n:=ja a;have:cL p n=true:=by
  unfold cL;rw[za];exact⟨_,L.wh (l:=q9 p) (i:=x) (by omega),by simpa using a⟩
 show(true,())=(cL p n,());rw[this];have a:¬nth (q9 p) x=n:=jc a;by_cases e:j=x;subst e;exact a;exact b.2 j (by omega);have h:¬(x:Int)<(q9 p).length:=jc h;have g:x<=(q9 p).length:=b.1;have:cL p n=false:=by
  unfold cL;rw[zi];intro t f;obtain⟨i,hi,rfl⟩:=L.mem_iff.1 f;have:=b.2 i (by omega);have this:nth (q9 p) i≠n:=this;simpa using this
 show(false,())=(cL p n,());rw[this]
theorem GK:wV PR 112 SB:=qY SC Wx Tryz.func112 kcN koN
theorem Wy {c:CrD} {j:JbD} (h:qb c j=true):(0<=Mw j/\Mw j<U.la c)/\(0<=G1 j/\G1 j<U.la c)/\(0<=PH j/\PH j<=7)/\(0<=bU j/\bU j<=3)/\1<=Z4 j/\Z4 j<=8:=by
 unfold qb at h;have:=ja h;omega
theorem K4:Ie:=by
 unfold Ie jhl Prod.q4;rintro⟨c,j,p,⟨⟩⟩ ⟨b,d⟩ a;have a:qb c j=true:=a;obtain⟨_,_,f,k,_⟩:=Wy a;exact⟨b,d,fun _=>⟨f.1,by show PH j<=63;omega⟩,fun _=>⟨k.1,by show bU j<=63;omega⟩,rfl⟩
theorem If:wV PR 148 Ic:=wK K4 Tryz.func148 (kcC GK (kcC tb kcN)) koN
theorem K5:SG:=by
 rintro⟨s,⟨⟩⟩ d;have d:BT.qh s:=d;have e:=BT.Bu s;refine⟨⟨0,⟨⟨rfl,by show(0:Int)=BT.size s-BT.size s;omega,tZ⟩,tZ⟩,d⟩,fun x a=>⟨fun h=> ?_,fun h=> ?_⟩⟩;have h:0<qE s x:=ja h;have a:BT.qh (qE s x):=a;have g:=BT.size_half a;have i:=BT.Bu (qE s x);have j:fO (qE s x) 1=(qE s x)%2:=by
  obtain⟨n,f,c⟩:=BT.nat_of a;rw[f,show(1:Int)=((1:Nat):Int) from rfl,BT.band_nat (BT.lt63 c) (by decide),kG];omega
 have b:qE s (x+1)=qE s x/2:=(by show qE s x/2^1=_;simp);unfold BT.qh at a;refine⟨?_,by decide,by decide,x+1,⟨⟨rfl,?_,tZ⟩,tZ⟩,?_,?_⟩;show wm (BT.size s-BT.size (qE s x)+fO (qE s x) 1);exact iZ6;show BT.size s-BT.size (qE s x)+fO (qE s x) 1=BT.size s-BT.size (qE s (x+1));rw[b];omega;show BT.qh (qE s (x+1));rw[b];unfold BT.qh;omega;show(qE s (x+1)).toNat<(qE s x).toNat;rw[b];omega;have h:¬0<qE s x:=jc h;have a:BT.qh (qE s x):=a;unfold BT.qh at a;have:qE s x=0:=(by omega);show(BT.size s-BT.size (qE s x),())=(BT.size s,());rw[this,BT.size_zero];simp
theorem SK:wV PR 113 SE:=qY SF K5 Tryz.func113 kcN koN
theorem Wz:SI:=by
 rintro⟨c,j,t,⟨⟩⟩ a b d;exact⟨fun _=>a,fun _=>b,fun _=>d,rfl⟩
theorem jdx {c:CrD} (h:wt c=true) {i:Nat} (hi:i<(wi c).length):((U.lv (nth (wi c) i)).length:Int)=U.la c:=by
 have:=(w4 h).2.2.2.2.1 _ (L.wh hi);unfold fE at this;simp only[ji,jp] at this;exact this.1.1
theorem SL:Oh:=by
 unfold Oh jio jjN jjM ji5 Prod.q4;rintro⟨c,t,lev,a,b,⟨⟩⟩ f g k;have f:wt c=true:=f;have g:0<=a/\a<U.la c:=g;have k:0<=b/\b<U.la c:=k;have n:=(w4 f).2.2.1;refine⟨⟨0,⟨⟨rfl,tZ⟩,tZ⟩,jl _,fun j m=>by omega⟩,fun x l _=>⟨fun h=> ?_,fun h=> ?_⟩⟩;have h:(x:Int)<(wi c).length:=ja h;have o:=jdx f (i:=x) (by omega);refine⟨⟨by omega,by omega⟩,fun _=>by omega,fun _=>h,fun _=>g.1,fun _=> ?_,fun _=>by omega,fun _=>h,fun _=>k.1,fun _=> ?_,fun d=> ?_,fun d=>⟨iZ6,x+1,⟨⟨by simp,tZ⟩,tZ⟩,⟨by show x+1<=(wi c).length;omega,fun j m=> ?_⟩,by show(wi c).length-(x+1)<(wi c).length-x;omega⟩⟩;show a<((U.lv (nth (wi c) x)).length:Int);omega;show b<((U.lv (nth (wi c) x)).length:Int);omega;have d:(qd t (x:Int)&&decide (lev<=nth (U.lv (nth (wi c) x)) a.toNat)&&decide (lev<=nth (U.lv (nth (wi c) x)) b.toNat))=true:=d;have:lf c t lev a b=true:=by
  unfold lf;rw[za];exact⟨x,jD.2 (by omega),d⟩
 show(true,())=(lf c t lev a b,());rw[this];by_cases e:j=x;subst e;exact d;exact l.2 j (by omega);have h:¬(x:Int)<(wi c).length:=jc h;have:lf c t lev a b=false:=by
  unfold lf;rw[zi];intro i hi;have hi:=jD.1 hi;have:=l.2 i (by omega);rw[zZ];exact this
 show(false,())=(lf c t lev a b,());rw[this]
theorem Ol:wV PR 150 Of:=qY Og SL Tryz.func150 (kcC tb kcN) koN
theorem Om (J:Nat->Nat->Bool) (r a:Nat) (out:List Int) (b:Nat):(nJ J r a out b).length=out.length:=by
 unfold nJ
 split
 rw[kg];rfl
theorem K6 (J:Nat->Nat->Bool) (r a:Nat) (out:List Int) (k:Nat):yB J r a out (k+1)=nJ J r a (yB J r a out k) k:=by
 unfold yB;rw[zc,jU];rfl
theorem Ig (J:Nat->Nat->Bool) (r a:Nat) (out:List Int):∀k,(yB J r a out k).length=out.length
 |0=>rfl
 |k+1=>by rw[K6,Om,Ig J r a out k]
theorem K7 (J:Nat->Nat->Bool) (n r:Nat) (out:List Int) (k:Nat):vW J n r out (k+1)=yB J r k (vW J n r out k) n:=by
 unfold vW;rw[zc,jU];rfl
theorem Ih (J:Nat->Nat->Bool) (n r:Nat) (out:List Int):∀k,(vW J n r out k).length=out.length
 |0=>rfl
 |k+1=>by rw[K7,Ig,Ih J n r out k]
theorem K8 (J:Nat->Nat->Bool) (n s:Nat) (k:Nat):qI J n s (k+1)=vW J n k (qI J n s k) n:=by
 unfold qI;rw[zc,jU];rfl
theorem Ii (J:Nat->Nat->Bool) (n s:Nat):∀k,(qI J n s k).length=n
 |0=>pu n s
 |k+1=>by rw[K8,Ih,Ii J n s k]
theorem Zi:Ww:=by
 unfold Ww jjO ji6 jip jgZ jhm jhO jfT;rintro⟨c,t,lev,s,⟨⟩⟩ j l;have j:wt c=true:=j;have l:0<=s/\s<U.la c:=l;have r:=w4 j;obtain⟨J,u⟩:∃J,J=U.J3 c t lev:=⟨_,rfl⟩;refine⟨⟨0,⟨⟨rfl,tZ,tZ⟩,rfl,tZ⟩,jl _⟩,fun x i=>⟨fun h=> ?_,fun h=> ?_⟩⟩;have h:(x:Int)<U.la c:=ja h;refine⟨by simp only[zu,j8,zr];omega,iZ6,x+1,⟨⟨by simp,tZ,tZ⟩,?_,tZ⟩,by show x+1<=(U.la c).toNat;omega,by show(U.la c).toNat-(x+1)<(U.la c).toNat-x;omega⟩;exact List.replicate_succ'.symm;have h:¬(x:Int)<U.la c:=jc h;have i:x<=(U.la c).toNat:=i;have f:x=(U.la c).toNat:=(by omega);subst f;refine⟨l.1,by rw[zu];show s<(((U.la c).toNat:Nat):Int);omega,⟨0,⟨⟨rfl,tZ,tZ⟩,rfl,tZ⟩,jl _⟩,fun x i=>⟨fun h=>⟨⟨0,⟨⟨rfl,tZ,tZ⟩,rfl,tZ⟩,jl _⟩,fun y p=>⟨fun e=>⟨⟨0,⟨⟨rfl,tZ,tZ⟩,rfl,tZ⟩,jl _⟩,fun z q=>⟨fun g=> ?_,fun g=> ?_⟩⟩,fun e=> ?_⟩⟩,fun h=> ?_⟩⟩;have h:(x:Int)<U.la c:=ja h;have e:(y:Int)<U.la c:=ja e;have g:(z:Int)<U.la c:=ja g;have d:=K6 (U.J3 c t lev) x y (vW (U.J3 c t lev) (U.la c).toNat x (qI (U.J3 c t lev) (U.la c).toNat s.toNat x) y) z;have b:(yB (U.J3 c t lev) x y (vW (U.J3 c t lev) (U.la c).toNat x (qI (U.J3 c t lev) (U.la c).toNat s.toNat x) y) z).length=(U.la c).toNat:=(by rw[Ig,Ih,Ii]);have up:z+1<=(U.la c).toNat:=(by omega);have o:(U.la c).toNat-(z+1)<(U.la c).toNat-z:=(by omega);refine⟨by omega,by show(y:Int)<(yB (U.J3 c t lev) x y (vW (U.J3 c t lev) (U.la c).toNat x (qI (U.J3 c t lev) (U.la c).toNat s.toNat x) y) z).length;rw[b];omega,fun _=>by omega,fun _=>by show(z:Int)<(yB (U.J3 c t lev) x y (vW (U.J3 c t lev) (U.la c).toNat x (qI (U.J3 c t lev) (U.la c).toNat s.toNat x) y) z).length;rw[b];omega,fun _=>j,fun _=>⟨by omega,e⟩,fun _=>⟨by omega,g⟩,fun a=> ?_,fun a=> ?_⟩;have a:((decide (nth (yB (U.J3 c t lev) x y (vW (U.J3 c t lev) (U.la c).toNat x (qI (U.J3 c t lev) (U.la c).toNat s.toNat x) y) z) y=(x:Int))&&decide (nth (yB (U.J3 c t lev) x y (vW (U.J3 c t lev) (U.la c).toNat x (qI (U.J3 c t lev) (U.la c).toNat s.toNat x) y) z) z<0))&&U.J3 c t lev y z)=true:=a;simp only[ji,jp] at a;refine⟨iZ6,by omega,by show(z:Int)<(yB (U.J3 c t lev) x y (vW (U.J3 c t lev) (U.la c).toNat x (qI (U.J3 c t lev) (U.la c).toNat s.toNat x) y) z).length;rw[b];omega,iZ6,z+1,⟨⟨tZ,by simp,tZ⟩,?_,tZ⟩,up,o⟩;show(yB (U.J3 c t lev) x y (vW (U.J3 c t lev) (U.la c).toNat x (qI (U.J3 c t lev) (U.la c).toNat s.toNat x) y) z).set z ((x:Int)+1)=yB (U.J3 c t lev) x y (vW (U.J3 c t lev) (U.la c).toNat x (qI (U.J3 c t lev) (U.la c).toNat s.toNat x) y) (z+1);rw[d];unfold nJ;rw[jg ⟨a.1.1,a.1.2,a.2⟩];have a:((decide (nth (yB (U.J3 c t lev) x y (vW (U.J3 c t lev) (U.la c).toNat x (qI (U.J3 c t lev) (U.la c).toNat s.toNat x) y) z) y=(x:Int))&&decide (nth (yB (U.J3 c t lev) x y (vW (U.J3 c t lev) (U.la c).toNat x (qI (U.J3 c t lev) (U.la c).toNat s.toNat x) y) z) z<0))&&U.J3 c t lev y z)=false:=a;refine⟨iZ6,z+1,⟨⟨tZ,by simp,tZ⟩,?_,tZ⟩,up,o⟩;show yB (U.J3 c t lev) x y (vW (U.J3 c t lev) (U.la c).toNat x (qI (U.J3 c t lev) (U.la c).toNat s.toNat x) y) z=yB (U.J3 c t lev) x y (vW (U.J3 c t lev) (U.la c).toNat x (qI (U.J3 c t lev) (U.la c).toNat s.toNat x) y) (z+1);rw[d];unfold nJ;rw[jd (fun k=>by rw[jG k.1,jG k.2.1,k.2.2] at a;cases a)];have e:(y:Int)<U.la c:=ja e;have g:¬(z:Int)<U.la c:=jc g;have q:z<=(U.la c).toNat:=q;have n:z=(U.la c).toNat:=(by omega);subst n;refine⟨iZ6,y+1,⟨⟨by simp,tZ,tZ⟩,?_,tZ⟩,by show y+1<=(U.la c).toNat;omega,by show(U.la c).toNat-(y+1)<(U.la c).toNat-y;omega⟩;exact(K7 (U.J3 c t lev) (U.la c).toNat x (qI (U.J3 c t lev) (U.la c).toNat s.toNat x) y).symm;have h:(x:Int)<U.la c:=ja h;have e:¬(y:Int)<U.la c:=jc e;have p:y<=(U.la c).toNat:=p;have m:y=(U.la c).toNat:=(by omega);subst m;refine⟨iZ6,x+1,⟨⟨by simp,tZ,tZ⟩,?_,tZ⟩,by show x+1<=(U.la c).toNat;omega,by show(U.la c).toNat-(x+1)<(U.la c).toNat-x;omega⟩;exact(K8 (U.J3 c t lev) (U.la c).toNat s.toNat x).symm;have h:¬(x:Int)<U.la c:=jc h;have i:x<=(U.la c).toNat:=i;have f:x=(U.la c).toNat:=(by omega);subst f;rfl
theorem WA:wV PR 114 Wu:=qY Wv Zi Tryz.func114 (kcC Ol kcN) koN
theorem Dw (c:CrD) (j:JbD) (t:Int) (n:Nat):qt c j t (n+1)=PK c j t (qt c j t n) n:=by
 unfold qt;rw[zc,jU];rfl
theorem K9 {c:CrD} {j:JbD} {t:Int} {n:Nat} (h:qd t (n:Int)=false):qt c j t (n+1)=qt c j t n:=by
 rw[Dw];unfold PK;rw[h,jd (by simp)]
theorem jbW {c:CrD} {j:JbD} {t:Int} {n:Nat} {a b d:Bool} (h:qd t (n:Int)=true) (e:cL (nth (wi c) n) (X6 j)=a) (f:(!qd (U.fd (nth (wi c) n)) (PH j))=b) (g:(!qd (U.cl (nth (wi c) n)) (bU j))=d):
 qt c j t (n+1)=(Ri d (Ri b (Ri a (qt c j t n).1 1) 2) 4,(qt c j t n).2||jcC (nth (wi c) n)):=by
 rw[Dw];unfold PK;rw[jg h,e,f,g]
theorem jdy {c:CrD} {j:JbD} {t:Int} {a b d:Bool} (e:decide (BT.size t≠max (Z4 j) (jcD (db c j)))=a) (f:(jej (db c j)&& !jeR c j t)=b) (g:decide (nth (mZ c t (Um (db c j)) (Mw j)) (G1 j).toNat<0)=d):
 Uc c j t=Ri d (Ri b (Ri a (jeQ c j t) 8) 16) 32:=by
 unfold Uc;rw[e,f,g]
theorem On:K3:=by
 unfold K3 jis jir jiq jgK jgJ jhQ jg0 jgI jgH jfM jhP jfE Prod.q4;rintro⟨c,j,t,⟨⟩⟩ l s u;have l:wt c=true:=l;have s:qb c j=true:=s;have u:XW t:=u;have A:=(w4 l).2.2.1;have d:=(w4 l).2.2.2.1;obtain⟨q,r,f,k,_⟩:=Wy s;have p:0<=PH j/\PH j<=63:=(by omega);have i:0<=bU j/\bU j<=63:=(by omega);have y:BT.qh t:=(by unfold XW at u;unfold BT.qh;omega);refine⟨k.1,by show bU j<((yR c).length:Int);omega,⟨0,⟨⟨rfl,rfl,rfl,tZ⟩,tZ⟩,jl _⟩,fun x w _=>⟨fun h=> ?_,fun h=> ?_⟩⟩
 .have h:(x:Int)<(wi c).length:=ja h;have up:x+1<=(wi c).length:=(by omega);have m:(wi c).length-(x+1)<(wi c).length-x:=(by omega);have i64:wm ((x:Int)+1):=iZ6;refine⟨⟨by omega,by omega⟩,fun b=> ?_,fun b=> ?_⟩
  .have b:(!qd t (x:Int))=true:=b;have e:=K9 (c:=c) (j:=j) (t:=t) (n:=x) (by simpa using b);exact⟨i64,x+1,⟨⟨jF (·.2) e.symm,jF (·.1) e.symm,by simp,tZ⟩,tZ⟩,up,m⟩
  .have b:(!qd t (x:Int))=false:=b;have b:qd t (x:Int)=true:=(by simpa using b);refine⟨by omega,h,fun o=>⟨p,fun a=>⟨i,fun d=> ?_,fun d=> ?_⟩,fun a=>⟨i,fun d=> ?_,fun d=> ?_⟩⟩,fun o=>⟨p,fun a=>⟨i,fun d=> ?_,fun d=> ?_⟩,fun a=>⟨i,fun d=> ?_,fun d=> ?_⟩⟩⟩
   all_goals
    have e:=jbW (c:=c) (j:=j) (t:=t) (n:=x) b o a d
    first
    |exact⟨i64,x+1,⟨⟨by simp,jF (·.2) e.symm,jF (·.1) e.symm,tZ⟩,tZ⟩,up,m⟩
    |exact⟨i64,x+1,⟨⟨jF (·.1) e.symm,by simp,jF (·.2) e.symm,tZ⟩,tZ⟩,up,m⟩
    |exact⟨i64,x+1,⟨⟨jF (·.2) e.symm,by simp,jF (·.1) e.symm,tZ⟩,tZ⟩,up,m⟩
    |exact⟨i64,x+1,⟨⟨jF (·.2) e.symm,jF (·.1) e.symm,by simp,tZ⟩,tZ⟩,up,m⟩
    |exact⟨i64,x+1,⟨⟨by simp,jF (·.1) e.symm,jF (·.2) e.symm,tZ⟩,tZ⟩,up,m⟩
    |exact⟨i64,x+1,⟨⟨jF (·.1) e.symm,jF (·.2) e.symm,by simp,tZ⟩,tZ⟩,up,m⟩
 .have h:¬(x:Int)<(wi c).length:=jc h;have w:x<=(wi c).length:=w;have v:x=(wi c).length:=(by omega);subst v;have g:G1 j<((mZ c t (Um (db c j)) (Mw j)).length:Int):=by
   unfold mZ;rw[Ii];omega
  refine⟨y,fun b=>⟨fun o=>⟨l,q,r.1,g,fun a=> ?_,fun a=> ?_⟩,fun o=>⟨l,q,r.1,g,fun a=> ?_,fun a=> ?_⟩⟩,fun b=>⟨fun o=>⟨l,q,r.1,g,fun a=> ?_,fun a=> ?_⟩,fun o=>⟨l,q,r.1,g,fun a=> ?_,fun a=> ?_⟩⟩⟩
  all_goals
   have e:=jdy (c:=c) (j:=j) (t:=t) b o a;exact jF (fun z=>(z,())) e.symm
theorem La:wV PR 79 K1:=qY K2 On Tryz.func79 (kcC tb (kcC GK (kcC SK (kcC WA kcN)))) koN
theorem SM:wV PR 49 SH:=wK Wz Tryz.func49 (kcC La kcN) koN
theorem Zj (l:Int) (p:PeD):fE l p=(!(decide (((U.lv p).length:Int)≠l)|| !k8 (U.fd p) 0 255|| !k8 (U.cl p) 0 255||decide (10<((q9 p).length:Int))|| !k8 (U.fe p) 0 1000)&&((U.lv p).all (fun n=>k8 n 0 5)&&(q9 p).all (fun n=>k8 n 0 99))):=by
 unfold fE;congr 1;rw[j0];simp only[k8,jS,jR,jH,zl,ji,jp];omega
theorem Bl (c:CrD):wt c=(!(!k8 (U.la c) 2 5||decide (8<((wi c).length:Int))||decide (((yR c).length:Int)≠4))&&((wi c).all (fE (U.la c))&&(yR c).all fF)):=by
 unfold wt;congr 1;rw[j0];simp only[k8,jS,jR,jH,zl,ji,jp];omega
theorem uP {c:CrD} {x:Nat} (a:x<(wi c).length) (h:fE (U.la c) (nth (wi c) x)=false):wt c=false:=by
 have:(wi c).all (fE (U.la c))=false:=zU.2 ⟨_,L.wh a,by rw[h];simp⟩;rw[Bl,this];simp
theorem SN {c:CrD} {x:Nat} (a:x<(yR c).length) (h:fF (nth (yR c) x)=false):wt c=false:=by
 have:(yR c).all fF=false:=zU.2 ⟨_,L.wh a,by rw[h];simp⟩;rw[Bl,this];simp
theorem iM {α:Type} [Inhabited α] {l:List α} {p:α->Bool} {x:Nat} (c:¬x<l.length) (h:∀j:Nat,j<x->p (nth l j)=true):l.all p=true:=by
 rw[jT];intro a b;obtain⟨i,hi,rfl⟩:=L.mem_iff.1 b;exact h i (by omega)
theorem mL {c:CrD} (h:wt c=false):(false,())=(wt c,()):=by rw[h]
theorem Oo:K0:=by
 unfold K0 jjL jin jjK jhN jgG jhM jjJ jim jhL jfG Prod.q4;rintro⟨c,⟨⟩⟩ _ _;refine⟨fun h=> ?_,fun h=> ?_⟩;have h:(!k8 (U.la c) 2 5||decide (8<((wi c).length:Int))||decide (((yR c).length:Int)≠4))=true:=h;refine mL (c:=c) ?_;rw[Bl,h];rfl;have B:(!k8 (U.la c) 2 5||decide (8<((wi c).length:Int))||decide (((yR c).length:Int)≠4))=false:=h;clear h;refine⟨⟨0,⟨⟨rfl,tZ⟩,tZ⟩,jl _,fun j k=>by omega⟩,fun x s r=>⟨fun h=> ?_,fun h=> ?_⟩⟩;have r:(wi c).length<4611686018427387904:=r;have h:(x:Int)<(wi c).length:=ja h;have m:x<(wi c).length:=(by omega);refine⟨by omega,h,fun _ _=>⟨fun g=> ?_,fun g=> ?_⟩⟩;have g:(decide (((U.lv (nth (wi c) x)).length:Int)≠U.la c)|| !k8 (U.fd (nth (wi c) x)) 0 255|| !k8 (U.cl (nth (wi c) x)) 0 255||decide (10<((q9 (nth (wi c) x)).length:Int))|| !k8 (U.fe (nth (wi c) x)) 0 1000)=true:=g;refine mL (c:=c) (uP m ?_);rw[Zj,g];rfl;have g:(decide (((U.lv (nth (wi c) x)).length:Int)≠U.la c)|| !k8 (U.fd (nth (wi c) x)) 0 255|| !k8 (U.cl (nth (wi c) x)) 0 255||decide (10<((q9 (nth (wi c) x)).length:Int))|| !k8 (U.fe (nth (wi c) x)) 0 1000)=false:=g;refine⟨⟨0,⟨⟨rfl,tZ⟩,tZ⟩,jl _,fun j k=>by omega⟩,fun y q d=>⟨fun b=> ?_,fun b=> ?_⟩⟩;have d:(U.lv (nth (wi c) x)).length<4611686018427387904:=d;have b:(y:Int)<(U.lv (nth (wi c) x)).length:=ja b;refine⟨by omega,b,fun a=> ?_,fun a=>⟨iZ6,y+1,⟨⟨by simp,tZ⟩,tZ⟩,⟨by show y+1<=(U.lv (nth (wi c) x)).length;omega,fun j k=> ?_⟩,by show(U.lv (nth (wi c) x)).length-(y+1)<(U.lv (nth (wi c) x)).length-y;omega⟩⟩;have a:(!k8 (nth (U.lv (nth (wi c) x)) y) 0 5)=true:=a;have a:k8 (nth (U.lv (nth (wi c) x)) y) 0 5=false:=(by simpa using a);refine mL (c:=c) (uP m ?_);have:(U.lv (nth (wi c) x)).all (fun n=>k8 n 0 5)=false:=zU.2 ⟨_,L.wh (l:=U.lv (nth (wi c) x)) (i:=y) (by omega),by rw[a];simp⟩;rw[Zj,this];simp;have a:(!k8 (nth (U.lv (nth (wi c) x)) y) 0 5)=false:=a;by_cases e:j=y;subst e;exact(show k8 (nth (U.lv (nth (wi c) x)) j) 0 5=true by simpa using a);exact q.2 j (by omega);have b:¬(y:Int)<(U.lv (nth (wi c) x)).length:=jc b;have u:(U.lv (nth (wi c) x)).all (fun n=>k8 n 0 5)=true:=iM (by omega) q.2;refine⟨⟨0,⟨⟨rfl,tZ⟩,tZ⟩,jl _,fun j k=>by omega⟩,fun z t o=>⟨fun a=> ?_,fun a=> ?_⟩⟩;have o:(q9 (nth (wi c) x)).length<4611686018427387904:=o;have a:(z:Int)<(q9 (nth (wi c) x)).length:=ja a;refine⟨by omega,a,fun f=> ?_,fun f=>⟨iZ6,z+1,⟨⟨by simp,tZ⟩,tZ⟩,⟨by show z+1<=(q9 (nth (wi c) x)).length;omega,fun j k=> ?_⟩,by show(q9 (nth (wi c) x)).length-(z+1)<(q9 (nth (wi c) x)).length-z;omega⟩⟩;have f:(!k8 (nth (q9 (nth (wi c) x)) z) 0 99)=true:=f;have f:k8 (nth (q9 (nth (wi c) x)) z) 0 99=false:=(by simpa using f);refine mL (c:=c) (uP m ?_);have:(q9 (nth (wi c) x)).all (fun n=>k8 n 0 99)=false:=zU.2 ⟨_,L.wh (l:=q9 (nth (wi c) x)) (i:=z) (by omega),by rw[f];simp⟩;rw[Zj,this];simp;have f:(!k8 (nth (q9 (nth (wi c) x)) z) 0 99)=false:=f;by_cases e:j=z;subst e;exact(show k8 (nth (q9 (nth (wi c) x)) j) 0 99=true by simpa using f);exact t.2 j (by omega);have a:¬(z:Int)<(q9 (nth (wi c) x)).length:=jc a;have v:(q9 (nth (wi c) x)).all (fun n=>k8 n 0 99)=true:=iM (by omega) t.2;refine⟨iZ6,x+1,⟨⟨by simp,tZ⟩,tZ⟩,⟨by show x+1<=(wi c).length;omega,fun j k=> ?_⟩,by show(wi c).length-(x+1)<(wi c).length-x;omega⟩;by_cases e:j=x;subst e;show fE (U.la c) (nth (wi c) j)=true;rw[Zj,g,u,v];rfl;exact s.2 j (by omega);have h:¬(x:Int)<(wi c).length:=jc h;have A:(wi c).all (fE (U.la c))=true:=iM (by omega) s.2;refine⟨⟨0,⟨⟨rfl,tZ⟩,tZ⟩,jl _,fun j k=>by omega⟩,fun y q d=>⟨fun b=> ?_,fun b=> ?_⟩⟩;have d:(yR c).length<4611686018427387904:=d;have b:(y:Int)<(yR c).length:=ja b;have p:fF (nth (yR c) y)= !(!k8 (Um (nth (yR c) y)) 1 5|| !k8 (jcD (nth (yR c) y)) 1 8):=by
  unfold fF;rw[Bool.not_or,Bool.not_not,Bool.not_not]
 refine⟨by omega,b,fun _=>by omega,fun _=>b,fun a=> ?_,fun a=>⟨iZ6,y+1,⟨⟨by simp,tZ⟩,tZ⟩,⟨by show y+1<=(yR c).length;omega,fun j k=> ?_⟩,by show(yR c).length-(y+1)<(yR c).length-y;omega⟩⟩;have a:(!k8 (Um (nth (yR c) y)) 1 5|| !k8 (jcD (nth (yR c) y)) 1 8)=true:=a;exact mL (c:=c) (SN (x:=y) (by omega) (by rw[p,a];rfl));have a:(!k8 (Um (nth (yR c) y)) 1 5|| !k8 (jcD (nth (yR c) y)) 1 8)=false:=a;by_cases e:j=y;subst e;show fF (nth (yR c) j)=true;rw[p,a];rfl;exact q.2 j (by omega);have b:¬(y:Int)<(yR c).length:=jc b;have w:(yR c).all fF=true:=iM (by omega) q.2;show(true,())=(wt c,());rw[Bl,B,A,w];rfl
theorem xE:wV PR 91 KY:=qY KZ Oo Tryz.func91 (kcC xD kcN) koN
namespace U
def y8 (l:List ShD) (i k:Nat) (id:Int):Bool:=decide (gx (nth l i)=id)&& !((l.take k).any (fun x=>decide (x=nth l i)))
end U
def Lb:wQ:=⟨[.val .int,.val .int,.val .int],[.bool],false,fun _=>[],fun d=>(k8 d.1 d.2.1 d.2.2.1,())⟩
def Lc:Prop:=∀(d:Int×Int×Int×Unit),(decide (d.2.1<=d.1)&&decide (d.1<=d.2.2.1),())=(k8 d.1 d.2.1 d.2.2.1,())
def Dx:wQ:=⟨[.val tDy,.val .int],[.bool],false,fun _=>[],fun d=>(XV d.1 d.2.1,())⟩
def Dy:Prop:=∀(d:DyD×Int×Unit),d.1.2.2.1.length<4611686018427387904->wm ((d.1.2.2.1.length:Int)-1)/\(k8 d.2.1 (0:Int) ((d.1.2.2.1.length:Int)-1),())=(XV d.1 d.2.1,())
def E6:wQ:=⟨[.val tDy,.val .int],[.bool],false,fun _=>[],fun d=>(Me d.1 d.2.1,())⟩
def E7:Prop:=∀(d:DyD×Int×Unit),d.1.1.2.1.length<4611686018427387904->wm ((d.1.1.2.1.length:Int)-1)/\(k8 d.2.1 (0:Int) ((d.1.1.2.1.length:Int)-1),())=(Me d.1 d.2.1,())
def Oq:wQ:=⟨[.val tDy],[.bool],false,fun _=>[],fun d=>(qv d.1,())⟩
def Ot:Ann:=fun r=>match r with
 |4=>some fun σ=>{X:=Nat,sl:=fun i=>[(3,.dat .int (i:Int))],ob:=fun _=>[],inv:=fun i=>i<=(w6 (gb tDy σ 1)).length/\∀j:Nat,j<i->cJ (w6 (gb tDy σ 1)).length (nth (w6 (gb tDy σ 1)) j)=true,mu:=fun i=>(w6 (gb tDy σ 1)).length-i}
 |9=>some fun σ=>{X:=Nat,sl:=fun i=>[(4,.dat .int (i:Int))],ob:=fun _=>[],inv:=fun i=>i<=(nth (w6 (gb tDy σ 1)) (gd .int σ 3).toNat).length/\∀j:Nat,j<i->tG (nth (nth (w6 (gb tDy σ 1)) (gd .int σ 3).toNat) j)=true,mu:=fun i=>(nth (w6 (gb tDy σ 1)) (gd .int σ 3).toNat).length-i}
 |15=>some fun σ=>{X:=Nat,sl:=fun i=>[(6,.dat .int (i:Int))],ob:=fun _=>[],inv:=fun i=>i<=(wo (gb tDy σ 1)).length/\∀j:Nat,j<i->mT (w6 (gb tDy σ 1)).length (nth (wo (gb tDy σ 1)) j)=true,mu:=fun i=>(wo (gb tDy σ 1)).length-i}
 |21=>some fun σ=>{X:=Nat,sl:=fun i=>[(8,.dat .int (i:Int))],ob:=fun _=>[],inv:=fun i=>i<=(w7 (gb tDy σ 1)).length/\∀j:Nat,j<i->mU (wo (gb tDy σ 1)).length (wi (wq (gb tDy σ 1))).length (nth (w7 (gb tDy σ 1)) j)=true,mu:=fun i=>(w7 (gb tDy σ 1)).length-i}
 |_=>none
abbrev jhn (d:DyD×Unit)(x:Nat):=(nth d.1.2.1 (x:Int).toNat)
abbrev jjP (d:DyD×Unit)(x:Nat)(a:Nat):=(decide ((nth (jhn d x) (a:Int).toNat).1<0)||decide ((nth (jhn d x) (a:Int).toNat).2.1<(nth (jhn d x) (a:Int).toNat).1)||decide ((300:Int)<(nth (jhn d x) (a:Int).toNat).2.1))
abbrev jgL (d:DyD×Unit)(x:Nat):=(nth (w6 d.1) (x:Int).toNat)
abbrev jgc (d:DyD×Unit):=(d.1.2.1.length:Int)
abbrev jhR (d:DyD×Unit)(x:Nat):=(nth d.1.q4.2.1 (x:Int).toNat)
abbrev jjQ (d:DyD×Unit)(x:Nat):=(!k8 (jhR d x).1 (0:Int) (99:Int)|| !k8 (jhR d x).2.1 (0:Int) (9999:Int)|| !k8 (jhR d x).2.2.1 (1:Int) (2:Int)|| !XV d.1 (jhR d x).2.2.2.1|| !Me d.1 (jhR d x).q4.1)
abbrev jho (d:DyD×Unit):=(d.1.2.2.1.length:Int)
abbrev ji7 (x:Nat)(a:Nat):=(((x:Int)+1=(a:Int)/\True)/\True)
abbrev jhS (d:DyD×Unit)(x:Nat):=(nth d.1.2.2.1 (x:Int).toNat)
abbrev jjR (d:DyD×Unit)(x:Nat):=(!k8 (jhS d x).2.1 (0:Int) ((jgc d)-1)||decide ((jhS d x).2.2.1<0)||decide ((jhS d x).2.2.2.1<=(jhS d x).2.2.1)||decide ((1440:Int)<(jhS d x).2.2.2.1))
abbrev jhT (d:DyD×Unit)(x:Nat):=(↑(jhn d x).length:Int)
abbrev jit (d:DyD×Unit):=(d.1.q4.2.1.length:Int)
abbrev jjS (d:DyD×Unit):=(decide (4<(jho d))|| !k8 (jgc d) (1:Int) (5:Int)|| !k8 d.1.2.2.2.1 (0:Int) (300:Int)|| !k8 d.1.q4.1 (0:Int) (1440:Int)||decide (30<(jit d)))
abbrev ji8 (x:Nat):=((0=(x:Int)/\True)/\True)
def Ou:Prop:=∀(d:DyD×Unit),d.1.2.2.1.length<4611686018427387904->((!decide (4<(jho d)))=true->d.1.2.1.length<4611686018427387904)->((!(decide (4<(jho d))|| !k8 (jgc d) (1:Int) (5:Int)|| !k8 d.1.2.2.2.1 (0:Int) (300:Int)|| !k8 d.1.q4.1 (0:Int) (1440:Int)))=true->d.1.q4.2.1.length<4611686018427387904)->((jjS d)=true->(false,())=(qv d.1,()))/\((jjS d)=false->(∃(x:Nat),(ji8 x)/\x<=(w6 d.1).length/\∀(j:Nat),j<x->cJ (w6 d.1).length (nth (w6 d.1) j)=true)/\∀(x:Nat),(x<=(w6 d.1).length/\∀(j:Nat),j<x->cJ (w6 d.1).length (nth (w6 d.1) j)=true)->d.1.2.1.length<4611686018427387904->(decide ((x:Int)<(jgc d))=true->0<=(x:Int)/\(x:Int)<(jgc d)/\(decide ((jhT d x)≠(jgc d))=true->(false,())=(qv d.1,()))/\(decide ((jhT d x)≠(jgc d))=false->(∃(a:Nat),((0=(a:Int)/\True)/\True)/\a<=(jgL d x).length/\∀(j:Nat),j<a->tG (nth (jgL d x) j)=true)/\∀(a:Nat),(a<=(jgL d x).length/\∀(j:Nat),j<a->tG (nth (jgL d x) j)=true)->0<=(x:Int)/\(x:Int)<(jgc d)/\((jhn d x).length<4611686018427387904->(decide ((a:Int)<(jhT d x))=true->0<=(x:Int)/\(x:Int)<(jgc d)/\0<=(a:Int)/\(a:Int)<(jhT d x)/\((jjP d x a)=true->(false,())=(qv d.1,()))/\((jjP d x a)=false->wm ((a:Int)+1)/\∃(b:Nat),(((a:Int)+1=(b:Int)/\True)/\True)/\(b<=(jgL d x).length/\∀(j:Nat),j<b->tG (nth (jgL d x) j)=true)/\(jgL d x).length-b<(jgL d x).length-a))/\(decide ((a:Int)<(jhT d x))=false->wm ((x:Int)+1)/\∃(b:Nat),(ji7 x b)/\(b<=(w6 d.1).length/\∀(j:Nat),j<b->cJ (w6 d.1).length (nth (w6 d.1) j)=true)/\(w6 d.1).length-b<(w6 d.1).length-x))))/\(decide ((x:Int)<(jgc d))=false->(∃(x:Nat),(ji8 x)/\x<=(wo d.1).length/\∀(j:Nat),j<x->mT (w6 d.1).length (nth (wo d.1) j)=true)/\∀(x:Nat),(x<=(wo d.1).length/\∀(j:Nat),j<x->mT (w6 d.1).length (nth (wo d.1) j)=true)->d.1.2.2.1.length<4611686018427387904->(decide ((x:Int)<(jho d))=true->0<=(x:Int)/\(x:Int)<(jho d)/\(d.1.2.1.length<4611686018427387904->wm ((jgc d)-1)/\((jjR d x)=true->(false,())=(qv d.1,()))/\((jjR d x)=false->wm ((x:Int)+1)/\∃(b:Nat),(ji7 x b)/\(b<=(wo d.1).length/\∀(j:Nat),j<b->mT (w6 d.1).length (nth (wo d.1) j)=true)/\(wo d.1).length-b<(wo d.1).length-x)))/\(decide ((x:Int)<(jho d))=false->(∃(x:Nat),(ji8 x)/\x<=(w7 d.1).length/\∀(j:Nat),j<x->mU (wo d.1).length (wi (wq d.1)).length (nth (w7 d.1) j)=true)/\∀(x:Nat),(x<=(w7 d.1).length/\∀(j:Nat),j<x->mU (wo d.1).length (wi (wq d.1)).length (nth (w7 d.1) j)=true)->d.1.q4.2.1.length<4611686018427387904->(decide ((x:Int)<(jit d))=true->0<=(x:Int)/\(x:Int)<(jit d)/\((jjQ d x)=true->(false,())=(qv d.1,()))/\((jjQ d x)=false->wm ((x:Int)+1)/\∃(b:Nat),(ji7 x b)/\(b<=(w7 d.1).length/\∀(j:Nat),j<b->mU (wo d.1).length (wi (wq d.1)).length (nth (w7 d.1) j)=true)/\(w7 d.1).length-b<(w7 d.1).length-x))/\(decide ((x:Int)<(jit d))=false->(true,())=(qv d.1,())))))
def Ov:wQ:=⟨[.val (.slice tSh)],[.bool],false,fun d=>[d.1.length<=1000000],fun d=>(bV d.1,())⟩
def Ow:Ann:=fun r=>match r with
 |2=>some fun σ=>{X:=Nat,sl:=fun i=>[(3,.dat .int (i:Int))],ob:=fun _=>[],inv:=fun i=>i<=(gd (.slice tSh) σ 0).length/\aB (gd (.slice tSh) σ 0) i=false,mu:=fun i=>(gd (.slice tSh) σ 0).length-i}
 |5=>some fun σ=>{X:=Nat,sl:=fun i=>[(4,.dat .int (i:Int))],ob:=fun _=>[],inv:=fun i=>i<=(gd .int σ 3).toNat/\∀j:Nat,j<i->Em (nth (gd (.slice tSh) σ 0) (gd .int σ 3).toNat) (nth (gd (.slice tSh) σ 0) j)=false,mu:=fun i=>(gd .int σ 3).toNat-i}
 |_=>none
abbrev jhp (d:List ShD×Unit)(x:Nat)(a:Nat):=((nth d.1 (x:Int).toNat).1=(nth d.1 (a:Int).toNat).1)
def Ox:Prop:=∀(d:List ShD×Unit),d.1.length<=1000000->(∃(x:Nat),((0=(x:Int)/\True)/\True)/\x<=d.1.length/\aB d.1 x=false)/\∀(x:Nat),x<=d.1.length/\aB d.1 x=false->d.1.length<4611686018427387904->(decide ((x:Int)<d.1.length)=true->(∃(a:Nat),((0=(a:Int)/\True)/\True)/\a<=(x:Int).toNat/\∀(j:Nat),j<a->Em (nth d.1 (x:Int).toNat) (nth d.1 j)=false)/\∀(a:Nat),(a<=(x:Int).toNat/\∀(j:Nat),j<a->Em (nth d.1 (x:Int).toNat) (nth d.1 j)=false)->(decide ((a:Int)<(x:Int))=true->0<=(x:Int)/\(x:Int)<d.1.length/\0<=(a:Int)/\(a:Int)<d.1.length/\(decide (jhp d x a)=true->0<=(x:Int))/\(decide (jhp d x a)=true->(x:Int)<d.1.length)/\(decide (jhp d x a)=true->0<=(a:Int))/\(decide (jhp d x a)=true->(a:Int)<d.1.length)/\((decide (jhp d x a)&& !decide (nth d.1 (x:Int).toNat=nth d.1 (a:Int).toNat))=true->(true,())=(bV d.1,()))/\((decide (jhp d x a)&& !decide (nth d.1 (x:Int).toNat=nth d.1 (a:Int).toNat))=false->wm ((a:Int)+1)/\∃(b:Nat),(((a:Int)+1=(b:Int)/\True)/\True)/\(b<=(x:Int).toNat/\∀(j:Nat),j<b->Em (nth d.1 (x:Int).toNat) (nth d.1 j)=false)/\(x:Int).toNat-b<(x:Int).toNat-a))/\(decide ((a:Int)<(x:Int))=false->wm ((x:Int)+1)/\∃(b:Nat),(((x:Int)+1=(b:Int)/\True)/\True)/\(b<=d.1.length/\aB d.1 b=false)/\d.1.length-b<d.1.length-x))/\(decide ((x:Int)<d.1.length)=false->(false,())=(bV d.1,()))
def Oy:wQ:=⟨[.val tDy],[.int],false,fun d=>[(wo d.1).length<=1000000],fun d=>(aj d.1,())⟩
def Oz:Ann:=fun r=>match r with
 |4=>some fun σ=>{X:=Nat,sl:=fun i=>[(3,.dat .int (i:Int))],ob:=fun _=>[],inv:=fun i=>i<=(wo (gb tDy σ 1)).length/\∀j:Nat,j<i->qb (wq (gb tDy σ 1)) (yS (nth (wo (gb tDy σ 1)) j))=true,mu:=fun i=>(wo (gb tDy σ 1)).length-i}
 |_=>none
def OA:Prop:=∀(d:DyD×Unit),(wo d.1).length<=1000000->((!wt d.1.1)=true->((30:Int),())=(aj d.1,()))/\((!wt d.1.1)=false->(∃(x:Nat),((0=(x:Int)/\True)/\True)/\x<=(wo d.1).length/\∀(j:Nat),j<x->qb (wq d.1) (yS (nth (wo d.1) j))=true)/\∀(x:Nat),(x<=(wo d.1).length/\∀(j:Nat),j<x->qb (wq d.1) (yS (nth (wo d.1) j))=true)->d.1.2.2.1.length<4611686018427387904->(decide ((x:Int)<d.1.2.2.1.length)=true->0<=(x:Int)/\(x:Int)<d.1.2.2.1.length/\wt d.1.1=true/\((!qb d.1.1 (nth d.1.2.2.1 (x:Int).toNat).1)=true->((31:Int),())=(aj d.1,()))/\((!qb d.1.1 (nth d.1.2.2.1 (x:Int).toNat).1)=false->wm ((x:Int)+1)/\∃(a:Nat),(((x:Int)+1=(a:Int)/\True)/\True)/\(a<=(wo d.1).length/\∀(j:Nat),j<a->qb (wq d.1) (yS (nth (wo d.1) j))=true)/\(wo d.1).length-a<(wo d.1).length-x))/\(decide ((x:Int)<d.1.2.2.1.length)=false->((!qv d.1)=true->((50:Int),())=(aj d.1,()))/\((!qv d.1)=false->d.1.q4.2.1.length<=1000000/\(bV d.1.q4.2.1=true->((51:Int),())=(aj d.1,()))/\(bV d.1.q4.2.1=false->((0:Int),())=(aj d.1,())))))
def OB:wQ:=⟨[.val tSh,.val tSh],[.bool],false,fun _=>[],fun d=>(qX d.1 d.2.1,())⟩
def OC:Prop:=∀(d:ShD×ShD×Unit),(decide (d.2.1.2.1<d.1.2.1)||decide (d.1.2.1=d.2.1.2.1)&&decide (d.2.1.1<d.1.1),())=(qX d.1 d.2.1,())
def E8:wQ:=⟨[.val tDy,.val .int,.val .int],[.bool],false,fun d=>[FN d.1,aq d.1 d.2.1,aq d.1 d.2.2.1],fun d=>(w5 d.1 d.2.1 d.2.2.1,())⟩
abbrev jfU (d:DyD×Int×Int×Unit):=(nth d.1.2.2.1 d.2.2.1.toNat)
abbrev jfV (d:DyD×Int×Int×Unit):=(nth d.1.2.2.1 d.2.1.toNat)
abbrev jhU (d:DyD×Int×Int×Unit):=((jfU d).2.2.1<(jfV d).2.2.1)
abbrev jgM (d:DyD×Int×Int×Unit):=(d.1.2.2.1.length:Int)
abbrev jjT (d:DyD×Int×Int×Unit):=(decide (jhU d)||decide ((jfU d).2.2.1=(jfV d).2.2.1)&&decide (d.2.2.1<d.2.1))
def E9:Prop:=∀(d:DyD×Int×Int×Unit),FN d.1->aq d.1 d.2.1->aq d.1 d.2.2.1->0<=d.2.2.1/\d.2.2.1<(jgM d)/\0<=d.2.1/\d.2.1<(jgM d)/\((!decide (jhU d))=true->0<=d.2.2.1)/\((!decide (jhU d))=true->d.2.2.1<(jgM d))/\((!decide (jhU d))=true->0<=d.2.1)/\((!decide (jhU d))=true->d.2.1<(jgM d))/\((jjT d)=true->0<=d.2.2.1/\d.2.2.1<(jgM d)/\0<=d.2.1/\d.2.1<(jgM d)/\wm ((jfU d).2.2.2.1+d.1.2.2.2.1)/\(0:Int)<=(jfU d).2.1/\(jfU d).2.1<(d.1.2.1.length:Int)/\(0:Int)<=(jfV d).2.1/\(jfV d).2.1<(↑(nth d.1.2.1 (jfU d).2.1.toNat).length:Int)/\wm ((jfU d).2.2.2.1+d.1.2.2.2.1+(nth (nth d.1.2.1 (jfU d).2.1.toNat) (jfV d).2.1.toNat).2.1)/\(decide ((jfU d).2.2.2.1+d.1.2.2.2.1+(nth (nth d.1.2.1 (jfU d).2.1.toNat) (jfV d).2.1.toNat).2.1<=(jfV d).2.2.1),())=(w5 d.1 d.2.1 d.2.2.1,()))/\((jjT d)=false->0<=d.2.1/\d.2.1<(jgM d)/\0<=d.2.2.1/\d.2.2.1<(jgM d)/\wm ((jfV d).2.2.2.1+d.1.2.2.2.1)/\(0:Int)<=(jfV d).2.1/\(jfV d).2.1<(d.1.2.1.length:Int)/\(0:Int)<=(jfU d).2.1/\(jfU d).2.1<(↑(nth d.1.2.1 (jfV d).2.1.toNat).length:Int)/\wm ((jfV d).2.2.2.1+d.1.2.2.2.1+(nth (nth d.1.2.1 (jfV d).2.1.toNat) (jfU d).2.1.toNat).2.1)/\(decide ((jfV d).2.2.2.1+d.1.2.2.2.1+(nth (nth d.1.2.1 (jfV d).2.1.toNat) (jfU d).2.1.toNat).2.1<=(jfU d).2.2.1),())=(w5 d.1 d.2.1 d.2.2.1,()))
def OE:wQ:=⟨[.val tDy,.val .int,.val (.slice .int)],[.bool],false,fun d=>[FN d.1,My d.1 d.2.1,Eo d.1 d.2.2.1],fun d=>(gp d.1 d.2.1 d.2.2.1,())⟩
def OF:Ann:=fun r=>match r with
 |3=>some fun σ=>{X:=Nat,sl:=fun i=>[(8,.dat .int (i:Int)),(7,.dat .int (vP (gb tDy σ 3) (gd (.slice .int) σ 2) i))],ob:=fun _=>[],inv:=fun i=>i<=(gd (.slice .int) σ 2).length/\(∀j:Nat,j<i->qD (wq (gb tDy σ 3)) (yS (U.bk (gb tDy σ 3) (nth (gd (.slice .int) σ 2) j))) (gd .int σ 1)=true)/\∀j:Nat,j<i->∀m:Nat,m<j->w5 (gb tDy σ 3) (nth (gd (.slice .int) σ 2) j) (nth (gd (.slice .int) σ 2) m)=true,mu:=fun i=>(gd (.slice .int) σ 2).length-i}
 |10=>some fun σ=>{X:=Nat,sl:=fun i=>[(10,.dat .int (i:Int))],ob:=fun _=>[],inv:=fun i=>i<=(gd .int σ 8).toNat/\∀m:Nat,m<i->w5 (gb tDy σ 3) (nth (gd (.slice .int) σ 2) (gd .int σ 8).toNat) (nth (gd (.slice .int) σ 2) m)=true,mu:=fun i=>(gd .int σ 8).toNat-i}
 |_=>none
abbrev jg1 (d:DyD×Int×List Int×Unit)(x:Nat):=(nth d.2.2.1 (x:Int).toNat)
abbrev jgt (d:DyD×Int×List Int×Unit)(x:Nat):=(nth d.1.2.2.1 (jg1 d x).toNat)
abbrev jjU (x:Nat)(d:DyD×Int×List Int×Unit):=(∀(j:Nat),j<x->qD (wq d.1) (yS (U.bk d.1 (nth d.2.2.1 j))) d.2.1=true)
def OG:Prop:=∀(d:DyD×Int×List Int×Unit),FN d.1->My d.1 d.2.1->Eo d.1 d.2.2.1->(∃(x:Nat),((0=(x:Int)/\0=vP d.1 d.2.2.1 x/\True)/\True)/\x<=d.2.2.1.length/\(jjU x d)/\∀(j:Nat),j<x->∀(m:Nat),m<j->w5 d.1 (nth d.2.2.1 j) (nth d.2.2.1 m)=true)/\∀(x:Nat),(x<=d.2.2.1.length/\(jjU x d)/\∀(j:Nat),j<x->∀(m:Nat),m<j->w5 d.1 (nth d.2.2.1 j) (nth d.2.2.1 m)=true)->d.2.2.1.length<4611686018427387904->(decide ((x:Int)<d.2.2.1.length)=true->0<=(x:Int)/\(x:Int)<d.2.2.1.length/\0<=nth d.2.2.1 (x:Int).toNat/\nth d.2.2.1 (x:Int).toNat<(d.1.2.2.1.length:Int)/\(0<=d.2.1/\d.2.1<(↑(wi d.1.1).length:Int))/\qb d.1.1 (jgt d x).1=true/\((!qD d.1.1 (jgt d x).1 d.2.1)=true->(false,())=(gp d.1 d.2.1 d.2.2.1,()))/\((!qD d.1.1 (jgt d x).1 d.2.1)=false->wm ((jgt d x).2.2.2.1-(jgt d x).2.2.1)/\wm (vP d.1 d.2.2.1 x+((jgt d x).2.2.2.1-(jgt d x).2.2.1))/\(∃(a:Nat),((0=(a:Int)/\True)/\True)/\a<=(x:Int).toNat/\∀(m:Nat),m<a->w5 d.1 (jg1 d x) (nth d.2.2.1 m)=true)/\∀(a:Nat),(a<=(x:Int).toNat/\∀(m:Nat),m<a->w5 d.1 (jg1 d x) (nth d.2.2.1 m)=true)->(decide ((a:Int)<(x:Int))=true->0<=(x:Int)/\(x:Int)<d.2.2.1.length/\0<=(a:Int)/\(a:Int)<d.2.2.1.length/\FN d.1/\aq d.1 (jg1 d x)/\aq d.1 (nth d.2.2.1 (a:Int).toNat)/\((!w5 d.1 (jg1 d x) (nth d.2.2.1 (a:Int).toNat))=true->(false,())=(gp d.1 d.2.1 d.2.2.1,()))/\((!w5 d.1 (jg1 d x) (nth d.2.2.1 (a:Int).toNat))=false->wm ((a:Int)+1)/\∃(b:Nat),(((a:Int)+1=(b:Int)/\True)/\True)/\(b<=(x:Int).toNat/\∀(m:Nat),m<b->w5 d.1 (jg1 d x) (nth d.2.2.1 m)=true)/\(x:Int).toNat-b<(x:Int).toNat-a))/\(decide ((a:Int)<(x:Int))=false->wm ((x:Int)+1)/\∃(b:Nat),(((x:Int)+1=(b:Int)/\vP d.1 d.2.2.1 x+((jgt d x).2.2.2.1-(jgt d x).2.2.1)=vP d.1 d.2.2.1 b/\True)/\True)/\(b<=d.2.2.1.length/\(∀(j:Nat),j<b->qD (wq d.1) (yS (U.bk d.1 (nth d.2.2.1 j))) d.2.1=true)/\∀(j:Nat),j<b->∀(m:Nat),m<j->w5 d.1 (nth d.2.2.1 j) (nth d.2.2.1 m)=true)/\d.2.2.1.length-b<d.2.2.1.length-x)))/\(decide ((x:Int)<d.2.2.1.length)=false->(decide (vP d.1 d.2.2.1 x<=d.1.q4.1),())=(gp d.1 d.2.1 d.2.2.1,()))
def Fa:wQ:=⟨[.val (.slice tSh)],[.slice tSh],false,fun d=>[d.1.length<=1000],fun d=>(we d.1,())⟩
def Fb:Ann:=fun r=>match r with
 |3=>some fun σ=>{X:=Nat,sl:=fun i=>[(4,.dat .int (i:Int)),(3,.own 3 tSh)],ob:=fun i=>[(3,some (.row 134 tSh false .yes (vN (gd (.slice tSh) σ 0) i)))],inv:=fun i=>i<=100,mu:=fun i=>100-i}
 |6=>some fun σ=>{X:=Nat,sl:=fun i=>[(5,.dat .int (i:Int)),(3,.own 3 tSh)],ob:=fun i=>[(3,some (.row 134 tSh false .yes (gr tSh σ 3++cK (gd (.slice tSh) σ 0) i (gd .int σ 4).toNat)))],inv:=fun i=>i<=(gd (.slice tSh) σ 0).length,mu:=fun i=>(gd (.slice tSh) σ 0).length-i}
 |10=>some fun σ=>{X:=Nat,sl:=fun k=>[(7,.dat .int (k:Int)),(6,.dat .bool (y8 (gd (.slice tSh) σ 0) (gd .int σ 5).toNat k (gd .int σ 4)))],ob:=fun _=>[],inv:=fun k=>k<=(gd .int σ 5).toNat,mu:=fun k=>(gd .int σ 5).toNat-k}
 |_=>none
def Fc:Prop:=∀(d:List ShD×Unit),d.1.length<=1000->(∃(x:Nat),((0=(x:Int)/\True/\True)/\vN d.1 x=[]/\True)/\x<=100)/\∀(x:Nat),x<=100->(decide ((x:Int)<=99)=true->(∃(a:Nat),((0=(a:Int)/\True/\True)/\vN d.1 x=vN d.1 x++cK d.1 a (x:Int).toNat/\True)/\a<=d.1.length)/\∀(a:Nat),a<=d.1.length->d.1.length<4611686018427387904->(decide ((a:Int)<d.1.length)=true->0<=(a:Int)/\(a:Int)<d.1.length/\(∃(b:Nat),((0=(b:Int)/\decide ((nth d.1 (a:Int).toNat).1=(x:Int))=y8 d.1 (a:Int).toNat b (x:Int)/\True)/\True)/\b<=(a:Int).toNat)/\∀(b:Nat),b<=(a:Int).toNat->(decide ((b:Int)<(a:Int))=true->(y8 d.1 (a:Int).toNat b (x:Int)=true->0<=(b:Int))/\(y8 d.1 (a:Int).toNat b (x:Int)=true->(b:Int)<d.1.length)/\(y8 d.1 (a:Int).toNat b (x:Int)=true->0<=(a:Int))/\(y8 d.1 (a:Int).toNat b (x:Int)=true->(a:Int)<d.1.length)/\wm ((b:Int)+1)/\∃(c:Nat),(((b:Int)+1=(c:Int)/\(y8 d.1 (a:Int).toNat b (x:Int)&& !decide (nth d.1 (b:Int).toNat=nth d.1 (a:Int).toNat))=y8 d.1 (a:Int).toNat c (x:Int)/\True)/\True)/\c<=(a:Int).toNat/\(a:Int).toNat-c<(a:Int).toNat-b)/\(decide ((b:Int)<(a:Int))=false->(y8 d.1 (a:Int).toNat b (x:Int)=true->0<=(a:Int)/\(a:Int)<d.1.length/\((vN d.1 x++cK d.1 a (x:Int).toNat).length+[nth d.1 (a:Int).toNat].length)*40<=140737488355328/\wm ((a:Int)+1)/\∃(c:Nat),(((a:Int)+1=(c:Int)/\True/\True)/\vN d.1 x++cK d.1 a (x:Int).toNat++[nth d.1 (a:Int).toNat]=vN d.1 x++cK d.1 c (x:Int).toNat/\True)/\c<=d.1.length/\d.1.length-c<d.1.length-a)/\(y8 d.1 (a:Int).toNat b (x:Int)=false->wm ((a:Int)+1)/\∃(c:Nat),((True/\(a:Int)+1=(c:Int)/\True)/\vN d.1 x++cK d.1 a (x:Int).toNat=vN d.1 x++cK d.1 c (x:Int).toNat/\True)/\c<=d.1.length/\d.1.length-c<d.1.length-a)))/\(decide ((a:Int)<d.1.length)=false->wm ((x:Int)+1)/\∃(c:Nat),(((x:Int)+1=(c:Int)/\True/\True)/\vN d.1 x++cK d.1 a (x:Int).toNat=vN d.1 c/\True)/\c<=100/\100-c<100-x))/\(decide ((x:Int)<=99)=false->(vN d.1 x,())=(we d.1,()))
theorem OH:Lc:=by
 rintro⟨n,a,b,⟨⟩⟩;rfl
theorem mM:wV PR 136 Lb:=wK OH Tryz.func136 kcN koN
theorem Fe:Dy:=by
 rintro⟨d,n,⟨⟩⟩ a;have a:(wo d).length<4611686018427387904:=a;exact⟨by show wm (((wo d).length:Int)-1);exact iZ6,rfl⟩
theorem Dz:wV PR 137 Dx:=wK Fe Tryz.func137 (kcC mM kcN) koN
theorem Ij:E7:=by
 rintro⟨d,n,⟨⟩⟩ a;have a:(wi (wq d)).length<4611686018427387904:=a;exact⟨by show wm (((wi (wq d)).length:Int)-1);exact iZ6,rfl⟩
theorem Ff:wV PR 138 E6:=wK Ij Tryz.func138 (kcC mM kcN) koN
theorem SO:OC:=by
 rintro⟨a,b,⟨⟩⟩;show(decide (Ez b<Ez a)||decide (Ez a=Ez b)&&decide (gx b<gx a),())=(qX a b,());refine jF (fun z=>(z,())) ?_;unfold qX;rw[j0];simp only[zq,ji,jp]
theorem OI:wV PR 147 OB:=wK SO Tryz.func147 kcN koN
theorem Ld (l:List ShD) (n:Nat):aB l (n+1)=(aB l n||Bp l n):=by
 unfold aB;rw[zc,kU];simp
theorem Ik {l:List ShD} {i:Nat} (h:∀j:Nat,j<i->Em (nth l i) (nth l j)=false) (hi:i<=l.length):Bp l i=false:=by
 unfold Bp;rw[zi];intro s a;rw[zb] at a;obtain⟨j,b,rfl⟩:=a;have:=h j (by omega);rw[L.qM (l:=l) (i:=j) (by omega)] at this;simpa using this
theorem SP {l:List ShD} {i j:Nat} (hi:i<l.length) (a:j<i) (h:Em (nth l i) (nth l j)=true):bV l=true:=by
 unfold bV aB Bp;rw[za];refine⟨i,jD.2 hi,?_⟩;rw[za];refine⟨nth l j,?_,h⟩;rw[zb];exact⟨j,by omega,(L.qM (by omega)).symm⟩
theorem SQ:Ox:=by
 unfold Ox jhp;rintro⟨l,⟨⟩⟩ k;have k:l.length<=1000000:=k;refine⟨⟨0,⟨⟨rfl,tZ⟩,tZ⟩,jl _,rfl⟩,fun x m _=>⟨fun h=> ?_,fun h=> ?_⟩⟩;have h:(x:Int)<l.length:=ja h;obtain⟨_,a⟩:x<=l.length/\aB l x=false:=m;refine⟨⟨0,⟨⟨rfl,tZ⟩,tZ⟩,jl _,fun j o=>by omega⟩,fun y n=>⟨fun c=> ?_,fun c=> ?_⟩⟩;have c:(y:Int)<(x:Int):=ja c;obtain⟨_,b⟩:y<=x/\∀j:Nat,j<y->Em (nth l x) (nth l j)=false:=n;have f:(y:Int)<l.length:=(by omega);refine⟨by omega,h,by omega,f,fun _=>by omega,fun _=>h,fun _=>by omega,fun _=>f,fun d=> ?_,fun d=>⟨iZ6,y+1,⟨⟨by simp,tZ⟩,tZ⟩,⟨by show y+1<=x;omega,fun j o=> ?_⟩,by show x-(y+1)<x-y;omega⟩⟩;have d:Em (nth l x) (nth l y)=true:=d;have:=SP (by omega) (by omega) d;show(true,())=(bV l,());rw[this];by_cases e:j=y;subst e;exact d;exact b j (by omega);have c:¬(y:Int)<(x:Int):=jc c;obtain⟨q,b⟩:y<=x/\∀j:Nat,j<y->Em (nth l x) (nth l j)=false:=n;have i:y=x:=(by omega);subst i;refine⟨iZ6,y+1,⟨⟨by simp,tZ⟩,tZ⟩,⟨by show y+1<=l.length;omega,?_⟩,by show l.length-(y+1)<l.length-y;omega⟩;show aB l (y+1)=false;rw[Ld,a,Ik b (by omega)];rfl;have h:¬(x:Int)<l.length:=jc h;obtain⟨p,a⟩:x<=l.length/\aB l x=false:=m;have g:x=l.length:=(by omega);subst g;show(false,())=(bV l,());unfold bV;rw[a]
theorem OJ:wV PR 94 Ov:=qY Ow SQ Tryz.func94 kcN koN
theorem SR:OA:=by
 unfold OA Prod.q4;rintro⟨d,⟨⟩⟩ k;have k:(wo d).length<=1000000:=k;refine⟨fun h=> ?_,fun h=> ?_⟩;have h:wt (wq d)=false:=(by simpa using(show(!wt (wq d))=true from h));show((30:Int),())=(aj d,());unfold aj;rw[h];rfl;have g:wt (wq d)=true:=(by simpa using(show(!wt (wq d))=false from h));refine⟨⟨0,⟨⟨rfl,tZ⟩,tZ⟩,jl _,fun j f=>by omega⟩,fun x m _=>⟨fun h=> ?_,fun h=> ?_⟩⟩;have h:(x:Int)<(wo d).length:=ja h;refine⟨by omega,h,g,fun a=> ?_,fun a=>⟨iZ6,x+1,⟨⟨by simp,tZ⟩,tZ⟩,⟨by show x+1<=(wo d).length;omega,fun j f=> ?_⟩,by show(wo d).length-(x+1)<(wo d).length-x;omega⟩⟩;have a:qb (wq d) (yS (nth (wo d) x))=false:=(by simpa using(show(!qb (wq d) (yS (nth (wo d) x)))=true from a));have f:I4 d=false:=by
  unfold I4;exact zU.2 ⟨_,L.wh (l:=wo d) (i:=x) (by omega),by rw[a];simp⟩
 show((31:Int),())=(aj d,());unfold aj;rw[g,f];rfl;have a:qb (wq d) (yS (nth (wo d) x))=true:=(by simpa using(show(!qb (wq d) (yS (nth (wo d) x)))=false from a));by_cases e:j=x;subst e;exact a;exact m.2 j (by omega);have h:¬(x:Int)<(wo d).length:=jc h;have f:I4 d=true:=iM (p:=fun b=>qb (wq d) (yS b)) (by omega) m.2;refine⟨fun a=> ?_,fun a=> ?_⟩;have a:qv d=false:=(by simpa using(show(!qv d)=true from a));show((50:Int),())=(aj d,());unfold aj;rw[g,f,a];rfl;have a:qv d=true:=(by simpa using(show(!qv d)=false from a));have n:(w7 d).length<=30:=(yd a).2.2.2.2.1;refine⟨by show(w7 d).length<=1000000;omega,fun c=> ?_,fun c=> ?_⟩;have c:bV (w7 d)=true:=c;show((51:Int),())=(aj d,());unfold aj;rw[g,f,a,c];rfl;have c:bV (w7 d)=false:=c;show((0:Int),())=(aj d,());unfold aj;rw[g,f,a,c];rfl
theorem WB (t:List Int) (p:Int) (n:Nat):oi t p (n+1)=oi t p n++(if qd (nth t n) p=true then[(n:Int)] else[]):=by
 unfold oi;rw[L.yf,zw];by_cases h:qd (nth t n) p=true;rw[jg h,jg h];rfl;rw[jd h,jd h];rfl
theorem QL (t:List Int) (p:Int) (n:Nat):(oi t p n).length<=n:=by
 unfold oi;rw[zf];exact jE (zy _ _) (by simp)
theorem WC (l:List ShD) (n m:Nat):cK l (n+1) m=cK l n m++(if(decide (gx (nth l n)=(m:Int))&&mV l n)=true then[nth l n] else[]):=by
 unfold cK;rw[L.yf,zw];by_cases h:(decide (gx (nth l n)=(m:Int))&&mV l n)=true;rw[jg h,jg h];rfl;rw[jd h,jd h];rfl
theorem QM (l:List ShD) (n m:Nat):(cK l n m).length<=n:=by
 unfold cK;rw[zf];exact jE (zy _ _) (by simp)
theorem DA (l:List ShD) (n:Nat):vN l (n+1)=vN l n++cK l l.length n:=by
 unfold vN;rw[zc,List.flatMap_append];simp
theorem nC (l:List ShD):∀n,(vN l n).length<=l.length*n
 |0=>jl _
 |n+1=>by
  have a:=nC l n
  have:=QM l l.length n
  rw[DA,jI,Nat.mul_succ]
  omega
theorem Le {l:List ShD} {i k:Nat} {id:Int} (h:k<l.length):y8 l i (k+1) id=(y8 l i k id&& !decide (nth l k=nth l i)):=by
 unfold y8;rw[L.wO h,kU];simp only[List.any_cons,List.any_nil,kQ,Bool.not_or,Bool.and_assoc]
theorem Il:Fc:=by
 rintro⟨l,⟨⟩⟩ f;have f:l.length<=1000:=f;refine⟨⟨0,⟨⟨rfl,tZ,tZ⟩,rfl,tZ⟩,jl _⟩,fun x t=>⟨fun h=>⟨⟨0,⟨⟨rfl,tZ,tZ⟩,?_,tZ⟩,jl _⟩,fun y e _=>⟨fun a=> ?_,fun a=> ?_⟩⟩,fun h=> ?_⟩⟩;exact(jZ _).symm;have h:(x:Int)<=99:=ja h;have a:(y:Int)<l.length:=ja a;have e:y<=l.length:=e;refine⟨by omega,a,⟨0,⟨⟨rfl,?_,tZ⟩,tZ⟩,jl _⟩,fun z p=>⟨fun c=> ?_,fun c=> ?_⟩⟩;show decide (gx (nth l y)=(x:Int))=y8 l y 0 (x:Int);unfold y8;simp;have c:(z:Int)<(y:Int):=ja c;have m:(z:Int)<l.length:=(by omega);have d:=Le (l:=l) (i:=y) (k:=z) (id:=(x:Int)) (by omega);exact⟨fun _=>by omega,fun _=>m,fun _=>by omega,fun _=>a,iZ6,z+1,⟨⟨by simp,d.symm,tZ⟩,tZ⟩,by show z+1<=y;omega,by show y-(z+1)<y-z;omega⟩;have c:¬(z:Int)<(y:Int):=jc c;have p:z<=y:=p;have n:z=y:=(by omega);subst n;have d:=WC l z x;have r:=QM l z x;have s:=nC l x;have q:l.length*x<=1000*99:=Nat.mul_le_mul f (by omega);have up:z+1<=l.length:=(by omega);have o:l.length-(z+1)<l.length-z:=(by omega);refine⟨fun b=>⟨by omega,a,?_,iZ6,z+1,⟨⟨by simp,tZ,tZ⟩,?_,tZ⟩,up,o⟩,fun b=>⟨iZ6,z+1,⟨⟨tZ,by simp,tZ⟩,?_,tZ⟩,up,o⟩⟩;show((vN l x++cK l z x).length+1)*40<=140737488355328;rw[jI];omega;have b:(decide (gx (nth l z)=(x:Int))&&mV l z)=true:=b;show vN l x++cK l z x++[nth l z]=vN l x++cK l (z+1) x;rw[d,jg b,jM];have b:(decide (gx (nth l z)=(x:Int))&&mV l z)=false:=b;show vN l x++cK l z x=vN l x++cK l (z+1) x;rw[d,jd (by rw[b];simp),jZ];have h:(x:Int)<=99:=ja h;have a:¬(y:Int)<l.length:=jc a;have e:y<=l.length:=e;have j:y=l.length:=(by omega);subst j;exact⟨iZ6,x+1,⟨⟨by simp,tZ,tZ⟩,(DA l x).symm,tZ⟩,by omega,by omega⟩;have h:¬(x:Int)<=99:=jc h;have g:x=100:=(by omega);subst g;rfl
theorem Fg:wV PR 146 Fa:=qY Fb Il Tryz.func146 kcN koN
theorem DB {d:DyD} {p:Int} {l:List Int}:gp d p l=true↔(∀j:Nat,j<l.length->qD (wq d) (yS (U.bk d (nth l j))) p=true)/\(∀j:Nat,j<l.length->∀m:Nat,m<j->w5 d (nth l j) (nth l m)=true)/\I5 d l<=Z5 d:=by
 unfold gp jaL;rw[ji,ji,jT,jT,jp];refine and_congr ?_ (and_congr ?_ Iff.rfl);constructor;intro h j a;exact h _ (L.wh a);intro h b c;obtain⟨i,hi,rfl⟩:=L.mem_iff.1 c;exact h i hi;constructor;intro h j a m e;have:=h j (jD.2 a);rw[jT] at this;exact this _ (by rw[zb];exact⟨m,by omega,(L.qM (by omega)).symm⟩);intro h j a;have a:=jD.1 a;rw[jT];intro b c;rw[zb] at c;obtain⟨m,e,rfl⟩:=c;have:=h j a m (by omega);rw[L.qM (l:=l) (i:=m) (by omega)] at this;exact this
theorem DC {d:DyD} {p:Int} {l:List Int} (h:¬gp d p l=true):(false,())=(gp d p l,()):=by
 cases a:gp d p l with
 |false=>rfl
 |true=>exact absurd a h
theorem SS:OG:=by
 unfold OG jjU jgt jg1 Prod.q4;rintro⟨d,p,l,⟨⟩⟩ f t C;have f:FN d:=f;have t:My d p:=t;obtain⟨J,A⟩:Eo d l:=C;refine⟨⟨0,⟨⟨rfl,rfl,tZ⟩,tZ⟩,jl _,fun j s=>by omega,fun j s=>by omega⟩,fun x q _=>⟨fun h=> ?_,fun h=> ?_⟩⟩;have h:(x:Int)<l.length:=ja h;have a:x<l.length:=(by omega);have n:=A _ (L.wh a);have B:=b9 f.2.2 n;have D:=N3 f.2.2 A x (by omega);have E:=pW (d:=d) a;have o:qb (wq d) (yS (U.bk d (nth l x)))=true:=by
  have:=f.2.1;unfold I4 at this;exact jT.1 this _ (jdv n)
 have H:wm (gn (U.bk d (nth l x))-w8 (U.bk d (nth l x))):=iZ6;have I:wm (vP d l x+(gn (U.bk d (nth l x))-w8 (U.bk d (nth l x)))):=iZ6;refine⟨by omega,h,n.1,n.2,t,o,fun b=> ?_,fun b=>⟨H,I,⟨0,⟨⟨rfl,tZ⟩,tZ⟩,jl _,fun m g=>by omega⟩,fun y u=>⟨fun k=> ?_,fun k=> ?_⟩⟩⟩;have b:qD (wq d) (yS (U.bk d (nth l x))) p=false:=(by simpa using(show(!qD (wq d) (yS (U.bk d (nth l x))) p)=true from b));exact DC (d:=d) (p:=p) (l:=l) (fun r=>by
  have:=(DB.1 r).1 x a;rw[b] at this;cases this)
 have k:(y:Int)<(x:Int):=ja k;have v:(y:Int)<l.length:=(by omega);refine⟨by omega,h,by omega,v,f,n,A _ (L.wh (l:=l) (i:=y) (by omega)),fun c=> ?_,fun c=>⟨iZ6,y+1,⟨⟨by simp,tZ⟩,tZ⟩,⟨by show y+1<=x;omega,fun m g=> ?_⟩,by show x-(y+1)<x-y;omega⟩⟩;have c:w5 d (nth l x) (nth l y)=false:=(by simpa using(show(!w5 d (nth l x) (nth l y))=true from c));exact DC (d:=d) (p:=p) (l:=l) (fun r=>by
  have:=(DB.1 r).2.1 x a y (by omega);rw[c] at this;cases this)
 have c:w5 d (nth l x) (nth l y)=true:=(by simpa using(show(!w5 d (nth l x) (nth l y))=false from c));by_cases e:m=y;subst e;exact c;exact u.2 m (by omega);have k:¬(y:Int)<(x:Int):=jc k;have G:y<=x:=u.1;have w:y=x:=(by omega);subst w;have b:qD (wq d) (yS (U.bk d (nth l y))) p=true:=(by simpa using(show(!qD (wq d) (yS (U.bk d (nth l y))) p)=false from b));refine⟨iZ6,y+1,⟨⟨by simp,E.symm,tZ⟩,tZ⟩,⟨by show y+1<=l.length;omega,fun j s=> ?_,fun j s m g=> ?_⟩,by show l.length-(y+1)<l.length-y;omega⟩;by_cases e:j=y;subst e;exact b;exact q.2.1 j (by omega);by_cases e:j=y;subst e;exact u.2 m g;exact q.2.2 j (by omega) m g;have h:¬(x:Int)<l.length:=jc h;have F:x<=l.length:=q.1;have a:x=l.length:=(by omega);subst a;have g:vP d l l.length=I5 d l:=by
  unfold vP;rw[zv (jj _)]
 show(decide (vP d l l.length<=Z5 d),())=(gp d p l,());rw[g];refine jF (fun z=>(z,())) ?_;rw[j0,jp,DB];exact⟨fun h=>⟨q.2.1,q.2.2,h⟩,fun h=>h.2.2⟩
theorem jdz {d:DyD} {a b:Int} (h:ak d b a=true):w5 d a b=decide (gn (U.bk d b)+A0 d+PI d b a<=w8 (U.bk d a)):=by
 unfold w5;rw[jg h];refine decide_eq_decide.2 ?_;unfold bG;omega
theorem jbX {d:DyD} {a b:Int} (h:ak d b a=false):w5 d a b=decide (gn (U.bk d a)+A0 d+PI d a b<=w8 (U.bk d b)):=by
 unfold w5;rw[h,jd (by simp)];refine decide_eq_decide.2 ?_;unfold bG;omega
theorem QN (d:DyD) (a b:Int):ak d b a=(decide (w8 (U.bk d b)<w8 (U.bk d a))||decide (w8 (U.bk d b)=w8 (U.bk d a))&&decide (b<a)):=by
 unfold ak;rw[j0];simp only[zq,ji,jp]
theorem Im:E9:=by
 unfold E9 jjT jgM jhU jfV jfU;rintro⟨d,a,b,⟨⟩⟩ c e f;have c:FN d:=c;have e:aq d a:=e;have f:aq d b:=f;have m:=b9 c.2.2 e;have n:=b9 c.2.2 f;have p:=Dp c.2.2 e f;have q:=Dp c.2.2 f e;have o:=(yd c.2.2).2.2.1;have r:=(s7 c.2.2 (i:=(T9 (U.bk d a)).toNat) (by omega)).1;have s:=(s7 c.2.2 (i:=(T9 (U.bk d b)).toNat) (by omega)).1;have g:=e.1;have j:=e.2;have k:=f.1;have l:=f.2;refine⟨k,l,g,j,fun _=>k,fun _=>l,fun _=>g,fun _=>j,fun h=>⟨k,l,g,j,?_,n.1.1,n.1.2,m.1.1,?_,?_,?_⟩,fun h=>⟨g,j,k,l,?_,m.1.1,m.1.2,n.1.1,?_,?_,?_⟩⟩;show wm (gn (U.bk d b)+A0 d);exact iZ6;show T9 (U.bk d a)<((nth (w6 d) (T9 (U.bk d b)).toNat).length:Int);omega;show wm (gn (U.bk d b)+A0 d+PI d b a);exact iZ6;have h:ak d b a=true:=(by rw[QN];exact h);exact jF (fun z=>(z,())) (jdz h).symm;show wm (gn (U.bk d a)+A0 d);exact iZ6;show T9 (U.bk d b)<((nth (w6 d) (T9 (U.bk d a)).toNat).length:Int);omega;show wm (gn (U.bk d a)+A0 d+PI d a b);exact iZ6;have h:ak d b a=false:=(by rw[QN];exact h);exact jF (fun z=>(z,())) (jbX h).symm
theorem Fh:wV PR 149 E8:=wK Im Tryz.func149 kcN koN
theorem OK:wV PR 110 OE:=qY OF SS Tryz.func110 (kcC If (kcC Fh kcN)) koN
def jdA (d:DyD):Bool:=decide (4<((wo d).length:Int))|| !k8 ((w6 d).length:Int) 1 5|| !k8 (A0 d) 0 300|| !k8 (Z5 d) 0 1440||decide (30<((w7 d).length:Int))
def spH (s:SpD):Bool:=decide (U.lo s<0)||decide (U.hi s<U.lo s)||decide (300<U.hi s)
def bkH (n:Nat) (b:BkD):Bool:= !k8 (T9 b) 0 ((n:Int)-1)||decide (w8 b<0)||decide (gn b<=w8 b)||decide (1440<gn b)
def shH (d:DyD) (s:ShD):Bool:= !k8 (gx s) 0 99|| !k8 (Ez s) 0 9999|| !k8 (XS s) 1 2|| !XV d (lL s)|| !Me d (ao s)
theorem WD (d:DyD):qv d=(!jdA d&&((w6 d).all (cJ (w6 d).length)&&((wo d).all (mT (w6 d).length)&&(w7 d).all (mU (wo d).length (wi (wq d)).length)))):=by
 unfold qv jdA;congr 1;rw[j0];simp only[k8,jS,jR,jH,zl,ji,jp];omega
theorem jaA (s:SpD):tG s= !spH s:=by
 unfold tG spH;rw[j0];simp only[jS,jR,jH,jp];omega
theorem jaB (n:Nat) (b:BkD):mT n b= !bkH n b:=by
 unfold mT bkH;rw[j0];simp only[k8,jS,jR,jH,zl,ji,jp];omega
theorem jaC (d:DyD) (s:ShD):mU (wo d).length (wi (wq d)).length s= !shH d s:=by
 unfold mU shH XV Me;rw[j0];simp only[k8,jS,jR,zl,ji,jp];omega
theorem Lf {d:DyD} (h:jdA d=true\/(w6 d).all (cJ (w6 d).length)=false\/(wo d).all (mT (w6 d).length)=false\/(w7 d).all (mU (wo d).length (wi (wq d)).length)=false):(false,())=(qv d,()):=by
 have:qv d=false:=by
  rw[WD];rcases h with h|h|h|h<;>rw[h]<;>simp
 rw[this]
theorem Lg {α:Type} [Inhabited α] {l:List α} {p:α->Bool} {x:Nat} (a:x<l.length) (h:p (nth l x)=false):l.all p=false:=zU.2 ⟨_,L.wh a,by rw[h];simp⟩
theorem SU:Ou:=by
 unfold Ou ji8 jjS jit jhT jjR jhS ji7 jho jjQ jhR jgc jgL jjP jhn Prod.q4;rintro⟨d,⟨⟩⟩ _ _ _;refine⟨fun h=>Lf (d:=d) (.inl h),fun k=> ?_⟩;have k:jdA d=false:=k;have l:=k;unfold jdA at l;simp only[k8,jR,jH,zl,ji,jp] at l;refine⟨⟨0,⟨⟨rfl,tZ⟩,tZ⟩,jl _,fun j g=>by omega⟩,fun x c _=>⟨fun h=> ?_,fun h=> ?_⟩⟩;have h:(x:Int)<(w6 d).length:=ja h;have b:x<(w6 d).length:=(by omega);refine⟨by omega,h,fun a=> ?_,fun a=>⟨⟨0,⟨⟨rfl,tZ⟩,tZ⟩,jl _,fun j g=>by omega⟩,fun y n=>⟨by omega,h,fun m=>⟨fun i=> ?_,fun i=> ?_⟩⟩⟩⟩;have a:¬((nth (w6 d) x).length:Int)=(w6 d).length:=ja a;refine Lf (d:=d) (.inr (.inl (Lg b ?_)));unfold cJ;rw[zn (by omega)];rfl;have m:(nth (w6 d) x).length<4611686018427387904:=m;have i:(y:Int)<(nth (w6 d) x).length:=ja i;refine⟨by omega,h,by omega,i,fun f=> ?_,fun f=>⟨iZ6,y+1,⟨⟨by simp,tZ⟩,tZ⟩,⟨by show y+1<=(nth (w6 d) x).length;omega,fun j g=> ?_⟩,by show(nth (w6 d) x).length-(y+1)<(nth (w6 d) x).length-y;omega⟩⟩;have f:spH (nth (nth (w6 d) x) y)=true:=f;refine Lf (d:=d) (.inr (.inl (Lg b ?_)));have:(nth (w6 d) x).all tG=false:=Lg (x:=y) (by omega) (by rw[jaA,f];rfl);unfold cJ;rw[this,kx];have f:spH (nth (nth (w6 d) x) y)=false:=f;by_cases e:j=y;subst e;show tG (nth (nth (w6 d) x) j)=true;rw[jaA,f];rfl;exact n.2 j (by omega);have i:¬(y:Int)<(nth (w6 d) x).length:=jc i;have a:((nth (w6 d) x).length:Int)=(w6 d).length:=jN.1 (jc a);have o:(nth (w6 d) x).all tG=true:=iM (by omega) n.2;refine⟨iZ6,x+1,⟨⟨by simp,tZ⟩,tZ⟩,⟨by show x+1<=(w6 d).length;omega,fun j g=> ?_⟩,by show(w6 d).length-(x+1)<(w6 d).length-x;omega⟩;by_cases e:j=x;subst e;show cJ (w6 d).length (nth (w6 d) j)=true;unfold cJ;rw[o,jG (by omega)];rfl;exact c.2 j (by omega);have h:¬(x:Int)<(w6 d).length:=jc h;have r:(w6 d).all (cJ (w6 d).length)=true:=iM (by omega) c.2;clear c h;refine⟨⟨0,⟨⟨rfl,tZ⟩,tZ⟩,jl _,fun j g=>by omega⟩,fun x c _=>⟨fun h=> ?_,fun h=> ?_⟩⟩;have h:(x:Int)<(wo d).length:=ja h;have b:x<(wo d).length:=(by omega);refine⟨by omega,h,fun _=>⟨by show wm (((w6 d).length:Int)-1);exact iZ6,fun a=> ?_,fun a=>⟨iZ6,x+1,⟨⟨by simp,tZ⟩,tZ⟩,⟨by show x+1<=(wo d).length;omega,fun j g=> ?_⟩,by show(wo d).length-(x+1)<(wo d).length-x;omega⟩⟩⟩;have a:bkH (w6 d).length (nth (wo d) x)=true:=a;exact Lf (d:=d) (.inr (.inr (.inl (Lg b (by rw[jaB,a];rfl)))));have a:bkH (w6 d).length (nth (wo d) x)=false:=a;by_cases e:j=x;subst e;show mT (w6 d).length (nth (wo d) j)=true;rw[jaB,a];rfl;exact c.2 j (by omega);have h:¬(x:Int)<(wo d).length:=jc h;have p:(wo d).all (mT (w6 d).length)=true:=iM (by omega) c.2;clear c h;refine⟨⟨0,⟨⟨rfl,tZ⟩,tZ⟩,jl _,fun j g=>by omega⟩,fun x c _=>⟨fun h=> ?_,fun h=> ?_⟩⟩;have h:(x:Int)<(w7 d).length:=ja h;have b:x<(w7 d).length:=(by omega);refine⟨by omega,h,fun a=> ?_,fun a=>⟨iZ6,x+1,⟨⟨by simp,tZ⟩,tZ⟩,⟨by show x+1<=(w7 d).length;omega,fun j g=> ?_⟩,by show(w7 d).length-(x+1)<(w7 d).length-x;omega⟩⟩;have a:shH d (nth (w7 d) x)=true:=a;exact Lf (d:=d) (.inr (.inr (.inr (Lg b (by rw[jaC,a];rfl)))));have a:shH d (nth (w7 d) x)=false:=a;by_cases e:j=x;subst e;show mU (wo d).length (wi (wq d)).length (nth (w7 d) j)=true;rw[jaC,a];rfl;exact c.2 j (by omega);have h:¬(x:Int)<(w7 d).length:=jc h;have q:(w7 d).all (mU (wo d).length (wi (wq d)).length)=true:=iM (by omega) c.2;show(true,())=(qv d,());rw[WD,k,r,p,q];rfl
theorem OL:wV PR 93 Oq:=qY Ot SU Tryz.func93 (kcC mM (kcC Dz (kcC Ff kcN))) koN
theorem pZ:wV PR 57 Oy:=qY Oz SR Tryz.func57 (kcC xE (kcC Oj (kcC OL (kcC OJ kcN)))) koN
namespace U
def yg (l:List ShD) (i n:Nat):Bool:=decide (XS (nth l i)=1)&& !((l.take n).any (fun t=>decide (lL t=lL (nth l i))&&decide (ao t=ao (nth l i))&&qX t (nth l i)))
def ww (l:List ShD) (n:Nat):List ShD:=((List.range n).filter (fun i=>yg l i l.length)).map (nth l)
def wL (l:List ShD) (n:Nat):Nat:=(List.range n).foldl (fun f i=>if qX (nth l f) (nth l i)=true then i else f) 0
def wg (l:List ShD):Nat->List ShD×List ShD
 |0=>([],l)
 |n+1=>((wg l n).1++[nth (wg l n).2 (wL (wg l n).2 (wg l n).2.length)],(wg l n).2.take (wL (wg l n).2 (wg l n).2.length)++(wg l n).2.drop (wL (wg l n).2 (wg l n).2.length+1))
def cO (d:DyD):List ShD:=ww (we (w7 d)) (we (w7 d)).length
def qZ (d:DyD):List ShD:=(wg (cO d) (cO d).length).1
def wN (d:DyD) (n:Nat):List Int×List Int:=((qZ d).take n).foldl (cq d) (List.replicate (wo d).length 0,[])
def Je (d:DyD):List Int×List Int:=wN d (qZ d).length
def tN (d:DyD):List Int:=if aj d=0 then(Je d).1 else[]
end U
def Lh:wQ:=⟨[.val tDy],[.slice tSh],false,fun d=>[(w7 d.1).length<=1000],fun d=>(qZ d.1,())⟩
def Li:Ann:=fun r=>match r with
 |4=>some fun σ=>{X:=Nat,sl:=fun i=>[(5,.dat .int (i:Int)),(3,.own 3 tSh)],ob:=fun i=>[(3,some (.row 134 tSh false .yes (ww (gd (.slice tSh) σ 4) i)))],inv:=fun i=>i<=(gd (.slice tSh) σ 4).length,mu:=fun i=>(gd (.slice tSh) σ 4).length-i}
 |8=>some fun σ=>{X:=Nat,sl:=fun k=>[(7,.dat .int (k:Int)),(6,.dat .bool (yg (gd (.slice tSh) σ 4) (gd .int σ 5).toNat k))],ob:=fun _=>[],inv:=fun k=>k<=(gd (.slice tSh) σ 4).length,mu:=fun k=>(gd (.slice tSh) σ 4).length-k}
 |15=>some fun σ=>{X:=Nat,sl:=fun _=>[(3,.own 3 tSh),(8,.own 8 tSh)],ob:=fun n=>[(3,some (.row 134 tSh false .unk (wg (gr tSh σ 3) n).2)),(8,some (.row 134 tSh false .yes (wg (gr tSh σ 3) n).1))],inv:=fun n=>n<=(gr tSh σ 3).length,mu:=fun n=>(gr tSh σ 3).length-n}
 |18=>some fun σ=>{X:=Nat,sl:=fun i=>[(10,.dat .int (i:Int)),(9,.dat .int (wL (gr tSh σ 3) i:Int))],ob:=fun _=>[],inv:=fun i=>i<=(gr tSh σ 3).length,mu:=fun i=>(gr tSh σ 3).length-i}
 |_=>none
abbrev jfw (d:DyD×Unit):=(we d.1.q4.2.1)
abbrev jhq (d:DyD×Unit)(a:Nat)(x:Nat):=((nth (jfw d) (a:Int).toNat).2.2.2.1=(nth (jfw d) (x:Int).toNat).2.2.2.1)
abbrev jjV (d:DyD×Unit)(a:Nat)(x:Nat):=((nth (jfw d) (a:Int).toNat).q4.1=(nth (jfw d) (x:Int).toNat).q4.1)
abbrev jf3 (d:DyD×Unit):=(↑(jfw d).length:Int)
abbrev jjW (d:DyD×Unit)(a:Nat)(x:Nat):=(decide (jhq d a x)&&decide (jjV d a x)&&qX (nth (jfw d) (a:Int).toNat) (nth (jfw d) (x:Int).toNat))
abbrev jiu (d:DyD×Unit)(a:Nat)(x:Nat):=(decide (jhq d a x)&&decide (jjV d a x))
abbrev jgu (d:DyD×Unit)(x:Nat):=(ww (jfw d) x)
abbrev jfB (d:DyD×Unit)(x:Nat)(a:Nat):=(wg (jgu d x) a)
abbrev jfJ (d:DyD×Unit)(x:Nat)(a:Nat)(b:Nat):=(↑(wL (jfB d x a).2 b):Int)
abbrev jfZ (d:DyD×Unit)(x:Nat)(a:Nat):=(↑(jfB d x a).2.length:Int)
def Lj:Prop:=∀(d:DyD×Unit),(w7 d.1).length<=1000->d.1.q4.2.1.length<=1000/\(∃(x:Nat),((0=(x:Int)/\True/\True)/\ww (jfw d) x=[]/\True)/\x<=(jfw d).length)/\∀(x:Nat),x<=(jfw d).length->(jfw d).length<4611686018427387904->(decide ((x:Int)<(jf3 d))=true->0<=(x:Int)/\(x:Int)<(jf3 d)/\(∃(a:Nat),((0=(a:Int)/\decide ((nth (jfw d) (x:Int).toNat).2.2.1=1)=yg (jfw d) (x:Int).toNat a/\True)/\True)/\a<=(jfw d).length)/\∀(a:Nat),a<=(jfw d).length->(jfw d).length<4611686018427387904->(decide ((a:Int)<(jf3 d))=true->0<=(a:Int)/\(a:Int)<(jf3 d)/\0<=(x:Int)/\(x:Int)<(jf3 d)/\(decide (jhq d a x)=true->0<=(a:Int))/\(decide (jhq d a x)=true->(a:Int)<(jf3 d))/\(decide (jhq d a x)=true->0<=(x:Int))/\(decide (jhq d a x)=true->(x:Int)<(jf3 d))/\((jiu d a x)=true->0<=(a:Int))/\((jiu d a x)=true->(a:Int)<(jf3 d))/\((jiu d a x)=true->0<=(x:Int))/\((jiu d a x)=true->(x:Int)<(jf3 d))/\((jjW d a x)=true->wm ((a:Int)+1)/\∃(c:Nat),(((a:Int)+1=(c:Int)/\false=yg (jfw d) (x:Int).toNat c/\True)/\True)/\c<=(jfw d).length/\(jfw d).length-c<(jfw d).length-a)/\((jjW d a x)=false->wm ((a:Int)+1)/\∃(c:Nat),((yg (jfw d) (x:Int).toNat a=yg (jfw d) (x:Int).toNat c/\(a:Int)+1=(c:Int)/\True)/\True)/\c<=(jfw d).length/\(jfw d).length-c<(jfw d).length-a))/\(decide ((a:Int)<(jf3 d))=false->(yg (jfw d) (x:Int).toNat a=true->0<=(x:Int)/\(x:Int)<(jf3 d)/\((jgu d x).length+[nth (jfw d) (x:Int).toNat].length)*40<=140737488355328/\wm ((x:Int)+1)/\∃(c:Nat),(((x:Int)+1=(c:Int)/\True/\True)/\ww (jfw d) x++[nth (jfw d) (x:Int).toNat]=ww (jfw d) c/\True)/\c<=(jfw d).length/\(jfw d).length-c<(jfw d).length-x)/\(yg (jfw d) (x:Int).toNat a=false->wm ((x:Int)+1)/\∃(c:Nat),((True/\(x:Int)+1=(c:Int)/\True)/\ww (jfw d) x=ww (jfw d) c/\True)/\c<=(jfw d).length/\(jfw d).length-c<(jfw d).length-x)))/\(decide ((x:Int)<(jf3 d))=false->(∃(a:Nat),((True/\True/\True)/\ww (jfw d) x=(jfB d x a).2/\(jfB d x a).1=[]/\True)/\a<=(jgu d x).length)/\∀(a:Nat),a<=(jgu d x).length->(jfB d x a).2.length<4611686018427387904->(decide ((0:Int)<(jfZ d x a))=true->(∃(b:Nat),((0=(b:Int)/\(0:Int)=(jfJ d x a b)/\True)/\True)/\b<=(jfB d x a).2.length)/\∀(b:Nat),b<=(jfB d x a).2.length->(jfB d x a).2.length<4611686018427387904->(decide ((b:Int)<(jfZ d x a))=true->(0:Int)<=(jfJ d x a b)/\(jfJ d x a b)<(jfZ d x a)/\0<=(b:Int)/\(b:Int)<(jfZ d x a)/\(qX (nth (jfB d x a).2 (jfJ d x a b).toNat) (nth (jfB d x a).2 (b:Int).toNat)=true->wm ((b:Int)+1)/\∃(c:Nat),(((b:Int)+1=(c:Int)/\(b:Int)=(↑(wL (jfB d x a).2 c):Int)/\True)/\True)/\c<=(jfB d x a).2.length/\(jfB d x a).2.length-c<(jfB d x a).2.length-b)/\(qX (nth (jfB d x a).2 (jfJ d x a b).toNat) (nth (jfB d x a).2 (b:Int).toNat)=false->wm ((b:Int)+1)/\∃(c:Nat),(((jfJ d x a b)=(↑(wL (jfB d x a).2 c):Int)/\(b:Int)+1=(c:Int)/\True)/\True)/\c<=(jfB d x a).2.length/\(jfB d x a).2.length-c<(jfB d x a).2.length-b))/\(decide ((b:Int)<(jfZ d x a))=false->(0:Int)<=(jfJ d x a b)/\(jfJ d x a b)<(jfZ d x a)/\((jfB d x a).1.length+[nth (jfB d x a).2 (jfJ d x a b).toNat].length)*40<=140737488355328/\(0:Int)<=0/\(0:Int)<=(jfJ d x a b)/\(jfJ d x a b)<=(jfZ d x a)/\(0+(List.take ((jfJ d x a b).toNat-Int.toNat 0) (List.drop (Int.toNat 0) (jfB d x a).2)).length)*40<=140737488355328/\wm ((jfJ d x a b)+1)/\(0:Int)<=(jfJ d x a b)+1/\(jfJ d x a b)+1<=(jfZ d x a)/\(jfZ d x a)<=(jfZ d x a)/\(([]++List.take ((jfJ d x a b).toNat-Int.toNat 0) (List.drop (Int.toNat 0) (jfB d x a).2)).length+(List.take ((jfZ d x a).toNat-((jfJ d x a b)+1).toNat) (List.drop ((jfJ d x a b)+1).toNat (jfB d x a).2)).length)*40<=140737488355328/\∃(c:Nat),((True/\True/\True)/\[]++List.take ((jfJ d x a b).toNat-Int.toNat 0) (List.drop (Int.toNat 0) (jfB d x a).2)++List.take ((jfZ d x a).toNat-((jfJ d x a b)+1).toNat) (List.drop ((jfJ d x a b)+1).toNat (jfB d x a).2)=(wg (jgu d x) c).2/\(jfB d x a).1++[nth (jfB d x a).2 (jfJ d x a b).toNat]=(wg (jgu d x) c).1/\True)/\c<=(jgu d x).length/\(jgu d x).length-c<(jgu d x).length-a))/\(decide ((0:Int)<(jfZ d x a))=false->((jfB d x a).1,())=(qZ d.1,())))
def OM:q7:=⟨[.own (.cl (.row 3 .int .no)) true,.val .int],[.cl (.row 3 .int .yes)],fun d=>[d.1.length<=1000,0<=d.2.1/\d.2.1<=63],fun d=>((U.on d.1 d.2.1,()),(d.1,()))⟩
def ON:Ann:=fun r=>match r with
 |3=>some fun σ=>{X:=Nat,sl:=fun i=>[(6,.dat .int (i:Int)),(5,.own 5 .int)],ob:=fun i=>[(5,some (.row 3 .int false .yes (oi (gr .int σ 1000000) (gd .int σ 1) i)))],inv:=fun i=>i<=(gr .int σ 1000000).length,mu:=fun i=>(gr .int σ 1000000).length-i}
 |_=>none
def OO:Prop:=∀(d:List Int×Int×Unit),d.1.length<=1000->0<=d.2.1/\d.2.1<=63->(∃(x:Nat),((0=(x:Int)/\True/\True)/\oi d.1 d.2.1 x=[]/\True)/\x<=d.1.length)/\∀(x:Nat),x<=d.1.length->d.1.length<4611686018427387904->(decide ((x:Int)<d.1.length)=true->0<=(x:Int)/\(x:Int)<d.1.length/\(0<=d.2.1/\d.2.1<=63)/\(qd (nth d.1 (x:Int).toNat) d.2.1=true->((oi d.1 d.2.1 x).length+[(x:Int)].length)*8<=140737488355328/\wm ((x:Int)+1)/\∃(a:Nat),(((x:Int)+1=(a:Int)/\True/\True)/\oi d.1 d.2.1 x++[(x:Int)]=oi d.1 d.2.1 a/\True)/\a<=d.1.length/\d.1.length-a<d.1.length-x)/\(qd (nth d.1 (x:Int).toNat) d.2.1=false->wm ((x:Int)+1)/\∃(a:Nat),((True/\(x:Int)+1=(a:Int)/\True)/\oi d.1 d.2.1 x=oi d.1 d.2.1 a/\True)/\a<=d.1.length/\d.1.length-a<d.1.length-x))/\(decide ((x:Int)<d.1.length)=false->(oi d.1 d.2.1 x,())=(U.on d.1 d.2.1,())/\(d.1,())=(d.1,()))
def OP:wQ:=⟨[.val tDy],[.slice .int,.slice .int],false,fun d=>[aj d.1=0],fun d=>((Je d.1).1,(Je d.1).2,())⟩
def OQ:Ann:=fun r=>match r with
 |4=>some fun σ=>{X:=Nat,sl:=fun i=>[(5,.dat .int (i:Int)),(2,.own 2 .int),(3,.own 3 .int)],ob:=fun i=>[(2,some (.row 3 .int false .no (wN (gb tDy σ 1) i).1)),(3,some (.row 3 .int false .yes (wN (gb tDy σ 1) i).2))],inv:=fun i=>i<=(qZ (gb tDy σ 1)).length,mu:=fun i=>(qZ (gb tDy σ 1)).length-i}
 |_=>none
abbrev jfI (d:DyD×Unit)(x:Nat):=(nth (qZ d.1) (x:Int).toNat)
abbrev jgN (d:DyD×Unit):=(↑(qZ d.1).length:Int)
abbrev ji9 (d:DyD×Unit)(x:Nat):=(U.on (wN d.1 x).1 (jfI d x).q4.1++[(jfI d x).2.2.2.1])
abbrev jjX (d:DyD×Unit)(x:Nat):=(nth (wN d.1 x).1 (jfI d x).2.2.2.1.toNat+1*2^(jfI d x).q4.1.toNat)
abbrev jhV (d:DyD×Unit):=(d.1.2.2.1.length:Int)
def OR:Prop:=∀(d:DyD×Unit),aj d.1=0->d.1.2.2.1.length<4611686018427387904->0<=(jhV d)/\(jhV d)=(jhV d)/\(jhV d).toNat*8<=140737488355328/\(w7 d.1).length<=1000/\(∃(x:Nat),((0=(x:Int)/\True/\True/\True)/\List.replicate (jhV d).toNat 0=(wN d.1 x).1/\(wN d.1 x).2=[]/\True)/\x<=(qZ d.1).length)/\∀(x:Nat),x<=(qZ d.1).length->(qZ d.1).length<4611686018427387904->(decide ((x:Int)<(jgN d))=true->0<=(x:Int)/\(x:Int)<(jgN d)/\0<=(x:Int)/\(x:Int)<(jgN d)/\(wN d.1 x).1.length<=1000/\((0:Int)<=(jfI d x).q4.1/\(jfI d x).q4.1<=63)/\0<=(x:Int)/\(x:Int)<(jgN d)/\((U.on (wN d.1 x).1 (jfI d x).q4.1).length+[(jfI d x).2.2.2.1].length)*8<=140737488355328/\FN d.1/\My d.1 (jfI d x).q4.1/\Eo d.1 (ji9 d x)/\(gp d.1 (jfI d x).q4.1 (ji9 d x)=true->0<=(x:Int)/\(x:Int)<(jgN d)/\(0:Int)<=(jfI d x).2.2.2.1/\(jfI d x).2.2.2.1<(↑(wN d.1 x).1.length:Int)/\0<=(x:Int)/\(x:Int)<(jgN d)/\(0:Int)<=(jfI d x).q4.1/\(jfI d x).q4.1<=18446744073709551615/\(0:Int)<=(jfI d x).q4.1/\(jfI d x).q4.1<=64/\wm ((1:Int)*2^(jfI d x).q4.1.toNat)/\wm (jjX d x)/\(0:Int)<=(jfI d x).2.2.2.1/\(jfI d x).2.2.2.1<(↑(wN d.1 x).1.length:Int)/\wm ((x:Int)+1)/\∃(a:Nat),((True/\True/\(x:Int)+1=(a:Int)/\True)/\(wN d.1 x).2=(wN d.1 a).2/\(wN d.1 x).1.set (jfI d x).2.2.2.1.toNat (jjX d x)=(wN d.1 a).1/\True)/\a<=(qZ d.1).length/\(qZ d.1).length-a<(qZ d.1).length-x)/\(gp d.1 (jfI d x).q4.1 (ji9 d x)=false->0<=(x:Int)/\(x:Int)<(jgN d)/\((wN d.1 x).2.length+[(jfI d x).1].length)*8<=140737488355328/\wm ((x:Int)+1)/\∃(a:Nat),((True/\(x:Int)+1=(a:Int)/\True/\True)/\(wN d.1 x).2++[(jfI d x).1]=(wN d.1 a).2/\(wN d.1 x).1=(wN d.1 a).1/\True)/\a<=(qZ d.1).length/\(qZ d.1).length-a<(qZ d.1).length-x))/\(decide ((x:Int)<(jgN d))=false->((wN d.1 x).1,(wN d.1 x).2,())=((Je d.1).1,(Je d.1).2,()))
def OS:wQ:=⟨[.val tDy],[.slice .int,.int],false,fun d=>[(wo d.1).length<=1000000],fun d=>(tN d.1,aj d.1,())⟩
def OT:Prop:=∀(d:DyD×Unit),(wo d.1).length<=1000000->(wo d.1).length<=1000000/\(decide (aj d.1≠0)=true->([],aj d.1,())=(tN d.1,aj d.1,()))/\(decide (aj d.1≠0)=false->aj d.1=0/\((Je d.1).1,(0:Int),())=(tN d.1,aj d.1,()))
theorem SX:OO:=by
 rintro⟨l,p,⟨⟩⟩ e i;have e:l.length<=1000:=e;refine⟨⟨0,⟨⟨rfl,tZ,tZ⟩,rfl,tZ⟩,jl _⟩,fun x g _=>⟨fun h=> ?_,fun h=> ?_⟩⟩;have h:(x:Int)<l.length:=ja h;have b:=WB l p x;have f:=QL l p x;have up:x+1<=l.length:=(by omega);have d:l.length-(x+1)<l.length-x:=(by omega);refine⟨by omega,h,i,fun a=>⟨?_,iZ6,x+1,⟨⟨by simp,tZ,tZ⟩,?_,tZ⟩,up,d⟩,fun a=>⟨iZ6,x+1,⟨⟨tZ,by simp,tZ⟩,?_,tZ⟩,up,d⟩⟩;show((oi l p x).length+1)*8<=140737488355328;omega;have a:qd (nth l x) p=true:=a;rw[jg a] at b;exact b.symm;have a:qd (nth l x) p=false:=a;rw[jd (by rw[a];simp),jZ] at b;exact b.symm;have h:¬(x:Int)<l.length:=jc h;have g:x<=l.length:=g;have c:x=l.length:=(by omega);subst c;exact⟨rfl,rfl⟩
theorem OU:gX PR 111 OM:=sA ON SX Tryz.func111 (kcC tb kcN) koN
theorem SY:OT:=by
 rintro⟨d,⟨⟩⟩ a;refine⟨a,fun h=> ?_,fun h=> ?_⟩;have h:aj d≠0:=ja h;show([],aj d,())=(tN d,aj d,());unfold tN;rw[jd h];have h:aj d=0:=jN.1 (jc h);refine⟨h,?_⟩;show((Je d).1,(0:Int),())=(tN d,aj d,());unfold tN;rw[jg h,h]
theorem uQ (l:List ShD) (n:Nat):wL l (n+1)=if qX (nth l (wL l n)) (nth l n)=true then n else wL l n:=by
 unfold wL;rw[zc,jU];rfl
theorem nD (l:List ShD):∀n,n<=l.length->0<l.length->wL l n<l.length
 |0,_,h=>h
 |n+1,a,h=>by
  have b:=nD l n (by omega) h
  rw[uQ]
  split<;>omega
theorem nE (l:List ShD):∀n,n<=l.length->(wg l n).1.length=n/\(wg l n).2.length=l.length-n
 |0,_=>⟨rfl,rfl⟩
 |n+1,d=>by
  obtain⟨a,b⟩:=nE l n (by omega)
  have c:=nD (wg l n).2 _ (jj _) (by omega)
  refine⟨?_,?_⟩
  show((wg l n).1++[_]).length=_
  rw[jI,a];rfl
  show((wg l n).2.take _++(wg l n).2.drop _).length=_
  rw[jI,j6,zD]
  omega
theorem Zk {α:Type} [Inhabited α] {l:List α} {m:Nat} (h:m<l.length):(nth l m::(l.take m++l.drop (m+1))).Perm l:=by
 have e:l=l.take m++nth l m::l.drop (m+1):=by
  conv=>lhs;rw[<-z6 m l]
  rw[z7 h,L.qM h]
 conv=>rhs;rw[e]
 exact List.perm_middle.symm
theorem DD (l:List ShD):∀n,n<=l.length->((wg l n).1++(wg l n).2).Perm l
 |0,_=>List.Perm.refl _
 |n+1,d=>by
  have b:=DD l n (by omega)
  have c:=nE l n (by omega)
  have a:=nD (wg l n).2 _ (jj _) (by omega)
  refine List.Perm.trans ?_ b
  show((wg l n).1++[nth (wg l n).2 (wL (wg l n).2 (wg l n).2.length)]++_).Perm _
  rw[jM]
  exact List.Perm.append_left _ (Zk a)
theorem QO {d:DyD} {n:Nat} (h:n<(qZ d).length):wN d (n+1)=cq d (wN d n) (nth (qZ d) n):=by
 unfold wN;rw[L.wO h,jU];rfl
theorem WE {d:DyD} {s:ShD} (h:s∈qZ d):s∈we (w7 d):=by
 have b:=DD (cO d) (cO d).length (jj _);have a:s∈cO d:=b.mem_iff.1 (jh _ h);unfold cO ww at a;obtain⟨i,hi,rfl⟩:=jV.1 a;exact L.wh (jD.1 (jP.1 hi).1)
theorem In {l:List ShD} {s:ShD} (h:s∈we l):s∈l:=by
 unfold we vN at h;obtain⟨m,_,h⟩:=List.mem_flatMap.1 h;unfold cK at h;obtain⟨i,hi,rfl⟩:=jV.1 h;exact L.wh (jD.1 (jP.1 hi).1)
theorem WG {d:DyD} (k:qv d=true) (j:wt (wq d)=true):∀n,n<=(qZ d).length->(wN d n).1.length=(wo d).length/\(wN d n).2.length<=n/\∀b,b<(wo d).length->0<=nth (wN d n).1 b/\nth (wN d n).1 b<=128*(n:Int)
 |0,_=>by
  refine⟨zu,jl _,fun b a=> ?_⟩
  have:nth (wN d 0).1 b=0:=L.Bv a
  rw[this];exact⟨zN 0,zN 0⟩
 |n+1,s=>by
  obtain⟨g,q,h⟩:=WG k j n (by omega)
  have p:=nB k (In (WE (L.wh (l:=qZ d) (i:=n) (by omega))))
  have r:(wi (wq d)).length<=8:=(w4 j).2.2.1
  have o:(2:Int)^(ao (nth (qZ d) n)).toNat<=128:=by
   rw[BT.Bs];have:(2:Nat)^(ao (nth (qZ d) n)).toNat<=2^7:=Nat.pow_le_pow_right (by decide) (by omega);omega
  have m:(0:Int)<(2:Int)^(ao (nth (qZ d) n)).toNat:=by
   rw[BT.Bs];have:=Nat.two_pow_pos (ao (nth (qZ d) n)).toNat;omega
  have f:(lL (nth (qZ d) n)).toNat<(wN d n).1.length:=by
   have:=p.2;unfold aq at this;omega
  rw[QO (by omega)];unfold cq
  split
  refine⟨by show((wN d n).1.set _ _).length=_;rw[kg,g],by show(wN d n).2.length<=_;omega,fun b a=> ?_⟩;show 0<=nth ((wN d n).1.set _ _) b/\nth ((wN d n).1.set _ _) b<=_;rw[L.bj f];have c:=h b a
  split
  rename_i e;rw[e];omega;omega;refine⟨g,by show((wN d n).2++[_]).length<=_;rw[jI];simp;omega,fun b a=> ?_⟩;have c:=h b a;show 0<=nth (wN d n).1 b/\nth (wN d n).1 b<=_;omega
theorem GM {d:DyD} (h:aj d=0):FN d:=(gI ((fx d).trans h)).1
theorem jdB {t:List Int} {p b:Int} (h:b∈U.on t p):0<=b/\b<(t.length:Int):=by
 unfold U.on oi at h;obtain⟨i,hi,rfl⟩:=jV.1 h;have:=jD.1 (jP.1 hi).1;omega
theorem jbY (d:DyD):(qZ d).length<=(w7 d).length*100:=by
 have a:=(nE (cO d) (cO d).length (jj _)).1;have b:(cO d).length<=(we (w7 d)).length:=by
  unfold cO ww;rw[zf];exact jE (zy _ _) (by simp)
 have c:(we (w7 d)).length<=(w7 d).length*100:=nC _ 100;show(wg (cO d) (cO d).length).1.length<=_;omega
theorem jdC (t:List Int) (p:Int):(U.on t p).length<=t.length:=QL t p t.length
theorem QP (d:DyD):wN d 0=(List.replicate ((wo d).length:Int).toNat 0,[]):=rfl
attribute [local irreducible] qZ wN gp U.on
theorem SZ:OR:=by
 unfold OR jhV jjX ji9 jgN jfI Prod.q4;rintro⟨d,⟨⟩⟩ m _;have m:aj d=0:=m;have a:=GM m;have y:(wo d).length<=4:=(yd a.2.2).1;have w:(w7 d).length<=30:=(yd a.2.2).2.2.2.2.1;have E:(wi (wq d)).length<=8:=(w4 a.1).2.2.1;refine⟨jX _,rfl,by show((wo d).length:Int).toNat*8<=140737488355328;omega,by show(w7 d).length<=1000;omega,⟨0,⟨⟨rfl,tZ,tZ,tZ⟩,(jF (·.1) (QP d)).symm,jF (·.2) (QP d),tZ⟩,jl _⟩,fun x v z=>⟨fun h=> ?_,fun h=> ?_⟩⟩;have h:(x:Int)<(qZ d).length:=ja h;have B:=jbY d;have z:(qZ d).length<=3000:=(by omega);obtain⟨C,G,D⟩:=WG a.2.2 a.1 x (by omega);have g:=nB a.2.2 (In (WE (L.wh (l:=qZ d) (i:=x) (by omega))));have o:=g.2;unfold aq at o;have F:=D (lL (nth (qZ d) x)).toNat (by omega);have j:=QO (d:=d) (n:=x) (by omega);have H:=jdC (wN d x).1 (ao (nth (qZ d) x));have u:BT.qh ((2:Int)^(ao (nth (qZ d) x)).toNat):=BT.iS (by omega);unfold BT.qh at u;have up:x+1<=(qZ d).length:=(by omega);have t:(qZ d).length-(x+1)<(qZ d).length-x:=(by omega);have x0:(0:Int)<=(x:Int):=jX x;have q:0<=ao (nth (qZ d) x):=g.1.1;have r:ao (nth (qZ d) x)<=63:=(by omega);have s:ao (nth (qZ d) x)<=64:=(by omega);have k:ao (nth (qZ d) x)<=18446744073709551615:=(by omega);have bl:lL (nth (qZ d) x)<((wN d x).1.length:Int):=(by omega);have i64:wm ((x:Int)+1):=iZ6;refine⟨x0,h,x0,h,by show(wN d x).1.length<=1000;omega,⟨q,r⟩,x0,h,by show((U.on (wN d x).1 (ao (nth (qZ d) x))).length+1)*8<=140737488355328;omega,a,g.1,⟨?_,fun b f=> ?_⟩,fun c=> ?_,fun c=> ?_⟩;show(U.on (wN d x).1 (ao (nth (qZ d) x))++[lL (nth (qZ d) x)]).length<=12;rw[jI];simp;omega;rcases jr.1 f with f|f;have:=jdB f;exact⟨this.1,by show b<((wo d).length:Int);rw[<-C];exact this.2⟩;simp at f;subst f;exact g.2;have c:gp d (ao (nth (qZ d) x)) (U.on (wN d x).1 (ao (nth (qZ d) x))++[lL (nth (qZ d) x)])=true:=c;have e:wN d (x+1)=((wN d x).1.set (lL (nth (qZ d) x)).toNat (nth (wN d x).1 (lL (nth (qZ d) x)).toNat+2^(ao (nth (qZ d) x)).toNat),(wN d x).2):=by
  rw[j];unfold cq;rw[jg c]
 have A:(2:Int)^(ao (nth (qZ d) x)).toNat<4611686018427387904:=u.2;refine⟨x0,h,g.2.1,bl,x0,h,q,k,q,s,?_,?_,g.2.1,bl,i64,x+1,⟨⟨tZ,tZ,by simp,tZ⟩,?_,?_,tZ⟩,up,t⟩;show wm (1*2^(ao (nth (qZ d) x)).toNat);rw[mK];exact iZ6;show wm (nth (wN d x).1 (lL (nth (qZ d) x)).toNat+1*2^(ao (nth (qZ d) x)).toNat);rw[mK];exact iZ6;show(wN d x).2=(wN d (x+1)).2;rw[e];show(wN d x).1.set (lL (nth (qZ d) x)).toNat (nth (wN d x).1 (lL (nth (qZ d) x)).toNat+1*2^(ao (nth (qZ d) x)).toNat)=(wN d (x+1)).1;rw[mK,e];have c:gp d (ao (nth (qZ d) x)) (U.on (wN d x).1 (ao (nth (qZ d) x))++[lL (nth (qZ d) x)])=false:=c;have e:wN d (x+1)=((wN d x).1,(wN d x).2++[gx (nth (qZ d) x)]):=by
  rw[j];unfold cq;rw[c,jd (by simp)]
 refine⟨x0,h,by show((wN d x).2.length+1)*8<=140737488355328;omega,i64,x+1,⟨⟨tZ,by simp,tZ,tZ⟩,?_,?_,tZ⟩,up,t⟩;show(wN d x).2++[gx (nth (qZ d) x)]=(wN d (x+1)).2;rw[e];show(wN d x).1=(wN d (x+1)).1;rw[e];have h:¬(x:Int)<(qZ d).length:=jc h;have v:x<=(qZ d).length:=v;have p:x=(qZ d).length:=(by omega);subst p;rfl
end Go.X
namespace Go.X
open U
theorem nF (c:CrD) (j:JbD) (i:Nat):(yx (c,j,db c j,()) (nth (wi c) i)=0)↔qD c j (i:Int)=true:=by
 show Ua (cL (nth (wi c) i) (X6 j)) (!qd (U.fd (nth (wi c) i)) (PH j)) (!qd (U.cl (nth (wi c) i)) (bU j))=0↔
  (!(cL (nth (wi c) ((i:Int)).toNat) (X6 j))&&qd (U.fd (nth (wi c) ((i:Int)).toNat)) (PH j)&&qd (U.cl (nth (wi c) ((i:Int)).toNat)) (bU j))=true
 rw[jw];generalize cL (nth (wi c) i) (X6 j)=x;generalize qd (U.fd (nth (wi c) i)) (PH j)=y;generalize qd (U.cl (nth (wi c) i)) (bU j)=z;cases x<;>cases y<;>cases z<;>decide
theorem jbZ {c:CrD} {j:JbD} (b:wt c=true) (d:qb c j=true) (p:Nat):(p:Int)∈dG c j↔p<(wi c).length/\qD c j (p:Int)=true:=by
 have a:vE c j=0:=(by unfold vE;rw[b,d];rfl);unfold dG cN;rw[jg a,jV];refine⟨fun⟨i,hi,e⟩=> ?_,fun h=>⟨p,?_,rfl⟩⟩;have e:i=p:=(by omega);subst e;have:=jP.1 hi;exact⟨jD.1 this.1,(nF c j i).1 (ja this.2)⟩;exact jP.2 ⟨jD.2 h.1,jG ((nF c j p).2 h.2)⟩
theorem WH {l:List Int} (h:∀p∈l,0<=p/\p<8):∀n,n<=l.length->∀q,BT.has (li l n) q=(l.take n).any (fun p=>decide (p.toNat=q))
 |0,_,q=>BT.tR q
 |n+1,c,q=>by
  have b:=WH h n (by omega) q
  have a:=pY h n (by omega)
  have d:=h _ (L.wh (l:=l) (i:=n) (by omega))
  rw[uO (by omega),mK,BT.has_bor a.1 (BT.iS (by omega)),b,BT.Bt,L.wO (by omega),kU]
  simp
theorem WI {l:List Int} (h:∀p∈l,0<=p/\p<8) (q:Nat):BT.has (Rg l) q=l.any (fun p=>decide (p.toNat=q)):=by
 have:=WH h l.length (jj _) q;rw[zH] at this;exact this
theorem Zl {d:DyD} {b:Nat} (a:b<(wo d).length):nth (yz d (wo d).length) b=Rg (dG (wq d) (yS (nth (wo d) b))):=by
 unfold yz;rw[zH,L.nth_map a]
theorem WJ {d:DyD} (a:FN d) {b:Nat} (c:b<(wo d).length):qb (wq d) (yS (nth (wo d) b))=true:=
 jT.1 a.2.1 _ (L.wh c)
theorem jb0 {d:DyD} (g:FN d) {b p:Int} (m:aq d b) (n:My d p):decide (fO (nth (yz d (wo d).length) b.toNat/2^p.toNat) 1=0)= !qD (wq d) (yS (U.bk d b)) p:=by
 unfold aq at m;unfold My at n;have a:b.toNat<(wo d).length:=(by omega);have j:=fun q (c:q∈dG (wq d) (yS (nth (wo d) b.toNat)))=>Wo g.1 c
 have o:BT.qh (Rg (dG (wq d) (yS (nth (wo d) b.toNat)))):=(pY j _ (jj _)).1;have i:U.bk d b=nth (wo d) b.toNat:=rfl;rw[Zl a,BT.bit_num o,i];have k:=WI j p.toNat;have f:=jbZ g.1 (WJ g a) p.toNat;have ep:((p.toNat:Nat):Int)=p:=(by omega);rw[ep] at f;have l:BT.has (Rg (dG (wq d) (yS (nth (wo d) b.toNat)))) p.toNat=qD (wq d) (yS (nth (wo d) b.toNat)) p:=by
  rw[k];cases h:qD (wq d) (yS (nth (wo d) b.toNat)) p with
  |true=>exact za.2 ⟨p,f.2 ⟨by omega,h⟩,by simp⟩
  |false=>
   refine zi.2 fun q c e=> ?_
   have e:q.toNat=p.toNat:=ja e;have:=j q c;have e:q=p:=(by omega);rw[e] at c;rw[(f.1 c).2] at h;cases h
 rw[l];cases qD (wq d) (yS (nth (wo d) b.toNat)) p<;>rfl
theorem Lk {α:Type} [Inhabited α] {R:α->α->Prop} {l:List α}:(∀i,i<l.length->∀b∈l.take i,R b (nth l i))↔l.Pairwise R:=by
 rw[zI];refine⟨fun h i j hi a d=> ?_,fun h i hi b c=> ?_⟩;have:=h j a l[i] (zb.2 ⟨i,by omega,rfl⟩);rw[L.qM a] at this;exact this;obtain⟨k,hk,rfl⟩:=zb.1 c;rw[L.qM hi];exact h k i (by omega) hi (by omega)
theorem WK {α:Type} [Inhabited α] {R:α->α->Prop} {l:List α}:(∀i,i<l.length->∀b∈l.drop (i+1),R (nth l i) b)↔l.Pairwise R:=by
 rw[zI];refine⟨fun h i j hi d c=> ?_,fun h i hi b a=> ?_⟩;have:=h i hi l[j] (List.mem_drop_iff_getElem.2 ⟨j-(i+1),by omega,by congr 1;omega⟩);rw[L.qM hi] at this;exact this;obtain⟨k,hk,rfl⟩:=List.mem_drop_iff_getElem.1 a;rw[L.qM hi];exact h i (i+1+k) hi (by omega) (by omega)
theorem mN (d:DyD) (a b:Int):ak d a b=true↔(w8 (U.bk d a)<w8 (U.bk d b)\/(w8 (U.bk d a)=w8 (U.bk d b)/\a<b)):=decide_eq_true_iff
theorem mO (d:DyD) (a b:Int):ak d a b=false↔¬(w8 (U.bk d a)<w8 (U.bk d b)\/(w8 (U.bk d a)=w8 (U.bk d b)/\a<b)):=jH
theorem WL (d:DyD) (l:List Int):yc (ak d) l where
 irrefl x _:=(mO d x x).2 (by omega)
 trans x y z _ _ _ a b:=by
  have a:=(mN d x y).1 a;have b:=(mN d y z).1 b;exact(mN d x z).2 (by omega)
 total x y _ _ a b:=by
  have a:=(mO d x y).1 a;have b:=(mO d y x).1 b;omega
theorem DE {d:DyD} {a b:Int} (h:a≠b) (c:ak d b a=false):ak d a b=true:=by
 have c:=(mO d b a).1 c;exact(mN d a b).2 (by omega)
theorem S0 {d:DyD} {a b:Int} (c:ak d a b=true):ak d b a=false:=by
 have c:=(mN d a b).1 c;exact(mO d b a).2 (by omega)
theorem td {d:DyD} {a b:Int} (h:ak d a b=true):(w5 d b a=decide (0<=bG d a b))/\(w5 d a b=decide (0<=bG d a b)):=by
 unfold w5;rw[jg h,S0 h,jd (by simp)];exact⟨rfl,rfl⟩
theorem Zm {d:DyD} {a b:Int} (h:a≠b):w5 d a b=w5 d b a:=by
 cases c:ak d b a with
 |false=>have:=td (DE h c);rw[this.1,this.2]
 |true=>have:=td c;rw[this.1,this.2]
def TgR (d:DyD) (a b:Int):Prop:=a≠b->w5 d b a=true
theorem WM {d:DyD} {l:List Int} (f:l.Nodup):jaL d l=true↔l.Pairwise (TgR d):=by
 rw[<-Lk];unfold jaL;rw[jT];have e:∀i,i<l.length->∀b∈l.take i,b≠nth l i:=(Lk (R:=fun a b=>a≠b)).2 f;refine⟨fun h i hi b c _=> ?_,fun h i hi=>jT.2 fun b c=> ?_⟩;exact jT.1 (h i (jD.2 hi)) b c;exact h i (jD.1 hi) b c (e i (jD.1 hi) b c)
theorem TgR.symm {d:DyD} {a b:Int} (h:TgR d a b):TgR d b a:=fun e=>(Zm (Ne.symm e)).trans (h (Ne.symm e))
theorem WN {d:DyD} {l l':List Int} (h:l.Perm l'):I5 d l=I5 d l':=by
 unfold I5;exact List.Perm.foldl_eq' (h.map _) (fun x _ y _ z=>by omega) 0
theorem Io (d:DyD) (p:Int) {l:List Int} (a:l.Nodup):gp d p l=true↔(∀b∈l,qD (wq d) (yS (U.bk d b)) p=true)/\l.Pairwise (TgR d)/\I5 d l<=Z5 d:=by
 unfold gp;rw[ji,ji,jT,WM a,decide_eq_true_iff]
theorem GN (d:DyD) (p:Int) {l l':List Int} (h:l.Perm l') (g:l.Nodup):gp d p l=gp d p l':=by
 have f:=h.nodup_iff.1 g;refine j0.2 ?_;rw[Io d p g,Io d p f,WN h,h.pairwise_iff (fun h=>TgR.symm h)];exact⟨fun⟨a,c⟩=>⟨fun b e=>a b (h.mem_iff.2 e),c⟩,fun⟨a,c⟩=>⟨fun b e=>a b (h.mem_iff.1 e),c⟩⟩
theorem Zn (d:DyD) (may:List Int) (p:Int) (s:List Int):jcF d may p s=true↔(∀b∈s,decide (fO (nth may b.toNat/2^p.toNat) 1=0)=false)/\s.Pairwise (fun a b=>0<=bG d a b)/\I5 d s<=Z5 d:=by
 rw[<-WK];unfold jcF;rw[ji,decide_eq_true_iff,jT,<-and_assoc];refine and_congr_left fun _=> ?_
 have e:∀i,I7 d may p s i=true↔decide (fO (nth may (nth s i).toNat/2^p.toNat) 1=0)=false/\∀b∈s.drop (i+1),0<=bG d (nth s i) b:=by
  intro i;unfold I7;rw[jS,jR,zi];refine and_congr_right fun _=>⟨fun h b c=> ?_,fun h b c=> ?_⟩
  have:=h b c;simp at this;omega;have:=h b c;simp;omega
 refine⟨fun h=>⟨fun b c=> ?_,fun i hi=>((e i).1 (h i (jD.2 hi))).2⟩,fun h i hi=>(e i).2 ⟨h.1 _ (L.wh (jD.1 hi)),h.2 i (jD.1 hi)⟩⟩;obtain⟨i,hi,rfl⟩:=L.mem_iff.1 c;exact((e i).1 (h i (jD.2 hi))).1
theorem jb1 {d:DyD} {may:List Int} {p:Int} {l:List Int} (m:l.Nodup) (j:∀b∈l,decide (fO (nth may b.toNat/2^p.toNat) 1=0)= !qD (wq d) (yS (U.bk d b)) p):PJ d may p l=gp d p l:=by
 have f:(wx d l).Perm l:=qc l;have c:(wx d l).Nodup:=f.nodup_iff.2 m;have k:(wx d l).Pairwise (fun a b=>ak d b a=false):=cn (WL d l);rw[<-GN d p f c];unfold PJ;refine j0.2 ?_;rw[Zn,Io d p c];have i:=List.Pairwise.and k c;refine and_congr ⟨fun h b e=> ?_,fun h b e=> ?_⟩ (and_congr_left fun _=>⟨fun h=> ?_,fun h=> ?_⟩);have g:=h b e;rw[j b (f.mem_iff.1 e)] at g;simpa using g;rw[j b (f.mem_iff.1 e),h b e];rfl;refine(List.Pairwise.and i h).imp fun{a b} x _=> ?_
 rw[(td (DE x.1.2 x.1.1)).1];exact jG x.2;refine(List.Pairwise.and i h).imp fun{a b} x=> ?_
 have:=x.2 x.1.2;rw[(td (DE x.1.2 x.1.1)).1] at this;exact ja this
theorem mP (a b:ShD):qX a b=true↔(Ez b<Ez a\/(Ez a=Ez b/\gx b<gx a)):=decide_eq_true_iff
theorem tg (a b:ShD):qX a b=false↔¬(Ez b<Ez a\/(Ez a=Ez b/\gx b<gx a)):=jH
theorem dE (a:ShD):qX a a=false:=(tg a a).2 (by omega)
theorem GO {a b:ShD} (h:qX a b=true):qX b a=false:=by
 have h:=(mP a b).1 h;exact(tg b a).2 (by omega)
theorem DF {a b c:ShD} (d:qX a b=true) (e:qX b c=true):qX a c=true:=by
 have d:=(mP a b).1 d;have e:=(mP b c).1 e;exact(mP a c).2 (by omega)
theorem Zo (a b:ShD):wz a b<0↔qX b a=true:=by
 rw[mP];unfold wz;rw[qm,vL]
 split
 rename_i h;have c:¬Ez a=Ez b:=fun e=>h (bh.2 e)
 rw[V5];omega;rename_i h;have d:Ez a=Ez b:=bh.1 (jN.1 h);rw[V5];omega
theorem jb2 {l:List ShD} (hi:∀a∈l,∀b∈l,gx a=gx b->a=b):yc jcE l where
 irrefl x _:=dE x
 trans x y z _ _ _ c d:=DF d c
 total x y hx hy c d:=by
  have c:=(tg y x).1 c;have d:=(tg x y).1 d;exact hi x hx y hy (by omega)
theorem WO {l:List ShD}:∀i,i<l.length->∃j,j<l.length/\nth l j=nth l i/\mV l j=true:=by
 intro i
 induction i using Nat.strongRecOn with
 |_ i d=>
  intro hi;cases h:mV l i with
  |true=>exact⟨i,hi,rfl,h⟩
  |false=>
   simp only[mV,zl] at h;obtain⟨x,c,e⟩:=za.1 h;obtain⟨k,hk,rfl⟩:=zb.1 c;have e:l[k]=nth l i:=ja e;obtain⟨j,b,a,e2⟩:=d k (by omega) (by omega);exact⟨j,b,by rw[a,L.qM (by omega)];exact e,e2⟩
theorem jb3 {l:List ShD} {s:ShD} (h:s∈l) (c:0<=gx s) (d:gx s<=99):s∈we l:=by
 obtain⟨i,hi,rfl⟩:=L.mem_iff.1 h;obtain⟨j,b,a,e2⟩:=WO i hi;unfold we vN;refine List.mem_flatMap.2 ⟨(gx (nth l i)).toNat,jD.2 (by omega),?_⟩;unfold cK;refine jV.2 ⟨j,jP.2 ⟨jD.2 b,?_⟩,a⟩;show(decide (gx (nth l j)=(((gx (nth l i)).toNat:Nat):Int))&&mV l j)=true;rw[e2,a,Bool.and_true];exact jG (by omega)
theorem QQ {l:List ShD} {n m:Nat} {s:ShD} (h:s∈cK l n m):gx s=(m:Int):=by
 unfold cK at h;obtain⟨i,hi,rfl⟩:=jV.1 h;have a:=(jP.1 hi).2;rw[ji] at a;exact ja a.1
theorem S1 (l:List ShD):(we l).Nodup:=by
 unfold we vN;refine List.pairwise_flatMap.2 ⟨fun m _=> ?_,?_⟩;unfold cK;refine zT.2 (List.Pairwise.imp_of_mem ?_ (List.Pairwise.filter _ kI));intro i j hi c k e;have c:=jP.1 c;have d:=c.2;rw[ji] at d;have f:=d.2;have n:=jD.1 c.1;have o:((l.take j).any (fun x=>decide (x=nth l j)))=true:=
  za.2 ⟨nth l i,zb.2 ⟨i,by omega,(L.qM (by omega)).symm⟩,jG e⟩
 unfold mV at f;rw[o] at f;cases f;refine List.Pairwise.imp ?_ kI;intro a b h x p y q e;have g:=QQ p;have d:=QQ q;rw[e] at g;omega
theorem QR (t s:ShD):fH t=fH s↔lL t=lL s/\ao t=ao s:=by
 unfold fH;refine⟨fun h=>⟨jF (·.1) h,jF (·.2.1) h⟩,fun h=>by rw[h.1,h.2]⟩
theorem OV (l:List ShD) (s:ShD):Bq l s=true↔XS s=1/\∀t∈l,fH t=fH s->qX t s=false:=by
 unfold Bq;rw[ji,decide_eq_true_iff,jS,zi];refine and_congr_right fun _=>⟨fun h t a e=> ?_,fun h t a e=> ?_⟩
 have e:=(QR t s).1 e;have:=h t a;rw[e.1,e.2,jG rfl,jG rfl] at this;simpa using this;rw[ji,ji,decide_eq_true_iff,decide_eq_true_iff] at e;rw[h t a ((QR t s).2 e.1)] at e;exact absurd e.2 (by simp)
theorem WP (d:DyD):cO d=(we (w7 d)).filter (Bq (we (w7 d))):=by
 unfold cO;generalize we (w7 d)=l;unfold ww;have e:(fun i=>yg l i l.length)=(Bq l)∘(nth l):=by
  funext i;unfold yg;rw[zH];rfl
 rw[e];have:=List.filter_map (f:=nth l) (p:=Bq l) (l:=List.range l.length);rw[<-this,L.range_map_nth]
theorem Ll (l:List ShD):∀n,∀i,i<n->qX (nth l (wL l n)) (nth l i)=false
 |0,i,h=>absurd h (by omega)
 |n+1,i,h=>by
  have b:=Ll l n
  rw[uQ]
  split
  rename_i a
  rcases Nat.lt_succ_iff_lt_or_eq.1 h with h|h
  cases c:qX (nth l n) (nth l i) with
  |false=>rfl
  |true=>have:=DF a c;rw[b i h] at this;cases this
  subst h;exact dE _
  rename_i a
  rcases Nat.lt_succ_iff_lt_or_eq.1 h with h|h
  exact b i h
  subst h;simpa using a
theorem WQ (l:List ShD):∀n,n<=l.length->(wg l n).1.Pairwise (fun a b=>qX a b=false)/\∀a∈(wg l n).1,∀b∈(wg l n).2,qX a b=false
 |0,_=>⟨List.Pairwise.nil,fun a d=>by cases d⟩
 |n+1,m=>by
  obtain⟨j,g⟩:=WQ l n (by omega)
  have k:=nE l n (by omega)
  have h:=nD (wg l n).2 _ (jj _) (by omega)
  have e:=Ll (wg l n).2 (wg l n).2.length
  have f:∀b∈(wg l n).2.take (wL (wg l n).2 (wg l n).2.length)++(wg l n).2.drop (wL (wg l n).2 (wg l n).2.length+1),b∈(wg l n).2:=by
   intro b c;rcases jr.1 c with c|c;exact kc c;exact z8 c
  refine⟨List.pairwise_append.2 ⟨j,List.pairwise_singleton _ _,fun a d b c=> ?_⟩,fun a d b c=> ?_⟩;simp at c;subst c;exact g a d _ (L.wh h);have c:=f b c;have d:a∈(wg l n).1++[nth (wg l n).2 (wL (wg l n).2 (wg l n).2.length)]:=d;rcases jr.1 d with d|d;exact g a d b c;simp at d;subst d;obtain⟨i,hi,rfl⟩:=L.mem_iff.1 c;exact e i hi
theorem jb4 (d:DyD):RY jcE (qZ d):=(WQ (cO d) _ (jj _)).1
theorem QS (d:DyD):(qZ d).Perm (cO d):=by
 have a:=DD (cO d) (cO d).length (jj _);have b:=(nE (cO d) (cO d).length (jj _)).2;have:(wg (cO d) (cO d).length).2=[]:=List.length_eq_zero_iff.1 (by omega);rw[this,jZ] at a;exact a
theorem QT {l:List ShD} (i:l.Pairwise (fun a b=>qX b a=true)):∀n,n<=l.length->∀s∈l.take n,(wM (Ty.dflt tSh) (wA tSt (fH s) (vb l n))=s↔∀t∈l.take n,fH t=fH s->qX t s=false)
 |0,_,s,c=>by simp at c
 |n+1,k,s,c=>by
  have j:=QT i n (by omega)
  have g:(l.take (n+1)).Pairwise (fun a b=>qX b a=true):=i.sublist (List.take_sublist _ _)
  rw[L.wO (by omega)] at g c
  have f:∀t∈l.take n,qX (nth l n) t=true:=fun t d=>(List.pairwise_append.1 g).2.2 t d _ (by simp)
  rw[Dv (by omega),L.wO (by omega)]
  by_cases hk:fH s=fH (nth l n)
  rw[hk,M.rm]
  show nth l n=s↔_
  rcases jr.1 c with c|c
  refine⟨fun e=> ?_,fun h=> ?_⟩
  have:=f s c
  rw[e,dE] at this;cases this
  have:=h (nth l n) (by simp) rfl
  rw[f s c] at this;cases this
  simp at c;subst c
  refine⟨fun _ t d _=> ?_,fun _=>rfl⟩
  rcases jr.1 d with d|d
  exact GO (f t d)
  simp at d;subst d;exact dE _
  rw[M.dZ hk]
  have c:s∈l.take n:=by
   rcases jr.1 c with c|c;exact c;simp at c;subst c;exact absurd rfl hk
  rw[j s c];refine⟨fun h t d e=> ?_,fun h t d=>h t (jh _ d)⟩;rcases jr.1 d with d|d;exact h t d e;simp at d;subst d;exact absurd e.symm hk
theorem WR {d:DyD} (h:qe d=0):(vp d).Pairwise (fun a b=>qX b a=true):=by
 have f:=je5 h;have g:RY (wd tSh fun x=>(wz x.1 x.2.1,())) (vp d):=cn f;have e:∀s∈vp d,s∈qo (w7 d):=fun s i=>(qc _).mem_iff.1 i
 refine List.Pairwise.imp_of_mem ?_ (List.Pairwise.and g (fy d));intro a b j k ⟨h1,h2⟩;cases c:wd tSh (fun x=>(wz x.1 x.2.1,())) a b with
 |false=>exact absurd (f.total a b (e a j) (e b k) c h1) h2
 |true=>
  have c:wz a b<0:=ja c;exact(Zo a b).1 c
theorem Lm {d:DyD} (h:qe d=0) {s:ShD} (a:s∈vp d):yy (vb (vp d) (vp d).length) s=true↔XS s=1/\∀t∈vp d,fH t=fH s->qX t s=false:=by
 have:=QT (WR h) (vp d).length (jj _) s (by rw[zH];exact a);rw[zH] at this;rw[<-this];unfold yy;rw[jS,jR,zl,zl,decide_eq_true_iff,decide_eq_true_iff];exact and_comm
theorem WS {d:DyD} (h:qv d=true) {s:ShD} (a:s∈w7 d):0<=gx s/\gx s<=99:=by
 have:=(yd h).2.2.2.2.2.2.2 _ a;unfold mU at this;have:=ja this;omega
def X5 (d:DyD):ShD->Bool:=yy (vb (vp d) (vp d).length)
theorem jdD {d:DyD} (h:qe d=0):(vp d).filter (X5 d)=qZ d:=by
 have j:=gI h;have f:∀s,s∈we (w7 d)↔s∈vp d:=fun s=>⟨fun c=>iL.2 (In c),fun c=>by
  have c:=iL.1 c;have:=WS j.1.2.2 c;exact jb3 c this.1 this.2⟩
 have g:∀s,s∈(vp d).filter (X5 d)↔s∈qZ d:=by
  intro s;rw[(QS d).mem_iff,WP,jP,jP,f s];refine and_congr_right fun c=> ?_
  rw[OV];have:=Lm h c;refine this.trans (and_congr_right fun _=>⟨fun h t i=>h t ((f t).1 i),fun h t i=>h t ((f t).2 i)⟩)
 have n:((vp d).filter (X5 d)).Nodup:=List.Pairwise.filter _ (fy d);have o:(qZ d).Nodup:=(QS d).nodup_iff.2 (by rw[WP];exact List.Pairwise.filter _ (S1 _));have m:=L.oM n o g;refine po (jb2 ?_) m ?_ (jb4 d);intro a k b l e;exact j.2 a (iL.1 (jP.1 k).1) b (iL.1 (jP.1 l).1) e;exact(List.Pairwise.filter _ (WR h)).imp fun x=>GO x
structure Fi (d:DyD) (x:List (List Int)×List Int) (y:List Int×List Int):Prop where
 ref:x.2=y.2
 len:y.1.length=(wo d).length
 set:∀b,b<(wo d).length->BT.qh (nth y.1 b)
 bit:∀b,b<(wo d).length->∀p,BT.has (nth y.1 b) p=true↔p<(wi (wq d)).length/\(b:Int)∈nth x.1 p
theorem Bm {t:Int} (h:BT.qh t) (p:Int):qd t p=BT.has t p.toNat:=BT.has_shr h p.toNat
theorem jdE {d:DyD} {x:List (List Int)×List Int} {y:List Int×List Int} (h:Fi d x y) {p:Int} (j:My d p) (g:∀b∈nth x.1 p.toNat,aq d b) (n:Int):n∈U.on y.1 p↔n∈nth x.1 p.toNat:=by
 unfold My at j;unfold U.on oi;rw[jV];refine⟨fun⟨i,hi,e⟩=> ?_,fun f=> ?_⟩;subst e;have hi:=jP.1 hi;have a:=jD.1 hi.1;rw[h.len] at a;have c:qd (nth y.1 i) p=true:=hi.2;rw[Bm (h.set i a)] at c;exact((h.bit i a p.toNat).1 c).2;have hk:=g n f;unfold aq at hk;have en:((n.toNat:Nat):Int)=n:=(by omega);refine⟨n.toNat,jP.2 ⟨jD.2 (by rw[h.len];omega),?_⟩,en⟩;show qd (nth y.1 n.toNat) p=true;rw[Bm (h.set _ (by omega))];exact(h.bit _ (by omega) _).2 ⟨by omega,by rw[en];exact f⟩
theorem Zp (t:List Int) (p:Int):(U.on t p).Nodup:=by
 unfold U.on oi;refine zT.2 ((List.Pairwise.filter _ kI).imp ?_);intro a b c e;omega
theorem jb5 {d:DyD} {x:List (List Int)×List Int} {y:List Int×List Int} (h:Fi d x y) {p:Int} (e:My d p) (c:(nth x.1 p.toNat).Nodup) (a:∀b∈nth x.1 p.toNat,aq d b):(nth x.1 p.toNat).Perm (U.on y.1 p):=
 L.oM c (Zp _ _) (fun n=>(jdE h e a n).symm)
theorem jdF {d:DyD} (i:FN d) {x:List (List Int)×List Int} {y:List Int×List Int} (h:Fi d x y) {p b:Int} (g:My d p) (e:(nth x.1 p.toNat++[b]).Nodup) (f:∀c∈nth x.1 p.toNat++[b],aq d c):
 PJ d (yz d (wo d).length) p (nth x.1 p.toNat++[b])=gp d p (U.on y.1 p++[b]):=by
 rw[jb1 e (fun c a=>jb0 i (f c a) g)];exact GN d p ((jb5 h g (zF.1 e).1 (fun c a=>f c (jh _ a))).append_right [b]) e
theorem jdG {d:DyD} {x:List (List Int)×List Int} {y:List Int×List Int} (h:Fi d x y) (v:x.1.length=(wi (wq d)).length) (u:(wi (wq d)).length<=8) {p b:Int} (t:My d p) (s:aq d b) (i:b∉nth x.1 p.toNat):
 Fi d (x.1.set p.toNat (nth x.1 p.toNat++[b]),x.2) (y.1.set b.toNat (nth y.1 b.toNat+2^p.toNat),y.2):=by
 unfold My at t;unfold aq at s;have r:((b.toNat:Nat):Int)=b:=(by omega);have g:b.toNat<y.1.length:=(by rw[h.len];omega);have n:p.toNat<x.1.length:=(by omega);have o:=h.set b.toNat (by omega);have m:BT.has (nth y.1 b.toNat) p.toNat=false:=by
  cases j:BT.has (nth y.1 b.toNat) p.toNat with
  |false=>rfl
  |true=>exact absurd (by have:=((h.bit _ (by omega) _).1 j).2;rw[r] at this;exact this) i
 have a:=BT.add_two o (p:=p.toNat) (by omega) m;have j:=BT.iS (k:=p.toNat) (by omega);refine⟨h.ref,by show(y.1.set _ _).length=_;rw[kg];exact h.len,fun c l=> ?_,fun c l q=> ?_⟩;show BT.qh (nth (y.1.set b.toNat (nth y.1 b.toNat+2^p.toNat)) c);rw[L.bj g]
 split
 rw[a];exact BT.bor_set o j;exact h.set c l;show BT.has (nth (y.1.set b.toNat (nth y.1 b.toNat+2^p.toNat)) c) q=true↔_/\(c:Int)∈nth (x.1.set p.toNat (nth x.1 p.toNat++[b])) q;rw[L.bj g,L.bj n];by_cases f:b.toNat=c;rw[jg f,a,BT.has_bor o j,BT.Bt,zq,decide_eq_true_iff,h.bit _ (by omega),<-f,r];by_cases e:p.toNat=q;rw[jg e];refine⟨fun _=>⟨by omega,by simp⟩,fun _=> .inr e⟩;rw[jd e];exact⟨fun h=>h.elim id (fun h=>absurd h e),.inl⟩;rw[jd f,h.bit c l];by_cases e:p.toNat=q;rw[jg e,jr,<-e];refine and_congr_right fun _=>⟨.inl,fun h=>h.elim id (fun h=> ?_)⟩
 simp at h;omega;rw[jd e]
theorem Zq (d:DyD):Fi d (yC (Mz d) (vp d) 0) (List.replicate (wo d).length 0,[]):=by
 have c:∀b,b<(wo d).length->nth (List.replicate (wo d).length (0:Int)) b=0:=fun b a=>L.Bv a
 refine⟨rfl,zu,fun b a=> ?_,fun b a p=> ?_⟩;show BT.qh (nth (List.replicate (wo d).length (0:Int)) b);rw[c b a];exact BT.Ev;show BT.has (nth (List.replicate (wo d).length (0:Int)) b) p=true↔_/\(b:Int)∈nth (jc1 d) p;rw[c b a,BT.tR];have f:jcG (jc1 d):=fun x g=>(List.mem_replicate.1 g).2
 have e:nth (jc1 d) p=[]:=QJ f p;rw[e];simp
def WT (d:DyD) (i:Nat):List Int×List Int:=(((vp d).take i).filter (X5 d)).foldl (cq d) (List.replicate (wo d).length 0,[])
attribute [local irreducible] yC gp PJ U.on WT vp X5 Mz yz in
theorem Zr {d:DyD} (h:qe d=0) {i:Nat} (hi:i<(vp d).length) (ih:Fi d (yC (Mz d) (vp d) i) (WT d i)) (_:dI (Mz d) (vp d) i (yC (Mz d) (vp d) i)) (hrd:U.rd (Mz d)=d) (hml:mY (Mz d)=yz d (wo d).length)
 (hx:(yC (Mz d) (vp d) i).1.length=(wi (wq d)).length) (hdec:X5 d=yy (vb (vp d) (vp d).length)) (hft:WT d (i+1)=if X5 d (nth (vp d) i)=true then cq d (WT d i) (nth (vp d) i) else WT d i)
 (hnew:X5 d (nth (vp d) i)=true->(nth (yC (Mz d) (vp d) i).1 (ao (nth (vp d) i)).toNat++[lL (nth (vp d) i)]).Nodup/\∀b∈nth (yC (Mz d) (vp d) i).1 (ao (nth (vp d) i)).toNat++[lL (nth (vp d) i)],aq d b):
 Fi d (yC (Mz d) (vp d) (i+1)) (WT d (i+1)):=by
 have hD:=(gI h).1
 have h8:(wi (wq d)).length<=8:=(w4 hD.1).2.2.1
 have hsf:=nB hD.2.2 (iL.1 (L.wh (l:=vp d) (i:=i) hi))
 rw[hft]
 cases hc:X5 d (nth (vp d) i) with
 |false=>
  rw[hdec] at hc
  rw[QK hi hc,jd (by simp)]
  exact ih
 |true=>
  have hn:=hnew hc
  have hcan:=jdF hD ih (p:=ao (nth (vp d) i)) (b:=lL (nth (vp d) i)) hsf.1 hn.1 hn.2
  rw[hdec] at hc
  rw[jg rfl]
  unfold cq
  cases hk:gp d (ao (nth (vp d) i)) (U.on (WT d i).1 (ao (nth (vp d) i))++[lL (nth (vp d) i)]) with
  |true=>
   rw[hk] at hcan
   rw[Wl hi hc (by rw[hrd,hml];exact hcan),jg rfl]
   refine jdG ih hx h8 hsf.1 hsf.2 (fun hin=> ?_)
   exact(zF.1 hn.1).2.2 _ hin _ (by simp) rfl
  |false=>
   rw[hk] at hcan
   rw[jay hi hc (by rw[hrd,hml];exact hcan),jd (by simp)]
   exact⟨jF (·++[gx (nth (vp d) i)]) ih.ref,ih.len,ih.set,ih.bit⟩
theorem WU {d:DyD} (h:qe d=0):∀i,i<=(vp d).length->Fi d (yC (Mz d) (vp d) i) (WT d i)
 |0,_=>Zq d
 |i+1,hi=>by
  have k:=WU h i (by omega)
  obtain⟨⟨_,m⟩,⟨j,b⟩,c⟩:=Wp h
  have f:=(gI h).1
  have a:=Oa (r:=Mz d) (l:=vp d) f.2.2 (fun s e=>iL.1 e) (fy d) j b c i (by omega)
  refine Zr h hi k a rfl rfl a.1 rfl ?_ fun g=> ?_
  unfold WT
  rw[L.filter_take (p:=X5 d) (l:=vp d) (i:=i) hi,jU]
  split<;>rfl
  have:=Wi (r:=Mz d) (l:=vp d) f.2.2 (fun s e=>iL.1 e) (fy d) hi a g
  exact⟨this.1,this.2.1⟩
theorem Zs {d:DyD} (h:qe d=0):WT d (vp d).length=Je d:=by
 unfold WT Je wN;rw[zH,zH,jdD h]
theorem DG {d:DyD} (h:qe d=0):Fi d (bJ (Uo d),(yC (Mz d) (vp d) (vp d).length).2) (Je d):=by
 have:=WU h _ (jj _);rw[Zs h] at this;exact⟨this.ref,this.len,this.set,this.bit⟩
theorem QU (on:List (List Int)) (b:Int):∀n,n<=60->BT.qh (aY on b n)/\∀q,BT.has (aY on b n) q=true↔q<n/\b∈nth on q
 |0,_=>⟨BT.Ev,fun q=>by
  have:aY on b 0=0:=rfl
  rw[this,BT.tR];simp⟩
 |n+1,m=>by
  obtain⟨f,i⟩:=QU on b n (by omega)
  have g:=BT.iS (k:=n) (by omega)
  have a:(nth on n).any (fun x=>decide (x=b))=true↔b∈nth on n:=by
   rw[za];exact⟨fun⟨x,l,e⟩=>(ja e)▸l,fun j=>⟨b,j,jG rfl⟩⟩
  rw[Dr]
  split
  rename_i c;have c:=a.1 c;rw[mK];refine⟨BT.bor_set f g,fun q=> ?_⟩;rw[BT.has_bor f g,BT.Bt,zq,decide_eq_true_iff,i];refine⟨fun h=>h.elim (fun h=>⟨by omega,h.2⟩) (fun h=>by subst h;exact⟨by omega,c⟩),fun h=> ?_⟩;by_cases d:q=n;exact .inr d.symm;exact .inl ⟨by omega,h.2⟩;rename_i c;refine⟨f,fun q=> ?_⟩;rw[i];refine⟨fun h=>⟨by omega,h.2⟩,fun h=>⟨?_,h.2⟩⟩;by_cases d:q=n;subst d;exact absurd (a.2 h.2) c;omega
theorem WV {d:DyD} (h:qe d=0) {b:Nat} (a:b<(wo d).length):dX (bJ (Uo d)) (b:Int)=nth (Je d).1 b:=by
 have f:=DG h;have c:=Wq h;have g:=QU (bJ (Uo d)) (b:Int) (bJ (Uo d)).length c.len60;refine BT.ext g.1 (f.set b a) fun p=>j0.2 ?_
 have e:=(g.2 p).trans (f.bit b a p|>.trans (by rw[<-c.len])).symm;exact e
theorem jdH {d:DyD} (h:qe d=0):aF d (wo d).length=(Je d).1:=by
 have b:=DG h;have a:(aF d (wo d).length).length=(wo d).length:=(by unfold aF;simp);refine L.ext_nth (by rw[a];exact b.len.symm) fun i hi=> ?_
 rw[a] at hi;unfold aF;rw[L.nth_map (by simpa using hi)];have:nth (List.range (wo d).length) i=i:=(by rw[L.qM (by simpa using hi)];simp);rw[this];exact WV h hi
theorem jb6 (d:DyD):fI d=if aj d=0 then(Je d).1 else[]:=by
 unfold fI;rw[fx]
 split
 rename_i h;exact jdH ((fx d).trans h);rfl
end Go.X
namespace Go.X
open U
open Go.Proofs
theorem S2 (l:List ShD) (n:Nat):ww l (n+1)=ww l n++(if yg l n l.length=true then[nth l n] else[]):=by
 unfold ww;rw[L.yf,zw];by_cases h:yg l n l.length=true;rw[jg h,jg h];rfl;rw[jd h,jd h];rfl
theorem Ln (l:List ShD) (n:Nat):(ww l n).length<=n:=by
 unfold ww;rw[zf];exact jE (zy _ _) (by simp)
theorem OW {l:List ShD} {i k:Nat} (h:k<l.length):yg l i (k+1)=(yg l i k&& !(decide (lL (nth l k)=lL (nth l i))&&decide (ao (nth l k)=ao (nth l i))&&qX (nth l k) (nth l i))):=by
 unfold yg;rw[L.wO h,kU];generalize (l.take k).any _=a;generalize decide (XS (nth l i)=1)=b;simp only[List.any_cons,List.any_nil,kQ];generalize (decide (lL (nth l k)=lL (nth l i))&&decide (ao (nth l k)=ao (nth l i))&&qX (nth l k) (nth l i))=c;cases a<;>cases b<;>cases c<;>rfl
theorem S3 (l:List ShD):ww l 0=[]:=rfl
theorem Lo (l:List ShD):wg l 0=([],l):=rfl
theorem S4 (l:List ShD):wL l 0=0:=rfl
theorem S5 (l:List ShD) (n:Nat):(wg l (n+1)).1=(wg l n).1++[nth (wg l n).2 (wL (wg l n).2 (wg l n).2.length)]:=rfl
theorem S6 (l:List ShD) (n:Nat):(wg l (n+1)).2=(wg l n).2.take (wL (wg l n).2 (wg l n).2.length)++(wg l n).2.drop (wL (wg l n).2 (wg l n).2.length+1):=rfl
theorem Zt {α:Type} (l:List α) (m:Nat):[]++List.take (((m:Int)).toNat-Int.toNat 0) (List.drop (Int.toNat 0) l)++List.take (((l.length:Int)).toNat-((m:Int)+1).toNat) (List.drop ((m:Int)+1).toNat l)=l.take m++l.drop (m+1):=by
 have a:((m:Int)+1).toNat=m+1:=(by omega);have e2:Int.toNat 0=0:=rfl;rw[a,e2,jw,jw,List.drop_zero,ky,jY,zv (l:=List.drop (m+1) l) (by rw[zD];omega)]
theorem jb7 (d:DyD):ww (we (w7 d)) (we (w7 d)).length=cO d:=rfl
theorem jb8 (d:DyD):(wg (cO d) (cO d).length).1=qZ d:=rfl
attribute [local irreducible] wg wL ww we cO qZ yg
theorem OX (d:DyD) (W:List ShD) (r:W.length<=100000) (l:(wg W W.length).1=qZ d):
 (∃x:Nat,((True/\True/\True)/\W=(wg W x).2/\(wg W x).1=[]/\True)/\x<=W.length)/\∀n:Nat,n<=W.length->(wg W n).2.length<4611686018427387904->
  (decide ((0:Int)<(wg W n).2.length)=true->(∃x:Nat,(((0:Int)=(x:Int)/\(0:Int)=(wL (wg W n).2 x:Int)/\True)/\True)/\x<=(wg W n).2.length)/\∀i:Nat,i<=(wg W n).2.length->(wg W n).2.length<4611686018427387904->
   (decide ((i:Int)<(wg W n).2.length)=true->(0:Int)<=(wL (wg W n).2 i:Int)/\(wL (wg W n).2 i:Int)<(wg W n).2.length/\(0:Int)<=(i:Int)/\(i:Int)<(wg W n).2.length/\
    (qX (nth (wg W n).2 ((wL (wg W n).2 i:Int)).toNat) (nth (wg W n).2 ((i:Int)).toNat)=true->wm ((i:Int)+1)/\∃a:Nat,(((i:Int)+1=(a:Int)/\(i:Int)=(wL (wg W n).2 a:Int)/\True)/\True)/\a<=(wg W n).2.length/\(wg W n).2.length-a<(wg W n).2.length-i)/\
    (qX (nth (wg W n).2 ((wL (wg W n).2 i:Int)).toNat) (nth (wg W n).2 ((i:Int)).toNat)=false->wm ((i:Int)+1)/\∃a:Nat,(((wL (wg W n).2 i:Int)=(wL (wg W n).2 a:Int)/\(i:Int)+1=(a:Int)/\True)/\True)/\a<=(wg W n).2.length/\(wg W n).2.length-a<(wg W n).2.length-i))/\
   (decide ((i:Int)<(wg W n).2.length)=false->(0:Int)<=(wL (wg W n).2 i:Int)/\(wL (wg W n).2 i:Int)<(wg W n).2.length/\
    ((wg W n).1.length+[nth (wg W n).2 ((wL (wg W n).2 i:Int)).toNat].length)*40<=140737488355328/\(0:Int)<=0/\(0:Int)<=(wL (wg W n).2 i:Int)/\(wL (wg W n).2 i:Int)<=(wg W n).2.length/\
    (0+(List.take (((wL (wg W n).2 i:Int)).toNat-Int.toNat 0) (List.drop (Int.toNat 0) (wg W n).2)).length)*40<=140737488355328/\wm ((wL (wg W n).2 i:Int)+1)/\(0:Int)<=(wL (wg W n).2 i:Int)+1/\
    (wL (wg W n).2 i:Int)+1<=((wg W n).2.length:Int)/\((wg W n).2.length:Int)<=(wg W n).2.length/\
    (([]++List.take (((wL (wg W n).2 i:Int)).toNat-Int.toNat 0) (List.drop (Int.toNat 0) (wg W n).2)).length+(List.take ((((wg W n).2.length:Int)).toNat-((wL (wg W n).2 i:Int)+1).toNat) (List.drop ((wL (wg W n).2 i:Int)+1).toNat (wg W n).2)).length)*40<=140737488355328/\
    ∃a:Nat,((True/\True/\True)/\[]++List.take (((wL (wg W n).2 i:Int)).toNat-Int.toNat 0) (List.drop (Int.toNat 0) (wg W n).2)++List.take ((((wg W n).2.length:Int)).toNat-((wL (wg W n).2 i:Int)+1).toNat) (List.drop ((wL (wg W n).2 i:Int)+1).toNat (wg W n).2)=(wg W a).2/\
     (wg W n).1++[nth (wg W n).2 ((wL (wg W n).2 i:Int)).toNat]=(wg W a).1/\True)/\a<=W.length/\W.length-a<W.length-n))/\
  (decide ((0:Int)<(wg W n).2.length)=false->((wg W n).1,())=(qZ d,())):=by
 refine⟨⟨0,⟨⟨tZ,tZ,tZ⟩,by rw[Lo],by rw[Lo],tZ⟩,jl _⟩,fun n o _=> ?_⟩;obtain⟨t,u⟩:=nE W n o;have s:∀i,wL (wg W n).2 i+0=wL (wg W n).2 i:=fun _=>rfl
 refine⟨fun b=>⟨⟨0,⟨⟨rfl,by rw[S4];rfl,tZ⟩,tZ⟩,jl _⟩,fun i hi _=>⟨fun e=> ?_,fun e=> ?_⟩⟩,fun b=> ?_⟩;have b:(0:Int)<(wg W n).2.length:=ja b;have e:(i:Int)<(wg W n).2.length:=ja e;have m:=nD (wg W n).2 i hi (by omega);have j:=uQ (wg W n).2 i;have up:i+1<=(wg W n).2.length:=(by omega);have h:(wg W n).2.length-(i+1)<(wg W n).2.length-i:=(by omega);refine⟨jX _,by omega,jX _,e,fun c=>⟨iZ6,i+1,⟨⟨by simp,?_,tZ⟩,tZ⟩,up,h⟩,fun c=>⟨iZ6,i+1,⟨⟨?_,by simp,tZ⟩,tZ⟩,up,h⟩⟩;have c:qX (nth (wg W n).2 (wL (wg W n).2 i)) (nth (wg W n).2 i)=true:=c;rw[j,jg c];have c:qX (nth (wg W n).2 (wL (wg W n).2 i)) (nth (wg W n).2 i)=false:=c;rw[j,jd (by rw[c];simp)];have b:(0:Int)<(wg W n).2.length:=ja b;have e:¬(i:Int)<(wg W n).2.length:=jc e;have f:i=(wg W n).2.length:=(by omega);subst f;have m:=nD (wg W n).2 _ (jj _) (by omega);have k:=Zt (wg W n).2 (wL (wg W n).2 (wg W n).2.length);have p:=S5 W n;have q:=S6 W n;refine⟨jX _,by omega,by show((wg W n).1.length+1)*40<=140737488355328;omega,zN 0,jX _,by omega,?_,iZ6,by omega,by omega,zN _,?_,n+1,⟨⟨tZ,tZ,tZ⟩,?_,?_,tZ⟩,by omega,by omega⟩;rw[j6,zD];omega;rw[jY,j6,j6,zD,zD];omega;rw[q];exact k;rw[p];rfl;have b:¬(0:Int)<(wg W n).2.length:=jc b;have g:n=W.length:=(by omega);subst g;rw[l]
theorem OY:Lj:=by
 unfold Lj jfZ jfJ jfB jgu jiu jjW jf3 jjV jhq jfw Prod.q4;rintro⟨d,⟨⟩⟩ j;have j:(w7 d).length<=1000:=j;have f:(we (w7 d)).length<=100000:=jE (by unfold we;exact nC _ 100) (by omega);refine⟨j,⟨0,⟨⟨rfl,tZ,tZ⟩,S3 _,tZ⟩,jl _⟩,fun x o _=>⟨fun h=> ?_,fun h=> ?_⟩⟩;have h:(x:Int)<(we (w7 d)).length:=ja h;have x0:(0:Int)<=(x:Int):=jX x;refine⟨x0,h,⟨0,⟨⟨rfl,?_,tZ⟩,tZ⟩,jl _⟩,fun k hk _=>⟨fun b=> ?_,fun b=> ?_⟩⟩;show decide (XS (nth (we (w7 d)) x)=1)=yg (we (w7 d)) x 0;unfold yg;simp;have b:(k:Int)<(we (w7 d)).length:=ja b;have n:(0:Int)<=(k:Int):=jX k;have e:=OW (l:=we (w7 d)) (i:=x) (k:=k) (by omega);have up:k+1<=(we (w7 d)).length:=(by omega);have c:(we (w7 d)).length-(k+1)<(we (w7 d)).length-k:=(by omega);have i64:wm ((k:Int)+1):=iZ6;refine⟨n,b,x0,h,fun _=>n,fun _=>b,fun _=>x0,fun _=>h,fun _=>n,fun _=>b,fun _=>x0,fun _=>h,fun a=>⟨i64,k+1,⟨⟨by simp,?_,tZ⟩,tZ⟩,up,c⟩,fun a=>⟨i64,k+1,⟨⟨?_,by simp,tZ⟩,tZ⟩,up,c⟩⟩;have a:(decide (lL (nth (we (w7 d)) k)=lL (nth (we (w7 d)) x))&&decide (ao (nth (we (w7 d)) k)=ao (nth (we (w7 d)) x))&&qX (nth (we (w7 d)) k) (nth (we (w7 d)) x))=true:=a;show false=yg (we (w7 d)) x (k+1);rw[e,a];simp;have a:(decide (lL (nth (we (w7 d)) k)=lL (nth (we (w7 d)) x))&&decide (ao (nth (we (w7 d)) k)=ao (nth (we (w7 d)) x))&&qX (nth (we (w7 d)) k) (nth (we (w7 d)) x))=false:=a;show yg (we (w7 d)) x k=yg (we (w7 d)) x (k+1);rw[e,a];simp;have b:¬(k:Int)<(we (w7 d)).length:=jc b;have hk:k<=(we (w7 d)).length:=hk;have g:k=(we (w7 d)).length:=(by omega);subst g;have e:=S2 (we (w7 d)) x;have p:=Ln (we (w7 d)) x;have up:x+1<=(we (w7 d)).length:=(by omega);have c:(we (w7 d)).length-(x+1)<(we (w7 d)).length-x:=(by omega);have i64:wm ((x:Int)+1):=iZ6;refine⟨fun a=>⟨x0,h,by show((ww (we (w7 d)) x).length+1)*40<=140737488355328;omega,i64,x+1,⟨⟨by simp,tZ,tZ⟩,?_,tZ⟩,up,c⟩,fun a=>⟨i64,x+1,⟨⟨tZ,by simp,tZ⟩,?_,tZ⟩,up,c⟩⟩;have a:yg (we (w7 d)) x (we (w7 d)).length=true:=a;show ww (we (w7 d)) x++[nth (we (w7 d)) x]=ww (we (w7 d)) (x+1);rw[e,jg a];have a:yg (we (w7 d)) x (we (w7 d)).length=false:=a;show ww (we (w7 d)) x=ww (we (w7 d)) (x+1);rw[e,jd (by rw[a];simp),jZ];have h:¬(x:Int)<(we (w7 d)).length:=jc h;have o:x<=(we (w7 d)).length:=o;have m:x=(we (w7 d)).length:=(by omega);subst m;refine OX d (ww (we (w7 d)) (we (w7 d)).length) (jE (Ln _ _) f) ?_;rw[jb7];exact jb8 d
theorem Lp:wV PR 109 Lh:=qY Li OY Tryz.func109 (kcC Fg (kcC OI kcN)) koN
theorem OZ:wV PR 78 OP:=qY OQ SZ Tryz.func78 (kcC Lp (kcC OK kcN)) (koC OU koN)
theorem O0:wV PR 48 OS:=wK SY Tryz.func48 (kcC pZ (kcC OZ kcN)) koN
end Go.X
namespace Go.X
open U
open Go.Proofs
namespace U
def je9 (d:DyD) (t:List Int) (b:Nat):Bool:=Er (wq d) (yS (nth (wo d) b)) (nth t b)
def jaM (d:DyD) (t:List Int) (n:Nat):List Int:=((List.range n).filter (je9 d t)).map (fun(b:Nat)=>(b:Int))
def jfa (d:DyD):List Int:=if aj d=0 then jaM d (tN d) (tN d).length else[]
end U
theorem jb9 {d:DyD} (h:aj d=0):(Je d).1.length=(wo d).length:=(DG ((fx d).trans h)).len
theorem WW {d:DyD} (h:aj d=0) {b:Nat} (a:b<(wo d).length):XW (nth (Je d).1 b):=by
 have c:=DG ((fx d).trans h);have i:(wi (wq d)).length<=8:=(w4 (GM h).1).2.2.1;have e:=c.set b a;have f:=BT.lt_of_has (k:=8) e (fun p g=>by have:=((c.bit b a p).1 g).1;omega);exact⟨e.1,f⟩
theorem QV {d:DyD} (h:aj d=0):tN d=(Je d).1:=jg h
theorem Ip {d:DyD} (h:aj d=0):(tN d).length=(wo d).length:=by rw[QV h];exact jb9 h
section
attribute [local irreducible] Je aj
end
section
attribute [local irreducible] jaM tN aj Er
end
section
attribute [local irreducible] gp U.on qd FN
end
section
attribute [local irreducible] tN aj qd
end
end Go.X
namespace Go.X
open U
open Go.Proofs
section
attribute [local irreducible] tN aj Er XW
end
end Go.X
namespace Go.X
open U
open Go.Proofs
theorem DH (n m:Nat):n|||m=0↔n=0/\m=0:=by
 constructor;intro h;constructor;refine kf fun i=> ?_
 have:=jF (fun z=>Nat.testBit z i) h;simp only[kZ,Nat.zero_testBit,jR] at this;rw[this.1,Nat.zero_testBit];refine kf fun i=> ?_
 have:=jF (fun z=>Nat.testBit z i) h;simp only[kZ,Nat.zero_testBit,jR] at this;rw[this.2,Nat.zero_testBit];rintro⟨rfl,rfl⟩;rfl
theorem QW {a b:Int} (c:0<=a/\a<64) (d:0<=b/\b<64):uor a b=0↔a=0/\b=0:=by
 obtain⟨n,rfl⟩:∃n:Nat,a=(n:Int):=⟨a.toNat,by omega⟩;obtain⟨m,rfl⟩:∃m:Nat,b=(m:Int):=⟨b.toNat,by omega⟩;rw[BT.uor_nat (by omega) (by omega)];have:=DH n m;omega
theorem Zu {a b:Int} (c:0<=a/\a<64) (d:0<=b/\b<64):bor a b=0↔a=0/\b=0:=by
 obtain⟨n,rfl⟩:∃n:Nat,a=(n:Int):=⟨a.toNat,by omega⟩;obtain⟨m,rfl⟩:∃m:Nat,b=(m:Int):=⟨b.toNat,by omega⟩;rw[BT.bor_nat (by omega) (by omega)];have:=DH n m;omega
theorem Zv {a b:Int} (c:0<=a/\a<64) (d:0<=b/\b<64):0<=bor a b/\bor a b<64:=by
 obtain⟨n,rfl⟩:∃n:Nat,a=(n:Int):=⟨a.toNat,by omega⟩;obtain⟨m,rfl⟩:∃m:Nat,b=(m:Int):=⟨b.toNat,by omega⟩;rw[BT.bor_nat (by omega) (by omega)];have:n|||m<2^6:=ku (by omega) (by omega);omega
theorem DI {b:Bool} {o k:Int} (h:0<=o/\o<64) (hk:0<k/\k<64):FM b o k=0↔b=false/\o=0:=by
 unfold FM;cases b with
 |false=>rw[jd (by simp)];simp
 |true=>
  rw[jg rfl,QW h ⟨by omega,by omega⟩];refine⟨fun h=>absurd h.2 (by omega),fun h=>absurd h.1 (by simp)⟩
theorem nG {b:Bool} {o k:Int} (h:0<=o/\o<64) (hk:0<k/\k<64):Ri b o k=0↔b=false/\o=0:=by
 unfold Ri;cases b with
 |false=>rw[jd (by simp)];simp
 |true=>
  rw[jg rfl,Zu h ⟨by omega,by omega⟩];refine⟨fun h=>absurd h.2 (by omega),fun h=>absurd h.1 (by simp)⟩
theorem Lq {b:Bool} {o k:Int} (h:0<=o/\o<64) (hk:0<k/\k<64):0<=Ri b o k/\Ri b o k<64:=by
 unfold Ri
 split
 exact Zv h ⟨by omega,hk.2⟩;exact h
theorem Lr (t:TkD):∀(q:List (Int×PeD×Unit)) (o:Int),(0<=o/\o<64)->(de t o q=0↔o=0/\∀x∈q,yx t x.2.1=0)
 |[],o,_=>by
  show o=0↔_
  simp
 |x::q,o,h=>by
  have b:=C7 t x.2.1
  have a:=Lr t q (uor o (yx t x.2.1)) (V1 h ⟨by omega,by omega⟩)
  show de t (uor o (yx t x.2.1)) q=0↔_
  rw[a,QW h ⟨by omega,by omega⟩]
  simp only[jk,forall_eq_or_imp,and_assoc]
theorem Zw {t:Int} (h:BT.qh t) (p:Int):tJ t p=BT.has t p.toNat:=BT.has_ushr h p.toNat
theorem jaD {t:Int} (h:BT.qh t) (p:Int):tJ t p=qd t p:=(Zw h p).trans (Bm h p).symm
theorem nI {t:TkD} {s:Int} (b:BT.qh s) {x:Int×PeD×Unit}:x∈xI t s↔∃i:Nat,i<(wi (U.tc t)).length/\qd s (i:Int)=true/\x=((i:Int),nth (wi (U.tc t)) i,()):=by
 unfold xI gq;rw[jV];refine⟨fun⟨i,hi,e⟩=> ?_,fun⟨i,c,a,e⟩=>⟨i,jP.2 ⟨jD.2 c,?_⟩,e.symm⟩⟩;have hi:=jP.1 hi;have a:tJ s (i:Int)=true:=hi.2;exact⟨i,jD.1 hi.1,(jaD b _)▸a,e.symm⟩;show tJ s (i:Int)=true;rw[jaD b];exact a
theorem uR (c:CrD) (j:JbD) (t:Int):∀n,(0<=(qt c j t n).1/\(qt c j t n).1<64)/\((qt c j t n).1=0↔∀i:Nat,i<n->qd t (i:Int)=true->qD c j (i:Int)=true)/\
 ((qt c j t n).2=true↔∃i:Nat,i<n/\qd t (i:Int)=true/\jcC (nth (wi c) i)=true)
 |0=>⟨by show(0:Int)<=0/\(0:Int)<64;omega,⟨fun _ i h=>absurd h (by omega),fun _=>rfl⟩,⟨fun h=>(by cases h),fun⟨i,h,_⟩=>absurd h (by omega)⟩⟩
 |n+1=>by
  obtain⟨l,o,p⟩:=uR c j t n
  cases g:qd t (n:Int) with
  |false=>
   rw[K9 g]
   refine⟨l,o.trans ⟨fun h i hi a=> ?_,fun h i hi=>h i (by omega)⟩,p.trans ⟨fun⟨i,hi,a⟩=>⟨i,by omega,a⟩,fun⟨i,hi,d,f⟩=>⟨i,?_,d,f⟩⟩⟩
   by_cases e:i=n
   subst e;rw[g] at a;cases a
   exact h i (by omega) a
   by_cases e:i=n
   subst e;rw[g] at d;cases d
   omega
  |true=>
   have e:qt c j t (n+1)=(Ri (!qd (U.cl (nth (wi c) n)) (bU j)) (Ri (!qd (U.fd (nth (wi c) n)) (PH j)) (Ri (cL (nth (wi c) n) (X6 j)) (qt c j t n).1 1) 2) 4,(qt c j t n).2||jcC (nth (wi c) n)):=by
    rw[Dw];unfold PK;rw[jg g]
   rw[e];have o1:=Lq (b:=cL (nth (wi c) n) (X6 j)) (k:=1) l (by omega);have o2:=Lq (b:= !qd (U.fd (nth (wi c) n)) (PH j)) (k:=2) o1 (by omega);have s:=Lq (b:= !qd (U.cl (nth (wi c) n)) (bU j)) (k:=4) o2 (by omega);refine⟨s,?_,?_⟩;show Ri _ _ 4=0↔_;rw[nG o2 (by omega),nG o1 (by omega),nG l (by omega),o];have m:qD c j (n:Int)=(!(cL (nth (wi c) n) (X6 j))&&qd (U.fd (nth (wi c) n)) (PH j)&&qd (U.cl (nth (wi c) n)) (bU j)):=by
    unfold qD;rw[jw]
   refine⟨fun⟨d,f,q,r⟩ i hi a=> ?_,fun h=> ?_⟩;by_cases e:i=n;subst e;rw[m];simp only[zl] at d f;rw[d,f,q];rfl;exact r i (by omega) a;have:=h n (by omega) g;rw[m,ji,ji,jS] at this;exact⟨by rw[this.2];rfl,by rw[this.1.2];rfl,this.1.1,fun i hi=>h i (by omega)⟩;show((qt c j t n).2||jcC (nth (wi c) n))=true↔_;rw[zq,p];refine⟨fun h=>h.elim (fun⟨i,hi,a⟩=>⟨i,by omega,a⟩) (fun h=>⟨n,by omega,g,h⟩),fun⟨i,hi,d,f⟩=> ?_⟩;by_cases e:i=n;subst e;exact .inr f;exact .inl ⟨i,by omega,d,f⟩
theorem Zx {c:CrD} {j:JbD} {t:Int} (d:BT.qh t) (a b:Nat):Mx (c,j,db c j,()) t a b=U.J3 c t (Um (db c j)) a b:=by
 unfold Mx U.J3 mW lf;refine j0.2 ?_;rw[za,za];refine⟨fun⟨x,g,h⟩=> ?_,fun⟨i,hi,h⟩=> ?_⟩;obtain⟨i,e,f,rfl⟩:=(nI d).1 g;refine⟨i,jD.2 e,?_⟩;have h:Um (db c j)<=min (nth (U.lv (nth (wi c) i)) ((a:Int)).toNat) (nth (U.lv (nth (wi c) i)) ((b:Int)).toNat):=ja h;rw[f,jG (by omega:Um (db c j)<=nth (U.lv (nth (wi c) i)) ((a:Int)).toNat),jG (by omega:Um (db c j)<=nth (U.lv (nth (wi c) i)) ((b:Int)).toNat)];rfl;rw[ji,ji,decide_eq_true_iff,decide_eq_true_iff] at h;refine⟨((i:Int),nth (wi c) i,()),(nI d).2 ⟨i,jD.1 hi,h.1.1,rfl⟩,?_⟩;exact jG (show Um (db c j)<=min (nth (U.lv (nth (wi c) i)) ((a:Int)).toNat) (nth (U.lv (nth (wi c) i)) ((b:Int)).toNat) by have:=h.1.2;have:=h.2;omega)
theorem jca (c:CrD) (t lev:Int) (a b:Nat):U.J3 c t lev a b=U.J3 c t lev b a:=by
 unfold U.J3 lf;refine j0.2 ?_;rw[za,za];constructor<;>
 .rintro⟨i,hi,h⟩;refine⟨i,hi,?_⟩;rw[ji,ji] at h⊢;exact⟨⟨h.1.1,h.2⟩,h.1.2⟩
theorem jdI {c:CrD} {j:JbD} {t:Int} (_:wt c=true) (d:qb c j=true) (f:BT.qh t):nth (iR (c,j,db c j,()) t) (Mw j).toNat<0↔nth (mZ c t (Um (db c j)) (Mw j)) (G1 j).toNat<0:=by
 have h:=mq d;have e:Mx (c,j,db c j,()) t=U.J3 c t (Um (db c j)):=(by funext a b;exact Zx f a b);show nth (jd4 (Mx (c,j,db c j,()) t) (U.la c).toNat (G1 j).toNat) (Mw j).toNat<0↔nth (qI (U.J3 c t (Um (db c j))) (U.la c).toNat (Mw j).toNat (U.la c).toNat) (G1 j).toNat<0;rw[e];exact(jbH (jca c t _) (by omega) (by omega)).symm
theorem WX {c:CrD} {j:JbD} {t:Int} (a:BT.qh t):(∀x∈xI (c,j,db c j,()) t,yx (c,j,db c j,()) x.2.1=0)↔∀i:Nat,i<(wi c).length->qd t (i:Int)=true->qD c j (i:Int)=true:=by
 refine⟨fun h i hi e=>(nF c j i).1 (h ((i:Int),nth (wi c) i,()) ((nI a).2 ⟨i,hi,e,rfl⟩)),fun h x f=> ?_⟩;obtain⟨i,b,d,rfl⟩:=(nI a).1 f;exact(nF c j i).2 (h i b d)
theorem Zy {c:CrD} {j:JbD} {t:Int} (d:BT.qh t):fG (xI (c,j,db c j,()) t)=jeR c j t:=by
 refine j0.2 ?_;unfold jeR;rw[(uR c j t (wi c).length).2.2];unfold fG;rw[za];refine⟨fun⟨x,f,h⟩=> ?_,fun⟨i,a,b,e⟩=>⟨((i:Int),nth (wi c) i,()),(nI d).2 ⟨i,a,b,rfl⟩,e⟩⟩;obtain⟨i,a,b,rfl⟩:=(nI d).1 f;exact⟨i,a,b,h⟩
theorem O1 {c:CrD} {j:JbD} {t:Int} (n:wt c=true) (o:qb c j=true) (a:BT.qh t):vR (c,j,db c j,()) t=0↔Uc c j t=0:=by
 have f:=uR c j t (wi c).length;have g:=NL (c,j,db c j,()) (xI (c,j,db c j,()) t) 0 (by omega);have i:=C8 (b:=decide (BT.size t≠max (Z4 j) (jcD (db c j)))) (k:=8) g (by omega);have q:=C8 (b:=(jej (db c j)&& !fG (xI (c,j,db c j,()) t))) (k:=16) i (by omega);have d:0<=jeQ c j t/\jeQ c j t<64:=f.1;have e:=Lq (b:=decide (BT.size t≠max (Z4 j) (jcD (db c j)))) (k:=8) d (by omega);have l:=Lq (b:=(jej (db c j)&& !jeR c j t)) (k:=16) e (by omega);have m:vR (c,j,db c j,()) t=FM (decide (nth (iR (c,j,db c j,()) t) (Mw j).toNat<0)) (FM (jej (db c j)&& !fG (xI (c,j,db c j,()) t)) (FM (decide (BT.size t≠max (Z4 j) (jcD (db c j)))) (de (c,j,db c j,()) 0 (xI (c,j,db c j,()) t)) 8) 16) 32:=rfl;have p:jeQ c j t=0↔de (c,j,db c j,()) 0 (xI (c,j,db c j,()) t)=0:=by
  rw[Lr _ _ _ (by omega),WX a];exact f.2.1.trans ⟨fun h=>⟨rfl,h⟩,fun h=>h.2⟩
 rw[m,DI q (by omega),DI i (by omega),DI g (by omega)];unfold Uc;rw[nG l (by omega),nG e (by omega),nG d (by omega),p,Zy a,jH,jH,jdI n o a,jH]
theorem jcb {d:DyD} (a:FN d) {b:Int} (k:aq d b) {t:Int} (e:0<=t) (n:t<2^(wi (wq d)).length):Ep d b t=Er (wq d) (yS (U.bk d b)) t:=by
 unfold aq at k;have h:qb (wq d) (yS (U.bk d b))=true:=WJ a (b:=b.toNat) (by omega);have o:=(H2 a.1).2;have m:BT.qh t:=(by unfold BT.qh;omega);have i:vE (wq d) (yS (U.bk d b))=0:=(by unfold vE;rw[a.1,h];rfl);have j:I6 (wq d) t=true:=by
  unfold I6 k8;rw[jG e,jG (by omega)];rfl
 have l:bI (wq d) (yS (U.bk d b)) t=0:=by
  unfold bI;rw[jd (by rw[i];simp),j,jg rfl]
 have c:=O1 a.1 h m;unfold Ep Er jc0;rw[l,jg rfl];refine j0.2 ?_;simp only[ji,decide_eq_true_iff,true_and];rw[c];constructor;rintro⟨f,g⟩;exact⟨by omega,f⟩;rintro⟨f,g⟩;exact⟨g,by omega⟩
theorem jaE {d:DyD} (h:aj d=0) {b:Nat} (a:b<(wo d).length):0<=nth (Je d).1 b/\nth (Je d).1 b<2^(wi (wq d)).length:=by
 have c:=DG ((fx d).trans h);have e:=c.set b a;exact⟨e.1,BT.lt_of_has e (fun p f=>((c.bit b a p).1 f).1)⟩
theorem jcc (d:DyD):wa d=jfa d:=by
 unfold wa jfa;rw[fx];by_cases h:aj d=0;rw[jg h,jg h,Ip h];unfold am jaM;congr 1;refine List.filter_congr fun b a=> ?_
 have a:=jD.1 a;have hk:=(fx d).trans h;have c:=jaE h a;show Ep d (b:Int) (dX (bJ (Uo d)) (b:Int))=Er (wq d) (yS (nth (wo d) b)) (nth (tN d) b);rw[WV hk a,QV h,jcb (GM h) (by unfold aq;omega) c.1 c.2];rfl;rw[jd h,jd h]
end Go.X
