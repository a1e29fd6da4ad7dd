/-
  Part 5 of the road: a checked reading of bodies, and what the functions on it do (C1 PC1 PC2 PC3 PC4 C2 PC5 PC6 PC7 PC8 C3 PC9 SL PC10 S1 S2 S3 PC11 C4 PC12 PC13 PC14 S4 S5).
-/
import Derived.Test.YtacjhnpgiklpdaaGreatDoorK04
namespace Go.X
open U
open Go.Proofs
namespace U
def qO (s:Int):Nat->Int
 |0=>s
 |j+1=>qO s j/2^1
def J3 (c:CrD) (t d:Int) (a b:Nat):Bool:=lu c t d (a:Int) (b:Int)
def nr (c:CrD) (t b a:Int):List Int:=qR (J3 c t b) (la c).toNat a.toNat (la c).toNat
def Rn (c:Bool) (s b:Int):Int:=if c=true then bor s b else s
def PP (c:CrD) (j:JbD) (t:Int) (x:Int×Bool) (i:Nat):Int×Bool:=
 if qf t (i:Int)=true then(Rn (!qf (cl (nth (wj c) i)) (eE j)) (Rn (!qf (fd (nth (wj c) i)) (PM j)) (Rn (cT (nth (wj c) i) (Yh j)) x.1 1) 2) 4,x.2||jcR (nth (wj c) i)) else x
def qz (c:CrD) (j:JbD) (t:Int) (n:Nat):Int×Bool:=(List.range n).foldl (PP c j t) (0,false)
def je4 (c:CrD) (j:JbD) (t:Int):Int:=(qz c j t (wj c).length).1
def je5 (c:CrD) (j:JbD) (t:Int):Bool:=(qz c j t (wj c).length).2
def Ui (c:CrD) (j:JbD) (t:Int):Int:=
 Rn (decide (nth (nr c t (Uu (dp c j)) (Mw j)) (G8 j).toNat<0)) (Rn (jey (dp c j)&& !je5 c j t) (Rn (decide (BT.size t≠max (jad j) (jcS (dp c j)))) (je4 c j t) 8) 16) 32
def Ev (c:CrD) (j:JbD) (t:Int):Bool:=decide (0<t)&&decide (Ui c j t=0)
def X5 (t:Int):Prop:=0<=t/\t<256
end U
def KZ:wS:=⟨[.val .int,.val .int,.val .int],[.bool],false,fun _=>[],fun d=>(wa d.1 d.2.1 d.2.2.1,())⟩
def K0:Prop:=∀(d:Int×Int×Int×Unit),(decide (d.2.1<=d.1)&&decide (d.1<=d.2.2.1),())=(wa d.1 d.2.1 d.2.2.1,())
def Wz:wS:=⟨[.val .int,.val .int],[.bool],false,fun d=>[0<=d.2.1/\d.2.1<=63],fun d=>(qf d.1 d.2.1,())⟩
def WA:Prop:=∀(d:Int×Int×Unit),0<=d.2.1/\d.2.1<=63->0<=d.2.1/\d.2.1<=18446744073709551615/\0<=d.2.1/\d.2.1<=64/\(decide (fZ (d.1/(2:Int)^d.2.1.toNat) (1:Int)=1),())=(qf d.1 d.2.1,())
def K1:wS:=⟨[.val tCr],[.bool],false,fun _=>[],fun d=>(wu d.1,())⟩
def K2:Ann:=fun r=>match r with
 |4=>some fun σ=>{X:=Nat,sl:=fun i=>[(3,.dat .int (i:Int))],ob:=fun _=>[],inv:=fun i=>i<=(wj (gb tCr σ 1)).length/\∀j:Nat,j<i->fR (U.la (gb tCr σ 1)) (nth (wj (gb tCr σ 1)) j)=true,mu:=fun i=>(wj (gb tCr σ 1)).length-i}
 |10=>some fun σ=>{X:=Nat,sl:=fun i=>[(5,.dat .int (i:Int))],ob:=fun _=>[],inv:=fun i=>i<=(U.lv (gb tPe σ 4)).length/\∀j:Nat,j<i->wa (nth (U.lv (gb tPe σ 4)) j) 0 5=true,mu:=fun i=>(U.lv (gb tPe σ 4)).length-i}
 |15=>some fun σ=>{X:=Nat,sl:=fun i=>[(6,.dat .int (i:Int))],ob:=fun _=>[],inv:=fun i=>i<=(vj (gb tPe σ 4)).length/\∀j:Nat,j<i->wa (nth (vj (gb tPe σ 4)) j) 0 99=true,mu:=fun i=>(vj (gb tPe σ 4)).length-i}
 |20=>some fun σ=>{X:=Nat,sl:=fun i=>[(7,.dat .int (i:Int))],ob:=fun _=>[],inv:=fun i=>i<=(yX (gb tCr σ 1)).length/\∀j:Nat,j<i->fS (nth (yX (gb tCr σ 1)) j)=true,mu:=fun i=>(yX (gb tCr σ 1)).length-i}
 |_=>none
abbrev jfL (d:CrD×Unit)(x:Nat):=(nth d.1.2.1 (x:Int).toNat)
abbrev jhX (d:CrD×Unit)(x:Nat):=(↑(jfL d x).1.length:Int)
abbrev jiz (d:CrD×Unit)(x:Nat):=(↑(jfL d x).2.2.2.1.length:Int)
abbrev jjZ (d:CrD×Unit)(x:Nat):=(decide ((jhX d x)≠d.1.1)|| !wa (jfL d x).2.1 (0:Int) (255:Int)|| !wa (jfL d x).2.2.1 (0:Int) (255:Int)||decide ((10:Int)<(jiz d x))|| !wa (jfL d x).q4.2.1 (0:Int) (1000:Int))
abbrev jhY (d:CrD×Unit):=(d.1.2.2.1.length:Int)
abbrev jgQ (d:CrD×Unit)(x:Nat):=(vj (jfL d x))
abbrev jhZ (d:CrD×Unit):=(d.1.2.1.length:Int)
abbrev jj0 (d:CrD×Unit):=(!wa d.1.1 (2:Int) (5:Int)||decide (8<(jhZ d))||decide ((jhY d)≠4))
abbrev jiA (d:CrD×Unit)(x:Nat):=(nth d.1.2.2.1 (x:Int).toNat)
abbrev jj1 (d:CrD×Unit)(x:Nat):=(!wa (jiA d x).1 (1:Int) (5:Int)|| !wa (jiA d x).2.1 (1:Int) (8:Int))
def K3:Prop:=∀(d:CrD×Unit),((!!wa d.1.1 (2:Int) (5:Int))=true->d.1.2.1.length<4611686018427387904)->((!(!wa d.1.1 (2:Int) (5:Int)||decide (8<(jhZ d))))=true->d.1.2.2.1.length<4611686018427387904)->((jj0 d)=true->(false,())=(wu d.1,()))/\((jj0 d)=false->(∃(x:Nat),((0=(x:Int)/\True)/\True)/\x<=(wj d.1).length/\∀(j:Nat),j<x->fR (U.la d.1) (nth (wj d.1) j)=true)/\∀(x:Nat),(x<=(wj d.1).length/\∀(j:Nat),j<x->fR (U.la d.1) (nth (wj d.1) j)=true)->d.1.2.1.length<4611686018427387904->(decide ((x:Int)<(jhZ d))=true->0<=(x:Int)/\(x:Int)<(jhZ d)/\((jfL d x).1.length<4611686018427387904->((!(decide ((jhX d x)≠d.1.1)|| !wa (jfL d x).2.1 (0:Int) (255:Int)|| !wa (jfL d x).2.2.1 (0:Int) (255:Int)))=true->(jfL d x).2.2.2.1.length<4611686018427387904)->((jjZ d x)=true->(false,())=(wu d.1,()))/\((jjZ d x)=false->(∃(b:Nat),((0=(b:Int)/\True)/\True)/\b<=(U.lv (jfL d x)).length/\∀(j:Nat),j<b->wa (nth (U.lv (jfL d x)) j) (0:Int) 5=true)/\∀(b:Nat),(b<=(U.lv (jfL d x)).length/\∀(j:Nat),j<b->wa (nth (U.lv (jfL d x)) j) (0:Int) 5=true)->(jfL d x).1.length<4611686018427387904->(decide ((b:Int)<(jhX d x))=true->0<=(b:Int)/\(b:Int)<(jhX d x)/\((!wa (nth (jfL d x).1 (b:Int).toNat) (0:Int) (5:Int))=true->(false,())=(wu d.1,()))/\((!wa (nth (jfL d x).1 (b:Int).toNat) (0:Int) (5:Int))=false->wn ((b:Int)+1)/\∃(c:Nat),(((b:Int)+1=(c:Int)/\True)/\True)/\(c<=(U.lv (jfL d x)).length/\∀(j:Nat),j<c->wa (nth (U.lv (jfL d x)) j) (0:Int) 5=true)/\(U.lv (jfL d x)).length-c<(U.lv (jfL d x)).length-b))/\(decide ((b:Int)<(jhX d x))=false->(∃(a:Nat),((0=(a:Int)/\True)/\True)/\a<=(jgQ d x).length/\∀(j:Nat),j<a->wa (nth (jgQ d x) j) (0:Int) 99=true)/\∀(a:Nat),(a<=(jgQ d x).length/\∀(j:Nat),j<a->wa (nth (jgQ d x) j) (0:Int) 99=true)->(jfL d x).2.2.2.1.length<4611686018427387904->(decide ((a:Int)<(jiz d x))=true->0<=(a:Int)/\(a:Int)<(jiz d x)/\((!wa (nth (jfL d x).2.2.2.1 (a:Int).toNat) (0:Int) (99:Int))=true->(false,())=(wu d.1,()))/\((!wa (nth (jfL d x).2.2.2.1 (a:Int).toNat) (0:Int) (99:Int))=false->wn ((a:Int)+1)/\∃(c:Nat),(((a:Int)+1=(c:Int)/\True)/\True)/\(c<=(jgQ d x).length/\∀(j:Nat),j<c->wa (nth (jgQ d x) j) (0:Int) 99=true)/\(jgQ d x).length-c<(jgQ d x).length-a))/\(decide ((a:Int)<(jiz d x))=false->wn ((x:Int)+1)/\∃(c:Nat),(((x:Int)+1=(c:Int)/\True)/\True)/\(c<=(wj d.1).length/\∀(j:Nat),j<c->fR (U.la d.1) (nth (wj d.1) j)=true)/\(wj d.1).length-c<(wj d.1).length-x)))))/\(decide ((x:Int)<(jhZ d))=false->(∃(x:Nat),((0=(x:Int)/\True)/\True)/\x<=(yX d.1).length/\∀(j:Nat),j<x->fS (nth (yX d.1) j)=true)/\∀(x:Nat),(x<=(yX d.1).length/\∀(j:Nat),j<x->fS (nth (yX d.1) j)=true)->d.1.2.2.1.length<4611686018427387904->(decide ((x:Int)<(jhY d))=true->0<=(x:Int)/\(x:Int)<(jhY d)/\((!!wa (jiA d x).1 (1:Int) (5:Int))=true->0<=(x:Int))/\((!!wa (jiA d x).1 (1:Int) (5:Int))=true->(x:Int)<(jhY d))/\((jj1 d x)=true->(false,())=(wu d.1,()))/\((jj1 d x)=false->wn ((x:Int)+1)/\∃(c:Nat),(((x:Int)+1=(c:Int)/\True)/\True)/\(c<=(yX d.1).length/\∀(j:Nat),j<c->fS (nth (yX d.1) j)=true)/\(yX d.1).length-c<(yX d.1).length-x))/\(decide ((x:Int)<(jhY d))=false->(true,())=(wu d.1,()))))
def Oe:wS:=⟨[.val tCr,.val tJb],[.bool],false,fun d=>[wu d.1=true],fun d=>(qb d.1 d.2.1,())⟩
def Of:Prop:=∀(d:CrD×JbD×Unit),wu d.1=true->wn (d.1.1-1)/\(wa d.2.1.1 (0:Int) (d.1.1-1)=true->wn (d.1.1-1))/\(wa d.2.1.1 (0:Int) (d.1.1-1)&&wa d.2.1.2.1 (0:Int) (d.1.1-1)&&decide (d.2.1.1≠d.2.1.2.1)&&wa d.2.1.2.2.1 (0:Int) (99:Int)&&wa d.2.1.2.2.2.1 (0:Int) (7:Int)&&wa d.2.1.q4.1 (0:Int) (3:Int)&&wa d.2.1.q4.2.1 (1:Int) (8:Int),())=(qb d.1 d.2.1,())
def SI:wS:=⟨[.val tPe,.val .int],[.bool],false,fun _=>[],fun d=>(cT d.1 d.2.1,())⟩
def SJ:Ann:=fun r=>match r with
 |2=>some fun σ=>{X:=Nat,sl:=fun i=>[(5,.dat .int (i:Int))],ob:=fun _=>[],inv:=fun i=>i<=(vj (gb tPe σ 2)).length/\∀j:Nat,j<i->nth (vj (gb tPe σ 2)) j≠gd .int σ 1,mu:=fun i=>(vj (gb tPe σ 2)).length-i}
 |_=>none
def SK:Prop:=∀(d:PeD×Int×Unit),(∃(x:Nat),((0=(x:Int)/\True)/\True)/\x<=(vj d.1).length/\∀(j:Nat),j<x->nth (vj d.1) j≠d.2.1)/\∀(x:Nat),(x<=(vj d.1).length/\∀(j:Nat),j<x->nth (vj d.1) j≠d.2.1)->d.1.2.2.2.1.length<4611686018427387904->(decide ((x:Int)<d.1.2.2.2.1.length)=true->0<=(x:Int)/\(x:Int)<d.1.2.2.2.1.length/\(decide (nth d.1.2.2.2.1 (x:Int).toNat=d.2.1)=true->(true,())=(cT d.1 d.2.1,()))/\(decide (nth d.1.2.2.2.1 (x:Int).toNat=d.2.1)=false->wn ((x:Int)+1)/\∃(a:Nat),(((x:Int)+1=(a:Int)/\True)/\True)/\(a<=(vj d.1).length/\∀(j:Nat),j<a->nth (vj d.1) j≠d.2.1)/\(vj d.1).length-a<(vj d.1).length-x))/\(decide ((x:Int)<d.1.2.2.2.1.length)=false->(false,())=(cT d.1 d.2.1,()))
def Ik:wS:=⟨[.val tCr,.val tJb,.val .int],[.bool],false,fun d=>[0<=d.2.2.1/\d.2.2.1<((wj d.1).length:Int),qb d.1 d.2.1=true],fun d=>(qN d.1 d.2.1 d.2.2.1,())⟩
abbrev jhw (d:CrD×JbD×Int×Unit):=(nth d.1.2.1 d.2.2.1.toNat)
def Il:Prop:=∀(d:CrD×JbD×Int×Unit),0<=d.2.2.1/\d.2.2.1<(↑(wj d.1).length:Int)->qb d.1 d.2.1=true->0<=d.2.2.1/\d.2.2.1<(d.1.2.1.length:Int)/\((!cT (jhw d) d.2.1.2.2.1)=true->0<=d.2.1.2.2.2.1/\d.2.1.2.2.2.1<=63)/\((!cT (jhw d) d.2.1.2.2.1&&qf (jhw d).2.1 d.2.1.2.2.2.1)=true->0<=d.2.1.q4.1/\d.2.1.q4.1<=63)/\(!cT (jhw d) d.2.1.2.2.1&&qf (jhw d).2.1 d.2.1.2.2.2.1&&qf (jhw d).2.2.1 d.2.1.q4.1,())=(qN d.1 d.2.1 d.2.2.1,())
def SL:wS:=⟨[.val .int],[.int],false,fun d=>[BT.qd d.1],fun d=>(BT.size d.1,())⟩
def SM:Ann:=fun r=>match r with
 |2=>some fun σ=>{X:=Nat,sl:=fun j=>[(0,.dat .int (qO (gd .int σ 0) j)),(3,.dat .int (BT.size (gd .int σ 0)-BT.size (qO (gd .int σ 0) j)))],ob:=fun _=>[],inv:=fun j=>BT.qd (qO (gd .int σ 0) j),mu:=fun j=>(qO (gd .int σ 0) j).toNat}
 |_=>none
def SN:Prop:=∀(d:Int×Unit),BT.qd d.1->(∃(x:Nat),((d.1=qO d.1 x/\0=BT.size d.1-BT.size (qO d.1 x)/\True)/\True)/\BT.qd (qO d.1 x))/\∀(x:Nat),BT.qd (qO d.1 x)->(decide (0<qO d.1 x)=true->wn (BT.size d.1-BT.size (qO d.1 x)+fZ (qO d.1 x) (1:Int))/\(0:Int)<=1/\(1:Int)<=64/\∃(a:Nat),((qO d.1 x/(2:Int)^Int.toNat 1=qO d.1 a/\BT.size d.1-BT.size (qO d.1 x)+fZ (qO d.1 x) 1=BT.size d.1-BT.size (qO d.1 a)/\True)/\True)/\BT.qd (qO d.1 a)/\(qO d.1 a).toNat<(qO d.1 x).toNat)/\(decide (0<qO d.1 x)=false->(BT.size d.1-BT.size (qO d.1 x),())=(BT.size d.1,()))
def Og:wS:=⟨[.val tCr,.val .int,.val .int,.val .int,.val .int],[.bool],false,fun d=>[wu d.1=true,0<=d.2.2.2.1/\d.2.2.2.1<U.la d.1,0<=d.2.2.2.2.1/\d.2.2.2.2.1<U.la d.1],fun d=>(lu d.1 d.2.1 d.2.2.1 d.2.2.2.1 d.2.2.2.2.1,())⟩
def Oh:Ann:=fun r=>match r with
 |2=>some fun σ=>{X:=Nat,sl:=fun i=>[(11,.dat .int (i:Int))],ob:=fun _=>[],inv:=fun i=>i<=(wj (gb tCr σ 5)).length/\∀j:Nat,j<i->(qf (gd .int σ 1) (j:Int)&&decide (gd .int σ 2<=nth (U.lv (nth (wj (gb tCr σ 5)) j)) (gd .int σ 3).toNat)&&decide (gd .int σ 2<=nth (U.lv (nth (wj (gb tCr σ 5)) j)) (gd .int σ 4).toNat))=false,mu:=fun i=>(wj (gb tCr σ 5)).length-i}
 |_=>none
abbrev jji (d:CrD×Int×Int×Int×Int×Unit)(j:Nat):=(qf d.2.1 (j:Int)&&decide (d.2.2.1<=nth (U.lv (nth (wj d.1) j)) d.2.2.2.1.toNat)&&decide (d.2.2.1<=nth (U.lv (nth (wj d.1) j)) d.q4.1.toNat))
abbrev jj2 (d:CrD×Int×Int×Int×Int×Unit)(x:Nat):=(d.2.2.1<=nth (nth d.1.2.1 (x:Int).toNat).1 d.2.2.2.1.toNat)
abbrev jj3 (d:CrD×Int×Int×Int×Int×Unit)(x:Nat):=(qf d.2.1 (x:Int)&&decide (jj2 d x)&&decide (d.2.2.1<=nth (nth d.1.2.1 (x:Int).toNat).1 d.q4.1.toNat))
abbrev jiB (d:CrD×Int×Int×Int×Int×Unit)(x:Nat):=(qf d.2.1 (x:Int)&&decide (jj2 d x))
def Oi:Prop:=∀(d:CrD×Int×Int×Int×Int×Unit),wu d.1=true->0<=d.2.2.2.1/\d.2.2.2.1<U.la d.1->0<=d.q4.1/\d.q4.1<U.la d.1->(∃(x:Nat),((0=(x:Int)/\True)/\True)/\x<=(wj d.1).length/\∀(j:Nat),j<x->(jji d j)=false)/\∀(x:Nat),(x<=(wj d.1).length/\∀(j:Nat),j<x->(jji d j)=false)->d.1.2.1.length<4611686018427387904->(decide ((x:Int)<d.1.2.1.length)=true->(0<=(x:Int)/\(x:Int)<=63)/\(qf d.2.1 (x:Int)=true->0<=(x:Int))/\(qf d.2.1 (x:Int)=true->(x:Int)<d.1.2.1.length)/\(qf d.2.1 (x:Int)=true->0<=d.2.2.2.1)/\(qf d.2.1 (x:Int)=true->d.2.2.2.1<(↑(nth d.1.2.1 (x:Int).toNat).1.length:Int))/\((jiB d x)=true->0<=(x:Int))/\((jiB d x)=true->(x:Int)<d.1.2.1.length)/\((jiB d x)=true->0<=d.q4.1)/\((jiB d x)=true->d.q4.1<(↑(nth d.1.2.1 (x:Int).toNat).1.length:Int))/\((jj3 d x)=true->(true,())=(lu d.1 d.2.1 d.2.2.1 d.2.2.2.1 d.q4.1,()))/\((jj3 d x)=false->wn ((x:Int)+1)/\∃(a:Nat),(((x:Int)+1=(a:Int)/\True)/\True)/\(a<=(wj d.1).length/\∀(j:Nat),j<a->(jji d j)=false)/\(wj d.1).length-a<(wj d.1).length-x))/\(decide ((x:Int)<d.1.2.1.length)=false->(false,())=(lu d.1 d.2.1 d.2.2.1 d.2.2.2.1 d.q4.1,()))
def WB:wS:=⟨[.val tCr,.val .int,.val .int,.val .int],[.slice .int],false,fun d=>[wu d.1=true,0<=d.2.2.2.1/\d.2.2.2.1<U.la d.1],fun d=>(nr d.1 d.2.1 d.2.2.1 d.2.2.2.1,())⟩
def WC:Ann:=fun r=>match r with
 |3=>some fun σ=>{X:=Nat,sl:=fun i=>[(10,.dat .int (i:Int)),(9,.own 9 .int)],ob:=fun i=>[(9,some (.row 3 .int false .yes (List.replicate i (-1))))],inv:=fun i=>i<=(U.la (gb tCr σ 4)).toNat,mu:=fun i=>(U.la (gb tCr σ 4)).toNat-i}
 |8=>some fun σ=>{X:=Nat,sl:=fun i=>[(11,.dat .int (i:Int)),(9,.own 9 .int)],ob:=fun i=>[(9,some (.row 3 .int false .yes (qR (U.J3 (gb tCr σ 4) (gd .int σ 1) (gd .int σ 2)) (U.la (gb tCr σ 4)).toNat (gd .int σ 3).toNat i)))],inv:=fun i=>i<=(U.la (gb tCr σ 4)).toNat,mu:=fun i=>(U.la (gb tCr σ 4)).toNat-i}
 |11=>some fun σ=>{X:=Nat,sl:=fun i=>[(12,.dat .int (i:Int)),(9,.own 9 .int)],ob:=fun i=>[(9,some (.row 3 .int false .yes (ya (U.J3 (gb tCr σ 4) (gd .int σ 1) (gd .int σ 2)) (U.la (gb tCr σ 4)).toNat (gd .int σ 11).toNat (gr .int σ 9) i)))],inv:=fun i=>i<=(U.la (gb tCr σ 4)).toNat,mu:=fun i=>(U.la (gb tCr σ 4)).toNat-i}
 |14=>some fun σ=>{X:=Nat,sl:=fun i=>[(13,.dat .int (i:Int)),(9,.own 9 .int)],ob:=fun i=>[(9,some (.row 3 .int false .yes (yF (U.J3 (gb tCr σ 4) (gd .int σ 1) (gd .int σ 2)) (gd .int σ 11).toNat (gd .int σ 12).toNat (gr .int σ 9) i)))],inv:=fun i=>i<=(U.la (gb tCr σ 4)).toNat,mu:=fun i=>(U.la (gb tCr σ 4)).toNat-i}
 |_=>none
abbrev jfY (d:CrD×Int×Int×Int×Unit):=(U.J3 d.1 d.2.1 d.2.2.1)
abbrev jh0 (d:CrD×Int×Int×Int×Unit)(x:Nat):=(qR (jfY d) (U.la d.1).toNat d.2.2.2.1.toNat x)
abbrev jhx (d:CrD×Int×Int×Int×Unit)(x:Nat)(a:Nat):=(ya (jfY d) (U.la d.1).toNat (x:Int).toNat (jh0 d x) a)
abbrev jg9 (d:CrD×Int×Int×Int×Unit)(x:Nat)(a:Nat)(b:Nat):=(yF (jfY d) (x:Int).toNat (a:Int).toNat (jhx d x a) b)
abbrev jiC (d:CrD×Int×Int×Int×Unit)(x:Nat)(a:Nat)(b:Nat):=(nth (jg9 d x a b) (a:Int).toNat=(x:Int))
abbrev jjj (d:CrD×Int×Int×Int×Unit)(x:Nat)(b:Nat)(a:Nat):=(decide (jiC d x b a)&&decide (nth (jg9 d x b a) (a:Int).toNat<0))
abbrev jj4 (d:CrD×Int×Int×Int×Unit)(x:Nat)(b:Nat)(a:Nat):=(decide (jiC d x b a)&&decide (nth (jg9 d x b a) (a:Int).toNat<0)&&lu d.1 d.2.1 d.2.2.1 (b:Int) (a:Int))
def WD:Prop:=∀(d:CrD×Int×Int×Int×Unit),wu d.1=true->0<=d.2.2.2.1/\d.2.2.2.1<U.la d.1->(∃(x:Nat),((0=(x:Int)/\True/\True)/\List.replicate x (-1:Int)=[]/\True)/\x<=(U.la d.1).toNat)/\∀(x:Nat),x<=(U.la d.1).toNat->(decide ((x:Int)<d.1.1)=true->((List.replicate x (-1:Int)).length+[(-1:Int)].length)*8<=140737488355328/\wn ((x:Int)+1)/\∃(c:Nat),(((x:Int)+1=(c:Int)/\True/\True)/\List.replicate x (-1:Int)++[(-1:Int)]=List.replicate c (-1:Int)/\True)/\c<=(U.la d.1).toNat/\(U.la d.1).toNat-c<(U.la d.1).toNat-x)/\(decide ((x:Int)<d.1.1)=false->0<=d.2.2.2.1/\d.2.2.2.1<(↑(List.replicate x (-1:Int)).length:Int)/\(∃(e:Nat),((0=(e:Int)/\True/\True)/\(List.replicate x (-1:Int)).set d.2.2.2.1.toNat 0=qR (jfY d) (U.la d.1).toNat d.2.2.2.1.toNat e/\True)/\e<=(U.la d.1).toNat)/\∀(x:Nat),x<=(U.la d.1).toNat->(decide ((x:Int)<d.1.1)=true->(∃(a:Nat),((0=(a:Int)/\True/\True)/\qR (jfY d) (U.la d.1).toNat d.2.2.2.1.toNat x=ya (jfY d) (U.la d.1).toNat (x:Int).toNat (jh0 d x) a/\True)/\a<=(U.la d.1).toNat)/\∀(a:Nat),a<=(U.la d.1).toNat->(decide ((a:Int)<d.1.1)=true->(∃(b:Nat),((0=(b:Int)/\True/\True)/\ya (jfY d) (U.la d.1).toNat (x:Int).toNat (jh0 d x) a=yF (jfY d) (x:Int).toNat (a:Int).toNat (jhx d x a) b/\True)/\b<=(U.la d.1).toNat)/\∀(b:Nat),b<=(U.la d.1).toNat->(decide ((b:Int)<d.1.1)=true->0<=(a:Int)/\(a:Int)<(jg9 d x a b).length/\(decide (jiC d x a b)=true->0<=(b:Int))/\(decide (jiC d x a b)=true->(b:Int)<(jg9 d x a b).length)/\((jjj d x a b)=true->wu d.1=true)/\((jjj d x a b)=true->0<=(a:Int)/\(a:Int)<U.la d.1)/\((jjj d x a b)=true->0<=(b:Int)/\(b:Int)<U.la d.1)/\((jj4 d x a b)=true->wn ((x:Int)+1)/\0<=(b:Int)/\(b:Int)<(jg9 d x a b).length/\wn ((b:Int)+1)/\∃(c:Nat),((True/\(b:Int)+1=(c:Int)/\True)/\(jg9 d x a b).set (b:Int).toNat ((x:Int)+1)=yF (jfY d) (x:Int).toNat (a:Int).toNat (jhx d x a) c/\True)/\c<=(U.la d.1).toNat/\(U.la d.1).toNat-c<(U.la d.1).toNat-b)/\((jj4 d x a b)=false->wn ((b:Int)+1)/\∃(c:Nat),((True/\(b:Int)+1=(c:Int)/\True)/\yF (jfY d) (x:Int).toNat (a:Int).toNat (jhx d x a) b=yF (jfY d) (x:Int).toNat (a:Int).toNat (jhx d x a) c/\True)/\c<=(U.la d.1).toNat/\(U.la d.1).toNat-c<(U.la d.1).toNat-b))/\(decide ((b:Int)<d.1.1)=false->wn ((a:Int)+1)/\∃(c:Nat),(((a:Int)+1=(c:Int)/\True/\True)/\yF (jfY d) (x:Int).toNat (a:Int).toNat (jhx d x a) b=ya (jfY d) (U.la d.1).toNat (x:Int).toNat (jh0 d x) c/\True)/\c<=(U.la d.1).toNat/\(U.la d.1).toNat-c<(U.la d.1).toNat-a))/\(decide ((a:Int)<d.1.1)=false->wn ((x:Int)+1)/\∃(c:Nat),(((x:Int)+1=(c:Int)/\True/\True)/\ya (jfY d) (U.la d.1).toNat (x:Int).toNat (jh0 d x) a=qR (jfY d) (U.la d.1).toNat d.2.2.2.1.toNat c/\True)/\c<=(U.la d.1).toNat/\(U.la d.1).toNat-c<(U.la d.1).toNat-x))/\(decide ((x:Int)<d.1.1)=false->(qR (jfY d) (U.la d.1).toNat d.2.2.2.1.toNat x,())=(nr d.1 d.2.1 d.2.2.1 d.2.2.2.1,())))
def K4:wS:=⟨[.val tCr,.val tJb,.val .int],[.int],false,fun d=>[wu d.1=true,qb d.1 d.2.1=true,X5 d.2.2.1],fun d=>(Ui d.1 d.2.1 d.2.2.1,())⟩
def K5:Ann:=fun r=>match r with
 |5=>some fun σ=>{X:=Nat,sl:=fun i=>[(10,.dat .int (i:Int)),(8,.dat .int (qz (gb tCr σ 3) (gb tJb σ 4) (gd .int σ 2) i).1),(9,.dat .bool (qz (gb tCr σ 3) (gb tJb σ 4) (gd .int σ 2) i).2)],ob:=fun _=>[],inv:=fun i=>i<=(wj (gb tCr σ 3)).length,mu:=fun i=>(wj (gb tCr σ 3)).length-i}
 |_=>none
abbrev jfJ (d:CrD×JbD×Int×Unit)(x:Nat):=(qz d.1 d.2.1 d.2.2.1 x)
abbrev jh1 (d:CrD×JbD×Int×Unit)(x:Nat):=(nth d.1.2.1 (x:Int).toNat)
abbrev jfR (d:CrD×JbD×Int×Unit)(a:Nat):=(qz d.1 d.2.1 d.2.2.1 a)
abbrev jgR (d:CrD×JbD×Int×Unit)(x:Nat):=(!qf (jh1 d x).2.2.1 d.2.1.q4.1)
abbrev jgS (d:CrD×JbD×Int×Unit)(x:Nat):=((jfJ d x).2||(jh1 d x).q4.1)
abbrev jha (d:CrD×JbD×Int×Unit):=(nth d.1.2.2.1 d.2.1.q4.1.toNat)
abbrev jh2 (d:CrD×JbD×Int×Unit):=(nr d.1 d.2.2.1 (jha d).1 d.2.1.1)
abbrev jgT (d:CrD×JbD×Int×Unit):=(nth (jh2 d) d.2.1.2.1.toNat<0)
abbrev jgU (d:CrD×JbD×Int×Unit):=(Ui d.1 d.2.1 d.2.2.1,())
abbrev jiD (d:CrD×JbD×Int×Unit):=(0<=d.2.1.q4.1/\d.2.1.q4.1<=63)
abbrev jiE (d:CrD×JbD×Int×Unit):=(0<=d.2.1.1/\d.2.1.1<U.la d.1)
abbrev jiF (d:CrD×JbD×Int×Unit)(x:Nat):=(!qf (jh1 d x).2.1 d.2.1.2.2.2.1)
def K6:Prop:=∀(d:CrD×JbD×Int×Unit),wu d.1=true->qb d.1 d.2.1=true->X5 d.2.2.1->0<=d.2.1.q4.1/\d.2.1.q4.1<(d.1.2.2.1.length:Int)/\(∃(x:Nat),((0=(x:Int)/\0=(jfJ d x).1/\false=(jfJ d x).2/\True)/\True)/\x<=(wj d.1).length)/\∀(x:Nat),x<=(wj d.1).length->d.1.2.1.length<4611686018427387904->(decide ((x:Int)<d.1.2.1.length)=true->(0<=(x:Int)/\(x:Int)<=63)/\((!qf d.2.2.1 (x:Int))=true->wn ((x:Int)+1)/\∃(a:Nat),(((jfJ d x).2=(jfR d a).2/\(jfJ d x).1=(jfR d a).1/\(x:Int)+1=(a:Int)/\True)/\True)/\a<=(wj d.1).length/\(wj d.1).length-a<(wj d.1).length-x)/\((!qf d.2.2.1 (x:Int))=false->0<=(x:Int)/\(x:Int)<d.1.2.1.length/\(cT (jh1 d x) d.2.1.2.2.1=true->(0<=d.2.1.2.2.2.1/\d.2.1.2.2.2.1<=63)/\((jiF d x)=true->(jiD d)/\((jgR d x)=true->wn ((x:Int)+1)/\∃(a:Nat),(((x:Int)+1=(a:Int)/\(jgS d x)=(jfR d a).2/\bor (bor (bor (jfJ d x).1 (1:Int)) (2:Int)) 4=(jfR d a).1/\True)/\True)/\a<=(wj d.1).length/\(wj d.1).length-a<(wj d.1).length-x)/\((jgR d x)=false->wn ((x:Int)+1)/\∃(a:Nat),(((x:Int)+1=(a:Int)/\(jgS d x)=(jfR d a).2/\bor (bor (jfJ d x).1 (1:Int)) 2=(jfR d a).1/\True)/\True)/\a<=(wj d.1).length/\(wj d.1).length-a<(wj d.1).length-x))/\((jiF d x)=false->(jiD d)/\((jgR d x)=true->wn ((x:Int)+1)/\∃(a:Nat),(((x:Int)+1=(a:Int)/\(jgS d x)=(jfR d a).2/\bor (bor (jfJ d x).1 (1:Int)) 4=(jfR d a).1/\True)/\True)/\a<=(wj d.1).length/\(wj d.1).length-a<(wj d.1).length-x)/\((jgR d x)=false->wn ((x:Int)+1)/\∃(a:Nat),(((x:Int)+1=(a:Int)/\(jgS d x)=(jfR d a).2/\bor (jfJ d x).1 1=(jfR d a).1/\True)/\True)/\a<=(wj d.1).length/\(wj d.1).length-a<(wj d.1).length-x)))/\(cT (jh1 d x) d.2.1.2.2.1=false->(0<=d.2.1.2.2.2.1/\d.2.1.2.2.2.1<=63)/\((jiF d x)=true->(jiD d)/\((jgR d x)=true->wn ((x:Int)+1)/\∃(a:Nat),(((x:Int)+1=(a:Int)/\(jgS d x)=(jfR d a).2/\bor (bor (jfJ d x).1 (2:Int)) 4=(jfR d a).1/\True)/\True)/\a<=(wj d.1).length/\(wj d.1).length-a<(wj d.1).length-x)/\((jgR d x)=false->wn ((x:Int)+1)/\∃(a:Nat),(((x:Int)+1=(a:Int)/\(jgS d x)=(jfR d a).2/\bor (jfJ d x).1 2=(jfR d a).1/\True)/\True)/\a<=(wj d.1).length/\(wj d.1).length-a<(wj d.1).length-x))/\((jiF d x)=false->(jiD d)/\((jgR d x)=true->wn ((x:Int)+1)/\∃(a:Nat),(((x:Int)+1=(a:Int)/\(jgS d x)=(jfR d a).2/\bor (jfJ d x).1 4=(jfR d a).1/\True)/\True)/\a<=(wj d.1).length/\(wj d.1).length-a<(wj d.1).length-x)/\((jgR d x)=false->wn ((x:Int)+1)/\∃(a:Nat),(((jfJ d x).1=(jfR d a).1/\(x:Int)+1=(a:Int)/\(jgS d x)=(jfR d a).2/\True)/\True)/\a<=(wj d.1).length/\(wj d.1).length-a<(wj d.1).length-x)))))/\(decide ((x:Int)<d.1.2.1.length)=false->BT.qd d.2.2.1/\(decide (BT.size d.2.2.1≠max d.2.1.q4.2.1 (jha d).2.1)=true->(((jha d).2.2.1&& !(jfJ d x).2)=true->wu d.1=true/\(jiE d)/\0<=d.2.1.2.1/\d.2.1.2.1<(↑(jh2 d).length:Int)/\(decide (jgT d)=true->(bor (bor (bor (jfJ d x).1 (8:Int)) (16:Int)) (32:Int),())=(jgU d))/\(decide (jgT d)=false->(bor (bor (jfJ d x).1 (8:Int)) (16:Int),())=(jgU d)))/\(((jha d).2.2.1&& !(jfJ d x).2)=false->wu d.1=true/\(jiE d)/\0<=d.2.1.2.1/\d.2.1.2.1<(↑(jh2 d).length:Int)/\(decide (jgT d)=true->(bor (bor (jfJ d x).1 (8:Int)) (32:Int),())=(jgU d))/\(decide (jgT d)=false->(bor (jfJ d x).1 (8:Int),())=(jgU d))))/\(decide (BT.size d.2.2.1≠max d.2.1.q4.2.1 (jha d).2.1)=false->(((jha d).2.2.1&& !(jfJ d x).2)=true->wu d.1=true/\(jiE d)/\0<=d.2.1.2.1/\d.2.1.2.1<(↑(jh2 d).length:Int)/\(decide (jgT d)=true->(bor (bor (jfJ d x).1 (16:Int)) (32:Int),())=(jgU d))/\(decide (jgT d)=false->(bor (jfJ d x).1 (16:Int),())=(jgU d)))/\(((jha d).2.2.1&& !(jfJ d x).2)=false->wu d.1=true/\(jiE d)/\0<=d.2.1.2.1/\d.2.1.2.1<(↑(jh2 d).length:Int)/\(decide (jgT d)=true->(bor (jfJ d x).1 (32:Int),())=(jgU d))/\(decide (jgT d)=false->((jfJ d x).1,())=(jgU d)))))
def SO:wS:=⟨[.val tCr,.val tJb,.val .int],[.bool],false,fun d=>[wu d.1=true,qb d.1 d.2.1=true,X5 d.2.2.1],fun d=>(Ev d.1 d.2.1 d.2.2.1,())⟩
def SP:Prop:=∀(d:CrD×JbD×Int×Unit),wu d.1=true->qb d.1 d.2.1=true->X5 d.2.2.1->(decide (0<d.2.2.1)=true->wu d.1=true)/\(decide (0<d.2.2.1)=true->qb d.1 d.2.1=true)/\(decide (0<d.2.2.1)=true->X5 d.2.2.1)/\(decide (0<d.2.2.1)&&decide (Ui d.1 d.2.1 d.2.2.1=0),())=(Ev d.1 d.2.1 d.2.2.1,())
theorem Oj:K0:=by
 rintro⟨n,a,b,⟨⟩⟩;rfl
theorem xJ:wZ PR 135 KZ:=wL Oj Tryz.func135 kcN koN
theorem Zs:WA:=by
 rintro⟨s,n,⟨⟩⟩ ⟨a,b⟩;have a:0<=n:=a;have b:n<=63:=b;exact⟨a,by show n<=18446744073709551615;omega,a,by show n<=64;omega,rfl⟩
theorem tp:wZ PR 19 Wz:=wL Zs Tryz.func19 kcN koN
theorem Zt (c:CrD) (j:JbD):(wa (Mw j) 0 (U.la c-1)&&wa (G8 j) 0 (U.la c-1)&&decide (Mw j≠G8 j)&&wa (Yh j) 0 99&&wa (PM j) 0 7&&wa (eE j) 0 3&&wa (jad j) 1 8)=qb c j:=by
 unfold qb wa;rw[jZ];simp only[ji,jp,ne_eq];constructor;rintro⟨⟨⟨⟨⟨⟨⟨f,g⟩,h,i⟩,k⟩,l,m⟩,n,o⟩,a,b⟩,d,e⟩;exact⟨f,g,h,i,k,l,m,n,o,a,b,d,e⟩;rintro⟨f,g,h,i,k,l,m,n,o,a,b,d,e⟩;exact⟨⟨⟨⟨⟨⟨⟨f,g⟩,h,i⟩,k⟩,l,m⟩,n,o⟩,a,b⟩,d,e⟩
theorem SQ:Of:=by
 unfold Of Prod.q4;rintro⟨c,j,⟨⟩⟩ h;have h:wu c=true:=h;have d:=w8 h;have a:wn (U.la c-1):=iZ6;refine⟨a,fun _=>a,?_⟩;exact jE (fun b=>(b,())) (Zt c j)
theorem Ol:wZ PR 92 Oe:=wL SQ Tryz.func92 (kcC xJ kcN) koN
theorem WE:SK:=by
 rintro⟨p,n,⟨⟩⟩;refine⟨⟨0,⟨⟨rfl,tZ⟩,tZ⟩,jm _,fun j d=>by omega⟩,fun x b c=>⟨fun h=> ?_,fun h=> ?_⟩⟩;have c:(vj p).length<4611686018427387904:=c;have h:(x:Int)<(vj p).length:=ja h;refine⟨by omega,h,fun a=> ?_,fun a=>⟨iZ6,x+1,⟨⟨by simp,tZ⟩,tZ⟩,⟨by show x+1<=(vj p).length;omega,fun j d=> ?_⟩,by show(vj p).length-(x+1)<(vj p).length-x;omega⟩⟩;have a:nth (vj p) x=n:=ja a;have:cT p n=true:=by
  unfold cT;rw[za];exact⟨_,L.wi (l:=vj p) (i:=x) (by omega),by simpa using a⟩
 show(true,())=(cT p n,());rw[this];have a:¬nth (vj p) x=n:=jc a;by_cases e:j=x;subst e;exact a;exact b.2 j (by omega);have h:¬(x:Int)<(vj p).length:=jc h;have g:x<=(vj p).length:=b.1;have:cT p n=false:=by
  unfold cT;rw[zi];intro t f;obtain⟨i,hi,rfl⟩:=L.mem_iff.1 f;have:=b.2 i (by omega);have this:nth (vj p) i≠n:=this;simpa using this
 show(false,())=(cT p n,());rw[this]
theorem GS:wZ PR 112 SI:=vl SJ WE Tryz.func112 kcN koN
theorem WG {c:CrD} {j:JbD} (h:qb c j=true):(0<=Mw j/\Mw j<U.la c)/\(0<=G8 j/\G8 j<U.la c)/\(0<=PM j/\PM j<=7)/\(0<=eE j/\eE j<=3)/\1<=jad j/\jad j<=8:=by
 unfold qb at h;have:=ja h;omega
theorem K7:Il:=by
 unfold Il jhw Prod.q4;rintro⟨c,j,p,⟨⟩⟩ ⟨b,d⟩ a;have a:qb c j=true:=a;obtain⟨_,_,f,k,_⟩:=WG a;exact⟨b,d,fun _=>⟨f.1,by show PM j<=63;omega⟩,fun _=>⟨k.1,by show eE j<=63;omega⟩,rfl⟩
theorem Im:wZ PR 148 Ik:=wL K7 Tryz.func148 (kcC GS (kcC tp kcN)) koN
theorem K8:SN:=by
 rintro⟨s,⟨⟩⟩ d;have d:BT.qd s:=d;have e:=BT.BB s;refine⟨⟨0,⟨⟨rfl,by show(0:Int)=BT.size s-BT.size s;omega,tZ⟩,tZ⟩,d⟩,fun x a=>⟨fun h=> ?_,fun h=> ?_⟩⟩;have h:0<qO s x:=ja h;have a:BT.qd (qO s x):=a;have g:=BT.size_half a;have i:=BT.BB (qO s x);have j:fZ (qO s x) 1=(qO s x)%2:=by
  obtain⟨n,f,c⟩:=BT.nat_of a;rw[f,show(1:Int)=((1:Nat):Int) from rfl,BT.band_nat (BT.lt63 c) (by decide),kF];omega
 have b:qO s (x+1)=qO s x/2:=(by show qO s x/2^1=_;simp);unfold BT.qd at a;refine⟨?_,by decide,by decide,x+1,⟨⟨rfl,?_,tZ⟩,tZ⟩,?_,?_⟩;show wn (BT.size s-BT.size (qO s x)+fZ (qO s x) 1);exact iZ6;show BT.size s-BT.size (qO s x)+fZ (qO s x) 1=BT.size s-BT.size (qO s (x+1));rw[b];omega;show BT.qd (qO s (x+1));rw[b];unfold BT.qd;omega;show(qO s (x+1)).toNat<(qO s x).toNat;rw[b];omega;have h:¬0<qO s x:=jc h;have a:BT.qd (qO s x):=a;unfold BT.qd at a;have:qO s x=0:=(by omega);show(BT.size s-BT.size (qO s x),())=(BT.size s,());rw[this,BT.size_zero];simp
theorem SR:wZ PR 113 SL:=vl SM K8 Tryz.func113 kcN koN
theorem WH:SP:=by
 rintro⟨c,j,t,⟨⟩⟩ a b d;exact⟨fun _=>a,fun _=>b,fun _=>d,rfl⟩
theorem jdK {c:CrD} (h:wu c=true) {i:Nat} (hi:i<(wj c).length):((U.lv (nth (wj c) i)).length:Int)=U.la c:=by
 have:=(w8 h).2.2.2.2.1 _ (L.wi hi);unfold fR at this;simp only[ji,jp] at this;exact this.1.1
theorem SS:Oi:=by
 unfold Oi jiB jj3 jj2 jji Prod.q4;rintro⟨c,t,lev,a,b,⟨⟩⟩ f g k;have f:wu c=true:=f;have g:0<=a/\a<U.la c:=g;have k:0<=b/\b<U.la c:=k;have n:=(w8 f).2.2.1;refine⟨⟨0,⟨⟨rfl,tZ⟩,tZ⟩,jm _,fun j m=>by omega⟩,fun x l _=>⟨fun h=> ?_,fun h=> ?_⟩⟩;have h:(x:Int)<(wj c).length:=ja h;have o:=jdK f (i:=x) (by omega);refine⟨⟨by omega,by omega⟩,fun _=>by omega,fun _=>h,fun _=>g.1,fun _=> ?_,fun _=>by omega,fun _=>h,fun _=>k.1,fun _=> ?_,fun d=> ?_,fun d=>⟨iZ6,x+1,⟨⟨by simp,tZ⟩,tZ⟩,⟨by show x+1<=(wj c).length;omega,fun j m=> ?_⟩,by show(wj c).length-(x+1)<(wj c).length-x;omega⟩⟩;show a<((U.lv (nth (wj c) x)).length:Int);omega;show b<((U.lv (nth (wj c) x)).length:Int);omega;have d:(qf t (x:Int)&&decide (lev<=nth (U.lv (nth (wj c) x)) a.toNat)&&decide (lev<=nth (U.lv (nth (wj c) x)) b.toNat))=true:=d;have:lu c t lev a b=true:=by
  unfold lu;rw[za];exact⟨x,jG.2 (by omega),d⟩
 show(true,())=(lu c t lev a b,());rw[this];by_cases e:j=x;subst e;exact d;exact l.2 j (by omega);have h:¬(x:Int)<(wj c).length:=jc h;have:lu c t lev a b=false:=by
  unfold lu;rw[zi];intro i hi;have hi:=jG.1 hi;have:=l.2 i (by omega);rw[ki];exact this
 show(false,())=(lu c t lev a b,());rw[this]
theorem Om:wZ PR 150 Og:=vl Oh SS Tryz.func150 (kcC tp kcN) koN
theorem On (J:Nat->Nat->Bool) (r a:Nat) (out:List Int) (b:Nat):(nU J r a out b).length=out.length:=by
 unfold nU
 split
 rw[kg];rfl
theorem K9 (J:Nat->Nat->Bool) (r a:Nat) (out:List Int) (k:Nat):yF J r a out (k+1)=nU J r a (yF J r a out k) k:=by
 unfold yF;rw[zf,jS];rfl
theorem In (J:Nat->Nat->Bool) (r a:Nat) (out:List Int):∀k,(yF J r a out k).length=out.length
 |0=>rfl
 |k+1=>by rw[K9,On,In J r a out k]
theorem La (J:Nat->Nat->Bool) (n r:Nat) (out:List Int) (k:Nat):ya J n r out (k+1)=yF J r k (ya J n r out k) n:=by
 unfold ya;rw[zf,jS];rfl
theorem Io (J:Nat->Nat->Bool) (n r:Nat) (out:List Int):∀k,(ya J n r out k).length=out.length
 |0=>rfl
 |k+1=>by rw[La,In,Io J n r out k]
theorem Lb (J:Nat->Nat->Bool) (n s:Nat) (k:Nat):qR J n s (k+1)=ya J n k (qR J n s k) n:=by
 unfold qR;rw[zf,jS];rfl
theorem Ip (J:Nat->Nat->Bool) (n s:Nat):∀k,(qR J n s k).length=n
 |0=>pD n s
 |k+1=>by rw[Lb,Io,Ip J n s k]
theorem Zu:WD:=by
 unfold WD jj4 jjj jiC jg9 jhx jh0 jfY;rintro⟨c,t,lev,s,⟨⟩⟩ j l;have j:wu c=true:=j;have l:0<=s/\s<U.la c:=l;have r:=w8 j;obtain⟨J,u⟩:∃J,J=U.J3 c t lev:=⟨_,rfl⟩;refine⟨⟨0,⟨⟨rfl,tZ,tZ⟩,rfl,tZ⟩,jm _⟩,fun x i=>⟨fun h=> ?_,fun h=> ?_⟩⟩;have h:(x:Int)<U.la c:=ja h;refine⟨by simp only[zu,jY,zq];omega,iZ6,x+1,⟨⟨by simp,tZ,tZ⟩,?_,tZ⟩,by show x+1<=(U.la c).toNat;omega,by show(U.la c).toNat-(x+1)<(U.la c).toNat-x;omega⟩;exact List.replicate_succ'.symm;have h:¬(x:Int)<U.la c:=jc h;have i:x<=(U.la c).toNat:=i;have f:x=(U.la c).toNat:=(by omega);subst f;refine⟨l.1,by rw[zu];show s<(((U.la c).toNat:Nat):Int);omega,⟨0,⟨⟨rfl,tZ,tZ⟩,rfl,tZ⟩,jm _⟩,fun x i=>⟨fun h=>⟨⟨0,⟨⟨rfl,tZ,tZ⟩,rfl,tZ⟩,jm _⟩,fun y p=>⟨fun e=>⟨⟨0,⟨⟨rfl,tZ,tZ⟩,rfl,tZ⟩,jm _⟩,fun z q=>⟨fun g=> ?_,fun g=> ?_⟩⟩,fun e=> ?_⟩⟩,fun h=> ?_⟩⟩;have h:(x:Int)<U.la c:=ja h;have e:(y:Int)<U.la c:=ja e;have g:(z:Int)<U.la c:=ja g;have d:=K9 (U.J3 c t lev) x y (ya (U.J3 c t lev) (U.la c).toNat x (qR (U.J3 c t lev) (U.la c).toNat s.toNat x) y) z;have b:(yF (U.J3 c t lev) x y (ya (U.J3 c t lev) (U.la c).toNat x (qR (U.J3 c t lev) (U.la c).toNat s.toNat x) y) z).length=(U.la c).toNat:=(by rw[In,Io,Ip]);have up:z+1<=(U.la c).toNat:=(by omega);have o:(U.la c).toNat-(z+1)<(U.la c).toNat-z:=(by omega);refine⟨by omega,by show(y:Int)<(yF (U.J3 c t lev) x y (ya (U.J3 c t lev) (U.la c).toNat x (qR (U.J3 c t lev) (U.la c).toNat s.toNat x) y) z).length;rw[b];omega,fun _=>by omega,fun _=>by show(z:Int)<(yF (U.J3 c t lev) x y (ya (U.J3 c t lev) (U.la c).toNat x (qR (U.J3 c t lev) (U.la c).toNat s.toNat x) y) z).length;rw[b];omega,fun _=>j,fun _=>⟨by omega,e⟩,fun _=>⟨by omega,g⟩,fun a=> ?_,fun a=> ?_⟩;have a:((decide (nth (yF (U.J3 c t lev) x y (ya (U.J3 c t lev) (U.la c).toNat x (qR (U.J3 c t lev) (U.la c).toNat s.toNat x) y) z) y=(x:Int))&&decide (nth (yF (U.J3 c t lev) x y (ya (U.J3 c t lev) (U.la c).toNat x (qR (U.J3 c t lev) (U.la c).toNat s.toNat x) y) z) z<0))&&U.J3 c t lev y z)=true:=a;simp only[ji,jp] at a;refine⟨iZ6,by omega,by show(z:Int)<(yF (U.J3 c t lev) x y (ya (U.J3 c t lev) (U.la c).toNat x (qR (U.J3 c t lev) (U.la c).toNat s.toNat x) y) z).length;rw[b];omega,iZ6,z+1,⟨⟨tZ,by simp,tZ⟩,?_,tZ⟩,up,o⟩;show(yF (U.J3 c t lev) x y (ya (U.J3 c t lev) (U.la c).toNat x (qR (U.J3 c t lev) (U.la c).toNat s.toNat x) y) z).set z ((x:Int)+1)=yF (U.J3 c t lev) x y (ya (U.J3 c t lev) (U.la c).toNat x (qR (U.J3 c t lev) (U.la c).toNat s.toNat x) y) (z+1);rw[d];unfold nU;rw[je ⟨a.1.1,a.1.2,a.2⟩];have a:((decide (nth (yF (U.J3 c t lev) x y (ya (U.J3 c t lev) (U.la c).toNat x (qR (U.J3 c t lev) (U.la c).toNat s.toNat x) y) z) y=(x:Int))&&decide (nth (yF (U.J3 c t lev) x y (ya (U.J3 c t lev) (U.la c).toNat x (qR (U.J3 c t lev) (U.la c).toNat s.toNat x) y) z) z<0))&&U.J3 c t lev y z)=false:=a;refine⟨iZ6,z+1,⟨⟨tZ,by simp,tZ⟩,?_,tZ⟩,up,o⟩;show yF (U.J3 c t lev) x y (ya (U.J3 c t lev) (U.la c).toNat x (qR (U.J3 c t lev) (U.la c).toNat s.toNat x) y) z=yF (U.J3 c t lev) x y (ya (U.J3 c t lev) (U.la c).toNat x (qR (U.J3 c t lev) (U.la c).toNat s.toNat x) y) (z+1);rw[d];unfold nU;rw[jd (fun k=>by rw[jD k.1,jD k.2.1,k.2.2] at a;cases a)];have e:(y:Int)<U.la c:=ja e;have g:¬(z:Int)<U.la c:=jc g;have q:z<=(U.la c).toNat:=q;have n:z=(U.la c).toNat:=(by omega);subst n;refine⟨iZ6,y+1,⟨⟨by simp,tZ,tZ⟩,?_,tZ⟩,by show y+1<=(U.la c).toNat;omega,by show(U.la c).toNat-(y+1)<(U.la c).toNat-y;omega⟩;exact(La (U.J3 c t lev) (U.la c).toNat x (qR (U.J3 c t lev) (U.la c).toNat s.toNat x) y).symm;have h:(x:Int)<U.la c:=ja h;have e:¬(y:Int)<U.la c:=jc e;have p:y<=(U.la c).toNat:=p;have m:y=(U.la c).toNat:=(by omega);subst m;refine⟨iZ6,x+1,⟨⟨by simp,tZ,tZ⟩,?_,tZ⟩,by show x+1<=(U.la c).toNat;omega,by show(U.la c).toNat-(x+1)<(U.la c).toNat-x;omega⟩;exact(Lb (U.J3 c t lev) (U.la c).toNat s.toNat x).symm;have h:¬(x:Int)<U.la c:=jc h;have i:x<=(U.la c).toNat:=i;have f:x=(U.la c).toNat:=(by omega);subst f;rfl
theorem WI:wZ PR 114 WB:=vl WC Zu Tryz.func114 (kcC Om kcN) koN
theorem DC (c:CrD) (j:JbD) (t:Int) (n:Nat):qz c j t (n+1)=PP c j t (qz c j t n) n:=by
 unfold qz;rw[zf,jS];rfl
theorem Lc {c:CrD} {j:JbD} {t:Int} {n:Nat} (h:qf t (n:Int)=false):qz c j t (n+1)=qz c j t n:=by
 rw[DC];unfold PP;rw[h,jd (by simp)]
theorem jb9 {c:CrD} {j:JbD} {t:Int} {n:Nat} {a b d:Bool} (h:qf t (n:Int)=true) (e:cT (nth (wj c) n) (Yh j)=a) (f:(!qf (U.fd (nth (wj c) n)) (PM j))=b) (g:(!qf (U.cl (nth (wj c) n)) (eE j))=d):
 qz c j t (n+1)=(Rn d (Rn b (Rn a (qz c j t n).1 1) 2) 4,(qz c j t n).2||jcR (nth (wj c) n)):=by
 rw[DC];unfold PP;rw[je h,e,f,g]
theorem jdL {c:CrD} {j:JbD} {t:Int} {a b d:Bool} (e:decide (BT.size t≠max (jad j) (jcS (dp c j)))=a) (f:(jey (dp c j)&& !je5 c j t)=b) (g:decide (nth (nr c t (Uu (dp c j)) (Mw j)) (G8 j).toNat<0)=d):
 Ui c j t=Rn d (Rn b (Rn a (je4 c j t) 8) 16) 32:=by
 unfold Ui;rw[e,f,g]
theorem Oo:K6:=by
 unfold K6 jiF jiE jiD jgU jgT jh2 jha jgS jgR jfR jh1 jfJ Prod.q4;rintro⟨c,j,t,⟨⟩⟩ l s u;have l:wu c=true:=l;have s:qb c j=true:=s;have u:X5 t:=u;have A:=(w8 l).2.2.1;have d:=(w8 l).2.2.2.1;obtain⟨q,r,f,k,_⟩:=WG s;have p:0<=PM j/\PM j<=63:=(by omega);have i:0<=eE j/\eE j<=63:=(by omega);have y:BT.qd t:=(by unfold X5 at u;unfold BT.qd;omega);refine⟨k.1,by show eE j<((yX c).length:Int);omega,⟨0,⟨⟨rfl,rfl,rfl,tZ⟩,tZ⟩,jm _⟩,fun x w _=>⟨fun h=> ?_,fun h=> ?_⟩⟩
 .have h:(x:Int)<(wj c).length:=ja h;have up:x+1<=(wj c).length:=(by omega);have m:(wj c).length-(x+1)<(wj c).length-x:=(by omega);have i64:wn ((x:Int)+1):=iZ6;refine⟨⟨by omega,by omega⟩,fun b=> ?_,fun b=> ?_⟩
  .have b:(!qf t (x:Int))=true:=b;have e:=Lc (c:=c) (j:=j) (t:=t) (n:=x) (by simpa using b);exact⟨i64,x+1,⟨⟨jE (·.2) e.symm,jE (·.1) e.symm,by simp,tZ⟩,tZ⟩,up,m⟩
  .have b:(!qf t (x:Int))=false:=b;have b:qf t (x:Int)=true:=(by simpa using b);refine⟨by omega,h,fun o=>⟨p,fun a=>⟨i,fun d=> ?_,fun d=> ?_⟩,fun a=>⟨i,fun d=> ?_,fun d=> ?_⟩⟩,fun o=>⟨p,fun a=>⟨i,fun d=> ?_,fun d=> ?_⟩,fun a=>⟨i,fun d=> ?_,fun d=> ?_⟩⟩⟩
   all_goals
    have e:=jb9 (c:=c) (j:=j) (t:=t) (n:=x) b o a d
    first
    |exact⟨i64,x+1,⟨⟨by simp,jE (·.2) e.symm,jE (·.1) e.symm,tZ⟩,tZ⟩,up,m⟩
    |exact⟨i64,x+1,⟨⟨jE (·.1) e.symm,by simp,jE (·.2) e.symm,tZ⟩,tZ⟩,up,m⟩
    |exact⟨i64,x+1,⟨⟨jE (·.2) e.symm,by simp,jE (·.1) e.symm,tZ⟩,tZ⟩,up,m⟩
    |exact⟨i64,x+1,⟨⟨jE (·.2) e.symm,jE (·.1) e.symm,by simp,tZ⟩,tZ⟩,up,m⟩
    |exact⟨i64,x+1,⟨⟨by simp,jE (·.1) e.symm,jE (·.2) e.symm,tZ⟩,tZ⟩,up,m⟩
    |exact⟨i64,x+1,⟨⟨jE (·.1) e.symm,jE (·.2) e.symm,by simp,tZ⟩,tZ⟩,up,m⟩
 .have h:¬(x:Int)<(wj c).length:=jc h;have w:x<=(wj c).length:=w;have v:x=(wj c).length:=(by omega);subst v;have g:G8 j<((nr c t (Uu (dp c j)) (Mw j)).length:Int):=by
   unfold nr;rw[Ip];omega
  refine⟨y,fun b=>⟨fun o=>⟨l,q,r.1,g,fun a=> ?_,fun a=> ?_⟩,fun o=>⟨l,q,r.1,g,fun a=> ?_,fun a=> ?_⟩⟩,fun b=>⟨fun o=>⟨l,q,r.1,g,fun a=> ?_,fun a=> ?_⟩,fun o=>⟨l,q,r.1,g,fun a=> ?_,fun a=> ?_⟩⟩⟩
  all_goals
   have e:=jdL (c:=c) (j:=j) (t:=t) b o a;exact jE (fun z=>(z,())) e.symm
theorem Ld:wZ PR 79 K4:=vl K5 Oo Tryz.func79 (kcC tp (kcC GS (kcC SR (kcC WI kcN)))) koN
theorem SU:wZ PR 49 SO:=wL WH Tryz.func49 (kcC Ld kcN) koN
theorem Zv (l:Int) (p:PeD):fR l p=(!(decide (((U.lv p).length:Int)≠l)|| !wa (U.fd p) 0 255|| !wa (U.cl p) 0 255||decide (10<((vj p).length:Int))|| !wa (U.fe p) 0 1000)&&((U.lv p).all (fun n=>wa n 0 5)&&(vj p).all (fun n=>wa n 0 99))):=by
 unfold fR;congr 1;rw[jZ];simp only[wa,jN,jR,jH,ze,ji,jp];omega
theorem Br (c:CrD):wu c=(!(!wa (U.la c) 2 5||decide (8<((wj c).length:Int))||decide (((yX c).length:Int)≠4))&&((wj c).all (fR (U.la c))&&(yX c).all fS)):=by
 unfold wu;congr 1;rw[jZ];simp only[wa,jN,jR,jH,ze,ji,jp];omega
theorem uW {c:CrD} {x:Nat} (a:x<(wj c).length) (h:fR (U.la c) (nth (wj c) x)=false):wu c=false:=by
 have:(wj c).all (fR (U.la c))=false:=zU.2 ⟨_,L.wi a,by rw[h];simp⟩;rw[Br,this];simp
theorem SX {c:CrD} {x:Nat} (a:x<(yX c).length) (h:fS (nth (yX c) x)=false):wu c=false:=by
 have:(yX c).all fS=false:=zU.2 ⟨_,L.wi a,by rw[h];simp⟩;rw[Br,this];simp
theorem iX {α:Type} [Inhabited α] {l:List α} {p:α->Bool} {x:Nat} (c:¬x<l.length) (h:∀j:Nat,j<x->p (nth l j)=true):l.all p=true:=by
 rw[jU];intro a b;obtain⟨i,hi,rfl⟩:=L.mem_iff.1 b;exact h i (by omega)
theorem mU {c:CrD} (h:wu c=false):(false,())=(wu c,()):=by rw[h]
theorem Oq:K3:=by
 unfold K3 jj1 jiA jj0 jhZ jgQ jhY jjZ jiz jhX jfL Prod.q4;rintro⟨c,⟨⟩⟩ _ _;refine⟨fun h=> ?_,fun h=> ?_⟩;have h:(!wa (U.la c) 2 5||decide (8<((wj c).length:Int))||decide (((yX c).length:Int)≠4))=true:=h;refine mU (c:=c) ?_;rw[Br,h];rfl;have B:(!wa (U.la c) 2 5||decide (8<((wj c).length:Int))||decide (((yX c).length:Int)≠4))=false:=h;clear h;refine⟨⟨0,⟨⟨rfl,tZ⟩,tZ⟩,jm _,fun j k=>by omega⟩,fun x s r=>⟨fun h=> ?_,fun h=> ?_⟩⟩;have r:(wj c).length<4611686018427387904:=r;have h:(x:Int)<(wj c).length:=ja h;have m:x<(wj c).length:=(by omega);refine⟨by omega,h,fun _ _=>⟨fun g=> ?_,fun g=> ?_⟩⟩;have g:(decide (((U.lv (nth (wj c) x)).length:Int)≠U.la c)|| !wa (U.fd (nth (wj c) x)) 0 255|| !wa (U.cl (nth (wj c) x)) 0 255||decide (10<((vj (nth (wj c) x)).length:Int))|| !wa (U.fe (nth (wj c) x)) 0 1000)=true:=g;refine mU (c:=c) (uW m ?_);rw[Zv,g];rfl;have g:(decide (((U.lv (nth (wj c) x)).length:Int)≠U.la c)|| !wa (U.fd (nth (wj c) x)) 0 255|| !wa (U.cl (nth (wj c) x)) 0 255||decide (10<((vj (nth (wj c) x)).length:Int))|| !wa (U.fe (nth (wj c) x)) 0 1000)=false:=g;refine⟨⟨0,⟨⟨rfl,tZ⟩,tZ⟩,jm _,fun j k=>by omega⟩,fun y q d=>⟨fun b=> ?_,fun b=> ?_⟩⟩;have d:(U.lv (nth (wj c) x)).length<4611686018427387904:=d;have b:(y:Int)<(U.lv (nth (wj c) x)).length:=ja b;refine⟨by omega,b,fun a=> ?_,fun a=>⟨iZ6,y+1,⟨⟨by simp,tZ⟩,tZ⟩,⟨by show y+1<=(U.lv (nth (wj c) x)).length;omega,fun j k=> ?_⟩,by show(U.lv (nth (wj c) x)).length-(y+1)<(U.lv (nth (wj c) x)).length-y;omega⟩⟩;have a:(!wa (nth (U.lv (nth (wj c) x)) y) 0 5)=true:=a;have a:wa (nth (U.lv (nth (wj c) x)) y) 0 5=false:=(by simpa using a);refine mU (c:=c) (uW m ?_);have:(U.lv (nth (wj c) x)).all (fun n=>wa n 0 5)=false:=zU.2 ⟨_,L.wi (l:=U.lv (nth (wj c) x)) (i:=y) (by omega),by rw[a];simp⟩;rw[Zv,this];simp;have a:(!wa (nth (U.lv (nth (wj c) x)) y) 0 5)=false:=a;by_cases e:j=y;subst e;exact(show wa (nth (U.lv (nth (wj c) x)) j) 0 5=true by simpa using a);exact q.2 j (by omega);have b:¬(y:Int)<(U.lv (nth (wj c) x)).length:=jc b;have u:(U.lv (nth (wj c) x)).all (fun n=>wa n 0 5)=true:=iX (by omega) q.2;refine⟨⟨0,⟨⟨rfl,tZ⟩,tZ⟩,jm _,fun j k=>by omega⟩,fun z t o=>⟨fun a=> ?_,fun a=> ?_⟩⟩;have o:(vj (nth (wj c) x)).length<4611686018427387904:=o;have a:(z:Int)<(vj (nth (wj c) x)).length:=ja a;refine⟨by omega,a,fun f=> ?_,fun f=>⟨iZ6,z+1,⟨⟨by simp,tZ⟩,tZ⟩,⟨by show z+1<=(vj (nth (wj c) x)).length;omega,fun j k=> ?_⟩,by show(vj (nth (wj c) x)).length-(z+1)<(vj (nth (wj c) x)).length-z;omega⟩⟩;have f:(!wa (nth (vj (nth (wj c) x)) z) 0 99)=true:=f;have f:wa (nth (vj (nth (wj c) x)) z) 0 99=false:=(by simpa using f);refine mU (c:=c) (uW m ?_);have:(vj (nth (wj c) x)).all (fun n=>wa n 0 99)=false:=zU.2 ⟨_,L.wi (l:=vj (nth (wj c) x)) (i:=z) (by omega),by rw[f];simp⟩;rw[Zv,this];simp;have f:(!wa (nth (vj (nth (wj c) x)) z) 0 99)=false:=f;by_cases e:j=z;subst e;exact(show wa (nth (vj (nth (wj c) x)) j) 0 99=true by simpa using f);exact t.2 j (by omega);have a:¬(z:Int)<(vj (nth (wj c) x)).length:=jc a;have v:(vj (nth (wj c) x)).all (fun n=>wa n 0 99)=true:=iX (by omega) t.2;refine⟨iZ6,x+1,⟨⟨by simp,tZ⟩,tZ⟩,⟨by show x+1<=(wj c).length;omega,fun j k=> ?_⟩,by show(wj c).length-(x+1)<(wj c).length-x;omega⟩;by_cases e:j=x;subst e;show fR (U.la c) (nth (wj c) j)=true;rw[Zv,g,u,v];rfl;exact s.2 j (by omega);have h:¬(x:Int)<(wj c).length:=jc h;have A:(wj c).all (fR (U.la c))=true:=iX (by omega) s.2;refine⟨⟨0,⟨⟨rfl,tZ⟩,tZ⟩,jm _,fun j k=>by omega⟩,fun y q d=>⟨fun b=> ?_,fun b=> ?_⟩⟩;have d:(yX c).length<4611686018427387904:=d;have b:(y:Int)<(yX c).length:=ja b;have p:fS (nth (yX c) y)= !(!wa (Uu (nth (yX c) y)) 1 5|| !wa (jcS (nth (yX c) y)) 1 8):=by
  unfold fS;rw[Bool.not_or,Bool.not_not,Bool.not_not]
 refine⟨by omega,b,fun _=>by omega,fun _=>b,fun a=> ?_,fun a=>⟨iZ6,y+1,⟨⟨by simp,tZ⟩,tZ⟩,⟨by show y+1<=(yX c).length;omega,fun j k=> ?_⟩,by show(yX c).length-(y+1)<(yX c).length-y;omega⟩⟩;have a:(!wa (Uu (nth (yX c) y)) 1 5|| !wa (jcS (nth (yX c) y)) 1 8)=true:=a;exact mU (c:=c) (SX (x:=y) (by omega) (by rw[p,a];rfl));have a:(!wa (Uu (nth (yX c) y)) 1 5|| !wa (jcS (nth (yX c) y)) 1 8)=false:=a;by_cases e:j=y;subst e;show fS (nth (yX c) j)=true;rw[p,a];rfl;exact q.2 j (by omega);have b:¬(y:Int)<(yX c).length:=jc b;have w:(yX c).all fS=true:=iX (by omega) q.2;show(true,())=(wu c,());rw[Br,B,A,w];rfl
theorem xK:wZ PR 91 K1:=vl K2 Oq Tryz.func91 (kcC xJ kcN) koN
namespace U
def gh (l:List ShD) (i k:Nat) (id:Int):Bool:=decide (gA (nth l i)=id)&& !((l.take k).any (fun x=>decide (x=nth l i)))
end U
def Le:wS:=⟨[.val .int,.val .int,.val .int],[.bool],false,fun _=>[],fun d=>(wa d.1 d.2.1 d.2.2.1,())⟩
def Lf:Prop:=∀(d:Int×Int×Int×Unit),(decide (d.2.1<=d.1)&&decide (d.1<=d.2.2.1),())=(wa d.1 d.2.1 d.2.2.1,())
def DD:wS:=⟨[.val tDy,.val .int],[.bool],false,fun _=>[],fun d=>(X4 d.1 d.2.1,())⟩
def DE:Prop:=∀(d:DyD×Int×Unit),d.1.2.2.1.length<4611686018427387904->wn ((d.1.2.2.1.length:Int)-1)/\(wa d.2.1 (0:Int) ((d.1.2.2.1.length:Int)-1),())=(X4 d.1 d.2.1,())
def Fe:wS:=⟨[.val tDy,.val .int],[.bool],false,fun _=>[],fun d=>(Mi d.1 d.2.1,())⟩
def Ff:Prop:=∀(d:DyD×Int×Unit),d.1.1.2.1.length<4611686018427387904->wn ((d.1.1.2.1.length:Int)-1)/\(wa d.2.1 (0:Int) ((d.1.1.2.1.length:Int)-1),())=(Mi d.1 d.2.1,())
def Ot:wS:=⟨[.val tDy],[.bool],false,fun _=>[],fun d=>(qD d.1,())⟩
def Ou:Ann:=fun r=>match r with
 |4=>some fun σ=>{X:=Nat,sl:=fun i=>[(3,.dat .int (i:Int))],ob:=fun _=>[],inv:=fun i=>i<=(qa (gb tDy σ 1)).length/\∀j:Nat,j<i->cR (qa (gb tDy σ 1)).length (nth (qa (gb tDy σ 1)) j)=true,mu:=fun i=>(qa (gb tDy σ 1)).length-i}
 |9=>some fun σ=>{X:=Nat,sl:=fun i=>[(4,.dat .int (i:Int))],ob:=fun _=>[],inv:=fun i=>i<=(nth (qa (gb tDy σ 1)) (gd .int σ 3).toNat).length/\∀j:Nat,j<i->tM (nth (nth (qa (gb tDy σ 1)) (gd .int σ 3).toNat) j)=true,mu:=fun i=>(nth (qa (gb tDy σ 1)) (gd .int σ 3).toNat).length-i}
 |15=>some fun σ=>{X:=Nat,sl:=fun i=>[(6,.dat .int (i:Int))],ob:=fun _=>[],inv:=fun i=>i<=(wq (gb tDy σ 1)).length/\∀j:Nat,j<i->nc (qa (gb tDy σ 1)).length (nth (wq (gb tDy σ 1)) j)=true,mu:=fun i=>(wq (gb tDy σ 1)).length-i}
 |21=>some fun σ=>{X:=Nat,sl:=fun i=>[(8,.dat .int (i:Int))],ob:=fun _=>[],inv:=fun i=>i<=(qc (gb tDy σ 1)).length/\∀j:Nat,j<i->nf (wq (gb tDy σ 1)).length (wj (wt (gb tDy σ 1))).length (nth (qc (gb tDy σ 1)) j)=true,mu:=fun i=>(qc (gb tDy σ 1)).length-i}
 |_=>none
abbrev jhy (d:DyD×Unit)(x:Nat):=(nth d.1.2.1 (x:Int).toNat)
abbrev jj5 (d:DyD×Unit)(x:Nat)(a:Nat):=(decide ((nth (jhy d x) (a:Int).toNat).1<0)||decide ((nth (jhy d x) (a:Int).toNat).2.1<(nth (jhy d x) (a:Int).toNat).1)||decide ((300:Int)<(nth (jhy d x) (a:Int).toNat).2.1))
abbrev jgV (d:DyD×Unit)(x:Nat):=(nth (qa d.1) (x:Int).toNat)
abbrev jgj (d:DyD×Unit):=(d.1.2.1.length:Int)
abbrev jh3 (d:DyD×Unit)(x:Nat):=(nth d.1.q4.2.1 (x:Int).toNat)
abbrev jj6 (d:DyD×Unit)(x:Nat):=(!wa (jh3 d x).1 (0:Int) (99:Int)|| !wa (jh3 d x).2.1 (0:Int) (9999:Int)|| !wa (jh3 d x).2.2.1 (1:Int) (2:Int)|| !X4 d.1 (jh3 d x).2.2.2.1|| !Mi d.1 (jh3 d x).q4.1)
abbrev jhz (d:DyD×Unit):=(d.1.2.2.1.length:Int)
abbrev jjk (x:Nat)(a:Nat):=(((x:Int)+1=(a:Int)/\True)/\True)
abbrev jh4 (d:DyD×Unit)(x:Nat):=(nth d.1.2.2.1 (x:Int).toNat)
abbrev jj7 (d:DyD×Unit)(x:Nat):=(!wa (jh4 d x).2.1 (0:Int) ((jgj d)-1)||decide ((jh4 d x).2.2.1<0)||decide ((jh4 d x).2.2.2.1<=(jh4 d x).2.2.1)||decide ((1440:Int)<(jh4 d x).2.2.2.1))
abbrev jh5 (d:DyD×Unit)(x:Nat):=(↑(jhy d x).length:Int)
abbrev jiG (d:DyD×Unit):=(d.1.q4.2.1.length:Int)
abbrev jj8 (d:DyD×Unit):=(decide (4<(jhz d))|| !wa (jgj d) (1:Int) (5:Int)|| !wa d.1.2.2.2.1 (0:Int) (300:Int)|| !wa d.1.q4.1 (0:Int) (1440:Int)||decide (30<(jiG d)))
abbrev jjl (x:Nat):=((0=(x:Int)/\True)/\True)
def Ov:Prop:=∀(d:DyD×Unit),d.1.2.2.1.length<4611686018427387904->((!decide (4<(jhz d)))=true->d.1.2.1.length<4611686018427387904)->((!(decide (4<(jhz d))|| !wa (jgj d) (1:Int) (5:Int)|| !wa d.1.2.2.2.1 (0:Int) (300:Int)|| !wa d.1.q4.1 (0:Int) (1440:Int)))=true->d.1.q4.2.1.length<4611686018427387904)->((jj8 d)=true->(false,())=(qD d.1,()))/\((jj8 d)=false->(∃(x:Nat),(jjl x)/\x<=(qa d.1).length/\∀(j:Nat),j<x->cR (qa d.1).length (nth (qa d.1) j)=true)/\∀(x:Nat),(x<=(qa d.1).length/\∀(j:Nat),j<x->cR (qa d.1).length (nth (qa d.1) j)=true)->d.1.2.1.length<4611686018427387904->(decide ((x:Int)<(jgj d))=true->0<=(x:Int)/\(x:Int)<(jgj d)/\(decide ((jh5 d x)≠(jgj d))=true->(false,())=(qD d.1,()))/\(decide ((jh5 d x)≠(jgj d))=false->(∃(a:Nat),((0=(a:Int)/\True)/\True)/\a<=(jgV d x).length/\∀(j:Nat),j<a->tM (nth (jgV d x) j)=true)/\∀(a:Nat),(a<=(jgV d x).length/\∀(j:Nat),j<a->tM (nth (jgV d x) j)=true)->0<=(x:Int)/\(x:Int)<(jgj d)/\((jhy d x).length<4611686018427387904->(decide ((a:Int)<(jh5 d x))=true->0<=(x:Int)/\(x:Int)<(jgj d)/\0<=(a:Int)/\(a:Int)<(jh5 d x)/\((jj5 d x a)=true->(false,())=(qD d.1,()))/\((jj5 d x a)=false->wn ((a:Int)+1)/\∃(b:Nat),(((a:Int)+1=(b:Int)/\True)/\True)/\(b<=(jgV d x).length/\∀(j:Nat),j<b->tM (nth (jgV d x) j)=true)/\(jgV d x).length-b<(jgV d x).length-a))/\(decide ((a:Int)<(jh5 d x))=false->wn ((x:Int)+1)/\∃(b:Nat),(jjk x b)/\(b<=(qa d.1).length/\∀(j:Nat),j<b->cR (qa d.1).length (nth (qa d.1) j)=true)/\(qa d.1).length-b<(qa d.1).length-x))))/\(decide ((x:Int)<(jgj d))=false->(∃(x:Nat),(jjl x)/\x<=(wq d.1).length/\∀(j:Nat),j<x->nc (qa d.1).length (nth (wq d.1) j)=true)/\∀(x:Nat),(x<=(wq d.1).length/\∀(j:Nat),j<x->nc (qa d.1).length (nth (wq d.1) j)=true)->d.1.2.2.1.length<4611686018427387904->(decide ((x:Int)<(jhz d))=true->0<=(x:Int)/\(x:Int)<(jhz d)/\(d.1.2.1.length<4611686018427387904->wn ((jgj d)-1)/\((jj7 d x)=true->(false,())=(qD d.1,()))/\((jj7 d x)=false->wn ((x:Int)+1)/\∃(b:Nat),(jjk x b)/\(b<=(wq d.1).length/\∀(j:Nat),j<b->nc (qa d.1).length (nth (wq d.1) j)=true)/\(wq d.1).length-b<(wq d.1).length-x)))/\(decide ((x:Int)<(jhz d))=false->(∃(x:Nat),(jjl x)/\x<=(qc d.1).length/\∀(j:Nat),j<x->nf (wq d.1).length (wj (wt d.1)).length (nth (qc d.1) j)=true)/\∀(x:Nat),(x<=(qc d.1).length/\∀(j:Nat),j<x->nf (wq d.1).length (wj (wt d.1)).length (nth (qc d.1) j)=true)->d.1.q4.2.1.length<4611686018427387904->(decide ((x:Int)<(jiG d))=true->0<=(x:Int)/\(x:Int)<(jiG d)/\((jj6 d x)=true->(false,())=(qD d.1,()))/\((jj6 d x)=false->wn ((x:Int)+1)/\∃(b:Nat),(jjk x b)/\(b<=(qc d.1).length/\∀(j:Nat),j<b->nf (wq d.1).length (wj (wt d.1)).length (nth (qc d.1) j)=true)/\(qc d.1).length-b<(qc d.1).length-x))/\(decide ((x:Int)<(jiG d))=false->(true,())=(qD d.1,())))))
def Ow:wS:=⟨[.val (.slice tSh)],[.bool],false,fun d=>[d.1.length<=1000000],fun d=>(b8 d.1,())⟩
def Ox:Ann:=fun r=>match r with
 |2=>some fun σ=>{X:=Nat,sl:=fun i=>[(3,.dat .int (i:Int))],ob:=fun _=>[],inv:=fun i=>i<=(gd (.slice tSh) σ 0).length/\aC (gd (.slice tSh) σ 0) i=false,mu:=fun i=>(gd (.slice tSh) σ 0).length-i}
 |5=>some fun σ=>{X:=Nat,sl:=fun i=>[(4,.dat .int (i:Int))],ob:=fun _=>[],inv:=fun i=>i<=(gd .int σ 3).toNat/\∀j:Nat,j<i->Er (nth (gd (.slice tSh) σ 0) (gd .int σ 3).toNat) (nth (gd (.slice tSh) σ 0) j)=false,mu:=fun i=>(gd .int σ 3).toNat-i}
 |_=>none
abbrev jhA (d:List ShD×Unit)(x:Nat)(a:Nat):=((nth d.1 (x:Int).toNat).1=(nth d.1 (a:Int).toNat).1)
def Oy:Prop:=∀(d:List ShD×Unit),d.1.length<=1000000->(∃(x:Nat),((0=(x:Int)/\True)/\True)/\x<=d.1.length/\aC d.1 x=false)/\∀(x:Nat),x<=d.1.length/\aC d.1 x=false->d.1.length<4611686018427387904->(decide ((x:Int)<d.1.length)=true->(∃(a:Nat),((0=(a:Int)/\True)/\True)/\a<=(x:Int).toNat/\∀(j:Nat),j<a->Er (nth d.1 (x:Int).toNat) (nth d.1 j)=false)/\∀(a:Nat),(a<=(x:Int).toNat/\∀(j:Nat),j<a->Er (nth d.1 (x:Int).toNat) (nth d.1 j)=false)->(decide ((a:Int)<(x:Int))=true->0<=(x:Int)/\(x:Int)<d.1.length/\0<=(a:Int)/\(a:Int)<d.1.length/\(decide (jhA d x a)=true->0<=(x:Int))/\(decide (jhA d x a)=true->(x:Int)<d.1.length)/\(decide (jhA d x a)=true->0<=(a:Int))/\(decide (jhA d x a)=true->(a:Int)<d.1.length)/\((decide (jhA d x a)&& !decide (nth d.1 (x:Int).toNat=nth d.1 (a:Int).toNat))=true->(true,())=(b8 d.1,()))/\((decide (jhA d x a)&& !decide (nth d.1 (x:Int).toNat=nth d.1 (a:Int).toNat))=false->wn ((a:Int)+1)/\∃(b:Nat),(((a:Int)+1=(b:Int)/\True)/\True)/\(b<=(x:Int).toNat/\∀(j:Nat),j<b->Er (nth d.1 (x:Int).toNat) (nth d.1 j)=false)/\(x:Int).toNat-b<(x:Int).toNat-a))/\(decide ((a:Int)<(x:Int))=false->wn ((x:Int)+1)/\∃(b:Nat),(((x:Int)+1=(b:Int)/\True)/\True)/\(b<=d.1.length/\aC d.1 b=false)/\d.1.length-b<d.1.length-x))/\(decide ((x:Int)<d.1.length)=false->(false,())=(b8 d.1,()))
def Oz:wS:=⟨[.val tDy],[.int],false,fun d=>[(wq d.1).length<=1000000],fun d=>(gN d.1,())⟩
def OA:Ann:=fun r=>match r with
 |4=>some fun σ=>{X:=Nat,sl:=fun i=>[(3,.dat .int (i:Int))],ob:=fun _=>[],inv:=fun i=>i<=(wq (gb tDy σ 1)).length/\∀j:Nat,j<i->qb (wt (gb tDy σ 1)) (gL (nth (wq (gb tDy σ 1)) j))=true,mu:=fun i=>(wq (gb tDy σ 1)).length-i}
 |_=>none
def OB:Prop:=∀(d:DyD×Unit),(wq d.1).length<=1000000->((!wu d.1.1)=true->((30:Int),())=(gN d.1,()))/\((!wu d.1.1)=false->(∃(x:Nat),((0=(x:Int)/\True)/\True)/\x<=(wq d.1).length/\∀(j:Nat),j<x->qb (wt d.1) (gL (nth (wq d.1) j))=true)/\∀(x:Nat),(x<=(wq d.1).length/\∀(j:Nat),j<x->qb (wt d.1) (gL (nth (wq d.1) j))=true)->d.1.2.2.1.length<4611686018427387904->(decide ((x:Int)<d.1.2.2.1.length)=true->0<=(x:Int)/\(x:Int)<d.1.2.2.1.length/\wu d.1.1=true/\((!qb d.1.1 (nth d.1.2.2.1 (x:Int).toNat).1)=true->((31:Int),())=(gN d.1,()))/\((!qb d.1.1 (nth d.1.2.2.1 (x:Int).toNat).1)=false->wn ((x:Int)+1)/\∃(a:Nat),(((x:Int)+1=(a:Int)/\True)/\True)/\(a<=(wq d.1).length/\∀(j:Nat),j<a->qb (wt d.1) (gL (nth (wq d.1) j))=true)/\(wq d.1).length-a<(wq d.1).length-x))/\(decide ((x:Int)<d.1.2.2.1.length)=false->((!qD d.1)=true->((50:Int),())=(gN d.1,()))/\((!qD d.1)=false->d.1.q4.2.1.length<=1000000/\(b8 d.1.q4.2.1=true->((51:Int),())=(gN d.1,()))/\(b8 d.1.q4.2.1=false->((0:Int),())=(gN d.1,())))))
def OC:wS:=⟨[.val tSh,.val tSh],[.bool],false,fun _=>[],fun d=>(vd d.1 d.2.1,())⟩
def OE:Prop:=∀(d:ShD×ShD×Unit),(decide (d.2.1.2.1<d.1.2.1)||decide (d.1.2.1=d.2.1.2.1)&&decide (d.2.1.1<d.1.1),())=(vd d.1 d.2.1,())
def Fg:wS:=⟨[.val tDy,.val .int,.val .int],[.bool],false,fun d=>[FV d.1,au d.1 d.2.1,au d.1 d.2.2.1],fun d=>(w9 d.1 d.2.1 d.2.2.1,())⟩
abbrev jfZ (d:DyD×Int×Int×Unit):=(nth d.1.2.2.1 d.2.2.1.toNat)
abbrev jf0 (d:DyD×Int×Int×Unit):=(nth d.1.2.2.1 d.2.1.toNat)
abbrev jh6 (d:DyD×Int×Int×Unit):=((jfZ d).2.2.1<(jf0 d).2.2.1)
abbrev jgW (d:DyD×Int×Int×Unit):=(d.1.2.2.1.length:Int)
abbrev jj9 (d:DyD×Int×Int×Unit):=(decide (jh6 d)||decide ((jfZ d).2.2.1=(jf0 d).2.2.1)&&decide (d.2.2.1<d.2.1))
def Fh:Prop:=∀(d:DyD×Int×Int×Unit),FV d.1->au d.1 d.2.1->au d.1 d.2.2.1->0<=d.2.2.1/\d.2.2.1<(jgW d)/\0<=d.2.1/\d.2.1<(jgW d)/\((!decide (jh6 d))=true->0<=d.2.2.1)/\((!decide (jh6 d))=true->d.2.2.1<(jgW d))/\((!decide (jh6 d))=true->0<=d.2.1)/\((!decide (jh6 d))=true->d.2.1<(jgW d))/\((jj9 d)=true->0<=d.2.2.1/\d.2.2.1<(jgW d)/\0<=d.2.1/\d.2.1<(jgW d)/\wn ((jfZ d).2.2.2.1+d.1.2.2.2.1)/\(0:Int)<=(jfZ d).2.1/\(jfZ d).2.1<(d.1.2.1.length:Int)/\(0:Int)<=(jf0 d).2.1/\(jf0 d).2.1<(↑(nth d.1.2.1 (jfZ d).2.1.toNat).length:Int)/\wn ((jfZ d).2.2.2.1+d.1.2.2.2.1+(nth (nth d.1.2.1 (jfZ d).2.1.toNat) (jf0 d).2.1.toNat).2.1)/\(decide ((jfZ d).2.2.2.1+d.1.2.2.2.1+(nth (nth d.1.2.1 (jfZ d).2.1.toNat) (jf0 d).2.1.toNat).2.1<=(jf0 d).2.2.1),())=(w9 d.1 d.2.1 d.2.2.1,()))/\((jj9 d)=false->0<=d.2.1/\d.2.1<(jgW d)/\0<=d.2.2.1/\d.2.2.1<(jgW d)/\wn ((jf0 d).2.2.2.1+d.1.2.2.2.1)/\(0:Int)<=(jf0 d).2.1/\(jf0 d).2.1<(d.1.2.1.length:Int)/\(0:Int)<=(jfZ d).2.1/\(jfZ d).2.1<(↑(nth d.1.2.1 (jf0 d).2.1.toNat).length:Int)/\wn ((jf0 d).2.2.2.1+d.1.2.2.2.1+(nth (nth d.1.2.1 (jf0 d).2.1.toNat) (jfZ d).2.1.toNat).2.1)/\(decide ((jf0 d).2.2.2.1+d.1.2.2.2.1+(nth (nth d.1.2.1 (jf0 d).2.1.toNat) (jfZ d).2.1.toNat).2.1<=(jfZ d).2.2.1),())=(w9 d.1 d.2.1 d.2.2.1,()))
def OF:wS:=⟨[.val tDy,.val .int,.val (.slice .int)],[.bool],false,fun d=>[FV d.1,My d.1 d.2.1,Et d.1 d.2.2.1],fun d=>(gx d.1 d.2.1 d.2.2.1,())⟩
def OG:Ann:=fun r=>match r with
 |3=>some fun σ=>{X:=Nat,sl:=fun i=>[(8,.dat .int (i:Int)),(7,.dat .int (vT (gb tDy σ 3) (gd (.slice .int) σ 2) i))],ob:=fun _=>[],inv:=fun i=>i<=(gd (.slice .int) σ 2).length/\(∀j:Nat,j<i->qN (wt (gb tDy σ 3)) (gL (U.bk (gb tDy σ 3) (nth (gd (.slice .int) σ 2) j))) (gd .int σ 1)=true)/\∀j:Nat,j<i->∀m:Nat,m<j->w9 (gb tDy σ 3) (nth (gd (.slice .int) σ 2) j) (nth (gd (.slice .int) σ 2) m)=true,mu:=fun i=>(gd (.slice .int) σ 2).length-i}
 |10=>some fun σ=>{X:=Nat,sl:=fun i=>[(10,.dat .int (i:Int))],ob:=fun _=>[],inv:=fun i=>i<=(gd .int σ 8).toNat/\∀m:Nat,m<i->w9 (gb tDy σ 3) (nth (gd (.slice .int) σ 2) (gd .int σ 8).toNat) (nth (gd (.slice .int) σ 2) m)=true,mu:=fun i=>(gd .int σ 8).toNat-i}
 |_=>none
abbrev jhb (d:DyD×Int×List Int×Unit)(x:Nat):=(nth d.2.2.1 (x:Int).toNat)
abbrev jgD (d:DyD×Int×List Int×Unit)(x:Nat):=(nth d.1.2.2.1 (jhb d x).toNat)
abbrev jka (x:Nat)(d:DyD×Int×List Int×Unit):=(∀(j:Nat),j<x->qN (wt d.1) (gL (U.bk d.1 (nth d.2.2.1 j))) d.2.1=true)
def OH:Prop:=∀(d:DyD×Int×List Int×Unit),FV d.1->My d.1 d.2.1->Et d.1 d.2.2.1->(∃(x:Nat),((0=(x:Int)/\0=vT d.1 d.2.2.1 x/\True)/\True)/\x<=d.2.2.1.length/\(jka x d)/\∀(j:Nat),j<x->∀(m:Nat),m<j->w9 d.1 (nth d.2.2.1 j) (nth d.2.2.1 m)=true)/\∀(x:Nat),(x<=d.2.2.1.length/\(jka x d)/\∀(j:Nat),j<x->∀(m:Nat),m<j->w9 d.1 (nth d.2.2.1 j) (nth d.2.2.1 m)=true)->d.2.2.1.length<4611686018427387904->(decide ((x:Int)<d.2.2.1.length)=true->0<=(x:Int)/\(x:Int)<d.2.2.1.length/\0<=nth d.2.2.1 (x:Int).toNat/\nth d.2.2.1 (x:Int).toNat<(d.1.2.2.1.length:Int)/\(0<=d.2.1/\d.2.1<(↑(wj d.1.1).length:Int))/\qb d.1.1 (jgD d x).1=true/\((!qN d.1.1 (jgD d x).1 d.2.1)=true->(false,())=(gx d.1 d.2.1 d.2.2.1,()))/\((!qN d.1.1 (jgD d x).1 d.2.1)=false->wn ((jgD d x).2.2.2.1-(jgD d x).2.2.1)/\wn (vT d.1 d.2.2.1 x+((jgD d x).2.2.2.1-(jgD d x).2.2.1))/\(∃(a:Nat),((0=(a:Int)/\True)/\True)/\a<=(x:Int).toNat/\∀(m:Nat),m<a->w9 d.1 (jhb d x) (nth d.2.2.1 m)=true)/\∀(a:Nat),(a<=(x:Int).toNat/\∀(m:Nat),m<a->w9 d.1 (jhb d x) (nth d.2.2.1 m)=true)->(decide ((a:Int)<(x:Int))=true->0<=(x:Int)/\(x:Int)<d.2.2.1.length/\0<=(a:Int)/\(a:Int)<d.2.2.1.length/\FV d.1/\au d.1 (jhb d x)/\au d.1 (nth d.2.2.1 (a:Int).toNat)/\((!w9 d.1 (jhb d x) (nth d.2.2.1 (a:Int).toNat))=true->(false,())=(gx d.1 d.2.1 d.2.2.1,()))/\((!w9 d.1 (jhb d x) (nth d.2.2.1 (a:Int).toNat))=false->wn ((a:Int)+1)/\∃(b:Nat),(((a:Int)+1=(b:Int)/\True)/\True)/\(b<=(x:Int).toNat/\∀(m:Nat),m<b->w9 d.1 (jhb d x) (nth d.2.2.1 m)=true)/\(x:Int).toNat-b<(x:Int).toNat-a))/\(decide ((a:Int)<(x:Int))=false->wn ((x:Int)+1)/\∃(b:Nat),(((x:Int)+1=(b:Int)/\vT d.1 d.2.2.1 x+((jgD d x).2.2.2.1-(jgD d x).2.2.1)=vT d.1 d.2.2.1 b/\True)/\True)/\(b<=d.2.2.1.length/\(∀(j:Nat),j<b->qN (wt d.1) (gL (U.bk d.1 (nth d.2.2.1 j))) d.2.1=true)/\∀(j:Nat),j<b->∀(m:Nat),m<j->w9 d.1 (nth d.2.2.1 j) (nth d.2.2.1 m)=true)/\d.2.2.1.length-b<d.2.2.1.length-x)))/\(decide ((x:Int)<d.2.2.1.length)=false->(decide (vT d.1 d.2.2.1 x<=d.1.q4.1),())=(gx d.1 d.2.1 d.2.2.1,()))
def Fi:wS:=⟨[.val (.slice tSh)],[.slice tSh],false,fun d=>[d.1.length<=1000],fun d=>(wg d.1,())⟩
def Fj:Ann:=fun r=>match r with
 |3=>some fun σ=>{X:=Nat,sl:=fun i=>[(4,.dat .int (i:Int)),(3,.own 3 tSh)],ob:=fun i=>[(3,some (.row 134 tSh false .yes (vS (gd (.slice tSh) σ 0) i)))],inv:=fun i=>i<=100,mu:=fun i=>100-i}
 |6=>some fun σ=>{X:=Nat,sl:=fun i=>[(5,.dat .int (i:Int)),(3,.own 3 tSh)],ob:=fun i=>[(3,some (.row 134 tSh false .yes (gr tSh σ 3++cS (gd (.slice tSh) σ 0) i (gd .int σ 4).toNat)))],inv:=fun i=>i<=(gd (.slice tSh) σ 0).length,mu:=fun i=>(gd (.slice tSh) σ 0).length-i}
 |10=>some fun σ=>{X:=Nat,sl:=fun k=>[(7,.dat .int (k:Int)),(6,.dat .bool (gh (gd (.slice tSh) σ 0) (gd .int σ 5).toNat k (gd .int σ 4)))],ob:=fun _=>[],inv:=fun k=>k<=(gd .int σ 5).toNat,mu:=fun k=>(gd .int σ 5).toNat-k}
 |_=>none
def Fk:Prop:=∀(d:List ShD×Unit),d.1.length<=1000->(∃(x:Nat),((0=(x:Int)/\True/\True)/\vS d.1 x=[]/\True)/\x<=100)/\∀(x:Nat),x<=100->(decide ((x:Int)<=99)=true->(∃(a:Nat),((0=(a:Int)/\True/\True)/\vS d.1 x=vS d.1 x++cS d.1 a (x:Int).toNat/\True)/\a<=d.1.length)/\∀(a:Nat),a<=d.1.length->d.1.length<4611686018427387904->(decide ((a:Int)<d.1.length)=true->0<=(a:Int)/\(a:Int)<d.1.length/\(∃(b:Nat),((0=(b:Int)/\decide ((nth d.1 (a:Int).toNat).1=(x:Int))=gh d.1 (a:Int).toNat b (x:Int)/\True)/\True)/\b<=(a:Int).toNat)/\∀(b:Nat),b<=(a:Int).toNat->(decide ((b:Int)<(a:Int))=true->(gh d.1 (a:Int).toNat b (x:Int)=true->0<=(b:Int))/\(gh d.1 (a:Int).toNat b (x:Int)=true->(b:Int)<d.1.length)/\(gh d.1 (a:Int).toNat b (x:Int)=true->0<=(a:Int))/\(gh d.1 (a:Int).toNat b (x:Int)=true->(a:Int)<d.1.length)/\wn ((b:Int)+1)/\∃(c:Nat),(((b:Int)+1=(c:Int)/\(gh d.1 (a:Int).toNat b (x:Int)&& !decide (nth d.1 (b:Int).toNat=nth d.1 (a:Int).toNat))=gh d.1 (a:Int).toNat c (x:Int)/\True)/\True)/\c<=(a:Int).toNat/\(a:Int).toNat-c<(a:Int).toNat-b)/\(decide ((b:Int)<(a:Int))=false->(gh d.1 (a:Int).toNat b (x:Int)=true->0<=(a:Int)/\(a:Int)<d.1.length/\((vS d.1 x++cS d.1 a (x:Int).toNat).length+[nth d.1 (a:Int).toNat].length)*40<=140737488355328/\wn ((a:Int)+1)/\∃(c:Nat),(((a:Int)+1=(c:Int)/\True/\True)/\vS d.1 x++cS d.1 a (x:Int).toNat++[nth d.1 (a:Int).toNat]=vS d.1 x++cS d.1 c (x:Int).toNat/\True)/\c<=d.1.length/\d.1.length-c<d.1.length-a)/\(gh d.1 (a:Int).toNat b (x:Int)=false->wn ((a:Int)+1)/\∃(c:Nat),((True/\(a:Int)+1=(c:Int)/\True)/\vS d.1 x++cS d.1 a (x:Int).toNat=vS d.1 x++cS d.1 c (x:Int).toNat/\True)/\c<=d.1.length/\d.1.length-c<d.1.length-a)))/\(decide ((a:Int)<d.1.length)=false->wn ((x:Int)+1)/\∃(c:Nat),(((x:Int)+1=(c:Int)/\True/\True)/\vS d.1 x++cS d.1 a (x:Int).toNat=vS d.1 c/\True)/\c<=100/\100-c<100-x))/\(decide ((x:Int)<=99)=false->(vS d.1 x,())=(wg d.1,()))
theorem OI:Lf:=by
 rintro⟨n,a,b,⟨⟩⟩;rfl
theorem mV:wZ PR 136 Le:=wL OI Tryz.func136 kcN koN
theorem Fl:DE:=by
 rintro⟨d,n,⟨⟩⟩ a;have a:(wq d).length<4611686018427387904:=a;exact⟨by show wn (((wq d).length:Int)-1);exact iZ6,rfl⟩
theorem DF:wZ PR 137 DD:=wL Fl Tryz.func137 (kcC mV kcN) koN
theorem Iq:Ff:=by
 rintro⟨d,n,⟨⟩⟩ a;have a:(wj (wt d)).length<4611686018427387904:=a;exact⟨by show wn (((wj (wt d)).length:Int)-1);exact iZ6,rfl⟩
theorem Fm:wZ PR 138 Fe:=wL Iq Tryz.func138 (kcC mV kcN) koN
theorem SY:OE:=by
 rintro⟨a,b,⟨⟩⟩;show(decide (EG b<EG a)||decide (EG a=EG b)&&decide (gA b<gA a),())=(vd a b,());refine jE (fun z=>(z,())) ?_;unfold vd;rw[jZ];simp only[zo,ji,jp]
theorem OJ:wZ PR 147 OC:=wL SY Tryz.func147 kcN koN
theorem Lg (l:List ShD) (n:Nat):aC l (n+1)=(aC l n||Bv l n):=by
 unfold aC;rw[zf,kV];simp
theorem Ir {l:List ShD} {i:Nat} (h:∀j:Nat,j<i->Er (nth l i) (nth l j)=false) (hi:i<=l.length):Bv l i=false:=by
 unfold Bv;rw[zi];intro s a;rw[zb] at a;obtain⟨j,b,rfl⟩:=a;have:=h j (by omega);rw[L.qI (l:=l) (i:=j) (by omega)] at this;simpa using this
theorem SZ {l:List ShD} {i j:Nat} (hi:i<l.length) (a:j<i) (h:Er (nth l i) (nth l j)=true):b8 l=true:=by
 unfold b8 aC Bv;rw[za];refine⟨i,jG.2 hi,?_⟩;rw[za];refine⟨nth l j,?_,h⟩;rw[zb];exact⟨j,by omega,(L.qI (by omega)).symm⟩
theorem S0:Oy:=by
 unfold Oy jhA;rintro⟨l,⟨⟩⟩ k;have k:l.length<=1000000:=k;refine⟨⟨0,⟨⟨rfl,tZ⟩,tZ⟩,jm _,rfl⟩,fun x m _=>⟨fun h=> ?_,fun h=> ?_⟩⟩;have h:(x:Int)<l.length:=ja h;obtain⟨_,a⟩:x<=l.length/\aC l x=false:=m;refine⟨⟨0,⟨⟨rfl,tZ⟩,tZ⟩,jm _,fun j o=>by omega⟩,fun y n=>⟨fun c=> ?_,fun c=> ?_⟩⟩;have c:(y:Int)<(x:Int):=ja c;obtain⟨_,b⟩:y<=x/\∀j:Nat,j<y->Er (nth l x) (nth l j)=false:=n;have f:(y:Int)<l.length:=(by omega);refine⟨by omega,h,by omega,f,fun _=>by omega,fun _=>h,fun _=>by omega,fun _=>f,fun d=> ?_,fun d=>⟨iZ6,y+1,⟨⟨by simp,tZ⟩,tZ⟩,⟨by show y+1<=x;omega,fun j o=> ?_⟩,by show x-(y+1)<x-y;omega⟩⟩;have d:Er (nth l x) (nth l y)=true:=d;have:=SZ (by omega) (by omega) d;show(true,())=(b8 l,());rw[this];by_cases e:j=y;subst e;exact d;exact b j (by omega);have c:¬(y:Int)<(x:Int):=jc c;obtain⟨q,b⟩:y<=x/\∀j:Nat,j<y->Er (nth l x) (nth l j)=false:=n;have i:y=x:=(by omega);subst i;refine⟨iZ6,y+1,⟨⟨by simp,tZ⟩,tZ⟩,⟨by show y+1<=l.length;omega,?_⟩,by show l.length-(y+1)<l.length-y;omega⟩;show aC l (y+1)=false;rw[Lg,a,Ir b (by omega)];rfl;have h:¬(x:Int)<l.length:=jc h;obtain⟨p,a⟩:x<=l.length/\aC l x=false:=m;have g:x=l.length:=(by omega);subst g;show(false,())=(b8 l,());unfold b8;rw[a]
theorem OK:wZ PR 94 Ow:=vl Ox S0 Tryz.func94 kcN koN
theorem S1:OB:=by
 unfold OB Prod.q4;rintro⟨d,⟨⟩⟩ k;have k:(wq d).length<=1000000:=k;refine⟨fun h=> ?_,fun h=> ?_⟩;have h:wu (wt d)=false:=(by simpa using(show(!wu (wt d))=true from h));show((30:Int),())=(gN d,());unfold gN;rw[h];rfl;have g:wu (wt d)=true:=(by simpa using(show(!wu (wt d))=false from h));refine⟨⟨0,⟨⟨rfl,tZ⟩,tZ⟩,jm _,fun j f=>by omega⟩,fun x m _=>⟨fun h=> ?_,fun h=> ?_⟩⟩;have h:(x:Int)<(wq d).length:=ja h;refine⟨by omega,h,g,fun a=> ?_,fun a=>⟨iZ6,x+1,⟨⟨by simp,tZ⟩,tZ⟩,⟨by show x+1<=(wq d).length;omega,fun j f=> ?_⟩,by show(wq d).length-(x+1)<(wq d).length-x;omega⟩⟩;have a:qb (wt d) (gL (nth (wq d) x))=false:=(by simpa using(show(!qb (wt d) (gL (nth (wq d) x)))=true from a));have f:I8 d=false:=by
  unfold I8;exact zU.2 ⟨_,L.wi (l:=wq d) (i:=x) (by omega),by rw[a];simp⟩
 show((31:Int),())=(gN d,());unfold gN;rw[g,f];rfl;have a:qb (wt d) (gL (nth (wq d) x))=true:=(by simpa using(show(!qb (wt d) (gL (nth (wq d) x)))=false from a));by_cases e:j=x;subst e;exact a;exact m.2 j (by omega);have h:¬(x:Int)<(wq d).length:=jc h;have f:I8 d=true:=iX (p:=fun b=>qb (wt d) (gL b)) (by omega) m.2;refine⟨fun a=> ?_,fun a=> ?_⟩;have a:qD d=false:=(by simpa using(show(!qD d)=true from a));show((50:Int),())=(gN d,());unfold gN;rw[g,f,a];rfl;have a:qD d=true:=(by simpa using(show(!qD d)=false from a));have n:(qc d).length<=30:=(yh a).2.2.2.2.1;refine⟨by show(qc d).length<=1000000;omega,fun c=> ?_,fun c=> ?_⟩;have c:b8 (qc d)=true:=c;show((51:Int),())=(gN d,());unfold gN;rw[g,f,a,c];rfl;have c:b8 (qc d)=false:=c;show((0:Int),())=(gN d,());unfold gN;rw[g,f,a,c];rfl
theorem WJ (t:List Int) (p:Int) (n:Nat):oC t p (n+1)=oC t p n++(if qf (nth t n) p=true then[(n:Int)] else[]):=by
 unfold oC;rw[L.yj,zw];by_cases h:qf (nth t n) p=true;rw[je h,je h];rfl;rw[jd h,jd h];rfl
theorem QO (t:List Int) (p:Int) (n:Nat):(oC t p n).length<=n:=by
 unfold oC;rw[zj];exact jF (zF _ _) (by simp)
theorem WK (l:List ShD) (n m:Nat):cS l (n+1) m=cS l n m++(if(decide (gA (nth l n)=(m:Int))&&ng l n)=true then[nth l n] else[]):=by
 unfold cS;rw[L.yj,zw];by_cases h:(decide (gA (nth l n)=(m:Int))&&ng l n)=true;rw[je h,je h];rfl;rw[jd h,jd h];rfl
theorem QP (l:List ShD) (n m:Nat):(cS l n m).length<=n:=by
 unfold cS;rw[zj];exact jF (zF _ _) (by simp)
theorem DG (l:List ShD) (n:Nat):vS l (n+1)=vS l n++cS l l.length n:=by
 unfold vS;rw[zf,List.flatMap_append];simp
theorem nN (l:List ShD):∀n,(vS l n).length<=l.length*n
 |0=>jm _
 |n+1=>by
  have a:=nN l n
  have:=QP l l.length n
  rw[DG,jL,Nat.mul_succ]
  omega
theorem Lh {l:List ShD} {i k:Nat} {id:Int} (h:k<l.length):gh l i (k+1) id=(gh l i k id&& !decide (nth l k=nth l i)):=by
 unfold gh;rw[L.wO h,kV];simp only[List.any_cons,List.any_nil,kQ,Bool.not_or,Bool.and_assoc]
theorem Is:Fk:=by
 rintro⟨l,⟨⟩⟩ f;have f:l.length<=1000:=f;refine⟨⟨0,⟨⟨rfl,tZ,tZ⟩,rfl,tZ⟩,jm _⟩,fun x t=>⟨fun h=>⟨⟨0,⟨⟨rfl,tZ,tZ⟩,?_,tZ⟩,jm _⟩,fun y e _=>⟨fun a=> ?_,fun a=> ?_⟩⟩,fun h=> ?_⟩⟩;exact(j7 _).symm;have h:(x:Int)<=99:=ja h;have a:(y:Int)<l.length:=ja a;have e:y<=l.length:=e;refine⟨by omega,a,⟨0,⟨⟨rfl,?_,tZ⟩,tZ⟩,jm _⟩,fun z p=>⟨fun c=> ?_,fun c=> ?_⟩⟩;show decide (gA (nth l y)=(x:Int))=gh l y 0 (x:Int);unfold gh;simp;have c:(z:Int)<(y:Int):=ja c;have m:(z:Int)<l.length:=(by omega);have d:=Lh (l:=l) (i:=y) (k:=z) (id:=(x:Int)) (by omega);exact⟨fun _=>by omega,fun _=>m,fun _=>by omega,fun _=>a,iZ6,z+1,⟨⟨by simp,d.symm,tZ⟩,tZ⟩,by show z+1<=y;omega,by show y-(z+1)<y-z;omega⟩;have c:¬(z:Int)<(y:Int):=jc c;have p:z<=y:=p;have n:z=y:=(by omega);subst n;have d:=WK l z x;have r:=QP l z x;have s:=nN l x;have q:l.length*x<=1000*99:=Nat.mul_le_mul f (by omega);have up:z+1<=l.length:=(by omega);have o:l.length-(z+1)<l.length-z:=(by omega);refine⟨fun b=>⟨by omega,a,?_,iZ6,z+1,⟨⟨by simp,tZ,tZ⟩,?_,tZ⟩,up,o⟩,fun b=>⟨iZ6,z+1,⟨⟨tZ,by simp,tZ⟩,?_,tZ⟩,up,o⟩⟩;show((vS l x++cS l z x).length+1)*40<=140737488355328;rw[jL];omega;have b:(decide (gA (nth l z)=(x:Int))&&ng l z)=true:=b;show vS l x++cS l z x++[nth l z]=vS l x++cS l (z+1) x;rw[d,je b,jM];have b:(decide (gA (nth l z)=(x:Int))&&ng l z)=false:=b;show vS l x++cS l z x=vS l x++cS l (z+1) x;rw[d,jd (by rw[b];simp),j7];have h:(x:Int)<=99:=ja h;have a:¬(y:Int)<l.length:=jc a;have e:y<=l.length:=e;have j:y=l.length:=(by omega);subst j;exact⟨iZ6,x+1,⟨⟨by simp,tZ,tZ⟩,(DG l x).symm,tZ⟩,by omega,by omega⟩;have h:¬(x:Int)<=99:=jc h;have g:x=100:=(by omega);subst g;rfl
theorem Fo:wZ PR 146 Fi:=vl Fj Is Tryz.func146 kcN koN
theorem DH {d:DyD} {p:Int} {l:List Int}:gx d p l=true↔(∀j:Nat,j<l.length->qN (wt d) (gL (U.bk d (nth l j))) p=true)/\(∀j:Nat,j<l.length->∀m:Nat,m<j->w9 d (nth l j) (nth l m)=true)/\I9 d l<=jae d:=by
 unfold gx jaX;rw[ji,ji,jU,jU,jp];refine and_congr ?_ (and_congr ?_ Iff.rfl);constructor;intro h j a;exact h _ (L.wi a);intro h b c;obtain⟨i,hi,rfl⟩:=L.mem_iff.1 c;exact h i hi;constructor;intro h j a m e;have:=h j (jG.2 a);rw[jU] at this;exact this _ (by rw[zb];exact⟨m,by omega,(L.qI (by omega)).symm⟩);intro h j a;have a:=jG.1 a;rw[jU];intro b c;rw[zb] at c;obtain⟨m,e,rfl⟩:=c;have:=h j a m (by omega);rw[L.qI (l:=l) (i:=m) (by omega)] at this;exact this
theorem DI {d:DyD} {p:Int} {l:List Int} (h:¬gx d p l=true):(false,())=(gx d p l,()):=by
 cases a:gx d p l with
 |false=>rfl
 |true=>exact absurd a h
theorem S2:OH:=by
 unfold OH jka jgD jhb Prod.q4;rintro⟨d,p,l,⟨⟩⟩ f t C;have f:FV d:=f;have t:My d p:=t;obtain⟨J,A⟩:Et d l:=C;refine⟨⟨0,⟨⟨rfl,rfl,tZ⟩,tZ⟩,jm _,fun j s=>by omega,fun j s=>by omega⟩,fun x q _=>⟨fun h=> ?_,fun h=> ?_⟩⟩;have h:(x:Int)<l.length:=ja h;have a:x<l.length:=(by omega);have n:=A _ (L.wi a);have B:=ci f.2.2 n;have D:=N4 f.2.2 A x (by omega);have E:=p9 (d:=d) a;have o:qb (wt d) (gL (U.bk d (nth l x)))=true:=by
  have:=f.2.1;unfold I8 at this;exact jU.1 this _ (jdI n)
 have H:wn (gm (U.bk d (nth l x))-wJ (U.bk d (nth l x))):=iZ6;have I:wn (vT d l x+(gm (U.bk d (nth l x))-wJ (U.bk d (nth l x)))):=iZ6;refine⟨by omega,h,n.1,n.2,t,o,fun b=> ?_,fun b=>⟨H,I,⟨0,⟨⟨rfl,tZ⟩,tZ⟩,jm _,fun m g=>by omega⟩,fun y u=>⟨fun k=> ?_,fun k=> ?_⟩⟩⟩;have b:qN (wt d) (gL (U.bk d (nth l x))) p=false:=(by simpa using(show(!qN (wt d) (gL (U.bk d (nth l x))) p)=true from b));exact DI (d:=d) (p:=p) (l:=l) (fun r=>by
  have:=(DH.1 r).1 x a;rw[b] at this;cases this)
 have k:(y:Int)<(x:Int):=ja k;have v:(y:Int)<l.length:=(by omega);refine⟨by omega,h,by omega,v,f,n,A _ (L.wi (l:=l) (i:=y) (by omega)),fun c=> ?_,fun c=>⟨iZ6,y+1,⟨⟨by simp,tZ⟩,tZ⟩,⟨by show y+1<=x;omega,fun m g=> ?_⟩,by show x-(y+1)<x-y;omega⟩⟩;have c:w9 d (nth l x) (nth l y)=false:=(by simpa using(show(!w9 d (nth l x) (nth l y))=true from c));exact DI (d:=d) (p:=p) (l:=l) (fun r=>by
  have:=(DH.1 r).2.1 x a y (by omega);rw[c] at this;cases this)
 have c:w9 d (nth l x) (nth l y)=true:=(by simpa using(show(!w9 d (nth l x) (nth l y))=false from c));by_cases e:m=y;subst e;exact c;exact u.2 m (by omega);have k:¬(y:Int)<(x:Int):=jc k;have G:y<=x:=u.1;have w:y=x:=(by omega);subst w;have b:qN (wt d) (gL (U.bk d (nth l y))) p=true:=(by simpa using(show(!qN (wt d) (gL (U.bk d (nth l y))) p)=false from b));refine⟨iZ6,y+1,⟨⟨by simp,E.symm,tZ⟩,tZ⟩,⟨by show y+1<=l.length;omega,fun j s=> ?_,fun j s m g=> ?_⟩,by show l.length-(y+1)<l.length-y;omega⟩;by_cases e:j=y;subst e;exact b;exact q.2.1 j (by omega);by_cases e:j=y;subst e;exact u.2 m g;exact q.2.2 j (by omega) m g;have h:¬(x:Int)<l.length:=jc h;have F:x<=l.length:=q.1;have a:x=l.length:=(by omega);subst a;have g:vT d l l.length=I9 d l:=by
  unfold vT;rw[zv (jk _)]
 show(decide (vT d l l.length<=jae d),())=(gx d p l,());rw[g];refine jE (fun z=>(z,())) ?_;rw[jZ,jp,DH];exact⟨fun h=>⟨q.2.1,q.2.2,h⟩,fun h=>h.2.2⟩
theorem jdM {d:DyD} {a b:Int} (h:aq d b a=true):w9 d a b=decide (gm (U.bk d b)+A5 d+PN d b a<=wJ (U.bk d a)):=by
 unfold w9;rw[je h];refine decide_eq_decide.2 ?_;unfold bL;omega
theorem jca {d:DyD} {a b:Int} (h:aq d b a=false):w9 d a b=decide (gm (U.bk d a)+A5 d+PN d a b<=wJ (U.bk d b)):=by
 unfold w9;rw[h,jd (by simp)];refine decide_eq_decide.2 ?_;unfold bL;omega
theorem QQ (d:DyD) (a b:Int):aq d b a=(decide (wJ (U.bk d b)<wJ (U.bk d a))||decide (wJ (U.bk d b)=wJ (U.bk d a))&&decide (b<a)):=by
 unfold aq;rw[jZ];simp only[zo,ji,jp]
theorem It:Fh:=by
 unfold Fh jj9 jgW jh6 jf0 jfZ;rintro⟨d,a,b,⟨⟩⟩ c e f;have c:FV d:=c;have e:au d a:=e;have f:au d b:=f;have m:=ci c.2.2 e;have n:=ci c.2.2 f;have p:=Dw c.2.2 e f;have q:=Dw c.2.2 f e;have o:=(yh c.2.2).2.2.1;have r:=(tg c.2.2 (i:=(Uf (U.bk d a)).toNat) (by omega)).1;have s:=(tg c.2.2 (i:=(Uf (U.bk d b)).toNat) (by omega)).1;have g:=e.1;have j:=e.2;have k:=f.1;have l:=f.2;refine⟨k,l,g,j,fun _=>k,fun _=>l,fun _=>g,fun _=>j,fun h=>⟨k,l,g,j,?_,n.1.1,n.1.2,m.1.1,?_,?_,?_⟩,fun h=>⟨g,j,k,l,?_,m.1.1,m.1.2,n.1.1,?_,?_,?_⟩⟩;show wn (gm (U.bk d b)+A5 d);exact iZ6;show Uf (U.bk d a)<((nth (qa d) (Uf (U.bk d b)).toNat).length:Int);omega;show wn (gm (U.bk d b)+A5 d+PN d b a);exact iZ6;have h:aq d b a=true:=(by rw[QQ];exact h);exact jE (fun z=>(z,())) (jdM h).symm;show wn (gm (U.bk d a)+A5 d);exact iZ6;show Uf (U.bk d b)<((nth (qa d) (Uf (U.bk d a)).toNat).length:Int);omega;show wn (gm (U.bk d a)+A5 d+PN d a b);exact iZ6;have h:aq d b a=false:=(by rw[QQ];exact h);exact jE (fun z=>(z,())) (jca h).symm
theorem Fp:wZ PR 149 Fg:=wL It Tryz.func149 kcN koN
theorem OL:wZ PR 110 OF:=vl OG S2 Tryz.func110 (kcC Im (kcC Fp kcN)) koN
def jdN (d:DyD):Bool:=decide (4<((wq d).length:Int))|| !wa ((qa d).length:Int) 1 5|| !wa (A5 d) 0 300|| !wa (jae d) 0 1440||decide (30<((qc d).length:Int))
def spH (s:SpD):Bool:=decide (U.lo s<0)||decide (U.hi s<U.lo s)||decide (300<U.hi s)
def bkH (n:Nat) (b:BkD):Bool:= !wa (Uf b) 0 ((n:Int)-1)||decide (wJ b<0)||decide (gm b<=wJ b)||decide (1440<gm b)
def shH (d:DyD) (s:ShD):Bool:= !wa (gA s) 0 99|| !wa (EG s) 0 9999|| !wa (X1 s) 1 2|| !X4 d (lV s)|| !Mi d (ar s)
theorem WL (d:DyD):qD d=(!jdN d&&((qa d).all (cR (qa d).length)&&((wq d).all (nc (qa d).length)&&(qc d).all (nf (wq d).length (wj (wt d)).length)))):=by
 unfold qD jdN;congr 1;rw[jZ];simp only[wa,jN,jR,jH,ze,ji,jp];omega
theorem jaI (s:SpD):tM s= !spH s:=by
 unfold tM spH;rw[jZ];simp only[jN,jR,jH,jp];omega
theorem jaJ (n:Nat) (b:BkD):nc n b= !bkH n b:=by
 unfold nc bkH;rw[jZ];simp only[wa,jN,jR,jH,ze,ji,jp];omega
theorem jaK (d:DyD) (s:ShD):nf (wq d).length (wj (wt d)).length s= !shH d s:=by
 unfold nf shH X4 Mi;rw[jZ];simp only[wa,jN,jR,ze,ji,jp];omega
theorem Li {d:DyD} (h:jdN d=true\/(qa d).all (cR (qa d).length)=false\/(wq d).all (nc (qa d).length)=false\/(qc d).all (nf (wq d).length (wj (wt d)).length)=false):(false,())=(qD d,()):=by
 have:qD d=false:=by
  rw[WL];rcases h with h|h|h|h<;>rw[h]<;>simp
 rw[this]
theorem Lj {α:Type} [Inhabited α] {l:List α} {p:α->Bool} {x:Nat} (a:x<l.length) (h:p (nth l x)=false):l.all p=false:=zU.2 ⟨_,L.wi a,by rw[h];simp⟩
theorem S3:Ov:=by
 unfold Ov jjl jj8 jiG jh5 jj7 jh4 jjk jhz jj6 jh3 jgj jgV jj5 jhy Prod.q4;rintro⟨d,⟨⟩⟩ _ _ _;refine⟨fun h=>Li (d:=d) (.inl h),fun k=> ?_⟩;have k:jdN d=false:=k;have l:=k;unfold jdN at l;simp only[wa,jR,jH,ze,ji,jp] at l;refine⟨⟨0,⟨⟨rfl,tZ⟩,tZ⟩,jm _,fun j g=>by omega⟩,fun x c _=>⟨fun h=> ?_,fun h=> ?_⟩⟩;have h:(x:Int)<(qa d).length:=ja h;have b:x<(qa d).length:=(by omega);refine⟨by omega,h,fun a=> ?_,fun a=>⟨⟨0,⟨⟨rfl,tZ⟩,tZ⟩,jm _,fun j g=>by omega⟩,fun y n=>⟨by omega,h,fun m=>⟨fun i=> ?_,fun i=> ?_⟩⟩⟩⟩;have a:¬((nth (qa d) x).length:Int)=(qa d).length:=ja a;refine Li (d:=d) (.inr (.inl (Lj b ?_)));unfold cR;rw[zt (by omega)];rfl;have m:(nth (qa d) x).length<4611686018427387904:=m;have i:(y:Int)<(nth (qa d) x).length:=ja i;refine⟨by omega,h,by omega,i,fun f=> ?_,fun f=>⟨iZ6,y+1,⟨⟨by simp,tZ⟩,tZ⟩,⟨by show y+1<=(nth (qa d) x).length;omega,fun j g=> ?_⟩,by show(nth (qa d) x).length-(y+1)<(nth (qa d) x).length-y;omega⟩⟩;have f:spH (nth (nth (qa d) x) y)=true:=f;refine Li (d:=d) (.inr (.inl (Lj b ?_)));have:(nth (qa d) x).all tM=false:=Lj (x:=y) (by omega) (by rw[jaI,f];rfl);unfold cR;rw[this,kx];have f:spH (nth (nth (qa d) x) y)=false:=f;by_cases e:j=y;subst e;show tM (nth (nth (qa d) x) j)=true;rw[jaI,f];rfl;exact n.2 j (by omega);have i:¬(y:Int)<(nth (qa d) x).length:=jc i;have a:((nth (qa d) x).length:Int)=(qa d).length:=jO.1 (jc a);have o:(nth (qa d) x).all tM=true:=iX (by omega) n.2;refine⟨iZ6,x+1,⟨⟨by simp,tZ⟩,tZ⟩,⟨by show x+1<=(qa d).length;omega,fun j g=> ?_⟩,by show(qa d).length-(x+1)<(qa d).length-x;omega⟩;by_cases e:j=x;subst e;show cR (qa d).length (nth (qa d) j)=true;unfold cR;rw[o,jD (by omega)];rfl;exact c.2 j (by omega);have h:¬(x:Int)<(qa d).length:=jc h;have r:(qa d).all (cR (qa d).length)=true:=iX (by omega) c.2;clear c h;refine⟨⟨0,⟨⟨rfl,tZ⟩,tZ⟩,jm _,fun j g=>by omega⟩,fun x c _=>⟨fun h=> ?_,fun h=> ?_⟩⟩;have h:(x:Int)<(wq d).length:=ja h;have b:x<(wq d).length:=(by omega);refine⟨by omega,h,fun _=>⟨by show wn (((qa d).length:Int)-1);exact iZ6,fun a=> ?_,fun a=>⟨iZ6,x+1,⟨⟨by simp,tZ⟩,tZ⟩,⟨by show x+1<=(wq d).length;omega,fun j g=> ?_⟩,by show(wq d).length-(x+1)<(wq d).length-x;omega⟩⟩⟩;have a:bkH (qa d).length (nth (wq d) x)=true:=a;exact Li (d:=d) (.inr (.inr (.inl (Lj b (by rw[jaJ,a];rfl)))));have a:bkH (qa d).length (nth (wq d) x)=false:=a;by_cases e:j=x;subst e;show nc (qa d).length (nth (wq d) j)=true;rw[jaJ,a];rfl;exact c.2 j (by omega);have h:¬(x:Int)<(wq d).length:=jc h;have p:(wq d).all (nc (qa d).length)=true:=iX (by omega) c.2;clear c h;refine⟨⟨0,⟨⟨rfl,tZ⟩,tZ⟩,jm _,fun j g=>by omega⟩,fun x c _=>⟨fun h=> ?_,fun h=> ?_⟩⟩;have h:(x:Int)<(qc d).length:=ja h;have b:x<(qc d).length:=(by omega);refine⟨by omega,h,fun a=> ?_,fun a=>⟨iZ6,x+1,⟨⟨by simp,tZ⟩,tZ⟩,⟨by show x+1<=(qc d).length;omega,fun j g=> ?_⟩,by show(qc d).length-(x+1)<(qc d).length-x;omega⟩⟩;have a:shH d (nth (qc d) x)=true:=a;exact Li (d:=d) (.inr (.inr (.inr (Lj b (by rw[jaK,a];rfl)))));have a:shH d (nth (qc d) x)=false:=a;by_cases e:j=x;subst e;show nf (wq d).length (wj (wt d)).length (nth (qc d) j)=true;rw[jaK,a];rfl;exact c.2 j (by omega);have h:¬(x:Int)<(qc d).length:=jc h;have q:(qc d).all (nf (wq d).length (wj (wt d)).length)=true:=iX (by omega) c.2;show(true,())=(qD d,());rw[WL,k,r,p,q];rfl
theorem OM:wZ PR 93 Ot:=vl Ou S3 Tryz.func93 (kcC mV (kcC DF (kcC Fm kcN))) koN
theorem rg:wZ PR 57 Oz:=vl OA S1 Tryz.func57 (kcC xK (kcC Ol (kcC OM (kcC OK kcN)))) koN
namespace U
def yl (l:List ShD) (i n:Nat):Bool:=decide (X1 (nth l i)=1)&& !((l.take n).any (fun t=>decide (lV t=lV (nth l i))&&decide (ar t=ar (nth l i))&&vd t (nth l i)))
def wx (l:List ShD) (n:Nat):List ShD:=((List.range n).filter (fun i=>yl l i l.length)).map (nth l)
def wP (l:List ShD) (n:Nat):Nat:=(List.range n).foldl (fun f i=>if vd (nth l f) (nth l i)=true then i else f) 0
def wh (l:List ShD):Nat->List ShD×List ShD
 |0=>([],l)
 |n+1=>((wh l n).1++[nth (wh l n).2 (wP (wh l n).2 (wh l n).2.length)],(wh l n).2.take (wP (wh l n).2 (wh l n).2.length)++(wh l n).2.drop (wP (wh l n).2 (wh l n).2.length+1))
def cW (d:DyD):List ShD:=wx (wg (qc d)) (wg (qc d)).length
def vf (d:DyD):List ShD:=(wh (cW d) (cW d).length).1
def wR (d:DyD) (n:Nat):List Int×List Int:=((vf d).take n).foldl (cy d) (List.replicate (wq d).length 0,[])
def Ji (d:DyD):List Int×List Int:=wR d (vf d).length
def tT (d:DyD):List Int:=if gN d=0 then(Ji d).1 else[]
end U
def Lk:wS:=⟨[.val tDy],[.slice tSh],false,fun d=>[(qc d.1).length<=1000],fun d=>(vf d.1,())⟩
def Ll:Ann:=fun r=>match r with
 |4=>some fun σ=>{X:=Nat,sl:=fun i=>[(5,.dat .int (i:Int)),(3,.own 3 tSh)],ob:=fun i=>[(3,some (.row 134 tSh false .yes (wx (gd (.slice tSh) σ 4) i)))],inv:=fun i=>i<=(gd (.slice tSh) σ 4).length,mu:=fun i=>(gd (.slice tSh) σ 4).length-i}
 |8=>some fun σ=>{X:=Nat,sl:=fun k=>[(7,.dat .int (k:Int)),(6,.dat .bool (yl (gd (.slice tSh) σ 4) (gd .int σ 5).toNat k))],ob:=fun _=>[],inv:=fun k=>k<=(gd (.slice tSh) σ 4).length,mu:=fun k=>(gd (.slice tSh) σ 4).length-k}
 |15=>some fun σ=>{X:=Nat,sl:=fun _=>[(3,.own 3 tSh),(8,.own 8 tSh)],ob:=fun n=>[(3,some (.row 134 tSh false .unk (wh (gr tSh σ 3) n).2)),(8,some (.row 134 tSh false .yes (wh (gr tSh σ 3) n).1))],inv:=fun n=>n<=(gr tSh σ 3).length,mu:=fun n=>(gr tSh σ 3).length-n}
 |18=>some fun σ=>{X:=Nat,sl:=fun i=>[(10,.dat .int (i:Int)),(9,.dat .int (wP (gr tSh σ 3) i:Int))],ob:=fun _=>[],inv:=fun i=>i<=(gr tSh σ 3).length,mu:=fun i=>(gr tSh σ 3).length-i}
 |_=>none
abbrev jfB (d:DyD×Unit):=(wg d.1.q4.2.1)
abbrev jhB (d:DyD×Unit)(a:Nat)(x:Nat):=((nth (jfB d) (a:Int).toNat).2.2.2.1=(nth (jfB d) (x:Int).toNat).2.2.2.1)
abbrev jkb (d:DyD×Unit)(a:Nat)(x:Nat):=((nth (jfB d) (a:Int).toNat).q4.1=(nth (jfB d) (x:Int).toNat).q4.1)
abbrev jf9 (d:DyD×Unit):=(↑(jfB d).length:Int)
abbrev jkc (d:DyD×Unit)(a:Nat)(x:Nat):=(decide (jhB d a x)&&decide (jkb d a x)&&vd (nth (jfB d) (a:Int).toNat) (nth (jfB d) (x:Int).toNat))
abbrev jiH (d:DyD×Unit)(a:Nat)(x:Nat):=(decide (jhB d a x)&&decide (jkb d a x))
abbrev jgE (d:DyD×Unit)(x:Nat):=(wx (jfB d) x)
abbrev jfG (d:DyD×Unit)(x:Nat)(a:Nat):=(wh (jgE d x) a)
abbrev jfO (d:DyD×Unit)(x:Nat)(a:Nat)(b:Nat):=(↑(wP (jfG d x a).2 b):Int)
abbrev jf5 (d:DyD×Unit)(x:Nat)(a:Nat):=(↑(jfG d x a).2.length:Int)
def Lm:Prop:=∀(d:DyD×Unit),(qc d.1).length<=1000->d.1.q4.2.1.length<=1000/\(∃(x:Nat),((0=(x:Int)/\True/\True)/\wx (jfB d) x=[]/\True)/\x<=(jfB d).length)/\∀(x:Nat),x<=(jfB d).length->(jfB d).length<4611686018427387904->(decide ((x:Int)<(jf9 d))=true->0<=(x:Int)/\(x:Int)<(jf9 d)/\(∃(a:Nat),((0=(a:Int)/\decide ((nth (jfB d) (x:Int).toNat).2.2.1=1)=yl (jfB d) (x:Int).toNat a/\True)/\True)/\a<=(jfB d).length)/\∀(a:Nat),a<=(jfB d).length->(jfB d).length<4611686018427387904->(decide ((a:Int)<(jf9 d))=true->0<=(a:Int)/\(a:Int)<(jf9 d)/\0<=(x:Int)/\(x:Int)<(jf9 d)/\(decide (jhB d a x)=true->0<=(a:Int))/\(decide (jhB d a x)=true->(a:Int)<(jf9 d))/\(decide (jhB d a x)=true->0<=(x:Int))/\(decide (jhB d a x)=true->(x:Int)<(jf9 d))/\((jiH d a x)=true->0<=(a:Int))/\((jiH d a x)=true->(a:Int)<(jf9 d))/\((jiH d a x)=true->0<=(x:Int))/\((jiH d a x)=true->(x:Int)<(jf9 d))/\((jkc d a x)=true->wn ((a:Int)+1)/\∃(c:Nat),(((a:Int)+1=(c:Int)/\false=yl (jfB d) (x:Int).toNat c/\True)/\True)/\c<=(jfB d).length/\(jfB d).length-c<(jfB d).length-a)/\((jkc d a x)=false->wn ((a:Int)+1)/\∃(c:Nat),((yl (jfB d) (x:Int).toNat a=yl (jfB d) (x:Int).toNat c/\(a:Int)+1=(c:Int)/\True)/\True)/\c<=(jfB d).length/\(jfB d).length-c<(jfB d).length-a))/\(decide ((a:Int)<(jf9 d))=false->(yl (jfB d) (x:Int).toNat a=true->0<=(x:Int)/\(x:Int)<(jf9 d)/\((jgE d x).length+[nth (jfB d) (x:Int).toNat].length)*40<=140737488355328/\wn ((x:Int)+1)/\∃(c:Nat),(((x:Int)+1=(c:Int)/\True/\True)/\wx (jfB d) x++[nth (jfB d) (x:Int).toNat]=wx (jfB d) c/\True)/\c<=(jfB d).length/\(jfB d).length-c<(jfB d).length-x)/\(yl (jfB d) (x:Int).toNat a=false->wn ((x:Int)+1)/\∃(c:Nat),((True/\(x:Int)+1=(c:Int)/\True)/\wx (jfB d) x=wx (jfB d) c/\True)/\c<=(jfB d).length/\(jfB d).length-c<(jfB d).length-x)))/\(decide ((x:Int)<(jf9 d))=false->(∃(a:Nat),((True/\True/\True)/\wx (jfB d) x=(jfG d x a).2/\(jfG d x a).1=[]/\True)/\a<=(jgE d x).length)/\∀(a:Nat),a<=(jgE d x).length->(jfG d x a).2.length<4611686018427387904->(decide ((0:Int)<(jf5 d x a))=true->(∃(b:Nat),((0=(b:Int)/\(0:Int)=(jfO d x a b)/\True)/\True)/\b<=(jfG d x a).2.length)/\∀(b:Nat),b<=(jfG d x a).2.length->(jfG d x a).2.length<4611686018427387904->(decide ((b:Int)<(jf5 d x a))=true->(0:Int)<=(jfO d x a b)/\(jfO d x a b)<(jf5 d x a)/\0<=(b:Int)/\(b:Int)<(jf5 d x a)/\(vd (nth (jfG d x a).2 (jfO d x a b).toNat) (nth (jfG d x a).2 (b:Int).toNat)=true->wn ((b:Int)+1)/\∃(c:Nat),(((b:Int)+1=(c:Int)/\(b:Int)=(↑(wP (jfG d x a).2 c):Int)/\True)/\True)/\c<=(jfG d x a).2.length/\(jfG d x a).2.length-c<(jfG d x a).2.length-b)/\(vd (nth (jfG d x a).2 (jfO d x a b).toNat) (nth (jfG d x a).2 (b:Int).toNat)=false->wn ((b:Int)+1)/\∃(c:Nat),(((jfO d x a b)=(↑(wP (jfG d x a).2 c):Int)/\(b:Int)+1=(c:Int)/\True)/\True)/\c<=(jfG d x a).2.length/\(jfG d x a).2.length-c<(jfG d x a).2.length-b))/\(decide ((b:Int)<(jf5 d x a))=false->(0:Int)<=(jfO d x a b)/\(jfO d x a b)<(jf5 d x a)/\((jfG d x a).1.length+[nth (jfG d x a).2 (jfO d x a b).toNat].length)*40<=140737488355328/\(0:Int)<=0/\(0:Int)<=(jfO d x a b)/\(jfO d x a b)<=(jf5 d x a)/\(0+(List.take ((jfO d x a b).toNat-Int.toNat 0) (List.drop (Int.toNat 0) (jfG d x a).2)).length)*40<=140737488355328/\wn ((jfO d x a b)+1)/\(0:Int)<=(jfO d x a b)+1/\(jfO d x a b)+1<=(jf5 d x a)/\(jf5 d x a)<=(jf5 d x a)/\(([]++List.take ((jfO d x a b).toNat-Int.toNat 0) (List.drop (Int.toNat 0) (jfG d x a).2)).length+(List.take ((jf5 d x a).toNat-((jfO d x a b)+1).toNat) (List.drop ((jfO d x a b)+1).toNat (jfG d x a).2)).length)*40<=140737488355328/\∃(c:Nat),((True/\True/\True)/\[]++List.take ((jfO d x a b).toNat-Int.toNat 0) (List.drop (Int.toNat 0) (jfG d x a).2)++List.take ((jf5 d x a).toNat-((jfO d x a b)+1).toNat) (List.drop ((jfO d x a b)+1).toNat (jfG d x a).2)=(wh (jgE d x) c).2/\(jfG d x a).1++[nth (jfG d x a).2 (jfO d x a b).toNat]=(wh (jgE d x) c).1/\True)/\c<=(jgE d x).length/\(jgE d x).length-c<(jgE d x).length-a))/\(decide ((0:Int)<(jf5 d x a))=false->((jfG d x a).1,())=(vf d.1,())))
def ON:vi:=⟨[.own (.cl (.row 3 .int .no)) true,.val .int],[.cl (.row 3 .int .yes)],fun d=>[d.1.length<=1000,0<=d.2.1/\d.2.1<=63],fun d=>((U.on d.1 d.2.1,()),(d.1,()))⟩
def OO:Ann:=fun r=>match r with
 |3=>some fun σ=>{X:=Nat,sl:=fun i=>[(6,.dat .int (i:Int)),(5,.own 5 .int)],ob:=fun i=>[(5,some (.row 3 .int false .yes (oC (gr .int σ 1000000) (gd .int σ 1) i)))],inv:=fun i=>i<=(gr .int σ 1000000).length,mu:=fun i=>(gr .int σ 1000000).length-i}
 |_=>none
def OP:Prop:=∀(d:List Int×Int×Unit),d.1.length<=1000->0<=d.2.1/\d.2.1<=63->(∃(x:Nat),((0=(x:Int)/\True/\True)/\oC d.1 d.2.1 x=[]/\True)/\x<=d.1.length)/\∀(x:Nat),x<=d.1.length->d.1.length<4611686018427387904->(decide ((x:Int)<d.1.length)=true->0<=(x:Int)/\(x:Int)<d.1.length/\(0<=d.2.1/\d.2.1<=63)/\(qf (nth d.1 (x:Int).toNat) d.2.1=true->((oC d.1 d.2.1 x).length+[(x:Int)].length)*8<=140737488355328/\wn ((x:Int)+1)/\∃(a:Nat),(((x:Int)+1=(a:Int)/\True/\True)/\oC d.1 d.2.1 x++[(x:Int)]=oC d.1 d.2.1 a/\True)/\a<=d.1.length/\d.1.length-a<d.1.length-x)/\(qf (nth d.1 (x:Int).toNat) d.2.1=false->wn ((x:Int)+1)/\∃(a:Nat),((True/\(x:Int)+1=(a:Int)/\True)/\oC d.1 d.2.1 x=oC d.1 d.2.1 a/\True)/\a<=d.1.length/\d.1.length-a<d.1.length-x))/\(decide ((x:Int)<d.1.length)=false->(oC d.1 d.2.1 x,())=(U.on d.1 d.2.1,())/\(d.1,())=(d.1,()))
def OQ:wS:=⟨[.val tDy],[.slice .int,.slice .int],false,fun d=>[gN d.1=0],fun d=>((Ji d.1).1,(Ji d.1).2,())⟩
def OR:Ann:=fun r=>match r with
 |4=>some fun σ=>{X:=Nat,sl:=fun i=>[(5,.dat .int (i:Int)),(2,.own 2 .int),(3,.own 3 .int)],ob:=fun i=>[(2,some (.row 3 .int false .no (wR (gb tDy σ 1) i).1)),(3,some (.row 3 .int false .yes (wR (gb tDy σ 1) i).2))],inv:=fun i=>i<=(vf (gb tDy σ 1)).length,mu:=fun i=>(vf (gb tDy σ 1)).length-i}
 |_=>none
abbrev jfN (d:DyD×Unit)(x:Nat):=(nth (vf d.1) (x:Int).toNat)
abbrev jgX (d:DyD×Unit):=(↑(vf d.1).length:Int)
abbrev jjm (d:DyD×Unit)(x:Nat):=(U.on (wR d.1 x).1 (jfN d x).q4.1++[(jfN d x).2.2.2.1])
abbrev jke (d:DyD×Unit)(x:Nat):=(nth (wR d.1 x).1 (jfN d x).2.2.2.1.toNat+1*2^(jfN d x).q4.1.toNat)
abbrev jh7 (d:DyD×Unit):=(d.1.2.2.1.length:Int)
def OS:Prop:=∀(d:DyD×Unit),gN d.1=0->d.1.2.2.1.length<4611686018427387904->0<=(jh7 d)/\(jh7 d)=(jh7 d)/\(jh7 d).toNat*8<=140737488355328/\(qc d.1).length<=1000/\(∃(x:Nat),((0=(x:Int)/\True/\True/\True)/\List.replicate (jh7 d).toNat 0=(wR d.1 x).1/\(wR d.1 x).2=[]/\True)/\x<=(vf d.1).length)/\∀(x:Nat),x<=(vf d.1).length->(vf d.1).length<4611686018427387904->(decide ((x:Int)<(jgX d))=true->0<=(x:Int)/\(x:Int)<(jgX d)/\0<=(x:Int)/\(x:Int)<(jgX d)/\(wR d.1 x).1.length<=1000/\((0:Int)<=(jfN d x).q4.1/\(jfN d x).q4.1<=63)/\0<=(x:Int)/\(x:Int)<(jgX d)/\((U.on (wR d.1 x).1 (jfN d x).q4.1).length+[(jfN d x).2.2.2.1].length)*8<=140737488355328/\FV d.1/\My d.1 (jfN d x).q4.1/\Et d.1 (jjm d x)/\(gx d.1 (jfN d x).q4.1 (jjm d x)=true->0<=(x:Int)/\(x:Int)<(jgX d)/\(0:Int)<=(jfN d x).2.2.2.1/\(jfN d x).2.2.2.1<(↑(wR d.1 x).1.length:Int)/\0<=(x:Int)/\(x:Int)<(jgX d)/\(0:Int)<=(jfN d x).q4.1/\(jfN d x).q4.1<=18446744073709551615/\(0:Int)<=(jfN d x).q4.1/\(jfN d x).q4.1<=64/\wn ((1:Int)*2^(jfN d x).q4.1.toNat)/\wn (jke d x)/\(0:Int)<=(jfN d x).2.2.2.1/\(jfN d x).2.2.2.1<(↑(wR d.1 x).1.length:Int)/\wn ((x:Int)+1)/\∃(a:Nat),((True/\True/\(x:Int)+1=(a:Int)/\True)/\(wR d.1 x).2=(wR d.1 a).2/\(wR d.1 x).1.set (jfN d x).2.2.2.1.toNat (jke d x)=(wR d.1 a).1/\True)/\a<=(vf d.1).length/\(vf d.1).length-a<(vf d.1).length-x)/\(gx d.1 (jfN d x).q4.1 (jjm d x)=false->0<=(x:Int)/\(x:Int)<(jgX d)/\((wR d.1 x).2.length+[(jfN d x).1].length)*8<=140737488355328/\wn ((x:Int)+1)/\∃(a:Nat),((True/\(x:Int)+1=(a:Int)/\True/\True)/\(wR d.1 x).2++[(jfN d x).1]=(wR d.1 a).2/\(wR d.1 x).1=(wR d.1 a).1/\True)/\a<=(vf d.1).length/\(vf d.1).length-a<(vf d.1).length-x))/\(decide ((x:Int)<(jgX d))=false->((wR d.1 x).1,(wR d.1 x).2,())=((Ji d.1).1,(Ji d.1).2,()))
def OT:wS:=⟨[.val tDy],[.slice .int,.int],false,fun d=>[(wq d.1).length<=1000000],fun d=>(tT d.1,gN d.1,())⟩
def OU:Prop:=∀(d:DyD×Unit),(wq d.1).length<=1000000->(wq d.1).length<=1000000/\(decide (gN d.1≠0)=true->([],gN d.1,())=(tT d.1,gN d.1,()))/\(decide (gN d.1≠0)=false->gN d.1=0/\((Ji d.1).1,(0:Int),())=(tT d.1,gN d.1,()))
theorem S4:OP:=by
 rintro⟨l,p,⟨⟩⟩ e i;have e:l.length<=1000:=e;refine⟨⟨0,⟨⟨rfl,tZ,tZ⟩,rfl,tZ⟩,jm _⟩,fun x g _=>⟨fun h=> ?_,fun h=> ?_⟩⟩;have h:(x:Int)<l.length:=ja h;have b:=WJ l p x;have f:=QO l p x;have up:x+1<=l.length:=(by omega);have d:l.length-(x+1)<l.length-x:=(by omega);refine⟨by omega,h,i,fun a=>⟨?_,iZ6,x+1,⟨⟨by simp,tZ,tZ⟩,?_,tZ⟩,up,d⟩,fun a=>⟨iZ6,x+1,⟨⟨tZ,by simp,tZ⟩,?_,tZ⟩,up,d⟩⟩;show((oC l p x).length+1)*8<=140737488355328;omega;have a:qf (nth l x) p=true:=a;rw[je a] at b;exact b.symm;have a:qf (nth l x) p=false:=a;rw[jd (by rw[a];simp),j7] at b;exact b.symm;have h:¬(x:Int)<l.length:=jc h;have g:x<=l.length:=g;have c:x=l.length:=(by omega);subst c;exact⟨rfl,rfl⟩
theorem OV:ac PR 111 ON:=sF OO S4 Tryz.func111 (kcC tp kcN) koN
theorem S5:OU:=by
 rintro⟨d,⟨⟩⟩ a;refine⟨a,fun h=> ?_,fun h=> ?_⟩;have h:gN d≠0:=ja h;show([],gN d,())=(tT d,gN d,());unfold tT;rw[jd h];have h:gN d=0:=jO.1 (jc h);refine⟨h,?_⟩;show((Ji d).1,(0:Int),())=(tT d,gN d,());unfold tT;rw[je h,h]
theorem uX (l:List ShD) (n:Nat):wP l (n+1)=if vd (nth l (wP l n)) (nth l n)=true then n else wP l n:=by
 unfold wP;rw[zf,jS];rfl
theorem nO (l:List ShD):∀n,n<=l.length->0<l.length->wP l n<l.length
 |0,_,h=>h
 |n+1,a,h=>by
  have b:=nO l n (by omega) h
  rw[uX]
  split<;>omega
theorem nP (l:List ShD):∀n,n<=l.length->(wh l n).1.length=n/\(wh l n).2.length=l.length-n
 |0,_=>⟨rfl,rfl⟩
 |n+1,d=>by
  obtain⟨a,b⟩:=nP l n (by omega)
  have c:=nO (wh l n).2 _ (jk _) (by omega)
  refine⟨?_,?_⟩
  show((wh l n).1++[_]).length=_
  rw[jL,a];rfl
  show((wh l n).2.take _++(wh l n).2.drop _).length=_
  rw[jL,jT,zD]
  omega
theorem Zw {α:Type} [Inhabited α] {l:List α} {m:Nat} (h:m<l.length):(nth l m::(l.take m++l.drop (m+1))).Perm l:=by
 have e:l=l.take m++nth l m::l.drop (m+1):=by
  conv=>lhs;rw[<-zY m l]
  rw[z6 h,L.qI h]
 conv=>rhs;rw[e]
 exact List.perm_middle.symm
theorem DJ (l:List ShD):∀n,n<=l.length->((wh l n).1++(wh l n).2).Perm l
 |0,_=>List.Perm.refl _
 |n+1,d=>by
  have b:=DJ l n (by omega)
  have c:=nP l n (by omega)
  have a:=nO (wh l n).2 _ (jk _) (by omega)
  refine List.Perm.trans ?_ b
  show((wh l n).1++[nth (wh l n).2 (wP (wh l n).2 (wh l n).2.length)]++_).Perm _
  rw[jM]
  exact List.Perm.append_left _ (Zw a)
theorem QR {d:DyD} {n:Nat} (h:n<(vf d).length):wR d (n+1)=cy d (wR d n) (nth (vf d) n):=by
 unfold wR;rw[L.wO h,jS];rfl
theorem WM {d:DyD} {s:ShD} (h:s∈vf d):s∈wg (qc d):=by
 have b:=DJ (cW d) (cW d).length (jk _);have a:s∈cW d:=b.mem_iff.1 (jh _ h);unfold cW wx at a;obtain⟨i,hi,rfl⟩:=j6.1 a;exact L.wi (jG.1 (jX.1 hi).1)
theorem Iu {l:List ShD} {s:ShD} (h:s∈wg l):s∈l:=by
 unfold wg vS at h;obtain⟨m,_,h⟩:=List.mem_flatMap.1 h;unfold cS at h;obtain⟨i,hi,rfl⟩:=j6.1 h;exact L.wi (jG.1 (jX.1 hi).1)
theorem WN {d:DyD} (k:qD d=true) (j:wu (wt d)=true):∀n,n<=(vf d).length->(wR d n).1.length=(wq d).length/\(wR d n).2.length<=n/\∀b,b<(wq d).length->0<=nth (wR d n).1 b/\nth (wR d n).1 b<=128*(n:Int)
 |0,_=>by
  refine⟨zu,jm _,fun b a=> ?_⟩
  have:nth (wR d 0).1 b=0:=L.BC a
  rw[this];exact⟨zH 0,zH 0⟩
 |n+1,s=>by
  obtain⟨g,q,h⟩:=WN k j n (by omega)
  have p:=nM k (Iu (WM (L.wi (l:=vf d) (i:=n) (by omega))))
  have r:(wj (wt d)).length<=8:=(w8 j).2.2.1
  have o:(2:Int)^(ar (nth (vf d) n)).toNat<=128:=by
   rw[BT.Bz];have:(2:Nat)^(ar (nth (vf d) n)).toNat<=2^7:=Nat.pow_le_pow_right (by decide) (by omega);omega
  have m:(0:Int)<(2:Int)^(ar (nth (vf d) n)).toNat:=by
   rw[BT.Bz];have:=Nat.two_pow_pos (ar (nth (vf d) n)).toNat;omega
  have f:(lV (nth (vf d) n)).toNat<(wR d n).1.length:=by
   have:=p.2;unfold au at this;omega
  rw[QR (by omega)];unfold cy
  split
  refine⟨by show((wR d n).1.set _ _).length=_;rw[kg,g],by show(wR d n).2.length<=_;omega,fun b a=> ?_⟩;show 0<=nth ((wR d n).1.set _ _) b/\nth ((wR d n).1.set _ _) b<=_;rw[L.br f];have c:=h b a
  split
  rename_i e;rw[e];omega;omega;refine⟨g,by show((wR d n).2++[_]).length<=_;rw[jL];simp;omega,fun b a=> ?_⟩;have c:=h b a;show 0<=nth (wR d n).1 b/\nth (wR d n).1 b<=_;omega
theorem GU {d:DyD} (h:gN d=0):FV d:=(gK ((fL d).trans h)).1
theorem jdO {t:List Int} {p b:Int} (h:b∈U.on t p):0<=b/\b<(t.length:Int):=by
 unfold U.on oC at h;obtain⟨i,hi,rfl⟩:=j6.1 h;have:=jG.1 (jX.1 hi).1;omega
theorem jcb (d:DyD):(vf d).length<=(qc d).length*100:=by
 have a:=(nP (cW d) (cW d).length (jk _)).1;have b:(cW d).length<=(wg (qc d)).length:=by
  unfold cW wx;rw[zj];exact jF (zF _ _) (by simp)
 have c:(wg (qc d)).length<=(qc d).length*100:=nN _ 100;show(wh (cW d) (cW d).length).1.length<=_;omega
theorem jdP (t:List Int) (p:Int):(U.on t p).length<=t.length:=QO t p t.length
theorem QS (d:DyD):wR d 0=(List.replicate ((wq d).length:Int).toNat 0,[]):=rfl
attribute [local irreducible] vf wR gx U.on
theorem S6:OS:=by
 unfold OS jh7 jke jjm jgX jfN Prod.q4;rintro⟨d,⟨⟩⟩ m _;have m:gN d=0:=m;have a:=GU m;have y:(wq d).length<=4:=(yh a.2.2).1;have w:(qc d).length<=30:=(yh a.2.2).2.2.2.2.1;have E:(wj (wt d)).length<=8:=(w8 a.1).2.2.1;refine⟨j8 _,rfl,by show((wq d).length:Int).toNat*8<=140737488355328;omega,by show(qc d).length<=1000;omega,⟨0,⟨⟨rfl,tZ,tZ,tZ⟩,(jE (·.1) (QS d)).symm,jE (·.2) (QS d),tZ⟩,jm _⟩,fun x v z=>⟨fun h=> ?_,fun h=> ?_⟩⟩;have h:(x:Int)<(vf d).length:=ja h;have B:=jcb d;have z:(vf d).length<=3000:=(by omega);obtain⟨C,G,D⟩:=WN a.2.2 a.1 x (by omega);have g:=nM a.2.2 (Iu (WM (L.wi (l:=vf d) (i:=x) (by omega))));have o:=g.2;unfold au at o;have F:=D (lV (nth (vf d) x)).toNat (by omega);have j:=QR (d:=d) (n:=x) (by omega);have H:=jdP (wR d x).1 (ar (nth (vf d) x));have u:BT.qd ((2:Int)^(ar (nth (vf d) x)).toNat):=BT.ld (by omega);unfold BT.qd at u;have up:x+1<=(vf d).length:=(by omega);have t:(vf d).length-(x+1)<(vf d).length-x:=(by omega);have x0:(0:Int)<=(x:Int):=j8 x;have q:0<=ar (nth (vf d) x):=g.1.1;have r:ar (nth (vf d) x)<=63:=(by omega);have s:ar (nth (vf d) x)<=64:=(by omega);have k:ar (nth (vf d) x)<=18446744073709551615:=(by omega);have bl:lV (nth (vf d) x)<((wR d x).1.length:Int):=(by omega);have i64:wn ((x:Int)+1):=iZ6;refine⟨x0,h,x0,h,by show(wR d x).1.length<=1000;omega,⟨q,r⟩,x0,h,by show((U.on (wR d x).1 (ar (nth (vf d) x))).length+1)*8<=140737488355328;omega,a,g.1,⟨?_,fun b f=> ?_⟩,fun c=> ?_,fun c=> ?_⟩;show(U.on (wR d x).1 (ar (nth (vf d) x))++[lV (nth (vf d) x)]).length<=12;rw[jL];simp;omega;rcases jr.1 f with f|f;have:=jdO f;exact⟨this.1,by show b<((wq d).length:Int);rw[<-C];exact this.2⟩;simp at f;subst f;exact g.2;have c:gx d (ar (nth (vf d) x)) (U.on (wR d x).1 (ar (nth (vf d) x))++[lV (nth (vf d) x)])=true:=c;have e:wR d (x+1)=((wR d x).1.set (lV (nth (vf d) x)).toNat (nth (wR d x).1 (lV (nth (vf d) x)).toNat+2^(ar (nth (vf d) x)).toNat),(wR d x).2):=by
  rw[j];unfold cy;rw[je c]
 have A:(2:Int)^(ar (nth (vf d) x)).toNat<4611686018427387904:=u.2;refine⟨x0,h,g.2.1,bl,x0,h,q,k,q,s,?_,?_,g.2.1,bl,i64,x+1,⟨⟨tZ,tZ,by simp,tZ⟩,?_,?_,tZ⟩,up,t⟩;show wn (1*2^(ar (nth (vf d) x)).toNat);rw[mT];exact iZ6;show wn (nth (wR d x).1 (lV (nth (vf d) x)).toNat+1*2^(ar (nth (vf d) x)).toNat);rw[mT];exact iZ6;show(wR d x).2=(wR d (x+1)).2;rw[e];show(wR d x).1.set (lV (nth (vf d) x)).toNat (nth (wR d x).1 (lV (nth (vf d) x)).toNat+1*2^(ar (nth (vf d) x)).toNat)=(wR d (x+1)).1;rw[mT,e];have c:gx d (ar (nth (vf d) x)) (U.on (wR d x).1 (ar (nth (vf d) x))++[lV (nth (vf d) x)])=false:=c;have e:wR d (x+1)=((wR d x).1,(wR d x).2++[gA (nth (vf d) x)]):=by
  rw[j];unfold cy;rw[c,jd (by simp)]
 refine⟨x0,h,by show((wR d x).2.length+1)*8<=140737488355328;omega,i64,x+1,⟨⟨tZ,by simp,tZ,tZ⟩,?_,?_,tZ⟩,up,t⟩;show(wR d x).2++[gA (nth (vf d) x)]=(wR d (x+1)).2;rw[e];show(wR d x).1=(wR d (x+1)).1;rw[e];have h:¬(x:Int)<(vf d).length:=jc h;have v:x<=(vf d).length:=v;have p:x=(vf d).length:=(by omega);subst p;rfl
end Go.X
namespace Go.X
open U
theorem nQ (c:CrD) (j:JbD) (i:Nat):(yB (c,j,dp c j,()) (nth (wj c) i)=0)↔qN c j (i:Int)=true:=by
 show Ug (cT (nth (wj c) i) (Yh j)) (!qf (U.fd (nth (wj c) i)) (PM j)) (!qf (U.cl (nth (wj c) i)) (eE j))=0↔
  (!(cT (nth (wj c) ((i:Int)).toNat) (Yh j))&&qf (U.fd (nth (wj c) ((i:Int)).toNat)) (PM j)&&qf (U.cl (nth (wj c) ((i:Int)).toNat)) (eE j))=true
 rw[jw];generalize cT (nth (wj c) i) (Yh j)=x;generalize qf (U.fd (nth (wj c) i)) (PM j)=y;generalize qf (U.cl (nth (wj c) i)) (eE j)=z;cases x<;>cases y<;>cases z<;>decide
theorem jcc {c:CrD} {j:JbD} (b:wu c=true) (d:qb c j=true) (p:Nat):(p:Int)∈dR c j↔p<(wj c).length/\qN c j (p:Int)=true:=by
 have a:vH c j=0:=(by unfold vH;rw[b,d];rfl);unfold dR cV;rw[je a,j6];refine⟨fun⟨i,hi,e⟩=> ?_,fun h=>⟨p,?_,rfl⟩⟩;have e:i=p:=(by omega);subst e;have:=jX.1 hi;exact⟨jG.1 this.1,(nQ c j i).1 (ja this.2)⟩;exact jX.2 ⟨jG.2 h.1,jD ((nQ c j p).2 h.2)⟩
theorem WO {l:List Int} (h:∀p∈l,0<=p/\p<8):∀n,n<=l.length->∀q,BT.has (ly l n) q=(l.take n).any (fun p=>decide (p.toNat=q))
 |0,_,q=>BT.tY q
 |n+1,c,q=>by
  have b:=WO h n (by omega) q
  have a:=re h n (by omega)
  have d:=h _ (L.wi (l:=l) (i:=n) (by omega))
  rw[uV (by omega),mT,BT.has_bor a.1 (BT.ld (by omega)),b,BT.BA,L.wO (by omega),kV]
  simp
theorem WP {l:List Int} (h:∀p∈l,0<=p/\p<8) (q:Nat):BT.has (Rk l) q=l.any (fun p=>decide (p.toNat=q)):=by
 have:=WO h l.length (jk _) q;rw[zz] at this;exact this
theorem Zx {d:DyD} {b:Nat} (a:b<(wq d).length):nth (yD d (wq d).length) b=Rk (dR (wt d) (gL (nth (wq d) b))):=by
 unfold yD;rw[zz,L.nth_map a]
theorem WQ {d:DyD} (a:FV d) {b:Nat} (c:b<(wq d).length):qb (wt d) (gL (nth (wq d) b))=true:=
 jU.1 a.2.1 _ (L.wi c)
theorem jcd {d:DyD} (g:FV d) {b p:Int} (m:au d b) (n:My d p):decide (fZ (nth (yD d (wq d).length) b.toNat/2^p.toNat) 1=0)= !qN (wt d) (gL (U.bk d b)) p:=by
 unfold au at m;unfold My at n;have a:b.toNat<(wq d).length:=(by omega);have j:=fun q (c:q∈dR (wt d) (gL (nth (wq d) b.toNat)))=>Wv g.1 c
 have o:BT.qd (Rk (dR (wt d) (gL (nth (wq d) b.toNat)))):=(re j _ (jk _)).1;have i:U.bk d b=nth (wq d) b.toNat:=rfl;rw[Zx a,BT.bit_num o,i];have k:=WP j p.toNat;have f:=jcc g.1 (WQ g a) p.toNat;have ep:((p.toNat:Nat):Int)=p:=(by omega);rw[ep] at f;have l:BT.has (Rk (dR (wt d) (gL (nth (wq d) b.toNat)))) p.toNat=qN (wt d) (gL (nth (wq d) b.toNat)) p:=by
  rw[k];cases h:qN (wt d) (gL (nth (wq d) b.toNat)) p with
  |true=>exact za.2 ⟨p,f.2 ⟨by omega,h⟩,by simp⟩
  |false=>
   refine zi.2 fun q c e=> ?_
   have e:q.toNat=p.toNat:=ja e;have:=j q c;have e:q=p:=(by omega);rw[e] at c;rw[(f.1 c).2] at h;cases h
 rw[l];cases qN (wt d) (gL (nth (wq d) b.toNat)) p<;>rfl
theorem Ln {α:Type} [Inhabited α] {R:α->α->Prop} {l:List α}:(∀i,i<l.length->∀b∈l.take i,R b (nth l i))↔l.Pairwise R:=by
 rw[zI];refine⟨fun h i j hi a d=> ?_,fun h i hi b c=> ?_⟩;have:=h j a l[i] (zb.2 ⟨i,by omega,rfl⟩);rw[L.qI a] at this;exact this;obtain⟨k,hk,rfl⟩:=zb.1 c;rw[L.qI hi];exact h k i (by omega) hi (by omega)
theorem WR {α:Type} [Inhabited α] {R:α->α->Prop} {l:List α}:(∀i,i<l.length->∀b∈l.drop (i+1),R (nth l i) b)↔l.Pairwise R:=by
 rw[zI];refine⟨fun h i j hi d c=> ?_,fun h i hi b a=> ?_⟩;have:=h i hi l[j] (List.mem_drop_iff_getElem.2 ⟨j-(i+1),by omega,by congr 1;omega⟩);rw[L.qI hi] at this;exact this;obtain⟨k,hk,rfl⟩:=List.mem_drop_iff_getElem.1 a;rw[L.qI hi];exact h i (i+1+k) hi (by omega) (by omega)
theorem mW (d:DyD) (a b:Int):aq d a b=true↔(wJ (U.bk d a)<wJ (U.bk d b)\/(wJ (U.bk d a)=wJ (U.bk d b)/\a<b)):=decide_eq_true_iff
theorem mX (d:DyD) (a b:Int):aq d a b=false↔¬(wJ (U.bk d a)<wJ (U.bk d b)\/(wJ (U.bk d a)=wJ (U.bk d b)/\a<b)):=jH
theorem WS (d:DyD) (l:List Int):yg (aq d) l where
 irrefl x _:=(mX d x x).2 (by omega)
 trans x y z _ _ _ a b:=by
  have a:=(mW d x y).1 a;have b:=(mW d y z).1 b;exact(mW d x z).2 (by omega)
 total x y _ _ a b:=by
  have a:=(mX d x y).1 a;have b:=(mX d y x).1 b;omega
theorem DK {d:DyD} {a b:Int} (h:a≠b) (c:aq d b a=false):aq d a b=true:=by
 have c:=(mX d b a).1 c;exact(mW d a b).2 (by omega)
theorem S7 {d:DyD} {a b:Int} (c:aq d a b=true):aq d b a=false:=by
 have c:=(mW d a b).1 c;exact(mX d b a).2 (by omega)
theorem tq {d:DyD} {a b:Int} (h:aq d a b=true):(w9 d b a=decide (0<=bL d a b))/\(w9 d a b=decide (0<=bL d a b)):=by
 unfold w9;rw[je h,S7 h,jd (by simp)];exact⟨rfl,rfl⟩
theorem Zy {d:DyD} {a b:Int} (h:a≠b):w9 d a b=w9 d b a:=by
 cases c:aq d b a with
 |false=>have:=tq (DK h c);rw[this.1,this.2]
 |true=>have:=tq c;rw[this.1,this.2]
def TgR (d:DyD) (a b:Int):Prop:=a≠b->w9 d b a=true
theorem WT {d:DyD} {l:List Int} (f:l.Nodup):jaX d l=true↔l.Pairwise (TgR d):=by
 rw[<-Ln];unfold jaX;rw[jU];have e:∀i,i<l.length->∀b∈l.take i,b≠nth l i:=(Ln (R:=fun a b=>a≠b)).2 f;refine⟨fun h i hi b c _=> ?_,fun h i hi=>jU.2 fun b c=> ?_⟩;exact jU.1 (h i (jG.2 hi)) b c;exact h i (jG.1 hi) b c (e i (jG.1 hi) b c)
theorem TgR.symm {d:DyD} {a b:Int} (h:TgR d a b):TgR d b a:=fun e=>(Zy (Ne.symm e)).trans (h (Ne.symm e))
theorem WU {d:DyD} {l l':List Int} (h:l.Perm l'):I9 d l=I9 d l':=by
 unfold I9;exact List.Perm.foldl_eq' (h.map _) (fun x _ y _ z=>by omega) 0
theorem Iv (d:DyD) (p:Int) {l:List Int} (a:l.Nodup):gx d p l=true↔(∀b∈l,qN (wt d) (gL (U.bk d b)) p=true)/\l.Pairwise (TgR d)/\I9 d l<=jae d:=by
 unfold gx;rw[ji,ji,jU,WT a,decide_eq_true_iff]
theorem GV (d:DyD) (p:Int) {l l':List Int} (h:l.Perm l') (g:l.Nodup):gx d p l=gx d p l':=by
 have f:=h.nodup_iff.1 g;refine jZ.2 ?_;rw[Iv d p g,Iv d p f,WU h,h.pairwise_iff (fun h=>TgR.symm h)];exact⟨fun⟨a,c⟩=>⟨fun b e=>a b (h.mem_iff.2 e),c⟩,fun⟨a,c⟩=>⟨fun b e=>a b (h.mem_iff.1 e),c⟩⟩
theorem Zz (d:DyD) (may:List Int) (p:Int) (s:List Int):jcU d may p s=true↔(∀b∈s,decide (fZ (nth may b.toNat/2^p.toNat) 1=0)=false)/\s.Pairwise (fun a b=>0<=bL d a b)/\I9 d s<=jae d:=by
 rw[<-WR];unfold jcU;rw[ji,decide_eq_true_iff,jU,<-and_assoc];refine and_congr_left fun _=> ?_
 have e:∀i,Jb d may p s i=true↔decide (fZ (nth may (nth s i).toNat/2^p.toNat) 1=0)=false/\∀b∈s.drop (i+1),0<=bL d (nth s i) b:=by
  intro i;unfold Jb;rw[jN,jR,zi];refine and_congr_right fun _=>⟨fun h b c=> ?_,fun h b c=> ?_⟩
  have:=h b c;simp at this;omega;have:=h b c;simp;omega
 refine⟨fun h=>⟨fun b c=> ?_,fun i hi=>((e i).1 (h i (jG.2 hi))).2⟩,fun h i hi=>(e i).2 ⟨h.1 _ (L.wi (jG.1 hi)),h.2 i (jG.1 hi)⟩⟩;obtain⟨i,hi,rfl⟩:=L.mem_iff.1 c;exact((e i).1 (h i (jG.2 hi))).1
theorem jce {d:DyD} {may:List Int} {p:Int} {l:List Int} (m:l.Nodup) (j:∀b∈l,decide (fZ (nth may b.toNat/2^p.toNat) 1=0)= !qN (wt d) (gL (U.bk d b)) p):PO d may p l=gx d p l:=by
 have f:(wy d l).Perm l:=qo l;have c:(wy d l).Nodup:=f.nodup_iff.2 m;have k:(wy d l).Pairwise (fun a b=>aq d b a=false):=cw (WS d l);rw[<-GV d p f c];unfold PO;refine jZ.2 ?_;rw[Zz,Iv d p c];have i:=List.Pairwise.and k c;refine and_congr ⟨fun h b e=> ?_,fun h b e=> ?_⟩ (and_congr_left fun _=>⟨fun h=> ?_,fun h=> ?_⟩);have g:=h b e;rw[j b (f.mem_iff.1 e)] at g;simpa using g;rw[j b (f.mem_iff.1 e),h b e];rfl;refine(List.Pairwise.and i h).imp fun{a b} x _=> ?_
 rw[(tq (DK x.1.2 x.1.1)).1];exact jD x.2;refine(List.Pairwise.and i h).imp fun{a b} x=> ?_
 have:=x.2 x.1.2;rw[(tq (DK x.1.2 x.1.1)).1] at this;exact ja this
theorem mY (a b:ShD):vd a b=true↔(EG b<EG a\/(EG a=EG b/\gA b<gA a)):=decide_eq_true_iff
theorem tu (a b:ShD):vd a b=false↔¬(EG b<EG a\/(EG a=EG b/\gA b<gA a)):=jH
theorem dP (a:ShD):vd a a=false:=(tu a a).2 (by omega)
theorem GW {a b:ShD} (h:vd a b=true):vd b a=false:=by
 have h:=(mY a b).1 h;exact(tu b a).2 (by omega)
theorem DL {a b c:ShD} (d:vd a b=true) (e:vd b c=true):vd a c=true:=by
 have d:=(mY a b).1 d;have e:=(mY b c).1 e;exact(mY a c).2 (by omega)
theorem ZA (a b:ShD):wA a b<0↔vd b a=true:=by
 rw[mY];unfold wA;rw[qB,yk]
 split
 rename_i h;have c:¬EG a=EG b:=fun e=>h (bn.2 e)
 rw[Wc];omega;rename_i h;have d:EG a=EG b:=bn.1 (jO.1 h);rw[Wc];omega
theorem jcf {l:List ShD} (hi:∀a∈l,∀b∈l,gA a=gA b->a=b):yg jcT l where
 irrefl x _:=dP x
 trans x y z _ _ _ c d:=DL d c
 total x y hx hy c d:=by
  have c:=(tu y x).1 c;have d:=(tu x y).1 d;exact hi x hx y hy (by omega)
theorem WV {l:List ShD}:∀i,i<l.length->∃j,j<l.length/\nth l j=nth l i/\ng l j=true:=by
 intro i
 induction i using Nat.strongRecOn with
 |_ i d=>
  intro hi;cases h:ng l i with
  |true=>exact⟨i,hi,rfl,h⟩
  |false=>
   simp only[ng,ze] at h;obtain⟨x,c,e⟩:=za.1 h;obtain⟨k,hk,rfl⟩:=zb.1 c;have e:l[k]=nth l i:=ja e;obtain⟨j,b,a,e2⟩:=d k (by omega) (by omega);exact⟨j,b,by rw[a,L.qI (by omega)];exact e,e2⟩
theorem jcg {l:List ShD} {s:ShD} (h:s∈l) (c:0<=gA s) (d:gA s<=99):s∈wg l:=by
 obtain⟨i,hi,rfl⟩:=L.mem_iff.1 h;obtain⟨j,b,a,e2⟩:=WV i hi;unfold wg vS;refine List.mem_flatMap.2 ⟨(gA (nth l i)).toNat,jG.2 (by omega),?_⟩;unfold cS;refine j6.2 ⟨j,jX.2 ⟨jG.2 b,?_⟩,a⟩;show(decide (gA (nth l j)=(((gA (nth l i)).toNat:Nat):Int))&&ng l j)=true;rw[e2,a,Bool.and_true];exact jD (by omega)
theorem QT {l:List ShD} {n m:Nat} {s:ShD} (h:s∈cS l n m):gA s=(m:Int):=by
 unfold cS at h;obtain⟨i,hi,rfl⟩:=j6.1 h;have a:=(jX.1 hi).2;rw[ji] at a;exact ja a.1
theorem S8 (l:List ShD):(wg l).Nodup:=by
 unfold wg vS;refine List.pairwise_flatMap.2 ⟨fun m _=> ?_,?_⟩;unfold cS;refine ku.2 (List.Pairwise.imp_of_mem ?_ (List.Pairwise.filter _ List.pairwise_lt_range));intro i j hi c k e;have c:=jX.1 c;have d:=c.2;rw[ji] at d;have f:=d.2;have n:=jG.1 c.1;have o:((l.take j).any (fun x=>decide (x=nth l j)))=true:=
  za.2 ⟨nth l i,zb.2 ⟨i,by omega,(L.qI (by omega)).symm⟩,jD e⟩
 unfold ng at f;rw[o] at f;cases f;refine List.Pairwise.imp ?_ List.pairwise_lt_range;intro a b h x p y q e;have g:=QT p;have d:=QT q;rw[e] at g;omega
theorem QU (t s:ShD):fU t=fU s↔lV t=lV s/\ar t=ar s:=by
 unfold fU;refine⟨fun h=>⟨jE (·.1) h,jE (·.2.1) h⟩,fun h=>by rw[h.1,h.2]⟩
theorem OW (l:List ShD) (s:ShD):Bw l s=true↔X1 s=1/\∀t∈l,fU t=fU s->vd t s=false:=by
 unfold Bw;rw[ji,decide_eq_true_iff,jN,zi];refine and_congr_right fun _=>⟨fun h t a e=> ?_,fun h t a e=> ?_⟩
 have e:=(QU t s).1 e;have:=h t a;rw[e.1,e.2,jD rfl,jD rfl] at this;simpa using this;rw[ji,ji,decide_eq_true_iff,decide_eq_true_iff] at e;rw[h t a ((QU t s).2 e.1)] at e;exact absurd e.2 (by simp)
theorem WW (d:DyD):cW d=(wg (qc d)).filter (Bw (wg (qc d))):=by
 unfold cW;generalize wg (qc d)=l;unfold wx;have e:(fun i=>yl l i l.length)=(Bw l)∘(nth l):=by
  funext i;unfold yl;rw[zz];rfl
 rw[e];have:=List.filter_map (f:=nth l) (p:=Bw l) (l:=List.range l.length);rw[<-this,L.range_map_nth]
theorem Lo (l:List ShD):∀n,∀i,i<n->vd (nth l (wP l n)) (nth l i)=false
 |0,i,h=>absurd h (by omega)
 |n+1,i,h=>by
  have b:=Lo l n
  rw[uX]
  split
  rename_i a
  rcases Nat.lt_succ_iff_lt_or_eq.1 h with h|h
  cases c:vd (nth l n) (nth l i) with
  |false=>rfl
  |true=>have:=DL a c;rw[b i h] at this;cases this
  subst h;exact dP _
  rename_i a
  rcases Nat.lt_succ_iff_lt_or_eq.1 h with h|h
  exact b i h
  subst h;simpa using a
theorem WX (l:List ShD):∀n,n<=l.length->(wh l n).1.Pairwise (fun a b=>vd a b=false)/\∀a∈(wh l n).1,∀b∈(wh l n).2,vd a b=false
 |0,_=>⟨List.Pairwise.nil,fun a d=>by cases d⟩
 |n+1,m=>by
  obtain⟨j,g⟩:=WX l n (by omega)
  have k:=nP l n (by omega)
  have h:=nO (wh l n).2 _ (jk _) (by omega)
  have e:=Lo (wh l n).2 (wh l n).2.length
  have f:∀b∈(wh l n).2.take (wP (wh l n).2 (wh l n).2.length)++(wh l n).2.drop (wP (wh l n).2 (wh l n).2.length+1),b∈(wh l n).2:=by
   intro b c;rcases jr.1 c with c|c;exact kc c;exact z8 c
  refine⟨List.pairwise_append.2 ⟨j,List.pairwise_singleton _ _,fun a d b c=> ?_⟩,fun a d b c=> ?_⟩;simp at c;subst c;exact g a d _ (L.wi h);have c:=f b c;have d:a∈(wh l n).1++[nth (wh l n).2 (wP (wh l n).2 (wh l n).2.length)]:=d;rcases jr.1 d with d|d;exact g a d b c;simp at d;subst d;obtain⟨i,hi,rfl⟩:=L.mem_iff.1 c;exact e i hi
theorem jch (d:DyD):R5 jcT (vf d):=(WX (cW d) _ (jk _)).1
theorem QV (d:DyD):(vf d).Perm (cW d):=by
 have a:=DJ (cW d) (cW d).length (jk _);have b:=(nP (cW d) (cW d).length (jk _)).2;have:(wh (cW d) (cW d).length).2=[]:=List.length_eq_zero_iff.1 (by omega);rw[this,j7] at a;exact a
theorem QW {l:List ShD} (i:l.Pairwise (fun a b=>vd b a=true)):∀n,n<=l.length->∀s∈l.take n,(wQ (Ty.dflt tSh) (wB tSt (fU s) (vk l n))=s↔∀t∈l.take n,fU t=fU s->vd t s=false)
 |0,_,s,c=>by simp at c
 |n+1,k,s,c=>by
  have j:=QW i n (by omega)
  have g:(l.take (n+1)).Pairwise (fun a b=>vd b a=true):=i.sublist (List.take_sublist _ _)
  rw[L.wO (by omega)] at g c
  have f:∀t∈l.take n,vd (nth l n) t=true:=fun t d=>(List.pairwise_append.1 g).2.2 t d _ (by simp)
  rw[DB (by omega),L.wO (by omega)]
  by_cases hk:fU s=fU (nth l n)
  rw[hk,M.rE]
  show nth l n=s↔_
  rcases jr.1 c with c|c
  refine⟨fun e=> ?_,fun h=> ?_⟩
  have:=f s c
  rw[e,dP] at this;cases this
  have:=h (nth l n) (by simp) rfl
  rw[f s c] at this;cases this
  simp at c;subst c
  refine⟨fun _ t d _=> ?_,fun _=>rfl⟩
  rcases jr.1 d with d|d
  exact GW (f t d)
  simp at d;subst d;exact dP _
  rw[M.eD hk]
  have c:s∈l.take n:=by
   rcases jr.1 c with c|c;exact c;simp at c;subst c;exact absurd rfl hk
  rw[j s c];refine⟨fun h t d e=> ?_,fun h t d=>h t (jh _ d)⟩;rcases jr.1 d with d|d;exact h t d e;simp at d;subst d;exact absurd e.symm hk
theorem WY {d:DyD} (h:qg d=0):(vz d).Pairwise (fun a b=>vd b a=true):=by
 have f:=jfe h;have g:R5 (we tSh fun x=>(wA x.1 x.2.1,())) (vz d):=cw f;have e:∀s∈vz d,s∈qq (qc d):=fun s i=>(qo _).mem_iff.1 i
 refine List.Pairwise.imp_of_mem ?_ (List.Pairwise.and g (fM d));intro a b j k ⟨h1,h2⟩;cases c:we tSh (fun x=>(wA x.1 x.2.1,())) a b with
 |false=>exact absurd (f.total a b (e a j) (e b k) c h1) h2
 |true=>
  have c:wA a b<0:=ja c;exact(ZA a b).1 c
theorem Lp {d:DyD} (h:qg d=0) {s:ShD} (a:s∈vz d):yC (vk (vz d) (vz d).length) s=true↔X1 s=1/\∀t∈vz d,fU t=fU s->vd t s=false:=by
 have:=QW (WY h) (vz d).length (jk _) s (by rw[zz];exact a);rw[zz] at this;rw[<-this];unfold yC;rw[jN,jR,ze,ze,decide_eq_true_iff,decide_eq_true_iff];exact and_comm
theorem WZ {d:DyD} (h:qD d=true) {s:ShD} (a:s∈qc d):0<=gA s/\gA s<=99:=by
 have:=(yh h).2.2.2.2.2.2.2 _ a;unfold nf at this;have:=ja this;omega
def Yf (d:DyD):ShD->Bool:=yC (vk (vz d) (vz d).length)
theorem jdQ {d:DyD} (h:qg d=0):(vz d).filter (Yf d)=vf d:=by
 have j:=gK h;have f:∀s,s∈wg (qc d)↔s∈vz d:=fun s=>⟨fun c=>iW.2 (Iu c),fun c=>by
  have c:=iW.1 c;have:=WZ j.1.2.2 c;exact jcg c this.1 this.2⟩
 have g:∀s,s∈(vz d).filter (Yf d)↔s∈vf d:=by
  intro s;rw[(QV d).mem_iff,WW,jX,jX,f s];refine and_congr_right fun c=> ?_
  rw[OW];have:=Lp h c;refine this.trans (and_congr_right fun _=>⟨fun h t i=>h t ((f t).1 i),fun h t i=>h t ((f t).2 i)⟩)
 have n:((vz d).filter (Yf d)).Nodup:=List.Pairwise.filter _ (fM d);have o:(vf d).Nodup:=(QV d).nodup_iff.2 (by rw[WW];exact List.Pairwise.filter _ (S8 _));have m:=L.F3 n o g;refine pB (jcf ?_) m ?_ (jch d);intro a k b l e;exact j.2 a (iW.1 (jX.1 k).1) b (iW.1 (jX.1 l).1) e;exact(List.Pairwise.filter _ (WY h)).imp fun x=>GW x
structure Fq (d:DyD) (x:List (List Int)×List Int) (y:List Int×List Int):Prop where
 ref:x.2=y.2
 len:y.1.length=(wq d).length
 set:∀b,b<(wq d).length->BT.qd (nth y.1 b)
 bit:∀b,b<(wq d).length->∀p,BT.has (nth y.1 b) p=true↔p<(wj (wt d)).length/\(b:Int)∈nth x.1 p
theorem Bs {t:Int} (h:BT.qd t) (p:Int):qf t p=BT.has t p.toNat:=BT.has_shr h p.toNat
theorem jdR {d:DyD} {x:List (List Int)×List Int} {y:List Int×List Int} (h:Fq d x y) {p:Int} (j:My d p) (g:∀b∈nth x.1 p.toNat,au d b) (n:Int):n∈U.on y.1 p↔n∈nth x.1 p.toNat:=by
 unfold My at j;unfold U.on oC;rw[j6];refine⟨fun⟨i,hi,e⟩=> ?_,fun f=> ?_⟩;subst e;have hi:=jX.1 hi;have a:=jG.1 hi.1;rw[h.len] at a;have c:qf (nth y.1 i) p=true:=hi.2;rw[Bs (h.set i a)] at c;exact((h.bit i a p.toNat).1 c).2;have hk:=g n f;unfold au at hk;have en:((n.toNat:Nat):Int)=n:=(by omega);refine⟨n.toNat,jX.2 ⟨jG.2 (by rw[h.len];omega),?_⟩,en⟩;show qf (nth y.1 n.toNat) p=true;rw[Bs (h.set _ (by omega))];exact(h.bit _ (by omega) _).2 ⟨by omega,by rw[en];exact f⟩
theorem ZB (t:List Int) (p:Int):(U.on t p).Nodup:=by
 unfold U.on oC;refine ku.2 ((List.Pairwise.filter _ List.pairwise_lt_range).imp ?_);intro a b c e;omega
theorem jci {d:DyD} {x:List (List Int)×List Int} {y:List Int×List Int} (h:Fq d x y) {p:Int} (e:My d p) (c:(nth x.1 p.toNat).Nodup) (a:∀b∈nth x.1 p.toNat,au d b):(nth x.1 p.toNat).Perm (U.on y.1 p):=
 L.F3 c (ZB _ _) (fun n=>(jdR h e a n).symm)
theorem jdS {d:DyD} (i:FV d) {x:List (List Int)×List Int} {y:List Int×List Int} (h:Fq d x y) {p b:Int} (g:My d p) (e:(nth x.1 p.toNat++[b]).Nodup) (f:∀c∈nth x.1 p.toNat++[b],au d c):
 PO d (yD d (wq d).length) p (nth x.1 p.toNat++[b])=gx d p (U.on y.1 p++[b]):=by
 rw[jce e (fun c a=>jcd i (f c a) g)];exact GV d p ((jci h g (zG.1 e).1 (fun c a=>f c (jh _ a))).append_right [b]) e
theorem jdT {d:DyD} {x:List (List Int)×List Int} {y:List Int×List Int} (h:Fq d x y) (v:x.1.length=(wj (wt d)).length) (u:(wj (wt d)).length<=8) {p b:Int} (t:My d p) (s:au d b) (i:b∉nth x.1 p.toNat):
 Fq d (x.1.set p.toNat (nth x.1 p.toNat++[b]),x.2) (y.1.set b.toNat (nth y.1 b.toNat+2^p.toNat),y.2):=by
 unfold My at t;unfold au at s;have r:((b.toNat:Nat):Int)=b:=(by omega);have g:b.toNat<y.1.length:=(by rw[h.len];omega);have n:p.toNat<x.1.length:=(by omega);have o:=h.set b.toNat (by omega);have m:BT.has (nth y.1 b.toNat) p.toNat=false:=by
  cases j:BT.has (nth y.1 b.toNat) p.toNat with
  |false=>rfl
  |true=>exact absurd (by have:=((h.bit _ (by omega) _).1 j).2;rw[r] at this;exact this) i
 have a:=BT.add_two o (p:=p.toNat) (by omega) m;have j:=BT.ld (k:=p.toNat) (by omega);refine⟨h.ref,by show(y.1.set _ _).length=_;rw[kg];exact h.len,fun c l=> ?_,fun c l q=> ?_⟩;show BT.qd (nth (y.1.set b.toNat (nth y.1 b.toNat+2^p.toNat)) c);rw[L.br g]
 split
 rw[a];exact BT.bor_set o j;exact h.set c l;show BT.has (nth (y.1.set b.toNat (nth y.1 b.toNat+2^p.toNat)) c) q=true↔_/\(c:Int)∈nth (x.1.set p.toNat (nth x.1 p.toNat++[b])) q;rw[L.br g,L.br n];by_cases f:b.toNat=c;rw[je f,a,BT.has_bor o j,BT.BA,zo,decide_eq_true_iff,h.bit _ (by omega),<-f,r];by_cases e:p.toNat=q;rw[je e];refine⟨fun _=>⟨by omega,by simp⟩,fun _=> .inr e⟩;rw[jd e];exact⟨fun h=>h.elim id (fun h=>absurd h e),.inl⟩;rw[jd f,h.bit c l];by_cases e:p.toNat=q;rw[je e,jr,<-e];refine and_congr_right fun _=>⟨.inl,fun h=>h.elim id (fun h=> ?_)⟩
 simp at h;omega;rw[jd e]
theorem ZC (d:DyD):Fq d (yG (Mz d) (vz d) 0) (List.replicate (wq d).length 0,[]):=by
 have c:∀b,b<(wq d).length->nth (List.replicate (wq d).length (0:Int)) b=0:=fun b a=>L.BC a
 refine⟨rfl,zu,fun b a=> ?_,fun b a p=> ?_⟩;show BT.qd (nth (List.replicate (wq d).length (0:Int)) b);rw[c b a];exact BT.ED;show BT.has (nth (List.replicate (wq d).length (0:Int)) b) p=true↔_/\(b:Int)∈nth (jde d) p;rw[c b a,BT.tY];have f:jcV (jde d):=fun x g=>(List.mem_replicate.1 g).2
 have e:nth (jde d) p=[]:=QM f p;rw[e];simp
def W0 (d:DyD) (i:Nat):List Int×List Int:=(((vz d).take i).filter (Yf d)).foldl (cy d) (List.replicate (wq d).length 0,[])
attribute [local irreducible] yG gx PO U.on W0 vz Yf Mz yD in
theorem ZD {d:DyD} (h:qg d=0) {i:Nat} (hi:i<(vz d).length) (ih:Fq d (yG (Mz d) (vz d) i) (W0 d i)) (_:dT (Mz d) (vz d) i (yG (Mz d) (vz d) i)) (hrd:U.rd (Mz d)=d) (hml:nq (Mz d)=yD d (wq d).length)
 (hx:(yG (Mz d) (vz d) i).1.length=(wj (wt d)).length) (hdec:Yf d=yC (vk (vz d) (vz d).length)) (hft:W0 d (i+1)=if Yf d (nth (vz d) i)=true then cy d (W0 d i) (nth (vz d) i) else W0 d i)
 (hnew:Yf d (nth (vz d) i)=true->(nth (yG (Mz d) (vz d) i).1 (ar (nth (vz d) i)).toNat++[lV (nth (vz d) i)]).Nodup/\∀b∈nth (yG (Mz d) (vz d) i).1 (ar (nth (vz d) i)).toNat++[lV (nth (vz d) i)],au d b):
 Fq d (yG (Mz d) (vz d) (i+1)) (W0 d (i+1)):=by
 have hD:=(gK h).1
 have h8:(wj (wt d)).length<=8:=(w8 hD.1).2.2.1
 have hsf:=nM hD.2.2 (iW.1 (L.wi (l:=vz d) (i:=i) hi))
 rw[hft]
 cases hc:Yf d (nth (vz d) i) with
 |false=>
  rw[hdec] at hc
  rw[QN hi hc,jd (by simp)]
  exact ih
 |true=>
  have hn:=hnew hc
  have hcan:=jdS hD ih (p:=ar (nth (vz d) i)) (b:=lV (nth (vz d) i)) hsf.1 hn.1 hn.2
  rw[hdec] at hc
  rw[je rfl]
  unfold cy
  cases hk:gx d (ar (nth (vz d) i)) (U.on (W0 d i).1 (ar (nth (vz d) i))++[lV (nth (vz d) i)]) with
  |true=>
   rw[hk] at hcan
   rw[Ws hi hc (by rw[hrd,hml];exact hcan),je rfl]
   refine jdT ih hx h8 hsf.1 hsf.2 (fun hin=> ?_)
   exact(zG.1 hn.1).2.2 _ hin _ (by simp) rfl
  |false=>
   rw[hk] at hcan
   rw[jaG hi hc (by rw[hrd,hml];exact hcan),jd (by simp)]
   exact⟨jE (·++[gA (nth (vz d) i)]) ih.ref,ih.len,ih.set,ih.bit⟩
theorem W2 {d:DyD} (h:qg d=0):∀i,i<=(vz d).length->Fq d (yG (Mz d) (vz d) i) (W0 d i)
 |0,_=>ZC d
 |i+1,hi=>by
  have k:=W2 h i (by omega)
  obtain⟨⟨_,m⟩,⟨j,b⟩,c⟩:=Ww h
  have f:=(gK h).1
  have a:=Oc (r:=Mz d) (l:=vz d) f.2.2 (fun s e=>iW.1 e) (fM d) j b c i (by omega)
  refine ZD h hi k a rfl rfl a.1 rfl ?_ fun g=> ?_
  unfold W0
  rw[L.filter_take (p:=Yf d) (l:=vz d) (i:=i) hi,jS]
  split<;>rfl
  have:=Wp (r:=Mz d) (l:=vz d) f.2.2 (fun s e=>iW.1 e) (fM d) hi a g
  exact⟨this.1,this.2.1⟩
theorem ZE {d:DyD} (h:qg d=0):W0 d (vz d).length=Ji d:=by
 unfold W0 Ji wR;rw[zz,zz,jdQ h]
theorem DM {d:DyD} (h:qg d=0):Fq d (bO (Uw d),(yG (Mz d) (vz d) (vz d).length).2) (Ji d):=by
 have:=W2 h _ (jk _);rw[ZE h] at this;exact⟨this.ref,this.len,this.set,this.bit⟩
theorem QX (on:List (List Int)) (b:Int):∀n,n<=60->BT.qd (bi on b n)/\∀q,BT.has (bi on b n) q=true↔q<n/\b∈nth on q
 |0,_=>⟨BT.ED,fun q=>by
  have:bi on b 0=0:=rfl
  rw[this,BT.tY];simp⟩
 |n+1,m=>by
  obtain⟨f,i⟩:=QX on b n (by omega)
  have g:=BT.ld (k:=n) (by omega)
  have a:(nth on n).any (fun x=>decide (x=b))=true↔b∈nth on n:=by
   rw[za];exact⟨fun⟨x,l,e⟩=>(ja e)▸l,fun j=>⟨b,j,jD rfl⟩⟩
  rw[Dy]
  split
  rename_i c;have c:=a.1 c;rw[mT];refine⟨BT.bor_set f g,fun q=> ?_⟩;rw[BT.has_bor f g,BT.BA,zo,decide_eq_true_iff,i];refine⟨fun h=>h.elim (fun h=>⟨by omega,h.2⟩) (fun h=>by subst h;exact⟨by omega,c⟩),fun h=> ?_⟩;by_cases d:q=n;exact .inr d.symm;exact .inl ⟨by omega,h.2⟩;rename_i c;refine⟨f,fun q=> ?_⟩;rw[i];refine⟨fun h=>⟨by omega,h.2⟩,fun h=>⟨?_,h.2⟩⟩;by_cases d:q=n;subst d;exact absurd (a.2 h.2) c;omega
theorem W3 {d:DyD} (h:qg d=0) {b:Nat} (a:b<(wq d).length):eB (bO (Uw d)) (b:Int)=nth (Ji d).1 b:=by
 have f:=DM h;have c:=Wx h;have g:=QX (bO (Uw d)) (b:Int) (bO (Uw d)).length c.len60;refine BT.ext g.1 (f.set b a) fun p=>jZ.2 ?_
 have e:=(g.2 p).trans (f.bit b a p|>.trans (by rw[<-c.len])).symm;exact e
theorem jdU {d:DyD} (h:qg d=0):aG d (wq d).length=(Ji d).1:=by
 have b:=DM h;have a:(aG d (wq d).length).length=(wq d).length:=(by unfold aG;simp);refine L.ext_nth (by rw[a];exact b.len.symm) fun i hi=> ?_
 rw[a] at hi;unfold aG;rw[L.nth_map (by simpa using hi)];have:nth (List.range (wq d).length) i=i:=(by rw[L.qI (by simpa using hi)];simp);rw[this];exact W3 h hi
theorem jcj (d:DyD):fV d=if gN d=0 then(Ji d).1 else[]:=by
 unfold fV;rw[fL]
 split
 rename_i h;exact jdU ((fL d).trans h);rfl
end Go.X
namespace Go.X
open U
open Go.Proofs
theorem S9 (l:List ShD) (n:Nat):wx l (n+1)=wx l n++(if yl l n l.length=true then[nth l n] else[]):=by
 unfold wx;rw[L.yj,zw];by_cases h:yl l n l.length=true;rw[je h,je h];rfl;rw[jd h,jd h];rfl
theorem Lq (l:List ShD) (n:Nat):(wx l n).length<=n:=by
 unfold wx;rw[zj];exact jF (zF _ _) (by simp)
theorem OX {l:List ShD} {i k:Nat} (h:k<l.length):yl l i (k+1)=(yl l i k&& !(decide (lV (nth l k)=lV (nth l i))&&decide (ar (nth l k)=ar (nth l i))&&vd (nth l k) (nth l i))):=by
 unfold yl;rw[L.wO h,kV];generalize (l.take k).any _=a;generalize decide (X1 (nth l i)=1)=b;simp only[List.any_cons,List.any_nil,kQ];generalize (decide (lV (nth l k)=lV (nth l i))&&decide (ar (nth l k)=ar (nth l i))&&vd (nth l k) (nth l i))=c;cases a<;>cases b<;>cases c<;>rfl
theorem Ta (l:List ShD):wx l 0=[]:=rfl
theorem Lr (l:List ShD):wh l 0=([],l):=rfl
theorem Tb (l:List ShD):wP l 0=0:=rfl
theorem Tc (l:List ShD) (n:Nat):(wh l (n+1)).1=(wh l n).1++[nth (wh l n).2 (wP (wh l n).2 (wh l n).2.length)]:=rfl
theorem Td (l:List ShD) (n:Nat):(wh l (n+1)).2=(wh l n).2.take (wP (wh l n).2 (wh l n).2.length)++(wh l n).2.drop (wP (wh l n).2 (wh l n).2.length+1):=rfl
theorem ZF {α:Type} (l:List α) (m:Nat):[]++List.take (((m:Int)).toNat-Int.toNat 0) (List.drop (Int.toNat 0) l)++List.take (((l.length:Int)).toNat-((m:Int)+1).toNat) (List.drop ((m:Int)+1).toNat l)=l.take m++l.drop (m+1):=by
 have a:((m:Int)+1).toNat=m+1:=(by omega);have e2:Int.toNat 0=0:=rfl;rw[a,e2,jw,jw,List.drop_zero,ky,jV,zv (l:=List.drop (m+1) l) (by rw[zD];omega)]
theorem jck (d:DyD):wx (wg (qc d)) (wg (qc d)).length=cW d:=rfl
theorem jcm (d:DyD):(wh (cW d) (cW d).length).1=vf d:=rfl
attribute [local irreducible] wh wP wx wg cW vf yl
theorem OY (d:DyD) (W:List ShD) (r:W.length<=100000) (l:(wh W W.length).1=vf d):
 (∃x:Nat,((True/\True/\True)/\W=(wh W x).2/\(wh W x).1=[]/\True)/\x<=W.length)/\∀n:Nat,n<=W.length->(wh W n).2.length<4611686018427387904->
  (decide ((0:Int)<(wh W n).2.length)=true->(∃x:Nat,(((0:Int)=(x:Int)/\(0:Int)=(wP (wh W n).2 x:Int)/\True)/\True)/\x<=(wh W n).2.length)/\∀i:Nat,i<=(wh W n).2.length->(wh W n).2.length<4611686018427387904->
   (decide ((i:Int)<(wh W n).2.length)=true->(0:Int)<=(wP (wh W n).2 i:Int)/\(wP (wh W n).2 i:Int)<(wh W n).2.length/\(0:Int)<=(i:Int)/\(i:Int)<(wh W n).2.length/\
    (vd (nth (wh W n).2 ((wP (wh W n).2 i:Int)).toNat) (nth (wh W n).2 ((i:Int)).toNat)=true->wn ((i:Int)+1)/\∃a:Nat,(((i:Int)+1=(a:Int)/\(i:Int)=(wP (wh W n).2 a:Int)/\True)/\True)/\a<=(wh W n).2.length/\(wh W n).2.length-a<(wh W n).2.length-i)/\
    (vd (nth (wh W n).2 ((wP (wh W n).2 i:Int)).toNat) (nth (wh W n).2 ((i:Int)).toNat)=false->wn ((i:Int)+1)/\∃a:Nat,(((wP (wh W n).2 i:Int)=(wP (wh W n).2 a:Int)/\(i:Int)+1=(a:Int)/\True)/\True)/\a<=(wh W n).2.length/\(wh W n).2.length-a<(wh W n).2.length-i))/\
   (decide ((i:Int)<(wh W n).2.length)=false->(0:Int)<=(wP (wh W n).2 i:Int)/\(wP (wh W n).2 i:Int)<(wh W n).2.length/\
    ((wh W n).1.length+[nth (wh W n).2 ((wP (wh W n).2 i:Int)).toNat].length)*40<=140737488355328/\(0:Int)<=0/\(0:Int)<=(wP (wh W n).2 i:Int)/\(wP (wh W n).2 i:Int)<=(wh W n).2.length/\
    (0+(List.take (((wP (wh W n).2 i:Int)).toNat-Int.toNat 0) (List.drop (Int.toNat 0) (wh W n).2)).length)*40<=140737488355328/\wn ((wP (wh W n).2 i:Int)+1)/\(0:Int)<=(wP (wh W n).2 i:Int)+1/\
    (wP (wh W n).2 i:Int)+1<=((wh W n).2.length:Int)/\((wh W n).2.length:Int)<=(wh W n).2.length/\
    (([]++List.take (((wP (wh W n).2 i:Int)).toNat-Int.toNat 0) (List.drop (Int.toNat 0) (wh W n).2)).length+(List.take ((((wh W n).2.length:Int)).toNat-((wP (wh W n).2 i:Int)+1).toNat) (List.drop ((wP (wh W n).2 i:Int)+1).toNat (wh W n).2)).length)*40<=140737488355328/\
    ∃a:Nat,((True/\True/\True)/\[]++List.take (((wP (wh W n).2 i:Int)).toNat-Int.toNat 0) (List.drop (Int.toNat 0) (wh W n).2)++List.take ((((wh W n).2.length:Int)).toNat-((wP (wh W n).2 i:Int)+1).toNat) (List.drop ((wP (wh W n).2 i:Int)+1).toNat (wh W n).2)=(wh W a).2/\
     (wh W n).1++[nth (wh W n).2 ((wP (wh W n).2 i:Int)).toNat]=(wh W a).1/\True)/\a<=W.length/\W.length-a<W.length-n))/\
  (decide ((0:Int)<(wh W n).2.length)=false->((wh W n).1,())=(vf d,())):=by
 refine⟨⟨0,⟨⟨tZ,tZ,tZ⟩,by rw[Lr],by rw[Lr],tZ⟩,jm _⟩,fun n o _=> ?_⟩;obtain⟨t,u⟩:=nP W n o;have s:∀i,wP (wh W n).2 i+0=wP (wh W n).2 i:=fun _=>rfl
 refine⟨fun b=>⟨⟨0,⟨⟨rfl,by rw[Tb];rfl,tZ⟩,tZ⟩,jm _⟩,fun i hi _=>⟨fun e=> ?_,fun e=> ?_⟩⟩,fun b=> ?_⟩;have b:(0:Int)<(wh W n).2.length:=ja b;have e:(i:Int)<(wh W n).2.length:=ja e;have m:=nO (wh W n).2 i hi (by omega);have j:=uX (wh W n).2 i;have up:i+1<=(wh W n).2.length:=(by omega);have h:(wh W n).2.length-(i+1)<(wh W n).2.length-i:=(by omega);refine⟨j8 _,by omega,j8 _,e,fun c=>⟨iZ6,i+1,⟨⟨by simp,?_,tZ⟩,tZ⟩,up,h⟩,fun c=>⟨iZ6,i+1,⟨⟨?_,by simp,tZ⟩,tZ⟩,up,h⟩⟩;have c:vd (nth (wh W n).2 (wP (wh W n).2 i)) (nth (wh W n).2 i)=true:=c;rw[j,je c];have c:vd (nth (wh W n).2 (wP (wh W n).2 i)) (nth (wh W n).2 i)=false:=c;rw[j,jd (by rw[c];simp)];have b:(0:Int)<(wh W n).2.length:=ja b;have e:¬(i:Int)<(wh W n).2.length:=jc e;have f:i=(wh W n).2.length:=(by omega);subst f;have m:=nO (wh W n).2 _ (jk _) (by omega);have k:=ZF (wh W n).2 (wP (wh W n).2 (wh W n).2.length);have p:=Tc W n;have q:=Td W n;refine⟨j8 _,by omega,by show((wh W n).1.length+1)*40<=140737488355328;omega,zH 0,j8 _,by omega,?_,iZ6,by omega,by omega,zH _,?_,n+1,⟨⟨tZ,tZ,tZ⟩,?_,?_,tZ⟩,by omega,by omega⟩;rw[jT,zD];omega;rw[jV,jT,jT,zD,zD];omega;rw[q];exact k;rw[p];rfl;have b:¬(0:Int)<(wh W n).2.length:=jc b;have g:n=W.length:=(by omega);subst g;rw[l]
theorem OZ:Lm:=by
 unfold Lm jf5 jfO jfG jgE jiH jkc jf9 jkb jhB jfB Prod.q4;rintro⟨d,⟨⟩⟩ j;have j:(qc d).length<=1000:=j;have f:(wg (qc d)).length<=100000:=jF (by unfold wg;exact nN _ 100) (by omega);refine⟨j,⟨0,⟨⟨rfl,tZ,tZ⟩,Ta _,tZ⟩,jm _⟩,fun x o _=>⟨fun h=> ?_,fun h=> ?_⟩⟩;have h:(x:Int)<(wg (qc d)).length:=ja h;have x0:(0:Int)<=(x:Int):=j8 x;refine⟨x0,h,⟨0,⟨⟨rfl,?_,tZ⟩,tZ⟩,jm _⟩,fun k hk _=>⟨fun b=> ?_,fun b=> ?_⟩⟩;show decide (X1 (nth (wg (qc d)) x)=1)=yl (wg (qc d)) x 0;unfold yl;simp;have b:(k:Int)<(wg (qc d)).length:=ja b;have n:(0:Int)<=(k:Int):=j8 k;have e:=OX (l:=wg (qc d)) (i:=x) (k:=k) (by omega);have up:k+1<=(wg (qc d)).length:=(by omega);have c:(wg (qc d)).length-(k+1)<(wg (qc d)).length-k:=(by omega);have i64:wn ((k:Int)+1):=iZ6;refine⟨n,b,x0,h,fun _=>n,fun _=>b,fun _=>x0,fun _=>h,fun _=>n,fun _=>b,fun _=>x0,fun _=>h,fun a=>⟨i64,k+1,⟨⟨by simp,?_,tZ⟩,tZ⟩,up,c⟩,fun a=>⟨i64,k+1,⟨⟨?_,by simp,tZ⟩,tZ⟩,up,c⟩⟩;have a:(decide (lV (nth (wg (qc d)) k)=lV (nth (wg (qc d)) x))&&decide (ar (nth (wg (qc d)) k)=ar (nth (wg (qc d)) x))&&vd (nth (wg (qc d)) k) (nth (wg (qc d)) x))=true:=a;show false=yl (wg (qc d)) x (k+1);rw[e,a];simp;have a:(decide (lV (nth (wg (qc d)) k)=lV (nth (wg (qc d)) x))&&decide (ar (nth (wg (qc d)) k)=ar (nth (wg (qc d)) x))&&vd (nth (wg (qc d)) k) (nth (wg (qc d)) x))=false:=a;show yl (wg (qc d)) x k=yl (wg (qc d)) x (k+1);rw[e,a];simp;have b:¬(k:Int)<(wg (qc d)).length:=jc b;have hk:k<=(wg (qc d)).length:=hk;have g:k=(wg (qc d)).length:=(by omega);subst g;have e:=S9 (wg (qc d)) x;have p:=Lq (wg (qc d)) x;have up:x+1<=(wg (qc d)).length:=(by omega);have c:(wg (qc d)).length-(x+1)<(wg (qc d)).length-x:=(by omega);have i64:wn ((x:Int)+1):=iZ6;refine⟨fun a=>⟨x0,h,by show((wx (wg (qc d)) x).length+1)*40<=140737488355328;omega,i64,x+1,⟨⟨by simp,tZ,tZ⟩,?_,tZ⟩,up,c⟩,fun a=>⟨i64,x+1,⟨⟨tZ,by simp,tZ⟩,?_,tZ⟩,up,c⟩⟩;have a:yl (wg (qc d)) x (wg (qc d)).length=true:=a;show wx (wg (qc d)) x++[nth (wg (qc d)) x]=wx (wg (qc d)) (x+1);rw[e,je a];have a:yl (wg (qc d)) x (wg (qc d)).length=false:=a;show wx (wg (qc d)) x=wx (wg (qc d)) (x+1);rw[e,jd (by rw[a];simp),j7];have h:¬(x:Int)<(wg (qc d)).length:=jc h;have o:x<=(wg (qc d)).length:=o;have m:x=(wg (qc d)).length:=(by omega);subst m;refine OY d (wx (wg (qc d)) (wg (qc d)).length) (jF (Lq _ _) f) ?_;rw[jck];exact jcm d
theorem Ls:wZ PR 109 Lk:=vl Ll OZ Tryz.func109 (kcC Fo (kcC OJ kcN)) koN
theorem O0:wZ PR 78 OQ:=vl OR S6 Tryz.func78 (kcC Ls (kcC OL kcN)) (koC OV koN)
theorem O1:wZ PR 48 OT:=wL S5 Tryz.func48 (kcC rg (kcC O0 kcN)) koN
end Go.X
namespace Go.X
open U
open Go.Proofs
namespace U
def jfj (d:DyD) (t:List Int) (b:Nat):Bool:=Ev (wt d) (gL (nth (wq d) b)) (nth t b)
def jaY (d:DyD) (t:List Int) (n:Nat):List Int:=((List.range n).filter (jfj d t)).map (fun(b:Nat)=>(b:Int))
def jfk (d:DyD):List Int:=if gN d=0 then jaY d (tT d) (tT d).length else[]
end U
theorem jcn {d:DyD} (h:gN d=0):(Ji d).1.length=(wq d).length:=(DM ((fL d).trans h)).len
theorem W4 {d:DyD} (h:gN d=0) {b:Nat} (a:b<(wq d).length):X5 (nth (Ji d).1 b):=by
 have c:=DM ((fL d).trans h);have i:(wj (wt d)).length<=8:=(w8 (GU h).1).2.2.1;have e:=c.set b a;have f:=BT.lt_of_has (k:=8) e (fun p g=>by have:=((c.bit b a p).1 g).1;omega);exact⟨e.1,f⟩
theorem QY {d:DyD} (h:gN d=0):tT d=(Ji d).1:=je h
theorem Iw {d:DyD} (h:gN d=0):(tT d).length=(wq d).length:=by rw[QY h];exact jcn h
section
attribute [local irreducible] Ji gN
end
section
attribute [local irreducible] jaY tT gN Ev
end
section
attribute [local irreducible] gx U.on qf FV
end
section
attribute [local irreducible] tT gN qf
end
end Go.X
namespace Go.X
open U
open Go.Proofs
section
attribute [local irreducible] tT gN Ev X5
end
end Go.X
namespace Go.X
open U
open Go.Proofs
theorem DN (n m:Nat):n|||m=0↔n=0/\m=0:=by
 constructor;intro h;constructor;refine kf fun i=> ?_
 have:=jE (fun z=>Nat.testBit z i) h;simp only[k8,Nat.zero_testBit,jR] at this;rw[this.1,Nat.zero_testBit];refine kf fun i=> ?_
 have:=jE (fun z=>Nat.testBit z i) h;simp only[k8,Nat.zero_testBit,jR] at this;rw[this.2,Nat.zero_testBit];rintro⟨rfl,rfl⟩;rfl
theorem QZ {a b:Int} (c:0<=a/\a<64) (d:0<=b/\b<64):uor a b=0↔a=0/\b=0:=by
 obtain⟨n,rfl⟩:∃n:Nat,a=(n:Int):=⟨a.toNat,by omega⟩;obtain⟨m,rfl⟩:∃m:Nat,b=(m:Int):=⟨b.toNat,by omega⟩;rw[BT.uor_nat (by omega) (by omega)];have:=DN n m;omega
theorem ZG {a b:Int} (c:0<=a/\a<64) (d:0<=b/\b<64):bor a b=0↔a=0/\b=0:=by
 obtain⟨n,rfl⟩:∃n:Nat,a=(n:Int):=⟨a.toNat,by omega⟩;obtain⟨m,rfl⟩:∃m:Nat,b=(m:Int):=⟨b.toNat,by omega⟩;rw[BT.bor_nat (by omega) (by omega)];have:=DN n m;omega
theorem ZH {a b:Int} (c:0<=a/\a<64) (d:0<=b/\b<64):0<=bor a b/\bor a b<64:=by
 obtain⟨n,rfl⟩:∃n:Nat,a=(n:Int):=⟨a.toNat,by omega⟩;obtain⟨m,rfl⟩:∃m:Nat,b=(m:Int):=⟨b.toNat,by omega⟩;rw[BT.bor_nat (by omega) (by omega)];have:n|||m<2^6:=kw (by omega) (by omega);omega
theorem DO {b:Bool} {o k:Int} (h:0<=o/\o<64) (hk:0<k/\k<64):FU b o k=0↔b=false/\o=0:=by
 unfold FU;cases b with
 |false=>rw[jd (by simp)];simp
 |true=>
  rw[je rfl,QZ h ⟨by omega,by omega⟩];refine⟨fun h=>absurd h.2 (by omega),fun h=>absurd h.1 (by simp)⟩
theorem nR {b:Bool} {o k:Int} (h:0<=o/\o<64) (hk:0<k/\k<64):Rn b o k=0↔b=false/\o=0:=by
 unfold Rn;cases b with
 |false=>rw[jd (by simp)];simp
 |true=>
  rw[je rfl,ZG h ⟨by omega,by omega⟩];refine⟨fun h=>absurd h.2 (by omega),fun h=>absurd h.1 (by simp)⟩
theorem Lt {b:Bool} {o k:Int} (h:0<=o/\o<64) (hk:0<k/\k<64):0<=Rn b o k/\Rn b o k<64:=by
 unfold Rn
 split
 exact ZH h ⟨by omega,hk.2⟩;exact h
theorem Lu (t:TkD):∀(q:List (Int×PeD×Unit)) (o:Int),(0<=o/\o<64)->(dq t o q=0↔o=0/\∀x∈q,yB t x.2.1=0)
 |[],o,_=>by
  show o=0↔_
  simp
 |x::q,o,h=>by
  have b:=Dd t x.2.1
  have a:=Lu t q (uor o (yB t x.2.1)) (V8 h ⟨by omega,by omega⟩)
  show dq t (uor o (yB t x.2.1)) q=0↔_
  rw[a,QZ h ⟨by omega,by omega⟩]
  simp only[jj,forall_eq_or_imp,and_assoc]
theorem ZI {t:Int} (h:BT.qd t) (p:Int):tP t p=BT.has t p.toNat:=BT.has_ushr h p.toNat
theorem jaL {t:Int} (h:BT.qd t) (p:Int):tP t p=qf t p:=(ZI h p).trans (Bs h p).symm
theorem nS {t:TkD} {s:Int} (b:BT.qd s) {x:Int×PeD×Unit}:x∈xO t s↔∃i:Nat,i<(wj (U.tc t)).length/\qf s (i:Int)=true/\x=((i:Int),nth (wj (U.tc t)) i,()):=by
 unfold xO gy;rw[j6];refine⟨fun⟨i,hi,e⟩=> ?_,fun⟨i,c,a,e⟩=>⟨i,jX.2 ⟨jG.2 c,?_⟩,e.symm⟩⟩;have hi:=jX.1 hi;have a:tP s (i:Int)=true:=hi.2;exact⟨i,jG.1 hi.1,(jaL b _)▸a,e.symm⟩;show tP s (i:Int)=true;rw[jaL b];exact a
theorem uY (c:CrD) (j:JbD) (t:Int):∀n,(0<=(qz c j t n).1/\(qz c j t n).1<64)/\((qz c j t n).1=0↔∀i:Nat,i<n->qf t (i:Int)=true->qN c j (i:Int)=true)/\
 ((qz c j t n).2=true↔∃i:Nat,i<n/\qf t (i:Int)=true/\jcR (nth (wj c) i)=true)
 |0=>⟨by show(0:Int)<=0/\(0:Int)<64;omega,⟨fun _ i h=>absurd h (by omega),fun _=>rfl⟩,⟨fun h=>(by cases h),fun⟨i,h,_⟩=>absurd h (by omega)⟩⟩
 |n+1=>by
  obtain⟨l,o,p⟩:=uY c j t n
  cases g:qf t (n:Int) with
  |false=>
   rw[Lc g]
   refine⟨l,o.trans ⟨fun h i hi a=> ?_,fun h i hi=>h i (by omega)⟩,p.trans ⟨fun⟨i,hi,a⟩=>⟨i,by omega,a⟩,fun⟨i,hi,d,f⟩=>⟨i,?_,d,f⟩⟩⟩
   by_cases e:i=n
   subst e;rw[g] at a;cases a
   exact h i (by omega) a
   by_cases e:i=n
   subst e;rw[g] at d;cases d
   omega
  |true=>
   have e:qz c j t (n+1)=(Rn (!qf (U.cl (nth (wj c) n)) (eE j)) (Rn (!qf (U.fd (nth (wj c) n)) (PM j)) (Rn (cT (nth (wj c) n) (Yh j)) (qz c j t n).1 1) 2) 4,(qz c j t n).2||jcR (nth (wj c) n)):=by
    rw[DC];unfold PP;rw[je g]
   rw[e];have o1:=Lt (b:=cT (nth (wj c) n) (Yh j)) (k:=1) l (by omega);have o2:=Lt (b:= !qf (U.fd (nth (wj c) n)) (PM j)) (k:=2) o1 (by omega);have s:=Lt (b:= !qf (U.cl (nth (wj c) n)) (eE j)) (k:=4) o2 (by omega);refine⟨s,?_,?_⟩;show Rn _ _ 4=0↔_;rw[nR o2 (by omega),nR o1 (by omega),nR l (by omega),o];have m:qN c j (n:Int)=(!(cT (nth (wj c) n) (Yh j))&&qf (U.fd (nth (wj c) n)) (PM j)&&qf (U.cl (nth (wj c) n)) (eE j)):=by
    unfold qN;rw[jw]
   refine⟨fun⟨d,f,q,r⟩ i hi a=> ?_,fun h=> ?_⟩;by_cases e:i=n;subst e;rw[m];simp only[ze] at d f;rw[d,f,q];rfl;exact r i (by omega) a;have:=h n (by omega) g;rw[m,ji,ji,jN] at this;exact⟨by rw[this.2];rfl,by rw[this.1.2];rfl,this.1.1,fun i hi=>h i (by omega)⟩;show((qz c j t n).2||jcR (nth (wj c) n))=true↔_;rw[zo,p];refine⟨fun h=>h.elim (fun⟨i,hi,a⟩=>⟨i,by omega,a⟩) (fun h=>⟨n,by omega,g,h⟩),fun⟨i,hi,d,f⟩=> ?_⟩;by_cases e:i=n;subst e;exact .inr f;exact .inl ⟨i,by omega,d,f⟩
theorem ZJ {c:CrD} {j:JbD} {t:Int} (d:BT.qd t) (a b:Nat):Mx (c,j,dp c j,()) t a b=U.J3 c t (Uu (dp c j)) a b:=by
 unfold Mx U.J3 nh lu;refine jZ.2 ?_;rw[za,za];refine⟨fun⟨x,g,h⟩=> ?_,fun⟨i,hi,h⟩=> ?_⟩;obtain⟨i,e,f,rfl⟩:=(nS d).1 g;refine⟨i,jG.2 e,?_⟩;have h:Uu (dp c j)<=min (nth (U.lv (nth (wj c) i)) ((a:Int)).toNat) (nth (U.lv (nth (wj c) i)) ((b:Int)).toNat):=ja h;rw[f,jD (by omega:Uu (dp c j)<=nth (U.lv (nth (wj c) i)) ((a:Int)).toNat),jD (by omega:Uu (dp c j)<=nth (U.lv (nth (wj c) i)) ((b:Int)).toNat)];rfl;rw[ji,ji,decide_eq_true_iff,decide_eq_true_iff] at h;refine⟨((i:Int),nth (wj c) i,()),(nS d).2 ⟨i,jG.1 hi,h.1.1,rfl⟩,?_⟩;exact jD (show Uu (dp c j)<=min (nth (U.lv (nth (wj c) i)) ((a:Int)).toNat) (nth (U.lv (nth (wj c) i)) ((b:Int)).toNat) by have:=h.1.2;have:=h.2;omega)
theorem jco (c:CrD) (t lev:Int) (a b:Nat):U.J3 c t lev a b=U.J3 c t lev b a:=by
 unfold U.J3 lu;refine jZ.2 ?_;rw[za,za];constructor<;>
 .rintro⟨i,hi,h⟩;refine⟨i,hi,?_⟩;rw[ji,ji] at h⊢;exact⟨⟨h.1.1,h.2⟩,h.1.2⟩
theorem jdV {c:CrD} {j:JbD} {t:Int} (_:wu c=true) (d:qb c j=true) (f:BT.qd t):nth (lc (c,j,dp c j,()) t) (Mw j).toNat<0↔nth (nr c t (Uu (dp c j)) (Mw j)) (G8 j).toNat<0:=by
 have h:=mF d;have e:Mx (c,j,dp c j,()) t=U.J3 c t (Uu (dp c j)):=(by funext a b;exact ZJ f a b);show nth (jef (Mx (c,j,dp c j,()) t) (U.la c).toNat (G8 j).toNat) (Mw j).toNat<0↔nth (qR (U.J3 c t (Uu (dp c j))) (U.la c).toNat (Mw j).toNat (U.la c).toNat) (G8 j).toNat<0;rw[e];exact(jbU (jco c t _) (by omega) (by omega)).symm
theorem W5 {c:CrD} {j:JbD} {t:Int} (a:BT.qd t):(∀x∈xO (c,j,dp c j,()) t,yB (c,j,dp c j,()) x.2.1=0)↔∀i:Nat,i<(wj c).length->qf t (i:Int)=true->qN c j (i:Int)=true:=by
 refine⟨fun h i hi e=>(nQ c j i).1 (h ((i:Int),nth (wj c) i,()) ((nS a).2 ⟨i,hi,e,rfl⟩)),fun h x f=> ?_⟩;obtain⟨i,b,d,rfl⟩:=(nS a).1 f;exact(nQ c j i).2 (h i b d)
theorem ZK {c:CrD} {j:JbD} {t:Int} (d:BT.qd t):fT (xO (c,j,dp c j,()) t)=je5 c j t:=by
 refine jZ.2 ?_;unfold je5;rw[(uY c j t (wj c).length).2.2];unfold fT;rw[za];refine⟨fun⟨x,f,h⟩=> ?_,fun⟨i,a,b,e⟩=>⟨((i:Int),nth (wj c) i,()),(nS d).2 ⟨i,a,b,rfl⟩,e⟩⟩;obtain⟨i,a,b,rfl⟩:=(nS d).1 f;exact⟨i,a,b,h⟩
theorem O2 {c:CrD} {j:JbD} {t:Int} (n:wu c=true) (o:qb c j=true) (a:BT.qd t):vV (c,j,dp c j,()) t=0↔Ui c j t=0:=by
 have f:=uY c j t (wj c).length;have g:=NM (c,j,dp c j,()) (xO (c,j,dp c j,()) t) 0 (by omega);have i:=De (b:=decide (BT.size t≠max (jad j) (jcS (dp c j)))) (k:=8) g (by omega);have q:=De (b:=(jey (dp c j)&& !fT (xO (c,j,dp c j,()) t))) (k:=16) i (by omega);have d:0<=je4 c j t/\je4 c j t<64:=f.1;have e:=Lt (b:=decide (BT.size t≠max (jad j) (jcS (dp c j)))) (k:=8) d (by omega);have l:=Lt (b:=(jey (dp c j)&& !je5 c j t)) (k:=16) e (by omega);have m:vV (c,j,dp c j,()) t=FU (decide (nth (lc (c,j,dp c j,()) t) (Mw j).toNat<0)) (FU (jey (dp c j)&& !fT (xO (c,j,dp c j,()) t)) (FU (decide (BT.size t≠max (jad j) (jcS (dp c j)))) (dq (c,j,dp c j,()) 0 (xO (c,j,dp c j,()) t)) 8) 16) 32:=rfl;have p:je4 c j t=0↔dq (c,j,dp c j,()) 0 (xO (c,j,dp c j,()) t)=0:=by
  rw[Lu _ _ _ (by omega),W5 a];exact f.2.1.trans ⟨fun h=>⟨rfl,h⟩,fun h=>h.2⟩
 rw[m,DO q (by omega),DO i (by omega),DO g (by omega)];unfold Ui;rw[nR l (by omega),nR e (by omega),nR d (by omega),p,ZK a,jH,jH,jdV n o a,jH]
theorem jcp {d:DyD} (a:FV d) {b:Int} (k:au d b) {t:Int} (e:0<=t) (n:t<2^(wj (wt d)).length):Eu d b t=Ev (wt d) (gL (U.bk d b)) t:=by
 unfold au at k;have h:qb (wt d) (gL (U.bk d b))=true:=WQ a (b:=b.toNat) (by omega);have o:=(H9 a.1).2;have m:BT.qd t:=(by unfold BT.qd;omega);have i:vH (wt d) (gL (U.bk d b))=0:=(by unfold vH;rw[a.1,h];rfl);have j:Ja (wt d) t=true:=by
  unfold Ja wa;rw[jD e,jD (by omega)];rfl
 have l:bN (wt d) (gL (U.bk d b)) t=0:=by
  unfold bN;rw[jd (by rw[i];simp),j,je rfl]
 have c:=O2 a.1 h m;unfold Eu Ev jdd;rw[l,je rfl];refine jZ.2 ?_;simp only[ji,decide_eq_true_iff,true_and];rw[c];constructor;rintro⟨f,g⟩;exact⟨by omega,f⟩;rintro⟨f,g⟩;exact⟨g,by omega⟩
theorem jaM {d:DyD} (h:gN d=0) {b:Nat} (a:b<(wq d).length):0<=nth (Ji d).1 b/\nth (Ji d).1 b<2^(wj (wt d)).length:=by
 have c:=DM ((fL d).trans h);have e:=c.set b a;exact⟨e.1,BT.lt_of_has e (fun p f=>((c.bit b a p).1 f).1)⟩
theorem jcq (d:DyD):wb d=jfk d:=by
 unfold wb jfk;rw[fL];by_cases h:gN d=0;rw[je h,je h,Iw h];unfold aH jaY;congr 1;refine List.filter_congr fun b a=> ?_
 have a:=jG.1 a;have hk:=(fL d).trans h;have c:=jaM h a;show Eu d (b:Int) (eB (bO (Uw d)) (b:Int))=Ev (wt d) (gL (nth (wq d) b)) (nth (tT d) b);rw[W3 hk a,QY h,jcp (GU h) (by unfold au;omega) c.1 c.2];rfl;rw[jd h,jd h]
end Go.X
