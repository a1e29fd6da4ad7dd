/-
  Part 5 of the road: a checked reading of bodies, and what the functions on it do (C1 PC1 PC2 PC3 PC4 C2 PC5 PC6 PC7 PC8 C3 PC9 SL PC10 S1 S2 S3 PC11 C4 PC12 PC13 PC14 S4 S5).
-/
import Derived.Test.YtacjhnpgiklpdaaGreatDoorK04
namespace Go.X
open U
open Go.Proofs
namespace U
def yj (s:Int):Nat->Int
 |0=>s
 |j+1=>yj s j/2^1
def J3 (c:CrD) (t d:Int) (a b:Nat):Bool:=iK c t d (a:Int) (b:Int)
def mI (c:CrD) (t b a:Int):List Int:=qB (J3 c t b) (la c).toNat a.toNat (la c).toNat
def Qh (c:Bool) (s b:Int):Int:=if c=true then bor s b else s
def OP (c:CrD) (j:JbD) (t:Int) (x:Int×Bool) (i:Nat):Int×Bool:=
 if wD t (i:Int)=true then(Qh (!wD (cl (nth (wd c) i)) (mB j)) (Qh (!wD (fd (nth (wd c) i)) (OM j)) (Qh (ct (nth (wd c) i) (WP j)) x.1 1) 2) 4,x.2||jbv (nth (wd c) i)) else x
def qj (c:CrD) (j:JbD) (t:Int) (n:Nat):Int×Bool:=(List.range n).foldl (OP c j t) (0,false)
def jdJ (c:CrD) (j:JbD) (t:Int):Int:=(qj c j t (wd c).length).1
def jdK (c:CrD) (j:JbD) (t:Int):Bool:=(qj c j t (wd c).length).2
def SL (c:CrD) (j:JbD) (t:Int):Int:=
 Qh (decide (nth (mI c t (S1 (cG c j)) (Lx j)) (Ge j).toNat<0)) (Qh (jdf (cG c j)&& !jdK c j t) (Qh (decide (BT.size t≠max (YL j) (jbw (cG c j)))) (jdJ c j t) 8) 16) 32
def DJ (c:CrD) (j:JbD) (t:Int):Bool:=decide (0<t)&&decide (SL c j t=0)
def WQ (t:Int):Prop:=0<=t/\t<256
end U
def J8:wO:=⟨[.val .int,.val .int,.val .int],[.bool],false,fun _=>[],fun d=>(kX d.1 d.2.1 d.2.2.1,())⟩
def J9:Prop:=∀(d:Int×Int×Int×Unit),(decide (d.2.1<=d.1)&&decide (d.1<=d.2.2.1),())=(kX d.1 d.2.1 d.2.2.1,())
def Vd:wO:=⟨[.val .int,.val .int],[.bool],false,fun d=>[0<=d.2.1/\d.2.1<=63],fun d=>(wD d.1 d.2.1,())⟩
def Ve:Prop:=∀(d:Int×Int×Unit),0<=d.2.1/\d.2.1<=63->0<=d.2.1/\d.2.1<=18446744073709551615/\0<=d.2.1/\d.2.1<=64/\(decide (iP (d.1/(2:Int)^d.2.1.toNat) (1:Int)=1),())=(wD d.1 d.2.1,())
def Ka:wO:=⟨[.val tCr],[.bool],false,fun _=>[],fun d=>(wo d.1,())⟩
def Kb:Ann:=fun r=>match r with
 |4=>some fun σ=>{X:=Nat,sl:=fun i=>[(3,.dat .int (i:Int))],ob:=fun _=>[],inv:=fun i=>i<=(wd (gb tCr σ 1)).length/\∀j:Nat,j<i->eX (U.la (gb tCr σ 1)) (nth (wd (gb tCr σ 1)) j)=true,mu:=fun i=>(wd (gb tCr σ 1)).length-i}
 |10=>some fun σ=>{X:=Nat,sl:=fun i=>[(5,.dat .int (i:Int))],ob:=fun _=>[],inv:=fun i=>i<=(U.lv (gb tPe σ 4)).length/\∀j:Nat,j<i->kX (nth (U.lv (gb tPe σ 4)) j) 0 5=true,mu:=fun i=>(U.lv (gb tPe σ 4)).length-i}
 |15=>some fun σ=>{X:=Nat,sl:=fun i=>[(6,.dat .int (i:Int))],ob:=fun _=>[],inv:=fun i=>i<=(qT (gb tPe σ 4)).length/\∀j:Nat,j<i->kX (nth (qT (gb tPe σ 4)) j) 0 99=true,mu:=fun i=>(qT (gb tPe σ 4)).length-i}
 |20=>some fun σ=>{X:=Nat,sl:=fun i=>[(7,.dat .int (i:Int))],ob:=fun _=>[],inv:=fun i=>i<=(yB (gb tCr σ 1)).length/\∀j:Nat,j<i->eY (nth (yB (gb tCr σ 1)) j)=true,mu:=fun i=>(yB (gb tCr σ 1)).length-i}
 |_=>none
abbrev jeA (d:CrD×Unit)(x:Nat):=(nth d.1.2.1 (x:Int).toNat)
abbrev jgx (d:CrD×Unit)(x:Nat):=(↑(jeA d x).1.length:Int)
abbrev jg5 (d:CrD×Unit)(x:Nat):=(↑(jeA d x).2.2.2.1.length:Int)
abbrev jio (d:CrD×Unit)(x:Nat):=(decide ((jgx d x)≠d.1.1)|| !kX (jeA d x).2.1 (0:Int) (255:Int)|| !kX (jeA d x).2.2.1 (0:Int) (255:Int)||decide ((10:Int)<(jg5 d x))|| !kX (jeA d x).q4.2.1 (0:Int) (1000:Int))
abbrev jgy (d:CrD×Unit):=(d.1.2.2.1.length:Int)
abbrev jfA (d:CrD×Unit)(x:Nat):=(qT (jeA d x))
abbrev jgz (d:CrD×Unit):=(d.1.2.1.length:Int)
abbrev jip (d:CrD×Unit):=(!kX d.1.1 (2:Int) (5:Int)||decide (8<(jgz d))||decide ((jgy d)≠4))
abbrev jg6 (d:CrD×Unit)(x:Nat):=(nth d.1.2.2.1 (x:Int).toNat)
abbrev jiq (d:CrD×Unit)(x:Nat):=(!kX (jg6 d x).1 (1:Int) (5:Int)|| !kX (jg6 d x).2.1 (1:Int) (8:Int))
def Kc:Prop:=∀(d:CrD×Unit),((!!kX d.1.1 (2:Int) (5:Int))=true->d.1.2.1.length<4611686018427387904)->((!(!kX d.1.1 (2:Int) (5:Int)||decide (8<(jgz d))))=true->d.1.2.2.1.length<4611686018427387904)->((jip d)=true->(false,())=(wo d.1,()))/\((jip d)=false->(∃(x:Nat),((0=(x:Int)/\True)/\True)/\x<=(wd d.1).length/\∀(j:Nat),j<x->eX (U.la d.1) (nth (wd d.1) j)=true)/\∀(x:Nat),(x<=(wd d.1).length/\∀(j:Nat),j<x->eX (U.la d.1) (nth (wd d.1) j)=true)->d.1.2.1.length<4611686018427387904->(decide ((x:Int)<(jgz d))=true->0<=(x:Int)/\(x:Int)<(jgz d)/\((jeA d x).1.length<4611686018427387904->((!(decide ((jgx d x)≠d.1.1)|| !kX (jeA d x).2.1 (0:Int) (255:Int)|| !kX (jeA d x).2.2.1 (0:Int) (255:Int)))=true->(jeA d x).2.2.2.1.length<4611686018427387904)->((jio d x)=true->(false,())=(wo d.1,()))/\((jio d x)=false->(∃(b:Nat),((0=(b:Int)/\True)/\True)/\b<=(U.lv (jeA d x)).length/\∀(j:Nat),j<b->kX (nth (U.lv (jeA d x)) j) (0:Int) 5=true)/\∀(b:Nat),(b<=(U.lv (jeA d x)).length/\∀(j:Nat),j<b->kX (nth (U.lv (jeA d x)) j) (0:Int) 5=true)->(jeA d x).1.length<4611686018427387904->(decide ((b:Int)<(jgx d x))=true->0<=(b:Int)/\(b:Int)<(jgx d x)/\((!kX (nth (jeA d x).1 (b:Int).toNat) (0:Int) (5:Int))=true->(false,())=(wo d.1,()))/\((!kX (nth (jeA d x).1 (b:Int).toNat) (0:Int) (5:Int))=false->wn ((b:Int)+1)/\∃(c:Nat),(((b:Int)+1=(c:Int)/\True)/\True)/\(c<=(U.lv (jeA d x)).length/\∀(j:Nat),j<c->kX (nth (U.lv (jeA d x)) j) (0:Int) 5=true)/\(U.lv (jeA d x)).length-c<(U.lv (jeA d x)).length-b))/\(decide ((b:Int)<(jgx d x))=false->(∃(a:Nat),((0=(a:Int)/\True)/\True)/\a<=(jfA d x).length/\∀(j:Nat),j<a->kX (nth (jfA d x) j) (0:Int) 99=true)/\∀(a:Nat),(a<=(jfA d x).length/\∀(j:Nat),j<a->kX (nth (jfA d x) j) (0:Int) 99=true)->(jeA d x).2.2.2.1.length<4611686018427387904->(decide ((a:Int)<(jg5 d x))=true->0<=(a:Int)/\(a:Int)<(jg5 d x)/\((!kX (nth (jeA d x).2.2.2.1 (a:Int).toNat) (0:Int) (99:Int))=true->(false,())=(wo d.1,()))/\((!kX (nth (jeA d x).2.2.2.1 (a:Int).toNat) (0:Int) (99:Int))=false->wn ((a:Int)+1)/\∃(c:Nat),(((a:Int)+1=(c:Int)/\True)/\True)/\(c<=(jfA d x).length/\∀(j:Nat),j<c->kX (nth (jfA d x) j) (0:Int) 99=true)/\(jfA d x).length-c<(jfA d x).length-a))/\(decide ((a:Int)<(jg5 d x))=false->wn ((x:Int)+1)/\∃(c:Nat),(((x:Int)+1=(c:Int)/\True)/\True)/\(c<=(wd d.1).length/\∀(j:Nat),j<c->eX (U.la d.1) (nth (wd d.1) j)=true)/\(wd d.1).length-c<(wd d.1).length-x)))))/\(decide ((x:Int)<(jgz d))=false->(∃(x:Nat),((0=(x:Int)/\True)/\True)/\x<=(yB d.1).length/\∀(j:Nat),j<x->eY (nth (yB d.1) j)=true)/\∀(x:Nat),(x<=(yB d.1).length/\∀(j:Nat),j<x->eY (nth (yB d.1) j)=true)->d.1.2.2.1.length<4611686018427387904->(decide ((x:Int)<(jgy d))=true->0<=(x:Int)/\(x:Int)<(jgy d)/\((!!kX (jg6 d x).1 (1:Int) (5:Int))=true->0<=(x:Int))/\((!!kX (jg6 d x).1 (1:Int) (5:Int))=true->(x:Int)<(jgy d))/\((jiq d x)=true->(false,())=(wo d.1,()))/\((jiq d x)=false->wn ((x:Int)+1)/\∃(c:Nat),(((x:Int)+1=(c:Int)/\True)/\True)/\(c<=(yB d.1).length/\∀(j:Nat),j<c->eY (nth (yB d.1) j)=true)/\(yB d.1).length-c<(yB d.1).length-x))/\(decide ((x:Int)<(jgy d))=false->(true,())=(wo d.1,()))))
def Nf:wO:=⟨[.val tCr,.val tJb],[.bool],false,fun d=>[wo d.1=true],fun d=>(wZ d.1 d.2.1,())⟩
def Ng:Prop:=∀(d:CrD×JbD×Unit),wo d.1=true->wn (d.1.1-1)/\(kX d.2.1.1 (0:Int) (d.1.1-1)=true->wn (d.1.1-1))/\(kX d.2.1.1 (0:Int) (d.1.1-1)&&kX d.2.1.2.1 (0:Int) (d.1.1-1)&&decide (d.2.1.1≠d.2.1.2.1)&&kX d.2.1.2.2.1 (0:Int) (99:Int)&&kX d.2.1.2.2.2.1 (0:Int) (7:Int)&&kX d.2.1.q4.1 (0:Int) (3:Int)&&kX d.2.1.q4.2.1 (1:Int) (8:Int),())=(wZ d.1 d.2.1,())
def RB:wO:=⟨[.val tPe,.val .int],[.bool],false,fun _=>[],fun d=>(ct d.1 d.2.1,())⟩
def RC:Ann:=fun r=>match r with
 |2=>some fun σ=>{X:=Nat,sl:=fun i=>[(5,.dat .int (i:Int))],ob:=fun _=>[],inv:=fun i=>i<=(qT (gb tPe σ 2)).length/\∀j:Nat,j<i->nth (qT (gb tPe σ 2)) j≠gd .int σ 1,mu:=fun i=>(qT (gb tPe σ 2)).length-i}
 |_=>none
def RE:Prop:=∀(d:PeD×Int×Unit),(∃(x:Nat),((0=(x:Int)/\True)/\True)/\x<=(qT d.1).length/\∀(j:Nat),j<x->nth (qT d.1) j≠d.2.1)/\∀(x:Nat),(x<=(qT d.1).length/\∀(j:Nat),j<x->nth (qT d.1) j≠d.2.1)->d.1.2.2.2.1.length<4611686018427387904->(decide ((x:Int)<d.1.2.2.2.1.length)=true->0<=(x:Int)/\(x:Int)<d.1.2.2.2.1.length/\(decide (nth d.1.2.2.2.1 (x:Int).toNat=d.2.1)=true->(true,())=(ct d.1 d.2.1,()))/\(decide (nth d.1.2.2.2.1 (x:Int).toNat=d.2.1)=false->wn ((x:Int)+1)/\∃(a:Nat),(((x:Int)+1=(a:Int)/\True)/\True)/\(a<=(qT d.1).length/\∀(j:Nat),j<a->nth (qT d.1) j≠d.2.1)/\(qT d.1).length-a<(qT d.1).length-x))/\(decide ((x:Int)<d.1.2.2.2.1.length)=false->(false,())=(ct d.1 d.2.1,()))
def Hu:wO:=⟨[.val tCr,.val tJb,.val .int],[.bool],false,fun d=>[0<=d.2.2.1/\d.2.2.1<((wd d.1).length:Int),wZ d.1 d.2.1=true],fun d=>(qy d.1 d.2.1 d.2.2.1,())⟩
abbrev jgb (d:CrD×JbD×Int×Unit):=(nth d.1.2.1 d.2.2.1.toNat)
def Hv:Prop:=∀(d:CrD×JbD×Int×Unit),0<=d.2.2.1/\d.2.2.1<(↑(wd d.1).length:Int)->wZ d.1 d.2.1=true->0<=d.2.2.1/\d.2.2.1<(d.1.2.1.length:Int)/\((!ct (jgb d) d.2.1.2.2.1)=true->0<=d.2.1.2.2.2.1/\d.2.1.2.2.2.1<=63)/\((!ct (jgb d) d.2.1.2.2.1&&wD (jgb d).2.1 d.2.1.2.2.2.1)=true->0<=d.2.1.q4.1/\d.2.1.q4.1<=63)/\(!ct (jgb d) d.2.1.2.2.1&&wD (jgb d).2.1 d.2.1.2.2.2.1&&wD (jgb d).2.2.1 d.2.1.q4.1,())=(qy d.1 d.2.1 d.2.2.1,())
def RF:wO:=⟨[.val .int],[.int],false,fun d=>[BT.qz d.1],fun d=>(BT.size d.1,())⟩
def RG:Ann:=fun r=>match r with
 |2=>some fun σ=>{X:=Nat,sl:=fun j=>[(0,.dat .int (yj (gd .int σ 0) j)),(3,.dat .int (BT.size (gd .int σ 0)-BT.size (yj (gd .int σ 0) j)))],ob:=fun _=>[],inv:=fun j=>BT.qz (yj (gd .int σ 0) j),mu:=fun j=>(yj (gd .int σ 0) j).toNat}
 |_=>none
def RH:Prop:=∀(d:Int×Unit),BT.qz d.1->(∃(x:Nat),((d.1=yj d.1 x/\0=BT.size d.1-BT.size (yj d.1 x)/\True)/\True)/\BT.qz (yj d.1 x))/\∀(x:Nat),BT.qz (yj d.1 x)->(decide (0<yj d.1 x)=true->wn (BT.size d.1-BT.size (yj d.1 x)+iP (yj d.1 x) (1:Int))/\(0:Int)<=1/\(1:Int)<=64/\∃(a:Nat),((yj d.1 x/(2:Int)^Int.toNat 1=yj d.1 a/\BT.size d.1-BT.size (yj d.1 x)+iP (yj d.1 x) 1=BT.size d.1-BT.size (yj d.1 a)/\True)/\True)/\BT.qz (yj d.1 a)/\(yj d.1 a).toNat<(yj d.1 x).toNat)/\(decide (0<yj d.1 x)=false->(BT.size d.1-BT.size (yj d.1 x),())=(BT.size d.1,()))
def Nh:wO:=⟨[.val tCr,.val .int,.val .int,.val .int,.val .int],[.bool],false,fun d=>[wo d.1=true,0<=d.2.2.2.1/\d.2.2.2.1<U.la d.1,0<=d.2.2.2.2.1/\d.2.2.2.2.1<U.la d.1],fun d=>(iK d.1 d.2.1 d.2.2.1 d.2.2.2.1 d.2.2.2.2.1,())⟩
def Ni:Ann:=fun r=>match r with
 |2=>some fun σ=>{X:=Nat,sl:=fun i=>[(11,.dat .int (i:Int))],ob:=fun _=>[],inv:=fun i=>i<=(wd (gb tCr σ 5)).length/\∀j:Nat,j<i->(wD (gd .int σ 1) (j:Int)&&decide (gd .int σ 2<=nth (U.lv (nth (wd (gb tCr σ 5)) j)) (gd .int σ 3).toNat)&&decide (gd .int σ 2<=nth (U.lv (nth (wd (gb tCr σ 5)) j)) (gd .int σ 4).toNat))=false,mu:=fun i=>(wd (gb tCr σ 5)).length-i}
 |_=>none
abbrev jhN (d:CrD×Int×Int×Int×Int×Unit)(j:Nat):=(wD d.2.1 (j:Int)&&decide (d.2.2.1<=nth (U.lv (nth (wd d.1) j)) d.2.2.2.1.toNat)&&decide (d.2.2.1<=nth (U.lv (nth (wd d.1) j)) d.q4.1.toNat))
abbrev jir (d:CrD×Int×Int×Int×Int×Unit)(x:Nat):=(d.2.2.1<=nth (nth d.1.2.1 (x:Int).toNat).1 d.2.2.2.1.toNat)
abbrev jis (d:CrD×Int×Int×Int×Int×Unit)(x:Nat):=(wD d.2.1 (x:Int)&&decide (jir d x)&&decide (d.2.2.1<=nth (nth d.1.2.1 (x:Int).toNat).1 d.q4.1.toNat))
abbrev jg7 (d:CrD×Int×Int×Int×Int×Unit)(x:Nat):=(wD d.2.1 (x:Int)&&decide (jir d x))
def Nj:Prop:=∀(d:CrD×Int×Int×Int×Int×Unit),wo d.1=true->0<=d.2.2.2.1/\d.2.2.2.1<U.la d.1->0<=d.q4.1/\d.q4.1<U.la d.1->(∃(x:Nat),((0=(x:Int)/\True)/\True)/\x<=(wd d.1).length/\∀(j:Nat),j<x->(jhN d j)=false)/\∀(x:Nat),(x<=(wd d.1).length/\∀(j:Nat),j<x->(jhN d j)=false)->d.1.2.1.length<4611686018427387904->(decide ((x:Int)<d.1.2.1.length)=true->(0<=(x:Int)/\(x:Int)<=63)/\(wD d.2.1 (x:Int)=true->0<=(x:Int))/\(wD d.2.1 (x:Int)=true->(x:Int)<d.1.2.1.length)/\(wD d.2.1 (x:Int)=true->0<=d.2.2.2.1)/\(wD d.2.1 (x:Int)=true->d.2.2.2.1<(↑(nth d.1.2.1 (x:Int).toNat).1.length:Int))/\((jg7 d x)=true->0<=(x:Int))/\((jg7 d x)=true->(x:Int)<d.1.2.1.length)/\((jg7 d x)=true->0<=d.q4.1)/\((jg7 d x)=true->d.q4.1<(↑(nth d.1.2.1 (x:Int).toNat).1.length:Int))/\((jis d x)=true->(true,())=(iK d.1 d.2.1 d.2.2.1 d.2.2.2.1 d.q4.1,()))/\((jis d x)=false->wn ((x:Int)+1)/\∃(a:Nat),(((x:Int)+1=(a:Int)/\True)/\True)/\(a<=(wd d.1).length/\∀(j:Nat),j<a->(jhN d j)=false)/\(wd d.1).length-a<(wd d.1).length-x))/\(decide ((x:Int)<d.1.2.1.length)=false->(false,())=(iK d.1 d.2.1 d.2.2.1 d.2.2.2.1 d.q4.1,()))
def Vf:wO:=⟨[.val tCr,.val .int,.val .int,.val .int],[.slice .int],false,fun d=>[wo d.1=true,0<=d.2.2.2.1/\d.2.2.2.1<U.la d.1],fun d=>(mI d.1 d.2.1 d.2.2.1 d.2.2.2.1,())⟩
def Vg:Ann:=fun r=>match r with
 |3=>some fun σ=>{X:=Nat,sl:=fun i=>[(10,.dat .int (i:Int)),(9,.own 9 .int)],ob:=fun i=>[(9,some (.row 3 .int false .yes (List.replicate i (-1))))],inv:=fun i=>i<=(U.la (gb tCr σ 4)).toNat,mu:=fun i=>(U.la (gb tCr σ 4)).toNat-i}
 |8=>some fun σ=>{X:=Nat,sl:=fun i=>[(11,.dat .int (i:Int)),(9,.own 9 .int)],ob:=fun i=>[(9,some (.row 3 .int false .yes (qB (U.J3 (gb tCr σ 4) (gd .int σ 1) (gd .int σ 2)) (U.la (gb tCr σ 4)).toNat (gd .int σ 3).toNat i)))],inv:=fun i=>i<=(U.la (gb tCr σ 4)).toNat,mu:=fun i=>(U.la (gb tCr σ 4)).toNat-i}
 |11=>some fun σ=>{X:=Nat,sl:=fun i=>[(12,.dat .int (i:Int)),(9,.own 9 .int)],ob:=fun i=>[(9,some (.row 3 .int false .yes (vJ (U.J3 (gb tCr σ 4) (gd .int σ 1) (gd .int σ 2)) (U.la (gb tCr σ 4)).toNat (gd .int σ 11).toNat (gr .int σ 9) i)))],inv:=fun i=>i<=(U.la (gb tCr σ 4)).toNat,mu:=fun i=>(U.la (gb tCr σ 4)).toNat-i}
 |14=>some fun σ=>{X:=Nat,sl:=fun i=>[(13,.dat .int (i:Int)),(9,.own 9 .int)],ob:=fun i=>[(9,some (.row 3 .int false .yes (yh (U.J3 (gb tCr σ 4) (gd .int σ 1) (gd .int σ 2)) (gd .int σ 11).toNat (gd .int σ 12).toNat (gr .int σ 9) i)))],inv:=fun i=>i<=(U.la (gb tCr σ 4)).toNat,mu:=fun i=>(U.la (gb tCr σ 4)).toNat-i}
 |_=>none
abbrev jeO (d:CrD×Int×Int×Int×Unit):=(U.J3 d.1 d.2.1 d.2.2.1)
abbrev jgA (d:CrD×Int×Int×Int×Unit)(x:Nat):=(qB (jeO d) (U.la d.1).toNat d.2.2.2.1.toNat x)
abbrev jgc (d:CrD×Int×Int×Int×Unit)(x:Nat)(a:Nat):=(vJ (jeO d) (U.la d.1).toNat (x:Int).toNat (jgA d x) a)
abbrev jfS (d:CrD×Int×Int×Int×Unit)(x:Nat)(a:Nat)(b:Nat):=(yh (jeO d) (x:Int).toNat (a:Int).toNat (jgc d x a) b)
abbrev jg8 (d:CrD×Int×Int×Int×Unit)(x:Nat)(a:Nat)(b:Nat):=(nth (jfS d x a b) (a:Int).toNat=(x:Int))
abbrev jhO (d:CrD×Int×Int×Int×Unit)(x:Nat)(b:Nat)(a:Nat):=(decide (jg8 d x b a)&&decide (nth (jfS d x b a) (a:Int).toNat<0))
abbrev jit (d:CrD×Int×Int×Int×Unit)(x:Nat)(b:Nat)(a:Nat):=(decide (jg8 d x b a)&&decide (nth (jfS d x b a) (a:Int).toNat<0)&&iK d.1 d.2.1 d.2.2.1 (b:Int) (a:Int))
def Vh:Prop:=∀(d:CrD×Int×Int×Int×Unit),wo d.1=true->0<=d.2.2.2.1/\d.2.2.2.1<U.la d.1->(∃(x:Nat),((0=(x:Int)/\True/\True)/\List.replicate x (-1:Int)=[]/\True)/\x<=(U.la d.1).toNat)/\∀(x:Nat),x<=(U.la d.1).toNat->(decide ((x:Int)<d.1.1)=true->((List.replicate x (-1:Int)).length+[(-1:Int)].length)*8<=140737488355328/\wn ((x:Int)+1)/\∃(c:Nat),(((x:Int)+1=(c:Int)/\True/\True)/\List.replicate x (-1:Int)++[(-1:Int)]=List.replicate c (-1:Int)/\True)/\c<=(U.la d.1).toNat/\(U.la d.1).toNat-c<(U.la d.1).toNat-x)/\(decide ((x:Int)<d.1.1)=false->0<=d.2.2.2.1/\d.2.2.2.1<(↑(List.replicate x (-1:Int)).length:Int)/\(∃(e:Nat),((0=(e:Int)/\True/\True)/\(List.replicate x (-1:Int)).set d.2.2.2.1.toNat 0=qB (jeO d) (U.la d.1).toNat d.2.2.2.1.toNat e/\True)/\e<=(U.la d.1).toNat)/\∀(x:Nat),x<=(U.la d.1).toNat->(decide ((x:Int)<d.1.1)=true->(∃(a:Nat),((0=(a:Int)/\True/\True)/\qB (jeO d) (U.la d.1).toNat d.2.2.2.1.toNat x=vJ (jeO d) (U.la d.1).toNat (x:Int).toNat (jgA d x) a/\True)/\a<=(U.la d.1).toNat)/\∀(a:Nat),a<=(U.la d.1).toNat->(decide ((a:Int)<d.1.1)=true->(∃(b:Nat),((0=(b:Int)/\True/\True)/\vJ (jeO d) (U.la d.1).toNat (x:Int).toNat (jgA d x) a=yh (jeO d) (x:Int).toNat (a:Int).toNat (jgc d x a) b/\True)/\b<=(U.la d.1).toNat)/\∀(b:Nat),b<=(U.la d.1).toNat->(decide ((b:Int)<d.1.1)=true->0<=(a:Int)/\(a:Int)<(jfS d x a b).length/\(decide (jg8 d x a b)=true->0<=(b:Int))/\(decide (jg8 d x a b)=true->(b:Int)<(jfS d x a b).length)/\((jhO d x a b)=true->wo d.1=true)/\((jhO d x a b)=true->0<=(a:Int)/\(a:Int)<U.la d.1)/\((jhO d x a b)=true->0<=(b:Int)/\(b:Int)<U.la d.1)/\((jit d x a b)=true->wn ((x:Int)+1)/\0<=(b:Int)/\(b:Int)<(jfS d x a b).length/\wn ((b:Int)+1)/\∃(c:Nat),((True/\(b:Int)+1=(c:Int)/\True)/\(jfS d x a b).set (b:Int).toNat ((x:Int)+1)=yh (jeO d) (x:Int).toNat (a:Int).toNat (jgc d x a) c/\True)/\c<=(U.la d.1).toNat/\(U.la d.1).toNat-c<(U.la d.1).toNat-b)/\((jit d x a b)=false->wn ((b:Int)+1)/\∃(c:Nat),((True/\(b:Int)+1=(c:Int)/\True)/\yh (jeO d) (x:Int).toNat (a:Int).toNat (jgc d x a) b=yh (jeO d) (x:Int).toNat (a:Int).toNat (jgc d x a) c/\True)/\c<=(U.la d.1).toNat/\(U.la d.1).toNat-c<(U.la d.1).toNat-b))/\(decide ((b:Int)<d.1.1)=false->wn ((a:Int)+1)/\∃(c:Nat),(((a:Int)+1=(c:Int)/\True/\True)/\yh (jeO d) (x:Int).toNat (a:Int).toNat (jgc d x a) b=vJ (jeO d) (U.la d.1).toNat (x:Int).toNat (jgA d x) c/\True)/\c<=(U.la d.1).toNat/\(U.la d.1).toNat-c<(U.la d.1).toNat-a))/\(decide ((a:Int)<d.1.1)=false->wn ((x:Int)+1)/\∃(c:Nat),(((x:Int)+1=(c:Int)/\True/\True)/\vJ (jeO d) (U.la d.1).toNat (x:Int).toNat (jgA d x) a=qB (jeO d) (U.la d.1).toNat d.2.2.2.1.toNat c/\True)/\c<=(U.la d.1).toNat/\(U.la d.1).toNat-c<(U.la d.1).toNat-x))/\(decide ((x:Int)<d.1.1)=false->(qB (jeO d) (U.la d.1).toNat d.2.2.2.1.toNat x,())=(mI d.1 d.2.1 d.2.2.1 d.2.2.2.1,())))
def Kd:wO:=⟨[.val tCr,.val tJb,.val .int],[.int],false,fun d=>[wo d.1=true,wZ d.1 d.2.1=true,WQ d.2.2.1],fun d=>(SL d.1 d.2.1 d.2.2.1,())⟩
def Ke:Ann:=fun r=>match r with
 |5=>some fun σ=>{X:=Nat,sl:=fun i=>[(10,.dat .int (i:Int)),(8,.dat .int (qj (gb tCr σ 3) (gb tJb σ 4) (gd .int σ 2) i).1),(9,.dat .bool (qj (gb tCr σ 3) (gb tJb σ 4) (gd .int σ 2) i).2)],ob:=fun _=>[],inv:=fun i=>i<=(wd (gb tCr σ 3)).length,mu:=fun i=>(wd (gb tCr σ 3)).length-i}
 |_=>none
abbrev jey (d:CrD×JbD×Int×Unit)(x:Nat):=(qj d.1 d.2.1 d.2.2.1 x)
abbrev jgB (d:CrD×JbD×Int×Unit)(x:Nat):=(nth d.1.2.1 (x:Int).toNat)
abbrev jeH (d:CrD×JbD×Int×Unit)(a:Nat):=(qj d.1 d.2.1 d.2.2.1 a)
abbrev jfB (d:CrD×JbD×Int×Unit)(x:Nat):=(!wD (jgB d x).2.2.1 d.2.1.q4.1)
abbrev jfC (d:CrD×JbD×Int×Unit)(x:Nat):=((jey d x).2||(jgB d x).q4.1)
abbrev jfT (d:CrD×JbD×Int×Unit):=(nth d.1.2.2.1 d.2.1.q4.1.toNat)
abbrev jgC (d:CrD×JbD×Int×Unit):=(mI d.1 d.2.2.1 (jfT d).1 d.2.1.1)
abbrev jfD (d:CrD×JbD×Int×Unit):=(nth (jgC d) d.2.1.2.1.toNat<0)
abbrev jfE (d:CrD×JbD×Int×Unit):=(SL d.1 d.2.1 d.2.2.1,())
abbrev jg9 (d:CrD×JbD×Int×Unit):=(0<=d.2.1.q4.1/\d.2.1.q4.1<=63)
abbrev jha (d:CrD×JbD×Int×Unit):=(0<=d.2.1.1/\d.2.1.1<U.la d.1)
abbrev jhb (d:CrD×JbD×Int×Unit)(x:Nat):=(!wD (jgB d x).2.1 d.2.1.2.2.2.1)
def Kf:Prop:=∀(d:CrD×JbD×Int×Unit),wo d.1=true->wZ d.1 d.2.1=true->WQ d.2.2.1->0<=d.2.1.q4.1/\d.2.1.q4.1<(d.1.2.2.1.length:Int)/\(∃(x:Nat),((0=(x:Int)/\0=(jey d x).1/\false=(jey d x).2/\True)/\True)/\x<=(wd d.1).length)/\∀(x:Nat),x<=(wd d.1).length->d.1.2.1.length<4611686018427387904->(decide ((x:Int)<d.1.2.1.length)=true->(0<=(x:Int)/\(x:Int)<=63)/\((!wD d.2.2.1 (x:Int))=true->wn ((x:Int)+1)/\∃(a:Nat),(((jey d x).2=(jeH d a).2/\(jey d x).1=(jeH d a).1/\(x:Int)+1=(a:Int)/\True)/\True)/\a<=(wd d.1).length/\(wd d.1).length-a<(wd d.1).length-x)/\((!wD d.2.2.1 (x:Int))=false->0<=(x:Int)/\(x:Int)<d.1.2.1.length/\(ct (jgB d x) d.2.1.2.2.1=true->(0<=d.2.1.2.2.2.1/\d.2.1.2.2.2.1<=63)/\((jhb d x)=true->(jg9 d)/\((jfB d x)=true->wn ((x:Int)+1)/\∃(a:Nat),(((x:Int)+1=(a:Int)/\(jfC d x)=(jeH d a).2/\bor (bor (bor (jey d x).1 (1:Int)) (2:Int)) 4=(jeH d a).1/\True)/\True)/\a<=(wd d.1).length/\(wd d.1).length-a<(wd d.1).length-x)/\((jfB d x)=false->wn ((x:Int)+1)/\∃(a:Nat),(((x:Int)+1=(a:Int)/\(jfC d x)=(jeH d a).2/\bor (bor (jey d x).1 (1:Int)) 2=(jeH d a).1/\True)/\True)/\a<=(wd d.1).length/\(wd d.1).length-a<(wd d.1).length-x))/\((jhb d x)=false->(jg9 d)/\((jfB d x)=true->wn ((x:Int)+1)/\∃(a:Nat),(((x:Int)+1=(a:Int)/\(jfC d x)=(jeH d a).2/\bor (bor (jey d x).1 (1:Int)) 4=(jeH d a).1/\True)/\True)/\a<=(wd d.1).length/\(wd d.1).length-a<(wd d.1).length-x)/\((jfB d x)=false->wn ((x:Int)+1)/\∃(a:Nat),(((x:Int)+1=(a:Int)/\(jfC d x)=(jeH d a).2/\bor (jey d x).1 1=(jeH d a).1/\True)/\True)/\a<=(wd d.1).length/\(wd d.1).length-a<(wd d.1).length-x)))/\(ct (jgB d x) d.2.1.2.2.1=false->(0<=d.2.1.2.2.2.1/\d.2.1.2.2.2.1<=63)/\((jhb d x)=true->(jg9 d)/\((jfB d x)=true->wn ((x:Int)+1)/\∃(a:Nat),(((x:Int)+1=(a:Int)/\(jfC d x)=(jeH d a).2/\bor (bor (jey d x).1 (2:Int)) 4=(jeH d a).1/\True)/\True)/\a<=(wd d.1).length/\(wd d.1).length-a<(wd d.1).length-x)/\((jfB d x)=false->wn ((x:Int)+1)/\∃(a:Nat),(((x:Int)+1=(a:Int)/\(jfC d x)=(jeH d a).2/\bor (jey d x).1 2=(jeH d a).1/\True)/\True)/\a<=(wd d.1).length/\(wd d.1).length-a<(wd d.1).length-x))/\((jhb d x)=false->(jg9 d)/\((jfB d x)=true->wn ((x:Int)+1)/\∃(a:Nat),(((x:Int)+1=(a:Int)/\(jfC d x)=(jeH d a).2/\bor (jey d x).1 4=(jeH d a).1/\True)/\True)/\a<=(wd d.1).length/\(wd d.1).length-a<(wd d.1).length-x)/\((jfB d x)=false->wn ((x:Int)+1)/\∃(a:Nat),(((jey d x).1=(jeH d a).1/\(x:Int)+1=(a:Int)/\(jfC d x)=(jeH d a).2/\True)/\True)/\a<=(wd d.1).length/\(wd d.1).length-a<(wd d.1).length-x)))))/\(decide ((x:Int)<d.1.2.1.length)=false->BT.qz d.2.2.1/\(decide (BT.size d.2.2.1≠max d.2.1.q4.2.1 (jfT d).2.1)=true->(((jfT d).2.2.1&& !(jey d x).2)=true->wo d.1=true/\(jha d)/\0<=d.2.1.2.1/\d.2.1.2.1<(↑(jgC d).length:Int)/\(decide (jfD d)=true->(bor (bor (bor (jey d x).1 (8:Int)) (16:Int)) (32:Int),())=(jfE d))/\(decide (jfD d)=false->(bor (bor (jey d x).1 (8:Int)) (16:Int),())=(jfE d)))/\(((jfT d).2.2.1&& !(jey d x).2)=false->wo d.1=true/\(jha d)/\0<=d.2.1.2.1/\d.2.1.2.1<(↑(jgC d).length:Int)/\(decide (jfD d)=true->(bor (bor (jey d x).1 (8:Int)) (32:Int),())=(jfE d))/\(decide (jfD d)=false->(bor (jey d x).1 (8:Int),())=(jfE d))))/\(decide (BT.size d.2.2.1≠max d.2.1.q4.2.1 (jfT d).2.1)=false->(((jfT d).2.2.1&& !(jey d x).2)=true->wo d.1=true/\(jha d)/\0<=d.2.1.2.1/\d.2.1.2.1<(↑(jgC d).length:Int)/\(decide (jfD d)=true->(bor (bor (jey d x).1 (16:Int)) (32:Int),())=(jfE d))/\(decide (jfD d)=false->(bor (jey d x).1 (16:Int),())=(jfE d)))/\(((jfT d).2.2.1&& !(jey d x).2)=false->wo d.1=true/\(jha d)/\0<=d.2.1.2.1/\d.2.1.2.1<(↑(jgC d).length:Int)/\(decide (jfD d)=true->(bor (jey d x).1 (32:Int),())=(jfE d))/\(decide (jfD d)=false->((jey d x).1,())=(jfE d)))))
def RI:wO:=⟨[.val tCr,.val tJb,.val .int],[.bool],false,fun d=>[wo d.1=true,wZ d.1 d.2.1=true,WQ d.2.2.1],fun d=>(DJ d.1 d.2.1 d.2.2.1,())⟩
def RJ:Prop:=∀(d:CrD×JbD×Int×Unit),wo d.1=true->wZ d.1 d.2.1=true->WQ d.2.2.1->(decide (0<d.2.2.1)=true->wo d.1=true)/\(decide (0<d.2.2.1)=true->wZ d.1 d.2.1=true)/\(decide (0<d.2.2.1)=true->WQ d.2.2.1)/\(decide (0<d.2.2.1)&&decide (SL d.1 d.2.1 d.2.2.1=0),())=(DJ d.1 d.2.1 d.2.2.1,())
theorem Nk:J9:=by
 rintro⟨n,a,b,⟨⟩⟩;rfl
theorem xe:wX PR 135 J8:=wJ Nk Tryz.func135 kcN koN
theorem X1:Ve:=by
 rintro⟨s,n,⟨⟩⟩ ⟨a,b⟩;have a:0<=n:=a;have b:n<=63:=b;exact⟨a,by show n<=18446744073709551615;omega,a,by show n<=64;omega,rfl⟩
theorem mh:wX PR 19 Vd:=wJ X1 Tryz.func19 kcN koN
theorem X2 (c:CrD) (j:JbD):(kX (Lx j) 0 (U.la c-1)&&kX (Ge j) 0 (U.la c-1)&&decide (Lx j≠Ge j)&&kX (WP j) 0 99&&kX (OM j) 0 7&&kX (mB j) 0 3&&kX (YL j) 1 8)=wZ c j:=by
 unfold wZ kX;rw[jX];simp only[ji,jo,ne_eq];constructor;rintro⟨⟨⟨⟨⟨⟨⟨f,g⟩,h,i⟩,k⟩,l,m⟩,n,o⟩,a,b⟩,d,e⟩;exact⟨f,g,h,i,k,l,m,n,o,a,b,d,e⟩;rintro⟨f,g,h,i,k,l,m,n,o,a,b,d,e⟩;exact⟨⟨⟨⟨⟨⟨⟨f,g⟩,h,i⟩,k⟩,l,m⟩,n,o⟩,a,b⟩,d,e⟩
theorem RK:Ng:=by
 unfold Ng Prod.q4;rintro⟨c,j,⟨⟩⟩ h;have h:wo c=true:=h;have d:=wU h;have a:wn (U.la c-1):=iZ6;refine⟨a,fun _=>a,?_⟩;exact jF (fun b=>(b,())) (X2 c j)
theorem Nm:wX PR 92 Nf:=wJ RK Tryz.func92 (kcC xe kcN) koN
theorem Vi:RE:=by
 rintro⟨p,n,⟨⟩⟩;refine⟨⟨0,⟨⟨rfl,tZ⟩,tZ⟩,jp _,fun j d=>by omega⟩,fun x b c=>⟨fun h=> ?_,fun h=> ?_⟩⟩;have c:(qT p).length<4611686018427387904:=c;have h:(x:Int)<(qT p).length:=ja h;refine⟨by omega,h,fun a=> ?_,fun a=>⟨iZ6,x+1,⟨⟨by simp,tZ⟩,tZ⟩,⟨by show x+1<=(qT p).length;omega,fun j d=> ?_⟩,by show(qT p).length-(x+1)<(qT p).length-x;omega⟩⟩;have a:nth (qT p) x=n:=ja a;have:ct p n=true:=by
  unfold ct;rw[zb];exact⟨_,L.we (l:=qT p) (i:=x) (by omega),by simpa using a⟩
 show(true,())=(ct p n,());rw[this];have a:¬nth (qT p) x=n:=jc a;by_cases e:j=x;subst e;exact a;exact b.2 j (by omega);have h:¬(x:Int)<(qT p).length:=jc h;have g:x<=(qT p).length:=b.1;have:ct p n=false:=by
  unfold ct;rw[zj];intro t f;obtain⟨i,hi,rfl⟩:=L.mem_iff.1 f;have:=b.2 i (by omega);have this:nth (qT p) i≠n:=this;simpa using this
 show(false,())=(ct p n,());rw[this]
theorem F4:wX PR 112 RB:=vF RC Vi Tryz.func112 kcN koN
theorem Vj {c:CrD} {j:JbD} (h:wZ c j=true):(0<=Lx j/\Lx j<U.la c)/\(0<=Ge j/\Ge j<U.la c)/\(0<=OM j/\OM j<=7)/\(0<=mB j/\mB j<=3)/\1<=YL j/\YL j<=8:=by
 unfold wZ at h;have:=ja h;omega
theorem Kg:Hv:=by
 unfold Hv jgb Prod.q4;rintro⟨c,j,p,⟨⟩⟩ ⟨b,d⟩ a;have a:wZ c j=true:=a;obtain⟨_,_,f,k,_⟩:=Vj a;exact⟨b,d,fun _=>⟨f.1,by show OM j<=63;omega⟩,fun _=>⟨k.1,by show mB j<=63;omega⟩,rfl⟩
theorem Hw:wX PR 148 Hu:=wJ Kg Tryz.func148 (kcC F4 (kcC mh kcN)) koN
theorem Vk:RH:=by
 rintro⟨s,⟨⟩⟩ d;have d:BT.qz s:=d;have e:=BT.size_le s;refine⟨⟨0,⟨⟨rfl,by show(0:Int)=BT.size s-BT.size s;omega,tZ⟩,tZ⟩,d⟩,fun x a=>⟨fun h=> ?_,fun h=> ?_⟩⟩;have h:0<yj s x:=ja h;have a:BT.qz (yj s x):=a;have g:=BT.size_half a;have i:=BT.size_le (yj s x);have j:iP (yj s x) 1=(yj s x)%2:=by
  obtain⟨n,f,c⟩:=BT.nat_of a;rw[f,show(1:Int)=((1:Nat):Int) from rfl,BT.band_nat (BT.lt63 c) (by decide),kE];omega
 have b:yj s (x+1)=yj s x/2:=(by show yj s x/2^1=_;simp);unfold BT.qz at a;refine⟨?_,by decide,by decide,x+1,⟨⟨rfl,?_,tZ⟩,tZ⟩,?_,?_⟩;show wn (BT.size s-BT.size (yj s x)+iP (yj s x) 1);exact iZ6;show BT.size s-BT.size (yj s x)+iP (yj s x) 1=BT.size s-BT.size (yj s (x+1));rw[b];omega;show BT.qz (yj s (x+1));rw[b];unfold BT.qz;omega;show(yj s (x+1)).toNat<(yj s x).toNat;rw[b];omega;have h:¬0<yj s x:=jc h;have a:BT.qz (yj s x):=a;unfold BT.qz at a;have:yj s x=0:=(by omega);show(BT.size s-BT.size (yj s x),())=(BT.size s,());rw[this,BT.size_zero];simp
theorem RL:wX PR 113 RF:=vF RG Vk Tryz.func113 kcN koN
theorem Vl:RJ:=by
 rintro⟨c,j,t,⟨⟩⟩ a b d;exact⟨fun _=>a,fun _=>b,fun _=>d,rfl⟩
theorem jck {c:CrD} (h:wo c=true) {i:Nat} (hi:i<(wd c).length):((U.lv (nth (wd c) i)).length:Int)=U.la c:=by
 have:=(wU h).2.2.2.2.1 _ (L.we hi);unfold eX at this;simp only[ji,jo] at this;exact this.1.1
theorem RM:Nj:=by
 unfold Nj jg7 jis jir jhN Prod.q4;rintro⟨c,t,lev,a,b,⟨⟩⟩ f g k;have f:wo c=true:=f;have g:0<=a/\a<U.la c:=g;have k:0<=b/\b<U.la c:=k;have n:=(wU f).2.2.1;refine⟨⟨0,⟨⟨rfl,tZ⟩,tZ⟩,jp _,fun j m=>by omega⟩,fun x l _=>⟨fun h=> ?_,fun h=> ?_⟩⟩;have h:(x:Int)<(wd c).length:=ja h;have o:=jck f (i:=x) (by omega);refine⟨⟨by omega,by omega⟩,fun _=>by omega,fun _=>h,fun _=>g.1,fun _=> ?_,fun _=>by omega,fun _=>h,fun _=>k.1,fun _=> ?_,fun d=> ?_,fun d=>⟨iZ6,x+1,⟨⟨by simp,tZ⟩,tZ⟩,⟨by show x+1<=(wd c).length;omega,fun j m=> ?_⟩,by show(wd c).length-(x+1)<(wd c).length-x;omega⟩⟩;show a<((U.lv (nth (wd c) x)).length:Int);omega;show b<((U.lv (nth (wd c) x)).length:Int);omega;have d:(wD t (x:Int)&&decide (lev<=nth (U.lv (nth (wd c) x)) a.toNat)&&decide (lev<=nth (U.lv (nth (wd c) x)) b.toNat))=true:=d;have:iK c t lev a b=true:=by
  unfold iK;rw[zb];exact⟨x,jE.2 (by omega),d⟩
 show(true,())=(iK c t lev a b,());rw[this];by_cases e:j=x;subst e;exact d;exact l.2 j (by omega);have h:¬(x:Int)<(wd c).length:=jc h;have:iK c t lev a b=false:=by
  unfold iK;rw[zj];intro i hi;have hi:=jE.1 hi;have:=l.2 i (by omega);rw[zZ];exact this
 show(false,())=(iK c t lev a b,());rw[this]
theorem Nn:wX PR 150 Nh:=vF Ni RM Tryz.func150 (kcC mh kcN) koN
theorem No (J:Nat->Nat->Bool) (r a:Nat) (out:List Int) (b:Nat):(nh J r a out b).length=out.length:=by
 unfold nh
 split
 rw[zM];rfl
theorem Kh (J:Nat->Nat->Bool) (r a:Nat) (out:List Int) (k:Nat):yh J r a out (k+1)=nh J r a (yh J r a out k) k:=by
 unfold yh;rw[zg,jU];rfl
theorem Hx (J:Nat->Nat->Bool) (r a:Nat) (out:List Int):∀k,(yh J r a out k).length=out.length
 |0=>rfl
 |k+1=>by rw[Kh,No,Hx J r a out k]
theorem Ki (J:Nat->Nat->Bool) (n r:Nat) (out:List Int) (k:Nat):vJ J n r out (k+1)=yh J r k (vJ J n r out k) n:=by
 unfold vJ;rw[zg,jU];rfl
theorem Hy (J:Nat->Nat->Bool) (n r:Nat) (out:List Int):∀k,(vJ J n r out k).length=out.length
 |0=>rfl
 |k+1=>by rw[Ki,Hx,Hy J n r out k]
theorem Kj (J:Nat->Nat->Bool) (n s:Nat) (k:Nat):qB J n s (k+1)=vJ J n k (qB J n s k) n:=by
 unfold qB;rw[zg,jU];rfl
theorem Hz (J:Nat->Nat->Bool) (n s:Nat):∀k,(qB J n s k).length=n
 |0=>oZ n s
 |k+1=>by rw[Kj,Hy,Hz J n s k]
theorem X3:Vh:=by
 unfold Vh jit jhO jg8 jfS jgc jgA jeO;rintro⟨c,t,lev,s,⟨⟩⟩ j l;have j:wo c=true:=j;have l:0<=s/\s<U.la c:=l;have r:=wU j;obtain⟨J,u⟩:∃J,J=U.J3 c t lev:=⟨_,rfl⟩;refine⟨⟨0,⟨⟨rfl,tZ,tZ⟩,rfl,tZ⟩,jp _⟩,fun x i=>⟨fun h=> ?_,fun h=> ?_⟩⟩;have h:(x:Int)<U.la c:=ja h;refine⟨by simp only[za,j6,zt];omega,iZ6,x+1,⟨⟨by simp,tZ,tZ⟩,?_,tZ⟩,by show x+1<=(U.la c).toNat;omega,by show(U.la c).toNat-(x+1)<(U.la c).toNat-x;omega⟩;exact List.replicate_succ'.symm;have h:¬(x:Int)<U.la c:=jc h;have i:x<=(U.la c).toNat:=i;have f:x=(U.la c).toNat:=(by omega);subst f;refine⟨l.1,by rw[za];show s<(((U.la c).toNat:Nat):Int);omega,⟨0,⟨⟨rfl,tZ,tZ⟩,rfl,tZ⟩,jp _⟩,fun x i=>⟨fun h=>⟨⟨0,⟨⟨rfl,tZ,tZ⟩,rfl,tZ⟩,jp _⟩,fun y p=>⟨fun e=>⟨⟨0,⟨⟨rfl,tZ,tZ⟩,rfl,tZ⟩,jp _⟩,fun z q=>⟨fun g=> ?_,fun g=> ?_⟩⟩,fun e=> ?_⟩⟩,fun h=> ?_⟩⟩;have h:(x:Int)<U.la c:=ja h;have e:(y:Int)<U.la c:=ja e;have g:(z:Int)<U.la c:=ja g;have d:=Kh (U.J3 c t lev) x y (vJ (U.J3 c t lev) (U.la c).toNat x (qB (U.J3 c t lev) (U.la c).toNat s.toNat x) y) z;have b:(yh (U.J3 c t lev) x y (vJ (U.J3 c t lev) (U.la c).toNat x (qB (U.J3 c t lev) (U.la c).toNat s.toNat x) y) z).length=(U.la c).toNat:=(by rw[Hx,Hy,Hz]);have up:z+1<=(U.la c).toNat:=(by omega);have o:(U.la c).toNat-(z+1)<(U.la c).toNat-z:=(by omega);refine⟨by omega,by show(y:Int)<(yh (U.J3 c t lev) x y (vJ (U.J3 c t lev) (U.la c).toNat x (qB (U.J3 c t lev) (U.la c).toNat s.toNat x) y) z).length;rw[b];omega,fun _=>by omega,fun _=>by show(z:Int)<(yh (U.J3 c t lev) x y (vJ (U.J3 c t lev) (U.la c).toNat x (qB (U.J3 c t lev) (U.la c).toNat s.toNat x) y) z).length;rw[b];omega,fun _=>j,fun _=>⟨by omega,e⟩,fun _=>⟨by omega,g⟩,fun a=> ?_,fun a=> ?_⟩;have a:((decide (nth (yh (U.J3 c t lev) x y (vJ (U.J3 c t lev) (U.la c).toNat x (qB (U.J3 c t lev) (U.la c).toNat s.toNat x) y) z) y=(x:Int))&&decide (nth (yh (U.J3 c t lev) x y (vJ (U.J3 c t lev) (U.la c).toNat x (qB (U.J3 c t lev) (U.la c).toNat s.toNat x) y) z) z<0))&&U.J3 c t lev y z)=true:=a;simp only[ji,jo] at a;refine⟨iZ6,by omega,by show(z:Int)<(yh (U.J3 c t lev) x y (vJ (U.J3 c t lev) (U.la c).toNat x (qB (U.J3 c t lev) (U.la c).toNat s.toNat x) y) z).length;rw[b];omega,iZ6,z+1,⟨⟨tZ,by simp,tZ⟩,?_,tZ⟩,up,o⟩;show(yh (U.J3 c t lev) x y (vJ (U.J3 c t lev) (U.la c).toNat x (qB (U.J3 c t lev) (U.la c).toNat s.toNat x) y) z).set z ((x:Int)+1)=yh (U.J3 c t lev) x y (vJ (U.J3 c t lev) (U.la c).toNat x (qB (U.J3 c t lev) (U.la c).toNat s.toNat x) y) (z+1);rw[d];unfold nh;rw[je ⟨a.1.1,a.1.2,a.2⟩];have a:((decide (nth (yh (U.J3 c t lev) x y (vJ (U.J3 c t lev) (U.la c).toNat x (qB (U.J3 c t lev) (U.la c).toNat s.toNat x) y) z) y=(x:Int))&&decide (nth (yh (U.J3 c t lev) x y (vJ (U.J3 c t lev) (U.la c).toNat x (qB (U.J3 c t lev) (U.la c).toNat s.toNat x) y) z) z<0))&&U.J3 c t lev y z)=false:=a;refine⟨iZ6,z+1,⟨⟨tZ,by simp,tZ⟩,?_,tZ⟩,up,o⟩;show yh (U.J3 c t lev) x y (vJ (U.J3 c t lev) (U.la c).toNat x (qB (U.J3 c t lev) (U.la c).toNat s.toNat x) y) z=yh (U.J3 c t lev) x y (vJ (U.J3 c t lev) (U.la c).toNat x (qB (U.J3 c t lev) (U.la c).toNat s.toNat x) y) (z+1);rw[d];unfold nh;rw[jd (fun k=>by rw[jL k.1,jL k.2.1,k.2.2] at a;cases a)];have e:(y:Int)<U.la c:=ja e;have g:¬(z:Int)<U.la c:=jc g;have q:z<=(U.la c).toNat:=q;have n:z=(U.la c).toNat:=(by omega);subst n;refine⟨iZ6,y+1,⟨⟨by simp,tZ,tZ⟩,?_,tZ⟩,by show y+1<=(U.la c).toNat;omega,by show(U.la c).toNat-(y+1)<(U.la c).toNat-y;omega⟩;exact(Ki (U.J3 c t lev) (U.la c).toNat x (qB (U.J3 c t lev) (U.la c).toNat s.toNat x) y).symm;have h:(x:Int)<U.la c:=ja h;have e:¬(y:Int)<U.la c:=jc e;have p:y<=(U.la c).toNat:=p;have m:y=(U.la c).toNat:=(by omega);subst m;refine⟨iZ6,x+1,⟨⟨by simp,tZ,tZ⟩,?_,tZ⟩,by show x+1<=(U.la c).toNat;omega,by show(U.la c).toNat-(x+1)<(U.la c).toNat-x;omega⟩;exact(Kj (U.J3 c t lev) (U.la c).toNat s.toNat x).symm;have h:¬(x:Int)<U.la c:=jc h;have i:x<=(U.la c).toNat:=i;have f:x=(U.la c).toNat:=(by omega);subst f;rfl
theorem Vm:wX PR 114 Vf:=vF Vg X3 Tryz.func114 (kcC Nn kcN) koN
theorem CW (c:CrD) (j:JbD) (t:Int) (n:Nat):qj c j t (n+1)=OP c j t (qj c j t n) n:=by
 unfold qj;rw[zg,jU];rfl
theorem Kk {c:CrD} {j:JbD} {t:Int} {n:Nat} (h:wD t (n:Int)=false):qj c j t (n+1)=qj c j t n:=by
 rw[CW];unfold OP;rw[h,jd (by simp)]
theorem jaK {c:CrD} {j:JbD} {t:Int} {n:Nat} {a b d:Bool} (h:wD t (n:Int)=true) (e:ct (nth (wd c) n) (WP j)=a) (f:(!wD (U.fd (nth (wd c) n)) (OM j))=b) (g:(!wD (U.cl (nth (wd c) n)) (mB j))=d):
 qj c j t (n+1)=(Qh d (Qh b (Qh a (qj c j t n).1 1) 2) 4,(qj c j t n).2||jbv (nth (wd c) n)):=by
 rw[CW];unfold OP;rw[je h,e,f,g]
theorem jcm {c:CrD} {j:JbD} {t:Int} {a b d:Bool} (e:decide (BT.size t≠max (YL j) (jbw (cG c j)))=a) (f:(jdf (cG c j)&& !jdK c j t)=b) (g:decide (nth (mI c t (S1 (cG c j)) (Lx j)) (Ge j).toNat<0)=d):
 SL c j t=Qh d (Qh b (Qh a (jdJ c j t) 8) 16) 32:=by
 unfold SL;rw[e,f,g]
theorem Np:Kf:=by
 unfold Kf jhb jha jg9 jfE jfD jgC jfT jfC jfB jeH jgB jey Prod.q4;rintro⟨c,j,t,⟨⟩⟩ l s u;have l:wo c=true:=l;have s:wZ c j=true:=s;have u:WQ t:=u;have A:=(wU l).2.2.1;have d:=(wU l).2.2.2.1;obtain⟨q,r,f,k,_⟩:=Vj s;have p:0<=OM j/\OM j<=63:=(by omega);have i:0<=mB j/\mB j<=63:=(by omega);have y:BT.qz t:=(by unfold WQ at u;unfold BT.qz;omega);refine⟨k.1,by show mB j<((yB c).length:Int);omega,⟨0,⟨⟨rfl,rfl,rfl,tZ⟩,tZ⟩,jp _⟩,fun x w _=>⟨fun h=> ?_,fun h=> ?_⟩⟩
 .have h:(x:Int)<(wd c).length:=ja h;have up:x+1<=(wd c).length:=(by omega);have m:(wd c).length-(x+1)<(wd c).length-x:=(by omega);have i64:wn ((x:Int)+1):=iZ6;refine⟨⟨by omega,by omega⟩,fun b=> ?_,fun b=> ?_⟩
  .have b:(!wD t (x:Int))=true:=b;have e:=Kk (c:=c) (j:=j) (t:=t) (n:=x) (by simpa using b);exact⟨i64,x+1,⟨⟨jF (·.2) e.symm,jF (·.1) e.symm,by simp,tZ⟩,tZ⟩,up,m⟩
  .have b:(!wD t (x:Int))=false:=b;have b:wD t (x:Int)=true:=(by simpa using b);refine⟨by omega,h,fun o=>⟨p,fun a=>⟨i,fun d=> ?_,fun d=> ?_⟩,fun a=>⟨i,fun d=> ?_,fun d=> ?_⟩⟩,fun o=>⟨p,fun a=>⟨i,fun d=> ?_,fun d=> ?_⟩,fun a=>⟨i,fun d=> ?_,fun d=> ?_⟩⟩⟩
   all_goals
    have e:=jaK (c:=c) (j:=j) (t:=t) (n:=x) b o a d
    first
    |exact⟨i64,x+1,⟨⟨by simp,jF (·.2) e.symm,jF (·.1) e.symm,tZ⟩,tZ⟩,up,m⟩
    |exact⟨i64,x+1,⟨⟨jF (·.1) e.symm,by simp,jF (·.2) e.symm,tZ⟩,tZ⟩,up,m⟩
    |exact⟨i64,x+1,⟨⟨jF (·.2) e.symm,by simp,jF (·.1) e.symm,tZ⟩,tZ⟩,up,m⟩
    |exact⟨i64,x+1,⟨⟨jF (·.2) e.symm,jF (·.1) e.symm,by simp,tZ⟩,tZ⟩,up,m⟩
    |exact⟨i64,x+1,⟨⟨by simp,jF (·.1) e.symm,jF (·.2) e.symm,tZ⟩,tZ⟩,up,m⟩
    |exact⟨i64,x+1,⟨⟨jF (·.1) e.symm,jF (·.2) e.symm,by simp,tZ⟩,tZ⟩,up,m⟩
 .have h:¬(x:Int)<(wd c).length:=jc h;have w:x<=(wd c).length:=w;have v:x=(wd c).length:=(by omega);subst v;have g:Ge j<((mI c t (S1 (cG c j)) (Lx j)).length:Int):=by
   unfold mI;rw[Hz];omega
  refine⟨y,fun b=>⟨fun o=>⟨l,q,r.1,g,fun a=> ?_,fun a=> ?_⟩,fun o=>⟨l,q,r.1,g,fun a=> ?_,fun a=> ?_⟩⟩,fun b=>⟨fun o=>⟨l,q,r.1,g,fun a=> ?_,fun a=> ?_⟩,fun o=>⟨l,q,r.1,g,fun a=> ?_,fun a=> ?_⟩⟩⟩
  all_goals
   have e:=jcm (c:=c) (j:=j) (t:=t) b o a;exact jF (fun z=>(z,())) e.symm
theorem Kl:wX PR 79 Kd:=vF Ke Np Tryz.func79 (kcC mh (kcC F4 (kcC RL (kcC Vm kcN)))) koN
theorem RN:wX PR 49 RI:=wJ Vl Tryz.func49 (kcC Kl kcN) koN
theorem X4 (l:Int) (p:PeD):eX l p=(!(decide (((U.lv p).length:Int)≠l)|| !kX (U.fd p) 0 255|| !kX (U.cl p) 0 255||decide (10<((qT p).length:Int))|| !kX (U.fe p) 0 1000)&&((U.lv p).all (fun n=>kX n 0 5)&&(qT p).all (fun n=>kX n 0 99))):=by
 unfold eX;congr 1;rw[jX];simp only[kX,jQ,jN,jH,ze,ji,jo];omega
theorem AU (c:CrD):wo c=(!(!kX (U.la c) 2 5||decide (8<((wd c).length:Int))||decide (((yB c).length:Int)≠4))&&((wd c).all (eX (U.la c))&&(yB c).all eY)):=by
 unfold wo;congr 1;rw[jX];simp only[kX,jQ,jN,jH,ze,ji,jo];omega
theorem ut {c:CrD} {x:Nat} (a:x<(wd c).length) (h:eX (U.la c) (nth (wd c) x)=false):wo c=false:=by
 have:(wd c).all (eX (U.la c))=false:=zU.2 ⟨_,L.we a,by rw[h];simp⟩;rw[AU,this];simp
theorem RO {c:CrD} {x:Nat} (a:x<(yB c).length) (h:eY (nth (yB c) x)=false):wo c=false:=by
 have:(yB c).all eY=false:=zU.2 ⟨_,L.we a,by rw[h];simp⟩;rw[AU,this];simp
theorem io {α:Type} [Inhabited α] {l:List α} {p:α->Bool} {x:Nat} (c:¬x<l.length) (h:∀j:Nat,j<x->p (nth l j)=true):l.all p=true:=by
 rw[jT];intro a b;obtain⟨i,hi,rfl⟩:=L.mem_iff.1 b;exact h i (by omega)
theorem mj {c:CrD} (h:wo c=false):(false,())=(wo c,()):=by rw[h]
theorem Nq:Kc:=by
 unfold Kc jiq jg6 jip jgz jfA jgy jio jg5 jgx jeA Prod.q4;rintro⟨c,⟨⟩⟩ _ _;refine⟨fun h=> ?_,fun h=> ?_⟩;have h:(!kX (U.la c) 2 5||decide (8<((wd c).length:Int))||decide (((yB c).length:Int)≠4))=true:=h;refine mj (c:=c) ?_;rw[AU,h];rfl;have B:(!kX (U.la c) 2 5||decide (8<((wd c).length:Int))||decide (((yB c).length:Int)≠4))=false:=h;clear h;refine⟨⟨0,⟨⟨rfl,tZ⟩,tZ⟩,jp _,fun j k=>by omega⟩,fun x s r=>⟨fun h=> ?_,fun h=> ?_⟩⟩;have r:(wd c).length<4611686018427387904:=r;have h:(x:Int)<(wd c).length:=ja h;have m:x<(wd c).length:=(by omega);refine⟨by omega,h,fun _ _=>⟨fun g=> ?_,fun g=> ?_⟩⟩;have g:(decide (((U.lv (nth (wd c) x)).length:Int)≠U.la c)|| !kX (U.fd (nth (wd c) x)) 0 255|| !kX (U.cl (nth (wd c) x)) 0 255||decide (10<((qT (nth (wd c) x)).length:Int))|| !kX (U.fe (nth (wd c) x)) 0 1000)=true:=g;refine mj (c:=c) (ut m ?_);rw[X4,g];rfl;have g:(decide (((U.lv (nth (wd c) x)).length:Int)≠U.la c)|| !kX (U.fd (nth (wd c) x)) 0 255|| !kX (U.cl (nth (wd c) x)) 0 255||decide (10<((qT (nth (wd c) x)).length:Int))|| !kX (U.fe (nth (wd c) x)) 0 1000)=false:=g;refine⟨⟨0,⟨⟨rfl,tZ⟩,tZ⟩,jp _,fun j k=>by omega⟩,fun y q d=>⟨fun b=> ?_,fun b=> ?_⟩⟩;have d:(U.lv (nth (wd c) x)).length<4611686018427387904:=d;have b:(y:Int)<(U.lv (nth (wd c) x)).length:=ja b;refine⟨by omega,b,fun a=> ?_,fun a=>⟨iZ6,y+1,⟨⟨by simp,tZ⟩,tZ⟩,⟨by show y+1<=(U.lv (nth (wd c) x)).length;omega,fun j k=> ?_⟩,by show(U.lv (nth (wd c) x)).length-(y+1)<(U.lv (nth (wd c) x)).length-y;omega⟩⟩;have a:(!kX (nth (U.lv (nth (wd c) x)) y) 0 5)=true:=a;have a:kX (nth (U.lv (nth (wd c) x)) y) 0 5=false:=(by simpa using a);refine mj (c:=c) (ut m ?_);have:(U.lv (nth (wd c) x)).all (fun n=>kX n 0 5)=false:=zU.2 ⟨_,L.we (l:=U.lv (nth (wd c) x)) (i:=y) (by omega),by rw[a];simp⟩;rw[X4,this];simp;have a:(!kX (nth (U.lv (nth (wd c) x)) y) 0 5)=false:=a;by_cases e:j=y;subst e;exact(show kX (nth (U.lv (nth (wd c) x)) j) 0 5=true by simpa using a);exact q.2 j (by omega);have b:¬(y:Int)<(U.lv (nth (wd c) x)).length:=jc b;have u:(U.lv (nth (wd c) x)).all (fun n=>kX n 0 5)=true:=io (by omega) q.2;refine⟨⟨0,⟨⟨rfl,tZ⟩,tZ⟩,jp _,fun j k=>by omega⟩,fun z t o=>⟨fun a=> ?_,fun a=> ?_⟩⟩;have o:(qT (nth (wd c) x)).length<4611686018427387904:=o;have a:(z:Int)<(qT (nth (wd c) x)).length:=ja a;refine⟨by omega,a,fun f=> ?_,fun f=>⟨iZ6,z+1,⟨⟨by simp,tZ⟩,tZ⟩,⟨by show z+1<=(qT (nth (wd c) x)).length;omega,fun j k=> ?_⟩,by show(qT (nth (wd c) x)).length-(z+1)<(qT (nth (wd c) x)).length-z;omega⟩⟩;have f:(!kX (nth (qT (nth (wd c) x)) z) 0 99)=true:=f;have f:kX (nth (qT (nth (wd c) x)) z) 0 99=false:=(by simpa using f);refine mj (c:=c) (ut m ?_);have:(qT (nth (wd c) x)).all (fun n=>kX n 0 99)=false:=zU.2 ⟨_,L.we (l:=qT (nth (wd c) x)) (i:=z) (by omega),by rw[f];simp⟩;rw[X4,this];simp;have f:(!kX (nth (qT (nth (wd c) x)) z) 0 99)=false:=f;by_cases e:j=z;subst e;exact(show kX (nth (qT (nth (wd c) x)) j) 0 99=true by simpa using f);exact t.2 j (by omega);have a:¬(z:Int)<(qT (nth (wd c) x)).length:=jc a;have v:(qT (nth (wd c) x)).all (fun n=>kX n 0 99)=true:=io (by omega) t.2;refine⟨iZ6,x+1,⟨⟨by simp,tZ⟩,tZ⟩,⟨by show x+1<=(wd c).length;omega,fun j k=> ?_⟩,by show(wd c).length-(x+1)<(wd c).length-x;omega⟩;by_cases e:j=x;subst e;show eX (U.la c) (nth (wd c) j)=true;rw[X4,g,u,v];rfl;exact s.2 j (by omega);have h:¬(x:Int)<(wd c).length:=jc h;have A:(wd c).all (eX (U.la c))=true:=io (by omega) s.2;refine⟨⟨0,⟨⟨rfl,tZ⟩,tZ⟩,jp _,fun j k=>by omega⟩,fun y q d=>⟨fun b=> ?_,fun b=> ?_⟩⟩;have d:(yB c).length<4611686018427387904:=d;have b:(y:Int)<(yB c).length:=ja b;have p:eY (nth (yB c) y)= !(!kX (S1 (nth (yB c) y)) 1 5|| !kX (jbw (nth (yB c) y)) 1 8):=by
  unfold eY;rw[Bool.not_or,Bool.not_not,Bool.not_not]
 refine⟨by omega,b,fun _=>by omega,fun _=>b,fun a=> ?_,fun a=>⟨iZ6,y+1,⟨⟨by simp,tZ⟩,tZ⟩,⟨by show y+1<=(yB c).length;omega,fun j k=> ?_⟩,by show(yB c).length-(y+1)<(yB c).length-y;omega⟩⟩;have a:(!kX (S1 (nth (yB c) y)) 1 5|| !kX (jbw (nth (yB c) y)) 1 8)=true:=a;exact mj (c:=c) (RO (x:=y) (by omega) (by rw[p,a];rfl));have a:(!kX (S1 (nth (yB c) y)) 1 5|| !kX (jbw (nth (yB c) y)) 1 8)=false:=a;by_cases e:j=y;subst e;show eY (nth (yB c) j)=true;rw[p,a];rfl;exact q.2 j (by omega);have b:¬(y:Int)<(yB c).length:=jc b;have w:(yB c).all eY=true:=io (by omega) q.2;show(true,())=(wo c,());rw[AU,B,A,w];rfl
theorem xf:wX PR 91 Ka:=vF Kb Nq Tryz.func91 (kcC xe kcN) koN
namespace U
def yN (l:List ShD) (i k:Nat) (id:Int):Bool:=decide (yY (nth l i)=id)&& !((l.take k).any (fun x=>decide (x=nth l i)))
end U
def Km:wO:=⟨[.val .int,.val .int,.val .int],[.bool],false,fun _=>[],fun d=>(kX d.1 d.2.1 d.2.2.1,())⟩
def Kn:Prop:=∀(d:Int×Int×Int×Unit),(decide (d.2.1<=d.1)&&decide (d.1<=d.2.2.1),())=(kX d.1 d.2.1 d.2.2.1,())
def CX:wO:=⟨[.val tDy,.val .int],[.bool],false,fun _=>[],fun d=>(Wz d.1 d.2.1,())⟩
def CY:Prop:=∀(d:DyD×Int×Unit),d.1.2.2.1.length<4611686018427387904->wn ((d.1.2.2.1.length:Int)-1)/\(kX d.2.1 (0:Int) ((d.1.2.2.1.length:Int)-1),())=(Wz d.1 d.2.1,())
def En:wO:=⟨[.val tDy,.val .int],[.bool],false,fun _=>[],fun d=>(Lj d.1 d.2.1,())⟩
def Eo:Prop:=∀(d:DyD×Int×Unit),d.1.1.2.1.length<4611686018427387904->wn ((d.1.1.2.1.length:Int)-1)/\(kX d.2.1 (0:Int) ((d.1.1.2.1.length:Int)-1),())=(Lj d.1 d.2.1,())
def Nr:wO:=⟨[.val tDy],[.bool],false,fun _=>[],fun d=>(qn d.1,())⟩
def Ns:Ann:=fun r=>match r with
 |4=>some fun σ=>{X:=Nat,sl:=fun i=>[(3,.dat .int (i:Int))],ob:=fun _=>[],inv:=fun i=>i<=(wY (gb tDy σ 1)).length/\∀j:Nat,j<i->cq (wY (gb tDy σ 1)).length (nth (wY (gb tDy σ 1)) j)=true,mu:=fun i=>(wY (gb tDy σ 1)).length-i}
 |9=>some fun σ=>{X:=Nat,sl:=fun i=>[(4,.dat .int (i:Int))],ob:=fun _=>[],inv:=fun i=>i<=(nth (wY (gb tDy σ 1)) (gd .int σ 3).toNat).length/\∀j:Nat,j<i->sZ (nth (nth (wY (gb tDy σ 1)) (gd .int σ 3).toNat) j)=true,mu:=fun i=>(nth (wY (gb tDy σ 1)) (gd .int σ 3).toNat).length-i}
 |15=>some fun σ=>{X:=Nat,sl:=fun i=>[(6,.dat .int (i:Int))],ob:=fun _=>[],inv:=fun i=>i<=(wm (gb tDy σ 1)).length/\∀j:Nat,j<i->mC (wY (gb tDy σ 1)).length (nth (wm (gb tDy σ 1)) j)=true,mu:=fun i=>(wm (gb tDy σ 1)).length-i}
 |21=>some fun σ=>{X:=Nat,sl:=fun i=>[(8,.dat .int (i:Int))],ob:=fun _=>[],inv:=fun i=>i<=(w4 (gb tDy σ 1)).length/\∀j:Nat,j<i->mD (wm (gb tDy σ 1)).length (wd (wj (gb tDy σ 1))).length (nth (w4 (gb tDy σ 1)) j)=true,mu:=fun i=>(w4 (gb tDy σ 1)).length-i}
 |_=>none
abbrev jgd (d:DyD×Unit)(x:Nat):=(nth d.1.2.1 (x:Int).toNat)
abbrev jiu (d:DyD×Unit)(x:Nat)(a:Nat):=(decide ((nth (jgd d x) (a:Int).toNat).1<0)||decide ((nth (jgd d x) (a:Int).toNat).2.1<(nth (jgd d x) (a:Int).toNat).1)||decide ((300:Int)<(nth (jgd d x) (a:Int).toNat).2.1))
abbrev jfF (d:DyD×Unit)(x:Nat):=(nth (wY d.1) (x:Int).toNat)
abbrev je6 (d:DyD×Unit):=(d.1.2.1.length:Int)
abbrev jgD (d:DyD×Unit)(x:Nat):=(nth d.1.q4.2.1 (x:Int).toNat)
abbrev jiv (d:DyD×Unit)(x:Nat):=(!kX (jgD d x).1 (0:Int) (99:Int)|| !kX (jgD d x).2.1 (0:Int) (9999:Int)|| !kX (jgD d x).2.2.1 (1:Int) (2:Int)|| !Wz d.1 (jgD d x).2.2.2.1|| !Lj d.1 (jgD d x).q4.1)
abbrev jge (d:DyD×Unit):=(d.1.2.2.1.length:Int)
abbrev jhP (x:Nat)(a:Nat):=(((x:Int)+1=(a:Int)/\True)/\True)
abbrev jgE (d:DyD×Unit)(x:Nat):=(nth d.1.2.2.1 (x:Int).toNat)
abbrev jiw (d:DyD×Unit)(x:Nat):=(!kX (jgE d x).2.1 (0:Int) ((je6 d)-1)||decide ((jgE d x).2.2.1<0)||decide ((jgE d x).2.2.2.1<=(jgE d x).2.2.1)||decide ((1440:Int)<(jgE d x).2.2.2.1))
abbrev jgF (d:DyD×Unit)(x:Nat):=(↑(jgd d x).length:Int)
abbrev jhc (d:DyD×Unit):=(d.1.q4.2.1.length:Int)
abbrev jix (d:DyD×Unit):=(decide (4<(jge d))|| !kX (je6 d) (1:Int) (5:Int)|| !kX d.1.2.2.2.1 (0:Int) (300:Int)|| !kX d.1.q4.1 (0:Int) (1440:Int)||decide (30<(jhc d)))
abbrev jhQ (x:Nat):=((0=(x:Int)/\True)/\True)
def Nt:Prop:=∀(d:DyD×Unit),d.1.2.2.1.length<4611686018427387904->((!decide (4<(jge d)))=true->d.1.2.1.length<4611686018427387904)->((!(decide (4<(jge d))|| !kX (je6 d) (1:Int) (5:Int)|| !kX d.1.2.2.2.1 (0:Int) (300:Int)|| !kX d.1.q4.1 (0:Int) (1440:Int)))=true->d.1.q4.2.1.length<4611686018427387904)->((jix d)=true->(false,())=(qn d.1,()))/\((jix d)=false->(∃(x:Nat),(jhQ x)/\x<=(wY d.1).length/\∀(j:Nat),j<x->cq (wY d.1).length (nth (wY d.1) j)=true)/\∀(x:Nat),(x<=(wY d.1).length/\∀(j:Nat),j<x->cq (wY d.1).length (nth (wY d.1) j)=true)->d.1.2.1.length<4611686018427387904->(decide ((x:Int)<(je6 d))=true->0<=(x:Int)/\(x:Int)<(je6 d)/\(decide ((jgF d x)≠(je6 d))=true->(false,())=(qn d.1,()))/\(decide ((jgF d x)≠(je6 d))=false->(∃(a:Nat),((0=(a:Int)/\True)/\True)/\a<=(jfF d x).length/\∀(j:Nat),j<a->sZ (nth (jfF d x) j)=true)/\∀(a:Nat),(a<=(jfF d x).length/\∀(j:Nat),j<a->sZ (nth (jfF d x) j)=true)->0<=(x:Int)/\(x:Int)<(je6 d)/\((jgd d x).length<4611686018427387904->(decide ((a:Int)<(jgF d x))=true->0<=(x:Int)/\(x:Int)<(je6 d)/\0<=(a:Int)/\(a:Int)<(jgF d x)/\((jiu d x a)=true->(false,())=(qn d.1,()))/\((jiu d x a)=false->wn ((a:Int)+1)/\∃(b:Nat),(((a:Int)+1=(b:Int)/\True)/\True)/\(b<=(jfF d x).length/\∀(j:Nat),j<b->sZ (nth (jfF d x) j)=true)/\(jfF d x).length-b<(jfF d x).length-a))/\(decide ((a:Int)<(jgF d x))=false->wn ((x:Int)+1)/\∃(b:Nat),(jhP x b)/\(b<=(wY d.1).length/\∀(j:Nat),j<b->cq (wY d.1).length (nth (wY d.1) j)=true)/\(wY d.1).length-b<(wY d.1).length-x))))/\(decide ((x:Int)<(je6 d))=false->(∃(x:Nat),(jhQ x)/\x<=(wm d.1).length/\∀(j:Nat),j<x->mC (wY d.1).length (nth (wm d.1) j)=true)/\∀(x:Nat),(x<=(wm d.1).length/\∀(j:Nat),j<x->mC (wY d.1).length (nth (wm d.1) j)=true)->d.1.2.2.1.length<4611686018427387904->(decide ((x:Int)<(jge d))=true->0<=(x:Int)/\(x:Int)<(jge d)/\(d.1.2.1.length<4611686018427387904->wn ((je6 d)-1)/\((jiw d x)=true->(false,())=(qn d.1,()))/\((jiw d x)=false->wn ((x:Int)+1)/\∃(b:Nat),(jhP x b)/\(b<=(wm d.1).length/\∀(j:Nat),j<b->mC (wY d.1).length (nth (wm d.1) j)=true)/\(wm d.1).length-b<(wm d.1).length-x)))/\(decide ((x:Int)<(jge d))=false->(∃(x:Nat),(jhQ x)/\x<=(w4 d.1).length/\∀(j:Nat),j<x->mD (wm d.1).length (wd (wj d.1)).length (nth (w4 d.1) j)=true)/\∀(x:Nat),(x<=(w4 d.1).length/\∀(j:Nat),j<x->mD (wm d.1).length (wd (wj d.1)).length (nth (w4 d.1) j)=true)->d.1.q4.2.1.length<4611686018427387904->(decide ((x:Int)<(jhc d))=true->0<=(x:Int)/\(x:Int)<(jhc d)/\((jiv d x)=true->(false,())=(qn d.1,()))/\((jiv d x)=false->wn ((x:Int)+1)/\∃(b:Nat),(jhP x b)/\(b<=(w4 d.1).length/\∀(j:Nat),j<b->mD (wm d.1).length (wd (wj d.1)).length (nth (w4 d.1) j)=true)/\(w4 d.1).length-b<(w4 d.1).length-x))/\(decide ((x:Int)<(jhc d))=false->(true,())=(qn d.1,())))))
def Nu:wO:=⟨[.val (.slice tSh)],[.bool],false,fun d=>[d.1.length<=1000000],fun d=>(bD d.1,())⟩
def Nv:Ann:=fun r=>match r with
 |2=>some fun σ=>{X:=Nat,sl:=fun i=>[(3,.dat .int (i:Int))],ob:=fun _=>[],inv:=fun i=>i<=(gd (.slice tSh) σ 0).length/\aa (gd (.slice tSh) σ 0) i=false,mu:=fun i=>(gd (.slice tSh) σ 0).length-i}
 |5=>some fun σ=>{X:=Nat,sl:=fun i=>[(4,.dat .int (i:Int))],ob:=fun _=>[],inv:=fun i=>i<=(gd .int σ 3).toNat/\∀j:Nat,j<i->DF (nth (gd (.slice tSh) σ 0) (gd .int σ 3).toNat) (nth (gd (.slice tSh) σ 0) j)=false,mu:=fun i=>(gd .int σ 3).toNat-i}
 |_=>none
abbrev jgf (d:List ShD×Unit)(x:Nat)(a:Nat):=((nth d.1 (x:Int).toNat).1=(nth d.1 (a:Int).toNat).1)
def Nw:Prop:=∀(d:List ShD×Unit),d.1.length<=1000000->(∃(x:Nat),((0=(x:Int)/\True)/\True)/\x<=d.1.length/\aa d.1 x=false)/\∀(x:Nat),x<=d.1.length/\aa d.1 x=false->d.1.length<4611686018427387904->(decide ((x:Int)<d.1.length)=true->(∃(a:Nat),((0=(a:Int)/\True)/\True)/\a<=(x:Int).toNat/\∀(j:Nat),j<a->DF (nth d.1 (x:Int).toNat) (nth d.1 j)=false)/\∀(a:Nat),(a<=(x:Int).toNat/\∀(j:Nat),j<a->DF (nth d.1 (x:Int).toNat) (nth d.1 j)=false)->(decide ((a:Int)<(x:Int))=true->0<=(x:Int)/\(x:Int)<d.1.length/\0<=(a:Int)/\(a:Int)<d.1.length/\(decide (jgf d x a)=true->0<=(x:Int))/\(decide (jgf d x a)=true->(x:Int)<d.1.length)/\(decide (jgf d x a)=true->0<=(a:Int))/\(decide (jgf d x a)=true->(a:Int)<d.1.length)/\((decide (jgf d x a)&& !decide (nth d.1 (x:Int).toNat=nth d.1 (a:Int).toNat))=true->(true,())=(bD d.1,()))/\((decide (jgf d x a)&& !decide (nth d.1 (x:Int).toNat=nth d.1 (a:Int).toNat))=false->wn ((a:Int)+1)/\∃(b:Nat),(((a:Int)+1=(b:Int)/\True)/\True)/\(b<=(x:Int).toNat/\∀(j:Nat),j<b->DF (nth d.1 (x:Int).toNat) (nth d.1 j)=false)/\(x:Int).toNat-b<(x:Int).toNat-a))/\(decide ((a:Int)<(x:Int))=false->wn ((x:Int)+1)/\∃(b:Nat),(((x:Int)+1=(b:Int)/\True)/\True)/\(b<=d.1.length/\aa d.1 b=false)/\d.1.length-b<d.1.length-x))/\(decide ((x:Int)<d.1.length)=false->(false,())=(bD d.1,()))
def Nx:wO:=⟨[.val tDy],[.int],false,fun d=>[(wm d.1).length<=1000000],fun d=>(gQ d.1,())⟩
def Ny:Ann:=fun r=>match r with
 |4=>some fun σ=>{X:=Nat,sl:=fun i=>[(3,.dat .int (i:Int))],ob:=fun _=>[],inv:=fun i=>i<=(wm (gb tDy σ 1)).length/\∀j:Nat,j<i->wZ (wj (gb tDy σ 1)) (gN (nth (wm (gb tDy σ 1)) j))=true,mu:=fun i=>(wm (gb tDy σ 1)).length-i}
 |_=>none
def Nz:Prop:=∀(d:DyD×Unit),(wm d.1).length<=1000000->((!wo d.1.1)=true->((30:Int),())=(gQ d.1,()))/\((!wo d.1.1)=false->(∃(x:Nat),((0=(x:Int)/\True)/\True)/\x<=(wm d.1).length/\∀(j:Nat),j<x->wZ (wj d.1) (gN (nth (wm d.1) j))=true)/\∀(x:Nat),(x<=(wm d.1).length/\∀(j:Nat),j<x->wZ (wj d.1) (gN (nth (wm d.1) j))=true)->d.1.2.2.1.length<4611686018427387904->(decide ((x:Int)<d.1.2.2.1.length)=true->0<=(x:Int)/\(x:Int)<d.1.2.2.1.length/\wo d.1.1=true/\((!wZ d.1.1 (nth d.1.2.2.1 (x:Int).toNat).1)=true->((31:Int),())=(gQ d.1,()))/\((!wZ d.1.1 (nth d.1.2.2.1 (x:Int).toNat).1)=false->wn ((x:Int)+1)/\∃(a:Nat),(((x:Int)+1=(a:Int)/\True)/\True)/\(a<=(wm d.1).length/\∀(j:Nat),j<a->wZ (wj d.1) (gN (nth (wm d.1) j))=true)/\(wm d.1).length-a<(wm d.1).length-x))/\(decide ((x:Int)<d.1.2.2.1.length)=false->((!qn d.1)=true->((50:Int),())=(gQ d.1,()))/\((!qn d.1)=false->d.1.q4.2.1.length<=1000000/\(bD d.1.q4.2.1=true->((51:Int),())=(gQ d.1,()))/\(bD d.1.q4.2.1=false->((0:Int),())=(gQ d.1,())))))
def NA:wO:=⟨[.val tSh,.val tSh],[.bool],false,fun _=>[],fun d=>(qN d.1 d.2.1,())⟩
def NB:Prop:=∀(d:ShD×ShD×Unit),(decide (d.2.1.2.1<d.1.2.1)||decide (d.1.2.1=d.2.1.2.1)&&decide (d.2.1.1<d.1.1),())=(qN d.1 d.2.1,())
def Ep:wO:=⟨[.val tDy,.val .int,.val .int],[.bool],false,fun d=>[E2 d.1,gR d.1 d.2.1,gR d.1 d.2.2.1],fun d=>(wV d.1 d.2.1 d.2.2.1,())⟩
abbrev jeP (d:DyD×Int×Int×Unit):=(nth d.1.2.2.1 d.2.2.1.toNat)
abbrev jeQ (d:DyD×Int×Int×Unit):=(nth d.1.2.2.1 d.2.1.toNat)
abbrev jgG (d:DyD×Int×Int×Unit):=((jeP d).2.2.1<(jeQ d).2.2.1)
abbrev jfG (d:DyD×Int×Int×Unit):=(d.1.2.2.1.length:Int)
abbrev jiy (d:DyD×Int×Int×Unit):=(decide (jgG d)||decide ((jeP d).2.2.1=(jeQ d).2.2.1)&&decide (d.2.2.1<d.2.1))
def Er:Prop:=∀(d:DyD×Int×Int×Unit),E2 d.1->gR d.1 d.2.1->gR d.1 d.2.2.1->0<=d.2.2.1/\d.2.2.1<(jfG d)/\0<=d.2.1/\d.2.1<(jfG d)/\((!decide (jgG d))=true->0<=d.2.2.1)/\((!decide (jgG d))=true->d.2.2.1<(jfG d))/\((!decide (jgG d))=true->0<=d.2.1)/\((!decide (jgG d))=true->d.2.1<(jfG d))/\((jiy d)=true->0<=d.2.2.1/\d.2.2.1<(jfG d)/\0<=d.2.1/\d.2.1<(jfG d)/\wn ((jeP d).2.2.2.1+d.1.2.2.2.1)/\(0:Int)<=(jeP d).2.1/\(jeP d).2.1<(d.1.2.1.length:Int)/\(0:Int)<=(jeQ d).2.1/\(jeQ d).2.1<(↑(nth d.1.2.1 (jeP d).2.1.toNat).length:Int)/\wn ((jeP d).2.2.2.1+d.1.2.2.2.1+(nth (nth d.1.2.1 (jeP d).2.1.toNat) (jeQ d).2.1.toNat).2.1)/\(decide ((jeP d).2.2.2.1+d.1.2.2.2.1+(nth (nth d.1.2.1 (jeP d).2.1.toNat) (jeQ d).2.1.toNat).2.1<=(jeQ d).2.2.1),())=(wV d.1 d.2.1 d.2.2.1,()))/\((jiy d)=false->0<=d.2.1/\d.2.1<(jfG d)/\0<=d.2.2.1/\d.2.2.1<(jfG d)/\wn ((jeQ d).2.2.2.1+d.1.2.2.2.1)/\(0:Int)<=(jeQ d).2.1/\(jeQ d).2.1<(d.1.2.1.length:Int)/\(0:Int)<=(jeP d).2.1/\(jeP d).2.1<(↑(nth d.1.2.1 (jeQ d).2.1.toNat).length:Int)/\wn ((jeQ d).2.2.2.1+d.1.2.2.2.1+(nth (nth d.1.2.1 (jeQ d).2.1.toNat) (jeP d).2.1.toNat).2.1)/\(decide ((jeQ d).2.2.2.1+d.1.2.2.2.1+(nth (nth d.1.2.1 (jeQ d).2.1.toNat) (jeP d).2.1.toNat).2.1<=(jeP d).2.2.1),())=(wV d.1 d.2.1 d.2.2.1,()))
def NC:wO:=⟨[.val tDy,.val .int,.val (.slice .int)],[.bool],false,fun d=>[E2 d.1,Lz d.1 d.2.1,DH d.1 d.2.2.1],fun d=>(yU d.1 d.2.1 d.2.2.1,())⟩
def ND:Ann:=fun r=>match r with
 |3=>some fun σ=>{X:=Nat,sl:=fun i=>[(8,.dat .int (i:Int)),(7,.dat .int (vC (gb tDy σ 3) (gd (.slice .int) σ 2) i))],ob:=fun _=>[],inv:=fun i=>i<=(gd (.slice .int) σ 2).length/\(∀j:Nat,j<i->qy (wj (gb tDy σ 3)) (gN (U.bk (gb tDy σ 3) (nth (gd (.slice .int) σ 2) j))) (gd .int σ 1)=true)/\∀j:Nat,j<i->∀m:Nat,m<j->wV (gb tDy σ 3) (nth (gd (.slice .int) σ 2) j) (nth (gd (.slice .int) σ 2) m)=true,mu:=fun i=>(gd (.slice .int) σ 2).length-i}
 |10=>some fun σ=>{X:=Nat,sl:=fun i=>[(10,.dat .int (i:Int))],ob:=fun _=>[],inv:=fun i=>i<=(gd .int σ 8).toNat/\∀m:Nat,m<i->wV (gb tDy σ 3) (nth (gd (.slice .int) σ 2) (gd .int σ 8).toNat) (nth (gd (.slice .int) σ 2) m)=true,mu:=fun i=>(gd .int σ 8).toNat-i}
 |_=>none
abbrev jfU (d:DyD×Int×List Int×Unit)(x:Nat):=(nth d.2.2.1 (x:Int).toNat)
abbrev jfo (d:DyD×Int×List Int×Unit)(x:Nat):=(nth d.1.2.2.1 (jfU d x).toNat)
abbrev jiz (x:Nat)(d:DyD×Int×List Int×Unit):=(∀(j:Nat),j<x->qy (wj d.1) (gN (U.bk d.1 (nth d.2.2.1 j))) d.2.1=true)
def NE:Prop:=∀(d:DyD×Int×List Int×Unit),E2 d.1->Lz d.1 d.2.1->DH d.1 d.2.2.1->(∃(x:Nat),((0=(x:Int)/\0=vC d.1 d.2.2.1 x/\True)/\True)/\x<=d.2.2.1.length/\(jiz x d)/\∀(j:Nat),j<x->∀(m:Nat),m<j->wV d.1 (nth d.2.2.1 j) (nth d.2.2.1 m)=true)/\∀(x:Nat),(x<=d.2.2.1.length/\(jiz x d)/\∀(j:Nat),j<x->∀(m:Nat),m<j->wV d.1 (nth d.2.2.1 j) (nth d.2.2.1 m)=true)->d.2.2.1.length<4611686018427387904->(decide ((x:Int)<d.2.2.1.length)=true->0<=(x:Int)/\(x:Int)<d.2.2.1.length/\0<=nth d.2.2.1 (x:Int).toNat/\nth d.2.2.1 (x:Int).toNat<(d.1.2.2.1.length:Int)/\(0<=d.2.1/\d.2.1<(↑(wd d.1.1).length:Int))/\wZ d.1.1 (jfo d x).1=true/\((!qy d.1.1 (jfo d x).1 d.2.1)=true->(false,())=(yU d.1 d.2.1 d.2.2.1,()))/\((!qy d.1.1 (jfo d x).1 d.2.1)=false->wn ((jfo d x).2.2.2.1-(jfo d x).2.2.1)/\wn (vC d.1 d.2.2.1 x+((jfo d x).2.2.2.1-(jfo d x).2.2.1))/\(∃(a:Nat),((0=(a:Int)/\True)/\True)/\a<=(x:Int).toNat/\∀(m:Nat),m<a->wV d.1 (jfU d x) (nth d.2.2.1 m)=true)/\∀(a:Nat),(a<=(x:Int).toNat/\∀(m:Nat),m<a->wV d.1 (jfU d x) (nth d.2.2.1 m)=true)->(decide ((a:Int)<(x:Int))=true->0<=(x:Int)/\(x:Int)<d.2.2.1.length/\0<=(a:Int)/\(a:Int)<d.2.2.1.length/\E2 d.1/\gR d.1 (jfU d x)/\gR d.1 (nth d.2.2.1 (a:Int).toNat)/\((!wV d.1 (jfU d x) (nth d.2.2.1 (a:Int).toNat))=true->(false,())=(yU d.1 d.2.1 d.2.2.1,()))/\((!wV d.1 (jfU d x) (nth d.2.2.1 (a:Int).toNat))=false->wn ((a:Int)+1)/\∃(b:Nat),(((a:Int)+1=(b:Int)/\True)/\True)/\(b<=(x:Int).toNat/\∀(m:Nat),m<b->wV d.1 (jfU d x) (nth d.2.2.1 m)=true)/\(x:Int).toNat-b<(x:Int).toNat-a))/\(decide ((a:Int)<(x:Int))=false->wn ((x:Int)+1)/\∃(b:Nat),(((x:Int)+1=(b:Int)/\vC d.1 d.2.2.1 x+((jfo d x).2.2.2.1-(jfo d x).2.2.1)=vC d.1 d.2.2.1 b/\True)/\True)/\(b<=d.2.2.1.length/\(∀(j:Nat),j<b->qy (wj d.1) (gN (U.bk d.1 (nth d.2.2.1 j))) d.2.1=true)/\∀(j:Nat),j<b->∀(m:Nat),m<j->wV d.1 (nth d.2.2.1 j) (nth d.2.2.1 m)=true)/\d.2.2.1.length-b<d.2.2.1.length-x)))/\(decide ((x:Int)<d.2.2.1.length)=false->(decide (vC d.1 d.2.2.1 x<=d.1.q4.1),())=(yU d.1 d.2.1 d.2.2.1,()))
def Es:wO:=⟨[.val (.slice tSh)],[.slice tSh],false,fun d=>[d.1.length<=1000],fun d=>(wb d.1,())⟩
def Et:Ann:=fun r=>match r with
 |3=>some fun σ=>{X:=Nat,sl:=fun i=>[(4,.dat .int (i:Int)),(3,.own 3 tSh)],ob:=fun i=>[(3,some (.row 134 tSh false .yes (vB (gd (.slice tSh) σ 0) i)))],inv:=fun i=>i<=100,mu:=fun i=>100-i}
 |6=>some fun σ=>{X:=Nat,sl:=fun i=>[(5,.dat .int (i:Int)),(3,.own 3 tSh)],ob:=fun i=>[(3,some (.row 134 tSh false .yes (gr tSh σ 3++cr (gd (.slice tSh) σ 0) i (gd .int σ 4).toNat)))],inv:=fun i=>i<=(gd (.slice tSh) σ 0).length,mu:=fun i=>(gd (.slice tSh) σ 0).length-i}
 |10=>some fun σ=>{X:=Nat,sl:=fun k=>[(7,.dat .int (k:Int)),(6,.dat .bool (yN (gd (.slice tSh) σ 0) (gd .int σ 5).toNat k (gd .int σ 4)))],ob:=fun _=>[],inv:=fun k=>k<=(gd .int σ 5).toNat,mu:=fun k=>(gd .int σ 5).toNat-k}
 |_=>none
def Eu:Prop:=∀(d:List ShD×Unit),d.1.length<=1000->(∃(x:Nat),((0=(x:Int)/\True/\True)/\vB d.1 x=[]/\True)/\x<=100)/\∀(x:Nat),x<=100->(decide ((x:Int)<=99)=true->(∃(a:Nat),((0=(a:Int)/\True/\True)/\vB d.1 x=vB d.1 x++cr d.1 a (x:Int).toNat/\True)/\a<=d.1.length)/\∀(a:Nat),a<=d.1.length->d.1.length<4611686018427387904->(decide ((a:Int)<d.1.length)=true->0<=(a:Int)/\(a:Int)<d.1.length/\(∃(b:Nat),((0=(b:Int)/\decide ((nth d.1 (a:Int).toNat).1=(x:Int))=yN d.1 (a:Int).toNat b (x:Int)/\True)/\True)/\b<=(a:Int).toNat)/\∀(b:Nat),b<=(a:Int).toNat->(decide ((b:Int)<(a:Int))=true->(yN d.1 (a:Int).toNat b (x:Int)=true->0<=(b:Int))/\(yN d.1 (a:Int).toNat b (x:Int)=true->(b:Int)<d.1.length)/\(yN d.1 (a:Int).toNat b (x:Int)=true->0<=(a:Int))/\(yN d.1 (a:Int).toNat b (x:Int)=true->(a:Int)<d.1.length)/\wn ((b:Int)+1)/\∃(c:Nat),(((b:Int)+1=(c:Int)/\(yN d.1 (a:Int).toNat b (x:Int)&& !decide (nth d.1 (b:Int).toNat=nth d.1 (a:Int).toNat))=yN d.1 (a:Int).toNat c (x:Int)/\True)/\True)/\c<=(a:Int).toNat/\(a:Int).toNat-c<(a:Int).toNat-b)/\(decide ((b:Int)<(a:Int))=false->(yN d.1 (a:Int).toNat b (x:Int)=true->0<=(a:Int)/\(a:Int)<d.1.length/\((vB d.1 x++cr d.1 a (x:Int).toNat).length+[nth d.1 (a:Int).toNat].length)*40<=140737488355328/\wn ((a:Int)+1)/\∃(c:Nat),(((a:Int)+1=(c:Int)/\True/\True)/\vB d.1 x++cr d.1 a (x:Int).toNat++[nth d.1 (a:Int).toNat]=vB d.1 x++cr d.1 c (x:Int).toNat/\True)/\c<=d.1.length/\d.1.length-c<d.1.length-a)/\(yN d.1 (a:Int).toNat b (x:Int)=false->wn ((a:Int)+1)/\∃(c:Nat),((True/\(a:Int)+1=(c:Int)/\True)/\vB d.1 x++cr d.1 a (x:Int).toNat=vB d.1 x++cr d.1 c (x:Int).toNat/\True)/\c<=d.1.length/\d.1.length-c<d.1.length-a)))/\(decide ((a:Int)<d.1.length)=false->wn ((x:Int)+1)/\∃(c:Nat),(((x:Int)+1=(c:Int)/\True/\True)/\vB d.1 x++cr d.1 a (x:Int).toNat=vB d.1 c/\True)/\c<=100/\100-c<100-x))/\(decide ((x:Int)<=99)=false->(vB d.1 x,())=(wb d.1,()))
theorem NF:Kn:=by
 rintro⟨n,a,b,⟨⟩⟩;rfl
theorem ml:wX PR 136 Km:=wJ NF Tryz.func136 kcN koN
theorem Ev:CY:=by
 rintro⟨d,n,⟨⟩⟩ a;have a:(wm d).length<4611686018427387904:=a;exact⟨by show wn (((wm d).length:Int)-1);exact iZ6,rfl⟩
theorem CZ:wX PR 137 CX:=wJ Ev Tryz.func137 (kcC ml kcN) koN
theorem HA:Eo:=by
 rintro⟨d,n,⟨⟩⟩ a;have a:(wd (wj d)).length<4611686018427387904:=a;exact⟨by show wn (((wd (wj d)).length:Int)-1);exact iZ6,rfl⟩
theorem Ew:wX PR 138 En:=wJ HA Tryz.func138 (kcC ml kcN) koN
theorem RP:NB:=by
 rintro⟨a,b,⟨⟩⟩;show(decide (DR b<DR a)||decide (DR a=DR b)&&decide (yY b<yY a),())=(qN a b,());refine jF (fun z=>(z,())) ?_;unfold qN;rw[jX];simp only[zr,ji,jo]
theorem NG:wX PR 147 NA:=wJ RP Tryz.func147 kcN koN
theorem Ko (l:List ShD) (n:Nat):aa l (n+1)=(aa l n||AW l n):=by
 unfold aa;rw[zg,kT];simp
theorem HB {l:List ShD} {i:Nat} (h:∀j:Nat,j<i->DF (nth l i) (nth l j)=false) (hi:i<=l.length):AW l i=false:=by
 unfold AW;rw[zj];intro s a;rw[zc] at a;obtain⟨j,b,rfl⟩:=a;have:=h j (by omega);rw[L.qb (l:=l) (i:=j) (by omega)] at this;simpa using this
theorem RQ {l:List ShD} {i j:Nat} (hi:i<l.length) (a:j<i) (h:DF (nth l i) (nth l j)=true):bD l=true:=by
 unfold bD aa AW;rw[zb];refine⟨i,jE.2 hi,?_⟩;rw[zb];refine⟨nth l j,?_,h⟩;rw[zc];exact⟨j,by omega,(L.qb (by omega)).symm⟩
theorem RR:Nw:=by
 unfold Nw jgf;rintro⟨l,⟨⟩⟩ k;have k:l.length<=1000000:=k;refine⟨⟨0,⟨⟨rfl,tZ⟩,tZ⟩,jp _,rfl⟩,fun x m _=>⟨fun h=> ?_,fun h=> ?_⟩⟩;have h:(x:Int)<l.length:=ja h;obtain⟨_,a⟩:x<=l.length/\aa l x=false:=m;refine⟨⟨0,⟨⟨rfl,tZ⟩,tZ⟩,jp _,fun j o=>by omega⟩,fun y n=>⟨fun c=> ?_,fun c=> ?_⟩⟩;have c:(y:Int)<(x:Int):=ja c;obtain⟨_,b⟩:y<=x/\∀j:Nat,j<y->DF (nth l x) (nth l j)=false:=n;have f:(y:Int)<l.length:=(by omega);refine⟨by omega,h,by omega,f,fun _=>by omega,fun _=>h,fun _=>by omega,fun _=>f,fun d=> ?_,fun d=>⟨iZ6,y+1,⟨⟨by simp,tZ⟩,tZ⟩,⟨by show y+1<=x;omega,fun j o=> ?_⟩,by show x-(y+1)<x-y;omega⟩⟩;have d:DF (nth l x) (nth l y)=true:=d;have:=RQ (by omega) (by omega) d;show(true,())=(bD l,());rw[this];by_cases e:j=y;subst e;exact d;exact b j (by omega);have c:¬(y:Int)<(x:Int):=jc c;obtain⟨q,b⟩:y<=x/\∀j:Nat,j<y->DF (nth l x) (nth l j)=false:=n;have i:y=x:=(by omega);subst i;refine⟨iZ6,y+1,⟨⟨by simp,tZ⟩,tZ⟩,⟨by show y+1<=l.length;omega,?_⟩,by show l.length-(y+1)<l.length-y;omega⟩;show aa l (y+1)=false;rw[Ko,a,HB b (by omega)];rfl;have h:¬(x:Int)<l.length:=jc h;obtain⟨p,a⟩:x<=l.length/\aa l x=false:=m;have g:x=l.length:=(by omega);subst g;show(false,())=(bD l,());unfold bD;rw[a]
theorem NH:wX PR 94 Nu:=vF Nv RR Tryz.func94 kcN koN
theorem RT:Nz:=by
 unfold Nz Prod.q4;rintro⟨d,⟨⟩⟩ k;have k:(wm d).length<=1000000:=k;refine⟨fun h=> ?_,fun h=> ?_⟩;have h:wo (wj d)=false:=(by simpa using(show(!wo (wj d))=true from h));show((30:Int),())=(gQ d,());unfold gQ;rw[h];rfl;have g:wo (wj d)=true:=(by simpa using(show(!wo (wj d))=false from h));refine⟨⟨0,⟨⟨rfl,tZ⟩,tZ⟩,jp _,fun j f=>by omega⟩,fun x m _=>⟨fun h=> ?_,fun h=> ?_⟩⟩;have h:(x:Int)<(wm d).length:=ja h;refine⟨by omega,h,g,fun a=> ?_,fun a=>⟨iZ6,x+1,⟨⟨by simp,tZ⟩,tZ⟩,⟨by show x+1<=(wm d).length;omega,fun j f=> ?_⟩,by show(wm d).length-(x+1)<(wm d).length-x;omega⟩⟩;have a:wZ (wj d) (gN (nth (wm d) x))=false:=(by simpa using(show(!wZ (wj d) (gN (nth (wm d) x)))=true from a));have f:Ii d=false:=by
  unfold Ii;exact zU.2 ⟨_,L.we (l:=wm d) (i:=x) (by omega),by rw[a];simp⟩
 show((31:Int),())=(gQ d,());unfold gQ;rw[g,f];rfl;have a:wZ (wj d) (gN (nth (wm d) x))=true:=(by simpa using(show(!wZ (wj d) (gN (nth (wm d) x)))=false from a));by_cases e:j=x;subst e;exact a;exact m.2 j (by omega);have h:¬(x:Int)<(wm d).length:=jc h;have f:Ii d=true:=io (p:=fun b=>wZ (wj d) (gN b)) (by omega) m.2;refine⟨fun a=> ?_,fun a=> ?_⟩;have a:qn d=false:=(by simpa using(show(!qn d)=true from a));show((50:Int),())=(gQ d,());unfold gQ;rw[g,f,a];rfl;have a:qn d=true:=(by simpa using(show(!qn d)=false from a));have n:(w4 d).length<=30:=(vP a).2.2.2.2.1;refine⟨by show(w4 d).length<=1000000;omega,fun c=> ?_,fun c=> ?_⟩;have c:bD (w4 d)=true:=c;show((51:Int),())=(gQ d,());unfold gQ;rw[g,f,a,c];rfl;have c:bD (w4 d)=false:=c;show((0:Int),())=(gQ d,());unfold gQ;rw[g,f,a,c];rfl
theorem Vn (t:List Int) (p:Int) (n:Nat):nS t p (n+1)=nS t p n++(if wD (nth t n) p=true then[(n:Int)] else[]):=by
 unfold nS;rw[L.vQ,zw];by_cases h:wD (nth t n) p=true;rw[je h,je h];rfl;rw[jd h,jd h];rfl
theorem PP (t:List Int) (p:Int) (n:Nat):(nS t p n).length<=n:=by
 unfold nS;rw[zp];exact jD (zF _ _) (by simp)
theorem Vo (l:List ShD) (n m:Nat):cr l (n+1) m=cr l n m++(if(decide (yY (nth l n)=(m:Int))&&mE l n)=true then[nth l n] else[]):=by
 unfold cr;rw[L.vQ,zw];by_cases h:(decide (yY (nth l n)=(m:Int))&&mE l n)=true;rw[je h,je h];rfl;rw[jd h,jd h];rfl
theorem PQ (l:List ShD) (n m:Nat):(cr l n m).length<=n:=by
 unfold cr;rw[zp];exact jD (zF _ _) (by simp)
theorem C4 (l:List ShD) (n:Nat):vB l (n+1)=vB l n++cr l l.length n:=by
 unfold vB;rw[zg,List.flatMap_append];simp
theorem m0 (l:List ShD):∀n,(vB l n).length<=l.length*n
 |0=>jp _
 |n+1=>by
  have a:=m0 l n
  have:=PQ l l.length n
  rw[C4,jG,Nat.mul_succ]
  omega
theorem Kp {l:List ShD} {i k:Nat} {id:Int} (h:k<l.length):yN l i (k+1) id=(yN l i k id&& !decide (nth l k=nth l i)):=by
 unfold yN;rw[L.wN h,kT];simp only[List.any_cons,List.any_nil,kO,Bool.not_or,Bool.and_assoc]
theorem HC:Eu:=by
 rintro⟨l,⟨⟩⟩ f;have f:l.length<=1000:=f;refine⟨⟨0,⟨⟨rfl,tZ,tZ⟩,rfl,tZ⟩,jp _⟩,fun x t=>⟨fun h=>⟨⟨0,⟨⟨rfl,tZ,tZ⟩,?_,tZ⟩,jp _⟩,fun y e _=>⟨fun a=> ?_,fun a=> ?_⟩⟩,fun h=> ?_⟩⟩;exact(j8 _).symm;have h:(x:Int)<=99:=ja h;have a:(y:Int)<l.length:=ja a;have e:y<=l.length:=e;refine⟨by omega,a,⟨0,⟨⟨rfl,?_,tZ⟩,tZ⟩,jp _⟩,fun z p=>⟨fun c=> ?_,fun c=> ?_⟩⟩;show decide (yY (nth l y)=(x:Int))=yN l y 0 (x:Int);unfold yN;simp;have c:(z:Int)<(y:Int):=ja c;have m:(z:Int)<l.length:=(by omega);have d:=Kp (l:=l) (i:=y) (k:=z) (id:=(x:Int)) (by omega);exact⟨fun _=>by omega,fun _=>m,fun _=>by omega,fun _=>a,iZ6,z+1,⟨⟨by simp,d.symm,tZ⟩,tZ⟩,by show z+1<=y;omega,by show y-(z+1)<y-z;omega⟩;have c:¬(z:Int)<(y:Int):=jc c;have p:z<=y:=p;have n:z=y:=(by omega);subst n;have d:=Vo l z x;have r:=PQ l z x;have s:=m0 l x;have q:l.length*x<=1000*99:=Nat.mul_le_mul f (by omega);have up:z+1<=l.length:=(by omega);have o:l.length-(z+1)<l.length-z:=(by omega);refine⟨fun b=>⟨by omega,a,?_,iZ6,z+1,⟨⟨by simp,tZ,tZ⟩,?_,tZ⟩,up,o⟩,fun b=>⟨iZ6,z+1,⟨⟨tZ,by simp,tZ⟩,?_,tZ⟩,up,o⟩⟩;show((vB l x++cr l z x).length+1)*40<=140737488355328;rw[jG];omega;have b:(decide (yY (nth l z)=(x:Int))&&mE l z)=true:=b;show vB l x++cr l z x++[nth l z]=vB l x++cr l (z+1) x;rw[d,je b,jM];have b:(decide (yY (nth l z)=(x:Int))&&mE l z)=false:=b;show vB l x++cr l z x=vB l x++cr l (z+1) x;rw[d,jd (by rw[b];simp),j8];have h:(x:Int)<=99:=ja h;have a:¬(y:Int)<l.length:=jc a;have e:y<=l.length:=e;have j:y=l.length:=(by omega);subst j;exact⟨iZ6,x+1,⟨⟨by simp,tZ,tZ⟩,(C4 l x).symm,tZ⟩,by omega,by omega⟩;have h:¬(x:Int)<=99:=jc h;have g:x=100:=(by omega);subst g;rfl
theorem Ey:wX PR 146 Es:=vF Et HC Tryz.func146 kcN koN
theorem C6 {d:DyD} {p:Int} {l:List Int}:yU d p l=true↔(∀j:Nat,j<l.length->qy (wj d) (gN (U.bk d (nth l j))) p=true)/\(∀j:Nat,j<l.length->∀m:Nat,m<j->wV d (nth l j) (nth l m)=true)/\Ij d l<=YM d:=by
 unfold yU Zw;rw[ji,ji,jT,jT,jo];refine and_congr ?_ (and_congr ?_ Iff.rfl);constructor;intro h j a;exact h _ (L.we a);intro h b c;obtain⟨i,hi,rfl⟩:=L.mem_iff.1 c;exact h i hi;constructor;intro h j a m e;have:=h j (jE.2 a);rw[jT] at this;exact this _ (by rw[zc];exact⟨m,by omega,(L.qb (by omega)).symm⟩);intro h j a;have a:=jE.1 a;rw[jT];intro b c;rw[zc] at c;obtain⟨m,e,rfl⟩:=c;have:=h j a m (by omega);rw[L.qb (l:=l) (i:=m) (by omega)] at this;exact this
theorem C7 {d:DyD} {p:Int} {l:List Int} (h:¬yU d p l=true):(false,())=(yU d p l,()):=by
 cases a:yU d p l with
 |false=>rfl
 |true=>exact absurd a h
theorem RU:NE:=by
 unfold NE jiz jfo jfU Prod.q4;rintro⟨d,p,l,⟨⟩⟩ f t C;have f:E2 d:=f;have t:Lz d p:=t;obtain⟨J,A⟩:DH d l:=C;refine⟨⟨0,⟨⟨rfl,rfl,tZ⟩,tZ⟩,jp _,fun j s=>by omega,fun j s=>by omega⟩,fun x q _=>⟨fun h=> ?_,fun h=> ?_⟩⟩;have h:(x:Int)<l.length:=ja h;have a:x<l.length:=(by omega);have n:=A _ (L.we a);have B:=bK f.2.2 n;have D:=M5 f.2.2 A x (by omega);have E:=pC (d:=d) a;have o:wZ (wj d) (gN (U.bk d (nth l x)))=true:=by
  have:=f.2.1;unfold Ii at this;exact jT.1 this _ (jci n)
 have H:wn (dI (U.bk d (nth l x))-qP (U.bk d (nth l x))):=iZ6;have I:wn (vC d l x+(dI (U.bk d (nth l x))-qP (U.bk d (nth l x)))):=iZ6;refine⟨by omega,h,n.1,n.2,t,o,fun b=> ?_,fun b=>⟨H,I,⟨0,⟨⟨rfl,tZ⟩,tZ⟩,jp _,fun m g=>by omega⟩,fun y u=>⟨fun k=> ?_,fun k=> ?_⟩⟩⟩;have b:qy (wj d) (gN (U.bk d (nth l x))) p=false:=(by simpa using(show(!qy (wj d) (gN (U.bk d (nth l x))) p)=true from b));exact C7 (d:=d) (p:=p) (l:=l) (fun r=>by
  have:=(C6.1 r).1 x a;rw[b] at this;cases this)
 have k:(y:Int)<(x:Int):=ja k;have v:(y:Int)<l.length:=(by omega);refine⟨by omega,h,by omega,v,f,n,A _ (L.we (l:=l) (i:=y) (by omega)),fun c=> ?_,fun c=>⟨iZ6,y+1,⟨⟨by simp,tZ⟩,tZ⟩,⟨by show y+1<=x;omega,fun m g=> ?_⟩,by show x-(y+1)<x-y;omega⟩⟩;have c:wV d (nth l x) (nth l y)=false:=(by simpa using(show(!wV d (nth l x) (nth l y))=true from c));exact C7 (d:=d) (p:=p) (l:=l) (fun r=>by
  have:=(C6.1 r).2.1 x a y (by omega);rw[c] at this;cases this)
 have c:wV d (nth l x) (nth l y)=true:=(by simpa using(show(!wV d (nth l x) (nth l y))=false from c));by_cases e:m=y;subst e;exact c;exact u.2 m (by omega);have k:¬(y:Int)<(x:Int):=jc k;have G:y<=x:=u.1;have w:y=x:=(by omega);subst w;have b:qy (wj d) (gN (U.bk d (nth l y))) p=true:=(by simpa using(show(!qy (wj d) (gN (U.bk d (nth l y))) p)=false from b));refine⟨iZ6,y+1,⟨⟨by simp,E.symm,tZ⟩,tZ⟩,⟨by show y+1<=l.length;omega,fun j s=> ?_,fun j s m g=> ?_⟩,by show l.length-(y+1)<l.length-y;omega⟩;by_cases e:j=y;subst e;exact b;exact q.2.1 j (by omega);by_cases e:j=y;subst e;exact u.2 m g;exact q.2.2 j (by omega) m g;have h:¬(x:Int)<l.length:=jc h;have F:x<=l.length:=q.1;have a:x=l.length:=(by omega);subst a;have g:vC d l l.length=Ij d l:=by
  unfold vC;rw[zv (jj _)]
 show(decide (vC d l l.length<=YM d),())=(yU d p l,());rw[g];refine jF (fun z=>(z,())) ?_;rw[jX,jo,C6];exact⟨fun h=>⟨q.2.1,q.2.2,h⟩,fun h=>h.2.2⟩
theorem jcn {d:DyD} {a b:Int} (h:gO d b a=true):wV d a b=decide (dI (U.bk d b)+AB d+ON d b a<=qP (U.bk d a)):=by
 unfold wV;rw[je h];refine decide_eq_decide.2 ?_;unfold bi;omega
theorem jaL {d:DyD} {a b:Int} (h:gO d b a=false):wV d a b=decide (dI (U.bk d a)+AB d+ON d a b<=qP (U.bk d b)):=by
 unfold wV;rw[h,jd (by simp)];refine decide_eq_decide.2 ?_;unfold bi;omega
theorem PS (d:DyD) (a b:Int):gO d b a=(decide (qP (U.bk d b)<qP (U.bk d a))||decide (qP (U.bk d b)=qP (U.bk d a))&&decide (b<a)):=by
 unfold gO;rw[jX];simp only[zr,ji,jo]
theorem HD:Er:=by
 unfold Er jiy jfG jgG jeQ jeP;rintro⟨d,a,b,⟨⟩⟩ c e f;have c:E2 d:=c;have e:gR d a:=e;have f:gR d b:=f;have m:=bK c.2.2 e;have n:=bK c.2.2 f;have p:=CQ c.2.2 e f;have q:=CQ c.2.2 f e;have o:=(vP c.2.2).2.2.1;have r:=(sF c.2.2 (i:=(SI (U.bk d a)).toNat) (by omega)).1;have s:=(sF c.2.2 (i:=(SI (U.bk d b)).toNat) (by omega)).1;have g:=e.1;have j:=e.2;have k:=f.1;have l:=f.2;refine⟨k,l,g,j,fun _=>k,fun _=>l,fun _=>g,fun _=>j,fun h=>⟨k,l,g,j,?_,n.1.1,n.1.2,m.1.1,?_,?_,?_⟩,fun h=>⟨g,j,k,l,?_,m.1.1,m.1.2,n.1.1,?_,?_,?_⟩⟩;show wn (dI (U.bk d b)+AB d);exact iZ6;show SI (U.bk d a)<((nth (wY d) (SI (U.bk d b)).toNat).length:Int);omega;show wn (dI (U.bk d b)+AB d+ON d b a);exact iZ6;have h:gO d b a=true:=(by rw[PS];exact h);exact jF (fun z=>(z,())) (jcn h).symm;show wn (dI (U.bk d a)+AB d);exact iZ6;show SI (U.bk d b)<((nth (wY d) (SI (U.bk d a)).toNat).length:Int);omega;show wn (dI (U.bk d a)+AB d+ON d a b);exact iZ6;have h:gO d b a=false:=(by rw[PS];exact h);exact jF (fun z=>(z,())) (jaL h).symm
theorem Ez:wX PR 149 Ep:=wJ HD Tryz.func149 kcN koN
theorem NI:wX PR 110 NC:=vF ND RU Tryz.func110 (kcC Hw (kcC Ez kcN)) koN
def jco (d:DyD):Bool:=decide (4<((wm d).length:Int))|| !kX ((wY d).length:Int) 1 5|| !kX (AB d) 0 300|| !kX (YM d) 0 1440||decide (30<((w4 d).length:Int))
def spH (s:SpD):Bool:=decide (U.lo s<0)||decide (U.hi s<U.lo s)||decide (300<U.hi s)
def bkH (n:Nat) (b:BkD):Bool:= !kX (SI b) 0 ((n:Int)-1)||decide (qP b<0)||decide (dI b<=qP b)||decide (1440<dI b)
def shH (d:DyD) (s:ShD):Bool:= !kX (yY s) 0 99|| !kX (DR s) 0 9999|| !kX (Ww s) 1 2|| !Wz d (lm s)|| !Lj d (gP s)
theorem Vp (d:DyD):qn d=(!jco d&&((wY d).all (cq (wY d).length)&&((wm d).all (mC (wY d).length)&&(w4 d).all (mD (wm d).length (wd (wj d)).length)))):=by
 unfold qn jco;congr 1;rw[jX];simp only[kX,jQ,jN,jH,ze,ji,jo];omega
theorem Zk (s:SpD):sZ s= !spH s:=by
 unfold sZ spH;rw[jX];simp only[jQ,jN,jH,jo];omega
theorem Zl (n:Nat) (b:BkD):mC n b= !bkH n b:=by
 unfold mC bkH;rw[jX];simp only[kX,jQ,jN,jH,ze,ji,jo];omega
theorem Zm (d:DyD) (s:ShD):mD (wm d).length (wd (wj d)).length s= !shH d s:=by
 unfold mD shH Wz Lj;rw[jX];simp only[kX,jQ,jN,ze,ji,jo];omega
theorem Kq {d:DyD} (h:jco d=true\/(wY d).all (cq (wY d).length)=false\/(wm d).all (mC (wY d).length)=false\/(w4 d).all (mD (wm d).length (wd (wj d)).length)=false):(false,())=(qn d,()):=by
 have:qn d=false:=by
  rw[Vp];rcases h with h|h|h|h<;>rw[h]<;>simp
 rw[this]
theorem Kr {α:Type} [Inhabited α] {l:List α} {p:α->Bool} {x:Nat} (a:x<l.length) (h:p (nth l x)=false):l.all p=false:=zU.2 ⟨_,L.we a,by rw[h];simp⟩
theorem RV:Nt:=by
 unfold Nt jhQ jix jhc jgF jiw jgE jhP jge jiv jgD je6 jfF jiu jgd Prod.q4;rintro⟨d,⟨⟩⟩ _ _ _;refine⟨fun h=>Kq (d:=d) (.inl h),fun k=> ?_⟩;have k:jco d=false:=k;have l:=k;unfold jco at l;simp only[kX,jN,jH,ze,ji,jo] at l;refine⟨⟨0,⟨⟨rfl,tZ⟩,tZ⟩,jp _,fun j g=>by omega⟩,fun x c _=>⟨fun h=> ?_,fun h=> ?_⟩⟩;have h:(x:Int)<(wY d).length:=ja h;have b:x<(wY d).length:=(by omega);refine⟨by omega,h,fun a=> ?_,fun a=>⟨⟨0,⟨⟨rfl,tZ⟩,tZ⟩,jp _,fun j g=>by omega⟩,fun y n=>⟨by omega,h,fun m=>⟨fun i=> ?_,fun i=> ?_⟩⟩⟩⟩;have a:¬((nth (wY d) x).length:Int)=(wY d).length:=ja a;refine Kq (d:=d) (.inr (.inl (Kr b ?_)));unfold cq;rw[zm (by omega)];rfl;have m:(nth (wY d) x).length<4611686018427387904:=m;have i:(y:Int)<(nth (wY d) x).length:=ja i;refine⟨by omega,h,by omega,i,fun f=> ?_,fun f=>⟨iZ6,y+1,⟨⟨by simp,tZ⟩,tZ⟩,⟨by show y+1<=(nth (wY d) x).length;omega,fun j g=> ?_⟩,by show(nth (wY d) x).length-(y+1)<(nth (wY d) x).length-y;omega⟩⟩;have f:spH (nth (nth (wY d) x) y)=true:=f;refine Kq (d:=d) (.inr (.inl (Kr b ?_)));have:(nth (wY d) x).all sZ=false:=Kr (x:=y) (by omega) (by rw[Zk,f];rfl);unfold cq;rw[this,kw];have f:spH (nth (nth (wY d) x) y)=false:=f;by_cases e:j=y;subst e;show sZ (nth (nth (wY d) x) j)=true;rw[Zk,f];rfl;exact n.2 j (by omega);have i:¬(y:Int)<(nth (wY d) x).length:=jc i;have a:((nth (wY d) x).length:Int)=(wY d).length:=jR.1 (jc a);have o:(nth (wY d) x).all sZ=true:=io (by omega) n.2;refine⟨iZ6,x+1,⟨⟨by simp,tZ⟩,tZ⟩,⟨by show x+1<=(wY d).length;omega,fun j g=> ?_⟩,by show(wY d).length-(x+1)<(wY d).length-x;omega⟩;by_cases e:j=x;subst e;show cq (wY d).length (nth (wY d) j)=true;unfold cq;rw[o,jL (by omega)];rfl;exact c.2 j (by omega);have h:¬(x:Int)<(wY d).length:=jc h;have r:(wY d).all (cq (wY d).length)=true:=io (by omega) c.2;clear c h;refine⟨⟨0,⟨⟨rfl,tZ⟩,tZ⟩,jp _,fun j g=>by omega⟩,fun x c _=>⟨fun h=> ?_,fun h=> ?_⟩⟩;have h:(x:Int)<(wm d).length:=ja h;have b:x<(wm d).length:=(by omega);refine⟨by omega,h,fun _=>⟨by show wn (((wY d).length:Int)-1);exact iZ6,fun a=> ?_,fun a=>⟨iZ6,x+1,⟨⟨by simp,tZ⟩,tZ⟩,⟨by show x+1<=(wm d).length;omega,fun j g=> ?_⟩,by show(wm d).length-(x+1)<(wm d).length-x;omega⟩⟩⟩;have a:bkH (wY d).length (nth (wm d) x)=true:=a;exact Kq (d:=d) (.inr (.inr (.inl (Kr b (by rw[Zl,a];rfl)))));have a:bkH (wY d).length (nth (wm d) x)=false:=a;by_cases e:j=x;subst e;show mC (wY d).length (nth (wm d) j)=true;rw[Zl,a];rfl;exact c.2 j (by omega);have h:¬(x:Int)<(wm d).length:=jc h;have p:(wm d).all (mC (wY d).length)=true:=io (by omega) c.2;clear c h;refine⟨⟨0,⟨⟨rfl,tZ⟩,tZ⟩,jp _,fun j g=>by omega⟩,fun x c _=>⟨fun h=> ?_,fun h=> ?_⟩⟩;have h:(x:Int)<(w4 d).length:=ja h;have b:x<(w4 d).length:=(by omega);refine⟨by omega,h,fun a=> ?_,fun a=>⟨iZ6,x+1,⟨⟨by simp,tZ⟩,tZ⟩,⟨by show x+1<=(w4 d).length;omega,fun j g=> ?_⟩,by show(w4 d).length-(x+1)<(w4 d).length-x;omega⟩⟩;have a:shH d (nth (w4 d) x)=true:=a;exact Kq (d:=d) (.inr (.inr (.inr (Kr b (by rw[Zm,a];rfl)))));have a:shH d (nth (w4 d) x)=false:=a;by_cases e:j=x;subst e;show mD (wm d).length (wd (wj d)).length (nth (w4 d) j)=true;rw[Zm,a];rfl;exact c.2 j (by omega);have h:¬(x:Int)<(w4 d).length:=jc h;have q:(w4 d).all (mD (wm d).length (wd (wj d)).length)=true:=io (by omega) c.2;show(true,())=(qn d,());rw[Vp,k,r,p,q];rfl
theorem NJ:wX PR 93 Nr:=vF Ns RV Tryz.func93 (kcC ml (kcC CZ (kcC Ew kcN))) koN
theorem pF:wX PR 57 Nx:=vF Ny RT Tryz.func57 (kcC xf (kcC Nm (kcC NJ (kcC NH kcN)))) koN
namespace U
def vS (l:List ShD) (i n:Nat):Bool:=decide (Ww (nth l i)=1)&& !((l.take n).any (fun t=>decide (lm t=lm (nth l i))&&decide (gP t=gP (nth l i))&&qN t (nth l i)))
def wq (l:List ShD) (n:Nat):List ShD:=((List.range n).filter (fun i=>vS l i l.length)).map (nth l)
def wI (l:List ShD) (n:Nat):Nat:=(List.range n).foldl (fun f i=>if qN (nth l f) (nth l i)=true then i else f) 0
def wc (l:List ShD):Nat->List ShD×List ShD
 |0=>([],l)
 |n+1=>((wc l n).1++[nth (wc l n).2 (wI (wc l n).2 (wc l n).2.length)],(wc l n).2.take (wI (wc l n).2 (wc l n).2.length)++(wc l n).2.drop (wI (wc l n).2 (wc l n).2.length+1))
def cw (d:DyD):List ShD:=wq (wb (w4 d)) (wb (w4 d)).length
def qQ (d:DyD):List ShD:=(wc (cw d) (cw d).length).1
def wK (d:DyD) (n:Nat):List Int×List Int:=((qQ d).take n).foldl (bW d) (List.replicate (wm d).length 0,[])
def Iq (d:DyD):List Int×List Int:=wK d (qQ d).length
def tu (d:DyD):List Int:=if gQ d=0 then(Iq d).1 else[]
end U
def Ks:wO:=⟨[.val tDy],[.slice tSh],false,fun d=>[(w4 d.1).length<=1000],fun d=>(qQ d.1,())⟩
def Kt:Ann:=fun r=>match r with
 |4=>some fun σ=>{X:=Nat,sl:=fun i=>[(5,.dat .int (i:Int)),(3,.own 3 tSh)],ob:=fun i=>[(3,some (.row 134 tSh false .yes (wq (gd (.slice tSh) σ 4) i)))],inv:=fun i=>i<=(gd (.slice tSh) σ 4).length,mu:=fun i=>(gd (.slice tSh) σ 4).length-i}
 |8=>some fun σ=>{X:=Nat,sl:=fun k=>[(7,.dat .int (k:Int)),(6,.dat .bool (vS (gd (.slice tSh) σ 4) (gd .int σ 5).toNat k))],ob:=fun _=>[],inv:=fun k=>k<=(gd (.slice tSh) σ 4).length,mu:=fun k=>(gd (.slice tSh) σ 4).length-k}
 |15=>some fun σ=>{X:=Nat,sl:=fun _=>[(3,.own 3 tSh),(8,.own 8 tSh)],ob:=fun n=>[(3,some (.row 134 tSh false .unk (wc (gr tSh σ 3) n).2)),(8,some (.row 134 tSh false .yes (wc (gr tSh σ 3) n).1))],inv:=fun n=>n<=(gr tSh σ 3).length,mu:=fun n=>(gr tSh σ 3).length-n}
 |18=>some fun σ=>{X:=Nat,sl:=fun i=>[(10,.dat .int (i:Int)),(9,.dat .int (wI (gr tSh σ 3) i:Int))],ob:=fun _=>[],inv:=fun i=>i<=(gr tSh σ 3).length,mu:=fun i=>(gr tSh σ 3).length-i}
 |_=>none
abbrev jeq (d:DyD×Unit):=(wb d.1.q4.2.1)
abbrev jgg (d:DyD×Unit)(a:Nat)(x:Nat):=((nth (jeq d) (a:Int).toNat).2.2.2.1=(nth (jeq d) (x:Int).toNat).2.2.2.1)
abbrev jiA (d:DyD×Unit)(a:Nat)(x:Nat):=((nth (jeq d) (a:Int).toNat).q4.1=(nth (jeq d) (x:Int).toNat).q4.1)
abbrev jeX (d:DyD×Unit):=(↑(jeq d).length:Int)
abbrev jiB (d:DyD×Unit)(a:Nat)(x:Nat):=(decide (jgg d a x)&&decide (jiA d a x)&&qN (nth (jeq d) (a:Int).toNat) (nth (jeq d) (x:Int).toNat))
abbrev jhd (d:DyD×Unit)(a:Nat)(x:Nat):=(decide (jgg d a x)&&decide (jiA d a x))
abbrev jfp (d:DyD×Unit)(x:Nat):=(wq (jeq d) x)
abbrev jev (d:DyD×Unit)(x:Nat)(a:Nat):=(wc (jfp d x) a)
abbrev jeD (d:DyD×Unit)(x:Nat)(a:Nat)(b:Nat):=(↑(wI (jev d x a).2 b):Int)
abbrev jeU (d:DyD×Unit)(x:Nat)(a:Nat):=(↑(jev d x a).2.length:Int)
def Ku:Prop:=∀(d:DyD×Unit),(w4 d.1).length<=1000->d.1.q4.2.1.length<=1000/\(∃(x:Nat),((0=(x:Int)/\True/\True)/\wq (jeq d) x=[]/\True)/\x<=(jeq d).length)/\∀(x:Nat),x<=(jeq d).length->(jeq d).length<4611686018427387904->(decide ((x:Int)<(jeX d))=true->0<=(x:Int)/\(x:Int)<(jeX d)/\(∃(a:Nat),((0=(a:Int)/\decide ((nth (jeq d) (x:Int).toNat).2.2.1=1)=vS (jeq d) (x:Int).toNat a/\True)/\True)/\a<=(jeq d).length)/\∀(a:Nat),a<=(jeq d).length->(jeq d).length<4611686018427387904->(decide ((a:Int)<(jeX d))=true->0<=(a:Int)/\(a:Int)<(jeX d)/\0<=(x:Int)/\(x:Int)<(jeX d)/\(decide (jgg d a x)=true->0<=(a:Int))/\(decide (jgg d a x)=true->(a:Int)<(jeX d))/\(decide (jgg d a x)=true->0<=(x:Int))/\(decide (jgg d a x)=true->(x:Int)<(jeX d))/\((jhd d a x)=true->0<=(a:Int))/\((jhd d a x)=true->(a:Int)<(jeX d))/\((jhd d a x)=true->0<=(x:Int))/\((jhd d a x)=true->(x:Int)<(jeX d))/\((jiB d a x)=true->wn ((a:Int)+1)/\∃(c:Nat),(((a:Int)+1=(c:Int)/\false=vS (jeq d) (x:Int).toNat c/\True)/\True)/\c<=(jeq d).length/\(jeq d).length-c<(jeq d).length-a)/\((jiB d a x)=false->wn ((a:Int)+1)/\∃(c:Nat),((vS (jeq d) (x:Int).toNat a=vS (jeq d) (x:Int).toNat c/\(a:Int)+1=(c:Int)/\True)/\True)/\c<=(jeq d).length/\(jeq d).length-c<(jeq d).length-a))/\(decide ((a:Int)<(jeX d))=false->(vS (jeq d) (x:Int).toNat a=true->0<=(x:Int)/\(x:Int)<(jeX d)/\((jfp d x).length+[nth (jeq d) (x:Int).toNat].length)*40<=140737488355328/\wn ((x:Int)+1)/\∃(c:Nat),(((x:Int)+1=(c:Int)/\True/\True)/\wq (jeq d) x++[nth (jeq d) (x:Int).toNat]=wq (jeq d) c/\True)/\c<=(jeq d).length/\(jeq d).length-c<(jeq d).length-x)/\(vS (jeq d) (x:Int).toNat a=false->wn ((x:Int)+1)/\∃(c:Nat),((True/\(x:Int)+1=(c:Int)/\True)/\wq (jeq d) x=wq (jeq d) c/\True)/\c<=(jeq d).length/\(jeq d).length-c<(jeq d).length-x)))/\(decide ((x:Int)<(jeX d))=false->(∃(a:Nat),((True/\True/\True)/\wq (jeq d) x=(jev d x a).2/\(jev d x a).1=[]/\True)/\a<=(jfp d x).length)/\∀(a:Nat),a<=(jfp d x).length->(jev d x a).2.length<4611686018427387904->(decide ((0:Int)<(jeU d x a))=true->(∃(b:Nat),((0=(b:Int)/\(0:Int)=(jeD d x a b)/\True)/\True)/\b<=(jev d x a).2.length)/\∀(b:Nat),b<=(jev d x a).2.length->(jev d x a).2.length<4611686018427387904->(decide ((b:Int)<(jeU d x a))=true->(0:Int)<=(jeD d x a b)/\(jeD d x a b)<(jeU d x a)/\0<=(b:Int)/\(b:Int)<(jeU d x a)/\(qN (nth (jev d x a).2 (jeD d x a b).toNat) (nth (jev d x a).2 (b:Int).toNat)=true->wn ((b:Int)+1)/\∃(c:Nat),(((b:Int)+1=(c:Int)/\(b:Int)=(↑(wI (jev d x a).2 c):Int)/\True)/\True)/\c<=(jev d x a).2.length/\(jev d x a).2.length-c<(jev d x a).2.length-b)/\(qN (nth (jev d x a).2 (jeD d x a b).toNat) (nth (jev d x a).2 (b:Int).toNat)=false->wn ((b:Int)+1)/\∃(c:Nat),(((jeD d x a b)=(↑(wI (jev d x a).2 c):Int)/\(b:Int)+1=(c:Int)/\True)/\True)/\c<=(jev d x a).2.length/\(jev d x a).2.length-c<(jev d x a).2.length-b))/\(decide ((b:Int)<(jeU d x a))=false->(0:Int)<=(jeD d x a b)/\(jeD d x a b)<(jeU d x a)/\((jev d x a).1.length+[nth (jev d x a).2 (jeD d x a b).toNat].length)*40<=140737488355328/\(0:Int)<=0/\(0:Int)<=(jeD d x a b)/\(jeD d x a b)<=(jeU d x a)/\(0+(List.take ((jeD d x a b).toNat-Int.toNat 0) (List.drop (Int.toNat 0) (jev d x a).2)).length)*40<=140737488355328/\wn ((jeD d x a b)+1)/\(0:Int)<=(jeD d x a b)+1/\(jeD d x a b)+1<=(jeU d x a)/\(jeU d x a)<=(jeU d x a)/\(([]++List.take ((jeD d x a b).toNat-Int.toNat 0) (List.drop (Int.toNat 0) (jev d x a).2)).length+(List.take ((jeU d x a).toNat-((jeD d x a b)+1).toNat) (List.drop ((jeD d x a b)+1).toNat (jev d x a).2)).length)*40<=140737488355328/\∃(c:Nat),((True/\True/\True)/\[]++List.take ((jeD d x a b).toNat-Int.toNat 0) (List.drop (Int.toNat 0) (jev d x a).2)++List.take ((jeU d x a).toNat-((jeD d x a b)+1).toNat) (List.drop ((jeD d x a b)+1).toNat (jev d x a).2)=(wc (jfp d x) c).2/\(jev d x a).1++[nth (jev d x a).2 (jeD d x a b).toNat]=(wc (jfp d x) c).1/\True)/\c<=(jfp d x).length/\(jfp d x).length-c<(jfp d x).length-a))/\(decide ((0:Int)<(jeU d x a))=false->((jev d x a).1,())=(qQ d.1,())))
def NK:qS:=⟨[.own (.cl (.row 3 .int .no)) true,.val .int],[.cl (.row 3 .int .yes)],fun d=>[d.1.length<=1000,0<=d.2.1/\d.2.1<=63],fun d=>((U.on d.1 d.2.1,()),(d.1,()))⟩
def NL:Ann:=fun r=>match r with
 |3=>some fun σ=>{X:=Nat,sl:=fun i=>[(6,.dat .int (i:Int)),(5,.own 5 .int)],ob:=fun i=>[(5,some (.row 3 .int false .yes (nS (gr .int σ 1000000) (gd .int σ 1) i)))],inv:=fun i=>i<=(gr .int σ 1000000).length,mu:=fun i=>(gr .int σ 1000000).length-i}
 |_=>none
def NM:Prop:=∀(d:List Int×Int×Unit),d.1.length<=1000->0<=d.2.1/\d.2.1<=63->(∃(x:Nat),((0=(x:Int)/\True/\True)/\nS d.1 d.2.1 x=[]/\True)/\x<=d.1.length)/\∀(x:Nat),x<=d.1.length->d.1.length<4611686018427387904->(decide ((x:Int)<d.1.length)=true->0<=(x:Int)/\(x:Int)<d.1.length/\(0<=d.2.1/\d.2.1<=63)/\(wD (nth d.1 (x:Int).toNat) d.2.1=true->((nS d.1 d.2.1 x).length+[(x:Int)].length)*8<=140737488355328/\wn ((x:Int)+1)/\∃(a:Nat),(((x:Int)+1=(a:Int)/\True/\True)/\nS d.1 d.2.1 x++[(x:Int)]=nS d.1 d.2.1 a/\True)/\a<=d.1.length/\d.1.length-a<d.1.length-x)/\(wD (nth d.1 (x:Int).toNat) d.2.1=false->wn ((x:Int)+1)/\∃(a:Nat),((True/\(x:Int)+1=(a:Int)/\True)/\nS d.1 d.2.1 x=nS d.1 d.2.1 a/\True)/\a<=d.1.length/\d.1.length-a<d.1.length-x))/\(decide ((x:Int)<d.1.length)=false->(nS d.1 d.2.1 x,())=(U.on d.1 d.2.1,())/\(d.1,())=(d.1,()))
def NN:wO:=⟨[.val tDy],[.slice .int,.slice .int],false,fun d=>[gQ d.1=0],fun d=>((Iq d.1).1,(Iq d.1).2,())⟩
def NO:Ann:=fun r=>match r with
 |4=>some fun σ=>{X:=Nat,sl:=fun i=>[(5,.dat .int (i:Int)),(2,.own 2 .int),(3,.own 3 .int)],ob:=fun i=>[(2,some (.row 3 .int false .no (wK (gb tDy σ 1) i).1)),(3,some (.row 3 .int false .yes (wK (gb tDy σ 1) i).2))],inv:=fun i=>i<=(qQ (gb tDy σ 1)).length,mu:=fun i=>(qQ (gb tDy σ 1)).length-i}
 |_=>none
abbrev jeC (d:DyD×Unit)(x:Nat):=(nth (qQ d.1) (x:Int).toNat)
abbrev jfH (d:DyD×Unit):=(↑(qQ d.1).length:Int)
abbrev jhR (d:DyD×Unit)(x:Nat):=(U.on (wK d.1 x).1 (jeC d x).q4.1++[(jeC d x).2.2.2.1])
abbrev jiC (d:DyD×Unit)(x:Nat):=(nth (wK d.1 x).1 (jeC d x).2.2.2.1.toNat+1*2^(jeC d x).q4.1.toNat)
abbrev jgH (d:DyD×Unit):=(d.1.2.2.1.length:Int)
def NP:Prop:=∀(d:DyD×Unit),gQ d.1=0->d.1.2.2.1.length<4611686018427387904->0<=(jgH d)/\(jgH d)=(jgH d)/\(jgH d).toNat*8<=140737488355328/\(w4 d.1).length<=1000/\(∃(x:Nat),((0=(x:Int)/\True/\True/\True)/\List.replicate (jgH d).toNat 0=(wK d.1 x).1/\(wK d.1 x).2=[]/\True)/\x<=(qQ d.1).length)/\∀(x:Nat),x<=(qQ d.1).length->(qQ d.1).length<4611686018427387904->(decide ((x:Int)<(jfH d))=true->0<=(x:Int)/\(x:Int)<(jfH d)/\0<=(x:Int)/\(x:Int)<(jfH d)/\(wK d.1 x).1.length<=1000/\((0:Int)<=(jeC d x).q4.1/\(jeC d x).q4.1<=63)/\0<=(x:Int)/\(x:Int)<(jfH d)/\((U.on (wK d.1 x).1 (jeC d x).q4.1).length+[(jeC d x).2.2.2.1].length)*8<=140737488355328/\E2 d.1/\Lz d.1 (jeC d x).q4.1/\DH d.1 (jhR d x)/\(yU d.1 (jeC d x).q4.1 (jhR d x)=true->0<=(x:Int)/\(x:Int)<(jfH d)/\(0:Int)<=(jeC d x).2.2.2.1/\(jeC d x).2.2.2.1<(↑(wK d.1 x).1.length:Int)/\0<=(x:Int)/\(x:Int)<(jfH d)/\(0:Int)<=(jeC d x).q4.1/\(jeC d x).q4.1<=18446744073709551615/\(0:Int)<=(jeC d x).q4.1/\(jeC d x).q4.1<=64/\wn ((1:Int)*2^(jeC d x).q4.1.toNat)/\wn (jiC d x)/\(0:Int)<=(jeC d x).2.2.2.1/\(jeC d x).2.2.2.1<(↑(wK d.1 x).1.length:Int)/\wn ((x:Int)+1)/\∃(a:Nat),((True/\True/\(x:Int)+1=(a:Int)/\True)/\(wK d.1 x).2=(wK d.1 a).2/\(wK d.1 x).1.set (jeC d x).2.2.2.1.toNat (jiC d x)=(wK d.1 a).1/\True)/\a<=(qQ d.1).length/\(qQ d.1).length-a<(qQ d.1).length-x)/\(yU d.1 (jeC d x).q4.1 (jhR d x)=false->0<=(x:Int)/\(x:Int)<(jfH d)/\((wK d.1 x).2.length+[(jeC d x).1].length)*8<=140737488355328/\wn ((x:Int)+1)/\∃(a:Nat),((True/\(x:Int)+1=(a:Int)/\True/\True)/\(wK d.1 x).2++[(jeC d x).1]=(wK d.1 a).2/\(wK d.1 x).1=(wK d.1 a).1/\True)/\a<=(qQ d.1).length/\(qQ d.1).length-a<(qQ d.1).length-x))/\(decide ((x:Int)<(jfH d))=false->((wK d.1 x).1,(wK d.1 x).2,())=((Iq d.1).1,(Iq d.1).2,()))
def NQ:wO:=⟨[.val tDy],[.slice .int,.int],false,fun d=>[(wm d.1).length<=1000000],fun d=>(tu d.1,gQ d.1,())⟩
def NR:Prop:=∀(d:DyD×Unit),(wm d.1).length<=1000000->(wm d.1).length<=1000000/\(decide (gQ d.1≠0)=true->([],gQ d.1,())=(tu d.1,gQ d.1,()))/\(decide (gQ d.1≠0)=false->gQ d.1=0/\((Iq d.1).1,(0:Int),())=(tu d.1,gQ d.1,()))
theorem RW:NM:=by
 rintro⟨l,p,⟨⟩⟩ e i;have e:l.length<=1000:=e;refine⟨⟨0,⟨⟨rfl,tZ,tZ⟩,rfl,tZ⟩,jp _⟩,fun x g _=>⟨fun h=> ?_,fun h=> ?_⟩⟩;have h:(x:Int)<l.length:=ja h;have b:=Vn l p x;have f:=PP l p x;have up:x+1<=l.length:=(by omega);have d:l.length-(x+1)<l.length-x:=(by omega);refine⟨by omega,h,i,fun a=>⟨?_,iZ6,x+1,⟨⟨by simp,tZ,tZ⟩,?_,tZ⟩,up,d⟩,fun a=>⟨iZ6,x+1,⟨⟨tZ,by simp,tZ⟩,?_,tZ⟩,up,d⟩⟩;show((nS l p x).length+1)*8<=140737488355328;omega;have a:wD (nth l x) p=true:=a;rw[je a] at b;exact b.symm;have a:wD (nth l x) p=false:=a;rw[jd (by rw[a];simp),j8] at b;exact b.symm;have h:¬(x:Int)<l.length:=jc h;have g:x<=l.length:=g;have c:x=l.length:=(by omega);subst c;exact⟨rfl,rfl⟩
theorem NS:gE PR 111 NK:=rX NL RW Tryz.func111 (kcC mh kcN) koN
theorem RX:NR:=by
 rintro⟨d,⟨⟩⟩ a;refine⟨a,fun h=> ?_,fun h=> ?_⟩;have h:gQ d≠0:=ja h;show([],gQ d,())=(tu d,gQ d,());unfold tu;rw[jd h];have h:gQ d=0:=jR.1 (jc h);refine⟨h,?_⟩;show((Iq d).1,(0:Int),())=(tu d,gQ d,());unfold tu;rw[je h,h]
theorem uu (l:List ShD) (n:Nat):wI l (n+1)=if qN (nth l (wI l n)) (nth l n)=true then n else wI l n:=by
 unfold wI;rw[zg,jU];rfl
theorem m9 (l:List ShD):∀n,n<=l.length->0<l.length->wI l n<l.length
 |0,_,h=>h
 |n+1,a,h=>by
  have b:=m9 l n (by omega) h
  rw[uu]
  split<;>omega
theorem na (l:List ShD):∀n,n<=l.length->(wc l n).1.length=n/\(wc l n).2.length=l.length-n
 |0,_=>⟨rfl,rfl⟩
 |n+1,d=>by
  obtain⟨a,b⟩:=na l n (by omega)
  have c:=m9 (wc l n).2 _ (jj _) (by omega)
  refine⟨?_,?_⟩
  show((wc l n).1++[_]).length=_
  rw[jG,a];rfl
  show((wc l n).2.take _++(wc l n).2.drop _).length=_
  rw[jG,jY,zD]
  omega
theorem X5 {α:Type} [Inhabited α] {l:List α} {m:Nat} (h:m<l.length):(nth l m::(l.take m++l.drop (m+1))).Perm l:=by
 have e:l=l.take m++nth l m::l.drop (m+1):=by
  conv=>lhs;rw[<-z6 m l]
  rw[z7 h,L.qb h]
 conv=>rhs;rw[e]
 exact List.perm_middle.symm
theorem C8 (l:List ShD):∀n,n<=l.length->((wc l n).1++(wc l n).2).Perm l
 |0,_=>List.Perm.refl _
 |n+1,d=>by
  have b:=C8 l n (by omega)
  have c:=na l n (by omega)
  have a:=m9 (wc l n).2 _ (jj _) (by omega)
  refine List.Perm.trans ?_ b
  show((wc l n).1++[nth (wc l n).2 (wI (wc l n).2 (wc l n).2.length)]++_).Perm _
  rw[jM]
  exact List.Perm.append_left _ (X5 a)
theorem PT {d:DyD} {n:Nat} (h:n<(qQ d).length):wK d (n+1)=bW d (wK d n) (nth (qQ d) n):=by
 unfold wK;rw[L.wN h,jU];rfl
theorem Vq {d:DyD} {s:ShD} (h:s∈qQ d):s∈wb (w4 d):=by
 have b:=C8 (cw d) (cw d).length (jj _);have a:s∈cw d:=b.mem_iff.1 (jh _ h);unfold cw wq at a;obtain⟨i,hi,rfl⟩:=jZ.1 a;exact L.we (jE.1 (jS.1 hi).1)
theorem HE {l:List ShD} {s:ShD} (h:s∈wb l):s∈l:=by
 unfold wb vB at h;obtain⟨m,_,h⟩:=List.mem_flatMap.1 h;unfold cr at h;obtain⟨i,hi,rfl⟩:=jZ.1 h;exact L.we (jE.1 (jS.1 hi).1)
theorem Vr {d:DyD} (k:qn d=true) (j:wo (wj d)=true):∀n,n<=(qQ d).length->(wK d n).1.length=(wm d).length/\(wK d n).2.length<=n/\∀b,b<(wm d).length->0<=nth (wK d n).1 b/\nth (wK d n).1 b<=128*(n:Int)
 |0,_=>by
  refine⟨za,jp _,fun b a=> ?_⟩
  have:nth (wK d 0).1 b=0:=L.bN a
  rw[this];exact⟨zR 0,zR 0⟩
 |n+1,s=>by
  obtain⟨g,q,h⟩:=Vr k j n (by omega)
  have p:=mZ k (HE (Vq (L.we (l:=qQ d) (i:=n) (by omega))))
  have r:(wd (wj d)).length<=8:=(wU j).2.2.1
  have o:(2:Int)^(gP (nth (qQ d) n)).toNat<=128:=by
   rw[BT.AY];have:(2:Nat)^(gP (nth (qQ d) n)).toNat<=2^7:=Nat.pow_le_pow_right (by decide) (by omega);omega
  have m:(0:Int)<(2:Int)^(gP (nth (qQ d) n)).toNat:=by
   rw[BT.AY];have:=Nat.two_pow_pos (gP (nth (qQ d) n)).toNat;omega
  have f:(lm (nth (qQ d) n)).toNat<(wK d n).1.length:=by
   have:=p.2;unfold gR at this;omega
  rw[PT (by omega)];unfold bW
  split
  refine⟨by show((wK d n).1.set _ _).length=_;rw[zM,g],by show(wK d n).2.length<=_;omega,fun b a=> ?_⟩;show 0<=nth ((wK d n).1.set _ _) b/\nth ((wK d n).1.set _ _) b<=_;rw[L.gj f];have c:=h b a
  split
  rename_i e;rw[e];omega;omega;refine⟨g,by show((wK d n).2++[_]).length<=_;rw[jG];simp;omega,fun b a=> ?_⟩;have c:=h b a;show 0<=nth (wK d n).1 b/\nth (wK d n).1 b<=_;omega
theorem Kv {d:DyD} (h:gQ d=0):E2 d:=(gi ((de d).trans h)).1
theorem jcp {t:List Int} {p b:Int} (h:b∈U.on t p):0<=b/\b<(t.length:Int):=by
 unfold U.on nS at h;obtain⟨i,hi,rfl⟩:=jZ.1 h;have:=jE.1 (jS.1 hi).1;omega
theorem jaM (d:DyD):(qQ d).length<=(w4 d).length*100:=by
 have a:=(na (cw d) (cw d).length (jj _)).1;have b:(cw d).length<=(wb (w4 d)).length:=by
  unfold cw wq;rw[zp];exact jD (zF _ _) (by simp)
 have c:(wb (w4 d)).length<=(w4 d).length*100:=m0 _ 100;show(wc (cw d) (cw d).length).1.length<=_;omega
theorem jcq (t:List Int) (p:Int):(U.on t p).length<=t.length:=PP t p t.length
theorem PU (d:DyD):wK d 0=(List.replicate ((wm d).length:Int).toNat 0,[]):=rfl
attribute [local irreducible] qQ wK yU U.on
theorem RY:NP:=by
 unfold NP jgH jiC jhR jfH jeC Prod.q4;rintro⟨d,⟨⟩⟩ m _;have m:gQ d=0:=m;have a:=Kv m;have y:(wm d).length<=4:=(vP a.2.2).1;have w:(w4 d).length<=30:=(vP a.2.2).2.2.2.2.1;have E:(wd (wj d)).length<=8:=(wU a.1).2.2.1;refine⟨j7 _,rfl,by show((wm d).length:Int).toNat*8<=140737488355328;omega,by show(w4 d).length<=1000;omega,⟨0,⟨⟨rfl,tZ,tZ,tZ⟩,(jF (·.1) (PU d)).symm,jF (·.2) (PU d),tZ⟩,jp _⟩,fun x v z=>⟨fun h=> ?_,fun h=> ?_⟩⟩;have h:(x:Int)<(qQ d).length:=ja h;have B:=jaM d;have z:(qQ d).length<=3000:=(by omega);obtain⟨C,G,D⟩:=Vr a.2.2 a.1 x (by omega);have g:=mZ a.2.2 (HE (Vq (L.we (l:=qQ d) (i:=x) (by omega))));have o:=g.2;unfold gR at o;have F:=D (lm (nth (qQ d) x)).toNat (by omega);have j:=PT (d:=d) (n:=x) (by omega);have H:=jcq (wK d x).1 (gP (nth (qQ d) x));have u:BT.qz ((2:Int)^(gP (nth (qQ d) x)).toNat):=BT.iw (by omega);unfold BT.qz at u;have up:x+1<=(qQ d).length:=(by omega);have t:(qQ d).length-(x+1)<(qQ d).length-x:=(by omega);have x0:(0:Int)<=(x:Int):=j7 x;have q:0<=gP (nth (qQ d) x):=g.1.1;have r:gP (nth (qQ d) x)<=63:=(by omega);have s:gP (nth (qQ d) x)<=64:=(by omega);have k:gP (nth (qQ d) x)<=18446744073709551615:=(by omega);have bl:lm (nth (qQ d) x)<((wK d x).1.length:Int):=(by omega);have i64:wn ((x:Int)+1):=iZ6;refine⟨x0,h,x0,h,by show(wK d x).1.length<=1000;omega,⟨q,r⟩,x0,h,by show((U.on (wK d x).1 (gP (nth (qQ d) x))).length+1)*8<=140737488355328;omega,a,g.1,⟨?_,fun b f=> ?_⟩,fun c=> ?_,fun c=> ?_⟩;show(U.on (wK d x).1 (gP (nth (qQ d) x))++[lm (nth (qQ d) x)]).length<=12;rw[jG];simp;omega;rcases jr.1 f with f|f;have:=jcp f;exact⟨this.1,by show b<((wm d).length:Int);rw[<-C];exact this.2⟩;simp at f;subst f;exact g.2;have c:yU d (gP (nth (qQ d) x)) (U.on (wK d x).1 (gP (nth (qQ d) x))++[lm (nth (qQ d) x)])=true:=c;have e:wK d (x+1)=((wK d x).1.set (lm (nth (qQ d) x)).toNat (nth (wK d x).1 (lm (nth (qQ d) x)).toNat+2^(gP (nth (qQ d) x)).toNat),(wK d x).2):=by
  rw[j];unfold bW;rw[je c]
 have A:(2:Int)^(gP (nth (qQ d) x)).toNat<4611686018427387904:=u.2;refine⟨x0,h,g.2.1,bl,x0,h,q,k,q,s,?_,?_,g.2.1,bl,i64,x+1,⟨⟨tZ,tZ,by simp,tZ⟩,?_,?_,tZ⟩,up,t⟩;show wn (1*2^(gP (nth (qQ d) x)).toNat);rw[mg];exact iZ6;show wn (nth (wK d x).1 (lm (nth (qQ d) x)).toNat+1*2^(gP (nth (qQ d) x)).toNat);rw[mg];exact iZ6;show(wK d x).2=(wK d (x+1)).2;rw[e];show(wK d x).1.set (lm (nth (qQ d) x)).toNat (nth (wK d x).1 (lm (nth (qQ d) x)).toNat+1*2^(gP (nth (qQ d) x)).toNat)=(wK d (x+1)).1;rw[mg,e];have c:yU d (gP (nth (qQ d) x)) (U.on (wK d x).1 (gP (nth (qQ d) x))++[lm (nth (qQ d) x)])=false:=c;have e:wK d (x+1)=((wK d x).1,(wK d x).2++[yY (nth (qQ d) x)]):=by
  rw[j];unfold bW;rw[c,jd (by simp)]
 refine⟨x0,h,by show((wK d x).2.length+1)*8<=140737488355328;omega,i64,x+1,⟨⟨tZ,by simp,tZ,tZ⟩,?_,?_,tZ⟩,up,t⟩;show(wK d x).2++[yY (nth (qQ d) x)]=(wK d (x+1)).2;rw[e];show(wK d x).1=(wK d (x+1)).1;rw[e];have h:¬(x:Int)<(qQ d).length:=jc h;have v:x<=(qQ d).length:=v;have p:x=(qQ d).length:=(by omega);subst p;rfl
end Go.X
namespace Go.X
open U
theorem nc (c:CrD) (j:JbD) (i:Nat):(yc (c,j,cG c j,()) (nth (wd c) i)=0)↔qy c j (i:Int)=true:=by
 show SJ (ct (nth (wd c) i) (WP j)) (!wD (U.fd (nth (wd c) i)) (OM j)) (!wD (U.cl (nth (wd c) i)) (mB j))=0↔
  (!(ct (nth (wd c) ((i:Int)).toNat) (WP j))&&wD (U.fd (nth (wd c) ((i:Int)).toNat)) (OM j)&&wD (U.cl (nth (wd c) ((i:Int)).toNat)) (mB j))=true
 rw[jw];generalize ct (nth (wd c) i) (WP j)=x;generalize wD (U.fd (nth (wd c) i)) (OM j)=y;generalize wD (U.cl (nth (wd c) i)) (mB j)=z;cases x<;>cases y<;>cases z<;>decide
theorem jaN {c:CrD} {j:JbD} (b:wo c=true) (d:wZ c j=true) (p:Nat):(p:Int)∈dh c j↔p<(wd c).length/\qy c j (p:Int)=true:=by
 have a:vl c j=0:=(by unfold vl;rw[b,d];rfl);unfold dh cv;rw[je a,jZ];refine⟨fun⟨i,hi,e⟩=> ?_,fun h=>⟨p,?_,rfl⟩⟩;have e:i=p:=(by omega);subst e;have:=jS.1 hi;exact⟨jE.1 this.1,(nc c j i).1 (ja this.2)⟩;exact jS.2 ⟨jE.2 h.1,jL ((nc c j p).2 h.2)⟩
theorem Vs {l:List Int} (h:∀p∈l,0<=p/\p<8):∀n,n<=l.length->∀q,BT.has (iN l n) q=(l.take n).any (fun p=>decide (p.toNat=q))
 |0,_,q=>BT.tn q
 |n+1,c,q=>by
  have b:=Vs h n (by omega) q
  have a:=pE h n (by omega)
  have d:=h _ (L.we (l:=l) (i:=n) (by omega))
  rw[ur (by omega),mg,BT.has_bor a.1 (BT.iw (by omega)),b,BT.AZ,L.wN (by omega),kT]
  simp
theorem Vt {l:List Int} (h:∀p∈l,0<=p/\p<8) (q:Nat):BT.has (Qf l) q=l.any (fun p=>decide (p.toNat=q)):=by
 have:=Vs h l.length (jj _) q;rw[zH] at this;exact this
theorem X6 {d:DyD} {b:Nat} (a:b<(wm d).length):nth (ye d (wm d).length) b=Qf (dh (wj d) (gN (nth (wm d) b))):=by
 unfold ye;rw[zH,L.nth_map a]
theorem Vu {d:DyD} (a:E2 d) {b:Nat} (c:b<(wm d).length):wZ (wj d) (gN (nth (wm d) b))=true:=
 jT.1 a.2.1 _ (L.we c)
theorem jaO {d:DyD} (g:E2 d) {b p:Int} (m:gR d b) (n:Lz d p):decide (iP (nth (ye d (wm d).length) b.toNat/2^p.toNat) 1=0)= !qy (wj d) (gN (U.bk d b)) p:=by
 unfold gR at m;unfold Lz at n;have a:b.toNat<(wm d).length:=(by omega);have j:=fun q (c:q∈dh (wj d) (gN (nth (wm d) b.toNat)))=>U9 g.1 c
 have o:BT.qz (Qf (dh (wj d) (gN (nth (wm d) b.toNat)))):=(pE j _ (jj _)).1;have i:U.bk d b=nth (wm d) b.toNat:=rfl;rw[X6 a,BT.bit_num o,i];have k:=Vt j p.toNat;have f:=jaN g.1 (Vu g a) p.toNat;have ep:((p.toNat:Nat):Int)=p:=(by omega);rw[ep] at f;have l:BT.has (Qf (dh (wj d) (gN (nth (wm d) b.toNat)))) p.toNat=qy (wj d) (gN (nth (wm d) b.toNat)) p:=by
  rw[k];cases h:qy (wj d) (gN (nth (wm d) b.toNat)) p with
  |true=>exact zb.2 ⟨p,f.2 ⟨by omega,h⟩,by simp⟩
  |false=>
   refine zj.2 fun q c e=> ?_
   have e:q.toNat=p.toNat:=ja e;have:=j q c;have e:q=p:=(by omega);rw[e] at c;rw[(f.1 c).2] at h;cases h
 rw[l];cases qy (wj d) (gN (nth (wm d) b.toNat)) p<;>rfl
theorem Kw {α:Type} [Inhabited α] {R:α->α->Prop} {l:List α}:(∀i,i<l.length->∀b∈l.take i,R b (nth l i))↔l.Pairwise R:=by
 rw[zB];refine⟨fun h i j hi a d=> ?_,fun h i hi b c=> ?_⟩;have:=h j a l[i] (zc.2 ⟨i,by omega,rfl⟩);rw[L.qb a] at this;exact this;obtain⟨k,hk,rfl⟩:=zc.1 c;rw[L.qb hi];exact h k i (by omega) hi (by omega)
theorem Vv {α:Type} [Inhabited α] {R:α->α->Prop} {l:List α}:(∀i,i<l.length->∀b∈l.drop (i+1),R (nth l i) b)↔l.Pairwise R:=by
 rw[zB];refine⟨fun h i j hi d c=> ?_,fun h i hi b a=> ?_⟩;have:=h i hi l[j] (List.mem_drop_iff_getElem.2 ⟨j-(i+1),by omega,by congr 1;omega⟩);rw[L.qb hi] at this;exact this;obtain⟨k,hk,rfl⟩:=List.mem_drop_iff_getElem.1 a;rw[L.qb hi];exact h i (i+1+k) hi (by omega) (by omega)
theorem mm (d:DyD) (a b:Int):gO d a b=true↔(qP (U.bk d a)<qP (U.bk d b)\/(qP (U.bk d a)=qP (U.bk d b)/\a<b)):=decide_eq_true_iff
theorem mn (d:DyD) (a b:Int):gO d a b=false↔¬(qP (U.bk d a)<qP (U.bk d b)\/(qP (U.bk d a)=qP (U.bk d b)/\a<b)):=jH
theorem Vw (d:DyD) (l:List Int):vN (gO d) l where
 irrefl x _:=(mn d x x).2 (by omega)
 trans x y z _ _ _ a b:=by
  have a:=(mm d x y).1 a;have b:=(mm d y z).1 b;exact(mm d x z).2 (by omega)
 total x y _ _ a b:=by
  have a:=(mn d x y).1 a;have b:=(mn d y x).1 b;omega
theorem C9 {d:DyD} {a b:Int} (h:a≠b) (c:gO d b a=false):gO d a b=true:=by
 have c:=(mn d b a).1 c;exact(mm d a b).2 (by omega)
theorem RZ {d:DyD} {a b:Int} (c:gO d a b=true):gO d b a=false:=by
 have c:=(mm d a b).1 c;exact(mn d b a).2 (by omega)
theorem sI {d:DyD} {a b:Int} (h:gO d a b=true):(wV d b a=decide (0<=bi d a b))/\(wV d a b=decide (0<=bi d a b)):=by
 unfold wV;rw[je h,RZ h,jd (by simp)];exact⟨rfl,rfl⟩
theorem X7 {d:DyD} {a b:Int} (h:a≠b):wV d a b=wV d b a:=by
 cases c:gO d b a with
 |false=>have:=sI (C9 h c);rw[this.1,this.2]
 |true=>have:=sI c;rw[this.1,this.2]
def TgR (d:DyD) (a b:Int):Prop:=a≠b->wV d b a=true
theorem Vx {d:DyD} {l:List Int} (f:l.Nodup):Zw d l=true↔l.Pairwise (TgR d):=by
 rw[<-Kw];unfold Zw;rw[jT];have e:∀i,i<l.length->∀b∈l.take i,b≠nth l i:=(Kw (R:=fun a b=>a≠b)).2 f;refine⟨fun h i hi b c _=> ?_,fun h i hi=>jT.2 fun b c=> ?_⟩;exact jT.1 (h i (jE.2 hi)) b c;exact h i (jE.1 hi) b c (e i (jE.1 hi) b c)
theorem TgR.symm {d:DyD} {a b:Int} (h:TgR d a b):TgR d b a:=fun e=>(X7 (Ne.symm e)).trans (h (Ne.symm e))
theorem Vy {d:DyD} {l l':List Int} (h:l.Perm l'):Ij d l=Ij d l':=by
 unfold Ij;exact List.Perm.foldl_eq' (h.map _) (fun x _ y _ z=>by omega) 0
theorem HF (d:DyD) (p:Int) {l:List Int} (a:l.Nodup):yU d p l=true↔(∀b∈l,qy (wj d) (gN (U.bk d b)) p=true)/\l.Pairwise (TgR d)/\Ij d l<=YM d:=by
 unfold yU;rw[ji,ji,jT,Vx a,decide_eq_true_iff]
theorem F5 (d:DyD) (p:Int) {l l':List Int} (h:l.Perm l') (g:l.Nodup):yU d p l=yU d p l':=by
 have f:=h.nodup_iff.1 g;refine jX.2 ?_;rw[HF d p g,HF d p f,Vy h,h.pairwise_iff (fun h=>TgR.symm h)];exact⟨fun⟨a,c⟩=>⟨fun b e=>a b (h.mem_iff.2 e),c⟩,fun⟨a,c⟩=>⟨fun b e=>a b (h.mem_iff.1 e),c⟩⟩
theorem X8 (d:DyD) (may:List Int) (p:Int) (s:List Int):jby d may p s=true↔(∀b∈s,decide (iP (nth may b.toNat/2^p.toNat) 1=0)=false)/\s.Pairwise (fun a b=>0<=bi d a b)/\Ij d s<=YM d:=by
 rw[<-Vv];unfold jby;rw[ji,decide_eq_true_iff,jT,<-and_assoc];refine and_congr_left fun _=> ?_
 have e:∀i,Il d may p s i=true↔decide (iP (nth may (nth s i).toNat/2^p.toNat) 1=0)=false/\∀b∈s.drop (i+1),0<=bi d (nth s i) b:=by
  intro i;unfold Il;rw[jQ,jN,zj];refine and_congr_right fun _=>⟨fun h b c=> ?_,fun h b c=> ?_⟩
  have:=h b c;simp at this;omega;have:=h b c;simp;omega
 refine⟨fun h=>⟨fun b c=> ?_,fun i hi=>((e i).1 (h i (jE.2 hi))).2⟩,fun h i hi=>(e i).2 ⟨h.1 _ (L.we (jE.1 hi)),h.2 i (jE.1 hi)⟩⟩;obtain⟨i,hi,rfl⟩:=L.mem_iff.1 c;exact((e i).1 (h i (jE.2 hi))).1
theorem jaP {d:DyD} {may:List Int} {p:Int} {l:List Int} (m:l.Nodup) (j:∀b∈l,decide (iP (nth may b.toNat/2^p.toNat) 1=0)= !qy (wj d) (gN (U.bk d b)) p):OO d may p l=yU d p l:=by
 have f:(wt d l).Perm l:=qa l;have c:(wt d l).Nodup:=f.nodup_iff.2 m;have k:(wt d l).Pairwise (fun a b=>gO d b a=false):=bU (Vw d l);rw[<-F5 d p f c];unfold OO;refine jX.2 ?_;rw[X8,HF d p c];have i:=List.Pairwise.and k c;refine and_congr ⟨fun h b e=> ?_,fun h b e=> ?_⟩ (and_congr_left fun _=>⟨fun h=> ?_,fun h=> ?_⟩);have g:=h b e;rw[j b (f.mem_iff.1 e)] at g;simpa using g;rw[j b (f.mem_iff.1 e),h b e];rfl;refine(List.Pairwise.and i h).imp fun{a b} x _=> ?_
 rw[(sI (C9 x.1.2 x.1.1)).1];exact jL x.2;refine(List.Pairwise.and i h).imp fun{a b} x=> ?_
 have:=x.2 x.1.2;rw[(sI (C9 x.1.2 x.1.1)).1] at this;exact ja this
theorem mo (a b:ShD):qN a b=true↔(DR b<DR a\/(DR a=DR b/\yY b<yY a)):=decide_eq_true_iff
theorem sJ (a b:ShD):qN a b=false↔¬(DR b<DR a\/(DR a=DR b/\yY b<yY a)):=jH
theorem df (a:ShD):qN a a=false:=(sJ a a).2 (by omega)
theorem F6 {a b:ShD} (h:qN a b=true):qN b a=false:=by
 have h:=(mo a b).1 h;exact(sJ b a).2 (by omega)
theorem Da {a b c:ShD} (d:qN a b=true) (e:qN b c=true):qN a c=true:=by
 have d:=(mo a b).1 d;have e:=(mo b c).1 e;exact(mo a c).2 (by omega)
theorem X9 (a b:ShD):ww a b<0↔qN b a=true:=by
 rw[mo];unfold ww;rw[qk,vR]
 split
 rename_i h;have c:¬DR a=DR b:=fun e=>h (aK.2 e)
 rw[UQ];omega;rename_i h;have d:DR a=DR b:=aK.1 (jR.1 h);rw[UQ];omega
theorem jaQ {l:List ShD} (hi:∀a∈l,∀b∈l,yY a=yY b->a=b):vN jbx l where
 irrefl x _:=df x
 trans x y z _ _ _ c d:=Da d c
 total x y hx hy c d:=by
  have c:=(sJ y x).1 c;have d:=(sJ x y).1 d;exact hi x hx y hy (by omega)
theorem Vz {l:List ShD}:∀i,i<l.length->∃j,j<l.length/\nth l j=nth l i/\mE l j=true:=by
 intro i
 induction i using Nat.strongRecOn with
 |_ i d=>
  intro hi;cases h:mE l i with
  |true=>exact⟨i,hi,rfl,h⟩
  |false=>
   simp only[mE,ze] at h;obtain⟨x,c,e⟩:=zb.1 h;obtain⟨k,hk,rfl⟩:=zc.1 c;have e:l[k]=nth l i:=ja e;obtain⟨j,b,a,e2⟩:=d k (by omega) (by omega);exact⟨j,b,by rw[a,L.qb (by omega)];exact e,e2⟩
theorem jaR {l:List ShD} {s:ShD} (h:s∈l) (c:0<=yY s) (d:yY s<=99):s∈wb l:=by
 obtain⟨i,hi,rfl⟩:=L.mem_iff.1 h;obtain⟨j,b,a,e2⟩:=Vz i hi;unfold wb vB;refine List.mem_flatMap.2 ⟨(yY (nth l i)).toNat,jE.2 (by omega),?_⟩;unfold cr;refine jZ.2 ⟨j,jS.2 ⟨jE.2 b,?_⟩,a⟩;show(decide (yY (nth l j)=(((yY (nth l i)).toNat:Nat):Int))&&mE l j)=true;rw[e2,a,Bool.and_true];exact jL (by omega)
theorem PV {l:List ShD} {n m:Nat} {s:ShD} (h:s∈cr l n m):yY s=(m:Int):=by
 unfold cr at h;obtain⟨i,hi,rfl⟩:=jZ.1 h;have a:=(jS.1 hi).2;rw[ji] at a;exact ja a.1
theorem R0 (l:List ShD):(wb l).Nodup:=by
 unfold wb vB;refine List.pairwise_flatMap.2 ⟨fun m _=> ?_,?_⟩;unfold cr;refine kg.2 (List.Pairwise.imp_of_mem ?_ (List.Pairwise.filter _ List.pairwise_lt_range));intro i j hi c k e;have c:=jS.1 c;have d:=c.2;rw[ji] at d;have f:=d.2;have n:=jE.1 c.1;have o:((l.take j).any (fun x=>decide (x=nth l j)))=true:=
  zb.2 ⟨nth l i,zc.2 ⟨i,by omega,(L.qb (by omega)).symm⟩,jL e⟩
 unfold mE at f;rw[o] at f;cases f;refine List.Pairwise.imp ?_ List.pairwise_lt_range;intro a b h x p y q e;have g:=PV p;have d:=PV q;rw[e] at g;omega
theorem PW (t s:ShD):fc t=fc s↔lm t=lm s/\gP t=gP s:=by
 unfold fc;refine⟨fun h=>⟨jF (·.1) h,jF (·.2.1) h⟩,fun h=>by rw[h.1,h.2]⟩
theorem NU (l:List ShD) (s:ShD):AX l s=true↔Ww s=1/\∀t∈l,fc t=fc s->qN t s=false:=by
 unfold AX;rw[ji,decide_eq_true_iff,jQ,zj];refine and_congr_right fun _=>⟨fun h t a e=> ?_,fun h t a e=> ?_⟩
 have e:=(PW t s).1 e;have:=h t a;rw[e.1,e.2,jL rfl,jL rfl] at this;simpa using this;rw[ji,ji,decide_eq_true_iff,decide_eq_true_iff] at e;rw[h t a ((PW t s).2 e.1)] at e;exact absurd e.2 (by simp)
theorem VA (d:DyD):cw d=(wb (w4 d)).filter (AX (wb (w4 d))):=by
 unfold cw;generalize wb (w4 d)=l;unfold wq;have e:(fun i=>vS l i l.length)=(AX l)∘(nth l):=by
  funext i;unfold vS;rw[zH];rfl
 rw[e];have:=List.filter_map (f:=nth l) (p:=AX l) (l:=List.range l.length);rw[<-this,L.range_map_nth]
theorem Kx (l:List ShD):∀n,∀i,i<n->qN (nth l (wI l n)) (nth l i)=false
 |0,i,h=>absurd h (by omega)
 |n+1,i,h=>by
  have b:=Kx l n
  rw[uu]
  split
  rename_i a
  rcases Nat.lt_succ_iff_lt_or_eq.1 h with h|h
  cases c:qN (nth l n) (nth l i) with
  |false=>rfl
  |true=>have:=Da a c;rw[b i h] at this;cases this
  subst h;exact df _
  rename_i a
  rcases Nat.lt_succ_iff_lt_or_eq.1 h with h|h
  exact b i h
  subst h;simpa using a
theorem VB (l:List ShD):∀n,n<=l.length->(wc l n).1.Pairwise (fun a b=>qN a b=false)/\∀a∈(wc l n).1,∀b∈(wc l n).2,qN a b=false
 |0,_=>⟨List.Pairwise.nil,fun a d=>by cases d⟩
 |n+1,m=>by
  obtain⟨j,g⟩:=VB l n (by omega)
  have k:=na l n (by omega)
  have h:=m9 (wc l n).2 _ (jj _) (by omega)
  have e:=Kx (wc l n).2 (wc l n).2.length
  have f:∀b∈(wc l n).2.take (wI (wc l n).2 (wc l n).2.length)++(wc l n).2.drop (wI (wc l n).2 (wc l n).2.length+1),b∈(wc l n).2:=by
   intro b c;rcases jr.1 c with c|c;exact kc c;exact z8 c
  refine⟨List.pairwise_append.2 ⟨j,List.pairwise_singleton _ _,fun a d b c=> ?_⟩,fun a d b c=> ?_⟩;simp at c;subst c;exact g a d _ (L.we h);have c:=f b c;have d:a∈(wc l n).1++[nth (wc l n).2 (wI (wc l n).2 (wc l n).2.length)]:=d;rcases jr.1 d with d|d;exact g a d b c;simp at d;subst d;obtain⟨i,hi,rfl⟩:=L.mem_iff.1 c;exact e i hi
theorem jaS (d:DyD):QW jbx (qQ d):=(VB (cw d) _ (jj _)).1
theorem PX (d:DyD):(qQ d).Perm (cw d):=by
 have a:=C8 (cw d) (cw d).length (jj _);have b:=(na (cw d) (cw d).length (jj _)).2;have:(wc (cw d) (cw d).length).2=[]:=List.length_eq_zero_iff.1 (by omega);rw[this,j8] at a;exact a
theorem PY {l:List ShD} (i:l.Pairwise (fun a b=>qN b a=true)):∀n,n<=l.length->∀s∈l.take n,(wH (Ty.dflt tSh) (wx tSt (fc s) (qU l n))=s↔∀t∈l.take n,fc t=fc s->qN t s=false)
 |0,_,s,c=>by simp at c
 |n+1,k,s,c=>by
  have j:=PY i n (by omega)
  have g:(l.take (n+1)).Pairwise (fun a b=>qN b a=true):=i.sublist (List.take_sublist _ _)
  rw[L.wN (by omega)] at g c
  have f:∀t∈l.take n,qN (nth l n) t=true:=fun t d=>(List.pairwise_append.1 g).2.2 t d _ (by simp)
  rw[CV (by omega),L.wN (by omega)]
  by_cases hk:fc s=fc (nth l n)
  rw[hk,M.pR]
  show nth l n=s↔_
  rcases jr.1 c with c|c
  refine⟨fun e=> ?_,fun h=> ?_⟩
  have:=f s c
  rw[e,df] at this;cases this
  have:=h (nth l n) (by simp) rfl
  rw[f s c] at this;cases this
  simp at c;subst c
  refine⟨fun _ t d _=> ?_,fun _=>rfl⟩
  rcases jr.1 d with d|d
  exact F6 (f t d)
  simp at d;subst d;exact df _
  rw[M.dH hk]
  have c:s∈l.take n:=by
   rcases jr.1 c with c|c;exact c;simp at c;subst c;exact absurd rfl hk
  rw[j s c];refine⟨fun h t d e=> ?_,fun h t d=>h t (jh _ d)⟩;rcases jr.1 d with d|d;exact h t d e;simp at d;subst d;exact absurd e.symm hk
theorem VC {d:DyD} (h:w5 d=0):(q9 d).Pairwise (fun a b=>qN b a=true):=by
 have f:=jdX h;have g:QW (wa tSh fun x=>(ww x.1 x.2.1,())) (q9 d):=bU f;have e:∀s∈q9 d,s∈qe (w4 d):=fun s i=>(qa _).mem_iff.1 i
 refine List.Pairwise.imp_of_mem ?_ (List.Pairwise.and g (eN d));intro a b j k ⟨h1,h2⟩;cases c:wa tSh (fun x=>(ww x.1 x.2.1,())) a b with
 |false=>exact absurd (f.total a b (e a j) (e b k) c h1) h2
 |true=>
  have c:ww a b<0:=ja c;exact(X9 a b).1 c
theorem Ky {d:DyD} (h:w5 d=0) {s:ShD} (a:s∈q9 d):yd (qU (q9 d) (q9 d).length) s=true↔Ww s=1/\∀t∈q9 d,fc t=fc s->qN t s=false:=by
 have:=PY (VC h) (q9 d).length (jj _) s (by rw[zH];exact a);rw[zH] at this;rw[<-this];unfold yd;rw[jQ,jN,ze,ze,decide_eq_true_iff,decide_eq_true_iff];exact and_comm
theorem VD {d:DyD} (h:qn d=true) {s:ShD} (a:s∈w4 d):0<=yY s/\yY s<=99:=by
 have:=(vP h).2.2.2.2.2.2.2 _ a;unfold mD at this;have:=ja this;omega
def WO (d:DyD):ShD->Bool:=yd (qU (q9 d) (q9 d).length)
theorem jcr {d:DyD} (h:w5 d=0):(q9 d).filter (WO d)=qQ d:=by
 have j:=gi h;have f:∀s,s∈wb (w4 d)↔s∈q9 d:=fun s=>⟨fun c=>im.2 (HE c),fun c=>by
  have c:=im.1 c;have:=VD j.1.2.2 c;exact jaR c this.1 this.2⟩
 have g:∀s,s∈(q9 d).filter (WO d)↔s∈qQ d:=by
  intro s;rw[(PX d).mem_iff,VA,jS,jS,f s];refine and_congr_right fun c=> ?_
  rw[NU];have:=Ky h c;refine this.trans (and_congr_right fun _=>⟨fun h t i=>h t ((f t).1 i),fun h t i=>h t ((f t).2 i)⟩)
 have n:((q9 d).filter (WO d)).Nodup:=List.Pairwise.filter _ (eN d);have o:(qQ d).Nodup:=(PX d).nodup_iff.2 (by rw[VA];exact List.Pairwise.filter _ (R0 _));have m:=L.Fa n o g;refine oX (jaQ ?_) m ?_ (jaS d);intro a k b l e;exact j.2 a (im.1 (jS.1 k).1) b (im.1 (jS.1 l).1) e;exact(List.Pairwise.filter _ (VC h)).imp fun x=>F6 x
structure EA (d:DyD) (x:List (List Int)×List Int) (y:List Int×List Int):Prop where
 ref:x.2=y.2
 len:y.1.length=(wm d).length
 set:∀b,b<(wm d).length->BT.qz (nth y.1 b)
 bit:∀b,b<(wm d).length->∀p,BT.has (nth y.1 b) p=true↔p<(wd (wj d)).length/\(b:Int)∈nth x.1 p
theorem AV {t:Int} (h:BT.qz t) (p:Int):wD t p=BT.has t p.toNat:=BT.has_shr h p.toNat
theorem jcs {d:DyD} {x:List (List Int)×List Int} {y:List Int×List Int} (h:EA d x y) {p:Int} (j:Lz d p) (g:∀b∈nth x.1 p.toNat,gR d b) (n:Int):n∈U.on y.1 p↔n∈nth x.1 p.toNat:=by
 unfold Lz at j;unfold U.on nS;rw[jZ];refine⟨fun⟨i,hi,e⟩=> ?_,fun f=> ?_⟩;subst e;have hi:=jS.1 hi;have a:=jE.1 hi.1;rw[h.len] at a;have c:wD (nth y.1 i) p=true:=hi.2;rw[AV (h.set i a)] at c;exact((h.bit i a p.toNat).1 c).2;have hk:=g n f;unfold gR at hk;have en:((n.toNat:Nat):Int)=n:=(by omega);refine⟨n.toNat,jS.2 ⟨jE.2 (by rw[h.len];omega),?_⟩,en⟩;show wD (nth y.1 n.toNat) p=true;rw[AV (h.set _ (by omega))];exact(h.bit _ (by omega) _).2 ⟨by omega,by rw[en];exact f⟩
theorem Ya (t:List Int) (p:Int):(U.on t p).Nodup:=by
 unfold U.on nS;refine kg.2 ((List.Pairwise.filter _ List.pairwise_lt_range).imp ?_);intro a b c e;omega
theorem jaT {d:DyD} {x:List (List Int)×List Int} {y:List Int×List Int} (h:EA d x y) {p:Int} (e:Lz d p) (c:(nth x.1 p.toNat).Nodup) (a:∀b∈nth x.1 p.toNat,gR d b):(nth x.1 p.toNat).Perm (U.on y.1 p):=
 L.Fa c (Ya _ _) (fun n=>(jcs h e a n).symm)
theorem jct {d:DyD} (i:E2 d) {x:List (List Int)×List Int} {y:List Int×List Int} (h:EA d x y) {p b:Int} (g:Lz d p) (e:(nth x.1 p.toNat++[b]).Nodup) (f:∀c∈nth x.1 p.toNat++[b],gR d c):
 OO d (ye d (wm d).length) p (nth x.1 p.toNat++[b])=yU d p (U.on y.1 p++[b]):=by
 rw[jaP e (fun c a=>jaO i (f c a) g)];exact F5 d p ((jaT h g (zG.1 e).1 (fun c a=>f c (jh _ a))).append_right [b]) e
theorem jcu {d:DyD} {x:List (List Int)×List Int} {y:List Int×List Int} (h:EA d x y) (v:x.1.length=(wd (wj d)).length) (u:(wd (wj d)).length<=8) {p b:Int} (t:Lz d p) (s:gR d b) (i:b∉nth x.1 p.toNat):
 EA d (x.1.set p.toNat (nth x.1 p.toNat++[b]),x.2) (y.1.set b.toNat (nth y.1 b.toNat+2^p.toNat),y.2):=by
 unfold Lz at t;unfold gR at s;have r:((b.toNat:Nat):Int)=b:=(by omega);have g:b.toNat<y.1.length:=(by rw[h.len];omega);have n:p.toNat<x.1.length:=(by omega);have o:=h.set b.toNat (by omega);have m:BT.has (nth y.1 b.toNat) p.toNat=false:=by
  cases j:BT.has (nth y.1 b.toNat) p.toNat with
  |false=>rfl
  |true=>exact absurd (by have:=((h.bit _ (by omega) _).1 j).2;rw[r] at this;exact this) i
 have a:=BT.add_two o (p:=p.toNat) (by omega) m;have j:=BT.iw (k:=p.toNat) (by omega);refine⟨h.ref,by show(y.1.set _ _).length=_;rw[zM];exact h.len,fun c l=> ?_,fun c l q=> ?_⟩;show BT.qz (nth (y.1.set b.toNat (nth y.1 b.toNat+2^p.toNat)) c);rw[L.gj g]
 split
 rw[a];exact BT.bor_set o j;exact h.set c l;show BT.has (nth (y.1.set b.toNat (nth y.1 b.toNat+2^p.toNat)) c) q=true↔_/\(c:Int)∈nth (x.1.set p.toNat (nth x.1 p.toNat++[b])) q;rw[L.gj g,L.gj n];by_cases f:b.toNat=c;rw[je f,a,BT.has_bor o j,BT.AZ,zr,decide_eq_true_iff,h.bit _ (by omega),<-f,r];by_cases e:p.toNat=q;rw[je e];refine⟨fun _=>⟨by omega,by simp⟩,fun _=> .inr e⟩;rw[jd e];exact⟨fun h=>h.elim id (fun h=>absurd h e),.inl⟩;rw[jd f,h.bit c l];by_cases e:p.toNat=q;rw[je e,jr,<-e];refine and_congr_right fun _=>⟨.inl,fun h=>h.elim id (fun h=> ?_)⟩
 simp at h;omega;rw[jd e]
theorem Yb (d:DyD):EA d (yi (LA d) (q9 d) 0) (List.replicate (wm d).length 0,[]):=by
 have c:∀b,b<(wm d).length->nth (List.replicate (wm d).length (0:Int)) b=0:=fun b a=>L.bN a
 refine⟨rfl,za,fun b a=> ?_,fun b a p=> ?_⟩;show BT.qz (nth (List.replicate (wm d).length (0:Int)) b);rw[c b a];exact BT.DO;show BT.has (nth (List.replicate (wm d).length (0:Int)) b) p=true↔_/\(b:Int)∈nth (jbN d) p;rw[c b a,BT.tn];have f:jbz (jbN d):=fun x g=>(List.mem_replicate.1 g).2
 have e:nth (jbN d) p=[]:=PN f p;rw[e];simp
def VE (d:DyD) (i:Nat):List Int×List Int:=(((q9 d).take i).filter (WO d)).foldl (bW d) (List.replicate (wm d).length 0,[])
attribute [local irreducible] yi yU OO U.on VE q9 WO LA ye in
theorem Yc {d:DyD} (h:w5 d=0) {i:Nat} (hi:i<(q9 d).length) (ih:EA d (yi (LA d) (q9 d) i) (VE d i)) (_:dl (LA d) (q9 d) i (yi (LA d) (q9 d) i)) (hrd:U.rd (LA d)=d) (hml:mH (LA d)=ye d (wm d).length)
 (hx:(yi (LA d) (q9 d) i).1.length=(wd (wj d)).length) (hdec:WO d=yd (qU (q9 d) (q9 d).length)) (hft:VE d (i+1)=if WO d (nth (q9 d) i)=true then bW d (VE d i) (nth (q9 d) i) else VE d i)
 (hnew:WO d (nth (q9 d) i)=true->(nth (yi (LA d) (q9 d) i).1 (gP (nth (q9 d) i)).toNat++[lm (nth (q9 d) i)]).Nodup/\∀b∈nth (yi (LA d) (q9 d) i).1 (gP (nth (q9 d) i)).toNat++[lm (nth (q9 d) i)],gR d b):
 EA d (yi (LA d) (q9 d) (i+1)) (VE d (i+1)):=by
 have hD:=(gi h).1
 have h8:(wd (wj d)).length<=8:=(wU hD.1).2.2.1
 have hsf:=mZ hD.2.2 (im.1 (L.we (l:=q9 d) (i:=i) hi))
 rw[hft]
 cases hc:WO d (nth (q9 d) i) with
 |false=>
  rw[hdec] at hc
  rw[PO hi hc,jd (by simp)]
  exact ih
 |true=>
  have hn:=hnew hc
  have hcan:=jct hD ih (p:=gP (nth (q9 d) i)) (b:=lm (nth (q9 d) i)) hsf.1 hn.1 hn.2
  rw[hdec] at hc
  rw[je rfl]
  unfold bW
  cases hk:yU d (gP (nth (q9 d) i)) (U.on (VE d i).1 (gP (nth (q9 d) i))++[lm (nth (q9 d) i)]) with
  |true=>
   rw[hk] at hcan
   rw[U6 hi hc (by rw[hrd,hml];exact hcan),je rfl]
   refine jcu ih hx h8 hsf.1 hsf.2 (fun hin=> ?_)
   exact(zG.1 hn.1).2.2 _ hin _ (by simp) rfl
  |false=>
   rw[hk] at hcan
   rw[Zi hi hc (by rw[hrd,hml];exact hcan),jd (by simp)]
   exact⟨jF (·++[yY (nth (q9 d) i)]) ih.ref,ih.len,ih.set,ih.bit⟩
theorem VF {d:DyD} (h:w5 d=0):∀i,i<=(q9 d).length->EA d (yi (LA d) (q9 d) i) (VE d i)
 |0,_=>Yb d
 |i+1,hi=>by
  have k:=VF h i (by omega)
  obtain⟨⟨_,m⟩,⟨j,b⟩,c⟩:=Va h
  have f:=(gi h).1
  have a:=Nc (r:=LA d) (l:=q9 d) f.2.2 (fun s e=>im.1 e) (eN d) j b c i (by omega)
  refine Yc h hi k a rfl rfl a.1 rfl ?_ fun g=> ?_
  unfold VE
  rw[L.filter_take (p:=WO d) (l:=q9 d) (i:=i) hi,jU]
  split<;>rfl
  have:=U3 (r:=LA d) (l:=q9 d) f.2.2 (fun s e=>im.1 e) (eN d) hi a g
  exact⟨this.1,this.2.1⟩
theorem Yd {d:DyD} (h:w5 d=0):VE d (q9 d).length=Iq d:=by
 unfold VE Iq wK;rw[zH,zH,jcr h]
theorem Db {d:DyD} (h:w5 d=0):EA d (bn (S3 d),(yi (LA d) (q9 d) (q9 d).length).2) (Iq d):=by
 have:=VF h _ (jj _);rw[Yd h] at this;exact⟨this.ref,this.len,this.set,this.bit⟩
theorem PZ (on:List (List Int)) (b:Int):∀n,n<=60->BT.qz (aH on b n)/\∀q,BT.has (aH on b n) q=true↔q<n/\b∈nth on q
 |0,_=>⟨BT.DO,fun q=>by
  have:aH on b 0=0:=rfl
  rw[this,BT.tn];simp⟩
 |n+1,m=>by
  obtain⟨f,i⟩:=PZ on b n (by omega)
  have g:=BT.iw (k:=n) (by omega)
  have a:(nth on n).any (fun x=>decide (x=b))=true↔b∈nth on n:=by
   rw[zb];exact⟨fun⟨x,l,e⟩=>(ja e)▸l,fun j=>⟨b,j,jL rfl⟩⟩
  rw[CS]
  split
  rename_i c;have c:=a.1 c;rw[mg];refine⟨BT.bor_set f g,fun q=> ?_⟩;rw[BT.has_bor f g,BT.AZ,zr,decide_eq_true_iff,i];refine⟨fun h=>h.elim (fun h=>⟨by omega,h.2⟩) (fun h=>by subst h;exact⟨by omega,c⟩),fun h=> ?_⟩;by_cases d:q=n;exact .inr d.symm;exact .inl ⟨by omega,h.2⟩;rename_i c;refine⟨f,fun q=> ?_⟩;rw[i];refine⟨fun h=>⟨by omega,h.2⟩,fun h=>⟨?_,h.2⟩⟩;by_cases d:q=n;subst d;exact absurd (a.2 h.2) c;omega
theorem VG {d:DyD} (h:w5 d=0) {b:Nat} (a:b<(wm d).length):dE (bn (S3 d)) (b:Int)=nth (Iq d).1 b:=by
 have f:=Db h;have c:=Vb h;have g:=PZ (bn (S3 d)) (b:Int) (bn (S3 d)).length c.len60;refine BT.ext g.1 (f.set b a) fun p=>jX.2 ?_
 have e:=(g.2 p).trans (f.bit b a p|>.trans (by rw[<-c.len])).symm;exact e
theorem jcv {d:DyD} (h:w5 d=0):ae d (wm d).length=(Iq d).1:=by
 have b:=Db h;have a:(ae d (wm d).length).length=(wm d).length:=(by unfold ae;simp);refine L.ext_nth (by rw[a];exact b.len.symm) fun i hi=> ?_
 rw[a] at hi;unfold ae;rw[L.nth_map (by simpa using hi)];have:nth (List.range (wm d).length) i=i:=(by rw[L.qb (by simpa using hi)];simp);rw[this];exact VG h hi
theorem VH (d:DyD):cJ d=if gQ d=0 then(Iq d).1 else[]:=by
 unfold cJ;rw[de]
 split
 rename_i h;exact jcv ((de d).trans h);rfl
end Go.X
namespace Go.X
open U
open Go.Proofs
theorem R1 (l:List ShD) (n:Nat):wq l (n+1)=wq l n++(if vS l n l.length=true then[nth l n] else[]):=by
 unfold wq;rw[L.vQ,zw];by_cases h:vS l n l.length=true;rw[je h,je h];rfl;rw[jd h,jd h];rfl
theorem Kz (l:List ShD) (n:Nat):(wq l n).length<=n:=by
 unfold wq;rw[zp];exact jD (zF _ _) (by simp)
theorem NV {l:List ShD} {i k:Nat} (h:k<l.length):vS l i (k+1)=(vS l i k&& !(decide (lm (nth l k)=lm (nth l i))&&decide (gP (nth l k)=gP (nth l i))&&qN (nth l k) (nth l i))):=by
 unfold vS;rw[L.wN h,kT];generalize (l.take k).any _=a;generalize decide (Ww (nth l i)=1)=b;simp only[List.any_cons,List.any_nil,kO];generalize (decide (lm (nth l k)=lm (nth l i))&&decide (gP (nth l k)=gP (nth l i))&&qN (nth l k) (nth l i))=c;cases a<;>cases b<;>cases c<;>rfl
theorem R2 (l:List ShD):wq l 0=[]:=rfl
theorem KA (l:List ShD):wc l 0=([],l):=rfl
theorem R3 (l:List ShD):wI l 0=0:=rfl
theorem R4 (l:List ShD) (n:Nat):(wc l (n+1)).1=(wc l n).1++[nth (wc l n).2 (wI (wc l n).2 (wc l n).2.length)]:=rfl
theorem R5 (l:List ShD) (n:Nat):(wc l (n+1)).2=(wc l n).2.take (wI (wc l n).2 (wc l n).2.length)++(wc l n).2.drop (wI (wc l n).2 (wc l n).2.length+1):=rfl
theorem Ye {α:Type} (l:List α) (m:Nat):[]++List.take (((m:Int)).toNat-Int.toNat 0) (List.drop (Int.toNat 0) l)++List.take (((l.length:Int)).toNat-((m:Int)+1).toNat) (List.drop ((m:Int)+1).toNat l)=l.take m++l.drop (m+1):=by
 have a:((m:Int)+1).toNat=m+1:=(by omega);have e2:Int.toNat 0=0:=rfl;rw[a,e2,jw,jw,List.drop_zero,kx,jW,zv (l:=List.drop (m+1) l) (by rw[zD];omega)]
theorem jaU (d:DyD):wq (wb (w4 d)) (wb (w4 d)).length=cw d:=rfl
theorem jaV (d:DyD):(wc (cw d) (cw d).length).1=qQ d:=rfl
attribute [local irreducible] wc wI wq wb cw qQ vS
theorem NW (d:DyD) (W:List ShD) (r:W.length<=100000) (l:(wc W W.length).1=qQ d):
 (∃x:Nat,((True/\True/\True)/\W=(wc W x).2/\(wc W x).1=[]/\True)/\x<=W.length)/\∀n:Nat,n<=W.length->(wc W n).2.length<4611686018427387904->
  (decide ((0:Int)<(wc W n).2.length)=true->(∃x:Nat,(((0:Int)=(x:Int)/\(0:Int)=(wI (wc W n).2 x:Int)/\True)/\True)/\x<=(wc W n).2.length)/\∀i:Nat,i<=(wc W n).2.length->(wc W n).2.length<4611686018427387904->
   (decide ((i:Int)<(wc W n).2.length)=true->(0:Int)<=(wI (wc W n).2 i:Int)/\(wI (wc W n).2 i:Int)<(wc W n).2.length/\(0:Int)<=(i:Int)/\(i:Int)<(wc W n).2.length/\
    (qN (nth (wc W n).2 ((wI (wc W n).2 i:Int)).toNat) (nth (wc W n).2 ((i:Int)).toNat)=true->wn ((i:Int)+1)/\∃a:Nat,(((i:Int)+1=(a:Int)/\(i:Int)=(wI (wc W n).2 a:Int)/\True)/\True)/\a<=(wc W n).2.length/\(wc W n).2.length-a<(wc W n).2.length-i)/\
    (qN (nth (wc W n).2 ((wI (wc W n).2 i:Int)).toNat) (nth (wc W n).2 ((i:Int)).toNat)=false->wn ((i:Int)+1)/\∃a:Nat,(((wI (wc W n).2 i:Int)=(wI (wc W n).2 a:Int)/\(i:Int)+1=(a:Int)/\True)/\True)/\a<=(wc W n).2.length/\(wc W n).2.length-a<(wc W n).2.length-i))/\
   (decide ((i:Int)<(wc W n).2.length)=false->(0:Int)<=(wI (wc W n).2 i:Int)/\(wI (wc W n).2 i:Int)<(wc W n).2.length/\
    ((wc W n).1.length+[nth (wc W n).2 ((wI (wc W n).2 i:Int)).toNat].length)*40<=140737488355328/\(0:Int)<=0/\(0:Int)<=(wI (wc W n).2 i:Int)/\(wI (wc W n).2 i:Int)<=(wc W n).2.length/\
    (0+(List.take (((wI (wc W n).2 i:Int)).toNat-Int.toNat 0) (List.drop (Int.toNat 0) (wc W n).2)).length)*40<=140737488355328/\wn ((wI (wc W n).2 i:Int)+1)/\(0:Int)<=(wI (wc W n).2 i:Int)+1/\
    (wI (wc W n).2 i:Int)+1<=((wc W n).2.length:Int)/\((wc W n).2.length:Int)<=(wc W n).2.length/\
    (([]++List.take (((wI (wc W n).2 i:Int)).toNat-Int.toNat 0) (List.drop (Int.toNat 0) (wc W n).2)).length+(List.take ((((wc W n).2.length:Int)).toNat-((wI (wc W n).2 i:Int)+1).toNat) (List.drop ((wI (wc W n).2 i:Int)+1).toNat (wc W n).2)).length)*40<=140737488355328/\
    ∃a:Nat,((True/\True/\True)/\[]++List.take (((wI (wc W n).2 i:Int)).toNat-Int.toNat 0) (List.drop (Int.toNat 0) (wc W n).2)++List.take ((((wc W n).2.length:Int)).toNat-((wI (wc W n).2 i:Int)+1).toNat) (List.drop ((wI (wc W n).2 i:Int)+1).toNat (wc W n).2)=(wc W a).2/\
     (wc W n).1++[nth (wc W n).2 ((wI (wc W n).2 i:Int)).toNat]=(wc W a).1/\True)/\a<=W.length/\W.length-a<W.length-n))/\
  (decide ((0:Int)<(wc W n).2.length)=false->((wc W n).1,())=(qQ d,())):=by
 refine⟨⟨0,⟨⟨tZ,tZ,tZ⟩,by rw[KA],by rw[KA],tZ⟩,jp _⟩,fun n o _=> ?_⟩;obtain⟨t,u⟩:=na W n o;have s:∀i,wI (wc W n).2 i+0=wI (wc W n).2 i:=fun _=>rfl
 refine⟨fun b=>⟨⟨0,⟨⟨rfl,by rw[R3];rfl,tZ⟩,tZ⟩,jp _⟩,fun i hi _=>⟨fun e=> ?_,fun e=> ?_⟩⟩,fun b=> ?_⟩;have b:(0:Int)<(wc W n).2.length:=ja b;have e:(i:Int)<(wc W n).2.length:=ja e;have m:=m9 (wc W n).2 i hi (by omega);have j:=uu (wc W n).2 i;have up:i+1<=(wc W n).2.length:=(by omega);have h:(wc W n).2.length-(i+1)<(wc W n).2.length-i:=(by omega);refine⟨j7 _,by omega,j7 _,e,fun c=>⟨iZ6,i+1,⟨⟨by simp,?_,tZ⟩,tZ⟩,up,h⟩,fun c=>⟨iZ6,i+1,⟨⟨?_,by simp,tZ⟩,tZ⟩,up,h⟩⟩;have c:qN (nth (wc W n).2 (wI (wc W n).2 i)) (nth (wc W n).2 i)=true:=c;rw[j,je c];have c:qN (nth (wc W n).2 (wI (wc W n).2 i)) (nth (wc W n).2 i)=false:=c;rw[j,jd (by rw[c];simp)];have b:(0:Int)<(wc W n).2.length:=ja b;have e:¬(i:Int)<(wc W n).2.length:=jc e;have f:i=(wc W n).2.length:=(by omega);subst f;have m:=m9 (wc W n).2 _ (jj _) (by omega);have k:=Ye (wc W n).2 (wI (wc W n).2 (wc W n).2.length);have p:=R4 W n;have q:=R5 W n;refine⟨j7 _,by omega,by show((wc W n).1.length+1)*40<=140737488355328;omega,zR 0,j7 _,by omega,?_,iZ6,by omega,by omega,zR _,?_,n+1,⟨⟨tZ,tZ,tZ⟩,?_,?_,tZ⟩,by omega,by omega⟩;rw[jY,zD];omega;rw[jW,jY,jY,zD,zD];omega;rw[q];exact k;rw[p];rfl;have b:¬(0:Int)<(wc W n).2.length:=jc b;have g:n=W.length:=(by omega);subst g;rw[l]
theorem NX:Ku:=by
 unfold Ku jeU jeD jev jfp jhd jiB jeX jiA jgg jeq Prod.q4;rintro⟨d,⟨⟩⟩ j;have j:(w4 d).length<=1000:=j;have f:(wb (w4 d)).length<=100000:=jD (by unfold wb;exact m0 _ 100) (by omega);refine⟨j,⟨0,⟨⟨rfl,tZ,tZ⟩,R2 _,tZ⟩,jp _⟩,fun x o _=>⟨fun h=> ?_,fun h=> ?_⟩⟩;have h:(x:Int)<(wb (w4 d)).length:=ja h;have x0:(0:Int)<=(x:Int):=j7 x;refine⟨x0,h,⟨0,⟨⟨rfl,?_,tZ⟩,tZ⟩,jp _⟩,fun k hk _=>⟨fun b=> ?_,fun b=> ?_⟩⟩;show decide (Ww (nth (wb (w4 d)) x)=1)=vS (wb (w4 d)) x 0;unfold vS;simp;have b:(k:Int)<(wb (w4 d)).length:=ja b;have n:(0:Int)<=(k:Int):=j7 k;have e:=NV (l:=wb (w4 d)) (i:=x) (k:=k) (by omega);have up:k+1<=(wb (w4 d)).length:=(by omega);have c:(wb (w4 d)).length-(k+1)<(wb (w4 d)).length-k:=(by omega);have i64:wn ((k:Int)+1):=iZ6;refine⟨n,b,x0,h,fun _=>n,fun _=>b,fun _=>x0,fun _=>h,fun _=>n,fun _=>b,fun _=>x0,fun _=>h,fun a=>⟨i64,k+1,⟨⟨by simp,?_,tZ⟩,tZ⟩,up,c⟩,fun a=>⟨i64,k+1,⟨⟨?_,by simp,tZ⟩,tZ⟩,up,c⟩⟩;have a:(decide (lm (nth (wb (w4 d)) k)=lm (nth (wb (w4 d)) x))&&decide (gP (nth (wb (w4 d)) k)=gP (nth (wb (w4 d)) x))&&qN (nth (wb (w4 d)) k) (nth (wb (w4 d)) x))=true:=a;show false=vS (wb (w4 d)) x (k+1);rw[e,a];simp;have a:(decide (lm (nth (wb (w4 d)) k)=lm (nth (wb (w4 d)) x))&&decide (gP (nth (wb (w4 d)) k)=gP (nth (wb (w4 d)) x))&&qN (nth (wb (w4 d)) k) (nth (wb (w4 d)) x))=false:=a;show vS (wb (w4 d)) x k=vS (wb (w4 d)) x (k+1);rw[e,a];simp;have b:¬(k:Int)<(wb (w4 d)).length:=jc b;have hk:k<=(wb (w4 d)).length:=hk;have g:k=(wb (w4 d)).length:=(by omega);subst g;have e:=R1 (wb (w4 d)) x;have p:=Kz (wb (w4 d)) x;have up:x+1<=(wb (w4 d)).length:=(by omega);have c:(wb (w4 d)).length-(x+1)<(wb (w4 d)).length-x:=(by omega);have i64:wn ((x:Int)+1):=iZ6;refine⟨fun a=>⟨x0,h,by show((wq (wb (w4 d)) x).length+1)*40<=140737488355328;omega,i64,x+1,⟨⟨by simp,tZ,tZ⟩,?_,tZ⟩,up,c⟩,fun a=>⟨i64,x+1,⟨⟨tZ,by simp,tZ⟩,?_,tZ⟩,up,c⟩⟩;have a:vS (wb (w4 d)) x (wb (w4 d)).length=true:=a;show wq (wb (w4 d)) x++[nth (wb (w4 d)) x]=wq (wb (w4 d)) (x+1);rw[e,je a];have a:vS (wb (w4 d)) x (wb (w4 d)).length=false:=a;show wq (wb (w4 d)) x=wq (wb (w4 d)) (x+1);rw[e,jd (by rw[a];simp),j8];have h:¬(x:Int)<(wb (w4 d)).length:=jc h;have o:x<=(wb (w4 d)).length:=o;have m:x=(wb (w4 d)).length:=(by omega);subst m;refine NW d (wq (wb (w4 d)) (wb (w4 d)).length) (jD (Kz _ _) f) ?_;rw[jaU];exact jaV d
theorem KB:wX PR 109 Ks:=vF Kt NX Tryz.func109 (kcC Ey (kcC NG kcN)) koN
theorem NY:wX PR 78 NN:=vF NO RY Tryz.func78 (kcC KB (kcC NI kcN)) (koC NS koN)
theorem NZ:wX PR 48 NQ:=wJ RX Tryz.func48 (kcC pF (kcC NY kcN)) koN
end Go.X
namespace Go.X
open U
open Go.Proofs
namespace U
def jd2 (d:DyD) (t:List Int) (b:Nat):Bool:=DJ (wj d) (gN (nth (wm d) b)) (nth t b)
def Zx (d:DyD) (t:List Int) (n:Nat):List Int:=((List.range n).filter (jd2 d t)).map (fun(b:Nat)=>(b:Int))
def jd3 (d:DyD):List Int:=if gQ d=0 then Zx d (tu d) (tu d).length else[]
end U
theorem jaW {d:DyD} (h:gQ d=0):(Iq d).1.length=(wm d).length:=(Db ((de d).trans h)).len
theorem jaX {d:DyD} (h:gQ d=0) {b:Nat} (a:b<(wm d).length):WQ (nth (Iq d).1 b):=by
 have c:=Db ((de d).trans h);have i:(wd (wj d)).length<=8:=(wU (Kv h).1).2.2.1;have e:=c.set b a;have f:=BT.lt_of_has (k:=8) e (fun p g=>by have:=((c.bit b a p).1 g).1;omega);exact⟨e.1,f⟩
theorem VI {d:DyD} (h:gQ d=0):tu d=(Iq d).1:=je h
theorem HG {d:DyD} (h:gQ d=0):(tu d).length=(wm d).length:=by rw[VI h];exact jaW h
section
attribute [local irreducible] Iq gQ
end
section
attribute [local irreducible] Zx tu gQ DJ
end
section
attribute [local irreducible] yU U.on wD E2
end
section
attribute [local irreducible] tu gQ wD
end
end Go.X
namespace Go.X
open U
open Go.Proofs
section
attribute [local irreducible] tu gQ DJ WQ
end
end Go.X
namespace Go.X
open U
open Go.Proofs
theorem Dc (n m:Nat):n|||m=0↔n=0/\m=0:=by
 constructor;intro h;constructor;refine kf fun i=> ?_
 have:=jF (fun z=>Nat.testBit z i) h;simp only[kW,Nat.zero_testBit,jN] at this;rw[this.1,Nat.zero_testBit];refine kf fun i=> ?_
 have:=jF (fun z=>Nat.testBit z i) h;simp only[kW,Nat.zero_testBit,jN] at this;rw[this.2,Nat.zero_testBit];rintro⟨rfl,rfl⟩;rfl
theorem P0 {a b:Int} (c:0<=a/\a<64) (d:0<=b/\b<64):uor a b=0↔a=0/\b=0:=by
 obtain⟨n,rfl⟩:∃n:Nat,a=(n:Int):=⟨a.toNat,by omega⟩;obtain⟨m,rfl⟩:∃m:Nat,b=(m:Int):=⟨b.toNat,by omega⟩;rw[BT.uor_nat (by omega) (by omega)];have:=Dc n m;omega
theorem Yf {a b:Int} (c:0<=a/\a<64) (d:0<=b/\b<64):bor a b=0↔a=0/\b=0:=by
 obtain⟨n,rfl⟩:∃n:Nat,a=(n:Int):=⟨a.toNat,by omega⟩;obtain⟨m,rfl⟩:∃m:Nat,b=(m:Int):=⟨b.toNat,by omega⟩;rw[BT.bor_nat (by omega) (by omega)];have:=Dc n m;omega
theorem Yg {a b:Int} (c:0<=a/\a<64) (d:0<=b/\b<64):0<=bor a b/\bor a b<64:=by
 obtain⟨n,rfl⟩:∃n:Nat,a=(n:Int):=⟨a.toNat,by omega⟩;obtain⟨m,rfl⟩:∃m:Nat,b=(m:Int):=⟨b.toNat,by omega⟩;rw[BT.bor_nat (by omega) (by omega)];have:n|||m<2^6:=kr (by omega) (by omega);omega
theorem Dd {b:Bool} {o k:Int} (h:0<=o/\o<64) (hk:0<k/\k<64):E1 b o k=0↔b=false/\o=0:=by
 unfold E1;cases b with
 |false=>rw[jd (by simp)];simp
 |true=>
  rw[je rfl,P0 h ⟨by omega,by omega⟩];refine⟨fun h=>absurd h.2 (by omega),fun h=>absurd h.1 (by simp)⟩
theorem nf {b:Bool} {o k:Int} (h:0<=o/\o<64) (hk:0<k/\k<64):Qh b o k=0↔b=false/\o=0:=by
 unfold Qh;cases b with
 |false=>rw[jd (by simp)];simp
 |true=>
  rw[je rfl,Yf h ⟨by omega,by omega⟩];refine⟨fun h=>absurd h.2 (by omega),fun h=>absurd h.1 (by simp)⟩
theorem KC {b:Bool} {o k:Int} (h:0<=o/\o<64) (hk:0<k/\k<64):0<=Qh b o k/\Qh b o k<64:=by
 unfold Qh
 split
 exact Yg h ⟨by omega,hk.2⟩;exact h
theorem KE (t:TkD):∀(q:List (Int×PeD×Unit)) (o:Int),(0<=o/\o<64)->(cH t o q=0↔o=0/\∀x∈q,yc t x.2.1=0)
 |[],o,_=>by
  show o=0↔_
  simp
 |x::q,o,h=>by
  have b:=Cy t x.2.1
  have a:=KE t q (uor o (yc t x.2.1)) (UM h ⟨by omega,by omega⟩)
  show cH t (uor o (yc t x.2.1)) q=0↔_
  rw[a,P0 h ⟨by omega,by omega⟩]
  simp only[jk,forall_eq_or_imp,and_assoc]
theorem Yh {t:Int} (h:BT.qz t) (p:Int):s8 t p=BT.has t p.toNat:=BT.has_ushr h p.toNat
theorem Zn {t:Int} (h:BT.qz t) (p:Int):s8 t p=wD t p:=(Yh h p).trans (AV h p).symm
theorem ng {t:TkD} {s:Int} (b:BT.qz s) {x:Int×PeD×Unit}:x∈xi t s↔∃i:Nat,i<(wd (U.tc t)).length/\wD s (i:Int)=true/\x=((i:Int),nth (wd (U.tc t)) i,()):=by
 unfold xi yV;rw[jZ];refine⟨fun⟨i,hi,e⟩=> ?_,fun⟨i,c,a,e⟩=>⟨i,jS.2 ⟨jE.2 c,?_⟩,e.symm⟩⟩;have hi:=jS.1 hi;have a:s8 s (i:Int)=true:=hi.2;exact⟨i,jE.1 hi.1,(Zn b _)▸a,e.symm⟩;show s8 s (i:Int)=true;rw[Zn b];exact a
theorem uv (c:CrD) (j:JbD) (t:Int):∀n,(0<=(qj c j t n).1/\(qj c j t n).1<64)/\((qj c j t n).1=0↔∀i:Nat,i<n->wD t (i:Int)=true->qy c j (i:Int)=true)/\
 ((qj c j t n).2=true↔∃i:Nat,i<n/\wD t (i:Int)=true/\jbv (nth (wd c) i)=true)
 |0=>⟨by show(0:Int)<=0/\(0:Int)<64;omega,⟨fun _ i h=>absurd h (by omega),fun _=>rfl⟩,⟨fun h=>(by cases h),fun⟨i,h,_⟩=>absurd h (by omega)⟩⟩
 |n+1=>by
  obtain⟨l,o,p⟩:=uv c j t n
  cases g:wD t (n:Int) with
  |false=>
   rw[Kk g]
   refine⟨l,o.trans ⟨fun h i hi a=> ?_,fun h i hi=>h i (by omega)⟩,p.trans ⟨fun⟨i,hi,a⟩=>⟨i,by omega,a⟩,fun⟨i,hi,d,f⟩=>⟨i,?_,d,f⟩⟩⟩
   by_cases e:i=n
   subst e;rw[g] at a;cases a
   exact h i (by omega) a
   by_cases e:i=n
   subst e;rw[g] at d;cases d
   omega
  |true=>
   have e:qj c j t (n+1)=(Qh (!wD (U.cl (nth (wd c) n)) (mB j)) (Qh (!wD (U.fd (nth (wd c) n)) (OM j)) (Qh (ct (nth (wd c) n) (WP j)) (qj c j t n).1 1) 2) 4,(qj c j t n).2||jbv (nth (wd c) n)):=by
    rw[CW];unfold OP;rw[je g]
   rw[e];have o1:=KC (b:=ct (nth (wd c) n) (WP j)) (k:=1) l (by omega);have o2:=KC (b:= !wD (U.fd (nth (wd c) n)) (OM j)) (k:=2) o1 (by omega);have s:=KC (b:= !wD (U.cl (nth (wd c) n)) (mB j)) (k:=4) o2 (by omega);refine⟨s,?_,?_⟩;show Qh _ _ 4=0↔_;rw[nf o2 (by omega),nf o1 (by omega),nf l (by omega),o];have m:qy c j (n:Int)=(!(ct (nth (wd c) n) (WP j))&&wD (U.fd (nth (wd c) n)) (OM j)&&wD (U.cl (nth (wd c) n)) (mB j)):=by
    unfold qy;rw[jw]
   refine⟨fun⟨d,f,q,r⟩ i hi a=> ?_,fun h=> ?_⟩;by_cases e:i=n;subst e;rw[m];simp only[ze] at d f;rw[d,f,q];rfl;exact r i (by omega) a;have:=h n (by omega) g;rw[m,ji,ji,jQ] at this;exact⟨by rw[this.2];rfl,by rw[this.1.2];rfl,this.1.1,fun i hi=>h i (by omega)⟩;show((qj c j t n).2||jbv (nth (wd c) n))=true↔_;rw[zr,p];refine⟨fun h=>h.elim (fun⟨i,hi,a⟩=>⟨i,by omega,a⟩) (fun h=>⟨n,by omega,g,h⟩),fun⟨i,hi,d,f⟩=> ?_⟩;by_cases e:i=n;subst e;exact .inr f;exact .inl ⟨i,by omega,d,f⟩
theorem Yi {c:CrD} {j:JbD} {t:Int} (d:BT.qz t) (a b:Nat):Ly (c,j,cG c j,()) t a b=U.J3 c t (S1 (cG c j)) a b:=by
 unfold Ly U.J3 mF iK;refine jX.2 ?_;rw[zb,zb];refine⟨fun⟨x,g,h⟩=> ?_,fun⟨i,hi,h⟩=> ?_⟩;obtain⟨i,e,f,rfl⟩:=(ng d).1 g;refine⟨i,jE.2 e,?_⟩;have h:S1 (cG c j)<=min (nth (U.lv (nth (wd c) i)) ((a:Int)).toNat) (nth (U.lv (nth (wd c) i)) ((b:Int)).toNat):=ja h;rw[f,jL (by omega:S1 (cG c j)<=nth (U.lv (nth (wd c) i)) ((a:Int)).toNat),jL (by omega:S1 (cG c j)<=nth (U.lv (nth (wd c) i)) ((b:Int)).toNat)];rfl;rw[ji,ji,decide_eq_true_iff,decide_eq_true_iff] at h;refine⟨((i:Int),nth (wd c) i,()),(ng d).2 ⟨i,jE.1 hi,h.1.1,rfl⟩,?_⟩;exact jL (show S1 (cG c j)<=min (nth (U.lv (nth (wd c) i)) ((a:Int)).toNat) (nth (U.lv (nth (wd c) i)) ((b:Int)).toNat) by have:=h.1.2;have:=h.2;omega)
theorem jaY (c:CrD) (t lev:Int) (a b:Nat):U.J3 c t lev a b=U.J3 c t lev b a:=by
 unfold U.J3 iK;refine jX.2 ?_;rw[zb,zb];constructor<;>
 .rintro⟨i,hi,h⟩;refine⟨i,hi,?_⟩;rw[ji,ji] at h⊢;exact⟨⟨h.1.1,h.2⟩,h.1.2⟩
theorem jcw {c:CrD} {j:JbD} {t:Int} (_:wo c=true) (d:wZ c j=true) (f:BT.qz t):nth (iv (c,j,cG c j,()) t) (Lx j).toNat<0↔nth (mI c t (S1 (cG c j)) (Lx j)) (Ge j).toNat<0:=by
 have h:=lX d;have e:Ly (c,j,cG c j,()) t=U.J3 c t (S1 (cG c j)):=(by funext a b;exact Yi f a b);show nth (jcW (Ly (c,j,cG c j,()) t) (U.la c).toNat (Ge j).toNat) (Lx j).toNat<0↔nth (qB (U.J3 c t (S1 (cG c j))) (U.la c).toNat (Lx j).toNat (U.la c).toNat) (Ge j).toNat<0;rw[e];exact(jav (jaY c t _) (by omega) (by omega)).symm
theorem VJ {c:CrD} {j:JbD} {t:Int} (a:BT.qz t):(∀x∈xi (c,j,cG c j,()) t,yc (c,j,cG c j,()) x.2.1=0)↔∀i:Nat,i<(wd c).length->wD t (i:Int)=true->qy c j (i:Int)=true:=by
 refine⟨fun h i hi e=>(nc c j i).1 (h ((i:Int),nth (wd c) i,()) ((ng a).2 ⟨i,hi,e,rfl⟩)),fun h x f=> ?_⟩;obtain⟨i,b,d,rfl⟩:=(ng a).1 f;exact(nc c j i).2 (h i b d)
theorem Yj {c:CrD} {j:JbD} {t:Int} (d:BT.qz t):eZ (xi (c,j,cG c j,()) t)=jdK c j t:=by
 refine jX.2 ?_;unfold jdK;rw[(uv c j t (wd c).length).2.2];unfold eZ;rw[zb];refine⟨fun⟨x,f,h⟩=> ?_,fun⟨i,a,b,e⟩=>⟨((i:Int),nth (wd c) i,()),(ng d).2 ⟨i,a,b,rfl⟩,e⟩⟩;obtain⟨i,a,b,rfl⟩:=(ng d).1 f;exact⟨i,a,b,h⟩
theorem N0 {c:CrD} {j:JbD} {t:Int} (n:wo c=true) (o:wZ c j=true) (a:BT.qz t):vE (c,j,cG c j,()) t=0↔SL c j t=0:=by
 have f:=uv c j t (wd c).length;have g:=MO (c,j,cG c j,()) (xi (c,j,cG c j,()) t) 0 (by omega);have i:=Cz (b:=decide (BT.size t≠max (YL j) (jbw (cG c j)))) (k:=8) g (by omega);have q:=Cz (b:=(jdf (cG c j)&& !eZ (xi (c,j,cG c j,()) t))) (k:=16) i (by omega);have d:0<=jdJ c j t/\jdJ c j t<64:=f.1;have e:=KC (b:=decide (BT.size t≠max (YL j) (jbw (cG c j)))) (k:=8) d (by omega);have l:=KC (b:=(jdf (cG c j)&& !jdK c j t)) (k:=16) e (by omega);have m:vE (c,j,cG c j,()) t=E1 (decide (nth (iv (c,j,cG c j,()) t) (Lx j).toNat<0)) (E1 (jdf (cG c j)&& !eZ (xi (c,j,cG c j,()) t)) (E1 (decide (BT.size t≠max (YL j) (jbw (cG c j)))) (cH (c,j,cG c j,()) 0 (xi (c,j,cG c j,()) t)) 8) 16) 32:=rfl;have p:jdJ c j t=0↔cH (c,j,cG c j,()) 0 (xi (c,j,cG c j,()) t)=0:=by
  rw[KE _ _ _ (by omega),VJ a];exact f.2.1.trans ⟨fun h=>⟨rfl,h⟩,fun h=>h.2⟩
 rw[m,Dd q (by omega),Dd i (by omega),Dd g (by omega)];unfold SL;rw[nf l (by omega),nf e (by omega),nf d (by omega),p,Yj a,jH,jH,jcw n o a,jH]
theorem jaZ {d:DyD} (a:E2 d) {b:Int} (k:gR d b) {t:Int} (e:0<=t) (n:t<2^(wd (wj d)).length):DI d b t=DJ (wj d) (gN (U.bk d b)) t:=by
 unfold gR at k;have h:wZ (wj d) (gN (U.bk d b))=true:=Vu a (b:=b.toNat) (by omega);have o:=(Hk a.1).2;have m:BT.qz t:=(by unfold BT.qz;omega);have i:vl (wj d) (gN (U.bk d b))=0:=(by unfold vl;rw[a.1,h];rfl);have j:Ik (wj d) t=true:=by
  unfold Ik kX;rw[jL e,jL (by omega)];rfl
 have l:bm (wj d) (gN (U.bk d b)) t=0:=by
  unfold bm;rw[jd (by rw[i];simp),j,je rfl]
 have c:=N0 a.1 h m;unfold DI DJ jbM;rw[l,je rfl];refine jX.2 ?_;simp only[ji,decide_eq_true_iff,true_and];rw[c];constructor;rintro⟨f,g⟩;exact⟨by omega,f⟩;rintro⟨f,g⟩;exact⟨g,by omega⟩
theorem Zo {d:DyD} (h:gQ d=0) {b:Nat} (a:b<(wm d).length):0<=nth (Iq d).1 b/\nth (Iq d).1 b<2^(wd (wj d)).length:=by
 have c:=Db ((de d).trans h);have e:=c.set b a;exact⟨e.1,BT.lt_of_has e (fun p f=>((c.bit b a p).1 f).1)⟩
theorem ja0 (d:DyD):kY d=jd3 d:=by
 unfold kY jd3;rw[de];by_cases h:gQ d=0;rw[je h,je h,HG h];unfold ag Zx;congr 1;refine List.filter_congr fun b a=> ?_
 have a:=jE.1 a;have hk:=(de d).trans h;have c:=Zo h a;show DI d (b:Int) (dE (bn (S3 d)) (b:Int))=DJ (wj d) (gN (nth (wm d) b)) (nth (tu d) b);rw[VG hk a,VI h,jaZ (Kv h) (by unfold gR;omega) c.1 c.2];rfl;rw[jd h,jd h]
end Go.X
