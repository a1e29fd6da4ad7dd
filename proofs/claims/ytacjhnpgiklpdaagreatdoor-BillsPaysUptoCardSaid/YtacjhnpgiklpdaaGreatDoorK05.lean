/-
  Part 5 of the road: a checked reading of bodies, and what the functions on it do (C1 PC1 PC2 PC3 PC4 C2 PC5 PC6 PC7 PC8 C3 PC9 SL PC10 S1 S2 S3 PC11 C4 PC12 PC13 PC14 S4 S5).
-/
import Derived.Test.YtacjhnpgiklpdaaGreatDoorK04
namespace Go.X
open U
open Go.Proofs
namespace U
def qQ (s:Int):Nat->Int
 |0=>s
 |j+1=>qQ s j/2^1
def J3 (c:CrD) (t d:Int) (a b:Nat):Bool:=lP c t d (a:Int) (b:Int)
def nV (c:CrD) (t b a:Int):List Int:=qT (J3 c t b) (la c).toNat a.toNat (la c).toNat
def SA (c:Bool) (s b:Int):Int:=if c=true then bor s b else s
def QU (c:CrD) (j:JbD) (t:Int) (x:Int×Bool) (i:Nat):Int×Bool:=
 if w7 t (i:Int)=true then(SA (!w7 (cl (nth (wj c) i)) (ct j)) (SA (!w7 (fd (nth (wj c) i)) (QR j)) (SA (dm (nth (wj c) i) (Zn j)) x.1 1) 2) 4,x.2||jd6 (nth (wj c) i)) else x
def qE (c:CrD) (j:JbD) (t:Int) (n:Nat):Int×Bool:=(List.range n).foldl (QU c j t) (0,false)
def jgg (c:CrD) (j:JbD) (t:Int):Int:=(qE c j t (wj c).length).1
def jgh (c:CrD) (j:JbD) (t:Int):Bool:=(qE c j t (wj c).length).2
def Vl (c:CrD) (j:JbD) (t:Int):Int:=
 SA (decide (nth (nV c t (Vt (dH c j)) (NB j)) (HT j).toNat<0)) (SA (jfM (dH c j)&& !jgh c j t) (SA (decide (BT.size t≠max (jbp j) (jd7 (dH c j)))) (jgg c j t) 8) 16) 32
def Fa (c:CrD) (j:JbD) (t:Int):Bool:=decide (0<t)&&decide (Vl c j t=0)
def Zf (t:Int):Prop:=0<=t/\t<256
end U
def L3:w4:=⟨[.val .int,.val .int,.val .int],[.bool],false,fun _=>[],fun d=>(wa d.1 d.2.1 d.2.2.1,())⟩
def L4:Prop:=∀(d:Int×Int×Int×Unit),(decide (d.2.1<=d.1)&&decide (d.1<=d.2.2.1),())=(wa d.1 d.2.1 d.2.2.1,())
def XA:w4:=⟨[.val .int,.val .int],[.bool],false,fun d=>[0<=d.2.1/\d.2.1<=63],fun d=>(w7 d.1 d.2.1,())⟩
def XB:Prop:=∀(d:Int×Int×Unit),0<=d.2.1/\d.2.1<=63->0<=d.2.1/\d.2.1<=18446744073709551615/\0<=d.2.1/\d.2.1<=64/\(decide (iA (d.1/(2:Int)^d.2.1.toNat) (1:Int)=1),())=(w7 d.1 d.2.1,())
def L5:w4:=⟨[.val tCr],[.bool],false,fun _=>[],fun d=>(wy d.1,())⟩
def L6:Ann:=fun r=>match r with
 |4=>some fun σ=>{X:=Nat,sl:=fun i=>[(3,.dat .int (i:Int))],ob:=fun _=>[],inv:=fun i=>i<=(wj (gb tCr σ 1)).length/\∀j:Nat,j<i->il (U.la (gb tCr σ 1)) (nth (wj (gb tCr σ 1)) j)=true,mu:=fun i=>(wj (gb tCr σ 1)).length-i}
 |10=>some fun σ=>{X:=Nat,sl:=fun i=>[(5,.dat .int (i:Int))],ob:=fun _=>[],inv:=fun i=>i<=(U.lv (gb tPe σ 4)).length/\∀j:Nat,j<i->wa (nth (U.lv (gb tPe σ 4)) j) 0 5=true,mu:=fun i=>(U.lv (gb tPe σ 4)).length-i}
 |15=>some fun σ=>{X:=Nat,sl:=fun i=>[(6,.dat .int (i:Int))],ob:=fun _=>[],inv:=fun i=>i<=(vw (gb tPe σ 4)).length/\∀j:Nat,j<i->wa (nth (vw (gb tPe σ 4)) j) 0 99=true,mu:=fun i=>(vw (gb tPe σ 4)).length-i}
 |20=>some fun σ=>{X:=Nat,sl:=fun i=>[(7,.dat .int (i:Int))],ob:=fun _=>[],inv:=fun i=>i<=(ga (gb tCr σ 1)).length/\∀j:Nat,j<i->im (nth (ga (gb tCr σ 1)) j)=true,mu:=fun i=>(ga (gb tCr σ 1)).length-i}
 |_=>none
abbrev jg0 (d:CrD×Unit)(x:Nat):=(nth d.1.2.1 (x:Int).toNat)
abbrev jjg (d:CrD×Unit)(x:Nat):=(↑(jg0 d x).1.length:Int)
abbrev jjV (d:CrD×Unit)(x:Nat):=(↑(jg0 d x).2.2.2.1.length:Int)
abbrev jln (d:CrD×Unit)(x:Nat):=(decide ((jjg d x)≠d.1.1)|| !wa (jg0 d x).2.1 (0:Int) (255:Int)|| !wa (jg0 d x).2.2.1 (0:Int) (255:Int)||decide ((10:Int)<(jjV d x))|| !wa (jg0 d x).q4.2.1 (0:Int) (1000:Int))
abbrev jjh (d:CrD×Unit):=(d.1.2.2.1.length:Int)
abbrev jh7 (d:CrD×Unit)(x:Nat):=(vw (jg0 d x))
abbrev jji (d:CrD×Unit):=(d.1.2.1.length:Int)
abbrev jlo (d:CrD×Unit):=(!wa d.1.1 (2:Int) (5:Int)||decide (8<(jji d))||decide ((jjh d)≠4))
abbrev jjW (d:CrD×Unit)(x:Nat):=(nth d.1.2.2.1 (x:Int).toNat)
abbrev jlp (d:CrD×Unit)(x:Nat):=(!wa (jjW d x).1 (1:Int) (5:Int)|| !wa (jjW d x).2.1 (1:Int) (8:Int))
def L7:Prop:=∀(d:CrD×Unit),((!!wa d.1.1 (2:Int) (5:Int))=true->d.1.2.1.length<4611686018427387904)->((!(!wa d.1.1 (2:Int) (5:Int)||decide (8<(jji d))))=true->d.1.2.2.1.length<4611686018427387904)->((jlo d)=true->(false,())=(wy d.1,()))/\((jlo d)=false->(∃(x:Nat),((0=(x:Int)/\True)/\True)/\x<=(wj d.1).length/\∀(j:Nat),j<x->il (U.la d.1) (nth (wj d.1) j)=true)/\∀(x:Nat),(x<=(wj d.1).length/\∀(j:Nat),j<x->il (U.la d.1) (nth (wj d.1) j)=true)->d.1.2.1.length<4611686018427387904->(decide ((x:Int)<(jji d))=true->0<=(x:Int)/\(x:Int)<(jji d)/\((jg0 d x).1.length<4611686018427387904->((!(decide ((jjg d x)≠d.1.1)|| !wa (jg0 d x).2.1 (0:Int) (255:Int)|| !wa (jg0 d x).2.2.1 (0:Int) (255:Int)))=true->(jg0 d x).2.2.2.1.length<4611686018427387904)->((jln d x)=true->(false,())=(wy d.1,()))/\((jln d x)=false->(∃(b:Nat),((0=(b:Int)/\True)/\True)/\b<=(U.lv (jg0 d x)).length/\∀(j:Nat),j<b->wa (nth (U.lv (jg0 d x)) j) (0:Int) 5=true)/\∀(b:Nat),(b<=(U.lv (jg0 d x)).length/\∀(j:Nat),j<b->wa (nth (U.lv (jg0 d x)) j) (0:Int) 5=true)->(jg0 d x).1.length<4611686018427387904->(decide ((b:Int)<(jjg d x))=true->0<=(b:Int)/\(b:Int)<(jjg d x)/\((!wa (nth (jg0 d x).1 (b:Int).toNat) (0:Int) (5:Int))=true->(false,())=(wy d.1,()))/\((!wa (nth (jg0 d x).1 (b:Int).toNat) (0:Int) (5:Int))=false->wl ((b:Int)+1)/\∃(c:Nat),(((b:Int)+1=(c:Int)/\True)/\True)/\(c<=(U.lv (jg0 d x)).length/\∀(j:Nat),j<c->wa (nth (U.lv (jg0 d x)) j) (0:Int) 5=true)/\(U.lv (jg0 d x)).length-c<(U.lv (jg0 d x)).length-b))/\(decide ((b:Int)<(jjg d x))=false->(∃(a:Nat),((0=(a:Int)/\True)/\True)/\a<=(jh7 d x).length/\∀(j:Nat),j<a->wa (nth (jh7 d x) j) (0:Int) 99=true)/\∀(a:Nat),(a<=(jh7 d x).length/\∀(j:Nat),j<a->wa (nth (jh7 d x) j) (0:Int) 99=true)->(jg0 d x).2.2.2.1.length<4611686018427387904->(decide ((a:Int)<(jjV d x))=true->0<=(a:Int)/\(a:Int)<(jjV d x)/\((!wa (nth (jg0 d x).2.2.2.1 (a:Int).toNat) (0:Int) (99:Int))=true->(false,())=(wy d.1,()))/\((!wa (nth (jg0 d x).2.2.2.1 (a:Int).toNat) (0:Int) (99:Int))=false->wl ((a:Int)+1)/\∃(c:Nat),(((a:Int)+1=(c:Int)/\True)/\True)/\(c<=(jh7 d x).length/\∀(j:Nat),j<c->wa (nth (jh7 d x) j) (0:Int) 99=true)/\(jh7 d x).length-c<(jh7 d x).length-a))/\(decide ((a:Int)<(jjV d x))=false->wl ((x:Int)+1)/\∃(c:Nat),(((x:Int)+1=(c:Int)/\True)/\True)/\(c<=(wj d.1).length/\∀(j:Nat),j<c->il (U.la d.1) (nth (wj d.1) j)=true)/\(wj d.1).length-c<(wj d.1).length-x)))))/\(decide ((x:Int)<(jji d))=false->(∃(x:Nat),((0=(x:Int)/\True)/\True)/\x<=(ga d.1).length/\∀(j:Nat),j<x->im (nth (ga d.1) j)=true)/\∀(x:Nat),(x<=(ga d.1).length/\∀(j:Nat),j<x->im (nth (ga d.1) j)=true)->d.1.2.2.1.length<4611686018427387904->(decide ((x:Int)<(jjh d))=true->0<=(x:Int)/\(x:Int)<(jjh d)/\((!!wa (jjW d x).1 (1:Int) (5:Int))=true->0<=(x:Int))/\((!!wa (jjW d x).1 (1:Int) (5:Int))=true->(x:Int)<(jjh d))/\((jlp d x)=true->(false,())=(wy d.1,()))/\((jlp d x)=false->wl ((x:Int)+1)/\∃(c:Nat),(((x:Int)+1=(c:Int)/\True)/\True)/\(c<=(ga d.1).length/\∀(j:Nat),j<c->im (nth (ga d.1) j)=true)/\(ga d.1).length-c<(ga d.1).length-x))/\(decide ((x:Int)<(jjh d))=false->(true,())=(wy d.1,()))))
def Pn:w4:=⟨[.val tCr,.val tJb],[.bool],false,fun d=>[wy d.1=true],fun d=>(ql d.1 d.2.1,())⟩
def Po:Prop:=∀(d:CrD×JbD×Unit),wy d.1=true->wl (d.1.1-1)/\(wa d.2.1.1 (0:Int) (d.1.1-1)=true->wl (d.1.1-1))/\(wa d.2.1.1 (0:Int) (d.1.1-1)&&wa d.2.1.2.1 (0:Int) (d.1.1-1)&&decide (d.2.1.1≠d.2.1.2.1)&&wa d.2.1.2.2.1 (0:Int) (99:Int)&&wa d.2.1.2.2.2.1 (0:Int) (7:Int)&&wa d.2.1.q4.1 (0:Int) (3:Int)&&wa d.2.1.q4.2.1 (1:Int) (8:Int),())=(ql d.1 d.2.1,())
def TT:w4:=⟨[.val tPe,.val .int],[.bool],false,fun _=>[],fun d=>(dm d.1 d.2.1,())⟩
def TU:Ann:=fun r=>match r with
 |2=>some fun σ=>{X:=Nat,sl:=fun i=>[(5,.dat .int (i:Int))],ob:=fun _=>[],inv:=fun i=>i<=(vw (gb tPe σ 2)).length/\∀j:Nat,j<i->nth (vw (gb tPe σ 2)) j≠gd .int σ 1,mu:=fun i=>(vw (gb tPe σ 2)).length-i}
 |_=>none
def TV:Prop:=∀(d:PeD×Int×Unit),(∃(x:Nat),((0=(x:Int)/\True)/\True)/\x<=(vw d.1).length/\∀(j:Nat),j<x->nth (vw d.1) j≠d.2.1)/\∀(x:Nat),(x<=(vw d.1).length/\∀(j:Nat),j<x->nth (vw d.1) j≠d.2.1)->d.1.2.2.2.1.length<4611686018427387904->(decide ((x:Int)<d.1.2.2.2.1.length)=true->0<=(x:Int)/\(x:Int)<d.1.2.2.2.1.length/\(decide (nth d.1.2.2.2.1 (x:Int).toNat=d.2.1)=true->(true,())=(dm d.1 d.2.1,()))/\(decide (nth d.1.2.2.2.1 (x:Int).toNat=d.2.1)=false->wl ((x:Int)+1)/\∃(a:Nat),(((x:Int)+1=(a:Int)/\True)/\True)/\(a<=(vw d.1).length/\∀(j:Nat),j<a->nth (vw d.1) j≠d.2.1)/\(vw d.1).length-a<(vw d.1).length-x))/\(decide ((x:Int)<d.1.2.2.2.1.length)=false->(false,())=(dm d.1 d.2.1,()))
def I7:w4:=⟨[.val tCr,.val tJb,.val .int],[.bool],false,fun d=>[0<=d.2.2.1/\d.2.2.1<((wj d.1).length:Int),ql d.1 d.2.1=true],fun d=>(qP d.1 d.2.1 d.2.2.1,())⟩
abbrev jiN (d:CrD×JbD×Int×Unit):=(nth d.1.2.1 d.2.2.1.toNat)
def I8:Prop:=∀(d:CrD×JbD×Int×Unit),0<=d.2.2.1/\d.2.2.1<(↑(wj d.1).length:Int)->ql d.1 d.2.1=true->0<=d.2.2.1/\d.2.2.1<(d.1.2.1.length:Int)/\((!dm (jiN d) d.2.1.2.2.1)=true->0<=d.2.1.2.2.2.1/\d.2.1.2.2.2.1<=63)/\((!dm (jiN d) d.2.1.2.2.1&&w7 (jiN d).2.1 d.2.1.2.2.2.1)=true->0<=d.2.1.q4.1/\d.2.1.q4.1<=63)/\(!dm (jiN d) d.2.1.2.2.1&&w7 (jiN d).2.1 d.2.1.2.2.2.1&&w7 (jiN d).2.2.1 d.2.1.q4.1,())=(qP d.1 d.2.1 d.2.2.1,())
def TW:w4:=⟨[.val .int],[.int],false,fun d=>[BT.qm d.1],fun d=>(BT.size d.1,())⟩
def TX:Ann:=fun r=>match r with
 |2=>some fun σ=>{X:=Nat,sl:=fun j=>[(0,.dat .int (qQ (gd .int σ 0) j)),(3,.dat .int (BT.size (gd .int σ 0)-BT.size (qQ (gd .int σ 0) j)))],ob:=fun _=>[],inv:=fun j=>BT.qm (qQ (gd .int σ 0) j),mu:=fun j=>(qQ (gd .int σ 0) j).toNat}
 |_=>none
def TY:Prop:=∀(d:Int×Unit),BT.qm d.1->(∃(x:Nat),((d.1=qQ d.1 x/\0=BT.size d.1-BT.size (qQ d.1 x)/\True)/\True)/\BT.qm (qQ d.1 x))/\∀(x:Nat),BT.qm (qQ d.1 x)->(decide (0<qQ d.1 x)=true->wl (BT.size d.1-BT.size (qQ d.1 x)+iA (qQ d.1 x) (1:Int))/\(0:Int)<=1/\(1:Int)<=64/\∃(a:Nat),((qQ d.1 x/(2:Int)^Int.toNat 1=qQ d.1 a/\BT.size d.1-BT.size (qQ d.1 x)+iA (qQ d.1 x) 1=BT.size d.1-BT.size (qQ d.1 a)/\True)/\True)/\BT.qm (qQ d.1 a)/\(qQ d.1 a).toNat<(qQ d.1 x).toNat)/\(decide (0<qQ d.1 x)=false->(BT.size d.1-BT.size (qQ d.1 x),())=(BT.size d.1,()))
def Pp:w4:=⟨[.val tCr,.val .int,.val .int,.val .int,.val .int],[.bool],false,fun d=>[wy d.1=true,0<=d.2.2.2.1/\d.2.2.2.1<U.la d.1,0<=d.2.2.2.2.1/\d.2.2.2.2.1<U.la d.1],fun d=>(lP d.1 d.2.1 d.2.2.1 d.2.2.2.1 d.2.2.2.2.1,())⟩
def Pq:Ann:=fun r=>match r with
 |2=>some fun σ=>{X:=Nat,sl:=fun i=>[(11,.dat .int (i:Int))],ob:=fun _=>[],inv:=fun i=>i<=(wj (gb tCr σ 5)).length/\∀j:Nat,j<i->(w7 (gd .int σ 1) (j:Int)&&decide (gd .int σ 2<=nth (U.lv (nth (wj (gb tCr σ 5)) j)) (gd .int σ 3).toNat)&&decide (gd .int σ 2<=nth (U.lv (nth (wj (gb tCr σ 5)) j)) (gd .int σ 4).toNat))=false,mu:=fun i=>(wj (gb tCr σ 5)).length-i}
 |_=>none
abbrev jkI (d:CrD×Int×Int×Int×Int×Unit)(j:Nat):=(w7 d.2.1 (j:Int)&&decide (d.2.2.1<=nth (U.lv (nth (wj d.1) j)) d.2.2.2.1.toNat)&&decide (d.2.2.1<=nth (U.lv (nth (wj d.1) j)) d.q4.1.toNat))
abbrev jlq (d:CrD×Int×Int×Int×Int×Unit)(x:Nat):=(d.2.2.1<=nth (nth d.1.2.1 (x:Int).toNat).1 d.2.2.2.1.toNat)
abbrev jlr (d:CrD×Int×Int×Int×Int×Unit)(x:Nat):=(w7 d.2.1 (x:Int)&&decide (jlq d x)&&decide (d.2.2.1<=nth (nth d.1.2.1 (x:Int).toNat).1 d.q4.1.toNat))
abbrev jjX (d:CrD×Int×Int×Int×Int×Unit)(x:Nat):=(w7 d.2.1 (x:Int)&&decide (jlq d x))
def Pr:Prop:=∀(d:CrD×Int×Int×Int×Int×Unit),wy d.1=true->0<=d.2.2.2.1/\d.2.2.2.1<U.la d.1->0<=d.q4.1/\d.q4.1<U.la d.1->(∃(x:Nat),((0=(x:Int)/\True)/\True)/\x<=(wj d.1).length/\∀(j:Nat),j<x->(jkI d j)=false)/\∀(x:Nat),(x<=(wj d.1).length/\∀(j:Nat),j<x->(jkI d j)=false)->d.1.2.1.length<4611686018427387904->(decide ((x:Int)<d.1.2.1.length)=true->(0<=(x:Int)/\(x:Int)<=63)/\(w7 d.2.1 (x:Int)=true->0<=(x:Int))/\(w7 d.2.1 (x:Int)=true->(x:Int)<d.1.2.1.length)/\(w7 d.2.1 (x:Int)=true->0<=d.2.2.2.1)/\(w7 d.2.1 (x:Int)=true->d.2.2.2.1<(↑(nth d.1.2.1 (x:Int).toNat).1.length:Int))/\((jjX d x)=true->0<=(x:Int))/\((jjX d x)=true->(x:Int)<d.1.2.1.length)/\((jjX d x)=true->0<=d.q4.1)/\((jjX d x)=true->d.q4.1<(↑(nth d.1.2.1 (x:Int).toNat).1.length:Int))/\((jlr d x)=true->(true,())=(lP d.1 d.2.1 d.2.2.1 d.2.2.2.1 d.q4.1,()))/\((jlr d x)=false->wl ((x:Int)+1)/\∃(a:Nat),(((x:Int)+1=(a:Int)/\True)/\True)/\(a<=(wj d.1).length/\∀(j:Nat),j<a->(jkI d j)=false)/\(wj d.1).length-a<(wj d.1).length-x))/\(decide ((x:Int)<d.1.2.1.length)=false->(false,())=(lP d.1 d.2.1 d.2.2.1 d.2.2.2.1 d.q4.1,()))
def XC:w4:=⟨[.val tCr,.val .int,.val .int,.val .int],[.slice .int],false,fun d=>[wy d.1=true,0<=d.2.2.2.1/\d.2.2.2.1<U.la d.1],fun d=>(nV d.1 d.2.1 d.2.2.1 d.2.2.2.1,())⟩
def XD:Ann:=fun r=>match r with
 |3=>some fun σ=>{X:=Nat,sl:=fun i=>[(10,.dat .int (i:Int)),(9,.own 9 .int)],ob:=fun i=>[(9,some (.row 3 .int false .yes (List.replicate i (-1))))],inv:=fun i=>i<=(U.la (gb tCr σ 4)).toNat,mu:=fun i=>(U.la (gb tCr σ 4)).toNat-i}
 |8=>some fun σ=>{X:=Nat,sl:=fun i=>[(11,.dat .int (i:Int)),(9,.own 9 .int)],ob:=fun i=>[(9,some (.row 3 .int false .yes (qT (U.J3 (gb tCr σ 4) (gd .int σ 1) (gd .int σ 2)) (U.la (gb tCr σ 4)).toNat (gd .int σ 3).toNat i)))],inv:=fun i=>i<=(U.la (gb tCr σ 4)).toNat,mu:=fun i=>(U.la (gb tCr σ 4)).toNat-i}
 |11=>some fun σ=>{X:=Nat,sl:=fun i=>[(12,.dat .int (i:Int)),(9,.own 9 .int)],ob:=fun i=>[(9,some (.row 3 .int false .yes (yk (U.J3 (gb tCr σ 4) (gd .int σ 1) (gd .int σ 2)) (U.la (gb tCr σ 4)).toNat (gd .int σ 11).toNat (gr .int σ 9) i)))],inv:=fun i=>i<=(U.la (gb tCr σ 4)).toNat,mu:=fun i=>(U.la (gb tCr σ 4)).toNat-i}
 |14=>some fun σ=>{X:=Nat,sl:=fun i=>[(13,.dat .int (i:Int)),(9,.own 9 .int)],ob:=fun i=>[(9,some (.row 3 .int false .yes (yQ (U.J3 (gb tCr σ 4) (gd .int σ 1) (gd .int σ 2)) (gd .int σ 11).toNat (gd .int σ 12).toNat (gr .int σ 9) i)))],inv:=fun i=>i<=(U.la (gb tCr σ 4)).toNat,mu:=fun i=>(U.la (gb tCr σ 4)).toNat-i}
 |_=>none
abbrev jhf (d:CrD×Int×Int×Int×Unit):=(U.J3 d.1 d.2.1 d.2.2.1)
abbrev jjj (d:CrD×Int×Int×Int×Unit)(x:Nat):=(qT (jhf d) (U.la d.1).toNat d.2.2.2.1.toNat x)
abbrev jiO (d:CrD×Int×Int×Int×Unit)(x:Nat)(a:Nat):=(yk (jhf d) (U.la d.1).toNat (x:Int).toNat (jjj d x) a)
abbrev jir (d:CrD×Int×Int×Int×Unit)(x:Nat)(a:Nat)(b:Nat):=(yQ (jhf d) (x:Int).toNat (a:Int).toNat (jiO d x a) b)
abbrev jjY (d:CrD×Int×Int×Int×Unit)(x:Nat)(a:Nat)(b:Nat):=(nth (jir d x a b) (a:Int).toNat=(x:Int))
abbrev jkJ (d:CrD×Int×Int×Int×Unit)(x:Nat)(b:Nat)(a:Nat):=(decide (jjY d x b a)&&decide (nth (jir d x b a) (a:Int).toNat<0))
abbrev jls (d:CrD×Int×Int×Int×Unit)(x:Nat)(b:Nat)(a:Nat):=(decide (jjY d x b a)&&decide (nth (jir d x b a) (a:Int).toNat<0)&&lP d.1 d.2.1 d.2.2.1 (b:Int) (a:Int))
def XE:Prop:=∀(d:CrD×Int×Int×Int×Unit),wy d.1=true->0<=d.2.2.2.1/\d.2.2.2.1<U.la d.1->(∃(x:Nat),((0=(x:Int)/\True/\True)/\List.replicate x (-1:Int)=[]/\True)/\x<=(U.la d.1).toNat)/\∀(x:Nat),x<=(U.la d.1).toNat->(decide ((x:Int)<d.1.1)=true->((List.replicate x (-1:Int)).length+[(-1:Int)].length)*8<=140737488355328/\wl ((x:Int)+1)/\∃(c:Nat),(((x:Int)+1=(c:Int)/\True/\True)/\List.replicate x (-1:Int)++[(-1:Int)]=List.replicate c (-1:Int)/\True)/\c<=(U.la d.1).toNat/\(U.la d.1).toNat-c<(U.la d.1).toNat-x)/\(decide ((x:Int)<d.1.1)=false->0<=d.2.2.2.1/\d.2.2.2.1<(↑(List.replicate x (-1:Int)).length:Int)/\(∃(e:Nat),((0=(e:Int)/\True/\True)/\(List.replicate x (-1:Int)).set d.2.2.2.1.toNat 0=qT (jhf d) (U.la d.1).toNat d.2.2.2.1.toNat e/\True)/\e<=(U.la d.1).toNat)/\∀(x:Nat),x<=(U.la d.1).toNat->(decide ((x:Int)<d.1.1)=true->(∃(a:Nat),((0=(a:Int)/\True/\True)/\qT (jhf d) (U.la d.1).toNat d.2.2.2.1.toNat x=yk (jhf d) (U.la d.1).toNat (x:Int).toNat (jjj d x) a/\True)/\a<=(U.la d.1).toNat)/\∀(a:Nat),a<=(U.la d.1).toNat->(decide ((a:Int)<d.1.1)=true->(∃(b:Nat),((0=(b:Int)/\True/\True)/\yk (jhf d) (U.la d.1).toNat (x:Int).toNat (jjj d x) a=yQ (jhf d) (x:Int).toNat (a:Int).toNat (jiO d x a) b/\True)/\b<=(U.la d.1).toNat)/\∀(b:Nat),b<=(U.la d.1).toNat->(decide ((b:Int)<d.1.1)=true->0<=(a:Int)/\(a:Int)<(jir d x a b).length/\(decide (jjY d x a b)=true->0<=(b:Int))/\(decide (jjY d x a b)=true->(b:Int)<(jir d x a b).length)/\((jkJ d x a b)=true->wy d.1=true)/\((jkJ d x a b)=true->0<=(a:Int)/\(a:Int)<U.la d.1)/\((jkJ d x a b)=true->0<=(b:Int)/\(b:Int)<U.la d.1)/\((jls d x a b)=true->wl ((x:Int)+1)/\0<=(b:Int)/\(b:Int)<(jir d x a b).length/\wl ((b:Int)+1)/\∃(c:Nat),((True/\(b:Int)+1=(c:Int)/\True)/\(jir d x a b).set (b:Int).toNat ((x:Int)+1)=yQ (jhf d) (x:Int).toNat (a:Int).toNat (jiO d x a) c/\True)/\c<=(U.la d.1).toNat/\(U.la d.1).toNat-c<(U.la d.1).toNat-b)/\((jls d x a b)=false->wl ((b:Int)+1)/\∃(c:Nat),((True/\(b:Int)+1=(c:Int)/\True)/\yQ (jhf d) (x:Int).toNat (a:Int).toNat (jiO d x a) b=yQ (jhf d) (x:Int).toNat (a:Int).toNat (jiO d x a) c/\True)/\c<=(U.la d.1).toNat/\(U.la d.1).toNat-c<(U.la d.1).toNat-b))/\(decide ((b:Int)<d.1.1)=false->wl ((a:Int)+1)/\∃(c:Nat),(((a:Int)+1=(c:Int)/\True/\True)/\yQ (jhf d) (x:Int).toNat (a:Int).toNat (jiO d x a) b=yk (jhf d) (U.la d.1).toNat (x:Int).toNat (jjj d x) c/\True)/\c<=(U.la d.1).toNat/\(U.la d.1).toNat-c<(U.la d.1).toNat-a))/\(decide ((a:Int)<d.1.1)=false->wl ((x:Int)+1)/\∃(c:Nat),(((x:Int)+1=(c:Int)/\True/\True)/\yk (jhf d) (U.la d.1).toNat (x:Int).toNat (jjj d x) a=qT (jhf d) (U.la d.1).toNat d.2.2.2.1.toNat c/\True)/\c<=(U.la d.1).toNat/\(U.la d.1).toNat-c<(U.la d.1).toNat-x))/\(decide ((x:Int)<d.1.1)=false->(qT (jhf d) (U.la d.1).toNat d.2.2.2.1.toNat x,())=(nV d.1 d.2.1 d.2.2.1 d.2.2.2.1,())))
def L8:w4:=⟨[.val tCr,.val tJb,.val .int],[.int],false,fun d=>[wy d.1=true,ql d.1 d.2.1=true,Zf d.2.2.1],fun d=>(Vl d.1 d.2.1 d.2.2.1,())⟩
def L9:Ann:=fun r=>match r with
 |5=>some fun σ=>{X:=Nat,sl:=fun i=>[(10,.dat .int (i:Int)),(8,.dat .int (qE (gb tCr σ 3) (gb tJb σ 4) (gd .int σ 2) i).1),(9,.dat .bool (qE (gb tCr σ 3) (gb tJb σ 4) (gd .int σ 2) i).2)],ob:=fun _=>[],inv:=fun i=>i<=(wj (gb tCr σ 3)).length,mu:=fun i=>(wj (gb tCr σ 3)).length-i}
 |_=>none
abbrev jgY (d:CrD×JbD×Int×Unit)(x:Nat):=(qE d.1 d.2.1 d.2.2.1 x)
abbrev jjk (d:CrD×JbD×Int×Unit)(x:Nat):=(nth d.1.2.1 (x:Int).toNat)
abbrev jg7 (d:CrD×JbD×Int×Unit)(a:Nat):=(qE d.1 d.2.1 d.2.2.1 a)
abbrev jh8 (d:CrD×JbD×Int×Unit)(x:Nat):=(!w7 (jjk d x).2.2.1 d.2.1.q4.1)
abbrev jh9 (d:CrD×JbD×Int×Unit)(x:Nat):=((jgY d x).2||(jjk d x).q4.1)
abbrev jis (d:CrD×JbD×Int×Unit):=(nth d.1.2.2.1 d.2.1.q4.1.toNat)
abbrev jjl (d:CrD×JbD×Int×Unit):=(nV d.1 d.2.2.1 (jis d).1 d.2.1.1)
abbrev jia (d:CrD×JbD×Int×Unit):=(nth (jjl d) d.2.1.2.1.toNat<0)
abbrev jib (d:CrD×JbD×Int×Unit):=(Vl d.1 d.2.1 d.2.2.1,())
abbrev jjZ (d:CrD×JbD×Int×Unit):=(0<=d.2.1.q4.1/\d.2.1.q4.1<=63)
abbrev jj0 (d:CrD×JbD×Int×Unit):=(0<=d.2.1.1/\d.2.1.1<U.la d.1)
abbrev jj1 (d:CrD×JbD×Int×Unit)(x:Nat):=(!w7 (jjk d x).2.1 d.2.1.2.2.2.1)
def Ma:Prop:=∀(d:CrD×JbD×Int×Unit),wy d.1=true->ql d.1 d.2.1=true->Zf d.2.2.1->0<=d.2.1.q4.1/\d.2.1.q4.1<(d.1.2.2.1.length:Int)/\(∃(x:Nat),((0=(x:Int)/\0=(jgY d x).1/\false=(jgY d x).2/\True)/\True)/\x<=(wj d.1).length)/\∀(x:Nat),x<=(wj d.1).length->d.1.2.1.length<4611686018427387904->(decide ((x:Int)<d.1.2.1.length)=true->(0<=(x:Int)/\(x:Int)<=63)/\((!w7 d.2.2.1 (x:Int))=true->wl ((x:Int)+1)/\∃(a:Nat),(((jgY d x).2=(jg7 d a).2/\(jgY d x).1=(jg7 d a).1/\(x:Int)+1=(a:Int)/\True)/\True)/\a<=(wj d.1).length/\(wj d.1).length-a<(wj d.1).length-x)/\((!w7 d.2.2.1 (x:Int))=false->0<=(x:Int)/\(x:Int)<d.1.2.1.length/\(dm (jjk d x) d.2.1.2.2.1=true->(0<=d.2.1.2.2.2.1/\d.2.1.2.2.2.1<=63)/\((jj1 d x)=true->(jjZ d)/\((jh8 d x)=true->wl ((x:Int)+1)/\∃(a:Nat),(((x:Int)+1=(a:Int)/\(jh9 d x)=(jg7 d a).2/\bor (bor (bor (jgY d x).1 (1:Int)) (2:Int)) 4=(jg7 d a).1/\True)/\True)/\a<=(wj d.1).length/\(wj d.1).length-a<(wj d.1).length-x)/\((jh8 d x)=false->wl ((x:Int)+1)/\∃(a:Nat),(((x:Int)+1=(a:Int)/\(jh9 d x)=(jg7 d a).2/\bor (bor (jgY d x).1 (1:Int)) 2=(jg7 d a).1/\True)/\True)/\a<=(wj d.1).length/\(wj d.1).length-a<(wj d.1).length-x))/\((jj1 d x)=false->(jjZ d)/\((jh8 d x)=true->wl ((x:Int)+1)/\∃(a:Nat),(((x:Int)+1=(a:Int)/\(jh9 d x)=(jg7 d a).2/\bor (bor (jgY d x).1 (1:Int)) 4=(jg7 d a).1/\True)/\True)/\a<=(wj d.1).length/\(wj d.1).length-a<(wj d.1).length-x)/\((jh8 d x)=false->wl ((x:Int)+1)/\∃(a:Nat),(((x:Int)+1=(a:Int)/\(jh9 d x)=(jg7 d a).2/\bor (jgY d x).1 1=(jg7 d a).1/\True)/\True)/\a<=(wj d.1).length/\(wj d.1).length-a<(wj d.1).length-x)))/\(dm (jjk d x) d.2.1.2.2.1=false->(0<=d.2.1.2.2.2.1/\d.2.1.2.2.2.1<=63)/\((jj1 d x)=true->(jjZ d)/\((jh8 d x)=true->wl ((x:Int)+1)/\∃(a:Nat),(((x:Int)+1=(a:Int)/\(jh9 d x)=(jg7 d a).2/\bor (bor (jgY d x).1 (2:Int)) 4=(jg7 d a).1/\True)/\True)/\a<=(wj d.1).length/\(wj d.1).length-a<(wj d.1).length-x)/\((jh8 d x)=false->wl ((x:Int)+1)/\∃(a:Nat),(((x:Int)+1=(a:Int)/\(jh9 d x)=(jg7 d a).2/\bor (jgY d x).1 2=(jg7 d a).1/\True)/\True)/\a<=(wj d.1).length/\(wj d.1).length-a<(wj d.1).length-x))/\((jj1 d x)=false->(jjZ d)/\((jh8 d x)=true->wl ((x:Int)+1)/\∃(a:Nat),(((x:Int)+1=(a:Int)/\(jh9 d x)=(jg7 d a).2/\bor (jgY d x).1 4=(jg7 d a).1/\True)/\True)/\a<=(wj d.1).length/\(wj d.1).length-a<(wj d.1).length-x)/\((jh8 d x)=false->wl ((x:Int)+1)/\∃(a:Nat),(((jgY d x).1=(jg7 d a).1/\(x:Int)+1=(a:Int)/\(jh9 d x)=(jg7 d a).2/\True)/\True)/\a<=(wj d.1).length/\(wj d.1).length-a<(wj d.1).length-x)))))/\(decide ((x:Int)<d.1.2.1.length)=false->BT.qm d.2.2.1/\(decide (BT.size d.2.2.1≠max d.2.1.q4.2.1 (jis d).2.1)=true->(((jis d).2.2.1&& !(jgY d x).2)=true->wy d.1=true/\(jj0 d)/\0<=d.2.1.2.1/\d.2.1.2.1<(↑(jjl d).length:Int)/\(decide (jia d)=true->(bor (bor (bor (jgY d x).1 (8:Int)) (16:Int)) (32:Int),())=(jib d))/\(decide (jia d)=false->(bor (bor (jgY d x).1 (8:Int)) (16:Int),())=(jib d)))/\(((jis d).2.2.1&& !(jgY d x).2)=false->wy d.1=true/\(jj0 d)/\0<=d.2.1.2.1/\d.2.1.2.1<(↑(jjl d).length:Int)/\(decide (jia d)=true->(bor (bor (jgY d x).1 (8:Int)) (32:Int),())=(jib d))/\(decide (jia d)=false->(bor (jgY d x).1 (8:Int),())=(jib d))))/\(decide (BT.size d.2.2.1≠max d.2.1.q4.2.1 (jis d).2.1)=false->(((jis d).2.2.1&& !(jgY d x).2)=true->wy d.1=true/\(jj0 d)/\0<=d.2.1.2.1/\d.2.1.2.1<(↑(jjl d).length:Int)/\(decide (jia d)=true->(bor (bor (jgY d x).1 (16:Int)) (32:Int),())=(jib d))/\(decide (jia d)=false->(bor (jgY d x).1 (16:Int),())=(jib d)))/\(((jis d).2.2.1&& !(jgY d x).2)=false->wy d.1=true/\(jj0 d)/\0<=d.2.1.2.1/\d.2.1.2.1<(↑(jjl d).length:Int)/\(decide (jia d)=true->(bor (jgY d x).1 (32:Int),())=(jib d))/\(decide (jia d)=false->((jgY d x).1,())=(jib d)))))
def TZ:w4:=⟨[.val tCr,.val tJb,.val .int],[.bool],false,fun d=>[wy d.1=true,ql d.1 d.2.1=true,Zf d.2.2.1],fun d=>(Fa d.1 d.2.1 d.2.2.1,())⟩
def T3:Prop:=∀(d:CrD×JbD×Int×Unit),wy d.1=true->ql d.1 d.2.1=true->Zf d.2.2.1->(decide (0<d.2.2.1)=true->wy d.1=true)/\(decide (0<d.2.2.1)=true->ql d.1 d.2.1=true)/\(decide (0<d.2.2.1)=true->Zf d.2.2.1)/\(decide (0<d.2.2.1)&&decide (Vl d.1 d.2.1 d.2.2.1=0),())=(Fa d.1 d.2.1 d.2.2.1,())
theorem Ps:L4:=by
 rintro⟨n,a,b,⟨⟩⟩;rfl
theorem Ay:w9 PR 135 L3:=wT Ps Tryz.func135 kcN koN
theorem jav:XB:=by
 rintro⟨s,n,⟨⟩⟩ ⟨a,b⟩;have a:0<=n:=a;have b:n<=63:=b;exact⟨a,by show n<=18446744073709551615;omega,a,by show n<=64;omega,rfl⟩
theorem nC:w9 PR 19 XA:=wT jav Tryz.func19 kcN koN
theorem jaw (c:CrD) (j:JbD):(wa (NB j) 0 (U.la c-1)&&wa (HT j) 0 (U.la c-1)&&decide (NB j≠HT j)&&wa (Zn j) 0 99&&wa (QR j) 0 7&&wa (ct j) 0 3&&wa (jbp j) 1 8)=ql c j:=by
 unfold ql wa;rw[j7];simp only[ji,jp,ne_eq];constructor;rintro⟨⟨⟨⟨⟨⟨⟨f,g⟩,h,i⟩,k⟩,l,m⟩,n,o⟩,a,b⟩,d,e⟩;exact⟨f,g,h,i,k,l,m,n,o,a,b,d,e⟩;rintro⟨f,g,h,i,k,l,m,n,o,a,b,d,e⟩;exact⟨⟨⟨⟨⟨⟨⟨f,g⟩,h,i⟩,k⟩,l,m⟩,n,o⟩,a,b⟩,d,e⟩
theorem T4:Po:=by
 unfold Po Prod.q4;rintro⟨c,j,⟨⟩⟩ h;have h:wy c=true:=h;have d:=qe h;have a:wl (U.la c-1):=iZ6;refine⟨a,fun _=>a,?_⟩;exact jD (fun b=>(b,())) (jaw c j)
theorem Pt:w9 PR 92 Pn:=wT T4 Tryz.func92 (kcC Ay kcN) koN
theorem XF:TV:=by
 rintro⟨p,n,⟨⟩⟩;refine⟨⟨0,⟨⟨rfl,tZ⟩,tZ⟩,jl _,fun j d=>by omega⟩,fun x b c=>⟨fun h=> ?_,fun h=> ?_⟩⟩;have c:(vw p).length<4611686018427387904:=c;have h:(x:Int)<(vw p).length:=ja h;refine⟨by omega,h,fun a=> ?_,fun a=>⟨iZ6,x+1,⟨⟨by simp,tZ⟩,tZ⟩,⟨by show x+1<=(vw p).length;omega,fun j d=> ?_⟩,by show(vw p).length-(x+1)<(vw p).length-x;omega⟩⟩;have a:nth (vw p) x=n:=ja a;have:dm p n=true:=by
  unfold dm;rw[zc];exact⟨_,L.wh (l:=vw p) (i:=x) (by omega),by simpa using a⟩
 show(true,())=(dm p n,());rw[this];have a:¬nth (vw p) x=n:=jc a;by_cases e:j=x;subst e;exact a;exact b.2 j (by omega);have h:¬(x:Int)<(vw p).length:=jc h;have g:x<=(vw p).length:=b.1;have:dm p n=false:=by
  unfold dm;rw[zj];intro t f;obtain⟨i,hi,rfl⟩:=L.mem_iff.1 f;have:=b.2 i (by omega);have this:nth (vw p) i≠n:=this;simpa using this
 show(false,())=(dm p n,());rw[this]
theorem HB:w9 PR 112 TT:=vb TU XF Tryz.func112 kcN koN
theorem XG {c:CrD} {j:JbD} (h:ql c j=true):(0<=NB j/\NB j<U.la c)/\(0<=HT j/\HT j<U.la c)/\(0<=QR j/\QR j<=7)/\(0<=ct j/\ct j<=3)/\1<=jbp j/\jbp j<=8:=by
 unfold ql at h;have:=ja h;omega
theorem Mb:I8:=by
 unfold I8 jiN Prod.q4;rintro⟨c,j,p,⟨⟩⟩ ⟨b,d⟩ a;have a:ql c j=true:=a;obtain⟨_,_,f,k,_⟩:=XG a;exact⟨b,d,fun _=>⟨f.1,by show QR j<=63;omega⟩,fun _=>⟨k.1,by show ct j<=63;omega⟩,rfl⟩
theorem I9:w9 PR 148 I7:=wT Mb Tryz.func148 (kcC HB (kcC nC kcN)) koN
theorem Mc:TY:=by
 rintro⟨s,⟨⟩⟩ d;have d:BT.qm s:=d;have e:=BT.uM s;refine⟨⟨0,⟨⟨rfl,by show(0:Int)=BT.size s-BT.size s;omega,tZ⟩,tZ⟩,d⟩,fun x a=>⟨fun h=> ?_,fun h=> ?_⟩⟩;have h:0<qQ s x:=ja h;have a:BT.qm (qQ s x):=a;have g:=BT.size_half a;have i:=BT.uM (qQ s x);have j:iA (qQ s x) 1=(qQ s x)%2:=by
  obtain⟨n,f,c⟩:=BT.nat_of a;rw[f,show(1:Int)=((1:Nat):Int) from rfl,BT.band_nat (BT.lt63 c) (by decide),kH];omega
 have b:qQ s (x+1)=qQ s x/2:=(by show qQ s x/2^1=_;simp);unfold BT.qm at a;refine⟨?_,by decide,by decide,x+1,⟨⟨rfl,?_,tZ⟩,tZ⟩,?_,?_⟩;show wl (BT.size s-BT.size (qQ s x)+iA (qQ s x) 1);exact iZ6;show BT.size s-BT.size (qQ s x)+iA (qQ s x) 1=BT.size s-BT.size (qQ s (x+1));rw[b];omega;show BT.qm (qQ s (x+1));rw[b];unfold BT.qm;omega;show(qQ s (x+1)).toNat<(qQ s x).toNat;rw[b];omega;have h:¬0<qQ s x:=jc h;have a:BT.qm (qQ s x):=a;unfold BT.qm at a;have:qQ s x=0:=(by omega);show(BT.size s-BT.size (qQ s x),())=(BT.size s,());rw[this,BT.size_zero];simp
theorem T6:w9 PR 113 TW:=vb TX Mc Tryz.func113 kcN koN
theorem XH:T3:=by
 rintro⟨c,j,t,⟨⟩⟩ a b d;exact⟨fun _=>a,fun _=>b,fun _=>d,rfl⟩
theorem jeZ {c:CrD} (h:wy c=true) {i:Nat} (hi:i<(wj c).length):((U.lv (nth (wj c) i)).length:Int)=U.la c:=by
 have:=(qe h).2.2.2.2.1 _ (L.wh hi);unfold il at this;simp only[ji,jp] at this;exact this.1.1
theorem T7:Pr:=by
 unfold Pr jjX jlr jlq jkI Prod.q4;rintro⟨c,t,lev,a,b,⟨⟩⟩ f g k;have f:wy c=true:=f;have g:0<=a/\a<U.la c:=g;have k:0<=b/\b<U.la c:=k;have n:=(qe f).2.2.1;refine⟨⟨0,⟨⟨rfl,tZ⟩,tZ⟩,jl _,fun j m=>by omega⟩,fun x l _=>⟨fun h=> ?_,fun h=> ?_⟩⟩;have h:(x:Int)<(wj c).length:=ja h;have o:=jeZ f (i:=x) (by omega);refine⟨⟨by omega,by omega⟩,fun _=>by omega,fun _=>h,fun _=>g.1,fun _=> ?_,fun _=>by omega,fun _=>h,fun _=>k.1,fun _=> ?_,fun d=> ?_,fun d=>⟨iZ6,x+1,⟨⟨by simp,tZ⟩,tZ⟩,⟨by show x+1<=(wj c).length;omega,fun j m=> ?_⟩,by show(wj c).length-(x+1)<(wj c).length-x;omega⟩⟩;show a<((U.lv (nth (wj c) x)).length:Int);omega;show b<((U.lv (nth (wj c) x)).length:Int);omega;have d:(w7 t (x:Int)&&decide (lev<=nth (U.lv (nth (wj c) x)) a.toNat)&&decide (lev<=nth (U.lv (nth (wj c) x)) b.toNat))=true:=d;have:lP c t lev a b=true:=by
  unfold lP;rw[zc];exact⟨x,jE.2 (by omega),d⟩
 show(true,())=(lP c t lev a b,());rw[this];by_cases e:j=x;subst e;exact d;exact l.2 j (by omega);have h:¬(x:Int)<(wj c).length:=jc h;have:lP c t lev a b=false:=by
  unfold lP;rw[zj];intro i hi;have hi:=jE.1 hi;have:=l.2 i (by omega);rw[zT];exact this
 show(false,())=(lP c t lev a b,());rw[this]
theorem Pu:w9 PR 150 Pp:=vb Pq T7 Tryz.func150 (kcC nC kcN) koN
theorem Pv (J:Nat->Nat->Bool) (r a:Nat) (out:List Int) (b:Nat):(oB J r a out b).length=out.length:=by
 unfold oB
 split
 rw[zK];rfl
theorem Md (J:Nat->Nat->Bool) (r a:Nat) (out:List Int) (k:Nat):yQ J r a out (k+1)=oB J r a (yQ J r a out k) k:=by
 unfold yQ;rw[j8,jO];rfl
theorem Ja (J:Nat->Nat->Bool) (r a:Nat) (out:List Int):∀k,(yQ J r a out k).length=out.length
 |0=>rfl
 |k+1=>by rw[Md,Pv,Ja J r a out k]
theorem Me (J:Nat->Nat->Bool) (n r:Nat) (out:List Int) (k:Nat):yk J n r out (k+1)=yQ J r k (yk J n r out k) n:=by
 unfold yk;rw[j8,jO];rfl
theorem Jb (J:Nat->Nat->Bool) (n r:Nat) (out:List Int):∀k,(yk J n r out k).length=out.length
 |0=>rfl
 |k+1=>by rw[Me,Ja,Jb J n r out k]
theorem Mf (J:Nat->Nat->Bool) (n s:Nat) (k:Nat):qT J n s (k+1)=yk J n k (qT J n s k) n:=by
 unfold qT;rw[j8,jO];rfl
theorem Jc (J:Nat->Nat->Bool) (n s:Nat):∀k,(qT J n s k).length=n
 |0=>rj n s
 |k+1=>by rw[Mf,Jb,Jc J n s k]
theorem jax:XE:=by
 unfold XE jls jkJ jjY jir jiO jjj jhf;rintro⟨c,t,lev,s,⟨⟩⟩ j l;have j:wy c=true:=j;have l:0<=s/\s<U.la c:=l;have r:=qe j;obtain⟨J,u⟩:∃J,J=U.J3 c t lev:=⟨_,rfl⟩;refine⟨⟨0,⟨⟨rfl,tZ,tZ⟩,rfl,tZ⟩,jl _⟩,fun x i=>⟨fun h=> ?_,fun h=> ?_⟩⟩;have h:(x:Int)<U.la c:=ja h;refine⟨by simp only[jW,za,zu];omega,iZ6,x+1,⟨⟨by simp,tZ,tZ⟩,?_,tZ⟩,by show x+1<=(U.la c).toNat;omega,by show(U.la c).toNat-(x+1)<(U.la c).toNat-x;omega⟩;exact List.replicate_succ'.symm;have h:¬(x:Int)<U.la c:=jc h;have i:x<=(U.la c).toNat:=i;have f:x=(U.la c).toNat:=(by omega);subst f;refine⟨l.1,by rw[jW];show s<(((U.la c).toNat:Nat):Int);omega,⟨0,⟨⟨rfl,tZ,tZ⟩,rfl,tZ⟩,jl _⟩,fun x i=>⟨fun h=>⟨⟨0,⟨⟨rfl,tZ,tZ⟩,rfl,tZ⟩,jl _⟩,fun y p=>⟨fun e=>⟨⟨0,⟨⟨rfl,tZ,tZ⟩,rfl,tZ⟩,jl _⟩,fun z q=>⟨fun g=> ?_,fun g=> ?_⟩⟩,fun e=> ?_⟩⟩,fun h=> ?_⟩⟩;have h:(x:Int)<U.la c:=ja h;have e:(y:Int)<U.la c:=ja e;have g:(z:Int)<U.la c:=ja g;have d:=Md (U.J3 c t lev) x y (yk (U.J3 c t lev) (U.la c).toNat x (qT (U.J3 c t lev) (U.la c).toNat s.toNat x) y) z;have b:(yQ (U.J3 c t lev) x y (yk (U.J3 c t lev) (U.la c).toNat x (qT (U.J3 c t lev) (U.la c).toNat s.toNat x) y) z).length=(U.la c).toNat:=(by rw[Ja,Jb,Jc]);have up:z+1<=(U.la c).toNat:=(by omega);have o:(U.la c).toNat-(z+1)<(U.la c).toNat-z:=(by omega);refine⟨by omega,by show(y:Int)<(yQ (U.J3 c t lev) x y (yk (U.J3 c t lev) (U.la c).toNat x (qT (U.J3 c t lev) (U.la c).toNat s.toNat x) y) z).length;rw[b];omega,fun _=>by omega,fun _=>by show(z:Int)<(yQ (U.J3 c t lev) x y (yk (U.J3 c t lev) (U.la c).toNat x (qT (U.J3 c t lev) (U.la c).toNat s.toNat x) y) z).length;rw[b];omega,fun _=>j,fun _=>⟨by omega,e⟩,fun _=>⟨by omega,g⟩,fun a=> ?_,fun a=> ?_⟩;have a:((decide (nth (yQ (U.J3 c t lev) x y (yk (U.J3 c t lev) (U.la c).toNat x (qT (U.J3 c t lev) (U.la c).toNat s.toNat x) y) z) y=(x:Int))&&decide (nth (yQ (U.J3 c t lev) x y (yk (U.J3 c t lev) (U.la c).toNat x (qT (U.J3 c t lev) (U.la c).toNat s.toNat x) y) z) z<0))&&U.J3 c t lev y z)=true:=a;simp only[ji,jp] at a;refine⟨iZ6,by omega,by show(z:Int)<(yQ (U.J3 c t lev) x y (yk (U.J3 c t lev) (U.la c).toNat x (qT (U.J3 c t lev) (U.la c).toNat s.toNat x) y) z).length;rw[b];omega,iZ6,z+1,⟨⟨tZ,by simp,tZ⟩,?_,tZ⟩,up,o⟩;show(yQ (U.J3 c t lev) x y (yk (U.J3 c t lev) (U.la c).toNat x (qT (U.J3 c t lev) (U.la c).toNat s.toNat x) y) z).set z ((x:Int)+1)=yQ (U.J3 c t lev) x y (yk (U.J3 c t lev) (U.la c).toNat x (qT (U.J3 c t lev) (U.la c).toNat s.toNat x) y) (z+1);rw[d];unfold oB;rw[je ⟨a.1.1,a.1.2,a.2⟩];have a:((decide (nth (yQ (U.J3 c t lev) x y (yk (U.J3 c t lev) (U.la c).toNat x (qT (U.J3 c t lev) (U.la c).toNat s.toNat x) y) z) y=(x:Int))&&decide (nth (yQ (U.J3 c t lev) x y (yk (U.J3 c t lev) (U.la c).toNat x (qT (U.J3 c t lev) (U.la c).toNat s.toNat x) y) z) z<0))&&U.J3 c t lev y z)=false:=a;refine⟨iZ6,z+1,⟨⟨tZ,by simp,tZ⟩,?_,tZ⟩,up,o⟩;show yQ (U.J3 c t lev) x y (yk (U.J3 c t lev) (U.la c).toNat x (qT (U.J3 c t lev) (U.la c).toNat s.toNat x) y) z=yQ (U.J3 c t lev) x y (yk (U.J3 c t lev) (U.la c).toNat x (qT (U.J3 c t lev) (U.la c).toNat s.toNat x) y) (z+1);rw[d];unfold oB;rw[jd (fun k=>by rw[jG k.1,jG k.2.1,k.2.2] at a;cases a)];have e:(y:Int)<U.la c:=ja e;have g:¬(z:Int)<U.la c:=jc g;have q:z<=(U.la c).toNat:=q;have n:z=(U.la c).toNat:=(by omega);subst n;refine⟨iZ6,y+1,⟨⟨by simp,tZ,tZ⟩,?_,tZ⟩,by show y+1<=(U.la c).toNat;omega,by show(U.la c).toNat-(y+1)<(U.la c).toNat-y;omega⟩;exact(Me (U.J3 c t lev) (U.la c).toNat x (qT (U.J3 c t lev) (U.la c).toNat s.toNat x) y).symm;have h:(x:Int)<U.la c:=ja h;have e:¬(y:Int)<U.la c:=jc e;have p:y<=(U.la c).toNat:=p;have m:y=(U.la c).toNat:=(by omega);subst m;refine⟨iZ6,x+1,⟨⟨by simp,tZ,tZ⟩,?_,tZ⟩,by show x+1<=(U.la c).toNat;omega,by show(U.la c).toNat-(x+1)<(U.la c).toNat-x;omega⟩;exact(Mf (U.J3 c t lev) (U.la c).toNat s.toNat x).symm;have h:¬(x:Int)<U.la c:=jc h;have i:x<=(U.la c).toNat:=i;have f:x=(U.la c).toNat:=(by omega);subst f;rfl
theorem XI:w9 PR 114 XC:=vb XD jax Tryz.func114 (kcC Pu kcN) koN
theorem Ed (c:CrD) (j:JbD) (t:Int) (n:Nat):qE c j t (n+1)=QU c j t (qE c j t n) n:=by
 unfold qE;rw[j8,jO];rfl
theorem Mg {c:CrD} {j:JbD} {t:Int} {n:Nat} (h:w7 t (n:Int)=false):qE c j t (n+1)=qE c j t n:=by
 rw[Ed];unfold QU;rw[h,jd (by simp)]
theorem jdn {c:CrD} {j:JbD} {t:Int} {n:Nat} {a b d:Bool} (h:w7 t (n:Int)=true) (e:dm (nth (wj c) n) (Zn j)=a) (f:(!w7 (U.fd (nth (wj c) n)) (QR j))=b) (g:(!w7 (U.cl (nth (wj c) n)) (ct j))=d):
 qE c j t (n+1)=(SA d (SA b (SA a (qE c j t n).1 1) 2) 4,(qE c j t n).2||jd6 (nth (wj c) n)):=by
 rw[Ed];unfold QU;rw[je h,e,f,g]
theorem je0 {c:CrD} {j:JbD} {t:Int} {a b d:Bool} (e:decide (BT.size t≠max (jbp j) (jd7 (dH c j)))=a) (f:(jfM (dH c j)&& !jgh c j t)=b) (g:decide (nth (nV c t (Vt (dH c j)) (NB j)) (HT j).toNat<0)=d):
 Vl c j t=SA d (SA b (SA a (jgg c j t) 8) 16) 32:=by
 unfold Vl;rw[e,f,g]
theorem Pw:Ma:=by
 unfold Ma jj1 jj0 jjZ jib jia jjl jis jh9 jh8 jg7 jjk jgY Prod.q4;rintro⟨c,j,t,⟨⟩⟩ l s u;have l:wy c=true:=l;have s:ql c j=true:=s;have u:Zf t:=u;have A:=(qe l).2.2.1;have d:=(qe l).2.2.2.1;obtain⟨q,r,f,k,_⟩:=XG s;have p:0<=QR j/\QR j<=63:=(by omega);have i:0<=ct j/\ct j<=63:=(by omega);have y:BT.qm t:=(by unfold Zf at u;unfold BT.qm;omega);refine⟨k.1,by show ct j<((ga c).length:Int);omega,⟨0,⟨⟨rfl,rfl,rfl,tZ⟩,tZ⟩,jl _⟩,fun x w _=>⟨fun h=> ?_,fun h=> ?_⟩⟩
 .have h:(x:Int)<(wj c).length:=ja h;have up:x+1<=(wj c).length:=(by omega);have m:(wj c).length-(x+1)<(wj c).length-x:=(by omega);have i64:wl ((x:Int)+1):=iZ6;refine⟨⟨by omega,by omega⟩,fun b=> ?_,fun b=> ?_⟩
  .have b:(!w7 t (x:Int))=true:=b;have e:=Mg (c:=c) (j:=j) (t:=t) (n:=x) (by simpa using b);exact⟨i64,x+1,⟨⟨jD (·.2) e.symm,jD (·.1) e.symm,by simp,tZ⟩,tZ⟩,up,m⟩
  .have b:(!w7 t (x:Int))=false:=b;have b:w7 t (x:Int)=true:=(by simpa using b);refine⟨by omega,h,fun o=>⟨p,fun a=>⟨i,fun d=> ?_,fun d=> ?_⟩,fun a=>⟨i,fun d=> ?_,fun d=> ?_⟩⟩,fun o=>⟨p,fun a=>⟨i,fun d=> ?_,fun d=> ?_⟩,fun a=>⟨i,fun d=> ?_,fun d=> ?_⟩⟩⟩
   all_goals
    have e:=jdn (c:=c) (j:=j) (t:=t) (n:=x) b o a d
    first
    |exact⟨i64,x+1,⟨⟨by simp,jD (·.2) e.symm,jD (·.1) e.symm,tZ⟩,tZ⟩,up,m⟩
    |exact⟨i64,x+1,⟨⟨jD (·.1) e.symm,by simp,jD (·.2) e.symm,tZ⟩,tZ⟩,up,m⟩
    |exact⟨i64,x+1,⟨⟨jD (·.2) e.symm,by simp,jD (·.1) e.symm,tZ⟩,tZ⟩,up,m⟩
    |exact⟨i64,x+1,⟨⟨jD (·.2) e.symm,jD (·.1) e.symm,by simp,tZ⟩,tZ⟩,up,m⟩
    |exact⟨i64,x+1,⟨⟨by simp,jD (·.1) e.symm,jD (·.2) e.symm,tZ⟩,tZ⟩,up,m⟩
    |exact⟨i64,x+1,⟨⟨jD (·.1) e.symm,jD (·.2) e.symm,by simp,tZ⟩,tZ⟩,up,m⟩
 .have h:¬(x:Int)<(wj c).length:=jc h;have w:x<=(wj c).length:=w;have v:x=(wj c).length:=(by omega);subst v;have g:HT j<((nV c t (Vt (dH c j)) (NB j)).length:Int):=by
   unfold nV;rw[Jc];omega
  refine⟨y,fun b=>⟨fun o=>⟨l,q,r.1,g,fun a=> ?_,fun a=> ?_⟩,fun o=>⟨l,q,r.1,g,fun a=> ?_,fun a=> ?_⟩⟩,fun b=>⟨fun o=>⟨l,q,r.1,g,fun a=> ?_,fun a=> ?_⟩,fun o=>⟨l,q,r.1,g,fun a=> ?_,fun a=> ?_⟩⟩⟩
  all_goals
   have e:=je0 (c:=c) (j:=j) (t:=t) b o a;exact jD (fun z=>(z,())) e.symm
theorem Mh:w9 PR 79 L8:=vb L9 Pw Tryz.func79 (kcC nC (kcC HB (kcC T6 (kcC XI kcN)))) koN
theorem T8:w9 PR 49 TZ:=wT XH Tryz.func49 (kcC Mh kcN) koN
theorem jay (l:Int) (p:PeD):il l p=(!(decide (((U.lv p).length:Int)≠l)|| !wa (U.fd p) 0 255|| !wa (U.cl p) 0 255||decide (10<((vw p).length:Int))|| !wa (U.fe p) 0 1000)&&((U.lv p).all (fun n=>wa n 0 5)&&(vw p).all (fun n=>wa n 0 99))):=by
 unfold il;congr 1;rw[j7];simp only[wa,jX,jT,jI,zq,ji,jp];omega
theorem Cc (c:CrD):wy c=(!(!wa (U.la c) 2 5||decide (8<((wj c).length:Int))||decide (((ga c).length:Int)≠4))&&((wj c).all (il (U.la c))&&(ga c).all im)):=by
 unfold wy;congr 1;rw[j7];simp only[wa,jX,jT,jI,zq,ji,jp];omega
theorem xI {c:CrD} {x:Nat} (a:x<(wj c).length) (h:il (U.la c) (nth (wj c) x)=false):wy c=false:=by
 have:(wj c).all (il (U.la c))=false:=zW.2 ⟨_,L.wh a,by rw[h];simp⟩;rw[Cc,this];simp
theorem T9 {c:CrD} {x:Nat} (a:x<(ga c).length) (h:im (nth (ga c) x)=false):wy c=false:=by
 have:(ga c).all im=false:=zW.2 ⟨_,L.wh a,by rw[h];simp⟩;rw[Cc,this];simp
theorem lu {α:Type} [Inhabited α] {l:List α} {p:α->Bool} {x:Nat} (c:¬x<l.length) (h:∀j:Nat,j<x->p (nth l j)=true):l.all p=true:=by
 rw[jV];intro a b;obtain⟨i,hi,rfl⟩:=L.mem_iff.1 b;exact h i (by omega)
theorem nD {c:CrD} (h:wy c=false):(false,())=(wy c,()):=by rw[h]
theorem Px:L7:=by
 unfold L7 jlp jjW jlo jji jh7 jjh jln jjV jjg jg0 Prod.q4;rintro⟨c,⟨⟩⟩ _ _;refine⟨fun h=> ?_,fun h=> ?_⟩;have h:(!wa (U.la c) 2 5||decide (8<((wj c).length:Int))||decide (((ga c).length:Int)≠4))=true:=h;refine nD (c:=c) ?_;rw[Cc,h];rfl;have B:(!wa (U.la c) 2 5||decide (8<((wj c).length:Int))||decide (((ga c).length:Int)≠4))=false:=h;clear h;refine⟨⟨0,⟨⟨rfl,tZ⟩,tZ⟩,jl _,fun j k=>by omega⟩,fun x s r=>⟨fun h=> ?_,fun h=> ?_⟩⟩;have r:(wj c).length<4611686018427387904:=r;have h:(x:Int)<(wj c).length:=ja h;have m:x<(wj c).length:=(by omega);refine⟨by omega,h,fun _ _=>⟨fun g=> ?_,fun g=> ?_⟩⟩;have g:(decide (((U.lv (nth (wj c) x)).length:Int)≠U.la c)|| !wa (U.fd (nth (wj c) x)) 0 255|| !wa (U.cl (nth (wj c) x)) 0 255||decide (10<((vw (nth (wj c) x)).length:Int))|| !wa (U.fe (nth (wj c) x)) 0 1000)=true:=g;refine nD (c:=c) (xI m ?_);rw[jay,g];rfl;have g:(decide (((U.lv (nth (wj c) x)).length:Int)≠U.la c)|| !wa (U.fd (nth (wj c) x)) 0 255|| !wa (U.cl (nth (wj c) x)) 0 255||decide (10<((vw (nth (wj c) x)).length:Int))|| !wa (U.fe (nth (wj c) x)) 0 1000)=false:=g;refine⟨⟨0,⟨⟨rfl,tZ⟩,tZ⟩,jl _,fun j k=>by omega⟩,fun y q d=>⟨fun b=> ?_,fun b=> ?_⟩⟩;have d:(U.lv (nth (wj c) x)).length<4611686018427387904:=d;have b:(y:Int)<(U.lv (nth (wj c) x)).length:=ja b;refine⟨by omega,b,fun a=> ?_,fun a=>⟨iZ6,y+1,⟨⟨by simp,tZ⟩,tZ⟩,⟨by show y+1<=(U.lv (nth (wj c) x)).length;omega,fun j k=> ?_⟩,by show(U.lv (nth (wj c) x)).length-(y+1)<(U.lv (nth (wj c) x)).length-y;omega⟩⟩;have a:(!wa (nth (U.lv (nth (wj c) x)) y) 0 5)=true:=a;have a:wa (nth (U.lv (nth (wj c) x)) y) 0 5=false:=(by simpa using a);refine nD (c:=c) (xI m ?_);have:(U.lv (nth (wj c) x)).all (fun n=>wa n 0 5)=false:=zW.2 ⟨_,L.wh (l:=U.lv (nth (wj c) x)) (i:=y) (by omega),by rw[a];simp⟩;rw[jay,this];simp;have a:(!wa (nth (U.lv (nth (wj c) x)) y) 0 5)=false:=a;by_cases e:j=y;subst e;exact(show wa (nth (U.lv (nth (wj c) x)) j) 0 5=true by simpa using a);exact q.2 j (by omega);have b:¬(y:Int)<(U.lv (nth (wj c) x)).length:=jc b;have u:(U.lv (nth (wj c) x)).all (fun n=>wa n 0 5)=true:=lu (by omega) q.2;refine⟨⟨0,⟨⟨rfl,tZ⟩,tZ⟩,jl _,fun j k=>by omega⟩,fun z t o=>⟨fun a=> ?_,fun a=> ?_⟩⟩;have o:(vw (nth (wj c) x)).length<4611686018427387904:=o;have a:(z:Int)<(vw (nth (wj c) x)).length:=ja a;refine⟨by omega,a,fun f=> ?_,fun f=>⟨iZ6,z+1,⟨⟨by simp,tZ⟩,tZ⟩,⟨by show z+1<=(vw (nth (wj c) x)).length;omega,fun j k=> ?_⟩,by show(vw (nth (wj c) x)).length-(z+1)<(vw (nth (wj c) x)).length-z;omega⟩⟩;have f:(!wa (nth (vw (nth (wj c) x)) z) 0 99)=true:=f;have f:wa (nth (vw (nth (wj c) x)) z) 0 99=false:=(by simpa using f);refine nD (c:=c) (xI m ?_);have:(vw (nth (wj c) x)).all (fun n=>wa n 0 99)=false:=zW.2 ⟨_,L.wh (l:=vw (nth (wj c) x)) (i:=z) (by omega),by rw[f];simp⟩;rw[jay,this];simp;have f:(!wa (nth (vw (nth (wj c) x)) z) 0 99)=false:=f;by_cases e:j=z;subst e;exact(show wa (nth (vw (nth (wj c) x)) j) 0 99=true by simpa using f);exact t.2 j (by omega);have a:¬(z:Int)<(vw (nth (wj c) x)).length:=jc a;have v:(vw (nth (wj c) x)).all (fun n=>wa n 0 99)=true:=lu (by omega) t.2;refine⟨iZ6,x+1,⟨⟨by simp,tZ⟩,tZ⟩,⟨by show x+1<=(wj c).length;omega,fun j k=> ?_⟩,by show(wj c).length-(x+1)<(wj c).length-x;omega⟩;by_cases e:j=x;subst e;show il (U.la c) (nth (wj c) j)=true;rw[jay,g,u,v];rfl;exact s.2 j (by omega);have h:¬(x:Int)<(wj c).length:=jc h;have A:(wj c).all (il (U.la c))=true:=lu (by omega) s.2;refine⟨⟨0,⟨⟨rfl,tZ⟩,tZ⟩,jl _,fun j k=>by omega⟩,fun y q d=>⟨fun b=> ?_,fun b=> ?_⟩⟩;have d:(ga c).length<4611686018427387904:=d;have b:(y:Int)<(ga c).length:=ja b;have p:im (nth (ga c) y)= !(!wa (Vt (nth (ga c) y)) 1 5|| !wa (jd7 (nth (ga c) y)) 1 8):=by
  unfold im;rw[Bool.not_or,Bool.not_not,Bool.not_not]
 refine⟨by omega,b,fun _=>by omega,fun _=>b,fun a=> ?_,fun a=>⟨iZ6,y+1,⟨⟨by simp,tZ⟩,tZ⟩,⟨by show y+1<=(ga c).length;omega,fun j k=> ?_⟩,by show(ga c).length-(y+1)<(ga c).length-y;omega⟩⟩;have a:(!wa (Vt (nth (ga c) y)) 1 5|| !wa (jd7 (nth (ga c) y)) 1 8)=true:=a;exact nD (c:=c) (T9 (x:=y) (by omega) (by rw[p,a];rfl));have a:(!wa (Vt (nth (ga c) y)) 1 5|| !wa (jd7 (nth (ga c) y)) 1 8)=false:=a;by_cases e:j=y;subst e;show im (nth (ga c) j)=true;rw[p,a];rfl;exact q.2 j (by omega);have b:¬(y:Int)<(ga c).length:=jc b;have w:(ga c).all im=true:=lu (by omega) q.2;show(true,())=(wy c,());rw[Cc,B,A,w];rfl
theorem Az:w9 PR 91 L5:=vb L6 Px Tryz.func91 (kcC Ay kcN) koN
namespace U
def gy (l:List ShD) (i k:Nat) (id:Int):Bool:=decide (gM (nth l i)=id)&& !((l.take k).any (fun x=>decide (x=nth l i)))
end U
def Mi:w4:=⟨[.val .int,.val .int,.val .int],[.bool],false,fun _=>[],fun d=>(wa d.1 d.2.1 d.2.2.1,())⟩
def Mj:Prop:=∀(d:Int×Int×Int×Unit),(decide (d.2.1<=d.1)&&decide (d.1<=d.2.2.1),())=(wa d.1 d.2.1 d.2.2.1,())
def Ee:w4:=⟨[.val tDy,.val .int],[.bool],false,fun _=>[],fun d=>(Ze d.1 d.2.1,())⟩
def Ef:Prop:=∀(d:DyD×Int×Unit),d.1.2.2.1.length<4611686018427387904->wl ((d.1.2.2.1.length:Int)-1)/\(wa d.2.1 (0:Int) ((d.1.2.2.1.length:Int)-1),())=(Ze d.1 d.2.1,())
def FT:w4:=⟨[.val tDy,.val .int],[.bool],false,fun _=>[],fun d=>(Ni d.1 d.2.1,())⟩
def FU:Prop:=∀(d:DyD×Int×Unit),d.1.1.2.1.length<4611686018427387904->wl ((d.1.1.2.1.length:Int)-1)/\(wa d.2.1 (0:Int) ((d.1.1.2.1.length:Int)-1),())=(Ni d.1 d.2.1,())
def Py:w4:=⟨[.val tDy],[.bool],false,fun _=>[],fun d=>(qG d.1,())⟩
def Pz:Ann:=fun r=>match r with
 |4=>some fun σ=>{X:=Nat,sl:=fun i=>[(3,.dat .int (i:Int))],ob:=fun _=>[],inv:=fun i=>i<=(qg (gb tDy σ 1)).length/\∀j:Nat,j<i->di (qg (gb tDy σ 1)).length (nth (qg (gb tDy σ 1)) j)=true,mu:=fun i=>(qg (gb tDy σ 1)).length-i}
 |9=>some fun σ=>{X:=Nat,sl:=fun i=>[(4,.dat .int (i:Int))],ob:=fun _=>[],inv:=fun i=>i<=(nth (qg (gb tDy σ 1)) (gd .int σ 3).toNat).length/\∀j:Nat,j<i->uC (nth (nth (qg (gb tDy σ 1)) (gd .int σ 3).toNat) j)=true,mu:=fun i=>(nth (qg (gb tDy σ 1)) (gd .int σ 3).toNat).length-i}
 |15=>some fun σ=>{X:=Nat,sl:=fun i=>[(6,.dat .int (i:Int))],ob:=fun _=>[],inv:=fun i=>i<=(wm (gb tDy σ 1)).length/\∀j:Nat,j<i->nP (qg (gb tDy σ 1)).length (nth (wm (gb tDy σ 1)) j)=true,mu:=fun i=>(wm (gb tDy σ 1)).length-i}
 |21=>some fun σ=>{X:=Nat,sl:=fun i=>[(8,.dat .int (i:Int))],ob:=fun _=>[],inv:=fun i=>i<=(qi (gb tDy σ 1)).length/\∀j:Nat,j<i->nQ (wm (gb tDy σ 1)).length (wj (ww (gb tDy σ 1))).length (nth (qi (gb tDy σ 1)) j)=true,mu:=fun i=>(qi (gb tDy σ 1)).length-i}
 |_=>none
abbrev jiP (d:DyD×Unit)(x:Nat):=(nth d.1.2.1 (x:Int).toNat)
abbrev jlt (d:DyD×Unit)(x:Nat)(a:Nat):=(decide ((nth (jiP d x) (a:Int).toNat).1<0)||decide ((nth (jiP d x) (a:Int).toNat).2.1<(nth (jiP d x) (a:Int).toNat).1)||decide ((300:Int)<(nth (jiP d x) (a:Int).toNat).2.1))
abbrev jic (d:DyD×Unit)(x:Nat):=(nth (qg d.1) (x:Int).toNat)
abbrev jhB (d:DyD×Unit):=(d.1.2.1.length:Int)
abbrev jjm (d:DyD×Unit)(x:Nat):=(nth d.1.q4.2.1 (x:Int).toNat)
abbrev jlu (d:DyD×Unit)(x:Nat):=(!wa (jjm d x).1 (0:Int) (99:Int)|| !wa (jjm d x).2.1 (0:Int) (9999:Int)|| !wa (jjm d x).2.2.1 (1:Int) (2:Int)|| !Ze d.1 (jjm d x).2.2.2.1|| !Ni d.1 (jjm d x).q4.1)
abbrev jiQ (d:DyD×Unit):=(d.1.2.2.1.length:Int)
abbrev jkK (x:Nat)(a:Nat):=(((x:Int)+1=(a:Int)/\True)/\True)
abbrev jjn (d:DyD×Unit)(x:Nat):=(nth d.1.2.2.1 (x:Int).toNat)
abbrev jlv (d:DyD×Unit)(x:Nat):=(!wa (jjn d x).2.1 (0:Int) ((jhB d)-1)||decide ((jjn d x).2.2.1<0)||decide ((jjn d x).2.2.2.1<=(jjn d x).2.2.1)||decide ((1440:Int)<(jjn d x).2.2.2.1))
abbrev jjo (d:DyD×Unit)(x:Nat):=(↑(jiP d x).length:Int)
abbrev jj2 (d:DyD×Unit):=(d.1.q4.2.1.length:Int)
abbrev jlw (d:DyD×Unit):=(decide (4<(jiQ d))|| !wa (jhB d) (1:Int) (5:Int)|| !wa d.1.2.2.2.1 (0:Int) (300:Int)|| !wa d.1.q4.1 (0:Int) (1440:Int)||decide (30<(jj2 d)))
abbrev jkL (x:Nat):=((0=(x:Int)/\True)/\True)
def PA:Prop:=∀(d:DyD×Unit),d.1.2.2.1.length<4611686018427387904->((!decide (4<(jiQ d)))=true->d.1.2.1.length<4611686018427387904)->((!(decide (4<(jiQ d))|| !wa (jhB d) (1:Int) (5:Int)|| !wa d.1.2.2.2.1 (0:Int) (300:Int)|| !wa d.1.q4.1 (0:Int) (1440:Int)))=true->d.1.q4.2.1.length<4611686018427387904)->((jlw d)=true->(false,())=(qG d.1,()))/\((jlw d)=false->(∃(x:Nat),(jkL x)/\x<=(qg d.1).length/\∀(j:Nat),j<x->di (qg d.1).length (nth (qg d.1) j)=true)/\∀(x:Nat),(x<=(qg d.1).length/\∀(j:Nat),j<x->di (qg d.1).length (nth (qg d.1) j)=true)->d.1.2.1.length<4611686018427387904->(decide ((x:Int)<(jhB d))=true->0<=(x:Int)/\(x:Int)<(jhB d)/\(decide ((jjo d x)≠(jhB d))=true->(false,())=(qG d.1,()))/\(decide ((jjo d x)≠(jhB d))=false->(∃(a:Nat),((0=(a:Int)/\True)/\True)/\a<=(jic d x).length/\∀(j:Nat),j<a->uC (nth (jic d x) j)=true)/\∀(a:Nat),(a<=(jic d x).length/\∀(j:Nat),j<a->uC (nth (jic d x) j)=true)->0<=(x:Int)/\(x:Int)<(jhB d)/\((jiP d x).length<4611686018427387904->(decide ((a:Int)<(jjo d x))=true->0<=(x:Int)/\(x:Int)<(jhB d)/\0<=(a:Int)/\(a:Int)<(jjo d x)/\((jlt d x a)=true->(false,())=(qG d.1,()))/\((jlt d x a)=false->wl ((a:Int)+1)/\∃(b:Nat),(((a:Int)+1=(b:Int)/\True)/\True)/\(b<=(jic d x).length/\∀(j:Nat),j<b->uC (nth (jic d x) j)=true)/\(jic d x).length-b<(jic d x).length-a))/\(decide ((a:Int)<(jjo d x))=false->wl ((x:Int)+1)/\∃(b:Nat),(jkK x b)/\(b<=(qg d.1).length/\∀(j:Nat),j<b->di (qg d.1).length (nth (qg d.1) j)=true)/\(qg d.1).length-b<(qg d.1).length-x))))/\(decide ((x:Int)<(jhB d))=false->(∃(x:Nat),(jkL x)/\x<=(wm d.1).length/\∀(j:Nat),j<x->nP (qg d.1).length (nth (wm d.1) j)=true)/\∀(x:Nat),(x<=(wm d.1).length/\∀(j:Nat),j<x->nP (qg d.1).length (nth (wm d.1) j)=true)->d.1.2.2.1.length<4611686018427387904->(decide ((x:Int)<(jiQ d))=true->0<=(x:Int)/\(x:Int)<(jiQ d)/\(d.1.2.1.length<4611686018427387904->wl ((jhB d)-1)/\((jlv d x)=true->(false,())=(qG d.1,()))/\((jlv d x)=false->wl ((x:Int)+1)/\∃(b:Nat),(jkK x b)/\(b<=(wm d.1).length/\∀(j:Nat),j<b->nP (qg d.1).length (nth (wm d.1) j)=true)/\(wm d.1).length-b<(wm d.1).length-x)))/\(decide ((x:Int)<(jiQ d))=false->(∃(x:Nat),(jkL x)/\x<=(qi d.1).length/\∀(j:Nat),j<x->nQ (wm d.1).length (wj (ww d.1)).length (nth (qi d.1) j)=true)/\∀(x:Nat),(x<=(qi d.1).length/\∀(j:Nat),j<x->nQ (wm d.1).length (wj (ww d.1)).length (nth (qi d.1) j)=true)->d.1.q4.2.1.length<4611686018427387904->(decide ((x:Int)<(jj2 d))=true->0<=(x:Int)/\(x:Int)<(jj2 d)/\((jlu d x)=true->(false,())=(qG d.1,()))/\((jlu d x)=false->wl ((x:Int)+1)/\∃(b:Nat),(jkK x b)/\(b<=(qi d.1).length/\∀(j:Nat),j<b->nQ (wm d.1).length (wj (ww d.1)).length (nth (qi d.1) j)=true)/\(qi d.1).length-b<(qi d.1).length-x))/\(decide ((x:Int)<(jj2 d))=false->(true,())=(qG d.1,())))))
def PB:w4:=⟨[.val (.slice tSh)],[.bool],false,fun d=>[d.1.length<=1000000],fun d=>(cu d.1,())⟩
def PC:Ann:=fun r=>match r with
 |2=>some fun σ=>{X:=Nat,sl:=fun i=>[(3,.dat .int (i:Int))],ob:=fun _=>[],inv:=fun i=>i<=(gd (.slice tSh) σ 0).length/\aV (gd (.slice tSh) σ 0) i=false,mu:=fun i=>(gd (.slice tSh) σ 0).length-i}
 |5=>some fun σ=>{X:=Nat,sl:=fun i=>[(4,.dat .int (i:Int))],ob:=fun _=>[],inv:=fun i=>i<=(gd .int σ 3).toNat/\∀j:Nat,j<i->E6 (nth (gd (.slice tSh) σ 0) (gd .int σ 3).toNat) (nth (gd (.slice tSh) σ 0) j)=false,mu:=fun i=>(gd .int σ 3).toNat-i}
 |_=>none
abbrev jiR (d:List ShD×Unit)(x:Nat)(a:Nat):=((nth d.1 (x:Int).toNat).1=(nth d.1 (a:Int).toNat).1)
def PE:Prop:=∀(d:List ShD×Unit),d.1.length<=1000000->(∃(x:Nat),((0=(x:Int)/\True)/\True)/\x<=d.1.length/\aV d.1 x=false)/\∀(x:Nat),x<=d.1.length/\aV d.1 x=false->d.1.length<4611686018427387904->(decide ((x:Int)<d.1.length)=true->(∃(a:Nat),((0=(a:Int)/\True)/\True)/\a<=(x:Int).toNat/\∀(j:Nat),j<a->E6 (nth d.1 (x:Int).toNat) (nth d.1 j)=false)/\∀(a:Nat),(a<=(x:Int).toNat/\∀(j:Nat),j<a->E6 (nth d.1 (x:Int).toNat) (nth d.1 j)=false)->(decide ((a:Int)<(x:Int))=true->0<=(x:Int)/\(x:Int)<d.1.length/\0<=(a:Int)/\(a:Int)<d.1.length/\(decide (jiR d x a)=true->0<=(x:Int))/\(decide (jiR d x a)=true->(x:Int)<d.1.length)/\(decide (jiR d x a)=true->0<=(a:Int))/\(decide (jiR d x a)=true->(a:Int)<d.1.length)/\((decide (jiR d x a)&& !decide (nth d.1 (x:Int).toNat=nth d.1 (a:Int).toNat))=true->(true,())=(cu d.1,()))/\((decide (jiR d x a)&& !decide (nth d.1 (x:Int).toNat=nth d.1 (a:Int).toNat))=false->wl ((a:Int)+1)/\∃(b:Nat),(((a:Int)+1=(b:Int)/\True)/\True)/\(b<=(x:Int).toNat/\∀(j:Nat),j<b->E6 (nth d.1 (x:Int).toNat) (nth d.1 j)=false)/\(x:Int).toNat-b<(x:Int).toNat-a))/\(decide ((a:Int)<(x:Int))=false->wl ((x:Int)+1)/\∃(b:Nat),(((x:Int)+1=(b:Int)/\True)/\True)/\(b<=d.1.length/\aV d.1 b=false)/\d.1.length-b<d.1.length-x))/\(decide ((x:Int)<d.1.length)=false->(false,())=(cu d.1,()))
def PF:w4:=⟨[.val tDy],[.int],false,fun d=>[(wm d.1).length<=1000000],fun d=>(aA d.1,())⟩
def PG:Ann:=fun r=>match r with
 |4=>some fun σ=>{X:=Nat,sl:=fun i=>[(3,.dat .int (i:Int))],ob:=fun _=>[],inv:=fun i=>i<=(wm (gb tDy σ 1)).length/\∀j:Nat,j<i->ql (ww (gb tDy σ 1)) (gg (nth (wm (gb tDy σ 1)) j))=true,mu:=fun i=>(wm (gb tDy σ 1)).length-i}
 |_=>none
def PH:Prop:=∀(d:DyD×Unit),(wm d.1).length<=1000000->((!wy d.1.1)=true->((30:Int),())=(aA d.1,()))/\((!wy d.1.1)=false->(∃(x:Nat),((0=(x:Int)/\True)/\True)/\x<=(wm d.1).length/\∀(j:Nat),j<x->ql (ww d.1) (gg (nth (wm d.1) j))=true)/\∀(x:Nat),(x<=(wm d.1).length/\∀(j:Nat),j<x->ql (ww d.1) (gg (nth (wm d.1) j))=true)->d.1.2.2.1.length<4611686018427387904->(decide ((x:Int)<d.1.2.2.1.length)=true->0<=(x:Int)/\(x:Int)<d.1.2.2.1.length/\wy d.1.1=true/\((!ql d.1.1 (nth d.1.2.2.1 (x:Int).toNat).1)=true->((31:Int),())=(aA d.1,()))/\((!ql d.1.1 (nth d.1.2.2.1 (x:Int).toNat).1)=false->wl ((x:Int)+1)/\∃(a:Nat),(((x:Int)+1=(a:Int)/\True)/\True)/\(a<=(wm d.1).length/\∀(j:Nat),j<a->ql (ww d.1) (gg (nth (wm d.1) j))=true)/\(wm d.1).length-a<(wm d.1).length-x))/\(decide ((x:Int)<d.1.2.2.1.length)=false->((!qG d.1)=true->((50:Int),())=(aA d.1,()))/\((!qG d.1)=false->d.1.q4.2.1.length<=1000000/\(cu d.1.q4.2.1=true->((51:Int),())=(aA d.1,()))/\(cu d.1.q4.2.1=false->((0:Int),())=(aA d.1,())))))
def PI:w4:=⟨[.val tSh,.val tSh],[.bool],false,fun _=>[],fun d=>(vl d.1 d.2.1,())⟩
def PJ:Prop:=∀(d:ShD×ShD×Unit),(decide (d.2.1.2.1<d.1.2.1)||decide (d.1.2.1=d.2.1.2.1)&&decide (d.2.1.1<d.1.1),())=(vl d.1 d.2.1,())
def FV:w4:=⟨[.val tDy,.val .int,.val .int],[.bool],false,fun d=>[GB d.1,aM d.1 d.2.1,aM d.1 d.2.2.1],fun d=>(qf d.1 d.2.1 d.2.2.1,())⟩
abbrev jhh (d:DyD×Int×Int×Unit):=(nth d.1.2.2.1 d.2.2.1.toNat)
abbrev jhi (d:DyD×Int×Int×Unit):=(nth d.1.2.2.1 d.2.1.toNat)
abbrev jjp (d:DyD×Int×Int×Unit):=((jhh d).2.2.1<(jhi d).2.2.1)
abbrev jid (d:DyD×Int×Int×Unit):=(d.1.2.2.1.length:Int)
abbrev jlx (d:DyD×Int×Int×Unit):=(decide (jjp d)||decide ((jhh d).2.2.1=(jhi d).2.2.1)&&decide (d.2.2.1<d.2.1))
def FW:Prop:=∀(d:DyD×Int×Int×Unit),GB d.1->aM d.1 d.2.1->aM d.1 d.2.2.1->0<=d.2.2.1/\d.2.2.1<(jid d)/\0<=d.2.1/\d.2.1<(jid d)/\((!decide (jjp d))=true->0<=d.2.2.1)/\((!decide (jjp d))=true->d.2.2.1<(jid d))/\((!decide (jjp d))=true->0<=d.2.1)/\((!decide (jjp d))=true->d.2.1<(jid d))/\((jlx d)=true->0<=d.2.2.1/\d.2.2.1<(jid d)/\0<=d.2.1/\d.2.1<(jid d)/\wl ((jhh d).2.2.2.1+d.1.2.2.2.1)/\(0:Int)<=(jhh d).2.1/\(jhh d).2.1<(d.1.2.1.length:Int)/\(0:Int)<=(jhi d).2.1/\(jhi d).2.1<(↑(nth d.1.2.1 (jhh d).2.1.toNat).length:Int)/\wl ((jhh d).2.2.2.1+d.1.2.2.2.1+(nth (nth d.1.2.1 (jhh d).2.1.toNat) (jhi d).2.1.toNat).2.1)/\(decide ((jhh d).2.2.2.1+d.1.2.2.2.1+(nth (nth d.1.2.1 (jhh d).2.1.toNat) (jhi d).2.1.toNat).2.1<=(jhi d).2.2.1),())=(qf d.1 d.2.1 d.2.2.1,()))/\((jlx d)=false->0<=d.2.1/\d.2.1<(jid d)/\0<=d.2.2.1/\d.2.2.1<(jid d)/\wl ((jhi d).2.2.2.1+d.1.2.2.2.1)/\(0:Int)<=(jhi d).2.1/\(jhi d).2.1<(d.1.2.1.length:Int)/\(0:Int)<=(jhh d).2.1/\(jhh d).2.1<(↑(nth d.1.2.1 (jhi d).2.1.toNat).length:Int)/\wl ((jhi d).2.2.2.1+d.1.2.2.2.1+(nth (nth d.1.2.1 (jhi d).2.1.toNat) (jhh d).2.1.toNat).2.1)/\(decide ((jhi d).2.2.2.1+d.1.2.2.2.1+(nth (nth d.1.2.1 (jhi d).2.1.toNat) (jhh d).2.1.toNat).2.1<=(jhh d).2.2.1),())=(qf d.1 d.2.1 d.2.2.1,()))
def PK:w4:=⟨[.val tDy,.val .int,.val (.slice .int)],[.bool],false,fun d=>[GB d.1,ND d.1 d.2.1,E8 d.1 d.2.2.1],fun d=>(gI d.1 d.2.1 d.2.2.1,())⟩
def PL:Ann:=fun r=>match r with
 |3=>some fun σ=>{X:=Nat,sl:=fun i=>[(8,.dat .int (i:Int)),(7,.dat .int (yf (gb tDy σ 3) (gd (.slice .int) σ 2) i))],ob:=fun _=>[],inv:=fun i=>i<=(gd (.slice .int) σ 2).length/\(∀j:Nat,j<i->qP (ww (gb tDy σ 3)) (gg (U.bk (gb tDy σ 3) (nth (gd (.slice .int) σ 2) j))) (gd .int σ 1)=true)/\∀j:Nat,j<i->∀m:Nat,m<j->qf (gb tDy σ 3) (nth (gd (.slice .int) σ 2) j) (nth (gd (.slice .int) σ 2) m)=true,mu:=fun i=>(gd (.slice .int) σ 2).length-i}
 |10=>some fun σ=>{X:=Nat,sl:=fun i=>[(10,.dat .int (i:Int))],ob:=fun _=>[],inv:=fun i=>i<=(gd .int σ 8).toNat/\∀m:Nat,m<i->qf (gb tDy σ 3) (nth (gd (.slice .int) σ 2) (gd .int σ 8).toNat) (nth (gd (.slice .int) σ 2) m)=true,mu:=fun i=>(gd .int σ 8).toNat-i}
 |_=>none
abbrev jit (d:DyD×Int×List Int×Unit)(x:Nat):=(nth d.2.2.1 (x:Int).toNat)
abbrev jhS (d:DyD×Int×List Int×Unit)(x:Nat):=(nth d.1.2.2.1 (jit d x).toNat)
abbrev jly (x:Nat)(d:DyD×Int×List Int×Unit):=(∀(j:Nat),j<x->qP (ww d.1) (gg (U.bk d.1 (nth d.2.2.1 j))) d.2.1=true)
def PM:Prop:=∀(d:DyD×Int×List Int×Unit),GB d.1->ND d.1 d.2.1->E8 d.1 d.2.2.1->(∃(x:Nat),((0=(x:Int)/\0=yf d.1 d.2.2.1 x/\True)/\True)/\x<=d.2.2.1.length/\(jly x d)/\∀(j:Nat),j<x->∀(m:Nat),m<j->qf d.1 (nth d.2.2.1 j) (nth d.2.2.1 m)=true)/\∀(x:Nat),(x<=d.2.2.1.length/\(jly x d)/\∀(j:Nat),j<x->∀(m:Nat),m<j->qf d.1 (nth d.2.2.1 j) (nth d.2.2.1 m)=true)->d.2.2.1.length<4611686018427387904->(decide ((x:Int)<d.2.2.1.length)=true->0<=(x:Int)/\(x:Int)<d.2.2.1.length/\0<=nth d.2.2.1 (x:Int).toNat/\nth d.2.2.1 (x:Int).toNat<(d.1.2.2.1.length:Int)/\(0<=d.2.1/\d.2.1<(↑(wj d.1.1).length:Int))/\ql d.1.1 (jhS d x).1=true/\((!qP d.1.1 (jhS d x).1 d.2.1)=true->(false,())=(gI d.1 d.2.1 d.2.2.1,()))/\((!qP d.1.1 (jhS d x).1 d.2.1)=false->wl ((jhS d x).2.2.2.1-(jhS d x).2.2.1)/\wl (yf d.1 d.2.2.1 x+((jhS d x).2.2.2.1-(jhS d x).2.2.1))/\(∃(a:Nat),((0=(a:Int)/\True)/\True)/\a<=(x:Int).toNat/\∀(m:Nat),m<a->qf d.1 (jit d x) (nth d.2.2.1 m)=true)/\∀(a:Nat),(a<=(x:Int).toNat/\∀(m:Nat),m<a->qf d.1 (jit d x) (nth d.2.2.1 m)=true)->(decide ((a:Int)<(x:Int))=true->0<=(x:Int)/\(x:Int)<d.2.2.1.length/\0<=(a:Int)/\(a:Int)<d.2.2.1.length/\GB d.1/\aM d.1 (jit d x)/\aM d.1 (nth d.2.2.1 (a:Int).toNat)/\((!qf d.1 (jit d x) (nth d.2.2.1 (a:Int).toNat))=true->(false,())=(gI d.1 d.2.1 d.2.2.1,()))/\((!qf d.1 (jit d x) (nth d.2.2.1 (a:Int).toNat))=false->wl ((a:Int)+1)/\∃(b:Nat),(((a:Int)+1=(b:Int)/\True)/\True)/\(b<=(x:Int).toNat/\∀(m:Nat),m<b->qf d.1 (jit d x) (nth d.2.2.1 m)=true)/\(x:Int).toNat-b<(x:Int).toNat-a))/\(decide ((a:Int)<(x:Int))=false->wl ((x:Int)+1)/\∃(b:Nat),(((x:Int)+1=(b:Int)/\yf d.1 d.2.2.1 x+((jhS d x).2.2.2.1-(jhS d x).2.2.1)=yf d.1 d.2.2.1 b/\True)/\True)/\(b<=d.2.2.1.length/\(∀(j:Nat),j<b->qP (ww d.1) (gg (U.bk d.1 (nth d.2.2.1 j))) d.2.1=true)/\∀(j:Nat),j<b->∀(m:Nat),m<j->qf d.1 (nth d.2.2.1 j) (nth d.2.2.1 m)=true)/\d.2.2.1.length-b<d.2.2.1.length-x)))/\(decide ((x:Int)<d.2.2.1.length)=false->(decide (yf d.1 d.2.2.1 x<=d.1.q4.1),())=(gI d.1 d.2.1 d.2.2.1,()))
def FX:w4:=⟨[.val (.slice tSh)],[.slice tSh],false,fun d=>[d.1.length<=1000],fun d=>(wg d.1,())⟩
def FY:Ann:=fun r=>match r with
 |3=>some fun σ=>{X:=Nat,sl:=fun i=>[(4,.dat .int (i:Int)),(3,.own 3 tSh)],ob:=fun i=>[(3,some (.row 134 tSh false .yes (ye (gd (.slice tSh) σ 0) i)))],inv:=fun i=>i<=100,mu:=fun i=>100-i}
 |6=>some fun σ=>{X:=Nat,sl:=fun i=>[(5,.dat .int (i:Int)),(3,.own 3 tSh)],ob:=fun i=>[(3,some (.row 134 tSh false .yes (gr tSh σ 3++dl (gd (.slice tSh) σ 0) i (gd .int σ 4).toNat)))],inv:=fun i=>i<=(gd (.slice tSh) σ 0).length,mu:=fun i=>(gd (.slice tSh) σ 0).length-i}
 |10=>some fun σ=>{X:=Nat,sl:=fun k=>[(7,.dat .int (k:Int)),(6,.dat .bool (gy (gd (.slice tSh) σ 0) (gd .int σ 5).toNat k (gd .int σ 4)))],ob:=fun _=>[],inv:=fun k=>k<=(gd .int σ 5).toNat,mu:=fun k=>(gd .int σ 5).toNat-k}
 |_=>none
def FZ:Prop:=∀(d:List ShD×Unit),d.1.length<=1000->(∃(x:Nat),((0=(x:Int)/\True/\True)/\ye d.1 x=[]/\True)/\x<=100)/\∀(x:Nat),x<=100->(decide ((x:Int)<=99)=true->(∃(a:Nat),((0=(a:Int)/\True/\True)/\ye d.1 x=ye d.1 x++dl d.1 a (x:Int).toNat/\True)/\a<=d.1.length)/\∀(a:Nat),a<=d.1.length->d.1.length<4611686018427387904->(decide ((a:Int)<d.1.length)=true->0<=(a:Int)/\(a:Int)<d.1.length/\(∃(b:Nat),((0=(b:Int)/\decide ((nth d.1 (a:Int).toNat).1=(x:Int))=gy d.1 (a:Int).toNat b (x:Int)/\True)/\True)/\b<=(a:Int).toNat)/\∀(b:Nat),b<=(a:Int).toNat->(decide ((b:Int)<(a:Int))=true->(gy d.1 (a:Int).toNat b (x:Int)=true->0<=(b:Int))/\(gy d.1 (a:Int).toNat b (x:Int)=true->(b:Int)<d.1.length)/\(gy d.1 (a:Int).toNat b (x:Int)=true->0<=(a:Int))/\(gy d.1 (a:Int).toNat b (x:Int)=true->(a:Int)<d.1.length)/\wl ((b:Int)+1)/\∃(c:Nat),(((b:Int)+1=(c:Int)/\(gy d.1 (a:Int).toNat b (x:Int)&& !decide (nth d.1 (b:Int).toNat=nth d.1 (a:Int).toNat))=gy d.1 (a:Int).toNat c (x:Int)/\True)/\True)/\c<=(a:Int).toNat/\(a:Int).toNat-c<(a:Int).toNat-b)/\(decide ((b:Int)<(a:Int))=false->(gy d.1 (a:Int).toNat b (x:Int)=true->0<=(a:Int)/\(a:Int)<d.1.length/\((ye d.1 x++dl d.1 a (x:Int).toNat).length+[nth d.1 (a:Int).toNat].length)*40<=140737488355328/\wl ((a:Int)+1)/\∃(c:Nat),(((a:Int)+1=(c:Int)/\True/\True)/\ye d.1 x++dl d.1 a (x:Int).toNat++[nth d.1 (a:Int).toNat]=ye d.1 x++dl d.1 c (x:Int).toNat/\True)/\c<=d.1.length/\d.1.length-c<d.1.length-a)/\(gy d.1 (a:Int).toNat b (x:Int)=false->wl ((a:Int)+1)/\∃(c:Nat),((True/\(a:Int)+1=(c:Int)/\True)/\ye d.1 x++dl d.1 a (x:Int).toNat=ye d.1 x++dl d.1 c (x:Int).toNat/\True)/\c<=d.1.length/\d.1.length-c<d.1.length-a)))/\(decide ((a:Int)<d.1.length)=false->wl ((x:Int)+1)/\∃(c:Nat),(((x:Int)+1=(c:Int)/\True/\True)/\ye d.1 x++dl d.1 a (x:Int).toNat=ye d.1 c/\True)/\c<=100/\100-c<100-x))/\(decide ((x:Int)<=99)=false->(ye d.1 x,())=(wg d.1,()))
theorem PN:Mj:=by
 rintro⟨n,a,b,⟨⟩⟩;rfl
theorem nE:w9 PR 136 Mi:=wT PN Tryz.func136 kcN koN
theorem F0:Ef:=by
 rintro⟨d,n,⟨⟩⟩ a;have a:(wm d).length<4611686018427387904:=a;exact⟨by show wl (((wm d).length:Int)-1);exact iZ6,rfl⟩
theorem Eg:w9 PR 137 Ee:=wT F0 Tryz.func137 (kcC nE kcN) koN
theorem Jd:FU:=by
 rintro⟨d,n,⟨⟩⟩ a;have a:(wj (ww d)).length<4611686018427387904:=a;exact⟨by show wl (((wj (ww d)).length:Int)-1);exact iZ6,rfl⟩
theorem F3:w9 PR 138 FT:=wT Jd Tryz.func138 (kcC nE kcN) koN
theorem Ua:PJ:=by
 rintro⟨a,b,⟨⟩⟩;show(decide (Fi b<Fi a)||decide (Fi a=Fi b)&&decide (gM b<gM a),())=(vl a b,());refine jD (fun z=>(z,())) ?_;unfold vl;rw[j7];simp only[zt,ji,jp]
theorem PO:w9 PR 147 PI:=wT Ua Tryz.func147 kcN koN
theorem Mk (l:List ShD) (n:Nat):aV l (n+1)=(aV l n||Cg l n):=by
 unfold aV;rw[j8,kW];simp
theorem Je {l:List ShD} {i:Nat} (h:∀j:Nat,j<i->E6 (nth l i) (nth l j)=false) (hi:i<=l.length):Cg l i=false:=by
 unfold Cg;rw[zj];intro s a;rw[ze] at a;obtain⟨j,b,rfl⟩:=a;have:=h j (by omega);rw[L.qy (l:=l) (i:=j) (by omega)] at this;simpa using this
theorem Ub {l:List ShD} {i j:Nat} (hi:i<l.length) (a:j<i) (h:E6 (nth l i) (nth l j)=true):cu l=true:=by
 unfold cu aV Cg;rw[zc];refine⟨i,jE.2 hi,?_⟩;rw[zc];refine⟨nth l j,?_,h⟩;rw[ze];exact⟨j,by omega,(L.qy (by omega)).symm⟩
theorem Uc:PE:=by
 unfold PE jiR;rintro⟨l,⟨⟩⟩ k;have k:l.length<=1000000:=k;refine⟨⟨0,⟨⟨rfl,tZ⟩,tZ⟩,jl _,rfl⟩,fun x m _=>⟨fun h=> ?_,fun h=> ?_⟩⟩;have h:(x:Int)<l.length:=ja h;obtain⟨_,a⟩:x<=l.length/\aV l x=false:=m;refine⟨⟨0,⟨⟨rfl,tZ⟩,tZ⟩,jl _,fun j o=>by omega⟩,fun y n=>⟨fun c=> ?_,fun c=> ?_⟩⟩;have c:(y:Int)<(x:Int):=ja c;obtain⟨_,b⟩:y<=x/\∀j:Nat,j<y->E6 (nth l x) (nth l j)=false:=n;have f:(y:Int)<l.length:=(by omega);refine⟨by omega,h,by omega,f,fun _=>by omega,fun _=>h,fun _=>by omega,fun _=>f,fun d=> ?_,fun d=>⟨iZ6,y+1,⟨⟨by simp,tZ⟩,tZ⟩,⟨by show y+1<=x;omega,fun j o=> ?_⟩,by show x-(y+1)<x-y;omega⟩⟩;have d:E6 (nth l x) (nth l y)=true:=d;have:=Ub (by omega) (by omega) d;show(true,())=(cu l,());rw[this];by_cases e:j=y;subst e;exact d;exact b j (by omega);have c:¬(y:Int)<(x:Int):=jc c;obtain⟨q,b⟩:y<=x/\∀j:Nat,j<y->E6 (nth l x) (nth l j)=false:=n;have i:y=x:=(by omega);subst i;refine⟨iZ6,y+1,⟨⟨by simp,tZ⟩,tZ⟩,⟨by show y+1<=l.length;omega,?_⟩,by show l.length-(y+1)<l.length-y;omega⟩;show aV l (y+1)=false;rw[Mk,a,Je b (by omega)];rfl;have h:¬(x:Int)<l.length:=jc h;obtain⟨p,a⟩:x<=l.length/\aV l x=false:=m;have g:x=l.length:=(by omega);subst g;show(false,())=(cu l,());unfold cu;rw[a]
theorem PP:w9 PR 94 PB:=vb PC Uc Tryz.func94 kcN koN
theorem Ud:PH:=by
 unfold PH Prod.q4;rintro⟨d,⟨⟩⟩ k;have k:(wm d).length<=1000000:=k;refine⟨fun h=> ?_,fun h=> ?_⟩;have h:wy (ww d)=false:=(by simpa using(show(!wy (ww d))=true from h));show((30:Int),())=(aA d,());unfold aA;rw[h];rfl;have g:wy (ww d)=true:=(by simpa using(show(!wy (ww d))=false from h));refine⟨⟨0,⟨⟨rfl,tZ⟩,tZ⟩,jl _,fun j f=>by omega⟩,fun x m _=>⟨fun h=> ?_,fun h=> ?_⟩⟩;have h:(x:Int)<(wm d).length:=ja h;refine⟨by omega,h,g,fun a=> ?_,fun a=>⟨iZ6,x+1,⟨⟨by simp,tZ⟩,tZ⟩,⟨by show x+1<=(wm d).length;omega,fun j f=> ?_⟩,by show(wm d).length-(x+1)<(wm d).length-x;omega⟩⟩;have a:ql (ww d) (gg (nth (wm d) x))=false:=(by simpa using(show(!ql (ww d) (gg (nth (wm d) x)))=true from a));have f:J6 d=false:=by
  unfold J6;exact zW.2 ⟨_,L.wh (l:=wm d) (i:=x) (by omega),by rw[a];simp⟩
 show((31:Int),())=(aA d,());unfold aA;rw[g,f];rfl;have a:ql (ww d) (gg (nth (wm d) x))=true:=(by simpa using(show(!ql (ww d) (gg (nth (wm d) x)))=false from a));by_cases e:j=x;subst e;exact a;exact m.2 j (by omega);have h:¬(x:Int)<(wm d).length:=jc h;have f:J6 d=true:=lu (p:=fun b=>ql (ww d) (gg b)) (by omega) m.2;refine⟨fun a=> ?_,fun a=> ?_⟩;have a:qG d=false:=(by simpa using(show(!qG d)=true from a));show((50:Int),())=(aA d,());unfold aA;rw[g,f,a];rfl;have a:qG d=true:=(by simpa using(show(!qG d)=false from a));have n:(qi d).length<=30:=(yr a).2.2.2.2.1;refine⟨by show(qi d).length<=1000000;omega,fun c=> ?_,fun c=> ?_⟩;have c:cu (qi d)=true:=c;show((51:Int),())=(aA d,());unfold aA;rw[g,f,a,c];rfl;have c:cu (qi d)=false:=c;show((0:Int),())=(aA d,());unfold aA;rw[g,f,a,c];rfl
theorem XJ (t:List Int) (p:Int) (n:Nat):o7 t p (n+1)=o7 t p n++(if w7 (nth t n) p=true then[(n:Int)] else[]):=by
 unfold o7;rw[L.yt,zn];by_cases h:w7 (nth t n) p=true;rw[je h,je h];rfl;rw[jd h,jd h];rfl
theorem R0 (t:List Int) (p:Int) (n:Nat):(o7 t p n).length<=n:=by
 unfold o7;rw[zf];exact jF (zA _ _) (by simp)
theorem XK (l:List ShD) (n m:Nat):dl l (n+1) m=dl l n m++(if(decide (gM (nth l n)=(m:Int))&&nR l n)=true then[nth l n] else[]):=by
 unfold dl;rw[L.yt,zn];by_cases h:(decide (gM (nth l n)=(m:Int))&&nR l n)=true;rw[je h,je h];rfl;rw[jd h,jd h];rfl
theorem R1 (l:List ShD) (n m:Nat):(dl l n m).length<=n:=by
 unfold dl;rw[zf];exact jF (zA _ _) (by simp)
theorem Eh (l:List ShD) (n:Nat):ye l (n+1)=ye l n++dl l l.length n:=by
 unfold ye;rw[j8,List.flatMap_append];simp
theorem ot (l:List ShD):∀n,(ye l n).length<=l.length*n
 |0=>jl _
 |n+1=>by
  have a:=ot l n
  have:=R1 l l.length n
  rw[Eh,jH,Nat.mul_succ]
  omega
theorem Ml {l:List ShD} {i k:Nat} {id:Int} (h:k<l.length):gy l i (k+1) id=(gy l i k id&& !decide (nth l k=nth l i)):=by
 unfold gy;rw[L.wQ h,kW];simp only[List.any_cons,List.any_nil,kS,Bool.not_or,Bool.and_assoc]
theorem Jf:FZ:=by
 rintro⟨l,⟨⟩⟩ f;have f:l.length<=1000:=f;refine⟨⟨0,⟨⟨rfl,tZ,tZ⟩,rfl,tZ⟩,jl _⟩,fun x t=>⟨fun h=>⟨⟨0,⟨⟨rfl,tZ,tZ⟩,?_,tZ⟩,jl _⟩,fun y e _=>⟨fun a=> ?_,fun a=> ?_⟩⟩,fun h=> ?_⟩⟩;exact(j6 _).symm;have h:(x:Int)<=99:=ja h;have a:(y:Int)<l.length:=ja a;have e:y<=l.length:=e;refine⟨by omega,a,⟨0,⟨⟨rfl,?_,tZ⟩,tZ⟩,jl _⟩,fun z p=>⟨fun c=> ?_,fun c=> ?_⟩⟩;show decide (gM (nth l y)=(x:Int))=gy l y 0 (x:Int);unfold gy;simp;have c:(z:Int)<(y:Int):=ja c;have m:(z:Int)<l.length:=(by omega);have d:=Ml (l:=l) (i:=y) (k:=z) (id:=(x:Int)) (by omega);exact⟨fun _=>by omega,fun _=>m,fun _=>by omega,fun _=>a,iZ6,z+1,⟨⟨by simp,d.symm,tZ⟩,tZ⟩,by show z+1<=y;omega,by show y-(z+1)<y-z;omega⟩;have c:¬(z:Int)<(y:Int):=jc c;have p:z<=y:=p;have n:z=y:=(by omega);subst n;have d:=XK l z x;have r:=R1 l z x;have s:=ot l x;have q:l.length*x<=1000*99:=Nat.mul_le_mul f (by omega);have up:z+1<=l.length:=(by omega);have o:l.length-(z+1)<l.length-z:=(by omega);refine⟨fun b=>⟨by omega,a,?_,iZ6,z+1,⟨⟨by simp,tZ,tZ⟩,?_,tZ⟩,up,o⟩,fun b=>⟨iZ6,z+1,⟨⟨tZ,by simp,tZ⟩,?_,tZ⟩,up,o⟩⟩;show((ye l x++dl l z x).length+1)*40<=140737488355328;rw[jH];omega;have b:(decide (gM (nth l z)=(x:Int))&&nR l z)=true:=b;show ye l x++dl l z x++[nth l z]=ye l x++dl l (z+1) x;rw[d,je b,jN];have b:(decide (gM (nth l z)=(x:Int))&&nR l z)=false:=b;show ye l x++dl l z x=ye l x++dl l (z+1) x;rw[d,jd (by rw[b];simp),j6];have h:(x:Int)<=99:=ja h;have a:¬(y:Int)<l.length:=jc a;have e:y<=l.length:=e;have j:y=l.length:=(by omega);subst j;exact⟨iZ6,x+1,⟨⟨by simp,tZ,tZ⟩,(Eh l x).symm,tZ⟩,by omega,by omega⟩;have h:¬(x:Int)<=99:=jc h;have g:x=100:=(by omega);subst g;rfl
theorem F4:w9 PR 146 FX:=vb FY Jf Tryz.func146 kcN koN
theorem Ei {d:DyD} {p:Int} {l:List Int}:gI d p l=true↔(∀j:Nat,j<l.length->qP (ww d) (gg (U.bk d (nth l j))) p=true)/\(∀j:Nat,j<l.length->∀m:Nat,m<j->qf d (nth l j) (nth l m)=true)/\J7 d l<=jbq d:=by
 unfold gI jcc;rw[ji,ji,jV,jV,jp];refine and_congr ?_ (and_congr ?_ Iff.rfl);constructor;intro h j a;exact h _ (L.wh a);intro h b c;obtain⟨i,hi,rfl⟩:=L.mem_iff.1 c;exact h i hi;constructor;intro h j a m e;have:=h j (jE.2 a);rw[jV] at this;exact this _ (by rw[ze];exact⟨m,by omega,(L.qy (by omega)).symm⟩);intro h j a;have a:=jE.1 a;rw[jV];intro b c;rw[ze] at c;obtain⟨m,e,rfl⟩:=c;have:=h j a m (by omega);rw[L.qy (l:=l) (i:=m) (by omega)] at this;exact this
theorem Ej {d:DyD} {p:Int} {l:List Int} (h:¬gI d p l=true):(false,())=(gI d p l,()):=by
 cases a:gI d p l with
 |false=>rfl
 |true=>exact absurd a h
theorem Ue:PM:=by
 unfold PM jly jhS jit Prod.q4;rintro⟨d,p,l,⟨⟩⟩ f t C;have f:GB d:=f;have t:ND d p:=t;obtain⟨J,A⟩:E8 d l:=C;refine⟨⟨0,⟨⟨rfl,rfl,tZ⟩,tZ⟩,jl _,fun j s=>by omega,fun j s=>by omega⟩,fun x q _=>⟨fun h=> ?_,fun h=> ?_⟩⟩;have h:(x:Int)<l.length:=ja h;have a:x<l.length:=(by omega);have n:=A _ (L.wh a);have B:=cA f.2.2 n;have D:=Pd f.2.2 A x (by omega);have E:=rW (d:=d) a;have o:ql (ww d) (gg (U.bk d (nth l x)))=true:=by
  have:=f.2.1;unfold J6 at this;exact jV.1 this _ (jeX n)
 have H:wl (gH (U.bk d (nth l x))-qh (U.bk d (nth l x))):=iZ6;have I:wl (yf d l x+(gH (U.bk d (nth l x))-qh (U.bk d (nth l x)))):=iZ6;refine⟨by omega,h,n.1,n.2,t,o,fun b=> ?_,fun b=>⟨H,I,⟨0,⟨⟨rfl,tZ⟩,tZ⟩,jl _,fun m g=>by omega⟩,fun y u=>⟨fun k=> ?_,fun k=> ?_⟩⟩⟩;have b:qP (ww d) (gg (U.bk d (nth l x))) p=false:=(by simpa using(show(!qP (ww d) (gg (U.bk d (nth l x))) p)=true from b));exact Ej (d:=d) (p:=p) (l:=l) (fun r=>by
  have:=(Ei.1 r).1 x a;rw[b] at this;cases this)
 have k:(y:Int)<(x:Int):=ja k;have v:(y:Int)<l.length:=(by omega);refine⟨by omega,h,by omega,v,f,n,A _ (L.wh (l:=l) (i:=y) (by omega)),fun c=> ?_,fun c=>⟨iZ6,y+1,⟨⟨by simp,tZ⟩,tZ⟩,⟨by show y+1<=x;omega,fun m g=> ?_⟩,by show x-(y+1)<x-y;omega⟩⟩;have c:qf d (nth l x) (nth l y)=false:=(by simpa using(show(!qf d (nth l x) (nth l y))=true from c));exact Ej (d:=d) (p:=p) (l:=l) (fun r=>by
  have:=(Ei.1 r).2.1 x a y (by omega);rw[c] at this;cases this)
 have c:qf d (nth l x) (nth l y)=true:=(by simpa using(show(!qf d (nth l x) (nth l y))=false from c));by_cases e:m=y;subst e;exact c;exact u.2 m (by omega);have k:¬(y:Int)<(x:Int):=jc k;have G:y<=x:=u.1;have w:y=x:=(by omega);subst w;have b:qP (ww d) (gg (U.bk d (nth l y))) p=true:=(by simpa using(show(!qP (ww d) (gg (U.bk d (nth l y))) p)=false from b));refine⟨iZ6,y+1,⟨⟨by simp,E.symm,tZ⟩,tZ⟩,⟨by show y+1<=l.length;omega,fun j s=> ?_,fun j s m g=> ?_⟩,by show l.length-(y+1)<l.length-y;omega⟩;by_cases e:j=y;subst e;exact b;exact q.2.1 j (by omega);by_cases e:j=y;subst e;exact u.2 m g;exact q.2.2 j (by omega) m g;have h:¬(x:Int)<l.length:=jc h;have F:x<=l.length:=q.1;have a:x=l.length:=(by omega);subst a;have g:yf d l l.length=J7 d l:=by
  unfold yf;rw[zw (jj _)]
 show(decide (yf d l l.length<=jbq d),())=(gI d p l,());rw[g];refine jD (fun z=>(z,())) ?_;rw[j7,jp,Ei];exact⟨fun h=>⟨q.2.1,q.2.2,h⟩,fun h=>h.2.2⟩
theorem je1 {d:DyD} {a b:Int} (h:aJ d b a=true):qf d a b=decide (gH (U.bk d b)+BN d+QS d b a<=qh (U.bk d a)):=by
 unfold qf;rw[je h];refine decide_eq_decide.2 ?_;unfold ca;omega
theorem jdo {d:DyD} {a b:Int} (h:aJ d b a=false):qf d a b=decide (gH (U.bk d a)+BN d+QS d a b<=qh (U.bk d b)):=by
 unfold qf;rw[h,jd (by simp)];refine decide_eq_decide.2 ?_;unfold ca;omega
theorem R2 (d:DyD) (a b:Int):aJ d b a=(decide (qh (U.bk d b)<qh (U.bk d a))||decide (qh (U.bk d b)=qh (U.bk d a))&&decide (b<a)):=by
 unfold aJ;rw[j7];simp only[zt,ji,jp]
theorem Jg:FW:=by
 unfold FW jlx jid jjp jhi jhh;rintro⟨d,a,b,⟨⟩⟩ c e f;have c:GB d:=c;have e:aM d a:=e;have f:aM d b:=f;have m:=cA c.2.2 e;have n:=cA c.2.2 f;have p:=D7 c.2.2 e f;have q:=D7 c.2.2 f e;have o:=(yr c.2.2).2.2.1;have r:=(uc c.2.2 (i:=(Vi (U.bk d a)).toNat) (by omega)).1;have s:=(uc c.2.2 (i:=(Vi (U.bk d b)).toNat) (by omega)).1;have g:=e.1;have j:=e.2;have k:=f.1;have l:=f.2;refine⟨k,l,g,j,fun _=>k,fun _=>l,fun _=>g,fun _=>j,fun h=>⟨k,l,g,j,?_,n.1.1,n.1.2,m.1.1,?_,?_,?_⟩,fun h=>⟨g,j,k,l,?_,m.1.1,m.1.2,n.1.1,?_,?_,?_⟩⟩;show wl (gH (U.bk d b)+BN d);exact iZ6;show Vi (U.bk d a)<((nth (qg d) (Vi (U.bk d b)).toNat).length:Int);omega;show wl (gH (U.bk d b)+BN d+QS d b a);exact iZ6;have h:aJ d b a=true:=(by rw[R2];exact h);exact jD (fun z=>(z,())) (je1 h).symm;show wl (gH (U.bk d a)+BN d);exact iZ6;show Vi (U.bk d b)<((nth (qg d) (Vi (U.bk d a)).toNat).length:Int);omega;show wl (gH (U.bk d a)+BN d+QS d a b);exact iZ6;have h:aJ d b a=false:=(by rw[R2];exact h);exact jD (fun z=>(z,())) (jdo h).symm
theorem F5:w9 PR 149 FV:=wT Jg Tryz.func149 kcN koN
theorem PQ:w9 PR 110 PK:=vb PL Ue Tryz.func110 (kcC I9 (kcC F5 kcN)) koN
def je2 (d:DyD):Bool:=decide (4<((wm d).length:Int))|| !wa ((qg d).length:Int) 1 5|| !wa (BN d) 0 300|| !wa (jbq d) 0 1440||decide (30<((qi d).length:Int))
def spH (s:SpD):Bool:=decide (U.lo s<0)||decide (U.hi s<U.lo s)||decide (300<U.hi s)
def bkH (n:Nat) (b:BkD):Bool:= !wa (Vi b) 0 ((n:Int)-1)||decide (qh b<0)||decide (gH b<=qh b)||decide (1440<gH b)
def shH (d:DyD) (s:ShD):Bool:= !wa (gM s) 0 99|| !wa (Fi s) 0 9999|| !wa (Zb s) 1 2|| !Ze d (mo s)|| !Ni d (aL s)
theorem XL (d:DyD):qG d=(!je2 d&&((qg d).all (di (qg d).length)&&((wm d).all (nP (qg d).length)&&(qi d).all (nQ (wm d).length (wj (ww d)).length)))):=by
 unfold qG je2;congr 1;rw[j7];simp only[wa,jX,jT,jI,zq,ji,jp];omega
theorem jbW (s:SpD):uC s= !spH s:=by
 unfold uC spH;rw[j7];simp only[jX,jT,jI,jp];omega
theorem jbX (n:Nat) (b:BkD):nP n b= !bkH n b:=by
 unfold nP bkH;rw[j7];simp only[wa,jX,jT,jI,zq,ji,jp];omega
theorem jbY (d:DyD) (s:ShD):nQ (wm d).length (wj (ww d)).length s= !shH d s:=by
 unfold nQ shH Ze Ni;rw[j7];simp only[wa,jX,jT,zq,ji,jp];omega
theorem Mm {d:DyD} (h:je2 d=true\/(qg d).all (di (qg d).length)=false\/(wm d).all (nP (qg d).length)=false\/(qi d).all (nQ (wm d).length (wj (ww d)).length)=false):(false,())=(qG d,()):=by
 have:qG d=false:=by
  rw[XL];rcases h with h|h|h|h<;>rw[h]<;>simp
 rw[this]
theorem Mn {α:Type} [Inhabited α] {l:List α} {p:α->Bool} {x:Nat} (a:x<l.length) (h:p (nth l x)=false):l.all p=false:=zW.2 ⟨_,L.wh a,by rw[h];simp⟩
theorem Uf:PA:=by
 unfold PA jkL jlw jj2 jjo jlv jjn jkK jiQ jlu jjm jhB jic jlt jiP Prod.q4;rintro⟨d,⟨⟩⟩ _ _ _;refine⟨fun h=>Mm (d:=d) (.inl h),fun k=> ?_⟩;have k:je2 d=false:=k;have l:=k;unfold je2 at l;simp only[wa,jT,jI,zq,ji,jp] at l;refine⟨⟨0,⟨⟨rfl,tZ⟩,tZ⟩,jl _,fun j g=>by omega⟩,fun x c _=>⟨fun h=> ?_,fun h=> ?_⟩⟩;have h:(x:Int)<(qg d).length:=ja h;have b:x<(qg d).length:=(by omega);refine⟨by omega,h,fun a=> ?_,fun a=>⟨⟨0,⟨⟨rfl,tZ⟩,tZ⟩,jl _,fun j g=>by omega⟩,fun y n=>⟨by omega,h,fun m=>⟨fun i=> ?_,fun i=> ?_⟩⟩⟩⟩;have a:¬((nth (qg d) x).length:Int)=(qg d).length:=ja a;refine Mm (d:=d) (.inr (.inl (Mn b ?_)));unfold di;rw[zp (by omega)];rfl;have m:(nth (qg d) x).length<4611686018427387904:=m;have i:(y:Int)<(nth (qg d) x).length:=ja i;refine⟨by omega,h,by omega,i,fun f=> ?_,fun f=>⟨iZ6,y+1,⟨⟨by simp,tZ⟩,tZ⟩,⟨by show y+1<=(nth (qg d) x).length;omega,fun j g=> ?_⟩,by show(nth (qg d) x).length-(y+1)<(nth (qg d) x).length-y;omega⟩⟩;have f:spH (nth (nth (qg d) x) y)=true:=f;refine Mm (d:=d) (.inr (.inl (Mn b ?_)));have:(nth (qg d) x).all uC=false:=Mn (x:=y) (by omega) (by rw[jbW,f];rfl);unfold di;rw[this,ky];have f:spH (nth (nth (qg d) x) y)=false:=f;by_cases e:j=y;subst e;show uC (nth (nth (qg d) x) j)=true;rw[jbW,f];rfl;exact n.2 j (by omega);have i:¬(y:Int)<(nth (qg d) x).length:=jc i;have a:((nth (qg d) x).length:Int)=(qg d).length:=jM.1 (jc a);have o:(nth (qg d) x).all uC=true:=lu (by omega) n.2;refine⟨iZ6,x+1,⟨⟨by simp,tZ⟩,tZ⟩,⟨by show x+1<=(qg d).length;omega,fun j g=> ?_⟩,by show(qg d).length-(x+1)<(qg d).length-x;omega⟩;by_cases e:j=x;subst e;show di (qg d).length (nth (qg d) j)=true;unfold di;rw[o,jG (by omega)];rfl;exact c.2 j (by omega);have h:¬(x:Int)<(qg d).length:=jc h;have r:(qg d).all (di (qg d).length)=true:=lu (by omega) c.2;clear c h;refine⟨⟨0,⟨⟨rfl,tZ⟩,tZ⟩,jl _,fun j g=>by omega⟩,fun x c _=>⟨fun h=> ?_,fun h=> ?_⟩⟩;have h:(x:Int)<(wm d).length:=ja h;have b:x<(wm d).length:=(by omega);refine⟨by omega,h,fun _=>⟨by show wl (((qg d).length:Int)-1);exact iZ6,fun a=> ?_,fun a=>⟨iZ6,x+1,⟨⟨by simp,tZ⟩,tZ⟩,⟨by show x+1<=(wm d).length;omega,fun j g=> ?_⟩,by show(wm d).length-(x+1)<(wm d).length-x;omega⟩⟩⟩;have a:bkH (qg d).length (nth (wm d) x)=true:=a;exact Mm (d:=d) (.inr (.inr (.inl (Mn b (by rw[jbX,a];rfl)))));have a:bkH (qg d).length (nth (wm d) x)=false:=a;by_cases e:j=x;subst e;show nP (qg d).length (nth (wm d) j)=true;rw[jbX,a];rfl;exact c.2 j (by omega);have h:¬(x:Int)<(wm d).length:=jc h;have p:(wm d).all (nP (qg d).length)=true:=lu (by omega) c.2;clear c h;refine⟨⟨0,⟨⟨rfl,tZ⟩,tZ⟩,jl _,fun j g=>by omega⟩,fun x c _=>⟨fun h=> ?_,fun h=> ?_⟩⟩;have h:(x:Int)<(qi d).length:=ja h;have b:x<(qi d).length:=(by omega);refine⟨by omega,h,fun a=> ?_,fun a=>⟨iZ6,x+1,⟨⟨by simp,tZ⟩,tZ⟩,⟨by show x+1<=(qi d).length;omega,fun j g=> ?_⟩,by show(qi d).length-(x+1)<(qi d).length-x;omega⟩⟩;have a:shH d (nth (qi d) x)=true:=a;exact Mm (d:=d) (.inr (.inr (.inr (Mn b (by rw[jbY,a];rfl)))));have a:shH d (nth (qi d) x)=false:=a;by_cases e:j=x;subst e;show nQ (wm d).length (wj (ww d)).length (nth (qi d) j)=true;rw[jbY,a];rfl;exact c.2 j (by omega);have h:¬(x:Int)<(qi d).length:=jc h;have q:(qi d).all (nQ (wm d).length (wj (ww d)).length)=true:=lu (by omega) c.2;show(true,())=(qG d,());rw[XL,k,r,p,q];rfl
theorem PS:w9 PR 93 Py:=vb Pz Uf Tryz.func93 (kcC nE (kcC Eg (kcC F3 kcN))) koN
theorem rZ:w9 PR 57 PF:=vb PG Ud Tryz.func57 (kcC Az (kcC Pt (kcC PS (kcC PP kcN)))) koN
namespace U
def yu (l:List ShD) (i n:Nat):Bool:=decide (Zb (nth l i)=1)&& !((l.take n).any (fun t=>decide (mo t=mo (nth l i))&&decide (aL t=aL (nth l i))&&vl t (nth l i)))
def wz (l:List ShD) (n:Nat):List ShD:=((List.range n).filter (fun i=>yu l i l.length)).map (nth l)
def wY (l:List ShD) (n:Nat):Nat:=(List.range n).foldl (fun f i=>if vl (nth l f) (nth l i)=true then i else f) 0
def wi (l:List ShD):Nat->List ShD×List ShD
 |0=>([],l)
 |n+1=>((wi l n).1++[nth (wi l n).2 (wY (wi l n).2 (wi l n).2.length)],(wi l n).2.take (wY (wi l n).2 (wi l n).2.length)++(wi l n).2.drop (wY (wi l n).2 (wi l n).2.length+1))
def dr (d:DyD):List ShD:=wz (wg (qi d)) (wg (qi d)).length
def vo (d:DyD):List ShD:=(wi (dr d) (dr d).length).1
def wZ (d:DyD) (n:Nat):List Int×List Int:=((vo d).take n).foldl (cM d) (List.replicate (wm d).length 0,[])
def Ki (d:DyD):List Int×List Int:=wZ d (vo d).length
def sr (d:DyD):List Int:=if aA d=0 then(Ki d).1 else[]
end U
def Mo:w4:=⟨[.val tDy],[.slice tSh],false,fun d=>[(qi d.1).length<=1000],fun d=>(vo d.1,())⟩
def Mp:Ann:=fun r=>match r with
 |4=>some fun σ=>{X:=Nat,sl:=fun i=>[(5,.dat .int (i:Int)),(3,.own 3 tSh)],ob:=fun i=>[(3,some (.row 134 tSh false .yes (wz (gd (.slice tSh) σ 4) i)))],inv:=fun i=>i<=(gd (.slice tSh) σ 4).length,mu:=fun i=>(gd (.slice tSh) σ 4).length-i}
 |8=>some fun σ=>{X:=Nat,sl:=fun k=>[(7,.dat .int (k:Int)),(6,.dat .bool (yu (gd (.slice tSh) σ 4) (gd .int σ 5).toNat k))],ob:=fun _=>[],inv:=fun k=>k<=(gd (.slice tSh) σ 4).length,mu:=fun k=>(gd (.slice tSh) σ 4).length-k}
 |15=>some fun σ=>{X:=Nat,sl:=fun _=>[(3,.own 3 tSh),(8,.own 8 tSh)],ob:=fun n=>[(3,some (.row 134 tSh false .unk (wi (gr tSh σ 3) n).2)),(8,some (.row 134 tSh false .yes (wi (gr tSh σ 3) n).1))],inv:=fun n=>n<=(gr tSh σ 3).length,mu:=fun n=>(gr tSh σ 3).length-n}
 |18=>some fun σ=>{X:=Nat,sl:=fun i=>[(10,.dat .int (i:Int)),(9,.dat .int (wY (gr tSh σ 3) i:Int))],ob:=fun _=>[],inv:=fun i=>i<=(gr tSh σ 3).length,mu:=fun i=>(gr tSh σ 3).length-i}
 |_=>none
abbrev jgQ (d:DyD×Unit):=(wg d.1.q4.2.1)
abbrev jiS (d:DyD×Unit)(a:Nat)(x:Nat):=((nth (jgQ d) (a:Int).toNat).2.2.2.1=(nth (jgQ d) (x:Int).toNat).2.2.2.1)
abbrev jlz (d:DyD×Unit)(a:Nat)(x:Nat):=((nth (jgQ d) (a:Int).toNat).q4.1=(nth (jgQ d) (x:Int).toNat).q4.1)
abbrev jhs (d:DyD×Unit):=(↑(jgQ d).length:Int)
abbrev jlA (d:DyD×Unit)(a:Nat)(x:Nat):=(decide (jiS d a x)&&decide (jlz d a x)&&vl (nth (jgQ d) (a:Int).toNat) (nth (jgQ d) (x:Int).toNat))
abbrev jj3 (d:DyD×Unit)(a:Nat)(x:Nat):=(decide (jiS d a x)&&decide (jlz d a x))
abbrev jhT (d:DyD×Unit)(x:Nat):=(wz (jgQ d) x)
abbrev jgV (d:DyD×Unit)(x:Nat)(a:Nat):=(wi (jhT d x) a)
abbrev jg3 (d:DyD×Unit)(x:Nat)(a:Nat)(b:Nat):=(↑(wY (jgV d x a).2 b):Int)
abbrev jho (d:DyD×Unit)(x:Nat)(a:Nat):=(↑(jgV d x a).2.length:Int)
def Mq:Prop:=∀(d:DyD×Unit),(qi d.1).length<=1000->d.1.q4.2.1.length<=1000/\(∃(x:Nat),((0=(x:Int)/\True/\True)/\wz (jgQ d) x=[]/\True)/\x<=(jgQ d).length)/\∀(x:Nat),x<=(jgQ d).length->(jgQ d).length<4611686018427387904->(decide ((x:Int)<(jhs d))=true->0<=(x:Int)/\(x:Int)<(jhs d)/\(∃(a:Nat),((0=(a:Int)/\decide ((nth (jgQ d) (x:Int).toNat).2.2.1=1)=yu (jgQ d) (x:Int).toNat a/\True)/\True)/\a<=(jgQ d).length)/\∀(a:Nat),a<=(jgQ d).length->(jgQ d).length<4611686018427387904->(decide ((a:Int)<(jhs d))=true->0<=(a:Int)/\(a:Int)<(jhs d)/\0<=(x:Int)/\(x:Int)<(jhs d)/\(decide (jiS d a x)=true->0<=(a:Int))/\(decide (jiS d a x)=true->(a:Int)<(jhs d))/\(decide (jiS d a x)=true->0<=(x:Int))/\(decide (jiS d a x)=true->(x:Int)<(jhs d))/\((jj3 d a x)=true->0<=(a:Int))/\((jj3 d a x)=true->(a:Int)<(jhs d))/\((jj3 d a x)=true->0<=(x:Int))/\((jj3 d a x)=true->(x:Int)<(jhs d))/\((jlA d a x)=true->wl ((a:Int)+1)/\∃(c:Nat),(((a:Int)+1=(c:Int)/\false=yu (jgQ d) (x:Int).toNat c/\True)/\True)/\c<=(jgQ d).length/\(jgQ d).length-c<(jgQ d).length-a)/\((jlA d a x)=false->wl ((a:Int)+1)/\∃(c:Nat),((yu (jgQ d) (x:Int).toNat a=yu (jgQ d) (x:Int).toNat c/\(a:Int)+1=(c:Int)/\True)/\True)/\c<=(jgQ d).length/\(jgQ d).length-c<(jgQ d).length-a))/\(decide ((a:Int)<(jhs d))=false->(yu (jgQ d) (x:Int).toNat a=true->0<=(x:Int)/\(x:Int)<(jhs d)/\((jhT d x).length+[nth (jgQ d) (x:Int).toNat].length)*40<=140737488355328/\wl ((x:Int)+1)/\∃(c:Nat),(((x:Int)+1=(c:Int)/\True/\True)/\wz (jgQ d) x++[nth (jgQ d) (x:Int).toNat]=wz (jgQ d) c/\True)/\c<=(jgQ d).length/\(jgQ d).length-c<(jgQ d).length-x)/\(yu (jgQ d) (x:Int).toNat a=false->wl ((x:Int)+1)/\∃(c:Nat),((True/\(x:Int)+1=(c:Int)/\True)/\wz (jgQ d) x=wz (jgQ d) c/\True)/\c<=(jgQ d).length/\(jgQ d).length-c<(jgQ d).length-x)))/\(decide ((x:Int)<(jhs d))=false->(∃(a:Nat),((True/\True/\True)/\wz (jgQ d) x=(jgV d x a).2/\(jgV d x a).1=[]/\True)/\a<=(jhT d x).length)/\∀(a:Nat),a<=(jhT d x).length->(jgV d x a).2.length<4611686018427387904->(decide ((0:Int)<(jho d x a))=true->(∃(b:Nat),((0=(b:Int)/\(0:Int)=(jg3 d x a b)/\True)/\True)/\b<=(jgV d x a).2.length)/\∀(b:Nat),b<=(jgV d x a).2.length->(jgV d x a).2.length<4611686018427387904->(decide ((b:Int)<(jho d x a))=true->(0:Int)<=(jg3 d x a b)/\(jg3 d x a b)<(jho d x a)/\0<=(b:Int)/\(b:Int)<(jho d x a)/\(vl (nth (jgV d x a).2 (jg3 d x a b).toNat) (nth (jgV d x a).2 (b:Int).toNat)=true->wl ((b:Int)+1)/\∃(c:Nat),(((b:Int)+1=(c:Int)/\(b:Int)=(↑(wY (jgV d x a).2 c):Int)/\True)/\True)/\c<=(jgV d x a).2.length/\(jgV d x a).2.length-c<(jgV d x a).2.length-b)/\(vl (nth (jgV d x a).2 (jg3 d x a b).toNat) (nth (jgV d x a).2 (b:Int).toNat)=false->wl ((b:Int)+1)/\∃(c:Nat),(((jg3 d x a b)=(↑(wY (jgV d x a).2 c):Int)/\(b:Int)+1=(c:Int)/\True)/\True)/\c<=(jgV d x a).2.length/\(jgV d x a).2.length-c<(jgV d x a).2.length-b))/\(decide ((b:Int)<(jho d x a))=false->(0:Int)<=(jg3 d x a b)/\(jg3 d x a b)<(jho d x a)/\((jgV d x a).1.length+[nth (jgV d x a).2 (jg3 d x a b).toNat].length)*40<=140737488355328/\(0:Int)<=0/\(0:Int)<=(jg3 d x a b)/\(jg3 d x a b)<=(jho d x a)/\(0+(List.take ((jg3 d x a b).toNat-Int.toNat 0) (List.drop (Int.toNat 0) (jgV d x a).2)).length)*40<=140737488355328/\wl ((jg3 d x a b)+1)/\(0:Int)<=(jg3 d x a b)+1/\(jg3 d x a b)+1<=(jho d x a)/\(jho d x a)<=(jho d x a)/\(([]++List.take ((jg3 d x a b).toNat-Int.toNat 0) (List.drop (Int.toNat 0) (jgV d x a).2)).length+(List.take ((jho d x a).toNat-((jg3 d x a b)+1).toNat) (List.drop ((jg3 d x a b)+1).toNat (jgV d x a).2)).length)*40<=140737488355328/\∃(c:Nat),((True/\True/\True)/\[]++List.take ((jg3 d x a b).toNat-Int.toNat 0) (List.drop (Int.toNat 0) (jgV d x a).2)++List.take ((jho d x a).toNat-((jg3 d x a b)+1).toNat) (List.drop ((jg3 d x a b)+1).toNat (jgV d x a).2)=(wi (jhT d x) c).2/\(jgV d x a).1++[nth (jgV d x a).2 (jg3 d x a b).toNat]=(wi (jhT d x) c).1/\True)/\c<=(jhT d x).length/\(jhT d x).length-c<(jhT d x).length-a))/\(decide ((0:Int)<(jho d x a))=false->((jgV d x a).1,())=(vo d.1,())))
def PT:vq:=⟨[.own (.cl (.row 3 .int .no)) true,.val .int],[.cl (.row 3 .int .yes)],fun d=>[d.1.length<=1000,0<=d.2.1/\d.2.1<=63],fun d=>((U.on d.1 d.2.1,()),(d.1,()))⟩
def PU:Ann:=fun r=>match r with
 |3=>some fun σ=>{X:=Nat,sl:=fun i=>[(6,.dat .int (i:Int)),(5,.own 5 .int)],ob:=fun i=>[(5,some (.row 3 .int false .yes (o7 (gr .int σ 1000000) (gd .int σ 1) i)))],inv:=fun i=>i<=(gr .int σ 1000000).length,mu:=fun i=>(gr .int σ 1000000).length-i}
 |_=>none
def PV:Prop:=∀(d:List Int×Int×Unit),d.1.length<=1000->0<=d.2.1/\d.2.1<=63->(∃(x:Nat),((0=(x:Int)/\True/\True)/\o7 d.1 d.2.1 x=[]/\True)/\x<=d.1.length)/\∀(x:Nat),x<=d.1.length->d.1.length<4611686018427387904->(decide ((x:Int)<d.1.length)=true->0<=(x:Int)/\(x:Int)<d.1.length/\(0<=d.2.1/\d.2.1<=63)/\(w7 (nth d.1 (x:Int).toNat) d.2.1=true->((o7 d.1 d.2.1 x).length+[(x:Int)].length)*8<=140737488355328/\wl ((x:Int)+1)/\∃(a:Nat),(((x:Int)+1=(a:Int)/\True/\True)/\o7 d.1 d.2.1 x++[(x:Int)]=o7 d.1 d.2.1 a/\True)/\a<=d.1.length/\d.1.length-a<d.1.length-x)/\(w7 (nth d.1 (x:Int).toNat) d.2.1=false->wl ((x:Int)+1)/\∃(a:Nat),((True/\(x:Int)+1=(a:Int)/\True)/\o7 d.1 d.2.1 x=o7 d.1 d.2.1 a/\True)/\a<=d.1.length/\d.1.length-a<d.1.length-x))/\(decide ((x:Int)<d.1.length)=false->(o7 d.1 d.2.1 x,())=(U.on d.1 d.2.1,())/\(d.1,())=(d.1,()))
def PW:w4:=⟨[.val tDy],[.slice .int,.slice .int],false,fun d=>[aA d.1=0],fun d=>((Ki d.1).1,(Ki d.1).2,())⟩
def PX:Ann:=fun r=>match r with
 |4=>some fun σ=>{X:=Nat,sl:=fun i=>[(5,.dat .int (i:Int)),(2,.own 2 .int),(3,.own 3 .int)],ob:=fun i=>[(2,some (.row 3 .int false .no (wZ (gb tDy σ 1) i).1)),(3,some (.row 3 .int false .yes (wZ (gb tDy σ 1) i).2))],inv:=fun i=>i<=(vo (gb tDy σ 1)).length,mu:=fun i=>(vo (gb tDy σ 1)).length-i}
 |_=>none
abbrev jg2 (d:DyD×Unit)(x:Nat):=(nth (vo d.1) (x:Int).toNat)
abbrev jie (d:DyD×Unit):=(↑(vo d.1).length:Int)
abbrev jkM (d:DyD×Unit)(x:Nat):=(U.on (wZ d.1 x).1 (jg2 d x).q4.1++[(jg2 d x).2.2.2.1])
abbrev jlB (d:DyD×Unit)(x:Nat):=(nth (wZ d.1 x).1 (jg2 d x).2.2.2.1.toNat+1*2^(jg2 d x).q4.1.toNat)
abbrev jjq (d:DyD×Unit):=(d.1.2.2.1.length:Int)
def PY:Prop:=∀(d:DyD×Unit),aA d.1=0->d.1.2.2.1.length<4611686018427387904->0<=(jjq d)/\(jjq d)=(jjq d)/\(jjq d).toNat*8<=140737488355328/\(qi d.1).length<=1000/\(∃(x:Nat),((0=(x:Int)/\True/\True/\True)/\List.replicate (jjq d).toNat 0=(wZ d.1 x).1/\(wZ d.1 x).2=[]/\True)/\x<=(vo d.1).length)/\∀(x:Nat),x<=(vo d.1).length->(vo d.1).length<4611686018427387904->(decide ((x:Int)<(jie d))=true->0<=(x:Int)/\(x:Int)<(jie d)/\0<=(x:Int)/\(x:Int)<(jie d)/\(wZ d.1 x).1.length<=1000/\((0:Int)<=(jg2 d x).q4.1/\(jg2 d x).q4.1<=63)/\0<=(x:Int)/\(x:Int)<(jie d)/\((U.on (wZ d.1 x).1 (jg2 d x).q4.1).length+[(jg2 d x).2.2.2.1].length)*8<=140737488355328/\GB d.1/\ND d.1 (jg2 d x).q4.1/\E8 d.1 (jkM d x)/\(gI d.1 (jg2 d x).q4.1 (jkM d x)=true->0<=(x:Int)/\(x:Int)<(jie d)/\(0:Int)<=(jg2 d x).2.2.2.1/\(jg2 d x).2.2.2.1<(↑(wZ d.1 x).1.length:Int)/\0<=(x:Int)/\(x:Int)<(jie d)/\(0:Int)<=(jg2 d x).q4.1/\(jg2 d x).q4.1<=18446744073709551615/\(0:Int)<=(jg2 d x).q4.1/\(jg2 d x).q4.1<=64/\wl ((1:Int)*2^(jg2 d x).q4.1.toNat)/\wl (jlB d x)/\(0:Int)<=(jg2 d x).2.2.2.1/\(jg2 d x).2.2.2.1<(↑(wZ d.1 x).1.length:Int)/\wl ((x:Int)+1)/\∃(a:Nat),((True/\True/\(x:Int)+1=(a:Int)/\True)/\(wZ d.1 x).2=(wZ d.1 a).2/\(wZ d.1 x).1.set (jg2 d x).2.2.2.1.toNat (jlB d x)=(wZ d.1 a).1/\True)/\a<=(vo d.1).length/\(vo d.1).length-a<(vo d.1).length-x)/\(gI d.1 (jg2 d x).q4.1 (jkM d x)=false->0<=(x:Int)/\(x:Int)<(jie d)/\((wZ d.1 x).2.length+[(jg2 d x).1].length)*8<=140737488355328/\wl ((x:Int)+1)/\∃(a:Nat),((True/\(x:Int)+1=(a:Int)/\True/\True)/\(wZ d.1 x).2++[(jg2 d x).1]=(wZ d.1 a).2/\(wZ d.1 x).1=(wZ d.1 a).1/\True)/\a<=(vo d.1).length/\(vo d.1).length-a<(vo d.1).length-x))/\(decide ((x:Int)<(jie d))=false->((wZ d.1 x).1,(wZ d.1 x).2,())=((Ki d.1).1,(Ki d.1).2,()))
def PZ:w4:=⟨[.val tDy],[.slice .int,.int],false,fun d=>[(wm d.1).length<=1000000],fun d=>(sr d.1,aA d.1,())⟩
def P0:Prop:=∀(d:DyD×Unit),(wm d.1).length<=1000000->(wm d.1).length<=1000000/\(decide (aA d.1≠0)=true->([],aA d.1,())=(sr d.1,aA d.1,()))/\(decide (aA d.1≠0)=false->aA d.1=0/\((Ki d.1).1,(0:Int),())=(sr d.1,aA d.1,()))
theorem Ug:PV:=by
 rintro⟨l,p,⟨⟩⟩ e i;have e:l.length<=1000:=e;refine⟨⟨0,⟨⟨rfl,tZ,tZ⟩,rfl,tZ⟩,jl _⟩,fun x g _=>⟨fun h=> ?_,fun h=> ?_⟩⟩;have h:(x:Int)<l.length:=ja h;have b:=XJ l p x;have f:=R0 l p x;have up:x+1<=l.length:=(by omega);have d:l.length-(x+1)<l.length-x:=(by omega);refine⟨by omega,h,i,fun a=>⟨?_,iZ6,x+1,⟨⟨by simp,tZ,tZ⟩,?_,tZ⟩,up,d⟩,fun a=>⟨iZ6,x+1,⟨⟨tZ,by simp,tZ⟩,?_,tZ⟩,up,d⟩⟩;show((o7 l p x).length+1)*8<=140737488355328;omega;have a:w7 (nth l x) p=true:=a;rw[je a] at b;exact b.symm;have a:w7 (nth l x) p=false:=a;rw[jd (by rw[a];simp),j6] at b;exact b.symm;have h:¬(x:Int)<l.length:=jc h;have g:x<=l.length:=g;have c:x=l.length:=(by omega);subst c;exact⟨rfl,rfl⟩
theorem P1:ax PR 111 PT:=tD PU Ug Tryz.func111 (kcC nC kcN) koN
theorem Uh:P0:=by
 rintro⟨d,⟨⟩⟩ a;refine⟨a,fun h=> ?_,fun h=> ?_⟩;have h:aA d≠0:=ja h;show([],aA d,())=(sr d,aA d,());unfold sr;rw[jd h];have h:aA d=0:=jM.1 (jc h);refine⟨h,?_⟩;show((Ki d).1,(0:Int),())=(sr d,aA d,());unfold sr;rw[je h,h]
theorem xJ (l:List ShD) (n:Nat):wY l (n+1)=if vl (nth l (wY l n)) (nth l n)=true then n else wY l n:=by
 unfold wY;rw[j8,jO];rfl
theorem ou (l:List ShD):∀n,n<=l.length->0<l.length->wY l n<l.length
 |0,_,h=>h
 |n+1,a,h=>by
  have b:=ou l n (by omega) h
  rw[xJ]
  split<;>omega
theorem ow (l:List ShD):∀n,n<=l.length->(wi l n).1.length=n/\(wi l n).2.length=l.length-n
 |0,_=>⟨rfl,rfl⟩
 |n+1,d=>by
  obtain⟨a,b⟩:=ow l n (by omega)
  have c:=ou (wi l n).2 _ (jj _) (by omega)
  refine⟨?_,?_⟩
  show((wi l n).1++[_]).length=_
  rw[jH,a];rfl
  show((wi l n).2.take _++(wi l n).2.drop _).length=_
  rw[jH,jZ,zH]
  omega
theorem jaz {α:Type} [Inhabited α] {l:List α} {m:Nat} (h:m<l.length):(nth l m::(l.take m++l.drop (m+1))).Perm l:=by
 have e:l=l.take m++nth l m::l.drop (m+1):=by
  conv=>lhs;rw[<-z7 m l]
  rw[z8 h,L.qy h]
 conv=>rhs;rw[e]
 exact List.perm_middle.symm
theorem Ek (l:List ShD):∀n,n<=l.length->((wi l n).1++(wi l n).2).Perm l
 |0,_=>List.Perm.refl _
 |n+1,d=>by
  have b:=Ek l n (by omega)
  have c:=ow l n (by omega)
  have a:=ou (wi l n).2 _ (jj _) (by omega)
  refine List.Perm.trans ?_ b
  show((wi l n).1++[nth (wi l n).2 (wY (wi l n).2 (wi l n).2.length)]++_).Perm _
  rw[jN]
  exact List.Perm.append_left _ (jaz a)
theorem R3 {d:DyD} {n:Nat} (h:n<(vo d).length):wZ d (n+1)=cM d (wZ d n) (nth (vo d) n):=by
 unfold wZ;rw[L.wQ h,jO];rfl
theorem XM {d:DyD} {s:ShD} (h:s∈vo d):s∈wg (qi d):=by
 have b:=Ek (dr d) (dr d).length (jj _);have a:s∈dr d:=b.mem_iff.1 (jh _ h);unfold dr wz at a;obtain⟨i,hi,rfl⟩:=jS.1 a;exact L.wh (jE.1 (jP.1 hi).1)
theorem Jh {l:List ShD} {s:ShD} (h:s∈wg l):s∈l:=by
 unfold wg ye at h;obtain⟨m,_,h⟩:=List.mem_flatMap.1 h;unfold dl at h;obtain⟨i,hi,rfl⟩:=jS.1 h;exact L.wh (jE.1 (jP.1 hi).1)
theorem XN {d:DyD} (k:qG d=true) (j:wy (ww d)=true):∀n,n<=(vo d).length->(wZ d n).1.length=(wm d).length/\(wZ d n).2.length<=n/\∀b,b<(wm d).length->0<=nth (wZ d n).1 b/\nth (wZ d n).1 b<=128*(n:Int)
 |0,_=>by
  refine⟨jW,jl _,fun b a=> ?_⟩
  have:nth (wZ d 0).1 b=0:=L.bN a
  rw[this];exact⟨zO 0,zO 0⟩
 |n+1,s=>by
  obtain⟨g,q,h⟩:=XN k j n (by omega)
  have p:=oq k (Jh (XM (L.wh (l:=vo d) (i:=n) (by omega))))
  have r:(wj (ww d)).length<=8:=(qe j).2.2.1
  have o:(2:Int)^(aL (nth (vo d) n)).toNat<=128:=by
   rw[BT.Ci];have:(2:Nat)^(aL (nth (vo d) n)).toNat<=2^7:=Nat.pow_le_pow_right (by decide) (by omega);omega
  have m:(0:Int)<(2:Int)^(aL (nth (vo d) n)).toNat:=by
   rw[BT.Ci];have:=Nat.two_pow_pos (aL (nth (vo d) n)).toNat;omega
  have f:(mo (nth (vo d) n)).toNat<(wZ d n).1.length:=by
   have:=p.2;unfold aM at this;omega
  rw[R3 (by omega)];unfold cM
  split
  refine⟨by show((wZ d n).1.set _ _).length=_;rw[zK,g],by show(wZ d n).2.length<=_;omega,fun b a=> ?_⟩;show 0<=nth ((wZ d n).1.set _ _) b/\nth ((wZ d n).1.set _ _) b<=_;rw[L.gz f];have c:=h b a
  split
  rename_i e;rw[e];omega;omega;refine⟨g,by show((wZ d n).2++[_]).length<=_;rw[jH];simp;omega,fun b a=> ?_⟩;have c:=h b a;show 0<=nth (wZ d n).1 b/\nth (wZ d n).1 b<=_;omega
theorem HC {d:DyD} (h:aA d=0):GB d:=(gX ((de d).trans h)).1
theorem je3 {t:List Int} {p b:Int} (h:b∈U.on t p):0<=b/\b<(t.length:Int):=by
 unfold U.on o7 at h;obtain⟨i,hi,rfl⟩:=jS.1 h;have:=jE.1 (jP.1 hi).1;omega
theorem jdp (d:DyD):(vo d).length<=(qi d).length*100:=by
 have a:=(ow (dr d) (dr d).length (jj _)).1;have b:(dr d).length<=(wg (qi d)).length:=by
  unfold dr wz;rw[zf];exact jF (zA _ _) (by simp)
 have c:(wg (qi d)).length<=(qi d).length*100:=ot _ 100;show(wi (dr d) (dr d).length).1.length<=_;omega
theorem je4 (t:List Int) (p:Int):(U.on t p).length<=t.length:=R0 t p t.length
theorem R4 (d:DyD):wZ d 0=(List.replicate ((wm d).length:Int).toNat 0,[]):=rfl
attribute [local irreducible] vo wZ gI U.on
theorem Ui:PY:=by
 unfold PY jjq jlB jkM jie jg2 Prod.q4;rintro⟨d,⟨⟩⟩ m _;have m:aA d=0:=m;have a:=HC m;have y:(wm d).length<=4:=(yr a.2.2).1;have w:(qi d).length<=30:=(yr a.2.2).2.2.2.2.1;have E:(wj (ww d)).length<=8:=(qe a.1).2.2.1;refine⟨jU _,rfl,by show((wm d).length:Int).toNat*8<=140737488355328;omega,by show(qi d).length<=1000;omega,⟨0,⟨⟨rfl,tZ,tZ,tZ⟩,(jD (·.1) (R4 d)).symm,jD (·.2) (R4 d),tZ⟩,jl _⟩,fun x v z=>⟨fun h=> ?_,fun h=> ?_⟩⟩;have h:(x:Int)<(vo d).length:=ja h;have B:=jdp d;have z:(vo d).length<=3000:=(by omega);obtain⟨C,G,D⟩:=XN a.2.2 a.1 x (by omega);have g:=oq a.2.2 (Jh (XM (L.wh (l:=vo d) (i:=x) (by omega))));have o:=g.2;unfold aM at o;have F:=D (mo (nth (vo d) x)).toNat (by omega);have j:=R3 (d:=d) (n:=x) (by omega);have H:=je4 (wZ d x).1 (aL (nth (vo d) x));have u:BT.qm ((2:Int)^(aL (nth (vo d) x)).toNat):=BT.lC (by omega);unfold BT.qm at u;have up:x+1<=(vo d).length:=(by omega);have t:(vo d).length-(x+1)<(vo d).length-x:=(by omega);have x0:(0:Int)<=(x:Int):=jU x;have q:0<=aL (nth (vo d) x):=g.1.1;have r:aL (nth (vo d) x)<=63:=(by omega);have s:aL (nth (vo d) x)<=64:=(by omega);have k:aL (nth (vo d) x)<=18446744073709551615:=(by omega);have bl:mo (nth (vo d) x)<((wZ d x).1.length:Int):=(by omega);have i64:wl ((x:Int)+1):=iZ6;refine⟨x0,h,x0,h,by show(wZ d x).1.length<=1000;omega,⟨q,r⟩,x0,h,by show((U.on (wZ d x).1 (aL (nth (vo d) x))).length+1)*8<=140737488355328;omega,a,g.1,⟨?_,fun b f=> ?_⟩,fun c=> ?_,fun c=> ?_⟩;show(U.on (wZ d x).1 (aL (nth (vo d) x))++[mo (nth (vo d) x)]).length<=12;rw[jH];simp;omega;rcases jr.1 f with f|f;have:=je3 f;exact⟨this.1,by show b<((wm d).length:Int);rw[<-C];exact this.2⟩;simp at f;subst f;exact g.2;have c:gI d (aL (nth (vo d) x)) (U.on (wZ d x).1 (aL (nth (vo d) x))++[mo (nth (vo d) x)])=true:=c;have e:wZ d (x+1)=((wZ d x).1.set (mo (nth (vo d) x)).toNat (nth (wZ d x).1 (mo (nth (vo d) x)).toNat+2^(aL (nth (vo d) x)).toNat),(wZ d x).2):=by
  rw[j];unfold cM;rw[je c]
 have A:(2:Int)^(aL (nth (vo d) x)).toNat<4611686018427387904:=u.2;refine⟨x0,h,g.2.1,bl,x0,h,q,k,q,s,?_,?_,g.2.1,bl,i64,x+1,⟨⟨tZ,tZ,by simp,tZ⟩,?_,?_,tZ⟩,up,t⟩;show wl (1*2^(aL (nth (vo d) x)).toNat);rw[nB];exact iZ6;show wl (nth (wZ d x).1 (mo (nth (vo d) x)).toNat+1*2^(aL (nth (vo d) x)).toNat);rw[nB];exact iZ6;show(wZ d x).2=(wZ d (x+1)).2;rw[e];show(wZ d x).1.set (mo (nth (vo d) x)).toNat (nth (wZ d x).1 (mo (nth (vo d) x)).toNat+1*2^(aL (nth (vo d) x)).toNat)=(wZ d (x+1)).1;rw[nB,e];have c:gI d (aL (nth (vo d) x)) (U.on (wZ d x).1 (aL (nth (vo d) x))++[mo (nth (vo d) x)])=false:=c;have e:wZ d (x+1)=((wZ d x).1,(wZ d x).2++[gM (nth (vo d) x)]):=by
  rw[j];unfold cM;rw[c,jd (by simp)]
 refine⟨x0,h,by show((wZ d x).2.length+1)*8<=140737488355328;omega,i64,x+1,⟨⟨tZ,by simp,tZ,tZ⟩,?_,?_,tZ⟩,up,t⟩;show(wZ d x).2++[gM (nth (vo d) x)]=(wZ d (x+1)).2;rw[e];show(wZ d x).1=(wZ d (x+1)).1;rw[e];have h:¬(x:Int)<(vo d).length:=jc h;have v:x<=(vo d).length:=v;have p:x=(vo d).length:=(by omega);subst p;rfl
end Go.X
namespace Go.X
open U
theorem ox (c:CrD) (j:JbD) (i:Nat):(yL (c,j,dH c j,()) (nth (wj c) i)=0)↔qP c j (i:Int)=true:=by
 show Vj (dm (nth (wj c) i) (Zn j)) (!w7 (U.fd (nth (wj c) i)) (QR j)) (!w7 (U.cl (nth (wj c) i)) (ct j))=0↔
  (!(dm (nth (wj c) ((i:Int)).toNat) (Zn j))&&w7 (U.fd (nth (wj c) ((i:Int)).toNat)) (QR j)&&w7 (U.cl (nth (wj c) ((i:Int)).toNat)) (ct j))=true
 rw[jw];generalize dm (nth (wj c) i) (Zn j)=x;generalize w7 (U.fd (nth (wj c) i)) (QR j)=y;generalize w7 (U.cl (nth (wj c) i)) (ct j)=z;cases x<;>cases y<;>cases z<;>decide
theorem jdq {c:CrD} {j:JbD} (b:wy c=true) (d:ql c j=true) (p:Nat):(p:Int)∈d9 c j↔p<(wj c).length/\qP c j (p:Int)=true:=by
 have a:vV c j=0:=(by unfold vV;rw[b,d];rfl);unfold d9 dq;rw[je a,jS];refine⟨fun⟨i,hi,e⟩=> ?_,fun h=>⟨p,?_,rfl⟩⟩;have e:i=p:=(by omega);subst e;have:=jP.1 hi;exact⟨jE.1 this.1,(ox c j i).1 (ja this.2)⟩;exact jP.2 ⟨jE.2 h.1,jG ((ox c j p).2 h.2)⟩
theorem XO {l:List Int} (h:∀p∈l,0<=p/\p<8):∀n,n<=l.length->∀q,BT.has (lS l n) q=(l.take n).any (fun p=>decide (p.toNat=q))
 |0,_,q=>BT.uL q
 |n+1,c,q=>by
  have b:=XO h n (by omega) q
  have a:=rY h n (by omega)
  have d:=h _ (L.wh (l:=l) (i:=n) (by omega))
  rw[xH (by omega),nB,BT.has_bor a.1 (BT.lC (by omega)),b,BT.Cj,L.wQ (by omega),kW]
  simp
theorem XP {l:List Int} (h:∀p∈l,0<=p/\p<8) (q:Nat):BT.has (Sy l) q=l.any (fun p=>decide (p.toNat=q)):=by
 have:=XO h l.length (jj _) q;rw[zC] at this;exact this
theorem jaA {d:DyD} {b:Nat} (a:b<(wm d).length):nth (yN d (wm d).length) b=Sy (d9 (ww d) (gg (nth (wm d) b))):=by
 unfold yN;rw[zC,L.nth_map a]
theorem XQ {d:DyD} (a:GB d) {b:Nat} (c:b<(wm d).length):ql (ww d) (gg (nth (wm d) b))=true:=
 jV.1 a.2.1 _ (L.wh c)
theorem jdr {d:DyD} (g:GB d) {b p:Int} (m:aM d b) (n:ND d p):decide (iA (nth (yN d (wm d).length) b.toNat/2^p.toNat) 1=0)= !qP (ww d) (gg (U.bk d b)) p:=by
 unfold aM at m;unfold ND at n;have a:b.toNat<(wm d).length:=(by omega);have j:=fun q (c:q∈d9 (ww d) (gg (nth (wm d) b.toNat)))=>Xw g.1 c
 have o:BT.qm (Sy (d9 (ww d) (gg (nth (wm d) b.toNat)))):=(rY j _ (jj _)).1;have i:U.bk d b=nth (wm d) b.toNat:=rfl;rw[jaA a,BT.bit_num o,i];have k:=XP j p.toNat;have f:=jdq g.1 (XQ g a) p.toNat;have ep:((p.toNat:Nat):Int)=p:=(by omega);rw[ep] at f;have l:BT.has (Sy (d9 (ww d) (gg (nth (wm d) b.toNat)))) p.toNat=qP (ww d) (gg (nth (wm d) b.toNat)) p:=by
  rw[k];cases h:qP (ww d) (gg (nth (wm d) b.toNat)) p with
  |true=>exact zc.2 ⟨p,f.2 ⟨by omega,h⟩,by simp⟩
  |false=>
   refine zj.2 fun q c e=> ?_
   have e:q.toNat=p.toNat:=ja e;have:=j q c;have e:q=p:=(by omega);rw[e] at c;rw[(f.1 c).2] at h;cases h
 rw[l];cases qP (ww d) (gg (nth (wm d) b.toNat)) p<;>rfl
theorem Mr {α:Type} [Inhabited α] {R:α->α->Prop} {l:List α}:(∀i,i<l.length->∀b∈l.take i,R b (nth l i))↔l.Pairwise R:=by
 rw[zF];refine⟨fun h i j hi a d=> ?_,fun h i hi b c=> ?_⟩;have:=h j a l[i] (ze.2 ⟨i,by omega,rfl⟩);rw[L.qy a] at this;exact this;obtain⟨k,hk,rfl⟩:=ze.1 c;rw[L.qy hi];exact h k i (by omega) hi (by omega)
theorem XR {α:Type} [Inhabited α] {R:α->α->Prop} {l:List α}:(∀i,i<l.length->∀b∈l.drop (i+1),R (nth l i) b)↔l.Pairwise R:=by
 rw[zF];refine⟨fun h i j hi d c=> ?_,fun h i hi b a=> ?_⟩;have:=h i hi l[j] (List.mem_drop_iff_getElem.2 ⟨j-(i+1),by omega,by congr 1;omega⟩);rw[L.qy hi] at this;exact this;obtain⟨k,hk,rfl⟩:=List.mem_drop_iff_getElem.1 a;rw[L.qy hi];exact h i (i+1+k) hi (by omega) (by omega)
theorem nF (d:DyD) (a b:Int):aJ d a b=true↔(qh (U.bk d a)<qh (U.bk d b)\/(qh (U.bk d a)=qh (U.bk d b)/\a<b)):=decide_eq_true_iff
theorem nG (d:DyD) (a b:Int):aJ d a b=false↔¬(qh (U.bk d a)<qh (U.bk d b)\/(qh (U.bk d a)=qh (U.bk d b)/\a<b)):=jI
theorem XS (d:DyD) (l:List Int):yq (aJ d) l where
 irrefl x _:=(nG d x x).2 (by omega)
 trans x y z _ _ _ a b:=by
  have a:=(nF d x y).1 a;have b:=(nF d y z).1 b;exact(nF d x z).2 (by omega)
 total x y _ _ a b:=by
  have a:=(nG d x y).1 a;have b:=(nG d y x).1 b;omega
theorem El {d:DyD} {a b:Int} (h:a≠b) (c:aJ d b a=false):aJ d a b=true:=by
 have c:=(nG d b a).1 c;exact(nF d a b).2 (by omega)
theorem Uj {d:DyD} {a b:Int} (c:aJ d a b=true):aJ d b a=false:=by
 have c:=(nF d a b).1 c;exact(nG d b a).2 (by omega)
theorem uf {d:DyD} {a b:Int} (h:aJ d a b=true):(qf d b a=decide (0<=ca d a b))/\(qf d a b=decide (0<=ca d a b)):=by
 unfold qf;rw[je h,Uj h,jd (by simp)];exact⟨rfl,rfl⟩
theorem jaB {d:DyD} {a b:Int} (h:a≠b):qf d a b=qf d b a:=by
 cases c:aJ d b a with
 |false=>have:=uf (El h c);rw[this.1,this.2]
 |true=>have:=uf c;rw[this.1,this.2]
def TgR (d:DyD) (a b:Int):Prop:=a≠b->qf d b a=true
theorem XT {d:DyD} {l:List Int} (f:l.Nodup):jcc d l=true↔l.Pairwise (TgR d):=by
 rw[<-Mr];unfold jcc;rw[jV];have e:∀i,i<l.length->∀b∈l.take i,b≠nth l i:=(Mr (R:=fun a b=>a≠b)).2 f;refine⟨fun h i hi b c _=> ?_,fun h i hi=>jV.2 fun b c=> ?_⟩;exact jV.1 (h i (jE.2 hi)) b c;exact h i (jE.1 hi) b c (e i (jE.1 hi) b c)
theorem TgR.symm {d:DyD} {a b:Int} (h:TgR d a b):TgR d b a:=fun e=>(jaB (Ne.symm e)).trans (h (Ne.symm e))
theorem XU {d:DyD} {l l':List Int} (h:l.Perm l'):J7 d l=J7 d l':=by
 unfold J7;exact List.Perm.foldl_eq' (h.map _) (fun x _ y _ z=>by omega) 0
theorem Ji (d:DyD) (p:Int) {l:List Int} (a:l.Nodup):gI d p l=true↔(∀b∈l,qP (ww d) (gg (U.bk d b)) p=true)/\l.Pairwise (TgR d)/\J7 d l<=jbq d:=by
 unfold gI;rw[ji,ji,jV,XT a,decide_eq_true_iff]
theorem HD (d:DyD) (p:Int) {l l':List Int} (h:l.Perm l') (g:l.Nodup):gI d p l=gI d p l':=by
 have f:=h.nodup_iff.1 g;refine j7.2 ?_;rw[Ji d p g,Ji d p f,XU h,h.pairwise_iff (fun h=>TgR.symm h)];exact⟨fun⟨a,c⟩=>⟨fun b e=>a b (h.mem_iff.2 e),c⟩,fun⟨a,c⟩=>⟨fun b e=>a b (h.mem_iff.1 e),c⟩⟩
theorem jaC (d:DyD) (may:List Int) (p:Int) (s:List Int):jd9 d may p s=true↔(∀b∈s,decide (iA (nth may b.toNat/2^p.toNat) 1=0)=false)/\s.Pairwise (fun a b=>0<=ca d a b)/\J7 d s<=jbq d:=by
 rw[<-XR];unfold jd9;rw[ji,decide_eq_true_iff,jV,<-and_assoc];refine and_congr_left fun _=> ?_
 have e:∀i,J9 d may p s i=true↔decide (iA (nth may (nth s i).toNat/2^p.toNat) 1=0)=false/\∀b∈s.drop (i+1),0<=ca d (nth s i) b:=by
  intro i;unfold J9;rw[jX,jT,zj];refine and_congr_right fun _=>⟨fun h b c=> ?_,fun h b c=> ?_⟩
  have:=h b c;simp at this;omega;have:=h b c;simp;omega
 refine⟨fun h=>⟨fun b c=> ?_,fun i hi=>((e i).1 (h i (jE.2 hi))).2⟩,fun h i hi=>(e i).2 ⟨h.1 _ (L.wh (jE.1 hi)),h.2 i (jE.1 hi)⟩⟩;obtain⟨i,hi,rfl⟩:=L.mem_iff.1 c;exact((e i).1 (h i (jE.2 hi))).1
theorem jds {d:DyD} {may:List Int} {p:Int} {l:List Int} (m:l.Nodup) (j:∀b∈l,decide (iA (nth may b.toNat/2^p.toNat) 1=0)= !qP (ww d) (gg (U.bk d b)) p):QT d may p l=gI d p l:=by
 have f:(wA d l).Perm l:=qn l;have c:(wA d l).Nodup:=f.nodup_iff.2 m;have k:(wA d l).Pairwise (fun a b=>aJ d b a=false):=cJ (XS d l);rw[<-HD d p f c];unfold QT;refine j7.2 ?_;rw[jaC,Ji d p c];have i:=List.Pairwise.and k c;refine and_congr ⟨fun h b e=> ?_,fun h b e=> ?_⟩ (and_congr_left fun _=>⟨fun h=> ?_,fun h=> ?_⟩);have g:=h b e;rw[j b (f.mem_iff.1 e)] at g;simpa using g;rw[j b (f.mem_iff.1 e),h b e];rfl;refine(List.Pairwise.and i h).imp fun{a b} x _=> ?_
 rw[(uf (El x.1.2 x.1.1)).1];exact jG x.2;refine(List.Pairwise.and i h).imp fun{a b} x=> ?_
 have:=x.2 x.1.2;rw[(uf (El x.1.2 x.1.1)).1] at this;exact ja this
theorem nI (a b:ShD):vl a b=true↔(Fi b<Fi a\/(Fi a=Fi b/\gM b<gM a)):=decide_eq_true_iff
theorem ug (a b:ShD):vl a b=false↔¬(Fi b<Fi a\/(Fi a=Fi b/\gM b<gM a)):=jI
theorem d7 (a:ShD):vl a a=false:=(ug a a).2 (by omega)
theorem HE {a b:ShD} (h:vl a b=true):vl b a=false:=by
 have h:=(nI a b).1 h;exact(ug b a).2 (by omega)
theorem Em {a b c:ShD} (d:vl a b=true) (e:vl b c=true):vl a c=true:=by
 have d:=(nI a b).1 d;have e:=(nI b c).1 e;exact(nI a c).2 (by omega)
theorem jaD (a b:ShD):wF a b<0↔vl b a=true:=by
 rw[nI];unfold wF;rw[qw,yc]
 split
 rename_i h;have c:¬Fi a=Fi b:=fun e=>h (bK.2 e)
 rw[Xd];omega;rename_i h;have d:Fi a=Fi b:=bK.1 (jM.1 h);rw[Xd];omega
theorem jdt {l:List ShD} (hi:∀a∈l,∀b∈l,gM a=gM b->a=b):yq jd8 l where
 irrefl x _:=d7 x
 trans x y z _ _ _ c d:=Em d c
 total x y hx hy c d:=by
  have c:=(ug y x).1 c;have d:=(ug x y).1 d;exact hi x hx y hy (by omega)
theorem XV {l:List ShD}:∀i,i<l.length->∃j,j<l.length/\nth l j=nth l i/\nR l j=true:=by
 intro i
 induction i using Nat.strongRecOn with
 |_ i d=>
  intro hi;cases h:nR l i with
  |true=>exact⟨i,hi,rfl,h⟩
  |false=>
   simp only[nR,zq] at h;obtain⟨x,c,e⟩:=zc.1 h;obtain⟨k,hk,rfl⟩:=ze.1 c;have e:l[k]=nth l i:=ja e;obtain⟨j,b,a,e2⟩:=d k (by omega) (by omega);exact⟨j,b,by rw[a,L.qy (by omega)];exact e,e2⟩
theorem jdu {l:List ShD} {s:ShD} (h:s∈l) (c:0<=gM s) (d:gM s<=99):s∈wg l:=by
 obtain⟨i,hi,rfl⟩:=L.mem_iff.1 h;obtain⟨j,b,a,e2⟩:=XV i hi;unfold wg ye;refine List.mem_flatMap.2 ⟨(gM (nth l i)).toNat,jE.2 (by omega),?_⟩;unfold dl;refine jS.2 ⟨j,jP.2 ⟨jE.2 b,?_⟩,a⟩;show(decide (gM (nth l j)=(((gM (nth l i)).toNat:Nat):Int))&&nR l j)=true;rw[e2,a,Bool.and_true];exact jG (by omega)
theorem R5 {l:List ShD} {n m:Nat} {s:ShD} (h:s∈dl l n m):gM s=(m:Int):=by
 unfold dl at h;obtain⟨i,hi,rfl⟩:=jS.1 h;have a:=(jP.1 hi).2;rw[ji] at a;exact ja a.1
theorem Uk (l:List ShD):(wg l).Nodup:=by
 unfold wg ye;refine List.pairwise_flatMap.2 ⟨fun m _=> ?_,?_⟩;unfold dl;refine zP.2 (List.Pairwise.imp_of_mem ?_ (List.Pairwise.filter _ kJ));intro i j hi c k e;have c:=jP.1 c;have d:=c.2;rw[ji] at d;have f:=d.2;have n:=jE.1 c.1;have o:((l.take j).any (fun x=>decide (x=nth l j)))=true:=
  zc.2 ⟨nth l i,ze.2 ⟨i,by omega,(L.qy (by omega)).symm⟩,jG e⟩
 unfold nR at f;rw[o] at f;cases f;refine List.Pairwise.imp ?_ kJ;intro a b h x p y q e;have g:=R5 p;have d:=R5 q;rw[e] at g;omega
theorem R6 (t s:ShD):iq t=iq s↔mo t=mo s/\aL t=aL s:=by
 unfold iq;refine⟨fun h=>⟨jD (·.1) h,jD (·.2.1) h⟩,fun h=>by rw[h.1,h.2]⟩
theorem P2 (l:List ShD) (s:ShD):Ch l s=true↔Zb s=1/\∀t∈l,iq t=iq s->vl t s=false:=by
 unfold Ch;rw[ji,decide_eq_true_iff,jX,zj];refine and_congr_right fun _=>⟨fun h t a e=> ?_,fun h t a e=> ?_⟩
 have e:=(R6 t s).1 e;have:=h t a;rw[e.1,e.2,jG rfl,jG rfl] at this;simpa using this;rw[ji,ji,decide_eq_true_iff,decide_eq_true_iff] at e;rw[h t a ((R6 t s).2 e.1)] at e;exact absurd e.2 (by simp)
theorem XW (d:DyD):dr d=(wg (qi d)).filter (Ch (wg (qi d))):=by
 unfold dr;generalize wg (qi d)=l;unfold wz;have e:(fun i=>yu l i l.length)=(Ch l)∘(nth l):=by
  funext i;unfold yu;rw[zC];rfl
 rw[e];have:=List.filter_map (f:=nth l) (p:=Ch l) (l:=List.range l.length);rw[<-this,L.range_map_nth]
theorem Ms (l:List ShD):∀n,∀i,i<n->vl (nth l (wY l n)) (nth l i)=false
 |0,i,h=>absurd h (by omega)
 |n+1,i,h=>by
  have b:=Ms l n
  rw[xJ]
  split
  rename_i a
  rcases Nat.lt_succ_iff_lt_or_eq.1 h with h|h
  cases c:vl (nth l n) (nth l i) with
  |false=>rfl
  |true=>have:=Em a c;rw[b i h] at this;cases this
  subst h;exact d7 _
  rename_i a
  rcases Nat.lt_succ_iff_lt_or_eq.1 h with h|h
  exact b i h
  subst h;simpa using a
theorem XX (l:List ShD):∀n,n<=l.length->(wi l n).1.Pairwise (fun a b=>vl a b=false)/\∀a∈(wi l n).1,∀b∈(wi l n).2,vl a b=false
 |0,_=>⟨List.Pairwise.nil,fun a d=>by cases d⟩
 |n+1,m=>by
  obtain⟨j,g⟩:=XX l n (by omega)
  have k:=ow l n (by omega)
  have h:=ou (wi l n).2 _ (jj _) (by omega)
  have e:=Ms (wi l n).2 (wi l n).2.length
  have f:∀b∈(wi l n).2.take (wY (wi l n).2 (wi l n).2.length)++(wi l n).2.drop (wY (wi l n).2 (wi l n).2.length+1),b∈(wi l n).2:=by
   intro b c;rcases jr.1 c with c|c;exact ke c;exact kc c
  refine⟨List.pairwise_append.2 ⟨j,List.pairwise_singleton _ _,fun a d b c=> ?_⟩,fun a d b c=> ?_⟩;simp at c;subst c;exact g a d _ (L.wh h);have c:=f b c;have d:a∈(wi l n).1++[nth (wi l n).2 (wY (wi l n).2 (wi l n).2.length)]:=d;rcases jr.1 d with d|d;exact g a d b c;simp at d;subst d;obtain⟨i,hi,rfl⟩:=L.mem_iff.1 c;exact e i hi
theorem jdv (d:DyD):Tf jd8 (vo d):=(XX (dr d) _ (jj _)).1
theorem R7 (d:DyD):(vo d).Perm (dr d):=by
 have a:=Ek (dr d) (dr d).length (jj _);have b:=(ow (dr d) (dr d).length (jj _)).2;have:(wi (dr d) (dr d).length).2=[]:=List.length_eq_zero_iff.1 (by omega);rw[this,j6] at a;exact a
theorem R8 {l:List ShD} (i:l.Pairwise (fun a b=>vl b a=true)):∀n,n<=l.length->∀s∈l.take n,(wW (Ty.dflt tSh) (wG tSt (iq s) (vz l n))=s↔∀t∈l.take n,iq t=iq s->vl t s=false)
 |0,_,s,c=>by simp at c
 |n+1,k,s,c=>by
  have j:=R8 i n (by omega)
  have g:(l.take (n+1)).Pairwise (fun a b=>vl b a=true):=i.sublist (List.take_sublist _ _)
  rw[L.wQ (by omega)] at g c
  have f:∀t∈l.take n,vl (nth l n) t=true:=fun t d=>(List.pairwise_append.1 g).2.2 t d _ (by simp)
  rw[Ec (by omega),L.wQ (by omega)]
  by_cases hk:iq s=iq (nth l n)
  rw[hk,M.so]
  show nth l n=s↔_
  rcases jr.1 c with c|c
  refine⟨fun e=> ?_,fun h=> ?_⟩
  have:=f s c
  rw[e,d7] at this;cases this
  have:=h (nth l n) (by simp) rfl
  rw[f s c] at this;cases this
  simp at c;subst c
  refine⟨fun _ t d _=> ?_,fun _=>rfl⟩
  rcases jr.1 d with d|d
  exact HE (f t d)
  simp at d;subst d;exact d7 _
  rw[M.eV hk]
  have c:s∈l.take n:=by
   rcases jr.1 c with c|c;exact c;simp at c;subst c;exact absurd rfl hk
  rw[j s c];refine⟨fun h t d e=> ?_,fun h t d=>h t (jh _ d)⟩;rcases jr.1 d with d|d;exact h t d e;simp at d;subst d;exact absurd e.symm hk
theorem XY {d:DyD} (h:qo d=0):(vL d).Pairwise (fun a b=>vl b a=true):=by
 have f:=jgr h;have g:Tf (we tSh fun x=>(wF x.1 x.2.1,())) (vL d):=cJ f;have e:∀s∈vL d,s∈qA (qi d):=fun s i=>(qn _).mem_iff.1 i
 refine List.Pairwise.imp_of_mem ?_ (List.Pairwise.and g (fX d));intro a b j k ⟨h1,h2⟩;cases c:we tSh (fun x=>(wF x.1 x.2.1,())) a b with
 |false=>exact absurd (f.total a b (e a j) (e b k) c h1) h2
 |true=>
  have c:wF a b<0:=ja c;exact(jaD a b).1 c
theorem Mt {d:DyD} (h:qo d=0) {s:ShD} (a:s∈vL d):yM (vz (vL d) (vL d).length) s=true↔Zb s=1/\∀t∈vL d,iq t=iq s->vl t s=false:=by
 have:=R8 (XY h) (vL d).length (jj _) s (by rw[zC];exact a);rw[zC] at this;rw[<-this];unfold yM;rw[jX,jT,zq,zq,decide_eq_true_iff,decide_eq_true_iff];exact and_comm
theorem XZ {d:DyD} (h:qG d=true) {s:ShD} (a:s∈qi d):0<=gM s/\gM s<=99:=by
 have:=(yr h).2.2.2.2.2.2.2 _ a;unfold nQ at this;have:=ja this;omega
def Zm (d:DyD):ShD->Bool:=yM (vz (vL d) (vL d).length)
theorem je5 {d:DyD} (h:qo d=0):(vL d).filter (Zm d)=vo d:=by
 have j:=gX h;have f:∀s,s∈wg (qi d)↔s∈vL d:=fun s=>⟨fun c=>lr.2 (Jh c),fun c=>by
  have c:=lr.1 c;have:=XZ j.1.2.2 c;exact jdu c this.1 this.2⟩
 have g:∀s,s∈(vL d).filter (Zm d)↔s∈vo d:=by
  intro s;rw[(R7 d).mem_iff,XW,jP,jP,f s];refine and_congr_right fun c=> ?_
  rw[P2];have:=Mt h c;refine this.trans (and_congr_right fun _=>⟨fun h t i=>h t ((f t).1 i),fun h t i=>h t ((f t).2 i)⟩)
 have n:((vL d).filter (Zm d)).Nodup:=List.Pairwise.filter _ (fX d);have o:(vo d).Nodup:=(R7 d).nodup_iff.2 (by rw[XW];exact List.Pairwise.filter _ (Uk _));have m:=L.pD n o g;refine rh (jdt ?_) m ?_ (jdv d);intro a k b l e;exact j.2 a (lr.1 (jP.1 k).1) b (lr.1 (jP.1 l).1) e;exact(List.Pairwise.filter _ (XY h)).imp fun x=>HE x
structure F6 (d:DyD) (x:List (List Int)×List Int) (y:List Int×List Int):Prop where
 ref:x.2=y.2
 len:y.1.length=(wm d).length
 set:∀b,b<(wm d).length->BT.qm (nth y.1 b)
 bit:∀b,b<(wm d).length->∀p,BT.has (nth y.1 b) p=true↔p<(wj (ww d)).length/\(b:Int)∈nth x.1 p
theorem Cd {t:Int} (h:BT.qm t) (p:Int):w7 t p=BT.has t p.toNat:=BT.has_shr h p.toNat
theorem je6 {d:DyD} {x:List (List Int)×List Int} {y:List Int×List Int} (h:F6 d x y) {p:Int} (j:ND d p) (g:∀b∈nth x.1 p.toNat,aM d b) (n:Int):n∈U.on y.1 p↔n∈nth x.1 p.toNat:=by
 unfold ND at j;unfold U.on o7;rw[jS];refine⟨fun⟨i,hi,e⟩=> ?_,fun f=> ?_⟩;subst e;have hi:=jP.1 hi;have a:=jE.1 hi.1;rw[h.len] at a;have c:w7 (nth y.1 i) p=true:=hi.2;rw[Cd (h.set i a)] at c;exact((h.bit i a p.toNat).1 c).2;have hk:=g n f;unfold aM at hk;have en:((n.toNat:Nat):Int)=n:=(by omega);refine⟨n.toNat,jP.2 ⟨jE.2 (by rw[h.len];omega),?_⟩,en⟩;show w7 (nth y.1 n.toNat) p=true;rw[Cd (h.set _ (by omega))];exact(h.bit _ (by omega) _).2 ⟨by omega,by rw[en];exact f⟩
theorem jaE (t:List Int) (p:Int):(U.on t p).Nodup:=by
 unfold U.on o7;refine zP.2 ((List.Pairwise.filter _ kJ).imp ?_);intro a b c e;omega
theorem jdw {d:DyD} {x:List (List Int)×List Int} {y:List Int×List Int} (h:F6 d x y) {p:Int} (e:ND d p) (c:(nth x.1 p.toNat).Nodup) (a:∀b∈nth x.1 p.toNat,aM d b):(nth x.1 p.toNat).Perm (U.on y.1 p):=
 L.pD c (jaE _ _) (fun n=>(je6 h e a n).symm)
theorem je7 {d:DyD} (i:GB d) {x:List (List Int)×List Int} {y:List Int×List Int} (h:F6 d x y) {p b:Int} (g:ND d p) (e:(nth x.1 p.toNat++[b]).Nodup) (f:∀c∈nth x.1 p.toNat++[b],aM d c):
 QT d (yN d (wm d).length) p (nth x.1 p.toNat++[b])=gI d p (U.on y.1 p++[b]):=by
 rw[jds e (fun c a=>jdr i (f c a) g)];exact HD d p ((jdw h g (zI.1 e).1 (fun c a=>f c (jh _ a))).append_right [b]) e
theorem je8 {d:DyD} {x:List (List Int)×List Int} {y:List Int×List Int} (h:F6 d x y) (v:x.1.length=(wj (ww d)).length) (u:(wj (ww d)).length<=8) {p b:Int} (t:ND d p) (s:aM d b) (i:b∉nth x.1 p.toNat):
 F6 d (x.1.set p.toNat (nth x.1 p.toNat++[b]),x.2) (y.1.set b.toNat (nth y.1 b.toNat+2^p.toNat),y.2):=by
 unfold ND at t;unfold aM at s;have r:((b.toNat:Nat):Int)=b:=(by omega);have g:b.toNat<y.1.length:=(by rw[h.len];omega);have n:p.toNat<x.1.length:=(by omega);have o:=h.set b.toNat (by omega);have m:BT.has (nth y.1 b.toNat) p.toNat=false:=by
  cases j:BT.has (nth y.1 b.toNat) p.toNat with
  |false=>rfl
  |true=>exact absurd (by have:=((h.bit _ (by omega) _).1 j).2;rw[r] at this;exact this) i
 have a:=BT.add_two o (p:=p.toNat) (by omega) m;have j:=BT.lC (k:=p.toNat) (by omega);refine⟨h.ref,by show(y.1.set _ _).length=_;rw[zK];exact h.len,fun c l=> ?_,fun c l q=> ?_⟩;show BT.qm (nth (y.1.set b.toNat (nth y.1 b.toNat+2^p.toNat)) c);rw[L.gz g]
 split
 rw[a];exact BT.bor_set o j;exact h.set c l;show BT.has (nth (y.1.set b.toNat (nth y.1 b.toNat+2^p.toNat)) c) q=true↔_/\(c:Int)∈nth (x.1.set p.toNat (nth x.1 p.toNat++[b])) q;rw[L.gz g,L.gz n];by_cases f:b.toNat=c;rw[je f,a,BT.has_bor o j,BT.Cj,zt,decide_eq_true_iff,h.bit _ (by omega),<-f,r];by_cases e:p.toNat=q;rw[je e];refine⟨fun _=>⟨by omega,by simp⟩,fun _=> .inr e⟩;rw[jd e];exact⟨fun h=>h.elim id (fun h=>absurd h e),.inl⟩;rw[jd f,h.bit c l];by_cases e:p.toNat=q;rw[je e,jr,<-e];refine and_congr_right fun _=>⟨.inl,fun h=>h.elim id (fun h=> ?_)⟩
 simp at h;omega;rw[jd e]
theorem jaF (d:DyD):F6 d (yR (NE d) (vL d) 0) (List.replicate (wm d).length 0,[]):=by
 have c:∀b,b<(wm d).length->nth (List.replicate (wm d).length (0:Int)) b=0:=fun b a=>L.bN a
 refine⟨rfl,jW,fun b a=> ?_,fun b a p=> ?_⟩;show BT.qm (nth (List.replicate (wm d).length (0:Int)) b);rw[c b a];exact BT.Ff;show BT.has (nth (List.replicate (wm d).length (0:Int)) b) p=true↔_/\(b:Int)∈nth (jet d) p;rw[c b a,BT.uL];have f:jea (jet d):=fun x g=>(List.mem_replicate.1 g).2
 have e:nth (jet d) p=[]:=RY f p;rw[e];simp
def X0 (d:DyD) (i:Nat):List Int×List Int:=(((vL d).take i).filter (Zm d)).foldl (cM d) (List.replicate (wm d).length 0,[])
attribute [local irreducible] yR gI QT U.on X0 vL Zm NE yN in
theorem jaG {d:DyD} (h:qo d=0) {i:Nat} (hi:i<(vL d).length) (ih:F6 d (yR (NE d) (vL d) i) (X0 d i)) (_:eg (NE d) (vL d) i (yR (NE d) (vL d) i)) (hrd:U.rd (NE d)=d) (hml:nU (NE d)=yN d (wm d).length)
 (hx:(yR (NE d) (vL d) i).1.length=(wj (ww d)).length) (hdec:Zm d=yM (vz (vL d) (vL d).length)) (hft:X0 d (i+1)=if Zm d (nth (vL d) i)=true then cM d (X0 d i) (nth (vL d) i) else X0 d i)
 (hnew:Zm d (nth (vL d) i)=true->(nth (yR (NE d) (vL d) i).1 (aL (nth (vL d) i)).toNat++[mo (nth (vL d) i)]).Nodup/\∀b∈nth (yR (NE d) (vL d) i).1 (aL (nth (vL d) i)).toNat++[mo (nth (vL d) i)],aM d b):
 F6 d (yR (NE d) (vL d) (i+1)) (X0 d (i+1)):=by
 have hD:=(gX h).1
 have h8:(wj (ww d)).length<=8:=(qe hD.1).2.2.1
 have hsf:=oq hD.2.2 (lr.1 (L.wh (l:=vL d) (i:=i) hi))
 rw[hft]
 cases hc:Zm d (nth (vL d) i) with
 |false=>
  rw[hdec] at hc
  rw[RZ hi hc,jd (by simp)]
  exact ih
 |true=>
  have hn:=hnew hc
  have hcan:=je7 hD ih (p:=aL (nth (vL d) i)) (b:=mo (nth (vL d) i)) hsf.1 hn.1 hn.2
  rw[hdec] at hc
  rw[je rfl]
  unfold cM
  cases hk:gI d (aL (nth (vL d) i)) (U.on (X0 d i).1 (aL (nth (vL d) i))++[mo (nth (vL d) i)]) with
  |true=>
   rw[hk] at hcan
   rw[Xt hi hc (by rw[hrd,hml];exact hcan),je rfl]
   refine je8 ih hx h8 hsf.1 hsf.2 (fun hin=> ?_)
   exact(zI.1 hn.1).2.2 _ hin _ (by simp) rfl
  |false=>
   rw[hk] at hcan
   rw[jbU hi hc (by rw[hrd,hml];exact hcan),jd (by simp)]
   exact⟨jD (·++[gM (nth (vL d) i)]) ih.ref,ih.len,ih.set,ih.bit⟩
theorem X1 {d:DyD} (h:qo d=0):∀i,i<=(vL d).length->F6 d (yR (NE d) (vL d) i) (X0 d i)
 |0,_=>jaF d
 |i+1,hi=>by
  have k:=X1 h i (by omega)
  obtain⟨⟨_,m⟩,⟨j,b⟩,c⟩:=Xx h
  have f:=(gX h).1
  have a:=Pk (r:=NE d) (l:=vL d) f.2.2 (fun s e=>lr.1 e) (fX d) j b c i (by omega)
  refine jaG h hi k a rfl rfl a.1 rfl ?_ fun g=> ?_
  unfold X0
  rw[L.filter_take (p:=Zm d) (l:=vL d) (i:=i) hi,jO]
  split<;>rfl
  have:=Xq (r:=NE d) (l:=vL d) f.2.2 (fun s e=>lr.1 e) (fX d) hi a g
  exact⟨this.1,this.2.1⟩
theorem jaH {d:DyD} (h:qo d=0):X0 d (vL d).length=Ki d:=by
 unfold X0 Ki wZ;rw[zC,zC,je5 h]
theorem En {d:DyD} (h:qo d=0):F6 d (cf (Vv d),(yR (NE d) (vL d) (vL d).length).2) (Ki d):=by
 have:=X1 h _ (jj _);rw[jaH h] at this;exact⟨this.ref,this.len,this.set,this.bit⟩
theorem R9 (on:List (List Int)) (b:Int):∀n,n<=60->BT.qm (bG on b n)/\∀q,BT.has (bG on b n) q=true↔q<n/\b∈nth on q
 |0,_=>⟨BT.Ff,fun q=>by
  have:bG on b 0=0:=rfl
  rw[this,BT.uL];simp⟩
 |n+1,m=>by
  obtain⟨f,i⟩:=R9 on b n (by omega)
  have g:=BT.lC (k:=n) (by omega)
  have a:(nth on n).any (fun x=>decide (x=b))=true↔b∈nth on n:=by
   rw[zc];exact⟨fun⟨x,l,e⟩=>(ja e)▸l,fun j=>⟨b,j,jG rfl⟩⟩
  rw[D9]
  split
  rename_i c;have c:=a.1 c;rw[nB];refine⟨BT.bor_set f g,fun q=> ?_⟩;rw[BT.has_bor f g,BT.Cj,zt,decide_eq_true_iff,i];refine⟨fun h=>h.elim (fun h=>⟨by omega,h.2⟩) (fun h=>by subst h;exact⟨by omega,c⟩),fun h=> ?_⟩;by_cases d:q=n;exact .inr d.symm;exact .inl ⟨by omega,h.2⟩;rename_i c;refine⟨f,fun q=> ?_⟩;rw[i];refine⟨fun h=>⟨by omega,h.2⟩,fun h=>⟨?_,h.2⟩⟩;by_cases d:q=n;subst d;exact absurd (a.2 h.2) c;omega
theorem X2 {d:DyD} (h:qo d=0) {b:Nat} (a:b<(wm d).length):eN (cf (Vv d)) (b:Int)=nth (Ki d).1 b:=by
 have f:=En h;have c:=Xy h;have g:=R9 (cf (Vv d)) (b:Int) (cf (Vv d)).length c.len60;refine BT.ext g.1 (f.set b a) fun p=>j7.2 ?_
 have e:=(g.2 p).trans (f.bit b a p|>.trans (by rw[<-c.len])).symm;exact e
theorem je9 {d:DyD} (h:qo d=0):aY d (wm d).length=(Ki d).1:=by
 have b:=En h;have a:(aY d (wm d).length).length=(wm d).length:=(by unfold aY;simp);refine L.ext_nth (by rw[a];exact b.len.symm) fun i hi=> ?_
 rw[a] at hi;unfold aY;rw[L.nth_map (by simpa using hi)];have:nth (List.range (wm d).length) i=i:=(by rw[L.qy (by simpa using hi)];simp);rw[this];exact X2 h hi
theorem X3 (d:DyD):dJ d=if aA d=0 then(Ki d).1 else[]:=by
 unfold dJ;rw[de]
 split
 rename_i h;exact je9 ((de d).trans h);rfl
end Go.X
namespace Go.X
open U
open Go.Proofs
theorem Ul (l:List ShD) (n:Nat):wz l (n+1)=wz l n++(if yu l n l.length=true then[nth l n] else[]):=by
 unfold wz;rw[L.yt,zn];by_cases h:yu l n l.length=true;rw[je h,je h];rfl;rw[jd h,jd h];rfl
theorem Mu (l:List ShD) (n:Nat):(wz l n).length<=n:=by
 unfold wz;rw[zf];exact jF (zA _ _) (by simp)
theorem P3 {l:List ShD} {i k:Nat} (h:k<l.length):yu l i (k+1)=(yu l i k&& !(decide (mo (nth l k)=mo (nth l i))&&decide (aL (nth l k)=aL (nth l i))&&vl (nth l k) (nth l i))):=by
 unfold yu;rw[L.wQ h,kW];generalize (l.take k).any _=a;generalize decide (Zb (nth l i)=1)=b;simp only[List.any_cons,List.any_nil,kS];generalize (decide (mo (nth l k)=mo (nth l i))&&decide (aL (nth l k)=aL (nth l i))&&vl (nth l k) (nth l i))=c;cases a<;>cases b<;>cases c<;>rfl
theorem Um (l:List ShD):wz l 0=[]:=rfl
theorem Mv (l:List ShD):wi l 0=([],l):=rfl
theorem Un (l:List ShD):wY l 0=0:=rfl
theorem Uo (l:List ShD) (n:Nat):(wi l (n+1)).1=(wi l n).1++[nth (wi l n).2 (wY (wi l n).2 (wi l n).2.length)]:=rfl
theorem Up (l:List ShD) (n:Nat):(wi l (n+1)).2=(wi l n).2.take (wY (wi l n).2 (wi l n).2.length)++(wi l n).2.drop (wY (wi l n).2 (wi l n).2.length+1):=rfl
theorem jaI {α:Type} (l:List α) (m:Nat):[]++List.take (((m:Int)).toNat-Int.toNat 0) (List.drop (Int.toNat 0) l)++List.take (((l.length:Int)).toNat-((m:Int)+1).toNat) (List.drop ((m:Int)+1).toNat l)=l.take m++l.drop (m+1):=by
 have a:((m:Int)+1).toNat=m+1:=(by omega);have e2:Int.toNat 0=0:=rfl;rw[a,e2,jw,jw,List.drop_zero,kz,j0,zw (l:=List.drop (m+1) l) (by rw[zH];omega)]
theorem jdx (d:DyD):wz (wg (qi d)) (wg (qi d)).length=dr d:=rfl
theorem jdy (d:DyD):(wi (dr d) (dr d).length).1=vo d:=rfl
attribute [local irreducible] wi wY wz wg dr vo yu
theorem P4 (d:DyD) (W:List ShD) (r:W.length<=100000) (l:(wi W W.length).1=vo d):
 (∃x:Nat,((True/\True/\True)/\W=(wi W x).2/\(wi W x).1=[]/\True)/\x<=W.length)/\∀n:Nat,n<=W.length->(wi W n).2.length<4611686018427387904->
  (decide ((0:Int)<(wi W n).2.length)=true->(∃x:Nat,(((0:Int)=(x:Int)/\(0:Int)=(wY (wi W n).2 x:Int)/\True)/\True)/\x<=(wi W n).2.length)/\∀i:Nat,i<=(wi W n).2.length->(wi W n).2.length<4611686018427387904->
   (decide ((i:Int)<(wi W n).2.length)=true->(0:Int)<=(wY (wi W n).2 i:Int)/\(wY (wi W n).2 i:Int)<(wi W n).2.length/\(0:Int)<=(i:Int)/\(i:Int)<(wi W n).2.length/\
    (vl (nth (wi W n).2 ((wY (wi W n).2 i:Int)).toNat) (nth (wi W n).2 ((i:Int)).toNat)=true->wl ((i:Int)+1)/\∃a:Nat,(((i:Int)+1=(a:Int)/\(i:Int)=(wY (wi W n).2 a:Int)/\True)/\True)/\a<=(wi W n).2.length/\(wi W n).2.length-a<(wi W n).2.length-i)/\
    (vl (nth (wi W n).2 ((wY (wi W n).2 i:Int)).toNat) (nth (wi W n).2 ((i:Int)).toNat)=false->wl ((i:Int)+1)/\∃a:Nat,(((wY (wi W n).2 i:Int)=(wY (wi W n).2 a:Int)/\(i:Int)+1=(a:Int)/\True)/\True)/\a<=(wi W n).2.length/\(wi W n).2.length-a<(wi W n).2.length-i))/\
   (decide ((i:Int)<(wi W n).2.length)=false->(0:Int)<=(wY (wi W n).2 i:Int)/\(wY (wi W n).2 i:Int)<(wi W n).2.length/\
    ((wi W n).1.length+[nth (wi W n).2 ((wY (wi W n).2 i:Int)).toNat].length)*40<=140737488355328/\(0:Int)<=0/\(0:Int)<=(wY (wi W n).2 i:Int)/\(wY (wi W n).2 i:Int)<=(wi W n).2.length/\
    (0+(List.take (((wY (wi W n).2 i:Int)).toNat-Int.toNat 0) (List.drop (Int.toNat 0) (wi W n).2)).length)*40<=140737488355328/\wl ((wY (wi W n).2 i:Int)+1)/\(0:Int)<=(wY (wi W n).2 i:Int)+1/\
    (wY (wi W n).2 i:Int)+1<=((wi W n).2.length:Int)/\((wi W n).2.length:Int)<=(wi W n).2.length/\
    (([]++List.take (((wY (wi W n).2 i:Int)).toNat-Int.toNat 0) (List.drop (Int.toNat 0) (wi W n).2)).length+(List.take ((((wi W n).2.length:Int)).toNat-((wY (wi W n).2 i:Int)+1).toNat) (List.drop ((wY (wi W n).2 i:Int)+1).toNat (wi W n).2)).length)*40<=140737488355328/\
    ∃a:Nat,((True/\True/\True)/\[]++List.take (((wY (wi W n).2 i:Int)).toNat-Int.toNat 0) (List.drop (Int.toNat 0) (wi W n).2)++List.take ((((wi W n).2.length:Int)).toNat-((wY (wi W n).2 i:Int)+1).toNat) (List.drop ((wY (wi W n).2 i:Int)+1).toNat (wi W n).2)=(wi W a).2/\
     (wi W n).1++[nth (wi W n).2 ((wY (wi W n).2 i:Int)).toNat]=(wi W a).1/\True)/\a<=W.length/\W.length-a<W.length-n))/\
  (decide ((0:Int)<(wi W n).2.length)=false->((wi W n).1,())=(vo d,())):=by
 refine⟨⟨0,⟨⟨tZ,tZ,tZ⟩,by rw[Mv],by rw[Mv],tZ⟩,jl _⟩,fun n o _=> ?_⟩;obtain⟨t,u⟩:=ow W n o;have s:∀i,wY (wi W n).2 i+0=wY (wi W n).2 i:=fun _=>rfl
 refine⟨fun b=>⟨⟨0,⟨⟨rfl,by rw[Un];rfl,tZ⟩,tZ⟩,jl _⟩,fun i hi _=>⟨fun e=> ?_,fun e=> ?_⟩⟩,fun b=> ?_⟩;have b:(0:Int)<(wi W n).2.length:=ja b;have e:(i:Int)<(wi W n).2.length:=ja e;have m:=ou (wi W n).2 i hi (by omega);have j:=xJ (wi W n).2 i;have up:i+1<=(wi W n).2.length:=(by omega);have h:(wi W n).2.length-(i+1)<(wi W n).2.length-i:=(by omega);refine⟨jU _,by omega,jU _,e,fun c=>⟨iZ6,i+1,⟨⟨by simp,?_,tZ⟩,tZ⟩,up,h⟩,fun c=>⟨iZ6,i+1,⟨⟨?_,by simp,tZ⟩,tZ⟩,up,h⟩⟩;have c:vl (nth (wi W n).2 (wY (wi W n).2 i)) (nth (wi W n).2 i)=true:=c;rw[j,je c];have c:vl (nth (wi W n).2 (wY (wi W n).2 i)) (nth (wi W n).2 i)=false:=c;rw[j,jd (by rw[c];simp)];have b:(0:Int)<(wi W n).2.length:=ja b;have e:¬(i:Int)<(wi W n).2.length:=jc e;have f:i=(wi W n).2.length:=(by omega);subst f;have m:=ou (wi W n).2 _ (jj _) (by omega);have k:=jaI (wi W n).2 (wY (wi W n).2 (wi W n).2.length);have p:=Uo W n;have q:=Up W n;refine⟨jU _,by omega,by show((wi W n).1.length+1)*40<=140737488355328;omega,zO 0,jU _,by omega,?_,iZ6,by omega,by omega,zO _,?_,n+1,⟨⟨tZ,tZ,tZ⟩,?_,?_,tZ⟩,by omega,by omega⟩;rw[jZ,zH];omega;rw[j0,jZ,jZ,zH,zH];omega;rw[q];exact k;rw[p];rfl;have b:¬(0:Int)<(wi W n).2.length:=jc b;have g:n=W.length:=(by omega);subst g;rw[l]
theorem P5:Mq:=by
 unfold Mq jho jg3 jgV jhT jj3 jlA jhs jlz jiS jgQ Prod.q4;rintro⟨d,⟨⟩⟩ j;have j:(qi d).length<=1000:=j;have f:(wg (qi d)).length<=100000:=jF (by unfold wg;exact ot _ 100) (by omega);refine⟨j,⟨0,⟨⟨rfl,tZ,tZ⟩,Um _,tZ⟩,jl _⟩,fun x o _=>⟨fun h=> ?_,fun h=> ?_⟩⟩;have h:(x:Int)<(wg (qi d)).length:=ja h;have x0:(0:Int)<=(x:Int):=jU x;refine⟨x0,h,⟨0,⟨⟨rfl,?_,tZ⟩,tZ⟩,jl _⟩,fun k hk _=>⟨fun b=> ?_,fun b=> ?_⟩⟩;show decide (Zb (nth (wg (qi d)) x)=1)=yu (wg (qi d)) x 0;unfold yu;simp;have b:(k:Int)<(wg (qi d)).length:=ja b;have n:(0:Int)<=(k:Int):=jU k;have e:=P3 (l:=wg (qi d)) (i:=x) (k:=k) (by omega);have up:k+1<=(wg (qi d)).length:=(by omega);have c:(wg (qi d)).length-(k+1)<(wg (qi d)).length-k:=(by omega);have i64:wl ((k:Int)+1):=iZ6;refine⟨n,b,x0,h,fun _=>n,fun _=>b,fun _=>x0,fun _=>h,fun _=>n,fun _=>b,fun _=>x0,fun _=>h,fun a=>⟨i64,k+1,⟨⟨by simp,?_,tZ⟩,tZ⟩,up,c⟩,fun a=>⟨i64,k+1,⟨⟨?_,by simp,tZ⟩,tZ⟩,up,c⟩⟩;have a:(decide (mo (nth (wg (qi d)) k)=mo (nth (wg (qi d)) x))&&decide (aL (nth (wg (qi d)) k)=aL (nth (wg (qi d)) x))&&vl (nth (wg (qi d)) k) (nth (wg (qi d)) x))=true:=a;show false=yu (wg (qi d)) x (k+1);rw[e,a];simp;have a:(decide (mo (nth (wg (qi d)) k)=mo (nth (wg (qi d)) x))&&decide (aL (nth (wg (qi d)) k)=aL (nth (wg (qi d)) x))&&vl (nth (wg (qi d)) k) (nth (wg (qi d)) x))=false:=a;show yu (wg (qi d)) x k=yu (wg (qi d)) x (k+1);rw[e,a];simp;have b:¬(k:Int)<(wg (qi d)).length:=jc b;have hk:k<=(wg (qi d)).length:=hk;have g:k=(wg (qi d)).length:=(by omega);subst g;have e:=Ul (wg (qi d)) x;have p:=Mu (wg (qi d)) x;have up:x+1<=(wg (qi d)).length:=(by omega);have c:(wg (qi d)).length-(x+1)<(wg (qi d)).length-x:=(by omega);have i64:wl ((x:Int)+1):=iZ6;refine⟨fun a=>⟨x0,h,by show((wz (wg (qi d)) x).length+1)*40<=140737488355328;omega,i64,x+1,⟨⟨by simp,tZ,tZ⟩,?_,tZ⟩,up,c⟩,fun a=>⟨i64,x+1,⟨⟨tZ,by simp,tZ⟩,?_,tZ⟩,up,c⟩⟩;have a:yu (wg (qi d)) x (wg (qi d)).length=true:=a;show wz (wg (qi d)) x++[nth (wg (qi d)) x]=wz (wg (qi d)) (x+1);rw[e,je a];have a:yu (wg (qi d)) x (wg (qi d)).length=false:=a;show wz (wg (qi d)) x=wz (wg (qi d)) (x+1);rw[e,jd (by rw[a];simp),j6];have h:¬(x:Int)<(wg (qi d)).length:=jc h;have o:x<=(wg (qi d)).length:=o;have m:x=(wg (qi d)).length:=(by omega);subst m;refine P4 d (wz (wg (qi d)) (wg (qi d)).length) (jF (Mu _ _) f) ?_;rw[jdx];exact jdy d
theorem Mw:w9 PR 109 Mo:=vb Mp P5 Tryz.func109 (kcC F4 (kcC PO kcN)) koN
theorem P6:w9 PR 78 PW:=vb PX Ui Tryz.func78 (kcC Mw (kcC PQ kcN)) (koC P1 koN)
theorem P7:w9 PR 48 PZ:=wT Uh Tryz.func48 (kcC rZ (kcC P6 kcN)) koN
end Go.X
namespace Go.X
open U
open Go.Proofs
namespace U
def jgw (d:DyD) (t:List Int) (b:Nat):Bool:=Fa (ww d) (gg (nth (wm d) b)) (nth t b)
def jcd (d:DyD) (t:List Int) (n:Nat):List Int:=((List.range n).filter (jgw d t)).map (fun(b:Nat)=>(b:Int))
def jgx (d:DyD):List Int:=if aA d=0 then jcd d (sr d) (sr d).length else[]
end U
theorem jdz {d:DyD} (h:aA d=0):(Ki d).1.length=(wm d).length:=(En ((de d).trans h)).len
theorem X4 {d:DyD} (h:aA d=0) {b:Nat} (a:b<(wm d).length):Zf (nth (Ki d).1 b):=by
 have c:=En ((de d).trans h);have i:(wj (ww d)).length<=8:=(qe (HC h).1).2.2.1;have e:=c.set b a;have f:=BT.lt_of_has (k:=8) e (fun p g=>by have:=((c.bit b a p).1 g).1;omega);exact⟨e.1,f⟩
theorem Sa {d:DyD} (h:aA d=0):sr d=(Ki d).1:=je h
theorem Jj {d:DyD} (h:aA d=0):(sr d).length=(wm d).length:=by rw[Sa h];exact jdz h
section
attribute [local irreducible] Ki aA
end
section
attribute [local irreducible] jcd sr aA Fa
end
section
attribute [local irreducible] gI U.on w7 GB
end
section
attribute [local irreducible] sr aA w7
end
end Go.X
namespace Go.X
open U
open Go.Proofs
section
attribute [local irreducible] sr aA Fa Zf
end
end Go.X
namespace Go.X
open U
open Go.Proofs
theorem Eo (n m:Nat):n|||m=0↔n=0/\m=0:=by
 constructor;intro h;constructor;refine kg fun i=> ?_
 have:=jD (fun z=>Nat.testBit z i) h;simp only[k8,Nat.zero_testBit,jT] at this;rw[this.1,Nat.zero_testBit];refine kg fun i=> ?_
 have:=jD (fun z=>Nat.testBit z i) h;simp only[k8,Nat.zero_testBit,jT] at this;rw[this.2,Nat.zero_testBit];rintro⟨rfl,rfl⟩;rfl
theorem Sb {a b:Int} (c:0<=a/\a<64) (d:0<=b/\b<64):uor a b=0↔a=0/\b=0:=by
 obtain⟨n,rfl⟩:∃n:Nat,a=(n:Int):=⟨a.toNat,by omega⟩;obtain⟨m,rfl⟩:∃m:Nat,b=(m:Int):=⟨b.toNat,by omega⟩;rw[BT.uor_nat (by omega) (by omega)];have:=Eo n m;omega
theorem jaJ {a b:Int} (c:0<=a/\a<64) (d:0<=b/\b<64):bor a b=0↔a=0/\b=0:=by
 obtain⟨n,rfl⟩:∃n:Nat,a=(n:Int):=⟨a.toNat,by omega⟩;obtain⟨m,rfl⟩:∃m:Nat,b=(m:Int):=⟨b.toNat,by omega⟩;rw[BT.bor_nat (by omega) (by omega)];have:=Eo n m;omega
theorem jaK {a b:Int} (c:0<=a/\a<64) (d:0<=b/\b<64):0<=bor a b/\bor a b<64:=by
 obtain⟨n,rfl⟩:∃n:Nat,a=(n:Int):=⟨a.toNat,by omega⟩;obtain⟨m,rfl⟩:∃m:Nat,b=(m:Int):=⟨b.toNat,by omega⟩;rw[BT.bor_nat (by omega) (by omega)];have:n|||m<2^6:=kw (by omega) (by omega);omega
theorem Ep {b:Bool} {o k:Int} (h:0<=o/\o<64) (hk:0<k/\k<64):GA b o k=0↔b=false/\o=0:=by
 unfold GA;cases b with
 |false=>rw[jd (by simp)];simp
 |true=>
  rw[je rfl,Sb h ⟨by omega,by omega⟩];refine⟨fun h=>absurd h.2 (by omega),fun h=>absurd h.1 (by simp)⟩
theorem oy {b:Bool} {o k:Int} (h:0<=o/\o<64) (hk:0<k/\k<64):SA b o k=0↔b=false/\o=0:=by
 unfold SA;cases b with
 |false=>rw[jd (by simp)];simp
 |true=>
  rw[je rfl,jaJ h ⟨by omega,by omega⟩];refine⟨fun h=>absurd h.2 (by omega),fun h=>absurd h.1 (by simp)⟩
theorem Mx {b:Bool} {o k:Int} (h:0<=o/\o<64) (hk:0<k/\k<64):0<=SA b o k/\SA b o k<64:=by
 unfold SA
 split
 exact jaK h ⟨by omega,hk.2⟩;exact h
theorem My (t:TkD):∀(q:List (Int×PeD×Unit)) (o:Int),(0<=o/\o<64)->(dI t o q=0↔o=0/\∀x∈q,yL t x.2.1=0)
 |[],o,_=>by
  show o=0↔_
  simp
 |x::q,o,h=>by
  have b:=DP t x.2.1
  have a:=My t q (uor o (yL t x.2.1)) (W9 h ⟨by omega,by omega⟩)
  show dI t (uor o (yL t x.2.1)) q=0↔_
  rw[a,Sb h ⟨by omega,by omega⟩]
  simp only[jk,forall_eq_or_imp,and_assoc]
theorem jaL {t:Int} (h:BT.qm t) (p:Int):uF t p=BT.has t p.toNat:=BT.has_ushr h p.toNat
theorem jbZ {t:Int} (h:BT.qm t) (p:Int):uF t p=w7 t p:=(jaL h p).trans (Cd h p).symm
theorem oz {t:TkD} {s:Int} (b:BT.qm s) {x:Int×PeD×Unit}:x∈AD t s↔∃i:Nat,i<(wj (U.tc t)).length/\w7 s (i:Int)=true/\x=((i:Int),nth (wj (U.tc t)) i,()):=by
 unfold AD gJ;rw[jS];refine⟨fun⟨i,hi,e⟩=> ?_,fun⟨i,c,a,e⟩=>⟨i,jP.2 ⟨jE.2 c,?_⟩,e.symm⟩⟩;have hi:=jP.1 hi;have a:uF s (i:Int)=true:=hi.2;exact⟨i,jE.1 hi.1,(jbZ b _)▸a,e.symm⟩;show uF s (i:Int)=true;rw[jbZ b];exact a
theorem xK (c:CrD) (j:JbD) (t:Int):∀n,(0<=(qE c j t n).1/\(qE c j t n).1<64)/\((qE c j t n).1=0↔∀i:Nat,i<n->w7 t (i:Int)=true->qP c j (i:Int)=true)/\
 ((qE c j t n).2=true↔∃i:Nat,i<n/\w7 t (i:Int)=true/\jd6 (nth (wj c) i)=true)
 |0=>⟨by show(0:Int)<=0/\(0:Int)<64;omega,⟨fun _ i h=>absurd h (by omega),fun _=>rfl⟩,⟨fun h=>(by cases h),fun⟨i,h,_⟩=>absurd h (by omega)⟩⟩
 |n+1=>by
  obtain⟨l,o,p⟩:=xK c j t n
  cases g:w7 t (n:Int) with
  |false=>
   rw[Mg g]
   refine⟨l,o.trans ⟨fun h i hi a=> ?_,fun h i hi=>h i (by omega)⟩,p.trans ⟨fun⟨i,hi,a⟩=>⟨i,by omega,a⟩,fun⟨i,hi,d,f⟩=>⟨i,?_,d,f⟩⟩⟩
   by_cases e:i=n
   subst e;rw[g] at a;cases a
   exact h i (by omega) a
   by_cases e:i=n
   subst e;rw[g] at d;cases d
   omega
  |true=>
   have e:qE c j t (n+1)=(SA (!w7 (U.cl (nth (wj c) n)) (ct j)) (SA (!w7 (U.fd (nth (wj c) n)) (QR j)) (SA (dm (nth (wj c) n) (Zn j)) (qE c j t n).1 1) 2) 4,(qE c j t n).2||jd6 (nth (wj c) n)):=by
    rw[Ed];unfold QU;rw[je g]
   rw[e];have o1:=Mx (b:=dm (nth (wj c) n) (Zn j)) (k:=1) l (by omega);have o2:=Mx (b:= !w7 (U.fd (nth (wj c) n)) (QR j)) (k:=2) o1 (by omega);have s:=Mx (b:= !w7 (U.cl (nth (wj c) n)) (ct j)) (k:=4) o2 (by omega);refine⟨s,?_,?_⟩;show SA _ _ 4=0↔_;rw[oy o2 (by omega),oy o1 (by omega),oy l (by omega),o];have m:qP c j (n:Int)=(!(dm (nth (wj c) n) (Zn j))&&w7 (U.fd (nth (wj c) n)) (QR j)&&w7 (U.cl (nth (wj c) n)) (ct j)):=by
    unfold qP;rw[jw]
   refine⟨fun⟨d,f,q,r⟩ i hi a=> ?_,fun h=> ?_⟩;by_cases e:i=n;subst e;rw[m];simp only[zq] at d f;rw[d,f,q];rfl;exact r i (by omega) a;have:=h n (by omega) g;rw[m,ji,ji,jX] at this;exact⟨by rw[this.2];rfl,by rw[this.1.2];rfl,this.1.1,fun i hi=>h i (by omega)⟩;show((qE c j t n).2||jd6 (nth (wj c) n))=true↔_;rw[zt,p];refine⟨fun h=>h.elim (fun⟨i,hi,a⟩=>⟨i,by omega,a⟩) (fun h=>⟨n,by omega,g,h⟩),fun⟨i,hi,d,f⟩=> ?_⟩;by_cases e:i=n;subst e;exact .inr f;exact .inl ⟨i,by omega,d,f⟩
theorem jaM {c:CrD} {j:JbD} {t:Int} (d:BT.qm t) (a b:Nat):NC (c,j,dH c j,()) t a b=U.J3 c t (Vt (dH c j)) a b:=by
 unfold NC U.J3 nS lP;refine j7.2 ?_;rw[zc,zc];refine⟨fun⟨x,g,h⟩=> ?_,fun⟨i,hi,h⟩=> ?_⟩;obtain⟨i,e,f,rfl⟩:=(oz d).1 g;refine⟨i,jE.2 e,?_⟩;have h:Vt (dH c j)<=min (nth (U.lv (nth (wj c) i)) ((a:Int)).toNat) (nth (U.lv (nth (wj c) i)) ((b:Int)).toNat):=ja h;rw[f,jG (by omega:Vt (dH c j)<=nth (U.lv (nth (wj c) i)) ((a:Int)).toNat),jG (by omega:Vt (dH c j)<=nth (U.lv (nth (wj c) i)) ((b:Int)).toNat)];rfl;rw[ji,ji,decide_eq_true_iff,decide_eq_true_iff] at h;refine⟨((i:Int),nth (wj c) i,()),(oz d).2 ⟨i,jE.1 hi,h.1.1,rfl⟩,?_⟩;exact jG (show Vt (dH c j)<=min (nth (U.lv (nth (wj c) i)) ((a:Int)).toNat) (nth (U.lv (nth (wj c) i)) ((b:Int)).toNat) by have:=h.1.2;have:=h.2;omega)
theorem jdA (c:CrD) (t lev:Int) (a b:Nat):U.J3 c t lev a b=U.J3 c t lev b a:=by
 unfold U.J3 lP;refine j7.2 ?_;rw[zc,zc];constructor<;>
 .rintro⟨i,hi,h⟩;refine⟨i,hi,?_⟩;rw[ji,ji] at h⊢;exact⟨⟨h.1.1,h.2⟩,h.1.2⟩
theorem jfa {c:CrD} {j:JbD} {t:Int} (_:wy c=true) (d:ql c j=true) (f:BT.qm t):nth (lB (c,j,dH c j,()) t) (NB j).toNat<0↔nth (nV c t (Vt (dH c j)) (NB j)) (HT j).toNat<0:=by
 have h:=na d;have e:NC (c,j,dH c j,()) t=U.J3 c t (Vt (dH c j)):=(by funext a b;exact jaM f a b);show nth (jfv (NC (c,j,dH c j,()) t) (U.la c).toNat (HT j).toNat) (NB j).toNat<0↔nth (qT (U.J3 c t (Vt (dH c j))) (U.la c).toNat (NB j).toNat (U.la c).toNat) (HT j).toNat<0;rw[e];exact(jc8 (jdA c t _) (by omega) (by omega)).symm
theorem X5 {c:CrD} {j:JbD} {t:Int} (a:BT.qm t):(∀x∈AD (c,j,dH c j,()) t,yL (c,j,dH c j,()) x.2.1=0)↔∀i:Nat,i<(wj c).length->w7 t (i:Int)=true->qP c j (i:Int)=true:=by
 refine⟨fun h i hi e=>(ox c j i).1 (h ((i:Int),nth (wj c) i,()) ((oz a).2 ⟨i,hi,e,rfl⟩)),fun h x f=> ?_⟩;obtain⟨i,b,d,rfl⟩:=(oz a).1 f;exact(ox c j i).2 (h i b d)
theorem jaN {c:CrD} {j:JbD} {t:Int} (d:BT.qm t):io (AD (c,j,dH c j,()) t)=jgh c j t:=by
 refine j7.2 ?_;unfold jgh;rw[(xK c j t (wj c).length).2.2];unfold io;rw[zc];refine⟨fun⟨x,f,h⟩=> ?_,fun⟨i,a,b,e⟩=>⟨((i:Int),nth (wj c) i,()),(oz d).2 ⟨i,a,b,rfl⟩,e⟩⟩;obtain⟨i,a,b,rfl⟩:=(oz d).1 f;exact⟨i,a,b,h⟩
theorem P8 {c:CrD} {j:JbD} {t:Int} (n:wy c=true) (o:ql c j=true) (a:BT.qm t):yh (c,j,dH c j,()) t=0↔Vl c j t=0:=by
 have f:=xK c j t (wj c).length;have g:=OW (c,j,dH c j,()) (AD (c,j,dH c j,()) t) 0 (by omega);have i:=DQ (b:=decide (BT.size t≠max (jbp j) (jd7 (dH c j)))) (k:=8) g (by omega);have q:=DQ (b:=(jfM (dH c j)&& !io (AD (c,j,dH c j,()) t))) (k:=16) i (by omega);have d:0<=jgg c j t/\jgg c j t<64:=f.1;have e:=Mx (b:=decide (BT.size t≠max (jbp j) (jd7 (dH c j)))) (k:=8) d (by omega);have l:=Mx (b:=(jfM (dH c j)&& !jgh c j t)) (k:=16) e (by omega);have m:yh (c,j,dH c j,()) t=GA (decide (nth (lB (c,j,dH c j,()) t) (NB j).toNat<0)) (GA (jfM (dH c j)&& !io (AD (c,j,dH c j,()) t)) (GA (decide (BT.size t≠max (jbp j) (jd7 (dH c j)))) (dI (c,j,dH c j,()) 0 (AD (c,j,dH c j,()) t)) 8) 16) 32:=rfl;have p:jgg c j t=0↔dI (c,j,dH c j,()) 0 (AD (c,j,dH c j,()) t)=0:=by
  rw[My _ _ _ (by omega),X5 a];exact f.2.1.trans ⟨fun h=>⟨rfl,h⟩,fun h=>h.2⟩
 rw[m,Ep q (by omega),Ep i (by omega),Ep g (by omega)];unfold Vl;rw[oy l (by omega),oy e (by omega),oy d (by omega),p,jaN a,jI,jI,jfa n o a,jI]
theorem jdB {d:DyD} (a:GB d) {b:Int} (k:aM d b) {t:Int} (e:0<=t) (n:t<2^(wj (ww d)).length):E9 d b t=Fa (ww d) (gg (U.bk d b)) t:=by
 unfold aM at k;have h:ql (ww d) (gg (U.bk d b))=true:=XQ a (b:=b.toNat) (by omega);have o:=(IX a.1).2;have m:BT.qm t:=(by unfold BT.qm;omega);have i:vV (ww d) (gg (U.bk d b))=0:=(by unfold vV;rw[a.1,h];rfl);have j:J8 (ww d) t=true:=by
  unfold J8 wa;rw[jG e,jG (by omega)];rfl
 have l:ce (ww d) (gg (U.bk d b)) t=0:=by
  unfold ce;rw[jd (by rw[i];simp),j,je rfl]
 have c:=P8 a.1 h m;unfold E9 Fa jes;rw[l,je rfl];refine j7.2 ?_;simp only[ji,decide_eq_true_iff,true_and];rw[c];constructor;rintro⟨f,g⟩;exact⟨by omega,f⟩;rintro⟨f,g⟩;exact⟨g,by omega⟩
theorem jb0 {d:DyD} (h:aA d=0) {b:Nat} (a:b<(wm d).length):0<=nth (Ki d).1 b/\nth (Ki d).1 b<2^(wj (ww d)).length:=by
 have c:=En ((de d).trans h);have e:=c.set b a;exact⟨e.1,BT.lt_of_has e (fun p f=>((c.bit b a p).1 f).1)⟩
theorem jdC (d:DyD):wb d=jgx d:=by
 unfold wb jgx;rw[de];by_cases h:aA d=0;rw[je h,je h,Jj h];unfold aK jcd;congr 1;refine List.filter_congr fun b a=> ?_
 have a:=jE.1 a;have hk:=(de d).trans h;have c:=jb0 h a;show E9 d (b:Int) (eN (cf (Vv d)) (b:Int))=Fa (ww d) (gg (nth (wm d) b)) (nth (sr d) b);rw[X2 hk a,Sa h,jdB (HC h) (by unfold aM;omega) c.1 c.2];rfl;rw[jd h,jd h]
end Go.X
