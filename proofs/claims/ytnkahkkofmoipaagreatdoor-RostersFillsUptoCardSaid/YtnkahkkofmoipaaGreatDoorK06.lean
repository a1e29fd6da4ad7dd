/-
  Part 6 of the road: a checked reading of bodies, and what the functions on it do (B4 P10 B5 P11 B6 P12 P13 B7 P14 B8 P15 C1 PC1 PC2 PC3 PC4 C2 PC5 PC6 PC7 PC8 C3 PC9 SL PC10 S1 S2 S3 PC11 C4 PC12).
-/
import Derived.Test.YtnkahkkofmoipaaGreatDoorK05
namespace Go.X
open Go.Proofs
abbrev tSt:Ty:= .st [.int,.int]
abbrev jGR:Sh:= .box 72 [.dat .int,.dat (.slice tPe),.dat (.slice tLw),.dat (.slice (.slice tSp)),.dat (.slice tBk),.dat .int,.dat .int,.dat (.slice tSh),.row 3 .int .yes,.row 33 (.slice .int) .no,.row 3 .int .unk]
namespace U
def kj:List Int:=[]
def zZ (b:jGR.D):RoD:=(((b.1,b.2.1,b.2.2.1,()),b.2.2.2.1,b.2.2.2.2.1,b.2.2.2.2.2.1,b.2.2.2.2.2.2.1,b.2.2.2.2.2.2.2.1,()),b.2.2.2.2.2.2.2.2.1,b.2.2.2.2.2.2.2.2.2.1,b.2.2.2.2.2.2.2.2.2.2.1,())
def wZ (b:jGR.D) (x:List (List Int)×List Int):jGR.D:=(b.1,b.2.1,b.2.2.1,b.2.2.2.1,b.2.2.2.2.1,b.2.2.2.2.2.1,b.2.2.2.2.2.2.1,b.2.2.2.2.2.2.2.1,b.2.2.2.2.2.2.2.2.1,x.1,x.2,())
def gT (s:ShD):Int×Int×Unit:=(jbU s,qo s,())
def zX (l:List ShD) (n:Nat):List ((Int×Int×Unit)×ShD):=(l.take n).foldl (fun m s=>jeJ tSt (gT s) s m) []
def kX (m:List ((Int×Int×Unit)×ShD)) (s:ShD):Bool:= !(!decide (wl (Ty.dflt tSh) (zW tSt (gT s) m)=s)|| !decide (jy6 s=1))
def jpz (d:DyD) (kI:List Int) (m:List ((Int×Int×Unit)×ShD)) (x:List (List Int)×List Int) (s:ShD):List (List Int)×List Int:=
 if kX m s=true then(if jun d kI (qo s) (nth x.1 (qo s).toNat++[jbU s])=true then(x.1.set (qo s).toNat (nth x.1 (qo s).toNat++[jbU s]),x.2) else(x.1,x.2++[wI s])) else x
def jHG (l:List ShD):List ShD:=je (jl tSh fun x=>(jF x.1 x.2.1,())) l
def ke (d:DyD):List ShD:=jHG (zj (zc d))
def kZ (r:RoD) (l:List ShD) (n:Nat):List (List Int)×List Int:=(l.take n).foldl (jpz (rd r) (ja3 r) (zX l l.length)) (jY r,jGS r)
def zk (r:RoD):List (List Int)×List Int:=((kZ r (ke (rd r)) (ke (rd r)).length).1,jfL (kZ r (ke (rd r)) (ke (rd r)).length).2)
def jEP (l:List (List Int)):Prop:=∀x∈l,x=kj
def jw3 (r:RoD):Prop:=(jU (rd r)=0/\(ja3 r).length=(ju (rd r)).length)/\((jY r).length=(jh (jc (rd r))).length/\jEP (jY r))/\jGS r=kj
def yR (r:RoD) (l:List ShD) (n:Nat) (x:List (List Int)×List Int):Prop:=x.1.length=(jh (jc (rd r))).length/\x.2.length<=n/\∀p:Nat,(nth x.1 p).Nodup/\∀b∈nth x.1 p,kr (rd r) b/\∃i:Nat,i<n/\gT (nth l i)=(b,(p:Int),())/\wl (Ty.dflt tSh) (zW tSt (gT (nth l i)) (zX l l.length))=nth l i
end U
def bx (σ:St) (o:Nat):List SV:=match σ.obj o with|some (.box _ _ cs)=>cs|_=>[]
def gb (t:Ty) (σ:St) (o:Nat):t.Data:=match wG σ t (bx σ o) with|some (x,_)=>x|none=>t.dflt
abbrev jlR:zQ:=jy4 3
def jg3:zQ:=⟨[.own jGR true],[],fun d=>[U.jw3 (U.zZ d.1)],fun d=>((),(U.wZ d.1 (U.zk (U.zZ d.1)),()))⟩
def jhK:Ann:=fun r=>match r with
 |4=>some fun σ=>{X:=Nat,sl:=fun i=>[(20,.dat .int (i:Int))],ob:=fun i=>[(9,some (.map false tSt tSh (U.zX (gr tSh σ 3) i)))],inv:=fun i=>i<=(gr tSh σ 3).length,mu:=fun i=>(gr tSh σ 3).length-i}
 |9=>some fun σ=>{X:=Nat,sl:=fun i=>[(34,.dat .int (i:Int))],ob:=fun i=>[(400009,some (.row 33 (.slice .int) false .no (U.kZ (gb tRo σ 1000000) (gr tSh σ 3) i).1)),(400010,some (.row 3 .int false .unk (U.kZ (gb tRo σ 1000000) (gr tSh σ 3) i).2))],inv:=fun i=>i<=(gr tSh σ 3).length/\U.yR (gb tRo σ 1000000) (gr tSh σ 3) i (U.kZ (gb tRo σ 1000000) (gr tSh σ 3) i),mu:=fun i=>(gr tSh σ 3).length-i}
 |_=>none
abbrev q96_2 (d:(Int×List PeD×List LwD×List (List (Int×Int×Unit))×List BkD×Int×Int×List ShD×List Int×List (List Int)×List Int×Unit)×Unit):=(U.zj d.1.2.2.2.2.2.2.2.1)
abbrev q96_3 (d:(Int×List PeD×List LwD×List (List (Int×Int×Unit))×List BkD×Int×Int×List ShD×List Int×List (List Int)×List Int×Unit)×Unit):=((d.1.1,d.1.2.1,d.1.2.2.1,()),d.1.2.2.2.1,d.1.2.2.2.2.1,d.1.2.2.2.2.2.1,d.1.2.2.2.2.2.2.1,d.1.2.2.2.2.2.2.2.1,())
abbrev q96_1 (d:(Int×List PeD×List LwD×List (List (Int×Int×Unit))×List BkD×Int×Int×List ShD×List Int×List (List Int)×List Int×Unit)×Unit):=((q96_3 d),d.1.2.2.2.2.2.2.2.2)
abbrev q96_4:=(Ty.int.pair (Ty.int.pair Ty.unit))
abbrev q96_0:=(Ty.int.pair (Ty.int.pair (Ty.int.pair q96_4)))
abbrev q96_5:=((0:Int),(0:Int),(0:Int),(0:Int),(0:Int),())
def jgR:Prop:=∀(d:(Int×List PeD×List LwD×List (List (Int×Int×Unit))×List BkD×Int×Int×List ShD×List Int×List (List Int)×List Int×Unit)×Unit),U.jw3 (U.zZ d.1)->d.1.2.2.2.2.2.2.2.1.length<=100000/\(∀(u0:ShD),u0∈U.zj d.1.2.2.2.2.2.2.2.1->∀(y:ShD),y∈U.zj d.1.2.2.2.2.2.2.2.1->U.jL [])/\wc (U.jl q96_0 fun(z0:ShD×ShD×Unit)=>(U.jF z0.1 z0.2.1,())) (q96_2 d)/\((U.je (U.jl q96_0 fun(z1:ShD×ShD×Unit)=>(U.jF z1.1 z1.2.1,())) (q96_2 d)).length<4611686018427387904->(∃(x:Nat),((0=(x:Int)/\True)/\[]=U.zX (U.je (U.jl q96_0 fun(z2:ShD×ShD×Unit)=>(U.jF z2.1 z2.2.1,())) (q96_2 d)) x/\True)/\x<=(U.je (U.jl q96_0 fun(z3:ShD×ShD×Unit)=>(U.jF z3.1 z3.2.1,())) (q96_2 d)).length)/\∀(x:Nat),x<=(U.je (U.jl q96_0 fun(z4:ShD×ShD×Unit)=>(U.jF z4.1 z4.2.1,())) (q96_2 d)).length->(decide ((x:Int)<(↑(U.je (U.jl q96_0 fun(z5:ShD×ShD×Unit)=>(U.jF z5.1 z5.2.1,())) (q96_2 d)).length:Int))=true->0<=(x:Int)/\(x:Int)<(↑(U.je (U.jl q96_0 fun(z6:ShD×ShD×Unit)=>(U.jF z6.1 z6.2.1,())) (q96_2 d)).length:Int)/\jz ((x:Int)+1)/\∃(b:Nat),(((x:Int)+1=(b:Int)/\True)/\jeJ q96_4 (nth (U.je (U.jl q96_0 fun(z7:ShD×ShD×Unit)=>(U.jF z7.1 z7.2.1,())) (q96_2 d)) (x:Int).toNat).2.2.2 (nth (U.je (U.jl q96_0 fun(z8:ShD×ShD×Unit)=>(U.jF z8.1 z8.2.1,())) (q96_2 d)) (x:Int).toNat) (U.zX (U.je (U.jl q96_0 fun(z9:ShD×ShD×Unit)=>(U.jF z9.1 z9.2.1,())) (q96_2 d)) x)=U.zX (U.je (U.jl q96_0 fun(v:ShD×ShD×Unit)=>(U.jF v.1 v.2.1,())) (q96_2 d)) b/\True)/\b<=(U.je (U.jl q96_0 fun(w:ShD×ShD×Unit)=>(U.jF w.1 w.2.1,())) (q96_2 d)).length/\(U.je (U.jl q96_0 fun(z:ShD×ShD×Unit)=>(U.jF z.1 z.2.1,())) (q96_2 d)).length-b<(U.je (U.jl q96_0 fun(A:ShD×ShD×Unit)=>(U.jF A.1 A.2.1,())) (q96_2 d)).length-x)/\(decide ((x:Int)<(↑(U.je (U.jl q96_0 fun(B:ShD×ShD×Unit)=>(U.jF B.1 B.2.1,())) (q96_2 d)).length:Int))=false->(U.je (U.jl q96_0 fun(C:ShD×ShD×Unit)=>(U.jF C.1 C.2.1,())) (q96_2 d)).length<4611686018427387904->(∃(x:Nat),((0=(x:Int)/\True)/\d.1.2.2.2.2.2.2.2.2.2.1=(U.kZ (q96_1 d) (U.je (U.jl q96_0 fun(D:ShD×ShD×Unit)=>(U.jF D.1 D.2.1,())) (q96_2 d)) x).1/\d.1.2.2.2.2.2.2.2.2.2.2.1=(U.kZ (q96_1 d) (U.je (U.jl q96_0 fun(E:ShD×ShD×Unit)=>(U.jF E.1 E.2.1,())) (q96_2 d)) x).2/\True)/\x<=(U.je (U.jl q96_0 fun(F:ShD×ShD×Unit)=>(U.jF F.1 F.2.1,())) (q96_2 d)).length/\U.yR (q96_1 d) (U.je (U.jl q96_0 fun(G:ShD×ShD×Unit)=>(U.jF G.1 G.2.1,())) (q96_2 d)) x (U.kZ (q96_1 d) (U.je (U.jl q96_0 fun(H:ShD×ShD×Unit)=>(U.jF H.1 H.2.1,())) (q96_2 d)) x))/\∀(a:Nat),a<=(U.je (U.jl q96_0 fun(I:ShD×ShD×Unit)=>(U.jF I.1 I.2.1,())) (q96_2 d)).length/\U.yR (q96_1 d) (U.je (U.jl q96_0 fun(J:ShD×ShD×Unit)=>(U.jF J.1 J.2.1,())) (q96_2 d)) a (U.kZ (q96_1 d) (U.je (U.jl q96_0 fun(K:ShD×ShD×Unit)=>(U.jF K.1 K.2.1,())) (q96_2 d)) a)->(decide ((a:Int)<(↑(U.je (U.jl q96_0 fun(L:ShD×ShD×Unit)=>(U.jF L.1 L.2.1,())) (q96_2 d)).length:Int))=true->0<=(a:Int)/\(a:Int)<(↑(U.je (U.jl q96_0 fun(M:ShD×ShD×Unit)=>(U.jF M.1 M.2.1,())) (q96_2 d)).length:Int)/\((!decide (wl q96_5 (zW q96_4 (nth (U.je (U.jl q96_0 fun(N:ShD×ShD×Unit)=>(U.jF N.1 N.2.1,())) (q96_2 d)) (a:Int).toNat).2.2.2 (U.zX (U.je (U.jl q96_0 fun(O:ShD×ShD×Unit)=>(U.jF O.1 O.2.1,())) (q96_2 d)) x))=nth (U.je (U.jl q96_0 fun(P:ShD×ShD×Unit)=>(U.jF P.1 P.2.1,())) (q96_2 d)) (a:Int).toNat)||decide ((nth (U.je (U.jl q96_0 fun(Q:ShD×ShD×Unit)=>(U.jF Q.1 Q.2.1,())) (q96_2 d)) (a:Int).toNat).2.2.1≠1))=true->jz ((a:Int)+1)/\∃(b:Nat),(((a:Int)+1=(b:Int)/\True)/\(U.kZ (q96_1 d) (U.je (U.jl q96_0 fun(R:ShD×ShD×Unit)=>(U.jF R.1 R.2.1,())) (q96_2 d)) a).2=(U.kZ (q96_1 d) (U.je (U.jl q96_0 fun(S:ShD×ShD×Unit)=>(U.jF S.1 S.2.1,())) (q96_2 d)) b).2/\(U.kZ (q96_1 d) (U.je (U.jl q96_0 fun(T:ShD×ShD×Unit)=>(U.jF T.1 T.2.1,())) (q96_2 d)) a).1=(U.kZ (q96_1 d) (U.je (U.jl q96_0 fun(V:ShD×ShD×Unit)=>(U.jF V.1 V.2.1,())) (q96_2 d)) b).1/\True)/\(b<=(U.je (U.jl q96_0 fun(W:ShD×ShD×Unit)=>(U.jF W.1 W.2.1,())) (q96_2 d)).length/\U.yR (q96_1 d) (U.je (U.jl q96_0 fun(X:ShD×ShD×Unit)=>(U.jF X.1 X.2.1,())) (q96_2 d)) b (U.kZ (q96_1 d) (U.je (U.jl q96_0 fun(Y:ShD×ShD×Unit)=>(U.jF Y.1 Y.2.1,())) (q96_2 d)) b))/\(U.je (U.jl q96_0 fun(Z:ShD×ShD×Unit)=>(U.jF Z.1 Z.2.1,())) (q96_2 d)).length-b<(U.je (U.jl q96_0 fun(z38:ShD×ShD×Unit)=>(U.jF z38.1 z38.2.1,())) (q96_2 d)).length-a)/\((!decide (wl q96_5 (zW q96_4 (nth (U.je (U.jl q96_0 fun(z39:ShD×ShD×Unit)=>(U.jF z39.1 z39.2.1,())) (q96_2 d)) (a:Int).toNat).2.2.2 (U.zX (U.je (U.jl q96_0 fun(z40:ShD×ShD×Unit)=>(U.jF z40.1 z40.2.1,())) (q96_2 d)) x))=nth (U.je (U.jl q96_0 fun(z41:ShD×ShD×Unit)=>(U.jF z41.1 z41.2.1,())) (q96_2 d)) (a:Int).toNat)||decide ((nth (U.je (U.jl q96_0 fun(z42:ShD×ShD×Unit)=>(U.jF z42.1 z42.2.1,())) (q96_2 d)) (a:Int).toNat).2.2.1≠1))=false->(0:Int)<=(nth (U.je (U.jl q96_0 fun(z43:ShD×ShD×Unit)=>(U.jF z43.1 z43.2.1,())) (q96_2 d)) (a:Int).toNat).2.2.2.2.1/\(nth (U.je (U.jl q96_0 fun(z44:ShD×ShD×Unit)=>(U.jF z44.1 z44.2.1,())) (q96_2 d)) (a:Int).toNat).2.2.2.2.1<(↑(U.kZ (q96_1 d) (U.je (U.jl q96_0 fun(z45:ShD×ShD×Unit)=>(U.jF z45.1 z45.2.1,())) (q96_2 d)) a).1.length:Int)/\(0:Int)<=(nth (U.je (U.jl q96_0 fun(z46:ShD×ShD×Unit)=>(U.jF z46.1 z46.2.1,())) (q96_2 d)) (a:Int).toNat).2.2.2.2.1/\(nth (U.je (U.jl q96_0 fun(z47:ShD×ShD×Unit)=>(U.jF z47.1 z47.2.1,())) (q96_2 d)) (a:Int).toNat).2.2.2.2.1<(↑(U.kZ (q96_1 d) (U.je (U.jl q96_0 fun(z48:ShD×ShD×Unit)=>(U.jF z48.1 z48.2.1,())) (q96_2 d)) a).1.length:Int)/\(0:Int)<=(nth (U.je (U.jl q96_0 fun(z49:ShD×ShD×Unit)=>(U.jF z49.1 z49.2.1,())) (q96_2 d)) (a:Int).toNat).2.2.2.2.1/\(nth (U.je (U.jl q96_0 fun(z50:ShD×ShD×Unit)=>(U.jF z50.1 z50.2.1,())) (q96_2 d)) (a:Int).toNat).2.2.2.2.1<(↑(U.kZ (q96_1 d) (U.je (U.jl q96_0 fun(z51:ShD×ShD×Unit)=>(U.jF z51.1 z51.2.1,())) (q96_2 d)) a).1.length:Int)/\(↑(nth (U.kZ (q96_1 d) (U.je (U.jl q96_0 fun(z52:ShD×ShD×Unit)=>(U.jF z52.1 z52.2.1,())) (q96_2 d)) a).1 (nth (U.je (U.jl q96_0 fun(z53:ShD×ShD×Unit)=>(U.jF z53.1 z53.2.1,())) (q96_2 d)) (a:Int).toNat).2.2.2.2.1.toNat).length:Int)=(↑(nth (U.kZ (q96_1 d) (U.je (U.jl q96_0 fun(z54:ShD×ShD×Unit)=>(U.jF z54.1 z54.2.1,())) (q96_2 d)) a).1 (nth (U.je (U.jl q96_0 fun(z55:ShD×ShD×Unit)=>(U.jF z55.1 z55.2.1,())) (q96_2 d)) (a:Int).toNat).2.2.2.2.1.toNat).length:Int)/\(↑(nth (U.kZ (q96_1 d) (U.je (U.jl q96_0 fun(z56:ShD×ShD×Unit)=>(U.jF z56.1 z56.2.1,())) (q96_2 d)) a).1 (nth (U.je (U.jl q96_0 fun(z57:ShD×ShD×Unit)=>(U.jF z57.1 z57.2.1,())) (q96_2 d)) (a:Int).toNat).2.2.2.2.1.toNat).length:Int)=(↑(nth (U.kZ (q96_1 d) (U.je (U.jl q96_0 fun(z58:ShD×ShD×Unit)=>(U.jF z58.1 z58.2.1,())) (q96_2 d)) a).1 (nth (U.je (U.jl q96_0 fun(z59:ShD×ShD×Unit)=>(U.jF z59.1 z59.2.1,())) (q96_2 d)) (a:Int).toNat).2.2.2.2.1.toNat).length:Int)/\((nth (U.kZ (q96_1 d) (U.je (U.jl q96_0 fun(z60:ShD×ShD×Unit)=>(U.jF z60.1 z60.2.1,())) (q96_2 d)) a).1 (nth (U.je (U.jl q96_0 fun(z61:ShD×ShD×Unit)=>(U.jF z61.1 z61.2.1,())) (q96_2 d)) (a:Int).toNat).2.2.2.2.1.toNat).length+[(nth (U.je (U.jl q96_0 fun(z62:ShD×ShD×Unit)=>(U.jF z62.1 z62.2.1,())) (q96_2 d)) (a:Int).toNat).2.2.2.1].length)*8<=140737488355328/\(some ((q96_3 d),d.1.2.2.2.2.2.2.2.2.1,(U.kZ (q96_1 d) (U.je (U.jl q96_0 fun(z63:ShD×ShD×Unit)=>(U.jF z63.1 z63.2.1,())) (q96_2 d)) a).1,(U.kZ (q96_1 d) (U.je (U.jl q96_0 fun(z64:ShD×ShD×Unit)=>(U.jF z64.1 z64.2.1,())) (q96_2 d)) a).2,())).isSome=true/\U.jae (U.ro (some ((q96_3 d),d.1.2.2.2.2.2.2.2.2.1,(U.kZ (q96_1 d) (U.je (U.jl q96_0 fun(z65:ShD×ShD×Unit)=>(U.jF z65.1 z65.2.1,())) (q96_2 d)) a).1,(U.kZ (q96_1 d) (U.je (U.jl q96_0 fun(z66:ShD×ShD×Unit)=>(U.jF z66.1 z66.2.1,())) (q96_2 d)) a).2,())))/\U.ji1 (U.rd (U.ro (some ((q96_3 d),d.1.2.2.2.2.2.2.2.2.1,(U.kZ (q96_1 d) (U.je (U.jl q96_0 fun(z67:ShD×ShD×Unit)=>(U.jF z67.1 z67.2.1,())) (q96_2 d)) a).1,(U.kZ (q96_1 d) (U.je (U.jl q96_0 fun(z68:ShD×ShD×Unit)=>(U.jF z68.1 z68.2.1,())) (q96_2 d)) a).2,())))) (nth (U.je (U.jl q96_0 fun(z69:ShD×ShD×Unit)=>(U.jF z69.1 z69.2.1,())) (q96_2 d)) (a:Int).toNat).2.2.2.2.1/\U.jcx (U.rd (U.ro (some ((q96_3 d),d.1.2.2.2.2.2.2.2.2.1,(U.kZ (q96_1 d) (U.je (U.jl q96_0 fun(z70:ShD×ShD×Unit)=>(U.jF z70.1 z70.2.1,())) (q96_2 d)) a).1,(U.kZ (q96_1 d) (U.je (U.jl q96_0 fun(z71:ShD×ShD×Unit)=>(U.jF z71.1 z71.2.1,())) (q96_2 d)) a).2,())))) (nth (U.kZ (q96_1 d) (U.je (U.jl q96_0 fun(z72:ShD×ShD×Unit)=>(U.jF z72.1 z72.2.1,())) (q96_2 d)) a).1 (nth (U.je (U.jl q96_0 fun(z73:ShD×ShD×Unit)=>(U.jF z73.1 z73.2.1,())) (q96_2 d)) (a:Int).toNat).2.2.2.2.1.toNat++[(nth (U.je (U.jl q96_0 fun(z74:ShD×ShD×Unit)=>(U.jF z74.1 z74.2.1,())) (q96_2 d)) (a:Int).toNat).2.2.2.1])/\(U.gC (U.ro (some ((q96_3 d),d.1.2.2.2.2.2.2.2.2.1,(U.kZ (q96_1 d) (U.je (U.jl q96_0 fun(z75:ShD×ShD×Unit)=>(U.jF z75.1 z75.2.1,())) (q96_2 d)) a).1,(U.kZ (q96_1 d) (U.je (U.jl q96_0 fun(z76:ShD×ShD×Unit)=>(U.jF z76.1 z76.2.1,())) (q96_2 d)) a).2,()))) (nth (U.je (U.jl q96_0 fun(z77:ShD×ShD×Unit)=>(U.jF z77.1 z77.2.1,())) (q96_2 d)) (a:Int).toNat).2.2.2.2.1 (nth (U.kZ (q96_1 d) (U.je (U.jl q96_0 fun(z78:ShD×ShD×Unit)=>(U.jF z78.1 z78.2.1,())) (q96_2 d)) a).1 (nth (U.je (U.jl q96_0 fun(z79:ShD×ShD×Unit)=>(U.jF z79.1 z79.2.1,())) (q96_2 d)) (a:Int).toNat).2.2.2.2.1.toNat++[(nth (U.je (U.jl q96_0 fun(z80:ShD×ShD×Unit)=>(U.jF z80.1 z80.2.1,())) (q96_2 d)) (a:Int).toNat).2.2.2.1])=true->(0:Int)<=(nth (U.je (U.jl q96_0 fun(z81:ShD×ShD×Unit)=>(U.jF z81.1 z81.2.1,())) (q96_2 d)) (a:Int).toNat).2.2.2.2.1/\(nth (U.je (U.jl q96_0 fun(z82:ShD×ShD×Unit)=>(U.jF z82.1 z82.2.1,())) (q96_2 d)) (a:Int).toNat).2.2.2.2.1<(↑(U.kZ (q96_1 d) (U.je (U.jl q96_0 fun(z83:ShD×ShD×Unit)=>(U.jF z83.1 z83.2.1,())) (q96_2 d)) a).1.length:Int)/\jz ((a:Int)+1)/\∃(b:Nat),(((a:Int)+1=(b:Int)/\True)/\(U.kZ (q96_1 d) (U.je (U.jl q96_0 fun(z84:ShD×ShD×Unit)=>(U.jF z84.1 z84.2.1,())) (q96_2 d)) a).2=(U.kZ (q96_1 d) (U.je (U.jl q96_0 fun(z85:ShD×ShD×Unit)=>(U.jF z85.1 z85.2.1,())) (q96_2 d)) b).2/\(U.kZ (q96_1 d) (U.je (U.jl q96_0 fun(z86:ShD×ShD×Unit)=>(U.jF z86.1 z86.2.1,())) (q96_2 d)) a).1.set (nth (U.je (U.jl q96_0 fun(z87:ShD×ShD×Unit)=>(U.jF z87.1 z87.2.1,())) (q96_2 d)) (a:Int).toNat).2.2.2.2.1.toNat (nth (U.kZ (q96_1 d) (U.je (U.jl q96_0 fun(z88:ShD×ShD×Unit)=>(U.jF z88.1 z88.2.1,())) (q96_2 d)) a).1 (nth (U.je (U.jl q96_0 fun(z89:ShD×ShD×Unit)=>(U.jF z89.1 z89.2.1,())) (q96_2 d)) (a:Int).toNat).2.2.2.2.1.toNat++[(nth (U.je (U.jl q96_0 fun(z90:ShD×ShD×Unit)=>(U.jF z90.1 z90.2.1,())) (q96_2 d)) (a:Int).toNat).2.2.2.1])=(U.kZ (q96_1 d) (U.je (U.jl q96_0 fun(z91:ShD×ShD×Unit)=>(U.jF z91.1 z91.2.1,())) (q96_2 d)) b).1/\True)/\(b<=(U.je (U.jl q96_0 fun(z92:ShD×ShD×Unit)=>(U.jF z92.1 z92.2.1,())) (q96_2 d)).length/\U.yR (q96_1 d) (U.je (U.jl q96_0 fun(z93:ShD×ShD×Unit)=>(U.jF z93.1 z93.2.1,())) (q96_2 d)) b (U.kZ (q96_1 d) (U.je (U.jl q96_0 fun(z94:ShD×ShD×Unit)=>(U.jF z94.1 z94.2.1,())) (q96_2 d)) b))/\(U.je (U.jl q96_0 fun(z95:ShD×ShD×Unit)=>(U.jF z95.1 z95.2.1,())) (q96_2 d)).length-b<(U.je (U.jl q96_0 fun(z96:ShD×ShD×Unit)=>(U.jF z96.1 z96.2.1,())) (q96_2 d)).length-a)/\(U.gC (U.ro (some ((q96_3 d),d.1.2.2.2.2.2.2.2.2.1,(U.kZ (q96_1 d) (U.je (U.jl q96_0 fun(z97:ShD×ShD×Unit)=>(U.jF z97.1 z97.2.1,())) (q96_2 d)) a).1,(U.kZ (q96_1 d) (U.je (U.jl q96_0 fun(z98:ShD×ShD×Unit)=>(U.jF z98.1 z98.2.1,())) (q96_2 d)) a).2,()))) (nth (U.je (U.jl q96_0 fun(z99:ShD×ShD×Unit)=>(U.jF z99.1 z99.2.1,())) (q96_2 d)) (a:Int).toNat).2.2.2.2.1 (nth (U.kZ (q96_1 d) (U.je (U.jl q96_0 fun(c:ShD×ShD×Unit)=>(U.jF c.1 c.2.1,())) (q96_2 d)) a).1 (nth (U.je (U.jl q96_0 fun(e:ShD×ShD×Unit)=>(U.jF e.1 e.2.1,())) (q96_2 d)) (a:Int).toNat).2.2.2.2.1.toNat++[(nth (U.je (U.jl q96_0 fun(f:ShD×ShD×Unit)=>(U.jF f.1 f.2.1,())) (q96_2 d)) (a:Int).toNat).2.2.2.1])=false->((U.kZ (q96_1 d) (U.je (U.jl q96_0 fun(g:ShD×ShD×Unit)=>(U.jF g.1 g.2.1,())) (q96_2 d)) a).2.length+[(nth (U.je (U.jl q96_0 fun(h:ShD×ShD×Unit)=>(U.jF h.1 h.2.1,())) (q96_2 d)) (a:Int).toNat).1].length)*8<=140737488355328/\jz ((a:Int)+1)/\∃(b:Nat),(((a:Int)+1=(b:Int)/\True)/\(U.kZ (q96_1 d) (U.je (U.jl q96_0 fun(i:ShD×ShD×Unit)=>(U.jF i.1 i.2.1,())) (q96_2 d)) a).1=(U.kZ (q96_1 d) (U.je (U.jl q96_0 fun(j:ShD×ShD×Unit)=>(U.jF j.1 j.2.1,())) (q96_2 d)) b).1/\(d.1.1=d.1.1/\d.1.2.1=d.1.2.1/\d.1.2.2.1=d.1.2.2.1/\d.1.2.2.2.1=d.1.2.2.2.1/\d.1.2.2.2.2.1=d.1.2.2.2.2.1/\d.1.2.2.2.2.2.1=d.1.2.2.2.2.2.1/\d.1.2.2.2.2.2.2.1=d.1.2.2.2.2.2.2.1/\d.1.2.2.2.2.2.2.2.1=d.1.2.2.2.2.2.2.2.1/\True/\True/\True/\True)/\(U.kZ (q96_1 d) (U.je (U.jl q96_0 fun(k:ShD×ShD×Unit)=>(U.jF k.1 k.2.1,())) (q96_2 d)) a).2++[(nth (U.je (U.jl q96_0 fun(l:ShD×ShD×Unit)=>(U.jF l.1 l.2.1,())) (q96_2 d)) (a:Int).toNat).1]=(U.kZ (q96_1 d) (U.je (U.jl q96_0 fun(m:ShD×ShD×Unit)=>(U.jF m.1 m.2.1,())) (q96_2 d)) b).2/\True)/\(b<=(U.je (U.jl q96_0 fun(n:ShD×ShD×Unit)=>(U.jF n.1 n.2.1,())) (q96_2 d)).length/\U.yR (q96_1 d) (U.je (U.jl q96_0 fun(o:ShD×ShD×Unit)=>(U.jF o.1 o.2.1,())) (q96_2 d)) b (U.kZ (q96_1 d) (U.je (U.jl q96_0 fun(p:ShD×ShD×Unit)=>(U.jF p.1 p.2.1,())) (q96_2 d)) b))/\(U.je (U.jl q96_0 fun(q:ShD×ShD×Unit)=>(U.jF q.1 q.2.1,())) (q96_2 d)).length-b<(U.je (U.jl q96_0 fun(r:ShD×ShD×Unit)=>(U.jF r.1 r.2.1,())) (q96_2 d)).length-a)))/\(decide ((a:Int)<(↑(U.je (U.jl q96_0 fun(s:ShD×ShD×Unit)=>(U.jF s.1 s.2.1,())) (q96_2 d)).length:Int))=false->()=()/\((d.1.1,d.1.2.1,d.1.2.2.1,d.1.2.2.2.1,d.1.2.2.2.2.1,d.1.2.2.2.2.2.1,d.1.2.2.2.2.2.2.1,d.1.2.2.2.2.2.2.2.1,d.1.2.2.2.2.2.2.2.2.1,(U.kZ (q96_1 d) (U.je (U.jl q96_0 fun(t:ShD×ShD×Unit)=>(U.jF t.1 t.2.1,())) (q96_2 d)) a).1,U.jfL (U.kZ (q96_1 d) (U.je (U.jl q96_0 fun(u:ShD×ShD×Unit)=>(U.jF u.1 u.2.1,())) (q96_2 d)) a).2,()),())=(U.wZ d.1 (U.zk (U.zZ d.1)),()))))
end Go.X
namespace Go.X
open Go.Proofs
theorem zO {d:DyD} (h:U.jU d=0):U.jcw d/\∀a∈U.zc d,∀b∈U.zc d,U.wI a=U.wI b->a=b:=by
 unfold U.jU U.jlj at h;cases c:U.js (U.jc d) with
 |false=>rw[c] at h;simp at h
 |true=>
  cases e:U.jxe d with
  |false=>rw[c,e] at h;simp at h
  |true=>
   cases f:U.zK d with
   |false=>rw[c,e,f] at h;simp at h
   |true=>
    cases g:U.jyl (U.zj (U.zc d)) with
    |true=>rw[c,e,f,g] at h;simp at h
    |false=>exact⟨⟨c,e,f⟩,(jBa _).1 g⟩
theorem jFn:jbS U.jF:=by
 have e:U.jF=jBS (fun a b=>U.jaz (U.jly a) (U.jly b)) (fun a b=>U.jaz (U.wI a) (U.wI b)):=by
  funext a b;unfold U.jF;rw[zJ,wM];rfl
 rw[e];exact jhk (jhX jgB U.jly) (jhX jgB U.wI)
theorem jBq {a b:ShD} (h:U.jF a b=0):U.wI a=U.wI b:=by
 unfold U.jF at h;rw[zJ,wM] at h
 split at h
 .contradiction
 .exact vY.1 h
theorem jHr {d:DyD} (h:U.jU d=0):wc (U.jl tSh fun x=>(U.jF x.1 x.2.1,())) (U.zj (U.zc d)):=
 jn7 jFn (fun a b e f c=>(zO h).2 a (je0.1 e) b (je0.1 f) (jBq c))
theorem jaR {d:DyD} {s:ShD}:s∈U.ke d↔s∈U.zc d:=((zB _).mem_iff).trans je0
theorem gQ (d:DyD):(U.ke d).Nodup:=(zB _).nodup_iff.2 (jrl _)
theorem jEv (d:DyD):(U.ke d).length<=(U.zc d).length:=by
 unfold U.ke U.jHG;rw[(zB _).length_eq];exact jBh _
theorem jc2 {d:DyD} (h:U.zK d=true) {s:ShD} (a:s∈U.zc d):(0<=U.qo s/\U.qo s<((U.jh (U.jc d)).length:Int))/\U.kr d (U.jbU s):=by
 have:=(zb h).2.2.2.2.2.2.2 _ a;unfold U.jcv at this;have:=of_decide_eq_true this;unfold U.kr;omega
theorem jkz {l:List ShD} {i:Nat} (h:i<l.length):U.zX l (i+1)=jeJ tSt (U.gT (nth l i)) (nth l i) (U.zX l i):=by
 unfold U.zX;rw[L.take_succ h,jH8];rfl
theorem jfC {r:RoD} {l:List ShD} {i:Nat} (h:i<l.length):U.kZ r l (i+1)=U.jpz (U.rd r) (U.ja3 r) (U.zX l l.length) (U.kZ r l i) (nth l i):=by
 unfold U.kZ;rw[L.take_succ h,jH8];rfl
theorem jEu {d:DyD} {l:List Int} (c:l.Nodup) (a:∀b∈l,U.kr d b):l.length<=(U.ju d).length:=by
 have:=L.nodup_len l ((List.range (U.ju d).length).map (fun(b:Nat)=>(b:Int))) c (fun x e=>by
  have:=a x e;unfold U.kr at this;exact jIk.2 ⟨x.toNat,jHZ.2 (by omega),by omega⟩)
 simpa using this
section
variable {r:RoD} {l:List ShD} {i:Nat}
theorem jyN (u:U.zK (U.rd r)=true) (v:∀s∈l,s∈U.zc (U.rd r)) (nd:l.Nodup) (h:i<l.length) {x:List (List Int)×List Int} (y:U.yR (U.rd r,U.ja3 r,U.jY r,U.jGS r,()) l i x)
 (k:U.kX (U.zX l l.length) (nth l i)=true):(nth x.1 (U.qo (nth l i)).toNat++[U.jbU (nth l i)]).Nodup/\(∀b∈nth x.1 (U.qo (nth l i)).toNat++[U.jbU (nth l i)],U.kr (U.rd r) b)/\
  ∀b∈nth x.1 (U.qo (nth l i)).toNat++[U.jbU (nth l i)],∃j:Nat,j<i+1/\U.gT (nth l j)=(b,((U.qo (nth l i)).toNat:Int),())/\wl (Ty.dflt tSh) (zW tSt (U.gT (nth l j)) (U.zX l l.length))=nth l j:=by
 obtain⟨A,B,q⟩:=y;have w:=jc2 u (v _ (L.mem_nth h));have d:wl (Ty.dflt tSh) (zW tSt (U.gT (nth l i)) (U.zX l l.length))=nth l i:=by
  unfold U.kX at k;simp only[jIj,jIg,jIC,decide_eq_true_eq] at k;exact k.1
 have o:((U.qo (nth l i)).toNat:Int)=U.qo (nth l i):=(by omega);obtain⟨z,m⟩:=q (U.qo (nth l i)).toNat;refine⟨?_,fun b c=> ?_,fun b c=> ?_⟩
 .refine jIP.2 ⟨z,by simp,fun a t b c e=> ?_⟩;simp at c;subst c;subst e;obtain⟨_,j,n,f,g⟩:=m _ t;rw[o] at f;have p:U.gT (nth l j)=U.gT (nth l i):=f;rw[p,d] at g;have:=(List.nodup_iff_pairwise_ne.1 nd);rw[jIM] at this;refine this j i (by omega) h n ?_;rw[<-L.nth_lt,<-L.nth_lt h];exact g.symm
 .rcases jHT.1 c with c|c
  .exact(m b c).1
  .simp at c;subst c;exact w.2
 .rcases jHT.1 c with c|c
  .obtain⟨_,j,n,f,g⟩:=m b c;exact⟨j,by omega,f,g⟩
  .simp at c;subst c;exact⟨i,by omega,by rw[o];rfl,d⟩
theorem jAt {r:RoD} {x:List (List Int)×List Int} (a:U.yR r l i x):U.yR r l (i+1) x:=
 ⟨a.1,by have:=a.2.1;omega,fun p=>⟨(a.2.2 p).1,fun b c=>⟨((a.2.2 p).2 b c).1,by
  obtain⟨j,d,e⟩:=((a.2.2 p).2 b c).2
  exact⟨j,by omega,e⟩⟩⟩⟩
theorem jDA (g:U.zK (U.rd r)=true) (j:∀s∈l,s∈U.zc (U.rd r)) (nd:l.Nodup) (h:i<l.length) {x:List (List Int)×List Int} (a:U.yR r l i x):
 U.yR r l (i+1) (U.jpz (U.rd r) (U.ja3 r) (U.zX l l.length) x (nth l i)):=by
 unfold U.jpz;cases k:U.kX (U.zX l l.length) (nth l i) with
 |false=>rw[if_neg (by simp)];exact jAt a
 |true=>
  rw[if_pos rfl];have d:=jyN g j nd h a k;have m:=jc2 g (j _ (L.mem_nth h))
  split
  .refine⟨by show(x.1.set _ _).length=_;rw[jI9];exact a.1,by have:=a.2.1;show x.2.length<=_;omega,fun p=> ?_⟩;have c:(U.qo (nth l i)).toNat<x.1.length:=(by rw[a.1];omega);show(nth (x.1.set (U.qo (nth l i)).toNat (nth x.1 (U.qo (nth l i)).toNat++[U.jbU (nth l i)])) p).Nodup/\_;rw[L.nth_set c]
   split
   .rename_i e;subst e;exact⟨d.1,fun b f=>⟨d.2.1 b f,d.2.2 b f⟩⟩
   .exact(jAt a).2.2 p
  .refine⟨a.1,?_,(jAt a).2.2⟩;have:=a.2.1;show(x.2++[U.wI (nth l i)]).length<=_;rw[jH2];simp;omega
end
theorem jvf {l:List (List Int)} (h:U.jEP l) (p:Nat):nth l p=[]:=by
 by_cases a:p<l.length
 .exact h _ (L.mem_nth a)
 .unfold nth;rw[jIm,List.getElem?_eq_none (by omega)];rfl
theorem jyM {r:RoD} {l:List ShD} (a:(U.jY r).length=(U.jh (U.jc (U.rd r))).length) (c:U.jEP (U.jY r)) (d:U.jGS r=U.kj):U.yR r l 0 (U.kZ r l 0):=by
 refine⟨a,?_,fun p=> ?_⟩
 .show(U.jGS r).length<=0;rw[d];exact jHM 0
 .have e:nth (U.kZ r l 0).1 p=[]:=jvf c p;rw[e];exact⟨List.nodup_nil,fun b f=>by cases f⟩
theorem jGB (m:List ((Int×Int×Unit)×ShD)) (s:ShD):U.kX m s= !(!decide (wl (Ty.dflt tSh) (zW tSt (U.gT s) m)=s)||decide (U.jy6 s≠1)):=by
 unfold U.kX;by_cases h:U.jy6 s=1<;>simp[h]
section
variable {r:RoD} {l:List ShD} {i:Nat}
theorem juM (h:i<l.length) (a:U.kX (U.zX l l.length) (nth l i)=false):U.kZ r l (i+1)=U.kZ r l i:=by
 rw[jfC h];unfold U.jpz;rw[a,if_neg (by simp)]
theorem jyO (h:i<l.length) (a:U.kX (U.zX l l.length) (nth l i)=true) (b:U.jun (U.rd r) (U.ja3 r) (U.qo (nth l i)) (nth (U.kZ r l i).1 (U.qo (nth l i)).toNat++[U.jbU (nth l i)])=true):
 U.kZ r l (i+1)=((U.kZ r l i).1.set (U.qo (nth l i)).toNat (nth (U.kZ r l i).1 (U.qo (nth l i)).toNat++[U.jbU (nth l i)]),(U.kZ r l i).2):=by
 rw[jfC h];unfold U.jpz;rw[a,if_pos rfl,if_pos b]
theorem jDB (h:i<l.length) (a:U.kX (U.zX l l.length) (nth l i)=true) (b:U.jun (U.rd r) (U.ja3 r) (U.qo (nth l i)) (nth (U.kZ r l i).1 (U.qo (nth l i)).toNat++[U.jbU (nth l i)])=false):
 U.kZ r l (i+1)=((U.kZ r l i).1,(U.kZ r l i).2++[U.wI (nth l i)]):=by
 rw[jfC h];unfold U.jpz;rw[a,if_pos rfl,b,if_neg (by simp)]
end
theorem jiQ:jgR:=by
 unfold jgR q96_5 q96_0 q96_4 q96_1 q96_3 q96_2;rintro⟨b,⟨⟩⟩ K;obtain⟨⟨hk,O⟩,⟨P,B⟩,C⟩:U.jw3 (U.zZ b):=K;have G:=(zO hk).1;have u:=G.2.2;have v:(U.zc (U.rd (U.zZ b))).length<=30:=(zb u).2.2.2.2.1;have I:b.2.2.2.2.2.2.2.1.length<=30:=v;have N:(U.ke (U.rd (U.zZ b))).length<=30:=jHW (jEv _) v;have g:∀s∈U.ke (U.rd (U.zZ b)),s∈U.zc (U.rd (U.zZ b)):=fun s D=>jaR.1 D
 have w:=gQ (U.rd (U.zZ b));have M:(U.ju (U.rd (U.zZ b))).length<=4:=(zb u).1;refine⟨by show b.2.2.2.2.2.2.2.1.length<=100000;omega,fun _ _ _ _=>trivial,jHr hk,fun _=>⟨⟨0,⟨⟨rfl,trivial⟩,rfl,trivial⟩,jHR _⟩,fun x J=>⟨fun h=> ?_,fun h _=>⟨⟨0,⟨⟨rfl,trivial⟩,rfl,rfl,trivial⟩,jHR _,jyM (r:=U.zZ b) P B C⟩,fun y n=>⟨fun t=> ?_,fun t=> ?_⟩⟩⟩⟩⟩
 .have h:(x:Int)<((U.ke (U.rd (U.zZ b))).length:Int):=of_decide_eq_true h;have D:=jkz (l:=U.ke (U.rd (U.zZ b))) (i:=x) (by omega);exact⟨by omega,h,L.in64 (by omega) (by omega),x+1,⟨⟨by simp,trivial⟩,D.symm,trivial⟩,by show x+1<=(U.ke (U.rd (U.zZ b))).length;omega,by show(U.ke (U.rd (U.zZ b))).length-(x+1)<(U.ke (U.rd (U.zZ b))).length-x;omega⟩
 .have J:x<=(U.ke (U.rd (U.zZ b))).length:=J;have h:¬(x:Int)<((U.ke (U.rd (U.zZ b))).length:Int):=of_decide_eq_false h;have E:x=(U.ke (U.rd (U.zZ b))).length:=(by omega);have t:(y:Int)<((U.ke (U.rd (U.zZ b))).length:Int):=of_decide_eq_true t;have a:y<(U.ke (U.rd (U.zZ b))).length:=(by omega);obtain⟨_,e⟩:y<=(U.ke (U.rd (U.zZ b))).length/\U.yR (U.zZ b) (U.ke (U.rd (U.zZ b))) y (U.kZ (U.zZ b) (U.ke (U.rd (U.zZ b))) y):=n;have c:=jDA (r:=U.zZ b) u g w a e;rw[<-jfC a] at c;have F:y+1<=(U.ke (U.rd (U.zZ b))).length:=a;have A:(U.ke (U.rd (U.zZ b))).length-(y+1)<(U.ke (U.rd (U.zZ b))).length-y:=(by omega);have q:=jc2 u (g _ (L.mem_nth a));have o:=jGB (U.zX (U.ke (U.rd (U.zZ b))) (U.ke (U.rd (U.zZ b))).length) (nth (U.ke (U.rd (U.zZ b))) y);subst E;refine⟨by omega,t,fun p=> ?_,fun p=> ?_⟩
  .have f:U.kX (U.zX (U.ke (U.rd (U.zZ b))) (U.ke (U.rd (U.zZ b))).length) (nth (U.ke (U.rd (U.zZ b))) y)=false:=by
    rw[o];have p:(!decide (wl (Ty.dflt tSh) (zW tSt (U.gT (nth (U.ke (U.rd (U.zZ b))) y)) (U.zX (U.ke (U.rd (U.zZ b))) (U.ke (U.rd (U.zZ b))).length))=nth (U.ke (U.rd (U.zZ b))) y)||decide (U.jy6 (nth (U.ke (U.rd (U.zZ b))) y)≠1))=true:=p;rw[p];rfl
   have d:=juM (r:=U.zZ b) a f;exact⟨L.in64 (by omega) (by omega),y+1,⟨⟨by simp,trivial⟩,congrArg (·.2) d.symm,congrArg (·.1) d.symm,trivial⟩,⟨F,c⟩,A⟩
  .have f:U.kX (U.zX (U.ke (U.rd (U.zZ b))) (U.ke (U.rd (U.zZ b))).length) (nth (U.ke (U.rd (U.zZ b))) y)=true:=by
    rw[o];have p:(!decide (wl (Ty.dflt tSh) (zW tSt (U.gT (nth (U.ke (U.rd (U.zZ b))) y)) (U.zX (U.ke (U.rd (U.zZ b))) (U.ke (U.rd (U.zZ b))).length))=nth (U.ke (U.rd (U.zZ b))) y)||decide (U.jy6 (nth (U.ke (U.rd (U.zZ b))) y)≠1))=false:=p;rw[p];rfl
   have j:=jyN (r:=U.zZ b) u g w a e f;have z:=jEu j.1 j.2.1;have H:(nth (U.kZ (U.zZ b) (U.ke (U.rd (U.zZ b))) y).1 (U.qo (nth (U.ke (U.rd (U.zZ b))) y)).toNat).length<=4:=by
    rw[jH2] at z;omega
   have k:0<=U.qo (nth (U.ke (U.rd (U.zZ b))) y):=q.1.1;have m:U.qo (nth (U.ke (U.rd (U.zZ b))) y)<((U.kZ (U.zZ b) (U.ke (U.rd (U.zZ b))) y).1.length:Int):=(by rw[e.1];exact q.1.2);have Q:=e.2.1;refine⟨k,m,k,m,k,m,rfl,rfl,?_,rfl,⟨G,O⟩,q.1,⟨jHW z (by omega),j.2.1⟩,fun n=> ?_,fun n=> ?_⟩
   .show((nth (U.kZ (U.zZ b) (U.ke (U.rd (U.zZ b))) y).1 (U.qo (nth (U.ke (U.rd (U.zZ b))) y)).toNat).length+1)*8<=140737488355328;omega
   .have d:=jyO (r:=U.zZ b) a f n;exact⟨k,m,L.in64 (by omega) (by omega),y+1,⟨⟨by simp,trivial⟩,congrArg (·.2) d.symm,congrArg (·.1) d.symm,trivial⟩,⟨F,c⟩,A⟩
   .have d:=jDB (r:=U.zZ b) a f n;refine⟨?_,L.in64 (by omega) (by omega),y+1,⟨⟨by simp,trivial⟩,congrArg (·.1) d.symm,⟨rfl,rfl,rfl,rfl,rfl,rfl,rfl,rfl,trivial,trivial,trivial,trivial⟩,congrArg (·.2) d.symm,trivial⟩,⟨F,c⟩,A⟩;show((U.kZ (U.zZ b) (U.ke (U.rd (U.zZ b))) y).2.length+1)*8<=140737488355328;omega
 .have t:¬(y:Int)<((U.ke (U.rd (U.zZ b))).length:Int):=of_decide_eq_false t;have n:=n.1;have n:y<=(U.ke (U.rd (U.zZ b))).length:=n;have a:y=(U.ke (U.rd (U.zZ b))).length:=(by omega);subst a;exact⟨rfl,rfl⟩
theorem jlY:qb PR 120 jlR:=jB6 Tryz.sortI 3 (qa Tryz.func120 (c:=z8 Tryz.f120) (by kernel_rfl) (by kernel_rfl))
theorem jac:qb PR 80 jg3:=jdY jhK jiQ Tryz.func80 (kcC jtg (kcC yq kcN)) (koC jf5 (koC vR (koC jlY koN)))
end Go.X
namespace Go.X
open Go.Proofs
namespace U
def jB (l:List Int) (n:Nat):Int:=(l.take n).foldl (fun s p=>bor s (1*2^p.toNat)) 0
def juR (l:List Int):Int:=jB l l.length
def jT (d:DyD) (n:Nat):List Int:=((ju d).take n).map (fun b=>juR (kI (jc d) (yG b)))
def jFR (d:DyD):List (List Int):=List.replicate (jh (jc d)).length kj
def jP (d:DyD):RoD:=(d,kj,jFR d,kj,())
def jrM (d:DyD):RoD:=(d,jT d (ju d).length,jFR d,kj,())
def yk (d:DyD):RoD:=(d,jT d (ju d).length,(zk (jrM d)).1,(zk (jrM d)).2,())
def zV (d:DyD):Option RoD:=if jU d=0 then some (yk d) else none
def jw (d:DyD) (b:Bool):Option RoD:=if jU d=0 then(if b=true then some (yk d) else none) else none
def vW (d:DyD) (b:Bool):Int:=if jU d=0 then(if b=true then 0 else 1) else jU d
end U
def jpT:zQ:=⟨[.val tDy,.nil true],[.cl (.dat (.ptr tRo)),.cl (.dat .int)],fun d=>[(U.zc d.1).length<=100000],fun d=>((U.zV d.1,U.jU d.1,()),())⟩
def jrz:Ann:=fun r=>match r with
 |8=>some fun σ=>{X:=Nat,sl:=fun i=>[(39,.dat .int (i:Int))],ob:=fun i=>[(27,some (.box 72 false (((bx σ 27).set 8 (.own (gx 27 8) .int)).set 10 (.own (gx 27 10) .int)))),(gx 27 10,some (.row 3 .int false .yes U.kj)),(gx 27 8,some (.row 3 .int false .yes (U.jT (gb tDy σ 2) i)))],inv:=fun i=>i<=(U.ju (gb tDy σ 2)).length,mu:=fun i=>(U.ju (gb tDy σ 2)).length-i}
 |13=>some fun σ=>{X:=Nat,sl:=fun i=>[(53,.dat .int (i:Int)),(12,.dat .int (U.jB (gd (.slice .int) σ 51) i))],ob:=fun _=>[],inv:=fun i=>i<=(gd (.slice .int) σ 51).length,mu:=fun i=>(gd (.slice .int) σ 51).length-i}
 |3000005=>some fun _=>{X:=Unit,sl:=fun _=>[],ob:=fun _=>[],inv:=fun _=>True,mu:=fun _=>0}
 |_=>none
abbrev q97_1 (d:DyD×Unit×Unit)(x:Nat):=(U.kI d.1.1 (nth d.1.2.2.1 (x:Int).toNat).1)
abbrev q97_2 (d:DyD×Unit×Unit):=(d.1.1.1=d.1.1.1/\d.1.1.2.1=d.1.1.2.1/\d.1.1.2.2.1=d.1.1.2.2.1/\d.1.2.1=d.1.2.1/\d.1.2.2.1=d.1.2.2.1/\d.1.2.2.2.1=d.1.2.2.2.1/\d.1.2.2.2.2.1=d.1.2.2.2.2.1/\d.1.2.2.2.2.2.1=d.1.2.2.2.2.2.1/\True/\True/\True/\True)
abbrev q97_4 (d:DyD×Unit×Unit):=(d.1.1.2.1.length:Int)
abbrev q97_3 (d:DyD×Unit×Unit)(x:Nat):=(U.zZ (d.1.1.1,d.1.1.2.1,d.1.1.2.2.1,d.1.2.1,d.1.2.2.1,d.1.2.2.2.1,d.1.2.2.2.2.1,d.1.2.2.2.2.2.1,U.jT d.1 x,List.replicate (q97_4 d).toNat [],U.kj,()))
abbrev q97_0 (d:DyD×Unit×Unit)(x:Nat):=(U.wZ (d.1.1.1,d.1.1.2.1,d.1.1.2.2.1,d.1.2.1,d.1.2.2.1,d.1.2.2.2.1,d.1.2.2.2.2.1,d.1.2.2.2.2.2.1,U.jT d.1 x,List.replicate (q97_4 d).toNat [],U.kj,()) (U.zk (q97_3 d x)))
def jph:Prop:=∀(d:DyD×Unit×Unit),(U.zc d.1).length<=100000->(U.zc d.1).length<=100000/\(decide (U.jU d.1≠0)=true->(none,U.jU d.1,())=(U.zV d.1,U.jU d.1,())/\()=())/\(decide (U.jU d.1≠0)=false->0<=(q97_4 d)/\(q97_4 d)=(q97_4 d)/\(q97_4 d).toNat*24<=140737488355328/\((!true)=true->(!true)=true/\(!true)=true/\False)/\((!true)=false->(!true)=false/\(!true)=false/\(!true)=false/\(!true)=false/\(false=true->(none,(1:Int),())=(U.zV d.1,U.jU d.1,())/\()=())/\(false=false->d.1.2.2.1.length<4611686018427387904->(∃(x:Nat),((0=(x:Int)/\True)/\(q97_2 d)/\U.kj=[]/\U.jT d.1 x=[]/\True)/\x<=(U.ju d.1).length)/\∀(x:Nat),x<=(U.ju d.1).length->(decide ((x:Int)<(d.1.2.2.1.length:Int))=true->0<=(x:Int)/\(x:Int)<(d.1.2.2.1.length:Int)/\((q97_1 d x).length<4611686018427387904->(∃(a:Nat),((0=(a:Int)/\0=U.jB (q97_1 d x) a/\True)/\True)/\a<=(q97_1 d x).length)/\∀(a:Nat),a<=(q97_1 d x).length->(decide ((a:Int)<(↑(q97_1 d x).length:Int))=true->0<=(a:Int)/\(a:Int)<(↑(q97_1 d x).length:Int)/\0<=nth (q97_1 d x) (a:Int).toNat/\nth (q97_1 d x) (a:Int).toNat<=64/\jz ((1:Int)*2^(nth (q97_1 d x) (a:Int).toNat).toNat)/\jz ((a:Int)+1)/\∃(b:Nat),(((a:Int)+1=(b:Int)/\bor (U.jB (q97_1 d x) a) ((1:Int)*2^(nth (q97_1 d x) (a:Int).toNat).toNat)=U.jB (q97_1 d x) b/\True)/\True)/\b<=(q97_1 d x).length/\(q97_1 d x).length-b<(q97_1 d x).length-a)/\(decide ((a:Int)<(↑(q97_1 d x).length:Int))=false->((U.jT d.1 x).length+[U.jB (q97_1 d x) a].length)*8<=140737488355328/\jz ((x:Int)+1)/\∃(b:Nat),(((x:Int)+1=(b:Int)/\True)/\U.kj=U.kj/\(q97_2 d)/\U.jT d.1 x++[U.jB (q97_1 d x) a]=U.jT d.1 b/\True)/\b<=(U.ju d.1).length/\(U.ju d.1).length-b<(U.ju d.1).length-x)))/\(decide ((x:Int)<(d.1.2.2.1.length:Int))=false->U.jw3 (q97_3 d x)/\(some ((((q97_0 d x).1,(q97_0 d x).2.1,(q97_0 d x).2.2.1,()),(q97_0 d x).2.2.2.1,(q97_0 d x).2.2.2.2.1,(q97_0 d x).2.2.2.2.2.1,(q97_0 d x).2.2.2.2.2.2.1,(q97_0 d x).2.2.2.2.2.2.2.1,()),(q97_0 d x).2.2.2.2.2.2.2.2.1,(q97_0 d x).2.2.2.2.2.2.2.2.2.1,(q97_0 d x).2.2.2.2.2.2.2.2.2.2.1,()),(0:Int),())=(U.zV d.1,U.jU d.1,())/\()=()))))
def jpU:zQ:=⟨[.val tDy,.fn [.ptr tRo] [.bool]],[.cl (.dat (.ptr tRo)),.cl (.dat .int)],fun d=>[(U.zc d.1).length<=100000,U.jU d.1=0->U.jL (d.2.1.pre (some (U.jP d.1),()))],
 fun d=>((U.jw d.1 (d.2.1.F (some (U.jP d.1),())).1,U.vW d.1 (d.2.1.F (some (U.jP d.1),())).1,()),())⟩
abbrev q98_1 (d:DyD×FnD [tRo.ptr] [Ty.bool]×Unit)(x:Nat):=(U.kI d.1.1 (nth d.1.2.2.1 (x:Int).toNat).1)
abbrev q98_2 (d:DyD×FnD [tRo.ptr] [Ty.bool]×Unit):=(d.1.1.1=d.1.1.1/\d.1.1.2.1=d.1.1.2.1/\d.1.1.2.2.1=d.1.1.2.2.1/\d.1.2.1=d.1.2.1/\d.1.2.2.1=d.1.2.2.1/\d.1.2.2.2.1=d.1.2.2.2.1/\d.1.2.2.2.2.1=d.1.2.2.2.2.1/\d.1.2.2.2.2.2.1=d.1.2.2.2.2.2.1/\True/\True/\True/\True)
abbrev q98_4 (d:DyD×FnD [tRo.ptr] [Ty.bool]×Unit):=(U.jw d.1 (d.2.1.2 (some (U.jP d.1),())).1,U.vW d.1 (d.2.1.2 (some (U.jP d.1),())).1,())
abbrev q98_6 (d:DyD×FnD [tRo.ptr] [Ty.bool]×Unit):=(d.1.1.2.1.length:Int)
abbrev q98_5 (d:DyD×FnD [tRo.ptr] [Ty.bool]×Unit)(x:Nat):=(U.zZ (d.1.1.1,d.1.1.2.1,d.1.1.2.2.1,d.1.2.1,d.1.2.2.1,d.1.2.2.2.1,d.1.2.2.2.2.1,d.1.2.2.2.2.2.1,U.jT d.1 x,List.replicate (q98_6 d).toNat [],U.kj,()))
abbrev q98_0 (d:DyD×FnD [tRo.ptr] [Ty.bool]×Unit)(x:Nat):=(U.wZ (d.1.1.1,d.1.1.2.1,d.1.1.2.2.1,d.1.2.1,d.1.2.2.1,d.1.2.2.2.1,d.1.2.2.2.2.1,d.1.2.2.2.2.2.1,U.jT d.1 x,List.replicate (q98_6 d).toNat [],U.kj,()) (U.zk (q98_5 d x)))
abbrev q98_3 (x:Nat)(d:DyD×FnD [tRo.ptr] [Ty.bool]×Unit):=(decide ((x:Int)<(d.1.2.2.1.length:Int))=false->U.jw3 (q98_5 d x)/\(some ((((q98_0 d x).1,(q98_0 d x).2.1,(q98_0 d x).2.2.1,()),(q98_0 d x).2.2.2.1,(q98_0 d x).2.2.2.2.1,(q98_0 d x).2.2.2.2.2.1,(q98_0 d x).2.2.2.2.2.2.1,(q98_0 d x).2.2.2.2.2.2.2.1,()),(q98_0 d x).2.2.2.2.2.2.2.2.1,(q98_0 d x).2.2.2.2.2.2.2.2.2.1,(q98_0 d x).2.2.2.2.2.2.2.2.2.2.1,()),(0:Int),())=(q98_4 d)/\()=())
abbrev q98_7 (a:Nat)(b:Nat)(d:DyD×FnD [tRo.ptr] [Ty.bool]×Unit)(x:Nat):=(((a:Int)+1=(b:Int)/\bor (U.jB (q98_1 d x) a) ((1:Int)*2^(nth (q98_1 d x) (a:Int).toNat).toNat)=U.jB (q98_1 d x) b/\True)/\True)
abbrev q98_8 (x:Nat)(b:Nat)(d:DyD×FnD [tRo.ptr] [Ty.bool]×Unit)(a:Nat):=(((x:Int)+1=(b:Int)/\True)/\U.kj=U.kj/\(q98_2 d)/\U.jT d.1 x++[U.jB (q98_1 d x) a]=U.jT d.1 b/\True)
abbrev q98_9 (d:DyD×FnD [tRo.ptr] [Ty.bool]×Unit)(x:Nat):=(↑(q98_1 d x).length:Int)
def jpi:Prop:=∀(d:DyD×FnD [tRo.ptr] [Ty.bool]×Unit),(U.zc d.1).length<=100000->(U.jU d.1=0->U.jL (d.2.1.1 (some (U.jP d.1),())))->(U.zc d.1).length<=100000/\(decide (U.jU d.1≠0)=true->(none,U.jU d.1,())=(q98_4 d)/\()=())/\(decide (U.jU d.1≠0)=false->0<=(q98_6 d)/\(q98_6 d)=(q98_6 d)/\(q98_6 d).toNat*24<=140737488355328/\((!false)=true->(!false)=true/\(!false)=true/\asks (d.2.1.1 (some (d.1,[],List.replicate (q98_6 d).toNat [],[],()),())) ((!false)=true/\(!false)=true/\((!(d.2.1.2 (some (d.1,[],List.replicate (q98_6 d).toNat [],[],()),())).1)=true->(none,(1:Int),())=(q98_4 d)/\()=())/\((!(d.2.1.2 (some (d.1,[],List.replicate (q98_6 d).toNat [],[],()),())).1)=false->d.1.2.2.1.length<4611686018427387904->(∃(x:Nat),((0=(x:Int)/\True)/\(q98_2 d)/\U.kj=[]/\U.jT d.1 x=[]/\True)/\x<=(U.ju d.1).length)/\∀(x:Nat),x<=(U.ju d.1).length->(decide ((x:Int)<(d.1.2.2.1.length:Int))=true->0<=(x:Int)/\(x:Int)<(d.1.2.2.1.length:Int)/\((q98_1 d x).length<4611686018427387904->(∃(a:Nat),((0=(a:Int)/\0=U.jB (q98_1 d x) a/\True)/\True)/\a<=(q98_1 d x).length)/\∀(a:Nat),a<=(q98_1 d x).length->(decide ((a:Int)<(q98_9 d x))=true->0<=(a:Int)/\(a:Int)<(q98_9 d x)/\0<=nth (q98_1 d x) (a:Int).toNat/\nth (q98_1 d x) (a:Int).toNat<=64/\jz ((1:Int)*2^(nth (q98_1 d x) (a:Int).toNat).toNat)/\jz ((a:Int)+1)/\∃(b:Nat),(q98_7 a b d x)/\b<=(q98_1 d x).length/\(q98_1 d x).length-b<(q98_1 d x).length-a)/\(decide ((a:Int)<(q98_9 d x))=false->((U.jT d.1 x).length+[U.jB (q98_1 d x) a].length)*8<=140737488355328/\jz ((x:Int)+1)/\∃(b:Nat),(q98_8 x b d a)/\b<=(U.ju d.1).length/\(U.ju d.1).length-b<(U.ju d.1).length-x)))/\(q98_3 x d))))/\((!false)=false->(!false)=false/\(!false)=false/\(!false)=false/\(!false)=false/\(false=true->(none,(1:Int),())=(q98_4 d)/\()=())/\(false=false->d.1.2.2.1.length<4611686018427387904->(∃(x:Nat),((0=(x:Int)/\True)/\(q98_2 d)/\U.kj=[]/\U.jT d.1 x=[]/\True)/\x<=(U.ju d.1).length)/\∀(x:Nat),x<=(U.ju d.1).length->(decide ((x:Int)<(d.1.2.2.1.length:Int))=true->0<=(x:Int)/\(x:Int)<(d.1.2.2.1.length:Int)/\((q98_1 d x).length<4611686018427387904->(∃(a:Nat),((0=(a:Int)/\0=U.jB (q98_1 d x) a/\True)/\True)/\a<=(q98_1 d x).length)/\∀(a:Nat),a<=(q98_1 d x).length->(decide ((a:Int)<(q98_9 d x))=true->0<=(a:Int)/\(a:Int)<(q98_9 d x)/\0<=nth (q98_1 d x) (a:Int).toNat/\nth (q98_1 d x) (a:Int).toNat<=64/\jz ((1:Int)*2^(nth (q98_1 d x) (a:Int).toNat).toNat)/\jz ((a:Int)+1)/\∃(b:Nat),(q98_7 a b d x)/\b<=(q98_1 d x).length/\(q98_1 d x).length-b<(q98_1 d x).length-a)/\(decide ((a:Int)<(q98_9 d x))=false->((U.jT d.1 x).length+[U.jB (q98_1 d x) a].length)*8<=140737488355328/\jz ((x:Int)+1)/\∃(b:Nat),(q98_8 x b d a)/\b<=(U.ju d.1).length/\(U.ju d.1).length-b<(U.ju d.1).length-x)))/\(q98_3 x d))))
end Go.X
namespace Go.X
open Go.Proofs
theorem gR {l:List Int} {i:Nat} (h:i<l.length):U.jB l (i+1)=bor (U.jB l i) (1*2^(nth l i).toNat):=by
 unfold U.jB;rw[L.take_succ h,jH8];rfl
theorem jqI {d:DyD} {i:Nat} (h:i<(U.ju d).length):U.jT d (i+1)=U.jT d i++[U.juR (U.kI (U.jc d) (U.yG (nth (U.ju d) i)))]:=by
 unfold U.jT;rw[L.take_succ h,jIz];rfl
theorem jvj (d:DyD) (i:Nat):(U.jT d i).length<=i:=by
 unfold U.jT;rw[jIL,jH6];omega
theorem jty {c:CrD} (h:U.js c=true) {j:JbD} {p:Int} (a:p∈U.kI c j):0<=p/\p<8:=by
 have d:=(jy h).2.2.1;unfold U.kI at a
 split at a
 .unfold U.yy at a;obtain⟨n,b,rfl⟩:=jIk.1 a;have:=jHZ.1 (jH7.1 b).1;omega
 .cases a
theorem jAe {c:CrD} (h:U.js c=true) (j:JbD):(U.kI c j).length<=8:=by
 have a:=(jy h).2.2.1;unfold U.kI
 split
 .unfold U.yy;rw[jIL];exact jHW (jIH _ _) (by simpa using a)
 .exact jHR _
theorem ju0 {d:DyD} (h:U.jU d=0):U.jw3 (U.jrM d):=by
 refine⟨⟨h,?_⟩,⟨?_,fun x a=> ?_⟩,rfl⟩
 .show(U.jT d (U.ju d).length).length=(U.ju d).length;unfold U.jT;simp
 .show(U.jFR d).length=(U.jh (U.jc d)).length;unfold U.jFR;simp
 .have a:x∈U.jFR d:=a;unfold U.jFR at a;exact(List.mem_replicate.1 a).2
theorem jtK:jph:=by
 unfold jph q97_0 q97_3 q97_4 q97_2 q97_1;rintro⟨d,⟨⟩,⟨⟩⟩ j;refine⟨j,fun h=>⟨?_,rfl⟩,fun h=>⟨jH4 _,rfl,?_,fun c=>(by cases c),fun _=>⟨rfl,rfl,rfl,rfl,fun c=>(by cases c),fun _=> ?_⟩⟩⟩
 .have h:U.jU d≠0:=of_decide_eq_true h;show(none,U.jU d,())=(U.zV d,U.jU d,());unfold U.zV;rw[if_neg h]
 .have hk:U.jU d=0:=Classical.not_not.1 (of_decide_eq_false h);have e:=(jy (zO hk).1.1).2.2.1;have e:d.1.2.1.length<=8:=e;show((d.1.2.1.length:Int)).toNat*24<=140737488355328;omega
 have hk:U.jU d=0:=Classical.not_not.1 (of_decide_eq_false h);clear j h;have f:=(zO hk).1;have r:=f.2.2;have g:(U.ju d).length<=4:=(zb r).1;have n:d.2.2.1.length<=4:=g;refine fun _=>⟨⟨0,⟨⟨rfl,trivial⟩,⟨rfl,rfl,rfl,rfl,rfl,rfl,rfl,rfl,trivial,trivial,trivial,trivial⟩,rfl,rfl,trivial⟩,jHR _⟩,fun x o=>⟨fun h=>⟨by omega,of_decide_eq_true h,fun _=>⟨⟨0,⟨⟨rfl,rfl,trivial⟩,trivial⟩,jHR _⟩,fun y p=>⟨fun a=> ?_,fun a=> ?_⟩⟩⟩,fun h=> ?_⟩⟩
 .have a:(y:Int)<((U.kI (U.jc d) (nth d.2.2.1 (x:Int).toNat).1).length:Int):=of_decide_eq_true a;have b:y<(U.kI (U.jc d) (nth d.2.2.1 (x:Int).toNat).1).length:=(by omega);have s:=jty f.1 (L.mem_nth b);have k:=gR b;have e:=jAe f.1 (nth d.2.2.1 (x:Int).toNat).1;have q:BT.Set' ((2:Int)^(nth (U.kI (U.jc d) (nth d.2.2.1 (x:Int).toNat).1) y).toNat):=BT.two_set (by omega);unfold BT.Set' at q;exact⟨by omega,a,s.1,by show nth (U.kI (U.jc d) (nth d.2.2.1 (x:Int).toNat).1) y<=64;omega,by show jz (1*2^(nth (U.kI (U.jc d) (nth d.2.2.1 (x:Int).toNat).1) y).toNat);rw[wj];exact L.in64 (by omega) (by omega),L.in64 (by omega) (by omega),y+1,⟨⟨by simp,k.symm,trivial⟩,trivial⟩,by show y+1<=(U.kI (U.jc d) (nth d.2.2.1 (x:Int).toNat).1).length;omega,by show(U.kI (U.jc d) (nth d.2.2.1 (x:Int).toNat).1).length-(y+1)<(U.kI (U.jc d) (nth d.2.2.1 (x:Int).toNat).1).length-y;omega⟩
 .have h:(x:Int)<((U.ju d).length:Int):=of_decide_eq_true h;have k:=jqI (d:=d) (i:=x) (by omega);have j:=jvj d x;have p:y<=(U.kI (U.jc d) (nth d.2.2.1 (x:Int).toNat).1).length:=p;have a:¬(y:Int)<((U.kI (U.jc d) (nth d.2.2.1 (x:Int).toNat).1).length:Int):=of_decide_eq_false a;have m:y=(U.kI (U.jc d) (nth d.2.2.1 (x:Int).toNat).1).length:=(by omega);subst m;refine⟨?_,L.in64 (by omega) (by omega),x+1,⟨⟨by simp,trivial⟩,rfl,⟨rfl,rfl,rfl,rfl,rfl,rfl,rfl,rfl,trivial,trivial,trivial,trivial⟩,k.symm,trivial⟩,by show x+1<=(U.ju d).length;omega,by show(U.ju d).length-(x+1)<(U.ju d).length-x;omega⟩;show((U.jT d x).length+1)*8<=140737488355328;omega
 .have h:¬(x:Int)<((U.ju d).length:Int):=of_decide_eq_false h;have o:x<=(U.ju d).length:=o;have l:x=(U.ju d).length:=(by omega);subst l;refine⟨ju0 hk,?_⟩;refine⟨?_,rfl⟩;show(some (U.yk d),(0:Int),())=(U.zV d,U.jU d,());unfold U.zV;rw[if_pos hk,hk]
theorem jcr:qb PR 39 jpT:=jdY jrz jtK Tryz.func39 (kcC jmJ (kcC jvb kcN)) (koC jac koN)
theorem jtL:jpi:=by
 unfold jpi q98_9 q98_8 q98_7 q98_3 q98_0 q98_5 q98_6 q98_4 q98_2 q98_1;rintro⟨d,f,⟨⟩⟩ k t;refine⟨k,fun h=>⟨?_,rfl⟩,fun h=>⟨jH4 _,rfl,?_,fun _=> ?_,fun r=>(by cases r)⟩⟩
 .have h:U.jU d≠0:=of_decide_eq_true h;show(none,U.jU d,())=(U.jw d _,U.vW d _,());unfold U.jw U.vW;rw[if_neg h,if_neg h]
 .have hk:U.jU d=0:=Classical.not_not.1 (of_decide_eq_false h);have e:=(jy (zO hk).1.1).2.2.1;have e:d.1.2.1.length<=8:=e;show((d.1.2.1.length:Int)).toNat*24<=140737488355328;omega
 have hk:U.jU d=0:=Classical.not_not.1 (of_decide_eq_false h);refine⟨rfl,rfl,w7 _ (t hk) ⟨rfl,rfl,fun a=>⟨?_,rfl⟩,fun a=> ?_⟩⟩
 .have a:(!(f.2 (some (U.jP d),())).1)=true:=a;show(none,(1:Int),())=(U.jw d (f.2 (some (U.jP d),())).1,U.vW d (f.2 (some (U.jP d),())).1,());have a:(f.2 (some (U.jP d),())).1=false:=(by simpa using a);unfold U.jw U.vW;rw[a,if_pos hk,if_pos hk,if_neg (by simp),if_neg (by simp)]
 have a:(!(f.2 (some (U.jP d),())).1)=false:=a;have a:(f.2 (some (U.jP d),())).1=true:=(by simpa using a);clear k h;have g:=(zO hk).1;have s:=g.2.2;have j:(U.ju d).length<=4:=(zb s).1;have o:d.2.2.1.length<=4:=j;refine fun _=>⟨⟨0,⟨⟨rfl,trivial⟩,⟨rfl,rfl,rfl,rfl,rfl,rfl,rfl,rfl,trivial,trivial,trivial,trivial⟩,rfl,rfl,trivial⟩,jHR _⟩,fun x p=>⟨fun h=>⟨by omega,of_decide_eq_true h,fun _=>⟨⟨0,⟨⟨rfl,rfl,trivial⟩,trivial⟩,jHR _⟩,fun y q=>⟨fun b=> ?_,fun b=> ?_⟩⟩⟩,fun h=> ?_⟩⟩
 .have b:(y:Int)<((U.kI (U.jc d) (nth d.2.2.1 (x:Int).toNat).1).length:Int):=of_decide_eq_true b;have c:y<(U.kI (U.jc d) (nth d.2.2.1 (x:Int).toNat).1).length:=(by omega);have u:=jty g.1 (L.mem_nth c);have l:=gR c;have e:=jAe g.1 (nth d.2.2.1 (x:Int).toNat).1;have a:BT.Set' ((2:Int)^(nth (U.kI (U.jc d) (nth d.2.2.1 (x:Int).toNat).1) y).toNat):=BT.two_set (by omega);unfold BT.Set' at a;exact⟨by omega,b,u.1,by show nth (U.kI (U.jc d) (nth d.2.2.1 (x:Int).toNat).1) y<=64;omega,by show jz (1*2^(nth (U.kI (U.jc d) (nth d.2.2.1 (x:Int).toNat).1) y).toNat);rw[wj];exact L.in64 (by omega) (by omega),L.in64 (by omega) (by omega),y+1,⟨⟨by simp,l.symm,trivial⟩,trivial⟩,by show y+1<=(U.kI (U.jc d) (nth d.2.2.1 (x:Int).toNat).1).length;omega,by show(U.kI (U.jc d) (nth d.2.2.1 (x:Int).toNat).1).length-(y+1)<(U.kI (U.jc d) (nth d.2.2.1 (x:Int).toNat).1).length-y;omega⟩
 .have h:(x:Int)<((U.ju d).length:Int):=of_decide_eq_true h;have l:=jqI (d:=d) (i:=x) (by omega);have k:=jvj d x;have q:y<=(U.kI (U.jc d) (nth d.2.2.1 (x:Int).toNat).1).length:=q;have b:¬(y:Int)<((U.kI (U.jc d) (nth d.2.2.1 (x:Int).toNat).1).length:Int):=of_decide_eq_false b;have n:y=(U.kI (U.jc d) (nth d.2.2.1 (x:Int).toNat).1).length:=(by omega);subst n;refine⟨?_,L.in64 (by omega) (by omega),x+1,⟨⟨by simp,trivial⟩,rfl,⟨rfl,rfl,rfl,rfl,rfl,rfl,rfl,rfl,trivial,trivial,trivial,trivial⟩,l.symm,trivial⟩,by show x+1<=(U.ju d).length;omega,by show(U.ju d).length-(x+1)<(U.ju d).length-x;omega⟩;show((U.jT d x).length+1)*8<=140737488355328;omega
 .have h:¬(x:Int)<((U.ju d).length:Int):=of_decide_eq_false h;have p:x<=(U.ju d).length:=p;have m:x=(U.ju d).length:=(by omega);subst m;refine⟨ju0 hk,?_⟩;refine⟨?_,rfl⟩;show(some (U.yk d),(0:Int),())=(U.jw d (f.2 (some (U.jP d),())).1,U.vW d (f.2 (some (U.jP d),())).1,());unfold U.jw U.vW;rw[a,if_pos hk,if_pos hk,if_pos rfl,if_pos rfl]
theorem jcs:qb PR 39 jpU:=jdY jrz jtL Tryz.func39 (kcC jmJ (kcC jvb kcN)) (koC jac koN)
end Go.X
namespace Go.X
open Go.Proofs
namespace U
def qM (d:DyD) (n:Nat):List Int:=(List.range n).map (fun(b:Nat)=>jI (jY (yk d)) (b:Int))
def jgV (d:DyD):List Int:=if jU d=0 then qM d (ju d).length else[]
def jg7 (d:DyD):List Int:=if jU d=0 then jGS (yk d) else[]
def srvAt (d:DyD) (b:Nat):Bool:=jd1 d (b:Int) (jI (jY (yk d)) (b:Int))
def jHp (d:DyD) (n:Nat):List Int:=((List.range n).filter (srvAt d)).map (fun(b:Nat)=>(b:Int))
def jEs (d:DyD):List Int:=if jU d=0 then jHp d (ju d).length else[]
def ji (d:DyD) (p:Int):Bool:=ja p 0 (((jh (jc d)).length:Int)-1)
def jj (d:DyD) (b:Int):Bool:=ja b 0 (((ju d).length:Int)-1)
def jg6 (d:DyD) (p:Int):List Int:=jg d (nth (jY (yk d)) p.toNat)
def w5 (d:DyD) (l:List Int) (n:Nat):Int:=(List.range n).foldl (fun s i=>min s (qj d (nth l i) (nth l (i+1)))) 1440
def jjS (d:DyD) (p:Int):List Int:=if vW d (ji d p)=0 then jg6 d p else[]
def jjR (d:DyD) (p:Int):Int:=if vW d (ji d p)=0 then w5 d (jg6 d p) ((jg6 d p).length-1) else 0
def jmd (d:DyD) (b:Int):List Int:=if vW d (jj d b)=0 then jv (yk d) b else[]
def ji9 (d:DyD) (b all t:Int) (x:Int×Int×Bool) (s:Nat):Int×Int×Bool:=
 if((decide (qp (s:Int) all=0)&&(!x.2.2||decide (wh d (s:Int)<x.2.1)))&&jd1 d b (bor t (s:Int)))=true then((s:Int),wh d (s:Int),true) else x
def zg (d:DyD) (b all t:Int) (n:Nat):Int×Int×Bool:=(List.range n).foldl (ji9 d b all t) (0,0,false)
def jbB (d:DyD) (b:Int):Int:=juR (jv (yk d) b)
def jA0 (d:DyD) (b:Int):Int×Int×Bool:=zg d b (jbB d b) (jI (jY (yk d)) b) ((jbB d b).toNat+1)
def jbf (d:DyD) (b:Int):Int:=if vW d (jj d b)=0 then(if(jA0 d b).2.2=true then 0 else 3) else vW d (jj d b)
def jhE (d:DyD) (b:Int):Int:=if jbf d b=0 then(jA0 d b).1 else 0
def jhD (d:DyD) (b:Int):Int:=if jbf d b=0 then(jA0 d b).2.1 else 0
end U
def jws:j9:=⟨[.val tDy],[.slice .int,.int],false,fun d=>[(U.zc d.1).length<=100000],fun d=>(U.jgV d.1,U.jU d.1,())⟩
def jx4:Ann:=fun r=>match r with
 |6=>some fun σ=>{X:=Nat,sl:=fun i=>[(19,.dat .int (i:Int)),(6,.own 6 .int)],ob:=fun i=>[(6,some (.row 3 .int false .yes (U.qM (gb tDy σ 1) i)))],inv:=fun i=>i<=(U.ju (gb tDy σ 1)).length,mu:=fun i=>(U.ju (gb tDy σ 1)).length-i}
 |_=>none
def jv5:Prop:=∀(d:DyD×Unit),(U.zc d.1).length<=100000->(U.zc d.1).length<=100000/\(decide (U.jU d.1≠0)=true->([],U.jU d.1,())=(U.jgV d.1,U.jU d.1,()))/\(decide (U.jU d.1≠0)=false->d.1.2.2.1.length<4611686018427387904->(∃(x:Nat),((0=(x:Int)/\True/\True)/\U.qM d.1 x=[]/\True)/\x<=(U.ju d.1).length)/\∀(x:Nat),x<=(U.ju d.1).length->(decide ((x:Int)<(d.1.2.2.1.length:Int))=true->(U.zV d.1).isSome=true/\(U.jY (U.ro (U.zV d.1))).length<=60/\((U.qM d.1 x).length+[U.jI (U.jY (U.ro (U.zV d.1))) (x:Int)].length)*8<=140737488355328/\jz ((x:Int)+1)/\∃(a:Nat),(((x:Int)+1=(a:Int)/\True/\True)/\U.qM d.1 x++[U.jI (U.jY (U.ro (U.zV d.1))) (x:Int)]=U.qM d.1 a/\True)/\a<=(U.ju d.1).length/\(U.ju d.1).length-a<(U.ju d.1).length-x)/\(decide ((x:Int)<(d.1.2.2.1.length:Int))=false->(U.qM d.1 x,(0:Int),())=(U.jgV d.1,U.jU d.1,())))
def jpM:j9:=⟨[.val tDy],[.slice .int,.int],false,fun d=>[(U.zc d.1).length<=100000],fun d=>(U.jg7 d.1,U.jU d.1,())⟩
def jpp:Prop:=∀(d:DyD×Unit),(U.zc d.1).length<=100000->(U.zc d.1).length<=100000/\(decide (U.jU d.1≠0)=true->([],U.jU d.1,())=(U.jg7 d.1,U.jU d.1,()))/\(decide (U.jU d.1≠0)=false->(U.zV d.1).isSome=true/\((jQ ((((0:Int),[],[],()),[],[],(0:Int),(0:Int),[],()),[],[],[],()) (U.zV d.1)).2.2.2.1,(0:Int),())=(U.jg7 d.1,U.jU d.1,()))
def jpL:j9:=⟨[.val (.ptr tRo),.ref .int],[.bool],false,fun d=>[d.1.isSome=true,(U.jh (U.jc (U.rd (U.ro d.1)))).length<=8],fun d=>(U.ji (U.rd (U.ro d.1)) d.2.1,())⟩
def jpo:Prop:=∀(d:Option RoD×Int×Unit),d.1.isSome=true->(U.jh (U.jc (U.rd (U.ro d.1)))).length<=8->d.1.isSome=true/\(U.jh (U.jc (U.rd (U.ro d.1)))).length<=8/\(U.ja d.2.1 (0:Int) ((↑(U.jh (U.jc (U.rd (U.ro d.1)))).length:Int)-1),())=(U.ji (U.rd (U.ro d.1)) d.2.1,())
def jsA:j9:=⟨[.val (.ptr tRo),.ref .int],[.bool],false,fun d=>[d.1.isSome=true,(U.ju (U.rd (U.ro d.1))).length<=4],fun d=>(U.jj (U.rd (U.ro d.1)) d.2.1,())⟩
def jr2:Prop:=∀(d:Option RoD×Int×Unit),d.1.isSome=true->(U.ju (U.rd (U.ro d.1))).length<=4->d.1.isSome=true/\(U.ju (U.rd (U.ro d.1))).length<=4/\(U.ja d.2.1 (0:Int) ((↑(U.ju (U.rd (U.ro d.1))).length:Int)-1),())=(U.jj (U.rd (U.ro d.1)) d.2.1,())
def jsB:j9:=⟨[.val (.ptr tRo),.ref .int],[.bool],false,fun d=>[d.1.isSome=true,(U.ju (U.rd (U.ro d.1))).length<=4],fun d=>(U.jj (U.rd (U.ro d.1)) d.2.1,())⟩
def jr3:Prop:=∀(d:Option RoD×Int×Unit),d.1.isSome=true->(U.ju (U.rd (U.ro d.1))).length<=4->d.1.isSome=true/\(U.ju (U.rd (U.ro d.1))).length<=4/\(U.ja d.2.1 (0:Int) ((↑(U.ju (U.rd (U.ro d.1))).length:Int)-1),())=(U.jj (U.rd (U.ro d.1)) d.2.1,())
def jwt:j9:=⟨[.val tDy,.val .int],[.slice .int,.int,.int],false,fun d=>[(U.zc d.1).length<=100000],fun d=>(U.jjS d.1 d.2.1,U.jjR d.1 d.2.1,U.vW d.1 (U.ji d.1 d.2.1),())⟩
def jx5:Ann:=fun r=>match r with
 |6=>some fun σ=>{X:=Nat,sl:=fun i=>[(34,.dat .int (i:Int)),(5,.dat .int (U.w5 (gb tDy σ 2) (gd (.slice .int) σ 4) i))],ob:=fun _=>[],inv:=fun i=>i<=(gd (.slice .int) σ 4).length-1,mu:=fun i=>(gd (.slice .int) σ 4).length-1-i}
 |_=>none
abbrev q104_4 (d:DyD×Int×Unit):=(U.ji (U.rd (U.ro (some (U.jP d.1)))) d.2.1)
abbrev q104_1 (d:DyD×Int×Unit):=(U.jw d.1 (q104_4 d))
abbrev q104_2 (d:DyD×Int×Unit):=(jQ ((((0:Int),[],[],()),[],[],(0:Int),(0:Int),[],()),[],[],[],()) (q104_1 d))
abbrev q104_6 (d:DyD×Int×Unit):=(U.rd (U.ro (q104_1 d)))
abbrev q104_0 (d:DyD×Int×Unit):=(U.jg (q104_6 d) (nth (q104_2 d).2.2.1 d.2.1.toNat))
abbrev q104_5 (d:DyD×Int×Unit):=(↑(q104_0 d).length:Int)
abbrev q104_3 (d:DyD×Int×Unit):=(List.take ((max (0:Int) ((q104_5 d)-1)).toNat-Int.toNat 0) (List.drop (Int.toNat 0) (q104_0 d)))
abbrev q104_7 (d:DyD×Int×Unit):=(U.jjS d.1 d.2.1,U.jjR d.1 d.2.1,U.vW d.1 (U.ji d.1 d.2.1),())
def jv6:Prop:=∀(d:DyD×Int×Unit),(U.zc d.1).length<=100000->(U.zc d.1).length<=100000/\(U.jU d.1=0->U.jL [(some (U.jP d.1)).isSome=true,(U.jh (U.jc (U.rd (U.ro (some (U.jP d.1)))))).length<=8])/\(decide (U.vW d.1 (q104_4 d)≠0)=true->([],(0:Int),U.vW d.1 (q104_4 d),())=(q104_7 d))/\(decide (U.vW d.1 (q104_4 d)≠0)=false->(q104_1 d).isSome=true/\0<=d.2.1/\d.2.1<(↑(q104_2 d).2.2.1.length:Int)/\(q104_1 d).isSome=true/\U.jcx (q104_6 d) (nth (q104_2 d).2.2.1 d.2.1.toNat)/\((q104_0 d).length<4611686018427387904->jz ((q104_5 d)-1)/\(0:Int)<=0/\0<=max (0:Int) ((q104_5 d)-1)/\max (0:Int) ((q104_5 d)-1)<=(q104_5 d)/\((q104_3 d).length<4611686018427387904->(∃(x:Nat),((0=(x:Int)/\1440=U.w5 d.1 (q104_0 d) x/\True)/\True)/\x<=(q104_0 d).length-1)/\∀(x:Nat),x<=(q104_0 d).length-1->(decide ((x:Int)<(↑(q104_3 d).length:Int))=true->0<=(x:Int)/\(x:Int)<(q104_5 d)/\jz ((x:Int)+1)/\0<=(x:Int)+1/\(x:Int)+1<(q104_5 d)/\(q104_1 d).isSome=true/\U.jcw (q104_6 d)/\U.kr (q104_6 d) (nth (q104_0 d) (x:Int).toNat)/\U.kr (q104_6 d) (nth (q104_0 d) ((x:Int)+1).toNat)/\jz ((x:Int)+1)/\∃(a:Nat),(((x:Int)+1=(a:Int)/\min (U.w5 d.1 (q104_0 d) x) (U.qj (q104_6 d) (nth (q104_0 d) (x:Int).toNat) (nth (q104_0 d) ((x:Int)+1).toNat))=U.w5 d.1 (q104_0 d) a/\True)/\True)/\a<=(q104_0 d).length-1/\(q104_0 d).length-1-a<(q104_0 d).length-1-x)/\(decide ((x:Int)<(↑(q104_3 d).length:Int))=false->(U.jg (q104_6 d) (nth (q104_2 d).2.2.1 d.2.1.toNat),U.w5 d.1 (q104_0 d) x,(0:Int),())=(q104_7 d)))))
def jyX:j9:=⟨[.val tDy,.val .int],[.slice .int,.int],false,fun d=>[(U.zc d.1).length<=100000],fun d=>(U.jmd d.1 d.2.1,U.vW d.1 (U.jj d.1 d.2.1),())⟩
abbrev q105_0 (d:DyD×Int×Unit):=(U.jj (U.rd (U.ro (some (U.jP d.1)))) d.2.1)
def jyv:Prop:=∀(d:DyD×Int×Unit),(U.zc d.1).length<=100000->(U.zc d.1).length<=100000/\(U.jU d.1=0->U.jL [(some (U.jP d.1)).isSome=true,(U.ju (U.rd (U.ro (some (U.jP d.1))))).length<=4])/\(decide (U.vW d.1 (q105_0 d)≠0)=true->([],U.vW d.1 (q105_0 d),())=(U.jmd d.1 d.2.1,U.vW d.1 (U.jj d.1 d.2.1),()))/\(decide (U.vW d.1 (q105_0 d)≠0)=false->(U.jw d.1 (q105_0 d)).isSome=true/\U.jae (U.ro (U.jw d.1 (q105_0 d)))/\U.jtu (U.ro (U.jw d.1 (q105_0 d)))/\U.kr (U.rd (U.ro (U.jw d.1 (q105_0 d)))) d.2.1/\(U.jv (U.ro (U.jw d.1 (q105_0 d))) d.2.1,(0:Int),())=(U.jmd d.1 d.2.1,U.vW d.1 (U.jj d.1 d.2.1),()))
def jyY:j9:=⟨[.val tDy,.val .int],[.int,.int,.int],false,fun d=>[(U.zc d.1).length<=100000],fun d=>(U.jhE d.1 d.2.1,U.jhD d.1 d.2.1,U.jbf d.1 d.2.1,())⟩
def jBG:Ann:=fun r=>match r with
 |6=>some fun σ=>{X:=Nat,sl:=fun i=>[(31,.dat .int (i:Int)),(8,.dat .int (U.jB (gd (.slice .int) σ 29) i))],ob:=fun _=>[],inv:=fun i=>i<=(gd (.slice .int) σ 29).length,mu:=fun i=>(gd (.slice .int) σ 29).length-i}
 |12=>some fun σ=>{X:=Nat,sl:=fun i=>[(42,.dat .int (i:Int)),(4,.dat .int (U.zg (gb tDy σ 2) (gb .int σ 3) (gd .int σ 8) (gd .int σ 9) i).1),(5,.dat .int (U.zg (gb tDy σ 2) (gb .int σ 3) (gd .int σ 8) (gd .int σ 9) i).2.1),(12,.dat .bool (U.zg (gb tDy σ 2) (gb .int σ 3) (gd .int σ 8) (gd .int σ 9) i).2.2)],ob:=fun _=>[],inv:=fun i=>i<=(gd .int σ 8).toNat+1,mu:=fun i=>(gd .int σ 8).toNat+1-i}
 |_=>none
abbrev q106_4 (d:DyD×Int×Unit):=(U.jj (U.rd (U.ro (some (U.jP d.1)))) d.2.1)
abbrev q106_0 (d:DyD×Int×Unit):=(U.ro (U.jw d.1 (q106_4 d)))
abbrev q106_2 (d:DyD×Int×Unit):=(U.jv (q106_0 d) d.2.1)
abbrev q106_6 (d:DyD×Int×Unit)(x:Nat):=(U.jB (q106_2 d) x)
abbrev q106_1 (d:DyD×Int×Unit)(x:Nat)(a:Nat):=(U.zg d.1 d.2.1 (q106_6 d x) (U.jI (U.jY (q106_0 d)) d.2.1) a)
abbrev q106_3 (d:DyD×Int×Unit)(x:Nat)(a:Nat):=(U.zg d.1 d.2.1 (q106_6 d x) (U.jI (U.jY (q106_0 d)) d.2.1) a)
abbrev q106_5 (d:DyD×Int×Unit)(x:Nat)(a:Nat):=(!(q106_1 d x a).2.2||decide (U.wh (U.rd (q106_0 d)) (a:Int)<(q106_1 d x a).2.1))
abbrev q106_7 (a:Nat)(d:DyD×Int×Unit)(x:Nat):=(decide (qp (a:Int) (q106_6 d x)=0)&&(q106_5 d x a)&&U.jd1 (U.rd (q106_0 d)) d.2.1 (bor (U.jI (U.jY (q106_0 d)) d.2.1) (a:Int)))
abbrev q106_8 (d:DyD×Int×Unit):=(U.jhE d.1 d.2.1,U.jhD d.1 d.2.1,U.jbf d.1 d.2.1,())
def jyw:Prop:=∀(d:DyD×Int×Unit),(U.zc d.1).length<=100000->(U.zc d.1).length<=100000/\(U.jU d.1=0->U.jL [(some (U.jP d.1)).isSome=true,(U.ju (U.rd (U.ro (some (U.jP d.1))))).length<=4])/\(decide (U.vW d.1 (q106_4 d)≠0)=true->((0:Int),(0:Int),U.vW d.1 (q106_4 d),())=(q106_8 d))/\(decide (U.vW d.1 (q106_4 d)≠0)=false->(U.jw d.1 (q106_4 d)).isSome=true/\(U.jY (q106_0 d)).length<=60/\(U.jw d.1 (q106_4 d)).isSome=true/\U.jae (q106_0 d)/\U.jtu (q106_0 d)/\U.kr (U.rd (q106_0 d)) d.2.1/\((q106_2 d).length<4611686018427387904->(∃(x:Nat),((0=(x:Int)/\0=U.jB (q106_2 d) x/\True)/\True)/\x<=(q106_2 d).length)/\∀(x:Nat),x<=(q106_2 d).length->(decide ((x:Int)<(↑(q106_2 d).length:Int))=true->0<=(x:Int)/\(x:Int)<(↑(q106_2 d).length:Int)/\0<=nth (q106_2 d) (x:Int).toNat/\nth (q106_2 d) (x:Int).toNat<=64/\jz ((1:Int)*2^(nth (q106_2 d) (x:Int).toNat).toNat)/\jz ((x:Int)+1)/\∃(b:Nat),(((x:Int)+1=(b:Int)/\bor (q106_6 d x) ((1:Int)*2^(nth (q106_2 d) (x:Int).toNat).toNat)=U.jB (q106_2 d) b/\True)/\True)/\b<=(q106_2 d).length/\(q106_2 d).length-b<(q106_2 d).length-x)/\(decide ((x:Int)<(↑(q106_2 d).length:Int))=false->jz (U.jB (q106_2 d) x+1)/\(∃(a:Nat),((0=(a:Int)/\0=(q106_1 d x a).1/\0=(q106_1 d x a).2.1/\false=(q106_1 d x a).2.2/\True)/\True)/\a<=(q106_6 d x).toNat+1)/\∀(a:Nat),a<=(q106_6 d x).toNat+1->(decide ((a:Int)<U.jB (q106_2 d) x+1)=true->(U.jw d.1 (q106_4 d)).isSome=true/\U.js (U.jc (U.rd (q106_0 d)))=true/\0<=(a:Int)/\(a:Int)<=1000000/\((decide (qp (a:Int) (q106_6 d x)=0)&&(q106_5 d x a))=true->(U.jw d.1 (q106_4 d)).isSome=true)/\((decide (qp (a:Int) (q106_6 d x)=0)&&(q106_5 d x a))=true->U.kr (U.rd (q106_0 d)) d.2.1)/\((q106_7 a d x)=true->jz ((a:Int)+1)/\∃(b:Nat),(((a:Int)+1=(b:Int)/\true=(q106_3 d x b).2.2/\U.wh (U.rd (q106_0 d)) (a:Int)=(q106_3 d x b).2.1/\(a:Int)=(q106_3 d x b).1/\True)/\True)/\b<=(q106_6 d x).toNat+1/\(q106_6 d x).toNat+1-b<(q106_6 d x).toNat+1-a)/\((q106_7 a d x)=false->jz ((a:Int)+1)/\∃(b:Nat),(((q106_1 d x a).2.2=(q106_3 d x b).2.2/\(q106_1 d x a).2.1=(q106_3 d x b).2.1/\(q106_1 d x a).1=(q106_3 d x b).1/\(a:Int)+1=(b:Int)/\True)/\True)/\b<=(q106_6 d x).toNat+1/\(q106_6 d x).toNat+1-b<(q106_6 d x).toNat+1-a))/\(decide ((a:Int)<U.jB (q106_2 d) x+1)=false->((!(q106_1 d x a).2.2)=true->((0:Int),(0:Int),(3:Int),())=(q106_8 d))/\((!(q106_1 d x a).2.2)=false->((q106_1 d x a).1,(q106_1 d x a).2.1,(0:Int),())=(q106_8 d))))))
end Go.X
namespace Go.X
open Go.Proofs
theorem jsr {r:RoD} {l:List ShD} (d:U.zK (U.rd r)=true) (e:∀s∈l,s∈U.zc (U.rd r)) (nd:l.Nodup) (a:(U.jY r).length=(U.jh (U.jc (U.rd r))).length) (b:U.jEP (U.jY r)) (c:U.jGS r=U.kj):
 ∀i,i<=l.length->U.yR r l i (U.kZ r l i)
 |0,_=>jyM a b c
 |i+1,hi=>by
  rw[jfC hi]
  exact jDA d e nd hi (jsr d e nd a b c i (by omega))
structure jrG (d:DyD):Prop where
 may:U.jae (U.yk d)
 len:(U.jY (U.yk d)).length=(U.jh (U.jc d)).length
 row:∀p,(nth (U.jY (U.yk d)) p).Nodup/\∀b∈nth (U.jY (U.yk d)) p,U.kr d b
theorem jcf {d:DyD} (h:U.jU d=0):jrG d:=by
 obtain⟨⟨_,i⟩,⟨j,c⟩,e⟩:=ju0 h;have f:=(zO h).1;have a:=jsr (r:=U.jrM d) (l:=U.ke d) f.2.2 (fun s k=>jaR.1 k) (gQ d) j c e _ (jHM _);refine⟨⟨f,i⟩,a.1,fun p=> ?_⟩;have:=a.2.2 p;exact⟨this.1,fun b g=>(this.2 b g).1⟩
theorem jrG.len60 {d:DyD} (h:jrG d):(U.jY (U.yk d)).length<=60:=by
 have a:=(jy h.may.1.1).2.2.1;have a:(U.jh (U.jc d)).length<=8:=a;rw[h.len];omega
theorem jrG.bs {d:DyD} (h:jrG d) (p:Nat):U.jcx d (nth (U.jY (U.yk d)) p):=by
 have:=jEu (h.row p).1 (h.row p).2;have a:(U.ju d).length<=4:=(zb h.may.1.2.2).1;exact⟨by omega,(h.row p).2⟩
theorem jrG.on {d:DyD} (h:jrG d):U.jtu (U.yk d):=by
 refine⟨h.len,fun l b=> ?_⟩;obtain⟨p,c,rfl⟩:=L.mem_iff.1 b;have:=jEu (h.row p).1 (h.row p).2;have a:(U.ju d).length<=4:=(zb h.may.1.2.2).1;exact⟨by omega,(h.row p).2⟩
theorem jzE {d:DyD} (h:U.jU d=0):U.zV d=some (U.yk d):=if_pos h
theorem jn8 {d:DyD} {b:Bool} (h:U.vW d b=0):U.jU d=0/\b=true/\U.jw d b=some (U.yk d):=by
 unfold U.vW at h
 split at h
 .rename_i hk;cases b with
  |true=>exact⟨hk,rfl,by unfold U.jw;rw[if_pos hk,if_pos rfl]⟩
  |false=>simp at h
 .contradiction
theorem jwg (d:DyD) (n:Nat):U.qM d (n+1)=U.qM d n++[U.jI (U.jY (U.yk d)) (n:Int)]:=by
 unfold U.qM;rw[jIe,jIz];rfl
theorem jAE:jv5:=by
 rintro⟨d,⟨⟩⟩ j;refine⟨j,fun h=> ?_,fun h _=>⟨⟨0,⟨⟨rfl,trivial,trivial⟩,rfl,trivial⟩,jHR _⟩,fun x g=>⟨fun a=> ?_,fun a=> ?_⟩⟩⟩
 .have h:U.jU d≠0:=of_decide_eq_true h;show([],U.jU d,())=(U.jgV d,U.jU d,());unfold U.jgV;rw[if_neg h]
 .have hk:U.jU d=0:=Classical.not_not.1 (of_decide_eq_false h);have f:=jcf hk;have i:(U.ju d).length<=4:=(zb f.may.1.2.2).1;have a:(x:Int)<((U.ju d).length:Int):=of_decide_eq_true a;have k:=jwg d x;have e:(U.qM d x).length=x:=(by unfold U.qM;simp);have b:=jzE hk;refine⟨by show(U.zV d).isSome=true;rw[b];rfl,by show(U.jY (U.ro (U.zV d))).length<=60;rw[b];exact f.len60,?_,L.in64 (by omega) (by omega),x+1,⟨⟨by simp,trivial,trivial⟩,?_,trivial⟩,by show x+1<=(U.ju d).length;omega,by show(U.ju d).length-(x+1)<(U.ju d).length-x;omega⟩
  .show((U.qM d x).length+1)*8<=_;omega
  .show U.qM d x++[U.jI (U.jY (U.ro (U.zV d))) (x:Int)]=U.qM d (x+1);rw[b,k];rfl
 .have hk:U.jU d=0:=Classical.not_not.1 (of_decide_eq_false h);have g:x<=(U.ju d).length:=g;have a:¬(x:Int)<((U.ju d).length:Int):=of_decide_eq_false a;have c:x=(U.ju d).length:=(by omega);subst c;show(U.qM d _,(0:Int),())=(U.jgV d,U.jU d,());unfold U.jgV;rw[if_pos hk,hk]
theorem jwV:zm PR 18 jws:=kH jx4 jAE Tryz.func18 (kcC jbu kcN) (koC jcr koN)
theorem jtS:jpp:=by
 rintro⟨d,⟨⟩⟩ b;refine⟨b,fun h=> ?_,fun h=> ?_⟩
 .have h:U.jU d≠0:=of_decide_eq_true h;show([],U.jU d,())=(U.jg7 d,U.jU d,());unfold U.jg7;rw[if_neg h]
 .have hk:U.jU d=0:=Classical.not_not.1 (of_decide_eq_false h);have a:=jzE hk;refine⟨by show(U.zV d).isSome=true;rw[a];rfl,?_⟩;show(U.jGS (U.ro (U.zV d)),(0:Int),())=(U.jg7 d,U.jU d,());unfold U.jg7;rw[if_pos hk,hk,a];rfl
theorem jqz:zm PR 20 jpM:=j8 jtS Tryz.func20 kcN (koC jcr koN)
theorem jtR:jpo:=by
 rintro⟨r,n,⟨⟩⟩ a b;exact⟨a,b,rfl⟩
theorem jqy:zm PR 56 jpL:=j8 jtR Tryz.func56 (kcC jf1 kcN) koN
theorem jxl:jr2:=by
 rintro⟨r,n,⟨⟩⟩ a b;exact⟨a,b,rfl⟩
theorem jth:zm PR 62 jsA:=j8 jxl Tryz.func62 (kcC yr kcN) koN
theorem jxm:jr3:=by
 rintro⟨r,n,⟨⟩⟩ a b;exact⟨a,b,rfl⟩
theorem jti:zm PR 67 jsB:=j8 jxm Tryz.func67 (kcC yr kcN) koN
theorem jCQ:jyv:=by
 unfold jyv q105_0;rintro⟨d,b,⟨⟩⟩ k;refine⟨k,fun hk=>⟨rfl,(zb (zO hk).1.2.2).1,trivial⟩,fun h=> ?_,fun h=> ?_⟩
 .have h:U.vW d (U.jj d b)≠0:=of_decide_eq_true h;show([],U.vW d (U.jj d b),())=(U.jmd d b,U.vW d (U.jj d b),());unfold U.jmd;rw[if_neg h]
 .have h:U.vW d (U.jj d b)=0:=Classical.not_not.1 (of_decide_eq_false h);obtain⟨hk,c,a⟩:=jn8 h;have e:=jcf hk;have f:(U.jw d (U.jj d b)).isSome=true:=(by rw[a];rfl);have g:U.jae (U.ro (U.jw d (U.jj d b))):=(by rw[a];exact e.may);have i:U.jtu (U.ro (U.jw d (U.jj d b))):=(by rw[a];exact e.on);have j:U.kr (U.rd (U.ro (U.jw d (U.jj d b)))) b:=by
   rw[a];unfold U.jj U.ja at c;simp only[jHK,decide_eq_true_eq] at c;exact⟨c.1,by show b<((U.ju d).length:Int);omega⟩
  refine⟨f,g,i,j,?_⟩;show(U.jv (U.ro (U.jw d (U.jj d b))) b,(0:Int),())=(U.jmd d b,U.vW d (U.jj d b),());unfold U.jmd;rw[if_pos h,h,a];rfl
theorem jzQ:zm PR 26 jyX:=j8 jCQ Tryz.func26 (kcC jth (kcC jbv kcN)) (koC jcs koN)
theorem jmA (d:DyD) (l:List Int) (n:Nat):U.w5 d l (n+1)=min (U.w5 d l n) (U.qj d (nth l n) (nth l (n+1))):=by
 unfold U.w5;rw[jIe,jH8];rfl
theorem jAF:jv6:=by
 unfold jv6 q104_7 q104_3 q104_5 q104_0 q104_6 q104_2 q104_1 q104_4;rintro⟨d,p,⟨⟩⟩ o;refine⟨o,fun hk=>⟨rfl,(jy (zO hk).1.1).2.2.1,trivial⟩,fun h=> ?_,fun h=> ?_⟩
 .have h:U.vW d (U.ji d p)≠0:=of_decide_eq_true h;show([],(0:Int),U.vW d (U.ji d p),())=(U.jjS d p,U.jjR d p,U.vW d (U.ji d p),());unfold U.jjS U.jjR;rw[if_neg h,if_neg h]
 .have h:U.vW d (U.ji d p)=0:=Classical.not_not.1 (of_decide_eq_false h);obtain⟨hk,g,u⟩:=jn8 h;have j:=jcf hk;have m:(U.jw d (U.ji d p)).isSome=true:=(by rw[u];rfl);have k:U.ro (U.jw d (U.ji d p))=U.yk d:=(by rw[u];rfl);have f:U.rd (U.ro (U.jw d (U.ji d p)))=d:=(by rw[k];rfl);unfold U.ji U.ja at g;simp only[jHK,decide_eq_true_eq] at g;have w:(nth (U.jY (U.yk d)) p.toNat).length<=12:=(j.bs p.toNat).1;have a:U.jg (U.rd (U.ro (U.jw d (U.ji d p)))) (nth (U.jY (U.ro (U.jw d (U.ji d p)))) p.toNat)=U.jg6 d p:=(by rw[f,k];rfl);have v:(U.jg6 d p).length<=12:=(by unfold U.jg6;rw[jjI];exact w);have c:∀b∈U.jg6 d p,U.kr d b:=fun b g=>(j.bs p.toNat).2 b (jjH.1 g)
  have s:∀{l:List Int},l=U.jg6 d p->(l.take ((max 0 ((l.length:Int)-1)).toNat-Int.toNat 0)).length=(U.jg6 d p).length-1:=by
   intro l o;subst o;rw[jH6];simp only[Int.toNat_zero];omega
  refine⟨m,g.1,?_,m,?_,fun _=> ?_⟩
  .show p<((U.jY (U.ro (U.jw d (U.ji d p)))).length:Int);rw[k,j.len];omega
  .show U.jcx (U.rd (U.ro (U.jw d (U.ji d p)))) (nth (U.jY (U.ro (U.jw d (U.ji d p)))) p.toNat);rw[f,k];exact j.bs _
  have n:((U.jg (U.rd (U.ro (U.jw d (U.ji d p)))) (nth (U.jY (U.ro (U.jw d (U.ji d p)))) p.toNat)).length:Int)=((U.jg6 d p).length:Int):=(by rw[a]);refine⟨?_,jIA 0,?_,?_,fun _=>⟨⟨0,⟨⟨rfl,rfl,trivial⟩,trivial⟩,jHR _⟩,fun x q=>⟨fun e=> ?_,fun e=> ?_⟩⟩⟩
  .show jz (((U.jg (U.rd (U.ro (U.jw d (U.ji d p)))) (nth (U.jY (U.ro (U.jw d (U.ji d p)))) p.toNat)).length:Int)-1);rw[n];exact L.in64 (by omega) (by omega)
  .exact Int.le_max_left _ _
  .show max 0 (((U.jg (U.rd (U.ro (U.jw d (U.ji d p)))) (nth (U.jY (U.ro (U.jw d (U.ji d p)))) p.toNat)).length:Int)-1)<=((U.jg (U.rd (U.ro (U.jw d (U.ji d p)))) (nth (U.jY (U.ro (U.jw d (U.ji d p)))) p.toNat)).length:Int);omega
  .have e:(x:Int)<(((U.jg (U.rd (U.ro (U.jw d (U.ji d p)))) (nth (U.jY (U.ro (U.jw d (U.ji d p)))) p.toNat)).take ((max 0 (((U.jg (U.rd (U.ro (U.jw d (U.ji d p)))) (nth (U.jY (U.ro (U.jw d (U.ji d p)))) p.toNat)).length:Int)-1)).toNat-Int.toNat 0)).length:Int):=of_decide_eq_true e;rw[s a] at e;have y:=c _ (L.mem_nth (l:=U.jg6 d p) (i:=x) (by omega));have z:=c _ (L.mem_nth (l:=U.jg6 d p) (i:=x+1) (by omega));have A:=jmA d (U.jg6 d p) x;have t:((x:Int)+1).toNat=x+1:=(by omega);refine⟨by omega,?_,L.in64 (by omega) (by omega),by omega,?_,m,?_,?_,?_,L.in64 (by omega) (by omega),x+1,⟨⟨by simp,?_,trivial⟩,trivial⟩,?_,?_⟩
   .show(x:Int)<((U.jg (U.rd (U.ro (U.jw d (U.ji d p)))) (nth (U.jY (U.ro (U.jw d (U.ji d p)))) p.toNat)).length:Int);rw[n];omega
   .show(x:Int)+1<((U.jg (U.rd (U.ro (U.jw d (U.ji d p)))) (nth (U.jY (U.ro (U.jw d (U.ji d p)))) p.toNat)).length:Int);rw[n];omega
   .show U.jcw (U.rd (U.ro (U.jw d (U.ji d p))));rw[f];exact j.may.1
   .show U.kr (U.rd (U.ro (U.jw d (U.ji d p)))) (nth (U.jg (U.rd (U.ro (U.jw d (U.ji d p)))) (nth (U.jY (U.ro (U.jw d (U.ji d p)))) p.toNat)) x);rw[a,f];exact y
   .show U.kr (U.rd (U.ro (U.jw d (U.ji d p)))) (nth (U.jg (U.rd (U.ro (U.jw d (U.ji d p)))) (nth (U.jY (U.ro (U.jw d (U.ji d p)))) p.toNat)) ((x:Int)+1).toNat);rw[a,f,t];exact z
   .show min (U.w5 d (U.jg (U.rd (U.ro (U.jw d (U.ji d p)))) (nth (U.jY (U.ro (U.jw d (U.ji d p)))) p.toNat)) x) (U.qj (U.rd (U.ro (U.jw d (U.ji d p)))) (nth (U.jg (U.rd (U.ro (U.jw d (U.ji d p)))) (nth (U.jY (U.ro (U.jw d (U.ji d p)))) p.toNat)) x) (nth (U.jg (U.rd (U.ro (U.jw d (U.ji d p)))) (nth (U.jY (U.ro (U.jw d (U.ji d p)))) p.toNat)) ((x:Int)+1).toNat))=U.w5 d (U.jg (U.rd (U.ro (U.jw d (U.ji d p)))) (nth (U.jY (U.ro (U.jw d (U.ji d p)))) p.toNat)) (x+1);rw[a,f,t,A]
   .show x+1<=(U.jg (U.rd (U.ro (U.jw d (U.ji d p)))) (nth (U.jY (U.ro (U.jw d (U.ji d p)))) p.toNat)).length-1;rw[a];omega
   .show(U.jg (U.rd (U.ro (U.jw d (U.ji d p)))) (nth (U.jY (U.ro (U.jw d (U.ji d p)))) p.toNat)).length-1-(x+1)<(U.jg (U.rd (U.ro (U.jw d (U.ji d p)))) (nth (U.jY (U.ro (U.jw d (U.ji d p)))) p.toNat)).length-1-x;rw[a];omega
  .have e:¬(x:Int)<(((U.jg (U.rd (U.ro (U.jw d (U.ji d p)))) (nth (U.jY (U.ro (U.jw d (U.ji d p)))) p.toNat)).take ((max 0 (((U.jg (U.rd (U.ro (U.jw d (U.ji d p)))) (nth (U.jY (U.ro (U.jw d (U.ji d p)))) p.toNat)).length:Int)-1)).toNat-Int.toNat 0)).length:Int):=of_decide_eq_false e;rw[s a] at e;have q:x<=(U.jg (U.rd (U.ro (U.jw d (U.ji d p)))) (nth (U.jY (U.ro (U.jw d (U.ji d p)))) p.toNat)).length-1:=q;rw[a] at q;have r:x=(U.jg6 d p).length-1:=(by omega);subst r;show(U.jg (U.rd (U.ro (U.jw d (U.ji d p)))) (nth (U.jY (U.ro (U.jw d (U.ji d p)))) p.toNat),U.w5 d (U.jg (U.rd (U.ro (U.jw d (U.ji d p)))) (nth (U.jY (U.ro (U.jw d (U.ji d p)))) p.toNat)) ((U.jg6 d p).length-1),(0:Int),())=(U.jjS d p,U.jjR d p,U.vW d (U.ji d p),());rw[a];unfold U.jjS U.jjR;rw[if_pos h,if_pos h,h]
theorem jwW:zm PR 24 jwt:=kH jx5 jAF Tryz.func24 (kcC jqy (kcC yW (kcC jad kcN))) (koC jcs koN)
end Go.X
namespace Go.X
open Go.Proofs
theorem yi {l:List Int} (h:∀p∈l,0<=p/\p<8):∀n,n<=l.length->BT.Set' (U.jB l n)/\∀q,BT.has (U.jB l n) q=true->q<8
 |0,_=>⟨BT.zero_set,fun q a=>by rw[show U.jB l 0=0 from rfl,BT.has_zero] at a;cases a⟩
 |n+1,d=>by
  have b:=yi h n (by omega)
  have e:=h _ (L.mem_nth (l:=l) (i:=n) (by omega))
  have c:BT.Set' ((2:Int)^(nth l n).toNat):=BT.two_set (by omega)
  rw[gR (by omega),wj]
  refine⟨BT.bor_set b.1 c,fun q a=> ?_⟩
  rw[BT.has_bor b.1 c,jIK,BT.has_two,decide_eq_true_eq] at a
  rcases a with a|a
  .exact b.2 q a
  .omega
theorem jB8 {l:List Int} (h:∀p∈l,0<=p/\p<8) {n:Nat} (b:n<=l.length):0<=U.jB l n/\U.jB l n<256:=by
 have a:=yi h n b;refine⟨?_,?_⟩
 .have:=a.1;unfold BT.Set' at this;exact this.1
 .exact BT.lt_of_has (k:=8) a.1 a.2
theorem jvt {d:DyD} (e:jrG d) {b p:Int} (c:p∈U.jv (U.yk d) b):0<=p/\p<8:=by
 have a:=(jy e.may.1.1).2.2.1;have a:(U.jh (U.jc d)).length<=8:=a;unfold U.jv U.kA at c;obtain⟨n,f,rfl⟩:=jIk.1 c;have:=jHZ.1 (jH7.1 f).1;rw[e.len] at this;omega
theorem jna (d:DyD) (b all t:Int) (n:Nat):U.zg d b all t (n+1)=U.ji9 d b all t (U.zg d b all t n) n:=by
 unfold U.zg;rw[jIe,jH8];rfl
theorem jCR:jyw:=by
 unfold jyw q106_8 q106_7 q106_5 q106_3 q106_1 q106_6 q106_2 q106_0 q106_4;rintro⟨d,b,⟨⟩⟩ S;refine⟨S,fun hk=>⟨rfl,(zb (zO hk).1.2.2).1,trivial⟩,fun h=> ?_,fun h=> ?_⟩
 .have h:U.vW d (U.jj d b)≠0:=of_decide_eq_true h;have e:U.jbf d b=U.vW d (U.jj d b):=(by unfold U.jbf;rw[if_neg h]);show((0:Int),(0:Int),U.vW d (U.jj d b),())=(U.jhE d b,U.jhD d b,U.jbf d b,());unfold U.jhE U.jhD;rw[e,if_neg h,if_neg h]
 .have h:U.vW d (U.jj d b)=0:=Classical.not_not.1 (of_decide_eq_false h);obtain⟨hk,z,J⟩:=jn8 h;have g:=jcf hk;have R:(U.ju d).length<=4:=(zb g.may.1.2.2).1;have r:(U.jw d (U.jj d b)).isSome=true:=(by rw[J];rfl);have n:U.ro (U.jw d (U.jj d b))=U.yk d:=(by rw[J];rfl);have s:U.rd (U.ro (U.jw d (U.jj d b)))=d:=(by rw[n];rfl);have O:U.jae (U.ro (U.jw d (U.jj d b))):=(by rw[n];exact g.may);have P:U.jtu (U.ro (U.jw d (U.jj d b))):=(by rw[n];exact g.on);have v:U.kr d b:=by
   unfold U.jj U.ja at z;simp only[jHK,decide_eq_true_eq] at z;exact⟨z.1,by omega⟩
  have G:U.kr (U.rd (U.ro (U.jw d (U.jj d b)))) b:=(by rw[s];exact v);have Q:(U.jY (U.ro (U.jw d (U.jj d b)))).length<=60:=(by rw[n];exact g.len60);have t:U.jv (U.ro (U.jw d (U.jj d b))) b=U.jv (U.yk d) b:=(by rw[n]);have I:U.jI (U.jY (U.ro (U.jw d (U.jj d b)))) b=U.jI (U.jY (U.yk d)) b:=(by rw[n]);have o:∀p∈U.jv (U.yk d) b,0<=p/\p<8:=fun p T=>jvt g T
  have A:(U.jv (U.yk d) b).length<=8:=by
   have w:=(jy g.may.1.1).2.2.1;have w:(U.jh (U.jc d)).length<=8:=w;exact jHW (jm7 _ _ _) (by rw[g.len];exact w)
  refine⟨r,Q,r,O,P,G,fun _=>⟨⟨0,⟨⟨rfl,rfl,trivial⟩,trivial⟩,jHR _⟩,fun x M=>⟨fun m=> ?_,fun m=> ?_⟩⟩⟩
  .have m:(x:Int)<((U.jv (U.ro (U.jw d (U.jj d b))) b).length:Int):=of_decide_eq_true m;have B:0<=nth (U.jv (U.ro (U.jw d (U.jj d b))) b) x/\nth (U.jv (U.ro (U.jw d (U.jj d b))) b) x<8:=by
    rw[t] at m⊢;exact o _ (L.mem_nth (by omega))
   have V:=gR (l:=U.jv (U.ro (U.jw d (U.jj d b))) b) (i:=x) (by omega);have f:BT.Set' ((2:Int)^(nth (U.jv (U.ro (U.jw d (U.jj d b))) b) x).toNat):=BT.two_set (by omega);unfold BT.Set' at f;have K:(U.jv (U.ro (U.jw d (U.jj d b))) b).length<=8:=(by rw[t];exact A);exact⟨by omega,m,B.1,by show nth (U.jv (U.ro (U.jw d (U.jj d b))) b) x<=64;omega,by show jz (1*2^(nth (U.jv (U.ro (U.jw d (U.jj d b))) b) x).toNat);rw[wj];exact L.in64 (by omega) (by omega),L.in64 (by omega) (by omega),x+1,⟨⟨by simp,V.symm,trivial⟩,trivial⟩,by show x+1<=(U.jv (U.ro (U.jw d (U.jj d b))) b).length;omega,by show(U.jv (U.ro (U.jw d (U.jj d b))) b).length-(x+1)<(U.jv (U.ro (U.jw d (U.jj d b))) b).length-x;omega⟩
  .have m:¬(x:Int)<((U.jv (U.ro (U.jw d (U.jj d b))) b).length:Int):=of_decide_eq_false m;have M:x<=(U.jv (U.ro (U.jw d (U.jj d b))) b).length:=M;have C:x=(U.jv (U.ro (U.jw d (U.jj d b))) b).length:=(by omega);have j:U.jB (U.jv (U.ro (U.jw d (U.jj d b))) b) x=U.jbB d b:=by
    rw[C,t];rfl
   have W:0<=U.jbB d b/\U.jbB d b<256:=jB8 o (jHM _);have k:∀y,U.zg d b (U.jB (U.jv (U.ro (U.jw d (U.jj d b))) b) x) (U.jI (U.jY (U.ro (U.jw d (U.jj d b)))) b) y=U.zg d b (U.jbB d b) (U.jI (U.jY (U.yk d)) b) y:=by
    intro y;rw[j,I]
   refine⟨?_,⟨0,⟨⟨rfl,rfl,rfl,rfl,trivial⟩,trivial⟩,jHR _⟩,fun y D=>⟨fun f=> ?_,fun f=> ?_⟩⟩
   .show jz (U.jB (U.jv (U.ro (U.jw d (U.jj d b))) b) x+1);rw[j];exact L.in64 (by omega) (by omega)
   .have f:(y:Int)<U.jB (U.jv (U.ro (U.jw d (U.jj d b))) b) x+1:=of_decide_eq_true f;rw[j] at f;have q:=jna d b (U.jbB d b) (U.jI (U.jY (U.yk d)) b) y;have N:y+1<=(U.jB (U.jv (U.ro (U.jw d (U.jj d b))) b) x).toNat+1:=(by rw[j];omega);have F:(U.jB (U.jv (U.ro (U.jw d (U.jj d b))) b) x).toNat+1-(y+1)<(U.jB (U.jv (U.ro (U.jw d (U.jj d b))) b) x).toNat+1-y:=(by rw[j];omega);have H:((decide (qp (y:Int) (U.jB (U.jv (U.ro (U.jw d (U.jj d b))) b) x)=0)&&(!(U.zg d b (U.jB (U.jv (U.ro (U.jw d (U.jj d b))) b) x) (U.jI (U.jY (U.ro (U.jw d (U.jj d b)))) b) y).2.2||decide (U.wh (U.rd (U.ro (U.jw d (U.jj d b)))) (y:Int)<(U.zg d b (U.jB (U.jv (U.ro (U.jw d (U.jj d b))) b) x) (U.jI (U.jY (U.ro (U.jw d (U.jj d b)))) b) y).2.1)))&&U.jd1 (U.rd (U.ro (U.jw d (U.jj d b)))) b (bor (U.jI (U.jY (U.ro (U.jw d (U.jj d b)))) b) (y:Int)))=((decide (qp (y:Int) (U.jbB d b)=0)&&(!(U.zg d b (U.jbB d b) (U.jI (U.jY (U.yk d)) b) y).2.2||decide (U.wh d (y:Int)<(U.zg d b (U.jbB d b) (U.jI (U.jY (U.yk d)) b) y).2.1)))&&U.jd1 d b (bor (U.jI (U.jY (U.yk d)) b) (y:Int))):=by
     rw[k,j,I,s]
    refine⟨r,?_,by omega,by omega,fun _=>r,fun _=>G,fun c=> ?_,fun c=> ?_⟩
    .show U.js (U.jc (U.rd (U.ro (U.jw d (U.jj d b)))))=true;rw[s];exact g.may.1.1
    .have c:=H.symm.trans c;have a:U.zg d b (U.jbB d b) (U.jI (U.jY (U.yk d)) b) (y+1)=((y:Int),U.wh d (y:Int),true):=by
      rw[q];unfold U.ji9;rw[if_pos c]
     refine⟨L.in64 (by omega) (by omega),y+1,⟨⟨by simp,?_,?_,?_,trivial⟩,trivial⟩,N,F⟩
     .show true=(U.zg d b (U.jB (U.jv (U.ro (U.jw d (U.jj d b))) b) x) (U.jI (U.jY (U.ro (U.jw d (U.jj d b)))) b) (y+1)).2.2;rw[k,a]
     .show U.wh (U.rd (U.ro (U.jw d (U.jj d b)))) (y:Int)=(U.zg d b (U.jB (U.jv (U.ro (U.jw d (U.jj d b))) b) x) (U.jI (U.jY (U.ro (U.jw d (U.jj d b)))) b) (y+1)).2.1;rw[k,a,s]
     .show(y:Int)=(U.zg d b (U.jB (U.jv (U.ro (U.jw d (U.jj d b))) b) x) (U.jI (U.jY (U.ro (U.jw d (U.jj d b)))) b) (y+1)).1;rw[k,a]
    .have c:=H.symm.trans c;have a:U.zg d b (U.jB (U.jv (U.ro (U.jw d (U.jj d b))) b) x) (U.jI (U.jY (U.ro (U.jw d (U.jj d b)))) b) (y+1)=U.zg d b (U.jB (U.jv (U.ro (U.jw d (U.jj d b))) b) x) (U.jI (U.jY (U.ro (U.jw d (U.jj d b)))) b) y:=by
      rw[k,k,q];unfold U.ji9;rw[c,if_neg (by simp)]
     exact⟨L.in64 (by omega) (by omega),y+1,⟨⟨congrArg (·.2.2) a.symm,congrArg (·.2.1) a.symm,congrArg (·.1) a.symm,by simp,trivial⟩,trivial⟩,N,F⟩
   .have f:¬(y:Int)<U.jB (U.jv (U.ro (U.jw d (U.jj d b))) b) x+1:=of_decide_eq_false f;have D:y<=(U.jB (U.jv (U.ro (U.jw d (U.jj d b))) b) x).toNat+1:=D;rw[j] at f D;have E:y=(U.jbB d b).toNat+1:=(by omega);have u:U.zg d b (U.jB (U.jv (U.ro (U.jw d (U.jj d b))) b) x) (U.jI (U.jY (U.ro (U.jw d (U.jj d b)))) b) y=U.jA0 d b:=by
     rw[k,E];rfl
    refine⟨fun c=> ?_,fun c=> ?_⟩
    .have c:(!(U.zg d b (U.jB (U.jv (U.ro (U.jw d (U.jj d b))) b) x) (U.jI (U.jY (U.ro (U.jw d (U.jj d b)))) b) y).2.2)=true:=c;rw[u] at c;have c:(U.jA0 d b).2.2=false:=(by simpa using c);have e:U.jbf d b=3:=(by unfold U.jbf;rw[if_pos h,c,if_neg (by simp)]);show((0:Int),(0:Int),(3:Int),())=(U.jhE d b,U.jhD d b,U.jbf d b,());unfold U.jhE U.jhD;rw[e];rfl
    .have c:(!(U.zg d b (U.jB (U.jv (U.ro (U.jw d (U.jj d b))) b) x) (U.jI (U.jY (U.ro (U.jw d (U.jj d b)))) b) y).2.2)=false:=c;rw[u] at c;have c:(U.jA0 d b).2.2=true:=(by simpa using c);have e:U.jbf d b=0:=(by unfold U.jbf;rw[if_pos h,c,if_pos rfl]);show((U.zg d b (U.jB (U.jv (U.ro (U.jw d (U.jj d b))) b) x) (U.jI (U.jY (U.ro (U.jw d (U.jj d b)))) b) y).1,(U.zg d b (U.jB (U.jv (U.ro (U.jw d (U.jj d b))) b) x) (U.jI (U.jY (U.ro (U.jw d (U.jj d b)))) b) y).2.1,(0:Int),())=(U.jhE d b,U.jhD d b,U.jbf d b,());rw[u];unfold U.jhE U.jhD;rw[e];rfl
theorem jzR:zm PR 28 jyY:=kH jBG jCR Tryz.func28 (kcC jti (kcC jbu (kcC jbv (kcC jcq (kcC jbw kcN))))) (koC jcs koN)
end Go.X
namespace Go.X
open Go.Proofs
abbrev tSe:Ty:= .st [.ptr tRo,.slice (.slice .int),.slice .int,.slice .int,.int,.bool]
abbrev jHA:Sh:= .box 70 [.dat (.ptr tRo),.row 33 (.slice .int) .unk,.row 3 .int .no,.row 3 .int .unk,.dat .int,.dat .bool]
abbrev SeD:Type:=Option RoD×List (List Int)×List Int×List Int×Int×Bool×Unit
abbrev StD:Type:=List Int×List Int×Int×Bool
namespace U
def wC (ts:List Int) (p:Int) (n:Nat):List Int:=((List.range n).filter (fun i=>decide (qL (nth ts i/2^p.toNat) 1=1))).map (fun(i:Nat)=>(i:Int))
def yn (r:RoD) (ts:List Int) (b n:Nat):Bool:=(List.range n).all (fun p=>gC r (p:Int) (wC ts (p:Int) (b+1)))
def qI (r:RoD) (ch:List (List Int)):Nat->Nat->Int->StD->StD
 |0,_,_,x=>x
 |k+1,b,fee,x=>
  if(x.2.2.2&&decide (x.2.2.1<=fee))=true then x
  else if b=(ju (rd r)).length then(x.1,x.1,fee,true)
  else(nth ch b).foldl (fun x t=>if yn r (x.1.set b t) b (jY r).length=true then qI r ch k (b+1) (fee+wh (rd r) t) (x.1.set b t,x.2) else(x.1.set b t,x.2)) x
def jnK (r:RoD) (ch:List (List Int)) (k b:Nat) (fee:Int) (x:StD) (t:Int):StD:=
 if yn r (x.1.set b t) b (jY r).length=true then qI r ch k (b+1) (fee+wh (rd r) t) (x.1.set b t,x.2) else(x.1.set b t,x.2)
def jD (r:RoD) (ch:List (List Int)) (k b:Nat) (fee:Int) (x:StD) (n:Nat):StD:=((nth ch b).take n).foldl (jnK r ch k b fee) x
def jr (s:SeD):StD:=(s.2.2.1,s.2.2.2.1,s.2.2.2.2.1,s.2.2.2.2.2.1)
def vP (s:SeD) (x:StD):SeD:=(s.1,s.2.1,x.1,x.2.1,x.2.2.1,x.2.2.2,())
def okCh (d:DyD) (ch:List (List Int)):Prop:=ch.length=(ju d).length/\∀l∈ch,∀t∈l,0<=t/\t<256
def jw4 (k:Nat) (s:SeD) (b fee:Int):Prop:=s.1.isSome=true/\jae (ro s.1)/\(jY (ro s.1)).length=(jh (jc (rd (ro s.1)))).length/\okCh (rd (ro s.1)) s.2.1/\s.2.2.1.length=(ju (rd (ro s.1))).length/\
 (0<=b/\b<=((ju (rd (ro s.1))).length:Int)/\((ju (rd (ro s.1))).length:Int)<b+k)/\0<=fee/\fee<=8000*b
end U
def yU:zQ:=⟨[.own (.cl (.row 3 .int .no)) true],[rwI],fun d=>[d.1.length<=100000],fun d=>((d.1,()),(d.1,()))⟩
def jfq:Prop:=∀(d:List Int×Unit),d.1.length<=100000->(false=true->([],())=d/\d=d)/\(false=false->(0+d.1.length)*8<=140737488355328/\([]++d.1,())=d/\d=d)
def vJ (k:Nat):zQ:=⟨[.own jHA true,.val .int,.val .int],[],fun d=>[U.jw4 k d.1 d.2.1 d.2.2.1],fun d=>((),(U.vP d.1 (U.qI (U.ro d.1.1) d.1.2.1 k d.2.1.toNat d.2.2.1 (U.jr d.1)),()))⟩
def jiV (k:Nat):Ann:=fun r=>match r with
 |4=>some fun σ=>{X:=Nat,sl:=fun i=>[(58,.dat .int (i:Int)),(53,.any),(55,.any)],ob:=fun i=>[(1000000,some (.box 70 false (((bx σ 1000000).set 4 (.dat .int (U.jD (U.ro (gb tSe σ 1000000).1) (gb tSe σ 1000000).2.1 k (gd .int σ 1).toNat (gd .int σ 2) (U.jr (gb tSe σ 1000000)) i).2.2.1)).set 5 (.dat .bool (U.jD (U.ro (gb tSe σ 1000000).1) (gb tSe σ 1000000).2.1 k (gd .int σ 1).toNat (gd .int σ 2) (U.jr (gb tSe σ 1000000)) i).2.2.2)))),(400002,some (.row 3 .int false .no (U.jD (U.ro (gb tSe σ 1000000).1) (gb tSe σ 1000000).2.1 k (gd .int σ 1).toNat (gd .int σ 2) (U.jr (gb tSe σ 1000000)) i).1)),(400003,some (.row 3 .int false .unk (U.jD (U.ro (gb tSe σ 1000000).1) (gb tSe σ 1000000).2.1 k (gd .int σ 1).toNat (gd .int σ 2) (U.jr (gb tSe σ 1000000)) i).2.1))],inv:=fun i=>i<=(nth (gb tSe σ 1000000).2.1 (gd .int σ 1).toNat).length/\(U.jD (U.ro (gb tSe σ 1000000).1) (gb tSe σ 1000000).2.1 k (gd .int σ 1).toNat (gd .int σ 2) (U.jr (gb tSe σ 1000000)) i).1.length=(gb tSe σ 1000000).2.2.1.length,mu:=fun i=>(nth (gb tSe σ 1000000).2.1 (gd .int σ 1).toNat).length-i}
 |8=>some fun σ=>{X:=Nat,sl:=fun p=>[(77,.dat .int (p:Int))],ob:=fun _=>[],inv:=fun p=>p<=(U.jY (U.ro (gb tSe σ 1000000).1)).length/\U.yn (U.ro (gb tSe σ 1000000).1) (gr .int σ 400002) (gd .int σ 1).toNat p=true,mu:=fun p=>(U.jY (U.ro (gb tSe σ 1000000).1)).length-p}
 |12=>some fun σ=>{X:=Nat,sl:=fun i=>[(88,.dat .int (i:Int)),(9,.own 9 .int)],ob:=fun i=>[(9,some (.row 3 .int false .yes (U.wC (gr .int σ 400002) (gd .int σ 8) i)))],inv:=fun i=>i<=(gd .int σ 1).toNat+1,mu:=fun i=>(gd .int σ 1).toNat+1-i}
 |_=>none
def jj5:Prop:=∀k:Nat,jw5 (ctx 125 [(83,jb8),(68,jb7)] [(82,yU),(41,vJ k)]) (jiV k) Tryz.f41 (z8 Tryz.f41) (vJ (k+1))
abbrev q108_1 (d:(Option RoD×List (List Int)×List Int×List Int×Int×Bool×Unit)×Int×Int×Unit)(k:Nat)(x:Nat):=(U.jD (U.ro d.1.1) d.1.2.1 k d.2.1.toNat d.2.2.1 (U.jr d.1) x)
abbrev q108_3 (d:(Option RoD×List (List Int)×List Int×List Int×Int×Bool×Unit)×Int×Int×Unit)(k:Nat)(a:Nat):=(U.jD (U.ro d.1.1) d.1.2.1 k d.2.1.toNat d.2.2.1 (U.jr d.1) a)
abbrev q108_4 (d:(Option RoD×List (List Int)×List Int×List Int×Int×Bool×Unit)×Int×Int×Unit):=(jQ ((((0:Int),[],[],()),[],[],(0:Int),(0:Int),[],()),[],[],[],()) d.1.1)
abbrev q108_5 (d:(Option RoD×List (List Int)×List Int×List Int×Int×Bool×Unit)×Int×Int×Unit):=(nth d.1.2.1 d.2.1.toNat)
abbrev q108_2 (d:(Option RoD×List (List Int)×List Int×List Int×Int×Bool×Unit)×Int×Int×Unit)(k:Nat)(x:Nat):=((q108_1 d k x).1.set d.2.1.toNat (nth (q108_5 d) (x:Int).toNat))
abbrev q108_6 (d:(Option RoD×List (List Int)×List Int×List Int×Int×Bool×Unit)×Int×Int×Unit)(k:Nat)(x:Nat):=(d.1.1,d.1.2.1,(q108_1 d k x).1.set d.2.1.toNat (nth (q108_5 d) (x:Int).toNat),(q108_1 d k x).2.1,(q108_1 d k x).2.2.1,(q108_1 d k x).2.2.2,())
abbrev q108_0 (d:(Option RoD×List (List Int)×List Int×List Int×Int×Bool×Unit)×Int×Int×Unit)(k:Nat)(x:Nat):=(U.vP (q108_6 d k x) (U.qI (U.ro d.1.1) d.1.2.1 k (d.2.1+1).toNat (d.2.2.1+U.wh (U.rd (U.ro d.1.1)) (nth (q108_5 d) (x:Int).toNat)) (U.jr (q108_6 d k x))))
abbrev q108_7 (d:(Option RoD×List (List Int)×List Int×List Int×Int×Bool×Unit)×Int×Int×Unit)(k:Nat):=(U.vP d.1 (U.qI (U.ro d.1.1) d.1.2.1 (k+1) d.2.1.toNat d.2.2.1 (U.jr d.1)),())
def jbp:Prop:=∀(k:Nat) (d:(Option RoD×List (List Int)×List Int×List Int×Int×Bool×Unit)×Int×Int×Unit),U.jw4 (k+1) d.1 d.2.1 d.2.2.1->((d.1.2.2.2.2.2.1&&decide (d.1.2.2.2.2.1<=d.2.2.1))=true->()=()/\(d.1,())=(q108_7 d k))/\((d.1.2.2.2.2.2.1&&decide (d.1.2.2.2.2.1<=d.2.2.1))=false->d.1.1.isSome=true/\((q108_4 d).1.2.2.1.length<4611686018427387904->(decide (d.2.1=(↑(q108_4 d).1.2.2.1.length:Int))=true->d.1.2.2.1.length<=100000/\()=()/\((d.1.1,d.1.2.1,d.1.2.2.1,d.1.2.2.1,d.2.2.1,true,()),())=(q108_7 d k))/\(decide (d.2.1=(↑(q108_4 d).1.2.2.1.length:Int))=false->0<=d.2.1/\d.2.1<(d.1.2.1.length:Int)/\((q108_5 d).length<4611686018427387904->(∃(x:Nat),((0=(x:Int)/\True)/\(d.1.1=d.1.1/\True/\True/\True/\d.1.2.2.2.2.1=(q108_1 d k x).2.2.1/\d.1.2.2.2.2.2.1=(q108_1 d k x).2.2.2/\True)/\d.1.2.2.1=(q108_1 d k x).1/\d.1.2.2.2.1=(q108_1 d k x).2.1/\True)/\x<=(q108_5 d).length/\(q108_1 d k x).1.length=d.1.2.2.1.length)/\∀(x:Nat),x<=(q108_5 d).length/\(q108_1 d k x).1.length=d.1.2.2.1.length->(decide ((x:Int)<(↑(q108_5 d).length:Int))=true->0<=(x:Int)/\(x:Int)<(↑(q108_5 d).length:Int)/\0<=d.2.1/\d.2.1<(↑(q108_1 d k x).1.length:Int)/\d.1.1.isSome=true/\((q108_4 d).2.2.1.length<4611686018427387904->(∃(a:Nat),((0=(a:Int)/\True)/\True)/\a<=(U.jY (U.ro d.1.1)).length/\U.yn (U.ro d.1.1) (q108_2 d k x) d.2.1.toNat a=true)/\∀(a:Nat),a<=(U.jY (U.ro d.1.1)).length/\U.yn (U.ro d.1.1) (q108_2 d k x) d.2.1.toNat a=true->(decide ((a:Int)<(↑(q108_4 d).2.2.1.length:Int))=true->jz (d.2.1+1)/\(0:Int)<=0/\0<=d.2.1+1/\d.2.1+1<=(↑(q108_2 d k x).length:Int)/\((d.2.1+1).toNat-Int.toNat 0<4611686018427387904->(∃(b:Nat),((0=(b:Int)/\True/\True)/\U.wC (q108_2 d k x) (a:Int) b=[]/\True)/\b<=d.2.1.toNat+1)/\∀(b:Nat),b<=d.2.1.toNat+1->(decide ((b:Int)<(↑((d.2.1+1).toNat-Int.toNat 0):Int))=true->0<=(b:Int)/\(b:Int)<(↑((d.2.1+1).toNat-Int.toNat 0):Int)/\0<=(a:Int)/\(a:Int)<=64/\(decide (qL (nth (q108_2 d k x) (Int.toNat 0+(b:Int).toNat)/(2:Int)^(a:Int).toNat) (1:Int)=1)=true->((U.wC (q108_2 d k x) (a:Int) b).length+[(b:Int)].length)*8<=140737488355328/\jz ((b:Int)+1)/\∃(c:Nat),(((b:Int)+1=(c:Int)/\True/\True)/\U.wC (q108_2 d k x) (a:Int) b++[(b:Int)]=U.wC (q108_2 d k x) (a:Int) c/\True)/\c<=d.2.1.toNat+1/\d.2.1.toNat+1-c<d.2.1.toNat+1-b)/\(decide (qL (nth (q108_2 d k x) (Int.toNat 0+(b:Int).toNat)/(2:Int)^(a:Int).toNat) (1:Int)=1)=false->jz ((b:Int)+1)/\∃(c:Nat),((True/\(b:Int)+1=(c:Int)/\True)/\U.wC (q108_2 d k x) (a:Int) b=U.wC (q108_2 d k x) (a:Int) c/\True)/\c<=d.2.1.toNat+1/\d.2.1.toNat+1-c<d.2.1.toNat+1-b))/\(decide ((b:Int)<(↑((d.2.1+1).toNat-Int.toNat 0):Int))=false->d.1.1.isSome=true/\U.jae (U.ro d.1.1)/\U.ji1 (U.rd (U.ro d.1.1)) (a:Int)/\U.jcx (U.rd (U.ro d.1.1)) (U.wC (q108_2 d k x) (a:Int) b)/\((!U.gC (U.ro d.1.1) (a:Int) (U.wC (q108_2 d k x) (a:Int) b))=true->jz ((x:Int)+1)/\∃(c:Nat),(((x:Int)+1=(c:Int)/\True)/\(q108_1 d k x).2.1=(q108_3 d k c).2.1/\(d.1.1=d.1.1/\True/\True/\True/\(q108_1 d k x).2.2.1=(q108_3 d k c).2.2.1/\(q108_1 d k x).2.2.2=(q108_3 d k c).2.2.2/\True)/\(q108_1 d k x).1.set d.2.1.toNat (nth (q108_5 d) (x:Int).toNat)=(q108_3 d k c).1/\True)/\(c<=(q108_5 d).length/\(q108_3 d k c).1.length=d.1.2.2.1.length)/\(q108_5 d).length-c<(q108_5 d).length-x)/\((!U.gC (U.ro d.1.1) (a:Int) (U.wC (q108_2 d k x) (a:Int) b))=false->jz ((a:Int)+1)/\∃(c:Nat),(((a:Int)+1=(c:Int)/\True)/\True)/\(c<=(U.jY (U.ro d.1.1)).length/\U.yn (U.ro d.1.1) (q108_2 d k x) d.2.1.toNat c=true)/\(U.jY (U.ro d.1.1)).length-c<(U.jY (U.ro d.1.1)).length-a))))/\(decide ((a:Int)<(↑(q108_4 d).2.2.1.length:Int))=false->jz (d.2.1+1)/\d.1.1.isSome=true/\U.js (U.jc (U.rd (U.ro d.1.1)))=true/\0<=nth (q108_5 d) (x:Int).toNat/\nth (q108_5 d) (x:Int).toNat<=1000000/\jz (d.2.2.1+U.wh (U.rd (U.ro d.1.1)) (nth (q108_5 d) (x:Int).toNat))/\U.jw4 k (q108_6 d k x) (d.2.1+1) (d.2.2.1+U.wh (U.rd (U.ro d.1.1)) (nth (q108_5 d) (x:Int).toNat))/\jz ((x:Int)+1)/\∃(c:Nat),(((x:Int)+1=(c:Int)/\True)/\((q108_0 d k x).1=d.1.1/\True/\True/\True/\(q108_0 d k x).2.2.2.2.1=(q108_3 d k c).2.2.1/\(q108_0 d k x).2.2.2.2.2.1=(q108_3 d k c).2.2.2/\True)/\(q108_0 d k x).2.1=d.1.2.1/\(q108_0 d k x).2.2.2.1=(q108_3 d k c).2.1/\(q108_0 d k x).2.2.1=(q108_3 d k c).1/\True)/\(c<=(q108_5 d).length/\(q108_3 d k c).1.length=d.1.2.2.1.length)/\(q108_5 d).length-c<(q108_5 d).length-x)))/\(decide ((x:Int)<(↑(q108_5 d).length:Int))=false->()=()/\((d.1.1,d.1.2.1,(q108_1 d k x).1,(q108_1 d k x).2.1,(q108_1 d k x).2.2.1,(q108_1 d k x).2.2.2,()),())=(q108_7 d k))))))
theorem jej:(jj5)=jbp:=by kernel_rfl
end Go.X
namespace Go.X
open Go.Proofs
theorem jhs:jfq:=by
 rintro⟨l,⟨⟩⟩ a;have a:l.length<=100000:=a;exact⟨fun h=>(by cases h),fun _=>⟨by show(0+l.length)*8<=_;omega,rfl,rfl⟩⟩
theorem jf0:qb PR 82 yU:=jkr jhs Tryz.func82 kcN koN
theorem jwP (ts:List Int) (p:Int) (n:Nat):U.wC ts p (n+1)=U.wC ts p n++(if decide (qL (nth ts n/2^p.toNat) 1=1)=true then[(n:Int)] else[]):=by
 unfold U.wC;rw[L.range_filter_succ,jIz];by_cases h:decide (qL (nth ts n/2^p.toNat) 1=1)=true
 .rw[if_pos h,if_pos h];rfl
 .rw[if_neg h,if_neg h];rfl
theorem jqg (ts:List Int) (p:Int) (n:Nat):(U.wC ts p n).length<=n:=by
 unfold U.wC;rw[jIL];exact jHW (jIH _ _) (by simp)
theorem jzA {ts:List Int} {p:Int} {n:Nat} {b:Int} (h:b∈U.wC ts p n):0<=b/\b<(n:Int):=by
 unfold U.wC at h;obtain⟨i,hi,rfl⟩:=jIk.1 h;have:=jHZ.1 (jH7.1 hi).1;omega
theorem jtb {r:RoD} {ts:List Int} {b n:Nat}:U.yn r ts b (n+1)=(U.yn r ts b n&&U.gC r (n:Int) (U.wC ts (n:Int) (b+1))):=by
 unfold U.yn;rw[jIe,List.all_append];simp
theorem jqf {r:RoD} {ts:List Int} {b n m:Nat} (a:m<n) (h:U.gC r (m:Int) (U.wC ts (m:Int) (b+1))=false):U.yn r ts b n=false:=by
 unfold U.yn;rw[jIT];exact⟨m,jHZ.2 a,by rw[h];simp⟩
theorem jpB {r:RoD} {ch:List (List Int)} {k b:Nat} {fee:Int} {x:StD} {n:Nat} (h:n<(nth ch b).length):U.jD r ch k b fee x (n+1)=U.jnK r ch k b fee (U.jD r ch k b fee x n) (nth (nth ch b) n):=by
 unfold U.jD;rw[L.take_succ h,jH8];rfl
theorem jpA {r:RoD} {ch:List (List Int)} {k b:Nat} {fee:Int} {x:StD} (a:(x.2.2.2&&decide (x.2.2.1<=fee))=false) (c:b≠(U.ju (U.rd r)).length):U.qI r ch (k+1) b fee x=U.jD r ch k b fee x (nth ch b).length:=by
 show(if(x.2.2.2&&decide (x.2.2.1<=fee))=true then x else if b=(U.ju (U.rd r)).length then(x.1,x.1,fee,true) else(nth ch b).foldl (U.jnK r ch k b fee) x)=_;rw[a,if_neg (by simp),if_neg c];unfold U.jD;rw[jID (jHM _)]
mutual
theorem jB4 {r:RoD} {ch:List (List Int)}:∀(k b:Nat) (fee:Int) (x:StD),(U.qI r ch k b fee x).1.length=x.1.length
 |0,_,_,_=>rfl
 |k+1,b,fee,x=>by
  by_cases a:(x.2.2.2&&decide (x.2.2.1<=fee))=true
  .show(if(x.2.2.2&&decide (x.2.2.1<=fee))=true then x else _).1.length=_
   rw[if_pos a]
  .by_cases c:b=(U.ju (U.rd r)).length
   .show(if(x.2.2.2&&decide (x.2.2.1<=fee))=true then x else if b=(U.ju (U.rd r)).length then(x.1,x.1,fee,true) else _).1.length=_
    rw[if_neg a,if_pos c]
   .rw[jpA (by simpa using a) c]
    exact jnJ k b fee x _ (jHM _)
termination_by k=>(k,0)
theorem jnJ {r:RoD} {ch:List (List Int)}:∀(k b:Nat) (fee:Int) (x:StD) (n:Nat),n<=(nth ch b).length->(U.jD r ch k b fee x n).1.length=x.1.length
 |_,_,_,_,0,_=>rfl
 |k,b,fee,x,n+1,h=>by
  rw[jpB h]
  have d:=jnJ (r:=r) (ch:=ch) k b fee x n (by omega)
  unfold U.jnK
  split
  .rw[jB4 k]
   show((U.jD r ch k b fee x n).1.set b _).length=_
   rw[jI9,d]
  .show((U.jD r ch k b fee x n).1.set b _).length=_
   rw[jI9,d]
termination_by k _ _ _ n=>(k,n+1)
end
theorem jkP:jbp:=by
 unfold jbp q108_7 q108_0 q108_6 q108_2 q108_5 q108_4 q108_3 q108_1;rintro k ⟨s,b,fee,⟨⟩⟩ h0;obtain⟨g,d,Q,⟨M,D⟩,S,⟨V,b1,b2⟩,f0,f1⟩:U.jw4 (k+1) s b fee:=h0;obtain⟨B,hB⟩:∃B:Nat,b=(B:Int):=⟨b.toNat,by omega⟩;subst hB;have I:=d.1;have hb4:(U.ju (U.rd (U.ro s.1))).length<=4:=(zb I.2.2).1;have h8:(U.jh (U.jc (U.rd (U.ro s.1)))).length<=8:=(jy I.1).2.2.1;refine⟨fun h=>⟨rfl,?_⟩,fun h=>⟨g,fun _=>⟨fun A=>⟨?_,rfl,?_⟩,fun A=> ?_⟩⟩⟩
 .have h:((U.jr s).2.2.2&&decide ((U.jr s).2.2.1<=fee))=true:=h;have e:U.qI (U.ro s.1) s.2.1 (k+1) B fee (U.jr s)=U.jr s:=by
   show(if((U.jr s).2.2.2&&decide ((U.jr s).2.2.1<=fee))=true then U.jr s else _)=_;rw[if_pos h]
  show(s,())=(U.vP s (U.qI (U.ro s.1) s.2.1 (k+1) B fee (U.jr s)),());rw[e];rfl
 .show s.2.2.1.length<=100000;omega
 .have A:(B:Int)=((U.ju (U.rd (U.ro s.1))).length:Int):=of_decide_eq_true A;have h:((U.jr s).2.2.2&&decide ((U.jr s).2.2.1<=fee))=false:=h;have e:U.qI (U.ro s.1) s.2.1 (k+1) B fee (U.jr s)=(s.2.2.1,s.2.2.1,fee,true):=by
   show(if((U.jr s).2.2.2&&decide ((U.jr s).2.2.1<=fee))=true then U.jr s else if B=(U.ju (U.rd (U.ro s.1))).length then((U.jr s).1,(U.jr s).1,fee,true) else _)=_;rw[h,if_neg (by simp),if_pos (by omega)];rfl
  show((s.1,s.2.1,s.2.2.1,s.2.2.1,fee,true,()),())=(U.vP s (U.qI (U.ro s.1) s.2.1 (k+1) B fee (U.jr s)),());rw[e];rfl
 have A:¬(B:Int)=((U.ju (U.rd (U.ro s.1))).length:Int):=of_decide_eq_false A;have h:((U.jr s).2.2.2&&decide ((U.jr s).2.2.1<=fee))=false:=h;have hBn:B<(U.ju (U.rd (U.ro s.1))).length:=(by omega);have C:=jpA (r:=U.ro s.1) (ch:=s.2.1) (k:=k) (b:=B) (fee:=fee) h (by omega);have u:jz ((B:Int)+1):=L.in64 (by omega) (by omega);have K:0<=(B:Int)+1:=(by omega);refine⟨V,by show(B:Int)<(s.2.1.length:Int);omega,fun E=>⟨⟨0,⟨⟨rfl,trivial⟩,⟨rfl,trivial,trivial,trivial,rfl,rfl,trivial⟩,rfl,rfl,trivial⟩,jHR _,rfl⟩,fun x hx=>⟨fun z=> ?_,fun z=>⟨rfl,?_⟩⟩⟩⟩
 .have z:(x:Int)<((nth s.2.1 B).length:Int):=of_decide_eq_true z;have E:(nth s.2.1 B).length<4611686018427387904:=E;have m:x<(nth s.2.1 B).length:=(by omega);obtain⟨_,F⟩:x<=(nth s.2.1 B).length/\(U.jD (U.ro s.1) s.2.1 k B fee (U.jr s) x).1.length=s.2.2.1.length:=hx;have f:=jpB (r:=U.ro s.1) (ch:=s.2.1) (k:=k) (b:=B) (fee:=fee) (x:=U.jr s) m;have o:=jnJ (r:=U.ro s.1) (ch:=s.2.1) k B fee (U.jr s) (x+1) (by omega);have o:(U.jD (U.ro s.1) s.2.1 k B fee (U.jr s) (x+1)).1.length=s.2.2.1.length:=o;have Z:=D _ (L.mem_nth (l:=s.2.1) (i:=B) (by omega)) _ (L.mem_nth m);have up:x+1<=(nth s.2.1 B).length:=m;have W:(nth s.2.1 B).length-(x+1)<(nth s.2.1 B).length-x:=(by omega);have tl:((U.jD (U.ro s.1) s.2.1 k B fee (U.jr s) x).1.set B (nth (nth s.2.1 B) x)).length=(U.ju (U.rd (U.ro s.1))).length:=by
   rw[jI9,F,S]
  refine⟨by omega,z,V,by show(B:Int)<((U.jD (U.ro s.1) s.2.1 k B fee (U.jr s) x).1.length:Int);omega,g,fun _=>⟨⟨0,⟨⟨rfl,trivial⟩,trivial⟩,jHR _,rfl⟩,fun p Y=>⟨fun w=>⟨u,jIA 0,K,?_,fun _=>⟨⟨0,⟨⟨rfl,trivial,trivial⟩,rfl,trivial⟩,jHR _⟩,fun j J=>⟨fun t=> ?_,fun t=> ?_⟩⟩⟩,fun w=> ?_⟩⟩⟩
  .show(B:Int)+1<=(((U.jD (U.ro s.1) s.2.1 k B fee (U.jr s) x).1.set B (nth (nth s.2.1 B) x)).length:Int);rw[tl];omega
  .have t:(j:Int)<((((B:Int)+1).toNat-Int.toNat 0:Nat):Int):=of_decide_eq_true t;have H:((B:Int)+1).toNat-Int.toNat 0=B+1:=(by simp only[Int.toNat_zero];omega);rw[H] at t;have w:(p:Int)<((U.jY (U.ro s.1)).length:Int):=of_decide_eq_true w;have J:j<=B+1:=J;have q:=jwP ((U.jD (U.ro s.1) s.2.1 k B fee (U.jr s) x).1.set B (nth (nth s.2.1 B) x)) (p:Int) j;have P:=jqg ((U.jD (U.ro s.1) s.2.1 k B fee (U.jr s) x).1.set B (nth (nth s.2.1 B) x)) (p:Int) j;have e0:Int.toNat 0+(j:Int).toNat=j:=(by simp);have X:∀T:Bool,decide (qL (nth ((U.jD (U.ro s.1) s.2.1 k B fee (U.jr s) x).1.set B (nth (nth s.2.1 B) x)) (Int.toNat 0+(j:Int).toNat)/2^(p:Int).toNat) 1=1)=T->decide (qL (nth ((U.jD (U.ro s.1) s.2.1 k B fee (U.jr s) x).1.set B (nth (nth s.2.1 B) x)) j/2^(p:Int).toNat) 1=1)=T:=by
    intro T G;rw[e0] at G;exact G
   refine⟨by omega,by show(j:Int)<((((B:Int)+1).toNat-Int.toNat 0:Nat):Int);rw[H];exact t,by omega,by omega,fun a=>⟨?_,L.in64 (by omega) (by omega),j+1,⟨⟨by simp,trivial,trivial⟩,?_,trivial⟩,by show j+1<=B+1;omega,by show B+1-(j+1)<B+1-j;omega⟩,fun a=>⟨L.in64 (by omega) (by omega),j+1,⟨⟨trivial,by simp,trivial⟩,?_,trivial⟩,by show j+1<=B+1;omega,by show B+1-(j+1)<B+1-j;omega⟩⟩
   .show((U.wC ((U.jD (U.ro s.1) s.2.1 k B fee (U.jr s) x).1.set B (nth (nth s.2.1 B) x)) (p:Int) j).length+1)*8<=140737488355328;omega
   .rw[X _ a,if_pos rfl] at q;exact q.symm
   .rw[X _ a,if_neg (by simp),jIc] at q;exact q.symm
  .have t:¬(j:Int)<((((B:Int)+1).toNat-Int.toNat 0:Nat):Int):=of_decide_eq_false t;have H:((B:Int)+1).toNat-Int.toNat 0=B+1:=(by simp only[Int.toNat_zero];omega);rw[H] at t;have w:(p:Int)<((U.jY (U.ro s.1)).length:Int):=of_decide_eq_true w;have J:j<=B+1:=J;have N:j=B+1:=(by omega);subst N;have P:=jqg ((U.jD (U.ro s.1) s.2.1 k B fee (U.jr s) x).1.set B (nth (nth s.2.1 B) x)) (p:Int) (B+1);obtain⟨_,y⟩:p<=(U.jY (U.ro s.1)).length/\U.yn (U.ro s.1) ((U.jD (U.ro s.1) s.2.1 k B fee (U.jr s) x).1.set B (nth (nth s.2.1 B) x)) B p=true:=Y;refine⟨g,d,⟨by omega,by show(p:Int)<((U.jh (U.jc (U.rd (U.ro s.1)))).length:Int);omega⟩,⟨by show(U.wC ((U.jD (U.ro s.1) s.2.1 k B fee (U.jr s) x).1.set B (nth (nth s.2.1 B) x)) (p:Int) (B+1)).length<=12;omega,fun c hc=> ?_⟩,fun a=> ?_,fun a=> ?_⟩
   .have:=jzA hc;exact⟨this.1,by show c<((U.ju (U.rd (U.ro s.1))).length:Int);omega⟩
   .have a:(!U.gC (U.ro s.1) (p:Int) (U.wC ((U.jD (U.ro s.1) s.2.1 k B fee (U.jr s) x).1.set B (nth (nth s.2.1 B) x)) (p:Int) (B+1)))=true:=a;have a:U.gC (U.ro s.1) (p:Int) (U.wC ((U.jD (U.ro s.1) s.2.1 k B fee (U.jr s) x).1.set B (nth (nth s.2.1 B) x)) (p:Int) (B+1))=false:=(by simpa using a);have O:=jqf (n:=(U.jY (U.ro s.1)).length) (by omega) a;have e:U.jD (U.ro s.1) s.2.1 k B fee (U.jr s) (x+1)=((U.jD (U.ro s.1) s.2.1 k B fee (U.jr s) x).1.set B (nth (nth s.2.1 B) x),(U.jD (U.ro s.1) s.2.1 k B fee (U.jr s) x).2):=by
     rw[f];unfold U.jnK;rw[O,if_neg (by simp)]
    exact⟨L.in64 (by omega) (by omega),x+1,⟨⟨by simp,trivial⟩,congrArg (·.2.1) e.symm,⟨rfl,trivial,trivial,trivial,congrArg (·.2.2.1) e.symm,congrArg (·.2.2.2) e.symm,trivial⟩,congrArg (·.1) e.symm,trivial⟩,⟨up,o⟩,W⟩
   .have a:(!U.gC (U.ro s.1) (p:Int) (U.wC ((U.jD (U.ro s.1) s.2.1 k B fee (U.jr s) x).1.set B (nth (nth s.2.1 B) x)) (p:Int) (B+1)))=false:=a;have a:U.gC (U.ro s.1) (p:Int) (U.wC ((U.jD (U.ro s.1) s.2.1 k B fee (U.jr s) x).1.set B (nth (nth s.2.1 B) x)) (p:Int) (B+1))=true:=(by simpa using a);refine⟨L.in64 (by omega) (by omega),p+1,⟨⟨by simp,trivial⟩,trivial⟩,⟨by show p+1<=(U.jY (U.ro s.1)).length;omega,?_⟩,by show(U.jY (U.ro s.1)).length-(p+1)<(U.jY (U.ro s.1)).length-p;omega⟩;show U.yn (U.ro s.1) ((U.jD (U.ro s.1) s.2.1 k B fee (U.jr s) x).1.set B (nth (nth s.2.1 B) x)) B (p+1)=true;rw[jtb,y,a];rfl
  .have w:¬(p:Int)<((U.jY (U.ro s.1)).length:Int):=of_decide_eq_false w;obtain⟨hp1,y⟩:p<=(U.jY (U.ro s.1)).length/\U.yn (U.ro s.1) ((U.jD (U.ro s.1) s.2.1 k B fee (U.jr s) x).1.set B (nth (nth s.2.1 B) x)) B p=true:=Y;have R:p=(U.jY (U.ro s.1)).length:=(by omega);subst R;have v:=joM I.1 (nth (nth s.2.1 B) x) _ (jHM _);have v:0<=U.wh (U.rd (U.ro s.1)) (nth (nth s.2.1 B) x)/\U.wh (U.rd (U.ro s.1)) (nth (nth s.2.1 B) x)<=1000*((U.jh (U.jc (U.rd (U.ro s.1)))).length:Int):=v;have eB:((B:Int)+1).toNat=B+1:=(by omega);have e:U.jD (U.ro s.1) s.2.1 k B fee (U.jr s) (x+1)=U.qI (U.ro s.1) s.2.1 k ((B:Int)+1).toNat (fee+U.wh (U.rd (U.ro s.1)) (nth (nth s.2.1 B) x)) ((U.jD (U.ro s.1) s.2.1 k B fee (U.jr s) x).1.set B (nth (nth s.2.1 B) x),(U.jD (U.ro s.1) s.2.1 k B fee (U.jr s) x).2):=by
    rw[f,eB];unfold U.jnK;rw[if_pos y]
   refine⟨u,g,I.1,Z.1,by show nth (nth s.2.1 B) x<=1000000;have:=Z.2;omega,?_,⟨g,d,Q,⟨M,D⟩,tl,⟨by omega,by show(B:Int)+1<=((U.ju (U.rd (U.ro s.1))).length:Int);omega,by show((U.ju (U.rd (U.ro s.1))).length:Int)<(B:Int)+1+(k:Int);omega⟩,?_,?_⟩,L.in64 (by omega) (by omega),x+1,⟨⟨by simp,trivial⟩,⟨rfl,trivial,trivial,trivial,congrArg (·.2.2.1) e.symm,congrArg (·.2.2.2) e.symm,trivial⟩,rfl,congrArg (·.2.1) e.symm,congrArg (·.1) e.symm,trivial⟩,⟨up,o⟩,W⟩
   .show jz (fee+U.wh (U.rd (U.ro s.1)) (nth (nth s.2.1 B) x));exact L.in64 (by omega) (by omega)
   .show 0<=fee+U.wh (U.rd (U.ro s.1)) (nth (nth s.2.1 B) x);omega
   .show fee+U.wh (U.rd (U.ro s.1)) (nth (nth s.2.1 B) x)<=8000*((B:Int)+1);omega
 .have z:¬(x:Int)<((nth s.2.1 B).length:Int):=of_decide_eq_false z;have hx1:x<=(nth s.2.1 B).length:=hx.1;have m:x=(nth s.2.1 B).length:=(by omega);subst m;show((s.1,s.2.1,(U.jD (U.ro s.1) s.2.1 k B fee (U.jr s) (nth s.2.1 B).length).1,(U.jD (U.ro s.1) s.2.1 k B fee (U.jr s) (nth s.2.1 B).length).2.1,(U.jD (U.ro s.1) s.2.1 k B fee (U.jr s) (nth s.2.1 B).length).2.2.1,(U.jD (U.ro s.1) s.2.1 k B fee (U.jr s) (nth s.2.1 B).length).2.2.2,()),())=(U.vP s (U.qI (U.ro s.1) s.2.1 (k+1) B fee (U.jr s)),());rw[C];rfl
theorem jbt:∀k:Nat,qb PR 41 (vJ k)
 |0=>⟨qa Tryz.func41 (c:=z8 Tryz.f41) (by kernel_rfl) (by kernel_rfl),fun H w vals d bs _ _ _ b=>by
  obtain⟨⟨_,_,_,_,_,⟨e,f,a⟩,_⟩,_⟩:=b
  exact absurd a (by omega)⟩
 |k+1=>jES (jej.mpr jkP k) Tryz.func41 (by kernel_rfl) (by kernel_rfl) (by kernel_rfl) (by kernel_rfl) (by kernel_rfl) ⟨fun _=>yq,fun _=>jcq,trivial⟩ ⟨jf0,jbt k,trivial⟩
end Go.X
namespace Go.X
open Go.Proofs
namespace U
def jFp (r:RoD) (b:Int) (t:Nat):Bool:=decide (qp (t:Int) (nth (ja3 r) b.toNat)=0)&&jd1 (rd r) b (t:Int)
def qQ (r:RoD) (b:Int) (n:Nat):List Int:=((List.range n).filter (jFp r b)).map (fun(t:Nat)=>(t:Int))
def wb (r:RoD) (n:Nat):List (List Int):=(List.range n).map (fun(b:Nat)=>qQ r (b:Int) (2^(jh (jc (rd r))).length))
def jG5 (d:DyD):StD:=qI (yk d) (wb (yk d) (ju d).length) 5 0 0 (List.replicate (ju d).length 0,kj,0,false)
def jeC (d:DyD):Int:=if jU d=0 then(if(jG5 d).2.2.2=true then 0 else 3) else jU d
def jiC (d:DyD):List Int:=if jeC d=0 then(jG5 d).2.1 else[]
def jiB (d:DyD):Int:=if jeC d=0 then(jG5 d).2.2.1 else 0
end U
def jyW:j9:=⟨[.val tDy],[.slice .int,.int,.int],false,fun d=>[(U.zc d.1).length<=100000],fun d=>(U.jiC d.1,U.jiB d.1,U.jeC d.1,())⟩
def jBF:Ann:=fun r=>match r with
 |6=>some fun σ=>{X:=Nat,sl:=fun i=>[(28,.dat .int (i:Int))],ob:=fun i=>[(24,some (.box 70 false (((bx σ 24).set 1 (.own (gx 24 1) (.slice .int))).set 3 (.own (gx 24 3) .int)))),(gx 24 3,some (.row 3 .int false .yes U.kj)),(gx 24 1,some (.row 33 (.slice .int) false .yes (U.wb (U.ro (gd (.ptr tRo) σ 5)) i)))],inv:=fun i=>i<=(U.ju (gb tDy σ 1)).length,mu:=fun i=>(U.ju (gb tDy σ 1)).length-i}
 |10=>some fun σ=>{X:=Nat,sl:=fun t=>[(36,.dat .int (t:Int)),(8,.own 8 .int)],ob:=fun t=>[(8,some (.row 3 .int false .yes (U.qQ (U.ro (gd (.ptr tRo) σ 5)) (gd .int σ 7) t)))],inv:=fun t=>t<=2^(U.jh (U.jc (gb tDy σ 1))).length,mu:=fun t=>2^(U.jh (U.jc (gb tDy σ 1))).length-t}
 |_=>none
abbrev q109_3 (d:DyD×Unit):=(U.ro (U.zV d.1))
abbrev q109_4 (d:DyD×Unit):=(jQ ((((0:Int),[],[],()),[],[],(0:Int),(0:Int),[],()),[],[],[],()) (U.zV d.1))
abbrev q109_1 (a:Nat)(d:DyD×Unit)(x:Nat):=(qp (a:Int) (nth (q109_4 d).2.1 (x:Int).toNat)=0)
abbrev q109_5 (d:DyD×Unit):=(U.zV d.1=U.zV d.1/\True/\True/\True/\(0:Int)=0/\false=false/\True)
abbrev q109_6 (d:DyD×Unit):=(d.1.2.2.1.length:Int)
abbrev q109_2 (d:DyD×Unit)(x:Nat):=(U.zV d.1,U.wb (q109_3 d) x,List.replicate (q109_6 d).toNat (0:Int),U.kj,(0:Int),false,())
abbrev q109_0 (d:DyD×Unit)(x:Nat):=(U.vP (q109_2 d x) (U.qI (q109_3 d) (U.wb (q109_3 d) x) 5 (Int.toNat 0) (0:Int) (U.jr (q109_2 d x))))
abbrev q109_7 (d:DyD×Unit):=(U.jh (U.jc d.1))
abbrev q109_8 (d:DyD×Unit):=(U.jiC d.1,U.jiB d.1,U.jeC d.1,())
abbrev q109_9 (d:DyD×Unit):=(d.1.1.2.1.length:Int)
def jyu:Prop:=∀(d:DyD×Unit),(U.zc d.1).length<=100000->(U.zc d.1).length<=100000/\(decide (U.jU d.1≠0)=true->([],(0:Int),U.jU d.1,())=(q109_8 d))/\(decide (U.jU d.1≠0)=false->d.1.2.2.1.length<4611686018427387904->0<=(q109_6 d)/\(q109_6 d)=(q109_6 d)/\(q109_6 d).toNat*8<=140737488355328/\(d.1.2.2.1.length<4611686018427387904->(∃(x:Nat),((0=(x:Int)/\True)/\(q109_5 d)/\U.kj=[]/\U.wb (q109_3 d) x=[]/\True)/\x<=(U.ju d.1).length)/\∀(x:Nat),x<=(U.ju d.1).length->(decide ((x:Int)<(q109_6 d))=true->d.1.1.2.1.length<4611686018427387904->0<=(q109_9 d)/\(q109_9 d)<=64/\jz ((1:Int)*2^(q109_9 d).toNat)/\(∃(a:Nat),((0=(a:Int)/\True/\True)/\U.qQ (q109_3 d) (x:Int) a=[]/\True)/\a<=2^(q109_7 d).length)/\∀(a:Nat),a<=2^(q109_7 d).length->(decide ((a:Int)<1*2^(q109_9 d).toNat)=true->(U.zV d.1).isSome=true/\0<=(x:Int)/\(x:Int)<(↑(q109_4 d).2.1.length:Int)/\(decide (q109_1 a d x)=true->(U.zV d.1).isSome=true)/\(decide (q109_1 a d x)=true->U.kr (U.rd (q109_3 d)) (x:Int))/\((decide (q109_1 a d x)&&U.jd1 (U.rd (q109_3 d)) (x:Int) (a:Int))=true->((U.qQ (q109_3 d) (x:Int) a).length+[(a:Int)].length)*8<=140737488355328/\jz ((a:Int)+1)/\∃(b:Nat),(((a:Int)+1=(b:Int)/\True/\True)/\U.qQ (q109_3 d) (x:Int) a++[(a:Int)]=U.qQ (q109_3 d) (x:Int) b/\True)/\b<=2^(q109_7 d).length/\2^(q109_7 d).length-b<2^(q109_7 d).length-a)/\((decide (q109_1 a d x)&&U.jd1 (U.rd (q109_3 d)) (x:Int) (a:Int))=false->jz ((a:Int)+1)/\∃(b:Nat),((True/\(a:Int)+1=(b:Int)/\True)/\U.qQ (q109_3 d) (x:Int) a=U.qQ (q109_3 d) (x:Int) b/\True)/\b<=2^(q109_7 d).length/\2^(q109_7 d).length-b<2^(q109_7 d).length-a))/\(decide ((a:Int)<1*2^(q109_9 d).toNat)=false->((U.wb (q109_3 d) x).length+[U.qQ (q109_3 d) (x:Int) a].length)*24<=140737488355328/\jz ((x:Int)+1)/\∃(b:Nat),(((x:Int)+1=(b:Int)/\True)/\U.kj=U.kj/\(q109_5 d)/\U.wb (q109_3 d) x++[U.qQ (q109_3 d) (x:Int) a]=U.wb (q109_3 d) b/\True)/\b<=(U.ju d.1).length/\(U.ju d.1).length-b<(U.ju d.1).length-x))/\(decide ((x:Int)<(q109_6 d))=false->U.jw4 5 (q109_2 d x) (0:Int) (0:Int)/\((!(q109_0 d x).2.2.2.2.2.1)=true->([],(0:Int),(3:Int),())=(q109_8 d))/\((!(q109_0 d x).2.2.2.2.2.1)=false->((q109_0 d x).2.2.2.1,(q109_0 d x).2.2.2.2.1,(0:Int),())=(q109_8 d)))))
end Go.X
namespace Go.X
open Go.Proofs
theorem jxW (r:RoD) (b:Int) (n:Nat):U.qQ r b (n+1)=U.qQ r b n++(if U.jFp r b n=true then[(n:Int)] else[]):=by
 unfold U.qQ;rw[L.range_filter_succ,jIz];by_cases h:U.jFp r b n=true
 .rw[if_pos h,if_pos h];rfl
 .rw[if_neg h,if_neg h];rfl
theorem jBv (r:RoD) (b:Int) (n:Nat):(U.qQ r b n).length<=n:=by
 unfold U.qQ;rw[jIL];exact jHW (jIH _ _) (by simp)
theorem jrv {r:RoD} {b:Int} {n:Nat} {t:Int} (h:t∈U.qQ r b n):0<=t/\t<(n:Int):=by
 unfold U.qQ at h;obtain⟨i,hi,rfl⟩:=jIk.1 h;have:=jHZ.1 (jH7.1 hi).1;omega
theorem jBu (r:RoD) (n:Nat):U.wb r (n+1)=U.wb r n++[U.qQ r (n:Int) (2^(U.jh (U.jc (U.rd r))).length)]:=by
 unfold U.wb;rw[jIe,jIz];rfl
theorem jvH (r:RoD) (n:Nat):(U.wb r n).length=n:=by unfold U.wb;simp
theorem jDz {n:Nat} (h:n<=8):(2:Nat)^n<=256:=jHW (jIZ (by decide) h) (by decide)
theorem jG6 {d:DyD} (hk:U.jU d=0):U.jw4 5 (some (U.yk d),U.wb (U.yk d) (U.ju d).length,List.replicate (U.ju d).length 0,U.kj,0,false,()) 0 0:=by
 have c:=jcf hk;have i:(U.ju d).length<=4:=(zb c.may.1.2.2).1;have h:(U.jh (U.jc d)).length<=8:=(jy c.may.1.1).2.2.1;refine⟨rfl,c.may,c.len,⟨jvH _ _,fun l a t e=> ?_⟩,jIG,⟨jIA 0,by show(0:Int)<=((U.ju d).length:Int);omega,by show((U.ju d).length:Int)<0+((5:Nat):Int);omega⟩,jIA 0,by omega⟩;have a:l∈U.wb (U.yk d) (U.ju d).length:=a;unfold U.wb at a;obtain⟨b,_,rfl⟩:=jIk.1 a;have:=jrv e;have f:=jDz h;have g:(2:Nat)^(U.jh (U.jc (U.rd (U.yk d)))).length<=256:=f;have:t<((2^(U.jh (U.jc (U.rd (U.yk d)))).length:Nat):Int):=this.2;refine⟨(jrv e).1,by omega⟩
theorem jCP:jyu:=by
 unfold jyu q109_9 q109_8 q109_7 q109_0 q109_2 q109_6 q109_5 q109_1 q109_4 q109_3;rintro⟨d,⟨⟩⟩ A;refine⟨A,fun h=> ?_,fun h=> ?_⟩
 .have h:U.jU d≠0:=of_decide_eq_true h;have e:U.jeC d=U.jU d:=(by unfold U.jeC;rw[if_neg h]);show([],(0:Int),U.jU d,())=(U.jiC d,U.jiB d,U.jeC d,());unfold U.jiC U.jiB;rw[e,if_neg h,if_neg h]
 have hk:U.jU d=0:=Classical.not_not.1 (of_decide_eq_false h);have m:=jcf hk;have z:(U.ju d).length<=4:=(zb m.may.1.2.2).1;have y:(U.jh (U.jc d)).length<=8:=(jy m.may.1.1).2.2.1;have s:=jDz y;have l:=jzE hk;have i:U.ro (U.zV d)=U.yk d:=(by rw[l];rfl);have r:U.rd (U.ro (U.zV d))=d:=(by rw[i];rfl);have q:(U.zV d).isSome=true:=(by rw[l];rfl);have B:(U.ja3 (U.ro (U.zV d))).length=(U.ju d).length:=(by rw[i];exact m.may.2);refine fun _=>⟨jH4 _,rfl,?_,fun _=>⟨⟨0,⟨⟨rfl,trivial⟩,⟨rfl,trivial,trivial,trivial,rfl,rfl,trivial⟩,rfl,rfl,trivial⟩,jHR _⟩,fun x u=>⟨fun b _=>⟨jH4 _,?_,?_,⟨0,⟨⟨rfl,trivial,trivial⟩,rfl,trivial⟩,jHR _⟩,fun t j=>⟨fun a=> ?_,fun a=> ?_⟩⟩,fun b=> ?_⟩⟩⟩
 .show((U.ju d).length:Int).toNat*8<=140737488355328;omega
 .show((U.jh (U.jc d)).length:Int)<=64;omega
 .show jz (1*2^((U.jh (U.jc d)).length:Int).toNat);rw[wj,jHQ];have a:BT.Set' ((2:Int)^(U.jh (U.jc d)).length):=BT.two_set (by omega);unfold BT.Set' at a;exact L.in64 (by omega) (by omega)
 .have b:(x:Int)<((U.ju d).length:Int):=of_decide_eq_true b;have j:t<=2^(U.jh (U.jc d)).length:=j;have a:(t:Int)<1*2^((U.jh (U.jc d)).length:Int).toNat:=of_decide_eq_true a;rw[wj,jHQ,BT.two_nat] at a;have a:t<2^(U.jh (U.jc d)).length:=(by omega);have f:=jxW (U.ro (U.zV d)) (x:Int) t;have g:=jBv (U.ro (U.zV d)) (x:Int) t;have w:U.kr (U.rd (U.ro (U.zV d))) (x:Int):=(by rw[r];exact⟨by omega,b⟩);have v:t+1<=2^(U.jh (U.jc d)).length:=(by omega);have p:2^(U.jh (U.jc d)).length-(t+1)<2^(U.jh (U.jc d)).length-t:=(by omega);refine⟨q,by omega,by show(x:Int)<((U.ja3 (U.ro (U.zV d))).length:Int);omega,fun _=>q,fun _=>w,fun c=> ?_,fun c=> ?_⟩
  .have c:U.jFp (U.ro (U.zV d)) (x:Int) t=true:=c;refine⟨?_,L.in64 (by omega) (by omega),t+1,⟨⟨by simp,trivial,trivial⟩,?_,trivial⟩,v,p⟩
   .show((U.qQ (U.ro (U.zV d)) (x:Int) t).length+1)*8<=140737488355328;omega
   .rw[if_pos c] at f;exact f.symm
  .have c:U.jFp (U.ro (U.zV d)) (x:Int) t=false:=c;refine⟨L.in64 (by omega) (by omega),t+1,⟨⟨trivial,by simp,trivial⟩,?_,trivial⟩,v,p⟩;rw[if_neg (by rw[c];simp),jIc] at f;exact f.symm
 .have b:(x:Int)<((U.ju d).length:Int):=of_decide_eq_true b;have j:t<=2^(U.jh (U.jc d)).length:=j;have a:¬(t:Int)<1*2^((U.jh (U.jc d)).length:Int).toNat:=of_decide_eq_false a;rw[wj,jHQ,BT.two_nat] at a;have n:t=2^(U.jh (U.jc d)).length:=(by omega);have f:=jBu (U.ro (U.zV d)) x;rw[r,<-n] at f;have g:=jvH (U.ro (U.zV d)) x;refine⟨?_,L.in64 (by omega) (by omega),x+1,⟨⟨by simp,trivial⟩,rfl,⟨rfl,trivial,trivial,trivial,rfl,rfl,trivial⟩,f.symm,trivial⟩,by show x+1<=(U.ju d).length;omega,by show(U.ju d).length-(x+1)<(U.ju d).length-x;omega⟩;show((U.wb (U.ro (U.zV d)) x).length+1)*24<=140737488355328;omega
 .have b:¬(x:Int)<((U.ju d).length:Int):=of_decide_eq_false b;have u:x<=(U.ju d).length:=u;have o:x=(U.ju d).length:=(by omega);subst o;have k:U.qI (U.ro (U.zV d)) (U.wb (U.ro (U.zV d)) (U.ju d).length) 5 (Int.toNat 0) 0 (U.jr (U.zV d,U.wb (U.ro (U.zV d)) (U.ju d).length,List.replicate ((U.ju d).length:Int).toNat 0,U.kj,0,false,()))=U.jG5 d:=by
   rw[i,jHQ];rfl
  refine⟨?_,fun a=> ?_,fun a=> ?_⟩
  .show U.jw4 5 (U.zV d,U.wb (U.ro (U.zV d)) (U.ju d).length,List.replicate ((U.ju d).length:Int).toNat 0,U.kj,0,false,()) 0 0;rw[i,l,jHQ];exact jG6 hk
  .have a:(!(U.qI (U.ro (U.zV d)) (U.wb (U.ro (U.zV d)) (U.ju d).length) 5 (Int.toNat 0) 0 (U.jr (U.zV d,U.wb (U.ro (U.zV d)) (U.ju d).length,List.replicate ((U.ju d).length:Int).toNat 0,U.kj,0,false,()))).2.2.2)=true:=a;rw[k] at a;have a:(U.jG5 d).2.2.2=false:=(by simpa using a);have e:U.jeC d=3:=(by unfold U.jeC;rw[if_pos hk,a,if_neg (by simp)]);show([],(0:Int),(3:Int),())=(U.jiC d,U.jiB d,U.jeC d,());unfold U.jiC U.jiB;rw[e];rfl
  .have a:(!(U.qI (U.ro (U.zV d)) (U.wb (U.ro (U.zV d)) (U.ju d).length) 5 (Int.toNat 0) 0 (U.jr (U.zV d,U.wb (U.ro (U.zV d)) (U.ju d).length,List.replicate ((U.ju d).length:Int).toNat 0,U.kj,0,false,()))).2.2.2)=false:=a;rw[k] at a;have a:(U.jG5 d).2.2.2=true:=(by simpa using a);have e:U.jeC d=0:=(by unfold U.jeC;rw[if_pos hk,a,if_pos rfl]);show((U.qI (U.ro (U.zV d)) (U.wb (U.ro (U.zV d)) (U.ju d).length) 5 (Int.toNat 0) 0 (U.jr (U.zV d,U.wb (U.ro (U.zV d)) (U.ju d).length,List.replicate ((U.ju d).length:Int).toNat 0,U.kj,0,false,()))).2.1,(U.qI (U.ro (U.zV d)) (U.wb (U.ro (U.zV d)) (U.ju d).length) 5 (Int.toNat 0) 0 (U.jr (U.zV d,U.wb (U.ro (U.zV d)) (U.ju d).length,List.replicate ((U.ju d).length:Int).toNat 0,U.kj,0,false,()))).2.2.1,(0:Int),())=(U.jiC d,U.jiB d,U.jeC d,());rw[k];unfold U.jiC U.jiB;rw[e];rfl
theorem jzP:zm PR 12 jyW:=kH jBF jCP Tryz.func12 (kcC jbw kcN) (koC jcr (koC (jbt 5) koN))
end Go.X
namespace Go.X
open Go.Proofs
namespace U
def k8 (s:Int):Nat->Int
 |0=>s
 |j+1=>k8 s j/2^1
def J3 (c:CrD) (t d:Int) (a b:Nat):Bool:=jbz c t d (a:Int) (b:Int)
def jcS (c:CrD) (t b a:Int):List Int:=zz (J3 c t b) (la c).toNat a.toNat (la c).toNat
def ju7 (c:Bool) (s b:Int):Int:=if c=true then bor s b else s
def juq (c:CrD) (j:JbD) (t:Int) (x:Int×Bool) (i:Nat):Int×Bool:=
 if jR t (i:Int)=true then(ju7 (!jR (cl (nth (jh c) i)) (jrQ j)) (ju7 (!jR (fd (nth (jh c) i)) (jtB j)) (ju7 (yf (nth (jh c) i) (jBT j)) x.1 1) 2) 4,x.2||jFi (nth (jh c) i)) else x
def zo (c:CrD) (j:JbD) (t:Int) (n:Nat):Int×Bool:=(List.range n).foldl (juq c j t) (0,false)
def jHf (c:CrD) (j:JbD) (t:Int):Int:=(zo c j t (jh c).length).1
def jHg (c:CrD) (j:JbD) (t:Int):Bool:=(zo c j t (jh c).length).2
def jx1 (c:CrD) (j:JbD) (t:Int):Int:=
 ju7 (decide (nth (jcS c t (jyk (yM c j)) (jrR j)) (jmW j).toNat<0)) (ju7 (jGU (yM c j)&& !jHg c j t) (ju7 (decide (BT.size t≠max (jCE j) (jEV (yM c j)))) (jHf c j t) 8) 16) 32
def jaq (c:CrD) (j:JbD) (t:Int):Bool:=decide (0<t)&&decide (jx1 c j t=0)
def wo (c:CrD) (t:Int) (n:Nat):Int:=(List.range n).foldl (fun s (i:Nat)=>if jR t (i:Int)=true then s+fe (nth (jh c) i) else s) 0
def jk5 (c:CrD) (t:Int):Int:=wo c t (jh c).length
def jo7 (t:Int):Prop:=0<=t/\t<256
end U
def jpP:j9:=⟨[.val .int,.val .int,.val .int],[.bool],false,fun _=>[],fun d=>(U.ja d.1 d.2.1 d.2.2.1,())⟩
def jps:Prop:=∀(d:Int×Int×Int×Unit),(decide (d.2.1<=d.1)&&decide (d.1<=d.2.2.1),())=(U.ja d.1 d.2.1 d.2.2.1,())
def jy0:j9:=⟨[.val .int,.val .int],[.bool],false,fun d=>[0<=d.2.1/\d.2.1<=63],fun d=>(U.jR d.1 d.2.1,())⟩
def jyy:Prop:=∀(d:Int×Int×Unit),0<=d.2.1/\d.2.1<=63->0<=d.2.1/\d.2.1<=18446744073709551615/\0<=d.2.1/\d.2.1<=64/\(decide (qL (d.1/(2:Int)^d.2.1.toNat) (1:Int)=1),())=(U.jR d.1 d.2.1,())
def jpR:j9:=⟨[.val tCr],[.bool],false,fun _=>[],fun d=>(U.js d.1,())⟩
def jrC:Ann:=fun r=>match r with
 |4=>some fun σ=>{X:=Nat,sl:=fun i=>[(3,.dat .int (i:Int))],ob:=fun _=>[],inv:=fun i=>i<=(U.jh (gb tCr σ 1)).length/\∀j:Nat,j<i->U.gw (U.la (gb tCr σ 1)) (nth (U.jh (gb tCr σ 1)) j)=true,mu:=fun i=>(U.jh (gb tCr σ 1)).length-i}
 |10=>some fun σ=>{X:=Nat,sl:=fun i=>[(5,.dat .int (i:Int))],ob:=fun _=>[],inv:=fun i=>i<=(U.lv (gb tPe σ 4)).length/\∀j:Nat,j<i->U.ja (nth (U.lv (gb tPe σ 4)) j) 0 5=true,mu:=fun i=>(U.lv (gb tPe σ 4)).length-i}
 |15=>some fun σ=>{X:=Nat,sl:=fun i=>[(6,.dat .int (i:Int))],ob:=fun _=>[],inv:=fun i=>i<=(U.zS (gb tPe σ 4)).length/\∀j:Nat,j<i->U.ja (nth (U.zS (gb tPe σ 4)) j) 0 99=true,mu:=fun i=>(U.zS (gb tPe σ 4)).length-i}
 |20=>some fun σ=>{X:=Nat,sl:=fun i=>[(7,.dat .int (i:Int))],ob:=fun _=>[],inv:=fun i=>i<=(U.wu (gb tCr σ 1)).length/\∀j:Nat,j<i->U.jaf (nth (U.wu (gb tCr σ 1)) j)=true,mu:=fun i=>(U.wu (gb tCr σ 1)).length-i}
 |_=>none
abbrev q112_0 (d:CrD×Unit)(x:Nat):=(nth d.1.2.1 (x:Int).toNat)
abbrev q112_2 (d:CrD×Unit)(x:Nat):=(!U.ja (nth d.1.2.2.1 (x:Int).toNat).1 (1:Int) (5:Int)|| !U.ja (nth d.1.2.2.1 (x:Int).toNat).2.1 (1:Int) (8:Int))
abbrev q112_4 (d:CrD×Unit)(x:Nat):=(↑(q112_0 d x).1.length:Int)
abbrev q112_5 (d:CrD×Unit)(x:Nat):=(↑(q112_0 d x).2.2.2.1.length:Int)
abbrev q112_1 (d:CrD×Unit)(x:Nat):=(decide ((q112_4 d x)≠d.1.1)|| !U.ja (q112_0 d x).2.1 (0:Int) (255:Int)|| !U.ja (q112_0 d x).2.2.1 (0:Int) (255:Int)||decide ((10:Int)<(q112_5 d x))|| !U.ja (q112_0 d x).2.2.2.2.2.1 (0:Int) (1000:Int))
abbrev q112_6 (d:CrD×Unit):=(d.1.2.2.1.length:Int)
abbrev q112_3 (d:CrD×Unit):=(!U.ja d.1.1 (2:Int) (5:Int)||decide (8<(d.1.2.1.length:Int))||decide ((q112_6 d)≠4))
abbrev q112_7 (d:CrD×Unit)(x:Nat):=(U.zS (q112_0 d x))
def jpu:Prop:=∀(d:CrD×Unit),((!!U.ja d.1.1 (2:Int) (5:Int))=true->d.1.2.1.length<4611686018427387904)->((!(!U.ja d.1.1 (2:Int) (5:Int)||decide (8<(d.1.2.1.length:Int))))=true->d.1.2.2.1.length<4611686018427387904)->((q112_3 d)=true->(false,())=(U.js d.1,()))/\((q112_3 d)=false->(∃(x:Nat),((0=(x:Int)/\True)/\True)/\x<=(U.jh d.1).length/\∀(j:Nat),j<x->U.gw (U.la d.1) (nth (U.jh d.1) j)=true)/\∀(x:Nat),(x<=(U.jh d.1).length/\∀(j:Nat),j<x->U.gw (U.la d.1) (nth (U.jh d.1) j)=true)->d.1.2.1.length<4611686018427387904->(decide ((x:Int)<(d.1.2.1.length:Int))=true->0<=(x:Int)/\(x:Int)<(d.1.2.1.length:Int)/\((q112_0 d x).1.length<4611686018427387904->((!(decide ((q112_4 d x)≠d.1.1)|| !U.ja (q112_0 d x).2.1 (0:Int) (255:Int)|| !U.ja (q112_0 d x).2.2.1 (0:Int) (255:Int)))=true->(q112_0 d x).2.2.2.1.length<4611686018427387904)->((q112_1 d x)=true->(false,())=(U.js d.1,()))/\((q112_1 d x)=false->(∃(b:Nat),((0=(b:Int)/\True)/\True)/\b<=(U.lv (q112_0 d x)).length/\∀(j:Nat),j<b->U.ja (nth (U.lv (q112_0 d x)) j) (0:Int) 5=true)/\∀(b:Nat),(b<=(U.lv (q112_0 d x)).length/\∀(j:Nat),j<b->U.ja (nth (U.lv (q112_0 d x)) j) (0:Int) 5=true)->(q112_0 d x).1.length<4611686018427387904->(decide ((b:Int)<(q112_4 d x))=true->0<=(b:Int)/\(b:Int)<(q112_4 d x)/\((!U.ja (nth (q112_0 d x).1 (b:Int).toNat) (0:Int) (5:Int))=true->(false,())=(U.js d.1,()))/\((!U.ja (nth (q112_0 d x).1 (b:Int).toNat) (0:Int) (5:Int))=false->jz ((b:Int)+1)/\∃(c:Nat),(((b:Int)+1=(c:Int)/\True)/\True)/\(c<=(U.lv (q112_0 d x)).length/\∀(j:Nat),j<c->U.ja (nth (U.lv (q112_0 d x)) j) (0:Int) 5=true)/\(U.lv (q112_0 d x)).length-c<(U.lv (q112_0 d x)).length-b))/\(decide ((b:Int)<(q112_4 d x))=false->(∃(a:Nat),((0=(a:Int)/\True)/\True)/\a<=(q112_7 d x).length/\∀(j:Nat),j<a->U.ja (nth (q112_7 d x) j) (0:Int) 99=true)/\∀(a:Nat),(a<=(q112_7 d x).length/\∀(j:Nat),j<a->U.ja (nth (q112_7 d x) j) (0:Int) 99=true)->(q112_0 d x).2.2.2.1.length<4611686018427387904->(decide ((a:Int)<(q112_5 d x))=true->0<=(a:Int)/\(a:Int)<(q112_5 d x)/\((!U.ja (nth (q112_0 d x).2.2.2.1 (a:Int).toNat) (0:Int) (99:Int))=true->(false,())=(U.js d.1,()))/\((!U.ja (nth (q112_0 d x).2.2.2.1 (a:Int).toNat) (0:Int) (99:Int))=false->jz ((a:Int)+1)/\∃(c:Nat),(((a:Int)+1=(c:Int)/\True)/\True)/\(c<=(q112_7 d x).length/\∀(j:Nat),j<c->U.ja (nth (q112_7 d x) j) (0:Int) 99=true)/\(q112_7 d x).length-c<(q112_7 d x).length-a))/\(decide ((a:Int)<(q112_5 d x))=false->jz ((x:Int)+1)/\∃(c:Nat),(((x:Int)+1=(c:Int)/\True)/\True)/\(c<=(U.jh d.1).length/\∀(j:Nat),j<c->U.gw (U.la d.1) (nth (U.jh d.1) j)=true)/\(U.jh d.1).length-c<(U.jh d.1).length-x)))))/\(decide ((x:Int)<(d.1.2.1.length:Int))=false->(∃(x:Nat),((0=(x:Int)/\True)/\True)/\x<=(U.wu d.1).length/\∀(j:Nat),j<x->U.jaf (nth (U.wu d.1) j)=true)/\∀(x:Nat),(x<=(U.wu d.1).length/\∀(j:Nat),j<x->U.jaf (nth (U.wu d.1) j)=true)->d.1.2.2.1.length<4611686018427387904->(decide ((x:Int)<(q112_6 d))=true->0<=(x:Int)/\(x:Int)<(q112_6 d)/\((!!U.ja (nth d.1.2.2.1 (x:Int).toNat).1 (1:Int) (5:Int))=true->0<=(x:Int))/\((!!U.ja (nth d.1.2.2.1 (x:Int).toNat).1 (1:Int) (5:Int))=true->(x:Int)<(q112_6 d))/\((q112_2 d x)=true->(false,())=(U.js d.1,()))/\((q112_2 d x)=false->jz ((x:Int)+1)/\∃(c:Nat),(((x:Int)+1=(c:Int)/\True)/\True)/\(c<=(U.wu d.1).length/\∀(j:Nat),j<c->U.jaf (nth (U.wu d.1) j)=true)/\(U.wu d.1).length-c<(U.wu d.1).length-x))/\(decide ((x:Int)<(q112_6 d))=false->(true,())=(U.js d.1,()))))
def jsL:j9:=⟨[.val tCr,.val tJb],[.bool],false,fun d=>[U.js d.1=true],fun d=>(U.za d.1 d.2.1,())⟩
def jsf:Prop:=∀(d:CrD×JbD×Unit),U.js d.1=true->jz (d.1.1-1)/\(U.ja d.2.1.1 (0:Int) (d.1.1-1)=true->jz (d.1.1-1))/\(U.ja d.2.1.1 (0:Int) (d.1.1-1)&&U.ja d.2.1.2.1 (0:Int) (d.1.1-1)&&decide (d.2.1.1≠d.2.1.2.1)&&U.ja d.2.1.2.2.1 (0:Int) (99:Int)&&U.ja d.2.1.2.2.2.1 (0:Int) (7:Int)&&U.ja d.2.1.2.2.2.2.1 (0:Int) (3:Int)&&U.ja d.2.1.2.2.2.2.2.1 (1:Int) (8:Int),())=(U.za d.1 d.2.1,())
def jwz:j9:=⟨[.val tPe,.val .int],[.bool],false,fun _=>[],fun d=>(U.yf d.1 d.2.1,())⟩
def jya:Ann:=fun r=>match r with
 |2=>some fun σ=>{X:=Nat,sl:=fun i=>[(5,.dat .int (i:Int))],ob:=fun _=>[],inv:=fun i=>i<=(U.zS (gb tPe σ 2)).length/\∀j:Nat,j<i->nth (U.zS (gb tPe σ 2)) j≠gd .int σ 1,mu:=fun i=>(U.zS (gb tPe σ 2)).length-i}
 |_=>none
def jwc:Prop:=∀(d:PeD×Int×Unit),(∃(x:Nat),((0=(x:Int)/\True)/\True)/\x<=(U.zS d.1).length/\∀(j:Nat),j<x->nth (U.zS d.1) j≠d.2.1)/\∀(x:Nat),(x<=(U.zS d.1).length/\∀(j:Nat),j<x->nth (U.zS d.1) j≠d.2.1)->d.1.2.2.2.1.length<4611686018427387904->(decide ((x:Int)<(d.1.2.2.2.1.length:Int))=true->0<=(x:Int)/\(x:Int)<(d.1.2.2.2.1.length:Int)/\(decide (nth d.1.2.2.2.1 (x:Int).toNat=d.2.1)=true->(true,())=(U.yf d.1 d.2.1,()))/\(decide (nth d.1.2.2.2.1 (x:Int).toNat=d.2.1)=false->jz ((x:Int)+1)/\∃(a:Nat),(((x:Int)+1=(a:Int)/\True)/\True)/\(a<=(U.zS d.1).length/\∀(j:Nat),j<a->nth (U.zS d.1) j≠d.2.1)/\(U.zS d.1).length-a<(U.zS d.1).length-x))/\(decide ((x:Int)<(d.1.2.2.2.1.length:Int))=false->(false,())=(U.yf d.1 d.2.1,()))
def jnN:j9:=⟨[.val tCr,.val tJb,.val .int],[.bool],false,fun d=>[0<=d.2.2.1/\d.2.2.1<((U.jh d.1).length:Int),U.za d.1 d.2.1=true],fun d=>(U.zy d.1 d.2.1 d.2.2.1,())⟩
abbrev q115_0 (d:CrD×JbD×Int×Unit):=(nth d.1.2.1 d.2.2.1.toNat)
def jnz:Prop:=∀(d:CrD×JbD×Int×Unit),0<=d.2.2.1/\d.2.2.1<(↑(U.jh d.1).length:Int)->U.za d.1 d.2.1=true->0<=d.2.2.1/\d.2.2.1<(d.1.2.1.length:Int)/\((!U.yf (q115_0 d) d.2.1.2.2.1)=true->0<=d.2.1.2.2.2.1/\d.2.1.2.2.2.1<=63)/\((!U.yf (q115_0 d) d.2.1.2.2.1&&U.jR (q115_0 d).2.1 d.2.1.2.2.2.1)=true->0<=d.2.1.2.2.2.2.1/\d.2.1.2.2.2.2.1<=63)/\(!U.yf (q115_0 d) d.2.1.2.2.1&&U.jR (q115_0 d).2.1 d.2.1.2.2.2.1&&U.jR (q115_0 d).2.2.1 d.2.1.2.2.2.2.1,())=(U.zy d.1 d.2.1 d.2.2.1,())
def jwA:j9:=⟨[.val .int],[.int],false,fun d=>[BT.Set' d.1],fun d=>(BT.size d.1,())⟩
def jyb:Ann:=fun r=>match r with
 |2=>some fun σ=>{X:=Nat,sl:=fun j=>[(0,.dat .int (U.k8 (gd .int σ 0) j)),(3,.dat .int (BT.size (gd .int σ 0)-BT.size (U.k8 (gd .int σ 0) j)))],ob:=fun _=>[],inv:=fun j=>BT.Set' (U.k8 (gd .int σ 0) j),mu:=fun j=>(U.k8 (gd .int σ 0) j).toNat}
 |_=>none
def jwd:Prop:=∀(d:Int×Unit),BT.Set' d.1->(∃(x:Nat),((d.1=U.k8 d.1 x/\0=BT.size d.1-BT.size (U.k8 d.1 x)/\True)/\True)/\BT.Set' (U.k8 d.1 x))/\∀(x:Nat),BT.Set' (U.k8 d.1 x)->(decide (0<U.k8 d.1 x)=true->jz (BT.size d.1-BT.size (U.k8 d.1 x)+qL (U.k8 d.1 x) (1:Int))/\(0:Int)<=1/\(1:Int)<=64/\∃(a:Nat),((U.k8 d.1 x/(2:Int)^Int.toNat 1=U.k8 d.1 a/\BT.size d.1-BT.size (U.k8 d.1 x)+qL (U.k8 d.1 x) 1=BT.size d.1-BT.size (U.k8 d.1 a)/\True)/\True)/\BT.Set' (U.k8 d.1 a)/\(U.k8 d.1 a).toNat<(U.k8 d.1 x).toNat)/\(decide (0<U.k8 d.1 x)=false->(BT.size d.1-BT.size (U.k8 d.1 x),())=(BT.size d.1,()))
def jsK:j9:=⟨[.val tCr,.val .int,.val .int,.val .int,.val .int],[.bool],false,fun d=>[U.js d.1=true,0<=d.2.2.2.1/\d.2.2.2.1<U.la d.1,0<=d.2.2.2.2.1/\d.2.2.2.2.1<U.la d.1],fun d=>(U.jbz d.1 d.2.1 d.2.2.1 d.2.2.2.1 d.2.2.2.2.1,())⟩
def juD:Ann:=fun r=>match r with
 |2=>some fun σ=>{X:=Nat,sl:=fun i=>[(11,.dat .int (i:Int))],ob:=fun _=>[],inv:=fun i=>i<=(U.jh (gb tCr σ 5)).length/\∀j:Nat,j<i->(U.jR (gd .int σ 1) (j:Int)&&decide (gd .int σ 2<=nth (U.lv (nth (U.jh (gb tCr σ 5)) j)) (gd .int σ 3).toNat)&&decide (gd .int σ 2<=nth (U.lv (nth (U.jh (gb tCr σ 5)) j)) (gd .int σ 4).toNat))=false,mu:=fun i=>(U.jh (gb tCr σ 5)).length-i}
 |_=>none
abbrev q117_0 (d:CrD×Int×Int×Int×Int×Unit)(j:Nat):=(U.jR d.2.1 (j:Int)&&decide (d.2.2.1<=nth (U.lv (nth (U.jh d.1) j)) d.2.2.2.1.toNat)&&decide (d.2.2.1<=nth (U.lv (nth (U.jh d.1) j)) d.2.2.2.2.1.toNat))
abbrev q117_1 (d:CrD×Int×Int×Int×Int×Unit)(x:Nat):=(d.2.2.1<=nth (nth d.1.2.1 (x:Int).toNat).1 d.2.2.2.1.toNat)
abbrev q117_2 (d:CrD×Int×Int×Int×Int×Unit)(x:Nat):=(U.jR d.2.1 (x:Int)&&decide (q117_1 d x)&&decide (d.2.2.1<=nth (nth d.1.2.1 (x:Int).toNat).1 d.2.2.2.2.1.toNat))
abbrev q117_3 (d:CrD×Int×Int×Int×Int×Unit)(x:Nat):=(U.jR d.2.1 (x:Int)&&decide (q117_1 d x))
def jse:Prop:=∀(d:CrD×Int×Int×Int×Int×Unit),U.js d.1=true->0<=d.2.2.2.1/\d.2.2.2.1<U.la d.1->0<=d.2.2.2.2.1/\d.2.2.2.2.1<U.la d.1->(∃(x:Nat),((0=(x:Int)/\True)/\True)/\x<=(U.jh d.1).length/\∀(j:Nat),j<x->(q117_0 d j)=false)/\∀(x:Nat),(x<=(U.jh d.1).length/\∀(j:Nat),j<x->(q117_0 d j)=false)->d.1.2.1.length<4611686018427387904->(decide ((x:Int)<(d.1.2.1.length:Int))=true->(0<=(x:Int)/\(x:Int)<=63)/\(U.jR d.2.1 (x:Int)=true->0<=(x:Int))/\(U.jR d.2.1 (x:Int)=true->(x:Int)<(d.1.2.1.length:Int))/\(U.jR d.2.1 (x:Int)=true->0<=d.2.2.2.1)/\(U.jR d.2.1 (x:Int)=true->d.2.2.2.1<(↑(nth d.1.2.1 (x:Int).toNat).1.length:Int))/\((q117_3 d x)=true->0<=(x:Int))/\((q117_3 d x)=true->(x:Int)<(d.1.2.1.length:Int))/\((q117_3 d x)=true->0<=d.2.2.2.2.1)/\((q117_3 d x)=true->d.2.2.2.2.1<(↑(nth d.1.2.1 (x:Int).toNat).1.length:Int))/\((q117_2 d x)=true->(true,())=(U.jbz d.1 d.2.1 d.2.2.1 d.2.2.2.1 d.2.2.2.2.1,()))/\((q117_2 d x)=false->jz ((x:Int)+1)/\∃(a:Nat),(((x:Int)+1=(a:Int)/\True)/\True)/\(a<=(U.jh d.1).length/\∀(j:Nat),j<a->(q117_0 d j)=false)/\(U.jh d.1).length-a<(U.jh d.1).length-x))/\(decide ((x:Int)<(d.1.2.1.length:Int))=false->(false,())=(U.jbz d.1 d.2.1 d.2.2.1 d.2.2.2.1 d.2.2.2.2.1,()))
def jyZ:j9:=⟨[.val tCr,.val .int,.val .int,.val .int],[.slice .int],false,fun d=>[U.js d.1=true,0<=d.2.2.2.1/\d.2.2.2.1<U.la d.1],fun d=>(U.jcS d.1 d.2.1 d.2.2.1 d.2.2.2.1,())⟩
def jBH:Ann:=fun r=>match r with
 |3=>some fun σ=>{X:=Nat,sl:=fun i=>[(10,.dat .int (i:Int)),(9,.own 9 .int)],ob:=fun i=>[(9,some (.row 3 .int false .yes (List.replicate i (-1))))],inv:=fun i=>i<=(U.la (gb tCr σ 4)).toNat,mu:=fun i=>(U.la (gb tCr σ 4)).toNat-i}
 |8=>some fun σ=>{X:=Nat,sl:=fun i=>[(11,.dat .int (i:Int)),(9,.own 9 .int)],ob:=fun i=>[(9,some (.row 3 .int false .yes (U.zz (U.J3 (gb tCr σ 4) (gd .int σ 1) (gd .int σ 2)) (U.la (gb tCr σ 4)).toNat (gd .int σ 3).toNat i)))],inv:=fun i=>i<=(U.la (gb tCr σ 4)).toNat,mu:=fun i=>(U.la (gb tCr σ 4)).toNat-i}
 |11=>some fun σ=>{X:=Nat,sl:=fun i=>[(12,.dat .int (i:Int)),(9,.own 9 .int)],ob:=fun i=>[(9,some (.row 3 .int false .yes (U.kJ (U.J3 (gb tCr σ 4) (gd .int σ 1) (gd .int σ 2)) (U.la (gb tCr σ 4)).toNat (gd .int σ 11).toNat (gr .int σ 9) i)))],inv:=fun i=>i<=(U.la (gb tCr σ 4)).toNat,mu:=fun i=>(U.la (gb tCr σ 4)).toNat-i}
 |14=>some fun σ=>{X:=Nat,sl:=fun i=>[(13,.dat .int (i:Int)),(9,.own 9 .int)],ob:=fun i=>[(9,some (.row 3 .int false .yes (U.wa (U.J3 (gb tCr σ 4) (gd .int σ 1) (gd .int σ 2)) (gd .int σ 11).toNat (gd .int σ 12).toNat (gr .int σ 9) i)))],inv:=fun i=>i<=(U.la (gb tCr σ 4)).toNat,mu:=fun i=>(U.la (gb tCr σ 4)).toNat-i}
 |_=>none
abbrev q118_2 (d:CrD×Int×Int×Int×Unit):=(U.J3 d.1 d.2.1 d.2.2.1)
abbrev q118_4 (d:CrD×Int×Int×Int×Unit)(x:Nat):=(U.zz (q118_2 d) (U.la d.1).toNat d.2.2.2.1.toNat x)
abbrev q118_1 (d:CrD×Int×Int×Int×Unit)(x:Nat)(a:Nat):=(U.kJ (q118_2 d) (U.la d.1).toNat (x:Int).toNat (q118_4 d x) a)
abbrev q118_0 (d:CrD×Int×Int×Int×Unit)(x:Nat)(a:Nat)(b:Nat):=(U.wa (q118_2 d) (x:Int).toNat (a:Int).toNat (q118_1 d x a) b)
abbrev q118_3 (d:CrD×Int×Int×Int×Unit)(x:Nat)(a:Nat)(b:Nat):=(nth (q118_0 d x a b) (a:Int).toNat=(x:Int))
abbrev q118_5 (d:CrD×Int×Int×Int×Unit)(x:Nat)(b:Nat)(a:Nat):=(decide (q118_3 d x b a)&&decide (nth (q118_0 d x b a) (a:Int).toNat<0))
abbrev q118_6 (d:CrD×Int×Int×Int×Unit)(x:Nat)(b:Nat)(a:Nat):=(decide (q118_3 d x b a)&&decide (nth (q118_0 d x b a) (a:Int).toNat<0)&&U.jbz d.1 d.2.1 d.2.2.1 (b:Int) (a:Int))
def jyx:Prop:=∀(d:CrD×Int×Int×Int×Unit),U.js d.1=true->0<=d.2.2.2.1/\d.2.2.2.1<U.la d.1->(∃(x:Nat),((0=(x:Int)/\True/\True)/\List.replicate x (-1:Int)=[]/\True)/\x<=(U.la d.1).toNat)/\∀(x:Nat),x<=(U.la d.1).toNat->(decide ((x:Int)<d.1.1)=true->((List.replicate x (-1:Int)).length+[(-1:Int)].length)*8<=140737488355328/\jz ((x:Int)+1)/\∃(c:Nat),(((x:Int)+1=(c:Int)/\True/\True)/\List.replicate x (-1:Int)++[(-1:Int)]=List.replicate c (-1:Int)/\True)/\c<=(U.la d.1).toNat/\(U.la d.1).toNat-c<(U.la d.1).toNat-x)/\(decide ((x:Int)<d.1.1)=false->0<=d.2.2.2.1/\d.2.2.2.1<(↑(List.replicate x (-1:Int)).length:Int)/\(∃(e:Nat),((0=(e:Int)/\True/\True)/\(List.replicate x (-1:Int)).set d.2.2.2.1.toNat 0=U.zz (q118_2 d) (U.la d.1).toNat d.2.2.2.1.toNat e/\True)/\e<=(U.la d.1).toNat)/\∀(x:Nat),x<=(U.la d.1).toNat->(decide ((x:Int)<d.1.1)=true->(∃(a:Nat),((0=(a:Int)/\True/\True)/\U.zz (q118_2 d) (U.la d.1).toNat d.2.2.2.1.toNat x=U.kJ (q118_2 d) (U.la d.1).toNat (x:Int).toNat (q118_4 d x) a/\True)/\a<=(U.la d.1).toNat)/\∀(a:Nat),a<=(U.la d.1).toNat->(decide ((a:Int)<d.1.1)=true->(∃(b:Nat),((0=(b:Int)/\True/\True)/\U.kJ (q118_2 d) (U.la d.1).toNat (x:Int).toNat (q118_4 d x) a=U.wa (q118_2 d) (x:Int).toNat (a:Int).toNat (q118_1 d x a) b/\True)/\b<=(U.la d.1).toNat)/\∀(b:Nat),b<=(U.la d.1).toNat->(decide ((b:Int)<d.1.1)=true->0<=(a:Int)/\(a:Int)<(↑(q118_0 d x a b).length:Int)/\(decide (q118_3 d x a b)=true->0<=(b:Int))/\(decide (q118_3 d x a b)=true->(b:Int)<(↑(q118_0 d x a b).length:Int))/\((q118_5 d x a b)=true->U.js d.1=true)/\((q118_5 d x a b)=true->0<=(a:Int)/\(a:Int)<U.la d.1)/\((q118_5 d x a b)=true->0<=(b:Int)/\(b:Int)<U.la d.1)/\((q118_6 d x a b)=true->jz ((x:Int)+1)/\0<=(b:Int)/\(b:Int)<(↑(q118_0 d x a b).length:Int)/\jz ((b:Int)+1)/\∃(c:Nat),((True/\(b:Int)+1=(c:Int)/\True)/\(q118_0 d x a b).set (b:Int).toNat ((x:Int)+1)=U.wa (q118_2 d) (x:Int).toNat (a:Int).toNat (q118_1 d x a) c/\True)/\c<=(U.la d.1).toNat/\(U.la d.1).toNat-c<(U.la d.1).toNat-b)/\((q118_6 d x a b)=false->jz ((b:Int)+1)/\∃(c:Nat),((True/\(b:Int)+1=(c:Int)/\True)/\U.wa (q118_2 d) (x:Int).toNat (a:Int).toNat (q118_1 d x a) b=U.wa (q118_2 d) (x:Int).toNat (a:Int).toNat (q118_1 d x a) c/\True)/\c<=(U.la d.1).toNat/\(U.la d.1).toNat-c<(U.la d.1).toNat-b))/\(decide ((b:Int)<d.1.1)=false->jz ((a:Int)+1)/\∃(c:Nat),(((a:Int)+1=(c:Int)/\True/\True)/\U.wa (q118_2 d) (x:Int).toNat (a:Int).toNat (q118_1 d x a) b=U.kJ (q118_2 d) (U.la d.1).toNat (x:Int).toNat (q118_4 d x) c/\True)/\c<=(U.la d.1).toNat/\(U.la d.1).toNat-c<(U.la d.1).toNat-a))/\(decide ((a:Int)<d.1.1)=false->jz ((x:Int)+1)/\∃(c:Nat),(((x:Int)+1=(c:Int)/\True/\True)/\U.kJ (q118_2 d) (U.la d.1).toNat (x:Int).toNat (q118_4 d x) a=U.zz (q118_2 d) (U.la d.1).toNat d.2.2.2.1.toNat c/\True)/\c<=(U.la d.1).toNat/\(U.la d.1).toNat-c<(U.la d.1).toNat-x))/\(decide ((x:Int)<d.1.1)=false->(U.zz (q118_2 d) (U.la d.1).toNat d.2.2.2.1.toNat x,())=(U.jcS d.1 d.2.1 d.2.2.1 d.2.2.2.1,())))
def jpQ:j9:=⟨[.val tCr,.val tJb,.val .int],[.int],false,fun d=>[U.js d.1=true,U.za d.1 d.2.1=true,U.jo7 d.2.2.1],fun d=>(U.jx1 d.1 d.2.1 d.2.2.1,())⟩
def jrB:Ann:=fun r=>match r with
 |5=>some fun σ=>{X:=Nat,sl:=fun i=>[(10,.dat .int (i:Int)),(8,.dat .int (U.zo (gb tCr σ 3) (gb tJb σ 4) (gd .int σ 2) i).1),(9,.dat .bool (U.zo (gb tCr σ 3) (gb tJb σ 4) (gd .int σ 2) i).2)],ob:=fun _=>[],inv:=fun i=>i<=(U.jh (gb tCr σ 3)).length,mu:=fun i=>(U.jh (gb tCr σ 3)).length-i}
 |_=>none
abbrev q119_1 (d:CrD×JbD×Int×Unit)(x:Nat):=(U.zo d.1 d.2.1 d.2.2.1 x)
abbrev q119_2 (d:CrD×JbD×Int×Unit)(x:Nat):=(nth d.1.2.1 (x:Int).toNat)
abbrev q119_3 (d:CrD×JbD×Int×Unit)(a:Nat):=(U.zo d.1 d.2.1 d.2.2.1 a)
abbrev q119_4 (d:CrD×JbD×Int×Unit)(x:Nat):=(!U.jR (q119_2 d x).2.2.1 d.2.1.2.2.2.2.1)
abbrev q119_5 (d:CrD×JbD×Int×Unit)(x:Nat):=((q119_1 d x).2||(q119_2 d x).2.2.2.2.1)
abbrev q119_7 (d:CrD×JbD×Int×Unit):=(nth d.1.2.2.1 d.2.1.2.2.2.2.1.toNat)
abbrev q119_0 (d:CrD×JbD×Int×Unit):=(U.jcS d.1 d.2.2.1 (q119_7 d).1 d.2.1.1)
abbrev q119_6 (d:CrD×JbD×Int×Unit):=(nth (q119_0 d) d.2.1.2.1.toNat<0)
abbrev q119_8 (d:CrD×JbD×Int×Unit):=(U.jx1 d.1 d.2.1 d.2.2.1,())
abbrev q119_9 (d:CrD×JbD×Int×Unit):=(0<=d.2.1.2.2.2.2.1/\d.2.1.2.2.2.2.1<=63)
abbrev q119_10 (d:CrD×JbD×Int×Unit):=(0<=d.2.1.1/\d.2.1.1<U.la d.1)
abbrev q119_11 (d:CrD×JbD×Int×Unit)(x:Nat):=(!U.jR (q119_2 d x).2.1 d.2.1.2.2.2.1)
def jpt:Prop:=∀(d:CrD×JbD×Int×Unit),U.js d.1=true->U.za d.1 d.2.1=true->U.jo7 d.2.2.1->0<=d.2.1.2.2.2.2.1/\d.2.1.2.2.2.2.1<(d.1.2.2.1.length:Int)/\(∃(x:Nat),((0=(x:Int)/\0=(q119_1 d x).1/\false=(q119_1 d x).2/\True)/\True)/\x<=(U.jh d.1).length)/\∀(x:Nat),x<=(U.jh d.1).length->d.1.2.1.length<4611686018427387904->(decide ((x:Int)<(d.1.2.1.length:Int))=true->(0<=(x:Int)/\(x:Int)<=63)/\((!U.jR d.2.2.1 (x:Int))=true->jz ((x:Int)+1)/\∃(a:Nat),(((q119_1 d x).2=(q119_3 d a).2/\(q119_1 d x).1=(q119_3 d a).1/\(x:Int)+1=(a:Int)/\True)/\True)/\a<=(U.jh d.1).length/\(U.jh d.1).length-a<(U.jh d.1).length-x)/\((!U.jR d.2.2.1 (x:Int))=false->0<=(x:Int)/\(x:Int)<(d.1.2.1.length:Int)/\(U.yf (q119_2 d x) d.2.1.2.2.1=true->(0<=d.2.1.2.2.2.1/\d.2.1.2.2.2.1<=63)/\((q119_11 d x)=true->(q119_9 d)/\((q119_4 d x)=true->jz ((x:Int)+1)/\∃(a:Nat),(((x:Int)+1=(a:Int)/\(q119_5 d x)=(q119_3 d a).2/\bor (bor (bor (q119_1 d x).1 (1:Int)) (2:Int)) 4=(q119_3 d a).1/\True)/\True)/\a<=(U.jh d.1).length/\(U.jh d.1).length-a<(U.jh d.1).length-x)/\((q119_4 d x)=false->jz ((x:Int)+1)/\∃(a:Nat),(((x:Int)+1=(a:Int)/\(q119_5 d x)=(q119_3 d a).2/\bor (bor (q119_1 d x).1 (1:Int)) 2=(q119_3 d a).1/\True)/\True)/\a<=(U.jh d.1).length/\(U.jh d.1).length-a<(U.jh d.1).length-x))/\((q119_11 d x)=false->(q119_9 d)/\((q119_4 d x)=true->jz ((x:Int)+1)/\∃(a:Nat),(((x:Int)+1=(a:Int)/\(q119_5 d x)=(q119_3 d a).2/\bor (bor (q119_1 d x).1 (1:Int)) 4=(q119_3 d a).1/\True)/\True)/\a<=(U.jh d.1).length/\(U.jh d.1).length-a<(U.jh d.1).length-x)/\((q119_4 d x)=false->jz ((x:Int)+1)/\∃(a:Nat),(((x:Int)+1=(a:Int)/\(q119_5 d x)=(q119_3 d a).2/\bor (q119_1 d x).1 1=(q119_3 d a).1/\True)/\True)/\a<=(U.jh d.1).length/\(U.jh d.1).length-a<(U.jh d.1).length-x)))/\(U.yf (q119_2 d x) d.2.1.2.2.1=false->(0<=d.2.1.2.2.2.1/\d.2.1.2.2.2.1<=63)/\((q119_11 d x)=true->(q119_9 d)/\((q119_4 d x)=true->jz ((x:Int)+1)/\∃(a:Nat),(((x:Int)+1=(a:Int)/\(q119_5 d x)=(q119_3 d a).2/\bor (bor (q119_1 d x).1 (2:Int)) 4=(q119_3 d a).1/\True)/\True)/\a<=(U.jh d.1).length/\(U.jh d.1).length-a<(U.jh d.1).length-x)/\((q119_4 d x)=false->jz ((x:Int)+1)/\∃(a:Nat),(((x:Int)+1=(a:Int)/\(q119_5 d x)=(q119_3 d a).2/\bor (q119_1 d x).1 2=(q119_3 d a).1/\True)/\True)/\a<=(U.jh d.1).length/\(U.jh d.1).length-a<(U.jh d.1).length-x))/\((q119_11 d x)=false->(q119_9 d)/\((q119_4 d x)=true->jz ((x:Int)+1)/\∃(a:Nat),(((x:Int)+1=(a:Int)/\(q119_5 d x)=(q119_3 d a).2/\bor (q119_1 d x).1 4=(q119_3 d a).1/\True)/\True)/\a<=(U.jh d.1).length/\(U.jh d.1).length-a<(U.jh d.1).length-x)/\((q119_4 d x)=false->jz ((x:Int)+1)/\∃(a:Nat),(((q119_1 d x).1=(q119_3 d a).1/\(x:Int)+1=(a:Int)/\(q119_5 d x)=(q119_3 d a).2/\True)/\True)/\a<=(U.jh d.1).length/\(U.jh d.1).length-a<(U.jh d.1).length-x)))))/\(decide ((x:Int)<(d.1.2.1.length:Int))=false->BT.Set' d.2.2.1/\(decide (BT.size d.2.2.1≠max d.2.1.2.2.2.2.2.1 (q119_7 d).2.1)=true->(((q119_7 d).2.2.1&& !(q119_1 d x).2)=true->U.js d.1=true/\(q119_10 d)/\0<=d.2.1.2.1/\d.2.1.2.1<(↑(q119_0 d).length:Int)/\(decide (q119_6 d)=true->(bor (bor (bor (q119_1 d x).1 (8:Int)) (16:Int)) (32:Int),())=(q119_8 d))/\(decide (q119_6 d)=false->(bor (bor (q119_1 d x).1 (8:Int)) (16:Int),())=(q119_8 d)))/\(((q119_7 d).2.2.1&& !(q119_1 d x).2)=false->U.js d.1=true/\(q119_10 d)/\0<=d.2.1.2.1/\d.2.1.2.1<(↑(q119_0 d).length:Int)/\(decide (q119_6 d)=true->(bor (bor (q119_1 d x).1 (8:Int)) (32:Int),())=(q119_8 d))/\(decide (q119_6 d)=false->(bor (q119_1 d x).1 (8:Int),())=(q119_8 d))))/\(decide (BT.size d.2.2.1≠max d.2.1.2.2.2.2.2.1 (q119_7 d).2.1)=false->(((q119_7 d).2.2.1&& !(q119_1 d x).2)=true->U.js d.1=true/\(q119_10 d)/\0<=d.2.1.2.1/\d.2.1.2.1<(↑(q119_0 d).length:Int)/\(decide (q119_6 d)=true->(bor (bor (q119_1 d x).1 (16:Int)) (32:Int),())=(q119_8 d))/\(decide (q119_6 d)=false->(bor (q119_1 d x).1 (16:Int),())=(q119_8 d)))/\(((q119_7 d).2.2.1&& !(q119_1 d x).2)=false->U.js d.1=true/\(q119_10 d)/\0<=d.2.1.2.1/\d.2.1.2.1<(↑(q119_0 d).length:Int)/\(decide (q119_6 d)=true->(bor (q119_1 d x).1 (32:Int),())=(q119_8 d))/\(decide (q119_6 d)=false->((q119_1 d x).1,())=(q119_8 d)))))
def jwB:j9:=⟨[.val tCr,.val tJb,.val .int],[.bool],false,fun d=>[U.js d.1=true,U.za d.1 d.2.1=true,U.jo7 d.2.2.1],fun d=>(U.jaq d.1 d.2.1 d.2.2.1,())⟩
def jwe:Prop:=∀(d:CrD×JbD×Int×Unit),U.js d.1=true->U.za d.1 d.2.1=true->U.jo7 d.2.2.1->(decide (0<d.2.2.1)=true->U.js d.1=true)/\(decide (0<d.2.2.1)=true->U.za d.1 d.2.1=true)/\(decide (0<d.2.2.1)=true->U.jo7 d.2.2.1)/\(decide (0<d.2.2.1)&&decide (U.jx1 d.1 d.2.1 d.2.2.1=0),())=(U.jaq d.1 d.2.1 d.2.2.1,())
def jy1:j9:=⟨[.val tCr,.val .int],[.int],false,fun d=>[U.js d.1=true],fun d=>(U.jk5 d.1 d.2.1,())⟩
def jBI:Ann:=fun r=>match r with
 |3=>some fun σ=>{X:=Nat,sl:=fun i=>[(6,.dat .int (i:Int)),(5,.dat .int (U.wo (gb tCr σ 2) (gd .int σ 1) i))],ob:=fun _=>[],inv:=fun i=>i<=(U.jh (gb tCr σ 2)).length,mu:=fun i=>(U.jh (gb tCr σ 2)).length-i}
 |_=>none
def jyz:Prop:=∀(d:CrD×Int×Unit),U.js d.1=true->(∃(x:Nat),((0=(x:Int)/\0=U.wo d.1 d.2.1 x/\True)/\True)/\x<=(U.jh d.1).length)/\∀(x:Nat),x<=(U.jh d.1).length->d.1.2.1.length<4611686018427387904->(decide ((x:Int)<(d.1.2.1.length:Int))=true->(0<=(x:Int)/\(x:Int)<=63)/\(U.jR d.2.1 (x:Int)=true->0<=(x:Int)/\(x:Int)<(d.1.2.1.length:Int)/\jz (U.wo d.1 d.2.1 x+(nth d.1.2.1 (x:Int).toNat).2.2.2.2.2.1)/\jz ((x:Int)+1)/\∃(a:Nat),(((x:Int)+1=(a:Int)/\U.wo d.1 d.2.1 x+(nth d.1.2.1 (x:Int).toNat).2.2.2.2.2.1=U.wo d.1 d.2.1 a/\True)/\True)/\a<=(U.jh d.1).length/\(U.jh d.1).length-a<(U.jh d.1).length-x)/\(U.jR d.2.1 (x:Int)=false->jz ((x:Int)+1)/\∃(a:Nat),((U.wo d.1 d.2.1 x=U.wo d.1 d.2.1 a/\(x:Int)+1=(a:Int)/\True)/\True)/\a<=(U.jh d.1).length/\(U.jh d.1).length-a<(U.jh d.1).length-x))/\(decide ((x:Int)<(d.1.2.1.length:Int))=false->(U.wo d.1 d.2.1 x,())=(U.jk5 d.1 d.2.1,()))
end Go.X
namespace Go.X
open Go.Proofs
theorem jtV:jps:=by
 rintro⟨n,a,b,⟨⟩⟩;rfl
theorem jhY:zm PR 75 jpP:=j8 jtV Tryz.func75 kcN koN
theorem jCT:jyy:=by
 rintro⟨s,n,⟨⟩⟩ ⟨a,b⟩;have a:0<=n:=a;have b:n<=63:=b;exact⟨a,by show n<=18446744073709551615;omega,a,by show n<=64;omega,rfl⟩
theorem vu:zm PR 36 jy0:=j8 jCT Tryz.func36 kcN koN
theorem jCI (c:CrD) (j:JbD):(U.ja (U.jrR j) 0 (U.la c-1)&&U.ja (U.jmW j) 0 (U.la c-1)&&decide (U.jrR j≠U.jmW j)&&U.ja (U.jBT j) 0 99&&U.ja (U.jtB j) 0 7&&U.ja (U.jrQ j) 0 3&&U.ja (U.jCE j) 1 8)=U.za c j:=by
 unfold U.za U.ja;rw[jId];simp only[jHK,decide_eq_true_eq,ne_eq];constructor
 .rintro⟨⟨⟨⟨⟨⟨⟨f,g⟩,h,i⟩,k⟩,l,m⟩,n,o⟩,a,b⟩,d,e⟩;exact⟨f,g,h,i,k,l,m,n,o,a,b,d,e⟩
 .rintro⟨f,g,h,i,k,l,m,n,o,a,b,d,e⟩;exact⟨⟨⟨⟨⟨⟨⟨f,g⟩,h,i⟩,k⟩,l,m⟩,n,o⟩,a,b⟩,d,e⟩
theorem jxy:jsf:=by
 rintro⟨c,j,⟨⟩⟩ h;have h:U.js c=true:=h;have d:=jy h;have a:jz (U.la c-1):=L.in64 (by omega) (by omega);refine⟨a,fun _=>a,?_⟩;exact congrArg (fun b=>(b,())) (jCI c j)
theorem jtr:zm PR 50 jsL:=j8 jxy Tryz.func50 (kcC jhY kcN) koN
theorem jAL:jwc:=by
 rintro⟨p,n,⟨⟩⟩;refine⟨⟨0,⟨⟨rfl,trivial⟩,trivial⟩,jHR _,fun j d=>by omega⟩,fun x b c=>⟨fun h=> ?_,fun h=> ?_⟩⟩
 .have c:(U.zS p).length<4611686018427387904:=c;have h:(x:Int)<((U.zS p).length:Int):=of_decide_eq_true h;refine⟨by omega,h,fun a=> ?_,fun a=>⟨L.in64 (by omega) (by omega),x+1,⟨⟨by simp,trivial⟩,trivial⟩,⟨by show x+1<=(U.zS p).length;omega,fun j d=> ?_⟩,by show(U.zS p).length-(x+1)<(U.zS p).length-x;omega⟩⟩
  .have a:nth (U.zS p) x=n:=of_decide_eq_true a;have:U.yf p n=true:=by
    unfold U.yf;rw[jIn];exact⟨_,L.mem_nth (l:=U.zS p) (i:=x) (by omega),by simpa using a⟩
   show(true,())=(U.yf p n,());rw[this]
  .have a:¬nth (U.zS p) x=n:=of_decide_eq_false a;by_cases e:j=x
   .subst e;exact a
   .exact b.2 j (by omega)
 .have h:¬(x:Int)<((U.zS p).length:Int):=of_decide_eq_false h;have g:x<=(U.zS p).length:=b.1;have:U.yf p n=false:=by
   unfold U.yf;rw[jIv];intro t f;obtain⟨i,hi,rfl⟩:=L.mem_iff.1 f;have:=b.2 i (by omega);have this:nth (U.zS p) i≠n:=this;simpa using this
  show(false,())=(U.yf p n,());rw[this]
theorem jmL:zm PR 76 jwz:=kH jya jAL Tryz.func76 kcN koN
theorem jAn {c:CrD} {j:JbD} (h:U.za c j=true):(0<=U.jrR j/\U.jrR j<U.la c)/\(0<=U.jmW j/\U.jmW j<U.la c)/\(0<=U.jtB j/\U.jtB j<=7)/\(0<=U.jrQ j/\U.jrQ j<=3)/\1<=U.jCE j/\U.jCE j<=8:=by
 unfold U.za at h;have:=of_decide_eq_true h;omega
theorem jqU:jnz:=by
 unfold jnz q115_0;rintro⟨c,j,p,⟨⟩⟩ ⟨b,d⟩ a;have a:U.za c j=true:=a;obtain⟨_,_,f,k,_⟩:=jAn a;exact⟨b,d,fun _=>⟨f.1,by show U.jtB j<=63;omega⟩,fun _=>⟨k.1,by show U.jrQ j<=63;omega⟩,rfl⟩
theorem joe:zm PR 37 jnN:=j8 jqU Tryz.func37 (kcC jmL (kcC vu kcN)) koN
theorem jAM:jwd:=by
 rintro⟨s,⟨⟩⟩ d;have d:BT.Set' s:=d;have e:=BT.size_le s;refine⟨⟨0,⟨⟨rfl,by show(0:Int)=BT.size s-BT.size s;omega,trivial⟩,trivial⟩,d⟩,fun x a=>⟨fun h=> ?_,fun h=> ?_⟩⟩
 .have h:0<U.k8 s x:=of_decide_eq_true h;have a:BT.Set' (U.k8 s x):=a;have g:=BT.size_half a;have i:=BT.size_le (U.k8 s x);have j:qL (U.k8 s x) 1=(U.k8 s x)%2:=by
   obtain⟨n,f,c⟩:=BT.nat_of a;rw[f,show(1:Int)=((1:Nat):Int) from rfl,BT.band_nat (BT.lt63 c) (by decide),Nat.and_one_is_mod];omega
  have b:U.k8 s (x+1)=U.k8 s x/2:=(by show U.k8 s x/2^1=_;simp);unfold BT.Set' at a;refine⟨?_,by decide,by decide,x+1,⟨⟨rfl,?_,trivial⟩,trivial⟩,?_,?_⟩
  .show jz (BT.size s-BT.size (U.k8 s x)+qL (U.k8 s x) 1);exact L.in64 (by omega) (by omega)
  .show BT.size s-BT.size (U.k8 s x)+qL (U.k8 s x) 1=BT.size s-BT.size (U.k8 s (x+1));rw[b];omega
  .show BT.Set' (U.k8 s (x+1));rw[b];unfold BT.Set';omega
  .show(U.k8 s (x+1)).toNat<(U.k8 s x).toNat;rw[b];omega
 .have h:¬0<U.k8 s x:=of_decide_eq_false h;have a:BT.Set' (U.k8 s x):=a;unfold BT.Set' at a;have:U.k8 s x=0:=(by omega);show(BT.size s-BT.size (U.k8 s x),())=(BT.size s,());rw[this,BT.size_zero];simp
theorem jw0:zm PR 148 jwA:=kH jyb jAM Tryz.func148 kcN koN
theorem jq8 (c:CrD) (t:Int) (n:Nat):U.wo c t (n+1)=if U.jR t (n:Int)=true then U.wo c t n+U.fe (nth (U.jh c) n) else U.wo c t n:=by
 unfold U.wo;rw[jIe,jH8];rfl
theorem jA1 {c:CrD} (h:U.js c=true) (t:Int):∀n,n<=(U.jh c).length->0<=U.wo c t n/\U.wo c t n<=1000*(n:Int)
 |0,_=>⟨jIA _,jIA _⟩
 |n+1,a=>by
  have b:=jA1 h t n (by omega)
  have:=jja h (i:=n) (by omega)
  rw[jq8]
  split<;>omega
theorem jCU:jyz:=by
 rintro⟨c,t,⟨⟩⟩ b;have b:U.js c=true:=b;have m:=(jy b).2.2.1;refine⟨⟨0,⟨⟨rfl,rfl,trivial⟩,trivial⟩,jHR _⟩,fun x g _=>⟨fun h=> ?_,fun h=> ?_⟩⟩
 .have h:(x:Int)<((U.jh c).length:Int):=of_decide_eq_true h;have d:=jq8 c t x;have l:=jA1 b t x (by omega);have k:=jja b (i:=x) (by omega);have j:x+1<=(U.jh c).length:=(by omega);have f:(U.jh c).length-(x+1)<(U.jh c).length-x:=(by omega);refine⟨⟨by omega,by omega⟩,fun a=>⟨by omega,h,?_,L.in64 (by omega) (by omega),x+1,⟨⟨by simp,?_,trivial⟩,trivial⟩,j,f⟩,fun a=>⟨L.in64 (by omega) (by omega),x+1,⟨⟨?_,by simp,trivial⟩,trivial⟩,j,f⟩⟩
  .show jz (U.wo c t x+U.fe (nth (U.jh c) x));exact L.in64 (by omega) (by omega)
  .rw[if_pos a] at d;exact d.symm
  .have a:U.jR t (x:Int)=false:=a;rw[if_neg (by rw[a];simp)] at d;exact d.symm
 .have h:¬(x:Int)<((U.jh c).length:Int):=of_decide_eq_false h;have g:x<=(U.jh c).length:=g;have e:x=(U.jh c).length:=(by omega);subst e;rfl
theorem jzT:zm PR 69 jy1:=kH jBI jCU Tryz.func69 (kcC vu kcN) koN
end Go.X
namespace Go.X
open Go.Proofs
theorem jAN:jwe:=by
 rintro⟨c,j,t,⟨⟩⟩ a b d;exact⟨fun _=>a,fun _=>b,fun _=>d,rfl⟩
theorem jGh {c:CrD} (h:U.js c=true) {i:Nat} (hi:i<(U.jh c).length):((U.lv (nth (U.jh c) i)).length:Int)=U.la c:=by
 have:=(jy h).2.2.2.2.1 _ (L.mem_nth hi);unfold U.gw at this;simp only[jHK,decide_eq_true_eq] at this;exact this.1.1
theorem jxx:jse:=by
 unfold jse q117_3 q117_2 q117_1 q117_0;rintro⟨c,t,lev,a,b,⟨⟩⟩ f g k;have f:U.js c=true:=f;have g:0<=a/\a<U.la c:=g;have k:0<=b/\b<U.la c:=k;have n:=(jy f).2.2.1;refine⟨⟨0,⟨⟨rfl,trivial⟩,trivial⟩,jHR _,fun j m=>by omega⟩,fun x l _=>⟨fun h=> ?_,fun h=> ?_⟩⟩
 .have h:(x:Int)<((U.jh c).length:Int):=of_decide_eq_true h;have o:=jGh f (i:=x) (by omega);refine⟨⟨by omega,by omega⟩,fun _=>by omega,fun _=>h,fun _=>g.1,fun _=> ?_,fun _=>by omega,fun _=>h,fun _=>k.1,fun _=> ?_,fun d=> ?_,fun d=>⟨L.in64 (by omega) (by omega),x+1,⟨⟨by simp,trivial⟩,trivial⟩,⟨by show x+1<=(U.jh c).length;omega,fun j m=> ?_⟩,by show(U.jh c).length-(x+1)<(U.jh c).length-x;omega⟩⟩
  .show a<((U.lv (nth (U.jh c) x)).length:Int);omega
  .show b<((U.lv (nth (U.jh c) x)).length:Int);omega
  .have d:(U.jR t (x:Int)&&decide (lev<=nth (U.lv (nth (U.jh c) x)) a.toNat)&&decide (lev<=nth (U.lv (nth (U.jh c) x)) b.toNat))=true:=d;have:U.jbz c t lev a b=true:=by
    unfold U.jbz;rw[jIn];exact⟨x,jHZ.2 (by omega),d⟩
   show(true,())=(U.jbz c t lev a b,());rw[this]
  .by_cases e:j=x
   .subst e;exact d
   .exact l.2 j (by omega)
 .have h:¬(x:Int)<((U.jh c).length:Int):=of_decide_eq_false h;have:U.jbz c t lev a b=false:=by
   unfold U.jbz;rw[jIv];intro i hi;have hi:=jHZ.1 hi;have:=l.2 i (by omega);rw[Bool.not_eq_true];exact this
  show(false,())=(U.jbz c t lev a b,());rw[this]
theorem jtq:zm PR 177 jsK:=kH juD jxx Tryz.func177 (kcC vu kcN) koN
theorem jt4 (J:Nat->Nat->Bool) (r a:Nat) (out:List Int) (b:Nat):(U.jdo J r a out b).length=out.length:=by
 unfold U.jdo
 split
 .rw[jI9]
 .rfl
theorem jra (J:Nat->Nat->Bool) (r a:Nat) (out:List Int) (k:Nat):U.wa J r a out (k+1)=U.jdo J r a (U.wa J r a out k) k:=by
 unfold U.wa;rw[jIe,jH8];rfl
theorem joO (J:Nat->Nat->Bool) (r a:Nat) (out:List Int):∀k,(U.wa J r a out k).length=out.length
 |0=>rfl
 |k+1=>by rw[jra,jt4,joO J r a out k]
theorem jrb (J:Nat->Nat->Bool) (n r:Nat) (out:List Int) (k:Nat):U.kJ J n r out (k+1)=U.wa J r k (U.kJ J n r out k) n:=by
 unfold U.kJ;rw[jIe,jH8];rfl
theorem joP (J:Nat->Nat->Bool) (n r:Nat) (out:List Int):∀k,(U.kJ J n r out k).length=out.length
 |0=>rfl
 |k+1=>by rw[jrb,joO,joP J n r out k]
theorem jq9 (J:Nat->Nat->Bool) (n s:Nat) (k:Nat):U.zz J n s (k+1)=U.kJ J n k (U.zz J n s k) n:=by
 unfold U.zz;rw[jIe,jH8];rfl
theorem joN (J:Nat->Nat->Bool) (n s:Nat):∀k,(U.zz J n s k).length=n
 |0=>jeX n s
 |k+1=>by rw[jq9,joP,joN J n s k]
theorem jCS:jyx:=by
 unfold jyx q118_6 q118_5 q118_3 q118_0 q118_1 q118_4 q118_2;rintro⟨c,t,lev,s,⟨⟩⟩ j l;have j:U.js c=true:=j;have l:0<=s/\s<U.la c:=l;have u:=jy j;obtain⟨J,v⟩:∃J,J=U.J3 c t lev:=⟨_,rfl⟩;refine⟨⟨0,⟨⟨rfl,trivial,trivial⟩,rfl,trivial⟩,jHR _⟩,fun x i=>⟨fun h=> ?_,fun h=> ?_⟩⟩
 .have h:(x:Int)<U.la c:=of_decide_eq_true h;refine⟨by simp only[jIG,jIi,jIq];omega,L.in64 (by omega) (by omega),x+1,⟨⟨by simp,trivial,trivial⟩,?_,trivial⟩,by show x+1<=(U.la c).toNat;omega,by show(U.la c).toNat-(x+1)<(U.la c).toNat-x;omega⟩;exact List.replicate_succ'.symm
 .have h:¬(x:Int)<U.la c:=of_decide_eq_false h;have i:x<=(U.la c).toNat:=i;have f:x=(U.la c).toNat:=(by omega);subst f;refine⟨l.1,by rw[jIG];show s<(((U.la c).toNat:Nat):Int);omega,⟨0,⟨⟨rfl,trivial,trivial⟩,rfl,trivial⟩,jHR _⟩,fun x i=>⟨fun h=>⟨⟨0,⟨⟨rfl,trivial,trivial⟩,rfl,trivial⟩,jHR _⟩,fun y p=>⟨fun e=>⟨⟨0,⟨⟨rfl,trivial,trivial⟩,rfl,trivial⟩,jHR _⟩,fun z q=>⟨fun g=> ?_,fun g=> ?_⟩⟩,fun e=> ?_⟩⟩,fun h=> ?_⟩⟩
  .have h:(x:Int)<U.la c:=of_decide_eq_true h;have e:(y:Int)<U.la c:=of_decide_eq_true e;have g:(z:Int)<U.la c:=of_decide_eq_true g;have d:=jra (U.J3 c t lev) x y (U.kJ (U.J3 c t lev) (U.la c).toNat x (U.zz (U.J3 c t lev) (U.la c).toNat s.toNat x) y) z;have b:(U.wa (U.J3 c t lev) x y (U.kJ (U.J3 c t lev) (U.la c).toNat x (U.zz (U.J3 c t lev) (U.la c).toNat s.toNat x) y) z).length=(U.la c).toNat:=(by rw[joO,joP,joN]);have r:z+1<=(U.la c).toNat:=(by omega);have o:(U.la c).toNat-(z+1)<(U.la c).toNat-z:=(by omega);refine⟨by omega,by show(y:Int)<((U.wa (U.J3 c t lev) x y (U.kJ (U.J3 c t lev) (U.la c).toNat x (U.zz (U.J3 c t lev) (U.la c).toNat s.toNat x) y) z).length:Int);rw[b];omega,fun _=>by omega,fun _=>by show(z:Int)<((U.wa (U.J3 c t lev) x y (U.kJ (U.J3 c t lev) (U.la c).toNat x (U.zz (U.J3 c t lev) (U.la c).toNat s.toNat x) y) z).length:Int);rw[b];omega,fun _=>j,fun _=>⟨by omega,e⟩,fun _=>⟨by omega,g⟩,fun a=> ?_,fun a=> ?_⟩
   .have a:((decide (nth (U.wa (U.J3 c t lev) x y (U.kJ (U.J3 c t lev) (U.la c).toNat x (U.zz (U.J3 c t lev) (U.la c).toNat s.toNat x) y) z) y=(x:Int))&&decide (nth (U.wa (U.J3 c t lev) x y (U.kJ (U.J3 c t lev) (U.la c).toNat x (U.zz (U.J3 c t lev) (U.la c).toNat s.toNat x) y) z) z<0))&&U.J3 c t lev y z)=true:=a;simp only[jHK,decide_eq_true_eq] at a;refine⟨L.in64 (by omega) (by omega),by omega,by show(z:Int)<((U.wa (U.J3 c t lev) x y (U.kJ (U.J3 c t lev) (U.la c).toNat x (U.zz (U.J3 c t lev) (U.la c).toNat s.toNat x) y) z).length:Int);rw[b];omega,L.in64 (by omega) (by omega),z+1,⟨⟨trivial,by simp,trivial⟩,?_,trivial⟩,r,o⟩;show(U.wa (U.J3 c t lev) x y (U.kJ (U.J3 c t lev) (U.la c).toNat x (U.zz (U.J3 c t lev) (U.la c).toNat s.toNat x) y) z).set z ((x:Int)+1)=U.wa (U.J3 c t lev) x y (U.kJ (U.J3 c t lev) (U.la c).toNat x (U.zz (U.J3 c t lev) (U.la c).toNat s.toNat x) y) (z+1);rw[d];unfold U.jdo;rw[if_pos ⟨a.1.1,a.1.2,a.2⟩]
   .have a:((decide (nth (U.wa (U.J3 c t lev) x y (U.kJ (U.J3 c t lev) (U.la c).toNat x (U.zz (U.J3 c t lev) (U.la c).toNat s.toNat x) y) z) y=(x:Int))&&decide (nth (U.wa (U.J3 c t lev) x y (U.kJ (U.J3 c t lev) (U.la c).toNat x (U.zz (U.J3 c t lev) (U.la c).toNat s.toNat x) y) z) z<0))&&U.J3 c t lev y z)=false:=a;refine⟨L.in64 (by omega) (by omega),z+1,⟨⟨trivial,by simp,trivial⟩,?_,trivial⟩,r,o⟩;show U.wa (U.J3 c t lev) x y (U.kJ (U.J3 c t lev) (U.la c).toNat x (U.zz (U.J3 c t lev) (U.la c).toNat s.toNat x) y) z=U.wa (U.J3 c t lev) x y (U.kJ (U.J3 c t lev) (U.la c).toNat x (U.zz (U.J3 c t lev) (U.la c).toNat s.toNat x) y) (z+1);rw[d];unfold U.jdo;rw[if_neg (fun k=>by rw[decide_eq_true k.1,decide_eq_true k.2.1,k.2.2] at a;cases a)]
  .have e:(y:Int)<U.la c:=of_decide_eq_true e;have g:¬(z:Int)<U.la c:=of_decide_eq_false g;have q:z<=(U.la c).toNat:=q;have n:z=(U.la c).toNat:=(by omega);subst n;refine⟨L.in64 (by omega) (by omega),y+1,⟨⟨by simp,trivial,trivial⟩,?_,trivial⟩,by show y+1<=(U.la c).toNat;omega,by show(U.la c).toNat-(y+1)<(U.la c).toNat-y;omega⟩;exact(jrb (U.J3 c t lev) (U.la c).toNat x (U.zz (U.J3 c t lev) (U.la c).toNat s.toNat x) y).symm
  .have h:(x:Int)<U.la c:=of_decide_eq_true h;have e:¬(y:Int)<U.la c:=of_decide_eq_false e;have p:y<=(U.la c).toNat:=p;have m:y=(U.la c).toNat:=(by omega);subst m;refine⟨L.in64 (by omega) (by omega),x+1,⟨⟨by simp,trivial,trivial⟩,?_,trivial⟩,by show x+1<=(U.la c).toNat;omega,by show(U.la c).toNat-(x+1)<(U.la c).toNat-x;omega⟩;exact(jq9 (U.J3 c t lev) (U.la c).toNat s.toNat x).symm
  .have h:¬(x:Int)<U.la c:=of_decide_eq_false h;have i:x<=(U.la c).toNat:=i;have f:x=(U.la c).toNat:=(by omega);subst f;rfl
theorem jzS:zm PR 149 jyZ:=kH jBH jCS Tryz.func149 (kcC jtq kcN) koN
end Go.X
namespace Go.X
open Go.Proofs
theorem jlp (c:CrD) (j:JbD) (t:Int) (n:Nat):U.zo c j t (n+1)=U.juq c j t (U.zo c j t n) n:=by
 unfold U.zo;rw[jIe,jH8];rfl
theorem jrw {c:CrD} {j:JbD} {t:Int} {n:Nat} (h:U.jR t (n:Int)=false):U.zo c j t (n+1)=U.zo c j t n:=by
 rw[jlp];unfold U.juq;rw[h,if_neg (by simp)]
theorem jFu {c:CrD} {j:JbD} {t:Int} {n:Nat} {a b d:Bool} (h:U.jR t (n:Int)=true) (e:U.yf (nth (U.jh c) n) (U.jBT j)=a) (f:(!U.jR (U.fd (nth (U.jh c) n)) (U.jtB j))=b) (g:(!U.jR (U.cl (nth (U.jh c) n)) (U.jrQ j))=d):
 U.zo c j t (n+1)=(U.ju7 d (U.ju7 b (U.ju7 a (U.zo c j t n).1 1) 2) 4,(U.zo c j t n).2||U.jFi (nth (U.jh c) n)):=by
 rw[jlp];unfold U.juq;rw[if_pos h,e,f,g]
theorem jGG {c:CrD} {j:JbD} {t:Int} {a b d:Bool} (e:decide (BT.size t≠max (U.jCE j) (U.jEV (U.yM c j)))=a) (f:(U.jGU (U.yM c j)&& !U.jHg c j t)=b) (g:decide (nth (U.jcS c t (U.jyk (U.yM c j)) (U.jrR j)) (U.jmW j).toNat<0)=d):
 U.jx1 c j t=U.ju7 d (U.ju7 b (U.ju7 a (U.jHf c j t) 8) 16) 32:=by
 unfold U.jx1;rw[e,f,g]
theorem jtW:jpt:=by
 unfold jpt q119_11 q119_10 q119_9 q119_8 q119_6 q119_0 q119_7 q119_5 q119_4 q119_3 q119_2 q119_1;rintro⟨c,j,t,⟨⟩⟩ l u v;have l:U.js c=true:=l;have u:U.za c j=true:=u;have v:U.jo7 t:=v;have B:=(jy l).2.2.1;have d:=(jy l).2.2.2.1;obtain⟨r,s,f,k,_⟩:=jAn u;have q:0<=U.jtB j/\U.jtB j<=63:=(by omega);have i:0<=U.jrQ j/\U.jrQ j<=63:=(by omega);have A:BT.Set' t:=(by unfold U.jo7 at v;unfold BT.Set';omega);refine⟨k.1,by show U.jrQ j<((U.wu c).length:Int);omega,⟨0,⟨⟨rfl,rfl,rfl,trivial⟩,trivial⟩,jHR _⟩,fun x y _=>⟨fun h=> ?_,fun h=> ?_⟩⟩
 .have h:(x:Int)<((U.jh c).length:Int):=of_decide_eq_true h;have p:x+1<=(U.jh c).length:=(by omega);have m:(U.jh c).length-(x+1)<(U.jh c).length-x:=(by omega);have i64:jz ((x:Int)+1):=L.in64 (by omega) (by omega);refine⟨⟨by omega,by omega⟩,fun b=> ?_,fun b=> ?_⟩
  .have b:(!U.jR t (x:Int))=true:=b;have e:=jrw (c:=c) (j:=j) (t:=t) (n:=x) (by simpa using b);exact⟨i64,x+1,⟨⟨congrArg (·.2) e.symm,congrArg (·.1) e.symm,by simp,trivial⟩,trivial⟩,p,m⟩
  .have b:(!U.jR t (x:Int))=false:=b;have b:U.jR t (x:Int)=true:=(by simpa using b);refine⟨by omega,h,fun o=>⟨q,fun a=>⟨i,fun d=> ?_,fun d=> ?_⟩,fun a=>⟨i,fun d=> ?_,fun d=> ?_⟩⟩,fun o=>⟨q,fun a=>⟨i,fun d=> ?_,fun d=> ?_⟩,fun a=>⟨i,fun d=> ?_,fun d=> ?_⟩⟩⟩
   all_goals
    have e:=jFu (c:=c) (j:=j) (t:=t) (n:=x) b o a d
    first
    |exact⟨i64,x+1,⟨⟨by simp,congrArg (·.2) e.symm,congrArg (·.1) e.symm,trivial⟩,trivial⟩,p,m⟩
    |exact⟨i64,x+1,⟨⟨congrArg (·.1) e.symm,by simp,congrArg (·.2) e.symm,trivial⟩,trivial⟩,p,m⟩
    |exact⟨i64,x+1,⟨⟨congrArg (·.2) e.symm,by simp,congrArg (·.1) e.symm,trivial⟩,trivial⟩,p,m⟩
    |exact⟨i64,x+1,⟨⟨congrArg (·.2) e.symm,congrArg (·.1) e.symm,by simp,trivial⟩,trivial⟩,p,m⟩
    |exact⟨i64,x+1,⟨⟨by simp,congrArg (·.1) e.symm,congrArg (·.2) e.symm,trivial⟩,trivial⟩,p,m⟩
    |exact⟨i64,x+1,⟨⟨congrArg (·.1) e.symm,congrArg (·.2) e.symm,by simp,trivial⟩,trivial⟩,p,m⟩
 .have h:¬(x:Int)<((U.jh c).length:Int):=of_decide_eq_false h;have y:x<=(U.jh c).length:=y;have w:x=(U.jh c).length:=(by omega);subst w;have g:U.jmW j<((U.jcS c t (U.jyk (U.yM c j)) (U.jrR j)).length:Int):=by
   unfold U.jcS;rw[joN];omega
  refine⟨A,fun b=>⟨fun o=>⟨l,r,s.1,g,fun a=> ?_,fun a=> ?_⟩,fun o=>⟨l,r,s.1,g,fun a=> ?_,fun a=> ?_⟩⟩,fun b=>⟨fun o=>⟨l,r,s.1,g,fun a=> ?_,fun a=> ?_⟩,fun o=>⟨l,r,s.1,g,fun a=> ?_,fun a=> ?_⟩⟩⟩
  all_goals
   have e:=jGG (c:=c) (j:=j) (t:=t) b o a;exact congrArg (fun z=>(z,())) e.symm
theorem jqB:zm PR 108 jpQ:=kH jrB jtW Tryz.func108 (kcC vu (kcC jmL (kcC jw0 (kcC jzS kcN)))) koN
theorem jw1:zm PR 55 jwB:=j8 jAN Tryz.func55 (kcC jqB kcN) koN
end Go.X
namespace Go.X
open Go.Proofs
theorem jCk (l:Int) (p:PeD):U.gw l p=(!(decide (((U.lv p).length:Int)≠l)|| !U.ja (U.fd p) 0 255|| !U.ja (U.cl p) 0 255||decide (10<((U.zS p).length:Int))|| !U.ja (U.fe p) 0 1000)&&((U.lv p).all (fun n=>U.ja n 0 5)&&(U.zS p).all (fun n=>U.ja n 0 99))):=by
 unfold U.gw;congr 1;rw[jId];simp only[U.ja,jIj,jIg,decide_eq_false_iff_not,jIC,jHK,decide_eq_true_eq];omega
theorem jjc (c:CrD):U.js c=(!(!U.ja (U.la c) 2 5||decide (8<((U.jh c).length:Int))||decide (((U.wu c).length:Int)≠4))&&((U.jh c).all (U.gw (U.la c))&&(U.wu c).all U.jaf)):=by
 unfold U.js;congr 1;rw[jId];simp only[U.ja,jIj,jIg,decide_eq_false_iff_not,jIC,jHK,decide_eq_true_eq];omega
theorem jhF {c:CrD} {x:Nat} (a:x<(U.jh c).length) (h:U.gw (U.la c) (nth (U.jh c) x)=false):U.js c=false:=by
 have:(U.jh c).all (U.gw (U.la c))=false:=jIT.2 ⟨_,L.mem_nth a,by rw[h];simp⟩;rw[jjc,this];simp
theorem jxT {c:CrD} {x:Nat} (a:x<(U.wu c).length) (h:U.jaf (nth (U.wu c) x)=false):U.js c=false:=by
 have:(U.wu c).all U.jaf=false:=jIT.2 ⟨_,L.mem_nth a,by rw[h];simp⟩;rw[jjc,this];simp
theorem jbl {α:Type} [Inhabited α] {l:List α} {p:α->Bool} {x:Nat} (c:¬x<l.length) (h:∀j:Nat,j<x->p (nth l j)=true):l.all p=true:=by
 rw[jIl];intro a b;obtain⟨i,hi,rfl⟩:=L.mem_iff.1 b;exact h i (by omega)
theorem jch {c:CrD} (h:U.js c=false):(false,())=(U.js c,()):=by rw[h]
theorem jtX:jpu:=by
 unfold jpu q112_7 q112_3 q112_6 q112_1 q112_5 q112_4 q112_2 q112_0;rintro⟨c,⟨⟩⟩ _ _;refine⟨fun h=> ?_,fun h=> ?_⟩
 .have h:(!U.ja (U.la c) 2 5||decide (8<((U.jh c).length:Int))||decide (((U.wu c).length:Int)≠4))=true:=h;refine jch (c:=c) ?_;rw[jjc,h];rfl
 have B:(!U.ja (U.la c) 2 5||decide (8<((U.jh c).length:Int))||decide (((U.wu c).length:Int)≠4))=false:=h;clear h;refine⟨⟨0,⟨⟨rfl,trivial⟩,trivial⟩,jHR _,fun j k=>by omega⟩,fun x s r=>⟨fun h=> ?_,fun h=> ?_⟩⟩
 .have r:(U.jh c).length<4611686018427387904:=r;have h:(x:Int)<((U.jh c).length:Int):=of_decide_eq_true h;have m:x<(U.jh c).length:=(by omega);refine⟨by omega,h,fun _ _=>⟨fun g=> ?_,fun g=> ?_⟩⟩
  .have g:(decide (((U.lv (nth (U.jh c) x)).length:Int)≠U.la c)|| !U.ja (U.fd (nth (U.jh c) x)) 0 255|| !U.ja (U.cl (nth (U.jh c) x)) 0 255||decide (10<((U.zS (nth (U.jh c) x)).length:Int))|| !U.ja (U.fe (nth (U.jh c) x)) 0 1000)=true:=g;refine jch (c:=c) (jhF m ?_);rw[jCk,g];rfl
  have g:(decide (((U.lv (nth (U.jh c) x)).length:Int)≠U.la c)|| !U.ja (U.fd (nth (U.jh c) x)) 0 255|| !U.ja (U.cl (nth (U.jh c) x)) 0 255||decide (10<((U.zS (nth (U.jh c) x)).length:Int))|| !U.ja (U.fe (nth (U.jh c) x)) 0 1000)=false:=g;refine⟨⟨0,⟨⟨rfl,trivial⟩,trivial⟩,jHR _,fun j k=>by omega⟩,fun y q d=>⟨fun b=> ?_,fun b=> ?_⟩⟩
  .have d:(U.lv (nth (U.jh c) x)).length<4611686018427387904:=d;have b:(y:Int)<((U.lv (nth (U.jh c) x)).length:Int):=of_decide_eq_true b;refine⟨by omega,b,fun a=> ?_,fun a=>⟨L.in64 (by omega) (by omega),y+1,⟨⟨by simp,trivial⟩,trivial⟩,⟨by show y+1<=(U.lv (nth (U.jh c) x)).length;omega,fun j k=> ?_⟩,by show(U.lv (nth (U.jh c) x)).length-(y+1)<(U.lv (nth (U.jh c) x)).length-y;omega⟩⟩
   .have a:(!U.ja (nth (U.lv (nth (U.jh c) x)) y) 0 5)=true:=a;have a:U.ja (nth (U.lv (nth (U.jh c) x)) y) 0 5=false:=(by simpa using a);refine jch (c:=c) (jhF m ?_);have:(U.lv (nth (U.jh c) x)).all (fun n=>U.ja n 0 5)=false:=jIT.2 ⟨_,L.mem_nth (l:=U.lv (nth (U.jh c) x)) (i:=y) (by omega),by rw[a];simp⟩;rw[jCk,this];simp
   .have a:(!U.ja (nth (U.lv (nth (U.jh c) x)) y) 0 5)=false:=a;by_cases e:j=y
    .subst e;exact(show U.ja (nth (U.lv (nth (U.jh c) x)) j) 0 5=true by simpa using a)
    .exact q.2 j (by omega)
  have b:¬(y:Int)<((U.lv (nth (U.jh c) x)).length:Int):=of_decide_eq_false b;have u:(U.lv (nth (U.jh c) x)).all (fun n=>U.ja n 0 5)=true:=jbl (by omega) q.2;refine⟨⟨0,⟨⟨rfl,trivial⟩,trivial⟩,jHR _,fun j k=>by omega⟩,fun z t o=>⟨fun a=> ?_,fun a=> ?_⟩⟩
  .have o:(U.zS (nth (U.jh c) x)).length<4611686018427387904:=o;have a:(z:Int)<((U.zS (nth (U.jh c) x)).length:Int):=of_decide_eq_true a;refine⟨by omega,a,fun f=> ?_,fun f=>⟨L.in64 (by omega) (by omega),z+1,⟨⟨by simp,trivial⟩,trivial⟩,⟨by show z+1<=(U.zS (nth (U.jh c) x)).length;omega,fun j k=> ?_⟩,by show(U.zS (nth (U.jh c) x)).length-(z+1)<(U.zS (nth (U.jh c) x)).length-z;omega⟩⟩
   .have f:(!U.ja (nth (U.zS (nth (U.jh c) x)) z) 0 99)=true:=f;have f:U.ja (nth (U.zS (nth (U.jh c) x)) z) 0 99=false:=(by simpa using f);refine jch (c:=c) (jhF m ?_);have:(U.zS (nth (U.jh c) x)).all (fun n=>U.ja n 0 99)=false:=jIT.2 ⟨_,L.mem_nth (l:=U.zS (nth (U.jh c) x)) (i:=z) (by omega),by rw[f];simp⟩;rw[jCk,this];simp
   .have f:(!U.ja (nth (U.zS (nth (U.jh c) x)) z) 0 99)=false:=f;by_cases e:j=z
    .subst e;exact(show U.ja (nth (U.zS (nth (U.jh c) x)) j) 0 99=true by simpa using f)
    .exact t.2 j (by omega)
  have a:¬(z:Int)<((U.zS (nth (U.jh c) x)).length:Int):=of_decide_eq_false a;have v:(U.zS (nth (U.jh c) x)).all (fun n=>U.ja n 0 99)=true:=jbl (by omega) t.2;refine⟨L.in64 (by omega) (by omega),x+1,⟨⟨by simp,trivial⟩,trivial⟩,⟨by show x+1<=(U.jh c).length;omega,fun j k=> ?_⟩,by show(U.jh c).length-(x+1)<(U.jh c).length-x;omega⟩;by_cases e:j=x
  .subst e;show U.gw (U.la c) (nth (U.jh c) j)=true;rw[jCk,g,u,v];rfl
  .exact s.2 j (by omega)
 have h:¬(x:Int)<((U.jh c).length:Int):=of_decide_eq_false h;have A:(U.jh c).all (U.gw (U.la c))=true:=jbl (by omega) s.2;refine⟨⟨0,⟨⟨rfl,trivial⟩,trivial⟩,jHR _,fun j k=>by omega⟩,fun y q d=>⟨fun b=> ?_,fun b=> ?_⟩⟩
 .have d:(U.wu c).length<4611686018427387904:=d;have b:(y:Int)<((U.wu c).length:Int):=of_decide_eq_true b;have p:U.jaf (nth (U.wu c) y)= !(!U.ja (U.jyk (nth (U.wu c) y)) 1 5|| !U.ja (U.jEV (nth (U.wu c) y)) 1 8):=by
   unfold U.jaf;rw[Bool.not_or,Bool.not_not,Bool.not_not]
  refine⟨by omega,b,fun _=>by omega,fun _=>b,fun a=> ?_,fun a=>⟨L.in64 (by omega) (by omega),y+1,⟨⟨by simp,trivial⟩,trivial⟩,⟨by show y+1<=(U.wu c).length;omega,fun j k=> ?_⟩,by show(U.wu c).length-(y+1)<(U.wu c).length-y;omega⟩⟩
  .have a:(!U.ja (U.jyk (nth (U.wu c) y)) 1 5|| !U.ja (U.jEV (nth (U.wu c) y)) 1 8)=true:=a;exact jch (c:=c) (jxT (x:=y) (by omega) (by rw[p,a];rfl))
  .have a:(!U.ja (U.jyk (nth (U.wu c) y)) 1 5|| !U.ja (U.jEV (nth (U.wu c) y)) 1 8)=false:=a;by_cases e:j=y
   .subst e;show U.jaf (nth (U.wu c) j)=true;rw[p,a];rfl
   .exact q.2 j (by omega)
 .have b:¬(y:Int)<((U.wu c).length:Int):=of_decide_eq_false b;have w:(U.wu c).all U.jaf=true:=jbl (by omega) q.2;show(true,())=(U.js c,());rw[jjc,B,A,w];rfl
theorem jhZ:zm PR 49 jpR:=kH jrC jtX Tryz.func49 (kcC jhY kcN) koN
end Go.X
namespace Go.X
open Go.Proofs
namespace U
def wE (l:List ShD) (i k:Nat) (id:Int):Bool:=decide (wI (nth l i)=id)&& !((l.take k).any (fun x=>decide (x=nth l i)))
end U
def jpN:j9:=⟨[.val .int,.val .int,.val .int],[.bool],false,fun _=>[],fun d=>(U.ja d.1 d.2.1 d.2.2.1,())⟩
def jpq:Prop:=∀(d:Int×Int×Int×Unit),(decide (d.2.1<=d.1)&&decide (d.1<=d.2.2.1),())=(U.ja d.1 d.2.1 d.2.2.1,())
def jjG:j9:=⟨[.val tDy,.val .int],[.bool],false,fun _=>[],fun d=>(U.jj d.1 d.2.1,())⟩
def jju:Prop:=∀(d:DyD×Int×Unit),d.1.2.2.1.length<4611686018427387904->jz ((d.1.2.2.1.length:Int)-1)/\(U.ja d.2.1 (0:Int) ((d.1.2.2.1.length:Int)-1),())=(U.jj d.1 d.2.1,())
def jlQ:j9:=⟨[.val tDy,.val .int],[.bool],false,fun _=>[],fun d=>(U.ji d.1 d.2.1,())⟩
def jlH:Prop:=∀(d:DyD×Int×Unit),d.1.1.2.1.length<4611686018427387904->jz ((d.1.1.2.1.length:Int)-1)/\(U.ja d.2.1 (0:Int) ((d.1.1.2.1.length:Int)-1),())=(U.ji d.1 d.2.1,())
def jsH:j9:=⟨[.val tDy],[.bool],false,fun _=>[],fun d=>(U.zK d.1,())⟩
def juA:Ann:=fun r=>match r with
 |4=>some fun σ=>{X:=Nat,sl:=fun i=>[(3,.dat .int (i:Int))],ob:=fun _=>[],inv:=fun i=>i<=(U.jZ (gb tDy σ 1)).length/\∀j:Nat,j<i->U.yu (U.jZ (gb tDy σ 1)).length (nth (U.jZ (gb tDy σ 1)) j)=true,mu:=fun i=>(U.jZ (gb tDy σ 1)).length-i}
 |9=>some fun σ=>{X:=Nat,sl:=fun i=>[(4,.dat .int (i:Int))],ob:=fun _=>[],inv:=fun i=>i<=(nth (U.jZ (gb tDy σ 1)) (gd .int σ 3).toNat).length/\∀j:Nat,j<i->U.jf6 (nth (nth (U.jZ (gb tDy σ 1)) (gd .int σ 3).toNat) j)=true,mu:=fun i=>(nth (U.jZ (gb tDy σ 1)) (gd .int σ 3).toNat).length-i}
 |15=>some fun σ=>{X:=Nat,sl:=fun i=>[(6,.dat .int (i:Int))],ob:=fun _=>[],inv:=fun i=>i<=(U.ju (gb tDy σ 1)).length/\∀j:Nat,j<i->U.jdN (U.jZ (gb tDy σ 1)).length (nth (U.ju (gb tDy σ 1)) j)=true,mu:=fun i=>(U.ju (gb tDy σ 1)).length-i}
 |21=>some fun σ=>{X:=Nat,sl:=fun i=>[(8,.dat .int (i:Int))],ob:=fun _=>[],inv:=fun i=>i<=(U.zc (gb tDy σ 1)).length/\∀j:Nat,j<i->U.jcv (U.ju (gb tDy σ 1)).length (U.jh (U.jc (gb tDy σ 1))).length (nth (U.zc (gb tDy σ 1)) j)=true,mu:=fun i=>(U.zc (gb tDy σ 1)).length-i}
 |_=>none
abbrev q125_4 (d:DyD×Unit)(x:Nat):=(nth d.1.2.1 (x:Int).toNat)
abbrev q125_2 (d:DyD×Unit)(x:Nat)(a:Nat):=(decide ((nth (q125_4 d x) (a:Int).toNat).1<0)||decide ((nth (q125_4 d x) (a:Int).toNat).2.1<(nth (q125_4 d x) (a:Int).toNat).1)||decide ((300:Int)<(nth (q125_4 d x) (a:Int).toNat).2.1))
abbrev q125_5 (d:DyD×Unit)(x:Nat):=(nth (U.jZ d.1) (x:Int).toNat)
abbrev q125_6 (d:DyD×Unit):=(d.1.2.1.length:Int)
abbrev q125_7 (d:DyD×Unit)(x:Nat):=(nth d.1.2.2.2.2.2.1 (x:Int).toNat)
abbrev q125_0 (d:DyD×Unit)(x:Nat):=(!U.ja (q125_7 d x).1 (0:Int) (99:Int)|| !U.ja (q125_7 d x).2.1 (0:Int) (9999:Int)|| !U.ja (q125_7 d x).2.2.1 (1:Int) (2:Int)|| !U.jj d.1 (q125_7 d x).2.2.2.1|| !U.ji d.1 (q125_7 d x).2.2.2.2.1)
abbrev q125_8 (d:DyD×Unit):=(d.1.2.2.1.length:Int)
abbrev q125_9 (x:Nat)(a:Nat):=(((x:Int)+1=(a:Int)/\True)/\True)
abbrev q125_10 (d:DyD×Unit)(x:Nat):=(nth d.1.2.2.1 (x:Int).toNat)
abbrev q125_1 (d:DyD×Unit)(x:Nat):=(!U.ja (q125_10 d x).2.1 (0:Int) ((q125_6 d)-1)||decide ((q125_10 d x).2.2.1<0)||decide ((q125_10 d x).2.2.2.1<=(q125_10 d x).2.2.1)||decide ((1440:Int)<(q125_10 d x).2.2.2.1))
abbrev q125_11 (d:DyD×Unit)(x:Nat):=(↑(q125_4 d x).length:Int)
abbrev q125_12 (d:DyD×Unit):=(d.1.2.2.2.2.2.1.length:Int)
abbrev q125_3 (d:DyD×Unit):=(decide (4<(q125_8 d))|| !U.ja (q125_6 d) (1:Int) (5:Int)|| !U.ja d.1.2.2.2.1 (0:Int) (300:Int)|| !U.ja d.1.2.2.2.2.1 (0:Int) (1440:Int)||decide (30<(q125_12 d)))
abbrev q125_13 (x:Nat):=((0=(x:Int)/\True)/\True)
def jsb:Prop:=∀(d:DyD×Unit),d.1.2.2.1.length<4611686018427387904->((!decide (4<(q125_8 d)))=true->d.1.2.1.length<4611686018427387904)->((!(decide (4<(q125_8 d))|| !U.ja (q125_6 d) (1:Int) (5:Int)|| !U.ja d.1.2.2.2.1 (0:Int) (300:Int)|| !U.ja d.1.2.2.2.2.1 (0:Int) (1440:Int)))=true->d.1.2.2.2.2.2.1.length<4611686018427387904)->((q125_3 d)=true->(false,())=(U.zK d.1,()))/\((q125_3 d)=false->(∃(x:Nat),(q125_13 x)/\x<=(U.jZ d.1).length/\∀(j:Nat),j<x->U.yu (U.jZ d.1).length (nth (U.jZ d.1) j)=true)/\∀(x:Nat),(x<=(U.jZ d.1).length/\∀(j:Nat),j<x->U.yu (U.jZ d.1).length (nth (U.jZ d.1) j)=true)->d.1.2.1.length<4611686018427387904->(decide ((x:Int)<(q125_6 d))=true->0<=(x:Int)/\(x:Int)<(q125_6 d)/\(decide ((q125_11 d x)≠(q125_6 d))=true->(false,())=(U.zK d.1,()))/\(decide ((q125_11 d x)≠(q125_6 d))=false->(∃(a:Nat),((0=(a:Int)/\True)/\True)/\a<=(q125_5 d x).length/\∀(j:Nat),j<a->U.jf6 (nth (q125_5 d x) j)=true)/\∀(a:Nat),(a<=(q125_5 d x).length/\∀(j:Nat),j<a->U.jf6 (nth (q125_5 d x) j)=true)->0<=(x:Int)/\(x:Int)<(q125_6 d)/\((q125_4 d x).length<4611686018427387904->(decide ((a:Int)<(q125_11 d x))=true->0<=(x:Int)/\(x:Int)<(q125_6 d)/\0<=(a:Int)/\(a:Int)<(q125_11 d x)/\((q125_2 d x a)=true->(false,())=(U.zK d.1,()))/\((q125_2 d x a)=false->jz ((a:Int)+1)/\∃(b:Nat),(((a:Int)+1=(b:Int)/\True)/\True)/\(b<=(q125_5 d x).length/\∀(j:Nat),j<b->U.jf6 (nth (q125_5 d x) j)=true)/\(q125_5 d x).length-b<(q125_5 d x).length-a))/\(decide ((a:Int)<(q125_11 d x))=false->jz ((x:Int)+1)/\∃(b:Nat),(q125_9 x b)/\(b<=(U.jZ d.1).length/\∀(j:Nat),j<b->U.yu (U.jZ d.1).length (nth (U.jZ d.1) j)=true)/\(U.jZ d.1).length-b<(U.jZ d.1).length-x))))/\(decide ((x:Int)<(q125_6 d))=false->(∃(x:Nat),(q125_13 x)/\x<=(U.ju d.1).length/\∀(j:Nat),j<x->U.jdN (U.jZ d.1).length (nth (U.ju d.1) j)=true)/\∀(x:Nat),(x<=(U.ju d.1).length/\∀(j:Nat),j<x->U.jdN (U.jZ d.1).length (nth (U.ju d.1) j)=true)->d.1.2.2.1.length<4611686018427387904->(decide ((x:Int)<(q125_8 d))=true->0<=(x:Int)/\(x:Int)<(q125_8 d)/\(d.1.2.1.length<4611686018427387904->jz ((q125_6 d)-1)/\((q125_1 d x)=true->(false,())=(U.zK d.1,()))/\((q125_1 d x)=false->jz ((x:Int)+1)/\∃(b:Nat),(q125_9 x b)/\(b<=(U.ju d.1).length/\∀(j:Nat),j<b->U.jdN (U.jZ d.1).length (nth (U.ju d.1) j)=true)/\(U.ju d.1).length-b<(U.ju d.1).length-x)))/\(decide ((x:Int)<(q125_8 d))=false->(∃(x:Nat),(q125_13 x)/\x<=(U.zc d.1).length/\∀(j:Nat),j<x->U.jcv (U.ju d.1).length (U.jh (U.jc d.1)).length (nth (U.zc d.1) j)=true)/\∀(x:Nat),(x<=(U.zc d.1).length/\∀(j:Nat),j<x->U.jcv (U.ju d.1).length (U.jh (U.jc d.1)).length (nth (U.zc d.1) j)=true)->d.1.2.2.2.2.2.1.length<4611686018427387904->(decide ((x:Int)<(q125_12 d))=true->0<=(x:Int)/\(x:Int)<(q125_12 d)/\((q125_0 d x)=true->(false,())=(U.zK d.1,()))/\((q125_0 d x)=false->jz ((x:Int)+1)/\∃(b:Nat),(q125_9 x b)/\(b<=(U.zc d.1).length/\∀(j:Nat),j<b->U.jcv (U.ju d.1).length (U.jh (U.jc d.1)).length (nth (U.zc d.1) j)=true)/\(U.zc d.1).length-b<(U.zc d.1).length-x))/\(decide ((x:Int)<(q125_12 d))=false->(true,())=(U.zK d.1,())))))
def jsE:j9:=⟨[.val (.slice tSh)],[.bool],false,fun d=>[d.1.length<=1000000],fun d=>(U.vU d.1,())⟩
def jux:Ann:=fun r=>match r with
 |2=>some fun σ=>{X:=Nat,sl:=fun i=>[(3,.dat .int (i:Int))],ob:=fun _=>[],inv:=fun i=>i<=(gd (.slice tSh) σ 0).length/\U.qy (gd (.slice tSh) σ 0) i=false,mu:=fun i=>(gd (.slice tSh) σ 0).length-i}
 |5=>some fun σ=>{X:=Nat,sl:=fun i=>[(4,.dat .int (i:Int))],ob:=fun _=>[],inv:=fun i=>i<=(gd .int σ 3).toNat/\∀j:Nat,j<i->U.jlh (nth (gd (.slice tSh) σ 0) (gd .int σ 3).toNat) (nth (gd (.slice tSh) σ 0) j)=false,mu:=fun i=>(gd .int σ 3).toNat-i}
 |_=>none
abbrev q126_0 (d:List ShD×Unit)(x:Nat)(a:Nat):=((nth d.1 (x:Int).toNat).1=(nth d.1 (a:Int).toNat).1)
def jr6:Prop:=∀(d:List ShD×Unit),d.1.length<=1000000->(∃(x:Nat),((0=(x:Int)/\True)/\True)/\x<=d.1.length/\U.qy d.1 x=false)/\∀(x:Nat),x<=d.1.length/\U.qy d.1 x=false->d.1.length<4611686018427387904->(decide ((x:Int)<(d.1.length:Int))=true->(∃(a:Nat),((0=(a:Int)/\True)/\True)/\a<=(x:Int).toNat/\∀(j:Nat),j<a->U.jlh (nth d.1 (x:Int).toNat) (nth d.1 j)=false)/\∀(a:Nat),(a<=(x:Int).toNat/\∀(j:Nat),j<a->U.jlh (nth d.1 (x:Int).toNat) (nth d.1 j)=false)->(decide ((a:Int)<(x:Int))=true->0<=(x:Int)/\(x:Int)<(d.1.length:Int)/\0<=(a:Int)/\(a:Int)<(d.1.length:Int)/\(decide (q126_0 d x a)=true->0<=(x:Int))/\(decide (q126_0 d x a)=true->(x:Int)<(d.1.length:Int))/\(decide (q126_0 d x a)=true->0<=(a:Int))/\(decide (q126_0 d x a)=true->(a:Int)<(d.1.length:Int))/\((decide (q126_0 d x a)&& !decide (nth d.1 (x:Int).toNat=nth d.1 (a:Int).toNat))=true->(true,())=(U.vU d.1,()))/\((decide (q126_0 d x a)&& !decide (nth d.1 (x:Int).toNat=nth d.1 (a:Int).toNat))=false->jz ((a:Int)+1)/\∃(b:Nat),(((a:Int)+1=(b:Int)/\True)/\True)/\(b<=(x:Int).toNat/\∀(j:Nat),j<b->U.jlh (nth d.1 (x:Int).toNat) (nth d.1 j)=false)/\(x:Int).toNat-b<(x:Int).toNat-a))/\(decide ((a:Int)<(x:Int))=false->jz ((x:Int)+1)/\∃(b:Nat),(((x:Int)+1=(b:Int)/\True)/\True)/\(b<=d.1.length/\U.qy d.1 b=false)/\d.1.length-b<d.1.length-x))/\(decide ((x:Int)<(d.1.length:Int))=false->(false,())=(U.vU d.1,()))
def jsI:j9:=⟨[.val tDy],[.int],false,fun d=>[(U.ju d.1).length<=1000000],fun d=>(U.wt d.1,())⟩
def juB:Ann:=fun r=>match r with
 |4=>some fun σ=>{X:=Nat,sl:=fun i=>[(3,.dat .int (i:Int))],ob:=fun _=>[],inv:=fun i=>i<=(U.ju (gb tDy σ 1)).length/\∀j:Nat,j<i->U.za (U.jc (gb tDy σ 1)) (U.yG (nth (U.ju (gb tDy σ 1)) j))=true,mu:=fun i=>(U.ju (gb tDy σ 1)).length-i}
 |_=>none
def jsc:Prop:=∀(d:DyD×Unit),(U.ju d.1).length<=1000000->((!U.js d.1.1)=true->((30:Int),())=(U.wt d.1,()))/\((!U.js d.1.1)=false->(∃(x:Nat),((0=(x:Int)/\True)/\True)/\x<=(U.ju d.1).length/\∀(j:Nat),j<x->U.za (U.jc d.1) (U.yG (nth (U.ju d.1) j))=true)/\∀(x:Nat),(x<=(U.ju d.1).length/\∀(j:Nat),j<x->U.za (U.jc d.1) (U.yG (nth (U.ju d.1) j))=true)->d.1.2.2.1.length<4611686018427387904->(decide ((x:Int)<(d.1.2.2.1.length:Int))=true->0<=(x:Int)/\(x:Int)<(d.1.2.2.1.length:Int)/\U.js d.1.1=true/\((!U.za d.1.1 (nth d.1.2.2.1 (x:Int).toNat).1)=true->((31:Int),())=(U.wt d.1,()))/\((!U.za d.1.1 (nth d.1.2.2.1 (x:Int).toNat).1)=false->jz ((x:Int)+1)/\∃(a:Nat),(((x:Int)+1=(a:Int)/\True)/\True)/\(a<=(U.ju d.1).length/\∀(j:Nat),j<a->U.za (U.jc d.1) (U.yG (nth (U.ju d.1) j))=true)/\(U.ju d.1).length-a<(U.ju d.1).length-x))/\(decide ((x:Int)<(d.1.2.2.1.length:Int))=false->((!U.zK d.1)=true->((50:Int),())=(U.wt d.1,()))/\((!U.zK d.1)=false->d.1.2.2.2.2.2.1.length<=1000000/\(U.vU d.1.2.2.2.2.2.1=true->((51:Int),())=(U.wt d.1,()))/\(U.vU d.1.2.2.2.2.2.1=false->((0:Int),())=(U.wt d.1,())))))
def jsD:j9:=⟨[.val tSh,.val tSh],[.bool],false,fun _=>[],fun d=>(U.zP d.1 d.2.1,())⟩
def jr5:Prop:=∀(d:ShD×ShD×Unit),(decide (d.2.1.2.1<d.1.2.1)||decide (d.1.2.1=d.2.1.2.1)&&decide (d.2.1.1<d.1.1),())=(U.zP d.1 d.2.1,())
def jlP:j9:=⟨[.val tDy,.val .int,.val .int],[.bool],false,fun d=>[U.jcw d.1,U.kr d.1 d.2.1,U.kr d.1 d.2.2.1],fun d=>(U.j0 d.1 d.2.1 d.2.2.1,())⟩
abbrev q129_0 (d:DyD×Int×Int×Unit):=(nth d.1.2.2.1 d.2.2.1.toNat)
abbrev q129_1 (d:DyD×Int×Int×Unit):=(nth d.1.2.2.1 d.2.1.toNat)
abbrev q129_2 (d:DyD×Int×Int×Unit):=((q129_0 d).2.2.1<(q129_1 d).2.2.1)
abbrev q129_3 (d:DyD×Int×Int×Unit):=(d.1.2.2.1.length:Int)
abbrev q129_4 (d:DyD×Int×Int×Unit):=(decide (q129_2 d)||decide ((q129_0 d).2.2.1=(q129_1 d).2.2.1)&&decide (d.2.2.1<d.2.1))
def jlG:Prop:=∀(d:DyD×Int×Int×Unit),U.jcw d.1->U.kr d.1 d.2.1->U.kr d.1 d.2.2.1->0<=d.2.2.1/\d.2.2.1<(q129_3 d)/\0<=d.2.1/\d.2.1<(q129_3 d)/\((!decide (q129_2 d))=true->0<=d.2.2.1)/\((!decide (q129_2 d))=true->d.2.2.1<(q129_3 d))/\((!decide (q129_2 d))=true->0<=d.2.1)/\((!decide (q129_2 d))=true->d.2.1<(q129_3 d))/\((q129_4 d)=true->0<=d.2.2.1/\d.2.2.1<(q129_3 d)/\0<=d.2.1/\d.2.1<(q129_3 d)/\jz ((q129_0 d).2.2.2.1+d.1.2.2.2.1)/\(0:Int)<=(q129_0 d).2.1/\(q129_0 d).2.1<(d.1.2.1.length:Int)/\(0:Int)<=(q129_1 d).2.1/\(q129_1 d).2.1<(↑(nth d.1.2.1 (q129_0 d).2.1.toNat).length:Int)/\jz ((q129_0 d).2.2.2.1+d.1.2.2.2.1+(nth (nth d.1.2.1 (q129_0 d).2.1.toNat) (q129_1 d).2.1.toNat).2.1)/\(decide ((q129_0 d).2.2.2.1+d.1.2.2.2.1+(nth (nth d.1.2.1 (q129_0 d).2.1.toNat) (q129_1 d).2.1.toNat).2.1<=(q129_1 d).2.2.1),())=(U.j0 d.1 d.2.1 d.2.2.1,()))/\((q129_4 d)=false->0<=d.2.1/\d.2.1<(q129_3 d)/\0<=d.2.2.1/\d.2.2.1<(q129_3 d)/\jz ((q129_1 d).2.2.2.1+d.1.2.2.2.1)/\(0:Int)<=(q129_1 d).2.1/\(q129_1 d).2.1<(d.1.2.1.length:Int)/\(0:Int)<=(q129_0 d).2.1/\(q129_0 d).2.1<(↑(nth d.1.2.1 (q129_1 d).2.1.toNat).length:Int)/\jz ((q129_1 d).2.2.2.1+d.1.2.2.2.1+(nth (nth d.1.2.1 (q129_1 d).2.1.toNat) (q129_0 d).2.1.toNat).2.1)/\(decide ((q129_1 d).2.2.2.1+d.1.2.2.2.1+(nth (nth d.1.2.1 (q129_1 d).2.1.toNat) (q129_0 d).2.1.toNat).2.1<=(q129_0 d).2.2.1),())=(U.j0 d.1 d.2.1 d.2.2.1,()))
def jDr:Ann:=fun r=>match r with
 |3=>some fun σ=>{X:=Nat,sl:=fun i=>[(6,.dat .int (i:Int)),(5,.own 5 .int)],ob:=fun i=>[(5,some (.row 3 .int false .yes (U.vp (gd (.slice .int) σ 0) (gd .int σ 1) i)))],inv:=fun i=>i<=(gd (.slice .int) σ 0).length,mu:=fun i=>(gd (.slice .int) σ 0).length-i}
 |_=>none
def jsJ:j9:=⟨[.val tDy,.val .int,.val (.slice .int)],[.bool],false,fun d=>[U.jcw d.1,U.ji1 d.1 d.2.1,U.jcx d.1 d.2.2.1],fun d=>(U.kG d.1 d.2.1 d.2.2.1,())⟩
def juC:Ann:=fun r=>match r with
 |3=>some fun σ=>{X:=Nat,sl:=fun i=>[(8,.dat .int (i:Int)),(7,.dat .int (U.kz (gb tDy σ 3) (gd (.slice .int) σ 2) i))],ob:=fun _=>[],inv:=fun i=>i<=(gd (.slice .int) σ 2).length/\(∀j:Nat,j<i->U.zy (U.jc (gb tDy σ 3)) (U.yG (U.bk (gb tDy σ 3) (nth (gd (.slice .int) σ 2) j))) (gd .int σ 1)=true)/\∀j:Nat,j<i->∀m:Nat,m<j->U.j0 (gb tDy σ 3) (nth (gd (.slice .int) σ 2) j) (nth (gd (.slice .int) σ 2) m)=true,mu:=fun i=>(gd (.slice .int) σ 2).length-i}
 |10=>some fun σ=>{X:=Nat,sl:=fun i=>[(10,.dat .int (i:Int))],ob:=fun _=>[],inv:=fun i=>i<=(gd .int σ 8).toNat/\∀m:Nat,m<i->U.j0 (gb tDy σ 3) (nth (gd (.slice .int) σ 2) (gd .int σ 8).toNat) (nth (gd (.slice .int) σ 2) m)=true,mu:=fun i=>(gd .int σ 8).toNat-i}
 |_=>none
abbrev q130_1 (d:DyD×Int×List Int×Unit)(x:Nat):=(nth d.2.2.1 (x:Int).toNat)
abbrev q130_0 (d:DyD×Int×List Int×Unit)(x:Nat):=(nth d.1.2.2.1 (q130_1 d x).toNat)
def jsd:Prop:=∀(d:DyD×Int×List Int×Unit),U.jcw d.1->U.ji1 d.1 d.2.1->U.jcx d.1 d.2.2.1->(∃(x:Nat),((0=(x:Int)/\0=U.kz d.1 d.2.2.1 x/\True)/\True)/\x<=d.2.2.1.length/\(∀(j:Nat),j<x->U.zy (U.jc d.1) (U.yG (U.bk d.1 (nth d.2.2.1 j))) d.2.1=true)/\∀(j:Nat),j<x->∀(m:Nat),m<j->U.j0 d.1 (nth d.2.2.1 j) (nth d.2.2.1 m)=true)/\∀(x:Nat),(x<=d.2.2.1.length/\(∀(j:Nat),j<x->U.zy (U.jc d.1) (U.yG (U.bk d.1 (nth d.2.2.1 j))) d.2.1=true)/\∀(j:Nat),j<x->∀(m:Nat),m<j->U.j0 d.1 (nth d.2.2.1 j) (nth d.2.2.1 m)=true)->d.2.2.1.length<4611686018427387904->(decide ((x:Int)<(d.2.2.1.length:Int))=true->0<=(x:Int)/\(x:Int)<(d.2.2.1.length:Int)/\0<=nth d.2.2.1 (x:Int).toNat/\nth d.2.2.1 (x:Int).toNat<(d.1.2.2.1.length:Int)/\(0<=d.2.1/\d.2.1<(↑(U.jh d.1.1).length:Int))/\U.za d.1.1 (q130_0 d x).1=true/\((!U.zy d.1.1 (q130_0 d x).1 d.2.1)=true->(false,())=(U.kG d.1 d.2.1 d.2.2.1,()))/\((!U.zy d.1.1 (q130_0 d x).1 d.2.1)=false->jz ((q130_0 d x).2.2.2.1-(q130_0 d x).2.2.1)/\jz (U.kz d.1 d.2.2.1 x+((q130_0 d x).2.2.2.1-(q130_0 d x).2.2.1))/\(∃(a:Nat),((0=(a:Int)/\True)/\True)/\a<=(x:Int).toNat/\∀(m:Nat),m<a->U.j0 d.1 (q130_1 d x) (nth d.2.2.1 m)=true)/\∀(a:Nat),(a<=(x:Int).toNat/\∀(m:Nat),m<a->U.j0 d.1 (q130_1 d x) (nth d.2.2.1 m)=true)->(decide ((a:Int)<(x:Int))=true->0<=(x:Int)/\(x:Int)<(d.2.2.1.length:Int)/\0<=(a:Int)/\(a:Int)<(d.2.2.1.length:Int)/\U.jcw d.1/\U.kr d.1 (q130_1 d x)/\U.kr d.1 (nth d.2.2.1 (a:Int).toNat)/\((!U.j0 d.1 (q130_1 d x) (nth d.2.2.1 (a:Int).toNat))=true->(false,())=(U.kG d.1 d.2.1 d.2.2.1,()))/\((!U.j0 d.1 (q130_1 d x) (nth d.2.2.1 (a:Int).toNat))=false->jz ((a:Int)+1)/\∃(b:Nat),(((a:Int)+1=(b:Int)/\True)/\True)/\(b<=(x:Int).toNat/\∀(m:Nat),m<b->U.j0 d.1 (q130_1 d x) (nth d.2.2.1 m)=true)/\(x:Int).toNat-b<(x:Int).toNat-a))/\(decide ((a:Int)<(x:Int))=false->jz ((x:Int)+1)/\∃(b:Nat),(((x:Int)+1=(b:Int)/\U.kz d.1 d.2.2.1 x+((q130_0 d x).2.2.2.1-(q130_0 d x).2.2.1)=U.kz d.1 d.2.2.1 b/\True)/\True)/\(b<=d.2.2.1.length/\(∀(j:Nat),j<b->U.zy (U.jc d.1) (U.yG (U.bk d.1 (nth d.2.2.1 j))) d.2.1=true)/\∀(j:Nat),j<b->∀(m:Nat),m<j->U.j0 d.1 (nth d.2.2.1 j) (nth d.2.2.1 m)=true)/\d.2.2.1.length-b<d.2.2.1.length-x)))/\(decide ((x:Int)<(d.2.2.1.length:Int))=false->(decide (U.kz d.1 d.2.2.1 x<=d.1.2.2.2.2.1),())=(U.kG d.1 d.2.1 d.2.2.1,()))
def jlO:j9:=⟨[.val (.slice tSh)],[.slice tSh],false,fun d=>[d.1.length<=1000],fun d=>(U.jk d.1,())⟩
def jmo:Ann:=fun r=>match r with
 |3=>some fun σ=>{X:=Nat,sl:=fun i=>[(4,.dat .int (i:Int)),(3,.own 3 tSh)],ob:=fun i=>[(3,some (.row 54 tSh false .yes (U.kB (gd (.slice tSh) σ 0) i)))],inv:=fun i=>i<=100,mu:=fun i=>100-i}
 |6=>some fun σ=>{X:=Nat,sl:=fun i=>[(5,.dat .int (i:Int)),(3,.own 3 tSh)],ob:=fun i=>[(3,some (.row 54 tSh false .yes (gr tSh σ 3++U.yF (gd (.slice tSh) σ 0) i (gd .int σ 4).toNat)))],inv:=fun i=>i<=(gd (.slice tSh) σ 0).length,mu:=fun i=>(gd (.slice tSh) σ 0).length-i}
 |10=>some fun σ=>{X:=Nat,sl:=fun k=>[(7,.dat .int (k:Int)),(6,.dat .bool (U.wE (gd (.slice tSh) σ 0) (gd .int σ 5).toNat k (gd .int σ 4)))],ob:=fun _=>[],inv:=fun k=>k<=(gd .int σ 5).toNat,mu:=fun k=>(gd .int σ 5).toNat-k}
 |_=>none
def jlF:Prop:=∀(d:List ShD×Unit),d.1.length<=1000->(∃(x:Nat),((0=(x:Int)/\True/\True)/\U.kB d.1 x=[]/\True)/\x<=100)/\∀(x:Nat),x<=100->(decide ((x:Int)<=99)=true->(∃(a:Nat),((0=(a:Int)/\True/\True)/\U.kB d.1 x=U.kB d.1 x++U.yF d.1 a (x:Int).toNat/\True)/\a<=d.1.length)/\∀(a:Nat),a<=d.1.length->d.1.length<4611686018427387904->(decide ((a:Int)<(d.1.length:Int))=true->0<=(a:Int)/\(a:Int)<(d.1.length:Int)/\(∃(b:Nat),((0=(b:Int)/\decide ((nth d.1 (a:Int).toNat).1=(x:Int))=U.wE d.1 (a:Int).toNat b (x:Int)/\True)/\True)/\b<=(a:Int).toNat)/\∀(b:Nat),b<=(a:Int).toNat->(decide ((b:Int)<(a:Int))=true->(U.wE d.1 (a:Int).toNat b (x:Int)=true->0<=(b:Int))/\(U.wE d.1 (a:Int).toNat b (x:Int)=true->(b:Int)<(d.1.length:Int))/\(U.wE d.1 (a:Int).toNat b (x:Int)=true->0<=(a:Int))/\(U.wE d.1 (a:Int).toNat b (x:Int)=true->(a:Int)<(d.1.length:Int))/\jz ((b:Int)+1)/\∃(c:Nat),(((b:Int)+1=(c:Int)/\(U.wE d.1 (a:Int).toNat b (x:Int)&& !decide (nth d.1 (b:Int).toNat=nth d.1 (a:Int).toNat))=U.wE d.1 (a:Int).toNat c (x:Int)/\True)/\True)/\c<=(a:Int).toNat/\(a:Int).toNat-c<(a:Int).toNat-b)/\(decide ((b:Int)<(a:Int))=false->(U.wE d.1 (a:Int).toNat b (x:Int)=true->0<=(a:Int)/\(a:Int)<(d.1.length:Int)/\((U.kB d.1 x++U.yF d.1 a (x:Int).toNat).length+[nth d.1 (a:Int).toNat].length)*40<=140737488355328/\jz ((a:Int)+1)/\∃(c:Nat),(((a:Int)+1=(c:Int)/\True/\True)/\U.kB d.1 x++U.yF d.1 a (x:Int).toNat++[nth d.1 (a:Int).toNat]=U.kB d.1 x++U.yF d.1 c (x:Int).toNat/\True)/\c<=d.1.length/\d.1.length-c<d.1.length-a)/\(U.wE d.1 (a:Int).toNat b (x:Int)=false->jz ((a:Int)+1)/\∃(c:Nat),((True/\(a:Int)+1=(c:Int)/\True)/\U.kB d.1 x++U.yF d.1 a (x:Int).toNat=U.kB d.1 x++U.yF d.1 c (x:Int).toNat/\True)/\c<=d.1.length/\d.1.length-c<d.1.length-a)))/\(decide ((a:Int)<(d.1.length:Int))=false->jz ((x:Int)+1)/\∃(c:Nat),(((x:Int)+1=(c:Int)/\True/\True)/\U.kB d.1 x++U.yF d.1 a (x:Int).toNat=U.kB d.1 c/\True)/\c<=100/\100-c<100-x))/\(decide ((x:Int)<=99)=false->(U.kB d.1 x,())=(U.jk d.1,()))
end Go.X
namespace Go.X
open Go.Proofs
theorem jtT:jpq:=by
 rintro⟨n,a,b,⟨⟩⟩;rfl
theorem jct:zm PR 103 jpN:=j8 jtT Tryz.func103 kcN koN
theorem jmb:jju:=by
 rintro⟨d,n,⟨⟩⟩ a;have a:(U.ju d).length<4611686018427387904:=a;exact⟨by show jz (((U.ju d).length:Int)-1);exact L.in64 (by omega) (by omega),rfl⟩
theorem jcu:zm PR 104 jjG:=j8 jmb Tryz.func104 (kcC jct kcN) koN
theorem joC:jlH:=by
 rintro⟨d,n,⟨⟩⟩ a;have a:(U.jh (U.jc d)).length<4611686018427387904:=a;exact⟨by show jz (((U.jh (U.jc d)).length:Int)-1);exact L.in64 (by omega) (by omega),rfl⟩
theorem jdW:zm PR 60 jlQ:=j8 joC Tryz.func60 (kcC jct kcN) koN
theorem jxo:jr5:=by
 rintro⟨a,b,⟨⟩⟩;show(decide (U.jly b<U.jly a)||decide (U.jly a=U.jly b)&&decide (U.wI b<U.wI a),())=(U.zP a b,());refine congrArg (fun z=>(z,())) ?_;unfold U.zP;rw[jId];simp only[jIK,jHK,decide_eq_true_eq]
theorem jtk:zm PR 146 jsD:=j8 jxo Tryz.func146 kcN koN
theorem jru (l:List ShD) (n:Nat):U.qy l (n+1)=(U.qy l n||U.jjd l n):=by
 unfold U.qy;rw[jIe,List.any_append];simp
theorem joV {l:List ShD} {i:Nat} (h:∀j:Nat,j<i->U.jlh (nth l i) (nth l j)=false) (hi:i<=l.length):U.jjd l i=false:=by
 unfold U.jjd;rw[jIv];intro s a;rw[jIr] at a;obtain⟨j,b,rfl⟩:=a;have:=h j (by omega);rw[L.nth_lt (l:=l) (i:=j) (by omega)] at this;simpa using this
theorem jxV {l:List ShD} {i j:Nat} (hi:i<l.length) (a:j<i) (h:U.jlh (nth l i) (nth l j)=true):U.vU l=true:=by
 unfold U.vU U.qy U.jjd;rw[jIn];refine⟨i,jHZ.2 hi,?_⟩;rw[jIn];refine⟨nth l j,?_,h⟩;rw[jIr];exact⟨j,by omega,(L.nth_lt (by omega)).symm⟩
theorem jxp:jr6:=by
 unfold jr6 q126_0;rintro⟨l,⟨⟩⟩ k;have k:l.length<=1000000:=k;refine⟨⟨0,⟨⟨rfl,trivial⟩,trivial⟩,jHR _,rfl⟩,fun x m _=>⟨fun h=> ?_,fun h=> ?_⟩⟩
 .have h:(x:Int)<(l.length:Int):=of_decide_eq_true h;obtain⟨_,a⟩:x<=l.length/\U.qy l x=false:=m;refine⟨⟨0,⟨⟨rfl,trivial⟩,trivial⟩,jHR _,fun j o=>by omega⟩,fun y n=>⟨fun c=> ?_,fun c=> ?_⟩⟩
  .have c:(y:Int)<(x:Int):=of_decide_eq_true c;obtain⟨_,b⟩:y<=x/\∀j:Nat,j<y->U.jlh (nth l x) (nth l j)=false:=n;have f:(y:Int)<(l.length:Int):=(by omega);refine⟨by omega,h,by omega,f,fun _=>by omega,fun _=>h,fun _=>by omega,fun _=>f,fun d=> ?_,fun d=>⟨L.in64 (by omega) (by omega),y+1,⟨⟨by simp,trivial⟩,trivial⟩,⟨by show y+1<=x;omega,fun j o=> ?_⟩,by show x-(y+1)<x-y;omega⟩⟩
   .have d:U.jlh (nth l x) (nth l y)=true:=d;have:=jxV (by omega) (by omega) d;show(true,())=(U.vU l,());rw[this]
   .by_cases e:j=y
    .subst e;exact d
    .exact b j (by omega)
  .have c:¬(y:Int)<(x:Int):=of_decide_eq_false c;obtain⟨q,b⟩:y<=x/\∀j:Nat,j<y->U.jlh (nth l x) (nth l j)=false:=n;have i:y=x:=(by omega);subst i;refine⟨L.in64 (by omega) (by omega),y+1,⟨⟨by simp,trivial⟩,trivial⟩,⟨by show y+1<=l.length;omega,?_⟩,by show l.length-(y+1)<l.length-y;omega⟩;show U.qy l (y+1)=false;rw[jru,a,joV b (by omega)];rfl
 .have h:¬(x:Int)<(l.length:Int):=of_decide_eq_false h;obtain⟨p,a⟩:x<=l.length/\U.qy l x=false:=m;have g:x=l.length:=(by omega);subst g;show(false,())=(U.vU l,());unfold U.vU;rw[a]
theorem jtl:zm PR 52 jsE:=kH jux jxp Tryz.func52 kcN koN
theorem jxv:jsc:=by
 rintro⟨d,⟨⟩⟩ k;have k:(U.ju d).length<=1000000:=k;refine⟨fun h=> ?_,fun h=> ?_⟩
 .have h:U.js (U.jc d)=false:=(by simpa using(show(!U.js (U.jc d))=true from h));show((30:Int),())=(U.wt d,());unfold U.wt;rw[h];rfl
 have g:U.js (U.jc d)=true:=(by simpa using(show(!U.js (U.jc d))=false from h));refine⟨⟨0,⟨⟨rfl,trivial⟩,trivial⟩,jHR _,fun j f=>by omega⟩,fun x m _=>⟨fun h=> ?_,fun h=> ?_⟩⟩
 .have h:(x:Int)<((U.ju d).length:Int):=of_decide_eq_true h;refine⟨by omega,h,g,fun a=> ?_,fun a=>⟨L.in64 (by omega) (by omega),x+1,⟨⟨by simp,trivial⟩,trivial⟩,⟨by show x+1<=(U.ju d).length;omega,fun j f=> ?_⟩,by show(U.ju d).length-(x+1)<(U.ju d).length-x;omega⟩⟩
  .have a:U.za (U.jc d) (U.yG (nth (U.ju d) x))=false:=(by simpa using(show(!U.za (U.jc d) (U.yG (nth (U.ju d) x)))=true from a));have f:U.jxe d=false:=by
    unfold U.jxe;exact jIT.2 ⟨_,L.mem_nth (l:=U.ju d) (i:=x) (by omega),by rw[a];simp⟩
   show((31:Int),())=(U.wt d,());unfold U.wt;rw[g,f];rfl
  .have a:U.za (U.jc d) (U.yG (nth (U.ju d) x))=true:=(by simpa using(show(!U.za (U.jc d) (U.yG (nth (U.ju d) x)))=false from a));by_cases e:j=x
   .subst e;exact a
   .exact m.2 j (by omega)
 .have h:¬(x:Int)<((U.ju d).length:Int):=of_decide_eq_false h;have f:U.jxe d=true:=jbl (p:=fun b=>U.za (U.jc d) (U.yG b)) (by omega) m.2;refine⟨fun a=> ?_,fun a=> ?_⟩
  .have a:U.zK d=false:=(by simpa using(show(!U.zK d)=true from a));show((50:Int),())=(U.wt d,());unfold U.wt;rw[g,f,a];rfl
  .have a:U.zK d=true:=(by simpa using(show(!U.zK d)=false from a));have n:(U.zc d).length<=30:=(zb a).2.2.2.2.1;refine⟨by show(U.zc d).length<=1000000;omega,fun c=> ?_,fun c=> ?_⟩
   .have c:U.vU (U.zc d)=true:=c;show((51:Int),())=(U.wt d,());unfold U.wt;rw[g,f,a,c];rfl
   .have c:U.vU (U.zc d)=false:=c;show((0:Int),())=(U.wt d,());unfold U.wt;rw[g,f,a,c];rfl
theorem jql (t:List Int) (p:Int) (n:Nat):U.vp t p (n+1)=U.vp t p n++(if U.jR (nth t n) p=true then[(n:Int)] else[]):=by
 unfold U.vp;rw[L.range_filter_succ,jIz];by_cases h:U.jR (nth t n) p=true
 .rw[if_pos h,if_pos h];rfl
 .rw[if_neg h,if_neg h];rfl
theorem jn9 (t:List Int) (p:Int) (n:Nat):(U.vp t p n).length<=n:=by
 unfold U.vp;rw[jIL];exact jHW (jIH _ _) (by simp)
end Go.X
namespace Go.X
open Go.Proofs
theorem jBB (l:List ShD) (n m:Nat):U.yF l (n+1) m=U.yF l n m++(if(decide (U.wI (nth l n)=(m:Int))&&U.jcR l n)=true then[nth l n] else[]):=by
 unfold U.yF;rw[L.range_filter_succ,jIz];by_cases h:(decide (U.wI (nth l n)=(m:Int))&&U.jcR l n)=true
 .rw[if_pos h,if_pos h];rfl
 .rw[if_neg h,if_neg h];rfl
theorem jvL (l:List ShD) (n m:Nat):(U.yF l n m).length<=n:=by
 unfold U.yF;rw[jIL];exact jHW (jIH _ _) (by simp)
theorem jlc (l:List ShD) (n:Nat):U.kB l (n+1)=U.kB l n++U.yF l l.length n:=by
 unfold U.kB;rw[jIe,List.flatMap_append];simp
theorem jdt (l:List ShD):∀n,(U.kB l n).length<=l.length*n
 |0=>jHR _
 |n+1=>by
  have a:=jdt l n
  have:=jvL l l.length n
  rw[jlc,jH2,Nat.mul_succ]
  omega
theorem jq5 {l:List ShD} {i k:Nat} {id:Int} (h:k<l.length):U.wE l i (k+1) id=(U.wE l i k id&& !decide (nth l k=nth l i)):=by
 unfold U.wE;rw[L.take_succ h,List.any_append];simp only[List.any_cons,List.any_nil,Bool.or_false,Bool.not_or,Bool.and_assoc]
theorem joA:jlF:=by
 rintro⟨l,⟨⟩⟩ f;have f:l.length<=1000:=f;refine⟨⟨0,⟨⟨rfl,trivial,trivial⟩,rfl,trivial⟩,jHR _⟩,fun x u=>⟨fun h=>⟨⟨0,⟨⟨rfl,trivial,trivial⟩,?_,trivial⟩,jHR _⟩,fun y e _=>⟨fun a=> ?_,fun a=> ?_⟩⟩,fun h=> ?_⟩⟩
 .exact(jIc _).symm
 .have h:(x:Int)<=99:=of_decide_eq_true h;have a:(y:Int)<(l.length:Int):=of_decide_eq_true a;have e:y<=l.length:=e;refine⟨by omega,a,⟨0,⟨⟨rfl,?_,trivial⟩,trivial⟩,jHR _⟩,fun z p=>⟨fun c=> ?_,fun c=> ?_⟩⟩
  .show decide (U.wI (nth l y)=(x:Int))=U.wE l y 0 (x:Int);unfold U.wE;simp
  .have c:(z:Int)<(y:Int):=of_decide_eq_true c;have m:(z:Int)<(l.length:Int):=(by omega);have d:=jq5 (l:=l) (i:=y) (k:=z) (id:=(x:Int)) (by omega);exact⟨fun _=>by omega,fun _=>m,fun _=>by omega,fun _=>a,L.in64 (by omega) (by omega),z+1,⟨⟨by simp,d.symm,trivial⟩,trivial⟩,by show z+1<=y;omega,by show y-(z+1)<y-z;omega⟩
  .have c:¬(z:Int)<(y:Int):=of_decide_eq_false c;have p:z<=y:=p;have n:z=y:=(by omega);subst n;have d:=jBB l z x;have s:=jvL l z x;have t:=jdt l x;have r:l.length*x<=1000*99:=Nat.mul_le_mul f (by omega);have q:z+1<=l.length:=(by omega);have o:l.length-(z+1)<l.length-z:=(by omega);refine⟨fun b=>⟨by omega,a,?_,L.in64 (by omega) (by omega),z+1,⟨⟨by simp,trivial,trivial⟩,?_,trivial⟩,q,o⟩,fun b=>⟨L.in64 (by omega) (by omega),z+1,⟨⟨trivial,by simp,trivial⟩,?_,trivial⟩,q,o⟩⟩
   .show((U.kB l x++U.yF l z x).length+1)*40<=140737488355328;rw[jH2];omega
   .have b:(decide (U.wI (nth l z)=(x:Int))&&U.jcR l z)=true:=b;show U.kB l x++U.yF l z x++[nth l z]=U.kB l x++U.yF l (z+1) x;rw[d,if_pos b,jH3]
   .have b:(decide (U.wI (nth l z)=(x:Int))&&U.jcR l z)=false:=b;show U.kB l x++U.yF l z x=U.kB l x++U.yF l (z+1) x;rw[d,if_neg (by rw[b];simp),jIc]
 .have h:(x:Int)<=99:=of_decide_eq_true h;have a:¬(y:Int)<(l.length:Int):=of_decide_eq_false a;have e:y<=l.length:=e;have j:y=l.length:=(by omega);subst j;exact⟨L.in64 (by omega) (by omega),x+1,⟨⟨by simp,trivial,trivial⟩,(jlc l x).symm,trivial⟩,by omega,by omega⟩
 .have h:¬(x:Int)<=99:=of_decide_eq_false h;have g:x=100:=(by omega);subst g;rfl
theorem jl0:zm PR 73 jlO:=kH jmo joA Tryz.func73 kcN koN
theorem jll {d:DyD} {p:Int} {l:List Int}:U.kG d p l=true↔(∀j:Nat,j<l.length->U.zy (U.jc d) (U.yG (U.bk d (nth l j))) p=true)/\(∀j:Nat,j<l.length->∀m:Nat,m<j->U.j0 d (nth l j) (nth l m)=true)/\U.jon d l<=U.jCB d:=by
 unfold U.kG U.jDJ;rw[jHK,jHK,jIl,jIl,decide_eq_true_eq];refine and_congr ?_ (and_congr ?_ Iff.rfl)
 .constructor
  .intro h j a;exact h _ (L.mem_nth a)
  .intro h b c;obtain⟨i,hi,rfl⟩:=L.mem_iff.1 c;exact h i hi
 .constructor
  .intro h j a m e;have:=h j (jHZ.2 a);rw[jIl] at this;exact this _ (by rw[jIr];exact⟨m,by omega,(L.nth_lt (by omega)).symm⟩)
  .intro h j a;have a:=jHZ.1 a;rw[jIl];intro b c;rw[jIr] at c;obtain⟨m,e,rfl⟩:=c;have:=h j a m (by omega);rw[L.nth_lt (l:=l) (i:=m) (by omega)] at this;exact this
theorem jlm {d:DyD} {p:Int} {l:List Int} (h:¬U.kG d p l=true):(false,())=(U.kG d p l,()):=by
 cases a:U.kG d p l with
 |false=>rfl
 |true=>exact absurd a h
theorem jxw:jsd:=by
 unfold jsd q130_0 q130_1;rintro⟨d,p,l,⟨⟩⟩ f t C;have f:U.jcw d:=f;have t:U.ji1 d p:=t;obtain⟨J,A⟩:U.jcx d l:=C;refine⟨⟨0,⟨⟨rfl,rfl,trivial⟩,trivial⟩,jHR _,fun j s=>by omega,fun j s=>by omega⟩,fun x q _=>⟨fun h=> ?_,fun h=> ?_⟩⟩
 .have h:(x:Int)<(l.length:Int):=of_decide_eq_true h;have a:x<l.length:=(by omega);have n:=A _ (L.mem_nth a);have B:=qB f.2.2 n;have D:=jtx f.2.2 A x (by omega);have E:=jeK (d:=d) a;have o:U.za (U.jc d) (U.yG (U.bk d (nth l x)))=true:=by
   have:=f.2.1;unfold U.jxe at this;exact jIl.1 this _ (jGH n)
  have H:jz (U.jnm (U.bk d (nth l x))-U.ve (U.bk d (nth l x))):=L.in64 (by omega) (by omega);have I:jz (U.kz d l x+(U.jnm (U.bk d (nth l x))-U.ve (U.bk d (nth l x)))):=L.in64 (by omega) (by omega);refine⟨by omega,h,n.1,n.2,t,o,fun b=> ?_,fun b=>⟨H,I,⟨0,⟨⟨rfl,trivial⟩,trivial⟩,jHR _,fun m g=>by omega⟩,fun y u=>⟨fun k=> ?_,fun k=> ?_⟩⟩⟩
  .have b:U.zy (U.jc d) (U.yG (U.bk d (nth l x))) p=false:=(by simpa using(show(!U.zy (U.jc d) (U.yG (U.bk d (nth l x))) p)=true from b));exact jlm (d:=d) (p:=p) (l:=l) (fun r=>by
    have:=(jll.1 r).1 x a;rw[b] at this;cases this)
  .have k:(y:Int)<(x:Int):=of_decide_eq_true k;have v:(y:Int)<(l.length:Int):=(by omega);refine⟨by omega,h,by omega,v,f,n,A _ (L.mem_nth (l:=l) (i:=y) (by omega)),fun c=> ?_,fun c=>⟨L.in64 (by omega) (by omega),y+1,⟨⟨by simp,trivial⟩,trivial⟩,⟨by show y+1<=x;omega,fun m g=> ?_⟩,by show x-(y+1)<x-y;omega⟩⟩
   .have c:U.j0 d (nth l x) (nth l y)=false:=(by simpa using(show(!U.j0 d (nth l x) (nth l y))=true from c));exact jlm (d:=d) (p:=p) (l:=l) (fun r=>by
     have:=(jll.1 r).2.1 x a y (by omega);rw[c] at this;cases this)
   .have c:U.j0 d (nth l x) (nth l y)=true:=(by simpa using(show(!U.j0 d (nth l x) (nth l y))=false from c));by_cases e:m=y
    .subst e;exact c
    .exact u.2 m (by omega)
  .have k:¬(y:Int)<(x:Int):=of_decide_eq_false k;have G:y<=x:=u.1;have w:y=x:=(by omega);subst w;have b:U.zy (U.jc d) (U.yG (U.bk d (nth l y))) p=true:=(by simpa using(show(!U.zy (U.jc d) (U.yG (U.bk d (nth l y))) p)=false from b));refine⟨L.in64 (by omega) (by omega),y+1,⟨⟨by simp,E.symm,trivial⟩,trivial⟩,⟨by show y+1<=l.length;omega,fun j s=> ?_,fun j s m g=> ?_⟩,by show l.length-(y+1)<l.length-y;omega⟩
   .by_cases e:j=y
    .subst e;exact b
    .exact q.2.1 j (by omega)
   .by_cases e:j=y
    .subst e;exact u.2 m g
    .exact q.2.2 j (by omega) m g
 .have h:¬(x:Int)<(l.length:Int):=of_decide_eq_false h;have F:x<=l.length:=q.1;have a:x=l.length:=(by omega);subst a;have g:U.kz d l l.length=U.jon d l:=by
   unfold U.kz;rw[jID (jHM _)]
  show(decide (U.kz d l l.length<=U.jCB d),())=(U.kG d p l,());rw[g];refine congrArg (fun z=>(z,())) ?_;rw[jId,decide_eq_true_eq,jll];exact⟨fun h=>⟨q.2.1,q.2.2,h⟩,fun h=>h.2.2⟩
end Go.X
namespace Go.X
open Go.Proofs
theorem jF0 {d:DyD} {a b:Int} (h:U.wQ d b a=true):U.j0 d a b=decide (U.jnm (U.bk d b)+U.jcj d+U.jrc d b a<=U.ve (U.bk d a)):=by
 unfold U.j0;rw[if_pos h];refine decide_eq_decide.2 ?_;unfold U.qj;omega
theorem jEi {d:DyD} {a b:Int} (h:U.wQ d b a=false):U.j0 d a b=decide (U.jnm (U.bk d a)+U.jcj d+U.jrc d a b<=U.ve (U.bk d b)):=by
 unfold U.j0;rw[h,if_neg (by simp)];refine decide_eq_decide.2 ?_;unfold U.qj;omega
theorem jvP (d:DyD) (a b:Int):U.wQ d b a=(decide (U.ve (U.bk d b)<U.ve (U.bk d a))||decide (U.ve (U.bk d b)=U.ve (U.bk d a))&&decide (b<a)):=by
 unfold U.wQ;rw[jId];simp only[jIK,jHK,decide_eq_true_eq]
theorem joB:jlG:=by
 unfold jlG q129_4 q129_3 q129_2 q129_1 q129_0;rintro⟨d,a,b,⟨⟩⟩ c e f;have c:U.jcw d:=c;have e:U.kr d a:=e;have f:U.kr d b:=f;have m:=qB c.2.2 e;have n:=qB c.2.2 f;have p:=jgv c.2.2 e f;have q:=jgv c.2.2 f e;have o:=(zb c.2.2).2.2.1;have r:=(jcd c.2.2 (i:=(U.jrT (U.bk d a)).toNat) (by omega)).1;have s:=(jcd c.2.2 (i:=(U.jrT (U.bk d b)).toNat) (by omega)).1;have g:=e.1;have j:=e.2;have k:=f.1;have l:=f.2;refine⟨k,l,g,j,fun _=>k,fun _=>l,fun _=>g,fun _=>j,fun h=>⟨k,l,g,j,?_,n.1.1,n.1.2,m.1.1,?_,?_,?_⟩,fun h=>⟨g,j,k,l,?_,m.1.1,m.1.2,n.1.1,?_,?_,?_⟩⟩
 .show jz (U.jnm (U.bk d b)+U.jcj d);exact L.in64 (by omega) (by omega)
 .show U.jrT (U.bk d a)<((nth (U.jZ d) (U.jrT (U.bk d b)).toNat).length:Int);omega
 .show jz (U.jnm (U.bk d b)+U.jcj d+U.jrc d b a);exact L.in64 (by omega) (by omega)
 .have h:U.wQ d b a=true:=(by rw[jvP];exact h);exact congrArg (fun z=>(z,())) (jF0 h).symm
 .show jz (U.jnm (U.bk d a)+U.jcj d);exact L.in64 (by omega) (by omega)
 .show U.jrT (U.bk d b)<((nth (U.jZ d) (U.jrT (U.bk d a)).toNat).length:Int);omega
 .show jz (U.jnm (U.bk d a)+U.jcj d+U.jrc d a b);exact L.in64 (by omega) (by omega)
 .have h:U.wQ d b a=false:=(by rw[jvP];exact h);exact congrArg (fun z=>(z,())) (jEi h).symm
theorem jl1:zm PR 147 jlP:=j8 joB Tryz.func147 kcN koN
theorem jki:zm PR 107 jsJ:=kH juC jxw Tryz.func107 (kcC joe (kcC jl1 kcN)) koN
end Go.X
namespace Go.X
open Go.Proofs
def jGC (d:DyD):Bool:=decide (4<((U.ju d).length:Int))|| !U.ja ((U.jZ d).length:Int) 1 5|| !U.ja (U.jcj d) 0 300|| !U.ja (U.jCB d) 0 1440||decide (30<((U.zc d).length:Int))
def spH (s:SpD):Bool:=decide (U.lo s<0)||decide (U.hi s<U.lo s)||decide (300<U.hi s)
def bkH (n:Nat) (b:BkD):Bool:= !U.ja (U.jrT b) 0 ((n:Int)-1)||decide (U.ve b<0)||decide (U.jnm b<=U.ve b)||decide (1440<U.jnm b)
def shH (d:DyD) (s:ShD):Bool:= !U.ja (U.wI s) 0 99|| !U.ja (U.jly s) 0 9999|| !U.ja (U.jy6 s) 1 2|| !U.jj d (U.jbU s)|| !U.ji d (U.qo s)
theorem jBk (d:DyD):U.zK d=(!jGC d&&((U.jZ d).all (U.yu (U.jZ d).length)&&((U.ju d).all (U.jdN (U.jZ d).length)&&(U.zc d).all (U.jcv (U.ju d).length (U.jh (U.jc d)).length)))):=by
 unfold U.zK jGC;congr 1;rw[jId];simp only[U.ja,jIj,jIg,decide_eq_false_iff_not,jIC,jHK,decide_eq_true_eq];omega
theorem jDD (s:SpD):U.jf6 s= !spH s:=by
 unfold U.jf6 spH;rw[jId];simp only[jIj,jIg,decide_eq_false_iff_not,decide_eq_true_eq];omega
theorem jD1 (n:Nat) (b:BkD):U.jdN n b= !bkH n b:=by
 unfold U.jdN bkH;rw[jId];simp only[U.ja,jIj,jIg,decide_eq_false_iff_not,jIC,jHK,decide_eq_true_eq];omega
theorem jDF (d:DyD) (s:ShD):U.jcv (U.ju d).length (U.jh (U.jc d)).length s= !shH d s:=by
 unfold U.jcv shH U.jj U.ji;rw[jId];simp only[U.ja,jIj,jIg,decide_eq_false_iff_not,jIC,jHK,decide_eq_true_eq];omega
theorem jrn {d:DyD} (h:jGC d=true\/(U.jZ d).all (U.yu (U.jZ d).length)=false\/(U.ju d).all (U.jdN (U.jZ d).length)=false\/(U.zc d).all (U.jcv (U.ju d).length (U.jh (U.jc d)).length)=false):(false,())=(U.zK d,()):=by
 have:U.zK d=false:=by
  rw[jBk];rcases h with h|h|h|h<;>rw[h]<;>simp
 rw[this]
theorem jrD {α:Type} [Inhabited α] {l:List α} {p:α->Bool} {x:Nat} (a:x<l.length) (h:p (nth l x)=false):l.all p=false:=jIT.2 ⟨_,L.mem_nth a,by rw[h];simp⟩
theorem jxu:jsb:=by
 unfold jsb q125_13 q125_3 q125_12 q125_11 q125_1 q125_10 q125_9 q125_8 q125_0 q125_7 q125_6 q125_5 q125_2 q125_4;rintro⟨d,⟨⟩⟩ _ _ _;refine⟨fun h=>jrn (d:=d) (.inl h),fun k=> ?_⟩;have k:jGC d=false:=k;have l:=k;unfold jGC at l;simp only[U.ja,jIg,decide_eq_false_iff_not,jIC,jHK,decide_eq_true_eq] at l;refine⟨⟨0,⟨⟨rfl,trivial⟩,trivial⟩,jHR _,fun j g=>by omega⟩,fun x c _=>⟨fun h=> ?_,fun h=> ?_⟩⟩
 .have h:(x:Int)<((U.jZ d).length:Int):=of_decide_eq_true h;have b:x<(U.jZ d).length:=(by omega);refine⟨by omega,h,fun a=> ?_,fun a=>⟨⟨0,⟨⟨rfl,trivial⟩,trivial⟩,jHR _,fun j g=>by omega⟩,fun y n=>⟨by omega,h,fun m=>⟨fun i=> ?_,fun i=> ?_⟩⟩⟩⟩
  .have a:¬((nth (U.jZ d) x).length:Int)=((U.jZ d).length:Int):=of_decide_eq_true a;refine jrn (d:=d) (.inr (.inl (jrD b ?_)));unfold U.yu;rw[decide_eq_false (by omega)];rfl
  .have m:(nth (U.jZ d) x).length<4611686018427387904:=m;have i:(y:Int)<((nth (U.jZ d) x).length:Int):=of_decide_eq_true i;refine⟨by omega,h,by omega,i,fun f=> ?_,fun f=>⟨L.in64 (by omega) (by omega),y+1,⟨⟨by simp,trivial⟩,trivial⟩,⟨by show y+1<=(nth (U.jZ d) x).length;omega,fun j g=> ?_⟩,by show(nth (U.jZ d) x).length-(y+1)<(nth (U.jZ d) x).length-y;omega⟩⟩
   .have f:spH (nth (nth (U.jZ d) x) y)=true:=f;refine jrn (d:=d) (.inr (.inl (jrD b ?_)));have:(nth (U.jZ d) x).all U.jf6=false:=jrD (x:=y) (by omega) (by rw[jDD,f];rfl);unfold U.yu;rw[this,Bool.and_false]
   .have f:spH (nth (nth (U.jZ d) x) y)=false:=f;by_cases e:j=y
    .subst e;show U.jf6 (nth (nth (U.jZ d) x) j)=true;rw[jDD,f];rfl
    .exact n.2 j (by omega)
  .have i:¬(y:Int)<((nth (U.jZ d) x).length:Int):=of_decide_eq_false i;have a:((nth (U.jZ d) x).length:Int)=((U.jZ d).length:Int):=Classical.not_not.1 (of_decide_eq_false a);have o:(nth (U.jZ d) x).all U.jf6=true:=jbl (by omega) n.2;refine⟨L.in64 (by omega) (by omega),x+1,⟨⟨by simp,trivial⟩,trivial⟩,⟨by show x+1<=(U.jZ d).length;omega,fun j g=> ?_⟩,by show(U.jZ d).length-(x+1)<(U.jZ d).length-x;omega⟩;by_cases e:j=x
   .subst e;show U.yu (U.jZ d).length (nth (U.jZ d) j)=true;unfold U.yu;rw[o,decide_eq_true (by omega)];rfl
   .exact c.2 j (by omega)
 have h:¬(x:Int)<((U.jZ d).length:Int):=of_decide_eq_false h;have r:(U.jZ d).all (U.yu (U.jZ d).length)=true:=jbl (by omega) c.2;clear c h;refine⟨⟨0,⟨⟨rfl,trivial⟩,trivial⟩,jHR _,fun j g=>by omega⟩,fun x c _=>⟨fun h=> ?_,fun h=> ?_⟩⟩
 .have h:(x:Int)<((U.ju d).length:Int):=of_decide_eq_true h;have b:x<(U.ju d).length:=(by omega);refine⟨by omega,h,fun _=>⟨by show jz (((U.jZ d).length:Int)-1);exact L.in64 (by omega) (by omega),fun a=> ?_,fun a=>⟨L.in64 (by omega) (by omega),x+1,⟨⟨by simp,trivial⟩,trivial⟩,⟨by show x+1<=(U.ju d).length;omega,fun j g=> ?_⟩,by show(U.ju d).length-(x+1)<(U.ju d).length-x;omega⟩⟩⟩
  .have a:bkH (U.jZ d).length (nth (U.ju d) x)=true:=a;exact jrn (d:=d) (.inr (.inr (.inl (jrD b (by rw[jD1,a];rfl)))))
  .have a:bkH (U.jZ d).length (nth (U.ju d) x)=false:=a;by_cases e:j=x
   .subst e;show U.jdN (U.jZ d).length (nth (U.ju d) j)=true;rw[jD1,a];rfl
   .exact c.2 j (by omega)
 have h:¬(x:Int)<((U.ju d).length:Int):=of_decide_eq_false h;have p:(U.ju d).all (U.jdN (U.jZ d).length)=true:=jbl (by omega) c.2;clear c h;refine⟨⟨0,⟨⟨rfl,trivial⟩,trivial⟩,jHR _,fun j g=>by omega⟩,fun x c _=>⟨fun h=> ?_,fun h=> ?_⟩⟩
 .have h:(x:Int)<((U.zc d).length:Int):=of_decide_eq_true h;have b:x<(U.zc d).length:=(by omega);refine⟨by omega,h,fun a=> ?_,fun a=>⟨L.in64 (by omega) (by omega),x+1,⟨⟨by simp,trivial⟩,trivial⟩,⟨by show x+1<=(U.zc d).length;omega,fun j g=> ?_⟩,by show(U.zc d).length-(x+1)<(U.zc d).length-x;omega⟩⟩
  .have a:shH d (nth (U.zc d) x)=true:=a;exact jrn (d:=d) (.inr (.inr (.inr (jrD b (by rw[jDF,a];rfl)))))
  .have a:shH d (nth (U.zc d) x)=false:=a;by_cases e:j=x
   .subst e;show U.jcv (U.ju d).length (U.jh (U.jc d)).length (nth (U.zc d) j)=true;rw[jDF,a];rfl
   .exact c.2 j (by omega)
 .have h:¬(x:Int)<((U.zc d).length:Int):=of_decide_eq_false h;have q:(U.zc d).all (U.jcv (U.ju d).length (U.jh (U.jc d)).length)=true:=jbl (by omega) c.2;show(true,())=(U.zK d,());rw[jBk,k,r,p,q];rfl
theorem jtp:zm PR 51 jsH:=kH juA jxu Tryz.func51 (kcC jct (kcC jcu (kcC jdW kcN))) koN
theorem jkh:zm PR 17 jsI:=kH juB jxv Tryz.func17 (kcC jhZ (kcC jtr (kcC jtp (kcC jtl kcN)))) koN
end Go.X
namespace Go.X
open Go.Proofs
namespace U
def kO (l:List ShD) (i n:Nat):Bool:=decide (jy6 (nth l i)=1)&& !((l.take n).any (fun t=>decide (jbU t=jbU (nth l i))&&decide (qo t=qo (nth l i))&&zP t (nth l i)))
def jA (l:List ShD) (n:Nat):List ShD:=((List.range n).filter (fun i=>kO l i l.length)).map (nth l)
def jO (l:List ShD) (n:Nat):Nat:=(List.range n).foldl (fun f i=>if zP (nth l f) (nth l i)=true then i else f) 0
def jm (l:List ShD):Nat->List ShD×List ShD
 |0=>([],l)
 |n+1=>((jm l n).1++[nth (jm l n).2 (jO (jm l n).2 (jm l n).2.length)],(jm l n).2.take (jO (jm l n).2 (jm l n).2.length)++(jm l n).2.drop (jO (jm l n).2 (jm l n).2.length+1))
def ya (d:DyD):List ShD:=jA (jk (zc d)) (jk (zc d)).length
def zM (d:DyD):List ShD:=(jm (ya d) (ya d).length).1
def jN (d:DyD) (n:Nat):List Int×List Int:=((zM d).take n).foldl (qW d) (List.replicate (ju d).length 0,[])
def jiq (d:DyD):List Int×List Int:=jN d (zM d).length
def jC (d:DyD):List Int:=if wt d=0 then(jiq d).1 else[]
end U
def jpO:j9:=⟨[.val tDy],[.slice tSh],false,fun d=>[(U.zc d.1).length<=1000],fun d=>(U.zM d.1,())⟩
def jrA:Ann:=fun r=>match r with
 |4=>some fun σ=>{X:=Nat,sl:=fun i=>[(5,.dat .int (i:Int)),(3,.own 3 tSh)],ob:=fun i=>[(3,some (.row 54 tSh false .yes (U.jA (gd (.slice tSh) σ 4) i)))],inv:=fun i=>i<=(gd (.slice tSh) σ 4).length,mu:=fun i=>(gd (.slice tSh) σ 4).length-i}
 |8=>some fun σ=>{X:=Nat,sl:=fun k=>[(7,.dat .int (k:Int)),(6,.dat .bool (U.kO (gd (.slice tSh) σ 4) (gd .int σ 5).toNat k))],ob:=fun _=>[],inv:=fun k=>k<=(gd (.slice tSh) σ 4).length,mu:=fun k=>(gd (.slice tSh) σ 4).length-k}
 |15=>some fun σ=>{X:=Nat,sl:=fun _=>[(3,.own 3 tSh),(8,.own 8 tSh)],ob:=fun n=>[(3,some (.row 54 tSh false .unk (U.jm (gr tSh σ 3) n).2)),(8,some (.row 54 tSh false .yes (U.jm (gr tSh σ 3) n).1))],inv:=fun n=>n<=(gr tSh σ 3).length,mu:=fun n=>(gr tSh σ 3).length-n}
 |18=>some fun σ=>{X:=Nat,sl:=fun i=>[(10,.dat .int (i:Int)),(9,.dat .int (U.jO (gr tSh σ 3) i:Int))],ob:=fun _=>[],inv:=fun i=>i<=(gr tSh σ 3).length,mu:=fun i=>(gr tSh σ 3).length-i}
 |_=>none
abbrev q132_0 (d:DyD×Unit):=(U.jk d.1.2.2.2.2.2.1)
abbrev q132_2 (d:DyD×Unit)(a:Nat)(x:Nat):=((nth (q132_0 d) (a:Int).toNat).2.2.2.1=(nth (q132_0 d) (x:Int).toNat).2.2.2.1)
abbrev q132_4 (d:DyD×Unit)(a:Nat)(x:Nat):=((nth (q132_0 d) (a:Int).toNat).2.2.2.2.1=(nth (q132_0 d) (x:Int).toNat).2.2.2.2.1)
abbrev q132_6 (d:DyD×Unit):=(↑(q132_0 d).length:Int)
abbrev q132_7 (d:DyD×Unit)(a:Nat)(x:Nat):=(decide (q132_2 d a x)&&decide (q132_4 d a x)&&U.zP (nth (q132_0 d) (a:Int).toNat) (nth (q132_0 d) (x:Int).toNat))
abbrev q132_8 (d:DyD×Unit)(a:Nat)(x:Nat):=(decide (q132_2 d a x)&&decide (q132_4 d a x))
abbrev q132_9 (d:DyD×Unit)(x:Nat):=(U.jA (q132_0 d) x)
abbrev q132_1 (d:DyD×Unit)(x:Nat)(a:Nat):=(U.jm (q132_9 d x) a)
abbrev q132_3 (d:DyD×Unit)(x:Nat)(a:Nat)(b:Nat):=(↑(U.jO (q132_1 d x a).2 b):Int)
abbrev q132_5 (d:DyD×Unit)(x:Nat)(a:Nat):=(↑(q132_1 d x a).2.length:Int)
def jpr:Prop:=∀(d:DyD×Unit),(U.zc d.1).length<=1000->d.1.2.2.2.2.2.1.length<=1000/\(∃(x:Nat),((0=(x:Int)/\True/\True)/\U.jA (q132_0 d) x=[]/\True)/\x<=(q132_0 d).length)/\∀(x:Nat),x<=(q132_0 d).length->(q132_0 d).length<4611686018427387904->(decide ((x:Int)<(q132_6 d))=true->0<=(x:Int)/\(x:Int)<(q132_6 d)/\(∃(a:Nat),((0=(a:Int)/\decide ((nth (q132_0 d) (x:Int).toNat).2.2.1=1)=U.kO (q132_0 d) (x:Int).toNat a/\True)/\True)/\a<=(q132_0 d).length)/\∀(a:Nat),a<=(q132_0 d).length->(q132_0 d).length<4611686018427387904->(decide ((a:Int)<(q132_6 d))=true->0<=(a:Int)/\(a:Int)<(q132_6 d)/\0<=(x:Int)/\(x:Int)<(q132_6 d)/\(decide (q132_2 d a x)=true->0<=(a:Int))/\(decide (q132_2 d a x)=true->(a:Int)<(q132_6 d))/\(decide (q132_2 d a x)=true->0<=(x:Int))/\(decide (q132_2 d a x)=true->(x:Int)<(q132_6 d))/\((q132_8 d a x)=true->0<=(a:Int))/\((q132_8 d a x)=true->(a:Int)<(q132_6 d))/\((q132_8 d a x)=true->0<=(x:Int))/\((q132_8 d a x)=true->(x:Int)<(q132_6 d))/\((q132_7 d a x)=true->jz ((a:Int)+1)/\∃(c:Nat),(((a:Int)+1=(c:Int)/\false=U.kO (q132_0 d) (x:Int).toNat c/\True)/\True)/\c<=(q132_0 d).length/\(q132_0 d).length-c<(q132_0 d).length-a)/\((q132_7 d a x)=false->jz ((a:Int)+1)/\∃(c:Nat),((U.kO (q132_0 d) (x:Int).toNat a=U.kO (q132_0 d) (x:Int).toNat c/\(a:Int)+1=(c:Int)/\True)/\True)/\c<=(q132_0 d).length/\(q132_0 d).length-c<(q132_0 d).length-a))/\(decide ((a:Int)<(q132_6 d))=false->(U.kO (q132_0 d) (x:Int).toNat a=true->0<=(x:Int)/\(x:Int)<(q132_6 d)/\((q132_9 d x).length+[nth (q132_0 d) (x:Int).toNat].length)*40<=140737488355328/\jz ((x:Int)+1)/\∃(c:Nat),(((x:Int)+1=(c:Int)/\True/\True)/\U.jA (q132_0 d) x++[nth (q132_0 d) (x:Int).toNat]=U.jA (q132_0 d) c/\True)/\c<=(q132_0 d).length/\(q132_0 d).length-c<(q132_0 d).length-x)/\(U.kO (q132_0 d) (x:Int).toNat a=false->jz ((x:Int)+1)/\∃(c:Nat),((True/\(x:Int)+1=(c:Int)/\True)/\U.jA (q132_0 d) x=U.jA (q132_0 d) c/\True)/\c<=(q132_0 d).length/\(q132_0 d).length-c<(q132_0 d).length-x)))/\(decide ((x:Int)<(q132_6 d))=false->(∃(a:Nat),((True/\True/\True)/\U.jA (q132_0 d) x=(q132_1 d x a).2/\(q132_1 d x a).1=[]/\True)/\a<=(q132_9 d x).length)/\∀(a:Nat),a<=(q132_9 d x).length->(q132_1 d x a).2.length<4611686018427387904->(decide ((0:Int)<(q132_5 d x a))=true->(∃(b:Nat),((0=(b:Int)/\(0:Int)=(q132_3 d x a b)/\True)/\True)/\b<=(q132_1 d x a).2.length)/\∀(b:Nat),b<=(q132_1 d x a).2.length->(q132_1 d x a).2.length<4611686018427387904->(decide ((b:Int)<(q132_5 d x a))=true->(0:Int)<=(q132_3 d x a b)/\(q132_3 d x a b)<(q132_5 d x a)/\0<=(b:Int)/\(b:Int)<(q132_5 d x a)/\(U.zP (nth (q132_1 d x a).2 (q132_3 d x a b).toNat) (nth (q132_1 d x a).2 (b:Int).toNat)=true->jz ((b:Int)+1)/\∃(c:Nat),(((b:Int)+1=(c:Int)/\(b:Int)=(↑(U.jO (q132_1 d x a).2 c):Int)/\True)/\True)/\c<=(q132_1 d x a).2.length/\(q132_1 d x a).2.length-c<(q132_1 d x a).2.length-b)/\(U.zP (nth (q132_1 d x a).2 (q132_3 d x a b).toNat) (nth (q132_1 d x a).2 (b:Int).toNat)=false->jz ((b:Int)+1)/\∃(c:Nat),(((q132_3 d x a b)=(↑(U.jO (q132_1 d x a).2 c):Int)/\(b:Int)+1=(c:Int)/\True)/\True)/\c<=(q132_1 d x a).2.length/\(q132_1 d x a).2.length-c<(q132_1 d x a).2.length-b))/\(decide ((b:Int)<(q132_5 d x a))=false->(0:Int)<=(q132_3 d x a b)/\(q132_3 d x a b)<(q132_5 d x a)/\((q132_1 d x a).1.length+[nth (q132_1 d x a).2 (q132_3 d x a b).toNat].length)*40<=140737488355328/\(0:Int)<=0/\(0:Int)<=(q132_3 d x a b)/\(q132_3 d x a b)<=(q132_5 d x a)/\(0+(List.take ((q132_3 d x a b).toNat-Int.toNat 0) (List.drop (Int.toNat 0) (q132_1 d x a).2)).length)*40<=140737488355328/\jz ((q132_3 d x a b)+1)/\(0:Int)<=(q132_3 d x a b)+1/\(q132_3 d x a b)+1<=(q132_5 d x a)/\(q132_5 d x a)<=(q132_5 d x a)/\(([]++List.take ((q132_3 d x a b).toNat-Int.toNat 0) (List.drop (Int.toNat 0) (q132_1 d x a).2)).length+(List.take ((q132_5 d x a).toNat-((q132_3 d x a b)+1).toNat) (List.drop ((q132_3 d x a b)+1).toNat (q132_1 d x a).2)).length)*40<=140737488355328/\∃(c:Nat),((True/\True/\True)/\[]++List.take ((q132_3 d x a b).toNat-Int.toNat 0) (List.drop (Int.toNat 0) (q132_1 d x a).2)++List.take ((q132_5 d x a).toNat-((q132_3 d x a b)+1).toNat) (List.drop ((q132_3 d x a b)+1).toNat (q132_1 d x a).2)=(U.jm (q132_9 d x) c).2/\(q132_1 d x a).1++[nth (q132_1 d x a).2 (q132_3 d x a b).toNat]=(U.jm (q132_9 d x) c).1/\True)/\c<=(q132_9 d x).length/\(q132_9 d x).length-c<(q132_9 d x).length-a))/\(decide ((0:Int)<(q132_5 d x a))=false->((q132_1 d x a).1,())=(U.zM d.1,())))
def jsT:zQ:=⟨[.own (.cl (.row 3 .int .no)) true,.val .int],[.cl (.row 3 .int .yes)],fun d=>[d.1.length<=1000,0<=d.2.1/\d.2.1<=63],fun d=>((U.on d.1 d.2.1,()),(d.1,()))⟩
def juz:Ann:=fun r=>match r with
 |3=>some fun σ=>{X:=Nat,sl:=fun i=>[(6,.dat .int (i:Int)),(5,.own 5 .int)],ob:=fun i=>[(5,some (.row 3 .int false .yes (U.vp (gr .int σ 1000000) (gd .int σ 1) i)))],inv:=fun i=>i<=(gr .int σ 1000000).length,mu:=fun i=>(gr .int σ 1000000).length-i}
 |_=>none
def jsa:Prop:=∀(d:List Int×Int×Unit),d.1.length<=1000->0<=d.2.1/\d.2.1<=63->(∃(x:Nat),((0=(x:Int)/\True/\True)/\U.vp d.1 d.2.1 x=[]/\True)/\x<=d.1.length)/\∀(x:Nat),x<=d.1.length->d.1.length<4611686018427387904->(decide ((x:Int)<(d.1.length:Int))=true->0<=(x:Int)/\(x:Int)<(d.1.length:Int)/\(0<=d.2.1/\d.2.1<=63)/\(U.jR (nth d.1 (x:Int).toNat) d.2.1=true->((U.vp d.1 d.2.1 x).length+[(x:Int)].length)*8<=140737488355328/\jz ((x:Int)+1)/\∃(a:Nat),(((x:Int)+1=(a:Int)/\True/\True)/\U.vp d.1 d.2.1 x++[(x:Int)]=U.vp d.1 d.2.1 a/\True)/\a<=d.1.length/\d.1.length-a<d.1.length-x)/\(U.jR (nth d.1 (x:Int).toNat) d.2.1=false->jz ((x:Int)+1)/\∃(a:Nat),((True/\(x:Int)+1=(a:Int)/\True)/\U.vp d.1 d.2.1 x=U.vp d.1 d.2.1 a/\True)/\a<=d.1.length/\d.1.length-a<d.1.length-x))/\(decide ((x:Int)<(d.1.length:Int))=false->(U.vp d.1 d.2.1 x,())=(U.on d.1 d.2.1,())/\(d.1,())=(d.1,()))
def jsC:j9:=⟨[.val tDy],[.slice .int,.slice .int],false,fun d=>[U.wt d.1=0],fun d=>((U.jiq d.1).1,(U.jiq d.1).2,())⟩
def juw:Ann:=fun r=>match r with
 |4=>some fun σ=>{X:=Nat,sl:=fun i=>[(5,.dat .int (i:Int)),(2,.own 2 .int),(3,.own 3 .int)],ob:=fun i=>[(2,some (.row 3 .int false .no (U.jN (gb tDy σ 1) i).1)),(3,some (.row 3 .int false .yes (U.jN (gb tDy σ 1) i).2))],inv:=fun i=>i<=(U.zM (gb tDy σ 1)).length,mu:=fun i=>(U.zM (gb tDy σ 1)).length-i}
 |_=>none
abbrev q134_0 (d:DyD×Unit)(x:Nat):=(nth (U.zM d.1) (x:Int).toNat)
abbrev q134_1 (d:DyD×Unit):=(↑(U.zM d.1).length:Int)
abbrev q134_2 (d:DyD×Unit)(x:Nat):=(U.on (U.jN d.1 x).1 (q134_0 d x).2.2.2.2.1++[(q134_0 d x).2.2.2.1])
abbrev q134_3 (d:DyD×Unit)(x:Nat):=(nth (U.jN d.1 x).1 (q134_0 d x).2.2.2.1.toNat+1*2^(q134_0 d x).2.2.2.2.1.toNat)
abbrev q134_4 (d:DyD×Unit):=(d.1.2.2.1.length:Int)
def jr4:Prop:=∀(d:DyD×Unit),U.wt d.1=0->d.1.2.2.1.length<4611686018427387904->0<=(q134_4 d)/\(q134_4 d)=(q134_4 d)/\(q134_4 d).toNat*8<=140737488355328/\(U.zc d.1).length<=1000/\(∃(x:Nat),((0=(x:Int)/\True/\True/\True)/\List.replicate (q134_4 d).toNat 0=(U.jN d.1 x).1/\(U.jN d.1 x).2=[]/\True)/\x<=(U.zM d.1).length)/\∀(x:Nat),x<=(U.zM d.1).length->(U.zM d.1).length<4611686018427387904->(decide ((x:Int)<(q134_1 d))=true->0<=(x:Int)/\(x:Int)<(q134_1 d)/\0<=(x:Int)/\(x:Int)<(q134_1 d)/\(U.jN d.1 x).1.length<=1000/\((0:Int)<=(q134_0 d x).2.2.2.2.1/\(q134_0 d x).2.2.2.2.1<=63)/\0<=(x:Int)/\(x:Int)<(q134_1 d)/\((U.on (U.jN d.1 x).1 (q134_0 d x).2.2.2.2.1).length+[(q134_0 d x).2.2.2.1].length)*8<=140737488355328/\U.jcw d.1/\U.ji1 d.1 (q134_0 d x).2.2.2.2.1/\U.jcx d.1 (q134_2 d x)/\(U.kG d.1 (q134_0 d x).2.2.2.2.1 (q134_2 d x)=true->0<=(x:Int)/\(x:Int)<(q134_1 d)/\(0:Int)<=(q134_0 d x).2.2.2.1/\(q134_0 d x).2.2.2.1<(↑(U.jN d.1 x).1.length:Int)/\0<=(x:Int)/\(x:Int)<(q134_1 d)/\(0:Int)<=(q134_0 d x).2.2.2.2.1/\(q134_0 d x).2.2.2.2.1<=18446744073709551615/\(0:Int)<=(q134_0 d x).2.2.2.2.1/\(q134_0 d x).2.2.2.2.1<=64/\jz ((1:Int)*2^(q134_0 d x).2.2.2.2.1.toNat)/\jz (q134_3 d x)/\(0:Int)<=(q134_0 d x).2.2.2.1/\(q134_0 d x).2.2.2.1<(↑(U.jN d.1 x).1.length:Int)/\jz ((x:Int)+1)/\∃(a:Nat),((True/\True/\(x:Int)+1=(a:Int)/\True)/\(U.jN d.1 x).2=(U.jN d.1 a).2/\(U.jN d.1 x).1.set (q134_0 d x).2.2.2.1.toNat (q134_3 d x)=(U.jN d.1 a).1/\True)/\a<=(U.zM d.1).length/\(U.zM d.1).length-a<(U.zM d.1).length-x)/\(U.kG d.1 (q134_0 d x).2.2.2.2.1 (q134_2 d x)=false->0<=(x:Int)/\(x:Int)<(q134_1 d)/\((U.jN d.1 x).2.length+[(q134_0 d x).1].length)*8<=140737488355328/\jz ((x:Int)+1)/\∃(a:Nat),((True/\(x:Int)+1=(a:Int)/\True/\True)/\(U.jN d.1 x).2++[(q134_0 d x).1]=(U.jN d.1 a).2/\(U.jN d.1 x).1=(U.jN d.1 a).1/\True)/\a<=(U.zM d.1).length/\(U.zM d.1).length-a<(U.zM d.1).length-x))/\(decide ((x:Int)<(q134_1 d))=false->((U.jN d.1 x).1,(U.jN d.1 x).2,())=((U.jiq d.1).1,(U.jiq d.1).2,()))
def jsF:j9:=⟨[.val tDy],[.slice .int,.int],false,fun d=>[(U.ju d.1).length<=1000000],fun d=>(U.jC d.1,U.wt d.1,())⟩
def jr7:Prop:=∀(d:DyD×Unit),(U.ju d.1).length<=1000000->(U.ju d.1).length<=1000000/\(decide (U.wt d.1≠0)=true->([],U.wt d.1,())=(U.jC d.1,U.wt d.1,()))/\(decide (U.wt d.1≠0)=false->U.wt d.1=0/\((U.jiq d.1).1,(0:Int),())=(U.jC d.1,U.wt d.1,()))
end Go.X
namespace Go.X
open Go.Proofs
theorem jxt:jsa:=by
 rintro⟨l,p,⟨⟩⟩ e j;have e:l.length<=1000:=e;refine⟨⟨0,⟨⟨rfl,trivial,trivial⟩,rfl,trivial⟩,jHR _⟩,fun x g _=>⟨fun h=> ?_,fun h=> ?_⟩⟩
 .have h:(x:Int)<(l.length:Int):=of_decide_eq_true h;have b:=jql l p x;have f:=jn9 l p x;have i:x+1<=l.length:=(by omega);have d:l.length-(x+1)<l.length-x:=(by omega);refine⟨by omega,h,j,fun a=>⟨?_,L.in64 (by omega) (by omega),x+1,⟨⟨by simp,trivial,trivial⟩,?_,trivial⟩,i,d⟩,fun a=>⟨L.in64 (by omega) (by omega),x+1,⟨⟨trivial,by simp,trivial⟩,?_,trivial⟩,i,d⟩⟩
  .show((U.vp l p x).length+1)*8<=140737488355328;omega
  .have a:U.jR (nth l x) p=true:=a;rw[if_pos a] at b;exact b.symm
  .have a:U.jR (nth l x) p=false:=a;rw[if_neg (by rw[a];simp),jIc] at b;exact b.symm
 .have h:¬(x:Int)<(l.length:Int):=of_decide_eq_false h;have g:x<=l.length:=g;have c:x=l.length:=(by omega);subst c;exact⟨rfl,rfl⟩
theorem jtn:qb PR 61 jsT:=jdY juz jxt Tryz.func61 (kcC vu kcN) koN
theorem jxq:jr7:=by
 rintro⟨d,⟨⟩⟩ a;refine⟨a,fun h=> ?_,fun h=> ?_⟩
 .have h:U.wt d≠0:=of_decide_eq_true h;show([],U.wt d,())=(U.jC d,U.wt d,());unfold U.jC;rw[if_neg h]
 .have h:U.wt d=0:=Classical.not_not.1 (of_decide_eq_false h);refine⟨h,?_⟩;show((U.jiq d).1,(0:Int),())=(U.jC d,U.wt d,());unfold U.jC;rw[if_pos h,h]
end Go.X
namespace Go.X
theorem jhg (l:List ShD) (n:Nat):U.jO l (n+1)=if U.zP (nth l (U.jO l n)) (nth l n)=true then n else U.jO l n:=by
 unfold U.jO;rw[jIe,jH8];rfl
theorem jde (l:List ShD):∀n,n<=l.length->0<l.length->U.jO l n<l.length
 |0,_,h=>h
 |n+1,a,h=>by
  have b:=jde l n (by omega) h
  rw[jhg]
  split<;>omega
theorem jc3 (l:List ShD):∀n,n<=l.length->(U.jm l n).1.length=n/\(U.jm l n).2.length=l.length-n
 |0,_=>⟨rfl,rfl⟩
 |n+1,d=>by
  obtain⟨a,b⟩:=jc3 l n (by omega)
  have c:=jde (U.jm l n).2 _ (jHM _) (by omega)
  refine⟨?_,?_⟩
  .show((U.jm l n).1++[_]).length=_
   rw[jH2,a];rfl
  .show((U.jm l n).2.take _++(U.jm l n).2.drop _).length=_
   rw[jH2,jH6,jIy]
   omega
theorem jvF {α:Type} [Inhabited α] {l:List α} {m:Nat} (h:m<l.length):(nth l m::(l.take m++l.drop (m+1))).Perm l:=by
 have e:l=l.take m++nth l m::l.drop (m+1):=by
  conv=>lhs;rw[<-jI5 m l]
  rw[List.drop_eq_getElem_cons h,L.nth_lt h]
 conv=>rhs;rw[e]
 exact List.perm_middle.symm
theorem jjN (l:List ShD):∀n,n<=l.length->((U.jm l n).1++(U.jm l n).2).Perm l
 |0,_=>List.Perm.refl _
 |n+1,d=>by
  have b:=jjN l n (by omega)
  have c:=jc3 l n (by omega)
  have a:=jde (U.jm l n).2 _ (jHM _) (by omega)
  refine List.Perm.trans ?_ b
  show((U.jm l n).1++[nth (U.jm l n).2 (U.jO (U.jm l n).2 (U.jm l n).2.length)]++_).Perm _
  rw[jH3]
  exact List.Perm.append_left _ (jvF a)
theorem jnH {d:DyD} {n:Nat} (h:n<(U.zM d).length):U.jN d (n+1)=U.qW d (U.jN d n) (nth (U.zM d) n):=by
 unfold U.jN;rw[L.take_succ h,jH8];rfl
theorem jjj {d:DyD} {s:ShD} (h:s∈U.zM d):s∈U.jk (U.zc d):=by
 have b:=jjN (U.ya d) (U.ya d).length (jHM _);have a:s∈U.ya d:=b.mem_iff.1 (jHJ _ h);unfold U.ya U.jA at a;obtain⟨i,hi,rfl⟩:=jIk.1 a;exact L.mem_nth (jHZ.1 (jH7.1 hi).1)
theorem jds {l:List ShD} {s:ShD} (h:s∈U.jk l):s∈l:=by
 unfold U.jk U.kB at h;obtain⟨m,_,h⟩:=List.mem_flatMap.1 h;unfold U.yF at h;obtain⟨i,hi,rfl⟩:=jIk.1 h;exact L.mem_nth (jHZ.1 (jH7.1 hi).1)
theorem jyP {d:DyD} (k:U.zK d=true) (j:U.js (U.jc d)=true):∀n,n<=(U.zM d).length->(U.jN d n).1.length=(U.ju d).length/\(U.jN d n).2.length<=n/\∀b,b<(U.ju d).length->0<=nth (U.jN d n).1 b/\nth (U.jN d n).1 b<=128*(n:Int)
 |0,_=>by
  refine⟨jIG,jHR _,fun b a=> ?_⟩
  have:nth (U.jN d 0).1 b=0:=L.nth_rep a
  rw[this];exact⟨jIA 0,jIA 0⟩
 |n+1,s=>by
  obtain⟨g,q,h⟩:=jyP k j n (by omega)
  have p:=jc2 k (jds (jjj (L.mem_nth (l:=U.zM d) (i:=n) (by omega))))
  have r:(U.jh (U.jc d)).length<=8:=(jy j).2.2.1
  have o:(2:Int)^(U.qo (nth (U.zM d) n)).toNat<=128:=by
   rw[BT.two_nat];have:(2:Nat)^(U.qo (nth (U.zM d) n)).toNat<=2^7:=jIZ (by decide) (by omega);omega
  have m:(0:Int)<(2:Int)^(U.qo (nth (U.zM d) n)).toNat:=by
   rw[BT.two_nat];have:=Nat.two_pow_pos (U.qo (nth (U.zM d) n)).toNat;omega
  have f:(U.jbU (nth (U.zM d) n)).toNat<(U.jN d n).1.length:=by
   have:=p.2;unfold U.kr at this;omega
  rw[jnH (by omega)];unfold U.qW
  split
  .refine⟨by show((U.jN d n).1.set _ _).length=_;rw[jI9,g],by show(U.jN d n).2.length<=_;omega,fun b a=> ?_⟩;show 0<=nth ((U.jN d n).1.set _ _) b/\nth ((U.jN d n).1.set _ _) b<=_;rw[L.nth_set f];have c:=h b a
   split
   .rename_i e;rw[e];omega
   .omega
  .refine⟨g,by show((U.jN d n).2++[_]).length<=_;rw[jH2];simp;omega,fun b a=> ?_⟩;have c:=h b a;show 0<=nth (U.jN d n).1 b/\nth (U.jN d n).1 b<=_;omega
end Go.X
namespace Go.X
open Go.Proofs
theorem jd5 {d:DyD} (h:U.wt d=0):U.jcw d:=(zO ((qz d).trans h)).1
theorem jzK {t:List Int} {p b:Int} (h:b∈U.on t p):0<=b/\b<(t.length:Int):=by
 unfold U.on U.vp at h;obtain⟨i,hi,rfl⟩:=jIk.1 h;have:=jHZ.1 (jH7.1 hi).1;omega
theorem jEc (d:DyD):(U.zM d).length<=(U.zc d).length*100:=by
 have a:=(jc3 (U.ya d) (U.ya d).length (jHM _)).1;have b:(U.ya d).length<=(U.jk (U.zc d)).length:=by
  unfold U.ya U.jA;rw[jIL];exact jHW (jIH _ _) (by simp)
 have c:(U.jk (U.zc d)).length<=(U.zc d).length*100:=jdt _ 100;show(U.jm (U.ya d) (U.ya d).length).1.length<=_;omega
theorem jzL (t:List Int) (p:Int):(U.on t p).length<=t.length:=jn9 t p t.length
theorem juN (d:DyD):U.jN d 0=(List.replicate ((U.ju d).length:Int).toNat 0,[]):=rfl
attribute [local irreducible] U.zM U.jN U.kG U.on
theorem jxn:jr4:=by
 unfold jr4 q134_4 q134_3 q134_2 q134_1 q134_0;rintro⟨d,⟨⟩⟩ m _;have m:U.wt d=0:=m;have a:=jd5 m;have A:(U.ju d).length<=4:=(zb a.2.2).1;have z:(U.zc d).length<=30:=(zb a.2.2).2.2.2.2.1;have G:(U.jh (U.jc d)).length<=8:=(jy a.1).2.2.1;refine⟨jH4 _,rfl,by show((U.ju d).length:Int).toNat*8<=140737488355328;omega,by show(U.zc d).length<=1000;omega,⟨0,⟨⟨rfl,trivial,trivial,trivial⟩,(congrArg (·.1) (juN d)).symm,congrArg (·.2) (juN d),trivial⟩,jHR _⟩,fun x w B=>⟨fun h=> ?_,fun h=> ?_⟩⟩
 .have h:(x:Int)<((U.zM d).length:Int):=of_decide_eq_true h;have D:=jEc d;have B:(U.zM d).length<=3000:=(by omega);obtain⟨E,I,F⟩:=jyP a.2.2 a.1 x (by omega);have g:=jc2 a.2.2 (jds (jjj (L.mem_nth (l:=U.zM d) (i:=x) (by omega))));have o:=g.2;unfold U.kr at o;have H:=F (U.jbU (nth (U.zM d) x)).toNat (by omega);have j:=jnH (d:=d) (n:=x) (by omega);have J:=jzL (U.jN d x).1 (U.qo (nth (U.zM d) x));have v:BT.Set' ((2:Int)^(U.qo (nth (U.zM d) x)).toNat):=BT.two_set (by omega);unfold BT.Set' at v;have y:x+1<=(U.zM d).length:=(by omega);have u:(U.zM d).length-(x+1)<(U.zM d).length-x:=(by omega);have x0:(0:Int)<=(x:Int):=jH4 x;have q:0<=U.qo (nth (U.zM d) x):=g.1.1;have r:U.qo (nth (U.zM d) x)<=63:=(by omega);have s:U.qo (nth (U.zM d) x)<=64:=(by omega);have k:U.qo (nth (U.zM d) x)<=18446744073709551615:=(by omega);have t:U.jbU (nth (U.zM d) x)<((U.jN d x).1.length:Int):=(by omega);have i64:jz ((x:Int)+1):=L.in64 (by omega) (by omega);refine⟨x0,h,x0,h,by show(U.jN d x).1.length<=1000;omega,⟨q,r⟩,x0,h,by show((U.on (U.jN d x).1 (U.qo (nth (U.zM d) x))).length+1)*8<=140737488355328;omega,a,g.1,⟨?_,fun b f=> ?_⟩,fun c=> ?_,fun c=> ?_⟩
  .show(U.on (U.jN d x).1 (U.qo (nth (U.zM d) x))++[U.jbU (nth (U.zM d) x)]).length<=12;rw[jH2];simp;omega
  .rcases jHT.1 f with f|f
   .have:=jzK f;exact⟨this.1,by show b<((U.ju d).length:Int);rw[<-E];exact this.2⟩
   .simp at f;subst f;exact g.2
  .have c:U.kG d (U.qo (nth (U.zM d) x)) (U.on (U.jN d x).1 (U.qo (nth (U.zM d) x))++[U.jbU (nth (U.zM d) x)])=true:=c;have e:U.jN d (x+1)=((U.jN d x).1.set (U.jbU (nth (U.zM d) x)).toNat (nth (U.jN d x).1 (U.jbU (nth (U.zM d) x)).toNat+2^(U.qo (nth (U.zM d) x)).toNat),(U.jN d x).2):=by
    rw[j];unfold U.qW;rw[if_pos c]
   have C:(2:Int)^(U.qo (nth (U.zM d) x)).toNat<4611686018427387904:=v.2;refine⟨x0,h,g.2.1,t,x0,h,q,k,q,s,?_,?_,g.2.1,t,i64,x+1,⟨⟨trivial,trivial,by simp,trivial⟩,?_,?_,trivial⟩,y,u⟩
   .show jz (1*2^(U.qo (nth (U.zM d) x)).toNat);rw[wj];exact L.in64 (by omega) (by omega)
   .show jz (nth (U.jN d x).1 (U.jbU (nth (U.zM d) x)).toNat+1*2^(U.qo (nth (U.zM d) x)).toNat);rw[wj];exact L.in64 (by omega) (by omega)
   .show(U.jN d x).2=(U.jN d (x+1)).2;rw[e]
   .show(U.jN d x).1.set (U.jbU (nth (U.zM d) x)).toNat (nth (U.jN d x).1 (U.jbU (nth (U.zM d) x)).toNat+1*2^(U.qo (nth (U.zM d) x)).toNat)=(U.jN d (x+1)).1;rw[wj,e]
  .have c:U.kG d (U.qo (nth (U.zM d) x)) (U.on (U.jN d x).1 (U.qo (nth (U.zM d) x))++[U.jbU (nth (U.zM d) x)])=false:=c;have e:U.jN d (x+1)=((U.jN d x).1,(U.jN d x).2++[U.wI (nth (U.zM d) x)]):=by
    rw[j];unfold U.qW;rw[c,if_neg (by simp)]
   refine⟨x0,h,by show((U.jN d x).2.length+1)*8<=140737488355328;omega,i64,x+1,⟨⟨trivial,by simp,trivial,trivial⟩,?_,?_,trivial⟩,y,u⟩
   .show(U.jN d x).2++[U.wI (nth (U.zM d) x)]=(U.jN d (x+1)).2;rw[e]
   .show(U.jN d x).1=(U.jN d (x+1)).1;rw[e]
 .have h:¬(x:Int)<((U.zM d).length:Int):=of_decide_eq_false h;have w:x<=(U.zM d).length:=w;have p:x=(U.zM d).length:=(by omega);subst p;rfl
end Go.X
namespace Go.X
theorem jdw (c:CrD) (j:JbD) (i:Nat):(U.kY (c,j,U.yM c j,()) (nth (U.jh c) i)=0)↔U.zy c j (i:Int)=true:=by
 show U.jwk (U.yf (nth (U.jh c) i) (U.jBT j)) (!U.jR (U.fd (nth (U.jh c) i)) (U.jtB j)) (!U.jR (U.cl (nth (U.jh c) i)) (U.jrQ j))=0↔
  (!(U.yf (nth (U.jh c) ((i:Int)).toNat) (U.jBT j))&&U.jR (U.fd (nth (U.jh c) ((i:Int)).toNat)) (U.jtB j)&&U.jR (U.cl (nth (U.jh c) ((i:Int)).toNat)) (U.jrQ j))=true
 rw[jHQ];generalize U.yf (nth (U.jh c) i) (U.jBT j)=x;generalize U.jR (U.fd (nth (U.jh c) i)) (U.jtB j)=y;generalize U.jR (U.cl (nth (U.jh c) i)) (U.jrQ j)=z;cases x<;>cases y<;>cases z<;>decide
theorem jET {c:CrD} {j:JbD} (b:U.js c=true) (d:U.za c j=true) (p:Nat):(p:Int)∈U.kI c j↔p<(U.jh c).length/\U.zy c j (p:Int)=true:=by
 have a:U.kl c j=0:=(by unfold U.kl;rw[b,d];rfl);unfold U.kI U.yy;rw[if_pos a,jIk];refine⟨fun⟨i,hi,e⟩=> ?_,fun h=>⟨p,?_,rfl⟩⟩
 .have e:i=p:=(by omega);subst e;have:=jH7.1 hi;exact⟨jHZ.1 this.1,(jdw c j i).1 (of_decide_eq_true this.2)⟩
 .exact jH7.2 ⟨jHZ.2 h.1,decide_eq_true ((jdw c j p).2 h.2)⟩
theorem jy9 {l:List Int} (h:∀p∈l,0<=p/\p<8):∀n,n<=l.length->∀q,BT.has (U.jB l n) q=(l.take n).any (fun p=>decide (p.toNat=q))
 |0,_,q=>BT.has_zero q
 |n+1,c,q=>by
  have b:=jy9 h n (by omega) q
  have a:=yi h n (by omega)
  have d:=h _ (L.mem_nth (l:=l) (i:=n) (by omega))
  rw[gR (by omega),wj,BT.has_bor a.1 (BT.two_set (by omega)),b,BT.has_two,L.take_succ (by omega),List.any_append]
  simp
theorem jpZ {l:List Int} (h:∀p∈l,0<=p/\p<8) (q:Nat):BT.has (U.juR l) q=l.any (fun p=>decide (p.toNat=q)):=by
 have:=jy9 h l.length (jHM _) q;rw[jIO] at this;exact this
theorem jCx {d:DyD} {b:Nat} (a:b<(U.ju d).length):nth (U.jT d (U.ju d).length) b=U.juR (U.kI (U.jc d) (U.yG (nth (U.ju d) b))):=by
 unfold U.jT;rw[jIO,L.nth_map a]
theorem jAo {d:DyD} (a:U.jcw d) {b:Nat} (c:b<(U.ju d).length):U.za (U.jc d) (U.yG (nth (U.ju d) b))=true:=
 jIl.1 a.2.1 _ (L.mem_nth c)
theorem jEU {d:DyD} (g:U.jcw d) {b p:Int} (m:U.kr d b) (n:U.ji1 d p):decide (qL (nth (U.jT d (U.ju d).length) b.toNat/2^p.toNat) 1=0)= !U.zy (U.jc d) (U.yG (U.bk d b)) p:=by
 unfold U.kr at m;unfold U.ji1 at n;have a:b.toNat<(U.ju d).length:=(by omega);have j:=fun q (c:q∈U.kI (U.jc d) (U.yG (nth (U.ju d) b.toNat)))=>jty g.1 c
 have o:BT.Set' (U.juR (U.kI (U.jc d) (U.yG (nth (U.ju d) b.toNat)))):=(yi j _ (jHM _)).1;have i:U.bk d b=nth (U.ju d) b.toNat:=rfl;rw[jCx a,BT.bit_num o,i];have k:=jpZ j p.toNat;have f:=jET g.1 (jAo g a) p.toNat;have ep:((p.toNat:Nat):Int)=p:=(by omega);rw[ep] at f;have l:BT.has (U.juR (U.kI (U.jc d) (U.yG (nth (U.ju d) b.toNat)))) p.toNat=U.zy (U.jc d) (U.yG (nth (U.ju d) b.toNat)) p:=by
  rw[k];cases h:U.zy (U.jc d) (U.yG (nth (U.ju d) b.toNat)) p with
  |true=>exact jIn.2 ⟨p,f.2 ⟨by omega,h⟩,by simp⟩
  |false=>
   refine jIv.2 fun q c e=> ?_
   have e:q.toNat=p.toNat:=of_decide_eq_true e;have:=j q c;have e:q=p:=(by omega);rw[e] at c;rw[(f.1 c).2] at h;cases h
 rw[l];cases U.zy (U.jc d) (U.yG (nth (U.ju d) b.toNat)) p<;>rfl
theorem jqe {α:Type} [Inhabited α] {R:α->α->Prop} {l:List α}:(∀i,i<l.length->∀b∈l.take i,R b (nth l i))↔l.Pairwise R:=by
 rw[jIM];refine⟨fun h i j hi a d=> ?_,fun h i hi b c=> ?_⟩
 .have:=h j a l[i] (jIr.2 ⟨i,by omega,rfl⟩);rw[L.nth_lt a] at this;exact this
 .obtain⟨k,hk,rfl⟩:=jIr.1 c;rw[L.nth_lt hi];exact h k i (by omega) hi (by omega)
theorem jzy {α:Type} [Inhabited α] {R:α->α->Prop} {l:List α}:(∀i,i<l.length->∀b∈l.drop (i+1),R (nth l i) b)↔l.Pairwise R:=by
 rw[jIM];refine⟨fun h i j hi d c=> ?_,fun h i hi b a=> ?_⟩
 .have:=h i hi l[j] (List.mem_drop_iff_getElem.2 ⟨j-(i+1),by omega,by congr 1;omega⟩);rw[L.nth_lt hi] at this;exact this
 .obtain⟨k,hk,rfl⟩:=List.mem_drop_iff_getElem.1 a;rw[L.nth_lt hi];exact h i (i+1+k) hi (by omega) (by omega)
theorem jcX (d:DyD) (a b:Int):U.wQ d a b=true↔(U.ve (U.bk d a)<U.ve (U.bk d b)\/(U.ve (U.bk d a)=U.ve (U.bk d b)/\a<b)):=decide_eq_true_iff
theorem jaD (d:DyD) (a b:Int):U.wQ d a b=false↔¬(U.ve (U.bk d a)<U.ve (U.bk d b)\/(U.ve (U.bk d a)=U.ve (U.bk d b)/\a<b)):=decide_eq_false_iff_not
theorem jrE (d:DyD) (l:List Int):wc (U.wQ d) l where
 irrefl x _:=(jaD d x x).2 (by omega)
 trans x y z _ _ _ a b:=by
  have a:=(jcX d x y).1 a;have b:=(jcX d y z).1 b;exact(jcX d x z).2 (by omega)
 total x y _ _ a b:=by
  have a:=(jaD d x y).1 a;have b:=(jaD d y x).1 b;omega
theorem jlw {d:DyD} {a b:Int} (h:a≠b) (c:U.wQ d b a=false):U.wQ d a b=true:=by
 have c:=(jaD d b a).1 c;exact(jcX d a b).2 (by omega)
theorem jyg {d:DyD} {a b:Int} (c:U.wQ d a b=true):U.wQ d b a=false:=by
 have c:=(jcX d a b).1 c;exact(jaD d b a).2 (by omega)
theorem jfz {d:DyD} {a b:Int} (h:U.wQ d a b=true):(U.j0 d b a=decide (0<=U.qj d a b))/\(U.j0 d a b=decide (0<=U.qj d a b)):=by
 unfold U.j0;rw[if_pos h,jyg h,if_neg (by simp)];exact⟨rfl,rfl⟩
theorem jB1 {d:DyD} {a b:Int} (h:a≠b):U.j0 d a b=U.j0 d b a:=by
 cases c:U.wQ d b a with
 |false=>have:=jfz (jlw h c);rw[this.1,this.2]
 |true=>have:=jfz c;rw[this.1,this.2]
def TgR (d:DyD) (a b:Int):Prop:=a≠b->U.j0 d b a=true
theorem jzx {d:DyD} {l:List Int} (f:l.Nodup):U.jDJ d l=true↔l.Pairwise (TgR d):=by
 rw[<-jqe];unfold U.jDJ;rw[jIl];have e:∀i,i<l.length->∀b∈l.take i,b≠nth l i:=(jqe (R:=fun a b=>a≠b)).2 f;refine⟨fun h i hi b c _=> ?_,fun h i hi=>jIl.2 fun b c=> ?_⟩
 .exact jIl.1 (h i (jHZ.2 hi)) b c
 .exact h i (jHZ.1 hi) b c (e i (jHZ.1 hi) b c)
theorem TgR.symm {d:DyD} {a b:Int} (h:TgR d a b):TgR d b a:=fun e=>(jB1 (Ne.symm e)).trans (h (Ne.symm e))
theorem jAa {d:DyD} {l l':List Int} (h:l.Perm l'):U.jon d l=U.jon d l':=by
 unfold U.jon;exact List.Perm.foldl_eq' (h.map _) (fun x _ y _ z=>by omega) 0
theorem joW (d:DyD) (p:Int) {l:List Int} (a:l.Nodup):U.kG d p l=true↔(∀b∈l,U.zy (U.jc d) (U.yG (U.bk d b)) p=true)/\l.Pairwise (TgR d)/\U.jon d l<=U.jCB d:=by
 unfold U.kG;rw[jHK,jHK,jIl,jzx a,decide_eq_true_iff]
theorem jnh (d:DyD) (p:Int) {l l':List Int} (h:l.Perm l') (g:l.Nodup):U.kG d p l=U.kG d p l':=by
 have f:=h.nodup_iff.1 g;refine jId.2 ?_;rw[joW d p g,joW d p f,jAa h,h.pairwise_iff (fun h=>TgR.symm h)];exact⟨fun⟨a,c⟩=>⟨fun b e=>a b (h.mem_iff.2 e),c⟩,fun⟨a,c⟩=>⟨fun b e=>a b (h.mem_iff.1 e),c⟩⟩
theorem jDg (d:DyD) (may:List Int) (p:Int) (s:List Int):U.jFr d may p s=true↔(∀b∈s,decide (qL (nth may b.toNat/2^p.toNat) 1=0)=false)/\s.Pairwise (fun a b=>0<=U.qj d a b)/\U.jon d s<=U.jCB d:=by
 rw[<-jzy];unfold U.jFr;rw[jHK,decide_eq_true_iff,jIl,<-and_assoc];refine and_congr_left fun _=> ?_
 have e:∀i,U.joh d may p s i=true↔decide (qL (nth may (nth s i).toNat/2^p.toNat) 1=0)=false/\∀b∈s.drop (i+1),0<=U.qj d (nth s i) b:=by
  intro i;unfold U.joh;rw[jIj,jIg,jIv];refine and_congr_right fun _=>⟨fun h b c=> ?_,fun h b c=> ?_⟩
  .have:=h b c;simp at this;omega
  .have:=h b c;simp;omega
 refine⟨fun h=>⟨fun b c=> ?_,fun i hi=>((e i).1 (h i (jHZ.2 hi))).2⟩,fun h i hi=>(e i).2 ⟨h.1 _ (L.mem_nth (jHZ.1 hi)),h.2 i (jHZ.1 hi)⟩⟩;obtain⟨i,hi,rfl⟩:=L.mem_iff.1 c;exact((e i).1 (h i (jHZ.2 hi))).1
theorem jFs {d:DyD} {may:List Int} {p:Int} {l:List Int} (m:l.Nodup) (j:∀b∈l,decide (qL (nth may b.toNat/2^p.toNat) 1=0)= !U.zy (U.jc d) (U.yG (U.bk d b)) p):U.jun d may p l=U.kG d p l:=by
 have f:(U.jg d l).Perm l:=zB l;have c:(U.jg d l).Nodup:=f.nodup_iff.2 m;have k:(U.jg d l).Pairwise (fun a b=>U.wQ d b a=false):=gM (jrE d l);rw[<-jnh d p f c];unfold U.jun;refine jId.2 ?_;rw[jDg,joW d p c];have i:=List.Pairwise.and k c;refine and_congr ⟨fun h b e=> ?_,fun h b e=> ?_⟩ (and_congr_left fun _=>⟨fun h=> ?_,fun h=> ?_⟩)
 .have g:=h b e;rw[j b (f.mem_iff.1 e)] at g;simpa using g
 .rw[j b (f.mem_iff.1 e),h b e];rfl
 .refine(List.Pairwise.and i h).imp fun{a b} x _=> ?_
  rw[(jfz (jlw x.1.2 x.1.1)).1];exact decide_eq_true x.2
 .refine(List.Pairwise.and i h).imp fun{a b} x=> ?_
  have:=x.2 x.1.2;rw[(jfz (jlw x.1.2 x.1.1)).1] at this;exact of_decide_eq_true this
end Go.X
namespace Go.X
theorem jcA (a b:ShD):U.zP a b=true↔(U.jly b<U.jly a\/(U.jly a=U.jly b/\U.wI b<U.wI a)):=decide_eq_true_iff
theorem jf9 (a b:ShD):U.zP a b=false↔¬(U.jly b<U.jly a\/(U.jly a=U.jly b/\U.wI b<U.wI a)):=decide_eq_false_iff_not
theorem yZ (a:ShD):U.zP a a=false:=(jf9 a a).2 (by omega)
theorem jmU {a b:ShD} (h:U.zP a b=true):U.zP b a=false:=by
 have h:=(jcA a b).1 h;exact(jf9 b a).2 (by omega)
theorem jky {a b c:ShD} (d:U.zP a b=true) (e:U.zP b c=true):U.zP a c=true:=by
 have d:=(jcA a b).1 d;have e:=(jcA b c).1 e;exact(jcA a c).2 (by omega)
theorem jDe (a b:ShD):U.jF a b<0↔U.zP b a=true:=by
 rw[jcA];unfold U.jF;rw[zJ,wM]
 split
 .rename_i h;have c:¬U.jly a=U.jly b:=fun e=>h (vY.2 e)
  rw[jBn];omega
 .rename_i h;have d:U.jly a=U.jly b:=vY.1 (Classical.not_not.1 h);rw[jBn];omega
theorem jFB {l:List ShD} (hi:∀a∈l,∀b∈l,U.wI a=U.wI b->a=b):wc U.jFA l where
 irrefl x _:=yZ x
 trans x y z _ _ _ c d:=jky d c
 total x y hx hy c d:=by
  have c:=(jf9 y x).1 c;have d:=(jf9 x y).1 d;exact hi x hx y hy (by omega)
theorem jAY {l:List ShD}:∀i,i<l.length->∃j,j<l.length/\nth l j=nth l i/\U.jcR l j=true:=by
 intro i
 induction i using Nat.strongRecOn with
 |_ i f=>
  intro hi;cases h:U.jcR l i with
  |true=>exact⟨i,hi,rfl,h⟩
  |false=>
   simp only[U.jcR,jIC] at h;obtain⟨x,d,e⟩:=jIn.1 h;obtain⟨k,hk,rfl⟩:=jIr.1 d;have e:l[k]=nth l i:=of_decide_eq_true e;obtain⟨j,c,a,b⟩:=f k (by omega) (by omega);exact⟨j,c,by rw[a,L.nth_lt (by omega)];exact e,b⟩
theorem jFh {l:List ShD} {s:ShD} (h:s∈l) (d:0<=U.wI s) (e:U.wI s<=99):s∈U.jk l:=by
 obtain⟨i,hi,rfl⟩:=L.mem_iff.1 h;obtain⟨j,c,a,b⟩:=jAY i hi;unfold U.jk U.kB;refine List.mem_flatMap.2 ⟨(U.wI (nth l i)).toNat,jHZ.2 (by omega),?_⟩;unfold U.yF;refine jIk.2 ⟨j,jH7.2 ⟨jHZ.2 c,?_⟩,a⟩;show(decide (U.wI (nth l j)=(((U.wI (nth l i)).toNat:Nat):Int))&&U.jcR l j)=true;rw[b,a,Bool.and_true];exact decide_eq_true (by omega)
theorem jvK {l:List ShD} {n m:Nat} {s:ShD} (h:s∈U.yF l n m):U.wI s=(m:Int):=by
 unfold U.yF at h;obtain⟨i,hi,rfl⟩:=jIk.1 h;have a:=(jH7.1 hi).2;rw[jHK] at a;exact of_decide_eq_true a.1
theorem jne (l:List ShD):(U.jk l).Nodup:=by
 unfold U.jk U.kB;refine List.pairwise_flatMap.2 ⟨fun m _=> ?_,?_⟩
 .unfold U.yF;refine jJa.2 (List.Pairwise.imp_of_mem ?_ (List.Pairwise.filter _ jI4));intro i j hi c k e;have c:=jH7.1 c;have d:=c.2;rw[jHK] at d;have f:=d.2;have n:=jHZ.1 c.1;have o:((l.take j).any (fun x=>decide (x=nth l j)))=true:=
   jIn.2 ⟨nth l i,jIr.2 ⟨i,by omega,(L.nth_lt (by omega)).symm⟩,decide_eq_true e⟩
  unfold U.jcR at f;rw[o] at f;cases f
 .refine List.Pairwise.imp ?_ jI4;intro a b h x p y q e;have g:=jvK p;have d:=jvK q;rw[e] at g;omega
theorem juU (t s:ShD):U.gT t=U.gT s↔U.jbU t=U.jbU s/\U.qo t=U.qo s:=by
 unfold U.gT;refine⟨fun h=>⟨congrArg (·.1) h,congrArg (·.2.1) h⟩,fun h=>by rw[h.1,h.2]⟩
theorem juj (l:List ShD) (s:ShD):U.jjb l s=true↔U.jy6 s=1/\∀t∈l,U.gT t=U.gT s->U.zP t s=false:=by
 unfold U.jjb;rw[jHK,decide_eq_true_iff,jIj,jIv];refine and_congr_right fun _=>⟨fun h t a e=> ?_,fun h t a e=> ?_⟩
 .have e:=(juU t s).1 e;have:=h t a;rw[e.1,e.2,decide_eq_true rfl,decide_eq_true rfl] at this;simpa using this
 .rw[jHK,jHK,decide_eq_true_iff,decide_eq_true_iff] at e;rw[h t a ((juU t s).2 e.1)] at e;exact absurd e.2 (by simp)
theorem jrV (d:DyD):U.ya d=(U.jk (U.zc d)).filter (U.jjb (U.jk (U.zc d))):=by
 unfold U.ya;generalize U.jk (U.zc d)=l;unfold U.jA;have e:(fun i=>U.kO l i l.length)=(U.jjb l)∘(nth l):=by
  funext i;unfold U.kO;rw[jIO];rfl
 rw[e];have:=List.filter_map (f:=nth l) (p:=U.jjb l) (l:=List.range l.length);rw[<-this,L.range_map_nth]
theorem jqG (l:List ShD):∀n,∀i,i<n->U.zP (nth l (U.jO l n)) (nth l i)=false
 |0,i,h=>absurd h (by omega)
 |n+1,i,h=>by
  have b:=jqG l n
  rw[jhg]
  split
  .rename_i a
   rcases Nat.lt_succ_iff_lt_or_eq.1 h with h|h
   .cases c:U.zP (nth l n) (nth l i) with
    |false=>rfl
    |true=>have:=jky a c;rw[b i h] at this;cases this
   .subst h;exact yZ _
  .rename_i a
   rcases Nat.lt_succ_iff_lt_or_eq.1 h with h|h
   .exact b i h
   .subst h;simpa using a
theorem jza (l:List ShD):∀n,n<=l.length->(U.jm l n).1.Pairwise (fun a b=>U.zP a b=false)/\∀a∈(U.jm l n).1,∀b∈(U.jm l n).2,U.zP a b=false
 |0,_=>⟨List.Pairwise.nil,fun a d=>by cases d⟩
 |n+1,m=>by
  obtain⟨j,g⟩:=jza l n (by omega)
  have k:=jc3 l n (by omega)
  have h:=jde (U.jm l n).2 _ (jHM _) (by omega)
  have e:=jqG (U.jm l n).2 (U.jm l n).2.length
  have f:∀b∈(U.jm l n).2.take (U.jO (U.jm l n).2 (U.jm l n).2.length)++(U.jm l n).2.drop (U.jO (U.jm l n).2 (U.jm l n).2.length+1),b∈(U.jm l n).2:=by
   intro b c;rcases jHT.1 c with c|c
   .exact jI7 c
   .exact jI6 c
  refine⟨List.pairwise_append.2 ⟨j,List.pairwise_singleton _ _,fun a d b c=> ?_⟩,fun a d b c=> ?_⟩
  .simp at c;subst c;exact g a d _ (L.mem_nth h)
  .have c:=f b c;have d:a∈(U.jm l n).1++[nth (U.jm l n).2 (U.jO (U.jm l n).2 (U.jm l n).2.length)]:=d;rcases jHT.1 d with d|d
   .exact g a d b c
   .simp at d;subst d;obtain⟨i,hi,rfl⟩:=L.mem_iff.1 c;exact e i hi
theorem jEe (d:DyD):jyi U.jFA (U.zM d):=(jza (U.ya d) _ (jHM _)).1
theorem jnt (d:DyD):(U.zM d).Perm (U.ya d):=by
 have a:=jjN (U.ya d) (U.ya d).length (jHM _);have b:=(jc3 (U.ya d) (U.ya d).length (jHM _)).2;have:(U.jm (U.ya d) (U.ya d).length).2=[]:=List.length_eq_zero_iff.1 (by omega);rw[this,jIc] at a;exact a
theorem jvm {l:List ShD} (i:l.Pairwise (fun a b=>U.zP b a=true)):∀n,n<=l.length->∀s∈l.take n,(wl (Ty.dflt tSh) (zW tSt (U.gT s) (U.zX l n))=s↔∀t∈l.take n,U.gT t=U.gT s->U.zP t s=false)
 |0,_,s,c=>by simp at c
 |n+1,k,s,c=>by
  have j:=jvm i n (by omega)
  have g:(l.take (n+1)).Pairwise (fun a b=>U.zP b a=true):=i.sublist (List.take_sublist _ _)
  rw[L.take_succ (by omega)] at g c
  have f:∀t∈l.take n,U.zP (nth l n) t=true:=fun t d=>(List.pairwise_append.1 g).2.2 t d _ (by simp)
  rw[jkz (by omega),L.take_succ (by omega)]
  by_cases hk:U.gT s=U.gT (nth l n)
  .rw[hk,M.mfind_mput]
   show nth l n=s↔_
   rcases jHT.1 c with c|c
   .refine⟨fun e=> ?_,fun h=> ?_⟩
    .have:=f s c
     rw[e,yZ] at this;cases this
    .have:=h (nth l n) (by simp) rfl
     rw[f s c] at this;cases this
   .simp at c;subst c
    refine⟨fun _ t d _=> ?_,fun _=>rfl⟩
    rcases jHT.1 d with d|d
    .exact jmU (f t d)
    .simp at d;subst d;exact yZ _
  .rw[M.mfind_mput_ne hk]
   have c:s∈l.take n:=by
    rcases jHT.1 c with c|c
    .exact c
    .simp at c;subst c;exact absurd rfl hk
   rw[j s c];refine⟨fun h t d e=> ?_,fun h t d=>h t (jHJ _ d)⟩;rcases jHT.1 d with d|d
   .exact h t d e
   .simp at d;subst d;exact absurd e.symm hk
theorem jy8 {d:DyD} (h:U.jU d=0):(U.ke d).Pairwise (fun a b=>U.zP b a=true):=by
 have f:=jHr h;have g:jyi (U.jl tSh fun x=>(U.jF x.1 x.2.1,())) (U.ke d):=gM f;have e:∀s∈U.ke d,s∈U.zj (U.zc d):=fun s i=>(zB _).mem_iff.1 i
 refine List.Pairwise.imp_of_mem ?_ (List.Pairwise.and g (gQ d));intro a b j k ⟨h1,h2⟩;cases c:U.jl tSh (fun x=>(U.jF x.1 x.2.1,())) a b with
 |false=>exact absurd (f.total a b (e a j) (e b k) c h1) h2
 |true=>
  have c:U.jF a b<0:=of_decide_eq_true c;exact(jDe a b).1 c
theorem jrm {d:DyD} (h:U.jU d=0) {s:ShD} (a:s∈U.ke d):U.kX (U.zX (U.ke d) (U.ke d).length) s=true↔U.jy6 s=1/\∀t∈U.ke d,U.gT t=U.gT s->U.zP t s=false:=by
 have:=jvm (jy8 h) (U.ke d).length (jHM _) s (by rw[jIO];exact a);rw[jIO] at this;rw[<-this];unfold U.kX;rw[jIj,jIg,jIC,jIC,decide_eq_true_iff,decide_eq_true_iff];exact and_comm
theorem jpY {d:DyD} (h:U.zK d=true) {s:ShD} (a:s∈U.zc d):0<=U.wI s/\U.wI s<=99:=by
 have:=(zb h).2.2.2.2.2.2.2 _ a;unfold U.jcv at this;have:=of_decide_eq_true this;omega
def jBV (d:DyD):ShD->Bool:=U.kX (U.zX (U.ke d) (U.ke d).length)
theorem jFY {d:DyD} (h:U.jU d=0):(U.ke d).filter (jBV d)=U.zM d:=by
 have j:=zO h;have f:∀s,s∈U.jk (U.zc d)↔s∈U.ke d:=fun s=>⟨fun c=>jaR.2 (jds c),fun c=>by
  have c:=jaR.1 c;have:=jpY j.1.2.2 c;exact jFh c this.1 this.2⟩
 have g:∀s,s∈(U.ke d).filter (jBV d)↔s∈U.zM d:=by
  intro s;rw[(jnt d).mem_iff,jrV,jH7,jH7,f s];refine and_congr_right fun c=> ?_
  rw[juj];have:=jrm h c;refine this.trans (and_congr_right fun _=>⟨fun h t i=>h t ((f t).1 i),fun h t i=>h t ((f t).2 i)⟩)
 have n:((U.ke d).filter (jBV d)).Nodup:=List.Pairwise.filter _ (gQ d);have o:(U.zM d).Nodup:=(jnt d).nodup_iff.2 (by rw[jrV];exact List.Pairwise.filter _ (jne _));have m:=L.perm_of_nodup n o g;refine je8 (jFB ?_) m ?_ (jEe d)
 .intro a k b l e;exact j.2 a (jaR.1 (jH7.1 k).1) b (jaR.1 (jH7.1 l).1) e
 .exact(List.Pairwise.filter _ (jy8 h)).imp fun x=>jmU x
end Go.X
namespace Go.X
namespace U
def jwM (r:List Int) (m n:Nat):List Int:=(r.take n).filter (fun x=>decide (x=(m:Int)))
def gW (r:List Int) (n:Nat):List Int:=(List.range n).flatMap (fun m=>jwM r m r.length)
end U
structure jmp (d:DyD) (x:List (List Int)×List Int) (y:List Int×List Int):Prop where
 ref:x.2=y.2
 len:y.1.length=(U.ju d).length
 set:∀b,b<(U.ju d).length->BT.Set' (nth y.1 b)
 bit:∀b,b<(U.ju d).length->∀p,BT.has (nth y.1 b) p=true↔p<(U.jh (U.jc d)).length/\(b:Int)∈nth x.1 p
theorem ja5 {t:Int} (h:BT.Set' t) (p:Int):U.jR t p=BT.has t p.toNat:=BT.has_shr h p.toNat
theorem jF9 {d:DyD} {x:List (List Int)×List Int} {y:List Int×List Int} (h:jmp d x y) {p:Int} (k:U.ji1 d p) (j:∀b∈nth x.1 p.toNat,U.kr d b) (n:Int):n∈U.on y.1 p↔n∈nth x.1 p.toNat:=by
 unfold U.ji1 at k;unfold U.on U.vp;rw[jIk];refine⟨fun⟨i,hi,e⟩=> ?_,fun g=> ?_⟩
 .subst e;have hi:=jH7.1 hi;have a:=jHZ.1 hi.1;rw[h.len] at a;have f:U.jR (nth y.1 i) p=true:=hi.2;rw[ja5 (h.set i a)] at f;exact((h.bit i a p.toNat).1 f).2
 .have hk:=j n g;unfold U.kr at hk;have c:((n.toNat:Nat):Int)=n:=(by omega);refine⟨n.toNat,jH7.2 ⟨jHZ.2 (by rw[h.len];omega),?_⟩,c⟩;show U.jR (nth y.1 n.toNat) p=true;rw[ja5 (h.set _ (by omega))];exact(h.bit _ (by omega) _).2 ⟨by omega,by rw[c];exact g⟩
theorem jCq (t:List Int) (p:Int):(U.on t p).Nodup:=by
 unfold U.on U.vp;refine jJa.2 ((List.Pairwise.filter _ jI4).imp ?_);intro a b c e;omega
theorem jzJ {d:DyD} {x:List (List Int)×List Int} {y:List Int×List Int} (h:jmp d x y) {p:Int} (e:U.ji1 d p) (c:(nth x.1 p.toNat).Nodup) (a:∀b∈nth x.1 p.toNat,U.kr d b):(nth x.1 p.toNat).Perm (U.on y.1 p):=
 L.perm_of_nodup c (jCq _ _) (fun n=>(jF9 h e a n).symm)
theorem jDZ {d:DyD} (i:U.jcw d) {x:List (List Int)×List Int} {y:List Int×List Int} (h:jmp d x y) {p b:Int} (g:U.ji1 d p) (e:(nth x.1 p.toNat++[b]).Nodup) (f:∀c∈nth x.1 p.toNat++[b],U.kr d c):
 U.jun d (U.jT d (U.ju d).length) p (nth x.1 p.toNat++[b])=U.kG d p (U.on y.1 p++[b]):=by
 rw[jFs e (fun c a=>jEU i (f c a) g)];exact jnh d p ((jzJ h g (jIP.1 e).1 (fun c a=>f c (jHJ _ a))).append_right [b]) e
theorem jF5 {d:DyD} {x:List (List Int)×List Int} {y:List Int×List Int} (h:jmp d x y) (v:x.1.length=(U.jh (U.jc d)).length) (u:(U.jh (U.jc d)).length<=8) {p b:Int} (t:U.ji1 d p) (s:U.kr d b) (i:b∉nth x.1 p.toNat):
 jmp d (x.1.set p.toNat (nth x.1 p.toNat++[b]),x.2) (y.1.set b.toNat (nth y.1 b.toNat+2^p.toNat),y.2):=by
 unfold U.ji1 at t;unfold U.kr at s;have r:((b.toNat:Nat):Int)=b:=(by omega);have g:b.toNat<y.1.length:=(by rw[h.len];omega);have n:p.toNat<x.1.length:=(by omega);have o:=h.set b.toNat (by omega);have m:BT.has (nth y.1 b.toNat) p.toNat=false:=by
  cases j:BT.has (nth y.1 b.toNat) p.toNat with
  |false=>rfl
  |true=>exact absurd (by have:=((h.bit _ (by omega) _).1 j).2;rw[r] at this;exact this) i
 have a:=BT.add_two o (p:=p.toNat) (by omega) m;have j:=BT.two_set (k:=p.toNat) (by omega);refine⟨h.ref,by show(y.1.set _ _).length=_;rw[jI9];exact h.len,fun c l=> ?_,fun c l q=> ?_⟩
 .show BT.Set' (nth (y.1.set b.toNat (nth y.1 b.toNat+2^p.toNat)) c);rw[L.nth_set g]
  split
  .rw[a];exact BT.bor_set o j
  .exact h.set c l
 .show BT.has (nth (y.1.set b.toNat (nth y.1 b.toNat+2^p.toNat)) c) q=true↔_/\(c:Int)∈nth (x.1.set p.toNat (nth x.1 p.toNat++[b])) q;rw[L.nth_set g,L.nth_set n];by_cases f:b.toNat=c
  .rw[if_pos f,a,BT.has_bor o j,BT.has_two,jIK,decide_eq_true_iff,h.bit _ (by omega),<-f,r];by_cases e:p.toNat=q
   .rw[if_pos e];refine⟨fun _=>⟨by omega,by simp⟩,fun _=> .inr e⟩
   .rw[if_neg e];exact⟨fun h=>h.elim id (fun h=>absurd h e),.inl⟩
  .rw[if_neg f,h.bit c l];by_cases e:p.toNat=q
   .rw[if_pos e,jHT,<-e];refine and_congr_right fun _=>⟨.inl,fun h=>h.elim id (fun h=> ?_)⟩
    simp at h;omega
   .rw[if_neg e]
theorem jCf (d:DyD):jmp d (U.kZ (U.jrM d) (U.ke d) 0) (List.replicate (U.ju d).length 0,[]):=by
 have c:∀b,b<(U.ju d).length->nth (List.replicate (U.ju d).length (0:Int)) b=0:=fun b a=>L.nth_rep a
 refine⟨rfl,jIG,fun b a=> ?_,fun b a p=> ?_⟩
 .show BT.Set' (nth (List.replicate (U.ju d).length (0:Int)) b);rw[c b a];exact BT.zero_set
 .show BT.has (nth (List.replicate (U.ju d).length (0:Int)) b) p=true↔_/\(b:Int)∈nth (U.jFR d) p;rw[c b a,BT.has_zero];have f:U.jEP (U.jFR d):=fun x g=>(List.mem_replicate.1 g).2
  have e:nth (U.jFR d) p=[]:=jvf f p;rw[e];simp
def jBj (d:DyD) (i:Nat):List Int×List Int:=(((U.ke d).take i).filter (jBV d)).foldl (U.qW d) (List.replicate (U.ju d).length 0,[])
attribute [local irreducible] U.kZ U.kG U.jun U.on jBj U.ke jBV U.jrM U.jT in
theorem jCg {d:DyD} (h:U.jU d=0) {i:Nat} (hi:i<(U.ke d).length) (ih:jmp d (U.kZ (U.jrM d) (U.ke d) i) (jBj d i)) (hinv:U.yR (U.jrM d) (U.ke d) i (U.kZ (U.jrM d) (U.ke d) i)) (hrd:U.rd (U.jrM d)=d) (hml:U.ja3 (U.jrM d)=U.jT d (U.ju d).length)
 (hx:(U.kZ (U.jrM d) (U.ke d) i).1.length=(U.jh (U.jc d)).length) (hdec:jBV d=U.kX (U.zX (U.ke d) (U.ke d).length)) (hft:jBj d (i+1)=if jBV d (nth (U.ke d) i)=true then U.qW d (jBj d i) (nth (U.ke d) i) else jBj d i)
 (hnew:jBV d (nth (U.ke d) i)=true->(nth (U.kZ (U.jrM d) (U.ke d) i).1 (U.qo (nth (U.ke d) i)).toNat++[U.jbU (nth (U.ke d) i)]).Nodup/\∀b∈nth (U.kZ (U.jrM d) (U.ke d) i).1 (U.qo (nth (U.ke d) i)).toNat++[U.jbU (nth (U.ke d) i)],U.kr d b):
 jmp d (U.kZ (U.jrM d) (U.ke d) (i+1)) (jBj d (i+1)):=by
 have hD:=(zO h).1
 have h8:(U.jh (U.jc d)).length<=8:=(jy hD.1).2.2.1
 have hsf:=jc2 hD.2.2 (jaR.1 (L.mem_nth (l:=U.ke d) (i:=i) hi))
 rw[hft]
 cases hc:jBV d (nth (U.ke d) i) with
 |false=>
  rw[hdec] at hc
  rw[juM hi hc,if_neg (by simp)]
  exact ih
 |true=>
  have hn:=hnew hc
  have hcan:=jDZ hD ih (p:=U.qo (nth (U.ke d) i)) (b:=U.jbU (nth (U.ke d) i)) hsf.1 hn.1 hn.2
  rw[hdec] at hc
  rw[if_pos rfl]
  unfold U.qW
  cases hk:U.kG d (U.qo (nth (U.ke d) i)) (U.on (jBj d i).1 (U.qo (nth (U.ke d) i))++[U.jbU (nth (U.ke d) i)]) with
  |true=>
   rw[hk] at hcan
   rw[jyO hi hc (by rw[hrd,hml];exact hcan),if_pos rfl]
   refine jF5 ih hx h8 hsf.1 hsf.2 (fun hin=> ?_)
   exact(jIP.1 hn.1).2.2 _ hin _ (by simp) rfl
  |false=>
   rw[hk] at hcan
   rw[jDB hi hc (by rw[hrd,hml];exact hcan),if_neg (by simp)]
   exact⟨congrArg (·++[U.wI (nth (U.ke d) i)]) ih.ref,ih.len,ih.set,ih.bit⟩
theorem jzq {d:DyD} (h:U.jU d=0):∀i,i<=(U.ke d).length->jmp d (U.kZ (U.jrM d) (U.ke d) i) (jBj d i)
 |0,_=>jCf d
 |i+1,hi=>by
  have k:=jzq h i (by omega)
  obtain⟨⟨_,m⟩,⟨j,b⟩,c⟩:=ju0 h
  have f:=(zO h).1
  have a:=jsr (r:=U.jrM d) (l:=U.ke d) f.2.2 (fun s e=>jaR.1 e) (gQ d) j b c i (by omega)
  refine jCg h hi k a rfl rfl a.1 rfl ?_ fun g=> ?_
  .unfold jBj
   rw[L.filter_take (p:=jBV d) (l:=U.ke d) (i:=i) hi,jH8]
   split<;>rfl
  .have:=jyN (r:=U.jrM d) (l:=U.ke d) f.2.2 (fun s e=>jaR.1 e) (gQ d) hi a g
   exact⟨this.1,this.2.1⟩
theorem jDb {d:DyD} (h:U.jU d=0):jBj d (U.ke d).length=U.jiq d:=by
 unfold jBj U.jiq U.jN;rw[jIO,jIO,jFY h]
theorem jce {d:DyD} (h:U.jU d=0):jmp d (U.jY (U.yk d),(U.kZ (U.jrM d) (U.ke d) (U.ke d).length).2) (U.jiq d):=by
 have:=jzq h _ (jHM _);rw[jDb h] at this;exact⟨this.ref,this.len,this.set,this.bit⟩
theorem juK (on:List (List Int)) (b:Int):∀n,n<=60->BT.Set' (U.qS on b n)/\∀q,BT.has (U.qS on b n) q=true↔q<n/\b∈nth on q
 |0,_=>⟨BT.zero_set,fun q=>by
  have:U.qS on b 0=0:=rfl
  rw[this,BT.has_zero];simp⟩
 |n+1,m=>by
  obtain⟨f,i⟩:=juK on b n (by omega)
  have g:=BT.two_set (k:=n) (by omega)
  have a:(nth on n).any (fun x=>decide (x=b))=true↔b∈nth on n:=by
   rw[jIn];exact⟨fun⟨x,l,e⟩=>(of_decide_eq_true e)▸l,fun j=>⟨b,j,decide_eq_true rfl⟩⟩
  rw[jjw]
  split
  .rename_i c;have c:=a.1 c;rw[wj];refine⟨BT.bor_set f g,fun q=> ?_⟩;rw[BT.has_bor f g,BT.has_two,jIK,decide_eq_true_iff,i];refine⟨fun h=>h.elim (fun h=>⟨by omega,h.2⟩) (fun h=>by subst h;exact⟨by omega,c⟩),fun h=> ?_⟩;by_cases d:q=n
   .exact .inr d.symm
   .exact .inl ⟨by omega,h.2⟩
  .rename_i c;refine⟨f,fun q=> ?_⟩;rw[i];refine⟨fun h=>⟨by omega,h.2⟩,fun h=>⟨?_,h.2⟩⟩;by_cases d:q=n
   .subst d;exact absurd (a.2 h.2) c
   .omega
theorem jsm {d:DyD} (h:U.jU d=0) {b:Nat} (a:b<(U.ju d).length):U.jI (U.jY (U.yk d)) (b:Int)=nth (U.jiq d).1 b:=by
 have f:=jce h;have c:=jcf h;have g:=juK (U.jY (U.yk d)) (b:Int) (U.jY (U.yk d)).length c.len60;refine BT.ext g.1 (f.set b a) fun p=>jId.2 ?_
 have e:=(g.2 p).trans (f.bit b a p|>.trans (by rw[<-c.len])).symm;exact e
theorem jF1 {d:DyD} (h:U.jU d=0):U.qM d (U.ju d).length=(U.jiq d).1:=by
 have b:=jce h;have a:(U.qM d (U.ju d).length).length=(U.ju d).length:=(by unfold U.qM;simp);refine L.ext_nth (by rw[a];exact b.len.symm) fun i hi=> ?_
 rw[a] at hi;unfold U.qM;rw[L.nth_map (by simpa using hi)];have:nth (List.range (U.ju d).length) i=i:=(by rw[L.nth_lt (by simpa using hi)];simp);rw[this];exact jsm h hi
theorem jyD (d:DyD):U.jgV d=if U.wt d=0 then(U.jiq d).1 else[]:=by
 unfold U.jgV;rw[qz]
 split
 .rename_i h;exact jF1 ((qz d).trans h)
 .rfl
theorem jzr (d:DyD):∀n,n<=(U.zM d).length->(U.jN d n).2.Sublist (((U.zM d).take n).map U.wI)
 |0,_=>List.nil_sublist _
 |n+1,b=>by
  have a:=jzr d n (by omega)
  rw[jnH (by omega),L.take_succ (by omega),jIz]
  unfold U.qW
  split
  .exact a.trans (List.sublist_append_left _ _)
  .exact List.Sublist.append a (List.Sublist.refl _)
theorem jzs {d:DyD} (h:U.jU d=0):(U.jiq d).2.Nodup/\∀x∈(U.jiq d).2,0<=x/\x<=99:=by
 have c:=jzr d _ (jHM _);rw[jIO] at c;have g:=zO h;have l:(U.zM d).Nodup:=(jnt d).nodup_iff.2 (by rw[jrV];exact List.Pairwise.filter _ (jne _));refine⟨List.Pairwise.sublist c (jJa.2 (List.Pairwise.imp_of_mem ?_ l)),fun x k=> ?_⟩
 .intro a b i j f e;exact f (g.2 a (jds (jjj i)) b (jds (jjj j)) e)
 .obtain⟨s,c,rfl⟩:=jIk.1 (c.subset k);exact jpY g.1.2.2 (jds (jjj c))
theorem jwL {r:List Int} (k:r.Nodup) (h:∀x∈r,0<=x/\x<=99):U.gW r 100=U.jfL r:=by
 have e:∀m,U.jwM r m r.length=r.filter (fun x=>decide (x=(m:Int))):=fun m=>by unfold U.jwM;rw[jIO]
 have d:∀m x,x∈U.jwM r m r.length->x=(m:Int)/\x∈r:=fun m x c=>by
  rw[e m] at c;have:=jH7.1 c;exact⟨of_decide_eq_true this.2,this.1⟩
 have f:(U.gW r 100).Pairwise (fun a b=>a<=b):=by
  unfold U.gW;refine List.pairwise_flatMap.2 ⟨fun m _=> ?_,List.Pairwise.imp ?_ jI4⟩
  .refine List.Pairwise.imp_of_mem ?_ (R:=fun _ _=>True) (List.pairwise_of_forall (fun _ _=>trivial));intro a b n o _;have:=(d m a n).1;have:=(d m b o).1;omega
  .intro a b g x c y j;have:=(d a x c).1;have:=(d b y j).1;omega
 have i:(U.gW r 100).Nodup:=by
  unfold U.gW;refine List.pairwise_flatMap.2 ⟨fun m _=> ?_,List.Pairwise.imp ?_ jI4⟩
  .rw[e m];exact List.Pairwise.filter _ k
  .intro a b g x c y j l;have:=(d a x c).1;have:=(d b y j).1;omega
 have p:(U.gW r 100).Perm r:=L.perm_of_nodup i k fun x=>by
  unfold U.gW;rw[List.mem_flatMap];refine⟨fun⟨m,_,c⟩=>(d m x c).2,fun c=> ?_⟩;have q:=h x c;refine⟨x.toNat,jHZ.2 (by omega),?_⟩;rw[e];exact jH7.2 ⟨c,decide_eq_true (by omega)⟩
 exact jd6 (p.trans (jg0 r).symm) f (jy2 r)
theorem jzn (d:DyD):U.jg7 d=if U.wt d=0 then U.gW (U.jiq d).2 100 else[]:=by
 unfold U.jg7;rw[qz]
 split
 .rename_i h;have h:=(qz d).trans h;have a:=jzs h;rw[jwL a.1 a.2,<-(jce h).ref];rfl
 .rfl
end Go.X
namespace Go.X
open Go.Proofs
theorem jvY (l:List ShD) (n:Nat):U.jA l (n+1)=U.jA l n++(if U.kO l n l.length=true then[nth l n] else[]):=by
 unfold U.jA;rw[L.range_filter_succ,jIz];by_cases h:U.kO l n l.length=true
 .rw[if_pos h,if_pos h];rfl
 .rw[if_neg h,if_neg h];rfl
theorem jpa (l:List ShD) (n:Nat):(U.jA l n).length<=n:=by
 unfold U.jA;rw[jIL];exact jHW (jIH _ _) (by simp)
theorem jtz {l:List ShD} {i k:Nat} (h:k<l.length):U.kO l i (k+1)=(U.kO l i k&& !(decide (U.jbU (nth l k)=U.jbU (nth l i))&&decide (U.qo (nth l k)=U.qo (nth l i))&&U.zP (nth l k) (nth l i))):=by
 unfold U.kO;rw[L.take_succ h,List.any_append];generalize (l.take k).any _=a;generalize decide (U.jy6 (nth l i)=1)=b;simp only[List.any_cons,List.any_nil,Bool.or_false];generalize (decide (U.jbU (nth l k)=U.jbU (nth l i))&&decide (U.qo (nth l k)=U.qo (nth l i))&&U.zP (nth l k) (nth l i))=c;cases a<;>cases b<;>cases c<;>rfl
theorem jvX (l:List ShD):U.jA l 0=[]:=rfl
theorem jp0 (l:List ShD):U.jm l 0=([],l):=rfl
theorem jw9 (l:List ShD):U.jO l 0=0:=rfl
theorem jwF (l:List ShD) (n:Nat):(U.jm l (n+1)).1=(U.jm l n).1++[nth (U.jm l n).2 (U.jO (U.jm l n).2 (U.jm l n).2.length)]:=rfl
theorem jwE (l:List ShD) (n:Nat):(U.jm l (n+1)).2=(U.jm l n).2.take (U.jO (U.jm l n).2 (U.jm l n).2.length)++(U.jm l n).2.drop (U.jO (U.jm l n).2 (U.jm l n).2.length+1):=rfl
theorem jvE {α:Type} (l:List α) (m:Nat):[]++List.take (((m:Int)).toNat-Int.toNat 0) (List.drop (Int.toNat 0) l)++List.take (((l.length:Int)).toNat-((m:Int)+1).toNat) (List.drop ((m:Int)+1).toNat l)=l.take m++l.drop (m+1):=by
 have a:((m:Int)+1).toNat=m+1:=(by omega);have b:Int.toNat 0=0:=rfl;rw[a,b,jHQ,jHQ,List.drop_zero,Nat.sub_zero,jIa,jID (l:=List.drop (m+1) l) (by rw[jIy];omega)]
theorem jEd (d:DyD):U.jA (U.jk (U.zc d)) (U.jk (U.zc d)).length=U.ya d:=rfl
theorem jEb (d:DyD):(U.jm (U.ya d) (U.ya d).length).1=U.zM d:=rfl
attribute [local irreducible] U.jm U.jO U.jA U.jk U.ya U.zM U.kO
theorem jrW (d:DyD) (W:List ShD) (s:W.length<=100000) (m:(U.jm W W.length).1=U.zM d):
 (∃x:Nat,((True/\True/\True)/\W=(U.jm W x).2/\(U.jm W x).1=[]/\True)/\x<=W.length)/\∀n:Nat,n<=W.length->(U.jm W n).2.length<4611686018427387904->
  (decide ((0:Int)<((U.jm W n).2.length:Int))=true->(∃x:Nat,(((0:Int)=(x:Int)/\(0:Int)=(U.jO (U.jm W n).2 x:Int)/\True)/\True)/\x<=(U.jm W n).2.length)/\∀i:Nat,i<=(U.jm W n).2.length->(U.jm W n).2.length<4611686018427387904->
   (decide ((i:Int)<((U.jm W n).2.length:Int))=true->(0:Int)<=(U.jO (U.jm W n).2 i:Int)/\(U.jO (U.jm W n).2 i:Int)<((U.jm W n).2.length:Int)/\(0:Int)<=(i:Int)/\(i:Int)<((U.jm W n).2.length:Int)/\
    (U.zP (nth (U.jm W n).2 ((U.jO (U.jm W n).2 i:Int)).toNat) (nth (U.jm W n).2 ((i:Int)).toNat)=true->jz ((i:Int)+1)/\∃a:Nat,(((i:Int)+1=(a:Int)/\(i:Int)=(U.jO (U.jm W n).2 a:Int)/\True)/\True)/\a<=(U.jm W n).2.length/\(U.jm W n).2.length-a<(U.jm W n).2.length-i)/\
    (U.zP (nth (U.jm W n).2 ((U.jO (U.jm W n).2 i:Int)).toNat) (nth (U.jm W n).2 ((i:Int)).toNat)=false->jz ((i:Int)+1)/\∃a:Nat,(((U.jO (U.jm W n).2 i:Int)=(U.jO (U.jm W n).2 a:Int)/\(i:Int)+1=(a:Int)/\True)/\True)/\a<=(U.jm W n).2.length/\(U.jm W n).2.length-a<(U.jm W n).2.length-i))/\
   (decide ((i:Int)<((U.jm W n).2.length:Int))=false->(0:Int)<=(U.jO (U.jm W n).2 i:Int)/\(U.jO (U.jm W n).2 i:Int)<((U.jm W n).2.length:Int)/\
    ((U.jm W n).1.length+[nth (U.jm W n).2 ((U.jO (U.jm W n).2 i:Int)).toNat].length)*40<=140737488355328/\(0:Int)<=0/\(0:Int)<=(U.jO (U.jm W n).2 i:Int)/\(U.jO (U.jm W n).2 i:Int)<=((U.jm W n).2.length:Int)/\
    (0+(List.take (((U.jO (U.jm W n).2 i:Int)).toNat-Int.toNat 0) (List.drop (Int.toNat 0) (U.jm W n).2)).length)*40<=140737488355328/\jz ((U.jO (U.jm W n).2 i:Int)+1)/\(0:Int)<=(U.jO (U.jm W n).2 i:Int)+1/\
    (U.jO (U.jm W n).2 i:Int)+1<=((U.jm W n).2.length:Int)/\((U.jm W n).2.length:Int)<=((U.jm W n).2.length:Int)/\
    (([]++List.take (((U.jO (U.jm W n).2 i:Int)).toNat-Int.toNat 0) (List.drop (Int.toNat 0) (U.jm W n).2)).length+(List.take ((((U.jm W n).2.length:Int)).toNat-((U.jO (U.jm W n).2 i:Int)+1).toNat) (List.drop ((U.jO (U.jm W n).2 i:Int)+1).toNat (U.jm W n).2)).length)*40<=140737488355328/\
    ∃a:Nat,((True/\True/\True)/\[]++List.take (((U.jO (U.jm W n).2 i:Int)).toNat-Int.toNat 0) (List.drop (Int.toNat 0) (U.jm W n).2)++List.take ((((U.jm W n).2.length:Int)).toNat-((U.jO (U.jm W n).2 i:Int)+1).toNat) (List.drop ((U.jO (U.jm W n).2 i:Int)+1).toNat (U.jm W n).2)=(U.jm W a).2/\
     (U.jm W n).1++[nth (U.jm W n).2 ((U.jO (U.jm W n).2 i:Int)).toNat]=(U.jm W a).1/\True)/\a<=W.length/\W.length-a<W.length-n))/\
  (decide ((0:Int)<((U.jm W n).2.length:Int))=false->((U.jm W n).1,())=(U.zM d,())):=by
 refine⟨⟨0,⟨⟨trivial,trivial,trivial⟩,by rw[jp0],by rw[jp0],trivial⟩,jHR _⟩,fun n p _=> ?_⟩;obtain⟨u,v⟩:=jc3 W n p;have t:∀i,U.jO (U.jm W n).2 i+0=U.jO (U.jm W n).2 i:=fun _=>rfl
 refine⟨fun b=>⟨⟨0,⟨⟨rfl,by rw[jw9];rfl,trivial⟩,trivial⟩,jHR _⟩,fun i hi _=>⟨fun e=> ?_,fun e=> ?_⟩⟩,fun b=> ?_⟩
 .have b:(0:Int)<((U.jm W n).2.length:Int):=of_decide_eq_true b;have e:(i:Int)<((U.jm W n).2.length:Int):=of_decide_eq_true e;have o:=jde (U.jm W n).2 i hi (by omega);have j:=jhg (U.jm W n).2 i;have k:i+1<=(U.jm W n).2.length:=(by omega);have h:(U.jm W n).2.length-(i+1)<(U.jm W n).2.length-i:=(by omega);refine⟨jH4 _,by omega,jH4 _,e,fun c=>⟨L.in64 (by omega) (by omega),i+1,⟨⟨by simp,?_,trivial⟩,trivial⟩,k,h⟩,fun c=>⟨L.in64 (by omega) (by omega),i+1,⟨⟨?_,by simp,trivial⟩,trivial⟩,k,h⟩⟩
  .have c:U.zP (nth (U.jm W n).2 (U.jO (U.jm W n).2 i)) (nth (U.jm W n).2 i)=true:=c;rw[j,if_pos c]
  .have c:U.zP (nth (U.jm W n).2 (U.jO (U.jm W n).2 i)) (nth (U.jm W n).2 i)=false:=c;rw[j,if_neg (by rw[c];simp)]
 .have b:(0:Int)<((U.jm W n).2.length:Int):=of_decide_eq_true b;have e:¬(i:Int)<((U.jm W n).2.length:Int):=of_decide_eq_false e;have f:i=(U.jm W n).2.length:=(by omega);subst f;have o:=jde (U.jm W n).2 _ (jHM _) (by omega);have l:=jvE (U.jm W n).2 (U.jO (U.jm W n).2 (U.jm W n).2.length);have q:=jwF W n;have r:=jwE W n;refine⟨jH4 _,by omega,by show((U.jm W n).1.length+1)*40<=140737488355328;omega,jIA 0,jH4 _,by omega,?_,L.in64 (by omega) (by omega),by omega,by omega,jIA _,?_,n+1,⟨⟨trivial,trivial,trivial⟩,?_,?_,trivial⟩,by omega,by omega⟩
  .rw[jH6,jIy];omega
  .rw[jIa,jH6,jH6,jIy,jIy];omega
  .rw[r];exact l
  .rw[q];rfl
 .have b:¬(0:Int)<((U.jm W n).2.length:Int):=of_decide_eq_false b;have g:n=W.length:=(by omega);subst g;rw[m]
theorem jtU:jpr:=by
 unfold jpr q132_5 q132_3 q132_1 q132_9 q132_8 q132_7 q132_6 q132_4 q132_2 q132_0;rintro⟨d,⟨⟩⟩ m;have m:(U.zc d).length<=1000:=m;have g:(U.jk (U.zc d)).length<=100000:=jHW (by unfold U.jk;exact jdt _ 100) (by omega);refine⟨m,⟨0,⟨⟨rfl,trivial,trivial⟩,jvX _,trivial⟩,jHR _⟩,fun x p _=>⟨fun h=> ?_,fun h=> ?_⟩⟩
 .have h:(x:Int)<((U.jk (U.zc d)).length:Int):=of_decide_eq_true h;have x0:(0:Int)<=(x:Int):=jH4 x;refine⟨x0,h,⟨0,⟨⟨rfl,?_,trivial⟩,trivial⟩,jHR _⟩,fun k hk _=>⟨fun b=> ?_,fun b=> ?_⟩⟩
  .show decide (U.jy6 (nth (U.jk (U.zc d)) x)=1)=U.kO (U.jk (U.zc d)) x 0;unfold U.kO;simp
  .have b:(k:Int)<((U.jk (U.zc d)).length:Int):=of_decide_eq_true b;have o:(0:Int)<=(k:Int):=jH4 k;have e:=jtz (l:=U.jk (U.zc d)) (i:=x) (k:=k) (by omega);have f:k+1<=(U.jk (U.zc d)).length:=(by omega);have c:(U.jk (U.zc d)).length-(k+1)<(U.jk (U.zc d)).length-k:=(by omega);have i64:jz ((k:Int)+1):=L.in64 (by omega) (by omega);refine⟨o,b,x0,h,fun _=>o,fun _=>b,fun _=>x0,fun _=>h,fun _=>o,fun _=>b,fun _=>x0,fun _=>h,fun a=>⟨i64,k+1,⟨⟨by simp,?_,trivial⟩,trivial⟩,f,c⟩,fun a=>⟨i64,k+1,⟨⟨?_,by simp,trivial⟩,trivial⟩,f,c⟩⟩
   .have a:(decide (U.jbU (nth (U.jk (U.zc d)) k)=U.jbU (nth (U.jk (U.zc d)) x))&&decide (U.qo (nth (U.jk (U.zc d)) k)=U.qo (nth (U.jk (U.zc d)) x))&&U.zP (nth (U.jk (U.zc d)) k) (nth (U.jk (U.zc d)) x))=true:=a;show false=U.kO (U.jk (U.zc d)) x (k+1);rw[e,a];simp
   .have a:(decide (U.jbU (nth (U.jk (U.zc d)) k)=U.jbU (nth (U.jk (U.zc d)) x))&&decide (U.qo (nth (U.jk (U.zc d)) k)=U.qo (nth (U.jk (U.zc d)) x))&&U.zP (nth (U.jk (U.zc d)) k) (nth (U.jk (U.zc d)) x))=false:=a;show U.kO (U.jk (U.zc d)) x k=U.kO (U.jk (U.zc d)) x (k+1);rw[e,a];simp
  .have b:¬(k:Int)<((U.jk (U.zc d)).length:Int):=of_decide_eq_false b;have hk:k<=(U.jk (U.zc d)).length:=hk;have j:k=(U.jk (U.zc d)).length:=(by omega);subst j;have e:=jvY (U.jk (U.zc d)) x;have q:=jpa (U.jk (U.zc d)) x;have f:x+1<=(U.jk (U.zc d)).length:=(by omega);have c:(U.jk (U.zc d)).length-(x+1)<(U.jk (U.zc d)).length-x:=(by omega);have i64:jz ((x:Int)+1):=L.in64 (by omega) (by omega);refine⟨fun a=>⟨x0,h,by show((U.jA (U.jk (U.zc d)) x).length+1)*40<=140737488355328;omega,i64,x+1,⟨⟨by simp,trivial,trivial⟩,?_,trivial⟩,f,c⟩,fun a=>⟨i64,x+1,⟨⟨trivial,by simp,trivial⟩,?_,trivial⟩,f,c⟩⟩
   .have a:U.kO (U.jk (U.zc d)) x (U.jk (U.zc d)).length=true:=a;show U.jA (U.jk (U.zc d)) x++[nth (U.jk (U.zc d)) x]=U.jA (U.jk (U.zc d)) (x+1);rw[e,if_pos a]
   .have a:U.kO (U.jk (U.zc d)) x (U.jk (U.zc d)).length=false:=a;show U.jA (U.jk (U.zc d)) x=U.jA (U.jk (U.zc d)) (x+1);rw[e,if_neg (by rw[a];simp),jIc]
 .have h:¬(x:Int)<((U.jk (U.zc d)).length:Int):=of_decide_eq_false h;have p:x<=(U.jk (U.zc d)).length:=p;have n:x=(U.jk (U.zc d)).length:=(by omega);subst n;refine jrW d (U.jA (U.jk (U.zc d)) (U.jk (U.zc d)).length) (jHW (jpa _ _) g) ?_;rw[jEd];exact jEb d
theorem jqA:zm PR 106 jpO:=kH jrA jtU Tryz.func106 (kcC jl0 (kcC jtk kcN)) koN
theorem jtj:zm PR 54 jsC:=kH juw jxn Tryz.func54 (kcC jqA (kcC jki kcN)) (koC jtn koN)
theorem jkf:zm PR 19 jsF:=j8 jxq Tryz.func19 (kcC jkh (kcC jtj kcN)) koN
end Go.X
namespace Go.X
open Go.Proofs
namespace U
def qP (d:DyD) (b:Bool):Int:=if wt d=0 then(if b=true then 0 else 1) else wt d
def jHq (d:DyD):List Int:=if wt d=0 then gW (jiq d).2 100 else[]
def sv3At (d:DyD) (t:List Int) (b:Nat):Bool:=jaq (jc d) (yG (nth (ju d) b)) (nth t b)
def jF2 (d:DyD) (t:List Int) (n:Nat):List Int:=((List.range n).filter (sv3At d t)).map (fun(b:Nat)=>(b:Int))
def jG1 (d:DyD):List Int:=if wt d=0 then jF2 d (jC d) (jC d).length else[]
def jx (d:DyD) (l:List Int) (n:Nat):Nat:=(List.range n).foldl (fun f i=>if ve (bk d (nth l i))<ve (bk d (nth l f)) then i else f) 0
def jb (d:DyD) (l:List Int):Nat->List Int×List Int
 |0=>([],l)
 |n+1=>((jb d l n).1++[nth (jb d l n).2 (jx d (jb d l n).2 (jb d l n).2.length)],(jb d l n).2.take (jx d (jb d l n).2 (jb d l n).2.length)++(jb d l n).2.drop (jx d (jb d l n).2 (jb d l n).2.length+1))
def jFQ (d:DyD) (p:Int):List Int:=on (jC d) p
def jG4 (d:DyD) (p:Int):List Int:=(jb d (jFQ d p) (jFQ d p).length).1
def jdI (d:DyD) (p:Int):List Int:=if qP d (ji d p)=0 then jG4 d p else[]
def jdH (d:DyD) (p:Int):Int:=if qP d (ji d p)=0 then w5 d (jG4 d p) ((jG4 d p).length-1) else 0
def jgp (d:DyD) (t:List Int) (b:Int) (p:Nat):Bool:= !jR (nth t b.toNat) (p:Int)&&kG d (p:Int) (on t (p:Int)++[b])
def ko (d:DyD) (t:List Int) (b:Int) (n:Nat):Int:=(List.range n).foldl (fun s p=>if jgp d t b p=true then s+2^p else s) 0
def we (d:DyD) (t:List Int) (b:Int):Int:=ko d t b (jh (jc d)).length
def yx (s:Int) (n:Nat):List Int:=((List.range n).filter (fun(p:Nat)=>jR s (p:Int))).map (fun(p:Nat)=>(p:Int))
def jme (d:DyD) (b:Int):List Int:=if qP d (jj d b)=0 then yx (we d (jC d) b) (jh (jc d)).length else[]
def ji8 (d:DyD) (b all t:Int) (x:Int×Int×Bool) (s:Nat):Int×Int×Bool:=
 if((decide (qp (s:Int) all=0)&&jaq (jc d) (yG (bk d b)) (bor t (s:Int)))&&(!x.2.2||decide (jk5 (jc d) (s:Int)<x.2.1)))=true then((s:Int),jk5 (jc d) (s:Int),true) else x
def zr (d:DyD) (b all t:Int) (n:Nat):Int×Int×Bool:=(List.range n).foldl (ji8 d b all t) (0,0,false)
def jq4 (d:DyD) (b:Int):Int×Int×Bool:=zr d b (we d (jC d) b) (nth (jC d) b.toNat) (2^(jh (jc d)).length)
def jbd (d:DyD) (b:Int):Int:=if qP d (jj d b)=0 then(if(jq4 d b).2.2=true then 0 else 3) else qP d (jj d b)
def jgt (d:DyD) (b:Int):Int:=if jbd d b=0 then(jq4 d b).1 else 0
def jgs (d:DyD) (b:Int):Int:=if jbd d b=0 then(jq4 d b).2.1 else 0
def jzU (d:DyD) (t:List Int):Prop:=t.length=(ju d).length
end U
def jsS:zQ:=⟨[.val (.slice .int),.val .int],[.cl (.row 3 .int .yes)],fun d=>[d.1.length<=1000,0<=d.2.1/\d.2.1<=63],fun d=>((U.on d.1 d.2.1,()),())⟩
def jr9:Prop:=∀(d:List Int×Int×Unit),d.1.length<=1000->0<=d.2.1/\d.2.1<=63->(∃(x:Nat),((0=(x:Int)/\True/\True)/\U.vp d.1 d.2.1 x=[]/\True)/\x<=d.1.length)/\∀(x:Nat),x<=d.1.length->d.1.length<4611686018427387904->(decide ((x:Int)<(d.1.length:Int))=true->0<=(x:Int)/\(x:Int)<(d.1.length:Int)/\(0<=d.2.1/\d.2.1<=63)/\(U.jR (nth d.1 (x:Int).toNat) d.2.1=true->((U.vp d.1 d.2.1 x).length+[(x:Int)].length)*8<=140737488355328/\jz ((x:Int)+1)/\∃(a:Nat),(((x:Int)+1=(a:Int)/\True/\True)/\U.vp d.1 d.2.1 x++[(x:Int)]=U.vp d.1 d.2.1 a/\True)/\a<=d.1.length/\d.1.length-a<d.1.length-x)/\(U.jR (nth d.1 (x:Int).toNat) d.2.1=false->jz ((x:Int)+1)/\∃(a:Nat),((True/\(x:Int)+1=(a:Int)/\True)/\U.vp d.1 d.2.1 x=U.vp d.1 d.2.1 a/\True)/\a<=d.1.length/\d.1.length-a<d.1.length-x))/\(decide ((x:Int)<(d.1.length:Int))=false->(U.vp d.1 d.2.1 x,())=(U.on d.1 d.2.1,())/\()=())
def jsG:j9:=⟨[.val tDy,.val .int],[.slice .int,.int,.int],false,fun d=>[(U.ju d.1).length<=1000000],fun d=>(U.jdI d.1 d.2.1,U.jdH d.1 d.2.1,U.qP d.1 (U.ji d.1 d.2.1),())⟩
def juy:Ann:=fun r=>match r with
 |7=>some fun σ=>{X:=Nat,sl:=fun _=>[(8,.own 8 .int),(4,.own 4 .int)],ob:=fun n=>[(8,some (.row 3 .int false .unk (U.jb (gb tDy σ 2) (gr .int σ 8) n).2)),(4,some (.row 3 .int false .yes (U.jb (gb tDy σ 2) (gr .int σ 8) n).1))],inv:=fun n=>n<=(gr .int σ 8).length,mu:=fun n=>(gr .int σ 8).length-n}
 |10=>some fun σ=>{X:=Nat,sl:=fun i=>[(10,.dat .int (i:Int)),(9,.dat .int (U.jx (gb tDy σ 2) (gr .int σ 8) i:Int))],ob:=fun _=>[],inv:=fun i=>i<=(gr .int σ 8).length,mu:=fun i=>(gr .int σ 8).length-i}
 |18=>some fun σ=>{X:=Nat,sl:=fun i=>[(11,.dat .int ((i:Int)+1)),(5,.dat .int (U.w5 (gb tDy σ 2) (gr .int σ 4) i))],ob:=fun _=>[],inv:=fun i=>i<=(gr .int σ 4).length-1,mu:=fun i=>(gr .int σ 4).length-i}
 |_=>none
abbrev q137_5 (d:DyD×Int×Unit):=(U.jdI d.1 d.2.1,U.jdH d.1 d.2.1,U.qP d.1 (U.ji d.1 d.2.1),())
abbrev q137_8 (d:DyD×Int×Unit):=(U.on (U.jC d.1) d.2.1)
abbrev q137_0 (d:DyD×Int×Unit)(x:Nat):=(U.jb d.1 (q137_8 d) x)
abbrev q137_1 (d:DyD×Int×Unit)(x:Nat)(a:Nat):=(↑(U.jx d.1 (q137_0 d x).2 a):Int)
abbrev q137_2 (d:DyD×Int×Unit)(x:Nat)(a:Nat):=(nth d.1.2.2.1 (nth (q137_0 d x).1 ((a:Int)+1-1).toNat).toNat)
abbrev q137_3 (d:DyD×Int×Unit)(x:Nat)(a:Nat):=(nth d.1.2.2.1 (nth (q137_0 d x).1 ((a:Int)+1).toNat).toNat)
abbrev q137_4 (d:DyD×Int×Unit)(x:Nat):=(↑(q137_0 d x).2.length:Int)
abbrev q137_6 (d:DyD×Int×Unit)(x:Nat)(a:Nat):=((q137_3 d x a).2.2.1-(q137_2 d x a).2.2.2.1-d.1.2.2.2.1-(nth (nth d.1.2.1 (q137_2 d x a).2.1.toNat) (q137_3 d x a).2.1.toNat).2.1)
abbrev q137_7 (d:DyD×Int×Unit)(x:Nat)(a:Nat):=((nth d.1.2.2.1 (nth (q137_0 d x).2 (a:Int).toNat).toNat).2.2.1<(nth d.1.2.2.1 (nth (q137_0 d x).2 (q137_1 d x a).toNat).toNat).2.2.1)
def jr8:Prop:=∀(d:DyD×Int×Unit),(U.ju d.1).length<=1000000->(U.ju d.1).length<=1000000/\(decide (U.wt d.1≠0)=true->([],(0:Int),U.wt d.1,())=(q137_5 d))/\(decide (U.wt d.1≠0)=false->((!U.ji d.1 d.2.1)=true->([],(0:Int),(1:Int),())=(q137_5 d))/\((!U.ji d.1 d.2.1)=false->(U.jC d.1).length<=1000/\(0<=d.2.1/\d.2.1<=63)/\(∃(x:Nat),((True/\True/\True)/\U.on (U.jC d.1) d.2.1=(q137_0 d x).2/\(q137_0 d x).1=[]/\True)/\x<=(q137_8 d).length)/\∀(x:Nat),x<=(q137_8 d).length->(q137_0 d x).2.length<4611686018427387904->(decide ((0:Int)<(q137_4 d x))=true->(∃(a:Nat),((0=(a:Int)/\(0:Int)=(q137_1 d x a)/\True)/\True)/\a<=(q137_0 d x).2.length)/\∀(a:Nat),a<=(q137_0 d x).2.length->(q137_0 d x).2.length<4611686018427387904->(decide ((a:Int)<(q137_4 d x))=true->0<=(a:Int)/\(a:Int)<(q137_4 d x)/\0<=nth (q137_0 d x).2 (a:Int).toNat/\nth (q137_0 d x).2 (a:Int).toNat<(d.1.2.2.1.length:Int)/\(0:Int)<=(q137_1 d x a)/\(q137_1 d x a)<(q137_4 d x)/\0<=nth (q137_0 d x).2 (q137_1 d x a).toNat/\nth (q137_0 d x).2 (q137_1 d x a).toNat<(d.1.2.2.1.length:Int)/\(decide (q137_7 d x a)=true->jz ((a:Int)+1)/\∃(b:Nat),(((a:Int)+1=(b:Int)/\(a:Int)=(↑(U.jx d.1 (q137_0 d x).2 b):Int)/\True)/\True)/\b<=(q137_0 d x).2.length/\(q137_0 d x).2.length-b<(q137_0 d x).2.length-a)/\(decide (q137_7 d x a)=false->jz ((a:Int)+1)/\∃(b:Nat),(((q137_1 d x a)=(↑(U.jx d.1 (q137_0 d x).2 b):Int)/\(a:Int)+1=(b:Int)/\True)/\True)/\b<=(q137_0 d x).2.length/\(q137_0 d x).2.length-b<(q137_0 d x).2.length-a))/\(decide ((a:Int)<(q137_4 d x))=false->(0:Int)<=(q137_1 d x a)/\(q137_1 d x a)<(q137_4 d x)/\((q137_0 d x).1.length+[nth (q137_0 d x).2 (q137_1 d x a).toNat].length)*8<=140737488355328/\(0:Int)<=0/\(0:Int)<=(q137_1 d x a)/\(q137_1 d x a)<=(q137_4 d x)/\(0+(List.take ((q137_1 d x a).toNat-Int.toNat 0) (List.drop (Int.toNat 0) (q137_0 d x).2)).length)*8<=140737488355328/\jz ((q137_1 d x a)+1)/\(0:Int)<=(q137_1 d x a)+1/\(q137_1 d x a)+1<=(q137_4 d x)/\(q137_4 d x)<=(q137_4 d x)/\(([]++List.take ((q137_1 d x a).toNat-Int.toNat 0) (List.drop (Int.toNat 0) (q137_0 d x).2)).length+(List.take ((q137_4 d x).toNat-((q137_1 d x a)+1).toNat) (List.drop ((q137_1 d x a)+1).toNat (q137_0 d x).2)).length)*8<=140737488355328/\∃(b:Nat),((True/\True/\True)/\[]++List.take ((q137_1 d x a).toNat-Int.toNat 0) (List.drop (Int.toNat 0) (q137_0 d x).2)++List.take ((q137_4 d x).toNat-((q137_1 d x a)+1).toNat) (List.drop ((q137_1 d x a)+1).toNat (q137_0 d x).2)=(U.jb d.1 (q137_8 d) b).2/\(q137_0 d x).1++[nth (q137_0 d x).2 (q137_1 d x a).toNat]=(U.jb d.1 (q137_8 d) b).1/\True)/\b<=(q137_8 d).length/\(q137_8 d).length-b<(q137_8 d).length-x))/\(decide ((0:Int)<(q137_4 d x))=false->(∃(a:Nat),((1=(a:Int)+1/\1440=U.w5 d.1 (q137_0 d x).1 a/\True)/\True)/\a<=(q137_0 d x).1.length-1)/\∀(a:Nat),a<=(q137_0 d x).1.length-1->(q137_0 d x).1.length<4611686018427387904->(decide ((a:Int)+1<(↑(q137_0 d x).1.length:Int))=true->jz ((a:Int)+1-1)/\0<=(a:Int)+1-1/\(a:Int)+1-1<(↑(q137_0 d x).1.length:Int)/\0<=nth (q137_0 d x).1 ((a:Int)+1-1).toNat/\nth (q137_0 d x).1 ((a:Int)+1-1).toNat<(d.1.2.2.1.length:Int)/\0<=(a:Int)+1/\(a:Int)+1<(↑(q137_0 d x).1.length:Int)/\0<=nth (q137_0 d x).1 ((a:Int)+1).toNat/\nth (q137_0 d x).1 ((a:Int)+1).toNat<(d.1.2.2.1.length:Int)/\jz ((q137_3 d x a).2.2.1-(q137_2 d x a).2.2.2.1)/\jz ((q137_3 d x a).2.2.1-(q137_2 d x a).2.2.2.1-d.1.2.2.2.1)/\(0:Int)<=(q137_2 d x a).2.1/\(q137_2 d x a).2.1<(d.1.2.1.length:Int)/\(0:Int)<=(q137_3 d x a).2.1/\(q137_3 d x a).2.1<(↑(nth d.1.2.1 (q137_2 d x a).2.1.toNat).length:Int)/\jz (q137_6 d x a)/\jz ((a:Int)+1+1)/\∃(b:Nat),(((a:Int)+1+1=(b:Int)+1/\min (U.w5 d.1 (q137_0 d x).1 a) (q137_6 d x a)=U.w5 d.1 (q137_0 d x).1 b/\True)/\True)/\b<=(q137_0 d x).1.length-1/\(q137_0 d x).1.length-b<(q137_0 d x).1.length-a)/\(decide ((a:Int)+1<(↑(q137_0 d x).1.length:Int))=false->((q137_0 d x).1,U.w5 d.1 (q137_0 d x).1 a,(0:Int),())=(q137_5 d)))))
def jwv:j9:=⟨[.val tDy,.val (.slice .int),.val .int],[.int],false,fun d=>[U.jcw d.1,U.jzU d.1 d.2.1,U.kr d.1 d.2.2.1],fun d=>(U.we d.1 d.2.1 d.2.2.1,())⟩
def jx6:Ann:=fun r=>match r with
 |3=>some fun σ=>{X:=Nat,sl:=fun p=>[(8,.dat .int (p:Int)),(7,.dat .int (U.ko (gb tDy σ 3) (gd (.slice .int) σ 1) (gd .int σ 2) p))],ob:=fun _=>[],inv:=fun p=>p<=(U.jh (U.jc (gb tDy σ 3))).length,mu:=fun p=>(U.jh (U.jc (gb tDy σ 3))).length-p}
 |3000005=>some fun _=>{X:=Unit,sl:=fun _=>[],ob:=fun _=>[],inv:=fun _=>True,mu:=fun _=>0}
 |_=>none
abbrev q138_0 (d:DyD×List Int×Int×Unit):=(U.jh (U.jc d.1))
abbrev q138_1 (x:Nat)(a:Nat)(d:DyD×List Int×Int×Unit):=(((x:Int)+1=(a:Int)/\U.ko d.1 d.2.1 d.2.2.1 x+1*2^(x:Int).toNat=U.ko d.1 d.2.1 d.2.2.1 a/\True)/\True)
abbrev q138_2 (x:Nat):=(0<=(x:Int)/\(x:Int)<=63)
abbrev q138_3 (d:DyD×List Int×Int×Unit)(x:Nat)(a:Nat):=((U.ko d.1 d.2.1 d.2.2.1 x=U.ko d.1 d.2.1 d.2.2.1 a/\(x:Int)+1=(a:Int)/\True)/\True)
def jv8:Prop:=∀(d:DyD×List Int×Int×Unit),U.jcw d.1->U.jzU d.1 d.2.1->U.kr d.1 d.2.2.1->(∃(x:Nat),((0=(x:Int)/\0=U.ko d.1 d.2.1 d.2.2.1 x/\True)/\True)/\x<=(q138_0 d).length)/\∀(x:Nat),x<=(q138_0 d).length->d.1.1.2.1.length<4611686018427387904->(decide ((x:Int)<(d.1.1.2.1.length:Int))=true->(!U.jR (nth d.2.1 d.2.2.1.toNat) (x:Int))= !U.jR (nth d.2.1 d.2.2.1.toNat) (x:Int)/\((!U.jR (nth d.2.1 d.2.2.1.toNat) (x:Int))=true->0<=d.2.2.1/\d.2.2.1<(d.2.1.length:Int)/\(q138_2 x)/\d.2.1.length<=1000/\(q138_2 x)/\((U.on d.2.1 (x:Int)).length+[d.2.2.1].length)*8<=140737488355328/\U.jcw d.1/\U.ji1 d.1 (x:Int)/\U.jcx d.1 (U.on d.2.1 (x:Int)++[d.2.2.1])/\(U.kG d.1 (x:Int) (U.on d.2.1 (x:Int)++[d.2.2.1])=true->0<=(x:Int)/\(x:Int)<=18446744073709551615/\0<=(x:Int)/\(x:Int)<=64/\jz ((1:Int)*2^(x:Int).toNat)/\jz (U.ko d.1 d.2.1 d.2.2.1 x+1*2^(x:Int).toNat)/\jz ((x:Int)+1)/\∃(a:Nat),(q138_1 x a d)/\a<=(q138_0 d).length/\(q138_0 d).length-a<(q138_0 d).length-x)/\(U.kG d.1 (x:Int) (U.on d.2.1 (x:Int)++[d.2.2.1])=false->jz ((x:Int)+1)/\∃(a:Nat),(q138_3 d x a)/\a<=(q138_0 d).length/\(q138_0 d).length-a<(q138_0 d).length-x))/\((!U.jR (nth d.2.1 d.2.2.1.toNat) (x:Int))≠true->0<=d.2.2.1/\d.2.2.1<(d.2.1.length:Int)/\(q138_2 x)/\(false=true->0<=(x:Int)/\(x:Int)<=18446744073709551615/\0<=(x:Int)/\(x:Int)<=64/\jz ((1:Int)*2^(x:Int).toNat)/\jz (U.ko d.1 d.2.1 d.2.2.1 x+1*2^(x:Int).toNat)/\jz ((x:Int)+1)/\∃(a:Nat),(q138_1 x a d)/\a<=(q138_0 d).length/\(q138_0 d).length-a<(q138_0 d).length-x)/\(false=false->jz ((x:Int)+1)/\∃(a:Nat),(q138_3 d x a)/\a<=(q138_0 d).length/\(q138_0 d).length-a<(q138_0 d).length-x)))/\(decide ((x:Int)<(d.1.1.2.1.length:Int))=false->(U.ko d.1 d.2.1 d.2.2.1 x,())=(U.we d.1 d.2.1 d.2.2.1,()))
def jfJ:j9:=⟨[.val tDy,.val .int],[.slice .int,.int],false,fun d=>[(U.ju d.1).length<=1000000],fun d=>(U.jC d.1,U.qP d.1 (U.jj d.1 d.2.1),())⟩
def jfw:Prop:=∀(d:DyD×Int×Unit),(U.ju d.1).length<=1000000->(U.ju d.1).length<=1000000/\((decide (U.wt d.1=0)&& !U.jj d.1 d.2.1)=true->(U.jC d.1,(1:Int),())=(U.jC d.1,U.qP d.1 (U.jj d.1 d.2.1),()))/\((decide (U.wt d.1=0)&& !U.jj d.1 d.2.1)=false->(U.jC d.1,U.wt d.1,())=(U.jC d.1,U.qP d.1 (U.jj d.1 d.2.1),()))
def jww:j9:=⟨[.val tDy,.val .int],[.slice .int,.int],false,fun d=>[(U.ju d.1).length<=1000000],fun d=>(U.jme d.1 d.2.1,U.qP d.1 (U.jj d.1 d.2.1),())⟩
def jx7:Ann:=fun r=>match r with
 |7=>some fun σ=>{X:=Nat,sl:=fun p=>[(10,.dat .int (p:Int)),(9,.own 9 .int)],ob:=fun p=>[(9,some (.row 3 .int false .yes (U.yx (gd .int σ 8) p)))],inv:=fun p=>p<=(U.jh (U.jc (gb tDy σ 2))).length,mu:=fun p=>(U.jh (U.jc (gb tDy σ 2))).length-p}
 |_=>none
abbrev q140_0 (d:DyD×Int×Unit):=(U.we d.1 (U.jC d.1) d.2.1)
abbrev q140_1 (d:DyD×Int×Unit):=(U.jh (U.jc d.1))
def jv9:Prop:=∀(d:DyD×Int×Unit),(U.ju d.1).length<=1000000->(U.ju d.1).length<=1000000/\(decide (U.qP d.1 (U.jj d.1 d.2.1)≠0)=true->([],U.qP d.1 (U.jj d.1 d.2.1),())=(U.jme d.1 d.2.1,U.qP d.1 (U.jj d.1 d.2.1),()))/\(decide (U.qP d.1 (U.jj d.1 d.2.1)≠0)=false->U.jcw d.1/\U.jzU d.1 (U.jC d.1)/\U.kr d.1 d.2.1/\(∃(x:Nat),((0=(x:Int)/\True/\True)/\U.yx (q140_0 d) x=[]/\True)/\x<=(q140_1 d).length)/\∀(x:Nat),x<=(q140_1 d).length->d.1.1.2.1.length<4611686018427387904->(decide ((x:Int)<(d.1.1.2.1.length:Int))=true->(0<=(x:Int)/\(x:Int)<=63)/\(U.jR (q140_0 d) (x:Int)=true->((U.yx (q140_0 d) x).length+[(x:Int)].length)*8<=140737488355328/\jz ((x:Int)+1)/\∃(a:Nat),(((x:Int)+1=(a:Int)/\True/\True)/\U.yx (q140_0 d) x++[(x:Int)]=U.yx (q140_0 d) a/\True)/\a<=(q140_1 d).length/\(q140_1 d).length-a<(q140_1 d).length-x)/\(U.jR (q140_0 d) (x:Int)=false->jz ((x:Int)+1)/\∃(a:Nat),((True/\(x:Int)+1=(a:Int)/\True)/\U.yx (q140_0 d) x=U.yx (q140_0 d) a/\True)/\a<=(q140_1 d).length/\(q140_1 d).length-a<(q140_1 d).length-x))/\(decide ((x:Int)<(d.1.1.2.1.length:Int))=false->(U.yx (q140_0 d) x,(0:Int),())=(U.jme d.1 d.2.1,U.qP d.1 (U.jj d.1 d.2.1),())))
def jwx:j9:=⟨[.val tDy,.val .int],[.int,.int,.int],false,fun d=>[(U.ju d.1).length<=1000000],fun d=>(U.jgt d.1 d.2.1,U.jgs d.1 d.2.1,U.jbd d.1 d.2.1,())⟩
def jx8:Ann:=fun r=>match r with
 |7=>some fun σ=>{X:=Nat,sl:=fun s=>[(10,.dat .int (s:Int)),(4,.dat .int (U.zr (gb tDy σ 2) (gd .int σ 1) (gd .int σ 8) (nth (gd (.slice .int) σ 7) (gd .int σ 1).toNat) s).1),(5,.dat .int (U.zr (gb tDy σ 2) (gd .int σ 1) (gd .int σ 8) (nth (gd (.slice .int) σ 7) (gd .int σ 1).toNat) s).2.1),(9,.dat .bool (U.zr (gb tDy σ 2) (gd .int σ 1) (gd .int σ 8) (nth (gd (.slice .int) σ 7) (gd .int σ 1).toNat) s).2.2)],ob:=fun _=>[],inv:=fun s=>s<=2^(U.jh (U.jc (gb tDy σ 2))).length,mu:=fun s=>2^(U.jh (U.jc (gb tDy σ 2))).length-s}
 |_=>none
abbrev q141_0 (d:DyD×Int×Unit)(x:Nat):=(U.zr d.1 d.2.1 (U.we d.1 (U.jC d.1) d.2.1) (nth (U.jC d.1) d.2.1.toNat) x)
abbrev q141_1 (d:DyD×Int×Unit)(a:Nat):=(U.zr d.1 d.2.1 (U.we d.1 (U.jC d.1) d.2.1) (nth (U.jC d.1) d.2.1.toNat) a)
abbrev q141_2 (x:Nat)(d:DyD×Int×Unit):=(qp (x:Int) (U.we d.1 (U.jC d.1) d.2.1)=0)
abbrev q141_3 (x:Nat)(d:DyD×Int×Unit):=(decide (q141_2 x d)&&U.jaq d.1.1 (nth d.1.2.2.1 d.2.1.toNat).1 (bor (nth (U.jC d.1) d.2.1.toNat) (x:Int))&&(!(q141_0 d x).2.2||decide (U.jk5 d.1.1 (x:Int)<(q141_0 d x).2.1)))
abbrev q141_4 (d:DyD×Int×Unit):=(U.jgt d.1 d.2.1,U.jgs d.1 d.2.1,U.jbd d.1 d.2.1,())
abbrev q141_5 (d:DyD×Int×Unit):=(d.1.1.2.1.length:Int)
abbrev q141_6 (d:DyD×Int×Unit):=(U.jh (U.jc d.1))
def jwa:Prop:=∀(d:DyD×Int×Unit),(U.ju d.1).length<=1000000->(U.ju d.1).length<=1000000/\(decide (U.qP d.1 (U.jj d.1 d.2.1)≠0)=true->((0:Int),(0:Int),U.qP d.1 (U.jj d.1 d.2.1),())=(q141_4 d))/\(decide (U.qP d.1 (U.jj d.1 d.2.1)≠0)=false->U.jcw d.1/\U.jzU d.1 (U.jC d.1)/\U.kr d.1 d.2.1/\(∃(x:Nat),((0=(x:Int)/\0=(q141_0 d x).1/\0=(q141_0 d x).2.1/\false=(q141_0 d x).2.2/\True)/\True)/\x<=2^(q141_6 d).length)/\∀(x:Nat),x<=2^(q141_6 d).length->d.1.1.2.1.length<4611686018427387904->0<=(q141_5 d)/\(q141_5 d)<=18446744073709551615/\0<=(q141_5 d)/\(q141_5 d)<=64/\jz ((1:Int)*2^(q141_5 d).toNat)/\(decide ((x:Int)<1*2^(q141_5 d).toNat)=true->U.js d.1.1=true/\(decide (q141_2 x d)=true->0<=d.2.1)/\(decide (q141_2 x d)=true->d.2.1<(d.1.2.2.1.length:Int))/\(decide (q141_2 x d)=true->0<=d.2.1)/\(decide (q141_2 x d)=true->d.2.1<(↑(U.jC d.1).length:Int))/\(decide (q141_2 x d)=true->U.js d.1.1=true)/\(decide (q141_2 x d)=true->U.za d.1.1 (nth d.1.2.2.1 d.2.1.toNat).1=true)/\(decide (q141_2 x d)=true->U.jo7 (bor (nth (U.jC d.1) d.2.1.toNat) (x:Int)))/\((q141_3 x d)=true->jz ((x:Int)+1)/\∃(a:Nat),(((x:Int)+1=(a:Int)/\true=(q141_1 d a).2.2/\U.jk5 d.1.1 (x:Int)=(q141_1 d a).2.1/\(x:Int)=(q141_1 d a).1/\True)/\True)/\a<=2^(q141_6 d).length/\2^(q141_6 d).length-a<2^(q141_6 d).length-x)/\((q141_3 x d)=false->jz ((x:Int)+1)/\∃(a:Nat),(((q141_0 d x).2.2=(q141_1 d a).2.2/\(q141_0 d x).2.1=(q141_1 d a).2.1/\(q141_0 d x).1=(q141_1 d a).1/\(x:Int)+1=(a:Int)/\True)/\True)/\a<=2^(q141_6 d).length/\2^(q141_6 d).length-a<2^(q141_6 d).length-x))/\(decide ((x:Int)<1*2^(q141_5 d).toNat)=false->((!(q141_0 d x).2.2)=true->((0:Int),(0:Int),(3:Int),())=(q141_4 d))/\((!(q141_0 d x).2.2)=false->((q141_0 d x).1,(q141_0 d x).2.1,(0:Int),())=(q141_4 d))))
end Go.X
namespace Go.X
open Go.Proofs
theorem jEq {d:DyD} (h:U.wt d=0):(U.jiq d).1.length=(U.ju d).length:=(jce ((qz d).trans h)).len
theorem jEp {d:DyD} (h:U.wt d=0) {b:Nat} (a:b<(U.ju d).length):U.jo7 (nth (U.jiq d).1 b):=by
 have c:=jce ((qz d).trans h);have i:(U.jh (U.jc d)).length<=8:=(jy (jd5 h).1).2.2.1;have e:=c.set b a;have f:=BT.lt_of_has (k:=8) e (fun p g=>by have:=((c.bit b a p).1 g).1;omega);exact⟨e.1,f⟩
theorem jhO {d:DyD} (h:U.wt d=0):U.jC d=(U.jiq d).1:=if_pos h
theorem jnF {d:DyD} (h:U.wt d=0):(U.jC d).length=(U.ju d).length:=by rw[jhO h];exact jEq h
theorem jdp {d:DyD} {b:Bool} (h:U.qP d b=0):U.wt d=0/\b=true:=by
 unfold U.qP at h
 split at h
 .rename_i hk;cases b with
  |true=>exact⟨hk,rfl⟩
  |false=>simp at h
 .contradiction
theorem jkH {d:DyD} {b:Int} (h:U.jj d b=true):U.kr d b:=by
 unfold U.jj U.ja at h;rw[jHK,decide_eq_true_iff,decide_eq_true_iff] at h;unfold U.kr;omega
theorem jvo {d:DyD} {p:Int} (h:U.ji d p=true):U.ji1 d p:=by
 unfold U.ji U.ja at h;rw[jHK,decide_eq_true_iff,decide_eq_true_iff] at h;unfold U.ji1;omega
theorem jCi (r:List Int) (m n:Nat):(U.jwM r m n).length<=r.length:=by
 unfold U.jwM;exact jHW (jIH _ _) (by rw[jH6];omega)
theorem jwK (r:List Int) (n:Nat):U.gW r (n+1)=U.gW r n++U.jwM r n r.length:=by
 unfold U.gW;rw[jIe,List.flatMap_append];simp
theorem jzu (r:List Int):∀n,(U.gW r n).length<=r.length*n
 |0=>jHR _
 |n+1=>by
  have a:=jzu r n
  have:=jCi r n r.length
  rw[jwK,jH2,Nat.mul_succ]
  omega
section
attribute [local irreducible] U.gW U.jwM U.jiq U.wt
end
section
attribute [local irreducible] U.jF2 U.jC U.wt U.jaq
end
theorem jxs:jr9:=by
 rintro⟨l,p,⟨⟩⟩ e j;have e:l.length<=1000:=e;refine⟨⟨0,⟨⟨rfl,trivial,trivial⟩,rfl,trivial⟩,jHR _⟩,fun x g _=>⟨fun h=> ?_,fun h=> ?_⟩⟩
 .have h:(x:Int)<(l.length:Int):=of_decide_eq_true h;have b:=jql l p x;have f:=jn9 l p x;have i:x+1<=l.length:=(by omega);have d:l.length-(x+1)<l.length-x:=(by omega);refine⟨by omega,h,j,fun a=>⟨?_,L.in64 (by omega) (by omega),x+1,⟨⟨by simp,trivial,trivial⟩,?_,trivial⟩,i,d⟩,fun a=>⟨L.in64 (by omega) (by omega),x+1,⟨⟨trivial,by simp,trivial⟩,?_,trivial⟩,i,d⟩⟩
  .show((U.vp l p x).length+1)*8<=140737488355328;omega
  .have a:U.jR (nth l x) p=true:=a;rw[if_pos a] at b;exact b.symm
  .have a:U.jR (nth l x) p=false:=a;rw[if_neg (by rw[a];simp),jIc] at b;exact b.symm
 .have h:¬(x:Int)<(l.length:Int):=of_decide_eq_false h;have g:x<=l.length:=g;have c:x=l.length:=(by omega);subst c;exact⟨rfl,rfl⟩
theorem jkg:qb PR 61 jsS:=jdY jDr jxs Tryz.func61 (kcC vu kcN) koN
theorem jhy:jfw:=by
 rintro⟨d,b,⟨⟩⟩ c;refine⟨c,fun h=> ?_,fun h=> ?_⟩
 .have h:(decide (U.wt d=0)&& !U.jj d b)=true:=h;rw[jHK,decide_eq_true_iff,jIj] at h;show(U.jC d,(1:Int),())=(U.jC d,U.qP d (U.jj d b),());unfold U.qP;rw[if_pos h.1,h.2];rfl
 .have h:(decide (U.wt d=0)&& !U.jj d b)=false:=h;show(U.jC d,U.wt d,())=(U.jC d,U.qP d (U.jj d b),());unfold U.qP;by_cases hk:U.wt d=0
  .rw[if_pos hk];cases a:U.jj d b with
   |true=>rw[if_pos rfl,hk]
   |false=>rw[a,decide_eq_true hk] at h;cases h
  .rw[if_neg hk]
theorem yX:zm PR 65 jfJ:=j8 jhy Tryz.func65 (kcC jkf (kcC jcu kcN)) koN
theorem jdn (d:DyD) (t:List Int) (b:Int) (n:Nat):U.ko d t b (n+1)=if U.jgp d t b n=true then U.ko d t b n+2^n else U.ko d t b n:=by
 unfold U.ko;rw[jIe,jH8];rfl
theorem joI (d:DyD) (t:List Int) (b:Int):∀n,0<=U.ko d t b n/\U.ko d t b n<2^n
 |0=>by
  have e:U.ko d t b 0=0:=rfl
  rw[e];constructor<;>decide
 |n+1=>by
  have a:=joI d t b n
  have e:(2:Int)^(n+1)=2^n*2:=Int.pow_succ ..
  rw[jdn,e]
  split<;>omega
theorem jm8 (d:DyD) (t:List Int) (b:Int):U.ko d t b 0=0:=rfl
section
attribute [local irreducible] U.ko U.kG U.on U.jR U.jcw
theorem jAH:jv8:=by
 unfold jv8 q138_3 q138_2 q138_1 q138_0;rintro⟨d,t,b,⟨⟩⟩ l r m;have l:U.jcw d:=l;have r:t.length=(U.ju d).length:=r;have m:U.kr d b:=m;have j:=m;unfold U.kr at j;have i:=l;unfold U.jcw at i;have B:(U.jh (U.jc d)).length<=8:=(jy i.1).2.2.1;have y:(U.ju d).length<=4:=(zb i.2.2).1;refine⟨⟨0,⟨⟨rfl,(jm8 _ _ _).symm,trivial⟩,trivial⟩,jHR _⟩,fun x s _=>⟨fun h=>⟨rfl,fun g=> ?_,fun g=>⟨j.1,by show b<(t.length:Int);omega,?_,fun a=>(by cases a),fun _=> ?_⟩⟩,fun h=> ?_⟩⟩
 .have h:(x:Int)<((U.jh (U.jc d)).length:Int):=of_decide_eq_true h;have g:(!U.jR (nth t b.toNat) (x:Int))=true:=g;have x0:(0:Int)<=(x:Int):=jH4 x;have k:(x:Int)<=63:=(by omega);have p:(x:Int)<=64:=(by omega);have A:(x:Int)<=18446744073709551615:=(by omega);have v:b<(t.length:Int):=(by omega);have n:=jdn d t b x;have z:=joI d t b x;have u:x+1<=(U.jh (U.jc d)).length:=(by omega);have q:(U.jh (U.jc d)).length-(x+1)<(U.jh (U.jc d)).length-x:=(by omega);have i64:jz ((x:Int)+1):=L.in64 (by omega) (by omega);have C:=jzL t (x:Int);have f:BT.Set' ((2:Int)^x):=BT.two_set (by omega);unfold BT.Set' at f;have w:(2:Int)^x<4611686018427387904:=f.2;refine⟨j.1,v,⟨x0,k⟩,by show t.length<=1000;omega,⟨x0,k⟩,by show((U.on t (x:Int)).length+1)*8<=140737488355328;omega,l,⟨x0,h⟩,⟨?_,fun c e=> ?_⟩,fun a=>⟨x0,A,x0,p,?_,?_,i64,x+1,⟨⟨by simp,?_,trivial⟩,trivial⟩,u,q⟩,fun a=>⟨i64,x+1,⟨⟨?_,by simp,trivial⟩,trivial⟩,u,q⟩⟩
  .show(U.on t (x:Int)++[b]).length<=12;rw[jH2];simp;omega
  .have e:c∈U.on t (x:Int)++[b]:=e;rcases jHT.1 e with e|e
   .have:=jzK e;exact⟨this.1,by show c<((U.ju d).length:Int);omega⟩
   .simp at e;subst e;exact m
  .show jz (1*2^x);rw[wj];exact L.in64 (by omega) (by omega)
  .show jz (U.ko d t b x+1*2^x);rw[wj];exact L.in64 (by omega) (by omega)
  .have a:U.kG d (x:Int) (U.on t (x:Int)++[b])=true:=a;have:U.jgp d t b x=true:=(by unfold U.jgp;rw[g,a];rfl);show U.ko d t b x+1*2^x=U.ko d t b (x+1);rw[n,if_pos this,wj]
  .have a:U.kG d (x:Int) (U.on t (x:Int)++[b])=false:=a;have:U.jgp d t b x=false:=(by unfold U.jgp;rw[a,Bool.and_false]);show U.ko d t b x=U.ko d t b (x+1);rw[n,if_neg (by rw[this];simp)]
 .have h:(x:Int)<((U.jh (U.jc d)).length:Int):=of_decide_eq_true h;exact⟨jH4 _,by omega⟩
 .have h:(x:Int)<((U.jh (U.jc d)).length:Int):=of_decide_eq_true h;have g:(!U.jR (nth t b.toNat) (x:Int))≠true:=g;have n:=jdn d t b x;have:U.jgp d t b x=false:=(by unfold U.jgp;rw[Bool.eq_false_iff.2 g,Bool.false_and]);refine⟨L.in64 (by omega) (by omega),x+1,⟨⟨?_,by simp,trivial⟩,trivial⟩,by show x+1<=(U.jh (U.jc d)).length;omega,by show(U.jh (U.jc d)).length-(x+1)<(U.jh (U.jc d)).length-x;omega⟩;show U.ko d t b x=U.ko d t b (x+1);rw[n,if_neg (by rw[this];simp)]
 .have h:¬(x:Int)<((U.jh (U.jc d)).length:Int):=of_decide_eq_false h;have s:x<=(U.jh (U.jc d)).length:=s;have o:x=(U.jh (U.jc d)).length:=(by omega);subst o;rfl
end
theorem jmK:zm PR 66 jwv:=kH jx6 jAH Tryz.func66 (kcC vu (kcC jki kcN)) (koC jkg koN)
theorem jAd (s:Int) (n:Nat):U.yx s (n+1)=U.yx s n++(if U.jR s (n:Int)=true then[(n:Int)] else[]):=by
 unfold U.yx;rw[L.range_filter_succ,jIz];by_cases h:U.jR s (n:Int)=true
 .rw[if_pos h,if_pos h];rfl
 .rw[if_neg h,if_neg h];rfl
theorem jCw (s:Int) (n:Nat):(U.yx s n).length<=n:=by
 unfold U.yx;rw[jIL];exact jHW (jIH _ _) (by simp)
theorem jAc (s:Int):U.yx s 0=[]:=rfl
section
attribute [local irreducible] U.yx U.jC U.wt U.jR U.we
theorem jAI:jv9:=by
 unfold jv9 q140_1 q140_0;rintro⟨d,b,⟨⟩⟩ l;refine⟨l,fun h=> ?_,fun h=> ?_⟩
 .have h:U.qP d (U.jj d b)≠0:=of_decide_eq_true h;show([],U.qP d (U.jj d b),())=(U.jme d b,U.qP d (U.jj d b),());unfold U.jme;rw[if_neg h]
 .have h:U.qP d (U.jj d b)=0:=Classical.not_not.1 (of_decide_eq_false h);have hk:=jdp h;have g:=jd5 hk.1;have m:(U.jh (U.jc d)).length<=8:=(jy g.1).2.2.1;refine⟨g,jnF hk.1,jkH hk.2,⟨0,⟨⟨rfl,trivial,trivial⟩,jAc _,trivial⟩,jHR _⟩,fun x j _=>⟨fun c=> ?_,fun c=> ?_⟩⟩
  .have c:(x:Int)<((U.jh (U.jc d)).length:Int):=of_decide_eq_true c;have i:=jAd (U.we d (U.jC d) b) x;have k:x+1<=(U.jh (U.jc d)).length:=(by omega);have f:(U.jh (U.jc d)).length-(x+1)<(U.jh (U.jc d)).length-x:=(by omega);have i64:jz ((x:Int)+1):=L.in64 (by omega) (by omega);refine⟨⟨jH4 _,by omega⟩,fun a=>⟨?_,i64,x+1,⟨⟨by simp,trivial,trivial⟩,?_,trivial⟩,k,f⟩,fun a=>⟨i64,x+1,⟨⟨trivial,by simp,trivial⟩,?_,trivial⟩,k,f⟩⟩
   .have:=jCw (U.we d (U.jC d) b) x;show((U.yx (U.we d (U.jC d) b) x).length+1)*8<=140737488355328;omega
   .have a:U.jR (U.we d (U.jC d) b) (x:Int)=true:=a;show U.yx (U.we d (U.jC d) b) x++[(x:Int)]=U.yx (U.we d (U.jC d) b) (x+1);rw[i,if_pos a]
   .have a:U.jR (U.we d (U.jC d) b) (x:Int)=false:=a;show U.yx (U.we d (U.jC d) b) x=U.yx (U.we d (U.jC d) b) (x+1);rw[i,if_neg (by rw[a];simp),jIc]
  .have c:¬(x:Int)<((U.jh (U.jc d)).length:Int):=of_decide_eq_false c;have j:x<=(U.jh (U.jc d)).length:=j;have e:x=(U.jh (U.jc d)).length:=(by omega);subst e;show(U.yx (U.we d (U.jC d) b) (U.jh (U.jc d)).length,(0:Int),())=(U.jme d b,U.qP d (U.jj d b),());unfold U.jme;rw[if_pos h,h]
end
theorem jwX:zm PR 27 jww:=kH jx7 jAI Tryz.func27 (kcC yX (kcC jmK (kcC vu kcN))) koN
end Go.X
