/-
  Part 6 of the road: a checked reading of bodies, and what the functions on it do (B4 P10 B5 P11 B6 P12 P13 B7 P14 B8 P15 C1 PC1 PC2 PC3 PC4 C2 PC5 PC6 PC7 PC8 C3 PC9 SL PC10 S1 S2 S3 PC11 C4 PC12 PC13 PC14 S4 S5).
-/
import Derived.Test.YtphbhcmpebmadaaGreatDoorK05
namespace Go.X
open Go.Proofs
abbrev tSt:Ty:= .st [.int,.int]
abbrev jGb:Sh:= .box 82 [.dat .int,.dat (.slice tPe),.dat (.slice tLw),.dat (.slice (.slice tSp)),.dat (.slice tBk),.dat .int,.dat .int,.dat (.slice tSh),.row 3 .int .yes,.row 34 (.slice .int) .no,.row 3 .int .unk]
namespace U
def kg:List Int:=[]
def zW (b:jGb.D):RoD:=(((b.1,b.2.1,b.2.2.1,()),b.2.2.2.1,b.2.2.2.2.1,b.2.2.2.2.2.1,b.2.2.2.2.2.2.1,b.2.2.2.2.2.2.2.1,()),b.2.2.2.2.2.2.2.2.1,b.2.2.2.2.2.2.2.2.2.1,b.2.2.2.2.2.2.2.2.2.2.1,())
def wX (b:jGb.D) (x:List (List Int)×List Int):jGb.D:=(b.1,b.2.1,b.2.2.1,b.2.2.2.1,b.2.2.2.2.1,b.2.2.2.2.2.1,b.2.2.2.2.2.2.1,b.2.2.2.2.2.2.2.1,b.2.2.2.2.2.2.2.2.1,x.1,x.2,())
def vi (s:ShD):Int×Int×Unit:=(jdq s,qE s,())
def zN (l:List ShD) (n:Nat):List ((Int×Int×Unit)×ShD):=(l.take n).foldl (fun m s=>jex tSt (vi s) s m) []
def kK (m:List ((Int×Int×Unit)×ShD)) (s:ShD):Bool:= !(!decide (wh (Ty.dflt tSh) (zU tSt (vi s) m)=s)|| !decide (jyd s=1))
def jpi (d:DyD) (kE:List Int) (m:List ((Int×Int×Unit)×ShD)) (x:List (List Int)×List Int) (s:ShD):List (List Int)×List Int:=
 if kK m s=true then(if joI d kE (qE s) (nth x.1 (qE s).toNat++[jdq s])=true then(x.1.set (qE s).toNat (nth x.1 (qE s).toNat++[jdq s]),x.2) else(x.1,x.2++[wo s])) else x
def jGZ (l:List ShD):List ShD:=jd (ji tSh fun x=>(jx x.1 x.2.1,())) l
def j6 (d:DyD):List ShD:=jGZ (zf (zc d))
def ky (r:RoD) (l:List ShD) (n:Nat):List (List Int)×List Int:=(l.take n).foldl (jpi (rd r) (jak r) (zN l l.length)) (jY r,jGc r)
def zg (r:RoD):List (List Int)×List Int:=((ky r (j6 (rd r)) (j6 (rd r)).length).1,jfu (ky r (j6 (rd r)) (j6 (rd r)).length).2)
def jBJ (l:List (List Int)):Prop:=∀x∈l,x=kg
def jwg (r:RoD):Prop:=(jz (rd r)=0/\(jak r).length=(jq (rd r)).length)/\((jY r).length=(je (jb (rd r))).length/\jBJ (jY r))/\jGc r=kg
def yU (r:RoD) (l:List ShD) (n:Nat) (x:List (List Int)×List Int):Prop:=x.1.length=(je (jb (rd r))).length/\x.2.length<=n/\∀p:Nat,(nth x.1 p).Nodup/\∀b∈nth x.1 p,kz (rd r) b/\∃i:Nat,i<n/\vi (nth l i)=(b,(p:Int),())/\wh (Ty.dflt tSh) (zU tSt (vi (nth l i)) (zN l l.length))=nth l i
end U
def bx (σ:St) (o:Nat):List SV:=match σ.obj o with|some (.box _ _ cs)=>cs|_=>[]
def gb (t:Ty) (σ:St) (o:Nat):t.Data:=match wB σ t (bx σ o) with|some (x,_)=>x|none=>t.dflt
abbrev jly:zP:=jyb 3
def jgS:zP:=⟨[.own jGb true],[],fun d=>[U.jwg (U.zW d.1)],fun d=>((),(U.wX d.1 (U.zg (U.zW d.1)),()))⟩
def jhs:Ann:=fun r=>match r with
 |4=>some fun σ=>{X:=Nat,sl:=fun i=>[(20,.dat .int (i:Int))],ob:=fun i=>[(9,some (.map false tSt tSh (U.zN (gr tSh σ 3) i)))],inv:=fun i=>i<=(gr tSh σ 3).length,mu:=fun i=>(gr tSh σ 3).length-i}
 |9=>some fun σ=>{X:=Nat,sl:=fun i=>[(34,.dat .int (i:Int))],ob:=fun i=>[(400009,some (.row 34 (.slice .int) false .no (U.ky (gb tRo σ 1000000) (gr tSh σ 3) i).1)),(400010,some (.row 3 .int false .unk (U.ky (gb tRo σ 1000000) (gr tSh σ 3) i).2))],inv:=fun i=>i<=(gr tSh σ 3).length/\U.yU (gb tRo σ 1000000) (gr tSh σ 3) i (U.ky (gb tRo σ 1000000) (gr tSh σ 3) i),mu:=fun i=>(gr tSh σ 3).length-i}
 |_=>none
abbrev q95_2 (d:(Int×List PeD×List LwD×List (List (Int×Int×Unit))×List BkD×Int×Int×List ShD×List Int×List (List Int)×List Int×Unit)×Unit):=(U.zf d.1.2.2.2.2.2.2.2.1)
abbrev q95_3 (d:(Int×List PeD×List LwD×List (List (Int×Int×Unit))×List BkD×Int×Int×List ShD×List Int×List (List Int)×List Int×Unit)×Unit):=((d.1.1,d.1.2.1,d.1.2.2.1,()),d.1.2.2.2.1,d.1.2.2.2.2.1,d.1.2.2.2.2.2.1,d.1.2.2.2.2.2.2.1,d.1.2.2.2.2.2.2.2.1,())
abbrev q95_1 (d:(Int×List PeD×List LwD×List (List (Int×Int×Unit))×List BkD×Int×Int×List ShD×List Int×List (List Int)×List Int×Unit)×Unit):=((q95_3 d),d.1.2.2.2.2.2.2.2.2)
abbrev q95_4:=(Ty.int.pair (Ty.int.pair Ty.unit))
abbrev q95_0:=(Ty.int.pair (Ty.int.pair (Ty.int.pair q95_4)))
abbrev q95_5:=((0:Int),(0:Int),(0:Int),(0:Int),(0:Int),())
def jgH:Prop:=∀(d:(Int×List PeD×List LwD×List (List (Int×Int×Unit))×List BkD×Int×Int×List ShD×List Int×List (List Int)×List Int×Unit)×Unit),U.jwg (U.zW d.1)->d.1.2.2.2.2.2.2.2.1.length<=100000/\(∀(u0:ShD),u0∈U.zf d.1.2.2.2.2.2.2.2.1->∀(y:ShD),y∈U.zf d.1.2.2.2.2.2.2.2.1->U.jG [])/\kZ (U.ji q95_0 fun(z0:ShD×ShD×Unit)=>(U.jx z0.1 z0.2.1,())) (q95_2 d)/\((U.jd (U.ji q95_0 fun(z1:ShD×ShD×Unit)=>(U.jx z1.1 z1.2.1,())) (q95_2 d)).length<4611686018427387904->(∃(x:Nat),((0=(x:Int)/\True)/\[]=U.zN (U.jd (U.ji q95_0 fun(z2:ShD×ShD×Unit)=>(U.jx z2.1 z2.2.1,())) (q95_2 d)) x/\True)/\x<=(U.jd (U.ji q95_0 fun(z3:ShD×ShD×Unit)=>(U.jx z3.1 z3.2.1,())) (q95_2 d)).length)/\∀(x:Nat),x<=(U.jd (U.ji q95_0 fun(z4:ShD×ShD×Unit)=>(U.jx z4.1 z4.2.1,())) (q95_2 d)).length->(decide ((x:Int)<(↑(U.jd (U.ji q95_0 fun(z5:ShD×ShD×Unit)=>(U.jx z5.1 z5.2.1,())) (q95_2 d)).length:Int))=true->0<=(x:Int)/\(x:Int)<(↑(U.jd (U.ji q95_0 fun(z6:ShD×ShD×Unit)=>(U.jx z6.1 z6.2.1,())) (q95_2 d)).length:Int)/\jy ((x:Int)+1)/\∃(b:Nat),(((x:Int)+1=(b:Int)/\True)/\jex q95_4 (nth (U.jd (U.ji q95_0 fun(z7:ShD×ShD×Unit)=>(U.jx z7.1 z7.2.1,())) (q95_2 d)) (x:Int).toNat).2.2.2 (nth (U.jd (U.ji q95_0 fun(z8:ShD×ShD×Unit)=>(U.jx z8.1 z8.2.1,())) (q95_2 d)) (x:Int).toNat) (U.zN (U.jd (U.ji q95_0 fun(z9:ShD×ShD×Unit)=>(U.jx z9.1 z9.2.1,())) (q95_2 d)) x)=U.zN (U.jd (U.ji q95_0 fun(v:ShD×ShD×Unit)=>(U.jx v.1 v.2.1,())) (q95_2 d)) b/\True)/\b<=(U.jd (U.ji q95_0 fun(w:ShD×ShD×Unit)=>(U.jx w.1 w.2.1,())) (q95_2 d)).length/\(U.jd (U.ji q95_0 fun(z:ShD×ShD×Unit)=>(U.jx z.1 z.2.1,())) (q95_2 d)).length-b<(U.jd (U.ji q95_0 fun(A:ShD×ShD×Unit)=>(U.jx A.1 A.2.1,())) (q95_2 d)).length-x)/\(decide ((x:Int)<(↑(U.jd (U.ji q95_0 fun(B:ShD×ShD×Unit)=>(U.jx B.1 B.2.1,())) (q95_2 d)).length:Int))=false->(U.jd (U.ji q95_0 fun(C:ShD×ShD×Unit)=>(U.jx C.1 C.2.1,())) (q95_2 d)).length<4611686018427387904->(∃(x:Nat),((0=(x:Int)/\True)/\d.1.2.2.2.2.2.2.2.2.2.1=(U.ky (q95_1 d) (U.jd (U.ji q95_0 fun(D:ShD×ShD×Unit)=>(U.jx D.1 D.2.1,())) (q95_2 d)) x).1/\d.1.2.2.2.2.2.2.2.2.2.2.1=(U.ky (q95_1 d) (U.jd (U.ji q95_0 fun(E:ShD×ShD×Unit)=>(U.jx E.1 E.2.1,())) (q95_2 d)) x).2/\True)/\x<=(U.jd (U.ji q95_0 fun(F:ShD×ShD×Unit)=>(U.jx F.1 F.2.1,())) (q95_2 d)).length/\U.yU (q95_1 d) (U.jd (U.ji q95_0 fun(G:ShD×ShD×Unit)=>(U.jx G.1 G.2.1,())) (q95_2 d)) x (U.ky (q95_1 d) (U.jd (U.ji q95_0 fun(H:ShD×ShD×Unit)=>(U.jx H.1 H.2.1,())) (q95_2 d)) x))/\∀(a:Nat),a<=(U.jd (U.ji q95_0 fun(I:ShD×ShD×Unit)=>(U.jx I.1 I.2.1,())) (q95_2 d)).length/\U.yU (q95_1 d) (U.jd (U.ji q95_0 fun(J:ShD×ShD×Unit)=>(U.jx J.1 J.2.1,())) (q95_2 d)) a (U.ky (q95_1 d) (U.jd (U.ji q95_0 fun(K:ShD×ShD×Unit)=>(U.jx K.1 K.2.1,())) (q95_2 d)) a)->(decide ((a:Int)<(↑(U.jd (U.ji q95_0 fun(L:ShD×ShD×Unit)=>(U.jx L.1 L.2.1,())) (q95_2 d)).length:Int))=true->0<=(a:Int)/\(a:Int)<(↑(U.jd (U.ji q95_0 fun(M:ShD×ShD×Unit)=>(U.jx M.1 M.2.1,())) (q95_2 d)).length:Int)/\((!decide (wh q95_5 (zU q95_4 (nth (U.jd (U.ji q95_0 fun(N:ShD×ShD×Unit)=>(U.jx N.1 N.2.1,())) (q95_2 d)) (a:Int).toNat).2.2.2 (U.zN (U.jd (U.ji q95_0 fun(O:ShD×ShD×Unit)=>(U.jx O.1 O.2.1,())) (q95_2 d)) x))=nth (U.jd (U.ji q95_0 fun(P:ShD×ShD×Unit)=>(U.jx P.1 P.2.1,())) (q95_2 d)) (a:Int).toNat)||decide ((nth (U.jd (U.ji q95_0 fun(Q:ShD×ShD×Unit)=>(U.jx Q.1 Q.2.1,())) (q95_2 d)) (a:Int).toNat).2.2.1≠1))=true->jy ((a:Int)+1)/\∃(b:Nat),(((a:Int)+1=(b:Int)/\True)/\(U.ky (q95_1 d) (U.jd (U.ji q95_0 fun(R:ShD×ShD×Unit)=>(U.jx R.1 R.2.1,())) (q95_2 d)) a).2=(U.ky (q95_1 d) (U.jd (U.ji q95_0 fun(S:ShD×ShD×Unit)=>(U.jx S.1 S.2.1,())) (q95_2 d)) b).2/\(U.ky (q95_1 d) (U.jd (U.ji q95_0 fun(T:ShD×ShD×Unit)=>(U.jx T.1 T.2.1,())) (q95_2 d)) a).1=(U.ky (q95_1 d) (U.jd (U.ji q95_0 fun(V:ShD×ShD×Unit)=>(U.jx V.1 V.2.1,())) (q95_2 d)) b).1/\True)/\(b<=(U.jd (U.ji q95_0 fun(W:ShD×ShD×Unit)=>(U.jx W.1 W.2.1,())) (q95_2 d)).length/\U.yU (q95_1 d) (U.jd (U.ji q95_0 fun(X:ShD×ShD×Unit)=>(U.jx X.1 X.2.1,())) (q95_2 d)) b (U.ky (q95_1 d) (U.jd (U.ji q95_0 fun(Y:ShD×ShD×Unit)=>(U.jx Y.1 Y.2.1,())) (q95_2 d)) b))/\(U.jd (U.ji q95_0 fun(Z:ShD×ShD×Unit)=>(U.jx Z.1 Z.2.1,())) (q95_2 d)).length-b<(U.jd (U.ji q95_0 fun(z38:ShD×ShD×Unit)=>(U.jx z38.1 z38.2.1,())) (q95_2 d)).length-a)/\((!decide (wh q95_5 (zU q95_4 (nth (U.jd (U.ji q95_0 fun(z39:ShD×ShD×Unit)=>(U.jx z39.1 z39.2.1,())) (q95_2 d)) (a:Int).toNat).2.2.2 (U.zN (U.jd (U.ji q95_0 fun(z40:ShD×ShD×Unit)=>(U.jx z40.1 z40.2.1,())) (q95_2 d)) x))=nth (U.jd (U.ji q95_0 fun(z41:ShD×ShD×Unit)=>(U.jx z41.1 z41.2.1,())) (q95_2 d)) (a:Int).toNat)||decide ((nth (U.jd (U.ji q95_0 fun(z42:ShD×ShD×Unit)=>(U.jx z42.1 z42.2.1,())) (q95_2 d)) (a:Int).toNat).2.2.1≠1))=false->(0:Int)<=(nth (U.jd (U.ji q95_0 fun(z43:ShD×ShD×Unit)=>(U.jx z43.1 z43.2.1,())) (q95_2 d)) (a:Int).toNat).2.2.2.2.1/\(nth (U.jd (U.ji q95_0 fun(z44:ShD×ShD×Unit)=>(U.jx z44.1 z44.2.1,())) (q95_2 d)) (a:Int).toNat).2.2.2.2.1<(↑(U.ky (q95_1 d) (U.jd (U.ji q95_0 fun(z45:ShD×ShD×Unit)=>(U.jx z45.1 z45.2.1,())) (q95_2 d)) a).1.length:Int)/\(0:Int)<=(nth (U.jd (U.ji q95_0 fun(z46:ShD×ShD×Unit)=>(U.jx z46.1 z46.2.1,())) (q95_2 d)) (a:Int).toNat).2.2.2.2.1/\(nth (U.jd (U.ji q95_0 fun(z47:ShD×ShD×Unit)=>(U.jx z47.1 z47.2.1,())) (q95_2 d)) (a:Int).toNat).2.2.2.2.1<(↑(U.ky (q95_1 d) (U.jd (U.ji q95_0 fun(z48:ShD×ShD×Unit)=>(U.jx z48.1 z48.2.1,())) (q95_2 d)) a).1.length:Int)/\(0:Int)<=(nth (U.jd (U.ji q95_0 fun(z49:ShD×ShD×Unit)=>(U.jx z49.1 z49.2.1,())) (q95_2 d)) (a:Int).toNat).2.2.2.2.1/\(nth (U.jd (U.ji q95_0 fun(z50:ShD×ShD×Unit)=>(U.jx z50.1 z50.2.1,())) (q95_2 d)) (a:Int).toNat).2.2.2.2.1<(↑(U.ky (q95_1 d) (U.jd (U.ji q95_0 fun(z51:ShD×ShD×Unit)=>(U.jx z51.1 z51.2.1,())) (q95_2 d)) a).1.length:Int)/\(↑(nth (U.ky (q95_1 d) (U.jd (U.ji q95_0 fun(z52:ShD×ShD×Unit)=>(U.jx z52.1 z52.2.1,())) (q95_2 d)) a).1 (nth (U.jd (U.ji q95_0 fun(z53:ShD×ShD×Unit)=>(U.jx z53.1 z53.2.1,())) (q95_2 d)) (a:Int).toNat).2.2.2.2.1.toNat).length:Int)=(↑(nth (U.ky (q95_1 d) (U.jd (U.ji q95_0 fun(z54:ShD×ShD×Unit)=>(U.jx z54.1 z54.2.1,())) (q95_2 d)) a).1 (nth (U.jd (U.ji q95_0 fun(z55:ShD×ShD×Unit)=>(U.jx z55.1 z55.2.1,())) (q95_2 d)) (a:Int).toNat).2.2.2.2.1.toNat).length:Int)/\(↑(nth (U.ky (q95_1 d) (U.jd (U.ji q95_0 fun(z56:ShD×ShD×Unit)=>(U.jx z56.1 z56.2.1,())) (q95_2 d)) a).1 (nth (U.jd (U.ji q95_0 fun(z57:ShD×ShD×Unit)=>(U.jx z57.1 z57.2.1,())) (q95_2 d)) (a:Int).toNat).2.2.2.2.1.toNat).length:Int)=(↑(nth (U.ky (q95_1 d) (U.jd (U.ji q95_0 fun(z58:ShD×ShD×Unit)=>(U.jx z58.1 z58.2.1,())) (q95_2 d)) a).1 (nth (U.jd (U.ji q95_0 fun(z59:ShD×ShD×Unit)=>(U.jx z59.1 z59.2.1,())) (q95_2 d)) (a:Int).toNat).2.2.2.2.1.toNat).length:Int)/\((nth (U.ky (q95_1 d) (U.jd (U.ji q95_0 fun(z60:ShD×ShD×Unit)=>(U.jx z60.1 z60.2.1,())) (q95_2 d)) a).1 (nth (U.jd (U.ji q95_0 fun(z61:ShD×ShD×Unit)=>(U.jx z61.1 z61.2.1,())) (q95_2 d)) (a:Int).toNat).2.2.2.2.1.toNat).length+[(nth (U.jd (U.ji q95_0 fun(z62:ShD×ShD×Unit)=>(U.jx z62.1 z62.2.1,())) (q95_2 d)) (a:Int).toNat).2.2.2.1].length)*8<=140737488355328/\(some ((q95_3 d),d.1.2.2.2.2.2.2.2.2.1,(U.ky (q95_1 d) (U.jd (U.ji q95_0 fun(z63:ShD×ShD×Unit)=>(U.jx z63.1 z63.2.1,())) (q95_2 d)) a).1,(U.ky (q95_1 d) (U.jd (U.ji q95_0 fun(z64:ShD×ShD×Unit)=>(U.jx z64.1 z64.2.1,())) (q95_2 d)) a).2,())).isSome=true/\U.jag (U.ro (some ((q95_3 d),d.1.2.2.2.2.2.2.2.2.1,(U.ky (q95_1 d) (U.jd (U.ji q95_0 fun(z65:ShD×ShD×Unit)=>(U.jx z65.1 z65.2.1,())) (q95_2 d)) a).1,(U.ky (q95_1 d) (U.jd (U.ji q95_0 fun(z66:ShD×ShD×Unit)=>(U.jx z66.1 z66.2.1,())) (q95_2 d)) a).2,())))/\U.jn0 (U.rd (U.ro (some ((q95_3 d),d.1.2.2.2.2.2.2.2.2.1,(U.ky (q95_1 d) (U.jd (U.ji q95_0 fun(z67:ShD×ShD×Unit)=>(U.jx z67.1 z67.2.1,())) (q95_2 d)) a).1,(U.ky (q95_1 d) (U.jd (U.ji q95_0 fun(z68:ShD×ShD×Unit)=>(U.jx z68.1 z68.2.1,())) (q95_2 d)) a).2,())))) (nth (U.jd (U.ji q95_0 fun(z69:ShD×ShD×Unit)=>(U.jx z69.1 z69.2.1,())) (q95_2 d)) (a:Int).toNat).2.2.2.2.1/\U.jfQ (U.rd (U.ro (some ((q95_3 d),d.1.2.2.2.2.2.2.2.2.1,(U.ky (q95_1 d) (U.jd (U.ji q95_0 fun(z70:ShD×ShD×Unit)=>(U.jx z70.1 z70.2.1,())) (q95_2 d)) a).1,(U.ky (q95_1 d) (U.jd (U.ji q95_0 fun(z71:ShD×ShD×Unit)=>(U.jx z71.1 z71.2.1,())) (q95_2 d)) a).2,())))) (nth (U.ky (q95_1 d) (U.jd (U.ji q95_0 fun(z72:ShD×ShD×Unit)=>(U.jx z72.1 z72.2.1,())) (q95_2 d)) a).1 (nth (U.jd (U.ji q95_0 fun(z73:ShD×ShD×Unit)=>(U.jx z73.1 z73.2.1,())) (q95_2 d)) (a:Int).toNat).2.2.2.2.1.toNat++[(nth (U.jd (U.ji q95_0 fun(z74:ShD×ShD×Unit)=>(U.jx z74.1 z74.2.1,())) (q95_2 d)) (a:Int).toNat).2.2.2.1])/\(U.gE (U.ro (some ((q95_3 d),d.1.2.2.2.2.2.2.2.2.1,(U.ky (q95_1 d) (U.jd (U.ji q95_0 fun(z75:ShD×ShD×Unit)=>(U.jx z75.1 z75.2.1,())) (q95_2 d)) a).1,(U.ky (q95_1 d) (U.jd (U.ji q95_0 fun(z76:ShD×ShD×Unit)=>(U.jx z76.1 z76.2.1,())) (q95_2 d)) a).2,()))) (nth (U.jd (U.ji q95_0 fun(z77:ShD×ShD×Unit)=>(U.jx z77.1 z77.2.1,())) (q95_2 d)) (a:Int).toNat).2.2.2.2.1 (nth (U.ky (q95_1 d) (U.jd (U.ji q95_0 fun(z78:ShD×ShD×Unit)=>(U.jx z78.1 z78.2.1,())) (q95_2 d)) a).1 (nth (U.jd (U.ji q95_0 fun(z79:ShD×ShD×Unit)=>(U.jx z79.1 z79.2.1,())) (q95_2 d)) (a:Int).toNat).2.2.2.2.1.toNat++[(nth (U.jd (U.ji q95_0 fun(z80:ShD×ShD×Unit)=>(U.jx z80.1 z80.2.1,())) (q95_2 d)) (a:Int).toNat).2.2.2.1])=true->(0:Int)<=(nth (U.jd (U.ji q95_0 fun(z81:ShD×ShD×Unit)=>(U.jx z81.1 z81.2.1,())) (q95_2 d)) (a:Int).toNat).2.2.2.2.1/\(nth (U.jd (U.ji q95_0 fun(z82:ShD×ShD×Unit)=>(U.jx z82.1 z82.2.1,())) (q95_2 d)) (a:Int).toNat).2.2.2.2.1<(↑(U.ky (q95_1 d) (U.jd (U.ji q95_0 fun(z83:ShD×ShD×Unit)=>(U.jx z83.1 z83.2.1,())) (q95_2 d)) a).1.length:Int)/\jy ((a:Int)+1)/\∃(b:Nat),(((a:Int)+1=(b:Int)/\True)/\(U.ky (q95_1 d) (U.jd (U.ji q95_0 fun(z84:ShD×ShD×Unit)=>(U.jx z84.1 z84.2.1,())) (q95_2 d)) a).2=(U.ky (q95_1 d) (U.jd (U.ji q95_0 fun(z85:ShD×ShD×Unit)=>(U.jx z85.1 z85.2.1,())) (q95_2 d)) b).2/\(U.ky (q95_1 d) (U.jd (U.ji q95_0 fun(z86:ShD×ShD×Unit)=>(U.jx z86.1 z86.2.1,())) (q95_2 d)) a).1.set (nth (U.jd (U.ji q95_0 fun(z87:ShD×ShD×Unit)=>(U.jx z87.1 z87.2.1,())) (q95_2 d)) (a:Int).toNat).2.2.2.2.1.toNat (nth (U.ky (q95_1 d) (U.jd (U.ji q95_0 fun(z88:ShD×ShD×Unit)=>(U.jx z88.1 z88.2.1,())) (q95_2 d)) a).1 (nth (U.jd (U.ji q95_0 fun(z89:ShD×ShD×Unit)=>(U.jx z89.1 z89.2.1,())) (q95_2 d)) (a:Int).toNat).2.2.2.2.1.toNat++[(nth (U.jd (U.ji q95_0 fun(z90:ShD×ShD×Unit)=>(U.jx z90.1 z90.2.1,())) (q95_2 d)) (a:Int).toNat).2.2.2.1])=(U.ky (q95_1 d) (U.jd (U.ji q95_0 fun(z91:ShD×ShD×Unit)=>(U.jx z91.1 z91.2.1,())) (q95_2 d)) b).1/\True)/\(b<=(U.jd (U.ji q95_0 fun(z92:ShD×ShD×Unit)=>(U.jx z92.1 z92.2.1,())) (q95_2 d)).length/\U.yU (q95_1 d) (U.jd (U.ji q95_0 fun(z93:ShD×ShD×Unit)=>(U.jx z93.1 z93.2.1,())) (q95_2 d)) b (U.ky (q95_1 d) (U.jd (U.ji q95_0 fun(z94:ShD×ShD×Unit)=>(U.jx z94.1 z94.2.1,())) (q95_2 d)) b))/\(U.jd (U.ji q95_0 fun(z95:ShD×ShD×Unit)=>(U.jx z95.1 z95.2.1,())) (q95_2 d)).length-b<(U.jd (U.ji q95_0 fun(z96:ShD×ShD×Unit)=>(U.jx z96.1 z96.2.1,())) (q95_2 d)).length-a)/\(U.gE (U.ro (some ((q95_3 d),d.1.2.2.2.2.2.2.2.2.1,(U.ky (q95_1 d) (U.jd (U.ji q95_0 fun(z97:ShD×ShD×Unit)=>(U.jx z97.1 z97.2.1,())) (q95_2 d)) a).1,(U.ky (q95_1 d) (U.jd (U.ji q95_0 fun(z98:ShD×ShD×Unit)=>(U.jx z98.1 z98.2.1,())) (q95_2 d)) a).2,()))) (nth (U.jd (U.ji q95_0 fun(z99:ShD×ShD×Unit)=>(U.jx z99.1 z99.2.1,())) (q95_2 d)) (a:Int).toNat).2.2.2.2.1 (nth (U.ky (q95_1 d) (U.jd (U.ji q95_0 fun(c:ShD×ShD×Unit)=>(U.jx c.1 c.2.1,())) (q95_2 d)) a).1 (nth (U.jd (U.ji q95_0 fun(e:ShD×ShD×Unit)=>(U.jx e.1 e.2.1,())) (q95_2 d)) (a:Int).toNat).2.2.2.2.1.toNat++[(nth (U.jd (U.ji q95_0 fun(f:ShD×ShD×Unit)=>(U.jx f.1 f.2.1,())) (q95_2 d)) (a:Int).toNat).2.2.2.1])=false->((U.ky (q95_1 d) (U.jd (U.ji q95_0 fun(g:ShD×ShD×Unit)=>(U.jx g.1 g.2.1,())) (q95_2 d)) a).2.length+[(nth (U.jd (U.ji q95_0 fun(h:ShD×ShD×Unit)=>(U.jx h.1 h.2.1,())) (q95_2 d)) (a:Int).toNat).1].length)*8<=140737488355328/\jy ((a:Int)+1)/\∃(b:Nat),(((a:Int)+1=(b:Int)/\True)/\(U.ky (q95_1 d) (U.jd (U.ji q95_0 fun(i:ShD×ShD×Unit)=>(U.jx i.1 i.2.1,())) (q95_2 d)) a).1=(U.ky (q95_1 d) (U.jd (U.ji q95_0 fun(j:ShD×ShD×Unit)=>(U.jx j.1 j.2.1,())) (q95_2 d)) b).1/\(d.1.1=d.1.1/\d.1.2.1=d.1.2.1/\d.1.2.2.1=d.1.2.2.1/\d.1.2.2.2.1=d.1.2.2.2.1/\d.1.2.2.2.2.1=d.1.2.2.2.2.1/\d.1.2.2.2.2.2.1=d.1.2.2.2.2.2.1/\d.1.2.2.2.2.2.2.1=d.1.2.2.2.2.2.2.1/\d.1.2.2.2.2.2.2.2.1=d.1.2.2.2.2.2.2.2.1/\True/\True/\True/\True)/\(U.ky (q95_1 d) (U.jd (U.ji q95_0 fun(k:ShD×ShD×Unit)=>(U.jx k.1 k.2.1,())) (q95_2 d)) a).2++[(nth (U.jd (U.ji q95_0 fun(l:ShD×ShD×Unit)=>(U.jx l.1 l.2.1,())) (q95_2 d)) (a:Int).toNat).1]=(U.ky (q95_1 d) (U.jd (U.ji q95_0 fun(m:ShD×ShD×Unit)=>(U.jx m.1 m.2.1,())) (q95_2 d)) b).2/\True)/\(b<=(U.jd (U.ji q95_0 fun(n:ShD×ShD×Unit)=>(U.jx n.1 n.2.1,())) (q95_2 d)).length/\U.yU (q95_1 d) (U.jd (U.ji q95_0 fun(o:ShD×ShD×Unit)=>(U.jx o.1 o.2.1,())) (q95_2 d)) b (U.ky (q95_1 d) (U.jd (U.ji q95_0 fun(p:ShD×ShD×Unit)=>(U.jx p.1 p.2.1,())) (q95_2 d)) b))/\(U.jd (U.ji q95_0 fun(q:ShD×ShD×Unit)=>(U.jx q.1 q.2.1,())) (q95_2 d)).length-b<(U.jd (U.ji q95_0 fun(r:ShD×ShD×Unit)=>(U.jx r.1 r.2.1,())) (q95_2 d)).length-a)))/\(decide ((a:Int)<(↑(U.jd (U.ji q95_0 fun(s:ShD×ShD×Unit)=>(U.jx s.1 s.2.1,())) (q95_2 d)).length:Int))=false->()=()/\((d.1.1,d.1.2.1,d.1.2.2.1,d.1.2.2.2.1,d.1.2.2.2.2.1,d.1.2.2.2.2.2.1,d.1.2.2.2.2.2.2.1,d.1.2.2.2.2.2.2.2.1,d.1.2.2.2.2.2.2.2.2.1,(U.ky (q95_1 d) (U.jd (U.ji q95_0 fun(t:ShD×ShD×Unit)=>(U.jx t.1 t.2.1,())) (q95_2 d)) a).1,U.jfu (U.ky (q95_1 d) (U.jd (U.ji q95_0 fun(u:ShD×ShD×Unit)=>(U.jx u.1 u.2.1,())) (q95_2 d)) a).2,()),())=(U.wX d.1 (U.zg (U.zW d.1)),()))))
end Go.X
namespace Go.X
open Go.Proofs
theorem zi {d:DyD} (h:U.jz d=0):U.jgD d/\∀a∈U.zc d,∀b∈U.zc d,U.wo a=U.wo b->a=b:=by
 unfold U.jz U.jk4 at h;cases c:U.jl (U.jb d) with
 |false=>rw[c] at h;simp at h
 |true=>
  cases e:U.jwq d with
  |false=>rw[c,e] at h;simp at h
  |true=>
   cases f:U.zL d with
   |false=>rw[c,e,f] at h;simp at h
   |true=>
    cases g:U.jxx (U.zf (U.zc d)) with
    |true=>rw[c,e,f,g] at h;simp at h
    |false=>exact⟨⟨c,e,f⟩,(jAa _).1 g⟩
theorem jEH:jbS U.jx:=by
 have e:U.jx=jAY (fun a b=>U.jaB (U.jjq a) (U.jjq b)) (fun a b=>U.jaB (U.wo a) (U.wo b)):=by
  funext a b;unfold U.jx;rw[zK,wK];rfl
 rw[e];exact jg6 (jhD jgo U.jjq) (jhD jgo U.wo)
theorem jAs {a b:ShD} (h:U.jx a b=0):U.wo a=U.wo b:=by
 unfold U.jx at h;rw[zK,wK] at h
 split at h
 .contradiction
 .exact vX.1 h
theorem jGK {d:DyD} (h:U.jz d=0):kZ (U.ji tSh fun x=>(U.jx x.1 x.2.1,())) (U.zf (U.zc d)):=
 jnR jEH (fun a b e f c=>(zi h).2 a (jeO.1 e) b (jeO.1 f) (jAs c))
theorem vF {d:DyD} {s:ShD}:s∈U.j6 d↔s∈U.zc d:=((zB _).mem_iff).trans jeO
theorem ve (d:DyD):(U.j6 d).Nodup:=(zB _).nodup_iff.2 (jq0 _)
theorem jDN (d:DyD):(U.j6 d).length<=(U.zc d).length:=by
 unfold U.j6 U.jGZ;rw[(zB _).length_eq];exact jAj _
theorem jfw {d:DyD} (h:U.zL d=true) {s:ShD} (a:s∈U.zc d):(0<=U.qE s/\U.qE s<((U.je (U.jb d)).length:Int))/\U.kz d (U.jdq s):=by
 have:=(za h).2.2.2.2.2.2.2 _ a;unfold U.jaf at this;have:=of_decide_eq_true this;unfold U.kz;omega
theorem jkj {l:List ShD} {i:Nat} (h:i<l.length):U.zN l (i+1)=jex tSt (U.vi (nth l i)) (nth l i) (U.zN l i):=by
 unfold U.zN;rw[L.take_succ h,jHk];rfl
theorem jfn {r:RoD} {l:List ShD} {i:Nat} (h:i<l.length):U.ky r l (i+1)=U.jpi (U.rd r) (U.jak r) (U.zN l l.length) (U.ky r l i) (nth l i):=by
 unfold U.ky;rw[L.take_succ h,jHk];rfl
theorem jFg {d:DyD} {l:List Int} (c:l.Nodup) (a:∀b∈l,U.kz d b):l.length<=(U.jq d).length:=by
 have:=L.nodup_len l ((List.range (U.jq d).length).map (fun(b:Nat)=>(b:Int))) c (fun x e=>by
  have:=a x e;unfold U.kz at this;exact jHy.2 ⟨x.toNat,jHj.2 (by omega),by omega⟩)
 simpa using this
section
variable {r:RoD} {l:List ShD} {i:Nat}
theorem jue (u:U.zL (U.rd r)=true) (v:∀s∈l,s∈U.zc (U.rd r)) (nd:l.Nodup) (h:i<l.length) {x:List (List Int)×List Int} (y:U.yU (U.rd r,U.jak r,U.jY r,U.jGc r,()) l i x)
 (k:U.kK (U.zN l l.length) (nth l i)=true):(nth x.1 (U.qE (nth l i)).toNat++[U.jdq (nth l i)]).Nodup/\(∀b∈nth x.1 (U.qE (nth l i)).toNat++[U.jdq (nth l i)],U.kz (U.rd r) b)/\
  ∀b∈nth x.1 (U.qE (nth l i)).toNat++[U.jdq (nth l i)],∃j:Nat,j<i+1/\U.vi (nth l j)=(b,((U.qE (nth l i)).toNat:Int),())/\wh (Ty.dflt tSh) (zU tSt (U.vi (nth l j)) (U.zN l l.length))=nth l j:=by
 obtain⟨A,B,q⟩:=y;have w:=jfw u (v _ (L.mem_nth h));have d:wh (Ty.dflt tSh) (zU tSt (U.vi (nth l i)) (U.zN l l.length))=nth l i:=by
  unfold U.kK at k;simp only[jHB,jHt,jHT,decide_eq_true_eq] at k;exact k.1
 have o:((U.qE (nth l i)).toNat:Int)=U.qE (nth l i):=(by omega);obtain⟨z,m⟩:=q (U.qE (nth l i)).toNat;refine⟨?_,fun b c=> ?_,fun b c=> ?_⟩
 .refine jHZ.2 ⟨z,by simp,fun a t b c e=> ?_⟩;simp at c;subst c;subst e;obtain⟨_,j,n,f,g⟩:=m _ t;rw[o] at f;have p:U.vi (nth l j)=U.vi (nth l i):=f;rw[p,d] at g;have:=(List.nodup_iff_pairwise_ne.1 nd);rw[jH5] at this;refine this j i (by omega) h n ?_;rw[<-L.nth_lt,<-L.nth_lt h];exact g.symm
 .rcases jHa.1 c with c|c
  .exact(m b c).1
  .simp at c;subst c;exact w.2
 .rcases jHa.1 c with c|c
  .obtain⟨_,j,n,f,g⟩:=m b c;exact⟨j,by omega,f,g⟩
  .simp at c;subst c;exact⟨i,by omega,by rw[o];rfl,d⟩
theorem jzx {r:RoD} {x:List (List Int)×List Int} (a:U.yU r l i x):U.yU r l (i+1) x:=
 ⟨a.1,by have:=a.2.1;omega,fun p=>⟨(a.2.2 p).1,fun b c=>⟨((a.2.2 p).2 b c).1,by
  obtain⟨j,d,e⟩:=((a.2.2 p).2 b c).2
  exact⟨j,by omega,e⟩⟩⟩⟩
theorem jCZ (g:U.zL (U.rd r)=true) (j:∀s∈l,s∈U.zc (U.rd r)) (nd:l.Nodup) (h:i<l.length) {x:List (List Int)×List Int} (a:U.yU r l i x):
 U.yU r l (i+1) (U.jpi (U.rd r) (U.jak r) (U.zN l l.length) x (nth l i)):=by
 unfold U.jpi;cases k:U.kK (U.zN l l.length) (nth l i) with
 |false=>rw[if_neg (by simp)];exact jzx a
 |true=>
  rw[if_pos rfl];have d:=jue g j nd h a k;have m:=jfw g (j _ (L.mem_nth h))
  split
  .refine⟨by show(x.1.set _ _).length=_;rw[List.length_set];exact a.1,by have:=a.2.1;show x.2.length<=_;omega,fun p=> ?_⟩;have c:(U.qE (nth l i)).toNat<x.1.length:=(by rw[a.1];omega);show(nth (x.1.set (U.qE (nth l i)).toNat (nth x.1 (U.qE (nth l i)).toNat++[U.jdq (nth l i)])) p).Nodup/\_;rw[L.nth_set c]
   split
   .rename_i e;subst e;exact⟨d.1,fun b f=>⟨d.2.1 b f,d.2.2 b f⟩⟩
   .exact(jzx a).2.2 p
  .refine⟨a.1,?_,(jzx a).2.2⟩;have:=a.2.1;show(x.2++[U.wo (nth l i)]).length<=_;rw[jHo];simp;omega
end
theorem jn4 {l:List (List Int)} (h:U.jBJ l) (p:Nat):nth l p=[]:=by
 by_cases a:p<l.length
 .exact h _ (L.mem_nth a)
 .unfold nth;rw[jHG,List.getElem?_eq_none (by omega)];rfl
theorem jxW {r:RoD} {l:List ShD} (a:(U.jY r).length=(U.je (U.jb (U.rd r))).length) (c:U.jBJ (U.jY r)) (d:U.jGc r=U.kg):U.yU r l 0 (U.ky r l 0):=by
 refine⟨a,?_,fun p=> ?_⟩
 .show(U.jGc r).length<=0;rw[d];exact jG5 0
 .have e:nth (U.ky r l 0).1 p=[]:=jn4 c p;rw[e];exact⟨List.nodup_nil,fun b f=>by cases f⟩
theorem jFV (m:List ((Int×Int×Unit)×ShD)) (s:ShD):U.kK m s= !(!decide (wh (Ty.dflt tSh) (zU tSt (U.vi s) m)=s)||decide (U.jyd s≠1)):=by
 unfold U.kK;by_cases h:U.jyd s=1<;>simp[h]
section
variable {r:RoD} {l:List ShD} {i:Nat}
theorem jnn (h:i<l.length) (a:U.kK (U.zN l l.length) (nth l i)=false):U.ky r l (i+1)=U.ky r l i:=by
 rw[jfn h];unfold U.jpi;rw[a,if_neg (by simp)]
theorem jnm (h:i<l.length) (a:U.kK (U.zN l l.length) (nth l i)=true) (b:U.joI (U.rd r) (U.jak r) (U.qE (nth l i)) (nth (U.ky r l i).1 (U.qE (nth l i)).toNat++[U.jdq (nth l i)])=true):
 U.ky r l (i+1)=((U.ky r l i).1.set (U.qE (nth l i)).toNat (nth (U.ky r l i).1 (U.qE (nth l i)).toNat++[U.jdq (nth l i)]),(U.ky r l i).2):=by
 rw[jfn h];unfold U.jpi;rw[a,if_pos rfl,if_pos b]
theorem juf (h:i<l.length) (a:U.kK (U.zN l l.length) (nth l i)=true) (b:U.joI (U.rd r) (U.jak r) (U.qE (nth l i)) (nth (U.ky r l i).1 (U.qE (nth l i)).toNat++[U.jdq (nth l i)])=false):
 U.ky r l (i+1)=((U.ky r l i).1,(U.ky r l i).2++[U.wo (nth l i)]):=by
 rw[jfn h];unfold U.jpi;rw[a,if_pos rfl,b,if_neg (by simp)]
end
theorem jix:jgH:=by
 unfold jgH q95_5 q95_0 q95_4 q95_1 q95_3 q95_2;rintro⟨b,⟨⟩⟩ K;obtain⟨⟨hk,O⟩,⟨P,B⟩,C⟩:U.jwg (U.zW b):=K;have G:=(zi hk).1;have u:=G.2.2;have v:(U.zc (U.rd (U.zW b))).length<=30:=(za u).2.2.2.2.1;have I:b.2.2.2.2.2.2.2.1.length<=30:=v;have N:(U.j6 (U.rd (U.zW b))).length<=30:=jHi (jDN _) v;have g:∀s∈U.j6 (U.rd (U.zW b)),s∈U.zc (U.rd (U.zW b)):=fun s D=>vF.1 D
 have w:=ve (U.rd (U.zW b));have M:(U.jq (U.rd (U.zW b))).length<=4:=(za u).1;refine⟨by show b.2.2.2.2.2.2.2.1.length<=100000;omega,fun _ _ _ _=>trivial,jGK hk,fun _=>⟨⟨0,⟨⟨rfl,trivial⟩,rfl,trivial⟩,jHd _⟩,fun x J=>⟨fun h=> ?_,fun h _=>⟨⟨0,⟨⟨rfl,trivial⟩,rfl,rfl,trivial⟩,jHd _,jxW (r:=U.zW b) P B C⟩,fun y n=>⟨fun t=> ?_,fun t=> ?_⟩⟩⟩⟩⟩
 .have h:(x:Int)<((U.j6 (U.rd (U.zW b))).length:Int):=of_decide_eq_true h;have D:=jkj (l:=U.j6 (U.rd (U.zW b))) (i:=x) (by omega);exact⟨by omega,h,L.in64 (by omega) (by omega),x+1,⟨⟨by simp,trivial⟩,D.symm,trivial⟩,by show x+1<=(U.j6 (U.rd (U.zW b))).length;omega,by show(U.j6 (U.rd (U.zW b))).length-(x+1)<(U.j6 (U.rd (U.zW b))).length-x;omega⟩
 .have J:x<=(U.j6 (U.rd (U.zW b))).length:=J;have h:¬(x:Int)<((U.j6 (U.rd (U.zW b))).length:Int):=of_decide_eq_false h;have E:x=(U.j6 (U.rd (U.zW b))).length:=(by omega);have t:(y:Int)<((U.j6 (U.rd (U.zW b))).length:Int):=of_decide_eq_true t;have a:y<(U.j6 (U.rd (U.zW b))).length:=(by omega);obtain⟨_,e⟩:y<=(U.j6 (U.rd (U.zW b))).length/\U.yU (U.zW b) (U.j6 (U.rd (U.zW b))) y (U.ky (U.zW b) (U.j6 (U.rd (U.zW b))) y):=n;have c:=jCZ (r:=U.zW b) u g w a e;rw[<-jfn a] at c;have F:y+1<=(U.j6 (U.rd (U.zW b))).length:=a;have A:(U.j6 (U.rd (U.zW b))).length-(y+1)<(U.j6 (U.rd (U.zW b))).length-y:=(by omega);have q:=jfw u (g _ (L.mem_nth a));have o:=jFV (U.zN (U.j6 (U.rd (U.zW b))) (U.j6 (U.rd (U.zW b))).length) (nth (U.j6 (U.rd (U.zW b))) y);subst E;refine⟨by omega,t,fun p=> ?_,fun p=> ?_⟩
  .have f:U.kK (U.zN (U.j6 (U.rd (U.zW b))) (U.j6 (U.rd (U.zW b))).length) (nth (U.j6 (U.rd (U.zW b))) y)=false:=by
    rw[o];have p:(!decide (wh (Ty.dflt tSh) (zU tSt (U.vi (nth (U.j6 (U.rd (U.zW b))) y)) (U.zN (U.j6 (U.rd (U.zW b))) (U.j6 (U.rd (U.zW b))).length))=nth (U.j6 (U.rd (U.zW b))) y)||decide (U.jyd (nth (U.j6 (U.rd (U.zW b))) y)≠1))=true:=p;rw[p];rfl
   have d:=jnn (r:=U.zW b) a f;exact⟨L.in64 (by omega) (by omega),y+1,⟨⟨by simp,trivial⟩,congrArg (·.2) d.symm,congrArg (·.1) d.symm,trivial⟩,⟨F,c⟩,A⟩
  .have f:U.kK (U.zN (U.j6 (U.rd (U.zW b))) (U.j6 (U.rd (U.zW b))).length) (nth (U.j6 (U.rd (U.zW b))) y)=true:=by
    rw[o];have p:(!decide (wh (Ty.dflt tSh) (zU tSt (U.vi (nth (U.j6 (U.rd (U.zW b))) y)) (U.zN (U.j6 (U.rd (U.zW b))) (U.j6 (U.rd (U.zW b))).length))=nth (U.j6 (U.rd (U.zW b))) y)||decide (U.jyd (nth (U.j6 (U.rd (U.zW b))) y)≠1))=false:=p;rw[p];rfl
   have j:=jue (r:=U.zW b) u g w a e f;have z:=jFg j.1 j.2.1;have H:(nth (U.ky (U.zW b) (U.j6 (U.rd (U.zW b))) y).1 (U.qE (nth (U.j6 (U.rd (U.zW b))) y)).toNat).length<=4:=by
    rw[jHo] at z;omega
   have k:0<=U.qE (nth (U.j6 (U.rd (U.zW b))) y):=q.1.1;have m:U.qE (nth (U.j6 (U.rd (U.zW b))) y)<((U.ky (U.zW b) (U.j6 (U.rd (U.zW b))) y).1.length:Int):=(by rw[e.1];exact q.1.2);have Q:=e.2.1;refine⟨k,m,k,m,k,m,rfl,rfl,?_,rfl,⟨G,O⟩,q.1,⟨jHi z (by omega),j.2.1⟩,fun n=> ?_,fun n=> ?_⟩
   .show((nth (U.ky (U.zW b) (U.j6 (U.rd (U.zW b))) y).1 (U.qE (nth (U.j6 (U.rd (U.zW b))) y)).toNat).length+1)*8<=140737488355328;omega
   .have d:=jnm (r:=U.zW b) a f n;exact⟨k,m,L.in64 (by omega) (by omega),y+1,⟨⟨by simp,trivial⟩,congrArg (·.2) d.symm,congrArg (·.1) d.symm,trivial⟩,⟨F,c⟩,A⟩
   .have d:=juf (r:=U.zW b) a f n;refine⟨?_,L.in64 (by omega) (by omega),y+1,⟨⟨by simp,trivial⟩,congrArg (·.1) d.symm,⟨rfl,rfl,rfl,rfl,rfl,rfl,rfl,rfl,trivial,trivial,trivial,trivial⟩,congrArg (·.2) d.symm,trivial⟩,⟨F,c⟩,A⟩;show((U.ky (U.zW b) (U.j6 (U.rd (U.zW b))) y).2.length+1)*8<=140737488355328;omega
 .have t:¬(y:Int)<((U.j6 (U.rd (U.zW b))).length:Int):=of_decide_eq_false t;have n:=n.1;have n:y<=(U.j6 (U.rd (U.zW b))).length:=n;have a:y=(U.j6 (U.rd (U.zW b))).length:=(by omega);subst a;exact⟨rfl,rfl⟩
theorem jlG:qa PR 97 jly:=jBh Tryz.sortI 3 (w9 Tryz.func97 (c:=zZ Tryz.f97) (by kernel_rfl) (by kernel_rfl))
theorem jad:qa PR 66 jgS:=jdH jhs jix Tryz.func66 (kcC jsP (kcC yq kcN)) (koC jfO (koC vQ (koC jlG koN)))
end Go.X
namespace Go.X
open Go.Proofs
namespace U
def js (l:List Int) (n:Nat):Int:=(l.take n).foldl (fun s p=>bor s (1*2^p.toNat)) 0
def jul (l:List Int):Int:=js l l.length
def jJ (d:DyD) (n:Nat):List Int:=((jq d).take n).map (fun b=>jul (kE (jb d) (yJ b)))
def jD3 (d:DyD):List (List Int):=List.replicate (je (jb d)).length kg
def zn (d:DyD):RoD:=(d,kg,jD3 d,kg,())
def jds (d:DyD):RoD:=(d,jJ d (jq d).length,jD3 d,kg,())
def yI (d:DyD):RoD:=(d,jJ d (jq d).length,(zg (jds d)).1,(zg (jds d)).2,())
def zA (d:DyD):Option RoD:=if jz d=0 then some (yI d) else none
def jM (d:DyD) (b:Bool):Option RoD:=if jz d=0 then(if b=true then some (yI d) else none) else none
def ja0 (d:DyD) (b:Bool):Int:=if jz d=0 then(if b=true then 0 else 1) else jz d
end U
def jpD:zP:=⟨[.val tDy,.nil true],[.cl (.dat (.ptr tRo)),.cl (.dat .int)],fun d=>[(U.zc d.1).length<=100000],fun d=>((U.zA d.1,U.jz d.1,()),())⟩
def jri:Ann:=fun r=>match r with
 |8=>some fun σ=>{X:=Nat,sl:=fun i=>[(39,.dat .int (i:Int))],ob:=fun i=>[(27,some (.box 82 false (((bx σ 27).set 8 (.own (yw 27 8) .int)).set 10 (.own (yw 27 10) .int)))),(yw 27 10,some (.row 3 .int false .yes U.kg)),(yw 27 8,some (.row 3 .int false .yes (U.jJ (gb tDy σ 2) i)))],inv:=fun i=>i<=(U.jq (gb tDy σ 2)).length,mu:=fun i=>(U.jq (gb tDy σ 2)).length-i}
 |13=>some fun σ=>{X:=Nat,sl:=fun i=>[(53,.dat .int (i:Int)),(12,.dat .int (U.js (gd (.slice .int) σ 51) i))],ob:=fun _=>[],inv:=fun i=>i<=(gd (.slice .int) σ 51).length,mu:=fun i=>(gd (.slice .int) σ 51).length-i}
 |3000005=>some fun _=>{X:=Unit,sl:=fun _=>[],ob:=fun _=>[],inv:=fun _=>True,mu:=fun _=>0}
 |_=>none
abbrev q96_1 (d:DyD×Unit×Unit)(x:Nat):=(U.kE d.1.1 (nth d.1.2.2.1 (x:Int).toNat).1)
abbrev q96_2 (d:DyD×Unit×Unit):=(d.1.1.1=d.1.1.1/\d.1.1.2.1=d.1.1.2.1/\d.1.1.2.2.1=d.1.1.2.2.1/\d.1.2.1=d.1.2.1/\d.1.2.2.1=d.1.2.2.1/\d.1.2.2.2.1=d.1.2.2.2.1/\d.1.2.2.2.2.1=d.1.2.2.2.2.1/\d.1.2.2.2.2.2.1=d.1.2.2.2.2.2.1/\True/\True/\True/\True)
abbrev q96_4 (d:DyD×Unit×Unit):=(d.1.1.2.1.length:Int)
abbrev q96_3 (d:DyD×Unit×Unit)(x:Nat):=(U.zW (d.1.1.1,d.1.1.2.1,d.1.1.2.2.1,d.1.2.1,d.1.2.2.1,d.1.2.2.2.1,d.1.2.2.2.2.1,d.1.2.2.2.2.2.1,U.jJ d.1 x,List.replicate (q96_4 d).toNat [],U.kg,()))
abbrev q96_0 (d:DyD×Unit×Unit)(x:Nat):=(U.wX (d.1.1.1,d.1.1.2.1,d.1.1.2.2.1,d.1.2.1,d.1.2.2.1,d.1.2.2.2.1,d.1.2.2.2.2.1,d.1.2.2.2.2.2.1,U.jJ d.1 x,List.replicate (q96_4 d).toNat [],U.kg,()) (U.zg (q96_3 d x)))
def jo1:Prop:=∀(d:DyD×Unit×Unit),(U.zc d.1).length<=100000->(U.zc d.1).length<=100000/\(decide (U.jz d.1≠0)=true->(none,U.jz d.1,())=(U.zA d.1,U.jz d.1,())/\()=())/\(decide (U.jz d.1≠0)=false->0<=(q96_4 d)/\(q96_4 d)=(q96_4 d)/\(q96_4 d).toNat*24<=140737488355328/\((!true)=true->(!true)=true/\(!true)=true/\False)/\((!true)=false->(!true)=false/\(!true)=false/\(!true)=false/\(!true)=false/\(false=true->(none,(1:Int),())=(U.zA d.1,U.jz d.1,())/\()=())/\(false=false->d.1.2.2.1.length<4611686018427387904->(∃(x:Nat),((0=(x:Int)/\True)/\(q96_2 d)/\U.kg=[]/\U.jJ d.1 x=[]/\True)/\x<=(U.jq d.1).length)/\∀(x:Nat),x<=(U.jq d.1).length->(decide ((x:Int)<(d.1.2.2.1.length:Int))=true->0<=(x:Int)/\(x:Int)<(d.1.2.2.1.length:Int)/\((q96_1 d x).length<4611686018427387904->(∃(a:Nat),((0=(a:Int)/\0=U.js (q96_1 d x) a/\True)/\True)/\a<=(q96_1 d x).length)/\∀(a:Nat),a<=(q96_1 d x).length->(decide ((a:Int)<(↑(q96_1 d x).length:Int))=true->0<=(a:Int)/\(a:Int)<(↑(q96_1 d x).length:Int)/\0<=nth (q96_1 d x) (a:Int).toNat/\nth (q96_1 d x) (a:Int).toNat<=64/\jy ((1:Int)*2^(nth (q96_1 d x) (a:Int).toNat).toNat)/\jy ((a:Int)+1)/\∃(b:Nat),(((a:Int)+1=(b:Int)/\bor (U.js (q96_1 d x) a) ((1:Int)*2^(nth (q96_1 d x) (a:Int).toNat).toNat)=U.js (q96_1 d x) b/\True)/\True)/\b<=(q96_1 d x).length/\(q96_1 d x).length-b<(q96_1 d x).length-a)/\(decide ((a:Int)<(↑(q96_1 d x).length:Int))=false->((U.jJ d.1 x).length+[U.js (q96_1 d x) a].length)*8<=140737488355328/\jy ((x:Int)+1)/\∃(b:Nat),(((x:Int)+1=(b:Int)/\True)/\U.kg=U.kg/\(q96_2 d)/\U.jJ d.1 x++[U.js (q96_1 d x) a]=U.jJ d.1 b/\True)/\b<=(U.jq d.1).length/\(U.jq d.1).length-b<(U.jq d.1).length-x)))/\(decide ((x:Int)<(d.1.2.2.1.length:Int))=false->U.jwg (q96_3 d x)/\(some ((((q96_0 d x).1,(q96_0 d x).2.1,(q96_0 d x).2.2.1,()),(q96_0 d x).2.2.2.1,(q96_0 d x).2.2.2.2.1,(q96_0 d x).2.2.2.2.2.1,(q96_0 d x).2.2.2.2.2.2.1,(q96_0 d x).2.2.2.2.2.2.2.1,()),(q96_0 d x).2.2.2.2.2.2.2.2.1,(q96_0 d x).2.2.2.2.2.2.2.2.2.1,(q96_0 d x).2.2.2.2.2.2.2.2.2.2.1,()),(0:Int),())=(U.zA d.1,U.jz d.1,())/\()=()))))
def jpE:zP:=⟨[.val tDy,.fn [.ptr tRo] [.bool]],[.cl (.dat (.ptr tRo)),.cl (.dat .int)],fun d=>[(U.zc d.1).length<=100000,U.jz d.1=0->U.jG (d.2.1.pre (some (U.zn d.1),()))],
 fun d=>((U.jM d.1 (d.2.1.F (some (U.zn d.1),())).1,U.ja0 d.1 (d.2.1.F (some (U.zn d.1),())).1,()),())⟩
abbrev q97_1 (d:DyD×FnD [tRo.ptr] [Ty.bool]×Unit)(x:Nat):=(U.kE d.1.1 (nth d.1.2.2.1 (x:Int).toNat).1)
abbrev q97_2 (d:DyD×FnD [tRo.ptr] [Ty.bool]×Unit):=(d.1.1.1=d.1.1.1/\d.1.1.2.1=d.1.1.2.1/\d.1.1.2.2.1=d.1.1.2.2.1/\d.1.2.1=d.1.2.1/\d.1.2.2.1=d.1.2.2.1/\d.1.2.2.2.1=d.1.2.2.2.1/\d.1.2.2.2.2.1=d.1.2.2.2.2.1/\d.1.2.2.2.2.2.1=d.1.2.2.2.2.2.1/\True/\True/\True/\True)
abbrev q97_4 (d:DyD×FnD [tRo.ptr] [Ty.bool]×Unit):=(U.jM d.1 (d.2.1.2 (some (U.zn d.1),())).1,U.ja0 d.1 (d.2.1.2 (some (U.zn d.1),())).1,())
abbrev q97_6 (d:DyD×FnD [tRo.ptr] [Ty.bool]×Unit):=(d.1.1.2.1.length:Int)
abbrev q97_5 (d:DyD×FnD [tRo.ptr] [Ty.bool]×Unit)(x:Nat):=(U.zW (d.1.1.1,d.1.1.2.1,d.1.1.2.2.1,d.1.2.1,d.1.2.2.1,d.1.2.2.2.1,d.1.2.2.2.2.1,d.1.2.2.2.2.2.1,U.jJ d.1 x,List.replicate (q97_6 d).toNat [],U.kg,()))
abbrev q97_0 (d:DyD×FnD [tRo.ptr] [Ty.bool]×Unit)(x:Nat):=(U.wX (d.1.1.1,d.1.1.2.1,d.1.1.2.2.1,d.1.2.1,d.1.2.2.1,d.1.2.2.2.1,d.1.2.2.2.2.1,d.1.2.2.2.2.2.1,U.jJ d.1 x,List.replicate (q97_6 d).toNat [],U.kg,()) (U.zg (q97_5 d x)))
abbrev q97_3 (x:Nat)(d:DyD×FnD [tRo.ptr] [Ty.bool]×Unit):=(decide ((x:Int)<(d.1.2.2.1.length:Int))=false->U.jwg (q97_5 d x)/\(some ((((q97_0 d x).1,(q97_0 d x).2.1,(q97_0 d x).2.2.1,()),(q97_0 d x).2.2.2.1,(q97_0 d x).2.2.2.2.1,(q97_0 d x).2.2.2.2.2.1,(q97_0 d x).2.2.2.2.2.2.1,(q97_0 d x).2.2.2.2.2.2.2.1,()),(q97_0 d x).2.2.2.2.2.2.2.2.1,(q97_0 d x).2.2.2.2.2.2.2.2.2.1,(q97_0 d x).2.2.2.2.2.2.2.2.2.2.1,()),(0:Int),())=(q97_4 d)/\()=())
abbrev q97_7 (a:Nat)(b:Nat)(d:DyD×FnD [tRo.ptr] [Ty.bool]×Unit)(x:Nat):=(((a:Int)+1=(b:Int)/\bor (U.js (q97_1 d x) a) ((1:Int)*2^(nth (q97_1 d x) (a:Int).toNat).toNat)=U.js (q97_1 d x) b/\True)/\True)
abbrev q97_8 (x:Nat)(b:Nat)(d:DyD×FnD [tRo.ptr] [Ty.bool]×Unit)(a:Nat):=(((x:Int)+1=(b:Int)/\True)/\U.kg=U.kg/\(q97_2 d)/\U.jJ d.1 x++[U.js (q97_1 d x) a]=U.jJ d.1 b/\True)
abbrev q97_9 (d:DyD×FnD [tRo.ptr] [Ty.bool]×Unit)(x:Nat):=(↑(q97_1 d x).length:Int)
def jo2:Prop:=∀(d:DyD×FnD [tRo.ptr] [Ty.bool]×Unit),(U.zc d.1).length<=100000->(U.jz d.1=0->U.jG (d.2.1.1 (some (U.zn d.1),())))->(U.zc d.1).length<=100000/\(decide (U.jz d.1≠0)=true->(none,U.jz d.1,())=(q97_4 d)/\()=())/\(decide (U.jz d.1≠0)=false->0<=(q97_6 d)/\(q97_6 d)=(q97_6 d)/\(q97_6 d).toNat*24<=140737488355328/\((!false)=true->(!false)=true/\(!false)=true/\asks (d.2.1.1 (some (d.1,[],List.replicate (q97_6 d).toNat [],[],()),())) ((!false)=true/\(!false)=true/\((!(d.2.1.2 (some (d.1,[],List.replicate (q97_6 d).toNat [],[],()),())).1)=true->(none,(1:Int),())=(q97_4 d)/\()=())/\((!(d.2.1.2 (some (d.1,[],List.replicate (q97_6 d).toNat [],[],()),())).1)=false->d.1.2.2.1.length<4611686018427387904->(∃(x:Nat),((0=(x:Int)/\True)/\(q97_2 d)/\U.kg=[]/\U.jJ d.1 x=[]/\True)/\x<=(U.jq d.1).length)/\∀(x:Nat),x<=(U.jq d.1).length->(decide ((x:Int)<(d.1.2.2.1.length:Int))=true->0<=(x:Int)/\(x:Int)<(d.1.2.2.1.length:Int)/\((q97_1 d x).length<4611686018427387904->(∃(a:Nat),((0=(a:Int)/\0=U.js (q97_1 d x) a/\True)/\True)/\a<=(q97_1 d x).length)/\∀(a:Nat),a<=(q97_1 d x).length->(decide ((a:Int)<(q97_9 d x))=true->0<=(a:Int)/\(a:Int)<(q97_9 d x)/\0<=nth (q97_1 d x) (a:Int).toNat/\nth (q97_1 d x) (a:Int).toNat<=64/\jy ((1:Int)*2^(nth (q97_1 d x) (a:Int).toNat).toNat)/\jy ((a:Int)+1)/\∃(b:Nat),(q97_7 a b d x)/\b<=(q97_1 d x).length/\(q97_1 d x).length-b<(q97_1 d x).length-a)/\(decide ((a:Int)<(q97_9 d x))=false->((U.jJ d.1 x).length+[U.js (q97_1 d x) a].length)*8<=140737488355328/\jy ((x:Int)+1)/\∃(b:Nat),(q97_8 x b d a)/\b<=(U.jq d.1).length/\(U.jq d.1).length-b<(U.jq d.1).length-x)))/\(q97_3 x d))))/\((!false)=false->(!false)=false/\(!false)=false/\(!false)=false/\(!false)=false/\(false=true->(none,(1:Int),())=(q97_4 d)/\()=())/\(false=false->d.1.2.2.1.length<4611686018427387904->(∃(x:Nat),((0=(x:Int)/\True)/\(q97_2 d)/\U.kg=[]/\U.jJ d.1 x=[]/\True)/\x<=(U.jq d.1).length)/\∀(x:Nat),x<=(U.jq d.1).length->(decide ((x:Int)<(d.1.2.2.1.length:Int))=true->0<=(x:Int)/\(x:Int)<(d.1.2.2.1.length:Int)/\((q97_1 d x).length<4611686018427387904->(∃(a:Nat),((0=(a:Int)/\0=U.js (q97_1 d x) a/\True)/\True)/\a<=(q97_1 d x).length)/\∀(a:Nat),a<=(q97_1 d x).length->(decide ((a:Int)<(q97_9 d x))=true->0<=(a:Int)/\(a:Int)<(q97_9 d x)/\0<=nth (q97_1 d x) (a:Int).toNat/\nth (q97_1 d x) (a:Int).toNat<=64/\jy ((1:Int)*2^(nth (q97_1 d x) (a:Int).toNat).toNat)/\jy ((a:Int)+1)/\∃(b:Nat),(q97_7 a b d x)/\b<=(q97_1 d x).length/\(q97_1 d x).length-b<(q97_1 d x).length-a)/\(decide ((a:Int)<(q97_9 d x))=false->((U.jJ d.1 x).length+[U.js (q97_1 d x) a].length)*8<=140737488355328/\jy ((x:Int)+1)/\∃(b:Nat),(q97_8 x b d a)/\b<=(U.jq d.1).length/\(U.jq d.1).length-b<(U.jq d.1).length-x)))/\(q97_3 x d))))
end Go.X
namespace Go.X
open Go.Proofs
theorem gS {l:List Int} {i:Nat} (h:i<l.length):U.js l (i+1)=bor (U.js l i) (1*2^(nth l i).toNat):=by
 unfold U.js;rw[L.take_succ h,jHk];rfl
theorem jqo {d:DyD} {i:Nat} (h:i<(U.jq d).length):U.jJ d (i+1)=U.jJ d i++[U.jul (U.kE (U.jb d) (U.yJ (nth (U.jq d) i)))]:=by
 unfold U.jJ;rw[L.take_succ h,jHR];rfl
theorem juM (d:DyD) (i:Nat):(U.jJ d i).length<=i:=by
 unfold U.jJ;rw[jH6,jHC];omega
theorem js5 {c:CrD} (h:U.jl c=true) {j:JbD} {p:Int} (a:p∈U.kE c j):0<=p/\p<8:=by
 have d:=(jv h).2.2.1;unfold U.kE at a
 split at a
 .unfold U.yy at a;obtain⟨n,b,rfl⟩:=jHy.1 a;have:=jHj.1 (jHh.1 b).1;omega
 .cases a
theorem jzg {c:CrD} (h:U.jl c=true) (j:JbD):(U.kE c j).length<=8:=by
 have a:=(jv h).2.2.1;unfold U.kE
 split
 .unfold U.yy;rw[jH6];exact jHi (jH4 _ _) (by simpa using a)
 .exact jHd _
theorem jpL {d:DyD} (h:U.jz d=0):U.jwg (U.jds d):=by
 refine⟨⟨h,?_⟩,⟨?_,fun x a=> ?_⟩,rfl⟩
 .show(U.jJ d (U.jq d).length).length=(U.jq d).length;unfold U.jJ;simp
 .show(U.jD3 d).length=(U.je (U.jb d)).length;unfold U.jD3;simp
 .have a:x∈U.jD3 d:=a;unfold U.jD3 at a;exact(List.mem_replicate.1 a).2
theorem jth:jo1:=by
 unfold jo1 q96_0 q96_3 q96_4 q96_2 q96_1;rintro⟨d,⟨⟩,⟨⟩⟩ j;refine⟨j,fun h=>⟨?_,rfl⟩,fun h=>⟨jHu _,rfl,?_,fun c=>(by cases c),fun _=>⟨rfl,rfl,rfl,rfl,fun c=>(by cases c),fun _=> ?_⟩⟩⟩
 .have h:U.jz d≠0:=of_decide_eq_true h;show(none,U.jz d,())=(U.zA d,U.jz d,());unfold U.zA;rw[if_neg h]
 .have hk:U.jz d=0:=Classical.not_not.1 (of_decide_eq_false h);have e:=(jv (zi hk).1.1).2.2.1;have e:d.1.2.1.length<=8:=e;show((d.1.2.1.length:Int)).toNat*24<=140737488355328;omega
 have hk:U.jz d=0:=Classical.not_not.1 (of_decide_eq_false h);clear j h;have f:=(zi hk).1;have r:=f.2.2;have g:(U.jq d).length<=4:=(za r).1;have n:d.2.2.1.length<=4:=g;refine fun _=>⟨⟨0,⟨⟨rfl,trivial⟩,⟨rfl,rfl,rfl,rfl,rfl,rfl,rfl,rfl,trivial,trivial,trivial,trivial⟩,rfl,rfl,trivial⟩,jHd _⟩,fun x o=>⟨fun h=>⟨by omega,of_decide_eq_true h,fun _=>⟨⟨0,⟨⟨rfl,rfl,trivial⟩,trivial⟩,jHd _⟩,fun y p=>⟨fun a=> ?_,fun a=> ?_⟩⟩⟩,fun h=> ?_⟩⟩
 .have a:(y:Int)<((U.kE (U.jb d) (nth d.2.2.1 (x:Int).toNat).1).length:Int):=of_decide_eq_true a;have b:y<(U.kE (U.jb d) (nth d.2.2.1 (x:Int).toNat).1).length:=(by omega);have s:=js5 f.1 (L.mem_nth b);have k:=gS b;have e:=jzg f.1 (nth d.2.2.1 (x:Int).toNat).1;have q:BT.Set' ((2:Int)^(nth (U.kE (U.jb d) (nth d.2.2.1 (x:Int).toNat).1) y).toNat):=BT.two_set (by omega);unfold BT.Set' at q;exact⟨by omega,a,s.1,by show nth (U.kE (U.jb d) (nth d.2.2.1 (x:Int).toNat).1) y<=64;omega,by show jy (1*2^(nth (U.kE (U.jb d) (nth d.2.2.1 (x:Int).toNat).1) y).toNat);rw[gw];exact L.in64 (by omega) (by omega),L.in64 (by omega) (by omega),y+1,⟨⟨by simp,k.symm,trivial⟩,trivial⟩,by show y+1<=(U.kE (U.jb d) (nth d.2.2.1 (x:Int).toNat).1).length;omega,by show(U.kE (U.jb d) (nth d.2.2.1 (x:Int).toNat).1).length-(y+1)<(U.kE (U.jb d) (nth d.2.2.1 (x:Int).toNat).1).length-y;omega⟩
 .have h:(x:Int)<((U.jq d).length:Int):=of_decide_eq_true h;have k:=jqo (d:=d) (i:=x) (by omega);have j:=juM d x;have p:y<=(U.kE (U.jb d) (nth d.2.2.1 (x:Int).toNat).1).length:=p;have a:¬(y:Int)<((U.kE (U.jb d) (nth d.2.2.1 (x:Int).toNat).1).length:Int):=of_decide_eq_false a;have m:y=(U.kE (U.jb d) (nth d.2.2.1 (x:Int).toNat).1).length:=(by omega);subst m;refine⟨?_,L.in64 (by omega) (by omega),x+1,⟨⟨by simp,trivial⟩,rfl,⟨rfl,rfl,rfl,rfl,rfl,rfl,rfl,rfl,trivial,trivial,trivial,trivial⟩,k.symm,trivial⟩,by show x+1<=(U.jq d).length;omega,by show(U.jq d).length-(x+1)<(U.jq d).length-x;omega⟩;show((U.jJ d x).length+1)*8<=140737488355328;omega
 .have h:¬(x:Int)<((U.jq d).length:Int):=of_decide_eq_false h;have o:x<=(U.jq d).length:=o;have l:x=(U.jq d).length:=(by omega);subst l;refine⟨jpL hk,?_⟩;refine⟨?_,rfl⟩;show(some (U.yI d),(0:Int),())=(U.zA d,U.jz d,());unfold U.zA;rw[if_pos hk,hk]
theorem yY:qa PR 34 jpD:=jdH jri jth Tryz.func34 (kcC jmp (kcC juF kcN)) (koC jad koN)
theorem jti:jo2:=by
 unfold jo2 q97_9 q97_8 q97_7 q97_3 q97_0 q97_5 q97_6 q97_4 q97_2 q97_1;rintro⟨d,f,⟨⟩⟩ k t;refine⟨k,fun h=>⟨?_,rfl⟩,fun h=>⟨jHu _,rfl,?_,fun _=> ?_,fun r=>(by cases r)⟩⟩
 .have h:U.jz d≠0:=of_decide_eq_true h;show(none,U.jz d,())=(U.jM d _,U.ja0 d _,());unfold U.jM U.ja0;rw[if_neg h,if_neg h]
 .have hk:U.jz d=0:=Classical.not_not.1 (of_decide_eq_false h);have e:=(jv (zi hk).1.1).2.2.1;have e:d.1.2.1.length<=8:=e;show((d.1.2.1.length:Int)).toNat*24<=140737488355328;omega
 have hk:U.jz d=0:=Classical.not_not.1 (of_decide_eq_false h);refine⟨rfl,rfl,w4 _ (t hk) ⟨rfl,rfl,fun a=>⟨?_,rfl⟩,fun a=> ?_⟩⟩
 .have a:(!(f.2 (some (U.zn d),())).1)=true:=a;show(none,(1:Int),())=(U.jM d (f.2 (some (U.zn d),())).1,U.ja0 d (f.2 (some (U.zn d),())).1,());have a:(f.2 (some (U.zn d),())).1=false:=(by simpa using a);unfold U.jM U.ja0;rw[a,if_pos hk,if_pos hk,if_neg (by simp),if_neg (by simp)]
 have a:(!(f.2 (some (U.zn d),())).1)=false:=a;have a:(f.2 (some (U.zn d),())).1=true:=(by simpa using a);clear k h;have g:=(zi hk).1;have s:=g.2.2;have j:(U.jq d).length<=4:=(za s).1;have o:d.2.2.1.length<=4:=j;refine fun _=>⟨⟨0,⟨⟨rfl,trivial⟩,⟨rfl,rfl,rfl,rfl,rfl,rfl,rfl,rfl,trivial,trivial,trivial,trivial⟩,rfl,rfl,trivial⟩,jHd _⟩,fun x p=>⟨fun h=>⟨by omega,of_decide_eq_true h,fun _=>⟨⟨0,⟨⟨rfl,rfl,trivial⟩,trivial⟩,jHd _⟩,fun y q=>⟨fun b=> ?_,fun b=> ?_⟩⟩⟩,fun h=> ?_⟩⟩
 .have b:(y:Int)<((U.kE (U.jb d) (nth d.2.2.1 (x:Int).toNat).1).length:Int):=of_decide_eq_true b;have c:y<(U.kE (U.jb d) (nth d.2.2.1 (x:Int).toNat).1).length:=(by omega);have u:=js5 g.1 (L.mem_nth c);have l:=gS c;have e:=jzg g.1 (nth d.2.2.1 (x:Int).toNat).1;have a:BT.Set' ((2:Int)^(nth (U.kE (U.jb d) (nth d.2.2.1 (x:Int).toNat).1) y).toNat):=BT.two_set (by omega);unfold BT.Set' at a;exact⟨by omega,b,u.1,by show nth (U.kE (U.jb d) (nth d.2.2.1 (x:Int).toNat).1) y<=64;omega,by show jy (1*2^(nth (U.kE (U.jb d) (nth d.2.2.1 (x:Int).toNat).1) y).toNat);rw[gw];exact L.in64 (by omega) (by omega),L.in64 (by omega) (by omega),y+1,⟨⟨by simp,l.symm,trivial⟩,trivial⟩,by show y+1<=(U.kE (U.jb d) (nth d.2.2.1 (x:Int).toNat).1).length;omega,by show(U.kE (U.jb d) (nth d.2.2.1 (x:Int).toNat).1).length-(y+1)<(U.kE (U.jb d) (nth d.2.2.1 (x:Int).toNat).1).length-y;omega⟩
 .have h:(x:Int)<((U.jq d).length:Int):=of_decide_eq_true h;have l:=jqo (d:=d) (i:=x) (by omega);have k:=juM d x;have q:y<=(U.kE (U.jb d) (nth d.2.2.1 (x:Int).toNat).1).length:=q;have b:¬(y:Int)<((U.kE (U.jb d) (nth d.2.2.1 (x:Int).toNat).1).length:Int):=of_decide_eq_false b;have n:y=(U.kE (U.jb d) (nth d.2.2.1 (x:Int).toNat).1).length:=(by omega);subst n;refine⟨?_,L.in64 (by omega) (by omega),x+1,⟨⟨by simp,trivial⟩,rfl,⟨rfl,rfl,rfl,rfl,rfl,rfl,rfl,rfl,trivial,trivial,trivial,trivial⟩,l.symm,trivial⟩,by show x+1<=(U.jq d).length;omega,by show(U.jq d).length-(x+1)<(U.jq d).length-x;omega⟩;show((U.jJ d x).length+1)*8<=140737488355328;omega
 .have h:¬(x:Int)<((U.jq d).length:Int):=of_decide_eq_false h;have p:x<=(U.jq d).length:=p;have m:x=(U.jq d).length:=(by omega);subst m;refine⟨jpL hk,?_⟩;refine⟨?_,rfl⟩;show(some (U.yI d),(0:Int),())=(U.jM d (f.2 (some (U.zn d),())).1,U.ja0 d (f.2 (some (U.zn d),())).1,());unfold U.jM U.ja0;rw[a,if_pos hk,if_pos hk,if_pos rfl,if_pos rfl]
theorem jhE:qa PR 34 jpE:=jdH jri jti Tryz.func34 (kcC jmp (kcC juF kcN)) (koC jad koN)
end Go.X
namespace Go.X
open Go.Proofs
namespace U
def qI (d:DyD) (n:Nat):List Int:=(List.range n).map (fun(b:Nat)=>jA (jY (yI d)) (b:Int))
def jE (d:DyD):List Int:=if jz d=0 then qI d (jq d).length else[]
def jlB (d:DyD):List Int:=if jz d=0 then jGc (yI d) else[]
def jug (d:DyD) (b:Nat):Bool:=jat d (b:Int) (jA (jY (yI d)) (b:Int))
def yh (d:DyD) (n:Nat):List Int:=((List.range n).filter (jug d)).map (fun(b:Nat)=>(b:Int))
def jh7 (d:DyD):List Int:=if jz d=0 then yh d (jq d).length else[]
def yA (d:DyD) (p:Int):Bool:=ja p 0 (((je (jb d)).length:Int)-1)
def jh (d:DyD) (b:Int):Bool:=ja b 0 (((jq d).length:Int)-1)
def kD (d:DyD) (b:Int):List Int:=if ja0 d (jh d b)=0 then jp (yI d) b else[]
def jiS (d:DyD) (b all t:Int) (x:Int×Int×Bool) (s:Nat):Int×Int×Bool:=
 if((decide (zx (s:Int) all=0)&&(!x.2.2||decide (wb d (s:Int)<x.2.1)))&&jat d b (bor t (s:Int)))=true then((s:Int),wb d (s:Int),true) else x
def j9 (d:DyD) (b all t:Int) (n:Nat):Int×Int×Bool:=(List.range n).foldl (jiS d b all t) (0,0,false)
def jbA (d:DyD) (b:Int):Int:=jul (jp (yI d) b)
def jz0 (d:DyD) (b:Int):Int×Int×Bool:=j9 d b (jbA d b) (jA (jY (yI d)) b) ((jbA d b).toNat+1)
def kJ (d:DyD) (b:Int):Int:=if ja0 d (jh d b)=0 then(if(jz0 d b).2.2=true then 0 else 3) else ja0 d (jh d b)
def zk (d:DyD) (b:Int):Int:=if kJ d b=0 then(jz0 d b).1 else 0
def gA (d:DyD) (b:Int):Int:=if kJ d b=0 then(jz0 d b).2.1 else 0
end U
def jvR:j7:=⟨[.val tDy],[.slice .int,.int],false,fun d=>[(U.zc d.1).length<=100000],fun d=>(U.jE d.1,U.jz d.1,())⟩
def jxh:Ann:=fun r=>match r with
 |6=>some fun σ=>{X:=Nat,sl:=fun i=>[(19,.dat .int (i:Int)),(6,.own 6 .int)],ob:=fun i=>[(6,some (.row 3 .int false .yes (U.qI (gb tDy σ 1) i)))],inv:=fun i=>i<=(U.jq (gb tDy σ 1)).length,mu:=fun i=>(U.jq (gb tDy σ 1)).length-i}
 |_=>none
def jvx:Prop:=∀(d:DyD×Unit),(U.zc d.1).length<=100000->(U.zc d.1).length<=100000/\(decide (U.jz d.1≠0)=true->([],U.jz d.1,())=(U.jE d.1,U.jz d.1,()))/\(decide (U.jz d.1≠0)=false->d.1.2.2.1.length<4611686018427387904->(∃(x:Nat),((0=(x:Int)/\True/\True)/\U.qI d.1 x=[]/\True)/\x<=(U.jq d.1).length)/\∀(x:Nat),x<=(U.jq d.1).length->(decide ((x:Int)<(d.1.2.2.1.length:Int))=true->(U.zA d.1).isSome=true/\(U.jY (U.ro (U.zA d.1))).length<=60/\((U.qI d.1 x).length+[U.jA (U.jY (U.ro (U.zA d.1))) (x:Int)].length)*8<=140737488355328/\jy ((x:Int)+1)/\∃(a:Nat),(((x:Int)+1=(a:Int)/\True/\True)/\U.qI d.1 x++[U.jA (U.jY (U.ro (U.zA d.1))) (x:Int)]=U.qI d.1 a/\True)/\a<=(U.jq d.1).length/\(U.jq d.1).length-a<(U.jq d.1).length-x)/\(decide ((x:Int)<(d.1.2.2.1.length:Int))=false->(U.qI d.1 x,(0:Int),())=(U.jE d.1,U.jz d.1,())))
def jpw:j7:=⟨[.val tDy],[.slice .int,.int],false,fun d=>[(U.zc d.1).length<=100000],fun d=>(U.jlB d.1,U.jz d.1,())⟩
def jo8:Prop:=∀(d:DyD×Unit),(U.zc d.1).length<=100000->(U.zc d.1).length<=100000/\(decide (U.jz d.1≠0)=true->([],U.jz d.1,())=(U.jlB d.1,U.jz d.1,()))/\(decide (U.jz d.1≠0)=false->(U.zA d.1).isSome=true/\((jR ((((0:Int),[],[],()),[],[],(0:Int),(0:Int),[],()),[],[],[],()) (U.zA d.1)).2.2.2.1,(0:Int),())=(U.jlB d.1,U.jz d.1,()))
def jsa:j7:=⟨[.val tDy],[.slice .int,.int],false,fun d=>[(U.zc d.1).length<=100000],fun d=>(U.jh7 d.1,U.jz d.1,())⟩
def jtY:Ann:=fun r=>match r with
 |6=>some fun σ=>{X:=Nat,sl:=fun i=>[(19,.dat .int (i:Int)),(6,.own 6 .int)],ob:=fun i=>[(6,some (.row 3 .int false .yes (U.yh (gb tDy σ 1) i)))],inv:=fun i=>i<=(U.jq (gb tDy σ 1)).length,mu:=fun i=>(U.jq (gb tDy σ 1)).length-i}
 |_=>none
def jrH:Prop:=∀(d:DyD×Unit),(U.zc d.1).length<=100000->(U.zc d.1).length<=100000/\(decide (U.jz d.1≠0)=true->([],U.jz d.1,())=(U.jh7 d.1,U.jz d.1,()))/\(decide (U.jz d.1≠0)=false->d.1.2.2.1.length<4611686018427387904->(∃(x:Nat),((0=(x:Int)/\True/\True)/\U.yh d.1 x=[]/\True)/\x<=(U.jq d.1).length)/\∀(x:Nat),x<=(U.jq d.1).length->(decide ((x:Int)<(d.1.2.2.1.length:Int))=true->(U.zA d.1).isSome=true/\(U.jY (U.ro (U.zA d.1))).length<=60/\(U.zA d.1).isSome=true/\U.kz (U.rd (U.ro (U.zA d.1))) (x:Int)/\(U.jat (U.rd (U.ro (U.zA d.1))) (x:Int) (U.jA (U.jY (U.ro (U.zA d.1))) (x:Int))=true->((U.yh d.1 x).length+[(x:Int)].length)*8<=140737488355328/\jy ((x:Int)+1)/\∃(a:Nat),(((x:Int)+1=(a:Int)/\True/\True)/\U.yh d.1 x++[(x:Int)]=U.yh d.1 a/\True)/\a<=(U.jq d.1).length/\(U.jq d.1).length-a<(U.jq d.1).length-x)/\(U.jat (U.rd (U.ro (U.zA d.1))) (x:Int) (U.jA (U.jY (U.ro (U.zA d.1))) (x:Int))=false->jy ((x:Int)+1)/\∃(a:Nat),((True/\(x:Int)+1=(a:Int)/\True)/\U.yh d.1 x=U.yh d.1 a/\True)/\a<=(U.jq d.1).length/\(U.jq d.1).length-a<(U.jq d.1).length-x))/\(decide ((x:Int)<(d.1.2.2.1.length:Int))=false->(U.yh d.1 x,(0:Int),())=(U.jh7 d.1,U.jz d.1,())))
def jsb:j7:=⟨[.val (.ptr tRo),.ref .int],[.bool],false,fun d=>[d.1.isSome=true,(U.jq (U.rd (U.ro d.1))).length<=4],fun d=>(U.jh (U.rd (U.ro d.1)) d.2.1,())⟩
def jrI:Prop:=∀(d:Option RoD×Int×Unit),d.1.isSome=true->(U.jq (U.rd (U.ro d.1))).length<=4->d.1.isSome=true/\(U.jq (U.rd (U.ro d.1))).length<=4/\(U.ja d.2.1 (0:Int) ((↑(U.jq (U.rd (U.ro d.1))).length:Int)-1),())=(U.jh (U.rd (U.ro d.1)) d.2.1,())
def jsc:j7:=⟨[.val (.ptr tRo),.ref .int],[.bool],false,fun d=>[d.1.isSome=true,(U.jq (U.rd (U.ro d.1))).length<=4],fun d=>(U.jh (U.rd (U.ro d.1)) d.2.1,())⟩
def jrJ:Prop:=∀(d:Option RoD×Int×Unit),d.1.isSome=true->(U.jq (U.rd (U.ro d.1))).length<=4->d.1.isSome=true/\(U.jq (U.rd (U.ro d.1))).length<=4/\(U.ja d.2.1 (0:Int) ((↑(U.jq (U.rd (U.ro d.1))).length:Int)-1),())=(U.jh (U.rd (U.ro d.1)) d.2.1,())
def jx4:j7:=⟨[.val tDy,.val .int],[.slice .int,.int],false,fun d=>[(U.zc d.1).length<=100000],fun d=>(U.kD d.1 d.2.1,U.ja0 d.1 (U.jh d.1 d.2.1),())⟩
abbrev q103_0 (d:DyD×Int×Unit):=(U.jh (U.rd (U.ro (some (U.zn d.1)))) d.2.1)
def jxH:Prop:=∀(d:DyD×Int×Unit),(U.zc d.1).length<=100000->(U.zc d.1).length<=100000/\(U.jz d.1=0->U.jG [(some (U.zn d.1)).isSome=true,(U.jq (U.rd (U.ro (some (U.zn d.1))))).length<=4])/\(decide (U.ja0 d.1 (q103_0 d)≠0)=true->([],U.ja0 d.1 (q103_0 d),())=(U.kD d.1 d.2.1,U.ja0 d.1 (U.jh d.1 d.2.1),()))/\(decide (U.ja0 d.1 (q103_0 d)≠0)=false->(U.jM d.1 (q103_0 d)).isSome=true/\U.jag (U.ro (U.jM d.1 (q103_0 d)))/\U.js1 (U.ro (U.jM d.1 (q103_0 d)))/\U.kz (U.rd (U.ro (U.jM d.1 (q103_0 d)))) d.2.1/\(U.jp (U.ro (U.jM d.1 (q103_0 d))) d.2.1,(0:Int),())=(U.kD d.1 d.2.1,U.ja0 d.1 (U.jh d.1 d.2.1),()))
def jx5:j7:=⟨[.val tDy,.val .int],[.int,.int,.int],false,fun d=>[(U.zc d.1).length<=100000],fun d=>(U.zk d.1 d.2.1,U.gA d.1 d.2.1,U.kJ d.1 d.2.1,())⟩
def jAI:Ann:=fun r=>match r with
 |6=>some fun σ=>{X:=Nat,sl:=fun i=>[(31,.dat .int (i:Int)),(8,.dat .int (U.js (gd (.slice .int) σ 29) i))],ob:=fun _=>[],inv:=fun i=>i<=(gd (.slice .int) σ 29).length,mu:=fun i=>(gd (.slice .int) σ 29).length-i}
 |12=>some fun σ=>{X:=Nat,sl:=fun i=>[(42,.dat .int (i:Int)),(4,.dat .int (U.j9 (gb tDy σ 2) (gb .int σ 3) (gd .int σ 8) (gd .int σ 9) i).1),(5,.dat .int (U.j9 (gb tDy σ 2) (gb .int σ 3) (gd .int σ 8) (gd .int σ 9) i).2.1),(12,.dat .bool (U.j9 (gb tDy σ 2) (gb .int σ 3) (gd .int σ 8) (gd .int σ 9) i).2.2)],ob:=fun _=>[],inv:=fun i=>i<=(gd .int σ 8).toNat+1,mu:=fun i=>(gd .int σ 8).toNat+1-i}
 |_=>none
abbrev q104_4 (d:DyD×Int×Unit):=(U.jh (U.rd (U.ro (some (U.zn d.1)))) d.2.1)
abbrev q104_0 (d:DyD×Int×Unit):=(U.ro (U.jM d.1 (q104_4 d)))
abbrev q104_2 (d:DyD×Int×Unit):=(U.jp (q104_0 d) d.2.1)
abbrev q104_6 (d:DyD×Int×Unit)(x:Nat):=(U.js (q104_2 d) x)
abbrev q104_1 (d:DyD×Int×Unit)(x:Nat)(a:Nat):=(U.j9 d.1 d.2.1 (q104_6 d x) (U.jA (U.jY (q104_0 d)) d.2.1) a)
abbrev q104_3 (d:DyD×Int×Unit)(x:Nat)(a:Nat):=(U.j9 d.1 d.2.1 (q104_6 d x) (U.jA (U.jY (q104_0 d)) d.2.1) a)
abbrev q104_5 (d:DyD×Int×Unit)(x:Nat)(a:Nat):=(!(q104_1 d x a).2.2||decide (U.wb (U.rd (q104_0 d)) (a:Int)<(q104_1 d x a).2.1))
abbrev q104_7 (a:Nat)(d:DyD×Int×Unit)(x:Nat):=(decide (zx (a:Int) (q104_6 d x)=0)&&(q104_5 d x a)&&U.jat (U.rd (q104_0 d)) d.2.1 (bor (U.jA (U.jY (q104_0 d)) d.2.1) (a:Int)))
abbrev q104_8 (d:DyD×Int×Unit):=(U.zk d.1 d.2.1,U.gA d.1 d.2.1,U.kJ d.1 d.2.1,())
def jxI:Prop:=∀(d:DyD×Int×Unit),(U.zc d.1).length<=100000->(U.zc d.1).length<=100000/\(U.jz d.1=0->U.jG [(some (U.zn d.1)).isSome=true,(U.jq (U.rd (U.ro (some (U.zn d.1))))).length<=4])/\(decide (U.ja0 d.1 (q104_4 d)≠0)=true->((0:Int),(0:Int),U.ja0 d.1 (q104_4 d),())=(q104_8 d))/\(decide (U.ja0 d.1 (q104_4 d)≠0)=false->(U.jM d.1 (q104_4 d)).isSome=true/\(U.jY (q104_0 d)).length<=60/\(U.jM d.1 (q104_4 d)).isSome=true/\U.jag (q104_0 d)/\U.js1 (q104_0 d)/\U.kz (U.rd (q104_0 d)) d.2.1/\((q104_2 d).length<4611686018427387904->(∃(x:Nat),((0=(x:Int)/\0=U.js (q104_2 d) x/\True)/\True)/\x<=(q104_2 d).length)/\∀(x:Nat),x<=(q104_2 d).length->(decide ((x:Int)<(↑(q104_2 d).length:Int))=true->0<=(x:Int)/\(x:Int)<(↑(q104_2 d).length:Int)/\0<=nth (q104_2 d) (x:Int).toNat/\nth (q104_2 d) (x:Int).toNat<=64/\jy ((1:Int)*2^(nth (q104_2 d) (x:Int).toNat).toNat)/\jy ((x:Int)+1)/\∃(b:Nat),(((x:Int)+1=(b:Int)/\bor (q104_6 d x) ((1:Int)*2^(nth (q104_2 d) (x:Int).toNat).toNat)=U.js (q104_2 d) b/\True)/\True)/\b<=(q104_2 d).length/\(q104_2 d).length-b<(q104_2 d).length-x)/\(decide ((x:Int)<(↑(q104_2 d).length:Int))=false->jy (U.js (q104_2 d) x+1)/\(∃(a:Nat),((0=(a:Int)/\0=(q104_1 d x a).1/\0=(q104_1 d x a).2.1/\false=(q104_1 d x a).2.2/\True)/\True)/\a<=(q104_6 d x).toNat+1)/\∀(a:Nat),a<=(q104_6 d x).toNat+1->(decide ((a:Int)<U.js (q104_2 d) x+1)=true->(U.jM d.1 (q104_4 d)).isSome=true/\U.jl (U.jb (U.rd (q104_0 d)))=true/\0<=(a:Int)/\(a:Int)<=1000000/\((decide (zx (a:Int) (q104_6 d x)=0)&&(q104_5 d x a))=true->(U.jM d.1 (q104_4 d)).isSome=true)/\((decide (zx (a:Int) (q104_6 d x)=0)&&(q104_5 d x a))=true->U.kz (U.rd (q104_0 d)) d.2.1)/\((q104_7 a d x)=true->jy ((a:Int)+1)/\∃(b:Nat),(((a:Int)+1=(b:Int)/\true=(q104_3 d x b).2.2/\U.wb (U.rd (q104_0 d)) (a:Int)=(q104_3 d x b).2.1/\(a:Int)=(q104_3 d x b).1/\True)/\True)/\b<=(q104_6 d x).toNat+1/\(q104_6 d x).toNat+1-b<(q104_6 d x).toNat+1-a)/\((q104_7 a d x)=false->jy ((a:Int)+1)/\∃(b:Nat),(((q104_1 d x a).2.2=(q104_3 d x b).2.2/\(q104_1 d x a).2.1=(q104_3 d x b).2.1/\(q104_1 d x a).1=(q104_3 d x b).1/\(a:Int)+1=(b:Int)/\True)/\True)/\b<=(q104_6 d x).toNat+1/\(q104_6 d x).toNat+1-b<(q104_6 d x).toNat+1-a))/\(decide ((a:Int)<U.js (q104_2 d) x+1)=false->((!(q104_1 d x a).2.2)=true->((0:Int),(0:Int),(3:Int),())=(q104_8 d))/\((!(q104_1 d x a).2.2)=false->((q104_1 d x a).1,(q104_1 d x a).2.1,(0:Int),())=(q104_8 d))))))
end Go.X
namespace Go.X
open Go.Proofs
theorem jno {r:RoD} {l:List ShD} (d:U.zL (U.rd r)=true) (e:∀s∈l,s∈U.zc (U.rd r)) (nd:l.Nodup) (a:(U.jY r).length=(U.je (U.jb (U.rd r))).length) (b:U.jBJ (U.jY r)) (c:U.jGc r=U.kg):
 ∀i,i<=l.length->U.yU r l i (U.ky r l i)
 |0,_=>jxW a b c
 |i+1,hi=>by
  rw[jfn hi]
  exact jCZ d e nd hi (jno d e nd a b c i (by omega))
structure jxq (d:DyD):Prop where
 may:U.jag (U.yI d)
 len:(U.jY (U.yI d)).length=(U.je (U.jb d)).length
 row:∀p,(nth (U.jY (U.yI d)) p).Nodup/\∀b∈nth (U.jY (U.yI d)) p,U.kz d b
theorem gV {d:DyD} (h:U.jz d=0):jxq d:=by
 obtain⟨⟨_,i⟩,⟨j,c⟩,e⟩:=jpL h;have f:=(zi h).1;have a:=jno (r:=U.jds d) (l:=U.j6 d) f.2.2 (fun s k=>vF.1 k) (ve d) j c e _ (jG5 _);refine⟨⟨f,i⟩,a.1,fun p=> ?_⟩;have:=a.2.2 p;exact⟨this.1,fun b g=>(this.2 b g).1⟩
theorem jxq.len60 {d:DyD} (h:jxq d):(U.jY (U.yI d)).length<=60:=by
 have a:=(jv h.may.1.1).2.2.1;have a:(U.je (U.jb d)).length<=8:=a;rw[h.len];omega
theorem jxq.on {d:DyD} (h:jxq d):U.js1 (U.yI d):=by
 refine⟨h.len,fun l b=> ?_⟩;obtain⟨p,c,rfl⟩:=L.mem_iff.1 b;have:=jFg (h.row p).1 (h.row p).2;have a:(U.jq d).length<=4:=(za h.may.1.2.2).1;exact⟨by omega,(h.row p).2⟩
theorem juA {d:DyD} (h:U.jz d=0):U.zA d=some (U.yI d):=if_pos h
theorem juB {d:DyD} {b:Bool} (h:U.ja0 d b=0):U.jz d=0/\b=true/\U.jM d b=some (U.yI d):=by
 unfold U.ja0 at h
 split at h
 .rename_i hk;cases b with
  |true=>exact⟨hk,rfl,by unfold U.jM;rw[if_pos hk,if_pos rfl]⟩
  |false=>simp at h
 .contradiction
theorem jvE (d:DyD) (n:Nat):U.qI d (n+1)=U.qI d n++[U.jA (U.jY (U.yI d)) (n:Int)]:=by
 unfold U.qI;rw[jHq,jHR];rfl
theorem jzI:jvx:=by
 rintro⟨d,⟨⟩⟩ j;refine⟨j,fun h=> ?_,fun h _=>⟨⟨0,⟨⟨rfl,trivial,trivial⟩,rfl,trivial⟩,jHd _⟩,fun x g=>⟨fun a=> ?_,fun a=> ?_⟩⟩⟩
 .have h:U.jz d≠0:=of_decide_eq_true h;show([],U.jz d,())=(U.jE d,U.jz d,());unfold U.jE;rw[if_neg h]
 .have hk:U.jz d=0:=Classical.not_not.1 (of_decide_eq_false h);have f:=gV hk;have i:(U.jq d).length<=4:=(za f.may.1.2.2).1;have a:(x:Int)<((U.jq d).length:Int):=of_decide_eq_true a;have k:=jvE d x;have e:(U.qI d x).length=x:=(by unfold U.qI;simp);have b:=juA hk;refine⟨by show(U.zA d).isSome=true;rw[b];rfl,by show(U.jY (U.ro (U.zA d))).length<=60;rw[b];exact f.len60,?_,L.in64 (by omega) (by omega),x+1,⟨⟨by simp,trivial,trivial⟩,?_,trivial⟩,by show x+1<=(U.jq d).length;omega,by show(U.jq d).length-(x+1)<(U.jq d).length-x;omega⟩
  .show((U.qI d x).length+1)*8<=_;omega
  .show U.qI d x++[U.jA (U.jY (U.ro (U.zA d))) (x:Int)]=U.qI d (x+1);rw[b,k];rfl
 .have hk:U.jz d=0:=Classical.not_not.1 (of_decide_eq_false h);have g:x<=(U.jq d).length:=g;have a:¬(x:Int)<((U.jq d).length:Int):=of_decide_eq_false a;have c:x=(U.jq d).length:=(by omega);subst c;show(U.qI d _,(0:Int),())=(U.jE d,U.jz d,());unfold U.jE;rw[if_pos hk,hk]
theorem jmo:zu PR 9 jvR:=wi jxh jzI Tryz.func9 (kcC vG kcN) (koC yY koN)
theorem jtp:jo8:=by
 rintro⟨d,⟨⟩⟩ b;refine⟨b,fun h=> ?_,fun h=> ?_⟩
 .have h:U.jz d≠0:=of_decide_eq_true h;show([],U.jz d,())=(U.jlB d,U.jz d,());unfold U.jlB;rw[if_neg h]
 .have hk:U.jz d=0:=Classical.not_not.1 (of_decide_eq_false h);have a:=juA hk;refine⟨by show(U.zA d).isSome=true;rw[a];rfl,?_⟩;show(U.jGc (U.ro (U.zA d)),(0:Int),())=(U.jlB d,U.jz d,());unfold U.jlB;rw[if_pos hk,hk,a];rfl
theorem jqf:zu PR 19 jpw:=jZ jtp Tryz.func19 kcN (koC yY koN)
theorem jvJ (d:DyD) (n:Nat):U.yh d (n+1)=U.yh d n++(if U.jug d n=true then[(n:Int)] else[]):=by
 unfold U.yh;rw[L.range_filter_succ,jHR];by_cases h:U.jug d n=true
 .rw[if_pos h,if_pos h];rfl
 .rw[if_neg h,if_neg h];rfl
theorem jwx:jrH:=by
 rintro⟨d,⟨⟩⟩ r;refine⟨r,fun h=> ?_,fun h _=>⟨⟨0,⟨⟨rfl,trivial,trivial⟩,rfl,trivial⟩,jHd _⟩,fun x m=>⟨fun b=> ?_,fun b=> ?_⟩⟩⟩
 .have h:U.jz d≠0:=of_decide_eq_true h;show([],U.jz d,())=(U.jh7 d,U.jz d,());unfold U.jh7;rw[if_neg h]
 .have hk:U.jz d=0:=Classical.not_not.1 (of_decide_eq_false h);have l:=gV hk;have q:(U.jq d).length<=4:=(za l.may.1.2.2).1;have b:(x:Int)<((U.jq d).length:Int):=of_decide_eq_true b;have e:=jvJ d x;have k:(U.yh d x).length<=x:=by
   unfold U.yh;rw[jH6];exact jHi (jH4 _ _) (by simp)
  have c:=juA hk;have i:(U.zA d).isSome=true:=(by rw[c];rfl);have o:(U.jY (U.ro (U.zA d))).length<=60:=(by rw[c];exact l.len60);have p:U.kz (U.rd (U.ro (U.zA d))) (x:Int):=(by rw[c];exact⟨by omega,b⟩);have j:U.jat (U.rd (U.ro (U.zA d))) (x:Int) (U.jA (U.jY (U.ro (U.zA d))) (x:Int))=U.jug d x:=(by rw[c];rfl);have n:x+1<=(U.jq d).length:=(by omega);have g:(U.jq d).length-(x+1)<(U.jq d).length-x:=(by omega);refine⟨i,o,i,p,fun a=> ?_,fun a=> ?_⟩
  .have a:U.jug d x=true:=(by rw[<-j];exact a);refine⟨?_,L.in64 (by omega) (by omega),x+1,⟨⟨by simp,trivial,trivial⟩,?_,trivial⟩,n,g⟩
   .show((U.yh d x).length+1)*8<=_;omega
   .rw[if_pos a] at e;exact e.symm
  .have a:U.jug d x=false:=(by rw[<-j];exact a);refine⟨L.in64 (by omega) (by omega),x+1,⟨⟨trivial,by simp,trivial⟩,?_,trivial⟩,n,g⟩;rw[if_neg (by rw[a];simp),jHw] at e;exact e.symm
 .have hk:U.jz d=0:=Classical.not_not.1 (of_decide_eq_false h);have m:x<=(U.jq d).length:=m;have b:¬(x:Int)<((U.jq d).length:Int):=of_decide_eq_false b;have f:x=(U.jq d).length:=(by omega);subst f;show(U.yh d _,(0:Int),())=(U.jh7 d,U.jz d,());unfold U.jh7;rw[if_pos hk,hk]
theorem jsQ:zu PR 20 jsa:=wi jtY jwx Tryz.func20 (kcC vG (kcC vH kcN)) (koC yY koN)
theorem jwy:jrI:=by
 rintro⟨r,n,⟨⟩⟩ a b;exact⟨a,b,rfl⟩
theorem jsR:zu PR 45 jsb:=jZ jwy Tryz.func45 (kcC yr kcN) koN
theorem jwz:jrJ:=by
 rintro⟨r,n,⟨⟩⟩ a b;exact⟨a,b,rfl⟩
theorem jsS:zu PR 48 jsc:=jZ jwz Tryz.func48 (kcC yr kcN) koN
theorem jB4:jxH:=by
 unfold jxH q103_0;rintro⟨d,b,⟨⟩⟩ k;refine⟨k,fun hk=>⟨rfl,(za (zi hk).1.2.2).1,trivial⟩,fun h=> ?_,fun h=> ?_⟩
 .have h:U.ja0 d (U.jh d b)≠0:=of_decide_eq_true h;show([],U.ja0 d (U.jh d b),())=(U.kD d b,U.ja0 d (U.jh d b),());unfold U.kD;rw[if_neg h]
 .have h:U.ja0 d (U.jh d b)=0:=Classical.not_not.1 (of_decide_eq_false h);obtain⟨hk,c,a⟩:=juB h;have e:=gV hk;have f:(U.jM d (U.jh d b)).isSome=true:=(by rw[a];rfl);have g:U.jag (U.ro (U.jM d (U.jh d b))):=(by rw[a];exact e.may);have i:U.js1 (U.ro (U.jM d (U.jh d b))):=(by rw[a];exact e.on);have j:U.kz (U.rd (U.ro (U.jM d (U.jh d b)))) b:=by
   rw[a];unfold U.jh U.ja at c;simp only[jG3,decide_eq_true_eq] at c;exact⟨c.1,by show b<((U.jq d).length:Int);omega⟩
  refine⟨f,g,i,j,?_⟩;show(U.jp (U.ro (U.jM d (U.jh d b))) b,(0:Int),())=(U.kD d b,U.ja0 d (U.jh d b),());unfold U.kD;rw[if_pos h,h,a];rfl
theorem jyU:zu PR 23 jx4:=jZ jB4 Tryz.func23 (kcC jsR (kcC jbv kcN)) (koC jhE koN)
end Go.X
namespace Go.X
open Go.Proofs
theorem yj {l:List Int} (h:∀p∈l,0<=p/\p<8):∀n,n<=l.length->BT.Set' (U.js l n)/\∀q,BT.has (U.js l n) q=true->q<8
 |0,_=>⟨BT.zero_set,fun q a=>by rw[show U.js l 0=0 from rfl,BT.has_zero] at a;cases a⟩
 |n+1,d=>by
  have b:=yj h n (by omega)
  have e:=h _ (L.mem_nth (l:=l) (i:=n) (by omega))
  have c:BT.Set' ((2:Int)^(nth l n).toNat):=BT.two_set (by omega)
  rw[gS (by omega),gw]
  refine⟨BT.bor_set b.1 c,fun q a=> ?_⟩
  rw[BT.has_bor b.1 c,jHX,BT.has_two,decide_eq_true_eq] at a
  rcases a with a|a
  .exact b.2 q a
  .omega
theorem jBj {l:List Int} (h:∀p∈l,0<=p/\p<8) {n:Nat} (b:n<=l.length):0<=U.js l n/\U.js l n<256:=by
 have a:=yj h n b;refine⟨?_,?_⟩
 .have:=a.1;unfold BT.Set' at this;exact this.1
 .exact BT.lt_of_has (k:=8) a.1 a.2
theorem juX {d:DyD} (e:jxq d) {b p:Int} (c:p∈U.jp (U.yI d) b):0<=p/\p<8:=by
 have a:=(jv e.may.1.1).2.2.1;have a:(U.je (U.jb d)).length<=8:=a;unfold U.jp U.kx at c;obtain⟨n,f,rfl⟩:=jHy.1 c;have:=jHj.1 (jHh.1 f).1;rw[e.len] at this;omega
theorem jmQ (d:DyD) (b all t:Int) (n:Nat):U.j9 d b all t (n+1)=U.jiS d b all t (U.j9 d b all t n) n:=by
 unfold U.j9;rw[jHq,jHk];rfl
theorem jB5:jxI:=by
 unfold jxI q104_8 q104_7 q104_5 q104_3 q104_1 q104_6 q104_2 q104_0 q104_4;rintro⟨d,b,⟨⟩⟩ S;refine⟨S,fun hk=>⟨rfl,(za (zi hk).1.2.2).1,trivial⟩,fun h=> ?_,fun h=> ?_⟩
 .have h:U.ja0 d (U.jh d b)≠0:=of_decide_eq_true h;have e:U.kJ d b=U.ja0 d (U.jh d b):=(by unfold U.kJ;rw[if_neg h]);show((0:Int),(0:Int),U.ja0 d (U.jh d b),())=(U.zk d b,U.gA d b,U.kJ d b,());unfold U.zk U.gA;rw[e,if_neg h,if_neg h]
 .have h:U.ja0 d (U.jh d b)=0:=Classical.not_not.1 (of_decide_eq_false h);obtain⟨hk,z,J⟩:=juB h;have g:=gV hk;have R:(U.jq d).length<=4:=(za g.may.1.2.2).1;have r:(U.jM d (U.jh d b)).isSome=true:=(by rw[J];rfl);have n:U.ro (U.jM d (U.jh d b))=U.yI d:=(by rw[J];rfl);have s:U.rd (U.ro (U.jM d (U.jh d b)))=d:=(by rw[n];rfl);have O:U.jag (U.ro (U.jM d (U.jh d b))):=(by rw[n];exact g.may);have P:U.js1 (U.ro (U.jM d (U.jh d b))):=(by rw[n];exact g.on);have v:U.kz d b:=by
   unfold U.jh U.ja at z;simp only[jG3,decide_eq_true_eq] at z;exact⟨z.1,by omega⟩
  have G:U.kz (U.rd (U.ro (U.jM d (U.jh d b)))) b:=(by rw[s];exact v);have Q:(U.jY (U.ro (U.jM d (U.jh d b)))).length<=60:=(by rw[n];exact g.len60);have t:U.jp (U.ro (U.jM d (U.jh d b))) b=U.jp (U.yI d) b:=(by rw[n]);have I:U.jA (U.jY (U.ro (U.jM d (U.jh d b)))) b=U.jA (U.jY (U.yI d)) b:=(by rw[n]);have o:∀p∈U.jp (U.yI d) b,0<=p/\p<8:=fun p T=>juX g T
  have A:(U.jp (U.yI d) b).length<=8:=by
   have w:=(jv g.may.1.1).2.2.1;have w:(U.je (U.jb d)).length<=8:=w;exact jHi (jmN _ _ _) (by rw[g.len];exact w)
  refine⟨r,Q,r,O,P,G,fun _=>⟨⟨0,⟨⟨rfl,rfl,trivial⟩,trivial⟩,jHd _⟩,fun x M=>⟨fun m=> ?_,fun m=> ?_⟩⟩⟩
  .have m:(x:Int)<((U.jp (U.ro (U.jM d (U.jh d b))) b).length:Int):=of_decide_eq_true m;have B:0<=nth (U.jp (U.ro (U.jM d (U.jh d b))) b) x/\nth (U.jp (U.ro (U.jM d (U.jh d b))) b) x<8:=by
    rw[t] at m⊢;exact o _ (L.mem_nth (by omega))
   have V:=gS (l:=U.jp (U.ro (U.jM d (U.jh d b))) b) (i:=x) (by omega);have f:BT.Set' ((2:Int)^(nth (U.jp (U.ro (U.jM d (U.jh d b))) b) x).toNat):=BT.two_set (by omega);unfold BT.Set' at f;have K:(U.jp (U.ro (U.jM d (U.jh d b))) b).length<=8:=(by rw[t];exact A);exact⟨by omega,m,B.1,by show nth (U.jp (U.ro (U.jM d (U.jh d b))) b) x<=64;omega,by show jy (1*2^(nth (U.jp (U.ro (U.jM d (U.jh d b))) b) x).toNat);rw[gw];exact L.in64 (by omega) (by omega),L.in64 (by omega) (by omega),x+1,⟨⟨by simp,V.symm,trivial⟩,trivial⟩,by show x+1<=(U.jp (U.ro (U.jM d (U.jh d b))) b).length;omega,by show(U.jp (U.ro (U.jM d (U.jh d b))) b).length-(x+1)<(U.jp (U.ro (U.jM d (U.jh d b))) b).length-x;omega⟩
  .have m:¬(x:Int)<((U.jp (U.ro (U.jM d (U.jh d b))) b).length:Int):=of_decide_eq_false m;have M:x<=(U.jp (U.ro (U.jM d (U.jh d b))) b).length:=M;have C:x=(U.jp (U.ro (U.jM d (U.jh d b))) b).length:=(by omega);have j:U.js (U.jp (U.ro (U.jM d (U.jh d b))) b) x=U.jbA d b:=by
    rw[C,t];rfl
   have W:0<=U.jbA d b/\U.jbA d b<256:=jBj o (jG5 _);have k:∀y,U.j9 d b (U.js (U.jp (U.ro (U.jM d (U.jh d b))) b) x) (U.jA (U.jY (U.ro (U.jM d (U.jh d b)))) b) y=U.j9 d b (U.jbA d b) (U.jA (U.jY (U.yI d)) b) y:=by
    intro y;rw[j,I]
   refine⟨?_,⟨0,⟨⟨rfl,rfl,rfl,rfl,trivial⟩,trivial⟩,jHd _⟩,fun y D=>⟨fun f=> ?_,fun f=> ?_⟩⟩
   .show jy (U.js (U.jp (U.ro (U.jM d (U.jh d b))) b) x+1);rw[j];exact L.in64 (by omega) (by omega)
   .have f:(y:Int)<U.js (U.jp (U.ro (U.jM d (U.jh d b))) b) x+1:=of_decide_eq_true f;rw[j] at f;have q:=jmQ d b (U.jbA d b) (U.jA (U.jY (U.yI d)) b) y;have N:y+1<=(U.js (U.jp (U.ro (U.jM d (U.jh d b))) b) x).toNat+1:=(by rw[j];omega);have F:(U.js (U.jp (U.ro (U.jM d (U.jh d b))) b) x).toNat+1-(y+1)<(U.js (U.jp (U.ro (U.jM d (U.jh d b))) b) x).toNat+1-y:=(by rw[j];omega);have H:((decide (zx (y:Int) (U.js (U.jp (U.ro (U.jM d (U.jh d b))) b) x)=0)&&(!(U.j9 d b (U.js (U.jp (U.ro (U.jM d (U.jh d b))) b) x) (U.jA (U.jY (U.ro (U.jM d (U.jh d b)))) b) y).2.2||decide (U.wb (U.rd (U.ro (U.jM d (U.jh d b)))) (y:Int)<(U.j9 d b (U.js (U.jp (U.ro (U.jM d (U.jh d b))) b) x) (U.jA (U.jY (U.ro (U.jM d (U.jh d b)))) b) y).2.1)))&&U.jat (U.rd (U.ro (U.jM d (U.jh d b)))) b (bor (U.jA (U.jY (U.ro (U.jM d (U.jh d b)))) b) (y:Int)))=((decide (zx (y:Int) (U.jbA d b)=0)&&(!(U.j9 d b (U.jbA d b) (U.jA (U.jY (U.yI d)) b) y).2.2||decide (U.wb d (y:Int)<(U.j9 d b (U.jbA d b) (U.jA (U.jY (U.yI d)) b) y).2.1)))&&U.jat d b (bor (U.jA (U.jY (U.yI d)) b) (y:Int))):=by
     rw[k,j,I,s]
    refine⟨r,?_,by omega,by omega,fun _=>r,fun _=>G,fun c=> ?_,fun c=> ?_⟩
    .show U.jl (U.jb (U.rd (U.ro (U.jM d (U.jh d b)))))=true;rw[s];exact g.may.1.1
    .have c:=H.symm.trans c;have a:U.j9 d b (U.jbA d b) (U.jA (U.jY (U.yI d)) b) (y+1)=((y:Int),U.wb d (y:Int),true):=by
      rw[q];unfold U.jiS;rw[if_pos c]
     refine⟨L.in64 (by omega) (by omega),y+1,⟨⟨by simp,?_,?_,?_,trivial⟩,trivial⟩,N,F⟩
     .show true=(U.j9 d b (U.js (U.jp (U.ro (U.jM d (U.jh d b))) b) x) (U.jA (U.jY (U.ro (U.jM d (U.jh d b)))) b) (y+1)).2.2;rw[k,a]
     .show U.wb (U.rd (U.ro (U.jM d (U.jh d b)))) (y:Int)=(U.j9 d b (U.js (U.jp (U.ro (U.jM d (U.jh d b))) b) x) (U.jA (U.jY (U.ro (U.jM d (U.jh d b)))) b) (y+1)).2.1;rw[k,a,s]
     .show(y:Int)=(U.j9 d b (U.js (U.jp (U.ro (U.jM d (U.jh d b))) b) x) (U.jA (U.jY (U.ro (U.jM d (U.jh d b)))) b) (y+1)).1;rw[k,a]
    .have c:=H.symm.trans c;have a:U.j9 d b (U.js (U.jp (U.ro (U.jM d (U.jh d b))) b) x) (U.jA (U.jY (U.ro (U.jM d (U.jh d b)))) b) (y+1)=U.j9 d b (U.js (U.jp (U.ro (U.jM d (U.jh d b))) b) x) (U.jA (U.jY (U.ro (U.jM d (U.jh d b)))) b) y:=by
      rw[k,k,q];unfold U.jiS;rw[c,if_neg (by simp)]
     exact⟨L.in64 (by omega) (by omega),y+1,⟨⟨congrArg (·.2.2) a.symm,congrArg (·.2.1) a.symm,congrArg (·.1) a.symm,by simp,trivial⟩,trivial⟩,N,F⟩
   .have f:¬(y:Int)<U.js (U.jp (U.ro (U.jM d (U.jh d b))) b) x+1:=of_decide_eq_false f;have D:y<=(U.js (U.jp (U.ro (U.jM d (U.jh d b))) b) x).toNat+1:=D;rw[j] at f D;have E:y=(U.jbA d b).toNat+1:=(by omega);have u:U.j9 d b (U.js (U.jp (U.ro (U.jM d (U.jh d b))) b) x) (U.jA (U.jY (U.ro (U.jM d (U.jh d b)))) b) y=U.jz0 d b:=by
     rw[k,E];rfl
    refine⟨fun c=> ?_,fun c=> ?_⟩
    .have c:(!(U.j9 d b (U.js (U.jp (U.ro (U.jM d (U.jh d b))) b) x) (U.jA (U.jY (U.ro (U.jM d (U.jh d b)))) b) y).2.2)=true:=c;rw[u] at c;have c:(U.jz0 d b).2.2=false:=(by simpa using c);have e:U.kJ d b=3:=(by unfold U.kJ;rw[if_pos h,c,if_neg (by simp)]);show((0:Int),(0:Int),(3:Int),())=(U.zk d b,U.gA d b,U.kJ d b,());unfold U.zk U.gA;rw[e];rfl
    .have c:(!(U.j9 d b (U.js (U.jp (U.ro (U.jM d (U.jh d b))) b) x) (U.jA (U.jY (U.ro (U.jM d (U.jh d b)))) b) y).2.2)=false:=c;rw[u] at c;have c:(U.jz0 d b).2.2=true:=(by simpa using c);have e:U.kJ d b=0:=(by unfold U.kJ;rw[if_pos h,c,if_pos rfl]);show((U.j9 d b (U.js (U.jp (U.ro (U.jM d (U.jh d b))) b) x) (U.jA (U.jY (U.ro (U.jM d (U.jh d b)))) b) y).1,(U.j9 d b (U.js (U.jp (U.ro (U.jM d (U.jh d b))) b) x) (U.jA (U.jY (U.ro (U.jM d (U.jh d b)))) b) y).2.1,(0:Int),())=(U.zk d b,U.gA d b,U.kJ d b,());rw[u];unfold U.zk U.gA;rw[e];rfl
theorem jyV:zu PR 24 jx5:=wi jAI jB5 Tryz.func24 (kcC jsS (kcC vG (kcC jbv (kcC jck (kcC vH kcN))))) (koC jhE koN)
end Go.X
namespace Go.X
open Go.Proofs
abbrev tSe:Ty:= .st [.ptr tRo,.slice (.slice .int),.slice .int,.slice .int,.int,.bool]
abbrev jGT:Sh:= .box 87 [.dat (.ptr tRo),.row 34 (.slice .int) .unk,.row 3 .int .no,.row 3 .int .unk,.dat .int,.dat .bool]
abbrev SeD:Type:=Option RoD×List (List Int)×List Int×List Int×Int×Bool×Unit
abbrev StD:Type:=List Int×List Int×Int×Bool
namespace U
def wy (ts:List Int) (p:Int) (n:Nat):List Int:=((List.range n).filter (fun i=>decide (qH (nth ts i/2^p.toNat) 1=1))).map (fun(i:Nat)=>(i:Int))
def yo (r:RoD) (ts:List Int) (b n:Nat):Bool:=(List.range n).all (fun p=>gE r (p:Int) (wy ts (p:Int) (b+1)))
def qD (r:RoD) (ch:List (List Int)):Nat->Nat->Int->StD->StD
 |0,_,_,x=>x
 |k+1,b,fee,x=>
  if(x.2.2.2&&decide (x.2.2.1<=fee))=true then x
  else if b=(jq (rd r)).length then(x.1,x.1,fee,true)
  else(nth ch b).foldl (fun x t=>if yo r (x.1.set b t) b (jY r).length=true then qD r ch k (b+1) (fee+wb (rd r) t) (x.1.set b t,x.2) else(x.1.set b t,x.2)) x
def jnr (r:RoD) (ch:List (List Int)) (k b:Nat) (fee:Int) (x:StD) (t:Int):StD:=
 if yo r (x.1.set b t) b (jY r).length=true then qD r ch k (b+1) (fee+wb (rd r) t) (x.1.set b t,x.2) else(x.1.set b t,x.2)
def ju (r:RoD) (ch:List (List Int)) (k b:Nat) (fee:Int) (x:StD) (n:Nat):StD:=((nth ch b).take n).foldl (jnr r ch k b fee) x
def jo (s:SeD):StD:=(s.2.2.1,s.2.2.2.1,s.2.2.2.2.1,s.2.2.2.2.2.1)
def vN (s:SeD) (x:StD):SeD:=(s.1,s.2.1,x.1,x.2.1,x.2.2.1,x.2.2.2,())
def okCh (d:DyD) (ch:List (List Int)):Prop:=ch.length=(jq d).length/\∀l∈ch,∀t∈l,0<=t/\t<256
def jwh (k:Nat) (s:SeD) (b fee:Int):Prop:=s.1.isSome=true/\jag (ro s.1)/\(jY (ro s.1)).length=(je (jb (rd (ro s.1)))).length/\okCh (rd (ro s.1)) s.2.1/\s.2.2.1.length=(jq (rd (ro s.1))).length/\
 (0<=b/\b<=((jq (rd (ro s.1))).length:Int)/\((jq (rd (ro s.1))).length:Int)<b+k)/\0<=fee/\fee<=8000*b
end U
def yX:zP:=⟨[.own (.cl (.row 3 .int .no)) true],[rwI],fun d=>[d.1.length<=100000],fun d=>((d.1,()),(d.1,()))⟩
def jfe:Prop:=∀(d:List Int×Unit),d.1.length<=100000->(false=true->([],())=d/\d=d)/\(false=false->(0+d.1.length)*8<=140737488355328/\([]++d.1,())=d/\d=d)
def vE (k:Nat):zP:=⟨[.own jGT true,.val .int,.val .int],[],fun d=>[U.jwh k d.1 d.2.1 d.2.2.1],fun d=>((),(U.vN d.1 (U.qD (U.ro d.1.1) d.1.2.1 k d.2.1.toNat d.2.2.1 (U.jo d.1)),()))⟩
def jiE (k:Nat):Ann:=fun r=>match r with
 |4=>some fun σ=>{X:=Nat,sl:=fun i=>[(58,.dat .int (i:Int)),(53,.any),(55,.any)],ob:=fun i=>[(1000000,some (.box 87 false (((bx σ 1000000).set 4 (.dat .int (U.ju (U.ro (gb tSe σ 1000000).1) (gb tSe σ 1000000).2.1 k (gd .int σ 1).toNat (gd .int σ 2) (U.jo (gb tSe σ 1000000)) i).2.2.1)).set 5 (.dat .bool (U.ju (U.ro (gb tSe σ 1000000).1) (gb tSe σ 1000000).2.1 k (gd .int σ 1).toNat (gd .int σ 2) (U.jo (gb tSe σ 1000000)) i).2.2.2)))),(400002,some (.row 3 .int false .no (U.ju (U.ro (gb tSe σ 1000000).1) (gb tSe σ 1000000).2.1 k (gd .int σ 1).toNat (gd .int σ 2) (U.jo (gb tSe σ 1000000)) i).1)),(400003,some (.row 3 .int false .unk (U.ju (U.ro (gb tSe σ 1000000).1) (gb tSe σ 1000000).2.1 k (gd .int σ 1).toNat (gd .int σ 2) (U.jo (gb tSe σ 1000000)) i).2.1))],inv:=fun i=>i<=(nth (gb tSe σ 1000000).2.1 (gd .int σ 1).toNat).length/\(U.ju (U.ro (gb tSe σ 1000000).1) (gb tSe σ 1000000).2.1 k (gd .int σ 1).toNat (gd .int σ 2) (U.jo (gb tSe σ 1000000)) i).1.length=(gb tSe σ 1000000).2.2.1.length,mu:=fun i=>(nth (gb tSe σ 1000000).2.1 (gd .int σ 1).toNat).length-i}
 |8=>some fun σ=>{X:=Nat,sl:=fun p=>[(77,.dat .int (p:Int))],ob:=fun _=>[],inv:=fun p=>p<=(U.jY (U.ro (gb tSe σ 1000000).1)).length/\U.yo (U.ro (gb tSe σ 1000000).1) (gr .int σ 400002) (gd .int σ 1).toNat p=true,mu:=fun p=>(U.jY (U.ro (gb tSe σ 1000000).1)).length-p}
 |12=>some fun σ=>{X:=Nat,sl:=fun i=>[(88,.dat .int (i:Int)),(9,.own 9 .int)],ob:=fun i=>[(9,some (.row 3 .int false .yes (U.wy (gr .int σ 400002) (gd .int σ 8) i)))],inv:=fun i=>i<=(gd .int σ 1).toNat+1,mu:=fun i=>(gd .int σ 1).toNat+1-i}
 |_=>none
def jjS:Prop:=∀k:Nat,jwi (ctx 125 [(76,jb7),(49,jb6)] [(75,yX),(42,vE k)]) (jiE k) Tryz.f42 (zZ Tryz.f42) (vE (k+1))
abbrev q106_1 (d:(Option RoD×List (List Int)×List Int×List Int×Int×Bool×Unit)×Int×Int×Unit)(k:Nat)(x:Nat):=(U.ju (U.ro d.1.1) d.1.2.1 k d.2.1.toNat d.2.2.1 (U.jo d.1) x)
abbrev q106_3 (d:(Option RoD×List (List Int)×List Int×List Int×Int×Bool×Unit)×Int×Int×Unit)(k:Nat)(a:Nat):=(U.ju (U.ro d.1.1) d.1.2.1 k d.2.1.toNat d.2.2.1 (U.jo d.1) a)
abbrev q106_4 (d:(Option RoD×List (List Int)×List Int×List Int×Int×Bool×Unit)×Int×Int×Unit):=(jR ((((0:Int),[],[],()),[],[],(0:Int),(0:Int),[],()),[],[],[],()) d.1.1)
abbrev q106_5 (d:(Option RoD×List (List Int)×List Int×List Int×Int×Bool×Unit)×Int×Int×Unit):=(nth d.1.2.1 d.2.1.toNat)
abbrev q106_2 (d:(Option RoD×List (List Int)×List Int×List Int×Int×Bool×Unit)×Int×Int×Unit)(k:Nat)(x:Nat):=((q106_1 d k x).1.set d.2.1.toNat (nth (q106_5 d) (x:Int).toNat))
abbrev q106_6 (d:(Option RoD×List (List Int)×List Int×List Int×Int×Bool×Unit)×Int×Int×Unit)(k:Nat)(x:Nat):=(d.1.1,d.1.2.1,(q106_1 d k x).1.set d.2.1.toNat (nth (q106_5 d) (x:Int).toNat),(q106_1 d k x).2.1,(q106_1 d k x).2.2.1,(q106_1 d k x).2.2.2,())
abbrev q106_0 (d:(Option RoD×List (List Int)×List Int×List Int×Int×Bool×Unit)×Int×Int×Unit)(k:Nat)(x:Nat):=(U.vN (q106_6 d k x) (U.qD (U.ro d.1.1) d.1.2.1 k (d.2.1+1).toNat (d.2.2.1+U.wb (U.rd (U.ro d.1.1)) (nth (q106_5 d) (x:Int).toNat)) (U.jo (q106_6 d k x))))
abbrev q106_7 (d:(Option RoD×List (List Int)×List Int×List Int×Int×Bool×Unit)×Int×Int×Unit)(k:Nat):=(U.vN d.1 (U.qD (U.ro d.1.1) d.1.2.1 (k+1) d.2.1.toNat d.2.2.1 (U.jo d.1)),())
def jbq:Prop:=∀(k:Nat) (d:(Option RoD×List (List Int)×List Int×List Int×Int×Bool×Unit)×Int×Int×Unit),U.jwh (k+1) d.1 d.2.1 d.2.2.1->((d.1.2.2.2.2.2.1&&decide (d.1.2.2.2.2.1<=d.2.2.1))=true->()=()/\(d.1,())=(q106_7 d k))/\((d.1.2.2.2.2.2.1&&decide (d.1.2.2.2.2.1<=d.2.2.1))=false->d.1.1.isSome=true/\((q106_4 d).1.2.2.1.length<4611686018427387904->(decide (d.2.1=(↑(q106_4 d).1.2.2.1.length:Int))=true->d.1.2.2.1.length<=100000/\()=()/\((d.1.1,d.1.2.1,d.1.2.2.1,d.1.2.2.1,d.2.2.1,true,()),())=(q106_7 d k))/\(decide (d.2.1=(↑(q106_4 d).1.2.2.1.length:Int))=false->0<=d.2.1/\d.2.1<(d.1.2.1.length:Int)/\((q106_5 d).length<4611686018427387904->(∃(x:Nat),((0=(x:Int)/\True)/\(d.1.1=d.1.1/\True/\True/\True/\d.1.2.2.2.2.1=(q106_1 d k x).2.2.1/\d.1.2.2.2.2.2.1=(q106_1 d k x).2.2.2/\True)/\d.1.2.2.1=(q106_1 d k x).1/\d.1.2.2.2.1=(q106_1 d k x).2.1/\True)/\x<=(q106_5 d).length/\(q106_1 d k x).1.length=d.1.2.2.1.length)/\∀(x:Nat),x<=(q106_5 d).length/\(q106_1 d k x).1.length=d.1.2.2.1.length->(decide ((x:Int)<(↑(q106_5 d).length:Int))=true->0<=(x:Int)/\(x:Int)<(↑(q106_5 d).length:Int)/\0<=d.2.1/\d.2.1<(↑(q106_1 d k x).1.length:Int)/\d.1.1.isSome=true/\((q106_4 d).2.2.1.length<4611686018427387904->(∃(a:Nat),((0=(a:Int)/\True)/\True)/\a<=(U.jY (U.ro d.1.1)).length/\U.yo (U.ro d.1.1) (q106_2 d k x) d.2.1.toNat a=true)/\∀(a:Nat),a<=(U.jY (U.ro d.1.1)).length/\U.yo (U.ro d.1.1) (q106_2 d k x) d.2.1.toNat a=true->(decide ((a:Int)<(↑(q106_4 d).2.2.1.length:Int))=true->jy (d.2.1+1)/\(0:Int)<=0/\0<=d.2.1+1/\d.2.1+1<=(↑(q106_2 d k x).length:Int)/\((d.2.1+1).toNat-Int.toNat 0<4611686018427387904->(∃(b:Nat),((0=(b:Int)/\True/\True)/\U.wy (q106_2 d k x) (a:Int) b=[]/\True)/\b<=d.2.1.toNat+1)/\∀(b:Nat),b<=d.2.1.toNat+1->(decide ((b:Int)<(↑((d.2.1+1).toNat-Int.toNat 0):Int))=true->0<=(b:Int)/\(b:Int)<(↑((d.2.1+1).toNat-Int.toNat 0):Int)/\0<=(a:Int)/\(a:Int)<=64/\(decide (qH (nth (q106_2 d k x) (Int.toNat 0+(b:Int).toNat)/(2:Int)^(a:Int).toNat) (1:Int)=1)=true->((U.wy (q106_2 d k x) (a:Int) b).length+[(b:Int)].length)*8<=140737488355328/\jy ((b:Int)+1)/\∃(c:Nat),(((b:Int)+1=(c:Int)/\True/\True)/\U.wy (q106_2 d k x) (a:Int) b++[(b:Int)]=U.wy (q106_2 d k x) (a:Int) c/\True)/\c<=d.2.1.toNat+1/\d.2.1.toNat+1-c<d.2.1.toNat+1-b)/\(decide (qH (nth (q106_2 d k x) (Int.toNat 0+(b:Int).toNat)/(2:Int)^(a:Int).toNat) (1:Int)=1)=false->jy ((b:Int)+1)/\∃(c:Nat),((True/\(b:Int)+1=(c:Int)/\True)/\U.wy (q106_2 d k x) (a:Int) b=U.wy (q106_2 d k x) (a:Int) c/\True)/\c<=d.2.1.toNat+1/\d.2.1.toNat+1-c<d.2.1.toNat+1-b))/\(decide ((b:Int)<(↑((d.2.1+1).toNat-Int.toNat 0):Int))=false->d.1.1.isSome=true/\U.jag (U.ro d.1.1)/\U.jn0 (U.rd (U.ro d.1.1)) (a:Int)/\U.jfQ (U.rd (U.ro d.1.1)) (U.wy (q106_2 d k x) (a:Int) b)/\((!U.gE (U.ro d.1.1) (a:Int) (U.wy (q106_2 d k x) (a:Int) b))=true->jy ((x:Int)+1)/\∃(c:Nat),(((x:Int)+1=(c:Int)/\True)/\(q106_1 d k x).2.1=(q106_3 d k c).2.1/\(d.1.1=d.1.1/\True/\True/\True/\(q106_1 d k x).2.2.1=(q106_3 d k c).2.2.1/\(q106_1 d k x).2.2.2=(q106_3 d k c).2.2.2/\True)/\(q106_1 d k x).1.set d.2.1.toNat (nth (q106_5 d) (x:Int).toNat)=(q106_3 d k c).1/\True)/\(c<=(q106_5 d).length/\(q106_3 d k c).1.length=d.1.2.2.1.length)/\(q106_5 d).length-c<(q106_5 d).length-x)/\((!U.gE (U.ro d.1.1) (a:Int) (U.wy (q106_2 d k x) (a:Int) b))=false->jy ((a:Int)+1)/\∃(c:Nat),(((a:Int)+1=(c:Int)/\True)/\True)/\(c<=(U.jY (U.ro d.1.1)).length/\U.yo (U.ro d.1.1) (q106_2 d k x) d.2.1.toNat c=true)/\(U.jY (U.ro d.1.1)).length-c<(U.jY (U.ro d.1.1)).length-a))))/\(decide ((a:Int)<(↑(q106_4 d).2.2.1.length:Int))=false->jy (d.2.1+1)/\d.1.1.isSome=true/\U.jl (U.jb (U.rd (U.ro d.1.1)))=true/\0<=nth (q106_5 d) (x:Int).toNat/\nth (q106_5 d) (x:Int).toNat<=1000000/\jy (d.2.2.1+U.wb (U.rd (U.ro d.1.1)) (nth (q106_5 d) (x:Int).toNat))/\U.jwh k (q106_6 d k x) (d.2.1+1) (d.2.2.1+U.wb (U.rd (U.ro d.1.1)) (nth (q106_5 d) (x:Int).toNat))/\jy ((x:Int)+1)/\∃(c:Nat),(((x:Int)+1=(c:Int)/\True)/\((q106_0 d k x).1=d.1.1/\True/\True/\True/\(q106_0 d k x).2.2.2.2.1=(q106_3 d k c).2.2.1/\(q106_0 d k x).2.2.2.2.2.1=(q106_3 d k c).2.2.2/\True)/\(q106_0 d k x).2.1=d.1.2.1/\(q106_0 d k x).2.2.2.1=(q106_3 d k c).2.1/\(q106_0 d k x).2.2.1=(q106_3 d k c).1/\True)/\(c<=(q106_5 d).length/\(q106_3 d k c).1.length=d.1.2.2.1.length)/\(q106_5 d).length-c<(q106_5 d).length-x)))/\(decide ((x:Int)<(↑(q106_5 d).length:Int))=false->()=()/\((d.1.1,d.1.2.1,(q106_1 d k x).1,(q106_1 d k x).2.1,(q106_1 d k x).2.2.1,(q106_1 d k x).2.2.2,()),())=(q106_7 d k))))))
theorem jd3:(jjS)=jbq:=by kernel_rfl
end Go.X
namespace Go.X
open Go.Proofs
theorem jhd:jfe:=by
 rintro⟨l,⟨⟩⟩ a;have a:l.length<=100000:=a;exact⟨fun h=>(by cases h),fun _=>⟨by show(0+l.length)*8<=_;omega,rfl,rfl⟩⟩
theorem jfJ:qa PR 75 yX:=jka jhd Tryz.func75 kcN koN
theorem jv7 (ts:List Int) (p:Int) (n:Nat):U.wy ts p (n+1)=U.wy ts p n++(if decide (qH (nth ts n/2^p.toNat) 1=1)=true then[(n:Int)] else[]):=by
 unfold U.wy;rw[L.range_filter_succ,jHR];by_cases h:decide (qH (nth ts n/2^p.toNat) 1=1)=true
 .rw[if_pos h,if_pos h];rfl
 .rw[if_neg h,if_neg h];rfl
theorem jpZ (ts:List Int) (p:Int) (n:Nat):(U.wy ts p n).length<=n:=by
 unfold U.wy;rw[jH6];exact jHi (jH4 _ _) (by simp)
theorem jyG {ts:List Int} {p:Int} {n:Nat} {b:Int} (h:b∈U.wy ts p n):0<=b/\b<(n:Int):=by
 unfold U.wy at h;obtain⟨i,hi,rfl⟩:=jHy.1 h;have:=jHj.1 (jHh.1 hi).1;omega
theorem jsI {r:RoD} {ts:List Int} {b n:Nat}:U.yo r ts b (n+1)=(U.yo r ts b n&&U.gE r (n:Int) (U.wy ts (n:Int) (b+1))):=by
 unfold U.yo;rw[jHq,List.all_append];simp
theorem jpY {r:RoD} {ts:List Int} {b n m:Nat} (a:m<n) (h:U.gE r (m:Int) (U.wy ts (m:Int) (b+1))=false):U.yo r ts b n=false:=by
 unfold U.yo;rw[jId];exact⟨m,jHj.2 a,by rw[h];simp⟩
theorem jpm {r:RoD} {ch:List (List Int)} {k b:Nat} {fee:Int} {x:StD} {n:Nat} (h:n<(nth ch b).length):U.ju r ch k b fee x (n+1)=U.jnr r ch k b fee (U.ju r ch k b fee x n) (nth (nth ch b) n):=by
 unfold U.ju;rw[L.take_succ h,jHk];rfl
theorem jpl {r:RoD} {ch:List (List Int)} {k b:Nat} {fee:Int} {x:StD} (a:(x.2.2.2&&decide (x.2.2.1<=fee))=false) (c:b≠(U.jq (U.rd r)).length):U.qD r ch (k+1) b fee x=U.ju r ch k b fee x (nth ch b).length:=by
 show(if(x.2.2.2&&decide (x.2.2.1<=fee))=true then x else if b=(U.jq (U.rd r)).length then(x.1,x.1,fee,true) else(nth ch b).foldl (U.jnr r ch k b fee) x)=_;rw[a,if_neg (by simp),if_neg c];unfold U.ju;rw[jHU (jG5 _)]
mutual
theorem jBe {r:RoD} {ch:List (List Int)}:∀(k b:Nat) (fee:Int) (x:StD),(U.qD r ch k b fee x).1.length=x.1.length
 |0,_,_,_=>rfl
 |k+1,b,fee,x=>by
  by_cases a:(x.2.2.2&&decide (x.2.2.1<=fee))=true
  .show(if(x.2.2.2&&decide (x.2.2.1<=fee))=true then x else _).1.length=_
   rw[if_pos a]
  .by_cases c:b=(U.jq (U.rd r)).length
   .show(if(x.2.2.2&&decide (x.2.2.1<=fee))=true then x else if b=(U.jq (U.rd r)).length then(x.1,x.1,fee,true) else _).1.length=_
    rw[if_neg a,if_pos c]
   .rw[jpl (by simpa using a) c]
    exact jnq k b fee x _ (jG5 _)
termination_by k=>(k,0)
theorem jnq {r:RoD} {ch:List (List Int)}:∀(k b:Nat) (fee:Int) (x:StD) (n:Nat),n<=(nth ch b).length->(U.ju r ch k b fee x n).1.length=x.1.length
 |_,_,_,_,0,_=>rfl
 |k,b,fee,x,n+1,h=>by
  rw[jpm h]
  have d:=jnq (r:=r) (ch:=ch) k b fee x n (by omega)
  unfold U.jnr
  split
  .rw[jBe k]
   show((U.ju r ch k b fee x n).1.set b _).length=_
   rw[List.length_set,d]
  .show((U.ju r ch k b fee x n).1.set b _).length=_
   rw[List.length_set,d]
termination_by k _ _ _ n=>(k,n+1)
end
theorem jky:jbq:=by
 unfold jbq q106_7 q106_0 q106_6 q106_2 q106_5 q106_4 q106_3 q106_1;rintro k ⟨s,b,fee,⟨⟩⟩ h0;obtain⟨g,d,Q,⟨M,D⟩,S,⟨V,b1,b2⟩,f0,f1⟩:U.jwh (k+1) s b fee:=h0;obtain⟨B,hB⟩:∃B:Nat,b=(B:Int):=⟨b.toNat,by omega⟩;subst hB;have I:=d.1;have hb4:(U.jq (U.rd (U.ro s.1))).length<=4:=(za I.2.2).1;have h8:(U.je (U.jb (U.rd (U.ro s.1)))).length<=8:=(jv I.1).2.2.1;refine⟨fun h=>⟨rfl,?_⟩,fun h=>⟨g,fun _=>⟨fun A=>⟨?_,rfl,?_⟩,fun A=> ?_⟩⟩⟩
 .have h:((U.jo s).2.2.2&&decide ((U.jo s).2.2.1<=fee))=true:=h;have e:U.qD (U.ro s.1) s.2.1 (k+1) B fee (U.jo s)=U.jo s:=by
   show(if((U.jo s).2.2.2&&decide ((U.jo s).2.2.1<=fee))=true then U.jo s else _)=_;rw[if_pos h]
  show(s,())=(U.vN s (U.qD (U.ro s.1) s.2.1 (k+1) B fee (U.jo s)),());rw[e];rfl
 .show s.2.2.1.length<=100000;omega
 .have A:(B:Int)=((U.jq (U.rd (U.ro s.1))).length:Int):=of_decide_eq_true A;have h:((U.jo s).2.2.2&&decide ((U.jo s).2.2.1<=fee))=false:=h;have e:U.qD (U.ro s.1) s.2.1 (k+1) B fee (U.jo s)=(s.2.2.1,s.2.2.1,fee,true):=by
   show(if((U.jo s).2.2.2&&decide ((U.jo s).2.2.1<=fee))=true then U.jo s else if B=(U.jq (U.rd (U.ro s.1))).length then((U.jo s).1,(U.jo s).1,fee,true) else _)=_;rw[h,if_neg (by simp),if_pos (by omega)];rfl
  show((s.1,s.2.1,s.2.2.1,s.2.2.1,fee,true,()),())=(U.vN s (U.qD (U.ro s.1) s.2.1 (k+1) B fee (U.jo s)),());rw[e];rfl
 have A:¬(B:Int)=((U.jq (U.rd (U.ro s.1))).length:Int):=of_decide_eq_false A;have h:((U.jo s).2.2.2&&decide ((U.jo s).2.2.1<=fee))=false:=h;have hBn:B<(U.jq (U.rd (U.ro s.1))).length:=(by omega);have C:=jpl (r:=U.ro s.1) (ch:=s.2.1) (k:=k) (b:=B) (fee:=fee) h (by omega);have u:jy ((B:Int)+1):=L.in64 (by omega) (by omega);have K:0<=(B:Int)+1:=(by omega);refine⟨V,by show(B:Int)<(s.2.1.length:Int);omega,fun E=>⟨⟨0,⟨⟨rfl,trivial⟩,⟨rfl,trivial,trivial,trivial,rfl,rfl,trivial⟩,rfl,rfl,trivial⟩,jHd _,rfl⟩,fun x hx=>⟨fun z=> ?_,fun z=>⟨rfl,?_⟩⟩⟩⟩
 .have z:(x:Int)<((nth s.2.1 B).length:Int):=of_decide_eq_true z;have E:(nth s.2.1 B).length<4611686018427387904:=E;have m:x<(nth s.2.1 B).length:=(by omega);obtain⟨_,F⟩:x<=(nth s.2.1 B).length/\(U.ju (U.ro s.1) s.2.1 k B fee (U.jo s) x).1.length=s.2.2.1.length:=hx;have f:=jpm (r:=U.ro s.1) (ch:=s.2.1) (k:=k) (b:=B) (fee:=fee) (x:=U.jo s) m;have o:=jnq (r:=U.ro s.1) (ch:=s.2.1) k B fee (U.jo s) (x+1) (by omega);have o:(U.ju (U.ro s.1) s.2.1 k B fee (U.jo s) (x+1)).1.length=s.2.2.1.length:=o;have Z:=D _ (L.mem_nth (l:=s.2.1) (i:=B) (by omega)) _ (L.mem_nth m);have up:x+1<=(nth s.2.1 B).length:=m;have W:(nth s.2.1 B).length-(x+1)<(nth s.2.1 B).length-x:=(by omega);have tl:((U.ju (U.ro s.1) s.2.1 k B fee (U.jo s) x).1.set B (nth (nth s.2.1 B) x)).length=(U.jq (U.rd (U.ro s.1))).length:=by
   rw[List.length_set,F,S]
  refine⟨by omega,z,V,by show(B:Int)<((U.ju (U.ro s.1) s.2.1 k B fee (U.jo s) x).1.length:Int);omega,g,fun _=>⟨⟨0,⟨⟨rfl,trivial⟩,trivial⟩,jHd _,rfl⟩,fun p Y=>⟨fun w=>⟨u,jH9 0,K,?_,fun _=>⟨⟨0,⟨⟨rfl,trivial,trivial⟩,rfl,trivial⟩,jHd _⟩,fun j J=>⟨fun t=> ?_,fun t=> ?_⟩⟩⟩,fun w=> ?_⟩⟩⟩
  .show(B:Int)+1<=(((U.ju (U.ro s.1) s.2.1 k B fee (U.jo s) x).1.set B (nth (nth s.2.1 B) x)).length:Int);rw[tl];omega
  .have t:(j:Int)<((((B:Int)+1).toNat-Int.toNat 0:Nat):Int):=of_decide_eq_true t;have H:((B:Int)+1).toNat-Int.toNat 0=B+1:=(by simp only[Int.toNat_zero];omega);rw[H] at t;have w:(p:Int)<((U.jY (U.ro s.1)).length:Int):=of_decide_eq_true w;have J:j<=B+1:=J;have q:=jv7 ((U.ju (U.ro s.1) s.2.1 k B fee (U.jo s) x).1.set B (nth (nth s.2.1 B) x)) (p:Int) j;have P:=jpZ ((U.ju (U.ro s.1) s.2.1 k B fee (U.jo s) x).1.set B (nth (nth s.2.1 B) x)) (p:Int) j;have e0:Int.toNat 0+(j:Int).toNat=j:=(by simp);have X:∀T:Bool,decide (qH (nth ((U.ju (U.ro s.1) s.2.1 k B fee (U.jo s) x).1.set B (nth (nth s.2.1 B) x)) (Int.toNat 0+(j:Int).toNat)/2^(p:Int).toNat) 1=1)=T->decide (qH (nth ((U.ju (U.ro s.1) s.2.1 k B fee (U.jo s) x).1.set B (nth (nth s.2.1 B) x)) j/2^(p:Int).toNat) 1=1)=T:=by
    intro T G;rw[e0] at G;exact G
   refine⟨by omega,by show(j:Int)<((((B:Int)+1).toNat-Int.toNat 0:Nat):Int);rw[H];exact t,by omega,by omega,fun a=>⟨?_,L.in64 (by omega) (by omega),j+1,⟨⟨by simp,trivial,trivial⟩,?_,trivial⟩,by show j+1<=B+1;omega,by show B+1-(j+1)<B+1-j;omega⟩,fun a=>⟨L.in64 (by omega) (by omega),j+1,⟨⟨trivial,by simp,trivial⟩,?_,trivial⟩,by show j+1<=B+1;omega,by show B+1-(j+1)<B+1-j;omega⟩⟩
   .show((U.wy ((U.ju (U.ro s.1) s.2.1 k B fee (U.jo s) x).1.set B (nth (nth s.2.1 B) x)) (p:Int) j).length+1)*8<=140737488355328;omega
   .rw[X _ a,if_pos rfl] at q;exact q.symm
   .rw[X _ a,if_neg (by simp),jHw] at q;exact q.symm
  .have t:¬(j:Int)<((((B:Int)+1).toNat-Int.toNat 0:Nat):Int):=of_decide_eq_false t;have H:((B:Int)+1).toNat-Int.toNat 0=B+1:=(by simp only[Int.toNat_zero];omega);rw[H] at t;have w:(p:Int)<((U.jY (U.ro s.1)).length:Int):=of_decide_eq_true w;have J:j<=B+1:=J;have N:j=B+1:=(by omega);subst N;have P:=jpZ ((U.ju (U.ro s.1) s.2.1 k B fee (U.jo s) x).1.set B (nth (nth s.2.1 B) x)) (p:Int) (B+1);obtain⟨_,y⟩:p<=(U.jY (U.ro s.1)).length/\U.yo (U.ro s.1) ((U.ju (U.ro s.1) s.2.1 k B fee (U.jo s) x).1.set B (nth (nth s.2.1 B) x)) B p=true:=Y;refine⟨g,d,⟨by omega,by show(p:Int)<((U.je (U.jb (U.rd (U.ro s.1)))).length:Int);omega⟩,⟨by show(U.wy ((U.ju (U.ro s.1) s.2.1 k B fee (U.jo s) x).1.set B (nth (nth s.2.1 B) x)) (p:Int) (B+1)).length<=12;omega,fun c hc=> ?_⟩,fun a=> ?_,fun a=> ?_⟩
   .have:=jyG hc;exact⟨this.1,by show c<((U.jq (U.rd (U.ro s.1))).length:Int);omega⟩
   .have a:(!U.gE (U.ro s.1) (p:Int) (U.wy ((U.ju (U.ro s.1) s.2.1 k B fee (U.jo s) x).1.set B (nth (nth s.2.1 B) x)) (p:Int) (B+1)))=true:=a;have a:U.gE (U.ro s.1) (p:Int) (U.wy ((U.ju (U.ro s.1) s.2.1 k B fee (U.jo s) x).1.set B (nth (nth s.2.1 B) x)) (p:Int) (B+1))=false:=(by simpa using a);have O:=jpY (n:=(U.jY (U.ro s.1)).length) (by omega) a;have e:U.ju (U.ro s.1) s.2.1 k B fee (U.jo s) (x+1)=((U.ju (U.ro s.1) s.2.1 k B fee (U.jo s) x).1.set B (nth (nth s.2.1 B) x),(U.ju (U.ro s.1) s.2.1 k B fee (U.jo s) x).2):=by
     rw[f];unfold U.jnr;rw[O,if_neg (by simp)]
    exact⟨L.in64 (by omega) (by omega),x+1,⟨⟨by simp,trivial⟩,congrArg (·.2.1) e.symm,⟨rfl,trivial,trivial,trivial,congrArg (·.2.2.1) e.symm,congrArg (·.2.2.2) e.symm,trivial⟩,congrArg (·.1) e.symm,trivial⟩,⟨up,o⟩,W⟩
   .have a:(!U.gE (U.ro s.1) (p:Int) (U.wy ((U.ju (U.ro s.1) s.2.1 k B fee (U.jo s) x).1.set B (nth (nth s.2.1 B) x)) (p:Int) (B+1)))=false:=a;have a:U.gE (U.ro s.1) (p:Int) (U.wy ((U.ju (U.ro s.1) s.2.1 k B fee (U.jo s) x).1.set B (nth (nth s.2.1 B) x)) (p:Int) (B+1))=true:=(by simpa using a);refine⟨L.in64 (by omega) (by omega),p+1,⟨⟨by simp,trivial⟩,trivial⟩,⟨by show p+1<=(U.jY (U.ro s.1)).length;omega,?_⟩,by show(U.jY (U.ro s.1)).length-(p+1)<(U.jY (U.ro s.1)).length-p;omega⟩;show U.yo (U.ro s.1) ((U.ju (U.ro s.1) s.2.1 k B fee (U.jo s) x).1.set B (nth (nth s.2.1 B) x)) B (p+1)=true;rw[jsI,y,a];rfl
  .have w:¬(p:Int)<((U.jY (U.ro s.1)).length:Int):=of_decide_eq_false w;obtain⟨hp1,y⟩:p<=(U.jY (U.ro s.1)).length/\U.yo (U.ro s.1) ((U.ju (U.ro s.1) s.2.1 k B fee (U.jo s) x).1.set B (nth (nth s.2.1 B) x)) B p=true:=Y;have R:p=(U.jY (U.ro s.1)).length:=(by omega);subst R;have v:=jox I.1 (nth (nth s.2.1 B) x) _ (jG5 _);have v:0<=U.wb (U.rd (U.ro s.1)) (nth (nth s.2.1 B) x)/\U.wb (U.rd (U.ro s.1)) (nth (nth s.2.1 B) x)<=1000*((U.je (U.jb (U.rd (U.ro s.1)))).length:Int):=v;have eB:((B:Int)+1).toNat=B+1:=(by omega);have e:U.ju (U.ro s.1) s.2.1 k B fee (U.jo s) (x+1)=U.qD (U.ro s.1) s.2.1 k ((B:Int)+1).toNat (fee+U.wb (U.rd (U.ro s.1)) (nth (nth s.2.1 B) x)) ((U.ju (U.ro s.1) s.2.1 k B fee (U.jo s) x).1.set B (nth (nth s.2.1 B) x),(U.ju (U.ro s.1) s.2.1 k B fee (U.jo s) x).2):=by
    rw[f,eB];unfold U.jnr;rw[if_pos y]
   refine⟨u,g,I.1,Z.1,by show nth (nth s.2.1 B) x<=1000000;have:=Z.2;omega,?_,⟨g,d,Q,⟨M,D⟩,tl,⟨by omega,by show(B:Int)+1<=((U.jq (U.rd (U.ro s.1))).length:Int);omega,by show((U.jq (U.rd (U.ro s.1))).length:Int)<(B:Int)+1+(k:Int);omega⟩,?_,?_⟩,L.in64 (by omega) (by omega),x+1,⟨⟨by simp,trivial⟩,⟨rfl,trivial,trivial,trivial,congrArg (·.2.2.1) e.symm,congrArg (·.2.2.2) e.symm,trivial⟩,rfl,congrArg (·.2.1) e.symm,congrArg (·.1) e.symm,trivial⟩,⟨up,o⟩,W⟩
   .show jy (fee+U.wb (U.rd (U.ro s.1)) (nth (nth s.2.1 B) x));exact L.in64 (by omega) (by omega)
   .show 0<=fee+U.wb (U.rd (U.ro s.1)) (nth (nth s.2.1 B) x);omega
   .show fee+U.wb (U.rd (U.ro s.1)) (nth (nth s.2.1 B) x)<=8000*((B:Int)+1);omega
 .have z:¬(x:Int)<((nth s.2.1 B).length:Int):=of_decide_eq_false z;have hx1:x<=(nth s.2.1 B).length:=hx.1;have m:x=(nth s.2.1 B).length:=(by omega);subst m;show((s.1,s.2.1,(U.ju (U.ro s.1) s.2.1 k B fee (U.jo s) (nth s.2.1 B).length).1,(U.ju (U.ro s.1) s.2.1 k B fee (U.jo s) (nth s.2.1 B).length).2.1,(U.ju (U.ro s.1) s.2.1 k B fee (U.jo s) (nth s.2.1 B).length).2.2.1,(U.ju (U.ro s.1) s.2.1 k B fee (U.jo s) (nth s.2.1 B).length).2.2.2,()),())=(U.vN s (U.qD (U.ro s.1) s.2.1 (k+1) B fee (U.jo s)),());rw[C];rfl
theorem jbu:∀k:Nat,qa PR 42 (vE k)
 |0=>⟨w9 Tryz.func42 (c:=zZ Tryz.f42) (by kernel_rfl) (by kernel_rfl),fun H w vals d bs _ _ _ b=>by
  obtain⟨⟨_,_,_,_,_,⟨e,f,a⟩,_⟩,_⟩:=b
  exact absurd a (by omega)⟩
 |k+1=>jEb (jd3.mpr jky k) Tryz.func42 (by kernel_rfl) (by kernel_rfl) (by kernel_rfl) (by kernel_rfl) (by kernel_rfl) ⟨fun _=>yq,fun _=>jck,trivial⟩ ⟨jfJ,jbu k,trivial⟩
end Go.X
namespace Go.X
open Go.Proofs
namespace U
def jEJ (r:RoD) (b:Int) (t:Nat):Bool:=decide (zx (t:Int) (nth (jak r) b.toNat)=0)&&jat (rd r) b (t:Int)
def qM (r:RoD) (b:Int) (n:Nat):List Int:=((List.range n).filter (jEJ r b)).map (fun(t:Nat)=>(t:Int))
def kY (r:RoD) (n:Nat):List (List Int):=(List.range n).map (fun(b:Nat)=>qM r (b:Int) (2^(je (jb (rd r))).length))
def jGo (d:DyD):StD:=qD (yI d) (kY (yI d) (jq d).length) 5 0 0 (List.replicate (jq d).length 0,kg,0,false)
def jeq (d:DyD):Int:=if jz d=0 then(if(jGo d).2.2.2=true then 0 else 3) else jz d
def jij (d:DyD):List Int:=if jeq d=0 then(jGo d).2.1 else[]
def jii (d:DyD):Int:=if jeq d=0 then(jGo d).2.2.1 else 0
end U
def jx3:j7:=⟨[.val tDy],[.slice .int,.int,.int],false,fun d=>[(U.zc d.1).length<=100000],fun d=>(U.jij d.1,U.jii d.1,U.jeq d.1,())⟩
def jAH:Ann:=fun r=>match r with
 |6=>some fun σ=>{X:=Nat,sl:=fun i=>[(28,.dat .int (i:Int))],ob:=fun i=>[(24,some (.box 87 false (((bx σ 24).set 1 (.own (yw 24 1) (.slice .int))).set 3 (.own (yw 24 3) .int)))),(yw 24 3,some (.row 3 .int false .yes U.kg)),(yw 24 1,some (.row 34 (.slice .int) false .yes (U.kY (U.ro (gd (.ptr tRo) σ 5)) i)))],inv:=fun i=>i<=(U.jq (gb tDy σ 1)).length,mu:=fun i=>(U.jq (gb tDy σ 1)).length-i}
 |10=>some fun σ=>{X:=Nat,sl:=fun t=>[(36,.dat .int (t:Int)),(8,.own 8 .int)],ob:=fun t=>[(8,some (.row 3 .int false .yes (U.qM (U.ro (gd (.ptr tRo) σ 5)) (gd .int σ 7) t)))],inv:=fun t=>t<=2^(U.je (U.jb (gb tDy σ 1))).length,mu:=fun t=>2^(U.je (U.jb (gb tDy σ 1))).length-t}
 |_=>none
abbrev q107_3 (d:DyD×Unit):=(U.ro (U.zA d.1))
abbrev q107_4 (d:DyD×Unit):=(jR ((((0:Int),[],[],()),[],[],(0:Int),(0:Int),[],()),[],[],[],()) (U.zA d.1))
abbrev q107_1 (a:Nat)(d:DyD×Unit)(x:Nat):=(zx (a:Int) (nth (q107_4 d).2.1 (x:Int).toNat)=0)
abbrev q107_5 (d:DyD×Unit):=(U.zA d.1=U.zA d.1/\True/\True/\True/\(0:Int)=0/\false=false/\True)
abbrev q107_6 (d:DyD×Unit):=(d.1.2.2.1.length:Int)
abbrev q107_2 (d:DyD×Unit)(x:Nat):=(U.zA d.1,U.kY (q107_3 d) x,List.replicate (q107_6 d).toNat (0:Int),U.kg,(0:Int),false,())
abbrev q107_0 (d:DyD×Unit)(x:Nat):=(U.vN (q107_2 d x) (U.qD (q107_3 d) (U.kY (q107_3 d) x) 5 (Int.toNat 0) (0:Int) (U.jo (q107_2 d x))))
abbrev q107_7 (d:DyD×Unit):=(U.je (U.jb d.1))
abbrev q107_8 (d:DyD×Unit):=(U.jij d.1,U.jii d.1,U.jeq d.1,())
abbrev q107_9 (d:DyD×Unit):=(d.1.1.2.1.length:Int)
def jxG:Prop:=∀(d:DyD×Unit),(U.zc d.1).length<=100000->(U.zc d.1).length<=100000/\(decide (U.jz d.1≠0)=true->([],(0:Int),U.jz d.1,())=(q107_8 d))/\(decide (U.jz d.1≠0)=false->d.1.2.2.1.length<4611686018427387904->0<=(q107_6 d)/\(q107_6 d)=(q107_6 d)/\(q107_6 d).toNat*8<=140737488355328/\(d.1.2.2.1.length<4611686018427387904->(∃(x:Nat),((0=(x:Int)/\True)/\(q107_5 d)/\U.kg=[]/\U.kY (q107_3 d) x=[]/\True)/\x<=(U.jq d.1).length)/\∀(x:Nat),x<=(U.jq d.1).length->(decide ((x:Int)<(q107_6 d))=true->d.1.1.2.1.length<4611686018427387904->0<=(q107_9 d)/\(q107_9 d)<=64/\jy ((1:Int)*2^(q107_9 d).toNat)/\(∃(a:Nat),((0=(a:Int)/\True/\True)/\U.qM (q107_3 d) (x:Int) a=[]/\True)/\a<=2^(q107_7 d).length)/\∀(a:Nat),a<=2^(q107_7 d).length->(decide ((a:Int)<1*2^(q107_9 d).toNat)=true->(U.zA d.1).isSome=true/\0<=(x:Int)/\(x:Int)<(↑(q107_4 d).2.1.length:Int)/\(decide (q107_1 a d x)=true->(U.zA d.1).isSome=true)/\(decide (q107_1 a d x)=true->U.kz (U.rd (q107_3 d)) (x:Int))/\((decide (q107_1 a d x)&&U.jat (U.rd (q107_3 d)) (x:Int) (a:Int))=true->((U.qM (q107_3 d) (x:Int) a).length+[(a:Int)].length)*8<=140737488355328/\jy ((a:Int)+1)/\∃(b:Nat),(((a:Int)+1=(b:Int)/\True/\True)/\U.qM (q107_3 d) (x:Int) a++[(a:Int)]=U.qM (q107_3 d) (x:Int) b/\True)/\b<=2^(q107_7 d).length/\2^(q107_7 d).length-b<2^(q107_7 d).length-a)/\((decide (q107_1 a d x)&&U.jat (U.rd (q107_3 d)) (x:Int) (a:Int))=false->jy ((a:Int)+1)/\∃(b:Nat),((True/\(a:Int)+1=(b:Int)/\True)/\U.qM (q107_3 d) (x:Int) a=U.qM (q107_3 d) (x:Int) b/\True)/\b<=2^(q107_7 d).length/\2^(q107_7 d).length-b<2^(q107_7 d).length-a))/\(decide ((a:Int)<1*2^(q107_9 d).toNat)=false->((U.kY (q107_3 d) x).length+[U.qM (q107_3 d) (x:Int) a].length)*24<=140737488355328/\jy ((x:Int)+1)/\∃(b:Nat),(((x:Int)+1=(b:Int)/\True)/\U.kg=U.kg/\(q107_5 d)/\U.kY (q107_3 d) x++[U.qM (q107_3 d) (x:Int) a]=U.kY (q107_3 d) b/\True)/\b<=(U.jq d.1).length/\(U.jq d.1).length-b<(U.jq d.1).length-x))/\(decide ((x:Int)<(q107_6 d))=false->U.jwh 5 (q107_2 d x) (0:Int) (0:Int)/\((!(q107_0 d x).2.2.2.2.2.1)=true->([],(0:Int),(3:Int),())=(q107_8 d))/\((!(q107_0 d x).2.2.2.2.2.1)=false->((q107_0 d x).2.2.2.1,(q107_0 d x).2.2.2.2.1,(0:Int),())=(q107_8 d)))))
end Go.X
namespace Go.X
open Go.Proofs
theorem jw7 (r:RoD) (b:Int) (n:Nat):U.qM r b (n+1)=U.qM r b n++(if U.jEJ r b n=true then[(n:Int)] else[]):=by
 unfold U.qM;rw[L.range_filter_succ,jHR];by_cases h:U.jEJ r b n=true
 .rw[if_pos h,if_pos h];rfl
 .rw[if_neg h,if_neg h];rfl
theorem jAv (r:RoD) (b:Int) (n:Nat):(U.qM r b n).length<=n:=by
 unfold U.qM;rw[jH6];exact jHi (jH4 _ _) (by simp)
theorem jrd {r:RoD} {b:Int} {n:Nat} {t:Int} (h:t∈U.qM r b n):0<=t/\t<(n:Int):=by
 unfold U.qM at h;obtain⟨i,hi,rfl⟩:=jHy.1 h;have:=jHj.1 (jHh.1 hi).1;omega
theorem jAu (r:RoD) (n:Nat):U.kY r (n+1)=U.kY r n++[U.qM r (n:Int) (2^(U.je (U.jb (U.rd r))).length)]:=by
 unfold U.kY;rw[jHq,jHR];rfl
theorem jvb (r:RoD) (n:Nat):(U.kY r n).length=n:=by unfold U.kY;simp
theorem jCX {n:Nat} (h:n<=8):(2:Nat)^n<=256:=jHi (jIc (by decide) h) (by decide)
theorem jGp {d:DyD} (hk:U.jz d=0):U.jwh 5 (some (U.yI d),U.kY (U.yI d) (U.jq d).length,List.replicate (U.jq d).length 0,U.kg,0,false,()) 0 0:=by
 have c:=gV hk;have i:(U.jq d).length<=4:=(za c.may.1.2.2).1;have h:(U.je (U.jb d)).length<=8:=(jv c.may.1.1).2.2.1;refine⟨rfl,c.may,c.len,⟨jvb _ _,fun l a t e=> ?_⟩,jH3,⟨jH9 0,by show(0:Int)<=((U.jq d).length:Int);omega,by show((U.jq d).length:Int)<0+((5:Nat):Int);omega⟩,jH9 0,by omega⟩;have a:l∈U.kY (U.yI d) (U.jq d).length:=a;unfold U.kY at a;obtain⟨b,_,rfl⟩:=jHy.1 a;have:=jrd e;have f:=jCX h;have g:(2:Nat)^(U.je (U.jb (U.rd (U.yI d)))).length<=256:=f;have:t<((2^(U.je (U.jb (U.rd (U.yI d)))).length:Nat):Int):=this.2;refine⟨(jrd e).1,by omega⟩
theorem jB3:jxG:=by
 unfold jxG q107_9 q107_8 q107_7 q107_0 q107_2 q107_6 q107_5 q107_1 q107_4 q107_3;rintro⟨d,⟨⟩⟩ A;refine⟨A,fun h=> ?_,fun h=> ?_⟩
 .have h:U.jz d≠0:=of_decide_eq_true h;have e:U.jeq d=U.jz d:=(by unfold U.jeq;rw[if_neg h]);show([],(0:Int),U.jz d,())=(U.jij d,U.jii d,U.jeq d,());unfold U.jij U.jii;rw[e,if_neg h,if_neg h]
 have hk:U.jz d=0:=Classical.not_not.1 (of_decide_eq_false h);have m:=gV hk;have z:(U.jq d).length<=4:=(za m.may.1.2.2).1;have y:(U.je (U.jb d)).length<=8:=(jv m.may.1.1).2.2.1;have s:=jCX y;have l:=juA hk;have i:U.ro (U.zA d)=U.yI d:=(by rw[l];rfl);have r:U.rd (U.ro (U.zA d))=d:=(by rw[i];rfl);have q:(U.zA d).isSome=true:=(by rw[l];rfl);have B:(U.jak (U.ro (U.zA d))).length=(U.jq d).length:=(by rw[i];exact m.may.2);refine fun _=>⟨jHu _,rfl,?_,fun _=>⟨⟨0,⟨⟨rfl,trivial⟩,⟨rfl,trivial,trivial,trivial,rfl,rfl,trivial⟩,rfl,rfl,trivial⟩,jHd _⟩,fun x u=>⟨fun b _=>⟨jHu _,?_,?_,⟨0,⟨⟨rfl,trivial,trivial⟩,rfl,trivial⟩,jHd _⟩,fun t j=>⟨fun a=> ?_,fun a=> ?_⟩⟩,fun b=> ?_⟩⟩⟩
 .show((U.jq d).length:Int).toNat*8<=140737488355328;omega
 .show((U.je (U.jb d)).length:Int)<=64;omega
 .show jy (1*2^((U.je (U.jb d)).length:Int).toNat);rw[gw,jG7];have a:BT.Set' ((2:Int)^(U.je (U.jb d)).length):=BT.two_set (by omega);unfold BT.Set' at a;exact L.in64 (by omega) (by omega)
 .have b:(x:Int)<((U.jq d).length:Int):=of_decide_eq_true b;have j:t<=2^(U.je (U.jb d)).length:=j;have a:(t:Int)<1*2^((U.je (U.jb d)).length:Int).toNat:=of_decide_eq_true a;rw[gw,jG7,BT.two_nat] at a;have a:t<2^(U.je (U.jb d)).length:=(by omega);have f:=jw7 (U.ro (U.zA d)) (x:Int) t;have g:=jAv (U.ro (U.zA d)) (x:Int) t;have w:U.kz (U.rd (U.ro (U.zA d))) (x:Int):=(by rw[r];exact⟨by omega,b⟩);have v:t+1<=2^(U.je (U.jb d)).length:=(by omega);have p:2^(U.je (U.jb d)).length-(t+1)<2^(U.je (U.jb d)).length-t:=(by omega);refine⟨q,by omega,by show(x:Int)<((U.jak (U.ro (U.zA d))).length:Int);omega,fun _=>q,fun _=>w,fun c=> ?_,fun c=> ?_⟩
  .have c:U.jEJ (U.ro (U.zA d)) (x:Int) t=true:=c;refine⟨?_,L.in64 (by omega) (by omega),t+1,⟨⟨by simp,trivial,trivial⟩,?_,trivial⟩,v,p⟩
   .show((U.qM (U.ro (U.zA d)) (x:Int) t).length+1)*8<=140737488355328;omega
   .rw[if_pos c] at f;exact f.symm
  .have c:U.jEJ (U.ro (U.zA d)) (x:Int) t=false:=c;refine⟨L.in64 (by omega) (by omega),t+1,⟨⟨trivial,by simp,trivial⟩,?_,trivial⟩,v,p⟩;rw[if_neg (by rw[c];simp),jHw] at f;exact f.symm
 .have b:(x:Int)<((U.jq d).length:Int):=of_decide_eq_true b;have j:t<=2^(U.je (U.jb d)).length:=j;have a:¬(t:Int)<1*2^((U.je (U.jb d)).length:Int).toNat:=of_decide_eq_false a;rw[gw,jG7,BT.two_nat] at a;have n:t=2^(U.je (U.jb d)).length:=(by omega);have f:=jAu (U.ro (U.zA d)) x;rw[r,<-n] at f;have g:=jvb (U.ro (U.zA d)) x;refine⟨?_,L.in64 (by omega) (by omega),x+1,⟨⟨by simp,trivial⟩,rfl,⟨rfl,trivial,trivial,trivial,rfl,rfl,trivial⟩,f.symm,trivial⟩,by show x+1<=(U.jq d).length;omega,by show(U.jq d).length-(x+1)<(U.jq d).length-x;omega⟩;show((U.kY (U.ro (U.zA d)) x).length+1)*24<=140737488355328;omega
 .have b:¬(x:Int)<((U.jq d).length:Int):=of_decide_eq_false b;have u:x<=(U.jq d).length:=u;have o:x=(U.jq d).length:=(by omega);subst o;have k:U.qD (U.ro (U.zA d)) (U.kY (U.ro (U.zA d)) (U.jq d).length) 5 (Int.toNat 0) 0 (U.jo (U.zA d,U.kY (U.ro (U.zA d)) (U.jq d).length,List.replicate ((U.jq d).length:Int).toNat 0,U.kg,0,false,()))=U.jGo d:=by
   rw[i,jG7];rfl
  refine⟨?_,fun a=> ?_,fun a=> ?_⟩
  .show U.jwh 5 (U.zA d,U.kY (U.ro (U.zA d)) (U.jq d).length,List.replicate ((U.jq d).length:Int).toNat 0,U.kg,0,false,()) 0 0;rw[i,l,jG7];exact jGp hk
  .have a:(!(U.qD (U.ro (U.zA d)) (U.kY (U.ro (U.zA d)) (U.jq d).length) 5 (Int.toNat 0) 0 (U.jo (U.zA d,U.kY (U.ro (U.zA d)) (U.jq d).length,List.replicate ((U.jq d).length:Int).toNat 0,U.kg,0,false,()))).2.2.2)=true:=a;rw[k] at a;have a:(U.jGo d).2.2.2=false:=(by simpa using a);have e:U.jeq d=3:=(by unfold U.jeq;rw[if_pos hk,a,if_neg (by simp)]);show([],(0:Int),(3:Int),())=(U.jij d,U.jii d,U.jeq d,());unfold U.jij U.jii;rw[e];rfl
  .have a:(!(U.qD (U.ro (U.zA d)) (U.kY (U.ro (U.zA d)) (U.jq d).length) 5 (Int.toNat 0) 0 (U.jo (U.zA d,U.kY (U.ro (U.zA d)) (U.jq d).length,List.replicate ((U.jq d).length:Int).toNat 0,U.kg,0,false,()))).2.2.2)=false:=a;rw[k] at a;have a:(U.jGo d).2.2.2=true:=(by simpa using a);have e:U.jeq d=0:=(by unfold U.jeq;rw[if_pos hk,a,if_pos rfl]);show((U.qD (U.ro (U.zA d)) (U.kY (U.ro (U.zA d)) (U.jq d).length) 5 (Int.toNat 0) 0 (U.jo (U.zA d,U.kY (U.ro (U.zA d)) (U.jq d).length,List.replicate ((U.jq d).length:Int).toNat 0,U.kg,0,false,()))).2.1,(U.qD (U.ro (U.zA d)) (U.kY (U.ro (U.zA d)) (U.jq d).length) 5 (Int.toNat 0) 0 (U.jo (U.zA d,U.kY (U.ro (U.zA d)) (U.jq d).length,List.replicate ((U.jq d).length:Int).toNat 0,U.kg,0,false,()))).2.2.1,(0:Int),())=(U.jij d,U.jii d,U.jeq d,());rw[k];unfold U.jij U.jii;rw[e];rfl
theorem jyT:zu PR 15 jx3:=wi jAH jB3 Tryz.func15 (kcC vH kcN) (koC yY (koC (jbu 5) koN))
end Go.X
namespace Go.X
open Go.Proofs
namespace U
def kW (s:Int):Nat->Int
 |0=>s
 |j+1=>kW s j/2^1
def J3 (c:CrD) (t d:Int) (a b:Nat):Bool:=jby c t d (a:Int) (b:Int)
def jcG (c:CrD) (t b a:Int):List Int:=zy (J3 c t b) (la c).toNat a.toNat (la c).toNat
def juy (c:Bool) (s b:Int):Int:=if c=true then bor s b else s
def jtR (c:CrD) (j:JbD) (t:Int) (x:Int×Bool) (i:Nat):Int×Bool:=
 if jH t (i:Int)=true then(juy (!jH (cl (nth (je c) i)) (jrw j)) (juy (!jH (fd (nth (je c) i)) (js7 j)) (juy (yf (nth (je c) i) (jAZ j)) x.1 1) 2) 4,x.2||jEC (nth (je c) i)) else x
def zm (c:CrD) (j:JbD) (t:Int) (n:Nat):Int×Bool:=(List.range n).foldl (jtR c j t) (0,false)
def jGy (c:CrD) (j:JbD) (t:Int):Int:=(zm c j t (je c).length).1
def jGz (c:CrD) (j:JbD) (t:Int):Bool:=(zm c j t (je c).length).2
def jxc (c:CrD) (j:JbD) (t:Int):Int:=
 juy (decide (nth (jcG c t (jxu (yP c j)) (jrx j)) (jmC j).toNat<0)) (juy (jGe (yP c j)&& !jGz c j t) (juy (decide (BT.size t≠max (jBS j) (jEe (yP c j)))) (jGy c j t) 8) 16) 32
def qL (c:CrD) (j:JbD) (t:Int):Bool:=decide (0<t)&&decide (jxc c j t=0)
def wm (c:CrD) (t:Int) (n:Nat):Int:=(List.range n).foldl (fun s (i:Nat)=>if jH t (i:Int)=true then s+fe (nth (je c) i) else s) 0
def wD (c:CrD) (t:Int):Int:=wm c t (je c).length
def jxt (t:Int):Prop:=0<=t/\t<256
end U
def jpy:j7:=⟨[.val .int,.val .int,.val .int],[.bool],false,fun _=>[],fun d=>(U.ja d.1 d.2.1 d.2.2.1,())⟩
def jpa:Prop:=∀(d:Int×Int×Int×Unit),(decide (d.2.1<=d.1)&&decide (d.1<=d.2.2.1),())=(U.ja d.1 d.2.1 d.2.2.1,())
def jx7:j7:=⟨[.val .int,.val .int],[.bool],false,fun d=>[0<=d.2.1/\d.2.1<=63],fun d=>(U.jH d.1 d.2.1,())⟩
def jxK:Prop:=∀(d:Int×Int×Unit),0<=d.2.1/\d.2.1<=63->0<=d.2.1/\d.2.1<=18446744073709551615/\0<=d.2.1/\d.2.1<=64/\(decide (qH (d.1/(2:Int)^d.2.1.toNat) (1:Int)=1),())=(U.jH d.1 d.2.1,())
def jpA:j7:=⟨[.val tCr],[.bool],false,fun _=>[],fun d=>(U.jl d.1,())⟩
def jrk:Ann:=fun r=>match r with
 |4=>some fun σ=>{X:=Nat,sl:=fun i=>[(3,.dat .int (i:Int))],ob:=fun _=>[],inv:=fun i=>i<=(U.je (gb tCr σ 1)).length/\∀j:Nat,j<i->U.gy (U.la (gb tCr σ 1)) (nth (U.je (gb tCr σ 1)) j)=true,mu:=fun i=>(U.je (gb tCr σ 1)).length-i}
 |10=>some fun σ=>{X:=Nat,sl:=fun i=>[(5,.dat .int (i:Int))],ob:=fun _=>[],inv:=fun i=>i<=(U.lv (gb tPe σ 4)).length/\∀j:Nat,j<i->U.ja (nth (U.lv (gb tPe σ 4)) j) 0 5=true,mu:=fun i=>(U.lv (gb tPe σ 4)).length-i}
 |15=>some fun σ=>{X:=Nat,sl:=fun i=>[(6,.dat .int (i:Int))],ob:=fun _=>[],inv:=fun i=>i<=(U.zR (gb tPe σ 4)).length/\∀j:Nat,j<i->U.ja (nth (U.zR (gb tPe σ 4)) j) 0 99=true,mu:=fun i=>(U.zR (gb tPe σ 4)).length-i}
 |20=>some fun σ=>{X:=Nat,sl:=fun i=>[(7,.dat .int (i:Int))],ob:=fun _=>[],inv:=fun i=>i<=(U.wk (gb tCr σ 1)).length/\∀j:Nat,j<i->U.jah (nth (U.wk (gb tCr σ 1)) j)=true,mu:=fun i=>(U.wk (gb tCr σ 1)).length-i}
 |_=>none
abbrev q110_0 (d:CrD×Unit)(x:Nat):=(nth d.1.2.1 (x:Int).toNat)
abbrev q110_2 (d:CrD×Unit)(x:Nat):=(!U.ja (nth d.1.2.2.1 (x:Int).toNat).1 (1:Int) (5:Int)|| !U.ja (nth d.1.2.2.1 (x:Int).toNat).2.1 (1:Int) (8:Int))
abbrev q110_4 (d:CrD×Unit)(x:Nat):=(↑(q110_0 d x).1.length:Int)
abbrev q110_5 (d:CrD×Unit)(x:Nat):=(↑(q110_0 d x).2.2.2.1.length:Int)
abbrev q110_1 (d:CrD×Unit)(x:Nat):=(decide ((q110_4 d x)≠d.1.1)|| !U.ja (q110_0 d x).2.1 (0:Int) (255:Int)|| !U.ja (q110_0 d x).2.2.1 (0:Int) (255:Int)||decide ((10:Int)<(q110_5 d x))|| !U.ja (q110_0 d x).2.2.2.2.2.1 (0:Int) (1000:Int))
abbrev q110_6 (d:CrD×Unit):=(d.1.2.2.1.length:Int)
abbrev q110_3 (d:CrD×Unit):=(!U.ja d.1.1 (2:Int) (5:Int)||decide (8<(d.1.2.1.length:Int))||decide ((q110_6 d)≠4))
abbrev q110_7 (d:CrD×Unit)(x:Nat):=(U.zR (q110_0 d x))
def jpc:Prop:=∀(d:CrD×Unit),((!!U.ja d.1.1 (2:Int) (5:Int))=true->d.1.2.1.length<4611686018427387904)->((!(!U.ja d.1.1 (2:Int) (5:Int)||decide (8<(d.1.2.1.length:Int))))=true->d.1.2.2.1.length<4611686018427387904)->((q110_3 d)=true->(false,())=(U.jl d.1,()))/\((q110_3 d)=false->(∃(x:Nat),((0=(x:Int)/\True)/\True)/\x<=(U.je d.1).length/\∀(j:Nat),j<x->U.gy (U.la d.1) (nth (U.je d.1) j)=true)/\∀(x:Nat),(x<=(U.je d.1).length/\∀(j:Nat),j<x->U.gy (U.la d.1) (nth (U.je d.1) j)=true)->d.1.2.1.length<4611686018427387904->(decide ((x:Int)<(d.1.2.1.length:Int))=true->0<=(x:Int)/\(x:Int)<(d.1.2.1.length:Int)/\((q110_0 d x).1.length<4611686018427387904->((!(decide ((q110_4 d x)≠d.1.1)|| !U.ja (q110_0 d x).2.1 (0:Int) (255:Int)|| !U.ja (q110_0 d x).2.2.1 (0:Int) (255:Int)))=true->(q110_0 d x).2.2.2.1.length<4611686018427387904)->((q110_1 d x)=true->(false,())=(U.jl d.1,()))/\((q110_1 d x)=false->(∃(b:Nat),((0=(b:Int)/\True)/\True)/\b<=(U.lv (q110_0 d x)).length/\∀(j:Nat),j<b->U.ja (nth (U.lv (q110_0 d x)) j) (0:Int) 5=true)/\∀(b:Nat),(b<=(U.lv (q110_0 d x)).length/\∀(j:Nat),j<b->U.ja (nth (U.lv (q110_0 d x)) j) (0:Int) 5=true)->(q110_0 d x).1.length<4611686018427387904->(decide ((b:Int)<(q110_4 d x))=true->0<=(b:Int)/\(b:Int)<(q110_4 d x)/\((!U.ja (nth (q110_0 d x).1 (b:Int).toNat) (0:Int) (5:Int))=true->(false,())=(U.jl d.1,()))/\((!U.ja (nth (q110_0 d x).1 (b:Int).toNat) (0:Int) (5:Int))=false->jy ((b:Int)+1)/\∃(c:Nat),(((b:Int)+1=(c:Int)/\True)/\True)/\(c<=(U.lv (q110_0 d x)).length/\∀(j:Nat),j<c->U.ja (nth (U.lv (q110_0 d x)) j) (0:Int) 5=true)/\(U.lv (q110_0 d x)).length-c<(U.lv (q110_0 d x)).length-b))/\(decide ((b:Int)<(q110_4 d x))=false->(∃(a:Nat),((0=(a:Int)/\True)/\True)/\a<=(q110_7 d x).length/\∀(j:Nat),j<a->U.ja (nth (q110_7 d x) j) (0:Int) 99=true)/\∀(a:Nat),(a<=(q110_7 d x).length/\∀(j:Nat),j<a->U.ja (nth (q110_7 d x) j) (0:Int) 99=true)->(q110_0 d x).2.2.2.1.length<4611686018427387904->(decide ((a:Int)<(q110_5 d x))=true->0<=(a:Int)/\(a:Int)<(q110_5 d x)/\((!U.ja (nth (q110_0 d x).2.2.2.1 (a:Int).toNat) (0:Int) (99:Int))=true->(false,())=(U.jl d.1,()))/\((!U.ja (nth (q110_0 d x).2.2.2.1 (a:Int).toNat) (0:Int) (99:Int))=false->jy ((a:Int)+1)/\∃(c:Nat),(((a:Int)+1=(c:Int)/\True)/\True)/\(c<=(q110_7 d x).length/\∀(j:Nat),j<c->U.ja (nth (q110_7 d x) j) (0:Int) 99=true)/\(q110_7 d x).length-c<(q110_7 d x).length-a))/\(decide ((a:Int)<(q110_5 d x))=false->jy ((x:Int)+1)/\∃(c:Nat),(((x:Int)+1=(c:Int)/\True)/\True)/\(c<=(U.je d.1).length/\∀(j:Nat),j<c->U.gy (U.la d.1) (nth (U.je d.1) j)=true)/\(U.je d.1).length-c<(U.je d.1).length-x)))))/\(decide ((x:Int)<(d.1.2.1.length:Int))=false->(∃(x:Nat),((0=(x:Int)/\True)/\True)/\x<=(U.wk d.1).length/\∀(j:Nat),j<x->U.jah (nth (U.wk d.1) j)=true)/\∀(x:Nat),(x<=(U.wk d.1).length/\∀(j:Nat),j<x->U.jah (nth (U.wk d.1) j)=true)->d.1.2.2.1.length<4611686018427387904->(decide ((x:Int)<(q110_6 d))=true->0<=(x:Int)/\(x:Int)<(q110_6 d)/\((!!U.ja (nth d.1.2.2.1 (x:Int).toNat).1 (1:Int) (5:Int))=true->0<=(x:Int))/\((!!U.ja (nth d.1.2.2.1 (x:Int).toNat).1 (1:Int) (5:Int))=true->(x:Int)<(q110_6 d))/\((q110_2 d x)=true->(false,())=(U.jl d.1,()))/\((q110_2 d x)=false->jy ((x:Int)+1)/\∃(c:Nat),(((x:Int)+1=(c:Int)/\True)/\True)/\(c<=(U.wk d.1).length/\∀(j:Nat),j<c->U.jah (nth (U.wk d.1) j)=true)/\(U.wk d.1).length-c<(U.wk d.1).length-x))/\(decide ((x:Int)<(q110_6 d))=false->(true,())=(U.jl d.1,()))))
def jsi:j7:=⟨[.val tCr,.val tJb],[.bool],false,fun d=>[U.jl d.1=true],fun d=>(U.jW d.1 d.2.1,())⟩
def jrQ:Prop:=∀(d:CrD×JbD×Unit),U.jl d.1=true->jy (d.1.1-1)/\(U.ja d.2.1.1 (0:Int) (d.1.1-1)=true->jy (d.1.1-1))/\(U.ja d.2.1.1 (0:Int) (d.1.1-1)&&U.ja d.2.1.2.1 (0:Int) (d.1.1-1)&&decide (d.2.1.1≠d.2.1.2.1)&&U.ja d.2.1.2.2.1 (0:Int) (99:Int)&&U.ja d.2.1.2.2.2.1 (0:Int) (7:Int)&&U.ja d.2.1.2.2.2.2.1 (0:Int) (3:Int)&&U.ja d.2.1.2.2.2.2.2.1 (1:Int) (8:Int),())=(U.jW d.1 d.2.1,())
def jvT:j7:=⟨[.val tPe,.val .int],[.bool],false,fun _=>[],fun d=>(U.yf d.1 d.2.1,())⟩
def jxj:Ann:=fun r=>match r with
 |2=>some fun σ=>{X:=Nat,sl:=fun i=>[(5,.dat .int (i:Int))],ob:=fun _=>[],inv:=fun i=>i<=(U.zR (gb tPe σ 2)).length/\∀j:Nat,j<i->nth (U.zR (gb tPe σ 2)) j≠gd .int σ 1,mu:=fun i=>(U.zR (gb tPe σ 2)).length-i}
 |_=>none
def jvA:Prop:=∀(d:PeD×Int×Unit),(∃(x:Nat),((0=(x:Int)/\True)/\True)/\x<=(U.zR d.1).length/\∀(j:Nat),j<x->nth (U.zR d.1) j≠d.2.1)/\∀(x:Nat),(x<=(U.zR d.1).length/\∀(j:Nat),j<x->nth (U.zR d.1) j≠d.2.1)->d.1.2.2.2.1.length<4611686018427387904->(decide ((x:Int)<(d.1.2.2.2.1.length:Int))=true->0<=(x:Int)/\(x:Int)<(d.1.2.2.2.1.length:Int)/\(decide (nth d.1.2.2.2.1 (x:Int).toNat=d.2.1)=true->(true,())=(U.yf d.1 d.2.1,()))/\(decide (nth d.1.2.2.2.1 (x:Int).toNat=d.2.1)=false->jy ((x:Int)+1)/\∃(a:Nat),(((x:Int)+1=(a:Int)/\True)/\True)/\(a<=(U.zR d.1).length/\∀(j:Nat),j<a->nth (U.zR d.1) j≠d.2.1)/\(U.zR d.1).length-a<(U.zR d.1).length-x))/\(decide ((x:Int)<(d.1.2.2.2.1.length:Int))=false->(false,())=(U.yf d.1 d.2.1,()))
def jnu:j7:=⟨[.val tCr,.val tJb,.val .int],[.bool],false,fun d=>[0<=d.2.2.1/\d.2.2.1<((U.je d.1).length:Int),U.jW d.1 d.2.1=true],fun d=>(U.zw d.1 d.2.1 d.2.2.1,())⟩
abbrev q113_0 (d:CrD×JbD×Int×Unit):=(nth d.1.2.1 d.2.2.1.toNat)
def jne:Prop:=∀(d:CrD×JbD×Int×Unit),0<=d.2.2.1/\d.2.2.1<(↑(U.je d.1).length:Int)->U.jW d.1 d.2.1=true->0<=d.2.2.1/\d.2.2.1<(d.1.2.1.length:Int)/\((!U.yf (q113_0 d) d.2.1.2.2.1)=true->0<=d.2.1.2.2.2.1/\d.2.1.2.2.2.1<=63)/\((!U.yf (q113_0 d) d.2.1.2.2.1&&U.jH (q113_0 d).2.1 d.2.1.2.2.2.1)=true->0<=d.2.1.2.2.2.2.1/\d.2.1.2.2.2.2.1<=63)/\(!U.yf (q113_0 d) d.2.1.2.2.1&&U.jH (q113_0 d).2.1 d.2.1.2.2.2.1&&U.jH (q113_0 d).2.2.1 d.2.1.2.2.2.2.1,())=(U.zw d.1 d.2.1 d.2.2.1,())
def jvU:j7:=⟨[.val .int],[.int],false,fun d=>[BT.Set' d.1],fun d=>(BT.size d.1,())⟩
def jxk:Ann:=fun r=>match r with
 |2=>some fun σ=>{X:=Nat,sl:=fun j=>[(0,.dat .int (U.kW (gd .int σ 0) j)),(3,.dat .int (BT.size (gd .int σ 0)-BT.size (U.kW (gd .int σ 0) j)))],ob:=fun _=>[],inv:=fun j=>BT.Set' (U.kW (gd .int σ 0) j),mu:=fun j=>(U.kW (gd .int σ 0) j).toNat}
 |_=>none
def jvB:Prop:=∀(d:Int×Unit),BT.Set' d.1->(∃(x:Nat),((d.1=U.kW d.1 x/\0=BT.size d.1-BT.size (U.kW d.1 x)/\True)/\True)/\BT.Set' (U.kW d.1 x))/\∀(x:Nat),BT.Set' (U.kW d.1 x)->(decide (0<U.kW d.1 x)=true->jy (BT.size d.1-BT.size (U.kW d.1 x)+qH (U.kW d.1 x) (1:Int))/\(0:Int)<=1/\(1:Int)<=64/\∃(a:Nat),((U.kW d.1 x/(2:Int)^Int.toNat 1=U.kW d.1 a/\BT.size d.1-BT.size (U.kW d.1 x)+qH (U.kW d.1 x) 1=BT.size d.1-BT.size (U.kW d.1 a)/\True)/\True)/\BT.Set' (U.kW d.1 a)/\(U.kW d.1 a).toNat<(U.kW d.1 x).toNat)/\(decide (0<U.kW d.1 x)=false->(BT.size d.1-BT.size (U.kW d.1 x),())=(BT.size d.1,()))
def jsh:j7:=⟨[.val tCr,.val .int,.val .int,.val .int,.val .int],[.bool],false,fun d=>[U.jl d.1=true,0<=d.2.2.2.1/\d.2.2.2.1<U.la d.1,0<=d.2.2.2.2.1/\d.2.2.2.2.1<U.la d.1],fun d=>(U.jby d.1 d.2.1 d.2.2.1 d.2.2.2.1 d.2.2.2.2.1,())⟩
def jt3:Ann:=fun r=>match r with
 |2=>some fun σ=>{X:=Nat,sl:=fun i=>[(11,.dat .int (i:Int))],ob:=fun _=>[],inv:=fun i=>i<=(U.je (gb tCr σ 5)).length/\∀j:Nat,j<i->(U.jH (gd .int σ 1) (j:Int)&&decide (gd .int σ 2<=nth (U.lv (nth (U.je (gb tCr σ 5)) j)) (gd .int σ 3).toNat)&&decide (gd .int σ 2<=nth (U.lv (nth (U.je (gb tCr σ 5)) j)) (gd .int σ 4).toNat))=false,mu:=fun i=>(U.je (gb tCr σ 5)).length-i}
 |_=>none
abbrev q115_0 (d:CrD×Int×Int×Int×Int×Unit)(j:Nat):=(U.jH d.2.1 (j:Int)&&decide (d.2.2.1<=nth (U.lv (nth (U.je d.1) j)) d.2.2.2.1.toNat)&&decide (d.2.2.1<=nth (U.lv (nth (U.je d.1) j)) d.2.2.2.2.1.toNat))
abbrev q115_1 (d:CrD×Int×Int×Int×Int×Unit)(x:Nat):=(d.2.2.1<=nth (nth d.1.2.1 (x:Int).toNat).1 d.2.2.2.1.toNat)
abbrev q115_2 (d:CrD×Int×Int×Int×Int×Unit)(x:Nat):=(U.jH d.2.1 (x:Int)&&decide (q115_1 d x)&&decide (d.2.2.1<=nth (nth d.1.2.1 (x:Int).toNat).1 d.2.2.2.2.1.toNat))
abbrev q115_3 (d:CrD×Int×Int×Int×Int×Unit)(x:Nat):=(U.jH d.2.1 (x:Int)&&decide (q115_1 d x))
def jrP:Prop:=∀(d:CrD×Int×Int×Int×Int×Unit),U.jl d.1=true->0<=d.2.2.2.1/\d.2.2.2.1<U.la d.1->0<=d.2.2.2.2.1/\d.2.2.2.2.1<U.la d.1->(∃(x:Nat),((0=(x:Int)/\True)/\True)/\x<=(U.je d.1).length/\∀(j:Nat),j<x->(q115_0 d j)=false)/\∀(x:Nat),(x<=(U.je d.1).length/\∀(j:Nat),j<x->(q115_0 d j)=false)->d.1.2.1.length<4611686018427387904->(decide ((x:Int)<(d.1.2.1.length:Int))=true->(0<=(x:Int)/\(x:Int)<=63)/\(U.jH d.2.1 (x:Int)=true->0<=(x:Int))/\(U.jH d.2.1 (x:Int)=true->(x:Int)<(d.1.2.1.length:Int))/\(U.jH d.2.1 (x:Int)=true->0<=d.2.2.2.1)/\(U.jH d.2.1 (x:Int)=true->d.2.2.2.1<(↑(nth d.1.2.1 (x:Int).toNat).1.length:Int))/\((q115_3 d x)=true->0<=(x:Int))/\((q115_3 d x)=true->(x:Int)<(d.1.2.1.length:Int))/\((q115_3 d x)=true->0<=d.2.2.2.2.1)/\((q115_3 d x)=true->d.2.2.2.2.1<(↑(nth d.1.2.1 (x:Int).toNat).1.length:Int))/\((q115_2 d x)=true->(true,())=(U.jby d.1 d.2.1 d.2.2.1 d.2.2.2.1 d.2.2.2.2.1,()))/\((q115_2 d x)=false->jy ((x:Int)+1)/\∃(a:Nat),(((x:Int)+1=(a:Int)/\True)/\True)/\(a<=(U.je d.1).length/\∀(j:Nat),j<a->(q115_0 d j)=false)/\(U.je d.1).length-a<(U.je d.1).length-x))/\(decide ((x:Int)<(d.1.2.1.length:Int))=false->(false,())=(U.jby d.1 d.2.1 d.2.2.1 d.2.2.2.1 d.2.2.2.2.1,()))
def jx6:j7:=⟨[.val tCr,.val .int,.val .int,.val .int],[.slice .int],false,fun d=>[U.jl d.1=true,0<=d.2.2.2.1/\d.2.2.2.1<U.la d.1],fun d=>(U.jcG d.1 d.2.1 d.2.2.1 d.2.2.2.1,())⟩
def jAJ:Ann:=fun r=>match r with
 |3=>some fun σ=>{X:=Nat,sl:=fun i=>[(10,.dat .int (i:Int)),(9,.own 9 .int)],ob:=fun i=>[(9,some (.row 3 .int false .yes (List.replicate i (-1))))],inv:=fun i=>i<=(U.la (gb tCr σ 4)).toNat,mu:=fun i=>(U.la (gb tCr σ 4)).toNat-i}
 |8=>some fun σ=>{X:=Nat,sl:=fun i=>[(11,.dat .int (i:Int)),(9,.own 9 .int)],ob:=fun i=>[(9,some (.row 3 .int false .yes (U.zy (U.J3 (gb tCr σ 4) (gd .int σ 1) (gd .int σ 2)) (U.la (gb tCr σ 4)).toNat (gd .int σ 3).toNat i)))],inv:=fun i=>i<=(U.la (gb tCr σ 4)).toNat,mu:=fun i=>(U.la (gb tCr σ 4)).toNat-i}
 |11=>some fun σ=>{X:=Nat,sl:=fun i=>[(12,.dat .int (i:Int)),(9,.own 9 .int)],ob:=fun i=>[(9,some (.row 3 .int false .yes (U.kF (U.J3 (gb tCr σ 4) (gd .int σ 1) (gd .int σ 2)) (U.la (gb tCr σ 4)).toNat (gd .int σ 11).toNat (gr .int σ 9) i)))],inv:=fun i=>i<=(U.la (gb tCr σ 4)).toNat,mu:=fun i=>(U.la (gb tCr σ 4)).toNat-i}
 |14=>some fun σ=>{X:=Nat,sl:=fun i=>[(13,.dat .int (i:Int)),(9,.own 9 .int)],ob:=fun i=>[(9,some (.row 3 .int false .yes (U.kX (U.J3 (gb tCr σ 4) (gd .int σ 1) (gd .int σ 2)) (gd .int σ 11).toNat (gd .int σ 12).toNat (gr .int σ 9) i)))],inv:=fun i=>i<=(U.la (gb tCr σ 4)).toNat,mu:=fun i=>(U.la (gb tCr σ 4)).toNat-i}
 |_=>none
abbrev q116_2 (d:CrD×Int×Int×Int×Unit):=(U.J3 d.1 d.2.1 d.2.2.1)
abbrev q116_4 (d:CrD×Int×Int×Int×Unit)(x:Nat):=(U.zy (q116_2 d) (U.la d.1).toNat d.2.2.2.1.toNat x)
abbrev q116_1 (d:CrD×Int×Int×Int×Unit)(x:Nat)(a:Nat):=(U.kF (q116_2 d) (U.la d.1).toNat (x:Int).toNat (q116_4 d x) a)
abbrev q116_0 (d:CrD×Int×Int×Int×Unit)(x:Nat)(a:Nat)(b:Nat):=(U.kX (q116_2 d) (x:Int).toNat (a:Int).toNat (q116_1 d x a) b)
abbrev q116_3 (d:CrD×Int×Int×Int×Unit)(x:Nat)(a:Nat)(b:Nat):=(nth (q116_0 d x a b) (a:Int).toNat=(x:Int))
abbrev q116_5 (d:CrD×Int×Int×Int×Unit)(x:Nat)(b:Nat)(a:Nat):=(decide (q116_3 d x b a)&&decide (nth (q116_0 d x b a) (a:Int).toNat<0))
abbrev q116_6 (d:CrD×Int×Int×Int×Unit)(x:Nat)(b:Nat)(a:Nat):=(decide (q116_3 d x b a)&&decide (nth (q116_0 d x b a) (a:Int).toNat<0)&&U.jby d.1 d.2.1 d.2.2.1 (b:Int) (a:Int))
def jxJ:Prop:=∀(d:CrD×Int×Int×Int×Unit),U.jl d.1=true->0<=d.2.2.2.1/\d.2.2.2.1<U.la d.1->(∃(x:Nat),((0=(x:Int)/\True/\True)/\List.replicate x (-1:Int)=[]/\True)/\x<=(U.la d.1).toNat)/\∀(x:Nat),x<=(U.la d.1).toNat->(decide ((x:Int)<d.1.1)=true->((List.replicate x (-1:Int)).length+[(-1:Int)].length)*8<=140737488355328/\jy ((x:Int)+1)/\∃(c:Nat),(((x:Int)+1=(c:Int)/\True/\True)/\List.replicate x (-1:Int)++[(-1:Int)]=List.replicate c (-1:Int)/\True)/\c<=(U.la d.1).toNat/\(U.la d.1).toNat-c<(U.la d.1).toNat-x)/\(decide ((x:Int)<d.1.1)=false->0<=d.2.2.2.1/\d.2.2.2.1<(↑(List.replicate x (-1:Int)).length:Int)/\(∃(e:Nat),((0=(e:Int)/\True/\True)/\(List.replicate x (-1:Int)).set d.2.2.2.1.toNat 0=U.zy (q116_2 d) (U.la d.1).toNat d.2.2.2.1.toNat e/\True)/\e<=(U.la d.1).toNat)/\∀(x:Nat),x<=(U.la d.1).toNat->(decide ((x:Int)<d.1.1)=true->(∃(a:Nat),((0=(a:Int)/\True/\True)/\U.zy (q116_2 d) (U.la d.1).toNat d.2.2.2.1.toNat x=U.kF (q116_2 d) (U.la d.1).toNat (x:Int).toNat (q116_4 d x) a/\True)/\a<=(U.la d.1).toNat)/\∀(a:Nat),a<=(U.la d.1).toNat->(decide ((a:Int)<d.1.1)=true->(∃(b:Nat),((0=(b:Int)/\True/\True)/\U.kF (q116_2 d) (U.la d.1).toNat (x:Int).toNat (q116_4 d x) a=U.kX (q116_2 d) (x:Int).toNat (a:Int).toNat (q116_1 d x a) b/\True)/\b<=(U.la d.1).toNat)/\∀(b:Nat),b<=(U.la d.1).toNat->(decide ((b:Int)<d.1.1)=true->0<=(a:Int)/\(a:Int)<(↑(q116_0 d x a b).length:Int)/\(decide (q116_3 d x a b)=true->0<=(b:Int))/\(decide (q116_3 d x a b)=true->(b:Int)<(↑(q116_0 d x a b).length:Int))/\((q116_5 d x a b)=true->U.jl d.1=true)/\((q116_5 d x a b)=true->0<=(a:Int)/\(a:Int)<U.la d.1)/\((q116_5 d x a b)=true->0<=(b:Int)/\(b:Int)<U.la d.1)/\((q116_6 d x a b)=true->jy ((x:Int)+1)/\0<=(b:Int)/\(b:Int)<(↑(q116_0 d x a b).length:Int)/\jy ((b:Int)+1)/\∃(c:Nat),((True/\(b:Int)+1=(c:Int)/\True)/\(q116_0 d x a b).set (b:Int).toNat ((x:Int)+1)=U.kX (q116_2 d) (x:Int).toNat (a:Int).toNat (q116_1 d x a) c/\True)/\c<=(U.la d.1).toNat/\(U.la d.1).toNat-c<(U.la d.1).toNat-b)/\((q116_6 d x a b)=false->jy ((b:Int)+1)/\∃(c:Nat),((True/\(b:Int)+1=(c:Int)/\True)/\U.kX (q116_2 d) (x:Int).toNat (a:Int).toNat (q116_1 d x a) b=U.kX (q116_2 d) (x:Int).toNat (a:Int).toNat (q116_1 d x a) c/\True)/\c<=(U.la d.1).toNat/\(U.la d.1).toNat-c<(U.la d.1).toNat-b))/\(decide ((b:Int)<d.1.1)=false->jy ((a:Int)+1)/\∃(c:Nat),(((a:Int)+1=(c:Int)/\True/\True)/\U.kX (q116_2 d) (x:Int).toNat (a:Int).toNat (q116_1 d x a) b=U.kF (q116_2 d) (U.la d.1).toNat (x:Int).toNat (q116_4 d x) c/\True)/\c<=(U.la d.1).toNat/\(U.la d.1).toNat-c<(U.la d.1).toNat-a))/\(decide ((a:Int)<d.1.1)=false->jy ((x:Int)+1)/\∃(c:Nat),(((x:Int)+1=(c:Int)/\True/\True)/\U.kF (q116_2 d) (U.la d.1).toNat (x:Int).toNat (q116_4 d x) a=U.zy (q116_2 d) (U.la d.1).toNat d.2.2.2.1.toNat c/\True)/\c<=(U.la d.1).toNat/\(U.la d.1).toNat-c<(U.la d.1).toNat-x))/\(decide ((x:Int)<d.1.1)=false->(U.zy (q116_2 d) (U.la d.1).toNat d.2.2.2.1.toNat x,())=(U.jcG d.1 d.2.1 d.2.2.1 d.2.2.2.1,())))
def jpz:j7:=⟨[.val tCr,.val tJb,.val .int],[.int],false,fun d=>[U.jl d.1=true,U.jW d.1 d.2.1=true,U.jxt d.2.2.1],fun d=>(U.jxc d.1 d.2.1 d.2.2.1,())⟩
def jrj:Ann:=fun r=>match r with
 |5=>some fun σ=>{X:=Nat,sl:=fun i=>[(10,.dat .int (i:Int)),(8,.dat .int (U.zm (gb tCr σ 3) (gb tJb σ 4) (gd .int σ 2) i).1),(9,.dat .bool (U.zm (gb tCr σ 3) (gb tJb σ 4) (gd .int σ 2) i).2)],ob:=fun _=>[],inv:=fun i=>i<=(U.je (gb tCr σ 3)).length,mu:=fun i=>(U.je (gb tCr σ 3)).length-i}
 |_=>none
abbrev q117_1 (d:CrD×JbD×Int×Unit)(x:Nat):=(U.zm d.1 d.2.1 d.2.2.1 x)
abbrev q117_2 (d:CrD×JbD×Int×Unit)(x:Nat):=(nth d.1.2.1 (x:Int).toNat)
abbrev q117_3 (d:CrD×JbD×Int×Unit)(a:Nat):=(U.zm d.1 d.2.1 d.2.2.1 a)
abbrev q117_4 (d:CrD×JbD×Int×Unit)(x:Nat):=(!U.jH (q117_2 d x).2.2.1 d.2.1.2.2.2.2.1)
abbrev q117_5 (d:CrD×JbD×Int×Unit)(x:Nat):=((q117_1 d x).2||(q117_2 d x).2.2.2.2.1)
abbrev q117_7 (d:CrD×JbD×Int×Unit):=(nth d.1.2.2.1 d.2.1.2.2.2.2.1.toNat)
abbrev q117_0 (d:CrD×JbD×Int×Unit):=(U.jcG d.1 d.2.2.1 (q117_7 d).1 d.2.1.1)
abbrev q117_6 (d:CrD×JbD×Int×Unit):=(nth (q117_0 d) d.2.1.2.1.toNat<0)
abbrev q117_8 (d:CrD×JbD×Int×Unit):=(U.jxc d.1 d.2.1 d.2.2.1,())
abbrev q117_9 (d:CrD×JbD×Int×Unit):=(0<=d.2.1.2.2.2.2.1/\d.2.1.2.2.2.2.1<=63)
abbrev q117_10 (d:CrD×JbD×Int×Unit):=(0<=d.2.1.1/\d.2.1.1<U.la d.1)
abbrev q117_11 (d:CrD×JbD×Int×Unit)(x:Nat):=(!U.jH (q117_2 d x).2.1 d.2.1.2.2.2.1)
def jpb:Prop:=∀(d:CrD×JbD×Int×Unit),U.jl d.1=true->U.jW d.1 d.2.1=true->U.jxt d.2.2.1->0<=d.2.1.2.2.2.2.1/\d.2.1.2.2.2.2.1<(d.1.2.2.1.length:Int)/\(∃(x:Nat),((0=(x:Int)/\0=(q117_1 d x).1/\false=(q117_1 d x).2/\True)/\True)/\x<=(U.je d.1).length)/\∀(x:Nat),x<=(U.je d.1).length->d.1.2.1.length<4611686018427387904->(decide ((x:Int)<(d.1.2.1.length:Int))=true->(0<=(x:Int)/\(x:Int)<=63)/\((!U.jH d.2.2.1 (x:Int))=true->jy ((x:Int)+1)/\∃(a:Nat),(((q117_1 d x).2=(q117_3 d a).2/\(q117_1 d x).1=(q117_3 d a).1/\(x:Int)+1=(a:Int)/\True)/\True)/\a<=(U.je d.1).length/\(U.je d.1).length-a<(U.je d.1).length-x)/\((!U.jH d.2.2.1 (x:Int))=false->0<=(x:Int)/\(x:Int)<(d.1.2.1.length:Int)/\(U.yf (q117_2 d x) d.2.1.2.2.1=true->(0<=d.2.1.2.2.2.1/\d.2.1.2.2.2.1<=63)/\((q117_11 d x)=true->(q117_9 d)/\((q117_4 d x)=true->jy ((x:Int)+1)/\∃(a:Nat),(((x:Int)+1=(a:Int)/\(q117_5 d x)=(q117_3 d a).2/\bor (bor (bor (q117_1 d x).1 (1:Int)) (2:Int)) 4=(q117_3 d a).1/\True)/\True)/\a<=(U.je d.1).length/\(U.je d.1).length-a<(U.je d.1).length-x)/\((q117_4 d x)=false->jy ((x:Int)+1)/\∃(a:Nat),(((x:Int)+1=(a:Int)/\(q117_5 d x)=(q117_3 d a).2/\bor (bor (q117_1 d x).1 (1:Int)) 2=(q117_3 d a).1/\True)/\True)/\a<=(U.je d.1).length/\(U.je d.1).length-a<(U.je d.1).length-x))/\((q117_11 d x)=false->(q117_9 d)/\((q117_4 d x)=true->jy ((x:Int)+1)/\∃(a:Nat),(((x:Int)+1=(a:Int)/\(q117_5 d x)=(q117_3 d a).2/\bor (bor (q117_1 d x).1 (1:Int)) 4=(q117_3 d a).1/\True)/\True)/\a<=(U.je d.1).length/\(U.je d.1).length-a<(U.je d.1).length-x)/\((q117_4 d x)=false->jy ((x:Int)+1)/\∃(a:Nat),(((x:Int)+1=(a:Int)/\(q117_5 d x)=(q117_3 d a).2/\bor (q117_1 d x).1 1=(q117_3 d a).1/\True)/\True)/\a<=(U.je d.1).length/\(U.je d.1).length-a<(U.je d.1).length-x)))/\(U.yf (q117_2 d x) d.2.1.2.2.1=false->(0<=d.2.1.2.2.2.1/\d.2.1.2.2.2.1<=63)/\((q117_11 d x)=true->(q117_9 d)/\((q117_4 d x)=true->jy ((x:Int)+1)/\∃(a:Nat),(((x:Int)+1=(a:Int)/\(q117_5 d x)=(q117_3 d a).2/\bor (bor (q117_1 d x).1 (2:Int)) 4=(q117_3 d a).1/\True)/\True)/\a<=(U.je d.1).length/\(U.je d.1).length-a<(U.je d.1).length-x)/\((q117_4 d x)=false->jy ((x:Int)+1)/\∃(a:Nat),(((x:Int)+1=(a:Int)/\(q117_5 d x)=(q117_3 d a).2/\bor (q117_1 d x).1 2=(q117_3 d a).1/\True)/\True)/\a<=(U.je d.1).length/\(U.je d.1).length-a<(U.je d.1).length-x))/\((q117_11 d x)=false->(q117_9 d)/\((q117_4 d x)=true->jy ((x:Int)+1)/\∃(a:Nat),(((x:Int)+1=(a:Int)/\(q117_5 d x)=(q117_3 d a).2/\bor (q117_1 d x).1 4=(q117_3 d a).1/\True)/\True)/\a<=(U.je d.1).length/\(U.je d.1).length-a<(U.je d.1).length-x)/\((q117_4 d x)=false->jy ((x:Int)+1)/\∃(a:Nat),(((q117_1 d x).1=(q117_3 d a).1/\(x:Int)+1=(a:Int)/\(q117_5 d x)=(q117_3 d a).2/\True)/\True)/\a<=(U.je d.1).length/\(U.je d.1).length-a<(U.je d.1).length-x)))))/\(decide ((x:Int)<(d.1.2.1.length:Int))=false->BT.Set' d.2.2.1/\(decide (BT.size d.2.2.1≠max d.2.1.2.2.2.2.2.1 (q117_7 d).2.1)=true->(((q117_7 d).2.2.1&& !(q117_1 d x).2)=true->U.jl d.1=true/\(q117_10 d)/\0<=d.2.1.2.1/\d.2.1.2.1<(↑(q117_0 d).length:Int)/\(decide (q117_6 d)=true->(bor (bor (bor (q117_1 d x).1 (8:Int)) (16:Int)) (32:Int),())=(q117_8 d))/\(decide (q117_6 d)=false->(bor (bor (q117_1 d x).1 (8:Int)) (16:Int),())=(q117_8 d)))/\(((q117_7 d).2.2.1&& !(q117_1 d x).2)=false->U.jl d.1=true/\(q117_10 d)/\0<=d.2.1.2.1/\d.2.1.2.1<(↑(q117_0 d).length:Int)/\(decide (q117_6 d)=true->(bor (bor (q117_1 d x).1 (8:Int)) (32:Int),())=(q117_8 d))/\(decide (q117_6 d)=false->(bor (q117_1 d x).1 (8:Int),())=(q117_8 d))))/\(decide (BT.size d.2.2.1≠max d.2.1.2.2.2.2.2.1 (q117_7 d).2.1)=false->(((q117_7 d).2.2.1&& !(q117_1 d x).2)=true->U.jl d.1=true/\(q117_10 d)/\0<=d.2.1.2.1/\d.2.1.2.1<(↑(q117_0 d).length:Int)/\(decide (q117_6 d)=true->(bor (bor (q117_1 d x).1 (16:Int)) (32:Int),())=(q117_8 d))/\(decide (q117_6 d)=false->(bor (q117_1 d x).1 (16:Int),())=(q117_8 d)))/\(((q117_7 d).2.2.1&& !(q117_1 d x).2)=false->U.jl d.1=true/\(q117_10 d)/\0<=d.2.1.2.1/\d.2.1.2.1<(↑(q117_0 d).length:Int)/\(decide (q117_6 d)=true->(bor (q117_1 d x).1 (32:Int),())=(q117_8 d))/\(decide (q117_6 d)=false->((q117_1 d x).1,())=(q117_8 d)))))
def jvV:j7:=⟨[.val tCr,.val tJb,.val .int],[.bool],false,fun d=>[U.jl d.1=true,U.jW d.1 d.2.1=true,U.jxt d.2.2.1],fun d=>(U.qL d.1 d.2.1 d.2.2.1,())⟩
def jvC:Prop:=∀(d:CrD×JbD×Int×Unit),U.jl d.1=true->U.jW d.1 d.2.1=true->U.jxt d.2.2.1->(decide (0<d.2.2.1)=true->U.jl d.1=true)/\(decide (0<d.2.2.1)=true->U.jW d.1 d.2.1=true)/\(decide (0<d.2.2.1)=true->U.jxt d.2.2.1)/\(decide (0<d.2.2.1)&&decide (U.jxc d.1 d.2.1 d.2.2.1=0),())=(U.qL d.1 d.2.1 d.2.2.1,())
def jx8:j7:=⟨[.val tCr,.val .int],[.int],false,fun d=>[U.jl d.1=true],fun d=>(U.wD d.1 d.2.1,())⟩
def jAK:Ann:=fun r=>match r with
 |3=>some fun σ=>{X:=Nat,sl:=fun i=>[(6,.dat .int (i:Int)),(5,.dat .int (U.wm (gb tCr σ 2) (gd .int σ 1) i))],ob:=fun _=>[],inv:=fun i=>i<=(U.je (gb tCr σ 2)).length,mu:=fun i=>(U.je (gb tCr σ 2)).length-i}
 |_=>none
def jxL:Prop:=∀(d:CrD×Int×Unit),U.jl d.1=true->(∃(x:Nat),((0=(x:Int)/\0=U.wm d.1 d.2.1 x/\True)/\True)/\x<=(U.je d.1).length)/\∀(x:Nat),x<=(U.je d.1).length->d.1.2.1.length<4611686018427387904->(decide ((x:Int)<(d.1.2.1.length:Int))=true->(0<=(x:Int)/\(x:Int)<=63)/\(U.jH d.2.1 (x:Int)=true->0<=(x:Int)/\(x:Int)<(d.1.2.1.length:Int)/\jy (U.wm d.1 d.2.1 x+(nth d.1.2.1 (x:Int).toNat).2.2.2.2.2.1)/\jy ((x:Int)+1)/\∃(a:Nat),(((x:Int)+1=(a:Int)/\U.wm d.1 d.2.1 x+(nth d.1.2.1 (x:Int).toNat).2.2.2.2.2.1=U.wm d.1 d.2.1 a/\True)/\True)/\a<=(U.je d.1).length/\(U.je d.1).length-a<(U.je d.1).length-x)/\(U.jH d.2.1 (x:Int)=false->jy ((x:Int)+1)/\∃(a:Nat),((U.wm d.1 d.2.1 x=U.wm d.1 d.2.1 a/\(x:Int)+1=(a:Int)/\True)/\True)/\a<=(U.je d.1).length/\(U.je d.1).length-a<(U.je d.1).length-x))/\(decide ((x:Int)<(d.1.2.1.length:Int))=false->(U.wm d.1 d.2.1 x,())=(U.wD d.1 d.2.1,()))
end Go.X
namespace Go.X
open Go.Proofs
theorem jtr:jpa:=by
 rintro⟨n,a,b,⟨⟩⟩;rfl
theorem jhF:zu PR 44 jpy:=jZ jtr Tryz.func44 kcN koN
theorem jB7:jxK:=by
 rintro⟨s,n,⟨⟩⟩ ⟨a,b⟩;have a:0<=n:=a;have b:n<=63:=b;exact⟨a,by show n<=18446744073709551615;omega,a,by show n<=64;omega,rfl⟩
theorem jae:zu PR 13 jx7:=jZ jB7 Tryz.func13 kcN koN
theorem jBW (c:CrD) (j:JbD):(U.ja (U.jrx j) 0 (U.la c-1)&&U.ja (U.jmC j) 0 (U.la c-1)&&decide (U.jrx j≠U.jmC j)&&U.ja (U.jAZ j) 0 99&&U.ja (U.js7 j) 0 7&&U.ja (U.jrw j) 0 3&&U.ja (U.jBS j) 1 8)=U.jW c j:=by
 unfold U.jW U.ja;rw[jHs];simp only[jG3,decide_eq_true_eq,ne_eq];constructor
 .rintro⟨⟨⟨⟨⟨⟨⟨f,g⟩,h,i⟩,k⟩,l,m⟩,n,o⟩,a,b⟩,d,e⟩;exact⟨f,g,h,i,k,l,m,n,o,a,b,d,e⟩
 .rintro⟨f,g,h,i,k,l,m,n,o,a,b,d,e⟩;exact⟨⟨⟨⟨⟨⟨⟨f,g⟩,h,i⟩,k⟩,l,m⟩,n,o⟩,a,b⟩,d,e⟩
theorem jwG:jrQ:=by
 rintro⟨c,j,⟨⟩⟩ h;have h:U.jl c=true:=h;have d:=jv h;have a:jy (U.la c-1):=L.in64 (by omega) (by omega);refine⟨a,fun _=>a,?_⟩;exact congrArg (fun b=>(b,())) (jBW c j)
theorem jsY:zu PR 60 jsi:=jZ jwG Tryz.func60 (kcC jhF kcN) koN
theorem jzK:jvA:=by
 rintro⟨p,n,⟨⟩⟩;refine⟨⟨0,⟨⟨rfl,trivial⟩,trivial⟩,jHd _,fun j d=>by omega⟩,fun x b c=>⟨fun h=> ?_,fun h=> ?_⟩⟩
 .have c:(U.zR p).length<4611686018427387904:=c;have h:(x:Int)<((U.zR p).length:Int):=of_decide_eq_true h;refine⟨by omega,h,fun a=> ?_,fun a=>⟨L.in64 (by omega) (by omega),x+1,⟨⟨by simp,trivial⟩,trivial⟩,⟨by show x+1<=(U.zR p).length;omega,fun j d=> ?_⟩,by show(U.zR p).length-(x+1)<(U.zR p).length-x;omega⟩⟩
  .have a:nth (U.zR p) x=n:=of_decide_eq_true a;have:U.yf p n=true:=by
    unfold U.yf;rw[jHF];exact⟨_,L.mem_nth (l:=U.zR p) (i:=x) (by omega),by simpa using a⟩
   show(true,())=(U.yf p n,());rw[this]
  .have a:¬nth (U.zR p) x=n:=of_decide_eq_false a;by_cases e:j=x
   .subst e;exact a
   .exact b.2 j (by omega)
 .have h:¬(x:Int)<((U.zR p).length:Int):=of_decide_eq_false h;have g:x<=(U.zR p).length:=b.1;have:U.yf p n=false:=by
   unfold U.yf;rw[jHO];intro t f;obtain⟨i,hi,rfl⟩:=L.mem_iff.1 f;have:=b.2 i (by omega);have this:nth (U.zR p) i≠n:=this;simpa using this
  show(false,())=(U.yf p n,());rw[this]
theorem jmq:zu PR 77 jvT:=wi jxj jzK Tryz.func77 kcN koN
theorem jzr {c:CrD} {j:JbD} (h:U.jW c j=true):(0<=U.jrx j/\U.jrx j<U.la c)/\(0<=U.jmC j/\U.jmC j<U.la c)/\(0<=U.js7 j/\U.js7 j<=7)/\(0<=U.jrw j/\U.jrw j<=3)/\1<=U.jBS j/\U.jBS j<=8:=by
 unfold U.jW at h;have:=of_decide_eq_true h;omega
theorem jqB:jne:=by
 unfold jne q113_0;rintro⟨c,j,p,⟨⟩⟩ ⟨b,d⟩ a;have a:U.jW c j=true:=a;obtain⟨_,_,f,k,_⟩:=jzr a;exact⟨b,d,fun _=>⟨f.1,by show U.js7 j<=63;omega⟩,fun _=>⟨k.1,by show U.jrw j<=63;omega⟩,rfl⟩
theorem jnX:zu PR 50 jnu:=jZ jqB Tryz.func50 (kcC jmq (kcC jae kcN)) koN
theorem jzL:jvB:=by
 rintro⟨s,⟨⟩⟩ d;have d:BT.Set' s:=d;have e:=BT.size_le s;refine⟨⟨0,⟨⟨rfl,by show(0:Int)=BT.size s-BT.size s;omega,trivial⟩,trivial⟩,d⟩,fun x a=>⟨fun h=> ?_,fun h=> ?_⟩⟩
 .have h:0<U.kW s x:=of_decide_eq_true h;have a:BT.Set' (U.kW s x):=a;have g:=BT.size_half a;have i:=BT.size_le (U.kW s x);have j:qH (U.kW s x) 1=(U.kW s x)%2:=by
   obtain⟨n,f,c⟩:=BT.nat_of a;rw[f,show(1:Int)=((1:Nat):Int) from rfl,BT.band_nat (BT.lt63 c) (by decide),Nat.and_one_is_mod];omega
  have b:U.kW s (x+1)=U.kW s x/2:=(by show U.kW s x/2^1=_;simp);unfold BT.Set' at a;refine⟨?_,by decide,by decide,x+1,⟨⟨rfl,?_,trivial⟩,trivial⟩,?_,?_⟩
  .show jy (BT.size s-BT.size (U.kW s x)+qH (U.kW s x) 1);exact L.in64 (by omega) (by omega)
  .show BT.size s-BT.size (U.kW s x)+qH (U.kW s x) 1=BT.size s-BT.size (U.kW s (x+1));rw[b];omega
  .show BT.Set' (U.kW s (x+1));rw[b];unfold BT.Set';omega
  .show(U.kW s (x+1)).toNat<(U.kW s x).toNat;rw[b];omega
 .have h:¬0<U.kW s x:=of_decide_eq_false h;have a:BT.Set' (U.kW s x):=a;unfold BT.Set' at a;have:U.kW s x=0:=(by omega);show(BT.size s-BT.size (U.kW s x),())=(BT.size s,());rw[this,BT.size_zero];simp
theorem jwd:zu PR 78 jvU:=wi jxk jzL Tryz.func78 kcN koN
theorem jqO (c:CrD) (t:Int) (n:Nat):U.wm c t (n+1)=if U.jH t (n:Int)=true then U.wm c t n+U.fe (nth (U.je c) n) else U.wm c t n:=by
 unfold U.wm;rw[jHq,jHk];rfl
theorem jz1 {c:CrD} (h:U.jl c=true) (t:Int):∀n,n<=(U.je c).length->0<=U.wm c t n/\U.wm c t n<=1000*(n:Int)
 |0,_=>⟨jH9 _,jH9 _⟩
 |n+1,a=>by
  have b:=jz1 h t n (by omega)
  have:=jiT h (i:=n) (by omega)
  rw[jqO]
  split<;>omega
theorem jB8:jxL:=by
 rintro⟨c,t,⟨⟩⟩ b;have b:U.jl c=true:=b;have m:=(jv b).2.2.1;refine⟨⟨0,⟨⟨rfl,rfl,trivial⟩,trivial⟩,jHd _⟩,fun x g _=>⟨fun h=> ?_,fun h=> ?_⟩⟩
 .have h:(x:Int)<((U.je c).length:Int):=of_decide_eq_true h;have d:=jqO c t x;have l:=jz1 b t x (by omega);have k:=jiT b (i:=x) (by omega);have j:x+1<=(U.je c).length:=(by omega);have f:(U.je c).length-(x+1)<(U.je c).length-x:=(by omega);refine⟨⟨by omega,by omega⟩,fun a=>⟨by omega,h,?_,L.in64 (by omega) (by omega),x+1,⟨⟨by simp,?_,trivial⟩,trivial⟩,j,f⟩,fun a=>⟨L.in64 (by omega) (by omega),x+1,⟨⟨?_,by simp,trivial⟩,trivial⟩,j,f⟩⟩
  .show jy (U.wm c t x+U.fe (nth (U.je c) x));exact L.in64 (by omega) (by omega)
  .rw[if_pos a] at d;exact d.symm
  .have a:U.jH t (x:Int)=false:=a;rw[if_neg (by rw[a];simp)] at d;exact d.symm
 .have h:¬(x:Int)<((U.je c).length:Int):=of_decide_eq_false h;have g:x<=(U.je c).length:=g;have e:x=(U.je c).length:=(by omega);subst e;rfl
theorem jyX:zu PR 27 jx8:=wi jAK jB8 Tryz.func27 (kcC jae kcN) koN
end Go.X
namespace Go.X
open Go.Proofs
theorem jzM:jvC:=by
 rintro⟨c,j,t,⟨⟩⟩ a b d;exact⟨fun _=>a,fun _=>b,fun _=>d,rfl⟩
theorem jFy {c:CrD} (h:U.jl c=true) {i:Nat} (hi:i<(U.je c).length):((U.lv (nth (U.je c) i)).length:Int)=U.la c:=by
 have:=(jv h).2.2.2.2.1 _ (L.mem_nth hi);unfold U.gy at this;simp only[jG3,decide_eq_true_eq] at this;exact this.1.1
theorem jwF:jrP:=by
 unfold jrP q115_3 q115_2 q115_1 q115_0;rintro⟨c,t,lev,a,b,⟨⟩⟩ f g k;have f:U.jl c=true:=f;have g:0<=a/\a<U.la c:=g;have k:0<=b/\b<U.la c:=k;have n:=(jv f).2.2.1;refine⟨⟨0,⟨⟨rfl,trivial⟩,trivial⟩,jHd _,fun j m=>by omega⟩,fun x l _=>⟨fun h=> ?_,fun h=> ?_⟩⟩
 .have h:(x:Int)<((U.je c).length:Int):=of_decide_eq_true h;have o:=jFy f (i:=x) (by omega);refine⟨⟨by omega,by omega⟩,fun _=>by omega,fun _=>h,fun _=>g.1,fun _=> ?_,fun _=>by omega,fun _=>h,fun _=>k.1,fun _=> ?_,fun d=> ?_,fun d=>⟨L.in64 (by omega) (by omega),x+1,⟨⟨by simp,trivial⟩,trivial⟩,⟨by show x+1<=(U.je c).length;omega,fun j m=> ?_⟩,by show(U.je c).length-(x+1)<(U.je c).length-x;omega⟩⟩
  .show a<((U.lv (nth (U.je c) x)).length:Int);omega
  .show b<((U.lv (nth (U.je c) x)).length:Int);omega
  .have d:(U.jH t (x:Int)&&decide (lev<=nth (U.lv (nth (U.je c) x)) a.toNat)&&decide (lev<=nth (U.lv (nth (U.je c) x)) b.toNat))=true:=d;have:U.jby c t lev a b=true:=by
    unfold U.jby;rw[jHF];exact⟨x,jHj.2 (by omega),d⟩
   show(true,())=(U.jby c t lev a b,());rw[this]
  .by_cases e:j=x
   .subst e;exact d
   .exact l.2 j (by omega)
 .have h:¬(x:Int)<((U.je c).length:Int):=of_decide_eq_false h;have:U.jby c t lev a b=false:=by
   unfold U.jby;rw[jHO];intro i hi;have hi:=jHj.1 hi;have:=l.2 i (by omega);rw[Bool.not_eq_true];exact this
  show(false,())=(U.jby c t lev a b,());rw[this]
theorem jsX:zu PR 107 jsh:=wi jt3 jwF Tryz.func107 (kcC jae kcN) koN
theorem jty (J:Nat->Nat->Bool) (r a:Nat) (out:List Int) (b:Nat):(U.jda J r a out b).length=out.length:=by
 unfold U.jda
 split
 .rw[List.length_set]
 .rfl
theorem jqQ (J:Nat->Nat->Bool) (r a:Nat) (out:List Int) (k:Nat):U.kX J r a out (k+1)=U.jda J r a (U.kX J r a out k) k:=by
 unfold U.kX;rw[jHq,jHk];rfl
theorem joz (J:Nat->Nat->Bool) (r a:Nat) (out:List Int):∀k,(U.kX J r a out k).length=out.length
 |0=>rfl
 |k+1=>by rw[jqQ,jty,joz J r a out k]
theorem jqR (J:Nat->Nat->Bool) (n r:Nat) (out:List Int) (k:Nat):U.kF J n r out (k+1)=U.kX J r k (U.kF J n r out k) n:=by
 unfold U.kF;rw[jHq,jHk];rfl
theorem joA (J:Nat->Nat->Bool) (n r:Nat) (out:List Int):∀k,(U.kF J n r out k).length=out.length
 |0=>rfl
 |k+1=>by rw[jqR,joz,joA J n r out k]
theorem jqP (J:Nat->Nat->Bool) (n s:Nat) (k:Nat):U.zy J n s (k+1)=U.kF J n k (U.zy J n s k) n:=by
 unfold U.zy;rw[jHq,jHk];rfl
theorem joy (J:Nat->Nat->Bool) (n s:Nat):∀k,(U.zy J n s k).length=n
 |0=>jeL n s
 |k+1=>by rw[jqP,joA,joy J n s k]
theorem jB6:jxJ:=by
 unfold jxJ q116_6 q116_5 q116_3 q116_0 q116_1 q116_4 q116_2;rintro⟨c,t,lev,s,⟨⟩⟩ j l;have j:U.jl c=true:=j;have l:0<=s/\s<U.la c:=l;have u:=jv j;obtain⟨J,v⟩:∃J,J=U.J3 c t lev:=⟨_,rfl⟩;refine⟨⟨0,⟨⟨rfl,trivial,trivial⟩,rfl,trivial⟩,jHd _⟩,fun x i=>⟨fun h=> ?_,fun h=> ?_⟩⟩
 .have h:(x:Int)<U.la c:=of_decide_eq_true h;refine⟨by simp only[jH3,jHD,jHJ];omega,L.in64 (by omega) (by omega),x+1,⟨⟨by simp,trivial,trivial⟩,?_,trivial⟩,by show x+1<=(U.la c).toNat;omega,by show(U.la c).toNat-(x+1)<(U.la c).toNat-x;omega⟩;exact List.replicate_succ'.symm
 .have h:¬(x:Int)<U.la c:=of_decide_eq_false h;have i:x<=(U.la c).toNat:=i;have f:x=(U.la c).toNat:=(by omega);subst f;refine⟨l.1,by rw[jH3];show s<(((U.la c).toNat:Nat):Int);omega,⟨0,⟨⟨rfl,trivial,trivial⟩,rfl,trivial⟩,jHd _⟩,fun x i=>⟨fun h=>⟨⟨0,⟨⟨rfl,trivial,trivial⟩,rfl,trivial⟩,jHd _⟩,fun y p=>⟨fun e=>⟨⟨0,⟨⟨rfl,trivial,trivial⟩,rfl,trivial⟩,jHd _⟩,fun z q=>⟨fun g=> ?_,fun g=> ?_⟩⟩,fun e=> ?_⟩⟩,fun h=> ?_⟩⟩
  .have h:(x:Int)<U.la c:=of_decide_eq_true h;have e:(y:Int)<U.la c:=of_decide_eq_true e;have g:(z:Int)<U.la c:=of_decide_eq_true g;have d:=jqQ (U.J3 c t lev) x y (U.kF (U.J3 c t lev) (U.la c).toNat x (U.zy (U.J3 c t lev) (U.la c).toNat s.toNat x) y) z;have b:(U.kX (U.J3 c t lev) x y (U.kF (U.J3 c t lev) (U.la c).toNat x (U.zy (U.J3 c t lev) (U.la c).toNat s.toNat x) y) z).length=(U.la c).toNat:=(by rw[joz,joA,joy]);have r:z+1<=(U.la c).toNat:=(by omega);have o:(U.la c).toNat-(z+1)<(U.la c).toNat-z:=(by omega);refine⟨by omega,by show(y:Int)<((U.kX (U.J3 c t lev) x y (U.kF (U.J3 c t lev) (U.la c).toNat x (U.zy (U.J3 c t lev) (U.la c).toNat s.toNat x) y) z).length:Int);rw[b];omega,fun _=>by omega,fun _=>by show(z:Int)<((U.kX (U.J3 c t lev) x y (U.kF (U.J3 c t lev) (U.la c).toNat x (U.zy (U.J3 c t lev) (U.la c).toNat s.toNat x) y) z).length:Int);rw[b];omega,fun _=>j,fun _=>⟨by omega,e⟩,fun _=>⟨by omega,g⟩,fun a=> ?_,fun a=> ?_⟩
   .have a:((decide (nth (U.kX (U.J3 c t lev) x y (U.kF (U.J3 c t lev) (U.la c).toNat x (U.zy (U.J3 c t lev) (U.la c).toNat s.toNat x) y) z) y=(x:Int))&&decide (nth (U.kX (U.J3 c t lev) x y (U.kF (U.J3 c t lev) (U.la c).toNat x (U.zy (U.J3 c t lev) (U.la c).toNat s.toNat x) y) z) z<0))&&U.J3 c t lev y z)=true:=a;simp only[jG3,decide_eq_true_eq] at a;refine⟨L.in64 (by omega) (by omega),by omega,by show(z:Int)<((U.kX (U.J3 c t lev) x y (U.kF (U.J3 c t lev) (U.la c).toNat x (U.zy (U.J3 c t lev) (U.la c).toNat s.toNat x) y) z).length:Int);rw[b];omega,L.in64 (by omega) (by omega),z+1,⟨⟨trivial,by simp,trivial⟩,?_,trivial⟩,r,o⟩;show(U.kX (U.J3 c t lev) x y (U.kF (U.J3 c t lev) (U.la c).toNat x (U.zy (U.J3 c t lev) (U.la c).toNat s.toNat x) y) z).set z ((x:Int)+1)=U.kX (U.J3 c t lev) x y (U.kF (U.J3 c t lev) (U.la c).toNat x (U.zy (U.J3 c t lev) (U.la c).toNat s.toNat x) y) (z+1);rw[d];unfold U.jda;rw[if_pos ⟨a.1.1,a.1.2,a.2⟩]
   .have a:((decide (nth (U.kX (U.J3 c t lev) x y (U.kF (U.J3 c t lev) (U.la c).toNat x (U.zy (U.J3 c t lev) (U.la c).toNat s.toNat x) y) z) y=(x:Int))&&decide (nth (U.kX (U.J3 c t lev) x y (U.kF (U.J3 c t lev) (U.la c).toNat x (U.zy (U.J3 c t lev) (U.la c).toNat s.toNat x) y) z) z<0))&&U.J3 c t lev y z)=false:=a;refine⟨L.in64 (by omega) (by omega),z+1,⟨⟨trivial,by simp,trivial⟩,?_,trivial⟩,r,o⟩;show U.kX (U.J3 c t lev) x y (U.kF (U.J3 c t lev) (U.la c).toNat x (U.zy (U.J3 c t lev) (U.la c).toNat s.toNat x) y) z=U.kX (U.J3 c t lev) x y (U.kF (U.J3 c t lev) (U.la c).toNat x (U.zy (U.J3 c t lev) (U.la c).toNat s.toNat x) y) (z+1);rw[d];unfold U.jda;rw[if_neg (fun k=>by rw[decide_eq_true k.1,decide_eq_true k.2.1,k.2.2] at a;cases a)]
  .have e:(y:Int)<U.la c:=of_decide_eq_true e;have g:¬(z:Int)<U.la c:=of_decide_eq_false g;have q:z<=(U.la c).toNat:=q;have n:z=(U.la c).toNat:=(by omega);subst n;refine⟨L.in64 (by omega) (by omega),y+1,⟨⟨by simp,trivial,trivial⟩,?_,trivial⟩,by show y+1<=(U.la c).toNat;omega,by show(U.la c).toNat-(y+1)<(U.la c).toNat-y;omega⟩;exact(jqR (U.J3 c t lev) (U.la c).toNat x (U.zy (U.J3 c t lev) (U.la c).toNat s.toNat x) y).symm
  .have h:(x:Int)<U.la c:=of_decide_eq_true h;have e:¬(y:Int)<U.la c:=of_decide_eq_false e;have p:y<=(U.la c).toNat:=p;have m:y=(U.la c).toNat:=(by omega);subst m;refine⟨L.in64 (by omega) (by omega),x+1,⟨⟨by simp,trivial,trivial⟩,?_,trivial⟩,by show x+1<=(U.la c).toNat;omega,by show(U.la c).toNat-(x+1)<(U.la c).toNat-x;omega⟩;exact(jqP (U.J3 c t lev) (U.la c).toNat s.toNat x).symm
  .have h:¬(x:Int)<U.la c:=of_decide_eq_false h;have i:x<=(U.la c).toNat:=i;have f:x=(U.la c).toNat:=(by omega);subst f;rfl
theorem jyW:zu PR 79 jx6:=wi jAJ jB6 Tryz.func79 (kcC jsX kcN) koN
end Go.X
namespace Go.X
open Go.Proofs
theorem jla (c:CrD) (j:JbD) (t:Int) (n:Nat):U.zm c j t (n+1)=U.jtR c j t (U.zm c j t n) n:=by
 unfold U.zm;rw[jHq,jHk];rfl
theorem jre {c:CrD} {j:JbD} {t:Int} {n:Nat} (h:U.jH t (n:Int)=false):U.zm c j t (n+1)=U.zm c j t n:=by
 rw[jla];unfold U.jtR;rw[h,if_neg (by simp)]
theorem jEN {c:CrD} {j:JbD} {t:Int} {n:Nat} {a b d:Bool} (h:U.jH t (n:Int)=true) (e:U.yf (nth (U.je c) n) (U.jAZ j)=a) (f:(!U.jH (U.fd (nth (U.je c) n)) (U.js7 j))=b) (g:(!U.jH (U.cl (nth (U.je c) n)) (U.jrw j))=d):
 U.zm c j t (n+1)=(U.juy d (U.juy b (U.juy a (U.zm c j t n).1 1) 2) 4,(U.zm c j t n).2||U.jEC (nth (U.je c) n)):=by
 rw[jla];unfold U.jtR;rw[if_pos h,e,f,g]
theorem jFZ {c:CrD} {j:JbD} {t:Int} {a b d:Bool} (e:decide (BT.size t≠max (U.jBS j) (U.jEe (U.yP c j)))=a) (f:(U.jGe (U.yP c j)&& !U.jGz c j t)=b) (g:decide (nth (U.jcG c t (U.jxu (U.yP c j)) (U.jrx j)) (U.jmC j).toNat<0)=d):
 U.jxc c j t=U.juy d (U.juy b (U.juy a (U.jGy c j t) 8) 16) 32:=by
 unfold U.jxc;rw[e,f,g]
theorem jts:jpb:=by
 unfold jpb q117_11 q117_10 q117_9 q117_8 q117_6 q117_0 q117_7 q117_5 q117_4 q117_3 q117_2 q117_1;rintro⟨c,j,t,⟨⟩⟩ l u v;have l:U.jl c=true:=l;have u:U.jW c j=true:=u;have v:U.jxt t:=v;have B:=(jv l).2.2.1;have d:=(jv l).2.2.2.1;obtain⟨r,s,f,k,_⟩:=jzr u;have q:0<=U.js7 j/\U.js7 j<=63:=(by omega);have i:0<=U.jrw j/\U.jrw j<=63:=(by omega);have A:BT.Set' t:=(by unfold U.jxt at v;unfold BT.Set';omega);refine⟨k.1,by show U.jrw j<((U.wk c).length:Int);omega,⟨0,⟨⟨rfl,rfl,rfl,trivial⟩,trivial⟩,jHd _⟩,fun x y _=>⟨fun h=> ?_,fun h=> ?_⟩⟩
 .have h:(x:Int)<((U.je c).length:Int):=of_decide_eq_true h;have p:x+1<=(U.je c).length:=(by omega);have m:(U.je c).length-(x+1)<(U.je c).length-x:=(by omega);have i64:jy ((x:Int)+1):=L.in64 (by omega) (by omega);refine⟨⟨by omega,by omega⟩,fun b=> ?_,fun b=> ?_⟩
  .have b:(!U.jH t (x:Int))=true:=b;have e:=jre (c:=c) (j:=j) (t:=t) (n:=x) (by simpa using b);exact⟨i64,x+1,⟨⟨congrArg (·.2) e.symm,congrArg (·.1) e.symm,by simp,trivial⟩,trivial⟩,p,m⟩
  .have b:(!U.jH t (x:Int))=false:=b;have b:U.jH t (x:Int)=true:=(by simpa using b);refine⟨by omega,h,fun o=>⟨q,fun a=>⟨i,fun d=> ?_,fun d=> ?_⟩,fun a=>⟨i,fun d=> ?_,fun d=> ?_⟩⟩,fun o=>⟨q,fun a=>⟨i,fun d=> ?_,fun d=> ?_⟩,fun a=>⟨i,fun d=> ?_,fun d=> ?_⟩⟩⟩
   all_goals
    have e:=jEN (c:=c) (j:=j) (t:=t) (n:=x) b o a d
    first
    |exact⟨i64,x+1,⟨⟨by simp,congrArg (·.2) e.symm,congrArg (·.1) e.symm,trivial⟩,trivial⟩,p,m⟩
    |exact⟨i64,x+1,⟨⟨congrArg (·.1) e.symm,by simp,congrArg (·.2) e.symm,trivial⟩,trivial⟩,p,m⟩
    |exact⟨i64,x+1,⟨⟨congrArg (·.2) e.symm,by simp,congrArg (·.1) e.symm,trivial⟩,trivial⟩,p,m⟩
    |exact⟨i64,x+1,⟨⟨congrArg (·.2) e.symm,congrArg (·.1) e.symm,by simp,trivial⟩,trivial⟩,p,m⟩
    |exact⟨i64,x+1,⟨⟨by simp,congrArg (·.1) e.symm,congrArg (·.2) e.symm,trivial⟩,trivial⟩,p,m⟩
    |exact⟨i64,x+1,⟨⟨congrArg (·.1) e.symm,congrArg (·.2) e.symm,by simp,trivial⟩,trivial⟩,p,m⟩
 .have h:¬(x:Int)<((U.je c).length:Int):=of_decide_eq_false h;have y:x<=(U.je c).length:=y;have w:x=(U.je c).length:=(by omega);subst w;have g:U.jmC j<((U.jcG c t (U.jxu (U.yP c j)) (U.jrx j)).length:Int):=by
   unfold U.jcG;rw[joy];omega
  refine⟨A,fun b=>⟨fun o=>⟨l,r,s.1,g,fun a=> ?_,fun a=> ?_⟩,fun o=>⟨l,r,s.1,g,fun a=> ?_,fun a=> ?_⟩⟩,fun b=>⟨fun o=>⟨l,r,s.1,g,fun a=> ?_,fun a=> ?_⟩,fun o=>⟨l,r,s.1,g,fun a=> ?_,fun a=> ?_⟩⟩⟩
  all_goals
   have e:=jFZ (c:=c) (j:=j) (t:=t) b o a;exact congrArg (fun z=>(z,())) e.symm
theorem jqg:zu PR 52 jpz:=wi jrj jts Tryz.func52 (kcC jae (kcC jmq (kcC jwd (kcC jyW kcN)))) koN
theorem jwe:zu PR 29 jvV:=jZ jzM Tryz.func29 (kcC jqg kcN) koN
end Go.X
namespace Go.X
open Go.Proofs
theorem jBu (l:Int) (p:PeD):U.gy l p=(!(decide (((U.lv p).length:Int)≠l)|| !U.ja (U.fd p) 0 255|| !U.ja (U.cl p) 0 255||decide (10<((U.zR p).length:Int))|| !U.ja (U.fe p) 0 1000)&&((U.lv p).all (fun n=>U.ja n 0 5)&&(U.zR p).all (fun n=>U.ja n 0 99))):=by
 unfold U.gy;congr 1;rw[jHs];simp only[U.ja,jHB,jHt,decide_eq_false_iff_not,jHT,jG3,decide_eq_true_eq];omega
theorem jiV (c:CrD):U.jl c=(!(!U.ja (U.la c) 2 5||decide (8<((U.je c).length:Int))||decide (((U.wk c).length:Int)≠4))&&((U.je c).all (U.gy (U.la c))&&(U.wk c).all U.jah)):=by
 unfold U.jl;congr 1;rw[jHs];simp only[U.ja,jHB,jHt,decide_eq_false_iff_not,jHT,jG3,decide_eq_true_eq];omega
theorem jhm {c:CrD} {x:Nat} (a:x<(U.je c).length) (h:U.gy (U.la c) (nth (U.je c) x)=false):U.jl c=false:=by
 have:(U.je c).all (U.gy (U.la c))=false:=jId.2 ⟨_,L.mem_nth a,by rw[h];simp⟩;rw[jiV,this];simp
theorem jw4 {c:CrD} {x:Nat} (a:x<(U.wk c).length) (h:U.jah (nth (U.wk c) x)=false):U.jl c=false:=by
 have:(U.wk c).all U.jah=false:=jId.2 ⟨_,L.mem_nth a,by rw[h];simp⟩;rw[jiV,this];simp
theorem jbl {α:Type} [Inhabited α] {l:List α} {p:α->Bool} {x:Nat} (c:¬x<l.length) (h:∀j:Nat,j<x->p (nth l j)=true):l.all p=true:=by
 rw[jHE];intro a b;obtain⟨i,hi,rfl⟩:=L.mem_iff.1 b;exact h i (by omega)
theorem jcd {c:CrD} (h:U.jl c=false):(false,())=(U.jl c,()):=by rw[h]
theorem jtt:jpc:=by
 unfold jpc q110_7 q110_3 q110_6 q110_1 q110_5 q110_4 q110_2 q110_0;rintro⟨c,⟨⟩⟩ _ _;refine⟨fun h=> ?_,fun h=> ?_⟩
 .have h:(!U.ja (U.la c) 2 5||decide (8<((U.je c).length:Int))||decide (((U.wk c).length:Int)≠4))=true:=h;refine jcd (c:=c) ?_;rw[jiV,h];rfl
 have B:(!U.ja (U.la c) 2 5||decide (8<((U.je c).length:Int))||decide (((U.wk c).length:Int)≠4))=false:=h;clear h;refine⟨⟨0,⟨⟨rfl,trivial⟩,trivial⟩,jHd _,fun j k=>by omega⟩,fun x s r=>⟨fun h=> ?_,fun h=> ?_⟩⟩
 .have r:(U.je c).length<4611686018427387904:=r;have h:(x:Int)<((U.je c).length:Int):=of_decide_eq_true h;have m:x<(U.je c).length:=(by omega);refine⟨by omega,h,fun _ _=>⟨fun g=> ?_,fun g=> ?_⟩⟩
  .have g:(decide (((U.lv (nth (U.je c) x)).length:Int)≠U.la c)|| !U.ja (U.fd (nth (U.je c) x)) 0 255|| !U.ja (U.cl (nth (U.je c) x)) 0 255||decide (10<((U.zR (nth (U.je c) x)).length:Int))|| !U.ja (U.fe (nth (U.je c) x)) 0 1000)=true:=g;refine jcd (c:=c) (jhm m ?_);rw[jBu,g];rfl
  have g:(decide (((U.lv (nth (U.je c) x)).length:Int)≠U.la c)|| !U.ja (U.fd (nth (U.je c) x)) 0 255|| !U.ja (U.cl (nth (U.je c) x)) 0 255||decide (10<((U.zR (nth (U.je c) x)).length:Int))|| !U.ja (U.fe (nth (U.je c) x)) 0 1000)=false:=g;refine⟨⟨0,⟨⟨rfl,trivial⟩,trivial⟩,jHd _,fun j k=>by omega⟩,fun y q d=>⟨fun b=> ?_,fun b=> ?_⟩⟩
  .have d:(U.lv (nth (U.je c) x)).length<4611686018427387904:=d;have b:(y:Int)<((U.lv (nth (U.je c) x)).length:Int):=of_decide_eq_true b;refine⟨by omega,b,fun a=> ?_,fun a=>⟨L.in64 (by omega) (by omega),y+1,⟨⟨by simp,trivial⟩,trivial⟩,⟨by show y+1<=(U.lv (nth (U.je c) x)).length;omega,fun j k=> ?_⟩,by show(U.lv (nth (U.je c) x)).length-(y+1)<(U.lv (nth (U.je c) x)).length-y;omega⟩⟩
   .have a:(!U.ja (nth (U.lv (nth (U.je c) x)) y) 0 5)=true:=a;have a:U.ja (nth (U.lv (nth (U.je c) x)) y) 0 5=false:=(by simpa using a);refine jcd (c:=c) (jhm m ?_);have:(U.lv (nth (U.je c) x)).all (fun n=>U.ja n 0 5)=false:=jId.2 ⟨_,L.mem_nth (l:=U.lv (nth (U.je c) x)) (i:=y) (by omega),by rw[a];simp⟩;rw[jBu,this];simp
   .have a:(!U.ja (nth (U.lv (nth (U.je c) x)) y) 0 5)=false:=a;by_cases e:j=y
    .subst e;exact(show U.ja (nth (U.lv (nth (U.je c) x)) j) 0 5=true by simpa using a)
    .exact q.2 j (by omega)
  have b:¬(y:Int)<((U.lv (nth (U.je c) x)).length:Int):=of_decide_eq_false b;have u:(U.lv (nth (U.je c) x)).all (fun n=>U.ja n 0 5)=true:=jbl (by omega) q.2;refine⟨⟨0,⟨⟨rfl,trivial⟩,trivial⟩,jHd _,fun j k=>by omega⟩,fun z t o=>⟨fun a=> ?_,fun a=> ?_⟩⟩
  .have o:(U.zR (nth (U.je c) x)).length<4611686018427387904:=o;have a:(z:Int)<((U.zR (nth (U.je c) x)).length:Int):=of_decide_eq_true a;refine⟨by omega,a,fun f=> ?_,fun f=>⟨L.in64 (by omega) (by omega),z+1,⟨⟨by simp,trivial⟩,trivial⟩,⟨by show z+1<=(U.zR (nth (U.je c) x)).length;omega,fun j k=> ?_⟩,by show(U.zR (nth (U.je c) x)).length-(z+1)<(U.zR (nth (U.je c) x)).length-z;omega⟩⟩
   .have f:(!U.ja (nth (U.zR (nth (U.je c) x)) z) 0 99)=true:=f;have f:U.ja (nth (U.zR (nth (U.je c) x)) z) 0 99=false:=(by simpa using f);refine jcd (c:=c) (jhm m ?_);have:(U.zR (nth (U.je c) x)).all (fun n=>U.ja n 0 99)=false:=jId.2 ⟨_,L.mem_nth (l:=U.zR (nth (U.je c) x)) (i:=z) (by omega),by rw[f];simp⟩;rw[jBu,this];simp
   .have f:(!U.ja (nth (U.zR (nth (U.je c) x)) z) 0 99)=false:=f;by_cases e:j=z
    .subst e;exact(show U.ja (nth (U.zR (nth (U.je c) x)) j) 0 99=true by simpa using f)
    .exact t.2 j (by omega)
  have a:¬(z:Int)<((U.zR (nth (U.je c) x)).length:Int):=of_decide_eq_false a;have v:(U.zR (nth (U.je c) x)).all (fun n=>U.ja n 0 99)=true:=jbl (by omega) t.2;refine⟨L.in64 (by omega) (by omega),x+1,⟨⟨by simp,trivial⟩,trivial⟩,⟨by show x+1<=(U.je c).length;omega,fun j k=> ?_⟩,by show(U.je c).length-(x+1)<(U.je c).length-x;omega⟩;by_cases e:j=x
  .subst e;show U.gy (U.la c) (nth (U.je c) j)=true;rw[jBu,g,u,v];rfl
  .exact s.2 j (by omega)
 have h:¬(x:Int)<((U.je c).length:Int):=of_decide_eq_false h;have A:(U.je c).all (U.gy (U.la c))=true:=jbl (by omega) s.2;refine⟨⟨0,⟨⟨rfl,trivial⟩,trivial⟩,jHd _,fun j k=>by omega⟩,fun y q d=>⟨fun b=> ?_,fun b=> ?_⟩⟩
 .have d:(U.wk c).length<4611686018427387904:=d;have b:(y:Int)<((U.wk c).length:Int):=of_decide_eq_true b;have p:U.jah (nth (U.wk c) y)= !(!U.ja (U.jxu (nth (U.wk c) y)) 1 5|| !U.ja (U.jEe (nth (U.wk c) y)) 1 8):=by
   unfold U.jah;rw[Bool.not_or,Bool.not_not,Bool.not_not]
  refine⟨by omega,b,fun _=>by omega,fun _=>b,fun a=> ?_,fun a=>⟨L.in64 (by omega) (by omega),y+1,⟨⟨by simp,trivial⟩,trivial⟩,⟨by show y+1<=(U.wk c).length;omega,fun j k=> ?_⟩,by show(U.wk c).length-(y+1)<(U.wk c).length-y;omega⟩⟩
  .have a:(!U.ja (U.jxu (nth (U.wk c) y)) 1 5|| !U.ja (U.jEe (nth (U.wk c) y)) 1 8)=true:=a;exact jcd (c:=c) (jw4 (x:=y) (by omega) (by rw[p,a];rfl))
  .have a:(!U.ja (U.jxu (nth (U.wk c) y)) 1 5|| !U.ja (U.jEe (nth (U.wk c) y)) 1 8)=false:=a;by_cases e:j=y
   .subst e;show U.jah (nth (U.wk c) j)=true;rw[p,a];rfl
   .exact q.2 j (by omega)
 .have b:¬(y:Int)<((U.wk c).length:Int):=of_decide_eq_false b;have w:(U.wk c).all U.jah=true:=jbl (by omega) q.2;show(true,())=(U.jl c,());rw[jiV,B,A,w];rfl
theorem jhG:zu PR 59 jpA:=wi jrk jtt Tryz.func59 (kcC jhF kcN) koN
end Go.X
namespace Go.X
open Go.Proofs
def jpx:j7:=⟨[.val .int,.val .int,.val .int],[.bool],false,fun _=>[],fun d=>(U.ja d.1 d.2.1 d.2.2.1,())⟩
def jo9:Prop:=∀(d:Int×Int×Int×Unit),(decide (d.2.1<=d.1)&&decide (d.1<=d.2.2.1),())=(U.ja d.1 d.2.1 d.2.2.1,())
def jju:j7:=⟨[.val tDy,.val .int],[.bool],false,fun _=>[],fun d=>(U.jh d.1 d.2.1,())⟩
def jjf:Prop:=∀(d:DyD×Int×Unit),d.1.2.2.1.length<4611686018427387904->jy ((d.1.2.2.1.length:Int)-1)/\(U.ja d.2.1 (0:Int) ((d.1.2.2.1.length:Int)-1),())=(U.jh d.1 d.2.1,())
def jlx:j7:=⟨[.val tDy,.val .int],[.bool],false,fun _=>[],fun d=>(U.yA d.1 d.2.1,())⟩
def jlq:Prop:=∀(d:DyD×Int×Unit),d.1.1.2.1.length<4611686018427387904->jy ((d.1.1.2.1.length:Int)-1)/\(U.ja d.2.1 (0:Int) ((d.1.1.2.1.length:Int)-1),())=(U.yA d.1 d.2.1,())
def jse:j7:=⟨[.val tDy],[.bool],false,fun _=>[],fun d=>(U.zL d.1,())⟩
def jt0:Ann:=fun r=>match r with
 |4=>some fun σ=>{X:=Nat,sl:=fun i=>[(3,.dat .int (i:Int))],ob:=fun _=>[],inv:=fun i=>i<=(U.jL (gb tDy σ 1)).length/\∀j:Nat,j<i->U.vR (U.jL (gb tDy σ 1)).length (nth (U.jL (gb tDy σ 1)) j)=true,mu:=fun i=>(U.jL (gb tDy σ 1)).length-i}
 |9=>some fun σ=>{X:=Nat,sl:=fun i=>[(4,.dat .int (i:Int))],ob:=fun _=>[],inv:=fun i=>i<=(nth (U.jL (gb tDy σ 1)) (gd .int σ 3).toNat).length/\∀j:Nat,j<i->U.jfP (nth (nth (U.jL (gb tDy σ 1)) (gd .int σ 3).toNat) j)=true,mu:=fun i=>(nth (U.jL (gb tDy σ 1)) (gd .int σ 3).toNat).length-i}
 |15=>some fun σ=>{X:=Nat,sl:=fun i=>[(6,.dat .int (i:Int))],ob:=fun _=>[],inv:=fun i=>i<=(U.jq (gb tDy σ 1)).length/\∀j:Nat,j<i->U.jco (U.jL (gb tDy σ 1)).length (nth (U.jq (gb tDy σ 1)) j)=true,mu:=fun i=>(U.jq (gb tDy σ 1)).length-i}
 |21=>some fun σ=>{X:=Nat,sl:=fun i=>[(8,.dat .int (i:Int))],ob:=fun _=>[],inv:=fun i=>i<=(U.zc (gb tDy σ 1)).length/\∀j:Nat,j<i->U.jaf (U.jq (gb tDy σ 1)).length (U.je (U.jb (gb tDy σ 1))).length (nth (U.zc (gb tDy σ 1)) j)=true,mu:=fun i=>(U.zc (gb tDy σ 1)).length-i}
 |_=>none
abbrev q123_4 (d:DyD×Unit)(x:Nat):=(nth d.1.2.1 (x:Int).toNat)
abbrev q123_2 (d:DyD×Unit)(x:Nat)(a:Nat):=(decide ((nth (q123_4 d x) (a:Int).toNat).1<0)||decide ((nth (q123_4 d x) (a:Int).toNat).2.1<(nth (q123_4 d x) (a:Int).toNat).1)||decide ((300:Int)<(nth (q123_4 d x) (a:Int).toNat).2.1))
abbrev q123_5 (d:DyD×Unit)(x:Nat):=(nth (U.jL d.1) (x:Int).toNat)
abbrev q123_6 (d:DyD×Unit):=(d.1.2.1.length:Int)
abbrev q123_7 (d:DyD×Unit)(x:Nat):=(nth d.1.2.2.2.2.2.1 (x:Int).toNat)
abbrev q123_0 (d:DyD×Unit)(x:Nat):=(!U.ja (q123_7 d x).1 (0:Int) (99:Int)|| !U.ja (q123_7 d x).2.1 (0:Int) (9999:Int)|| !U.ja (q123_7 d x).2.2.1 (1:Int) (2:Int)|| !U.jh d.1 (q123_7 d x).2.2.2.1|| !U.yA d.1 (q123_7 d x).2.2.2.2.1)
abbrev q123_8 (d:DyD×Unit):=(d.1.2.2.1.length:Int)
abbrev q123_9 (x:Nat)(a:Nat):=(((x:Int)+1=(a:Int)/\True)/\True)
abbrev q123_10 (d:DyD×Unit)(x:Nat):=(nth d.1.2.2.1 (x:Int).toNat)
abbrev q123_1 (d:DyD×Unit)(x:Nat):=(!U.ja (q123_10 d x).2.1 (0:Int) ((q123_6 d)-1)||decide ((q123_10 d x).2.2.1<0)||decide ((q123_10 d x).2.2.2.1<=(q123_10 d x).2.2.1)||decide ((1440:Int)<(q123_10 d x).2.2.2.1))
abbrev q123_11 (d:DyD×Unit)(x:Nat):=(↑(q123_4 d x).length:Int)
abbrev q123_12 (d:DyD×Unit):=(d.1.2.2.2.2.2.1.length:Int)
abbrev q123_3 (d:DyD×Unit):=(decide (4<(q123_8 d))|| !U.ja (q123_6 d) (1:Int) (5:Int)|| !U.ja d.1.2.2.2.1 (0:Int) (300:Int)|| !U.ja d.1.2.2.2.2.1 (0:Int) (1440:Int)||decide (30<(q123_12 d)))
abbrev q123_13 (x:Nat):=((0=(x:Int)/\True)/\True)
def jrM:Prop:=∀(d:DyD×Unit),d.1.2.2.1.length<4611686018427387904->((!decide (4<(q123_8 d)))=true->d.1.2.1.length<4611686018427387904)->((!(decide (4<(q123_8 d))|| !U.ja (q123_6 d) (1:Int) (5:Int)|| !U.ja d.1.2.2.2.1 (0:Int) (300:Int)|| !U.ja d.1.2.2.2.2.1 (0:Int) (1440:Int)))=true->d.1.2.2.2.2.2.1.length<4611686018427387904)->((q123_3 d)=true->(false,())=(U.zL d.1,()))/\((q123_3 d)=false->(∃(x:Nat),(q123_13 x)/\x<=(U.jL d.1).length/\∀(j:Nat),j<x->U.vR (U.jL d.1).length (nth (U.jL d.1) j)=true)/\∀(x:Nat),(x<=(U.jL d.1).length/\∀(j:Nat),j<x->U.vR (U.jL d.1).length (nth (U.jL d.1) j)=true)->d.1.2.1.length<4611686018427387904->(decide ((x:Int)<(q123_6 d))=true->0<=(x:Int)/\(x:Int)<(q123_6 d)/\(decide ((q123_11 d x)≠(q123_6 d))=true->(false,())=(U.zL d.1,()))/\(decide ((q123_11 d x)≠(q123_6 d))=false->(∃(a:Nat),((0=(a:Int)/\True)/\True)/\a<=(q123_5 d x).length/\∀(j:Nat),j<a->U.jfP (nth (q123_5 d x) j)=true)/\∀(a:Nat),(a<=(q123_5 d x).length/\∀(j:Nat),j<a->U.jfP (nth (q123_5 d x) j)=true)->0<=(x:Int)/\(x:Int)<(q123_6 d)/\((q123_4 d x).length<4611686018427387904->(decide ((a:Int)<(q123_11 d x))=true->0<=(x:Int)/\(x:Int)<(q123_6 d)/\0<=(a:Int)/\(a:Int)<(q123_11 d x)/\((q123_2 d x a)=true->(false,())=(U.zL d.1,()))/\((q123_2 d x a)=false->jy ((a:Int)+1)/\∃(b:Nat),(((a:Int)+1=(b:Int)/\True)/\True)/\(b<=(q123_5 d x).length/\∀(j:Nat),j<b->U.jfP (nth (q123_5 d x) j)=true)/\(q123_5 d x).length-b<(q123_5 d x).length-a))/\(decide ((a:Int)<(q123_11 d x))=false->jy ((x:Int)+1)/\∃(b:Nat),(q123_9 x b)/\(b<=(U.jL d.1).length/\∀(j:Nat),j<b->U.vR (U.jL d.1).length (nth (U.jL d.1) j)=true)/\(U.jL d.1).length-b<(U.jL d.1).length-x))))/\(decide ((x:Int)<(q123_6 d))=false->(∃(x:Nat),(q123_13 x)/\x<=(U.jq d.1).length/\∀(j:Nat),j<x->U.jco (U.jL d.1).length (nth (U.jq d.1) j)=true)/\∀(x:Nat),(x<=(U.jq d.1).length/\∀(j:Nat),j<x->U.jco (U.jL d.1).length (nth (U.jq d.1) j)=true)->d.1.2.2.1.length<4611686018427387904->(decide ((x:Int)<(q123_8 d))=true->0<=(x:Int)/\(x:Int)<(q123_8 d)/\(d.1.2.1.length<4611686018427387904->jy ((q123_6 d)-1)/\((q123_1 d x)=true->(false,())=(U.zL d.1,()))/\((q123_1 d x)=false->jy ((x:Int)+1)/\∃(b:Nat),(q123_9 x b)/\(b<=(U.jq d.1).length/\∀(j:Nat),j<b->U.jco (U.jL d.1).length (nth (U.jq d.1) j)=true)/\(U.jq d.1).length-b<(U.jq d.1).length-x)))/\(decide ((x:Int)<(q123_8 d))=false->(∃(x:Nat),(q123_13 x)/\x<=(U.zc d.1).length/\∀(j:Nat),j<x->U.jaf (U.jq d.1).length (U.je (U.jb d.1)).length (nth (U.zc d.1) j)=true)/\∀(x:Nat),(x<=(U.zc d.1).length/\∀(j:Nat),j<x->U.jaf (U.jq d.1).length (U.je (U.jb d.1)).length (nth (U.zc d.1) j)=true)->d.1.2.2.2.2.2.1.length<4611686018427387904->(decide ((x:Int)<(q123_12 d))=true->0<=(x:Int)/\(x:Int)<(q123_12 d)/\((q123_0 d x)=true->(false,())=(U.zL d.1,()))/\((q123_0 d x)=false->jy ((x:Int)+1)/\∃(b:Nat),(q123_9 x b)/\(b<=(U.zc d.1).length/\∀(j:Nat),j<b->U.jaf (U.jq d.1).length (U.je (U.jb d.1)).length (nth (U.zc d.1) j)=true)/\(U.zc d.1).length-b<(U.zc d.1).length-x))/\(decide ((x:Int)<(q123_12 d))=false->(true,())=(U.zL d.1,())))))
def jsd:j7:=⟨[.val (.slice tSh)],[.bool],false,fun d=>[d.1.length<=1000000],fun d=>(U.vU d.1,())⟩
def jtZ:Ann:=fun r=>match r with
 |2=>some fun σ=>{X:=Nat,sl:=fun i=>[(3,.dat .int (i:Int))],ob:=fun _=>[],inv:=fun i=>i<=(gd (.slice tSh) σ 0).length/\U.qv (gd (.slice tSh) σ 0) i=false,mu:=fun i=>(gd (.slice tSh) σ 0).length-i}
 |5=>some fun σ=>{X:=Nat,sl:=fun i=>[(4,.dat .int (i:Int))],ob:=fun _=>[],inv:=fun i=>i<=(gd .int σ 3).toNat/\∀j:Nat,j<i->U.jk2 (nth (gd (.slice tSh) σ 0) (gd .int σ 3).toNat) (nth (gd (.slice tSh) σ 0) j)=false,mu:=fun i=>(gd .int σ 3).toNat-i}
 |_=>none
abbrev q124_0 (d:List ShD×Unit)(x:Nat)(a:Nat):=((nth d.1 (x:Int).toNat).1=(nth d.1 (a:Int).toNat).1)
def jrK:Prop:=∀(d:List ShD×Unit),d.1.length<=1000000->(∃(x:Nat),((0=(x:Int)/\True)/\True)/\x<=d.1.length/\U.qv d.1 x=false)/\∀(x:Nat),x<=d.1.length/\U.qv d.1 x=false->d.1.length<4611686018427387904->(decide ((x:Int)<(d.1.length:Int))=true->(∃(a:Nat),((0=(a:Int)/\True)/\True)/\a<=(x:Int).toNat/\∀(j:Nat),j<a->U.jk2 (nth d.1 (x:Int).toNat) (nth d.1 j)=false)/\∀(a:Nat),(a<=(x:Int).toNat/\∀(j:Nat),j<a->U.jk2 (nth d.1 (x:Int).toNat) (nth d.1 j)=false)->(decide ((a:Int)<(x:Int))=true->0<=(x:Int)/\(x:Int)<(d.1.length:Int)/\0<=(a:Int)/\(a:Int)<(d.1.length:Int)/\(decide (q124_0 d x a)=true->0<=(x:Int))/\(decide (q124_0 d x a)=true->(x:Int)<(d.1.length:Int))/\(decide (q124_0 d x a)=true->0<=(a:Int))/\(decide (q124_0 d x a)=true->(a:Int)<(d.1.length:Int))/\((decide (q124_0 d x a)&& !decide (nth d.1 (x:Int).toNat=nth d.1 (a:Int).toNat))=true->(true,())=(U.vU d.1,()))/\((decide (q124_0 d x a)&& !decide (nth d.1 (x:Int).toNat=nth d.1 (a:Int).toNat))=false->jy ((a:Int)+1)/\∃(b:Nat),(((a:Int)+1=(b:Int)/\True)/\True)/\(b<=(x:Int).toNat/\∀(j:Nat),j<b->U.jk2 (nth d.1 (x:Int).toNat) (nth d.1 j)=false)/\(x:Int).toNat-b<(x:Int).toNat-a))/\(decide ((a:Int)<(x:Int))=false->jy ((x:Int)+1)/\∃(b:Nat),(((x:Int)+1=(b:Int)/\True)/\True)/\(b<=d.1.length/\U.qv d.1 b=false)/\d.1.length-b<d.1.length-x))/\(decide ((x:Int)<(d.1.length:Int))=false->(false,())=(U.vU d.1,()))
def jsf:j7:=⟨[.val tDy],[.int],false,fun d=>[(U.jq d.1).length<=1000000],fun d=>(U.w5 d.1,())⟩
def jt1:Ann:=fun r=>match r with
 |4=>some fun σ=>{X:=Nat,sl:=fun i=>[(3,.dat .int (i:Int))],ob:=fun _=>[],inv:=fun i=>i<=(U.jq (gb tDy σ 1)).length/\∀j:Nat,j<i->U.jW (U.jb (gb tDy σ 1)) (U.yJ (nth (U.jq (gb tDy σ 1)) j))=true,mu:=fun i=>(U.jq (gb tDy σ 1)).length-i}
 |_=>none
def jrN:Prop:=∀(d:DyD×Unit),(U.jq d.1).length<=1000000->((!U.jl d.1.1)=true->((30:Int),())=(U.w5 d.1,()))/\((!U.jl d.1.1)=false->(∃(x:Nat),((0=(x:Int)/\True)/\True)/\x<=(U.jq d.1).length/\∀(j:Nat),j<x->U.jW (U.jb d.1) (U.yJ (nth (U.jq d.1) j))=true)/\∀(x:Nat),(x<=(U.jq d.1).length/\∀(j:Nat),j<x->U.jW (U.jb d.1) (U.yJ (nth (U.jq d.1) j))=true)->d.1.2.2.1.length<4611686018427387904->(decide ((x:Int)<(d.1.2.2.1.length:Int))=true->0<=(x:Int)/\(x:Int)<(d.1.2.2.1.length:Int)/\U.jl d.1.1=true/\((!U.jW d.1.1 (nth d.1.2.2.1 (x:Int).toNat).1)=true->((31:Int),())=(U.w5 d.1,()))/\((!U.jW d.1.1 (nth d.1.2.2.1 (x:Int).toNat).1)=false->jy ((x:Int)+1)/\∃(a:Nat),(((x:Int)+1=(a:Int)/\True)/\True)/\(a<=(U.jq d.1).length/\∀(j:Nat),j<a->U.jW (U.jb d.1) (U.yJ (nth (U.jq d.1) j))=true)/\(U.jq d.1).length-a<(U.jq d.1).length-x))/\(decide ((x:Int)<(d.1.2.2.1.length:Int))=false->((!U.zL d.1)=true->((50:Int),())=(U.w5 d.1,()))/\((!U.zL d.1)=false->d.1.2.2.2.2.2.1.length<=1000000/\(U.vU d.1.2.2.2.2.2.1=true->((51:Int),())=(U.w5 d.1,()))/\(U.vU d.1.2.2.2.2.2.1=false->((0:Int),())=(U.w5 d.1,())))))
def jlw:j7:=⟨[.val tDy,.val .int,.val .int],[.bool],false,fun d=>[U.jgD d.1,U.kz d.1 d.2.1,U.kz d.1 d.2.2.1],fun d=>(U.jS d.1 d.2.1 d.2.2.1,())⟩
abbrev q126_0 (d:DyD×Int×Int×Unit):=(nth d.1.2.2.1 d.2.2.1.toNat)
abbrev q126_1 (d:DyD×Int×Int×Unit):=(nth d.1.2.2.1 d.2.1.toNat)
abbrev q126_2 (d:DyD×Int×Int×Unit):=((q126_0 d).2.2.1<(q126_1 d).2.2.1)
abbrev q126_3 (d:DyD×Int×Int×Unit):=(d.1.2.2.1.length:Int)
abbrev q126_4 (d:DyD×Int×Int×Unit):=(decide (q126_2 d)||decide ((q126_0 d).2.2.1=(q126_1 d).2.2.1)&&decide (d.2.2.1<d.2.1))
def jlp:Prop:=∀(d:DyD×Int×Int×Unit),U.jgD d.1->U.kz d.1 d.2.1->U.kz d.1 d.2.2.1->0<=d.2.2.1/\d.2.2.1<(q126_3 d)/\0<=d.2.1/\d.2.1<(q126_3 d)/\((!decide (q126_2 d))=true->0<=d.2.2.1)/\((!decide (q126_2 d))=true->d.2.2.1<(q126_3 d))/\((!decide (q126_2 d))=true->0<=d.2.1)/\((!decide (q126_2 d))=true->d.2.1<(q126_3 d))/\((q126_4 d)=true->0<=d.2.2.1/\d.2.2.1<(q126_3 d)/\0<=d.2.1/\d.2.1<(q126_3 d)/\jy ((q126_0 d).2.2.2.1+d.1.2.2.2.1)/\(0:Int)<=(q126_0 d).2.1/\(q126_0 d).2.1<(d.1.2.1.length:Int)/\(0:Int)<=(q126_1 d).2.1/\(q126_1 d).2.1<(↑(nth d.1.2.1 (q126_0 d).2.1.toNat).length:Int)/\jy ((q126_0 d).2.2.2.1+d.1.2.2.2.1+(nth (nth d.1.2.1 (q126_0 d).2.1.toNat) (q126_1 d).2.1.toNat).2.1)/\(decide ((q126_0 d).2.2.2.1+d.1.2.2.2.1+(nth (nth d.1.2.1 (q126_0 d).2.1.toNat) (q126_1 d).2.1.toNat).2.1<=(q126_1 d).2.2.1),())=(U.jS d.1 d.2.1 d.2.2.1,()))/\((q126_4 d)=false->0<=d.2.1/\d.2.1<(q126_3 d)/\0<=d.2.2.1/\d.2.2.1<(q126_3 d)/\jy ((q126_1 d).2.2.2.1+d.1.2.2.2.1)/\(0:Int)<=(q126_1 d).2.1/\(q126_1 d).2.1<(d.1.2.1.length:Int)/\(0:Int)<=(q126_0 d).2.1/\(q126_0 d).2.1<(↑(nth d.1.2.1 (q126_1 d).2.1.toNat).length:Int)/\jy ((q126_1 d).2.2.2.1+d.1.2.2.2.1+(nth (nth d.1.2.1 (q126_1 d).2.1.toNat) (q126_0 d).2.1.toNat).2.1)/\(decide ((q126_1 d).2.2.2.1+d.1.2.2.2.1+(nth (nth d.1.2.1 (q126_1 d).2.1.toNat) (q126_0 d).2.1.toNat).2.1<=(q126_0 d).2.2.1),())=(U.jS d.1 d.2.1 d.2.2.1,()))
def jCK:Ann:=fun r=>match r with
 |3=>some fun σ=>{X:=Nat,sl:=fun i=>[(6,.dat .int (i:Int)),(5,.own 5 .int)],ob:=fun i=>[(5,some (.row 3 .int false .yes (U.jdt (gd (.slice .int) σ 0) (gd .int σ 1) i)))],inv:=fun i=>i<=(gd (.slice .int) σ 0).length,mu:=fun i=>(gd (.slice .int) σ 0).length-i}
 |_=>none
def jsg:j7:=⟨[.val tDy,.val .int,.val (.slice .int)],[.bool],false,fun d=>[U.jgD d.1,U.jn0 d.1 d.2.1,U.jfQ d.1 d.2.2.1],fun d=>(U.ke d.1 d.2.1 d.2.2.1,())⟩
def jt2:Ann:=fun r=>match r with
 |3=>some fun σ=>{X:=Nat,sl:=fun i=>[(8,.dat .int (i:Int)),(7,.dat .int (U.kw (gb tDy σ 3) (gd (.slice .int) σ 2) i))],ob:=fun _=>[],inv:=fun i=>i<=(gd (.slice .int) σ 2).length/\(∀j:Nat,j<i->U.zw (U.jb (gb tDy σ 3)) (U.yJ (U.bk (gb tDy σ 3) (nth (gd (.slice .int) σ 2) j))) (gd .int σ 1)=true)/\∀j:Nat,j<i->∀m:Nat,m<j->U.jS (gb tDy σ 3) (nth (gd (.slice .int) σ 2) j) (nth (gd (.slice .int) σ 2) m)=true,mu:=fun i=>(gd (.slice .int) σ 2).length-i}
 |10=>some fun σ=>{X:=Nat,sl:=fun i=>[(10,.dat .int (i:Int))],ob:=fun _=>[],inv:=fun i=>i<=(gd .int σ 8).toNat/\∀m:Nat,m<i->U.jS (gb tDy σ 3) (nth (gd (.slice .int) σ 2) (gd .int σ 8).toNat) (nth (gd (.slice .int) σ 2) m)=true,mu:=fun i=>(gd .int σ 8).toNat-i}
 |_=>none
abbrev q127_1 (d:DyD×Int×List Int×Unit)(x:Nat):=(nth d.2.2.1 (x:Int).toNat)
abbrev q127_0 (d:DyD×Int×List Int×Unit)(x:Nat):=(nth d.1.2.2.1 (q127_1 d x).toNat)
def jrO:Prop:=∀(d:DyD×Int×List Int×Unit),U.jgD d.1->U.jn0 d.1 d.2.1->U.jfQ d.1 d.2.2.1->(∃(x:Nat),((0=(x:Int)/\0=U.kw d.1 d.2.2.1 x/\True)/\True)/\x<=d.2.2.1.length/\(∀(j:Nat),j<x->U.zw (U.jb d.1) (U.yJ (U.bk d.1 (nth d.2.2.1 j))) d.2.1=true)/\∀(j:Nat),j<x->∀(m:Nat),m<j->U.jS d.1 (nth d.2.2.1 j) (nth d.2.2.1 m)=true)/\∀(x:Nat),(x<=d.2.2.1.length/\(∀(j:Nat),j<x->U.zw (U.jb d.1) (U.yJ (U.bk d.1 (nth d.2.2.1 j))) d.2.1=true)/\∀(j:Nat),j<x->∀(m:Nat),m<j->U.jS d.1 (nth d.2.2.1 j) (nth d.2.2.1 m)=true)->d.2.2.1.length<4611686018427387904->(decide ((x:Int)<(d.2.2.1.length:Int))=true->0<=(x:Int)/\(x:Int)<(d.2.2.1.length:Int)/\0<=nth d.2.2.1 (x:Int).toNat/\nth d.2.2.1 (x:Int).toNat<(d.1.2.2.1.length:Int)/\(0<=d.2.1/\d.2.1<(↑(U.je d.1.1).length:Int))/\U.jW d.1.1 (q127_0 d x).1=true/\((!U.zw d.1.1 (q127_0 d x).1 d.2.1)=true->(false,())=(U.ke d.1 d.2.1 d.2.2.1,()))/\((!U.zw d.1.1 (q127_0 d x).1 d.2.1)=false->jy ((q127_0 d x).2.2.2.1-(q127_0 d x).2.2.1)/\jy (U.kw d.1 d.2.2.1 x+((q127_0 d x).2.2.2.1-(q127_0 d x).2.2.1))/\(∃(a:Nat),((0=(a:Int)/\True)/\True)/\a<=(x:Int).toNat/\∀(m:Nat),m<a->U.jS d.1 (q127_1 d x) (nth d.2.2.1 m)=true)/\∀(a:Nat),(a<=(x:Int).toNat/\∀(m:Nat),m<a->U.jS d.1 (q127_1 d x) (nth d.2.2.1 m)=true)->(decide ((a:Int)<(x:Int))=true->0<=(x:Int)/\(x:Int)<(d.2.2.1.length:Int)/\0<=(a:Int)/\(a:Int)<(d.2.2.1.length:Int)/\U.jgD d.1/\U.kz d.1 (q127_1 d x)/\U.kz d.1 (nth d.2.2.1 (a:Int).toNat)/\((!U.jS d.1 (q127_1 d x) (nth d.2.2.1 (a:Int).toNat))=true->(false,())=(U.ke d.1 d.2.1 d.2.2.1,()))/\((!U.jS d.1 (q127_1 d x) (nth d.2.2.1 (a:Int).toNat))=false->jy ((a:Int)+1)/\∃(b:Nat),(((a:Int)+1=(b:Int)/\True)/\True)/\(b<=(x:Int).toNat/\∀(m:Nat),m<b->U.jS d.1 (q127_1 d x) (nth d.2.2.1 m)=true)/\(x:Int).toNat-b<(x:Int).toNat-a))/\(decide ((a:Int)<(x:Int))=false->jy ((x:Int)+1)/\∃(b:Nat),(((x:Int)+1=(b:Int)/\U.kw d.1 d.2.2.1 x+((q127_0 d x).2.2.2.1-(q127_0 d x).2.2.1)=U.kw d.1 d.2.2.1 b/\True)/\True)/\(b<=d.2.2.1.length/\(∀(j:Nat),j<b->U.zw (U.jb d.1) (U.yJ (U.bk d.1 (nth d.2.2.1 j))) d.2.1=true)/\∀(j:Nat),j<b->∀(m:Nat),m<j->U.jS d.1 (nth d.2.2.1 j) (nth d.2.2.1 m)=true)/\d.2.2.1.length-b<d.2.2.1.length-x)))/\(decide ((x:Int)<(d.2.2.1.length:Int))=false->(decide (U.kw d.1 d.2.2.1 x<=d.1.2.2.2.2.1),())=(U.ke d.1 d.2.1 d.2.2.1,()))
end Go.X
namespace Go.X
open Go.Proofs
theorem jtq:jo9:=by
 rintro⟨n,a,b,⟨⟩⟩;rfl
theorem jcm:zu PR 40 jpx:=jZ jtq Tryz.func40 kcN koN
theorem jlS:jjf:=by
 rintro⟨d,n,⟨⟩⟩ a;have a:(U.jq d).length<4611686018427387904:=a;exact⟨by show jy (((U.jq d).length:Int)-1);exact L.in64 (by omega) (by omega),rfl⟩
theorem jcn:zu PR 12 jju:=jZ jlS Tryz.func12 (kcC jcm kcN) koN
theorem jon:jlq:=by
 rintro⟨d,n,⟨⟩⟩ a;have a:(U.je (U.jb d)).length<4611686018427387904:=a;exact⟨by show jy (((U.je (U.jb d)).length:Int)-1);exact L.in64 (by omega) (by omega),rfl⟩
theorem jdF:zu PR 26 jlx:=jZ jon Tryz.func26 (kcC jcm kcN) koN
theorem jrb (l:List ShD) (n:Nat):U.qv l (n+1)=(U.qv l n||U.jiW l n):=by
 unfold U.qv;rw[jHq,List.any_append];simp
theorem joH {l:List ShD} {i:Nat} (h:∀j:Nat,j<i->U.jk2 (nth l i) (nth l j)=false) (hi:i<=l.length):U.jiW l i=false:=by
 unfold U.jiW;rw[jHO];intro s a;rw[jHK] at a;obtain⟨j,b,rfl⟩:=a;have:=h j (by omega);rw[L.nth_lt (l:=l) (i:=j) (by omega)] at this;simpa using this
theorem jw6 {l:List ShD} {i j:Nat} (hi:i<l.length) (a:j<i) (h:U.jk2 (nth l i) (nth l j)=true):U.vU l=true:=by
 unfold U.vU U.qv U.jiW;rw[jHF];refine⟨i,jHj.2 hi,?_⟩;rw[jHF];refine⟨nth l j,?_,h⟩;rw[jHK];exact⟨j,by omega,(L.nth_lt (by omega)).symm⟩
theorem jwA:jrK:=by
 unfold jrK q124_0;rintro⟨l,⟨⟩⟩ k;have k:l.length<=1000000:=k;refine⟨⟨0,⟨⟨rfl,trivial⟩,trivial⟩,jHd _,rfl⟩,fun x m _=>⟨fun h=> ?_,fun h=> ?_⟩⟩
 .have h:(x:Int)<(l.length:Int):=of_decide_eq_true h;obtain⟨_,a⟩:x<=l.length/\U.qv l x=false:=m;refine⟨⟨0,⟨⟨rfl,trivial⟩,trivial⟩,jHd _,fun j o=>by omega⟩,fun y n=>⟨fun c=> ?_,fun c=> ?_⟩⟩
  .have c:(y:Int)<(x:Int):=of_decide_eq_true c;obtain⟨_,b⟩:y<=x/\∀j:Nat,j<y->U.jk2 (nth l x) (nth l j)=false:=n;have f:(y:Int)<(l.length:Int):=(by omega);refine⟨by omega,h,by omega,f,fun _=>by omega,fun _=>h,fun _=>by omega,fun _=>f,fun d=> ?_,fun d=>⟨L.in64 (by omega) (by omega),y+1,⟨⟨by simp,trivial⟩,trivial⟩,⟨by show y+1<=x;omega,fun j o=> ?_⟩,by show x-(y+1)<x-y;omega⟩⟩
   .have d:U.jk2 (nth l x) (nth l y)=true:=d;have:=jw6 (by omega) (by omega) d;show(true,())=(U.vU l,());rw[this]
   .by_cases e:j=y
    .subst e;exact d
    .exact b j (by omega)
  .have c:¬(y:Int)<(x:Int):=of_decide_eq_false c;obtain⟨q,b⟩:y<=x/\∀j:Nat,j<y->U.jk2 (nth l x) (nth l j)=false:=n;have i:y=x:=(by omega);subst i;refine⟨L.in64 (by omega) (by omega),y+1,⟨⟨by simp,trivial⟩,trivial⟩,⟨by show y+1<=l.length;omega,?_⟩,by show l.length-(y+1)<l.length-y;omega⟩;show U.qv l (y+1)=false;rw[jrb,a,joH b (by omega)];rfl
 .have h:¬(x:Int)<(l.length:Int):=of_decide_eq_false h;obtain⟨p,a⟩:x<=l.length/\U.qv l x=false:=m;have g:x=l.length:=(by omega);subst g;show(false,())=(U.vU l,());unfold U.vU;rw[a]
theorem jsT:zu PR 62 jsd:=wi jtZ jwA Tryz.func62 kcN koN
theorem jwD:jrN:=by
 rintro⟨d,⟨⟩⟩ k;have k:(U.jq d).length<=1000000:=k;refine⟨fun h=> ?_,fun h=> ?_⟩
 .have h:U.jl (U.jb d)=false:=(by simpa using(show(!U.jl (U.jb d))=true from h));show((30:Int),())=(U.w5 d,());unfold U.w5;rw[h];rfl
 have g:U.jl (U.jb d)=true:=(by simpa using(show(!U.jl (U.jb d))=false from h));refine⟨⟨0,⟨⟨rfl,trivial⟩,trivial⟩,jHd _,fun j f=>by omega⟩,fun x m _=>⟨fun h=> ?_,fun h=> ?_⟩⟩
 .have h:(x:Int)<((U.jq d).length:Int):=of_decide_eq_true h;refine⟨by omega,h,g,fun a=> ?_,fun a=>⟨L.in64 (by omega) (by omega),x+1,⟨⟨by simp,trivial⟩,trivial⟩,⟨by show x+1<=(U.jq d).length;omega,fun j f=> ?_⟩,by show(U.jq d).length-(x+1)<(U.jq d).length-x;omega⟩⟩
  .have a:U.jW (U.jb d) (U.yJ (nth (U.jq d) x))=false:=(by simpa using(show(!U.jW (U.jb d) (U.yJ (nth (U.jq d) x)))=true from a));have f:U.jwq d=false:=by
    unfold U.jwq;exact jId.2 ⟨_,L.mem_nth (l:=U.jq d) (i:=x) (by omega),by rw[a];simp⟩
   show((31:Int),())=(U.w5 d,());unfold U.w5;rw[g,f];rfl
  .have a:U.jW (U.jb d) (U.yJ (nth (U.jq d) x))=true:=(by simpa using(show(!U.jW (U.jb d) (U.yJ (nth (U.jq d) x)))=false from a));by_cases e:j=x
   .subst e;exact a
   .exact m.2 j (by omega)
 .have h:¬(x:Int)<((U.jq d).length:Int):=of_decide_eq_false h;have f:U.jwq d=true:=jbl (p:=fun b=>U.jW (U.jb d) (U.yJ b)) (by omega) m.2;refine⟨fun a=> ?_,fun a=> ?_⟩
  .have a:U.zL d=false:=(by simpa using(show(!U.zL d)=true from a));show((50:Int),())=(U.w5 d,());unfold U.w5;rw[g,f,a];rfl
  .have a:U.zL d=true:=(by simpa using(show(!U.zL d)=false from a));have n:(U.zc d).length<=30:=(za a).2.2.2.2.1;refine⟨by show(U.zc d).length<=1000000;omega,fun c=> ?_,fun c=> ?_⟩
   .have c:U.vU (U.zc d)=true:=c;show((51:Int),())=(U.w5 d,());unfold U.w5;rw[g,f,a,c];rfl
   .have c:U.vU (U.zc d)=false:=c;show((0:Int),())=(U.w5 d,());unfold U.w5;rw[g,f,a,c];rfl
theorem jyP (t:List Int) (p:Int) (n:Nat):U.jdt t p (n+1)=U.jdt t p n++(if U.jH (nth t n) p=true then[(n:Int)] else[]):=by
 unfold U.jdt;rw[L.range_filter_succ,jHR];by_cases h:U.jH (nth t n) p=true
 .rw[if_pos h,if_pos h];rfl
 .rw[if_neg h,if_neg h];rfl
theorem juE (t:List Int) (p:Int) (n:Nat):(U.jdt t p n).length<=n:=by
 unfold U.jdt;rw[jH6];exact jHi (jH4 _ _) (by simp)
end Go.X
namespace Go.X
open Go.Proofs
theorem jk6 {d:DyD} {p:Int} {l:List Int}:U.ke d p l=true↔(∀j:Nat,j<l.length->U.zw (U.jb d) (U.yJ (U.bk d (nth l j))) p=true)/\(∀j:Nat,j<l.length->∀m:Nat,m<j->U.jS d (nth l j) (nth l m)=true)/\U.jn8 d l<=U.jxv d:=by
 unfold U.ke U.jC6;rw[jG3,jG3,jHE,jHE,decide_eq_true_eq];refine and_congr ?_ (and_congr ?_ Iff.rfl)
 .constructor
  .intro h j a;exact h _ (L.mem_nth a)
  .intro h b c;obtain⟨i,hi,rfl⟩:=L.mem_iff.1 c;exact h i hi
 .constructor
  .intro h j a m e;have:=h j (jHj.2 a);rw[jHE] at this;exact this _ (by rw[jHK];exact⟨m,by omega,(L.nth_lt (by omega)).symm⟩)
  .intro h j a;have a:=jHj.1 a;rw[jHE];intro b c;rw[jHK] at c;obtain⟨m,e,rfl⟩:=c;have:=h j a m (by omega);rw[L.nth_lt (l:=l) (i:=m) (by omega)] at this;exact this
theorem jk7 {d:DyD} {p:Int} {l:List Int} (h:¬U.ke d p l=true):(false,())=(U.ke d p l,()):=by
 cases a:U.ke d p l with
 |false=>rfl
 |true=>exact absurd a h
theorem jwE:jrO:=by
 unfold jrO q127_0 q127_1;rintro⟨d,p,l,⟨⟩⟩ f t C;have f:U.jgD d:=f;have t:U.jn0 d p:=t;obtain⟨J,A⟩:U.jfQ d l:=C;refine⟨⟨0,⟨⟨rfl,rfl,trivial⟩,trivial⟩,jHd _,fun j s=>by omega,fun j s=>by omega⟩,fun x q _=>⟨fun h=> ?_,fun h=> ?_⟩⟩
 .have h:(x:Int)<(l.length:Int):=of_decide_eq_true h;have a:x<l.length:=(by omega);have n:=A _ (L.mem_nth a);have B:=vY f.2.2 n;have D:=js4 f.2.2 A x (by omega);have E:=jey (d:=d) a;have o:U.jW (U.jb d) (U.yJ (U.bk d (nth l x)))=true:=by
   have:=f.2.1;unfold U.jwq at this;exact jHE.1 this _ (jF0 n)
  have H:jy (U.jrh (U.bk d (nth l x))-U.jbg (U.bk d (nth l x))):=L.in64 (by omega) (by omega);have I:jy (U.kw d l x+(U.jrh (U.bk d (nth l x))-U.jbg (U.bk d (nth l x)))):=L.in64 (by omega) (by omega);refine⟨by omega,h,n.1,n.2,t,o,fun b=> ?_,fun b=>⟨H,I,⟨0,⟨⟨rfl,trivial⟩,trivial⟩,jHd _,fun m g=>by omega⟩,fun y u=>⟨fun k=> ?_,fun k=> ?_⟩⟩⟩
  .have b:U.zw (U.jb d) (U.yJ (U.bk d (nth l x))) p=false:=(by simpa using(show(!U.zw (U.jb d) (U.yJ (U.bk d (nth l x))) p)=true from b));exact jk7 (d:=d) (p:=p) (l:=l) (fun r=>by
    have:=(jk6.1 r).1 x a;rw[b] at this;cases this)
  .have k:(y:Int)<(x:Int):=of_decide_eq_true k;have v:(y:Int)<(l.length:Int):=(by omega);refine⟨by omega,h,by omega,v,f,n,A _ (L.mem_nth (l:=l) (i:=y) (by omega)),fun c=> ?_,fun c=>⟨L.in64 (by omega) (by omega),y+1,⟨⟨by simp,trivial⟩,trivial⟩,⟨by show y+1<=x;omega,fun m g=> ?_⟩,by show x-(y+1)<x-y;omega⟩⟩
   .have c:U.jS d (nth l x) (nth l y)=false:=(by simpa using(show(!U.jS d (nth l x) (nth l y))=true from c));exact jk7 (d:=d) (p:=p) (l:=l) (fun r=>by
     have:=(jk6.1 r).2.1 x a y (by omega);rw[c] at this;cases this)
   .have c:U.jS d (nth l x) (nth l y)=true:=(by simpa using(show(!U.jS d (nth l x) (nth l y))=false from c));by_cases e:m=y
    .subst e;exact c
    .exact u.2 m (by omega)
  .have k:¬(y:Int)<(x:Int):=of_decide_eq_false k;have G:y<=x:=u.1;have w:y=x:=(by omega);subst w;have b:U.zw (U.jb d) (U.yJ (U.bk d (nth l y))) p=true:=(by simpa using(show(!U.zw (U.jb d) (U.yJ (U.bk d (nth l y))) p)=false from b));refine⟨L.in64 (by omega) (by omega),y+1,⟨⟨by simp,E.symm,trivial⟩,trivial⟩,⟨by show y+1<=l.length;omega,fun j s=> ?_,fun j s m g=> ?_⟩,by show l.length-(y+1)<l.length-y;omega⟩
   .by_cases e:j=y
    .subst e;exact b
    .exact q.2.1 j (by omega)
   .by_cases e:j=y
    .subst e;exact u.2 m g
    .exact q.2.2 j (by omega) m g
 .have h:¬(x:Int)<(l.length:Int):=of_decide_eq_false h;have F:x<=l.length:=q.1;have a:x=l.length:=(by omega);subst a;have g:U.kw d l l.length=U.jn8 d l:=by
   unfold U.kw;rw[jHU (jG5 _)]
  show(decide (U.kw d l l.length<=U.jxv d),())=(U.ke d p l,());rw[g];refine congrArg (fun z=>(z,())) ?_;rw[jHs,decide_eq_true_eq,jk6];exact⟨fun h=>⟨q.2.1,q.2.2,h⟩,fun h=>h.2.2⟩
end Go.X
namespace Go.X
open Go.Proofs
theorem jFd {d:DyD} {a b:Int} (h:U.qm d b a=true):U.jS d a b=decide (U.jrh (U.bk d b)+U.jej d+U.jtz d b a<=U.jbg (U.bk d a)):=by
 unfold U.jS;rw[if_pos h];refine decide_eq_decide.2 ?_;unfold U.vb;omega
theorem jDC {d:DyD} {a b:Int} (h:U.qm d b a=false):U.jS d a b=decide (U.jrh (U.bk d a)+U.jej d+U.jtz d a b<=U.jbg (U.bk d b)):=by
 unfold U.jS;rw[h,if_neg (by simp)];refine decide_eq_decide.2 ?_;unfold U.vb;omega
theorem jvi (d:DyD) (a b:Int):U.qm d b a=(decide (U.jbg (U.bk d b)<U.jbg (U.bk d a))||decide (U.jbg (U.bk d b)=U.jbg (U.bk d a))&&decide (b<a)):=by
 unfold U.qm;rw[jHs];simp only[jHX,jG3,decide_eq_true_eq]
theorem jom:jlp:=by
 unfold jlp q126_4 q126_3 q126_2 q126_1 q126_0;rintro⟨d,a,b,⟨⟩⟩ c e f;have c:U.jgD d:=c;have e:U.kz d a:=e;have f:U.kz d b:=f;have m:=vY c.2.2 e;have n:=vY c.2.2 f;have p:=jkO c.2.2 e f;have q:=jkO c.2.2 f e;have o:=(za c.2.2).2.2.1;have r:=(jfA c.2.2 (i:=(U.jxd (U.bk d a)).toNat) (by omega)).1;have s:=(jfA c.2.2 (i:=(U.jxd (U.bk d b)).toNat) (by omega)).1;have g:=e.1;have j:=e.2;have k:=f.1;have l:=f.2;refine⟨k,l,g,j,fun _=>k,fun _=>l,fun _=>g,fun _=>j,fun h=>⟨k,l,g,j,?_,n.1.1,n.1.2,m.1.1,?_,?_,?_⟩,fun h=>⟨g,j,k,l,?_,m.1.1,m.1.2,n.1.1,?_,?_,?_⟩⟩
 .show jy (U.jrh (U.bk d b)+U.jej d);exact L.in64 (by omega) (by omega)
 .show U.jxd (U.bk d a)<((nth (U.jL d) (U.jxd (U.bk d b)).toNat).length:Int);omega
 .show jy (U.jrh (U.bk d b)+U.jej d+U.jtz d b a);exact L.in64 (by omega) (by omega)
 .have h:U.qm d b a=true:=(by rw[jvi];exact h);exact congrArg (fun z=>(z,())) (jFd h).symm
 .show jy (U.jrh (U.bk d a)+U.jej d);exact L.in64 (by omega) (by omega)
 .show U.jxd (U.bk d b)<((nth (U.jL d) (U.jxd (U.bk d a)).toNat).length:Int);omega
 .show jy (U.jrh (U.bk d a)+U.jej d+U.jtz d a b);exact L.in64 (by omega) (by omega)
 .have h:U.qm d b a=false:=(by rw[jvi];exact h);exact congrArg (fun z=>(z,())) (jDC h).symm
theorem jlI:zu PR 51 jlw:=jZ jom Tryz.func51 kcN koN
theorem jsW:zu PR 25 jsg:=wi jt2 jwE Tryz.func25 (kcC jnX (kcC jlI kcN)) koN
end Go.X
namespace Go.X
open Go.Proofs
def jFW (d:DyD):Bool:=decide (4<((U.jq d).length:Int))|| !U.ja ((U.jL d).length:Int) 1 5|| !U.ja (U.jej d) 0 300|| !U.ja (U.jxv d) 0 1440||decide (30<((U.zc d).length:Int))
def spH (s:SpD):Bool:=decide (U.lo s<0)||decide (U.hi s<U.lo s)||decide (300<U.hi s)
def bkH (n:Nat) (b:BkD):Bool:= !U.ja (U.jxd b) 0 ((n:Int)-1)||decide (U.jbg b<0)||decide (U.jrh b<=U.jbg b)||decide (1440<U.jrh b)
def shH (d:DyD) (s:ShD):Bool:= !U.ja (U.wo s) 0 99|| !U.ja (U.jjq s) 0 9999|| !U.ja (U.jyd s) 1 2|| !U.jh d (U.jdq s)|| !U.yA d (U.qE s)
theorem jAm (d:DyD):U.zL d=(!jFW d&&((U.jL d).all (U.vR (U.jL d).length)&&((U.jq d).all (U.jco (U.jL d).length)&&(U.zc d).all (U.jaf (U.jq d).length (U.je (U.jb d)).length)))):=by
 unfold U.zL jFW;congr 1;rw[jHs];simp only[U.ja,jHB,jHt,decide_eq_false_iff_not,jHT,jG3,decide_eq_true_eq];omega
theorem jC0 (s:SpD):U.jfP s= !spH s:=by
 unfold U.jfP spH;rw[jHs];simp only[jHB,jHt,decide_eq_false_iff_not,decide_eq_true_eq];omega
theorem jDq (n:Nat) (b:BkD):U.jco n b= !bkH n b:=by
 unfold U.jco bkH;rw[jHs];simp only[U.ja,jHB,jHt,decide_eq_false_iff_not,jHT,jG3,decide_eq_true_eq];omega
theorem jC2 (d:DyD) (s:ShD):U.jaf (U.jq d).length (U.je (U.jb d)).length s= !shH d s:=by
 unfold U.jaf shH U.jh U.yA;rw[jHs];simp only[U.ja,jHB,jHt,decide_eq_false_iff_not,jHT,jG3,decide_eq_true_eq];omega
theorem jq3 {d:DyD} (h:jFW d=true\/(U.jL d).all (U.vR (U.jL d).length)=false\/(U.jq d).all (U.jco (U.jL d).length)=false\/(U.zc d).all (U.jaf (U.jq d).length (U.je (U.jb d)).length)=false):(false,())=(U.zL d,()):=by
 have:U.zL d=false:=by
  rw[jAm];rcases h with h|h|h|h<;>rw[h]<;>simp
 rw[this]
theorem jrl {α:Type} [Inhabited α] {l:List α} {p:α->Bool} {x:Nat} (a:x<l.length) (h:p (nth l x)=false):l.all p=false:=jId.2 ⟨_,L.mem_nth a,by rw[h];simp⟩
theorem jwC:jrM:=by
 unfold jrM q123_13 q123_3 q123_12 q123_11 q123_1 q123_10 q123_9 q123_8 q123_0 q123_7 q123_6 q123_5 q123_2 q123_4;rintro⟨d,⟨⟩⟩ _ _ _;refine⟨fun h=>jq3 (d:=d) (.inl h),fun k=> ?_⟩;have k:jFW d=false:=k;have l:=k;unfold jFW at l;simp only[U.ja,jHt,decide_eq_false_iff_not,jHT,jG3,decide_eq_true_eq] at l;refine⟨⟨0,⟨⟨rfl,trivial⟩,trivial⟩,jHd _,fun j g=>by omega⟩,fun x c _=>⟨fun h=> ?_,fun h=> ?_⟩⟩
 .have h:(x:Int)<((U.jL d).length:Int):=of_decide_eq_true h;have b:x<(U.jL d).length:=(by omega);refine⟨by omega,h,fun a=> ?_,fun a=>⟨⟨0,⟨⟨rfl,trivial⟩,trivial⟩,jHd _,fun j g=>by omega⟩,fun y n=>⟨by omega,h,fun m=>⟨fun i=> ?_,fun i=> ?_⟩⟩⟩⟩
  .have a:¬((nth (U.jL d) x).length:Int)=((U.jL d).length:Int):=of_decide_eq_true a;refine jq3 (d:=d) (.inr (.inl (jrl b ?_)));unfold U.vR;rw[decide_eq_false (by omega)];rfl
  .have m:(nth (U.jL d) x).length<4611686018427387904:=m;have i:(y:Int)<((nth (U.jL d) x).length:Int):=of_decide_eq_true i;refine⟨by omega,h,by omega,i,fun f=> ?_,fun f=>⟨L.in64 (by omega) (by omega),y+1,⟨⟨by simp,trivial⟩,trivial⟩,⟨by show y+1<=(nth (U.jL d) x).length;omega,fun j g=> ?_⟩,by show(nth (U.jL d) x).length-(y+1)<(nth (U.jL d) x).length-y;omega⟩⟩
   .have f:spH (nth (nth (U.jL d) x) y)=true:=f;refine jq3 (d:=d) (.inr (.inl (jrl b ?_)));have:(nth (U.jL d) x).all U.jfP=false:=jrl (x:=y) (by omega) (by rw[jC0,f];rfl);unfold U.vR;rw[this,Bool.and_false]
   .have f:spH (nth (nth (U.jL d) x) y)=false:=f;by_cases e:j=y
    .subst e;show U.jfP (nth (nth (U.jL d) x) j)=true;rw[jC0,f];rfl
    .exact n.2 j (by omega)
  .have i:¬(y:Int)<((nth (U.jL d) x).length:Int):=of_decide_eq_false i;have a:((nth (U.jL d) x).length:Int)=((U.jL d).length:Int):=Classical.not_not.1 (of_decide_eq_false a);have o:(nth (U.jL d) x).all U.jfP=true:=jbl (by omega) n.2;refine⟨L.in64 (by omega) (by omega),x+1,⟨⟨by simp,trivial⟩,trivial⟩,⟨by show x+1<=(U.jL d).length;omega,fun j g=> ?_⟩,by show(U.jL d).length-(x+1)<(U.jL d).length-x;omega⟩;by_cases e:j=x
   .subst e;show U.vR (U.jL d).length (nth (U.jL d) j)=true;unfold U.vR;rw[o,decide_eq_true (by omega)];rfl
   .exact c.2 j (by omega)
 have h:¬(x:Int)<((U.jL d).length:Int):=of_decide_eq_false h;have r:(U.jL d).all (U.vR (U.jL d).length)=true:=jbl (by omega) c.2;clear c h;refine⟨⟨0,⟨⟨rfl,trivial⟩,trivial⟩,jHd _,fun j g=>by omega⟩,fun x c _=>⟨fun h=> ?_,fun h=> ?_⟩⟩
 .have h:(x:Int)<((U.jq d).length:Int):=of_decide_eq_true h;have b:x<(U.jq d).length:=(by omega);refine⟨by omega,h,fun _=>⟨by show jy (((U.jL d).length:Int)-1);exact L.in64 (by omega) (by omega),fun a=> ?_,fun a=>⟨L.in64 (by omega) (by omega),x+1,⟨⟨by simp,trivial⟩,trivial⟩,⟨by show x+1<=(U.jq d).length;omega,fun j g=> ?_⟩,by show(U.jq d).length-(x+1)<(U.jq d).length-x;omega⟩⟩⟩
  .have a:bkH (U.jL d).length (nth (U.jq d) x)=true:=a;exact jq3 (d:=d) (.inr (.inr (.inl (jrl b (by rw[jDq,a];rfl)))))
  .have a:bkH (U.jL d).length (nth (U.jq d) x)=false:=a;by_cases e:j=x
   .subst e;show U.jco (U.jL d).length (nth (U.jq d) j)=true;rw[jDq,a];rfl
   .exact c.2 j (by omega)
 have h:¬(x:Int)<((U.jq d).length:Int):=of_decide_eq_false h;have p:(U.jq d).all (U.jco (U.jL d).length)=true:=jbl (by omega) c.2;clear c h;refine⟨⟨0,⟨⟨rfl,trivial⟩,trivial⟩,jHd _,fun j g=>by omega⟩,fun x c _=>⟨fun h=> ?_,fun h=> ?_⟩⟩
 .have h:(x:Int)<((U.zc d).length:Int):=of_decide_eq_true h;have b:x<(U.zc d).length:=(by omega);refine⟨by omega,h,fun a=> ?_,fun a=>⟨L.in64 (by omega) (by omega),x+1,⟨⟨by simp,trivial⟩,trivial⟩,⟨by show x+1<=(U.zc d).length;omega,fun j g=> ?_⟩,by show(U.zc d).length-(x+1)<(U.zc d).length-x;omega⟩⟩
  .have a:shH d (nth (U.zc d) x)=true:=a;exact jq3 (d:=d) (.inr (.inr (.inr (jrl b (by rw[jC2,a];rfl)))))
  .have a:shH d (nth (U.zc d) x)=false:=a;by_cases e:j=x
   .subst e;show U.jaf (U.jq d).length (U.je (U.jb d)).length (nth (U.zc d) j)=true;rw[jC2,a];rfl
   .exact c.2 j (by omega)
 .have h:¬(x:Int)<((U.zc d).length:Int):=of_decide_eq_false h;have q:(U.zc d).all (U.jaf (U.jq d).length (U.je (U.jb d)).length)=true:=jbl (by omega) c.2;show(true,())=(U.zL d,());rw[jAm,k,r,p,q];rfl
theorem jsV:zu PR 61 jse:=wi jt0 jwC Tryz.func61 (kcC jcm (kcC jcn (kcC jdF kcN))) koN
theorem jj1:zu PR 32 jsf:=wi jt1 jwD Tryz.func32 (kcC jhG (kcC jsY (kcC jsV (kcC jsT kcN)))) koN
end Go.X
namespace Go.X
open Go.Proofs
namespace U
def jzo (l:List ShD) (i n:Nat):Bool:=decide (jyd (nth l i)=1)&& !((l.take n).any (fun t=>decide (jdq t=jdq (nth l i))&&decide (qE t=qE (nth l i))&&wJ t (nth l i)))
def jCV (l:List ShD) (n:Nat):List ShD:=((List.range n).filter (fun i=>jzo l i l.length)).map (nth l)
def jdI (l:List ShD) (n:Nat):Nat:=(List.range n).foldl (fun f i=>if wJ (nth l f) (nth l i)=true then i else f) 0
def qd (l:List ShD):Nat->List ShD×List ShD
 |0=>([],l)
 |n+1=>((qd l n).1++[nth (qd l n).2 (jdI (qd l n).2 (qd l n).2.length)],(qd l n).2.take (jdI (qd l n).2 (qd l n).2.length)++(qd l n).2.drop (jdI (qd l n).2 (qd l n).2.length+1))
def jfa (d:DyD):List ShD:=jCV (jiC (zc d)) (jiC (zc d)).length
def jrs (d:DyD):List ShD:=(qd (jfa d) (jfa d).length).1
def jpk (d:DyD) (n:Nat):List Int×List Int:=((jrs d).take n).foldl (jcS d) (List.replicate (jq d).length 0,[])
def kf (d:DyD):List Int×List Int:=jpk d (jrs d).length
def jd8 (d:DyD):List Int:=if w5 d=0 then(kf d).1 else[]
end U
end Go.X
namespace Go.X
open Go.Proofs
end Go.X
namespace Go.X
theorem jmx (l:List ShD) (n:Nat):U.jdI l (n+1)=if U.wJ (nth l (U.jdI l n)) (nth l n)=true then n else U.jdI l n:=by
 unfold U.jdI;rw[jHq,jHk];rfl
theorem jiM (l:List ShD):∀n,n<=l.length->0<l.length->U.jdI l n<l.length
 |0,_,h=>h
 |n+1,a,h=>by
  have b:=jiM l n (by omega) h
  rw[jmx]
  split<;>omega
theorem jiI (l:List ShD):∀n,n<=l.length->(U.qd l n).1.length=n/\(U.qd l n).2.length=l.length-n
 |0,_=>⟨rfl,rfl⟩
 |n+1,d=>by
  obtain⟨a,b⟩:=jiI l n (by omega)
  have c:=jiM (U.qd l n).2 _ (jG5 _) (by omega)
  refine⟨?_,?_⟩
  .show((U.qd l n).1++[_]).length=_
   rw[jHo,a];rfl
  .show((U.qd l n).2.take _++(U.qd l n).2.drop _).length=_
   rw[jHo,jHC,jIo]
   omega
theorem jCs {α:Type} [Inhabited α] {l:List α} {m:Nat} (h:m<l.length):(nth l m::(l.take m++l.drop (m+1))).Perm l:=by
 have e:l=l.take m++nth l m::l.drop (m+1):=by
  conv=>lhs;rw[<-jIp m l]
  rw[List.drop_eq_getElem_cons h,L.nth_lt h]
 conv=>rhs;rw[e]
 exact List.perm_middle.symm
theorem jjA (l:List ShD):∀n,n<=l.length->((U.qd l n).1++(U.qd l n).2).Perm l
 |0,_=>List.Perm.refl _
 |n+1,d=>by
  have b:=jjA l n (by omega)
  have c:=jiI l n (by omega)
  have a:=jiM (U.qd l n).2 _ (jG5 _) (by omega)
  refine List.Perm.trans ?_ b
  show((U.qd l n).1++[nth (U.qd l n).2 (U.jdI (U.qd l n).2 (U.qd l n).2.length)]++_).Perm _
  rw[jHn]
  exact List.Perm.append_left _ (jCs a)
theorem jBd {d:DyD} {n:Nat} (h:n<(U.jrs d).length):U.jpk d (n+1)=U.jcS d (U.jpk d n) (nth (U.jrs d) n):=by
 unfold U.jpk;rw[L.take_succ h,jHk];rfl
theorem jrA {d:DyD} {s:ShD} (h:s∈U.jrs d):s∈U.jiC (U.zc d):=by
 have b:=jjA (U.jfa d) (U.jfa d).length (jG5 _);have a:s∈U.jfa d:=b.mem_iff.1 (jG2 _ h);unfold U.jfa U.jCV at a;obtain⟨i,hi,rfl⟩:=jHy.1 a;exact L.mem_nth (jHj.1 (jHh.1 hi).1)
theorem jgm {l:List ShD} {s:ShD} (h:s∈U.jiC l):s∈l:=by
 unfold U.jiC U.jAi at h;obtain⟨m,_,h⟩:=List.mem_flatMap.1 h;unfold U.jCF at h;obtain⟨i,hi,rfl⟩:=jHy.1 h;exact L.mem_nth (jHj.1 (jHh.1 hi).1)
end Go.X
namespace Go.X
open Go.Proofs
theorem jrc {d:DyD} (h:U.w5 d=0):U.jgD d:=(zi ((wC d).trans h)).1
theorem jFm {t:List Int} {p b:Int} (h:b∈U.on t p):0<=b/\b<(t.length:Int):=by
 unfold U.on U.jdt at h;obtain⟨i,hi,rfl⟩:=jHy.1 h;have:=jHj.1 (jHh.1 hi).1;omega
theorem jFn (t:List Int) (p:Int):(U.on t p).length<=t.length:=juE t p t.length
attribute [local irreducible] U.jrs U.jpk U.ke U.on
end Go.X
namespace Go.X
theorem jdf (c:CrD) (j:JbD) (i:Nat):(U.kV (c,j,U.yP c j,()) (nth (U.je c) i)=0)↔U.zw c j (i:Int)=true:=by
 show U.jvI (U.yf (nth (U.je c) i) (U.jAZ j)) (!U.jH (U.fd (nth (U.je c) i)) (U.js7 j)) (!U.jH (U.cl (nth (U.je c) i)) (U.jrw j))=0↔
  (!(U.yf (nth (U.je c) ((i:Int)).toNat) (U.jAZ j))&&U.jH (U.fd (nth (U.je c) ((i:Int)).toNat)) (U.js7 j)&&U.jH (U.cl (nth (U.je c) ((i:Int)).toNat)) (U.jrw j))=true
 rw[jG7];generalize U.yf (nth (U.je c) i) (U.jAZ j)=x;generalize U.jH (U.fd (nth (U.je c) i)) (U.js7 j)=y;generalize U.jH (U.cl (nth (U.je c) i)) (U.jrw j)=z;cases x<;>cases y<;>cases z<;>decide
theorem jEd {c:CrD} {j:JbD} (b:U.jl c=true) (d:U.jW c j=true) (p:Nat):(p:Int)∈U.kE c j↔p<(U.je c).length/\U.zw c j (p:Int)=true:=by
 have a:U.kj c j=0:=(by unfold U.kj;rw[b,d];rfl);unfold U.kE U.yy;rw[if_pos a,jHy];refine⟨fun⟨i,hi,e⟩=> ?_,fun h=>⟨p,?_,rfl⟩⟩
 .have e:i=p:=(by omega);subst e;have:=jHh.1 hi;exact⟨jHj.1 this.1,(jdf c j i).1 (of_decide_eq_true this.2)⟩
 .exact jHh.2 ⟨jHj.2 h.1,decide_eq_true ((jdf c j p).2 h.2)⟩
theorem jyg {l:List Int} (h:∀p∈l,0<=p/\p<8):∀n,n<=l.length->∀q,BT.has (U.js l n) q=(l.take n).any (fun p=>decide (p.toNat=q))
 |0,_,q=>BT.has_zero q
 |n+1,c,q=>by
  have b:=jyg h n (by omega) q
  have a:=yj h n (by omega)
  have d:=h _ (L.mem_nth (l:=l) (i:=n) (by omega))
  rw[gS (by omega),gw,BT.has_bor a.1 (BT.two_set (by omega)),b,BT.has_two,L.take_succ (by omega),List.any_append]
  simp
theorem jpI {l:List Int} (h:∀p∈l,0<=p/\p<8) (q:Nat):BT.has (U.jul l) q=l.any (fun p=>decide (p.toNat=q)):=by
 have:=jyg h l.length (jG5 _) q;rw[jHY] at this;exact this
theorem jBM {d:DyD} {b:Nat} (a:b<(U.jq d).length):nth (U.jJ d (U.jq d).length) b=U.jul (U.kE (U.jb d) (U.yJ (nth (U.jq d) b))):=by
 unfold U.jJ;rw[jHY,L.nth_map a]
theorem jzs {d:DyD} (a:U.jgD d) {b:Nat} (c:b<(U.jq d).length):U.jW (U.jb d) (U.yJ (nth (U.jq d) b))=true:=
 jHE.1 a.2.1 _ (L.mem_nth c)
theorem jzh {d:DyD} (g:U.jgD d) {b p:Int} (m:U.kz d b) (n:U.jn0 d p):decide (qH (nth (U.jJ d (U.jq d).length) b.toNat/2^p.toNat) 1=0)= !U.zw (U.jb d) (U.yJ (U.bk d b)) p:=by
 unfold U.kz at m;unfold U.jn0 at n;have a:b.toNat<(U.jq d).length:=(by omega);have j:=fun q (c:q∈U.kE (U.jb d) (U.yJ (nth (U.jq d) b.toNat)))=>js5 g.1 c
 have o:BT.Set' (U.jul (U.kE (U.jb d) (U.yJ (nth (U.jq d) b.toNat)))):=(yj j _ (jG5 _)).1;have i:U.bk d b=nth (U.jq d) b.toNat:=rfl;rw[jBM a,BT.bit_num o,i];have k:=jpI j p.toNat;have f:=jEd g.1 (jzs g a) p.toNat;have ep:((p.toNat:Nat):Int)=p:=(by omega);rw[ep] at f;have l:BT.has (U.jul (U.kE (U.jb d) (U.yJ (nth (U.jq d) b.toNat)))) p.toNat=U.zw (U.jb d) (U.yJ (nth (U.jq d) b.toNat)) p:=by
  rw[k];cases h:U.zw (U.jb d) (U.yJ (nth (U.jq d) b.toNat)) p with
  |true=>exact jHF.2 ⟨p,f.2 ⟨by omega,h⟩,by simp⟩
  |false=>
   refine jHO.2 fun q c e=> ?_
   have e:q.toNat=p.toNat:=of_decide_eq_true e;have:=j q c;have e:q=p:=(by omega);rw[e] at c;rw[(f.1 c).2] at h;cases h
 rw[l];cases U.zw (U.jb d) (U.yJ (nth (U.jq d) b.toNat)) p<;>rfl
theorem jpX {α:Type} [Inhabited α] {R:α->α->Prop} {l:List α}:(∀i,i<l.length->∀b∈l.take i,R b (nth l i))↔l.Pairwise R:=by
 rw[jH5];refine⟨fun h i j hi a d=> ?_,fun h i hi b c=> ?_⟩
 .have:=h j a l[i] (jHK.2 ⟨i,by omega,rfl⟩);rw[L.nth_lt a] at this;exact this
 .obtain⟨k,hk,rfl⟩:=jHK.1 c;rw[L.nth_lt hi];exact h k i (by omega) hi (by omega)
theorem jyE {α:Type} [Inhabited α] {R:α->α->Prop} {l:List α}:(∀i,i<l.length->∀b∈l.drop (i+1),R (nth l i) b)↔l.Pairwise R:=by
 rw[jH5];refine⟨fun h i j hi d c=> ?_,fun h i hi b a=> ?_⟩
 .have:=h i hi l[j] (List.mem_drop_iff_getElem.2 ⟨j-(i+1),by omega,by congr 1;omega⟩);rw[L.nth_lt hi] at this;exact this
 .obtain⟨k,hk,rfl⟩:=List.mem_drop_iff_getElem.1 a;rw[L.nth_lt hi];exact h i (i+1+k) hi (by omega) (by omega)
theorem jcM (d:DyD) (a b:Int):U.qm d a b=true↔(U.jbg (U.bk d a)<U.jbg (U.bk d b)\/(U.jbg (U.bk d a)=U.jbg (U.bk d b)/\a<b)):=decide_eq_true_iff
theorem jcL (d:DyD) (a b:Int):U.qm d a b=false↔¬(U.jbg (U.bk d a)<U.jbg (U.bk d b)\/(U.jbg (U.bk d a)=U.jbg (U.bk d b)/\a<b)):=decide_eq_false_iff_not
theorem jAM (d:DyD) (l:List Int):kZ (U.qm d) l where
 irrefl x _:=(jcL d x x).2 (by omega)
 trans x y z _ _ _ a b:=by
  have a:=(jcM d x y).1 a;have b:=(jcM d y z).1 b;exact(jcM d x z).2 (by omega)
 total x y _ _ a b:=by
  have a:=(jcL d x y).1 a;have b:=(jcL d y x).1 b;omega
theorem jlh {d:DyD} {a b:Int} (h:a≠b) (c:U.qm d b a=false):U.qm d a b=true:=by
 have c:=(jcL d b a).1 c;exact(jcM d a b).2 (by omega)
theorem jxp {d:DyD} {a b:Int} (c:U.qm d a b=true):U.qm d b a=false:=by
 have c:=(jcM d a b).1 c;exact(jcL d b a).2 (by omega)
theorem jfk {d:DyD} {a b:Int} (h:U.qm d a b=true):(U.jS d b a=decide (0<=U.vb d a b))/\(U.jS d a b=decide (0<=U.vb d a b)):=by
 unfold U.jS;rw[if_pos h,jxp h,if_neg (by simp)];exact⟨rfl,rfl⟩
theorem jBa {d:DyD} {a b:Int} (h:a≠b):U.jS d a b=U.jS d b a:=by
 cases c:U.qm d b a with
 |false=>have:=jfk (jlh h c);rw[this.1,this.2]
 |true=>have:=jfk c;rw[this.1,this.2]
def TgR (d:DyD) (a b:Int):Prop:=a≠b->U.jS d b a=true
theorem jyD {d:DyD} {l:List Int} (f:l.Nodup):U.jC6 d l=true↔l.Pairwise (TgR d):=by
 rw[<-jpX];unfold U.jC6;rw[jHE];have e:∀i,i<l.length->∀b∈l.take i,b≠nth l i:=(jpX (R:=fun a b=>a≠b)).2 f;refine⟨fun h i hi b c _=> ?_,fun h i hi=>jHE.2 fun b c=> ?_⟩
 .exact jHE.1 (h i (jHj.2 hi)) b c
 .exact h i (jHj.1 hi) b c (e i (jHj.1 hi) b c)
theorem TgR.symm {d:DyD} {a b:Int} (h:TgR d a b):TgR d b a:=fun e=>(jBa (Ne.symm e)).trans (h (Ne.symm e))
theorem jzd {d:DyD} {l l':List Int} (h:l.Perm l'):U.jn8 d l=U.jn8 d l':=by
 unfold U.jn8;exact List.Perm.foldl_eq' (h.map _) (fun x _ y _ z=>by omega) 0
theorem joJ (d:DyD) (p:Int) {l:List Int} (a:l.Nodup):U.ke d p l=true↔(∀b∈l,U.zw (U.jb d) (U.yJ (U.bk d b)) p=true)/\l.Pairwise (TgR d)/\U.jn8 d l<=U.jxv d:=by
 unfold U.ke;rw[jG3,jG3,jHE,jyD a,decide_eq_true_iff]
theorem jhp (d:DyD) (p:Int) {l l':List Int} (h:l.Perm l') (g:l.Nodup):U.ke d p l=U.ke d p l':=by
 have f:=h.nodup_iff.1 g;refine jHs.2 ?_;rw[joJ d p g,joJ d p f,jzd h,h.pairwise_iff (fun h=>TgR.symm h)];exact⟨fun⟨a,c⟩=>⟨fun b e=>a b (h.mem_iff.2 e),c⟩,fun⟨a,c⟩=>⟨fun b e=>a b (h.mem_iff.1 e),c⟩⟩
theorem jCx (d:DyD) (may:List Int) (p:Int) (s:List Int):U.jEL d may p s=true↔(∀b∈s,decide (qH (nth may b.toNat/2^p.toNat) 1=0)=false)/\s.Pairwise (fun a b=>0<=U.vb d a b)/\U.jn8 d s<=U.jxv d:=by
 rw[<-jyE];unfold U.jEL;rw[jG3,decide_eq_true_iff,jHE,<-and_assoc];refine and_congr_left fun _=> ?_
 have e:∀i,U.jn1 d may p s i=true↔decide (qH (nth may (nth s i).toNat/2^p.toNat) 1=0)=false/\∀b∈s.drop (i+1),0<=U.vb d (nth s i) b:=by
  intro i;unfold U.jn1;rw[jHB,jHt,jHO];refine and_congr_right fun _=>⟨fun h b c=> ?_,fun h b c=> ?_⟩
  .have:=h b c;simp at this;omega
  .have:=h b c;simp;omega
 refine⟨fun h=>⟨fun b c=> ?_,fun i hi=>((e i).1 (h i (jHj.2 hi))).2⟩,fun h i hi=>(e i).2 ⟨h.1 _ (L.mem_nth (jHj.1 hi)),h.2 i (jHj.1 hi)⟩⟩;obtain⟨i,hi,rfl⟩:=L.mem_iff.1 c;exact((e i).1 (h i (jHj.2 hi))).1
theorem jAy {d:DyD} {may:List Int} {p:Int} {l:List Int} (m:l.Nodup) (j:∀b∈l,decide (qH (nth may b.toNat/2^p.toNat) 1=0)= !U.zw (U.jb d) (U.yJ (U.bk d b)) p):U.joI d may p l=U.ke d p l:=by
 have f:(U.jr d l).Perm l:=zB l;have c:(U.jr d l).Nodup:=f.nodup_iff.2 m;have k:(U.jr d l).Pairwise (fun a b=>U.qm d b a=false):=gO (jAM d l);rw[<-jhp d p f c];unfold U.joI;refine jHs.2 ?_;rw[jCx,joJ d p c];have i:=List.Pairwise.and k c;refine and_congr ⟨fun h b e=> ?_,fun h b e=> ?_⟩ (and_congr_left fun _=>⟨fun h=> ?_,fun h=> ?_⟩)
 .have g:=h b e;rw[j b (f.mem_iff.1 e)] at g;simpa using g
 .rw[j b (f.mem_iff.1 e),h b e];rfl
 .refine(List.Pairwise.and i h).imp fun{a b} x _=> ?_
  rw[(jfk (jlh x.1.2 x.1.1)).1];exact decide_eq_true x.2
 .refine(List.Pairwise.and i h).imp fun{a b} x=> ?_
  have:=x.2 x.1.2;rw[(jfk (jlh x.1.2 x.1.1)).1] at this;exact of_decide_eq_true this
end Go.X
namespace Go.X
theorem jam (a b:ShD):U.wJ a b=true↔(U.jjq b<U.jjq a\/(U.jjq a=U.jjq b/\U.wo b<U.wo a)):=decide_eq_true_iff
theorem jfU (a b:ShD):U.wJ a b=false↔¬(U.jjq b<U.jjq a\/(U.jjq a=U.jjq b/\U.wo b<U.wo a)):=decide_eq_false_iff_not
theorem qj (a:ShD):U.wJ a a=false:=(jfU a a).2 (by omega)
theorem jc3 {a b:ShD} (h:U.wJ a b=true):U.wJ b a=false:=by
 have h:=(jam a b).1 h;exact(jfU b a).2 (by omega)
theorem jki {a b c:ShD} (d:U.wJ a b=true) (e:U.wJ b c=true):U.wJ a c=true:=by
 have d:=(jam a b).1 d;have e:=(jam b c).1 e;exact(jam a c).2 (by omega)
theorem jCu (a b:ShD):U.jx a b<0↔U.wJ b a=true:=by
 rw[jam];unfold U.jx;rw[zK,wK]
 split
 .rename_i h;have c:¬U.jjq a=U.jjq b:=fun e=>h (vX.2 e)
  rw[jAp];omega
 .rename_i h;have d:U.jjq a=U.jjq b:=vX.1 (Classical.not_not.1 h);rw[jAp];omega
theorem jAD {l:List ShD} (hi:∀a∈l,∀b∈l,U.wo a=U.wo b->a=b):kZ U.jAC l where
 irrefl x _:=qj x
 trans x y z _ _ _ c d:=jki d c
 total x y hx hy c d:=by
  have c:=(jfU y x).1 c;have d:=(jfU x y).1 d;exact hi x hx y hy (by omega)
theorem jzX {l:List ShD}:∀i,i<l.length->∃j,j<l.length/\nth l j=nth l i/\U.jow l j=true:=by
 intro i
 induction i using Nat.strongRecOn with
 |_ i f=>
  intro hi;cases h:U.jow l i with
  |true=>exact⟨i,hi,rfl,h⟩
  |false=>
   simp only[U.jow,jHT] at h;obtain⟨x,d,e⟩:=jHF.1 h;obtain⟨k,hk,rfl⟩:=jHK.1 d;have e:l[k]=nth l i:=of_decide_eq_true e;obtain⟨j,c,a,b⟩:=f k (by omega) (by omega);exact⟨j,c,by rw[a,L.nth_lt (by omega)];exact e,b⟩
theorem jAh {l:List ShD} {s:ShD} (h:s∈l) (d:0<=U.wo s) (e:U.wo s<=99):s∈U.jiC l:=by
 obtain⟨i,hi,rfl⟩:=L.mem_iff.1 h;obtain⟨j,c,a,b⟩:=jzX i hi;unfold U.jiC U.jAi;refine List.mem_flatMap.2 ⟨(U.wo (nth l i)).toNat,jHj.2 (by omega),?_⟩;unfold U.jCF;refine jHy.2 ⟨j,jHh.2 ⟨jHj.2 c,?_⟩,a⟩;show(decide (U.wo (nth l j)=(((U.wo (nth l i)).toNat:Nat):Int))&&U.jow l j)=true;rw[b,a,Bool.and_true];exact decide_eq_true (by omega)
theorem jve {l:List ShD} {n m:Nat} {s:ShD} (h:s∈U.jCF l n m):U.wo s=(m:Int):=by
 unfold U.jCF at h;obtain⟨i,hi,rfl⟩:=jHy.1 h;have a:=(jHh.1 hi).2;rw[jG3] at a;exact of_decide_eq_true a.1
theorem jhl (l:List ShD):(U.jiC l).Nodup:=by
 unfold U.jiC U.jAi;refine List.pairwise_flatMap.2 ⟨fun m _=> ?_,?_⟩
 .unfold U.jCF;refine jIt.2 (List.Pairwise.imp_of_mem ?_ (List.Pairwise.filter _ jIn));intro i j hi c k e;have c:=jHh.1 c;have d:=c.2;rw[jG3] at d;have f:=d.2;have n:=jHj.1 c.1;have o:((l.take j).any (fun x=>decide (x=nth l j)))=true:=
   jHF.2 ⟨nth l i,jHK.2 ⟨i,by omega,(L.nth_lt (by omega)).symm⟩,decide_eq_true e⟩
  unfold U.jow at f;rw[o] at f;cases f
 .refine List.Pairwise.imp ?_ jIn;intro a b h x p y q e;have g:=jve p;have d:=jve q;rw[e] at g;omega
theorem jcT (t s:ShD):U.vi t=U.vi s↔U.jdq t=U.jdq s/\U.qE t=U.qE s:=by
 unfold U.vi;refine⟨fun h=>⟨congrArg (·.1) h,congrArg (·.2.1) h⟩,fun h=>by rw[h.1,h.2]⟩
theorem jkY (l:List ShD) (s:ShD):U.jiU l s=true↔U.jyd s=1/\∀t∈l,U.vi t=U.vi s->U.wJ t s=false:=by
 unfold U.jiU;rw[jG3,decide_eq_true_iff,jHB,jHO];refine and_congr_right fun _=>⟨fun h t a e=> ?_,fun h t a e=> ?_⟩
 .have e:=(jcT t s).1 e;have:=h t a;rw[e.1,e.2,decide_eq_true rfl,decide_eq_true rfl] at this;simpa using this
 .rw[jG3,jG3,decide_eq_true_iff,decide_eq_true_iff] at e;rw[h t a ((jcT t s).2 e.1)] at e;exact absurd e.2 (by simp)
theorem ji4 (d:DyD):U.jfa d=(U.jiC (U.zc d)).filter (U.jiU (U.jiC (U.zc d))):=by
 unfold U.jfa;generalize U.jiC (U.zc d)=l;unfold U.jCV;have e:(fun i=>U.jzo l i l.length)=(U.jiU l)∘(nth l):=by
  funext i;unfold U.jzo;rw[jHY];rfl
 rw[e];have:=List.filter_map (f:=nth l) (p:=U.jiU l) (l:=List.range l.length);rw[<-this,L.range_map_nth]
theorem jqm (l:List ShD):∀n,∀i,i<n->U.wJ (nth l (U.jdI l n)) (nth l i)=false
 |0,i,h=>absurd h (by omega)
 |n+1,i,h=>by
  have b:=jqm l n
  rw[jmx]
  split
  .rename_i a
   rcases Nat.lt_succ_iff_lt_or_eq.1 h with h|h
   .cases c:U.wJ (nth l n) (nth l i) with
    |false=>rfl
    |true=>have:=jki a c;rw[b i h] at this;cases this
   .subst h;exact qj _
  .rename_i a
   rcases Nat.lt_succ_iff_lt_or_eq.1 h with h|h
   .exact b i h
   .subst h;simpa using a
theorem jyh (l:List ShD):∀n,n<=l.length->(U.qd l n).1.Pairwise (fun a b=>U.wJ a b=false)/\∀a∈(U.qd l n).1,∀b∈(U.qd l n).2,U.wJ a b=false
 |0,_=>⟨List.Pairwise.nil,fun a d=>by cases d⟩
 |n+1,m=>by
  obtain⟨j,g⟩:=jyh l n (by omega)
  have k:=jiI l n (by omega)
  have h:=jiM (U.qd l n).2 _ (jG5 _) (by omega)
  have e:=jqm (U.qd l n).2 (U.qd l n).2.length
  have f:∀b∈(U.qd l n).2.take (U.jdI (U.qd l n).2 (U.qd l n).2.length)++(U.qd l n).2.drop (U.jdI (U.qd l n).2 (U.qd l n).2.length+1),b∈(U.qd l n).2:=by
   intro b c;rcases jHa.1 c with c|c
   .exact jIr c
   .exact jIq c
  refine⟨List.pairwise_append.2 ⟨j,List.pairwise_singleton _ _,fun a d b c=> ?_⟩,fun a d b c=> ?_⟩
  .simp at c;subst c;exact g a d _ (L.mem_nth h)
  .have c:=f b c;have d:a∈(U.qd l n).1++[nth (U.qd l n).2 (U.jdI (U.qd l n).2 (U.qd l n).2.length)]:=d;rcases jHa.1 d with d|d
   .exact g a d b c
   .simp at d;subst d;obtain⟨i,hi,rfl⟩:=L.mem_iff.1 c;exact e i hi
theorem jm7 (d:DyD):jvo U.jAC (U.jrs d):=(jyh (U.jfa d) _ (jG5 _)).1
theorem je9 (d:DyD):(U.jrs d).Perm (U.jfa d):=by
 have a:=jjA (U.jfa d) (U.jfa d).length (jG5 _);have b:=(jiI (U.jfa d) (U.jfa d).length (jG5 _)).2;have:(U.qd (U.jfa d) (U.jfa d).length).2=[]:=List.length_eq_zero_iff.1 (by omega);rw[this,jHw] at a;exact a
theorem juQ {l:List ShD} (i:l.Pairwise (fun a b=>U.wJ b a=true)):∀n,n<=l.length->∀s∈l.take n,(wh (Ty.dflt tSh) (zU tSt (U.vi s) (U.zN l n))=s↔∀t∈l.take n,U.vi t=U.vi s->U.wJ t s=false)
 |0,_,s,c=>by simp at c
 |n+1,k,s,c=>by
  have j:=juQ i n (by omega)
  have g:(l.take (n+1)).Pairwise (fun a b=>U.wJ b a=true):=i.sublist (List.take_sublist _ _)
  rw[L.take_succ (by omega)] at g c
  have f:∀t∈l.take n,U.wJ (nth l n) t=true:=fun t d=>(List.pairwise_append.1 g).2.2 t d _ (by simp)
  rw[jkj (by omega),L.take_succ (by omega)]
  by_cases hk:U.vi s=U.vi (nth l n)
  .rw[hk,M.mfind_mput]
   show nth l n=s↔_
   rcases jHa.1 c with c|c
   .refine⟨fun e=> ?_,fun h=> ?_⟩
    .have:=f s c
     rw[e,qj] at this;cases this
    .have:=h (nth l n) (by simp) rfl
     rw[f s c] at this;cases this
   .simp at c;subst c
    refine⟨fun _ t d _=> ?_,fun _=>rfl⟩
    rcases jHa.1 d with d|d
    .exact jc3 (f t d)
    .simp at d;subst d;exact qj _
  .rw[M.mfind_mput_ne hk]
   have c:s∈l.take n:=by
    rcases jHa.1 c with c|c
    .exact c
    .simp at c;subst c;exact absurd rfl hk
   rw[j s c];refine⟨fun h t d e=> ?_,fun h t d=>h t (jG2 _ d)⟩;rcases jHa.1 d with d|d
   .exact h t d e
   .simp at d;subst d;exact absurd e.symm hk
theorem jyf {d:DyD} (h:U.jz d=0):(U.j6 d).Pairwise (fun a b=>U.wJ b a=true):=by
 have f:=jGK h;have g:jvo (U.ji tSh fun x=>(U.jx x.1 x.2.1,())) (U.j6 d):=gO f;have e:∀s∈U.j6 d,s∈U.zf (U.zc d):=fun s i=>(zB _).mem_iff.1 i
 refine List.Pairwise.imp_of_mem ?_ (List.Pairwise.and g (ve d));intro a b j k ⟨h1,h2⟩;cases c:U.ji tSh (fun x=>(U.jx x.1 x.2.1,())) a b with
 |false=>exact absurd (f.total a b (e a j) (e b k) c h1) h2
 |true=>
  have c:U.jx a b<0:=of_decide_eq_true c;exact(jCu a b).1 c
theorem jq1 {d:DyD} (h:U.jz d=0) {s:ShD} (a:s∈U.j6 d):U.kK (U.zN (U.j6 d) (U.j6 d).length) s=true↔U.jyd s=1/\∀t∈U.j6 d,U.vi t=U.vi s->U.wJ t s=false:=by
 have:=juQ (jyf h) (U.j6 d).length (jG5 _) s (by rw[jHY];exact a);rw[jHY] at this;rw[<-this];unfold U.kK;rw[jHB,jHt,jHT,jHT,decide_eq_true_iff,decide_eq_true_iff];exact and_comm
theorem jjy {d:DyD} (h:U.zL d=true) {s:ShD} (a:s∈U.zc d):0<=U.wo s/\U.wo s<=99:=by
 have:=(za h).2.2.2.2.2.2.2 _ a;unfold U.jaf at this;have:=of_decide_eq_true this;omega
def jq2 (d:DyD):ShD->Bool:=U.kK (U.zN (U.j6 d) (U.j6 d).length)
theorem jCU {d:DyD} (h:U.jz d=0):(U.j6 d).filter (jq2 d)=U.jrs d:=by
 have j:=zi h;have f:∀s,s∈U.jiC (U.zc d)↔s∈U.j6 d:=fun s=>⟨fun c=>vF.2 (jgm c),fun c=>by
  have c:=vF.1 c;have:=jjy j.1.2.2 c;exact jAh c this.1 this.2⟩
 have g:∀s,s∈(U.j6 d).filter (jq2 d)↔s∈U.jrs d:=by
  intro s;rw[(je9 d).mem_iff,ji4,jHh,jHh,f s];refine and_congr_right fun c=> ?_
  rw[jkY];have:=jq1 h c;refine this.trans (and_congr_right fun _=>⟨fun h t i=>h t ((f t).1 i),fun h t i=>h t ((f t).2 i)⟩)
 have n:((U.j6 d).filter (jq2 d)).Nodup:=List.Pairwise.filter _ (ve d);have o:(U.jrs d).Nodup:=(je9 d).nodup_iff.2 (by rw[ji4];exact List.Pairwise.filter _ (jhl _));have m:=L.perm_of_nodup n o g;refine jbj (jAD ?_) m ?_ (jm7 d)
 .intro a k b l e;exact j.2 a (vF.1 (jHh.1 k).1) b (vF.1 (jHh.1 l).1) e
 .exact(List.Pairwise.filter _ (jyf h)).imp fun x=>jc3 x
end Go.X
namespace Go.X
namespace U
def jv4 (r:List Int) (m n:Nat):List Int:=(r.take n).filter (fun x=>decide (x=(m:Int)))
def gX (r:List Int) (n:Nat):List Int:=(List.range n).flatMap (fun m=>jv4 r m r.length)
end U
structure jl3 (d:DyD) (x:List (List Int)×List Int) (y:List Int×List Int):Prop where
 ref:x.2=y.2
 len:y.1.length=(U.jq d).length
 set:∀b,b<(U.jq d).length->BT.Set' (nth y.1 b)
 bit:∀b,b<(U.jq d).length->∀p,BT.has (nth y.1 b) p=true↔p<(U.je (U.jb d)).length/\(b:Int)∈nth x.1 p
theorem wV {t:Int} (h:BT.Set' t) (p:Int):U.jH t p=BT.has t p.toNat:=BT.has_shr h p.toNat
theorem jFo {d:DyD} {x:List (List Int)×List Int} {y:List Int×List Int} (h:jl3 d x y) {p:Int} (k:U.jn0 d p) (j:∀b∈nth x.1 p.toNat,U.kz d b) (n:Int):n∈U.on y.1 p↔n∈nth x.1 p.toNat:=by
 unfold U.jn0 at k;unfold U.on U.jdt;rw[jHy];refine⟨fun⟨i,hi,e⟩=> ?_,fun g=> ?_⟩
 .subst e;have hi:=jHh.1 hi;have a:=jHj.1 hi.1;rw[h.len] at a;have f:U.jH (nth y.1 i) p=true:=hi.2;rw[wV (h.set i a)] at f;exact((h.bit i a p.toNat).1 f).2
 .have hk:=j n g;unfold U.kz at hk;have c:((n.toNat:Nat):Int)=n:=(by omega);refine⟨n.toNat,jHh.2 ⟨jHj.2 (by rw[h.len];omega),?_⟩,c⟩;show U.jH (nth y.1 n.toNat) p=true;rw[wV (h.set _ (by omega))];exact(h.bit _ (by omega) _).2 ⟨by omega,by rw[c];exact g⟩
theorem jBB (t:List Int) (p:Int):(U.on t p).Nodup:=by
 unfold U.on U.jdt;refine jIt.2 ((List.Pairwise.filter _ jIn).imp ?_);intro a b c e;omega
theorem jyN {d:DyD} {x:List (List Int)×List Int} {y:List Int×List Int} (h:jl3 d x y) {p:Int} (e:U.jn0 d p) (c:(nth x.1 p.toNat).Nodup) (a:∀b∈nth x.1 p.toNat,U.kz d b):(nth x.1 p.toNat).Perm (U.on y.1 p):=
 L.perm_of_nodup c (jBB _ _) (fun n=>(jFo h e a n).symm)
theorem jDo {d:DyD} (i:U.jgD d) {x:List (List Int)×List Int} {y:List Int×List Int} (h:jl3 d x y) {p b:Int} (g:U.jn0 d p) (e:(nth x.1 p.toNat++[b]).Nodup) (f:∀c∈nth x.1 p.toNat++[b],U.kz d c):
 U.joI d (U.jJ d (U.jq d).length) p (nth x.1 p.toNat++[b])=U.ke d p (U.on y.1 p++[b]):=by
 rw[jAy e (fun c a=>jzh i (f c a) g)];exact jhp d p ((jyN h g (jHZ.1 e).1 (fun c a=>f c (jG2 _ a))).append_right [b]) e
theorem jFi {d:DyD} {x:List (List Int)×List Int} {y:List Int×List Int} (h:jl3 d x y) (v:x.1.length=(U.je (U.jb d)).length) (u:(U.je (U.jb d)).length<=8) {p b:Int} (t:U.jn0 d p) (s:U.kz d b) (i:b∉nth x.1 p.toNat):
 jl3 d (x.1.set p.toNat (nth x.1 p.toNat++[b]),x.2) (y.1.set b.toNat (nth y.1 b.toNat+2^p.toNat),y.2):=by
 unfold U.jn0 at t;unfold U.kz at s;have r:((b.toNat:Nat):Int)=b:=(by omega);have g:b.toNat<y.1.length:=(by rw[h.len];omega);have n:p.toNat<x.1.length:=(by omega);have o:=h.set b.toNat (by omega);have m:BT.has (nth y.1 b.toNat) p.toNat=false:=by
  cases j:BT.has (nth y.1 b.toNat) p.toNat with
  |false=>rfl
  |true=>exact absurd (by have:=((h.bit _ (by omega) _).1 j).2;rw[r] at this;exact this) i
 have a:=BT.add_two o (p:=p.toNat) (by omega) m;have j:=BT.two_set (k:=p.toNat) (by omega);refine⟨h.ref,by show(y.1.set _ _).length=_;rw[List.length_set];exact h.len,fun c l=> ?_,fun c l q=> ?_⟩
 .show BT.Set' (nth (y.1.set b.toNat (nth y.1 b.toNat+2^p.toNat)) c);rw[L.nth_set g]
  split
  .rw[a];exact BT.bor_set o j
  .exact h.set c l
 .show BT.has (nth (y.1.set b.toNat (nth y.1 b.toNat+2^p.toNat)) c) q=true↔_/\(c:Int)∈nth (x.1.set p.toNat (nth x.1 p.toNat++[b])) q;rw[L.nth_set g,L.nth_set n];by_cases f:b.toNat=c
  .rw[if_pos f,a,BT.has_bor o j,BT.has_two,jHX,decide_eq_true_iff,h.bit _ (by omega),<-f,r];by_cases e:p.toNat=q
   .rw[if_pos e];refine⟨fun _=>⟨by omega,by simp⟩,fun _=> .inr e⟩
   .rw[if_neg e];exact⟨fun h=>h.elim id (fun h=>absurd h e),.inl⟩
  .rw[if_neg f,h.bit c l];by_cases e:p.toNat=q
   .rw[if_pos e,jHa,<-e];refine and_congr_right fun _=>⟨.inl,fun h=>h.elim id (fun h=> ?_)⟩
    simp at h;omega
   .rw[if_neg e]
theorem jBp (d:DyD):jl3 d (U.ky (U.jds d) (U.j6 d) 0) (List.replicate (U.jq d).length 0,[]):=by
 have c:∀b,b<(U.jq d).length->nth (List.replicate (U.jq d).length (0:Int)) b=0:=fun b a=>L.nth_rep a
 refine⟨rfl,jH3,fun b a=> ?_,fun b a p=> ?_⟩
 .show BT.Set' (nth (List.replicate (U.jq d).length (0:Int)) b);rw[c b a];exact BT.zero_set
 .show BT.has (nth (List.replicate (U.jq d).length (0:Int)) b) p=true↔_/\(b:Int)∈nth (U.jD3 d) p;rw[c b a,BT.has_zero];have f:U.jBJ (U.jD3 d):=fun x g=>(List.mem_replicate.1 g).2
  have e:nth (U.jD3 d) p=[]:=jn4 f p;rw[e];simp
def jAl (d:DyD) (i:Nat):List Int×List Int:=(((U.j6 d).take i).filter (jq2 d)).foldl (U.jcS d) (List.replicate (U.jq d).length 0,[])
attribute [local irreducible] U.ky U.ke U.joI U.on jAl U.j6 jq2 U.jds U.jJ in
theorem jBq {d:DyD} (h:U.jz d=0) {i:Nat} (hi:i<(U.j6 d).length) (ih:jl3 d (U.ky (U.jds d) (U.j6 d) i) (jAl d i)) (hinv:U.yU (U.jds d) (U.j6 d) i (U.ky (U.jds d) (U.j6 d) i)) (hrd:U.rd (U.jds d)=d) (hml:U.jak (U.jds d)=U.jJ d (U.jq d).length)
 (hx:(U.ky (U.jds d) (U.j6 d) i).1.length=(U.je (U.jb d)).length) (hdec:jq2 d=U.kK (U.zN (U.j6 d) (U.j6 d).length)) (hft:jAl d (i+1)=if jq2 d (nth (U.j6 d) i)=true then U.jcS d (jAl d i) (nth (U.j6 d) i) else jAl d i)
 (hnew:jq2 d (nth (U.j6 d) i)=true->(nth (U.ky (U.jds d) (U.j6 d) i).1 (U.qE (nth (U.j6 d) i)).toNat++[U.jdq (nth (U.j6 d) i)]).Nodup/\∀b∈nth (U.ky (U.jds d) (U.j6 d) i).1 (U.qE (nth (U.j6 d) i)).toNat++[U.jdq (nth (U.j6 d) i)],U.kz d b):
 jl3 d (U.ky (U.jds d) (U.j6 d) (i+1)) (jAl d (i+1)):=by
 have hD:=(zi h).1
 have h8:(U.je (U.jb d)).length<=8:=(jv hD.1).2.2.1
 have hsf:=jfw hD.2.2 (vF.1 (L.mem_nth (l:=U.j6 d) (i:=i) hi))
 rw[hft]
 cases hc:jq2 d (nth (U.j6 d) i) with
 |false=>
  rw[hdec] at hc
  rw[jnn hi hc,if_neg (by simp)]
  exact ih
 |true=>
  have hn:=hnew hc
  have hcan:=jDo hD ih (p:=U.qE (nth (U.j6 d) i)) (b:=U.jdq (nth (U.j6 d) i)) hsf.1 hn.1 hn.2
  rw[hdec] at hc
  rw[if_pos rfl]
  unfold U.jcS
  cases hk:U.ke d (U.qE (nth (U.j6 d) i)) (U.on (jAl d i).1 (U.qE (nth (U.j6 d) i))++[U.jdq (nth (U.j6 d) i)]) with
  |true=>
   rw[hk] at hcan
   rw[jnm hi hc (by rw[hrd,hml];exact hcan),if_pos rfl]
   refine jFi ih hx h8 hsf.1 hsf.2 (fun hin=> ?_)
   exact(jHZ.1 hn.1).2.2 _ hin _ (by simp) rfl
  |false=>
   rw[hk] at hcan
   rw[juf hi hc (by rw[hrd,hml];exact hcan),if_neg (by simp)]
   exact⟨congrArg (·++[U.wo (nth (U.j6 d) i)]) ih.ref,ih.len,ih.set,ih.bit⟩
theorem jyw {d:DyD} (h:U.jz d=0):∀i,i<=(U.j6 d).length->jl3 d (U.ky (U.jds d) (U.j6 d) i) (jAl d i)
 |0,_=>jBp d
 |i+1,hi=>by
  have k:=jyw h i (by omega)
  obtain⟨⟨_,m⟩,⟨j,b⟩,c⟩:=jpL h
  have f:=(zi h).1
  have a:=jno (r:=U.jds d) (l:=U.j6 d) f.2.2 (fun s e=>vF.1 e) (ve d) j b c i (by omega)
  refine jBq h hi k a rfl rfl a.1 rfl ?_ fun g=> ?_
  .unfold jAl
   rw[L.filter_take (p:=jq2 d) (l:=U.j6 d) (i:=i) hi,jHk]
   split<;>rfl
  .have:=jue (r:=U.jds d) (l:=U.j6 d) f.2.2 (fun s e=>vF.1 e) (ve d) hi a g
   exact⟨this.1,this.2.1⟩
theorem jCp {d:DyD} (h:U.jz d=0):jAl d (U.j6 d).length=U.kf d:=by
 unfold jAl U.kf U.jpk;rw[jHY,jHY,jCU h]
theorem yl {d:DyD} (h:U.jz d=0):jl3 d (U.jY (U.yI d),(U.ky (U.jds d) (U.j6 d) (U.j6 d).length).2) (U.kf d):=by
 have:=jyw h _ (jG5 _);rw[jCp h] at this;exact⟨this.ref,this.len,this.set,this.bit⟩
theorem jua (on:List (List Int)) (b:Int):∀n,n<=60->BT.Set' (U.qO on b n)/\∀q,BT.has (U.qO on b n) q=true↔q<n/\b∈nth on q
 |0,_=>⟨BT.zero_set,fun q=>by
  have:U.qO on b 0=0:=rfl
  rw[this,BT.has_zero];simp⟩
 |n+1,m=>by
  obtain⟨f,i⟩:=jua on b n (by omega)
  have g:=BT.two_set (k:=n) (by omega)
  have a:(nth on n).any (fun x=>decide (x=b))=true↔b∈nth on n:=by
   rw[jHF];exact⟨fun⟨x,l,e⟩=>(of_decide_eq_true e)▸l,fun j=>⟨b,j,decide_eq_true rfl⟩⟩
  rw[jjh]
  split
  .rename_i c;have c:=a.1 c;rw[gw];refine⟨BT.bor_set f g,fun q=> ?_⟩;rw[BT.has_bor f g,BT.has_two,jHX,decide_eq_true_iff,i];refine⟨fun h=>h.elim (fun h=>⟨by omega,h.2⟩) (fun h=>by subst h;exact⟨by omega,c⟩),fun h=> ?_⟩;by_cases d:q=n
   .exact .inr d.symm
   .exact .inl ⟨by omega,h.2⟩
  .rename_i c;refine⟨f,fun q=> ?_⟩;rw[i];refine⟨fun h=>⟨by omega,h.2⟩,fun h=>⟨?_,h.2⟩⟩;by_cases d:q=n
   .subst d;exact absurd (a.2 h.2) c
   .omega
theorem jrX {d:DyD} (h:U.jz d=0) {b:Nat} (a:b<(U.jq d).length):U.jA (U.jY (U.yI d)) (b:Int)=nth (U.kf d).1 b:=by
 have f:=yl h;have c:=gV h;have g:=jua (U.jY (U.yI d)) (b:Int) (U.jY (U.yI d)).length c.len60;refine BT.ext g.1 (f.set b a) fun p=>jHs.2 ?_
 have e:=(g.2 p).trans (f.bit b a p|>.trans (by rw[<-c.len])).symm;exact e
theorem jFe {d:DyD} (h:U.jz d=0):U.qI d (U.jq d).length=(U.kf d).1:=by
 have b:=yl h;have a:(U.qI d (U.jq d).length).length=(U.jq d).length:=(by unfold U.qI;simp);refine L.ext_nth (by rw[a];exact b.len.symm) fun i hi=> ?_
 rw[a] at hi;unfold U.qI;rw[L.nth_map (by simpa using hi)];have:nth (List.range (U.jq d).length) i=i:=(by rw[L.nth_lt (by simpa using hi)];simp);rw[this];exact jrX h hi
theorem jnj (d:DyD):U.jE d=if U.w5 d=0 then(U.kf d).1 else[]:=by
 unfold U.jE;rw[wC]
 split
 .rename_i h;exact jFe ((wC d).trans h)
 .rfl
theorem jyx (d:DyD):∀n,n<=(U.jrs d).length->(U.jpk d n).2.Sublist (((U.jrs d).take n).map U.wo)
 |0,_=>List.nil_sublist _
 |n+1,b=>by
  have a:=jyx d n (by omega)
  rw[jBd (by omega),L.take_succ (by omega),jHR]
  unfold U.jcS
  split
  .exact a.trans (List.sublist_append_left _ _)
  .exact List.Sublist.append a (List.Sublist.refl _)
theorem jyy {d:DyD} (h:U.jz d=0):(U.kf d).2.Nodup/\∀x∈(U.kf d).2,0<=x/\x<=99:=by
 have c:=jyx d _ (jG5 _);rw[jHY] at c;have g:=zi h;have l:(U.jrs d).Nodup:=(je9 d).nodup_iff.2 (by rw[ji4];exact List.Pairwise.filter _ (jhl _));refine⟨List.Pairwise.sublist c (jIt.2 (List.Pairwise.imp_of_mem ?_ l)),fun x k=> ?_⟩
 .intro a b i j f e;exact f (g.2 a (jgm (jrA i)) b (jgm (jrA j)) e)
 .obtain⟨s,c,rfl⟩:=jHy.1 (c.subset k);exact jjy g.1.2.2 (jgm (jrA c))
theorem jv3 {r:List Int} (k:r.Nodup) (h:∀x∈r,0<=x/\x<=99):U.gX r 100=U.jfu r:=by
 have e:∀m,U.jv4 r m r.length=r.filter (fun x=>decide (x=(m:Int))):=fun m=>by unfold U.jv4;rw[jHY]
 have d:∀m x,x∈U.jv4 r m r.length->x=(m:Int)/\x∈r:=fun m x c=>by
  rw[e m] at c;have:=jHh.1 c;exact⟨of_decide_eq_true this.2,this.1⟩
 have f:(U.gX r 100).Pairwise (fun a b=>a<=b):=by
  unfold U.gX;refine List.pairwise_flatMap.2 ⟨fun m _=> ?_,List.Pairwise.imp ?_ jIn⟩
  .refine List.Pairwise.imp_of_mem ?_ (R:=fun _ _=>True) (List.pairwise_of_forall (fun _ _=>trivial));intro a b n o _;have:=(d m a n).1;have:=(d m b o).1;omega
  .intro a b g x c y j;have:=(d a x c).1;have:=(d b y j).1;omega
 have i:(U.gX r 100).Nodup:=by
  unfold U.gX;refine List.pairwise_flatMap.2 ⟨fun m _=> ?_,List.Pairwise.imp ?_ jIn⟩
  .rw[e m];exact List.Pairwise.filter _ k
  .intro a b g x c y j l;have:=(d a x c).1;have:=(d b y j).1;omega
 have p:(U.gX r 100).Perm r:=L.perm_of_nodup i k fun x=>by
  unfold U.gX;rw[List.mem_flatMap];refine⟨fun⟨m,_,c⟩=>(d m x c).2,fun c=> ?_⟩;have q:=h x c;refine⟨x.toNat,jHj.2 (by omega),?_⟩;rw[e];exact jHh.2 ⟨c,decide_eq_true (by omega)⟩
 exact jdO (p.trans (jgP r).symm) f (jx9 r)
theorem jDU (d:DyD):U.jlB d=if U.w5 d=0 then U.gX (U.kf d).2 100 else[]:=by
 unfold U.jlB;rw[wC]
 split
 .rename_i h;have h:=(wC d).trans h;have a:=jyy h;rw[jv3 a.1 a.2,<-(yl h).ref];rfl
 .rfl
end Go.X
namespace Go.X
open Go.Proofs
attribute [local irreducible] U.qd U.jdI U.jCV U.jiC U.jfa U.jrs U.jzo
end Go.X
namespace Go.X
open Go.Proofs
namespace U
def jxw (d:DyD) (b:Bool):Int:=if w5 d=0 then(if b=true then 0 else 1) else w5 d
def sv3At (d:DyD) (t:List Int) (b:Nat):Bool:=qL (jb d) (yJ (nth (jq d) b)) (nth t b)
def jCY (d:DyD) (t:List Int) (n:Nat):List Int:=((List.range n).filter (sv3At d t)).map (fun(b:Nat)=>(b:Int))
def jGI (d:DyD):List Int:=if w5 d=0 then jCY d (jd8 d) (jd8 d).length else[]
def jas (d:DyD) (t:List Int) (b:Int) (p:Nat):Bool:= !jH (nth t b.toNat) (p:Int)&&ke d (p:Int) (on t (p:Int)++[b])
def jP (d:DyD) (t:List Int) (b:Int) (n:Nat):Int:=(List.range n).foldl (fun s p=>if jas d t b p=true then s+2^p else s) 0
def jcF (d:DyD) (t:List Int) (b:Int):Int:=jP d t b (je (jb d)).length
def qS (s:Int) (n:Nat):List Int:=((List.range n).filter (fun(p:Nat)=>jH s (p:Int))).map (fun(p:Nat)=>(p:Int))
def jFP (d:DyD) (b:Int):List Int:=if jxw d (jh d b)=0 then qS (jcF d (jd8 d) b) (je (jb d)).length else[]
def jgg (d:DyD) (b all t:Int) (x:Int×Int×Bool) (s:Nat):Int×Int×Bool:=
 if((decide (zx (s:Int) all=0)&&qL (jb d) (yJ (bk d b)) (bor t (s:Int)))&&(!x.2.2||decide (wD (jb d) (s:Int)<x.2.1)))=true then((s:Int),wD (jb d) (s:Int),true) else x
def yD (d:DyD) (b all t:Int) (n:Nat):Int×Int×Bool:=(List.range n).foldl (jgg d b all t) (0,0,false)
def jqL (d:DyD) (b:Int):Int×Int×Bool:=yD d b (jcF d (jd8 d) b) (nth (jd8 d) b.toNat) (2^(je (jb d)).length)
def jwM (d:DyD) (b:Int):Int:=if jxw d (jh d b)=0 then(if(jqL d b).2.2=true then 0 else 3) else jxw d (jh d b)
def jEr (d:DyD) (b:Int):Int:=if jwM d b=0 then(jqL d b).1 else 0
def jEq (d:DyD) (b:Int):Int:=if jwM d b=0 then(jqL d b).2.1 else 0
end U
def jsr:zP:=⟨[.val (.slice .int),.val .int],[.cl (.row 3 .int .yes)],fun d=>[d.1.length<=1000,0<=d.2.1/\d.2.1<=63],fun d=>((U.on d.1 d.2.1,()),())⟩
def jrL:Prop:=∀(d:List Int×Int×Unit),d.1.length<=1000->0<=d.2.1/\d.2.1<=63->(∃(x:Nat),((0=(x:Int)/\True/\True)/\U.jdt d.1 d.2.1 x=[]/\True)/\x<=d.1.length)/\∀(x:Nat),x<=d.1.length->d.1.length<4611686018427387904->(decide ((x:Int)<(d.1.length:Int))=true->0<=(x:Int)/\(x:Int)<(d.1.length:Int)/\(0<=d.2.1/\d.2.1<=63)/\(U.jH (nth d.1 (x:Int).toNat) d.2.1=true->((U.jdt d.1 d.2.1 x).length+[(x:Int)].length)*8<=140737488355328/\jy ((x:Int)+1)/\∃(a:Nat),(((x:Int)+1=(a:Int)/\True/\True)/\U.jdt d.1 d.2.1 x++[(x:Int)]=U.jdt d.1 d.2.1 a/\True)/\a<=d.1.length/\d.1.length-a<d.1.length-x)/\(U.jH (nth d.1 (x:Int).toNat) d.2.1=false->jy ((x:Int)+1)/\∃(a:Nat),((True/\(x:Int)+1=(a:Int)/\True)/\U.jdt d.1 d.2.1 x=U.jdt d.1 d.2.1 a/\True)/\a<=d.1.length/\d.1.length-a<d.1.length-x))/\(decide ((x:Int)<(d.1.length:Int))=false->(U.jdt d.1 d.2.1 x,())=(U.on d.1 d.2.1,())/\()=())
end Go.X
namespace Go.X
open Go.Proofs
theorem jDK {d:DyD} (h:U.w5 d=0):(U.kf d).1.length=(U.jq d).length:=(yl ((wC d).trans h)).len
theorem jmc {d:DyD} (h:U.w5 d=0):U.jd8 d=(U.kf d).1:=if_pos h
theorem jDE {d:DyD} (h:U.w5 d=0):(U.jd8 d).length=(U.jq d).length:=by rw[jmc h];exact jDK h
theorem joB {d:DyD} {b:Bool} (h:U.jxw d b=0):U.w5 d=0/\b=true:=by
 unfold U.jxw at h
 split at h
 .rename_i hk;cases b with
  |true=>exact⟨hk,rfl⟩
  |false=>simp at h
 .contradiction
theorem js9 {d:DyD} {b:Int} (h:U.jh d b=true):U.kz d b:=by
 unfold U.jh U.ja at h;rw[jG3,decide_eq_true_iff,decide_eq_true_iff] at h;unfold U.kz;omega
theorem jBs (r:List Int) (m n:Nat):(U.jv4 r m n).length<=r.length:=by
 unfold U.jv4;exact jHi (jH4 _ _) (by rw[jHC];omega)
theorem jv2 (r:List Int) (n:Nat):U.gX r (n+1)=U.gX r n++U.jv4 r n r.length:=by
 unfold U.gX;rw[jHq,List.flatMap_append];simp
theorem jyA (r:List Int):∀n,(U.gX r n).length<=r.length*n
 |0=>jHd _
 |n+1=>by
  have a:=jyA r n
  have:=jBs r n r.length
  rw[jv2,jHo,Nat.mul_succ]
  omega
section
attribute [local irreducible] U.gX U.jv4 U.kf U.w5
end
section
attribute [local irreducible] U.jCY U.jd8 U.w5 U.qL
end
theorem jwB:jrL:=by
 rintro⟨l,p,⟨⟩⟩ e j;have e:l.length<=1000:=e;refine⟨⟨0,⟨⟨rfl,trivial,trivial⟩,rfl,trivial⟩,jHd _⟩,fun x g _=>⟨fun h=> ?_,fun h=> ?_⟩⟩
 .have h:(x:Int)<(l.length:Int):=of_decide_eq_true h;have b:=jyP l p x;have f:=juE l p x;have i:x+1<=l.length:=(by omega);have d:l.length-(x+1)<l.length-x:=(by omega);refine⟨by omega,h,j,fun a=>⟨?_,L.in64 (by omega) (by omega),x+1,⟨⟨by simp,trivial,trivial⟩,?_,trivial⟩,i,d⟩,fun a=>⟨L.in64 (by omega) (by omega),x+1,⟨⟨trivial,by simp,trivial⟩,?_,trivial⟩,i,d⟩⟩
  .show((U.jdt l p x).length+1)*8<=140737488355328;omega
  .have a:U.jH (nth l x) p=true:=a;rw[if_pos a] at b;exact b.symm
  .have a:U.jH (nth l x) p=false:=a;rw[if_neg (by rw[a];simp),jHw] at b;exact b.symm
 .have h:¬(x:Int)<(l.length:Int):=of_decide_eq_false h;have g:x<=l.length:=g;have c:x=l.length:=(by omega);subst c;exact⟨rfl,rfl⟩
theorem jsU:qa PR 11 jsr:=jdH jCK jwB Tryz.func11 (kcC jae kcN) koN
theorem jmO (d:DyD) (t:List Int) (b:Int) (n:Nat):U.jP d t b (n+1)=if U.jas d t b n=true then U.jP d t b n+2^n else U.jP d t b n:=by
 unfold U.jP;rw[jHq,jHk];rfl
theorem juZ (d:DyD) (t:List Int) (b:Int):∀n,0<=U.jP d t b n/\U.jP d t b n<2^n
 |0=>by
  have e:U.jP d t b 0=0:=rfl
  rw[e];constructor<;>decide
 |n+1=>by
  have a:=juZ d t b n
  have e:(2:Int)^(n+1)=2^n*2:=Int.pow_succ ..
  rw[jmO,e]
  split<;>omega
theorem jwK (d:DyD) (t:List Int) (b:Int):U.jP d t b 0=0:=rfl
section
attribute [local irreducible] U.jP U.ke U.on U.jH U.jgD
end
theorem jzf (s:Int) (n:Nat):U.qS s (n+1)=U.qS s n++(if U.jH s (n:Int)=true then[(n:Int)] else[]):=by
 unfold U.qS;rw[L.range_filter_succ,jHR];by_cases h:U.jH s (n:Int)=true
 .rw[if_pos h,if_pos h];rfl
 .rw[if_neg h,if_neg h];rfl
theorem jBK (s:Int) (n:Nat):(U.qS s n).length<=n:=by
 unfold U.qS;rw[jH6];exact jHi (jH4 _ _) (by simp)
section
attribute [local irreducible] U.qS U.jd8 U.w5 U.jH U.jcF
end
end Go.X
namespace Go.X
open Go.Proofs
theorem jmP (d:DyD) (b all t:Int) (n:Nat):U.yD d b all t (n+1)=U.jgg d b all t (U.yD d b all t n) n:=by
 unfold U.yD;rw[jHq,jHk];rfl
section
attribute [local irreducible] U.yD U.jd8 U.w5 U.jcF U.qL U.wD U.jxw U.jqL U.jEr U.jEq U.jwM U.jxt
end
end Go.X
namespace Go.X
open Go.Proofs
section
attribute [local irreducible] U.jxw
end
end Go.X
namespace Go.X
theorem jj9 (n m:Nat):n|||m=0↔n=0/\m=0:=by
 constructor
 .intro h;constructor
  .refine jIs fun i=> ?_
   have:=congrArg (fun z=>Nat.testBit z i) h;simp only[Nat.testBit_or,Nat.zero_testBit,jHt] at this;rw[this.1,Nat.zero_testBit]
  .refine jIs fun i=> ?_
   have:=congrArg (fun z=>Nat.testBit z i) h;simp only[Nat.testBit_or,Nat.zero_testBit,jHt] at this;rw[this.2,Nat.zero_testBit]
 .rintro⟨rfl,rfl⟩;rfl
theorem jt7 {a b:Int} (c:0<=a/\a<64) (d:0<=b/\b<64):uor a b=0↔a=0/\b=0:=by
 obtain⟨n,rfl⟩:∃n:Nat,a=(n:Int):=⟨a.toNat,by omega⟩;obtain⟨m,rfl⟩:∃m:Nat,b=(m:Int):=⟨b.toNat,by omega⟩;rw[BT.uor_nat (by omega) (by omega)];have:=jj9 n m;omega
theorem jCB {a b:Int} (c:0<=a/\a<64) (d:0<=b/\b<64):bor a b=0↔a=0/\b=0:=by
 obtain⟨n,rfl⟩:∃n:Nat,a=(n:Int):=⟨a.toNat,by omega⟩;obtain⟨m,rfl⟩:∃m:Nat,b=(m:Int):=⟨b.toNat,by omega⟩;rw[BT.bor_nat (by omega) (by omega)];have:=jj9 n m;omega
theorem jCC {a b:Int} (c:0<=a/\a<64) (d:0<=b/\b<64):0<=bor a b/\bor a b<64:=by
 obtain⟨n,rfl⟩:∃n:Nat,a=(n:Int):=⟨a.toNat,by omega⟩;obtain⟨m,rfl⟩:∃m:Nat,b=(m:Int):=⟨b.toNat,by omega⟩;rw[BT.bor_nat (by omega) (by omega)];have:n|||m<2^6:=Nat.or_lt_two_pow (by omega) (by omega);omega
theorem jjU {b:Bool} {o k:Int} (h:0<=o/\o<64) (hk:0<k/\k<64):U.jlC b o k=0↔b=false/\o=0:=by
 unfold U.jlC;cases b with
 |false=>rw[if_neg (by simp)];simp
 |true=>
  rw[if_pos rfl,jt7 h ⟨by omega,by omega⟩];refine⟨fun h=>absurd h.2 (by omega),fun h=>absurd h.1 (by simp)⟩
theorem jcY {b:Bool} {o k:Int} (h:0<=o/\o<64) (hk:0<k/\k<64):U.juy b o k=0↔b=false/\o=0:=by
 unfold U.juy;cases b with
 |false=>rw[if_neg (by simp)];simp
 |true=>
  rw[if_pos rfl,jCB h ⟨by omega,by omega⟩];refine⟨fun h=>absurd h.2 (by omega),fun h=>absurd h.1 (by simp)⟩
theorem jp1 {b:Bool} {o k:Int} (h:0<=o/\o<64) (hk:0<k/\k<64):0<=U.juy b o k/\U.juy b o k<64:=by
 unfold U.juy
 split
 .exact jCC h ⟨by omega,hk.2⟩
 .exact h
theorem jpd (t:TkD):∀(q:List (Int×PeD×Unit)) (o:Int),(0<=o/\o<64)->(U.yL t o q=0↔o=0/\∀x∈q,U.kV t x.2.1=0)
 |[],o,_=>by
  show o=0↔_
  simp
 |x::q,o,h=>by
  have b:=jlg t x.2.1
  have a:=jpd t q (uor o (U.kV t x.2.1)) (jxM h ⟨by omega,by omega⟩)
  show U.yL t (uor o (U.kV t x.2.1)) q=0↔_
  rw[a,jt7 h ⟨by omega,by omega⟩]
  simp only[jG4,forall_eq_or_imp,and_assoc]
theorem jBY {t:Int} (h:BT.Set' t) (p:Int):U.jf1 t p=BT.has t p.toNat:=BT.has_ushr h p.toNat
theorem jDd {t:Int} (h:BT.Set' t) (p:Int):U.jf1 t p=U.jH t p:=(jBY h p).trans (wV h p).symm
theorem jc2 {t:TkD} {s:Int} (b:BT.Set' s) {x:Int×PeD×Unit}:x∈U.jhJ t s↔∃i:Nat,i<(U.je (U.tc t)).length/\U.jH s (i:Int)=true/\x=((i:Int),nth (U.je (U.tc t)) i,()):=by
 unfold U.jhJ U.wI;rw[jHy];refine⟨fun⟨i,hi,e⟩=> ?_,fun⟨i,c,a,e⟩=>⟨i,jHh.2 ⟨jHj.2 c,?_⟩,e.symm⟩⟩
 .have hi:=jHh.1 hi;have a:U.jf1 s (i:Int)=true:=hi.2;exact⟨i,jHj.1 hi.1,(jDd b _)▸a,e.symm⟩
 .show U.jf1 s (i:Int)=true;rw[jDd b];exact a
theorem jhq (c:CrD) (j:JbD) (t:Int):∀n,(0<=(U.zm c j t n).1/\(U.zm c j t n).1<64)/\((U.zm c j t n).1=0↔∀i:Nat,i<n->U.jH t (i:Int)=true->U.zw c j (i:Int)=true)/\
 ((U.zm c j t n).2=true↔∃i:Nat,i<n/\U.jH t (i:Int)=true/\U.jEC (nth (U.je c) i)=true)
 |0=>⟨by show(0:Int)<=0/\(0:Int)<64;omega,⟨fun _ i h=>absurd h (by omega),fun _=>rfl⟩,⟨fun h=>(by cases h),fun⟨i,h,_⟩=>absurd h (by omega)⟩⟩
 |n+1=>by
  obtain⟨l,o,p⟩:=jhq c j t n
  cases g:U.jH t (n:Int) with
  |false=>
   rw[jre g]
   refine⟨l,o.trans ⟨fun h i hi a=> ?_,fun h i hi=>h i (by omega)⟩,p.trans ⟨fun⟨i,hi,a⟩=>⟨i,by omega,a⟩,fun⟨i,hi,d,f⟩=>⟨i,?_,d,f⟩⟩⟩
   .by_cases e:i=n
    .subst e;rw[g] at a;cases a
    .exact h i (by omega) a
   .by_cases e:i=n
    .subst e;rw[g] at d;cases d
    .omega
  |true=>
   have e:U.zm c j t (n+1)=(U.juy (!U.jH (U.cl (nth (U.je c) n)) (U.jrw j)) (U.juy (!U.jH (U.fd (nth (U.je c) n)) (U.js7 j)) (U.juy (U.yf (nth (U.je c) n) (U.jAZ j)) (U.zm c j t n).1 1) 2) 4,(U.zm c j t n).2||U.jEC (nth (U.je c) n)):=by
    rw[jla];unfold U.jtR;rw[if_pos g]
   rw[e];have o1:=jp1 (b:=U.yf (nth (U.je c) n) (U.jAZ j)) (k:=1) l (by omega);have o2:=jp1 (b:= !U.jH (U.fd (nth (U.je c) n)) (U.js7 j)) (k:=2) o1 (by omega);have s:=jp1 (b:= !U.jH (U.cl (nth (U.je c) n)) (U.jrw j)) (k:=4) o2 (by omega);refine⟨s,?_,?_⟩
   .show U.juy _ _ 4=0↔_;rw[jcY o2 (by omega),jcY o1 (by omega),jcY l (by omega),o];have m:U.zw c j (n:Int)=(!(U.yf (nth (U.je c) n) (U.jAZ j))&&U.jH (U.fd (nth (U.je c) n)) (U.js7 j)&&U.jH (U.cl (nth (U.je c) n)) (U.jrw j)):=by
     unfold U.zw;rw[jG7]
    refine⟨fun⟨d,f,q,r⟩ i hi a=> ?_,fun h=> ?_⟩
    .by_cases e:i=n
     .subst e;rw[m];simp only[jHT] at d f;rw[d,f,q];rfl
     .exact r i (by omega) a
    .have:=h n (by omega) g;rw[m,jG3,jG3,jHB] at this;exact⟨by rw[this.2];rfl,by rw[this.1.2];rfl,this.1.1,fun i hi=>h i (by omega)⟩
   .show((U.zm c j t n).2||U.jEC (nth (U.je c) n))=true↔_;rw[jHX,p];refine⟨fun h=>h.elim (fun⟨i,hi,a⟩=>⟨i,by omega,a⟩) (fun h=>⟨n,by omega,g,h⟩),fun⟨i,hi,d,f⟩=> ?_⟩;by_cases e:i=n
    .subst e;exact .inr f
    .exact .inl ⟨i,by omega,d,f⟩
theorem jBT {c:CrD} {j:JbD} {t:Int} (d:BT.Set' t) (a b:Nat):U.jrv (c,j,U.yP c j,()) t a b=U.J3 c t (U.jxu (U.yP c j)) a b:=by
 unfold U.jrv U.J3 U.jcv U.jby;refine jHs.2 ?_;rw[jHF,jHF];refine⟨fun⟨x,g,h⟩=> ?_,fun⟨i,hi,h⟩=> ?_⟩
 .obtain⟨i,e,f,rfl⟩:=(jc2 d).1 g;refine⟨i,jHj.2 e,?_⟩;have h:U.jxu (U.yP c j)<=min (nth (U.lv (nth (U.je c) i)) ((a:Int)).toNat) (nth (U.lv (nth (U.je c) i)) ((b:Int)).toNat):=of_decide_eq_true h;rw[f,decide_eq_true (by omega:U.jxu (U.yP c j)<=nth (U.lv (nth (U.je c) i)) ((a:Int)).toNat),decide_eq_true (by omega:U.jxu (U.yP c j)<=nth (U.lv (nth (U.je c) i)) ((b:Int)).toNat)];rfl
 .rw[jG3,jG3,decide_eq_true_iff,decide_eq_true_iff] at h;refine⟨((i:Int),nth (U.je c) i,()),(jc2 d).2 ⟨i,jHj.1 hi,h.1.1,rfl⟩,?_⟩;exact decide_eq_true (show U.jxu (U.yP c j)<=min (nth (U.lv (nth (U.je c) i)) ((a:Int)).toNat) (nth (U.lv (nth (U.je c) i)) ((b:Int)).toNat) by have:=h.1.2;have:=h.2;omega)
theorem jEZ (c:CrD) (t lev:Int) (a b:Nat):U.J3 c t lev a b=U.J3 c t lev b a:=by
 unfold U.J3 U.jby;refine jHs.2 ?_;rw[jHF,jHF];constructor<;>
 .rintro⟨i,hi,h⟩;refine⟨i,hi,?_⟩;rw[jG3,jG3] at h⊢;exact⟨⟨h.1.1,h.2⟩,h.1.2⟩
theorem jFR {c:CrD} {j:JbD} {t:Int} (g:U.jl c=true) (d:U.jW c j=true) (f:BT.Set' t):nth (U.jbe (c,j,U.yP c j,()) t) (U.jrx j).toNat<0↔nth (U.jcG c t (U.jxu (U.yP c j)) (U.jrx j)) (U.jmC j).toNat<0:=by
 have h:=jcw d;have e:U.jrv (c,j,U.yP c j,()) t=U.J3 c t (U.jxu (U.yP c j)):=(by funext a b;exact jBT f a b);show nth (U.jF2 (U.jrv (c,j,U.yP c j,()) t) (U.la c).toNat (U.jmC j).toNat) (U.jrx j).toNat<0↔nth (U.zy (U.J3 c t (U.jxu (U.yP c j))) (U.la c).toNat (U.jrx j).toNat (U.la c).toNat) (U.jmC j).toNat<0;rw[e];exact(jEv (jEZ c t _) (by omega) (by omega)).symm
theorem jAL {c:CrD} {j:JbD} {t:Int} (a:BT.Set' t):(∀x∈U.jhJ (c,j,U.yP c j,()) t,U.kV (c,j,U.yP c j,()) x.2.1=0)↔∀i:Nat,i<(U.je c).length->U.jH t (i:Int)=true->U.zw c j (i:Int)=true:=by
 refine⟨fun h i hi e=>(jdf c j i).1 (h ((i:Int),nth (U.je c) i,()) ((jc2 a).2 ⟨i,hi,e,rfl⟩)),fun h x f=> ?_⟩;obtain⟨i,b,d,rfl⟩:=(jc2 a).1 f;exact(jdf c j i).2 (h i b d)
theorem jCq {c:CrD} {j:JbD} {t:Int} (d:BT.Set' t):U.jax (U.jhJ (c,j,U.yP c j,()) t)=U.jGz c j t:=by
 refine jHs.2 ?_;unfold U.jGz;rw[(jhq c j t (U.je c).length).2.2];unfold U.jax;rw[jHF];refine⟨fun⟨x,f,h⟩=> ?_,fun⟨i,a,b,e⟩=>⟨((i:Int),nth (U.je c) i,()),(jc2 d).2 ⟨i,a,b,rfl⟩,e⟩⟩;obtain⟨i,a,b,rfl⟩:=(jc2 d).1 f;exact⟨i,a,b,h⟩
theorem jtQ {c:CrD} {j:JbD} {t:Int} (n:U.jl c=true) (o:U.jW c j=true) (a:BT.Set' t):U.kC (c,j,U.yP c j,()) t=0↔U.jxc c j t=0:=by
 have f:=jhq c j t (U.je c).length;have g:=jrU (c,j,U.yP c j,()) (U.jhJ (c,j,U.yP c j,()) t) 0 (by omega);have i:=jjV (b:=decide (BT.size t≠max (U.jBS j) (U.jEe (U.yP c j)))) (k:=8) g (by omega);have q:=jjV (b:=(U.jGe (U.yP c j)&& !U.jax (U.jhJ (c,j,U.yP c j,()) t))) (k:=16) i (by omega);have d:0<=U.jGy c j t/\U.jGy c j t<64:=f.1;have e:=jp1 (b:=decide (BT.size t≠max (U.jBS j) (U.jEe (U.yP c j)))) (k:=8) d (by omega);have l:=jp1 (b:=(U.jGe (U.yP c j)&& !U.jGz c j t)) (k:=16) e (by omega);have m:U.kC (c,j,U.yP c j,()) t=U.jlC (decide (nth (U.jbe (c,j,U.yP c j,()) t) (U.jrx j).toNat<0)) (U.jlC (U.jGe (U.yP c j)&& !U.jax (U.jhJ (c,j,U.yP c j,()) t)) (U.jlC (decide (BT.size t≠max (U.jBS j) (U.jEe (U.yP c j)))) (U.yL (c,j,U.yP c j,()) 0 (U.jhJ (c,j,U.yP c j,()) t)) 8) 16) 32:=rfl;have p:U.jGy c j t=0↔U.yL (c,j,U.yP c j,()) 0 (U.jhJ (c,j,U.yP c j,()) t)=0:=by
  rw[jpd _ _ _ (by omega),jAL a];exact f.2.1.trans ⟨fun h=>⟨rfl,h⟩,fun h=>h.2⟩
 rw[m,jjU q (by omega),jjU i (by omega),jjU g (by omega)];unfold U.jxc;rw[jcY l (by omega),jcY e (by omega),jcY d (by omega),p,jCq a,decide_eq_false_iff_not,decide_eq_false_iff_not,jFR n o a,decide_eq_false_iff_not]
theorem jzU {d:DyD} (a:U.jgD d) {b:Int} (k:U.kz d b) {t:Int} (e:0<=t) (n:t<2^(U.je (U.jb d)).length):U.jat d b t=U.qL (U.jb d) (U.yJ (U.bk d b)) t:=by
 unfold U.kz at k;have h:U.jW (U.jb d) (U.yJ (U.bk d b))=true:=jzs a (b:=b.toNat) (by omega);have o:=(jep a.1).2;have m:BT.Set' t:=(by unfold BT.Set';omega);have i:U.kj (U.jb d) (U.yJ (U.bk d b))=0:=(by unfold U.kj;rw[a.1,h];rfl);have j:U.joe (U.jb d) t=true:=by
  unfold U.joe U.ja;rw[decide_eq_true e,decide_eq_true (by omega)];rfl
 have l:U.va (U.jb d) (U.yJ (U.bk d b)) t=0:=by
  unfold U.va;rw[if_neg (by rw[i];simp),j,if_pos rfl]
 have c:=jtQ a.1 h m;unfold U.jat U.qL U.jE8;rw[l,if_pos rfl];refine jHs.2 ?_;simp only[jG3,decide_eq_true_iff,true_and];rw[c];constructor
 .rintro⟨f,g⟩;exact⟨by omega,f⟩
 .rintro⟨f,g⟩;exact⟨g,by omega⟩
theorem jFO {d:DyD} {t:Int} (a:BT.Set' t):U.wb d t=U.wD (U.jb d) t:=by
 unfold U.wb U.wD;have:∀n,U.vT (U.je (U.jb d)) t n=U.wm (U.jb d) t n:=by
  intro n
  induction n with
  |zero=>rfl
  |succ n e=>
   have b:U.vT (U.je (U.jb d)) t (n+1)=U.vT (U.je (U.jb d)) t n+qH (t/2^n) 1*U.fe (nth (U.je (U.jb d)) n):=by
    unfold U.vT;rw[jHq,jHk];rfl
   have c:U.wm (U.jb d) t (n+1)=if U.jH t (n:Int)=true then U.wm (U.jb d) t n+U.fe (nth (U.je (U.jb d)) n) else U.wm (U.jb d) t n:=by
    unfold U.wm;rw[jHq,jHk];rfl
   rw[b,c,e,BT.bit_num a,wV a,jG7]
   split
   .rw[Int.one_mul]
   .rw[Int.zero_mul,Int.add_zero]
 exact this _
end Go.X
namespace Go.X
theorem jC7 (d:DyD) (b:Bool):U.ja0 d b=U.jxw d b:=by
 unfold U.ja0 U.jxw;rw[wC]
theorem jpj {d:DyD} (h:U.w5 d=0) {b:Nat} (a:b<(U.jq d).length):0<=nth (U.kf d).1 b/\nth (U.kf d).1 b<2^(U.je (U.jb d)).length:=by
 have c:=yl ((wC d).trans h);have e:=c.set b a;exact⟨e.1,BT.lt_of_has e (fun p f=>((c.bit b a p).1 f).1)⟩
theorem jDL (d:DyD):U.jh7 d=U.jGI d:=by
 unfold U.jh7 U.jGI;rw[wC];by_cases h:U.w5 d=0
 .rw[if_pos h,if_pos h,jDE h];unfold U.yh U.jCY;congr 1;refine List.filter_congr fun b a=> ?_
  have a:=jHj.1 a;have hk:=(wC d).trans h;have c:=jpj h a;show U.jat d (b:Int) (U.jA (U.jY (U.yI d)) (b:Int))=U.qL (U.jb d) (U.yJ (nth (U.jq d) b)) (nth (U.jd8 d) b);rw[jrX hk a,jmc h,jzU (jrc h) (by unfold U.kz;omega) c.1 c.2];rfl
 .rw[if_neg h,if_neg h]
theorem jhj (d:DyD) (t:List Int) (b:Int):∀n,n<=61->BT.Set' (U.jP d t b n)/\∀q,BT.has (U.jP d t b n) q=true↔q<n/\U.jas d t b q=true
 |0,_=>⟨BT.zero_set,fun q=>by rw[jwK,BT.has_zero];simp⟩
 |n+1,m=>by
  obtain⟨a,g⟩:=jhj d t b n (by omega)
  have i:=BT.two_set (k:=n) (by omega)
  rw[jmO]
  split
  .rename_i c
   have e:BT.has (U.jP d t b n) n=false:=by
    cases l:BT.has (U.jP d t b n) n with
    |false=>rfl
    |true=>have:=((g n).1 l).1;omega
   have j:=BT.add_two a (p:=n) (by omega) e;rw[j];refine⟨BT.bor_set a i,fun q=> ?_⟩;rw[BT.has_bor a i,BT.has_two,jHX,decide_eq_true_iff,g];refine⟨fun h=>h.elim (fun h=>⟨by omega,h.2⟩) (fun h=>by subst h;exact⟨by omega,c⟩),fun h=> ?_⟩;by_cases f:q=n
   .exact .inr f.symm
   .exact .inl ⟨by omega,h.2⟩
  .rename_i c;refine⟨a,fun q=> ?_⟩;rw[g];refine⟨fun h=>⟨by omega,h.2⟩,fun h=>⟨?_,h.2⟩⟩;by_cases f:q=n
   .subst f;exact absurd h.2 c
   .omega
theorem jzR {d:DyD} (h:U.w5 d=0) {b:Int} (m:U.kz d b) {p:Nat} (A:p<(U.je (U.jb d)).length):U.jkI (U.yI d) b p=U.jas d (U.jd8 d) b p:=by
 have hk:=(wC d).trans h;have s:=yl hk;have z:=gV hk;have n:=m;unfold U.kz at n;have v:((b.toNat:Nat):Int)=b:=(by omega);have i:=z.row p;have l:=s.set b.toNat (by omega);have g:U.jH (nth (U.jd8 d) b.toNat) (p:Int)=true↔b∈nth (U.jY (U.yI d)) p:=by
  rw[jmc h,wV l,jG7];refine(s.bit b.toNat (by omega) p).trans ?_;rw[v];exact⟨fun h=>h.2,fun h=>⟨A,h⟩⟩
 have j:(nth (U.jY (U.yI d)) p).any (fun x=>decide (x=b))=true↔b∈nth (U.jY (U.yI d)) p:=by
  rw[jHF];exact⟨fun⟨x,B,e⟩=>(of_decide_eq_true e)▸B,fun m=>⟨b,m,decide_eq_true rfl⟩⟩
 have u:(nth (U.jY (U.yI d)) p).any (fun x=>decide (x=b))=U.jH (nth (U.jd8 d) b.toNat) (p:Int):=jHs.2 (j.trans g.symm);unfold U.jkI U.jas;rw[u];cases t:U.jH (nth (U.jd8 d) b.toNat) (p:Int) with
 |true=>rfl
 |false=>
  have k:b∉nth (U.jY (U.yI d)) p:=fun q=>by rw[g.2 q] at t;cases t
  have y:(nth (U.jY (U.yI d)) p++[b]).Nodup:=jHZ.2 ⟨i.1,by simp,fun a w c f e=>by
   simp at f;subst f;subst e;exact k w⟩
  have o:∀c∈nth (U.jY (U.yI d)) p++[b],U.kz d c:=fun c f=>by
   rcases jHa.1 f with f|f
   .exact i.2 c f
   .simp at f;subst f;exact m
  have r:U.jn0 d (p:Int):=⟨jHu _,by omega⟩;have:=jDo (jrc h) s (p:=(p:Int)) (b:=b) r y o;rw[jmc h,<-this];rfl
theorem jzQ {d:DyD} (h:U.w5 d=0) {b:Int} (g:U.kz d b):U.jp (U.yI d) b=U.qS (U.jcF d (U.jd8 d) b) (U.je (U.jb d)).length:=by
 have hk:=(wC d).trans h;have i:=gV hk;have j:(U.je (U.jb d)).length<=8:=(jv (jrc h).1).2.2.1;have c:=jhj d (U.jd8 d) b (U.je (U.jb d)).length (by omega);unfold U.jp U.kx U.qS;rw[i.len];congr 1;refine List.filter_congr fun p a=> ?_
 have a:=jHj.1 a;rw[jzR h g a];have e:U.jH (U.jcF d (U.jd8 d) b) (p:Int)=BT.has (U.jcF d (U.jd8 d) b) p:=wV c.1 p;rw[e];refine jHs.2 ?_;exact⟨fun f=>(c.2 p).2 ⟨a,f⟩,fun f=>((c.2 p).1 f).2⟩
theorem jEp (d:DyD) (b:Int):U.kD d b=U.jFP d b:=by
 unfold U.kD U.jFP;rw[jC7];by_cases h:U.jxw d (U.jh d b)=0
 .rw[if_pos h,if_pos h];have hk:=joB h;exact jzQ hk.1 (js9 hk.2)
 .rw[if_neg h,if_neg h]
theorem jCc {d:DyD} (h:U.w5 d=0) {b:Int} (m:U.kz d b):U.jbA d b=U.jcF d (U.jd8 d) b:=by
 have hk:=(wC d).trans h;have r:(U.je (U.jb d)).length<=8:=(jv (jrc h).1).2.2.1;have c:=jhj d (U.jd8 d) b (U.je (U.jb d)).length (by omega);have i:∀q:Nat,U.jH (U.jcF d (U.jd8 d) b) (q:Int)=BT.has (U.jcF d (U.jd8 d) b) q:=fun q=>wV c.1 q
 have l:=fun p (g:p∈U.jp (U.yI d) b)=>juX (gV hk) g
 have n:BT.Set' (U.jbA d b):=(yj l _ (jG5 _)).1;refine BT.ext n c.1 fun q=> ?_
 have e:BT.has (U.jbA d b) q=(U.jp (U.yI d) b).any (fun p=>decide (p.toNat=q)):=jpI l q;rw[e,jzQ h m];refine jHs.2 ?_;rw[jHF];unfold U.qS;refine⟨fun⟨x,o,a⟩=> ?_,fun k=> ?_⟩
 .obtain⟨p,g,rfl⟩:=jHy.1 o;have a:((p:Int)).toNat=q:=of_decide_eq_true a;have a:p=q:=(by omega);subst a;have j:U.jH (U.jcF d (U.jd8 d) b) (p:Int)=true:=(jHh.1 g).2;rw[i p] at j;exact j
 .have f:=((c.2 q).1 k).1;refine⟨(q:Int),jHy.2 ⟨q,jHh.2 ⟨jHj.2 f,?_⟩,rfl⟩,decide_eq_true (by omega)⟩;show U.jH (U.jcF d (U.jd8 d) b) (q:Int)=true;rw[i q];exact k
theorem jCE {s all:Int} (a:BT.Set' s) (c:BT.Set' all) (h:zx s all=0):s<=all:=by
 have e:qH s all=s:=by
  refine BT.ext (BT.band_set a c) a fun p=> ?_
  rw[BT.has_band a c];have b:=BT.has_bandn a c p;rw[h,BT.has_zero] at b;cases d:BT.has s p with
  |false=>rfl
  |true=>
   rw[d] at b;cases f:BT.has all p with
   |true=>rfl
   |false=>rw[f] at b;cases b
 obtain⟨n,rfl,i⟩:=BT.nat_of a;obtain⟨m,rfl,g⟩:=BT.nat_of c;rw[BT.band_nat (BT.lt63 i) (BT.lt63 g)] at e;have:n&&&m<=m:=Nat.and_le_right;omega
theorem jDJ {d:DyD} (f:U.jgD d) {b:Int} (h:U.kz d b) {all t:Int} (j:0<=t) (k:t<2^(U.je (U.jb d)).length) {s:Nat} (i:s<2^(U.je (U.jb d)).length) (x:Int×Int×Bool):U.jiS d b all t x s=U.jgg d b all t x s:=by
 have l:=(jep f.1).2;have e:(s:Int)<2^(U.je (U.jb d)).length:=(by rw[BT.two_nat];exact Int.ofNat_lt.2 i);have ss:BT.Set' (s:Int):=(by unfold BT.Set';omega);have st:BT.Set' t:=(by unfold BT.Set';omega);have g:=BT.bor_set st ss;have c:bor t (s:Int)<2^(U.je (U.jb d)).length:=BT.lt_of_has g fun p a=>by
  rw[BT.has_bor st ss,jHX] at a;rcases a with a|a
  .exact BT.has_lt j k a
  .exact BT.has_lt (by omega) e a
 unfold U.jiS U.jgg;rw[jzU f h g.1 c,jFO ss];generalize decide (zx (s:Int) all=0)=A;generalize U.qL (U.jb d) (U.yJ (U.bk d b)) (bor t (s:Int))=F;generalize (!x.2.2||decide (U.wD (U.jb d) (s:Int)<x.2.1))=G;cases A<;>cases F<;>cases G<;>rfl
theorem ju2 {d:DyD} (a:U.jgD d) {b:Int} (c:U.kz d b) {all t:Int} (e:0<=t) (f:t<2^(U.je (U.jb d)).length):∀n,n<=2^(U.je (U.jb d)).length->U.j9 d b all t n=U.yD d b all t n
 |0,_=>rfl
 |n+1,g=>by
  rw[jmQ,jmP,ju2 a c e f n (by omega),jDJ a c e f (by omega)]
theorem ju1 {d:DyD} {b all t:Int} (c:BT.Set' all) {n:Nat} (e:all.toNat<n):∀k,n+k<=1000->U.yD d b all t (n+k)=U.yD d b all t n
 |0,_=>rfl
 |k+1,hk=>by
  rw[<-jIa,jmP,ju1 c e k (by omega)]
  unfold U.jgg
  have a:¬zx ((n+k:Nat):Int) all=0:=fun h=>by
   have:=jCE (by unfold BT.Set';omega) c h
   omega
  rw[decide_eq_false a,Bool.false_and,Bool.false_and,if_neg (by simp)]
theorem jzZ {d:DyD} (h:U.w5 d=0) {b:Int} (g:U.kz d b):U.jz0 d b=U.jqL d b:=by
 have hk:=(wC d).trans h;have m:=jrc h;have i:=g;unfold U.kz at i;have r:(U.je (U.jb d)).length<=8:=(jv m.1).2.2.1;have q:(2:Nat)^(U.je (U.jb d)).length<=2^8:=jIc (by decide) r;have s:=jhj d (U.jd8 d) b (U.je (U.jb d)).length (by omega);have l:=juZ d (U.jd8 d) b (U.je (U.jb d)).length;have f:=jpj h (b:=b.toNat) (by omega);have n:=jrX hk (b:=b.toNat) (by omega);have o:((b.toNat:Nat):Int)=b:=(by omega);rw[o] at n;have c:0<=U.jcF d (U.jd8 d) b/\U.jcF d (U.jd8 d) b<2^(U.je (U.jb d)).length:=l;have e:(U.jcF d (U.jd8 d) b).toNat+1<=2^(U.je (U.jb d)).length:=by
  have p:=c.2;rw[BT.two_nat] at p;omega
 have a:BT.Set' (U.jcF d (U.jd8 d) b):=s.1;unfold U.jz0 U.jqL;rw[jCc h g,n,jmc h];rw[jmc h] at e a;rw[ju2 m g f.1 f.2 _ e];obtain⟨k,j⟩:∃k,2^(U.je (U.jb d)).length=((U.jcF d (U.kf d).1 b).toNat+1)+k:=⟨2^(U.je (U.jb d)).length-((U.jcF d (U.kf d).1 b).toNat+1),by omega⟩;rw[j];exact(ju1 a (by omega) k (by omega)).symm
theorem jFN (d:DyD) (b:Int):U.zk d b=U.jEr d b/\U.gA d b=U.jEq d b/\U.kJ d b=U.jwM d b:=by
 have e:U.kJ d b=U.jwM d b:=by
  unfold U.kJ U.jwM;rw[jC7];by_cases h:U.jxw d (U.jh d b)=0
  .have hk:=joB h;rw[if_pos h,if_pos h,jzZ hk.1 (js9 hk.2)]
  .rw[if_neg h,if_neg h]
 have ex:U.kJ d b=0->U.jz0 d b=U.jqL d b:=fun a=>by
  by_cases h:U.jxw d (U.jh d b)=0
  .have hk:=joB h;exact jzZ hk.1 (js9 hk.2)
  .rw[e] at a;unfold U.jwM at a;rw[if_neg h] at a;exact absurd a h
 unfold U.zk U.gA U.jEr U.jEq;rw[<-e];by_cases a:U.kJ d b=0
 .rw[if_pos a,if_pos a,if_pos a,if_pos a,ex a];exact⟨rfl,rfl,rfl⟩
 .rw[if_neg a,if_neg a,if_neg a,if_neg a];exact⟨rfl,rfl,rfl⟩
end Go.X
