/-
  Part 6 of the road: a checked reading of bodies, and what the functions on it do (B7 P14 B8 P15 C1 PC1 PC2 PC3 PC4 C2 PC5 PC6 PC7 PC8 C3 PC9 SL PC10 S1 S2 S3 PC11 C4 PC12 PC13 PC14 S4 S5).
-/
import Derived.Test.YtclaaimmhneipaaGreatDoorK05
namespace Go.X
open U
open Go.Proofs
abbrev tSe:Ty:= .st [.ptr tRo,.slice (.slice .int),.slice .int,.slice .int,.int,.bool]
abbrev jgY:Sh:= .box 71 [.dat (.ptr tRo),.row 31 (.slice .int) .unk,.row 3 .int .no,.row 3 .int .unk,.dat .int,.dat .bool]
abbrev SeD:Type:=Option RoD×List (List Int)×List Int×List Int×Int×Bool×Unit
abbrev StD:Type:=List Int×List Int×Int×Bool
namespace U
def vV (ts:List Int) (p:Int) (n:Nat):List Int:=((List.range n).filter (fun i=>decide (bI (nth ts i/2^p.toNat) 1=1))).map (fun(i:Nat)=>(i:Int))
def gG (r:RoD) (ts:List Int) (b n:Nat):Bool:=(List.range n).all (fun p=>ij r (p:Int) (vV ts (p:Int) (b+1)))
def yG (r:RoD) (ch:List (List Int)):Nat->Nat->Int->StD->StD
 |0,_,_,x=>x
 |k+1,b,fee,x=>
  if(x.2.2.2&&decide (x.2.2.1<=fee))=true then x
  else if b=(kH (rd r)).length then(x.1,x.1,fee,true)
  else(nth ch b).foldl (fun x t=>if gG r (x.1.set b t) b (yr r).length=true then yG r ch k (b+1) (fee+gn (rd r) t) (x.1.set b t,x.2) else(x.1.set b t,x.2)) x
def eD (r:RoD) (ch:List (List Int)) (k b:Nat) (fee:Int) (x:StD) (t:Int):StD:=
 if gG r (x.1.set b t) b (yr r).length=true then yG r ch k (b+1) (fee+gn (rd r) t) (x.1.set b t,x.2) else(x.1.set b t,x.2)
def kW (r:RoD) (ch:List (List Int)) (k b:Nat) (fee:Int) (x:StD) (n:Nat):StD:=((nth ch b).take n).foldl (eD r ch k b fee) x
def kQ (s:SeD):StD:=(s.2.2.1,s.2.2.2.1,s.2.2.2.2.1,s.2.2.2.2.2.1)
def b7 (s:SeD) (x:StD):SeD:=(s.1,s.2.1,x.1,x.2.1,x.2.2.1,x.2.2.2,())
def okCh (d:DyD) (ch:List (List Int)):Prop:=ch.length=(kH d).length/\∀l∈ch,∀t∈l,0<=t/\t<256
def UH (k:Nat) (s:SeD) (b fee:Int):Prop:=s.1.isSome=true/\Nw (ro s.1)/\(yr (ro s.1)).length=(kI (kD (rd (ro s.1)))).length/\okCh (rd (ro s.1)) s.2.1/\s.2.2.1.length=(kH (rd (ro s.1))).length/\
 (0<=b/\b<=((kH (rd (ro s.1))).length:Int)/\((kH (rd (ro s.1))).length:Int)<b+k)/\0<=fee/\fee<=8000*b
end U
def dL:qC:=⟨[.own (.cl (.row 3 .int .no)) true],[rwI],fun d=>[d.1.length<=100000],fun d=>((d.1,()),(d.1,()))⟩
def uk:Prop:=∀(d:List Int×Unit),d.1.length<=100000->(false=true->([],())=d/\d=d)/\(qF->(0+d.1.length)*8<=140737488355328/\([]++d.1,())=d/\d=d)
def bM (k:Nat):qC:=⟨[.own jgY true,.val .int,.val .int],[],fun d=>[UH k d.1 d.2.1 d.2.2.1],fun d=>((),(b7 d.1 (yG (U.ro d.1.1) d.1.2.1 k d.2.1.toNat d.2.2.1 (kQ d.1)),()))⟩
def BO (k:Nat):Ann:=fun r=>match r with
 |4=>some fun σ=>{X:=Nat,sl:=fun i=>[(58,.dat .int (i:Int)),(53,.any),(55,.any)],ob:=fun i=>[(1000000,some (.box 71 false (((bx σ 1000000).set 4 (.dat .int (kW (U.ro (gb tSe σ 1000000).1) (gb tSe σ 1000000).2.1 k (gd .int σ 1).toNat (gd .int σ 2) (kQ (gb tSe σ 1000000)) i).2.2.1)).set 5 (.dat .bool (kW (U.ro (gb tSe σ 1000000).1) (gb tSe σ 1000000).2.1 k (gd .int σ 1).toNat (gd .int σ 2) (kQ (gb tSe σ 1000000)) i).2.2.2)))),(400002,some (.row 3 .int false .no (kW (U.ro (gb tSe σ 1000000).1) (gb tSe σ 1000000).2.1 k (gd .int σ 1).toNat (gd .int σ 2) (kQ (gb tSe σ 1000000)) i).1)),(400003,some (.row 3 .int false .unk (kW (U.ro (gb tSe σ 1000000).1) (gb tSe σ 1000000).2.1 k (gd .int σ 1).toNat (gd .int σ 2) (kQ (gb tSe σ 1000000)) i).2.1))],inv:=fun i=>i<=(nth (gb tSe σ 1000000).2.1 (gd .int σ 1).toNat).length/\(kW (U.ro (gb tSe σ 1000000).1) (gb tSe σ 1000000).2.1 k (gd .int σ 1).toNat (gd .int σ 2) (kQ (gb tSe σ 1000000)) i).1.length=(gb tSe σ 1000000).2.2.1.length,mu:=fun i=>(nth (gb tSe σ 1000000).2.1 (gd .int σ 1).toNat).length-i}
 |8=>some fun σ=>{X:=Nat,sl:=fun p=>[(77,.dat .int (p:Int))],ob:=fun _=>[],inv:=fun p=>p<=(yr (U.ro (gb tSe σ 1000000).1)).length/\gG (U.ro (gb tSe σ 1000000).1) (gr .int σ 400002) (gd .int σ 1).toNat p=true,mu:=fun p=>(yr (U.ro (gb tSe σ 1000000).1)).length-p}
 |12=>some fun σ=>{X:=Nat,sl:=fun i=>[(88,.dat .int (i:Int)),(9,.own 9 .int)],ob:=fun i=>[(9,some (.row 3 .int false .yes (vV (gr .int σ 400002) (gd .int σ 8) i)))],inv:=fun i=>i<=(gd .int σ 1).toNat+1,mu:=fun i=>(gd .int σ 1).toNat+1-i}
 |_=>none
def EW:Prop:=∀k:Nat,SR (ctx 125 [(45,nG),(46,nI)] [(44,dL),(22,bM k)]) (BO k) Tryz.f22 (wK Tryz.f22) (bM (k+1))
abbrev jhn (d:(Option RoD×List (List Int)×List Int×List Int×Int×Bool×Unit)×Int×Int×Unit)(k:Nat)(x:Nat):=(kW (U.ro d.1.1) d.1.2.1 k d.2.1.toNat d.2.2.1 (kQ d.1) x)
abbrev jhV (d:(Option RoD×List (List Int)×List Int×List Int×Int×Bool×Unit)×Int×Int×Unit)(k:Nat)(a:Nat):=(kW (U.ro d.1.1) d.1.2.1 k d.2.1.toNat d.2.2.1 (kQ d.1) a)
abbrev jiT (d:(Option RoD×List (List Int)×List Int×List Int×Int×Bool×Unit)×Int×Int×Unit):=(wg ((((0:Int),[],[],()),[],[],(0:Int),(0:Int),[],()),[],[],[],()) d.1.1)
abbrev jho (d:(Option RoD×List (List Int)×List Int×List Int×Int×Bool×Unit)×Int×Int×Unit):=(nth d.1.2.1 d.2.1.toNat)
abbrev jhC (d:(Option RoD×List (List Int)×List Int×List Int×Int×Bool×Unit)×Int×Int×Unit)(k:Nat)(x:Nat):=((jhn d k x).1.set d.2.1.toNat (nth (jho d) (x:Int).toNat))
abbrev jkk (d:(Option RoD×List (List Int)×List Int×List Int×Int×Bool×Unit)×Int×Int×Unit)(k:Nat)(x:Nat):=(d.1.1,d.1.2.1,(jhn d k x).1.set d.2.1.toNat (nth (jho d) (x:Int).toNat),(jhn d k x).2.1,(jhn d k x).2.2.1,(jhn d k x).2.2.2,())
abbrev jiU (d:(Option RoD×List (List Int)×List Int×List Int×Int×Bool×Unit)×Int×Int×Unit)(k:Nat)(x:Nat):=(b7 (jkk d k x) (yG (U.ro d.1.1) d.1.2.1 k (d.2.1+1).toNat (d.2.2.1+gn (U.rd (U.ro d.1.1)) (nth (jho d) (x:Int).toNat)) (kQ (jkk d k x))))
abbrev jkl (d:(Option RoD×List (List Int)×List Int×List Int×Int×Bool×Unit)×Int×Int×Unit)(k:Nat):=(b7 d.1 (yG (U.ro d.1.1) d.1.2.1 (k+1) d.2.1.toNat d.2.2.1 (kQ d.1)),())
def lN:Prop:=∀(k:Nat) (d:(Option RoD×List (List Int)×List Int×List Int×Int×Bool×Unit)×Int×Int×Unit),UH (k+1) d.1 d.2.1 d.2.2.1->((d.1.q4.2.1&&decide (d.1.q4.1<=d.2.2.1))=true->()=()/\(d.1,())=(jkl d k))/\((d.1.q4.2.1&&decide (d.1.q4.1<=d.2.2.1))=false->d.1.1.isSome=true/\((jiT d).1.2.2.1.length<4611686018427387904->(decide (d.2.1=(↑(jiT d).1.2.2.1.length:Int))=true->d.1.2.2.1.length<=100000/\()=()/\((d.1.1,d.1.2.1,d.1.2.2.1,d.1.2.2.1,d.2.2.1,true,()),())=(jkl d k))/\(decide (d.2.1=(↑(jiT d).1.2.2.1.length:Int))=false->0<=d.2.1/\d.2.1<(d.1.2.1.length:Int)/\((jho d).length<4611686018427387904->(∃(x:Nat),((0=(x:Int)/\True)/\(d.1.1=d.1.1/\True/\True/\True/\d.1.q4.1=(jhn d k x).2.2.1/\d.1.q4.2.1=(jhn d k x).2.2.2/\True)/\d.1.2.2.1=(jhn d k x).1/\d.1.2.2.2.1=(jhn d k x).2.1/\True)/\x<=(jho d).length/\(jhn d k x).1.length=d.1.2.2.1.length)/\∀(x:Nat),x<=(jho d).length/\(jhn d k x).1.length=d.1.2.2.1.length->(decide ((x:Int)<(jho d).length)=true->0<=(x:Int)/\(x:Int)<(jho d).length/\0<=d.2.1/\d.2.1<(↑(jhn d k x).1.length:Int)/\d.1.1.isSome=true/\((jiT d).2.2.1.length<4611686018427387904->(∃(a:Nat),((0=(a:Int)/\True)/\True)/\a<=(yr (U.ro d.1.1)).length/\gG (U.ro d.1.1) (jhC d k x) d.2.1.toNat a=true)/\∀(a:Nat),a<=(yr (U.ro d.1.1)).length/\gG (U.ro d.1.1) (jhC d k x) d.2.1.toNat a=true->(decide ((a:Int)<(jiT d).2.2.1.length)=true->kU (d.2.1+1)/\(0:Int)<=0/\0<=d.2.1+1/\d.2.1+1<=(↑(jhC d k x).length:Int)/\((d.2.1+1).toNat-Int.toNat 0<4611686018427387904->(∃(b:Nat),((0=(b:Int)/\True/\True)/\vV (jhC d k x) (a:Int) b=[]/\True)/\b<=d.2.1.toNat+1)/\∀(b:Nat),b<=d.2.1.toNat+1->(decide ((b:Int)<(↑((d.2.1+1).toNat-Int.toNat 0):Int))=true->0<=(b:Int)/\(b:Int)<(↑((d.2.1+1).toNat-Int.toNat 0):Int)/\0<=(a:Int)/\(a:Int)<=64/\(decide (bI (nth (jhC d k x) (Int.toNat 0+(b:Int).toNat)/(2:Int)^(a:Int).toNat) (1:Int)=1)=true->((vV (jhC d k x) (a:Int) b).length+[(b:Int)].length)*8<=140737488355328/\kU ((b:Int)+1)/\∃(c:Nat),(((b:Int)+1=(c:Int)/\True/\True)/\vV (jhC d k x) (a:Int) b++[(b:Int)]=vV (jhC d k x) (a:Int) c/\True)/\c<=d.2.1.toNat+1/\d.2.1.toNat+1-c<d.2.1.toNat+1-b)/\(decide (bI (nth (jhC d k x) (Int.toNat 0+(b:Int).toNat)/(2:Int)^(a:Int).toNat) (1:Int)=1)=false->kU ((b:Int)+1)/\∃(c:Nat),((True/\(b:Int)+1=(c:Int)/\True)/\vV (jhC d k x) (a:Int) b=vV (jhC d k x) (a:Int) c/\True)/\c<=d.2.1.toNat+1/\d.2.1.toNat+1-c<d.2.1.toNat+1-b))/\(decide ((b:Int)<(↑((d.2.1+1).toNat-Int.toNat 0):Int))=false->d.1.1.isSome=true/\Nw (U.ro d.1.1)/\Sb (U.rd (U.ro d.1.1)) (a:Int)/\Nv (U.rd (U.ro d.1.1)) (vV (jhC d k x) (a:Int) b)/\((!ij (U.ro d.1.1) (a:Int) (vV (jhC d k x) (a:Int) b))=true->kU ((x:Int)+1)/\∃(c:Nat),(((x:Int)+1=(c:Int)/\True)/\(jhn d k x).2.1=(jhV d k c).2.1/\(d.1.1=d.1.1/\True/\True/\True/\(jhn d k x).2.2.1=(jhV d k c).2.2.1/\(jhn d k x).2.2.2=(jhV d k c).2.2.2/\True)/\(jhn d k x).1.set d.2.1.toNat (nth (jho d) (x:Int).toNat)=(jhV d k c).1/\True)/\(c<=(jho d).length/\(jhV d k c).1.length=d.1.2.2.1.length)/\(jho d).length-c<(jho d).length-x)/\((!ij (U.ro d.1.1) (a:Int) (vV (jhC d k x) (a:Int) b))=false->kU ((a:Int)+1)/\∃(c:Nat),(((a:Int)+1=(c:Int)/\True)/\True)/\(c<=(yr (U.ro d.1.1)).length/\gG (U.ro d.1.1) (jhC d k x) d.2.1.toNat c=true)/\(yr (U.ro d.1.1)).length-c<(yr (U.ro d.1.1)).length-a))))/\(decide ((a:Int)<(jiT d).2.2.1.length)=false->kU (d.2.1+1)/\d.1.1.isSome=true/\kZ (kD (U.rd (U.ro d.1.1)))=true/\0<=nth (jho d) (x:Int).toNat/\nth (jho d) (x:Int).toNat<=1000000/\kU (d.2.2.1+gn (U.rd (U.ro d.1.1)) (nth (jho d) (x:Int).toNat))/\UH k (jkk d k x) (d.2.1+1) (d.2.2.1+gn (U.rd (U.ro d.1.1)) (nth (jho d) (x:Int).toNat))/\kU ((x:Int)+1)/\∃(c:Nat),(((x:Int)+1=(c:Int)/\True)/\((jiU d k x).1=d.1.1/\True/\True/\True/\(jiU d k x).q4.1=(jhV d k c).2.2.1/\(jiU d k x).q4.2.1=(jhV d k c).2.2.2/\True)/\(jiU d k x).2.1=d.1.2.1/\(jiU d k x).2.2.2.1=(jhV d k c).2.1/\(jiU d k x).2.2.1=(jhV d k c).1/\True)/\(c<=(jho d).length/\(jhV d k c).1.length=d.1.2.2.1.length)/\(jho d).length-c<(jho d).length-x)))/\(decide ((x:Int)<(jho d).length)=false->()=()/\((d.1.1,d.1.2.1,(jhn d k x).1,(jhn d k x).2.1,(jhn d k x).2.2.1,(jhn d k x).2.2.2,()),())=(jkl d k))))))
theorem sa:(EW)=lN:=by kernel_rfl
theorem xY:uk:=by
 rintro⟨l,⟨⟩⟩ a;have a:l.length<=100000:=a;exact⟨fun h=>(by cases h),fun _=>⟨by show(0+l.length)*8<=_;omega,rfl,rfl⟩⟩
theorem ul:ga PR 44 dL:=AW xY Tryz.func44 kcN koN
theorem TB (ts:List Int) (p:Int) (n:Nat):vV ts p (n+1)=vV ts p n++(if decide (bI (nth ts n/2^p.toNat) 1=1)=true then[(n:Int)] else[]):=by
 unfold vV;rw[L.vD,j7];by_cases h:decide (bI (nth ts n/2^p.toNat) 1=1)=true;rw[jd h,jd h];rfl;rw[jc h,jc h];rfl
theorem Mm (ts:List Int) (p:Int) (n:Nat):(vV ts p n).length<=n:=by
 unfold vV;rw[zc];exact jF (zH _ _) (by simp)
theorem WZ {ts:List Int} {p:Int} {n:Nat} {b:Int} (h:b∈vV ts p n):0<=b/\b<(n:Int):=by
 unfold vV at h;obtain⟨i,hi,rfl⟩:=jG.1 h;have:=jp.1 (jD.1 hi).1;omega
theorem PA {r:RoD} {ts:List Int} {b n:Nat}:gG r ts b (n+1)=(gG r ts b n&&ij r (n:Int) (vV ts (n:Int) (b+1))):=by
 unfold gG;rw[jN,List.all_append];simp
theorem Mn {r:RoD} {ts:List Int} {b n m:Nat} (a:m<n) (h:ij r (m:Int) (vV ts (m:Int) (b+1))=false):gG r ts b n=false:=by
 unfold gG;rw[zS];exact⟨m,jp.2 a,by rw[h];simp⟩
theorem Mo {r:RoD} {ch:List (List Int)} {k b:Nat} {fee:Int} {x:StD} {n:Nat} (h:n<(nth ch b).length):kW r ch k b fee x (n+1)=eD r ch k b fee (kW r ch k b fee x n) (nth (nth ch b) n):=by
 unfold kW;rw[L.kT h,jz];rfl
theorem EX {r:RoD} {ch:List (List Int)} {k b:Nat} {fee:Int} {x:StD} (a:(x.2.2.2&&decide (x.2.2.1<=fee))=false) (c:b≠(kH (U.rd r)).length):yG r ch (k+1) b fee x=kW r ch k b fee x (nth ch b).length:=by
 show(if(x.2.2.2&&decide (x.2.2.1<=fee))=true then x else if b=(kH (U.rd r)).length then(x.1,x.1,fee,true) else(nth ch b).foldl (eD r ch k b fee) x)=_;rw[a,jc (by simp),jc c];unfold kW;rw[zp (jj _)]
mutual
theorem Z2 {r:RoD} {ch:List (List Int)}:∀(k b:Nat) (fee:Int) (x:StD),(yG r ch k b fee x).1.length=x.1.length
 |0,_,_,_=>rfl
 |k+1,b,fee,x=>by
  by_cases a:(x.2.2.2&&decide (x.2.2.1<=fee))=true
  .show(if(x.2.2.2&&decide (x.2.2.1<=fee))=true then x else _).1.length=_
   rw[jd a]
  .by_cases c:b=(kH (U.rd r)).length
   .show(if(x.2.2.2&&decide (x.2.2.1<=fee))=true then x else if b=(kH (U.rd r)).length then(x.1,x.1,fee,true) else _).1.length=_
    rw[jc a,jd c]
   .rw[EX (by simpa using a) c]
    exact Jq k b fee x _ (jj _)
termination_by k=>(k,0)
theorem Jq {r:RoD} {ch:List (List Int)}:∀(k b:Nat) (fee:Int) (x:StD) (n:Nat),n<=(nth ch b).length->(kW r ch k b fee x n).1.length=x.1.length
 |_,_,_,_,0,_=>rfl
 |k,b,fee,x,n+1,h=>by
  rw[Mo h]
  have d:=Jq (r:=r) (ch:=ch) k b fee x n (by omega)
  unfold eD
  split
  .rw[Z2 k]
   show((kW r ch k b fee x n).1.set b _).length=_
   rw[zA,d]
  .show((kW r ch k b fee x n).1.set b _).length=_
   rw[zA,d]
termination_by k _ _ _ n=>(k,n+1)
end
theorem EY:lN:=by
 unfold lN jkl jiU jkk jhC jho jiT jhV jhn Prod.q4;rintro k ⟨s,b,fee,⟨⟩⟩ h0;obtain⟨g,d,Q,⟨M,D⟩,S,⟨T,b1,b2⟩,f0,f1⟩:UH (k+1) s b fee:=h0;obtain⟨B,hB⟩:∃B:Nat,b=(B:Int):=⟨b.toNat,by omega⟩;subst hB;have I:=d.1;have hb4:(kH (U.rd (U.ro s.1))).length<=4:=(qv I.2.2).1;have h8:(kI (kD (U.rd (U.ro s.1)))).length<=8:=(wI I.1).2.2.1;refine⟨fun h=>⟨rfl,?_⟩,fun h=>⟨g,fun _=>⟨fun A=>⟨?_,rfl,?_⟩,fun A=> ?_⟩⟩⟩;have h:((kQ s).2.2.2&&decide ((kQ s).2.2.1<=fee))=true:=h;have e:yG (U.ro s.1) s.2.1 (k+1) B fee (kQ s)=kQ s:=by
  show(if((kQ s).2.2.2&&decide ((kQ s).2.2.1<=fee))=true then kQ s else _)=_;rw[jd h]
 show(s,())=(b7 s (yG (U.ro s.1) s.2.1 (k+1) B fee (kQ s)),());rw[e];rfl;show s.2.2.1.length<=100000;omega;have A:(B:Int)=(kH (U.rd (U.ro s.1))).length:=ja A;have h:((kQ s).2.2.2&&decide ((kQ s).2.2.1<=fee))=false:=h;have e:yG (U.ro s.1) s.2.1 (k+1) B fee (kQ s)=(s.2.2.1,s.2.2.1,fee,true):=by
  show(if((kQ s).2.2.2&&decide ((kQ s).2.2.1<=fee))=true then kQ s else if B=(kH (U.rd (U.ro s.1))).length then((kQ s).1,(kQ s).1,fee,true) else _)=_;rw[h,jc (by simp),jd (by omega)];rfl
 show((s.1,s.2.1,s.2.2.1,s.2.2.1,fee,true,()),())=(b7 s (yG (U.ro s.1) s.2.1 (k+1) B fee (kQ s)),());rw[e];rfl;have A:¬(B:Int)=(kH (U.rd (U.ro s.1))).length:=je A;have h:((kQ s).2.2.2&&decide ((kQ s).2.2.1<=fee))=false:=h;have hBn:B<(kH (U.rd (U.ro s.1))).length:=(by omega);have C:=EX (r:=U.ro s.1) (ch:=s.2.1) (k:=k) (b:=B) (fee:=fee) h (by omega);have u:kU ((B:Int)+1):=iZ6;have K:0<=(B:Int)+1:=(by omega);refine⟨T,by show(B:Int)<s.2.1.length;omega,fun E=>⟨⟨0,⟨⟨rfl,tZ⟩,⟨rfl,tZ,tZ,tZ,rfl,rfl,tZ⟩,rfl,rfl,tZ⟩,jt _,rfl⟩,fun x Z=>⟨fun z=> ?_,fun z=>⟨rfl,?_⟩⟩⟩⟩;have z:(x:Int)<(nth s.2.1 B).length:=ja z;have E:(nth s.2.1 B).length<4611686018427387904:=E;have m:x<(nth s.2.1 B).length:=(by omega);obtain⟨_,F⟩:x<=(nth s.2.1 B).length/\(kW (U.ro s.1) s.2.1 k B fee (kQ s) x).1.length=s.2.2.1.length:=Z;have f:=Mo (r:=U.ro s.1) (ch:=s.2.1) (k:=k) (b:=B) (fee:=fee) (x:=kQ s) m;have o:=Jq (r:=U.ro s.1) (ch:=s.2.1) k B fee (kQ s) (x+1) (by omega);have o:(kW (U.ro s.1) s.2.1 k B fee (kQ s) (x+1)).1.length=s.2.2.1.length:=o;have Y:=D _ (L.kJ (l:=s.2.1) (i:=B) (by omega)) _ (L.kJ m);have up:x+1<=(nth s.2.1 B).length:=m;have V:(nth s.2.1 B).length-(x+1)<(nth s.2.1 B).length-x:=(by omega);have tl:((kW (U.ro s.1) s.2.1 k B fee (kQ s) x).1.set B (nth (nth s.2.1 B) x)).length=(kH (U.rd (U.ro s.1))).length:=by
  rw[zA,F,S]
 refine⟨by omega,z,T,by show(B:Int)<(kW (U.ro s.1) s.2.1 k B fee (kQ s) x).1.length;omega,g,fun _=>⟨⟨0,⟨⟨rfl,tZ⟩,tZ⟩,jt _,rfl⟩,fun p X=>⟨fun w=>⟨u,zo 0,K,?_,fun _=>⟨⟨0,⟨⟨rfl,tZ,tZ⟩,rfl,tZ⟩,jt _⟩,fun j J=>⟨fun t=> ?_,fun t=> ?_⟩⟩⟩,fun w=> ?_⟩⟩⟩;show(B:Int)+1<=(((kW (U.ro s.1) s.2.1 k B fee (kQ s) x).1.set B (nth (nth s.2.1 B) x)).length:Int);rw[tl];omega;have t:(j:Int)<((((B:Int)+1).toNat-Int.toNat 0:Nat):Int):=ja t;have H:((B:Int)+1).toNat-Int.toNat 0=B+1:=(by simp only[Int.toNat_zero];omega);rw[H] at t;have w:(p:Int)<(yr (U.ro s.1)).length:=ja w;have J:j<=B+1:=J;have q:=TB ((kW (U.ro s.1) s.2.1 k B fee (kQ s) x).1.set B (nth (nth s.2.1 B) x)) (p:Int) j;have P:=Mm ((kW (U.ro s.1) s.2.1 k B fee (kQ s) x).1.set B (nth (nth s.2.1 B) x)) (p:Int) j;have e0:Int.toNat 0+(j:Int).toNat=j:=(by simp);have W:∀β:Bool,decide (bI (nth ((kW (U.ro s.1) s.2.1 k B fee (kQ s) x).1.set B (nth (nth s.2.1 B) x)) (Int.toNat 0+(j:Int).toNat)/2^(p:Int).toNat) 1=1)=β->decide (bI (nth ((kW (U.ro s.1) s.2.1 k B fee (kQ s) x).1.set B (nth (nth s.2.1 B) x)) j/2^(p:Int).toNat) 1=1)=β:=by
  intro β G;rw[e0] at G;exact G
 refine⟨by omega,by show(j:Int)<((((B:Int)+1).toNat-Int.toNat 0:Nat):Int);rw[H];exact t,by omega,by omega,fun a=>⟨?_,iZ6,j+1,⟨⟨by simp,tZ,tZ⟩,?_,tZ⟩,by show j+1<=B+1;omega,by show B+1-(j+1)<B+1-j;omega⟩,fun a=>⟨iZ6,j+1,⟨⟨tZ,by simp,tZ⟩,?_,tZ⟩,by show j+1<=B+1;omega,by show B+1-(j+1)<B+1-j;omega⟩⟩;show((vV ((kW (U.ro s.1) s.2.1 k B fee (kQ s) x).1.set B (nth (nth s.2.1 B) x)) (p:Int) j).length+1)*8<=140737488355328;omega;rw[W _ a,jd rfl] at q;exact q.symm;rw[W _ a,jc (by simp),jY] at q;exact q.symm;have t:¬(j:Int)<((((B:Int)+1).toNat-Int.toNat 0:Nat):Int):=je t;have H:((B:Int)+1).toNat-Int.toNat 0=B+1:=(by simp only[Int.toNat_zero];omega);rw[H] at t;have w:(p:Int)<(yr (U.ro s.1)).length:=ja w;have J:j<=B+1:=J;have N:j=B+1:=(by omega);subst N;have P:=Mm ((kW (U.ro s.1) s.2.1 k B fee (kQ s) x).1.set B (nth (nth s.2.1 B) x)) (p:Int) (B+1);obtain⟨_,y⟩:p<=(yr (U.ro s.1)).length/\gG (U.ro s.1) ((kW (U.ro s.1) s.2.1 k B fee (kQ s) x).1.set B (nth (nth s.2.1 B) x)) B p=true:=X;refine⟨g,d,⟨by omega,by show(p:Int)<(kI (kD (U.rd (U.ro s.1)))).length;omega⟩,⟨by show(vV ((kW (U.ro s.1) s.2.1 k B fee (kQ s) x).1.set B (nth (nth s.2.1 B) x)) (p:Int) (B+1)).length<=12;omega,fun c hc=> ?_⟩,fun a=> ?_,fun a=> ?_⟩;have:=WZ hc;exact⟨this.1,by show c<((kH (U.rd (U.ro s.1))).length:Int);omega⟩;have a:(!ij (U.ro s.1) (p:Int) (vV ((kW (U.ro s.1) s.2.1 k B fee (kQ s) x).1.set B (nth (nth s.2.1 B) x)) (p:Int) (B+1)))=true:=a;have a:ij (U.ro s.1) (p:Int) (vV ((kW (U.ro s.1) s.2.1 k B fee (kQ s) x).1.set B (nth (nth s.2.1 B) x)) (p:Int) (B+1))=false:=(by simpa using a);have O:=Mn (n:=(yr (U.ro s.1)).length) (by omega) a;have e:kW (U.ro s.1) s.2.1 k B fee (kQ s) (x+1)=((kW (U.ro s.1) s.2.1 k B fee (kQ s) x).1.set B (nth (nth s.2.1 B) x),(kW (U.ro s.1) s.2.1 k B fee (kQ s) x).2):=by
  rw[f];unfold eD;rw[O,jc (by simp)]
 exact⟨iZ6,x+1,⟨⟨by simp,tZ⟩,jP (·.2.1) e.symm,⟨rfl,tZ,tZ,tZ,jP (·.2.2.1) e.symm,jP (·.2.2.2) e.symm,tZ⟩,jP (·.1) e.symm,tZ⟩,⟨up,o⟩,V⟩;have a:(!ij (U.ro s.1) (p:Int) (vV ((kW (U.ro s.1) s.2.1 k B fee (kQ s) x).1.set B (nth (nth s.2.1 B) x)) (p:Int) (B+1)))=false:=a;have a:ij (U.ro s.1) (p:Int) (vV ((kW (U.ro s.1) s.2.1 k B fee (kQ s) x).1.set B (nth (nth s.2.1 B) x)) (p:Int) (B+1))=true:=(by simpa using a);refine⟨iZ6,p+1,⟨⟨by simp,tZ⟩,tZ⟩,⟨by show p+1<=(yr (U.ro s.1)).length;omega,?_⟩,by show(yr (U.ro s.1)).length-(p+1)<(yr (U.ro s.1)).length-p;omega⟩;show gG (U.ro s.1) ((kW (U.ro s.1) s.2.1 k B fee (kQ s) x).1.set B (nth (nth s.2.1 B) x)) B (p+1)=true;rw[PA,y,a];rfl;have w:¬(p:Int)<(yr (U.ro s.1)).length:=je w;obtain⟨hp1,y⟩:p<=(yr (U.ro s.1)).length/\gG (U.ro s.1) ((kW (U.ro s.1) s.2.1 k B fee (kQ s) x).1.set B (nth (nth s.2.1 B) x)) B p=true:=X;have R:p=(yr (U.ro s.1)).length:=(by omega);subst R;have v:=Jo I.1 (nth (nth s.2.1 B) x) _ (jj _);have v:0<=gn (U.rd (U.ro s.1)) (nth (nth s.2.1 B) x)/\gn (U.rd (U.ro s.1)) (nth (nth s.2.1 B) x)<=1000*((kI (kD (U.rd (U.ro s.1)))).length:Int):=v;have eB:((B:Int)+1).toNat=B+1:=(by omega);have e:kW (U.ro s.1) s.2.1 k B fee (kQ s) (x+1)=yG (U.ro s.1) s.2.1 k ((B:Int)+1).toNat (fee+gn (U.rd (U.ro s.1)) (nth (nth s.2.1 B) x)) ((kW (U.ro s.1) s.2.1 k B fee (kQ s) x).1.set B (nth (nth s.2.1 B) x),(kW (U.ro s.1) s.2.1 k B fee (kQ s) x).2):=by
  rw[f,eB];unfold eD;rw[jd y]
 refine⟨u,g,I.1,Y.1,by show nth (nth s.2.1 B) x<=1000000;have:=Y.2;omega,?_,⟨g,d,Q,⟨M,D⟩,tl,⟨by omega,by show(B:Int)+1<=((kH (U.rd (U.ro s.1))).length:Int);omega,by show((kH (U.rd (U.ro s.1))).length:Int)<(B:Int)+1+(k:Int);omega⟩,?_,?_⟩,iZ6,x+1,⟨⟨by simp,tZ⟩,⟨rfl,tZ,tZ,tZ,jP (·.2.2.1) e.symm,jP (·.2.2.2) e.symm,tZ⟩,rfl,jP (·.2.1) e.symm,jP (·.1) e.symm,tZ⟩,⟨up,o⟩,V⟩;show kU (fee+gn (U.rd (U.ro s.1)) (nth (nth s.2.1 B) x));exact iZ6;show 0<=fee+gn (U.rd (U.ro s.1)) (nth (nth s.2.1 B) x);omega;show fee+gn (U.rd (U.ro s.1)) (nth (nth s.2.1 B) x)<=8000*((B:Int)+1);omega;have z:¬(x:Int)<(nth s.2.1 B).length:=je z;have hx1:x<=(nth s.2.1 B).length:=Z.1;have m:x=(nth s.2.1 B).length:=(by omega);subst m;show((s.1,s.2.1,(kW (U.ro s.1) s.2.1 k B fee (kQ s) (nth s.2.1 B).length).1,(kW (U.ro s.1) s.2.1 k B fee (kQ s) (nth s.2.1 B).length).2.1,(kW (U.ro s.1) s.2.1 k B fee (kQ s) (nth s.2.1 B).length).2.2.1,(kW (U.ro s.1) s.2.1 k B fee (kQ s) (nth s.2.1 B).length).2.2.2,()),())=(b7 s (yG (U.ro s.1) s.2.1 (k+1) B fee (kQ s)),());rw[C];rfl
theorem lO:∀k:Nat,ga PR 22 (bM k)
 |0=>⟨qQ Tryz.func22 (c:=wK Tryz.f22) (by kernel_rfl) (by kernel_rfl),fun H w vals d bs _ _ _ b=>by
  obtain⟨⟨_,_,_,_,_,⟨e,f,a⟩,_⟩,_⟩:=b
  exact absurd a (by omega)⟩
 |k+1=>jcS (sa.mpr EY k) Tryz.func22 (by kernel_rfl) (by kernel_rfl) (by kernel_rfl) (by kernel_rfl) (by kernel_rfl) ⟨fun _=>nJ,fun _=>ES,tZ⟩ ⟨ul,lO k,tZ⟩
namespace U
def Kn (r:RoD) (b:Int) (t:Nat):Bool:=decide (CX (t:Int) (nth (aN r) b.toNat)=0)&&pH (rd r) b (t:Int)
def gp (r:RoD) (b:Int) (n:Nat):List Int:=((List.range n).filter (Kn r b)).map (fun(t:Nat)=>(t:Int))
def vf (r:RoD) (n:Nat):List (List Int):=(List.range n).map (fun(b:Nat)=>gp r (b:Int) (2^(kI (kD (rd r))).length))
def jel (d:DyD):StD:=yG (gS d) (vf (gS d) (kH d).length) 5 0 0 (List.replicate (kH d).length 0,noI,0,false)
def ai (d:DyD):Int:=if wj d=0 then(if(jel d).2.2.2=true then 0 else 3) else wj d
def kF (d:DyD):List Int:=if ai d=0 then(jel d).2.1 else[]
def eE (d:DyD):Int:=if ai d=0 then(jel d).2.2.1 else 0
end U
def W0:wD:=⟨[.val tDy],[.slice .int,.int,.int],false,fun d=>[(qG d.1).length<=100000],fun d=>(kF d.1,eE d.1,ai d.1,())⟩
def W2:Ann:=fun r=>match r with
 |6=>some fun σ=>{X:=Nat,sl:=fun i=>[(28,.dat .int (i:Int))],ob:=fun i=>[(24,some (.box 71 false (((bx σ 24).set 1 (.own (bK 24 1) (.slice .int))).set 3 (.own (bK 24 3) .int)))),(bK 24 3,some (.row 3 .int false .yes U.noI)),(bK 24 1,some (.row 31 (.slice .int) false .yes (vf (U.ro (gd (.ptr tRo) σ 5)) i)))],inv:=fun i=>i<=(kH (gb tDy σ 1)).length,mu:=fun i=>(kH (gb tDy σ 1)).length-i}
 |10=>some fun σ=>{X:=Nat,sl:=fun t=>[(36,.dat .int (t:Int)),(8,.own 8 .int)],ob:=fun t=>[(8,some (.row 3 .int false .yes (gp (U.ro (gd (.ptr tRo) σ 5)) (gd .int σ 7) t)))],inv:=fun t=>t<=2^(kI (kD (gb tDy σ 1))).length,mu:=fun t=>2^(kI (kD (gb tDy σ 1))).length-t}
 |_=>none
abbrev jhr (d:DyD×Unit):=(U.ro (qq d.1))
abbrev jkW (d:DyD×Unit):=(wg ((((0:Int),[],[],()),[],[],(0:Int),(0:Int),[],()),[],[],[],()) (qq d.1))
abbrev jjI (a:Nat)(d:DyD×Unit)(x:Nat):=(CX (a:Int) (nth (jkW d).2.1 (x:Int).toNat)=0)
abbrev jiz (d:DyD×Unit):=(d.1.2.2.1.length:Int)
abbrev jkm (d:DyD×Unit)(x:Nat):=(qq d.1,vf (jhr d) x,List.replicate (jiz d).toNat (0:Int),U.noI,(0:Int),false,())
abbrev jjJ (d:DyD×Unit)(x:Nat):=(b7 (jkm d x) (yG (jhr d) (vf (jhr d) x) 5 (Int.toNat 0) (0:Int) (kQ (jkm d x))))
abbrev jij (d:DyD×Unit):=(kI (kD d.1))
abbrev jkX (d:DyD×Unit):=(qq d.1=qq d.1/\True/\True/\True/\(0:Int)=0/\qF/\True)
abbrev jkn (d:DyD×Unit):=(kF d.1,eE d.1,ai d.1,())
abbrev jjd (d:DyD×Unit):=(d.1.1.2.1.length:Int)
def W3:Prop:=∀(d:DyD×Unit),(qG d.1).length<=100000->(qG d.1).length<=100000/\(decide (wj d.1≠0)=true->([],(0:Int),wj d.1,())=(jkn d))/\(decide (wj d.1≠0)=false->d.1.2.2.1.length<4611686018427387904->0<=(jiz d)/\(jiz d)=(jiz d)/\(jiz d).toNat*8<=140737488355328/\(d.1.2.2.1.length<4611686018427387904->(∃(x:Nat),((0=(x:Int)/\True)/\(jkX d)/\U.noI=[]/\vf (jhr d) x=[]/\True)/\x<=(kH d.1).length)/\∀(x:Nat),x<=(kH d.1).length->(decide ((x:Int)<(jiz d))=true->d.1.1.2.1.length<4611686018427387904->0<=(jjd d)/\(jjd d)<=64/\kU ((1:Int)*2^(jjd d).toNat)/\(∃(a:Nat),((0=(a:Int)/\True/\True)/\gp (jhr d) (x:Int) a=[]/\True)/\a<=2^(jij d).length)/\∀(a:Nat),a<=2^(jij d).length->(decide ((a:Int)<1*2^(jjd d).toNat)=true->(qq d.1).isSome=true/\0<=(x:Int)/\(x:Int)<(jkW d).2.1.length/\(decide (jjI a d x)=true->(qq d.1).isSome=true)/\(decide (jjI a d x)=true->aj (U.rd (jhr d)) (x:Int))/\((decide (jjI a d x)&&pH (U.rd (jhr d)) (x:Int) (a:Int))=true->((gp (jhr d) (x:Int) a).length+[(a:Int)].length)*8<=140737488355328/\kU ((a:Int)+1)/\∃(b:Nat),(((a:Int)+1=(b:Int)/\True/\True)/\gp (jhr d) (x:Int) a++[(a:Int)]=gp (jhr d) (x:Int) b/\True)/\b<=2^(jij d).length/\2^(jij d).length-b<2^(jij d).length-a)/\((decide (jjI a d x)&&pH (U.rd (jhr d)) (x:Int) (a:Int))=false->kU ((a:Int)+1)/\∃(b:Nat),((True/\(a:Int)+1=(b:Int)/\True)/\gp (jhr d) (x:Int) a=gp (jhr d) (x:Int) b/\True)/\b<=2^(jij d).length/\2^(jij d).length-b<2^(jij d).length-a))/\(decide ((a:Int)<1*2^(jjd d).toNat)=false->((vf (jhr d) x).length+[gp (jhr d) (x:Int) a].length)*24<=140737488355328/\kU ((x:Int)+1)/\∃(b:Nat),(((x:Int)+1=(b:Int)/\True)/\U.noI=U.noI/\(jkX d)/\vf (jhr d) x++[gp (jhr d) (x:Int) a]=vf (jhr d) b/\True)/\b<=(kH d.1).length/\(kH d.1).length-b<(kH d.1).length-x))/\(decide ((x:Int)<(jiz d))=false->UH 5 (jkm d x) (0:Int) (0:Int)/\((!(jjJ d x).q4.2.1)=true->([],(0:Int),(3:Int),())=(jkn d))/\((!(jjJ d x).q4.2.1)=false->((jjJ d x).2.2.2.1,(jjJ d x).q4.1,(0:Int),())=(jkn d)))))
theorem TC (r:RoD) (b:Int) (n:Nat):gp r b (n+1)=gp r b n++(if Kn r b n=true then[(n:Int)] else[]):=by
 unfold gp;rw[L.vD,j7];by_cases h:Kn r b n=true;rw[jd h,jd h];rfl;rw[jc h,jc h];rfl
theorem W4 (r:RoD) (b:Int) (n:Nat):(gp r b n).length<=n:=by
 unfold gp;rw[zc];exact jF (zH _ _) (by simp)
theorem Mp {r:RoD} {b:Int} {n:Nat} {t:Int} (h:t∈gp r b n):0<=t/\t<(n:Int):=by
 unfold gp at h;obtain⟨i,hi,rfl⟩:=jG.1 h;have:=jp.1 (jD.1 hi).1;omega
theorem W5 (r:RoD) (n:Nat):vf r (n+1)=vf r n++[gp r (n:Int) (2^(kI (kD (U.rd r))).length)]:=by
 unfold vf;rw[jN,j7];rfl
theorem RF (r:RoD) (n:Nat):(vf r n).length=n:=by unfold vf;simp
theorem jbD {n:Nat} (h:n<=8):(2:Nat)^n<=256:=jF (Nat.pow_le_pow_right (by decide) h) (by decide)
theorem jge {d:DyD} (hk:wj d=0):UH 5 (some (gS d),vf (gS d) (kH d).length,List.replicate (kH d).length 0,U.noI,0,false,()) 0 0:=by
 have c:=HR hk;have i:(kH d).length<=4:=(qv c.may.1.2.2).1;have h:(kI (kD d)).length<=8:=(wI c.may.1.1).2.2.1;refine⟨rfl,c.may,c.len,⟨RF _ _,fun l a t e=> ?_⟩,jW,⟨zo 0,by show(0:Int)<=(kH d).length;omega,by show((kH d).length:Int)<0+((5:Nat):Int);omega⟩,zo 0,by omega⟩;have a:l∈vf (gS d) (kH d).length:=a;unfold vf at a;obtain⟨b,_,rfl⟩:=jG.1 a;have:=Mp e;have f:=jbD h;have g:(2:Nat)^(kI (kD (U.rd (gS d)))).length<=256:=f;have:t<((2^(kI (kD (U.rd (gS d)))).length:Nat):Int):=this.2;refine⟨(Mp e).1,by omega⟩
theorem Z3:W3:=by
 unfold W3 jjd jkn jkX jij jjJ jkm jiz jjI jkW jhr Prod.q4;rintro⟨d,⟨⟩⟩ z;refine⟨z,fun h=> ?_,fun h=> ?_⟩;have h:wj d≠0:=ja h;have e:ai d=wj d:=(by unfold ai;rw[jc h]);show([],(0:Int),wj d,())=(kF d,eE d,ai d,());unfold kF eE;rw[e,jc h,jc h];have hk:wj d=0:=jZ.1 (je h);have m:=HR hk;have y:(kH d).length<=4:=(qv m.may.1.2.2).1;have w:(kI (kD d)).length<=8:=(wI m.may.1.1).2.2.1;have s:=jbD w;have l:=WX hk;have i:U.ro (qq d)=gS d:=(by rw[l];rfl);have r:U.rd (U.ro (qq d))=d:=(by rw[i];rfl);have q:(qq d).isSome=true:=(by rw[l];rfl);have A:(aN (U.ro (qq d))).length=(kH d).length:=(by rw[i];exact m.may.2);refine fun _=>⟨jQ _,rfl,?_,fun _=>⟨⟨0,⟨⟨rfl,tZ⟩,⟨rfl,tZ,tZ,tZ,rfl,rfl,tZ⟩,rfl,rfl,tZ⟩,jt _⟩,fun x u=>⟨fun b _=>⟨jQ _,?_,?_,⟨0,⟨⟨rfl,tZ,tZ⟩,rfl,tZ⟩,jt _⟩,fun t j=>⟨fun a=> ?_,fun a=> ?_⟩⟩,fun b=> ?_⟩⟩⟩
 show((kH d).length:Int).toNat*8<=140737488355328;omega;show((kI (kD d)).length:Int)<=64;omega;show kU (1*2^((kI (kD d)).length:Int).toNat);rw[nK,jm];have a:BT.qH ((2:Int)^(kI (kD d)).length):=BT.lA (by omega);unfold BT.qH at a;exact iZ6;have b:(x:Int)<(kH d).length:=ja b;have j:t<=2^(kI (kD d)).length:=j;have a:(t:Int)<1*2^((kI (kD d)).length:Int).toNat:=ja a;rw[nK,jm,BT.cn] at a;have a:t<2^(kI (kD d)).length:=(by omega);have f:=TC (U.ro (qq d)) (x:Int) t;have g:=W4 (U.ro (qq d)) (x:Int) t;have v:aj (U.rd (U.ro (qq d))) (x:Int):=(by rw[r];exact⟨by omega,b⟩);have up:t+1<=2^(kI (kD d)).length:=(by omega);have p:2^(kI (kD d)).length-(t+1)<2^(kI (kD d)).length-t:=(by omega);refine⟨q,by omega,by show(x:Int)<(aN (U.ro (qq d))).length;omega,fun _=>q,fun _=>v,fun c=> ?_,fun c=> ?_⟩;have c:Kn (U.ro (qq d)) (x:Int) t=true:=c;refine⟨?_,iZ6,t+1,⟨⟨by simp,tZ,tZ⟩,?_,tZ⟩,up,p⟩;show((gp (U.ro (qq d)) (x:Int) t).length+1)*8<=140737488355328;omega;rw[jd c] at f;exact f.symm;have c:Kn (U.ro (qq d)) (x:Int) t=false:=c;refine⟨iZ6,t+1,⟨⟨tZ,by simp,tZ⟩,?_,tZ⟩,up,p⟩;rw[jc (by rw[c];simp),jY] at f;exact f.symm;have b:(x:Int)<(kH d).length:=ja b;have j:t<=2^(kI (kD d)).length:=j;have a:¬(t:Int)<1*2^((kI (kD d)).length:Int).toNat:=je a;rw[nK,jm,BT.cn] at a;have n:t=2^(kI (kD d)).length:=(by omega);have f:=W5 (U.ro (qq d)) x;rw[r,<-n] at f;have g:=RF (U.ro (qq d)) x;refine⟨?_,iZ6,x+1,⟨⟨by simp,tZ⟩,rfl,⟨rfl,tZ,tZ,tZ,rfl,rfl,tZ⟩,f.symm,tZ⟩,by show x+1<=(kH d).length;omega,by show(kH d).length-(x+1)<(kH d).length-x;omega⟩;show((vf (U.ro (qq d)) x).length+1)*24<=140737488355328;omega;have b:¬(x:Int)<(kH d).length:=je b;have u:x<=(kH d).length:=u;have o:x=(kH d).length:=(by omega);subst o;have k:yG (U.ro (qq d)) (vf (U.ro (qq d)) (kH d).length) 5 (Int.toNat 0) 0 (kQ (qq d,vf (U.ro (qq d)) (kH d).length,List.replicate ((kH d).length:Int).toNat 0,U.noI,0,false,()))=jel d:=by
  rw[i,jm];rfl
 refine⟨?_,fun a=> ?_,fun a=> ?_⟩;show UH 5 (qq d,vf (U.ro (qq d)) (kH d).length,List.replicate ((kH d).length:Int).toNat 0,U.noI,0,false,()) 0 0;rw[i,l,jm];exact jge hk;have a:(!(yG (U.ro (qq d)) (vf (U.ro (qq d)) (kH d).length) 5 (Int.toNat 0) 0 (kQ (qq d,vf (U.ro (qq d)) (kH d).length,List.replicate ((kH d).length:Int).toNat 0,U.noI,0,false,()))).2.2.2)=true:=a;rw[k] at a;have a:(jel d).2.2.2=false:=(by simpa using a);have e:ai d=3:=(by unfold ai;rw[jd hk,a,jc (by simp)]);show([],(0:Int),(3:Int),())=(kF d,eE d,ai d,());unfold kF eE;rw[e];rfl;have a:(!(yG (U.ro (qq d)) (vf (U.ro (qq d)) (kH d).length) 5 (Int.toNat 0) 0 (kQ (qq d,vf (U.ro (qq d)) (kH d).length,List.replicate ((kH d).length:Int).toNat 0,U.noI,0,false,()))).2.2.2)=false:=a;rw[k] at a;have a:(jel d).2.2.2=true:=(by simpa using a);have e:ai d=0:=(by unfold ai;rw[jd hk,a,jd rfl]);show((yG (U.ro (qq d)) (vf (U.ro (qq d)) (kH d).length) 5 (Int.toNat 0) 0 (kQ (qq d,vf (U.ro (qq d)) (kH d).length,List.replicate ((kH d).length:Int).toNat 0,U.noI,0,false,()))).2.1,(yG (U.ro (qq d)) (vf (U.ro (qq d)) (kH d).length) 5 (Int.toNat 0) 0 (kQ (qq d,vf (U.ro (qq d)) (kH d).length,List.replicate ((kH d).length:Int).toNat 0,U.noI,0,false,()))).2.2.1,(0:Int),())=(kF d,eE d,ai d,());rw[k];unfold kF eE;rw[e];rfl
theorem Mq:wN PR 8 W0:=vZ W2 Z3 Tryz.func8 (kcC lM kcN) (koC nL (koC (lO 5) koN))
namespace U
def J3 (c:CrD) (t d:Int) (a b:Nat):Bool:=jfu c t d (a:Int) (b:Int)
def jg4 (c:CrD) (t b a:Int):List Int:=Ch (J3 c t b) (la c).toNat a.toNat (la c).toNat
def jbW (c:Bool) (s b:Int):Int:=if c=true then bor s b else s
def YI (c:CrD) (j:JbD) (t:Int) (x:Int×Bool) (i:Nat):Int×Bool:=
 if wH t (i:Int)=true then(jbW (!wH (cl (nth (kI c) i)) (mw j)) (jbW (!wH (fd (nth (kI c) i)) (ja5 j)) (jbW (Ns (nth (kI c) i) (ja4 j)) x.1 1) 2) 4,x.2||jfs (nth (kI c) i)) else x
def Cm (c:CrD) (j:JbD) (t:Int) (n:Nat):Int×Bool:=(List.range n).foldl (YI c j t) (0,false)
def jgL (c:CrD) (j:JbD) (t:Int):Int:=(Cm c j t (kI c).length).1
def jgM (c:CrD) (j:JbD) (t:Int):Bool:=(Cm c j t (kI c).length).2
def jg5 (c:CrD) (j:JbD) (t:Int):Int:=
 jbW (decide (nth (jg4 c t (YU (ig c j)) (US j)) (NO j).toNat<0)) (jbW (jgr (ig c j)&& !jgM c j t) (jbW (decide (BT.size t≠max (jeh j) (jeg (ig c j)))) (jgL c j t) 8) 16) 32
def b8 (c:CrD) (j:JbD) (t:Int):Bool:=decide (0<t)&&decide (jg5 c j t=0)
def eG (c:CrD) (t:Int) (n:Nat):Int:=(List.range n).foldl (fun s (i:Nat)=>if wH t (i:Int)=true then s+fe (nth (kI c) i) else s) 0
def NA (c:CrD) (t:Int):Int:=eG c t (kI c).length
def jfR (t:Int):Prop:=0<=t/\t<256
end U
def Mr:wD:=⟨[.val .int,.val .int,.val .int],[.bool],false,fun _=>[],fun d=>(kA d.1 d.2.1 d.2.2.1,())⟩
def Ms:Prop:=∀(d:Int×Int×Int×Unit),(decide (d.2.1<=d.1)&&decide (d.1<=d.2.2.1),())=(kA d.1 d.2.1 d.2.2.1,())
def W6:wD:=⟨[.val .int,.val .int],[.bool],false,fun d=>[0<=d.2.1/\d.2.1<=63],fun d=>(wH d.1 d.2.1,())⟩
def W7:Prop:=∀(d:Int×Int×Unit),0<=d.2.1/\d.2.1<=63->0<=d.2.1/\d.2.1<=18446744073709551615/\0<=d.2.1/\d.2.1<=64/\(decide (bI (d.1/(2:Int)^d.2.1.toNat) (1:Int)=1),())=(wH d.1 d.2.1,())
def Mt:wD:=⟨[.val tCr],[.bool],false,fun _=>[],fun d=>(kZ d.1,())⟩
def Mu:Ann:=fun r=>match r with
 |4=>some fun σ=>{X:=Nat,sl:=fun i=>[(3,.dat .int (i:Int))],ob:=fun _=>[],inv:=fun i=>i<=(kI (gb tCr σ 1)).length/\∀j:Nat,j<i->f8 (U.la (gb tCr σ 1)) (nth (kI (gb tCr σ 1)) j)=true,mu:=fun i=>(kI (gb tCr σ 1)).length-i}
 |10=>some fun σ=>{X:=Nat,sl:=fun i=>[(5,.dat .int (i:Int))],ob:=fun _=>[],inv:=fun i=>i<=(U.lv (gb tPe σ 4)).length/\∀j:Nat,j<i->kA (nth (U.lv (gb tPe σ 4)) j) 0 5=true,mu:=fun i=>(U.lv (gb tPe σ 4)).length-i}
 |15=>some fun σ=>{X:=Nat,sl:=fun i=>[(6,.dat .int (i:Int))],ob:=fun _=>[],inv:=fun i=>i<=(gF (gb tPe σ 4)).length/\∀j:Nat,j<i->kA (nth (gF (gb tPe σ 4)) j) 0 99=true,mu:=fun i=>(gF (gb tPe σ 4)).length-i}
 |20=>some fun σ=>{X:=Nat,sl:=fun i=>[(7,.dat .int (i:Int))],ob:=fun _=>[],inv:=fun i=>i<=(yx (gb tCr σ 1)).length/\∀j:Nat,j<i->f9 (nth (yx (gb tCr σ 1)) j)=true,mu:=fun i=>(yx (gb tCr σ 1)).length-i}
 |_=>none
abbrev jhl (d:CrD×Unit)(x:Nat):=(nth d.1.2.1 (x:Int).toNat)
abbrev jkY (d:CrD×Unit)(x:Nat):=(!kA (nth d.1.2.2.1 (x:Int).toNat).1 (1:Int) (5:Int)|| !kA (nth d.1.2.2.1 (x:Int).toNat).2.1 (1:Int) (8:Int))
abbrev jje (d:CrD×Unit)(x:Nat):=(↑(jhl d x).1.length:Int)
abbrev jjK (d:CrD×Unit)(x:Nat):=(↑(jhl d x).2.2.2.1.length:Int)
abbrev jkZ (d:CrD×Unit)(x:Nat):=(decide ((jje d x)≠d.1.1)|| !kA (jhl d x).2.1 (0:Int) (255:Int)|| !kA (jhl d x).2.2.1 (0:Int) (255:Int)||decide ((10:Int)<(jjK d x))|| !kA (jhl d x).q4.2.1 (0:Int) (1000:Int))
abbrev jjf (d:CrD×Unit):=(d.1.2.2.1.length:Int)
abbrev jk0 (d:CrD×Unit):=(!kA d.1.1 (2:Int) (5:Int)||decide (8<(d.1.2.1.length:Int))||decide ((jjf d)≠4))
abbrev jik (d:CrD×Unit)(x:Nat):=(gF (jhl d x))
def Mv:Prop:=∀(d:CrD×Unit),((!!kA d.1.1 (2:Int) (5:Int))=true->d.1.2.1.length<4611686018427387904)->((!(!kA d.1.1 (2:Int) (5:Int)||decide (8<(d.1.2.1.length:Int))))=true->d.1.2.2.1.length<4611686018427387904)->((jk0 d)=true->(false,())=(kZ d.1,()))/\((jk0 d)=false->(∃(x:Nat),((0=(x:Int)/\True)/\True)/\x<=(kI d.1).length/\∀(j:Nat),j<x->f8 (U.la d.1) (nth (kI d.1) j)=true)/\∀(x:Nat),(x<=(kI d.1).length/\∀(j:Nat),j<x->f8 (U.la d.1) (nth (kI d.1) j)=true)->d.1.2.1.length<4611686018427387904->(decide ((x:Int)<d.1.2.1.length)=true->0<=(x:Int)/\(x:Int)<d.1.2.1.length/\((jhl d x).1.length<4611686018427387904->((!(decide ((jje d x)≠d.1.1)|| !kA (jhl d x).2.1 (0:Int) (255:Int)|| !kA (jhl d x).2.2.1 (0:Int) (255:Int)))=true->(jhl d x).2.2.2.1.length<4611686018427387904)->((jkZ d x)=true->(false,())=(kZ d.1,()))/\((jkZ d x)=false->(∃(b:Nat),((0=(b:Int)/\True)/\True)/\b<=(U.lv (jhl d x)).length/\∀(j:Nat),j<b->kA (nth (U.lv (jhl d x)) j) (0:Int) 5=true)/\∀(b:Nat),(b<=(U.lv (jhl d x)).length/\∀(j:Nat),j<b->kA (nth (U.lv (jhl d x)) j) (0:Int) 5=true)->(jhl d x).1.length<4611686018427387904->(decide ((b:Int)<(jje d x))=true->0<=(b:Int)/\(b:Int)<(jje d x)/\((!kA (nth (jhl d x).1 (b:Int).toNat) (0:Int) (5:Int))=true->(false,())=(kZ d.1,()))/\((!kA (nth (jhl d x).1 (b:Int).toNat) (0:Int) (5:Int))=false->kU ((b:Int)+1)/\∃(c:Nat),(((b:Int)+1=(c:Int)/\True)/\True)/\(c<=(U.lv (jhl d x)).length/\∀(j:Nat),j<c->kA (nth (U.lv (jhl d x)) j) (0:Int) 5=true)/\(U.lv (jhl d x)).length-c<(U.lv (jhl d x)).length-b))/\(decide ((b:Int)<(jje d x))=false->(∃(a:Nat),((0=(a:Int)/\True)/\True)/\a<=(jik d x).length/\∀(j:Nat),j<a->kA (nth (jik d x) j) (0:Int) 99=true)/\∀(a:Nat),(a<=(jik d x).length/\∀(j:Nat),j<a->kA (nth (jik d x) j) (0:Int) 99=true)->(jhl d x).2.2.2.1.length<4611686018427387904->(decide ((a:Int)<(jjK d x))=true->0<=(a:Int)/\(a:Int)<(jjK d x)/\((!kA (nth (jhl d x).2.2.2.1 (a:Int).toNat) (0:Int) (99:Int))=true->(false,())=(kZ d.1,()))/\((!kA (nth (jhl d x).2.2.2.1 (a:Int).toNat) (0:Int) (99:Int))=false->kU ((a:Int)+1)/\∃(c:Nat),(((a:Int)+1=(c:Int)/\True)/\True)/\(c<=(jik d x).length/\∀(j:Nat),j<c->kA (nth (jik d x) j) (0:Int) 99=true)/\(jik d x).length-c<(jik d x).length-a))/\(decide ((a:Int)<(jjK d x))=false->kU ((x:Int)+1)/\∃(c:Nat),(((x:Int)+1=(c:Int)/\True)/\True)/\(c<=(kI d.1).length/\∀(j:Nat),j<c->f8 (U.la d.1) (nth (kI d.1) j)=true)/\(kI d.1).length-c<(kI d.1).length-x)))))/\(decide ((x:Int)<d.1.2.1.length)=false->(∃(x:Nat),((0=(x:Int)/\True)/\True)/\x<=(yx d.1).length/\∀(j:Nat),j<x->f9 (nth (yx d.1) j)=true)/\∀(x:Nat),(x<=(yx d.1).length/\∀(j:Nat),j<x->f9 (nth (yx d.1) j)=true)->d.1.2.2.1.length<4611686018427387904->(decide ((x:Int)<(jjf d))=true->0<=(x:Int)/\(x:Int)<(jjf d)/\((!!kA (nth d.1.2.2.1 (x:Int).toNat).1 (1:Int) (5:Int))=true->0<=(x:Int))/\((!!kA (nth d.1.2.2.1 (x:Int).toNat).1 (1:Int) (5:Int))=true->(x:Int)<(jjf d))/\((jkY d x)=true->(false,())=(kZ d.1,()))/\((jkY d x)=false->kU ((x:Int)+1)/\∃(c:Nat),(((x:Int)+1=(c:Int)/\True)/\True)/\(c<=(yx d.1).length/\∀(j:Nat),j<c->f9 (nth (yx d.1) j)=true)/\(yx d.1).length-c<(yx d.1).length-x))/\(decide ((x:Int)<(jjf d))=false->(true,())=(kZ d.1,()))))
def PB:wD:=⟨[.val tCr,.val tJb],[.bool],false,fun d=>[kZ d.1=true],fun d=>(qp d.1 d.2.1,())⟩
def PC:Prop:=∀(d:CrD×JbD×Unit),kZ d.1=true->kU (d.1.1-1)/\(kA d.2.1.1 (0:Int) (d.1.1-1)=true->kU (d.1.1-1))/\(kA d.2.1.1 (0:Int) (d.1.1-1)&&kA d.2.1.2.1 (0:Int) (d.1.1-1)&&decide (d.2.1.1≠d.2.1.2.1)&&kA d.2.1.2.2.1 (0:Int) (99:Int)&&kA d.2.1.2.2.2.1 (0:Int) (7:Int)&&kA d.2.1.q4.1 (0:Int) (3:Int)&&kA d.2.1.q4.2.1 (1:Int) (8:Int),())=(qp d.1 d.2.1,())
theorem PE:Ms:=by
 rintro⟨n,a,b,⟨⟩⟩;rfl
theorem AX:wN PR 62 Mr:=wt PE Tryz.func62 kcN koN
theorem Z4:W7:=by
 rintro⟨s,n,⟨⟩⟩ ⟨a,b⟩;have a:0<=n:=a;have b:n<=63:=b;exact⟨a,by show n<=18446744073709551615;omega,a,by show n<=64;omega,rfl⟩
theorem W8:wN PR 9 W6:=wt Z4 Tryz.func9 kcN koN
theorem Z5 (c:CrD) (j:JbD):(kA (US j) 0 (U.la c-1)&&kA (NO j) 0 (U.la c-1)&&decide (US j≠NO j)&&kA (ja4 j) 0 99&&kA (ja5 j) 0 7&&kA (mw j) 0 3&&kA (jeh j) 1 8)=qp c j:=by
 unfold qp kA;rw[j8];simp only[ji,jv,ne_eq];constructor;rintro⟨⟨⟨⟨⟨⟨⟨f,g⟩,h,i⟩,k⟩,l,m⟩,n,o⟩,a,b⟩,d,e⟩;exact⟨f,g,h,i,k,l,m,n,o,a,b,d,e⟩;rintro⟨f,g,h,i,k,l,m,n,o,a,b,d,e⟩;exact⟨⟨⟨⟨⟨⟨⟨f,g⟩,h,i⟩,k⟩,l,m⟩,n,o⟩,a,b⟩,d,e⟩
theorem TD:PC:=by
 unfold PC Prod.q4;rintro⟨c,j,⟨⟩⟩ h;have h:kZ c=true:=h;have d:=wI h;have a:kU (U.la c-1):=iZ6;refine⟨a,fun _=>a,?_⟩;exact jP (fun b=>(b,())) (Z5 c j)
theorem PF:wN PR 33 PB:=wt TD Tryz.func33 (kcC AX kcN) koN
end Go.X
namespace Go.X
open U
open Go.Proofs
theorem Mw (c:CrD) (j:JbD) (t:Int) (n:Nat):Cm c j t (n+1)=YI c j t (Cm c j t n) n:=by
 unfold Cm;rw[jN,jz];rfl
theorem W9 {c:CrD} {j:JbD} {t:Int} {n:Nat} (h:wH t (n:Int)=false):Cm c j t (n+1)=Cm c j t n:=by
 rw[Mw];unfold YI;rw[h,jc (by simp)]
theorem Z6 (l:Int) (p:PeD):f8 l p=(!(decide (((U.lv p).length:Int)≠l)|| !kA (U.fd p) 0 255|| !kA (U.cl p) 0 255||decide (10<((gF p).length:Int))|| !kA (U.fe p) 0 1000)&&((U.lv p).all (fun n=>kA n 0 5)&&(gF p).all (fun n=>kA n 0 99))):=by
 unfold f8;congr 1;rw[j8];simp only[kA,jV,jS,jI,zv,ji,jv];omega
theorem CI (c:CrD):kZ c=(!(!kA (U.la c) 2 5||decide (8<((kI c).length:Int))||decide (((yx c).length:Int)≠4))&&((kI c).all (f8 (U.la c))&&(yx c).all f9)):=by
 unfold kZ;congr 1;rw[j8];simp only[kA,jV,jS,jI,zv,ji,jv];omega
theorem xZ {c:CrD} {x:Nat} (a:x<(kI c).length) (h:f8 (U.la c) (nth (kI c) x)=false):kZ c=false:=by
 have:(kI c).all (f8 (U.la c))=false:=zS.2 ⟨_,L.kJ a,by rw[h];simp⟩;rw[CI,this];simp
theorem TE {c:CrD} {x:Nat} (a:x<(yx c).length) (h:f9 (nth (yx c) x)=false):kZ c=false:=by
 have:(yx c).all f9=false:=zS.2 ⟨_,L.kJ a,by rw[h];simp⟩;rw[CI,this];simp
theorem lq {α:Type} [Inhabited α] {l:List α} {p:α->Bool} {x:Nat} (c:¬x<l.length) (h:∀j:Nat,j<x->p (nth l j)=true):l.all p=true:=by
 rw[jR];intro a b;obtain⟨i,hi,rfl⟩:=L.mem_iff.1 b;exact h i (by omega)
theorem nM {c:CrD} (h:kZ c=false):(false,())=(kZ c,()):=by rw[h]
theorem PG:Mv:=by
 unfold Mv jik jk0 jjf jkZ jjK jje jkY jhl Prod.q4;rintro⟨c,⟨⟩⟩ _ _;refine⟨fun h=> ?_,fun h=> ?_⟩;have h:(!kA (U.la c) 2 5||decide (8<((kI c).length:Int))||decide (((yx c).length:Int)≠4))=true:=h;refine nM (c:=c) ?_;rw[CI,h];rfl;have B:(!kA (U.la c) 2 5||decide (8<((kI c).length:Int))||decide (((yx c).length:Int)≠4))=false:=h;clear h;refine⟨⟨0,⟨⟨rfl,tZ⟩,tZ⟩,jt _,fun j k=>by omega⟩,fun x s r=>⟨fun h=> ?_,fun h=> ?_⟩⟩;have r:(kI c).length<4611686018427387904:=r;have h:(x:Int)<(kI c).length:=ja h;have m:x<(kI c).length:=(by omega);refine⟨by omega,h,fun _ _=>⟨fun g=> ?_,fun g=> ?_⟩⟩;have g:(decide (((U.lv (nth (kI c) x)).length:Int)≠U.la c)|| !kA (U.fd (nth (kI c) x)) 0 255|| !kA (U.cl (nth (kI c) x)) 0 255||decide (10<((gF (nth (kI c) x)).length:Int))|| !kA (U.fe (nth (kI c) x)) 0 1000)=true:=g;refine nM (c:=c) (xZ m ?_);rw[Z6,g];rfl;have g:(decide (((U.lv (nth (kI c) x)).length:Int)≠U.la c)|| !kA (U.fd (nth (kI c) x)) 0 255|| !kA (U.cl (nth (kI c) x)) 0 255||decide (10<((gF (nth (kI c) x)).length:Int))|| !kA (U.fe (nth (kI c) x)) 0 1000)=false:=g;refine⟨⟨0,⟨⟨rfl,tZ⟩,tZ⟩,jt _,fun j k=>by omega⟩,fun y q d=>⟨fun b=> ?_,fun b=> ?_⟩⟩;have d:(U.lv (nth (kI c) x)).length<4611686018427387904:=d;have b:(y:Int)<(U.lv (nth (kI c) x)).length:=ja b;refine⟨by omega,b,fun a=> ?_,fun a=>⟨iZ6,y+1,⟨⟨by simp,tZ⟩,tZ⟩,⟨by show y+1<=(U.lv (nth (kI c) x)).length;omega,fun j k=> ?_⟩,by show(U.lv (nth (kI c) x)).length-(y+1)<(U.lv (nth (kI c) x)).length-y;omega⟩⟩;have a:(!kA (nth (U.lv (nth (kI c) x)) y) 0 5)=true:=a;have a:kA (nth (U.lv (nth (kI c) x)) y) 0 5=false:=(by simpa using a);refine nM (c:=c) (xZ m ?_);have:(U.lv (nth (kI c) x)).all (fun n=>kA n 0 5)=false:=zS.2 ⟨_,L.kJ (l:=U.lv (nth (kI c) x)) (i:=y) (by omega),by rw[a];simp⟩;rw[Z6,this];simp;have a:(!kA (nth (U.lv (nth (kI c) x)) y) 0 5)=false:=a;by_cases e:j=y;subst e;exact(show kA (nth (U.lv (nth (kI c) x)) j) 0 5=true by simpa using a);exact q.2 j (by omega);have b:¬(y:Int)<(U.lv (nth (kI c) x)).length:=je b;have u:(U.lv (nth (kI c) x)).all (fun n=>kA n 0 5)=true:=lq (by omega) q.2;refine⟨⟨0,⟨⟨rfl,tZ⟩,tZ⟩,jt _,fun j k=>by omega⟩,fun z t o=>⟨fun a=> ?_,fun a=> ?_⟩⟩;have o:(gF (nth (kI c) x)).length<4611686018427387904:=o;have a:(z:Int)<(gF (nth (kI c) x)).length:=ja a;refine⟨by omega,a,fun f=> ?_,fun f=>⟨iZ6,z+1,⟨⟨by simp,tZ⟩,tZ⟩,⟨by show z+1<=(gF (nth (kI c) x)).length;omega,fun j k=> ?_⟩,by show(gF (nth (kI c) x)).length-(z+1)<(gF (nth (kI c) x)).length-z;omega⟩⟩;have f:(!kA (nth (gF (nth (kI c) x)) z) 0 99)=true:=f;have f:kA (nth (gF (nth (kI c) x)) z) 0 99=false:=(by simpa using f);refine nM (c:=c) (xZ m ?_);have:(gF (nth (kI c) x)).all (fun n=>kA n 0 99)=false:=zS.2 ⟨_,L.kJ (l:=gF (nth (kI c) x)) (i:=z) (by omega),by rw[f];simp⟩;rw[Z6,this];simp;have f:(!kA (nth (gF (nth (kI c) x)) z) 0 99)=false:=f;by_cases e:j=z;subst e;exact(show kA (nth (gF (nth (kI c) x)) j) 0 99=true by simpa using f);exact t.2 j (by omega);have a:¬(z:Int)<(gF (nth (kI c) x)).length:=je a;have v:(gF (nth (kI c) x)).all (fun n=>kA n 0 99)=true:=lq (by omega) t.2;refine⟨iZ6,x+1,⟨⟨by simp,tZ⟩,tZ⟩,⟨by show x+1<=(kI c).length;omega,fun j k=> ?_⟩,by show(kI c).length-(x+1)<(kI c).length-x;omega⟩;by_cases e:j=x;subst e;show f8 (U.la c) (nth (kI c) j)=true;rw[Z6,g,u,v];rfl;exact s.2 j (by omega);have h:¬(x:Int)<(kI c).length:=je h;have A:(kI c).all (f8 (U.la c))=true:=lq (by omega) s.2;refine⟨⟨0,⟨⟨rfl,tZ⟩,tZ⟩,jt _,fun j k=>by omega⟩,fun y q d=>⟨fun b=> ?_,fun b=> ?_⟩⟩;have d:(yx c).length<4611686018427387904:=d;have b:(y:Int)<(yx c).length:=ja b;have p:f9 (nth (yx c) y)= !(!kA (YU (nth (yx c) y)) 1 5|| !kA (jeg (nth (yx c) y)) 1 8):=by
  unfold f9;rw[Bool.not_or,Bool.not_not,Bool.not_not]
 refine⟨by omega,b,fun _=>by omega,fun _=>b,fun a=> ?_,fun a=>⟨iZ6,y+1,⟨⟨by simp,tZ⟩,tZ⟩,⟨by show y+1<=(yx c).length;omega,fun j k=> ?_⟩,by show(yx c).length-(y+1)<(yx c).length-y;omega⟩⟩;have a:(!kA (YU (nth (yx c) y)) 1 5|| !kA (jeg (nth (yx c) y)) 1 8)=true:=a;exact nM (c:=c) (TE (x:=y) (by omega) (by rw[p,a];rfl));have a:(!kA (YU (nth (yx c) y)) 1 5|| !kA (jeg (nth (yx c) y)) 1 8)=false:=a;by_cases e:j=y;subst e;show f9 (nth (yx c) j)=true;rw[p,a];rfl;exact q.2 j (by omega);have b:¬(y:Int)<(yx c).length:=je b;have w:(yx c).all f9=true:=lq (by omega) q.2;show(true,())=(kZ c,());rw[CI,B,A,w];rfl
theorem AY:wN PR 32 Mt:=vZ Mu PG Tryz.func32 (kcC AX kcN) koN
def Mx:wD:=⟨[.val .int,.val .int,.val .int],[.bool],false,fun _=>[],fun d=>(kA d.1 d.2.1 d.2.2.1,())⟩
def My:Prop:=∀(d:Int×Int×Int×Unit),(decide (d.2.1<=d.1)&&decide (d.1<=d.2.2.1),())=(kA d.1 d.2.1 d.2.2.1,())
def EZ:wD:=⟨[.val tDy,.val .int],[.bool],false,fun _=>[],fun d=>(YH d.1 d.2.1,())⟩
def E0:Prop:=∀(d:DyD×Int×Unit),d.1.2.2.1.length<4611686018427387904->kU ((d.1.2.2.1.length:Int)-1)/\(kA d.2.1 (0:Int) ((d.1.2.2.1.length:Int)-1),())=(YH d.1 d.2.1,())
def Gs:wD:=⟨[.val tDy,.val .int],[.bool],false,fun _=>[],fun d=>(Nz d.1 d.2.1,())⟩
def Gt:Prop:=∀(d:DyD×Int×Unit),d.1.1.2.1.length<4611686018427387904->kU ((d.1.1.2.1.length:Int)-1)/\(kA d.2.1 (0:Int) ((d.1.1.2.1.length:Int)-1),())=(Nz d.1 d.2.1,())
def PH:wD:=⟨[.val tDy],[.bool],false,fun _=>[],fun d=>(wZ d.1,())⟩
def PI:Ann:=fun r=>match r with
 |4=>some fun σ=>{X:=Nat,sl:=fun i=>[(3,.dat .int (i:Int))],ob:=fun _=>[],inv:=fun i=>i<=(wG (gb tDy σ 1)).length/\∀j:Nat,j<i->bX (wG (gb tDy σ 1)).length (nth (wG (gb tDy σ 1)) j)=true,mu:=fun i=>(wG (gb tDy σ 1)).length-i}
 |9=>some fun σ=>{X:=Nat,sl:=fun i=>[(4,.dat .int (i:Int))],ob:=fun _=>[],inv:=fun i=>i<=(nth (wG (gb tDy σ 1)) (gd .int σ 3).toNat).length/\∀j:Nat,j<i->uS (nth (nth (wG (gb tDy σ 1)) (gd .int σ 3).toNat) j)=true,mu:=fun i=>(nth (wG (gb tDy σ 1)) (gd .int σ 3).toNat).length-i}
 |15=>some fun σ=>{X:=Nat,sl:=fun i=>[(6,.dat .int (i:Int))],ob:=fun _=>[],inv:=fun i=>i<=(kH (gb tDy σ 1)).length/\∀j:Nat,j<i->mn (wG (gb tDy σ 1)).length (nth (kH (gb tDy σ 1)) j)=true,mu:=fun i=>(kH (gb tDy σ 1)).length-i}
 |21=>some fun σ=>{X:=Nat,sl:=fun i=>[(8,.dat .int (i:Int))],ob:=fun _=>[],inv:=fun i=>i<=(qG (gb tDy σ 1)).length/\∀j:Nat,j<i->ic (kH (gb tDy σ 1)).length (kI (kD (gb tDy σ 1))).length (nth (qG (gb tDy σ 1)) j)=true,mu:=fun i=>(qG (gb tDy σ 1)).length-i}
 |_=>none
abbrev jiV (d:DyD×Unit)(x:Nat):=(nth d.1.2.1 (x:Int).toNat)
abbrev jk1 (d:DyD×Unit)(x:Nat)(a:Nat):=(decide ((nth (jiV d x) (a:Int).toNat).1<0)||decide ((nth (jiV d x) (a:Int).toNat).2.1<(nth (jiV d x) (a:Int).toNat).1)||decide ((300:Int)<(nth (jiV d x) (a:Int).toNat).2.1))
abbrev jil (d:DyD×Unit)(x:Nat):=(nth (wG d.1) (x:Int).toNat)
abbrev jhR (d:DyD×Unit):=(d.1.2.1.length:Int)
abbrev jjg (d:DyD×Unit)(x:Nat):=(nth d.1.q4.2.1 (x:Int).toNat)
abbrev jk2 (d:DyD×Unit)(x:Nat):=(!kA (jjg d x).1 (0:Int) (99:Int)|| !kA (jjg d x).2.1 (0:Int) (9999:Int)|| !kA (jjg d x).2.2.1 (1:Int) (2:Int)|| !YH d.1 (jjg d x).2.2.2.1|| !Nz d.1 (jjg d x).q4.1)
abbrev jiW (d:DyD×Unit):=(d.1.2.2.1.length:Int)
abbrev jko (x:Nat)(a:Nat):=(((x:Int)+1=(a:Int)/\True)/\True)
abbrev jjh (d:DyD×Unit)(x:Nat):=(nth d.1.2.2.1 (x:Int).toNat)
abbrev jk3 (d:DyD×Unit)(x:Nat):=(!kA (jjh d x).2.1 (0:Int) ((jhR d)-1)||decide ((jjh d x).2.2.1<0)||decide ((jjh d x).2.2.2.1<=(jjh d x).2.2.1)||decide ((1440:Int)<(jjh d x).2.2.2.1))
abbrev jji (d:DyD×Unit)(x:Nat):=(↑(jiV d x).length:Int)
abbrev jjL (d:DyD×Unit):=(d.1.q4.2.1.length:Int)
abbrev jk4 (d:DyD×Unit):=(decide (4<(jiW d))|| !kA (jhR d) (1:Int) (5:Int)|| !kA d.1.2.2.2.1 (0:Int) (300:Int)|| !kA d.1.q4.1 (0:Int) (1440:Int)||decide (30<(jjL d)))
abbrev jkp (x:Nat):=((0=(x:Int)/\True)/\True)
def PJ:Prop:=∀(d:DyD×Unit),d.1.2.2.1.length<4611686018427387904->((!decide (4<(jiW d)))=true->d.1.2.1.length<4611686018427387904)->((!(decide (4<(jiW d))|| !kA (jhR d) (1:Int) (5:Int)|| !kA d.1.2.2.2.1 (0:Int) (300:Int)|| !kA d.1.q4.1 (0:Int) (1440:Int)))=true->d.1.q4.2.1.length<4611686018427387904)->((jk4 d)=true->(false,())=(wZ d.1,()))/\((jk4 d)=false->(∃(x:Nat),(jkp x)/\x<=(wG d.1).length/\∀(j:Nat),j<x->bX (wG d.1).length (nth (wG d.1) j)=true)/\∀(x:Nat),(x<=(wG d.1).length/\∀(j:Nat),j<x->bX (wG d.1).length (nth (wG d.1) j)=true)->d.1.2.1.length<4611686018427387904->(decide ((x:Int)<(jhR d))=true->0<=(x:Int)/\(x:Int)<(jhR d)/\(decide ((jji d x)≠(jhR d))=true->(false,())=(wZ d.1,()))/\(decide ((jji d x)≠(jhR d))=false->(∃(a:Nat),((0=(a:Int)/\True)/\True)/\a<=(jil d x).length/\∀(j:Nat),j<a->uS (nth (jil d x) j)=true)/\∀(a:Nat),(a<=(jil d x).length/\∀(j:Nat),j<a->uS (nth (jil d x) j)=true)->0<=(x:Int)/\(x:Int)<(jhR d)/\((jiV d x).length<4611686018427387904->(decide ((a:Int)<(jji d x))=true->0<=(x:Int)/\(x:Int)<(jhR d)/\0<=(a:Int)/\(a:Int)<(jji d x)/\((jk1 d x a)=true->(false,())=(wZ d.1,()))/\((jk1 d x a)=false->kU ((a:Int)+1)/\∃(b:Nat),(((a:Int)+1=(b:Int)/\True)/\True)/\(b<=(jil d x).length/\∀(j:Nat),j<b->uS (nth (jil d x) j)=true)/\(jil d x).length-b<(jil d x).length-a))/\(decide ((a:Int)<(jji d x))=false->kU ((x:Int)+1)/\∃(b:Nat),(jko x b)/\(b<=(wG d.1).length/\∀(j:Nat),j<b->bX (wG d.1).length (nth (wG d.1) j)=true)/\(wG d.1).length-b<(wG d.1).length-x))))/\(decide ((x:Int)<(jhR d))=false->(∃(x:Nat),(jkp x)/\x<=(kH d.1).length/\∀(j:Nat),j<x->mn (wG d.1).length (nth (kH d.1) j)=true)/\∀(x:Nat),(x<=(kH d.1).length/\∀(j:Nat),j<x->mn (wG d.1).length (nth (kH d.1) j)=true)->d.1.2.2.1.length<4611686018427387904->(decide ((x:Int)<(jiW d))=true->0<=(x:Int)/\(x:Int)<(jiW d)/\(d.1.2.1.length<4611686018427387904->kU ((jhR d)-1)/\((jk3 d x)=true->(false,())=(wZ d.1,()))/\((jk3 d x)=false->kU ((x:Int)+1)/\∃(b:Nat),(jko x b)/\(b<=(kH d.1).length/\∀(j:Nat),j<b->mn (wG d.1).length (nth (kH d.1) j)=true)/\(kH d.1).length-b<(kH d.1).length-x)))/\(decide ((x:Int)<(jiW d))=false->(∃(x:Nat),(jkp x)/\x<=(qG d.1).length/\∀(j:Nat),j<x->ic (kH d.1).length (kI (kD d.1)).length (nth (qG d.1) j)=true)/\∀(x:Nat),(x<=(qG d.1).length/\∀(j:Nat),j<x->ic (kH d.1).length (kI (kD d.1)).length (nth (qG d.1) j)=true)->d.1.q4.2.1.length<4611686018427387904->(decide ((x:Int)<(jjL d))=true->0<=(x:Int)/\(x:Int)<(jjL d)/\((jk2 d x)=true->(false,())=(wZ d.1,()))/\((jk2 d x)=false->kU ((x:Int)+1)/\∃(b:Nat),(jko x b)/\(b<=(qG d.1).length/\∀(j:Nat),j<b->ic (kH d.1).length (kI (kD d.1)).length (nth (qG d.1) j)=true)/\(qG d.1).length-b<(qG d.1).length-x))/\(decide ((x:Int)<(jjL d))=false->(true,())=(wZ d.1,())))))
def PK:wD:=⟨[.val (.slice tSh)],[.bool],false,fun d=>[d.1.length<=1000000],fun d=>(bY d.1,())⟩
def PL:Ann:=fun r=>match r with
 |2=>some fun σ=>{X:=Nat,sl:=fun i=>[(3,.dat .int (i:Int))],ob:=fun _=>[],inv:=fun i=>i<=(gd (.slice tSh) σ 0).length/\ab (gd (.slice tSh) σ 0) i=false,mu:=fun i=>(gd (.slice tSh) σ 0).length-i}
 |5=>some fun σ=>{X:=Nat,sl:=fun i=>[(4,.dat .int (i:Int))],ob:=fun _=>[],inv:=fun i=>i<=(gd .int σ 3).toNat/\∀j:Nat,j<i->FF (nth (gd (.slice tSh) σ 0) (gd .int σ 3).toNat) (nth (gd (.slice tSh) σ 0) j)=false,mu:=fun i=>(gd .int σ 3).toNat-i}
 |_=>none
abbrev jiX (d:List ShD×Unit)(x:Nat)(a:Nat):=((nth d.1 (x:Int).toNat).1=(nth d.1 (a:Int).toNat).1)
def PM:Prop:=∀(d:List ShD×Unit),d.1.length<=1000000->(∃(x:Nat),((0=(x:Int)/\True)/\True)/\x<=d.1.length/\ab d.1 x=false)/\∀(x:Nat),x<=d.1.length/\ab d.1 x=false->d.1.length<4611686018427387904->(decide ((x:Int)<d.1.length)=true->(∃(a:Nat),((0=(a:Int)/\True)/\True)/\a<=(x:Int).toNat/\∀(j:Nat),j<a->FF (nth d.1 (x:Int).toNat) (nth d.1 j)=false)/\∀(a:Nat),(a<=(x:Int).toNat/\∀(j:Nat),j<a->FF (nth d.1 (x:Int).toNat) (nth d.1 j)=false)->(decide ((a:Int)<(x:Int))=true->0<=(x:Int)/\(x:Int)<d.1.length/\0<=(a:Int)/\(a:Int)<d.1.length/\(decide (jiX d x a)=true->0<=(x:Int))/\(decide (jiX d x a)=true->(x:Int)<d.1.length)/\(decide (jiX d x a)=true->0<=(a:Int))/\(decide (jiX d x a)=true->(a:Int)<d.1.length)/\((decide (jiX d x a)&& !decide (nth d.1 (x:Int).toNat=nth d.1 (a:Int).toNat))=true->(true,())=(bY d.1,()))/\((decide (jiX d x a)&& !decide (nth d.1 (x:Int).toNat=nth d.1 (a:Int).toNat))=false->kU ((a:Int)+1)/\∃(b:Nat),(((a:Int)+1=(b:Int)/\True)/\True)/\(b<=(x:Int).toNat/\∀(j:Nat),j<b->FF (nth d.1 (x:Int).toNat) (nth d.1 j)=false)/\(x:Int).toNat-b<(x:Int).toNat-a))/\(decide ((a:Int)<(x:Int))=false->kU ((x:Int)+1)/\∃(b:Nat),(((x:Int)+1=(b:Int)/\True)/\True)/\(b<=d.1.length/\ab d.1 b=false)/\d.1.length-b<d.1.length-x))/\(decide ((x:Int)<d.1.length)=false->(false,())=(bY d.1,()))
def PN:wD:=⟨[.val tDy],[.int],false,fun d=>[(kH d.1).length<=1000000],fun d=>(gx d.1,())⟩
def PO:Ann:=fun r=>match r with
 |4=>some fun σ=>{X:=Nat,sl:=fun i=>[(3,.dat .int (i:Int))],ob:=fun _=>[],inv:=fun i=>i<=(kH (gb tDy σ 1)).length/\∀j:Nat,j<i->qp (kD (gb tDy σ 1)) (yY (nth (kH (gb tDy σ 1)) j))=true,mu:=fun i=>(kH (gb tDy σ 1)).length-i}
 |_=>none
def PP:Prop:=∀(d:DyD×Unit),(kH d.1).length<=1000000->((!kZ d.1.1)=true->((30:Int),())=(gx d.1,()))/\((!kZ d.1.1)=false->(∃(x:Nat),((0=(x:Int)/\True)/\True)/\x<=(kH d.1).length/\∀(j:Nat),j<x->qp (kD d.1) (yY (nth (kH d.1) j))=true)/\∀(x:Nat),(x<=(kH d.1).length/\∀(j:Nat),j<x->qp (kD d.1) (yY (nth (kH d.1) j))=true)->d.1.2.2.1.length<4611686018427387904->(decide ((x:Int)<d.1.2.2.1.length)=true->0<=(x:Int)/\(x:Int)<d.1.2.2.1.length/\kZ d.1.1=true/\((!qp d.1.1 (nth d.1.2.2.1 (x:Int).toNat).1)=true->((31:Int),())=(gx d.1,()))/\((!qp d.1.1 (nth d.1.2.2.1 (x:Int).toNat).1)=false->kU ((x:Int)+1)/\∃(a:Nat),(((x:Int)+1=(a:Int)/\True)/\True)/\(a<=(kH d.1).length/\∀(j:Nat),j<a->qp (kD d.1) (yY (nth (kH d.1) j))=true)/\(kH d.1).length-a<(kH d.1).length-x))/\(decide ((x:Int)<d.1.2.2.1.length)=false->((!wZ d.1)=true->((50:Int),())=(gx d.1,()))/\((!wZ d.1)=false->d.1.q4.2.1.length<=1000000/\(bY d.1.q4.2.1=true->((51:Int),())=(gx d.1,()))/\(bY d.1.q4.2.1=false->((0:Int),())=(gx d.1,())))))
theorem PQ:My:=by
 rintro⟨n,a,b,⟨⟩⟩;rfl
theorem nN:wN PR 63 Mx:=wt PQ Tryz.func63 kcN koN
theorem Gu:E0:=by
 rintro⟨d,n,⟨⟩⟩ a;have a:(kH d).length<4611686018427387904:=a;exact⟨by show kU (((kH d).length:Int)-1);exact iZ6,rfl⟩
theorem E1:wN PR 64 EZ:=wt Gu Tryz.func64 (kcC nN kcN) koN
theorem Jr:Gt:=by
 rintro⟨d,n,⟨⟩⟩ a;have a:(kI (kD d)).length<4611686018427387904:=a;exact⟨by show kU (((kI (kD d)).length:Int)-1);exact iZ6,rfl⟩
theorem Gv:wN PR 65 Gs:=wt Jr Tryz.func65 (kcC nN kcN) koN
theorem Mz (l:List ShD) (n:Nat):ab l (n+1)=(ab l n||CQ l n):=by
 unfold ab;rw[jN,List.any_append];simp
theorem Js {l:List ShD} {i:Nat} (h:∀j:Nat,j<i->FF (nth l i) (nth l j)=false) (hi:i<=l.length):CQ l i=false:=by
 unfold CQ;rw[zu];intro s a;rw[zj] at a;obtain⟨j,b,rfl⟩:=a;have:=h j (by omega);rw[L.wz (l:=l) (i:=j) (by omega)] at this;simpa using this
theorem TF {l:List ShD} {i j:Nat} (hi:i<l.length) (a:j<i) (h:FF (nth l i) (nth l j)=true):bY l=true:=by
 unfold bY ab CQ;rw[zh];refine⟨i,jp.2 hi,?_⟩;rw[zh];refine⟨nth l j,?_,h⟩;rw[zj];exact⟨j,by omega,(L.wz (by omega)).symm⟩
theorem TG:PM:=by
 unfold PM jiX;rintro⟨l,⟨⟩⟩ k;have k:l.length<=1000000:=k;refine⟨⟨0,⟨⟨rfl,tZ⟩,tZ⟩,jt _,rfl⟩,fun x m _=>⟨fun h=> ?_,fun h=> ?_⟩⟩;have h:(x:Int)<l.length:=ja h;obtain⟨_,a⟩:x<=l.length/\ab l x=false:=m;refine⟨⟨0,⟨⟨rfl,tZ⟩,tZ⟩,jt _,fun j o=>by omega⟩,fun y n=>⟨fun c=> ?_,fun c=> ?_⟩⟩;have c:(y:Int)<(x:Int):=ja c;obtain⟨_,b⟩:y<=x/\∀j:Nat,j<y->FF (nth l x) (nth l j)=false:=n;have f:(y:Int)<l.length:=(by omega);refine⟨by omega,h,by omega,f,fun _=>by omega,fun _=>h,fun _=>by omega,fun _=>f,fun d=> ?_,fun d=>⟨iZ6,y+1,⟨⟨by simp,tZ⟩,tZ⟩,⟨by show y+1<=x;omega,fun j o=> ?_⟩,by show x-(y+1)<x-y;omega⟩⟩;have d:FF (nth l x) (nth l y)=true:=d;have:=TF (by omega) (by omega) d;show(true,())=(bY l,());rw[this];by_cases e:j=y;subst e;exact d;exact b j (by omega);have c:¬(y:Int)<(x:Int):=je c;obtain⟨q,b⟩:y<=x/\∀j:Nat,j<y->FF (nth l x) (nth l j)=false:=n;have i:y=x:=(by omega);subst i;refine⟨iZ6,y+1,⟨⟨by simp,tZ⟩,tZ⟩,⟨by show y+1<=l.length;omega,?_⟩,by show l.length-(y+1)<l.length-y;omega⟩;show ab l (y+1)=false;rw[Mz,a,Js b (by omega)];rfl;have h:¬(x:Int)<l.length:=je h;obtain⟨p,a⟩:x<=l.length/\ab l x=false:=m;have g:x=l.length:=(by omega);subst g;show(false,())=(bY l,());unfold bY;rw[a]
theorem PS:wN PR 35 PK:=vZ PL TG Tryz.func35 kcN koN
theorem TH:PP:=by
 unfold PP Prod.q4;rintro⟨d,⟨⟩⟩ k;have k:(kH d).length<=1000000:=k;refine⟨fun h=> ?_,fun h=> ?_⟩;have h:kZ (kD d)=false:=(by simpa using(show(!kZ (kD d))=true from h));show((30:Int),())=(gx d,());unfold gx;rw[h];rfl;have g:kZ (kD d)=true:=(by simpa using(show(!kZ (kD d))=false from h));refine⟨⟨0,⟨⟨rfl,tZ⟩,tZ⟩,jt _,fun j f=>by omega⟩,fun x m _=>⟨fun h=> ?_,fun h=> ?_⟩⟩;have h:(x:Int)<(kH d).length:=ja h;refine⟨by omega,h,g,fun a=> ?_,fun a=>⟨iZ6,x+1,⟨⟨by simp,tZ⟩,tZ⟩,⟨by show x+1<=(kH d).length;omega,fun j f=> ?_⟩,by show(kH d).length-(x+1)<(kH d).length-x;omega⟩⟩;have a:qp (kD d) (yY (nth (kH d) x))=false:=(by simpa using(show(!qp (kD d) (yY (nth (kH d) x)))=true from a));have f:Nr d=false:=by
  unfold Nr;exact zS.2 ⟨_,L.kJ (l:=kH d) (i:=x) (by omega),by rw[a];simp⟩
 show((31:Int),())=(gx d,());unfold gx;rw[g,f];rfl;have a:qp (kD d) (yY (nth (kH d) x))=true:=(by simpa using(show(!qp (kD d) (yY (nth (kH d) x)))=false from a));by_cases e:j=x;subst e;exact a;exact m.2 j (by omega);have h:¬(x:Int)<(kH d).length:=je h;have f:Nr d=true:=lq (p:=fun b=>qp (kD d) (yY b)) (by omega) m.2;refine⟨fun a=> ?_,fun a=> ?_⟩;have a:wZ d=false:=(by simpa using(show(!wZ d)=true from a));show((50:Int),())=(gx d,());unfold gx;rw[g,f,a];rfl;have a:wZ d=true:=(by simpa using(show(!wZ d)=false from a));have n:(qG d).length<=30:=(qv a).2.2.2.2.1;refine⟨by show(qG d).length<=1000000;omega,fun c=> ?_,fun c=> ?_⟩;have c:bY (qG d)=true:=c;show((51:Int),())=(gx d,());unfold gx;rw[g,f,a,c];rfl;have c:bY (qG d)=false:=c;show((0:Int),())=(gx d,());unfold gx;rw[g,f,a,c];rfl
end Go.X
namespace Go.X
open U
open Go.Proofs
def jeO (d:DyD):Bool:=decide (4<((kH d).length:Int))|| !kA ((wG d).length:Int) 1 5|| !kA (Nq d) 0 300|| !kA (R9 d) 0 1440||decide (30<((qG d).length:Int))
def spH (s:SpD):Bool:=decide (U.lo s<0)||decide (U.hi s<U.lo s)||decide (300<U.hi s)
def bkH (n:Nat) (b:BkD):Bool:= !kA (jdY b) 0 ((n:Int)-1)||decide (yq b<0)||decide (dp b<=yq b)||decide (1440<dp b)
def shH (d:DyD) (s:ShD):Bool:= !kA (yZ s) 0 99|| !kA (Kw s) 0 9999|| !kA (YV s) 1 2|| !YH d (bP s)|| !Nz d (au s)
theorem Xa (d:DyD):wZ d=(!jeO d&&((wG d).all (bX (wG d).length)&&((kH d).all (mn (wG d).length)&&(qG d).all (ic (kH d).length (kI (kD d)).length)))):=by
 unfold wZ jeO;congr 1;rw[j8];simp only[kA,jV,jS,jI,zv,ji,jv];omega
theorem jbE (s:SpD):uS s= !spH s:=by
 unfold uS spH;rw[j8];simp only[jV,jS,jI,jv];omega
theorem jbF (n:Nat) (b:BkD):mn n b= !bkH n b:=by
 unfold mn bkH;rw[j8];simp only[kA,jV,jS,jI,zv,ji,jv];omega
theorem jbG (d:DyD) (s:ShD):ic (kH d).length (kI (kD d)).length s= !shH d s:=by
 unfold ic shH YH Nz;rw[j8];simp only[kA,jV,jS,zv,ji,jv];omega
theorem MA {d:DyD} (h:jeO d=true\/(wG d).all (bX (wG d).length)=false\/(kH d).all (mn (wG d).length)=false\/(qG d).all (ic (kH d).length (kI (kD d)).length)=false):(false,())=(wZ d,()):=by
 have:wZ d=false:=by
  rw[Xa];rcases h with h|h|h|h<;>rw[h]<;>simp
 rw[this]
theorem MB {α:Type} [Inhabited α] {l:List α} {p:α->Bool} {x:Nat} (a:x<l.length) (h:p (nth l x)=false):l.all p=false:=zS.2 ⟨_,L.kJ a,by rw[h];simp⟩
theorem TJ:PJ:=by
 unfold PJ jkp jk4 jjL jji jk3 jjh jko jiW jk2 jjg jhR jil jk1 jiV Prod.q4;rintro⟨d,⟨⟩⟩ _ _ _;refine⟨fun h=>MA (d:=d) (.inl h),fun k=> ?_⟩;have k:jeO d=false:=k;have l:=k;unfold jeO at l;simp only[kA,jS,jI,zv,ji,jv] at l;refine⟨⟨0,⟨⟨rfl,tZ⟩,tZ⟩,jt _,fun j g=>by omega⟩,fun x c _=>⟨fun h=> ?_,fun h=> ?_⟩⟩;have h:(x:Int)<(wG d).length:=ja h;have b:x<(wG d).length:=(by omega);refine⟨by omega,h,fun a=> ?_,fun a=>⟨⟨0,⟨⟨rfl,tZ⟩,tZ⟩,jt _,fun j g=>by omega⟩,fun y n=>⟨by omega,h,fun m=>⟨fun i=> ?_,fun i=> ?_⟩⟩⟩⟩;have a:¬((nth (wG d) x).length:Int)=(wG d).length:=ja a;refine MA (d:=d) (.inr (.inl (MB b ?_)));unfold bX;rw[zz (by omega)];rfl;have m:(nth (wG d) x).length<4611686018427387904:=m;have i:(y:Int)<(nth (wG d) x).length:=ja i;refine⟨by omega,h,by omega,i,fun f=> ?_,fun f=>⟨iZ6,y+1,⟨⟨by simp,tZ⟩,tZ⟩,⟨by show y+1<=(nth (wG d) x).length;omega,fun j g=> ?_⟩,by show(nth (wG d) x).length-(y+1)<(nth (wG d) x).length-y;omega⟩⟩;have f:spH (nth (nth (wG d) x) y)=true:=f;refine MA (d:=d) (.inr (.inl (MB b ?_)));have:(nth (wG d) x).all uS=false:=MB (x:=y) (by omega) (by rw[jbE,f];rfl);unfold bX;rw[this,kh];have f:spH (nth (nth (wG d) x) y)=false:=f;by_cases e:j=y;subst e;show uS (nth (nth (wG d) x) j)=true;rw[jbE,f];rfl;exact n.2 j (by omega);have i:¬(y:Int)<(nth (wG d) x).length:=je i;have a:((nth (wG d) x).length:Int)=(wG d).length:=jZ.1 (je a);have o:(nth (wG d) x).all uS=true:=lq (by omega) n.2;refine⟨iZ6,x+1,⟨⟨by simp,tZ⟩,tZ⟩,⟨by show x+1<=(wG d).length;omega,fun j g=> ?_⟩,by show(wG d).length-(x+1)<(wG d).length-x;omega⟩;by_cases e:j=x;subst e;show bX (wG d).length (nth (wG d) j)=true;unfold bX;rw[o,jH (by omega)];rfl;exact c.2 j (by omega);have h:¬(x:Int)<(wG d).length:=je h;have r:(wG d).all (bX (wG d).length)=true:=lq (by omega) c.2;clear c h;refine⟨⟨0,⟨⟨rfl,tZ⟩,tZ⟩,jt _,fun j g=>by omega⟩,fun x c _=>⟨fun h=> ?_,fun h=> ?_⟩⟩;have h:(x:Int)<(kH d).length:=ja h;have b:x<(kH d).length:=(by omega);refine⟨by omega,h,fun _=>⟨by show kU (((wG d).length:Int)-1);exact iZ6,fun a=> ?_,fun a=>⟨iZ6,x+1,⟨⟨by simp,tZ⟩,tZ⟩,⟨by show x+1<=(kH d).length;omega,fun j g=> ?_⟩,by show(kH d).length-(x+1)<(kH d).length-x;omega⟩⟩⟩;have a:bkH (wG d).length (nth (kH d) x)=true:=a;exact MA (d:=d) (.inr (.inr (.inl (MB b (by rw[jbF,a];rfl)))));have a:bkH (wG d).length (nth (kH d) x)=false:=a;by_cases e:j=x;subst e;show mn (wG d).length (nth (kH d) j)=true;rw[jbF,a];rfl;exact c.2 j (by omega);have h:¬(x:Int)<(kH d).length:=je h;have p:(kH d).all (mn (wG d).length)=true:=lq (by omega) c.2;clear c h;refine⟨⟨0,⟨⟨rfl,tZ⟩,tZ⟩,jt _,fun j g=>by omega⟩,fun x c _=>⟨fun h=> ?_,fun h=> ?_⟩⟩;have h:(x:Int)<(qG d).length:=ja h;have b:x<(qG d).length:=(by omega);refine⟨by omega,h,fun a=> ?_,fun a=>⟨iZ6,x+1,⟨⟨by simp,tZ⟩,tZ⟩,⟨by show x+1<=(qG d).length;omega,fun j g=> ?_⟩,by show(qG d).length-(x+1)<(qG d).length-x;omega⟩⟩;have a:shH d (nth (qG d) x)=true:=a;exact MA (d:=d) (.inr (.inr (.inr (MB b (by rw[jbG,a];rfl)))));have a:shH d (nth (qG d) x)=false:=a;by_cases e:j=x;subst e;show ic (kH d).length (kI (kD d)).length (nth (qG d) j)=true;rw[jbG,a];rfl;exact c.2 j (by omega);have h:¬(x:Int)<(qG d).length:=je h;have q:(qG d).all (ic (kH d).length (kI (kD d)).length)=true:=lq (by omega) c.2;show(true,())=(wZ d,());rw[Xa,k,r,p,q];rfl
theorem PT:wN PR 34 PH:=vZ PI TJ Tryz.func34 (kcC nN (kcC E1 (kcC Gv kcN))) koN
theorem sd:wN PR 15 PN:=vZ PO TH Tryz.func15 (kcC AY (kcC PF (kcC PT (kcC PS kcN)))) koN
namespace U
def YJ (l:List ShD) (i n:Nat):Bool:=decide (YV (nth l i)=1)&& !((l.take n).any (fun t=>decide (bP t=bP (nth l i))&&decide (au t=au (nth l i))&&gm t (nth l i)))
def jfx (l:List ShD) (n:Nat):List ShD:=((List.range n).filter (fun i=>YJ l i l.length)).map (nth l)
def pI (l:List ShD) (n:Nat):Nat:=(List.range n).foldl (fun f i=>if gm (nth l f) (nth l i)=true then i else f) 0
def gH (l:List ShD):Nat->List ShD×List ShD
 |0=>([],l)
 |n+1=>((gH l n).1++[nth (gH l n).2 (pI (gH l n).2 (gH l n).2.length)],(gH l n).2.take (pI (gH l n).2 (gH l n).2.length)++(gH l n).2.drop (pI (gH l n).2 (gH l n).2.length+1))
def GY (d:DyD):List ShD:=jfx (FG (qG d)) (FG (qG d)).length
def jba (d:DyD):List ShD:=(gH (GY d) (GY d).length).1
def jfy (d:DyD) (n:Nat):List Int×List Int:=((jba d).take n).foldl (H8 d) (List.replicate (kH d).length 0,[])
def QD (d:DyD):List Int×List Int:=jfy d (jba d).length
def Kx (d:DyD):List Int:=if gx d=0 then(QD d).1 else[]
end U
end Go.X
namespace Go.X
open U
theorem HS (l:List ShD) (n:Nat):pI l (n+1)=if gm (nth l (pI l n)) (nth l n)=true then n else pI l n:=by
 unfold pI;rw[jN,jz];rfl
theorem CJ (l:List ShD):∀n,n<=l.length->0<l.length->pI l n<l.length
 |0,_,h=>h
 |n+1,a,h=>by
  have b:=CJ l n (by omega) h
  rw[HS]
  split<;>omega
theorem CK (l:List ShD):∀n,n<=l.length->(gH l n).1.length=n/\(gH l n).2.length=l.length-n
 |0,_=>⟨rfl,rfl⟩
 |n+1,d=>by
  obtain⟨a,b⟩:=CK l n (by omega)
  have c:=CJ (gH l n).2 _ (jj _) (by omega)
  refine⟨?_,?_⟩
  show((gH l n).1++[_]).length=_
  rw[jK,a];rfl
  show((gH l n).2.take _++(gH l n).2.drop _).length=_
  rw[jK,j0,kf]
  omega
theorem Z7 {α:Type} [Inhabited α] {l:List α} {m:Nat} (h:m<l.length):(nth l m::(l.take m++l.drop (m+1))).Perm l:=by
 have e:l=l.take m++nth l m::l.drop (m+1):=by
  conv=>lhs;rw[<-zV m l]
  rw[ki h,L.wz h]
 conv=>rhs;rw[e]
 exact List.perm_middle.symm
theorem MC (l:List ShD):∀n,n<=l.length->((gH l n).1++(gH l n).2).Perm l
 |0,_=>List.Perm.refl _
 |n+1,d=>by
  have b:=MC l n (by omega)
  have c:=CK l n (by omega)
  have a:=CJ (gH l n).2 _ (jj _) (by omega)
  refine List.Perm.trans ?_ b
  show((gH l n).1++[nth (gH l n).2 (pI (gH l n).2 (gH l n).2.length)]++_).Perm _
  rw[jJ]
  exact List.Perm.append_left _ (Z7 a)
theorem RG {l:List ShD} {s:ShD} (h:s∈FG l):s∈l:=by
 unfold FG YE at h;obtain⟨m,_,h⟩:=List.mem_flatMap.1 h;unfold ja6 at h;obtain⟨i,hi,rfl⟩:=jG.1 h;exact L.kJ (jp.1 (jD.1 hi).1)
open Go.Proofs
theorem Xb {d:DyD} (h:gx d=0):GX d:=(wL ((vC d).trans h)).1
theorem jbH {t:List Int} {p b:Int} (h:b∈U.on t p):0<=b/\b<(t.length:Int):=by
 unfold U.on QC at h;obtain⟨i,hi,rfl⟩:=jG.1 h;have:=jp.1 (jD.1 hi).1;omega
attribute [local irreducible] jba jfy vl U.on
end Go.X
namespace Go.X
open U
theorem oB (c:CrD) (j:JbD) (i:Nat):(vU (c,j,ig c j,()) (nth (kI c) i)=0)↔gy c j (i:Int)=true:=by
 show UF (Ns (nth (kI c) i) (ja4 j)) (!wH (U.fd (nth (kI c) i)) (ja5 j)) (!wH (U.cl (nth (kI c) i)) (mw j))=0↔
  (!(Ns (nth (kI c) ((i:Int)).toNat) (ja4 j))&&wH (U.fd (nth (kI c) ((i:Int)).toNat)) (ja5 j)&&wH (U.cl (nth (kI c) ((i:Int)).toNat)) (mw j))=true
 rw[jm];generalize Ns (nth (kI c) i) (ja4 j)=x;generalize wH (U.fd (nth (kI c) i)) (ja5 j)=y;generalize wH (U.cl (nth (kI c) i)) (mw j)=z;cases x<;>cases y<;>cases z<;>decide
theorem jdc {c:CrD} {j:JbD} (b:kZ c=true) (d:qp c j=true) (p:Nat):(p:Int)∈cZ c j↔p<(kI c).length/\gy c j (p:Int)=true:=by
 have a:qV c j=0:=(by unfold qV;rw[b,d];rfl);unfold cZ cT;rw[jd a,jG];refine⟨fun⟨i,hi,e⟩=> ?_,fun h=>⟨p,?_,rfl⟩⟩;have e:i=p:=(by omega);subst e;have:=jD.1 hi;exact⟨jp.1 this.1,(oB c j i).1 (ja this.2)⟩;exact jD.2 ⟨jp.2 h.1,jH ((oB c j p).2 h.2)⟩
theorem Xc {l:List Int} (h:∀p∈l,0<=p/\p<8):∀n,n<=l.length->∀q,BT.FS (lR l n) q=(l.take n).any (fun p=>decide (p.toNat=q))
 |0,_,q=>BT.n9 q
 |n+1,c,q=>by
  have b:=Xc h n (by omega) q
  have a:=lk h n (by omega)
  have d:=h _ (L.kJ (l:=l) (i:=n) (by omega))
  rw[xX (by omega),nK,BT.has_bor a.1 (BT.lA (by omega)),b,BT.CT,L.kT (by omega),List.any_append]
  simp
theorem Xd {l:List Int} (h:∀p∈l,0<=p/\p<8) (q:Nat):BT.FS (Ny l) q=l.any (fun p=>decide (p.toNat=q)):=by
 have:=Xc h l.length (jj _) q;rw[zm] at this;exact this
theorem RH {d:DyD} {b:Nat} (a:b<(kH d).length):nth (qN d (kH d).length) b=Ny (cZ (kD d) (yY (nth (kH d) b))):=by
 unfold qN;rw[zm,L.CU a]
theorem jbI {d:DyD} (a:GX d) {b:Nat} (c:b<(kH d).length):qp (kD d) (yY (nth (kH d) b))=true:=
 jR.1 a.2.1 _ (L.kJ c)
theorem E2 {d:DyD} (g:GX d) {b p:Int} (m:aj d b) (n:Sb d p):decide (bI (nth (qN d (kH d).length) b.toNat/2^p.toNat) 1=0)= !gy (kD d) (yY (U.bk d b)) p:=by
 unfold aj at m;unfold Sb at n;have a:b.toNat<(kH d).length:=(by omega);have j:=fun q (c:q∈cZ (kD d) (yY (nth (kH d) b.toNat)))=>Pu g.1 c
 have o:BT.qH (Ny (cZ (kD d) (yY (nth (kH d) b.toNat)))):=(lk j _ (jj _)).1;have i:U.bk d b=nth (kH d) b.toNat:=rfl;rw[RH a,BT.bit_num o,i];have k:=Xd j p.toNat;have f:=jdc g.1 (jbI g a) p.toNat;have ep:((p.toNat:Nat):Int)=p:=(by omega);rw[ep] at f;have l:BT.FS (Ny (cZ (kD d) (yY (nth (kH d) b.toNat)))) p.toNat=gy (kD d) (yY (nth (kH d) b.toNat)) p:=by
  rw[k];cases h:gy (kD d) (yY (nth (kH d) b.toNat)) p with
  |true=>exact zh.2 ⟨p,f.2 ⟨by omega,h⟩,by simp⟩
  |false=>
   refine zu.2 fun q c e=> ?_
   have e:q.toNat=p.toNat:=ja e;have:=j q c;have e:q=p:=(by omega);rw[e] at c;rw[(f.1 c).2] at h;cases h
 rw[l];cases gy (kD d) (yY (nth (kH d) b.toNat)) p<;>rfl
theorem MD {α:Type} [Inhabited α] {R:α->α->Prop} {l:List α}:(∀i,i<l.length->∀b∈l.take i,R b (nth l i))↔l.Pairwise R:=by
 rw[zq];refine⟨fun h i j hi a d=> ?_,fun h i hi b c=> ?_⟩;have:=h j a l[i] (zj.2 ⟨i,by omega,rfl⟩);rw[L.wz a] at this;exact this;obtain⟨k,hk,rfl⟩:=zj.1 c;rw[L.wz hi];exact h k i (by omega) hi (by omega)
theorem Xe {α:Type} [Inhabited α] {R:α->α->Prop} {l:List α}:(∀i,i<l.length->∀b∈l.drop (i+1),R (nth l i) b)↔l.Pairwise R:=by
 rw[zq];refine⟨fun h i j hi d c=> ?_,fun h i hi b a=> ?_⟩;have:=h i hi l[j] (List.mem_drop_iff_getElem.2 ⟨j-(i+1),by omega,by congr 1;omega⟩);rw[L.wz hi] at this;exact this;obtain⟨k,hk,rfl⟩:=List.mem_drop_iff_getElem.1 a;rw[L.wz hi];exact h i (i+1+k) hi (by omega) (by omega)
theorem nO (d:DyD) (a b:Int):dQ d a b=true↔(yq (U.bk d a)<yq (U.bk d b)\/(yq (U.bk d a)=yq (U.bk d b)/\a<b)):=decide_eq_true_iff
theorem nP (d:DyD) (a b:Int):dQ d a b=false↔¬(yq (U.bk d a)<yq (U.bk d b)\/(yq (U.bk d a)=yq (U.bk d b)/\a<b)):=jI
theorem Xf (d:DyD) (l:List Int):vB (dQ d) l where
 irrefl x _:=(nP d x x).2 (by omega)
 trans x y z _ _ _ a b:=by
  have a:=(nO d x y).1 a;have b:=(nO d y z).1 b;exact(nO d x z).2 (by omega)
 total x y _ _ a b:=by
  have a:=(nP d x y).1 a;have b:=(nP d y x).1 b;omega
theorem E3 {d:DyD} {a b:Int} (h:a≠b) (c:dQ d b a=false):dQ d a b=true:=by
 have c:=(nP d b a).1 c;exact(nO d a b).2 (by omega)
theorem TK {d:DyD} {a b:Int} (c:dQ d a b=true):dQ d b a=false:=by
 have c:=(nO d a b).1 c;exact(nP d b a).2 (by omega)
theorem um {d:DyD} {a b:Int} (h:dQ d a b=true):(nV d b a=decide (0<=cR d a b))/\(nV d a b=decide (0<=cR d a b)):=by
 unfold nV;rw[jd h,TK h,jc (by simp)];exact⟨rfl,rfl⟩
theorem Z8 {d:DyD} {a b:Int} (h:a≠b):nV d a b=nV d b a:=by
 cases c:dQ d b a with
 |false=>have:=um (E3 h c);rw[this.1,this.2]
 |true=>have:=um c;rw[this.1,this.2]
def TgR (d:DyD) (a b:Int):Prop:=a≠b->nV d b a=true
theorem Xg {d:DyD} {l:List Int} (f:l.Nodup):jft d l=true↔l.Pairwise (TgR d):=by
 rw[<-MD];unfold jft;rw[jR];have e:∀i,i<l.length->∀b∈l.take i,b≠nth l i:=(MD (R:=fun a b=>a≠b)).2 f;refine⟨fun h i hi b c _=> ?_,fun h i hi=>jR.2 fun b c=> ?_⟩;exact jR.1 (h i (jp.2 hi)) b c;exact h i (jp.1 hi) b c (e i (jp.1 hi) b c)
theorem TgR.symm {d:DyD} {a b:Int} (h:TgR d a b):TgR d b a:=fun e=>(Z8 (Ne.symm e)).trans (h (Ne.symm e))
theorem Xh {d:DyD} {l l':List Int} (h:l.Perm l'):Cg d l=Cg d l':=by
 unfold Cg;exact List.Perm.foldl_eq' (h.map _) (fun x _ y _ z=>by omega) 0
theorem oC (d:DyD) (p:Int) {l:List Int} (a:l.Nodup):vl d p l=true↔(∀b∈l,gy (kD d) (yY (U.bk d b)) p=true)/\l.Pairwise (TgR d)/\Cg d l<=R9 d:=by
 unfold vl;rw[ji,ji,jR,Xg a,decide_eq_true_iff]
theorem x7 (d:DyD) (p:Int) {l l':List Int} (h:l.Perm l') (g:l.Nodup):vl d p l=vl d p l':=by
 have f:=h.nodup_iff.1 g;refine j8.2 ?_;rw[oC d p g,oC d p f,Xh h,h.pairwise_iff (fun h=>TgR.symm h)];exact⟨fun⟨a,c⟩=>⟨fun b e=>a b (h.mem_iff.2 e),c⟩,fun⟨a,c⟩=>⟨fun b e=>a b (h.mem_iff.1 e),c⟩⟩
theorem Z9 (d:DyD) (may:List Int) (p:Int) (s:List Int):jd1 d may p s=true↔(∀b∈s,decide (bI (nth may b.toNat/2^p.toNat) 1=0)=false)/\s.Pairwise (fun a b=>0<=cR d a b)/\Cg d s<=R9 d:=by
 rw[<-Xe];unfold jd1;rw[ji,decide_eq_true_iff,jR,<-and_assoc];refine and_congr_left fun _=> ?_
 have e:∀i,Km d may p s i=true↔decide (bI (nth may (nth s i).toNat/2^p.toNat) 1=0)=false/\∀b∈s.drop (i+1),0<=cR d (nth s i) b:=by
  intro i;unfold Km;rw[jV,jS,zu];refine and_congr_right fun _=>⟨fun h b c=> ?_,fun h b c=> ?_⟩
  have:=h b c;simp at this;omega;have:=h b c;simp;omega
 refine⟨fun h=>⟨fun b c=> ?_,fun i hi=>((e i).1 (h i (jp.2 hi))).2⟩,fun h i hi=>(e i).2 ⟨h.1 _ (L.kJ (jp.1 hi)),h.2 i (jp.1 hi)⟩⟩;obtain⟨i,hi,rfl⟩:=L.mem_iff.1 c;exact((e i).1 (h i (jp.2 hi))).1
theorem Jt {d:DyD} {may:List Int} {p:Int} {l:List Int} (m:l.Nodup) (j:∀b∈l,decide (bI (nth may b.toNat/2^p.toNat) 1=0)= !gy (kD d) (yY (U.bk d b)) p):Ci d may p l=vl d p l:=by
 have f:(kS d l).Perm l:=wJ l;have c:(kS d l).Nodup:=f.nodup_iff.2 m;have k:(kS d l).Pairwise (fun a b=>dQ d b a=false):=cu (Xf d l);rw[<-x7 d p f c];unfold Ci;refine j8.2 ?_;rw[Z9,oC d p c];have i:=List.Pairwise.and k c;refine and_congr ⟨fun h b e=> ?_,fun h b e=> ?_⟩ (and_congr_left fun _=>⟨fun h=> ?_,fun h=> ?_⟩);have g:=h b e;rw[j b (f.mem_iff.1 e)] at g;simpa using g;rw[j b (f.mem_iff.1 e),h b e];rfl;refine(List.Pairwise.and i h).imp fun{a b} x _=> ?_
 rw[(um (E3 x.1.2 x.1.1)).1];exact jH x.2;refine(List.Pairwise.and i h).imp fun{a b} x=> ?_
 have:=x.2 x.1.2;rw[(um (E3 x.1.2 x.1.1)).1] at this;exact ja this
theorem nQ (a b:ShD):gm a b=true↔(Kw b<Kw a\/(Kw a=Kw b/\yZ b<yZ a)):=decide_eq_true_iff
theorem uo (a b:ShD):gm a b=false↔¬(Kw b<Kw a\/(Kw a=Kw b/\yZ b<yZ a)):=jI
theorem bB (a:ShD):gm a a=false:=(uo a a).2 (by omega)
theorem HT {a b:ShD} (h:gm a b=true):gm b a=false:=by
 have h:=(nQ a b).1 h;exact(uo b a).2 (by omega)
theorem E4 {a b c:ShD} (d:gm a b=true) (e:gm b c=true):gm a c=true:=by
 have d:=(nQ a b).1 d;have e:=(nQ b c).1 e;exact(nQ a c).2 (by omega)
theorem jaa (a b:ShD):kY a b<0↔gm b a=true:=by
 rw[nQ];unfold kY;rw[wP,vb]
 split
 rename_i h;have c:¬Kw a=Kw b:=fun e=>h (aU.2 e)
 rw[WD];omega;rename_i h;have d:Kw a=Kw b:=aU.1 (jZ.1 h);rw[WD];omega
theorem jdd {l:List ShD} (hi:∀a∈l,∀b∈l,yZ a=yZ b->a=b):vB jd0 l where
 irrefl x _:=bB x
 trans x y z _ _ _ c d:=E4 d c
 total x y hx hy c d:=by
  have c:=(uo y x).1 c;have d:=(uo x y).1 d;exact hi x hx y hy (by omega)
theorem Xi {l:List ShD}:∀i,i<l.length->∃j,j<l.length/\nth l j=nth l i/\Kk l j=true:=by
 intro i
 induction i using Nat.strongRecOn with
 |_ i d=>
  intro hi;cases h:Kk l i with
  |true=>exact⟨i,hi,rfl,h⟩
  |false=>
   simp only[Kk,zv] at h;obtain⟨x,c,e⟩:=zh.1 h;obtain⟨k,hk,rfl⟩:=zj.1 c;have e:l[k]=nth l i:=ja e;obtain⟨j,b,a,e2⟩:=d k (by omega) (by omega);exact⟨j,b,by rw[a,L.wz (by omega)];exact e,e2⟩
theorem Xj {l:List ShD} {s:ShD} (h:s∈l) (c:0<=yZ s) (d:yZ s<=99):s∈FG l:=by
 obtain⟨i,hi,rfl⟩:=L.mem_iff.1 h;obtain⟨j,b,a,e2⟩:=Xi i hi;unfold FG YE;refine List.mem_flatMap.2 ⟨(yZ (nth l i)).toNat,jp.2 (by omega),?_⟩;unfold ja6;refine jG.2 ⟨j,jD.2 ⟨jp.2 b,?_⟩,a⟩;show(decide (yZ (nth l j)=(((yZ (nth l i)).toNat:Nat):Int))&&Kk l j)=true;rw[e2,a,Bool.and_true];exact jH (by omega)
theorem RI {l:List ShD} {n m:Nat} {s:ShD} (h:s∈ja6 l n m):yZ s=(m:Int):=by
 unfold ja6 at h;obtain⟨i,hi,rfl⟩:=jG.1 h;have a:=(jD.1 hi).2;rw[ji] at a;exact ja a.1
theorem HU (l:List ShD):(FG l).Nodup:=by
 unfold FG YE;refine List.pairwise_flatMap.2 ⟨fun m _=> ?_,?_⟩;unfold ja6;refine zJ.2 (List.Pairwise.imp_of_mem ?_ (List.Pairwise.filter _ zR));intro i j hi c k e;have c:=jD.1 c;have d:=c.2;rw[ji] at d;have f:=d.2;have n:=jp.1 c.1;have o:((l.take j).any (fun x=>decide (x=nth l j)))=true:=
  zh.2 ⟨nth l i,zj.2 ⟨i,by omega,(L.wz (by omega)).symm⟩,jH e⟩
 unfold Kk at f;rw[o] at f;cases f;refine List.Pairwise.imp ?_ zR;intro a b h x p y q e;have g:=RI p;have d:=RI q;rw[e] at g;omega
theorem Ju (t s:ShD):dr t=dr s↔bP t=bP s/\au t=au s:=by
 unfold dr;refine⟨fun h=>⟨jP (·.1) h,jP (·.2.1) h⟩,fun h=>by rw[h.1,h.2]⟩
theorem E5 (l:List ShD) (s:ShD):CR l s=true↔YV s=1/\∀t∈l,dr t=dr s->gm t s=false:=by
 unfold CR;rw[ji,decide_eq_true_iff,jV,zu];refine and_congr_right fun _=>⟨fun h t a e=> ?_,fun h t a e=> ?_⟩
 have e:=(Ju t s).1 e;have:=h t a;rw[e.1,e.2,jH rfl,jH rfl] at this;simpa using this;rw[ji,ji,decide_eq_true_iff,decide_eq_true_iff] at e;rw[h t a ((Ju t s).2 e.1)] at e;exact absurd e.2 (by simp)
theorem Jv (d:DyD):GY d=(FG (qG d)).filter (CR (FG (qG d))):=by
 unfold GY;generalize FG (qG d)=l;unfold jfx;have e:(fun i=>YJ l i l.length)=(CR l)∘(nth l):=by
  funext i;unfold YJ;rw[zm];rfl
 rw[e];have:=List.filter_map (f:=nth l) (p:=CR l) (l:=List.range l.length);rw[<-this,L.range_map_nth]
theorem ME (l:List ShD):∀n,∀i,i<n->gm (nth l (pI l n)) (nth l i)=false
 |0,i,h=>absurd h (by omega)
 |n+1,i,h=>by
  have b:=ME l n
  rw[HS]
  split
  rename_i a
  rcases Nat.lt_succ_iff_lt_or_eq.1 h with h|h
  cases c:gm (nth l n) (nth l i) with
  |false=>rfl
  |true=>have:=E4 a c;rw[b i h] at this;cases this
  subst h;exact bB _
  rename_i a
  rcases Nat.lt_succ_iff_lt_or_eq.1 h with h|h
  exact b i h
  subst h;simpa using a
theorem Xk (l:List ShD):∀n,n<=l.length->(gH l n).1.Pairwise (fun a b=>gm a b=false)/\∀a∈(gH l n).1,∀b∈(gH l n).2,gm a b=false
 |0,_=>⟨List.Pairwise.nil,fun a d=>by cases d⟩
 |n+1,m=>by
  obtain⟨j,g⟩:=Xk l n (by omega)
  have k:=CK l n (by omega)
  have h:=CJ (gH l n).2 _ (jj _) (by omega)
  have e:=ME (gH l n).2 (gH l n).2.length
  have f:∀b∈(gH l n).2.take (pI (gH l n).2 (gH l n).2.length)++(gH l n).2.drop (pI (gH l n).2 (gH l n).2.length+1),b∈(gH l n).2:=by
   intro b c;rcases ju.1 c with c|c;exact zO c;exact zZ c
  refine⟨List.pairwise_append.2 ⟨j,List.pairwise_singleton _ _,fun a d b c=> ?_⟩,fun a d b c=> ?_⟩;simp at c;subst c;exact g a d _ (L.kJ h);have c:=f b c;have d:a∈(gH l n).1++[nth (gH l n).2 (pI (gH l n).2 (gH l n).2.length)]:=d;rcases ju.1 d with d|d;exact g a d b c;simp at d;subst d;obtain⟨i,hi,rfl⟩:=L.mem_iff.1 c;exact e i hi
theorem jde (d:DyD):SY jd0 (jba d):=(Xk (GY d) _ (jj _)).1
theorem CL (d:DyD):(jba d).Perm (GY d):=by
 have a:=MC (GY d) (GY d).length (jj _);have b:=(CK (GY d) (GY d).length (jj _)).2;have:(gH (GY d) (GY d).length).2=[]:=List.length_eq_zero_iff.1 (by omega);rw[this,jY] at a;exact a
theorem RJ {l:List ShD} (i:l.Pairwise (fun a b=>gm b a=true)):∀n,n<=l.length->∀s∈l.take n,(w4 (Ty.dflt tSh) (wv tSt (dr s) (qr l n))=s↔∀t∈l.take n,dr t=dr s->gm t s=false)
 |0,_,s,c=>by simp at c
 |n+1,k,s,c=>by
  have j:=RJ i n (by omega)
  have g:(l.take (n+1)).Pairwise (fun a b=>gm b a=true):=i.sublist (List.take_sublist _ _)
  rw[L.kT (by omega)] at g c
  have f:∀t∈l.take n,gm (nth l n) t=true:=fun t d=>(List.pairwise_append.1 g).2.2 t d _ (by simp)
  rw[ET (by omega),L.kT (by omega)]
  by_cases hk:dr s=dr (nth l n)
  rw[hk,M.sD]
  show nth l n=s↔_
  rcases ju.1 c with c|c
  refine⟨fun e=> ?_,fun h=> ?_⟩
  have:=f s c
  rw[e,bB] at this;cases this
  have:=h (nth l n) (by simp) rfl
  rw[f s c] at this;cases this
  simp at c;subst c
  refine⟨fun _ t d _=> ?_,fun _=>rfl⟩
  rcases ju.1 d with d|d
  exact HT (f t d)
  simp at d;subst d;exact bB _
  rw[M.eN hk]
  have c:s∈l.take n:=by
   rcases ju.1 c with c|c;exact c;simp at c;subst c;exact absurd rfl hk
  rw[j s c];refine⟨fun h t d e=> ?_,fun h t d=>h t (jh _ d)⟩;rcases ju.1 d with d|d;exact h t d e;simp at d;subst d;exact absurd e.symm hk
theorem Xl {d:DyD} (h:wj d=0):(wm d).Pairwise (fun a b=>gm b a=true):=by
 have f:=jgG h;have g:SY (kK tSh fun x=>(kY x.1 x.2.1,())) (wm d):=cu f;have e:∀s∈wm d,s∈wS (qG d):=fun s i=>(wJ _).mem_iff.1 i
 refine List.Pairwise.imp_of_mem ?_ (List.Pairwise.and g (gg d));intro a b j k ⟨h1,h2⟩;cases c:kK tSh (fun x=>(kY x.1 x.2.1,())) a b with
 |false=>exact absurd (f.total a b (e a j) (e b k) c h1) h2
 |true=>
  have c:kY a b<0:=ja c;exact(jaa a b).1 c
theorem MF {d:DyD} (h:wj d=0) {s:ShD} (a:s∈wm d):ve (qr (wm d) (wm d).length) s=true↔YV s=1/\∀t∈wm d,dr t=dr s->gm t s=false:=by
 have:=RJ (Xl h) (wm d).length (jj _) s (by rw[zm];exact a);rw[zm] at this;rw[<-this];unfold ve;rw[jV,jS,zv,zv,decide_eq_true_iff,decide_eq_true_iff];exact and_comm
theorem MG {d:DyD} (h:wZ d=true) {s:ShD} (a:s∈qG d):0<=yZ s/\yZ s<=99:=by
 have:=(qv h).2.2.2.2.2.2.2 _ a;unfold ic at this;have:=ja this;omega
def BP (d:DyD):ShD->Bool:=ve (qr (wm d) (wm d).length)
theorem Xm {d:DyD} (h:wj d=0):(wm d).filter (BP d)=jba d:=by
 have j:=wL h;have f:∀s,s∈FG (qG d)↔s∈wm d:=fun s=>⟨fun c=>gD.2 (RG c),fun c=>by
  have c:=gD.1 c;have:=MG j.1.2.2 c;exact Xj c this.1 this.2⟩
 have g:∀s,s∈(wm d).filter (BP d)↔s∈jba d:=by
  intro s;rw[(CL d).mem_iff,Jv,jD,jD,f s];refine and_congr_right fun c=> ?_
  rw[E5];have:=MF h c;refine this.trans (and_congr_right fun _=>⟨fun h t i=>h t ((f t).1 i),fun h t i=>h t ((f t).2 i)⟩)
 have n:((wm d).filter (BP d)).Nodup:=List.Pairwise.filter _ (gg d);have o:(jba d).Nodup:=(CL d).nodup_iff.2 (by rw[Jv];exact List.Pairwise.filter _ (HU _));have m:=L.eK n o g;refine ru (jdd ?_) m ?_ (jde d);intro a k b l e;exact j.2 a (gD.1 (jD.1 k).1) b (gD.1 (jD.1 l).1) e;exact(List.Pairwise.filter _ (Xl h)).imp fun x=>HT x
structure Gw (d:DyD) (x:List (List Int)×List Int) (y:List Int×List Int):Prop where
 ref:x.2=y.2
 len:y.1.length=(kH d).length
 set:∀b,b<(kH d).length->BT.qH (nth y.1 b)
 bit:∀b,b<(kH d).length->∀p,BT.FS (nth y.1 b) p=true↔p<(kI (kD d)).length/\(b:Int)∈nth x.1 p
theorem dM {t:Int} (h:BT.qH t) (p:Int):wH t p=BT.FS t p.toNat:=BT.has_shr h p.toNat
theorem jeP {d:DyD} {x:List (List Int)×List Int} {y:List Int×List Int} (h:Gw d x y) {p:Int} (j:Sb d p) (g:∀b∈nth x.1 p.toNat,aj d b) (n:Int):n∈U.on y.1 p↔n∈nth x.1 p.toNat:=by
 unfold Sb at j;unfold U.on QC;rw[jG];refine⟨fun⟨i,hi,e⟩=> ?_,fun f=> ?_⟩;subst e;have hi:=jD.1 hi;have a:=jp.1 hi.1;rw[h.len] at a;have c:wH (nth y.1 i) p=true:=hi.2;rw[dM (h.set i a)] at c;exact((h.bit i a p.toNat).1 c).2;have hk:=g n f;unfold aj at hk;have en:((n.toNat:Nat):Int)=n:=(by omega);refine⟨n.toNat,jD.2 ⟨jp.2 (by rw[h.len];omega),?_⟩,en⟩;show wH (nth y.1 n.toNat) p=true;rw[dM (h.set _ (by omega))];exact(h.bit _ (by omega) _).2 ⟨by omega,by rw[en];exact f⟩
theorem CM (t:List Int) (p:Int):(U.on t p).Nodup:=by
 unfold U.on QC;refine zJ.2 ((List.Pairwise.filter _ zR).imp ?_);intro a b c e;omega
theorem jdf {d:DyD} {x:List (List Int)×List Int} {y:List Int×List Int} (h:Gw d x y) {p:Int} (e:Sb d p) (c:(nth x.1 p.toNat).Nodup) (a:∀b∈nth x.1 p.toNat,aj d b):(nth x.1 p.toNat).Perm (U.on y.1 p):=
 L.eK c (CM _ _) (fun n=>(jeP h e a n).symm)
theorem jeQ {d:DyD} (i:GX d) {x:List (List Int)×List Int} {y:List Int×List Int} (h:Gw d x y) {p b:Int} (g:Sb d p) (e:(nth x.1 p.toNat++[b]).Nodup) (f:∀c∈nth x.1 p.toNat++[b],aj d c):
 Ci d (qN d (kH d).length) p (nth x.1 p.toNat++[b])=vl d p (U.on y.1 p++[b]):=by
 rw[Jt e (fun c a=>E2 i (f c a) g)];exact x7 d p ((jdf h g (zK.1 e).1 (fun c a=>f c (jh _ a))).append_right [b]) e
theorem jeR {d:DyD} {x:List (List Int)×List Int} {y:List Int×List Int} (h:Gw d x y) (v:x.1.length=(kI (kD d)).length) (u:(kI (kD d)).length<=8) {p b:Int} (t:Sb d p) (s:aj d b) (i:b∉nth x.1 p.toNat):
 Gw d (x.1.set p.toNat (nth x.1 p.toNat++[b]),x.2) (y.1.set b.toNat (nth y.1 b.toNat+2^p.toNat),y.2):=by
 unfold Sb at t;unfold aj at s;have r:((b.toNat:Nat):Int)=b:=(by omega);have g:b.toNat<y.1.length:=(by rw[h.len];omega);have n:p.toNat<x.1.length:=(by omega);have o:=h.set b.toNat (by omega);have m:BT.FS (nth y.1 b.toNat) p.toNat=false:=by
  cases j:BT.FS (nth y.1 b.toNat) p.toNat with
  |false=>rfl
  |true=>exact absurd (by have:=((h.bit _ (by omega) _).1 j).2;rw[r] at this;exact this) i
 have a:=BT.add_two o (p:=p.toNat) (by omega) m;have j:=BT.lA (k:=p.toNat) (by omega);refine⟨h.ref,by show(y.1.set _ _).length=_;rw[zA];exact h.len,fun c l=> ?_,fun c l q=> ?_⟩;show BT.qH (nth (y.1.set b.toNat (nth y.1 b.toNat+2^p.toNat)) c);rw[L.vM g]
 split
 rw[a];exact BT.bor_set o j;exact h.set c l;show BT.FS (nth (y.1.set b.toNat (nth y.1 b.toNat+2^p.toNat)) c) q=true↔_/\(c:Int)∈nth (x.1.set p.toNat (nth x.1 p.toNat++[b])) q;rw[L.vM g,L.vM n];by_cases f:b.toNat=c;rw[jd f,a,BT.has_bor o j,BT.CT,zG,decide_eq_true_iff,h.bit _ (by omega),<-f,r];by_cases e:p.toNat=q;rw[jd e];refine⟨fun _=>⟨by omega,by simp⟩,fun _=> .inr e⟩;rw[jc e];exact⟨fun h=>h.elim id (fun h=>absurd h e),.inl⟩;rw[jc f,h.bit c l];by_cases e:p.toNat=q;rw[jd e,ju,<-e];refine and_congr_right fun _=>⟨.inl,fun h=>h.elim id (fun h=> ?_)⟩
 simp at h;omega;rw[jc e]
theorem jab (d:DyD):Gw d (qM (de d) (wm d) 0) (List.replicate (kH d).length 0,[]):=by
 have c:∀b,b<(kH d).length->nth (List.replicate (kH d).length (0:Int)) b=0:=fun b a=>L.aV a
 refine⟨rfl,jW,fun b a=> ?_,fun b a p=> ?_⟩;show BT.qH (nth (List.replicate (kH d).length (0:Int)) b);rw[c b a];exact BT.u7;show BT.FS (nth (List.replicate (kH d).length (0:Int)) b) p=true↔_/\(b:Int)∈nth (jd2 d) p;rw[c b a,BT.n9];have f:ja8 (jd2 d):=fun x g=>(List.mem_replicate.1 g).2
 have e:nth (jd2 d) p=[]:=Jp f p;rw[e];simp
def Xn (d:DyD) (i:Nat):List Int×List Int:=(((wm d).take i).filter (BP d)).foldl (H8 d) (List.replicate (kH d).length 0,[])
attribute [local irreducible] qM vl Ci U.on Xn wm BP de qN in
theorem jac {d:DyD} (h:wj d=0) {i:Nat} (hi:i<(wm d).length) (ih:Gw d (qM (de d) (wm d) i) (Xn d i)) (_:dS (de d) (wm d) i (qM (de d) (wm d) i)) (hrd:U.rd (de d)=d) (hml:aN (de d)=qN d (kH d).length)
 (hx:(qM (de d) (wm d) i).1.length=(kI (kD d)).length) (hdec:BP d=ve (qr (wm d) (wm d).length)) (hft:Xn d (i+1)=if BP d (nth (wm d) i)=true then H8 d (Xn d i) (nth (wm d) i) else Xn d i)
 (hnew:BP d (nth (wm d) i)=true->(nth (qM (de d) (wm d) i).1 (au (nth (wm d) i)).toNat++[bP (nth (wm d) i)]).Nodup/\∀b∈nth (qM (de d) (wm d) i).1 (au (nth (wm d) i)).toNat++[bP (nth (wm d) i)],aj d b):
 Gw d (qM (de d) (wm d) (i+1)) (Xn d (i+1)):=by
 have hD:=(wL h).1
 have h8:(kI (kD d)).length<=8:=(wI hD.1).2.2.1
 have hsf:=oA hD.2.2 (gD.1 (L.kJ (l:=wm d) (i:=i) hi))
 rw[hft]
 cases hc:BP d (nth (wm d) i) with
 |false=>
  rw[hdec] at hc
  rw[CH hi hc,jc (by simp)]
  exact ih
 |true=>
  have hn:=hnew hc
  have hcan:=jeQ hD ih (p:=au (nth (wm d) i)) (b:=bP (nth (wm d) i)) hsf.1 hn.1 hn.2
  rw[hdec] at hc
  rw[jd rfl]
  unfold H8
  cases hk:vl d (au (nth (wm d) i)) (U.on (Xn d i).1 (au (nth (wm d) i))++[bP (nth (wm d) i)]) with
  |true=>
   rw[hk] at hcan
   rw[EU hi hc (by rw[hrd,hml];exact hcan),jd rfl]
   refine jeR ih hx h8 hsf.1 hsf.2 (fun hin=> ?_)
   exact(zK.1 hn.1).2.2 _ hin _ (by simp) rfl
  |false=>
   rw[hk] at hcan
   rw[RE hi hc (by rw[hrd,hml];exact hcan),jc (by simp)]
   exact⟨jP (·++[yZ (nth (wm d) i)]) ih.ref,ih.len,ih.set,ih.bit⟩
theorem Xo {d:DyD} (h:wj d=0):∀i,i<=(wm d).length->Gw d (qM (de d) (wm d) i) (Xn d i)
 |0,_=>jab d
 |i+1,hi=>by
  have k:=Xo h i (by omega)
  obtain⟨⟨_,m⟩,⟨j,b⟩,c⟩:=Ml h
  have f:=(wL h).1
  have a:=EV (r:=de d) (l:=wm d) f.2.2 (fun s e=>gD.1 e) (gg d) j b c i (by omega)
  refine jac h hi k a rfl rfl a.1 rfl ?_ fun g=> ?_
  unfold Xn
  rw[L.A8 (p:=BP d) (l:=wm d) (i:=i) hi,jz]
  split<;>rfl
  have:=Mi (r:=de d) (l:=wm d) f.2.2 (fun s e=>gD.1 e) (gg d) hi a g
  exact⟨this.1,this.2.1⟩
theorem jad {d:DyD} (h:wj d=0):Xn d (wm d).length=QD d:=by
 unfold Xn QD jfy;rw[zm,zm,Xm h]
theorem se {d:DyD} (h:wj d=0):Gw d (yr (gS d),(qM (de d) (wm d) (wm d).length).2) (QD d):=by
 have:=Xo h _ (jj _);rw[jad h] at this;exact⟨this.ref,this.len,this.set,this.bit⟩
theorem RK (on:List (List Int)) (b:Int):∀n,n<=60->BT.qH (aP on b n)/\∀q,BT.FS (aP on b n) q=true↔q<n/\b∈nth on q
 |0,_=>⟨BT.u7,fun q=>by
  have:aP on b 0=0:=rfl
  rw[this,BT.n9];simp⟩
 |n+1,m=>by
  obtain⟨f,i⟩:=RK on b n (by omega)
  have g:=BT.lA (k:=n) (by omega)
  have a:(nth on n).any (fun x=>decide (x=b))=true↔b∈nth on n:=by
   rw[zh];exact⟨fun⟨x,l,e⟩=>(ja e)▸l,fun j=>⟨b,j,jH rfl⟩⟩
  rw[EP]
  split
  rename_i c;have c:=a.1 c;rw[nK];refine⟨BT.bor_set f g,fun q=> ?_⟩;rw[BT.has_bor f g,BT.CT,zG,decide_eq_true_iff,i];refine⟨fun h=>h.elim (fun h=>⟨by omega,h.2⟩) (fun h=>by subst h;exact⟨by omega,c⟩),fun h=> ?_⟩;by_cases d:q=n;exact .inr d.symm;exact .inl ⟨by omega,h.2⟩;rename_i c;refine⟨f,fun q=> ?_⟩;rw[i];refine⟨fun h=>⟨by omega,h.2⟩,fun h=>⟨?_,h.2⟩⟩;by_cases d:q=n;subst d;exact absurd (a.2 h.2) c;omega
theorem Xp {d:DyD} (h:wj d=0) {b:Nat} (a:b<(kH d).length):ew (yr (gS d)) (b:Int)=nth (QD d).1 b:=by
 have f:=se h;have c:=HR h;have g:=RK (yr (gS d)) (b:Int) (yr (gS d)).length c.len60;refine BT.ext g.1 (f.set b a) fun p=>j8.2 ?_
 have e:=(g.2 p).trans (f.bit b a p|>.trans (by rw[<-c.len])).symm;exact e
theorem jeS {d:DyD} (h:wj d=0):ag d (kH d).length=(QD d).1:=by
 have b:=se h;have a:(ag d (kH d).length).length=(kH d).length:=(by unfold ag;simp);refine L.ext_nth (by rw[a];exact b.len.symm) fun i hi=> ?_
 rw[a] at hi;unfold ag;rw[L.CU (by simpa using hi)];have:nth (List.range (kH d).length) i=i:=(by rw[L.wz (by simpa using hi)];simp);rw[this];exact Xp h hi
theorem PU (d:DyD):bR d=if gx d=0 then(QD d).1 else[]:=by
 unfold bR;rw[vC]
 split
 rename_i h;exact jeS ((vC d).trans h);rfl
end Go.X
namespace Go.X
open U
open Go.Proofs
attribute [local irreducible] gH pI jfx FG GY jba YJ
end Go.X
namespace Go.X
open U
open Go.Proofs
namespace U
def jgN (d:DyD) (t:List Int) (b:Nat):Bool:=b8 (kD d) (yY (nth (kH d) b)) (nth t b)
def Sd (d:DyD) (t:List Int) (n:Nat):List Int:=((List.range n).filter (jgN d t)).map (fun(b:Nat)=>(b:Int))
def jfS (d:DyD):List Int:=if gx d=0 then Sd d (Kx d) (Kx d).length else[]
end U
theorem jdg {d:DyD} (h:gx d=0):(QD d).1.length=(kH d).length:=(se ((vC d).trans h)).len
theorem jdh {d:DyD} (h:gx d=0) {b:Nat} (a:b<(kH d).length):jfR (nth (QD d).1 b):=by
 have c:=se ((vC d).trans h);have i:(kI (kD d)).length<=8:=(wI (Xb h).1).2.2.1;have e:=c.set b a;have f:=BT.lt_of_has (k:=8) e (fun p g=>by have:=((c.bit b a p).1 g).1;omega);exact⟨e.1,f⟩
theorem MH {d:DyD} (h:gx d=0):Kx d=(QD d).1:=jd h
theorem x8 {d:DyD} (h:gx d=0):(Kx d).length=(kH d).length:=by rw[MH h];exact jdg h
section
attribute [local irreducible] QD gx
end
section
attribute [local irreducible] Sd Kx gx b8
end
section
attribute [local irreducible] vl U.on wH GX
end
section
attribute [local irreducible] Kx gx wH
end
end Go.X
namespace Go.X
open U
open Go.Proofs
section
attribute [local irreducible] Kx gx b8 NA jfR
end
end Go.X
namespace Go.X
open U
open Go.Proofs
theorem E6 (n m:Nat):n|||m=0↔n=0/\m=0:=by
 constructor;intro h;constructor;refine kk fun i=> ?_
 have:=jP (fun z=>Nat.testBit z i) h;simp only[Nat.testBit_or,Nat.zero_testBit,jS] at this;rw[this.1,Nat.zero_testBit];refine kk fun i=> ?_
 have:=jP (fun z=>Nat.testBit z i) h;simp only[Nat.testBit_or,Nat.zero_testBit,jS] at this;rw[this.2,Nat.zero_testBit];rintro⟨rfl,rfl⟩;rfl
theorem RL {a b:Int} (c:0<=a/\a<64) (d:0<=b/\b<64):uor a b=0↔a=0/\b=0:=by
 obtain⟨n,rfl⟩:∃n:Nat,a=(n:Int):=⟨a.toNat,by omega⟩;obtain⟨m,rfl⟩:∃m:Nat,b=(m:Int):=⟨b.toNat,by omega⟩;rw[BT.uor_nat (by omega) (by omega)];have:=E6 n m;omega
theorem jae {a b:Int} (c:0<=a/\a<64) (d:0<=b/\b<64):bor a b=0↔a=0/\b=0:=by
 obtain⟨n,rfl⟩:∃n:Nat,a=(n:Int):=⟨a.toNat,by omega⟩;obtain⟨m,rfl⟩:∃m:Nat,b=(m:Int):=⟨b.toNat,by omega⟩;rw[BT.bor_nat (by omega) (by omega)];have:=E6 n m;omega
theorem jaf {a b:Int} (c:0<=a/\a<64) (d:0<=b/\b<64):0<=bor a b/\bor a b<64:=by
 obtain⟨n,rfl⟩:∃n:Nat,a=(n:Int):=⟨a.toNat,by omega⟩;obtain⟨m,rfl⟩:∃m:Nat,b=(m:Int):=⟨b.toNat,by omega⟩;rw[BT.bor_nat (by omega) (by omega)];have:n|||m<2^6:=Nat.or_lt_two_pow (by omega) (by omega);omega
theorem E7 {b:Bool} {o k:Int} (h:0<=o/\o<64) (hk:0<k/\k<64):GW b o k=0↔b=false/\o=0:=by
 unfold GW;cases b with
 |false=>rw[jc (by simp)];simp
 |true=>
  rw[jd rfl,RL h ⟨by omega,by omega⟩];refine⟨fun h=>absurd h.2 (by omega),fun h=>absurd h.1 (by simp)⟩
theorem oD {b:Bool} {o k:Int} (h:0<=o/\o<64) (hk:0<k/\k<64):jbW b o k=0↔b=false/\o=0:=by
 unfold jbW;cases b with
 |false=>rw[jc (by simp)];simp
 |true=>
  rw[jd rfl,jae h ⟨by omega,by omega⟩];refine⟨fun h=>absurd h.2 (by omega),fun h=>absurd h.1 (by simp)⟩
theorem MI {b:Bool} {o k:Int} (h:0<=o/\o<64) (hk:0<k/\k<64):0<=jbW b o k/\jbW b o k<64:=by
 unfold jbW
 split
 exact jaf h ⟨by omega,hk.2⟩;exact h
theorem MJ (t:TkD):∀(q:List (Int×PeD×Unit)) (o:Int),(0<=o/\o<64)->(dq t o q=0↔o=0/\∀x∈q,vU t x.2.1=0)
 |[],o,_=>by
  show o=0↔_
  simp
 |x::q,o,h=>by
  have b:=Et t x.2.1
  have a:=MJ t q (uor o (vU t x.2.1)) (Wz h ⟨by omega,by omega⟩)
  show dq t (uor o (vU t x.2.1)) q=0↔_
  rw[a,RL h ⟨by omega,by omega⟩]
  simp only[jk,forall_eq_or_imp,and_assoc]
theorem jag {t:Int} (h:BT.qH t) (p:Int):uV t p=BT.FS t p.toNat:=BT.has_ushr h p.toNat
theorem jbJ {t:Int} (h:BT.qH t) (p:Int):uV t p=wH t p:=(jag h p).trans (dM h p).symm
theorem oE {t:TkD} {s:Int} (b:BT.qH s) {x:Int×PeD×Unit}:x∈A3 t s↔∃i:Nat,i<(kI (U.tc t)).length/\wH s (i:Int)=true/\x=((i:Int),nth (kI (U.tc t)) i,()):=by
 unfold A3 yM;rw[jG];refine⟨fun⟨i,hi,e⟩=> ?_,fun⟨i,c,a,e⟩=>⟨i,jD.2 ⟨jp.2 c,?_⟩,e.symm⟩⟩;have hi:=jD.1 hi;have a:uV s (i:Int)=true:=hi.2;exact⟨i,jp.1 hi.1,(jbJ b _)▸a,e.symm⟩;show uV s (i:Int)=true;rw[jbJ b];exact a
theorem x9 (c:CrD) (j:JbD) (t:Int):∀n,(0<=(Cm c j t n).1/\(Cm c j t n).1<64)/\((Cm c j t n).1=0↔∀i:Nat,i<n->wH t (i:Int)=true->gy c j (i:Int)=true)/\
 ((Cm c j t n).2=true↔∃i:Nat,i<n/\wH t (i:Int)=true/\jfs (nth (kI c) i)=true)
 |0=>⟨by show(0:Int)<=0/\(0:Int)<64;omega,⟨fun _ i h=>absurd h (by omega),fun _=>rfl⟩,⟨fun h=>(by cases h),fun⟨i,h,_⟩=>absurd h (by omega)⟩⟩
 |n+1=>by
  obtain⟨l,o,p⟩:=x9 c j t n
  cases g:wH t (n:Int) with
  |false=>
   rw[W9 g]
   refine⟨l,o.trans ⟨fun h i hi a=> ?_,fun h i hi=>h i (by omega)⟩,p.trans ⟨fun⟨i,hi,a⟩=>⟨i,by omega,a⟩,fun⟨i,hi,d,f⟩=>⟨i,?_,d,f⟩⟩⟩
   by_cases e:i=n
   subst e;rw[g] at a;cases a
   exact h i (by omega) a
   by_cases e:i=n
   subst e;rw[g] at d;cases d
   omega
  |true=>
   have e:Cm c j t (n+1)=(jbW (!wH (U.cl (nth (kI c) n)) (mw j)) (jbW (!wH (U.fd (nth (kI c) n)) (ja5 j)) (jbW (Ns (nth (kI c) n) (ja4 j)) (Cm c j t n).1 1) 2) 4,(Cm c j t n).2||jfs (nth (kI c) n)):=by
    rw[Mw];unfold YI;rw[jd g]
   rw[e];have o1:=MI (b:=Ns (nth (kI c) n) (ja4 j)) (k:=1) l (by omega);have o2:=MI (b:= !wH (U.fd (nth (kI c) n)) (ja5 j)) (k:=2) o1 (by omega);have s:=MI (b:= !wH (U.cl (nth (kI c) n)) (mw j)) (k:=4) o2 (by omega);refine⟨s,?_,?_⟩;show jbW _ _ 4=0↔_;rw[oD o2 (by omega),oD o1 (by omega),oD l (by omega),o];have m:gy c j (n:Int)=(!(Ns (nth (kI c) n) (ja4 j))&&wH (U.fd (nth (kI c) n)) (ja5 j)&&wH (U.cl (nth (kI c) n)) (mw j)):=by
    unfold gy;rw[jm]
   refine⟨fun⟨d,f,q,r⟩ i hi a=> ?_,fun h=> ?_⟩;by_cases e:i=n;subst e;rw[m];simp only[zv] at d f;rw[d,f,q];rfl;exact r i (by omega) a;have:=h n (by omega) g;rw[m,ji,ji,jV] at this;exact⟨by rw[this.2];rfl,by rw[this.1.2];rfl,this.1.1,fun i hi=>h i (by omega)⟩;show((Cm c j t n).2||jfs (nth (kI c) n))=true↔_;rw[zG,p];refine⟨fun h=>h.elim (fun⟨i,hi,a⟩=>⟨i,by omega,a⟩) (fun h=>⟨n,by omega,g,h⟩),fun⟨i,hi,d,f⟩=> ?_⟩;by_cases e:i=n;subst e;exact .inr f;exact .inl ⟨i,by omega,d,f⟩
theorem jah {c:CrD} {j:JbD} {t:Int} (d:BT.qH t) (a b:Nat):NP (c,j,ig c j,()) t a b=U.J3 c t (YU (ig c j)) a b:=by
 unfold NP U.J3 nW jfu;refine j8.2 ?_;rw[zh,zh];refine⟨fun⟨x,g,h⟩=> ?_,fun⟨i,hi,h⟩=> ?_⟩;obtain⟨i,e,f,rfl⟩:=(oE d).1 g;refine⟨i,jp.2 e,?_⟩;have h:YU (ig c j)<=min (nth (U.lv (nth (kI c) i)) ((a:Int)).toNat) (nth (U.lv (nth (kI c) i)) ((b:Int)).toNat):=ja h;rw[f,jH (by omega:YU (ig c j)<=nth (U.lv (nth (kI c) i)) ((a:Int)).toNat),jH (by omega:YU (ig c j)<=nth (U.lv (nth (kI c) i)) ((b:Int)).toNat)];rfl;rw[ji,ji,decide_eq_true_iff,decide_eq_true_iff] at h;refine⟨((i:Int),nth (kI c) i,()),(oE d).2 ⟨i,jp.1 hi,h.1.1,rfl⟩,?_⟩;exact jH (show YU (ig c j)<=min (nth (U.lv (nth (kI c) i)) ((a:Int)).toNat) (nth (U.lv (nth (kI c) i)) ((b:Int)).toNat) by have:=h.1.2;have:=h.2;omega)
theorem jdi (c:CrD) (t lev:Int) (a b:Nat):U.J3 c t lev a b=U.J3 c t lev b a:=by
 unfold U.J3 jfu;refine j8.2 ?_;rw[zh,zh];constructor<;>
 .rintro⟨i,hi,h⟩;refine⟨i,hi,?_⟩;rw[ji,ji] at h⊢;exact⟨⟨h.1.1,h.2⟩,h.1.2⟩
theorem jeT {c:CrD} {j:JbD} {t:Int} (_:kZ c=true) (d:qp c j=true) (f:BT.qH t):nth (lz (c,j,ig c j,()) t) (US j).toNat<0↔nth (jg4 c t (YU (ig c j)) (US j)) (NO j).toNat<0:=by
 have h:=nf d;have e:NP (c,j,ig c j,()) t=U.J3 c t (YU (ig c j)):=(by funext a b;exact jah f a b);show nth (jfv (NP (c,j,ig c j,()) t) (U.la c).toNat (NO j).toNat) (US j).toNat<0↔nth (Ch (U.J3 c t (YU (ig c j))) (U.la c).toNat (US j).toNat (U.la c).toNat) (NO j).toNat<0;rw[e];exact(jcX (jdi c t _) (by omega) (by omega)).symm
theorem Xq {c:CrD} {j:JbD} {t:Int} (a:BT.qH t):(∀x∈A3 (c,j,ig c j,()) t,vU (c,j,ig c j,()) x.2.1=0)↔∀i:Nat,i<(kI c).length->wH t (i:Int)=true->gy c j (i:Int)=true:=by
 refine⟨fun h i hi e=>(oB c j i).1 (h ((i:Int),nth (kI c) i,()) ((oE a).2 ⟨i,hi,e,rfl⟩)),fun h x f=> ?_⟩;obtain⟨i,b,d,rfl⟩:=(oE a).1 f;exact(oB c j i).2 (h i b d)
theorem jai {c:CrD} {j:JbD} {t:Int} (d:BT.qH t):ii (A3 (c,j,ig c j,()) t)=jgM c j t:=by
 refine j8.2 ?_;unfold jgM;rw[(x9 c j t (kI c).length).2.2];unfold ii;rw[zh];refine⟨fun⟨x,f,h⟩=> ?_,fun⟨i,a,b,e⟩=>⟨((i:Int),nth (kI c) i,()),(oE d).2 ⟨i,a,b,rfl⟩,e⟩⟩;obtain⟨i,a,b,rfl⟩:=(oE d).1 f;exact⟨i,a,b,h⟩
theorem PV {c:CrD} {j:JbD} {t:Int} (n:kZ c=true) (o:qp c j=true) (a:BT.qH t):vk (c,j,ig c j,()) t=0↔jg5 c j t=0:=by
 have f:=x9 c j t (kI c).length;have g:=Pa (c,j,ig c j,()) (A3 (c,j,ig c j,()) t) 0 (by omega);have i:=Eu (b:=decide (BT.size t≠max (jeh j) (jeg (ig c j)))) (k:=8) g (by omega);have q:=Eu (b:=(jgr (ig c j)&& !ii (A3 (c,j,ig c j,()) t))) (k:=16) i (by omega);have d:0<=jgL c j t/\jgL c j t<64:=f.1;have e:=MI (b:=decide (BT.size t≠max (jeh j) (jeg (ig c j)))) (k:=8) d (by omega);have l:=MI (b:=(jgr (ig c j)&& !jgM c j t)) (k:=16) e (by omega);have m:vk (c,j,ig c j,()) t=GW (decide (nth (lz (c,j,ig c j,()) t) (US j).toNat<0)) (GW (jgr (ig c j)&& !ii (A3 (c,j,ig c j,()) t)) (GW (decide (BT.size t≠max (jeh j) (jeg (ig c j)))) (dq (c,j,ig c j,()) 0 (A3 (c,j,ig c j,()) t)) 8) 16) 32:=rfl;have p:jgL c j t=0↔dq (c,j,ig c j,()) 0 (A3 (c,j,ig c j,()) t)=0:=by
  rw[MJ _ _ _ (by omega),Xq a];exact f.2.1.trans ⟨fun h=>⟨rfl,h⟩,fun h=>h.2⟩
 rw[m,E7 q (by omega),E7 i (by omega),E7 g (by omega)];unfold jg5;rw[oD l (by omega),oD e (by omega),oD d (by omega),p,jai a,jI,jI,jeT n o a,jI]
theorem Xr {d:DyD} (a:GX d) {b:Int} (k:aj d b) {t:Int} (e:0<=t) (n:t<2^(kI (kD d)).length):pH d b t=b8 (kD d) (yY (U.bk d b)) t:=by
 unfold aj at k;have h:qp (kD d) (yY (U.bk d b))=true:=jbI a (b:=b.toNat) (by omega);have o:=(rO a.1).2;have m:BT.qH t:=(by unfold BT.qH;omega);have i:qV (kD d) (yY (U.bk d b))=0:=(by unfold qV;rw[a.1,h];rfl);have j:Kl (kD d) t=true:=by
  unfold Kl kA;rw[jH e,jH (by omega)];rfl
 have l:bE (kD d) (yY (U.bk d b)) t=0:=by
  unfold bE;rw[jc (by rw[i];simp),j,jd rfl]
 have c:=PV a.1 h m;unfold pH b8 jek;rw[l,jd rfl];refine j8.2 ?_;simp only[ji,decide_eq_true_iff,true_and];rw[c];constructor;rintro⟨f,g⟩;exact⟨by omega,f⟩;rintro⟨f,g⟩;exact⟨g,by omega⟩
theorem jeU {d:DyD} {t:Int} (a:BT.qH t):gn d t=NA (kD d) t:=by
 unfold gn NA;have:∀n,bZ (kI (kD d)) t n=eG (kD d) t n:=by
  intro n
  induction n with
  |zero=>rfl
  |succ n c=>
   have b:bZ (kI (kD d)) t (n+1)=bZ (kI (kD d)) t n+bI (t/2^n) 1*U.fe (nth (kI (kD d)) n):=by
    unfold bZ;rw[jN,jz];rfl
   have e2:eG (kD d) t (n+1)=if wH t (n:Int)=true then eG (kD d) t n+U.fe (nth (kI (kD d)) n) else eG (kD d) t n:=by
    unfold eG;rw[jN,jz];rfl
   rw[b,e2,c,BT.bit_num a,dM a,jm]
   split
   rw[Int.one_mul];rw[Int.zero_mul,Int.add_zero]
 exact this _
theorem jbK {d:DyD} (h:gx d=0) {b:Nat} (a:b<(kH d).length):0<=nth (QD d).1 b/\nth (QD d).1 b<2^(kI (kD d)).length:=by
 have c:=se ((vC d).trans h);have e:=c.set b a;exact⟨e.1,BT.lt_of_has e (fun p f=>((c.bit b a p).1 f).1)⟩
theorem PW (d:DyD):kB d=jfS d:=by
 unfold kB jfS;rw[vC];by_cases h:gx d=0;rw[jd h,jd h,x8 h];unfold gO Sd;congr 1;refine List.filter_congr fun b a=> ?_
 have a:=jp.1 a;have hk:=(vC d).trans h;have c:=jbK h a;show pH d (b:Int) (ew (yr (gS d)) (b:Int))=b8 (kD d) (yY (nth (kH d) b)) (nth (Kx d) b);rw[Xp hk a,MH h,Xr (Xb h) (by unfold aj;omega) c.1 c.2];rfl;rw[jc h,jc h]
end Go.X
