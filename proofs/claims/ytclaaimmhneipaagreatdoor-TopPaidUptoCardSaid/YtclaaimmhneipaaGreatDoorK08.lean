/-
  Part 8 of the road: a checked reading of bodies, and what the functions on it do (PD VT PT LW).
-/
import Derived.Test.YtclaaimmhneipaaGreatDoorK07
import Derived.Test.YtclaaimmhneipaaGreatDoorCards
import Derived.Test.YtclaaimmhneipaaGreatDoorTie
import Derived.Deep.DeepHandedRow
import Derived.Lib.LaidTab
namespace Go.X
open U
namespace U
def iq (l:List LnD) (b:Int) (k:Nat):Int:=(l.take k).foldl (fun s x=>if eU x=b then s+1 else s) 0
def u6 (l:List LnD) (b:Int) (k:Nat):Int:=(l.take k).foldl (fun s x=>if eU x=b then Ia x+Ib x else s) 0
def FP (t:Int) (q:List Int) (s:Int×Int) (p:Nat):Int×Int:=if wH t (p:Int)=true then(min s.1 (nth q p),max s.2 (nth q p)) else s
def gJ (t:Int) (q:List Int) (k:Nat):Int×Int:=(List.range k).foldl (FP t q) (1000000000,0)
end U
theorem uR {l:List LnD} {b:Int} {k:Nat} (h:k<l.length):iq l b (k+1)=if eU (nth l k)=b then iq l b k+1 else iq l b k:=by
 unfold iq;rw[L.kT h,jz];rfl
theorem Nn {l:List LnD} {b:Int} {k:Nat} (h:k<l.length):u6 l b (k+1)=if eU (nth l k)=b then Ia (nth l k)+Ib (nth l k) else u6 l b k:=by
 unfold u6;rw[L.kT h,jz];rfl
theorem jbU {l:List LnD} {b:Int}:∀k,k<=l.length->iq l b k=(((l.take k).countP (fun x=>decide (eU x=b)):Nat):Int)
 |0,_=>rfl
 |k+1,hk=>by
  rw[uR (by omega),jbU k (by omega),L.kT (show k<l.length by omega),zL]
  by_cases e:eU (nth l k)=b
  rw[jd e,List.countP_cons_of_pos (by simpa using e)];simp
  rw[jc e,List.countP_cons_of_neg (by simpa using e)];simp
theorem jdV {l:List LnD} {b:Int}:∀k,k<=l.length->0<=iq l b k/\iq l b k<=(k:Int)
 |0,_=>⟨zo _,zo _⟩
 |k+1,hk=>by
  have:=jdV (l:=l) (b:=b) k (by omega)
  rw[uR (by omega)]
  split<;>omega
theorem jfm {l:List LnD} {b v:Int} (h:∀x∈l,eU x=b->Ia x+Ib x=v):∀k,k<=l.length->u6 l b k=if 0<iq l b k then v else 0
 |0,_=>rfl
 |k+1,hk=>by
  have a:=jfm h k (by omega)
  have c:=(jdV (l:=l) (b:=b) k (by omega)).1
  rw[Nn (by omega),uR (by omega)]
  by_cases e:eU (nth l k)=b
  rw[jd e,jd e,jd (by omega)]
  exact h _ (L.kJ (by omega)) e
  rw[jc e,jc e,a]
theorem No (t:Int) (q:List Int) (k:Nat):gJ t q (k+1)=FP t q (gJ t q k) k:=by
 unfold gJ;rw[jN,jz];rfl
structure jgK (t:Int) (q:List Int) (k:Nat) (s:Int×Int):Prop where
 a:0<=s.1/\s.1<=1000000000
 b:0<=s.2/\s.2<=1000000000
 w:(s.1=1000000000/\s.2=0)\/∃p p':Nat,p<k/\p'<k/\wH t (p:Int)=true/\wH t (p':Int)=true/\s.1=nth q p/\s.2=nth q p'
theorem jfn {t:Int} {q:List Int} {n:Nat} (m:∀p,p<n->0<=nth q p/\nth q p<=1000000000):∀k,k<=n->jgK t q k (gJ t q k)
 |0,_=>⟨(show 0<=(1000000000:Int)/\(1000000000:Int)<=1000000000 by omega),(show 0<=(0:Int)/\(0:Int)<=1000000000 by omega),Or.inl ⟨rfl,rfl⟩⟩
 |k+1,hk=>by
  obtain⟨h,i,b⟩:=jfn (t:=t) m k (by omega)
  have E:=m k (by omega)
  rw[No]
  unfold FP
  by_cases e:wH t (k:Int)=true
  rw[jd e]
  generalize gJ t q k=s at*
  obtain⟨x,y⟩:=s
  have h:0<=x/\x<=1000000000:=h
  have i:0<=y/\y<=1000000000:=i
  refine⟨by show 0<=min x (nth q k)/\min x (nth q k)<=_;omega,by show 0<=max y (nth q k)/\max y (nth q k)<=_;omega,Or.inr ?_⟩
  rcases b with⟨j,l⟩|⟨p,p',o,r,c,u,d,f⟩
  have j:x=1000000000:=j
  have l:y=0:=l
  exact⟨k,k,by omega,by omega,e,e,by show min x (nth q k)=_;omega,by show max y (nth q k)=_;omega⟩
  have d:x=nth q p:=d
  have f:y=nth q p':=f
  have c1:∃a:Nat,a<k+1/\wH t (a:Int)=true/\min x (nth q k)=nth q a:=by
   rcases Int.le_total x (nth q k) with g|g;exact⟨p,by omega,c,by rw[Int.min_eq_left g];exact d⟩;exact⟨k,by omega,e,Int.min_eq_right g⟩
  have c2:∃a:Nat,a<k+1/\wH t (a:Int)=true/\max y (nth q k)=nth q a:=by
   rcases Int.le_total (nth q k) y with g|g;exact⟨p',by omega,u,by rw[Int.max_eq_left g];exact f⟩;exact⟨k,by omega,e,Int.max_eq_right g⟩
  obtain⟨a,v,w,z⟩:=c1;obtain⟨D,A,B,C⟩:=c2;exact⟨a,D,v,A,w,B,z,C⟩;rw[jc e];refine⟨h,i,?_⟩;rcases b with b|⟨p,p',o,r,c⟩;exact Or.inl b;exact Or.inr ⟨p,p',by omega,by omega,c⟩
theorem jaY {a b c:Int} (f:0<=a) (d:0<b) (h:a<=c*b):U.up a b<=c:=by
 rw[XP f d];have e:(c+1)*b=c*b+b:=(by rw[Int.add_mul,Int.one_mul]);have:(a+b-1)/b<c+1:=Int.ediv_lt_of_lt_mul d (by omega);omega
theorem Qw {l:LgD} {b m:Int} (h:jgA l b) (k:0<=m/\m<=8):FN l b m<=230400000:=by
 have e:=dN.1 h.1;obtain⟨n,o,p⟩:=h.2.2.2.2.2.1;have d:=R6 h k;have a:=Yb l b (dp (n7 l b)-yq (n7 l b)).toNat;have a:0<=QG l b/\QG l b<=(((dp (n7 l b)-yq (n7 l b)).toNat:Nat):Int):=a;have f:0<=io l b m*Ky (ak l):=ku d.1 e.ni.1;have g:io l b m*Ky (ak l)<=io l b m*100:=Int.mul_le_mul_of_nonneg_left e.ni.2 d.1;have i:0<=io l b m*Ky (ak l)*QG l b:=ku f a.1;have j:io l b m*Ky (ak l)*QG l b<=io l b m*100*(dp (n7 l b)-yq (n7 l b)):=Int.mul_le_mul g (by omega) a.1 (by omega);have q:=jaY (b:=100*(dp (n7 l b)-yq (n7 l b))) (c:=io l b m) i (by omega) (by rw[<-Int.mul_assoc];exact j);unfold FN;omega
theorem jfo {l:LgD} (h:iu l) {b:Int} (g:0<=b/\b<((kH (kE l)).length:Int)):0<=BT.size (qn l b)/\BT.size (qn l b)<=8:=by
 have c:=(vC (kE l)).symm.trans h.cp;have e:=uM c (b:=b.toNat) (by omega);have f:=jfa h;have a:∀(t:Int) (n:Nat),(wX t n).length<=n:=fun t n=>by
  induction n with
  |zero=>exact jj _
  |succ n i=>
   rw[An,jK]
   split
   show _+1<=_;omega;show _+0<=_;omega
 have d:=a (nth (Kx (kE l)) b.toNat) (kI (kD (kE l))).length;refine⟨(BT.size_le _).1,?_⟩;show BT.size (nth (Kx (kE l)) b.toNat)<=8;omega
theorem jaZ {l:LgD} (h:iu l) {b:Int} (g:0<=b/\b<((kH (kE l)).length:Int)):(0<=mq l b (qn l b)/\mq l b (qn l b)<=230400000)/\0<=mr l b (qn l b)/\mr l b (qn l b)<=24000000:=by
 have a:=jfe h g;have d:=jfo h g;have f:=jaP a d;have q:=Qw a d;have j:=dN.1 a.1;have c:=jdN (l:=l) (b:=b) (m:=(NJ l b).1) a.1;have i:=a.2.2.2.2.1 _ (L.kJ (show b.toNat<(A5 l).length by have:=a.2.1;have:=a.2.2.2.1;omega));have k:0<=YY (ak l)*nth (A5 l) b.toNat/\YY (ak l)*nth (A5 l) b.toNat<=3000000:=P2 (A:=10000) (B:=300) j.mi i;have r:0<=YY (ak l)*nth (A5 l) b.toNat*BT.size (qn l b)/\YY (ak l)*nth (A5 l) b.toNat*BT.size (qn l b)<=24000000:=P2 (A:=3000000) (B:=8) k d;have n:0<=FN l b (BT.size (qn l b))*YM l b (NJ l b).1:=ku f.1 c.1;unfold mq mr;by_cases e:(NJ l b).2=true;rw[jd e,jd e];have o:=Uq f.1 c.1 c.2;have p:0<=U.up (FN l b (BT.size (qn l b))*YM l b (NJ l b).1) 100:=by
  rw[XP n (by omega)];omega
 omega;rw[jc e,jc e];omega
theorem R8 {a m:Int} (b:0<=a) (_:0<=m) (i:Nat):ym a m i<=a+1:=by
 have h:a.tdiv m<=a:=by
  rw[zQ b];exact Int.ediv_le_self m b
 unfold ym
 split<;>omega
theorem YC {l:LgD} (h:iu l) {b:Int} (a:0<=b/\b<((kH (kE l)).length:Int)) {p:Nat} (c:p<wY l):0<=nth (vu l b) p/\nth (vu l b) p<=1000000000:=by
 refine⟨(Ka h a c).1,?_⟩;rw[(aM h a).2 p c];have w:=jaZ h a;have z:=(jfo h a).1
 split
 have d:=R8 w.1.1 z (rnk (qn l b) p);have e:=R8 w.2.1 z (rnk (qn l b) p);omega;omega
theorem Np (b:Nat):∀n,(List.range n).countP (fun(c:Nat)=>decide ((c:Int)=(b:Int)))=if b<n then 1 else 0
 |0=>rfl
 |n+1=>by
  rw[jN,zL,Np b n]
  by_cases e:n=b
  subst e
  rw[jc (by omega),jd (by omega)]
  simp
  have a:List.countP (fun c:Nat=>decide ((c:Int)=(b:Int))) [n]=0:=by
   rw[List.countP_cons_of_neg (by simp;omega)];rfl
  rw[a];by_cases e2:b<n;rw[jd e2,jd (by omega)];rw[jc e2,jc (by omega)]
structure UD (l:LgD) (T:List Int) (M:List ShD):Prop where
 cm:wo (wB l M (wy l))=0
 cl:wo l=0
 lt:T.length=(kH (kE l)).length
 tm:∀b:Nat,b<T.length->qn (wB l M (wy l)) (b:Int)=nth T b
 sv:∀b:Nat,b<T.length->Cr (wB l M (wy l)) (b:Int)=true
theorem jgp {l:LgD} {T:List Int} {M:List ShD} (g:wo l=0) (d:RP (kE l) T M) (k:(kH (kE l)).length<=4) (n:(kI (kD (kE l))).length<=5):UD l T M:=by
 obtain⟨p,i,j⟩:=Un g;have a:=d.chk k n;have o:=d.teams a;have m:wo (wB l M (wy l))=0:=jdJ ((vC _).trans a) i j;have h:Kx (vp (kE l) M)=T:=(by rw[MH a];exact o);have c:∀b:Nat,qn (wB l M (wy l)) (b:Int)=nth T b:=fun b=>by
  show nth (Kx (vp (kE l) M)) ((b:Int)).toNat=_;rw[h,jm]
 refine⟨m,g,d.len,fun b _=>c b,fun b e=> ?_⟩;have f:=(MS.1 d.pl).1 b e;show b8 (kD (kE l)) (yY (nth (kH (kE l)) ((b:Int)).toNat)) (qn (wB l M (wy l)) (b:Int))=true;rw[c,jm];exact f
theorem UD.len {l:LgD} {T:List Int} {M:List ShD} (h:UD l T M):(wQ (wB l M (wy l))).length=T.length:=by
 have c:=gZ h.cm;have e:(kH (kE (wB l M (wy l)))).length=T.length:=h.lt.symm;rw[Ut c,e];have:(List.range T.length).filter (fun(b:Nat)=>Cr (wB l M (wy l)) (b:Int))=List.range T.length:=ko.2 fun b a=>h.sv b (jp.1 a)
 rw[this,zt]
theorem UD.many {l:LgD} {T:List Int} {M:List ShD} (h:UD l T M) {b:Nat} (a:b<T.length):iq (wQ (wB l M (wy l))) (b:Int) (wQ (wB l M (wy l))).length=1:=by
 have f:=gZ h.cm;have e:(kH (kE (wB l M (wy l)))).length=T.length:=h.lt.symm;have d:(List.range T.length).filter (fun(b:Nat)=>Cr (wB l M (wy l)) (b:Int))=List.range T.length:=ko.2 fun b a=>h.sv b (jp.1 a)
 rw[jbU _ (jj _),zm,(uP f).countP_eq,e,d,List.countP_map];have e2:((fun x=>decide (eU x=(b:Int)))∘fun(c:Nat)=>lT (wB l M (wy l)) (c:Int) (qn (wB l M (wy l)) (c:Int)))=fun(c:Nat)=>decide ((c:Int)=(b:Int)):=rfl
 rw[e2,Np,jd a];rfl
theorem UD.due {l:LgD} {T:List Int} {M:List ShD} (h:UD l T M) {b:Nat} (d:b<T.length):wq (vu (wB l M (wy l)) (b:Int))=u6 (wQ (wB l M (wy l))) (b:Int) (wQ (wB l M (wy l))).length:=by
 have f:=gZ h.cm;have a:0<=(b:Int)/\(b:Int)<(kH (kE (wB l M (wy l)))).length:=⟨by omega,by have e:(kH (kE (wB l M (wy l)))).length=T.length:=h.lt.symm;omega⟩;have key:∀x∈wQ (wB l M (wy l)),eU x=(b:Int)->Ia x+Ib x=mq (wB l M (wy l)) (b:Int) (qn (wB l M (wy l)) (b:Int))+mr (wB l M (wy l)) (b:Int) (qn (wB l M (wy l)) (b:Int)):=fun x g e=>by
  obtain⟨p,_,c,_,_,_,rfl⟩:=uN.1 (show x∈n8 (wB l M (wy l)) 21 from g);have e:(c:Int)=(b:Int):=e;rw[e];rfl
 rw[J4 f a,jd (h.sv b d),jfm key _ (jj _),h.many d,jd (by omega)]
theorem UD.lm {l:LgD} {T:List Int} {M:List ShD} (h:UD l T M) {b:Nat} (f:b<T.length):∀k,k<=wY l->jgK (nth T b) (vu (wB l M (wy l)) (b:Int)) k (gJ (nth T b) (vu (wB l M (wy l)) (b:Int)) k):=by
 have c:=gZ h.cm;have a:0<=(b:Int)/\(b:Int)<(kH (kE (wB l M (wy l)))).length:=⟨by omega,by have e:(kH (kE (wB l M (wy l)))).length=T.length:=h.lt.symm;omega⟩;exact fun k hk=>jfn (n:=wY l) (fun p d=>YC c a d) k hk
theorem UD.two {l:LgD} {T:List Int} {M:List ShD} (h:UD l T M) {b:Nat} (c:b<T.length):(gJ (nth T b) (vu (wB l M (wy l)) (b:Int)) (wY l)).2-(gJ (nth T b) (vu (wB l M (wy l)) (b:Int)) (wY l)).1<=2:=by
 have i:=gZ h.cm;have a:0<=(b:Int)/\(b:Int)<(kH (kE (wB l M (wy l)))).length:=⟨by omega,by have e:(kH (kE (wB l M (wy l)))).length=T.length:=h.lt.symm;omega⟩;obtain⟨n,o,j⟩:=h.lm c _ (jj _);rcases j with⟨r,s⟩|⟨p,q,c1,c2,d,f,k,m⟩;omega;rw[<-h.tm b c] at d f;rw[k,m];rcases kl p q with g|g|g;have:=R1 i a (p:=q) (q:=p) c2 g (h.sv b c) f d;omega;subst g;omega;have:=R1 i a (p:=p) (q:=q) c1 g (h.sv b c) d f;omega
theorem UD.zero {l:LgD} {T:List Int} {M:List ShD} (h:UD l T M) {b:Nat} (c:b<T.length) {p:Nat} (i:p<wY l) (f:wH (nth T b) (p:Int)=false):nth (vu (wB l M (wy l)) (b:Int)) p=0:=by
 have d:=gZ h.cm;have a:0<=(b:Int)/\(b:Int)<(kH (kE (wB l M (wy l)))).length:=⟨by omega,by have e:(kH (kE (wB l M (wy l)))).length=T.length:=h.lt.symm;omega⟩;refine Yg d a i fun g=> ?_
 rw[h.tm b c,f] at g;cases g.2
open Go.Proofs
def Qx:wD:=⟨[],[.bool],false,fun _=>[],fun _=>(true,())⟩
abbrev jkE:=((↑(kF CS).length:Int)=3)
abbrev jkF:=(↑(Ay NS).length:Int)
abbrev jjZ:=(ai CS=0)
abbrev jj0:=(wo NS=0)
abbrev jlo:=(decide jjZ&&decide jj0&&decide jkE&&decide (eE CS=110)&&decide (jkF=2))
def Qy:Prop:=∀(_:Unit),(qG CS).length<=100000/\(qG (kE NS)).length<=100000/\(((decide jjZ&&decide jj0)=true->(kF CS).length<4611686018427387904)->((decide jjZ&&decide jj0&&decide jkE&&decide (eE CS=110))=true->(Ay NS).length<4611686018427387904)->(jlo=true->(0:Int)<=0)/\(jlo=true->(0:Int)<jkF)/\(decide jjZ&&decide jj0&&decide jkE&&decide (eE CS=110)&&decide (jkF=2)&&decide (nth (Ay NS) (Int.toNat 0)=940),())=(true,()))
def GS:wD:=Xt [tLg,.int]
def GU:Ann:=fun r=>match r with
 |10=>some fun σ=>{X:=Nat,sl:=fun b=>[(9,.dat .int (b:Int)),(8,.own 8 tSh)],ob:=fun b=>[(8,some (.row 47 tSh false .yes (kL (kE (gb tLg σ 2)) (gd (.slice .int) σ 5) b)))],inv:=fun b=>b<=(gd (.slice .int) σ 5).length,mu:=fun b=>(gd (.slice .int) σ 5).length-b}
 |13=>some fun σ=>{X:=Nat,sl:=fun p=>[(10,.dat .int (p:Int)),(8,.own 8 tSh)],ob:=fun p=>[(8,some (.row 47 tSh false .yes (cV (kE (gb tLg σ 2)) (gd (.slice .int) σ 5) (gd .int σ 9).toNat p)))],inv:=fun p=>p<=(kI (kD (kE (gb tLg σ 2)))).length,mu:=fun p=>(kI (kD (kE (gb tLg σ 2)))).length-p}
 |20=>some fun σ=>{X:=Nat,sl:=fun i=>[(12,.dat .int (i:Int))],ob:=fun i=>[(11,some (.box 37 false ((bx σ 11).set 7 (.own (bK 11 7) tSh)))),(bK 11 7,some (.row 47 tSh false .yes (y6 (gr tSh σ 8) (gd .int σ 1) i)))],inv:=fun i=>i<=(gr tSh σ 8).length,mu:=fun i=>(gr tSh σ 8).length-i}
 |29=>some fun σ=>{X:=Nat,sl:=fun i=>[(20,.dat .int (i:Int)),(19,.dat .int (gd .int σ 17+qd (gd (.slice .int) σ 15) i))],ob:=fun _=>[],inv:=fun i=>i<=(gd (.slice .int) σ 15).length,mu:=fun i=>(gd (.slice .int) σ 15).length-i}
 |33=>some fun σ=>{X:=Nat,sl:=fun i=>[(21,.dat .int (i:Int)),(19,.dat .int (gd .int σ 17+wq (gd (.slice .int) σ 15)+qd (gd (.slice .int) σ 16) i))],ob:=fun _=>[],inv:=fun i=>i<=(gd (.slice .int) σ 16).length,mu:=fun i=>(gd (.slice .int) σ 16).length-i}
 |39=>some fun σ=>{X:=Nat,sl:=fun b=>[(22,.dat .int (b:Int))],ob:=fun _=>[],inv:=fun b=>b<=(gd (.slice .int) σ 5).length,mu:=fun b=>(gd (.slice .int) σ 5).length-b}
 |46=>some fun σ=>{X:=Nat,sl:=fun k=>[(30,.dat .int (k:Int)),(25,.dat .int (iq (gd (.slice tLn) σ 13) (gd .int σ 22) k)),(26,.dat .int (u6 (gd (.slice tLn) σ 13) (gd .int σ 22) k))],ob:=fun _=>[],inv:=fun k=>k<=(gd (.slice tLn) σ 13).length,mu:=fun k=>(gd (.slice tLn) σ 13).length-k}
 |52=>some fun σ=>{X:=Nat,sl:=fun p=>[(31,.dat .int (p:Int)),(27,.dat .int (qd (gd (.slice .int) σ 23) p)),(28,.dat .int (gJ (nth (gd (.slice .int) σ 5) (gd .int σ 22).toNat) (gd (.slice .int) σ 23) p).1),(29,.dat .int (gJ (nth (gd (.slice .int) σ 5) (gd .int σ 22).toNat) (gd (.slice .int) σ 23) p).2)],ob:=fun _=>[],inv:=fun p=>p<=(gd (.slice .int) σ 23).length,mu:=fun p=>(gd (.slice .int) σ 23).length-p}
 |_=>none
namespace U
def wC (l:LgD) (t:Int) (M:List ShD) (i:Nat):LgD:=((l.fst.fst,l.fst.snd.fst,l.fst.snd.snd.fst,l.fst.snd.snd.snd.fst,l.fst.snd.snd.snd.snd.fst,y6 M t i,()),l.snd)
end U
abbrev jlp (d:LgD×Int×Unit):=(d.1.1.1.1=d.1.1.1.1/\d.1.1.1.2.1=d.1.1.1.2.1/\d.1.1.1.2.2.1=d.1.1.1.2.2.1/\d.1.1.2.1=d.1.1.2.1/\d.1.1.2.2.1=d.1.1.2.2.1/\d.1.1.2.2.2.1=d.1.1.2.2.2.1/\d.1.1.q4.1=d.1.1.q4.1/\True/\d.1.2.1=d.1.2.1/\d.1.2.2.1=d.1.2.2.1/\d.1.2.2.2.1.1=d.1.2.2.2.1.1/\d.1.2.2.2.1.2.1=d.1.2.2.2.1.2.1/\d.1.2.2.2.1.2.2.1=d.1.2.2.2.1.2.2.1/\d.1.2.2.2.1.2.2.2.1=d.1.2.2.2.1.2.2.2.1/\d.1.2.2.2.1.q4.1=d.1.2.2.2.1.q4.1/\d.1.2.2.2.1.q4.2.1=d.1.2.2.2.1.q4.2.1/\d.1.2.2.2.1.q4.2.2.1=d.1.2.2.2.1.q4.2.2.1/\d.1.2.2.2.1.q4.2.2.2.1=d.1.2.2.2.1.q4.2.2.2.1/\d.1.2.2.2.1.q4.q4.1=d.1.2.2.2.1.q4.q4.1/\d.1.2.2.2.1.q4.q4.2.1=d.1.2.2.2.1.q4.q4.2.1/\d.1.q4.1=d.1.q4.1/\True)
abbrev jjC:=(Ty.int.pair (Ty.int.pair Ty.unit))
abbrev jis (d:LgD×Int×Unit):=(kI (kD (kE d.1)))
abbrev jlq (d:LgD×Int×Unit):=(FO d.1||decide (wo d.1≠0)||NE d.1.1||decide (d.2.1<0)||decide (1000<d.2.1))
abbrev jhf (d:LgD×Int×Unit):=(kF d.1.1)
abbrev jhB (d:LgD×Int×Unit)(x:Nat):=(kL (kE d.1) (jhf d) x)
abbrev jhh (d:LgD×Int×Unit)(x:Nat)(a:Nat):=(wC d.1 d.2.1 (jhB d x) a)
abbrev jhd (d:LgD×Int×Unit)(x:Nat)(b:Nat)(a:Nat):=(qk (jhh d x b) (a:Int))
abbrev jhe (d:LgD×Int×Unit)(x:Nat)(a:Nat):=(qS (jhh d x a))
abbrev jh6 (d:LgD×Int×Unit):=(↑(jhf d).length:Int)
abbrev jhi (d:LgD×Int×Unit)(x:Nat)(a:Nat):=(qA (jhh d x a))
abbrev jiH (d:LgD×Int×Unit)(a:Nat):=(nth (jhf d) a)
abbrev jh7 (d:LgD×Int×Unit)(a:Nat)(x:Nat)(c:Nat)(b:Nat):=(gJ (jiH d a) (jhd d x c a) b)
abbrev jlr (d:LgD×Int×Unit)(x:Nat)(c:Nat)(a:Nat)(e:Nat)(b:Nat):=(decide (iq (jhe d x c) (a:Int) e≠1)||decide (qd (jhd d x c a) b≠u6 (jhe d x c) (a:Int) e)||decide (2<(jh7 d a x c b).2-(jh7 d a x c b).1))
abbrev jit (d:LgD×Int×Unit)(x:Nat):=(↑(jhB d x).length:Int)
abbrev jhw (d:LgD×Int×Unit)(x:Nat)(a:Nat):=(vY (jhh d x a))
abbrev jj1 (d:LgD×Int×Unit)(x:Nat)(a:Nat):=(cV (kE d.1) (jhf d) x a)
abbrev jiI (d:LgD×Int×Unit)(x:Nat)(a:Nat):=(↑(jhe d x a).length:Int)
abbrev jiu (d:LgD×Int×Unit)(x:Nat)(a:Nat):=(wo (jhh d x a)≠0)
abbrev jls (d:LgD×Int×Unit)(x:Nat)(a:Nat):=(decide (jiu d x a)||decide (jiu d x a)||decide ((jiI d x a)≠(jh6 d))||decide ((↑(jhi d x a).length:Int)≠d.1.1.1.2.1.length))
abbrev jlt (d:LgD×Int×Unit)(x:Nat)(a:Nat):=(!(decide (jiu d x a)||decide (jiu d x a)||decide ((jiI d x a)≠(jh6 d))))
abbrev jlu:=(Ty.int.pair (Ty.int.pair (Ty.int.pair jjC)))
abbrev jiJ (d:LgD×Int×Unit)(x:Nat)(b:Nat)(a:Nat):=(↑(jhd d x b a).length:Int)
abbrev jlv (d:LgD×Int×Unit)(x:Nat)(a:Nat)(b:Nat):=(decide (qI (jhh d x a) (n4 (jhh d x a) (b:Int))≠0)||decide ((jiJ d x a b)≠(↑(jhi d x a).length:Int)))
def GV:Prop:=∀(d:LgD×Int×Unit),Jw 1048576 [((Ty.int.pair ((Ty.int.slice.pair (Ty.int.pair (Ty.int.pair (Ty.int.slice.pair (Ty.bool.pair (Ty.int.pair Ty.unit)))))).slice.pair ((Ty.int.pair (Ty.int.pair (Ty.bool.pair Ty.unit))).slice.pair Ty.unit))).pair (jjC.slice.slice.pair (((Ty.int.pair jlu).pair (Ty.int.pair jjC)).slice.pair (Ty.int.pair (Ty.int.pair (jlu.slice.pair Ty.unit)))))).pair (Ty.int.slice.pair (Ty.int.slice.pair ((Ty.int.pair (Ty.int.pair (Ty.int.pair (Ty.int.pair (Ty.int.pair (Ty.int.pair (Ty.int.pair (Ty.int.pair (Ty.int.slice.pair (jjC.slice.pair Ty.unit)))))))))).pair ((Ty.int.pair jjC).slice.pair Ty.unit)))),Ty.int] d->((!FO d.1)=true->(kH (kE d.1)).length<=1000000)/\((!(FO d.1||decide (wo d.1≠0)))=true->(kH d.1.1).length<=1000000)/\((jlq d)=true->(true,())=(true,()))/\((jlq d)=false->(qG d.1.1).length<=100000/\(decide (ai d.1.1≠0)=true->(decide (ai d.1.1=3)&&true,())=(true,()))/\(decide (ai d.1.1≠0)=false->(jhf d).length<4611686018427387904->d.1.1.2.2.1.length<4611686018427387904->(decide ((jh6 d)≠(d.1.1.2.2.1.length:Int))=true->(false,())=(true,()))/\(decide ((jh6 d)≠(d.1.1.2.2.1.length:Int))=false->(∃(x:Nat),((0=(x:Int)/\True/\True)/\kL (kE d.1) (jhf d) x=[]/\True)/\x<=(jhf d).length)/\∀(x:Nat),x<=(jhf d).length->(jhf d).length<4611686018427387904->(decide ((x:Int)<(jh6 d))=true->(∃(a:Nat),((0=(a:Int)/\True/\True)/\kL (kE d.1) (jhf d) x=cV (kE d.1) (jhf d) x a/\True)/\a<=(jis d).length)/\∀(a:Nat),a<=(jis d).length->d.1.1.1.2.1.length<4611686018427387904->(decide ((a:Int)<d.1.1.1.2.1.length)=true->0<=(x:Int)/\(x:Int)<(jh6 d)/\(0<=(a:Int)/\(a:Int)<=63)/\(wH (nth (jhf d) x) (a:Int)=true->(jj1 d x a).length<4611686018427387904->((jj1 d x a).length+[((↑(jj1 d x a).length:Int),(0:Int),(1:Int),(x:Int),(a:Int),())].length)*40<=140737488355328/\kU ((a:Int)+1)/\∃(f:Nat),(((a:Int)+1=(f:Int)/\True/\True)/\cV (kE d.1) (jhf d) x a++[((↑(jj1 d x a).length:Int),(0:Int),(1:Int),(x:Int),(a:Int),())]=cV (kE d.1) (jhf d) x f/\True)/\f<=(jis d).length/\(jis d).length-f<(jis d).length-a)/\(wH (nth (jhf d) x) (a:Int)=false->kU ((a:Int)+1)/\∃(f:Nat),((True/\(a:Int)+1=(f:Int)/\True)/\cV (kE d.1) (jhf d) x a=cV (kE d.1) (jhf d) x f/\True)/\f<=(jis d).length/\(jis d).length-f<(jis d).length-a))/\(decide ((a:Int)<d.1.1.1.2.1.length)=false->kU ((x:Int)+1)/\∃(f:Nat),(((x:Int)+1=(f:Int)/\True/\True)/\cV (kE d.1) (jhf d) x a=kL (kE d.1) (jhf d) f/\True)/\f<=(jhf d).length/\(jhf d).length-f<(jhf d).length-x))/\(decide ((x:Int)<(jh6 d))=false->Ku d.1/\(∃(a:Nat),((0=(a:Int)/\True)/\(jlp d)/\y6 (jhB d x) d.2.1 a=[]/\True)/\a<=(jhB d x).length)/\∀(a:Nat),a<=(jhB d x).length->(jhB d x).length<4611686018427387904->(decide ((a:Int)<(jit d x))=true->kU ((a:Int)+d.2.1)/\(jit d x)≠0/\(0:Int)<=((a:Int)+d.2.1).tmod (jit d x)/\((a:Int)+d.2.1).tmod (jit d x)<(jit d x)/\((y6 (jhB d x) d.2.1 a).length+[nth (jhB d x) (((a:Int)+d.2.1).tmod (jit d x)).toNat].length)*40<=140737488355328/\kU ((a:Int)+1)/\∃(f:Nat),(((a:Int)+1=(f:Int)/\True)/\(jlp d)/\y6 (jhB d x) d.2.1 a++[nth (jhB d x) (((a:Int)+d.2.1).tmod (jit d x)).toNat]=y6 (jhB d x) d.2.1 f/\True)/\f<=(jhB d x).length/\(jhB d x).length-f<(jhB d x).length-a)/\(decide ((a:Int)<(jit d x))=false->(qG (kE (jhh d x a))).length<=100000/\(qG (kE (jhh d x a))).length<=100000/\(((!(decide (jiu d x a)||decide (jiu d x a)))=true->(jhe d x a).length<4611686018427387904)->((!(decide (jiu d x a)||decide (jiu d x a)))=true->(jhf d).length<4611686018427387904)->((jlt d x a)=true->(jhi d x a).length<4611686018427387904)->((jlt d x a)=true->d.1.1.1.2.1.length<4611686018427387904)->((jls d x a)=true->(false,())=(true,()))/\((jls d x a)=false->(∃(h:Nat),((0=(h:Int)/\bH (jhh d x a)=bH (jhh d x a)+qd (jhi d x a) h/\True)/\True)/\h<=(jhi d x a).length)/\∀(h:Nat),h<=(jhi d x a).length->(jhi d x a).length<4611686018427387904->(decide ((h:Int)<(jhi d x a).length)=true->0<=(h:Int)/\(h:Int)<(jhi d x a).length/\kU (bH (jhh d x a)+qd (jhi d x a) h+nth (jhi d x a) h)/\kU ((h:Int)+1)/\∃(f:Nat),(((h:Int)+1=(f:Int)/\bH (jhh d x a)+qd (jhi d x a) h+nth (jhi d x a) h=bH (jhh d x a)+qd (jhi d x a) f/\True)/\True)/\f<=(jhi d x a).length/\(jhi d x a).length-f<(jhi d x a).length-h)/\(decide ((h:Int)<(jhi d x a).length)=false->(∃(g:Nat),((0=(g:Int)/\bH (jhh d x a)+qd (jhi d x a) h=bH (jhh d x a)+wq (jhi d x a)+qd (jhw d x a) g/\True)/\True)/\g<=(jhw d x a).length)/\∀(g:Nat),g<=(jhw d x a).length->(jhw d x a).length<4611686018427387904->(decide ((g:Int)<(jhw d x a).length)=true->0<=(g:Int)/\(g:Int)<(jhw d x a).length/\kU (bH (jhh d x a)+wq (jhi d x a)+qd (jhw d x a) g+nth (jhw d x a) g)/\kU ((g:Int)+1)/\∃(f:Nat),(((g:Int)+1=(f:Int)/\bH (jhh d x a)+wq (jhi d x a)+qd (jhw d x a) g+nth (jhw d x a) g=bH (jhh d x a)+wq (jhi d x a)+qd (jhw d x a) f/\True)/\True)/\f<=(jhw d x a).length/\(jhw d x a).length-f<(jhw d x a).length-g)/\(decide ((g:Int)<(jhw d x a).length)=false->(decide (bH (jhh d x a)+wq (jhi d x a)+qd (jhw d x a) g≠0)=true->(false,())=(true,()))/\(decide (bH (jhh d x a)+wq (jhi d x a)+qd (jhw d x a) g≠0)=false->(∃(x:Nat),((0=(x:Int)/\True)/\True)/\x<=(jhf d).length)/\∀(b:Nat),b<=(jhf d).length->(jhf d).length<4611686018427387904->(decide ((b:Int)<(jh6 d))=true->(qG (kE (jhh d x a))).length<=100000/\(((!decide (qI (jhh d x a) (n4 (jhh d x a) (b:Int))≠0))=true->(jhd d x a b).length<4611686018427387904)->((!decide (qI (jhh d x a) (n4 (jhh d x a) (b:Int))≠0))=true->(jhi d x a).length<4611686018427387904)->((jlv d x a b)=true->(false,())=(true,()))/\((jlv d x a b)=false->(∃(e:Nat),((0=(e:Int)/\0=iq (jhe d x a) (b:Int) e/\0=u6 (jhe d x a) (b:Int) e/\True)/\True)/\e<=(jhe d x a).length)/\∀(e:Nat),e<=(jhe d x a).length->(jhe d x a).length<4611686018427387904->(decide ((e:Int)<(jiI d x a))=true->0<=(e:Int)/\(e:Int)<(jiI d x a)/\(decide ((nth (jhe d x a) e).2.1=(b:Int))=true->kU (iq (jhe d x a) (b:Int) e+1)/\0<=(e:Int)/\(e:Int)<(jiI d x a)/\0<=(e:Int)/\(e:Int)<(jiI d x a)/\kU ((nth (jhe d x a) e).2.2.1+(nth (jhe d x a) e).2.2.2.1)/\kU ((e:Int)+1)/\∃(f:Nat),(((e:Int)+1=(f:Int)/\(nth (jhe d x a) e).2.2.1+(nth (jhe d x a) e).2.2.2.1=u6 (jhe d x a) (b:Int) f/\iq (jhe d x a) (b:Int) e+1=iq (jhe d x a) (b:Int) f/\True)/\True)/\f<=(jhe d x a).length/\(jhe d x a).length-f<(jhe d x a).length-e)/\(decide ((nth (jhe d x a) e).2.1=(b:Int))=false->kU ((e:Int)+1)/\∃(f:Nat),((u6 (jhe d x a) (b:Int) e=u6 (jhe d x a) (b:Int) f/\iq (jhe d x a) (b:Int) e=iq (jhe d x a) (b:Int) f/\(e:Int)+1=(f:Int)/\True)/\True)/\f<=(jhe d x a).length/\(jhe d x a).length-f<(jhe d x a).length-e))/\(decide ((e:Int)<(jiI d x a))=false->(∃(c:Nat),((0=(c:Int)/\0=qd (jhd d x a b) c/\1000000000=(jh7 d b x a c).1/\0=(jh7 d b x a c).2/\True)/\True)/\c<=(jhd d x a b).length)/\∀(c:Nat),c<=(jhd d x a b).length->(jhd d x a b).length<4611686018427387904->(decide ((c:Int)<(jiJ d x a b))=true->0<=(c:Int)/\(c:Int)<(jiJ d x a b)/\kU (qd (jhd d x a b) c+nth (jhd d x a b) c)/\0<=(b:Int)/\(b:Int)<(jh6 d)/\(0<=(c:Int)/\(c:Int)<=63)/\(wH (jiH d b) (c:Int)=true->0<=(c:Int)/\(c:Int)<(jiJ d x a b)/\0<=(c:Int)/\(c:Int)<(jiJ d x a b)/\kU ((c:Int)+1)/\∃(f:Nat),(((c:Int)+1=(f:Int)/\max (jh7 d b x a c).2 (nth (jhd d x a b) c)=(gJ (jiH d b) (jhd d x a b) f).2/\min (jh7 d b x a c).1 (nth (jhd d x a b) c)=(gJ (jiH d b) (jhd d x a b) f).1/\qd (jhd d x a b) c+nth (jhd d x a b) c=qd (jhd d x a b) f/\True)/\True)/\f<=(jhd d x a b).length/\(jhd d x a b).length-f<(jhd d x a b).length-c)/\(wH (jiH d b) (c:Int)=false->0<=(c:Int)/\(c:Int)<(jiJ d x a b)/\(decide (nth (jhd d x a b) c≠0)=true->(false,())=(true,()))/\(decide (nth (jhd d x a b) c≠0)=false->kU ((c:Int)+1)/\∃(f:Nat),(((jh7 d b x a c).2=(gJ (jiH d b) (jhd d x a b) f).2/\(jh7 d b x a c).1=(gJ (jiH d b) (jhd d x a b) f).1/\(c:Int)+1=(f:Int)/\qd (jhd d x a b) c+nth (jhd d x a b) c=qd (jhd d x a b) f/\True)/\True)/\f<=(jhd d x a b).length/\(jhd d x a b).length-f<(jhd d x a b).length-c)))/\(decide ((c:Int)<(jiJ d x a b))=false->((!(decide (iq (jhe d x a) (b:Int) e≠1)||decide (qd (jhd d x a b) c≠u6 (jhe d x a) (b:Int) e)))=true->kU ((jh7 d b x a c).2-(jh7 d b x a c).1))/\((jlr d x a b e c)=true->(false,())=(true,()))/\((jlr d x a b e c)=false->kU ((b:Int)+1)/\∃(f:Nat),(((b:Int)+1=(f:Int)/\True)/\y6 (jhB d x) d.2.1 a=y6 (jhB d x) d.2.1 a/\True)/\f<=(jhf d).length/\(jhf d).length-f<(jhf d).length-b))))))/\(decide ((b:Int)<(jh6 d))=false->(true,())=(true,()))))))))))))
theorem Qz:(jel CS).2=([8,8,3],110,true):=by decide+kernel
theorem jdW:gx CS=0:=by decide+kernel
theorem UE:Qy:=by
 unfold Qy jlo jj0 jjZ jkF jkE;intro _;have f:(qG CS).length<=100000:=(by decide+kernel);have b:(qG (kE NS)).length<=100000:=(by decide+kernel);have c:wj CS=0:=(vC _).trans jdW;have a:ai CS=0:=(by unfold ai;rw[jd c,Qz,jd rfl]);have d:kF CS=[8,8,3]:=(by unfold kF;rw[jd a,Qz]);have e:eE CS=110:=(by unfold eE;rw[jd a,Qz]);refine⟨f,b,?_⟩;rw[a,d,e,jdT,jdU];exact fun _ _=>⟨fun _=>zo 0,fun _=>(by decide),rfl⟩
theorem QA:wN PR 7 Qx:=wt UE Tryz.func7 (kcC ur (kcC Mq (kcC Ki (kcC Qv kcN)))) koN
theorem jbV {a b:Int} (h:decide (a≠b)=false):a=b:=by simpa using h
theorem ja0 {n:Nat} {x:Nat} {t:Int} (a:0<=t/\t<=1000) (b:(x:Int)<(n:Int)):kU ((x:Int)+t)->(n:Int)≠0/\0<=((x:Int)+t).tmod (n:Int)/\((x:Int)+t).tmod (n:Int)<(n:Int):=fun _=>
 ⟨by omega,Int.tmod_nonneg _ (by omega),Int.tmod_lt_of_pos _ (by omega)⟩
theorem Kj:GV:=by
 unfold GV jlv jiJ jlu jlt jls jiu jiI jj1 jhw jit jlr jh7 jiH jhi jh6 jhe jhd jhh jhB jhf jlq jis jjC jlp Prod.q4;rintro⟨l,t,⟨⟩⟩ _;refine⟨fun g=> ?_,fun g=> ?_,fun _=>rfl,fun g=> ?_⟩;have g:(!FO l)=true:=g;rw[jV] at g;exact(FB g).2;have g:(!(FO l||decide (wo l≠0)))=true:=g;rw[jV,jS] at g;exact(FB g.1).2;have g:(FO l||decide (wo l≠0)||NE (kE l)||decide (t<0)||decide (1000<t))=false:=g;simp only[jS] at g;obtain⟨⟨⟨⟨hf,S⟩,r⟩,L⟩,N⟩:=g;have S:wo l=0:=jbV S;have L:=je L;have N:=je N;obtain⟨l1,l2⟩:=FB hf;have hl:=gZ S;have I:gx (kE l)=0:=(vC _).symm.trans hl.cp;have hD:=(Ac.1 I).1;unfold NE at r;rw[jH I,km,jS] at r;have hp4:=je r.1;have d:=je r.2;have hE:ai (kE l)=0\/ai (kE l)=3:=by
  rw[JJ];unfold jd3;rw[jd I]
  split
  exact .inr rfl;exact .inl rfl
 refine⟨l1,fun k=> ?_,fun X nB nb=> ?_⟩;rcases hE with e|e;exact absurd e (ja k);show(decide (ai (kE l)=3)&&true,())=(true,());rw[e];rfl;have X:ai (kE l)=0:=jbV X;have J:=XM I X;have C:yE (kE l) (kF l.fst)=true/\(kF l.fst).length=(kH (kE l)).length/\∀x∈kF l.fst,0<=x/\x<2^(kI (kD (kE l))).length:=Fa 5 [] (fun x hx=>by cases hx) _ J.1;clear J;have nB:(kF l.fst).length<4611686018427387904:=nB;generalize kF l.fst=T at*;have A:T.length=(kH (kE l)).length:=C.2.1;have lIn:∀b p:Nat,b<=3->p<=(kI (kD (kE l))).length->(cV (kE l) T b p).length<=16:=fun b p f y=>by
  unfold cV;rw[P1,jK];have h1:=CN T (kI (kD (kE l))).length b;have h2:=jaz T b p;have h3:b*(kI (kD (kE l))).length<=3*4:=Nat.mul_le_mul f (by omega);omega
 have lTo:∀b:Nat,b<=3->(kL (kE l) T b).length<=12:=fun b f=>by
  unfold kL;rw[P1];have h1:=CN T (kI (kD (kE l))).length b;have h3:b*(kI (kD (kE l))).length<=3*4:=Nat.mul_le_mul f (by omega);omega
 refine⟨fun k=> ?_,fun _=>⟨⟨0,⟨⟨rfl,tZ,tZ⟩,rfl,tZ⟩,jt _⟩,fun b f _=>⟨fun g=>⟨⟨0,⟨⟨rfl,tZ,tZ⟩,?_,tZ⟩,jt _⟩,fun p y _=>⟨fun j=> ?_,fun j=> ?_⟩⟩,fun g=> ?_⟩⟩⟩;exfalso;have k:(T.length:Int)≠(kH (kE l)).length:=ja k;omega;show kL (kE l) T b=cV (kE l) T (b:Int).toNat 0
 try rw[jm]
 unfold kL cV;rw[show Aw T b 0=[] from rfl,jY];have g:(b:Int)<T.length:=ja g;have j:(p:Int)<(kI (kD (kE l))).length:=ja j;have b0:(0:Int)<=(b:Int):=jQ b;have D:(0:Int)<=(p:Int):=jQ p;have hl:=lIn b p (by omega) (by omega);have es:cV (kE l) T b (p+1)=jbc ((ik T (kI (kD (kE l))).length b++Aw T b p)++(if wH (nth T b) (p:Int)=true then[(b,p)] else[])):=by
  unfold cV;rw[XN,jJ]
 try simp only
 refine⟨b0,g,⟨D,by omega⟩,fun k _=>⟨?_,iZ6,p+1,⟨⟨by simp,tZ,tZ⟩,?_,tZ⟩,by show p+1<=(kI (kD (kE l))).length;omega,by show(kI (kD (kE l))).length-(p+1)<(kI (kD (kE l))).length-p;omega⟩,fun k=>⟨iZ6,p+1,⟨⟨tZ,by simp,tZ⟩,?_,tZ⟩,by show p+1<=(kI (kD (kE l))).length;omega,by show(kI (kD (kE l))).length-(p+1)<(kI (kD (kE l))).length-p;omega⟩⟩;show((cV (kE l) T b p).length+1)*40<=_;omega;have k:wH (nth T b) (p:Int)=true:=k;show _=cV (kE l) T b (p+1);rw[es,jd k,jaA];show cV (kE l) T b p++[_]=cV (kE l) T b p++[jfV _ (b,p)];rw[<-P1];rfl;have k:wH (nth T b) (p:Int)=false:=k;show _=cV (kE l) T b (p+1);rw[es,k,jc (by simp),jY];rfl;have g:(b:Int)<T.length:=ja g;have j:¬(p:Int)<(kI (kD (kE l))).length:=je j;have y:p<=(kI (kD (kE l))).length:=y;have ep:p=(kI (kD (kE l))).length:=(by omega);refine⟨iZ6,b+1,⟨⟨by simp,tZ,tZ⟩,?_,tZ⟩,by show b+1<=T.length;omega,by show T.length-(b+1)<T.length-b;omega⟩;show cV (kE l) T (b:Int).toNat p=kL (kE l) T (b+1)
 first|rw[jm,ep]|rw[ep]
 unfold cV kL;rw[XO];have f:b<=T.length:=f;have g:¬(b:Int)<T.length:=je g;have eb:b=T.length:=(by omega);have lL:=lTo b (by omega);have eL:kL (kE l) T b=jbc (ik T (kI (kD (kE l))).length (kH (kE l)).length):=(by unfold kL;rw[eb,A]);generalize kL (kE l) T b=M at*;refine⟨H7 hf,⟨0,⟨⟨rfl,tZ⟩,⟨rfl,rfl,rfl,rfl,rfl,rfl,rfl,tZ,rfl,rfl,rfl,rfl,rfl,rfl,rfl,rfl,rfl,rfl,rfl,rfl,rfl,tZ⟩,rfl,tZ⟩,jt _⟩,fun i hi _=>⟨fun j=> ?_,fun j=> ?_⟩⟩;have j:(i:Int)<M.length:=ja j;have i1:kU ((i:Int)+t):=iZ6;obtain⟨k1,k2,k3⟩:=ja0 ⟨by omega,by omega⟩ j i1;refine⟨i1,k1,k2,k3,?_,iZ6,i+1,⟨⟨by simp,tZ⟩,⟨rfl,rfl,rfl,rfl,rfl,rfl,rfl,tZ,rfl,rfl,rfl,rfl,rfl,rfl,rfl,rfl,rfl,rfl,rfl,rfl,rfl,tZ⟩,(Uu M t i).symm,tZ⟩,by show i+1<=M.length;omega,by show M.length-(i+1)<M.length-i;omega⟩;show((y6 M t i).length+1)*40<=140737488355328;rw[FA];omega;have hi:i<=M.length:=hi;have j:¬(i:Int)<M.length:=je j;have ei:i=M.length:=(by omega);subst ei;have K:RP (kE l) T (y6 M t M.length):=⟨I,A,C.1,C.2.2,fun s=>(Yo (by omega) s).trans (by rw[eL]),by rw[FA];omega⟩;have P:=jgp S K (by omega) (by omega);have B:=jfl P.cm;have eB:wC l t M M.length=wB l (y6 M t M.length) (wy l):=rfl;have l3:(qG (kE (wB l (y6 M t M.length) (wy l)))).length<=100000:=(by show(y6 M t M.length).length<=100000;rw[FA];omega);have ep:wY (wB l (y6 M t M.length) (wy l))=wY l:=rfl;have e4:wY l<=4:=(by show(kI (kD (kE l))).length<=4;omega);have elt:(kH (kE (wB l (y6 M t M.length) (wy l)))).length=T.length:=A.symm;have Z:=P.cm;have len:=P.len;have many:∀b:Nat,b<T.length->_:=fun b f=>P.many f
 have due:∀b:Nat,b<T.length->_:=fun b f=>P.due f
 have lm:∀b:Nat,b<T.length->_:=fun b f=>P.lm f
 have two:∀b:Nat,b<T.length->_:=fun b f=>P.two f
 have zero:∀b:Nat,b<T.length->∀p:Nat,p<wY l->wH (nth T b) (p:Int)=false->nth (vu (wB l (y6 M t M.length) (wy l)) (b:Int)) p=0:=fun b f p y hn=>P.zero f y hn
 clear P K
 dsimp only
 rw[eB];clear eB;generalize wB l (y6 M t M.length) (wy l)=Q at*;have lin:qS Q=wQ Q:=(jdR Q).trans (jd Z);have opn:∀b:Nat,b<T.length->qI Q (n4 Q (b:Int))=0:=fun b f=>by
  have H:n4 Q (b:Int)=true:=R2.2 ⟨by omega,by omega⟩;unfold qI;rw[jc (fun h2=>h2 Z),jd H]
 have pay:∀b:Nat,b<T.length->qk Q (b:Int)=vu Q (b:Int):=fun b f=>(jdS Q (b:Int)).trans (jd (opn b f))
 have la:(qA Q).length=wY l:=B.la.trans ep;have R:∀b:Nat,b<T.length->(vu Q (b:Int)).length=wY l:=fun b f=>(B.pl b (by omega)).1.trans ep
 rw[lin];have c1:=B.sC;have a1: -100000000000000000<=wq (qA Q)/\wq (qA Q)<=100000000000000000:=B.sA (qA Q).length;refine⟨l3,l3,fun _ _ _ _=>⟨fun k=> ?_,fun _=>⟨⟨0,⟨⟨rfl,(Int.add_zero _).symm,tZ⟩,tZ⟩,jt _⟩,fun a ha hA=>⟨fun E=> ?_,fun E=>⟨⟨0,⟨⟨rfl,?_,tZ⟩,tZ⟩,jt _⟩,fun c hcc hC=>⟨fun F=> ?_,fun F=>⟨fun k=> ?_,fun _=>⟨⟨0,⟨⟨rfl,tZ⟩,tZ⟩,jt _⟩,fun b H _=>⟨fun Y=> ?_,fun _=>rfl⟩⟩⟩⟩⟩⟩⟩⟩⟩;exfalso;have k:(decide (wo Q≠0)||decide (wo Q≠0)||decide (((wQ Q).length:Int)≠T.length)||decide (((qA Q).length:Int)≠(wY l:Int)))=true:=k;rw[Z,len,la] at k;simp at k;have E:(a:Int)<(qA Q).length:=ja E;have hA:(qA Q).length<4611686018427387904:=hA;have s1:=B.sA (a+1);have v:=oI (l:=qA Q) (k:=a) (by omega)
 try rw[jm]
 exact⟨jQ _,E,iZ6,iZ6,a+1,⟨⟨by simp,by omega,tZ⟩,tZ⟩,by omega,by omega⟩;have E:¬(a:Int)<(qA Q).length:=je E;have ea:a=(qA Q).length:=(by omega);subst ea;exact(Int.add_zero _).symm;have F:(c:Int)<(vY Q).length:=ja F;have hC:(vY Q).length<4611686018427387904:=hC;have s1:=B.sB (c+1);have v:=oI (l:=vY Q) (k:=c) (by omega)
 try rw[jm]
 exact⟨jQ _,F,iZ6,iZ6,c+1,⟨⟨by simp,by omega,tZ⟩,tZ⟩,by omega,by omega⟩;exfalso;have F:¬(c:Int)<(vY Q).length:=je F;have ec:c=(vY Q).length:=(by omega);subst ec;have k:bH Q+wq (qA Q)+wq (vY Q)≠0:=ja k;have:=B.bal;omega;have Y:(b:Int)<T.length:=ja Y;have d:b<T.length:=(by omega);have pb:=R b d;have ps:=B.ps b (by omega);have lmb:=lm b d;have twb:=two b d;have W:=due b d;have mab:=many b d;have zeb:=zero b d;rw[pay b d,opn b d]
 try simp only[jm]
 refine⟨l3,fun _ _=>⟨fun k=> ?_,fun _=>⟨⟨0,⟨⟨rfl,rfl,rfl,tZ⟩,tZ⟩,jt _⟩,fun k hk hK=>⟨fun w=> ?_,fun w=>⟨⟨0,⟨⟨rfl,rfl,rfl,rfl,tZ⟩,tZ⟩,jt _⟩,fun p y _=>⟨fun q=> ?_,fun q=> ?_⟩⟩⟩⟩⟩⟩;exfalso;rw[pb,la] at k;simp at k;have w:(k:Int)<(wQ Q).length:=ja w;have n:k<(wQ Q).length:=(by omega);have hK:(wQ Q).length<4611686018427387904:=hK;have ln:=B.ln k n;have mi:=jdV (l:=wQ Q) (b:=(b:Int)) k (by omega);have v:=uR (l:=wQ Q) (b:=(b:Int)) n;have V:=Nn (l:=wQ Q) (b:=(b:Int)) n;have k0:(0:Int)<=(k:Int):=jQ k;have O:(wQ Q).length-(k+1)<(wQ Q).length-k:=(by omega);have i3:kU ((k:Int)+1):=iZ6;refine⟨k0,w,fun m=> ?_,fun m=> ?_⟩;have m:eU (nth (wQ Q) k)=(b:Int):=ja m;rw[jd m] at v V;have i2:kU (Ia (nth (wQ Q) k)+Ib (nth (wQ Q) k)):=iZ6;exact⟨iZ6,k0,w,k0,w,i2,i3,k+1,⟨⟨by simp,V.symm,v.symm,tZ⟩,tZ⟩,n,O⟩;have m:¬eU (nth (wQ Q) k)=(b:Int):=je m;rw[jc m] at v V;exact⟨i3,k+1,⟨⟨V.symm,v.symm,by simp,tZ⟩,tZ⟩,n,O⟩;have q:(p:Int)<(vu Q (b:Int)).length:=ja q;have o:p<(vu Q (b:Int)).length:=(by omega);have D:(0:Int)<=(p:Int):=jQ p;have s1:=ps (p+1);have v:=oI (l:=vu Q (b:Int)) (k:=p) o;have u:=No (nth T b) (vu Q (b:Int)) p;have O:(vu Q (b:Int)).length-(p+1)<(vu Q (b:Int)).length-p:=(by omega);refine⟨D,q,iZ6,jQ _,Y,⟨D,by omega⟩,fun h=>⟨D,q,D,q,iZ6,p+1,⟨⟨by simp,?_,?_,v.symm,tZ⟩,tZ⟩,o,O⟩,fun h=>⟨D,q,fun z=> ?_,fun _=>⟨iZ6,p+1,⟨⟨?_,?_,by simp,v.symm,tZ⟩,tZ⟩,o,O⟩⟩⟩;rw[u];unfold FP;rw[jd h];rw[u];unfold FP;rw[jd h];exfalso;exact ja z (zeb p (by omega) h);rw[u];unfold FP;rw[h];rfl;rw[u];unfold FP;rw[h];rfl;have w:¬(k:Int)<(wQ Q).length:=je w;have q:¬(p:Int)<(vu Q (b:Int)).length:=je q;have hk:k<=(wQ Q).length:=hk;have y:p<=(vu Q (b:Int)).length:=y;have ek:k=(wQ Q).length:=(by omega);have G:p=(vu Q (b:Int)).length:=(by omega);obtain⟨q1,q2,_⟩:=lmb p (by omega);have tw:(gJ (nth T b) (vu Q (b:Int)) p).2-(gJ (nth T b) (vu Q (b:Int)) p).1<=2:=(by rw[G,pb];exact twb);have du:qd (vu Q (b:Int)) p=u6 (wQ Q) (b:Int) k:=(by rw[ek,G];exact W);have ma:iq (wQ Q) (b:Int) k=1:=(by rw[ek];exact mab);refine⟨fun _=>iZ6,fun z=> ?_,fun _=>⟨iZ6,b+1,⟨⟨by simp,tZ⟩,tZ,tZ⟩,d,by omega⟩⟩;exfalso;have z:(decide (iq (wQ Q) (b:Int) k≠1)||decide (qd (vu Q (b:Int)) p≠u6 (wQ Q) (b:Int) k)||decide (2<(gJ (nth T b) (vu Q (b:Int)) p).2-(gJ (nth T b) (vu Q (b:Int)) p).1))=true:=z;rw[ma,du,zz (show¬2<(gJ (nth T b) (vu Q (b:Int)) p).2-(gJ (nth T b) (vu Q (b:Int)) p).1 by omega)] at z;simp at z
theorem YT:wN PR 3 GS:=vZ GU Kj Tryz.func3 (kcC YA (kcC Qr (kcC JE (kcC QA (kcC Mq (kcC W8 (kcC Uv (kcC UB (kcC Kf (kcC jaW kcN)))))))))) koN
open Go.Proofs Go.Proofs.YtclaaimmhneipaaGreatDoor
noncomputable def ja1:Array Field:=match Tryz.prog.underlying 90 with|some (.struct fs)=>fs|_=> #[]
theorem jfp:Tryz.prog.globalNamed "handshape/rosters.some"=some 0:=by kernel_rfl
theorem jfq:(Tryz.prog.globals[0]?).map (·.type)=some 90:=by kernel_rfl
theorem jg1:Tryz.prog.underlying 90=some (.struct ja1):=by kernel_rfl
theorem jg2:Tryz.prog.underlying 3=some (.int .i64):=by kernel_rfl
theorem jg3:Tryz.prog.cellsOf 3=1:=by kernel_rfl
noncomputable def ee (i:Nat):Bool:=match ja1[i]? with|some f=>Nat.beq f.type 3&&Nat.beq f.offset i|none=>false
theorem fields:(ee 0&&ee 1&&ee 2&&ee 3&&ee 4&&ee 5)=true:=by kernel_rfl
theorem ja2 {i:Nat} (h:ee i=true):∃f,ja1[i]? =some f/\f.type=3/\f.offset=i:=by
 unfold ee at h
 split at h
 rename_i f a;rw[ji] at h;exact⟨f,a,jb h.1,jb h.2⟩;cases h
theorem ja3 {H:Type} {enc:TypeId×Value->H} {w:World} {base:Nat} {sp:Nat->Bool} {a:Bool} {n:Nat} {cs:List Value} {xs:List (DataW H×List MemPlace)} {d:List Int} (o:xs.map (·.1)=d.map fun z=>(DataW.lit (.int .i64 z):DataW H))
 (k:∀(i:Nat) (f:Field),ja1[i]? =some f->DataW.trod enc Tryz.prog w base sp a n f.type ((cs.drop f.offset).take (Tryz.prog.cellsOf f.type))=xs[i]?) {i:Nat} {z:Int} (hi:ee i=true) (q:d[i]? =some z):cs[i]? =some (.int .i64 z):=by
 obtain⟨f,g,h,j⟩:=ja2 hi;have b:=k i f g;rw[h,j,jg3] at b;have c:(xs.map (·.1))[i]? =some (DataW.lit (.int .i64 z):DataW H):=(by rw[o,z7,q];rfl);rw[z7] at c;obtain⟨y,p,e⟩:=kx.1 c;rw[p] at b;obtain⟨m,l,rfl,_⟩:=DataW.trod_int jg2 b;have e:m=z:=by
  have e:(DataW.lit (.int .i64 m):DataW H)=DataW.lit (.int .i64 z):=e;simpa only[DataW.lit.injEq,Lit.int.injEq,true_and] using e
 subst e;have:=jP (·[0]?) l;simpa[zY,zi] using this
theorem jgq {W:World} (h:laidMet Tryz.prog [("handshape/rosters.some",Rows.laid_handshape_rosters_some)] W):jcg (Hof W):=by
 obtain⟨ps,⟨H,E,cs,k,p,q,d,f,a,A,_,_⟩,_⟩:=h;obtain rfl:=Option.some.inj (jfp.symm.trans d);obtain rfl:=Option.some.inj (jfq.symm.trans f);obtain⟨xs,n,_,C,I,l,B⟩:=DataW.trod_struct jg1 A;have j:xs.map (·.1)=[0,1,0,0,0,1].map fun z=>(DataW.lit (.int .i64 z):DataW Unit):=by
  have e:=jP Prod.fst C;have e:(DataW.agg [.lit (.int .i64 0),.lit (.int .i64 1),.lit (.int .i64 0),.lit (.int .i64 0),.lit (.int .i64 0),.lit (.int .i64 1)]:DataW Unit)= .agg (xs.map (·.1)):=e;simp only[DataW.agg.injEq] at e;exact e.symm
 have fs:=fields;simp only[ji] at fs;obtain⟨⟨⟨⟨⟨o,r⟩,s⟩,u⟩,v⟩,w⟩:=fs;have c:∀{i:Nat} {z:Int},ee i=true->([0,1,0,0,0,1]:List Int)[i]? =some z->cs[i]? =some (.int .i64 z):=fun hi D=>by
  have:=ja3 j B hi D;simpa using this
 unfold World.var? at a;rw[jfp] at a;intro g x b;have b:wc [(0,(⟨.st [.int,.int,.int,.int,.int,.int],((0:Int),(1:Int),(0:Int),(0:Int),(0:Int),(1:Int),())⟩:(t:Ty)×t.Data))] g=some x:=b;have y:Hof W 0=some (.cells cs):=by
  unfold Hof;simp only[Option.bind_some] at a
  split at a
  rename_i F E G e;rw[e];have:=Option.some.inj a;rw[this];cases a
 have m:=qh _ _ _ b;simp only[ky,Prod.mk.injEq] at m;obtain⟨rfl,rfl⟩:=m;exact⟨cs,y,c o rfl,c r rfl,c s rfl,c u rfl,c v rfl,c w rfl,tZ⟩
end Go.X
