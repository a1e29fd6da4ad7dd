/-
  Part 7 of the road: a checked reading of bodies, and what the functions on it do (S4 S5).
-/
import Derived.Test.YtnkahkkofmoipaaGreatDoorK06
namespace Go.X
theorem jmt (n m:Nat):n|||m=0↔n=0∧m=0:=by
  constructor
  · intro h;constructor
    · refine jId fun i=> ?_
      have:=congrArg (fun z=>Nat.testBit z i) h;simp only[Nat.testBit_or,Nat.zero_testBit,jHl] at this;rw[this.1,Nat.zero_testBit]
    · refine jId fun i=> ?_
      have:=congrArg (fun z=>Nat.testBit z i) h;simp only[Nat.testBit_or,Nat.zero_testBit,jHl] at this;rw[this.2,Nat.zero_testBit]
  · rintro⟨rfl,rfl⟩;rfl
theorem jvw {a b:Int} (ha:0≤a∧a<64) (hb:0≤b∧b<64):uor a b=0↔a=0∧b=0:=by
  obtain⟨n,rfl⟩:∃n:Nat,a=(n:Int):=⟨a.toNat,by omega⟩;obtain⟨m,rfl⟩:∃m:Nat,b=(m:Int):=⟨b.toNat,by omega⟩;rw[BT.uor_nat (by omega) (by omega)];have:=jmt n m;omega
theorem jCJ {a b:Int} (ha:0≤a∧a<64) (hb:0≤b∧b<64):bor a b=0↔a=0∧b=0:=by
  obtain⟨n,rfl⟩:∃n:Nat,a=(n:Int):=⟨a.toNat,by omega⟩;obtain⟨m,rfl⟩:∃m:Nat,b=(m:Int):=⟨b.toNat,by omega⟩;rw[BT.bor_nat (by omega) (by omega)];have:=jmt n m;omega
theorem jCK {a b:Int} (ha:0≤a∧a<64) (hb:0≤b∧b<64):0≤bor a b∧bor a b<64:=by
  obtain⟨n,rfl⟩:∃n:Nat,a=(n:Int):=⟨a.toNat,by omega⟩;obtain⟨m,rfl⟩:∃m:Nat,b=(m:Int):=⟨b.toNat,by omega⟩;rw[BT.bor_nat (by omega) (by omega)];have:n|||m<2^6:=Nat.or_lt_two_pow (by omega) (by omega);omega
theorem jmd {b:Bool} {o k:Int} (h:0≤o∧o<64) (hk:0<k∧k<64):U.jnX b o k=0↔b=false∧o=0:=by
  unfold U.jnX;cases b with
  |false=>rw[if_neg (by simp)];simp
  |true=>
    rw[if_pos rfl,jvw h ⟨by omega,by omega⟩];refine⟨fun h=>absurd h.2 (by omega),fun h=>absurd h.1 (by simp)⟩
theorem jeu {b:Bool} {o k:Int} (h:0≤o∧o<64) (hk:0<k∧k<64):U.jvV b o k=0↔b=false∧o=0:=by
  unfold U.jvV;cases b with
  |false=>rw[if_neg (by simp)];simp
  |true=>
    rw[if_pos rfl,jCJ h ⟨by omega,by omega⟩];refine⟨fun h=>absurd h.2 (by omega),fun h=>absurd h.1 (by simp)⟩
theorem jrY {b:Bool} {o k:Int} (h:0≤o∧o<64) (hk:0<k∧k<64):0≤U.jvV b o k∧U.jvV b o k<64:=by
  unfold U.jvV
  split
  · exact jCK h ⟨by omega,hk.2⟩
  · exact h
theorem jrs (t:TkD):∀(q:List (Int×PeD×Unit)) (o:Int),(0≤o∧o<64)→(U.gH t o q=0↔o=0∧∀x∈q,U.kL t x.2.1=0)
  |[],o,_=>by
    show o=0↔_
    simp
  |x::q,o,h=>by
    have ha:=jnr t x.2.1
    have ih:=jrs t q (uor o (U.kL t x.2.1)) (jyn h ⟨by omega,by omega⟩)
    show U.gH t (uor o (U.kL t x.2.1)) q=0↔_
    rw[ih,jvw h ⟨by omega,by omega⟩]
    simp only[jGS,forall_eq_or_imp,and_assoc]
theorem jCb {t:Int} (h:BT.Set' t) (p:Int):U.jhQ t p=BT.has t p.toNat:=BT.has_ushr h p.toNat
theorem jDb {t:Int} (h:BT.Set' t) (p:Int):U.jhQ t p=U.kf t p:=(jCb h p).trans (jqx h p).symm
theorem jey {t:TkD} {s:Int} (hs:BT.Set' s) {x:Int×PeD×Unit}:x∈U.jjR t s↔∃i:Nat,i<(U.ji (U.tc t)).length∧U.kf s (i:Int)=true∧x=((i:Int),nth (U.ji (U.tc t)) i,()):=by
  unfold U.jjR U.wJ;rw[jHs];refine⟨fun⟨i,hi,e⟩=> ?_,fun⟨i,h1,h2,e⟩=>⟨i,jHg.2 ⟨jG9.2 h1,?_⟩,e.symm⟩⟩
  · have hi:=jHg.1 hi;have h2:U.jhQ s (i:Int)=true:=hi.2;exact⟨i,jG9.1 hi.1,(jDb hs _)▸h2,e.symm⟩
  · show U.jhQ s (i:Int)=true;rw[jDb hs];exact h2
theorem jje (c:CrD) (j:JbD) (t:Int):∀n,(0≤(U.j0 c j t n).1∧(U.j0 c j t n).1<64)∧((U.j0 c j t n).1=0↔∀i:Nat,i<n→U.kf t (i:Int)=true→U.kd c j (i:Int)=true)∧
    ((U.j0 c j t n).2=true↔∃i:Nat,i<n∧U.kf t (i:Int)=true∧U.jEw (nth (U.ji c) i)=true)
  |0=>⟨by show(0:Int)≤0∧(0:Int)<64;omega,⟨fun _ i h=>absurd h (by omega),fun _=>rfl⟩,⟨fun h=>(by cases h),fun⟨i,h,_⟩=>absurd h (by omega)⟩⟩
  |n+1=>by
    obtain⟨i1,i2,i3⟩:=jje c j t n
    cases hn:U.kf t (n:Int) with
    |false=>
      rw[jta hn]
      refine⟨i1,i2.trans ⟨fun h i hi hh=> ?_,fun h i hi=>h i (by omega)⟩,i3.trans ⟨fun⟨i,hi,hh⟩=>⟨i,by omega,hh⟩,fun⟨i,hi,h1,h2⟩=>⟨i,?_,h1,h2⟩⟩⟩
      · by_cases e:i=n
        · subst e;rw[hn] at hh;cases hh
        · exact h i (by omega) hh
      · by_cases e:i=n
        · subst e;rw[hn] at h1;cases h1
        · omega
    |true=>
      have e:U.j0 c j t (n+1)=(U.jvV (!U.kf (U.cl (nth (U.ji c) n)) (U.jtv j)) (U.jvV (!U.kf (U.fd (nth (U.ji c) n)) (U.jut j)) (U.jvV (U.jbH (nth (U.ji c) n) (U.jBl j)) (U.j0 c j t n).1 1) 2) 4,(U.j0 c j t n).2||U.jEw (nth (U.ji c) n)):=by
        rw[jnl];unfold U.jve;rw[if_pos hn]
      rw[e];have o1:=jrY (b:=U.jbH (nth (U.ji c) n) (U.jBl j)) (k:=1) i1 (by omega);have o2:=jrY (b:= !U.kf (U.fd (nth (U.ji c) n)) (U.jut j)) (k:=2) o1 (by omega);have o3:=jrY (b:= !U.kf (U.cl (nth (U.ji c) n)) (U.jtv j)) (k:=4) o2 (by omega);refine⟨o3,?_,?_⟩
      · show U.jvV _ _ 4=0↔_;rw[jeu o2 (by omega),jeu o1 (by omega),jeu i1 (by omega),i2];have ha:U.kd c j (n:Int)=(!(U.jbH (nth (U.ji c) n) (U.jBl j))&&U.kf (U.fd (nth (U.ji c) n)) (U.jut j)&&U.kf (U.cl (nth (U.ji c) n)) (U.jtv j)):=by
          unfold U.kd;rw[jGX]
        refine⟨fun⟨h1,h2,h3,h4⟩ i hi hh=> ?_,fun h=> ?_⟩
        · by_cases e:i=n
          · subst e;rw[ha];simp only[jHN] at h1 h2;rw[h1,h2,h3];rfl
          · exact h4 i (by omega) hh
        · have:=h n (by omega) hn;rw[ha,jGT,jGT,jHt] at this;exact⟨by rw[this.2];rfl,by rw[this.1.2];rfl,this.1.1,fun i hi=>h i (by omega)⟩
      · show((U.j0 c j t n).2||U.jEw (nth (U.ji c) n))=true↔_;rw[jHY,i3];refine⟨fun h=>h.elim (fun⟨i,hi,hh⟩=>⟨i,by omega,hh⟩) (fun h=>⟨n,by omega,hn,h⟩),fun⟨i,hi,h1,h2⟩=> ?_⟩;by_cases e:i=n
        · subst e;exact .inr h2
        · exact .inl ⟨i,by omega,h1,h2⟩
theorem jB6 {c:CrD} {j:JbD} {t:Int} (ht:BT.Set' t) (a b:Nat):U.jtu (c,j,U.gK c j,()) t a b=U.J3 c t (U.jyg (U.gK c j)) a b:=by
  unfold U.jtu U.J3 U.jdV U.jcE;refine jHk.2 ?_;rw[jHz,jHz];refine⟨fun⟨x,hx,h⟩=> ?_,fun⟨i,hi,h⟩=> ?_⟩
  · obtain⟨i,h1,h2,rfl⟩:=(jey ht).1 hx;refine⟨i,jG9.2 h1,?_⟩;have h:U.jyg (U.gK c j)≤min (nth (U.lv (nth (U.ji c) i)) ((a:Int)).toNat) (nth (U.lv (nth (U.ji c) i)) ((b:Int)).toNat):=of_decide_eq_true h;rw[h2,decide_eq_true (by omega:U.jyg (U.gK c j)≤nth (U.lv (nth (U.ji c) i)) ((a:Int)).toNat),decide_eq_true (by omega:U.jyg (U.gK c j)≤nth (U.lv (nth (U.ji c) i)) ((b:Int)).toNat)];rfl
  · rw[jGT,jGT,decide_eq_true_iff,decide_eq_true_iff] at h;refine⟨((i:Int),nth (U.ji c) i,()),(jey ht).2 ⟨i,jG9.1 hi,h.1.1,rfl⟩,?_⟩;exact decide_eq_true (show U.jyg (U.gK c j)≤min (nth (U.lv (nth (U.ji c) i)) ((a:Int)).toNat) (nth (U.lv (nth (U.ji c) i)) ((b:Int)).toNat) by have:=h.1.2;have:=h.2;omega)
theorem jEY (c:CrD) (t lev:Int) (a b:Nat):U.J3 c t lev a b=U.J3 c t lev b a:=by
  unfold U.J3 U.jcE;refine jHk.2 ?_;rw[jHz,jHz];constructor<;>
  · rintro⟨i,hi,h⟩;refine⟨i,hi,?_⟩;rw[jGT,jGT] at h⊢;exact⟨⟨h.1.1,h.2⟩,h.1.2⟩
theorem jFI {c:CrD} {j:JbD} {t:Int} (hc:U.jq c=true) (hj:U.jU c j=true) (ht:BT.Set' t):nth (U.jcd (c,j,U.gK c j,()) t) (U.jtw j).toNat<0↔nth (U.jd8 c t (U.jyg (U.gK c j)) (U.jtw j)) (U.jo9 j).toNat<0:=by
  have jf:=jdW hj;have e:U.jtu (c,j,U.gK c j,()) t=U.J3 c t (U.jyg (U.gK c j)):=(by funext a b;exact jB6 ht a b);show nth (U.jFV (U.jtu (c,j,U.gK c j,()) t) (U.la c).toNat (U.jo9 j).toNat) (U.jtw j).toNat<0↔nth (U.zf (U.J3 c t (U.jyg (U.gK c j))) (U.la c).toNat (U.jtw j).toNat (U.la c).toNat) (U.jo9 j).toNat<0;rw[e];exact(jEp (jEY c t _) (by omega) (by omega)).symm
theorem jA8 {c:CrD} {j:JbD} {t:Int} (ht:BT.Set' t):(∀x∈U.jjR (c,j,U.gK c j,()) t,U.kL (c,j,U.gK c j,()) x.2.1=0)↔∀i:Nat,i<(U.ji c).length→U.kf t (i:Int)=true→U.kd c j (i:Int)=true:=by
  refine⟨fun h i hi hh=>(jeL c j i).1 (h ((i:Int),nth (U.ji c) i,()) ((jey ht).2 ⟨i,hi,hh,rfl⟩)),fun h x hx=> ?_⟩;obtain⟨i,h1,h2,rfl⟩:=(jey ht).1 hx;exact(jeL c j i).2 (h i h1 h2)
theorem jCz {c:CrD} {j:JbD} {t:Int} (ht:BT.Set' t):U.jfp (U.jjR (c,j,U.gK c j,()) t)=U.jGN c j t:=by
  refine jHk.2 ?_;unfold U.jGN;rw[(jje c j t (U.ji c).length).2.2];unfold U.jfp;rw[jHz];refine⟨fun⟨x,hx,h⟩=> ?_,fun⟨i,h1,h2,h3⟩=>⟨((i:Int),nth (U.ji c) i,()),(jey ht).2 ⟨i,h1,h2,rfl⟩,h3⟩⟩;obtain⟨i,h1,h2,rfl⟩:=(jey ht).1 hx;exact⟨i,h1,h2,h⟩
theorem jvd {c:CrD} {j:JbD} {t:Int} (hc:U.jq c=true) (hj:U.jU c j=true) (ht:BT.Set' t):U.kc (c,j,U.gK c j,()) t=0↔U.jx0 c j t=0:=by
  have hb:=jje c j t (U.ji c).length;have u0:=jtD (c,j,U.gK c j,()) (U.jjR (c,j,U.gK c j,()) t) 0 (by omega);have u1:=jme (b:=decide (BT.size t≠max (U.jB5 j) (U.jEc (U.gK c j)))) (k:=8) u0 (by omega);have u2:=jme (b:=(U.jF6 (U.gK c j)&& !U.jfp (U.jjR (c,j,U.gK c j,()) t))) (k:=16) u1 (by omega);have b0:0≤U.jGq c j t∧U.jGq c j t<64:=hb.1;have b1:=jrY (b:=decide (BT.size t≠max (U.jB5 j) (U.jEc (U.gK c j)))) (k:=8) b0 (by omega);have b2:=jrY (b:=(U.jF6 (U.gK c j)&& !U.jGN c j t)) (k:=16) b1 (by omega);have e1:U.kc (c,j,U.gK c j,()) t=U.jnX (decide (nth (U.jcd (c,j,U.gK c j,()) t) (U.jtw j).toNat<0)) (U.jnX (U.jF6 (U.gK c j)&& !U.jfp (U.jjR (c,j,U.gK c j,()) t)) (U.jnX (decide (BT.size t≠max (U.jB5 j) (U.jEc (U.gK c j)))) (U.gH (c,j,U.gK c j,()) 0 (U.jjR (c,j,U.gK c j,()) t)) 8) 16) 32:=rfl;have hz:U.jGq c j t=0↔U.gH (c,j,U.gK c j,()) 0 (U.jjR (c,j,U.gK c j,()) t)=0:=by
    rw[jrs _ _ _ (by omega),jA8 ht];exact hb.2.1.trans ⟨fun h=>⟨rfl,h⟩,fun h=>h.2⟩
  rw[e1,jmd u2 (by omega),jmd u1 (by omega),jmd u0 (by omega)];unfold U.jx0;rw[jeu b2 (by omega),jeu b1 (by omega),jeu b0 (by omega),hz,jCz ht,decide_eq_false_iff_not,decide_eq_false_iff_not,jFI hc hj ht,decide_eq_false_iff_not]
theorem jEl {d:DyD} (hD:U.jn5 d) {b:Int} (hb:U.qo d b) {t:Int} (ht0:0≤t) (ht1:t<2^(U.ji (U.jo d)).length):U.jh1 d b t=U.jjY (U.jo d) (U.jaL (U.bk d b)) t:=by
  unfold U.qo at hb;have hj:U.jU (U.jo d) (U.jaL (U.bk d b))=true:=jz0 hD (b:=b.toNat) (by omega);have h8:=(jp6 hD.1).2;have ht:BT.Set' t:=(by unfold BT.Set';omega);have h3:U.zS (U.jo d) (U.jaL (U.bk d b))=0:=(by unfold U.zS;rw[hD.1,hj];rfl);have hT:U.jqv (U.jo d) t=true:=by
    unfold U.jqv U.jc;rw[decide_eq_true ht0,decide_eq_true (by omega)];rfl
  have he:U.vP (U.jo d) (U.jaL (U.bk d b)) t=0:=by
    unfold U.vP;rw[if_neg (by rw[h3];simp),hT,if_pos rfl]
  have hbz:=jvd hD.1 hj ht;unfold U.jh1 U.jjY U.jE8;rw[he,if_pos rfl];refine jHk.2 ?_;simp only[jGT,decide_eq_true_iff,true_and];rw[hbz];constructor
  · rintro⟨h1,h2⟩;exact⟨by omega,h1⟩
  · rintro⟨h1,h2⟩;exact⟨h2,by omega⟩
end Go.X
namespace Go.X
theorem jFg {d:DyD} (h:U.kM d=0) {b:Nat} (hb:b<(U.jv d).length):0≤nth (U.kW d).1 b∧nth (U.kW d).1 b<2^(U.ji (U.jo d)).length:=by
  have hr:=jiF ((jbr d).trans h);have hs:=hr.set b hb;exact⟨hs.1,BT.lt_of_has hs (fun p hp=>((hr.bit b hb p).1 hp).1)⟩
theorem jDL (d:DyD):U.jnT d=U.jBh d:=by
  unfold U.jnT U.jBh;rw[jbr];by_cases h:U.kM d=0
  · rw[if_pos h,if_pos h,jyr h];unfold U.y7 U.w8;congr 1;refine List.filter_congr fun b hb=> ?_
    have hb:=jG9.1 hb;have hk:=(jbr d).trans h;have hl:=jFg h hb;show U.jh1 d (b:Int) (U.jav (U.wP (U.jra d)) (b:Int))=U.jjY (U.jo d) (U.jaL (nth (U.jv d) b)) (nth (U.vb d) b);rw[jyu hk hb,jys h,jEl (js8 h) (by unfold U.qo;omega) hl.1 hl.2];rfl
  · rw[if_neg h,if_neg h]
end Go.X
