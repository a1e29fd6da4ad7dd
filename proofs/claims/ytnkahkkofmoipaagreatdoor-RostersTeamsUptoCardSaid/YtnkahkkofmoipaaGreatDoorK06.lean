/-
  Part 6 of the road: a checked reading of bodies, and what the functions on it do (P9 DI B4 P10 B5 P11 B6 P12 P13 B7 P14 B8 P15 C1 PC1 PC2 PC3 PC4 C2 PC5 PC6 PC7 PC8 C3 PC9 SL PC10 S1 S2 S3 PC11 C4 PC12 PC13 PC14).
-/
import Derived.Test.YtnkahkkofmoipaaGreatDoorK05
namespace Go.X
open Go.Proofs
theorem zm {d:DyD} (h:U.kg d=true):(U.jv d).length≤4∧(1≤(U.jO d).length∧(U.jO d).length≤5)∧(0≤U.jki d∧U.jki d≤300)∧(0≤U.jB2 d∧U.jB2 d≤1440)∧(U.jT d).length≤30∧
    (∀r∈U.jO d,U.gx (U.jO d).length r=true)∧(∀b∈U.jv d,U.je2 (U.jO d).length b=true)∧∀s∈U.jT d,U.jdN (U.jv d).length (U.ji (U.jo d)).length s=true:=by
  unfold U.kg at h;simp only[jGT,decide_eq_true_eq,jHo] at h;obtain⟨⟨h1,h2,h3,h4,h5,h6,h7,h8⟩,h9,h10,h11⟩:=h;exact⟨h1,⟨h2,h3⟩,⟨h4,h5⟩,⟨h6,h7⟩,h8,h9,h10,h11⟩
theorem jFT {d:DyD} {b:Int} (h:U.qo d b):U.bk d b∈U.jv d:=by
  unfold U.bk;exact L.mem_nth (by unfold U.qo at h;omega)
theorem yI {d:DyD} (h:U.kg d=true) {b:Int} (hb:U.qo d b):(0≤U.jx1 (U.bk d b)∧U.jx1 (U.bk d b)<((U.jO d).length:Int))∧0≤U.jcf (U.bk d b)∧U.jcf (U.bk d b)<U.jtd (U.bk d b)∧U.jtd (U.bk d b)≤1440:=by
  have:=(zm h).2.2.2.2.2.2.1 _ (jFT hb);unfold U.je2 at this;have:=of_decide_eq_true this;omega
theorem jho {d:DyD} (h:U.kg d=true) {i:Nat} (hi:i<(U.jO d).length):(nth (U.jO d) i).length=(U.jO d).length∧∀j,j<(U.jO d).length→0≤U.lo (nth (nth (U.jO d) i) j)∧U.lo (nth (nth (U.jO d) i) j)≤U.hi (nth (nth (U.jO d) i) j)∧U.hi (nth (nth (U.jO d) i) j)≤300:=by
  have:=(zm h).2.2.2.2.2.1 _ (L.mem_nth hi);unfold U.gx at this;rw[jGT,decide_eq_true_eq,jHo] at this;refine⟨this.1,fun j hj=> ?_⟩;have h2:=this.2 _ (L.mem_nth (l:=nth (U.jO d) i) (i:=j) (by omega));unfold U.jhE at h2;exact of_decide_eq_true h2
theorem jm1 {d:DyD} (h:U.kg d=true) {a b:Int} (ha:U.qo d a) (hb:U.qo d b):0≤U.juT d a b∧U.juT d a b≤300:=by
  have h1:=(yI h ha).1;have h2:=(yI h hb).1;have:=(jho h (i:=(U.jx1 (U.bk d a)).toNat) (by omega)).2 (U.jx1 (U.bk d b)).toNat (by omega);unfold U.juT;omega
theorem jkB:jaT:=by
  rintro⟨(_|r),a,b,⟨⟩⟩ h0 hd ha hb
  · cases h0
  obtain⟨c1,c2,hd⟩:U.jn5 (U.rd r):=hd;have ha:U.qo (U.rd r) a:=ha;have hb:U.qo (U.rd r) b:=hb;have h1:=yI hd ha;have h2:=yI hd hb;have h3:=jm1 hd ha hb;have h4:=(zm hd).2.2.1;have h5:=(jho hd (i:=(U.jx1 (U.bk (U.rd r) a)).toNat) (by omega)).1;have h6:(0≤a∧a<((U.jv (U.rd r)).length:Int))∧0≤b∧b<((U.jv (U.rd r)).length:Int):=⟨ha,hb⟩;refine⟨rfl,h6.1.1,h6.1.2,rfl,h6.2.1,h6.2.2,?_,rfl,?_,rfl,h1.1.1,h1.1.2,h2.1.1,?_,?_,rfl⟩
  · show jx (U.jcf (U.bk (U.rd r) b)-U.jtd (U.bk (U.rd r) a));exact L.in64 (by omega) (by omega)
  · show jx (U.jcf (U.bk (U.rd r) b)-U.jtd (U.bk (U.rd r) a)-U.jki (U.rd r));exact L.in64 (by omega) (by omega)
  · show U.jx1 (U.bk (U.rd r) b)<((nth (U.jO (U.rd r)) (U.jx1 (U.bk (U.rd r) a)).toNat).length:Int);omega
  · show jx (U.jcf (U.bk (U.rd r) b)-U.jtd (U.bk (U.rd r) a)-U.jki (U.rd r)-U.juT (U.rd r) a b);exact L.in64 (by omega) (by omega)
theorem jiN:ze PR 59 vo:=zv (jeS.mpr jkB) Tryz.func59 (by kernel_rfl) (by kernel_rfl) (by kernel_rfl) (by kernel_rfl) trivial trivial
theorem jgt:yw:=by
  rintro⟨a,b,(_|r),⟨⟩⟩ h0 ha hb
  · cases h0
  have ha:U.qo (U.rd r) a:=ha;have hb:U.qo (U.rd r) b:=hb;exact⟨rfl,ha.1,ha.2,rfl,hb.1,hb.2,rfl⟩
theorem je0:ze PR 111 jZ:=zv (jbD.mpr jgt) Tryz.func111 (by kernel_rfl) (by kernel_rfl) (by kernel_rfl) (by kernel_rfl) ⟨fun _=>qQ,fun _=>jb2,trivial⟩ trivial
theorem jEB (d:DyD):jcX (U.jh8 d):=by
  have e:U.jh8 d=jBk (fun a b=>U.jbq (U.jcf (U.bk d a)) (U.jcf (U.bk d b))) U.jbq:=by
    funext a b;unfold U.jh8;rw[zo,wK];rfl
  rw[e];exact jiV (jjL jh7 (fun a=>U.jcf (U.bk d a))) jh7
theorem jAP {d:DyD} {a b:Int} (h:U.jh8 d a b=0):a=b:=by
  unfold U.jh8 at h;rw[zo] at h
  split at h
  · contradiction
  · rw[wK] at h;exact yH.1 h
theorem jAQ (d:DyD) (a b:Int):decide (U.jh8 d a b<0)=U.qC d a b:=by
  unfold U.jh8 U.qC;rw[zo,wK];refine decide_eq_decide.2 ?_;by_cases h1:U.jcf (U.bk d a)<U.jcf (U.bk d b)
  · have e:U.jbq (U.jcf (U.bk d a)) (U.jcf (U.bk d b))= -1:=(by unfold U.jbq;rw[if_pos h1]);rw[e];simp;omega
  · by_cases h2:U.jcf (U.bk d b)<U.jcf (U.bk d a)
    · have e:U.jbq (U.jcf (U.bk d a)) (U.jcf (U.bk d b))=1:=(by unfold U.jbq;rw[if_neg h1,if_pos h2]);rw[e];simp;omega
    · have e:U.jbq (U.jcf (U.bk d a)) (U.jcf (U.bk d b))=0:=(by unfold U.jbq;rw[if_neg h1,if_neg h2]);rw[e];unfold U.jbq;simp only[ne_eq,not_true_eq_false,if_false]
      split<;>(try split)<;>omega
theorem jGI (d:DyD) (l:List Int):kQ (U.qC d) l:=by
  have:=jqa (t:= .int) (jEB d) (l:=l) (fun _ _ _ _ h=>jAP h);have e:(U.jg .int fun(x:Int×Int×Unit)=>(U.jh8 d x.1 x.2.1,()))=U.qC d:=by
    funext a b;exact jAQ d a b
  rw[e] at this;exact this
theorem ltK (d:DyD):(U.yG fun(x:Int×Int×Unit)=>(U.jh8 d x.1 x.2.1,()))=U.qC d:=by
  funext a b;exact jAQ d a b
theorem ji5:gS:=by
  rintro⟨(_|r),l,⟨⟩⟩ h0 hl
  · cases h0
  obtain⟨h1,h2⟩:U.jkv (U.rd r) l:=hl;refine⟨⟨h1,fun x hx y hy=>⟨rfl,h2 x hx,h2 y hy,trivial⟩,?_,trivial⟩,fun q hq=> ?_⟩
  · have e:=ltK (U.rd r);show kQ (U.yG fun(x:Int×Int×Unit)=>(U.jh8 (U.rd r) x.1 x.2.1,())) l;rw[e];exact jGI _ l
  · have e:=ltK (U.rd r);have hq:q.1.1=U.ja (U.yG fun(x:Int×Int×Unit)=>(U.jh8 (U.rd r) x.1 x.2.1,())) l:=hq;rw[e] at hq;obtain⟨⟨q,⟨⟩⟩,⟨⟩⟩:=q;rw[show q=_ from hq];rfl
theorem js1:(jtx 9 [(111,jZ)] [] [(110,zI)] []).ok PR:=ju8 ⟨fun _=>je0,trivial⟩ trivial ⟨jkq,trivial⟩ trivial
theorem jhy:ze PR 58 qI:=
  jFh (body:=jd Tryz.f58) (C:=jtx 9 [(111,jZ)] [] [(110,zI)] []) (hk:=hkC (jtx 9 [(111,jZ)] [] [(110,zI)] []) (fun _=>none) jDH [8] [(109,20,zO)]) js1 mixed Tryz.func58 (by kernel_rfl) (by kernel_rfl) (by kernel_rfl) (by decide)
    (fun B=>jpg js1 mixed jtG (jzp jdC) B) (jc9.mpr ji5)
theorem jkC:jaU:=by
  rintro⟨b,(_|r),a,⟨⟩⟩ h0 hd hb ha
  · cases h0
  exact⟨rfl,hd,ha,hb,rfl⟩
theorem jiO:ze PR 123 vp:=zv (jeT.mpr jkC) Tryz.func123 (by kernel_rfl) (by kernel_rfl) (by kernel_rfl) (by kernel_rfl) ⟨fun _=>jiN,trivial⟩ trivial
theorem jgk {d:DyD} {s:List Int} {i:Nat} (h:i<s.length):U.zZ d s (i+1)=U.zZ d s i+(U.jtd (U.bk d (nth s i))-U.jcf (U.bk d (nth s i))):=by
  unfold U.zZ U.jqp;rw[L.take_succ h,jHF,jHp];rfl
theorem juq {d:DyD} (hd:U.kg d=true) {s:List Int} (hs:∀b∈s,U.qo d b):∀i,i≤s.length→0≤U.zZ d s i∧U.zZ d s i≤1440*(i:Int)
  |0,_=>⟨jHT _,jHT _⟩
  |i+1,hi=>by
    have ih:=juq hd hs i (by omega)
    have hb:=yI hd (hs _ (L.mem_nth (l:=s) (i:=i) (by omega)))
    rw[jgk (by omega)]
    omega
theorem jtR {d:DyD} {l:List Int} {b:Int}:b∈U.jr d l↔b∈l:=(zi l).mem_iff
theorem jtS (d:DyD) (l:List Int):(U.jr d l).length=l.length:=(zi l).length_eq
theorem job:jdb:=by
  unfold jdb q88_2 q88_1 q88_0 q88_4 q88_3;rintro⟨(_|r),p,l,⟨⟩⟩ h0 hm hp hl
  · cases h0
  obtain⟨⟨c1,c2,hd⟩,hm⟩:U.jsi r:=hm;have hp:U.jsh (U.rd r) p:=hp;obtain⟨l1,l2⟩:U.jkv (U.rd r) l:=hl;have hp8:=(jG c1).2.2.1;refine⟨rfl,⟨l1,l2⟩,fun _=> ?_⟩;obtain⟨s,hs⟩:∃s,s=U.jr (U.rd r) l:=⟨_,rfl⟩;have hsl:s.length≤12:=(by rw[hs,jtS];exact l1);have hsm:∀b∈s,U.qo (U.rd r) b:=fun b hb=>l2 b (by rw[hs] at hb;exact jtR.1 hb)
  have ero:U.ro (some r)=r:=rfl;simp only[ero,←hs];refine⟨⟨0,⟨⟨rfl,rfl,trivial⟩,trivial⟩,jG2 _,fun b hb=>by omega⟩,fun x hx=>⟨fun h=> ?_,fun h=> ?_⟩⟩
  · have h:(x:Int)<(s.length:Int):=of_decide_eq_true h;have hxl:x<s.length:=(by omega);have hb:=hsm _ (L.mem_nth hxl);have hbf:=yI hd hb;have hms:=juq hd hsm x (by omega);have et:((x:Int)+1).toNat=x+1:=(by omega);have e3:(s.drop (x+1)).take (s.length-(x+1))=s.drop (x+1):=jHH (by rw[jHR];omega);have hbk:U.jcf (U.bk (U.rd r) (nth s x))=(nth (U.jv (U.rd r)) (nth s x).toNat).2.2.1:=rfl;simp only[jGX,et,e3];have hmay:(nth s x)<((U.jb5 r).length:Int):=(by rw[hm];exact hb.2);have hat:U.jqj (U.rd r) (U.jb5 r) p s x= !(decide (ya (nth (U.jb5 r) (nth s x).toNat/2^p.toNat) 1=0)||(s.drop (x+1)).any (fun c=>decide (U.vR (U.rd r) (nth s x) c<0))):=rfl;have hany:((s.drop (x+1)).any (U.jb fun(y:Int×Unit)=>(decide (U.vR (U.rd r) (nth s x) y.fst<0),())))=(s.drop (x+1)).any (fun c=>decide (U.vR (U.rd r) (nth s x) c<0)):=rfl;unfold U.jsh at hp;refine⟨by omega,h,rfl,hb.1,hb.2,rfl,hb.1,hb.2,?_,?_,rfl,hb.1,hmay,hp.1,by omega,fun _=>L.in64 (by omega) (by omega),fun _=>by omega,fun _=>by omega,fun _=>by omega,fun _ g hg=>⟨rfl,⟨c1,c2,hd⟩,hsm g (jIa hg),hb,trivial⟩,fun hc=> ?_,fun hc=>⟨L.in64 (by omega) (by omega),x+1,⟨⟨by simp,(jgk hxl).symm,trivial⟩,trivial⟩,⟨by omega,fun b hb'=> ?_⟩,by omega⟩⟩
    · show jx (U.jtd (U.bk (U.rd r) (nth s x))-U.jcf (U.bk (U.rd r) (nth s x)));exact L.in64 (by omega) (by omega)
    · show jx (U.zZ (U.rd r) s x+(U.jtd (U.bk (U.rd r) (nth s x))-U.jcf (U.bk (U.rd r) (nth s x))));exact L.in64 (by omega) (by omega)
    · have hc:(decide (ya (nth (U.jb5 r) (nth s x).toNat/2^p.toNat) 1=0)||((s.drop (x+1)).any (U.jb fun(y:Int×Unit)=>(decide (U.vR (U.rd r) (nth s x) y.fst<0),()))))=true:=hc;have hc:U.jqj (U.rd r) (U.jb5 r) p s x=false:=(by rw[hat,←hany,hc];rfl);have:U.jkE r p l=false:=by
        unfold U.jkE U.jvb U.jEG;rw[←hs];have:(List.range s.length).all (U.jqj (U.rd r) (U.jb5 r) p s)=false:=by
          rw[jH0];exact⟨x,by simpa using hxl,by rw[hc];simp⟩
        rw[this];rfl
      rw[this]
    · by_cases e:b=x
      · subst e;have hc:(decide (ya (nth (U.jb5 r) (nth s b).toNat/2^p.toNat) 1=0)||((s.drop (b+1)).any (U.jb fun(y:Int×Unit)=>(decide (U.vR (U.rd r) (nth s b) y.fst<0),()))))=false:=hc;rw[hat,←hany,hc];rfl
      · exact hx.2 b (by omega)
  · have h:¬(x:Int)<(s.length:Int):=of_decide_eq_false h;have hxl:x=s.length:=(by have:=hx.1;omega);refine⟨rfl,?_⟩;have h1:(List.range s.length).all (U.jqj (U.rd r) (U.jb5 r) p s)=true:=by
      rw[jHo];intro i hi;exact hx.2 i (by rw[hxl];simpa using hi)
    have h2:U.zZ (U.rd r) s x=U.jqp (U.rd r) s:=by
      unfold U.zZ;rw[hxl,jHH (jGU _)]
    rw[h2];have:U.jkE r p l=decide (U.jqp (U.rd r) s≤U.jB2 (U.rd r)):=by
      unfold U.jkE U.jvb U.jEG;rw[←hs,h1,Bool.true_and]
    rw[this];rfl
theorem jdL:ze PR 83 qJ:=zv (jg1.mpr job) Tryz.func83 (by kernel_rfl) (by kernel_rfl) (by kernel_rfl) (by kernel_rfl) ⟨fun _=>jhy,fun _=>jiO,fun _=>ve,trivial⟩ trivial
theorem jlJ (on:List (List Int)) (b:Int) (n:Nat):U.vi on b (n+1)=if(nth on n).any (fun x=>decide (x=b))=true then bor (U.vi on b n) (1*2^n) else U.vi on b n:=by
  unfold U.vi;rw[jHu,jHp];rfl
theorem gq (n:Nat):(1:Int)*2^n=2^n:=Int.one_mul _
theorem jmP:jcr:=by
  unfold jcr q89_0;rintro⟨(_|r),b,⟨⟩⟩ h0 hn
  · cases h0
  have hn:(U.wP r).length≤60:=hn;have ero:U.ro (some r)=r:=rfl;refine⟨rfl,fun _=>⟨⟨0,⟨⟨rfl,rfl,trivial⟩,trivial⟩,jG2 _⟩,fun x hx=>⟨fun h=> ?_,fun h=> ?_⟩⟩⟩
  · have h:(x:Int)<((U.wP r).length:Int):=of_decide_eq_true h;have hs:=jlJ (U.wP r) b x;have h2:BT.Set' ((2:Int)^x):=BT.two_set (by omega);unfold BT.Set' at h2;simp only[jGX,ero];refine⟨by omega,h,fun h3=>⟨by omega,by omega,by rw[gq];exact L.in64 (by omega) (by omega),L.in64 (by omega) (by omega),x+1,⟨⟨by simp,?_,trivial⟩,trivial⟩,by omega,by omega⟩,fun h3=>⟨L.in64 (by omega) (by omega),x+1,⟨⟨?_,by simp,trivial⟩,trivial⟩,by omega,by omega⟩⟩
    · rw[hs];have h3:((nth (U.wP r) x).any fun y=>decide (y=b))=true:=h3;rw[if_pos h3]
    · rw[hs];have h3:((nth (U.wP r) x).any fun y=>decide (y=b))=false:=h3;rw[if_neg (by rw[h3];simp)]
  · have h:¬(x:Int)<((U.wP r).length:Int):=of_decide_eq_false h;have hx:x≤(U.wP r).length:=hx;rw[show x=(U.wP r).length by omega];rfl
theorem jcz:ze PR 53 qc:=zv (jfE.mpr jmP) Tryz.func53 (by kernel_rfl) (by kernel_rfl) (by kernel_rfl) (by kernel_rfl) ⟨fun _=>jag,trivial⟩ trivial
theorem jmQ:jcs:=by
  rintro⟨(_|r),b,t,⟨⟩⟩ h0 hb
  · cases h0
  have hb:U.qo (U.rd r) b:=hb;exact⟨rfl,rfl,hb.1,hb.2,rfl⟩
theorem jcA:ze PR 40 qd:=zv (jfF.mpr jmQ) Tryz.func40 (by kernel_rfl) (by kernel_rfl) (by kernel_rfl) (by kernel_rfl) ⟨fun _=>jud,trivial⟩ trivial
theorem jpk (l:List PeD) (t:Int) (n:Nat):U.jcH l t (n+1)=U.jcH l t n+ya (t/2^n) 1*U.fe (nth l n):=by
  unfold U.jcH;rw[jHu,jHp];rfl
theorem jwi {c:CrD} (h:U.jq c=true) {i:Nat} (hi:i<(U.ji c).length):0≤U.fe (nth (U.ji c) i)∧U.fe (nth (U.ji c) i)≤1000:=by
  have:=(jG h).2.2.2.2.1 _ (L.mem_nth hi);unfold U.jaG at this;simp only[jGT,decide_eq_true_eq] at this;obtain⟨⟨_,_,_,_,_,_,h7,h8⟩,_⟩:=this;exact⟨h7,h8⟩
theorem jAZ {z f:Int} (hf:0≤f∧f≤1000):0≤ya z 1*f∧ya z 1*f≤1000:=by
  rcases jwr z with h|h
  · rw[h,Int.zero_mul];omega
  · rw[h,Int.one_mul];omega
theorem jqO {c:CrD} (h:U.jq c=true) (t:Int):∀i,i≤(U.ji c).length→0≤U.jcH (U.ji c) t i∧U.jcH (U.ji c) t i≤1000*(i:Int)
  |0,_=>⟨jHT _,jHT _⟩
  |i+1,hi=>by
    have ih:=jqO h t i (by omega)
    have:=jAZ (z:=t/2^i) (jwi h (i:=i) (by omega))
    rw[jpk]
    omega
theorem joa:jda:=by
  unfold jda q91_0;rintro⟨(_|r),t,⟨⟩⟩ h0 hc ht1 ht2
  · cases h0
  have hc:U.jq (U.jo (U.rd r))=true:=hc;have h8:=(jG hc).2.2.1;have ero:U.ro (some r)=r:=rfl;refine⟨rfl,fun _=>⟨⟨0,⟨⟨rfl,rfl,trivial⟩,trivial⟩,jG2 _⟩,fun x hx=>⟨fun h=> ?_,fun h=> ?_⟩⟩⟩
  · have h:(x:Int)<((U.ji (U.jo (U.rd r))).length:Int):=of_decide_eq_true h;have hs:=jpk (U.ji (U.jo (U.rd r))) t x;have h1:=jqO hc t x (by omega);have h2:=jAZ (z:=t/2^x) (jwi hc (i:=x) (by omega));simp only[jGX,ero];refine⟨by omega,h,by omega,by omega,L.in64 (by show _≤ya (t/2^x) 1*U.fe (nth (U.ji (U.jo (U.rd r))) x);omega) (by show ya (t/2^x) 1*U.fe (nth (U.ji (U.jo (U.rd r))) x)≤_;omega),L.in64 (by show _≤U.jcH _ t x+ya (t/2^x) 1*U.fe (nth (U.ji (U.jo (U.rd r))) x);omega) (by show U.jcH _ t x+ya (t/2^x) 1*U.fe (nth (U.ji (U.jo (U.rd r))) x)≤_;omega),L.in64 (by omega) (by omega),x+1,⟨⟨by simp,hs.symm,trivial⟩,trivial⟩,by omega,by omega⟩
  · have h:¬(x:Int)<((U.ji (U.jo (U.rd r))).length:Int):=of_decide_eq_false h;have hx:x≤(U.ji (U.jo (U.rd r))).length:=hx;rw[show x=(U.ji (U.jo (U.rd r))).length by omega];rfl
theorem jmg:ze PR 68 ga:=zv (jg0.mpr joa) Tryz.func68 (by kernel_rfl) (by kernel_rfl) (by kernel_rfl) (by kernel_rfl) trivial trivial
end Go.X
namespace Go.X
theorem jgA {l:List ShD} {s:ShD}:s∈U.jV l↔s∈l:=by
  have e:U.jV l=U.yt (fun a b=>decide (a=b)) (U.ja (U.jg tSh fun x=>(U.jao x.1 x.2.1,())) l):=by
    unfold U.jV;congr 1
  rw[e,L.comp_mem];exact(zi l).mem_iff
theorem jsY (l:List ShD):(U.jV l).Nodup:=by
  have e:U.jV l=U.yt (fun a b=>decide (a=b)) (U.ja (U.jg tSh fun x=>(U.jao x.1 x.2.1,())) l):=by
    unfold U.jV;congr 1
  rw[e];refine L.asc_nodup (lt:=U.jg tSh fun x=>(U.jao x.1 x.2.1,())) (fun x=> ?_) (L.comp_asc (jBN _) (jaY (jBN l)));exact(jBN [x]).irrefl x (List.mem_singleton.2 rfl)
theorem jDk (l:List ShD):∀i,i≤l.length→∀k,wc 0 (zC .int k (U.wj [] l i))=(((l.take i).countP (fun s=>decide (U.wG s=k)):Nat):Int)
  |0,_,k=>rfl
  |i+1,hi,k=>by
    have ih:=jDk l i (by omega)
    rw[jbo (by omega),L.take_succ (by omega),jIj]
    unfold U.jeI
    by_cases e:k=U.wG (nth l i)
    · rw[e]
      rw[M.mfind_mput (kt:= .int) (U.wG (nth l i)) (wc 0 (zC .int (U.wG (nth l i)) (U.wj [] l i))+1) (U.wj [] l i)]
      show wc 0 (zC .int (U.wG (nth l i)) (U.wj [] l i))+1=_
      rw[ih]
      simp
    · rw[M.mfind_mput_ne (kt:= .int) (k:=U.wG (nth l i)) (k':=k) e (wc 0 (zC .int (U.wG (nth l i)) (U.wj [] l i))+1) (U.wj [] l i),ih]
      have:decide (U.wG (nth l i)=k)=false:=decide_eq_false fun h=>e h.symm
      simp[this]
theorem jwy {l:List ShD} {i:Nat} (h:i<l.length):U.jig [] l i=(l.take i).any (fun s=>decide (U.wG s=U.wG (nth l i))):=by
  unfold U.jig U.jwz;rw[←jbo h,jDk l (i+1) (by omega),L.take_succ h,jIj];rw[jHk,decide_eq_true_eq,jHz];have e1:List.countP (fun s=>decide (U.wG s=U.wG (nth l i))) [nth l i]=1:=(by simp);rw[e1];constructor
  · intro h1;have:0<(l.take i).countP (fun s=>decide (U.wG s=U.wG (nth l i))):=(by omega);rw[List.countP_pos_iff] at this;exact this
  · intro h1;have:0<(l.take i).countP (fun s=>decide (U.wG s=U.wG (nth l i))):=List.countP_pos_iff.2 h1;omega
theorem jEt (l:List ShD):U.jyh l=false↔(l.map U.wG).Nodup:=by
  have h0:U.jyh l=false↔∀i,i<l.length→U.jig [] l i=false:=by
    unfold U.jyh;constructor
    · intro h i hi;cases hc:U.jig [] l i with
      |false=>rfl
      |true=>
        exfalso;have hs:(List.range l.length).findIdx? (U.jig [] l)≠none:=by
          intro hn;rw[List.findIdx?_eq_none_iff] at hn;have:=hn i (jG9.2 hi);rw[hc] at this;cases this
        unfold U.jeg U.jbv at h;cases hf:(List.range l.length).findIdx? (U.jig [] l) with
        |none=>exact hs hf
        |some j=>
          rw[hf] at h;have h:=of_decide_eq_false h;exact h (jHn j)
    · intro h;rw[(jpy h).1];rfl
  rw[h0,List.nodup_iff_pairwise_ne,List.pairwise_map,jHV];constructor
  · intro h i j hi hj hij e;have:=h j hj;rw[jwy hj,jHC] at this;have h1:=this (l[i]) (by rw[jHx];exact⟨i,by omega,rfl⟩);rw[L.nth_lt hj] at h1;simp[e] at h1
  · intro h i hi;rw[jwy hi,jHC];intro s hs;rw[jHx] at hs;obtain⟨j,hj,rfl⟩:=hs;have:=h j i (by omega) hi (by omega);rw[L.nth_lt hi];simpa using this
theorem jAC (l:List ShD):U.jyh (U.jV l)=false↔∀a∈l,∀b∈l,U.wG a=U.wG b→a=b:=by
  rw[jEt];constructor
  · intro h a ha b hb e;exact L.nodup_inj h (jgA.2 ha) (jgA.2 hb) e
  · intro h;rw[List.nodup_iff_pairwise_ne,List.pairwise_map];exact(List.Pairwise.imp_of_mem (fun{a b} ha hb hne e=>hne (h a (jgA.1 ha) b (jgA.1 hb) e)) (jsY l))
theorem jAS (l:List ShD):U.yC l=false↔∀a∈l,∀b∈l,U.wG a=U.wG b→a=b:=by
  have h0:U.yC l=false↔∀i,i<l.length→∀j,j<i→U.jnd (nth l i) (nth l j)=false:=by
    unfold U.yC U.qT U.jkX;rw[jHC];constructor
    · intro h i hi j hj;have:=h i (jG9.2 hi);rw[Bool.not_eq_true,jHC] at this;have:=this (nth l j) (by rw[jHx];exact⟨j,by omega,(L.nth_lt (by omega)).symm⟩);simpa using this
    · intro h i hi;have hi:=jG9.1 hi;rw[Bool.not_eq_true,jHC];intro s hs;rw[jHx] at hs;obtain⟨j,hj,rfl⟩:=hs;have:=h i hi j (by omega);rw[L.nth_lt (l:=l) (i:=j) (by omega)] at this;simpa using this
  rw[h0];have hc:∀a b:ShD,U.jnd a b=false↔(U.wG a=U.wG b→a=b):=by
    intro a b;unfold U.jnd;rw[Bool.and_eq_false_iff];simp only[decide_eq_false_iff_not,jHN,decide_eq_true_eq];constructor
    · rintro(h|h) e
      · exact absurd e h
      · exact h
    · intro h;by_cases e:U.wG a=U.wG b
      · exact .inr (h e)
      · exact .inl e
  constructor
  · intro h a ha b hb e;obtain⟨i,hi,rfl⟩:=L.mem_iff.1 ha;obtain⟨j,hj,rfl⟩:=L.mem_iff.1 hb;rcases Nat.lt_trichotomy i j with hij|rfl|hij
    · exact((hc _ _).1 (h j hj i hij) e.symm).symm
    · rfl
    · exact(hc _ _).1 (h i hi j hij) e
  · intro h i hi j hj;exact(hc _ _).2 (h _ (L.mem_nth hi) _ (L.mem_nth (by omega)))
theorem jAD (l:List ShD):U.jyh (U.jV l)=U.yC l:=by
  have:=(jAC l).trans (jAS l).symm;cases h1:U.jyh (U.jV l) with
  |false=>exact(this.1 h1).symm
  |true=>
    cases h2:U.yC l with
    |false=>rw[this.2 h2] at h1;cases h1
    |true=>rfl
theorem jbr (d:DyD):U.jI d=U.kM d:=by
  unfold U.jI U.jnf U.kM;rw[jAD]
  split
  · rfl
  · split
    · rfl
    · rw[if_neg (by simp)]
end Go.X
namespace Go.X
open Go.Proofs
abbrev tSt:Ty:= .st [.int,.int]
abbrev jF3:Sh:= .box 72 [.dat .int,.dat (.slice tPe),.dat (.slice tLw),.dat (.slice (.slice tSp)),.dat (.slice tBk),.dat .int,.dat .int,.dat (.slice tSh),.row 3 .int .yes,.row 33 (.slice .int) .no,.row 3 .int .unk]
namespace U
def yO:List Int:=[]
def kT (b:jF3.D):RoD:=(((b.1,b.2.1,b.2.2.1,()),b.2.2.2.1,b.2.2.2.2.1,b.2.2.2.2.2.1,b.2.2.2.2.2.2.1,b.2.2.2.2.2.2.2.1,()),b.2.2.2.2.2.2.2.2.1,b.2.2.2.2.2.2.2.2.2.1,b.2.2.2.2.2.2.2.2.2.2.1,())
def jkF (b:jF3.D) (x:List (List Int)×List Int):jF3.D:=(b.1,b.2.1,b.2.2.1,b.2.2.2.1,b.2.2.2.2.1,b.2.2.2.2.2.1,b.2.2.2.2.2.2.1,b.2.2.2.2.2.2.2.1,b.2.2.2.2.2.2.2.2.1,x.1,x.2,())
def ja0 (s:ShD):Int×Int×Unit:=(jcZ s,qD s,())
def zD (l:List ShD) (n:Nat):List ((Int×Int×Unit)×ShD):=(l.take n).foldl (fun m s=>jgi tSt (ja0 s) s m) []
def kK (m:List ((Int×Int×Unit)×ShD)) (s:ShD):Bool:= !(!decide (wc (Ty.dflt tSh) (zC tSt (ja0 s) m)=s)|| !decide (jyN s=1))
def jrw (d:DyD) (jak:List Int) (m:List ((Int×Int×Unit)×ShD)) (x:List (List Int)×List Int) (s:ShD):List (List Int)×List Int:=
  if kK m s=true then(if jvb d jak (qD s) (nth x.1 (qD s).toNat++[jcZ s])=true then(x.1.set (qD s).toNat (nth x.1 (qD s).toNat++[jcZ s]),x.2) else(x.1,x.2++[wG s])) else x
def jGO (l:List ShD):List ShD:=ja (jg tSh fun x=>(ju x.1 x.2.1,())) l
def zM (d:DyD):List ShD:=jGO (jV (jT d))
def kN (r:RoD) (l:List ShD) (n:Nat):List (List Int)×List Int:=(l.take n).foldl (jrw (rd r) (jb5 r) (zD l l.length)) (wP r,jF4 r)
def yh (r:RoD):List (List Int)×List Int:=((kN r (zM (rd r)) (zM (rd r)).length).1,jhh (kN r (zM (rd r)) (zM (rd r)).length).2)
def jD6 (l:List (List Int)):Prop:=∀x∈l,x=yO
def jBS (r:RoD):Prop:=(jI (rd r)=0∧(jb5 r).length=(jv (rd r)).length)∧((wP r).length=(ji (jo (rd r))).length∧jD6 (wP r))∧jF4 r=yO
def gX (r:RoD) (l:List ShD) (n:Nat) (x:List (List Int)×List Int):Prop:=x.1.length=(ji (jo (rd r))).length∧x.2.length≤n∧∀p:Nat,(nth x.1 p).Nodup∧∀b∈nth x.1 p,qo (rd r) b∧∃i:Nat,i<n∧ja0 (nth l i)=(b,(p:Int),())∧wc (Ty.dflt tSh) (zC tSt (ja0 (nth l i)) (zD l l.length))=nth l i
end U
def bx (σ:St) (o:Nat):List SV:=match σ.obj o with|some (.box _ _ cs)=>cs|_=>[]
def gb (t:Ty) (σ:St) (o:Nat):t.Data:=match wB σ t (bx σ o) with|some (x,_)=>x|none=>t.dflt
abbrev jfh:kx:=jyL 3
def vz:kx:=⟨[.own jF3 true],[],fun d=>[U.jBS (U.kT d.1)],fun d=>((),(U.jkF d.1 (U.yh (U.kT d.1)),()))⟩
def jjg:Ann:=fun r=>match r with
  |4=>some fun σ=>{X:=Nat,sl:=fun i=>[(20,.dat .int (i:Int))],ob:=fun i=>[(9,some (.map false tSt tSh (U.zD (gr tSh σ 3) i)))],inv:=fun i=>i≤(gr tSh σ 3).length,mu:=fun i=>(gr tSh σ 3).length-i}
  |9=>some fun σ=>{X:=Nat,sl:=fun i=>[(34,.dat .int (i:Int))],ob:=fun i=>[(400009,some (.row 33 (.slice .int) false .no (U.kN (gb tRo σ 1000000) (gr tSh σ 3) i).1)),(400010,some (.row 3 .int false .unk (U.kN (gb tRo σ 1000000) (gr tSh σ 3) i).2))],inv:=fun i=>i≤(gr tSh σ 3).length∧U.gX (gb tRo σ 1000000) (gr tSh σ 3) i (U.kN (gb tRo σ 1000000) (gr tSh σ 3) i),mu:=fun i=>(gr tSh σ 3).length-i}
  |_=>none
abbrev q92_2 (d:(Int×List PeD×List LwD×List (List (Int×Int×Unit))×List BkD×Int×Int×List ShD×List Int×List (List Int)×List Int×Unit)×Unit):=(U.jV d.1.2.2.2.2.2.2.2.1)
abbrev q92_3 (d:(Int×List PeD×List LwD×List (List (Int×Int×Unit))×List BkD×Int×Int×List ShD×List Int×List (List Int)×List Int×Unit)×Unit):=((d.1.1,d.1.2.1,d.1.2.2.1,()),d.1.2.2.2.1,d.1.2.2.2.2.1,d.1.2.2.2.2.2.1,d.1.2.2.2.2.2.2.1,d.1.2.2.2.2.2.2.2.1,())
abbrev q92_1 (d:(Int×List PeD×List LwD×List (List (Int×Int×Unit))×List BkD×Int×Int×List ShD×List Int×List (List Int)×List Int×Unit)×Unit):=((q92_3 d),d.1.2.2.2.2.2.2.2.2)
abbrev q92_4:=(Ty.int.pair (Ty.int.pair Ty.unit))
abbrev q92_0:=(Ty.int.pair (Ty.int.pair (Ty.int.pair q92_4)))
abbrev q92_5:=((0:Int),(0:Int),(0:Int),(0:Int),(0:Int),())
abbrev q92_6 (x_4:Nat)(x':Nat):=((x_4:Int)+(1:Int)=(x':Int)∧True)
def jaS:Prop:=∀(d:(Int×List PeD×List LwD×List (List (Int×Int×Unit))×List BkD×Int×Int×List ShD×List Int×List (List Int)×List Int×Unit)×Unit),U.jBS (U.kT d.1)→d.1.2.2.2.2.2.2.2.1.length≤100000∧(∀(x:ShD),x∈U.jV d.1.2.2.2.2.2.2.2.1→∀(y:ShD),y∈U.jV d.1.2.2.2.2.2.2.2.1→U.jE [])∧kQ (U.jg q92_0 fun(x:ShD×ShD×Unit)=>(U.ju x.1 x.2.1,())) (q92_2 d)∧((U.ja (U.jg q92_0 fun(x:ShD×ShD×Unit)=>(U.ju x.1 x.2.1,())) (q92_2 d)).length<4611686018427387904→(∃(x:Nat),(((0:Int)=(x:Int)∧True)∧[]=U.zD (U.ja (U.jg q92_0 fun(x:ShD×ShD×Unit)=>(U.ju x.1 x.2.1,())) (q92_2 d)) x∧True)∧x≤(U.ja (U.jg q92_0 fun(x:ShD×ShD×Unit)=>(U.ju x.1 x.2.1,())) (q92_2 d)).length)∧∀(x:Nat),x≤(U.ja (U.jg q92_0 fun(x:ShD×ShD×Unit)=>(U.ju x.1 x.2.1,())) (q92_2 d)).length→(decide ((x:Int)<(↑(U.ja (U.jg q92_0 fun(x:ShD×ShD×Unit)=>(U.ju x.1 x.2.1,())) (q92_2 d)).length:Int))=true→(0:Int)≤(x:Int)∧(x:Int)<(↑(U.ja (U.jg q92_0 fun(x:ShD×ShD×Unit)=>(U.ju x.1 x.2.1,())) (q92_2 d)).length:Int)∧jx ((x:Int)+(1:Int))∧∃(x':Nat),(((x:Int)+(1:Int)=(x':Int)∧True)∧jgi q92_4 (nth (U.ja (U.jg q92_0 fun(x:ShD×ShD×Unit)=>(U.ju x.1 x.2.1,())) (q92_2 d)) (x:Int).toNat).2.2.2 (nth (U.ja (U.jg q92_0 fun(x:ShD×ShD×Unit)=>(U.ju x.1 x.2.1,())) (q92_2 d)) (x:Int).toNat) (U.zD (U.ja (U.jg q92_0 fun(x:ShD×ShD×Unit)=>(U.ju x.1 x.2.1,())) (q92_2 d)) x)=U.zD (U.ja (U.jg q92_0 fun(x:ShD×ShD×Unit)=>(U.ju x.1 x.2.1,())) (q92_2 d)) x'∧True)∧x'≤(U.ja (U.jg q92_0 fun(x:ShD×ShD×Unit)=>(U.ju x.1 x.2.1,())) (q92_2 d)).length∧(U.ja (U.jg q92_0 fun(x:ShD×ShD×Unit)=>(U.ju x.1 x.2.1,())) (q92_2 d)).length-x'<(U.ja (U.jg q92_0 fun(x:ShD×ShD×Unit)=>(U.ju x.1 x.2.1,())) (q92_2 d)).length-x)∧(decide ((x:Int)<(↑(U.ja (U.jg q92_0 fun(x:ShD×ShD×Unit)=>(U.ju x.1 x.2.1,())) (q92_2 d)).length:Int))=false→(U.ja (U.jg q92_0 fun(x:ShD×ShD×Unit)=>(U.ju x.1 x.2.1,())) (q92_2 d)).length<4611686018427387904→(∃(x:Nat),(((0:Int)=(x:Int)∧True)∧d.1.2.2.2.2.2.2.2.2.2.1=(U.kN (q92_1 d) (U.ja (U.jg q92_0 fun(x:ShD×ShD×Unit)=>(U.ju x.1 x.2.1,())) (q92_2 d)) x).1∧d.1.2.2.2.2.2.2.2.2.2.2.1=(U.kN (q92_1 d) (U.ja (U.jg q92_0 fun(x:ShD×ShD×Unit)=>(U.ju x.1 x.2.1,())) (q92_2 d)) x).2∧True)∧x≤(U.ja (U.jg q92_0 fun(x:ShD×ShD×Unit)=>(U.ju x.1 x.2.1,())) (q92_2 d)).length∧U.gX (q92_1 d) (U.ja (U.jg q92_0 fun(x:ShD×ShD×Unit)=>(U.ju x.1 x.2.1,())) (q92_2 d)) x (U.kN (q92_1 d) (U.ja (U.jg q92_0 fun(x:ShD×ShD×Unit)=>(U.ju x.1 x.2.1,())) (q92_2 d)) x))∧∀(x_4:Nat),x_4≤(U.ja (U.jg q92_0 fun(x:ShD×ShD×Unit)=>(U.ju x.1 x.2.1,())) (q92_2 d)).length∧U.gX (q92_1 d) (U.ja (U.jg q92_0 fun(x:ShD×ShD×Unit)=>(U.ju x.1 x.2.1,())) (q92_2 d)) x_4 (U.kN (q92_1 d) (U.ja (U.jg q92_0 fun(x:ShD×ShD×Unit)=>(U.ju x.1 x.2.1,())) (q92_2 d)) x_4)→(decide ((x_4:Int)<(↑(U.ja (U.jg q92_0 fun(x:ShD×ShD×Unit)=>(U.ju x.1 x.2.1,())) (q92_2 d)).length:Int))=true→(0:Int)≤(x_4:Int)∧(x_4:Int)<(↑(U.ja (U.jg q92_0 fun(x:ShD×ShD×Unit)=>(U.ju x.1 x.2.1,())) (q92_2 d)).length:Int)∧((!decide (wc q92_5 (zC q92_4 (nth (U.ja (U.jg q92_0 fun(x:ShD×ShD×Unit)=>(U.ju x.1 x.2.1,())) (q92_2 d)) (x_4:Int).toNat).2.2.2 (U.zD (U.ja (U.jg q92_0 fun(x:ShD×ShD×Unit)=>(U.ju x.1 x.2.1,())) (q92_2 d)) x))=nth (U.ja (U.jg q92_0 fun(x:ShD×ShD×Unit)=>(U.ju x.1 x.2.1,())) (q92_2 d)) (x_4:Int).toNat)||decide ((nth (U.ja (U.jg q92_0 fun(x:ShD×ShD×Unit)=>(U.ju x.1 x.2.1,())) (q92_2 d)) (x_4:Int).toNat).2.2.1≠(1:Int)))=true→jx ((x_4:Int)+(1:Int))∧∃(x':Nat),((q92_6 x_4 x')∧(U.kN (q92_1 d) (U.ja (U.jg q92_0 fun(x:ShD×ShD×Unit)=>(U.ju x.1 x.2.1,())) (q92_2 d)) x_4).2=(U.kN (q92_1 d) (U.ja (U.jg q92_0 fun(x:ShD×ShD×Unit)=>(U.ju x.1 x.2.1,())) (q92_2 d)) x').2∧(U.kN (q92_1 d) (U.ja (U.jg q92_0 fun(x:ShD×ShD×Unit)=>(U.ju x.1 x.2.1,())) (q92_2 d)) x_4).1=(U.kN (q92_1 d) (U.ja (U.jg q92_0 fun(x:ShD×ShD×Unit)=>(U.ju x.1 x.2.1,())) (q92_2 d)) x').1∧True)∧(x'≤(U.ja (U.jg q92_0 fun(x:ShD×ShD×Unit)=>(U.ju x.1 x.2.1,())) (q92_2 d)).length∧U.gX (q92_1 d) (U.ja (U.jg q92_0 fun(x:ShD×ShD×Unit)=>(U.ju x.1 x.2.1,())) (q92_2 d)) x' (U.kN (q92_1 d) (U.ja (U.jg q92_0 fun(x:ShD×ShD×Unit)=>(U.ju x.1 x.2.1,())) (q92_2 d)) x'))∧(U.ja (U.jg q92_0 fun(x:ShD×ShD×Unit)=>(U.ju x.1 x.2.1,())) (q92_2 d)).length-x'<(U.ja (U.jg q92_0 fun(x:ShD×ShD×Unit)=>(U.ju x.1 x.2.1,())) (q92_2 d)).length-x_4)∧((!decide (wc q92_5 (zC q92_4 (nth (U.ja (U.jg q92_0 fun(x:ShD×ShD×Unit)=>(U.ju x.1 x.2.1,())) (q92_2 d)) (x_4:Int).toNat).2.2.2 (U.zD (U.ja (U.jg q92_0 fun(x:ShD×ShD×Unit)=>(U.ju x.1 x.2.1,())) (q92_2 d)) x))=nth (U.ja (U.jg q92_0 fun(x:ShD×ShD×Unit)=>(U.ju x.1 x.2.1,())) (q92_2 d)) (x_4:Int).toNat)||decide ((nth (U.ja (U.jg q92_0 fun(x:ShD×ShD×Unit)=>(U.ju x.1 x.2.1,())) (q92_2 d)) (x_4:Int).toNat).2.2.1≠(1:Int)))=false→(0:Int)≤(nth (U.ja (U.jg q92_0 fun(x:ShD×ShD×Unit)=>(U.ju x.1 x.2.1,())) (q92_2 d)) (x_4:Int).toNat).2.2.2.2.1∧(nth (U.ja (U.jg q92_0 fun(x:ShD×ShD×Unit)=>(U.ju x.1 x.2.1,())) (q92_2 d)) (x_4:Int).toNat).2.2.2.2.1<(↑(U.kN (q92_1 d) (U.ja (U.jg q92_0 fun(x:ShD×ShD×Unit)=>(U.ju x.1 x.2.1,())) (q92_2 d)) x_4).1.length:Int)∧(0:Int)≤(nth (U.ja (U.jg q92_0 fun(x:ShD×ShD×Unit)=>(U.ju x.1 x.2.1,())) (q92_2 d)) (x_4:Int).toNat).2.2.2.2.1∧(nth (U.ja (U.jg q92_0 fun(x:ShD×ShD×Unit)=>(U.ju x.1 x.2.1,())) (q92_2 d)) (x_4:Int).toNat).2.2.2.2.1<(↑(U.kN (q92_1 d) (U.ja (U.jg q92_0 fun(x:ShD×ShD×Unit)=>(U.ju x.1 x.2.1,())) (q92_2 d)) x_4).1.length:Int)∧(0:Int)≤(nth (U.ja (U.jg q92_0 fun(x:ShD×ShD×Unit)=>(U.ju x.1 x.2.1,())) (q92_2 d)) (x_4:Int).toNat).2.2.2.2.1∧(nth (U.ja (U.jg q92_0 fun(x:ShD×ShD×Unit)=>(U.ju x.1 x.2.1,())) (q92_2 d)) (x_4:Int).toNat).2.2.2.2.1<(↑(U.kN (q92_1 d) (U.ja (U.jg q92_0 fun(x:ShD×ShD×Unit)=>(U.ju x.1 x.2.1,())) (q92_2 d)) x_4).1.length:Int)∧(↑(nth (U.kN (q92_1 d) (U.ja (U.jg q92_0 fun(x:ShD×ShD×Unit)=>(U.ju x.1 x.2.1,())) (q92_2 d)) x_4).1 (nth (U.ja (U.jg q92_0 fun(x:ShD×ShD×Unit)=>(U.ju x.1 x.2.1,())) (q92_2 d)) (x_4:Int).toNat).2.2.2.2.1.toNat).length:Int)=(↑(nth (U.kN (q92_1 d) (U.ja (U.jg q92_0 fun(x:ShD×ShD×Unit)=>(U.ju x.1 x.2.1,())) (q92_2 d)) x_4).1 (nth (U.ja (U.jg q92_0 fun(x:ShD×ShD×Unit)=>(U.ju x.1 x.2.1,())) (q92_2 d)) (x_4:Int).toNat).2.2.2.2.1.toNat).length:Int)∧(↑(nth (U.kN (q92_1 d) (U.ja (U.jg q92_0 fun(x:ShD×ShD×Unit)=>(U.ju x.1 x.2.1,())) (q92_2 d)) x_4).1 (nth (U.ja (U.jg q92_0 fun(x:ShD×ShD×Unit)=>(U.ju x.1 x.2.1,())) (q92_2 d)) (x_4:Int).toNat).2.2.2.2.1.toNat).length:Int)=(↑(nth (U.kN (q92_1 d) (U.ja (U.jg q92_0 fun(x:ShD×ShD×Unit)=>(U.ju x.1 x.2.1,())) (q92_2 d)) x_4).1 (nth (U.ja (U.jg q92_0 fun(x:ShD×ShD×Unit)=>(U.ju x.1 x.2.1,())) (q92_2 d)) (x_4:Int).toNat).2.2.2.2.1.toNat).length:Int)∧((nth (U.kN (q92_1 d) (U.ja (U.jg q92_0 fun(x:ShD×ShD×Unit)=>(U.ju x.1 x.2.1,())) (q92_2 d)) x_4).1 (nth (U.ja (U.jg q92_0 fun(x:ShD×ShD×Unit)=>(U.ju x.1 x.2.1,())) (q92_2 d)) (x_4:Int).toNat).2.2.2.2.1.toNat).length+[(nth (U.ja (U.jg q92_0 fun(x:ShD×ShD×Unit)=>(U.ju x.1 x.2.1,())) (q92_2 d)) (x_4:Int).toNat).2.2.2.1].length)*8≤140737488355328∧(some ((q92_3 d),d.1.2.2.2.2.2.2.2.2.1,(U.kN (q92_1 d) (U.ja (U.jg q92_0 fun(x:ShD×ShD×Unit)=>(U.ju x.1 x.2.1,())) (q92_2 d)) x_4).1,(U.kN (q92_1 d) (U.ja (U.jg q92_0 fun(x:ShD×ShD×Unit)=>(U.ju x.1 x.2.1,())) (q92_2 d)) x_4).2,())).isSome=true∧U.jsi (U.ro (some ((q92_3 d),d.1.2.2.2.2.2.2.2.2.1,(U.kN (q92_1 d) (U.ja (U.jg q92_0 fun(x:ShD×ShD×Unit)=>(U.ju x.1 x.2.1,())) (q92_2 d)) x_4).1,(U.kN (q92_1 d) (U.ja (U.jg q92_0 fun(x:ShD×ShD×Unit)=>(U.ju x.1 x.2.1,())) (q92_2 d)) x_4).2,())))∧U.jsh (U.rd (U.ro (some ((q92_3 d),d.1.2.2.2.2.2.2.2.2.1,(U.kN (q92_1 d) (U.ja (U.jg q92_0 fun(x:ShD×ShD×Unit)=>(U.ju x.1 x.2.1,())) (q92_2 d)) x_4).1,(U.kN (q92_1 d) (U.ja (U.jg q92_0 fun(x:ShD×ShD×Unit)=>(U.ju x.1 x.2.1,())) (q92_2 d)) x_4).2,())))) (nth (U.ja (U.jg q92_0 fun(x:ShD×ShD×Unit)=>(U.ju x.1 x.2.1,())) (q92_2 d)) (x_4:Int).toNat).2.2.2.2.1∧U.jkv (U.rd (U.ro (some ((q92_3 d),d.1.2.2.2.2.2.2.2.2.1,(U.kN (q92_1 d) (U.ja (U.jg q92_0 fun(x:ShD×ShD×Unit)=>(U.ju x.1 x.2.1,())) (q92_2 d)) x_4).1,(U.kN (q92_1 d) (U.ja (U.jg q92_0 fun(x:ShD×ShD×Unit)=>(U.ju x.1 x.2.1,())) (q92_2 d)) x_4).2,())))) (nth (U.kN (q92_1 d) (U.ja (U.jg q92_0 fun(x:ShD×ShD×Unit)=>(U.ju x.1 x.2.1,())) (q92_2 d)) x_4).1 (nth (U.ja (U.jg q92_0 fun(x:ShD×ShD×Unit)=>(U.ju x.1 x.2.1,())) (q92_2 d)) (x_4:Int).toNat).2.2.2.2.1.toNat++[(nth (U.ja (U.jg q92_0 fun(x:ShD×ShD×Unit)=>(U.ju x.1 x.2.1,())) (q92_2 d)) (x_4:Int).toNat).2.2.2.1])∧(U.jkE (U.ro (some ((q92_3 d),d.1.2.2.2.2.2.2.2.2.1,(U.kN (q92_1 d) (U.ja (U.jg q92_0 fun(x:ShD×ShD×Unit)=>(U.ju x.1 x.2.1,())) (q92_2 d)) x_4).1,(U.kN (q92_1 d) (U.ja (U.jg q92_0 fun(x:ShD×ShD×Unit)=>(U.ju x.1 x.2.1,())) (q92_2 d)) x_4).2,()))) (nth (U.ja (U.jg q92_0 fun(x:ShD×ShD×Unit)=>(U.ju x.1 x.2.1,())) (q92_2 d)) (x_4:Int).toNat).2.2.2.2.1 (nth (U.kN (q92_1 d) (U.ja (U.jg q92_0 fun(x:ShD×ShD×Unit)=>(U.ju x.1 x.2.1,())) (q92_2 d)) x_4).1 (nth (U.ja (U.jg q92_0 fun(x:ShD×ShD×Unit)=>(U.ju x.1 x.2.1,())) (q92_2 d)) (x_4:Int).toNat).2.2.2.2.1.toNat++[(nth (U.ja (U.jg q92_0 fun(x:ShD×ShD×Unit)=>(U.ju x.1 x.2.1,())) (q92_2 d)) (x_4:Int).toNat).2.2.2.1])=true→(0:Int)≤(nth (U.ja (U.jg q92_0 fun(x:ShD×ShD×Unit)=>(U.ju x.1 x.2.1,())) (q92_2 d)) (x_4:Int).toNat).2.2.2.2.1∧(nth (U.ja (U.jg q92_0 fun(x:ShD×ShD×Unit)=>(U.ju x.1 x.2.1,())) (q92_2 d)) (x_4:Int).toNat).2.2.2.2.1<(↑(U.kN (q92_1 d) (U.ja (U.jg q92_0 fun(x:ShD×ShD×Unit)=>(U.ju x.1 x.2.1,())) (q92_2 d)) x_4).1.length:Int)∧jx ((x_4:Int)+(1:Int))∧∃(x':Nat),((q92_6 x_4 x')∧(U.kN (q92_1 d) (U.ja (U.jg q92_0 fun(x:ShD×ShD×Unit)=>(U.ju x.1 x.2.1,())) (q92_2 d)) x_4).2=(U.kN (q92_1 d) (U.ja (U.jg q92_0 fun(x:ShD×ShD×Unit)=>(U.ju x.1 x.2.1,())) (q92_2 d)) x').2∧(U.kN (q92_1 d) (U.ja (U.jg q92_0 fun(x:ShD×ShD×Unit)=>(U.ju x.1 x.2.1,())) (q92_2 d)) x_4).1.set (nth (U.ja (U.jg q92_0 fun(x:ShD×ShD×Unit)=>(U.ju x.1 x.2.1,())) (q92_2 d)) (x_4:Int).toNat).2.2.2.2.1.toNat (nth (U.kN (q92_1 d) (U.ja (U.jg q92_0 fun(x:ShD×ShD×Unit)=>(U.ju x.1 x.2.1,())) (q92_2 d)) x_4).1 (nth (U.ja (U.jg q92_0 fun(x:ShD×ShD×Unit)=>(U.ju x.1 x.2.1,())) (q92_2 d)) (x_4:Int).toNat).2.2.2.2.1.toNat++[(nth (U.ja (U.jg q92_0 fun(x:ShD×ShD×Unit)=>(U.ju x.1 x.2.1,())) (q92_2 d)) (x_4:Int).toNat).2.2.2.1])=(U.kN (q92_1 d) (U.ja (U.jg q92_0 fun(x:ShD×ShD×Unit)=>(U.ju x.1 x.2.1,())) (q92_2 d)) x').1∧True)∧(x'≤(U.ja (U.jg q92_0 fun(x:ShD×ShD×Unit)=>(U.ju x.1 x.2.1,())) (q92_2 d)).length∧U.gX (q92_1 d) (U.ja (U.jg q92_0 fun(x:ShD×ShD×Unit)=>(U.ju x.1 x.2.1,())) (q92_2 d)) x' (U.kN (q92_1 d) (U.ja (U.jg q92_0 fun(x:ShD×ShD×Unit)=>(U.ju x.1 x.2.1,())) (q92_2 d)) x'))∧(U.ja (U.jg q92_0 fun(x:ShD×ShD×Unit)=>(U.ju x.1 x.2.1,())) (q92_2 d)).length-x'<(U.ja (U.jg q92_0 fun(x:ShD×ShD×Unit)=>(U.ju x.1 x.2.1,())) (q92_2 d)).length-x_4)∧(U.jkE (U.ro (some ((q92_3 d),d.1.2.2.2.2.2.2.2.2.1,(U.kN (q92_1 d) (U.ja (U.jg q92_0 fun(x:ShD×ShD×Unit)=>(U.ju x.1 x.2.1,())) (q92_2 d)) x_4).1,(U.kN (q92_1 d) (U.ja (U.jg q92_0 fun(x:ShD×ShD×Unit)=>(U.ju x.1 x.2.1,())) (q92_2 d)) x_4).2,()))) (nth (U.ja (U.jg q92_0 fun(x:ShD×ShD×Unit)=>(U.ju x.1 x.2.1,())) (q92_2 d)) (x_4:Int).toNat).2.2.2.2.1 (nth (U.kN (q92_1 d) (U.ja (U.jg q92_0 fun(x:ShD×ShD×Unit)=>(U.ju x.1 x.2.1,())) (q92_2 d)) x_4).1 (nth (U.ja (U.jg q92_0 fun(x:ShD×ShD×Unit)=>(U.ju x.1 x.2.1,())) (q92_2 d)) (x_4:Int).toNat).2.2.2.2.1.toNat++[(nth (U.ja (U.jg q92_0 fun(x:ShD×ShD×Unit)=>(U.ju x.1 x.2.1,())) (q92_2 d)) (x_4:Int).toNat).2.2.2.1])=false→((U.kN (q92_1 d) (U.ja (U.jg q92_0 fun(x:ShD×ShD×Unit)=>(U.ju x.1 x.2.1,())) (q92_2 d)) x_4).2.length+[(nth (U.ja (U.jg q92_0 fun(x:ShD×ShD×Unit)=>(U.ju x.1 x.2.1,())) (q92_2 d)) (x_4:Int).toNat).1].length)*8≤140737488355328∧jx ((x_4:Int)+(1:Int))∧∃(x':Nat),((q92_6 x_4 x')∧(U.kN (q92_1 d) (U.ja (U.jg q92_0 fun(x:ShD×ShD×Unit)=>(U.ju x.1 x.2.1,())) (q92_2 d)) x_4).1=(U.kN (q92_1 d) (U.ja (U.jg q92_0 fun(x:ShD×ShD×Unit)=>(U.ju x.1 x.2.1,())) (q92_2 d)) x').1∧(d.1.1=d.1.1∧d.1.2.1=d.1.2.1∧d.1.2.2.1=d.1.2.2.1∧d.1.2.2.2.1=d.1.2.2.2.1∧d.1.2.2.2.2.1=d.1.2.2.2.2.1∧d.1.2.2.2.2.2.1=d.1.2.2.2.2.2.1∧d.1.2.2.2.2.2.2.1=d.1.2.2.2.2.2.2.1∧d.1.2.2.2.2.2.2.2.1=d.1.2.2.2.2.2.2.2.1∧True∧True∧True∧True)∧(U.kN (q92_1 d) (U.ja (U.jg q92_0 fun(x:ShD×ShD×Unit)=>(U.ju x.1 x.2.1,())) (q92_2 d)) x_4).2++[(nth (U.ja (U.jg q92_0 fun(x:ShD×ShD×Unit)=>(U.ju x.1 x.2.1,())) (q92_2 d)) (x_4:Int).toNat).1]=(U.kN (q92_1 d) (U.ja (U.jg q92_0 fun(x:ShD×ShD×Unit)=>(U.ju x.1 x.2.1,())) (q92_2 d)) x').2∧True)∧(x'≤(U.ja (U.jg q92_0 fun(x:ShD×ShD×Unit)=>(U.ju x.1 x.2.1,())) (q92_2 d)).length∧U.gX (q92_1 d) (U.ja (U.jg q92_0 fun(x:ShD×ShD×Unit)=>(U.ju x.1 x.2.1,())) (q92_2 d)) x' (U.kN (q92_1 d) (U.ja (U.jg q92_0 fun(x:ShD×ShD×Unit)=>(U.ju x.1 x.2.1,())) (q92_2 d)) x'))∧(U.ja (U.jg q92_0 fun(x:ShD×ShD×Unit)=>(U.ju x.1 x.2.1,())) (q92_2 d)).length-x'<(U.ja (U.jg q92_0 fun(x:ShD×ShD×Unit)=>(U.ju x.1 x.2.1,())) (q92_2 d)).length-x_4)))∧(decide ((x_4:Int)<(↑(U.ja (U.jg q92_0 fun(x:ShD×ShD×Unit)=>(U.ju x.1 x.2.1,())) (q92_2 d)).length:Int))=false→()=()∧((d.1.1,d.1.2.1,d.1.2.2.1,d.1.2.2.2.1,d.1.2.2.2.2.1,d.1.2.2.2.2.2.1,d.1.2.2.2.2.2.2.1,d.1.2.2.2.2.2.2.2.1,d.1.2.2.2.2.2.2.2.2.1,(U.kN (q92_1 d) (U.ja (U.jg q92_0 fun(x:ShD×ShD×Unit)=>(U.ju x.1 x.2.1,())) (q92_2 d)) x_4).1,U.jhh (U.kN (q92_1 d) (U.ja (U.jg q92_0 fun(x:ShD×ShD×Unit)=>(U.ju x.1 x.2.1,())) (q92_2 d)) x_4).2,()),())=(U.jkF d.1 (U.yh (U.kT d.1)),()))))
theorem jeR:jcR (ctx 113 [(119,jfP),(83,qJ)] [(48,yF),(98,w4),(120,jfh)]) (jjg) Tryz.f80 (jd Tryz.f80) vz=jaS:=by kernel_rfl
end Go.X
namespace Go.X
open Go.Proofs
theorem wn {d:DyD} (h:U.jI d=0):U.jn5 d∧∀a∈U.jT d,∀b∈U.jT d,U.wG a=U.wG b→a=b:=by
  unfold U.jI U.jnf at h;cases h1:U.jq (U.jo d) with
  |false=>rw[h1] at h;simp at h
  |true=>
    cases h2:U.jxi d with
    |false=>rw[h1,h2] at h;simp at h
    |true=>
      cases h3:U.kg d with
      |false=>rw[h1,h2,h3] at h;simp at h
      |true=>
        cases h4:U.jyh (U.jV (U.jT d)) with
        |true=>rw[h1,h2,h3,h4] at h;simp at h
        |false=>exact⟨⟨h1,h2,h3⟩,(jAC _).1 h4⟩
theorem jEC:jcX U.ju:=by
  have e:U.ju=jBk (fun a b=>U.jbq (U.jnv a) (U.jnv b)) (fun a b=>U.jbq (U.wG a) (U.wG b)):=by
    funext a b;unfold U.ju;rw[zo,wK];rfl
  rw[e];exact jiV (jjL jh7 U.jnv) (jjL jh7 U.wG)
theorem jAR {a b:ShD} (h:U.ju a b=0):U.wG a=U.wG b:=by
  unfold U.ju at h;rw[zo,wK] at h
  split at h
  · contradiction
  · exact yH.1 h
theorem jGz {d:DyD} (h:U.jI d=0):kQ (U.jg tSh fun x=>(U.ju x.1 x.2.1,())) (U.jV (U.jT d)):=
  jqa jEC (fun a b ha hb h0=>(wn h).2 a (jgA.1 ha) b (jgA.1 hb) (jAR h0))
theorem jbQ {d:DyD} {s:ShD}:s∈U.zM d↔s∈U.jT d:=((zi _).mem_iff).trans jgA
theorem jaZ (d:DyD):(U.zM d).Nodup:=(zi _).nodup_iff.2 (jsY _)
theorem jDN (d:DyD):(U.zM d).length≤(U.jT d).length:=by
  unfold U.zM U.jGO;rw[(zi _).length_eq];exact jAJ _
theorem jeo {d:DyD} (h:U.kg d=true) {s:ShD} (hs:s∈U.jT d):(0≤U.qD s∧U.qD s<((U.ji (U.jo d)).length:Int))∧U.qo d (U.jcZ s):=by
  have:=(zm h).2.2.2.2.2.2.2 _ hs;unfold U.jdN at this;have:=of_decide_eq_true this;unfold U.qo;omega
theorem jmz {l:List ShD} {i:Nat} (h:i<l.length):U.zD l (i+1)=jgi tSt (U.ja0 (nth l i)) (nth l i) (U.zD l i):=by
  unfold U.zD;rw[L.take_succ h,jHp];rfl
theorem jhf {r:RoD} {l:List ShD} {i:Nat} (h:i<l.length):U.kN r l (i+1)=U.jrw (U.rd r) (U.jb5 r) (U.zD l l.length) (U.kN r l i) (nth l i):=by
  unfold U.kN;rw[L.take_succ h,jHp];rfl
theorem jGf {d:DyD} {l:List Int} (hn:l.Nodup) (hb:∀b∈l,U.qo d b):l.length≤(U.jv d).length:=by
  have:=L.nodup_len l ((List.range (U.jv d).length).map (fun(b:Nat)=>(b:Int))) hn (fun x hx=>by
    have:=hb x hx;unfold U.qo at this;exact jHs.2 ⟨x.toNat,jG9.2 (by omega),by omega⟩)
  simpa using this
section
variable {r:RoD} {l:List ShD} {i:Nat}
theorem jyF (hd:U.kg (U.rd r)=true) (hl:∀s∈l,s∈U.jT (U.rd r)) (nd:l.Nodup) (h:i<l.length) {x:List (List Int)×List Int} (hx:U.gX (U.rd r,U.jb5 r,U.wP r,U.jF4 r,()) l i x)
    (hc:U.kK (U.zD l l.length) (nth l i)=true):(nth x.1 (U.qD (nth l i)).toNat++[U.jcZ (nth l i)]).Nodup∧(∀b∈nth x.1 (U.qD (nth l i)).toNat++[U.jcZ (nth l i)],U.qo (U.rd r) b)∧
      ∀b∈nth x.1 (U.qD (nth l i)).toNat++[U.jcZ (nth l i)],∃j:Nat,j<i+1∧U.ja0 (nth l j)=(b,((U.qD (nth l i)).toNat:Int),())∧wc (Ty.dflt tSh) (zC tSt (U.ja0 (nth l j)) (U.zD l l.length))=nth l j:=by
  obtain⟨h1,h2,h3⟩:=hx;have hs:=jeo hd (hl _ (L.mem_nth h));have hlast:wc (Ty.dflt tSh) (zC tSt (U.ja0 (nth l i)) (U.zD l l.length))=nth l i:=by
    unfold U.kK at hc;simp only[jHt,jHl,jHN,decide_eq_true_eq] at hc;exact hc.1
  have hp:((U.qD (nth l i)).toNat:Int)=U.qD (nth l i):=(by omega);obtain⟨k1,k2⟩:=h3 (U.qD (nth l i)).toNat;refine⟨?_,fun b hb=> ?_,fun b hb=> ?_⟩
  · refine jHW.2 ⟨k1,by simp,fun a ha b hb e=> ?_⟩;simp at hb;subst hb;subst e;obtain⟨_,j,hj,e1,e2⟩:=k2 _ ha;rw[hp] at e1;have e3:U.ja0 (nth l j)=U.ja0 (nth l i):=e1;rw[e3,hlast] at e2;have:=(List.nodup_iff_pairwise_ne.1 nd);rw[jHV] at this;refine this j i (by omega) h hj ?_;rw[←L.nth_lt,←L.nth_lt h];exact e2.symm
  · rcases jG1.1 hb with hb|hb
    · exact(k2 b hb).1
    · simp at hb;subst hb;exact hs.2
  · rcases jG1.1 hb with hb|hb
    · obtain⟨_,j,hj,e1,e2⟩:=k2 b hb;exact⟨j,by omega,e1,e2⟩
    · simp at hb;subst hb;exact⟨i,by omega,by rw[hp];rfl,hlast⟩
theorem jz5 {r:RoD} {x:List (List Int)×List Int} (hx:U.gX r l i x):U.gX r l (i+1) x:=
  ⟨hx.1,by have:=hx.2.1;omega,fun p=>⟨(hx.2.2 p).1,fun b hb=>⟨((hx.2.2 p).2 b hb).1,by
    obtain⟨j,hj,e⟩:=((hx.2.2 p).2 b hb).2
    exact⟨j,by omega,e⟩⟩⟩⟩
theorem jCW (hd:U.kg (U.rd r)=true) (hl:∀s∈l,s∈U.jT (U.rd r)) (nd:l.Nodup) (h:i<l.length) {x:List (List Int)×List Int} (hx:U.gX r l i x):
    U.gX r l (i+1) (U.jrw (U.rd r) (U.jb5 r) (U.zD l l.length) x (nth l i)):=by
  unfold U.jrw;cases hc:U.kK (U.zD l l.length) (nth l i) with
  |false=>rw[if_neg (by simp)];exact jz5 hx
  |true=>
    rw[if_pos rfl];have hn:=jyF hd hl nd h hx hc;have hs:=jeo hd (hl _ (L.mem_nth h))
    split
    · refine⟨by show(x.1.set _ _).length=_;rw[jIe];exact hx.1,by have:=hx.2.1;show x.2.length≤_;omega,fun p=> ?_⟩;have hlt:(U.qD (nth l i)).toNat<x.1.length:=(by rw[hx.1];omega);show(nth (x.1.set (U.qD (nth l i)).toNat (nth x.1 (U.qD (nth l i)).toNat++[U.jcZ (nth l i)])) p).Nodup∧_;rw[L.nth_set hlt]
      split
      · rename_i e;subst e;exact⟨hn.1,fun b hb=>⟨hn.2.1 b hb,hn.2.2 b hb⟩⟩
      · exact(jz5 hx).2.2 p
    · refine⟨hx.1,?_,(jz5 hx).2.2⟩;have:=hx.2.1;show(x.2++[U.wG (nth l i)]).length≤_;rw[jHa];simp;omega
end
theorem jv4 {l:List (List Int)} (h:U.jD6 l) (p:Nat):nth l p=[]:=by
  by_cases hp:p<l.length
  · exact h _ (L.mem_nth hp)
  · unfold nth;rw[jHq,List.getElem?_eq_none (by omega)];rfl
theorem jyE {r:RoD} {l:List ShD} (h1:(U.wP r).length=(U.ji (U.jo (U.rd r))).length) (h2:U.jD6 (U.wP r)) (h3:U.jF4 r=U.yO):U.gX r l 0 (U.kN r l 0):=by
  refine⟨h1,?_,fun p=> ?_⟩
  · show(U.jF4 r).length≤0;rw[h3];exact jGU 0
  · have e:nth (U.kN r l 0).1 p=[]:=jv4 h2 p;rw[e];exact⟨List.nodup_nil,fun b hb=>by cases hb⟩
theorem jFN (m:List ((Int×Int×Unit)×ShD)) (s:ShD):U.kK m s= !(!decide (wc (Ty.dflt tSh) (zC tSt (U.ja0 s) m)=s)||decide (U.jyN s≠1)):=by
  unfold U.kK;by_cases h:U.jyN s=1<;>simp[h]
section
variable {r:RoD} {l:List ShD} {i:Nat}
theorem jvB (h:i<l.length) (hc:U.kK (U.zD l l.length) (nth l i)=false):U.kN r l (i+1)=U.kN r l i:=by
  rw[jhf h];unfold U.jrw;rw[hc,if_neg (by simp)]
theorem jyG (h:i<l.length) (hc:U.kK (U.zD l l.length) (nth l i)=true) (hy:U.jvb (U.rd r) (U.jb5 r) (U.qD (nth l i)) (nth (U.kN r l i).1 (U.qD (nth l i)).toNat++[U.jcZ (nth l i)])=true):
    U.kN r l (i+1)=((U.kN r l i).1.set (U.qD (nth l i)).toNat (nth (U.kN r l i).1 (U.qD (nth l i)).toNat++[U.jcZ (nth l i)]),(U.kN r l i).2):=by
  rw[jhf h];unfold U.jrw;rw[hc,if_pos rfl,if_pos hy]
theorem jCX (h:i<l.length) (hc:U.kK (U.zD l l.length) (nth l i)=true) (hy:U.jvb (U.rd r) (U.jb5 r) (U.qD (nth l i)) (nth (U.kN r l i).1 (U.qD (nth l i)).toNat++[U.jcZ (nth l i)])=false):
    U.kN r l (i+1)=((U.kN r l i).1,(U.kN r l i).2++[U.wG (nth l i)]):=by
  rw[jhf h];unfold U.jrw;rw[hc,if_pos rfl,hy,if_neg (by simp)]
end
theorem jkA:jaS:=by
  unfold jaS q92_6 q92_5 q92_0 q92_4 q92_1 q92_3 q92_2;rintro⟨b,⟨⟩⟩ h0;obtain⟨⟨hk,hm⟩,⟨ho,hni⟩,hrf⟩:U.jBS (U.kT b):=h0;have hD:=(wn hk).1;have hd:=hD.2.2;have hln:(U.jT (U.rd (U.kT b))).length≤30:=(zm hd).2.2.2.2.1;have hln':b.2.2.2.2.2.2.2.1.length≤30:=hln;have hll:(U.zM (U.rd (U.kT b))).length≤30:=jG5 (jDN _) hln;have hmem:∀s∈U.zM (U.rd (U.kT b)),s∈U.jT (U.rd (U.kT b)):=fun s hs=>jbQ.1 hs
  have hnd:=jaZ (U.rd (U.kT b));have hb4:(U.jv (U.rd (U.kT b))).length≤4:=(zm hd).1;refine⟨by show b.2.2.2.2.2.2.2.1.length≤100000;omega,fun _ _ _ _=>trivial,jGz hk,fun _=>⟨⟨0,⟨⟨rfl,trivial⟩,rfl,trivial⟩,jG2 _⟩,fun x hx=>⟨fun h=> ?_,fun h _=>⟨⟨0,⟨⟨rfl,trivial⟩,rfl,rfl,trivial⟩,jG2 _,jyE (r:=U.kT b) ho hni hrf⟩,fun y hy=>⟨fun h2=> ?_,fun h2=> ?_⟩⟩⟩⟩⟩
  · have h:(x:Int)<((U.zM (U.rd (U.kT b))).length:Int):=of_decide_eq_true h;have hs:=jmz (l:=U.zM (U.rd (U.kT b))) (i:=x) (by omega);exact⟨by omega,h,L.in64 (by omega) (by omega),x+1,⟨⟨by simp,trivial⟩,hs.symm,trivial⟩,by show x+1≤(U.zM (U.rd (U.kT b))).length;omega,by show(U.zM (U.rd (U.kT b))).length-(x+1)<(U.zM (U.rd (U.kT b))).length-x;omega⟩
  · have hx:x≤(U.zM (U.rd (U.kT b))).length:=hx;have h:¬(x:Int)<((U.zM (U.rd (U.kT b))).length:Int):=of_decide_eq_false h;have hxl:x=(U.zM (U.rd (U.kT b))).length:=(by omega);have h2:(y:Int)<((U.zM (U.rd (U.kT b))).length:Int):=of_decide_eq_true h2;have hyl:y<(U.zM (U.rd (U.kT b))).length:=(by omega);obtain⟨_,hinv⟩:y≤(U.zM (U.rd (U.kT b))).length∧U.gX (U.kT b) (U.zM (U.rd (U.kT b))) y (U.kN (U.kT b) (U.zM (U.rd (U.kT b))) y):=hy;have hnext:=jCW (r:=U.kT b) hd hmem hnd hyl hinv;rw[←jhf hyl] at hnext;have up:y+1≤(U.zM (U.rd (U.kT b))).length:=hyl;have dn:(U.zM (U.rd (U.kT b))).length-(y+1)<(U.zM (U.rd (U.kT b))).length-y:=(by omega);have hsf:=jeo hd (hmem _ (L.mem_nth hyl));have hdec:=jFN (U.zD (U.zM (U.rd (U.kT b))) (U.zM (U.rd (U.kT b))).length) (nth (U.zM (U.rd (U.kT b))) y);subst hxl;refine⟨by omega,h2,fun hc=> ?_,fun hc=> ?_⟩
    · have hc':U.kK (U.zD (U.zM (U.rd (U.kT b))) (U.zM (U.rd (U.kT b))).length) (nth (U.zM (U.rd (U.kT b))) y)=false:=by
        rw[hdec];have hc:(!decide (wc (Ty.dflt tSh) (zC tSt (U.ja0 (nth (U.zM (U.rd (U.kT b))) y)) (U.zD (U.zM (U.rd (U.kT b))) (U.zM (U.rd (U.kT b))).length))=nth (U.zM (U.rd (U.kT b))) y)||decide (U.jyN (nth (U.zM (U.rd (U.kT b))) y)≠1))=true:=hc;rw[hc];rfl
      have hst:=jvB (r:=U.kT b) hyl hc';exact⟨L.in64 (by omega) (by omega),y+1,⟨⟨by simp,trivial⟩,congrArg (·.2) hst.symm,congrArg (·.1) hst.symm,trivial⟩,⟨up,hnext⟩,dn⟩
    · have hc':U.kK (U.zD (U.zM (U.rd (U.kT b))) (U.zM (U.rd (U.kT b))).length) (nth (U.zM (U.rd (U.kT b))) y)=true:=by
        rw[hdec];have hc:(!decide (wc (Ty.dflt tSh) (zC tSt (U.ja0 (nth (U.zM (U.rd (U.kT b))) y)) (U.zD (U.zM (U.rd (U.kT b))) (U.zM (U.rd (U.kT b))).length))=nth (U.zM (U.rd (U.kT b))) y)||decide (U.jyN (nth (U.zM (U.rd (U.kT b))) y)≠1))=false:=hc;rw[hc];rfl
      have hnew:=jyF (r:=U.kT b) hd hmem hnd hyl hinv hc';have hsh:=jGf hnew.1 hnew.2.1;have hlen:(nth (U.kN (U.kT b) (U.zM (U.rd (U.kT b))) y).1 (U.qD (nth (U.zM (U.rd (U.kT b))) y)).toNat).length≤4:=by
        rw[jHa] at hsh;omega
      have hp1:0≤U.qD (nth (U.zM (U.rd (U.kT b))) y):=hsf.1.1;have hp2:U.qD (nth (U.zM (U.rd (U.kT b))) y)<((U.kN (U.kT b) (U.zM (U.rd (U.kT b))) y).1.length:Int):=(by rw[hinv.1];exact hsf.1.2);have hr2:=hinv.2.1;refine⟨hp1,hp2,hp1,hp2,hp1,hp2,rfl,rfl,?_,rfl,⟨hD,hm⟩,hsf.1,⟨jG5 hsh (by omega),hnew.2.1⟩,fun hy=> ?_,fun hy=> ?_⟩
      · show((nth (U.kN (U.kT b) (U.zM (U.rd (U.kT b))) y).1 (U.qD (nth (U.zM (U.rd (U.kT b))) y)).toNat).length+1)*8≤140737488355328;omega
      · have hst:=jyG (r:=U.kT b) hyl hc' hy;exact⟨hp1,hp2,L.in64 (by omega) (by omega),y+1,⟨⟨by simp,trivial⟩,congrArg (·.2) hst.symm,congrArg (·.1) hst.symm,trivial⟩,⟨up,hnext⟩,dn⟩
      · have hst:=jCX (r:=U.kT b) hyl hc' hy;refine⟨?_,L.in64 (by omega) (by omega),y+1,⟨⟨by simp,trivial⟩,congrArg (·.1) hst.symm,⟨rfl,rfl,rfl,rfl,rfl,rfl,rfl,rfl,trivial,trivial,trivial,trivial⟩,congrArg (·.2) hst.symm,trivial⟩,⟨up,hnext⟩,dn⟩;show((U.kN (U.kT b) (U.zM (U.rd (U.kT b))) y).2.length+1)*8≤140737488355328;omega
  · have h2:¬(y:Int)<((U.zM (U.rd (U.kT b))).length:Int):=of_decide_eq_false h2;have hy:=hy.1;have hy:y≤(U.zM (U.rd (U.kT b))).length:=hy;have hyl:y=(U.zM (U.rd (U.kT b))).length:=(by omega);subst hyl;exact⟨rfl,rfl⟩
theorem jn0:yf PR 120 jfh:=jBw Tryz.sortI 3 (qb Tryz.func120 (c:=jd Tryz.f120) (by kernel_rfl) (by kernel_rfl))
theorem jiM:yf PR 80 vz:=jgj (jeR.mpr jkA) Tryz.func80 (by kernel_rfl) (by kernel_rfl) (by kernel_rfl) (by kernel_rfl) (by kernel_rfl) ⟨fun _=>jue,fun _=>jdL,trivial⟩ ⟨jhC,yA,jn0,trivial⟩
end Go.X
namespace Go.X
open Go.Proofs
namespace U
def jcw (l:List Int) (n:Nat):Int:=(l.take n).foldl (fun s p=>bor s (1*2^p.toNat)) 0
def jvH (l:List Int):Int:=jcw l l.length
def kH (d:DyD) (n:Nat):List Int:=((jv d).take n).map (fun b=>jvH (jak (jo d) (jaL b)))
def jE5 (d:DyD):List (List Int):=List.replicate (ji (jo d)).length yO
def jtr (d:DyD):RoD:=(d,kH d (jv d).length,jE5 d,yO,())
def jra (d:DyD):RoD:=(d,kH d (jv d).length,(yh (jtr d)).1,(yh (jtr d)).2,())
def zh (d:DyD):Option RoD:=if jI d=0 then some (jra d) else none
end U
def qz:kx:=⟨[.val tDy,.nil true],[.cl (.dat (.ptr tRo)),.cl (.dat .int)],fun d=>[(U.jT d.1).length≤100000],fun d=>((U.zh d.1,U.jI d.1,()),())⟩
def jA5:Ann:=fun r=>match r with
  |8=>some fun σ=>{X:=Nat,sl:=fun i=>[(39,.dat .int (i:Int))],ob:=fun i=>[(27,some (.box 72 false (((bx σ 27).set 8 (.own (jbb 27 8) .int)).set 10 (.own (jbb 27 10) .int)))),(jbb 27 10,some (.row 3 .int false .yes U.yO)),(jbb 27 8,some (.row 3 .int false .yes (U.kH (gb tDy σ 2) i)))],inv:=fun i=>i≤(U.jv (gb tDy σ 2)).length,mu:=fun i=>(U.jv (gb tDy σ 2)).length-i}
  |13=>some fun σ=>{X:=Nat,sl:=fun i=>[(53,.dat .int (i:Int)),(12,.dat .int (U.jcw (gd (.slice .int) σ 51) i))],ob:=fun _=>[],inv:=fun i=>i≤(gd (.slice .int) σ 51).length,mu:=fun i=>(gd (.slice .int) σ 51).length-i}
  |3000005=>some fun _=>{X:=Unit,sl:=fun _=>[],ob:=fun _=>[],inv:=fun _=>True,mu:=fun _=>0}
  |_=>none
abbrev q93_0 (d:DyD×Unit×Unit)(x:Nat):=(U.jak d.1.1 (nth d.1.2.2.1 (x:Int).toNat).1)
abbrev q93_1 (d:DyD×Unit×Unit):=(d.1.1.2.1.length:Int)
abbrev q93_3 (d:DyD×Unit×Unit):=d.1.2.2.2.2.2.1
abbrev q93_4 (d:DyD×Unit×Unit):=d.1.2.2.2.2.1
abbrev q93_2 (d:DyD×Unit×Unit):=(d.1.1.1=d.1.1.1∧d.1.1.2.1=d.1.1.2.1∧d.1.1.2.2.1=d.1.1.2.2.1∧d.1.2.1=d.1.2.1∧d.1.2.2.1=d.1.2.2.1∧d.1.2.2.2.1=d.1.2.2.2.1∧(q93_4 d)=(q93_4 d)∧(q93_3 d)=(q93_3 d)∧True∧True∧True∧True)
def jjp:Prop:=∀(d:DyD×Unit×Unit),(U.jT d.1).length≤100000→(U.jT d.1).length≤100000∧(decide (U.jI d.1≠(0:Int))=true→(none,U.jI d.1,())=(U.zh d.1,U.jI d.1,())∧()=())∧(decide (U.jI d.1≠(0:Int))=false→(0:Int)≤(q93_1 d)∧(q93_1 d)=(q93_1 d)∧(q93_1 d).toNat*24≤140737488355328∧((!true)=true→(!true)=true∧(!true)=true∧False)∧((!true)=false→(!true)=false∧(!true)=false∧(!true)=false∧(!true)=false∧(false=true→(none,(1:Int),())=(U.zh d.1,U.jI d.1,())∧()=())∧(false=false→d.1.2.2.1.length<4611686018427387904→(∃(x:Nat),(((0:Int)=(x:Int)∧True)∧(q93_2 d)∧U.yO=[]∧U.kH d.1 x=[]∧True)∧x≤(U.jv d.1).length)∧∀(x:Nat),x≤(U.jv d.1).length→(decide ((x:Int)<(d.1.2.2.1.length:Int))=true→(0:Int)≤(x:Int)∧(x:Int)<(d.1.2.2.1.length:Int)∧((q93_0 d x).length<4611686018427387904→(∃(x_4:Nat),(((0:Int)=(x_4:Int)∧(0:Int)=U.jcw (q93_0 d x) x_4∧True)∧True)∧x_4≤(q93_0 d x).length)∧∀(x_4:Nat),x_4≤(q93_0 d x).length→(decide ((x_4:Int)<(↑(q93_0 d x).length:Int))=true→(0:Int)≤(x_4:Int)∧(x_4:Int)<(↑(q93_0 d x).length:Int)∧(0:Int)≤nth (q93_0 d x) (x_4:Int).toNat∧nth (q93_0 d x) (x_4:Int).toNat≤(64:Int)∧jx ((1:Int)*(2:Int)^(nth (q93_0 d x) (x_4:Int).toNat).toNat)∧jx ((x_4:Int)+(1:Int))∧∃(x':Nat),(((x_4:Int)+(1:Int)=(x':Int)∧bor (U.jcw (q93_0 d x) x_4) ((1:Int)*(2:Int)^(nth (q93_0 d x) (x_4:Int).toNat).toNat)=U.jcw (q93_0 d x) x'∧True)∧True)∧x'≤(q93_0 d x).length∧(q93_0 d x).length-x'<(q93_0 d x).length-x_4)∧(decide ((x_4:Int)<(↑(q93_0 d x).length:Int))=false→((U.kH d.1 x).length+[U.jcw (q93_0 d x) x_4].length)*8≤140737488355328∧jx ((x:Int)+(1:Int))∧∃(x':Nat),(((x:Int)+(1:Int)=(x':Int)∧True)∧U.yO=U.yO∧(q93_2 d)∧U.kH d.1 x++[U.jcw (q93_0 d x) x_4]=U.kH d.1 x'∧True)∧x'≤(U.jv d.1).length∧(U.jv d.1).length-x'<(U.jv d.1).length-x)))∧(decide ((x:Int)<(d.1.2.2.1.length:Int))=false→U.jBS (U.kT (d.1.1.1,d.1.1.2.1,d.1.1.2.2.1,d.1.2.1,d.1.2.2.1,d.1.2.2.2.1,(q93_4 d),(q93_3 d),U.kH d.1 x,List.replicate (q93_1 d).toNat [],U.yO,()))∧(some ((((U.jkF (d.1.1.1,d.1.1.2.1,d.1.1.2.2.1,d.1.2.1,d.1.2.2.1,d.1.2.2.2.1,(q93_4 d),(q93_3 d),U.kH d.1 x,List.replicate (q93_1 d).toNat [],U.yO,()) (U.yh (U.kT (d.1.1.1,d.1.1.2.1,d.1.1.2.2.1,d.1.2.1,d.1.2.2.1,d.1.2.2.2.1,(q93_4 d),(q93_3 d),U.kH d.1 x,List.replicate (q93_1 d).toNat [],U.yO,())))).1,(U.jkF (d.1.1.1,d.1.1.2.1,d.1.1.2.2.1,d.1.2.1,d.1.2.2.1,d.1.2.2.2.1,(q93_4 d),(q93_3 d),U.kH d.1 x,List.replicate (q93_1 d).toNat [],U.yO,()) (U.yh (U.kT (d.1.1.1,d.1.1.2.1,d.1.1.2.2.1,d.1.2.1,d.1.2.2.1,d.1.2.2.2.1,(q93_4 d),(q93_3 d),U.kH d.1 x,List.replicate (q93_1 d).toNat [],U.yO,())))).2.1,(U.jkF (d.1.1.1,d.1.1.2.1,d.1.1.2.2.1,d.1.2.1,d.1.2.2.1,d.1.2.2.2.1,(q93_4 d),(q93_3 d),U.kH d.1 x,List.replicate (q93_1 d).toNat [],U.yO,()) (U.yh (U.kT (d.1.1.1,d.1.1.2.1,d.1.1.2.2.1,d.1.2.1,d.1.2.2.1,d.1.2.2.2.1,(q93_4 d),(q93_3 d),U.kH d.1 x,List.replicate (q93_1 d).toNat [],U.yO,())))).2.2.1,()),(U.jkF (d.1.1.1,d.1.1.2.1,d.1.1.2.2.1,d.1.2.1,d.1.2.2.1,d.1.2.2.2.1,(q93_4 d),(q93_3 d),U.kH d.1 x,List.replicate (q93_1 d).toNat [],U.yO,()) (U.yh (U.kT (d.1.1.1,d.1.1.2.1,d.1.1.2.2.1,d.1.2.1,d.1.2.2.1,d.1.2.2.2.1,(q93_4 d),(q93_3 d),U.kH d.1 x,List.replicate (q93_1 d).toNat [],U.yO,())))).2.2.2.1,(U.jkF (d.1.1.1,d.1.1.2.1,d.1.1.2.2.1,d.1.2.1,d.1.2.2.1,d.1.2.2.2.1,(q93_4 d),(q93_3 d),U.kH d.1 x,List.replicate (q93_1 d).toNat [],U.yO,()) (U.yh (U.kT (d.1.1.1,d.1.1.2.1,d.1.1.2.2.1,d.1.2.1,d.1.2.2.1,d.1.2.2.2.1,(q93_4 d),(q93_3 d),U.kH d.1 x,List.replicate (q93_1 d).toNat [],U.yO,())))).2.2.2.2.1,(U.jkF (d.1.1.1,d.1.1.2.1,d.1.1.2.2.1,d.1.2.1,d.1.2.2.1,d.1.2.2.2.1,(q93_4 d),(q93_3 d),U.kH d.1 x,List.replicate (q93_1 d).toNat [],U.yO,()) (U.yh (U.kT (d.1.1.1,d.1.1.2.1,d.1.1.2.2.1,d.1.2.1,d.1.2.2.1,d.1.2.2.2.1,(q93_4 d),(q93_3 d),U.kH d.1 x,List.replicate (q93_1 d).toNat [],U.yO,())))).2.2.2.2.2.1,(U.jkF (d.1.1.1,d.1.1.2.1,d.1.1.2.2.1,d.1.2.1,d.1.2.2.1,d.1.2.2.2.1,(q93_4 d),(q93_3 d),U.kH d.1 x,List.replicate (q93_1 d).toNat [],U.yO,()) (U.yh (U.kT (d.1.1.1,d.1.1.2.1,d.1.1.2.2.1,d.1.2.1,d.1.2.2.1,d.1.2.2.2.1,(q93_4 d),(q93_3 d),U.kH d.1 x,List.replicate (q93_1 d).toNat [],U.yO,())))).2.2.2.2.2.2.1,(U.jkF (d.1.1.1,d.1.1.2.1,d.1.1.2.2.1,d.1.2.1,d.1.2.2.1,d.1.2.2.2.1,(q93_4 d),(q93_3 d),U.kH d.1 x,List.replicate (q93_1 d).toNat [],U.yO,()) (U.yh (U.kT (d.1.1.1,d.1.1.2.1,d.1.1.2.2.1,d.1.2.1,d.1.2.2.1,d.1.2.2.2.1,(q93_4 d),(q93_3 d),U.kH d.1 x,List.replicate (q93_1 d).toNat [],U.yO,())))).2.2.2.2.2.2.2.1,()),(U.jkF (d.1.1.1,d.1.1.2.1,d.1.1.2.2.1,d.1.2.1,d.1.2.2.1,d.1.2.2.2.1,(q93_4 d),(q93_3 d),U.kH d.1 x,List.replicate (q93_1 d).toNat [],U.yO,()) (U.yh (U.kT (d.1.1.1,d.1.1.2.1,d.1.1.2.2.1,d.1.2.1,d.1.2.2.1,d.1.2.2.2.1,(q93_4 d),(q93_3 d),U.kH d.1 x,List.replicate (q93_1 d).toNat [],U.yO,())))).2.2.2.2.2.2.2.2.1,(U.jkF (d.1.1.1,d.1.1.2.1,d.1.1.2.2.1,d.1.2.1,d.1.2.2.1,d.1.2.2.2.1,(q93_4 d),(q93_3 d),U.kH d.1 x,List.replicate (q93_1 d).toNat [],U.yO,()) (U.yh (U.kT (d.1.1.1,d.1.1.2.1,d.1.1.2.2.1,d.1.2.1,d.1.2.2.1,d.1.2.2.2.1,(q93_4 d),(q93_3 d),U.kH d.1 x,List.replicate (q93_1 d).toNat [],U.yO,())))).2.2.2.2.2.2.2.2.2.1,(U.jkF (d.1.1.1,d.1.1.2.1,d.1.1.2.2.1,d.1.2.1,d.1.2.2.1,d.1.2.2.2.1,(q93_4 d),(q93_3 d),U.kH d.1 x,List.replicate (q93_1 d).toNat [],U.yO,()) (U.yh (U.kT (d.1.1.1,d.1.1.2.1,d.1.1.2.2.1,d.1.2.1,d.1.2.2.1,d.1.2.2.2.1,(q93_4 d),(q93_3 d),U.kH d.1 x,List.replicate (q93_1 d).toNat [],U.yO,())))).2.2.2.2.2.2.2.2.2.2.1,()),(0:Int),())=(U.zh d.1,U.jI d.1,())∧()=()))))
theorem jlh:jcR (ctx 76 [(16,jem),(79,jpV)] [(80,vz)]) (jA5) Tryz.f39 (jd Tryz.f39) qz=jjp:=by kernel_rfl
end Go.X
namespace Go.X
open Go.Proofs
theorem jiD {l:List Int} {i:Nat} (h:i<l.length):U.jcw l (i+1)=bor (U.jcw l i) (1*2^(nth l i).toNat):=by
  unfold U.jcw;rw[L.take_succ h,jHp];rfl
theorem jzR {d:DyD} {i:Nat} (h:i<(U.jv d).length):U.kH d (i+1)=U.kH d i++[U.jvH (U.jak (U.jo d) (U.jaL (nth (U.jv d) i)))]:=by
  unfold U.kH;rw[L.take_succ h,jHF];rfl
theorem jBY (d:DyD) (i:Nat):(U.kH d i).length≤i:=by
  unfold U.kH;rw[jHO,jHj];omega
theorem jzP {c:CrD} (h:U.jq c=true) {j:JbD} {p:Int} (hp:p∈U.jak c j):0≤p∧p<8:=by
  have h8:=(jG h).2.2.1;unfold U.jak at hp
  split at hp
  · unfold U.gz at hp;obtain⟨n,hn,rfl⟩:=jHs.1 hp;have:=jG9.1 (jHg.1 hn).1;omega
  · cases hp
theorem jD9 {c:CrD} (h:U.jq c=true) (j:JbD):(U.jak c j).length≤8:=by
  have h8:=(jG h).2.2.1;unfold U.jak
  split
  · unfold U.gz;rw[jHO];exact jG5 (jHM _ _) (by simpa using h8)
  · exact jG2 _
theorem jy1 {d:DyD} (h:U.jI d=0):U.jBS (U.jtr d):=by
  refine⟨⟨h,?_⟩,⟨?_,fun x hx=> ?_⟩,rfl⟩
  · show(U.kH d (U.jv d).length).length=(U.jv d).length;unfold U.kH;simp
  · show(U.jE5 d).length=(U.ji (U.jo d)).length;unfold U.jE5;simp
  · have hx:x∈U.jE5 d:=hx;unfold U.jE5 at hx;exact(List.mem_replicate.1 hx).2
theorem juC:jjp:=by
  unfold jjp q93_2 q93_4 q93_3 q93_1 q93_0;rintro⟨d,⟨⟩,⟨⟩⟩ hl;refine⟨hl,fun h=>⟨?_,rfl⟩,fun h=>⟨jHn _,rfl,?_,fun h1=>(by cases h1),fun _=>⟨rfl,rfl,rfl,rfl,fun h1=>(by cases h1),fun _=> ?_⟩⟩⟩
  · have h:U.jI d≠0:=of_decide_eq_true h;show(none,U.jI d,())=(U.zh d,U.jI d,());unfold U.zh;rw[if_neg h]
  · have hk:U.jI d=0:=Classical.not_not.1 (of_decide_eq_false h);have h8:=(jG (wn hk).1.1).2.2.1;have h8:d.1.2.1.length≤8:=h8;show((d.1.2.1.length:Int)).toNat*24≤140737488355328;omega
  have hk:U.jI d=0:=Classical.not_not.1 (of_decide_eq_false h);clear hl h;have hD:=(wn hk).1;have hd:=hD.2.2;have hb4:(U.jv d).length≤4:=(zm hd).1;have hb4':d.2.2.1.length≤4:=hb4;refine fun _=>⟨⟨0,⟨⟨rfl,trivial⟩,⟨rfl,rfl,rfl,rfl,rfl,rfl,rfl,rfl,trivial,trivial,trivial,trivial⟩,rfl,rfl,trivial⟩,jG2 _⟩,fun x hx=>⟨fun h=>⟨by omega,of_decide_eq_true h,fun _=>⟨⟨0,⟨⟨rfl,rfl,trivial⟩,trivial⟩,jG2 _⟩,fun y hy=>⟨fun h2=> ?_,fun h2=> ?_⟩⟩⟩,fun h=> ?_⟩⟩
  · have h2:(y:Int)<((U.jak (U.jo d) (nth d.2.2.1 (x:Int).toNat).1).length:Int):=of_decide_eq_true h2;have h2':y<(U.jak (U.jo d) (nth d.2.2.1 (x:Int).toNat).1).length:=(by omega);have hp:=jzP hD.1 (L.mem_nth h2');have hs:=jiD h2';have h8:=jD9 hD.1 (nth d.2.2.1 (x:Int).toNat).1;have h3:BT.Set' ((2:Int)^(nth (U.jak (U.jo d) (nth d.2.2.1 (x:Int).toNat).1) y).toNat):=BT.two_set (by omega);unfold BT.Set' at h3;exact⟨by omega,h2,hp.1,by show nth (U.jak (U.jo d) (nth d.2.2.1 (x:Int).toNat).1) y≤64;omega,by show jx (1*2^(nth (U.jak (U.jo d) (nth d.2.2.1 (x:Int).toNat).1) y).toNat);rw[gq];exact L.in64 (by omega) (by omega),L.in64 (by omega) (by omega),y+1,⟨⟨by simp,hs.symm,trivial⟩,trivial⟩,by show y+1≤(U.jak (U.jo d) (nth d.2.2.1 (x:Int).toNat).1).length;omega,by show(U.jak (U.jo d) (nth d.2.2.1 (x:Int).toNat).1).length-(y+1)<(U.jak (U.jo d) (nth d.2.2.1 (x:Int).toNat).1).length-y;omega⟩
  · have h:(x:Int)<((U.jv d).length:Int):=of_decide_eq_true h;have hs:=jzR (d:=d) (i:=x) (by omega);have hl:=jBY d x;have hy:y≤(U.jak (U.jo d) (nth d.2.2.1 (x:Int).toNat).1).length:=hy;have h2:¬(y:Int)<((U.jak (U.jo d) (nth d.2.2.1 (x:Int).toNat).1).length:Int):=of_decide_eq_false h2;have hyl:y=(U.jak (U.jo d) (nth d.2.2.1 (x:Int).toNat).1).length:=(by omega);subst hyl;refine⟨?_,L.in64 (by omega) (by omega),x+1,⟨⟨by simp,trivial⟩,rfl,⟨rfl,rfl,rfl,rfl,rfl,rfl,rfl,rfl,trivial,trivial,trivial,trivial⟩,hs.symm,trivial⟩,by show x+1≤(U.jv d).length;omega,by show(U.jv d).length-(x+1)<(U.jv d).length-x;omega⟩;show((U.kH d x).length+1)*8≤140737488355328;omega
  · have h:¬(x:Int)<((U.jv d).length:Int):=of_decide_eq_false h;have hx:x≤(U.jv d).length:=hx;have hxl:x=(U.jv d).length:=(by omega);subst hxl;refine⟨jy1 hk,?_⟩;refine⟨?_,rfl⟩;show(some (U.jra d),(0:Int),())=(U.zh d,U.jI d,());unfold U.zh;rw[if_pos hk,hk]
theorem jah:yf PR 39 qz:=jgj (jlh.mpr juC) Tryz.func39 (by kernel_rfl) (by kernel_rfl) (by kernel_rfl) (by kernel_rfl) (by kernel_rfl) ⟨fun _=>joX,fun _=>jBR,trivial⟩ ⟨jiM,trivial⟩
end Go.X
namespace Go.X
open Go.Proofs
namespace U
def va (d:DyD) (n:Nat):List Int:=(List.range n).map (fun(b:Nat)=>jav (wP (jra d)) (b:Int))
def jir (d:DyD):List Int:=if jI d=0 then va d (jv d).length else[]
def jiG (d:DyD):List Int:=if jI d=0 then jF4 (jra d) else[]
def jvD (d:DyD) (b:Nat):Bool:=jh1 d (b:Int) (jav (wP (jra d)) (b:Int))
def y7 (d:DyD) (n:Nat):List Int:=((List.range n).filter (jvD d)).map (fun(b:Nat)=>(b:Int))
def jnT (d:DyD):List Int:=if jI d=0 then y7 d (jv d).length else[]
def jDa (d:DyD) (p:Int):Bool:=jc p 0 (((ji (jo d)).length:Int)-1)
def jFB (d:DyD) (b:Int):Bool:=jc b 0 (((jv d).length:Int)-1)
end U
def jel:jW:=⟨[.val tDy],[.slice .int,.int],false,fun d=>[(U.jT d.1).length≤100000],fun d=>(U.jir d.1,U.jI d.1,())⟩
def jx4:Ann:=fun r=>match r with
  |6=>some fun σ=>{X:=Nat,sl:=fun i=>[(19,.dat .int (i:Int)),(6,.own 6 .int)],ob:=fun i=>[(6,some (.row 3 .int false .yes (U.va (gb tDy σ 1) i)))],inv:=fun i=>i≤(U.jv (gb tDy σ 1)).length,mu:=fun i=>(U.jv (gb tDy σ 1)).length-i}
  |_=>none
def joD:Prop:=∀(d:DyD×Unit),(U.jT d.1).length≤100000→(U.jT d.1).length≤100000∧(decide (U.jI d.1≠(0:Int))=true→([],U.jI d.1,())=(U.jir d.1,U.jI d.1,()))∧(decide (U.jI d.1≠(0:Int))=false→d.1.2.2.1.length<4611686018427387904→(∃(x:Nat),(((0:Int)=(x:Int)∧True∧True)∧U.va d.1 x=[]∧True)∧x≤(U.jv d.1).length)∧∀(x:Nat),x≤(U.jv d.1).length→(decide ((x:Int)<(d.1.2.2.1.length:Int))=true→(U.zh d.1).isSome=true∧(U.wP (U.ro (U.zh d.1))).length≤60∧((U.va d.1 x).length+[U.jav (U.wP (U.ro (U.zh d.1))) (x:Int)].length)*8≤140737488355328∧jx ((x:Int)+(1:Int))∧∃(x':Nat),(((x:Int)+(1:Int)=(x':Int)∧True∧True)∧U.va d.1 x++[U.jav (U.wP (U.ro (U.zh d.1))) (x:Int)]=U.va d.1 x'∧True)∧x'≤(U.jv d.1).length∧(U.jv d.1).length-x'<(U.jv d.1).length-x)∧(decide ((x:Int)<(d.1.2.2.1.length:Int))=false→(U.va d.1 x,(0:Int),())=(U.jir d.1,U.jI d.1,())))
theorem jpI:zq (ctx 30 [(53,qc)] [(39,qz)]) (jx4) Tryz.f18 (jd Tryz.f18) jel=joD:=by kernel_rfl
def jab:jW:=⟨[.val tDy],[.slice .int,.int],false,fun d=>[(U.jT d.1).length≤100000],fun d=>(U.jiG d.1,U.jI d.1,())⟩
def jjv:Prop:=∀(d:DyD×Unit),(U.jT d.1).length≤100000→(U.jT d.1).length≤100000∧(decide (U.jI d.1≠(0:Int))=true→([],U.jI d.1,())=(U.jiG d.1,U.jI d.1,()))∧(decide (U.jI d.1≠(0:Int))=false→(U.zh d.1).isSome=true∧((jY ((((0:Int),[],[],()),[],[],(0:Int),(0:Int),[],()),[],[],[],()) (U.zh d.1)).2.2.2.1,(0:Int),())=(U.jiG d.1,U.jI d.1,()))
theorem jlp:zq (ctx 18 [] [(39,qz)]) (fun _=>none) Tryz.f20 (jd Tryz.f20) jab=jjv:=by kernel_rfl
def jfQ:jW:=⟨[.val tDy],[.slice .int,.int],false,fun d=>[(U.jT d.1).length≤100000],fun d=>(U.jnT d.1,U.jI d.1,())⟩
def jvk:Ann:=fun r=>match r with
  |6=>some fun σ=>{X:=Nat,sl:=fun i=>[(19,.dat .int (i:Int)),(6,.own 6 .int)],ob:=fun i=>[(6,some (.row 3 .int false .yes (U.y7 (gb tDy σ 1) i)))],inv:=fun i=>i≤(U.jv (gb tDy σ 1)).length,mu:=fun i=>(U.jv (gb tDy σ 1)).length-i}
  |_=>none
def jlo:Prop:=∀(d:DyD×Unit),(U.jT d.1).length≤100000→(U.jT d.1).length≤100000∧(decide (U.jI d.1≠(0:Int))=true→([],U.jI d.1,())=(U.jnT d.1,U.jI d.1,()))∧(decide (U.jI d.1≠(0:Int))=false→d.1.2.2.1.length<4611686018427387904→(∃(x:Nat),(((0:Int)=(x:Int)∧True∧True)∧U.y7 d.1 x=[]∧True)∧x≤(U.jv d.1).length)∧∀(x:Nat),x≤(U.jv d.1).length→(decide ((x:Int)<(d.1.2.2.1.length:Int))=true→(U.zh d.1).isSome=true∧(U.wP (U.ro (U.zh d.1))).length≤60∧(U.zh d.1).isSome=true∧U.qo (U.rd (U.ro (U.zh d.1))) (x:Int)∧(U.jh1 (U.rd (U.ro (U.zh d.1))) (x:Int) (U.jav (U.wP (U.ro (U.zh d.1))) (x:Int))=true→((U.y7 d.1 x).length+[(x:Int)].length)*8≤140737488355328∧jx ((x:Int)+(1:Int))∧∃(x':Nat),(((x:Int)+(1:Int)=(x':Int)∧True∧True)∧U.y7 d.1 x++[(x:Int)]=U.y7 d.1 x'∧True)∧x'≤(U.jv d.1).length∧(U.jv d.1).length-x'<(U.jv d.1).length-x)∧(U.jh1 (U.rd (U.ro (U.zh d.1))) (x:Int) (U.jav (U.wP (U.ro (U.zh d.1))) (x:Int))=false→jx ((x:Int)+(1:Int))∧∃(x':Nat),((True∧(x:Int)+(1:Int)=(x':Int)∧True)∧U.y7 d.1 x=U.y7 d.1 x'∧True)∧x'≤(U.jv d.1).length∧(U.jv d.1).length-x'<(U.jv d.1).length-x))∧(decide ((x:Int)<(d.1.2.2.1.length:Int))=false→(U.y7 d.1 x,(0:Int),())=(U.jnT d.1,U.jI d.1,())))
theorem jnD:zq (ctx 34 [(53,qc),(40,qd)] [(39,qz)]) (jvk) Tryz.f22 (jd Tryz.f22) jfQ=jlo:=by kernel_rfl
end Go.X
namespace Go.X
open Go.Proofs
theorem jtK {r:RoD} {l:List ShD} (hd:U.kg (U.rd r)=true) (hl:∀s∈l,s∈U.jT (U.rd r)) (nd:l.Nodup) (h1:(U.wP r).length=(U.ji (U.jo (U.rd r))).length) (h2:U.jD6 (U.wP r)) (h3:U.jF4 r=U.yO):
    ∀i,i≤l.length→U.gX r l i (U.kN r l i)
  |0,_=>jyE h1 h2 h3
  |i+1,hi=>by
    rw[jhf hi]
    exact jCW hd hl nd hi (jtK hd hl nd h1 h2 h3 i (by omega))
structure jEV (d:DyD):Prop where
  may:U.jsi (U.jra d)
  len:(U.wP (U.jra d)).length=(U.ji (U.jo d)).length
  row:∀p,(nth (U.wP (U.jra d)) p).Nodup∧∀b∈nth (U.wP (U.jra d)) p,U.qo d b
theorem jrI {d:DyD} (h:U.jI d=0):jEV d:=by
  obtain⟨⟨_,hm⟩,⟨ho,hni⟩,hrf⟩:=jy1 h;have hD:=(wn h).1;have hinv:=jtK (r:=U.jtr d) (l:=U.zM d) hD.2.2 (fun s hs=>jbQ.1 hs) (jaZ d) ho hni hrf _ (jGU _);refine⟨⟨hD,hm⟩,hinv.1,fun p=> ?_⟩;have:=hinv.2.2 p;exact⟨this.1,fun b hb=>(this.2 b hb).1⟩
theorem jEV.len60 {d:DyD} (h:jEV d):(U.wP (U.jra d)).length≤60:=by
  have h8:=(jG h.may.1.1).2.2.1;have h8:(U.ji (U.jo d)).length≤8:=h8;rw[h.len];omega
theorem jvX {d:DyD} (h:U.jI d=0):U.zh d=some (U.jra d):=if_pos h
theorem jwH (d:DyD) (n:Nat):U.va d (n+1)=U.va d n++[U.jav (U.wP (U.jra d)) (n:Int)]:=by
  unfold U.va;rw[jHu,jHF];rfl
theorem jAg:joD:=by
  rintro⟨d,⟨⟩⟩ hl;refine⟨hl,fun h=> ?_,fun h _=>⟨⟨0,⟨⟨rfl,trivial,trivial⟩,rfl,trivial⟩,jG2 _⟩,fun x hx=>⟨fun h2=> ?_,fun h2=> ?_⟩⟩⟩
  · have h:U.jI d≠0:=of_decide_eq_true h;show([],U.jI d,())=(U.jir d,U.jI d,());unfold U.jir;rw[if_neg h]
  · have hk:U.jI d=0:=Classical.not_not.1 (of_decide_eq_false h);have hr:=jrI hk;have hb4:(U.jv d).length≤4:=(zm hr.may.1.2.2).1;have h2:(x:Int)<((U.jv d).length:Int):=of_decide_eq_true h2;have hs:=jwH d x;have hlen:(U.va d x).length=x:=(by unfold U.va;simp);have eo:=jvX hk;refine⟨by show(U.zh d).isSome=true;rw[eo];rfl,by show(U.wP (U.ro (U.zh d))).length≤60;rw[eo];exact hr.len60,?_,L.in64 (by omega) (by omega),x+1,⟨⟨by simp,trivial,trivial⟩,?_,trivial⟩,by show x+1≤(U.jv d).length;omega,by show(U.jv d).length-(x+1)<(U.jv d).length-x;omega⟩
    · show((U.va d x).length+1)*8≤_;omega
    · show U.va d x++[U.jav (U.wP (U.ro (U.zh d))) (x:Int)]=U.va d (x+1);rw[eo,hs];rfl
  · have hk:U.jI d=0:=Classical.not_not.1 (of_decide_eq_false h);have hx:x≤(U.jv d).length:=hx;have h2:¬(x:Int)<((U.jv d).length:Int):=of_decide_eq_false h2;have hxl:x=(U.jv d).length:=(by omega);subst hxl;show(U.va d _,(0:Int),())=(U.jir d,U.jI d,());unfold U.jir;rw[if_pos hk,hk]
theorem joW:ze PR 18 jel:=zv (jpI.mpr jAg) Tryz.func18 (by kernel_rfl) (by kernel_rfl) (by kernel_rfl) (by kernel_rfl) ⟨fun _=>jcz,trivial⟩ ⟨jah,trivial⟩
theorem juI:jjv:=by
  rintro⟨d,⟨⟩⟩ hl;refine⟨hl,fun h=> ?_,fun h=> ?_⟩
  · have h:U.jI d≠0:=of_decide_eq_true h;show([],U.jI d,())=(U.jiG d,U.jI d,());unfold U.jiG;rw[if_neg h]
  · have hk:U.jI d=0:=Classical.not_not.1 (of_decide_eq_false h);have eo:=jvX hk;refine⟨by show(U.zh d).isSome=true;rw[eo];rfl,?_⟩;show(U.jF4 (U.ro (U.zh d)),(0:Int),())=(U.jiG d,U.jI d,());unfold U.jiG;rw[if_pos hk,hk,eo];rfl
theorem jjM:ze PR 20 jab:=zv (jlp.mpr juI) Tryz.func20 (by kernel_rfl) (by kernel_rfl) (by kernel_rfl) (by kernel_rfl) trivial ⟨jah,trivial⟩
theorem jwO (d:DyD) (n:Nat):U.y7 d (n+1)=U.y7 d n++(if U.jvD d n=true then[(n:Int)] else[]):=by
  unfold U.y7;rw[L.range_filter_succ,jHF];by_cases h:U.jvD d n=true
  · rw[if_pos h,if_pos h];rfl
  · rw[if_neg h,if_neg h];rfl
theorem jxo:jlo:=by
  rintro⟨d,⟨⟩⟩ hl;refine⟨hl,fun h=> ?_,fun h _=>⟨⟨0,⟨⟨rfl,trivial,trivial⟩,rfl,trivial⟩,jG2 _⟩,fun x hx=>⟨fun h2=> ?_,fun h2=> ?_⟩⟩⟩
  · have h:U.jI d≠0:=of_decide_eq_true h;show([],U.jI d,())=(U.jnT d,U.jI d,());unfold U.jnT;rw[if_neg h]
  · have hk:U.jI d=0:=Classical.not_not.1 (of_decide_eq_false h);have hr:=jrI hk;have hb4:(U.jv d).length≤4:=(zm hr.may.1.2.2).1;have h2:(x:Int)<((U.jv d).length:Int):=of_decide_eq_true h2;have hs:=jwO d x;have hlen:(U.y7 d x).length≤x:=by
      unfold U.y7;rw[jHO];exact jG5 (jHM _ _) (by simp)
    have eo:=jvX hk;have e1:(U.zh d).isSome=true:=(by rw[eo];rfl);have e2:(U.wP (U.ro (U.zh d))).length≤60:=(by rw[eo];exact hr.len60);have e3:U.qo (U.rd (U.ro (U.zh d))) (x:Int):=(by rw[eo];exact⟨by omega,h2⟩);have e4:U.jh1 (U.rd (U.ro (U.zh d))) (x:Int) (U.jav (U.wP (U.ro (U.zh d))) (x:Int))=U.jvD d x:=(by rw[eo];rfl);have up:x+1≤(U.jv d).length:=(by omega);have dn:(U.jv d).length-(x+1)<(U.jv d).length-x:=(by omega);refine⟨e1,e2,e1,e3,fun h3=> ?_,fun h3=> ?_⟩
    · have h3:U.jvD d x=true:=(by rw[←e4];exact h3);refine⟨?_,L.in64 (by omega) (by omega),x+1,⟨⟨by simp,trivial,trivial⟩,?_,trivial⟩,up,dn⟩
      · show((U.y7 d x).length+1)*8≤_;omega
      · rw[if_pos h3] at hs;exact hs.symm
    · have h3:U.jvD d x=false:=(by rw[←e4];exact h3);refine⟨L.in64 (by omega) (by omega),x+1,⟨⟨trivial,by simp,trivial⟩,?_,trivial⟩,up,dn⟩;rw[if_neg (by rw[h3];simp),jHf] at hs;exact hs.symm
  · have hk:U.jI d=0:=Classical.not_not.1 (of_decide_eq_false h);have hx:x≤(U.jv d).length:=hx;have h2:¬(x:Int)<((U.jv d).length:Int):=of_decide_eq_false h2;have hxl:x=(U.jv d).length:=(by omega);subst hxl;show(U.y7 d _,(0:Int),())=(U.jnT d,U.jI d,());unfold U.jnT;rw[if_pos hk,hk]
theorem juf:ze PR 22 jfQ:=zv (jnD.mpr jxo) Tryz.func22 (by kernel_rfl) (by kernel_rfl) (by kernel_rfl) (by kernel_rfl) ⟨fun _=>jcz,fun _=>jcA,trivial⟩ ⟨jah,trivial⟩
end Go.X
namespace Go.X
open Go.Proofs
theorem jf1 {l:List Int} (h:∀p∈l,0≤p∧p<8):∀n,n≤l.length→BT.Set' (U.jcw l n)∧∀q,BT.has (U.jcw l n) q=true→q<8
  |0,_=>⟨BT.zero_set,fun q hq=>by rw[show U.jcw l 0=0 from rfl,BT.has_zero] at hq;cases hq⟩
  |n+1,hn=>by
    have ih:=jf1 h n (by omega)
    have hp:=h _ (L.mem_nth (l:=l) (i:=n) (by omega))
    have h2:BT.Set' ((2:Int)^(nth l n).toNat):=BT.two_set (by omega)
    rw[jiD (by omega),gq]
    refine⟨BT.bor_set ih.1 h2,fun q hq=> ?_⟩
    rw[BT.has_bor ih.1 h2,jHY,BT.has_two,decide_eq_true_eq] at hq
    rcases hq with hq|hq
    · exact ih.2 q hq
    · omega
end Go.X
namespace Go.X
open Go.Proofs
abbrev tSe:Ty:= .st [.ptr tRo,.slice (.slice .int),.slice .int,.slice .int,.int,.bool]
abbrev jGH:Sh:= .box 70 [.dat (.ptr tRo),.row 33 (.slice .int) .unk,.row 3 .int .no,.row 3 .int .unk,.dat .int,.dat .bool]
abbrev SeD:Type:=Option RoD×List (List Int)×List Int×List Int×Int×Bool×Unit
abbrev StD:Type:=List Int×List Int×Int×Bool
namespace U
def wx (ts:List Int) (p:Int) (n:Nat):List Int:=((List.range n).filter (fun i=>decide (ya (nth ts i/2^p.toNat) 1=1))).map (fun(i:Nat)=>(i:Int))
def gp (r:RoD) (ts:List Int) (b n:Nat):Bool:=(List.range n).all (fun p=>jkE r (p:Int) (wx ts (p:Int) (b+1)))
def vQ (r:RoD) (ch:List (List Int)):Nat→Nat→Int→StD→StD
  |0,_,_,x=>x
  |k+1,b,fee,x=>
    if(x.2.2.2&&decide (x.2.2.1≤fee))=true then x
    else if b=(jv (rd r)).length then(x.1,x.1,fee,true)
    else(nth ch b).foldl (fun x t=>if gp r (x.1.set b t) b (wP r).length=true then vQ r ch k (b+1) (fee+gC (rd r) t) (x.1.set b t,x.2) else(x.1.set b t,x.2)) x
def jpU (r:RoD) (ch:List (List Int)) (k b:Nat) (fee:Int) (x:StD) (t:Int):StD:=
  if gp r (x.1.set b t) b (wP r).length=true then vQ r ch k (b+1) (fee+gC (rd r) t) (x.1.set b t,x.2) else(x.1.set b t,x.2)
def js (r:RoD) (ch:List (List Int)) (k b:Nat) (fee:Int) (x:StD) (n:Nat):StD:=((nth ch b).take n).foldl (jpU r ch k b fee) x
def jm (s:SeD):StD:=(s.2.2.1,s.2.2.2.1,s.2.2.2.2.1,s.2.2.2.2.2.1)
def yy (s:SeD) (x:StD):SeD:=(s.1,s.2.1,x.1,x.2.1,x.2.2.1,x.2.2.2,())
def okCh (d:DyD) (ch:List (List Int)):Prop:=ch.length=(jv d).length∧∀l∈ch,∀t∈l,0≤t∧t<256
def jw8 (k:Nat) (s:SeD) (b fee:Int):Prop:=s.1.isSome=true∧jsi (ro s.1)∧(wP (ro s.1)).length=(ji (jo (rd (ro s.1)))).length∧okCh (rd (ro s.1)) s.2.1∧s.2.2.1.length=(jv (rd (ro s.1))).length∧
  (0≤b∧b≤((jv (rd (ro s.1))).length:Int)∧((jv (rd (ro s.1))).length:Int)<b+k)∧0≤fee∧fee≤8000*b
end U
def qO:kx:=⟨[.own (.cl (.row 3 .int .no)) true],[rwI],fun d=>[d.1.length≤100000],fun d=>((d.1,()),(d.1,()))⟩
def gR:Prop:=∀(d:List Int×Unit),d.1.length≤100000→(false=true→([],())=d∧d=d)∧(false=false→(0+d.1.length)*8≤140737488355328∧([]++d.1,())=d∧d=d)
theorem jc8:jcR (ctx 8 [] []) (fun _=>none) Tryz.f82 (jd Tryz.f82) qO=gR:=by kernel_rfl
def qe (k:Nat):kx:=⟨[.own jGH true,.val .int,.val .int],[],fun d=>[U.jw8 k d.1 d.2.1 d.2.2.1],fun d=>((),(U.yy d.1 (U.vQ (U.ro d.1.1) d.1.2.1 k d.2.1.toNat d.2.2.1 (U.jm d.1)),()))⟩
def jkH (k:Nat):Ann:=fun r=>match r with
  |4=>some fun σ=>{X:=Nat,sl:=fun i=>[(58,.dat .int (i:Int)),(53,.any),(55,.any)],ob:=fun i=>[(1000000,some (.box 70 false (((bx σ 1000000).set 4 (.dat .int (U.js (U.ro (gb tSe σ 1000000).1) (gb tSe σ 1000000).2.1 k (gd .int σ 1).toNat (gd .int σ 2) (U.jm (gb tSe σ 1000000)) i).2.2.1)).set 5 (.dat .bool (U.js (U.ro (gb tSe σ 1000000).1) (gb tSe σ 1000000).2.1 k (gd .int σ 1).toNat (gd .int σ 2) (U.jm (gb tSe σ 1000000)) i).2.2.2)))),(400002,some (.row 3 .int false .no (U.js (U.ro (gb tSe σ 1000000).1) (gb tSe σ 1000000).2.1 k (gd .int σ 1).toNat (gd .int σ 2) (U.jm (gb tSe σ 1000000)) i).1)),(400003,some (.row 3 .int false .unk (U.js (U.ro (gb tSe σ 1000000).1) (gb tSe σ 1000000).2.1 k (gd .int σ 1).toNat (gd .int σ 2) (U.jm (gb tSe σ 1000000)) i).2.1))],inv:=fun i=>i≤(nth (gb tSe σ 1000000).2.1 (gd .int σ 1).toNat).length∧(U.js (U.ro (gb tSe σ 1000000).1) (gb tSe σ 1000000).2.1 k (gd .int σ 1).toNat (gd .int σ 2) (U.jm (gb tSe σ 1000000)) i).1.length=(gb tSe σ 1000000).2.2.1.length,mu:=fun i=>(nth (gb tSe σ 1000000).2.1 (gd .int σ 1).toNat).length-i}
  |8=>some fun σ=>{X:=Nat,sl:=fun p=>[(77,.dat .int (p:Int))],ob:=fun _=>[],inv:=fun p=>p≤(U.wP (U.ro (gb tSe σ 1000000).1)).length∧U.gp (U.ro (gb tSe σ 1000000).1) (gr .int σ 400002) (gd .int σ 1).toNat p=true,mu:=fun p=>(U.wP (U.ro (gb tSe σ 1000000).1)).length-p}
  |12=>some fun σ=>{X:=Nat,sl:=fun i=>[(88,.dat .int (i:Int)),(9,.own 9 .int)],ob:=fun i=>[(9,some (.row 3 .int false .yes (U.wx (gr .int σ 400002) (gd .int σ 8) i)))],inv:=fun i=>i≤(gd .int σ 1).toNat+1,mu:=fun i=>(gd .int σ 1).toNat+1-i}
  |_=>none
def jmb:Prop:=∀k:Nat,jcR (ctx 125 [(83,qJ),(68,ga)] [(82,qO),(41,qe k)]) (jkH k) Tryz.f41 (jd Tryz.f41) (qe (k+1))
def jcq:Prop:=∀(k:Nat) (d:(Option RoD×List (List Int)×List Int×List Int×Int×Bool×Unit)×Int×Int×Unit),U.jw8 (k+1) d.1 d.2.1 d.2.2.1→((d.1.2.2.2.2.2.1&&decide (d.1.2.2.2.2.1≤d.2.2.1))=true→()=()∧(d.1,())=(U.yy d.1 (U.vQ (U.ro d.1.1) d.1.2.1 (k+1) d.2.1.toNat d.2.2.1 (U.jm d.1)),()))∧((d.1.2.2.2.2.2.1&&decide (d.1.2.2.2.2.1≤d.2.2.1))=false→d.1.1.isSome=true∧((jY ((((0:Int),[],[],()),[],[],(0:Int),(0:Int),[],()),[],[],[],()) d.1.1).1.2.2.1.length<4611686018427387904→(decide (d.2.1=(↑(jY ((((0:Int),[],[],()),[],[],(0:Int),(0:Int),[],()),[],[],[],()) d.1.1).1.2.2.1.length:Int))=true→d.1.2.2.1.length≤100000∧()=()∧((d.1.1,d.1.2.1,d.1.2.2.1,d.1.2.2.1,d.2.2.1,true,()),())=(U.yy d.1 (U.vQ (U.ro d.1.1) d.1.2.1 (k+1) d.2.1.toNat d.2.2.1 (U.jm d.1)),()))∧(decide (d.2.1=(↑(jY ((((0:Int),[],[],()),[],[],(0:Int),(0:Int),[],()),[],[],[],()) d.1.1).1.2.2.1.length:Int))=false→(0:Int)≤d.2.1∧d.2.1<(d.1.2.1.length:Int)∧((nth d.1.2.1 d.2.1.toNat).length<4611686018427387904→(∃(x:Nat),(((0:Int)=(x:Int)∧True)∧(d.1.1=d.1.1∧True∧True∧True∧d.1.2.2.2.2.1=(U.js (U.ro d.1.1) d.1.2.1 k d.2.1.toNat d.2.2.1 (U.jm d.1) x).2.2.1∧d.1.2.2.2.2.2.1=(U.js (U.ro d.1.1) d.1.2.1 k d.2.1.toNat d.2.2.1 (U.jm d.1) x).2.2.2∧True)∧d.1.2.2.1=(U.js (U.ro d.1.1) d.1.2.1 k d.2.1.toNat d.2.2.1 (U.jm d.1) x).1∧d.1.2.2.2.1=(U.js (U.ro d.1.1) d.1.2.1 k d.2.1.toNat d.2.2.1 (U.jm d.1) x).2.1∧True)∧x≤(nth d.1.2.1 d.2.1.toNat).length∧(U.js (U.ro d.1.1) d.1.2.1 k d.2.1.toNat d.2.2.1 (U.jm d.1) x).1.length=d.1.2.2.1.length)∧∀(x:Nat),x≤(nth d.1.2.1 d.2.1.toNat).length∧(U.js (U.ro d.1.1) d.1.2.1 k d.2.1.toNat d.2.2.1 (U.jm d.1) x).1.length=d.1.2.2.1.length→(decide ((x:Int)<(↑(nth d.1.2.1 d.2.1.toNat).length:Int))=true→(0:Int)≤(x:Int)∧(x:Int)<(↑(nth d.1.2.1 d.2.1.toNat).length:Int)∧(0:Int)≤d.2.1∧d.2.1<(↑(U.js (U.ro d.1.1) d.1.2.1 k d.2.1.toNat d.2.2.1 (U.jm d.1) x).1.length:Int)∧d.1.1.isSome=true∧((jY ((((0:Int),[],[],()),[],[],(0:Int),(0:Int),[],()),[],[],[],()) d.1.1).2.2.1.length<4611686018427387904→(∃(x_4:Nat),(((0:Int)=(x_4:Int)∧True)∧True)∧x_4≤(U.wP (U.ro d.1.1)).length∧U.gp (U.ro d.1.1) ((U.js (U.ro d.1.1) d.1.2.1 k d.2.1.toNat d.2.2.1 (U.jm d.1) x).1.set d.2.1.toNat (nth (nth d.1.2.1 d.2.1.toNat) (x:Int).toNat)) d.2.1.toNat x_4=true)∧∀(x_4:Nat),x_4≤(U.wP (U.ro d.1.1)).length∧U.gp (U.ro d.1.1) ((U.js (U.ro d.1.1) d.1.2.1 k d.2.1.toNat d.2.2.1 (U.jm d.1) x).1.set d.2.1.toNat (nth (nth d.1.2.1 d.2.1.toNat) (x:Int).toNat)) d.2.1.toNat x_4=true→(decide ((x_4:Int)<(↑(jY ((((0:Int),[],[],()),[],[],(0:Int),(0:Int),[],()),[],[],[],()) d.1.1).2.2.1.length:Int))=true→jx (d.2.1+(1:Int))∧(0:Int)≤(0:Int)∧(0:Int)≤d.2.1+(1:Int)∧d.2.1+(1:Int)≤(↑((U.js (U.ro d.1.1) d.1.2.1 k d.2.1.toNat d.2.2.1 (U.jm d.1) x).1.set d.2.1.toNat (nth (nth d.1.2.1 d.2.1.toNat) (x:Int).toNat)).length:Int)∧((d.2.1+(1:Int)).toNat-Int.toNat (0:Int)<4611686018427387904→(∃(x_8:Nat),(((0:Int)=(x_8:Int)∧True∧True)∧U.wx ((U.js (U.ro d.1.1) d.1.2.1 k d.2.1.toNat d.2.2.1 (U.jm d.1) x).1.set d.2.1.toNat (nth (nth d.1.2.1 d.2.1.toNat) (x:Int).toNat)) (x_4:Int) x_8=[]∧True)∧x_8≤d.2.1.toNat+1)∧∀(x_8:Nat),x_8≤d.2.1.toNat+1→(decide ((x_8:Int)<(↑((d.2.1+(1:Int)).toNat-Int.toNat (0:Int)):Int))=true→(0:Int)≤(x_8:Int)∧(x_8:Int)<(↑((d.2.1+(1:Int)).toNat-Int.toNat (0:Int)):Int)∧(0:Int)≤(x_4:Int)∧(x_4:Int)≤(64:Int)∧(decide (ya (nth ((U.js (U.ro d.1.1) d.1.2.1 k d.2.1.toNat d.2.2.1 (U.jm d.1) x).1.set d.2.1.toNat (nth (nth d.1.2.1 d.2.1.toNat) (x:Int).toNat)) (Int.toNat (0:Int)+(x_8:Int).toNat)/(2:Int)^(x_4:Int).toNat) (1:Int)=(1:Int))=true→((U.wx ((U.js (U.ro d.1.1) d.1.2.1 k d.2.1.toNat d.2.2.1 (U.jm d.1) x).1.set d.2.1.toNat (nth (nth d.1.2.1 d.2.1.toNat) (x:Int).toNat)) (x_4:Int) x_8).length+[(x_8:Int)].length)*8≤140737488355328∧jx ((x_8:Int)+(1:Int))∧∃(x':Nat),(((x_8:Int)+(1:Int)=(x':Int)∧True∧True)∧U.wx ((U.js (U.ro d.1.1) d.1.2.1 k d.2.1.toNat d.2.2.1 (U.jm d.1) x).1.set d.2.1.toNat (nth (nth d.1.2.1 d.2.1.toNat) (x:Int).toNat)) (x_4:Int) x_8++[(x_8:Int)]=U.wx ((U.js (U.ro d.1.1) d.1.2.1 k d.2.1.toNat d.2.2.1 (U.jm d.1) x).1.set d.2.1.toNat (nth (nth d.1.2.1 d.2.1.toNat) (x:Int).toNat)) (x_4:Int) x'∧True)∧x'≤d.2.1.toNat+1∧d.2.1.toNat+1-x'<d.2.1.toNat+1-x_8)∧(decide (ya (nth ((U.js (U.ro d.1.1) d.1.2.1 k d.2.1.toNat d.2.2.1 (U.jm d.1) x).1.set d.2.1.toNat (nth (nth d.1.2.1 d.2.1.toNat) (x:Int).toNat)) (Int.toNat (0:Int)+(x_8:Int).toNat)/(2:Int)^(x_4:Int).toNat) (1:Int)=(1:Int))=false→jx ((x_8:Int)+(1:Int))∧∃(x':Nat),((True∧(x_8:Int)+(1:Int)=(x':Int)∧True)∧U.wx ((U.js (U.ro d.1.1) d.1.2.1 k d.2.1.toNat d.2.2.1 (U.jm d.1) x).1.set d.2.1.toNat (nth (nth d.1.2.1 d.2.1.toNat) (x:Int).toNat)) (x_4:Int) x_8=U.wx ((U.js (U.ro d.1.1) d.1.2.1 k d.2.1.toNat d.2.2.1 (U.jm d.1) x).1.set d.2.1.toNat (nth (nth d.1.2.1 d.2.1.toNat) (x:Int).toNat)) (x_4:Int) x'∧True)∧x'≤d.2.1.toNat+1∧d.2.1.toNat+1-x'<d.2.1.toNat+1-x_8))∧(decide ((x_8:Int)<(↑((d.2.1+(1:Int)).toNat-Int.toNat (0:Int)):Int))=false→d.1.1.isSome=true∧U.jsi (U.ro d.1.1)∧U.jsh (U.rd (U.ro d.1.1)) (x_4:Int)∧U.jkv (U.rd (U.ro d.1.1)) (U.wx ((U.js (U.ro d.1.1) d.1.2.1 k d.2.1.toNat d.2.2.1 (U.jm d.1) x).1.set d.2.1.toNat (nth (nth d.1.2.1 d.2.1.toNat) (x:Int).toNat)) (x_4:Int) x_8)∧((!U.jkE (U.ro d.1.1) (x_4:Int) (U.wx ((U.js (U.ro d.1.1) d.1.2.1 k d.2.1.toNat d.2.2.1 (U.jm d.1) x).1.set d.2.1.toNat (nth (nth d.1.2.1 d.2.1.toNat) (x:Int).toNat)) (x_4:Int) x_8))=true→jx ((x:Int)+(1:Int))∧∃(x':Nat),(((x:Int)+(1:Int)=(x':Int)∧True)∧(U.js (U.ro d.1.1) d.1.2.1 k d.2.1.toNat d.2.2.1 (U.jm d.1) x).2.1=(U.js (U.ro d.1.1) d.1.2.1 k d.2.1.toNat d.2.2.1 (U.jm d.1) x').2.1∧(d.1.1=d.1.1∧True∧True∧True∧(U.js (U.ro d.1.1) d.1.2.1 k d.2.1.toNat d.2.2.1 (U.jm d.1) x).2.2.1=(U.js (U.ro d.1.1) d.1.2.1 k d.2.1.toNat d.2.2.1 (U.jm d.1) x').2.2.1∧(U.js (U.ro d.1.1) d.1.2.1 k d.2.1.toNat d.2.2.1 (U.jm d.1) x).2.2.2=(U.js (U.ro d.1.1) d.1.2.1 k d.2.1.toNat d.2.2.1 (U.jm d.1) x').2.2.2∧True)∧(U.js (U.ro d.1.1) d.1.2.1 k d.2.1.toNat d.2.2.1 (U.jm d.1) x).1.set d.2.1.toNat (nth (nth d.1.2.1 d.2.1.toNat) (x:Int).toNat)=(U.js (U.ro d.1.1) d.1.2.1 k d.2.1.toNat d.2.2.1 (U.jm d.1) x').1∧True)∧(x'≤(nth d.1.2.1 d.2.1.toNat).length∧(U.js (U.ro d.1.1) d.1.2.1 k d.2.1.toNat d.2.2.1 (U.jm d.1) x').1.length=d.1.2.2.1.length)∧(nth d.1.2.1 d.2.1.toNat).length-x'<(nth d.1.2.1 d.2.1.toNat).length-x)∧((!U.jkE (U.ro d.1.1) (x_4:Int) (U.wx ((U.js (U.ro d.1.1) d.1.2.1 k d.2.1.toNat d.2.2.1 (U.jm d.1) x).1.set d.2.1.toNat (nth (nth d.1.2.1 d.2.1.toNat) (x:Int).toNat)) (x_4:Int) x_8))=false→jx ((x_4:Int)+(1:Int))∧∃(x':Nat),(((x_4:Int)+(1:Int)=(x':Int)∧True)∧True)∧(x'≤(U.wP (U.ro d.1.1)).length∧U.gp (U.ro d.1.1) ((U.js (U.ro d.1.1) d.1.2.1 k d.2.1.toNat d.2.2.1 (U.jm d.1) x).1.set d.2.1.toNat (nth (nth d.1.2.1 d.2.1.toNat) (x:Int).toNat)) d.2.1.toNat x'=true)∧(U.wP (U.ro d.1.1)).length-x'<(U.wP (U.ro d.1.1)).length-x_4))))∧(decide ((x_4:Int)<(↑(jY ((((0:Int),[],[],()),[],[],(0:Int),(0:Int),[],()),[],[],[],()) d.1.1).2.2.1.length:Int))=false→jx (d.2.1+(1:Int))∧d.1.1.isSome=true∧U.jq (U.jo (U.rd (U.ro d.1.1)))=true∧(0:Int)≤nth (nth d.1.2.1 d.2.1.toNat) (x:Int).toNat∧nth (nth d.1.2.1 d.2.1.toNat) (x:Int).toNat≤(1000000:Int)∧jx (d.2.2.1+U.gC (U.rd (U.ro d.1.1)) (nth (nth d.1.2.1 d.2.1.toNat) (x:Int).toNat))∧U.jw8 k (d.1.1,d.1.2.1,(U.js (U.ro d.1.1) d.1.2.1 k d.2.1.toNat d.2.2.1 (U.jm d.1) x).1.set d.2.1.toNat (nth (nth d.1.2.1 d.2.1.toNat) (x:Int).toNat),(U.js (U.ro d.1.1) d.1.2.1 k d.2.1.toNat d.2.2.1 (U.jm d.1) x).2.1,(U.js (U.ro d.1.1) d.1.2.1 k d.2.1.toNat d.2.2.1 (U.jm d.1) x).2.2.1,(U.js (U.ro d.1.1) d.1.2.1 k d.2.1.toNat d.2.2.1 (U.jm d.1) x).2.2.2,()) (d.2.1+(1:Int)) (d.2.2.1+U.gC (U.rd (U.ro d.1.1)) (nth (nth d.1.2.1 d.2.1.toNat) (x:Int).toNat))∧jx ((x:Int)+(1:Int))∧∃(x':Nat),(((x:Int)+(1:Int)=(x':Int)∧True)∧((U.yy (d.1.1,d.1.2.1,(U.js (U.ro d.1.1) d.1.2.1 k d.2.1.toNat d.2.2.1 (U.jm d.1) x).1.set d.2.1.toNat (nth (nth d.1.2.1 d.2.1.toNat) (x:Int).toNat),(U.js (U.ro d.1.1) d.1.2.1 k d.2.1.toNat d.2.2.1 (U.jm d.1) x).2.1,(U.js (U.ro d.1.1) d.1.2.1 k d.2.1.toNat d.2.2.1 (U.jm d.1) x).2.2.1,(U.js (U.ro d.1.1) d.1.2.1 k d.2.1.toNat d.2.2.1 (U.jm d.1) x).2.2.2,()) (U.vQ (U.ro d.1.1) d.1.2.1 k (d.2.1+(1:Int)).toNat (d.2.2.1+U.gC (U.rd (U.ro d.1.1)) (nth (nth d.1.2.1 d.2.1.toNat) (x:Int).toNat)) (U.jm (d.1.1,d.1.2.1,(U.js (U.ro d.1.1) d.1.2.1 k d.2.1.toNat d.2.2.1 (U.jm d.1) x).1.set d.2.1.toNat (nth (nth d.1.2.1 d.2.1.toNat) (x:Int).toNat),(U.js (U.ro d.1.1) d.1.2.1 k d.2.1.toNat d.2.2.1 (U.jm d.1) x).2.1,(U.js (U.ro d.1.1) d.1.2.1 k d.2.1.toNat d.2.2.1 (U.jm d.1) x).2.2.1,(U.js (U.ro d.1.1) d.1.2.1 k d.2.1.toNat d.2.2.1 (U.jm d.1) x).2.2.2,())))).1=d.1.1∧True∧True∧True∧(U.yy (d.1.1,d.1.2.1,(U.js (U.ro d.1.1) d.1.2.1 k d.2.1.toNat d.2.2.1 (U.jm d.1) x).1.set d.2.1.toNat (nth (nth d.1.2.1 d.2.1.toNat) (x:Int).toNat),(U.js (U.ro d.1.1) d.1.2.1 k d.2.1.toNat d.2.2.1 (U.jm d.1) x).2.1,(U.js (U.ro d.1.1) d.1.2.1 k d.2.1.toNat d.2.2.1 (U.jm d.1) x).2.2.1,(U.js (U.ro d.1.1) d.1.2.1 k d.2.1.toNat d.2.2.1 (U.jm d.1) x).2.2.2,()) (U.vQ (U.ro d.1.1) d.1.2.1 k (d.2.1+(1:Int)).toNat (d.2.2.1+U.gC (U.rd (U.ro d.1.1)) (nth (nth d.1.2.1 d.2.1.toNat) (x:Int).toNat)) (U.jm (d.1.1,d.1.2.1,(U.js (U.ro d.1.1) d.1.2.1 k d.2.1.toNat d.2.2.1 (U.jm d.1) x).1.set d.2.1.toNat (nth (nth d.1.2.1 d.2.1.toNat) (x:Int).toNat),(U.js (U.ro d.1.1) d.1.2.1 k d.2.1.toNat d.2.2.1 (U.jm d.1) x).2.1,(U.js (U.ro d.1.1) d.1.2.1 k d.2.1.toNat d.2.2.1 (U.jm d.1) x).2.2.1,(U.js (U.ro d.1.1) d.1.2.1 k d.2.1.toNat d.2.2.1 (U.jm d.1) x).2.2.2,())))).2.2.2.2.1=(U.js (U.ro d.1.1) d.1.2.1 k d.2.1.toNat d.2.2.1 (U.jm d.1) x').2.2.1∧(U.yy (d.1.1,d.1.2.1,(U.js (U.ro d.1.1) d.1.2.1 k d.2.1.toNat d.2.2.1 (U.jm d.1) x).1.set d.2.1.toNat (nth (nth d.1.2.1 d.2.1.toNat) (x:Int).toNat),(U.js (U.ro d.1.1) d.1.2.1 k d.2.1.toNat d.2.2.1 (U.jm d.1) x).2.1,(U.js (U.ro d.1.1) d.1.2.1 k d.2.1.toNat d.2.2.1 (U.jm d.1) x).2.2.1,(U.js (U.ro d.1.1) d.1.2.1 k d.2.1.toNat d.2.2.1 (U.jm d.1) x).2.2.2,()) (U.vQ (U.ro d.1.1) d.1.2.1 k (d.2.1+(1:Int)).toNat (d.2.2.1+U.gC (U.rd (U.ro d.1.1)) (nth (nth d.1.2.1 d.2.1.toNat) (x:Int).toNat)) (U.jm (d.1.1,d.1.2.1,(U.js (U.ro d.1.1) d.1.2.1 k d.2.1.toNat d.2.2.1 (U.jm d.1) x).1.set d.2.1.toNat (nth (nth d.1.2.1 d.2.1.toNat) (x:Int).toNat),(U.js (U.ro d.1.1) d.1.2.1 k d.2.1.toNat d.2.2.1 (U.jm d.1) x).2.1,(U.js (U.ro d.1.1) d.1.2.1 k d.2.1.toNat d.2.2.1 (U.jm d.1) x).2.2.1,(U.js (U.ro d.1.1) d.1.2.1 k d.2.1.toNat d.2.2.1 (U.jm d.1) x).2.2.2,())))).2.2.2.2.2.1=(U.js (U.ro d.1.1) d.1.2.1 k d.2.1.toNat d.2.2.1 (U.jm d.1) x').2.2.2∧True)∧(U.yy (d.1.1,d.1.2.1,(U.js (U.ro d.1.1) d.1.2.1 k d.2.1.toNat d.2.2.1 (U.jm d.1) x).1.set d.2.1.toNat (nth (nth d.1.2.1 d.2.1.toNat) (x:Int).toNat),(U.js (U.ro d.1.1) d.1.2.1 k d.2.1.toNat d.2.2.1 (U.jm d.1) x).2.1,(U.js (U.ro d.1.1) d.1.2.1 k d.2.1.toNat d.2.2.1 (U.jm d.1) x).2.2.1,(U.js (U.ro d.1.1) d.1.2.1 k d.2.1.toNat d.2.2.1 (U.jm d.1) x).2.2.2,()) (U.vQ (U.ro d.1.1) d.1.2.1 k (d.2.1+(1:Int)).toNat (d.2.2.1+U.gC (U.rd (U.ro d.1.1)) (nth (nth d.1.2.1 d.2.1.toNat) (x:Int).toNat)) (U.jm (d.1.1,d.1.2.1,(U.js (U.ro d.1.1) d.1.2.1 k d.2.1.toNat d.2.2.1 (U.jm d.1) x).1.set d.2.1.toNat (nth (nth d.1.2.1 d.2.1.toNat) (x:Int).toNat),(U.js (U.ro d.1.1) d.1.2.1 k d.2.1.toNat d.2.2.1 (U.jm d.1) x).2.1,(U.js (U.ro d.1.1) d.1.2.1 k d.2.1.toNat d.2.2.1 (U.jm d.1) x).2.2.1,(U.js (U.ro d.1.1) d.1.2.1 k d.2.1.toNat d.2.2.1 (U.jm d.1) x).2.2.2,())))).2.1=d.1.2.1∧(U.yy (d.1.1,d.1.2.1,(U.js (U.ro d.1.1) d.1.2.1 k d.2.1.toNat d.2.2.1 (U.jm d.1) x).1.set d.2.1.toNat (nth (nth d.1.2.1 d.2.1.toNat) (x:Int).toNat),(U.js (U.ro d.1.1) d.1.2.1 k d.2.1.toNat d.2.2.1 (U.jm d.1) x).2.1,(U.js (U.ro d.1.1) d.1.2.1 k d.2.1.toNat d.2.2.1 (U.jm d.1) x).2.2.1,(U.js (U.ro d.1.1) d.1.2.1 k d.2.1.toNat d.2.2.1 (U.jm d.1) x).2.2.2,()) (U.vQ (U.ro d.1.1) d.1.2.1 k (d.2.1+(1:Int)).toNat (d.2.2.1+U.gC (U.rd (U.ro d.1.1)) (nth (nth d.1.2.1 d.2.1.toNat) (x:Int).toNat)) (U.jm (d.1.1,d.1.2.1,(U.js (U.ro d.1.1) d.1.2.1 k d.2.1.toNat d.2.2.1 (U.jm d.1) x).1.set d.2.1.toNat (nth (nth d.1.2.1 d.2.1.toNat) (x:Int).toNat),(U.js (U.ro d.1.1) d.1.2.1 k d.2.1.toNat d.2.2.1 (U.jm d.1) x).2.1,(U.js (U.ro d.1.1) d.1.2.1 k d.2.1.toNat d.2.2.1 (U.jm d.1) x).2.2.1,(U.js (U.ro d.1.1) d.1.2.1 k d.2.1.toNat d.2.2.1 (U.jm d.1) x).2.2.2,())))).2.2.2.1=(U.js (U.ro d.1.1) d.1.2.1 k d.2.1.toNat d.2.2.1 (U.jm d.1) x').2.1∧(U.yy (d.1.1,d.1.2.1,(U.js (U.ro d.1.1) d.1.2.1 k d.2.1.toNat d.2.2.1 (U.jm d.1) x).1.set d.2.1.toNat (nth (nth d.1.2.1 d.2.1.toNat) (x:Int).toNat),(U.js (U.ro d.1.1) d.1.2.1 k d.2.1.toNat d.2.2.1 (U.jm d.1) x).2.1,(U.js (U.ro d.1.1) d.1.2.1 k d.2.1.toNat d.2.2.1 (U.jm d.1) x).2.2.1,(U.js (U.ro d.1.1) d.1.2.1 k d.2.1.toNat d.2.2.1 (U.jm d.1) x).2.2.2,()) (U.vQ (U.ro d.1.1) d.1.2.1 k (d.2.1+(1:Int)).toNat (d.2.2.1+U.gC (U.rd (U.ro d.1.1)) (nth (nth d.1.2.1 d.2.1.toNat) (x:Int).toNat)) (U.jm (d.1.1,d.1.2.1,(U.js (U.ro d.1.1) d.1.2.1 k d.2.1.toNat d.2.2.1 (U.jm d.1) x).1.set d.2.1.toNat (nth (nth d.1.2.1 d.2.1.toNat) (x:Int).toNat),(U.js (U.ro d.1.1) d.1.2.1 k d.2.1.toNat d.2.2.1 (U.jm d.1) x).2.1,(U.js (U.ro d.1.1) d.1.2.1 k d.2.1.toNat d.2.2.1 (U.jm d.1) x).2.2.1,(U.js (U.ro d.1.1) d.1.2.1 k d.2.1.toNat d.2.2.1 (U.jm d.1) x).2.2.2,())))).2.2.1=(U.js (U.ro d.1.1) d.1.2.1 k d.2.1.toNat d.2.2.1 (U.jm d.1) x').1∧True)∧(x'≤(nth d.1.2.1 d.2.1.toNat).length∧(U.js (U.ro d.1.1) d.1.2.1 k d.2.1.toNat d.2.2.1 (U.jm d.1) x').1.length=d.1.2.2.1.length)∧(nth d.1.2.1 d.2.1.toNat).length-x'<(nth d.1.2.1 d.2.1.toNat).length-x)))∧(decide ((x:Int)<(↑(nth d.1.2.1 d.2.1.toNat).length:Int))=false→()=()∧((d.1.1,d.1.2.1,(U.js (U.ro d.1.1) d.1.2.1 k d.2.1.toNat d.2.2.1 (U.jm d.1) x).1,(U.js (U.ro d.1.1) d.1.2.1 k d.2.1.toNat d.2.2.1 (U.jm d.1) x).2.1,(U.js (U.ro d.1.1) d.1.2.1 k d.2.1.toNat d.2.2.1 (U.jm d.1) x).2.2.1,(U.js (U.ro d.1.1) d.1.2.1 k d.2.1.toNat d.2.2.1 (U.jm d.1) x).2.2.2,()),())=(U.yy d.1 (U.vQ (U.ro d.1.1) d.1.2.1 (k+1) d.2.1.toNat d.2.2.1 (U.jm d.1)),()))))))
theorem jfD:(jmb)=jcq:=by kernel_rfl
end Go.X
namespace Go.X
open Go.Proofs
theorem ji4:gR:=by
  rintro⟨l,⟨⟩⟩ hl;have hl:l.length≤100000:=hl;exact⟨fun h=>(by cases h),fun _=>⟨by show(0+l.length)*8≤_;omega,rfl,rfl⟩⟩
theorem jhx:yf PR 82 qO:=jgj (jc8.mpr ji4) Tryz.func82 (by kernel_rfl) (by kernel_rfl) (by kernel_rfl) (by kernel_rfl) (by kernel_rfl) trivial trivial
theorem jwY (ts:List Int) (p:Int) (n:Nat):U.wx ts p (n+1)=U.wx ts p n++(if decide (ya (nth ts n/2^p.toNat) 1=1)=true then[(n:Int)] else[]):=by
  unfold U.wx;rw[L.range_filter_succ,jHF];by_cases h:decide (ya (nth ts n/2^p.toNat) 1=1)=true
  · rw[if_pos h,if_pos h];rfl
  · rw[if_neg h,if_neg h];rfl
theorem jrW (ts:List Int) (p:Int) (n:Nat):(U.wx ts p n).length≤n:=by
  unfold U.wx;rw[jHO];exact jG5 (jHM _ _) (by simp)
theorem jzk {ts:List Int} {p:Int} {n:Nat} {b:Int} (h:b∈U.wx ts p n):0≤b∧b<(n:Int):=by
  unfold U.wx at h;obtain⟨i,hi,rfl⟩:=jHs.1 h;have:=jG9.1 (jHg.1 hi).1;omega
theorem jt9 {r:RoD} {ts:List Int} {b n:Nat}:U.gp r ts b (n+1)=(U.gp r ts b n&&U.jkE r (n:Int) (U.wx ts (n:Int) (b+1))):=by
  unfold U.gp;rw[jHu,List.all_append];simp
theorem jrV {r:RoD} {ts:List Int} {b n m:Nat} (hm:m<n) (h:U.jkE r (m:Int) (U.wx ts (m:Int) (b+1))=false):U.gp r ts b n=false:=by
  unfold U.gp;rw[jH0];exact⟨m,jG9.2 hm,by rw[h];simp⟩
theorem jry {r:RoD} {ch:List (List Int)} {k b:Nat} {fee:Int} {x:StD} {n:Nat} (h:n<(nth ch b).length):U.js r ch k b fee x (n+1)=U.jpU r ch k b fee (U.js r ch k b fee x n) (nth (nth ch b) n):=by
  unfold U.js;rw[L.take_succ h,jHp];rfl
theorem jrx {r:RoD} {ch:List (List Int)} {k b:Nat} {fee:Int} {x:StD} (h1:(x.2.2.2&&decide (x.2.2.1≤fee))=false) (h2:b≠(U.jv (U.rd r)).length):U.vQ r ch (k+1) b fee x=U.js r ch k b fee x (nth ch b).length:=by
  show(if(x.2.2.2&&decide (x.2.2.1≤fee))=true then x else if b=(U.jv (U.rd r)).length then(x.1,x.1,fee,true) else(nth ch b).foldl (U.jpU r ch k b fee) x)=_;rw[h1,if_neg (by simp),if_neg h2];unfold U.js;rw[jHH (jGU _)]
mutual
theorem jBv {r:RoD} {ch:List (List Int)}:∀(k b:Nat) (fee:Int) (x:StD),(U.vQ r ch k b fee x).1.length=x.1.length
  |0,_,_,_=>rfl
  |k+1,b,fee,x=>by
    by_cases h1:(x.2.2.2&&decide (x.2.2.1≤fee))=true
    · show(if(x.2.2.2&&decide (x.2.2.1≤fee))=true then x else _).1.length=_
      rw[if_pos h1]
    · by_cases h2:b=(U.jv (U.rd r)).length
      · show(if(x.2.2.2&&decide (x.2.2.1≤fee))=true then x else if b=(U.jv (U.rd r)).length then(x.1,x.1,fee,true) else _).1.length=_
        rw[if_neg h1,if_pos h2]
      · rw[jrx (by simpa using h1) h2]
        exact jpT k b fee x _ (jGU _)
termination_by k=>(k,0)
theorem jpT {r:RoD} {ch:List (List Int)}:∀(k b:Nat) (fee:Int) (x:StD) (n:Nat),n≤(nth ch b).length→(U.js r ch k b fee x n).1.length=x.1.length
  |_,_,_,_,0,_=>rfl
  |k,b,fee,x,n+1,h=>by
    rw[jry h]
    have ih:=jpT (r:=r) (ch:=ch) k b fee x n (by omega)
    unfold U.jpU
    split
    · rw[jBv k]
      show((U.js r ch k b fee x n).1.set b _).length=_
      rw[jIe,ih]
    · show((U.js r ch k b fee x n).1.set b _).length=_
      rw[jIe,ih]
termination_by k _ _ _ n=>(k,n+1)
end
theorem jmO:jcq:=by
  rintro k ⟨s,b,fee,⟨⟩⟩ h0;obtain⟨hs1,hmay,hon,⟨hc1,hc2⟩,hts,⟨b0,b1,b2⟩,f0,f1⟩:U.jw8 (k+1) s b fee:=h0;obtain⟨B,hB⟩:∃B:Nat,b=(B:Int):=⟨b.toNat,by omega⟩;subst hB;have hD:=hmay.1;have hb4:(U.jv (U.rd (U.ro s.1))).length≤4:=(zm hD.2.2).1;have h8:(U.ji (U.jo (U.rd (U.ro s.1)))).length≤8:=(jG hD.1).2.2.1;refine⟨fun h=>⟨rfl,?_⟩,fun h=>⟨hs1,fun _=>⟨fun h2=>⟨?_,rfl,?_⟩,fun h2=> ?_⟩⟩⟩
  · have h:((U.jm s).2.2.2&&decide ((U.jm s).2.2.1≤fee))=true:=h;have e:U.vQ (U.ro s.1) s.2.1 (k+1) B fee (U.jm s)=U.jm s:=by
      show(if((U.jm s).2.2.2&&decide ((U.jm s).2.2.1≤fee))=true then U.jm s else _)=_;rw[if_pos h]
    show(s,())=(U.yy s (U.vQ (U.ro s.1) s.2.1 (k+1) B fee (U.jm s)),());rw[e];rfl
  · show s.2.2.1.length≤100000;omega
  · have h2:(B:Int)=((U.jv (U.rd (U.ro s.1))).length:Int):=of_decide_eq_true h2;have h:((U.jm s).2.2.2&&decide ((U.jm s).2.2.1≤fee))=false:=h;have e:U.vQ (U.ro s.1) s.2.1 (k+1) B fee (U.jm s)=(s.2.2.1,s.2.2.1,fee,true):=by
      show(if((U.jm s).2.2.2&&decide ((U.jm s).2.2.1≤fee))=true then U.jm s else if B=(U.jv (U.rd (U.ro s.1))).length then((U.jm s).1,(U.jm s).1,fee,true) else _)=_;rw[h,if_neg (by simp),if_pos (by omega)];rfl
    show((s.1,s.2.1,s.2.2.1,s.2.2.1,fee,true,()),())=(U.yy s (U.vQ (U.ro s.1) s.2.1 (k+1) B fee (U.jm s)),());rw[e];rfl
  have h2:¬(B:Int)=((U.jv (U.rd (U.ro s.1))).length:Int):=of_decide_eq_false h2;have h:((U.jm s).2.2.2&&decide ((U.jm s).2.2.1≤fee))=false:=h;have hBn:B<(U.jv (U.rd (U.ro s.1))).length:=(by omega);have hall:=jrx (r:=U.ro s.1) (ch:=s.2.1) (k:=k) (b:=B) (fee:=fee) h (by omega);have hB64:jx ((B:Int)+1):=L.in64 (by omega) (by omega);have hB0:0≤(B:Int)+1:=(by omega);refine⟨b0,by show(B:Int)<(s.2.1.length:Int);omega,fun hfl=>⟨⟨0,⟨⟨rfl,trivial⟩,⟨rfl,trivial,trivial,trivial,rfl,rfl,trivial⟩,rfl,rfl,trivial⟩,jG2 _,rfl⟩,fun x hx=>⟨fun h3=> ?_,fun h3=>⟨rfl,?_⟩⟩⟩⟩
  · have h3:(x:Int)<((nth s.2.1 B).length:Int):=of_decide_eq_true h3;have hfl:(nth s.2.1 B).length<4611686018427387904:=hfl;have hxl:x<(nth s.2.1 B).length:=(by omega);obtain⟨_,hlen⟩:x≤(nth s.2.1 B).length∧(U.js (U.ro s.1) s.2.1 k B fee (U.jm s) x).1.length=s.2.2.1.length:=hx;have hnext:=jry (r:=U.ro s.1) (ch:=s.2.1) (k:=k) (b:=B) (fee:=fee) (x:=U.jm s) hxl;have hnl:=jpT (r:=U.ro s.1) (ch:=s.2.1) k B fee (U.jm s) (x+1) (by omega);have hnl:(U.js (U.ro s.1) s.2.1 k B fee (U.jm s) (x+1)).1.length=s.2.2.1.length:=hnl;have ht:=hc2 _ (L.mem_nth (l:=s.2.1) (i:=B) (by omega)) _ (L.mem_nth hxl);have up:x+1≤(nth s.2.1 B).length:=hxl;have dn:(nth s.2.1 B).length-(x+1)<(nth s.2.1 B).length-x:=(by omega);have tl:((U.js (U.ro s.1) s.2.1 k B fee (U.jm s) x).1.set B (nth (nth s.2.1 B) x)).length=(U.jv (U.rd (U.ro s.1))).length:=by
      rw[jIe,hlen,hts]
    refine⟨by omega,h3,b0,by show(B:Int)<((U.js (U.ro s.1) s.2.1 k B fee (U.jm s) x).1.length:Int);omega,hs1,fun _=>⟨⟨0,⟨⟨rfl,trivial⟩,trivial⟩,jG2 _,rfl⟩,fun p hp=>⟨fun h4=>⟨hB64,jHT 0,hB0,?_,fun _=>⟨⟨0,⟨⟨rfl,trivial,trivial⟩,rfl,trivial⟩,jG2 _⟩,fun j hj=>⟨fun h5=> ?_,fun h5=> ?_⟩⟩⟩,fun h4=> ?_⟩⟩⟩
    · show(B:Int)+1≤(((U.js (U.ro s.1) s.2.1 k B fee (U.jm s) x).1.set B (nth (nth s.2.1 B) x)).length:Int);rw[tl];omega
    · have h5:(j:Int)<((((B:Int)+1).toNat-Int.toNat 0:Nat):Int):=of_decide_eq_true h5;have e5:((B:Int)+1).toNat-Int.toNat 0=B+1:=(by simp only[Int.toNat_zero];omega);rw[e5] at h5;have h4:(p:Int)<((U.wP (U.ro s.1)).length:Int):=of_decide_eq_true h4;have hj:j≤B+1:=hj;have hos:=jwY ((U.js (U.ro s.1) s.2.1 k B fee (U.jm s) x).1.set B (nth (nth s.2.1 B) x)) (p:Int) j;have hol:=jrW ((U.js (U.ro s.1) s.2.1 k B fee (U.jm s) x).1.set B (nth (nth s.2.1 B) x)) (p:Int) j;have e0:Int.toNat 0+(j:Int).toNat=j:=(by simp);have eb:∀β:Bool,decide (ya (nth ((U.js (U.ro s.1) s.2.1 k B fee (U.jm s) x).1.set B (nth (nth s.2.1 B) x)) (Int.toNat 0+(j:Int).toNat)/2^(p:Int).toNat) 1=1)=β→decide (ya (nth ((U.js (U.ro s.1) s.2.1 k B fee (U.jm s) x).1.set B (nth (nth s.2.1 B) x)) j/2^(p:Int).toNat) 1=1)=β:=by
        intro β hβ;rw[e0] at hβ;exact hβ
      refine⟨by omega,by show(j:Int)<((((B:Int)+1).toNat-Int.toNat 0:Nat):Int);rw[e5];exact h5,by omega,by omega,fun h6=>⟨?_,L.in64 (by omega) (by omega),j+1,⟨⟨by simp,trivial,trivial⟩,?_,trivial⟩,by show j+1≤B+1;omega,by show B+1-(j+1)<B+1-j;omega⟩,fun h6=>⟨L.in64 (by omega) (by omega),j+1,⟨⟨trivial,by simp,trivial⟩,?_,trivial⟩,by show j+1≤B+1;omega,by show B+1-(j+1)<B+1-j;omega⟩⟩
      · show((U.wx ((U.js (U.ro s.1) s.2.1 k B fee (U.jm s) x).1.set B (nth (nth s.2.1 B) x)) (p:Int) j).length+1)*8≤140737488355328;omega
      · rw[eb _ h6,if_pos rfl] at hos;exact hos.symm
      · rw[eb _ h6,if_neg (by simp),jHf] at hos;exact hos.symm
    · have h5:¬(j:Int)<((((B:Int)+1).toNat-Int.toNat 0:Nat):Int):=of_decide_eq_false h5;have e5:((B:Int)+1).toNat-Int.toNat 0=B+1:=(by simp only[Int.toNat_zero];omega);rw[e5] at h5;have h4:(p:Int)<((U.wP (U.ro s.1)).length:Int):=of_decide_eq_true h4;have hj:j≤B+1:=hj;have hjl:j=B+1:=(by omega);subst hjl;have hol:=jrW ((U.js (U.ro s.1) s.2.1 k B fee (U.jm s) x).1.set B (nth (nth s.2.1 B) x)) (p:Int) (B+1);obtain⟨_,hpa⟩:p≤(U.wP (U.ro s.1)).length∧U.gp (U.ro s.1) ((U.js (U.ro s.1) s.2.1 k B fee (U.jm s) x).1.set B (nth (nth s.2.1 B) x)) B p=true:=hp;refine⟨hs1,hmay,⟨by omega,by show(p:Int)<((U.ji (U.jo (U.rd (U.ro s.1)))).length:Int);omega⟩,⟨by show(U.wx ((U.js (U.ro s.1) s.2.1 k B fee (U.jm s) x).1.set B (nth (nth s.2.1 B) x)) (p:Int) (B+1)).length≤12;omega,fun c hc=> ?_⟩,fun h6=> ?_,fun h6=> ?_⟩
      · have:=jzk hc;exact⟨this.1,by show c<((U.jv (U.rd (U.ro s.1))).length:Int);omega⟩
      · have h6:(!U.jkE (U.ro s.1) (p:Int) (U.wx ((U.js (U.ro s.1) s.2.1 k B fee (U.jm s) x).1.set B (nth (nth s.2.1 B) x)) (p:Int) (B+1)))=true:=h6;have h6:U.jkE (U.ro s.1) (p:Int) (U.wx ((U.js (U.ro s.1) s.2.1 k B fee (U.jm s) x).1.set B (nth (nth s.2.1 B) x)) (p:Int) (B+1))=false:=(by simpa using h6);have hno:=jrV (n:=(U.wP (U.ro s.1)).length) (by omega) h6;have e:U.js (U.ro s.1) s.2.1 k B fee (U.jm s) (x+1)=((U.js (U.ro s.1) s.2.1 k B fee (U.jm s) x).1.set B (nth (nth s.2.1 B) x),(U.js (U.ro s.1) s.2.1 k B fee (U.jm s) x).2):=by
          rw[hnext];unfold U.jpU;rw[hno,if_neg (by simp)]
        exact⟨L.in64 (by omega) (by omega),x+1,⟨⟨by simp,trivial⟩,congrArg (·.2.1) e.symm,⟨rfl,trivial,trivial,trivial,congrArg (·.2.2.1) e.symm,congrArg (·.2.2.2) e.symm,trivial⟩,congrArg (·.1) e.symm,trivial⟩,⟨up,hnl⟩,dn⟩
      · have h6:(!U.jkE (U.ro s.1) (p:Int) (U.wx ((U.js (U.ro s.1) s.2.1 k B fee (U.jm s) x).1.set B (nth (nth s.2.1 B) x)) (p:Int) (B+1)))=false:=h6;have h6:U.jkE (U.ro s.1) (p:Int) (U.wx ((U.js (U.ro s.1) s.2.1 k B fee (U.jm s) x).1.set B (nth (nth s.2.1 B) x)) (p:Int) (B+1))=true:=(by simpa using h6);refine⟨L.in64 (by omega) (by omega),p+1,⟨⟨by simp,trivial⟩,trivial⟩,⟨by show p+1≤(U.wP (U.ro s.1)).length;omega,?_⟩,by show(U.wP (U.ro s.1)).length-(p+1)<(U.wP (U.ro s.1)).length-p;omega⟩;show U.gp (U.ro s.1) ((U.js (U.ro s.1) s.2.1 k B fee (U.jm s) x).1.set B (nth (nth s.2.1 B) x)) B (p+1)=true;rw[jt9,hpa,h6];rfl
    · have h4:¬(p:Int)<((U.wP (U.ro s.1)).length:Int):=of_decide_eq_false h4;obtain⟨hp1,hpa⟩:p≤(U.wP (U.ro s.1)).length∧U.gp (U.ro s.1) ((U.js (U.ro s.1) s.2.1 k B fee (U.jm s) x).1.set B (nth (nth s.2.1 B) x)) B p=true:=hp;have hpl:p=(U.wP (U.ro s.1)).length:=(by omega);subst hpl;have hfee:=jqO hD.1 (nth (nth s.2.1 B) x) _ (jGU _);have hfee:0≤U.gC (U.rd (U.ro s.1)) (nth (nth s.2.1 B) x)∧U.gC (U.rd (U.ro s.1)) (nth (nth s.2.1 B) x)≤1000*((U.ji (U.jo (U.rd (U.ro s.1)))).length:Int):=hfee;have eB:((B:Int)+1).toNat=B+1:=(by omega);have e:U.js (U.ro s.1) s.2.1 k B fee (U.jm s) (x+1)=U.vQ (U.ro s.1) s.2.1 k ((B:Int)+1).toNat (fee+U.gC (U.rd (U.ro s.1)) (nth (nth s.2.1 B) x)) ((U.js (U.ro s.1) s.2.1 k B fee (U.jm s) x).1.set B (nth (nth s.2.1 B) x),(U.js (U.ro s.1) s.2.1 k B fee (U.jm s) x).2):=by
        rw[hnext,eB];unfold U.jpU;rw[if_pos hpa]
      refine⟨hB64,hs1,hD.1,ht.1,by show nth (nth s.2.1 B) x≤1000000;have:=ht.2;omega,?_,⟨hs1,hmay,hon,⟨hc1,hc2⟩,tl,⟨by omega,by show(B:Int)+1≤((U.jv (U.rd (U.ro s.1))).length:Int);omega,by show((U.jv (U.rd (U.ro s.1))).length:Int)<(B:Int)+1+(k:Int);omega⟩,?_,?_⟩,L.in64 (by omega) (by omega),x+1,⟨⟨by simp,trivial⟩,⟨rfl,trivial,trivial,trivial,congrArg (·.2.2.1) e.symm,congrArg (·.2.2.2) e.symm,trivial⟩,rfl,congrArg (·.2.1) e.symm,congrArg (·.1) e.symm,trivial⟩,⟨up,hnl⟩,dn⟩
      · show jx (fee+U.gC (U.rd (U.ro s.1)) (nth (nth s.2.1 B) x));exact L.in64 (by omega) (by omega)
      · show 0≤fee+U.gC (U.rd (U.ro s.1)) (nth (nth s.2.1 B) x);omega
      · show fee+U.gC (U.rd (U.ro s.1)) (nth (nth s.2.1 B) x)≤8000*((B:Int)+1);omega
  · have h3:¬(x:Int)<((nth s.2.1 B).length:Int):=of_decide_eq_false h3;have hx1:x≤(nth s.2.1 B).length:=hx.1;have hxl:x=(nth s.2.1 B).length:=(by omega);subst hxl;show((s.1,s.2.1,(U.js (U.ro s.1) s.2.1 k B fee (U.jm s) (nth s.2.1 B).length).1,(U.js (U.ro s.1) s.2.1 k B fee (U.jm s) (nth s.2.1 B).length).2.1,(U.js (U.ro s.1) s.2.1 k B fee (U.jm s) (nth s.2.1 B).length).2.2.1,(U.js (U.ro s.1) s.2.1 k B fee (U.jm s) (nth s.2.1 B).length).2.2.2,()),())=(U.yy s (U.vQ (U.ro s.1) s.2.1 (k+1) B fee (U.jm s)),());rw[hall];rfl
theorem jcy:∀k:Nat,yf PR 41 (qe k)
  |0=>⟨qb Tryz.func41 (c:=jd Tryz.f41) (by kernel_rfl) (by kernel_rfl),fun H w vals d bs _ _ _ hp=>by
    obtain⟨⟨_,_,_,_,_,⟨h1,h2,h3⟩,_⟩,_⟩:=hp
    exact absurd h3 (by omega)⟩
  |k+1=>jgj (jfD.mpr jmO k) Tryz.func41 (by kernel_rfl) (by kernel_rfl) (by kernel_rfl) (by kernel_rfl) (by kernel_rfl) ⟨fun _=>jdL,fun _=>jmg,trivial⟩ ⟨jhx,jcy k,trivial⟩
end Go.X
namespace Go.X
open Go.Proofs
namespace U
def jEE (r:RoD) (b:Int) (t:Nat):Bool:=decide (jx2 (t:Int) (nth (jb5 r) b.toNat)=0)&&jh1 (rd r) b (t:Int)
def v8 (r:RoD) (b:Int) (n:Nat):List Int:=((List.range n).filter (jEE r b)).map (fun(t:Nat)=>(t:Int))
def wu (r:RoD) (n:Nat):List (List Int):=(List.range n).map (fun(b:Nat)=>v8 r (b:Int) (2^(ji (jo (rd r))).length))
def jGh (d:DyD):StD:=vQ (jra d) (wu (jra d) (jv d).length) 5 0 0 (List.replicate (jv d).length 0,yO,0,false)
def jga (d:DyD):Int:=if jI d=0 then(if(jGh d).2.2.2=true then 0 else 3) else jI d
def jkk (d:DyD):List Int:=if jga d=0 then(jGh d).2.1 else[]
def jkj (d:DyD):Int:=if jga d=0 then(jGh d).2.2.1 else 0
end U
def jlT:jW:=⟨[.val tDy],[.slice .int,.int,.int],false,fun d=>[(U.jT d.1).length≤100000],fun d=>(U.jkk d.1,U.jkj d.1,U.jga d.1,())⟩
def jA6:Ann:=fun r=>match r with
  |6=>some fun σ=>{X:=Nat,sl:=fun i=>[(28,.dat .int (i:Int))],ob:=fun i=>[(24,some (.box 70 false (((bx σ 24).set 1 (.own (jbb 24 1) (.slice .int))).set 3 (.own (jbb 24 3) .int)))),(jbb 24 3,some (.row 3 .int false .yes U.yO)),(jbb 24 1,some (.row 33 (.slice .int) false .yes (U.wu (U.ro (gd (.ptr tRo) σ 5)) i)))],inv:=fun i=>i≤(U.jv (gb tDy σ 1)).length,mu:=fun i=>(U.jv (gb tDy σ 1)).length-i}
  |10=>some fun σ=>{X:=Nat,sl:=fun t=>[(36,.dat .int (t:Int)),(8,.own 8 .int)],ob:=fun t=>[(8,some (.row 3 .int false .yes (U.v8 (U.ro (gd (.ptr tRo) σ 5)) (gd .int σ 7) t)))],inv:=fun t=>t≤2^(U.ji (U.jo (gb tDy σ 1))).length,mu:=fun t=>2^(U.ji (U.jo (gb tDy σ 1))).length-t}
  |_=>none
abbrev q99_2 (d:DyD×Unit):=(U.ro (U.zh d.1))
abbrev q99_3 (d:DyD×Unit):=(U.zh d.1=U.zh d.1∧True∧True∧True∧(0:Int)=(0:Int)∧false=false∧True)
abbrev q99_4 (d:DyD×Unit):=(d.1.2.2.1.length:Int)
abbrev q99_1 (d:DyD×Unit)(x:Nat):=(U.zh d.1,U.wu (q99_2 d) x,List.replicate (q99_4 d).toNat (0:Int),U.yO,(0:Int),false,())
abbrev q99_0 (d:DyD×Unit)(x:Nat):=(U.yy (q99_1 d x) (U.vQ (q99_2 d) (U.wu (q99_2 d) x) 5 (Int.toNat (0:Int)) (0:Int) (U.jm (q99_1 d x))))
abbrev q99_5 (d:DyD×Unit):=(U.ji (U.jo d.1))
abbrev q99_6 (d:DyD×Unit):=(U.jkk d.1,U.jkj d.1,U.jga d.1,())
abbrev q99_7 (d:DyD×Unit):=(d.1.1.2.1.length:Int)
def jrn:Prop:=∀(d:DyD×Unit),(U.jT d.1).length≤100000→(U.jT d.1).length≤100000∧(decide (U.jI d.1≠(0:Int))=true→([],(0:Int),U.jI d.1,())=(q99_6 d))∧(decide (U.jI d.1≠(0:Int))=false→d.1.2.2.1.length<4611686018427387904→(0:Int)≤(q99_4 d)∧(q99_4 d)=(q99_4 d)∧(q99_4 d).toNat*8≤140737488355328∧(d.1.2.2.1.length<4611686018427387904→(∃(x:Nat),(((0:Int)=(x:Int)∧True)∧(q99_3 d)∧U.yO=[]∧U.wu (q99_2 d) x=[]∧True)∧x≤(U.jv d.1).length)∧∀(x:Nat),x≤(U.jv d.1).length→(decide ((x:Int)<(q99_4 d))=true→d.1.1.2.1.length<4611686018427387904→(0:Int)≤(q99_7 d)∧(q99_7 d)≤(64:Int)∧jx ((1:Int)*(2:Int)^(q99_7 d).toNat)∧(∃(x_4:Nat),(((0:Int)=(x_4:Int)∧True∧True)∧U.v8 (q99_2 d) (x:Int) x_4=[]∧True)∧x_4≤2^(q99_5 d).length)∧∀(x_4:Nat),x_4≤2^(q99_5 d).length→(decide ((x_4:Int)<(1:Int)*(2:Int)^(q99_7 d).toNat)=true→(U.zh d.1).isSome=true∧(0:Int)≤(x:Int)∧(x:Int)<(↑(jY ((((0:Int),[],[],()),[],[],(0:Int),(0:Int),[],()),[],[],[],()) (U.zh d.1)).2.1.length:Int)∧(decide (jx2 (x_4:Int) (nth (jY ((((0:Int),[],[],()),[],[],(0:Int),(0:Int),[],()),[],[],[],()) (U.zh d.1)).2.1 (x:Int).toNat)=(0:Int))=true→(U.zh d.1).isSome=true)∧(decide (jx2 (x_4:Int) (nth (jY ((((0:Int),[],[],()),[],[],(0:Int),(0:Int),[],()),[],[],[],()) (U.zh d.1)).2.1 (x:Int).toNat)=(0:Int))=true→U.qo (U.rd (q99_2 d)) (x:Int))∧((decide (jx2 (x_4:Int) (nth (jY ((((0:Int),[],[],()),[],[],(0:Int),(0:Int),[],()),[],[],[],()) (U.zh d.1)).2.1 (x:Int).toNat)=(0:Int))&&U.jh1 (U.rd (q99_2 d)) (x:Int) (x_4:Int))=true→((U.v8 (q99_2 d) (x:Int) x_4).length+[(x_4:Int)].length)*8≤140737488355328∧jx ((x_4:Int)+(1:Int))∧∃(x':Nat),(((x_4:Int)+(1:Int)=(x':Int)∧True∧True)∧U.v8 (q99_2 d) (x:Int) x_4++[(x_4:Int)]=U.v8 (q99_2 d) (x:Int) x'∧True)∧x'≤2^(q99_5 d).length∧2^(q99_5 d).length-x'<2^(q99_5 d).length-x_4)∧((decide (jx2 (x_4:Int) (nth (jY ((((0:Int),[],[],()),[],[],(0:Int),(0:Int),[],()),[],[],[],()) (U.zh d.1)).2.1 (x:Int).toNat)=(0:Int))&&U.jh1 (U.rd (q99_2 d)) (x:Int) (x_4:Int))=false→jx ((x_4:Int)+(1:Int))∧∃(x':Nat),((True∧(x_4:Int)+(1:Int)=(x':Int)∧True)∧U.v8 (q99_2 d) (x:Int) x_4=U.v8 (q99_2 d) (x:Int) x'∧True)∧x'≤2^(q99_5 d).length∧2^(q99_5 d).length-x'<2^(q99_5 d).length-x_4))∧(decide ((x_4:Int)<(1:Int)*(2:Int)^(q99_7 d).toNat)=false→((U.wu (q99_2 d) x).length+[U.v8 (q99_2 d) (x:Int) x_4].length)*24≤140737488355328∧jx ((x:Int)+(1:Int))∧∃(x':Nat),(((x:Int)+(1:Int)=(x':Int)∧True)∧U.yO=U.yO∧(q99_3 d)∧U.wu (q99_2 d) x++[U.v8 (q99_2 d) (x:Int) x_4]=U.wu (q99_2 d) x'∧True)∧x'≤(U.jv d.1).length∧(U.jv d.1).length-x'<(U.jv d.1).length-x))∧(decide ((x:Int)<(q99_4 d))=false→U.jw8 5 (q99_1 d x) (0:Int) (0:Int)∧((!(q99_0 d x).2.2.2.2.2.1)=true→([],(0:Int),(3:Int),())=(q99_6 d))∧((!(q99_0 d x).2.2.2.2.2.1)=false→((q99_0 d x).2.2.2.1,(q99_0 d x).2.2.2.2.1,(0:Int),())=(q99_6 d)))))
theorem jrm:zq (ctx 86 [(40,qd)] [(39,qz),(41,qe 5)]) (jA6) Tryz.f12 (jd Tryz.f12) jlT=jrn:=by kernel_rfl
end Go.X
namespace Go.X
open Go.Proofs
theorem jxW (r:RoD) (b:Int) (n:Nat):U.v8 r b (n+1)=U.v8 r b n++(if U.jEE r b n=true then[(n:Int)] else[]):=by
  unfold U.v8;rw[L.range_filter_succ,jHF];by_cases h:U.jEE r b n=true
  · rw[if_pos h,if_pos h];rfl
  · rw[if_neg h,if_neg h];rfl
theorem jAW (r:RoD) (b:Int) (n:Nat):(U.v8 r b n).length≤n:=by
  unfold U.v8;rw[jHO];exact jG5 (jHM _ _) (by simp)
theorem js9 {r:RoD} {b:Int} {n:Nat} {t:Int} (h:t∈U.v8 r b n):0≤t∧t<(n:Int):=by
  unfold U.v8 at h;obtain⟨i,hi,rfl⟩:=jHs.1 h;have:=jG9.1 (jHg.1 hi).1;omega
theorem jAV (r:RoD) (n:Nat):U.wu r (n+1)=U.wu r n++[U.v8 r (n:Int) (2^(U.ji (U.jo (U.rd r))).length)]:=by
  unfold U.wu;rw[jHu,jHF];rfl
theorem jwp (r:RoD) (n:Nat):(U.wu r n).length=n:=by unfold U.wu;simp
theorem jCV {n:Nat} (h:n≤8):(2:Nat)^n≤256:=jG5 (Nat.pow_le_pow_right (by decide) h) (by decide)
theorem jGi {d:DyD} (hk:U.jI d=0):U.jw8 5 (some (U.jra d),U.wu (U.jra d) (U.jv d).length,List.replicate (U.jv d).length 0,U.yO,0,false,()) 0 0:=by
  have hr:=jrI hk;have hb4:(U.jv d).length≤4:=(zm hr.may.1.2.2).1;have h8:(U.ji (U.jo d)).length≤8:=(jG hr.may.1.1).2.2.1;refine⟨rfl,hr.may,hr.len,⟨jwp _ _,fun l hl t ht=> ?_⟩,jHL,⟨jHT 0,by show(0:Int)≤((U.jv d).length:Int);omega,by show((U.jv d).length:Int)<0+((5:Nat):Int);omega⟩,jHT 0,by omega⟩;have hl:l∈U.wu (U.jra d) (U.jv d).length:=hl;unfold U.wu at hl;obtain⟨b,_,rfl⟩:=jHs.1 hl;have:=js9 ht;have h2:=jCV h8;have h2':(2:Nat)^(U.ji (U.jo (U.rd (U.jra d)))).length≤256:=h2;have:t<((2^(U.ji (U.jo (U.rd (U.jra d)))).length:Nat):Int):=this.2;refine⟨(js9 ht).1,by omega⟩
theorem jCg:jrn:=by
  unfold jrn q99_7 q99_6 q99_5 q99_0 q99_1 q99_4 q99_3 q99_2;rintro⟨d,⟨⟩⟩ hl;refine⟨hl,fun h=> ?_,fun h=> ?_⟩
  · have h:U.jI d≠0:=of_decide_eq_true h;have e:U.jga d=U.jI d:=(by unfold U.jga;rw[if_neg h]);show([],(0:Int),U.jI d,())=(U.jkk d,U.jkj d,U.jga d,());unfold U.jkk U.jkj;rw[e,if_neg h,if_neg h]
  have hk:U.jI d=0:=Classical.not_not.1 (of_decide_eq_false h);have hr:=jrI hk;have hb4:(U.jv d).length≤4:=(zm hr.may.1.2.2).1;have h8:(U.ji (U.jo d)).length≤8:=(jG hr.may.1.1).2.2.1;have h256:=jCV h8;have eo:=jvX hk;have eR:U.ro (U.zh d)=U.jra d:=(by rw[eo];rfl);have ed:U.rd (U.ro (U.zh d))=d:=(by rw[eR];rfl);have e1:(U.zh d).isSome=true:=(by rw[eo];rfl);have eM:(U.jb5 (U.ro (U.zh d))).length=(U.jv d).length:=(by rw[eR];exact hr.may.2);refine fun _=>⟨jHn _,rfl,?_,fun _=>⟨⟨0,⟨⟨rfl,trivial⟩,⟨rfl,trivial,trivial,trivial,rfl,rfl,trivial⟩,rfl,rfl,trivial⟩,jG2 _⟩,fun x hx=>⟨fun h2 _=>⟨jHn _,?_,?_,⟨0,⟨⟨rfl,trivial,trivial⟩,rfl,trivial⟩,jG2 _⟩,fun t ht=>⟨fun h3=> ?_,fun h3=> ?_⟩⟩,fun h2=> ?_⟩⟩⟩
  · show((U.jv d).length:Int).toNat*8≤140737488355328;omega
  · show((U.ji (U.jo d)).length:Int)≤64;omega
  · show jx (1*2^((U.ji (U.jo d)).length:Int).toNat);rw[gq,jGX];have h3:BT.Set' ((2:Int)^(U.ji (U.jo d)).length):=BT.two_set (by omega);unfold BT.Set' at h3;exact L.in64 (by omega) (by omega)
  · have h2:(x:Int)<((U.jv d).length:Int):=of_decide_eq_true h2;have ht:t≤2^(U.ji (U.jo d)).length:=ht;have h3:(t:Int)<1*2^((U.ji (U.jo d)).length:Int).toNat:=of_decide_eq_true h3;rw[gq,jGX,BT.two_nat] at h3;have h3:t<2^(U.ji (U.jo d)).length:=(by omega);have hs:=jxW (U.ro (U.zh d)) (x:Int) t;have hlen:=jAW (U.ro (U.zh d)) (x:Int) t;have eB:U.qo (U.rd (U.ro (U.zh d))) (x:Int):=(by rw[ed];exact⟨by omega,h2⟩);have up:t+1≤2^(U.ji (U.jo d)).length:=(by omega);have dn:2^(U.ji (U.jo d)).length-(t+1)<2^(U.ji (U.jo d)).length-t:=(by omega);refine⟨e1,by omega,by show(x:Int)<((U.jb5 (U.ro (U.zh d))).length:Int);omega,fun _=>e1,fun _=>eB,fun h4=> ?_,fun h4=> ?_⟩
    · have h4:U.jEE (U.ro (U.zh d)) (x:Int) t=true:=h4;refine⟨?_,L.in64 (by omega) (by omega),t+1,⟨⟨by simp,trivial,trivial⟩,?_,trivial⟩,up,dn⟩
      · show((U.v8 (U.ro (U.zh d)) (x:Int) t).length+1)*8≤140737488355328;omega
      · rw[if_pos h4] at hs;exact hs.symm
    · have h4:U.jEE (U.ro (U.zh d)) (x:Int) t=false:=h4;refine⟨L.in64 (by omega) (by omega),t+1,⟨⟨trivial,by simp,trivial⟩,?_,trivial⟩,up,dn⟩;rw[if_neg (by rw[h4];simp),jHf] at hs;exact hs.symm
  · have h2:(x:Int)<((U.jv d).length:Int):=of_decide_eq_true h2;have ht:t≤2^(U.ji (U.jo d)).length:=ht;have h3:¬(t:Int)<1*2^((U.ji (U.jo d)).length:Int).toNat:=of_decide_eq_false h3;rw[gq,jGX,BT.two_nat] at h3;have htl:t=2^(U.ji (U.jo d)).length:=(by omega);have hs:=jAV (U.ro (U.zh d)) x;rw[ed,←htl] at hs;have hlen:=jwp (U.ro (U.zh d)) x;refine⟨?_,L.in64 (by omega) (by omega),x+1,⟨⟨by simp,trivial⟩,rfl,⟨rfl,trivial,trivial,trivial,rfl,rfl,trivial⟩,hs.symm,trivial⟩,by show x+1≤(U.jv d).length;omega,by show(U.jv d).length-(x+1)<(U.jv d).length-x;omega⟩;show((U.wu (U.ro (U.zh d)) x).length+1)*24≤140737488355328;omega
  · have h2:¬(x:Int)<((U.jv d).length:Int):=of_decide_eq_false h2;have hx:x≤(U.jv d).length:=hx;have hxl:x=(U.jv d).length:=(by omega);subst hxl;have eP:U.vQ (U.ro (U.zh d)) (U.wu (U.ro (U.zh d)) (U.jv d).length) 5 (Int.toNat 0) 0 (U.jm (U.zh d,U.wu (U.ro (U.zh d)) (U.jv d).length,List.replicate ((U.jv d).length:Int).toNat 0,U.yO,0,false,()))=U.jGh d:=by
      rw[eR,jGX];rfl
    refine⟨?_,fun h3=> ?_,fun h3=> ?_⟩
    · show U.jw8 5 (U.zh d,U.wu (U.ro (U.zh d)) (U.jv d).length,List.replicate ((U.jv d).length:Int).toNat 0,U.yO,0,false,()) 0 0;rw[eR,eo,jGX];exact jGi hk
    · have h3:(!(U.vQ (U.ro (U.zh d)) (U.wu (U.ro (U.zh d)) (U.jv d).length) 5 (Int.toNat 0) 0 (U.jm (U.zh d,U.wu (U.ro (U.zh d)) (U.jv d).length,List.replicate ((U.jv d).length:Int).toNat 0,U.yO,0,false,()))).2.2.2)=true:=h3;rw[eP] at h3;have h3:(U.jGh d).2.2.2=false:=(by simpa using h3);have e:U.jga d=3:=(by unfold U.jga;rw[if_pos hk,h3,if_neg (by simp)]);show([],(0:Int),(3:Int),())=(U.jkk d,U.jkj d,U.jga d,());unfold U.jkk U.jkj;rw[e];rfl
    · have h3:(!(U.vQ (U.ro (U.zh d)) (U.wu (U.ro (U.zh d)) (U.jv d).length) 5 (Int.toNat 0) 0 (U.jm (U.zh d,U.wu (U.ro (U.zh d)) (U.jv d).length,List.replicate ((U.jv d).length:Int).toNat 0,U.yO,0,false,()))).2.2.2)=false:=h3;rw[eP] at h3;have h3:(U.jGh d).2.2.2=true:=(by simpa using h3);have e:U.jga d=0:=(by unfold U.jga;rw[if_pos hk,h3,if_pos rfl]);show((U.vQ (U.ro (U.zh d)) (U.wu (U.ro (U.zh d)) (U.jv d).length) 5 (Int.toNat 0) 0 (U.jm (U.zh d,U.wu (U.ro (U.zh d)) (U.jv d).length,List.replicate ((U.jv d).length:Int).toNat 0,U.yO,0,false,()))).2.1,(U.vQ (U.ro (U.zh d)) (U.wu (U.ro (U.zh d)) (U.jv d).length) 5 (Int.toNat 0) 0 (U.jm (U.zh d,U.wu (U.ro (U.zh d)) (U.jv d).length,List.replicate ((U.jv d).length:Int).toNat 0,U.yO,0,false,()))).2.2.1,(0:Int),())=(U.jkk d,U.jkj d,U.jga d,());rw[eP];unfold U.jkk U.jkj;rw[e];rfl
theorem jzw:ze PR 12 jlT:=zv (jrm.mpr jCg) Tryz.func12 (by kernel_rfl) (by kernel_rfl) (by kernel_rfl) (by kernel_rfl) ⟨fun _=>jcA,trivial⟩ ⟨jah,jcy 5,trivial⟩
end Go.X
namespace Go.X
open Go.Proofs
namespace U
def kO (s:Int):Nat→Int
  |0=>s
  |j+1=>kO s j/2^1
def J3 (c:CrD) (t level:Int) (a b:Nat):Bool:=jcE c t level (a:Int) (b:Int)
def jd8 (c:CrD) (t level from':Int):List Int:=zf (J3 c t level) (la c).toNat from'.toNat (la c).toNat
def jvV (c:Bool) (s b:Int):Int:=if c=true then bor s b else s
def jve (c:CrD) (j:JbD) (t:Int) (x:Int×Bool) (i:Nat):Int×Bool:=
  if kf t (i:Int)=true then(jvV (!kf (cl (nth (ji c) i)) (jtv j)) (jvV (!kf (fd (nth (ji c) i)) (jut j)) (jvV (jbH (nth (ji c) i) (jBl j)) x.1 1) 2) 4,x.2||jEw (nth (ji c) i)) else x
def j0 (c:CrD) (j:JbD) (t:Int) (n:Nat):Int×Bool:=(List.range n).foldl (jve c j t) (0,false)
def jGq (c:CrD) (j:JbD) (t:Int):Int:=(j0 c j t (ji c).length).1
def jGN (c:CrD) (j:JbD) (t:Int):Bool:=(j0 c j t (ji c).length).2
def jx0 (c:CrD) (j:JbD) (t:Int):Int:=
  jvV (decide (nth (jd8 c t (jyg (gK c j)) (jtw j)) (jo9 j).toNat<0)) (jvV (jF6 (gK c j)&& !jGN c j t) (jvV (decide (BT.size t≠max (jB5 j) (jEc (gK c j)))) (jGq c j t) 8) 16) 32
def jjY (c:CrD) (j:JbD) (t:Int):Bool:=decide (0<t)&&decide (jx0 c j t=0)
def jBj (t:Int):Prop:=0≤t∧t<256
end U
def jac:jW:=⟨[.val .int,.val .int,.val .int],[.bool],false,fun _=>[],fun d=>(U.jc d.1 d.2.1 d.2.2.1,())⟩
def jjz:Prop:=∀(d:Int×Int×Int×Unit),(decide (d.2.1≤d.1)&&decide (d.1≤d.2.2.1),())=(U.jc d.1 d.2.1 d.2.2.1,())
theorem jlB:zq (ctx 15 [] []) (fun _=>none) Tryz.f75 (jd Tryz.f75) jac=jjz:=by kernel_rfl
def jaX:jW:=⟨[.val .int,.val .int],[.bool],false,fun d=>[0≤d.2.1∧d.2.1≤63],fun d=>(U.kf d.1 d.2.1,())⟩
def jrr:Prop:=∀(d:Int×Int×Unit),(0:Int)≤d.2.1∧d.2.1≤(63:Int)→(0:Int)≤d.2.1∧d.2.1≤(18446744073709551615:Int)∧(0:Int)≤d.2.1∧d.2.1≤(64:Int)∧(decide (ya (d.1/(2:Int)^d.2.1.toNat) (1:Int)=(1:Int)),())=(U.kf d.1 d.2.1,())
theorem jrq:zq (ctx 11 [] []) (fun _=>none) Tryz.f36 (jd Tryz.f36) jaX=jrr:=by kernel_rfl
def jad:jW:=⟨[.val tCr],[.bool],false,fun _=>[],fun d=>(U.jq d.1,())⟩
def jth:Ann:=fun r=>match r with
  |4=>some fun σ=>{X:=Nat,sl:=fun i=>[(3,.dat .int (i:Int))],ob:=fun _=>[],inv:=fun i=>i≤(U.ji (gb tCr σ 1)).length∧∀j:Nat,j<i→U.jaG (U.la (gb tCr σ 1)) (nth (U.ji (gb tCr σ 1)) j)=true,mu:=fun i=>(U.ji (gb tCr σ 1)).length-i}
  |10=>some fun σ=>{X:=Nat,sl:=fun i=>[(5,.dat .int (i:Int))],ob:=fun _=>[],inv:=fun i=>i≤(U.lv (gb tPe σ 4)).length∧∀j:Nat,j<i→U.jc (nth (U.lv (gb tPe σ 4)) j) 0 5=true,mu:=fun i=>(U.lv (gb tPe σ 4)).length-i}
  |15=>some fun σ=>{X:=Nat,sl:=fun i=>[(6,.dat .int (i:Int))],ob:=fun _=>[],inv:=fun i=>i≤(U.zy (gb tPe σ 4)).length∧∀j:Nat,j<i→U.jc (nth (U.zy (gb tPe σ 4)) j) 0 99=true,mu:=fun i=>(U.zy (gb tPe σ 4)).length-i}
  |20=>some fun σ=>{X:=Nat,sl:=fun i=>[(7,.dat .int (i:Int))],ob:=fun _=>[],inv:=fun i=>i≤(U.wi (gb tCr σ 1)).length∧∀j:Nat,j<i→U.ja8 (nth (U.wi (gb tCr σ 1)) j)=true,mu:=fun i=>(U.wi (gb tCr σ 1)).length-i}
  |_=>none
abbrev q102_0 (d:CrD×Unit)(x:Nat):=(nth d.1.2.1 (x:Int).toNat)
abbrev q102_3 (d:CrD×Unit)(x:Nat):=(!U.jc (nth d.1.2.2.1 (x:Int).toNat).1 (1:Int) (5:Int)|| !U.jc (nth d.1.2.2.1 (x:Int).toNat).2.1 (1:Int) (8:Int))
abbrev q102_4 (d:CrD×Unit)(x:Nat):=(↑(q102_0 d x).1.length:Int)
abbrev q102_5 (d:CrD×Unit)(x:Nat):=(↑(q102_0 d x).2.2.2.1.length:Int)
abbrev q102_1 (d:CrD×Unit)(x:Nat):=(decide ((q102_4 d x)≠d.1.1)|| !U.jc (q102_0 d x).2.1 (0:Int) (255:Int)|| !U.jc (q102_0 d x).2.2.1 (0:Int) (255:Int)||decide ((10:Int)<(q102_5 d x))|| !U.jc (q102_0 d x).2.2.2.2.2.1 (0:Int) (1000:Int))
abbrev q102_6 (d:CrD×Unit):=(d.1.2.2.1.length:Int)
abbrev q102_2 (d:CrD×Unit):=(!U.jc d.1.1 (2:Int) (5:Int)||decide ((8:Int)<(d.1.2.1.length:Int))||decide ((q102_6 d)≠(4:Int)))
abbrev q102_7 (d:CrD×Unit)(x:Nat):=(U.zy (q102_0 d x))
def jjB:Prop:=∀(d:CrD×Unit),((!!U.jc d.1.1 (2:Int) (5:Int))=true→d.1.2.1.length<4611686018427387904)→((!(!U.jc d.1.1 (2:Int) (5:Int)||decide ((8:Int)<(d.1.2.1.length:Int))))=true→d.1.2.2.1.length<4611686018427387904)→((q102_2 d)=true→(false,())=(U.jq d.1,()))∧((q102_2 d)=false→(∃(x:Nat),(((0:Int)=(x:Int)∧True)∧True)∧x≤(U.ji d.1).length∧∀(j:Nat),j<x→U.jaG (U.la d.1) (nth (U.ji d.1) j)=true)∧∀(x:Nat),(x≤(U.ji d.1).length∧∀(j:Nat),j<x→U.jaG (U.la d.1) (nth (U.ji d.1) j)=true)→d.1.2.1.length<4611686018427387904→(decide ((x:Int)<(d.1.2.1.length:Int))=true→(0:Int)≤(x:Int)∧(x:Int)<(d.1.2.1.length:Int)∧((q102_0 d x).1.length<4611686018427387904→((!(decide ((q102_4 d x)≠d.1.1)|| !U.jc (q102_0 d x).2.1 (0:Int) (255:Int)|| !U.jc (q102_0 d x).2.2.1 (0:Int) (255:Int)))=true→(q102_0 d x).2.2.2.1.length<4611686018427387904)→((q102_1 d x)=true→(false,())=(U.jq d.1,()))∧((q102_1 d x)=false→(∃(x_7:Nat),(((0:Int)=(x_7:Int)∧True)∧True)∧x_7≤(U.lv (q102_0 d x)).length∧∀(j:Nat),j<x_7→U.jc (nth (U.lv (q102_0 d x)) j) (0:Int) (5:Int)=true)∧∀(x_7:Nat),(x_7≤(U.lv (q102_0 d x)).length∧∀(j:Nat),j<x_7→U.jc (nth (U.lv (q102_0 d x)) j) (0:Int) (5:Int)=true)→(q102_0 d x).1.length<4611686018427387904→(decide ((x_7:Int)<(q102_4 d x))=true→(0:Int)≤(x_7:Int)∧(x_7:Int)<(q102_4 d x)∧((!U.jc (nth (q102_0 d x).1 (x_7:Int).toNat) (0:Int) (5:Int))=true→(false,())=(U.jq d.1,()))∧((!U.jc (nth (q102_0 d x).1 (x_7:Int).toNat) (0:Int) (5:Int))=false→jx ((x_7:Int)+(1:Int))∧∃(x':Nat),(((x_7:Int)+(1:Int)=(x':Int)∧True)∧True)∧(x'≤(U.lv (q102_0 d x)).length∧∀(j:Nat),j<x'→U.jc (nth (U.lv (q102_0 d x)) j) (0:Int) (5:Int)=true)∧(U.lv (q102_0 d x)).length-x'<(U.lv (q102_0 d x)).length-x_7))∧(decide ((x_7:Int)<(q102_4 d x))=false→(∃(x_11:Nat),(((0:Int)=(x_11:Int)∧True)∧True)∧x_11≤(q102_7 d x).length∧∀(j:Nat),j<x_11→U.jc (nth (q102_7 d x) j) (0:Int) (99:Int)=true)∧∀(x_11:Nat),(x_11≤(q102_7 d x).length∧∀(j:Nat),j<x_11→U.jc (nth (q102_7 d x) j) (0:Int) (99:Int)=true)→(q102_0 d x).2.2.2.1.length<4611686018427387904→(decide ((x_11:Int)<(q102_5 d x))=true→(0:Int)≤(x_11:Int)∧(x_11:Int)<(q102_5 d x)∧((!U.jc (nth (q102_0 d x).2.2.2.1 (x_11:Int).toNat) (0:Int) (99:Int))=true→(false,())=(U.jq d.1,()))∧((!U.jc (nth (q102_0 d x).2.2.2.1 (x_11:Int).toNat) (0:Int) (99:Int))=false→jx ((x_11:Int)+(1:Int))∧∃(x':Nat),(((x_11:Int)+(1:Int)=(x':Int)∧True)∧True)∧(x'≤(q102_7 d x).length∧∀(j:Nat),j<x'→U.jc (nth (q102_7 d x) j) (0:Int) (99:Int)=true)∧(q102_7 d x).length-x'<(q102_7 d x).length-x_11))∧(decide ((x_11:Int)<(q102_5 d x))=false→jx ((x:Int)+(1:Int))∧∃(x':Nat),(((x:Int)+(1:Int)=(x':Int)∧True)∧True)∧(x'≤(U.ji d.1).length∧∀(j:Nat),j<x'→U.jaG (U.la d.1) (nth (U.ji d.1) j)=true)∧(U.ji d.1).length-x'<(U.ji d.1).length-x)))))∧(decide ((x:Int)<(d.1.2.1.length:Int))=false→(∃(x:Nat),(((0:Int)=(x:Int)∧True)∧True)∧x≤(U.wi d.1).length∧∀(j:Nat),j<x→U.ja8 (nth (U.wi d.1) j)=true)∧∀(x:Nat),(x≤(U.wi d.1).length∧∀(j:Nat),j<x→U.ja8 (nth (U.wi d.1) j)=true)→d.1.2.2.1.length<4611686018427387904→(decide ((x:Int)<(q102_6 d))=true→(0:Int)≤(x:Int)∧(x:Int)<(q102_6 d)∧((!!U.jc (nth d.1.2.2.1 (x:Int).toNat).1 (1:Int) (5:Int))=true→(0:Int)≤(x:Int))∧((!!U.jc (nth d.1.2.2.1 (x:Int).toNat).1 (1:Int) (5:Int))=true→(x:Int)<(q102_6 d))∧((q102_3 d x)=true→(false,())=(U.jq d.1,()))∧((q102_3 d x)=false→jx ((x:Int)+(1:Int))∧∃(x':Nat),(((x:Int)+(1:Int)=(x':Int)∧True)∧True)∧(x'≤(U.wi d.1).length∧∀(j:Nat),j<x'→U.ja8 (nth (U.wi d.1) j)=true)∧(U.wi d.1).length-x'<(U.wi d.1).length-x))∧(decide ((x:Int)<(q102_6 d))=false→(true,())=(U.jq d.1,()))))
theorem jlF:zq (ctx 119 [(75,jac)] []) (jth) Tryz.f49 (jd Tryz.f49) jad=jjB:=by kernel_rfl
def jfW:jW:=⟨[.val tCr,.val tJb],[.bool],false,fun d=>[U.jq d.1=true],fun d=>(U.jU d.1 d.2.1,())⟩
def jlE:Prop:=∀(d:CrD×JbD×Unit),U.jq d.1=true→jx (d.1.1-(1:Int))∧(U.jc d.2.1.1 (0:Int) (d.1.1-(1:Int))=true→jx (d.1.1-(1:Int)))∧(U.jc d.2.1.1 (0:Int) (d.1.1-(1:Int))&&U.jc d.2.1.2.1 (0:Int) (d.1.1-(1:Int))&&decide (d.2.1.1≠d.2.1.2.1)&&U.jc d.2.1.2.2.1 (0:Int) (99:Int)&&U.jc d.2.1.2.2.2.1 (0:Int) (7:Int)&&U.jc d.2.1.2.2.2.2.1 (0:Int) (3:Int)&&U.jc d.2.1.2.2.2.2.2.1 (1:Int) (8:Int),())=(U.jU d.1 d.2.1,())
theorem jnO:zq (ctx 46 [(75,jac)] []) (fun _=>none) Tryz.f50 (jd Tryz.f50) jfW=jlE:=by kernel_rfl
def jen:jW:=⟨[.val tPe,.val .int],[.bool],false,fun _=>[],fun d=>(U.jbH d.1 d.2.1,())⟩
def jx6:Ann:=fun r=>match r with
  |2=>some fun σ=>{X:=Nat,sl:=fun i=>[(5,.dat .int (i:Int))],ob:=fun _=>[],inv:=fun i=>i≤(U.zy (gb tPe σ 2)).length∧∀j:Nat,j<i→nth (U.zy (gb tPe σ 2)) j≠gd .int σ 1,mu:=fun i=>(U.zy (gb tPe σ 2)).length-i}
  |_=>none
def joG:Prop:=∀(d:PeD×Int×Unit),(∃(x:Nat),(((0:Int)=(x:Int)∧True)∧True)∧x≤(U.zy d.1).length∧∀(j:Nat),j<x→nth (U.zy d.1) j≠d.2.1)∧∀(x:Nat),(x≤(U.zy d.1).length∧∀(j:Nat),j<x→nth (U.zy d.1) j≠d.2.1)→d.1.2.2.2.1.length<4611686018427387904→(decide ((x:Int)<(d.1.2.2.2.1.length:Int))=true→(0:Int)≤(x:Int)∧(x:Int)<(d.1.2.2.2.1.length:Int)∧(decide (nth d.1.2.2.2.1 (x:Int).toNat=d.2.1)=true→(true,())=(U.jbH d.1 d.2.1,()))∧(decide (nth d.1.2.2.2.1 (x:Int).toNat=d.2.1)=false→jx ((x:Int)+(1:Int))∧∃(x':Nat),(((x:Int)+(1:Int)=(x':Int)∧True)∧True)∧(x'≤(U.zy d.1).length∧∀(j:Nat),j<x'→nth (U.zy d.1) j≠d.2.1)∧(U.zy d.1).length-x'<(U.zy d.1).length-x))∧(decide ((x:Int)<(d.1.2.2.2.1.length:Int))=false→(false,())=(U.jbH d.1 d.2.1,()))
theorem jpL:zq (ctx 20 [] []) (jx6) Tryz.f76 (jd Tryz.f76) jen=joG:=by kernel_rfl
def jbN:jW:=⟨[.val tCr,.val tJb,.val .int],[.bool],false,fun d=>[0≤d.2.2.1∧d.2.2.1<((U.ji d.1).length:Int),U.jU d.1 d.2.1=true],fun d=>(U.kd d.1 d.2.1 d.2.2.1,())⟩
abbrev q105_0 (d:CrD×JbD×Int×Unit):=(nth d.1.2.1 d.2.2.1.toNat)
def jg7:Prop:=∀(d:CrD×JbD×Int×Unit),(0:Int)≤d.2.2.1∧d.2.2.1<(↑(U.ji d.1).length:Int)→U.jU d.1 d.2.1=true→(0:Int)≤d.2.2.1∧d.2.2.1<(d.1.2.1.length:Int)∧((!U.jbH (q105_0 d) d.2.1.2.2.1)=true→(0:Int)≤d.2.1.2.2.2.1∧d.2.1.2.2.2.1≤(63:Int))∧((!U.jbH (q105_0 d) d.2.1.2.2.1&&U.kf (q105_0 d).2.1 d.2.1.2.2.2.1)=true→(0:Int)≤d.2.1.2.2.2.2.1∧d.2.1.2.2.2.2.1≤(63:Int))∧(!U.jbH (q105_0 d) d.2.1.2.2.1&&U.kf (q105_0 d).2.1 d.2.1.2.2.2.1&&U.kf (q105_0 d).2.2.1 d.2.1.2.2.2.2.1,())=(U.kd d.1 d.2.1 d.2.2.1,())
theorem jkb:zq (ctx 32 [(76,jen),(36,jaX)] []) (fun _=>none) Tryz.f37 (jd Tryz.f37) jbN=jg7:=by kernel_rfl
def jiy:jW:=⟨[.val .int],[.int],false,fun d=>[BT.Set' d.1],fun d=>(BT.size d.1,())⟩
def jx7:Ann:=fun r=>match r with
  |2=>some fun σ=>{X:=Nat,sl:=fun j=>[(0,.dat .int (U.kO (gd .int σ 0) j)),(3,.dat .int (BT.size (gd .int σ 0)-BT.size (U.kO (gd .int σ 0) j)))],ob:=fun _=>[],inv:=fun j=>BT.Set' (U.kO (gd .int σ 0) j),mu:=fun j=>(U.kO (gd .int σ 0) j).toNat}
  |_=>none
def joH:Prop:=∀(d:Int×Unit),BT.Set' d.1→(∃(x:Nat),((d.1=U.kO d.1 x∧(0:Int)=BT.size d.1-BT.size (U.kO d.1 x)∧True)∧True)∧BT.Set' (U.kO d.1 x))∧∀(x:Nat),BT.Set' (U.kO d.1 x)→(decide ((0:Int)<U.kO d.1 x)=true→jx (BT.size d.1-BT.size (U.kO d.1 x)+ya (U.kO d.1 x) (1:Int))∧(0:Int)≤(1:Int)∧(1:Int)≤(64:Int)∧∃(x':Nat),((U.kO d.1 x/(2:Int)^Int.toNat (1:Int)=U.kO d.1 x'∧BT.size d.1-BT.size (U.kO d.1 x)+ya (U.kO d.1 x) (1:Int)=BT.size d.1-BT.size (U.kO d.1 x')∧True)∧True)∧BT.Set' (U.kO d.1 x')∧(U.kO d.1 x').toNat<(U.kO d.1 x).toNat)∧(decide ((0:Int)<U.kO d.1 x)=false→(BT.size d.1-BT.size (U.kO d.1 x),())=(BT.size d.1,()))
theorem jpM:zq (ctx 13 [] []) (jx7) Tryz.f148 (jd Tryz.f148) jiy=joH:=by kernel_rfl
def jfV:jW:=⟨[.val tCr,.val .int,.val .int,.val .int,.val .int],[.bool],false,fun d=>[U.jq d.1=true,0≤d.2.2.2.1∧d.2.2.2.1<U.la d.1,0≤d.2.2.2.2.1∧d.2.2.2.2.1<U.la d.1],fun d=>(U.jcE d.1 d.2.1 d.2.2.1 d.2.2.2.1 d.2.2.2.2.1,())⟩
def jvr:Ann:=fun r=>match r with
  |2=>some fun σ=>{X:=Nat,sl:=fun i=>[(11,.dat .int (i:Int))],ob:=fun _=>[],inv:=fun i=>i≤(U.ji (gb tCr σ 5)).length∧∀j:Nat,j<i→(U.kf (gd .int σ 1) (j:Int)&&decide (gd .int σ 2≤nth (U.lv (nth (U.ji (gb tCr σ 5)) j)) (gd .int σ 3).toNat)&&decide (gd .int σ 2≤nth (U.lv (nth (U.ji (gb tCr σ 5)) j)) (gd .int σ 4).toNat))=false,mu:=fun i=>(U.ji (gb tCr σ 5)).length-i}
  |_=>none
abbrev q107_0 (d:CrD×Int×Int×Int×Int×Unit)(j:Nat):=(U.kf d.2.1 (j:Int)&&decide (d.2.2.1≤nth (U.lv (nth (U.ji d.1) j)) d.2.2.2.1.toNat)&&decide (d.2.2.1≤nth (U.lv (nth (U.ji d.1) j)) d.2.2.2.2.1.toNat))
abbrev q107_1 (d:CrD×Int×Int×Int×Int×Unit)(x:Nat):=(d.2.2.1≤nth (nth d.1.2.1 (x:Int).toNat).1 d.2.2.2.1.toNat)
abbrev q107_2 (d:CrD×Int×Int×Int×Int×Unit)(x:Nat):=(U.kf d.2.1 (x:Int)&&decide (q107_1 d x)&&decide (d.2.2.1≤nth (nth d.1.2.1 (x:Int).toNat).1 d.2.2.2.2.1.toNat))
abbrev q107_3 (d:CrD×Int×Int×Int×Int×Unit)(x:Nat):=(U.kf d.2.1 (x:Int)&&decide (q107_1 d x))
def jlD:Prop:=∀(d:CrD×Int×Int×Int×Int×Unit),U.jq d.1=true→(0:Int)≤d.2.2.2.1∧d.2.2.2.1<U.la d.1→(0:Int)≤d.2.2.2.2.1∧d.2.2.2.2.1<U.la d.1→(∃(x:Nat),(((0:Int)=(x:Int)∧True)∧True)∧x≤(U.ji d.1).length∧∀(j:Nat),j<x→(q107_0 d j)=false)∧∀(x:Nat),(x≤(U.ji d.1).length∧∀(j:Nat),j<x→(q107_0 d j)=false)→d.1.2.1.length<4611686018427387904→(decide ((x:Int)<(d.1.2.1.length:Int))=true→((0:Int)≤(x:Int)∧(x:Int)≤(63:Int))∧(U.kf d.2.1 (x:Int)=true→(0:Int)≤(x:Int))∧(U.kf d.2.1 (x:Int)=true→(x:Int)<(d.1.2.1.length:Int))∧(U.kf d.2.1 (x:Int)=true→(0:Int)≤d.2.2.2.1)∧(U.kf d.2.1 (x:Int)=true→d.2.2.2.1<(↑(nth d.1.2.1 (x:Int).toNat).1.length:Int))∧((q107_3 d x)=true→(0:Int)≤(x:Int))∧((q107_3 d x)=true→(x:Int)<(d.1.2.1.length:Int))∧((q107_3 d x)=true→(0:Int)≤d.2.2.2.2.1)∧((q107_3 d x)=true→d.2.2.2.2.1<(↑(nth d.1.2.1 (x:Int).toNat).1.length:Int))∧((q107_2 d x)=true→(true,())=(U.jcE d.1 d.2.1 d.2.2.1 d.2.2.2.1 d.2.2.2.2.1,()))∧((q107_2 d x)=false→jx ((x:Int)+(1:Int))∧∃(x':Nat),(((x:Int)+(1:Int)=(x':Int)∧True)∧True)∧(x'≤(U.ji d.1).length∧∀(j:Nat),j<x'→(q107_0 d j)=false)∧(U.ji d.1).length-x'<(U.ji d.1).length-x))∧(decide ((x:Int)<(d.1.2.1.length:Int))=false→(false,())=(U.jcE d.1 d.2.1 d.2.2.1 d.2.2.2.1 d.2.2.2.2.1,()))
theorem jnN:zq (ctx 48 [(36,jaX)] []) (jvr) Tryz.f177 (jd Tryz.f177) jfV=jlD:=by kernel_rfl
def jlU:jW:=⟨[.val tCr,.val .int,.val .int,.val .int],[.slice .int],false,fun d=>[U.jq d.1=true,0≤d.2.2.2.1∧d.2.2.2.1<U.la d.1],fun d=>(U.jd8 d.1 d.2.1 d.2.2.1 d.2.2.2.1,())⟩
def jA7:Ann:=fun r=>match r with
  |3=>some fun σ=>{X:=Nat,sl:=fun i=>[(10,.dat .int (i:Int)),(9,.own 9 .int)],ob:=fun i=>[(9,some (.row 3 .int false .yes (List.replicate i (-1))))],inv:=fun i=>i≤(U.la (gb tCr σ 4)).toNat,mu:=fun i=>(U.la (gb tCr σ 4)).toNat-i}
  |8=>some fun σ=>{X:=Nat,sl:=fun i=>[(11,.dat .int (i:Int)),(9,.own 9 .int)],ob:=fun i=>[(9,some (.row 3 .int false .yes (U.zf (U.J3 (gb tCr σ 4) (gd .int σ 1) (gd .int σ 2)) (U.la (gb tCr σ 4)).toNat (gd .int σ 3).toNat i)))],inv:=fun i=>i≤(U.la (gb tCr σ 4)).toNat,mu:=fun i=>(U.la (gb tCr σ 4)).toNat-i}
  |11=>some fun σ=>{X:=Nat,sl:=fun i=>[(12,.dat .int (i:Int)),(9,.own 9 .int)],ob:=fun i=>[(9,some (.row 3 .int false .yes (U.kj (U.J3 (gb tCr σ 4) (gd .int σ 1) (gd .int σ 2)) (U.la (gb tCr σ 4)).toNat (gd .int σ 11).toNat (gr .int σ 9) i)))],inv:=fun i=>i≤(U.la (gb tCr σ 4)).toNat,mu:=fun i=>(U.la (gb tCr σ 4)).toNat-i}
  |14=>some fun σ=>{X:=Nat,sl:=fun i=>[(13,.dat .int (i:Int)),(9,.own 9 .int)],ob:=fun i=>[(9,some (.row 3 .int false .yes (U.kP (U.J3 (gb tCr σ 4) (gd .int σ 1) (gd .int σ 2)) (gd .int σ 11).toNat (gd .int σ 12).toNat (gr .int σ 9) i)))],inv:=fun i=>i≤(U.la (gb tCr σ 4)).toNat,mu:=fun i=>(U.la (gb tCr σ 4)).toNat-i}
  |_=>none
abbrev q108_2 (d:CrD×Int×Int×Int×Unit):=(U.J3 d.1 d.2.1 d.2.2.1)
abbrev q108_4 (d:CrD×Int×Int×Int×Unit)(x:Nat):=(U.zf (q108_2 d) (U.la d.1).toNat d.2.2.2.1.toNat x)
abbrev q108_1 (d:CrD×Int×Int×Int×Unit)(x:Nat)(x_5:Nat):=(U.kj (q108_2 d) (U.la d.1).toNat (x:Int).toNat (q108_4 d x) x_5)
abbrev q108_0 (d:CrD×Int×Int×Int×Unit)(x:Nat)(x_5:Nat)(x_8:Nat):=(U.kP (q108_2 d) (x:Int).toNat (x_5:Int).toNat (q108_1 d x x_5) x_8)
abbrev q108_3 (d:CrD×Int×Int×Int×Unit)(x:Nat)(x_5:Nat)(x_8:Nat):=(decide (nth (q108_0 d x x_5 x_8) (x_5:Int).toNat=(x:Int))&&decide (nth (q108_0 d x x_5 x_8) (x_8:Int).toNat<(0:Int)))
abbrev q108_5 (d:CrD×Int×Int×Int×Unit)(x:Nat)(x_5:Nat)(x_8:Nat):=(decide (nth (q108_0 d x x_5 x_8) (x_5:Int).toNat=(x:Int))&&decide (nth (q108_0 d x x_5 x_8) (x_8:Int).toNat<(0:Int))&&U.jcE d.1 d.2.1 d.2.2.1 (x_5:Int) (x_8:Int))
def jrp:Prop:=∀(d:CrD×Int×Int×Int×Unit),U.jq d.1=true→(0:Int)≤d.2.2.2.1∧d.2.2.2.1<U.la d.1→(∃(x:Nat),(((0:Int)=(x:Int)∧True∧True)∧List.replicate x (-1:Int)=[]∧True)∧x≤(U.la d.1).toNat)∧∀(x:Nat),x≤(U.la d.1).toNat→(decide ((x:Int)<d.1.1)=true→((List.replicate x (-1:Int)).length+[(-1:Int)].length)*8≤140737488355328∧jx ((x:Int)+(1:Int))∧∃(x':Nat),(((x:Int)+(1:Int)=(x':Int)∧True∧True)∧List.replicate x (-1:Int)++[(-1:Int)]=List.replicate x' (-1:Int)∧True)∧x'≤(U.la d.1).toNat∧(U.la d.1).toNat-x'<(U.la d.1).toNat-x)∧(decide ((x:Int)<d.1.1)=false→(0:Int)≤d.2.2.2.1∧d.2.2.2.1<(↑(List.replicate x (-1:Int)).length:Int)∧(∃(x_3:Nat),(((0:Int)=(x_3:Int)∧True∧True)∧(List.replicate x (-1:Int)).set d.2.2.2.1.toNat (0:Int)=U.zf (q108_2 d) (U.la d.1).toNat d.2.2.2.1.toNat x_3∧True)∧x_3≤(U.la d.1).toNat)∧∀(x:Nat),x≤(U.la d.1).toNat→(decide ((x:Int)<d.1.1)=true→(∃(x_5:Nat),(((0:Int)=(x_5:Int)∧True∧True)∧U.zf (q108_2 d) (U.la d.1).toNat d.2.2.2.1.toNat x=U.kj (q108_2 d) (U.la d.1).toNat (x:Int).toNat (q108_4 d x) x_5∧True)∧x_5≤(U.la d.1).toNat)∧∀(x_5:Nat),x_5≤(U.la d.1).toNat→(decide ((x_5:Int)<d.1.1)=true→(∃(x_8:Nat),(((0:Int)=(x_8:Int)∧True∧True)∧U.kj (q108_2 d) (U.la d.1).toNat (x:Int).toNat (q108_4 d x) x_5=U.kP (q108_2 d) (x:Int).toNat (x_5:Int).toNat (q108_1 d x x_5) x_8∧True)∧x_8≤(U.la d.1).toNat)∧∀(x_8:Nat),x_8≤(U.la d.1).toNat→(decide ((x_8:Int)<d.1.1)=true→(0:Int)≤(x_5:Int)∧(x_5:Int)<(↑(q108_0 d x x_5 x_8).length:Int)∧(decide (nth (q108_0 d x x_5 x_8) (x_5:Int).toNat=(x:Int))=true→(0:Int)≤(x_8:Int))∧(decide (nth (q108_0 d x x_5 x_8) (x_5:Int).toNat=(x:Int))=true→(x_8:Int)<(↑(q108_0 d x x_5 x_8).length:Int))∧((q108_3 d x x_5 x_8)=true→U.jq d.1=true)∧((q108_3 d x x_5 x_8)=true→(0:Int)≤(x_5:Int)∧(x_5:Int)<U.la d.1)∧((q108_3 d x x_5 x_8)=true→(0:Int)≤(x_8:Int)∧(x_8:Int)<U.la d.1)∧((q108_5 d x x_5 x_8)=true→jx ((x:Int)+(1:Int))∧(0:Int)≤(x_8:Int)∧(x_8:Int)<(↑(q108_0 d x x_5 x_8).length:Int)∧jx ((x_8:Int)+(1:Int))∧∃(x':Nat),((True∧(x_8:Int)+(1:Int)=(x':Int)∧True)∧(q108_0 d x x_5 x_8).set (x_8:Int).toNat ((x:Int)+(1:Int))=U.kP (q108_2 d) (x:Int).toNat (x_5:Int).toNat (q108_1 d x x_5) x'∧True)∧x'≤(U.la d.1).toNat∧(U.la d.1).toNat-x'<(U.la d.1).toNat-x_8)∧((q108_5 d x x_5 x_8)=false→jx ((x_8:Int)+(1:Int))∧∃(x':Nat),((True∧(x_8:Int)+(1:Int)=(x':Int)∧True)∧U.kP (q108_2 d) (x:Int).toNat (x_5:Int).toNat (q108_1 d x x_5) x_8=U.kP (q108_2 d) (x:Int).toNat (x_5:Int).toNat (q108_1 d x x_5) x'∧True)∧x'≤(U.la d.1).toNat∧(U.la d.1).toNat-x'<(U.la d.1).toNat-x_8))∧(decide ((x_8:Int)<d.1.1)=false→jx ((x_5:Int)+(1:Int))∧∃(x':Nat),(((x_5:Int)+(1:Int)=(x':Int)∧True∧True)∧U.kP (q108_2 d) (x:Int).toNat (x_5:Int).toNat (q108_1 d x x_5) x_8=U.kj (q108_2 d) (U.la d.1).toNat (x:Int).toNat (q108_4 d x) x'∧True)∧x'≤(U.la d.1).toNat∧(U.la d.1).toNat-x'<(U.la d.1).toNat-x_5))∧(decide ((x_5:Int)<d.1.1)=false→jx ((x:Int)+(1:Int))∧∃(x':Nat),(((x:Int)+(1:Int)=(x':Int)∧True∧True)∧U.kj (q108_2 d) (U.la d.1).toNat (x:Int).toNat (q108_4 d x) x_5=U.zf (q108_2 d) (U.la d.1).toNat d.2.2.2.1.toNat x'∧True)∧x'≤(U.la d.1).toNat∧(U.la d.1).toNat-x'<(U.la d.1).toNat-x))∧(decide ((x:Int)<d.1.1)=false→(U.zf (q108_2 d) (U.la d.1).toNat d.2.2.2.1.toNat x,())=(U.jd8 d.1 d.2.1 d.2.2.1 d.2.2.2.1,())))
theorem jro:zq (ctx 71 [(177,jfV)] []) (jA7) Tryz.f149 (jd Tryz.f149) jlU=jrp:=by kernel_rfl
def jdx:jW:=⟨[.val tCr,.val tJb,.val .int],[.int],false,fun d=>[U.jq d.1=true,U.jU d.1 d.2.1=true,U.jBj d.2.2.1],fun d=>(U.jx0 d.1 d.2.1 d.2.2.1,())⟩
def jtg:Ann:=fun r=>match r with
  |5=>some fun σ=>{X:=Nat,sl:=fun i=>[(10,.dat .int (i:Int)),(8,.dat .int (U.j0 (gb tCr σ 3) (gb tJb σ 4) (gd .int σ 2) i).1),(9,.dat .bool (U.j0 (gb tCr σ 3) (gb tJb σ 4) (gd .int σ 2) i).2)],ob:=fun _=>[],inv:=fun i=>i≤(U.ji (gb tCr σ 3)).length,mu:=fun i=>(U.ji (gb tCr σ 3)).length-i}
  |_=>none
abbrev q109_1 (d:CrD×JbD×Int×Unit)(x:Nat):=(U.j0 d.1 d.2.1 d.2.2.1 x)
abbrev q109_2 (d:CrD×JbD×Int×Unit)(x:Nat):=(nth d.1.2.1 (x:Int).toNat)
abbrev q109_3 (d:CrD×JbD×Int×Unit):=(nth d.1.2.2.1 d.2.1.2.2.2.2.1.toNat)
abbrev q109_0 (d:CrD×JbD×Int×Unit):=(nth (U.jd8 d.1 d.2.2.1 (q109_3 d).1 d.2.1.1) d.2.1.2.1.toNat<(0:Int))
abbrev q109_4 (d:CrD×JbD×Int×Unit)(x':Nat):=(U.j0 d.1 d.2.1 d.2.2.1 x')
abbrev q109_5 (d:CrD×JbD×Int×Unit)(x:Nat):=(!U.kf (q109_2 d x).2.2.1 d.2.1.2.2.2.2.1)
abbrev q109_6 (d:CrD×JbD×Int×Unit)(x:Nat):=((q109_1 d x).2||(q109_2 d x).2.2.2.2.1)
abbrev q109_7 (d:CrD×JbD×Int×Unit):=((0:Int)≤d.2.1.2.2.2.2.1∧d.2.1.2.2.2.2.1≤(63:Int))
abbrev q109_8 (d:CrD×JbD×Int×Unit):=(↑(U.jd8 d.1 d.2.2.1 (q109_3 d).1 d.2.1.1).length:Int)
abbrev q109_9 (d:CrD×JbD×Int×Unit):=(U.jx0 d.1 d.2.1 d.2.2.1,())
abbrev q109_10 (x:Nat):=((x:Int)+(1:Int))
abbrev q109_11 (d:CrD×JbD×Int×Unit):=((0:Int)≤d.2.1.1∧d.2.1.1<U.la d.1)
abbrev q109_12 (d:CrD×JbD×Int×Unit)(x:Nat):=(!U.kf (q109_2 d x).2.1 d.2.1.2.2.2.1)
def jjA:Prop:=∀(d:CrD×JbD×Int×Unit),U.jq d.1=true→U.jU d.1 d.2.1=true→U.jBj d.2.2.1→(0:Int)≤d.2.1.2.2.2.2.1∧d.2.1.2.2.2.2.1<(d.1.2.2.1.length:Int)∧(∃(x:Nat),(((0:Int)=(x:Int)∧(0:Int)=(q109_1 d x).1∧false=(q109_1 d x).2∧True)∧True)∧x≤(U.ji d.1).length)∧∀(x:Nat),x≤(U.ji d.1).length→d.1.2.1.length<4611686018427387904→(decide ((x:Int)<(d.1.2.1.length:Int))=true→((0:Int)≤(x:Int)∧(x:Int)≤(63:Int))∧((!U.kf d.2.2.1 (x:Int))=true→jx (q109_10 x)∧∃(x':Nat),(((q109_1 d x).2=(q109_4 d x').2∧(q109_1 d x).1=(q109_4 d x').1∧(x:Int)+(1:Int)=(x':Int)∧True)∧True)∧x'≤(U.ji d.1).length∧(U.ji d.1).length-x'<(U.ji d.1).length-x)∧((!U.kf d.2.2.1 (x:Int))=false→(0:Int)≤(x:Int)∧(x:Int)<(d.1.2.1.length:Int)∧(U.jbH (q109_2 d x) d.2.1.2.2.1=true→((0:Int)≤d.2.1.2.2.2.1∧d.2.1.2.2.2.1≤(63:Int))∧((q109_12 d x)=true→(q109_7 d)∧((q109_5 d x)=true→jx (q109_10 x)∧∃(x':Nat),(((x:Int)+(1:Int)=(x':Int)∧(q109_6 d x)=(q109_4 d x').2∧bor (bor (bor (q109_1 d x).1 (1:Int)) (2:Int)) (4:Int)=(q109_4 d x').1∧True)∧True)∧x'≤(U.ji d.1).length∧(U.ji d.1).length-x'<(U.ji d.1).length-x)∧((q109_5 d x)=false→jx (q109_10 x)∧∃(x':Nat),(((x:Int)+(1:Int)=(x':Int)∧(q109_6 d x)=(q109_4 d x').2∧bor (bor (q109_1 d x).1 (1:Int)) (2:Int)=(q109_4 d x').1∧True)∧True)∧x'≤(U.ji d.1).length∧(U.ji d.1).length-x'<(U.ji d.1).length-x))∧((q109_12 d x)=false→(q109_7 d)∧((q109_5 d x)=true→jx (q109_10 x)∧∃(x':Nat),(((x:Int)+(1:Int)=(x':Int)∧(q109_6 d x)=(q109_4 d x').2∧bor (bor (q109_1 d x).1 (1:Int)) (4:Int)=(q109_4 d x').1∧True)∧True)∧x'≤(U.ji d.1).length∧(U.ji d.1).length-x'<(U.ji d.1).length-x)∧((q109_5 d x)=false→jx (q109_10 x)∧∃(x':Nat),(((x:Int)+(1:Int)=(x':Int)∧(q109_6 d x)=(q109_4 d x').2∧bor (q109_1 d x).1 (1:Int)=(q109_4 d x').1∧True)∧True)∧x'≤(U.ji d.1).length∧(U.ji d.1).length-x'<(U.ji d.1).length-x)))∧(U.jbH (q109_2 d x) d.2.1.2.2.1=false→((0:Int)≤d.2.1.2.2.2.1∧d.2.1.2.2.2.1≤(63:Int))∧((q109_12 d x)=true→(q109_7 d)∧((q109_5 d x)=true→jx (q109_10 x)∧∃(x':Nat),(((x:Int)+(1:Int)=(x':Int)∧(q109_6 d x)=(q109_4 d x').2∧bor (bor (q109_1 d x).1 (2:Int)) (4:Int)=(q109_4 d x').1∧True)∧True)∧x'≤(U.ji d.1).length∧(U.ji d.1).length-x'<(U.ji d.1).length-x)∧((q109_5 d x)=false→jx (q109_10 x)∧∃(x':Nat),(((x:Int)+(1:Int)=(x':Int)∧(q109_6 d x)=(q109_4 d x').2∧bor (q109_1 d x).1 (2:Int)=(q109_4 d x').1∧True)∧True)∧x'≤(U.ji d.1).length∧(U.ji d.1).length-x'<(U.ji d.1).length-x))∧((q109_12 d x)=false→(q109_7 d)∧((q109_5 d x)=true→jx (q109_10 x)∧∃(x':Nat),(((x:Int)+(1:Int)=(x':Int)∧(q109_6 d x)=(q109_4 d x').2∧bor (q109_1 d x).1 (4:Int)=(q109_4 d x').1∧True)∧True)∧x'≤(U.ji d.1).length∧(U.ji d.1).length-x'<(U.ji d.1).length-x)∧((q109_5 d x)=false→jx (q109_10 x)∧∃(x':Nat),(((q109_1 d x).1=(q109_4 d x').1∧(x:Int)+(1:Int)=(x':Int)∧(q109_6 d x)=(q109_4 d x').2∧True)∧True)∧x'≤(U.ji d.1).length∧(U.ji d.1).length-x'<(U.ji d.1).length-x)))))∧(decide ((x:Int)<(d.1.2.1.length:Int))=false→BT.Set' d.2.2.1∧(decide (BT.size d.2.2.1≠max d.2.1.2.2.2.2.2.1 (q109_3 d).2.1)=true→(((q109_3 d).2.2.1&& !(q109_1 d x).2)=true→U.jq d.1=true∧(q109_11 d)∧(0:Int)≤d.2.1.2.1∧d.2.1.2.1<(q109_8 d)∧(decide (q109_0 d)=true→(bor (bor (bor (q109_1 d x).1 (8:Int)) (16:Int)) (32:Int),())=(q109_9 d))∧(decide (q109_0 d)=false→(bor (bor (q109_1 d x).1 (8:Int)) (16:Int),())=(q109_9 d)))∧(((q109_3 d).2.2.1&& !(q109_1 d x).2)=false→U.jq d.1=true∧(q109_11 d)∧(0:Int)≤d.2.1.2.1∧d.2.1.2.1<(q109_8 d)∧(decide (q109_0 d)=true→(bor (bor (q109_1 d x).1 (8:Int)) (32:Int),())=(q109_9 d))∧(decide (q109_0 d)=false→(bor (q109_1 d x).1 (8:Int),())=(q109_9 d))))∧(decide (BT.size d.2.2.1≠max d.2.1.2.2.2.2.2.1 (q109_3 d).2.1)=false→(((q109_3 d).2.2.1&& !(q109_1 d x).2)=true→U.jq d.1=true∧(q109_11 d)∧(0:Int)≤d.2.1.2.1∧d.2.1.2.1<(q109_8 d)∧(decide (q109_0 d)=true→(bor (bor (q109_1 d x).1 (16:Int)) (32:Int),())=(q109_9 d))∧(decide (q109_0 d)=false→(bor (q109_1 d x).1 (16:Int),())=(q109_9 d)))∧(((q109_3 d).2.2.1&& !(q109_1 d x).2)=false→U.jq d.1=true∧(q109_11 d)∧(0:Int)≤d.2.1.2.1∧d.2.1.2.1<(q109_8 d)∧(decide (q109_0 d)=true→(bor (q109_1 d x).1 (32:Int),())=(q109_9 d))∧(decide (q109_0 d)=false→((q109_1 d x).1,())=(q109_9 d)))))
theorem jlC:zq (ctx 94 [(36,jaX),(76,jen),(148,jiy),(149,jlU)] []) (jtg) Tryz.f108 (jd Tryz.f108) jdx=jjA:=by kernel_rfl
def jiz:jW:=⟨[.val tCr,.val tJb,.val .int],[.bool],false,fun d=>[U.jq d.1=true,U.jU d.1 d.2.1=true,U.jBj d.2.2.1],fun d=>(U.jjY d.1 d.2.1 d.2.2.1,())⟩
def joI:Prop:=∀(d:CrD×JbD×Int×Unit),U.jq d.1=true→U.jU d.1 d.2.1=true→U.jBj d.2.2.1→(decide ((0:Int)<d.2.2.1)=true→U.jq d.1=true)∧(decide ((0:Int)<d.2.2.1)=true→U.jU d.1 d.2.1=true)∧(decide ((0:Int)<d.2.2.1)=true→U.jBj d.2.2.1)∧(decide ((0:Int)<d.2.2.1)&&decide (U.jx0 d.1 d.2.1 d.2.2.1=(0:Int)),())=(U.jjY d.1 d.2.1 d.2.2.1,())
theorem jpN:zq (ctx 16 [(108,jdx)] []) (fun _=>none) Tryz.f55 (jd Tryz.f55) jiz=joI:=by kernel_rfl
end Go.X
namespace Go.X
open Go.Proofs
theorem juM:jjz:=by
  rintro⟨n,a,b,⟨⟩⟩;rfl
theorem jjN:ze PR 75 jac:=zv (jlB.mpr juM) Tryz.func75 (by kernel_rfl) (by kernel_rfl) (by kernel_rfl) (by kernel_rfl) trivial trivial
theorem jCi:jrr:=by
  rintro⟨s,n,⟨⟩⟩ ⟨h1,h2⟩;have h1:0≤n:=h1;have h2:n≤63:=h2;exact⟨h1,by show n≤18446744073709551615;omega,h1,by show n≤64;omega,rfl⟩
theorem jhD:ze PR 36 jaX:=zv (jrq.mpr jCi) Tryz.func36 (by kernel_rfl) (by kernel_rfl) (by kernel_rfl) (by kernel_rfl) trivial trivial
theorem jB9 (c:CrD) (j:JbD):(U.jc (U.jtw j) 0 (U.la c-1)&&U.jc (U.jo9 j) 0 (U.la c-1)&&decide (U.jtw j≠U.jo9 j)&&U.jc (U.jBl j) 0 99&&U.jc (U.jut j) 0 7&&U.jc (U.jtv j) 0 3&&U.jc (U.jB5 j) 1 8)=U.jU c j:=by
  unfold U.jU U.jc;rw[jHk];simp only[jGT,decide_eq_true_eq,ne_eq];constructor
  · rintro⟨⟨⟨⟨⟨⟨⟨h1,h2⟩,h3,h4⟩,h5⟩,h6,h7⟩,h8,h9⟩,h10,h11⟩,h12,h13⟩;exact⟨h1,h2,h3,h4,h5,h6,h7,h8,h9,h10,h11,h12,h13⟩
  · rintro⟨h1,h2,h3,h4,h5,h6,h7,h8,h9,h10,h11,h12,h13⟩;exact⟨⟨⟨⟨⟨⟨⟨h1,h2⟩,h3,h4⟩,h5⟩,h6,h7⟩,h8,h9⟩,h10,h11⟩,h12,h13⟩
theorem jxy:jlE:=by
  rintro⟨c,j,⟨⟩⟩ h;have h:U.jq c=true:=h;have h1:=jG h;have h2:jx (U.la c-1):=L.in64 (by omega) (by omega);refine⟨h2,fun _=>h2,?_⟩;exact congrArg (fun b=>(b,())) (jB9 c j)
theorem jum:ze PR 50 jfW:=zv (jnO.mpr jxy) Tryz.func50 (by kernel_rfl) (by kernel_rfl) (by kernel_rfl) (by kernel_rfl) ⟨fun _=>jjN,trivial⟩ trivial
theorem jAj:joG:=by
  rintro⟨p,n,⟨⟩⟩;refine⟨⟨0,⟨⟨rfl,trivial⟩,trivial⟩,jG2 _,fun j hj=>by omega⟩,fun x hx hf=>⟨fun h=> ?_,fun h=> ?_⟩⟩
  · have hf:(U.zy p).length<4611686018427387904:=hf;have h:(x:Int)<((U.zy p).length:Int):=of_decide_eq_true h;refine⟨by omega,h,fun h2=> ?_,fun h2=>⟨L.in64 (by omega) (by omega),x+1,⟨⟨by simp,trivial⟩,trivial⟩,⟨by show x+1≤(U.zy p).length;omega,fun j hj=> ?_⟩,by show(U.zy p).length-(x+1)<(U.zy p).length-x;omega⟩⟩
    · have h2:nth (U.zy p) x=n:=of_decide_eq_true h2;have:U.jbH p n=true:=by
        unfold U.jbH;rw[jHz];exact⟨_,L.mem_nth (l:=U.zy p) (i:=x) (by omega),by simpa using h2⟩
      show(true,())=(U.jbH p n,());rw[this]
    · have h2:¬nth (U.zy p) x=n:=of_decide_eq_false h2;by_cases e:j=x
      · subst e;exact h2
      · exact hx.2 j (by omega)
  · have h:¬(x:Int)<((U.zy p).length:Int):=of_decide_eq_false h;have hx1:x≤(U.zy p).length:=hx.1;have:U.jbH p n=false:=by
      unfold U.jbH;rw[jHC];intro t ht;obtain⟨i,hi,rfl⟩:=L.mem_iff.1 ht;have:=hx.2 i (by omega);have this:nth (U.zy p) i≠n:=this;simpa using this
    show(false,())=(U.jbH p n,());rw[this]
theorem joY:ze PR 76 jen:=zv (jpL.mpr jAj) Tryz.func76 (by kernel_rfl) (by kernel_rfl) (by kernel_rfl) (by kernel_rfl) trivial trivial
theorem jzZ {c:CrD} {j:JbD} (h:U.jU c j=true):(0≤U.jtw j∧U.jtw j<U.la c)∧(0≤U.jo9 j∧U.jo9 j<U.la c)∧(0≤U.jut j∧U.jut j≤7)∧(0≤U.jtv j∧U.jtv j≤3)∧1≤U.jB5 j∧U.jB5 j≤8:=by
  unfold U.jU at h;have:=of_decide_eq_true h;omega
theorem jsA:jg7:=by
  unfold jg7 q105_0;rintro⟨c,j,p,⟨⟩⟩ ⟨hp1,hp2⟩ hj;have hj:U.jU c j=true:=hj;obtain⟨_,_,f,k,_⟩:=jzZ hj;exact⟨hp1,hp2,fun _=>⟨f.1,by show U.jut j≤63;omega⟩,fun _=>⟨k.1,by show U.jtv j≤63;omega⟩,rfl⟩
theorem jqg:ze PR 37 jbN:=zv (jkb.mpr jsA) Tryz.func37 (by kernel_rfl) (by kernel_rfl) (by kernel_rfl) (by kernel_rfl) ⟨fun _=>joY,fun _=>jhD,trivial⟩ trivial
theorem jAk:joH:=by
  rintro⟨s,⟨⟩⟩ hs;have hs:BT.Set' s:=hs;have hle:=BT.size_le s;refine⟨⟨0,⟨⟨rfl,by show(0:Int)=BT.size s-BT.size s;omega,trivial⟩,trivial⟩,hs⟩,fun x hx=>⟨fun h=> ?_,fun h=> ?_⟩⟩
  · have h:0<U.kO s x:=of_decide_eq_true h;have hx:BT.Set' (U.kO s x):=hx;have h1:=BT.size_half hx;have h2:=BT.size_le (U.kO s x);have h4:ya (U.kO s x) 1=(U.kO s x)%2:=by
      obtain⟨n,hn,hlt⟩:=BT.nat_of hx;rw[hn,show(1:Int)=((1:Nat):Int) from rfl,BT.band_nat (BT.lt63 hlt) (by decide),Nat.and_one_is_mod];omega
    have h5:U.kO s (x+1)=U.kO s x/2:=(by show U.kO s x/2^1=_;simp);unfold BT.Set' at hx;refine⟨?_,by decide,by decide,x+1,⟨⟨rfl,?_,trivial⟩,trivial⟩,?_,?_⟩
    · show jx (BT.size s-BT.size (U.kO s x)+ya (U.kO s x) 1);exact L.in64 (by omega) (by omega)
    · show BT.size s-BT.size (U.kO s x)+ya (U.kO s x) 1=BT.size s-BT.size (U.kO s (x+1));rw[h5];omega
    · show BT.Set' (U.kO s (x+1));rw[h5];unfold BT.Set';omega
    · show(U.kO s (x+1)).toNat<(U.kO s x).toNat;rw[h5];omega
  · have h:¬0<U.kO s x:=of_decide_eq_false h;have hx:BT.Set' (U.kO s x):=hx;unfold BT.Set' at hx;have:U.kO s x=0:=(by omega);show(BT.size s-BT.size (U.kO s x),())=(BT.size s,());rw[this,BT.size_zero];simp
theorem jw5:ze PR 148 jiy:=zv (jpM.mpr jAk) Tryz.func148 (by kernel_rfl) (by kernel_rfl) (by kernel_rfl) (by kernel_rfl) trivial trivial
end Go.X
namespace Go.X
open Go.Proofs
theorem jAl:joI:=by
  rintro⟨c,j,t,⟨⟩⟩ h1 h2 h3;exact⟨fun _=>h1,fun _=>h2,fun _=>h3,rfl⟩
theorem jFv {c:CrD} (h:U.jq c=true) {i:Nat} (hi:i<(U.ji c).length):((U.lv (nth (U.ji c) i)).length:Int)=U.la c:=by
  have:=(jG h).2.2.2.2.1 _ (L.mem_nth hi);unfold U.jaG at this;simp only[jGT,decide_eq_true_eq] at this;exact this.1.1
theorem jxx:jlD:=by
  unfold jlD q107_3 q107_2 q107_1 q107_0;rintro⟨c,t,lev,a,b,⟨⟩⟩ hc ha hb;have hc:U.jq c=true:=hc;have ha:0≤a∧a<U.la c:=ha;have hb:0≤b∧b<U.la c:=hb;have h8:=(jG hc).2.2.1;refine⟨⟨0,⟨⟨rfl,trivial⟩,trivial⟩,jG2 _,fun j hj=>by omega⟩,fun x hx _=>⟨fun h=> ?_,fun h=> ?_⟩⟩
  · have h:(x:Int)<((U.ji c).length:Int):=of_decide_eq_true h;have hl:=jFv hc (i:=x) (by omega);refine⟨⟨by omega,by omega⟩,fun _=>by omega,fun _=>h,fun _=>ha.1,fun _=> ?_,fun _=>by omega,fun _=>h,fun _=>hb.1,fun _=> ?_,fun h2=> ?_,fun h2=>⟨L.in64 (by omega) (by omega),x+1,⟨⟨by simp,trivial⟩,trivial⟩,⟨by show x+1≤(U.ji c).length;omega,fun j hj=> ?_⟩,by show(U.ji c).length-(x+1)<(U.ji c).length-x;omega⟩⟩
    · show a<((U.lv (nth (U.ji c) x)).length:Int);omega
    · show b<((U.lv (nth (U.ji c) x)).length:Int);omega
    · have h2:(U.kf t (x:Int)&&decide (lev≤nth (U.lv (nth (U.ji c) x)) a.toNat)&&decide (lev≤nth (U.lv (nth (U.ji c) x)) b.toNat))=true:=h2;have:U.jcE c t lev a b=true:=by
        unfold U.jcE;rw[jHz];exact⟨x,jG9.2 (by omega),h2⟩
      show(true,())=(U.jcE c t lev a b,());rw[this]
    · by_cases e:j=x
      · subst e;exact h2
      · exact hx.2 j (by omega)
  · have h:¬(x:Int)<((U.ji c).length:Int):=of_decide_eq_false h;have:U.jcE c t lev a b=false:=by
      unfold U.jcE;rw[jHC];intro i hi;have hi:=jG9.1 hi;have:=hx.2 i (by omega);rw[Bool.not_eq_true];exact this
    show(false,())=(U.jcE c t lev a b,());rw[this]
theorem jul:ze PR 177 jfV:=zv (jnN.mpr jxx) Tryz.func177 (by kernel_rfl) (by kernel_rfl) (by kernel_rfl) (by kernel_rfl) ⟨fun _=>jhD,trivial⟩ trivial
theorem juS (J:Nat→Nat→Bool) (r a:Nat) (out:List Int) (b:Nat):(U.jeD J r a out b).length=out.length:=by
  unfold U.jeD
  split
  · rw[jIe]
  · rfl
theorem jsO (J:Nat→Nat→Bool) (r a:Nat) (out:List Int) (k:Nat):U.kP J r a out (k+1)=U.jeD J r a (U.kP J r a out k) k:=by
  unfold U.kP;rw[jHu,jHp];rfl
theorem jqQ (J:Nat→Nat→Bool) (r a:Nat) (out:List Int):∀k,(U.kP J r a out k).length=out.length
  |0=>rfl
  |k+1=>by rw[jsO,juS,jqQ J r a out k]
theorem jsP (J:Nat→Nat→Bool) (n r:Nat) (out:List Int) (k:Nat):U.kj J n r out (k+1)=U.kP J r k (U.kj J n r out k) n:=by
  unfold U.kj;rw[jHu,jHp];rfl
theorem jqR (J:Nat→Nat→Bool) (n r:Nat) (out:List Int):∀k,(U.kj J n r out k).length=out.length
  |0=>rfl
  |k+1=>by rw[jsP,jqQ,jqR J n r out k]
theorem jsN (J:Nat→Nat→Bool) (n s:Nat) (k:Nat):U.zf J n s (k+1)=U.kj J n k (U.zf J n s k) n:=by
  unfold U.zf;rw[jHu,jHp];rfl
theorem jqP (J:Nat→Nat→Bool) (n s:Nat):∀k,(U.zf J n s k).length=n
  |0=>jgx n s
  |k+1=>by rw[jsN,jqR,jqP J n s k]
theorem jCh:jrp:=by
  unfold jrp q108_5 q108_3 q108_0 q108_1 q108_4 q108_2;rintro⟨c,t,lev,s,⟨⟩⟩ hc hs;have hc:U.jq c=true:=hc;have hs:0≤s∧s<U.la c:=hs;have hla:=jG hc;obtain⟨J,hJ⟩:∃J,J=U.J3 c t lev:=⟨_,rfl⟩;refine⟨⟨0,⟨⟨rfl,trivial,trivial⟩,rfl,trivial⟩,jG2 _⟩,fun x hx=>⟨fun h=> ?_,fun h=> ?_⟩⟩
  · have h:(x:Int)<U.la c:=of_decide_eq_true h;refine⟨by simp only[jHL,jHr,jHI];omega,L.in64 (by omega) (by omega),x+1,⟨⟨by simp,trivial,trivial⟩,?_,trivial⟩,by show x+1≤(U.la c).toNat;omega,by show(U.la c).toNat-(x+1)<(U.la c).toNat-x;omega⟩;exact List.replicate_succ'.symm
  · have h:¬(x:Int)<U.la c:=of_decide_eq_false h;have hx:x≤(U.la c).toNat:=hx;have hxl:x=(U.la c).toNat:=(by omega);subst hxl;refine⟨hs.1,by rw[jHL];show s<(((U.la c).toNat:Nat):Int);omega,⟨0,⟨⟨rfl,trivial,trivial⟩,rfl,trivial⟩,jG2 _⟩,fun x hx=>⟨fun h=>⟨⟨0,⟨⟨rfl,trivial,trivial⟩,rfl,trivial⟩,jG2 _⟩,fun y hy=>⟨fun h2=>⟨⟨0,⟨⟨rfl,trivial,trivial⟩,rfl,trivial⟩,jG2 _⟩,fun z hz=>⟨fun h3=> ?_,fun h3=> ?_⟩⟩,fun h2=> ?_⟩⟩,fun h=> ?_⟩⟩
    · have h:(x:Int)<U.la c:=of_decide_eq_true h;have h2:(y:Int)<U.la c:=of_decide_eq_true h2;have h3:(z:Int)<U.la c:=of_decide_eq_true h3;have hstep:=jsO (U.J3 c t lev) x y (U.kj (U.J3 c t lev) (U.la c).toNat x (U.zf (U.J3 c t lev) (U.la c).toNat s.toNat x) y) z;have hlen:(U.kP (U.J3 c t lev) x y (U.kj (U.J3 c t lev) (U.la c).toNat x (U.zf (U.J3 c t lev) (U.la c).toNat s.toNat x) y) z).length=(U.la c).toNat:=(by rw[jqQ,jqR,jqP]);have up:z+1≤(U.la c).toNat:=(by omega);have dn:(U.la c).toNat-(z+1)<(U.la c).toNat-z:=(by omega);refine⟨by omega,by show(y:Int)<((U.kP (U.J3 c t lev) x y (U.kj (U.J3 c t lev) (U.la c).toNat x (U.zf (U.J3 c t lev) (U.la c).toNat s.toNat x) y) z).length:Int);rw[hlen];omega,fun _=>by omega,fun _=>by show(z:Int)<((U.kP (U.J3 c t lev) x y (U.kj (U.J3 c t lev) (U.la c).toNat x (U.zf (U.J3 c t lev) (U.la c).toNat s.toNat x) y) z).length:Int);rw[hlen];omega,fun _=>hc,fun _=>⟨by omega,h2⟩,fun _=>⟨by omega,h3⟩,fun h4=> ?_,fun h4=> ?_⟩
      · have h4:((decide (nth (U.kP (U.J3 c t lev) x y (U.kj (U.J3 c t lev) (U.la c).toNat x (U.zf (U.J3 c t lev) (U.la c).toNat s.toNat x) y) z) y=(x:Int))&&decide (nth (U.kP (U.J3 c t lev) x y (U.kj (U.J3 c t lev) (U.la c).toNat x (U.zf (U.J3 c t lev) (U.la c).toNat s.toNat x) y) z) z<0))&&U.J3 c t lev y z)=true:=h4;simp only[jGT,decide_eq_true_eq] at h4;refine⟨L.in64 (by omega) (by omega),by omega,by show(z:Int)<((U.kP (U.J3 c t lev) x y (U.kj (U.J3 c t lev) (U.la c).toNat x (U.zf (U.J3 c t lev) (U.la c).toNat s.toNat x) y) z).length:Int);rw[hlen];omega,L.in64 (by omega) (by omega),z+1,⟨⟨trivial,by simp,trivial⟩,?_,trivial⟩,up,dn⟩;show(U.kP (U.J3 c t lev) x y (U.kj (U.J3 c t lev) (U.la c).toNat x (U.zf (U.J3 c t lev) (U.la c).toNat s.toNat x) y) z).set z ((x:Int)+1)=U.kP (U.J3 c t lev) x y (U.kj (U.J3 c t lev) (U.la c).toNat x (U.zf (U.J3 c t lev) (U.la c).toNat s.toNat x) y) (z+1);rw[hstep];unfold U.jeD;rw[if_pos ⟨h4.1.1,h4.1.2,h4.2⟩]
      · have h4:((decide (nth (U.kP (U.J3 c t lev) x y (U.kj (U.J3 c t lev) (U.la c).toNat x (U.zf (U.J3 c t lev) (U.la c).toNat s.toNat x) y) z) y=(x:Int))&&decide (nth (U.kP (U.J3 c t lev) x y (U.kj (U.J3 c t lev) (U.la c).toNat x (U.zf (U.J3 c t lev) (U.la c).toNat s.toNat x) y) z) z<0))&&U.J3 c t lev y z)=false:=h4;refine⟨L.in64 (by omega) (by omega),z+1,⟨⟨trivial,by simp,trivial⟩,?_,trivial⟩,up,dn⟩;show U.kP (U.J3 c t lev) x y (U.kj (U.J3 c t lev) (U.la c).toNat x (U.zf (U.J3 c t lev) (U.la c).toNat s.toNat x) y) z=U.kP (U.J3 c t lev) x y (U.kj (U.J3 c t lev) (U.la c).toNat x (U.zf (U.J3 c t lev) (U.la c).toNat s.toNat x) y) (z+1);rw[hstep];unfold U.jeD;rw[if_neg (fun hh=>by rw[decide_eq_true hh.1,decide_eq_true hh.2.1,hh.2.2] at h4;cases h4)]
    · have h2:(y:Int)<U.la c:=of_decide_eq_true h2;have h3:¬(z:Int)<U.la c:=of_decide_eq_false h3;have hz:z≤(U.la c).toNat:=hz;have hzl:z=(U.la c).toNat:=(by omega);subst hzl;refine⟨L.in64 (by omega) (by omega),y+1,⟨⟨by simp,trivial,trivial⟩,?_,trivial⟩,by show y+1≤(U.la c).toNat;omega,by show(U.la c).toNat-(y+1)<(U.la c).toNat-y;omega⟩;exact(jsP (U.J3 c t lev) (U.la c).toNat x (U.zf (U.J3 c t lev) (U.la c).toNat s.toNat x) y).symm
    · have h:(x:Int)<U.la c:=of_decide_eq_true h;have h2:¬(y:Int)<U.la c:=of_decide_eq_false h2;have hy:y≤(U.la c).toNat:=hy;have hyl:y=(U.la c).toNat:=(by omega);subst hyl;refine⟨L.in64 (by omega) (by omega),x+1,⟨⟨by simp,trivial,trivial⟩,?_,trivial⟩,by show x+1≤(U.la c).toNat;omega,by show(U.la c).toNat-(x+1)<(U.la c).toNat-x;omega⟩;exact(jsN (U.J3 c t lev) (U.la c).toNat s.toNat x).symm
    · have h:¬(x:Int)<U.la c:=of_decide_eq_false h;have hx:x≤(U.la c).toNat:=hx;have hxl:x=(U.la c).toNat:=(by omega);subst hxl;rfl
theorem jzx:ze PR 149 jlU:=zv (jro.mpr jCh) Tryz.func149 (by kernel_rfl) (by kernel_rfl) (by kernel_rfl) (by kernel_rfl) ⟨fun _=>jul,trivial⟩ trivial
end Go.X
namespace Go.X
open Go.Proofs
theorem jnl (c:CrD) (j:JbD) (t:Int) (n:Nat):U.j0 c j t (n+1)=U.jve c j t (U.j0 c j t n) n:=by
  unfold U.j0;rw[jHu,jHp];rfl
theorem jta {c:CrD} {j:JbD} {t:Int} {n:Nat} (h:U.kf t (n:Int)=false):U.j0 c j t (n+1)=U.j0 c j t n:=by
  rw[jnl];unfold U.jve;rw[h,if_neg (by simp)]
theorem jEJ {c:CrD} {j:JbD} {t:Int} {n:Nat} {b1 b2 b3:Bool} (h:U.kf t (n:Int)=true) (h1:U.jbH (nth (U.ji c) n) (U.jBl j)=b1) (h2:(!U.kf (U.fd (nth (U.ji c) n)) (U.jut j))=b2) (h3:(!U.kf (U.cl (nth (U.ji c) n)) (U.jtv j))=b3):
    U.j0 c j t (n+1)=(U.jvV b3 (U.jvV b2 (U.jvV b1 (U.j0 c j t n).1 1) 2) 4,(U.j0 c j t n).2||U.jEw (nth (U.ji c) n)):=by
  rw[jnl];unfold U.jve;rw[if_pos h,h1,h2,h3]
theorem jFS {c:CrD} {j:JbD} {t:Int} {b1 b2 b3:Bool} (h1:decide (BT.size t≠max (U.jB5 j) (U.jEc (U.gK c j)))=b1) (h2:(U.jF6 (U.gK c j)&& !U.jGN c j t)=b2) (h3:decide (nth (U.jd8 c t (U.jyg (U.gK c j)) (U.jtw j)) (U.jo9 j).toNat<0)=b3):
    U.jx0 c j t=U.jvV b3 (U.jvV b2 (U.jvV b1 (U.jGq c j t) 8) 16) 32:=by
  unfold U.jx0;rw[h1,h2,h3]
theorem juN:jjA:=by
  unfold jjA q109_12 q109_11 q109_10 q109_9 q109_8 q109_7 q109_6 q109_5 q109_4 q109_0 q109_3 q109_2 q109_1;rintro⟨c,j,t,⟨⟩⟩ hc hj ht;have hc:U.jq c=true:=hc;have hj:U.jU c j=true:=hj;have ht:U.jBj t:=ht;have h8:=(jG hc).2.2.1;have h4:=(jG hc).2.2.2.1;obtain⟨jf,jt,f,k,_⟩:=jzZ hj;have f63:0≤U.jut j∧U.jut j≤63:=(by omega);have k63:0≤U.jtv j∧U.jtv j≤63:=(by omega);have hT:BT.Set' t:=(by unfold U.jBj at ht;unfold BT.Set';omega);refine⟨k.1,by show U.jtv j<((U.wi c).length:Int);omega,⟨0,⟨⟨rfl,rfl,rfl,trivial⟩,trivial⟩,jG2 _⟩,fun x hx _=>⟨fun h=> ?_,fun h=> ?_⟩⟩
  · have h:(x:Int)<((U.ji c).length:Int):=of_decide_eq_true h;have up:x+1≤(U.ji c).length:=(by omega);have dn:(U.ji c).length-(x+1)<(U.ji c).length-x:=(by omega);have i64:jx ((x:Int)+1):=L.in64 (by omega) (by omega);refine⟨⟨by omega,by omega⟩,fun h1=> ?_,fun h1=> ?_⟩
    · have h1:(!U.kf t (x:Int))=true:=h1;have e:=jta (c:=c) (j:=j) (t:=t) (n:=x) (by simpa using h1);exact⟨i64,x+1,⟨⟨congrArg (·.2) e.symm,congrArg (·.1) e.symm,by simp,trivial⟩,trivial⟩,up,dn⟩
    · have h1:(!U.kf t (x:Int))=false:=h1;have h1:U.kf t (x:Int)=true:=(by simpa using h1);refine⟨by omega,h,fun h2=>⟨f63,fun h3=>⟨k63,fun h4=> ?_,fun h4=> ?_⟩,fun h3=>⟨k63,fun h4=> ?_,fun h4=> ?_⟩⟩,fun h2=>⟨f63,fun h3=>⟨k63,fun h4=> ?_,fun h4=> ?_⟩,fun h3=>⟨k63,fun h4=> ?_,fun h4=> ?_⟩⟩⟩
      all_goals
        have e:=jEJ (c:=c) (j:=j) (t:=t) (n:=x) h1 h2 h3 h4
        first
        |exact⟨i64,x+1,⟨⟨by simp,congrArg (·.2) e.symm,congrArg (·.1) e.symm,trivial⟩,trivial⟩,up,dn⟩
        |exact⟨i64,x+1,⟨⟨congrArg (·.1) e.symm,by simp,congrArg (·.2) e.symm,trivial⟩,trivial⟩,up,dn⟩
        |exact⟨i64,x+1,⟨⟨congrArg (·.2) e.symm,by simp,congrArg (·.1) e.symm,trivial⟩,trivial⟩,up,dn⟩
        |exact⟨i64,x+1,⟨⟨congrArg (·.2) e.symm,congrArg (·.1) e.symm,by simp,trivial⟩,trivial⟩,up,dn⟩
        |exact⟨i64,x+1,⟨⟨by simp,congrArg (·.1) e.symm,congrArg (·.2) e.symm,trivial⟩,trivial⟩,up,dn⟩
        |exact⟨i64,x+1,⟨⟨congrArg (·.1) e.symm,congrArg (·.2) e.symm,by simp,trivial⟩,trivial⟩,up,dn⟩
  · have h:¬(x:Int)<((U.ji c).length:Int):=of_decide_eq_false h;have hx:x≤(U.ji c).length:=hx;have hxl:x=(U.ji c).length:=(by omega);subst hxl;have hfl:U.jo9 j<((U.jd8 c t (U.jyg (U.gK c j)) (U.jtw j)).length:Int):=by
      unfold U.jd8;rw[jqP];omega
    refine⟨hT,fun h1=>⟨fun h2=>⟨hc,jf,jt.1,hfl,fun h3=> ?_,fun h3=> ?_⟩,fun h2=>⟨hc,jf,jt.1,hfl,fun h3=> ?_,fun h3=> ?_⟩⟩,fun h1=>⟨fun h2=>⟨hc,jf,jt.1,hfl,fun h3=> ?_,fun h3=> ?_⟩,fun h2=>⟨hc,jf,jt.1,hfl,fun h3=> ?_,fun h3=> ?_⟩⟩⟩
    all_goals
      have e:=jFS (c:=c) (j:=j) (t:=t) h1 h2 h3;exact congrArg (fun z=>(z,())) e.symm
theorem jse:ze PR 108 jdx:=zv (jlC.mpr juN) Tryz.func108 (by kernel_rfl) (by kernel_rfl) (by kernel_rfl) (by kernel_rfl) ⟨fun _=>jhD,fun _=>joY,fun _=>jw5,fun _=>jzx,trivial⟩ trivial
theorem jw6:ze PR 55 jiz:=zv (jpN.mpr jAl) Tryz.func55 (by kernel_rfl) (by kernel_rfl) (by kernel_rfl) (by kernel_rfl) ⟨fun _=>jse,trivial⟩ trivial
end Go.X
namespace Go.X
open Go.Proofs
theorem jBK (l:Int) (p:PeD):U.jaG l p=(!(decide (((U.lv p).length:Int)≠l)|| !U.jc (U.fd p) 0 255|| !U.jc (U.cl p) 0 255||decide (10<((U.zy p).length:Int))|| !U.jc (U.fe p) 0 1000)&&((U.lv p).all (fun n=>U.jc n 0 5)&&(U.zy p).all (fun n=>U.jc n 0 99))):=by
  unfold U.jaG;congr 1;rw[jHk];simp only[U.jc,jHt,jHl,decide_eq_false_iff_not,jHN,jGT,decide_eq_true_eq];omega
theorem jkW (c:CrD):U.jq c=(!(!U.jc (U.la c) 2 5||decide (8<((U.ji c).length:Int))||decide (((U.wi c).length:Int)≠4))&&((U.ji c).all (U.jaG (U.la c))&&(U.wi c).all U.ja8)):=by
  unfold U.jq;congr 1;rw[jHk];simp only[U.jc,jHt,jHl,decide_eq_false_iff_not,jHN,jGT,decide_eq_true_eq];omega
theorem jjb {c:CrD} {x:Nat} (hx:x<(U.ji c).length) (h:U.jaG (U.la c) (nth (U.ji c) x)=false):U.jq c=false:=by
  have:(U.ji c).all (U.jaG (U.la c))=false:=jH0.2 ⟨_,L.mem_nth hx,by rw[h];simp⟩;rw[jkW,this];simp
theorem jxT {c:CrD} {x:Nat} (hx:x<(U.wi c).length) (h:U.ja8 (nth (U.wi c) x)=false):U.jq c=false:=by
  have:(U.wi c).all U.ja8=false:=jH0.2 ⟨_,L.mem_nth hx,by rw[h];simp⟩;rw[jkW,this];simp
theorem jci {α:Type} [Inhabited α] {l:List α} {p:α→Bool} {x:Nat} (hx:¬x<l.length) (h:∀j:Nat,j<x→p (nth l j)=true):l.all p=true:=by
  rw[jHo];intro a ha;obtain⟨i,hi,rfl⟩:=L.mem_iff.1 ha;exact h i (by omega)
theorem jdD {c:CrD} (h:U.jq c=false):(false,())=(U.jq c,()):=by rw[h]
theorem juO:jjB:=by
  unfold jjB q102_7 q102_2 q102_6 q102_1 q102_5 q102_4 q102_3 q102_0;rintro⟨c,⟨⟩⟩ _ _;refine⟨fun h=> ?_,fun h=> ?_⟩
  · have h:(!U.jc (U.la c) 2 5||decide (8<((U.ji c).length:Int))||decide (((U.wi c).length:Int)≠4))=true:=h;refine jdD (c:=c) ?_;rw[jkW,h];rfl
  have hh:(!U.jc (U.la c) 2 5||decide (8<((U.ji c).length:Int))||decide (((U.wi c).length:Int)≠4))=false:=h;clear h;refine⟨⟨0,⟨⟨rfl,trivial⟩,trivial⟩,jG2 _,fun j hj=>by omega⟩,fun x hx hf=>⟨fun h=> ?_,fun h=> ?_⟩⟩
  · have hf:(U.ji c).length<4611686018427387904:=hf;have h:(x:Int)<((U.ji c).length:Int):=of_decide_eq_true h;have hxl:x<(U.ji c).length:=(by omega);refine⟨by omega,h,fun _ _=>⟨fun h2=> ?_,fun h2=> ?_⟩⟩
    · have h2:(decide (((U.lv (nth (U.ji c) x)).length:Int)≠U.la c)|| !U.jc (U.fd (nth (U.ji c) x)) 0 255|| !U.jc (U.cl (nth (U.ji c) x)) 0 255||decide (10<((U.zy (nth (U.ji c) x)).length:Int))|| !U.jc (U.fe (nth (U.ji c) x)) 0 1000)=true:=h2;refine jdD (c:=c) (jjb hxl ?_);rw[jBK,h2];rfl
    have h2:(decide (((U.lv (nth (U.ji c) x)).length:Int)≠U.la c)|| !U.jc (U.fd (nth (U.ji c) x)) 0 255|| !U.jc (U.cl (nth (U.ji c) x)) 0 255||decide (10<((U.zy (nth (U.ji c) x)).length:Int))|| !U.jc (U.fe (nth (U.ji c) x)) 0 1000)=false:=h2;refine⟨⟨0,⟨⟨rfl,trivial⟩,trivial⟩,jG2 _,fun j hj=>by omega⟩,fun y hy hf2=>⟨fun h3=> ?_,fun h3=> ?_⟩⟩
    · have hf2:(U.lv (nth (U.ji c) x)).length<4611686018427387904:=hf2;have h3:(y:Int)<((U.lv (nth (U.ji c) x)).length:Int):=of_decide_eq_true h3;refine⟨by omega,h3,fun h4=> ?_,fun h4=>⟨L.in64 (by omega) (by omega),y+1,⟨⟨by simp,trivial⟩,trivial⟩,⟨by show y+1≤(U.lv (nth (U.ji c) x)).length;omega,fun j hj=> ?_⟩,by show(U.lv (nth (U.ji c) x)).length-(y+1)<(U.lv (nth (U.ji c) x)).length-y;omega⟩⟩
      · have h4:(!U.jc (nth (U.lv (nth (U.ji c) x)) y) 0 5)=true:=h4;have h4:U.jc (nth (U.lv (nth (U.ji c) x)) y) 0 5=false:=(by simpa using h4);refine jdD (c:=c) (jjb hxl ?_);have:(U.lv (nth (U.ji c) x)).all (fun n=>U.jc n 0 5)=false:=jH0.2 ⟨_,L.mem_nth (l:=U.lv (nth (U.ji c) x)) (i:=y) (by omega),by rw[h4];simp⟩;rw[jBK,this];simp
      · have h4:(!U.jc (nth (U.lv (nth (U.ji c) x)) y) 0 5)=false:=h4;by_cases e:j=y
        · subst e;exact(show U.jc (nth (U.lv (nth (U.ji c) x)) j) 0 5=true by simpa using h4)
        · exact hy.2 j (by omega)
    have h3:¬(y:Int)<((U.lv (nth (U.ji c) x)).length:Int):=of_decide_eq_false h3;have hA:(U.lv (nth (U.ji c) x)).all (fun n=>U.jc n 0 5)=true:=jci (by omega) hy.2;refine⟨⟨0,⟨⟨rfl,trivial⟩,trivial⟩,jG2 _,fun j hj=>by omega⟩,fun z hz hf3=>⟨fun h4=> ?_,fun h4=> ?_⟩⟩
    · have hf3:(U.zy (nth (U.ji c) x)).length<4611686018427387904:=hf3;have h4:(z:Int)<((U.zy (nth (U.ji c) x)).length:Int):=of_decide_eq_true h4;refine⟨by omega,h4,fun h5=> ?_,fun h5=>⟨L.in64 (by omega) (by omega),z+1,⟨⟨by simp,trivial⟩,trivial⟩,⟨by show z+1≤(U.zy (nth (U.ji c) x)).length;omega,fun j hj=> ?_⟩,by show(U.zy (nth (U.ji c) x)).length-(z+1)<(U.zy (nth (U.ji c) x)).length-z;omega⟩⟩
      · have h5:(!U.jc (nth (U.zy (nth (U.ji c) x)) z) 0 99)=true:=h5;have h5:U.jc (nth (U.zy (nth (U.ji c) x)) z) 0 99=false:=(by simpa using h5);refine jdD (c:=c) (jjb hxl ?_);have:(U.zy (nth (U.ji c) x)).all (fun n=>U.jc n 0 99)=false:=jH0.2 ⟨_,L.mem_nth (l:=U.zy (nth (U.ji c) x)) (i:=z) (by omega),by rw[h5];simp⟩;rw[jBK,this];simp
      · have h5:(!U.jc (nth (U.zy (nth (U.ji c) x)) z) 0 99)=false:=h5;by_cases e:j=z
        · subst e;exact(show U.jc (nth (U.zy (nth (U.ji c) x)) j) 0 99=true by simpa using h5)
        · exact hz.2 j (by omega)
    have h4:¬(z:Int)<((U.zy (nth (U.ji c) x)).length:Int):=of_decide_eq_false h4;have hB:(U.zy (nth (U.ji c) x)).all (fun n=>U.jc n 0 99)=true:=jci (by omega) hz.2;refine⟨L.in64 (by omega) (by omega),x+1,⟨⟨by simp,trivial⟩,trivial⟩,⟨by show x+1≤(U.ji c).length;omega,fun j hj=> ?_⟩,by show(U.ji c).length-(x+1)<(U.ji c).length-x;omega⟩;by_cases e:j=x
    · subst e;show U.jaG (U.la c) (nth (U.ji c) j)=true;rw[jBK,h2,hA,hB];rfl
    · exact hx.2 j (by omega)
  have h:¬(x:Int)<((U.ji c).length:Int):=of_decide_eq_false h;have hP:(U.ji c).all (U.jaG (U.la c))=true:=jci (by omega) hx.2;refine⟨⟨0,⟨⟨rfl,trivial⟩,trivial⟩,jG2 _,fun j hj=>by omega⟩,fun y hy hf2=>⟨fun h3=> ?_,fun h3=> ?_⟩⟩
  · have hf2:(U.wi c).length<4611686018427387904:=hf2;have h3:(y:Int)<((U.wi c).length:Int):=of_decide_eq_true h3;have hlw:U.ja8 (nth (U.wi c) y)= !(!U.jc (U.jyg (nth (U.wi c) y)) 1 5|| !U.jc (U.jEc (nth (U.wi c) y)) 1 8):=by
      unfold U.ja8;rw[Bool.not_or,Bool.not_not,Bool.not_not]
    refine⟨by omega,h3,fun _=>by omega,fun _=>h3,fun h4=> ?_,fun h4=>⟨L.in64 (by omega) (by omega),y+1,⟨⟨by simp,trivial⟩,trivial⟩,⟨by show y+1≤(U.wi c).length;omega,fun j hj=> ?_⟩,by show(U.wi c).length-(y+1)<(U.wi c).length-y;omega⟩⟩
    · have h4:(!U.jc (U.jyg (nth (U.wi c) y)) 1 5|| !U.jc (U.jEc (nth (U.wi c) y)) 1 8)=true:=h4;exact jdD (c:=c) (jxT (x:=y) (by omega) (by rw[hlw,h4];rfl))
    · have h4:(!U.jc (U.jyg (nth (U.wi c) y)) 1 5|| !U.jc (U.jEc (nth (U.wi c) y)) 1 8)=false:=h4;by_cases e:j=y
      · subst e;show U.ja8 (nth (U.wi c) j)=true;rw[hlw,h4];rfl
      · exact hy.2 j (by omega)
  · have h3:¬(y:Int)<((U.wi c).length:Int):=of_decide_eq_false h3;have hL:(U.wi c).all U.ja8=true:=jci (by omega) hy.2;show(true,())=(U.jq c,());rw[jkW,hh,hP,hL];rfl
theorem jjO:ze PR 49 jad:=zv (jlF.mpr juO) Tryz.func49 (by kernel_rfl) (by kernel_rfl) (by kernel_rfl) (by kernel_rfl) ⟨fun _=>jjN,trivial⟩ trivial
end Go.X
namespace Go.X
open Go.Proofs
namespace U
def wz (l:List ShD) (i k:Nat) (id:Int):Bool:=decide (wG (nth l i)=id)&& !((l.take k).any (fun x=>decide (x=nth l i)))
end U
def vS:jW:=⟨[.val .int,.val .int,.val .int],[.bool],false,fun _=>[],fun d=>(U.jc d.1 d.2.1 d.2.2.1,())⟩
def jjw:Prop:=∀(d:Int×Int×Int×Unit),(decide (d.2.1≤d.1)&&decide (d.1≤d.2.2.1),())=(U.jc d.1 d.2.1 d.2.2.1,())
theorem jlq:zq (ctx 15 [] []) (fun _=>none) Tryz.f103 (jd Tryz.f103) vS=jjw:=by kernel_rfl
def gi:jW:=⟨[.val tDy,.val .int],[.bool],false,fun _=>[],fun d=>(U.jFB d.1 d.2.1,())⟩
def jdh:Prop:=∀(d:DyD×Int×Unit),d.1.2.2.1.length<4611686018427387904→jx ((d.1.2.2.1.length:Int)-(1:Int))∧(U.jc d.2.1 (0:Int) ((d.1.2.2.1.length:Int)-(1:Int)),())=(U.jFB d.1 d.2.1,())
theorem jg6:zq (ctx 11 [(103,vS)] []) (fun _=>none) Tryz.f104 (jd Tryz.f104) gi=jdh:=by kernel_rfl
def jaC:jW:=⟨[.val tDy,.val .int],[.bool],false,fun _=>[],fun d=>(U.jDa d.1 d.2.1,())⟩
def jfe:Prop:=∀(d:DyD×Int×Unit),d.1.1.2.1.length<4611686018427387904→jx ((d.1.1.2.1.length:Int)-(1:Int))∧(U.jc d.2.1 (0:Int) ((d.1.1.2.1.length:Int)-(1:Int)),())=(U.jDa d.1 d.2.1,())
theorem jiq:zq (ctx 12 [(103,vS)] []) (fun _=>none) Tryz.f60 (jd Tryz.f60) jaC=jfe:=by kernel_rfl
def jfT:jW:=⟨[.val tDy],[.bool],false,fun _=>[],fun d=>(U.kg d.1,())⟩
def jvo:Ann:=fun r=>match r with
  |4=>some fun σ=>{X:=Nat,sl:=fun i=>[(3,.dat .int (i:Int))],ob:=fun _=>[],inv:=fun i=>i≤(U.jO (gb tDy σ 1)).length∧∀j:Nat,j<i→U.gx (U.jO (gb tDy σ 1)).length (nth (U.jO (gb tDy σ 1)) j)=true,mu:=fun i=>(U.jO (gb tDy σ 1)).length-i}
  |9=>some fun σ=>{X:=Nat,sl:=fun i=>[(4,.dat .int (i:Int))],ob:=fun _=>[],inv:=fun i=>i≤(nth (U.jO (gb tDy σ 1)) (gd .int σ 3).toNat).length∧∀j:Nat,j<i→U.jhE (nth (nth (U.jO (gb tDy σ 1)) (gd .int σ 3).toNat) j)=true,mu:=fun i=>(nth (U.jO (gb tDy σ 1)) (gd .int σ 3).toNat).length-i}
  |15=>some fun σ=>{X:=Nat,sl:=fun i=>[(6,.dat .int (i:Int))],ob:=fun _=>[],inv:=fun i=>i≤(U.jv (gb tDy σ 1)).length∧∀j:Nat,j<i→U.je2 (U.jO (gb tDy σ 1)).length (nth (U.jv (gb tDy σ 1)) j)=true,mu:=fun i=>(U.jv (gb tDy σ 1)).length-i}
  |21=>some fun σ=>{X:=Nat,sl:=fun i=>[(8,.dat .int (i:Int))],ob:=fun _=>[],inv:=fun i=>i≤(U.jT (gb tDy σ 1)).length∧∀j:Nat,j<i→U.jdN (U.jv (gb tDy σ 1)).length (U.ji (U.jo (gb tDy σ 1))).length (nth (U.jT (gb tDy σ 1)) j)=true,mu:=fun i=>(U.jT (gb tDy σ 1)).length-i}
  |_=>none
abbrev q114_4 (d:DyD×Unit)(x:Nat):=(nth d.1.2.1 (x:Int).toNat)
abbrev q114_2 (d:DyD×Unit)(x:Nat)(x_5:Nat):=(decide ((nth (q114_4 d x) (x_5:Int).toNat).1<(0:Int))||decide ((nth (q114_4 d x) (x_5:Int).toNat).2.1<(nth (q114_4 d x) (x_5:Int).toNat).1)||decide ((300:Int)<(nth (q114_4 d x) (x_5:Int).toNat).2.1))
abbrev q114_5 (d:DyD×Unit)(x:Nat):=(nth (U.jO d.1) (x:Int).toNat)
abbrev q114_6 (d:DyD×Unit):=(d.1.2.1.length:Int)
abbrev q114_7 (d:DyD×Unit)(x:Nat):=(nth d.1.2.2.2.2.2.1 (x:Int).toNat)
abbrev q114_0 (d:DyD×Unit)(x:Nat):=(!U.jc (q114_7 d x).1 (0:Int) (99:Int)|| !U.jc (q114_7 d x).2.1 (0:Int) (9999:Int)|| !U.jc (q114_7 d x).2.2.1 (1:Int) (2:Int)|| !U.jFB d.1 (q114_7 d x).2.2.2.1|| !U.jDa d.1 (q114_7 d x).2.2.2.2.1)
abbrev q114_8 (x:Nat)(x':Nat):=(((x:Int)+(1:Int)=(x':Int)∧True)∧True)
abbrev q114_9 (x:Nat):=(((0:Int)=(x:Int)∧True)∧True)
abbrev q114_10 (d:DyD×Unit):=(d.1.2.2.1.length:Int)
abbrev q114_11 (d:DyD×Unit)(x:Nat):=(nth d.1.2.2.1 (x:Int).toNat)
abbrev q114_1 (d:DyD×Unit)(x:Nat):=(!U.jc (q114_11 d x).2.1 (0:Int) ((q114_6 d)-(1:Int))||decide ((q114_11 d x).2.2.1<(0:Int))||decide ((q114_11 d x).2.2.2.1≤(q114_11 d x).2.2.1)||decide ((1440:Int)<(q114_11 d x).2.2.2.1))
abbrev q114_12 (d:DyD×Unit)(x:Nat):=(↑(q114_4 d x).length:Int)
abbrev q114_13 (d:DyD×Unit):=(d.1.2.2.2.2.2.1.length:Int)
abbrev q114_3 (d:DyD×Unit):=(decide ((4:Int)<(q114_10 d))|| !U.jc (q114_6 d) (1:Int) (5:Int)|| !U.jc d.1.2.2.2.1 (0:Int) (300:Int)|| !U.jc d.1.2.2.2.2.1 (0:Int) (1440:Int)||decide ((30:Int)<(q114_13 d)))
def jly:Prop:=∀(d:DyD×Unit),d.1.2.2.1.length<4611686018427387904→((!decide ((4:Int)<(q114_10 d)))=true→d.1.2.1.length<4611686018427387904)→((!(decide ((4:Int)<(q114_10 d))|| !U.jc (q114_6 d) (1:Int) (5:Int)|| !U.jc d.1.2.2.2.1 (0:Int) (300:Int)|| !U.jc d.1.2.2.2.2.1 (0:Int) (1440:Int)))=true→d.1.2.2.2.2.2.1.length<4611686018427387904)→((q114_3 d)=true→(false,())=(U.kg d.1,()))∧((q114_3 d)=false→(∃(x:Nat),(q114_9 x)∧x≤(U.jO d.1).length∧∀(j:Nat),j<x→U.gx (U.jO d.1).length (nth (U.jO d.1) j)=true)∧∀(x:Nat),(x≤(U.jO d.1).length∧∀(j:Nat),j<x→U.gx (U.jO d.1).length (nth (U.jO d.1) j)=true)→d.1.2.1.length<4611686018427387904→(decide ((x:Int)<(q114_6 d))=true→(0:Int)≤(x:Int)∧(x:Int)<(q114_6 d)∧(decide ((q114_12 d x)≠(q114_6 d))=true→(false,())=(U.kg d.1,()))∧(decide ((q114_12 d x)≠(q114_6 d))=false→(∃(x_5:Nat),(((0:Int)=(x_5:Int)∧True)∧True)∧x_5≤(q114_5 d x).length∧∀(j:Nat),j<x_5→U.jhE (nth (q114_5 d x) j)=true)∧∀(x_5:Nat),(x_5≤(q114_5 d x).length∧∀(j:Nat),j<x_5→U.jhE (nth (q114_5 d x) j)=true)→(0:Int)≤(x:Int)∧(x:Int)<(q114_6 d)∧((q114_4 d x).length<4611686018427387904→(decide ((x_5:Int)<(q114_12 d x))=true→(0:Int)≤(x:Int)∧(x:Int)<(q114_6 d)∧(0:Int)≤(x_5:Int)∧(x_5:Int)<(q114_12 d x)∧((q114_2 d x x_5)=true→(false,())=(U.kg d.1,()))∧((q114_2 d x x_5)=false→jx ((x_5:Int)+(1:Int))∧∃(x':Nat),(((x_5:Int)+(1:Int)=(x':Int)∧True)∧True)∧(x'≤(q114_5 d x).length∧∀(j:Nat),j<x'→U.jhE (nth (q114_5 d x) j)=true)∧(q114_5 d x).length-x'<(q114_5 d x).length-x_5))∧(decide ((x_5:Int)<(q114_12 d x))=false→jx ((x:Int)+(1:Int))∧∃(x':Nat),(q114_8 x x')∧(x'≤(U.jO d.1).length∧∀(j:Nat),j<x'→U.gx (U.jO d.1).length (nth (U.jO d.1) j)=true)∧(U.jO d.1).length-x'<(U.jO d.1).length-x))))∧(decide ((x:Int)<(q114_6 d))=false→(∃(x:Nat),(q114_9 x)∧x≤(U.jv d.1).length∧∀(j:Nat),j<x→U.je2 (U.jO d.1).length (nth (U.jv d.1) j)=true)∧∀(x:Nat),(x≤(U.jv d.1).length∧∀(j:Nat),j<x→U.je2 (U.jO d.1).length (nth (U.jv d.1) j)=true)→d.1.2.2.1.length<4611686018427387904→(decide ((x:Int)<(q114_10 d))=true→(0:Int)≤(x:Int)∧(x:Int)<(q114_10 d)∧(d.1.2.1.length<4611686018427387904→jx ((q114_6 d)-(1:Int))∧((q114_1 d x)=true→(false,())=(U.kg d.1,()))∧((q114_1 d x)=false→jx ((x:Int)+(1:Int))∧∃(x':Nat),(q114_8 x x')∧(x'≤(U.jv d.1).length∧∀(j:Nat),j<x'→U.je2 (U.jO d.1).length (nth (U.jv d.1) j)=true)∧(U.jv d.1).length-x'<(U.jv d.1).length-x)))∧(decide ((x:Int)<(q114_10 d))=false→(∃(x:Nat),(q114_9 x)∧x≤(U.jT d.1).length∧∀(j:Nat),j<x→U.jdN (U.jv d.1).length (U.ji (U.jo d.1)).length (nth (U.jT d.1) j)=true)∧∀(x:Nat),(x≤(U.jT d.1).length∧∀(j:Nat),j<x→U.jdN (U.jv d.1).length (U.ji (U.jo d.1)).length (nth (U.jT d.1) j)=true)→d.1.2.2.2.2.2.1.length<4611686018427387904→(decide ((x:Int)<(q114_13 d))=true→(0:Int)≤(x:Int)∧(x:Int)<(q114_13 d)∧((q114_0 d x)=true→(false,())=(U.kg d.1,()))∧((q114_0 d x)=false→jx ((x:Int)+(1:Int))∧∃(x':Nat),(q114_8 x x')∧(x'≤(U.jT d.1).length∧∀(j:Nat),j<x'→U.jdN (U.jv d.1).length (U.ji (U.jo d.1)).length (nth (U.jT d.1) j)=true)∧(U.jT d.1).length-x'<(U.jT d.1).length-x))∧(decide ((x:Int)<(q114_13 d))=false→(true,())=(U.kg d.1,())))))
theorem jnK:zq (ctx 168 [(103,vS),(104,gi),(60,jaC)] []) (jvo) Tryz.f51 (jd Tryz.f51) jfT=jly:=by kernel_rfl
def jfS:jW:=⟨[.val (.slice tSh)],[.bool],false,fun d=>[d.1.length≤1000000],fun d=>(U.yC d.1,())⟩
def jvm:Ann:=fun r=>match r with
  |2=>some fun σ=>{X:=Nat,sl:=fun i=>[(3,.dat .int (i:Int))],ob:=fun _=>[],inv:=fun i=>i≤(gd (.slice tSh) σ 0).length∧U.qT (gd (.slice tSh) σ 0) i=false,mu:=fun i=>(gd (.slice tSh) σ 0).length-i}
  |5=>some fun σ=>{X:=Nat,sl:=fun i=>[(4,.dat .int (i:Int))],ob:=fun _=>[],inv:=fun i=>i≤(gd .int σ 3).toNat∧∀j:Nat,j<i→U.jnd (nth (gd (.slice tSh) σ 0) (gd .int σ 3).toNat) (nth (gd (.slice tSh) σ 0) j)=false,mu:=fun i=>(gd .int σ 3).toNat-i}
  |_=>none
abbrev q115_0 (d:List ShD×Unit)(x:Nat)(x_4:Nat):=((nth d.1 (x:Int).toNat).1=(nth d.1 (x_4:Int).toNat).1)
def jlu:Prop:=∀(d:List ShD×Unit),d.1.length≤1000000→(∃(x:Nat),(((0:Int)=(x:Int)∧True)∧True)∧x≤d.1.length∧U.qT d.1 x=false)∧∀(x:Nat),x≤d.1.length∧U.qT d.1 x=false→d.1.length<4611686018427387904→(decide ((x:Int)<(d.1.length:Int))=true→(∃(x_4:Nat),(((0:Int)=(x_4:Int)∧True)∧True)∧x_4≤(x:Int).toNat∧∀(j:Nat),j<x_4→U.jnd (nth d.1 (x:Int).toNat) (nth d.1 j)=false)∧∀(x_4:Nat),(x_4≤(x:Int).toNat∧∀(j:Nat),j<x_4→U.jnd (nth d.1 (x:Int).toNat) (nth d.1 j)=false)→(decide ((x_4:Int)<(x:Int))=true→(0:Int)≤(x:Int)∧(x:Int)<(d.1.length:Int)∧(0:Int)≤(x_4:Int)∧(x_4:Int)<(d.1.length:Int)∧(decide (q115_0 d x x_4)=true→(0:Int)≤(x:Int))∧(decide (q115_0 d x x_4)=true→(x:Int)<(d.1.length:Int))∧(decide (q115_0 d x x_4)=true→(0:Int)≤(x_4:Int))∧(decide (q115_0 d x x_4)=true→(x_4:Int)<(d.1.length:Int))∧((decide (q115_0 d x x_4)&& !decide (nth d.1 (x:Int).toNat=nth d.1 (x_4:Int).toNat))=true→(true,())=(U.yC d.1,()))∧((decide (q115_0 d x x_4)&& !decide (nth d.1 (x:Int).toNat=nth d.1 (x_4:Int).toNat))=false→jx ((x_4:Int)+(1:Int))∧∃(x':Nat),(((x_4:Int)+(1:Int)=(x':Int)∧True)∧True)∧(x'≤(x:Int).toNat∧∀(j:Nat),j<x'→U.jnd (nth d.1 (x:Int).toNat) (nth d.1 j)=false)∧(x:Int).toNat-x'<(x:Int).toNat-x_4))∧(decide ((x_4:Int)<(x:Int))=false→jx ((x:Int)+(1:Int))∧∃(x':Nat),(((x:Int)+(1:Int)=(x':Int)∧True)∧True)∧(x'≤d.1.length∧U.qT d.1 x'=false)∧d.1.length-x'<d.1.length-x))∧(decide ((x:Int)<(d.1.length:Int))=false→(false,())=(U.yC d.1,()))
theorem jnG:zq (ctx 38 [] []) (jvm) Tryz.f52 (jd Tryz.f52) jfS=jlu:=by kernel_rfl
def vu:jW:=⟨[.val tDy],[.int],false,fun d=>[(U.jv d.1).length≤1000000],fun d=>(U.kM d.1,())⟩
def jvp:Ann:=fun r=>match r with
  |4=>some fun σ=>{X:=Nat,sl:=fun i=>[(3,.dat .int (i:Int))],ob:=fun _=>[],inv:=fun i=>i≤(U.jv (gb tDy σ 1)).length∧∀j:Nat,j<i→U.jU (U.jo (gb tDy σ 1)) (U.jaL (nth (U.jv (gb tDy σ 1)) j))=true,mu:=fun i=>(U.jv (gb tDy σ 1)).length-i}
  |_=>none
def jlz:Prop:=∀(d:DyD×Unit),(U.jv d.1).length≤1000000→((!U.jq d.1.1)=true→((30:Int),())=(U.kM d.1,()))∧((!U.jq d.1.1)=false→(∃(x:Nat),(((0:Int)=(x:Int)∧True)∧True)∧x≤(U.jv d.1).length∧∀(j:Nat),j<x→U.jU (U.jo d.1) (U.jaL (nth (U.jv d.1) j))=true)∧∀(x:Nat),(x≤(U.jv d.1).length∧∀(j:Nat),j<x→U.jU (U.jo d.1) (U.jaL (nth (U.jv d.1) j))=true)→d.1.2.2.1.length<4611686018427387904→(decide ((x:Int)<(d.1.2.2.1.length:Int))=true→(0:Int)≤(x:Int)∧(x:Int)<(d.1.2.2.1.length:Int)∧U.jq d.1.1=true∧((!U.jU d.1.1 (nth d.1.2.2.1 (x:Int).toNat).1)=true→((31:Int),())=(U.kM d.1,()))∧((!U.jU d.1.1 (nth d.1.2.2.1 (x:Int).toNat).1)=false→jx ((x:Int)+(1:Int))∧∃(x':Nat),(((x:Int)+(1:Int)=(x':Int)∧True)∧True)∧(x'≤(U.jv d.1).length∧∀(j:Nat),j<x'→U.jU (U.jo d.1) (U.jaL (nth (U.jv d.1) j))=true)∧(U.jv d.1).length-x'<(U.jv d.1).length-x))∧(decide ((x:Int)<(d.1.2.2.1.length:Int))=false→((!U.kg d.1)=true→((50:Int),())=(U.kM d.1,()))∧((!U.kg d.1)=false→d.1.2.2.2.2.2.1.length≤1000000∧(U.yC d.1.2.2.2.2.2.1=true→((51:Int),())=(U.kM d.1,()))∧(U.yC d.1.2.2.2.2.2.1=false→((0:Int),())=(U.kM d.1,())))))
theorem jnL:zq (ctx 31 [(49,jad),(50,jfW),(51,jfT),(52,jfS)] []) (jvp) Tryz.f17 (jd Tryz.f17) vu=jlz:=by kernel_rfl
def jfR:jW:=⟨[.val tSh,.val tSh],[.bool],false,fun _=>[],fun d=>(U.zx d.1 d.2.1,())⟩
def jlt:Prop:=∀(d:ShD×ShD×Unit),(decide (d.2.1.2.1<d.1.2.1)||decide (d.1.2.1=d.2.1.2.1)&&decide (d.2.1.1<d.1.1),())=(U.zx d.1 d.2.1,())
theorem jnF:zq (ctx 24 [] []) (fun _=>none) Tryz.f146 (jd Tryz.f146) jfR=jlt:=by kernel_rfl
def jaB:jW:=⟨[.val tDy,.val .int,.val .int],[.bool],false,fun d=>[U.jn5 d.1,U.qo d.1 d.2.1,U.qo d.1 d.2.2.1],fun d=>(U.jR d.1 d.2.1 d.2.2.1,())⟩
abbrev q118_0 (d:DyD×Int×Int×Unit):=(nth d.1.2.2.1 d.2.2.1.toNat)
abbrev q118_1 (d:DyD×Int×Int×Unit):=(nth d.1.2.2.1 d.2.1.toNat)
abbrev q118_2 (d:DyD×Int×Int×Unit):=((q118_0 d).2.2.1<(q118_1 d).2.2.1)
abbrev q118_3 (d:DyD×Int×Int×Unit):=(d.1.2.2.1.length:Int)
abbrev q118_4 (d:DyD×Int×Int×Unit):=(decide (q118_2 d)||decide ((q118_0 d).2.2.1=(q118_1 d).2.2.1)&&decide (d.2.2.1<d.2.1))
def jfc:Prop:=∀(d:DyD×Int×Int×Unit),U.jn5 d.1→U.qo d.1 d.2.1→U.qo d.1 d.2.2.1→(0:Int)≤d.2.2.1∧d.2.2.1<(q118_3 d)∧(0:Int)≤d.2.1∧d.2.1<(q118_3 d)∧((!decide (q118_2 d))=true→(0:Int)≤d.2.2.1)∧((!decide (q118_2 d))=true→d.2.2.1<(q118_3 d))∧((!decide (q118_2 d))=true→(0:Int)≤d.2.1)∧((!decide (q118_2 d))=true→d.2.1<(q118_3 d))∧((q118_4 d)=true→(0:Int)≤d.2.2.1∧d.2.2.1<(q118_3 d)∧(0:Int)≤d.2.1∧d.2.1<(q118_3 d)∧jx ((q118_0 d).2.2.2.1+d.1.2.2.2.1)∧(0:Int)≤(q118_0 d).2.1∧(q118_0 d).2.1<(d.1.2.1.length:Int)∧(0:Int)≤(q118_1 d).2.1∧(q118_1 d).2.1<(↑(nth d.1.2.1 (q118_0 d).2.1.toNat).length:Int)∧jx ((q118_0 d).2.2.2.1+d.1.2.2.2.1+(nth (nth d.1.2.1 (q118_0 d).2.1.toNat) (q118_1 d).2.1.toNat).2.1)∧(decide ((q118_0 d).2.2.2.1+d.1.2.2.2.1+(nth (nth d.1.2.1 (q118_0 d).2.1.toNat) (q118_1 d).2.1.toNat).2.1≤(q118_1 d).2.2.1),())=(U.jR d.1 d.2.1 d.2.2.1,()))∧((q118_4 d)=false→(0:Int)≤d.2.1∧d.2.1<(q118_3 d)∧(0:Int)≤d.2.2.1∧d.2.2.1<(q118_3 d)∧jx ((q118_1 d).2.2.2.1+d.1.2.2.2.1)∧(0:Int)≤(q118_1 d).2.1∧(q118_1 d).2.1<(d.1.2.1.length:Int)∧(0:Int)≤(q118_0 d).2.1∧(q118_0 d).2.1<(↑(nth d.1.2.1 (q118_1 d).2.1.toNat).length:Int)∧jx ((q118_1 d).2.2.2.1+d.1.2.2.2.1+(nth (nth d.1.2.1 (q118_1 d).2.1.toNat) (q118_0 d).2.1.toNat).2.1)∧(decide ((q118_1 d).2.2.2.1+d.1.2.2.2.1+(nth (nth d.1.2.1 (q118_1 d).2.1.toNat) (q118_0 d).2.1.toNat).2.1≤(q118_0 d).2.2.1),())=(U.jR d.1 d.2.1 d.2.2.1,()))
theorem jip:zq (ctx 74 [] []) (fun _=>none) Tryz.f147 (jd Tryz.f147) jaB=jfc:=by kernel_rfl
def jfU:jW:=⟨[.val tDy,.val .int,.val (.slice .int)],[.bool],false,fun d=>[U.jn5 d.1,U.jsh d.1 d.2.1,U.jkv d.1 d.2.2.1],fun d=>(U.wN d.1 d.2.1 d.2.2.1,())⟩
def jvq:Ann:=fun r=>match r with
  |3=>some fun σ=>{X:=Nat,sl:=fun i=>[(8,.dat .int (i:Int)),(7,.dat .int (U.zZ (gb tDy σ 3) (gd (.slice .int) σ 2) i))],ob:=fun _=>[],inv:=fun i=>i≤(gd (.slice .int) σ 2).length∧(∀j:Nat,j<i→U.kd (U.jo (gb tDy σ 3)) (U.jaL (U.bk (gb tDy σ 3) (nth (gd (.slice .int) σ 2) j))) (gd .int σ 1)=true)∧∀j:Nat,j<i→∀m:Nat,m<j→U.jR (gb tDy σ 3) (nth (gd (.slice .int) σ 2) j) (nth (gd (.slice .int) σ 2) m)=true,mu:=fun i=>(gd (.slice .int) σ 2).length-i}
  |10=>some fun σ=>{X:=Nat,sl:=fun i=>[(10,.dat .int (i:Int))],ob:=fun _=>[],inv:=fun i=>i≤(gd .int σ 8).toNat∧∀m:Nat,m<i→U.jR (gb tDy σ 3) (nth (gd (.slice .int) σ 2) (gd .int σ 8).toNat) (nth (gd (.slice .int) σ 2) m)=true,mu:=fun i=>(gd .int σ 8).toNat-i}
  |_=>none
abbrev q119_1 (d:DyD×Int×List Int×Unit)(x:Nat):=(nth d.2.2.1 (x:Int).toNat)
abbrev q119_0 (d:DyD×Int×List Int×Unit)(x:Nat):=(nth d.1.2.2.1 (q119_1 d x).toNat)
def jlA:Prop:=∀(d:DyD×Int×List Int×Unit),U.jn5 d.1→U.jsh d.1 d.2.1→U.jkv d.1 d.2.2.1→(∃(x:Nat),(((0:Int)=(x:Int)∧(0:Int)=U.zZ d.1 d.2.2.1 x∧True)∧True)∧x≤d.2.2.1.length∧(∀(j:Nat),j<x→U.kd (U.jo d.1) (U.jaL (U.bk d.1 (nth d.2.2.1 j))) d.2.1=true)∧∀(j:Nat),j<x→∀(m:Nat),m<j→U.jR d.1 (nth d.2.2.1 j) (nth d.2.2.1 m)=true)∧∀(x:Nat),(x≤d.2.2.1.length∧(∀(j:Nat),j<x→U.kd (U.jo d.1) (U.jaL (U.bk d.1 (nth d.2.2.1 j))) d.2.1=true)∧∀(j:Nat),j<x→∀(m:Nat),m<j→U.jR d.1 (nth d.2.2.1 j) (nth d.2.2.1 m)=true)→d.2.2.1.length<4611686018427387904→(decide ((x:Int)<(d.2.2.1.length:Int))=true→(0:Int)≤(x:Int)∧(x:Int)<(d.2.2.1.length:Int)∧(0:Int)≤nth d.2.2.1 (x:Int).toNat∧nth d.2.2.1 (x:Int).toNat<(d.1.2.2.1.length:Int)∧((0:Int)≤d.2.1∧d.2.1<(↑(U.ji d.1.1).length:Int))∧U.jU d.1.1 (q119_0 d x).1=true∧((!U.kd d.1.1 (q119_0 d x).1 d.2.1)=true→(false,())=(U.wN d.1 d.2.1 d.2.2.1,()))∧((!U.kd d.1.1 (q119_0 d x).1 d.2.1)=false→jx ((q119_0 d x).2.2.2.1-(q119_0 d x).2.2.1)∧jx (U.zZ d.1 d.2.2.1 x+((q119_0 d x).2.2.2.1-(q119_0 d x).2.2.1))∧(∃(x_5:Nat),(((0:Int)=(x_5:Int)∧True)∧True)∧x_5≤(x:Int).toNat∧∀(m:Nat),m<x_5→U.jR d.1 (q119_1 d x) (nth d.2.2.1 m)=true)∧∀(x_5:Nat),(x_5≤(x:Int).toNat∧∀(m:Nat),m<x_5→U.jR d.1 (q119_1 d x) (nth d.2.2.1 m)=true)→(decide ((x_5:Int)<(x:Int))=true→(0:Int)≤(x:Int)∧(x:Int)<(d.2.2.1.length:Int)∧(0:Int)≤(x_5:Int)∧(x_5:Int)<(d.2.2.1.length:Int)∧U.jn5 d.1∧U.qo d.1 (q119_1 d x)∧U.qo d.1 (nth d.2.2.1 (x_5:Int).toNat)∧((!U.jR d.1 (q119_1 d x) (nth d.2.2.1 (x_5:Int).toNat))=true→(false,())=(U.wN d.1 d.2.1 d.2.2.1,()))∧((!U.jR d.1 (q119_1 d x) (nth d.2.2.1 (x_5:Int).toNat))=false→jx ((x_5:Int)+(1:Int))∧∃(x':Nat),(((x_5:Int)+(1:Int)=(x':Int)∧True)∧True)∧(x'≤(x:Int).toNat∧∀(m:Nat),m<x'→U.jR d.1 (q119_1 d x) (nth d.2.2.1 m)=true)∧(x:Int).toNat-x'<(x:Int).toNat-x_5))∧(decide ((x_5:Int)<(x:Int))=false→jx ((x:Int)+(1:Int))∧∃(x':Nat),(((x:Int)+(1:Int)=(x':Int)∧U.zZ d.1 d.2.2.1 x+((q119_0 d x).2.2.2.1-(q119_0 d x).2.2.1)=U.zZ d.1 d.2.2.1 x'∧True)∧True)∧(x'≤d.2.2.1.length∧(∀(j:Nat),j<x'→U.kd (U.jo d.1) (U.jaL (U.bk d.1 (nth d.2.2.1 j))) d.2.1=true)∧∀(j:Nat),j<x'→∀(m:Nat),m<j→U.jR d.1 (nth d.2.2.1 j) (nth d.2.2.1 m)=true)∧d.2.2.1.length-x'<d.2.2.1.length-x)))∧(decide ((x:Int)<(d.2.2.1.length:Int))=false→(decide (U.zZ d.1 d.2.2.1 x≤d.1.2.2.2.2.1),())=(U.wN d.1 d.2.1 d.2.2.1,()))
theorem jnM:zq (ctx 59 [(37,jbN),(147,jaB)] []) (jvq) Tryz.f107 (jd Tryz.f107) jfU=jlA:=by kernel_rfl
def jaA:jW:=⟨[.val (.slice tSh)],[.slice tSh],false,fun d=>[d.1.length≤1000],fun d=>(U.je d.1,())⟩
def jop:Ann:=fun r=>match r with
  |3=>some fun σ=>{X:=Nat,sl:=fun i=>[(4,.dat .int (i:Int)),(3,.own 3 tSh)],ob:=fun i=>[(3,some (.row 54 tSh false .yes (U.z6 (gd (.slice tSh) σ 0) i)))],inv:=fun i=>i≤100,mu:=fun i=>100-i}
  |6=>some fun σ=>{X:=Nat,sl:=fun i=>[(5,.dat .int (i:Int)),(3,.own 3 tSh)],ob:=fun i=>[(3,some (.row 54 tSh false .yes (gr tSh σ 3++U.gE (gd (.slice tSh) σ 0) i (gd .int σ 4).toNat)))],inv:=fun i=>i≤(gd (.slice tSh) σ 0).length,mu:=fun i=>(gd (.slice tSh) σ 0).length-i}
  |10=>some fun σ=>{X:=Nat,sl:=fun k=>[(7,.dat .int (k:Int)),(6,.dat .bool (U.wz (gd (.slice tSh) σ 0) (gd .int σ 5).toNat k (gd .int σ 4)))],ob:=fun _=>[],inv:=fun k=>k≤(gd .int σ 5).toNat,mu:=fun k=>(gd .int σ 5).toNat-k}
  |_=>none
def jfb:Prop:=∀(d:List ShD×Unit),d.1.length≤1000→(∃(x:Nat),(((0:Int)=(x:Int)∧True∧True)∧U.z6 d.1 x=[]∧True)∧x≤100)∧∀(x:Nat),x≤100→(decide ((x:Int)≤(99:Int))=true→(∃(x_3:Nat),(((0:Int)=(x_3:Int)∧True∧True)∧U.z6 d.1 x=U.z6 d.1 x++U.gE d.1 x_3 (x:Int).toNat∧True)∧x_3≤d.1.length)∧∀(x_3:Nat),x_3≤d.1.length→d.1.length<4611686018427387904→(decide ((x_3:Int)<(d.1.length:Int))=true→(0:Int)≤(x_3:Int)∧(x_3:Int)<(d.1.length:Int)∧(∃(x_7:Nat),(((0:Int)=(x_7:Int)∧decide ((nth d.1 (x_3:Int).toNat).1=(x:Int))=U.wz d.1 (x_3:Int).toNat x_7 (x:Int)∧True)∧True)∧x_7≤(x_3:Int).toNat)∧∀(x_7:Nat),x_7≤(x_3:Int).toNat→(decide ((x_7:Int)<(x_3:Int))=true→(U.wz d.1 (x_3:Int).toNat x_7 (x:Int)=true→(0:Int)≤(x_7:Int))∧(U.wz d.1 (x_3:Int).toNat x_7 (x:Int)=true→(x_7:Int)<(d.1.length:Int))∧(U.wz d.1 (x_3:Int).toNat x_7 (x:Int)=true→(0:Int)≤(x_3:Int))∧(U.wz d.1 (x_3:Int).toNat x_7 (x:Int)=true→(x_3:Int)<(d.1.length:Int))∧jx ((x_7:Int)+(1:Int))∧∃(x':Nat),(((x_7:Int)+(1:Int)=(x':Int)∧(U.wz d.1 (x_3:Int).toNat x_7 (x:Int)&& !decide (nth d.1 (x_7:Int).toNat=nth d.1 (x_3:Int).toNat))=U.wz d.1 (x_3:Int).toNat x' (x:Int)∧True)∧True)∧x'≤(x_3:Int).toNat∧(x_3:Int).toNat-x'<(x_3:Int).toNat-x_7)∧(decide ((x_7:Int)<(x_3:Int))=false→(U.wz d.1 (x_3:Int).toNat x_7 (x:Int)=true→(0:Int)≤(x_3:Int)∧(x_3:Int)<(d.1.length:Int)∧((U.z6 d.1 x++U.gE d.1 x_3 (x:Int).toNat).length+[nth d.1 (x_3:Int).toNat].length)*40≤140737488355328∧jx ((x_3:Int)+(1:Int))∧∃(x':Nat),(((x_3:Int)+(1:Int)=(x':Int)∧True∧True)∧U.z6 d.1 x++U.gE d.1 x_3 (x:Int).toNat++[nth d.1 (x_3:Int).toNat]=U.z6 d.1 x++U.gE d.1 x' (x:Int).toNat∧True)∧x'≤d.1.length∧d.1.length-x'<d.1.length-x_3)∧(U.wz d.1 (x_3:Int).toNat x_7 (x:Int)=false→jx ((x_3:Int)+(1:Int))∧∃(x':Nat),((True∧(x_3:Int)+(1:Int)=(x':Int)∧True)∧U.z6 d.1 x++U.gE d.1 x_3 (x:Int).toNat=U.z6 d.1 x++U.gE d.1 x' (x:Int).toNat∧True)∧x'≤d.1.length∧d.1.length-x'<d.1.length-x_3)))∧(decide ((x_3:Int)<(d.1.length:Int))=false→jx ((x:Int)+(1:Int))∧∃(x':Nat),(((x:Int)+(1:Int)=(x':Int)∧True∧True)∧U.z6 d.1 x++U.gE d.1 x_3 (x:Int).toNat=U.z6 d.1 x'∧True)∧x'≤100∧100-x'<100-x))∧(decide ((x:Int)≤(99:Int))=false→(U.z6 d.1 x,())=(U.je d.1,()))
theorem jio:zq (ctx 51 [] []) (jop) Tryz.f73 (jd Tryz.f73) jaA=jfb:=by kernel_rfl
end Go.X
namespace Go.X
open Go.Proofs
theorem juJ:jjw:=by
  rintro⟨n,a,b,⟨⟩⟩;rfl
theorem jdM:ze PR 103 vS:=zv (jlq.mpr juJ) Tryz.func103 (by kernel_rfl) (by kernel_rfl) (by kernel_rfl) (by kernel_rfl) trivial trivial
theorem joe:jdh:=by
  rintro⟨d,n,⟨⟩⟩ hf;have hf:(U.jv d).length<4611686018427387904:=hf;exact⟨by show jx (((U.jv d).length:Int)-1);exact L.in64 (by omega) (by omega),rfl⟩
theorem jml:ze PR 104 gi:=zv (jg6.mpr joe) Tryz.func104 (by kernel_rfl) (by kernel_rfl) (by kernel_rfl) (by kernel_rfl) ⟨fun _=>jdM,trivial⟩ trivial
theorem jqF:jfe:=by
  rintro⟨d,n,⟨⟩⟩ hf;have hf:(U.ji (U.jo d)).length<4611686018427387904:=hf;exact⟨by show jx (((U.ji (U.jo d)).length:Int)-1);exact L.in64 (by omega) (by omega),rfl⟩
theorem jn4:ze PR 60 jaC:=zv (jiq.mpr jqF) Tryz.func60 (by kernel_rfl) (by kernel_rfl) (by kernel_rfl) (by kernel_rfl) ⟨fun _=>jdM,trivial⟩ trivial
theorem jxq:jlt:=by
  rintro⟨a,b,⟨⟩⟩;show(decide (U.jnv b<U.jnv a)||decide (U.jnv a=U.jnv b)&&decide (U.wG b<U.wG a),())=(U.zx a b,());refine congrArg (fun z=>(z,())) ?_;unfold U.zx;rw[jHk];simp only[jHY,jGT,decide_eq_true_eq]
theorem jug:ze PR 146 jfR:=zv (jnF.mpr jxq) Tryz.func146 (by kernel_rfl) (by kernel_rfl) (by kernel_rfl) (by kernel_rfl) trivial trivial
theorem js7 (l:List ShD) (n:Nat):U.qT l (n+1)=(U.qT l n||U.jkX l n):=by
  unfold U.qT;rw[jHu,List.any_append];simp
theorem jqX {l:List ShD} {i:Nat} (h:∀j:Nat,j<i→U.jnd (nth l i) (nth l j)=false) (hi:i≤l.length):U.jkX l i=false:=by
  unfold U.jkX;rw[jHC];intro s hs;rw[jHx] at hs;obtain⟨j,hj,rfl⟩:=hs;have:=h j (by omega);rw[L.nth_lt (l:=l) (i:=j) (by omega)] at this;simpa using this
theorem jxV {l:List ShD} {i j:Nat} (hi:i<l.length) (hj:j<i) (h:U.jnd (nth l i) (nth l j)=true):U.yC l=true:=by
  unfold U.yC U.qT U.jkX;rw[jHz];refine⟨i,jG9.2 hi,?_⟩;rw[jHz];refine⟨nth l j,?_,h⟩;rw[jHx];exact⟨j,by omega,(L.nth_lt (by omega)).symm⟩
theorem jxr:jlu:=by
  unfold jlu q115_0;rintro⟨l,⟨⟩⟩ hl;have hl:l.length≤1000000:=hl;refine⟨⟨0,⟨⟨rfl,trivial⟩,trivial⟩,jG2 _,rfl⟩,fun x hx _=>⟨fun h=> ?_,fun h=> ?_⟩⟩
  · have h:(x:Int)<(l.length:Int):=of_decide_eq_true h;obtain⟨_,hx2⟩:x≤l.length∧U.qT l x=false:=hx;refine⟨⟨0,⟨⟨rfl,trivial⟩,trivial⟩,jG2 _,fun j hj=>by omega⟩,fun y hy=>⟨fun h2=> ?_,fun h2=> ?_⟩⟩
    · have h2:(y:Int)<(x:Int):=of_decide_eq_true h2;obtain⟨_,hy2⟩:y≤x∧∀j:Nat,j<y→U.jnd (nth l x) (nth l j)=false:=hy;have hyl:(y:Int)<(l.length:Int):=(by omega);refine⟨by omega,h,by omega,hyl,fun _=>by omega,fun _=>h,fun _=>by omega,fun _=>hyl,fun h3=> ?_,fun h3=>⟨L.in64 (by omega) (by omega),y+1,⟨⟨by simp,trivial⟩,trivial⟩,⟨by show y+1≤x;omega,fun j hj=> ?_⟩,by show x-(y+1)<x-y;omega⟩⟩
      · have h3:U.jnd (nth l x) (nth l y)=true:=h3;have:=jxV (by omega) (by omega) h3;show(true,())=(U.yC l,());rw[this]
      · by_cases e:j=y
        · subst e;exact h3
        · exact hy2 j (by omega)
    · have h2:¬(y:Int)<(x:Int):=of_decide_eq_false h2;obtain⟨hy1,hy2⟩:y≤x∧∀j:Nat,j<y→U.jnd (nth l x) (nth l j)=false:=hy;have hyx:y=x:=(by omega);subst hyx;refine⟨L.in64 (by omega) (by omega),y+1,⟨⟨by simp,trivial⟩,trivial⟩,⟨by show y+1≤l.length;omega,?_⟩,by show l.length-(y+1)<l.length-y;omega⟩;show U.qT l (y+1)=false;rw[js7,hx2,jqX hy2 (by omega)];rfl
  · have h:¬(x:Int)<(l.length:Int):=of_decide_eq_false h;obtain⟨hx1,hx2⟩:x≤l.length∧U.qT l x=false:=hx;have hxl:x=l.length:=(by omega);subst hxl;show(false,())=(U.yC l,());unfold U.yC;rw[hx2]
theorem juh:ze PR 52 jfS:=zv (jnG.mpr jxr) Tryz.func52 (by kernel_rfl) (by kernel_rfl) (by kernel_rfl) (by kernel_rfl) trivial trivial
theorem jxv:jlz:=by
  rintro⟨d,⟨⟩⟩ hb;have hb:(U.jv d).length≤1000000:=hb;refine⟨fun h=> ?_,fun h=> ?_⟩
  · have h:U.jq (U.jo d)=false:=(by simpa using(show(!U.jq (U.jo d))=true from h));show((30:Int),())=(U.kM d,());unfold U.kM;rw[h];rfl
  have hc:U.jq (U.jo d)=true:=(by simpa using(show(!U.jq (U.jo d))=false from h));refine⟨⟨0,⟨⟨rfl,trivial⟩,trivial⟩,jG2 _,fun j hj=>by omega⟩,fun x hx _=>⟨fun h=> ?_,fun h=> ?_⟩⟩
  · have h:(x:Int)<((U.jv d).length:Int):=of_decide_eq_true h;refine⟨by omega,h,hc,fun h2=> ?_,fun h2=>⟨L.in64 (by omega) (by omega),x+1,⟨⟨by simp,trivial⟩,trivial⟩,⟨by show x+1≤(U.jv d).length;omega,fun j hj=> ?_⟩,by show(U.jv d).length-(x+1)<(U.jv d).length-x;omega⟩⟩
    · have h2:U.jU (U.jo d) (U.jaL (nth (U.jv d) x))=false:=(by simpa using(show(!U.jU (U.jo d) (U.jaL (nth (U.jv d) x)))=true from h2));have hj:U.jxi d=false:=by
        unfold U.jxi;exact jH0.2 ⟨_,L.mem_nth (l:=U.jv d) (i:=x) (by omega),by rw[h2];simp⟩
      show((31:Int),())=(U.kM d,());unfold U.kM;rw[hc,hj];rfl
    · have h2:U.jU (U.jo d) (U.jaL (nth (U.jv d) x))=true:=(by simpa using(show(!U.jU (U.jo d) (U.jaL (nth (U.jv d) x)))=false from h2));by_cases e:j=x
      · subst e;exact h2
      · exact hx.2 j (by omega)
  · have h:¬(x:Int)<((U.jv d).length:Int):=of_decide_eq_false h;have hj:U.jxi d=true:=jci (p:=fun b=>U.jU (U.jo d) (U.jaL b)) (by omega) hx.2;refine⟨fun h2=> ?_,fun h2=> ?_⟩
    · have h2:U.kg d=false:=(by simpa using(show(!U.kg d)=true from h2));show((50:Int),())=(U.kM d,());unfold U.kM;rw[hc,hj,h2];rfl
    · have h2:U.kg d=true:=(by simpa using(show(!U.kg d)=false from h2));have h30:(U.jT d).length≤30:=(zm h2).2.2.2.2.1;refine⟨by show(U.jT d).length≤1000000;omega,fun h3=> ?_,fun h3=> ?_⟩
      · have h3:U.yC (U.jT d)=true:=h3;show((51:Int),())=(U.kM d,());unfold U.kM;rw[hc,hj,h2,h3];rfl
      · have h3:U.yC (U.jT d)=false:=h3;show((0:Int),())=(U.kM d,());unfold U.kM;rw[hc,hj,h2,h3];rfl
theorem jzs (t:List Int) (p:Int) (n:Nat):U.jeY t p (n+1)=U.jeY t p n++(if U.kf (nth t n) p=true then[(n:Int)] else[]):=by
  unfold U.jeY;rw[L.range_filter_succ,jHF];by_cases h:U.kf (nth t n) p=true
  · rw[if_pos h,if_pos h];rfl
  · rw[if_neg h,if_neg h];rfl
theorem jvZ (t:List Int) (p:Int) (n:Nat):(U.jeY t p n).length≤n:=by
  unfold U.jeY;rw[jHO];exact jG5 (jHM _ _) (by simp)
end Go.X
namespace Go.X
open Go.Proofs
theorem jA1 (l:List ShD) (n m:Nat):U.gE l (n+1) m=U.gE l n m++(if(decide (U.wG (nth l n)=(m:Int))&&U.jd6 l n)=true then[nth l n] else[]):=by
  unfold U.gE;rw[L.range_filter_succ,jHF];by_cases h:(decide (U.wG (nth l n)=(m:Int))&&U.jd6 l n)=true
  · rw[if_pos h,if_pos h];rfl
  · rw[if_neg h,if_neg h];rfl
theorem jwt (l:List ShD) (n m:Nat):(U.gE l n m).length≤n:=by
  unfold U.gE;rw[jHO];exact jG5 (jHM _ _) (by simp)
theorem jm8 (l:List ShD) (n:Nat):U.z6 l (n+1)=U.z6 l n++U.gE l l.length n:=by
  unfold U.z6;rw[jHu,List.flatMap_append];simp
theorem jeH (l:List ShD):∀n,(U.z6 l n).length≤l.length*n
  |0=>jG2 _
  |n+1=>by
    have ih:=jeH l n
    have:=jwt l l.length n
    rw[jm8,jHa,Nat.mul_succ]
    omega
theorem jsK {l:List ShD} {i k:Nat} {id:Int} (h:k<l.length):U.wz l i (k+1) id=(U.wz l i k id&& !decide (nth l k=nth l i)):=by
  unfold U.wz;rw[L.take_succ h,List.any_append];simp only[List.any_cons,List.any_nil,Bool.or_false,Bool.not_or,Bool.and_assoc]
theorem jqD:jfb:=by
  rintro⟨l,⟨⟩⟩ hl;have hl:l.length≤1000:=hl;refine⟨⟨0,⟨⟨rfl,trivial,trivial⟩,rfl,trivial⟩,jG2 _⟩,fun x hx=>⟨fun h=>⟨⟨0,⟨⟨rfl,trivial,trivial⟩,?_,trivial⟩,jG2 _⟩,fun y hy _=>⟨fun h2=> ?_,fun h2=> ?_⟩⟩,fun h=> ?_⟩⟩
  · exact(jHf _).symm
  · have h:(x:Int)≤99:=of_decide_eq_true h;have h2:(y:Int)<(l.length:Int):=of_decide_eq_true h2;have hy:y≤l.length:=hy;refine⟨by omega,h2,⟨0,⟨⟨rfl,?_,trivial⟩,trivial⟩,jG2 _⟩,fun z hz=>⟨fun h3=> ?_,fun h3=> ?_⟩⟩
    · show decide (U.wG (nth l y)=(x:Int))=U.wz l y 0 (x:Int);unfold U.wz;simp
    · have h3:(z:Int)<(y:Int):=of_decide_eq_true h3;have hzl:(z:Int)<(l.length:Int):=(by omega);have hs:=jsK (l:=l) (i:=y) (k:=z) (id:=(x:Int)) (by omega);exact⟨fun _=>by omega,fun _=>hzl,fun _=>by omega,fun _=>h2,L.in64 (by omega) (by omega),z+1,⟨⟨by simp,hs.symm,trivial⟩,trivial⟩,by show z+1≤y;omega,by show y-(z+1)<y-z;omega⟩
    · have h3:¬(z:Int)<(y:Int):=of_decide_eq_false h3;have hz:z≤y:=hz;have hzy:z=y:=(by omega);subst hzy;have hs:=jA1 l z x;have hA:=jwt l z x;have hD:=jeH l x;have hD2:l.length*x≤1000*99:=Nat.mul_le_mul hl (by omega);have up:z+1≤l.length:=(by omega);have dn:l.length-(z+1)<l.length-z:=(by omega);refine⟨fun h4=>⟨by omega,h2,?_,L.in64 (by omega) (by omega),z+1,⟨⟨by simp,trivial,trivial⟩,?_,trivial⟩,up,dn⟩,fun h4=>⟨L.in64 (by omega) (by omega),z+1,⟨⟨trivial,by simp,trivial⟩,?_,trivial⟩,up,dn⟩⟩
      · show((U.z6 l x++U.gE l z x).length+1)*40≤140737488355328;rw[jHa];omega
      · have h4:(decide (U.wG (nth l z)=(x:Int))&&U.jd6 l z)=true:=h4;show U.z6 l x++U.gE l z x++[nth l z]=U.z6 l x++U.gE l (z+1) x;rw[hs,if_pos h4,jHc]
      · have h4:(decide (U.wG (nth l z)=(x:Int))&&U.jd6 l z)=false:=h4;show U.z6 l x++U.gE l z x=U.z6 l x++U.gE l (z+1) x;rw[hs,if_neg (by rw[h4];simp),jHf]
  · have h:(x:Int)≤99:=of_decide_eq_true h;have h2:¬(y:Int)<(l.length:Int):=of_decide_eq_false h2;have hy:y≤l.length:=hy;have hyl:y=l.length:=(by omega);subst hyl;exact⟨L.in64 (by omega) (by omega),x+1,⟨⟨by simp,trivial,trivial⟩,(jm8 l x).symm,trivial⟩,by omega,by omega⟩
  · have h:¬(x:Int)≤99:=of_decide_eq_false h;have hxl:x=100:=(by omega);subst hxl;rfl
theorem jn2:ze PR 73 jaA:=zv (jio.mpr jqD) Tryz.func73 (by kernel_rfl) (by kernel_rfl) (by kernel_rfl) (by kernel_rfl) trivial trivial
theorem jnh {d:DyD} {p:Int} {l:List Int}:U.wN d p l=true↔(∀j:Nat,j<l.length→U.kd (U.jo d) (U.jaL (U.bk d (nth l j))) p=true)∧(∀j:Nat,j<l.length→∀m:Nat,m<j→U.jR d (nth l j) (nth l m)=true)∧U.jqp d l≤U.jB2 d:=by
  unfold U.wN U.jC4;rw[jGT,jGT,jHo,jHo,decide_eq_true_eq];refine and_congr ?_ (and_congr ?_ Iff.rfl)
  · constructor
    · intro h j hj;exact h _ (L.mem_nth hj)
    · intro h b hb;obtain⟨i,hi,rfl⟩:=L.mem_iff.1 hb;exact h i hi
  · constructor
    · intro h j hj m hm;have:=h j (jG9.2 hj);rw[jHo] at this;exact this _ (by rw[jHx];exact⟨m,by omega,(L.nth_lt (by omega)).symm⟩)
    · intro h j hj;have hj:=jG9.1 hj;rw[jHo];intro b hb;rw[jHx] at hb;obtain⟨m,hm,rfl⟩:=hb;have:=h j hj m (by omega);rw[L.nth_lt (l:=l) (i:=m) (by omega)] at this;exact this
theorem jni {d:DyD} {p:Int} {l:List Int} (h:¬U.wN d p l=true):(false,())=(U.wN d p l,()):=by
  cases hc:U.wN d p l with
  |false=>rfl
  |true=>exact absurd hc h
theorem jxw:jlA:=by
  unfold jlA q119_0 q119_1;rintro⟨d,p,l,⟨⟩⟩ hd hp hl;have hd:U.jn5 d:=hd;have hp:U.jsh d p:=hp;obtain⟨l1,l2⟩:U.jkv d l:=hl;refine⟨⟨0,⟨⟨rfl,rfl,trivial⟩,trivial⟩,jG2 _,fun j hj=>by omega,fun j hj=>by omega⟩,fun x hx _=>⟨fun h=> ?_,fun h=> ?_⟩⟩
  · have h:(x:Int)<(l.length:Int):=of_decide_eq_true h;have hxl:x<l.length:=(by omega);have hb:=l2 _ (L.mem_nth hxl);have hbf:=yI hd.2.2 hb;have hms:=juq hd.2.2 l2 x (by omega);have hs:=jgk (d:=d) hxl;have hjob:U.jU (U.jo d) (U.jaL (U.bk d (nth l x)))=true:=by
      have:=hd.2.1;unfold U.jxi at this;exact jHo.1 this _ (jFT hb)
    have i1:jx (U.jtd (U.bk d (nth l x))-U.jcf (U.bk d (nth l x))):=L.in64 (by omega) (by omega);have i2:jx (U.zZ d l x+(U.jtd (U.bk d (nth l x))-U.jcf (U.bk d (nth l x)))):=L.in64 (by omega) (by omega);refine⟨by omega,h,hb.1,hb.2,hp,hjob,fun h2=> ?_,fun h2=>⟨i1,i2,⟨0,⟨⟨rfl,trivial⟩,trivial⟩,jG2 _,fun m hm=>by omega⟩,fun y hy=>⟨fun h3=> ?_,fun h3=> ?_⟩⟩⟩
    · have h2:U.kd (U.jo d) (U.jaL (U.bk d (nth l x))) p=false:=(by simpa using(show(!U.kd (U.jo d) (U.jaL (U.bk d (nth l x))) p)=true from h2));exact jni (d:=d) (p:=p) (l:=l) (fun hc=>by
        have:=(jnh.1 hc).1 x hxl;rw[h2] at this;cases this)
    · have h3:(y:Int)<(x:Int):=of_decide_eq_true h3;have hyl:(y:Int)<(l.length:Int):=(by omega);refine⟨by omega,h,by omega,hyl,hd,hb,l2 _ (L.mem_nth (l:=l) (i:=y) (by omega)),fun h4=> ?_,fun h4=>⟨L.in64 (by omega) (by omega),y+1,⟨⟨by simp,trivial⟩,trivial⟩,⟨by show y+1≤x;omega,fun m hm=> ?_⟩,by show x-(y+1)<x-y;omega⟩⟩
      · have h4:U.jR d (nth l x) (nth l y)=false:=(by simpa using(show(!U.jR d (nth l x) (nth l y))=true from h4));exact jni (d:=d) (p:=p) (l:=l) (fun hc=>by
          have:=(jnh.1 hc).2.1 x hxl y (by omega);rw[h4] at this;cases this)
      · have h4:U.jR d (nth l x) (nth l y)=true:=(by simpa using(show(!U.jR d (nth l x) (nth l y))=false from h4));by_cases e:m=y
        · subst e;exact h4
        · exact hy.2 m (by omega)
    · have h3:¬(y:Int)<(x:Int):=of_decide_eq_false h3;have hy1:y≤x:=hy.1;have hyx:y=x:=(by omega);subst hyx;have h2:U.kd (U.jo d) (U.jaL (U.bk d (nth l y))) p=true:=(by simpa using(show(!U.kd (U.jo d) (U.jaL (U.bk d (nth l y))) p)=false from h2));refine⟨L.in64 (by omega) (by omega),y+1,⟨⟨by simp,hs.symm,trivial⟩,trivial⟩,⟨by show y+1≤l.length;omega,fun j hj=> ?_,fun j hj m hm=> ?_⟩,by show l.length-(y+1)<l.length-y;omega⟩
      · by_cases e:j=y
        · subst e;exact h2
        · exact hx.2.1 j (by omega)
      · by_cases e:j=y
        · subst e;exact hy.2 m hm
        · exact hx.2.2 j (by omega) m hm
  · have h:¬(x:Int)<(l.length:Int):=of_decide_eq_false h;have hx1:x≤l.length:=hx.1;have hxl:x=l.length:=(by omega);subst hxl;have hm:U.zZ d l l.length=U.jqp d l:=by
      unfold U.zZ;rw[jHH (jGU _)]
    show(decide (U.zZ d l l.length≤U.jB2 d),())=(U.wN d p l,());rw[hm];refine congrArg (fun z=>(z,())) ?_;rw[jHk,decide_eq_true_eq,jnh];exact⟨fun h=>⟨hx.2.1,hx.2.2,h⟩,fun h=>h.2.2⟩
end Go.X
namespace Go.X
open Go.Proofs
theorem jFe {d:DyD} {a b:Int} (h:U.qC d b a=true):U.jR d a b=decide (U.jtd (U.bk d b)+U.jki d+U.juT d b a≤U.jcf (U.bk d a)):=by
  unfold U.jR;rw[if_pos h];refine decide_eq_decide.2 ?_;unfold U.vR;omega
theorem jDD {d:DyD} {a b:Int} (h:U.qC d b a=false):U.jR d a b=decide (U.jtd (U.bk d a)+U.jki d+U.juT d a b≤U.jcf (U.bk d b)):=by
  unfold U.jR;rw[h,if_neg (by simp)];refine decide_eq_decide.2 ?_;unfold U.vR;omega
theorem jwx (d:DyD) (a b:Int):U.qC d b a=(decide (U.jcf (U.bk d b)<U.jcf (U.bk d a))||decide (U.jcf (U.bk d b)=U.jcf (U.bk d a))&&decide (b<a)):=by
  unfold U.qC;rw[jHk];simp only[jHY,jGT,decide_eq_true_eq]
theorem jqE:jfc:=by
  unfold jfc q118_4 q118_3 q118_2 q118_1 q118_0;rintro⟨d,a,b,⟨⟩⟩ hd ha hb;have hd:U.jn5 d:=hd;have ha:U.qo d a:=ha;have hb:U.qo d b:=hb;have fa:=yI hd.2.2 ha;have fb:=yI hd.2.2 hb;have h1:=jm1 hd.2.2 ha hb;have h2:=jm1 hd.2.2 hb ha;have hre:=(zm hd.2.2).2.2.1;have ra:=(jho hd.2.2 (i:=(U.jx1 (U.bk d a)).toNat) (by omega)).1;have rb:=(jho hd.2.2 (i:=(U.jx1 (U.bk d b)).toNat) (by omega)).1;have a1:=ha.1;have a2:=ha.2;have b1:=hb.1;have b2:=hb.2;refine⟨b1,b2,a1,a2,fun _=>b1,fun _=>b2,fun _=>a1,fun _=>a2,fun h=>⟨b1,b2,a1,a2,?_,fb.1.1,fb.1.2,fa.1.1,?_,?_,?_⟩,fun h=>⟨a1,a2,b1,b2,?_,fa.1.1,fa.1.2,fb.1.1,?_,?_,?_⟩⟩
  · show jx (U.jtd (U.bk d b)+U.jki d);exact L.in64 (by omega) (by omega)
  · show U.jx1 (U.bk d a)<((nth (U.jO d) (U.jx1 (U.bk d b)).toNat).length:Int);omega
  · show jx (U.jtd (U.bk d b)+U.jki d+U.juT d b a);exact L.in64 (by omega) (by omega)
  · have h:U.qC d b a=true:=(by rw[jwx];exact h);exact congrArg (fun z=>(z,())) (jFe h).symm
  · show jx (U.jtd (U.bk d a)+U.jki d);exact L.in64 (by omega) (by omega)
  · show U.jx1 (U.bk d b)<((nth (U.jO d) (U.jx1 (U.bk d a)).toNat).length:Int);omega
  · show jx (U.jtd (U.bk d a)+U.jki d+U.juT d a b);exact L.in64 (by omega) (by omega)
  · have h:U.qC d b a=false:=(by rw[jwx];exact h);exact congrArg (fun z=>(z,())) (jDD h).symm
theorem jn3:ze PR 147 jaB:=zv (jip.mpr jqE) Tryz.func147 (by kernel_rfl) (by kernel_rfl) (by kernel_rfl) (by kernel_rfl) trivial trivial
theorem juk:ze PR 107 jfU:=zv (jnM.mpr jxw) Tryz.func107 (by kernel_rfl) (by kernel_rfl) (by kernel_rfl) (by kernel_rfl) ⟨fun _=>jqg,fun _=>jn3,trivial⟩ trivial
end Go.X
namespace Go.X
open Go.Proofs
def jF9 (d:DyD):Bool:=decide (4<((U.jv d).length:Int))|| !U.jc ((U.jO d).length:Int) 1 5|| !U.jc (U.jki d) 0 300|| !U.jc (U.jB2 d) 0 1440||decide (30<((U.jT d).length:Int))
def spH (s:SpD):Bool:=decide (U.lo s<0)||decide (U.hi s<U.lo s)||decide (300<U.hi s)
def bkH (n:Nat) (b:BkD):Bool:= !U.jc (U.jx1 b) 0 ((n:Int)-1)||decide (U.jcf b<0)||decide (U.jtd b≤U.jcf b)||decide (1440<U.jtd b)
def shH (d:DyD) (s:ShD):Bool:= !U.jc (U.wG s) 0 99|| !U.jc (U.jnv s) 0 9999|| !U.jc (U.jyN s) 1 2|| !U.jFB d (U.jcZ s)|| !U.jDa d (U.qD s)
theorem jAM (d:DyD):U.kg d=(!jF9 d&&((U.jO d).all (U.gx (U.jO d).length)&&((U.jv d).all (U.je2 (U.jO d).length)&&(U.jT d).all (U.jdN (U.jv d).length (U.ji (U.jo d)).length)))):=by
  unfold U.kg jF9;congr 1;rw[jHk];simp only[U.jc,jHt,jHl,decide_eq_false_iff_not,jHN,jGT,decide_eq_true_eq];omega
theorem jCY (s:SpD):U.jhE s= !spH s:=by
  unfold U.jhE spH;rw[jHk];simp only[jHt,jHl,decide_eq_false_iff_not,decide_eq_true_eq];omega
theorem jDm (n:Nat) (b:BkD):U.je2 n b= !bkH n b:=by
  unfold U.je2 bkH;rw[jHk];simp only[U.jc,jHt,jHl,decide_eq_false_iff_not,jHN,jGT,decide_eq_true_eq];omega
theorem jC0 (d:DyD) (s:ShD):U.jdN (U.jv d).length (U.ji (U.jo d)).length s= !shH d s:=by
  unfold U.jdN shH U.jFB U.jDa;rw[jHk];simp only[U.jc,jHt,jHl,decide_eq_false_iff_not,jHN,jGT,decide_eq_true_eq];omega
theorem js0 {d:DyD} (h:jF9 d=true∨(U.jO d).all (U.gx (U.jO d).length)=false∨(U.jv d).all (U.je2 (U.jO d).length)=false∨(U.jT d).all (U.jdN (U.jv d).length (U.ji (U.jo d)).length)=false):(false,())=(U.kg d,()):=by
  have:U.kg d=false:=by
    rw[jAM];rcases h with h|h|h|h<;>rw[h]<;>simp
  rw[this]
theorem jti {α:Type} [Inhabited α] {l:List α} {p:α→Bool} {x:Nat} (hx:x<l.length) (h:p (nth l x)=false):l.all p=false:=jH0.2 ⟨_,L.mem_nth hx,by rw[h];simp⟩
theorem jxu:jly:=by
  unfold jly q114_3 q114_13 q114_12 q114_1 q114_11 q114_10 q114_9 q114_8 q114_0 q114_7 q114_6 q114_5 q114_2 q114_4;rintro⟨d,⟨⟩⟩ _ _ _;refine⟨fun h=>js0 (d:=d) (.inl h),fun hh=> ?_⟩;have hh:jF9 d=false:=hh;have hH:=hh;unfold jF9 at hH;simp only[U.jc,jHl,decide_eq_false_iff_not,jHN,jGT,decide_eq_true_eq] at hH;refine⟨⟨0,⟨⟨rfl,trivial⟩,trivial⟩,jG2 _,fun j hj=>by omega⟩,fun x hx _=>⟨fun h=> ?_,fun h=> ?_⟩⟩
  · have h:(x:Int)<((U.jO d).length:Int):=of_decide_eq_true h;have hxl:x<(U.jO d).length:=(by omega);refine⟨by omega,h,fun h2=> ?_,fun h2=>⟨⟨0,⟨⟨rfl,trivial⟩,trivial⟩,jG2 _,fun j hj=>by omega⟩,fun y hy=>⟨by omega,h,fun hf=>⟨fun h3=> ?_,fun h3=> ?_⟩⟩⟩⟩
    · have h2:¬((nth (U.jO d) x).length:Int)=((U.jO d).length:Int):=of_decide_eq_true h2;refine js0 (d:=d) (.inr (.inl (jti hxl ?_)));unfold U.gx;rw[decide_eq_false (by omega)];rfl
    · have hf:(nth (U.jO d) x).length<4611686018427387904:=hf;have h3:(y:Int)<((nth (U.jO d) x).length:Int):=of_decide_eq_true h3;refine⟨by omega,h,by omega,h3,fun h4=> ?_,fun h4=>⟨L.in64 (by omega) (by omega),y+1,⟨⟨by simp,trivial⟩,trivial⟩,⟨by show y+1≤(nth (U.jO d) x).length;omega,fun j hj=> ?_⟩,by show(nth (U.jO d) x).length-(y+1)<(nth (U.jO d) x).length-y;omega⟩⟩
      · have h4:spH (nth (nth (U.jO d) x) y)=true:=h4;refine js0 (d:=d) (.inr (.inl (jti hxl ?_)));have:(nth (U.jO d) x).all U.jhE=false:=jti (x:=y) (by omega) (by rw[jCY,h4];rfl);unfold U.gx;rw[this,Bool.and_false]
      · have h4:spH (nth (nth (U.jO d) x) y)=false:=h4;by_cases e:j=y
        · subst e;show U.jhE (nth (nth (U.jO d) x) j)=true;rw[jCY,h4];rfl
        · exact hy.2 j (by omega)
    · have h3:¬(y:Int)<((nth (U.jO d) x).length:Int):=of_decide_eq_false h3;have h2:((nth (U.jO d) x).length:Int)=((U.jO d).length:Int):=Classical.not_not.1 (of_decide_eq_false h2);have hA:(nth (U.jO d) x).all U.jhE=true:=jci (by omega) hy.2;refine⟨L.in64 (by omega) (by omega),x+1,⟨⟨by simp,trivial⟩,trivial⟩,⟨by show x+1≤(U.jO d).length;omega,fun j hj=> ?_⟩,by show(U.jO d).length-(x+1)<(U.jO d).length-x;omega⟩;by_cases e:j=x
      · subst e;show U.gx (U.jO d).length (nth (U.jO d) j)=true;unfold U.gx;rw[hA,decide_eq_true (by omega)];rfl
      · exact hx.2 j (by omega)
  have h:¬(x:Int)<((U.jO d).length:Int):=of_decide_eq_false h;have hT:(U.jO d).all (U.gx (U.jO d).length)=true:=jci (by omega) hx.2;clear hx h;refine⟨⟨0,⟨⟨rfl,trivial⟩,trivial⟩,jG2 _,fun j hj=>by omega⟩,fun x hx _=>⟨fun h=> ?_,fun h=> ?_⟩⟩
  · have h:(x:Int)<((U.jv d).length:Int):=of_decide_eq_true h;have hxl:x<(U.jv d).length:=(by omega);refine⟨by omega,h,fun _=>⟨by show jx (((U.jO d).length:Int)-1);exact L.in64 (by omega) (by omega),fun h2=> ?_,fun h2=>⟨L.in64 (by omega) (by omega),x+1,⟨⟨by simp,trivial⟩,trivial⟩,⟨by show x+1≤(U.jv d).length;omega,fun j hj=> ?_⟩,by show(U.jv d).length-(x+1)<(U.jv d).length-x;omega⟩⟩⟩
    · have h2:bkH (U.jO d).length (nth (U.jv d) x)=true:=h2;exact js0 (d:=d) (.inr (.inr (.inl (jti hxl (by rw[jDm,h2];rfl)))))
    · have h2:bkH (U.jO d).length (nth (U.jv d) x)=false:=h2;by_cases e:j=x
      · subst e;show U.je2 (U.jO d).length (nth (U.jv d) j)=true;rw[jDm,h2];rfl
      · exact hx.2 j (by omega)
  have h:¬(x:Int)<((U.jv d).length:Int):=of_decide_eq_false h;have hB:(U.jv d).all (U.je2 (U.jO d).length)=true:=jci (by omega) hx.2;clear hx h;refine⟨⟨0,⟨⟨rfl,trivial⟩,trivial⟩,jG2 _,fun j hj=>by omega⟩,fun x hx _=>⟨fun h=> ?_,fun h=> ?_⟩⟩
  · have h:(x:Int)<((U.jT d).length:Int):=of_decide_eq_true h;have hxl:x<(U.jT d).length:=(by omega);refine⟨by omega,h,fun h2=> ?_,fun h2=>⟨L.in64 (by omega) (by omega),x+1,⟨⟨by simp,trivial⟩,trivial⟩,⟨by show x+1≤(U.jT d).length;omega,fun j hj=> ?_⟩,by show(U.jT d).length-(x+1)<(U.jT d).length-x;omega⟩⟩
    · have h2:shH d (nth (U.jT d) x)=true:=h2;exact js0 (d:=d) (.inr (.inr (.inr (jti hxl (by rw[jC0,h2];rfl)))))
    · have h2:shH d (nth (U.jT d) x)=false:=h2;by_cases e:j=x
      · subst e;show U.jdN (U.jv d).length (U.ji (U.jo d)).length (nth (U.jT d) j)=true;rw[jC0,h2];rfl
      · exact hx.2 j (by omega)
  · have h:¬(x:Int)<((U.jT d).length:Int):=of_decide_eq_false h;have hS:(U.jT d).all (U.jdN (U.jv d).length (U.ji (U.jo d)).length)=true:=jci (by omega) hx.2;show(true,())=(U.kg d,());rw[jAM,hh,hT,hB,hS];rfl
theorem juj:ze PR 51 jfT:=zv (jnK.mpr jxu) Tryz.func51 (by kernel_rfl) (by kernel_rfl) (by kernel_rfl) (by kernel_rfl) ⟨fun _=>jdM,fun _=>jml,fun _=>jn4,trivial⟩ trivial
theorem jb1:ze PR 17 vu:=zv (jnL.mpr jxv) Tryz.func17 (by kernel_rfl) (by kernel_rfl) (by kernel_rfl) (by kernel_rfl) ⟨fun _=>jjO,fun _=>jum,fun _=>juj,fun _=>juh,trivial⟩ trivial
end Go.X
namespace Go.X
open Go.Proofs
namespace U
def kw (l:List ShD) (i n:Nat):Bool:=decide (jyN (nth l i)=1)&& !((l.take n).any (fun t=>decide (jcZ t=jcZ (nth l i))&&decide (qD t=qD (nth l i))&&zx t (nth l i)))
def jp (l:List ShD) (n:Nat):List ShD:=((List.range n).filter (fun i=>kw l i l.length)).map (nth l)
def jD (l:List ShD) (n:Nat):Nat:=(List.range n).foldl (fun f i=>if zx (nth l f) (nth l i)=true then i else f) 0
def jh (l:List ShD):Nat→List ShD×List ShD
  |0=>([],l)
  |n+1=>((jh l n).1++[nth (jh l n).2 (jD (jh l n).2 (jh l n).2.length)],(jh l n).2.take (jD (jh l n).2 (jh l n).2.length)++(jh l n).2.drop (jD (jh l n).2 (jh l n).2.length+1))
def yR (d:DyD):List ShD:=jp (je (jT d)) (je (jT d)).length
def zr (d:DyD):List ShD:=(jh (yR d) (yR d).length).1
def jA (d:DyD) (n:Nat):List Int×List Int:=((zr d).take n).foldl (vl d) (List.replicate (jv d).length 0,[])
def kW (d:DyD):List Int×List Int:=jA d (zr d).length
def vb (d:DyD):List Int:=if kM d=0 then(kW d).1 else[]
end U
def jdv:jW:=⟨[.val tDy],[.slice tSh],false,fun d=>[(U.jT d.1).length≤1000],fun d=>(U.zr d.1,())⟩
def jte:Ann:=fun r=>match r with
  |4=>some fun σ=>{X:=Nat,sl:=fun i=>[(5,.dat .int (i:Int)),(3,.own 3 tSh)],ob:=fun i=>[(3,some (.row 54 tSh false .yes (U.jp (gd (.slice tSh) σ 4) i)))],inv:=fun i=>i≤(gd (.slice tSh) σ 4).length,mu:=fun i=>(gd (.slice tSh) σ 4).length-i}
  |8=>some fun σ=>{X:=Nat,sl:=fun k=>[(7,.dat .int (k:Int)),(6,.dat .bool (U.kw (gd (.slice tSh) σ 4) (gd .int σ 5).toNat k))],ob:=fun _=>[],inv:=fun k=>k≤(gd (.slice tSh) σ 4).length,mu:=fun k=>(gd (.slice tSh) σ 4).length-k}
  |15=>some fun σ=>{X:=Nat,sl:=fun _=>[(3,.own 3 tSh),(8,.own 8 tSh)],ob:=fun n=>[(3,some (.row 54 tSh false .unk (U.jh (gr tSh σ 3) n).2)),(8,some (.row 54 tSh false .yes (U.jh (gr tSh σ 3) n).1))],inv:=fun n=>n≤(gr tSh σ 3).length,mu:=fun n=>(gr tSh σ 3).length-n}
  |18=>some fun σ=>{X:=Nat,sl:=fun i=>[(10,.dat .int (i:Int)),(9,.dat .int (U.jD (gr tSh σ 3) i:Int))],ob:=fun _=>[],inv:=fun i=>i≤(gr tSh σ 3).length,mu:=fun i=>(gr tSh σ 3).length-i}
  |_=>none
abbrev q121_0 (d:DyD×Unit):=(U.je d.1.2.2.2.2.2.1)
abbrev q121_2 (d:DyD×Unit)(x_4:Nat)(x:Nat):=((nth (q121_0 d) (x_4:Int).toNat).2.2.2.1=(nth (q121_0 d) (x:Int).toNat).2.2.2.1)
abbrev q121_4 (d:DyD×Unit)(x_4:Nat)(x:Nat):=((nth (q121_0 d) (x_4:Int).toNat).2.2.2.2.1=(nth (q121_0 d) (x:Int).toNat).2.2.2.2.1)
abbrev q121_6 (d:DyD×Unit):=(↑(q121_0 d).length:Int)
abbrev q121_7 (d:DyD×Unit)(x_4:Nat)(x:Nat):=(decide (q121_2 d x_4 x)&&decide (q121_4 d x_4 x)&&U.zx (nth (q121_0 d) (x_4:Int).toNat) (nth (q121_0 d) (x:Int).toNat))
abbrev q121_8 (d:DyD×Unit)(x_4:Nat)(x:Nat):=(decide (q121_2 d x_4 x)&&decide (q121_4 d x_4 x))
abbrev q121_9 (d:DyD×Unit)(x:Nat):=(U.jp (q121_0 d) x)
abbrev q121_1 (d:DyD×Unit)(x:Nat)(x_4:Nat):=(U.jh (q121_9 d x) x_4)
abbrev q121_3 (d:DyD×Unit)(x:Nat)(x_4:Nat)(x_8:Nat):=(↑(U.jD (q121_1 d x x_4).2 x_8):Int)
abbrev q121_5 (d:DyD×Unit)(x:Nat)(x_4:Nat):=(↑(q121_1 d x x_4).2.length:Int)
def jjx:Prop:=∀(d:DyD×Unit),(U.jT d.1).length≤1000→d.1.2.2.2.2.2.1.length≤1000∧(∃(x:Nat),(((0:Int)=(x:Int)∧True∧True)∧U.jp (q121_0 d) x=[]∧True)∧x≤(q121_0 d).length)∧∀(x:Nat),x≤(q121_0 d).length→(q121_0 d).length<4611686018427387904→(decide ((x:Int)<(q121_6 d))=true→(0:Int)≤(x:Int)∧(x:Int)<(q121_6 d)∧(∃(x_4:Nat),(((0:Int)=(x_4:Int)∧decide ((nth (q121_0 d) (x:Int).toNat).2.2.1=(1:Int))=U.kw (q121_0 d) (x:Int).toNat x_4∧True)∧True)∧x_4≤(q121_0 d).length)∧∀(x_4:Nat),x_4≤(q121_0 d).length→(q121_0 d).length<4611686018427387904→(decide ((x_4:Int)<(q121_6 d))=true→(0:Int)≤(x_4:Int)∧(x_4:Int)<(q121_6 d)∧(0:Int)≤(x:Int)∧(x:Int)<(q121_6 d)∧(decide (q121_2 d x_4 x)=true→(0:Int)≤(x_4:Int))∧(decide (q121_2 d x_4 x)=true→(x_4:Int)<(q121_6 d))∧(decide (q121_2 d x_4 x)=true→(0:Int)≤(x:Int))∧(decide (q121_2 d x_4 x)=true→(x:Int)<(q121_6 d))∧((q121_8 d x_4 x)=true→(0:Int)≤(x_4:Int))∧((q121_8 d x_4 x)=true→(x_4:Int)<(q121_6 d))∧((q121_8 d x_4 x)=true→(0:Int)≤(x:Int))∧((q121_8 d x_4 x)=true→(x:Int)<(q121_6 d))∧((q121_7 d x_4 x)=true→jx ((x_4:Int)+(1:Int))∧∃(x':Nat),(((x_4:Int)+(1:Int)=(x':Int)∧false=U.kw (q121_0 d) (x:Int).toNat x'∧True)∧True)∧x'≤(q121_0 d).length∧(q121_0 d).length-x'<(q121_0 d).length-x_4)∧((q121_7 d x_4 x)=false→jx ((x_4:Int)+(1:Int))∧∃(x':Nat),((U.kw (q121_0 d) (x:Int).toNat x_4=U.kw (q121_0 d) (x:Int).toNat x'∧(x_4:Int)+(1:Int)=(x':Int)∧True)∧True)∧x'≤(q121_0 d).length∧(q121_0 d).length-x'<(q121_0 d).length-x_4))∧(decide ((x_4:Int)<(q121_6 d))=false→(U.kw (q121_0 d) (x:Int).toNat x_4=true→(0:Int)≤(x:Int)∧(x:Int)<(q121_6 d)∧((q121_9 d x).length+[nth (q121_0 d) (x:Int).toNat].length)*40≤140737488355328∧jx ((x:Int)+(1:Int))∧∃(x':Nat),(((x:Int)+(1:Int)=(x':Int)∧True∧True)∧U.jp (q121_0 d) x++[nth (q121_0 d) (x:Int).toNat]=U.jp (q121_0 d) x'∧True)∧x'≤(q121_0 d).length∧(q121_0 d).length-x'<(q121_0 d).length-x)∧(U.kw (q121_0 d) (x:Int).toNat x_4=false→jx ((x:Int)+(1:Int))∧∃(x':Nat),((True∧(x:Int)+(1:Int)=(x':Int)∧True)∧U.jp (q121_0 d) x=U.jp (q121_0 d) x'∧True)∧x'≤(q121_0 d).length∧(q121_0 d).length-x'<(q121_0 d).length-x)))∧(decide ((x:Int)<(q121_6 d))=false→(∃(x_4:Nat),((True∧True∧True)∧U.jp (q121_0 d) x=(q121_1 d x x_4).2∧(q121_1 d x x_4).1=[]∧True)∧x_4≤(q121_9 d x).length)∧∀(x_4:Nat),x_4≤(q121_9 d x).length→(q121_1 d x x_4).2.length<4611686018427387904→(decide ((0:Int)<(q121_5 d x x_4))=true→(∃(x_8:Nat),(((0:Int)=(x_8:Int)∧(0:Int)=(q121_3 d x x_4 x_8)∧True)∧True)∧x_8≤(q121_1 d x x_4).2.length)∧∀(x_8:Nat),x_8≤(q121_1 d x x_4).2.length→(q121_1 d x x_4).2.length<4611686018427387904→(decide ((x_8:Int)<(q121_5 d x x_4))=true→(0:Int)≤(q121_3 d x x_4 x_8)∧(q121_3 d x x_4 x_8)<(q121_5 d x x_4)∧(0:Int)≤(x_8:Int)∧(x_8:Int)<(q121_5 d x x_4)∧(U.zx (nth (q121_1 d x x_4).2 (q121_3 d x x_4 x_8).toNat) (nth (q121_1 d x x_4).2 (x_8:Int).toNat)=true→jx ((x_8:Int)+(1:Int))∧∃(x':Nat),(((x_8:Int)+(1:Int)=(x':Int)∧(x_8:Int)=(↑(U.jD (q121_1 d x x_4).2 x'):Int)∧True)∧True)∧x'≤(q121_1 d x x_4).2.length∧(q121_1 d x x_4).2.length-x'<(q121_1 d x x_4).2.length-x_8)∧(U.zx (nth (q121_1 d x x_4).2 (q121_3 d x x_4 x_8).toNat) (nth (q121_1 d x x_4).2 (x_8:Int).toNat)=false→jx ((x_8:Int)+(1:Int))∧∃(x':Nat),(((q121_3 d x x_4 x_8)=(↑(U.jD (q121_1 d x x_4).2 x'):Int)∧(x_8:Int)+(1:Int)=(x':Int)∧True)∧True)∧x'≤(q121_1 d x x_4).2.length∧(q121_1 d x x_4).2.length-x'<(q121_1 d x x_4).2.length-x_8))∧(decide ((x_8:Int)<(q121_5 d x x_4))=false→(0:Int)≤(q121_3 d x x_4 x_8)∧(q121_3 d x x_4 x_8)<(q121_5 d x x_4)∧((q121_1 d x x_4).1.length+[nth (q121_1 d x x_4).2 (q121_3 d x x_4 x_8).toNat].length)*40≤140737488355328∧(0:Int)≤(0:Int)∧(0:Int)≤(q121_3 d x x_4 x_8)∧(q121_3 d x x_4 x_8)≤(q121_5 d x x_4)∧(0+(List.take ((q121_3 d x x_4 x_8).toNat-Int.toNat (0:Int)) (List.drop (Int.toNat (0:Int)) (q121_1 d x x_4).2)).length)*40≤140737488355328∧jx ((q121_3 d x x_4 x_8)+(1:Int))∧(0:Int)≤(q121_3 d x x_4 x_8)+(1:Int)∧(q121_3 d x x_4 x_8)+(1:Int)≤(q121_5 d x x_4)∧(q121_5 d x x_4)≤(q121_5 d x x_4)∧(([]++List.take ((q121_3 d x x_4 x_8).toNat-Int.toNat (0:Int)) (List.drop (Int.toNat (0:Int)) (q121_1 d x x_4).2)).length+(List.take ((q121_5 d x x_4).toNat-((q121_3 d x x_4 x_8)+(1:Int)).toNat) (List.drop ((q121_3 d x x_4 x_8)+(1:Int)).toNat (q121_1 d x x_4).2)).length)*40≤140737488355328∧∃(x':Nat),((True∧True∧True)∧[]++List.take ((q121_3 d x x_4 x_8).toNat-Int.toNat (0:Int)) (List.drop (Int.toNat (0:Int)) (q121_1 d x x_4).2)++List.take ((q121_5 d x x_4).toNat-((q121_3 d x x_4 x_8)+(1:Int)).toNat) (List.drop ((q121_3 d x x_4 x_8)+(1:Int)).toNat (q121_1 d x x_4).2)=(U.jh (q121_9 d x) x').2∧(q121_1 d x x_4).1++[nth (q121_1 d x x_4).2 (q121_3 d x x_4 x_8).toNat]=(U.jh (q121_9 d x) x').1∧True)∧x'≤(q121_9 d x).length∧(q121_9 d x).length-x'<(q121_9 d x).length-x_4))∧(decide ((0:Int)<(q121_5 d x x_4))=false→((q121_1 d x x_4).1,())=(U.zr d.1,())))
theorem jlr:zq (ctx 112 [(73,jaA),(146,jfR)] []) (jte) Tryz.f106 (jd Tryz.f106) jdv=jjx:=by kernel_rfl
def jfZ:kx:=⟨[.own (.cl (.row 3 .int .no)) true,.val .int],[.cl (.row 3 .int .yes)],fun d=>[d.1.length≤1000,0≤d.2.1∧d.2.1≤63],fun d=>((U.on d.1 d.2.1,()),(d.1,()))⟩
def jvn:Ann:=fun r=>match r with
  |3=>some fun σ=>{X:=Nat,sl:=fun i=>[(6,.dat .int (i:Int)),(5,.own 5 .int)],ob:=fun i=>[(5,some (.row 3 .int false .yes (U.jeY (gr .int σ 1000000) (gd .int σ 1) i)))],inv:=fun i=>i≤(gr .int σ 1000000).length,mu:=fun i=>(gr .int σ 1000000).length-i}
  |_=>none
def jlx:Prop:=∀(d:List Int×Int×Unit),d.1.length≤1000→(0:Int)≤d.2.1∧d.2.1≤(63:Int)→(∃(x:Nat),(((0:Int)=(x:Int)∧True∧True)∧U.jeY d.1 d.2.1 x=[]∧True)∧x≤d.1.length)∧∀(x:Nat),x≤d.1.length→d.1.length<4611686018427387904→(decide ((x:Int)<(d.1.length:Int))=true→(0:Int)≤(x:Int)∧(x:Int)<(d.1.length:Int)∧((0:Int)≤d.2.1∧d.2.1≤(63:Int))∧(U.kf (nth d.1 (x:Int).toNat) d.2.1=true→((U.jeY d.1 d.2.1 x).length+[(x:Int)].length)*8≤140737488355328∧jx ((x:Int)+(1:Int))∧∃(x':Nat),(((x:Int)+(1:Int)=(x':Int)∧True∧True)∧U.jeY d.1 d.2.1 x++[(x:Int)]=U.jeY d.1 d.2.1 x'∧True)∧x'≤d.1.length∧d.1.length-x'<d.1.length-x)∧(U.kf (nth d.1 (x:Int).toNat) d.2.1=false→jx ((x:Int)+(1:Int))∧∃(x':Nat),((True∧(x:Int)+(1:Int)=(x':Int)∧True)∧U.jeY d.1 d.2.1 x=U.jeY d.1 d.2.1 x'∧True)∧x'≤d.1.length∧d.1.length-x'<d.1.length-x))∧(decide ((x:Int)<(d.1.length:Int))=false→(U.jeY d.1 d.2.1 x,())=(U.on d.1 d.2.1,())∧(d.1,())=(d.1,()))
theorem jnJ:jcR (ctx 24 [(36,jaX)] []) (jvn) Tryz.f61 (jd Tryz.f61) jfZ=jlx:=by kernel_rfl
def jbK:jW:=⟨[.val tDy],[.slice .int,.slice .int],false,fun d=>[U.kM d.1=0],fun d=>((U.kW d.1).1,(U.kW d.1).2,())⟩
def jvl:Ann:=fun r=>match r with
  |4=>some fun σ=>{X:=Nat,sl:=fun i=>[(5,.dat .int (i:Int)),(2,.own 2 .int),(3,.own 3 .int)],ob:=fun i=>[(2,some (.row 3 .int false .no (U.jA (gb tDy σ 1) i).1)),(3,some (.row 3 .int false .yes (U.jA (gb tDy σ 1) i).2))],inv:=fun i=>i≤(U.zr (gb tDy σ 1)).length,mu:=fun i=>(U.zr (gb tDy σ 1)).length-i}
  |_=>none
abbrev q123_0 (d:DyD×Unit)(x:Nat):=(nth (U.zr d.1) (x:Int).toNat)
abbrev q123_1 (d:DyD×Unit):=(↑(U.zr d.1).length:Int)
abbrev q123_2 (d:DyD×Unit)(x:Nat):=(U.on (U.jA d.1 x).1 (q123_0 d x).2.2.2.2.1++[(q123_0 d x).2.2.2.1])
abbrev q123_3 (d:DyD×Unit)(x:Nat):=(nth (U.jA d.1 x).1 (q123_0 d x).2.2.2.1.toNat+(1:Int)*(2:Int)^(q123_0 d x).2.2.2.2.1.toNat)
abbrev q123_4 (d:DyD×Unit):=(d.1.2.2.1.length:Int)
def jls:Prop:=∀(d:DyD×Unit),U.kM d.1=(0:Int)→d.1.2.2.1.length<4611686018427387904→(0:Int)≤(q123_4 d)∧(q123_4 d)=(q123_4 d)∧(q123_4 d).toNat*8≤140737488355328∧(U.jT d.1).length≤1000∧(∃(x:Nat),(((0:Int)=(x:Int)∧True∧True∧True)∧List.replicate (q123_4 d).toNat (0:Int)=(U.jA d.1 x).1∧(U.jA d.1 x).2=[]∧True)∧x≤(U.zr d.1).length)∧∀(x:Nat),x≤(U.zr d.1).length→(U.zr d.1).length<4611686018427387904→(decide ((x:Int)<(q123_1 d))=true→(0:Int)≤(x:Int)∧(x:Int)<(q123_1 d)∧(0:Int)≤(x:Int)∧(x:Int)<(q123_1 d)∧(U.jA d.1 x).1.length≤1000∧((0:Int)≤(q123_0 d x).2.2.2.2.1∧(q123_0 d x).2.2.2.2.1≤(63:Int))∧(0:Int)≤(x:Int)∧(x:Int)<(q123_1 d)∧((U.on (U.jA d.1 x).1 (q123_0 d x).2.2.2.2.1).length+[(q123_0 d x).2.2.2.1].length)*8≤140737488355328∧U.jn5 d.1∧U.jsh d.1 (q123_0 d x).2.2.2.2.1∧U.jkv d.1 (q123_2 d x)∧(U.wN d.1 (q123_0 d x).2.2.2.2.1 (q123_2 d x)=true→(0:Int)≤(x:Int)∧(x:Int)<(q123_1 d)∧(0:Int)≤(q123_0 d x).2.2.2.1∧(q123_0 d x).2.2.2.1<(↑(U.jA d.1 x).1.length:Int)∧(0:Int)≤(x:Int)∧(x:Int)<(q123_1 d)∧(0:Int)≤(q123_0 d x).2.2.2.2.1∧(q123_0 d x).2.2.2.2.1≤(18446744073709551615:Int)∧(0:Int)≤(q123_0 d x).2.2.2.2.1∧(q123_0 d x).2.2.2.2.1≤(64:Int)∧jx ((1:Int)*(2:Int)^(q123_0 d x).2.2.2.2.1.toNat)∧jx (q123_3 d x)∧(0:Int)≤(q123_0 d x).2.2.2.1∧(q123_0 d x).2.2.2.1<(↑(U.jA d.1 x).1.length:Int)∧jx ((x:Int)+(1:Int))∧∃(x':Nat),((True∧True∧(x:Int)+(1:Int)=(x':Int)∧True)∧(U.jA d.1 x).2=(U.jA d.1 x').2∧(U.jA d.1 x).1.set (q123_0 d x).2.2.2.1.toNat (q123_3 d x)=(U.jA d.1 x').1∧True)∧x'≤(U.zr d.1).length∧(U.zr d.1).length-x'<(U.zr d.1).length-x)∧(U.wN d.1 (q123_0 d x).2.2.2.2.1 (q123_2 d x)=false→(0:Int)≤(x:Int)∧(x:Int)<(q123_1 d)∧((U.jA d.1 x).2.length+[(q123_0 d x).1].length)*8≤140737488355328∧jx ((x:Int)+(1:Int))∧∃(x':Nat),((True∧(x:Int)+(1:Int)=(x':Int)∧True∧True)∧(U.jA d.1 x).2++[(q123_0 d x).1]=(U.jA d.1 x').2∧(U.jA d.1 x).1=(U.jA d.1 x').1∧True)∧x'≤(U.zr d.1).length∧(U.zr d.1).length-x'<(U.zr d.1).length-x))∧(decide ((x:Int)<(q123_1 d))=false→((U.jA d.1 x).1,(U.jA d.1 x).2,())=((U.kW d.1).1,(U.kW d.1).2,()))
theorem jnE:zq (ctx 66 [(106,jdv),(107,jfU)] [(61,jfZ)]) (jvl) Tryz.f54 (jd Tryz.f54) jbK=jls:=by kernel_rfl
def jbL:jW:=⟨[.val tDy],[.slice .int,.int],false,fun d=>[(U.jv d.1).length≤1000000],fun d=>(U.vb d.1,U.kM d.1,())⟩
def jlv:Prop:=∀(d:DyD×Unit),(U.jv d.1).length≤1000000→(U.jv d.1).length≤1000000∧(decide (U.kM d.1≠(0:Int))=true→([],U.kM d.1,())=(U.vb d.1,U.kM d.1,()))∧(decide (U.kM d.1≠(0:Int))=false→U.kM d.1=(0:Int)∧((U.kW d.1).1,(0:Int),())=(U.vb d.1,U.kM d.1,()))
theorem jnH:zq (ctx 18 [(17,vu),(54,jbK)] []) (fun _=>none) Tryz.f19 (jd Tryz.f19) jbL=jlv:=by kernel_rfl
end Go.X
namespace Go.X
open Go.Proofs
theorem jxt:jlx:=by
  rintro⟨l,p,⟨⟩⟩ hl hp;have hl:l.length≤1000:=hl;refine⟨⟨0,⟨⟨rfl,trivial,trivial⟩,rfl,trivial⟩,jG2 _⟩,fun x hx _=>⟨fun h=> ?_,fun h=> ?_⟩⟩
  · have h:(x:Int)<(l.length:Int):=of_decide_eq_true h;have hs:=jzs l p x;have hlen:=jvZ l p x;have up:x+1≤l.length:=(by omega);have dn:l.length-(x+1)<l.length-x:=(by omega);refine⟨by omega,h,hp,fun h2=>⟨?_,L.in64 (by omega) (by omega),x+1,⟨⟨by simp,trivial,trivial⟩,?_,trivial⟩,up,dn⟩,fun h2=>⟨L.in64 (by omega) (by omega),x+1,⟨⟨trivial,by simp,trivial⟩,?_,trivial⟩,up,dn⟩⟩
    · show((U.jeY l p x).length+1)*8≤140737488355328;omega
    · have h2:U.kf (nth l x) p=true:=h2;rw[if_pos h2] at hs;exact hs.symm
    · have h2:U.kf (nth l x) p=false:=h2;rw[if_neg (by rw[h2];simp),jHf] at hs;exact hs.symm
  · have h:¬(x:Int)<(l.length:Int):=of_decide_eq_false h;have hx:x≤l.length:=hx;have hxl:x=l.length:=(by omega);subst hxl;exact⟨rfl,rfl⟩
theorem jui:yf PR 61 jfZ:=jgj (jnJ.mpr jxt) Tryz.func61 (by kernel_rfl) (by kernel_rfl) (by kernel_rfl) (by kernel_rfl) (by kernel_rfl) ⟨fun _=>jhD,trivial⟩ trivial
theorem jxs:jlv:=by
  rintro⟨d,⟨⟩⟩ hl;refine⟨hl,fun h=> ?_,fun h=> ?_⟩
  · have h:U.kM d≠0:=of_decide_eq_true h;show([],U.kM d,())=(U.vb d,U.kM d,());unfold U.vb;rw[if_neg h]
  · have h:U.kM d=0:=Classical.not_not.1 (of_decide_eq_false h);refine⟨h,?_⟩;show((U.kW d).1,(0:Int),())=(U.vb d,U.kM d,());unfold U.vb;rw[if_pos h,h]
end Go.X
namespace Go.X
theorem jiR (l:List ShD) (n:Nat):U.jD l (n+1)=if U.zx (nth l (U.jD l n)) (nth l n)=true then n else U.jD l n:=by
  unfold U.jD;rw[jHu,jHp];rfl
theorem jex (l:List ShD):∀n,n≤l.length→0<l.length→U.jD l n<l.length
  |0,_,h=>h
  |n+1,hn,h=>by
    have ih:=jex l n (by omega) h
    rw[jiR]
    split<;>omega
theorem jep (l:List ShD):∀n,n≤l.length→(U.jh l n).1.length=n∧(U.jh l n).2.length=l.length-n
  |0,_=>⟨rfl,rfl⟩
  |n+1,hn=>by
    obtain⟨h1,h2⟩:=jep l n (by omega)
    have hm:=jex (U.jh l n).2 _ (jGU _) (by omega)
    refine⟨?_,?_⟩
    · show((U.jh l n).1++[_]).length=_
      rw[jHa,h1];rfl
    · show((U.jh l n).2.take _++(U.jh l n).2.drop _).length=_
      rw[jHa,jHj,jHR]
      omega
theorem jCB {α:Type} [Inhabited α] {l:List α} {m:Nat} (h:m<l.length):(nth l m::(l.take m++l.drop (m+1))).Perm l:=by
  have e:l=l.take m++nth l m::l.drop (m+1):=by
    conv=>lhs;rw[←jH9 m l]
    rw[List.drop_eq_getElem_cons h,L.nth_lt h]
  conv=>rhs;rw[e]
  exact List.perm_middle.symm
theorem jlX (l:List ShD):∀n,n≤l.length→((U.jh l n).1++(U.jh l n).2).Perm l
  |0,_=>List.Perm.refl _
  |n+1,hn=>by
    have ih:=jlX l n (by omega)
    have hl:=jep l n (by omega)
    have hm:=jex (U.jh l n).2 _ (jGU _) (by omega)
    refine List.Perm.trans ?_ ih
    show((U.jh l n).1++[nth (U.jh l n).2 (U.jD (U.jh l n).2 (U.jh l n).2.length)]++_).Perm _
    rw[jHc]
    exact List.Perm.append_left _ (jCB hm)
theorem jpS {d:DyD} {n:Nat} (h:n<(U.zr d).length):U.jA d (n+1)=U.vl d (U.jA d n) (nth (U.zr d) n):=by
  unfold U.jA;rw[L.take_succ h,jHp];rfl
theorem jk3 {d:DyD} {s:ShD} (h:s∈U.zr d):s∈U.je (U.jT d):=by
  have hp:=jlX (U.yR d) (U.yR d).length (jGU _);have h1:s∈U.yR d:=hp.mem_iff.1 (jGR _ h);unfold U.yR U.jp at h1;obtain⟨i,hi,rfl⟩:=jHs.1 h1;exact L.mem_nth (jG9.1 (jHg.1 hi).1)
theorem jeG {l:List ShD} {s:ShD} (h:s∈U.je l):s∈l:=by
  unfold U.je U.z6 at h;obtain⟨m,_,h⟩:=List.mem_flatMap.1 h;unfold U.gE at h;obtain⟨i,hi,rfl⟩:=jHs.1 h;exact L.mem_nth (jG9.1 (jHg.1 hi).1)
theorem jtM {d:DyD} (hd:U.kg d=true) (hc:U.jq (U.jo d)=true):∀n,n≤(U.zr d).length→(U.jA d n).1.length=(U.jv d).length∧(U.jA d n).2.length≤n∧∀b,b<(U.jv d).length→0≤nth (U.jA d n).1 b∧nth (U.jA d n).1 b≤128*(n:Int)
  |0,_=>by
    refine⟨jHL,jG2 _,fun b hb=> ?_⟩
    have:nth (U.jA d 0).1 b=0:=L.nth_rep hb
    rw[this];exact⟨jHT 0,jHT 0⟩
  |n+1,hn=>by
    obtain⟨h1,h2,h3⟩:=jtM hd hc n (by omega)
    have hs:=jeo hd (jeG (jk3 (L.mem_nth (l:=U.zr d) (i:=n) (by omega))))
    have h8:(U.ji (U.jo d)).length≤8:=(jG hc).2.2.1
    have hpw:(2:Int)^(U.qD (nth (U.zr d) n)).toNat≤128:=by
      rw[BT.two_nat];have:(2:Nat)^(U.qD (nth (U.zr d) n)).toNat≤2^7:=Nat.pow_le_pow_right (by decide) (by omega);omega
    have hp0:(0:Int)<(2:Int)^(U.qD (nth (U.zr d) n)).toNat:=by
      rw[BT.two_nat];have:=Nat.two_pow_pos (U.qD (nth (U.zr d) n)).toNat;omega
    have hbk:(U.jcZ (nth (U.zr d) n)).toNat<(U.jA d n).1.length:=by
      have:=hs.2;unfold U.qo at this;omega
    rw[jpS (by omega)];unfold U.vl
    split
    · refine⟨by show((U.jA d n).1.set _ _).length=_;rw[jIe,h1],by show(U.jA d n).2.length≤_;omega,fun b hb=> ?_⟩;show 0≤nth ((U.jA d n).1.set _ _) b∧nth ((U.jA d n).1.set _ _) b≤_;rw[L.nth_set hbk];have hb':=h3 b hb
      split
      · rename_i e;rw[e];omega
      · omega
    · refine⟨h1,by show((U.jA d n).2++[_]).length≤_;rw[jHa];simp;omega,fun b hb=> ?_⟩;have hb':=h3 b hb;show 0≤nth (U.jA d n).1 b∧nth (U.jA d n).1 b≤_;omega
end Go.X
namespace Go.X
open Go.Proofs
theorem js8 {d:DyD} (h:U.kM d=0):U.jn5 d:=(wn ((jbr d).trans h)).1
theorem jFm {t:List Int} {p b:Int} (h:b∈U.on t p):0≤b∧b<(t.length:Int):=by
  unfold U.on U.jeY at h;obtain⟨i,hi,rfl⟩:=jHs.1 h;have:=jG9.1 (jHg.1 hi).1;omega
theorem jym (d:DyD):(U.zr d).length≤(U.jT d).length*100:=by
  have h1:=(jep (U.yR d) (U.yR d).length (jGU _)).1;have h2:(U.yR d).length≤(U.je (U.jT d)).length:=by
    unfold U.yR U.jp;rw[jHO];exact jG5 (jHM _ _) (by simp)
  have h3:(U.je (U.jT d)).length≤(U.jT d).length*100:=jeH _ 100;show(U.jh (U.yR d) (U.yR d).length).1.length≤_;omega
theorem jFn (t:List Int) (p:Int):(U.on t p).length≤t.length:=jvZ t p t.length
theorem jvC (d:DyD):U.jA d 0=(List.replicate ((U.jv d).length:Int).toNat 0,[]):=rfl
attribute [local irreducible] U.zr U.jA U.wN U.on
theorem jxp:jls:=by
  unfold jls q123_4 q123_3 q123_2 q123_1 q123_0;rintro⟨d,⟨⟩⟩ h0 _;have h0:U.kM d=0:=h0;have hD:=js8 h0;have hb4:(U.jv d).length≤4:=(zm hD.2.2).1;have h30:(U.jT d).length≤30:=(zm hD.2.2).2.2.2.2.1;have h8:(U.ji (U.jo d)).length≤8:=(jG hD.1).2.2.1;refine⟨jHn _,rfl,by show((U.jv d).length:Int).toNat*8≤140737488355328;omega,by show(U.jT d).length≤1000;omega,⟨0,⟨⟨rfl,trivial,trivial,trivial⟩,(congrArg (·.1) (jvC d)).symm,congrArg (·.2) (jvC d),trivial⟩,jG2 _⟩,fun x hx hf=>⟨fun h=> ?_,fun h=> ?_⟩⟩
  · have h:(x:Int)<((U.zr d).length:Int):=of_decide_eq_true h;have hwl:=jym d;have hf:(U.zr d).length≤3000:=(by omega);obtain⟨i1,i2,i3⟩:=jtM hD.2.2 hD.1 x (by omega);have hs:=jeo hD.2.2 (jeG (jk3 (L.mem_nth (l:=U.zr d) (i:=x) (by omega))));have hok:=hs.2;unfold U.qo at hok;have hv:=i3 (U.jcZ (nth (U.zr d) x)).toNat (by omega);have hst:=jpS (d:=d) (n:=x) (by omega);have ol:=jFn (U.jA d x).1 (U.qD (nth (U.zr d) x));have h2:BT.Set' ((2:Int)^(U.qD (nth (U.zr d) x)).toNat):=BT.two_set (by omega);unfold BT.Set' at h2;have up:x+1≤(U.zr d).length:=(by omega);have dn:(U.zr d).length-(x+1)<(U.zr d).length-x:=(by omega);have x0:(0:Int)≤(x:Int):=jHn x;have p0:0≤U.qD (nth (U.zr d) x):=hs.1.1;have p63:U.qD (nth (U.zr d) x)≤63:=(by omega);have p64:U.qD (nth (U.zr d) x)≤64:=(by omega);have pbig:U.qD (nth (U.zr d) x)≤18446744073709551615:=(by omega);have bl:U.jcZ (nth (U.zr d) x)<((U.jA d x).1.length:Int):=(by omega);have i64:jx ((x:Int)+1):=L.in64 (by omega) (by omega);refine⟨x0,h,x0,h,by show(U.jA d x).1.length≤1000;omega,⟨p0,p63⟩,x0,h,by show((U.on (U.jA d x).1 (U.qD (nth (U.zr d) x))).length+1)*8≤140737488355328;omega,hD,hs.1,⟨?_,fun b hb=> ?_⟩,fun hc=> ?_,fun hc=> ?_⟩
    · show(U.on (U.jA d x).1 (U.qD (nth (U.zr d) x))++[U.jcZ (nth (U.zr d) x)]).length≤12;rw[jHa];simp;omega
    · rcases jG1.1 hb with hb|hb
      · have:=jFm hb;exact⟨this.1,by show b<((U.jv d).length:Int);rw[←i1];exact this.2⟩
      · simp at hb;subst hb;exact hs.2
    · have hc:U.wN d (U.qD (nth (U.zr d) x)) (U.on (U.jA d x).1 (U.qD (nth (U.zr d) x))++[U.jcZ (nth (U.zr d) x)])=true:=hc;have e:U.jA d (x+1)=((U.jA d x).1.set (U.jcZ (nth (U.zr d) x)).toNat (nth (U.jA d x).1 (U.jcZ (nth (U.zr d) x)).toNat+2^(U.qD (nth (U.zr d) x)).toNat),(U.jA d x).2):=by
        rw[hst];unfold U.vl;rw[if_pos hc]
      have hpw:(2:Int)^(U.qD (nth (U.zr d) x)).toNat<4611686018427387904:=h2.2;refine⟨x0,h,hs.2.1,bl,x0,h,p0,pbig,p0,p64,?_,?_,hs.2.1,bl,i64,x+1,⟨⟨trivial,trivial,by simp,trivial⟩,?_,?_,trivial⟩,up,dn⟩
      · show jx (1*2^(U.qD (nth (U.zr d) x)).toNat);rw[gq];exact L.in64 (by omega) (by omega)
      · show jx (nth (U.jA d x).1 (U.jcZ (nth (U.zr d) x)).toNat+1*2^(U.qD (nth (U.zr d) x)).toNat);rw[gq];exact L.in64 (by omega) (by omega)
      · show(U.jA d x).2=(U.jA d (x+1)).2;rw[e]
      · show(U.jA d x).1.set (U.jcZ (nth (U.zr d) x)).toNat (nth (U.jA d x).1 (U.jcZ (nth (U.zr d) x)).toNat+1*2^(U.qD (nth (U.zr d) x)).toNat)=(U.jA d (x+1)).1;rw[gq,e]
    · have hc:U.wN d (U.qD (nth (U.zr d) x)) (U.on (U.jA d x).1 (U.qD (nth (U.zr d) x))++[U.jcZ (nth (U.zr d) x)])=false:=hc;have e:U.jA d (x+1)=((U.jA d x).1,(U.jA d x).2++[U.wG (nth (U.zr d) x)]):=by
        rw[hst];unfold U.vl;rw[hc,if_neg (by simp)]
      refine⟨x0,h,by show((U.jA d x).2.length+1)*8≤140737488355328;omega,i64,x+1,⟨⟨trivial,by simp,trivial,trivial⟩,?_,?_,trivial⟩,up,dn⟩
      · show(U.jA d x).2++[U.wG (nth (U.zr d) x)]=(U.jA d (x+1)).2;rw[e]
      · show(U.jA d x).1=(U.jA d (x+1)).1;rw[e]
  · have h:¬(x:Int)<((U.zr d).length:Int):=of_decide_eq_false h;have hx:x≤(U.zr d).length:=hx;have hxl:x=(U.zr d).length:=(by omega);subst hxl;rfl
end Go.X
namespace Go.X
theorem jeL (c:CrD) (j:JbD) (i:Nat):(U.kL (c,j,U.gK c j,()) (nth (U.ji c) i)=0)↔U.kd c j (i:Int)=true:=by
  show U.jwN (U.jbH (nth (U.ji c) i) (U.jBl j)) (!U.kf (U.fd (nth (U.ji c) i)) (U.jut j)) (!U.kf (U.cl (nth (U.ji c) i)) (U.jtv j))=0↔
    (!(U.jbH (nth (U.ji c) ((i:Int)).toNat) (U.jBl j))&&U.kf (U.fd (nth (U.ji c) ((i:Int)).toNat)) (U.jut j)&&U.kf (U.cl (nth (U.ji c) ((i:Int)).toNat)) (U.jtv j))=true
  rw[jGX];generalize U.jbH (nth (U.ji c) i) (U.jBl j)=x;generalize U.kf (U.fd (nth (U.ji c) i)) (U.jut j)=y;generalize U.kf (U.cl (nth (U.ji c) i)) (U.jtv j)=z;cases x<;>cases y<;>cases z<;>decide
theorem jEa {c:CrD} {j:JbD} (hc:U.jq c=true) (hj:U.jU c j=true) (p:Nat):(p:Int)∈U.jak c j↔p<(U.ji c).length∧U.kd c j (p:Int)=true:=by
  have h0:U.zS c j=0:=(by unfold U.zS;rw[hc,hj];rfl);unfold U.jak U.gz;rw[if_pos h0,jHs];refine⟨fun⟨i,hi,e⟩=> ?_,fun h=>⟨p,?_,rfl⟩⟩
  · have e:i=p:=(by omega);subst e;have:=jHg.1 hi;exact⟨jG9.1 this.1,(jeL c j i).1 (of_decide_eq_true this.2)⟩
  · exact jHg.2 ⟨jG9.2 h.1,decide_eq_true ((jeL c j p).2 h.2)⟩
theorem jyQ {l:List Int} (h:∀p∈l,0≤p∧p<8):∀n,n≤l.length→∀q,BT.has (U.jcw l n) q=(l.take n).any (fun p=>decide (p.toNat=q))
  |0,_,q=>BT.has_zero q
  |n+1,hn,q=>by
    have ih:=jyQ h n (by omega) q
    have hf:=jf1 h n (by omega)
    have hp:=h _ (L.mem_nth (l:=l) (i:=n) (by omega))
    rw[jiD (by omega),gq,BT.has_bor hf.1 (BT.two_set (by omega)),ih,BT.has_two,L.take_succ (by omega),List.any_append]
    simp
theorem jyR {l:List Int} (h:∀p∈l,0≤p∧p<8) (q:Nat):BT.has (U.jvH l) q=l.any (fun p=>decide (p.toNat=q)):=by
  have:=jyQ h l.length (jGU _) q;rw[jHS] at this;exact this
theorem jBX {d:DyD} {b:Nat} (hb:b<(U.jv d).length):nth (U.kH d (U.jv d).length) b=U.jvH (U.jak (U.jo d) (U.jaL (nth (U.jv d) b))):=by
  unfold U.kH;rw[jHS,L.nth_map hb]
theorem jz0 {d:DyD} (hD:U.jn5 d) {b:Nat} (hb:b<(U.jv d).length):U.jU (U.jo d) (U.jaL (nth (U.jv d) b))=true:=
  jHo.1 hD.2.1 _ (L.mem_nth hb)
theorem jEb {d:DyD} (hD:U.jn5 d) {b p:Int} (hb:U.qo d b) (hp:U.jsh d p):decide (ya (nth (U.kH d (U.jv d).length) b.toNat/2^p.toNat) 1=0)= !U.kd (U.jo d) (U.jaL (U.bk d b)) p:=by
  unfold U.qo at hb;unfold U.jsh at hp;have hb':b.toNat<(U.jv d).length:=(by omega);have hm:=fun q (hq:q∈U.jak (U.jo d) (U.jaL (nth (U.jv d) b.toNat)))=>jzP hD.1 hq
  have hs:BT.Set' (U.jvH (U.jak (U.jo d) (U.jaL (nth (U.jv d) b.toNat)))):=(jf1 hm _ (jGU _)).1;have hb2:U.bk d b=nth (U.jv d) b.toNat:=rfl;rw[jBX hb',BT.bit_num hs,hb2];have h1:=jyR hm p.toNat;have h2:=jEa hD.1 (jz0 hD hb') p.toNat;have ep:((p.toNat:Nat):Int)=p:=(by omega);rw[ep] at h2;have h3:BT.has (U.jvH (U.jak (U.jo d) (U.jaL (nth (U.jv d) b.toNat)))) p.toNat=U.kd (U.jo d) (U.jaL (nth (U.jv d) b.toNat)) p:=by
    rw[h1];cases h:U.kd (U.jo d) (U.jaL (nth (U.jv d) b.toNat)) p with
    |true=>exact jHz.2 ⟨p,h2.2 ⟨by omega,h⟩,by simp⟩
    |false=>
      refine jHC.2 fun q hq e=> ?_
      have e:q.toNat=p.toNat:=of_decide_eq_true e;have:=hm q hq;have e:q=p:=(by omega);rw[e] at hq;rw[(h2.1 hq).2] at h;cases h
  rw[h3];cases U.kd (U.jo d) (U.jaL (nth (U.jv d) b.toNat)) p<;>rfl
theorem jrU {α:Type} [Inhabited α] {R:α→α→Prop} {l:List α}:(∀i,i<l.length→∀b∈l.take i,R b (nth l i))↔l.Pairwise R:=by
  rw[jHV];refine⟨fun h i j hi hj hij=> ?_,fun h i hi b hb=> ?_⟩
  · have:=h j hj l[i] (jHx.2 ⟨i,by omega,rfl⟩);rw[L.nth_lt hj] at this;exact this
  · obtain⟨k,hk,rfl⟩:=jHx.1 hb;rw[L.nth_lt hi];exact h k i (by omega) hi (by omega)
theorem jzi {α:Type} [Inhabited α] {R:α→α→Prop} {l:List α}:(∀i,i<l.length→∀b∈l.drop (i+1),R (nth l i) b)↔l.Pairwise R:=by
  rw[jHV];refine⟨fun h i j hi hj hij=> ?_,fun h i hi b hb=> ?_⟩
  · have:=h i hi l[j] (List.mem_drop_iff_getElem.2 ⟨j-(i+1),by omega,by congr 1;omega⟩);rw[L.nth_lt hi] at this;exact this
  · obtain⟨k,hk,rfl⟩:=List.mem_drop_iff_getElem.1 hb;rw[L.nth_lt hi];exact h i (i+1+k) hi (by omega) (by omega)
theorem jef (d:DyD) (a b:Int):U.qC d a b=true↔(U.jcf (U.bk d a)<U.jcf (U.bk d b)∨(U.jcf (U.bk d a)=U.jcf (U.bk d b)∧a<b)):=decide_eq_true_iff
theorem jee (d:DyD) (a b:Int):U.qC d a b=false↔¬(U.jcf (U.bk d a)<U.jcf (U.bk d b)∨(U.jcf (U.bk d a)=U.jcf (U.bk d b)∧a<b)):=decide_eq_false_iff_not
theorem jA9 (d:DyD) (l:List Int):kQ (U.qC d) l where
  irrefl x _:=(jee d x x).2 (by omega)
  trans x y z _ _ _ h1 h2:=by
    have h1:=(jef d x y).1 h1;have h2:=(jef d y z).1 h2;exact(jef d x z).2 (by omega)
  total x y _ _ h1 h2:=by
    have h1:=(jee d x y).1 h1;have h2:=(jee d y x).1 h2;omega
theorem jns {d:DyD} {a b:Int} (h:a≠b) (h1:U.qC d b a=false):U.qC d a b=true:=by
  have h1:=(jee d b a).1 h1;exact(jef d a b).2 (by omega)
theorem jyc {d:DyD} {a b:Int} (h1:U.qC d a b=true):U.qC d b a=false:=by
  have h1:=(jef d a b).1 h1;exact(jee d b a).2 (by omega)
theorem jhc {d:DyD} {a b:Int} (h:U.qC d a b=true):(U.jR d b a=decide (0≤U.vR d a b))∧(U.jR d a b=decide (0≤U.vR d a b)):=by
  unfold U.jR;rw[if_pos h,jyc h,if_neg (by simp)];exact⟨rfl,rfl⟩
theorem jBs {d:DyD} {a b:Int} (h:a≠b):U.jR d a b=U.jR d b a:=by
  cases h1:U.qC d b a with
  |false=>have:=jhc (jns h h1);rw[this.1,this.2]
  |true=>have:=jhc h1;rw[this.1,this.2]
def TgR (d:DyD) (a b:Int):Prop:=a≠b→U.jR d b a=true
theorem jzh {d:DyD} {l:List Int} (hn:l.Nodup):U.jC4 d l=true↔l.Pairwise (TgR d):=by
  rw[←jrU];unfold U.jC4;rw[jHo];have hn':∀i,i<l.length→∀b∈l.take i,b≠nth l i:=(jrU (R:=fun a b=>a≠b)).2 hn;refine⟨fun h i hi b hb _=> ?_,fun h i hi=>jHo.2 fun b hb=> ?_⟩
  · exact jHo.1 (h i (jG9.2 hi)) b hb
  · exact h i (jG9.1 hi) b hb (hn' i (jG9.1 hi) b hb)
theorem TgR.symm {d:DyD} {a b:Int} (h:TgR d a b):TgR d b a:=fun e=>(jBs (Ne.symm e)).trans (h (Ne.symm e))
theorem jzN {d:DyD} {l l':List Int} (h:l.Perm l'):U.jqp d l=U.jqp d l':=by
  unfold U.jqp;exact List.Perm.foldl_eq' (h.map _) (fun x _ y _ z=>by omega) 0
theorem jqY (d:DyD) (p:Int) {l:List Int} (hn:l.Nodup):U.wN d p l=true↔(∀b∈l,U.kd (U.jo d) (U.jaL (U.bk d b)) p=true)∧l.Pairwise (TgR d)∧U.jqp d l≤U.jB2 d:=by
  unfold U.wN;rw[jGT,jGT,jHo,jzh hn,decide_eq_true_iff]
theorem jpq (d:DyD) (p:Int) {l l':List Int} (h:l.Perm l') (hn:l.Nodup):U.wN d p l=U.wN d p l':=by
  have hn':=h.nodup_iff.1 hn;refine jHk.2 ?_;rw[jqY d p hn,jqY d p hn',jzN h,h.pairwise_iff (fun h=>TgR.symm h)];exact⟨fun⟨h1,h2⟩=>⟨fun b hb=>h1 b (h.mem_iff.2 hb),h2⟩,fun⟨h1,h2⟩=>⟨fun b hb=>h1 b (h.mem_iff.1 hb),h2⟩⟩
theorem jCF (d:DyD) (may:List Int) (p:Int) (s:List Int):U.jEG d may p s=true↔(∀b∈s,decide (ya (nth may b.toNat/2^p.toNat) 1=0)=false)∧s.Pairwise (fun a b=>0≤U.vR d a b)∧U.jqp d s≤U.jB2 d:=by
  rw[←jzi];unfold U.jEG;rw[jGT,decide_eq_true_iff,jHo,←and_assoc];refine and_congr_left fun _=> ?_
  have e:∀i,U.jqj d may p s i=true↔decide (ya (nth may (nth s i).toNat/2^p.toNat) 1=0)=false∧∀b∈s.drop (i+1),0≤U.vR d (nth s i) b:=by
    intro i;unfold U.jqj;rw[jHt,jHl,jHC];refine and_congr_right fun _=>⟨fun h b hb=> ?_,fun h b hb=> ?_⟩
    · have:=h b hb;simp at this;omega
    · have:=h b hb;simp;omega
  refine⟨fun h=>⟨fun b hb=> ?_,fun i hi=>((e i).1 (h i (jG9.2 hi))).2⟩,fun h i hi=>(e i).2 ⟨h.1 _ (L.mem_nth (jG9.1 hi)),h.2 i (jG9.1 hi)⟩⟩;obtain⟨i,hi,rfl⟩:=L.mem_iff.1 hb;exact((e i).1 (h i (jG9.2 hi))).1
theorem jEH {d:DyD} {may:List Int} {p:Int} {l:List Int} (hn:l.Nodup) (hm:∀b∈l,decide (ya (nth may b.toNat/2^p.toNat) 1=0)= !U.kd (U.jo d) (U.jaL (U.bk d b)) p):U.jvb d may p l=U.wN d p l:=by
  have hp:(U.jr d l).Perm l:=zi l;have hns:(U.jr d l).Nodup:=hp.nodup_iff.2 hn;have ha:(U.jr d l).Pairwise (fun a b=>U.qC d b a=false):=jaY (jA9 d l);rw[←jpq d p hp hns];unfold U.jvb;refine jHk.2 ?_;rw[jCF,jqY d p hns];have hH:=List.Pairwise.and ha hns;refine and_congr ⟨fun h b hb=> ?_,fun h b hb=> ?_⟩ (and_congr_left fun _=>⟨fun h=> ?_,fun h=> ?_⟩)
  · have h1:=h b hb;rw[hm b (hp.mem_iff.1 hb)] at h1;simpa using h1
  · rw[hm b (hp.mem_iff.1 hb),h b hb];rfl
  · refine(List.Pairwise.and hH h).imp fun{a b} x _=> ?_
    rw[(jhc (jns x.1.2 x.1.1)).1];exact decide_eq_true x.2
  · refine(List.Pairwise.and hH h).imp fun{a b} x=> ?_
    have:=x.2 x.1.2;rw[(jhc (jns x.1.2 x.1.1)).1] at this;exact of_decide_eq_true this
end Go.X
namespace Go.X
theorem jdQ (a b:ShD):U.zx a b=true↔(U.jnv b<U.jnv a∨(U.jnv a=U.jnv b∧U.wG b<U.wG a)):=decide_eq_true_iff
theorem jhH (a b:ShD):U.zx a b=false↔¬(U.jnv b<U.jnv a∨(U.jnv a=U.jnv b∧U.wG b<U.wG a)):=decide_eq_false_iff_not
theorem jal (a:ShD):U.zx a a=false:=(jhH a a).2 (by omega)
theorem jo7 {a b:ShD} (h:U.zx a b=true):U.zx b a=false:=by
  have h:=(jdQ a b).1 h;exact(jhH b a).2 (by omega)
theorem jmy {a b c:ShD} (h1:U.zx a b=true) (h2:U.zx b c=true):U.zx a c=true:=by
  have h1:=(jdQ a b).1 h1;have h2:=(jdQ b c).1 h2;exact(jdQ a c).2 (by omega)
theorem jCD (a b:ShD):U.ju a b<0↔U.zx b a=true:=by
  rw[jdQ];unfold U.ju;rw[zo,wK]
  split
  · rename_i h;have hne:¬U.jnv a=U.jnv b:=fun e=>h (yH.2 e)
    rw[jAO];omega
  · rename_i h;have he:U.jnv a=U.jnv b:=yH.1 (Classical.not_not.1 h);rw[jAO];omega
theorem jEP {l:List ShD} (hi:∀a∈l,∀b∈l,U.wG a=U.wG b→a=b):kQ U.jEO l where
  irrefl x _:=jal x
  trans x y z _ _ _ h1 h2:=jmy h2 h1
  total x y hx hy h1 h2:=by
    have h1:=(jhH y x).1 h1;have h2:=(jhH x y).1 h2;exact hi x hx y hy (by omega)
theorem jAs {l:List ShD}:∀i,i<l.length→∃j,j<l.length∧nth l j=nth l i∧U.jd6 l j=true:=by
  intro i
  induction i using Nat.strongRecOn with
  |_ i ih=>
    intro hi;cases h:U.jd6 l i with
    |true=>exact⟨i,hi,rfl,h⟩
    |false=>
      simp only[U.jd6,jHN] at h;obtain⟨x,hx,e⟩:=jHz.1 h;obtain⟨k,hk,rfl⟩:=jHx.1 hx;have e:l[k]=nth l i:=of_decide_eq_true e;obtain⟨j,hj,e1,e2⟩:=ih k (by omega) (by omega);exact⟨j,hj,by rw[e1,L.nth_lt (by omega)];exact e,e2⟩
theorem jEv {l:List ShD} {s:ShD} (h:s∈l) (h0:0≤U.wG s) (h1:U.wG s≤99):s∈U.je l:=by
  obtain⟨i,hi,rfl⟩:=L.mem_iff.1 h;obtain⟨j,hj,e1,e2⟩:=jAs i hi;unfold U.je U.z6;refine List.mem_flatMap.2 ⟨(U.wG (nth l i)).toNat,jG9.2 (by omega),?_⟩;unfold U.gE;refine jHs.2 ⟨j,jHg.2 ⟨jG9.2 hj,?_⟩,e1⟩;show(decide (U.wG (nth l j)=(((U.wG (nth l i)).toNat:Nat):Int))&&U.jd6 l j)=true;rw[e2,e1,Bool.and_true];exact decide_eq_true (by omega)
theorem jws {l:List ShD} {n m:Nat} {s:ShD} (h:s∈U.gE l n m):U.wG s=(m:Int):=by
  unfold U.gE at h;obtain⟨i,hi,rfl⟩:=jHs.1 h;have h2:=(jHg.1 hi).2;rw[jGT] at h2;exact of_decide_eq_true h2.1
theorem jpn (l:List ShD):(U.je l).Nodup:=by
  unfold U.je U.z6;refine List.pairwise_flatMap.2 ⟨fun m _=> ?_,?_⟩
  · unfold U.gE;refine List.pairwise_map.2 (List.Pairwise.imp_of_mem ?_ (List.Pairwise.filter _ jIi));intro i j hi hj hij e;have hj:=jHg.1 hj;have h2:=hj.2;rw[jGT] at h2;have hf:=h2.2;have hjl:=jG9.1 hj.1;have ht:((l.take j).any (fun x=>decide (x=nth l j)))=true:=
      jHz.2 ⟨nth l i,jHx.2 ⟨i,by omega,(L.nth_lt (by omega)).symm⟩,decide_eq_true e⟩
    unfold U.jd6 at hf;rw[ht] at hf;cases hf
  · refine List.Pairwise.imp ?_ jIi;intro a b hab x hx y hy e;have h1:=jws hx;have h2:=jws hy;rw[e] at h1;omega
theorem jvJ (t s:ShD):U.ja0 t=U.ja0 s↔U.jcZ t=U.jcZ s∧U.qD t=U.qD s:=by
  unfold U.ja0;refine⟨fun h=>⟨congrArg (·.1) h,congrArg (·.2.1) h⟩,fun h=>by rw[h.1,h.2]⟩
theorem ju7 (l:List ShD) (s:ShD):U.jkV l s=true↔U.jyN s=1∧∀t∈l,U.ja0 t=U.ja0 s→U.zx t s=false:=by
  unfold U.jkV;rw[jGT,decide_eq_true_iff,jHt,jHC];refine and_congr_right fun _=>⟨fun h t ht e=> ?_,fun h t ht e=> ?_⟩
  · have e:=(jvJ t s).1 e;have:=h t ht;rw[e.1,e.2,decide_eq_true rfl,decide_eq_true rfl] at this;simpa using this
  · rw[jGT,jGT,decide_eq_true_iff,decide_eq_true_iff] at e;rw[h t ht ((jvJ t s).2 e.1)] at e;exact absurd e.2 (by simp)
theorem jtz (d:DyD):U.yR d=(U.je (U.jT d)).filter (U.jkV (U.je (U.jT d))):=by
  unfold U.yR;generalize U.je (U.jT d)=l;unfold U.jp;have e:(fun i=>U.kw l i l.length)=(U.jkV l)∘(nth l):=by
    funext i;unfold U.kw;rw[jHS];rfl
  rw[e];have:=List.filter_map (f:=nth l) (p:=U.jkV l) (l:=List.range l.length);rw[←this,L.range_map_nth]
theorem jsl (l:List ShD):∀n,∀i,i<n→U.zx (nth l (U.jD l n)) (nth l i)=false
  |0,i,h=>absurd h (by omega)
  |n+1,i,h=>by
    have ih:=jsl l n
    rw[jiR]
    split
    · rename_i hl
      rcases Nat.lt_succ_iff_lt_or_eq.1 h with h|h
      · cases h2:U.zx (nth l n) (nth l i) with
        |false=>rfl
        |true=>have:=jmy hl h2;rw[ih i h] at this;cases this
      · subst h;exact jal _
    · rename_i hl
      rcases Nat.lt_succ_iff_lt_or_eq.1 h with h|h
      · exact ih i h
      · subst h;simpa using hl
theorem jyS (l:List ShD):∀n,n≤l.length→(U.jh l n).1.Pairwise (fun a b=>U.zx a b=false)∧∀a∈(U.jh l n).1,∀b∈(U.jh l n).2,U.zx a b=false
  |0,_=>⟨List.Pairwise.nil,fun a ha=>by cases ha⟩
  |n+1,hn=>by
    obtain⟨i1,i2⟩:=jyS l n (by omega)
    have hl:=jep l n (by omega)
    have hm:=jex (U.jh l n).2 _ (jGU _) (by omega)
    have hmin:=jsl (U.jh l n).2 (U.jh l n).2.length
    have hsub:∀b∈(U.jh l n).2.take (U.jD (U.jh l n).2 (U.jh l n).2.length)++(U.jh l n).2.drop (U.jD (U.jh l n).2 (U.jh l n).2.length+1),b∈(U.jh l n).2:=by
      intro b hb;rcases jG1.1 hb with hb|hb
      · exact jIb hb
      · exact jIa hb
    refine⟨List.pairwise_append.2 ⟨i1,List.pairwise_singleton _ _,fun a ha b hb=> ?_⟩,fun a ha b hb=> ?_⟩
    · simp at hb;subst hb;exact i2 a ha _ (L.mem_nth hm)
    · have hb:=hsub b hb;have ha:a∈(U.jh l n).1++[nth (U.jh l n).2 (U.jD (U.jh l n).2 (U.jh l n).2.length)]:=ha;rcases jG1.1 ha with ha|ha
      · exact i2 a ha b hb
      · simp at ha;subst ha;obtain⟨i,hi,rfl⟩:=L.mem_iff.1 hb;exact hmin i hi
theorem jDz (d:DyD):jye U.jEO (U.zr d):=(jyS (U.yR d) _ (jGU _)).1
theorem jpB (d:DyD):(U.zr d).Perm (U.yR d):=by
  have hp:=jlX (U.yR d) (U.yR d).length (jGU _);have hl:=(jep (U.yR d) (U.yR d).length (jGU _)).2;have:(U.jh (U.yR d) (U.yR d).length).2=[]:=List.length_eq_zero_iff.1 (by omega);rw[this,jHf] at hp;exact hp
theorem jwa {l:List ShD} (hs:l.Pairwise (fun a b=>U.zx b a=true)):∀n,n≤l.length→∀s∈l.take n,(wc (Ty.dflt tSh) (zC tSt (U.ja0 s) (U.zD l n))=s↔∀t∈l.take n,U.ja0 t=U.ja0 s→U.zx t s=false)
  |0,_,s,hm=>by simp at hm
  |n+1,hn,s,hm=>by
    have ih:=jwa hs n (by omega)
    have hp:(l.take (n+1)).Pairwise (fun a b=>U.zx b a=true):=hs.sublist (List.take_sublist _ _)
    rw[L.take_succ (by omega)] at hp hm
    have hlat:∀t∈l.take n,U.zx (nth l n) t=true:=fun t ht=>(List.pairwise_append.1 hp).2.2 t ht _ (by simp)
    rw[jmz (by omega),L.take_succ (by omega)]
    by_cases hk:U.ja0 s=U.ja0 (nth l n)
    · rw[hk,M.mfind_mput]
      show nth l n=s↔_
      rcases jG1.1 hm with hm|hm
      · refine⟨fun e=> ?_,fun h=> ?_⟩
        · have:=hlat s hm
          rw[e,jal] at this;cases this
        · have:=h (nth l n) (by simp) rfl
          rw[hlat s hm] at this;cases this
      · simp at hm;subst hm
        refine⟨fun _ t ht _=> ?_,fun _=>rfl⟩
        rcases jG1.1 ht with ht|ht
        · exact jo7 (hlat t ht)
        · simp at ht;subst ht;exact jal _
    · rw[M.mfind_mput_ne hk]
      have hm:s∈l.take n:=by
        rcases jG1.1 hm with hm|hm
        · exact hm
        · simp at hm;subst hm;exact absurd rfl hk
      rw[ih s hm];refine⟨fun h t ht e=> ?_,fun h t ht=>h t (jGR _ ht)⟩;rcases jG1.1 ht with ht|ht
      · exact h t ht e
      · simp at ht;subst ht;exact absurd e.symm hk
theorem jyP {d:DyD} (h:U.jI d=0):(U.zM d).Pairwise (fun a b=>U.zx b a=true):=by
  have ho:=jGz h;have ha:jye (U.jg tSh fun x=>(U.ju x.1 x.2.1,())) (U.zM d):=jaY ho;have hm:∀s∈U.zM d,s∈U.jV (U.jT d):=fun s hs=>(zi _).mem_iff.1 hs
  refine List.Pairwise.imp_of_mem ?_ (List.Pairwise.and ha (jaZ d));intro a b ia ib ⟨h1,h2⟩;cases h3:U.jg tSh (fun x=>(U.ju x.1 x.2.1,())) a b with
  |false=>exact absurd (ho.total a b (hm a ia) (hm b ib) h3 h1) h2
  |true=>
    have h3:U.ju a b<0:=of_decide_eq_true h3;exact(jCD a b).1 h3
theorem jsZ {d:DyD} (h:U.jI d=0) {s:ShD} (hs:s∈U.zM d):U.kK (U.zD (U.zM d) (U.zM d).length) s=true↔U.jyN s=1∧∀t∈U.zM d,U.ja0 t=U.ja0 s→U.zx t s=false:=by
  have:=jwa (jyP h) (U.zM d).length (jGU _) s (by rw[jHS];exact hs);rw[jHS] at this;rw[←this];unfold U.kK;rw[jHt,jHl,jHN,jHN,decide_eq_true_iff,decide_eq_true_iff];exact and_comm
theorem jrD {d:DyD} (h:U.kg d=true) {s:ShD} (hs:s∈U.jT d):0≤U.wG s∧U.wG s≤99:=by
  have:=(zm h).2.2.2.2.2.2.2 _ hs;unfold U.jdN at this;have:=of_decide_eq_true this;omega
def jBn (d:DyD):ShD→Bool:=U.kK (U.zD (U.zM d) (U.zM d).length)
theorem jFc {d:DyD} (h:U.jI d=0):(U.zM d).filter (jBn d)=U.zr d:=by
  have hf:=wn h;have hin:∀s,s∈U.je (U.jT d)↔s∈U.zM d:=fun s=>⟨fun hs=>jbQ.2 (jeG hs),fun hs=>by
    have hs:=jbQ.1 hs;have:=jrD hf.1.2.2 hs;exact jEv hs this.1 this.2⟩
  have hiff:∀s,s∈(U.zM d).filter (jBn d)↔s∈U.zr d:=by
    intro s;rw[(jpB d).mem_iff,jtz,jHg,jHg,hin s];refine and_congr_right fun hs=> ?_
    rw[ju7];have:=jsZ h hs;refine this.trans (and_congr_right fun _=>⟨fun h t ht=>h t ((hin t).1 ht),fun h t ht=>h t ((hin t).2 ht)⟩)
  have n1:((U.zM d).filter (jBn d)).Nodup:=List.Pairwise.filter _ (jaZ d);have n2:(U.zr d).Nodup:=(jpB d).nodup_iff.2 (by rw[jtz];exact List.Pairwise.filter _ (jpn _));have hp:=L.perm_of_nodup n1 n2 hiff;refine jgI (jEP ?_) hp ?_ (jDz d)
  · intro a ha b hb e;exact hf.2 a (jbQ.1 (jHg.1 ha).1) b (jbQ.1 (jHg.1 hb).1) e
  · exact(List.Pairwise.filter _ (jyP h)).imp fun x=>jo7 x
end Go.X
namespace Go.X
namespace U
def gm (r:List Int) (m n:Nat):List Int:=(r.take n).filter (fun x=>decide (x=(m:Int)))
def zU (r:List Int) (n:Nat):List Int:=(List.range n).flatMap (fun m=>gm r m r.length)
end U
structure joq (d:DyD) (x:List (List Int)×List Int) (y:List Int×List Int):Prop where
  ref:x.2=y.2
  len:y.1.length=(U.jv d).length
  set:∀b,b<(U.jv d).length→BT.Set' (nth y.1 b)
  bit:∀b,b<(U.jv d).length→∀p,BT.has (nth y.1 b) p=true↔p<(U.ji (U.jo d)).length∧(b:Int)∈nth x.1 p
theorem jqx {t:Int} (h:BT.Set' t) (p:Int):U.kf t p=BT.has t p.toNat:=BT.has_shr h p.toNat
theorem jFo {d:DyD} {x:List (List Int)×List Int} {y:List Int×List Int} (h:joq d x y) {p:Int} (hp:U.jsh d p) (hb:∀b∈nth x.1 p.toNat,U.qo d b) (n:Int):n∈U.on y.1 p↔n∈nth x.1 p.toNat:=by
  unfold U.jsh at hp;unfold U.on U.jeY;rw[jHs];refine⟨fun⟨i,hi,e⟩=> ?_,fun hn=> ?_⟩
  · subst e;have hi:=jHg.1 hi;have hl:=jG9.1 hi.1;rw[h.len] at hl;have h2:U.kf (nth y.1 i) p=true:=hi.2;rw[jqx (h.set i hl)] at h2;exact((h.bit i hl p.toNat).1 h2).2
  · have hk:=hb n hn;unfold U.qo at hk;have en:((n.toNat:Nat):Int)=n:=(by omega);refine⟨n.toNat,jHg.2 ⟨jG9.2 (by rw[h.len];omega),?_⟩,en⟩;show U.kf (nth y.1 n.toNat) p=true;rw[jqx (h.set _ (by omega))];exact(h.bit _ (by omega) _).2 ⟨by omega,by rw[en];exact hn⟩
theorem jBQ (t:List Int) (p:Int):(U.on t p).Nodup:=by
  unfold U.on U.jeY;refine List.pairwise_map.2 ((List.Pairwise.filter _ jIi).imp ?_);intro a b hab e;omega
theorem jD1 {d:DyD} {x:List (List Int)×List Int} {y:List Int×List Int} (h:joq d x y) {p:Int} (hp:U.jsh d p) (hn:(nth x.1 p.toNat).Nodup) (hb:∀b∈nth x.1 p.toNat,U.qo d b):(nth x.1 p.toNat).Perm (U.on y.1 p):=
  L.perm_of_nodup hn (jBQ _ _) (fun n=>(jFo h hp hb n).symm)
theorem jFR {d:DyD} (hD:U.jn5 d) {x:List (List Int)×List Int} {y:List Int×List Int} (h:joq d x y) {p b:Int} (hp:U.jsh d p) (hn:(nth x.1 p.toNat++[b]).Nodup) (hb:∀c∈nth x.1 p.toNat++[b],U.qo d c):
    U.jvb d (U.kH d (U.jv d).length) p (nth x.1 p.toNat++[b])=U.wN d p (U.on y.1 p++[b]):=by
  rw[jEH hn (fun c hc=>jEb hD (hb c hc) hp)];exact jpq d p ((jD1 h hp (jHW.1 hn).1 (fun c hc=>hb c (jGR _ hc))).append_right [b]) hn
theorem jFi {d:DyD} {x:List (List Int)×List Int} {y:List Int×List Int} (h:joq d x y) (hx:x.1.length=(U.ji (U.jo d)).length) (h8:(U.ji (U.jo d)).length≤8) {p b:Int} (hp:U.jsh d p) (hb:U.qo d b) (hnew:b∉nth x.1 p.toNat):
    joq d (x.1.set p.toNat (nth x.1 p.toNat++[b]),x.2) (y.1.set b.toNat (nth y.1 b.toNat+2^p.toNat),y.2):=by
  unfold U.jsh at hp;unfold U.qo at hb;have eb:((b.toNat:Nat):Int)=b:=(by omega);have hbl:b.toNat<y.1.length:=(by rw[h.len];omega);have hpl:p.toNat<x.1.length:=(by omega);have hs:=h.set b.toNat (by omega);have hno:BT.has (nth y.1 b.toNat) p.toNat=false:=by
    cases h2:BT.has (nth y.1 b.toNat) p.toNat with
    |false=>rfl
    |true=>exact absurd (by have:=((h.bit _ (by omega) _).1 h2).2;rw[eb] at this;exact this) hnew
  have hadd:=BT.add_two hs (p:=p.toNat) (by omega) hno;have h2:=BT.two_set (k:=p.toNat) (by omega);refine⟨h.ref,by show(y.1.set _ _).length=_;rw[jIe];exact h.len,fun c hc=> ?_,fun c hc q=> ?_⟩
  · show BT.Set' (nth (y.1.set b.toNat (nth y.1 b.toNat+2^p.toNat)) c);rw[L.nth_set hbl]
    split
    · rw[hadd];exact BT.bor_set hs h2
    · exact h.set c hc
  · show BT.has (nth (y.1.set b.toNat (nth y.1 b.toNat+2^p.toNat)) c) q=true↔_∧(c:Int)∈nth (x.1.set p.toNat (nth x.1 p.toNat++[b])) q;rw[L.nth_set hbl,L.nth_set hpl];by_cases hc':b.toNat=c
    · rw[if_pos hc',hadd,BT.has_bor hs h2,BT.has_two,jHY,decide_eq_true_iff,h.bit _ (by omega),←hc',eb];by_cases hq:p.toNat=q
      · rw[if_pos hq];refine⟨fun _=>⟨by omega,by simp⟩,fun _=> .inr hq⟩
      · rw[if_neg hq];exact⟨fun h=>h.elim id (fun h=>absurd h hq),.inl⟩
    · rw[if_neg hc',h.bit c hc];by_cases hq:p.toNat=q
      · rw[if_pos hq,jG1,←hq];refine and_congr_right fun _=>⟨.inl,fun h=>h.elim id (fun h=> ?_)⟩
        simp at h;omega
      · rw[if_neg hq]
theorem jBG (d:DyD):joq d (U.kN (U.jtr d) (U.zM d) 0) (List.replicate (U.jv d).length 0,[]):=by
  have hz:∀b,b<(U.jv d).length→nth (List.replicate (U.jv d).length (0:Int)) b=0:=fun b hb=>L.nth_rep hb
  refine⟨rfl,jHL,fun b hb=> ?_,fun b hb p=> ?_⟩
  · show BT.Set' (nth (List.replicate (U.jv d).length (0:Int)) b);rw[hz b hb];exact BT.zero_set
  · show BT.has (nth (List.replicate (U.jv d).length (0:Int)) b) p=true↔_∧(b:Int)∈nth (U.jE5 d) p;rw[hz b hb,BT.has_zero];have hn:U.jD6 (U.jE5 d):=fun x hx=>(List.mem_replicate.1 hx).2
    have e:nth (U.jE5 d) p=[]:=jv4 hn p;rw[e];simp
def jAL (d:DyD) (i:Nat):List Int×List Int:=(((U.zM d).take i).filter (jBn d)).foldl (U.vl d) (List.replicate (U.jv d).length 0,[])
attribute [local irreducible] U.kN U.wN U.jvb U.on jAL U.zM jBn U.jtr U.kH in
theorem jBH {d:DyD} (h:U.jI d=0) {i:Nat} (hi:i<(U.zM d).length) (ih:joq d (U.kN (U.jtr d) (U.zM d) i) (jAL d i)) (hinv:U.gX (U.jtr d) (U.zM d) i (U.kN (U.jtr d) (U.zM d) i)) (hrd:U.rd (U.jtr d)=d) (hml:U.jb5 (U.jtr d)=U.kH d (U.jv d).length)
    (hx:(U.kN (U.jtr d) (U.zM d) i).1.length=(U.ji (U.jo d)).length) (hdec:jBn d=U.kK (U.zD (U.zM d) (U.zM d).length)) (hft:jAL d (i+1)=if jBn d (nth (U.zM d) i)=true then U.vl d (jAL d i) (nth (U.zM d) i) else jAL d i)
    (hnew:jBn d (nth (U.zM d) i)=true→(nth (U.kN (U.jtr d) (U.zM d) i).1 (U.qD (nth (U.zM d) i)).toNat++[U.jcZ (nth (U.zM d) i)]).Nodup∧∀b∈nth (U.kN (U.jtr d) (U.zM d) i).1 (U.qD (nth (U.zM d) i)).toNat++[U.jcZ (nth (U.zM d) i)],U.qo d b):
    joq d (U.kN (U.jtr d) (U.zM d) (i+1)) (jAL d (i+1)):=by
  have hD:=(wn h).1
  have h8:(U.ji (U.jo d)).length≤8:=(jG hD.1).2.2.1
  have hsf:=jeo hD.2.2 (jbQ.1 (L.mem_nth (l:=U.zM d) (i:=i) hi))
  rw[hft]
  cases hc:jBn d (nth (U.zM d) i) with
  |false=>
    rw[hdec] at hc
    rw[jvB hi hc,if_neg (by simp)]
    exact ih
  |true=>
    have hn:=hnew hc
    have hcan:=jFR hD ih (p:=U.qD (nth (U.zM d) i)) (b:=U.jcZ (nth (U.zM d) i)) hsf.1 hn.1 hn.2
    rw[hdec] at hc
    rw[if_pos rfl]
    unfold U.vl
    cases hk:U.wN d (U.qD (nth (U.zM d) i)) (U.on (jAL d i).1 (U.qD (nth (U.zM d) i))++[U.jcZ (nth (U.zM d) i)]) with
    |true=>
      rw[hk] at hcan
      rw[jyG hi hc (by rw[hrd,hml];exact hcan),if_pos rfl]
      refine jFi ih hx h8 hsf.1 hsf.2 (fun hin=> ?_)
      exact(jHW.1 hn.1).2.2 _ hin _ (by simp) rfl
    |false=>
      rw[hk] at hcan
      rw[jCX hi hc (by rw[hrd,hml];exact hcan),if_neg (by simp)]
      exact⟨congrArg (·++[U.wG (nth (U.zM d) i)]) ih.ref,ih.len,ih.set,ih.bit⟩
theorem jy8 {d:DyD} (h:U.jI d=0):∀i,i≤(U.zM d).length→joq d (U.kN (U.jtr d) (U.zM d) i) (jAL d i)
  |0,_=>jBG d
  |i+1,hi=>by
    have ih:=jy8 h i (by omega)
    obtain⟨⟨_,hm⟩,⟨ho,hni⟩,hrf⟩:=jy1 h
    have hD:=(wn h).1
    have hinv:=jtK (r:=U.jtr d) (l:=U.zM d) hD.2.2 (fun s hs=>jbQ.1 hs) (jaZ d) ho hni hrf i (by omega)
    refine jBH h hi ih hinv rfl rfl hinv.1 rfl ?_ fun hc=> ?_
    · unfold jAL
      rw[L.filter_take (p:=jBn d) (l:=U.zM d) (i:=i) hi,jHp]
      split<;>rfl
    · have:=jyF (r:=U.jtr d) (l:=U.zM d) hD.2.2 (fun s hs=>jbQ.1 hs) (jaZ d) hi hinv hc
      exact⟨this.1,this.2.1⟩
theorem jCy {d:DyD} (h:U.jI d=0):jAL d (U.zM d).length=U.kW d:=by
  unfold jAL U.kW U.jA;rw[jHS,jHS,jFc h]
theorem jiF {d:DyD} (h:U.jI d=0):joq d (U.wP (U.jra d),(U.kN (U.jtr d) (U.zM d) (U.zM d).length).2) (U.kW d):=by
  have:=jy8 h _ (jGU _);rw[jCy h] at this;exact⟨this.ref,this.len,this.set,this.bit⟩
theorem jvz (on:List (List Int)) (b:Int):∀n,n≤60→BT.Set' (U.vi on b n)∧∀q,BT.has (U.vi on b n) q=true↔q<n∧b∈nth on q
  |0,_=>⟨BT.zero_set,fun q=>by
    have:U.vi on b 0=0:=rfl
    rw[this,BT.has_zero];simp⟩
  |n+1,hn=>by
    obtain⟨i1,i2⟩:=jvz on b n (by omega)
    have h2:=BT.two_set (k:=n) (by omega)
    have hiff:(nth on n).any (fun x=>decide (x=b))=true↔b∈nth on n:=by
      rw[jHz];exact⟨fun⟨x,hx,e⟩=>(of_decide_eq_true e)▸hx,fun hb=>⟨b,hb,decide_eq_true rfl⟩⟩
    rw[jlJ]
    split
    · rename_i hc;have hc:=hiff.1 hc;rw[gq];refine⟨BT.bor_set i1 h2,fun q=> ?_⟩;rw[BT.has_bor i1 h2,BT.has_two,jHY,decide_eq_true_iff,i2];refine⟨fun h=>h.elim (fun h=>⟨by omega,h.2⟩) (fun h=>by subst h;exact⟨by omega,hc⟩),fun h=> ?_⟩;by_cases hq:q=n
      · exact .inr hq.symm
      · exact .inl ⟨by omega,h.2⟩
    · rename_i hc;refine⟨i1,fun q=> ?_⟩;rw[i2];refine⟨fun h=>⟨by omega,h.2⟩,fun h=>⟨?_,h.2⟩⟩;by_cases hq:q=n
      · subst hq;exact absurd (hiff.2 h.2) hc
      · omega
theorem jyu {d:DyD} (h:U.jI d=0) {b:Nat} (hb:b<(U.jv d).length):U.jav (U.wP (U.jra d)) (b:Int)=nth (U.kW d).1 b:=by
  have hr:=jiF h;have ho:=jrI h;have ht:=jvz (U.wP (U.jra d)) (b:Int) (U.wP (U.jra d)).length ho.len60;refine BT.ext ht.1 (hr.set b hb) fun p=>jHk.2 ?_
  have e:=(ht.2 p).trans (hr.bit b hb p|>.trans (by rw[←ho.len])).symm;exact e
theorem jFf {d:DyD} (h:U.jI d=0):U.va d (U.jv d).length=(U.kW d).1:=by
  have hr:=jiF h;have hl:(U.va d (U.jv d).length).length=(U.jv d).length:=(by unfold U.va;simp);refine L.ext_nth (by rw[hl];exact hr.len.symm) fun i hi=> ?_
  rw[hl] at hi;unfold U.va;rw[L.nth_map (by simpa using hi)];have:nth (List.range (U.jv d).length) i=i:=(by rw[L.nth_lt (by simpa using hi)];simp);rw[this];exact jyu h hi
theorem jyq (d:DyD):U.jir d=if U.kM d=0 then(U.kW d).1 else[]:=by
  unfold U.jir;rw[jbr]
  split
  · rename_i h;exact jFf ((jbr d).trans h)
  · rfl
theorem jza (d:DyD):∀n,n≤(U.zr d).length→(U.jA d n).2.Sublist (((U.zr d).take n).map U.wG)
  |0,_=>List.nil_sublist _
  |n+1,hn=>by
    have ih:=jza d n (by omega)
    rw[jpS (by omega),L.take_succ (by omega),jHF]
    unfold U.vl
    split
    · exact ih.trans (List.sublist_append_left _ _)
    · exact List.Sublist.append ih (List.Sublist.refl _)
theorem jzb {d:DyD} (h:U.jI d=0):(U.kW d).2.Nodup∧∀x∈(U.kW d).2,0≤x∧x≤99:=by
  have hs:=jza d _ (jGU _);rw[jHS] at hs;have hf:=wn h;have n2:(U.zr d).Nodup:=(jpB d).nodup_iff.2 (by rw[jtz];exact List.Pairwise.filter _ (jpn _));refine⟨List.Pairwise.sublist hs (List.pairwise_map.2 (List.Pairwise.imp_of_mem ?_ n2)),fun x hx=> ?_⟩
  · intro a b ha hb hne e;exact hne (hf.2 a (jeG (jk3 ha)) b (jeG (jk3 hb)) e)
  · obtain⟨s,hs,rfl⟩:=jHs.1 (hs.subset hx);exact jrD hf.1.2.2 (jeG (jk3 hs))
theorem jwV {r:List Int} (hn:r.Nodup) (h:∀x∈r,0≤x∧x≤99):U.zU r 100=U.jhh r:=by
  have e:∀m,U.gm r m r.length=r.filter (fun x=>decide (x=(m:Int))):=fun m=>by unfold U.gm;rw[jHS]
  have hm:∀m x,x∈U.gm r m r.length→x=(m:Int)∧x∈r:=fun m x hx=>by
    rw[e m] at hx;have:=jHg.1 hx;exact⟨of_decide_eq_true this.2,this.1⟩
  have hasc:(U.zU r 100).Pairwise (fun a b=>a≤b):=by
    unfold U.zU;refine List.pairwise_flatMap.2 ⟨fun m _=> ?_,List.Pairwise.imp ?_ jIi⟩
    · refine List.Pairwise.imp_of_mem ?_ (R:=fun _ _=>True) (List.pairwise_of_forall (fun _ _=>trivial));intro a b ha hb _;have:=(hm m a ha).1;have:=(hm m b hb).1;omega
    · intro a b hab x hx y hy;have:=(hm a x hx).1;have:=(hm b y hy).1;omega
  have hnd:(U.zU r 100).Nodup:=by
    unfold U.zU;refine List.pairwise_flatMap.2 ⟨fun m _=> ?_,List.Pairwise.imp ?_ jIi⟩
    · rw[e m];exact List.Pairwise.filter _ hn
    · intro a b hab x hx y hy exy;have:=(hm a x hx).1;have:=(hm b y hy).1;omega
  have hp:(U.zU r 100).Perm r:=L.perm_of_nodup hnd hn fun x=>by
    unfold U.zU;rw[List.mem_flatMap];refine⟨fun⟨m,_,hx⟩=>(hm m x hx).2,fun hx=> ?_⟩;have hr:=h x hx;refine⟨x.toNat,jG9.2 (by omega),?_⟩;rw[e];exact jHg.2 ⟨hx,decide_eq_true (by omega)⟩
  exact jfq (hp.trans (jiB r).symm) hasc (jyJ r)
theorem jy5 (d:DyD):U.jiG d=if U.kM d=0 then U.zU (U.kW d).2 100 else[]:=by
  unfold U.jiG;rw[jbr]
  split
  · rename_i h;have h:=(jbr d).trans h;have hf:=jzb h;rw[jwV hf.1 hf.2,←(jiF h).ref];rfl
  · rfl
end Go.X
namespace Go.X
open Go.Proofs
theorem jwG (l:List ShD) (n:Nat):U.jp l (n+1)=U.jp l n++(if U.kw l n l.length=true then[nth l n] else[]):=by
  unfold U.jp;rw[L.range_filter_succ,jHF];by_cases h:U.kw l n l.length=true
  · rw[if_pos h,if_pos h];rfl
  · rw[if_neg h,if_neg h];rfl
theorem jrd (l:List ShD) (n:Nat):(U.jp l n).length≤n:=by
  unfold U.jp;rw[jHO];exact jG5 (jHM _ _) (by simp)
theorem jur {l:List ShD} {i k:Nat} (h:k<l.length):U.kw l i (k+1)=(U.kw l i k&& !(decide (U.jcZ (nth l k)=U.jcZ (nth l i))&&decide (U.qD (nth l k)=U.qD (nth l i))&&U.zx (nth l k) (nth l i))):=by
  unfold U.kw;rw[L.take_succ h,List.any_append];generalize (l.take k).any _=a;generalize decide (U.jyN (nth l i)=1)=b;simp only[List.any_cons,List.any_nil,Bool.or_false];generalize (decide (U.jcZ (nth l k)=U.jcZ (nth l i))&&decide (U.qD (nth l k)=U.qD (nth l i))&&U.zx (nth l k) (nth l i))=c;cases a<;>cases b<;>cases c<;>rfl
theorem jwF (l:List ShD):U.jp l 0=[]:=rfl
theorem jrF (l:List ShD):U.jh l 0=([],l):=rfl
theorem jxd (l:List ShD):U.jD l 0=0:=rfl
theorem jwR (l:List ShD) (n:Nat):(U.jh l (n+1)).1=(U.jh l n).1++[nth (U.jh l n).2 (U.jD (U.jh l n).2 (U.jh l n).2.length)]:=rfl
theorem jwQ (l:List ShD) (n:Nat):(U.jh l (n+1)).2=(U.jh l n).2.take (U.jD (U.jh l n).2 (U.jh l n).2.length)++(U.jh l n).2.drop (U.jD (U.jh l n).2 (U.jh l n).2.length+1):=rfl
theorem jCA {α:Type} (l:List α) (m:Nat):[]++List.take (((m:Int)).toNat-Int.toNat 0) (List.drop (Int.toNat 0) l)++List.take (((l.length:Int)).toNat-((m:Int)+1).toNat) (List.drop ((m:Int)+1).toNat l)=l.take m++l.drop (m+1):=by
  have e1:((m:Int)+1).toNat=m+1:=(by omega);have e2:Int.toNat 0=0:=rfl;rw[e1,e2,jGX,jGX,List.drop_zero,Nat.sub_zero,jHh,jHH (l:=List.drop (m+1) l) (by rw[jHR];omega)]
theorem jDy (d:DyD):U.jp (U.je (U.jT d)) (U.je (U.jT d)).length=U.yR d:=rfl
theorem jDx (d:DyD):(U.jh (U.yR d) (U.yR d).length).1=U.zr d:=rfl
attribute [local irreducible] U.jh U.jD U.jp U.je U.yR U.zr U.kw
theorem jtA (d:DyD) (W:List ShD) (hW:W.length≤100000) (he:(U.jh W W.length).1=U.zr d):
    (∃x:Nat,((True∧True∧True)∧W=(U.jh W x).2∧(U.jh W x).1=[]∧True)∧x≤W.length)∧∀n:Nat,n≤W.length→(U.jh W n).2.length<4611686018427387904→
      (decide ((0:Int)<((U.jh W n).2.length:Int))=true→(∃x:Nat,(((0:Int)=(x:Int)∧(0:Int)=(U.jD (U.jh W n).2 x:Int)∧True)∧True)∧x≤(U.jh W n).2.length)∧∀i:Nat,i≤(U.jh W n).2.length→(U.jh W n).2.length<4611686018427387904→
        (decide ((i:Int)<((U.jh W n).2.length:Int))=true→(0:Int)≤(U.jD (U.jh W n).2 i:Int)∧(U.jD (U.jh W n).2 i:Int)<((U.jh W n).2.length:Int)∧(0:Int)≤(i:Int)∧(i:Int)<((U.jh W n).2.length:Int)∧
          (U.zx (nth (U.jh W n).2 ((U.jD (U.jh W n).2 i:Int)).toNat) (nth (U.jh W n).2 ((i:Int)).toNat)=true→jx ((i:Int)+1)∧∃x':Nat,(((i:Int)+1=(x':Int)∧(i:Int)=(U.jD (U.jh W n).2 x':Int)∧True)∧True)∧x'≤(U.jh W n).2.length∧(U.jh W n).2.length-x'<(U.jh W n).2.length-i)∧
          (U.zx (nth (U.jh W n).2 ((U.jD (U.jh W n).2 i:Int)).toNat) (nth (U.jh W n).2 ((i:Int)).toNat)=false→jx ((i:Int)+1)∧∃x':Nat,(((U.jD (U.jh W n).2 i:Int)=(U.jD (U.jh W n).2 x':Int)∧(i:Int)+1=(x':Int)∧True)∧True)∧x'≤(U.jh W n).2.length∧(U.jh W n).2.length-x'<(U.jh W n).2.length-i))∧
        (decide ((i:Int)<((U.jh W n).2.length:Int))=false→(0:Int)≤(U.jD (U.jh W n).2 i:Int)∧(U.jD (U.jh W n).2 i:Int)<((U.jh W n).2.length:Int)∧
          ((U.jh W n).1.length+[nth (U.jh W n).2 ((U.jD (U.jh W n).2 i:Int)).toNat].length)*40≤140737488355328∧(0:Int)≤0∧(0:Int)≤(U.jD (U.jh W n).2 i:Int)∧(U.jD (U.jh W n).2 i:Int)≤((U.jh W n).2.length:Int)∧
          (0+(List.take (((U.jD (U.jh W n).2 i:Int)).toNat-Int.toNat 0) (List.drop (Int.toNat 0) (U.jh W n).2)).length)*40≤140737488355328∧jx ((U.jD (U.jh W n).2 i:Int)+1)∧(0:Int)≤(U.jD (U.jh W n).2 i:Int)+1∧
          (U.jD (U.jh W n).2 i:Int)+1≤((U.jh W n).2.length:Int)∧((U.jh W n).2.length:Int)≤((U.jh W n).2.length:Int)∧
          (([]++List.take (((U.jD (U.jh W n).2 i:Int)).toNat-Int.toNat 0) (List.drop (Int.toNat 0) (U.jh W n).2)).length+(List.take ((((U.jh W n).2.length:Int)).toNat-((U.jD (U.jh W n).2 i:Int)+1).toNat) (List.drop ((U.jD (U.jh W n).2 i:Int)+1).toNat (U.jh W n).2)).length)*40≤140737488355328∧
          ∃x':Nat,((True∧True∧True)∧[]++List.take (((U.jD (U.jh W n).2 i:Int)).toNat-Int.toNat 0) (List.drop (Int.toNat 0) (U.jh W n).2)++List.take ((((U.jh W n).2.length:Int)).toNat-((U.jD (U.jh W n).2 i:Int)+1).toNat) (List.drop ((U.jD (U.jh W n).2 i:Int)+1).toNat (U.jh W n).2)=(U.jh W x').2∧
            (U.jh W n).1++[nth (U.jh W n).2 ((U.jD (U.jh W n).2 i:Int)).toNat]=(U.jh W x').1∧True)∧x'≤W.length∧W.length-x'<W.length-n))∧
      (decide ((0:Int)<((U.jh W n).2.length:Int))=false→((U.jh W n).1,())=(U.zr d,())):=by
  refine⟨⟨0,⟨⟨trivial,trivial,trivial⟩,by rw[jrF],by rw[jrF],trivial⟩,jG2 _⟩,fun n hn _=> ?_⟩;obtain⟨l1,l2⟩:=jep W n hn;have hz:∀i,U.jD (U.jh W n).2 i+0=U.jD (U.jh W n).2 i:=fun _=>rfl
  refine⟨fun h2=>⟨⟨0,⟨⟨rfl,by rw[jxd];rfl,trivial⟩,trivial⟩,jG2 _⟩,fun i hi _=>⟨fun h3=> ?_,fun h3=> ?_⟩⟩,fun h2=> ?_⟩
  · have h2:(0:Int)<((U.jh W n).2.length:Int):=of_decide_eq_true h2;have h3:(i:Int)<((U.jh W n).2.length:Int):=of_decide_eq_true h3;have hm:=jex (U.jh W n).2 i hi (by omega);have hs:=jiR (U.jh W n).2 i;have up:i+1≤(U.jh W n).2.length:=(by omega);have dn:(U.jh W n).2.length-(i+1)<(U.jh W n).2.length-i:=(by omega);refine⟨jHn _,by omega,jHn _,h3,fun h4=>⟨L.in64 (by omega) (by omega),i+1,⟨⟨by simp,?_,trivial⟩,trivial⟩,up,dn⟩,fun h4=>⟨L.in64 (by omega) (by omega),i+1,⟨⟨?_,by simp,trivial⟩,trivial⟩,up,dn⟩⟩
    · have h4:U.zx (nth (U.jh W n).2 (U.jD (U.jh W n).2 i)) (nth (U.jh W n).2 i)=true:=h4;rw[hs,if_pos h4]
    · have h4:U.zx (nth (U.jh W n).2 (U.jD (U.jh W n).2 i)) (nth (U.jh W n).2 i)=false:=h4;rw[hs,if_neg (by rw[h4];simp)]
  · have h2:(0:Int)<((U.jh W n).2.length:Int):=of_decide_eq_true h2;have h3:¬(i:Int)<((U.jh W n).2.length:Int):=of_decide_eq_false h3;have hil:i=(U.jh W n).2.length:=(by omega);subst hil;have hm:=jex (U.jh W n).2 _ (jGU _) (by omega);have hc:=jCA (U.jh W n).2 (U.jD (U.jh W n).2 (U.jh W n).2.length);have n1:=jwR W n;have n2:=jwQ W n;refine⟨jHn _,by omega,by show((U.jh W n).1.length+1)*40≤140737488355328;omega,jHT 0,jHn _,by omega,?_,L.in64 (by omega) (by omega),by omega,by omega,jHT _,?_,n+1,⟨⟨trivial,trivial,trivial⟩,?_,?_,trivial⟩,by omega,by omega⟩
    · rw[jHj,jHR];omega
    · rw[jHh,jHj,jHj,jHR,jHR];omega
    · rw[n2];exact hc
    · rw[n1];rfl
  · have h2:¬(0:Int)<((U.jh W n).2.length:Int):=of_decide_eq_false h2;have hnl:n=W.length:=(by omega);subst hnl;rw[he]
theorem juK:jjx:=by
  unfold jjx q121_5 q121_3 q121_1 q121_9 q121_8 q121_7 q121_6 q121_4 q121_2 q121_0;rintro⟨d,⟨⟩⟩ hl;have hl:(U.jT d).length≤1000:=hl;have hdl:(U.je (U.jT d)).length≤100000:=jG5 (by unfold U.je;exact jeH _ 100) (by omega);refine⟨hl,⟨0,⟨⟨rfl,trivial,trivial⟩,jwF _,trivial⟩,jG2 _⟩,fun x hx _=>⟨fun h=> ?_,fun h=> ?_⟩⟩
  · have h:(x:Int)<((U.je (U.jT d)).length:Int):=of_decide_eq_true h;have x0:(0:Int)≤(x:Int):=jHn x;refine⟨x0,h,⟨0,⟨⟨rfl,?_,trivial⟩,trivial⟩,jG2 _⟩,fun k hk _=>⟨fun h2=> ?_,fun h2=> ?_⟩⟩
    · show decide (U.jyN (nth (U.je (U.jT d)) x)=1)=U.kw (U.je (U.jT d)) x 0;unfold U.kw;simp
    · have h2:(k:Int)<((U.je (U.jT d)).length:Int):=of_decide_eq_true h2;have k0:(0:Int)≤(k:Int):=jHn k;have hs:=jur (l:=U.je (U.jT d)) (i:=x) (k:=k) (by omega);have up:k+1≤(U.je (U.jT d)).length:=(by omega);have dn:(U.je (U.jT d)).length-(k+1)<(U.je (U.jT d)).length-k:=(by omega);have i64:jx ((k:Int)+1):=L.in64 (by omega) (by omega);refine⟨k0,h2,x0,h,fun _=>k0,fun _=>h2,fun _=>x0,fun _=>h,fun _=>k0,fun _=>h2,fun _=>x0,fun _=>h,fun h3=>⟨i64,k+1,⟨⟨by simp,?_,trivial⟩,trivial⟩,up,dn⟩,fun h3=>⟨i64,k+1,⟨⟨?_,by simp,trivial⟩,trivial⟩,up,dn⟩⟩
      · have h3:(decide (U.jcZ (nth (U.je (U.jT d)) k)=U.jcZ (nth (U.je (U.jT d)) x))&&decide (U.qD (nth (U.je (U.jT d)) k)=U.qD (nth (U.je (U.jT d)) x))&&U.zx (nth (U.je (U.jT d)) k) (nth (U.je (U.jT d)) x))=true:=h3;show false=U.kw (U.je (U.jT d)) x (k+1);rw[hs,h3];simp
      · have h3:(decide (U.jcZ (nth (U.je (U.jT d)) k)=U.jcZ (nth (U.je (U.jT d)) x))&&decide (U.qD (nth (U.je (U.jT d)) k)=U.qD (nth (U.je (U.jT d)) x))&&U.zx (nth (U.je (U.jT d)) k) (nth (U.je (U.jT d)) x))=false:=h3;show U.kw (U.je (U.jT d)) x k=U.kw (U.je (U.jT d)) x (k+1);rw[hs,h3];simp
    · have h2:¬(k:Int)<((U.je (U.jT d)).length:Int):=of_decide_eq_false h2;have hk:k≤(U.je (U.jT d)).length:=hk;have hkl:k=(U.je (U.jT d)).length:=(by omega);subst hkl;have hs:=jwG (U.je (U.jT d)) x;have hw:=jrd (U.je (U.jT d)) x;have up:x+1≤(U.je (U.jT d)).length:=(by omega);have dn:(U.je (U.jT d)).length-(x+1)<(U.je (U.jT d)).length-x:=(by omega);have i64:jx ((x:Int)+1):=L.in64 (by omega) (by omega);refine⟨fun h3=>⟨x0,h,by show((U.jp (U.je (U.jT d)) x).length+1)*40≤140737488355328;omega,i64,x+1,⟨⟨by simp,trivial,trivial⟩,?_,trivial⟩,up,dn⟩,fun h3=>⟨i64,x+1,⟨⟨trivial,by simp,trivial⟩,?_,trivial⟩,up,dn⟩⟩
      · have h3:U.kw (U.je (U.jT d)) x (U.je (U.jT d)).length=true:=h3;show U.jp (U.je (U.jT d)) x++[nth (U.je (U.jT d)) x]=U.jp (U.je (U.jT d)) (x+1);rw[hs,if_pos h3]
      · have h3:U.kw (U.je (U.jT d)) x (U.je (U.jT d)).length=false:=h3;show U.jp (U.je (U.jT d)) x=U.jp (U.je (U.jT d)) (x+1);rw[hs,if_neg (by rw[h3];simp),jHf]
  · have h:¬(x:Int)<((U.je (U.jT d)).length:Int):=of_decide_eq_false h;have hx:x≤(U.je (U.jT d)).length:=hx;have hxl:x=(U.je (U.jT d)).length:=(by omega);subst hxl;refine jtA d (U.jp (U.je (U.jT d)) (U.je (U.jT d)).length) (jG5 (jrd _ _) hdl) ?_;rw[jDy];exact jDx d
theorem jsc:ze PR 106 jdv:=zv (jlr.mpr juK) Tryz.func106 (by kernel_rfl) (by kernel_rfl) (by kernel_rfl) (by kernel_rfl) ⟨fun _=>jn2,fun _=>jug,trivial⟩ trivial
theorem jmj:ze PR 54 jbK:=zv (jnE.mpr jxp) Tryz.func54 (by kernel_rfl) (by kernel_rfl) (by kernel_rfl) (by kernel_rfl) ⟨fun _=>jsc,fun _=>juk,trivial⟩ ⟨jui,trivial⟩
theorem jmk:ze PR 19 jbL:=zv (jnH.mpr jxs) Tryz.func19 (by kernel_rfl) (by kernel_rfl) (by kernel_rfl) (by kernel_rfl) ⟨fun _=>jb1,fun _=>jmj,trivial⟩ trivial
end Go.X
namespace Go.X
open Go.Proofs
namespace U
def jBE (d:DyD):List Int:=if kM d=0 then zU (kW d).2 100 else[]
def jyy (d:DyD) (t:List Int) (b:Nat):Bool:=jjY (jo d) (jaL (nth (jv d) b)) (nth t b)
def w8 (d:DyD) (t:List Int) (n:Nat):List Int:=((List.range n).filter (jyy d t)).map (fun(b:Nat)=>(b:Int))
def jBh (d:DyD):List Int:=if kM d=0 then w8 d (vb d) (vb d).length else[]
end U
def jbM:jW:=⟨[.val tDy],[.slice .int,.int],false,fun d=>[(U.jv d.1).length≤1000000],fun d=>(U.jBE d.1,U.kM d.1,())⟩
def jq2:Ann:=fun r=>match r with
  |7=>some fun σ=>{X:=Nat,sl:=fun n=>[(8,.dat .int (n:Int)),(7,.own 7 .int)],ob:=fun n=>[(7,some (.row 3 .int false .yes (U.zU (gd (.slice .int) σ 6) n)))],inv:=fun n=>n≤100,mu:=fun n=>100-n}
  |10=>some fun σ=>{X:=Nat,sl:=fun i=>[(9,.dat .int (i:Int)),(7,.own 7 .int)],ob:=fun i=>[(7,some (.row 3 .int false .yes (gr .int σ 7++U.gm (gd (.slice .int) σ 6) (gd .int σ 8).toNat i)))],inv:=fun i=>i≤(gd (.slice .int) σ 6).length,mu:=fun i=>(gd (.slice .int) σ 6).length-i}
  |_=>none
def jg5:Prop:=∀(d:DyD×Unit),(U.jv d.1).length≤1000000→(U.jv d.1).length≤1000000∧(decide (U.kM d.1≠(0:Int))=true→([],U.kM d.1,())=(U.jBE d.1,U.kM d.1,()))∧(decide (U.kM d.1≠(0:Int))=false→U.kM d.1=(0:Int)∧(∃(x:Nat),(((0:Int)=(x:Int)∧True∧True)∧U.zU (U.kW d.1).2 x=[]∧True)∧x≤100)∧∀(x:Nat),x≤100→(decide ((x:Int)≤(99:Int))=true→(∃(x_3:Nat),(((0:Int)=(x_3:Int)∧True∧True)∧U.zU (U.kW d.1).2 x=U.zU (U.kW d.1).2 x++U.gm (U.kW d.1).2 (x:Int).toNat x_3∧True)∧x_3≤(U.kW d.1).2.length)∧∀(x_3:Nat),x_3≤(U.kW d.1).2.length→(U.kW d.1).2.length<4611686018427387904→(decide ((x_3:Int)<(↑(U.kW d.1).2.length:Int))=true→(0:Int)≤(x_3:Int)∧(x_3:Int)<(↑(U.kW d.1).2.length:Int)∧(decide (nth (U.kW d.1).2 (x_3:Int).toNat=(x:Int))=true→((U.zU (U.kW d.1).2 x++U.gm (U.kW d.1).2 (x:Int).toNat x_3).length+[(x:Int)].length)*8≤140737488355328∧jx ((x_3:Int)+(1:Int))∧∃(x':Nat),(((x_3:Int)+(1:Int)=(x':Int)∧True∧True)∧U.zU (U.kW d.1).2 x++U.gm (U.kW d.1).2 (x:Int).toNat x_3++[(x:Int)]=U.zU (U.kW d.1).2 x++U.gm (U.kW d.1).2 (x:Int).toNat x'∧True)∧x'≤(U.kW d.1).2.length∧(U.kW d.1).2.length-x'<(U.kW d.1).2.length-x_3)∧(decide (nth (U.kW d.1).2 (x_3:Int).toNat=(x:Int))=false→jx ((x_3:Int)+(1:Int))∧∃(x':Nat),((True∧(x_3:Int)+(1:Int)=(x':Int)∧True)∧U.zU (U.kW d.1).2 x++U.gm (U.kW d.1).2 (x:Int).toNat x_3=U.zU (U.kW d.1).2 x++U.gm (U.kW d.1).2 (x:Int).toNat x'∧True)∧x'≤(U.kW d.1).2.length∧(U.kW d.1).2.length-x'<(U.kW d.1).2.length-x_3))∧(decide ((x_3:Int)<(↑(U.kW d.1).2.length:Int))=false→jx ((x:Int)+(1:Int))∧∃(x':Nat),(((x:Int)+(1:Int)=(x':Int)∧True∧True)∧U.zU (U.kW d.1).2 x++U.gm (U.kW d.1).2 (x:Int).toNat x_3=U.zU (U.kW d.1).2 x'∧True)∧x'≤100∧100-x'<100-x))∧(decide ((x:Int)≤(99:Int))=false→(U.zU (U.kW d.1).2 x,(0:Int),())=(U.jBE d.1,U.kM d.1,())))
theorem jka:zq (ctx 41 [(17,vu),(54,jbK)] []) (jq2) Tryz.f21 (jd Tryz.f21) jbM=jg5:=by kernel_rfl
def jdw:jW:=⟨[.val tDy],[.slice .int,.int],false,fun d=>[(U.jv d.1).length≤1000000],fun d=>(U.jBh d.1,U.kM d.1,())⟩
def jtf:Ann:=fun r=>match r with
  |6=>some fun σ=>{X:=Nat,sl:=fun b=>[(7,.dat .int (b:Int)),(6,.own 6 .int)],ob:=fun b=>[(6,some (.row 3 .int false .yes (U.w8 (gb tDy σ 1) (gd (.slice .int) σ 4) b)))],inv:=fun b=>b≤(gd (.slice .int) σ 4).length,mu:=fun b=>(gd (.slice .int) σ 4).length-b}
  |_=>none
def jjy:Prop:=∀(d:DyD×Unit),(U.jv d.1).length≤1000000→(U.jv d.1).length≤1000000∧(decide (U.kM d.1≠(0:Int))=true→([],U.kM d.1,())=(U.jBh d.1,U.kM d.1,()))∧(decide (U.kM d.1≠(0:Int))=false→(∃(x:Nat),(((0:Int)=(x:Int)∧True∧True)∧U.w8 d.1 (U.vb d.1) x=[]∧True)∧x≤(U.vb d.1).length)∧∀(x:Nat),x≤(U.vb d.1).length→(U.vb d.1).length<4611686018427387904→(decide ((x:Int)<(↑(U.vb d.1).length:Int))=true→(0:Int)≤(x:Int)∧(x:Int)<(d.1.2.2.1.length:Int)∧(0:Int)≤(x:Int)∧(x:Int)<(↑(U.vb d.1).length:Int)∧U.jq d.1.1=true∧U.jU d.1.1 (nth d.1.2.2.1 (x:Int).toNat).1=true∧U.jBj (nth (U.vb d.1) (x:Int).toNat)∧(U.jjY d.1.1 (nth d.1.2.2.1 (x:Int).toNat).1 (nth (U.vb d.1) (x:Int).toNat)=true→((U.w8 d.1 (U.vb d.1) x).length+[(x:Int)].length)*8≤140737488355328∧jx ((x:Int)+(1:Int))∧∃(x':Nat),(((x:Int)+(1:Int)=(x':Int)∧True∧True)∧U.w8 d.1 (U.vb d.1) x++[(x:Int)]=U.w8 d.1 (U.vb d.1) x'∧True)∧x'≤(U.vb d.1).length∧(U.vb d.1).length-x'<(U.vb d.1).length-x)∧(U.jjY d.1.1 (nth d.1.2.2.1 (x:Int).toNat).1 (nth (U.vb d.1) (x:Int).toNat)=false→jx ((x:Int)+(1:Int))∧∃(x':Nat),((True∧(x:Int)+(1:Int)=(x':Int)∧True)∧U.w8 d.1 (U.vb d.1) x=U.w8 d.1 (U.vb d.1) x'∧True)∧x'≤(U.vb d.1).length∧(U.vb d.1).length-x'<(U.vb d.1).length-x))∧(decide ((x:Int)<(↑(U.vb d.1).length:Int))=false→(U.w8 d.1 (U.vb d.1) x,(0:Int),())=(U.jBh d.1,U.kM d.1,())))
theorem jlw:zq (ctx 40 [(19,jbL),(55,jiz)] []) (jtf) Tryz.f23 (jd Tryz.f23) jdw=jjy:=by kernel_rfl
end Go.X
namespace Go.X
open Go.Proofs
theorem jDK {d:DyD} (h:U.kM d=0):(U.kW d).1.length=(U.jv d).length:=(jiF ((jbr d).trans h)).len
theorem jDJ {d:DyD} (h:U.kM d=0) {b:Nat} (hb:b<(U.jv d).length):U.jBj (nth (U.kW d).1 b):=by
  have hr:=jiF ((jbr d).trans h);have h8:(U.ji (U.jo d)).length≤8:=(jG (js8 h).1).2.2.1;have hs:=hr.set b hb;have h1:=BT.lt_of_has (k:=8) hs (fun p hp=>by have:=((hr.bit b hb p).1 hp).1;omega);exact⟨hs.1,h1⟩
theorem jys {d:DyD} (h:U.kM d=0):U.vb d=(U.kW d).1:=if_pos h
theorem jyr {d:DyD} (h:U.kM d=0):(U.vb d).length=(U.jv d).length:=by rw[jys h];exact jDK h
theorem jze {r:List Int} {m n:Nat} (h:n<r.length):U.gm r m (n+1)=U.gm r m n++(if nth r n=(m:Int) then[nth r n] else[]):=by
  unfold U.gm;rw[L.filter_take h];by_cases e:nth r n=(m:Int)<;>simp[e]
theorem jvS (r:List Int) (m n:Nat):(U.gm r m n).length≤r.length:=by
  unfold U.gm;exact jG5 (jHM _ _) (by rw[jHj];omega)
theorem joT (r:List Int) (n:Nat):U.zU r (n+1)=U.zU r n++U.gm r n r.length:=by
  unfold U.zU;rw[jHu,List.flatMap_append];simp
theorem jrO (r:List Int):∀n,(U.zU r n).length≤r.length*n
  |0=>jG2 _
  |n+1=>by
    have ih:=jrO r n
    have:=jvS r n r.length
    rw[joT,jHa,Nat.mul_succ]
    omega
theorem jtL {d:DyD} (h:U.kM d=0):(U.kW d).2.length≤3000:=by
  have hD:=js8 h;have h1:=(jtM hD.2.2 hD.1 (U.zr d).length (jGU _)).2.1;have h2:=jym d;have h30:(U.jT d).length≤30:=(zm hD.2.2).2.2.2.2.1;show(U.jA d (U.zr d).length).2.length≤3000;omega
theorem jwU (r:List Int):U.zU r 0=[]:=rfl
theorem jzd (r:List Int) (m:Nat):U.gm r m 0=[]:=rfl
section
attribute [local irreducible] U.zU U.gm U.kW U.kM
theorem jsy:jg5:=by
  rintro⟨d,⟨⟩⟩ hl;refine⟨hl,fun h=> ?_,fun h=> ?_⟩
  · have h:U.kM d≠0:=of_decide_eq_true h;show([],U.kM d,())=(U.jBE d,U.kM d,());unfold U.jBE;rw[if_neg h]
  · have h:U.kM d=0:=Classical.not_not.1 (of_decide_eq_false h);have hrl:=jtL h;refine⟨h,⟨0,⟨⟨rfl,trivial,trivial⟩,jwU _,trivial⟩,by omega⟩,fun x hx=>⟨fun h2=>⟨⟨0,⟨⟨rfl,trivial,trivial⟩,by rw[jzd,jHf],trivial⟩,jG2 _⟩,fun i hi _=>⟨fun h3=> ?_,fun h3=> ?_⟩⟩,fun h2=> ?_⟩⟩
    · have h2:(x:Int)≤99:=of_decide_eq_true h2;have h3:(i:Int)<((U.kW d).2.length:Int):=of_decide_eq_true h3;have hs:=jze (r:=(U.kW d).2) (m:=x) (n:=i) (by omega);have up:i+1≤(U.kW d).2.length:=(by omega);have dn:(U.kW d).2.length-(i+1)<(U.kW d).2.length-i:=(by omega);have i64:jx ((i:Int)+1):=L.in64 (by omega) (by omega);refine⟨jHn _,h3,fun h4=>⟨?_,i64,i+1,⟨⟨by simp,trivial,trivial⟩,?_,trivial⟩,up,dn⟩,fun h4=>⟨i64,i+1,⟨⟨trivial,by simp,trivial⟩,?_,trivial⟩,up,dn⟩⟩
      · have e1:=jrO (U.kW d).2 x;have e2:=jvS (U.kW d).2 x i;have e3:(U.kW d).2.length*x≤3000*100:=Nat.mul_le_mul hrl (by omega);show((U.zU (U.kW d).2 x++U.gm (U.kW d).2 x i).length+1)*8≤140737488355328;rw[jHa];omega
      · have h4:nth (U.kW d).2 i=(x:Int):=of_decide_eq_true h4;show U.zU (U.kW d).2 x++U.gm (U.kW d).2 x i++[(x:Int)]=U.zU (U.kW d).2 x++U.gm (U.kW d).2 x (i+1);rw[hs,if_pos h4,h4,jHc]
      · have h4:¬nth (U.kW d).2 i=(x:Int):=of_decide_eq_false h4;show U.zU (U.kW d).2 x++U.gm (U.kW d).2 x i=U.zU (U.kW d).2 x++U.gm (U.kW d).2 x (i+1);rw[hs,if_neg h4,jHf]
    · have h2:(x:Int)≤99:=of_decide_eq_true h2;have h3:¬(i:Int)<((U.kW d).2.length:Int):=of_decide_eq_false h3;have hi:i≤(U.kW d).2.length:=hi;have hil:i=(U.kW d).2.length:=(by omega);subst hil;exact⟨L.in64 (by omega) (by omega),x+1,⟨⟨by simp,trivial,trivial⟩,(joT _ x).symm,trivial⟩,by omega,by omega⟩
    · have h2:¬(x:Int)≤99:=of_decide_eq_false h2;have hxl:x=100:=(by omega);subst hxl;show(U.zU (U.kW d).2 100,(0:Int),())=(U.jBE d,U.kM d,());unfold U.jBE;rw[if_pos h,h]
end
theorem jqf:ze PR 21 jbM:=zv (jka.mpr jsy) Tryz.func21 (by kernel_rfl) (by kernel_rfl) (by kernel_rfl) (by kernel_rfl) ⟨fun _=>jb1,fun _=>jmj,trivial⟩ trivial
theorem jwM (d:DyD) (t:List Int) (n:Nat):U.w8 d t (n+1)=U.w8 d t n++(if U.jyy d t n=true then[(n:Int)] else[]):=by
  unfold U.w8;rw[L.range_filter_succ,jHF];by_cases h:U.jyy d t n=true
  · rw[if_pos h,if_pos h];rfl
  · rw[if_neg h,if_neg h];rfl
theorem jyx (d:DyD) (t:List Int) (n:Nat):(U.w8 d t n).length≤n:=by
  unfold U.w8;rw[jHO];exact jG5 (jHM _ _) (by simp)
theorem jwL (d:DyD) (t:List Int):U.w8 d t 0=[]:=rfl
section
attribute [local irreducible] U.w8 U.vb U.kM U.jjY
theorem juL:jjy:=by
  rintro⟨d,⟨⟩⟩ hl;refine⟨hl,fun h=> ?_,fun h=>⟨⟨0,⟨⟨rfl,trivial,trivial⟩,jwL _ _,trivial⟩,jG2 _⟩,fun x hx _=>⟨fun h2=> ?_,fun h2=> ?_⟩⟩⟩
  · have h:U.kM d≠0:=of_decide_eq_true h;show([],U.kM d,())=(U.jBh d,U.kM d,());unfold U.jBh;rw[if_neg h]
  · have h:U.kM d=0:=Classical.not_not.1 (of_decide_eq_false h);have h2:(x:Int)<((U.vb d).length:Int):=of_decide_eq_true h2;have hD:=js8 h;have hb4:(U.jv d).length≤4:=(zm hD.2.2).1;have ht:=jyr h;have x0:(0:Int)≤(x:Int):=jHn x;have hxb:x<(U.jv d).length:=(by omega);have hs:=jwM d (U.vb d) x;have up:x+1≤(U.vb d).length:=(by omega);have dn:(U.vb d).length-(x+1)<(U.vb d).length-x:=(by omega);have i64:jx ((x:Int)+1):=L.in64 (by omega) (by omega);have hT:U.jBj (nth (U.vb d) x):=(by rw[jys h];exact jDJ h hxb);have hxb':(x:Int)<((U.jv d).length:Int):=(by omega);refine⟨x0,hxb',x0,h2,hD.1,jz0 hD hxb,hT,fun h4=>⟨?_,i64,x+1,⟨⟨by simp,trivial,trivial⟩,?_,trivial⟩,up,dn⟩,fun h4=>⟨i64,x+1,⟨⟨trivial,by simp,trivial⟩,?_,trivial⟩,up,dn⟩⟩
    · have:=jyx d (U.vb d) x;show((U.w8 d (U.vb d) x).length+1)*8≤140737488355328;omega
    · have h4:U.jyy d (U.vb d) x=true:=h4;show U.w8 d (U.vb d) x++[(x:Int)]=U.w8 d (U.vb d) (x+1);rw[hs,if_pos h4]
    · have h4:U.jyy d (U.vb d) x=false:=h4;show U.w8 d (U.vb d) x=U.w8 d (U.vb d) (x+1);rw[hs,if_neg (by rw[h4];simp),jHf]
  · have h:U.kM d=0:=Classical.not_not.1 (of_decide_eq_false h);have h2:¬(x:Int)<((U.vb d).length:Int):=of_decide_eq_false h2;have hx:x≤(U.vb d).length:=hx;have hxl:x=(U.vb d).length:=(by omega);subst hxl;show(U.w8 d (U.vb d) (U.vb d).length,(0:Int),())=(U.jBh d,U.kM d,());unfold U.jBh;rw[if_pos h,h]
end
theorem jsd:ze PR 23 jdw:=zv (jlw.mpr juL) Tryz.func23 (by kernel_rfl) (by kernel_rfl) (by kernel_rfl) (by kernel_rfl) ⟨fun _=>jmk,fun _=>jw6,trivial⟩ trivial
section
attribute [local irreducible] U.wN U.on U.kf U.jn5
end
section
attribute [local irreducible] U.vb U.kM U.kf
end
end Go.X
namespace Go.X
open Go.Proofs
section
attribute [local irreducible] U.vb U.kM U.jjY U.jBj
end
end Go.X
namespace Go.X
open Go.Proofs
end Go.X
