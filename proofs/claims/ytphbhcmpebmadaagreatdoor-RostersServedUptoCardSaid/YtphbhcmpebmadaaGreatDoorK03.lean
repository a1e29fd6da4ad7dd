/-
  Part 3 of the road: a checked reading of bodies, and what the functions on it do (X23).
-/
import Derived.Test.YtphbhcmpebmadaaGreatDoorK02
namespace Go.X
open Go.RowKit (Below)
section
variable {P:Program} {C:Ctx}
theorem w9 {f:Nat} {fn:Func} {c:Code} (d:P.funcs[f]? =some fn) (b:fn.body=some c) (e:(fn.name== "runtime.NumGoroutine")=false):enters P f:=by
 intro args w;have a:fn.name≠ "runtime.NumGoroutine":=(by simpa using e);simp[callFunc,d,a,b]
theorem vu:∀(ps:List Par) (d:PD ps) (i s:Nat) (v:SV),jD (kI ps d i) s=some v->i<=s/\s<i+ps.length
 |[],_,_,_,_,h=>by simp[kI,jD] at h
 | .val t::ps,d,i,s,v,h=>by
  simp only[kI,jD] at h
  cases a:Nat.beq i s with
  |true=>have:=jG0 a;subst this;simp
  |false=>rw[a] at h;have:=vu ps d.2 (i+1) s v h;simp;omega
 | .ref t::ps,d,i,s,v,h=>by
  simp only[kI,jD] at h
  cases a:Nat.beq i s with
  |true=>have:=jG0 a;subst this;simp
  |false=>rw[a] at h;have:=vu ps d.2 (i+1) s v h;simp;omega
 | .fn aZ rs::ps,d,i,s,v,h=>by
  simp only[kI,jD] at h
  cases a:Nat.beq i s with
  |true=>have:=jG0 a;subst this;simp
  |false=>rw[a] at h;have:=vu ps d.2 (i+1) s v h;simp;omega
 | .rfn aZ rs::ps,d,i,s,v,h=>by
  simp only[kI,jD] at h
  cases a:Nat.beq i s with
  |true=>have:=jG0 a;subst this;simp
  |false=>rw[a] at h;have:=vu ps d.2 (i+1) s v h;simp;omega
theorem wU {ρ:Env}:∀(ps:List Par) (vs:List Value) (d:PD ps) (i:Nat),pvs P ρ.H ps vs d->∀s v,jD (kI ps d i) s=some v->∃x,vs[s-i]? =some x/\SV.den P ρ v x
 |[],_,_,_,_,_,_,h=>by simp[kI,jD] at h
 |p::ps,[],d,i,hp,_,_,_=>hp.elim
 | .val t::ps,x::vs,d,i,hp,s,v,h=>by
  simp only[kI,jD] at h
  cases a:Nat.beq i s with
  |true=>
   have:=jG0 a;subst this
   rw[a] at h;simp at h;subst h
   exact⟨x,by simp,by simp only[SV.den];exact hp.1⟩
  |false=>
   rw[a] at h
   have e:=(vu ps d.2 (i+1) s v h).1
   obtain⟨y,b,c⟩:=wU ps vs d.2 (i+1) hp.2 s v h
   exact⟨y,by rw[show s-i=(s-(i+1))+1 by omega];simpa using b,c⟩
 | .ref t::ps,x::vs,d,i,hp,s,v,h=>by
  simp only[kI,jD] at h
  cases a:Nat.beq i s with
  |true=>
   have:=jG0 a;subst this
   rw[a] at h;simp at h;subst h
   exact⟨x,by simp,by simp only[SV.den];exact hp.1⟩
  |false=>
   rw[a] at h
   have e:=(vu ps d.2 (i+1) s v h).1
   obtain⟨y,b,c⟩:=wU ps vs d.2 (i+1) hp.2 s v h
   exact⟨y,by rw[show s-i=(s-(i+1))+1 by omega];simpa using b,c⟩
 | .fn aZ rs::ps,x::vs,d,i,hp,s,v,h=>by
  simp only[kI,jD] at h
  cases a:Nat.beq i s with
  |true=>
   have:=jG0 a;subst this
   rw[a] at h;simp at h;subst h
   exact⟨x,by simp,by simp only[SV.den];exact hp.1⟩
  |false=>
   rw[a] at h
   have e:=(vu ps d.2 (i+1) s v h).1
   obtain⟨y,b,c⟩:=wU ps vs d.2 (i+1) hp.2 s v h
   exact⟨y,by rw[show s-i=(s-(i+1))+1 by omega];simpa using b,c⟩
 | .rfn aZ rs::ps,x::vs,d,i,hp,s,v,h=>by
  simp only[kI,jD] at h
  cases a:Nat.beq i s with
  |true=>
   have:=jG0 a;subst this
   rw[a] at h;simp at h;subst h
   exact⟨x,by simp,by simp only[SV.den];exact hp.1⟩
  |false=>
   rw[a] at h
   have e:=(vu ps d.2 (i+1) s v h).1
   obtain⟨y,b,c⟩:=wU ps vs d.2 (i+1) hp.2 s v h
   exact⟨y,by rw[show s-i=(s-(i+1))+1 by omega];simpa using b,c⟩
theorem v7 {H:Imm}:∀{ps:List Par} {vs:List Value} {d:PD ps},pvs P H ps vs d->vs.length=ps.length
 |[],vs,_,h=>by simp[pvs] at h;simp[h]
 |p::ps,x::vs,d,h=>by simp[v7 h.2]
 |p::ps,[],d,h=>h.elim
def jyv (C:Ctx) (σ:St):List Ty->List ResultVar->List Nat
 |t::ts,v::r=>(match qn σ t (jgU C σ v) with|some (_,f)=>f|none=>[])++jyv C σ ts r
 |_,_=>[]
def jsF (P:Program) (w:World) (tmps:Array Value):ResultVar->Value->Prop
 | .tmp t,v=>v=tmps.getD t undef
 | .cell a t,v=>∃ad,tmps.getD a undef= .pointer (some ad)/\(loadVar t ad).run P w= .ok v w
def jaZ (P:Program) (w:World) (tmps:Array Value):List ResultVar->List Value->Prop
 |[],vs=>vs=[]
 |r::rs,v::vs=>jsF P w tmps r v/\jaZ P w tmps rs vs
 |_::_,[]=>False
theorem jjH {B:zV} {σ τ:St} {ρ:Env} {w:World} {a:Act} {fz:List Nat} (I:C.ok P) (K:Sat P B ρ τ.obj w) (J:Frz σ τ fz) (F:∀s,SV.den P ρ (σ.get s) (a.tmps.getD s undef)) (rv:ResultVar)
 (c:jgU C σ rv≠.any):∃v,jsF P w a.tmps rv v/\SV.den P ρ (jgU C σ rv) v:=by
 cases rv with
 |tmp s=>exact⟨_,rfl,F s⟩
 |cell s T=>
  simp only[jgU] at c⊢
  split at c
  case h_2=>exact absurd rfl c
  rename_i ti o x L
  split at c
  case h_2=>exact absurd rfl c
  rename_i G f cs l;obtain⟨rfl,q⟩:=I.ti _ _ x;have j:∃E,τ.obj o=some (.box G E cs):=by
   rcases(J o).1 with h|h
   .exact⟨f,by rw[h,l]⟩
   .exact⟨true,by rw[h,l];rfl⟩
  obtain⟨E,j⟩:=j;obtain⟨p,M,b,O,vs,rfl,N,d,H,_⟩:=K.obs o _ j;have i:=F s;rw[L] at i;simp only[SV.den] at i;obtain⟨Q,C',A,D⟩:=i _ M;simp at A;obtain⟨rfl,rfl⟩:=A;have g:=wu (P:=P) (off:=0) q N;have k:=zO _ _ d
  split at c
  .rename_i n m;have m:=jG0 m;have t:vs.size=ti.size:=(by rw[<-jHA,<-k];exact m);refine⟨_,⟨_,D,g.1 n (by omega)⟩,?_⟩;have y:(vs.toList.drop 0).take ti.size=vs.toList:=(by rw[List.drop_zero,<-t];exact jHU (by simp));rw[y];simp only[SV.den];exact⟨_,rfl,by simpa using d,fun u z=>H u (by simpa using z)⟩
  .rename_i n m
   split at c
   .rename_i v;simp only[SV.denL] at d;obtain⟨u,r,e,z,rfl⟩:=d;refine⟨u,⟨_,D,g.2 n u (by rw[<-jHN,e];rfl)⟩,?_⟩;exact z
   .exact absurd rfl c
  .exact absurd rfl c
theorem jpg {σ:St} {t:Ty}:qn σ t .any=none:=by
 unfold qn
 split
 .contradiction
 .contradiction
 .split
  .rfl
  .cases t<;>rfl
theorem jek {B:zV} {σ τ:St} {ρ:Env} {w:World} {a:Act} {fz:List Nat} (g:C.ok P) (d:Sat P B ρ τ.obj w) (c:Frz σ τ fz) (i:∀s,SV.den P ρ (σ.get s) (a.tmps.getD s undef)):
 ∀(rs:List Ty) (rv:List ResultVar) (r:(Ty.st rs).Data),jpN C σ rs rv=some r->(∀o,o∈jyv C σ rs rv->o∈fz)->
  ∃vs:List Value,jaZ P w a.tmps rv vs/\rvs ρ.H rs vs r
 |[],[],r,_,_=>⟨[],rfl,rfl⟩
 |[],_::_,r,h,_=>by simp[jpN] at h
 |_::_,[],r,h,_=>by simp[jpN] at h
 |t::ts,v::rv,r,h,hf=>by
  simp only[jpN] at h
  split at h
  case h_2=>cases h
  rename_i x j b
  split at h
  case h_2=>cases h
  rename_i y n
  simp at h
  subst h
  simp only[jyv] at hf
  rw[b] at hf
  obtain⟨vs,e,m⟩:=jek g d c i ts rv y n (fun o f=>hf o (jG1 _ f))
  obtain⟨u,k,l⟩:=jjH g d c i v (fun e=>by rw[e,jpg] at b;cases b)
  exact⟨u::vs,⟨k,e⟩,jT d c b (fun o f=>hf o (jG2 _ f)) l,m⟩
def juC:List Value->Value
 |[v]=>v
 |vs=> .tuple vs.toArray
theorem vj {fn:Func} {tmps:Array Value} {w:World} {vs:List Value} (h:jaZ P w tmps fn.results.toList vs):
 (Go.results fn tmps).run P w=Result.ok (juC vs) w:=by
 have key:∀(g:ResultVar->Sem Value),(∀t,g (.tmp t)=pure (tmps.getD t undef))->(∀a t,g (.cell a t)=(do loadVar t (<-asAddr (tmps.getD a undef))))->
  ∀(l:List ResultVar) (vs:List Value),jaZ P w tmps l vs->(l.mapM g).run P w=Result.ok vs w:=by
  intro g j i l
  induction l with
  |nil=>intro vs h;simp only[jaZ] at h;subst h;rfl
  |cons s l k=>
   intro vs h;cases vs with
   |nil=>exact h.elim
   |cons v vs=>
    obtain⟨b,f⟩:=h;have one:(g s).run P w= .ok v w:=by
     cases s with
     |tmp t=>simp only[jsF] at b;subst b;rw[j];rfl
     |cell a t=>
      obtain⟨ad,c,d⟩:=b;rw[i,c];simp[asAddr,d]
    rw[List.mapM_cons];simp only[Sem.run_bind,one,k vs f,Sem.run_pure,Result.andThen_ok]
 have e:fn.results=fn.results.toList.toArray:=(by simp);unfold Go.results;rw[e];simp only[List.mapM_toArray,Sem.run_bind,Sem.run_map];rw[key _ (fun _=>rfl) (fun _ _=>rfl) _ vs h];simp only[Result.andThen_ok,Sem.run_pure];cases vs with
 |nil=>rfl
 |cons v vs=>cases vs with
  |nil=>rfl
  |cons m vs=>simp[juC]
theorem jjC {fn:Func} {ss:List Nat} (h:fn.results.toList=ss.map ResultVar.tmp) (tmps:Array Value) (w:World):
 (Go.results fn tmps).run P w=Result.ok (match ss.map fun s=>tmps.getD s undef with|[v]=>v|vs=> .tuple vs.toArray) w:=by
 have:∀l:List Nat,jaZ P w tmps (l.map ResultVar.tmp) (l.map fun s=>tmps.getD s undef):=by
  intro l
  induction l with
  |nil=>rfl
  |cons s l a=>exact⟨rfl,a⟩
 rw[vj (vs:=ss.map fun s=>tmps.getD s undef) (by rw[h];exact this ss)];generalize ss.map (fun s=>tmps.getD s undef)=vs;cases vs with
 |nil=>rfl
 |cons v vs=>cases vs with
  |nil=>rfl
  |cons b vs=>rfl
theorem jGu (O:C.ok P) (hm:P.follows .mixedOrders=true) {f:Nat} {fn:Func} {body:Code} {s:j7} (Q:P.funcs[f]? =some fn) (g:fn.body=some body)
 (q:(fn.name== "runtime.NumGoroutine")=false) (hn:fn.ntmps=C.n) (hps:s.ps.length<=C.n) (A:Ann) (h:jFL C A fn body s):zu P f s:=by
 unfold jFL at h;refine⟨w9 Q g q,fun H w vals d hg S y=> ?_⟩;have R:=v7 S;refine calls_of_wp Q g ?_;have hv:=vw _ _ (h d) y
 let ρ:Env:=⟨H,fun _=>none,fun _=>0⟩
 have Y:Sat P ⟨w,H,[],fun _=>none,fun _=>0⟩ ρ (⟨kI s.ps d 0,[]⟩:St).obj w:=by
  refine⟨rfl,rfl,rfl,jG5 _,jG5 _,hg,fun _ _ _=>rfl,fun _ _ _=>rfl,?_,fun _ _=>rfl,?_,?_⟩
  .intro o x hx;simp[St.obj,jD] at hx
  .intro o o' b T C2 j;simp[ρ] at j
  .intro o b T j;simp[ρ] at j
 have X:Rel P ⟨w,H,[],fun _=>none,fun _=>0⟩ C.n ⟨kI s.ps d 0,[]⟩ {tmps:=vals.toArray++Array.replicate (fn.ntmps-vals.toArray.size) undef,defers:=[]} w:=by
  refine⟨rfl,by simp;omega,ρ,Y,?_,fun o p _ g=>by simp[ρ] at g,fun _ _ g=>g⟩;intro k v hk;obtain⟨x,j,N⟩:=wU (P:=P) (ρ:=ρ) s.ps vals d 0 S k v hk;have u:=(jG6.1 j).1;simp only[Nat.sub_zero] at j u;have:(vals.toArray++Array.replicate (fn.ntmps-vals.toArray.size) undef).getD k undef=x:=by
   rw[jG9,jHQ (by simpa using u)];simp[j]
  rw[this];exact N
 refine wE O hm A body _ _ _ _ w hv X (fun e σ B w' _ D E=> ?_);have m:(match jpN C σ s.rs fn.results.toList with|some r=>r=s.F d|none=>False)->B.defers=[]/\∃v,(Go.results fn B.tmps).run P w'= .ok v w'/\jDr H w s.rs (s.F d) (.returned v) w':=by
  intro L
  split at L
  case h_2=>exact L.elim
  rename_i r l;subst L;obtain⟨j,N,ρ',G,I,_⟩:=E;obtain⟨z,c,J,_,_⟩:=jX (σ:=σ) (jyv C σ s.rs fn.results.toList) G;have Z:∀k,SV.den P z (σ.get k) (B.tmps.getD k undef):=by
   intro k;have:=jO (P:=P) (a:=B) I (.tmp k);exact SV.den_mono J _ _ (fun o K=>by simp at K) this
  obtain⟨vs,M,i⟩:=jek O c (w8 σ _) Z s.rs _ _ l (fun o K=>K);refine⟨j,_,vj M,⟨_,z.H,rfl,?_,?_⟩⟩
  .have below:Below w.heap.size w w':=⟨c.os,c.tape,c.output,c.size,fun b g=>c.old b g (by simp)⟩;exact⟨below,c.good,fun b g=>c.oldH b g (by simp),c.drawn⟩
  .generalize s.F d=r at i;clear M l;revert vs r;generalize s.rs=rs;intro vs r i;cases rs with
   |nil=>simp only[rvs] at i;subst i;exact⟨_,rfl,rfl⟩
   |cons t ts=>
    cases vs with
    |nil=>exact i.elim
    |cons v vs=>
     cases ts with
     |nil=>simp only[rvs] at i;obtain⟨V,W⟩:=i;subst W;exact V
     |cons t2 ts=>
      cases vs with
      |nil=>exact i.2.elim
      |cons v2 vs=>exact⟨_,rfl,i⟩
 cases e with
 |normal=>exact m D
 |ret=>exact m D
 |exit id=>exact D.elim
end
end Go.X
