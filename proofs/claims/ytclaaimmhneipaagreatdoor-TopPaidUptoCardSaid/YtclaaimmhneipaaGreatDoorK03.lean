/-
  Part 3 of the road: a checked reading of bodies, and what the functions on it do (X23).
-/
import Derived.Test.YtclaaimmhneipaaGreatDoorK02
namespace Go.X
open Go.RowKit (Below)
section
variable {P:Program} {C:Ctx}
theorem qQ {f:Nat} {fn:Func} {c:Code} (d:P.funcs[f]? =some fn) (b:fn.body=some c) (e:(fn.name== "runtime.NumGoroutine")=false):enters P f:=by
 intro args w;have a:fn.name≠ "runtime.NumGoroutine":=(by simpa using e);simp[callFunc,d,a,b]
theorem br:∀(ps:List Par) (d:PD ps) (i s:Nat) (v:SV),wc (vw ps d i) s=some v->i<=s/\s<i+ps.length
 |[],_,_,_,_,h=>by simp[vw,wc] at h
 | .val t::ps,d,i,s,v,h=>by
  simp only[vw,wc] at h
  cases a:Nat.beq i s with
  |true=>have:=jb a;subst this;simp
  |false=>rw[a] at h;have:=br ps d.2 (i+1) s v h;simp;omega
 | .ref t::ps,d,i,s,v,h=>by
  simp only[vw,wc] at h
  cases a:Nat.beq i s with
  |true=>have:=jb a;subst this;simp
  |false=>rw[a] at h;have:=br ps d.2 (i+1) s v h;simp;omega
 | .fn aZ rs::ps,d,i,s,v,h=>by
  simp only[vw,wc] at h
  cases a:Nat.beq i s with
  |true=>have:=jb a;subst this;simp
  |false=>rw[a] at h;have:=br ps d.2 (i+1) s v h;simp;omega
 | .rfn aZ rs::ps,d,i,s,v,h=>by
  simp only[vw,wc] at h
  cases a:Nat.beq i s with
  |true=>have:=jb a;subst this;simp
  |false=>rw[a] at h;have:=br ps d.2 (i+1) s v h;simp;omega
theorem yT {ρ:Env}:∀(ps:List Par) (vs:List Value) (d:PD ps) (i:Nat),pvs P ρ.H ps vs d->∀s v,wc (vw ps d i) s=some v->∃x,vs[s-i]? =some x/\SV.den P ρ v x
 |[],_,_,_,_,_,_,h=>by simp[vw,wc] at h
 |p::ps,[],d,i,hp,_,_,_=>hp.elim
 | .val t::ps,x::vs,d,i,hp,s,v,h=>by
  simp only[vw,wc] at h
  cases a:Nat.beq i s with
  |true=>
   have:=jb a;subst this
   rw[a] at h;simp at h;subst h
   exact⟨x,by simp,by simp only[SV.den];exact hp.1⟩
  |false=>
   rw[a] at h
   have e:=(br ps d.2 (i+1) s v h).1
   obtain⟨y,b,c⟩:=yT ps vs d.2 (i+1) hp.2 s v h
   exact⟨y,by rw[show s-i=(s-(i+1))+1 by omega];simpa using b,c⟩
 | .ref t::ps,x::vs,d,i,hp,s,v,h=>by
  simp only[vw,wc] at h
  cases a:Nat.beq i s with
  |true=>
   have:=jb a;subst this
   rw[a] at h;simp at h;subst h
   exact⟨x,by simp,by simp only[SV.den];exact hp.1⟩
  |false=>
   rw[a] at h
   have e:=(br ps d.2 (i+1) s v h).1
   obtain⟨y,b,c⟩:=yT ps vs d.2 (i+1) hp.2 s v h
   exact⟨y,by rw[show s-i=(s-(i+1))+1 by omega];simpa using b,c⟩
 | .fn aZ rs::ps,x::vs,d,i,hp,s,v,h=>by
  simp only[vw,wc] at h
  cases a:Nat.beq i s with
  |true=>
   have:=jb a;subst this
   rw[a] at h;simp at h;subst h
   exact⟨x,by simp,by simp only[SV.den];exact hp.1⟩
  |false=>
   rw[a] at h
   have e:=(br ps d.2 (i+1) s v h).1
   obtain⟨y,b,c⟩:=yT ps vs d.2 (i+1) hp.2 s v h
   exact⟨y,by rw[show s-i=(s-(i+1))+1 by omega];simpa using b,c⟩
 | .rfn aZ rs::ps,x::vs,d,i,hp,s,v,h=>by
  simp only[vw,wc] at h
  cases a:Nat.beq i s with
  |true=>
   have:=jb a;subst this
   rw[a] at h;simp at h;subst h
   exact⟨x,by simp,by simp only[SV.den];exact hp.1⟩
  |false=>
   rw[a] at h
   have e:=(br ps d.2 (i+1) s v h).1
   obtain⟨y,b,c⟩:=yT ps vs d.2 (i+1) hp.2 s v h
   exact⟨y,by rw[show s-i=(s-(i+1))+1 by omega];simpa using b,c⟩
theorem cr {H:Imm}:∀{ps:List Par} {vs:List Value} {d:PD ps},pvs P H ps vs d->vs.length=ps.length
 |[],vs,_,h=>by simp[pvs] at h;simp[h]
 |p::ps,x::vs,d,h=>by simp[cr h.2]
 |p::ps,[],d,h=>h.elim
def IK (C:Ctx) (σ:St):List Ty->List ResultVar->List Nat
 |t::ts,v::r=>(match yF σ t (xh C σ v) with|some (_,f)=>f|none=>[])++IK C σ ts r
 |_,_=>[]
def Oy (P:Program) (w:World) (tmps:Array Value):ResultVar->Value->Prop
 | .tmp t,v=>v=tmps.getD t undef
 | .cell a t,v=>∃ad,tmps.getD a undef= .pointer (some ad)/\(loadVar t ad).run P w= .ok v w
def iP (P:Program) (w:World) (tmps:Array Value):List ResultVar->List Value->Prop
 |[],vs=>vs=[]
 |r::rs,v::vs=>Oy P w tmps r v/\iP P w tmps rs vs
 |_::_,[]=>False
theorem DR {B:qw} {σ τ:St} {ρ:Env} {w:World} {a:Act} {fz:List Nat} (H:C.ok P) (J:Sat P B ρ τ.obj w) (I:Frz σ τ fz) (E:∀s,SV.den P ρ (σ.get s) (a.tmps.getD s undef)) (rv:ResultVar)
 (c:xh C σ rv≠.any):∃v,Oy P w a.tmps rv v/\SV.den P ρ (xh C σ rv) v:=by
 cases rv with
 |tmp s=>exact⟨_,rfl,E s⟩
 |cell s T=>
  simp only[xh] at c⊢
  split at c
  case h_2=>exact absurd rfl c
  rename_i ti o x K
  split at c
  case h_2=>exact absurd rfl c
  rename_i F f cs l;obtain⟨rfl,q⟩:=H.ti _ _ x;have j:∃D,τ.obj o=some (.box F D cs):=by
   rcases(I o).1 with h|h
   .exact⟨f,by rw[h,l]⟩
   .exact⟨true,by rw[h,l];rfl⟩
  obtain⟨D,j⟩:=j;obtain⟨p,L,b,N,vs,rfl,M,d,G,_⟩:=J.obs o _ j;have i:=E s;rw[K] at i;simp only[SV.den] at i;obtain⟨O,C',A,e2⟩:=i _ L;simp at A;obtain⟨rfl,rfl⟩:=A;have g:=yn (P:=P) (off:=0) q M;have k:=qx _ _ d
  split at c
  .rename_i n m;have m:=jb m;have t:vs.size=ti.size:=(by rw[<-zb,<-k];exact m);refine⟨_,⟨_,e2,g.1 n (by omega)⟩,?_⟩;have y:(vs.toList.drop 0).take ti.size=vs.toList:=(by rw[List.drop_zero,<-t];exact zp (by simp));rw[y];simp only[SV.den];exact⟨_,rfl,by simpa using d,fun u z=>G u (by simpa using z)⟩
  .rename_i n m
   split at c
   .rename_i v;simp only[SV.denL] at d;obtain⟨u,r,e,z,rfl⟩:=d;refine⟨u,⟨_,e2,g.2 n u (by rw[<-zr,e];rfl)⟩,?_⟩;exact z
   .exact absurd rfl c
  .exact absurd rfl c
theorem K6 {σ:St} {t:Ty}:yF σ t .any=none:=by
 unfold yF
 split
 contradiction;contradiction
 split
 rfl;cases t<;>rfl
theorem iQ {B:qw} {σ τ:St} {ρ:Env} {w:World} {a:Act} {fz:List Nat} (g:C.ok P) (d:Sat P B ρ τ.obj w) (c:Frz σ τ fz) (i:∀s,SV.den P ρ (σ.get s) (a.tmps.getD s undef)):
 ∀(rs:List Ty) (rv:List ResultVar) (r:(Ty.st rs).Data),FW C σ rs rv=some r->(∀o,o∈IK C σ rs rv->o∈fz)->
  ∃vs:List Value,iP P w a.tmps rv vs/\rvs ρ.H rs vs r
 |[],[],r,_,_=>⟨[],rfl,rfl⟩
 |[],_::_,r,h,_=>by simp[FW] at h
 |_::_,[],r,h,_=>by simp[FW] at h
 |t::ts,v::rv,r,h,hf=>by
  simp only[FW] at h
  split at h
  case h_2=>cases h
  rename_i x j b
  split at h
  case h_2=>cases h
  rename_i y n
  simp at h
  subst h
  simp only[IK] at hf
  rw[b] at hf
  obtain⟨vs,e,m⟩:=iQ g d c i ts rv y n (fun o f=>hf o (jg _ f))
  obtain⟨u,k,l⟩:=DR g d c i v (fun e=>by rw[e,K6] at b;cases b)
  exact⟨u::vs,⟨k,e⟩,we d c b (fun o f=>hf o (jh _ f)) l,m⟩
def Q8:List Value->Value
 |[v]=>v
 |vs=> .tuple vs.toArray
theorem gM {fn:Func} {tmps:Array Value} {w:World} {vs:List Value} (h:iP P w tmps fn.results.toList vs):
 (Go.results fn tmps).run P w=Result.ok (Q8 vs) w:=by
 have key:∀(g:ResultVar->Sem Value),(∀t,g (.tmp t)=pure (tmps.getD t undef))->(∀a t,g (.cell a t)=(do loadVar t (<-asAddr (tmps.getD a undef))))->
  ∀(l:List ResultVar) (vs:List Value),iP P w tmps l vs->(l.mapM g).run P w=Result.ok vs w:=by
  intro g i f l
  induction l with
  |nil=>intro vs h;simp only[iP] at h;subst h;rfl
  |cons s l j=>
   intro vs h;cases vs with
   |nil=>exact h.elim
   |cons v vs=>
    obtain⟨b,d⟩:=h;have one:(g s).run P w= .ok v w:=by
     cases s with
     |tmp t=>simp only[Oy] at b;subst b;rw[i];rfl
     |cell a t=>
      obtain⟨ad,c,e2⟩:=b;rw[f,c];simp[asAddr,e2]
    rw[List.mapM_cons];simp only[jC,one,j vs d,jT,js]
 have e:fn.results=fn.results.toList.toArray:=(by simp);unfold Go.results;rw[e];simp only[List.mapM_toArray,jC,Sem.run_map];rw[key _ (fun _=>rfl) (fun _ _=>rfl) _ vs h];simp only[js,jT];cases vs with
 |nil=>rfl
 |cons v vs=>cases vs with
  |nil=>rfl
  |cons k vs=>simp[Q8]
theorem DS {fn:Func} {ss:List Nat} (h:fn.results.toList=ss.map ResultVar.tmp) (tmps:Array Value) (w:World):
 (Go.results fn tmps).run P w=Result.ok (match ss.map fun s=>tmps.getD s undef with|[v]=>v|vs=> .tuple vs.toArray) w:=by
 have:∀l:List Nat,iP P w tmps (l.map ResultVar.tmp) (l.map fun s=>tmps.getD s undef):=by
  intro l
  induction l with
  |nil=>rfl
  |cons s l a=>exact⟨rfl,a⟩
 rw[gM (vs:=ss.map fun s=>tmps.getD s undef) (by rw[h];exact this ss)];generalize ss.map (fun s=>tmps.getD s undef)=vs;cases vs with
 |nil=>rfl
 |cons v vs=>cases vs with
  |nil=>rfl
  |cons b vs=>rfl
theorem jex (N:C.ok P) (hm:P.follows .mixedOrders=true) {f:Nat} {fn:Func} {body:Code} {s:wD} (O:P.funcs[f]? =some fn) (g:fn.body=some body)
 (m:(fn.name== "runtime.NumGoroutine")=false) (hn:fn.ntmps=C.n) (hps:s.ps.length<=C.n) (A:Ann) (h:jeb C A fn body s):wN P f s:=by
 unfold jeb at h;refine⟨qQ O g m,fun H w vals d Z R u=> ?_⟩;have Q:=cr R;refine calls_of_wp O g ?_;have hv:=bi _ _ (h d) u
 let ρ:Env:=⟨H,fun _=>none,fun _=>0⟩
 have X:Sat P ⟨w,H,[],fun _=>none,fun _=>0⟩ ρ (⟨vw s.ps d 0,[]⟩:St).obj w:=by
  refine⟨rfl,rfl,rfl,jj _,jj _,Z,fun _ _ _=>rfl,fun _ _ _=>rfl,?_,fun _ _=>rfl,?_,?_⟩
  .intro o x hx;simp[St.obj,wc] at hx
  .intro o o' b S C2 i;simp[ρ] at i
  .intro o b S i;simp[ρ] at i
 have W:Rel P ⟨w,H,[],fun _=>none,fun _=>0⟩ C.n ⟨vw s.ps d 0,[]⟩ {tmps:=vals.toArray++Array.replicate (fn.ntmps-vals.toArray.size) undef,defers:=[]} w:=by
  refine⟨rfl,by simp;omega,ρ,X,?_,fun o p _ g=>by simp[ρ] at g,fun _ _ g=>g⟩;intro k v hk;obtain⟨x,i,M⟩:=yT (P:=P) (ρ:=ρ) s.ps vals d 0 R k v hk;have q:=(jo.1 i).1;simp only[Nat.sub_zero] at i q;have:(vals.toArray++Array.replicate (fn.ntmps-vals.toArray.size) undef).getD k undef=x:=by
   rw[jq,zn (by simpa using q)];simp[i]
  rw[this];exact M
 refine yj N hm A body _ _ _ _ w hv W (fun e σ z w' _ B D=> ?_);have l:(match FW C σ s.rs fn.results.toList with|some r=>r=s.F d|none=>False)->z.defers=[]/\∃v,(Go.results fn z.tmps).run P w'= .ok v w'/\jbm H w s.rs (s.F d) (.returned v) w':=by
  intro K
  split at K
  case h_2=>exact K.elim
  rename_i r j;subst K;obtain⟨i,M,ρ',E,G,_⟩:=D;obtain⟨y,c,I,_,_⟩:=wF (σ:=σ) (IK C σ s.rs fn.results.toList) E;have Y:∀k,SV.den P y (σ.get k) (z.tmps.getD k undef):=by
   intro k;have:=wu (P:=P) (a:=z) G (.tmp k);exact SV.den_mono I _ _ (fun o J=>by simp at J) this
  obtain⟨vs,L,e2⟩:=iQ N c (v6 σ _) Y s.rs _ _ j (fun o J=>J);refine⟨i,_,gM L,⟨_,y.H,rfl,?_,?_⟩⟩
  .have below:Below w.heap.size w w':=⟨c.os,c.tape,c.output,c.size,fun b g=>c.old b g (by simp)⟩;exact⟨below,c.good,fun b g=>c.oldH b g (by simp),c.drawn⟩
  .generalize s.F d=r at e2;clear L j;revert vs r;generalize s.rs=rs;intro vs r e2;cases rs with
   |nil=>simp only[rvs] at e2;subst e2;exact⟨_,rfl,rfl⟩
   |cons t ts=>
    cases vs with
    |nil=>exact e2.elim
    |cons v vs=>
     cases ts with
     |nil=>simp only[rvs] at e2;obtain⟨T,V⟩:=e2;subst V;exact T
     |cons t2 ts=>
      cases vs with
      |nil=>exact e2.2.elim
      |cons v2 vs=>exact⟨_,rfl,e2⟩
 cases e with
 |normal=>exact l B
 |ret=>exact l B
 |exit id=>exact B.elim
end
end Go.X
