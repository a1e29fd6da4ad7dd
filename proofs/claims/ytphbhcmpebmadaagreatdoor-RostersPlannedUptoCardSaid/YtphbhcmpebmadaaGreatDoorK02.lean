/-
  Part 2 of the road: a checked reading of bodies, and what the functions on it do (XM X11 X12 X13 X14 X15 X16 X17 X18 X19 X20 XL XG XS XC X21 X22).
-/
import Derived.Test.YtphbhcmpebmadaaGreatDoorK01
import Derived.Orders
import Derived.Tactics
import Derived.Control
import Derived.Deep.LoopGhost
import Derived.Scope
namespace Go.X
open Go.RowKit (Below)
section
variable {P:Program} {B:zJ} {C:Ctx} {σ:St} {ρ:Env} {w:World} {o:Oper} {ev:Operand->Value} {out:Out}
theorem qf (w:World) (y:Obj):(w.alloc y).heap[w.heap.size]? =some y:=by
 show(w.heap.push y)[w.heap.size]? =some y;simp
theorem jqU {U dst:Nat} (n:C.ok P) (d:o.op= .makeMap U none) (h:jx C σ dst (.makeMap U none)=some out) (g:Sat P B ρ σ.obj w)
 (s:σ.obj dst=none) (u:kx σ.obj dst):jC P o ev w (jB P B ρ σ out):=by
 simp only[jx,n.lit] at h
 split at h
 case h_2=>rename_i e _;cases e
 case h_3=>cases h
 rename_i ti tk te _ t;simp at h;subst h;obtain⟨a,k,l,m,_,_⟩:=jnW g s u (.map #[] 0) 0 0 (.map false tk.ty te.ty []) (fun a q _ _=>by
  simp only[zf,fzM];refine⟨w.heap.size,0,#[],0,rfl,qf w _,⟨rfl,jGY _,fun i e b=>by simp at b,fun i j e z b=>by simp at b,fun i x y=>by simp at y⟩,?_⟩;rw[q];cases r:ρ.H w.heap.size with
  |none=>rfl
  |some c=>have:=g.good.lt r;omega)
 refine za (v:= .map (some w.heap.size)) (w':=w.alloc (.map #[] 0)) (by simp[execOp,d,Instr.makeMap]) ⟨a,?_,l,?_,trivial⟩
 .simpa[qt,<-wd] using k
 .simp only[SV.den];intro p f;rw[m] at f;simp at f;subst f;exact⟨_,_,rfl,rfl⟩
def jbb {α a:Type}:List (α×a)->List α
 |[]=>[]
 |x::r=>x.1::jbb r
theorem jqp {H:Imm} {kt vt:Ty}:∀(es:List MapEntry) (l:List (kt.Data×vt.Data)),es.length=l.length->(∀(i:Nat) (x:kt.Data×vt.Data),l[i]? =some x->∃e:MapEntry,es[i]? =some e/\kt.rv H e.key x.1/\vt.rv H e.val x.2)->jmQ H kt es (jbb l)
 |[],[],_,_=>trivial
 |[],_::_,h,_=>by simp at h
 |_::_,[],h,_=>by simp at h
 |e::es,x::l,h,hx=>by
  refine⟨?_,jqp es l (by simpa using h) (fun i y c=>by simpa using hx (i+1) y (by simpa using c))⟩
  obtain⟨d,a,b,_⟩:=hx 0 x rfl
  simp at a;subst a
  exact b
theorem vg {H:Imm} {kt vt:Ty} (a:kt.Data):∀(es:List MapEntry) (l:List (kt.Data×vt.Data)) (i:Nat),es.length=l.length->(∀(i:Nat) (x:kt.Data×vt.Data),l[i]? =some x->∃e:MapEntry,es[i]? =some e/\kt.rv H e.key x.1/\vt.rv H e.val x.2)->
 (vF kt a (jbb l) es i=none/\zI kt a l=none/\(∀v:vt.Data,jd8 kt a v l=l++[(a,v)]))\/
 ∃(j:Nat) (e:MapEntry) (x:kt.Data×vt.Data),vF kt a (jbb l) es i=some (i+j,e.val)/\zI kt a l=some x.2/\es[j]? =some e/\l[j]? =some x/\x.1=a/\kt.rv H e.key x.1/\vt.rv H e.val x.2/\∀v:vt.Data,jd8 kt a v l=l.set j (a,v)
 |[],[],i,_,_=> .inl ⟨rfl,rfl,fun _=>rfl⟩
 |[],_::_,_,h,_=>by simp at h
 |_::_,[],_,h,_=>by simp at h
 |e::es,x::l,i,h,hx=>by
  obtain⟨f,g,q,r⟩:=hx 0 x rfl
  simp at g;subst g
  by_cases hk: @decide (a=x.1) (kt.decEq a x.1)=true
  .refine .inr ⟨0,e,x,by simp only[jbb,vF,hk,if_true];rfl,by simp only[zI,hk,if_true],rfl,rfl,(@of_decide_eq_true _ (_) hk).symm,q,r,fun v=>by simp only[jd8,hk,if_true];rfl⟩
  .rcases vg (H:=H) a es l (i+1) (by simpa using h) (fun i y s=>by simpa using hx (i+1) y (by simpa using s)) with⟨b,c,d⟩|⟨j,f,t,b,c,d,k,m,n,o,p⟩
   .exact .inl ⟨by simp only[jbb,vF,hk];exact b,by simp only[zI,hk];exact c,fun v=>by simp only[jd8,hk];rw[show jd8 kt a v l=_ from d v];rfl⟩
   .refine .inr ⟨j+1,f,t,by simp only[jbb,vF,hk];rw[show vF kt a (jbb l) es (i+1)=_ from b];simp;omega,by simp only[zI,hk];exact c,by simpa using d,by simpa using k,m,n,o,fun v=>by simp only[jd8,hk];rw[show jd8 kt a v l=_ from p v];rfl⟩
theorem jxg {ti:TI} (h:ti.ok P) (hk:z8 ti.ty=true) (H:Imm):∃z,(∀w,(zeroValue ti.id).run P w= .ok z w)/\ti.ty.rv H z ti.ty.dflt:=by
 obtain⟨i,z,_,_,_,_,c,a,b⟩:=qc h;obtain⟨d,e⟩:=h.known hk;refine⟨z,c,by rw[b,d],?_,?_⟩
 .rw[<-jHx,a,h.zlen,e]
 .refine Ty.rd_congr _ _ _ _ (fun j _=> ?_) (h.zd hk H);rw[<-a];simp
theorem jts {U dst:Nat} {x m:Operand} {ok:Bool} (S:C.ok P) (n:o.op= .lookup U x m ok) (h:jx C σ dst (.lookup U x m ok)=some out) (r:Sat P B ρ σ.obj w)
 (E:SV.den P ρ (jJ σ x) (ev x)) (t:SV.den P ρ (jJ σ m) (ev m)):jC P o ev w (jB P B ρ σ out):=by
 simp only[jx] at h
 split at h
 case h_2=>cases h
 rename_i ti tk te y;obtain⟨_,F,G,a,u,D⟩:=gR S y;obtain⟨M,N,_⟩:=F.keyq u
 split at h
 case h_2=>cases h
 rename_i l k T hk;have c:=jM r (fz:=[]) (fun o=>⟨.inl rfl,fun A=>by simp at A⟩) hk (fun o A=>A) t;obtain⟨z,L,q⟩:=jxg G D ρ.H;have key:∃v:Value,te.ty.rv ρ.H v (kS te.ty.dflt (zI tk.ty k l))/\(execOp ev o).run P w= .ok (.value (if ok then .tuple #[v,.bool (jFl (zI tk.ty k l))] else v)) w:=by
  rcases jj1 r T E with⟨e,rfl⟩|⟨b,es,clock,e,Q,I⟩
  .refine⟨z,q,?_⟩;have c1:=M ρ.H (ev m) k w true c;have c2:=N ρ.H [] [] (ev m) k w c trivial;simp[execOp,n,Instr.lookup,run_underlying a,e,c1,c2,vF,L,zI,jFl]
  .have J:(getObj b).run P w= .ok (.map es clock) w:=(by simp[getObj,Sem.run,Q]);have c1:=M ρ.H (ev m) k w es.isEmpty c;have f:es.toList.length=l.length:=(by simpa using I.1);have d:∀(i:Nat) (x:tk.ty.Data×te.ty.Data),l[i]? =some x->∃e:MapEntry,es.toList[i]? =some e/\tk.ty.rv ρ.H e.key x.1/\te.ty.rv ρ.H e.val x.2:=fun i x E=>by simpa using I.2.2.2.2 i x E
   have c2:=N ρ.H es.toList (jbb l) (ev m) k w c (jqp _ _ f d);rcases vg (H:=ρ.H) k es.toList l 0 f d with⟨s,p,_⟩|⟨j,O,Z,s,p,V,W,X,Y,R,_⟩
   .refine⟨z,by rw[p];exact q,?_⟩;rw[s] at c2;simp[execOp,n,Instr.lookup,run_underlying a,e,J,c1,c2,L,p,jFl]
   .refine⟨O.val,by rw[p];exact R,?_⟩;rw[s] at c2;simp[execOp,n,Instr.lookup,run_underlying a,e,J,c1,c2,p,jFl]
 obtain⟨v,K,g⟩:=key
 split at h
 .simp only[Out.pure,Option.some.injEq] at h;subst h;refine ji r (v:=_) (by simpa using g) ?_ trivial;simp only[SV.den,SV.denL];exact⟨_,rfl,_,_,rfl,K,_,_,rfl,wH _,rfl⟩
 .simp only[Out.pure,Option.some.injEq] at h;subst h;exact ji r (v:=v) (by simpa using g) (by simpa only[SV.den] using K) trivial
theorem jdu {U:Nat} {m f x:Operand} (hC:C.ok P) (g:o.op= .mapUpdate U m f x\/o.op= .insert U m f x) (h:jAK C σ U m f x=some out) (hS:Sat P B ρ σ.obj w)
 (hm:SV.den P ρ (jJ σ m) (ev m)) (hix:SV.den P ρ (jJ σ f) (ev f)) (hx:SV.den P ρ (jJ σ x) (ev x)):jC P o ev w (jB P B ρ σ out):=by
 unfold jAK at h
 split at h
 case h_2=>cases h
 rename_i ti tk te hmp;obtain⟨_,ok2,ok3,J,hkq,hte⟩:=gR hC hmp;obtain⟨q1,q2,q3⟩:=ok2.keyq hkq
 split at h
 case h_2=>cases h
 rename_i ob hob;rw[hob] at hm
 split at h
 case h_2=>cases h
 rename_i kt vt l R
 split at h
 case h_2=>cases h
 rename_i l' k v fz hc hk hv
 split at h
 case h_2=>cases h
 rename_i D;have D:=w6 D;simp at h;subst h;obtain⟨e,rfl⟩:=jk hc;obtain⟨e1,S⟩:kt=tk.ty/\vt=te.ty:=by injection e with a b;exact⟨a,b⟩
 subst e1;subst S;have M:qj e l=l:=rfl;rw[M];obtain⟨ρ1,K,A,hb1,hn1⟩:=jR (σ:=σ) fz hS;have Y:=jM hS (fz:=[]) (fun o=>⟨.inl rfl,fun R=>by simp at R⟩) hk (fun o R=>R) hix;have s:=Ty.rv_mono A.H Y;have hvr:=jM K (wO σ fz) hv (fun o R=>R) (SV.den_mono A _ _ (fun r hr=>by simp at hr) hx);have ho1:(σ.frz fz).obj ob=some (.map false tk.ty te.ty l):=(by rw[ku,if_neg D];exact R);obtain⟨p,hp,hs⟩:=K.obs ob _ ho1;simp only[zf,fzM] at hs;obtain⟨b,Cp,es,clock,rfl,k1,k2,k3⟩:=hs;simp only[SV.den] at hm;obtain⟨b',C',f1,f2⟩:=hm _ (by rw[<-hb1];exact hp);simp at f1;obtain⟨rfl,rfl⟩:=f1;have hg:(getObj b).run P w= .ok (.map es clock) w:=(by simp[getObj,Sem.run,k1]);have I:∀y:Obj,(setObj b y).run P w= .ok () {w with heap:=w.heap.setIfInBounds b y}:=fun y=>by simp[setObj,Sem.run,k1]
 have X:b<w.heap.size:=(jG6.1 k1).1;have c1:=q1 ρ.H (ev f) k w false Y;obtain⟨m1,m2,m3,m4,m5⟩:=k2;have G:es.toList.length=l.length:=(by simpa using m1);have F:∀(i:Nat) (x:tk.ty.Data×te.ty.Data),l[i]? =some x->∃e:MapEntry,es.toList[i]? =some e/\tk.ty.rv ρ1.H e.key x.1/\te.ty.rv ρ1.H e.val x.2:=fun i x hx=>by simpa using m5 i x hx
 have c2:=q2 ρ1.H es.toList (jbb l) (ev f) k w s (jqp _ _ G F);have T:∀(z:Array MapEntry) (c:Nat),jcx ρ1.H tk.ty te.ty z c (jd8 tk.ty k v l)->(execOp ev o).run P w= .ok .skip {w with heap:=w.heap.setIfInBounds b (.map z c)}->jC P o ev w (jB P B ρ σ ⟨[],[],.any,fz,[(ob,some (.map false tk.ty te.ty (jd8 tk.ty k v l)))],[]⟩):=by
  intro z c hrd Z;refine jf0 Z ⟨ρ1,?_,A,kV _,trivial⟩;have:=jbM K hp k3 (.map false tk.ty te.ty (jd8 tk.ty k v l)) (w':={w with heap:=w.heap.setIfInBounds b (.map z c)}) ⟨rfl,rfl,rfl,jGY _,by simp,fun j hj=>(by show(w.heap.setIfInBounds b _)[j]? =_;rw[jHd,if_neg (fun h=>hj h.symm)])⟩ (by
   simp only[zf,fzM];exact⟨b,Cp,z,c,rfl,by simp[X],hrd,k3⟩)
  rw[jHt,jHr];show Sat P B ρ1 ({(σ.frz fz) with ob:=(ob,_)::(σ.frz fz).ob}:St).obj _;rw[wd];exact this
 rcases vg (H:=ρ1.H) k es.toList l 0 G F with⟨g1,g2,g3⟩|⟨j,u,x',g1,g2,g3,g4,g5,g6,g7,g8⟩
 .rw[g1] at c2;refine T (es.push {key:=ev f,val:=ev x,born:=clock}) (clock+1) ?_ ?_
  .rw[g3];have Q:∀(i:Nat) (e:MapEntry),(es.push {key:=ev f,val:=ev x,born:=clock})[i]? =some e->(i<es.size/\es[i]? =some e)\/(i=es.size/\e={key:=ev f,val:=ev x,born:=clock}):=by
    intro i e d;rw[jIf] at d
    split at d
    .rename_i hi;simp at d;exact .inr ⟨hi,d.symm⟩
    .exact .inl ⟨(jG6.1 d).1,d⟩
   refine⟨by simp[m1],by simp;omega,fun i e d=> ?_,fun i j e u d N L=> ?_,fun i y n=> ?_⟩
   .rcases Q i e d with⟨_,h⟩|⟨_,rfl⟩
    .have:=m3 i e h;omega
    .simp
   .rcases Q i e d with⟨h0,h⟩|⟨h0,rfl⟩<;>rcases Q j u N with⟨W,V⟩|⟨W,rfl⟩
    .exact m4 i j e u h V L
    .have:=m3 i e h;simp at L;omega
    .have:=m3 j u V;simp at L;omega
    .omega
   .by_cases hi:i<l.length
    .rw[jG9 hi] at n;obtain⟨e,h1,h2,h3⟩:=m5 i y n;exact⟨e,by rw[jIf,if_neg (by omega)];exact h1,h2,h3⟩
    .rw[jG8 (by omega)] at n;have:i-l.length=0:=by
      by_cases e:i-l.length=0
      .exact e
      .obtain⟨q,hq⟩:∃q,i-l.length=q+1:=⟨i-l.length-1,by omega⟩;rw[hq] at n;simp at n
     rw[this] at n;simp at n;subst n;exact⟨{key:=ev f,val:=ev x,born:=clock},by rw[jIf,if_pos (by omega)],s,hvr⟩
  .rcases g with g|g<;>simp[execOp,g,Instr.mapUpdate,run_underlying J,f2,hg,c1,c2,I]
 .rw[g1] at c2;have hsb:=q3 ρ1.H u.key (ev f) k (g5▸g6) s;have t:es[j]? =some u:=(by simpa using g3);refine T (es.modify j fun e=>{e with key:=ev f,val:=ev x}) clock ?_ ?_
  .rw[g8];have E:∀(i:Nat) (e:MapEntry),(es.modify j fun e=>{e with key:=ev f,val:=ev x})[i]? =some e->(i≠j/\es[i]? =some e)\/(i=j/\e={u with key:=ev f,val:=ev x}):=by
    intro i e d;rw[jHQ] at d
    split at d
    .rename_i hi;subst hi;rw[t] at d;simp at d;exact .inr ⟨rfl,d.symm⟩
    .rename_i hi;exact .inl ⟨fun h=>hi h.symm,d⟩
   refine⟨by simp[m1],by simpa using m2,fun i e d=> ?_,fun i i' e S d N L=> ?_,fun i y n=> ?_⟩
   .rcases E i e d with⟨_,h⟩|⟨rfl,rfl⟩
    .exact m3 i e h
    .exact m3 i u t
   .rcases E i e d with⟨h0,h⟩|⟨rfl,rfl⟩<;>rcases E i' S N with⟨W,V⟩|⟨rfl,rfl⟩
    .exact m4 i i' e S h V L
    .exact m4 i i' e u h t L
    .exact m4 i i' u S t V L
    .rfl
   .rw[List.getElem?_set] at n;by_cases O:j=i
    .subst O;rw[if_pos rfl] at n;have hjl:j<l.length:=(by have:=(jGZ.1 g4).1;exact this);rw[if_pos hjl] at n;simp at n;subst n;exact⟨{u with key:=ev f,val:=ev x},by rw[jHQ,if_pos rfl,t];rfl,s,hvr⟩
    .rw[if_neg O] at n;obtain⟨e,h1,h2,h3⟩:=m5 i y n;exact⟨e,by rw[jHQ,if_neg O];exact h1,h2,h3⟩
  .have hks:(Instr.keyThatStays u.key (ev f)).run P w= .ok (ev f) w:=(by simp[Instr.keyThatStays,hsb]);rcases g with g|g<;>simp[execOp,g,Instr.mapUpdate,run_underlying J,f2,hg,c1,c2,I,t,hks]
theorem jyk {H:Imm} {kt vt:Ty} {es:Array MapEntry} {clock:Nat} {l:List (kt.Data×vt.Data)} (h:jcx H kt vt es clock l) {d f:Value} {k:kt.Data} {v:vt.Data} (hk:kt.rv H d k) (z:vt.rv H f v):
 jcx H kt vt (es.push {key:=d,val:=f,born:=clock}) (clock+1) (l++[(k,v)]):=by
 obtain⟨A,D,p,B,C⟩:=h;have c:∀(i:Nat) (e:MapEntry),(es.push {key:=d,val:=f,born:=clock})[i]? =some e->(i<es.size/\es[i]? =some e)\/(i=es.size/\e={key:=d,val:=f,born:=clock}):=by
  intro i e a;rw[jIf] at a
  split at a
  .rename_i hi;simp at a;exact .inr ⟨hi,a.symm⟩
  .exact .inl ⟨(jG6.1 a).1,a⟩
 refine⟨by simp[A],by simp;omega,fun i e a=> ?_,fun i j e g a o n=> ?_,fun i y b=> ?_⟩
 .rcases c i e a with⟨_,h⟩|⟨_,rfl⟩
  .have:=p i e h;omega
  .simp
 .rcases c i e a with⟨s,h⟩|⟨s,rfl⟩<;>rcases c j g o with⟨m,r⟩|⟨m,rfl⟩
  .exact B i j e g h r n
  .have:=p i e h;simp at n;omega
  .have:=p j g r;simp at n;omega
  .omega
 .by_cases hi:i<l.length
  .rw[jG9 hi] at b;obtain⟨e,t,u,w⟩:=C i y b;exact⟨e,by rw[jIf,if_neg (by omega)];exact t,u,w⟩
  .rw[jG8 (by omega)] at b;have:i-l.length=0:=by
    by_cases e:i-l.length=0
    .exact e
    .obtain⟨q,x⟩:∃q,i-l.length=q+1:=⟨i-l.length-1,by omega⟩;rw[x] at b;simp at b
   rw[this] at b;simp at b;subst b;exact⟨{key:=d,val:=f,born:=clock},by rw[jIf,if_pos (by omega)],hk,z⟩
theorem jCU {H:Imm} {kt vt:Ty} {es:Array MapEntry} {clock:Nat} {l:List (kt.Data×vt.Data)} (h:jcx H kt vt es clock l) {j:Nat} {b:MapEntry} (m:es[j]? =some b) {f:MapEntry->MapEntry} (q:(f b).born=b.born)
 {k:kt.Data} {v:vt.Data} (hk:kt.rv H (f b).key k) (C:vt.rv H (f b).val v):jcx H kt vt (es.modify j f) clock (l.set j (k,v)):=by
 obtain⟨D,E,w,t,F⟩:=h;have a:∀(i:Nat) (e:MapEntry),(es.modify j f)[i]? =some e->(i≠j/\es[i]? =some e)\/(i=j/\e=f b):=by
  intro i e c;rw[jHQ] at c
  split at c
  .rename_i hi;subst hi;rw[m] at c;simp at c;exact .inr ⟨rfl,c.symm⟩
  .rename_i hi;exact .inl ⟨fun h=>hi h.symm,c⟩
 refine⟨by simp[D],by simpa using E,fun i e c=> ?_,fun i o e p c r d=> ?_,fun i y n=> ?_⟩
 .rcases a i e c with⟨_,h⟩|⟨rfl,rfl⟩
  .exact w i e h
  .rw[q];exact w i b m
 .rcases a i e c with⟨G,h⟩|⟨rfl,rfl⟩<;>rcases a o p r with⟨x,u⟩|⟨rfl,rfl⟩
  .exact t i o e p h u d
  .exact t i o e b h m (d.trans q)
  .exact t i o b p m u (q.symm.trans d)
  .rfl
 .rw[List.getElem?_set] at n;by_cases g:j=i
  .subst g;have s:j<l.length:=(by have:=(jG6.1 m).1;omega);rw[if_pos rfl,if_pos s] at n;simp at n;subst n;exact⟨f b,by rw[jHQ,if_pos rfl,m];rfl,hk,C⟩
  .rw[if_neg g] at n;obtain⟨e,z,A,B⟩:=F i y n;exact⟨e,by rw[jHQ,if_neg g];exact z,A,B⟩
theorem jx5 {U:Nat} {ti tk te:TI} (R:C.ok P) (E:C.mapT U=some (ti,tk,te)) {H:Imm} {b:Nat} {es:Array MapEntry} {clock:Nat} {l:List (tk.ty.Data×te.ty.Data)} (N:w.heap[b]? =some (.map es clock))
 (c:jcx H tk.ty te.ty es clock l) {d:Value} {k:tk.ty.Data} (hk:tk.ty.rv H d k):
 ∃(v:Value) (s:Int) (n:Array MapEntry) (a:Nat),(Instr.mapEntry U (.map (some b)) d).run P w= .ok (.tuple #[v,.int .i64 s]) {w with heap:=w.heap.setIfInBounds b (.map n a)}/\
  jcx H tk.ty te.ty n a (gQ tk.ty te.ty.dflt k l)/\te.ty.rv H v (kS te.ty.dflt (zI tk.ty k l))/\
  ∃(j:Nat) (e:MapEntry),n[j]? =some e/\(e.born:Int)=s/\∀v,jd8 tk.ty k v l=(gQ tk.ty te.ty.dflt k l).set j (k,v):=by
 obtain⟨_,I,J,m,B,G⟩:=gR R E;obtain⟨V,W,X⟩:=I.keyq B;have M:(getObj b).run P w= .ok (.map es clock) w:=(by simp[getObj,Sem.run,N]);have h:∀y:Obj,(setObj b y).run P w= .ok () {w with heap:=w.heap.setIfInBounds b y}:=fun y=>by simp[setObj,Sem.run,N]
 have c1:=V H d k w false hk;have g:es.toList.length=l.length:=(by simpa using c.1);have f:∀(i:Nat) (x:tk.ty.Data×te.ty.Data),l[i]? =some x->∃e:MapEntry,es.toList[i]? =some e/\tk.ty.rv H e.key x.1/\te.ty.rv H e.val x.2:=fun i x S=>by simpa using c.2.2.2.2 i x S
 have c2:=W H es.toList (jbb l) d k w hk (jqp _ _ g f);rcases vg (H:=H) k es.toList l 0 g f with⟨A,q,u⟩|⟨j,p,Y,A,q,u,Z,O,Q,K,L⟩
 .rw[A] at c2;obtain⟨z,T,t⟩:=jxg J G H;have r:gQ tk.ty te.ty.dflt k l=l++[(k,te.ty.dflt)]:=(by unfold gQ;rw[q,u];rfl);refine⟨z,clock,es.push {key:=d,val:=z,born:=clock},clock+1,?_,?_,by rw[q];exact t,l.length,{key:=d,val:=z,born:=clock},?_,rfl,fun v=> ?_⟩
  .simp[Instr.mapEntry,run_underlying m,M,c1,c2,h,T,goInt]
  .rw[r];exact jyk c hk t
  .rw[jIf,if_pos c.1.symm]
  .rw[r,u,List.set_append_right _ _ (jGY _)];simp
 .rw[A] at c2;have o:es[j]? =some p:=(by simpa using u);have F:=X H p.key d k (O▸Q) hk;have r:gQ tk.ty te.ty.dflt k l=l.set j (k,Y.2):=(by unfold gQ;rw[q,L];rfl);have D:(Instr.keyThatStays p.key d).run P w= .ok d w:=(by simp[Instr.keyThatStays,F]);refine⟨p.val,p.born,es.modify j fun e=>{e with key:=d},clock,?_,?_,by rw[q];exact K,j,{p with key:=d},?_,rfl,fun v=> ?_⟩
  .simp[Instr.mapEntry,run_underlying m,M,c1,c2,h,o,D,goInt]
  .rw[r];exact jCU c o rfl hk K
  .rw[jHQ,if_pos rfl,o];rfl
  .rw[r,L,List.set_set]
theorem jkI {U dst:Nat} {m st x:Operand} (hC:C.ok P) (X:o.op= .entryStore U m st x) (h:jx C σ dst (.entryStore U m st x)=some out) (hS:Sat P B ρ σ.obj w)
 (S:SV.den P ρ (jJ σ m) (ev m)) (Y:SV.den P ρ (jJ σ st) (ev st)) (hx:SV.den P ρ (jJ σ x) (ev x)) (K:kL out.vc):jC P o ev w (jB P B ρ σ out):=by
 simp only[jx] at h
 split at h
 case h_2=>cases h
 rename_i ti tk te hmp
 split at h
 case h_2=>cases h
 rename_i ob s W hs;rw[W] at S
 split at h
 case h_2=>cases h
 rename_i kt vt l k s' T
 split at h
 case h_2=>cases h
 rename_i l' k' v fz hc hk hv
 split at h
 case h_2=>cases h
 rename_i d;have d:=w6 d;simp at h;subst h;obtain⟨e,rfl⟩:=jk hc;obtain⟨e1,e2⟩:kt=tk.ty/\vt=te.ty:=by injection e with a b;exact⟨a,b⟩
 subst e1;subst e2;obtain⟨ek,f⟩:=jk hk;have f:k=k':=(by first|exact f|exact f.symm);subst f;have q:qj e l=l:=rfl;rw[q];simp only[kL] at K;obtain⟨J,_⟩:=K;have Z:ev st= .int .i64 s:=kZ (i:=s) (by rw[hs];rfl) Y;obtain⟨ρ1,n,g,O,hn1⟩:=jR (σ:=σ) fz hS;have hvr:=jM n (wO σ fz) hv (fun o T=>T) (SV.den_mono g _ _ (fun r hr=>by simp at hr) hx);have V:(σ.frz fz).obj ob=some (.mape tk.ty te.ty l k s'):=(by rw[ku,if_neg d];exact T);obtain⟨p,hp,G⟩:=n.obs ob _ V;simp only[zf] at G;obtain⟨b,Cp,es,clock,rfl,k1,M,k3,j,N,L,j2,j3⟩:=G;simp only[SV.den] at S;obtain⟨b',C',f1,f2⟩:=S _ (by rw[<-O];exact hp);simp at f1;obtain⟨rfl,rfl⟩:=f1;have hg:(getObj b).run P w= .ok (.map es clock) w:=(by simp[getObj,Sem.run,k1]);have I:∀y:Obj,(setObj b y).run P w= .ok () {w with heap:=w.heap.setIfInBounds b y}:=fun y=>by simp[setObj,Sem.run,k1]
 have A:b<w.heap.size:=(jG6.1 k1).1;obtain⟨D,R⟩:=jG6.1 L;have t:es.findIdx? (fun e=>(e.born:Int)==s)=some j:=by
  rw[Array.findIdx?_eq_some_iff_getElem];refine⟨D,by rw[R];simp[j2,J],fun i hi=> ?_⟩;have Q:i<es.size:=(by omega);intro c;have c:((es[i]).born:Int)=s:=(by simpa using c);have:=M.2.2.2.1 i j es[i] N (jHo Q) L (by
   have z:((es[i]).born:Int)=(N.born:Int):=by rw[c,j2,J]
   exact_mod_cast z)
  omega
 have u:j<(gQ tk.ty te.ty.dflt k l).length:=(by have:=M.1;omega);have E:tk.ty.rv ρ1.H N.key k:=by
  obtain⟨e2,z,h2,_⟩:=M.2.2.2.2 j _ (jG2 u);rw[L] at z;simp at z;subst z;have h3:=j3 (kS te.ty.dflt (zI tk.ty k l));have h4:((gQ tk.ty te.ty.dflt k l)[j]).1=k:=by
   have:(gQ tk.ty te.ty.dflt k l)[j]? =some (k,kS te.ty.dflt (zI tk.ty k l)):=by
    conv=>lhs;rw[show gQ tk.ty te.ty.dflt k l=_ from h3]
    rw[List.getElem?_set,if_pos rfl,if_pos u]
   rw[jG2 u] at this;simp at this;rw[this]
  rw[h4] at h2;exact h2
 have F:(execOp ev o).run P w= .ok .skip {w with heap:=w.heap.setIfInBounds b (.map (es.modify j fun e=>{e with val:=ev x}) clock)}:=by
  simp[execOp,X,Instr.entryStore,f2,hg,Z,Go.asInt,asIntOf,t,I]
 refine jf0 F ⟨ρ1,?_,g,kV _,trivial⟩;have:=jbM n hp k3 (.map false tk.ty te.ty (jd8 tk.ty k v l)) (w':={w with heap:=w.heap.setIfInBounds b (.map (es.modify j fun e=>{e with val:=ev x}) clock)}) ⟨rfl,rfl,rfl,jGY _,by simp,fun j hj=>(by show(w.heap.setIfInBounds b _)[j]? =_;rw[jHd,if_neg (fun h=>hj h.symm)])⟩ (by
  simp only[zf,fzM];refine⟨b,Cp,es.modify j fun e=>{e with val:=ev x},clock,rfl,by simp[A],?_,k3⟩;rw[j3];exact jCU M L rfl E hvr)
 rw[jHt,jHr];show Sat P B ρ1 ({(σ.frz fz) with ob:=(ob,_)::(σ.frz fz).ob}:St).obj _;rw[wd];exact this
theorem jwA {U dst:Nat} {x:Operand} (V:C.ok P) (s:o.op= .range U x) (h:jx C σ dst (.range U x)=some out) (W:Sat P B ρ σ.obj w)
 (Z:σ.obj dst=none) (I:kx σ.obj dst) (k:SV.den P ρ (jJ σ x) (ev x)):jC P o ev w (jB P B ρ σ out):=by
 simp only[jx] at h
 split at h
 case h_2=>cases h
 rename_i ti tk te A;obtain⟨_,_,_,j,_,_⟩:=gR V A
 split at h
 case h_2=>cases h
 rename_i l fz hl;simp at h;subst h;obtain⟨ρ1,d,g,X,q⟩:=jR (σ:=σ) fz W;have a:=jM d (wO σ fz) hl (fun o D=>D) (SV.den_mono g _ _ (fun r a=>by simp at a) k);obtain⟨p,v,R,S⟩:=zb (t:= .map tk.ty te.ty) rfl a;simp at v;have z:(σ.frz fz).obj dst=none:=(by rw[ku,Z];simp);have q:kx (σ.frz fz).obj dst:=by
  intro r T f cs a;rw[ku] at a
  split at a
  .cases k:σ.obj r with
   |none=>rw[k] at a;cases a
   |some y=>
    rw[k] at a;cases y<;>simp[ki] at a
    obtain⟨rfl,_,rfl⟩:=a;exact I r _ _ _ k
  .exact I r T f cs a
 have n:∀(y:Obj),jdy ρ1.H tk.ty te.ty l none y->(execOp ev o).run P w= .ok (.value (.pointer (some ⟨w.heap.size,0,none⟩))) (w.alloc y)->jC P o ev w (jB P B ρ σ ⟨[],[],.ip dst,fz,[(dst,some (.iter tk.ty te.ty l none))],[dst]⟩):=by
  intro y hy u;obtain⟨m,N,O,Q,_,_⟩:=jnW d z q y 0 0 (.iter tk.ty te.ty l none) (fun m G _ _=>by
   simp only[zf];refine⟨w.heap.size,0,y,rfl,qf w _,by rw[G];exact hy,?_⟩;rw[G];cases Y:ρ1.H w.heap.size with
   |none=>rfl
   |some c=>have:=d.good.lt Y;omega)
  refine za u ⟨m,?_,(g.weaken (fun o D=>by simp at D)).trans O,?_,trivial⟩
  .rw[jHt,jHr];show Sat P B m ({(σ.frz fz) with ob:=(dst,_)::(σ.frz fz).ob}:St).obj _;rw[wd];exact N
  .simp only[SV.den];intro p E;rw[Q] at E;simp at E;subst E;exact⟨_,_,rfl,rfl⟩
 cases p with
 |none=>
  have:=R rfl;subst this;refine n (.mapIter none 0 #[] 0) ⟨rfl,rfl⟩ ?_;simp[execOp,s,Instr.range,run_underlying j,v]
 |some b=>
  obtain⟨es,clock,F,J,e3,K,L,M⟩:=S b rfl;have hw:=d.good.1 b _ F;have hg:(getObj b).run P w= .ok (.map es clock) w:=by
   have:w.heap[b]? =some (.map es clock):=hw;simp[getObj,Sem.run,this]
  refine n (.mapIter (some b) clock #[] clock) ⟨es,clock,F,rfl,K,L,.inl rfl,⟨es.toList,?_,by simpa using J,fun i x k=> ?_⟩,trivial⟩ ?_
  .rw[List.filter_eq_self.2];intro e _;simp
  .obtain⟨e,q1,q2,q3⟩:=M i x k;exact⟨e,by simpa using q1,q2,q3⟩
  .simp[execOp,s,Instr.range,run_underlying j,v,hg]
theorem jwE {dst:Nat} {it:Operand} (z:o.op= .entry it) (h:jx C σ dst (.entry it)=some out) (n:Sat P B ρ σ.obj w)
 (d:SV.den P ρ (jJ σ it) (ev it)):jC P o ev w (jB P B ρ σ out):=by
 simp only[jx] at h
 split at h
 case h_2=>cases h
 rename_i ob u;rw[u] at d
 split at h
 case h_2=>cases h
 rename_i kt vt left x Q;simp only[Out.pure,Option.some.injEq] at h;subst h;obtain⟨p,R,F⟩:=n.obs ob _ Q;simp only[zf] at F;obtain⟨b,T,y,rfl,S,k,Z⟩:=F;simp only[SV.den] at d;obtain⟨V,C',A,H⟩:=d _ R;simp at A;obtain⟨rfl,rfl⟩:=A;unfold jdy at k
 split at k
 .exact absurd k.2 (by simp)
 .rename_i m f l a;obtain⟨es,clock,L,W,X,M,Y,_,N,e,D,I,J,K⟩:=k;have O:w.heap[m]? =some (.map es clock):=n.good.1 m _ L;have r:(getObj b).run P w= .ok (.mapIter (some m) f l a) w:=(by simp[getObj,Sem.run,S]);have s:(getObj m).run P w= .ok (.map es clock) w:=(by simp[getObj,Sem.run,O]);have c:es.find? (·.born==e.born)=some e:=by
   cases q:es.find? (·.born==e.born) with
   |none=>
    have:=Array.find?_eq_none.1 q e (by simpa using D);simp at this
   |some G=>
    have E:=Array.find?_some q;simp at E;have g:=Array.mem_of_find?_eq_some q;obtain⟨i,hi⟩:=Array.getElem?_of_mem g;obtain⟨j,t⟩:=Array.getElem?_of_mem (show e∈es by simpa using D);have:=M i j G e hi t E;subst this;rw[hi] at t;exact t
  refine ji n (v:= .tuple #[e.key,e.val]) ?_ ?_ trivial
  .simp[execOp,z,Instr.entry,H,r,s,I,N,c]
  .simp only[SV.den,SV.denL];exact⟨_,rfl,_,_,rfl,J,_,_,rfl,K,rfl⟩
 .exact k.elim
theorem jlJ {U dst:Nat} {l c:Operand} (hC:C.ok P) (S:o.op= .makeSlice U l c) (h:jBx C σ dst U l c=some out) (hS:Sat P B ρ σ.obj w) (hd:σ.obj dst=none) (hn:kx σ.obj dst)
 (t:∀x,SV.den P ρ (jJ σ x) (ev x)) (I:kL out.vc):jC P o ev w (jB P B ρ σ out):=by
 unfold jBx at h
 split at h
 case h_2=>cases h
 rename_i ti te n m F hl L;simp at h;subst h;simp only[kL] at I;obtain⟨h0,R,e,_⟩:=I;subst R;obtain⟨_,W,_,a,G,hka,y,hpos⟩:=zw hC F;obtain⟨i,z,Z,g1,g2,g3,g4,g5⟩:=a.info;rw[W] at Z;have O:=kZ hl (t l);have M:=kZ L (t c);obtain⟨k,Q⟩:∃k:Nat,n=(k:Int):=Int.eq_ofNat_of_zero_le h0;subst Q;rw[jG1] at e⊢;have v:=jdR F;have f:0<te.bytes:=(a.pos v).2;have hk2:k<=140737488355328:=by
  have:k*1<=k*te.bytes:=jIe _ f;omega
 have J:z.cells.size=te.ty.size:=(by rw[<-jHx,g4,a.zlen,y]);have V:i.size=te.ty.size:=(by rw[g1,y]);have K:(i.bytes:Int)*(k:Int)<=281474976710656:=by
  have:i.bytes*k<=281474976710656:=(by rw[g2,Nat.mul_comm];omega);have h2:((i.bytes*k:Nat):Int)<=281474976710656:=by omega
  rwa [Int.natCast_mul] at h2
 have d:=run_make (P:=P) w U ti.elem i z G Z g3 .i64 .i64 (k:Int) (k:Int) (by omega) (jHV _) K (by omega);rw[jG1] at d;have E:(execOp ev o).run P w= .ok (.value (.slice (some ⟨w.heap.size,0,none⟩) k k)) (w.alloc (.cells (madeCells z.cells (k*i.size)) ti.elem)):=by
  simp only[execOp,S,O,M,Sem.run_bind,d,Result.andThen_ok,Sem.run_pure]
 have A:(madeCells z.cells (k*i.size)).size=k*te.ty.size:=(by rw[size_madeCells,V]);obtain⟨r,q1,q2,q3,q4,q5⟩:=jjA hS (own:=none) hd hn (World.grownBy_alloc w (.cells (madeCells z.cells (k*i.size)) ti.elem) none) (jGY _) (by simp) (some (w.heap.size,k)) (fun b C s=>by simp at s;exact .inr s.1.symm) k
  (.row ti.elem te.ty false .no (List.replicate k te.ty.dflt)) (fun r hH g _=>by
   refine⟨by rw[g];simp,by simp;omega,fun _=> ?_,_,qf w _,A,by simp,by simp only[maxLen];omega,fun j x X=> ?_,?_⟩
   .rename_i hh;cases hh
   .rw[hH];have hi:j<k:=(by have:=(jGZ.1 X).1;simpa using this);have Y:x=te.ty.dflt:=by
     rw[List.getElem?_replicate,if_pos hi] at X;simpa using X.symm
    subst Y;refine te.ty.rd_congr _ _ _ (fun q hq=> ?_) (a.zd v ρ.H);have N:j*te.ty.size+q<k*te.ty.size:=by
     have:(j+1)*te.ty.size<=k*te.ty.size:=jHe _ hi;rw[jHF] at this;omega
    have u:q<z.cells.size:=(by rw[J];exact hq);have D:(j*te.ty.size+q)%z.cells.size=q:=(by rw[J,Nat.mul_comm,Nat.mul_add_mod,Nat.mod_eq_of_lt hq]);rw[jHo (by rw[A];exact N)];simp only[madeCells,Array.getElem_map,Array.getElem_range,D];rw[getElem!_pos z.cells q u,<-g4,jHI,jHo u]
   .rw[hH];simp only[fzH];cases L:ρ.H w.heap.size with
    |none=>rfl
    |some c=>have:=hS.good.lt L;omega)
 refine za E ⟨r,?_,q2,?_,trivial⟩
 .show Sat P B r ({σ with ob:=[(dst,_)]++(qt σ []++σ.ob)}:St).obj _;simp only[qt,jHr];rw[gw];exact q1
 .simp only[SV.den];intro p T;rw[q3] at T;simp at T;subst T;exact⟨by rw[q4],by rw[q4];exact jGY _⟩
theorem jxI {t:Ty} {v:Value} {l:List t.Data} {k:Nat} (h:Src ρ.H w t v l) (hk:k<=l.length) {size:Nat} (n:size=t.size):
 ∃cs:List Value,(Builtin.firstCells size k v).run P w= .ok cs.toArray w/\cs.length=k*t.size/\(∀u∈cs,u.oneCell'=true)/\∀(i:Nat) x,i<k->l[i]? =some x->t.rd ρ.H (fun j=>cs[i*t.size+j]?) x:=by
 subst n;obtain⟨_,⟨rfl,rfl⟩|⟨ad,c,us,rfl,d,e,f,g⟩⟩:=h
 .have b:k=0:=(by simpa using hk);subst b;exact⟨[],by simp[run_firstCells_none],by simp,by simp,fun i x hi=>by omega⟩
 .have m:k*t.size<=us.length:=(by rw[d];exact jHe _ hk);refine⟨us.take (k*t.size),run_firstCells_some w t.size k ad l.length c _ (by rw[jHv];omega) (fun j v a=>e j v ?_),by rw[jHv];omega,fun u o=>f u (jIl o),fun i x hi p=> ?_⟩
  .rw[jH9] at a
   split at a
   .exact a
   .cases a
  .refine t.rd_congr _ _ _ (fun j a=> ?_) (g i x p);have:(i+1)*t.size<=k*t.size:=jHe _ hi;rw[jHF] at this;rw[jHl (by omega)]
theorem jty {α:Type} (l:List α) (lo n:Nat) (a:List α) (h:lo+n<=l.length):(jxe l lo n a).length=l.length:=by
 simp only[jxe,jHk,jHv,jIh];omega
theorem jzU {c:Call} (hC:C.ok P) (Y:o.op= .call c) (hc:c.callee= .builtin .copy) (h:jEq C σ c.args.toList c.argTypes.toList=some out) (hS:Sat P B ρ σ.obj w)
 (hev:∀x,SV.den P ρ (jJ σ x) (ev x)) (hvc:kL out.vc):jC P o ev w (jB P B ρ σ out):=by
 unfold jEq at h
 split at h
 case h_2=>cases h
 rename_i x y U U' i z;have i:c.args= #[x,y]:=(by rw[<-jHj];exact i);have z:c.argTypes= #[U,U']:=by rw[<-jHj];exact z
 split at h
 case h_2=>cases h
 rename_i ti te Q hsl;have Q:=jGT Q;subst Q
 split at h
 case h_2=>cases h
 rename_i f ob lo n hel s het
 split at h
 case h_2=>cases h
 rename_i E t nl l X
 split at h
 case h_2=>cases h
 rename_i l' hl';simp only[Option.some.injEq] at h;subst h;obtain⟨e,rfl⟩:=jk hl';have e':t=te.ty:=(by injection e);subst e';have R:qj e l=l:=rfl;rw[R] at hvc⊢;have hlen:lo+n<=l.length:=hvc.1;obtain⟨p,hp,k1,k0,k2⟩:=hS.obs ob _ X;have g:=hev x;have I:=jfY hS hel (hev y);obtain⟨_,hte,_,hokE,J,hka,hks,hpos⟩:=zw hC hsl;obtain⟨_,_,_,_,_,N,_⟩:=qc hokE;rw[hte] at N;have hn2:=I.1;have K:match p with
  |none=>ev x= .slice none 0 0/\n=0
  |some (b,Cp)=>∃a M,ev x= .slice (some a) n M/\(0<n->a=⟨b,lo*te.ty.size,none⟩):=by
  unfold jCB at s
  split at s
  .rename_i o' u hx;rw[hx] at g
   split at s
   .rename_i E' t' fz' nl' l2 W;simp at s;obtain⟨rfl,rfl,rfl⟩:=s;rw[X] at W;simp at W;obtain⟨_,rfl,_,_,V⟩:=W;have V:=eq_of_heq V;subst V;simp only[SV.den] at g;have g:=g p hp;cases p with
    |none=>
     obtain⟨A,D⟩:=g;exact⟨A,by rw[<-k1];exact D⟩
    |some q=>
     obtain⟨b,Cp⟩:=q;obtain⟨A,D⟩:=g;rw[k1] at A;exact⟨_,_,A,fun _=>by simp⟩
   .cases s
  .rename_i o' u lo2 n2 hx;simp at s;obtain⟨rfl,rfl,rfl⟩:=s;rw[hx] at g het;have hu:u=te.ty:=vS het;subst hu;simp only[SV.den] at g;have g:=g p hp;cases p with
   |none=>exact g
   |some q=>
    obtain⟨b,Cp⟩:=q;obtain⟨a,M,A,D,e3,e4,e5⟩:=g;exact⟨a,M,A,fun h0=>e5 (.inr (by omega))⟩
  .cases s
 have hkk:(f.take n).length<=f.length:=(by rw[jHv];omega);obtain⟨cs,c1,c2,c3,c4⟩:=jxI (P:=P) (k:=(f.take n).length) (size:=te.size) I hkk hks.symm;have F:Nat.min f.length n=(f.take n).length:=by
  rw[jHv];exact Nat.min_comm _ _
 have r:∀w,(Builtin.lenOf (ev y)).run P w= .ok f.length w:=by
  intro w;obtain⟨_,⟨A,D⟩|⟨ad,c,us,A,_⟩⟩:=I
  .rw[A,D];simp[Builtin.lenOf]
  .rw[A];simp[Builtin.lenOf]
 have H:∀(w':World) (row:List te.ty.Data),row=l->({σ with ob:=(ob,some (.row E te.ty false nl row))::(qt σ []++σ.ob)}:St).obj=σ.obj:=by
  intro w' row hr;subst hr;simp only[qt,jHr];rw[wd];exact funext fun k=>by
   unfold jgj
   split
   .rename_i hk;rw[hk];exact X.symm
   .rfl
 cases p with
 |none=>
  obtain⟨A,D⟩:=K;subst D;have S:cs=[]:=jHE (by rw[c2];simp);subst S;refine za (v:= .int .i64 ((f.take 0).length:Int)) (w':=w) ?_ ⟨ρ,?_,Env.le.refl _ _,?_,trivial⟩
  .simp only[execOp,Y,Sem.run_bind,resolve,hc,i,z,Sem.run_pure,Result.andThen_ok,invoke,builtin];have hm0:Nat.min f.length 0=0:=Nat.min_zero _;simp only[List.take_zero,jHM] at c1;simp[Builtin.copy_,A,run_underlying J,r,N,hm0,c1,goInt]
  .show Sat P B ρ ({σ with ob:=(ob,_)::(qt σ []++σ.ob)}:St).obj _;rw[H w _ (by simp[jxe])];exact hS
  .simp only[SV.den];exact wL _
 |some q=>
  obtain⟨b,Cp⟩:=q;obtain⟨a,M,A,D⟩:=K;obtain⟨k3,vs,hw,hvs,hlC,hCm,hr,hH⟩:=k2;simp only[fzH] at hH;obtain⟨m,Z⟩:∃m,m=(f.take n).length:=⟨_,rfl⟩;have hmn:m<=n:=(by rw[Z,jHv];omega);rw[<-Z] at c1 c2 c4 F;rcases jH8 m with h0|h0
  .have S:cs=[]:=jHE (by rw[c2,h0];simp);subst S;refine za (v:= .int .i64 ((f.take n).length:Int)) (w':=w) ?_ ⟨ρ,?_,Env.le.refl _ _,?_,trivial⟩
   .simp only[execOp,Y,Sem.run_bind,resolve,hc,i,z,Sem.run_pure,Result.andThen_ok,invoke,builtin];simp[Builtin.copy_,A,run_underlying J,r,N,F,c1,goInt,storeCells,<-Z]
   .show Sat P B ρ ({σ with ob:=(ob,_)::(qt σ []++σ.ob)}:St).obj _;rw[H w _ (by
     have:f.take n=[]:=jHE (by omega);simp[jxe,this])]
    exact hS
   .simp only[SV.den];exact wL _
  .have D:=D (by omega);subst D;have hmul:(lo+m)*te.ty.size<=Cp*te.ty.size:=jHe _ (by omega);rw[jHK] at hmul;have O:=run_storeCells_at P b (lo*te.ty.size) E cs 0 vs w hw (by rw[c2,hvs];omega) c3;simp only[jIa,c2] at O;obtain⟨f1,f2⟩:=qX w hw (vs.toList.take (lo*te.ty.size)++cs++vs.toList.drop (lo*te.ty.size+m*te.ty.size)).toArray;refine za (v:= .int .i64 ((f.take n).length:Int)) (w':=w.setRow b (vs.toList.take (lo*te.ty.size)++cs++vs.toList.drop (lo*te.ty.size+m*te.ty.size)).toArray) ?_ ⟨ρ,?_,Env.le.refl _ _,?_,trivial⟩
   .simp only[execOp,Y,Sem.run_bind,resolve,hc,i,z,Sem.run_pure,Result.andThen_ok,invoke,builtin];simp[Builtin.copy_,A,run_underlying J,r,N,F,c1,goInt,O,<-Z]
   .show Sat P B ρ ({σ with ob:=(ob,_)::(qt σ []++σ.ob)}:St).obj _;simp only[qt,jHr];rw[wd];refine jbM hS hp hH _ f1 ?_;have G:(jxe l lo n f).length=l.length:=jty l lo n f hlen;have T:(vs.toList.take (lo*te.ty.size)).length=lo*te.ty.size:=(by simp;omega);refine⟨by rw[G];exact k1,by rw[G];exact k0,fun L hn=> ?_,_,f2,?_,by rw[G];exact hlC,hCm,?_,by simpa[fzH] using hH⟩
    .rw[hn] at G;simp at G;omega
    .simp only[List.size_toArray,jHk,T,c2,jIh,jHx];omega
    .intro k y L;have htl:(l.take lo).length=lo:=(by simp;omega);simp only[jH7,jHf];unfold jxe at L;rw[<-Z,jHf] at L;by_cases hk:k<lo
     .rw[jG9 (by omega),jHl hk] at L;refine te.ty.rd_congr _ _ _ (fun j hj=> ?_) (hr k y L);have:(k+1)*te.ty.size<=lo*te.ty.size:=jHe _ hk;rw[jHF] at this;rw[jG9 (by omega),jHl (by omega)];simp
     .obtain⟨d,rfl⟩:∃d,k=lo+d:=⟨k-lo,by omega⟩;rw[jG8 (by omega),htl,Nat.add_sub_cancel_left] at L;by_cases hd:d<m
      .rw[jG9 (by omega),jHl (by omega)] at L;refine te.ty.rd_congr _ _ _ (fun j hj=> ?_) (c4 d y hd L);have h1:(d+1)*te.ty.size<=m*te.ty.size:=jHe _ hd;rw[jHF] at h1;rw[jHK,jG8 (by omega),T,jG9 (by omega)];congr 1;omega
      .rw[jG8 (by omega),<-Z,jHB] at L;have hke:lo+m+(d-m)=lo+d:=(by omega);rw[hke] at L;refine te.ty.rd_congr _ _ _ (fun j hj=> ?_) (hr (lo+d) y L);have h1:m*te.ty.size<=d*te.ty.size:=jHe _ (by omega);rw[jHK,jG8 (by omega),T,jG8 (by omega),c2,jHB,jHI];congr 1;omega
   .simp only[SV.den];exact wL _
end
end Go.X
namespace Go.X
open Go.RowKit (Below)
section
variable {P:Program} {B:zJ} {C:Ctx} {σ:St} {ρ:Env} {w:World} {o:Oper} {ev:Operand->Value} {out:Out}
def jGu (P:Program) (ρ:Env) (fz:List Nat) (b:(ps rs:List Ty)->SV->Option (FnD ps rs×List Nat)):Prop:=
 ∀(ps rs:List Ty) (sv:SV) (d:FnD ps rs) (a:List Nat),b ps rs sv=some (d,a)->(∀o,o∈a->o∈fz)->∀v,SV.den P ρ sv v->FnV P ρ.H ps rs d.pre d.F v
theorem jky {τ:St} (z:Sat P B ρ τ.obj w) {fz:List Nat} (t:Frz σ τ fz) {n:(ps rs:List Ty)->SV->Option (FnD ps rs×List Nat)} (E:jGu P ρ fz n) {ps rs:List Ty} {sv:SV} {d:FnD ps rs} {g:List Nat} (h:jBV n σ ps rs sv=some (d,g))
 (m:∀o,o∈g->o∈fz) {v:Value} (k:SV.den P ρ sv v):jDO P ρ.H (.rfn ps rs) v d:=by
 unfold jBV at h
 split at h
 .split at h
  .rename_i e;obtain⟨q,s⟩:=e;subst q s;simp at h;obtain⟨rfl,rfl⟩:=h;simpa[SV.den,jDO] using k
  .cases h
 .rename_i o
  split at h
  .rename_i T f c F
   split at h
   .rename_i x J A;simp at h;obtain⟨rfl,rfl⟩:=h;have l:τ.obj o=some (.box T true [c]):=(by rw[(t o).2 (m o (by simp)),F];rfl);obtain⟨p,D,b,C',vs,rfl,K,i,_,y⟩:=z.obs o _ l;simp only[SV.den] at k;obtain⟨I,G,e,rfl⟩:=k _ D;simp at e;obtain⟨rfl,rfl⟩:=e;simp only[SV.denL] at i;obtain⟨u,r,a,j,rfl⟩:=i;have a:vs= #[u]:=jHj.1 (by simpa using a);subst a;exact⟨b,u,rfl,by simpa[fzH] using y,E _ _ _ _ _ A (fun o C=>m o (jG0 _ C)) _ j⟩
   .cases h
  .cases h
 .cases h
theorem jan {τ:St} (g:Sat P B ρ τ.obj w) {fz:List Nat} (e:Frz σ τ fz) {p:(ps rs:List Ty)->SV->Option (FnD ps rs×List Nat)} (m:jGu P ρ fz p):
 ∀{ps:List Par} {svs:List SV} {d:PD ps} {a:List Nat},jeK p σ ps svs=some (d,a)->(∀o,o∈a->o∈fz)->∀{vs:List Value},SV.denL P ρ svs vs->pvs P ρ.H ps vs d
 |[],[],d,a,h,_,vs,b=>by simpa[SV.denL,pvs] using b
 |[],_::_,d,a,h,_,vs,b=>by simp[jeK] at h
 | .val _::_,[],d,a,h,_,vs,b=>by simp[jeK] at h
 | .ref _::_,[],d,a,h,_,vs,b=>by simp[jeK] at h
 | .fn _ _::_,[],d,a,h,_,vs,b=>by simp[jeK] at h
 | .fn _ _::_,_::_,d,a,h,_,vs,b=>by simp[jeK] at h
 | .rfn _ _::_,[],d,a,h,_,vs,b=>by simp[jeK] at h
 | .val t::ps,sv::svs,d,a,h,hs,vs,b=>by
  simp only[jeK] at h
  split at h
  .rename_i x f l
   split at h
   .rename_i xs n k
    simp at h
    obtain⟨rfl,rfl⟩:=h
    simp only[SV.denL] at b
    obtain⟨v,r,rfl,i,j⟩:=b
    exact⟨jM g e l (fun o c=>hs o (jGV _ c)) i,jan g e m k (fun o c=>hs o (jGU _ c)) j⟩
   .cases h
  .cases h
 | .ref t::ps,sv::svs,d,a,h,hs,vs,b=>by
  simp only[jeK] at h
  split at h
  .rename_i x f l
   split at h
   .rename_i xs n k
    simp at h
    obtain⟨rfl,rfl⟩:=h
    simp only[SV.denL] at b
    obtain⟨v,r,rfl,i,j⟩:=b
    exact⟨jau g e l (fun o c=>hs o (jGV _ c)) i,jan g e m k (fun o c=>hs o (jGU _ c)) j⟩
   .cases h
  .cases h
 | .rfn aZ rs::ps,sv::svs,d,a,h,hs,vs,b=>by
  simp only[jeK] at h
  split at h
  .rename_i x f l
   split at h
   .rename_i xs n k
    simp at h
    obtain⟨rfl,rfl⟩:=h
    simp only[SV.denL] at b
    obtain⟨v,r,rfl,i,j⟩:=b
    exact⟨jky g e m l (fun o c=>hs o (jGV _ c)) i,jan g e m k (fun o c=>hs o (jGU _ c)) j⟩
   .cases h
  .cases h
theorem jdL (o:C.ok P) {τ:St} (q:Sat P B ρ τ.obj w) {fz:List Nat} (p:Frz σ τ fz):∀n,jGu P ρ fz (jpa C σ n)
 |0=>fun ps rs sv d j h=>by simp[jpa] at h
 |n+1=>by
  intro ps rs sv d j h D v m
  unfold jpa at h
  split at h
  .rename_i G H pre F
   split at h
   .rename_i e
    obtain⟨g,i⟩:=e
    subst g i
    simp at h
    obtain⟨rfl,rfl⟩:=h
    simpa[SV.den] using m
   .cases h
  .rename_i f caps
   split at h
   .rename_i s l
    split at h
    .rename_i e
     obtain⟨g,i⟩:=e
     subst g
     split at h
     .rename_i rest k hk
      split at h
      .rename_i y r E
       simp at h
       obtain⟨rfl,rfl⟩:=h
       simp only[SV.den] at m
       obtain⟨vs,rfl,z⟩:=m
       have b:=o.fs f s l i
       refine⟨f,vs,rfl,b.enters,fun H' w' vals x u t a c=> ?_⟩
       have A:=jan q p (jdL o q p n) E D z
       have:=b.calls H' w' (vals++vs.toList) (k x y) t (jdj hk a (pvs.mono u A)) c
       rwa [show(vals++vs.toList).toArray=vals.toArray++vs from by apply jHj.1;simp] at this
      .cases h
     .cases h
    .cases h
   .cases h
  .cases h
theorem jlX (b:C.ok P) {τ:St} (e:Sat P B ρ τ.obj w) {fz:List Nat} (c:Frz σ τ fz) {ps rs:List Ty} {sv:SV} {d:FnD ps rs} {a:List Nat} (h:jDo C σ ps rs sv=some (d,a)) (f:∀o,o∈a->o∈fz)
 {v:Value} (g:SV.den P ρ sv v):FnV P ρ.H ps rs d.pre d.F v:=jdL b e c 4 ps rs sv d a h f v g
theorem ww (m:C.ok P) {τ:St} (g:Sat P B ρ τ.obj w) {fz:List Nat} (e:Frz σ τ fz):
 ∀{ps:List Par} {svs:List SV} {d:PD ps} {a:List Nat},kP C σ ps svs=some (d,a)->(∀o,o∈a->o∈fz)->∀{vs:List Value},SV.denL P ρ svs vs->pvs P ρ.H ps vs d
 |[],[],d,a,h,_,vs,b=>by simpa[SV.denL,pvs] using b
 |[],_::_,d,a,h,_,vs,b=>by simp[kP] at h
 | .val _::_,[],d,a,h,_,vs,b=>by simp[kP] at h
 | .ref _::_,[],d,a,h,_,vs,b=>by simp[kP] at h
 | .fn _ _::_,[],d,a,h,_,vs,b=>by simp[kP] at h
 | .rfn _ _::_,[],d,a,h,_,vs,b=>by simp[kP] at h
 | .val t::ps,sv::svs,d,a,h,hs,vs,b=>by
  simp only[kP] at h
  split at h
  .rename_i x f l
   split at h
   .rename_i xs n k
    simp at h
    obtain⟨rfl,rfl⟩:=h
    simp only[SV.denL] at b
    obtain⟨v,r,rfl,i,j⟩:=b
    exact⟨jM g e l (fun o c=>hs o (jGV _ c)) i,ww m g e k (fun o c=>hs o (jGU _ c)) j⟩
   .cases h
  .cases h
 | .ref t::ps,sv::svs,d,a,h,hs,vs,b=>by
  simp only[kP] at h
  split at h
  .rename_i x f l
   split at h
   .rename_i xs n k
    simp at h
    obtain⟨rfl,rfl⟩:=h
    simp only[SV.denL] at b
    obtain⟨v,r,rfl,i,j⟩:=b
    exact⟨jau g e l (fun o c=>hs o (jGV _ c)) i,ww m g e k (fun o c=>hs o (jGU _ c)) j⟩
   .cases h
  .cases h
 | .fn aZ rs::ps,sv::svs,d,a,h,hs,vs,b=>by
  simp only[kP] at h
  split at h
  .rename_i x f l
   split at h
   .rename_i xs n k
    simp at h
    obtain⟨rfl,rfl⟩:=h
    simp only[SV.denL] at b
    obtain⟨v,r,rfl,i,j⟩:=b
    exact⟨jlX m g e l (fun o c=>hs o (jGV _ c)) i,ww m g e k (fun o c=>hs o (jGU _ c)) j⟩
   .cases h
  .cases h
 | .rfn aZ rs::ps,sv::svs,d,a,h,hs,vs,b=>by
  simp only[kP] at h
  split at h
  .rename_i x f l
   split at h
   .rename_i xs n k
    simp at h
    obtain⟨rfl,rfl⟩:=h
    simp only[SV.denL] at b
    obtain⟨v,r,rfl,i,j⟩:=b
    exact⟨jky g e (jdL m g e 4) l (fun o c=>hs o (jGV _ c)) i,ww m g e k (fun o c=>hs o (jGU _ c)) j⟩
   .cases h
  .cases h
theorem jnq {obj:Nat->Option Ob} (a:Sat P B ρ obj w) (g:∀o b l,ρ.blk o=some (some (b,l))->b<w.heap.size) {H':Imm} {w':World} (c:jDb ρ.H w H' w'):
 Sat P B {ρ with H:=H'} obj w'/\ρ.le {ρ with H:=H'} []:=by
 have e:ρ.le {ρ with H:=H'} []:=⟨c.mono a.good,fun _ _ _ h=>h,fun _ _=>rfl⟩;refine⟨⟨c.below.os.trans a.os,c.below.tape.trans a.tape,c.below.output.trans a.output,jHb a.drawn c.drawn,jHb a.size c.below.size,c.good,?_,?_,?_,a.dead,a.inj,a.own⟩,e⟩
 .intro b f d;have:=a.size;show H' b=_;rw[c.old b (by omega)];exact a.oldH b f d
 .intro b f d;have:=a.size;rw[c.below.block b (by omega)];exact a.old b f d
 .intro o x n;obtain⟨p,k,m⟩:=a.obs o x n;refine⟨p,k,jN e (by simp) (fun _ _ _ _ o' i=>by simp at i) (fun b C' j=> ?_) m⟩;subst j;have:=g o b C' k;exact⟨c.old b this,c.below.block b this⟩
theorem jyz {H:Imm} {t:Ty} (c:t.agg=false) {v:Value} {d:t.Data} (h:t.rv H v d):v.oneCell'=true:=by
 have b:0<t.size:=by cases t<;>simp_all [Ty.agg,Ty.size]
 obtain⟨u,e,a⟩:=ya t _ d (zb c h) 0 b;simp at e;subst e;exact a
theorem jx2 {obj:Nat->Option Ob} (f:Sat P B ρ obj w) (y:∀o b q,ρ.blk o=some (some (b,q))->b<w.heap.size) {o b q T:Nat} {cs:List SV} (K:obj o=some (.box T false cs)) (r:ρ.blk o=some (some (b,q)))
 {H':Imm} {w':World} {u:Value} {sv:SV} (g:jEQ [b] ρ.H w H' w') (F:H' b=none) (J:w'.heap[b]? =some (.cells #[u] T (0,0))) (G:SV.den P {ρ with H:=H'} sv u) (E:u.oneCell'=true):
 Sat P B {ρ with H:=H'} (jgj obj o (some (.box T false [sv]))) w'/\ρ.le {ρ with H:=H'} []:=by
 have v:ρ.H b=none:=by
  obtain⟨p,l,M,L,vs,e,_,_,_,k⟩:=f.obs o _ K;rw[r] at l;simp at l;subst l;simp at e;obtain⟨rfl,rfl⟩:=e;exact k
 have n:ρ.le {ρ with H:=H'} []:=⟨fun a c s=>by
  have t:=f.good.lt s;show H' a=_;rw[g.old a t (by intro i;simp at i;subst i;rw[v] at s;cases s)];exact s,fun _ _ _ h=>h,fun _ _=>rfl⟩
 have out:∀a,a<B.w.heap.size->a∉B.bor->a∉[b]:=by
  intro a m j i;simp at i;subst i;rcases f.own o _ _ r with h|h
  .omega
  .exact j h
 refine⟨⟨g.os.trans f.os,g.tape.trans f.tape,g.output.trans f.output,jHb f.drawn g.drawn,jHb f.size g.size,g.good,?_,?_,?_,?_,f.inj,f.own⟩,n⟩
 .intro a m j;have:=f.size;show H' a=_;rw[g.old a (by omega) (out a m j)];exact f.oldH a m j
 .intro a m j;have:=f.size;rw[g.block a (by omega) (out a m j)];exact f.old a m j
 .intro o' x d;unfold jgj at d
  split at d
  .rename_i e;subst e;simp at d;subst d;refine⟨_,r,b,q,#[u],rfl,J,?_,by simpa using E,F⟩;simp only[SV.denL];exact⟨u,[],rfl,G,rfl⟩
  .rename_i z;obtain⟨p,l,I⟩:=f.obs o' x d;refine⟨p,l,jN n (by simp) (fun _ _ _ _ o2 A=>by simp at A) (fun a C' C=> ?_) I⟩;subst C;have t:=y o' a C' l;have D:a∉[b]:=by
    intro i;simp at i;subst i;exact z (f.inj o' o _ _ _ l r)
   exact⟨g.old a t D,g.block a t D⟩
 .intro o' d;unfold jgj at d
  split at d
  .cases d
  .exact f.dead o' d
theorem jaB {H:Imm} (a:ρ.H=H):∀(rs:List Ty) (vs:List Value) (d:(Ty.st rs).Data),rvs H rs vs d->SV.denL P ρ (results rs d) vs
 |[],vs,d,h=>by simpa[results,SV.denL,rvs] using h
 |t::ts,[],d,h=>h.elim
 |t::ts,v::vs,d,h=>by
  simp only[results,SV.denL]
  exact⟨v,vs,rfl,by simp only[SV.den];rw[a];exact h.1,jaB a ts vs d.2 h.2⟩
theorem jjt {H:Imm} (a:ρ.H=H):∀{rs:List Ty} {v:Value} {d:(Ty.st rs).Data},jEU H rs v d->SV.den P ρ (jpG rs d) v
 |[t],v,d,h=>by
  simp only[jpG,results,SV.den]
  rw[a];exact h
 |[],v,d,h=>by
  obtain⟨vs,rfl,h⟩:=h
  simp only[jpG,results,SV.den]
  exact⟨vs,rfl,jaB a [] _ d h⟩
 |t::u::ts,v,d,h=>by
  obtain⟨vs,rfl,h⟩:=h
  have:=jaB (P:=P) a (t::u::ts) _ d h
  simp only[jpG,results,SV.den] at this⊢
  exact⟨vs,rfl,this⟩
theorem jx3 {obj:Nat->Option Ob} (a:Sat P B ρ obj w) {w':World} (d:Below w.heap.size w w') (h:w.drawn<=w'.drawn):Sat P B ρ obj w':=by
 have i:∀o x,obj o=some x->∀b m,ρ.blk o=some (some (b,m))->b<w.heap.size:=by
  intro o x g b m f;obtain⟨p,e,l⟩:=a.obs o x g;rw[f] at e;simp at e;subst e;exact jiz l
 refine⟨d.os.trans a.os,d.tape.trans a.tape,d.output.trans a.output,jHb a.drawn h,jHb a.size d.size,?_,a.oldH,?_,?_,a.dead,a.inj,a.own⟩
 .refine⟨fun b c n=> ?_,a.good.2⟩;rw[d.block b (a.good.lt n)];exact a.good.1 b c n
 .intro b q r;have:=a.size;rw[d.block b (by omega)];exact a.old b q r
 .intro o x g;obtain⟨p,f,l⟩:=a.obs o x g;refine⟨p,f,jN (Env.le.refl ρ []) (by simp) (fun _ _ _ _ o' j=>by simp at j) (fun b C' k=>⟨rfl,?_⟩) l⟩;subst k;exact d.block b (i o x g b C' f)
theorem joh {H H':Imm}:∀(t:Ty) (f:Nat->Option Value) (d:t.Data),jqJ t=true->t.rd H f d->t.rd H' f d
 | .int,_,_,_,h=>h
 | .bool,_,_,_,h=>h
 | .uint _,_,_,_,h=>h
 | .unit,_,_,_,_=>trivial
 | .slice _,_,_,c,_=>by cases c
 | .map _ _,_,_,c,_=>by cases c
 | .ptr _,_,_,c,_=>by cases c
 | .pair a b,f,d,c,h=>by
  simp only[jqJ] at c
  split at c
  .rename_i e;exact⟨joh a _ _ e h.1,joh b _ _ c h.2⟩
  .cases c
theorem juH {H H':Imm}:∀(rs:List Ty) (vs:List Value) (d:(Ty.st rs).Data),jwp rs=true->rvs H rs vs d->rvs H' rs vs d
 |[],vs,d,_,h=>h
 |t::ts,[],d,_,h=>h.elim
 |t::ts,v::vs,d,hf,h=>by
  simp only[jwp] at hf
  split at hf
  .rename_i a;exact⟨⟨h.1.1,h.1.2.1,joh t _ _ a h.1.2.2⟩,juH ts vs d.2 hf h.2⟩
  .cases hf
theorem jzz {H H':Imm}:∀{rs:List Ty} {v:Value} {d:(Ty.st rs).Data},jwp rs=true->jEU H rs v d->jEU H' rs v d
 |[t],v,d,a,h=>by
  simp only[jwp] at a
  split at a
  .rename_i b;exact⟨h.1,h.2.1,joh t _ _ b h.2.2⟩
  .cases a
 |[],v,d,a,h=>h
 |t::u::ts,v,d,a,h=>by
  obtain⟨vs,e,h⟩:=h
  exact⟨vs,e,juH (t::u::ts) _ d a h⟩
theorem jkU (l:Sat P B ρ σ.obj w) (fz:List Nat) {rs:List Ty} {r:(Ty.st rs).Data} {vc:List Prop} {k:FuncId} {args:Array Value}
 (h:∀d,Sat P B d (σ.frz fz).obj w->ρ.le d []->Calls P k args w (jDa d.H w rs r)):
 Calls P k args w (fun e w'=>∃v,e= .returned v/\jB P B ρ σ ⟨vc,[],jpG rs r,jF6 rs fz,[],[]⟩ v w'):=by
 unfold jF6;obtain⟨ρ1,c,a,_,_⟩:=jR fz l;refine(h ρ1 c a).mono fun e w' p=> ?_
 obtain⟨v,H',rfl,g,m⟩:=p
 split
 .rename_i j;refine⟨v,rfl,ρ,?_,Env.le.refl _ _,jjt rfl (jzz j m),trivial⟩;exact jx3 l g.below g.drawn
 obtain⟨i,f⟩:=jnq c (fun o b q n=>(vI (σ:=σ.frz fz) c n).1) g;refine⟨v,rfl,_,?_,a.trans f,jjt rfl m,trivial⟩;show Sat P B _ (σ.frz fz).obj w';exact i
theorem jzV {dst:Nat} {c:Call} {f:Operand} (hC:C.ok P) (hop:o.op= .call c) (hc:c.callee= .value f) (h:jmG C σ dst (jJ σ f) (c.args.toList.map (jJ σ))=some out) (hS:Sat P B ρ σ.obj w)
 (Q:∀x,SV.den P ρ (jJ σ x) (ev x)) (A:kL out.vc) (hd:σ.obj dst=none) (hn:kx σ.obj dst):jC P o ev w (jB P B ρ σ out):=by
 have i:=yO (P:=P) (ρ:=ρ) (σ:=σ) Q c.args.toList;have g:=Q f;have l:∀(k:Nat) (caps:Array Value),ev f= .func (.func k) #[] caps->enters P k->(execOp ev o).run P w= .ok (.enter k (c.args.map ev++caps)) w:=by
  intro k caps e j;simp only[execOp,hop,Sem.run_bind,resolve,hc,Deferred.ofValue,e,Sem.run_pure,Result.andThen_ok,invoke];rw[<-j (c.args.map ev++caps) w];simp
 unfold jmG at h
 split at h
 .rename_i k caps R;rw[R] at g;simp only[SV.den] at g;obtain⟨vs,D,M⟩:=g;have E:=wu _ _ _ _ i M
  split at h
  .rename_i s hs
   split at h
   .rename_i d fz Z
    split at h
    .rename_i W;simp at h;subst h;have S:=hC.fs k s hs W;unfold jC;rw[l k vs D S.enters];simp only;refine jkU hS fz fun y q z=> ?_
     have a:SV.denL P y (c.args.toList.map (jJ σ)++caps) (c.args.toList.map ev++vs.toList):=SV.denL_mono z _ _ (fun o n=>by simp at n) E;have:=S.calls y.H w _ d q.good (ww hC q (wO σ fz) Z (fun o n=>n) a) A
     rwa [show(c.args.toList.map ev++vs.toList).toArray=c.args.map ev++vs from by apply jHj.1;simp] at this
    .cases h
   .cases h
  .rename_i hs;obtain⟨j,L⟩:=hC.eff k dst σ _ out h;unfold jC;rw[l k vs D j];simp only;have:=L B ρ w _ hS E A hd hn
   rwa [show(c.args.toList.map ev++vs.toList).toArray=c.args.map ev++vs from by apply jHj.1;simp] at this
 .rename_i ps rs pre F R;rw[R] at g;simp only[SV.den] at g
  split at h
  .rename_i d fz Z;simp at h;subst h;obtain⟨k,caps,D,j,hk⟩:=g;unfold jC;rw[l k caps D j];simp only;refine jkU hS fz fun y q z=> ?_
   have a:SV.denL P y (c.args.toList.map (jJ σ)) (c.args.toList.map ev):=SV.denL_mono z _ _ (fun o n=>by simp at n) i;have:=hk y.H w _ d z.H q.good (jam q (wO σ fz) Z (fun o n=>n) a) A
   rwa [show(c.args.toList.map ev).toArray++caps=c.args.map ev++caps from by apply jHj.1;simp] at this
  .cases h
 .rename_i ob T st ps rs pre K R;rw[R] at g;simp only[SV.den] at g
  split at h
  .rename_i d fz T' sc Z hx
   split at h
   .rename_i s hT hm hst hs;simp at h;subst h;have:=jGT hT;subst this;obtain⟨ρ1,m,t,J,_⟩:=jR fz hS;have Y:(σ.frz fz).obj ob=some (.box T false [sc]):=(by rw[ku,if_neg (w6 hm)];exact hx);obtain⟨p,hp,b,Cp,vs,rfl,hw,O,h1,I⟩:=m.obs ob _ Y;have I:ρ1.H b=none:=I;simp only[SV.denL] at O;obtain⟨u,r,G,hdu,rfl⟩:=O;have G:vs= #[u]:=jHj.1 (by simpa using G);subst G;obtain⟨b2,C2,e2,u2,hF,hv2⟩:=g _ (by rw[<-J];exact hp);simp at e2;obtain⟨rfl,rfl⟩:=e2;obtain⟨k,caps,D,j,hk⟩:=hF;have D:ev f= .func (.func k) #[] caps:=hv2.trans D;unfold jC;rw[l k caps D j];simp only;have a:SV.denL P ρ1 (c.args.toList.map (jJ σ)) (c.args.toList.map ev):=SV.denL_mono t _ _ (fun o n=>by simp at n) i;have hsu:=jM m (wO σ fz) hs (fun o n=>by simp at n) hdu;have N:=hk ρ1.H w _ d s u t.H m.good I hw hsu (jam m (wO σ fz) Z (fun o n=>n) a) A;rw[show(c.args.toList.map ev).toArray++caps=c.args.map ev++caps from by apply jHj.1;simp] at N;refine N.mono fun e w' he=> ?_
    obtain⟨v,H',u',rfl,hE,hH',hw',X,hr⟩:=he;obtain⟨hS2,V⟩:=jx2 m (fun o b Cp hb=>(vI (σ:=σ.frz fz) m hb).1) Y hp hE hH' hw' (sv:= .dat st (K d s).2) (by simp only[SV.den];exact X) (jyz hst X);refine⟨v,rfl,{ρ1 with H:=H'},?_,t.trans V,jjt rfl hr,trivial⟩;show Sat P B _ ({(σ.frz fz) with ob:=(ob,some (.box T false [.dat st (K d s).2]))::(σ.frz fz).ob}:St).obj w';rw[wd];exact hS2
   .cases h
  .cases h
 .cases h
theorem jFm (a b:Int):(if b<a then b else a)=min a b:=by rw[Int.min_def];split<;>split<;>omega
theorem jFo (a b:Int):(if b>a then b else a)=max a b:=by rw[Int.max_def];split<;>split<;>omega
theorem jfT:∀(l:List SV) (vs:List Value) (a m:Int),jkw l a=some m->SV.denL P ρ l vs->(vs.foldlM Builtin.min2 (.int .i64 a)).run P w= .ok (.int .i64 m) w
 |[],vs,a,m,h,c=>by
  simp[jkw] at h;simp[SV.denL] at c;subst h c;simp
 |x::l,vs,a,m,h,c=>by
  unfold jkw at h
  split at h
  .rename_i e;cases e
  .rename_i a _ _ b r d
   cases d
   simp only[SV.denL] at c
   obtain⟨v,j,rfl,f,g⟩:=c
   have i:=zt (by simpa[SV.den] using f)
   subst i
   have:=jfT l j (min a b) m h g
   rw[List.foldlM_cons]
   simp only[Builtin.min2,Sem.run_bind,Sem.run_pure,Result.andThen_ok]
   have e:=jFm a b
   exact Eq.trans (by rw[<-e]) this
  .cases h
theorem jfU:∀(l:List SV) (vs:List Value) (a m:Int),jkx l a=some m->SV.denL P ρ l vs->(vs.foldlM Builtin.max2 (.int .i64 a)).run P w= .ok (.int .i64 m) w
 |[],vs,a,m,h,c=>by
  simp[jkx] at h;simp[SV.denL] at c;subst h c;simp
 |x::l,vs,a,m,h,c=>by
  unfold jkx at h
  split at h
  .rename_i e;cases e
  .rename_i a _ _ b r d
   cases d
   simp only[SV.denL] at c
   obtain⟨v,j,rfl,f,g⟩:=c
   have i:=zt (by simpa[SV.den] using f)
   subst i
   have:=jfU l j (max a b) m h g
   rw[List.foldlM_cons]
   simp only[Builtin.max2,Sem.run_bind,Sem.run_pure,Result.andThen_ok]
   have e:=jFo a b
   exact Eq.trans (by rw[<-e]) this
  .cases h
theorem jf1 {T:Nat} {x:Operand} {ti:TI} (i:C.ok P) (b:o.op= .makeInterface T x) (c:C.info T=some ti) (j:Sat P B ρ σ.obj w):jC P o ev w (jB P B ρ σ (.pure .any)):=by
 obtain⟨rfl,a⟩:=i.ti _ _ c;have m:∃d,P.underlying ti.id=some d/\∀ms,d≠.interface ms:=by
  cases f:ti.agg with
  |true=>
   cases g:ti.arr with
   |false=>obtain⟨fs,e,_⟩:=a.str f g;exact⟨_,e,by simp⟩
   |true=>obtain⟨_,n,ie,e,_⟩:=a.arrk g;exact⟨_,e,by simp⟩
  |false=>obtain⟨d,e,_,_,h,_⟩:=a.flat f;exact⟨_,e,h⟩
 obtain⟨d,k,l⟩:=m;refine ji j (v:= .iface ti.id (ev x)) ?_ (kV _) trivial;simp only[execOp,b,Instr.makeInterface,Sem.run_bind,run_underlying k,Result.andThen_ok];cases d<;>simp_all
theorem jtt {U n:Nat} {a:Array (Nat×Operand)} (hC:C.ok P) (T:o.op= .buildSlice U n a) (h:jAe C σ U n a.toList=some out) (hS:Sat P B ρ σ.obj w)
 (Q:∀x,SV.den P ρ (jJ σ x) (ev x)):jC P o ev w (jB P B ρ σ out):=by
 unfold jAe at h
 split at h
 case h_2=>cases h
 rename_i ti te W
 split at h
 case h_2=>cases h
 rename_i l fz hl
 split at h
 case h_2=>cases h
 rename_i r G;simp at h;subst h;have r:=jGT r;subst r;have G:=jHa G;obtain⟨_,X,_,g,m,hka,R,E⟩:=zw hC W;obtain⟨i,z,N,g1,g2,g3,g4,_⟩:=g.info;rw[X] at N;obtain⟨ρ1,d,f,hb1,hl1⟩:=jR fz hS;have u:∀x,SV.den P ρ1 (jJ σ x) (ev x):=fun x=>SV.den_mono f _ _ (fun o S=>by simp at S) (Q x)
 obtain⟨vs,L,e2,M,e4⟩:=gg d (wO σ fz) u a.toList 0 l fz hl (fun o S=>S);have hzs:z.cells.size=te.size:=(by rw[<-g.zlen,<-g4];simp);have s:0<te.size:=E;have q:Instr.fill (fun i=>some (i*te.size,te.size)) ((Array.range (l.length*te.size)).map (z.cells[·%z.cells.size]!)) (a.map fun(i,x)=>(i,ev x)).toList=
  some (vs.flatMap fun v=>v.cells.toList).toArray:=by
  have:=Great.fill_whole s vs ((Array.range (l.length*te.size)).map (z.cells[·%z.cells.size]!)) (fun v Y=>by rw[M v Y,R]) (by simp[e2]);rw[<-this];congr 1;simpa using L
 have J:=joi vs M;have F:(execOp ev o).run P w= .ok (.value (.slice (some ⟨w.heap.size,0,none⟩) l.length l.length)) (w.alloc (.cells (vs.flatMap fun v=>v.cells.toList).toArray ti.elem)):=by
  have:(Instr.buildSlice U l.length (a.map fun(i,x)=>(i,ev x))).run P w= .ok (.slice (some ⟨w.heap.size,0,none⟩) l.length l.length) (w.alloc (.cells (vs.flatMap fun v=>v.cells.toList).toArray ti.elem)):=by
   have p:i.size=te.size:=g1;by_cases Z:l.length=0
   .have I:vs=[]:=jHE (by omega);have V:a= #[]:=by
     subst I;simp at L;exact L
    subst V I;simp[Instr.buildSlice,run_underlying m,sizeOf,typeInfo,N,Z,newRow,Instr.fill,show Array.range 0= #[] from rfl]
   .exact run_buildSlice w U ti.elem l.length _ _ i z m N g3 (by rw[p];omega) (by rw[p];have:=Nat.mul_pos (Nat.pos_of_ne_zero Z) s;omega) (by rw[p];exact q)
  simp only[execOp,T,Sem.run_bind];rw[this];simp
 refine za F ?_;have K:l.length<=16777216:=by
  have:l.length*1<=l.length*te.size:=jIe _ s;omega
 have D:=heap_alloc_new w (.cells (vs.flatMap fun v=>v.cells.toList).toArray ti.elem);have t:=w.grownBy_alloc (.cells (vs.flatMap fun v=>v.cells.toList).toArray ti.elem) none;have hHn:ρ1.H w.heap.size=none:=by
  cases hc:ρ1.H w.heap.size with
  |none=>rfl
  |some c=>have:=d.good.lt hc;omega
 have hE:jDb ρ1.H w (fun b=>if b=w.heap.size then some (.cells (vs.flatMap fun v=>v.cells.toList).toArray) else ρ1.H b) (w.alloc (.cells (vs.flatMap fun v=>v.cells.toList).toArray ti.elem)):=by
  refine⟨⟨t.os,t.tape,t.output,t.size,fun k hk=>t.block k (by omega) (by simp)⟩,⟨fun b c e=> ?_,d.good.2.mono (fun b c e=>by
   have A:=d.good.lt e;show(if b=w.heap.size then _ else _)=_;rw[if_neg (by omega)];exact e)⟩,fun b e=>if_neg (by omega),jGY _⟩
  dsimp only at e
  by_cases he:b=w.heap.size
  .subst he;rw[if_pos rfl] at e;simp at e;subst e;exact⟨_,_,D⟩
  .rw[if_neg he] at e;have A:=d.good.lt e;have:=d.good.1 b c e;rw[t.block b A (by simp)];exact this
 obtain⟨O,y⟩:=jnq d (fun o b Cp e=>(vI (σ:=σ.frz fz) d e).1) hE;refine⟨_,?_,f.trans y,?_,trivial⟩
 .show Sat P B _ (σ.frz fz).obj _;exact O
 .simp only[SV.den];refine⟨rfl,rfl,_,_,_,rfl,rfl,jGY _,by omega,by simp,fun _=>⟨_,0,_,rfl,if_pos rfl,fun k x hx=> ?_⟩⟩;have hi:k<vs.length:=(by have:=(jGZ.1 hx).1;omega);have Y:=e4 k _ x (jG2 hi) hx;refine te.ty.rd_mono (hE.mono d.good) _ _ (te.ty.rd_congr _ _ _ (fun j hj=> ?_) Y.2.2);have:=jkz vs M k j _ (jG2 hi) hj;simpa using this.symm
theorem jwF {c:Call} (hC:C.ok P) (W:o.op= .call c) (hc:c.callee= .builtin .clear) (h:jEu C σ c.args.toList c.argTypes.toList=some out) (hS:Sat P B ρ σ.obj w)
 (hev:∀x,SV.den P ρ (jJ σ x) (ev x)) (hvc:kL out.vc):jC P o ev w (jB P B ρ σ out):=by
 unfold jEu at h
 split at h
 case h_2=>cases h
 rename_i x U i s;have i:c.args= #[x]:=(by rw[<-jHj];exact i);have s:c.argTypes= #[U]:=by rw[<-jHj];exact s
 split at h
 case h_2=>cases h
 rename_i ti te ob u lo n g hx
 split at h
 case h_2=>cases h
 rename_i E t nl l T
 split at h
 case h_2=>cases h
 rename_i l' hl' X;simp at h;subst h;obtain⟨e,rfl⟩:=jk hl';have e':t=te.ty:=(by injection e);subst e';have X:u=te.ty:=by
  unfold vw at X
  split at X
  .assumption
  .cases X
 subst X;obtain⟨p,hp,k1,k0,k2⟩:=hS.obs ob _ T;have f:=hev x;rw[hx] at f;simp only[SV.den] at f;have f:=f p hp;have hlen:lo+n=l.length:=hvc.1;obtain⟨_,hte,_,r,I,hka,hks,hpos⟩:=zw hC g;obtain⟨_,z,_,_,_,_,hz,L,_⟩:=qc r;rw[hte] at hz;have Y:z.cells.size=te.ty.size:=(by rw[hks,<-r.zlen,<-L];simp);have J:qj e l=l:=rfl;rw[J];rcases jH8 n with h0|h0
 .subst h0;have D:∃a F,ev x= .slice a 0 F:=by
   cases p with
   |none=>obtain⟨e,_⟩:=f;exact⟨_,_,e⟩
   |some q=>obtain⟨b,Cp⟩:=q;obtain⟨a,F,e,_⟩:=f;exact⟨_,_,e⟩
  obtain⟨a,F,D⟩:=D;have hl:l.take lo++List.replicate 0 te.ty.dflt=l:=by
   rw[List.replicate_zero,jHq,jHA (by omega)]
  refine za (v:= .tuple #[]) (w':=w) ?_ ⟨ρ,?_,Env.le.refl _ _,kV _,trivial⟩
  .simp only[execOp,W,Sem.run_bind,resolve,hc,i,s,Sem.run_pure,Result.andThen_ok,invoke,builtin];cases a<;>simp[Builtin.clear_,D,run_underlying I]
  .show Sat P B ρ ({σ with ob:=(ob,_)::(qt σ []++σ.ob)}:St).obj _;simp only[qt,jHr];rw[wd,hl];have:jgj σ.obj ob (some (.row E te.ty false nl l))=σ.obj:=funext fun k=>by
    unfold jgj
    split
    .rename_i hk;rw[hk];exact T.symm
    .rfl
   rw[this];exact hS
 .cases p with
  |none=>obtain⟨_,e⟩:=f;omega
  |some q=>
   obtain⟨b,Cp⟩:=q;obtain⟨a,F,hv,v2,v3,v4,v5⟩:=f;have v5:=v5 (.inr (by omega));subst v5;obtain⟨k3,vs,hw,hvs,hlC,Z,hr,hH⟩:=k2;simp only[fzH] at hH;have M:(Builtin.zeroCells z.cells n).toList.length=n*te.ty.size:=(by rw[jHx,qP,Y]);have S:(lo+n)*te.ty.size<=Cp*te.ty.size:=jHe _ (by omega);rw[jHK] at S;have V:∀v∈(Builtin.zeroCells z.cells n).toList,v.oneCell'=true:=by
    intro v hv;obtain⟨m,N⟩:=List.mem_iff_getElem?.1 hv;rw[jHI,jbw] at N
    split at N
    .simp at N;have K:m%z.cells.size<z.cells.size:=Nat.mod_lt _ (by omega);rw[getElem!_pos z.cells _ K] at N;refine r.one v ?_;rw[<-L,<-N];simp
    .cases N
   have G:=run_storeCells_at P b (lo*te.ty.size) E (Builtin.zeroCells z.cells n).toList 0 vs w hw (by rw[M,hvs];omega) V;simp only[jIa,M] at G;obtain⟨f1,f2⟩:=qX w hw (vs.toList.take (lo*te.ty.size)++(Builtin.zeroCells z.cells n).toList++vs.toList.drop (lo*te.ty.size+n*te.ty.size)).toArray;refine za (v:= .tuple #[]) (w':=w.setRow b (vs.toList.take (lo*te.ty.size)++(Builtin.zeroCells z.cells n).toList++vs.toList.drop (lo*te.ty.size+n*te.ty.size)).toArray) ?_ ⟨ρ,?_,Env.le.refl _ _,kV _,trivial⟩
   .simp only[execOp,W,Sem.run_bind,resolve,hc,i,s,Sem.run_pure,Result.andThen_ok,invoke,builtin];obtain⟨n',rfl⟩:∃n',n=n'+1:=⟨n-1,by omega⟩;simp[Builtin.clear_,hv,run_underlying I,hz,G]
   .show Sat P B ρ ({σ with ob:=(ob,_)::(qt σ []++σ.ob)}:St).obj _;simp only[qt,jHr];rw[wd];refine jbM hS hp hH _ f1 ?_;have A:(l.take lo++List.replicate n te.ty.dflt).length=l.length:=(by simp;omega);have Q:(vs.toList.take (lo*te.ty.size)).length=lo*te.ty.size:=(by simp;omega);refine⟨by rw[A];exact k1,by rw[A];exact k0,fun _ hn=> ?_,_,f2,?_,by rw[A];exact hlC,Z,?_,by simpa[fzH] using hH⟩
    .rw[hn] at A;simp at A;omega
    .simp only[List.size_toArray,jHk,Q,M,jIh,jHx];omega
    .intro k y O;by_cases hk:k<lo
     .rw[jG9 (by simp;omega),jHl hk] at O;refine te.ty.rd_congr _ _ _ (fun j hj=> ?_) (hr k y O);have:(k+1)*te.ty.size<=lo*te.ty.size:=jHe _ hk;rw[jHF] at this;simp only[jH7,jHf];rw[jG9 (by omega),jHl (by omega)];simp
     .have K:k<(l.take lo++List.replicate n te.ty.dflt).length:=(jGZ.1 O).1;rw[A] at K;have htl:(l.take lo).length=lo:=(by simp;omega);rw[jG8 (by omega),htl,List.getElem?_replicate,if_pos (by omega)] at O;simp at O;subst O;have hkn:z8 te.ty=true:=by
       unfold Ctx.slice at g
       split at g
       .split at g
        .split at g
         .split at g
          .rename_i hk;simp at g;rw[<-g.2];exact hk
          .cases g
         .cases g
        .cases g
       .cases g
      refine te.ty.rd_congr _ _ _ (fun j hj=> ?_) (r.zd hkn ρ.H);obtain⟨d,rfl⟩:∃d,k=lo+d:=⟨k-lo,by omega⟩;have h1:(d+1)*te.ty.size<=n*te.ty.size:=jHe _ (by omega);rw[jHF] at h1;simp only[jH7,jHf];rw[jHK,jG8 (by omega),Q,jG9 (by omega),jHI,jbw,Y,if_pos (by omega)];have R:(lo*te.ty.size+d*te.ty.size+j-lo*te.ty.size)%te.ty.size=j:=by
       rw[show lo*te.ty.size+d*te.ty.size+j-lo*te.ty.size=j+d*te.ty.size by omega,Nat.add_mul_mod_self_right,Nat.mod_eq_of_lt hj]
      rw[R,getElem!_pos z.cells j (by omega),<-L];rw[jHI,jHo (by omega)]
theorem jqR {dst:Nat} (k:C.ok P) (h:jx C σ dst o.op=some out) (g:Sat P B ρ σ.obj w) (d:∀x,SV.den P ρ (jJ σ x) (ev x)) (j:kL out.vc)
 (p:out.nw≠[]->σ.obj dst=none/\kx σ.obj dst/\∀x cs,cells σ (jJ σ x)=some cs->SV.refs.refsL dst cs=false) (u:∀c,o.op= .call c->c.callee≠.builtin .clear->σ.obj dst=none/\kx σ.obj dst):jC P o ev w (jB P B ρ σ out):=by
 cases b:o.op with
 |move x=>rw[b] at h;simp[jx] at h;subst h;exact jqT (.inl b) g (d x)
 |assign x=>rw[b] at h;simp[jx] at h;subst h;exact jqT (.inr b) g (d x)
 |alloc E=>
  rw[b] at h;have q:out.nw≠[]:=by
   simp only[jx] at h
   split at h
   .simp at h;subst h;simp
   .cases h
  exact jwH k b h g (p q).1 (p q).2.1
 |box E x=>
  rw[b] at h;have q:out.nw≠[]:=by
   simp only[jx] at h
   split at h
   .split at h
    .simp at h;subst h;simp
    .cases h
   .cases h
  exact jB2 k b h g (d x) (p q).1 (p q).2.1 (fun cs=>(p q).2.2 x cs)
 |build U D=>rw[b] at h;exact jwG k b h g d
 |buildSlice U n D=>
  rw[b] at h;have q:out.nw≠[]:=by
   simp only[jx] at h
   split at h
   .split at h
    .split at h
     .simp at h;subst h;simp
     .cases h
    .cases h
   .cases h
  exact jkJ k b h g d (p q).1 (p q).2.1
 |load U a=>rw[b] at h;exact jzT k b h g (d a) j
 |store U a x=>rw[b] at h;exact jwx k b h g (d a) (d x)
 |nilCheck x=>rw[b] at h;exact jot b h g (d x) j
 |fieldAddr U x f=>rw[b] at h;exact jlL k b h g (d x) j
 |field U x f=>rw[b] at h;exact jwD k b h g (d x)
 |indexAddr U x A=>rw[b] at h;exact jlK k b h g (d x) (d A) j
 |binOp op U x y t=>rw[b] at h;simp only[jx] at h;exact jB3 k b h g (d x) (d y) j
 |index U x A=>rw[b] at h;exact jwC k b h g (d x) (d A) j
 |unOp op T x=>rw[b] at h;exact jzR b h g (d x) j
 |convert V U x=>rw[b] at h;exact jqW k b h g (d x) j
 |makeFunc f fs cs=>rw[b] at h;exact jou b h g d
 |slice U x lo hi O=>
  rw[b] at h;cases O with
  |none=>exact jwy k b h g d j
  |some m=>
   cases lo with
   |some l=>simp[jx] at h
   |none=>
    cases hi with
    |none=>simp[jx] at h
    |some hi=>exact jtr k b h g d j
 |extract x i=>rw[b] at h;exact jqV b h g (d x)
 |panic x=>rw[b] at h;simp[jx] at h;subst h;exact jwB j
 |makeMap U r=>
  rw[b] at h;cases r with
  |some r=>simp[jx] at h
  |none=>
   have q:out.nw≠[]:=by
    simp only[jx,k.lit] at h
    split at h
    .simp at h;subst h;simp
    .rename_i e _;cases e
    .cases h
   exact jqU k b h g (p q).1 (p q).2.1
 |lookup U x A ok=>rw[b] at h;exact jts k b h g (d x) (d A)
 |mapUpdate U m A x=>rw[b] at h;exact jdu k (.inl b) h g (d m) (d A) (d x)
 |insert U m A x=>rw[b] at h;simp only[jx,k.lit] at h;exact jdu k (.inr b) h g (d m) (d A) (d x)
 |makeSlice U l c=>
  rw[b] at h;have q:out.nw≠[]:=by
   simp only[jx,jBx] at h
   split at h
   .simp at h;subst h;simp
   .cases h
  exact jlJ k b h g (p q).1 (p q).2.1 d j
 |entryStore U m st x=>rw[b] at h;exact jkI k b h g (d m) (d st) (d x) j
 |range U x=>
  rw[b] at h;have q:out.nw≠[]:=by
   simp only[jx] at h
   split at h
   .split at h
    .simp at h;subst h;simp
    .cases h
   .cases h
  exact jwA k b h g (p q).1 (p q).2.1 (d x)
 |entry it=>rw[b] at h;exact jwE b h g (d it)
 |makeInterface T x=>
  rw[b] at h;simp only[jx] at h
  split at h
  .rename_i ti L;simp at h;subst h;exact jf1 k b L g
  .cases h
 |call c=>
  rw[b] at h;simp only[jx] at h
  split at h
  .rename_i f N;have z:=u c b (by rw[N];simp);exact jzV k b N h g d j z.1 z.2
  .rename_i s;exact jB0 k b s h g d
  .rename_i s;have z:=u c b (by rw[s];simp);exact jtu k b s h g d j z.1 z.2
  .rename_i s;exact jwF k b s h g d j
  .rename_i s;exact jzU k b s h g d j
  .rename_i s;exact jB1 k b s h g d
  .rename_i s
   split at h
   .rename_i a r J
    split at h
    .rename_i m K;simp at h;subst h;have p:=yO (P:=P) (ρ:=ρ) (σ:=σ) d c.args.toList;rw[J] at p;simp only[SV.denL] at p;obtain⟨v,F,e,H,I⟩:=p;have M:=zt (by simpa[SV.den] using H);subst M;refine ji g (v:= .int .i64 m) ?_ (wL m) trivial;have G:(c.args.map ev).toList= .int .i64 a::F:=(by simpa using e);simp only[execOp,b,Sem.run_bind,resolve,s,Sem.run_pure,Result.andThen_ok,invoke,builtin,Builtin.min_,G,jfT r F a m K I]
    .cases h
   .cases h
  .rename_i s
   split at h
   .rename_i a r J
    split at h
    .rename_i m K;simp at h;subst h;have p:=yO (P:=P) (ρ:=ρ) (σ:=σ) d c.args.toList;rw[J] at p;simp only[SV.denL] at p;obtain⟨v,F,e,H,I⟩:=p;have M:=zt (by simpa[SV.den] using H);subst M;refine ji g (v:= .int .i64 m) ?_ (wL m) trivial;have G:(c.args.map ev).toList= .int .i64 a::F:=(by simpa using e);simp only[execOp,b,Sem.run_bind,resolve,s,Sem.run_pure,Result.andThen_ok,invoke,builtin,Builtin.max_,G,jfU r F a m K I]
    .cases h
   .cases h
  .cases h
 |_=>rw[b] at h;simp[jx] at h
end
end Go.X
namespace Go.X
open Go.RowKit (Below)
theorem kh:∀(l:List Nat) (k:Nat),yg l k=true↔k∈l
 |[],k=>by simp[yg]
 |j::r,k=>by
  simp only[yg]
  cases h:Nat.beq j k with
  |true=>have:=jGT h;subst this;simp
  |false=>
   have a:j≠k:=jW h
   simp only[kh r k,jGX]
   constructor
   .exact .inr
   .rintro(e|e)
    .exact absurd e.symm a
    .exact e
theorem zU:∀(l r:List Nat) (k:Nat),k∈qo l r↔k∈l\/k∈r
 |[],r,k=>by simp[qo]
 |o::l,r,k=>by
  simp only[qo]
  cases h:yg r o with
  |true=>
   have:=(kh r o).1 h
   rw[zU l r k]
   constructor
   .rintro(e|e)
    .exact .inl (jG0 _ e)
    .exact .inr e
   .rintro(e|e)
    .rcases jGX.1 e with rfl|e
     .exact .inr this
     .exact .inl e
    .exact .inr e
  |false=>
   rw[zU l (o::r) k]
   simp only[jGX]
   constructor
   .rintro(e|e|e)
    .exact .inl (.inr e)
    .exact .inl (.inl e)
    .exact .inr e
   .rintro((e|e)|e)
    .exact .inr (.inl e)
    .exact .inl e
    .exact .inr (.inr e)
theorem qC:∀(l r:List Nat),jbE l r=true->∀k,k∈l->k∈r
 |[],r,_,k,hk=>by simp at hk
 |o::l,r,h,k,hk=>by
  simp only[jbE] at h
  cases a:yg r o with
  |false=>rw[a] at h;cases h
  |true=>
   rw[a] at h
   rcases jGX.1 hk with rfl|hk
   .exact(kh r k).1 a
   .exact qC l r h k hk
mutual
theorem jsu:∀(sv:SV) (o:Nat),sv.refs o=true->o∈sv.rl
 | .any,o,h=>by simp[SV.refs] at h
 | .dat _ _,o,h=>by simp[SV.refs] at h
 | .ep _ _,o,h=>by simp[SV.refs] at h
 | .bp o' _,o,h=>by simp only[SV.refs] at h;simp[SV.rl,jGT h]
 | .own o' _,o,h=>by simp only[SV.refs] at h;simp[SV.rl,jGT h]
 | .osl o' _ _ _,o,h=>by simp only[SV.refs] at h;simp[SV.rl,jGT h]
 | .rp o' _ _ _,o,h=>by simp only[SV.refs] at h;simp[SV.rl,jGT h]
 | .mp o',o,h=>by simp only[SV.refs] at h;simp[SV.rl,jGT h]
 | .ip o',o,h=>by simp only[SV.refs] at h;simp[SV.rl,jGT h]
 | .fe _ o' _ _ _ _ _ _,o,h=>by simp only[SV.refs] at h;simp[SV.rl,jGT h]
 | .fn _ _ _ _,o,h=>by simp[SV.refs] at h
 | .fnp _ _ _ _,o,h=>by simp[SV.refs] at h
 | .fcl _ _,o,h=>by simp[SV.refs] at h
 | .clo _ caps,o,h=>by simp only[SV.refs] at h;simp only[SV.rl];exact gF caps o h
 | .agg cs,o,h=>by simp only[SV.refs] at h;simp only[SV.rl];exact gF cs o h
 | .tup cs,o,h=>by simp only[SV.refs] at h;simp only[SV.rl];exact gF cs o h
 | .lit _,o,h=>by simp[SV.refs] at h
theorem gF:∀(cs:List SV) (o:Nat),SV.refs.refsL o cs=true->o∈SV.rl.rlL cs
 |[],o,h=>by simp[SV.refs.refsL] at h
 |c::cs,o,h=>by
  simp only[SV.refs.refsL] at h
  simp only[SV.rl.rlL,jG5]
  cases a:c.refs o with
  |true=>exact .inl (jsu c o a)
  |false=>rw[a] at h;exact .inr (gF cs o h)
end
section
variable {P:Program} {B:zJ} {σ:St} {ρ:Env} {w:World}
def jyx (os:List Nat) (obj:Nat->Option Ob):Nat->Option Ob:=fun o=>if o∈os then obj o else none
def jgI (os:List Nat) (ρ:Env):Env:={ρ with blk:=fun o=>if o∈os then ρ.blk o else none}
def j6 (ρ:Env):List Nat->List Nat
 |[]=>[]
 |o::r=>match ρ.blk o with|some (some (b,_))=>b::j6 ρ r|_=>j6 ρ r
theorem j0 {b:Nat}:∀(os:List Nat),b∈j6 ρ os↔∃o a,o∈os/\ρ.blk o=some (some (b,a))
 |[]=>by simp[j6]
 |o::r=>by
  simp only[j6]
  constructor
  .intro h
   split at h
   .rename_i f C' e
    rcases jGX.1 h with rfl|h
    .exact⟨o,C',jHz,e⟩
    .obtain⟨o',a,c,d⟩:=(j0 r).1 h;exact⟨o',a,jG0 _ c,d⟩
   .obtain⟨o',a,c,d⟩:=(j0 r).1 h;exact⟨o',a,jG0 _ c,d⟩
  .rintro⟨o',a,c,d⟩
   rcases jGX.1 c with rfl|c
   .rw[d];exact jHz
   .have:=(j0 r).2 ⟨o',a,c,d⟩
    split
    .exact jG0 _ this
    .exact this
theorem jiy (os:List Nat) (ρ:Env):ρ.le (jgI os ρ) []:=by
 refine⟨fun _ _ h=>h,fun o p _ a=> ?_,fun _ _=>rfl⟩;simp only[jgI] at a
 split at a
 .exact a
 .cases a
theorem juG (e:Sat P B ρ σ.obj w) (os:List Nat):Sat P ⟨w,ρ.H,j6 ρ os,fun _=>none,fun _=>0⟩ (jgI os ρ) (jyx os σ.obj) w:=by
 refine⟨rfl,rfl,rfl,jGY _,jGY _,e.good,fun _ _ _=>rfl,fun _ _ _=>rfl,?_,?_,?_,?_⟩
 .intro o x f;unfold jyx at f
  split at f
  .rename_i c;obtain⟨p,i,j⟩:=e.obs o x f;exact⟨p,by simp[jgI,c,i],jN (jiy os ρ) (by simp) (fun _ _ _ _ o' g=>by simp at g) (fun _ _ _=>⟨rfl,rfl⟩) j⟩
  .cases f
 .intro o c;unfold jyx at c;by_cases a:o∈os
  .rw[if_pos a] at c;simp[jgI,a,e.dead o c]
  .simp[jgI,a]
 .intro o o' b C C' h d;simp only[jgI] at h d
  split at h
  .split at d
   .exact e.inj o o' b C C' h d
   .cases d
  .cases h
 .intro o b C h;simp only[jgI] at h
  split at h
  .rename_i a;exact .inr ((j0 os).2 ⟨o,C,a,h⟩)
  .cases h
theorem jqH (g:Sat P B ρ σ.obj w) (os nw:List Nat) (Z:∀d,d∈nw->kx σ.obj d) {f:Env} {u:Nat->Option Ob} {w':World}
 (e:Sat P ⟨w,ρ.H,j6 ρ os,fun _=>none,fun _=>0⟩ f u w') (J:(jgI os ρ).le f nw) (K:∀o T fz cs,u o=some (.box T fz cs)->∀r,SV.refs.refsL r cs=true->r∈nw\/r∈os):
 ∃ρ'',Sat P B ρ'' (fun o=>if o∈nw\/o∈os then u o else σ.obj o) w'/\ρ.le ρ'' nw/\
  ∀sv v,(∀r,sv.refs r=true->r∈nw\/r∈os)->SV.den P f sv v->SV.den P ρ'' sv v:=by
 let ρ'':Env:={f with blk:=fun o=>if o∈nw\/o∈os then f.blk o else ρ.blk o}
 have A:ρ.le ρ'' nw:=by
  refine⟨fun b c h=>J.H b c h,fun o p t i=> ?_,fun o t=>J.len o t⟩;simp only[ρ''] at i;by_cases a:o∈os
  .rw[if_pos (.inr a)] at i;have:=J.blk o p t i;simpa[jgI,a] using this
  .rw[if_neg (by rintro(h|h);exact t h;exact a h)] at i;exact i
 let s:List Nat:=((σ.ob.map Prod.fst).filter fun o=>decide ¬(o∈nw\/o∈os))
 have Q:∀o,ρ.blk o≠none->¬(o∈nw\/o∈os)->o∈s:=by
  intro o m q;simp only[s,jHc];refine⟨?_,by simpa using q⟩;cases l:σ.obj o with
  |none=>exact absurd (g.dead o l) m
  |some x=>
   simp only[St.obj] at l
   split at l
   .rename_i y hy;exact jHm.2 ⟨(o,y),zr _ _ _ hy,rfl⟩
   .cases l
 have D:f.le ρ'' s:=by
  refine⟨fun _ _ h=>h,fun o p t i=> ?_,fun _ _=>rfl⟩;simp only[ρ''] at i;by_cases a:o∈nw\/o∈os
  .rw[if_pos a] at i;exact i
  .rw[if_neg a] at i;exact absurd (Q o (by rw[i];simp) a) t
 have j:∀r,r∈s->¬(r∈nw\/r∈os):=fun r G=>by
  simp only[s,jHc] at G;simpa using G.2
 have k:∀b,b<w.heap.size->b∉j6 ρ os->f.H b=ρ.H b/\w'.heap[b]? =w.heap[b]? :=fun b m q=>⟨e.oldH b m q,e.old b m q⟩
 have F:∀b,b<B.w.heap.size->b∉B.bor->b∉j6 ρ os:=by
  intro b m q a;obtain⟨o,N,_,W⟩:=(j0 os).1 a;rcases g.own o b N W with h|h
  .omega
  .exact q h
 have hsz:=g.size;have E:∀o b N,o∈nw\/o∈os->f.blk o=some (some (b,N))->∀o2 S,¬(o2∈nw\/o2∈os)->ρ.blk o2=some (some (b,S))->False:=by
  intro o b N _ W o2 S h3 h4;rcases e.own o b N W with h|h
  .have:=(vI g h4).1;simp only at h;omega
  .obtain⟨R,M,X,O⟩:=(j0 os).1 h;exact h3 (.inr (by rw[g.inj o2 R b S M h4 O];exact X))
 refine⟨ρ'',⟨e.os.trans g.os,e.tape.trans g.tape,e.output.trans g.output,jHb g.drawn e.drawn,jHb hsz e.size,e.good,?_,?_,?_,?_,?_,?_⟩,A,?_⟩
 .intro b m q;show f.H b=_;rw[(k b (by omega) (F b m q)).1];exact g.oldH b m q
 .intro b m q;rw[(k b (by omega) (F b m q)).2];exact g.old b m q
 .intro o x L;by_cases a:o∈nw\/o∈os
  .simp only[a,if_true] at L;obtain⟨p,i,hs⟩:=e.obs o x L;refine⟨p,by simp[ρ'',a,i],jN D (fun h=>j o h a) (fun T fz cs I r G=> ?_) (fun _ _ _=>⟨rfl,rfl⟩) hs⟩;cases Y:SV.refs.refsL r cs with
   |false=>rfl
   |true=>exact absurd (K o T fz cs (by rw[L,I]) r Y) (j r G)
  .simp only[a,if_false] at L;obtain⟨p,i,hs⟩:=g.obs o x L;refine⟨p,by simp[ρ'',a,i],jN A (fun h=>a (.inl h)) (fun T fz cs I r G=>Z r G o T fz cs (by rw[L,I])) (fun b C hpb=> ?_) hs⟩;subst hpb;refine k b (vI g i).1 fun m=> ?_
   obtain⟨R,M,X,O⟩:=(j0 os).1 m;exact a (.inr (by rw[g.inj o R b C M i O];exact X))
 .intro o t;by_cases a:o∈nw\/o∈os
  .simp only[a,if_true] at t;simp[ρ'',a,e.dead o t]
  .simp only[a,if_false] at t;simp[ρ'',a,g.dead o t]
 .intro o o' b C C' h z;simp only[ρ''] at h z;by_cases a:o∈nw\/o∈os<;>by_cases n:o'∈nw\/o'∈os
  .rw[if_pos a] at h;rw[if_pos n] at z;exact e.inj o o' b C C' h z
  .rw[if_pos a] at h;rw[if_neg n] at z;exact(E o b C a h o' C' n z).elim
  .rw[if_neg a] at h;rw[if_pos n] at z;exact(E o' b C' n z o C a h).elim
  .rw[if_neg a] at h;rw[if_neg n] at z;exact g.inj o o' b C C' h z
 .intro o b C h;simp only[ρ''] at h;by_cases a:o∈nw\/o∈os
  .rw[if_pos a] at h;rcases e.own o b C h with V|V
   .simp only at V;exact .inl (by omega)
   .obtain⟨R,M,_,O⟩:=(j0 os).1 V;exact g.own R b M O
  .rw[if_neg a] at h;exact g.own o b C h
 .intro sv v G hd;refine SV.den_mono D sv v (fun r hrb=> ?_) hd;cases Y:sv.refs r with
  |false=>rfl
  |true=>exact absurd (G r Y) (j r hrb)
end
end Go.X
namespace Go.X
open Go.RowKit (Below)
section
variable {P:Program} {B:zJ} {C:Ctx} {ρ:Env} {w:World} {ops:Array Oper} {a:Act}
def jgk (ops:Array Oper) (a:Act) (g:Nat×Bool):Prop:=yielded ops a.tmps g.1=some g.2
def GL (P:Program) (ops:Array Oper) (ρ:Env) (gl:List (Nat×(Nat×Bool)×SV)) (a:Act):Prop:=
 ∀s g v,(s,g,v)∈gl->(jgk ops a g->SV.den P ρ v (a.tmps.getD s undef))/\(¬jgk ops a g->a.tmps.getD s undef=undef)
theorem jj4:∀(gl:List (Nat×(Nat×Bool)×SV)) (k:Nat) g v,jv5 gl k=some (g,v)->(k,g,v)∈gl
 |[],_,_,_,h=>by simp[jv5] at h
 | (j,b,x)::r,k,g,v,h=>by
  simp only[jv5] at h
  cases a:Nat.beq j k
  .rw[a] at h;exact jG0 _ (jj4 r k g v h)
  .rw[a] at h;simp at h;obtain⟨rfl,rfl⟩:=h;have:=jGT a;subst this;exact jHz
theorem ju2 (j:Nat):yielded ops a.tmps j=(match gi ops.toList j with|some d=>(match a.tmps[d]? with|some (.bool b)=>some b|_=>none)|none=>none):=by
 unfold yielded gi;rw[jHI];cases h:ops[j]? with
 |none=>simp
 |some o=>
  simp only[Option.bind_some];cases o.dst with
  |none=>rfl
  |some d=>rfl
theorem jcN {j:Nat} {want:Bool} {d:Nat} (h:gi ops.toList j=some d):jgk ops a (j,want)↔a.tmps[d]? =some (.bool want):=by
 unfold jgk;rw[ju2,h];simp only;constructor
 .intro h
  split at h
  .rename_i b c;simp at h;subst h;exact c
  .cases h
 .intro h;rw[h]
theorem jm4 {d:Nat} {b:Bool} (h:a.tmps.getD d undef= .bool b):a.tmps[d]? =some (.bool b):=by
 rw[jG3] at h;cases c:a.tmps[d]? with
 |none=>rw[c] at h;simp[undef] at h
 |some v=>rw[c] at h;simp at h;rw[h]
theorem jpc {d:Nat} (h:a.tmps.getD d undef=undef) (b:Bool):a.tmps[d]?≠some (.bool b):=by
 intro c;rw[jG3,c] at h;simp[undef] at h
theorem yM {R:RS} (e:jgg P ρ R.st.sl a) (l:GL P ops ρ R.gl a):∀(b:Nat) (g:Nat×Bool) (γ:Bool),jdp ops.toList R b g=some γ->(jgk ops a g↔γ=true)
 |0,g,γ,h=>by simp[jdp] at h
 |b+1,(j,want),γ,h=>by
  simp only[jdp] at h
  split at h
  case h_2=>cases h
  rename_i d p
  rw[jcN p]
  split at h
  .rename_i i k r
   split at h
   case h_2=>cases h
   rename_i f q
   simp at h;subst h
   have m:=yM e l b i f q
   obtain⟨n,o⟩:=l d i _ (jj4 _ _ _ _ r)
   cases f with
   |true=>
    have:=jm4 (zL (by simpa[SV.den] using n (m.2 rfl)))
    rw[this]
    cases want<;>cases k<;>simp[sgn]
   |false=>
    have s:¬jgk ops a i:=fun h=>by have:=m.1 h;cases this
    constructor
    .intro h;exact absurd h (jpc (o s) want)
    .intro h;simp at h
  .cases h
  .split at h
   .rename_i k t
    simp at h;subst h
    have c:SV.den P ρ (R.st.get d) (a.tmps.getD d undef):=jI (a:=a) e (.tmp d)
    rw[t] at c
    have:=jm4 (zL (by simpa[SV.den] using c))
    rw[this]
    cases want<;>cases k<;>simp[sgn]
   .cases h
theorem jev {R:RS} (i:GL P ops ρ R.gl a):∀(b:Nat) (g:Nat×Bool),jgk ops a g->∀h,h∈jhb ops.toList R b g->jgk ops a h
 |0,g,_,h,c=>by simp[jhb] at c
 |b+1,(j,want),f,h,c=>by
  simp only[jhb] at c
  rcases jGX.1 c with rfl|c
  .exact f
  .split at c
   .rename_i d m
    split at c
    .rename_i e v n
     refine jev i b e ?_ h c
     obtain⟨_,l⟩:=i d e _ (jj4 _ _ _ _ n)
     rw[jcN m] at f
     by_cases k:jgk ops a e
     .exact k
     .exact absurd f (jpc (l k) want)
    .simp at c
   .simp at c
theorem jua {g h:Nat×Bool} (e:jx4 g h=true):g=h:=by
 obtain⟨a,x⟩:=g;obtain⟨b,y⟩:=h;unfold jx4 at e;simp only at e
 split at e
 .rename_i c;have:=jGT c;subst this;cases x<;>cases y<;>simp_all
 .cases e
theorem jkg:∀(ch:List (Nat×Bool)) (g:Nat×Bool),jgV ch g=true->g∈ch
 |[],_,h=>by simp[jgV] at h
 |x::r,g,h=>by
  simp only[jgV] at h
  split at h
  .rename_i e;rw[jua e];exact jHz
  .exact jG0 _ (jkg r g h)
theorem jap:∀(gl:List (Nat×(Nat×Bool)×SV)) (ch:List (Nat×Bool)) (s:Nat) (v:SV),(s,v)∈jaq gl ch->∃g,(s,g,v)∈gl/\g∈ch
 |[],_,_,_,h=>by simp[jaq] at h
 | (f,g,x)::r,ch,s,v,h=>by
  simp only[jaq] at h
  split at h
  .rename_i d
   rcases jGX.1 h with e|h
   .simp at e;obtain⟨rfl,rfl⟩:=e;exact⟨g,jHz,jkg _ _ d⟩
   .obtain⟨a,b,c⟩:=jap r ch s v h;exact⟨a,jG0 _ b,c⟩
  .obtain⟨a,b,c⟩:=jap r ch s v h;exact⟨a,jG0 _ b,c⟩
theorem vP {R:RS} (b:jgg P ρ R.st.sl a) (f:GL P ops ρ R.gl a) {ch:List (Nat×Bool)} (c:∀g,g∈ch->jgk ops a g):jgg P ρ (jX R ch).sl a:=by
 intro s sv h;simp only[jX] at h;rw[jh] at h
 split at h
 .rename_i v i;simp at h;subst h;obtain⟨g,d,e⟩:=jap _ _ _ _ (zr _ _ _ i);exact(f s g _ d).1 (c g e)
 .exact b s sv h
theorem jiO (t:Nat):∀(l:List Oper) (j k:Nat),k∈jbx t l j->∃o,l[k-j]? =some o/\o.dst=some t/\j<=k
 |[],_,_,h=>by simp[jbx] at h
 |o::r,j,k,h=>by
  have a:k∈jbx t r (j+1)->∃o',(o::r)[k-j]? =some o'/\o'.dst=some t/\j<=k:=by
   intro h;obtain⟨o',b,c,g⟩:=jiO t r (j+1) k h;refine⟨o',?_,c,by omega⟩;rw[show k-j=(k-(j+1))+1 by omega];simpa using b
  simp only[jbx] at h
  split at h
  .rename_i d f
   split at h
   .rename_i e;rcases jGX.1 h with rfl|h
    .exact⟨o,by simp,by rw[f,jGT e],jGY _⟩
    .exact a h
   .exact a h
  .exact a h
theorem jod {c:Operand} {f:Bool} (l:a.eval c= .bool f):∀g,g∈jaR ops.toList c f->jgk ops a g:=by
 intro g b;unfold jaR at b
 split at b
 .rename_i t e;obtain⟨j,k,rfl⟩:=jHm.1 b;obtain⟨o,d,h,_⟩:=jiO t _ 0 j k;have i:gi ops.toList j=some t:=(by unfold gi;simp only[Nat.sub_zero] at d;rw[d];exact h);rw[jcN i];cases c<;>simp[jn3] at e
  subst e;exact jm4 (by simpa[Act.eval] using l)
 .simp at b
theorem jzS {R:RS} {o:Oper} {c x y:Operand} {ch:List (Nat×Bool)} {out:Out} (z:o.op= .pick c x y) (h:jsx ops.toList R ch c x y=some out) (D:Sat P B ρ R.st.obj w) (n:jgg P ρ R.st.sl a) (u:GL P ops ρ R.gl a)
 (s:∀g,g∈ch->jgk ops a g):jC P o a.eval w (jB P B ρ R.st out):=by
 unfold jsx at h
 split at h
 case h_2=>cases h
 rename_i d G;have f:=jI (a:=a) (vP n u s) c;rw[G] at f;have f:=zL (by simpa[SV.den] using f);have l:(execOp a.eval o).run P w= .ok (.value (if d then a.eval x else a.eval y)) w:=by
  simp[execOp,z,f,asBool]
 have k:∀b,d=b->∀g,g∈jaR ops.toList c b++ch->jgk ops a g:=by
  rintro b rfl g t;rcases jG5.1 t with t|t
  .exact jod f g t
  .exact s g t
 have i:d=true->SV.den P ρ (jJ (jX R (jaR ops.toList c true++ch)) x) (a.eval x):=fun e=>jI (a:=a) (vP n u (k true e)) x
 have j:d=false->SV.den P ρ (jJ (jX R (jaR ops.toList c false++ch)) y) (a.eval y):=fun e=>jI (a:=a) (vP n u (k false e)) y
 split at h
 .rename_i p q A C;rw[A] at i;rw[C] at j;have i:d=true->a.eval x= .bool p:=fun e=>zL (by simpa[SV.den] using i e)
  have j:d=false->a.eval y= .bool q:=fun e=>zL (by simpa[SV.den] using j e)
  have m:∀r,(d=true->r=p)->(d=false->r=q)->jC P o a.eval w (jB P B ρ R.st (.pure (.dat .bool r))):=by
   intro r E F;refine ji D (v:= .bool r) ?_ (wH r) trivial;rw[l];cases d with
   |true=>simp[i rfl,E rfl]
   |false=>simp[j rfl,F rfl]
  split at h
  .simp at h;subst h;refine m _ (fun e=>by simp[e]) (fun e=> ?_);have:=j e;simp[Act.eval] at this;simp[e,this]
  .split at h
   .simp at h;subst h;refine m _ (fun e=> ?_) (fun e=>by simp[e]);have:=i e;simp[Act.eval] at this;simp[e,this]
   .simp at h;subst h;exact m _ (fun e=>by simp[e]) (fun e=>by simp[e])
 .rename_i p q A C;rw[A] at i;rw[C] at j;have i:d=true->a.eval x= .int .i64 p:=fun e=>zt (by simpa[SV.den] using i e)
  have j:d=false->a.eval y= .int .i64 q:=fun e=>zt (by simpa[SV.den] using j e)
  simp at h;subst h;refine ji D (v:= .int .i64 (cond d p q)) ?_ (wL _) trivial;rw[l];cases d with
  |true=>simp[i rfl]
  |false=>simp[j rfl]
 .cases h
end
end Go.X
namespace Go.X
open Go.RowKit (Below)
section
variable {P:Program} {B:zJ} {C:Ctx} {w:World} {ops:Array Oper} {a:Act} {o:Oper}
def Inv (P:Program) (B:zJ) (n:Nat) (ops:Array Oper) (rs:RS) (a:Act) (w:World):Prop:=
 a.defers=[]/\a.tmps.size=n/\∃ρ,Sat P B ρ rs.st.obj w/\jgg P ρ rs.st.sl a/\GL P ops ρ rs.gl a/\Pin B ρ
def jCy (g:Option Bool) (l:List Prop):Prop:=match g with
 |none=>kL l
 |some γ=>γ=true->kL l
def jEl (e:Eff) (v:SV):Prop:=(∃s,(s,v)∈e.sl)\/∃s g,(s,g,v)∈e.gl
structure Fit (P:Program) (B:zJ) (rs R:RS) (e:Eff):Prop where
 sl:∀s v,jy R.st.sl s=some v->jy rs.st.sl s=some v
 gl:∀x,x∈R.gl->x∈rs.gl
 obj:∀o x,R.st.obj o=some x->rs.st.obj o=some x
 go:∀ρ w,Sat P B ρ rs.st.obj w->(∀d,d∈e.nw->rs.st.obj d=none/\kx rs.st.obj d)->∃B' ρR,ρ.le ρR []/\Sat P B' ρR R.st.obj w/\
  ∀ρ' w',Sat P B' ρ' ({R.st with ob:=e.ob++R.st.ob}:St).obj w'->ρR.le ρ' e.nw->
   ∃ρ'',Sat P B ρ'' (zh e rs).st.obj w'/\ρ.le ρ'' e.nw/\∀v x,jEl e v->SV.den P ρ' v x->SV.den P ρ'' v x
theorem Fit.refl (P:Program) (B:zJ) (rs:RS) (e:Eff):Fit P B rs rs e:=
 ⟨fun _ _ h=>h,fun _ h=>h,fun _ _ h=>h,fun ρ _ d _=>⟨B,ρ,Env.le.refl _ _,d,fun c _ a b=>⟨c,a,b,fun _ _ _ h=>h⟩⟩⟩
structure jAx (rs:RS) (d:Nat):Prop where
 obj:rs.st.obj d=none
 sl:∀s v,(s,v)∈rs.st.sl->v.refs d=false
 gl:∀s g v,(s,g,v)∈rs.gl->v.refs d=false
 ob:∀o T fz cs,(o,some (.box T fz cs))∈rs.st.ob->SV.refs.refsL d cs=false
 lt:d<1000000
theorem jAx.noRef {rs:RS} {d:Nat} (h:jAx rs d):kx rs.st.obj d:=by
 intro o T fz cs a;simp only[St.obj] at a
 split at a
 .rename_i x b;subst a;exact h.ob o T fz cs (zr _ _ _ b)
 .cases a
theorem jel:∀(sl:List (Nat×SV)) (d s:Nat) (v:SV),jem d sl=true->(s,v)∈sl->v.refs d=false
 |[],_,_,_,_,h=>by simp at h
 | (j,x)::r,d,s,v,a,h=>by
  simp only[jem] at a
  cases b:x.refs d with
  |true=>rw[b] at a;cases a
  |false=>
   rw[b] at a
   rcases jGX.1 h with e|h
   .simp at e;obtain⟨_,rfl⟩:=e;exact b
   .exact jel r d s v a h
theorem jkv:∀(gl:List (Nat×(Nat×Bool)×SV)) (d s:Nat) g v,jog d gl=true->(s,g,v)∈gl->v.refs d=false
 |[],_,_,_,_,_,h=>by simp at h
 | (j,c,x)::r,d,s,g,v,a,h=>by
  simp only[jog] at a
  cases b:x.refs d with
  |true=>rw[b] at a;cases a
  |false=>
   rw[b] at a
   rcases jGX.1 h with e|h
   .simp at e;obtain⟨_,_,rfl⟩:=e;exact b
   .exact jkv r d s g v a h
theorem qK:∀(ob:List (Nat×Option Ob)) (d o T:Nat) fz cs,qL d ob=true->(o,some (.box T fz cs))∈ob->SV.refs.refsL d cs=false
 |[],_,_,_,_,_,_,h=>by simp at h
 | (j,y)::r,d,o,T,fz,cs,a,h=>by
  have c:qL d r=true/\∀T fz cs,y=some (.box T fz cs)->SV.refs.refsL d cs=false:=by
   unfold qL at a
   split at a
   .rename_i e;cases e
   .rename_i e;cases e
    split at a
    .cases a
    .rename_i f;exact⟨a,fun T fz cs e=>by simp at e;obtain⟨rfl,rfl,rfl⟩:=e;exact f⟩
   .rename_i e;cases e;rename_i b;exact⟨a,fun T fz cs e=>by subst e;exact(b _ _ _ _ rfl).elim⟩
  rcases jGX.1 h with e|h
  .simp at e;obtain⟨_,e⟩:=e;exact c.2 T fz cs e.symm
  .exact qK r d o T fz cs c.1 h
theorem yj {rs:RS} {d:Nat} (h:jsV rs d=true):jAx rs d:=by
 unfold jsV at h
 split at h
 .rename_i b c e f;exact⟨b,fun s v a=>jel _ _ s v c a,fun s g v a=>jkv _ _ s g v e a,fun o T fz cs i=>qK _ _ o T fz cs f i,jHa h⟩
 .cases h
theorem jep (d:Nat):∀(t:Ty) (x:t.Data),SV.refs.refsL d (jmD t x)=false
 | .int,_=>rfl
 | .bool,_=>rfl
 | .uint _,_=>rfl
 | .slice _,_=>rfl
 | .map _ _,_=>rfl
 | .ptr _,_=>rfl
 | .unit,_=>rfl
 | .pair a b,x=>by
  have e:∀(l r:List SV),SV.refs.refsL d l=false->SV.refs.refsL d r=false->SV.refs.refsL d (l++r)=false:=by
   intro l r c g
   induction l with
   |nil=>simpa using g
   |cons v l h=>
    simp only[jHt,SV.refs.refsL] at c⊢;cases f:v.refs d with
    |true=>rw[f] at c;cases c
    |false=>rw[f] at c;exact h c
  exact e _ _ (jep d a x.1) (jep d b x.2)
theorem jwM {σ:St} {sv:SV} {cs:List SV} {d:Nat} (h:cells σ sv=some cs) (a:sv.refs d=false):SV.refs.refsL d cs=false:=by
 have one:∀v:SV,v.refs d=false->SV.refs.refsL d [v]=false:=fun v b=>by simp[SV.refs.refsL,b]
 unfold cells at h
 split at h<;>first
  | (cases h;done)
  | (simp at h;subst h;simpa[SV.refs] using a)
  | (simp at h;subst h;exact jep d _ _)
  | (split at h
     .simp at h;subst h;exact one _ a
     .cases h)
  | (simp at h;subst h;exact one _ a)
theorem jt6 (R:RS) (ch:List (Nat×Bool)):(jX R ch).obj=R.st.obj:=rfl
theorem jyu {rs R:RS} {e:Eff} (h:Fit P B rs R e) {d:Nat} (b:∀s v,jy rs.st.sl s=some v->v.refs d=false) (a:∀s g v,(s,g,v)∈rs.gl->v.refs d=false) (ch:List (Nat×Bool)) (x:Operand):
 (jJ (jX R ch) x).refs d=false:=by
 cases x with
 |tmp t=>
  simp only[jJ,St.get,jX];rw[jh];cases c:jy (jaq R.gl ch) t with
  |some v=>
   obtain⟨g,i,_⟩:=jap _ _ _ _ (zr _ _ _ c);exact a t g v (h.gl _ i)
  |none=>
   simp only;cases c:jy R.st.sl t with
   |some v=>exact b t v (h.sl t v c)
   |none=>rfl
 |const v=>cases v<;>simp only[jJ,jlw]<;>first|rfl|(split<;>rfl)
 |global g=>rfl
 |func f=>rfl
theorem jpW {rs R:RS} {e:Eff} {ρ:Env} {B':zJ} {ch:List (Nat×Bool)} {out:Out} (K:C.ok P) (E:Fit P B rs R e) (h:y5 C ops.toList o R ch=some out) (G:Sat P B' ρ R.st.obj w) (i:jgg P ρ R.st.sl a) (F:GL P ops ρ R.gl a)
 (j:∀g,g∈ch->jgk ops a g) (I:kL out.vc) (f:(out.nw≠[]\/jcd o.op=true)->jAx rs (jlI o)):jC P o a.eval w (jB P B' ρ R.st out):=by
 unfold y5 at h
 split at h
 .rename_i c x y q;exact jzS q h G i F j
 case h_2 U n parts g q hgd=>
  have m:∀{v w'},jB P B' ρ (jX R ch) out v w'->jB P B' ρ R.st out v w':=fun h=>by
   obtain⟨t,d,z,A,D⟩:=h;refine⟨t,?_,z,A,D⟩;have e:({(jX R ch) with ob:=out.wr++(qt (jX R ch) out.fz++(jX R ch).ob)}:St).obj=({R.st with ob:=out.wr++(qt R.st out.fz++R.st.ob)}:St).obj:=by
    have:∀l,qt (jX R ch) l=qt R.st l:=by
     intro l
     induction l with
     |nil=>rfl
     |cons k r J=>simp only[qt,jt6,J]
    funext k;simp only[St.obj,this];rfl
   rw[e] at d;exact d
  exact jC.mono (jtt (σ:=jX R ch) K q h G (fun x=>jI (a:=a) (vP i F j) x)) fun v w'=>m
 .rename_i M _;have m:∀{v w'},jB P B' ρ (jX R ch) out v w'->jB P B' ρ R.st out v w':=fun h=>by
   obtain⟨t,d,z,A,D⟩:=h;refine⟨t,?_,z,A,D⟩;have e:({(jX R ch) with ob:=out.wr++(qt (jX R ch) out.fz++(jX R ch).ob)}:St).obj=({R.st with ob:=out.wr++(qt R.st out.fz++R.st.ob)}:St).obj:=by
    have:∀l,qt (jX R ch) l=qt R.st l:=by
     intro l
     induction l with
     |nil=>rfl
     |cons k r J=>simp only[qt,jt6,J]
    funext k;simp only[St.obj,this];rfl
   rw[e] at d;exact d
  have b:jAx rs (jlI o)->R.st.obj (jlI o)=none/\kx R.st.obj (jlI o)/\∀x cs,cells (jX R ch) (jJ (jX R ch) x)=some cs->SV.refs.refsL (jlI o) cs=false:=by
   intro u;have d:=u.obj;refine⟨?_,fun k T fz cs hk=>u.noRef k T fz cs (E.obj _ _ hk),fun x cs H=>jwM H (jyu E (fun s v h=>u.sl s v (zr _ _ _ h)) u.gl ch x)⟩;cases N:R.st.obj (jlI o) with
   |none=>rfl
   |some x=>rw[E.obj _ _ N] at d;cases d
  refine jC.mono (jqR (σ:=jX R ch) K h G (fun x=>jI (a:=a) (vP i F j) x) I (fun p=> ?_) (fun c L p=> ?_)) fun v w'=>m
  .exact b (f (.inl p))
  .have:=b (f (.inr (by
    rw[L];unfold jcd
    split
    .rename_i h;cases h;split
     .rename_i h;exact absurd h p
     .rfl
    .rename_i h;exact absurd rfl (h c))))
   exact⟨this.1,this.2.1⟩
theorem jqG:∀(l:List Oper) (d:Nat) (gl:List (Nat×(Nat×Bool)×SV)),jBT l d gl=true->∀s j b v,(s,(j,b),v)∈gl->s≠d/\∃dj,gi l j=some dj/\dj≠d
 |_,_,[],_,s,j,b,v,a=>by simp at a
 |l,d,(m,(k,i),n)::r,h,s,j,b,v,a=>by
  simp only[jBT] at h
  split at h
  .rename_i dj f g
   split at h
   .cases h
   .rename_i c
    rcases jGX.1 a with e|a
    .simp at e;obtain⟨rfl,⟨rfl,rfl⟩,rfl⟩:=e
     exact⟨jW f,dj,g,jW c⟩
    .exact jqG l d r h s j b v a
  .cases h
theorem jnx (a:Act) (d s:Nat) (v:Value):(a.put (some d) v).tmps.getD s undef=if s=d/\d<a.tmps.size then v else a.tmps.getD s undef:=by
 simp only[Act.put,jG3,jHd];by_cases e:s=d
 .subst e;by_cases b:s<a.tmps.size
  .simp[b]
  .simp[b]
 .rw[if_neg (fun h=>e h.symm),if_neg (fun h=>e h.1)]
theorem jui {d j:Nat} {b:Bool} {v:Value} {dj:Nat} (e:gi ops.toList j=some dj) (c:dj≠d):jgk ops (a.put (some d) v) (j,b)↔jgk ops a (j,b):=by
 rw[jcN e,jcN e];simp only[Act.put,jHd];rw[if_neg (fun h=>c h.symm)]
structure joJ (C:Ctx) (ops:Array Oper) (o:Oper) (rs:RS) (e:Eff):Prop where
 frame:∀d,o.dst=some d->d<C.n
 gl:∀d,o.dst=some d->∀s j b v,(s,(j,b),v)∈rs.gl->s≠d/\∃dj,gi ops.toList j=some dj/\dj≠d
 guard:∀d,o.dst=some d->∀j b,o.guard=some (j,b)->∃dj,gi ops.toList j=some dj/\dj≠d
 nw:∀d,d∈e.nw->jAx rs d
 dst:(e.nw≠[]\/jcd o.op=true)->jAx rs (jlI o)
theorem jaJ {rs:RS} (h:jyH ops.toList o rs=true) {d:Nat} (g:o.dst=some d):(∀s j b v,(s,(j,b),v)∈rs.gl->s≠d/\∃dj,gi ops.toList j=some dj/\dj≠d)/\
 ∀j b,o.guard=some (j,b)->∃dj,gi ops.toList j=some dj/\dj≠d:=by
 unfold jyH at h;rw[g] at h;simp only at h
 split at h
 .rename_i a;refine⟨jqG _ _ _ h,fun j b e=> ?_⟩;rw[e] at a;simp only[jyG] at a
  split at a
  .rename_i dj c
   split at a
   .cases a
   .rename_i f;exact⟨dj,c,jW f⟩
  .cases a
 .cases h
theorem jed {rs:RS} {e:Eff} {ρ ρ'':Env} {w':World} {n:Nat} {v:Value} (F:a.defers=[]) (K:a.tmps.size=n) (G:jgg P ρ rs.st.sl a) (N:GL P ops ρ rs.gl a) (y:Pin B ρ)
 (O:Sat P B ρ'' (zh e rs).st.obj w') (u:ρ.le ρ'' e.nw) (i:joJ C ops o rs e) (I:∀d,o.dst=some d->d<n)
 {sv gv:SV} (E:e.sl=jpB o sv) (z:∀d,o.dst=some d->SV.den P ρ'' sv v) (A:∀x,x∈e.gl->∃d g,o.dst=some d/\o.guard=some g/\x=(d,g,gv))
 (S:∀d g,o.dst=some d->o.guard=some g->(jgk ops a g->SV.den P ρ'' gv v)/\(¬jgk ops a g->v=undef)):
 Inv P B n ops (zh e rs) (a.put o.dst v) w':=by
 have p:∀s f,jy rs.st.sl s=some f->SV.den P ρ'' f (a.tmps.getD s undef):=fun s f h=>
  SV.den_mono u _ _ (fun r L=>(i.nw r L).sl s f (zr _ _ _ h)) (G s f h)
 have q:∀s g l,(s,g,l)∈rs.gl->SV.den P ρ l (a.tmps.getD s undef)->SV.den P ρ'' l (a.tmps.getD s undef):=fun s g l h H=>
  SV.den_mono u _ _ (fun r L=>(i.nw r L).gl s g l h) H
 have m:Pin B ρ'':=y.mono u (fun d F=>(i.nw d F).lt);cases c:o.dst with
 |none=>
  refine⟨F,K,ρ'',O,?_,?_,m⟩
  .intro s f h;simp only[zh,E,jpB,c,jHr] at h;exact p s f h
  .intro s g l k;simp only[zh] at k;rcases jG5.1 k with k|k
   .obtain⟨d,_,t,_⟩:=A _ k;rw[c] at t;cases t
   .obtain⟨t,w⟩:=N s g l k;exact⟨fun J=>q s g l k (t J),w⟩
 |some d=>
  have D:d<a.tmps.size:=(by rw[K];exact I d c);have T:=i.gl d c;have V:=i.guard d c;refine⟨by simpa[Act.put] using F,by simpa[Act.put] using K,ρ'',O,?_,?_,m⟩
  .intro s f h;simp only[zh,E,jpB,c,List.singleton_append] at h;rw[jnx];by_cases e:s=d
   .subst e;rw[jE] at h;simp at h;subst h;rw[if_pos ⟨rfl,D⟩];exact z s c
   .rw[jv (fun h=>e h.symm)] at h;rw[if_neg (fun h=>e h.1)];exact p s f h
  .intro s g l k;simp only[zh] at k;rcases jG5.1 k with k|k
   .obtain⟨Z,g',t,w,M⟩:=A _ k;rw[c] at t;simp at t M;obtain⟨rfl,rfl,rfl⟩:=M;subst t;obtain⟨j,b⟩:=g;obtain⟨dj,Q,R⟩:=V j b w;rw[jui Q R,jnx,if_pos ⟨rfl,D⟩];exact S d (j,b) c w
   .obtain⟨j,b⟩:=g;obtain⟨t,w⟩:=N s (j,b) l k;obtain⟨W,dj,X,Y⟩:=T s j b l k;rw[jui X Y,jnx,if_neg (fun h=>W h.1)];exact⟨fun J=>q s (j,b) l k (t J),w⟩
theorem jcH {rs:RS}:∀(l:List Nat),jmg rs l=true->∀d,d∈l->jsV rs d=true
 |[],_,d,h=>by simp at h
 |x::r,h,d,a=>by
  simp only[jmg] at h
  split at h
  .rename_i b
   rcases jGX.1 a with rfl|a
   .exact b
   .exact jcH r h d a
  .cases h
theorem qM {rs:RS} {e:Eff} (h:fits C ops.toList o rs e=true):joJ C ops o rs e:=by
 unfold fits at h
 split at h
 .rename_i b f k g;refine⟨fun d a=> ?_,fun d a=>(jaJ f a).1,fun d a=>(jaJ f a).2,fun d a=>yj (jcH _ k d a),fun c=>yj ?_⟩
  .rw[a] at b;simp only[jef] at b;exact jHa b
  .split at g
   .rename_i i j;rcases c with h|h
    .exact absurd i h
    .rw[j] at h;cases h
   .exact g
 .cases h
theorem qD (hC:C.ok P) {rs R:RS} {e:Eff} (l:gY C ops.toList o R=some e) (c:joJ C ops o rs e) (N:Fit P B rs R e) (hI:Inv P B C.n ops rs a w) (X:jCy e.guard e.vc)
 {K:Act->World->Prop} {Q:Exit->Act->World->Prop} (hK:∀a' w',Inv P B C.n ops (zh e rs) a' w'->jCy e.guard e.fact->K a' w'):
 if Region.wanted o (yielded ops a.tmps) then o.wp P a w K Q else K (a.put o.dst undef) w:=by
 obtain⟨O,V,ρ,hS,A,T,m⟩:=hI;have f1:=c.frame;have f4:=c.dst;obtain⟨B',ρR,F,H,J⟩:=N.go ρ w hS (fun d O=>⟨(c.nw d O).obj,(c.nw d O).noRef⟩);have p:jgg P ρR R.st.sl a:=fun s sv h=>SV.den_mono F _ _ (fun r hr=>by simp at hr) (A s sv (N.sl s sv h))
 have z:GL P ops ρR R.gl a:=fun s g v h=>⟨fun hh=>SV.den_mono F _ _ (fun r hr=>by simp at hr) ((T s g v (N.gl _ h)).1 hh),(T s g v (N.gl _ h)).2⟩
 have hle2:∀{ρ'':Env},ρ.le ρ'' e.nw->ρ.le ρ'' e.nw:=fun h=>h
 unfold gY at l
 split at l
 .--no guard
  rename_i k
  split at l
  .cases l
  rename_i out q;simp at l;subst l;have hw:Region.wanted o (yielded ops a.tmps)=true:=(by simp[Region.wanted,k]);rw[if_pos hw];have I:=jpW (w:=w) (a:=a) hC N q H p z (fun g hg=>by simp at hg) X f4;refine I.wp fun v w' hL=> ?_
  obtain⟨y,L,M,g3,g4⟩:=hL;obtain⟨ρ'',Y,Z,q3⟩:=J y w' (by simpa only[jHf] using L) M;refine hK _ _ (jed (gv:= .any) O V A T m Y Z c f1 rfl (fun d f=>q3 _ _ (.inl ⟨d,by simp[jpB,f]⟩) g3) (fun x S=>by simp at S) (fun d g _ hg=>by rw[k] at hg;cases hg)) g4
 .rename_i g k
  split at l
  .cases l
  rename_i γ hγ
  split at l
  .cases l
  rename_i out q
  split at l
  case h_2=>cases l
  rename_i hwr W;simp at l;subst l;have E:=yM p z _ _ _ hγ;have t:(Region.wanted o (yielded ops a.tmps)=true)↔jgk ops a g:=by
   obtain⟨j,b⟩:=g;simp[Region.wanted,k,jgk]
  have D:∀x,x∈(match o.dst with|some d=>[(d,g,out.sv)]|none=>[])->∃d g',o.dst=some d/\o.guard=some g'/\x=(d,g',out.sv):=by
   intro x S
   split at S
   .rename_i d f;simp at S;exact⟨d,g,f,k,S⟩
   .simp at S
  by_cases G:jgk ops a g
  .rw[if_pos (t.2 G)];have u:=E.1 G;have I:=jpW (w:=w) (a:=a) hC N q H p z (jev z _ _ G) (X u) (fun hor=>f4 (hor.imp (fun h=>absurd W h) id));refine I.wp fun v w' hL=> ?_
   obtain⟨y,L,M,g3,g4⟩:=hL;rw[hwr] at L;rw[W] at M;obtain⟨ρ'',Y,Z,q3⟩:=J y w' (by simpa only[jHr] using L) M;refine hK _ _ (jed (sv:= .any) O V A T m Y Z c f1 rfl (fun d f=>kV _) D (fun d g' f i=>⟨fun _=> ?_,fun V=> ?_⟩)) (fun _=>g4)
   .exact q3 _ _ (.inr ⟨d,g,by simp[f]⟩) g3
   .rw[k] at i;simp at i;subst i;exact absurd G V
  .rw[if_neg (fun h=>G (t.1 h))];obtain⟨y,L,M,_,_⟩:=jR out.fz H;obtain⟨ρ'',Y,Z,q3⟩:=J y w L M;refine hK _ _ (jed (sv:= .any) O V A T m Y Z c f1 rfl (fun d f=>kV _) D (fun d g' f i=>⟨fun hh=> ?_,fun _=>rfl⟩)) (fun u=>absurd (E.2 u) G);rw[k] at i;simp at i;subst i;exact absurd hh G
end
end Go.X
namespace Go.X
open Go.RowKit (Below)
theorem jiK:∀(l:List Prop) (k:Prop),asks l k->kL l/\k
 |[],_,h=>⟨trivial,h⟩
 |_::r,k,h=>⟨⟨h.1,(jiK r k h.2).1⟩,(jiK r k h.2).2⟩
theorem jf9 (γ:Bool):∀(l:List Prop) (k:Prop),jAh γ l k->(γ=true->kL l)/\k
 |[],_,h=>⟨fun _=>trivial,h⟩
 |_::r,k,h=>⟨fun e=>⟨h.1 e,(jf9 γ r k h.2).1 e⟩,(jf9 γ r k h.2).2⟩
theorem vf:∀(l:List Prop) (k:Prop),joe l k->kL l->k
 |[],_,h,_=>h
 |_::r,k,h,a=>vf r k (h a.1) a.2
theorem jmy (γ:Bool):∀(l:List Prop) (k:Prop),jzx γ l k->(γ=true->kL l)->k
 |[],_,h,_=>h
 |_::r,k,h,a=>jmy γ r k (h fun e=>(a e).1) fun e=>(a e).2
theorem jdJ {e:Eff} {es:List Eff} {k:Prop} (h:zD false (e::es) k):jCy e.guard e.vc/\(jCy e.guard e.fact->zD false es k):=by
 simp only[zD] at h;cases b:e.guard with
 |none=>rw[b] at h;have:=jiK _ _ h;exact⟨this.1,fun a=>vf _ _ this.2 a⟩
 |some γ=>rw[b] at h;have:=jf9 γ _ _ h;exact⟨this.1,fun a=>jmy γ _ _ this.2 a⟩
theorem vW {k:Prop}:∀(es:List Eff),zD true es k->(∀e,e∈es->jCy e.guard e.vc)/\k
 |[],h=>⟨fun e f=>by simp at f,h⟩
 |e::es,h=>by
  simp only[zD] at h
  have:jCy e.guard e.vc/\zD true es k:=by
   cases b:e.guard with
   |none=>rw[b] at h;exact jiK _ _ h
   |some γ=>rw[b] at h;exact jf9 γ _ _ h
  obtain⟨c,d⟩:=vW es this.2;refine⟨fun x a=> ?_,d⟩;rcases jGX.1 a with rfl|a
  .exact this.1
  .exact c x a
section
variable {P:Program} {B:zJ} {C:Ctx} {ops:Array Oper} {Q:Exit->Act->World->Prop}
theorem wl (m:C.ok P) {k:Prop}:∀(l:List Oper) (rs b:RS) (es:List Eff) (a:Act) (w:World),vC C ops.toList l rs=some (es,b)->zD false es k->Inv P B C.n ops rs a w->
 (k->∀d w',Inv P B C.n ops b d w'->Q .normal d w')->wpList P ops Q l a w
 |[],rs,b,es,a,w,h,hk,f,i=>by
  simp[vC] at h
  obtain⟨rfl,rfl⟩:=h
  exact i hk a w f
 |o::r,rs,b,es,a,w,h,hk,f,i=>by
  simp only[vC] at h
  split at h
  .cases h
  rename_i e t
  split at h
  .cases h
  rename_i u
  split at h
  .cases h
  rename_i p x v
  simp at h
  obtain⟨rfl,rfl⟩:=h
  obtain⟨q,s⟩:=jdJ hk
  have:=qD (K:=wpList P ops Q r) (Q:=Q) m t (qM u) (Fit.refl P B rs e) f q (fun d w' g c=>wl m r _ _ _ d w' v (s c) g i)
  unfold wpList
  split
  .rename_i j;rw[if_pos j] at this;exact .inl this
  .rename_i j;rw[if_neg j] at this;exact this
theorem qH (σ:St) (p:SV->Bool):∀(l:List (Nat×SV)) (s:Nat) (v:SV),jy (jc8 σ p l) s=some v->v= .any
 |[],s,v,h=>by simp[jc8,jy] at h
 | (j,x)::r,s,v,h=>by
  simp only[jc8] at h
  split at h
  .simp only[jy] at h
   cases a:Nat.beq j s with
   |true=>rw[a] at h;simp at h;exact h.symm
   |false=>rw[a] at h;exact qH σ p r s v h
  .exact qH σ p r s v h
theorem kD (σ:St) (p:SV->Bool):∀(l:List (Nat×SV)) (s:Nat),jy (jc8 σ p l) s=none->jy l s≠none->p (σ.get s)=false
 |[],s,_,h=>by simp[jy] at h
 | (j,x)::r,s,h,hl=>by
  simp only[jc8] at h
  simp only[jy] at hl
  cases a:Nat.beq j s with
  |true=>
   have:=jGT a
   subst this
   split at h
   .simp[jy] at h
   .rename_i b;exact b
  |false=>
   rw[a] at hl
   split at h
   .simp only[jy,a] at h;exact kD σ p r s h hl
   .exact kD σ p r s h hl
theorem jdl {n m:Nat} {σ:St} {a:Act} {w:World} (h:Rel P B n σ a w):Rel P B n (gc m σ) a w:=by
 unfold gc
 split
 .exact h
 .obtain⟨c,d,ρ,e,f,g⟩:=h;refine⟨c,d,ρ,e,fun s v b=> ?_,g⟩;simp only at b;rw[jh] at b
  split at b
  .rename_i x i;simp at b;subst b;rw[qH _ _ _ _ _ i];exact kV _
  .exact f s v b
theorem jaD {os:List Nat} {v:SV} (h:jdX os v=false):∀o,o∈os->v.refs o=false:=by
 induction os with
 |nil=>intro o a;simp at a
 |cons x r c=>
  intro o a;simp only[jdX] at h
  split at h
  .cases h
  .rename_i b;rcases jGX.1 a with rfl|a
   .exact b
   .exact c h o a
theorem jvF {n s:Nat} {σ:St} {a:Act} {w:World} (h:Rel P B n σ a w):Rel P B n (jpI s σ) a w:=by
 unfold jpI
 split
 case h_2=>exact h
 rename_i o t M
 split
 .exact h
 rename_i A;have A:o≠s:=jW A
 split
 case h_2=>exact h
 rename_i x D z;simp only[jGW] at z;obtain⟨z,O⟩:=z;have O:=jHa O;obtain⟨h1,h2,ρ,f,K,C⟩:=h
 let c:Env:={H:=ρ.H,blk:=fun k=>if k=s then ρ.blk o else if k=o then none else ρ.blk k,len:=fun k=>if k=s then ρ.len o else ρ.len k}
 have N:ρ.le c [s]:=⟨fun _ _ h=>h,fun k p hk g=>by
  have hk:k≠s:=(by simpa using hk);simp only[c,hk,if_false] at g
  split at g
  .cases g
  .exact g,fun k hk=>by simp[c,show k≠s by simpa using hk]⟩
 have m:∀k,({σ with ob:=(s,some x)::(o,none)::σ.ob}:St).obj k=if k=s then some x else if k=o then none else σ.obj k:=by
  intro k;rw[wB,wB]
 have L:∀k T fz cs,σ.obj k=some (.box T fz cs)->SV.refs.refsL s cs=false:=by
  intro k T fz cs hk;simp only[St.obj] at hk
  split at hk
  .rename_i y Y;subst hk;exact qK _ _ k T fz cs z (zr _ _ _ Y)
  .cases hk
 have F:∀k (y:Ob) p,σ.obj k=some y->zf P ρ w k p y->k≠s->zf P c w k p y:=by
  intro k y p hk R G;exact jN N (by simpa using G) (fun T fz cs e r Q=>by simp at Q;subst Q;subst e;exact L k T fz cs hk) (fun _ _ _=>⟨rfl,rfl⟩) R
 refine⟨h1,h2,c,⟨f.os,f.tape,f.output,f.drawn,f.size,f.good,f.oldH,f.old,?_,?_,?_,?_⟩,?_,?_⟩
 rotate_right
 .refine⟨fun k p hk S=> ?_,C.2⟩;have G:k≠s:=fun e=>by omega
  simp only[c,if_neg G] at S⊢
  split at S
  .cases S
  .exact C.1 k p hk S
 .intro k y hk;have d:=m k;simp only[St.obj] at hk d;rw[d] at hk;by_cases e:k=s
  .subst e;rw[if_pos rfl] at hk;simp at hk;subst hk;obtain⟨p,g,R⟩:=f.obs o x D;refine⟨p,by simp[c,g],?_⟩;have i:=F o x p D R A;cases x with
   |box T fz cs=>exact i
   |row E u fz nl l=>
    simp only[zf] at i⊢;obtain⟨q1,q2⟩:=i;refine⟨?_,q2⟩;have W:c.len k=ρ.len o:=(by simp[c]);have J:c.len o=ρ.len o:=(by simp[c,A]);rw[W,<-J];exact q1
   |map fz kt vt l=>exact i
   |iter kt vt left cur=>exact i
   |mape kt vt l key st=>exact i
  .rw[if_neg e] at hk;by_cases j:k=o
   .rw[if_pos j] at hk;cases hk
   .rw[if_neg j] at hk;obtain⟨p,g,R⟩:=f.obs k y hk;exact⟨p,by simp[c,e,j,g],F k y p hk R e⟩
 .intro k hk;have d:=m k;simp only[St.obj] at hk d;rw[d] at hk;by_cases e:k=s
  .rw[if_pos e] at hk;cases hk
  .rw[if_neg e] at hk;by_cases j:k=o
   .simp only[c];rw[if_neg e,if_pos j]
   .rw[if_neg j] at hk;simp only[c];rw[if_neg e,if_neg j];exact f.dead k hk
 .intro k k' b Z C2 hk d;simp only[c] at hk d;by_cases e:k=s<;>by_cases j:k'=s
  .rw[e,j]
  .rw[if_pos e] at hk;rw[if_neg j] at d
   split at d
   .cases d
   .rename_i J;exact absurd (f.inj _ _ _ _ _ hk d).symm J
  .rw[if_neg e] at hk;rw[if_pos j] at d
   split at hk
   .cases hk
   .rename_i J;exact absurd (f.inj _ _ _ _ _ hk d) J
  .rw[if_neg e] at hk;rw[if_neg j] at d
   split at hk
   .cases hk
   .split at d
    .cases d
    .exact f.inj _ _ _ _ _ hk d
 .intro k b Z hk;simp only[c] at hk
  split at hk
  .exact f.own _ _ _ hk
  .split at hk
   .cases hk
   .exact f.own _ _ _ hk
 .intro k v q;simp only at q;by_cases e:k=s
  .subst e;rw[jE] at q;simp at q;subst q;have V:=jI (a:=a) K (.tmp k);simp only[jJ] at V;rw[M] at V;simp only[SV.den] at V⊢;intro p g;have X:ρ.blk o=some p:=(by simpa[c] using g);have W:c.len k=ρ.len o:=(by simp[c]);rw[W];exact V p X
  .rw[jv (fun h=>e h.symm),jh] at q
   split at q
   .rename_i y Y;simp at q;subst q;rw[qH _ _ _ _ _ Y];exact kV _
   .rename_i I;have g:=kD _ _ _ k I (by rw[q];simp);have hg:σ.get k=v:=(by unfold St.get;rw[q]);rw[hg] at g;exact SV.den_mono N v _ (fun r Q=>by simp at Q;subst Q;exact jaD g r (by simp)) (K k v q)
theorem jtw {ρ:Env}:∀(cs:List SV) (vs:List Value) (j:Nat) (sv:SV),SV.denL P ρ cs vs->cs[j]? =some sv->∃v,vs[j]? =some v/\SV.den P ρ sv v
 |[],_,_,_,_,h=>by simp at h
 |c::cs,vs,j,sv,k,h=>by
  simp only[SV.denL] at k
  obtain⟨v,r,rfl,a,b⟩:=k
  cases j with
  |zero=>simp at h;subst h;exact⟨v,rfl,a⟩
  |succ j=>exact jtw cs r j sv b (by simpa using h)
theorem jov {ρ:Env}:∀(cs:List SV) (vs:List Value) (j:Nat) (sv:SV),SV.denL P ρ cs vs->(∀v,vs[j]? =some v->SV.den P ρ sv v)->SV.denL P ρ (cs.set j sv) vs
 |[],_,_,_,k,_=>by simpa using k
 |c::cs,vs,j,sv,k,h=>by
  simp only[SV.denL] at k
  obtain⟨v,r,rfl,d,a⟩:=k
  cases j with
  |zero=>simp only[List.set,SV.denL];exact⟨v,r,rfl,h v rfl,a⟩
  |succ j=>simp only[List.set,SV.denL];exact⟨v,r,rfl,d,jov cs r j sv a (fun u b=>h u (by simpa using b))⟩
theorem jaS {σ:St} {s:Nat}:∀(l:List Nat),jcP σ s l=true->∀(k T:Nat) fz cs,k∈l->σ.obj k=some (.box T fz cs)->SV.refs.refsL s cs=false
 |[],_,_,_,_,_,a,_=>by simp at a
 |j::r,h,k,T,fz,cs,a,hk=>by
  unfold jcP at h
  rcases jGX.1 a with e|a
  .subst e
   rw[hk] at h
   simp only at h
   split at h
   .cases h
   .assumption
  .split at h
   .split at h
    .cases h
    .exact jaS r h k T fz cs a hk
   .exact jaS r h k T fz cs a hk
theorem jjy {n b j:Nat} {σ:St} {a:Act} {w:World} (h:Rel P B n σ a w):Rel P B n (jgD b j σ) a w:=by
 unfold jgD
 split
 case h_2=>exact h
 rename_i T fz cs N
 split
 case h_2=>exact h
 rename_i o F
 split
 case h_2=>exact h
 rename_i I E x;generalize yL b j=s at*;have I:o≠s:=jW I;have E:b≠o:=jW E;have x:b≠s:=jW x
 split
 case h_2=>exact h
 rename_i fm kt vt l D z;simp only[jGW] at z;obtain⟨z,Q⟩:=z;have Q:=jHa Q;obtain⟨h1,h2,ρ,f,hSl,C⟩:=h
 let d:Env:={H:=ρ.H,blk:=fun k=>if k=s then ρ.blk o else if k=o then none else ρ.blk k,len:=fun k=>if k=s then ρ.len o else ρ.len k}
 have O:ρ.le d [s]:=⟨fun _ _ h=>h,fun k p hk g=>by
  have hk:k≠s:=(by simpa using hk);simp only[d,hk,if_false] at g
  split at g
  .cases g
  .exact g,fun k hk=>by simp[d,show k≠s by simpa using hk]⟩
 have m:∀k,({σ with ob:=(b,some (.box T fz (cs.set j (.mp s))))::(s,some (.map fm kt vt l))::(o,none)::σ.ob}:St).obj k=if k=b then some (.box T fz (cs.set j (.mp s))) else if k=s then some (.map fm kt vt l) else if k=o then none else σ.obj k:=by
  intro k;rw[wB,wB,wB]
 have M:∀k T fz cs,σ.obj k=some (.box T fz cs)->SV.refs.refsL s cs=false:=by
  intro k T fz cs hk;simp only[St.obj] at hk
  split at hk
  .rename_i y W;subst hk;exact jaS _ z k T fz cs (jHm.2 ⟨_,zr _ _ _ W,rfl⟩) (by simp only[St.obj,W])
  .cases hk
 have t:∀k (y:Ob) p,σ.obj k=some y->zf P ρ w k p y->k≠s->zf P d w k p y:=by
  intro k y p hk A G;exact jN O (by simpa using G) (fun T fz cs e r R=>by simp at R;subst R;subst e;exact M k T fz cs hk) (fun _ _ _=>⟨rfl,rfl⟩) A
 refine⟨h1,h2,d,⟨f.os,f.tape,f.output,f.drawn,f.size,f.good,f.oldH,f.old,?_,?_,?_,?_⟩,?_,?_⟩
 rotate_right
 .refine⟨fun k p hk V=> ?_,C.2⟩;have G:k≠s:=fun e=>by omega
  simp only[d,if_neg G] at V⊢
  split at V
  .cases V
  .exact C.1 k p hk V
 .intro k y hk;have c:=m k;simp only[St.obj] at hk c;rw[c] at hk;by_cases L:k=b
  .subst L;rw[if_pos rfl] at hk;simp at hk;subst hk;obtain⟨p,g,A⟩:=f.obs k _ N;refine⟨p,by simp[d,x,E,g],?_⟩;have S:=t k _ p N A x;simp only[zf] at A S⊢;obtain⟨b1,X,vs,e1,K,e3,e4,e5⟩:=S;refine⟨b1,X,vs,e1,K,jov _ _ _ _ e3 (fun v u=> ?_),e4,e5⟩;obtain⟨b2,C2,vs2,Y,Z,f3,_⟩:=A;have:vs2=vs:=by
    rw[e1] at Y;simp at Y;obtain⟨rfl,rfl⟩:=Y;rw[K] at Z;simp at Z;exact Z.symm
   subst this;obtain⟨v',g1,g2⟩:=jtw _ _ _ _ f3 F;rw[u] at g1;simp at g1;subst g1;simp only[SV.den] at g2⊢;intro q hq;exact g2 q (by simpa[d] using hq)
  .rw[if_neg L] at hk;by_cases e:k=s
   .subst e;rw[if_pos rfl] at hk;simp at hk;subst hk;obtain⟨p,g,A⟩:=f.obs o _ D;exact⟨p,by simp[d,g],t o _ p D A I⟩
   .rw[if_neg e] at hk;by_cases i:k=o
    .rw[if_pos i] at hk;cases hk
    .rw[if_neg i] at hk;obtain⟨p,g,A⟩:=f.obs k y hk;exact⟨p,by simp[d,e,i,g],t k y p hk A e⟩
 .intro k hk;have c:=m k;simp only[St.obj] at hk c;rw[c] at hk;by_cases L:k=b
  .rw[if_pos L] at hk;cases hk
  rw[if_neg L] at hk;by_cases e:k=s
  .rw[if_pos e] at hk;cases hk
  .rw[if_neg e] at hk;by_cases i:k=o
   .simp only[d];rw[if_neg e,if_pos i]
   .rw[if_neg i] at hk;simp only[d];rw[if_neg e,if_neg i];exact f.dead k hk
 .intro k k' b X C2 hk c;simp only[d] at hk c;by_cases e:k=s<;>by_cases i:k'=s
  .rw[e,i]
  .rw[if_pos e] at hk;rw[if_neg i] at c
   split at c
   .cases c
   .rename_i K;exact absurd (f.inj _ _ _ _ _ hk c).symm K
  .rw[if_neg e] at hk;rw[if_pos i] at c
   split at hk
   .cases hk
   .rename_i K;exact absurd (f.inj _ _ _ _ _ hk c) K
  .rw[if_neg e] at hk;rw[if_neg i] at c
   split at hk
   .cases hk
   .split at c
    .cases c
    .exact f.inj _ _ _ _ _ hk c
 .intro k b X hk;simp only[d] at hk
  split at hk
  .exact f.own _ _ _ hk
  .split at hk
   .cases hk
   .exact f.own _ _ _ hk
 .intro k v u;simp only at u;rw[jh] at u
  split at u
  .rename_i y W;simp at u;subst u;rw[qH _ _ _ _ _ W];exact kV _
  .rename_i J;have g:=kD _ _ _ k J (by rw[u];simp);have hg:σ.get k=v:=(by unfold St.get;rw[u]);rw[hg] at g;exact SV.den_mono O v _ (fun r R=>by simp at R;subst R;exact jaD g r (by simp)) (hSl k v u)
theorem jhl (kp:Bool) {n b j:Nat} {σ:St} {a:Act} {w:World} (h:Rel P B n σ a w):Rel P B n (jcD kp b j σ) a w:=by
 unfold jcD
 split
 case h_2=>exact h
 rename_i T fz cs Y
 split
 case h_2=>exact h
 rename_i o u M
 split
 case h_2=>exact h
 rename_i G L D;generalize yf b j=s at*;have G:o≠s:=jW G;have L:b≠o:=jW L;have D:b≠s:=jW D
 split
 case h_2=>exact h
 rename_i E t0 fr nl l K F;simp only[jGW] at F;obtain⟨F,hlt⟩:=F;have hlt:=jHa hlt;obtain⟨h1,h2,ρ,f,W,J⟩:=h
 let c:Env:={H:=ρ.H,blk:=fun k=>if k=s then ρ.blk o else if k=o then none else ρ.blk k,len:=fun k=>if k=s then ρ.len o else ρ.len k}
 have Z:ρ.le c [s]:=⟨fun _ _ h=>h,fun k p hk t=>by
  have hk:k≠s:=(by simpa using hk);simp only[c,hk,if_false] at t
  split at t
  .cases t
  .exact t,fun k hk=>by simp[c,show k≠s by simpa using hk]⟩
 have A:∀k,({σ with ob:=(b,some (.box T fz (cs.set j (.own s u))))::(s,some (.row E t0 fr nl l))::(o,none)::σ.ob}:St).obj k=if k=b then some (.box T fz (cs.set j (.own s u))) else if k=s then some (.row E t0 fr nl l) else if k=o then none else σ.obj k:=by
  intro k;rw[wB,wB,wB]
 have X:∀k T fz cs,σ.obj k=some (.box T fz cs)->SV.refs.refsL s cs=false:=by
  intro k T fz cs hk;simp only[St.obj] at hk
  split at hk
  .rename_i y g;subst hk;exact jaS _ F k T fz cs (jHm.2 ⟨_,zr _ _ _ g,rfl⟩) (by simp only[St.obj,g])
  .cases hk
 have C:∀k (y:Ob) p,σ.obj k=some y->zf P ρ w k p y->k≠s->zf P c w k p y:=by
  intro k y p hk I N;exact jN Z (by simpa using N) (fun T fz cs e r hr=>by simp at hr;subst hr;subst e;exact X k T fz cs hk) (fun _ _ _=>⟨rfl,rfl⟩) I
 refine⟨h1,h2,c,⟨f.os,f.tape,f.output,f.drawn,f.size,f.good,f.oldH,f.old,?_,?_,?_,?_⟩,?_,?_⟩
 rotate_right
 .refine⟨fun k p hk hb=> ?_,J.2⟩;have N:k≠s:=fun e=>by omega
  simp only[c,if_neg N] at hb⊢
  split at hb
  .cases hb
  .exact J.1 k p hk hb
 .intro k y hk;have d:=A k;simp only[St.obj] at hk d;rw[d] at hk;by_cases S:k=b
  .subst S;rw[if_pos rfl] at hk;simp at hk;subst hk;obtain⟨p,t,I⟩:=f.obs k _ Y;refine⟨p,by simp[c,D,L,t],?_⟩;have hs':=C k _ p Y I D;simp only[zf] at I hs'⊢;obtain⟨b1,C1,vs,e1,R,e3,e4,e5⟩:=hs';refine⟨b1,C1,vs,e1,R,jov _ _ _ _ e3 (fun v m=> ?_),e4,e5⟩;obtain⟨b2,C2,vs2,f1,f2,f3,_⟩:=I;have:vs2=vs:=by
    rw[e1] at f1;simp at f1;obtain⟨rfl,rfl⟩:=f1;rw[R] at f2;simp at f2;exact f2.symm
   subst this;obtain⟨v',g1,V⟩:=jtw _ _ _ _ f3 M;rw[m] at g1;simp at g1;subst g1;simp only[SV.den] at V⊢;intro q hq;have:=V q (by simpa[c] using hq);simpa[c] using this
  .rw[if_neg S] at hk;by_cases e:k=s
   .subst e;rw[if_pos rfl] at hk;simp at hk;subst hk;obtain⟨p,t,I⟩:=f.obs o _ K;have h3:=C o _ p K I G;refine⟨p,by simp[c,t],?_⟩;simp only[zf] at h3⊢;exact⟨by have:=h3.1;simpa[c,G] using this,h3.2⟩
   .rw[if_neg e] at hk;by_cases z:k=o
    .rw[if_pos z] at hk;cases hk
    .rw[if_neg z] at hk;obtain⟨p,t,I⟩:=f.obs k y hk;exact⟨p,by simp[c,e,z,t],C k y p hk I e⟩
 .intro k hk;have d:=A k;simp only[St.obj] at hk d;rw[d] at hk;by_cases S:k=b
  .rw[if_pos S] at hk;cases hk
  rw[if_neg S] at hk;by_cases e:k=s
  .rw[if_pos e] at hk;cases hk
  .rw[if_neg e] at hk;by_cases z:k=o
   .simp only[c];rw[if_neg e,if_pos z]
   .rw[if_neg z] at hk;simp only[c];rw[if_neg e,if_neg z];exact f.dead k hk
 .intro k k' b C1 C2 hk d;simp only[c] at hk d;by_cases e:k=s<;>by_cases z:k'=s
  .rw[e,z]
  .rw[if_pos e] at hk;rw[if_neg z] at d
   split at d
   .cases d
   .rename_i R;exact absurd (f.inj _ _ _ _ _ hk d).symm R
  .rw[if_neg e] at hk;rw[if_pos z] at d
   split at hk
   .cases hk
   .rename_i R;exact absurd (f.inj _ _ _ _ _ hk d) R
  .rw[if_neg e] at hk;rw[if_neg z] at d
   split at hk
   .cases hk
   .split at d
    .cases d
    .exact f.inj _ _ _ _ _ hk d
 .intro k b C1 hk;simp only[c] at hk
  split at hk
  .exact f.own _ _ _ hk
  .split at hk
   .cases hk
   .exact f.own _ _ _ hk
 .intro k v m;simp only at m;rw[jh] at m
  split at m
  .rename_i y g;simp at m;subst m
   split at g
   case h_2=>simp[jy] at g
   unfold jFt at g
   split at g
   case h_2=>simp[jy] at g
   rename_i o' t' i
   split at g
   case h_2=>simp[jy] at g
   rename_i Q;have Q:=jGT Q;subst Q;simp only[jy] at g
   split at g
   case h_2=>cases g
   rename_i hk;have hk:=jGT hk;subst hk;simp at g;subst g;have hl:jy σ.sl o'=some (.own o' t'):=by
    unfold St.get at i
    split at i
    .rename_i x hx;rw[hx,i]
    .cases i
   have V:=W o' _ hl;simp only[SV.den] at V⊢;intro q hq;have:=V q (by simpa[c] using hq);simpa[c] using this
  .rename_i hnone0;rw[jh] at m
   split at m
   .rename_i y g;simp at m;subst m;rw[qH _ _ _ _ _ g];exact kV _
   .rename_i O;have t:=kD _ _ _ k O (by rw[m];simp);have hg:σ.get k=v:=(by unfold St.get;rw[m]);rw[hg] at t;exact SV.den_mono Z v _ (fun r hr=>by simp at hr;subst hr;exact jaD t r (by simp)) (W k v m)
theorem jjx {n b j:Nat} {σ:St} {a:Act} {w:World} (h:Rel P B n σ a w):Rel P B n (jnu b j σ) a w:=jhl false h
theorem jjz {n b:Nat}:∀(j:Nat) {σ:St} {a:Act} {w:World},Rel P B n σ a w->Rel P B n (jnv b j σ) a w
 |0,_,_,_,h=>h
 |j+1,_,_,_,h=>by
  have c:=jjz (b:=b) j h
  show Rel P B n (jpJ b j _) _ _
  unfold jpJ
  split
  .split
   .split
    .exact jjx c
    .exact c
   .exact c
  .exact c
theorem jsr {n:Nat} {σ:St} {a:Act} {w:World} (t:Nat) (x:Operand) (h:Rel P B n σ a w):Rel P B n (jju σ t x) a w:=by
 unfold jju
 split
 .exact jjz _ (jhl _ h)
 .exact h
theorem jhk {n b:Nat}:∀(j:Nat) {σ:St} {a:Act} {w:World},Rel P B n σ a w->Rel P B n (jiw b j σ) a w
 |0,_,_,_,h=>h
 |j+1,_,_,_,h=>jjx (jhk j h)
theorem jdW {n:Nat} {σ:St} {a:Act} {w:World} (t:Nat) (h:Rel P B n σ a w):Rel P B n (jdV σ t) a w:=by
 unfold jdV
 split
 .exact jhk _ (jjy h)
 .exact jjy h
 .exact h
theorem jss {n:Nat} {σ:St} {a:Act} {w:World} (c:Callee) (h:Rel P B n σ a w):Rel P B n (jjv σ c) a w:=by
 unfold jjv
 split
 .exact jdW _ h
 .exact h
theorem jst {n:Nat} {σ:St} {a:Act} {w:World} (l:List Operand) (h:Rel P B n σ a w):Rel P B n (jjw σ l) a w:=by
 unfold jjw
 split
 .exact jdW _ h
 .exact h
theorem zq {n:Nat} {a:Act} {w:World}:∀(l:List Oper) {σ:St},Rel P B n σ a w->Rel P B n (wb l σ) a w
 |[],_,h=>h
 |o::r,σ,h=>by
  simp only[wb]
  split
  .exact zq r (jdW _ (jvF h))
  .exact zq r (jss _ (jst _ h))
  .exact zq r (jsr _ _ h)
  .exact zq r h
end
end Go.X
namespace Go.X
open Go.RowKit (Below)
def eL {α:Type} (f:z7->List α) (D:Nat->Bool):List z7->Nat->List α
 |[],_=>[]
 |x::r,i=>eL f D r (i+1)++(match D i with|true=>f x|false=>[])
theorem juI {α:Type} (f:z7->List α) (D:Nat->Bool):∀(aZ:List z7) (i:Nat),eL f D aZ (i+1)=eL f (fun k=>D (k+1)) aZ i
 |[],_=>rfl
 |_::r,i=>by simp only[eL];rw[juI f D r (i+1)]
theorem jfZ {α:Type} (f:z7->List α) {D D':Nat->Bool}:∀(aZ:List z7) (i:Nat),(∀k,i<=k->k<i+aZ.length->D k=D' k)->eL f D aZ i=eL f D' aZ i
 |[],_,_=>rfl
 |_::r,i,h=>by
  simp only[eL]
  rw[jfZ f r (i+1) (fun k a b=>h k (by omega) (by simp only[jHy];omega)),h i (jGY _) (by simp only[jHy];omega)]
theorem va {α:Type} (f:z7->List α) (D:Nat->Bool) (y:α):∀(aZ:List z7) (i:Nat),y∈eL f D aZ i↔∃k x,aZ[k]? =some x/\D (i+k)=true/\y∈f x
 |[],i=>by simp[eL]
 |x::r,i=>by
  simp only[eL,jG5]
  rw[va f D y r (i+1)]
  constructor
  .rintro(⟨k,e,a,b,c⟩|h)
   .exact⟨k+1,e,by simpa using a,by rw[<-b];congr 1;omega,c⟩
   .cases d:D i with
    |true=>rw[d] at h;exact⟨0,x,by simp,by simpa using d,h⟩
    |false=>rw[d] at h;simp at h
  .rintro⟨k,e,a,b,c⟩
   cases k with
   |zero=>simp at a b;subst a;right;rw[b];exact c
   |succ k=>left;exact⟨k,e,by simpa using a,by rw[<-b];congr 1;omega,c⟩
theorem qI {α:Type} (ks:List Nat):∀(l r:List (Nat×α)),keep ks (l++r)=keep ks l++keep ks r
 |[],r=>rfl
 | (k,x)::l,r=>by
  simp only[jHt,keep]
  cases yg ks k<;>simp[qI ks l r]
theorem jke {α:Type} {f:z7->List (Nat×α)} {D D':Nat->Bool} {ks:List Nat}:∀(aZ:List z7) (i:Nat),(∀k x,aZ[k]? =some x->D (i+k)≠D' (i+k)->keep ks (f x)=[])->keep ks (eL f D aZ i)=keep ks (eL f D' aZ i)
 |[],_,_=>rfl
 |x::r,i,h=>by
  simp only[eL,qI]
  rw[jke r (i+1) (fun k y a b=>h (k+1) y (by simpa using a) (by rw[show i+(k+1)=i+1+k by omega];exact b))]
  congr 1
  by_cases e:D i=D' i
  .rw[e]
  .have:=h 0 x (by simp) (by simpa using e)
   cases a:D i<;>cases b:D' i<;>simp_all [keep]
theorem jj3 {α:Type} {f:z7->List (Nat×α)} {D D':Nat->Bool} {s:Nat}:∀(aZ:List z7) (i:Nat),(∀k x,aZ[k]? =some x->D (i+k)≠D' (i+k)->jy (f x) s=none)->jy (eL f D aZ i) s=jy (eL f D' aZ i) s
 |[],_,_=>rfl
 |x::r,i,h=>by
  simp only[eL]
  rw[jh,jh,jj3 r (i+1) (fun k y a b=>h (k+1) y (by simpa using a) (by rw[show i+(k+1)=i+1+k by omega];exact b))]
  by_cases e:D i=D' i
  .rw[e]
  .have:=h 0 x (by simp) (by simpa using e)
   cases a:D i<;>cases b:D' i<;>simp_all [jy]
theorem jaL {α:Type} {f:z7->List (Nat×α)} {D D':Nat->Bool} {s i:Nat} {x:z7} (hi:D i=false) (a:D' i=true) (d:∀k,k≠i->D' k=D k):
 ∀(aZ:List z7) (j m:Nat),j+m=i->aZ[m]? =some x->(∀k y,m<k->aZ[k]? =some y->D (j+k)=true->jy (f x) s≠none->jy (f y) s=none)->
  jy (eL f D' aZ j) s=jy (f x++eL f D aZ j) s
 |[],_,m,_,h,_=>by simp at h
 |y::r,j,0,hj,h,hk=>by
  simp at h hj
  subst h hj
  have e:eL f D' r (j+1)=eL f D r (j+1):=jfZ f r (j+1) (fun k b _=>d k (by omega))
  simp only[eL,hi,a,e]
  rw[jh,jh,jh]
  by_cases g:jy (f y) s=none
  .rw[g];simp[jy]
  .have:jy (eL f D r (j+1)) s=none:=by
    have q:=jj3 (f:=f) (D:=D) (D':=fun _=>false) (s:=s) r (j+1) (fun k z b p=>by
     have c:D (j+1+k)=true:=by cases w:D (j+1+k)<;>simp_all
     exact hk (k+1) z (by omega) (by simpa using b) (by rw[show j+(k+1)=j+1+k by omega];exact c) g)
    rw[q];have:∀(l:List z7) (n:Nat),eL f (fun _=>false) l n=[]:=by
     intro l
     induction l with
     |nil=>intro n;rfl
     |cons z l o=>intro n;simp[eL,o]
    rw[this];rfl
   rw[this];cases u:jy (f y) s with
   |none=>exact absurd u g
   |some v=>simp[]
 |y::r,j,m+1,hj,h,hk=>by
  have o:=jaL hi a d r (j+1) m (by omega) (by simpa using h) (fun k z b p c t=>hk (k+1) z (by omega) (by simpa using p) (by rw[show j+(k+1)=j+1+k by omega];exact c) t);simp only[eL,d j (by omega)];rw[jh,o,jh,jh,jh];cases jy (f x) s<;>rfl
def bld (D:Nat->Bool) (aZ:List z7) (rs:RS):RS:=⟨⟨eL (·.e.sl) D aZ 0++rs.st.sl,eL (·.e.ob) D aZ 0++rs.st.ob⟩,eL (·.e.gl) D aZ 0++rs.gl⟩
theorem joA (D:Nat->Bool) (x:z7) (aZ:List z7) (rs:RS) (h:D 0=true):bld D (x::aZ) rs=bld (fun k=>D (k+1)) aZ (zh x.e rs):=by
 unfold bld zh;simp only[eL,h,juI,jHf]
theorem jaW (aZ:List z7) (rs:RS) {D:Nat->Bool} (h:∀k,D k=false):bld D aZ rs=rs:=by
 have:∀{α:Type} (f:z7->List α) (l:List z7) (n:Nat),eL f D l n=[]:=by
  intro α f l
  induction l with
  |nil=>intro n;rfl
  |cons z l a=>intro n;simp[eL,a,h]
 simp[bld,this]
theorem jaV (D:Nat->Bool) (aZ:List z7) (rs:RS) (o:Nat):(bld D aZ rs).st.obj o=(match jy (eL (·.e.ob) D aZ 0) o with|some x=>x|none=>rs.st.obj o):=by
 simp only[St.obj,bld];rw[jh];cases jy (eL (fun x=>x.e.ob) D aZ 0) o<;>rfl
theorem kT:∀(l r:List Nat),jb5 l r=false->∀k,k∈l->k∉r
 |[],r,_,k,hk=>by simp at hk
 |o::l,r,h,k,hk=>by
  simp only[jb5] at h
  split at h
  .cases h
  .rename_i a
   rcases jGX.1 hk with rfl|hk
   .intro b;rw[(kh r k).2 b] at a;cases a
   .exact kT l r h k hk
structure jGv (σ:St) (nb:List Nat) (x y:z7) (r:Nat):Prop where
 mv:y.mv=true
 nb:r∉nb
 nn:r∉x.nn
 bf:gT (σ.obj r)=false
theorem jgx {σ:St} {nb mk names:List Nat}:∀(l:List Nat),jxS σ nb mk names l=true->∀r,r∈l->r∈names->r∉nb/\r∉mk/\gT (σ.obj r)=false
 |[],_,r,a,_=>by simp at a
 |z::l,h,r,a,hn=>by
  simp only[jxS] at h
  split at h
  .rename_i e
   rcases jGX.1 a with rfl|a
   .rw[(kh _ _).2 hn] at e;cases e
   .exact jgx l h r a hn
  .split at h
   .rename_i c d f
    rcases jGX.1 a with rfl|a
    .refine⟨fun b=> ?_,fun b=> ?_,f⟩
     .rw[(kh _ _).2 b] at c;cases c
     .rw[(kh _ _).2 b] at d;cases d
    .exact jgx l h r a hn
   .cases h
theorem jpx {σ:St} {nb:List Nat} {x y:z7} (h:jF1 σ nb x y=true) {r:Nat} (d:r∈x.ws) (e:r∈y.names):jGv σ nb x y r:=by
 unfold jF1 at h
 split at h
 .rename_i f;obtain⟨a,b,c⟩:=jgx _ h r d e;exact⟨f,a,b,c⟩
 .cases h
theorem jhw {l r:List Nat} {s:Bool} (h:juw l r s=false):∀k,k∈l->k∈r->s=true:=by
 intro k hk b;unfold juw at h;cases a:jb5 l r with
 |true=>
  rw[a] at h;cases s with
  |true=>rfl
  |false=>cases h
 |false=>exact absurd b (kT _ _ a k hk)
structure NT (σ:St) (nb:List Nat) (x y:z7):Prop where
 sl:∀s,s∈z6 x.e.sl->s∉z6 y.e.sl
 s1:∀s,s∈z6 x.e.sl->s∉y.slots
 s2:∀s,s∈z6 y.e.sl->s∉x.slots
 ws:∀o,o∈x.ws->o∉y.ws
 o1:∀o,o∈x.ws->o∈y.names->jGv σ nb x y o
 o2:∀o,o∈y.ws->o∈x.names->jGv σ nb y x o
theorem NT.symm {σ:St} {nb:List Nat} {x y:z7} (h:NT σ nb x y):NT σ nb y x:=⟨fun s a b=>h.sl s b a,h.s2,h.s1,fun o a b=>h.ws o b a,h.o2,h.o1⟩
theorem jAL {σ:St} {nb:List Nat} {x y:z7} (h:jAM σ nb x y=false):NT σ nb x y:=by
 unfold jAM at h
 split at h
 .rename_i c e f g i;have c:=kT _ _ c;exact⟨fun s d a=>c s d (jGV _ a),fun s d a=>c s d (jGU _ a),kT _ _ e,kT _ _ f,
   fun o b a=>jpx (jhw g o b a) b a,fun o b a=>jpx (jhw i o b a) b a⟩
 .cases h
theorem jfk {σ:St} {nb:List Nat} (x:z7) (before:List Nat):∀(l:List z7) (j:Nat),jcE σ nb x before l j=true->∀k y,l[k]? =some y->jAM σ nb y x=false\/j+k∈before
 |[],_,_,k,y,h=>by simp at h
 |z::r,j,h,k,y,hk=>by
  simp only[jcE] at h
  have a:jcE σ nb x before r (j+1)=true:=by
   split at h
   .split at h
    .exact h
    .cases h
   .exact h
  cases k with
  |zero=>
   simp at hk;subst hk
   split at h
   .split at h
    .rename_i c;exact .inr (by simpa using(kh _ _).1 c)
    .cases h
   .rename_i d;exact .inl d
  |succ k=>
   rcases jfk x before r (j+1) a k y (by simpa using hk) with b|b
   .exact .inl b
   .exact .inr (by rw[show j+(k+1)=j+1+k by omega];exact b)
theorem q7 {σ:St} {nb:List Nat} (all:List z7):∀(l:List z7) (ps:List (List Nat)) (k:Nat),y6 σ nb all l ps k=true->∀m y,l[m]? =some y->∃p,ps[m]? =some p/\∀j x,j<k+m->all[j]? =some x->NT σ nb x y\/j∈p
 |[],_,_,_,m,y,h=>by simp at h
 |_::_,[],_,h,_,_,_=>by simp[y6] at h
 |z::r,p::ps,k,h,m,y,hm=>by
  simp only[y6] at h
  split at h
  .rename_i e
   cases m with
   |zero=>
    simp at hm;subst hm
    refine⟨p,by simp,fun j x f b=> ?_⟩
    have:=jfk _ _ _ _ e j x (by rw[jHl (by omega)];exact b)
    rcases this with a|a
    .exact .inl (jAL a)
    .exact .inr (by simpa using a)
   |succ m=>
    obtain⟨g,c,d⟩:=q7 all r ps (k+1) h m y (by simpa using hm)
    exact⟨g,by simpa using c,fun j x f b=>d j x (by omega) b⟩
  .cases h
theorem jbV (b:List (List Nat)):∀(es:List Edge) (l:List Nat),jgE b es=some l->
 (∀e,e∈es->Region.binds .any e=true->e.on<b.length)/\∀j,j∈l->∃e,e∈es/\Region.binds .any e=true/\(j=e.on\/∃p,b[e.on]? =some p/\j∈p)
 |[],l,h=>by
  simp[jgE] at h;subst h
  exact⟨fun e t=>by simp at t,fun j c=>by simp at c⟩
 |e::r,l,h=>by
  simp only[jgE] at h
  split at h
  .cases h
  rename_i l' n
  obtain⟨q,s⟩:=jbV b r l' n
  split at h
  .rename_i g
   simp at h;subst h
   refine⟨fun f a d=> ?_,fun j c=> ?_⟩
   .rcases jGX.1 a with rfl|a
    .rw[g] at d;cases d
    .exact q f a d
   .obtain⟨f,i,k,m⟩:=s j c
    exact⟨f,jG0 _ i,k,m⟩
  .rename_i g
   split at h
   .rename_i p o
    simp at h;subst h
    refine⟨fun f a d=> ?_,fun j c=> ?_⟩
    .rcases jGX.1 a with rfl|a
     .exact(jGZ.1 o).1
     .exact q f a d
    .rcases(zU _ _ _).1 c with c|c
     .exact⟨e,jHz,g,.inr ⟨p,o,c⟩⟩
     .have:j=e.on\/j∈l':=by
       split at c
       .exact .inr c
       .rcases jGX.1 c with h|h
        .exact .inl h
        .exact .inr h
      rcases this with rfl|c
      .exact⟨e,jHz,g,.inl rfl⟩
      .obtain⟨f,i,k,m⟩:=s j c;exact⟨f,jG0 _ i,k,m⟩
   .cases h
theorem ql:∀(l:List Oper) (a ps:List (List Nat)),ky l a=some ps->
 (∃t,ps=a++t)/\∀m o,l[m]? =some o->∃p,ps[a.length+m]? =some p/\jgE (ps.take (a.length+m)) o.after.toList=some p
 |[],a,ps,h=>by
  simp[ky] at h;subst h
  exact⟨⟨[],by simp⟩,fun m o b=>by simp at b⟩
 |x::r,a,ps,h=>by
  simp only[ky] at h
  split at h
  .rename_i p c
   obtain⟨⟨t,rfl⟩,d⟩:=ql r (a++[p]) ps h
   refine⟨⟨p::t,by simp⟩,fun m o b=> ?_⟩
   cases m with
   |zero=>
    simp at b;subst b
    refine⟨p,by simp,?_⟩
    have:(a++[p]++t).take (a.length+0)=a:=by simp
    rw[this];exact c
   |succ m=>
    have:=d m o (by simpa using b)
    simp only[jHk,jHy,jHM] at this
    rw[show a.length+(m+1)=a.length+(0+1)+m by omega]
    exact this
  .cases h
end Go.X
namespace Go.X
open Go.RowKit (Below)
theorem jfA {α:Type} (ks:List Nat):∀(l:List (Nat×α)) (s:Nat) (v:α),jy (keep ks l) s=some v->jy l s=some v
 |[],s,v,h=>by simp[keep,jy] at h
 | (j,x)::r,s,v,h=>by
  simp only[keep] at h
  cases c:yg ks j with
  |true=>
   rw[c] at h
   simp only[jy] at h⊢
   cases a:Nat.beq j s with
   |true=>rw[a] at h;exact h
   |false=>rw[a] at h;exact jfA ks r s v h
  |false=>
   rw[c] at h
   have h:=jfA ks r s v h
   simp only[jy]
   cases a:Nat.beq j s with
   |true=>
    have:=jGT a
    subst this
    have hk:∀(l:List (Nat×α)),jy (keep ks l) j=none:=by
     intro l
     induction l with
     |nil=>rfl
     |cons y l e=>
      obtain⟨k,z⟩:=y;simp only[keep];cases hk:yg ks k with
      |false=>exact e
      |true=>
       simp only[jy];cases b:Nat.beq k j with
       |true=>have:=jGT b;subst this;rw[c] at hk;cases hk
       |false=>exact e
    rename_i d;rw[hk r] at d;cases d
   |false=>exact h
theorem jiB {α:Type} (ks:List Nat):∀(l:List (Nat×α)) (y:Nat×α),y∈keep ks l->y∈l/\y.1∈ks
 |[],y,h=>by simp[keep] at h
 | (j,x)::r,y,h=>by
  simp only[keep] at h
  cases a:yg ks j with
  |true=>
   rw[a] at h
   rcases jGX.1 h with rfl|h
   .exact⟨jHz,(kh _ _).1 a⟩
   .have:=jiB ks r y h;exact⟨jG0 _ this.1,this.2⟩
  |false=>
   rw[a] at h
   have:=jiB ks r y h;exact⟨jG0 _ this.1,this.2⟩
theorem jfF {α:Type} {ks:List Nat}:∀(l:List (Nat×α)),(∀y,y∈l->y.1∉ks)->keep ks l=[]
 |[],_=>rfl
 | (j,x)::r,h=>by
  simp only[keep]
  cases a:yg ks j with
  |true=>exact absurd ((kh _ _).1 a) (h (j,x) jHz)
  |false=>exact jfF r (fun y b=>h y (jG0 _ b))
theorem jcI {α:Type}:∀(l:List (Nat×α)) (k:Nat),k∈z6 l↔∃x,(k,x)∈l
 |[],k=>by simp[z6]
 | (j,y)::r,k=>by
  simp only[z6,jGX,jcI r k]
  constructor
  .rintro(rfl|⟨x,a⟩)
   .exact⟨y,.inl rfl⟩
   .exact⟨x,.inr a⟩
  .rintro⟨x,h|h⟩
   .simp at h;exact .inl h.1
   .exact .inr ⟨x,h⟩
theorem jr {α:Type}:∀(l:List (Nat×α)) (k:Nat),k∉z6 l->jy l k=none
 |[],k,_=>rfl
 | (j,y)::r,k,h=>by
  simp only[z6,jGX,not_or] at h
  rw[jv (fun e=>h.1 e.symm)]
  exact jr r k h.2
theorem vb {α:Type} {l:List (Nat×α)} {k:Nat} (h:jy l k≠none):k∈z6 l:=by
 by_cases a:k∈z6 l
 .exact a
 .exact absurd (jr l k a) h
theorem jnZ:∀(l:List (Nat×SV)) (s:Nat) (v:SV) (r:Nat),(s,v)∈l->r∈v.rl->r∈jES l
 |[],_,_,_,h,_=>by simp at h
 | (j,x)::l,s,v,r,h,hr=>by
  simp only[jES]
  rw[zU]
  rcases jGX.1 h with e|h
  .simp at e;obtain⟨_,rfl⟩:=e;exact .inl hr
  .exact .inr (jnZ l s v r h hr)
theorem jn0:∀(l:List (Nat×(Nat×Bool)×SV)) (s:Nat) g (v:SV) (r:Nat),(s,g,v)∈l->r∈v.rl->r∈jET l
 |[],_,_,_,_,h,_=>by simp at h
 | (j,a,x)::l,s,g,v,r,h,hr=>by
  simp only[jET]
  rw[zU]
  rcases jGX.1 h with e|h
  .simp at e;obtain⟨_,_,rfl⟩:=e;exact .inl hr
  .exact .inr (jn0 l s g v r h hr)
theorem jjZ:∀(l:List (Nat×Option Ob)) (o T:Nat) fz cs (r:Nat),(o,some (.box T fz cs))∈l->r∈SV.rl.rlL cs->r∈jsp l
 |[],_,_,_,_,_,h,_=>by simp at h
 | (j,y)::l,o,T,fz,cs,r,h,hr=>by
  rcases jGX.1 h with e|h
  .simp at e
   obtain⟨_,rfl⟩:=e
   simp only[jsp,jG5]
   exact .inl hr
  .have:=jjZ l o T fz cs r h hr
   unfold jsp
   split
   .rename_i e;cases e
   .rename_i e;cases e;exact jGU _ this
   .rename_i e;cases e;exact this
theorem juu (σ:St):∀(os:List Nat) (o T:Nat) fz cs (r:Nat),o∈os->σ.obj o=some (.box T fz cs)->r∈SV.rl.rlL cs->r∈jk7 σ os
 |[],_,_,_,_,_,h,_,_=>by simp at h
 |k::os,o,T,fz,cs,r,h,ho,hr=>by
  rcases jGX.1 h with rfl|h
  .simp only[jk7,ho]
   rw[zU];exact .inl hr
  .have:=juu σ os o T fz cs r h ho hr
   simp only[jk7]
   split
   .rw[zU];exact .inr this
   .exact this
theorem jl6 {σ τ:St}:∀(os:List Nat),(∀o,o∈os->σ.obj o=τ.obj o)->jk7 σ os=jk7 τ os
 |[],_=>rfl
 |k::os,h=>by
  simp only[jk7,h k jHz,jl6 os (fun o a=>h o (jG0 _ a))]
theorem jnY {σ:St}:∀(n:Nat) (os:List Nat) (o:Nat),o∈os->o∈jyU σ n os
 |0,_,_,h=>h
 |n+1,_,o,h=>jnY n _ o ((zU _ _ _).2 (.inr h))
theorem jmh {σ τ:St}:∀(n:Nat) (os:List Nat),(∀o,o∈jyU τ n os->σ.obj o=τ.obj o)->jyU σ n os=jyU τ n os
 |0,_,_=>rfl
 |n+1,os,h=>by
  simp only[jyU] at h⊢
  have e:jk7 σ os=jk7 τ os:=jl6 os (fun o a=>h o (jnY n _ o ((zU _ _ _).2 (.inr a))))
  rw[e]
  exact jmh n _ h
theorem jsl {slots:List Nat} {r s:RS} (b:keep slots r.st.sl=keep slots s.st.sl) (c:keep slots r.gl=keep slots s.gl) (a:∀o,o∈(zG slots s).1->r.st.obj o=s.st.obj o):zG slots r=zG slots s:=by
 unfold zG at a⊢;simp only at a⊢;rw[b,c];have e:=jmh (σ:=r.st) (τ:=s.st) 3 _ a;rw[e];congr 3;exact List.map_congr_left fun o d=>by rw[a o d]
theorem juz (f:Nat->Option Ob):∀(os:List Nat) (o:Nat),jy (os.map fun k=>(k,f k)) o=if o∈os then some (f o) else none
 |[],o=>by simp[jy]
 |k::os,o=>by
  simp only[jHW,jy]
  cases c:Nat.beq k o with
  |true=>have:=jGT c;subst this;simp
  |false=>
   have b:k≠o:=jW c
   simp only[juz f os o,jGX]
   by_cases a:o∈os
   .simp[a]
   .have:¬(o=k\/o∈os):=by rintro(h|h);exact b h.symm;exact a h
    rw[if_neg a,if_neg this]
section
variable {P:Program} {B:zJ} {C:Ctx} {ops:Array Oper} {Q:Exit->Act->World->Prop}
theorem gC (slots:List Nat) (rs:RS) (o:Nat):(zG slots rs).2.st.obj o=if o∈(zG slots rs).1 then rs.st.obj o else none:=by
 unfold zG;simp only[St.obj];rw[juz]
 split<;>rename_i h<;>split at h<;>simp_all
theorem jjk {slots:List Nat} {rs:RS} {e:Eff} (p:closed (zG slots rs).1 (zG slots rs).2 e=true):Fit P B rs (zG slots rs).2 e:=by
 unfold closed at p
 split at p
 case h_2=>cases p
 rename_i c1 c2 k l m;have c1:=qC _ _ c1;have c2:=qC _ _ c2;have k:=qC _ _ k;have l:=qC _ _ l;have m:=qC _ _ m;have a:=gC slots rs;refine⟨fun s v h=>jfA slots _ s v h,fun x z=>(jiB slots _ x z).1,fun o x h=> ?_,fun ρ w A j=> ?_⟩
 .rw[a] at h
  split at h
  .exact h
  .cases h
 .have D:(zG slots rs).2.st.obj=jyx (zG slots rs).1 rs.st.obj:=funext fun o=>by rw[a];rfl
  refine⟨⟨w,ρ.H,j6 ρ (zG slots rs).1,fun _=>none,fun _=>0⟩,jgI (zG slots rs).1 ρ,jiy _ _,by rw[D];exact juG A _,fun L w' n q=> ?_⟩;have b:∀o,({(zG slots rs).2.st with ob:=e.ob++(zG slots rs).2.st.ob}:St).obj o=(match jy e.ob o with|some x=>x|none=>(zG slots rs).2.st.obj o):=by
   intro o;simp only[St.obj];rw[jh];cases jy e.ob o<;>rfl
  obtain⟨ρ'',I,J,K⟩:=jqH (σ:=rs.st) A (zG slots rs).1 e.nw (fun d E=>(j d E).2) n q (fun o T fz cs f r u=>by
   rw[b] at f;have c:=gF cs r u
   split at f
   .rename_i x z;subst f;exact jG5.1 (l r (jjZ _ o T fz cs r (zr _ _ _ z) c))
   .have i:o∈(zG slots rs).1:=by
     rw[a] at f
     split at f
     .assumption
     .cases f
    exact .inr (c1 r (juu _ _ o T fz cs r i f c)))
  refine⟨ρ'',?_,J,fun v x G=>K v x (fun r u=> ?_)⟩
  .have:(zh e rs).st.obj=(fun o=>if o∈e.nw\/o∈(zG slots rs).1 then({(zG slots rs).2.st with ob:=e.ob++(zG slots rs).2.st.ob}:St).obj o else rs.st.obj o):=funext fun o=>by
    have C:(zh e rs).st.obj o=(match jy e.ob o with|some x=>x|none=>rs.st.obj o):=by
     simp only[St.obj,zh];rw[jh];cases jy e.ob o<;>rfl
    rw[C,b];cases F:jy e.ob o with
    |some x=>
     have hk:=m o (vb (by rw[F];simp));rw[if_pos (jG5.1 hk)]
    |none=>
     simp only;rw[a];by_cases i:o∈(zG slots rs).1
     .rw[if_pos (.inr i),if_pos i]
     .rw[if_neg i];by_cases t:o∈e.nw
      .rw[if_pos (.inl t)];exact(j o t).1
      .rw[if_neg (by rintro(h|h);exact t h;exact i h)]
   rw[this];exact I
  .have c:=jsu v r u;rcases G with⟨s,y⟩|⟨s,g,y⟩
   .exact jG5.1 (c2 r (jnZ _ s v r y c))
   .exact jG5.1 (k r (jn0 _ s g v r y c))
end
end Go.X
namespace Go.X
open Go.RowKit (Below)
section
variable {P:Program} {B:zJ} {C:Ctx} {ops:Array Oper} {Q:Exit->Act->World->Prop}
structure qn (C:Ctx) (ops:List Oper) (aZ:List z7) (rs:RS) (i:Nat) (o:Oper) (x:z7):Prop where
 get:aZ[i]? =some x
 eff:gY C ops o (zG (jZ ops o) (bld (fun k=>decide (k<i)) aZ rs)).2=some x.e
 fit:fits C ops o (bld (fun k=>decide (k<i)) aZ rs) x.e=true
 cl:closed (zG (jZ ops o) (bld (fun k=>decide (k<i)) aZ rs)).1 (zG (jZ ops o) (bld (fun k=>decide (k<i)) aZ rs)).2 x.e=true
 slots:x.slots=jZ ops o
 os:x.os=(zG (jZ ops o) (bld (fun k=>decide (k<i)) aZ rs)).1
 ws:x.ws=z6 x.e.ob++x.nn
 mv:x.mv=jFw (jX (zG (jZ ops o) (bld (fun k=>decide (k<i)) aZ rs)).2 []) o
 nn:x.nn=jGl o x.e
theorem v7 {d:List Oper}:∀(l:List Oper) (rs b:RS) (aZ:List z7),jjo C d l rs=some (aZ,b)->
 aZ.length=l.length/\b=bld (fun _=>true) aZ rs/\∀i o,l[i]? =some o->∃x,qn C d aZ rs i o x
 |[],rs,b,aZ,h=>by
  simp[jjo] at h
  obtain⟨rfl,rfl⟩:=h
  exact⟨rfl,rfl,fun i o h=>by simp at h⟩
 |o::r,rs,b,aZ,h=>by
  simp only[jjo] at h
  split at h
  .cases h
  rename_i e v
  split at h
  case h_2=>cases h
  rename_i w u
  split at h
  .cases h
  rename_i a F z
  simp only[Option.some.injEq,Prod.mk.injEq] at h
  obtain⟨rfl,rfl⟩:=h
  obtain⟨B,D,E⟩:=v7 r _ _ _ z
  refine⟨by simp[B],by rw[joA _ _ _ _ rfl];exact D,fun i o' hi=> ?_⟩
  cases i with
  |zero=>
   simp at hi;subst hi
   have c:∀a,bld (fun k=>decide (k<0)) a rs=rs:=fun a=>jaW _ _ (fun k=>by simp)
   refine⟨_,by simp;rfl,?_,?_,?_,rfl,?_,rfl,?_,rfl⟩
   .rw[c];exact v
   .rw[c];exact w
   .rw[c];exact u
   .rw[c]
   .rw[c]
  |succ i=>
   obtain⟨x,f,g,j,m,n,p,q,s,t⟩:=E i o' (by simpa using hi)
   have es:∀y:z7,y.e=e->bld (fun k=>decide (k<i+1)) (y::a) rs=bld (fun k=>decide (k<i)) a (zh e rs):=by
    intro y A;rw[joA _ _ _ _ (by simp),A];congr 1;funext k;simp
   refine⟨x,by simpa using f,?_,?_,?_,n,?_,q,?_,t⟩
   .rw[es _ rfl];exact g
   .rw[es _ rfl];exact j
   .rw[es _ rfl];exact m
   .rw[es _ rfl];exact p
   .rw[es _ rfl];exact s
theorem gX {f:List Oper} {o:Oper} {R:RS} {e:Eff} (h:gY C f o R=some e):(∃sv,e.sl=jpB o sv)/\∀s g v,(s,g,v)∈e.gl->o.dst=some s/\o.guard=some g:=by
 unfold gY at h
 split at h
 .split at h
  .cases h
  .simp at h;subst h;exact⟨⟨_,rfl⟩,fun s g v a=>by simp at a⟩
 .rename_i i b
  split at h
  .cases h
  .split at h
   .cases h
   .split at h
    .simp at h;subst h;refine⟨⟨_,rfl⟩,fun s g v a=> ?_⟩;simp only at a
     split at a
     .rename_i d c;simp at a;obtain⟨rfl,rfl,rfl⟩:=a;exact⟨c,b⟩
     .simp at a
    .cases h
theorem jb8 {o:Oper} {sv:SV} {s:Nat}:s∈z6 (jpB o sv)↔o.dst=some s:=by
 unfold jpB
 split
 .rename_i d a;rw[a];simp[z6];exact eq_comm
 .rename_i a;rw[a];simp[z6]
theorem jlF {l:List Oper} {j dj:Nat} {b:Bool} (h:gi l j=some dj):dj∈gW l l.length (some (j,b)):=by
 unfold gi at h;cases a:l[j]? with
 |none=>rw[a] at h;cases h
 |some o=>
  rw[a] at h;simp only at h;have:0<l.length:=(by have:=(jGZ.1 a).1;omega);obtain⟨n,c⟩:∃n,l.length=n+1:=⟨l.length-1,by omega⟩;rw[c];simp only[gW,a,h];exact jHz
section
variable {aZ:List z7} {rs:RS} {D:Nat->Bool} {i:Nat} {o:Oper} {x:z7} {nb:List Nat}
theorem jxV (f:∀k y,aZ[k]? =some y->∃o',ops.toList[k]? =some o'/\qn C ops.toList aZ rs k o' y) (m:qn C ops.toList aZ rs i o x)
 (d:∀k y,aZ[k]? =some y->D k≠decide (k<i)->NT rs.st nb x y) (l:∀k y,aZ[k]? =some y->D k≠decide (k<i)->∀r,r∈y.ws->r∉x.names):
 zG (jZ ops.toList o) (bld D aZ rs)=zG (jZ ops.toList o) (bld (fun k=>decide (k<i)) aZ rs):=by
 have j:∀(k:Nat) (y:z7),aZ[k]? =some y->∀z,z∈y.e.gl->z.1∈z6 y.e.sl:=by
  intro k y hk z h;obtain⟨_,_,c⟩:=f k y hk;obtain⟨⟨sv,a⟩,b⟩:=gX c.eff;obtain⟨s,g,v⟩:=z;rw[a];exact jb8.2 (b s g v h).1
 refine jsl ?_ ?_ ?_
 .simp only[bld,qI];congr 1;refine jke aZ 0 (fun k y a b=>jfF _ (fun z h=> ?_));rw[<-m.slots];exact(d k y a (by simpa using b)).s2 z.1 ((jcI _ _).2 ⟨z.2,h⟩)
 .simp only[bld,qI];congr 1;refine jke aZ 0 (fun k y a b=>jfF _ (fun z h=> ?_));rw[<-m.slots];exact(d k y a (by simpa using b)).s2 z.1 (j k y a z h)
 .intro r n;rw[<-m.os] at n;rw[jaV,jaV];rw[jj3 (D:=D) (D':=fun k=>decide (k<i)) aZ 0 (fun k y a b=>jr _ _ (fun hk=> ?_))];obtain⟨_,_,c⟩:=f k y a;refine l k y a (by simpa using b) r ?_ ?_
  .rw[c.ws];exact jGV _ hk
  .unfold z7.names;simp[n]
theorem jtE:∀(l:List z7) (r:Nat),r∉yo l->∀y,y∈l->∀z,(r,z)∈y.e.ob->gT z=false:=by
 have one:∀(l:List (Nat×Option Ob)) (r:Nat),r∉jjQ l->∀z,(r,z)∈l->gT z=false:=by
  intro l
  induction l with
  |nil=>intro r _ z h;simp at h
  |cons a l c=>
   intro r h z b;obtain⟨q,y⟩:=a;simp only[jjQ] at h
   split at h
   .rcases jGX.1 b with e|b
    .simp at e;obtain⟨rfl,rfl⟩:=e;simp at h
    .exact c r (fun i=>h (by simp[i])) z b
   .rename_i g;rcases jGX.1 b with e|b
    .simp at e;obtain⟨rfl,rfl⟩:=e;exact g
    .exact c r h z b
 intro l
 induction l with
 |nil=>intro r _ y h;simp at h
 |cons a l c=>
  intro r h y d z f;simp only[yo,jG5,not_or] at h;rcases jGX.1 d with rfl|d
  .exact one _ r h.1 z f
  .exact c r h.2 y d z f
def EqB (σ τ:St) (o:Nat):Prop:=σ.obj o=τ.obj o\/(gT (σ.obj o)=false/\gT (τ.obj o)=false)
theorem jud {σ:St} {o:Nat} {os:List Nat} (h:gT (σ.obj o)=false):jk7 σ (o::os)=jk7 σ os:=by
 simp only[jk7]
 split
 .rename_i e;rw[e] at h;cases h
 .rfl
theorem jdT {σ τ:St}:∀(os:List Nat),(∀o,o∈os->EqB σ τ o)->jk7 σ os=jk7 τ os
 |[],_=>rfl
 |k::os,h=>by
  have a:=jdT os (fun o d=>h o (jG0 _ d))
  rcases h k jHz with e|⟨b,c⟩
  .simp only[jk7,e,a]
  .rw[jud b,jud c,a]
theorem jjV {σ τ:St}:∀(n:Nat) (os:List Nat),(∀o,o∈jyU τ n os->EqB σ τ o)->jyU σ n os=jyU τ n os
 |0,_,_=>rfl
 |n+1,os,h=>by
  simp only[jyU] at h⊢
  have e:jk7 σ os=jk7 τ os:=jdT os (fun o a=>h o (jnY n _ o ((zU _ _ _).2 (.inr a))))
  rw[e]
  exact jjV n _ h
theorem jiQ:∀(l:List (Nat×(Nat×Bool)×SV)),jaq l []=[]
 |[]=>rfl
 |z::l=>by simp only[jaq,jgV];exact jiQ l
theorem jBZ {l:List Oper} {R i:RS} (h:jFw (jX R []) o=true) (s:R.st.sl=i.st.sl) (n:∀b,gT (R.st.obj b)=true->i.st.obj b=R.st.obj b):gY C l o R=gY C l o i:=by
 have opE:∀z,jJ (jX R []) z=jJ (jX i []) z:=by
  intro z;cases z with
  |tmp t=>simp only[jJ,St.get,jX,jiQ,jHr,s]
  |const v=>rfl
  |global g=>rfl
  |func f=>rfl
 have key:o.guard=none->y5 C l o R []=y5 C l o i []->(∀out,y5 C l o R []=some out->out.fz=[])->gY C l o R=gY C l o i:=by
  intro e p q;unfold gY;rw[e];simp only;rw[<-p];cases d:y5 C l o R [] with
  |none=>rfl
  |some out=>simp only[q out d,qt]
 unfold jFw at h
 split at h
 .rename_i z j e;refine key e ?_ ?_
  .simp only[y5,j,e,jx,opE z]
  .intro out d;simp only[y5,j,e,jx,Option.some.injEq] at d;subst d;rfl
 .rename_i U z j e
  split at h
  case h_2=>cases h
  rename_i b k c;have m:(jX i []).obj b=(jX R []).obj b:=n b h;have a:=c;rw[opE z] at a;refine key e ?_ ?_
  .simp only[y5,j,e,jx,c,a,m]
  .intro out d;simp only[y5,j,e,jx,c] at d
   repeat' split at d
   all_goals first|cases d;rfl|cases d
 .rename_i U z f j e
  split at h
  case h_2=>cases h
  rename_i b k c;have m:(jX i []).obj b=(jX R []).obj b:=n b h;have a:=c;rw[opE z] at a;have r:jj5 (jX i []) b=jj5 (jX R []) b:=(by unfold jj5;rw[m]);refine key e ?_ ?_
  .simp only[y5,j,e,jx,c,a,r]
  .intro out d;simp only[y5,j,e,jx,c] at d
   repeat' split at d
   all_goals first|cases d;rfl|cases d
 .cases h
theorem jEk (m:∀k y,aZ[k]? =some y->∃o',ops.toList[k]? =some o'/\qn C ops.toList aZ rs k o' y) (j:qn C ops.toList aZ rs i o x) (E:nb=yo aZ)
 (h:∀k y,aZ[k]? =some y->D k≠decide (k<i)->NT rs.st nb x y):
 gY C ops.toList o (zG (jZ ops.toList o) (bld D aZ rs)).2=some x.e/\closed (zG (jZ ops.toList o) (bld D aZ rs)).1 (zG (jZ ops.toList o) (bld D aZ rs)).2 x.e=true:=by
 by_cases K:∃k y r,aZ[k]? =some y/\D k≠decide (k<i)/\r∈y.ws/\r∈x.names
 .obtain⟨S,Z,Y,T,V,W,X⟩:=K;have M:=((h S Z T V).o2 Y W X).mv;rw[j.mv] at M;have A:∀(k:Nat) (y:z7),aZ[k]? =some y->∀z,z∈y.e.gl->z.1∈z6 y.e.sl:=by
   intro k y hk z p;obtain⟨_,_,n⟩:=m k y hk;obtain⟨⟨sv,a⟩,f⟩:=gX n.eff;obtain⟨s,g,v⟩:=z;rw[a];exact jb8.2 (f s g v p).1
  have u:keep (jZ ops.toList o) (bld D aZ rs).st.sl=keep (jZ ops.toList o) (bld (fun k=>decide (k<i)) aZ rs).st.sl:=by
   simp only[bld,qI];congr 1;refine jke aZ 0 (fun k y a f=>jfF _ (fun z p=> ?_));rw[<-j.slots];exact(h k y a (by simpa using f)).s2 z.1 ((jcI _ _).2 ⟨z.2,p⟩)
  have G:keep (jZ ops.toList o) (bld D aZ rs).gl=keep (jZ ops.toList o) (bld (fun k=>decide (k<i)) aZ rs).gl:=by
   simp only[bld,qI];congr 1;refine jke aZ 0 (fun k y a f=>jfF _ (fun z p=> ?_));rw[<-j.slots];exact(h k y a (by simpa using f)).s2 z.1 (A k y a z p)
  have l:∀r,r∈x.os->EqB (bld D aZ rs).st (bld (fun k=>decide (k<i)) aZ rs).st r:=by
   intro r d;by_cases hk:∃k y,aZ[k]? =some y/\D k≠decide (k<i)/\r∈z6 y.e.ob
   .obtain⟨k,y,a,f,t⟩:=hk;obtain⟨_,_,n⟩:=m k y a;have L:=(h k y a f).o2 r (by rw[n.ws];exact jGV _ t) (by unfold z7.names;simp[d]);have I:=jtE aZ r (by rw[<-E];exact L.nb);have J:∀D':Nat->Bool,gT ((bld D' aZ rs).st.obj r)=false:=by
     intro D';rw[jaV]
     split
     .rename_i z p;obtain⟨k,y,a,_,t⟩:=(va _ _ _ _ _).1 (zr _ _ _ p);exact I y (jHT a) z t
     .exact L.bf
    exact .inr ⟨J _,J _⟩
   .refine .inl ?_;rw[jaV,jaV];rw[jj3 (D:=D) (D':=fun k=>decide (k<i)) aZ 0 (fun k y a f=>jr _ _ (fun B=>hk ⟨k,y,a,by simpa using f,B⟩))]
  have c:=j.os;have H:(zG (jZ ops.toList o) (bld D aZ rs)).1=x.os:=by
   rw[c];unfold zG;simp only;rw[u,G];refine jjV 3 _ (fun r d=>l r ?_);rw[c];unfold zG;exact d
  refine⟨?_,?_⟩
  .rw[<-j.eff];refine(jBZ M (by unfold zG;exact u.symm) (fun b q=> ?_)).symm;rw[gC] at q⊢;rw[gC];rw[H,<-c];by_cases d:b∈x.os
   .rw[<-c,if_pos d] at q;rw[if_pos d,if_pos d];rcases l b d with e|⟨_,e⟩
    .exact e
    .rw[e] at q;cases q
   .rw[<-c,if_neg d] at q;cases q
  .have w:=j.cl;rw[<-c] at w;rw[H];unfold closed at w⊢
   split at w
   case h_2=>cases w
   rename_i c1 c2 O P Q;have N:jk7 (zG (jZ ops.toList o) (bld D aZ rs)).2.st x.os=jk7 (zG (jZ ops.toList o) (bld (fun k=>decide (k<i)) aZ rs)).2.st x.os:=jdT _ (fun r d=>by
    unfold EqB;rw[gC,gC,H,<-c,if_pos d,if_pos d];exact l r d)
   rw[N,c1,c2,O,P,Q]
 .have F:∀k y,aZ[k]? =some y->D k≠decide (k<i)->∀r,r∈y.ws->r∉x.names:=fun k y a f r t R=>K ⟨k,y,r,a,f,t,R⟩
  rw[jxV m j h F];exact⟨j.eff,j.cl⟩
theorem jCT (p:∀k y,aZ[k]? =some y->∃o',ops.toList[k]? =some o'/\qn C ops.toList aZ rs k o' y) (w:qn C ops.toList aZ rs i o x) (e:∀k y,aZ[k]? =some y->D k≠decide (k<i)->NT rs.st nb x y) {d:Nat} (l:d∈x.nn)
 (h:jAx (bld (fun k=>decide (k<i)) aZ rs) d):jAx (bld D aZ rs) d:=by
 have fact:∀k y,aZ[k]? =some y->∃o',qn C ops.toList aZ rs k o' y:=by
  intro k y b;obtain⟨_,_,t⟩:=p k y b;exact⟨_,t⟩
 have u:d∈x.ws:=(by rw[w.ws];exact jGU _ l);have o1:∀{y:z7},NT rs.st nb x y->d∉y.names:=fun{y} h n=>(h.o1 d u n).nn l
 have j:∀{sv:SV},d∉sv.rl->sv.refs d=false:=fun{sv} n=>by
  cases m:sv.refs d with
  |false=>rfl
  |true=>exact absurd (jsu sv d m) n
 refine⟨?_,?_,?_,?_,h.lt⟩
 .have b:=h.obj;rw[jaV] at b⊢;rw[jj3 (D:=D) (D':=fun k=>decide (k<i)) aZ 0 (fun k y b c=>jr _ _ (fun hk=> ?_))]
  .exact b
  .obtain⟨o',z⟩:=fact k y b;exact(e k y b (by simpa using c)).ws d u (by rw[z.ws];exact jGV _ hk)
 .intro s v a;simp only[bld] at a;rcases jG5.1 a with a|a
  .obtain⟨k,y,b,c,f⟩:=(va _ _ _ _ _).1 a;simp only[jHY] at c;by_cases hk:k<i
   .exact h.sl s v (by simp only[bld];exact jGV _ ((va _ _ _ _ _).2 ⟨k,y,b,by simpa using hk,f⟩))
   .refine j fun q=>o1 (e k y b (by rw[c];simp[hk])) ?_
    unfold z7.names;exact jGV _ (jnZ _ s v d f q)
  .exact h.sl s v (by simp only[bld];exact jGU _ a)
 .intro s g v a;simp only[bld] at a;rcases jG5.1 a with a|a
  .obtain⟨k,y,b,c,f⟩:=(va _ _ _ _ _).1 a;simp only[jHY] at c;by_cases hk:k<i
   .exact h.gl s g v (by simp only[bld];exact jGV _ ((va _ _ _ _ _).2 ⟨k,y,b,by simpa using hk,f⟩))
   .refine j fun q=>o1 (e k y b (by rw[c];simp[hk])) ?_
    unfold z7.names;exact jGU _ (jGV _ (jn0 _ s g v d f q))
  .exact h.gl s g v (by simp only[bld];exact jGU _ a)
 .intro r T fz cs a;simp only[bld] at a;rcases jG5.1 a with a|a
  .obtain⟨k,y,b,c,f⟩:=(va _ _ _ _ _).1 a;simp only[jHY] at c;by_cases hk:k<i
   .exact h.ob r T fz cs (by simp only[bld];exact jGV _ ((va _ _ _ _ _).2 ⟨k,y,b,by simpa using hk,f⟩))
   .cases m:SV.refs.refsL d cs with
    |false=>rfl
    |true=>
     refine absurd ?_ (o1 (e k y b (by rw[c];simp[hk])));unfold z7.names;exact jGU _ (jGU _ (jGV _ (jjZ _ r T fz cs d f (gF cs d m))))
  .exact h.ob r T fz cs (by simp only[bld];exact jGU _ a)
theorem jzC (c:∀k y,aZ[k]? =some y->∃o',ops.toList[k]? =some o'/\qn C ops.toList aZ rs k o' y) (n:qn C ops.toList aZ rs i o x)
 (a:∀k y,aZ[k]? =some y->D k≠decide (k<i)->NT rs.st nb x y):joJ C ops o (bld D aZ rs) x.e:=by
 have l:=qM (ops:=ops) n.fit;refine⟨l.frame,fun d g s j b v m=> ?_,l.guard,fun d g=> ?_,fun r=> ?_⟩
 .simp only[bld] at m;rcases jG5.1 m with m|m
  .obtain⟨k,y,p,t,u⟩:=(va _ _ _ _ _).1 m;simp only[jHY] at t;by_cases hk:k<i
   .exact l.gl d g s j b v (by simp only[bld];exact jGV _ ((va _ _ _ _ _).2 ⟨k,y,p,by simpa using hk,u⟩))
   .have B:=a k y p (by rw[t];simp[hk]);obtain⟨_,_,f⟩:=c k y p;obtain⟨⟨sv,E⟩,F⟩:=gX f.eff;obtain⟨w,z⟩:=F s (j,b) v u;obtain⟨⟨H,G⟩,_⟩:=gX n.eff;have q:d∈z6 x.e.sl:=(by rw[G];exact jb8.2 g);obtain⟨dj,A,_⟩:=(qM (ops:=ops) f.fit).guard s w j b z;refine⟨fun e=> ?_,dj,A,fun e=> ?_⟩
    .subst e;exact B.sl s q (by rw[E];exact jb8.2 w)
    .subst e;refine B.s1 dj q ?_;rw[f.slots];unfold jZ;rw[z];exact jGU _ (jlF A)
  .exact l.gl d g s j b v (by simp only[bld];exact jGU _ m)
 .exact jCT c n a (by rw[n.nn];exact jGV _ g) (l.nw d g)
 .refine jCT c n a ?_ (l.dst r);rw[n.nn];refine jGU _ ?_
  split
  .rename_i p t;rcases r with h|h
   .exact absurd p h
   .rw[t] at h;cases h
  .exact jHz
end
theorem jce {n:Nat} {r s:RS} {a:Act} {w:World} (h:Inv P B n ops r a w) (c:∀k,jy s.st.sl k=jy r.st.sl k) (d:∀k,s.st.obj k=r.st.obj k) (e:∀y,y∈s.gl->y∈r.gl):Inv P B n ops s a w:=by
 obtain⟨l,o,ρ,j,b,f,i⟩:=h;refine⟨l,o,ρ,by rw[show s.st.obj=r.st.obj from funext d];exact j,fun k v p=>b k v (by rw[<-c];exact p),fun k g v m=>f k g v (e _ m),i⟩
end
end Go.X
namespace Go.X
open Go.RowKit (Below)
theorem jq4 {p q:Nat->Bool}:∀(l:List Nat) (x:Nat),x∈l->p x=true->q x=false->(∀y,q y=true->p y=true)->l.countP q<l.countP p
 |[],x,h,_,_,_=>by simp at h
 |y::l,x,h,hp,hq,hqp=>by
  have le:l.countP q<=l.countP p:=List.countP_mono_left fun z _ b=>hqp z b
  simp only[jIo]
  rcases jGX.1 h with rfl|h
  .simp[hp,hq];omega
  .have:=jq4 l x h hp hq hqp
   have:(if q y=true then 1 else 0)<=(if p y=true then 1 else 0):=by
    cases a:q y with
    |false=>simp
    |true=>simp[hqp y a]
   omega
def cnt (n:Nat) (a:Array Bool):Nat:=(List.range n).countP fun k=> !(a.getD k false)
theorem jcO {a:Array Bool} {i:Nat} (hi:i<a.size) (k:Nat):(a.setIfInBounds i true).getD k false=if k=i then true else a.getD k false:=by
 simp only[jG3,jHd];by_cases e:k=i
 .subst e;simp[hi]
 .rw[if_neg (fun h=>e h.symm),if_neg e]
theorem jz3 {n:Nat} {a:Array Bool} {i:Nat} (hi:i<a.size) (c:i<n) (d:a.getD i false=false):cnt n (a.setIfInBounds i true)<cnt n a:=by
 refine jq4 _ i (by simpa using c) (by simp[d]) (by rw[jcO hi];simp) (fun y b=> ?_);rw[jcO hi] at b
 split at b
 .simp at b
 .exact b
def Clo (ops:Array Oper) (D:Nat->Bool):Prop:=∀k o,ops.toList[k]? =some o->D k=true->∀e,e∈o.after.toList->Region.binds .any e=true->D e.on=true
theorem qQ {ops:Array Oper} {ps:List (List Nat)} (b:ky ops.toList []=some ps) {D:Nat->Bool} (t:Clo ops D):∀(n k:Nat),k<n->∀o p,ops.toList[k]? =some o->
 (∀e,e∈o.after.toList->Region.binds .any e=true->D e.on=true)->ps[k]? =some p->∀j,j∈p->D j=true
 |0,k,h,_,_,_,_,_,_,_=>by omega
 |n+1,k,hk,o,p,w,u,F,j,E=>by
  obtain⟨_,g⟩:=ql _ _ _ b
  obtain⟨G,c,r⟩:=g k o w
  simp only[jHM,jHY] at c r
  rw[F] at c;simp at c;subst c
  obtain⟨B,C⟩:=jbV _ _ _ r
  obtain⟨e,d,f,y⟩:=C j E
  rcases y with rfl|⟨q,s,z⟩
  .exact u e d f
  .have m:e.on<k:=by have:=B e d f;simp at this;omega
   have v:=(jGZ.1 w).1
   rw[jHl m] at s
   have a:=jG2 (l:=ops.toList) (i:=e.on) (by omega)
   exact qQ b t n e.on (by omega) _ q a (fun x A g=>t e.on _ a (u e d f) x A g) s j z
theorem q9 {ops:Array Oper} {a:Array Bool} (k:a.size=ops.size) {i:Nat}:i∈Region.ready .any ops a↔∃o,ops.toList[i]? =some o/\a.getD i false=false/\∀e,e∈o.after.toList->Region.binds .any e=true->a.getD e.on false=true:=by
 unfold Region.ready;simp only[jHc,jG4,jGW,jHw,jHI];constructor
 .rintro⟨d,b,c⟩;have j:ops[i]? =some ops[i]:=jHo d;rw[j] at c;simp only[Option.map_some,Option.getD_some,Array.all_eq_true_iff_forall_mem] at c;refine⟨ops[i],j,?_,fun e g f=> ?_⟩
  .rw[jG3] at b⊢;have:a[i]? =some a[i]:=jHo (by omega);rw[this] at b⊢;simpa using b
  .have:=c e (by simpa using g);simpa[f] using this
 .rintro⟨o,d,b,c⟩;have h:=(jG6.1 d).1;refine⟨h,?_,?_⟩
  .rw[jG3] at b⊢;have:a[i]? =some a[i]:=jHo (by omega);rw[this] at b⊢;simpa using b
  .rw[d];simp only[Option.map_some,Option.getD_some,Array.all_eq_true_iff_forall_mem];intro e g;cases f:Region.binds .any e with
   |false=>simp
   |true=>simp[c e (by simpa using g) f]
theorem jaj {ops:Array Oper} {ps:List (List Nat)} (b:ky ops.toList []=some ps) {a:Array Bool} (l:a.size=ops.size) (j:Region.ready .any ops a=[]):
 ∀n k,k<n->k<ops.size->a.getD k false=true
 |0,k,h,_=>by omega
 |n+1,k,hk,c=>by
  cases p:a.getD k false with
  |true=>rfl
  |false=>
   have i:ops.toList[k]? =some ops.toList[k]:=jG2 (by simpa using c)
   obtain⟨_,o⟩:=ql _ _ _ b
   obtain⟨r,q,m⟩:=o k _ i
   obtain⟨d,_⟩:=jbV _ _ _ m
   have:k∈Region.ready .any ops a:=(q9 l).2 ⟨_,i,p,fun e g f=>jaj b l j n e.on (by have:=d e g f;simp at this;omega) (by have:=d e g f;simp at this;omega)⟩
   rw[j] at this;simp at this
section
variable {P:Program} {B:zJ} {C:Ctx} {ops:Array Oper} {Q:Exit->Act->World->Prop} {aZ:List z7} {rs:RS} {ps:List (List Nat)}
theorem jAl (hC:C.ok P) (m:∀k o',ops.toList[k]? =some o'->∃y,qn C ops.toList aZ rs k o' y) (Y:aZ.length=ops.toList.length) (J:ky ops.toList []=some ps) {nb:List Nat} (hnb:nb=yo aZ) (hord:y6 rs.st nb aZ aZ ps 0=true)
 (hvc:∀y,y∈aZ->jCy y.e.guard y.e.vc) (hQ:∀a w,Inv P B C.n ops (bld (fun _=>true) aZ rs) a w->Q .normal a w):
 ∀(c:Nat) (b:Array Bool) (a:Act) (w:World),b.size=ops.size->cnt ops.size b<=c->Clo ops (fun k=>b.getD k false)->Inv P B C.n ops (bld (fun k=>b.getD k false) aZ rs) a w->
  wpAny P .any ops Q c b a w:=by
 have hf:∀k y,aZ[k]? =some y->∃o',ops.toList[k]? =some o'/\qn C ops.toList aZ rs k o' y:=by
  intro k y hk;have Z:=(jGZ.1 hk).1;have v:k<ops.toList.length:=(by omega);obtain⟨y',t⟩:=m k ops.toList[k] (jG2 v);have:=t.get;rw[hk] at this;simp at this;subst this;exact⟨_,jG2 v,t⟩
 have R:∀(b:Array Bool) (a:Act) (w:World),(∀k,k<ops.size->b.getD k false=true)->Inv P B C.n ops (bld (fun k=>b.getD k false) aZ rs) a w->Q .normal a w:=by
  intro b a w hl M;refine hQ a w ?_;have e:∀{α:Type} (f:z7->List α),eL f (fun k=>b.getD k false) aZ 0=eL f (fun _=>true) aZ 0:=fun f=>jfZ f aZ 0 (fun k _ hk=>hl k (by simp at Y;omega))
  have:bld (fun k=>b.getD k false) aZ rs=bld (fun _=>true) aZ rs:=(by unfold bld;rw[e,e,e]);rw[<-this];exact M
 intro c
 induction c with
 |zero=>
  intro b a w hs hc _ M;have hl:∀k,k<ops.size->b.getD k false=true:=by
   intro k hk;cases L:b.getD k false with
   |true=>rfl
   |false=>
    have h0:cnt ops.size b=0:=(by omega);have:=jIg.1 h0 k (by simpa using hk);simp[L] at this
  refine⟨?_,R b a w hl M⟩;rw[jIm];intro i hi;obtain⟨o,F,G,_⟩:=(q9 hs).1 hi;have:=(jGZ.1 F).1;rw[hl i (by simpa using this)] at G;cases G
 |succ c ih=>
  intro b a w hs hc j M;refine⟨fun hr=>R b a w (fun k hk=>jaj J hs hr (k+1) k (by omega) hk) M,fun i hi=> ?_⟩;obtain⟨o,F,G,h3⟩:=(q9 hs).1 hi;have Z:i<ops.size:=(by have:=(jGZ.1 F).1;simpa using this);obtain⟨x,A⟩:=m i o F;have q:=q7 _ _ _ _ hord;have E:∀(k:Nat) (y:z7),aZ[k]? =some y->∃o',ops.toList[k]? =some o':=by
   intro k y hk;have:=(jGZ.1 hk).1;exact⟨_,jG2 (by omega)⟩
  have u:∀(k:Nat) (y:z7),aZ[k]? =some y->(fun k=>b.getD k false) k≠decide (k<i)->NT rs.st nb x y:=by
   intro k y hk hne;simp only at hne;obtain⟨o',d⟩:=E k y hk;by_cases hki:k<i
   .have L:b.getD k false=false:=by cases hh:b.getD k false<;>simp_all
    obtain⟨p,O,e2⟩:=q i x A.get;rcases e2 k y (by omega) hk with h|h
    .exact h.symm
    .have:=qQ J j (i+1) i (by omega) o p F h3 O k h;rw[L] at this;cases this
   .have L:b.getD k false=true:=by cases hh:b.getD k false<;>simp_all
    have hne':k≠i:=fun e=>by subst e;rw[G] at L;cases L
    obtain⟨p,O,e2⟩:=q k y hk;rcases e2 i x (by omega) A.get with h|h
    .exact h
    .have:=qQ J j (k+1) k (by omega) o' p d (fun e he hb=>j k o' d L e he hb) O i h;rw[G] at this;cases this
  obtain⟨V,hcl⟩:=jEk (D:=fun k=>b.getD k false) hf A hnb u;have W:=jzC (D:=fun k=>b.getD k false) hf A u;have l:∀k,(b.setIfInBounds i true).getD k false=if k=i then true else b.getD k false:=jcO (by omega);have I:Clo ops (fun k=>(b.setIfInBounds i true).getD k false):=by
   intro k o' d hk e he hb;simp only at hk⊢;rw[l] at hk⊢
   split
   .rfl
   .by_cases e':k=i
    .subst e';rw[F] at d;simp at d;subst d;exact h3 e he hb
    .rw[if_neg e'] at hk;exact j k o' d hk e he hb
  have g:=qD (K:=wpAny P .any ops Q c (b.setIfInBounds i true)) (Q:=Q) hC V W (jjk hcl) M (hvc x (jHT A.get)) (fun a' w' hI' _=>by
   refine ih _ a' w' (by simpa using hs) (by have:=jz3 (n:=ops.size) (by omega) Z G;omega) I ?_;have ins:∀{α:Type} (f:z7->List (Nat×α)) (s:Nat),(∀(k:Nat) (y:z7),i<k->aZ[k]? =some y->b.getD k false=true->jy (f x) s≠none->jy (f y) s=none)->
    jy (eL f (fun k=>(b.setIfInBounds i true).getD k false) aZ 0) s=jy (f x++eL f (fun k=>b.getD k false) aZ 0) s:=by
    intro α f s hh;refine jaL (i:=i) G (by show(b.setIfInBounds i true).getD i false=true;rw[l,if_pos rfl]) (fun k hk=>by show(b.setIfInBounds i true).getD k false=_;rw[l,if_neg hk]) aZ 0 i (by omega) A.get (fun k y h4 H S T=> ?_);exact hh k y h4 H (by simpa using S) T
   refine jce hI' (fun s=> ?_) (fun r=> ?_) (fun y N=> ?_)
   .simp only[bld,zh];rw[jh,ins (fun x=>x.e.sl) s (fun k y h4 H S T=>jr _ _ (fun hk=>(u k y H (by show b.getD k false≠_;rw[S];simp;omega)).sl s (vb T) hk)),<-jh,jHf]
   .have O:(zh x.e (bld (fun k=>b.getD k false) aZ rs)).st.obj r=(match jy (x.e.ob++eL (fun x=>x.e.ob) (fun k=>b.getD k false) aZ 0) r with|some y=>y|none=>rs.st.obj r):=by
     simp only[St.obj,zh,bld];rw[<-jHf,jh]
     all_goals (cases jy (x.e.ob++eL (fun x=>x.e.ob) (fun k=>b.getD k false) aZ 0) r<;>rfl)
    have X:=ins (fun x=>x.e.ob) r (fun k y h4 H S T=>jr _ _ (fun hk=>by
     obtain⟨o',d⟩:=E k y H;obtain⟨y',t⟩:=m k o' d;have:=t.get;rw[H] at this;simp at this;subst this;exact(u k y H (by show b.getD k false≠_;rw[S];simp;omega)).ws r (by rw[A.ws];exact jGV _ (vb T)) (by rw[t.ws];exact jGV _ hk)))
    rw[jaV,O,X]
    all_goals (cases jy (x.e.ob++eL (fun x=>x.e.ob) (fun k=>b.getD k false) aZ 0) r<;>rfl)
   .simp only[bld,zh] at N⊢;rcases jG5.1 N with N|N
    .obtain⟨k,z,g1,g2,g3⟩:=(va _ _ _ _ _).1 N;simp only[jHY] at g2;rw[l] at g2;by_cases e:k=i
     .subst e;have:=A.get;rw[g1] at this;simp at this;subst this;exact jGV _ g3
     .rw[if_neg e] at g2;exact jGU _ (jGV _ ((va _ _ _ _ _).2 ⟨k,z,g1,by simpa using g2,g3⟩))
    .exact jGU _ (jGU _ N))
  unfold wpOp;have hoi:ops[i]? =some o:=(by simpa using F);rw[hoi];simp only
  split
  .rename_i hw;rw[if_pos hw] at g;exact .inl g
  .rename_i hw;rw[if_neg hw] at g;exact g
end
end Go.X
namespace Go.X
open Go.RowKit (Below)
section
variable {P:Program} {B:zJ} {C:Ctx} {Q:Exit->Act->World->Prop}
theorem jbO {ρ:Env} {obj:Nat->Option Ob} {w:World} (h:Sat P B ρ obj w):Sat P B ρ obj {w with drawn:=w.drawn+1}:=
 ⟨h.os,h.tape,h.output,(by exact Nat.le_succ_of_le h.drawn),h.size,h.good,h.oldH,h.old,fun o x d=>by
  obtain⟨p,a,b⟩:=h.obs o x d
  exact⟨p,a,jN (new:=[]) (Env.le.refl _ _) (by simp) (fun _ _ _ _ _ c=>by simp at c) (fun _ _ _=>⟨rfl,rfl⟩) b⟩,h.dead,h.inj,h.own⟩
def jvG (P:Program) (ops:Array Oper) (b:Bool) (Q:Exit->Act->World->Prop) (a:Act) (w:World):Prop:=
 match b with
 |false=>wpList P ops Q ops.toList a w
 |true=>wpAny P .any ops Q ops.size (Array.replicate ops.size false) a {w with drawn:=w.drawn+1}
theorem jDF (c:P.follows .mixedOrders=true) {id:Nat} {ops:Array Oper} {b:Bool} {a:Act} {w:World} (h:jvG P ops b Q a w):(Code.region id ops b).wp P Q a w:=by
 cases b with
 |false=>exact wp_region_list h
 |true=>exact wp_region_any c h
theorem jpK (D:C.ok P) {ops:Array Oper} {b:Bool} {σ:St} {es:List Eff} {rs:RS} {k:Prop} {a:Act} {w:World}
 (h:gE C ops.toList b σ=some (es,rs)) (hk:zD b es k) (G:Rel P B C.n σ a w) (F:k->∀c w',Rel P B C.n rs.st c w'->Q .normal c w'):
 jvG P ops b Q a w:=by
 have E:Inv P B C.n ops ⟨σ,[]⟩ a w:=by
  obtain⟨m,p,ρ,q,r,t⟩:=G;exact⟨m,p,ρ,q,r,(fun s g v H=>by simp at H),t⟩
 have l:∀{i:RS} {c:Act} {w':World},Inv P B C.n ops i c w'->Rel P B C.n i.st c w':=fun⟨m,p,ρ,q,r,_,t⟩=>⟨m,p,ρ,q,r,t⟩
 cases b with
 |false=>
  simp only[gE] at h;exact wl D _ _ _ _ _ _ h hk E (fun f c w' d=>F f c w' (l d))
 |true=>
  simp only[gE] at h
  split at h
  case h_2=>cases h
  rename_i aZ i ps J I
  split at h
  case h_2=>cases h
  rename_i u;simp at h;obtain⟨rfl,rfl⟩:=h;obtain⟨L,M,N⟩:=v7 _ _ _ _ J;obtain⟨A,f⟩:=vW _ hk;show wpAny P .any ops Q ops.size (Array.replicate ops.size false) a {w with drawn:=w.drawn+1};have d:Inv P B C.n ops ⟨σ,[]⟩ a {w with drawn:=w.drawn+1}:=by
   obtain⟨m,p,ρ,q,r,t⟩:=E;exact⟨m,p,ρ,jbO q,r,t⟩
  refine jAl D N L I rfl u (fun y K=>A y.e (List.mem_map_of_mem K)) (fun c w' x=>F f c w' (l (by rw[M];exact x))) _ _ _ _ (by simp) ?_ ?_ ?_
  .unfold cnt;exact jHb List.countP_le_length (by simp)
  .intro j o O z;simp only[jG3,jH2] at z
   split at z<;>simp at z
  .rw[jaW aZ ⟨σ,[]⟩ (fun j=>by
    simp only[jG3,jH2]
    split<;>simp)]
   exact d
end
end Go.X
namespace Go.X
open Go.RowKit (Below)
structure jlQ (Bi B:zJ):Prop where
 os:B.w.os=Bi.w.os
 tape:B.w.tape=Bi.w.tape
 output:B.w.output=Bi.w.output
 drawn:Bi.w.drawn<=B.w.drawn
 size:Bi.w.heap.size<=B.w.heap.size
 mono:∀b c,Bi.H b=some c->B.H b=some c
 old:∀b,b<Bi.w.heap.size->b∉Bi.bor->B.w.heap[b]? =Bi.w.heap[b]?/\B.H b=Bi.H b/\b∉B.bor
 own:∀b,b∈B.bor->Bi.w.heap.size<=b\/b∈Bi.bor
 blk0:B.blk0=Bi.blk0
 len0:B.len0=Bi.len0
def jA3 (C:Ctx) (ops r:List Oper) (n:Nat) (rs:RS) (K:Ex->St->Prop):Prop:=
 match vC C ops r rs with
 |none=>False
 |some (ss,a)=>zD false ss (K .normal (wb ops (gc n a.st)))
theorem jfV {C:Ctx} {σ:St} {fields:List (Nat×Nat)}:∀(l:List (Nat×Operand)) (cs:List SV),vi C.inLit σ fields l cs=vi C σ fields l cs
 |[],_=>rfl
 | (j,x)::r,cs=>by
  have a:=fun cs=>jfV (C:=C) (σ:=σ) (fields:=fields) r cs
  have e:C.inLit.info=C.info:=rfl
  simp only[vi,a,e]
theorem jo9 {C:Ctx} {σ:St}:∀n,jpa C.inLit σ n=jpa C σ n
 |0=>rfl
 |n+1=>by
  have a:=jo9 (C:=C) (σ:=σ) n
  have e:C.inLit.spec=C.spec:=rfl
  funext ps rs v
  simp only[jpa,a,e]
theorem jAO {C:Ctx} {σ:St}:jDo C.inLit σ=jDo C σ:=by
 funext ps rs v;unfold jDo;rw[jo9]
theorem jiN {C:Ctx} {σ:St}:∀(ps:List Par) (vs:List SV),kP C.inLit σ ps vs=kP C σ ps vs
 |[],[]=>rfl
 |[],_::_=>rfl
 |p::ps,[]=>by cases p<;>rfl
 |p::ps,v::vs=>by
  have a:=jiN (C:=C) (σ:=σ) ps vs
  cases p<;>simp only[kP,a,jAO]
theorem jwO {C:Ctx} {σ:St} {dst:Nat} (f:SV) (args:List SV):jmG C.inLit σ dst f args=jmG C σ dst f args:=by
 have e:C.inLit.spec=C.spec:=rfl;have a:C.inLit.eff=C.eff:=rfl;unfold jmG;simp only[jiN,e,a]
theorem jwv {C:Ctx} {σ:St} {dst:Nat}:∀{op:Op},jec op=false->jmr op=false->jx C.inLit σ dst op=jx C σ dst op:=by
 intro op a b;cases op<;>first|rfl|(simp[jec] at a;done)|skip
 case makeMap U r=>
  cases r with
  |none=>simp[jmr] at b
  |some r=>rfl
 case build U parts=>
  have e:C.inLit.info=C.info:=rfl;simp only[jx,jfV,e]
 case slice U x lo hi d=>cases d<;>cases lo<;>cases hi<;>rfl
 case call c=>
  simp only[jx,jwO];rfl
theorem jzO {C:Ctx} {ops:List Oper} {o:Oper} {R:RS} (a:jec o.op=false) (b:jmr o.op=false):gY C.inLit ops o R=gY C ops o R:=by
 have e:∀ch,y5 C.inLit ops o R ch=y5 C ops o R ch:=by
  intro ch;unfold y5
  split
  .rfl
  .rfl
  .exact jwv a b
 unfold gY;simp only[e]
theorem jzD {C:Ctx} {ops:Array Oper} {o:Oper} {rs:RS} {e:Eff} (h:joJ C.inLit ops o rs e):joJ C ops o rs e:=⟨h.frame,h.gl,h.guard,h.nw,h.dst⟩
section
variable {P:Program}
theorem jlQ.refl (B:zJ):jlQ B B:=⟨rfl,rfl,rfl,jGY _,jGY _,fun _ _ h=>h,fun _ _ h=>⟨rfl,rfl,h⟩,fun _ h=> .inr h,rfl,rfl⟩
theorem jbN {Bi B:zJ} {ρ:Env} {obj:Nat->Option Ob} {w:World} (h:jlQ Bi B) (a:Sat P B ρ obj w):Sat P Bi ρ obj w:=by
 obtain⟨c1,c2,l,e,d,p,i,m,q,r⟩:=h;refine⟨a.os.trans c1,a.tape.trans c2,a.output.trans l,jHb e a.drawn,jHb d a.size,a.good,fun b c f=> ?_,fun b c f=> ?_,a.obs,a.dead,a.inj,fun o b C n=> ?_⟩
 .obtain⟨j,k,g⟩:=i b c f;exact(a.oldH b (jHU c d) g).trans k
 .obtain⟨j,k,g⟩:=i b c f;exact(a.old b (jHU c d) g).trans j
 .rcases a.own o b C n with h|h
  .exact .inl (jHb d h)
  .exact m b h
theorem jho {Bi B:zJ} {ρ:Env} (h:jlQ Bi B) (d:Pin B ρ):Pin Bi ρ:=by
 refine⟨fun o p e a=> ?_,fun b c a=>d.2 b c (h.mono b c a)⟩;have:=d.1 o p e a;rw[h.blk0,h.len0] at this;exact this
theorem jcB {B:zJ} {ρ:Env} {σ:St} {w w':World} {H':Imm} (d:Sat P B ρ σ.obj w) (j:jbv H' w') (k:∀b c,ρ.H b=some c->H' b=some c)
 (hk:∀o b C,ρ.blk o=some (some (b,C))->w'.heap[b]? =w.heap[b]?/\H' b=ρ.H b):
 Sat P {B with w:=w',H:=H',bor:=j6 ρ (z6 σ.ob)} {ρ with H:=H'} σ.obj w':=by
 have e:ρ.le {ρ with H:=H'} []:=⟨k,fun _ _ _ h=>h,fun _ _=>rfl⟩;refine⟨rfl,rfl,rfl,jGY _,jGY _,j,fun _ _ _=>rfl,fun _ _ _=>rfl,?_,d.dead,d.inj,?_⟩
 .intro o x n;obtain⟨p,a,m⟩:=d.obs o x n;refine⟨p,a,jN e (by simp) (fun _ _ _ _ o' g=>by simp at g) (fun b C' i=> ?_) m⟩;subst i;have:=hk o b C' a;exact⟨this.2,this.1⟩
 .intro o b C' a;refine .inr ((j0 _).2 ⟨o,C',?_,a⟩);refine Classical.byContradiction fun f=> ?_
  have l:σ.obj o=none:=by
   simp only[St.obj];rw[jr _ _ f]
  have:=d.dead o l;rw[a] at this;cases this
theorem jmF {Bi B:zJ} {ρ:Env} {σ:St} {w w':World} (d:jlQ Bi B) (k:Sat P B ρ σ.obj w) (e:Pin B ρ) (l:w'.os=w.os) (m:w'.tape=w.tape) (n:w'.output=w.output) (p:w.drawn<=w'.drawn) (q:w.heap.size<=w'.heap.size)
 (r:jbv ρ.H w') (hk:∀b,b<Bi.w.heap.size->w'.heap[b]? =w.heap[b]?) (t:∀o b C,ρ.blk o=some (some (b,C))->w'.heap[b]? =w.heap[b]?):
 jlQ Bi {B with w:=w',H:=ρ.H,bor:=j6 ρ (z6 σ.ob)}/\Sat P {B with w:=w',H:=ρ.H,bor:=j6 ρ (z6 σ.ob)} ρ σ.obj w'/\Pin {B with w:=w',H:=ρ.H,bor:=j6 ρ (z6 σ.ob)} ρ:=by
 have a:=jbN d k;refine⟨⟨l.trans a.os,m.trans a.tape,n.trans a.output,jHb a.drawn p,jHb a.size q,fun b c i=>(jho d e).2 b c i,fun b f g=>⟨?_,a.oldH b f g,fun s=> ?_⟩,fun b i=> ?_,d.blk0,d.len0⟩,jcB k r (fun _ _ h=>h) (fun o b C h=>⟨t o b C h,rfl⟩),⟨e.1,fun _ _ h=>h⟩⟩
 .exact(hk b f).trans (a.old b f g)
 .obtain⟨o,C,_,h⟩:=(j0 _).1 s;rcases a.own o b C h with j|j
  .omega
  .exact g j
 .obtain⟨o,C,_,h⟩:=(j0 _).1 i;exact a.own o b C h
theorem jDA {B:zJ} {ρ:Env} {obj:Nat->Option Ob} {w:World} (f:Sat P B ρ obj w) {d b:Nat} (E:obj d=none) (v:kx obj d) (l:∀o C,ρ.blk o≠some (some (b,C))) (n:B.w.heap.size<=b\/b∈B.bor) (x:Ob)
 (A:∀a:Env,a.H=ρ.H->zf P a w d (some (b,0)) x):∃a:Env,Sat P B a (jgj obj d (some x)) w/\ρ.le a [d]/\a.H=ρ.H/\a.blk d=some (some (b,0))/\∀o,o≠d->a.blk o=ρ.blk o:=by
 let a:Env:={H:=ρ.H,blk:=fun o=>if o=d then some (some (b,0)) else ρ.blk o,len:=ρ.len}
 have k:ρ.le a [d]:=⟨fun _ _ h=>h,fun o p c s=>by
  have c:o≠d:=(by simpa using c);simpa only[a,c,if_false] using s,fun _ _=>rfl⟩
 refine⟨a,⟨f.os,f.tape,f.output,f.drawn,f.size,f.good,f.oldH,f.old,fun o y j=> ?_,fun o c=> ?_,fun o o' q C C' g i=> ?_,fun o q C h=> ?_⟩,k,rfl,by simp[a],fun o c=>by simp[a,c]⟩
 .unfold jgj at j
  split at j
  .rename_i e;subst e;simp only[Option.some.injEq] at j;subst j;exact⟨_,by simp[a],A a rfl⟩
  .rename_i c;obtain⟨p,s,z⟩:=f.obs o y j;exact⟨p,by simp[a,c,s],jN k (by simpa using c) (fun T fz cs r o' m=>by simp at m;subst m;exact v o T fz cs (by rw[j,r])) (fun b C D=>⟨rfl,rfl⟩) z⟩
 .unfold jgj at c;simp only[a]
  split at c
  .cases c
  .rename_i h;rw[if_neg h];exact f.dead o c
 .simp only[a] at g i
  split at g<;>split at i
  .rename_i t u;rw[t,u]
  .simp only[Option.some.injEq,Prod.mk.injEq] at g;rw[<-g.1] at i;exact absurd i (l o' C')
  .simp only[Option.some.injEq,Prod.mk.injEq] at i;rw[<-i.1] at g;exact absurd g (l o C)
  .exact f.inj o o' q C C' g i
 .simp only[a] at h
  split at h
  .simp only[Option.some.injEq,Prod.mk.injEq] at h;rw[<-h.1];exact n
  .exact f.own o q C h
def lvO (d:Nat):Option Nat->RS->RS
 |none,rs=>rs
 |some b,rs=>⟨⟨(d,.lit (.map (some b)))::rs.st.sl,rs.st.ob⟩,rs.gl⟩
variable {C:Ctx} {ops:Array Oper} {B:zJ}
theorem jyS {rs:RS} {d:Nat} {q:Option Nat} {k:Nat} (h:jAx rs k):jAx (lvO d q rs) k:=by
 cases q with
 |none=>exact h
 |some b=>
  refine⟨h.obj,fun s v a=> ?_,h.gl,h.ob,h.lt⟩;rcases jGX.1 a with e|a
  .injection e with _ e;subst e;rfl
  .exact h.sl s v a
theorem jBW {o:Oper} {rs:RS} {e:Eff} {d:Nat} {q:Option Nat} (h:joJ C ops o rs e):joJ C ops o (lvO d q rs) e:=
 ⟨h.frame,fun k hk s j b v c=>h.gl k hk s j b v (by cases q<;>exact c),h.guard,fun k hk=>jyS (h.nw k hk),fun a=>jyS (h.dst a)⟩
theorem jFE {rs R:RS} {e:Eff} {d:Nat} {q:Option Nat} (h:Fit P B rs R e) (i:jy R.st.sl d=none):Fit P B (lvO d q rs) R e:=by
 cases q with
 |none=>exact h
 |some b=>
  refine⟨fun s v f=> ?_,h.gl,h.obj,fun ρ w g c=>h.go ρ w g c⟩;have a:d≠s:=fun e=>by subst e;rw[i] at f;cases f
  show jy ((d,_)::rs.st.sl) s=some v;rw[jv a];exact h.sl s v f
theorem jlx {α:Type} {ks:List Nat} {l:List (Nat×α)} {s:Nat} (h:s∉ks):jy (keep ks l) s=none:=by
 refine jr _ _ fun hk=> ?_
 obtain⟨x,a⟩:=(jcI _ _).1 hk;exact h (jiB ks l _ a).2
theorem jEA {C':Ctx} {aZ:List z7} {rs:RS} {i:Nat} {o:Oper} {x:z7} {nb:List Nat} (p:∀k y,aZ[k]? =some y->∃o',ops.toList[k]? =some o'/\qn C' ops.toList aZ rs k o' y) (q:qn C' ops.toList aZ rs i o x)
 {D D':Nat->Bool} (hi:D i=false) (n:D' i=true) (w:∀k,k≠i->D' k=D k) (g:∀k y,aZ[k]? =some y->D k≠decide (k<i)->NT rs.st nb x y):
 (∀s,jy (bld D' aZ rs).st.sl s=jy (zh x.e (bld D aZ rs)).st.sl s)/\(∀r,(bld D' aZ rs).st.obj r=(zh x.e (bld D aZ rs)).st.obj r)/\(∀y,y∈(bld D' aZ rs).gl->y∈(zh x.e (bld D aZ rs)).gl):=by
 have j:∀{α:Type} (f:z7->List (Nat×α)) (s:Nat),(∀(k:Nat) (y:z7),i<k->aZ[k]? =some y->D k=true->jy (f x) s≠none->jy (f y) s=none)->
  jy (eL f D' aZ 0) s=jy (f x++eL f D aZ 0) s:=by
  intro α f s B;exact jaL (i:=i) hi n w aZ 0 i (by omega) q.get (fun k y m a c d=>B k y m a (by simpa using c) d)
 refine⟨fun s=> ?_,fun r=> ?_,fun y b=> ?_⟩
 .simp only[bld,zh];rw[jh,j (fun x=>x.e.sl) s (fun k y m a c d=>jr _ _ (fun hk=>(g k y a (by rw[c];simp;omega)).sl s (vb d) hk)),<-jh,jHf]
 .have A:(zh x.e (bld D aZ rs)).st.obj r=(match jy (x.e.ob++eL (fun x=>x.e.ob) D aZ 0) r with|some y=>y|none=>rs.st.obj r):=by
   simp only[St.obj,zh,bld];rw[<-jHf,jh]
   all_goals (cases jy (x.e.ob++eL (fun x=>x.e.ob) D aZ 0) r<;>rfl)
  have h:=j (fun x=>x.e.ob) r (fun k y m a c d=>jr _ _ (fun hk=>by
   obtain⟨_,_,t⟩:=p k y a;exact(g k y a (by rw[c];simp;omega)).ws r (by rw[q.ws];exact jGV _ (vb d)) (by rw[t.ws];exact jGV _ hk)))
  rw[jaV,A,h]
  all_goals (cases jy (x.e.ob++eL (fun x=>x.e.ob) D aZ 0) r<;>rfl)
 .simp only[bld,zh] at b⊢;rcases jG5.1 b with b|b
  .obtain⟨k,z,u,l,v⟩:=(va _ _ _ _ _).1 b;simp only[jHY] at l;by_cases e:k=i
   .subst e;have:=q.get;rw[u] at this;simp at this;subst this;exact jGV _ v
   .rw[w k e] at l;exact jGU _ (jGV _ ((va _ _ _ _ _).2 ⟨k,z,u,by simpa using l,v⟩))
  .exact jGU _ (jGU _ b)
theorem jvE {U:Nat} {ti tk te:TI} (D:C.ok P) (q:C.mapT U=some (ti,tk,te)) {H:Imm} {b:Nat} {es:Array MapEntry} {clock:Nat} {l:List (tk.ty.Data×te.ty.Data)} {w:World} (u:w.heap[b]? =some (.map es clock))
 (f:jcx H tk.ty te.ty es clock l) {o:Oper} {ev:Operand->Value} {m n x:Operand} (r:o.op= .insert U m n x) (F:ev m= .map (some b)) {k:tk.ty.Data} (hk:tk.ty.rv H (ev n) k) (d:k∉l.map (·.1)):
 (execOp ev o).run P w= .ok .skip {w with heap:=w.heap.setIfInBounds b (.map (es.push {key:=ev n,val:=ev x,born:=clock}) (clock+1))}:=by
 obtain⟨_,s,J,h,p,G⟩:=gR D q;obtain⟨K,L,S⟩:=s.keyq p;have E:(getObj b).run P w= .ok (.map es clock) w:=(by simp[getObj,Sem.run,u]);have g:∀y:Obj,(setObj b y).run P w= .ok () {w with heap:=w.heap.setIfInBounds b y}:=fun y=>by simp[setObj,Sem.run,u]
 have c1:=K H (ev n) k w false hk;have c:es.toList.length=l.length:=(by simpa using f.1);have a:∀(i:Nat) (x:tk.ty.Data×te.ty.Data),l[i]? =some x->∃e:MapEntry,es.toList[i]? =some e/\tk.ty.rv H e.key x.1/\te.ty.rv H e.val x.2:=fun i x I=>by simpa using f.2.2.2.2 i x I
 have c2:=L H es.toList (jbb l) (ev n) k w hk (jqp _ _ c a);rcases vg (H:=H) k es.toList l 0 c a with⟨t,v,z⟩|⟨j,N,M,t,v,z,A,B,O,Q,R⟩
 .rw[t] at c2;simp[execOp,r,Instr.mapUpdate,run_underlying h,F,E,c1,c2,g]
 .refine absurd (jHm.2 ⟨M,jHT A,B⟩) d
theorem jfz {α:Type} {y:α}:∀(l:List (Option α)),y∈je6 l↔∃k:Nat,l[k]? =some (some y)
 |[]=>by simp[je6]
 |none::r=>by
  simp only[je6,jfz r]
  constructor
  .rintro⟨k,hk⟩;exact⟨k+1,by simpa using hk⟩
  .rintro⟨k,hk⟩
   cases k with
   |zero=>simp at hk
   |succ k=>exact⟨k,by simpa using hk⟩
 |some x::r=>by
  simp only[je6,jGX,jfz r]
  constructor
  .rintro(rfl|⟨k,hk⟩)
   .exact⟨0,rfl⟩
   .exact⟨k+1,by simpa using hk⟩
  .rintro⟨k,hk⟩
   cases k with
   |zero=>simp at hk;exact .inl hk.symm
   |succ k=>exact .inr ⟨k,by simpa using hk⟩
theorem jnh {α a:Type}:∀(l:List (Option (α×a))),((je6 l).map (·.1)).Nodup->∀(i j:Nat) (x y:α×a),l[i]? =some (some x)->l[j]? =some (some y)->i≠j->x.1≠y.1
 |[],_,i,_,_,_,h,_,_=>by simp at h
 |none::r,hn,i,j,x,y,hi,hj,hne=>by
  cases i with
  |zero=>simp at hi
  |succ i=>
   cases j with
   |zero=>simp at hj
   |succ j=>exact jnh r hn i j x y (by simpa using hi) (by simpa using hj) (by omega)
 |some z::r,hn,i,j,x,y,hi,hj,hne=>by
  simp only[je6,jHW,jHP] at hn
  have inr:∀(k:Nat) (u:α×a),r[k]? =some (some u)->u.1∈(je6 r).map (·.1):=fun k u b=>jHm.2 ⟨u,(jfz r).2 ⟨k,b⟩,rfl⟩
  cases i with
  |zero=>
   cases j with
   |zero=>exact absurd rfl hne
   |succ j=>
    simp at hi;subst hi
    intro e
    exact hn.1 (e▸inr j y (by simpa using hj))
  |succ i=>
   cases j with
   |zero=>
    simp at hj;subst hj
    intro e
    exact hn.1 (e▸inr i x (by simpa using hi))
   |succ j=>exact jnh r hn.2 i j x y (by simpa using hi) (by simpa using hj) (by omega)
structure jGa (B B':zJ) (kt vt:Ty) (ents:List (Option (kt.Data×vt.Data))) (D:Nat->Bool) (b:Nat) (l:List (kt.Data×vt.Data)) (es:Array MapEntry) (clock:Nat):Prop where
 d0:D 0=true
 ge:B.w.heap.size<=b
 lt:b<B'.w.heap.size
 nb:b∉B'.bor
 nH:B'.H b=none
 at_:B'.w.heap[b]? =some (.map es clock)
 rd:jcx B'.H kt vt es clock l
 nd:(l.map (·.1)).Nodup
 mem:∀y,y∈l↔∃k:Nat,D k=true/\ents[k]? =some (some y)
def jGx (P:Program) (B:zJ) (n:Nat) (ops:Array Oper) (d:Nat) (kt vt:Ty) (ents:List (Option (kt.Data×vt.Data))) (aZ:List z7) (rs:RS) (D:Nat->Bool) (a:Act) (w:World):Prop:=
 ∃B' q,jlQ B B'/\Inv P B' n ops (lvO d q (bld D aZ rs)) a w/\match q with
  |none=>D 0=false
  |some b=>∃l es clock,jGa B B' kt vt ents D b l es clock
theorem jit:∀(n k:Nat),k∈jDm n↔k<n
 |0,k=>by simp[jDm]
 |n+1,k=>by simp only[jDm,jGX,jit n k];omega
theorem jmx (p:List Nat):∀n,juF p n=true->∀j,j<n->j∈p
 |0,_,j,h=>by omega
 |n+1,h,j,b=>by
  simp only[juF] at h
  split at h
  .rename_i a
   by_cases e:j=n
   .subst e;exact(kh _ _).1 a
   .exact jmx p n h j (by omega)
  .cases h
theorem ji5:∀(ps:List (List Nat)) (k m:Nat),ji6 ps k m=true->∀(i:Nat) (p:List Nat),ps[i]? =some p->m<=k+i->∀j,j<m->j∈p
 |[],_,_,_,i,_,h,_=>by simp at h
 |q::ps,k,m,h,i,p,hi,hm=>by
  have tl:ji6 ps (k+1) m=true:=by
   simp only[ji6] at h
   split at h
   .split at h
    .exact h
    .cases h
   .exact h
  cases i with
  |zero=>
   simp at hi;subst hi;simp only[ji6] at h;have:Nat.ble m k=true:=Nat.ble_eq_true_of_le (by omega);rw[this] at h;simp only at h
   split at h
   .rename_i a;exact jmx _ _ a
   .cases h
  |succ i=>exact ji5 ps (k+1) m tl i p (by simpa using hi) (by omega)
theorem jmL {d:Nat}:∀(l:List Oper) (aZ:List z7),aside d l aZ=true->∀(k:Nat) (o:Oper) (x:z7),l[k]? =some o->aZ[k]? =some x->jec o.op=false->jmr o.op=false/\d∉x.slots/\d∉z6 x.e.sl
 |[],_,_,k,_,_,h,_,_=>by simp at h
 |_::_,[],h,_,_,_,_,_,_=>by simp[aside] at h
 |o::r,x::aZ,h,k,o',x',hk,hx,hi=>by
  simp only[aside] at h
  cases k with
  |zero=>
   simp at hk hx;subst hk hx
   rw[hi] at h
   simp only at h
   split at h
   .rename_i f b c
    refine⟨f,?_,?_⟩
    .intro a;rw[(kh _ _).2 a] at b;cases b
    .intro a;rw[(kh _ _).2 a] at c;cases c
   .cases h
  |succ k=>
   have tl:aside d r aZ=true:=by
    split at h
    .exact h
    .split at h
     .exact h
     .cases h
   exact jmL r aZ tl k o' x' (by simpa using hk) (by simpa using hx) hi
theorem jkG {a:List Oper} {d U:Nat} {kt vt:Ty}:∀(l:List Oper) (aZ:List z7) (rs:RS) (ents:List (Option (kt.Data×vt.Data))),jkH a d U kt vt l aZ rs=some ents->
 ents.length=l.length/\∀(k:Nat) (o:Oper),l[k]? =some o->∃y,ents[k]? =some y/\jos d U kt vt o (zG (jZ a o) (bld (fun j=>decide (j<k)) aZ rs)).2.st=some y
 |[],[],rs,ents,h=>by simp[jkH] at h;subst h;exact⟨rfl,fun k o h=>by simp at h⟩
 |[],_::_,_,_,h=>by simp[jkH] at h
 |_::_,[],_,_,h=>by simp[jkH] at h
 |o::r,x::aZ,rs,ents,h=>by
  simp only[jkH] at h
  split at h
  case h_2=>cases h
  rename_i y l e f
  simp at h;subst h
  obtain⟨g,i⟩:=jkG r aZ _ _ f
  refine⟨by simp[g],fun k o' hk=> ?_⟩
  cases k with
  |zero=>
   simp at hk;subst hk
   refine⟨y,rfl,?_⟩
   rw[jaW (x::aZ) rs (fun k=>by simp)]
   exact e
  |succ k=>
   obtain⟨m,b,c⟩:=i k o' (by simpa using hk)
   refine⟨m,by simpa using b,?_⟩
   rw[joA _ _ _ _ (by simp)]
   have:(fun j=>decide (j+1<k+1))=fun j=>decide (j<k):=by funext j;simp
   rw[this]
   exact c
theorem jmC {d U:Nat} {kt vt:Ty} {o:Oper} {σ:St} {y:kt.Data×vt.Data} (h:jos d U kt vt o σ=some (some y)):
 ∃b x,o.op= .insert U (.tmp d) b x/\o.dst=none/\o.guard=none/\jv3 d b=true/\jv3 d x=true/\qb σ kt (jJ σ b)=some (y.1,[])/\qb σ vt (jJ σ x)=some (y.2,[]):=by
 unfold jos at h
 split at h
 .rename_i s m b x c
  split at h
  .rename_i u k v a e i j l n p q
   split at h
   .rename_i r;simp at h;subst h;have:=jGT r;subst this;have:=jGT j;subst this;refine⟨b,x,?_,e,i,p,q,l,n⟩;cases m with
    |tmp t=>simp[jn3] at a;subst a;exact c
    |const v=>simp[jn3] at a
    |global g=>simp[jn3] at a
    |func f=>simp[jn3] at a
   .cases h
  .cases h
 .simp at h
theorem jzN {d U:Nat} {kt vt:Ty} {o:Oper} {σ:St} {y:Option (kt.Data×vt.Data)} (h:jos d U kt vt o σ=some y) (hi:jec o.op=true):∃z,y=some z:=by
 unfold jos at h
 split at h
 .split at h
  .split at h
   .simp at h;subst h;exact⟨_,rfl⟩
   .cases h
  .cases h
 .rename_i a;exfalso;cases b:o.op<;>rw[b] at hi<;>simp[jec] at hi
  exact a _ _ _ _ b
theorem jtq {d U:Nat} {kt vt:Ty} {o:Oper} {σ:St} {y:Option (kt.Data×vt.Data)} (h:jos d U kt vt o σ=some y) (hi:jec o.op=false):y=none:=by
 unfold jos at h
 split at h
 .rename_i a;rw[a] at hi;simp[jec] at hi
 .simp at h;exact h.symm
theorem jC4 {ρ:Env} {d:Nat} {q:Option Nat} {rs:RS} {a:Act} {slots:List Nat} {x:Operand} (c:jgg P ρ (lvO d q rs).st.sl a) (j:jv3 d x=true):SV.den P ρ (jJ (zG slots rs).2.st x) (a.eval x):=by
 cases x with
 |tmp t=>
  have i:d≠t:=by
   intro e;subst e;simp only[jv3] at j
   split at j
   .cases j
   .rename_i l;exact absurd (Nat.beq_refl d) (by rw[l];simp)
  simp only[jJ,St.get]
  split
  .rename_i v m;have k:=jfA slots _ t v m;refine c t v ?_;cases q with
   |none=>exact k
   |some b=>show jy ((d,_)::rs.st.sl) t=some v;rw[jv i];exact k
  .exact kV _
 |const v=>exact jI (σ:=⟨[],[]⟩) (fun s sv h=>by simp[jy] at h) (.const v)
 |global g=>exact jI (σ:=⟨[],[]⟩) (fun s sv h=>by simp[jy] at h) (.global g)
 |func f=>exact jI (σ:=⟨[],[]⟩) (fun s sv h=>by simp[jy] at h) (.func f)
end
end Go.X
namespace Go.X
open Go.RowKit (Below)
section
variable {P:Program} {B:zJ} {C:Ctx} {ops:Array Oper} {Q:Exit->Act->World->Prop} {aZ:List z7} {rs:RS} {ps:List (List Nat)}
structure jw8 (P:Program) (C:Ctx) (ops:Array Oper) (aZ:List z7) (rs:RS) (ps:List (List Nat)) (body:List Oper) (m d U:Nat) (tk te:TI) (ents:List (Option (tk.ty.Data×te.ty.Data))):Prop where
 ok:C.ok P
 mp:∃ti,C.mapT U=some (ti,tk,te)
 bd:∀(k:Nat) (o:Oper),body[k]? =some o->ops.toList[k]? =some o
 sz:ops.size=body.length+m
 o0:∃o,body[0]? =some o/\o.op= .makeMap U none/\o.dst=some d/\o.guard=none
 pre:ky ops.toList []=some ps
 tl:∀(k:Nat) (p:List Nat),body.length<=k->ps[k]? =some p->∀j,j<body.length->j∈p
 all:∀(k:Nat) (o:Oper),body[k]? =some o->∃y,qn C.inLit ops.toList aZ rs k o y
 len:aZ.length=body.length
 ord:y6 rs.st (yo aZ) aZ aZ ps 0=true
 ent:∀(k:Nat) (o:Oper),body[k]? =some o->∃y,ents[k]? =some y/\jos d U tk.ty te.ty o (zG (jZ ops.toList o) (bld (fun j=>decide (j<k)) aZ rs)).2.st=some y
 elen:ents.length=body.length
 aside:∀(k:Nat) (o:Oper) (x:z7),0<k->body[k]? =some o->aZ[k]? =some x->jec o.op=false->jmr o.op=false/\d∉x.slots/\d∉z6 x.e.sl
 nd:((je6 ents).map (·.1)).Nodup
 new:jsV (bld (fun _=>true) aZ rs) d=true
 vc:∀y,y∈aZ->jCy y.e.guard y.e.vc
variable {body:List Oper} {m d U:Nat} {tk te:TI} {ents:List (Option (tk.ty.Data×te.ty.Data))}
theorem jw8.fact (h:jw8 P C ops aZ rs ps body m d U tk te ents):∀k y,aZ[k]? =some y->∃o',ops.toList[k]? =some o'/\body[k]? =some o'/\qn C.inLit ops.toList aZ rs k o' y:=by
 intro k y hk;have e:=(jGZ.1 hk).1;have a:k<body.length:=(by have:=h.len;omega);have c:body[k]? =some body[k]:=jG2 a;obtain⟨f,b⟩:=h.all k _ c;have:=b.get;rw[hk] at this;simp at this;subst this;exact⟨_,h.bd k _ c,c,b⟩
theorem jw8.fact' (h:jw8 P C ops aZ rs ps body m d U tk te ents):∀k y,aZ[k]? =some y->∃o',ops.toList[k]? =some o'/\qn C.inLit ops.toList aZ rs k o' y:=fun k y hk=>
 let ⟨o',h1,_,h2⟩:=h.fact k y hk;⟨o',h1,h2⟩
theorem jw8.behind (h:jw8 P C ops aZ rs ps body m d U tk te ents) {k:Nat} {y:tk.ty.Data×te.ty.Data} (hk:ents[k]? =some (some y)):∃p,ps[k]? =some p/\0∈p:=by
 have j:k<body.length:=(by have:=(jGZ.1 hk).1;have:=h.elen;omega);have i:body[k]? =some body[k]:=jG2 j;obtain⟨D,g,o⟩:=h.ent k _ i;rw[hk] at g;simp at g;subst g;obtain⟨B,x,a,n,s,_⟩:=jmC o;obtain⟨z,c⟩:=h.all k _ i;obtain⟨o0,f,q,r,A⟩:=h.o0;obtain⟨x0,b⟩:=h.all 0 _ f;have t:0<k:=by
  rcases jH8 k with e|e
  .subst e;rw[i] at f;simp at f;rw[f,q] at a;cases a
  .exact e
 obtain⟨p,v,w⟩:=q7 _ _ _ _ h.ord k z c.get;refine⟨p,v,?_⟩;rcases w 0 x0 (by omega) b.get with l|l
 .exfalso;obtain⟨⟨sv,u⟩,_⟩:=gX b.eff;refine l.s1 d (by rw[u];exact jb8.2 r) ?_;rw[c.slots];unfold jZ;refine jGV _ ?_;rw[a];simp[Op.operands,jtY,jn3]
 .exact l
theorem jw8.listed0 (h:jw8 P C ops aZ rs ps body m d U tk te ents) {D:Nat->Bool} (g:Clo ops D) {k:Nat} {y:tk.ty.Data×te.ty.Data} (hk:ents[k]? =some (some y)) (i:∀o,ops.toList[k]? =some o->∀e,e∈o.after.toList->Region.binds .any e=true->D e.on=true):D 0=true:=by
 obtain⟨p,c,f⟩:=h.behind hk;have a:k<body.length:=(by have:=(jGZ.1 hk).1;have:=h.elen;omega);have b:=h.bd k _ (jG2 a);exact qQ h.pre g (k+1) k (by omega) _ p b (i _ b) c 0 f
theorem jpO {α b:Type} {l:List (α×b)} (h:(l.map (·.1)).Nodup):l.Nodup:=by
 unfold List.Nodup at h⊢;rw[jId] at h;exact h.imp (fun a e=>a (by rw[e]))
theorem jkN {n m:Nat} {a:Array Bool} (d:∀k,k<n->a.getD k false=true) (e:∀k,a.getD k false=true->k<n):cnt (n+m) a=m:=by
 unfold cnt;rw[List.range_add,jIr];have b:(List.range n).countP (fun k=> !(a.getD k false))=0:=jIg.2 (fun k hk=>by simp[d k (by simpa using hk)]);have c:((List.range m).map (n+·)).countP (fun k=> !(a.getD k false))=((List.range m).map (n+·)).length:=List.countP_eq_length.2 (fun k hk=>by
  obtain⟨j,_,rfl⟩:=jHm.1 hk;cases f:a.getD (n+j) false with
  |false=>rfl
  |true=>have:=e _ f;omega)
 rw[b,c];simp
theorem jw8.finish (h:jw8 P C ops aZ rs ps body m d U tk te ents) {c:Array Bool} {a:Act} {w:World} (x:∀k,k<body.length->c.getD k false=true) (I:jGx P B C.n ops d tk.ty te.ty ents aZ rs (fun k=>c.getD k false) a w):
 ∃l,l.Perm (je6 ents)/\Inv P B C.n ops (jBy d tk.ty te.ty l (bld (fun _=>true) aZ rs)) a w:=by
 obtain⟨B',q,D,I,Q⟩:=I;have e:bld (fun k=>c.getD k false) aZ rs=bld (fun _=>true) aZ rs:=by
  have e:∀{α:Type} (f:z7->List α),eL f (fun k=>c.getD k false) aZ 0=eL f (fun _=>true) aZ 0:=fun f=>jfZ f aZ 0 (fun k _ hk=>x k (by have:=h.len;simp at hk;omega))
  unfold bld;rw[e,e,e]
 rw[e] at I;obtain⟨o0,S,_⟩:=h.o0;have T:0<body.length:=(jGZ.1 S).1;cases q with
 |none=>exact absurd (x 0 T) (by rw[show c.getD 0 false=false from Q];simp)
 |some b=>
  obtain⟨l,es,clock,i⟩:=Q;obtain⟨Y,hn,ρ,J,A,V,t⟩:=I;have L:Sat P B ρ (bld (fun _=>true) aZ rs).st.obj w:=jbN D J;have K:=jho D t;have N:=yj h.new;have M:∀o C',ρ.blk o≠some (some (b,C')):=fun o C' X=>by
   rcases J.own o b C' X with x|x
   .have:=i.lt;omega
   .exact i.nb x
  have W:ρ.H b=none:=(J.oldH b i.lt i.nb).trans i.nH;obtain⟨F,s1,s2,s3,s4,s5⟩:=jDA L N.obj N.noRef M (.inl i.ge) (.map false tk.ty te.ty l) (fun F z=>by
   simp only[zf,fzM];exact⟨b,0,es,clock,rfl,(J.old b i.lt i.nb).trans i.at_,by rw[z];exact i.rd.mono t.2,by rw[z];exact W⟩)
  refine⟨l,(List.perm_ext_iff_of_nodup (jpO i.nd) (jpO h.nd)).2 (fun y=> ?_),Y,hn,F,?_,?_,?_,K.mono s2 (fun r u=>by simp at u;subst u;exact N.lt)⟩
  .rw[i.mem,jfz];constructor
   .rintro⟨k,_,hk⟩;exact⟨k,hk⟩
   .rintro⟨k,hk⟩;exact⟨k,x k (by have:=(jGZ.1 hk).1;have:=h.elen;omega),hk⟩
  .have:(jBy d tk.ty te.ty l (bld (fun _=>true) aZ rs)).st.obj=jgj (bld (fun _=>true) aZ rs).st.obj d (some (.map false tk.ty te.ty l)):=wd (bld (fun _=>true) aZ rs).st d _;rw[this];exact s1
  .intro s sv R;by_cases e:s=d
   .subst e;have j:jy ((s,SV.mp s)::(bld (fun _=>true) aZ rs).st.sl) s=some sv:=R;rw[jE] at j;simp at j;subst j;have G:=A s (.lit (.map (some b))) (jE _ _ _);simp only[SV.den] at G⊢;intro p O;rw[s4] at O;simp at O;subst O;exact⟨_,_,rfl,G⟩
   .have j:jy ((d,SV.mp d)::(bld (fun _=>true) aZ rs).st.sl) s=some sv:=R;rw[jv (fun h=>e h.symm)] at j;refine SV.den_mono s2 _ _ (fun r u=>by simp at u;subst u;exact N.sl s sv (zr _ _ _ j)) (A s sv ?_);show jy ((d,_)::(bld (fun _=>true) aZ rs).st.sl) s=some sv;rw[jv (fun h=>e h.symm)];exact j
  .intro s g v E;obtain⟨j,G⟩:=V s g v E;exact⟨fun Z=>SV.den_mono s2 _ _ (fun r u=>by simp at u;subst u;exact N.gl s g v E) (j Z),G⟩
theorem jha {p q:Nat->Bool} {i:Nat} (b:p i=true) (c:q i=false) (h:∀y,y≠i->p y=q y):∀n,(List.range n).countP p=(List.range n).countP q+(if i<n then 1 else 0)
 |0=>rfl
 |n+1=>by
  have d:=jha b c h n
  rw[jHn,jIr,jIr,List.countP_singleton,List.countP_singleton,d]
  by_cases e:n=i
  .subst e
   rw[b,c]
   simp
  .rw[h n e]
   by_cases a:i<n
   .have:i<n+1:=by omega
    simp only[a,this,if_true];omega
   .have:¬i<n+1:=by omega
    simp only[a,this,if_false];omega
theorem jhz:∀(l:List Oper) {b:List Oper} {m:Nat},jj8 l=some (b,m)->∃f,l=b++f/\f.length=m
 |[],_,_,h=>by simp[jj8] at h
 |o::r,b,m,h=>by
  simp only[jj8] at h
  split at h
  .rename_i e g d
   simp at h
   obtain⟨rfl,rfl⟩:=h
   obtain⟨f,a,c⟩:=jhz r d
   exact⟨f,by rw[a];rfl,c⟩
  .split at h
   .simp at h
    obtain⟨rfl,rfl⟩:=h
    exact⟨r,rfl,rfl⟩
   .cases h
theorem jn2 {l body:List Oper} {d U m:Nat} (h:jiC l=some (d,U,body,m)):∃o b f,l=body++f/\body=o::b/\o.op= .makeMap U none/\o.dst=some d/\o.guard=none/\f.length=m:=by
 cases l with
 |nil=>simp[jiC] at h
 |cons o r=>
  simp only[jiC] at h
  split at h
  .rename_i a c e g;simp at h;obtain⟨rfl,rfl,rfl,rfl⟩:=h;obtain⟨f,i,j⟩:=jhz r g;exact⟨o,_,f,by rw[i];rfl,rfl,a,c,e,j⟩
  .cases h
theorem jGa.step {B':zJ} {kt vt:Ty} {c:List (Option (kt.Data×vt.Data))} {D D':Nat->Bool} {b:Nat} {l:List (kt.Data×vt.Data)} {es:Array MapEntry} {clock:Nat} (h:jGa B B' kt vt c D b l es clock) {i:Nat} (g:D' i=true) (f:∀k,k≠i->D' k=D k) (j:c[i]? =some none):jGa B B' kt vt c D' b l es clock:=by
 refine⟨?_,h.ge,h.lt,h.nb,h.nH,h.at_,h.rd,h.nd,fun y=> ?_⟩
 .by_cases e:0=i
  .rw[e];exact g
  .rw[f 0 e];exact h.d0
 .rw[h.mem];constructor
  .rintro⟨k,d,a⟩;have:k≠i:=fun e=>by subst e;rw[j] at a;simp at a
   exact⟨k,by rw[f k this];exact d,a⟩
  .rintro⟨k,d,a⟩;have:k≠i:=fun e=>by subst e;rw[j] at a;simp at a
   exact⟨k,by rw[<-f k this];exact d,a⟩
theorem jw8.go (h:jw8 P C ops aZ rs ps body m d U tk te ents)
 (hQ:∀l a w f,l.Perm (je6 ents)->f.size=ops.size->(∀k,k∈jDm body.length↔f.getD k false=true)->Inv P B C.n ops (jBy d tk.ty te.ty l (bld (fun _=>true) aZ rs)) a w->wpAny P .any ops Q m f a w):
 ∀(A:Nat) (f:Array Bool) (a:Act) (w:World),f.size=ops.size->cnt ops.size f=A->(∀k,f.getD k false=true->k<body.length)->Clo ops (fun k=>f.getD k false)->
  jGx P B C.n ops d tk.ty te.ty ents aZ rs (fun k=>f.getD k false) a w->wpAny P .any ops Q A f a w:=by
 have fin:∀(f:Array Bool) (a:Act) (w:World),f.size=ops.size->(∀k,k<body.length->f.getD k false=true)->(∀k,f.getD k false=true->k<body.length)->
  jGx P B C.n ops d tk.ty te.ty ents aZ rs (fun k=>f.getD k false) a w->wpAny P .any ops Q m f a w:=by
  intro f a w hs O h2 hI;obtain⟨l,p1,p2⟩:=h.finish O hI;exact hQ l a w f p1 hs (fun k=>by rw[jit];exact⟨O k,h2 k⟩) p2
 intro A
 induction A with
 |zero=>
  intro f a w hs hc I E hI;have hl:∀k,k<ops.size->f.getD k false=true:=by
   intro k hk;cases hu:f.getD k false with
   |true=>rfl
   |false=>have:=jIg.1 hc k (by simpa using hk);simp[hu] at this
  have O:∀k,k<body.length->f.getD k false=true:=fun k hk=>hl k (by have:=h.sz;omega)
  have e:=jkN (m:=m) O I;rw[<-h.sz,hc] at e;rw[e];exact fin f a w hs O I hI
 |succ A ih=>
  intro f a w hs hc I E hI;by_cases M:∀k,k<body.length->f.getD k false=true
  .have e:=jkN (m:=m) M I;rw[<-h.sz,hc] at e;rw[e];exact fin f a w hs M I hI
  refine⟨fun hr=>absurd (fun k hk=>jaj h.pre hs hr (k+1) k (by omega) (by have:=h.sz;omega)) M,fun i hi=> ?_⟩;obtain⟨o,O,h2,h3⟩:=(q9 hs).1 hi;have hlt:i<ops.size:=(by have:=(jGZ.1 O).1;simpa using this);obtain⟨_,hps2⟩:=ql _ _ _ h.pre;have hib:i<body.length:=by
   refine Classical.byContradiction fun hn=>M ?_
   obtain⟨p,N,_⟩:=hps2 i o O;simp only[jHM,jHY] at N;intro k hk;exact qQ h.pre E (i+1) i (by omega) o p O h3 N k (h.tl i p (by omega) N k hk)
  have ho:body[i]? =some o:=by
   have e:=h.bd i _ (jG2 hib);rw[O] at e;simp at e;rw[e];exact jG2 hib
  obtain⟨x,W⟩:=h.all i o ho;have hspec:=q7 _ _ _ _ h.ord;have hNT:∀(k:Nat) (y:z7),aZ[k]? =some y->(fun k=>f.getD k false) k≠decide (k<i)->NT rs.st (yo aZ) x y:=by
   intro k y hk hne;simp only at hne;obtain⟨o',F,_⟩:=h.fact' k y hk;by_cases hki:k<i
   .have hu:f.getD k false=false:=by cases hh:f.getD k false<;>simp_all
    obtain⟨p,N,e2⟩:=hspec i x W.get;rcases e2 k y (by omega) hk with h'|h'
    .exact h'.symm
    .have:=qQ h.pre E (i+1) i (by omega) o p O h3 N k h';rw[hu] at this;cases this
   .have hu:f.getD k false=true:=by cases hh:f.getD k false<;>simp_all
    have hne':k≠i:=fun e=>by subst e;rw[h2] at hu;cases hu
    obtain⟨p,N,e2⟩:=hspec k y hk;rcases e2 i x (by omega) W.get with h'|h'
    .exact h'
    .have:=qQ h.pre E (k+1) k (by omega) o' p F (fun e he I=>E k o' F hu e he I) N i h';rw[h2] at this;cases this
  have L:∀k,(f.setIfInBounds i true).getD k false=if k=i then true else f.getD k false:=jcO (by omega);have G:(f.setIfInBounds i true).getD i false=true:=(by simp only[L,if_true]);have t:∀k,k≠i->(f.setIfInBounds i true).getD k false=f.getD k false:=fun k hk=>by simp only[L,if_neg hk]
  have hcnt:cnt ops.size (f.setIfInBounds i true)=A:=by
   have:=jha (p:=fun k=> !(f.getD k false)) (q:=fun k=> !((f.setIfInBounds i true).getD k false)) (i:=i) (by simp[h2]) (by simp[L]) (fun y hy=>by simp only[L,if_neg hy]) ops.size;rw[if_pos hlt] at this;unfold cnt at hc⊢;omega
  have hb':∀k,(f.setIfInBounds i true).getD k false=true->k<body.length:=by
   intro k hk;by_cases e:k=i
   .rw[e];exact hib
   .rw[L,if_neg e] at hk;exact I k hk
  have X:Clo ops (fun k=>(f.setIfInBounds i true).getD k false):=by
   intro k o' F hk e he I;simp only at hk⊢;rw[L] at hk⊢
   split
   .rfl
   .by_cases e':k=i
    .subst e';rw[O] at F;simp at F;subst F;exact h3 e he I
    .rw[if_neg e'] at hk;exact E k o' F hk e he I
  obtain⟨B',q,hch,hI,hq⟩:=hI;obtain⟨b1,b2,b3⟩:=jEA (D:=fun k=>f.getD k false) (D':=fun k=>(f.setIfInBounds i true).getD k false) h.fact' W h2 G t hNT;obtain⟨heff,hcl⟩:=jEk (D:=fun k=>f.getD k false) h.fact' W rfl hNT;have S:=jzD (jzC (D:=fun k=>f.getD k false) h.fact' W hNT);obtain⟨ti,hmp⟩:=h.mp;unfold wpOp;have hoi:ops[i]? =some o:=(by simpa using O);rw[hoi];simp only;have fin2:(if Region.wanted o (yielded ops a.tmps) then o.wp P a w (wpAny P .any ops Q A (f.setIfInBounds i true)) Q else wpAny P .any ops Q A (f.setIfInBounds i true) (a.put o.dst undef) w):=by
   cases hk:jec o.op with
   |false=>
    obtain⟨y,N,e2⟩:=h.ent i o ho;have:=jtq e2 hk;subst this;by_cases hi0:i=0
    .--the map is made
     subst hi0;obtain⟨o0,g1,g2,g3,g4⟩:=h.o0;rw[ho] at g1;simp at g1;subst g1;cases q with
     |some b=>obtain⟨l,es,clock,J⟩:=hq;have:f.getD 0 false=true:=J.d0;rw[h2] at this;cases this
     |none=>
      have hxe:x.e=⟨none,[],[],[(d,.any)],[],[],[]⟩:=by
       have this:=W.eff;unfold gY at this;rw[g4] at this;simp only at this;have e:∀R,y5 C.inLit ops.toList o R []=some (.pure .any):=by
        intro R;unfold y5;rw[g2];simp only[jx];have N:C.inLit.lit=true:=rfl;have e2:C.inLit.mapT U=C.mapT U:=rfl;rw[N,e2,hmp]
       rw[e] at this;simp[jpB,g3,Out.pure,qt] at this;exact this.symm
      rw[hxe] at b1 b2 b3;obtain⟨hd,hn,ρ,V,hSl,hG,hPin⟩:=hI;have hw:Region.wanted o (yielded ops a.tmps)=true:=(by simp[Region.wanted,g4]);rw[if_pos hw];have hrun:(execOp a.eval o).run P w= .ok (.value (.map (some w.heap.size))) (w.alloc (.map #[] 0)):=(by simp[execOp,g2,Instr.makeMap]);unfold Oper.wp;rw[hrun];simp only[Oper.upon];have hsz:=(jbN hch V).size;have Y:jbv ρ.H (w.alloc (.map #[] 0)):=by
       refine⟨fun b c hbc=> ?_,V.good.2⟩;rw[heap_alloc_old w _ b (V.good.lt hbc)];exact V.good.1 b c hbc
      obtain⟨n1,n2,n3⟩:=jmF (σ:=(lvO d none (bld (fun k=>f.getD k false) aZ rs)).st) (w':=w.alloc (.map #[] 0)) hch V hPin rfl rfl rfl (jGY _) (by simp) Y (fun b I=>heap_alloc_old w _ b (by omega)) (fun o b C' I=>heap_alloc_old w _ b (vI V I).1);refine ih _ _ _ (by simpa using hs) hcnt hb' X ⟨_,some w.heap.size,n1,?_,[],#[],0,?_⟩
      .refine jce (jed (C:=C) (ops:=ops) (o:=o) (rs:=bld (fun k=>f.getD k false) aZ rs) (e:=⟨none,[],[],[(d,.lit (.map (some w.heap.size)))],[],[],[]⟩) (ρ:=ρ) (ρ'':=ρ) (sv:= .lit (.map (some w.heap.size))) (gv:= .any) (v:= .map (some w.heap.size))
        hd hn hSl hG n3 n2 (Env.le.refl _ _) ⟨S.frame,S.gl,S.guard,fun d hd=>by simp at hd,fun hor=>by simp[jcd,g2] at hor⟩ S.frame (by simp[jpB,g3]) (fun _ _=>by simp[SV.den]) (fun x W=>by simp at W) (fun d g _ hg=>by rw[g4] at hg;cases hg)) (fun s=> ?_) (fun r=> ?_) (fun y hy=> ?_)
       .show jy ((d,SV.lit (.map (some w.heap.size)))::(bld (fun k=>(f.setIfInBounds 0 true).getD k false) aZ rs).st.sl) s=jy ((d,SV.lit (.map (some w.heap.size)))::(bld (fun k=>f.getD k false) aZ rs).st.sl) s;by_cases e:d=s
        .subst e;rw[jE,jE]
        .rw[jv e,jv e,b1 s];show jy ((d,SV.any)::(bld (fun k=>f.getD k false) aZ rs).st.sl) s=_;rw[jv e]
       .exact b2 r
       .exact b3 y hy
      .refine⟨G,hsz,by show w.heap.size<(w.alloc (.map #[] 0)).heap.size;simp,fun J=> ?_,?_,qf w _,⟨rfl,jGY _,fun i e he=>by simp at he,fun i j e e' he=>by simp at he,fun i x W=>by simp at W⟩,by simp,fun y=>⟨fun hy=>by simp at hy,fun hy=> ?_⟩⟩
       .obtain⟨o',C',_,h6⟩:=(j0 _).1 J;have:=(vI V h6).1;omega
       .show ρ.H w.heap.size=none;cases hc:ρ.H w.heap.size with
        |none=>rfl
        |some c=>have:=V.good.lt hc;omega
       .obtain⟨k,k1,Z⟩:=hy;exfalso;by_cases e:k=0
        .subst e;rw[N] at Z;simp at Z
        .have k1:f.getD k false=true:=(by rw[<-t k e];exact k1);have:f.getD 0 false=true:=h.listed0 E Z (fun o' F e he I=>E k o' F k1 e he I);rw[h2] at this;cases this
    .obtain⟨nm,ns,nk⟩:=h.aside i o x (by omega) ho W.get hk;rw[jzO hk nm] at heff;refine qD (K:=wpAny P .any ops Q A (f.setIfInBounds i true)) (Q:=Q) h.ok heff (jBW (d:=d) (q:=q) S) (jFE (jjk hcl) (jlx (by rw[<-W.slots];exact ns))) hI (h.vc x (jHT W.get)) (fun a' w' hI' _=>
      ih _ a' w' (by simpa using hs) hcnt hb' X ⟨B',q,hch,jce hI' (fun s=> ?_) (fun r=> ?_) (fun y hy=> ?_),?_⟩)
     .cases q with
      |none=>exact b1 s
      |some b=>
       show jy ((d,SV.lit (.map (some b)))::(bld (fun k=>(f.setIfInBounds i true).getD k false) aZ rs).st.sl) s=jy (x.e.sl++(d,SV.lit (.map (some b)))::(bld (fun k=>f.getD k false) aZ rs).st.sl) s;by_cases e:d=s
       .subst e;rw[jE,jh,jr _ _ nk,jE]
       .have h6:=b1 s;have h7:(zh x.e (bld (fun k=>f.getD k false) aZ rs)).st.sl=x.e.sl++(bld (fun k=>f.getD k false) aZ rs).st.sl:=rfl;rw[h7,jh] at h6;rw[jv e,jh,jv e];exact h6
     .cases q<;>exact b2 r
     .cases q<;>exact b3 y hy
     .cases q with
      |none=>show(f.setIfInBounds i true).getD 0 false=false;rw[t 0 (fun e=>hi0 e.symm)];exact hq
      |some b=>
       obtain⟨l,es,clock,J⟩:=hq;exact⟨l,es,clock,J.step G t N⟩
   |true=>
    obtain⟨y,N,e2⟩:=h.ent i o ho;obtain⟨z,rfl⟩:=jzN e2 hk;have hsh:zG (jZ ops.toList o) (bld (fun k=>f.getD k false) aZ rs)=zG (jZ ops.toList o) (bld (fun k=>decide (k<i)) aZ rs):=jxV (D:=fun k=>f.getD k false) h.fact' W hNT (fun k y k1 Z r k3 k4=>by
     have:=((hNT k y k1 Z).o2 r k3 k4).mv;rw[W.mv] at this;unfold jFw at this
     split at this
     .rename_i T _;rw[T] at hk;simp[jec] at hk
     .rename_i T _;rw[T] at hk;simp[jec] at hk
     .rename_i T _;rw[T] at hk;simp[jec] at hk
     .cases this)
    rw[<-hsh] at e2;obtain⟨ix,xx,T,hdst,hgd,u1,u2,t1,t2⟩:=jmC e2;cases q with
    |none=>
     have:f.getD 0 false=true:=h.listed0 E N (fun o' F e he I=>by rw[O] at F;simp at F;subst F;exact h3 e he I);rw[show f.getD 0 false=false from hq] at this;cases this
    |some b=>
     obtain⟨l,es,clock,J⟩:=hq;have hxe:x.e=⟨none,[],[],[],[],[],[]⟩:=by
      have this:=W.eff;unfold gY at this;rw[hgd] at this;simp only at this;have e:∀R,y5 C.inLit ops.toList o R []=some (.pure .any):=by
       intro R;unfold y5;rw[T];rfl
      rw[e] at this;simp[jpB,hdst,Out.pure,qt] at this;exact this.symm
     rw[hxe] at b1 b2 b3;obtain⟨hd,hn,ρ,V,hSl,hG,hPin⟩:=hI;have hSR:=juG (σ:=(bld (fun k=>f.getD k false) aZ rs).st) V (zG (jZ ops.toList o) (bld (fun k=>f.getD k false) aZ rs)).1;have eo:(zG (jZ ops.toList o) (bld (fun k=>f.getD k false) aZ rs)).2.st.obj=jyx (zG (jZ ops.toList o) (bld (fun k=>f.getD k false) aZ rs)).1 (bld (fun k=>f.getD k false) aZ rs).st.obj:=funext fun o=>by rw[gC];rfl
     rw[<-eo] at hSR;have hkr:tk.ty.rv ρ.H (a.eval ix) z.1:=jM hSR (fz:=[]) (fun o=>⟨.inl rfl,fun ho=>by simp at ho⟩) t1 (fun o ho=>ho) (SV.den_mono (jiy _ _) _ _ (fun r hr=>by simp at hr) (jC4 hSl u1));have hvr:te.ty.rv ρ.H (a.eval xx) z.2:=jM hSR (fz:=[]) (fun o=>⟨.inl rfl,fun ho=>by simp at ho⟩) t2 (fun o ho=>ho) (SV.den_mono (jiy _ _) _ _ (fun r hr=>by simp at hr) (jC4 hSl u2));have hmv:a.eval (.tmp d)= .map (some b):=hSl d (.lit (.map (some b))) (jE _ _ _);have hwb:w.heap[b]? =some (.map es clock):=(V.old b J.lt J.nb).trans J.at_;have hblt:b<w.heap.size:=(jG6.1 hwb).1;have hH:ρ.H b=none:=(V.oldH b J.lt J.nb).trans J.nH;have hrd:=J.rd.mono hPin.2;have hnew:z.1∉l.map (·.1):=by
      intro hz;obtain⟨y,y1,y2⟩:=jHm.1 hz;obtain⟨k,k1,Z⟩:=(J.mem y).1 y1;have hne:k≠i:=fun e=>by subst e;rw[show f.getD k false=true from k1] at h2;cases h2
      exact jnh ents h.nd k i y z Z N hne y2
     have hrun:=jvE (x:=xx) h.ok hmp hwb hrd T hmv hkr hnew;have hw:Region.wanted o (yielded ops a.tmps)=true:=(by simp[Region.wanted,hgd]);rw[if_pos hw];unfold Oper.wp;rw[hrun];simp only[Oper.upon];rw[hdst];have hoth:∀(y:Obj) (k:Nat),k≠b->(w.heap.setIfInBounds b y)[k]? =w.heap[k]? :=fun y k hk=>by rw[jHd,if_neg (fun h=>hk h.symm)]
     have hnb:∀o k C',ρ.blk o=some (some (k,C'))->k≠b:=fun o k C' I e=>by
      subst e;rcases V.own o k C' I with O|O
      .have:=J.lt;omega
      .exact J.nb O
     have Y:∀y,jbv ρ.H {w with heap:=w.heap.setIfInBounds b y}:=fun y=>by
      refine⟨fun k c hkc=> ?_,V.good.2⟩;have:k≠b:=fun e=>by subst e;rw[hH] at hkc;cases hkc
      show c.at (w.heap.setIfInBounds b y)[k]?;rw[hoth y k this];exact V.good.1 k c hkc
     obtain⟨n1,n2,n3⟩:=jmF (σ:=(bld (fun k=>f.getD k false) aZ rs).st) (w':={w with heap:=w.heap.setIfInBounds b (.map (es.push {key:=a.eval ix,val:=a.eval xx,born:=clock}) (clock+1))}) hch V hPin rfl rfl rfl (jGY _) (by simp) (Y _)
      (fun k hk=>hoth _ k (by have:=J.ge;omega)) (fun o k C' I=>hoth _ k (hnb o k C' I))
     refine ih _ _ _ (by simpa using hs) hcnt hb' X ⟨_,some b,n1,jce (r:=lvO d (some b) (bld (fun k=>f.getD k false) aZ rs)) ⟨hd,hn,ρ,n2,hSl,hG,n3⟩ (fun s=> ?_) (fun r=>b2 r) (fun y hy=>b3 y hy),l++[z],es.push {key:=a.eval ix,val:=a.eval xx,born:=clock},clock+1,?_⟩
     .show jy ((d,SV.lit (.map (some b)))::(bld (fun k=>(f.setIfInBounds i true).getD k false) aZ rs).st.sl) s=jy ((d,SV.lit (.map (some b)))::(bld (fun k=>f.getD k false) aZ rs).st.sl) s;by_cases e:d=s
      .subst e;rw[jE,jE]
      .rw[jv e,jv e];exact b1 s
     .have hi0:(0:Nat)≠i:=fun e=>by have:f.getD 0 false=true:=J.d0;rw[e,h2] at this;cases this
      refine⟨by show(f.setIfInBounds i true).getD 0 false=true;rw[t 0 hi0];exact J.d0,J.ge,by show b<(w.heap.setIfInBounds b _).size;simpa using hblt,fun hmm=> ?_,hH,?_,jyk hrd hkr hvr,?_,fun y=> ?_⟩
      .obtain⟨o',C',_,h6⟩:=(j0 _).1 hmm;exact hnb o' b C' h6 rfl
      .show(w.heap.setIfInBounds b _)[b]? =_;simp[hblt]
      .rw[jHH,jH1];refine⟨J.nd,by simp,fun u hu v hv=> ?_⟩;simp at hv;subst hv;exact fun e=>hnew (e▸hu)
      .rw[jG5,J.mem,jIj];constructor
       .rintro(⟨k,k1,Z⟩|rfl)
        .by_cases e:k=i
         .exact⟨i,G,e▸Z⟩
         .exact⟨k,by show(f.setIfInBounds i true).getD k false=true;rw[t k e];exact k1,Z⟩
        .exact⟨i,G,N⟩
       .rintro⟨k,k1,Z⟩;by_cases e:k=i
        .subst e;rw[N] at Z;simp at Z;exact .inr Z.symm
        .exact .inl ⟨k,by show f.getD k false=true;rw[<-t k e];exact k1,Z⟩
  split
  .rename_i hw;rw[if_pos hw] at fin2;exact .inl fin2
  .rename_i hw;rw[if_neg hw] at fin2;exact fin2
end
end Go.X
namespace Go.X
open Go.RowKit (Below)
section
variable {P:Program} {B:zJ} {C:Ctx} {ops:Array Oper} {Q:Exit->Act->World->Prop}
theorem jvI {o:Oper} {rs:RS} {a:Act} {w:World} {v:SV} {u:Value} {k:RS->Prop} (h:jAC C ops.toList o v rs k) (E:Inv P B C.n ops rs a w)
 (I:∀ρ,jgg P ρ rs.st.sl a->SV.den P ρ v u):∃f,k f/\(∃p,f.st.sl=p++rs.st.sl)/\f.st.ob=rs.st.ob/\Inv P B C.n ops f (a.put o.dst u) w:=by
 unfold jAC at h
 split at h
 case h_2=>exact h.elim
 rename_i r K A;obtain⟨G,H,ρ,F,l,D,i⟩:=E;have q:∀d,o.dst=some d->d<C.n:=fun d c=>by
  unfold jef at r;rw[c] at r;exact jHa r
 have m:joJ C ops {o with guard:=none,op:= .move (.tmp 0)} rs ⟨none,[],[],jpB o v,[],[],[]⟩:=
  ⟨q,fun d c s j b x z=>by rw[A] at z;simp at z,fun d c j b t=>by simp at t,fun d c=>by simp at c,fun y=>by simp[jcd] at y⟩
 refine⟨_,h,⟨_,rfl⟩,rfl,?_⟩;exact jed (C:=C) (ops:=ops) (o:={o with guard:=none,op:= .move (.tmp 0)}) (rs:=rs) (e:=⟨none,[],[],jpB o v,[],[],[]⟩) (ρ:=ρ) (ρ'':=ρ) (sv:=v) (gv:= .any) (v:=u) G H l D i F (Env.le.refl _ _) m q rfl (fun _ _=>I ρ l) (fun x J=>by simp at J) (fun d g _ t=>by simp at t)
theorem jrX (j:C.ok P) {o:Oper} {rs:RS} {a:Act} {w:World} {k:RS->Prop} (h:jrW C ops.toList {o with guard:=none} rs k) (l:Inv P B C.n ops rs a w) {K:Act->World->Prop}
 (m:∀b d w',k b->(∃p,b.st.sl=p++rs.st.sl)->(∃p,b.st.ob=p++rs.st.ob)->Inv P B C.n ops b d w'->K d w'):o.wp P a w K Q:=by
 unfold jrW at h
 split at h
 .exact h.elim
 rename_i e q
 split at h
 case h_2=>exact h.elim
 rename_i r;obtain⟨g,i⟩:=jdJ h;have:=qD (K:=K) (Q:=Q) j q (qM r) (Fit.refl P B rs e) l g (fun d w' f c=>m _ d w' (i c) ⟨_,rfl⟩ ⟨_,rfl⟩ f);rw[if_pos (by simp[Region.wanted])] at this;cases o;exact this
theorem jl3 (X:C.ok P) {σ0:St} {k:RS->Prop} (Y:∀rs a w,(∃p,rs.st.sl=p++σ0.sl)->(∃p,rs.st.ob=p++σ0.ob)->k rs->Inv P B C.n ops rs a w->Q .normal a w):
 ∀(l:List Oper) (f:List ((Nat×Bool)×Bool)) (rs:RS) (a:Act) (w:World),(∃p,rs.st.sl=p++σ0.sl)->(∃p,rs.st.ob=p++σ0.ob)->jrp C ops.toList l f rs k->Inv P B C.n ops rs a w->wpList P ops Q l a w
 |[],f,rs,a,w,M,N,h,G=>Y rs a w M N h G
 |o::r,f,rs,a,w,M,N,h,G=>by
  have D:∀{α:Type} {x y z:List α},(∃p,y=p++x)->(∃p,z=p++y)->∃p,z=p++x:=by
   rintro α x y z ⟨p,rfl⟩ ⟨q,rfl⟩;exact⟨q++p,by rw[jHf]⟩
  have ih:=fun f e O w'=>jl3 X Y r f e O w'
  have step:∀d,jrW C ops.toList {o with guard:=none} rs (fun e=>jrp C ops.toList r d e k)->o.wp P a w (wpList P ops Q r) Q:=fun d L=>
   jrX X L G (fun e O w' hk s1 s2 S=>ih d e O w' (D M s1) (D N s2) hk S)
  have put:∀d v u,jAC C ops.toList o v rs (fun e=>jrp C ops.toList r d e k)->(∀ρ,jgg P ρ rs.st.sl a->SV.den P ρ v u)->wpList P ops Q r (a.put o.dst u) w:=fun d v u F hu=>by
   obtain⟨e,k1,k2,k3,k4⟩:=jvI F G hu;exact ih d e _ w (D M k2) (by rw[k3];exact N) k1 k4
  unfold wpList;simp only[jrp] at h
  split at h
  .rename_i J;have V:Region.wanted o (yielded ops a.tmps)=true:=(by simp[Region.wanted,J]);rw[if_pos V];refine .inl ?_
   split at h
   .rename_i c x y F
    split at h
    case h_2=>exact h.elim
    rename_i I W;have E:o.op= .pick c x y:=by
     unfold jCW at F
     split at F
     .rename_i E;simp at F;obtain⟨rfl,rfl,rfl⟩:=F;exact E
     .cases F
    obtain⟨_,_,ρ,_,m,_,_⟩:=id G;have Z:=jI (P:=P) (a:=a) m c;rw[W] at Z;have T:a.eval c= .bool I:=by
     have R:Ty.bool.rv ρ.H (a.eval c) I:=(by simpa only[SV.den] using Z);have h2:=zb (t:= .bool) rfl R;have h3:some (a.eval c)=some (.bool I):=h2;simpa using h3
    have K:(execOp a.eval o).run P w= .ok (.value (if I=true then a.eval x else a.eval y)) w:=by
     simp only[execOp,E,T];cases I<;>simp[asBool]
    unfold Oper.wp;rw[K];simp only[Oper.upon]
    split at h
    .obtain⟨rfl,h⟩:=h;exact put f _ _ h (fun ρ m=>jI (P:=P) (a:=a) m x)
    .obtain⟨rfl,h⟩:=h;exact put f _ _ h (fun ρ m=>jI (P:=P) (a:=a) m y)
    .cases I with
     |true=>exact put f _ _ (h.1 rfl) (fun ρ m=>jI (P:=P) (a:=a) m x)
     |false=>exact put f _ _ (h.2 rfl) (fun ρ m=>jI (P:=P) (a:=a) m y)
   .have:{o with guard:=none}=o:=(by cases o;simp only at J;subst J;rfl);exact step f (by rw[this];exact h)
  .rename_i g J;have A:∀γ,jdp ops.toList rs ops.toList.length g=some γ->((Region.wanted o (yielded ops a.tmps)=true)↔γ=true):=by
    intro γ i;obtain⟨_,_,ρ,_,m,hG,_⟩:=id G;have R:=yM m hG _ _ _ i;rw[<-R];obtain⟨j,b⟩:=g;simp[Region.wanted,J,jgk]
   have yes:∀{γ:Bool},jdp ops.toList rs ops.toList.length g=some γ->γ=true->∀d,jrW C ops.toList {o with guard:=none} rs (fun e=>jrp C ops.toList r d e k)->(if Region.wanted o (yielded ops a.tmps) then o.wp P a w (wpList P ops Q r) Q\/(o.asks P a w/\LetsOut Q) else wpList P ops Q r (a.put o.dst undef) w):=fun i ht d L=>by
    rw[if_pos ((A _ i).2 ht)];exact .inl (step d L)
   have no:∀{γ:Bool},jdp ops.toList rs ops.toList.length g=some γ->γ=false->∀d,jAC C ops.toList o .any rs (fun e=>jrp C ops.toList r d e k)->(if Region.wanted o (yielded ops a.tmps) then o.wp P a w (wpList P ops Q r) Q\/(o.asks P a w/\LetsOut Q) else wpList P ops Q r (a.put o.dst undef) w):=fun i hf d L=>by
    rw[if_neg (fun V=>by rw[(A _ i).1 V] at hf;cases hf)];exact put d _ _ L (fun ρ _=>kV _)
   split at h
   .rename_i γ i s;exact yes i h.1 f h.2
   .rename_i γ i s;exact no i h.1 f h.2
   .rename_i γ i s;cases γ with
    |true=>exact yes i rfl _ (h.1 rfl)
    |false=>exact no i rfl _ (h.2 rfl)
   .exact h.elim
end
end Go.X
namespace Go.X
open Go.RowKit (Below)
section
variable {P:Program} {B:zJ} {C:Ctx} {ops ops':Array Oper} {Q:Exit->Act->World->Prop} {aZ:List z7} {rs:RS} {ps:List (List Nat)}
theorem jwW (hC:C.ok P) (hsz:ops'.toList.length=ops.toList.length) (q:∀k o',ops'.toList[k]? =some o'->∃y,qn C ops'.toList aZ rs k o' y) (hlen:aZ.length=ops'.toList.length) (A:ky ops.toList []=some ps) {nb:List Nat} (hnb:nb=yo aZ) (hord:y6 rs.st nb aZ aZ ps 0=true)
 (hvc:∀y,y∈aZ->jCy y.e.guard y.e.vc) (hQ:∀a w,Inv P B C.n ops' (bld (fun _=>true) aZ rs) a w->Q .normal a w)
 (hsim:∀(i:Nat) (o o':Oper) (D:Nat->Bool) (a:Act) (w:World) (K:Act->World->Prop),ops.toList[i]? =some o->ops'.toList[i]? =some o'->(∀p,ps[i]? =some p->∀j,j∈p->D j=true)->Inv P B C.n ops' (bld D aZ rs) a w->
  (if Region.wanted o' (yielded ops' a.tmps) then o'.wp P a w K Q else K (a.put o'.dst undef) w)->wpOp P ops Q i K a w):
 ∀(c:Nat) (b:Array Bool) (a:Act) (w:World),b.size=ops.size->cnt ops.size b<=c->Clo ops (fun k=>b.getD k false)->Inv P B C.n ops' (bld (fun k=>b.getD k false) aZ rs) a w->
  wpAny P .any ops Q c b a w:=by
 have hf:∀k y,aZ[k]? =some y->∃o',ops'.toList[k]? =some o'/\qn C ops'.toList aZ rs k o' y:=by
  intro k y hk;have M:=(jGZ.1 hk).1;have E:k<ops'.toList.length:=(by omega);obtain⟨y',u⟩:=q k ops'.toList[k] (jG2 E);have:=u.get;rw[hk] at this;simp at this;subst this;exact⟨_,jG2 E,u⟩
 have T:∀(b:Array Bool) (a:Act) (w:World),(∀k,k<ops.size->b.getD k false=true)->Inv P B C.n ops' (bld (fun k=>b.getD k false) aZ rs) a w->Q .normal a w:=by
  intro b a w hl J;refine hQ a w ?_;have e:∀{α:Type} (f:z7->List α),eL f (fun k=>b.getD k false) aZ 0=eL f (fun _=>true) aZ 0:=fun f=>jfZ f aZ 0 (fun k _ hk=>hl k (by simp at hlen hsz;omega))
  have:bld (fun k=>b.getD k false) aZ rs=bld (fun _=>true) aZ rs:=(by unfold bld;rw[e,e,e]);rw[<-this];exact J
 intro c
 induction c with
 |zero=>
  intro b a w hs hc _ J;have hl:∀k,k<ops.size->b.getD k false=true:=by
   intro k hk;cases O:b.getD k false with
   |true=>rfl
   |false=>
    have h0:cnt ops.size b=0:=(by omega);have:=jIg.1 h0 k (by simpa using hk);simp[O] at this
  refine⟨?_,T b a w hl J⟩;rw[jIm];intro i hi;obtain⟨o,G,H,_⟩:=(q9 hs).1 hi;have:=(jGZ.1 G).1;rw[hl i (by simpa using this)] at H;cases H
 |succ c ih=>
  intro b a w hs hc d J;refine⟨fun hr=>T b a w (fun k hk=>jaj A hs hr (k+1) k (by omega) hk) J,fun i hi=> ?_⟩;obtain⟨o,G,H,h3⟩:=(q9 hs).1 hi;have M:i<ops.size:=(by have:=(jGZ.1 G).1;simpa using this);have hlt':i<ops'.toList.length:=(by rw[hsz];simpa using M);have V:ops'.toList[i]? =some ops'.toList[i]:=jG2 hlt';obtain⟨x,F⟩:=q i _ V;have t:=q7 _ _ _ _ hord;have opOf:∀(k:Nat) (y:z7),aZ[k]? =some y->∃o',ops.toList[k]? =some o':=by
   intro k y hk;have:=(jGZ.1 hk).1;exact⟨_,jG2 (by omega)⟩
  have v:∀(k:Nat) (y:z7),aZ[k]? =some y->(fun k=>b.getD k false) k≠decide (k<i)->NT rs.st nb x y:=by
   intro k y hk hne;simp only at hne;obtain⟨o',g⟩:=opOf k y hk;by_cases hki:k<i
   .have O:b.getD k false=false:=by cases hh:b.getD k false<;>simp_all
    obtain⟨p,S,e2⟩:=t i x F.get;rcases e2 k y (by omega) hk with h|h
    .exact h.symm
    .have:=qQ A d (i+1) i (by omega) o p G h3 S k h;rw[O] at this;cases this
   .have O:b.getD k false=true:=by cases hh:b.getD k false<;>simp_all
    have hne':k≠i:=fun e=>by subst e;rw[H] at O;cases O
    obtain⟨p,S,e2⟩:=t k y hk;rcases e2 i x (by omega) F.get with h|h
    .exact h
    .have:=qQ A d (k+1) k (by omega) o' p g (fun e he hb=>d k o' g O e he hb) S i h;rw[H] at this;cases this
  obtain⟨Y,hcl⟩:=jEk (D:=fun k=>b.getD k false) hf F hnb v;have Z:=jzC (D:=fun k=>b.getD k false) hf F v;have m:∀k,(b.setIfInBounds i true).getD k false=if k=i then true else b.getD k false:=jcO (by omega);have L:Clo ops (fun k=>(b.setIfInBounds i true).getD k false):=by
   intro k o' g hk e he hb;simp only at hk⊢;rw[m] at hk⊢
   split
   .rfl
   .by_cases e':k=i
    .subst e';rw[G] at g;simp at g;subst g;exact h3 e he hb
    .rw[if_neg e'] at hk;exact d k o' g hk e he hb
  have N:=qD (K:=wpAny P .any ops Q c (b.setIfInBounds i true)) (Q:=Q) hC Y Z (jjk hcl) J (hvc x (jHT F.get)) (fun a' w' hI' _=>by
   refine ih _ a' w' (by simpa using hs) (by have:=jz3 (n:=ops.size) (by omega) M H;omega) L ?_;have ins:∀{α:Type} (f:z7->List (Nat×α)) (s:Nat),(∀(k:Nat) (y:z7),i<k->aZ[k]? =some y->b.getD k false=true->jy (f x) s≠none->jy (f y) s=none)->
    jy (eL f (fun k=>(b.setIfInBounds i true).getD k false) aZ 0) s=jy (f x++eL f (fun k=>b.getD k false) aZ 0) s:=by
    intro α f s hh;refine jaL (i:=i) H (by show(b.setIfInBounds i true).getD i false=true;rw[m,if_pos rfl]) (fun k hk=>by show(b.setIfInBounds i true).getD k false=_;rw[m,if_neg hk]) aZ 0 i (by omega) F.get (fun k y h4 I W X=> ?_);exact hh k y h4 I (by simpa using W) X
   refine jce hI' (fun s=> ?_) (fun r=> ?_) (fun y R=> ?_)
   .simp only[bld,zh];rw[jh,ins (fun x=>x.e.sl) s (fun k y h4 I W X=>jr _ _ (fun hk=>(v k y I (by show b.getD k false≠_;rw[W];simp;omega)).sl s (vb X) hk)),<-jh,jHf]
   .have S:(zh x.e (bld (fun k=>b.getD k false) aZ rs)).st.obj r=(match jy (x.e.ob++eL (fun x=>x.e.ob) (fun k=>b.getD k false) aZ 0) r with|some y=>y|none=>rs.st.obj r):=by
     simp only[St.obj,zh,bld];rw[<-jHf,jh]
     all_goals (cases jy (x.e.ob++eL (fun x=>x.e.ob) (fun k=>b.getD k false) aZ 0) r<;>rfl)
    have hins:=ins (fun x=>x.e.ob) r (fun k y h4 I W X=>jr _ _ (fun hk=>by
     obtain⟨y',u⟩:=q k _ (jG2 (l:=ops'.toList) (i:=k) (by have:=(jGZ.1 I).1;omega));have:=u.get;rw[I] at this;simp at this;subst this;exact(v k y I (by show b.getD k false≠_;rw[W];simp;omega)).ws r (by rw[F.ws];exact jGV _ (vb X)) (by rw[u.ws];exact jGV _ hk)))
    rw[jaV,S,hins]
    all_goals (cases jy (x.e.ob++eL (fun x=>x.e.ob) (fun k=>b.getD k false) aZ 0) r<;>rfl)
   .simp only[bld,zh] at R⊢;rcases jG5.1 R with R|R
    .obtain⟨k,z,g1,g2,g3⟩:=(va _ _ _ _ _).1 R;simp only[jHY] at g2;rw[m] at g2;by_cases e:k=i
     .subst e;have:=F.get;rw[g1] at this;simp at this;subst this;exact jGV _ g3
     .rw[if_neg e] at g2;exact jGU _ (jGV _ ((va _ _ _ _ _).2 ⟨k,z,g1,by simpa using g2,g3⟩))
    .exact jGU _ (jGU _ R))
  exact hsim i o _ (fun k=>b.getD k false) a w _ G V (fun p hp j hj=>qQ A d (i+1) i (by omega) o p G h3 hp j hj) J N
theorem jl1 (g:Nat×Bool) (d a:Nat) (γ:Bool):∀(l:List Oper) (i:Nat),(gD g d a γ l)[i]? =(l[i]?).map (jsn g d a γ)
 |[],i=>by simp[gD]
 |o::r,0=>by simp[gD]
 |o::r,i+1=>by simpa[gD] using jl1 g d a γ r i
theorem jl0 (g:Nat×Bool) (d a:Nat) (γ:Bool):∀(l:List Oper),(gD g d a γ l).length=l.length
 |[]=>rfl
 |o::r=>by simp[gD,jl0 g d a γ r]
theorem jhI {g:Nat×Bool} {d:Nat}:∀(l:List Oper) (ps:List (List Nat)),yp g d l ps=true->∀(i:Nat) (o:Oper) (p:List Nat),l[i]? =some o->ps[i]? =some p->
 (∀h,o.guard=some h->h=g/\g.1∈p)/\(o.guard=none->∀c x y,o.op= .pick (.tmp c) x y->c=d->g.1∈p)
 |[],_,_,i,o,p,a,_=>by simp at a
 |_::_,[],h,i,o,p,_,h2=>by simp at h2
 |o'::r,p'::ps,h,i,o,p,a,h2=>by
  have b:yp g d r ps=true:=by
   simp only[yp] at h
   split at h
   .split at h
    .exact h
    .cases h
   .split at h
    .split at h
     .split at h
      .exact h
      .cases h
     .exact h
    .exact h
  cases i with
  |succ i=>exact jhI r ps b i o p (by simpa using a) (by simpa using h2)
  |zero=>
   simp at a h2;subst a;subst h2;simp only[yp] at h;constructor
   .intro k f;rw[f] at h;simp only at h
    split at h
    .rename_i m n;exact⟨(jua m).symm,(kh _ _).1 n⟩
    .cases h
   .intro k c x y j q;rw[k,j] at h;simp only at h;subst q;rw[show Nat.beq c c=true from Nat.beq_refl c] at h;simp only at h
    split at h
    .rename_i e;exact(kh _ _).1 e
    .cases h
theorem jmd {d:Nat}:∀(aZ:List z7),jBr d aZ=true->∀(k:Nat) (y:z7),aZ[k]? =some y->d∉z6 y.e.sl
 |[],_,k,y,h=>by simp at h
 |x::r,h,k,y,hk=>by
  simp only[jBr] at h
  split at h
  .cases h
  .rename_i a
   cases k with
   |zero=>simp at hk;subst hk;exact w6 a
   |succ k=>exact jmd r h k y (by simpa using hk)
theorem jjJ {d:Nat} {v:SV}:∀(aZ:List z7) (j:Nat),jfl d aZ j=some v->(∃x,aZ[j]? =some x/\jy x.e.sl d=some v)/\∀(k:Nat) (y:z7),aZ[k]? =some y->k≠j->d∉z6 y.e.sl
 |[],j,h=>by cases j<;>simp[jfl] at h
 |x::r,0,h=>by
  simp only[jfl] at h
  split at h
  .rename_i i
   refine⟨⟨x,by simp,h⟩,fun k y hk a=> ?_⟩
   cases k with
   |zero=>exact absurd rfl a
   |succ k=>exact jmd r i k y (by simpa using hk)
  .cases h
 |x::r,j+1,h=>by
  simp only[jfl] at h
  split at h
  .cases h
  .rename_i g
   obtain⟨⟨z,b,c⟩,f⟩:=jjJ r j h
   refine⟨⟨z,by simpa using b,c⟩,fun k y hk a=> ?_⟩
   cases k with
   |zero=>simp at hk;subst hk;exact w6 g
   |succ k=>exact f k y (by simpa using hk) (by omega)
theorem jj2 {d:Nat} {v:SV} {D:Nat->Bool} (f:z7->List (Nat×SV)):∀(aZ:List z7) (i j:Nat) (x:z7),aZ[j]? =some x->D (i+j)=true->jy (f x) d=some v->(∀(k:Nat) (y:z7),aZ[k]? =some y->k≠j->d∉z6 (f y))->jy (eL f D aZ i) d=some v
 |[],i,j,x,h,_,_,_=>by simp at h
 |z::r,i,j,x,h,hD,hl,ho=>by
  simp only[eL]
  cases j with
  |zero=>
   simp at h;subst h
   have a:jy (eL f D r (i+1)) d=none:=jr _ _ (fun hk=>by
    obtain⟨y,l⟩:=(jcI _ _).1 hk
    obtain⟨k,u,c,_,e⟩:=(va f D _ r (i+1)).1 l
    exact ho (k+1) u (by simpa using c) (by omega) ((jcI _ _).2 ⟨_,e⟩))
   have b:D i=true:=by simpa using hD
   rw[jh,a]
   simp only[b]
   exact hl
  |succ j=>
   rw[jh,jj2 f r (i+1) j x (by simpa using h) (by rw[<-hD];congr 1;omega) hl (fun k y hk g=>ho (k+1) y (by simpa using hk) (by omega))]
theorem jDz {g:Nat×Bool} {d:Nat} {γ l:Bool} (hd:gi ops.toList g.1=some d) (hb:yp g d ops.toList ps=true) (X:ky ops.toList []=some ps) (ho:jfl d aZ g.1=some (.dat .bool l)) (v:l=if γ=true then g.2 else !g.2)
 (e':ops'.toList=gD g d C.n γ ops.toList) (i:Nat) (o o':Oper) (D:Nat->Bool) (a:Act) (w:World) (K:Act->World->Prop) (H:ops.toList[i]? =some o) (h2:ops'.toList[i]? =some o') (hp:∀p,ps[i]? =some p->∀j,j∈p->D j=true)
 (hI:Inv P B C.n ops' (bld D aZ rs) a w) (h:if Region.wanted o' (yielded ops' a.tmps) then o'.wp P a w K Q else K (a.put o'.dst undef) w):wpOp P ops Q i K a w:=by
 have k:o'=jsn g d C.n γ o:=by
  rw[e',jl1,H] at h2;simpa using h2.symm
 have hlt:=(jGZ.1 H).1;obtain⟨p,J⟩:∃p,ps[i]? =some p:=by
  obtain⟨_,Z⟩:=ql _ _ _ X;obtain⟨p',R,_⟩:=Z i o H;simp only[jHM,jHY] at R;exact⟨p',R⟩
 obtain⟨s1,s2⟩:=jhI _ _ hb i o p H J;have val:g.1∈p->a.tmps[d]? =some (.bool l):=by
  intro V;have hD:=hp p J _ V;obtain⟨⟨x,k1,Z⟩,R⟩:=jjJ _ _ ho;have hl:jy (bld D aZ rs).st.sl d=some (.dat .bool l):=by
   simp only[bld];rw[jh,jj2 (fun x=>x.e.sl) aZ 0 g.1 x k1 (by simpa using hD) Z R]
  obtain⟨_,_,ρ,_,S,_,_⟩:=hI;have I:=S d _ hl;have h3:=zb (t:= .bool) rfl (by simpa only[SV.den] using I);have E:some (a.tmps.getD d undef)=some (.bool l):=h3;have E:a.tmps.getD d undef= .bool l:=(by simpa using E);rw[jG3] at E;cases N:a.tmps[d]? with
  |none=>rw[N] at E;simp[undef] at E
  |some u=>rw[N] at E;simp at E;rw[E]
 have W:ops[i]? =some o:=(by simpa using H);unfold wpOp;rw[W];simp only;cases q:o.guard with
 |some A=>
  obtain⟨rfl,V⟩:=s1 A q;have Y:=val V;have O:Region.wanted o (yielded ops a.tmps)=true↔l=A.2:=by
   have:=jcN (ops:=ops) (a:=a) (want:=A.2) hd;have h5:jgk ops a A↔a.tmps[d]? =some (.bool A.2):=this;rw[Y] at h5;have h6:(Region.wanted o (yielded ops a.tmps)=true)↔jgk ops a A:=by
    obtain⟨j,b⟩:=A;simp[Region.wanted,q,jgk]
   rw[h6,h5];simp
  cases γ with
  |true=>
   have m:o'={o with guard:=none}:=(by rw[k];simp only[jsn,q]);rw[if_pos (O.2 v)];have f:Region.wanted o' (yielded ops' a.tmps)=true:=(by rw[m];simp[Region.wanted]);rw[if_pos f,m] at h;refine .inl ?_;cases o;exact h
  |false=>
   have m:o'={o with guard:=none,op:= .move (.tmp C.n)}:=(by rw[k];simp only[jsn,q]);rw[if_neg (fun hh=>by have:=O.1 hh;rw[v] at this;cases F:A.2<;>rw[F] at this<;>cases this)]
   have f:Region.wanted o' (yielded ops' a.tmps)=true:=(by rw[m];simp[Region.wanted]);rw[if_pos f] at h;have s:(execOp a.eval o').run P w= .ok (.value (a.eval (.tmp C.n))) w:=(by rw[m];simp[execOp]);have M:a.eval (.tmp C.n)=undef:=by
    simp only[Act.eval];rw[jG3,Array.getElem?_eq_none (by rw[hI.2.1];exact jGY _)];rfl
   unfold Oper.wp at h;rw[s] at h;simp only[Oper.upon] at h;rw[M,m] at h;exact h
 |none=>
  have O:Region.wanted o (yielded ops a.tmps)=true:=(by simp[Region.wanted,q]);rw[if_pos O];refine .inl ?_;by_cases L:∃c x y,o.op= .pick (.tmp c) x y/\c=d
  .obtain⟨c,x,y,r,rfl⟩:=L;have Y:=val (s2 q c x y r rfl);obtain⟨z,m,ez⟩:∃z,o'={o with op:= .move z}/\z=(if l=true then x else y):=by
    simp only[jsn,q,r] at k;rw[show Nat.beq c c=true from Nat.beq_refl c] at k;simp only at k;refine⟨if l=true then x else y,?_,rfl⟩;cases γ<;>cases F:g.2<;>rw[F] at k v<;>(rw[k,v,q];rfl)
   have f:Region.wanted o' (yielded ops' a.tmps)=true:=(by rw[m];simp[Region.wanted,q]);rw[if_pos f] at h;have T:a.eval (.tmp c)= .bool l:=by
    simp only[Act.eval];rw[jG3,Y];rfl
   have s:(execOp a.eval o).run P w= .ok (.value (if l=true then a.eval x else a.eval y)) w:=by
    simp only[execOp,r,T];cases l<;>simp[asBool]
   have G:(execOp a.eval o').run P w= .ok (.value (if l=true then a.eval x else a.eval y)) w:=by
    rw[m,ez];simp only[execOp];cases l<;>rfl
   unfold Oper.wp at h⊢;rw[G] at h;rw[s];have ed:o'.dst=o.dst:=(by rw[m]);simp only[Oper.upon] at h⊢;rw[ed] at h;exact h
  .have m:o'=o:=by
    rw[k];simp only[jsn,q]
    split
    .rename_i c x y r
     split
     .rename_i N;exact absurd ⟨c,x,y,r,jGT N⟩ L
     .rfl
    .rfl
   subst m;have f:Region.wanted o' (yielded ops' a.tmps)=true:=(by simp[Region.wanted,q]);rw[if_pos f] at h;exact h
theorem jno (L:C.ok P) {g:Nat×Bool} {d:Nat} {γ J:Bool} {σ:St} {f:RS} (R:gi ops.toList g.1=some d) (i:ky ops.toList []=some ps) (O:yp g d ops.toList ps=true)
 (c:jns C (gD g d C.n γ ops.toList) ps σ=some (aZ,f)) (H:jfl d aZ g.1=some (.dat .bool J)) (G:J=if γ=true then g.2 else !g.2) {k:Prop} (hk:zD true (aZ.map (·.e)) k) {a:Act} {w:World} (N:Rel P B C.n σ a w)
 (M:k->∀b w',Rel P B C.n f.st b w'->Q .normal b w'):jvG P ops true Q a w/\f=bld (fun _=>true) aZ ⟨σ,[]⟩:=by
 unfold jns at c
 split at c
 case h_2=>cases c
 rename_i K X E
 split at c
 case h_2=>cases c
 rename_i h;simp only[Option.some.injEq,Prod.mk.injEq] at c;obtain⟨rfl,rfl⟩:=c;obtain⟨V,I,W⟩:=v7 _ _ _ _ E;refine⟨?_,I⟩;obtain⟨F,D⟩:=vW _ hk;have m:∀{l:RS} {ops':Array Oper} {b:Act} {w':World},Inv P B C.n ops' l b w'->Rel P B C.n l.st b w':=fun⟨p,q,ρ,r,t,_,u⟩=>⟨p,q,ρ,r,t,u⟩
 show wpAny P .any ops Q ops.size (Array.replicate ops.size false) a {w with drawn:=w.drawn+1};have x:Inv P B C.n (gD g d C.n γ ops.toList).toArray ⟨σ,[]⟩ a {w with drawn:=w.drawn+1}:=by
  obtain⟨p,q,ρ,r,t,u⟩:=N;exact⟨p,q,ρ,jbO r,t,(fun s g v S=>by simp at S),u⟩
 refine jwW (ops':=(gD g d C.n γ ops.toList).toArray) (rs:=⟨σ,[]⟩) L (by simp[jl0]) W V i rfl h (fun y T=>F y.e (List.mem_map_of_mem T)) (fun b w' z=>M D b w' (m (by rw[I];exact z)))
  (jDz R O i H G (by simp)) _ _ _ _ (by simp) ?_ ?_ ?_
 .unfold cnt;exact jHb List.countP_le_length (by simp)
 .intro j o H A;simp only[jG3,jH2] at A
  split at A<;>simp at A
 .rw[jaW _ ⟨σ,[]⟩ (fun j=>by
   simp only[jG3,jH2]
   split<;>simp)]
  exact x
end
end Go.X
namespace Go.X
open Go.RowKit (Below)
section
variable {P:Program} {B:zJ} {σ τ:St} {ρ ρ':Env} {w:World}
theorem jor {t a:Ty} {d:t.Data} {b:a.Data} (h:jC3 t a d b):∃e:t=a,qj e d=b:=by
 unfold jC3 at h
 split at h
 .rename_i x c;obtain⟨e,rfl⟩:=jk c;exact⟨e,h⟩
 .exact h.elim
theorem ji9 (N:Sat P B ρ σ.obj w) {new:List Nat} (a:ρ.le ρ' new) (D:∀o,o∈new->ρ'.blk o=some none/\ρ'.len o=0) {v I:SV} (h:yW σ v I)
 (J:∀o,o∈new->v.refs o=false) {x:Value} (C:SV.den P ρ v x):SV.den P ρ' I x:=by
 have same:v=I->SV.den P ρ' I x:=fun e=>by subst e;exact SV.den_mono a v x J C
 cases I with
 |any=>simp[SV.den]
 |dat t d=>
  have m:∃y,qb σ t v=some (y,[])/\y=d:=by
   unfold yW at h;cases v<;>simp only at h<;>(split at h<;>first|exact⟨_,by assumption,h⟩|exact h.elim)
  obtain⟨y,M,rfl⟩:=m;have:=jM N (fz:=[]) (fun o=>⟨.inl rfl,fun O=>by simp at O⟩) M (fun o O=>O) C;simp only[SV.den];exact Ty.rv_mono a.H this
 |fcl t d=>cases v<;>simp only[yW] at h
 |ep t d=>
  cases v<;>simp only[yW] at h
  rename_i R d';obtain⟨e,rfl⟩:=jor h;subst e;exact same rfl
 |own o t=>
  cases v<;>simp only[yW] at h
  .rename_i o' R
   split at h
   case h_2=>exact h.elim
   rename_i X;have:=jGT X;subst this;have:=SV.den_mono a _ _ J C;simpa only[SV.den] using this
  .rename_i u
   split at h
   case h_2=>exact h.elim
   rename_i c m;have:=wg c;subst this;simp only[SV.den] at C;subst C;simp only[SV.den];intro p r;by_cases L:o∈new
   .obtain⟨z,A⟩:=D o L;rw[z] at r;simp at r;subst r;exact⟨trivial,A⟩
   .have:=a.blk o p L r;rw[N.dead o m] at this;cases this
 |osl o t lo n=>
  cases v<;>simp only[yW] at h
  .rename_i o' u
   split at h
   case h_2=>exact h.elim
   rename_i E t0 fz nl l c m
   split at h
   case h_2=>exact h.elim
   rename_i M W;have:=jGT c;subst this;have:=vS M;have:=vS W;obtain⟨rfl,rfl⟩:=h
   subst_vars
   have j:=SV.den_mono a _ _ J C;simp only[SV.den] at j⊢;intro p r;have j:=j p r;have G:o'∉new:=fun L=>by have:=J o' L;simp[SV.refs] at this
   obtain⟨q,Y,Q,_⟩:=N.obs o' _ m;have s:=a.blk o' p G r;rw[Y] at s;simp at s;subst s;have g:=a.len o' G;cases q with
   |none=>
    obtain⟨z,A⟩:=j;exact⟨z,by rw[<-Q,<-g];exact A⟩
   |some V=>
    obtain⟨b,S⟩:=V;obtain⟨z,A⟩:=j;rw[g,Q] at z A;exact⟨⟨b,0,none⟩,S,z,A,by omega,by rw[g,Q];omega,fun _=>by simp⟩
  .rename_i o' R Z n'
   split at h
   case h_2=>exact h.elim
   rename_i c m;have:=jGT c;have:=vS m;obtain⟨rfl,rfl⟩:=h
   subst_vars
   exact same rfl
 |bp o k=>
  cases v<;>simp only[yW] at h
  rename_i o' k'
  split at h
  case h_2=>exact h.elim
  rename_i c m;have:=jGT c;have:=jGT m
  subst_vars
  exact same rfl
 |mp o=>
  cases v<;>simp only[yW] at h
  split at h
  case h_2=>exact h.elim
  rename_i c;have:=jGT c
  subst_vars
  exact same rfl
 |ip o=>
  cases v<;>simp only[yW] at h
  split at h
  case h_2=>exact h.elim
  rename_i c;have:=jGT c
  subst_vars
  exact same rfl
 |rp o t i off=>cases v<;>simp only[yW] at h
 |fn ps rs pre F=>cases v<;>simp only[yW] at h
 |fnp ps rs pre F=>cases v<;>simp only[yW] at h
 |fe q o T st ps rs pre K=>
  cases v<;>simp only[yW] at h
  exact same h
 |clo f caps=>cases v<;>simp only[yW] at h
 |agg cs=>cases v<;>simp only[yW] at h
 |tup cs=>cases v<;>simp only[yW] at h
 |lit u=>cases v<;>simp only[yW] at h
theorem jhj (g:Sat P B ρ σ.obj w) {new:List Nat} (d:ρ.le ρ' new) (a:∀o,o∈new->ρ'.blk o=some none/\ρ'.len o=0):
 ∀{cs b:List SV},jt0 σ cs b->(∀o,o∈new->SV.refs.refsL o cs=false)->∀{vs:List Value},SV.denL P ρ cs vs->SV.denL P ρ' b vs
 |[],[],_,_,vs,e=>by simpa[SV.denL] using e
 |c::cs,c'::b,h,hf,vs,e=>by
  simp only[SV.denL] at e⊢
  obtain⟨v,r,rfl,k,l⟩:=e
  have i:∀o,o∈new->c.refs o=false:=fun o f=>by
   have:=hf o f;simp only[SV.refs.refsL] at this;cases m:c.refs o<;>simp_all
  have j:∀o,o∈new->SV.refs.refsL o cs=false:=fun o f=>by
   have:=hf o f;simp only[SV.refs.refsL] at this;cases m:c.refs o<;>simp_all
  exact⟨v,r,rfl,ji9 g d a h.1 i k,jhj g d a h.2 j l⟩
 |[],_::_,h,_,_,_=>h.elim
 |_::_,[],h,_,_,_=>h.elim
theorem jeY:∀(ks:List Nat),jcy σ τ ks->∀s,s∈ks->τ.get s= .any\/yW σ (σ.get s) (τ.get s)
 |[],_,s,h=>by simp at h
 |k::r,h,s,a=>by
  have b:(τ.get k= .any\/yW σ (σ.get k) (τ.get k))/\jcy σ τ r:=by
   unfold jcy at h
   split at h
   .rename_i e;exact⟨.inl e,h⟩
   .exact⟨.inr h.1,h.2⟩
  rcases jGX.1 a with rfl|a
  .exact b.1
  .exact jeY r b.2 s a
theorem jdM:∀(os:List Nat),jlY σ τ os->∀o,o∈os->∀x,τ.obj o=some x->jhS σ o x
 |[],_,o,h=>by simp at h
 |k::r,h,o,b=>by
  intro x d
  have c:(∀y,τ.obj k=some y->jhS σ k y)/\jlY σ τ r:=by
   unfold jlY at h
   split at h
   .rename_i e;exact⟨fun y a=>(by rw[e] at a;cases a),h⟩
   .rename_i y e;exact⟨fun f a=>(by rw[e] at a;simp at a;subst a;exact h.1),h.2⟩
  rcases jGX.1 b with rfl|b
  .exact c.1 x d
  .exact jdM r c.2 o b x d
def jms:Option Ob->Bool
 |some (.box _ true _)=>true
 |some (.row _ _ true _ _)=>true
 |some (.map true _ _ _)=>true
 |_=>false
theorem jlZ {o:Nat} {x:Ob} (h:jhS σ o x):
 (∃T fz c cs j,x= .box T fz cs/\σ.obj o=some (.box T c j)/\jlf fz c=true/\jt0 σ j cs)\/
 (∃E t fz c nl d l,x= .row E t fz nl l/\σ.obj o=some (.row E t c d l)/\jlf fz c=true/\(nl=d\/nl= .unk\/(nl= .yes/\d= .no/\l≠[])))\/
 (∃E t nl,x= .row E t false nl []/\nl≠.no/\σ.obj o=none/\jem o σ.sl=true/\qL o σ.ob=true/\o<1000000)\/
 (∃kt vt fz c l,x= .map fz kt vt l/\σ.obj o=some (.map c kt vt l)/\jlf fz c=true)\/
 (∃kt vt left cur,x= .iter kt vt left none/\σ.obj o=some (.iter kt vt left cur)):=by
 cases x with
 |box T fz cs=>
  simp only[jhS] at h
  split at h
  case h_2=>exact h.elim
  rename_i D c j f
  split at h
  case h_2=>exact h.elim
  rename_i g i;have:=jGT g;subst this;exact .inl ⟨_,_,_,_,_,rfl,f,i,h⟩
 |row E t fz nl l=>
  simp only[jhS] at h
  split at h
  .rename_i C A c d l' f
   split at h
   case h_2=>exact h.elim
   rename_i g i;have:=jGT g;subst this;have m:jC3 (.slice A) (.slice t) l' l/\(nl=d\/nl= .unk\/(nl= .yes/\d= .no/\l≠[])):=by
    split at h
    .rename_i F;refine⟨h,?_⟩;cases nl<;>cases d<;>simp_all [jxC]
    .split at h
     .exact⟨h.2,.inr (.inr ⟨rfl,rfl,h.1⟩)⟩
     .exact h.elim
   obtain⟨h,w⟩:=m;obtain⟨e,r⟩:=jor h;have B:A=t:=(by injection e);subst B;have:l'=l:=r;subst this;exact .inr (.inl ⟨_,_,_,_,_,_,_,rfl,f,i,w⟩)
  .rename_i f
   split at h
   .rename_i g i;subst h;simp only[jGW] at i;exact .inr (.inr (.inl ⟨_,_,_,rfl,by simp,f,g,i.1,jHa i.2⟩))
   .rename_i g i;subst h;simp only[jGW] at i;exact .inr (.inr (.inl ⟨_,_,_,rfl,by simp,f,g,i.1,jHa i.2⟩))
   .exact h.elim
  .exact h.elim
 |map fz kt vt l=>
  cases f:σ.obj o with
  |none=>simp only[jhS,f] at h
  |some y=>
   cases y with
   |map c n q l'=>
    simp only[jhS,f] at h;cases g:jlf fz c with
    |false=>simp[g] at h
    |true=>
     simp only[g] at h;obtain⟨e,r⟩:=jor h;obtain⟨u,v⟩:n=kt/\q=vt:=by injection e with a b;exact⟨a,b⟩
     subst u;subst v;have:l'=l:=r;subst this;exact .inr (.inr (.inr (.inl ⟨_,_,_,_,_,rfl,rfl,g⟩)))
   |_=>simp only[jhS,f] at h
 |iter kt vt left cur=>
  cases cur with
  |some x=>exact h.elim
  |none=>
   cases f:σ.obj o with
   |none=>simp only[jhS,f] at h
   |some y=>
    cases y with
    |iter n q p z=>
     simp only[jhS,f] at h;obtain⟨e,r⟩:=jor h;obtain⟨u,v⟩:n=kt/\q=vt:=by injection e with a b;exact⟨a,b⟩
     subst u;subst v;have:p=left:=r;subst this;exact .inr (.inr (.inr (.inr ⟨_,_,_,_,rfl,rfl⟩)))
    |_=>simp only[jhS,f] at h
 |mape kt vt l k s=>exact h.elim
theorem jsq {n:Nat} {a:Act} {ks os:List Nat} (h:sub σ τ ks os) (hk:∀s,s∉ks->τ.get s= .any\/τ.get s=σ.get s) (ho:∀o,o∉os->τ.obj o=none\/τ.obj o=σ.obj o)
 (hR:Rel P B n σ a w):Rel P B n τ a w:=by
 obtain⟨hs,hob⟩:=h;obtain⟨r1,r2,ρ,R,hSl,hPin⟩:=hR
 let u:=os.filter fun o=>jms (τ.obj o)
 obtain⟨ρ1,J,hle1,K,hn1⟩:=jR (σ:=σ) u R
 let new:=os.filter fun o=>(σ.obj o).isNone&&(τ.obj o).isSome
 have c:∀o,o∈new↔o∈os/\σ.obj o=none/\τ.obj o≠none:=by
  intro o;simp only[new,jHc,jGW,Option.isNone_iff_eq_none,Option.isSome_iff_ne_none]
 have born:∀o,o∈new->∃E t nl,τ.obj o=some (.row E t false nl [])/\nl≠.no/\jem o σ.sl=true/\qL o σ.ob=true/\o<1000000:=by
  intro o z;obtain⟨m1,m2,m3⟩:=(c o).1 z;cases A:τ.obj o with
  |none=>exact absurd A m3
  |some x=>
   rcases jlZ (jdM os hob o m1 x A) with⟨_,_,_,_,_,_,e,_⟩|⟨_,_,_,_,_,_,_,_,e,_⟩|⟨E,t,nl,e,m,_,f1,f2⟩|⟨_,_,_,_,_,_,e,_⟩|⟨_,_,_,_,_,e⟩
   .rw[m2] at e;cases e
   .rw[m2] at e;cases e
   .exact⟨E,t,nl,by rw[e],m,f1,f2⟩
   .rw[m2] at e;cases e
   .rw[m2] at e;cases e
 let r:Env:={H:=ρ1.H,blk:=fun o=>match τ.obj o with|none=>none|some _=>if o∈new then some none else ρ.blk o,len:=fun o=>if o∈new then 0 else ρ.len o}
 have L:ρ.le r new:=⟨hle1.H,fun o p m D=>by
  simp only[r] at D
  split at D
  .cases D
  .rw[if_neg m] at D;exact D,fun o m=>by simp[r,m]⟩
 have O:ρ1.le r new:=⟨fun _ _ h=>h,fun o p m D=>by rw[K];exact L.blk o p m D,fun o m=>by rw[hn1];exact L.len o m⟩;have G:∀o,o∈new->r.blk o=some none/\r.len o=0:=by
  intro o z;obtain⟨E,t,nl,e,_⟩:=born o z;simp only[r];rw[e];simp[z]
 have N:∀s o,o∈new->(σ.get s).refs o=false:=by
  intro s o z;obtain⟨E,t,_,_,_,f,_⟩:=born o z;unfold St.get
  split
  .rename_i v hv;exact jel _ _ _ _ f (zr _ _ _ hv)
  .rfl
 have M:∀k T fz cs,σ.obj k=some (.box T fz cs)->∀o,o∈new->SV.refs.refsL o cs=false:=by
  intro k T fz cs A o z;obtain⟨E,t,_,_,_,_,f,_⟩:=born o z;simp only[St.obj] at A
  split at A
  .rename_i y hy;subst A;exact qK _ _ _ _ _ _ f (zr _ _ _ hy)
  .cases A
 have S:∀o b W,r.blk o=some (some (b,W))->ρ.blk o=some (some (b,W)):=by
  intro o b W h;by_cases z:o∈new
  .rw[(G o z).1] at h;simp at h
  .exact L.blk o _ z h
 have I:∀o,(σ.frz u).obj o=if o∈u then(σ.obj o).map ki else σ.obj o:=ku σ u;have g:∀o,o∈u↔o∈os/\jms (τ.obj o)=true:=fun o=>by simp[u,jHc]
 refine⟨r1,r2,r,⟨R.os,R.tape,R.output,R.drawn,R.size,J.good,J.oldH,R.old,?_,?_,?_,?_⟩,?_,hPin.mono L (fun d Z=>by obtain⟨E,t,_,_,_,_,_,f⟩:=born d Z;exact f)⟩
 .intro o x A;have F:o∉new->r.blk o=ρ.blk o:=fun m=>by simp only[r];rw[A];simp[m]
  by_cases z:o∈os
  .rcases jlZ (jdM os hob o z x A) with⟨T,fz,Q,cs,X,rfl,e,e1,e2⟩|⟨E,t,fz,Q,nl,nl',l,rfl,e,e1,hnl⟩|⟨E,t,nl,rfl,i,e,_⟩|⟨kt,vt,fz,Q,l,rfl,e,e1⟩|⟨kt,vt,left,cur,rfl,e⟩
   .have i:o∉new:=fun m=>by have:=((c o).1 m).2.1;rw[e] at this;cases this
    have V:(σ.frz u).obj o=some (.box T fz X):=by
     rw[I];cases fz with
     |true=>rw[if_pos ((g o).2 ⟨z,by rw[A];rfl⟩),e];rfl
     |false=>
      rw[if_neg (fun h=>by have:=((g o).1 h).2;rw[A] at this;simp[jms] at this),e];cases Q<;>simp_all [jlf]
    obtain⟨p,D,j⟩:=J.obs o _ V;refine⟨p,by rw[F i,<-K];exact D,?_⟩;simp only[zf] at j⊢;obtain⟨b,W,vs,rfl,k1,k2,k3,k4⟩:=j;refine⟨b,W,vs,rfl,k1,?_,k3,k4⟩;have Z:SV.denL P ρ X vs.toList:=by
     obtain⟨p',Y,hs3⟩:=R.obs o _ e;rw[<-K,D] at Y;simp at Y;subst Y;simp only[zf] at hs3;obtain⟨b',C',vs',q0,q1,q2,_⟩:=hs3;simp at q0;obtain⟨rfl,rfl⟩:=q0;rw[k1] at q1;simp at q1;obtain⟨rfl,_⟩:=q1;exact q2
    exact jhj R L G e2 (M o T Q X e) Z
   .have i:o∉new:=fun m=>by have:=((c o).1 m).2.1;rw[e] at this;cases this
    have V:(σ.frz u).obj o=some (.row E t fz nl' l):=by
     rw[I];cases fz with
     |true=>rw[if_pos ((g o).2 ⟨z,by rw[A];rfl⟩),e];rfl
     |false=>
      rw[if_neg (fun h=>by have:=((g o).1 h).2;rw[A] at this;simp[jms] at this),e];cases Q<;>simp_all [jlf]
    obtain⟨p,D,j⟩:=J.obs o _ V;refine⟨p,by rw[F i,<-K];exact D,jN O i (fun _ _ _ e=>by cases e) (fun _ _ _=>⟨rfl,rfl⟩) ?_⟩;rcases hnl with rfl|rfl|⟨rfl,rfl,hne⟩
    .exact j
    rotate_left
    .simp only[zf] at j⊢;obtain⟨g1,g2,g3⟩:=j;refine⟨g1,g2,?_⟩;cases p with
     |none=>exact absurd rfl g3.2
     |some q=>exact⟨fun _=>hne,g3.2⟩
    .simp only[zf] at j⊢;obtain⟨g1,g2,g3⟩:=j;refine⟨g1,g2,?_⟩;cases p with
     |none=>exact⟨g3.1,by simp⟩
     |some q=>exact⟨fun h=>(by cases h),g3.2⟩
   .have m:o∈new:=(c o).2 ⟨z,e,by rw[A];simp⟩;refine⟨none,(G o m).1,?_⟩;simp only[zf];exact⟨(G o m).2,by simp,trivial,i⟩
   .have i:o∉new:=fun m=>by have:=((c o).1 m).2.1;rw[e] at this;cases this
    have V:(σ.frz u).obj o=some (.map fz kt vt l):=by
     rw[I];cases fz with
     |true=>rw[if_pos ((g o).2 ⟨z,by rw[A];rfl⟩),e];rfl
     |false=>
      rw[if_neg (fun h=>by have:=((g o).1 h).2;rw[A] at this;simp[jms] at this),e];cases Q<;>simp_all [jlf]
    obtain⟨p,D,j⟩:=J.obs o _ V;refine⟨p,by rw[F i,<-K];exact D,jN O i (fun _ _ _ e=>by cases e) (fun _ _ _=>⟨rfl,rfl⟩) j⟩
   .have i:o∉new:=fun m=>by have:=((c o).1 m).2.1;rw[e] at this;cases this
    have V:(σ.frz u).obj o=some (.iter kt vt left cur):=by
     rw[I,if_neg (fun h=>by have:=((g o).1 h).2;rw[A] at this;simp[jms] at this),e]
    obtain⟨p,D,j⟩:=J.obs o _ V;refine⟨p,by rw[F i,<-K];exact D,jN O i (fun _ _ _ e=>by cases e) (fun _ _ _=>⟨rfl,rfl⟩) ?_⟩;simp only[zf] at j⊢;obtain⟨b,C,y,q1,q2,q3,q4⟩:=j;refine⟨b,C,y,q1,q2,?_,q4⟩;unfold jdy at q3⊢
    split at q3
    .exact⟨q3.1,rfl⟩
    .obtain⟨es,clock,r1,r2,r3,r4,r5,r6,_⟩:=q3;exact⟨es,clock,r1,r2,r3,r4,r5,r6,trivial⟩
    .exact q3
  .rcases ho o z with e|e
   .rw[A] at e;cases e
   .have i:o∉new:=fun m=>z ((c o).1 m).1
    have V:(σ.frz u).obj o=some x:=by
     rw[I,if_neg (fun h=>z ((g o).1 h).1),<-e,A]
    obtain⟨p,D,j⟩:=J.obs o _ V;exact⟨p,by rw[F i,<-K];exact D,jN O i (fun T fz cs e4 o' ho'=>M o T fz cs (by rw[<-e,A,e4]) o' ho') (fun _ _ _=>⟨rfl,rfl⟩) j⟩
 .intro o A;simp only[r];rw[A]
 .intro o o' b C1 C2 h1 h2;exact R.inj o o' b C1 C2 (S _ _ _ h1) (S _ _ _ h2)
 .intro o b W h1;exact R.own o b W (S _ _ _ h1)
 .intro s sv hv;have hg:τ.get s=sv:=(by unfold St.get;rw[hv]);have Z:SV.den P ρ (σ.get s) (a.tmps.getD s undef):=by
   have:=jI (a:=a) hSl (.tmp s);simpa only[jJ,Act.eval] using this
  by_cases z:s∈ks
  .rcases jeY ks hs s z with e|e
   .rw[hg] at e;subst e;exact kV _
   .rw[hg] at e;exact ji9 R L G e (fun o m=>N s o m) Z
  .rcases hk s z with e|e
   .rw[hg] at e;subst e;exact kV _
   .rw[hg] at e;subst e;exact SV.den_mono L _ _ (fun o m=>N s o m) Z
end
end Go.X
namespace Go.X
open Go.RowKit (Below)
def jdi:Ex->Exit
 | .normal=> .normal
 | .ret=> .ret
 | .exit id=> .exit id
structure Ext (σ σ':St):Prop where
 sl:∃p,σ'.sl=p++σ.sl
 ob:∃p,σ'.ob=p++σ.ob
theorem Ext.refl (σ:St):Ext σ σ:=⟨⟨[],rfl⟩,⟨[],rfl⟩⟩
theorem Ext.trans {a b c:St} (h:Ext a b) (k:Ext b c):Ext a c:=by
 obtain⟨⟨p,f⟩,⟨q,g⟩⟩:=h;obtain⟨⟨i,d⟩,⟨j,e⟩⟩:=k;exact⟨⟨i++p,by rw[d,f,jHf]⟩,⟨j++q,by rw[e,g,jHf]⟩⟩
theorem jdt (n:Nat) (σ:St):Ext σ (gc n σ):=by
 unfold gc
 split
 .exact Ext.refl σ
 .exact⟨⟨_,rfl⟩,⟨[],rfl⟩⟩
theorem jwt (s:Nat) (σ:St):Ext σ (jpI s σ):=by
 unfold jpI
 split
 case h_2=>exact Ext.refl σ
 split
 .exact Ext.refl σ
 .split
  case h_2=>exact Ext.refl σ
  exact⟨⟨_,(jHt).symm⟩,⟨[_,_],rfl⟩⟩
theorem jkE (σ:St) (b j:Nat):Ext σ (jgD b j σ):=by
 unfold jgD
 split
 case h_2=>exact Ext.refl σ
 split
 case h_2=>exact Ext.refl σ
 split
 case h_2=>exact Ext.refl σ
 split
 case h_2=>exact Ext.refl σ
 exact⟨⟨_,rfl⟩,⟨[_,_,_],rfl⟩⟩
theorem jhD (a:Bool) (σ:St) (b j:Nat):Ext σ (jcD a b j σ):=by
 unfold jcD
 split
 case h_2=>exact Ext.refl σ
 split
 case h_2=>exact Ext.refl σ
 split
 case h_2=>exact Ext.refl σ
 split
 case h_2=>exact Ext.refl σ
 exact⟨⟨_,(jHf ..).symm⟩,⟨[_,_,_],rfl⟩⟩
theorem jkD (σ:St) (b j:Nat):Ext σ (jnu b j σ):=jhD false σ b j
theorem jhC (b:Nat):∀(j:Nat) (σ:St),Ext σ (jiw b j σ)
 |0,σ=>Ext.refl σ
 |j+1,σ=>(jhC b j σ).trans (jkD _ b j)
theorem jeo (σ:St) (t:Nat):Ext σ (jdV σ t):=by
 unfold jdV
 split
 .exact(jkE σ _ _).trans (jhC _ _ _)
 .exact jkE σ _ _
 .exact Ext.refl σ
theorem jtl (σ:St) (c:Callee):Ext σ (jjv σ c):=by
 unfold jjv
 split
 .exact jeo σ _
 .exact Ext.refl σ
theorem jtm (σ:St) (l:List Operand):Ext σ (jjw σ l):=by
 unfold jjw
 split
 .exact jeo σ _
 .exact Ext.refl σ
theorem jkF (b:Nat):∀(j:Nat) (σ:St),Ext σ (jnv b j σ)
 |0,σ=>Ext.refl σ
 |j+1,σ=>by
  refine(jkF b j σ).trans ?_
  show Ext _ (jpJ b j _)
  unfold jpJ
  split
  .split
   .split
    .exact jkD _ b j
    .exact Ext.refl _
   .exact Ext.refl _
  .exact Ext.refl _
theorem jtk (σ:St) (t:Nat) (x:Operand):Ext σ (jju σ t x):=by
 unfold jju
 split
 .exact(jhD _ σ _ _).trans (jkF _ _ _)
 .exact Ext.refl σ
theorem zu:∀(l:List Oper) (σ:St),Ext σ (wb l σ)
 |[],σ=>Ext.refl σ
 |o::r,σ=>by
  simp only[wb]
  split
  .exact((jwt _ σ).trans (jeo _ _)).trans (zu r _)
  .exact((jtm σ _).trans (jtl _ _)).trans (zu r _)
  .exact(jtk σ _ _).trans (zu r _)
  .exact zu r σ
theorem w8 {C:Ctx} {ops:List Oper}:∀(l:List Oper) (rs a:RS) (es:List Eff),vC C ops l rs=some (es,a)->Ext rs.st a.st
 |[],rs,a,es,h=>by simp[vC] at h;obtain⟨_,rfl⟩:=h;exact Ext.refl _
 |o::r,rs,a,es,h=>by
  simp only[vC] at h
  split at h
  .cases h
  rename_i e f
  split at h
  .cases h
  split at h
  .cases h
  rename_i b d c
  simp at h
  obtain⟨_,rfl⟩:=h
  exact Ext.trans ⟨⟨_,rfl⟩,⟨_,rfl⟩⟩ (w8 r _ _ _ c)
theorem jwu {C:Ctx} {ops:List Oper} {a:Bool} {σ:St} {es:List Eff} {rs:RS} (h:gE C ops a σ=some (es,rs)):Ext σ rs.st:=by
 cases a with
 |false=>exact w8 _ _ _ _ h
 |true=>
  simp only[gE] at h
  split at h
  case h_2=>cases h
  rename_i aZ d ps b e
  split at h
  case h_2=>cases h
  simp at h;obtain⟨_,rfl⟩:=h;obtain⟨_,c,_⟩:=v7 _ _ _ _ b;subst c;exact⟨⟨_,rfl⟩,⟨_,rfl⟩⟩
theorem jgQ {α:Type} (x:α):∀(ws:List Nat) (s:Nat),jy (ws.map fun k=>(k,x)) s=none\/jy (ws.map fun k=>(k,x)) s=some x
 |[],s=> .inl rfl
 |k::r,s=>by
  simp only[jHW,jy]
  cases Nat.beq k s with
  |true=>exact .inr rfl
  |false=>exact jgQ x r s
theorem gS {α:Type}:∀(p q:List (Nat×α)) (k:Nat),k∈z6 p->k∈jca (p++q) q.length
 |[],q,k,h=>by simp[z6] at h
 | (j,x)::p,q,k,h=>by
  simp only[jHt,jca]
  have:Nat.ble ((p++q).length+1) q.length=false:=by
   cases a:Nat.ble ((p++q).length+1) q.length with
   |false=>rfl
   |true=>have:=jHa a;simp at this;omega
  rw[this];simp only[z6,jGX] at h;rcases h with rfl|h
  .exact(zU _ _ _).2 (.inl (by simp))
  .exact(zU _ _ _).2 (.inr (gS p q k h))
section
variable {P:Program} {B:zJ} {C:Ctx}
theorem juD (L:jeF) (ws:List Nat) (σ:St) (x:L.X) (s:Nat) (h:s∉z6 (L.sl x)):(zB L ws σ x).get s= .any\/(zB L ws σ x).get s=σ.get s:=by
 unfold St.get zB;simp only;rw[jh,jr _ _ h];simp only;rw[jh];rcases jgQ SV.any ws s with e|e
 .rw[e];exact .inr rfl
 .rw[e];exact .inl rfl
theorem jfH (L:jeF) (ws:List Nat) (σ:St) (x:L.X) (s:Nat) (h:s∉z6 (L.sl x)):jy (zB L ws σ x).sl s=jy (ws.map (fun s=>(s,SV.any))++σ.sl) s:=by
 unfold zB;simp only;rw[jh,jr _ _ h]
theorem gU (L:jeF) (ws:List Nat) (σ:St) (x:L.X) (s:Nat) (h:s∉z6 (L.ob x)):jy (zB L ws σ x).ob s=jy (ws.map (fun s=>(s,(none:Option Ob)))++σ.ob) s:=by
 unfold zB;simp only;rw[jh,jr _ _ h]
theorem juC (L:jeF) (ws:List Nat) (σ:St) (x:L.X) (o:Nat) (h:o∉z6 (L.ob x)):(zB L ws σ x).obj o=none\/(zB L ws σ x).obj o=σ.obj o:=by
 simp only[St.obj];rw[gU L ws σ x o h,jh];rcases jgQ (none:Option Ob) ws o with e|e
 .rw[e];exact .inr rfl
 .rw[e];exact .inl rfl
theorem jv2 (hC:C.ok P) {ops:Array Oper} {d:Nat} {it:Operand} {r:List Oper} {σ:St} {K:Ex->St->Prop} {Q:Exit->Act->World->Prop} {a:Act} {w:World}
 (A:jyQ ops.toList=some (d,it,r)) (h:jyP C ops.toList r d it σ K) (hR:Rel P B C.n σ a w)
 (hQ:∀σ' a' w',Ext σ σ'->K .normal σ'->Rel P B C.n σ' a' w'->Q .normal a' w'):jvG P ops false Q a w:=by
 unfold jyQ at A
 split at A
 .cases A
 rename_i o rr hl
 split at A
 case h_2=>cases A
 rename_i it' d' e1 e2 e3;simp at A;obtain⟨rfl,rfl,rfl⟩:=A;unfold jyP at h
 split at h
 case h_2=>exact h.elim
 rename_i ob hfr hit;have hfr:d'<C.n:=jHa hfr
 split at h
 case h_2=>exact h.elim
 rename_i kt vt left cur ho;obtain⟨hover,hnext⟩:=h;obtain⟨hd,hn,ρ,hS,hSl,W⟩:=hR;show wpList P ops Q ops.toList a w;rw[hl];have hw:Region.wanted o (yielded ops a.tmps)=true:=(by simp[Region.wanted,e3]);unfold wpList;rw[if_pos hw];refine .inl ?_;have I:=jI (P:=P) (ρ:=ρ) hSl it';rw[hit] at I;obtain⟨p,hp,hs⟩:=hS.obs ob _ ho;simp only[zf] at hs;obtain⟨b,Cp,y,rfl,k1,k2,k3⟩:=hs;simp only[SV.den] at I;obtain⟨b',C',f1,f2⟩:=I _ hp;simp at f1;obtain⟨rfl,rfl⟩:=f1;have E:(∀c T fr,y≠.cells c T fr)->(getObj b).run P w= .ok y w:=fun hne=>by
  cases y with
  |cells c T fr=>exact absurd rfl (hne c T fr)
  |_=>simp[getObj,Sem.run,k1]
 have hblt:b<w.heap.size:=(jG6.1 k1).1;have rest:∀(V:St) (a2:Act) (w2:World),Ext σ V->jbT C ops.toList rr σ.ob.length V K->Rel P B C.n V a2 w2->wpList P ops Q rr a2 w2:=by
  intro V a2 w2 hE hv hR2;unfold jbT at hv
  split at hv
  .exact hv.elim
  rename_i ss rs hr;obtain⟨g1,g2,G,g3,g4,g5⟩:=hR2;refine wl hC _ _ _ _ _ _ hr hv ⟨g1,g2,G,g3,g4,(fun s g v hm=>by simp at hm),g5⟩ (fun hk' a' w' hI'=> ?_);obtain⟨i1,i2,ρ3,i3,i4,_,i5⟩:=hI';have e1:=w8 _ _ _ _ hr;exact hQ _ a' w' (hE.trans (e1.trans ((jdt _ _).trans (zu _ _)))) hk' (zq _ (jdl ⟨i1,i2,ρ3,i3,i4,i5⟩))
 have q:∀(G:Env) (sv:SV) (v:Value),ρ.le G []->SV.den P G sv v->jgg P G ((d',sv)::σ.sl) (a.put o.dst v):=by
  intro G sv v hle hv s x M;rw[e2];simp only[Act.put];by_cases hs:s=d'
  .subst hs;rw[jE] at M;simp at M;subst M;simp only[jG3,jHd];simp only[if_true];rw[if_pos (by rw[hn];exact hfr)];exact hv
  .rw[jv (fun h=>hs h.symm)] at M;simp only[jG3,jHd];rw[if_neg (fun h=>hs h.symm)];have:=SV.den_mono hle _ _ (fun r hr=>by simp at hr) (hSl s x M);simpa only[jG3] using this
 have t:∀v,(a.put o.dst v).tmps.size=C.n/\(a.put o.dst v).defers=[]:=by
  intro v;rw[e2];simp only[Act.put];exact⟨by simpa using hn,hd⟩
 have over:∀w2:World,Sat P B ρ σ.obj w2->left=[]->(execOp a.eval o).run P w= .ok (.value (.tuple #[.bool false])) w2->o.wp P a w (wpList P ops Q rr) Q:=by
  intro w2 O hl0 L;unfold Oper.wp;rw[L];simp only[Oper.upon];refine rest ⟨(d',.tup [.dat .bool false])::σ.sl,σ.ob⟩ _ _ ⟨⟨[_],rfl⟩,⟨[],rfl⟩⟩ (hover hl0) ⟨(t _).2,(t _).1,ρ,O,q ρ _ _ (Env.le.refl _ _) ?_,W⟩;simp only[SV.den,SV.denL];exact⟨_,rfl,_,_,rfl,wH _,rfl⟩
 unfold jdy at k2
 split at k2
 .refine over w hS k2.1 ?_;simp[execOp,e1,Instr.next,f2,E (by intros;simp)]
 .rename_i m f k l;obtain⟨es,clock,h1,h2,h3,h4,h5,⟨fs,h6,h7,h8⟩,_⟩:=k2;have hm:w.heap[m]? =some (.map es clock):=hS.good.1 m _ h1;have hg2:(getObj m).run P w= .ok (.map es clock) w:=(by simp[getObj,Sem.run,hm]);have Y:(!k.isEmpty&& !es.isEmpty&&es.all (fun x=>decide (x.born>=l)))=false:=by
   rcases h5 with rfl|rfl
   .simp
   .cases hes:es.isEmpty with
    |true=>simp
    |false=>
     have:∃e,es[0]? =some e:=by
      have:0<es.size:=by
       cases h0:es.size with
       |zero=>simp[Array.isEmpty,h0] at hes
       |succ n=>omega
      exact⟨es[0],jHo this⟩
     obtain⟨e0,he0⟩:=this;have X:=h3 0 e0 he0;have:es.all (fun x=>decide (x.born>=l))=false:=by
      rw[Array.all_eq_false];obtain⟨F,M⟩:=jG6.1 he0;exact⟨0,F,by rw[M];simp;omega⟩
     simp[this]
  have z:(es.filter fun e=> !k.contains e.born)=fs.toArray:=by
   rw[h6,<-jHj];simp
  have H:∀e,e∈fs->e.born<f:=by
   intro e D;rw[h6,jHc] at D;obtain⟨i,hi⟩:=jIb D.1;have:=h3 i e (by simpa using hi);omega
  have hold:(fs.toArray.filter fun x=>decide (x.born<f))=fs.toArray:=by
   rw[<-jHj];simp only[Array.toList_filter];rw[List.filter_eq_self.2];intro e D;simpa using H e D
  have hnew:(fs.toArray.filter fun x=>decide (x.born>=f))= #[]:=by
   rw[<-jHj];simp only[Array.toList_filter];rw[List.filter_eq_nil_iff.2];intro e D;have:=H e (by simpa using D);simp;omega
  cases R:fs with
  |nil=>
   have hl0:left=[]:=(by rw[R] at h7;exact List.length_eq_zero_iff.1 h7.symm);rw[R] at z;refine over w hS hl0 ?_;have hN:(Instr.next (a.eval it') false o.type).run P w= .ok (.tuple #[.bool false]) w:=by
    rw[f2];unfold Instr.next;simp only[Sem.run_bind,E (by intros;simp),Result.andThen_ok,hg2,Y,Bool.false_eq_true,if_false,z];simp[Question.forced]
   simp[execOp,e1,hN]
  |cons f0 fr=>
   have hne:fs≠[]:=(by rw[R];simp);have hrun0:∃(c:Nat) (u:World),c<fs.length/\(choose (.mapNext fs.length)).run P w= .ok c u/\(u=w\/u={w with drawn:=w.drawn+1}):=by
    have hpos:0<fs.length:=List.length_pos_iff.2 hne;rw[run_choose]
    split
    .exact⟨0,w,hpos,rfl,.inl rfl⟩
    .refine⟨_,_,?_,rfl,.inr rfl⟩;simp only[Question.cut];exact Nat.mod_lt _ hpos
   obtain⟨c,u,hc,L,hw1⟩:=hrun0;obtain⟨e,D⟩:∃e,fs[c]? =some e:=⟨fs[c],jG2 hc⟩;obtain⟨x,M⟩:∃x,left[c]? =some x:=⟨left[c],jG2 (by omega)⟩;obtain⟨e',q1,q2,q3⟩:=h8 c x M;rw[D] at q1;simp at q1;subst q1;have hS1:Sat P B ρ σ.obj u:=(by rcases hw1 with rfl|rfl;exact hS;exact jbO hS);have k1':u.heap[b]? =some (.mapIter (some m) f k l):=by rcases hw1 with rfl|rfl<;>exact k1
   have hset:∀y:Obj,(setObj b y).run P u= .ok () {u with heap:=u.heap.setIfInBounds b y}:=fun y=>by simp[setObj,Sem.run,k1']
   have hexec:(execOp a.eval o).run P w= .ok (.value (.tuple #[.bool true,e.key,e.val])) {u with heap:=u.heap.setIfInBounds b (.mapIter (some m) f (k.push e.born) clock)}:=by
    have hemp:fs.toArray.isEmpty=false:=(by rw[R];rfl);have hN:(Instr.next (a.eval it') false o.type).run P w= .ok (.tuple #[.bool true,e.key,e.val]) {u with heap:=u.heap.setIfInBounds b (.mapIter (some m) f (k.push e.born) clock)}:=by
     rw[f2];unfold Instr.next;have hcand:((if fs.toArray.isEmpty=true then #[none] else #[])++Array.map some (fs.toArray++(#[]:Array MapEntry)))=fs.toArray.map some:=by
      rw[hemp];simp
     simp only[Sem.run_bind,E (by intros;simp),Result.andThen_ok,hg2,Y,Bool.false_eq_true,if_false,z,hold,hnew];rw[hcand];have hsz:(fs.toArray.map some).size=fs.length:=(by simp);rw[hsz,L];simp[D,hset]
    simp[execOp,e1,hN]
   have S:left=left.take c++x::left.drop (c+1):=by
    have F:c<left.length:=(by omega);have:left[c]=x:=by
     rw[jG2 F] at M;simpa using M
    rw[<-this,<-List.drop_eq_getElem_cons F,jIi]
   unfold Oper.wp;rw[hexec];simp only[Oper.upon];have O:=jbM (w':={u with heap:=u.heap.setIfInBounds b (.mapIter (some m) f (k.push e.born) clock)}) hS1 hp k3 (.iter kt vt (left.take c++left.drop (c+1)) (some x))
    ⟨rfl,rfl,rfl,jGY _,by simp,fun j hj=>(by show(u.heap.setIfInBounds b _)[j]? =_;rw[jHd,if_neg (fun h=>hj h.symm)])⟩ (by
    simp only[zf];refine⟨b,Cp,.mapIter (some m) f (k.push e.born) clock,rfl,(by have:b<u.heap.size:=(jG6.1 k1').1;simp[this]),?_,k3⟩;have hmem:e∈fs:=jHT D;have J:e∈es.toList:=(by rw[h6,jHc] at hmem;exact hmem.1);have inj:∀g,g∈fs->g.born=e.born->g=e:=by
     intro g E X;rw[h6,jHc] at E;obtain⟨i,hi⟩:=jIb E.1;obtain⟨j,hj⟩:=jIb J;have:=h4 i j g e (by simpa using hi) (by simpa using hj) X;subst this;rw[hi] at hj;simpa using hj
    have N:∀(i j:Nat) (g:MapEntry),fs[i]? =some g->fs[j]? =some g->i=j:=by
     have hpw:es.toList.Pairwise (fun g g'=>g.born≠g'.born):=by
      rw[jHO];intro i j hi hj hij hh;have:=h4 i j es.toList[i] es.toList[j] (by simp) (by simp) hh;omega
     have hpf:fs.Pairwise (fun g g'=>g.born≠g'.born):=(by rw[h6];exact hpw.sublist List.filter_sublist);rw[jHO] at hpf;intro i j g hi hj;obtain⟨hi1,hi2⟩:=jGZ.1 hi;obtain⟨hj1,hj2⟩:=jGZ.1 hj;rcases Nat.lt_trichotomy i j with h|h|h
     .exact absurd (by rw[hi2,hj2]) (hpf i j hi1 hj1 h)
     .exact h
     .exact absurd (by rw[hi2,hj2]) (hpf j i hj1 hi1 h)
    have Z:es.toList.filter (fun g=> !(k.push e.born).contains g.born)=fs.take c++fs.drop (c+1):=by
     have:es.toList.filter (fun g=> !(k.push e.born).contains g.born)=fs.filter (fun g=> !(g.born==e.born)):=by
      rw[h6,List.filter_filter];congr 1;funext g;by_cases X:g.born=e.born<;>simp[X]
     rw[this];have hsp:fs=fs.take c++e::fs.drop (c+1):=by
      have:fs[c]=e:=(by rw[jG2 hc] at D;simpa using D);rw[<-this,<-List.drop_eq_getElem_cons hc,jIi]
     have hpre:∀g,g∈fs.take c->¬(g.born==e.born)=true:=by
      intro g E X;obtain⟨i,hi⟩:=jIb E;have hil:i<c:=(by have:=(jGZ.1 hi).1;simp at this;omega);rw[jHl hil] at hi;have:=inj g (jHT hi) (by simpa using X);subst this;have:=N i c g hi D;omega
     have hpost:∀g,g∈fs.drop (c+1)->¬(g.born==e.born)=true:=by
      intro g E X;obtain⟨i,hi⟩:=jIb E;rw[jHB] at hi;have:=inj g (jHT hi) (by simpa using X);subst this;have:=N (c+1+i) c g hi D;omega
     conv=>lhs;rw[hsp]
     rw[List.filter_append,List.filter_cons];simp only[beq_self_eq_true,Bool.not_true,Bool.false_eq_true,if_false];rw[List.filter_eq_self.2 (fun g E=>by simpa using hpre g E),List.filter_eq_self.2 (fun g E=>by simpa using hpost g E)]
    refine⟨es,clock,h1,h2,h3,h4,.inr rfl,⟨_,rfl,?_,fun i y hy=> ?_⟩,rfl,e,J,by simp,q2,q3⟩
    .rw[Z];simp;omega
    .rw[Z];by_cases hi:i<c
     .have F:i<(left.take c).length:=(by simp;omega);rw[jG9 F,jHl hi] at hy;rw[jG9 (by simp;omega),jHl hi];exact h8 i y hy
     .rw[jG8 (by simp;omega),jHB] at hy;rw[jG8 (by simp;omega),jHB];simp only[jHv] at hy⊢;rw[show min c fs.length=c by omega];rw[show min c left.length=c by omega] at hy;exact h8 _ y hy)
   refine rest ⟨(d',.tup [.dat .bool true,.dat kt x.1,.dat vt x.2])::σ.sl,(ob,some (.iter kt vt (left.take c++left.drop (c+1)) (some x)))::σ.ob⟩ _ _ ⟨⟨[_],rfl⟩,⟨[_],rfl⟩⟩ (hnext _ x _ S) ⟨(t _).2,(t _).1,ρ,by rw[<-wd] at O;exact O,q ρ _ _ (Env.le.refl _ _) ?_,W⟩;simp only[SV.den,SV.denL];exact⟨_,rfl,_,_,rfl,wH _,_,_,rfl,q2,_,_,rfl,q3,rfl⟩
 .exact k2.elim
theorem jkf {a:List Nat}:∀(l:List Edge),(∀e,e∈l->Region.binds .any e=true->yg a e.on=true)->jmq a l=true
 |[],_=>rfl
 |e::r,h=>by
  have c:=jkf r (fun e d b=>h e (by simp[d]) b)
  simp only[jmq]
  split
  .exact c
  .rename_i b
   rw[h e (by simp) b]
   exact c
theorem jqS {C:Ctx} {ops:List Oper} {a:List Nat} {rs:RS} {rec:List Nat->RS->Prop}:∀(l:List Oper) (n:Nat),jaU C ops a rs rec l n->∀j o,l[j]? =some o->yg a (n+j)=false->jmq a o.after.toList=true->jxE C ops o rs (rec ((n+j)::a))
 |[],_,_,j,o,b,_,_=>by simp at b
 |x::l,n,h,j,o,b,hd,hn=>by
  simp only[jaU] at h
  cases j with
  |zero=>
   simp at b;subst b
   rw[jIa] at hd⊢
   rw[hd,hn] at h
   exact h.1
  |succ j=>
   have c:l[j]? =some o:=by simpa using b
   have d:jaU C ops a rs rec l (n+1):=by
    split at h
    .exact h
    .split at h
     .exact h
     .exact h.2
   rw[show n+(j+1)=(n+1)+j from by omega] at hd⊢;exact jqS l (n+1) d j o c hd hn
theorem jtn (hC:C.ok P) {ops:Array Oper} {o:Oper} {rs:RS} {a:Act} {w:World} {x:jtT} (h:jtp C ops.toList o rs=some x) (hI:Inv P B C.n ops rs a w) {K:Act->World->Prop} {Q:Exit->Act->World->Prop}
 (R:∀(s:Int) a' w',Inv P B C.n ops (zh (jcR x s) rs) a' w'->K a' w'):if Region.wanted o (yielded ops a.tmps) then o.wp P a w K Q else K (a.put o.dst undef) w:=by
 unfold jtp at h
 split at h
 case h_2=>cases h
 rename_i U m ix d I G i
 split at h
 case h_2=>cases h
 rename_i ti tk te ob N hm
 split at h
 case h_2=>cases h
 rename_i kt vt l H
 split at h
 case h_2=>cases h
 rename_i l' k hc hk F r;simp at h;subst h;obtain⟨e,rfl⟩:=jk hc;obtain⟨Z,e2⟩:kt=tk.ty/\vt=te.ty:=by injection e with a b;exact⟨a,b⟩
 subst Z;subst e2;have y:qj e l=l:=rfl;have hw:Region.wanted o (yielded ops a.tmps)=true:=(by simp[Region.wanted,G]);rw[if_pos hw];obtain⟨hd,hn,ρ,L,u,hG,D⟩:=hI;have z:=jI (P:=P) (a:=a) u m;rw[hm] at z;simp only[SV.den] at z;have M:=jM L (fz:=[]) (fun o=>⟨.inl rfl,fun H=>by simp at H⟩) hk (fun o H=>H) (jI (P:=P) (a:=a) u ix);obtain⟨p,T,V⟩:=L.obs ob _ H;simp only[zf,fzM] at V;obtain⟨b,Y,es,clock,rfl,W,k2,X⟩:=V;obtain⟨b',C',O,f2⟩:=z _ T;simp at O;obtain⟨rfl,rfl⟩:=O;have E:b<w.heap.size:=(jG6.1 W).1;obtain⟨v,s,t,f,r1,r2,r3,r4⟩:=jx5 (P:=P) hC N W k2 M;have J:(execOp a.eval o).run P w= .ok (.value (.tuple #[v,.int .i64 s])) {w with heap:=w.heap.setIfInBounds b (.map t f)}:=by
  simp[execOp,I,f2,r1]
 unfold Oper.wp;rw[J];simp only[Oper.upon];rw[y] at R;refine R s _ _ (jed (C:=C) (gv:= .any) (sv:= .tup [.dat te.ty (kS te.ty.dflt (zI tk.ty k l)),.dat .int s]) (ρ'':=ρ) hd hn u hG D ?_ (Env.le.refl _ _) ?_ (fun A c=> ?_) ?_ (fun A _=> ?_) (fun x hx=>by simp[jcR] at hx) (fun d g _ S=>by rw[G] at S;cases S))
 .have:=jbM L T X (.mape tk.ty te.ty l k s) (w':={w with heap:=w.heap.setIfInBounds b (.map t f)}) ⟨rfl,rfl,rfl,jGY _,by simp,fun j hj=>(by show(w.heap.setIfInBounds b _)[j]? =_;rw[jHd,if_neg (fun h=>hj h.symm)])⟩ (by
   simp only[zf];exact⟨b,Y,t,f,rfl,by simp[E],r2,X,r4⟩)
  rw[<-wd] at this;exact this
 .exact⟨fun A c=>by rw[i] at c;simp at c;subst c;exact jHa F,fun A c=>(jaJ r c).1,fun A c=>(jaJ r c).2,fun A c=>by simp[jcR] at c,
   fun q=>by rcases q with q|q<;>simp[jcR,jcd,I] at q⟩
 .rw[i] at c;simp at c;subst c;exact jHa F
 .simp[jcR,jpB,i]
 .simp only[SV.den,SV.denL];exact⟨_,rfl,_,_,rfl,r3,_,_,rfl,wL _,rfl⟩
theorem jjG (R:C.ok P) {ops:Array Oper} {σ0:St} {ps:List (List Nat)} (M:ky ops.toList []=some ps) {K:RS->Prop} {Q:Exit->Act->World->Prop}
 (V:∀rs a w,Ext σ0 rs.st->K rs->Inv P B C.n ops rs a w->Q .normal a w):
 ∀(f:Nat) (d:List Nat) (b:Array Bool) (rs:RS) (a:Act) (w:World),b.size=ops.size->cnt ops.size b=f->(∀k,k∈d↔b.getD k false=true)->Ext σ0 rs.st->
  jnF C ops.toList K f d rs->Inv P B C.n ops rs a w->wpAny P .any ops Q f b a w:=by
 intro f
 induction f with
 |zero=>
  intro d b rs a w v H l D h E;refine⟨?_,V rs a w D h E⟩;rw[jIm];intro i hi;obtain⟨o,z,A,_⟩:=(q9 v).1 hi;have u:=(jGZ.1 z).1;have:=jIg.1 H i (by simpa using u);simp[A] at this
 |succ f S=>
  intro d b rs a w v H l D h E;refine⟨fun X=> ?_,fun i hi=> ?_⟩
  .exfalso;have:cnt ops.size b=0:=by
    refine jIg.2 (fun k hk=> ?_);have:=jaj M v X (k+1) k (by omega) (by simpa using hk);simp[this]
   omega
  obtain⟨o,z,A,T⟩:=(q9 v).1 hi;have u:i<ops.size:=(by have:=(jGZ.1 z).1;simpa using this);have J:yg d i=false:=by
   cases G:yg d i with
   |false=>rfl
   |true=>have:=(l i).1 ((kh _ _).1 G);rw[A] at this;cases this
  have c:=jqS ops.toList 0 h i o z (by rw[jHY];exact J) (jkf _ (fun e I G=>(kh _ _).2 ((l e.on).2 (T e I G))));rw[jHY] at c;have g:∀k,(b.setIfInBounds i true).getD k false=if k=i then true else b.getD k false:=jcO (by omega);have m:cnt ops.size (b.setIfInBounds i true)=f:=by
   have:=jha (p:=fun k=> !(b.getD k false)) (q:=fun k=> !((b.setIfInBounds i true).getD k false)) (i:=i) (by simp[A]) (by simp[g]) (fun y Z=>by simp only[g,if_neg Z]) ops.size;rw[if_pos u] at this;unfold cnt at H⊢;omega
  have r:∀k,k∈i::d↔(b.setIfInBounds i true).getD k false=true:=by
   intro k;rw[g,jGX];by_cases e:k=i
   .simp[e]
   .rw[if_neg e,<-l k];simp[e]
  unfold wpOp;have L:ops[i]? =some o:=(by simpa using z);rw[L];simp only;have j:(if Region.wanted o (yielded ops a.tmps) then o.wp P a w (wpAny P .any ops Q f (b.setIfInBounds i true)) Q else wpAny P .any ops Q f (b.setIfInBounds i true) (a.put o.dst undef) w):=by
   unfold jxE at c
   split at c
   .split at c
    .rename_i x Y;exact jtn R Y E (fun s F w' t=>S (i::d) _ _ F w' (by simpa using v) m r (D.trans ⟨⟨_,rfl⟩,⟨_,rfl⟩⟩) (c s) t)
    .exact c.elim
   .split at c
    .exact c.elim
    rename_i e I
    split at c
    .exact c.elim
    rename_i W;obtain⟨N,hk⟩:=vW [e] c;exact qD R I (qM W) (Fit.refl P B rs e) E (N e (by simp)) (fun F w' t _=>S (i::d) _ _ F w' (by simpa using v) m r (D.trans ⟨⟨_,rfl⟩,⟨_,rfl⟩⟩) hk t)
  split
  .rename_i O;rw[if_pos O] at j;exact .inl j
  .rename_i O;rw[if_neg O] at j;exact j
theorem jy0 (W:C.ok P) {ops:Array Oper} {σ:St} {K:Ex->St->Prop} {Q:Exit->Act->World->Prop} {a:Act} {w:World}
 (h:jD5 C ops.toList σ K) (hR:Rel P B C.n σ a w) (hQ:∀r t w',Ext σ r->K .normal r->Rel P B C.n r t w'->Q .normal t w'):jvG P ops true Q a w:=by
 unfold jD5 at h
 split at h
 case h_2=>exact h.elim
 rename_i d U body m ps M E
 split at h
 case h_2=>exact h.elim
 rename_i ti tk te aZ rsF I N F
 split at h
 case h_2=>exact h.elim
 rename_i es D z c A;obtain⟨R,S,T⟩:=v7 _ _ _ _ F;obtain⟨O,J,hk⟩:=vW _ h;obtain⟨j1,j2⟩:=jkG _ _ _ _ z;obtain⟨o,b',f,s1,s2,s3,s4,s5,s6⟩:=jn2 M;have j:ops.size=body.length+m:=by
  have:ops.toList.length=body.length+m:=(by rw[s1,<-s6,jHk]);simpa using this
 subst S;have L:jw8 P C ops aZ ⟨σ,[]⟩ ps body m d U tk te es:=by
  refine⟨W,⟨ti,I⟩,fun k o' hk=> ?_,j,⟨o,by rw[s2];rfl,s3,s4,s5⟩,E,fun k p hk hp=>ji5 ps 0 body.length N k p hp (by omega),T,R,D,j2,j1,fun k o' x hk ho hx hi=> ?_,J,A,fun y hy=>O y.e (List.mem_map_of_mem hy)⟩
  .rw[s1,jG9 (jGZ.1 hk).1];exact hk
  .obtain⟨k,rfl⟩:∃q,k=q+1:=⟨k-1,by omega⟩;exact jmL _ _ c k o' x (by rw[List.getElem?_tail];exact ho) (by rw[List.getElem?_tail];exact hx) hi
 show wpAny P .any ops Q ops.size (Array.replicate ops.size false) a {w with drawn:=w.drawn+1};obtain⟨X,Y,ρ,Z,h4,h5⟩:=hR;have b:∀k,(Array.replicate ops.size false).getD k false=false:=fun k=>by
  simp only[jG3,jH2]
  split<;>simp
 have G:Ext σ (bld (fun _=>true) aZ ⟨σ,[]⟩).st:=⟨⟨_,rfl⟩,⟨_,rfl⟩⟩;refine L.go (fun l t w' i hl hs u H=> ?_) ops.size _ a _ (by simp) ?_ (fun k hk=>by rw[b] at hk;cases hk) (fun k o' _ hk=>by simp only[b] at hk;cases hk) ⟨B,none,jlQ.refl B,⟨X,Y,ρ,?_,?_,fun s g v u=> ?_,h5⟩,b 0⟩
 .refine jjG W (σ0:=σ) E (fun rs t w' G hk H=> ?_) m (jDm body.length) i _ t w' hs ?_ u (G.trans ⟨⟨[_],rfl⟩,⟨[_],rfl⟩⟩) (hk l hl) H
  .obtain⟨R,S,V,T,i4,_,i5⟩:=H;exact hQ _ t w' (G.trans ((jdt _ _).trans (zu _ _))) hk (zq _ (jdl ⟨R,S,V,T,i4,i5⟩))
  .rw[j];exact jkN (fun k hk=>(u k).1 ((jit _ _).2 hk)) (fun k hk=>(jit _ _).1 ((u k).2 hk))
 .unfold cnt;rw[List.countP_eq_length.2 (fun k hk=>by simp[b])];simp
 .rw[jaW aZ ⟨σ,[]⟩ b];exact jbO Z
 .rw[jaW aZ ⟨σ,[]⟩ b];exact h4
 .rw[jaW aZ ⟨σ,[]⟩ b] at u;simp[lvO] at u
theorem jsB (i:C.ok P) {ops:Array Oper} {b:Bool} {σ:St} {K:Ex->St->Prop} {Q:Exit->Act->World->Prop} {a:Act} {w:World}
 (h:jDP C ops.toList b σ K) (l:Rel P B C.n σ a w) (j:∀c d w',Ext σ c->K .normal c->Rel P B C.n c d w'->Q .normal d w'):jvG P ops b Q a w:=by
 unfold jDP at h
 split at h
 case h_3=>exact h.elim
 case h_2=>exact jy0 i h l j
 rename_i ps _ e;show wpAny P .any ops Q ops.size (Array.replicate ops.size false) a {w with drawn:=w.drawn+1};obtain⟨m,o,ρ,p,q,r⟩:=l;refine jjG i (σ0:=σ) e (fun rs d w' t hk u=> ?_) ops.size [] _ ⟨σ,[]⟩ a _ (by simp) ?_ (fun k=> ?_) (Ext.refl σ) (by simpa using h) ⟨m,o,ρ,jbO p,q,(fun s g v x=>by simp at x),r⟩
 .obtain⟨y,z,f,A,D,_,E⟩:=u;exact j _ d w' (t.trans ((jdt _ _).trans (zu _ _))) hk (zq _ (jdl ⟨y,z,f,A,D,E⟩))
 .unfold cnt;rw[List.countP_eq_length.2 (fun k hk=> ?_)]
  .simp
  .simp only[jG3,jH2]
   split<;>simp
 .simp only[jG3,jH2]
  split<;>simp
theorem yZ (f:C.ok P) {ops:Array Oper} {b:Bool} {σ:St} {K:Ex->St->Prop} {Q:Exit->Act->World->Prop} {a:Act} {w:World}
 (h:jfg C ops.toList b σ K) (i:Rel P B C.n σ a w) (g:∀c d w',Ext σ c->K .normal c->Rel P B C.n c d w'->Q .normal d w'):jvG P ops b Q a w:=by
 unfold jfg at h
 split at h
 .exact jsB f h i g
 rename_i es rs j;refine jpK f j h i (fun hk d w' e=> ?_);have k:=jwu j;exact g _ d w' (k.trans ((jdt _ _).trans (zu _ _))) hk (zq _ (jdl e))
theorem jgB (m:C.ok P) {ops:Array Oper} {Q:Exit->Act->World->Prop} {k:Prop} (r:List Oper):∀(l:List Oper) (rs b:RS) (es:List Eff) (a:Act) (w:World),vC C ops.toList l rs=some (es,b)->zD false es k->Inv P B C.n ops rs a w->
 (k->∀d w',Inv P B C.n ops b d w'->wpList P ops Q r d w')->wpList P ops Q (l++r) a w
 |[],rs,b,es,a,w,h,hk,f,i=>by
  simp[vC] at h
  obtain⟨rfl,rfl⟩:=h
  exact i hk a w f
 |o::l,rs,b,es,a,w,h,hk,f,i=>by
  simp only[vC] at h
  split at h
  .cases h
  rename_i e t
  split at h
  .cases h
  rename_i u
  split at h
  .cases h
  rename_i p x v
  simp at h
  obtain⟨rfl,rfl⟩:=h
  obtain⟨q,s⟩:=jdJ hk
  have:=qD (K:=wpList P ops Q (l++r)) (Q:=Q) m t (qM u) (Fit.refl P B rs e) f q (fun d w' g c=>jgB m r l _ _ _ d w' v (s c) g i)
  rw[jHt]
  unfold wpList
  split
  .rename_i j;rw[if_pos j] at this;exact .inl this
  .rename_i j;rw[if_neg j] at this;exact this
theorem jmf:∀(l:List Oper) {i:List Oper} {U t d:Nat},jqj l=some (i,U,t,d)->∃o v a,l=i++[o]/\o.op= .binOp .eql U (.tmp t) (.const v) a/\o.dst=some d/\o.guard=none/\zl v=true
 |[],_,_,_,_,h=>by simp[jqj] at h
 |[o],i,U,t,d,h=>by
  simp only[jqj] at h
  split at h
  .rename_i b c f
   split at h
   .rename_i j
    simp at h
    obtain⟨rfl,rfl,rfl,rfl⟩:=h
    exact⟨o,_,_,rfl,b,c,f,j⟩
   .cases h
  .cases h
 |o::o'::r,i,U,t,d,h=>by
  simp only[jqj] at h
  split at h
  .rename_i n k p m g
   simp at h
   obtain⟨rfl,rfl,rfl,rfl⟩:=h
   obtain⟨o1,v,a,e,q⟩:=jmf (o'::r) (by simpa only[jqj] using g)
   exact⟨o1,v,a,by rw[e];rfl,q⟩
  .cases h
theorem jyM (H:C.ok P) {ops:Array Oper} {i:List Oper} {U t d:Nat} {σ:St} {K:Ex->St->Prop} {Q:Exit->Act->World->Prop} {a:Act} {w:World}
 (M:jqj ops.toList=some (i,U,t,d)) (h:jDY C ops.toList i U t d σ K) (X:Rel P B C.n σ a w)
 (W:∀j T w',Ext σ j->K .normal j->Rel P B C.n j T w'->Q .normal T w'):jvG P ops false Q a w:=by
 unfold jDY at h
 split at h
 .exact h.elim
 rename_i ss rs Y
 split at h
 case h_2=>exact yZ H h X W
 rename_i u l k
 split at h
 case h_2=>exact h.elim
 rename_i tt R f;obtain⟨ti,te⟩:=tt;have f:d<C.n:=jHa f;obtain⟨o,v,ft,Z,e1,D,e3,hv⟩:=jmf _ M;obtain⟨_,_,_,_,q,_⟩:=zw H R;show wpList P ops Q ops.toList a w;rw[Z];have hI:Inv P B C.n ops ⟨σ,[]⟩ a w:=by
  obtain⟨E,y,ρ,F,z,G⟩:=X;exact⟨E,y,ρ,F,z,(fun s g v hm=>by simp at hm),G⟩
 refine jgB H [o] i _ _ _ a w Y h hI (fun hk A S J=> ?_);obtain⟨E,y,ρ,F,z,_,G⟩:=J;have hw:Region.wanted o (yielded ops A.tmps)=true:=(by simp[Region.wanted,e3]);unfold wpList;rw[if_pos hw];refine .inl ?_;have e:=jI (P:=P) (ρ:=ρ) z (.tmp t);simp only[jJ] at e;rw[k] at e;have N:=zb (t:= .slice u) rfl (by simpa[SV.den] using e);obtain⟨ad,n,c,V,g2,g3,g4,g6,g5⟩:=N;simp at V;have m:ad.isNone=true->l=[]:=by
  intro hn;refine Classical.byContradiction fun L=> ?_
  obtain⟨b,off,blk,rfl,_⟩:=g5 L;cases hn
 have p:(execOp A.eval o).run P S= .ok (.value (.bool ad.isNone)) S:=by
  have he:=je8 (w:=S) (ad:=ad) (n:=n) (c:=c) q;have ev:A.eval (.const v)= .slice none 0 0:=wg hv;simp only[execOp,e1];rw[V,ev];simp[eqGuard,binOp,he]
 unfold Oper.wp;rw[p];simp only[Oper.upon];have hE:Ext σ rs.st:=w8 _ _ _ _ Y;have I:Ext rs.st (⟨(d,.dat .bool ad.isNone)::rs.st.sl,rs.st.ob⟩:St):=⟨⟨[_],rfl⟩,⟨[],rfl⟩⟩;refine W _ _ _ ((hE.trans I).trans ((jdt _ _).trans (zu _ _))) (hk ad.isNone m) (zq _ (jdl ⟨?_,?_,ρ,F,?_,G⟩))
 .rw[D];simp only[Act.put];exact E
 .rw[D];simp only[Act.put];simpa using y
 .intro s x r;rw[D];simp only[Act.put];by_cases O:s=d
  .subst O;rw[jE] at r;simp at r;subst r;simp only[jG3,jHd];simp only[if_true];rw[if_pos (by rw[y];exact f)];exact wH _
  .rw[jv (fun h=>O h.symm)] at r;simp only[jG3,jHd];rw[if_neg (fun h=>O h.symm)];have:=z s x r;simpa only[jG3] using this
theorem ji4:∀(l:List Oper) {i a:List Oper} {o:Oper},jhi l=some (i,o,a)->l=i++o::a/\o.guard=none/\∃c,o.op= .call c/\c.callee= .builtin .append
 |[],_,_,_,h=>by simp[jhi] at h
 |x::r,i,a,o,h=>by
  have go:(match jhi r with|some (i,y,q)=>some (x::i,y,q)|none=>none)=some (i,o,a)->x::r=i++o::a/\o.guard=none/\∃c,o.op= .call c/\c.callee= .builtin .append:=by
   intro h
   split at h
   .rename_i g y q f;simp at h;obtain⟨rfl,rfl,rfl⟩:=h;obtain⟨b,d,e⟩:=ji4 r f;exact⟨by rw[b];rfl,d,e⟩
   .cases h
  simp only[jhi] at h
  split at h
  .rename_i c b d
   split at h
   .rename_i e;simp at h;obtain⟨rfl,rfl,rfl⟩:=h;exact⟨rfl,d,c,b,e⟩
   .exact go h
  .exact go h
theorem jvl (hC:C.ok P) {ops:Array Oper} {i W:List Oper} {o:Oper} {σ:St} {K:Ex->St->Prop} {Q:Exit->Act->World->Prop} {a:Act} {w:World}
 (hop:jhi ops.toList=some (i,o,W)) (h:jxy C ops.toList i o W σ K) (hR:Rel P B C.n σ a w)
 (hQ:∀σ' a' w',Ext σ σ'->K .normal σ'->Rel P B C.n σ' a' w'->Q .normal a' w'):jvG P ops false Q a w:=by
 obtain⟨e0,e3,c0,e1,e2⟩:=ji4 _ hop;unfold jxy at h
 split at h
 .exact h.elim
 rename_i ss rs hr
 split at h
 case h_2=>exact h.elim
 rename_i c d hgl hop' hdst;rw[e1] at hop';simp only[Op.call.injEq] at hop';subst hop'
 split at h
 case h_2=>exact h.elim
 rename_i b x U U' L htys;have L:c0.args= #[b,x]:=(by rw[<-jHj];exact L);have htys:c0.argTypes= #[U,U']:=by rw[<-jHj];exact htys
 split at h
 case h_2=>exact h.elim
 rename_i ti te hUU hsl hfr;have hUU:=jGT hUU;subst hUU;have hfr:d<C.n:=jHa hfr
 split at h
 case h_2=>exact h.elim
 rename_i q t lo n y ys hb hel
 split at h
 case h_2=>exact h.elim
 rename_i E t' nl l ho
 split at h
 case h_2=>exact h.elim
 rename_i l' hl' ht hE hfq;obtain⟨e,rfl⟩:=jk hl';have e':t'=te.ty:=(by injection e);subst e';have ht:=vS ht;subst ht;have hE:=jGT hE;subst hE;have hcast:qj e l=l:=rfl;rw[hcast] at h;simp only[jGW] at hfq;obtain⟨hfq,hqlt⟩:=hfq;have hqlt:q<1000000:=jHa hqlt;show wpList P ops Q ops.toList a w;rw[e0];have hI:Inv P B C.n ops ⟨σ,[]⟩ a w:=by
  obtain⟨h1,h2,ρ,h3,h4,h5⟩:=hR;exact⟨h1,h2,ρ,h3,h4,(fun s g v hm=>by simp at hm),h5⟩
 refine jgB hC (o::W) i _ _ _ a w hr h hI (fun hk a1 D hI1=> ?_);obtain⟨h1,h2,ρ,hS,h4,_,h5⟩:=hI1;obtain⟨hlen,hn0,h62,O,Z⟩:=hk;obtain⟨f,hnews⟩:∃f,f=y::ys:=⟨_,rfl⟩;rw[<-hnews] at Z O hel h62;have hnpos:0<f.length:=(by rw[hnews];simp);have hw:Region.wanted o (yielded ops a1.tmps)=true:=(by simp[Region.wanted,e3]);unfold wpList;rw[if_pos hw];refine .inl ?_;have F:=jI (P:=P) (ρ:=ρ) h4 b;rw[hb] at F;have hsrc:=jfY hS hel (jI (P:=P) (ρ:=ρ) h4 x);obtain⟨p,hp,k1,k0,k2⟩:=hS.obs q _ ho;simp only[SV.den] at F;have F:=F p hp;obtain⟨_,hte,_,hokE,hund,hka,hks,hpos⟩:=zw hC hsl;obtain⟨iE,z,g0,g1,g2,g3,g4,g5⟩:=hokE.info;rw[hte] at g0;have hsz:iE.size=te.ty.size:=(by rw[g1,hks]);have hzs:z.cells.size=te.ty.size:=(by rw[<-jHx,g4,hokE.zlen,hks]);have hbp:0<te.bytes:=(hokE.pos (jdR hsl)).2;have hsm:(n+f.length)*1<=(n+f.length)*te.bytes:=jIe _ hbp;cases p with
 |none=>have:=F.2;omega
 |some bc=>
 obtain⟨X,Cp⟩:=bc;obtain⟨ad0,I,f1,f2,f3,f4,f5⟩:=F;have f5:=f5 (.inr (by omega));subst f5;obtain⟨k3,vs,hwb,hvs,hlC,hCm,hrd,hHb⟩:=k2;simp only[fzH] at hHb;obtain⟨hsl2,⟨_,hnil⟩|⟨ad,cs,us,f6,u1,u2,u3,u4⟩⟩:=hsrc
 .rw[hnil] at hnpos;simp at hnpos
 have noref:kx rs.st.obj q:=by
  intro o' T fz cs' N;have:(o',some (.box T fz cs'))∈rs.st.ob:=by
   unfold St.obj at N
   split at N
   .rename_i y0 hy;subst N;exact zr _ _ _ hy
   .cases N
  exact qK _ _ _ _ _ _ hfq this
 have hE1:Ext σ rs.st:=w8 _ _ _ _ hr;have fin:∀(w2:World) (g u:Nat) (pre:List te.ty.Data),(execOp a1.eval o).run P D= .ok (.value (.slice (some ⟨g,pre.length*te.ty.size,none⟩) (n+f.length) (u-pre.length))) w2->
  D.grownBy w2 (some X)->D.drawn<=w2.drawn->(g=X\/g=D.heap.size)->pre.length+n+f.length<=u->u<=maxLen->pre.length<=lo->
  (∃vs2,w2.heap[g]? =some (.cells vs2 ti.elem (0,0))/\vs2.size=u*te.ty.size/\∀(j:Nat) x,(pre++l.drop lo++f)[j]? =some x->te.ty.rd ρ.H (fun k=>vs2[j*te.ty.size+k]?) x)->
  o.wp P a1 D (wpList P ops Q W) Q:=by
  intro w2 g u pre hrun hgr hdr hgn hfit hcm hple ⟨vs2,m1,m2,m3⟩;have hsmall:pre.length+n+f.length<4611686018427387904:=(by omega);have hrl:(pre++l.drop lo++f).length=pre.length+n+f.length:=(by simp;omega);have hHg:ρ.H g=none:=by
   rcases hgn with rfl|rfl
   .exact hHb
   .cases hc:ρ.H D.heap.size with
    |none=>rfl
    |some c=>have:=hS.good.lt hc;omega
  obtain⟨ρ',q1,q2,q3,q4,q5⟩:=jA8 hS hp hHb noref hgr hdr g u hgn (pre.length+n+f.length) (.row ti.elem te.ty false nl (pre++l.drop lo++f)) (fun ρ' hH hlen' _=>by
   refine⟨by rw[hlen',hrl],by rw[hrl];exact hsmall,fun _ hnil=> ?_,vs2,m1,m2,by rw[hrl];exact hfit,hcm,fun j x G=>by rw[hH];exact m3 j x G,?_⟩
   .rw[hnil] at hrl;simp at hrl;omega
   .rw[hH];simpa[fzH] using hHg)
  unfold Oper.wp;rw[hrun];simp only[Oper.upon];obtain⟨σ2,V⟩:∃σ2:St,σ2=⟨(d,.osl q te.ty pre.length (n+f.length))::(jc8 rs.st (SV.refs q) rs.st.sl++rs.st.sl),(q,some (.row ti.elem te.ty false nl (pre++l.drop lo++f)))::rs.st.ob⟩:=⟨_,rfl⟩;have hv:=Z pre hple;rw[<-V] at hv;have hR2:Rel P B C.n σ2 (a1.put o.dst (.slice (some ⟨g,pre.length*te.ty.size,none⟩) (n+f.length) (u-pre.length))) w2:=by
   refine⟨?_,?_,ρ',?_,?_,h5.mono q2 (fun d hd=>by simp at hd;subst hd;exact hqlt)⟩
   .rw[hdst];simp only[Act.put];exact h1
   .rw[hdst];simp only[Act.put];simpa using h2
   .have:σ2.obj=jgj rs.st.obj q (some (.row ti.elem te.ty false nl (pre++l.drop lo++f))):=by
     rw[V];exact wd ⟨(d,.osl q te.ty pre.length (n+f.length))::(jc8 rs.st (SV.refs q) rs.st.sl++rs.st.sl),rs.st.ob⟩ q _
    rw[this];exact q1
   .intro s v S;rw[V] at S;rw[hdst];simp only[Act.put];by_cases hsd:s=d
    .subst hsd;rw[jE] at S;simp only[Option.some.injEq] at S;subst S;simp only[jG3,jHd];simp only[if_true];rw[if_pos (by rw[h2];exact hfr)];simp only[Option.getD_some,SV.den];intro p' hp';rw[q3] at hp';simp at hp';subst hp';exact⟨_,_,rfl,by omega,by omega,by rw[q4];omega,fun _=>rfl⟩
    .rw[jv (fun h=>hsd h.symm)] at S;simp only[jG3,jHd];rw[if_neg (fun h=>hsd h.symm)];rw[jh] at S;cases hsc:jy (jc8 rs.st (SV.refs q) rs.st.sl) s with
     |some v'=>
      rw[hsc] at S;simp only[Option.some.injEq] at S;subst S;rw[qH _ _ _ _ _ hsc];exact kV _
     |none=>
      rw[hsc] at S;simp only at S;have hrf:=kD _ _ _ s hsc (by rw[S];simp);have hgv:rs.st.get s=v:=(by unfold St.get;rw[S]);rw[hgv] at hrf;have:=SV.den_mono q2 v _ (fun r hr=>by simp at hr;subst hr;exact hrf) (h4 s v S);simpa only[jG3] using this
  have hE2:Ext rs.st σ2:=(by rw[V];exact⟨⟨(d,.osl q te.ty pre.length (n+f.length))::jc8 rs.st (SV.refs q) rs.st.sl,by simp⟩,⟨[_],rfl⟩⟩);unfold jbT at hv
  split at hv
  .exact hv.elim
  rename_i ss2 rs2 hr2;obtain⟨j1,j2,ρ2,j3,j4,j5⟩:=hR2;refine wl hC _ _ _ _ _ _ hr2 hv ⟨j1,j2,ρ2,j3,j4,(fun s g v hm=>by simp at hm),j5⟩ (fun hk' a' w' hI'=> ?_);obtain⟨i1,i2,ρ3,i3,i4,_,i5⟩:=hI';have e1:=w8 _ _ _ _ hr2;exact hQ _ a' w' ((hE1.trans hE2).trans (e1.trans ((jdt _ _).trans (zu _ _)))) hk' (zq _ (jdl ⟨i1,i2,ρ3,i3,i4,i5⟩))
 have M:∀(v':Value) (w2:World),(Builtin.append_ #[U,U] o.type #[a1.eval b,a1.eval x]).run P D= .ok v' w2->(execOp a1.eval o).run P D= .ok (.value v') w2:=by
  intro v' w2 hrun;simp only[execOp,e1,Sem.run_bind,resolve,e2,L,htys,Sem.run_pure,Result.andThen_ok,invoke,builtin];simp[hrun]
 have hlo:(l.take lo).length=lo:=(by simp;omega);have hmulC:(lo+n)*te.ty.size<=Cp*te.ty.size:=jHe _ (by omega);by_cases hroom:n+f.length<=I
 .--there is room
  have hf:=run_firstCells_some (P:=P) D iE.size f.length ad f.length cs us (by rw[hsz];exact u1) u2;have hmul:(lo+n+f.length)*te.ty.size<=Cp*te.ty.size:=jHe _ (by omega);rw[jHK,jHK] at hmul;have hst:=run_storeCells_at P X (lo*te.ty.size+n*te.ty.size) ti.elem us 0 vs D hwb (by rw[u1,hvs];omega) u3;simp only[jIa] at hst;obtain⟨m1,m2⟩:=qX D hwb (vs.toList.take (lo*te.ty.size+n*te.ty.size)++us++vs.toList.drop (lo*te.ty.size+n*te.ty.size+us.length)).toArray;obtain⟨m3,m4,m5,m6,m7,m8⟩:=m1;have hrunA:(Builtin.append_ #[U,U] o.type #[a1.eval b,a1.eval x]).run P D= .ok (.slice (some ⟨X,lo*te.ty.size,none⟩) (n+f.length) I) (D.setRow X (vs.toList.take (lo*te.ty.size+n*te.ty.size)++us++vs.toList.drop (lo*te.ty.size+n*te.ty.size+us.length)).toArray):=by
   rw[f1,f6];have hadd:(⟨X,lo*te.ty.size,none⟩:Addr).add (n*iE.size)=⟨X,lo*te.ty.size+n*te.ty.size,none⟩:=(by rw[hsz];simp[qm]);simp[Builtin.append_,run_underlying hund,sizeOf,typeInfo,g0,Builtin.lenOf,hroom,hf,hadd,hst]
  have hl1:(vs.toList.take (lo*te.ty.size+n*te.ty.size)).length=lo*te.ty.size+n*te.ty.size:=(by simp;omega);refine fin _ X Cp (l.take lo) (by rw[hlo,show Cp-lo=I by omega];exact M _ _ hrunA) ⟨m3,m4,m5,by rw[m7];exact jGY _,fun k hk hne=>m8 k (fun e=>hne (by rw[e]))⟩ m6 (.inl rfl) (by omega) hCm (by omega) ⟨_,m2,?_,?_⟩
  .simp only[List.size_toArray,jHk,hl1,u1,jIh,jHx];omega
  .intro j x G;rw[jIi] at G;simp only[jH7,jHf];by_cases hj:j<l.length
   .rw[jG9 hj] at G;refine te.ty.rd_congr _ _ _ (fun k hk=> ?_) (hrd j x G);have:(j+1)*te.ty.size<=(lo+n)*te.ty.size:=jHe _ (by omega);rw[jHF,jHK] at this;rw[jG9 (by omega),jHl (by omega)];simp
   .have hjl:j<(l++f).length:=(jGZ.1 G).1;rw[jG8 (by omega)] at G;obtain⟨J,rfl⟩:∃J,j=lo+n+J:=⟨j-(lo+n),by omega⟩;rw[show lo+n+J-l.length=J by omega] at G;refine te.ty.rd_congr _ _ _ (fun k hk=> ?_) (u4 J x G);have hd:J<f.length:=(jGZ.1 G).1;have:(J+1)*te.ty.size<=f.length*te.ty.size:=jHe _ hd;rw[jHF] at this;rw[jHK,jHK,jG8 (by omega),hl1,jG9 (by omega)];congr 1;omega
 .--it moves
  have hml:n+f.length<=maxLen:=(by simp only[maxLen];omega);have hmp:I<n+f.length:=(by omega);obtain⟨A,hol⟩:∃A,A=(vs.toList.drop (lo*te.ty.size)).take (n*te.ty.size):=⟨_,rfl⟩;rw[jHK] at hmulC;have R:A.length=n*te.ty.size:=(by rw[hol];simp;omega);have hol2:∀j v,A[j]? =some v->D.cell? ((⟨X,lo*te.ty.size,none⟩:Addr).add j)=some v:=by
   intro j v hj;rw[hol,jH9] at hj
   split at hj
   .rw[jHB,jHI] at hj;have:(⟨X,lo*te.ty.size,none⟩:Addr).add j=⟨X,lo*te.ty.size+j,none⟩:=(by simp[qm]);rw[this];simp[World.cell?,hwb,hj]
   .cases hj
  have hr:=run_append_grow (P:=P) D U o.type ti.elem iE z hund g0 g3 ⟨X,lo*te.ty.size,none⟩ n I A (by rw[hsz];exact R) hol2 ad f.length cs us (by rw[hsz];exact u1) u2 hmp (by simp only[maxLen] at hml;omega) (growslice_fits hmp (by rw[g2];exact O));have hge:=grownCap_ge D (n+f.length) I ti.elem;have hcm:=grownCap_le_maxLen D (n+f.length) I ti.elem hml;generalize hcap:grownCap D (n+f.length) I ti.elem=u at hr hge hcm;have hlen2:(A++us).length=(n+f.length)*te.ty.size:=(by rw[jHk,R,u1,jHK]);refine fin (D.drew.alloc (.cells (A.toArray++us.toArray++Builtin.zeroCells z.cells (u-(n+f.length))) ti.elem)) D.heap.size u [] (by rw[f1,f6] at M;have:=M _ _ hr;simp only[jHM,Nat.zero_mul,Nat.sub_zero];exact this) ⟨rfl,rfl,rfl,by simp,fun k hk _=>heap_alloc_old D.drew _ k hk⟩ (Nat.le_succ _) (.inr rfl) (by simp;exact hge) hcm (by simp) ⟨_,heap_alloc_new D.drew _,?_,?_⟩
  .simp only[Array.size_append,List.size_toArray,size_zeroCells,hzs,R,u1,<-jHK];congr 1;omega
  .intro j x G;rw[jHr] at G;have Y:∀m,m<(A++us).length->(A.toArray++us.toArray++Builtin.zeroCells z.cells (u-(n+f.length)))[m]? =(A++us)[m]? :=by
    intro m hm;rw[jHL (by simpa using hm)];simp
   have hjl:j<(l.drop lo++f).length:=(jGZ.1 G).1;have hdl:(l.drop lo).length=n:=(by simp;omega);rw[jHk,hdl] at hjl;by_cases hj:j<n
   .rw[jG9 (by omega),jHB] at G;refine te.ty.rd_congr _ _ _ (fun k hk=> ?_) (hrd (lo+j) x G);have:(j+1)*te.ty.size<=n*te.ty.size:=jHe _ hj;rw[jHF] at this;rw[Y _ (by rw[jHk];omega),jG9 (by omega),hol,jHl (by omega),jHB,jHI,jHK];congr 1;omega
   .obtain⟨J,rfl⟩:∃J,j=n+J:=⟨j-n,by omega⟩;rw[jG8 (by omega),hdl,show n+J-n=J by omega] at G;refine te.ty.rd_congr _ _ _ (fun k hk=> ?_) (u4 J x G);have hd:J<f.length:=(jGZ.1 G).1;have:(J+1)*te.ty.size<=f.length*te.ty.size:=jHe _ hd;rw[jHF] at this;rw[Y _ (by rw[jHk,jHK];omega),jHK,jG8 (by omega),R];congr 1;omega
def jBh:Option Nat->Option Nat->Prop
 |some m,some n=>m<n
 |some _,none=>True
 |none,_=>False
theorem jul:WellFounded jBh:=by
 have b:∀n,Acc jBh (some n):=by
  intro n
  induction n using Nat.strongRecOn with
  |_ n c=>
   refine⟨_,fun y a=> ?_⟩;cases y with
   |none=>exact a.elim
   |some m=>exact c m a
 refine⟨fun x=> ?_⟩;cases x with
 |some n=>exact b n
 |none=>
  refine⟨_,fun y a=> ?_⟩;cases y with
  |none=>exact a.elim
  |some m=>exact b m
theorem jlU {α:Type} (r:α->α->Prop) (z:WellFounded r) {Q:Exit->Act->World->Prop} {c:Code} {a:Act} {w:World} (I:α->Act->World->Prop) (j:α) (t:I j a w)
 (o:∀x a w,I x a w->c.wp P (Exit.then (fun p w'=>∃v,r v x/\I v p w') Q) a w):(Code.loop c).wp P Q a w:=by
 intro b k cs;have key:∀x a w,I x a w->∃e p w',Q e p w'/\Arrives P (lone (b.at a (.code c:: .inLoop c::k)) cs w) b k cs e p w':=by
  intro x
  induction x using z.induction with
  |_ x B=>
   intro a w A;obtain⟨e,f,g,i,d⟩:=o x a w A b (.inLoop c::k) cs;cases e with
   |normal=>
    obtain⟨v,y,m⟩:=i;obtain⟨s,q,u,n,h⟩:=B v y f g m;exact⟨s,q,u,n,.of_steps (Steps.trans d (.one step_inLoop)) h⟩
   |exit id=>exact⟨_,f,g,i,.pass (x:= .inLoop c) rfl (fun _ _=> .inl (by simp)) d⟩
   |goto l=>exact⟨_,f,g,i,.pass (x:= .inLoop c) rfl (fun _ _=> .inl (by simp)) d⟩
   |ret=>exact⟨_,f,g,i,.pass (x:= .inLoop c) rfl (fun _ _=> .inl (by simp)) d⟩
   |panic ch=>exact⟨_,f,g,i,.pass (x:= .inLoop c) rfl (fun _ _=> .inl (by simp)) d⟩
   |outgrown=>exact⟨_,f,g,i,.pass (x:= .inLoop c) rfl (fun _ _=> .inl (by simp)) d⟩
 obtain⟨e,p,w',i,d⟩:=key j a w t;exact⟨e,p,w',i,.of_steps (.one step_loop) d⟩
def jrn (P:Program) (B:zJ) (C:Ctx) (A:Ann) (x:Code) (K:Ex->St->Prop) (σ:St) (n:Nat) (a:Act) (w:World):Prop:=
 ∃L,A (jds x)=some L/\(∀y:(L σ).X,(L σ).inv y->vcg C A x (zB (L σ) (zS x) σ y) (fun e b=>match e with
  | .normal=>∃c:(L σ).X,sub b (zB (L σ) (zS x) σ c) (qo (z6 ((L σ).sl c)) (qo (z6 ((L σ).sl y)) (jca b.sl (zB (L σ) (zS x) σ y).sl.length)))
   (qo (z6 ((L σ).ob c)) (qo (z6 ((L σ).ob y)) (jca b.ob (zB (L σ) (zS x) σ y).ob.length)))/\(L σ).inv c/\(L σ).mu c<(L σ).mu y
  |e=>K e b))/\
  ∃y,(L σ).inv y/\(L σ).mu y=n/\Rel P B C.n (zB (L σ) (zS x) σ y) a w
theorem jhx {A:Ann} {x:Code} {K:Ex->St->Prop} {a:Act} {σ:St} {w:World} (h:juy A x (vcg C A x) σ K) (f:Rel P B C.n σ a w):∃n,jrn P B C A x K σ n a w:=by
 unfold juy at h
 split at h
 .exact h.elim
 rename_i L e;obtain⟨⟨x0,d,c⟩,b⟩:=h;exact⟨_,L,e,b,x0,c,rfl,jsq d (fun s i=>juD (L σ) (zS x) σ x0 s i) (fun o g=>juC (L σ) (zS x) σ x0 o g) f⟩
theorem jhy {A:Ann} {x:Code} {K:Ex->St->Prop} {Q:Exit->Act->World->Prop} {n:Nat} {a:Act} {σ:St} {w:World} {J:Act->World->Prop}
 (l:∀(σ:St) (K:Ex->St->Prop) (Q:Exit->Act->World->Prop) (a:Act) (w:World),vcg C A x σ K->Rel P B C.n σ a w->(∀e b d w',Ext σ b->K e b->Rel P B C.n b d w'->Q (jdi e) d w')->x.wp P Q a w)
 (R:jrn P B C A x K σ n a w) (I:∀e b d w',Ext σ b->K e b->Rel P B C.n b d w'->Q (jdi e) d w')
 (S:∀O,O<n->∀d w',jrn P B C A x K σ O d w'->J d w'):x.wp P (Exit.then J Q) a w:=by
 obtain⟨L,T,c,y,z,rfl,i⟩:=R;generalize m:zS x=ws at c i;refine l _ _ _ a w (c y z) i (fun e b d w' q u f=> ?_);have h:Ext σ (zB (L σ) ws σ y):=⟨⟨(L σ).sl y++ws.map (fun s=>(s,SV.any)),by simp[zB]⟩,⟨(L σ).ob y++ws.map (fun s=>(s,none)),by simp[zB]⟩⟩;cases e with
 |ret=>exact I .ret b d w' (h.trans q) u f
 |exit id=>exact I (.exit id) b d w' (h.trans q) u f
 |normal=>
  obtain⟨r,E,v,D⟩:=u;have k:Rel P B C.n (zB (L σ) ws σ r) d w':=by
   refine jsq E (fun s N=> ?_) (fun o M=> ?_) f
   .simp only[zU,not_or] at N;obtain⟨F,G,H⟩:=N;refine .inr ?_;obtain⟨p,j⟩:=q.sl;have g:s∉z6 p:=fun hk=>H (by rw[j];exact gS p _ s hk)
    have t:jy b.sl s=jy (ws.map (fun s=>(s,SV.any))++σ.sl) s:=by
     rw[j,jh,jr _ _ g];exact jfH (L σ) ws σ y s G
    unfold St.get;rw[t,jfH (L σ) ws σ r s F]
   .simp only[zU,not_or] at M;obtain⟨F,G,H⟩:=M;refine .inr ?_;obtain⟨p,j⟩:=q.ob;have g:o∉z6 p:=fun hk=>H (by rw[j];exact gS p _ o hk)
    have t:jy b.ob o=jy (ws.map (fun s=>(s,(none:Option Ob)))++σ.ob) o:=by
     rw[j,jh,jr _ _ g];exact gU (L σ) ws σ y o G
    simp only[St.obj];rw[t,gU (L σ) ws σ r o F]
  exact S _ D d w' ⟨L,T,by rw[m];exact c,r,v,rfl,by rw[m];exact k⟩
theorem jrY (l:C.ok P) {ops:Array Oper} {σ:St} {K:Ex->St->Prop} {Q:Exit->Act->World->Prop} {a:Act} {w:World}
 (h:jrZ C ops.toList σ K) (p:Rel P B C.n σ a w) (o:∀b c w',Ext σ b->K .normal b->Rel P B C.n b c w'->Q .normal c w'):jvG P ops false Q a w:=by
 unfold jrZ at h;obtain⟨e,f,ρ,i,j,k⟩:=p;exact jl3 l (σ0:=σ) (fun rs c w' s1 s2 hk m=>by
  obtain⟨r,t,d,u,x,_,y⟩:=m;exact o _ c w' (Ext.trans ⟨s1,s2⟩ ((jdt _ _).trans (zu _ _))) hk (zq _ (jdl ⟨r,t,d,u,x,y⟩))) ops.toList [] _ a w ⟨[],rfl⟩ ⟨[],rfl⟩ h ⟨e,f,ρ,i,j,(fun s g v q=>by simp at q),k⟩
theorem jwN (o:C.ok P) {ops:Array Oper} {σ:St} {K:Ex->St->Prop} {Q:Exit->Act->World->Prop} {a:Act} {w:World}
 (h:jAc C ops.toList σ K) (p:Rel P B C.n σ a w) (x:∀j k w',Ext σ j->K .normal j->Rel P B C.n j k w'->Q .normal k w'):jvG P ops true Q a w:=by
 unfold jAc at h
 split at h
 case h_2=>exact h.elim
 rename_i g ps H c
 split at h
 case h_2=>exact h.elim
 rename_i d r
 split at h
 case h_2=>exact h.elim
 rename_i aZ rs D G q z m
 split at h
 case h_2=>exact h.elim
 rename_i A t y l;obtain⟨e,u,v⟩:=h;have ex:∀{aZ:List z7} {rs:RS},rs=bld (fun _=>true) aZ ⟨σ,[]⟩->Ext σ rs.st:=fun h=>by
  rw[h];exact⟨⟨_,rfl⟩,⟨_,rfl⟩⟩
 by_cases b:A=g.2
 .have:=jno (γ:=true) (Q:=Q) o r c q z y b (u b) p (fun hk k w' i=>by
   have s:=(jno (γ:=true) (Q:=fun _ _ _=>True) o r c q z y b (u b) p (fun _ _ _ _=>trivial)).2;exact x _ k w' ((ex s).trans ((jdt _ _).trans (zu _ _))) hk (zq _ (jdl i)))
  exact this.1
 .have f:t= !g.2:=by rw[e];cases E:g.2<;>cases F:A<;>simp_all
  have:=jno (γ:=false) (Q:=Q) o r c q m l f (v b) p (fun hk k w' i=>by
   have s:=(jno (γ:=false) (Q:=fun _ _ _=>True) o r c q m l f (v b) p (fun _ _ _ _=>trivial)).2;exact x _ k w' ((ex s).trans ((jdt _ _).trans (zu _ _))) hk (zq _ (jdl i)))
  exact this.1
theorem jlV (e:C.ok P) {A:Ann} {id:Nat} {ops:Array Oper} {c:Bool} {σ:St} {K:Ex->St->Prop} {Q:Exit->Act->World->Prop} {a:Act} {w:World}
 (h:vcg C A (.region id ops c) σ K) (g:Rel P B C.n σ a w) (f:∀j k w',Ext σ j->K .normal j->Rel P B C.n j k w'->Q .normal k w'):jvG P ops c Q a w:=by
 simp only[vcg] at h
 split at h
 .rename_i d it r b;exact jv2 e b h g f
 .split at h
  .rename_i i U t d b _;exact jyM e b h g f
  .split at h
   .split at h
    .exact yZ e h g f
    .exact jrY e h g f
   .split at h
    .rename_i i o l b;exact jvl e b h g f
    .exact h.elim
  .split at h
   .exact yZ e h g f
   .exact jwN e h g f
theorem wk (l:C.ok P) (o:P.follows .mixedOrders=true) (A:Ann):∀(c:Code) (σ:St) (K:Ex->St->Prop) (Q:Exit->Act->World->Prop) (a:Act) (w:World),vcg C A c σ K->Rel P B C.n σ a w->
 (∀e b f w',Ext σ b->K e b->Rel P B C.n b f w'->Q (jdi e) f w')->c.wp P Q a w
 | .skip,σ,K,Q,a,w,h,k,g=>wp_skip (g .normal σ a w (Ext.refl _) h k)
 | .region id ops L,σ,K,Q,a,w,h,k,g=>jDF o (jlV l h k (fun b f w' j i d=>g .normal b f w' j i d))
 | .seq x y,σ,K,Q,a,w,h,k,g=>by
  simp only[vcg] at h
  refine wp_seq (wk l o A x σ _ _ a w h k (fun e b f w' j i d=> ?_))
  cases e with
  |normal=>exact wk l o A y b K Q f w' i d (fun O I N T D=>g O I N T (j.trans D))
  |ret=>exact g .ret b f w' j i d
  |exit id=>exact g (.exit id) b f w' j i d
 | .cond c x y,σ,K,Q,a,w,h,k,g=>by
  simp only[vcg] at h
  split at h
  case h_2=>exact h.elim
  rename_i V R
  have S:a.eval c= .bool V:=by
   obtain⟨_,_,ρ,_,F,_⟩:=k;have:=jI (P:=P) (ρ:=ρ) F c;rw[R] at this;exact zL (by simpa only[SV.den] using this)
  refine wp_cond_split S (fun r=>wk l o A x σ K Q a w (h.1 r) k g) (fun r=>wk l o A y σ K Q a w (h.2 r) k g)
 | .block id x,σ,K,Q,a,w,h,k,g=>by
  simp only[vcg] at h;refine wp_block (wk l o A x σ _ _ a w h k (fun e b f w' j i d=> ?_));cases e with
  |normal=>exact g .normal b f w' j i d
  |ret=>exact g .ret b f w' j i d
  |exit G=>
   simp only[jdi,Exit.inBlock];simp only at i
   split at i
   .rename_i r;have:=jGT r;subst this;rw[if_pos rfl];exact g .normal b f w' j i d
   .rename_i r;rw[if_neg (fun e=>jW r e.symm)];exact g (.exit G) b f w' j i d
 | .loop x,σ,K,Q,a,w,h,k,g=>by
  simp only[vcg] at h;have q:=fun(σ:St) (K:Ex->St->Prop) (Q:Exit->Act->World->Prop) (a:Act) (w:World)=>wk l o A x σ K Q a w
  split at h
  .obtain⟨H,z⟩:=jhx h k;refine jlU jBh jul (fun n f w'=>∃m,n=some m/\jrn P B C A x K σ m f w') (some H) ⟨_,rfl,z⟩ ?_;rintro n J M ⟨m,rfl,E⟩;exact jhy q E (fun e b f w' j i d=>g e b f w' j i d) (fun u s f w' v=>⟨some u,s,u,rfl,v⟩)
  .refine jlU jBh jul (fun n f w'=>(n=none/\f=a/\w'=w)\/∃m p,n=some m/\Ext σ p/\jrn P B C A x K p m f w') none (.inl ⟨rfl,rfl,rfl⟩) ?_;rintro n J M (⟨rfl,rfl,rfl⟩|⟨m,p,rfl,t,E⟩)
   .refine wk l o A x σ _ _ J M h k (fun e b f w' j i d=> ?_);cases e with
    |ret=>exact g .ret b f w' j i d
    |exit id=>exact g (.exit id) b f w' j i d
    |normal=>
     obtain⟨H,z⟩:=jhx i d;exact⟨some H,trivial,.inr ⟨_,b,rfl,j,z⟩⟩
   .exact jhy q E (fun e b f w' j i d=>g e b f w' (t.trans j) i d) (fun u s f w' v=>⟨some u,s,.inr ⟨u,p,rfl,t,v⟩⟩)
 | .exit id,σ,K,Q,a,w,h,k,g=>wp_exit (g (.exit id) σ a w (Ext.refl _) h k)
 | .ret,σ,K,Q,a,w,h,k,g=>wp_ret (g .ret σ a w (Ext.refl _) h k)
 | .rangeFunc ..,_,_,_,_,_,h,_,_=>h.elim
 | .scope x,σ,K,Q,a,w,h,k,g=>by
  simp only[vcg] at h;refine wp_scope_straight (wk l o A x σ K _ a w h k (fun e b f w' j i d=> ?_));cases e with
  |normal=>exact g .normal b f w' j i d
  |ret=>exact g .ret b f w' j i d
  |exit id=>exact g (.exit id) b f w' j i d
 | .label _,σ,K,Q,a,w,h,k,g=>wp_label (g .normal σ a w (Ext.refl _) h k)
 | .goto _,_,_,_,_,_,h,_,_=>h.elim
 | .refuse _,_,_,_,_,_,h,_,_=>h.elim
end
end Go.X
