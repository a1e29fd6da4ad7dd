/-
  Part 2 of the road: a checked reading of bodies, and what the functions on it do (XM X11 X12 X13 X14 X15 X16 X17 X18 X19 X20 XL XG XS XC X21 X22).
-/
import Derived.Test.YtphbhcmpebmadaaGreatDoorK01
import Derived.Orders
import Derived.Tactics
import Derived.Control
import Derived.Deep.LoopGhost
import Derived.Scope
namespace Go.X
open Go.RowKit (Below)
section
variable {P:Program} {B:zu} {C:Ctx} {σ:St} {ρ:Env} {w:World} {o:Oper} {ev:Operand->Value} {out:Out}
theorem wN (w:World) (y:Obj):(w.alloc y).heap[w.heap.size]? =some y:=by
 show(w.heap.push y)[w.heap.size]? =some y;simp
theorem jpI {U dst:Nat} (n:C.ok P) (d:o.op= .makeMap U none) (h:js C σ dst (.makeMap U none)=some out) (g:Sat P B ρ σ.obj w)
 (s:σ.obj dst=none) (u:z6 σ.obj dst):jw P o ev w (jv P B ρ σ out):=by
 simp only[js,n.lit] at h
 split at h
 case h_2=>rename_i e _;cases e
 case h_3=>cases h
 rename_i ti tk te _ t;simp at h;subst h;obtain⟨a,k,l,m,_,_⟩:=jm1 g s u (.map #[] 0) 0 0 (.map false tk.ty te.ty []) (fun a q _ _=>by
  simp only[jX,fzM];refine⟨w.heap.size,0,#[],0,rfl,wN w _,⟨rfl,jDW _,fun i e b=>by simp at b,fun i j e z b=>by simp at b,fun i x y=>by simp at y⟩,?_⟩;rw[q];cases r:ρ.H w.heap.size with
  |none=>rfl
  |some c=>have:=g.good.lt r;omega)
 refine jV (v:= .map (some w.heap.size)) (w':=w.alloc (.map #[] 0)) (by simp[execOp,d,Instr.makeMap]) ⟨a,?_,l,?_,trivial⟩
 .simpa[wY,<-kG] using k
 .simp only[SV.den];intro p f;rw[m] at f;simp at f;subst f;exact⟨_,_,rfl,rfl⟩
def jaA {α a:Type}:List (α×a)->List α
 |[]=>[]
 |x::r=>x.1::jaA r
theorem jpj {H:Imm} {kt vt:Ty}:∀(es:List MapEntry) (l:List (kt.Data×vt.Data)),es.length=l.length->(∀(i:Nat) (x:kt.Data×vt.Data),l[i]? =some x->∃e:MapEntry,es[i]? =some e/\kt.rv H e.key x.1/\vt.rv H e.val x.2)->jma H kt es (jaA l)
 |[],[],_,_=>trivial
 |[],_::_,h,_=>by simp at h
 |_::_,[],h,_=>by simp at h
 |e::es,x::l,h,hx=>by
  refine⟨?_,jpj es l (by simpa using h) (fun i y c=>by simpa using hx (i+1) y (by simpa using c))⟩
  obtain⟨d,a,b,_⟩:=hx 0 x rfl
  simp at a;subst a
  exact b
theorem qH {H:Imm} {kt vt:Ty} (a:kt.Data):∀(es:List MapEntry) (l:List (kt.Data×vt.Data)) (i:Nat),es.length=l.length->(∀(i:Nat) (x:kt.Data×vt.Data),l[i]? =some x->∃e:MapEntry,es[i]? =some e/\kt.rv H e.key x.1/\vt.rv H e.val x.2)->
 (qX kt a (jaA l) es i=none/\zt kt a l=none/\(∀v:vt.Data,jdv kt a v l=l++[(a,v)]))\/
 ∃(j:Nat) (e:MapEntry) (x:kt.Data×vt.Data),qX kt a (jaA l) es i=some (i+j,e.val)/\zt kt a l=some x.2/\es[j]? =some e/\l[j]? =some x/\x.1=a/\kt.rv H e.key x.1/\vt.rv H e.val x.2/\∀v:vt.Data,jdv kt a v l=l.set j (a,v)
 |[],[],i,_,_=> .inl ⟨rfl,rfl,fun _=>rfl⟩
 |[],_::_,_,h,_=>by simp at h
 |_::_,[],_,h,_=>by simp at h
 |e::es,x::l,i,h,hx=>by
  obtain⟨f,g,q,r⟩:=hx 0 x rfl
  simp at g;subst g
  by_cases hk: @decide (a=x.1) (kt.decEq a x.1)=true
  .refine .inr ⟨0,e,x,by simp only[jaA,qX,hk,if_true];rfl,by simp only[zt,hk,if_true],rfl,rfl,(@of_decide_eq_true _ (_) hk).symm,q,r,fun v=>by simp only[jdv,hk,if_true];rfl⟩
  .rcases qH (H:=H) a es l (i+1) (by simpa using h) (fun i y s=>by simpa using hx (i+1) y (by simpa using s)) with⟨b,c,d⟩|⟨j,f,t,b,c,d,k,m,n,o,p⟩
   .exact .inl ⟨by simp only[jaA,qX,hk];exact b,by simp only[zt,hk];exact c,fun v=>by simp only[jdv,hk];rw[show jdv kt a v l=_ from d v];rfl⟩
   .refine .inr ⟨j+1,f,t,by simp only[jaA,qX,hk];rw[show qX kt a (jaA l) es (i+1)=_ from b];simp;omega,by simp only[zt,hk];exact c,by simpa using d,by simpa using k,m,n,o,fun v=>by simp only[jdv,hk];rw[show jdv kt a v l=_ from p v];rfl⟩
theorem ju4 {ti:TI} (h:ti.ok P) (hk:zM ti.ty=true) (H:Imm):∃z,(∀w,(zeroValue ti.id).run P w= .ok z w)/\ti.ty.rv H z ti.ty.dflt:=by
 obtain⟨i,z,_,_,_,_,c,a,b⟩:=wK h;obtain⟨d,e⟩:=h.known hk;refine⟨z,c,by rw[b,d],?_,?_⟩
 .rw[<-jEk,a,h.zlen,e]
 .refine Ty.rd_congr _ _ _ _ (fun j _=> ?_) (h.zd hk H);rw[<-a];simp
theorem jrW {U dst:Nat} {x m:Operand} {ok:Bool} (S:C.ok P) (n:o.op= .lookup U x m ok) (h:js C σ dst (.lookup U x m ok)=some out) (r:Sat P B ρ σ.obj w)
 (E:SV.den P ρ (jE σ x) (ev x)) (t:SV.den P ρ (jE σ m) (ev m)):jw P o ev w (jv P B ρ σ out):=by
 simp only[js] at h
 split at h
 case h_2=>cases h
 rename_i ti tk te y;obtain⟨_,F,G,a,u,D⟩:=y6 S y;obtain⟨M,N,_⟩:=F.keyq u
 split at h
 case h_2=>cases h
 rename_i l k T hk;have c:=jF r (fz:=[]) (fun o=>⟨.inl rfl,fun A=>by simp at A⟩) hk (fun o A=>A) t;obtain⟨z,L,q⟩:=ju4 G D ρ.H;have key:∃v:Value,te.ty.rv ρ.H v (kx te.ty.dflt (zt tk.ty k l))/\(execOp ev o).run P w= .ok (.value (if ok then .tuple #[v,.bool (jCe (zt tk.ty k l))] else v)) w:=by
  rcases jjq r T E with⟨e,rfl⟩|⟨b,es,clock,e,Q,I⟩
  .refine⟨z,q,?_⟩;have c1:=M ρ.H (ev m) k w true c;have c2:=N ρ.H [] [] (ev m) k w c trivial;simp[execOp,n,Instr.lookup,run_underlying a,e,c1,c2,qX,L,zt,jCe]
  .have J:(getObj b).run P w= .ok (.map es clock) w:=(by simp[getObj,Sem.run,Q]);have c1:=M ρ.H (ev m) k w es.isEmpty c;have f:es.toList.length=l.length:=(by simpa using I.1);have d:∀(i:Nat) (x:tk.ty.Data×te.ty.Data),l[i]? =some x->∃e:MapEntry,es.toList[i]? =some e/\tk.ty.rv ρ.H e.key x.1/\te.ty.rv ρ.H e.val x.2:=fun i x E=>by simpa using I.2.2.2.2 i x E
   have c2:=N ρ.H es.toList (jaA l) (ev m) k w c (jpj _ _ f d);rcases qH (H:=ρ.H) k es.toList l 0 f d with⟨s,p,_⟩|⟨j,O,Z,s,p,V,W,X,Y,R,_⟩
   .refine⟨z,by rw[p];exact q,?_⟩;rw[s] at c2;simp[execOp,n,Instr.lookup,run_underlying a,e,J,c1,c2,L,p,jCe]
   .refine⟨O.val,by rw[p];exact R,?_⟩;rw[s] at c2;simp[execOp,n,Instr.lookup,run_underlying a,e,J,c1,c2,p,jCe]
 obtain⟨v,K,g⟩:=key
 split at h
 .simp only[Out.pure,Option.some.injEq] at h;subst h;refine jg r (v:=_) (by simpa using g) ?_ trivial;simp only[SV.den,SV.denL];exact⟨_,rfl,_,_,rfl,K,_,_,rfl,wi _,rfl⟩
 .simp only[Out.pure,Option.some.injEq] at h;subst h;exact jg r (v:=v) (by simpa using g) (by simpa only[SV.den] using K) trivial
theorem jcP {U:Nat} {m f x:Operand} (hC:C.ok P) (g:o.op= .mapUpdate U m f x\/o.op= .insert U m f x) (h:jyf C σ U m f x=some out) (hS:Sat P B ρ σ.obj w)
 (hm:SV.den P ρ (jE σ m) (ev m)) (hix:SV.den P ρ (jE σ f) (ev f)) (hx:SV.den P ρ (jE σ x) (ev x)):jw P o ev w (jv P B ρ σ out):=by
 unfold jyf at h
 split at h
 case h_2=>cases h
 rename_i ti tk te hmp;obtain⟨_,ok2,ok3,J,hkq,hte⟩:=y6 hC hmp;obtain⟨q1,q2,q3⟩:=ok2.keyq hkq
 split at h
 case h_2=>cases h
 rename_i ob hob;rw[hob] at hm
 split at h
 case h_2=>cases h
 rename_i kt vt l R
 split at h
 case h_2=>cases h
 rename_i l' k v fz hc hk hv
 split at h
 case h_2=>cases h
 rename_i D;have D:=wB D;simp at h;subst h;obtain⟨e,rfl⟩:=jh hc;obtain⟨e1,S⟩:kt=tk.ty/\vt=te.ty:=by injection e with a b;exact⟨a,b⟩
 subst e1;subst S;have M:wP e l=l:=rfl;rw[M];obtain⟨ρ1,K,A,hb1,hn1⟩:=jK (σ:=σ) fz hS;have Y:=jF hS (fz:=[]) (fun o=>⟨.inl rfl,fun R=>by simp at R⟩) hk (fun o R=>R) hix;have s:=Ty.rv_mono A.H Y;have hvr:=jF K (wo σ fz) hv (fun o R=>R) (SV.den_mono A _ _ (fun r hr=>by simp at hr) hx);have ho1:(σ.frz fz).obj ob=some (.map false tk.ty te.ty l):=(by rw[zX,if_neg D];exact R);obtain⟨p,hp,hs⟩:=K.obs ob _ ho1;simp only[jX,fzM] at hs;obtain⟨b,Cp,es,clock,rfl,k1,k2,k3⟩:=hs;simp only[SV.den] at hm;obtain⟨b',C',f1,f2⟩:=hm _ (by rw[<-hb1];exact hp);simp at f1;obtain⟨rfl,rfl⟩:=f1;have hg:(getObj b).run P w= .ok (.map es clock) w:=(by simp[getObj,Sem.run,k1]);have I:∀y:Obj,(setObj b y).run P w= .ok () {w with heap:=w.heap.setIfInBounds b y}:=fun y=>by simp[setObj,Sem.run,k1]
 have X:b<w.heap.size:=(jD2.1 k1).1;have c1:=q1 ρ.H (ev f) k w false Y;obtain⟨m1,m2,m3,m4,m5⟩:=k2;have G:es.toList.length=l.length:=(by simpa using m1);have F:∀(i:Nat) (x:tk.ty.Data×te.ty.Data),l[i]? =some x->∃e:MapEntry,es.toList[i]? =some e/\tk.ty.rv ρ1.H e.key x.1/\te.ty.rv ρ1.H e.val x.2:=fun i x hx=>by simpa using m5 i x hx
 have c2:=q2 ρ1.H es.toList (jaA l) (ev f) k w s (jpj _ _ G F);have T:∀(z:Array MapEntry) (c:Nat),jbU ρ1.H tk.ty te.ty z c (jdv tk.ty k v l)->(execOp ev o).run P w= .ok .skip {w with heap:=w.heap.setIfInBounds b (.map z c)}->jw P o ev w (jv P B ρ σ ⟨[],[],.any,fz,[(ob,some (.map false tk.ty te.ty (jdv tk.ty k v l)))],[]⟩):=by
  intro z c hrd Z;refine jfk Z ⟨ρ1,?_,A,kA _,trivial⟩;have:=jbe K hp k3 (.map false tk.ty te.ty (jdv tk.ty k v l)) (w':={w with heap:=w.heap.setIfInBounds b (.map z c)}) ⟨rfl,rfl,rfl,jDW _,by simp,fun j hj=>(by show(w.heap.setIfInBounds b _)[j]? =_;rw[jD8,if_neg (fun h=>hj h.symm)])⟩ (by
   simp only[jX,fzM];exact⟨b,Cp,z,c,rfl,by simp[X],hrd,k3⟩)
  rw[jEi,jEj];show Sat P B ρ1 ({(σ.frz fz) with ob:=(ob,_)::(σ.frz fz).ob}:St).obj _;rw[kG];exact this
 rcases qH (H:=ρ1.H) k es.toList l 0 G F with⟨g1,g2,g3⟩|⟨j,u,x',g1,g2,g3,g4,g5,g6,g7,g8⟩
 .rw[g1] at c2;refine T (es.push {key:=ev f,val:=ev x,born:=clock}) (clock+1) ?_ ?_
  .rw[g3];have Q:∀(i:Nat) (e:MapEntry),(es.push {key:=ev f,val:=ev x,born:=clock})[i]? =some e->(i<es.size/\es[i]? =some e)\/(i=es.size/\e={key:=ev f,val:=ev x,born:=clock}):=by
    intro i e d;rw[jE8] at d
    split at d
    .rename_i hi;simp at d;exact .inr ⟨hi,d.symm⟩
    .exact .inl ⟨(jD2.1 d).1,d⟩
   refine⟨by simp[m1],by simp;omega,fun i e d=> ?_,fun i j e u d N L=> ?_,fun i y n=> ?_⟩
   .rcases Q i e d with⟨_,h⟩|⟨_,rfl⟩
    .have:=m3 i e h;omega
    .simp
   .rcases Q i e d with⟨h0,h⟩|⟨h0,rfl⟩<;>rcases Q j u N with⟨W,V⟩|⟨W,rfl⟩
    .exact m4 i j e u h V L
    .have:=m3 i e h;simp at L;omega
    .have:=m3 j u V;simp at L;omega
    .omega
   .by_cases hi:i<l.length
    .rw[jD4 hi] at n;obtain⟨e,h1,h2,h3⟩:=m5 i y n;exact⟨e,by rw[jE8,if_neg (by omega)];exact h1,h2,h3⟩
    .rw[jD3 (by omega)] at n;have:i-l.length=0:=by
      by_cases e:i-l.length=0
      .exact e
      .obtain⟨q,hq⟩:∃q,i-l.length=q+1:=⟨i-l.length-1,by omega⟩;rw[hq] at n;simp at n
     rw[this] at n;simp at n;subst n;exact⟨{key:=ev f,val:=ev x,born:=clock},by rw[jE8,if_pos (by omega)],s,hvr⟩
  .rcases g with g|g<;>simp[execOp,g,Instr.mapUpdate,run_underlying J,f2,hg,c1,c2,I]
 .rw[g1] at c2;have hsb:=q3 ρ1.H u.key (ev f) k (g5▸g6) s;have t:es[j]? =some u:=(by simpa using g3);refine T (es.modify j fun e=>{e with key:=ev f,val:=ev x}) clock ?_ ?_
  .rw[g8];have E:∀(i:Nat) (e:MapEntry),(es.modify j fun e=>{e with key:=ev f,val:=ev x})[i]? =some e->(i≠j/\es[i]? =some e)\/(i=j/\e={u with key:=ev f,val:=ev x}):=by
    intro i e d;rw[jEI] at d
    split at d
    .rename_i hi;subst hi;rw[t] at d;simp at d;exact .inr ⟨rfl,d.symm⟩
    .rename_i hi;exact .inl ⟨fun h=>hi h.symm,d⟩
   refine⟨by simp[m1],by simpa using m2,fun i e d=> ?_,fun i i' e S d N L=> ?_,fun i y n=> ?_⟩
   .rcases E i e d with⟨_,h⟩|⟨rfl,rfl⟩
    .exact m3 i e h
    .exact m3 i u t
   .rcases E i e d with⟨h0,h⟩|⟨rfl,rfl⟩<;>rcases E i' S N with⟨W,V⟩|⟨rfl,rfl⟩
    .exact m4 i i' e S h V L
    .exact m4 i i' e u h t L
    .exact m4 i i' u S t V L
    .rfl
   .rw[List.getElem?_set] at n;by_cases O:j=i
    .subst O;rw[if_pos rfl] at n;have hjl:j<l.length:=(by have:=(jDU.1 g4).1;exact this);rw[if_pos hjl] at n;simp at n;subst n;exact⟨{u with key:=ev f,val:=ev x},by rw[jEI,if_pos rfl,t];rfl,s,hvr⟩
    .rw[if_neg O] at n;obtain⟨e,h1,h2,h3⟩:=m5 i y n;exact⟨e,by rw[jEI,if_neg O];exact h1,h2,h3⟩
  .have hks:(Instr.keyThatStays u.key (ev f)).run P w= .ok (ev f) w:=(by simp[Instr.keyThatStays,hsb]);rcases g with g|g<;>simp[execOp,g,Instr.mapUpdate,run_underlying J,f2,hg,c1,c2,I,t,hks]
theorem jvY {H:Imm} {kt vt:Ty} {es:Array MapEntry} {clock:Nat} {l:List (kt.Data×vt.Data)} (h:jbU H kt vt es clock l) {d f:Value} {k:kt.Data} {v:vt.Data} (hk:kt.rv H d k) (z:vt.rv H f v):
 jbU H kt vt (es.push {key:=d,val:=f,born:=clock}) (clock+1) (l++[(k,v)]):=by
 obtain⟨A,D,p,B,C⟩:=h;have c:∀(i:Nat) (e:MapEntry),(es.push {key:=d,val:=f,born:=clock})[i]? =some e->(i<es.size/\es[i]? =some e)\/(i=es.size/\e={key:=d,val:=f,born:=clock}):=by
  intro i e a;rw[jE8] at a
  split at a
  .rename_i hi;simp at a;exact .inr ⟨hi,a.symm⟩
  .exact .inl ⟨(jD2.1 a).1,a⟩
 refine⟨by simp[A],by simp;omega,fun i e a=> ?_,fun i j e g a o n=> ?_,fun i y b=> ?_⟩
 .rcases c i e a with⟨_,h⟩|⟨_,rfl⟩
  .have:=p i e h;omega
  .simp
 .rcases c i e a with⟨s,h⟩|⟨s,rfl⟩<;>rcases c j g o with⟨m,r⟩|⟨m,rfl⟩
  .exact B i j e g h r n
  .have:=p i e h;simp at n;omega
  .have:=p j g r;simp at n;omega
  .omega
 .by_cases hi:i<l.length
  .rw[jD4 hi] at b;obtain⟨e,t,u,w⟩:=C i y b;exact⟨e,by rw[jE8,if_neg (by omega)];exact t,u,w⟩
  .rw[jD3 (by omega)] at b;have:i-l.length=0:=by
    by_cases e:i-l.length=0
    .exact e
    .obtain⟨q,x⟩:∃q,i-l.length=q+1:=⟨i-l.length-1,by omega⟩;rw[x] at b;simp at b
   rw[this] at b;simp at b;subst b;exact⟨{key:=d,val:=f,born:=clock},by rw[jE8,if_pos (by omega)],hk,z⟩
theorem jz4 {H:Imm} {kt vt:Ty} {es:Array MapEntry} {clock:Nat} {l:List (kt.Data×vt.Data)} (h:jbU H kt vt es clock l) {j:Nat} {b:MapEntry} (m:es[j]? =some b) {f:MapEntry->MapEntry} (q:(f b).born=b.born)
 {k:kt.Data} {v:vt.Data} (hk:kt.rv H (f b).key k) (C:vt.rv H (f b).val v):jbU H kt vt (es.modify j f) clock (l.set j (k,v)):=by
 obtain⟨D,E,w,t,F⟩:=h;have a:∀(i:Nat) (e:MapEntry),(es.modify j f)[i]? =some e->(i≠j/\es[i]? =some e)\/(i=j/\e=f b):=by
  intro i e c;rw[jEI] at c
  split at c
  .rename_i hi;subst hi;rw[m] at c;simp at c;exact .inr ⟨rfl,c.symm⟩
  .rename_i hi;exact .inl ⟨fun h=>hi h.symm,c⟩
 refine⟨by simp[D],by simpa using E,fun i e c=> ?_,fun i o e p c r d=> ?_,fun i y n=> ?_⟩
 .rcases a i e c with⟨_,h⟩|⟨rfl,rfl⟩
  .exact w i e h
  .rw[q];exact w i b m
 .rcases a i e c with⟨G,h⟩|⟨rfl,rfl⟩<;>rcases a o p r with⟨x,u⟩|⟨rfl,rfl⟩
  .exact t i o e p h u d
  .exact t i o e b h m (d.trans q)
  .exact t i o b p m u (q.symm.trans d)
  .rfl
 .rw[List.getElem?_set] at n;by_cases g:j=i
  .subst g;have s:j<l.length:=(by have:=(jD2.1 m).1;omega);rw[if_pos rfl,if_pos s] at n;simp at n;subst n;exact⟨f b,by rw[jEI,if_pos rfl,m];rfl,hk,C⟩
  .rw[if_neg g] at n;obtain⟨e,z,A,B⟩:=F i y n;exact⟨e,by rw[jEI,if_neg g];exact z,A,B⟩
theorem jvK {U:Nat} {ti tk te:TI} (R:C.ok P) (E:C.mapT U=some (ti,tk,te)) {H:Imm} {b:Nat} {es:Array MapEntry} {clock:Nat} {l:List (tk.ty.Data×te.ty.Data)} (N:w.heap[b]? =some (.map es clock))
 (c:jbU H tk.ty te.ty es clock l) {d:Value} {k:tk.ty.Data} (hk:tk.ty.rv H d k):
 ∃(v:Value) (s:Int) (n:Array MapEntry) (a:Nat),(Instr.mapEntry U (.map (some b)) d).run P w= .ok (.tuple #[v,.int .i64 s]) {w with heap:=w.heap.setIfInBounds b (.map n a)}/\
  jbU H tk.ty te.ty n a (y4 tk.ty te.ty.dflt k l)/\te.ty.rv H v (kx te.ty.dflt (zt tk.ty k l))/\
  ∃(j:Nat) (e:MapEntry),n[j]? =some e/\(e.born:Int)=s/\∀v,jdv tk.ty k v l=(y4 tk.ty te.ty.dflt k l).set j (k,v):=by
 obtain⟨_,I,J,m,B,G⟩:=y6 R E;obtain⟨V,W,X⟩:=I.keyq B;have M:(getObj b).run P w= .ok (.map es clock) w:=(by simp[getObj,Sem.run,N]);have h:∀y:Obj,(setObj b y).run P w= .ok () {w with heap:=w.heap.setIfInBounds b y}:=fun y=>by simp[setObj,Sem.run,N]
 have c1:=V H d k w false hk;have g:es.toList.length=l.length:=(by simpa using c.1);have f:∀(i:Nat) (x:tk.ty.Data×te.ty.Data),l[i]? =some x->∃e:MapEntry,es.toList[i]? =some e/\tk.ty.rv H e.key x.1/\te.ty.rv H e.val x.2:=fun i x S=>by simpa using c.2.2.2.2 i x S
 have c2:=W H es.toList (jaA l) d k w hk (jpj _ _ g f);rcases qH (H:=H) k es.toList l 0 g f with⟨A,q,u⟩|⟨j,p,Y,A,q,u,Z,O,Q,K,L⟩
 .rw[A] at c2;obtain⟨z,T,t⟩:=ju4 J G H;have r:y4 tk.ty te.ty.dflt k l=l++[(k,te.ty.dflt)]:=(by unfold y4;rw[q,u];rfl);refine⟨z,clock,es.push {key:=d,val:=z,born:=clock},clock+1,?_,?_,by rw[q];exact t,l.length,{key:=d,val:=z,born:=clock},?_,rfl,fun v=> ?_⟩
  .simp[Instr.mapEntry,run_underlying m,M,c1,c2,h,T,goInt]
  .rw[r];exact jvY c hk t
  .rw[jE8,if_pos c.1.symm]
  .rw[r,u,List.set_append_right _ _ (jDW _)];simp
 .rw[A] at c2;have o:es[j]? =some p:=(by simpa using u);have F:=X H p.key d k (O▸Q) hk;have r:y4 tk.ty te.ty.dflt k l=l.set j (k,Y.2):=(by unfold y4;rw[q,L];rfl);have D:(Instr.keyThatStays p.key d).run P w= .ok d w:=(by simp[Instr.keyThatStays,F]);refine⟨p.val,p.born,es.modify j fun e=>{e with key:=d},clock,?_,?_,by rw[q];exact K,j,{p with key:=d},?_,rfl,fun v=> ?_⟩
  .simp[Instr.mapEntry,run_underlying m,M,c1,c2,h,o,D,goInt]
  .rw[r];exact jz4 c o rfl hk K
  .rw[jEI,if_pos rfl,o];rfl
  .rw[r,L,List.set_set]
theorem jj8 {U dst:Nat} {m st x:Operand} (hC:C.ok P) (X:o.op= .entryStore U m st x) (h:js C σ dst (.entryStore U m st x)=some out) (hS:Sat P B ρ σ.obj w)
 (S:SV.den P ρ (jE σ m) (ev m)) (Y:SV.den P ρ (jE σ st) (ev st)) (hx:SV.den P ρ (jE σ x) (ev x)) (K:kk out.vc):jw P o ev w (jv P B ρ σ out):=by
 simp only[js] at h
 split at h
 case h_2=>cases h
 rename_i ti tk te hmp
 split at h
 case h_2=>cases h
 rename_i ob s W hs;rw[W] at S
 split at h
 case h_2=>cases h
 rename_i kt vt l k s' T
 split at h
 case h_2=>cases h
 rename_i l' k' v fz hc hk hv
 split at h
 case h_2=>cases h
 rename_i d;have d:=wB d;simp at h;subst h;obtain⟨e,rfl⟩:=jh hc;obtain⟨e1,e2⟩:kt=tk.ty/\vt=te.ty:=by injection e with a b;exact⟨a,b⟩
 subst e1;subst e2;obtain⟨ek,f⟩:=jh hk;have f:k=k':=(by first|exact f|exact f.symm);subst f;have q:wP e l=l:=rfl;rw[q];simp only[kk] at K;obtain⟨J,_⟩:=K;have Z:ev st= .int .i64 s:=kD (i:=s) (by rw[hs];rfl) Y;obtain⟨ρ1,n,g,O,hn1⟩:=jK (σ:=σ) fz hS;have hvr:=jF n (wo σ fz) hv (fun o T=>T) (SV.den_mono g _ _ (fun r hr=>by simp at hr) hx);have V:(σ.frz fz).obj ob=some (.mape tk.ty te.ty l k s'):=(by rw[zX,if_neg d];exact T);obtain⟨p,hp,G⟩:=n.obs ob _ V;simp only[jX] at G;obtain⟨b,Cp,es,clock,rfl,k1,M,k3,j,N,L,j2,j3⟩:=G;simp only[SV.den] at S;obtain⟨b',C',f1,f2⟩:=S _ (by rw[<-O];exact hp);simp at f1;obtain⟨rfl,rfl⟩:=f1;have hg:(getObj b).run P w= .ok (.map es clock) w:=(by simp[getObj,Sem.run,k1]);have I:∀y:Obj,(setObj b y).run P w= .ok () {w with heap:=w.heap.setIfInBounds b y}:=fun y=>by simp[setObj,Sem.run,k1]
 have A:b<w.heap.size:=(jD2.1 k1).1;obtain⟨D,R⟩:=jD2.1 L;have t:es.findIdx? (fun e=>(e.born:Int)==s)=some j:=by
  rw[Array.findIdx?_eq_some_iff_getElem];refine⟨D,by rw[R];simp[j2,J],fun i hi=> ?_⟩;have Q:i<es.size:=(by omega);intro c;have c:((es[i]).born:Int)=s:=(by simpa using c);have:=M.2.2.2.1 i j es[i] N (jEf Q) L (by
   have z:((es[i]).born:Int)=(N.born:Int):=by rw[c,j2,J]
   exact_mod_cast z)
  omega
 have u:j<(y4 tk.ty te.ty.dflt k l).length:=(by have:=M.1;omega);have E:tk.ty.rv ρ1.H N.key k:=by
  obtain⟨e2,z,h2,_⟩:=M.2.2.2.2 j _ (jDX u);rw[L] at z;simp at z;subst z;have h3:=j3 (kx te.ty.dflt (zt tk.ty k l));have h4:((y4 tk.ty te.ty.dflt k l)[j]).1=k:=by
   have:(y4 tk.ty te.ty.dflt k l)[j]? =some (k,kx te.ty.dflt (zt tk.ty k l)):=by
    conv=>lhs;rw[show y4 tk.ty te.ty.dflt k l=_ from h3]
    rw[List.getElem?_set,if_pos rfl,if_pos u]
   rw[jDX u] at this;simp at this;rw[this]
  rw[h4] at h2;exact h2
 have F:(execOp ev o).run P w= .ok .skip {w with heap:=w.heap.setIfInBounds b (.map (es.modify j fun e=>{e with val:=ev x}) clock)}:=by
  simp[execOp,X,Instr.entryStore,f2,hg,Z,Go.asInt,asIntOf,t,I]
 refine jfk F ⟨ρ1,?_,g,kA _,trivial⟩;have:=jbe n hp k3 (.map false tk.ty te.ty (jdv tk.ty k v l)) (w':={w with heap:=w.heap.setIfInBounds b (.map (es.modify j fun e=>{e with val:=ev x}) clock)}) ⟨rfl,rfl,rfl,jDW _,by simp,fun j hj=>(by show(w.heap.setIfInBounds b _)[j]? =_;rw[jD8,if_neg (fun h=>hj h.symm)])⟩ (by
  simp only[jX,fzM];refine⟨b,Cp,es.modify j fun e=>{e with val:=ev x},clock,rfl,by simp[A],?_,k3⟩;rw[j3];exact jz4 M L rfl E hvr)
 rw[jEi,jEj];show Sat P B ρ1 ({(σ.frz fz) with ob:=(ob,_)::(σ.frz fz).ob}:St).obj _;rw[kG];exact this
theorem juA {U dst:Nat} {x:Operand} (V:C.ok P) (s:o.op= .range U x) (h:js C σ dst (.range U x)=some out) (W:Sat P B ρ σ.obj w)
 (Z:σ.obj dst=none) (I:z6 σ.obj dst) (k:SV.den P ρ (jE σ x) (ev x)):jw P o ev w (jv P B ρ σ out):=by
 simp only[js] at h
 split at h
 case h_2=>cases h
 rename_i ti tk te A;obtain⟨_,_,_,j,_,_⟩:=y6 V A
 split at h
 case h_2=>cases h
 rename_i l fz hl;simp at h;subst h;obtain⟨ρ1,d,g,X,q⟩:=jK (σ:=σ) fz W;have a:=jF d (wo σ fz) hl (fun o D=>D) (SV.den_mono g _ _ (fun r a=>by simp at a) k);obtain⟨p,v,R,S⟩:=jW (t:= .map tk.ty te.ty) rfl a;simp at v;have z:(σ.frz fz).obj dst=none:=(by rw[zX,Z];simp);have q:z6 (σ.frz fz).obj dst:=by
  intro r T f cs a;rw[zX] at a
  split at a
  .cases k:σ.obj r with
   |none=>rw[k] at a;cases a
   |some y=>
    rw[k] at a;cases y<;>simp[zR] at a
    obtain⟨rfl,_,rfl⟩:=a;exact I r _ _ _ k
  .exact I r T f cs a
 have n:∀(y:Obj),jcT ρ1.H tk.ty te.ty l none y->(execOp ev o).run P w= .ok (.value (.pointer (some ⟨w.heap.size,0,none⟩))) (w.alloc y)->jw P o ev w (jv P B ρ σ ⟨[],[],.ip dst,fz,[(dst,some (.iter tk.ty te.ty l none))],[dst]⟩):=by
  intro y hy u;obtain⟨m,N,O,Q,_,_⟩:=jm1 d z q y 0 0 (.iter tk.ty te.ty l none) (fun m G _ _=>by
   simp only[jX];refine⟨w.heap.size,0,y,rfl,wN w _,by rw[G];exact hy,?_⟩;rw[G];cases Y:ρ1.H w.heap.size with
   |none=>rfl
   |some c=>have:=d.good.lt Y;omega)
  refine jV u ⟨m,?_,(g.weaken (fun o D=>by simp at D)).trans O,?_,trivial⟩
  .rw[jEi,jEj];show Sat P B m ({(σ.frz fz) with ob:=(dst,_)::(σ.frz fz).ob}:St).obj _;rw[kG];exact N
  .simp only[SV.den];intro p E;rw[Q] at E;simp at E;subst E;exact⟨_,_,rfl,rfl⟩
 cases p with
 |none=>
  have:=R rfl;subst this;refine n (.mapIter none 0 #[] 0) ⟨rfl,rfl⟩ ?_;simp[execOp,s,Instr.range,run_underlying j,v]
 |some b=>
  obtain⟨es,clock,F,J,e3,K,L,M⟩:=S b rfl;have hw:=d.good.1 b _ F;have hg:(getObj b).run P w= .ok (.map es clock) w:=by
   have:w.heap[b]? =some (.map es clock):=hw;simp[getObj,Sem.run,this]
  refine n (.mapIter (some b) clock #[] clock) ⟨es,clock,F,rfl,K,L,.inl rfl,⟨es.toList,?_,by simpa using J,fun i x k=> ?_⟩,trivial⟩ ?_
  .rw[List.filter_eq_self.2];intro e _;simp
  .obtain⟨e,q1,q2,q3⟩:=M i x k;exact⟨e,by simpa using q1,q2,q3⟩
  .simp[execOp,s,Instr.range,run_underlying j,v,hg]
theorem juE {dst:Nat} {it:Operand} (z:o.op= .entry it) (h:js C σ dst (.entry it)=some out) (n:Sat P B ρ σ.obj w)
 (d:SV.den P ρ (jE σ it) (ev it)):jw P o ev w (jv P B ρ σ out):=by
 simp only[js] at h
 split at h
 case h_2=>cases h
 rename_i ob u;rw[u] at d
 split at h
 case h_2=>cases h
 rename_i kt vt left x Q;simp only[Out.pure,Option.some.injEq] at h;subst h;obtain⟨p,R,F⟩:=n.obs ob _ Q;simp only[jX] at F;obtain⟨b,T,y,rfl,S,k,Z⟩:=F;simp only[SV.den] at d;obtain⟨V,C',A,H⟩:=d _ R;simp at A;obtain⟨rfl,rfl⟩:=A;unfold jcT at k
 split at k
 .exact absurd k.2 (by simp)
 .rename_i m f l a;obtain⟨es,clock,L,W,X,M,Y,_,N,e,D,I,J,K⟩:=k;have O:w.heap[m]? =some (.map es clock):=n.good.1 m _ L;have r:(getObj b).run P w= .ok (.mapIter (some m) f l a) w:=(by simp[getObj,Sem.run,S]);have s:(getObj m).run P w= .ok (.map es clock) w:=(by simp[getObj,Sem.run,O]);have c:es.find? (·.born==e.born)=some e:=by
   cases q:es.find? (·.born==e.born) with
   |none=>
    have:=Array.find?_eq_none.1 q e (by simpa using D);simp at this
   |some G=>
    have E:=Array.find?_some q;simp at E;have g:=Array.mem_of_find?_eq_some q;obtain⟨i,hi⟩:=Array.getElem?_of_mem g;obtain⟨j,t⟩:=Array.getElem?_of_mem (show e∈es by simpa using D);have:=M i j G e hi t E;subst this;rw[hi] at t;exact t
  refine jg n (v:= .tuple #[e.key,e.val]) ?_ ?_ trivial
  .simp[execOp,z,Instr.entry,H,r,s,I,N,c]
  .simp only[SV.den,SV.denL];exact⟨_,rfl,_,_,rfl,J,_,_,rfl,K,rfl⟩
 .exact k.elim
theorem jk6 {U dst:Nat} {l c:Operand} (hC:C.ok P) (S:o.op= .makeSlice U l c) (h:jyR C σ dst U l c=some out) (hS:Sat P B ρ σ.obj w) (hd:σ.obj dst=none) (hn:z6 σ.obj dst)
 (t:∀x,SV.den P ρ (jE σ x) (ev x)) (I:kk out.vc):jw P o ev w (jv P B ρ σ out):=by
 unfold jyR at h
 split at h
 case h_2=>cases h
 rename_i ti te n m F hl L;simp at h;subst h;simp only[kk] at I;obtain⟨h0,R,e,_⟩:=I;subst R;obtain⟨_,W,_,a,G,hka,y,hpos⟩:=zg hC F;obtain⟨i,z,Z,g1,g2,g3,g4,g5⟩:=a.info;rw[W] at Z;have O:=kD hl (t l);have M:=kD L (t c);obtain⟨k,Q⟩:∃k:Nat,n=(k:Int):=Int.eq_ofNat_of_zero_le h0;subst Q;rw[jD0] at e⊢;have v:=jde F;have f:0<te.bytes:=(a.pos v).2;have hk2:k<=140737488355328:=by
  have:k*1<=k*te.bytes:=jE7 _ f;omega
 have J:z.cells.size=te.ty.size:=(by rw[<-jEk,g4,a.zlen,y]);have V:i.size=te.ty.size:=(by rw[g1,y]);have K:(i.bytes:Int)*(k:Int)<=281474976710656:=by
  have:i.bytes*k<=281474976710656:=(by rw[g2,Nat.mul_comm];omega);have h2:((i.bytes*k:Nat):Int)<=281474976710656:=by omega
  rwa [Int.natCast_mul] at h2
 have d:=run_make (P:=P) w U ti.elem i z G Z g3 .i64 .i64 (k:Int) (k:Int) (by omega) (jEP _) K (by omega);rw[jD0] at d;have E:(execOp ev o).run P w= .ok (.value (.slice (some ⟨w.heap.size,0,none⟩) k k)) (w.alloc (.cells (madeCells z.cells (k*i.size)) ti.elem)):=by
  simp only[execOp,S,O,M,Sem.run_bind,d,Result.andThen_ok,Sem.run_pure]
 have A:(madeCells z.cells (k*i.size)).size=k*te.ty.size:=(by rw[size_madeCells,V]);obtain⟨r,q1,q2,q3,q4,q5⟩:=ji3 hS (own:=none) hd hn (World.grownBy_alloc w (.cells (madeCells z.cells (k*i.size)) ti.elem) none) (jDW _) (by simp) (some (w.heap.size,k)) (fun b C s=>by simp at s;exact .inr s.1.symm) k
  (.row ti.elem te.ty false .no (List.replicate k te.ty.dflt)) (fun r hH g _=>by
   refine⟨by rw[g];simp,by simp;omega,fun _=> ?_,_,wN w _,A,by simp,by simp only[maxLen];omega,fun j x X=> ?_,?_⟩
   .rename_i hh;cases hh
   .rw[hH];have hi:j<k:=(by have:=(jDU.1 X).1;simpa using this);have Y:x=te.ty.dflt:=by
     rw[List.getElem?_replicate,if_pos hi] at X;simpa using X.symm
    subst Y;refine te.ty.rd_congr _ _ _ (fun q hq=> ?_) (a.zd v ρ.H);have N:j*te.ty.size+q<k*te.ty.size:=by
     have:(j+1)*te.ty.size<=k*te.ty.size:=jD9 _ hi;rw[jEz] at this;omega
    have u:q<z.cells.size:=(by rw[J];exact hq);have D:(j*te.ty.size+q)%z.cells.size=q:=(by rw[J,Nat.mul_comm,Nat.mul_add_mod,Nat.mod_eq_of_lt hq]);rw[jEf (by rw[A];exact N)];simp only[madeCells,Array.getElem_map,Array.getElem_range,D];rw[getElem!_pos z.cells q u,<-g4,jEA,jEf u]
   .rw[hH];simp only[fzH];cases L:ρ.H w.heap.size with
    |none=>rfl
    |some c=>have:=hS.good.lt L;omega)
 refine jV E ⟨r,?_,q2,?_,trivial⟩
 .show Sat P B r ({σ with ob:=[(dst,_)]++(wY σ []++σ.ob)}:St).obj _;simp only[wY,jEj];rw[yJ];exact q1
 .simp only[SV.den];intro p T;rw[q3] at T;simp at T;subst T;exact⟨by rw[q4],by rw[q4];exact jDW _⟩
theorem jvq {t:Ty} {v:Value} {l:List t.Data} {k:Nat} (h:Src ρ.H w t v l) (hk:k<=l.length) {size:Nat} (n:size=t.size):
 ∃cs:List Value,(Builtin.firstCells size k v).run P w= .ok cs.toArray w/\cs.length=k*t.size/\(∀u∈cs,u.oneCell'=true)/\∀(i:Nat) x,i<k->l[i]? =some x->t.rd ρ.H (fun j=>cs[i*t.size+j]?) x:=by
 subst n;obtain⟨_,⟨rfl,rfl⟩|⟨ad,c,us,rfl,d,e,f,g⟩⟩:=h
 .have b:k=0:=(by simpa using hk);subst b;exact⟨[],by simp[run_firstCells_none],by simp,by simp,fun i x hi=>by omega⟩
 .have m:k*t.size<=us.length:=(by rw[d];exact jD9 _ hk);refine⟨us.take (k*t.size),run_firstCells_some w t.size k ad l.length c _ (by rw[jEp];omega) (fun j v a=>e j v ?_),by rw[jEp];omega,fun u o=>f u (jFe o),fun i x hi p=> ?_⟩
  .rw[jE2] at a
   split at a
   .exact a
   .cases a
  .refine t.rd_congr _ _ _ (fun j a=> ?_) (g i x p);have:(i+1)*t.size<=k*t.size:=jD9 _ hi;rw[jEz] at this;rw[jEe (by omega)]
theorem jr3 {α:Type} (l:List α) (lo n:Nat) (a:List α) (h:lo+n<=l.length):(ju3 l lo n a).length=l.length:=by
 simp only[ju3,jEd,jEp,jFb];omega
theorem jxu {c:Call} (hC:C.ok P) (Y:o.op= .call c) (hc:c.callee= .builtin .copy) (h:jBp C σ c.args.toList c.argTypes.toList=some out) (hS:Sat P B ρ σ.obj w)
 (hev:∀x,SV.den P ρ (jE σ x) (ev x)) (hvc:kk out.vc):jw P o ev w (jv P B ρ σ out):=by
 unfold jBp at h
 split at h
 case h_2=>cases h
 rename_i x y U U' i z;have i:c.args= #[x,y]:=(by rw[<-jEc];exact i);have z:c.argTypes= #[U,U']:=by rw[<-jEc];exact z
 split at h
 case h_2=>cases h
 rename_i ti te Q hsl;have Q:=jDQ Q;subst Q
 split at h
 case h_2=>cases h
 rename_i f ob lo n hel s het
 split at h
 case h_2=>cases h
 rename_i E t nl l X
 split at h
 case h_2=>cases h
 rename_i l' hl';simp only[Option.some.injEq] at h;subst h;obtain⟨e,rfl⟩:=jh hl';have e':t=te.ty:=(by injection e);subst e';have R:wP e l=l:=rfl;rw[R] at hvc⊢;have hlen:lo+n<=l.length:=hvc.1;obtain⟨p,hp,k1,k0,k2⟩:=hS.obs ob _ X;have g:=hev x;have I:=jfi hS hel (hev y);obtain⟨_,hte,_,hokE,J,hka,hks,hpos⟩:=zg hC hsl;obtain⟨_,_,_,_,_,N,_⟩:=wK hokE;rw[hte] at N;have hn2:=I.1;have K:match p with
  |none=>ev x= .slice none 0 0/\n=0
  |some (b,Cp)=>∃a M,ev x= .slice (some a) n M/\(0<n->a=⟨b,lo*te.ty.size,none⟩):=by
  unfold jzR at s
  split at s
  .rename_i o' u hx;rw[hx] at g
   split at s
   .rename_i E' t' fz' nl' l2 W;simp at s;obtain⟨rfl,rfl,rfl⟩:=s;rw[X] at W;simp at W;obtain⟨_,rfl,_,_,V⟩:=W;have V:=eq_of_heq V;subst V;simp only[SV.den] at g;have g:=g p hp;cases p with
    |none=>
     obtain⟨A,D⟩:=g;exact⟨A,by rw[<-k1];exact D⟩
    |some q=>
     obtain⟨b,Cp⟩:=q;obtain⟨A,D⟩:=g;rw[k1] at A;exact⟨_,_,A,fun _=>by simp⟩
   .cases s
  .rename_i o' u lo2 n2 hx;simp at s;obtain⟨rfl,rfl,rfl⟩:=s;rw[hx] at g het;have hu:u=te.ty:=vi het;subst hu;simp only[SV.den] at g;have g:=g p hp;cases p with
   |none=>exact g
   |some q=>
    obtain⟨b,Cp⟩:=q;obtain⟨a,M,A,D,e3,e4,e5⟩:=g;exact⟨a,M,A,fun h0=>e5 (.inr (by omega))⟩
  .cases s
 have hkk:(f.take n).length<=f.length:=(by rw[jEp];omega);obtain⟨cs,c1,c2,c3,c4⟩:=jvq (P:=P) (k:=(f.take n).length) (size:=te.size) I hkk hks.symm;have F:Nat.min f.length n=(f.take n).length:=by
  rw[jEp];exact Nat.min_comm _ _
 have r:∀w,(Builtin.lenOf (ev y)).run P w= .ok f.length w:=by
  intro w;obtain⟨_,⟨A,D⟩|⟨ad,c,us,A,_⟩⟩:=I
  .rw[A,D];simp[Builtin.lenOf]
  .rw[A];simp[Builtin.lenOf]
 have H:∀(w':World) (row:List te.ty.Data),row=l->({σ with ob:=(ob,some (.row E te.ty false nl row))::(wY σ []++σ.ob)}:St).obj=σ.obj:=by
  intro w' row hr;subst hr;simp only[wY,jEj];rw[kG];exact funext fun k=>by
   unfold jfH
   split
   .rename_i hk;rw[hk];exact X.symm
   .rfl
 cases p with
 |none=>
  obtain⟨A,D⟩:=K;subst D;have S:cs=[]:=jEy (by rw[c2];simp);subst S;refine jV (v:= .int .i64 ((f.take 0).length:Int)) (w':=w) ?_ ⟨ρ,?_,Env.le.refl _ _,?_,trivial⟩
  .simp only[execOp,Y,Sem.run_bind,resolve,hc,i,z,Sem.run_pure,Result.andThen_ok,invoke,builtin];have hm0:Nat.min f.length 0=0:=Nat.min_zero _;simp only[List.take_zero,jEF] at c1;simp[Builtin.copy_,A,run_underlying J,r,N,hm0,c1,goInt]
  .show Sat P B ρ ({σ with ob:=(ob,_)::(wY σ []++σ.ob)}:St).obj _;rw[H w _ (by simp[ju3])];exact hS
  .simp only[SV.den];exact wl _
 |some q=>
  obtain⟨b,Cp⟩:=q;obtain⟨a,M,A,D⟩:=K;obtain⟨k3,vs,hw,hvs,hlC,hCm,hr,hH⟩:=k2;simp only[fzH] at hH;obtain⟨m,Z⟩:∃m,m=(f.take n).length:=⟨_,rfl⟩;have hmn:m<=n:=(by rw[Z,jEp];omega);rw[<-Z] at c1 c2 c4 F;rcases jE1 m with h0|h0
  .have S:cs=[]:=jEy (by rw[c2,h0];simp);subst S;refine jV (v:= .int .i64 ((f.take n).length:Int)) (w':=w) ?_ ⟨ρ,?_,Env.le.refl _ _,?_,trivial⟩
   .simp only[execOp,Y,Sem.run_bind,resolve,hc,i,z,Sem.run_pure,Result.andThen_ok,invoke,builtin];simp[Builtin.copy_,A,run_underlying J,r,N,F,c1,goInt,storeCells,<-Z]
   .show Sat P B ρ ({σ with ob:=(ob,_)::(wY σ []++σ.ob)}:St).obj _;rw[H w _ (by
     have:f.take n=[]:=jEy (by omega);simp[ju3,this])]
    exact hS
   .simp only[SV.den];exact wl _
  .have D:=D (by omega);subst D;have hmul:(lo+m)*te.ty.size<=Cp*te.ty.size:=jD9 _ (by omega);rw[jEB] at hmul;have O:=run_storeCells_at P b (lo*te.ty.size) E cs 0 vs w hw (by rw[c2,hvs];omega) c3;simp only[jE3,c2] at O;obtain⟨f1,f2⟩:=qt w hw (vs.toList.take (lo*te.ty.size)++cs++vs.toList.drop (lo*te.ty.size+m*te.ty.size)).toArray;refine jV (v:= .int .i64 ((f.take n).length:Int)) (w':=w.setRow b (vs.toList.take (lo*te.ty.size)++cs++vs.toList.drop (lo*te.ty.size+m*te.ty.size)).toArray) ?_ ⟨ρ,?_,Env.le.refl _ _,?_,trivial⟩
   .simp only[execOp,Y,Sem.run_bind,resolve,hc,i,z,Sem.run_pure,Result.andThen_ok,invoke,builtin];simp[Builtin.copy_,A,run_underlying J,r,N,F,c1,goInt,O,<-Z]
   .show Sat P B ρ ({σ with ob:=(ob,_)::(wY σ []++σ.ob)}:St).obj _;simp only[wY,jEj];rw[kG];refine jbe hS hp hH _ f1 ?_;have G:(ju3 l lo n f).length=l.length:=jr3 l lo n f hlen;have T:(vs.toList.take (lo*te.ty.size)).length=lo*te.ty.size:=(by simp;omega);refine⟨by rw[G];exact k1,by rw[G];exact k0,fun L hn=> ?_,_,f2,?_,by rw[G];exact hlC,hCm,?_,by simpa[fzH] using hH⟩
    .rw[hn] at G;simp at G;omega
    .simp only[List.size_toArray,jEd,T,c2,jFb,jEk];omega
    .intro k y L;have htl:(l.take lo).length=lo:=(by simp;omega);simp only[jE0,jEb];unfold ju3 at L;rw[<-Z,jEb] at L;by_cases hk:k<lo
     .rw[jD4 (by omega),jEe hk] at L;refine te.ty.rd_congr _ _ _ (fun j hj=> ?_) (hr k y L);have:(k+1)*te.ty.size<=lo*te.ty.size:=jD9 _ hk;rw[jEz] at this;rw[jD4 (by omega),jEe (by omega)];simp
     .obtain⟨d,rfl⟩:∃d,k=lo+d:=⟨k-lo,by omega⟩;rw[jD3 (by omega),htl,Nat.add_sub_cancel_left] at L;by_cases hd:d<m
      .rw[jD4 (by omega),jEe (by omega)] at L;refine te.ty.rd_congr _ _ _ (fun j hj=> ?_) (c4 d y hd L);have h1:(d+1)*te.ty.size<=m*te.ty.size:=jD9 _ hd;rw[jEz] at h1;rw[jEB,jD3 (by omega),T,jD4 (by omega)];congr 1;omega
      .rw[jD3 (by omega),<-Z,jEu] at L;have hke:lo+m+(d-m)=lo+d:=(by omega);rw[hke] at L;refine te.ty.rd_congr _ _ _ (fun j hj=> ?_) (hr (lo+d) y L);have h1:m*te.ty.size<=d*te.ty.size:=jD9 _ (by omega);rw[jEB,jD3 (by omega),T,jD3 (by omega),c2,jEu,jEA];congr 1;omega
   .simp only[SV.den];exact wl _
end
end Go.X
namespace Go.X
open Go.RowKit (Below)
section
variable {P:Program} {B:zu} {C:Ctx} {σ:St} {ρ:Env} {w:World} {o:Oper} {ev:Operand->Value} {out:Out}
def jDq (P:Program) (ρ:Env) (fz:List Nat) (b:(ps rs:List Ty)->SV->Option (FnD ps rs×List Nat)):Prop:=
 ∀(ps rs:List Ty) (sv:SV) (d:FnD ps rs) (a:List Nat),b ps rs sv=some (d,a)->(∀o,o∈a->o∈fz)->∀v,SV.den P ρ sv v->FnV P ρ.H ps rs d.pre d.F v
theorem jjY {τ:St} (z:Sat P B ρ τ.obj w) {fz:List Nat} (t:Frz σ τ fz) {n:(ps rs:List Ty)->SV->Option (FnD ps rs×List Nat)} (E:jDq P ρ fz n) {ps rs:List Ty} {sv:SV} {d:FnD ps rs} {g:List Nat} (h:jzc n σ ps rs sv=some (d,g))
 (m:∀o,o∈g->o∈fz) {v:Value} (k:SV.den P ρ sv v):jAO P ρ.H (.rfn ps rs) v d:=by
 unfold jzc at h
 split at h
 .split at h
  .rename_i e;obtain⟨q,s⟩:=e;subst q s;simp at h;obtain⟨rfl,rfl⟩:=h;simpa[SV.den,jAO] using k
  .cases h
 .rename_i o
  split at h
  .rename_i T f c F
   split at h
   .rename_i x J A;simp at h;obtain⟨rfl,rfl⟩:=h;have l:τ.obj o=some (.box T true [c]):=(by rw[(t o).2 (m o (by simp)),F];rfl);obtain⟨p,D,b,C',vs,rfl,K,i,_,y⟩:=z.obs o _ l;simp only[SV.den] at k;obtain⟨I,G,e,rfl⟩:=k _ D;simp at e;obtain⟨rfl,rfl⟩:=e;simp only[SV.denL] at i;obtain⟨u,r,a,j,rfl⟩:=i;have a:vs= #[u]:=jEc.1 (by simpa using a);subst a;exact⟨b,u,rfl,by simpa[fzH] using y,E _ _ _ _ _ A (fun o C=>m o (jD1 _ C)) _ j⟩
   .cases h
  .cases h
 .cases h
theorem gF {τ:St} (g:Sat P B ρ τ.obj w) {fz:List Nat} (e:Frz σ τ fz) {p:(ps rs:List Ty)->SV->Option (FnD ps rs×List Nat)} (m:jDq P ρ fz p):
 ∀{ps:List Par} {svs:List SV} {d:PD ps} {a:List Nat},jd4 p σ ps svs=some (d,a)->(∀o,o∈a->o∈fz)->∀{vs:List Value},SV.denL P ρ svs vs->pvs P ρ.H ps vs d
 |[],[],d,a,h,_,vs,b=>by simpa[SV.denL,pvs] using b
 |[],_::_,d,a,h,_,vs,b=>by simp[jd4] at h
 | .val _::_,[],d,a,h,_,vs,b=>by simp[jd4] at h
 | .ref _::_,[],d,a,h,_,vs,b=>by simp[jd4] at h
 | .fn _ _::_,[],d,a,h,_,vs,b=>by simp[jd4] at h
 | .fn _ _::_,_::_,d,a,h,_,vs,b=>by simp[jd4] at h
 | .rfn _ _::_,[],d,a,h,_,vs,b=>by simp[jd4] at h
 | .val t::ps,sv::svs,d,a,h,hs,vs,b=>by
  simp only[jd4] at h
  split at h
  .rename_i x f l
   split at h
   .rename_i xs n k
    simp at h
    obtain⟨rfl,rfl⟩:=h
    simp only[SV.denL] at b
    obtain⟨v,r,rfl,i,j⟩:=b
    exact⟨jF g e l (fun o c=>hs o (jDS _ c)) i,gF g e m k (fun o c=>hs o (jDR _ c)) j⟩
   .cases h
  .cases h
 | .ref t::ps,sv::svs,d,a,h,hs,vs,b=>by
  simp only[jd4] at h
  split at h
  .rename_i x f l
   split at h
   .rename_i xs n k
    simp at h
    obtain⟨rfl,rfl⟩:=h
    simp only[SV.denL] at b
    obtain⟨v,r,rfl,i,j⟩:=b
    exact⟨gM g e l (fun o c=>hs o (jDS _ c)) i,gF g e m k (fun o c=>hs o (jDR _ c)) j⟩
   .cases h
  .cases h
 | .rfn aZ rs::ps,sv::svs,d,a,h,hs,vs,b=>by
  simp only[jd4] at h
  split at h
  .rename_i x f l
   split at h
   .rename_i xs n k
    simp at h
    obtain⟨rfl,rfl⟩:=h
    simp only[SV.denL] at b
    obtain⟨v,r,rfl,i,j⟩:=b
    exact⟨jjY g e m l (fun o c=>hs o (jDS _ c)) i,gF g e m k (fun o c=>hs o (jDR _ c)) j⟩
   .cases h
  .cases h
theorem jc7 (o:C.ok P) {τ:St} (q:Sat P B ρ τ.obj w) {fz:List Nat} (p:Frz σ τ fz):∀n,jDq P ρ fz (jn3 C σ n)
 |0=>fun ps rs sv d j h=>by simp[jn3] at h
 |n+1=>by
  intro ps rs sv d j h D v m
  unfold jn3 at h
  split at h
  .rename_i G H pre F
   split at h
   .rename_i e
    obtain⟨g,i⟩:=e
    subst g i
    simp at h
    obtain⟨rfl,rfl⟩:=h
    simpa[SV.den] using m
   .cases h
  .rename_i f caps
   split at h
   .rename_i s l
    split at h
    .rename_i e
     obtain⟨g,i⟩:=e
     subst g
     split at h
     .rename_i rest k hk
      split at h
      .rename_i y r E
       simp at h
       obtain⟨rfl,rfl⟩:=h
       simp only[SV.den] at m
       obtain⟨vs,rfl,z⟩:=m
       have b:=o.fs f s l i
       refine⟨f,vs,rfl,b.enters,fun H' w' vals x u t a c=> ?_⟩
       have A:=gF q p (jc7 o q p n) E D z
       have:=b.calls H' w' (vals++vs.toList) (k x y) t (jcG hk a (pvs.mono u A)) c
       rwa [show(vals++vs.toList).toArray=vals.toArray++vs from by apply jEc.1;simp] at this
      .cases h
     .cases h
    .cases h
   .cases h
  .cases h
theorem jlk (b:C.ok P) {τ:St} (e:Sat P B ρ τ.obj w) {fz:List Nat} (c:Frz σ τ fz) {ps rs:List Ty} {sv:SV} {d:FnD ps rs} {a:List Nat} (h:jAt C σ ps rs sv=some (d,a)) (f:∀o,o∈a->o∈fz)
 {v:Value} (g:SV.den P ρ sv v):FnV P ρ.H ps rs d.pre d.F v:=jc7 b e c 4 ps rs sv d a h f v g
theorem kW (m:C.ok P) {τ:St} (g:Sat P B ρ τ.obj w) {fz:List Nat} (e:Frz σ τ fz):
 ∀{ps:List Par} {svs:List SV} {d:PD ps} {a:List Nat},kr C σ ps svs=some (d,a)->(∀o,o∈a->o∈fz)->∀{vs:List Value},SV.denL P ρ svs vs->pvs P ρ.H ps vs d
 |[],[],d,a,h,_,vs,b=>by simpa[SV.denL,pvs] using b
 |[],_::_,d,a,h,_,vs,b=>by simp[kr] at h
 | .val _::_,[],d,a,h,_,vs,b=>by simp[kr] at h
 | .ref _::_,[],d,a,h,_,vs,b=>by simp[kr] at h
 | .fn _ _::_,[],d,a,h,_,vs,b=>by simp[kr] at h
 | .rfn _ _::_,[],d,a,h,_,vs,b=>by simp[kr] at h
 | .val t::ps,sv::svs,d,a,h,hs,vs,b=>by
  simp only[kr] at h
  split at h
  .rename_i x f l
   split at h
   .rename_i xs n k
    simp at h
    obtain⟨rfl,rfl⟩:=h
    simp only[SV.denL] at b
    obtain⟨v,r,rfl,i,j⟩:=b
    exact⟨jF g e l (fun o c=>hs o (jDS _ c)) i,kW m g e k (fun o c=>hs o (jDR _ c)) j⟩
   .cases h
  .cases h
 | .ref t::ps,sv::svs,d,a,h,hs,vs,b=>by
  simp only[kr] at h
  split at h
  .rename_i x f l
   split at h
   .rename_i xs n k
    simp at h
    obtain⟨rfl,rfl⟩:=h
    simp only[SV.denL] at b
    obtain⟨v,r,rfl,i,j⟩:=b
    exact⟨gM g e l (fun o c=>hs o (jDS _ c)) i,kW m g e k (fun o c=>hs o (jDR _ c)) j⟩
   .cases h
  .cases h
 | .fn aZ rs::ps,sv::svs,d,a,h,hs,vs,b=>by
  simp only[kr] at h
  split at h
  .rename_i x f l
   split at h
   .rename_i xs n k
    simp at h
    obtain⟨rfl,rfl⟩:=h
    simp only[SV.denL] at b
    obtain⟨v,r,rfl,i,j⟩:=b
    exact⟨jlk m g e l (fun o c=>hs o (jDS _ c)) i,kW m g e k (fun o c=>hs o (jDR _ c)) j⟩
   .cases h
  .cases h
 | .rfn aZ rs::ps,sv::svs,d,a,h,hs,vs,b=>by
  simp only[kr] at h
  split at h
  .rename_i x f l
   split at h
   .rename_i xs n k
    simp at h
    obtain⟨rfl,rfl⟩:=h
    simp only[SV.denL] at b
    obtain⟨v,r,rfl,i,j⟩:=b
    exact⟨jjY g e (jc7 m g e 4) l (fun o c=>hs o (jDS _ c)) i,kW m g e k (fun o c=>hs o (jDR _ c)) j⟩
   .cases h
  .cases h
theorem jmD {obj:Nat->Option Ob} (a:Sat P B ρ obj w) (g:∀o b l,ρ.blk o=some (some (b,l))->b<w.heap.size) {H':Imm} {w':World} (c:jAj ρ.H w H' w'):
 Sat P B {ρ with H:=H'} obj w'/\ρ.le {ρ with H:=H'} []:=by
 have e:ρ.le {ρ with H:=H'} []:=⟨c.mono a.good,fun _ _ _ h=>h,fun _ _=>rfl⟩;refine⟨⟨c.below.os.trans a.os,c.below.tape.trans a.tape,c.below.output.trans a.output,jD7 a.drawn c.drawn,jD7 a.size c.below.size,c.good,?_,?_,?_,a.dead,a.inj,a.own⟩,e⟩
 .intro b f d;have:=a.size;show H' b=_;rw[c.old b (by omega)];exact a.oldH b f d
 .intro b f d;have:=a.size;rw[c.below.block b (by omega)];exact a.old b f d
 .intro o x n;obtain⟨p,k,m⟩:=a.obs o x n;refine⟨p,k,jG e (by simp) (fun _ _ _ _ o' i=>by simp at i) (fun b C' j=> ?_) m⟩;subst j;have:=g o b C' k;exact⟨c.old b this,c.below.block b this⟩
theorem jwb {H:Imm} {t:Ty} (c:t.agg=false) {v:Value} {d:t.Data} (h:t.rv H v d):v.oneCell'=true:=by
 have b:0<t.size:=by cases t<;>simp_all [Ty.agg,Ty.size]
 obtain⟨u,e,a⟩:=vB t _ d (jW c h) 0 b;simp at e;subst e;exact a
theorem jvH {obj:Nat->Option Ob} (f:Sat P B ρ obj w) (y:∀o b q,ρ.blk o=some (some (b,q))->b<w.heap.size) {o b q T:Nat} {cs:List SV} (K:obj o=some (.box T false cs)) (r:ρ.blk o=some (some (b,q)))
 {H':Imm} {w':World} {u:Value} {sv:SV} (g:jBK [b] ρ.H w H' w') (F:H' b=none) (J:w'.heap[b]? =some (.cells #[u] T (0,0))) (G:SV.den P {ρ with H:=H'} sv u) (E:u.oneCell'=true):
 Sat P B {ρ with H:=H'} (jfH obj o (some (.box T false [sv]))) w'/\ρ.le {ρ with H:=H'} []:=by
 have v:ρ.H b=none:=by
  obtain⟨p,l,M,L,vs,e,_,_,_,k⟩:=f.obs o _ K;rw[r] at l;simp at l;subst l;simp at e;obtain⟨rfl,rfl⟩:=e;exact k
 have n:ρ.le {ρ with H:=H'} []:=⟨fun a c s=>by
  have t:=f.good.lt s;show H' a=_;rw[g.old a t (by intro i;simp at i;subst i;rw[v] at s;cases s)];exact s,fun _ _ _ h=>h,fun _ _=>rfl⟩
 have out:∀a,a<B.w.heap.size->a∉B.bor->a∉[b]:=by
  intro a m j i;simp at i;subst i;rcases f.own o _ _ r with h|h
  .omega
  .exact j h
 refine⟨⟨g.os.trans f.os,g.tape.trans f.tape,g.output.trans f.output,jD7 f.drawn g.drawn,jD7 f.size g.size,g.good,?_,?_,?_,?_,f.inj,f.own⟩,n⟩
 .intro a m j;have:=f.size;show H' a=_;rw[g.old a (by omega) (out a m j)];exact f.oldH a m j
 .intro a m j;have:=f.size;rw[g.block a (by omega) (out a m j)];exact f.old a m j
 .intro o' x d;unfold jfH at d
  split at d
  .rename_i e;subst e;simp at d;subst d;refine⟨_,r,b,q,#[u],rfl,J,?_,by simpa using E,F⟩;simp only[SV.denL];exact⟨u,[],rfl,G,rfl⟩
  .rename_i z;obtain⟨p,l,I⟩:=f.obs o' x d;refine⟨p,l,jG n (by simp) (fun _ _ _ _ o2 A=>by simp at A) (fun a C' C=> ?_) I⟩;subst C;have t:=y o' a C' l;have D:a∉[b]:=by
    intro i;simp at i;subst i;exact z (f.inj o' o _ _ _ l r)
   exact⟨g.old a t D,g.block a t D⟩
 .intro o' d;unfold jfH at d
  split at d
  .cases d
  .exact f.dead o' d
theorem gS {H:Imm} (a:ρ.H=H):∀(rs:List Ty) (vs:List Value) (d:(Ty.st rs).Data),rvs H rs vs d->SV.denL P ρ (results rs d) vs
 |[],vs,d,h=>by simpa[results,SV.denL,rvs] using h
 |t::ts,[],d,h=>h.elim
 |t::ts,v::vs,d,h=>by
  simp only[results,SV.denL]
  exact⟨v,vs,rfl,by simp only[SV.den];rw[a];exact h.1,gS a ts vs d.2 h.2⟩
theorem jiW {H:Imm} (a:ρ.H=H):∀{rs:List Ty} {v:Value} {d:(Ty.st rs).Data},jBO H rs v d->SV.den P ρ (joA rs d) v
 |[t],v,d,h=>by
  simp only[joA,results,SV.den]
  rw[a];exact h
 |[],v,d,h=>by
  obtain⟨vs,rfl,h⟩:=h
  simp only[joA,results,SV.den]
  exact⟨vs,rfl,gS a [] _ d h⟩
 |t::u::ts,v,d,h=>by
  obtain⟨vs,rfl,h⟩:=h
  have:=gS (P:=P) a (t::u::ts) _ d h
  simp only[joA,results,SV.den] at this⊢
  exact⟨vs,rfl,this⟩
theorem jvI {obj:Nat->Option Ob} (a:Sat P B ρ obj w) {w':World} (d:Below w.heap.size w w') (h:w.drawn<=w'.drawn):Sat P B ρ obj w':=by
 have i:∀o x,obj o=some x->∀b m,ρ.blk o=some (some (b,m))->b<w.heap.size:=by
  intro o x g b m f;obtain⟨p,e,l⟩:=a.obs o x g;rw[f] at e;simp at e;subst e;exact jh4 l
 refine⟨d.os.trans a.os,d.tape.trans a.tape,d.output.trans a.output,jD7 a.drawn h,jD7 a.size d.size,?_,a.oldH,?_,?_,a.dead,a.inj,a.own⟩
 .refine⟨fun b c n=> ?_,a.good.2⟩;rw[d.block b (a.good.lt n)];exact a.good.1 b c n
 .intro b q r;have:=a.size;rw[d.block b (by omega)];exact a.old b q r
 .intro o x g;obtain⟨p,f,l⟩:=a.obs o x g;refine⟨p,f,jG (Env.le.refl ρ []) (by simp) (fun _ _ _ _ o' j=>by simp at j) (fun b C' k=>⟨rfl,?_⟩) l⟩;subst k;exact d.block b (i o x g b C' f)
theorem jnl {H H':Imm}:∀(t:Ty) (f:Nat->Option Value) (d:t.Data),jpA t=true->t.rd H f d->t.rd H' f d
 | .int,_,_,_,h=>h
 | .bool,_,_,_,h=>h
 | .uint _,_,_,_,h=>h
 | .unit,_,_,_,_=>trivial
 | .slice _,_,_,c,_=>by cases c
 | .map _ _,_,_,c,_=>by cases c
 | .ptr _,_,_,c,_=>by cases c
 | .pair a b,f,d,c,h=>by
  simp only[jpA] at c
  split at c
  .rename_i e;exact⟨jnl a _ _ e h.1,jnl b _ _ c h.2⟩
  .cases c
theorem js1 {H H':Imm}:∀(rs:List Ty) (vs:List Value) (d:(Ty.st rs).Data),juq rs=true->rvs H rs vs d->rvs H' rs vs d
 |[],vs,d,_,h=>h
 |t::ts,[],d,_,h=>h.elim
 |t::ts,v::vs,d,hf,h=>by
  simp only[juq] at hf
  split at hf
  .rename_i a;exact⟨⟨h.1.1,h.1.2.1,jnl t _ _ a h.1.2.2⟩,js1 ts vs d.2 hf h.2⟩
  .cases hf
theorem jxb {H H':Imm}:∀{rs:List Ty} {v:Value} {d:(Ty.st rs).Data},juq rs=true->jBO H rs v d->jBO H' rs v d
 |[t],v,d,a,h=>by
  simp only[juq] at a
  split at a
  .rename_i b;exact⟨h.1,h.2.1,jnl t _ _ b h.2.2⟩
  .cases a
 |[],v,d,a,h=>h
 |t::u::ts,v,d,a,h=>by
  obtain⟨vs,e,h⟩:=h
  exact⟨vs,e,js1 (t::u::ts) _ d a h⟩
theorem jkj (l:Sat P B ρ σ.obj w) (fz:List Nat) {rs:List Ty} {r:(Ty.st rs).Data} {vc:List Prop} {k:FuncId} {args:Array Value}
 (h:∀d,Sat P B d (σ.frz fz).obj w->ρ.le d []->Calls P k args w (jAi d.H w rs r)):
 Calls P k args w (fun e w'=>∃v,e= .returned v/\jv P B ρ σ ⟨vc,[],joA rs r,jCY rs fz,[],[]⟩ v w'):=by
 unfold jCY;obtain⟨ρ1,c,a,_,_⟩:=jK fz l;refine(h ρ1 c a).mono fun e w' p=> ?_
 obtain⟨v,H',rfl,g,m⟩:=p
 split
 .rename_i j;refine⟨v,rfl,ρ,?_,Env.le.refl _ _,jiW rfl (jxb j m),trivial⟩;exact jvI l g.below g.drawn
 obtain⟨i,f⟩:=jmD c (fun o b q n=>(qZ (σ:=σ.frz fz) c n).1) g;refine⟨v,rfl,_,?_,a.trans f,jiW rfl m,trivial⟩;show Sat P B _ (σ.frz fz).obj w';exact i
theorem jxv {dst:Nat} {c:Call} {f:Operand} (hC:C.ok P) (hop:o.op= .call c) (hc:c.callee= .value f) (h:jl1 C σ dst (jE σ f) (c.args.toList.map (jE σ))=some out) (hS:Sat P B ρ σ.obj w)
 (Q:∀x,SV.den P ρ (jE σ x) (ev x)) (A:kk out.vc) (hd:σ.obj dst=none) (hn:z6 σ.obj dst):jw P o ev w (jv P B ρ σ out):=by
 have i:=yi (P:=P) (ρ:=ρ) (σ:=σ) Q c.args.toList;have g:=Q f;have l:∀(k:Nat) (caps:Array Value),ev f= .func (.func k) #[] caps->enters P k->(execOp ev o).run P w= .ok (.enter k (c.args.map ev++caps)) w:=by
  intro k caps e j;simp only[execOp,hop,Sem.run_bind,resolve,hc,Deferred.ofValue,e,Sem.run_pure,Result.andThen_ok,invoke];rw[<-j (c.args.map ev++caps) w];simp
 unfold jl1 at h
 split at h
 .rename_i k caps R;rw[R] at g;simp only[SV.den] at g;obtain⟨vs,D,M⟩:=g;have E:=kV _ _ _ _ i M
  split at h
  .rename_i s hs
   split at h
   .rename_i d fz Z
    split at h
    .rename_i W;simp at h;subst h;have S:=hC.fs k s hs W;unfold jw;rw[l k vs D S.enters];simp only;refine jkj hS fz fun y q z=> ?_
     have a:SV.denL P y (c.args.toList.map (jE σ)++caps) (c.args.toList.map ev++vs.toList):=SV.denL_mono z _ _ (fun o n=>by simp at n) E;have:=S.calls y.H w _ d q.good (kW hC q (wo σ fz) Z (fun o n=>n) a) A
     rwa [show(c.args.toList.map ev++vs.toList).toArray=c.args.map ev++vs from by apply jEc.1;simp] at this
    .cases h
   .cases h
  .rename_i hs;obtain⟨j,L⟩:=hC.eff k dst σ _ out h;unfold jw;rw[l k vs D j];simp only;have:=L B ρ w _ hS E A hd hn
   rwa [show(c.args.toList.map ev++vs.toList).toArray=c.args.map ev++vs from by apply jEc.1;simp] at this
 .rename_i ps rs pre F R;rw[R] at g;simp only[SV.den] at g
  split at h
  .rename_i d fz Z;simp at h;subst h;obtain⟨k,caps,D,j,hk⟩:=g;unfold jw;rw[l k caps D j];simp only;refine jkj hS fz fun y q z=> ?_
   have a:SV.denL P y (c.args.toList.map (jE σ)) (c.args.toList.map ev):=SV.denL_mono z _ _ (fun o n=>by simp at n) i;have:=hk y.H w _ d z.H q.good (gE q (wo σ fz) Z (fun o n=>n) a) A
   rwa [show(c.args.toList.map ev).toArray++caps=c.args.map ev++caps from by apply jEc.1;simp] at this
  .cases h
 .rename_i ob T st ps rs pre K R;rw[R] at g;simp only[SV.den] at g
  split at h
  .rename_i d fz T' sc Z hx
   split at h
   .rename_i s hT hm hst hs;simp at h;subst h;have:=jDQ hT;subst this;obtain⟨ρ1,m,t,J,_⟩:=jK fz hS;have Y:(σ.frz fz).obj ob=some (.box T false [sc]):=(by rw[zX,if_neg (wB hm)];exact hx);obtain⟨p,hp,b,Cp,vs,rfl,hw,O,h1,I⟩:=m.obs ob _ Y;have I:ρ1.H b=none:=I;simp only[SV.denL] at O;obtain⟨u,r,G,hdu,rfl⟩:=O;have G:vs= #[u]:=jEc.1 (by simpa using G);subst G;obtain⟨b2,C2,e2,u2,hF,hv2⟩:=g _ (by rw[<-J];exact hp);simp at e2;obtain⟨rfl,rfl⟩:=e2;obtain⟨k,caps,D,j,hk⟩:=hF;have D:ev f= .func (.func k) #[] caps:=hv2.trans D;unfold jw;rw[l k caps D j];simp only;have a:SV.denL P ρ1 (c.args.toList.map (jE σ)) (c.args.toList.map ev):=SV.denL_mono t _ _ (fun o n=>by simp at n) i;have hsu:=jF m (wo σ fz) hs (fun o n=>by simp at n) hdu;have N:=hk ρ1.H w _ d s u t.H m.good I hw hsu (gE m (wo σ fz) Z (fun o n=>n) a) A;rw[show(c.args.toList.map ev).toArray++caps=c.args.map ev++caps from by apply jEc.1;simp] at N;refine N.mono fun e w' he=> ?_
    obtain⟨v,H',u',rfl,hE,hH',hw',X,hr⟩:=he;obtain⟨hS2,V⟩:=jvH m (fun o b Cp hb=>(qZ (σ:=σ.frz fz) m hb).1) Y hp hE hH' hw' (sv:= .dat st (K d s).2) (by simp only[SV.den];exact X) (jwb hst X);refine⟨v,rfl,{ρ1 with H:=H'},?_,t.trans V,jiW rfl hr,trivial⟩;show Sat P B _ ({(σ.frz fz) with ob:=(ob,some (.box T false [.dat st (K d s).2]))::(σ.frz fz).ob}:St).obj w';rw[kG];exact hS2
   .cases h
  .cases h
 .cases h
theorem jCf (a b:Int):(if b<a then b else a)=min a b:=by rw[Int.min_def];split<;>split<;>omega
theorem jCj (a b:Int):(if b>a then b else a)=max a b:=by rw[Int.max_def];split<;>split<;>omega
theorem jfe:∀(l:List SV) (vs:List Value) (a m:Int),jjW l a=some m->SV.denL P ρ l vs->(vs.foldlM Builtin.min2 (.int .i64 a)).run P w= .ok (.int .i64 m) w
 |[],vs,a,m,h,c=>by
  simp[jjW] at h;simp[SV.denL] at c;subst h c;simp
 |x::l,vs,a,m,h,c=>by
  unfold jjW at h
  split at h
  .rename_i e;cases e
  .rename_i a _ _ b r d
   cases d
   simp only[SV.denL] at c
   obtain⟨v,j,rfl,f,g⟩:=c
   have i:=zc (by simpa[SV.den] using f)
   subst i
   have:=jfe l j (min a b) m h g
   rw[List.foldlM_cons]
   simp only[Builtin.min2,Sem.run_bind,Sem.run_pure,Result.andThen_ok]
   have e:=jCf a b
   exact Eq.trans (by rw[<-e]) this
  .cases h
theorem jff:∀(l:List SV) (vs:List Value) (a m:Int),jjX l a=some m->SV.denL P ρ l vs->(vs.foldlM Builtin.max2 (.int .i64 a)).run P w= .ok (.int .i64 m) w
 |[],vs,a,m,h,c=>by
  simp[jjX] at h;simp[SV.denL] at c;subst h c;simp
 |x::l,vs,a,m,h,c=>by
  unfold jjX at h
  split at h
  .rename_i e;cases e
  .rename_i a _ _ b r d
   cases d
   simp only[SV.denL] at c
   obtain⟨v,j,rfl,f,g⟩:=c
   have i:=zc (by simpa[SV.den] using f)
   subst i
   have:=jff l j (max a b) m h g
   rw[List.foldlM_cons]
   simp only[Builtin.max2,Sem.run_bind,Sem.run_pure,Result.andThen_ok]
   have e:=jCj a b
   exact Eq.trans (by rw[<-e]) this
  .cases h
theorem jfl {T:Nat} {x:Operand} {ti:TI} (i:C.ok P) (b:o.op= .makeInterface T x) (c:C.info T=some ti) (j:Sat P B ρ σ.obj w):jw P o ev w (jv P B ρ σ (.pure .any)):=by
 obtain⟨rfl,a⟩:=i.ti _ _ c;have m:∃d,P.underlying ti.id=some d/\∀ms,d≠.interface ms:=by
  cases f:ti.agg with
  |true=>
   cases g:ti.arr with
   |false=>obtain⟨fs,e,_⟩:=a.str f g;exact⟨_,e,by simp⟩
   |true=>obtain⟨_,n,ie,e,_⟩:=a.arrk g;exact⟨_,e,by simp⟩
  |false=>obtain⟨d,e,_,_,h,_⟩:=a.flat f;exact⟨_,e,h⟩
 obtain⟨d,k,l⟩:=m;refine jg j (v:= .iface ti.id (ev x)) ?_ (kA _) trivial;simp only[execOp,b,Instr.makeInterface,Sem.run_bind,run_underlying k,Result.andThen_ok];cases d<;>simp_all
theorem jrX {U n:Nat} {a:Array (Nat×Operand)} (hC:C.ok P) (T:o.op= .buildSlice U n a) (h:jxM C σ U n a.toList=some out) (hS:Sat P B ρ σ.obj w)
 (Q:∀x,SV.den P ρ (jE σ x) (ev x)):jw P o ev w (jv P B ρ σ out):=by
 unfold jxM at h
 split at h
 case h_2=>cases h
 rename_i ti te W
 split at h
 case h_2=>cases h
 rename_i l fz hl
 split at h
 case h_2=>cases h
 rename_i r G;simp at h;subst h;have r:=jDQ r;subst r;have G:=jD5 G;obtain⟨_,X,_,g,m,hka,R,E⟩:=zg hC W;obtain⟨i,z,N,g1,g2,g3,g4,_⟩:=g.info;rw[X] at N;obtain⟨ρ1,d,f,hb1,hl1⟩:=jK fz hS;have u:∀x,SV.den P ρ1 (jE σ x) (ev x):=fun x=>SV.den_mono f _ _ (fun o S=>by simp at S) (Q x)
 obtain⟨vs,L,e2,M,e4⟩:=yB d (wo σ fz) u a.toList 0 l fz hl (fun o S=>S);have hzs:z.cells.size=te.size:=(by rw[<-g.zlen,<-g4];simp);have s:0<te.size:=E;have q:Instr.fill (fun i=>some (i*te.size,te.size)) ((Array.range (l.length*te.size)).map (z.cells[·%z.cells.size]!)) (a.map fun(i,x)=>(i,ev x)).toList=
  some (vs.flatMap fun v=>v.cells.toList).toArray:=by
  have:=Great.fill_whole s vs ((Array.range (l.length*te.size)).map (z.cells[·%z.cells.size]!)) (fun v Y=>by rw[M v Y,R]) (by simp[e2]);rw[<-this];congr 1;simpa using L
 have J:=jnm vs M;have F:(execOp ev o).run P w= .ok (.value (.slice (some ⟨w.heap.size,0,none⟩) l.length l.length)) (w.alloc (.cells (vs.flatMap fun v=>v.cells.toList).toArray ti.elem)):=by
  have:(Instr.buildSlice U l.length (a.map fun(i,x)=>(i,ev x))).run P w= .ok (.slice (some ⟨w.heap.size,0,none⟩) l.length l.length) (w.alloc (.cells (vs.flatMap fun v=>v.cells.toList).toArray ti.elem)):=by
   have p:i.size=te.size:=g1;by_cases Z:l.length=0
   .have I:vs=[]:=jEy (by omega);have V:a= #[]:=by
     subst I;simp at L;exact L
    subst V I;simp[Instr.buildSlice,run_underlying m,sizeOf,typeInfo,N,Z,newRow,Instr.fill,show Array.range 0= #[] from rfl]
   .exact run_buildSlice w U ti.elem l.length _ _ i z m N g3 (by rw[p];omega) (by rw[p];have:=Nat.mul_pos (Nat.pos_of_ne_zero Z) s;omega) (by rw[p];exact q)
  simp only[execOp,T,Sem.run_bind];rw[this];simp
 refine jV F ?_;have K:l.length<=16777216:=by
  have:l.length*1<=l.length*te.size:=jE7 _ s;omega
 have D:=heap_alloc_new w (.cells (vs.flatMap fun v=>v.cells.toList).toArray ti.elem);have t:=w.grownBy_alloc (.cells (vs.flatMap fun v=>v.cells.toList).toArray ti.elem) none;have hHn:ρ1.H w.heap.size=none:=by
  cases hc:ρ1.H w.heap.size with
  |none=>rfl
  |some c=>have:=d.good.lt hc;omega
 have hE:jAj ρ1.H w (fun b=>if b=w.heap.size then some (.cells (vs.flatMap fun v=>v.cells.toList).toArray) else ρ1.H b) (w.alloc (.cells (vs.flatMap fun v=>v.cells.toList).toArray ti.elem)):=by
  refine⟨⟨t.os,t.tape,t.output,t.size,fun k hk=>t.block k (by omega) (by simp)⟩,⟨fun b c e=> ?_,d.good.2.mono (fun b c e=>by
   have A:=d.good.lt e;show(if b=w.heap.size then _ else _)=_;rw[if_neg (by omega)];exact e)⟩,fun b e=>if_neg (by omega),jDW _⟩
  dsimp only at e
  by_cases he:b=w.heap.size
  .subst he;rw[if_pos rfl] at e;simp at e;subst e;exact⟨_,_,D⟩
  .rw[if_neg he] at e;have A:=d.good.lt e;have:=d.good.1 b c e;rw[t.block b A (by simp)];exact this
 obtain⟨O,y⟩:=jmD d (fun o b Cp e=>(qZ (σ:=σ.frz fz) d e).1) hE;refine⟨_,?_,f.trans y,?_,trivial⟩
 .show Sat P B _ (σ.frz fz).obj _;exact O
 .simp only[SV.den];refine⟨rfl,rfl,_,_,_,rfl,rfl,jDW _,by omega,by simp,fun _=>⟨_,0,_,rfl,if_pos rfl,fun k x hx=> ?_⟩⟩;have hi:k<vs.length:=(by have:=(jDU.1 hx).1;omega);have Y:=e4 k _ x (jDX hi) hx;refine te.ty.rd_mono (hE.mono d.good) _ _ (te.ty.rd_congr _ _ _ (fun j hj=> ?_) Y.2.2);have:=jjZ vs M k j _ (jDX hi) hj;simpa using this.symm
theorem juF {c:Call} (hC:C.ok P) (W:o.op= .call c) (hc:c.callee= .builtin .clear) (h:jBt C σ c.args.toList c.argTypes.toList=some out) (hS:Sat P B ρ σ.obj w)
 (hev:∀x,SV.den P ρ (jE σ x) (ev x)) (hvc:kk out.vc):jw P o ev w (jv P B ρ σ out):=by
 unfold jBt at h
 split at h
 case h_2=>cases h
 rename_i x U i s;have i:c.args= #[x]:=(by rw[<-jEc];exact i);have s:c.argTypes= #[U]:=by rw[<-jEc];exact s
 split at h
 case h_2=>cases h
 rename_i ti te ob u lo n g hx
 split at h
 case h_2=>cases h
 rename_i E t nl l T
 split at h
 case h_2=>cases h
 rename_i l' hl' X;simp at h;subst h;obtain⟨e,rfl⟩:=jh hl';have e':t=te.ty:=(by injection e);subst e';have X:u=te.ty:=by
  unfold qS at X
  split at X
  .assumption
  .cases X
 subst X;obtain⟨p,hp,k1,k0,k2⟩:=hS.obs ob _ T;have f:=hev x;rw[hx] at f;simp only[SV.den] at f;have f:=f p hp;have hlen:lo+n=l.length:=hvc.1;obtain⟨_,hte,_,r,I,hka,hks,hpos⟩:=zg hC g;obtain⟨_,z,_,_,_,_,hz,L,_⟩:=wK r;rw[hte] at hz;have Y:z.cells.size=te.ty.size:=(by rw[hks,<-r.zlen,<-L];simp);have J:wP e l=l:=rfl;rw[J];rcases jE1 n with h0|h0
 .subst h0;have D:∃a F,ev x= .slice a 0 F:=by
   cases p with
   |none=>obtain⟨e,_⟩:=f;exact⟨_,_,e⟩
   |some q=>obtain⟨b,Cp⟩:=q;obtain⟨a,F,e,_⟩:=f;exact⟨_,_,e⟩
  obtain⟨a,F,D⟩:=D;have hl:l.take lo++List.replicate 0 te.ty.dflt=l:=by
   rw[List.replicate_zero,jEm,jEL (by omega)]
  refine jV (v:= .tuple #[]) (w':=w) ?_ ⟨ρ,?_,Env.le.refl _ _,kA _,trivial⟩
  .simp only[execOp,W,Sem.run_bind,resolve,hc,i,s,Sem.run_pure,Result.andThen_ok,invoke,builtin];cases a<;>simp[Builtin.clear_,D,run_underlying I]
  .show Sat P B ρ ({σ with ob:=(ob,_)::(wY σ []++σ.ob)}:St).obj _;simp only[wY,jEj];rw[kG,hl];have:jfH σ.obj ob (some (.row E te.ty false nl l))=σ.obj:=funext fun k=>by
    unfold jfH
    split
    .rename_i hk;rw[hk];exact T.symm
    .rfl
   rw[this];exact hS
 .cases p with
  |none=>obtain⟨_,e⟩:=f;omega
  |some q=>
   obtain⟨b,Cp⟩:=q;obtain⟨a,F,hv,v2,v3,v4,v5⟩:=f;have v5:=v5 (.inr (by omega));subst v5;obtain⟨k3,vs,hw,hvs,hlC,Z,hr,hH⟩:=k2;simp only[fzH] at hH;have M:(Builtin.zeroCells z.cells n).toList.length=n*te.ty.size:=(by rw[jEk,qm,Y]);have S:(lo+n)*te.ty.size<=Cp*te.ty.size:=jD9 _ (by omega);rw[jEB] at S;have V:∀v∈(Builtin.zeroCells z.cells n).toList,v.oneCell'=true:=by
    intro v hv;obtain⟨m,N⟩:=List.mem_iff_getElem?.1 hv;rw[jEA,jaX] at N
    split at N
    .simp at N;have K:m%z.cells.size<z.cells.size:=Nat.mod_lt _ (by omega);rw[getElem!_pos z.cells _ K] at N;refine r.one v ?_;rw[<-L,<-N];simp
    .cases N
   have G:=run_storeCells_at P b (lo*te.ty.size) E (Builtin.zeroCells z.cells n).toList 0 vs w hw (by rw[M,hvs];omega) V;simp only[jE3,M] at G;obtain⟨f1,f2⟩:=qt w hw (vs.toList.take (lo*te.ty.size)++(Builtin.zeroCells z.cells n).toList++vs.toList.drop (lo*te.ty.size+n*te.ty.size)).toArray;refine jV (v:= .tuple #[]) (w':=w.setRow b (vs.toList.take (lo*te.ty.size)++(Builtin.zeroCells z.cells n).toList++vs.toList.drop (lo*te.ty.size+n*te.ty.size)).toArray) ?_ ⟨ρ,?_,Env.le.refl _ _,kA _,trivial⟩
   .simp only[execOp,W,Sem.run_bind,resolve,hc,i,s,Sem.run_pure,Result.andThen_ok,invoke,builtin];obtain⟨n',rfl⟩:∃n',n=n'+1:=⟨n-1,by omega⟩;simp[Builtin.clear_,hv,run_underlying I,hz,G]
   .show Sat P B ρ ({σ with ob:=(ob,_)::(wY σ []++σ.ob)}:St).obj _;simp only[wY,jEj];rw[kG];refine jbe hS hp hH _ f1 ?_;have A:(l.take lo++List.replicate n te.ty.dflt).length=l.length:=(by simp;omega);have Q:(vs.toList.take (lo*te.ty.size)).length=lo*te.ty.size:=(by simp;omega);refine⟨by rw[A];exact k1,by rw[A];exact k0,fun _ hn=> ?_,_,f2,?_,by rw[A];exact hlC,Z,?_,by simpa[fzH] using hH⟩
    .rw[hn] at A;simp at A;omega
    .simp only[List.size_toArray,jEd,Q,M,jFb,jEk];omega
    .intro k y O;by_cases hk:k<lo
     .rw[jD4 (by simp;omega),jEe hk] at O;refine te.ty.rd_congr _ _ _ (fun j hj=> ?_) (hr k y O);have:(k+1)*te.ty.size<=lo*te.ty.size:=jD9 _ hk;rw[jEz] at this;simp only[jE0,jEb];rw[jD4 (by omega),jEe (by omega)];simp
     .have K:k<(l.take lo++List.replicate n te.ty.dflt).length:=(jDU.1 O).1;rw[A] at K;have htl:(l.take lo).length=lo:=(by simp;omega);rw[jD3 (by omega),htl,List.getElem?_replicate,if_pos (by omega)] at O;simp at O;subst O;have hkn:zM te.ty=true:=by
       unfold Ctx.slice at g
       split at g
       .split at g
        .split at g
         .split at g
          .rename_i hk;simp at g;rw[<-g.2];exact hk
          .cases g
         .cases g
        .cases g
       .cases g
      refine te.ty.rd_congr _ _ _ (fun j hj=> ?_) (r.zd hkn ρ.H);obtain⟨d,rfl⟩:∃d,k=lo+d:=⟨k-lo,by omega⟩;have h1:(d+1)*te.ty.size<=n*te.ty.size:=jD9 _ (by omega);rw[jEz] at h1;simp only[jE0,jEb];rw[jEB,jD3 (by omega),Q,jD4 (by omega),jEA,jaX,Y,if_pos (by omega)];have R:(lo*te.ty.size+d*te.ty.size+j-lo*te.ty.size)%te.ty.size=j:=by
       rw[show lo*te.ty.size+d*te.ty.size+j-lo*te.ty.size=j+d*te.ty.size by omega,Nat.add_mul_mod_self_right,Nat.mod_eq_of_lt hj]
      rw[R,getElem!_pos z.cells j (by omega),<-L];rw[jEA,jEf (by omega)]
theorem jpE {dst:Nat} (k:C.ok P) (h:js C σ dst o.op=some out) (g:Sat P B ρ σ.obj w) (d:∀x,SV.den P ρ (jE σ x) (ev x)) (j:kk out.vc)
 (p:out.nw≠[]->σ.obj dst=none/\z6 σ.obj dst/\∀x cs,cells σ (jE σ x)=some cs->SV.refs.refsL dst cs=false) (u:∀c,o.op= .call c->c.callee≠.builtin .clear->σ.obj dst=none/\z6 σ.obj dst):jw P o ev w (jv P B ρ σ out):=by
 cases b:o.op with
 |move x=>rw[b] at h;simp[js] at h;subst h;exact jpH (.inl b) g (d x)
 |assign x=>rw[b] at h;simp[js] at h;subst h;exact jpH (.inr b) g (d x)
 |alloc E=>
  rw[b] at h;have q:out.nw≠[]:=by
   simp only[js] at h
   split at h
   .simp at h;subst h;simp
   .cases h
  exact juH k b h g (p q).1 (p q).2.1
 |box E x=>
  rw[b] at h;have q:out.nw≠[]:=by
   simp only[js] at h
   split at h
   .split at h
    .simp at h;subst h;simp
    .cases h
   .cases h
  exact jzm k b h g (d x) (p q).1 (p q).2.1 (fun cs=>(p q).2.2 x cs)
 |build U D=>rw[b] at h;exact juG k b h g d
 |buildSlice U n D=>
  rw[b] at h;have q:out.nw≠[]:=by
   simp only[js] at h
   split at h
   .split at h
    .split at h
     .simp at h;subst h;simp
     .cases h
    .cases h
   .cases h
  exact jj9 k b h g d (p q).1 (p q).2.1
 |load U a=>rw[b] at h;exact jxt k b h g (d a) j
 |store U a x=>rw[b] at h;exact jux k b h g (d a) (d x)
 |nilCheck x=>rw[b] at h;exact jns b h g (d x) j
 |fieldAddr U x f=>rw[b] at h;exact jk8 k b h g (d x) j
 |field U x f=>rw[b] at h;exact juD k b h g (d x)
 |indexAddr U x A=>rw[b] at h;exact jk7 k b h g (d x) (d A) j
 |binOp op U x y t=>rw[b] at h;simp only[js] at h;exact jzn k b h g (d x) (d y) j
 |index U x A=>rw[b] at h;exact juC k b h g (d x) (d A) j
 |unOp op T x=>rw[b] at h;exact jxr b h g (d x) j
 |convert V U x=>rw[b] at h;exact jpK k b h g (d x) j
 |makeFunc f fs cs=>rw[b] at h;exact jnt b h g d
 |slice U x lo hi O=>
  rw[b] at h;cases O with
  |none=>exact juy k b h g d j
  |some m=>
   cases lo with
   |some l=>simp[js] at h
   |none=>
    cases hi with
    |none=>simp[js] at h
    |some hi=>exact jrV k b h g d j
 |extract x i=>rw[b] at h;exact jpJ b h g (d x)
 |panic x=>rw[b] at h;simp[js] at h;subst h;exact juB j
 |makeMap U r=>
  rw[b] at h;cases r with
  |some r=>simp[js] at h
  |none=>
   have q:out.nw≠[]:=by
    simp only[js,k.lit] at h
    split at h
    .simp at h;subst h;simp
    .rename_i e _;cases e
    .cases h
   exact jpI k b h g (p q).1 (p q).2.1
 |lookup U x A ok=>rw[b] at h;exact jrW k b h g (d x) (d A)
 |mapUpdate U m A x=>rw[b] at h;exact jcP k (.inl b) h g (d m) (d A) (d x)
 |insert U m A x=>rw[b] at h;simp only[js,k.lit] at h;exact jcP k (.inr b) h g (d m) (d A) (d x)
 |makeSlice U l c=>
  rw[b] at h;have q:out.nw≠[]:=by
   simp only[js,jyR] at h
   split at h
   .simp at h;subst h;simp
   .cases h
  exact jk6 k b h g (p q).1 (p q).2.1 d j
 |entryStore U m st x=>rw[b] at h;exact jj8 k b h g (d m) (d st) (d x) j
 |range U x=>
  rw[b] at h;have q:out.nw≠[]:=by
   simp only[js] at h
   split at h
   .split at h
    .simp at h;subst h;simp
    .cases h
   .cases h
  exact juA k b h g (p q).1 (p q).2.1 (d x)
 |entry it=>rw[b] at h;exact juE b h g (d it)
 |makeInterface T x=>
  rw[b] at h;simp only[js] at h
  split at h
  .rename_i ti L;simp at h;subst h;exact jfl k b L g
  .cases h
 |call c=>
  rw[b] at h;simp only[js] at h
  split at h
  .rename_i f N;have z:=u c b (by rw[N];simp);exact jxv k b N h g d j z.1 z.2
  .rename_i s;exact jzk k b s h g d
  .rename_i s;have z:=u c b (by rw[s];simp);exact jrY k b s h g d j z.1 z.2
  .rename_i s;exact juF k b s h g d j
  .rename_i s;exact jxu k b s h g d j
  .rename_i s;exact jzl k b s h g d
  .rename_i s
   split at h
   .rename_i a r J
    split at h
    .rename_i m K;simp at h;subst h;have p:=yi (P:=P) (ρ:=ρ) (σ:=σ) d c.args.toList;rw[J] at p;simp only[SV.denL] at p;obtain⟨v,F,e,H,I⟩:=p;have M:=zc (by simpa[SV.den] using H);subst M;refine jg g (v:= .int .i64 m) ?_ (wl m) trivial;have G:(c.args.map ev).toList= .int .i64 a::F:=(by simpa using e);simp only[execOp,b,Sem.run_bind,resolve,s,Sem.run_pure,Result.andThen_ok,invoke,builtin,Builtin.min_,G,jfe r F a m K I]
    .cases h
   .cases h
  .rename_i s
   split at h
   .rename_i a r J
    split at h
    .rename_i m K;simp at h;subst h;have p:=yi (P:=P) (ρ:=ρ) (σ:=σ) d c.args.toList;rw[J] at p;simp only[SV.denL] at p;obtain⟨v,F,e,H,I⟩:=p;have M:=zc (by simpa[SV.den] using H);subst M;refine jg g (v:= .int .i64 m) ?_ (wl m) trivial;have G:(c.args.map ev).toList= .int .i64 a::F:=(by simpa using e);simp only[execOp,b,Sem.run_bind,resolve,s,Sem.run_pure,Result.andThen_ok,invoke,builtin,Builtin.max_,G,jff r F a m K I]
    .cases h
   .cases h
  .cases h
 |_=>rw[b] at h;simp[js] at h
end
end Go.X
namespace Go.X
open Go.RowKit (Below)
theorem zQ:∀(l:List Nat) (k:Nat),vH l k=true↔k∈l
 |[],k=>by simp[vH]
 |j::r,k=>by
  simp only[vH]
  cases h:Nat.beq j k with
  |true=>have:=jDQ h;subst this;simp
  |false=>
   have a:j≠k:=jO h
   simp only[zQ r k,jDT]
   constructor
   .exact .inr
   .rintro(e|e)
    .exact absurd e.symm a
    .exact e
theorem zF:∀(l r:List Nat) (k:Nat),k∈wU l r↔k∈l\/k∈r
 |[],r,k=>by simp[wU]
 |o::l,r,k=>by
  simp only[wU]
  cases h:vH r o with
  |true=>
   have:=(zQ r o).1 h
   rw[zF l r k]
   constructor
   .rintro(e|e)
    .exact .inl (jD1 _ e)
    .exact .inr e
   .rintro(e|e)
    .rcases jDT.1 e with rfl|e
     .exact .inr this
     .exact .inl e
    .exact .inr e
  |false=>
   rw[zF l (o::r) k]
   simp only[jDT]
   constructor
   .rintro(e|e|e)
    .exact .inl (.inr e)
    .exact .inl (.inl e)
    .exact .inr e
   .rintro((e|e)|e)
    .exact .inr (.inl e)
    .exact .inl e
    .exact .inr (.inr e)
theorem qb:∀(l r:List Nat),ja5 l r=true->∀k,k∈l->k∈r
 |[],r,_,k,hk=>by simp at hk
 |o::l,r,h,k,hk=>by
  simp only[ja5] at h
  cases a:vH r o with
  |false=>rw[a] at h;cases h
  |true=>
   rw[a] at h
   rcases jDT.1 hk with rfl|hk
   .exact(zQ r k).1 a
   .exact qb l r h k hk
mutual
theorem jq4:∀(sv:SV) (o:Nat),sv.refs o=true->o∈sv.rl
 | .any,o,h=>by simp[SV.refs] at h
 | .dat _ _,o,h=>by simp[SV.refs] at h
 | .ep _ _,o,h=>by simp[SV.refs] at h
 | .bp o' _,o,h=>by simp only[SV.refs] at h;simp[SV.rl,jDQ h]
 | .own o' _,o,h=>by simp only[SV.refs] at h;simp[SV.rl,jDQ h]
 | .osl o' _ _ _,o,h=>by simp only[SV.refs] at h;simp[SV.rl,jDQ h]
 | .rp o' _ _ _,o,h=>by simp only[SV.refs] at h;simp[SV.rl,jDQ h]
 | .mp o',o,h=>by simp only[SV.refs] at h;simp[SV.rl,jDQ h]
 | .ip o',o,h=>by simp only[SV.refs] at h;simp[SV.rl,jDQ h]
 | .fe _ o' _ _ _ _ _ _,o,h=>by simp only[SV.refs] at h;simp[SV.rl,jDQ h]
 | .fn _ _ _ _,o,h=>by simp[SV.refs] at h
 | .fnp _ _ _ _,o,h=>by simp[SV.refs] at h
 | .fcl _ _,o,h=>by simp[SV.refs] at h
 | .clo _ caps,o,h=>by simp only[SV.refs] at h;simp only[SV.rl];exact yR caps o h
 | .agg cs,o,h=>by simp only[SV.refs] at h;simp only[SV.rl];exact yR cs o h
 | .tup cs,o,h=>by simp only[SV.refs] at h;simp only[SV.rl];exact yR cs o h
 | .lit _,o,h=>by simp[SV.refs] at h
theorem yR:∀(cs:List SV) (o:Nat),SV.refs.refsL o cs=true->o∈SV.rl.rlL cs
 |[],o,h=>by simp[SV.refs.refsL] at h
 |c::cs,o,h=>by
  simp only[SV.refs.refsL] at h
  simp only[SV.rl.rlL,jDY]
  cases a:c.refs o with
  |true=>exact .inl (jq4 c o a)
  |false=>rw[a] at h;exact .inr (yR cs o h)
end
section
variable {P:Program} {B:zu} {σ:St} {ρ:Env} {w:World}
def jv9 (os:List Nat) (obj:Nat->Option Ob):Nat->Option Ob:=fun o=>if o∈os then obj o else none
def jf9 (os:List Nat) (ρ:Env):Env:={ρ with blk:=fun o=>if o∈os then ρ.blk o else none}
def jS (ρ:Env):List Nat->List Nat
 |[]=>[]
 |o::r=>match ρ.blk o with|some (some (b,_))=>b::jS ρ r|_=>jS ρ r
theorem jR {b:Nat}:∀(os:List Nat),b∈jS ρ os↔∃o a,o∈os/\ρ.blk o=some (some (b,a))
 |[]=>by simp[jS]
 |o::r=>by
  simp only[jS]
  constructor
  .intro h
   split at h
   .rename_i f C' e
    rcases jDT.1 h with rfl|h
    .exact⟨o,C',jEt,e⟩
    .obtain⟨o',a,c,d⟩:=(jR r).1 h;exact⟨o',a,jD1 _ c,d⟩
   .obtain⟨o',a,c,d⟩:=(jR r).1 h;exact⟨o',a,jD1 _ c,d⟩
  .rintro⟨o',a,c,d⟩
   rcases jDT.1 c with rfl|c
   .rw[d];exact jEt
   .have:=(jR r).2 ⟨o',a,c,d⟩
    split
    .exact jD1 _ this
    .exact this
theorem jh3 (os:List Nat) (ρ:Env):ρ.le (jf9 os ρ) []:=by
 refine⟨fun _ _ h=>h,fun o p _ a=> ?_,fun _ _=>rfl⟩;simp only[jf9] at a
 split at a
 .exact a
 .cases a
theorem js0 (e:Sat P B ρ σ.obj w) (os:List Nat):Sat P ⟨w,ρ.H,jS ρ os,fun _=>none,fun _=>0⟩ (jf9 os ρ) (jv9 os σ.obj) w:=by
 refine⟨rfl,rfl,rfl,jDW _,jDW _,e.good,fun _ _ _=>rfl,fun _ _ _=>rfl,?_,?_,?_,?_⟩
 .intro o x f;unfold jv9 at f
  split at f
  .rename_i c;obtain⟨p,i,j⟩:=e.obs o x f;exact⟨p,by simp[jf9,c,i],jG (jh3 os ρ) (by simp) (fun _ _ _ _ o' g=>by simp at g) (fun _ _ _=>⟨rfl,rfl⟩) j⟩
  .cases f
 .intro o c;unfold jv9 at c;by_cases a:o∈os
  .rw[if_pos a] at c;simp[jf9,a,e.dead o c]
  .simp[jf9,a]
 .intro o o' b C C' h d;simp only[jf9] at h d
  split at h
  .split at d
   .exact e.inj o o' b C C' h d
   .cases d
  .cases h
 .intro o b C h;simp only[jf9] at h
  split at h
  .rename_i a;exact .inr ((jR os).2 ⟨o,C,a,h⟩)
  .cases h
theorem jpy (g:Sat P B ρ σ.obj w) (os nw:List Nat) (Z:∀d,d∈nw->z6 σ.obj d) {f:Env} {u:Nat->Option Ob} {w':World}
 (e:Sat P ⟨w,ρ.H,jS ρ os,fun _=>none,fun _=>0⟩ f u w') (J:(jf9 os ρ).le f nw) (K:∀o T fz cs,u o=some (.box T fz cs)->∀r,SV.refs.refsL r cs=true->r∈nw\/r∈os):
 ∃ρ'',Sat P B ρ'' (fun o=>if o∈nw\/o∈os then u o else σ.obj o) w'/\ρ.le ρ'' nw/\
  ∀sv v,(∀r,sv.refs r=true->r∈nw\/r∈os)->SV.den P f sv v->SV.den P ρ'' sv v:=by
 let ρ'':Env:={f with blk:=fun o=>if o∈nw\/o∈os then f.blk o else ρ.blk o}
 have A:ρ.le ρ'' nw:=by
  refine⟨fun b c h=>J.H b c h,fun o p t i=> ?_,fun o t=>J.len o t⟩;simp only[ρ''] at i;by_cases a:o∈os
  .rw[if_pos (.inr a)] at i;have:=J.blk o p t i;simpa[jf9,a] using this
  .rw[if_neg (by rintro(h|h);exact t h;exact a h)] at i;exact i
 let s:List Nat:=((σ.ob.map Prod.fst).filter fun o=>decide ¬(o∈nw\/o∈os))
 have Q:∀o,ρ.blk o≠none->¬(o∈nw\/o∈os)->o∈s:=by
  intro o m q;simp only[s,jEa];refine⟨?_,by simpa using q⟩;cases l:σ.obj o with
  |none=>exact absurd (g.dead o l) m
  |some x=>
   simp only[St.obj] at l
   split at l
   .rename_i y hy;exact jEx.2 ⟨(o,y),zb _ _ _ hy,rfl⟩
   .cases l
 have D:f.le ρ'' s:=by
  refine⟨fun _ _ h=>h,fun o p t i=> ?_,fun _ _=>rfl⟩;simp only[ρ''] at i;by_cases a:o∈nw\/o∈os
  .rw[if_pos a] at i;exact i
  .rw[if_neg a] at i;exact absurd (Q o (by rw[i];simp) a) t
 have j:∀r,r∈s->¬(r∈nw\/r∈os):=fun r G=>by
  simp only[s,jEa] at G;simpa using G.2
 have k:∀b,b<w.heap.size->b∉jS ρ os->f.H b=ρ.H b/\w'.heap[b]? =w.heap[b]? :=fun b m q=>⟨e.oldH b m q,e.old b m q⟩
 have F:∀b,b<B.w.heap.size->b∉B.bor->b∉jS ρ os:=by
  intro b m q a;obtain⟨o,N,_,W⟩:=(jR os).1 a;rcases g.own o b N W with h|h
  .omega
  .exact q h
 have hsz:=g.size;have E:∀o b N,o∈nw\/o∈os->f.blk o=some (some (b,N))->∀o2 S,¬(o2∈nw\/o2∈os)->ρ.blk o2=some (some (b,S))->False:=by
  intro o b N _ W o2 S h3 h4;rcases e.own o b N W with h|h
  .have:=(qZ g h4).1;simp only at h;omega
  .obtain⟨R,M,X,O⟩:=(jR os).1 h;exact h3 (.inr (by rw[g.inj o2 R b S M h4 O];exact X))
 refine⟨ρ'',⟨e.os.trans g.os,e.tape.trans g.tape,e.output.trans g.output,jD7 g.drawn e.drawn,jD7 hsz e.size,e.good,?_,?_,?_,?_,?_,?_⟩,A,?_⟩
 .intro b m q;show f.H b=_;rw[(k b (by omega) (F b m q)).1];exact g.oldH b m q
 .intro b m q;rw[(k b (by omega) (F b m q)).2];exact g.old b m q
 .intro o x L;by_cases a:o∈nw\/o∈os
  .simp only[a,if_true] at L;obtain⟨p,i,hs⟩:=e.obs o x L;refine⟨p,by simp[ρ'',a,i],jG D (fun h=>j o h a) (fun T fz cs I r G=> ?_) (fun _ _ _=>⟨rfl,rfl⟩) hs⟩;cases Y:SV.refs.refsL r cs with
   |false=>rfl
   |true=>exact absurd (K o T fz cs (by rw[L,I]) r Y) (j r G)
  .simp only[a,if_false] at L;obtain⟨p,i,hs⟩:=g.obs o x L;refine⟨p,by simp[ρ'',a,i],jG A (fun h=>a (.inl h)) (fun T fz cs I r G=>Z r G o T fz cs (by rw[L,I])) (fun b C hpb=> ?_) hs⟩;subst hpb;refine k b (qZ g i).1 fun m=> ?_
   obtain⟨R,M,X,O⟩:=(jR os).1 m;exact a (.inr (by rw[g.inj o R b C M i O];exact X))
 .intro o t;by_cases a:o∈nw\/o∈os
  .simp only[a,if_true] at t;simp[ρ'',a,e.dead o t]
  .simp only[a,if_false] at t;simp[ρ'',a,g.dead o t]
 .intro o o' b C C' h z;simp only[ρ''] at h z;by_cases a:o∈nw\/o∈os<;>by_cases n:o'∈nw\/o'∈os
  .rw[if_pos a] at h;rw[if_pos n] at z;exact e.inj o o' b C C' h z
  .rw[if_pos a] at h;rw[if_neg n] at z;exact(E o b C a h o' C' n z).elim
  .rw[if_neg a] at h;rw[if_pos n] at z;exact(E o' b C' n z o C a h).elim
  .rw[if_neg a] at h;rw[if_neg n] at z;exact g.inj o o' b C C' h z
 .intro o b C h;simp only[ρ''] at h;by_cases a:o∈nw\/o∈os
  .rw[if_pos a] at h;rcases e.own o b C h with V|V
   .simp only at V;exact .inl (by omega)
   .obtain⟨R,M,_,O⟩:=(jR os).1 V;exact g.own R b M O
  .rw[if_neg a] at h;exact g.own o b C h
 .intro sv v G hd;refine SV.den_mono D sv v (fun r hrb=> ?_) hd;cases Y:sv.refs r with
  |false=>rfl
  |true=>exact absurd (G r Y) (j r hrb)
end
end Go.X
namespace Go.X
open Go.RowKit (Below)
section
variable {P:Program} {B:zu} {C:Ctx} {ρ:Env} {w:World} {ops:Array Oper} {a:Act}
def jfK (ops:Array Oper) (a:Act) (g:Nat×Bool):Prop:=yielded ops a.tmps g.1=some g.2
def GL (P:Program) (ops:Array Oper) (ρ:Env) (gl:List (Nat×(Nat×Bool)×SV)) (a:Act):Prop:=
 ∀s g v,(s,g,v)∈gl->(jfK ops a g->SV.den P ρ v (a.tmps.getD s undef))/\(¬jfK ops a g->a.tmps.getD s undef=undef)
theorem jjt:∀(gl:List (Nat×(Nat×Bool)×SV)) (k:Nat) g v,jt8 gl k=some (g,v)->(k,g,v)∈gl
 |[],_,_,_,h=>by simp[jt8] at h
 | (j,b,x)::r,k,g,v,h=>by
  simp only[jt8] at h
  cases a:Nat.beq j k
  .rw[a] at h;exact jD1 _ (jjt r k g v h)
  .rw[a] at h;simp at h;obtain⟨rfl,rfl⟩:=h;have:=jDQ a;subst this;exact jEt
theorem jtl (j:Nat):yielded ops a.tmps j=(match yC ops.toList j with|some d=>(match a.tmps[d]? with|some (.bool b)=>some b|_=>none)|none=>none):=by
 unfold yielded yC;rw[jEA];cases h:ops[j]? with
 |none=>simp
 |some o=>
  simp only[Option.bind_some];cases o.dst with
  |none=>rfl
  |some d=>rfl
theorem jca {j:Nat} {want:Bool} {d:Nat} (h:yC ops.toList j=some d):jfK ops a (j,want)↔a.tmps[d]? =some (.bool want):=by
 unfold jfK;rw[jtl,h];simp only;constructor
 .intro h
  split at h
  .rename_i b c;simp at h;subst h;exact c
  .cases h
 .intro h;rw[h]
theorem jmm {d:Nat} {b:Bool} (h:a.tmps.getD d undef= .bool b):a.tmps[d]? =some (.bool b):=by
 rw[jDZ] at h;cases c:a.tmps[d]? with
 |none=>rw[c] at h;simp[undef] at h
 |some v=>rw[c] at h;simp at h;rw[h]
theorem jn5 {d:Nat} (h:a.tmps.getD d undef=undef) (b:Bool):a.tmps[d]?≠some (.bool b):=by
 intro c;rw[jDZ,c] at h;simp[undef] at h
theorem yg {R:RS} (e:jfE P ρ R.st.sl a) (l:GL P ops ρ R.gl a):∀(b:Nat) (g:Nat×Bool) (γ:Bool),jcL ops.toList R b g=some γ->(jfK ops a g↔γ=true)
 |0,g,γ,h=>by simp[jcL] at h
 |b+1,(j,want),γ,h=>by
  simp only[jcL] at h
  split at h
  case h_2=>cases h
  rename_i d p
  rw[jca p]
  split at h
  .rename_i i k r
   split at h
   case h_2=>cases h
   rename_i f q
   simp at h;subst h
   have m:=yg e l b i f q
   obtain⟨n,o⟩:=l d i _ (jjt _ _ _ _ r)
   cases f with
   |true=>
    have:=jmm (zy (by simpa[SV.den] using n (m.2 rfl)))
    rw[this]
    cases want<;>cases k<;>simp[sgn]
   |false=>
    have s:¬jfK ops a i:=fun h=>by have:=m.1 h;cases this
    constructor
    .intro h;exact absurd h (jn5 (o s) want)
    .intro h;simp at h
  .cases h
  .split at h
   .rename_i k t
    simp at h;subst h
    have c:SV.den P ρ (R.st.get d) (a.tmps.getD d undef):=jC (a:=a) e (.tmp d)
    rw[t] at c
    have:=jmm (zy (by simpa[SV.den] using c))
    rw[this]
    cases want<;>cases k<;>simp[sgn]
   .cases h
theorem jdP {R:RS} (i:GL P ops ρ R.gl a):∀(b:Nat) (g:Nat×Bool),jfK ops a g->∀h,h∈jgE ops.toList R b g->jfK ops a h
 |0,g,_,h,c=>by simp[jgE] at c
 |b+1,(j,want),f,h,c=>by
  simp only[jgE] at c
  rcases jDT.1 c with rfl|c
  .exact f
  .split at c
   .rename_i d m
    split at c
    .rename_i e v n
     refine jdP i b e ?_ h c
     obtain⟨_,l⟩:=i d e _ (jjt _ _ _ _ n)
     rw[jca m] at f
     by_cases k:jfK ops a e
     .exact k
     .exact absurd f (jn5 (l k) want)
    .simp at c
   .simp at c
theorem jsy {g h:Nat×Bool} (e:jvJ g h=true):g=h:=by
 obtain⟨a,x⟩:=g;obtain⟨b,y⟩:=h;unfold jvJ at e;simp only at e
 split at e
 .rename_i c;have:=jDQ c;subst this;cases x<;>cases y<;>simp_all
 .cases e
theorem jjE:∀(ch:List (Nat×Bool)) (g:Nat×Bool),jgm ch g=true->g∈ch
 |[],_,h=>by simp[jgm] at h
 |x::r,g,h=>by
  simp only[jgm] at h
  split at h
  .rename_i e;rw[jsy e];exact jEt
  .exact jD1 _ (jjE r g h)
theorem gH:∀(gl:List (Nat×(Nat×Bool)×SV)) (ch:List (Nat×Bool)) (s:Nat) (v:SV),(s,v)∈gI gl ch->∃g,(s,g,v)∈gl/\g∈ch
 |[],_,_,_,h=>by simp[gI] at h
 | (f,g,x)::r,ch,s,v,h=>by
  simp only[gI] at h
  split at h
  .rename_i d
   rcases jDT.1 h with e|h
   .simp at e;obtain⟨rfl,rfl⟩:=e;exact⟨g,jEt,jjE _ _ d⟩
   .obtain⟨a,b,c⟩:=gH r ch s v h;exact⟨a,jD1 _ b,c⟩
  .obtain⟨a,b,c⟩:=gH r ch s v h;exact⟨a,jD1 _ b,c⟩
theorem vb {R:RS} (b:jfE P ρ R.st.sl a) (f:GL P ops ρ R.gl a) {ch:List (Nat×Bool)} (c:∀g,g∈ch->jfK ops a g):jfE P ρ (jP R ch).sl a:=by
 intro s sv h;simp only[jP] at h;rw[je] at h
 split at h
 .rename_i v i;simp at h;subst h;obtain⟨g,d,e⟩:=gH _ _ _ _ (zb _ _ _ i);exact(f s g _ d).1 (c g e)
 .exact b s sv h
theorem jij (t:Nat):∀(l:List Oper) (j k:Nat),k∈jaY t l j->∃o,l[k-j]? =some o/\o.dst=some t/\j<=k
 |[],_,_,h=>by simp[jaY] at h
 |o::r,j,k,h=>by
  have a:k∈jaY t r (j+1)->∃o',(o::r)[k-j]? =some o'/\o'.dst=some t/\j<=k:=by
   intro h;obtain⟨o',b,c,g⟩:=jij t r (j+1) k h;refine⟨o',?_,c,by omega⟩;rw[show k-j=(k-(j+1))+1 by omega];simpa using b
  simp only[jaY] at h
  split at h
  .rename_i d f
   split at h
   .rename_i e;rcases jDT.1 h with rfl|h
    .exact⟨o,by simp,by rw[f,jDQ e],jDW _⟩
    .exact a h
   .exact a h
  .exact a h
theorem jnh {c:Operand} {f:Bool} (l:a.eval c= .bool f):∀g,g∈jah ops.toList c f->jfK ops a g:=by
 intro g b;unfold jah at b
 split at b
 .rename_i t e;obtain⟨j,k,rfl⟩:=jEx.1 b;obtain⟨o,d,h,_⟩:=jij t _ 0 j k;have i:yC ops.toList j=some t:=(by unfold yC;simp only[Nat.sub_zero] at d;rw[d];exact h);rw[jca i];cases c<;>simp[jm8] at e
  subst e;exact jmm (by simpa[Act.eval] using l)
 .simp at b
theorem jxs {R:RS} {o:Oper} {c x y:Operand} {ch:List (Nat×Bool)} {out:Out} (z:o.op= .pick c x y) (h:jq8 ops.toList R ch c x y=some out) (D:Sat P B ρ R.st.obj w) (n:jfE P ρ R.st.sl a) (u:GL P ops ρ R.gl a)
 (s:∀g,g∈ch->jfK ops a g):jw P o a.eval w (jv P B ρ R.st out):=by
 unfold jq8 at h
 split at h
 case h_2=>cases h
 rename_i d G;have f:=jC (a:=a) (vb n u s) c;rw[G] at f;have f:=zy (by simpa[SV.den] using f);have l:(execOp a.eval o).run P w= .ok (.value (if d then a.eval x else a.eval y)) w:=by
  simp[execOp,z,f,asBool]
 have k:∀b,d=b->∀g,g∈jah ops.toList c b++ch->jfK ops a g:=by
  rintro b rfl g t;rcases jDY.1 t with t|t
  .exact jnh f g t
  .exact s g t
 have i:d=true->SV.den P ρ (jE (jP R (jah ops.toList c true++ch)) x) (a.eval x):=fun e=>jC (a:=a) (vb n u (k true e)) x
 have j:d=false->SV.den P ρ (jE (jP R (jah ops.toList c false++ch)) y) (a.eval y):=fun e=>jC (a:=a) (vb n u (k false e)) y
 split at h
 .rename_i p q A C;rw[A] at i;rw[C] at j;have i:d=true->a.eval x= .bool p:=fun e=>zy (by simpa[SV.den] using i e)
  have j:d=false->a.eval y= .bool q:=fun e=>zy (by simpa[SV.den] using j e)
  have m:∀r,(d=true->r=p)->(d=false->r=q)->jw P o a.eval w (jv P B ρ R.st (.pure (.dat .bool r))):=by
   intro r E F;refine jg D (v:= .bool r) ?_ (wi r) trivial;rw[l];cases d with
   |true=>simp[i rfl,E rfl]
   |false=>simp[j rfl,F rfl]
  split at h
  .simp at h;subst h;refine m _ (fun e=>by simp[e]) (fun e=> ?_);have:=j e;simp[Act.eval] at this;simp[e,this]
  .split at h
   .simp at h;subst h;refine m _ (fun e=> ?_) (fun e=>by simp[e]);have:=i e;simp[Act.eval] at this;simp[e,this]
   .simp at h;subst h;exact m _ (fun e=>by simp[e]) (fun e=>by simp[e])
 .rename_i p q A C;rw[A] at i;rw[C] at j;have i:d=true->a.eval x= .int .i64 p:=fun e=>zc (by simpa[SV.den] using i e)
  have j:d=false->a.eval y= .int .i64 q:=fun e=>zc (by simpa[SV.den] using j e)
  simp at h;subst h;refine jg D (v:= .int .i64 (cond d p q)) ?_ (wl _) trivial;rw[l];cases d with
  |true=>simp[i rfl]
  |false=>simp[j rfl]
 .cases h
end
end Go.X
namespace Go.X
open Go.RowKit (Below)
section
variable {P:Program} {B:zu} {C:Ctx} {w:World} {ops:Array Oper} {a:Act} {o:Oper}
def Inv (P:Program) (B:zu) (n:Nat) (ops:Array Oper) (rs:RS) (a:Act) (w:World):Prop:=
 a.defers=[]/\a.tmps.size=n/\∃ρ,Sat P B ρ rs.st.obj w/\jfE P ρ rs.st.sl a/\GL P ops ρ rs.gl a/\Pin B ρ
def jzN (g:Option Bool) (l:List Prop):Prop:=match g with
 |none=>kk l
 |some γ=>γ=true->kk l
def jBk (e:Eff) (v:SV):Prop:=(∃s,(s,v)∈e.sl)\/∃s g,(s,g,v)∈e.gl
structure Fit (P:Program) (B:zu) (rs R:RS) (e:Eff):Prop where
 sl:∀s v,jt R.st.sl s=some v->jt rs.st.sl s=some v
 gl:∀x,x∈R.gl->x∈rs.gl
 obj:∀o x,R.st.obj o=some x->rs.st.obj o=some x
 go:∀ρ w,Sat P B ρ rs.st.obj w->(∀d,d∈e.nw->rs.st.obj d=none/\z6 rs.st.obj d)->∃B' ρR,ρ.le ρR []/\Sat P B' ρR R.st.obj w/\
  ∀ρ' w',Sat P B' ρ' ({R.st with ob:=e.ob++R.st.ob}:St).obj w'->ρR.le ρ' e.nw->
   ∃ρ'',Sat P B ρ'' (jY e rs).st.obj w'/\ρ.le ρ'' e.nw/\∀v x,jBk e v->SV.den P ρ' v x->SV.den P ρ'' v x
theorem Fit.refl (P:Program) (B:zu) (rs:RS) (e:Eff):Fit P B rs rs e:=
 ⟨fun _ _ h=>h,fun _ h=>h,fun _ _ h=>h,fun ρ _ d _=>⟨B,ρ,Env.le.refl _ _,d,fun c _ a b=>⟨c,a,b,fun _ _ _ h=>h⟩⟩⟩
structure jx2 (rs:RS) (d:Nat):Prop where
 obj:rs.st.obj d=none
 sl:∀s v,(s,v)∈rs.st.sl->v.refs d=false
 gl:∀s g v,(s,g,v)∈rs.gl->v.refs d=false
 ob:∀o T fz cs,(o,some (.box T fz cs))∈rs.st.ob->SV.refs.refsL d cs=false
 lt:d<1000000
theorem jx2.noRef {rs:RS} {d:Nat} (h:jx2 rs d):z6 rs.st.obj d:=by
 intro o T fz cs a;simp only[St.obj] at a
 split at a
 .rename_i x b;subst a;exact h.ob o T fz cs (zb _ _ _ b)
 .cases a
theorem jdH:∀(sl:List (Nat×SV)) (d s:Nat) (v:SV),jdI d sl=true->(s,v)∈sl->v.refs d=false
 |[],_,_,_,_,h=>by simp at h
 | (j,x)::r,d,s,v,a,h=>by
  simp only[jdI] at a
  cases b:x.refs d with
  |true=>rw[b] at a;cases a
  |false=>
   rw[b] at a
   rcases jDT.1 h with e|h
   .simp at e;obtain⟨_,rfl⟩:=e;exact b
   .exact jdH r d s v a h
theorem jjV:∀(gl:List (Nat×(Nat×Bool)×SV)) (d s:Nat) g v,jnk d gl=true->(s,g,v)∈gl->v.refs d=false
 |[],_,_,_,_,_,h=>by simp at h
 | (j,c,x)::r,d,s,g,v,a,h=>by
  simp only[jnk] at a
  cases b:x.refs d with
  |true=>rw[b] at a;cases a
  |false=>
   rw[b] at a
   rcases jDT.1 h with e|h
   .simp at e;obtain⟨_,_,rfl⟩:=e;exact b
   .exact jjV r d s g v a h
theorem qi:∀(ob:List (Nat×Option Ob)) (d o T:Nat) fz cs,qj d ob=true->(o,some (.box T fz cs))∈ob->SV.refs.refsL d cs=false
 |[],_,_,_,_,_,_,h=>by simp at h
 | (j,y)::r,d,o,T,fz,cs,a,h=>by
  have c:qj d r=true/\∀T fz cs,y=some (.box T fz cs)->SV.refs.refsL d cs=false:=by
   unfold qj at a
   split at a
   .rename_i e;cases e
   .rename_i e;cases e
    split at a
    .cases a
    .rename_i f;exact⟨a,fun T fz cs e=>by simp at e;obtain⟨rfl,rfl,rfl⟩:=e;exact f⟩
   .rename_i e;cases e;rename_i b;exact⟨a,fun T fz cs e=>by subst e;exact(b _ _ _ _ rfl).elim⟩
  rcases jDT.1 h with e|h
  .simp at e;obtain⟨_,e⟩:=e;exact c.2 T fz cs e.symm
  .exact qi r d o T fz cs c.1 h
theorem vK {rs:RS} {d:Nat} (h:jrr rs d=true):jx2 rs d:=by
 unfold jrr at h
 split at h
 .rename_i b c e f;exact⟨b,fun s v a=>jdH _ _ s v c a,fun s g v a=>jjV _ _ s g v e a,fun o T fz cs i=>qi _ _ o T fz cs f i,jD5 h⟩
 .cases h
theorem jdK (d:Nat):∀(t:Ty) (x:t.Data),SV.refs.refsL d (jlV t x)=false
 | .int,_=>rfl
 | .bool,_=>rfl
 | .uint _,_=>rfl
 | .slice _,_=>rfl
 | .map _ _,_=>rfl
 | .ptr _,_=>rfl
 | .unit,_=>rfl
 | .pair a b,x=>by
  have e:∀(l r:List SV),SV.refs.refsL d l=false->SV.refs.refsL d r=false->SV.refs.refsL d (l++r)=false:=by
   intro l r c g
   induction l with
   |nil=>simpa using g
   |cons v l h=>
    simp only[jEi,SV.refs.refsL] at c⊢;cases f:v.refs d with
    |true=>rw[f] at c;cases c
    |false=>rw[f] at c;exact h c
  exact e _ _ (jdK d a x.1) (jdK d b x.2)
theorem juM {σ:St} {sv:SV} {cs:List SV} {d:Nat} (h:cells σ sv=some cs) (a:sv.refs d=false):SV.refs.refsL d cs=false:=by
 have one:∀v:SV,v.refs d=false->SV.refs.refsL d [v]=false:=fun v b=>by simp[SV.refs.refsL,b]
 unfold cells at h
 split at h<;>first
  | (cases h;done)
  | (simp at h;subst h;simpa[SV.refs] using a)
  | (simp at h;subst h;exact jdK d _ _)
  | (split at h
     .simp at h;subst h;exact one _ a
     .cases h)
  | (simp at h;subst h;exact one _ a)
theorem jsu (R:RS) (ch:List (Nat×Bool)):(jP R ch).obj=R.st.obj:=rfl
theorem jv5 {rs R:RS} {e:Eff} (h:Fit P B rs R e) {d:Nat} (b:∀s v,jt rs.st.sl s=some v->v.refs d=false) (a:∀s g v,(s,g,v)∈rs.gl->v.refs d=false) (ch:List (Nat×Bool)) (x:Operand):
 (jE (jP R ch) x).refs d=false:=by
 cases x with
 |tmp t=>
  simp only[jE,St.get,jP];rw[je];cases c:jt (gI R.gl ch) t with
  |some v=>
   obtain⟨g,i,_⟩:=gH _ _ _ _ (zb _ _ _ c);exact a t g v (h.gl _ i)
  |none=>
   simp only;cases c:jt R.st.sl t with
   |some v=>exact b t v (h.sl t v c)
   |none=>rfl
 |const v=>cases v<;>simp only[jE,jkR]<;>first|rfl|(split<;>rfl)
 |global g=>rfl
 |func f=>rfl
theorem joO {rs R:RS} {e:Eff} {ρ:Env} {B':zu} {ch:List (Nat×Bool)} {out:Out} (K:C.ok P) (E:Fit P B rs R e) (h:yu C ops.toList o R ch=some out) (G:Sat P B' ρ R.st.obj w) (i:jfE P ρ R.st.sl a) (F:GL P ops ρ R.gl a)
 (j:∀g,g∈ch->jfK ops a g) (I:kk out.vc) (f:(out.nw≠[]\/jbC o.op=true)->jx2 rs (jk5 o)):jw P o a.eval w (jv P B' ρ R.st out):=by
 unfold yu at h
 split at h
 .rename_i c x y q;exact jxs q h G i F j
 case h_2 U n parts g q hgd=>
  have m:∀{v w'},jv P B' ρ (jP R ch) out v w'->jv P B' ρ R.st out v w':=fun h=>by
   obtain⟨t,d,z,A,D⟩:=h;refine⟨t,?_,z,A,D⟩;have e:({(jP R ch) with ob:=out.wr++(wY (jP R ch) out.fz++(jP R ch).ob)}:St).obj=({R.st with ob:=out.wr++(wY R.st out.fz++R.st.ob)}:St).obj:=by
    have:∀l,wY (jP R ch) l=wY R.st l:=by
     intro l
     induction l with
     |nil=>rfl
     |cons k r J=>simp only[wY,jsu,J]
    funext k;simp only[St.obj,this];rfl
   rw[e] at d;exact d
  exact jw.mono (jrX (σ:=jP R ch) K q h G (fun x=>jC (a:=a) (vb i F j) x)) fun v w'=>m
 .rename_i M _;have m:∀{v w'},jv P B' ρ (jP R ch) out v w'->jv P B' ρ R.st out v w':=fun h=>by
   obtain⟨t,d,z,A,D⟩:=h;refine⟨t,?_,z,A,D⟩;have e:({(jP R ch) with ob:=out.wr++(wY (jP R ch) out.fz++(jP R ch).ob)}:St).obj=({R.st with ob:=out.wr++(wY R.st out.fz++R.st.ob)}:St).obj:=by
    have:∀l,wY (jP R ch) l=wY R.st l:=by
     intro l
     induction l with
     |nil=>rfl
     |cons k r J=>simp only[wY,jsu,J]
    funext k;simp only[St.obj,this];rfl
   rw[e] at d;exact d
  have b:jx2 rs (jk5 o)->R.st.obj (jk5 o)=none/\z6 R.st.obj (jk5 o)/\∀x cs,cells (jP R ch) (jE (jP R ch) x)=some cs->SV.refs.refsL (jk5 o) cs=false:=by
   intro u;have d:=u.obj;refine⟨?_,fun k T fz cs hk=>u.noRef k T fz cs (E.obj _ _ hk),fun x cs H=>juM H (jv5 E (fun s v h=>u.sl s v (zb _ _ _ h)) u.gl ch x)⟩;cases N:R.st.obj (jk5 o) with
   |none=>rfl
   |some x=>rw[E.obj _ _ N] at d;cases d
  refine jw.mono (jpE (σ:=jP R ch) K h G (fun x=>jC (a:=a) (vb i F j) x) I (fun p=> ?_) (fun c L p=> ?_)) fun v w'=>m
  .exact b (f (.inl p))
  .have:=b (f (.inr (by
    rw[L];unfold jbC
    split
    .rename_i h;cases h;split
     .rename_i h;exact absurd h p
     .rfl
    .rename_i h;exact absurd rfl (h c))))
   exact⟨this.1,this.2.1⟩
theorem jpx:∀(l:List Oper) (d:Nat) (gl:List (Nat×(Nat×Bool)×SV)),jza l d gl=true->∀s j b v,(s,(j,b),v)∈gl->s≠d/\∃dj,yC l j=some dj/\dj≠d
 |_,_,[],_,s,j,b,v,a=>by simp at a
 |l,d,(m,(k,i),n)::r,h,s,j,b,v,a=>by
  simp only[jza] at h
  split at h
  .rename_i dj f g
   split at h
   .cases h
   .rename_i c
    rcases jDT.1 a with e|a
    .simp at e;obtain⟨rfl,⟨rfl,rfl⟩,rfl⟩:=e
     exact⟨jO f,dj,g,jO c⟩
    .exact jpx l d r h s j b v a
  .cases h
theorem jmK (a:Act) (d s:Nat) (v:Value):(a.put (some d) v).tmps.getD s undef=if s=d/\d<a.tmps.size then v else a.tmps.getD s undef:=by
 simp only[Act.put,jDZ,jD8];by_cases e:s=d
 .subst e;by_cases b:s<a.tmps.size
  .simp[b]
  .simp[b]
 .rw[if_neg (fun h=>e h.symm),if_neg (fun h=>e h.1)]
theorem jsI {d j:Nat} {b:Bool} {v:Value} {dj:Nat} (e:yC ops.toList j=some dj) (c:dj≠d):jfK ops (a.put (some d) v) (j,b)↔jfK ops a (j,b):=by
 rw[jca e,jca e];simp only[Act.put,jD8];rw[if_neg (fun h=>c h.symm)]
structure jnF (C:Ctx) (ops:Array Oper) (o:Oper) (rs:RS) (e:Eff):Prop where
 frame:∀d,o.dst=some d->d<C.n
 gl:∀d,o.dst=some d->∀s j b v,(s,(j,b),v)∈rs.gl->s≠d/\∃dj,yC ops.toList j=some dj/\dj≠d
 guard:∀d,o.dst=some d->∀j b,o.guard=some (j,b)->∃dj,yC ops.toList j=some dj/\dj≠d
 nw:∀d,d∈e.nw->jx2 rs d
 dst:(e.nw≠[]\/jbC o.op=true)->jx2 rs (jk5 o)
theorem jaa {rs:RS} (h:jwi ops.toList o rs=true) {d:Nat} (g:o.dst=some d):(∀s j b v,(s,(j,b),v)∈rs.gl->s≠d/\∃dj,yC ops.toList j=some dj/\dj≠d)/\
 ∀j b,o.guard=some (j,b)->∃dj,yC ops.toList j=some dj/\dj≠d:=by
 unfold jwi at h;rw[g] at h;simp only at h
 split at h
 .rename_i a;refine⟨jpx _ _ _ h,fun j b e=> ?_⟩;rw[e] at a;simp only[jwh] at a
  split at a
  .rename_i dj c
   split at a
   .cases a
   .rename_i f;exact⟨dj,c,jO f⟩
  .cases a
 .cases h
theorem jdA {rs:RS} {e:Eff} {ρ ρ'':Env} {w':World} {n:Nat} {v:Value} (F:a.defers=[]) (K:a.tmps.size=n) (G:jfE P ρ rs.st.sl a) (N:GL P ops ρ rs.gl a) (y:Pin B ρ)
 (O:Sat P B ρ'' (jY e rs).st.obj w') (u:ρ.le ρ'' e.nw) (i:jnF C ops o rs e) (I:∀d,o.dst=some d->d<n)
 {sv gv:SV} (E:e.sl=jot o sv) (z:∀d,o.dst=some d->SV.den P ρ'' sv v) (A:∀x,x∈e.gl->∃d g,o.dst=some d/\o.guard=some g/\x=(d,g,gv))
 (S:∀d g,o.dst=some d->o.guard=some g->(jfK ops a g->SV.den P ρ'' gv v)/\(¬jfK ops a g->v=undef)):
 Inv P B n ops (jY e rs) (a.put o.dst v) w':=by
 have p:∀s f,jt rs.st.sl s=some f->SV.den P ρ'' f (a.tmps.getD s undef):=fun s f h=>
  SV.den_mono u _ _ (fun r L=>(i.nw r L).sl s f (zb _ _ _ h)) (G s f h)
 have q:∀s g l,(s,g,l)∈rs.gl->SV.den P ρ l (a.tmps.getD s undef)->SV.den P ρ'' l (a.tmps.getD s undef):=fun s g l h H=>
  SV.den_mono u _ _ (fun r L=>(i.nw r L).gl s g l h) H
 have m:Pin B ρ'':=y.mono u (fun d F=>(i.nw d F).lt);cases c:o.dst with
 |none=>
  refine⟨F,K,ρ'',O,?_,?_,m⟩
  .intro s f h;simp only[jY,E,jot,c,jEj] at h;exact p s f h
  .intro s g l k;simp only[jY] at k;rcases jDY.1 k with k|k
   .obtain⟨d,_,t,_⟩:=A _ k;rw[c] at t;cases t
   .obtain⟨t,w⟩:=N s g l k;exact⟨fun J=>q s g l k (t J),w⟩
 |some d=>
  have D:d<a.tmps.size:=(by rw[K];exact I d c);have T:=i.gl d c;have V:=i.guard d c;refine⟨by simpa[Act.put] using F,by simpa[Act.put] using K,ρ'',O,?_,?_,m⟩
  .intro s f h;simp only[jY,E,jot,c,List.singleton_append] at h;rw[jmK];by_cases e:s=d
   .subst e;rw[jy] at h;simp at h;subst h;rw[if_pos ⟨rfl,D⟩];exact z s c
   .rw[jq (fun h=>e h.symm)] at h;rw[if_neg (fun h=>e h.1)];exact p s f h
  .intro s g l k;simp only[jY] at k;rcases jDY.1 k with k|k
   .obtain⟨Z,g',t,w,M⟩:=A _ k;rw[c] at t;simp at t M;obtain⟨rfl,rfl,rfl⟩:=M;subst t;obtain⟨j,b⟩:=g;obtain⟨dj,Q,R⟩:=V j b w;rw[jsI Q R,jmK,if_pos ⟨rfl,D⟩];exact S d (j,b) c w
   .obtain⟨j,b⟩:=g;obtain⟨t,w⟩:=N s (j,b) l k;obtain⟨W,dj,X,Y⟩:=T s j b l k;rw[jsI X Y,jmK,if_neg (fun h=>W h.1)];exact⟨fun J=>q s (j,b) l k (t J),w⟩
theorem jb4 {rs:RS}:∀(l:List Nat),jlC rs l=true->∀d,d∈l->jrr rs d=true
 |[],_,d,h=>by simp at h
 |x::r,h,d,a=>by
  simp only[jlC] at h
  split at h
  .rename_i b
   rcases jDT.1 a with rfl|a
   .exact b
   .exact jb4 r h d a
  .cases h
theorem qk {rs:RS} {e:Eff} (h:fits C ops.toList o rs e=true):jnF C ops o rs e:=by
 unfold fits at h
 split at h
 .rename_i b f k g;refine⟨fun d a=> ?_,fun d a=>(jaa f a).1,fun d a=>(jaa f a).2,fun d a=>vK (jb4 _ k d a),fun c=>vK ?_⟩
  .rw[a] at b;simp only[jdC] at b;exact jD5 b
  .split at g
   .rename_i i j;rcases c with h|h
    .exact absurd i h
    .rw[j] at h;cases h
   .exact g
 .cases h
theorem qc (hC:C.ok P) {rs R:RS} {e:Eff} (l:gm C ops.toList o R=some e) (c:jnF C ops o rs e) (N:Fit P B rs R e) (hI:Inv P B C.n ops rs a w) (X:jzN e.guard e.vc)
 {K:Act->World->Prop} {Q:Exit->Act->World->Prop} (hK:∀a' w',Inv P B C.n ops (jY e rs) a' w'->jzN e.guard e.fact->K a' w'):
 if Region.wanted o (yielded ops a.tmps) then o.wp P a w K Q else K (a.put o.dst undef) w:=by
 obtain⟨O,V,ρ,hS,A,T,m⟩:=hI;have f1:=c.frame;have f4:=c.dst;obtain⟨B',ρR,F,H,J⟩:=N.go ρ w hS (fun d O=>⟨(c.nw d O).obj,(c.nw d O).noRef⟩);have p:jfE P ρR R.st.sl a:=fun s sv h=>SV.den_mono F _ _ (fun r hr=>by simp at hr) (A s sv (N.sl s sv h))
 have z:GL P ops ρR R.gl a:=fun s g v h=>⟨fun hh=>SV.den_mono F _ _ (fun r hr=>by simp at hr) ((T s g v (N.gl _ h)).1 hh),(T s g v (N.gl _ h)).2⟩
 have hle2:∀{ρ'':Env},ρ.le ρ'' e.nw->ρ.le ρ'' e.nw:=fun h=>h
 unfold gm at l
 split at l
 .--no guard
  rename_i k
  split at l
  .cases l
  rename_i out q;simp at l;subst l;have hw:Region.wanted o (yielded ops a.tmps)=true:=(by simp[Region.wanted,k]);rw[if_pos hw];have I:=joO (w:=w) (a:=a) hC N q H p z (fun g hg=>by simp at hg) X f4;refine I.wp fun v w' hL=> ?_
  obtain⟨y,L,M,g3,g4⟩:=hL;obtain⟨ρ'',Y,Z,q3⟩:=J y w' (by simpa only[jEb] using L) M;refine hK _ _ (jdA (gv:= .any) O V A T m Y Z c f1 rfl (fun d f=>q3 _ _ (.inl ⟨d,by simp[jot,f]⟩) g3) (fun x S=>by simp at S) (fun d g _ hg=>by rw[k] at hg;cases hg)) g4
 .rename_i g k
  split at l
  .cases l
  rename_i γ hγ
  split at l
  .cases l
  rename_i out q
  split at l
  case h_2=>cases l
  rename_i hwr W;simp at l;subst l;have E:=yg p z _ _ _ hγ;have t:(Region.wanted o (yielded ops a.tmps)=true)↔jfK ops a g:=by
   obtain⟨j,b⟩:=g;simp[Region.wanted,k,jfK]
  have D:∀x,x∈(match o.dst with|some d=>[(d,g,out.sv)]|none=>[])->∃d g',o.dst=some d/\o.guard=some g'/\x=(d,g',out.sv):=by
   intro x S
   split at S
   .rename_i d f;simp at S;exact⟨d,g,f,k,S⟩
   .simp at S
  by_cases G:jfK ops a g
  .rw[if_pos (t.2 G)];have u:=E.1 G;have I:=joO (w:=w) (a:=a) hC N q H p z (jdP z _ _ G) (X u) (fun hor=>f4 (hor.imp (fun h=>absurd W h) id));refine I.wp fun v w' hL=> ?_
   obtain⟨y,L,M,g3,g4⟩:=hL;rw[hwr] at L;rw[W] at M;obtain⟨ρ'',Y,Z,q3⟩:=J y w' (by simpa only[jEj] using L) M;refine hK _ _ (jdA (sv:= .any) O V A T m Y Z c f1 rfl (fun d f=>kA _) D (fun d g' f i=>⟨fun _=> ?_,fun V=> ?_⟩)) (fun _=>g4)
   .exact q3 _ _ (.inr ⟨d,g,by simp[f]⟩) g3
   .rw[k] at i;simp at i;subst i;exact absurd G V
  .rw[if_neg (fun h=>G (t.1 h))];obtain⟨y,L,M,_,_⟩:=jK out.fz H;obtain⟨ρ'',Y,Z,q3⟩:=J y w L M;refine hK _ _ (jdA (sv:= .any) O V A T m Y Z c f1 rfl (fun d f=>kA _) D (fun d g' f i=>⟨fun hh=> ?_,fun _=>rfl⟩)) (fun u=>absurd (E.2 u) G);rw[k] at i;simp at i;subst i;exact absurd hh G
end
end Go.X
namespace Go.X
open Go.RowKit (Below)
theorem jif:∀(l:List Prop) (k:Prop),asks l k->kk l/\k
 |[],_,h=>⟨trivial,h⟩
 |_::r,k,h=>⟨⟨h.1,(jif r k h.2).1⟩,(jif r k h.2).2⟩
theorem jfx (γ:Bool):∀(l:List Prop) (k:Prop),jxS γ l k->(γ=true->kk l)/\k
 |[],_,h=>⟨fun _=>trivial,h⟩
 |_::r,k,h=>⟨fun e=>⟨h.1 e,(jfx γ r k h.2).1 e⟩,(jfx γ r k h.2).2⟩
theorem qG:∀(l:List Prop) (k:Prop),jni l k->kk l->k
 |[],_,h,_=>h
 |_::r,k,h,a=>qG r k (h a.1) a.2
theorem jlR (γ:Bool):∀(l:List Prop) (k:Prop),jw9 γ l k->(γ=true->kk l)->k
 |[],_,h,_=>h
 |_::r,k,h,a=>jlR γ r k (h fun e=>(a e).1) fun e=>(a e).2
theorem jc5 {e:Eff} {es:List Eff} {k:Prop} (h:zo false (e::es) k):jzN e.guard e.vc/\(jzN e.guard e.fact->zo false es k):=by
 simp only[zo] at h;cases b:e.guard with
 |none=>rw[b] at h;have:=jif _ _ h;exact⟨this.1,fun a=>qG _ _ this.2 a⟩
 |some γ=>rw[b] at h;have:=jfx γ _ _ h;exact⟨this.1,fun a=>jlR γ _ _ this.2 a⟩
theorem vo {k:Prop}:∀(es:List Eff),zo true es k->(∀e,e∈es->jzN e.guard e.vc)/\k
 |[],h=>⟨fun e f=>by simp at f,h⟩
 |e::es,h=>by
  simp only[zo] at h
  have:jzN e.guard e.vc/\zo true es k:=by
   cases b:e.guard with
   |none=>rw[b] at h;exact jif _ _ h
   |some γ=>rw[b] at h;exact jfx γ _ _ h
  obtain⟨c,d⟩:=vo es this.2;refine⟨fun x a=> ?_,d⟩;rcases jDT.1 a with rfl|a
  .exact this.1
  .exact c x a
section
variable {P:Program} {B:zu} {C:Ctx} {ops:Array Oper} {Q:Exit->Act->World->Prop}
theorem kP (m:C.ok P) {k:Prop}:∀(l:List Oper) (rs b:RS) (es:List Eff) (a:Act) (w:World),qV C ops.toList l rs=some (es,b)->zo false es k->Inv P B C.n ops rs a w->
 (k->∀d w',Inv P B C.n ops b d w'->Q .normal d w')->wpList P ops Q l a w
 |[],rs,b,es,a,w,h,hk,f,i=>by
  simp[qV] at h
  obtain⟨rfl,rfl⟩:=h
  exact i hk a w f
 |o::r,rs,b,es,a,w,h,hk,f,i=>by
  simp only[qV] at h
  split at h
  .cases h
  rename_i e t
  split at h
  .cases h
  rename_i u
  split at h
  .cases h
  rename_i p x v
  simp at h
  obtain⟨rfl,rfl⟩:=h
  obtain⟨q,s⟩:=jc5 hk
  have:=qc (K:=wpList P ops Q r) (Q:=Q) m t (qk u) (Fit.refl P B rs e) f q (fun d w' g c=>kP m r _ _ _ d w' v (s c) g i)
  unfold wpList
  split
  .rename_i j;rw[if_pos j] at this;exact .inl this
  .rename_i j;rw[if_neg j] at this;exact this
theorem qf (σ:St) (p:SV->Bool):∀(l:List (Nat×SV)) (s:Nat) (v:SV),jt (jct σ p l) s=some v->v= .any
 |[],s,v,h=>by simp[jct,jt] at h
 | (j,x)::r,s,v,h=>by
  simp only[jct] at h
  split at h
  .simp only[jt] at h
   cases a:Nat.beq j s with
   |true=>rw[a] at h;simp at h;exact h.symm
   |false=>rw[a] at h;exact qf σ p r s v h
  .exact qf σ p r s v h
theorem kf (σ:St) (p:SV->Bool):∀(l:List (Nat×SV)) (s:Nat),jt (jct σ p l) s=none->jt l s≠none->p (σ.get s)=false
 |[],s,_,h=>by simp[jt] at h
 | (j,x)::r,s,h,hl=>by
  simp only[jct] at h
  simp only[jt] at hl
  cases a:Nat.beq j s with
  |true=>
   have:=jDQ a
   subst this
   split at h
   .simp[jt] at h
   .rename_i b;exact b
  |false=>
   rw[a] at hl
   split at h
   .simp only[jt,a] at h;exact kf σ p r s h hl
   .exact kf σ p r s h hl
theorem jcI {n m:Nat} {σ:St} {a:Act} {w:World} (h:Rel P B n σ a w):Rel P B n (gc m σ) a w:=by
 unfold gc
 split
 .exact h
 .obtain⟨c,d,ρ,e,f,g⟩:=h;refine⟨c,d,ρ,e,fun s v b=> ?_,g⟩;simp only at b;rw[je] at b
  split at b
  .rename_i x i;simp at b;subst b;rw[qf _ _ _ _ _ i];exact kA _
  .exact f s v b
theorem gU {os:List Nat} {v:SV} (h:jdk os v=false):∀o,o∈os->v.refs o=false:=by
 induction os with
 |nil=>intro o a;simp at a
 |cons x r c=>
  intro o a;simp only[jdk] at h
  split at h
  .cases h
  .rename_i b;rcases jDT.1 a with rfl|a
   .exact b
   .exact c h o a
theorem jtP {n s:Nat} {σ:St} {a:Act} {w:World} (h:Rel P B n σ a w):Rel P B n (joC s σ) a w:=by
 unfold joC
 split
 case h_2=>exact h
 rename_i o t M
 split
 .exact h
 rename_i A;have A:o≠s:=jO A
 split
 case h_2=>exact h
 rename_i x D z;simp only[jDV] at z;obtain⟨z,O⟩:=z;have O:=jD5 O;obtain⟨h1,h2,ρ,f,K,C⟩:=h
 let c:Env:={H:=ρ.H,blk:=fun k=>if k=s then ρ.blk o else if k=o then none else ρ.blk k,len:=fun k=>if k=s then ρ.len o else ρ.len k}
 have N:ρ.le c [s]:=⟨fun _ _ h=>h,fun k p hk g=>by
  have hk:k≠s:=(by simpa using hk);simp only[c,hk,if_false] at g
  split at g
  .cases g
  .exact g,fun k hk=>by simp[c,show k≠s by simpa using hk]⟩
 have m:∀k,({σ with ob:=(s,some x)::(o,none)::σ.ob}:St).obj k=if k=s then some x else if k=o then none else σ.obj k:=by
  intro k;rw[wa,wa]
 have L:∀k T fz cs,σ.obj k=some (.box T fz cs)->SV.refs.refsL s cs=false:=by
  intro k T fz cs hk;simp only[St.obj] at hk
  split at hk
  .rename_i y Y;subst hk;exact qi _ _ k T fz cs z (zb _ _ _ Y)
  .cases hk
 have F:∀k (y:Ob) p,σ.obj k=some y->jX P ρ w k p y->k≠s->jX P c w k p y:=by
  intro k y p hk R G;exact jG N (by simpa using G) (fun T fz cs e r Q=>by simp at Q;subst Q;subst e;exact L k T fz cs hk) (fun _ _ _=>⟨rfl,rfl⟩) R
 refine⟨h1,h2,c,⟨f.os,f.tape,f.output,f.drawn,f.size,f.good,f.oldH,f.old,?_,?_,?_,?_⟩,?_,?_⟩
 rotate_right
 .refine⟨fun k p hk S=> ?_,C.2⟩;have G:k≠s:=fun e=>by omega
  simp only[c,if_neg G] at S⊢
  split at S
  .cases S
  .exact C.1 k p hk S
 .intro k y hk;have d:=m k;simp only[St.obj] at hk d;rw[d] at hk;by_cases e:k=s
  .subst e;rw[if_pos rfl] at hk;simp at hk;subst hk;obtain⟨p,g,R⟩:=f.obs o x D;refine⟨p,by simp[c,g],?_⟩;have i:=F o x p D R A;cases x with
   |box T fz cs=>exact i
   |row E u fz nl l=>
    simp only[jX] at i⊢;obtain⟨q1,q2⟩:=i;refine⟨?_,q2⟩;have W:c.len k=ρ.len o:=(by simp[c]);have J:c.len o=ρ.len o:=(by simp[c,A]);rw[W,<-J];exact q1
   |map fz kt vt l=>exact i
   |iter kt vt left cur=>exact i
   |mape kt vt l key st=>exact i
  .rw[if_neg e] at hk;by_cases j:k=o
   .rw[if_pos j] at hk;cases hk
   .rw[if_neg j] at hk;obtain⟨p,g,R⟩:=f.obs k y hk;exact⟨p,by simp[c,e,j,g],F k y p hk R e⟩
 .intro k hk;have d:=m k;simp only[St.obj] at hk d;rw[d] at hk;by_cases e:k=s
  .rw[if_pos e] at hk;cases hk
  .rw[if_neg e] at hk;by_cases j:k=o
   .simp only[c];rw[if_neg e,if_pos j]
   .rw[if_neg j] at hk;simp only[c];rw[if_neg e,if_neg j];exact f.dead k hk
 .intro k k' b Z C2 hk d;simp only[c] at hk d;by_cases e:k=s<;>by_cases j:k'=s
  .rw[e,j]
  .rw[if_pos e] at hk;rw[if_neg j] at d
   split at d
   .cases d
   .rename_i J;exact absurd (f.inj _ _ _ _ _ hk d).symm J
  .rw[if_neg e] at hk;rw[if_pos j] at d
   split at hk
   .cases hk
   .rename_i J;exact absurd (f.inj _ _ _ _ _ hk d) J
  .rw[if_neg e] at hk;rw[if_neg j] at d
   split at hk
   .cases hk
   .split at d
    .cases d
    .exact f.inj _ _ _ _ _ hk d
 .intro k b Z hk;simp only[c] at hk
  split at hk
  .exact f.own _ _ _ hk
  .split at hk
   .cases hk
   .exact f.own _ _ _ hk
 .intro k v q;simp only at q;by_cases e:k=s
  .subst e;rw[jy] at q;simp at q;subst q;have V:=jC (a:=a) K (.tmp k);simp only[jE] at V;rw[M] at V;simp only[SV.den] at V⊢;intro p g;have X:ρ.blk o=some p:=(by simpa[c] using g);have W:c.len k=ρ.len o:=(by simp[c]);rw[W];exact V p X
  .rw[jq (fun h=>e h.symm),je] at q
   split at q
   .rename_i y Y;simp at q;subst q;rw[qf _ _ _ _ _ Y];exact kA _
   .rename_i I;have g:=kf _ _ _ k I (by rw[q];simp);have hg:σ.get k=v:=(by unfold St.get;rw[q]);rw[hg] at g;exact SV.den_mono N v _ (fun r Q=>by simp at Q;subst Q;exact gU g r (by simp)) (K k v q)
theorem jr1 {ρ:Env}:∀(cs:List SV) (vs:List Value) (j:Nat) (sv:SV),SV.denL P ρ cs vs->cs[j]? =some sv->∃v,vs[j]? =some v/\SV.den P ρ sv v
 |[],_,_,_,_,h=>by simp at h
 |c::cs,vs,j,sv,k,h=>by
  simp only[SV.denL] at k
  obtain⟨v,r,rfl,a,b⟩:=k
  cases j with
  |zero=>simp at h;subst h;exact⟨v,rfl,a⟩
  |succ j=>exact jr1 cs r j sv b (by simpa using h)
theorem jnu {ρ:Env}:∀(cs:List SV) (vs:List Value) (j:Nat) (sv:SV),SV.denL P ρ cs vs->(∀v,vs[j]? =some v->SV.den P ρ sv v)->SV.denL P ρ (cs.set j sv) vs
 |[],_,_,_,k,_=>by simpa using k
 |c::cs,vs,j,sv,k,h=>by
  simp only[SV.denL] at k
  obtain⟨v,r,rfl,d,a⟩:=k
  cases j with
  |zero=>simp only[List.set,SV.denL];exact⟨v,r,rfl,h v rfl,a⟩
  |succ j=>simp only[List.set,SV.denL];exact⟨v,r,rfl,d,jnu cs r j sv a (fun u b=>h u (by simpa using b))⟩
theorem jai {σ:St} {s:Nat}:∀(l:List Nat),jcc σ s l=true->∀(k T:Nat) fz cs,k∈l->σ.obj k=some (.box T fz cs)->SV.refs.refsL s cs=false
 |[],_,_,_,_,_,a,_=>by simp at a
 |j::r,h,k,T,fz,cs,a,hk=>by
  unfold jcc at h
  rcases jDT.1 a with e|a
  .subst e
   rw[hk] at h
   simp only at h
   split at h
   .cases h
   .assumption
  .split at h
   .split at h
    .cases h
    .exact jai r h k T fz cs a hk
   .exact jai r h k T fz cs a hk
theorem ji1 {n b j:Nat} {σ:St} {a:Act} {w:World} (h:Rel P B n σ a w):Rel P B n (jf7 b j σ) a w:=by
 unfold jf7
 split
 case h_2=>exact h
 rename_i T fz cs N
 split
 case h_2=>exact h
 rename_i o F
 split
 case h_2=>exact h
 rename_i I E x;generalize ye b j=s at*;have I:o≠s:=jO I;have E:b≠o:=jO E;have x:b≠s:=jO x
 split
 case h_2=>exact h
 rename_i fm kt vt l D z;simp only[jDV] at z;obtain⟨z,Q⟩:=z;have Q:=jD5 Q;obtain⟨h1,h2,ρ,f,hSl,C⟩:=h
 let d:Env:={H:=ρ.H,blk:=fun k=>if k=s then ρ.blk o else if k=o then none else ρ.blk k,len:=fun k=>if k=s then ρ.len o else ρ.len k}
 have O:ρ.le d [s]:=⟨fun _ _ h=>h,fun k p hk g=>by
  have hk:k≠s:=(by simpa using hk);simp only[d,hk,if_false] at g
  split at g
  .cases g
  .exact g,fun k hk=>by simp[d,show k≠s by simpa using hk]⟩
 have m:∀k,({σ with ob:=(b,some (.box T fz (cs.set j (.mp s))))::(s,some (.map fm kt vt l))::(o,none)::σ.ob}:St).obj k=if k=b then some (.box T fz (cs.set j (.mp s))) else if k=s then some (.map fm kt vt l) else if k=o then none else σ.obj k:=by
  intro k;rw[wa,wa,wa]
 have M:∀k T fz cs,σ.obj k=some (.box T fz cs)->SV.refs.refsL s cs=false:=by
  intro k T fz cs hk;simp only[St.obj] at hk
  split at hk
  .rename_i y W;subst hk;exact jai _ z k T fz cs (jEx.2 ⟨_,zb _ _ _ W,rfl⟩) (by simp only[St.obj,W])
  .cases hk
 have t:∀k (y:Ob) p,σ.obj k=some y->jX P ρ w k p y->k≠s->jX P d w k p y:=by
  intro k y p hk A G;exact jG O (by simpa using G) (fun T fz cs e r R=>by simp at R;subst R;subst e;exact M k T fz cs hk) (fun _ _ _=>⟨rfl,rfl⟩) A
 refine⟨h1,h2,d,⟨f.os,f.tape,f.output,f.drawn,f.size,f.good,f.oldH,f.old,?_,?_,?_,?_⟩,?_,?_⟩
 rotate_right
 .refine⟨fun k p hk V=> ?_,C.2⟩;have G:k≠s:=fun e=>by omega
  simp only[d,if_neg G] at V⊢
  split at V
  .cases V
  .exact C.1 k p hk V
 .intro k y hk;have c:=m k;simp only[St.obj] at hk c;rw[c] at hk;by_cases L:k=b
  .subst L;rw[if_pos rfl] at hk;simp at hk;subst hk;obtain⟨p,g,A⟩:=f.obs k _ N;refine⟨p,by simp[d,x,E,g],?_⟩;have S:=t k _ p N A x;simp only[jX] at A S⊢;obtain⟨b1,X,vs,e1,K,e3,e4,e5⟩:=S;refine⟨b1,X,vs,e1,K,jnu _ _ _ _ e3 (fun v u=> ?_),e4,e5⟩;obtain⟨b2,C2,vs2,Y,Z,f3,_⟩:=A;have:vs2=vs:=by
    rw[e1] at Y;simp at Y;obtain⟨rfl,rfl⟩:=Y;rw[K] at Z;simp at Z;exact Z.symm
   subst this;obtain⟨v',g1,g2⟩:=jr1 _ _ _ _ f3 F;rw[u] at g1;simp at g1;subst g1;simp only[SV.den] at g2⊢;intro q hq;exact g2 q (by simpa[d] using hq)
  .rw[if_neg L] at hk;by_cases e:k=s
   .subst e;rw[if_pos rfl] at hk;simp at hk;subst hk;obtain⟨p,g,A⟩:=f.obs o _ D;exact⟨p,by simp[d,g],t o _ p D A I⟩
   .rw[if_neg e] at hk;by_cases i:k=o
    .rw[if_pos i] at hk;cases hk
    .rw[if_neg i] at hk;obtain⟨p,g,A⟩:=f.obs k y hk;exact⟨p,by simp[d,e,i,g],t k y p hk A e⟩
 .intro k hk;have c:=m k;simp only[St.obj] at hk c;rw[c] at hk;by_cases L:k=b
  .rw[if_pos L] at hk;cases hk
  rw[if_neg L] at hk;by_cases e:k=s
  .rw[if_pos e] at hk;cases hk
  .rw[if_neg e] at hk;by_cases i:k=o
   .simp only[d];rw[if_neg e,if_pos i]
   .rw[if_neg i] at hk;simp only[d];rw[if_neg e,if_neg i];exact f.dead k hk
 .intro k k' b X C2 hk c;simp only[d] at hk c;by_cases e:k=s<;>by_cases i:k'=s
  .rw[e,i]
  .rw[if_pos e] at hk;rw[if_neg i] at c
   split at c
   .cases c
   .rename_i K;exact absurd (f.inj _ _ _ _ _ hk c).symm K
  .rw[if_neg e] at hk;rw[if_pos i] at c
   split at hk
   .cases hk
   .rename_i K;exact absurd (f.inj _ _ _ _ _ hk c) K
  .rw[if_neg e] at hk;rw[if_neg i] at c
   split at hk
   .cases hk
   .split at c
    .cases c
    .exact f.inj _ _ _ _ _ hk c
 .intro k b X hk;simp only[d] at hk
  split at hk
  .exact f.own _ _ _ hk
  .split at hk
   .cases hk
   .exact f.own _ _ _ hk
 .intro k v u;simp only at u;rw[je] at u
  split at u
  .rename_i y W;simp at u;subst u;rw[qf _ _ _ _ _ W];exact kA _
  .rename_i J;have g:=kf _ _ _ k J (by rw[u];simp);have hg:σ.get k=v:=(by unfold St.get;rw[u]);rw[hg] at g;exact SV.den_mono O v _ (fun r R=>by simp at R;subst R;exact gU g r (by simp)) (hSl k v u)
theorem jgN (kp:Bool) {n b j:Nat} {σ:St} {a:Act} {w:World} (h:Rel P B n σ a w):Rel P B n (jb1 kp b j σ) a w:=by
 unfold jb1
 split
 case h_2=>exact h
 rename_i T fz cs Y
 split
 case h_2=>exact h
 rename_i o u M
 split
 case h_2=>exact h
 rename_i G L D;generalize yZ b j=s at*;have G:o≠s:=jO G;have L:b≠o:=jO L;have D:b≠s:=jO D
 split
 case h_2=>exact h
 rename_i E t0 fr nl l K F;simp only[jDV] at F;obtain⟨F,hlt⟩:=F;have hlt:=jD5 hlt;obtain⟨h1,h2,ρ,f,W,J⟩:=h
 let c:Env:={H:=ρ.H,blk:=fun k=>if k=s then ρ.blk o else if k=o then none else ρ.blk k,len:=fun k=>if k=s then ρ.len o else ρ.len k}
 have Z:ρ.le c [s]:=⟨fun _ _ h=>h,fun k p hk t=>by
  have hk:k≠s:=(by simpa using hk);simp only[c,hk,if_false] at t
  split at t
  .cases t
  .exact t,fun k hk=>by simp[c,show k≠s by simpa using hk]⟩
 have A:∀k,({σ with ob:=(b,some (.box T fz (cs.set j (.own s u))))::(s,some (.row E t0 fr nl l))::(o,none)::σ.ob}:St).obj k=if k=b then some (.box T fz (cs.set j (.own s u))) else if k=s then some (.row E t0 fr nl l) else if k=o then none else σ.obj k:=by
  intro k;rw[wa,wa,wa]
 have X:∀k T fz cs,σ.obj k=some (.box T fz cs)->SV.refs.refsL s cs=false:=by
  intro k T fz cs hk;simp only[St.obj] at hk
  split at hk
  .rename_i y g;subst hk;exact jai _ F k T fz cs (jEx.2 ⟨_,zb _ _ _ g,rfl⟩) (by simp only[St.obj,g])
  .cases hk
 have C:∀k (y:Ob) p,σ.obj k=some y->jX P ρ w k p y->k≠s->jX P c w k p y:=by
  intro k y p hk I N;exact jG Z (by simpa using N) (fun T fz cs e r hr=>by simp at hr;subst hr;subst e;exact X k T fz cs hk) (fun _ _ _=>⟨rfl,rfl⟩) I
 refine⟨h1,h2,c,⟨f.os,f.tape,f.output,f.drawn,f.size,f.good,f.oldH,f.old,?_,?_,?_,?_⟩,?_,?_⟩
 rotate_right
 .refine⟨fun k p hk hb=> ?_,J.2⟩;have N:k≠s:=fun e=>by omega
  simp only[c,if_neg N] at hb⊢
  split at hb
  .cases hb
  .exact J.1 k p hk hb
 .intro k y hk;have d:=A k;simp only[St.obj] at hk d;rw[d] at hk;by_cases S:k=b
  .subst S;rw[if_pos rfl] at hk;simp at hk;subst hk;obtain⟨p,t,I⟩:=f.obs k _ Y;refine⟨p,by simp[c,D,L,t],?_⟩;have hs':=C k _ p Y I D;simp only[jX] at I hs'⊢;obtain⟨b1,C1,vs,e1,R,e3,e4,e5⟩:=hs';refine⟨b1,C1,vs,e1,R,jnu _ _ _ _ e3 (fun v m=> ?_),e4,e5⟩;obtain⟨b2,C2,vs2,f1,f2,f3,_⟩:=I;have:vs2=vs:=by
    rw[e1] at f1;simp at f1;obtain⟨rfl,rfl⟩:=f1;rw[R] at f2;simp at f2;exact f2.symm
   subst this;obtain⟨v',g1,V⟩:=jr1 _ _ _ _ f3 M;rw[m] at g1;simp at g1;subst g1;simp only[SV.den] at V⊢;intro q hq;have:=V q (by simpa[c] using hq);simpa[c] using this
  .rw[if_neg S] at hk;by_cases e:k=s
   .subst e;rw[if_pos rfl] at hk;simp at hk;subst hk;obtain⟨p,t,I⟩:=f.obs o _ K;have h3:=C o _ p K I G;refine⟨p,by simp[c,t],?_⟩;simp only[jX] at h3⊢;exact⟨by have:=h3.1;simpa[c,G] using this,h3.2⟩
   .rw[if_neg e] at hk;by_cases z:k=o
    .rw[if_pos z] at hk;cases hk
    .rw[if_neg z] at hk;obtain⟨p,t,I⟩:=f.obs k y hk;exact⟨p,by simp[c,e,z,t],C k y p hk I e⟩
 .intro k hk;have d:=A k;simp only[St.obj] at hk d;rw[d] at hk;by_cases S:k=b
  .rw[if_pos S] at hk;cases hk
  rw[if_neg S] at hk;by_cases e:k=s
  .rw[if_pos e] at hk;cases hk
  .rw[if_neg e] at hk;by_cases z:k=o
   .simp only[c];rw[if_neg e,if_pos z]
   .rw[if_neg z] at hk;simp only[c];rw[if_neg e,if_neg z];exact f.dead k hk
 .intro k k' b C1 C2 hk d;simp only[c] at hk d;by_cases e:k=s<;>by_cases z:k'=s
  .rw[e,z]
  .rw[if_pos e] at hk;rw[if_neg z] at d
   split at d
   .cases d
   .rename_i R;exact absurd (f.inj _ _ _ _ _ hk d).symm R
  .rw[if_neg e] at hk;rw[if_pos z] at d
   split at hk
   .cases hk
   .rename_i R;exact absurd (f.inj _ _ _ _ _ hk d) R
  .rw[if_neg e] at hk;rw[if_neg z] at d
   split at hk
   .cases hk
   .split at d
    .cases d
    .exact f.inj _ _ _ _ _ hk d
 .intro k b C1 hk;simp only[c] at hk
  split at hk
  .exact f.own _ _ _ hk
  .split at hk
   .cases hk
   .exact f.own _ _ _ hk
 .intro k v m;simp only at m;rw[je] at m
  split at m
  .rename_i y g;simp at m;subst m
   split at g
   case h_2=>simp[jt] at g
   unfold jCm at g
   split at g
   case h_2=>simp[jt] at g
   rename_i o' t' i
   split at g
   case h_2=>simp[jt] at g
   rename_i Q;have Q:=jDQ Q;subst Q;simp only[jt] at g
   split at g
   case h_2=>cases g
   rename_i hk;have hk:=jDQ hk;subst hk;simp at g;subst g;have hl:jt σ.sl o'=some (.own o' t'):=by
    unfold St.get at i
    split at i
    .rename_i x hx;rw[hx,i]
    .cases i
   have V:=W o' _ hl;simp only[SV.den] at V⊢;intro q hq;have:=V q (by simpa[c] using hq);simpa[c] using this
  .rename_i hnone0;rw[je] at m
   split at m
   .rename_i y g;simp at m;subst m;rw[qf _ _ _ _ _ g];exact kA _
   .rename_i O;have t:=kf _ _ _ k O (by rw[m];simp);have hg:σ.get k=v:=(by unfold St.get;rw[m]);rw[hg] at t;exact SV.den_mono Z v _ (fun r hr=>by simp at hr;subst hr;exact gU t r (by simp)) (W k v m)
theorem ji0 {n b j:Nat} {σ:St} {a:Act} {w:World} (h:Rel P B n σ a w):Rel P B n (jmH b j σ) a w:=jgN false h
theorem ji2 {n b:Nat}:∀(j:Nat) {σ:St} {a:Act} {w:World},Rel P B n σ a w->Rel P B n (jmI b j σ) a w
 |0,_,_,_,h=>h
 |j+1,_,_,_,h=>by
  have c:=ji2 (b:=b) j h
  show Rel P B n (joD b j _) _ _
  unfold joD
  split
  .split
   .split
    .exact ji0 c
    .exact c
   .exact c
  .exact c
theorem jq1 {n:Nat} {σ:St} {a:Act} {w:World} (t:Nat) (x:Operand) (h:Rel P B n σ a w):Rel P B n (jiX σ t x) a w:=by
 unfold jiX
 split
 .exact ji2 _ (jgN _ h)
 .exact h
theorem jgM {n b:Nat}:∀(j:Nat) {σ:St} {a:Act} {w:World},Rel P B n σ a w->Rel P B n (jh2 b j σ) a w
 |0,_,_,_,h=>h
 |j+1,_,_,_,h=>ji0 (jgM j h)
theorem jdj {n:Nat} {σ:St} {a:Act} {w:World} (t:Nat) (h:Rel P B n σ a w):Rel P B n (jdi σ t) a w:=by
 unfold jdi
 split
 .exact jgM _ (ji1 h)
 .exact ji1 h
 .exact h
theorem jq2 {n:Nat} {σ:St} {a:Act} {w:World} (c:Callee) (h:Rel P B n σ a w):Rel P B n (jiY σ c) a w:=by
 unfold jiY
 split
 .exact jdj _ h
 .exact h
theorem jq3 {n:Nat} {σ:St} {a:Act} {w:World} (l:List Operand) (h:Rel P B n σ a w):Rel P B n (jiZ σ l) a w:=by
 unfold jiZ
 split
 .exact jdj _ h
 .exact h
theorem za {n:Nat} {a:Act} {w:World}:∀(l:List Oper) {σ:St},Rel P B n σ a w->Rel P B n (kF l σ) a w
 |[],_,h=>h
 |o::r,σ,h=>by
  simp only[kF]
  split
  .exact za r (jdj _ (jtP h))
  .exact za r (jq2 _ (jq3 _ h))
  .exact za r (jq1 _ _ h)
  .exact za r h
end
end Go.X
namespace Go.X
open Go.RowKit (Below)
def eL {α:Type} (f:zL->List α) (D:Nat->Bool):List zL->Nat->List α
 |[],_=>[]
 |x::r,i=>eL f D r (i+1)++(match D i with|true=>f x|false=>[])
theorem js3 {α:Type} (f:zL->List α) (D:Nat->Bool):∀(aZ:List zL) (i:Nat),eL f D aZ (i+1)=eL f (fun k=>D (k+1)) aZ i
 |[],_=>rfl
 |_::r,i=>by simp only[eL];rw[js3 f D r (i+1)]
theorem jfj {α:Type} (f:zL->List α) {D D':Nat->Bool}:∀(aZ:List zL) (i:Nat),(∀k,i<=k->k<i+aZ.length->D k=D' k)->eL f D aZ i=eL f D' aZ i
 |[],_,_=>rfl
 |_::r,i,h=>by
  simp only[eL]
  rw[jfj f r (i+1) (fun k a b=>h k (by omega) (by simp only[jEr];omega)),h i (jDW _) (by simp only[jEr];omega)]
theorem qD {α:Type} (f:zL->List α) (D:Nat->Bool) (y:α):∀(aZ:List zL) (i:Nat),y∈eL f D aZ i↔∃k x,aZ[k]? =some x/\D (i+k)=true/\y∈f x
 |[],i=>by simp[eL]
 |x::r,i=>by
  simp only[eL,jDY]
  rw[qD f D y r (i+1)]
  constructor
  .rintro(⟨k,e,a,b,c⟩|h)
   .exact⟨k+1,e,by simpa using a,by rw[<-b];congr 1;omega,c⟩
   .cases d:D i with
    |true=>rw[d] at h;exact⟨0,x,by simp,by simpa using d,h⟩
    |false=>rw[d] at h;simp at h
  .rintro⟨k,e,a,b,c⟩
   cases k with
   |zero=>simp at a b;subst a;right;rw[b];exact c
   |succ k=>left;exact⟨k,e,by simpa using a,by rw[<-b];congr 1;omega,c⟩
theorem qg {α:Type} (ks:List Nat):∀(l r:List (Nat×α)),keep ks (l++r)=keep ks l++keep ks r
 |[],r=>rfl
 | (k,x)::l,r=>by
  simp only[jEi,keep]
  cases vH ks k<;>simp[qg ks l r]
theorem jjC {α:Type} {f:zL->List (Nat×α)} {D D':Nat->Bool} {ks:List Nat}:∀(aZ:List zL) (i:Nat),(∀k x,aZ[k]? =some x->D (i+k)≠D' (i+k)->keep ks (f x)=[])->keep ks (eL f D aZ i)=keep ks (eL f D' aZ i)
 |[],_,_=>rfl
 |x::r,i,h=>by
  simp only[eL,qg]
  rw[jjC r (i+1) (fun k y a b=>h (k+1) y (by simpa using a) (by rw[show i+(k+1)=i+1+k by omega];exact b))]
  congr 1
  by_cases e:D i=D' i
  .rw[e]
  .have:=h 0 x (by simp) (by simpa using e)
   cases a:D i<;>cases b:D' i<;>simp_all [keep]
theorem jjs {α:Type} {f:zL->List (Nat×α)} {D D':Nat->Bool} {s:Nat}:∀(aZ:List zL) (i:Nat),(∀k x,aZ[k]? =some x->D (i+k)≠D' (i+k)->jt (f x) s=none)->jt (eL f D aZ i) s=jt (eL f D' aZ i) s
 |[],_,_=>rfl
 |x::r,i,h=>by
  simp only[eL]
  rw[je,je,jjs r (i+1) (fun k y a b=>h (k+1) y (by simpa using a) (by rw[show i+(k+1)=i+1+k by omega];exact b))]
  by_cases e:D i=D' i
  .rw[e]
  .have:=h 0 x (by simp) (by simpa using e)
   cases a:D i<;>cases b:D' i<;>simp_all [jt]
theorem jac {α:Type} {f:zL->List (Nat×α)} {D D':Nat->Bool} {s i:Nat} {x:zL} (hi:D i=false) (a:D' i=true) (d:∀k,k≠i->D' k=D k):
 ∀(aZ:List zL) (j m:Nat),j+m=i->aZ[m]? =some x->(∀k y,m<k->aZ[k]? =some y->D (j+k)=true->jt (f x) s≠none->jt (f y) s=none)->
  jt (eL f D' aZ j) s=jt (f x++eL f D aZ j) s
 |[],_,m,_,h,_=>by simp at h
 |y::r,j,0,hj,h,hk=>by
  simp at h hj
  subst h hj
  have e:eL f D' r (j+1)=eL f D r (j+1):=jfj f r (j+1) (fun k b _=>d k (by omega))
  simp only[eL,hi,a,e]
  rw[je,je,je]
  by_cases g:jt (f y) s=none
  .rw[g];simp[jt]
  .have:jt (eL f D r (j+1)) s=none:=by
    have q:=jjs (f:=f) (D:=D) (D':=fun _=>false) (s:=s) r (j+1) (fun k z b p=>by
     have c:D (j+1+k)=true:=by cases w:D (j+1+k)<;>simp_all
     exact hk (k+1) z (by omega) (by simpa using b) (by rw[show j+(k+1)=j+1+k by omega];exact c) g)
    rw[q];have:∀(l:List zL) (n:Nat),eL f (fun _=>false) l n=[]:=by
     intro l
     induction l with
     |nil=>intro n;rfl
     |cons z l o=>intro n;simp[eL,o]
    rw[this];rfl
   rw[this];cases u:jt (f y) s with
   |none=>exact absurd u g
   |some v=>simp[]
 |y::r,j,m+1,hj,h,hk=>by
  have o:=jac hi a d r (j+1) m (by omega) (by simpa using h) (fun k z b p c t=>hk (k+1) z (by omega) (by simpa using p) (by rw[show j+(k+1)=j+1+k by omega];exact c) t);simp only[eL,d j (by omega)];rw[je,o,je,je,je];cases jt (f x) s<;>rfl
def bld (D:Nat->Bool) (aZ:List zL) (rs:RS):RS:=⟨⟨eL (·.e.sl) D aZ 0++rs.st.sl,eL (·.e.ob) D aZ 0++rs.st.ob⟩,eL (·.e.gl) D aZ 0++rs.gl⟩
theorem jny (D:Nat->Bool) (x:zL) (aZ:List zL) (rs:RS) (h:D 0=true):bld D (x::aZ) rs=bld (fun k=>D (k+1)) aZ (jY x.e rs):=by
 unfold bld jY;simp only[eL,h,js3,jEb]
theorem jam (aZ:List zL) (rs:RS) {D:Nat->Bool} (h:∀k,D k=false):bld D aZ rs=rs:=by
 have:∀{α:Type} (f:zL->List α) (l:List zL) (n:Nat),eL f D l n=[]:=by
  intro α f l
  induction l with
  |nil=>intro n;rfl
  |cons z l a=>intro n;simp[eL,a,h]
 simp[bld,this]
theorem jal (D:Nat->Bool) (aZ:List zL) (rs:RS) (o:Nat):(bld D aZ rs).st.obj o=(match jt (eL (·.e.ob) D aZ 0) o with|some x=>x|none=>rs.st.obj o):=by
 simp only[St.obj,bld];rw[je];cases jt (eL (fun x=>x.e.ob) D aZ 0) o<;>rfl
theorem ky:∀(l r:List Nat),jbw l r=false->∀k,k∈l->k∉r
 |[],r,_,k,hk=>by simp at hk
 |o::l,r,h,k,hk=>by
  simp only[jbw] at h
  split at h
  .cases h
  .rename_i a
   rcases jDT.1 hk with rfl|hk
   .intro b;rw[(zQ r k).2 b] at a;cases a
   .exact ky l r h k hk
structure jDr (σ:St) (nb:List Nat) (x y:zL) (r:Nat):Prop where
 mv:y.mv=true
 nb:r∉nb
 nn:r∉x.nn
 bf:y9 (σ.obj r)=false
theorem jf0 {σ:St} {nb mk names:List Nat}:∀(l:List Nat),jvy σ nb mk names l=true->∀r,r∈l->r∈names->r∉nb/\r∉mk/\y9 (σ.obj r)=false
 |[],_,r,a,_=>by simp at a
 |z::l,h,r,a,hn=>by
  simp only[jvy] at h
  split at h
  .rename_i e
   rcases jDT.1 a with rfl|a
   .rw[(zQ _ _).2 hn] at e;cases e
   .exact jf0 l h r a hn
  .split at h
   .rename_i c d f
    rcases jDT.1 a with rfl|a
    .refine⟨fun b=> ?_,fun b=> ?_,f⟩
     .rw[(zQ _ _).2 b] at c;cases c
     .rw[(zQ _ _).2 b] at d;cases d
    .exact jf0 l h r a hn
   .cases h
theorem jop {σ:St} {nb:List Nat} {x y:zL} (h:jCT σ nb x y=true) {r:Nat} (d:r∈x.ws) (e:r∈y.names):jDr σ nb x y r:=by
 unfold jCT at h
 split at h
 .rename_i f;obtain⟨a,b,c⟩:=jf0 _ h r d e;exact⟨f,a,b,c⟩
 .cases h
theorem jgY {l r:List Nat} {s:Bool} (h:jsR l r s=false):∀k,k∈l->k∈r->s=true:=by
 intro k hk b;unfold jsR at h;cases a:jbw l r with
 |true=>
  rw[a] at h;cases s with
  |true=>rfl
  |false=>cases h
 |false=>exact absurd b (ky _ _ a k hk)
structure NT (σ:St) (nb:List Nat) (x y:zL):Prop where
 sl:∀s,s∈zK x.e.sl->s∉zK y.e.sl
 s1:∀s,s∈zK x.e.sl->s∉y.slots
 s2:∀s,s∈zK y.e.sl->s∉x.slots
 ws:∀o,o∈x.ws->o∉y.ws
 o1:∀o,o∈x.ws->o∈y.names->jDr σ nb x y o
 o2:∀o,o∈y.ws->o∈x.names->jDr σ nb y x o
theorem NT.symm {σ:St} {nb:List Nat} {x y:zL} (h:NT σ nb x y):NT σ nb y x:=⟨fun s a b=>h.sl s b a,h.s2,h.s1,fun o a b=>h.ws o b a,h.o2,h.o1⟩
theorem jyg {σ:St} {nb:List Nat} {x y:zL} (h:jyh σ nb x y=false):NT σ nb x y:=by
 unfold jyh at h
 split at h
 .rename_i c e f g i;have c:=ky _ _ c;exact⟨fun s d a=>c s d (jDS _ a),fun s d a=>c s d (jDR _ a),ky _ _ e,ky _ _ f,
   fun o b a=>jop (jgY g o b a) b a,fun o b a=>jop (jgY i o b a) b a⟩
 .cases h
theorem jeF {σ:St} {nb:List Nat} (x:zL) (before:List Nat):∀(l:List zL) (j:Nat),jb2 σ nb x before l j=true->∀k y,l[k]? =some y->jyh σ nb y x=false\/j+k∈before
 |[],_,_,k,y,h=>by simp at h
 |z::r,j,h,k,y,hk=>by
  simp only[jb2] at h
  have a:jb2 σ nb x before r (j+1)=true:=by
   split at h
   .split at h
    .exact h
    .cases h
   .exact h
  cases k with
  |zero=>
   simp at hk;subst hk
   split at h
   .split at h
    .rename_i c;exact .inr (by simpa using(zQ _ _).1 c)
    .cases h
   .rename_i d;exact .inl d
  |succ k=>
   rcases jeF x before r (j+1) a k y (by simpa using hk) with b|b
   .exact .inl b
   .exact .inr (by rw[show j+(k+1)=j+1+k by omega];exact b)
theorem qz {σ:St} {nb:List Nat} (all:List zL):∀(l:List zL) (ps:List (List Nat)) (k:Nat),yv σ nb all l ps k=true->∀m y,l[m]? =some y->∃p,ps[m]? =some p/\∀j x,j<k+m->all[j]? =some x->NT σ nb x y\/j∈p
 |[],_,_,_,m,y,h=>by simp at h
 |_::_,[],_,h,_,_,_=>by simp[yv] at h
 |z::r,p::ps,k,h,m,y,hm=>by
  simp only[yv] at h
  split at h
  .rename_i e
   cases m with
   |zero=>
    simp at hm;subst hm
    refine⟨p,by simp,fun j x f b=> ?_⟩
    have:=jeF _ _ _ _ e j x (by rw[jEe (by omega)];exact b)
    rcases this with a|a
    .exact .inl (jyg a)
    .exact .inr (by simpa using a)
   |succ m=>
    obtain⟨g,c,d⟩:=qz all r ps (k+1) h m y (by simpa using hm)
    exact⟨g,by simpa using c,fun j x f b=>d j x (by omega) b⟩
  .cases h
theorem jbm (b:List (List Nat)):∀(es:List Edge) (l:List Nat),jf8 b es=some l->
 (∀e,e∈es->Region.binds .any e=true->e.on<b.length)/\∀j,j∈l->∃e,e∈es/\Region.binds .any e=true/\(j=e.on\/∃p,b[e.on]? =some p/\j∈p)
 |[],l,h=>by
  simp[jf8] at h;subst h
  exact⟨fun e t=>by simp at t,fun j c=>by simp at c⟩
 |e::r,l,h=>by
  simp only[jf8] at h
  split at h
  .cases h
  rename_i l' n
  obtain⟨q,s⟩:=jbm b r l' n
  split at h
  .rename_i g
   simp at h;subst h
   refine⟨fun f a d=> ?_,fun j c=> ?_⟩
   .rcases jDT.1 a with rfl|a
    .rw[g] at d;cases d
    .exact q f a d
   .obtain⟨f,i,k,m⟩:=s j c
    exact⟨f,jD1 _ i,k,m⟩
  .rename_i g
   split at h
   .rename_i p o
    simp at h;subst h
    refine⟨fun f a d=> ?_,fun j c=> ?_⟩
    .rcases jDT.1 a with rfl|a
     .exact(jDU.1 o).1
     .exact q f a d
    .rcases(zF _ _ _).1 c with c|c
     .exact⟨e,jEt,g,.inr ⟨p,o,c⟩⟩
     .have:j=e.on\/j∈l':=by
       split at c
       .exact .inr c
       .rcases jDT.1 c with h|h
        .exact .inl h
        .exact .inr h
      rcases this with rfl|c
      .exact⟨e,jEt,g,.inl rfl⟩
      .obtain⟨f,i,k,m⟩:=s j c;exact⟨f,jD1 _ i,k,m⟩
   .cases h
theorem wR:∀(l:List Oper) (a ps:List (List Nat)),z8 l a=some ps->
 (∃t,ps=a++t)/\∀m o,l[m]? =some o->∃p,ps[a.length+m]? =some p/\jf8 (ps.take (a.length+m)) o.after.toList=some p
 |[],a,ps,h=>by
  simp[z8] at h;subst h
  exact⟨⟨[],by simp⟩,fun m o b=>by simp at b⟩
 |x::r,a,ps,h=>by
  simp only[z8] at h
  split at h
  .rename_i p c
   obtain⟨⟨t,rfl⟩,d⟩:=wR r (a++[p]) ps h
   refine⟨⟨p::t,by simp⟩,fun m o b=> ?_⟩
   cases m with
   |zero=>
    simp at b;subst b
    refine⟨p,by simp,?_⟩
    have:(a++[p]++t).take (a.length+0)=a:=by simp
    rw[this];exact c
   |succ m=>
    have:=d m o (by simpa using b)
    simp only[jEd,jEr,jEF] at this
    rw[show a.length+(m+1)=a.length+(0+1)+m by omega]
    exact this
  .cases h
end Go.X
namespace Go.X
open Go.RowKit (Below)
theorem jeT {α:Type} (ks:List Nat):∀(l:List (Nat×α)) (s:Nat) (v:α),jt (keep ks l) s=some v->jt l s=some v
 |[],s,v,h=>by simp[keep,jt] at h
 | (j,x)::r,s,v,h=>by
  simp only[keep] at h
  cases c:vH ks j with
  |true=>
   rw[c] at h
   simp only[jt] at h⊢
   cases a:Nat.beq j s with
   |true=>rw[a] at h;exact h
   |false=>rw[a] at h;exact jeT ks r s v h
  |false=>
   rw[c] at h
   have h:=jeT ks r s v h
   simp only[jt]
   cases a:Nat.beq j s with
   |true=>
    have:=jDQ a
    subst this
    have hk:∀(l:List (Nat×α)),jt (keep ks l) j=none:=by
     intro l
     induction l with
     |nil=>rfl
     |cons y l e=>
      obtain⟨k,z⟩:=y;simp only[keep];cases hk:vH ks k with
      |false=>exact e
      |true=>
       simp only[jt];cases b:Nat.beq k j with
       |true=>have:=jDQ b;subst this;rw[c] at hk;cases hk
       |false=>exact e
    rename_i d;rw[hk r] at d;cases d
   |false=>exact h
theorem jh6 {α:Type} (ks:List Nat):∀(l:List (Nat×α)) (y:Nat×α),y∈keep ks l->y∈l/\y.1∈ks
 |[],y,h=>by simp[keep] at h
 | (j,x)::r,y,h=>by
  simp only[keep] at h
  cases a:vH ks j with
  |true=>
   rw[a] at h
   rcases jDT.1 h with rfl|h
   .exact⟨jEt,(zQ _ _).1 a⟩
   .have:=jh6 ks r y h;exact⟨jD1 _ this.1,this.2⟩
  |false=>
   rw[a] at h
   have:=jh6 ks r y h;exact⟨jD1 _ this.1,this.2⟩
theorem jeY {α:Type} {ks:List Nat}:∀(l:List (Nat×α)),(∀y,y∈l->y.1∉ks)->keep ks l=[]
 |[],_=>rfl
 | (j,x)::r,h=>by
  simp only[keep]
  cases a:vH ks j with
  |true=>exact absurd ((zQ _ _).1 a) (h (j,x) jEt)
  |false=>exact jeY r (fun y b=>h y (jD1 _ b))
theorem jb5 {α:Type}:∀(l:List (Nat×α)) (k:Nat),k∈zK l↔∃x,(k,x)∈l
 |[],k=>by simp[zK]
 | (j,y)::r,k=>by
  simp only[zK,jDT,jb5 r k]
  constructor
  .rintro(rfl|⟨x,a⟩)
   .exact⟨y,.inl rfl⟩
   .exact⟨x,.inr a⟩
  .rintro⟨x,h|h⟩
   .simp at h;exact .inl h.1
   .exact .inr ⟨x,h⟩
theorem jm {α:Type}:∀(l:List (Nat×α)) (k:Nat),k∉zK l->jt l k=none
 |[],k,_=>rfl
 | (j,y)::r,k,h=>by
  simp only[zK,jDT,not_or] at h
  rw[jq (fun e=>h.1 e.symm)]
  exact jm r k h.2
theorem qE {α:Type} {l:List (Nat×α)} {k:Nat} (h:jt l k≠none):k∈zK l:=by
 by_cases a:k∈zK l
 .exact a
 .exact absurd (jm l k a) h
theorem jm4:∀(l:List (Nat×SV)) (s:Nat) (v:SV) (r:Nat),(s,v)∈l->r∈v.rl->r∈jBM l
 |[],_,_,_,h,_=>by simp at h
 | (j,x)::l,s,v,r,h,hr=>by
  simp only[jBM]
  rw[zF]
  rcases jDT.1 h with e|h
  .simp at e;obtain⟨_,rfl⟩:=e;exact .inl hr
  .exact .inr (jm4 l s v r h hr)
theorem jm5:∀(l:List (Nat×(Nat×Bool)×SV)) (s:Nat) g (v:SV) (r:Nat),(s,g,v)∈l->r∈v.rl->r∈jBN l
 |[],_,_,_,_,h,_=>by simp at h
 | (j,a,x)::l,s,g,v,r,h,hr=>by
  simp only[jBN]
  rw[zF]
  rcases jDT.1 h with e|h
  .simp at e;obtain⟨_,_,rfl⟩:=e;exact .inl hr
  .exact .inr (jm5 l s g v r h hr)
theorem jjp:∀(l:List (Nat×Option Ob)) (o T:Nat) fz cs (r:Nat),(o,some (.box T fz cs))∈l->r∈SV.rl.rlL cs->r∈jqZ l
 |[],_,_,_,_,_,h,_=>by simp at h
 | (j,y)::l,o,T,fz,cs,r,h,hr=>by
  rcases jDT.1 h with e|h
  .simp at e
   obtain⟨_,rfl⟩:=e
   simp only[jqZ,jDY]
   exact .inl hr
  .have:=jjp l o T fz cs r h hr
   unfold jqZ
   split
   .rename_i e;cases e
   .rename_i e;cases e;exact jDR _ this
   .rename_i e;cases e;exact this
theorem jsP (σ:St):∀(os:List Nat) (o T:Nat) fz cs (r:Nat),o∈os->σ.obj o=some (.box T fz cs)->r∈SV.rl.rlL cs->r∈jku σ os
 |[],_,_,_,_,_,h,_,_=>by simp at h
 |k::os,o,T,fz,cs,r,h,ho,hr=>by
  rcases jDT.1 h with rfl|h
  .simp only[jku,ho]
   rw[zF];exact .inl hr
  .have:=jsP σ os o T fz cs r h ho hr
   simp only[jku]
   split
   .rw[zF];exact .inr this
   .exact this
theorem jls {σ τ:St}:∀(os:List Nat),(∀o,o∈os->σ.obj o=τ.obj o)->jku σ os=jku τ os
 |[],_=>rfl
 |k::os,h=>by
  simp only[jku,h k jEt,jls os (fun o a=>h o (jD1 _ a))]
theorem jm3 {σ:St}:∀(n:Nat) (os:List Nat) (o:Nat),o∈os->o∈jww σ n os
 |0,_,_,h=>h
 |n+1,_,o,h=>jm3 n _ o ((zF _ _ _).2 (.inr h))
theorem jlD {σ τ:St}:∀(n:Nat) (os:List Nat),(∀o,o∈jww τ n os->σ.obj o=τ.obj o)->jww σ n os=jww τ n os
 |0,_,_=>rfl
 |n+1,os,h=>by
  simp only[jww] at h⊢
  have e:jku σ os=jku τ os:=jls os (fun o a=>h o (jm3 n _ o ((zF _ _ _).2 (.inr a))))
  rw[e]
  exact jlD n _ h
theorem jqU {slots:List Nat} {r s:RS} (b:keep slots r.st.sl=keep slots s.st.sl) (c:keep slots r.gl=keep slots s.gl) (a:∀o,o∈(zp slots s).1->r.st.obj o=s.st.obj o):zp slots r=zp slots s:=by
 unfold zp at a⊢;simp only at a⊢;rw[b,c];have e:=jlD (σ:=r.st) (τ:=s.st) 3 _ a;rw[e];congr 3;exact List.map_congr_left fun o d=>by rw[a o d]
theorem jsT (f:Nat->Option Ob):∀(os:List Nat) (o:Nat),jt (os.map fun k=>(k,f k)) o=if o∈os then some (f o) else none
 |[],o=>by simp[jt]
 |k::os,o=>by
  simp only[jEV,jt]
  cases c:Nat.beq k o with
  |true=>have:=jDQ c;subst this;simp
  |false=>
   have b:k≠o:=jO c
   simp only[jsT f os o,jDT]
   by_cases a:o∈os
   .simp[a]
   .have:¬(o=k\/o∈os):=by rintro(h|h);exact b h.symm;exact a h
    rw[if_neg a,if_neg this]
section
variable {P:Program} {B:zu} {C:Ctx} {ops:Array Oper} {Q:Exit->Act->World->Prop}
theorem yO (slots:List Nat) (rs:RS) (o:Nat):(zp slots rs).2.st.obj o=if o∈(zp slots rs).1 then rs.st.obj o else none:=by
 unfold zp;simp only[St.obj];rw[jsT]
 split<;>rename_i h<;>split at h<;>simp_all
theorem jiO {slots:List Nat} {rs:RS} {e:Eff} (p:jlX (zp slots rs).1 (zp slots rs).2 e=true):Fit P B rs (zp slots rs).2 e:=by
 unfold jlX at p
 split at p
 case h_2=>cases p
 rename_i c1 c2 k l m;have c1:=qb _ _ c1;have c2:=qb _ _ c2;have k:=qb _ _ k;have l:=qb _ _ l;have m:=qb _ _ m;have a:=yO slots rs;refine⟨fun s v h=>jeT slots _ s v h,fun x z=>(jh6 slots _ x z).1,fun o x h=> ?_,fun ρ w A j=> ?_⟩
 .rw[a] at h
  split at h
  .exact h
  .cases h
 .have D:(zp slots rs).2.st.obj=jv9 (zp slots rs).1 rs.st.obj:=funext fun o=>by rw[a];rfl
  refine⟨⟨w,ρ.H,jS ρ (zp slots rs).1,fun _=>none,fun _=>0⟩,jf9 (zp slots rs).1 ρ,jh3 _ _,by rw[D];exact js0 A _,fun L w' n q=> ?_⟩;have b:∀o,({(zp slots rs).2.st with ob:=e.ob++(zp slots rs).2.st.ob}:St).obj o=(match jt e.ob o with|some x=>x|none=>(zp slots rs).2.st.obj o):=by
   intro o;simp only[St.obj];rw[je];cases jt e.ob o<;>rfl
  obtain⟨ρ'',I,J,K⟩:=jpy (σ:=rs.st) A (zp slots rs).1 e.nw (fun d E=>(j d E).2) n q (fun o T fz cs f r u=>by
   rw[b] at f;have c:=yR cs r u
   split at f
   .rename_i x z;subst f;exact jDY.1 (l r (jjp _ o T fz cs r (zb _ _ _ z) c))
   .have i:o∈(zp slots rs).1:=by
     rw[a] at f
     split at f
     .assumption
     .cases f
    exact .inr (c1 r (jsP _ _ o T fz cs r i f c)))
  refine⟨ρ'',?_,J,fun v x G=>K v x (fun r u=> ?_)⟩
  .have:(jY e rs).st.obj=(fun o=>if o∈e.nw\/o∈(zp slots rs).1 then({(zp slots rs).2.st with ob:=e.ob++(zp slots rs).2.st.ob}:St).obj o else rs.st.obj o):=funext fun o=>by
    have C:(jY e rs).st.obj o=(match jt e.ob o with|some x=>x|none=>rs.st.obj o):=by
     simp only[St.obj,jY];rw[je];cases jt e.ob o<;>rfl
    rw[C,b];cases F:jt e.ob o with
    |some x=>
     have hk:=m o (qE (by rw[F];simp));rw[if_pos (jDY.1 hk)]
    |none=>
     simp only;rw[a];by_cases i:o∈(zp slots rs).1
     .rw[if_pos (.inr i),if_pos i]
     .rw[if_neg i];by_cases t:o∈e.nw
      .rw[if_pos (.inl t)];exact(j o t).1
      .rw[if_neg (by rintro(h|h);exact t h;exact i h)]
   rw[this];exact I
  .have c:=jq4 v r u;rcases G with⟨s,y⟩|⟨s,g,y⟩
   .exact jDY.1 (c2 r (jm4 _ s v r y c))
   .exact jDY.1 (k r (jm5 _ s g v r y c))
end
end Go.X
namespace Go.X
open Go.RowKit (Below)
section
variable {P:Program} {B:zu} {C:Ctx} {ops:Array Oper} {Q:Exit->Act->World->Prop}
structure wT (C:Ctx) (ops:List Oper) (aZ:List zL) (rs:RS) (i:Nat) (o:Oper) (x:zL):Prop where
 get:aZ[i]? =some x
 eff:gm C ops o (zp (jQ ops o) (bld (fun k=>decide (k<i)) aZ rs)).2=some x.e
 fit:fits C ops o (bld (fun k=>decide (k<i)) aZ rs) x.e=true
 cl:jlX (zp (jQ ops o) (bld (fun k=>decide (k<i)) aZ rs)).1 (zp (jQ ops o) (bld (fun k=>decide (k<i)) aZ rs)).2 x.e=true
 slots:x.slots=jQ ops o
 os:x.os=(zp (jQ ops o) (bld (fun k=>decide (k<i)) aZ rs)).1
 ws:x.ws=zK x.e.ob++x.nn
 mv:x.mv=jCq (jP (zp (jQ ops o) (bld (fun k=>decide (k<i)) aZ rs)).2 []) o
 nn:x.nn=jDd o x.e
theorem vz {d:List Oper}:∀(l:List Oper) (rs b:RS) (aZ:List zL),jiS C d l rs=some (aZ,b)->
 aZ.length=l.length/\b=bld (fun _=>true) aZ rs/\∀i o,l[i]? =some o->∃x,wT C d aZ rs i o x
 |[],rs,b,aZ,h=>by
  simp[jiS] at h
  obtain⟨rfl,rfl⟩:=h
  exact⟨rfl,rfl,fun i o h=>by simp at h⟩
 |o::r,rs,b,aZ,h=>by
  simp only[jiS] at h
  split at h
  .cases h
  rename_i e v
  split at h
  case h_2=>cases h
  rename_i w u
  split at h
  .cases h
  rename_i a F z
  simp only[Option.some.injEq,Prod.mk.injEq] at h
  obtain⟨rfl,rfl⟩:=h
  obtain⟨B,D,E⟩:=vz r _ _ _ z
  refine⟨by simp[B],by rw[jny _ _ _ _ rfl];exact D,fun i o' hi=> ?_⟩
  cases i with
  |zero=>
   simp at hi;subst hi
   have c:∀a,bld (fun k=>decide (k<0)) a rs=rs:=fun a=>jam _ _ (fun k=>by simp)
   refine⟨_,by simp;rfl,?_,?_,?_,rfl,?_,rfl,?_,rfl⟩
   .rw[c];exact v
   .rw[c];exact w
   .rw[c];exact u
   .rw[c]
   .rw[c]
  |succ i=>
   obtain⟨x,f,g,j,m,n,p,q,s,t⟩:=E i o' (by simpa using hi)
   have es:∀y:zL,y.e=e->bld (fun k=>decide (k<i+1)) (y::a) rs=bld (fun k=>decide (k<i)) a (jY e rs):=by
    intro y A;rw[jny _ _ _ _ (by simp),A];congr 1;funext k;simp
   refine⟨x,by simpa using f,?_,?_,?_,n,?_,q,?_,t⟩
   .rw[es _ rfl];exact g
   .rw[es _ rfl];exact j
   .rw[es _ rfl];exact m
   .rw[es _ rfl];exact p
   .rw[es _ rfl];exact s
theorem gj {f:List Oper} {o:Oper} {R:RS} {e:Eff} (h:gm C f o R=some e):(∃sv,e.sl=jot o sv)/\∀s g v,(s,g,v)∈e.gl->o.dst=some s/\o.guard=some g:=by
 unfold gm at h
 split at h
 .split at h
  .cases h
  .simp at h;subst h;exact⟨⟨_,rfl⟩,fun s g v a=>by simp at a⟩
 .rename_i i b
  split at h
  .cases h
  .split at h
   .cases h
   .split at h
    .simp at h;subst h;refine⟨⟨_,rfl⟩,fun s g v a=> ?_⟩;simp only at a
     split at a
     .rename_i d c;simp at a;obtain⟨rfl,rfl,rfl⟩:=a;exact⟨c,b⟩
     .simp at a
    .cases h
theorem jbz {o:Oper} {sv:SV} {s:Nat}:s∈zK (jot o sv)↔o.dst=some s:=by
 unfold jot
 split
 .rename_i d a;rw[a];simp[zK];exact eq_comm
 .rename_i a;rw[a];simp[zK]
theorem jk2 {l:List Oper} {j dj:Nat} {b:Bool} (h:yC l j=some dj):dj∈gi l l.length (some (j,b)):=by
 unfold yC at h;cases a:l[j]? with
 |none=>rw[a] at h;cases h
 |some o=>
  rw[a] at h;simp only at h;have:0<l.length:=(by have:=(jDU.1 a).1;omega);obtain⟨n,c⟩:∃n,l.length=n+1:=⟨l.length-1,by omega⟩;rw[c];simp only[gi,a,h];exact jEt
section
variable {aZ:List zL} {rs:RS} {D:Nat->Bool} {i:Nat} {o:Oper} {x:zL} {nb:List Nat}
theorem jvB (f:∀k y,aZ[k]? =some y->∃o',ops.toList[k]? =some o'/\wT C ops.toList aZ rs k o' y) (m:wT C ops.toList aZ rs i o x)
 (d:∀k y,aZ[k]? =some y->D k≠decide (k<i)->NT rs.st nb x y) (l:∀k y,aZ[k]? =some y->D k≠decide (k<i)->∀r,r∈y.ws->r∉x.names):
 zp (jQ ops.toList o) (bld D aZ rs)=zp (jQ ops.toList o) (bld (fun k=>decide (k<i)) aZ rs):=by
 have j:∀(k:Nat) (y:zL),aZ[k]? =some y->∀z,z∈y.e.gl->z.1∈zK y.e.sl:=by
  intro k y hk z h;obtain⟨_,_,c⟩:=f k y hk;obtain⟨⟨sv,a⟩,b⟩:=gj c.eff;obtain⟨s,g,v⟩:=z;rw[a];exact jbz.2 (b s g v h).1
 refine jqU ?_ ?_ ?_
 .simp only[bld,qg];congr 1;refine jjC aZ 0 (fun k y a b=>jeY _ (fun z h=> ?_));rw[<-m.slots];exact(d k y a (by simpa using b)).s2 z.1 ((jb5 _ _).2 ⟨z.2,h⟩)
 .simp only[bld,qg];congr 1;refine jjC aZ 0 (fun k y a b=>jeY _ (fun z h=> ?_));rw[<-m.slots];exact(d k y a (by simpa using b)).s2 z.1 (j k y a z h)
 .intro r n;rw[<-m.os] at n;rw[jal,jal];rw[jjs (D:=D) (D':=fun k=>decide (k<i)) aZ 0 (fun k y a b=>jm _ _ (fun hk=> ?_))];obtain⟨_,_,c⟩:=f k y a;refine l k y a (by simpa using b) r ?_ ?_
  .rw[c.ws];exact jDS _ hk
  .unfold zL.names;simp[n]
theorem jr7:∀(l:List zL) (r:Nat),r∉vR l->∀y,y∈l->∀z,(r,z)∈y.e.ob->y9 z=false:=by
 have one:∀(l:List (Nat×Option Ob)) (r:Nat),r∉jjh l->∀z,(r,z)∈l->y9 z=false:=by
  intro l
  induction l with
  |nil=>intro r _ z h;simp at h
  |cons a l c=>
   intro r h z b;obtain⟨q,y⟩:=a;simp only[jjh] at h
   split at h
   .rcases jDT.1 b with e|b
    .simp at e;obtain⟨rfl,rfl⟩:=e;simp at h
    .exact c r (fun i=>h (by simp[i])) z b
   .rename_i g;rcases jDT.1 b with e|b
    .simp at e;obtain⟨rfl,rfl⟩:=e;exact g
    .exact c r h z b
 intro l
 induction l with
 |nil=>intro r _ y h;simp at h
 |cons a l c=>
  intro r h y d z f;simp only[vR,jDY,not_or] at h;rcases jDT.1 d with rfl|d
  .exact one _ r h.1 z f
  .exact c r h.2 y d z f
def EqB (σ τ:St) (o:Nat):Prop:=σ.obj o=τ.obj o\/(y9 (σ.obj o)=false/\y9 (τ.obj o)=false)
theorem jsE {σ:St} {o:Nat} {os:List Nat} (h:y9 (σ.obj o)=false):jku σ (o::os)=jku σ os:=by
 simp only[jku]
 split
 .rename_i e;rw[e] at h;cases h
 .rfl
theorem jdg {σ τ:St}:∀(os:List Nat),(∀o,o∈os->EqB σ τ o)->jku σ os=jku τ os
 |[],_=>rfl
 |k::os,h=>by
  have a:=jdg os (fun o d=>h o (jD1 _ d))
  rcases h k jEt with e|⟨b,c⟩
  .simp only[jku,e,a]
  .rw[jsE b,jsE c,a]
theorem jjm {σ τ:St}:∀(n:Nat) (os:List Nat),(∀o,o∈jww τ n os->EqB σ τ o)->jww σ n os=jww τ n os
 |0,_,_=>rfl
 |n+1,os,h=>by
  simp only[jww] at h⊢
  have e:jku σ os=jku τ os:=jdg os (fun o a=>h o (jm3 n _ o ((zF _ _ _).2 (.inr a))))
  rw[e]
  exact jjm n _ h
theorem jim:∀(l:List (Nat×(Nat×Bool)×SV)),gI l []=[]
 |[]=>rfl
 |z::l=>by simp only[gI,jgm];exact jim l
theorem jzj {l:List Oper} {R i:RS} (h:jCq (jP R []) o=true) (s:R.st.sl=i.st.sl) (n:∀b,y9 (R.st.obj b)=true->i.st.obj b=R.st.obj b):gm C l o R=gm C l o i:=by
 have opE:∀z,jE (jP R []) z=jE (jP i []) z:=by
  intro z;cases z with
  |tmp t=>simp only[jE,St.get,jP,jim,jEj,s]
  |const v=>rfl
  |global g=>rfl
  |func f=>rfl
 have key:o.guard=none->yu C l o R []=yu C l o i []->(∀out,yu C l o R []=some out->out.fz=[])->gm C l o R=gm C l o i:=by
  intro e p q;unfold gm;rw[e];simp only;rw[<-p];cases d:yu C l o R [] with
  |none=>rfl
  |some out=>simp only[q out d,wY]
 unfold jCq at h
 split at h
 .rename_i z j e;refine key e ?_ ?_
  .simp only[yu,j,e,js,opE z]
  .intro out d;simp only[yu,j,e,js,Option.some.injEq] at d;subst d;rfl
 .rename_i U z j e
  split at h
  case h_2=>cases h
  rename_i b k c;have m:(jP i []).obj b=(jP R []).obj b:=n b h;have a:=c;rw[opE z] at a;refine key e ?_ ?_
  .simp only[yu,j,e,js,c,a,m]
  .intro out d;simp only[yu,j,e,js,c] at d
   repeat' split at d
   all_goals first|cases d;rfl|cases d
 .rename_i U z f j e
  split at h
  case h_2=>cases h
  rename_i b k c;have m:(jP i []).obj b=(jP R []).obj b:=n b h;have a:=c;rw[opE z] at a;have r:jju (jP i []) b=jju (jP R []) b:=(by unfold jju;rw[m]);refine key e ?_ ?_
  .simp only[yu,j,e,js,c,a,r]
  .intro out d;simp only[yu,j,e,js,c] at d
   repeat' split at d
   all_goals first|cases d;rfl|cases d
 .cases h
theorem jBj (m:∀k y,aZ[k]? =some y->∃o',ops.toList[k]? =some o'/\wT C ops.toList aZ rs k o' y) (j:wT C ops.toList aZ rs i o x) (E:nb=vR aZ)
 (h:∀k y,aZ[k]? =some y->D k≠decide (k<i)->NT rs.st nb x y):
 gm C ops.toList o (zp (jQ ops.toList o) (bld D aZ rs)).2=some x.e/\jlX (zp (jQ ops.toList o) (bld D aZ rs)).1 (zp (jQ ops.toList o) (bld D aZ rs)).2 x.e=true:=by
 by_cases K:∃k y r,aZ[k]? =some y/\D k≠decide (k<i)/\r∈y.ws/\r∈x.names
 .obtain⟨S,Z,Y,T,V,W,X⟩:=K;have M:=((h S Z T V).o2 Y W X).mv;rw[j.mv] at M;have A:∀(k:Nat) (y:zL),aZ[k]? =some y->∀z,z∈y.e.gl->z.1∈zK y.e.sl:=by
   intro k y hk z p;obtain⟨_,_,n⟩:=m k y hk;obtain⟨⟨sv,a⟩,f⟩:=gj n.eff;obtain⟨s,g,v⟩:=z;rw[a];exact jbz.2 (f s g v p).1
  have u:keep (jQ ops.toList o) (bld D aZ rs).st.sl=keep (jQ ops.toList o) (bld (fun k=>decide (k<i)) aZ rs).st.sl:=by
   simp only[bld,qg];congr 1;refine jjC aZ 0 (fun k y a f=>jeY _ (fun z p=> ?_));rw[<-j.slots];exact(h k y a (by simpa using f)).s2 z.1 ((jb5 _ _).2 ⟨z.2,p⟩)
  have G:keep (jQ ops.toList o) (bld D aZ rs).gl=keep (jQ ops.toList o) (bld (fun k=>decide (k<i)) aZ rs).gl:=by
   simp only[bld,qg];congr 1;refine jjC aZ 0 (fun k y a f=>jeY _ (fun z p=> ?_));rw[<-j.slots];exact(h k y a (by simpa using f)).s2 z.1 (A k y a z p)
  have l:∀r,r∈x.os->EqB (bld D aZ rs).st (bld (fun k=>decide (k<i)) aZ rs).st r:=by
   intro r d;by_cases hk:∃k y,aZ[k]? =some y/\D k≠decide (k<i)/\r∈zK y.e.ob
   .obtain⟨k,y,a,f,t⟩:=hk;obtain⟨_,_,n⟩:=m k y a;have L:=(h k y a f).o2 r (by rw[n.ws];exact jDS _ t) (by unfold zL.names;simp[d]);have I:=jr7 aZ r (by rw[<-E];exact L.nb);have J:∀D':Nat->Bool,y9 ((bld D' aZ rs).st.obj r)=false:=by
     intro D';rw[jal]
     split
     .rename_i z p;obtain⟨k,y,a,_,t⟩:=(qD _ _ _ _ _).1 (zb _ _ _ p);exact I y (jEM a) z t
     .exact L.bf
    exact .inr ⟨J _,J _⟩
   .refine .inl ?_;rw[jal,jal];rw[jjs (D:=D) (D':=fun k=>decide (k<i)) aZ 0 (fun k y a f=>jm _ _ (fun B=>hk ⟨k,y,a,by simpa using f,B⟩))]
  have c:=j.os;have H:(zp (jQ ops.toList o) (bld D aZ rs)).1=x.os:=by
   rw[c];unfold zp;simp only;rw[u,G];refine jjm 3 _ (fun r d=>l r ?_);rw[c];unfold zp;exact d
  refine⟨?_,?_⟩
  .rw[<-j.eff];refine(jzj M (by unfold zp;exact u.symm) (fun b q=> ?_)).symm;rw[yO] at q⊢;rw[yO];rw[H,<-c];by_cases d:b∈x.os
   .rw[<-c,if_pos d] at q;rw[if_pos d,if_pos d];rcases l b d with e|⟨_,e⟩
    .exact e
    .rw[e] at q;cases q
   .rw[<-c,if_neg d] at q;cases q
  .have w:=j.cl;rw[<-c] at w;rw[H];unfold jlX at w⊢
   split at w
   case h_2=>cases w
   rename_i c1 c2 O P Q;have N:jku (zp (jQ ops.toList o) (bld D aZ rs)).2.st x.os=jku (zp (jQ ops.toList o) (bld (fun k=>decide (k<i)) aZ rs)).2.st x.os:=jdg _ (fun r d=>by
    unfold EqB;rw[yO,yO,H,<-c,if_pos d,if_pos d];exact l r d)
   rw[N,c1,c2,O,P,Q]
 .have F:∀k y,aZ[k]? =some y->D k≠decide (k<i)->∀r,r∈y.ws->r∉x.names:=fun k y a f r t R=>K ⟨k,y,r,a,f,t,R⟩
  rw[jvB m j h F];exact⟨j.eff,j.cl⟩
theorem jz3 (p:∀k y,aZ[k]? =some y->∃o',ops.toList[k]? =some o'/\wT C ops.toList aZ rs k o' y) (w:wT C ops.toList aZ rs i o x) (e:∀k y,aZ[k]? =some y->D k≠decide (k<i)->NT rs.st nb x y) {d:Nat} (l:d∈x.nn)
 (h:jx2 (bld (fun k=>decide (k<i)) aZ rs) d):jx2 (bld D aZ rs) d:=by
 have fact:∀k y,aZ[k]? =some y->∃o',wT C ops.toList aZ rs k o' y:=by
  intro k y b;obtain⟨_,_,t⟩:=p k y b;exact⟨_,t⟩
 have u:d∈x.ws:=(by rw[w.ws];exact jDR _ l);have o1:∀{y:zL},NT rs.st nb x y->d∉y.names:=fun{y} h n=>(h.o1 d u n).nn l
 have j:∀{sv:SV},d∉sv.rl->sv.refs d=false:=fun{sv} n=>by
  cases m:sv.refs d with
  |false=>rfl
  |true=>exact absurd (jq4 sv d m) n
 refine⟨?_,?_,?_,?_,h.lt⟩
 .have b:=h.obj;rw[jal] at b⊢;rw[jjs (D:=D) (D':=fun k=>decide (k<i)) aZ 0 (fun k y b c=>jm _ _ (fun hk=> ?_))]
  .exact b
  .obtain⟨o',z⟩:=fact k y b;exact(e k y b (by simpa using c)).ws d u (by rw[z.ws];exact jDS _ hk)
 .intro s v a;simp only[bld] at a;rcases jDY.1 a with a|a
  .obtain⟨k,y,b,c,f⟩:=(qD _ _ _ _ _).1 a;simp only[jER] at c;by_cases hk:k<i
   .exact h.sl s v (by simp only[bld];exact jDS _ ((qD _ _ _ _ _).2 ⟨k,y,b,by simpa using hk,f⟩))
   .refine j fun q=>o1 (e k y b (by rw[c];simp[hk])) ?_
    unfold zL.names;exact jDS _ (jm4 _ s v d f q)
  .exact h.sl s v (by simp only[bld];exact jDR _ a)
 .intro s g v a;simp only[bld] at a;rcases jDY.1 a with a|a
  .obtain⟨k,y,b,c,f⟩:=(qD _ _ _ _ _).1 a;simp only[jER] at c;by_cases hk:k<i
   .exact h.gl s g v (by simp only[bld];exact jDS _ ((qD _ _ _ _ _).2 ⟨k,y,b,by simpa using hk,f⟩))
   .refine j fun q=>o1 (e k y b (by rw[c];simp[hk])) ?_
    unfold zL.names;exact jDR _ (jDS _ (jm5 _ s g v d f q))
  .exact h.gl s g v (by simp only[bld];exact jDR _ a)
 .intro r T fz cs a;simp only[bld] at a;rcases jDY.1 a with a|a
  .obtain⟨k,y,b,c,f⟩:=(qD _ _ _ _ _).1 a;simp only[jER] at c;by_cases hk:k<i
   .exact h.ob r T fz cs (by simp only[bld];exact jDS _ ((qD _ _ _ _ _).2 ⟨k,y,b,by simpa using hk,f⟩))
   .cases m:SV.refs.refsL d cs with
    |false=>rfl
    |true=>
     refine absurd ?_ (o1 (e k y b (by rw[c];simp[hk])));unfold zL.names;exact jDR _ (jDR _ (jDS _ (jjp _ r T fz cs d f (yR cs d m))))
  .exact h.ob r T fz cs (by simp only[bld];exact jDR _ a)
theorem jxd (c:∀k y,aZ[k]? =some y->∃o',ops.toList[k]? =some o'/\wT C ops.toList aZ rs k o' y) (n:wT C ops.toList aZ rs i o x)
 (a:∀k y,aZ[k]? =some y->D k≠decide (k<i)->NT rs.st nb x y):jnF C ops o (bld D aZ rs) x.e:=by
 have l:=qk (ops:=ops) n.fit;refine⟨l.frame,fun d g s j b v m=> ?_,l.guard,fun d g=> ?_,fun r=> ?_⟩
 .simp only[bld] at m;rcases jDY.1 m with m|m
  .obtain⟨k,y,p,t,u⟩:=(qD _ _ _ _ _).1 m;simp only[jER] at t;by_cases hk:k<i
   .exact l.gl d g s j b v (by simp only[bld];exact jDS _ ((qD _ _ _ _ _).2 ⟨k,y,p,by simpa using hk,u⟩))
   .have B:=a k y p (by rw[t];simp[hk]);obtain⟨_,_,f⟩:=c k y p;obtain⟨⟨sv,E⟩,F⟩:=gj f.eff;obtain⟨w,z⟩:=F s (j,b) v u;obtain⟨⟨H,G⟩,_⟩:=gj n.eff;have q:d∈zK x.e.sl:=(by rw[G];exact jbz.2 g);obtain⟨dj,A,_⟩:=(qk (ops:=ops) f.fit).guard s w j b z;refine⟨fun e=> ?_,dj,A,fun e=> ?_⟩
    .subst e;exact B.sl s q (by rw[E];exact jbz.2 w)
    .subst e;refine B.s1 dj q ?_;rw[f.slots];unfold jQ;rw[z];exact jDR _ (jk2 A)
  .exact l.gl d g s j b v (by simp only[bld];exact jDR _ m)
 .exact jz3 c n a (by rw[n.nn];exact jDS _ g) (l.nw d g)
 .refine jz3 c n a ?_ (l.dst r);rw[n.nn];refine jDR _ ?_
  split
  .rename_i p t;rcases r with h|h
   .exact absurd p h
   .rw[t] at h;cases h
  .exact jEt
end
theorem jbD {n:Nat} {r s:RS} {a:Act} {w:World} (h:Inv P B n ops r a w) (c:∀k,jt s.st.sl k=jt r.st.sl k) (d:∀k,s.st.obj k=r.st.obj k) (e:∀y,y∈s.gl->y∈r.gl):Inv P B n ops s a w:=by
 obtain⟨l,o,ρ,j,b,f,i⟩:=h;refine⟨l,o,ρ,by rw[show s.st.obj=r.st.obj from funext d];exact j,fun k v p=>b k v (by rw[<-c];exact p),fun k g v m=>f k g v (e _ m),i⟩
end
end Go.X
namespace Go.X
open Go.RowKit (Below)
theorem jpS {p q:Nat->Bool}:∀(l:List Nat) (x:Nat),x∈l->p x=true->q x=false->(∀y,q y=true->p y=true)->l.countP q<l.countP p
 |[],x,h,_,_,_=>by simp at h
 |y::l,x,h,hp,hq,hqp=>by
  have le:l.countP q<=l.countP p:=List.countP_mono_left fun z _ b=>hqp z b
  simp only[jFg]
  rcases jDT.1 h with rfl|h
  .simp[hp,hq];omega
  .have:=jpS l x h hp hq hqp
   have:(if q y=true then 1 else 0)<=(if p y=true then 1 else 0):=by
    cases a:q y with
    |false=>simp
    |true=>simp[hqp y a]
   omega
def cnt (n:Nat) (a:Array Bool):Nat:=(List.range n).countP fun k=> !(a.getD k false)
theorem jcb {a:Array Bool} {i:Nat} (hi:i<a.size) (k:Nat):(a.setIfInBounds i true).getD k false=if k=i then true else a.getD k false:=by
 simp only[jDZ,jD8];by_cases e:k=i
 .subst e;simp[hi]
 .rw[if_neg (fun h=>e h.symm),if_neg e]
theorem jxC {n:Nat} {a:Array Bool} {i:Nat} (hi:i<a.size) (c:i<n) (d:a.getD i false=false):cnt n (a.setIfInBounds i true)<cnt n a:=by
 refine jpS _ i (by simpa using c) (by simp[d]) (by rw[jcb hi];simp) (fun y b=> ?_);rw[jcb hi] at b
 split at b
 .simp at b
 .exact b
def Clo (ops:Array Oper) (D:Nat->Bool):Prop:=∀k o,ops.toList[k]? =some o->D k=true->∀e,e∈o.after.toList->Region.binds .any e=true->D e.on=true
theorem qn {ops:Array Oper} {ps:List (List Nat)} (b:z8 ops.toList []=some ps) {D:Nat->Bool} (t:Clo ops D):∀(n k:Nat),k<n->∀o p,ops.toList[k]? =some o->
 (∀e,e∈o.after.toList->Region.binds .any e=true->D e.on=true)->ps[k]? =some p->∀j,j∈p->D j=true
 |0,k,h,_,_,_,_,_,_,_=>by omega
 |n+1,k,hk,o,p,w,u,F,j,E=>by
  obtain⟨_,g⟩:=wR _ _ _ b
  obtain⟨G,c,r⟩:=g k o w
  simp only[jEF,jER] at c r
  rw[F] at c;simp at c;subst c
  obtain⟨B,C⟩:=jbm _ _ _ r
  obtain⟨e,d,f,y⟩:=C j E
  rcases y with rfl|⟨q,s,z⟩
  .exact u e d f
  .have m:e.on<k:=by have:=B e d f;simp at this;omega
   have v:=(jDU.1 w).1
   rw[jEe m] at s
   have a:=jDX (l:=ops.toList) (i:=e.on) (by omega)
   exact qn b t n e.on (by omega) _ q a (fun x A g=>t e.on _ a (u e d f) x A g) s j z
theorem qC {ops:Array Oper} {a:Array Bool} (k:a.size=ops.size) {i:Nat}:i∈Region.ready .any ops a↔∃o,ops.toList[i]? =some o/\a.getD i false=false/\∀e,e∈o.after.toList->Region.binds .any e=true->a.getD e.on false=true:=by
 unfold Region.ready;simp only[jEa,jEg,jDV,jEl,jEA];constructor
 .rintro⟨d,b,c⟩;have j:ops[i]? =some ops[i]:=jEf d;rw[j] at c;simp only[Option.map_some,Option.getD_some,Array.all_eq_true_iff_forall_mem] at c;refine⟨ops[i],j,?_,fun e g f=> ?_⟩
  .rw[jDZ] at b⊢;have:a[i]? =some a[i]:=jEf (by omega);rw[this] at b⊢;simpa using b
  .have:=c e (by simpa using g);simpa[f] using this
 .rintro⟨o,d,b,c⟩;have h:=(jD2.1 d).1;refine⟨h,?_,?_⟩
  .rw[jDZ] at b⊢;have:a[i]? =some a[i]:=jEf (by omega);rw[this] at b⊢;simpa using b
  .rw[d];simp only[Option.map_some,Option.getD_some,Array.all_eq_true_iff_forall_mem];intro e g;cases f:Region.binds .any e with
   |false=>simp
   |true=>simp[c e (by simpa using g) f]
theorem gB {ops:Array Oper} {ps:List (List Nat)} (b:z8 ops.toList []=some ps) {a:Array Bool} (l:a.size=ops.size) (j:Region.ready .any ops a=[]):
 ∀n k,k<n->k<ops.size->a.getD k false=true
 |0,k,h,_=>by omega
 |n+1,k,hk,c=>by
  cases p:a.getD k false with
  |true=>rfl
  |false=>
   have i:ops.toList[k]? =some ops.toList[k]:=jDX (by simpa using c)
   obtain⟨_,o⟩:=wR _ _ _ b
   obtain⟨r,q,m⟩:=o k _ i
   obtain⟨d,_⟩:=jbm _ _ _ m
   have:k∈Region.ready .any ops a:=(qC l).2 ⟨_,i,p,fun e g f=>gB b l j n e.on (by have:=d e g f;simp at this;omega) (by have:=d e g f;simp at this;omega)⟩
   rw[j] at this;simp at this
section
variable {P:Program} {B:zu} {C:Ctx} {ops:Array Oper} {Q:Exit->Act->World->Prop} {aZ:List zL} {rs:RS} {ps:List (List Nat)}
theorem jxT (hC:C.ok P) (m:∀k o',ops.toList[k]? =some o'->∃y,wT C ops.toList aZ rs k o' y) (Y:aZ.length=ops.toList.length) (J:z8 ops.toList []=some ps) {nb:List Nat} (hnb:nb=vR aZ) (hord:yv rs.st nb aZ aZ ps 0=true)
 (hvc:∀y,y∈aZ->jzN y.e.guard y.e.vc) (hQ:∀a w,Inv P B C.n ops (bld (fun _=>true) aZ rs) a w->Q .normal a w):
 ∀(c:Nat) (b:Array Bool) (a:Act) (w:World),b.size=ops.size->cnt ops.size b<=c->Clo ops (fun k=>b.getD k false)->Inv P B C.n ops (bld (fun k=>b.getD k false) aZ rs) a w->
  wpAny P .any ops Q c b a w:=by
 have hf:∀k y,aZ[k]? =some y->∃o',ops.toList[k]? =some o'/\wT C ops.toList aZ rs k o' y:=by
  intro k y hk;have Z:=(jDU.1 hk).1;have v:k<ops.toList.length:=(by omega);obtain⟨y',t⟩:=m k ops.toList[k] (jDX v);have:=t.get;rw[hk] at this;simp at this;subst this;exact⟨_,jDX v,t⟩
 have R:∀(b:Array Bool) (a:Act) (w:World),(∀k,k<ops.size->b.getD k false=true)->Inv P B C.n ops (bld (fun k=>b.getD k false) aZ rs) a w->Q .normal a w:=by
  intro b a w hl M;refine hQ a w ?_;have e:∀{α:Type} (f:zL->List α),eL f (fun k=>b.getD k false) aZ 0=eL f (fun _=>true) aZ 0:=fun f=>jfj f aZ 0 (fun k _ hk=>hl k (by simp at Y;omega))
  have:bld (fun k=>b.getD k false) aZ rs=bld (fun _=>true) aZ rs:=(by unfold bld;rw[e,e,e]);rw[<-this];exact M
 intro c
 induction c with
 |zero=>
  intro b a w hs hc _ M;have hl:∀k,k<ops.size->b.getD k false=true:=by
   intro k hk;cases L:b.getD k false with
   |true=>rfl
   |false=>
    have h0:cnt ops.size b=0:=(by omega);have:=jE9.1 h0 k (by simpa using hk);simp[L] at this
  refine⟨?_,R b a w hl M⟩;rw[List.eq_nil_iff_forall_not_mem];intro i hi;obtain⟨o,F,G,_⟩:=(qC hs).1 hi;have:=(jDU.1 F).1;rw[hl i (by simpa using this)] at G;cases G
 |succ c ih=>
  intro b a w hs hc j M;refine⟨fun hr=>R b a w (fun k hk=>gB J hs hr (k+1) k (by omega) hk) M,fun i hi=> ?_⟩;obtain⟨o,F,G,h3⟩:=(qC hs).1 hi;have Z:i<ops.size:=(by have:=(jDU.1 F).1;simpa using this);obtain⟨x,A⟩:=m i o F;have q:=qz _ _ _ _ hord;have E:∀(k:Nat) (y:zL),aZ[k]? =some y->∃o',ops.toList[k]? =some o':=by
   intro k y hk;have:=(jDU.1 hk).1;exact⟨_,jDX (by omega)⟩
  have u:∀(k:Nat) (y:zL),aZ[k]? =some y->(fun k=>b.getD k false) k≠decide (k<i)->NT rs.st nb x y:=by
   intro k y hk hne;simp only at hne;obtain⟨o',d⟩:=E k y hk;by_cases hki:k<i
   .have L:b.getD k false=false:=by cases hh:b.getD k false<;>simp_all
    obtain⟨p,O,e2⟩:=q i x A.get;rcases e2 k y (by omega) hk with h|h
    .exact h.symm
    .have:=qn J j (i+1) i (by omega) o p F h3 O k h;rw[L] at this;cases this
   .have L:b.getD k false=true:=by cases hh:b.getD k false<;>simp_all
    have hne':k≠i:=fun e=>by subst e;rw[G] at L;cases L
    obtain⟨p,O,e2⟩:=q k y hk;rcases e2 i x (by omega) A.get with h|h
    .exact h
    .have:=qn J j (k+1) k (by omega) o' p d (fun e he hb=>j k o' d L e he hb) O i h;rw[G] at this;cases this
  obtain⟨V,hcl⟩:=jBj (D:=fun k=>b.getD k false) hf A hnb u;have W:=jxd (D:=fun k=>b.getD k false) hf A u;have l:∀k,(b.setIfInBounds i true).getD k false=if k=i then true else b.getD k false:=jcb (by omega);have I:Clo ops (fun k=>(b.setIfInBounds i true).getD k false):=by
   intro k o' d hk e he hb;simp only at hk⊢;rw[l] at hk⊢
   split
   .rfl
   .by_cases e':k=i
    .subst e';rw[F] at d;simp at d;subst d;exact h3 e he hb
    .rw[if_neg e'] at hk;exact j k o' d hk e he hb
  have g:=qc (K:=wpAny P .any ops Q c (b.setIfInBounds i true)) (Q:=Q) hC V W (jiO hcl) M (hvc x (jEM A.get)) (fun a' w' hI' _=>by
   refine ih _ a' w' (by simpa using hs) (by have:=jxC (n:=ops.size) (by omega) Z G;omega) I ?_;have ins:∀{α:Type} (f:zL->List (Nat×α)) (s:Nat),(∀(k:Nat) (y:zL),i<k->aZ[k]? =some y->b.getD k false=true->jt (f x) s≠none->jt (f y) s=none)->
    jt (eL f (fun k=>(b.setIfInBounds i true).getD k false) aZ 0) s=jt (f x++eL f (fun k=>b.getD k false) aZ 0) s:=by
    intro α f s hh;refine jac (i:=i) G (by show(b.setIfInBounds i true).getD i false=true;rw[l,if_pos rfl]) (fun k hk=>by show(b.setIfInBounds i true).getD k false=_;rw[l,if_neg hk]) aZ 0 i (by omega) A.get (fun k y h4 H S T=> ?_);exact hh k y h4 H (by simpa using S) T
   refine jbD hI' (fun s=> ?_) (fun r=> ?_) (fun y N=> ?_)
   .simp only[bld,jY];rw[je,ins (fun x=>x.e.sl) s (fun k y h4 H S T=>jm _ _ (fun hk=>(u k y H (by show b.getD k false≠_;rw[S];simp;omega)).sl s (qE T) hk)),<-je,jEb]
   .have O:(jY x.e (bld (fun k=>b.getD k false) aZ rs)).st.obj r=(match jt (x.e.ob++eL (fun x=>x.e.ob) (fun k=>b.getD k false) aZ 0) r with|some y=>y|none=>rs.st.obj r):=by
     simp only[St.obj,jY,bld];rw[<-jEb,je]
     all_goals (cases jt (x.e.ob++eL (fun x=>x.e.ob) (fun k=>b.getD k false) aZ 0) r<;>rfl)
    have X:=ins (fun x=>x.e.ob) r (fun k y h4 H S T=>jm _ _ (fun hk=>by
     obtain⟨o',d⟩:=E k y H;obtain⟨y',t⟩:=m k o' d;have:=t.get;rw[H] at this;simp at this;subst this;exact(u k y H (by show b.getD k false≠_;rw[S];simp;omega)).ws r (by rw[A.ws];exact jDS _ (qE T)) (by rw[t.ws];exact jDS _ hk)))
    rw[jal,O,X]
    all_goals (cases jt (x.e.ob++eL (fun x=>x.e.ob) (fun k=>b.getD k false) aZ 0) r<;>rfl)
   .simp only[bld,jY] at N⊢;rcases jDY.1 N with N|N
    .obtain⟨k,z,g1,g2,g3⟩:=(qD _ _ _ _ _).1 N;simp only[jER] at g2;rw[l] at g2;by_cases e:k=i
     .subst e;have:=A.get;rw[g1] at this;simp at this;subst this;exact jDS _ g3
     .rw[if_neg e] at g2;exact jDR _ (jDS _ ((qD _ _ _ _ _).2 ⟨k,z,g1,by simpa using g2,g3⟩))
    .exact jDR _ (jDR _ N))
  unfold wpOp;have hoi:ops[i]? =some o:=(by simpa using F);rw[hoi];simp only
  split
  .rename_i hw;rw[if_pos hw] at g;exact .inl g
  .rename_i hw;rw[if_neg hw] at g;exact g
end
end Go.X
namespace Go.X
open Go.RowKit (Below)
section
variable {P:Program} {B:zu} {C:Ctx} {Q:Exit->Act->World->Prop}
theorem jbg {ρ:Env} {obj:Nat->Option Ob} {w:World} (h:Sat P B ρ obj w):Sat P B ρ obj {w with drawn:=w.drawn+1}:=
 ⟨h.os,h.tape,h.output,(by exact Nat.le_succ_of_le h.drawn),h.size,h.good,h.oldH,h.old,fun o x d=>by
  obtain⟨p,a,b⟩:=h.obs o x d
  exact⟨p,a,jG (new:=[]) (Env.le.refl _ _) (by simp) (fun _ _ _ _ _ c=>by simp at c) (fun _ _ _=>⟨rfl,rfl⟩) b⟩,h.dead,h.inj,h.own⟩
def jtQ (P:Program) (ops:Array Oper) (b:Bool) (Q:Exit->Act->World->Prop) (a:Act) (w:World):Prop:=
 match b with
 |false=>wpList P ops Q ops.toList a w
 |true=>wpAny P .any ops Q ops.size (Array.replicate ops.size false) a {w with drawn:=w.drawn+1}
theorem jAI (c:P.follows .mixedOrders=true) {id:Nat} {ops:Array Oper} {b:Bool} {a:Act} {w:World} (h:jtQ P ops b Q a w):(Code.region id ops b).wp P Q a w:=by
 cases b with
 |false=>exact wp_region_list h
 |true=>exact wp_region_any c h
theorem joE (D:C.ok P) {ops:Array Oper} {b:Bool} {σ:St} {es:List Eff} {rs:RS} {k:Prop} {a:Act} {w:World}
 (h:yQ C ops.toList b σ=some (es,rs)) (hk:zo b es k) (G:Rel P B C.n σ a w) (F:k->∀c w',Rel P B C.n rs.st c w'->Q .normal c w'):
 jtQ P ops b Q a w:=by
 have E:Inv P B C.n ops ⟨σ,[]⟩ a w:=by
  obtain⟨m,p,ρ,q,r,t⟩:=G;exact⟨m,p,ρ,q,r,(fun s g v H=>by simp at H),t⟩
 have l:∀{i:RS} {c:Act} {w':World},Inv P B C.n ops i c w'->Rel P B C.n i.st c w':=fun⟨m,p,ρ,q,r,_,t⟩=>⟨m,p,ρ,q,r,t⟩
 cases b with
 |false=>
  simp only[yQ] at h;exact kP D _ _ _ _ _ _ h hk E (fun f c w' d=>F f c w' (l d))
 |true=>
  simp only[yQ] at h
  split at h
  case h_2=>cases h
  rename_i aZ i ps J I
  split at h
  case h_2=>cases h
  rename_i u;simp at h;obtain⟨rfl,rfl⟩:=h;obtain⟨L,M,N⟩:=vz _ _ _ _ J;obtain⟨A,f⟩:=vo _ hk;show wpAny P .any ops Q ops.size (Array.replicate ops.size false) a {w with drawn:=w.drawn+1};have d:Inv P B C.n ops ⟨σ,[]⟩ a {w with drawn:=w.drawn+1}:=by
   obtain⟨m,p,ρ,q,r,t⟩:=E;exact⟨m,p,ρ,jbg q,r,t⟩
  refine jxT D N L I rfl u (fun y K=>A y.e (List.mem_map_of_mem K)) (fun c w' x=>F f c w' (l (by rw[M];exact x))) _ _ _ _ (by simp) ?_ ?_ ?_
  .unfold cnt;exact jD7 List.countP_le_length (by simp)
  .intro j o O z;simp only[jDZ,jEX] at z
   split at z<;>simp at z
  .rw[jam aZ ⟨σ,[]⟩ (fun j=>by
    simp only[jDZ,jEX]
    split<;>simp)]
   exact d
end
end Go.X
namespace Go.X
open Go.RowKit (Below)
structure jld (Bi B:zu):Prop where
 os:B.w.os=Bi.w.os
 tape:B.w.tape=Bi.w.tape
 output:B.w.output=Bi.w.output
 drawn:Bi.w.drawn<=B.w.drawn
 size:Bi.w.heap.size<=B.w.heap.size
 mono:∀b c,Bi.H b=some c->B.H b=some c
 old:∀b,b<Bi.w.heap.size->b∉Bi.bor->B.w.heap[b]? =Bi.w.heap[b]?/\B.H b=Bi.H b/\b∉B.bor
 own:∀b,b∈B.bor->Bi.w.heap.size<=b\/b∈Bi.bor
 blk0:B.blk0=Bi.blk0
 len0:B.len0=Bi.len0
def jyu (C:Ctx) (ops r:List Oper) (n:Nat) (rs:RS) (K:Ex->St->Prop):Prop:=
 match qV C ops r rs with
 |none=>False
 |some (ss,a)=>zo false ss (K .normal (kF ops (gc n a.st)))
theorem jfh {C:Ctx} {σ:St} {fields:List (Nat×Nat)}:∀(l:List (Nat×Operand)) (cs:List SV),qI C.inLit σ fields l cs=qI C σ fields l cs
 |[],_=>rfl
 | (j,x)::r,cs=>by
  have a:=fun cs=>jfh (C:=C) (σ:=σ) (fields:=fields) r cs
  have e:C.inLit.info=C.info:=rfl
  simp only[qI,a,e]
theorem jn2 {C:Ctx} {σ:St}:∀n,jn3 C.inLit σ n=jn3 C σ n
 |0=>rfl
 |n+1=>by
  have a:=jn2 (C:=C) (σ:=σ) n
  have e:C.inLit.spec=C.spec:=rfl
  funext ps rs v
  simp only[jn3,a,e]
theorem jyj {C:Ctx} {σ:St}:jAt C.inLit σ=jAt C σ:=by
 funext ps rs v;unfold jAt;rw[jn2]
theorem jii {C:Ctx} {σ:St}:∀(ps:List Par) (vs:List SV),kr C.inLit σ ps vs=kr C σ ps vs
 |[],[]=>rfl
 |[],_::_=>rfl
 |p::ps,[]=>by cases p<;>rfl
 |p::ps,v::vs=>by
  have a:=jii (C:=C) (σ:=σ) ps vs
  cases p<;>simp only[kr,a,jyj]
theorem juO {C:Ctx} {σ:St} {dst:Nat} (f:SV) (args:List SV):jl1 C.inLit σ dst f args=jl1 C σ dst f args:=by
 have e:C.inLit.spec=C.spec:=rfl;have a:C.inLit.eff=C.eff:=rfl;unfold jl1;simp only[jii,e,a]
theorem juv {C:Ctx} {σ:St} {dst:Nat}:∀{op:Op},jdz op=false->jlK op=false->js C.inLit σ dst op=js C σ dst op:=by
 intro op a b;cases op<;>first|rfl|(simp[jdz] at a;done)|skip
 case makeMap U r=>
  cases r with
  |none=>simp[jlK] at b
  |some r=>rfl
 case build U parts=>
  have e:C.inLit.info=C.info:=rfl;simp only[js,jfh,e]
 case slice U x lo hi d=>cases d<;>cases lo<;>cases hi<;>rfl
 case call c=>
  simp only[js,juO];rfl
theorem jxp {C:Ctx} {ops:List Oper} {o:Oper} {R:RS} (a:jdz o.op=false) (b:jlK o.op=false):gm C.inLit ops o R=gm C ops o R:=by
 have e:∀ch,yu C.inLit ops o R ch=yu C ops o R ch:=by
  intro ch;unfold yu
  split
  .rfl
  .rfl
  .exact juv a b
 unfold gm;simp only[e]
theorem jxf {C:Ctx} {ops:Array Oper} {o:Oper} {rs:RS} {e:Eff} (h:jnF C.inLit ops o rs e):jnF C ops o rs e:=⟨h.frame,h.gl,h.guard,h.nw,h.dst⟩
section
variable {P:Program}
theorem jld.refl (B:zu):jld B B:=⟨rfl,rfl,rfl,jDW _,jDW _,fun _ _ h=>h,fun _ _ h=>⟨rfl,rfl,h⟩,fun _ h=> .inr h,rfl,rfl⟩
theorem jbf {Bi B:zu} {ρ:Env} {obj:Nat->Option Ob} {w:World} (h:jld Bi B) (a:Sat P B ρ obj w):Sat P Bi ρ obj w:=by
 obtain⟨c1,c2,l,e,d,p,i,m,q,r⟩:=h;refine⟨a.os.trans c1,a.tape.trans c2,a.output.trans l,jD7 e a.drawn,jD7 d a.size,a.good,fun b c f=> ?_,fun b c f=> ?_,a.obs,a.dead,a.inj,fun o b C n=> ?_⟩
 .obtain⟨j,k,g⟩:=i b c f;exact(a.oldH b (jEQ c d) g).trans k
 .obtain⟨j,k,g⟩:=i b c f;exact(a.old b (jEQ c d) g).trans j
 .rcases a.own o b C n with h|h
  .exact .inl (jD7 d h)
  .exact m b h
theorem jgQ {Bi B:zu} {ρ:Env} (h:jld Bi B) (d:Pin B ρ):Pin Bi ρ:=by
 refine⟨fun o p e a=> ?_,fun b c a=>d.2 b c (h.mono b c a)⟩;have:=d.1 o p e a;rw[h.blk0,h.len0] at this;exact this
theorem jbZ {B:zu} {ρ:Env} {σ:St} {w w':World} {H':Imm} (d:Sat P B ρ σ.obj w) (j:jaW H' w') (k:∀b c,ρ.H b=some c->H' b=some c)
 (hk:∀o b C,ρ.blk o=some (some (b,C))->w'.heap[b]? =w.heap[b]?/\H' b=ρ.H b):
 Sat P {B with w:=w',H:=H',bor:=jS ρ (zK σ.ob)} {ρ with H:=H'} σ.obj w':=by
 have e:ρ.le {ρ with H:=H'} []:=⟨k,fun _ _ _ h=>h,fun _ _=>rfl⟩;refine⟨rfl,rfl,rfl,jDW _,jDW _,j,fun _ _ _=>rfl,fun _ _ _=>rfl,?_,d.dead,d.inj,?_⟩
 .intro o x n;obtain⟨p,a,m⟩:=d.obs o x n;refine⟨p,a,jG e (by simp) (fun _ _ _ _ o' g=>by simp at g) (fun b C' i=> ?_) m⟩;subst i;have:=hk o b C' a;exact⟨this.2,this.1⟩
 .intro o b C' a;refine .inr ((jR _).2 ⟨o,C',?_,a⟩);refine Classical.byContradiction fun f=> ?_
  have l:σ.obj o=none:=by
   simp only[St.obj];rw[jm _ _ f]
  have:=d.dead o l;rw[a] at this;cases this
theorem jlZ {Bi B:zu} {ρ:Env} {σ:St} {w w':World} (d:jld Bi B) (k:Sat P B ρ σ.obj w) (e:Pin B ρ) (l:w'.os=w.os) (m:w'.tape=w.tape) (n:w'.output=w.output) (p:w.drawn<=w'.drawn) (q:w.heap.size<=w'.heap.size)
 (r:jaW ρ.H w') (hk:∀b,b<Bi.w.heap.size->w'.heap[b]? =w.heap[b]?) (t:∀o b C,ρ.blk o=some (some (b,C))->w'.heap[b]? =w.heap[b]?):
 jld Bi {B with w:=w',H:=ρ.H,bor:=jS ρ (zK σ.ob)}/\Sat P {B with w:=w',H:=ρ.H,bor:=jS ρ (zK σ.ob)} ρ σ.obj w'/\Pin {B with w:=w',H:=ρ.H,bor:=jS ρ (zK σ.ob)} ρ:=by
 have a:=jbf d k;refine⟨⟨l.trans a.os,m.trans a.tape,n.trans a.output,jD7 a.drawn p,jD7 a.size q,fun b c i=>(jgQ d e).2 b c i,fun b f g=>⟨?_,a.oldH b f g,fun s=> ?_⟩,fun b i=> ?_,d.blk0,d.len0⟩,jbZ k r (fun _ _ h=>h) (fun o b C h=>⟨t o b C h,rfl⟩),⟨e.1,fun _ _ h=>h⟩⟩
 .exact(hk b f).trans (a.old b f g)
 .obtain⟨o,C,_,h⟩:=(jR _).1 s;rcases a.own o b C h with j|j
  .omega
  .exact g j
 .obtain⟨o,C,_,h⟩:=(jR _).1 i;exact a.own o b C h
theorem jAC {B:zu} {ρ:Env} {obj:Nat->Option Ob} {w:World} (f:Sat P B ρ obj w) {d b:Nat} (E:obj d=none) (v:z6 obj d) (l:∀o C,ρ.blk o≠some (some (b,C))) (n:B.w.heap.size<=b\/b∈B.bor) (x:Ob)
 (A:∀a:Env,a.H=ρ.H->jX P a w d (some (b,0)) x):∃a:Env,Sat P B a (jfH obj d (some x)) w/\ρ.le a [d]/\a.H=ρ.H/\a.blk d=some (some (b,0))/\∀o,o≠d->a.blk o=ρ.blk o:=by
 let a:Env:={H:=ρ.H,blk:=fun o=>if o=d then some (some (b,0)) else ρ.blk o,len:=ρ.len}
 have k:ρ.le a [d]:=⟨fun _ _ h=>h,fun o p c s=>by
  have c:o≠d:=(by simpa using c);simpa only[a,c,if_false] using s,fun _ _=>rfl⟩
 refine⟨a,⟨f.os,f.tape,f.output,f.drawn,f.size,f.good,f.oldH,f.old,fun o y j=> ?_,fun o c=> ?_,fun o o' q C C' g i=> ?_,fun o q C h=> ?_⟩,k,rfl,by simp[a],fun o c=>by simp[a,c]⟩
 .unfold jfH at j
  split at j
  .rename_i e;subst e;simp only[Option.some.injEq] at j;subst j;exact⟨_,by simp[a],A a rfl⟩
  .rename_i c;obtain⟨p,s,z⟩:=f.obs o y j;exact⟨p,by simp[a,c,s],jG k (by simpa using c) (fun T fz cs r o' m=>by simp at m;subst m;exact v o T fz cs (by rw[j,r])) (fun b C D=>⟨rfl,rfl⟩) z⟩
 .unfold jfH at c;simp only[a]
  split at c
  .cases c
  .rename_i h;rw[if_neg h];exact f.dead o c
 .simp only[a] at g i
  split at g<;>split at i
  .rename_i t u;rw[t,u]
  .simp only[Option.some.injEq,Prod.mk.injEq] at g;rw[<-g.1] at i;exact absurd i (l o' C')
  .simp only[Option.some.injEq,Prod.mk.injEq] at i;rw[<-i.1] at g;exact absurd g (l o C)
  .exact f.inj o o' q C C' g i
 .simp only[a] at h
  split at h
  .simp only[Option.some.injEq,Prod.mk.injEq] at h;rw[<-h.1];exact n
  .exact f.own o q C h
def lvO (d:Nat):Option Nat->RS->RS
 |none,rs=>rs
 |some b,rs=>⟨⟨(d,.lit (.map (some b)))::rs.st.sl,rs.st.ob⟩,rs.gl⟩
variable {C:Ctx} {ops:Array Oper} {B:zu}
theorem jwu {rs:RS} {d:Nat} {q:Option Nat} {k:Nat} (h:jx2 rs k):jx2 (lvO d q rs) k:=by
 cases q with
 |none=>exact h
 |some b=>
  refine⟨h.obj,fun s v a=> ?_,h.gl,h.ob,h.lt⟩;rcases jDT.1 a with e|a
  .injection e with _ e;subst e;rfl
  .exact h.sl s v a
theorem jze {o:Oper} {rs:RS} {e:Eff} {d:Nat} {q:Option Nat} (h:jnF C ops o rs e):jnF C ops o (lvO d q rs) e:=
 ⟨h.frame,fun k hk s j b v c=>h.gl k hk s j b v (by cases q<;>exact c),h.guard,fun k hk=>jwu (h.nw k hk),fun a=>jwu (h.dst a)⟩
theorem jCA {rs R:RS} {e:Eff} {d:Nat} {q:Option Nat} (h:Fit P B rs R e) (i:jt R.st.sl d=none):Fit P B (lvO d q rs) R e:=by
 cases q with
 |none=>exact h
 |some b=>
  refine⟨fun s v f=> ?_,h.gl,h.obj,fun ρ w g c=>h.go ρ w g c⟩;have a:d≠s:=fun e=>by subst e;rw[i] at f;cases f
  show jt ((d,_)::rs.st.sl) s=some v;rw[jq a];exact h.sl s v f
theorem jkS {α:Type} {ks:List Nat} {l:List (Nat×α)} {s:Nat} (h:s∉ks):jt (keep ks l) s=none:=by
 refine jm _ _ fun hk=> ?_
 obtain⟨x,a⟩:=(jb5 _ _).1 hk;exact h (jh6 ks l _ a).2
theorem jBz {C':Ctx} {aZ:List zL} {rs:RS} {i:Nat} {o:Oper} {x:zL} {nb:List Nat} (p:∀k y,aZ[k]? =some y->∃o',ops.toList[k]? =some o'/\wT C' ops.toList aZ rs k o' y) (q:wT C' ops.toList aZ rs i o x)
 {D D':Nat->Bool} (hi:D i=false) (n:D' i=true) (w:∀k,k≠i->D' k=D k) (g:∀k y,aZ[k]? =some y->D k≠decide (k<i)->NT rs.st nb x y):
 (∀s,jt (bld D' aZ rs).st.sl s=jt (jY x.e (bld D aZ rs)).st.sl s)/\(∀r,(bld D' aZ rs).st.obj r=(jY x.e (bld D aZ rs)).st.obj r)/\(∀y,y∈(bld D' aZ rs).gl->y∈(jY x.e (bld D aZ rs)).gl):=by
 have j:∀{α:Type} (f:zL->List (Nat×α)) (s:Nat),(∀(k:Nat) (y:zL),i<k->aZ[k]? =some y->D k=true->jt (f x) s≠none->jt (f y) s=none)->
  jt (eL f D' aZ 0) s=jt (f x++eL f D aZ 0) s:=by
  intro α f s B;exact jac (i:=i) hi n w aZ 0 i (by omega) q.get (fun k y m a c d=>B k y m a (by simpa using c) d)
 refine⟨fun s=> ?_,fun r=> ?_,fun y b=> ?_⟩
 .simp only[bld,jY];rw[je,j (fun x=>x.e.sl) s (fun k y m a c d=>jm _ _ (fun hk=>(g k y a (by rw[c];simp;omega)).sl s (qE d) hk)),<-je,jEb]
 .have A:(jY x.e (bld D aZ rs)).st.obj r=(match jt (x.e.ob++eL (fun x=>x.e.ob) D aZ 0) r with|some y=>y|none=>rs.st.obj r):=by
   simp only[St.obj,jY,bld];rw[<-jEb,je]
   all_goals (cases jt (x.e.ob++eL (fun x=>x.e.ob) D aZ 0) r<;>rfl)
  have h:=j (fun x=>x.e.ob) r (fun k y m a c d=>jm _ _ (fun hk=>by
   obtain⟨_,_,t⟩:=p k y a;exact(g k y a (by rw[c];simp;omega)).ws r (by rw[q.ws];exact jDS _ (qE d)) (by rw[t.ws];exact jDS _ hk)))
  rw[jal,A,h]
  all_goals (cases jt (x.e.ob++eL (fun x=>x.e.ob) D aZ 0) r<;>rfl)
 .simp only[bld,jY] at b⊢;rcases jDY.1 b with b|b
  .obtain⟨k,z,u,l,v⟩:=(qD _ _ _ _ _).1 b;simp only[jER] at l;by_cases e:k=i
   .subst e;have:=q.get;rw[u] at this;simp at this;subst this;exact jDS _ v
   .rw[w k e] at l;exact jDR _ (jDS _ ((qD _ _ _ _ _).2 ⟨k,z,u,by simpa using l,v⟩))
  .exact jDR _ (jDR _ b)
theorem jtO {U:Nat} {ti tk te:TI} (D:C.ok P) (q:C.mapT U=some (ti,tk,te)) {H:Imm} {b:Nat} {es:Array MapEntry} {clock:Nat} {l:List (tk.ty.Data×te.ty.Data)} {w:World} (u:w.heap[b]? =some (.map es clock))
 (f:jbU H tk.ty te.ty es clock l) {o:Oper} {ev:Operand->Value} {m n x:Operand} (r:o.op= .insert U m n x) (F:ev m= .map (some b)) {k:tk.ty.Data} (hk:tk.ty.rv H (ev n) k) (d:k∉l.map (·.1)):
 (execOp ev o).run P w= .ok .skip {w with heap:=w.heap.setIfInBounds b (.map (es.push {key:=ev n,val:=ev x,born:=clock}) (clock+1))}:=by
 obtain⟨_,s,J,h,p,G⟩:=y6 D q;obtain⟨K,L,S⟩:=s.keyq p;have E:(getObj b).run P w= .ok (.map es clock) w:=(by simp[getObj,Sem.run,u]);have g:∀y:Obj,(setObj b y).run P w= .ok () {w with heap:=w.heap.setIfInBounds b y}:=fun y=>by simp[setObj,Sem.run,u]
 have c1:=K H (ev n) k w false hk;have c:es.toList.length=l.length:=(by simpa using f.1);have a:∀(i:Nat) (x:tk.ty.Data×te.ty.Data),l[i]? =some x->∃e:MapEntry,es.toList[i]? =some e/\tk.ty.rv H e.key x.1/\te.ty.rv H e.val x.2:=fun i x I=>by simpa using f.2.2.2.2 i x I
 have c2:=L H es.toList (jaA l) (ev n) k w hk (jpj _ _ c a);rcases qH (H:=H) k es.toList l 0 c a with⟨t,v,z⟩|⟨j,N,M,t,v,z,A,B,O,Q,R⟩
 .rw[t] at c2;simp[execOp,r,Instr.mapUpdate,run_underlying h,F,E,c1,c2,g]
 .refine absurd (jEx.2 ⟨M,jEM A,B⟩) d
theorem jeS {α:Type} {y:α}:∀(l:List (Option α)),y∈jeu l↔∃k:Nat,l[k]? =some (some y)
 |[]=>by simp[jeu]
 |none::r=>by
  simp only[jeu,jeS r]
  constructor
  .rintro⟨k,hk⟩;exact⟨k+1,by simpa using hk⟩
  .rintro⟨k,hk⟩
   cases k with
   |zero=>simp at hk
   |succ k=>exact⟨k,by simpa using hk⟩
 |some x::r=>by
  simp only[jeu,jDT,jeS r]
  constructor
  .rintro(rfl|⟨k,hk⟩)
   .exact⟨0,rfl⟩
   .exact⟨k+1,by simpa using hk⟩
  .rintro⟨k,hk⟩
   cases k with
   |zero=>simp at hk;exact .inl hk.symm
   |succ k=>exact .inr ⟨k,by simpa using hk⟩
theorem jmy {α a:Type}:∀(l:List (Option (α×a))),((jeu l).map (·.1)).Nodup->∀(i j:Nat) (x y:α×a),l[i]? =some (some x)->l[j]? =some (some y)->i≠j->x.1≠y.1
 |[],_,i,_,_,_,h,_,_=>by simp at h
 |none::r,hn,i,j,x,y,hi,hj,hne=>by
  cases i with
  |zero=>simp at hi
  |succ i=>
   cases j with
   |zero=>simp at hj
   |succ j=>exact jmy r hn i j x y (by simpa using hi) (by simpa using hj) (by omega)
 |some z::r,hn,i,j,x,y,hi,hj,hne=>by
  simp only[jeu,jEV,jEG] at hn
  have inr:∀(k:Nat) (u:α×a),r[k]? =some (some u)->u.1∈(jeu r).map (·.1):=fun k u b=>jEx.2 ⟨u,(jeS r).2 ⟨k,b⟩,rfl⟩
  cases i with
  |zero=>
   cases j with
   |zero=>exact absurd rfl hne
   |succ j=>
    simp at hi;subst hi
    intro e
    exact hn.1 (e▸inr j y (by simpa using hj))
  |succ i=>
   cases j with
   |zero=>
    simp at hj;subst hj
    intro e
    exact hn.1 (e▸inr i x (by simpa using hi))
   |succ j=>exact jmy r hn.2 i j x y (by simpa using hi) (by simpa using hj) (by omega)
structure jC2 (B B':zu) (kt vt:Ty) (ents:List (Option (kt.Data×vt.Data))) (D:Nat->Bool) (b:Nat) (l:List (kt.Data×vt.Data)) (es:Array MapEntry) (clock:Nat):Prop where
 d0:D 0=true
 ge:B.w.heap.size<=b
 lt:b<B'.w.heap.size
 nb:b∉B'.bor
 nH:B'.H b=none
 at_:B'.w.heap[b]? =some (.map es clock)
 rd:jbU B'.H kt vt es clock l
 nd:(l.map (·.1)).Nodup
 mem:∀y,y∈l↔∃k:Nat,D k=true/\ents[k]? =some (some y)
def jDt (P:Program) (B:zu) (n:Nat) (ops:Array Oper) (d:Nat) (kt vt:Ty) (ents:List (Option (kt.Data×vt.Data))) (aZ:List zL) (rs:RS) (D:Nat->Bool) (a:Act) (w:World):Prop:=
 ∃B' q,jld B B'/\Inv P B' n ops (lvO d q (bld D aZ rs)) a w/\match q with
  |none=>D 0=false
  |some b=>∃l es clock,jC2 B B' kt vt ents D b l es clock
theorem jhZ:∀(n k:Nat),k∈jAs n↔k<n
 |0,k=>by simp[jAs]
 |n+1,k=>by simp only[jAs,jDT,jhZ n k];omega
theorem jlQ (p:List Nat):∀n,jsZ p n=true->∀j,j<n->j∈p
 |0,_,j,h=>by omega
 |n+1,h,j,b=>by
  simp only[jsZ] at h
  split at h
  .rename_i a
   by_cases e:j=n
   .subst e;exact(zQ _ _).1 a
   .exact jlQ p n h j (by omega)
  .cases h
theorem jiC:∀(ps:List (List Nat)) (k m:Nat),jiD ps k m=true->∀(i:Nat) (p:List Nat),ps[i]? =some p->m<=k+i->∀j,j<m->j∈p
 |[],_,_,_,i,_,h,_=>by simp at h
 |q::ps,k,m,h,i,p,hi,hm=>by
  have tl:jiD ps (k+1) m=true:=by
   simp only[jiD] at h
   split at h
   .split at h
    .exact h
    .cases h
   .exact h
  cases i with
  |zero=>
   simp at hi;subst hi;simp only[jiD] at h;have:Nat.ble m k=true:=Nat.ble_eq_true_of_le (by omega);rw[this] at h;simp only at h
   split at h
   .rename_i a;exact jlQ _ _ a
   .cases h
  |succ i=>exact jiC ps (k+1) m tl i p (by simpa using hi) (by omega)
theorem jl5 {d:Nat}:∀(l:List Oper) (aZ:List zL),aside d l aZ=true->∀(k:Nat) (o:Oper) (x:zL),l[k]? =some o->aZ[k]? =some x->jdz o.op=false->jlK o.op=false/\d∉x.slots/\d∉zK x.e.sl
 |[],_,_,k,_,_,h,_,_=>by simp at h
 |_::_,[],h,_,_,_,_,_,_=>by simp[aside] at h
 |o::r,x::aZ,h,k,o',x',hk,hx,hi=>by
  simp only[aside] at h
  cases k with
  |zero=>
   simp at hk hx;subst hk hx
   rw[hi] at h
   simp only at h
   split at h
   .rename_i f b c
    refine⟨f,?_,?_⟩
    .intro a;rw[(zQ _ _).2 a] at b;cases b
    .intro a;rw[(zQ _ _).2 a] at c;cases c
   .cases h
  |succ k=>
   have tl:aside d r aZ=true:=by
    split at h
    .exact h
    .split at h
     .exact h
     .cases h
   exact jl5 r aZ tl k o' x' (by simpa using hk) (by simpa using hx) hi
theorem jj6 {a:List Oper} {d U:Nat} {kt vt:Ty}:∀(l:List Oper) (aZ:List zL) (rs:RS) (ents:List (Option (kt.Data×vt.Data))),jj7 a d U kt vt l aZ rs=some ents->
 ents.length=l.length/\∀(k:Nat) (o:Oper),l[k]? =some o->∃y,ents[k]? =some y/\jnr d U kt vt o (zp (jQ a o) (bld (fun j=>decide (j<k)) aZ rs)).2.st=some y
 |[],[],rs,ents,h=>by simp[jj7] at h;subst h;exact⟨rfl,fun k o h=>by simp at h⟩
 |[],_::_,_,_,h=>by simp[jj7] at h
 |_::_,[],_,_,h=>by simp[jj7] at h
 |o::r,x::aZ,rs,ents,h=>by
  simp only[jj7] at h
  split at h
  case h_2=>cases h
  rename_i y l e f
  simp at h;subst h
  obtain⟨g,i⟩:=jj6 r aZ _ _ f
  refine⟨by simp[g],fun k o' hk=> ?_⟩
  cases k with
  |zero=>
   simp at hk;subst hk
   refine⟨y,rfl,?_⟩
   rw[jam (x::aZ) rs (fun k=>by simp)]
   exact e
  |succ k=>
   obtain⟨m,b,c⟩:=i k o' (by simpa using hk)
   refine⟨m,by simpa using b,?_⟩
   rw[jny _ _ _ _ (by simp)]
   have:(fun j=>decide (j+1<k+1))=fun j=>decide (j<k):=by funext j;simp
   rw[this]
   exact c
theorem jlU {d U:Nat} {kt vt:Ty} {o:Oper} {σ:St} {y:kt.Data×vt.Data} (h:jnr d U kt vt o σ=some (some y)):
 ∃b x,o.op= .insert U (.tmp d) b x/\o.dst=none/\o.guard=none/\jt6 d b=true/\jt6 d x=true/\wJ σ kt (jE σ b)=some (y.1,[])/\wJ σ vt (jE σ x)=some (y.2,[]):=by
 unfold jnr at h
 split at h
 .rename_i s m b x c
  split at h
  .rename_i u k v a e i j l n p q
   split at h
   .rename_i r;simp at h;subst h;have:=jDQ r;subst this;have:=jDQ j;subst this;refine⟨b,x,?_,e,i,p,q,l,n⟩;cases m with
    |tmp t=>simp[jm8] at a;subst a;exact c
    |const v=>simp[jm8] at a
    |global g=>simp[jm8] at a
    |func f=>simp[jm8] at a
   .cases h
  .cases h
 .simp at h
theorem jxo {d U:Nat} {kt vt:Ty} {o:Oper} {σ:St} {y:Option (kt.Data×vt.Data)} (h:jnr d U kt vt o σ=some y) (hi:jdz o.op=true):∃z,y=some z:=by
 unfold jnr at h
 split at h
 .split at h
  .split at h
   .simp at h;subst h;exact⟨_,rfl⟩
   .cases h
  .cases h
 .rename_i a;exfalso;cases b:o.op<;>rw[b] at hi<;>simp[jdz] at hi
  exact a _ _ _ _ b
theorem jrT {d U:Nat} {kt vt:Ty} {o:Oper} {σ:St} {y:Option (kt.Data×vt.Data)} (h:jnr d U kt vt o σ=some y) (hi:jdz o.op=false):y=none:=by
 unfold jnr at h
 split at h
 .rename_i a;rw[a] at hi;simp[jdz] at hi
 .simp at h;exact h.symm
theorem jAc {ρ:Env} {d:Nat} {q:Option Nat} {rs:RS} {a:Act} {slots:List Nat} {x:Operand} (c:jfE P ρ (lvO d q rs).st.sl a) (j:jt6 d x=true):SV.den P ρ (jE (zp slots rs).2.st x) (a.eval x):=by
 cases x with
 |tmp t=>
  have i:d≠t:=by
   intro e;subst e;simp only[jt6] at j
   split at j
   .cases j
   .rename_i l;exact absurd (Nat.beq_refl d) (by rw[l];simp)
  simp only[jE,St.get]
  split
  .rename_i v m;have k:=jeT slots _ t v m;refine c t v ?_;cases q with
   |none=>exact k
   |some b=>show jt ((d,_)::rs.st.sl) t=some v;rw[jq i];exact k
  .exact kA _
 |const v=>exact jC (σ:=⟨[],[]⟩) (fun s sv h=>by simp[jt] at h) (.const v)
 |global g=>exact jC (σ:=⟨[],[]⟩) (fun s sv h=>by simp[jt] at h) (.global g)
 |func f=>exact jC (σ:=⟨[],[]⟩) (fun s sv h=>by simp[jt] at h) (.func f)
end
end Go.X
namespace Go.X
open Go.RowKit (Below)
section
variable {P:Program} {B:zu} {C:Ctx} {ops:Array Oper} {Q:Exit->Act->World->Prop} {aZ:List zL} {rs:RS} {ps:List (List Nat)}
structure ju0 (P:Program) (C:Ctx) (ops:Array Oper) (aZ:List zL) (rs:RS) (ps:List (List Nat)) (body:List Oper) (m d U:Nat) (tk te:TI) (ents:List (Option (tk.ty.Data×te.ty.Data))):Prop where
 ok:C.ok P
 mp:∃ti,C.mapT U=some (ti,tk,te)
 bd:∀(k:Nat) (o:Oper),body[k]? =some o->ops.toList[k]? =some o
 sz:ops.size=body.length+m
 o0:∃o,body[0]? =some o/\o.op= .makeMap U none/\o.dst=some d/\o.guard=none
 pre:z8 ops.toList []=some ps
 tl:∀(k:Nat) (p:List Nat),body.length<=k->ps[k]? =some p->∀j,j<body.length->j∈p
 all:∀(k:Nat) (o:Oper),body[k]? =some o->∃y,wT C.inLit ops.toList aZ rs k o y
 len:aZ.length=body.length
 ord:yv rs.st (vR aZ) aZ aZ ps 0=true
 ent:∀(k:Nat) (o:Oper),body[k]? =some o->∃y,ents[k]? =some y/\jnr d U tk.ty te.ty o (zp (jQ ops.toList o) (bld (fun j=>decide (j<k)) aZ rs)).2.st=some y
 elen:ents.length=body.length
 aside:∀(k:Nat) (o:Oper) (x:zL),0<k->body[k]? =some o->aZ[k]? =some x->jdz o.op=false->jlK o.op=false/\d∉x.slots/\d∉zK x.e.sl
 nd:((jeu ents).map (·.1)).Nodup
 new:jrr (bld (fun _=>true) aZ rs) d=true
 vc:∀y,y∈aZ->jzN y.e.guard y.e.vc
variable {body:List Oper} {m d U:Nat} {tk te:TI} {ents:List (Option (tk.ty.Data×te.ty.Data))}
theorem ju0.fact (h:ju0 P C ops aZ rs ps body m d U tk te ents):∀k y,aZ[k]? =some y->∃o',ops.toList[k]? =some o'/\body[k]? =some o'/\wT C.inLit ops.toList aZ rs k o' y:=by
 intro k y hk;have e:=(jDU.1 hk).1;have a:k<body.length:=(by have:=h.len;omega);have c:body[k]? =some body[k]:=jDX a;obtain⟨f,b⟩:=h.all k _ c;have:=b.get;rw[hk] at this;simp at this;subst this;exact⟨_,h.bd k _ c,c,b⟩
theorem ju0.fact' (h:ju0 P C ops aZ rs ps body m d U tk te ents):∀k y,aZ[k]? =some y->∃o',ops.toList[k]? =some o'/\wT C.inLit ops.toList aZ rs k o' y:=fun k y hk=>
 let ⟨o',h1,_,h2⟩:=h.fact k y hk;⟨o',h1,h2⟩
theorem ju0.behind (h:ju0 P C ops aZ rs ps body m d U tk te ents) {k:Nat} {y:tk.ty.Data×te.ty.Data} (hk:ents[k]? =some (some y)):∃p,ps[k]? =some p/\0∈p:=by
 have j:k<body.length:=(by have:=(jDU.1 hk).1;have:=h.elen;omega);have i:body[k]? =some body[k]:=jDX j;obtain⟨D,g,o⟩:=h.ent k _ i;rw[hk] at g;simp at g;subst g;obtain⟨B,x,a,n,s,_⟩:=jlU o;obtain⟨z,c⟩:=h.all k _ i;obtain⟨o0,f,q,r,A⟩:=h.o0;obtain⟨x0,b⟩:=h.all 0 _ f;have t:0<k:=by
  rcases jE1 k with e|e
  .subst e;rw[i] at f;simp at f;rw[f,q] at a;cases a
  .exact e
 obtain⟨p,v,w⟩:=qz _ _ _ _ h.ord k z c.get;refine⟨p,v,?_⟩;rcases w 0 x0 (by omega) b.get with l|l
 .exfalso;obtain⟨⟨sv,u⟩,_⟩:=gj b.eff;refine l.s1 d (by rw[u];exact jbz.2 r) ?_;rw[c.slots];unfold jQ;refine jDS _ ?_;rw[a];simp[Op.operands,jsl,jm8]
 .exact l
theorem ju0.listed0 (h:ju0 P C ops aZ rs ps body m d U tk te ents) {D:Nat->Bool} (g:Clo ops D) {k:Nat} {y:tk.ty.Data×te.ty.Data} (hk:ents[k]? =some (some y)) (i:∀o,ops.toList[k]? =some o->∀e,e∈o.after.toList->Region.binds .any e=true->D e.on=true):D 0=true:=by
 obtain⟨p,c,f⟩:=h.behind hk;have a:k<body.length:=(by have:=(jDU.1 hk).1;have:=h.elen;omega);have b:=h.bd k _ (jDX a);exact qn h.pre g (k+1) k (by omega) _ p b (i _ b) c 0 f
theorem joI {α b:Type} {l:List (α×b)} (h:(l.map (·.1)).Nodup):l.Nodup:=by
 unfold List.Nodup at h⊢;rw[List.pairwise_map] at h;exact h.imp (fun a e=>a (by rw[e]))
theorem jke {n m:Nat} {a:Array Bool} (d:∀k,k<n->a.getD k false=true) (e:∀k,a.getD k false=true->k<n):cnt (n+m) a=m:=by
 unfold cnt;rw[List.range_add,jFi];have b:(List.range n).countP (fun k=> !(a.getD k false))=0:=jE9.2 (fun k hk=>by simp[d k (by simpa using hk)]);have c:((List.range m).map (n+·)).countP (fun k=> !(a.getD k false))=((List.range m).map (n+·)).length:=List.countP_eq_length.2 (fun k hk=>by
  obtain⟨j,_,rfl⟩:=jEx.1 hk;cases f:a.getD (n+j) false with
  |false=>rfl
  |true=>have:=e _ f;omega)
 rw[b,c];simp
theorem ju0.finish (h:ju0 P C ops aZ rs ps body m d U tk te ents) {c:Array Bool} {a:Act} {w:World} (x:∀k,k<body.length->c.getD k false=true) (I:jDt P B C.n ops d tk.ty te.ty ents aZ rs (fun k=>c.getD k false) a w):
 ∃l,l.Perm (jeu ents)/\Inv P B C.n ops (jyS d tk.ty te.ty l (bld (fun _=>true) aZ rs)) a w:=by
 obtain⟨B',q,D,I,Q⟩:=I;have e:bld (fun k=>c.getD k false) aZ rs=bld (fun _=>true) aZ rs:=by
  have e:∀{α:Type} (f:zL->List α),eL f (fun k=>c.getD k false) aZ 0=eL f (fun _=>true) aZ 0:=fun f=>jfj f aZ 0 (fun k _ hk=>x k (by have:=h.len;simp at hk;omega))
  unfold bld;rw[e,e,e]
 rw[e] at I;obtain⟨o0,S,_⟩:=h.o0;have T:0<body.length:=(jDU.1 S).1;cases q with
 |none=>exact absurd (x 0 T) (by rw[show c.getD 0 false=false from Q];simp)
 |some b=>
  obtain⟨l,es,clock,i⟩:=Q;obtain⟨Y,hn,ρ,J,A,V,t⟩:=I;have L:Sat P B ρ (bld (fun _=>true) aZ rs).st.obj w:=jbf D J;have K:=jgQ D t;have N:=vK h.new;have M:∀o C',ρ.blk o≠some (some (b,C')):=fun o C' X=>by
   rcases J.own o b C' X with x|x
   .have:=i.lt;omega
   .exact i.nb x
  have W:ρ.H b=none:=(J.oldH b i.lt i.nb).trans i.nH;obtain⟨F,s1,s2,s3,s4,s5⟩:=jAC L N.obj N.noRef M (.inl i.ge) (.map false tk.ty te.ty l) (fun F z=>by
   simp only[jX,fzM];exact⟨b,0,es,clock,rfl,(J.old b i.lt i.nb).trans i.at_,by rw[z];exact i.rd.mono t.2,by rw[z];exact W⟩)
  refine⟨l,(List.perm_ext_iff_of_nodup (joI i.nd) (joI h.nd)).2 (fun y=> ?_),Y,hn,F,?_,?_,?_,K.mono s2 (fun r u=>by simp at u;subst u;exact N.lt)⟩
  .rw[i.mem,jeS];constructor
   .rintro⟨k,_,hk⟩;exact⟨k,hk⟩
   .rintro⟨k,hk⟩;exact⟨k,x k (by have:=(jDU.1 hk).1;have:=h.elen;omega),hk⟩
  .have:(jyS d tk.ty te.ty l (bld (fun _=>true) aZ rs)).st.obj=jfH (bld (fun _=>true) aZ rs).st.obj d (some (.map false tk.ty te.ty l)):=kG (bld (fun _=>true) aZ rs).st d _;rw[this];exact s1
  .intro s sv R;by_cases e:s=d
   .subst e;have j:jt ((s,SV.mp s)::(bld (fun _=>true) aZ rs).st.sl) s=some sv:=R;rw[jy] at j;simp at j;subst j;have G:=A s (.lit (.map (some b))) (jy _ _ _);simp only[SV.den] at G⊢;intro p O;rw[s4] at O;simp at O;subst O;exact⟨_,_,rfl,G⟩
   .have j:jt ((d,SV.mp d)::(bld (fun _=>true) aZ rs).st.sl) s=some sv:=R;rw[jq (fun h=>e h.symm)] at j;refine SV.den_mono s2 _ _ (fun r u=>by simp at u;subst u;exact N.sl s sv (zb _ _ _ j)) (A s sv ?_);show jt ((d,_)::(bld (fun _=>true) aZ rs).st.sl) s=some sv;rw[jq (fun h=>e h.symm)];exact j
  .intro s g v E;obtain⟨j,G⟩:=V s g v E;exact⟨fun Z=>SV.den_mono s2 _ _ (fun r u=>by simp at u;subst u;exact N.gl s g v E) (j Z),G⟩
theorem jgD {p q:Nat->Bool} {i:Nat} (b:p i=true) (c:q i=false) (h:∀y,y≠i->p y=q y):∀n,(List.range n).countP p=(List.range n).countP q+(if i<n then 1 else 0)
 |0=>rfl
 |n+1=>by
  have d:=jgD b c h n
  rw[jEJ,jFi,jFi,List.countP_singleton,List.countP_singleton,d]
  by_cases e:n=i
  .subst e
   rw[b,c]
   simp
  .rw[h n e]
   by_cases a:i<n
   .have:i<n+1:=by omega
    simp only[a,this,if_true];omega
   .have:¬i<n+1:=by omega
    simp only[a,this,if_false];omega
theorem jg1:∀(l:List Oper) {b:List Oper} {m:Nat},jjx l=some (b,m)->∃f,l=b++f/\f.length=m
 |[],_,_,h=>by simp[jjx] at h
 |o::r,b,m,h=>by
  simp only[jjx] at h
  split at h
  .rename_i e g d
   simp at h
   obtain⟨rfl,rfl⟩:=h
   obtain⟨f,a,c⟩:=jg1 r d
   exact⟨f,by rw[a];rfl,c⟩
  .split at h
   .simp at h
    obtain⟨rfl,rfl⟩:=h
    exact⟨r,rfl,rfl⟩
   .cases h
theorem jm7 {l body:List Oper} {d U m:Nat} (h:jh7 l=some (d,U,body,m)):∃o b f,l=body++f/\body=o::b/\o.op= .makeMap U none/\o.dst=some d/\o.guard=none/\f.length=m:=by
 cases l with
 |nil=>simp[jh7] at h
 |cons o r=>
  simp only[jh7] at h
  split at h
  .rename_i a c e g;simp at h;obtain⟨rfl,rfl,rfl,rfl⟩:=h;obtain⟨f,i,j⟩:=jg1 r g;exact⟨o,_,f,by rw[i];rfl,rfl,a,c,e,j⟩
  .cases h
theorem jC2.step {B':zu} {kt vt:Ty} {c:List (Option (kt.Data×vt.Data))} {D D':Nat->Bool} {b:Nat} {l:List (kt.Data×vt.Data)} {es:Array MapEntry} {clock:Nat} (h:jC2 B B' kt vt c D b l es clock) {i:Nat} (g:D' i=true) (f:∀k,k≠i->D' k=D k) (j:c[i]? =some none):jC2 B B' kt vt c D' b l es clock:=by
 refine⟨?_,h.ge,h.lt,h.nb,h.nH,h.at_,h.rd,h.nd,fun y=> ?_⟩
 .by_cases e:0=i
  .rw[e];exact g
  .rw[f 0 e];exact h.d0
 .rw[h.mem];constructor
  .rintro⟨k,d,a⟩;have:k≠i:=fun e=>by subst e;rw[j] at a;simp at a
   exact⟨k,by rw[f k this];exact d,a⟩
  .rintro⟨k,d,a⟩;have:k≠i:=fun e=>by subst e;rw[j] at a;simp at a
   exact⟨k,by rw[<-f k this];exact d,a⟩
theorem ju0.go (h:ju0 P C ops aZ rs ps body m d U tk te ents)
 (hQ:∀l a w f,l.Perm (jeu ents)->f.size=ops.size->(∀k,k∈jAs body.length↔f.getD k false=true)->Inv P B C.n ops (jyS d tk.ty te.ty l (bld (fun _=>true) aZ rs)) a w->wpAny P .any ops Q m f a w):
 ∀(A:Nat) (f:Array Bool) (a:Act) (w:World),f.size=ops.size->cnt ops.size f=A->(∀k,f.getD k false=true->k<body.length)->Clo ops (fun k=>f.getD k false)->
  jDt P B C.n ops d tk.ty te.ty ents aZ rs (fun k=>f.getD k false) a w->wpAny P .any ops Q A f a w:=by
 have fin:∀(f:Array Bool) (a:Act) (w:World),f.size=ops.size->(∀k,k<body.length->f.getD k false=true)->(∀k,f.getD k false=true->k<body.length)->
  jDt P B C.n ops d tk.ty te.ty ents aZ rs (fun k=>f.getD k false) a w->wpAny P .any ops Q m f a w:=by
  intro f a w hs O h2 hI;obtain⟨l,p1,p2⟩:=h.finish O hI;exact hQ l a w f p1 hs (fun k=>by rw[jhZ];exact⟨O k,h2 k⟩) p2
 intro A
 induction A with
 |zero=>
  intro f a w hs hc I E hI;have hl:∀k,k<ops.size->f.getD k false=true:=by
   intro k hk;cases hu:f.getD k false with
   |true=>rfl
   |false=>have:=jE9.1 hc k (by simpa using hk);simp[hu] at this
  have O:∀k,k<body.length->f.getD k false=true:=fun k hk=>hl k (by have:=h.sz;omega)
  have e:=jke (m:=m) O I;rw[<-h.sz,hc] at e;rw[e];exact fin f a w hs O I hI
 |succ A ih=>
  intro f a w hs hc I E hI;by_cases M:∀k,k<body.length->f.getD k false=true
  .have e:=jke (m:=m) M I;rw[<-h.sz,hc] at e;rw[e];exact fin f a w hs M I hI
  refine⟨fun hr=>absurd (fun k hk=>gB h.pre hs hr (k+1) k (by omega) (by have:=h.sz;omega)) M,fun i hi=> ?_⟩;obtain⟨o,O,h2,h3⟩:=(qC hs).1 hi;have hlt:i<ops.size:=(by have:=(jDU.1 O).1;simpa using this);obtain⟨_,hps2⟩:=wR _ _ _ h.pre;have hib:i<body.length:=by
   refine Classical.byContradiction fun hn=>M ?_
   obtain⟨p,N,_⟩:=hps2 i o O;simp only[jEF,jER] at N;intro k hk;exact qn h.pre E (i+1) i (by omega) o p O h3 N k (h.tl i p (by omega) N k hk)
  have ho:body[i]? =some o:=by
   have e:=h.bd i _ (jDX hib);rw[O] at e;simp at e;rw[e];exact jDX hib
  obtain⟨x,W⟩:=h.all i o ho;have hspec:=qz _ _ _ _ h.ord;have hNT:∀(k:Nat) (y:zL),aZ[k]? =some y->(fun k=>f.getD k false) k≠decide (k<i)->NT rs.st (vR aZ) x y:=by
   intro k y hk hne;simp only at hne;obtain⟨o',F,_⟩:=h.fact' k y hk;by_cases hki:k<i
   .have hu:f.getD k false=false:=by cases hh:f.getD k false<;>simp_all
    obtain⟨p,N,e2⟩:=hspec i x W.get;rcases e2 k y (by omega) hk with h'|h'
    .exact h'.symm
    .have:=qn h.pre E (i+1) i (by omega) o p O h3 N k h';rw[hu] at this;cases this
   .have hu:f.getD k false=true:=by cases hh:f.getD k false<;>simp_all
    have hne':k≠i:=fun e=>by subst e;rw[h2] at hu;cases hu
    obtain⟨p,N,e2⟩:=hspec k y hk;rcases e2 i x (by omega) W.get with h'|h'
    .exact h'
    .have:=qn h.pre E (k+1) k (by omega) o' p F (fun e he I=>E k o' F hu e he I) N i h';rw[h2] at this;cases this
  have L:∀k,(f.setIfInBounds i true).getD k false=if k=i then true else f.getD k false:=jcb (by omega);have G:(f.setIfInBounds i true).getD i false=true:=(by simp only[L,if_true]);have t:∀k,k≠i->(f.setIfInBounds i true).getD k false=f.getD k false:=fun k hk=>by simp only[L,if_neg hk]
  have hcnt:cnt ops.size (f.setIfInBounds i true)=A:=by
   have:=jgD (p:=fun k=> !(f.getD k false)) (q:=fun k=> !((f.setIfInBounds i true).getD k false)) (i:=i) (by simp[h2]) (by simp[L]) (fun y hy=>by simp only[L,if_neg hy]) ops.size;rw[if_pos hlt] at this;unfold cnt at hc⊢;omega
  have hb':∀k,(f.setIfInBounds i true).getD k false=true->k<body.length:=by
   intro k hk;by_cases e:k=i
   .rw[e];exact hib
   .rw[L,if_neg e] at hk;exact I k hk
  have X:Clo ops (fun k=>(f.setIfInBounds i true).getD k false):=by
   intro k o' F hk e he I;simp only at hk⊢;rw[L] at hk⊢
   split
   .rfl
   .by_cases e':k=i
    .subst e';rw[O] at F;simp at F;subst F;exact h3 e he I
    .rw[if_neg e'] at hk;exact E k o' F hk e he I
  obtain⟨B',q,hch,hI,hq⟩:=hI;obtain⟨b1,b2,b3⟩:=jBz (D:=fun k=>f.getD k false) (D':=fun k=>(f.setIfInBounds i true).getD k false) h.fact' W h2 G t hNT;obtain⟨heff,hcl⟩:=jBj (D:=fun k=>f.getD k false) h.fact' W rfl hNT;have S:=jxf (jxd (D:=fun k=>f.getD k false) h.fact' W hNT);obtain⟨ti,hmp⟩:=h.mp;unfold wpOp;have hoi:ops[i]? =some o:=(by simpa using O);rw[hoi];simp only;have fin2:(if Region.wanted o (yielded ops a.tmps) then o.wp P a w (wpAny P .any ops Q A (f.setIfInBounds i true)) Q else wpAny P .any ops Q A (f.setIfInBounds i true) (a.put o.dst undef) w):=by
   cases hk:jdz o.op with
   |false=>
    obtain⟨y,N,e2⟩:=h.ent i o ho;have:=jrT e2 hk;subst this;by_cases hi0:i=0
    .--the map is made
     subst hi0;obtain⟨o0,g1,g2,g3,g4⟩:=h.o0;rw[ho] at g1;simp at g1;subst g1;cases q with
     |some b=>obtain⟨l,es,clock,J⟩:=hq;have:f.getD 0 false=true:=J.d0;rw[h2] at this;cases this
     |none=>
      have hxe:x.e=⟨none,[],[],[(d,.any)],[],[],[]⟩:=by
       have this:=W.eff;unfold gm at this;rw[g4] at this;simp only at this;have e:∀R,yu C.inLit ops.toList o R []=some (.pure .any):=by
        intro R;unfold yu;rw[g2];simp only[js];have N:C.inLit.lit=true:=rfl;have e2:C.inLit.mapT U=C.mapT U:=rfl;rw[N,e2,hmp]
       rw[e] at this;simp[jot,g3,Out.pure,wY] at this;exact this.symm
      rw[hxe] at b1 b2 b3;obtain⟨hd,hn,ρ,V,hSl,hG,hPin⟩:=hI;have hw:Region.wanted o (yielded ops a.tmps)=true:=(by simp[Region.wanted,g4]);rw[if_pos hw];have hrun:(execOp a.eval o).run P w= .ok (.value (.map (some w.heap.size))) (w.alloc (.map #[] 0)):=(by simp[execOp,g2,Instr.makeMap]);unfold Oper.wp;rw[hrun];simp only[Oper.upon];have hsz:=(jbf hch V).size;have Y:jaW ρ.H (w.alloc (.map #[] 0)):=by
       refine⟨fun b c hbc=> ?_,V.good.2⟩;rw[heap_alloc_old w _ b (V.good.lt hbc)];exact V.good.1 b c hbc
      obtain⟨n1,n2,n3⟩:=jlZ (σ:=(lvO d none (bld (fun k=>f.getD k false) aZ rs)).st) (w':=w.alloc (.map #[] 0)) hch V hPin rfl rfl rfl (jDW _) (by simp) Y (fun b I=>heap_alloc_old w _ b (by omega)) (fun o b C' I=>heap_alloc_old w _ b (qZ V I).1);refine ih _ _ _ (by simpa using hs) hcnt hb' X ⟨_,some w.heap.size,n1,?_,[],#[],0,?_⟩
      .refine jbD (jdA (C:=C) (ops:=ops) (o:=o) (rs:=bld (fun k=>f.getD k false) aZ rs) (e:=⟨none,[],[],[(d,.lit (.map (some w.heap.size)))],[],[],[]⟩) (ρ:=ρ) (ρ'':=ρ) (sv:= .lit (.map (some w.heap.size))) (gv:= .any) (v:= .map (some w.heap.size))
        hd hn hSl hG n3 n2 (Env.le.refl _ _) ⟨S.frame,S.gl,S.guard,fun d hd=>by simp at hd,fun hor=>by simp[jbC,g2] at hor⟩ S.frame (by simp[jot,g3]) (fun _ _=>by simp[SV.den]) (fun x W=>by simp at W) (fun d g _ hg=>by rw[g4] at hg;cases hg)) (fun s=> ?_) (fun r=> ?_) (fun y hy=> ?_)
       .show jt ((d,SV.lit (.map (some w.heap.size)))::(bld (fun k=>(f.setIfInBounds 0 true).getD k false) aZ rs).st.sl) s=jt ((d,SV.lit (.map (some w.heap.size)))::(bld (fun k=>f.getD k false) aZ rs).st.sl) s;by_cases e:d=s
        .subst e;rw[jy,jy]
        .rw[jq e,jq e,b1 s];show jt ((d,SV.any)::(bld (fun k=>f.getD k false) aZ rs).st.sl) s=_;rw[jq e]
       .exact b2 r
       .exact b3 y hy
      .refine⟨G,hsz,by show w.heap.size<(w.alloc (.map #[] 0)).heap.size;simp,fun J=> ?_,?_,wN w _,⟨rfl,jDW _,fun i e he=>by simp at he,fun i j e e' he=>by simp at he,fun i x W=>by simp at W⟩,by simp,fun y=>⟨fun hy=>by simp at hy,fun hy=> ?_⟩⟩
       .obtain⟨o',C',_,h6⟩:=(jR _).1 J;have:=(qZ V h6).1;omega
       .show ρ.H w.heap.size=none;cases hc:ρ.H w.heap.size with
        |none=>rfl
        |some c=>have:=V.good.lt hc;omega
       .obtain⟨k,k1,Z⟩:=hy;exfalso;by_cases e:k=0
        .subst e;rw[N] at Z;simp at Z
        .have k1:f.getD k false=true:=(by rw[<-t k e];exact k1);have:f.getD 0 false=true:=h.listed0 E Z (fun o' F e he I=>E k o' F k1 e he I);rw[h2] at this;cases this
    .obtain⟨nm,ns,nk⟩:=h.aside i o x (by omega) ho W.get hk;rw[jxp hk nm] at heff;refine qc (K:=wpAny P .any ops Q A (f.setIfInBounds i true)) (Q:=Q) h.ok heff (jze (d:=d) (q:=q) S) (jCA (jiO hcl) (jkS (by rw[<-W.slots];exact ns))) hI (h.vc x (jEM W.get)) (fun a' w' hI' _=>
      ih _ a' w' (by simpa using hs) hcnt hb' X ⟨B',q,hch,jbD hI' (fun s=> ?_) (fun r=> ?_) (fun y hy=> ?_),?_⟩)
     .cases q with
      |none=>exact b1 s
      |some b=>
       show jt ((d,SV.lit (.map (some b)))::(bld (fun k=>(f.setIfInBounds i true).getD k false) aZ rs).st.sl) s=jt (x.e.sl++(d,SV.lit (.map (some b)))::(bld (fun k=>f.getD k false) aZ rs).st.sl) s;by_cases e:d=s
       .subst e;rw[jy,je,jm _ _ nk,jy]
       .have h6:=b1 s;have h7:(jY x.e (bld (fun k=>f.getD k false) aZ rs)).st.sl=x.e.sl++(bld (fun k=>f.getD k false) aZ rs).st.sl:=rfl;rw[h7,je] at h6;rw[jq e,je,jq e];exact h6
     .cases q<;>exact b2 r
     .cases q<;>exact b3 y hy
     .cases q with
      |none=>show(f.setIfInBounds i true).getD 0 false=false;rw[t 0 (fun e=>hi0 e.symm)];exact hq
      |some b=>
       obtain⟨l,es,clock,J⟩:=hq;exact⟨l,es,clock,J.step G t N⟩
   |true=>
    obtain⟨y,N,e2⟩:=h.ent i o ho;obtain⟨z,rfl⟩:=jxo e2 hk;have hsh:zp (jQ ops.toList o) (bld (fun k=>f.getD k false) aZ rs)=zp (jQ ops.toList o) (bld (fun k=>decide (k<i)) aZ rs):=jvB (D:=fun k=>f.getD k false) h.fact' W hNT (fun k y k1 Z r k3 k4=>by
     have:=((hNT k y k1 Z).o2 r k3 k4).mv;rw[W.mv] at this;unfold jCq at this
     split at this
     .rename_i T _;rw[T] at hk;simp[jdz] at hk
     .rename_i T _;rw[T] at hk;simp[jdz] at hk
     .rename_i T _;rw[T] at hk;simp[jdz] at hk
     .cases this)
    rw[<-hsh] at e2;obtain⟨ix,xx,T,hdst,hgd,u1,u2,t1,t2⟩:=jlU e2;cases q with
    |none=>
     have:f.getD 0 false=true:=h.listed0 E N (fun o' F e he I=>by rw[O] at F;simp at F;subst F;exact h3 e he I);rw[show f.getD 0 false=false from hq] at this;cases this
    |some b=>
     obtain⟨l,es,clock,J⟩:=hq;have hxe:x.e=⟨none,[],[],[],[],[],[]⟩:=by
      have this:=W.eff;unfold gm at this;rw[hgd] at this;simp only at this;have e:∀R,yu C.inLit ops.toList o R []=some (.pure .any):=by
       intro R;unfold yu;rw[T];rfl
      rw[e] at this;simp[jot,hdst,Out.pure,wY] at this;exact this.symm
     rw[hxe] at b1 b2 b3;obtain⟨hd,hn,ρ,V,hSl,hG,hPin⟩:=hI;have hSR:=js0 (σ:=(bld (fun k=>f.getD k false) aZ rs).st) V (zp (jQ ops.toList o) (bld (fun k=>f.getD k false) aZ rs)).1;have eo:(zp (jQ ops.toList o) (bld (fun k=>f.getD k false) aZ rs)).2.st.obj=jv9 (zp (jQ ops.toList o) (bld (fun k=>f.getD k false) aZ rs)).1 (bld (fun k=>f.getD k false) aZ rs).st.obj:=funext fun o=>by rw[yO];rfl
     rw[<-eo] at hSR;have hkr:tk.ty.rv ρ.H (a.eval ix) z.1:=jF hSR (fz:=[]) (fun o=>⟨.inl rfl,fun ho=>by simp at ho⟩) t1 (fun o ho=>ho) (SV.den_mono (jh3 _ _) _ _ (fun r hr=>by simp at hr) (jAc hSl u1));have hvr:te.ty.rv ρ.H (a.eval xx) z.2:=jF hSR (fz:=[]) (fun o=>⟨.inl rfl,fun ho=>by simp at ho⟩) t2 (fun o ho=>ho) (SV.den_mono (jh3 _ _) _ _ (fun r hr=>by simp at hr) (jAc hSl u2));have hmv:a.eval (.tmp d)= .map (some b):=hSl d (.lit (.map (some b))) (jy _ _ _);have hwb:w.heap[b]? =some (.map es clock):=(V.old b J.lt J.nb).trans J.at_;have hblt:b<w.heap.size:=(jD2.1 hwb).1;have hH:ρ.H b=none:=(V.oldH b J.lt J.nb).trans J.nH;have hrd:=J.rd.mono hPin.2;have hnew:z.1∉l.map (·.1):=by
      intro hz;obtain⟨y,y1,y2⟩:=jEx.1 hz;obtain⟨k,k1,Z⟩:=(J.mem y).1 y1;have hne:k≠i:=fun e=>by subst e;rw[show f.getD k false=true from k1] at h2;cases h2
      exact jmy ents h.nd k i y z Z N hne y2
     have hrun:=jtO (x:=xx) h.ok hmp hwb hrd T hmv hkr hnew;have hw:Region.wanted o (yielded ops a.tmps)=true:=(by simp[Region.wanted,hgd]);rw[if_pos hw];unfold Oper.wp;rw[hrun];simp only[Oper.upon];rw[hdst];have hoth:∀(y:Obj) (k:Nat),k≠b->(w.heap.setIfInBounds b y)[k]? =w.heap[k]? :=fun y k hk=>by rw[jD8,if_neg (fun h=>hk h.symm)]
     have hnb:∀o k C',ρ.blk o=some (some (k,C'))->k≠b:=fun o k C' I e=>by
      subst e;rcases V.own o k C' I with O|O
      .have:=J.lt;omega
      .exact J.nb O
     have Y:∀y,jaW ρ.H {w with heap:=w.heap.setIfInBounds b y}:=fun y=>by
      refine⟨fun k c hkc=> ?_,V.good.2⟩;have:k≠b:=fun e=>by subst e;rw[hH] at hkc;cases hkc
      show c.at (w.heap.setIfInBounds b y)[k]?;rw[hoth y k this];exact V.good.1 k c hkc
     obtain⟨n1,n2,n3⟩:=jlZ (σ:=(bld (fun k=>f.getD k false) aZ rs).st) (w':={w with heap:=w.heap.setIfInBounds b (.map (es.push {key:=a.eval ix,val:=a.eval xx,born:=clock}) (clock+1))}) hch V hPin rfl rfl rfl (jDW _) (by simp) (Y _)
      (fun k hk=>hoth _ k (by have:=J.ge;omega)) (fun o k C' I=>hoth _ k (hnb o k C' I))
     refine ih _ _ _ (by simpa using hs) hcnt hb' X ⟨_,some b,n1,jbD (r:=lvO d (some b) (bld (fun k=>f.getD k false) aZ rs)) ⟨hd,hn,ρ,n2,hSl,hG,n3⟩ (fun s=> ?_) (fun r=>b2 r) (fun y hy=>b3 y hy),l++[z],es.push {key:=a.eval ix,val:=a.eval xx,born:=clock},clock+1,?_⟩
     .show jt ((d,SV.lit (.map (some b)))::(bld (fun k=>(f.setIfInBounds i true).getD k false) aZ rs).st.sl) s=jt ((d,SV.lit (.map (some b)))::(bld (fun k=>f.getD k false) aZ rs).st.sl) s;by_cases e:d=s
      .subst e;rw[jy,jy]
      .rw[jq e,jq e];exact b1 s
     .have hi0:(0:Nat)≠i:=fun e=>by have:f.getD 0 false=true:=J.d0;rw[e,h2] at this;cases this
      refine⟨by show(f.setIfInBounds i true).getD 0 false=true;rw[t 0 hi0];exact J.d0,J.ge,by show b<(w.heap.setIfInBounds b _).size;simpa using hblt,fun hmm=> ?_,hH,?_,jvY hrd hkr hvr,?_,fun y=> ?_⟩
      .obtain⟨o',C',_,h6⟩:=(jR _).1 hmm;exact hnb o' b C' h6 rfl
      .show(w.heap.setIfInBounds b _)[b]? =_;simp[hblt]
      .rw[jEW,jEU];refine⟨J.nd,by simp,fun u hu v hv=> ?_⟩;simp at hv;subst hv;exact fun e=>hnew (e▸hu)
      .rw[jDY,J.mem,jEn];constructor
       .rintro(⟨k,k1,Z⟩|rfl)
        .by_cases e:k=i
         .exact⟨i,G,e▸Z⟩
         .exact⟨k,by show(f.setIfInBounds i true).getD k false=true;rw[t k e];exact k1,Z⟩
        .exact⟨i,G,N⟩
       .rintro⟨k,k1,Z⟩;by_cases e:k=i
        .subst e;rw[N] at Z;simp at Z;exact .inr Z.symm
        .exact .inl ⟨k,by show f.getD k false=true;rw[<-t k e];exact k1,Z⟩
  split
  .rename_i hw;rw[if_pos hw] at fin2;exact .inl fin2
  .rename_i hw;rw[if_neg hw] at fin2;exact fin2
end
end Go.X
namespace Go.X
open Go.RowKit (Below)
section
variable {P:Program} {B:zu} {C:Ctx} {ops:Array Oper} {Q:Exit->Act->World->Prop}
theorem jtS {o:Oper} {rs:RS} {a:Act} {w:World} {v:SV} {u:Value} {k:RS->Prop} (h:jx7 C ops.toList o v rs k) (E:Inv P B C.n ops rs a w)
 (I:∀ρ,jfE P ρ rs.st.sl a->SV.den P ρ v u):∃f,k f/\(∃p,f.st.sl=p++rs.st.sl)/\f.st.ob=rs.st.ob/\Inv P B C.n ops f (a.put o.dst u) w:=by
 unfold jx7 at h
 split at h
 case h_2=>exact h.elim
 rename_i r K A;obtain⟨G,H,ρ,F,l,D,i⟩:=E;have q:∀d,o.dst=some d->d<C.n:=fun d c=>by
  unfold jdC at r;rw[c] at r;exact jD5 r
 have m:jnF C ops {o with guard:=none,op:= .move (.tmp 0)} rs ⟨none,[],[],jot o v,[],[],[]⟩:=
  ⟨q,fun d c s j b x z=>by rw[A] at z;simp at z,fun d c j b t=>by simp at t,fun d c=>by simp at c,fun y=>by simp[jbC] at y⟩
 refine⟨_,h,⟨_,rfl⟩,rfl,?_⟩;exact jdA (C:=C) (ops:=ops) (o:={o with guard:=none,op:= .move (.tmp 0)}) (rs:=rs) (e:=⟨none,[],[],jot o v,[],[],[]⟩) (ρ:=ρ) (ρ'':=ρ) (sv:=v) (gv:= .any) (v:=u) G H l D i F (Env.le.refl _ _) m q rfl (fun _ _=>I ρ l) (fun x J=>by simp at J) (fun d g _ t=>by simp at t)
theorem jqx (j:C.ok P) {o:Oper} {rs:RS} {a:Act} {w:World} {k:RS->Prop} (h:jqw C ops.toList {o with guard:=none} rs k) (l:Inv P B C.n ops rs a w) {K:Act->World->Prop}
 (m:∀b d w',k b->(∃p,b.st.sl=p++rs.st.sl)->(∃p,b.st.ob=p++rs.st.ob)->Inv P B C.n ops b d w'->K d w'):o.wp P a w K Q:=by
 unfold jqw at h
 split at h
 .exact h.elim
 rename_i e q
 split at h
 case h_2=>exact h.elim
 rename_i r;obtain⟨g,i⟩:=jc5 h;have:=qc (K:=K) (Q:=Q) j q (qk r) (Fit.refl P B rs e) l g (fun d w' f c=>m _ d w' (i c) ⟨_,rfl⟩ ⟨_,rfl⟩ f);rw[if_pos (by simp[Region.wanted])] at this;cases o;exact this
theorem jlq (X:C.ok P) {σ0:St} {k:RS->Prop} (Y:∀rs a w,(∃p,rs.st.sl=p++σ0.sl)->(∃p,rs.st.ob=p++σ0.ob)->k rs->Inv P B C.n ops rs a w->Q .normal a w):
 ∀(l:List Oper) (f:List ((Nat×Bool)×Bool)) (rs:RS) (a:Act) (w:World),(∃p,rs.st.sl=p++σ0.sl)->(∃p,rs.st.ob=p++σ0.ob)->jp9 C ops.toList l f rs k->Inv P B C.n ops rs a w->wpList P ops Q l a w
 |[],f,rs,a,w,M,N,h,G=>Y rs a w M N h G
 |o::r,f,rs,a,w,M,N,h,G=>by
  have D:∀{α:Type} {x y z:List α},(∃p,y=p++x)->(∃p,z=p++y)->∃p,z=p++x:=by
   rintro α x y z ⟨p,rfl⟩ ⟨q,rfl⟩;exact⟨q++p,by rw[jEb]⟩
  have ih:=fun f e O w'=>jlq X Y r f e O w'
  have step:∀d,jqw C ops.toList {o with guard:=none} rs (fun e=>jp9 C ops.toList r d e k)->o.wp P a w (wpList P ops Q r) Q:=fun d L=>
   jqx X L G (fun e O w' hk s1 s2 S=>ih d e O w' (D M s1) (D N s2) hk S)
  have put:∀d v u,jx7 C ops.toList o v rs (fun e=>jp9 C ops.toList r d e k)->(∀ρ,jfE P ρ rs.st.sl a->SV.den P ρ v u)->wpList P ops Q r (a.put o.dst u) w:=fun d v u F hu=>by
   obtain⟨e,k1,k2,k3,k4⟩:=jtS F G hu;exact ih d e _ w (D M k2) (by rw[k3];exact N) k1 k4
  unfold wpList;simp only[jp9] at h
  split at h
  .rename_i J;have V:Region.wanted o (yielded ops a.tmps)=true:=(by simp[Region.wanted,J]);rw[if_pos V];refine .inl ?_
   split at h
   .rename_i c x y F
    split at h
    case h_2=>exact h.elim
    rename_i I W;have E:o.op= .pick c x y:=by
     unfold jz6 at F
     split at F
     .rename_i E;simp at F;obtain⟨rfl,rfl,rfl⟩:=F;exact E
     .cases F
    obtain⟨_,_,ρ,_,m,_,_⟩:=id G;have Z:=jC (P:=P) (a:=a) m c;rw[W] at Z;have T:a.eval c= .bool I:=by
     have R:Ty.bool.rv ρ.H (a.eval c) I:=(by simpa only[SV.den] using Z);have h2:=jW (t:= .bool) rfl R;have h3:some (a.eval c)=some (.bool I):=h2;simpa using h3
    have K:(execOp a.eval o).run P w= .ok (.value (if I=true then a.eval x else a.eval y)) w:=by
     simp only[execOp,E,T];cases I<;>simp[asBool]
    unfold Oper.wp;rw[K];simp only[Oper.upon]
    split at h
    .obtain⟨rfl,h⟩:=h;exact put f _ _ h (fun ρ m=>jC (P:=P) (a:=a) m x)
    .obtain⟨rfl,h⟩:=h;exact put f _ _ h (fun ρ m=>jC (P:=P) (a:=a) m y)
    .cases I with
     |true=>exact put f _ _ (h.1 rfl) (fun ρ m=>jC (P:=P) (a:=a) m x)
     |false=>exact put f _ _ (h.2 rfl) (fun ρ m=>jC (P:=P) (a:=a) m y)
   .have:{o with guard:=none}=o:=(by cases o;simp only at J;subst J;rfl);exact step f (by rw[this];exact h)
  .rename_i g J;have A:∀γ,jcL ops.toList rs ops.toList.length g=some γ->((Region.wanted o (yielded ops a.tmps)=true)↔γ=true):=by
    intro γ i;obtain⟨_,_,ρ,_,m,hG,_⟩:=id G;have R:=yg m hG _ _ _ i;rw[<-R];obtain⟨j,b⟩:=g;simp[Region.wanted,J,jfK]
   have yes:∀{γ:Bool},jcL ops.toList rs ops.toList.length g=some γ->γ=true->∀d,jqw C ops.toList {o with guard:=none} rs (fun e=>jp9 C ops.toList r d e k)->(if Region.wanted o (yielded ops a.tmps) then o.wp P a w (wpList P ops Q r) Q\/(o.asks P a w/\LetsOut Q) else wpList P ops Q r (a.put o.dst undef) w):=fun i ht d L=>by
    rw[if_pos ((A _ i).2 ht)];exact .inl (step d L)
   have no:∀{γ:Bool},jcL ops.toList rs ops.toList.length g=some γ->γ=false->∀d,jx7 C ops.toList o .any rs (fun e=>jp9 C ops.toList r d e k)->(if Region.wanted o (yielded ops a.tmps) then o.wp P a w (wpList P ops Q r) Q\/(o.asks P a w/\LetsOut Q) else wpList P ops Q r (a.put o.dst undef) w):=fun i hf d L=>by
    rw[if_neg (fun V=>by rw[(A _ i).1 V] at hf;cases hf)];exact put d _ _ L (fun ρ _=>kA _)
   split at h
   .rename_i γ i s;exact yes i h.1 f h.2
   .rename_i γ i s;exact no i h.1 f h.2
   .rename_i γ i s;cases γ with
    |true=>exact yes i rfl _ (h.1 rfl)
    |false=>exact no i rfl _ (h.2 rfl)
   .exact h.elim
end
end Go.X
namespace Go.X
open Go.RowKit (Below)
section
variable {P:Program} {B:zu} {C:Ctx} {ops ops':Array Oper} {Q:Exit->Act->World->Prop} {aZ:List zL} {rs:RS} {ps:List (List Nat)}
theorem juS (hC:C.ok P) (hsz:ops'.toList.length=ops.toList.length) (q:∀k o',ops'.toList[k]? =some o'->∃y,wT C ops'.toList aZ rs k o' y) (hlen:aZ.length=ops'.toList.length) (A:z8 ops.toList []=some ps) {nb:List Nat} (hnb:nb=vR aZ) (hord:yv rs.st nb aZ aZ ps 0=true)
 (hvc:∀y,y∈aZ->jzN y.e.guard y.e.vc) (hQ:∀a w,Inv P B C.n ops' (bld (fun _=>true) aZ rs) a w->Q .normal a w)
 (hsim:∀(i:Nat) (o o':Oper) (D:Nat->Bool) (a:Act) (w:World) (K:Act->World->Prop),ops.toList[i]? =some o->ops'.toList[i]? =some o'->(∀p,ps[i]? =some p->∀j,j∈p->D j=true)->Inv P B C.n ops' (bld D aZ rs) a w->
  (if Region.wanted o' (yielded ops' a.tmps) then o'.wp P a w K Q else K (a.put o'.dst undef) w)->wpOp P ops Q i K a w):
 ∀(c:Nat) (b:Array Bool) (a:Act) (w:World),b.size=ops.size->cnt ops.size b<=c->Clo ops (fun k=>b.getD k false)->Inv P B C.n ops' (bld (fun k=>b.getD k false) aZ rs) a w->
  wpAny P .any ops Q c b a w:=by
 have hf:∀k y,aZ[k]? =some y->∃o',ops'.toList[k]? =some o'/\wT C ops'.toList aZ rs k o' y:=by
  intro k y hk;have M:=(jDU.1 hk).1;have E:k<ops'.toList.length:=(by omega);obtain⟨y',u⟩:=q k ops'.toList[k] (jDX E);have:=u.get;rw[hk] at this;simp at this;subst this;exact⟨_,jDX E,u⟩
 have T:∀(b:Array Bool) (a:Act) (w:World),(∀k,k<ops.size->b.getD k false=true)->Inv P B C.n ops' (bld (fun k=>b.getD k false) aZ rs) a w->Q .normal a w:=by
  intro b a w hl J;refine hQ a w ?_;have e:∀{α:Type} (f:zL->List α),eL f (fun k=>b.getD k false) aZ 0=eL f (fun _=>true) aZ 0:=fun f=>jfj f aZ 0 (fun k _ hk=>hl k (by simp at hlen hsz;omega))
  have:bld (fun k=>b.getD k false) aZ rs=bld (fun _=>true) aZ rs:=(by unfold bld;rw[e,e,e]);rw[<-this];exact J
 intro c
 induction c with
 |zero=>
  intro b a w hs hc _ J;have hl:∀k,k<ops.size->b.getD k false=true:=by
   intro k hk;cases O:b.getD k false with
   |true=>rfl
   |false=>
    have h0:cnt ops.size b=0:=(by omega);have:=jE9.1 h0 k (by simpa using hk);simp[O] at this
  refine⟨?_,T b a w hl J⟩;rw[List.eq_nil_iff_forall_not_mem];intro i hi;obtain⟨o,G,H,_⟩:=(qC hs).1 hi;have:=(jDU.1 G).1;rw[hl i (by simpa using this)] at H;cases H
 |succ c ih=>
  intro b a w hs hc d J;refine⟨fun hr=>T b a w (fun k hk=>gB A hs hr (k+1) k (by omega) hk) J,fun i hi=> ?_⟩;obtain⟨o,G,H,h3⟩:=(qC hs).1 hi;have M:i<ops.size:=(by have:=(jDU.1 G).1;simpa using this);have hlt':i<ops'.toList.length:=(by rw[hsz];simpa using M);have V:ops'.toList[i]? =some ops'.toList[i]:=jDX hlt';obtain⟨x,F⟩:=q i _ V;have t:=qz _ _ _ _ hord;have opOf:∀(k:Nat) (y:zL),aZ[k]? =some y->∃o',ops.toList[k]? =some o':=by
   intro k y hk;have:=(jDU.1 hk).1;exact⟨_,jDX (by omega)⟩
  have v:∀(k:Nat) (y:zL),aZ[k]? =some y->(fun k=>b.getD k false) k≠decide (k<i)->NT rs.st nb x y:=by
   intro k y hk hne;simp only at hne;obtain⟨o',g⟩:=opOf k y hk;by_cases hki:k<i
   .have O:b.getD k false=false:=by cases hh:b.getD k false<;>simp_all
    obtain⟨p,S,e2⟩:=t i x F.get;rcases e2 k y (by omega) hk with h|h
    .exact h.symm
    .have:=qn A d (i+1) i (by omega) o p G h3 S k h;rw[O] at this;cases this
   .have O:b.getD k false=true:=by cases hh:b.getD k false<;>simp_all
    have hne':k≠i:=fun e=>by subst e;rw[H] at O;cases O
    obtain⟨p,S,e2⟩:=t k y hk;rcases e2 i x (by omega) F.get with h|h
    .exact h
    .have:=qn A d (k+1) k (by omega) o' p g (fun e he hb=>d k o' g O e he hb) S i h;rw[H] at this;cases this
  obtain⟨Y,hcl⟩:=jBj (D:=fun k=>b.getD k false) hf F hnb v;have Z:=jxd (D:=fun k=>b.getD k false) hf F v;have m:∀k,(b.setIfInBounds i true).getD k false=if k=i then true else b.getD k false:=jcb (by omega);have L:Clo ops (fun k=>(b.setIfInBounds i true).getD k false):=by
   intro k o' g hk e he hb;simp only at hk⊢;rw[m] at hk⊢
   split
   .rfl
   .by_cases e':k=i
    .subst e';rw[G] at g;simp at g;subst g;exact h3 e he hb
    .rw[if_neg e'] at hk;exact d k o' g hk e he hb
  have N:=qc (K:=wpAny P .any ops Q c (b.setIfInBounds i true)) (Q:=Q) hC Y Z (jiO hcl) J (hvc x (jEM F.get)) (fun a' w' hI' _=>by
   refine ih _ a' w' (by simpa using hs) (by have:=jxC (n:=ops.size) (by omega) M H;omega) L ?_;have ins:∀{α:Type} (f:zL->List (Nat×α)) (s:Nat),(∀(k:Nat) (y:zL),i<k->aZ[k]? =some y->b.getD k false=true->jt (f x) s≠none->jt (f y) s=none)->
    jt (eL f (fun k=>(b.setIfInBounds i true).getD k false) aZ 0) s=jt (f x++eL f (fun k=>b.getD k false) aZ 0) s:=by
    intro α f s hh;refine jac (i:=i) H (by show(b.setIfInBounds i true).getD i false=true;rw[m,if_pos rfl]) (fun k hk=>by show(b.setIfInBounds i true).getD k false=_;rw[m,if_neg hk]) aZ 0 i (by omega) F.get (fun k y h4 I W X=> ?_);exact hh k y h4 I (by simpa using W) X
   refine jbD hI' (fun s=> ?_) (fun r=> ?_) (fun y R=> ?_)
   .simp only[bld,jY];rw[je,ins (fun x=>x.e.sl) s (fun k y h4 I W X=>jm _ _ (fun hk=>(v k y I (by show b.getD k false≠_;rw[W];simp;omega)).sl s (qE X) hk)),<-je,jEb]
   .have S:(jY x.e (bld (fun k=>b.getD k false) aZ rs)).st.obj r=(match jt (x.e.ob++eL (fun x=>x.e.ob) (fun k=>b.getD k false) aZ 0) r with|some y=>y|none=>rs.st.obj r):=by
     simp only[St.obj,jY,bld];rw[<-jEb,je]
     all_goals (cases jt (x.e.ob++eL (fun x=>x.e.ob) (fun k=>b.getD k false) aZ 0) r<;>rfl)
    have hins:=ins (fun x=>x.e.ob) r (fun k y h4 I W X=>jm _ _ (fun hk=>by
     obtain⟨y',u⟩:=q k _ (jDX (l:=ops'.toList) (i:=k) (by have:=(jDU.1 I).1;omega));have:=u.get;rw[I] at this;simp at this;subst this;exact(v k y I (by show b.getD k false≠_;rw[W];simp;omega)).ws r (by rw[F.ws];exact jDS _ (qE X)) (by rw[u.ws];exact jDS _ hk)))
    rw[jal,S,hins]
    all_goals (cases jt (x.e.ob++eL (fun x=>x.e.ob) (fun k=>b.getD k false) aZ 0) r<;>rfl)
   .simp only[bld,jY] at R⊢;rcases jDY.1 R with R|R
    .obtain⟨k,z,g1,g2,g3⟩:=(qD _ _ _ _ _).1 R;simp only[jER] at g2;rw[m] at g2;by_cases e:k=i
     .subst e;have:=F.get;rw[g1] at this;simp at this;subst this;exact jDS _ g3
     .rw[if_neg e] at g2;exact jDR _ (jDS _ ((qD _ _ _ _ _).2 ⟨k,z,g1,by simpa using g2,g3⟩))
    .exact jDR _ (jDR _ R))
  exact hsim i o _ (fun k=>b.getD k false) a w _ G V (fun p hp j hj=>qn A d (i+1) i (by omega) o p G h3 hp j hj) J N
theorem jlo (g:Nat×Bool) (d a:Nat) (γ:Bool):∀(l:List Oper) (i:Nat),(yP g d a γ l)[i]? =(l[i]?).map (jqW g d a γ)
 |[],i=>by simp[yP]
 |o::r,0=>by simp[yP]
 |o::r,i+1=>by simpa[yP] using jlo g d a γ r i
theorem jln (g:Nat×Bool) (d a:Nat) (γ:Bool):∀(l:List Oper),(yP g d a γ l).length=l.length
 |[]=>rfl
 |o::r=>by simp[yP,jln g d a γ r]
theorem jg9 {g:Nat×Bool} {d:Nat}:∀(l:List Oper) (ps:List (List Nat)),vS g d l ps=true->∀(i:Nat) (o:Oper) (p:List Nat),l[i]? =some o->ps[i]? =some p->
 (∀h,o.guard=some h->h=g/\g.1∈p)/\(o.guard=none->∀c x y,o.op= .pick (.tmp c) x y->c=d->g.1∈p)
 |[],_,_,i,o,p,a,_=>by simp at a
 |_::_,[],h,i,o,p,_,h2=>by simp at h2
 |o'::r,p'::ps,h,i,o,p,a,h2=>by
  have b:vS g d r ps=true:=by
   simp only[vS] at h
   split at h
   .split at h
    .exact h
    .cases h
   .split at h
    .split at h
     .split at h
      .exact h
      .cases h
     .exact h
    .exact h
  cases i with
  |succ i=>exact jg9 r ps b i o p (by simpa using a) (by simpa using h2)
  |zero=>
   simp at a h2;subst a;subst h2;simp only[vS] at h;constructor
   .intro k f;rw[f] at h;simp only at h
    split at h
    .rename_i m n;exact⟨(jsy m).symm,(zQ _ _).1 n⟩
    .cases h
   .intro k c x y j q;rw[k,j] at h;simp only at h;subst q;rw[show Nat.beq c c=true from Nat.beq_refl c] at h;simp only at h
    split at h
    .rename_i e;exact(zQ _ _).1 e
    .cases h
theorem jlz {d:Nat}:∀(aZ:List zL),jyM d aZ=true->∀(k:Nat) (y:zL),aZ[k]? =some y->d∉zK y.e.sl
 |[],_,k,y,h=>by simp at h
 |x::r,h,k,y,hk=>by
  simp only[jyM] at h
  split at h
  .cases h
  .rename_i a
   cases k with
   |zero=>simp at hk;subst hk;exact wB a
   |succ k=>exact jlz r h k y (by simpa using hk)
theorem ji8 {d:Nat} {v:SV}:∀(aZ:List zL) (j:Nat),jeG d aZ j=some v->(∃x,aZ[j]? =some x/\jt x.e.sl d=some v)/\∀(k:Nat) (y:zL),aZ[k]? =some y->k≠j->d∉zK y.e.sl
 |[],j,h=>by cases j<;>simp[jeG] at h
 |x::r,0,h=>by
  simp only[jeG] at h
  split at h
  .rename_i i
   refine⟨⟨x,by simp,h⟩,fun k y hk a=> ?_⟩
   cases k with
   |zero=>exact absurd rfl a
   |succ k=>exact jlz r i k y (by simpa using hk)
  .cases h
 |x::r,j+1,h=>by
  simp only[jeG] at h
  split at h
  .cases h
  .rename_i g
   obtain⟨⟨z,b,c⟩,f⟩:=ji8 r j h
   refine⟨⟨z,by simpa using b,c⟩,fun k y hk a=> ?_⟩
   cases k with
   |zero=>simp at hk;subst hk;exact wB g
   |succ k=>exact f k y (by simpa using hk) (by omega)
theorem jjr {d:Nat} {v:SV} {D:Nat->Bool} (f:zL->List (Nat×SV)):∀(aZ:List zL) (i j:Nat) (x:zL),aZ[j]? =some x->D (i+j)=true->jt (f x) d=some v->(∀(k:Nat) (y:zL),aZ[k]? =some y->k≠j->d∉zK (f y))->jt (eL f D aZ i) d=some v
 |[],i,j,x,h,_,_,_=>by simp at h
 |z::r,i,j,x,h,hD,hl,ho=>by
  simp only[eL]
  cases j with
  |zero=>
   simp at h;subst h
   have a:jt (eL f D r (i+1)) d=none:=jm _ _ (fun hk=>by
    obtain⟨y,l⟩:=(jb5 _ _).1 hk
    obtain⟨k,u,c,_,e⟩:=(qD f D _ r (i+1)).1 l
    exact ho (k+1) u (by simpa using c) (by omega) ((jb5 _ _).2 ⟨_,e⟩))
   have b:D i=true:=by simpa using hD
   rw[je,a]
   simp only[b]
   exact hl
  |succ j=>
   rw[je,jjr f r (i+1) j x (by simpa using h) (by rw[<-hD];congr 1;omega) hl (fun k y hk g=>ho (k+1) y (by simpa using hk) (by omega))]
theorem jAB {g:Nat×Bool} {d:Nat} {γ l:Bool} (hd:yC ops.toList g.1=some d) (hb:vS g d ops.toList ps=true) (X:z8 ops.toList []=some ps) (ho:jeG d aZ g.1=some (.dat .bool l)) (v:l=if γ=true then g.2 else !g.2)
 (e':ops'.toList=yP g d C.n γ ops.toList) (i:Nat) (o o':Oper) (D:Nat->Bool) (a:Act) (w:World) (K:Act->World->Prop) (H:ops.toList[i]? =some o) (h2:ops'.toList[i]? =some o') (hp:∀p,ps[i]? =some p->∀j,j∈p->D j=true)
 (hI:Inv P B C.n ops' (bld D aZ rs) a w) (h:if Region.wanted o' (yielded ops' a.tmps) then o'.wp P a w K Q else K (a.put o'.dst undef) w):wpOp P ops Q i K a w:=by
 have k:o'=jqW g d C.n γ o:=by
  rw[e',jlo,H] at h2;simpa using h2.symm
 have hlt:=(jDU.1 H).1;obtain⟨p,J⟩:∃p,ps[i]? =some p:=by
  obtain⟨_,Z⟩:=wR _ _ _ X;obtain⟨p',R,_⟩:=Z i o H;simp only[jEF,jER] at R;exact⟨p',R⟩
 obtain⟨s1,s2⟩:=jg9 _ _ hb i o p H J;have val:g.1∈p->a.tmps[d]? =some (.bool l):=by
  intro V;have hD:=hp p J _ V;obtain⟨⟨x,k1,Z⟩,R⟩:=ji8 _ _ ho;have hl:jt (bld D aZ rs).st.sl d=some (.dat .bool l):=by
   simp only[bld];rw[je,jjr (fun x=>x.e.sl) aZ 0 g.1 x k1 (by simpa using hD) Z R]
  obtain⟨_,_,ρ,_,S,_,_⟩:=hI;have I:=S d _ hl;have h3:=jW (t:= .bool) rfl (by simpa only[SV.den] using I);have E:some (a.tmps.getD d undef)=some (.bool l):=h3;have E:a.tmps.getD d undef= .bool l:=(by simpa using E);rw[jDZ] at E;cases N:a.tmps[d]? with
  |none=>rw[N] at E;simp[undef] at E
  |some u=>rw[N] at E;simp at E;rw[E]
 have W:ops[i]? =some o:=(by simpa using H);unfold wpOp;rw[W];simp only;cases q:o.guard with
 |some A=>
  obtain⟨rfl,V⟩:=s1 A q;have Y:=val V;have O:Region.wanted o (yielded ops a.tmps)=true↔l=A.2:=by
   have:=jca (ops:=ops) (a:=a) (want:=A.2) hd;have h5:jfK ops a A↔a.tmps[d]? =some (.bool A.2):=this;rw[Y] at h5;have h6:(Region.wanted o (yielded ops a.tmps)=true)↔jfK ops a A:=by
    obtain⟨j,b⟩:=A;simp[Region.wanted,q,jfK]
   rw[h6,h5];simp
  cases γ with
  |true=>
   have m:o'={o with guard:=none}:=(by rw[k];simp only[jqW,q]);rw[if_pos (O.2 v)];have f:Region.wanted o' (yielded ops' a.tmps)=true:=(by rw[m];simp[Region.wanted]);rw[if_pos f,m] at h;refine .inl ?_;cases o;exact h
  |false=>
   have m:o'={o with guard:=none,op:= .move (.tmp C.n)}:=(by rw[k];simp only[jqW,q]);rw[if_neg (fun hh=>by have:=O.1 hh;rw[v] at this;cases F:A.2<;>rw[F] at this<;>cases this)]
   have f:Region.wanted o' (yielded ops' a.tmps)=true:=(by rw[m];simp[Region.wanted]);rw[if_pos f] at h;have s:(execOp a.eval o').run P w= .ok (.value (a.eval (.tmp C.n))) w:=(by rw[m];simp[execOp]);have M:a.eval (.tmp C.n)=undef:=by
    simp only[Act.eval];rw[jDZ,Array.getElem?_eq_none (by rw[hI.2.1];exact jDW _)];rfl
   unfold Oper.wp at h;rw[s] at h;simp only[Oper.upon] at h;rw[M,m] at h;exact h
 |none=>
  have O:Region.wanted o (yielded ops a.tmps)=true:=(by simp[Region.wanted,q]);rw[if_pos O];refine .inl ?_;by_cases L:∃c x y,o.op= .pick (.tmp c) x y/\c=d
  .obtain⟨c,x,y,r,rfl⟩:=L;have Y:=val (s2 q c x y r rfl);obtain⟨z,m,ez⟩:∃z,o'={o with op:= .move z}/\z=(if l=true then x else y):=by
    simp only[jqW,q,r] at k;rw[show Nat.beq c c=true from Nat.beq_refl c] at k;simp only at k;refine⟨if l=true then x else y,?_,rfl⟩;cases γ<;>cases F:g.2<;>rw[F] at k v<;>(rw[k,v,q];rfl)
   have f:Region.wanted o' (yielded ops' a.tmps)=true:=(by rw[m];simp[Region.wanted,q]);rw[if_pos f] at h;have T:a.eval (.tmp c)= .bool l:=by
    simp only[Act.eval];rw[jDZ,Y];rfl
   have s:(execOp a.eval o).run P w= .ok (.value (if l=true then a.eval x else a.eval y)) w:=by
    simp only[execOp,r,T];cases l<;>simp[asBool]
   have G:(execOp a.eval o').run P w= .ok (.value (if l=true then a.eval x else a.eval y)) w:=by
    rw[m,ez];simp only[execOp];cases l<;>rfl
   unfold Oper.wp at h⊢;rw[G] at h;rw[s];have ed:o'.dst=o.dst:=(by rw[m]);simp only[Oper.upon] at h⊢;rw[ed] at h;exact h
  .have m:o'=o:=by
    rw[k];simp only[jqW,q]
    split
    .rename_i c x y r
     split
     .rename_i N;exact absurd ⟨c,x,y,r,jDQ N⟩ L
     .rfl
    .rfl
   subst m;have f:Region.wanted o' (yielded ops' a.tmps)=true:=(by simp[Region.wanted,q]);rw[if_pos f] at h;exact h
theorem jmC (L:C.ok P) {g:Nat×Bool} {d:Nat} {γ J:Bool} {σ:St} {f:RS} (R:yC ops.toList g.1=some d) (i:z8 ops.toList []=some ps) (O:vS g d ops.toList ps=true)
 (c:jmF C (yP g d C.n γ ops.toList) ps σ=some (aZ,f)) (H:jeG d aZ g.1=some (.dat .bool J)) (G:J=if γ=true then g.2 else !g.2) {k:Prop} (hk:zo true (aZ.map (·.e)) k) {a:Act} {w:World} (N:Rel P B C.n σ a w)
 (M:k->∀b w',Rel P B C.n f.st b w'->Q .normal b w'):jtQ P ops true Q a w/\f=bld (fun _=>true) aZ ⟨σ,[]⟩:=by
 unfold jmF at c
 split at c
 case h_2=>cases c
 rename_i K X E
 split at c
 case h_2=>cases c
 rename_i h;simp only[Option.some.injEq,Prod.mk.injEq] at c;obtain⟨rfl,rfl⟩:=c;obtain⟨V,I,W⟩:=vz _ _ _ _ E;refine⟨?_,I⟩;obtain⟨F,D⟩:=vo _ hk;have m:∀{l:RS} {ops':Array Oper} {b:Act} {w':World},Inv P B C.n ops' l b w'->Rel P B C.n l.st b w':=fun⟨p,q,ρ,r,t,_,u⟩=>⟨p,q,ρ,r,t,u⟩
 show wpAny P .any ops Q ops.size (Array.replicate ops.size false) a {w with drawn:=w.drawn+1};have x:Inv P B C.n (yP g d C.n γ ops.toList).toArray ⟨σ,[]⟩ a {w with drawn:=w.drawn+1}:=by
  obtain⟨p,q,ρ,r,t,u⟩:=N;exact⟨p,q,ρ,jbg r,t,(fun s g v S=>by simp at S),u⟩
 refine juS (ops':=(yP g d C.n γ ops.toList).toArray) (rs:=⟨σ,[]⟩) L (by simp[jln]) W V i rfl h (fun y T=>F y.e (List.mem_map_of_mem T)) (fun b w' z=>M D b w' (m (by rw[I];exact z)))
  (jAB R O i H G (by simp)) _ _ _ _ (by simp) ?_ ?_ ?_
 .unfold cnt;exact jD7 List.countP_le_length (by simp)
 .intro j o H A;simp only[jDZ,jEX] at A
  split at A<;>simp at A
 .rw[jam _ ⟨σ,[]⟩ (fun j=>by
   simp only[jDZ,jEX]
   split<;>simp)]
  exact x
end
end Go.X
namespace Go.X
open Go.RowKit (Below)
section
variable {P:Program} {B:zu} {σ τ:St} {ρ ρ':Env} {w:World}
theorem jnq {t a:Ty} {d:t.Data} {b:a.Data} (h:jAb t a d b):∃e:t=a,wP e d=b:=by
 unfold jAb at h
 split at h
 .rename_i x c;obtain⟨e,rfl⟩:=jh c;exact⟨e,h⟩
 .exact h.elim
theorem jiG (N:Sat P B ρ σ.obj w) {new:List Nat} (a:ρ.le ρ' new) (D:∀o,o∈new->ρ'.blk o=some none/\ρ'.len o=0) {v I:SV} (h:yp σ v I)
 (J:∀o,o∈new->v.refs o=false) {x:Value} (C:SV.den P ρ v x):SV.den P ρ' I x:=by
 have same:v=I->SV.den P ρ' I x:=fun e=>by subst e;exact SV.den_mono a v x J C
 cases I with
 |any=>simp[SV.den]
 |dat t d=>
  have m:∃y,wJ σ t v=some (y,[])/\y=d:=by
   unfold yp at h;cases v<;>simp only at h<;>(split at h<;>first|exact⟨_,by assumption,h⟩|exact h.elim)
  obtain⟨y,M,rfl⟩:=m;have:=jF N (fz:=[]) (fun o=>⟨.inl rfl,fun O=>by simp at O⟩) M (fun o O=>O) C;simp only[SV.den];exact Ty.rv_mono a.H this
 |fcl t d=>cases v<;>simp only[yp] at h
 |ep t d=>
  cases v<;>simp only[yp] at h
  rename_i R d';obtain⟨e,rfl⟩:=jnq h;subst e;exact same rfl
 |own o t=>
  cases v<;>simp only[yp] at h
  .rename_i o' R
   split at h
   case h_2=>exact h.elim
   rename_i X;have:=jDQ X;subst this;have:=SV.den_mono a _ _ J C;simpa only[SV.den] using this
  .rename_i u
   split at h
   case h_2=>exact h.elim
   rename_i c m;have:=kJ c;subst this;simp only[SV.den] at C;subst C;simp only[SV.den];intro p r;by_cases L:o∈new
   .obtain⟨z,A⟩:=D o L;rw[z] at r;simp at r;subst r;exact⟨trivial,A⟩
   .have:=a.blk o p L r;rw[N.dead o m] at this;cases this
 |osl o t lo n=>
  cases v<;>simp only[yp] at h
  .rename_i o' u
   split at h
   case h_2=>exact h.elim
   rename_i E t0 fz nl l c m
   split at h
   case h_2=>exact h.elim
   rename_i M W;have:=jDQ c;subst this;have:=vi M;have:=vi W;obtain⟨rfl,rfl⟩:=h
   subst_vars
   have j:=SV.den_mono a _ _ J C;simp only[SV.den] at j⊢;intro p r;have j:=j p r;have G:o'∉new:=fun L=>by have:=J o' L;simp[SV.refs] at this
   obtain⟨q,Y,Q,_⟩:=N.obs o' _ m;have s:=a.blk o' p G r;rw[Y] at s;simp at s;subst s;have g:=a.len o' G;cases q with
   |none=>
    obtain⟨z,A⟩:=j;exact⟨z,by rw[<-Q,<-g];exact A⟩
   |some V=>
    obtain⟨b,S⟩:=V;obtain⟨z,A⟩:=j;rw[g,Q] at z A;exact⟨⟨b,0,none⟩,S,z,A,by omega,by rw[g,Q];omega,fun _=>by simp⟩
  .rename_i o' R Z n'
   split at h
   case h_2=>exact h.elim
   rename_i c m;have:=jDQ c;have:=vi m;obtain⟨rfl,rfl⟩:=h
   subst_vars
   exact same rfl
 |bp o k=>
  cases v<;>simp only[yp] at h
  rename_i o' k'
  split at h
  case h_2=>exact h.elim
  rename_i c m;have:=jDQ c;have:=jDQ m
  subst_vars
  exact same rfl
 |mp o=>
  cases v<;>simp only[yp] at h
  split at h
  case h_2=>exact h.elim
  rename_i c;have:=jDQ c
  subst_vars
  exact same rfl
 |ip o=>
  cases v<;>simp only[yp] at h
  split at h
  case h_2=>exact h.elim
  rename_i c;have:=jDQ c
  subst_vars
  exact same rfl
 |rp o t i off=>cases v<;>simp only[yp] at h
 |fn ps rs pre F=>cases v<;>simp only[yp] at h
 |fnp ps rs pre F=>cases v<;>simp only[yp] at h
 |fe q o T st ps rs pre K=>
  cases v<;>simp only[yp] at h
  exact same h
 |clo f caps=>cases v<;>simp only[yp] at h
 |agg cs=>cases v<;>simp only[yp] at h
 |tup cs=>cases v<;>simp only[yp] at h
 |lit u=>cases v<;>simp only[yp] at h
theorem jgL (g:Sat P B ρ σ.obj w) {new:List Nat} (d:ρ.le ρ' new) (a:∀o,o∈new->ρ'.blk o=some none/\ρ'.len o=0):
 ∀{cs b:List SV},jsn σ cs b->(∀o,o∈new->SV.refs.refsL o cs=false)->∀{vs:List Value},SV.denL P ρ cs vs->SV.denL P ρ' b vs
 |[],[],_,_,vs,e=>by simpa[SV.denL] using e
 |c::cs,c'::b,h,hf,vs,e=>by
  simp only[SV.denL] at e⊢
  obtain⟨v,r,rfl,k,l⟩:=e
  have i:∀o,o∈new->c.refs o=false:=fun o f=>by
   have:=hf o f;simp only[SV.refs.refsL] at this;cases m:c.refs o<;>simp_all
  have j:∀o,o∈new->SV.refs.refsL o cs=false:=fun o f=>by
   have:=hf o f;simp only[SV.refs.refsL] at this;cases m:c.refs o<;>simp_all
  exact⟨v,r,rfl,jiG g d a h.1 i k,jgL g d a h.2 j l⟩
 |[],_::_,h,_,_,_=>h.elim
 |_::_,[],h,_,_,_=>h.elim
theorem jek:∀(ks:List Nat),jbV σ τ ks->∀s,s∈ks->τ.get s= .any\/yp σ (σ.get s) (τ.get s)
 |[],_,s,h=>by simp at h
 |k::r,h,s,a=>by
  have b:(τ.get k= .any\/yp σ (σ.get k) (τ.get k))/\jbV σ τ r:=by
   unfold jbV at h
   split at h
   .rename_i e;exact⟨.inl e,h⟩
   .exact⟨.inr h.1,h.2⟩
  rcases jDT.1 a with rfl|a
  .exact b.1
  .exact jek r b.2 s a
theorem jc8:∀(os:List Nat),jll σ τ os->∀o,o∈os->∀x,τ.obj o=some x->jhl σ o x
 |[],_,o,h=>by simp at h
 |k::r,h,o,b=>by
  intro x d
  have c:(∀y,τ.obj k=some y->jhl σ k y)/\jll σ τ r:=by
   unfold jll at h
   split at h
   .rename_i e;exact⟨fun y a=>(by rw[e] at a;cases a),h⟩
   .rename_i y e;exact⟨fun f a=>(by rw[e] at a;simp at a;subst a;exact h.1),h.2⟩
  rcases jDT.1 b with rfl|b
  .exact c.1 x d
  .exact jc8 r c.2 o b x d
def jlL:Option Ob->Bool
 |some (.box _ true _)=>true
 |some (.row _ _ true _ _)=>true
 |some (.map true _ _ _)=>true
 |_=>false
theorem jlm {o:Nat} {x:Ob} (h:jhl σ o x):
 (∃T fz c cs j,x= .box T fz cs/\σ.obj o=some (.box T c j)/\jkB fz c=true/\jsn σ j cs)\/
 (∃E t fz c nl d l,x= .row E t fz nl l/\σ.obj o=some (.row E t c d l)/\jkB fz c=true/\(nl=d\/nl= .unk\/(nl= .yes/\d= .no/\l≠[])))\/
 (∃E t nl,x= .row E t false nl []/\nl≠.no/\σ.obj o=none/\jdI o σ.sl=true/\qj o σ.ob=true/\o<1000000)\/
 (∃kt vt fz c l,x= .map fz kt vt l/\σ.obj o=some (.map c kt vt l)/\jkB fz c=true)\/
 (∃kt vt left cur,x= .iter kt vt left none/\σ.obj o=some (.iter kt vt left cur)):=by
 cases x with
 |box T fz cs=>
  simp only[jhl] at h
  split at h
  case h_2=>exact h.elim
  rename_i D c j f
  split at h
  case h_2=>exact h.elim
  rename_i g i;have:=jDQ g;subst this;exact .inl ⟨_,_,_,_,_,rfl,f,i,h⟩
 |row E t fz nl l=>
  simp only[jhl] at h
  split at h
  .rename_i C A c d l' f
   split at h
   case h_2=>exact h.elim
   rename_i g i;have:=jDQ g;subst this;have m:jAb (.slice A) (.slice t) l' l/\(nl=d\/nl= .unk\/(nl= .yes/\d= .no/\l≠[])):=by
    split at h
    .rename_i F;refine⟨h,?_⟩;cases nl<;>cases d<;>simp_all [jvl]
    .split at h
     .exact⟨h.2,.inr (.inr ⟨rfl,rfl,h.1⟩)⟩
     .exact h.elim
   obtain⟨h,w⟩:=m;obtain⟨e,r⟩:=jnq h;have B:A=t:=(by injection e);subst B;have:l'=l:=r;subst this;exact .inr (.inl ⟨_,_,_,_,_,_,_,rfl,f,i,w⟩)
  .rename_i f
   split at h
   .rename_i g i;subst h;simp only[jDV] at i;exact .inr (.inr (.inl ⟨_,_,_,rfl,by simp,f,g,i.1,jD5 i.2⟩))
   .rename_i g i;subst h;simp only[jDV] at i;exact .inr (.inr (.inl ⟨_,_,_,rfl,by simp,f,g,i.1,jD5 i.2⟩))
   .exact h.elim
  .exact h.elim
 |map fz kt vt l=>
  cases f:σ.obj o with
  |none=>simp only[jhl,f] at h
  |some y=>
   cases y with
   |map c n q l'=>
    simp only[jhl,f] at h;cases g:jkB fz c with
    |false=>simp[g] at h
    |true=>
     simp only[g] at h;obtain⟨e,r⟩:=jnq h;obtain⟨u,v⟩:n=kt/\q=vt:=by injection e with a b;exact⟨a,b⟩
     subst u;subst v;have:l'=l:=r;subst this;exact .inr (.inr (.inr (.inl ⟨_,_,_,_,_,rfl,rfl,g⟩)))
   |_=>simp only[jhl,f] at h
 |iter kt vt left cur=>
  cases cur with
  |some x=>exact h.elim
  |none=>
   cases f:σ.obj o with
   |none=>simp only[jhl,f] at h
   |some y=>
    cases y with
    |iter n q p z=>
     simp only[jhl,f] at h;obtain⟨e,r⟩:=jnq h;obtain⟨u,v⟩:n=kt/\q=vt:=by injection e with a b;exact⟨a,b⟩
     subst u;subst v;have:p=left:=r;subst this;exact .inr (.inr (.inr (.inr ⟨_,_,_,_,rfl,rfl⟩)))
    |_=>simp only[jhl,f] at h
 |mape kt vt l k s=>exact h.elim
theorem jq0 {n:Nat} {a:Act} {ks os:List Nat} (h:sub σ τ ks os) (hk:∀s,s∉ks->τ.get s= .any\/τ.get s=σ.get s) (ho:∀o,o∉os->τ.obj o=none\/τ.obj o=σ.obj o)
 (hR:Rel P B n σ a w):Rel P B n τ a w:=by
 obtain⟨hs,hob⟩:=h;obtain⟨r1,r2,ρ,R,hSl,hPin⟩:=hR
 let u:=os.filter fun o=>jlL (τ.obj o)
 obtain⟨ρ1,J,hle1,K,hn1⟩:=jK (σ:=σ) u R
 let new:=os.filter fun o=>(σ.obj o).isNone&&(τ.obj o).isSome
 have c:∀o,o∈new↔o∈os/\σ.obj o=none/\τ.obj o≠none:=by
  intro o;simp only[new,jEa,jDV,Option.isNone_iff_eq_none,Option.isSome_iff_ne_none]
 have born:∀o,o∈new->∃E t nl,τ.obj o=some (.row E t false nl [])/\nl≠.no/\jdI o σ.sl=true/\qj o σ.ob=true/\o<1000000:=by
  intro o z;obtain⟨m1,m2,m3⟩:=(c o).1 z;cases A:τ.obj o with
  |none=>exact absurd A m3
  |some x=>
   rcases jlm (jc8 os hob o m1 x A) with⟨_,_,_,_,_,_,e,_⟩|⟨_,_,_,_,_,_,_,_,e,_⟩|⟨E,t,nl,e,m,_,f1,f2⟩|⟨_,_,_,_,_,_,e,_⟩|⟨_,_,_,_,_,e⟩
   .rw[m2] at e;cases e
   .rw[m2] at e;cases e
   .exact⟨E,t,nl,by rw[e],m,f1,f2⟩
   .rw[m2] at e;cases e
   .rw[m2] at e;cases e
 let r:Env:={H:=ρ1.H,blk:=fun o=>match τ.obj o with|none=>none|some _=>if o∈new then some none else ρ.blk o,len:=fun o=>if o∈new then 0 else ρ.len o}
 have L:ρ.le r new:=⟨hle1.H,fun o p m D=>by
  simp only[r] at D
  split at D
  .cases D
  .rw[if_neg m] at D;exact D,fun o m=>by simp[r,m]⟩
 have O:ρ1.le r new:=⟨fun _ _ h=>h,fun o p m D=>by rw[K];exact L.blk o p m D,fun o m=>by rw[hn1];exact L.len o m⟩;have G:∀o,o∈new->r.blk o=some none/\r.len o=0:=by
  intro o z;obtain⟨E,t,nl,e,_⟩:=born o z;simp only[r];rw[e];simp[z]
 have N:∀s o,o∈new->(σ.get s).refs o=false:=by
  intro s o z;obtain⟨E,t,_,_,_,f,_⟩:=born o z;unfold St.get
  split
  .rename_i v hv;exact jdH _ _ _ _ f (zb _ _ _ hv)
  .rfl
 have M:∀k T fz cs,σ.obj k=some (.box T fz cs)->∀o,o∈new->SV.refs.refsL o cs=false:=by
  intro k T fz cs A o z;obtain⟨E,t,_,_,_,_,f,_⟩:=born o z;simp only[St.obj] at A
  split at A
  .rename_i y hy;subst A;exact qi _ _ _ _ _ _ f (zb _ _ _ hy)
  .cases A
 have S:∀o b W,r.blk o=some (some (b,W))->ρ.blk o=some (some (b,W)):=by
  intro o b W h;by_cases z:o∈new
  .rw[(G o z).1] at h;simp at h
  .exact L.blk o _ z h
 have I:∀o,(σ.frz u).obj o=if o∈u then(σ.obj o).map zR else σ.obj o:=zX σ u;have g:∀o,o∈u↔o∈os/\jlL (τ.obj o)=true:=fun o=>by simp[u,jEa]
 refine⟨r1,r2,r,⟨R.os,R.tape,R.output,R.drawn,R.size,J.good,J.oldH,R.old,?_,?_,?_,?_⟩,?_,hPin.mono L (fun d Z=>by obtain⟨E,t,_,_,_,_,_,f⟩:=born d Z;exact f)⟩
 .intro o x A;have F:o∉new->r.blk o=ρ.blk o:=fun m=>by simp only[r];rw[A];simp[m]
  by_cases z:o∈os
  .rcases jlm (jc8 os hob o z x A) with⟨T,fz,Q,cs,X,rfl,e,e1,e2⟩|⟨E,t,fz,Q,nl,nl',l,rfl,e,e1,hnl⟩|⟨E,t,nl,rfl,i,e,_⟩|⟨kt,vt,fz,Q,l,rfl,e,e1⟩|⟨kt,vt,left,cur,rfl,e⟩
   .have i:o∉new:=fun m=>by have:=((c o).1 m).2.1;rw[e] at this;cases this
    have V:(σ.frz u).obj o=some (.box T fz X):=by
     rw[I];cases fz with
     |true=>rw[if_pos ((g o).2 ⟨z,by rw[A];rfl⟩),e];rfl
     |false=>
      rw[if_neg (fun h=>by have:=((g o).1 h).2;rw[A] at this;simp[jlL] at this),e];cases Q<;>simp_all [jkB]
    obtain⟨p,D,j⟩:=J.obs o _ V;refine⟨p,by rw[F i,<-K];exact D,?_⟩;simp only[jX] at j⊢;obtain⟨b,W,vs,rfl,k1,k2,k3,k4⟩:=j;refine⟨b,W,vs,rfl,k1,?_,k3,k4⟩;have Z:SV.denL P ρ X vs.toList:=by
     obtain⟨p',Y,hs3⟩:=R.obs o _ e;rw[<-K,D] at Y;simp at Y;subst Y;simp only[jX] at hs3;obtain⟨b',C',vs',q0,q1,q2,_⟩:=hs3;simp at q0;obtain⟨rfl,rfl⟩:=q0;rw[k1] at q1;simp at q1;obtain⟨rfl,_⟩:=q1;exact q2
    exact jgL R L G e2 (M o T Q X e) Z
   .have i:o∉new:=fun m=>by have:=((c o).1 m).2.1;rw[e] at this;cases this
    have V:(σ.frz u).obj o=some (.row E t fz nl' l):=by
     rw[I];cases fz with
     |true=>rw[if_pos ((g o).2 ⟨z,by rw[A];rfl⟩),e];rfl
     |false=>
      rw[if_neg (fun h=>by have:=((g o).1 h).2;rw[A] at this;simp[jlL] at this),e];cases Q<;>simp_all [jkB]
    obtain⟨p,D,j⟩:=J.obs o _ V;refine⟨p,by rw[F i,<-K];exact D,jG O i (fun _ _ _ e=>by cases e) (fun _ _ _=>⟨rfl,rfl⟩) ?_⟩;rcases hnl with rfl|rfl|⟨rfl,rfl,hne⟩
    .exact j
    rotate_left
    .simp only[jX] at j⊢;obtain⟨g1,g2,g3⟩:=j;refine⟨g1,g2,?_⟩;cases p with
     |none=>exact absurd rfl g3.2
     |some q=>exact⟨fun _=>hne,g3.2⟩
    .simp only[jX] at j⊢;obtain⟨g1,g2,g3⟩:=j;refine⟨g1,g2,?_⟩;cases p with
     |none=>exact⟨g3.1,by simp⟩
     |some q=>exact⟨fun h=>(by cases h),g3.2⟩
   .have m:o∈new:=(c o).2 ⟨z,e,by rw[A];simp⟩;refine⟨none,(G o m).1,?_⟩;simp only[jX];exact⟨(G o m).2,by simp,trivial,i⟩
   .have i:o∉new:=fun m=>by have:=((c o).1 m).2.1;rw[e] at this;cases this
    have V:(σ.frz u).obj o=some (.map fz kt vt l):=by
     rw[I];cases fz with
     |true=>rw[if_pos ((g o).2 ⟨z,by rw[A];rfl⟩),e];rfl
     |false=>
      rw[if_neg (fun h=>by have:=((g o).1 h).2;rw[A] at this;simp[jlL] at this),e];cases Q<;>simp_all [jkB]
    obtain⟨p,D,j⟩:=J.obs o _ V;refine⟨p,by rw[F i,<-K];exact D,jG O i (fun _ _ _ e=>by cases e) (fun _ _ _=>⟨rfl,rfl⟩) j⟩
   .have i:o∉new:=fun m=>by have:=((c o).1 m).2.1;rw[e] at this;cases this
    have V:(σ.frz u).obj o=some (.iter kt vt left cur):=by
     rw[I,if_neg (fun h=>by have:=((g o).1 h).2;rw[A] at this;simp[jlL] at this),e]
    obtain⟨p,D,j⟩:=J.obs o _ V;refine⟨p,by rw[F i,<-K];exact D,jG O i (fun _ _ _ e=>by cases e) (fun _ _ _=>⟨rfl,rfl⟩) ?_⟩;simp only[jX] at j⊢;obtain⟨b,C,y,q1,q2,q3,q4⟩:=j;refine⟨b,C,y,q1,q2,?_,q4⟩;unfold jcT at q3⊢
    split at q3
    .exact⟨q3.1,rfl⟩
    .obtain⟨es,clock,r1,r2,r3,r4,r5,r6,_⟩:=q3;exact⟨es,clock,r1,r2,r3,r4,r5,r6,trivial⟩
    .exact q3
  .rcases ho o z with e|e
   .rw[A] at e;cases e
   .have i:o∉new:=fun m=>z ((c o).1 m).1
    have V:(σ.frz u).obj o=some x:=by
     rw[I,if_neg (fun h=>z ((g o).1 h).1),<-e,A]
    obtain⟨p,D,j⟩:=J.obs o _ V;exact⟨p,by rw[F i,<-K];exact D,jG O i (fun T fz cs e4 o' ho'=>M o T fz cs (by rw[<-e,A,e4]) o' ho') (fun _ _ _=>⟨rfl,rfl⟩) j⟩
 .intro o A;simp only[r];rw[A]
 .intro o o' b C1 C2 h1 h2;exact R.inj o o' b C1 C2 (S _ _ _ h1) (S _ _ _ h2)
 .intro o b W h1;exact R.own o b W (S _ _ _ h1)
 .intro s sv hv;have hg:τ.get s=sv:=(by unfold St.get;rw[hv]);have Z:SV.den P ρ (σ.get s) (a.tmps.getD s undef):=by
   have:=jC (a:=a) hSl (.tmp s);simpa only[jE,Act.eval] using this
  by_cases z:s∈ks
  .rcases jek ks hs s z with e|e
   .rw[hg] at e;subst e;exact kA _
   .rw[hg] at e;exact jiG R L G e (fun o m=>N s o m) Z
  .rcases hk s z with e|e
   .rw[hg] at e;subst e;exact kA _
   .rw[hg] at e;subst e;exact SV.den_mono L _ _ (fun o m=>N s o m) Z
end
end Go.X
namespace Go.X
open Go.RowKit (Below)
def jcE:Ex->Exit
 | .normal=> .normal
 | .ret=> .ret
 | .exit id=> .exit id
structure Ext (σ σ':St):Prop where
 sl:∃p,σ'.sl=p++σ.sl
 ob:∃p,σ'.ob=p++σ.ob
theorem Ext.refl (σ:St):Ext σ σ:=⟨⟨[],rfl⟩,⟨[],rfl⟩⟩
theorem Ext.trans {a b c:St} (h:Ext a b) (k:Ext b c):Ext a c:=by
 obtain⟨⟨p,f⟩,⟨q,g⟩⟩:=h;obtain⟨⟨i,d⟩,⟨j,e⟩⟩:=k;exact⟨⟨i++p,by rw[d,f,jEb]⟩,⟨j++q,by rw[e,g,jEb]⟩⟩
theorem jcO (n:Nat) (σ:St):Ext σ (gc n σ):=by
 unfold gc
 split
 .exact Ext.refl σ
 .exact⟨⟨_,rfl⟩,⟨[],rfl⟩⟩
theorem jut (s:Nat) (σ:St):Ext σ (joC s σ):=by
 unfold joC
 split
 case h_2=>exact Ext.refl σ
 split
 .exact Ext.refl σ
 .split
  case h_2=>exact Ext.refl σ
  exact⟨⟨_,(jEi).symm⟩,⟨[_,_],rfl⟩⟩
theorem jj4 (σ:St) (b j:Nat):Ext σ (jf7 b j σ):=by
 unfold jf7
 split
 case h_2=>exact Ext.refl σ
 split
 case h_2=>exact Ext.refl σ
 split
 case h_2=>exact Ext.refl σ
 split
 case h_2=>exact Ext.refl σ
 exact⟨⟨_,rfl⟩,⟨[_,_,_],rfl⟩⟩
theorem jg5 (a:Bool) (σ:St) (b j:Nat):Ext σ (jb1 a b j σ):=by
 unfold jb1
 split
 case h_2=>exact Ext.refl σ
 split
 case h_2=>exact Ext.refl σ
 split
 case h_2=>exact Ext.refl σ
 split
 case h_2=>exact Ext.refl σ
 exact⟨⟨_,(jEb ..).symm⟩,⟨[_,_,_],rfl⟩⟩
theorem jj3 (σ:St) (b j:Nat):Ext σ (jmH b j σ):=jg5 false σ b j
theorem jg4 (b:Nat):∀(j:Nat) (σ:St),Ext σ (jh2 b j σ)
 |0,σ=>Ext.refl σ
 |j+1,σ=>(jg4 b j σ).trans (jj3 _ b j)
theorem jdJ (σ:St) (t:Nat):Ext σ (jdi σ t):=by
 unfold jdi
 split
 .exact(jj4 σ _ _).trans (jg4 _ _ _)
 .exact jj4 σ _ _
 .exact Ext.refl σ
theorem jrP (σ:St) (c:Callee):Ext σ (jiY σ c):=by
 unfold jiY
 split
 .exact jdJ σ _
 .exact Ext.refl σ
theorem jrQ (σ:St) (l:List Operand):Ext σ (jiZ σ l):=by
 unfold jiZ
 split
 .exact jdJ σ _
 .exact Ext.refl σ
theorem jj5 (b:Nat):∀(j:Nat) (σ:St),Ext σ (jmI b j σ)
 |0,σ=>Ext.refl σ
 |j+1,σ=>by
  refine(jj5 b j σ).trans ?_
  show Ext _ (joD b j _)
  unfold joD
  split
  .split
   .split
    .exact jj3 _ b j
    .exact Ext.refl _
   .exact Ext.refl _
  .exact Ext.refl _
theorem jrO (σ:St) (t:Nat) (x:Operand):Ext σ (jiX σ t x):=by
 unfold jiX
 split
 .exact(jg5 _ σ _ _).trans (jj5 _ _ _)
 .exact Ext.refl σ
theorem ze:∀(l:List Oper) (σ:St),Ext σ (kF l σ)
 |[],σ=>Ext.refl σ
 |o::r,σ=>by
  simp only[kF]
  split
  .exact((jut _ σ).trans (jdJ _ _)).trans (ze r _)
  .exact((jrQ σ _).trans (jrP _ _)).trans (ze r _)
  .exact(jrO σ _ _).trans (ze r _)
  .exact ze r σ
theorem wE {C:Ctx} {ops:List Oper}:∀(l:List Oper) (rs a:RS) (es:List Eff),qV C ops l rs=some (es,a)->Ext rs.st a.st
 |[],rs,a,es,h=>by simp[qV] at h;obtain⟨_,rfl⟩:=h;exact Ext.refl _
 |o::r,rs,a,es,h=>by
  simp only[qV] at h
  split at h
  .cases h
  rename_i e f
  split at h
  .cases h
  split at h
  .cases h
  rename_i b d c
  simp at h
  obtain⟨_,rfl⟩:=h
  exact Ext.trans ⟨⟨_,rfl⟩,⟨_,rfl⟩⟩ (wE r _ _ _ c)
theorem juu {C:Ctx} {ops:List Oper} {a:Bool} {σ:St} {es:List Eff} {rs:RS} (h:yQ C ops a σ=some (es,rs)):Ext σ rs.st:=by
 cases a with
 |false=>exact wE _ _ _ _ h
 |true=>
  simp only[yQ] at h
  split at h
  case h_2=>cases h
  rename_i aZ d ps b e
  split at h
  case h_2=>cases h
  simp at h;obtain⟨_,rfl⟩:=h;obtain⟨_,c,_⟩:=vz _ _ _ _ b;subst c;exact⟨⟨_,rfl⟩,⟨_,rfl⟩⟩
theorem jgh {α:Type} (x:α):∀(ws:List Nat) (s:Nat),jt (ws.map fun k=>(k,x)) s=none\/jt (ws.map fun k=>(k,x)) s=some x
 |[],s=> .inl rfl
 |k::r,s=>by
  simp only[jEV,jt]
  cases Nat.beq k s with
  |true=>exact .inr rfl
  |false=>exact jgh x r s
theorem y8 {α:Type}:∀(p q:List (Nat×α)) (k:Nat),k∈zK p->k∈jbB (p++q) q.length
 |[],q,k,h=>by simp[zK] at h
 | (j,x)::p,q,k,h=>by
  simp only[jEi,jbB]
  have:Nat.ble ((p++q).length+1) q.length=false:=by
   cases a:Nat.ble ((p++q).length+1) q.length with
   |false=>rfl
   |true=>have:=jD5 a;simp at this;omega
  rw[this];simp only[zK,jDT] at h;rcases h with rfl|h
  .exact(zF _ _ _).2 (.inl (by simp))
  .exact(zF _ _ _).2 (.inr (y8 p q k h))
section
variable {P:Program} {B:zu} {C:Ctx}
theorem jsX (L:jdZ) (ws:List Nat) (σ:St) (x:L.X) (s:Nat) (h:s∉zK (L.sl x)):(zl L ws σ x).get s= .any\/(zl L ws σ x).get s=σ.get s:=by
 unfold St.get zl;simp only;rw[je,jm _ _ h];simp only;rw[je];rcases jgh SV.any ws s with e|e
 .rw[e];exact .inr rfl
 .rw[e];exact .inl rfl
theorem je1 (L:jdZ) (ws:List Nat) (σ:St) (x:L.X) (s:Nat) (h:s∉zK (L.sl x)):jt (zl L ws σ x).sl s=jt (ws.map (fun s=>(s,SV.any))++σ.sl) s:=by
 unfold zl;simp only;rw[je,jm _ _ h]
theorem ga (L:jdZ) (ws:List Nat) (σ:St) (x:L.X) (s:Nat) (h:s∉zK (L.ob x)):jt (zl L ws σ x).ob s=jt (ws.map (fun s=>(s,(none:Option Ob)))++σ.ob) s:=by
 unfold zl;simp only;rw[je,jm _ _ h]
theorem jsW (L:jdZ) (ws:List Nat) (σ:St) (x:L.X) (o:Nat) (h:o∉zK (L.ob x)):(zl L ws σ x).obj o=none\/(zl L ws σ x).obj o=σ.obj o:=by
 simp only[St.obj];rw[ga L ws σ x o h,je];rcases jgh (none:Option Ob) ws o with e|e
 .rw[e];exact .inr rfl
 .rw[e];exact .inl rfl
theorem jt5 (hC:C.ok P) {ops:Array Oper} {d:Nat} {it:Operand} {r:List Oper} {σ:St} {K:Ex->St->Prop} {Q:Exit->Act->World->Prop} {a:Act} {w:World}
 (A:jws ops.toList=some (d,it,r)) (h:jwr C ops.toList r d it σ K) (hR:Rel P B C.n σ a w)
 (hQ:∀σ' a' w',Ext σ σ'->K .normal σ'->Rel P B C.n σ' a' w'->Q .normal a' w'):jtQ P ops false Q a w:=by
 unfold jws at A
 split at A
 .cases A
 rename_i o rr hl
 split at A
 case h_2=>cases A
 rename_i it' d' e1 e2 e3;simp at A;obtain⟨rfl,rfl,rfl⟩:=A;unfold jwr at h
 split at h
 case h_2=>exact h.elim
 rename_i ob hfr hit;have hfr:d'<C.n:=jD5 hfr
 split at h
 case h_2=>exact h.elim
 rename_i kt vt left cur ho;obtain⟨hover,hnext⟩:=h;obtain⟨hd,hn,ρ,hS,hSl,W⟩:=hR;show wpList P ops Q ops.toList a w;rw[hl];have hw:Region.wanted o (yielded ops a.tmps)=true:=(by simp[Region.wanted,e3]);unfold wpList;rw[if_pos hw];refine .inl ?_;have I:=jC (P:=P) (ρ:=ρ) hSl it';rw[hit] at I;obtain⟨p,hp,hs⟩:=hS.obs ob _ ho;simp only[jX] at hs;obtain⟨b,Cp,y,rfl,k1,k2,k3⟩:=hs;simp only[SV.den] at I;obtain⟨b',C',f1,f2⟩:=I _ hp;simp at f1;obtain⟨rfl,rfl⟩:=f1;have E:(∀c T fr,y≠.cells c T fr)->(getObj b).run P w= .ok y w:=fun hne=>by
  cases y with
  |cells c T fr=>exact absurd rfl (hne c T fr)
  |_=>simp[getObj,Sem.run,k1]
 have hblt:b<w.heap.size:=(jD2.1 k1).1;have rest:∀(V:St) (a2:Act) (w2:World),Ext σ V->jbk C ops.toList rr σ.ob.length V K->Rel P B C.n V a2 w2->wpList P ops Q rr a2 w2:=by
  intro V a2 w2 hE hv hR2;unfold jbk at hv
  split at hv
  .exact hv.elim
  rename_i ss rs hr;obtain⟨g1,g2,G,g3,g4,g5⟩:=hR2;refine kP hC _ _ _ _ _ _ hr hv ⟨g1,g2,G,g3,g4,(fun s g v hm=>by simp at hm),g5⟩ (fun hk' a' w' hI'=> ?_);obtain⟨i1,i2,ρ3,i3,i4,_,i5⟩:=hI';have e1:=wE _ _ _ _ hr;exact hQ _ a' w' (hE.trans (e1.trans ((jcO _ _).trans (ze _ _)))) hk' (za _ (jcI ⟨i1,i2,ρ3,i3,i4,i5⟩))
 have q:∀(G:Env) (sv:SV) (v:Value),ρ.le G []->SV.den P G sv v->jfE P G ((d',sv)::σ.sl) (a.put o.dst v):=by
  intro G sv v hle hv s x M;rw[e2];simp only[Act.put];by_cases hs:s=d'
  .subst hs;rw[jy] at M;simp at M;subst M;simp only[jDZ,jD8];simp only[if_true];rw[if_pos (by rw[hn];exact hfr)];exact hv
  .rw[jq (fun h=>hs h.symm)] at M;simp only[jDZ,jD8];rw[if_neg (fun h=>hs h.symm)];have:=SV.den_mono hle _ _ (fun r hr=>by simp at hr) (hSl s x M);simpa only[jDZ] using this
 have t:∀v,(a.put o.dst v).tmps.size=C.n/\(a.put o.dst v).defers=[]:=by
  intro v;rw[e2];simp only[Act.put];exact⟨by simpa using hn,hd⟩
 have over:∀w2:World,Sat P B ρ σ.obj w2->left=[]->(execOp a.eval o).run P w= .ok (.value (.tuple #[.bool false])) w2->o.wp P a w (wpList P ops Q rr) Q:=by
  intro w2 O hl0 L;unfold Oper.wp;rw[L];simp only[Oper.upon];refine rest ⟨(d',.tup [.dat .bool false])::σ.sl,σ.ob⟩ _ _ ⟨⟨[_],rfl⟩,⟨[],rfl⟩⟩ (hover hl0) ⟨(t _).2,(t _).1,ρ,O,q ρ _ _ (Env.le.refl _ _) ?_,W⟩;simp only[SV.den,SV.denL];exact⟨_,rfl,_,_,rfl,wi _,rfl⟩
 unfold jcT at k2
 split at k2
 .refine over w hS k2.1 ?_;simp[execOp,e1,Instr.next,f2,E (by intros;simp)]
 .rename_i m f k l;obtain⟨es,clock,h1,h2,h3,h4,h5,⟨fs,h6,h7,h8⟩,_⟩:=k2;have hm:w.heap[m]? =some (.map es clock):=hS.good.1 m _ h1;have hg2:(getObj m).run P w= .ok (.map es clock) w:=(by simp[getObj,Sem.run,hm]);have Y:(!k.isEmpty&& !es.isEmpty&&es.all (fun x=>decide (x.born>=l)))=false:=by
   rcases h5 with rfl|rfl
   .simp
   .cases hes:es.isEmpty with
    |true=>simp
    |false=>
     have:∃e,es[0]? =some e:=by
      have:0<es.size:=by
       cases h0:es.size with
       |zero=>simp[Array.isEmpty,h0] at hes
       |succ n=>omega
      exact⟨es[0],jEf this⟩
     obtain⟨e0,he0⟩:=this;have X:=h3 0 e0 he0;have:es.all (fun x=>decide (x.born>=l))=false:=by
      rw[Array.all_eq_false];obtain⟨F,M⟩:=jD2.1 he0;exact⟨0,F,by rw[M];simp;omega⟩
     simp[this]
  have z:(es.filter fun e=> !k.contains e.born)=fs.toArray:=by
   rw[h6,<-jEc];simp
  have H:∀e,e∈fs->e.born<f:=by
   intro e D;rw[h6,jEa] at D;obtain⟨i,hi⟩:=jE4 D.1;have:=h3 i e (by simpa using hi);omega
  have hold:(fs.toArray.filter fun x=>decide (x.born<f))=fs.toArray:=by
   rw[<-jEc];simp only[Array.toList_filter];rw[List.filter_eq_self.2];intro e D;simpa using H e D
  have hnew:(fs.toArray.filter fun x=>decide (x.born>=f))= #[]:=by
   rw[<-jEc];simp only[Array.toList_filter];rw[List.filter_eq_nil_iff.2];intro e D;have:=H e (by simpa using D);simp;omega
  cases R:fs with
  |nil=>
   have hl0:left=[]:=(by rw[R] at h7;exact List.length_eq_zero_iff.1 h7.symm);rw[R] at z;refine over w hS hl0 ?_;have hN:(Instr.next (a.eval it') false o.type).run P w= .ok (.tuple #[.bool false]) w:=by
    rw[f2];unfold Instr.next;simp only[Sem.run_bind,E (by intros;simp),Result.andThen_ok,hg2,Y,Bool.false_eq_true,if_false,z];simp[Question.forced]
   simp[execOp,e1,hN]
  |cons f0 fr=>
   have hne:fs≠[]:=(by rw[R];simp);have hrun0:∃(c:Nat) (u:World),c<fs.length/\(choose (.mapNext fs.length)).run P w= .ok c u/\(u=w\/u={w with drawn:=w.drawn+1}):=by
    have hpos:0<fs.length:=List.length_pos_iff.2 hne;rw[run_choose]
    split
    .exact⟨0,w,hpos,rfl,.inl rfl⟩
    .refine⟨_,_,?_,rfl,.inr rfl⟩;simp only[Question.cut];exact Nat.mod_lt _ hpos
   obtain⟨c,u,hc,L,hw1⟩:=hrun0;obtain⟨e,D⟩:∃e,fs[c]? =some e:=⟨fs[c],jDX hc⟩;obtain⟨x,M⟩:∃x,left[c]? =some x:=⟨left[c],jDX (by omega)⟩;obtain⟨e',q1,q2,q3⟩:=h8 c x M;rw[D] at q1;simp at q1;subst q1;have hS1:Sat P B ρ σ.obj u:=(by rcases hw1 with rfl|rfl;exact hS;exact jbg hS);have k1':u.heap[b]? =some (.mapIter (some m) f k l):=by rcases hw1 with rfl|rfl<;>exact k1
   have hset:∀y:Obj,(setObj b y).run P u= .ok () {u with heap:=u.heap.setIfInBounds b y}:=fun y=>by simp[setObj,Sem.run,k1']
   have hexec:(execOp a.eval o).run P w= .ok (.value (.tuple #[.bool true,e.key,e.val])) {u with heap:=u.heap.setIfInBounds b (.mapIter (some m) f (k.push e.born) clock)}:=by
    have hemp:fs.toArray.isEmpty=false:=(by rw[R];rfl);have hN:(Instr.next (a.eval it') false o.type).run P w= .ok (.tuple #[.bool true,e.key,e.val]) {u with heap:=u.heap.setIfInBounds b (.mapIter (some m) f (k.push e.born) clock)}:=by
     rw[f2];unfold Instr.next;have hcand:((if fs.toArray.isEmpty=true then #[none] else #[])++Array.map some (fs.toArray++(#[]:Array MapEntry)))=fs.toArray.map some:=by
      rw[hemp];simp
     simp only[Sem.run_bind,E (by intros;simp),Result.andThen_ok,hg2,Y,Bool.false_eq_true,if_false,z,hold,hnew];rw[hcand];have hsz:(fs.toArray.map some).size=fs.length:=(by simp);rw[hsz,L];simp[D,hset]
    simp[execOp,e1,hN]
   have S:left=left.take c++x::left.drop (c+1):=by
    have F:c<left.length:=(by omega);have:left[c]=x:=by
     rw[jDX F] at M;simpa using M
    rw[<-this,<-List.drop_eq_getElem_cons F,jFc]
   unfold Oper.wp;rw[hexec];simp only[Oper.upon];have O:=jbe (w':={u with heap:=u.heap.setIfInBounds b (.mapIter (some m) f (k.push e.born) clock)}) hS1 hp k3 (.iter kt vt (left.take c++left.drop (c+1)) (some x))
    ⟨rfl,rfl,rfl,jDW _,by simp,fun j hj=>(by show(u.heap.setIfInBounds b _)[j]? =_;rw[jD8,if_neg (fun h=>hj h.symm)])⟩ (by
    simp only[jX];refine⟨b,Cp,.mapIter (some m) f (k.push e.born) clock,rfl,(by have:b<u.heap.size:=(jD2.1 k1').1;simp[this]),?_,k3⟩;have hmem:e∈fs:=jEM D;have J:e∈es.toList:=(by rw[h6,jEa] at hmem;exact hmem.1);have inj:∀g,g∈fs->g.born=e.born->g=e:=by
     intro g E X;rw[h6,jEa] at E;obtain⟨i,hi⟩:=jE4 E.1;obtain⟨j,hj⟩:=jE4 J;have:=h4 i j g e (by simpa using hi) (by simpa using hj) X;subst this;rw[hi] at hj;simpa using hj
    have N:∀(i j:Nat) (g:MapEntry),fs[i]? =some g->fs[j]? =some g->i=j:=by
     have hpw:es.toList.Pairwise (fun g g'=>g.born≠g'.born):=by
      rw[jEO];intro i j hi hj hij hh;have:=h4 i j es.toList[i] es.toList[j] (by simp) (by simp) hh;omega
     have hpf:fs.Pairwise (fun g g'=>g.born≠g'.born):=(by rw[h6];exact hpw.sublist List.filter_sublist);rw[jEO] at hpf;intro i j g hi hj;obtain⟨hi1,hi2⟩:=jDU.1 hi;obtain⟨hj1,hj2⟩:=jDU.1 hj;rcases Nat.lt_trichotomy i j with h|h|h
     .exact absurd (by rw[hi2,hj2]) (hpf i j hi1 hj1 h)
     .exact h
     .exact absurd (by rw[hi2,hj2]) (hpf j i hj1 hi1 h)
    have Z:es.toList.filter (fun g=> !(k.push e.born).contains g.born)=fs.take c++fs.drop (c+1):=by
     have:es.toList.filter (fun g=> !(k.push e.born).contains g.born)=fs.filter (fun g=> !(g.born==e.born)):=by
      rw[h6,List.filter_filter];congr 1;funext g;by_cases X:g.born=e.born<;>simp[X]
     rw[this];have hsp:fs=fs.take c++e::fs.drop (c+1):=by
      have:fs[c]=e:=(by rw[jDX hc] at D;simpa using D);rw[<-this,<-List.drop_eq_getElem_cons hc,jFc]
     have hpre:∀g,g∈fs.take c->¬(g.born==e.born)=true:=by
      intro g E X;obtain⟨i,hi⟩:=jE4 E;have hil:i<c:=(by have:=(jDU.1 hi).1;simp at this;omega);rw[jEe hil] at hi;have:=inj g (jEM hi) (by simpa using X);subst this;have:=N i c g hi D;omega
     have hpost:∀g,g∈fs.drop (c+1)->¬(g.born==e.born)=true:=by
      intro g E X;obtain⟨i,hi⟩:=jE4 E;rw[jEu] at hi;have:=inj g (jEM hi) (by simpa using X);subst this;have:=N (c+1+i) c g hi D;omega
     conv=>lhs;rw[hsp]
     rw[List.filter_append,List.filter_cons];simp only[beq_self_eq_true,Bool.not_true,Bool.false_eq_true,if_false];rw[List.filter_eq_self.2 (fun g E=>by simpa using hpre g E),List.filter_eq_self.2 (fun g E=>by simpa using hpost g E)]
    refine⟨es,clock,h1,h2,h3,h4,.inr rfl,⟨_,rfl,?_,fun i y hy=> ?_⟩,rfl,e,J,by simp,q2,q3⟩
    .rw[Z];simp;omega
    .rw[Z];by_cases hi:i<c
     .have F:i<(left.take c).length:=(by simp;omega);rw[jD4 F,jEe hi] at hy;rw[jD4 (by simp;omega),jEe hi];exact h8 i y hy
     .rw[jD3 (by simp;omega),jEu] at hy;rw[jD3 (by simp;omega),jEu];simp only[jEp] at hy⊢;rw[show min c fs.length=c by omega];rw[show min c left.length=c by omega] at hy;exact h8 _ y hy)
   refine rest ⟨(d',.tup [.dat .bool true,.dat kt x.1,.dat vt x.2])::σ.sl,(ob,some (.iter kt vt (left.take c++left.drop (c+1)) (some x)))::σ.ob⟩ _ _ ⟨⟨[_],rfl⟩,⟨[_],rfl⟩⟩ (hnext _ x _ S) ⟨(t _).2,(t _).1,ρ,by rw[<-kG] at O;exact O,q ρ _ _ (Env.le.refl _ _) ?_,W⟩;simp only[SV.den,SV.denL];exact⟨_,rfl,_,_,rfl,wi _,_,_,rfl,q2,_,_,rfl,q3,rfl⟩
 .exact k2.elim
theorem jjD {a:List Nat}:∀(l:List Edge),(∀e,e∈l->Region.binds .any e=true->vH a e.on=true)->jlJ a l=true
 |[],_=>rfl
 |e::r,h=>by
  have c:=jjD r (fun e d b=>h e (by simp[d]) b)
  simp only[jlJ]
  split
  .exact c
  .rename_i b
   rw[h e (by simp) b]
   exact c
theorem jpF {C:Ctx} {ops:List Oper} {a:List Nat} {rs:RS} {rec:List Nat->RS->Prop}:∀(l:List Oper) (n:Nat),jaj C ops a rs rec l n->∀j o,l[j]? =some o->vH a (n+j)=false->jlJ a o.after.toList=true->jvn C ops o rs (rec ((n+j)::a))
 |[],_,_,j,o,b,_,_=>by simp at b
 |x::l,n,h,j,o,b,hd,hn=>by
  simp only[jaj] at h
  cases j with
  |zero=>
   simp at b;subst b
   rw[jE3] at hd⊢
   rw[hd,hn] at h
   exact h.1
  |succ j=>
   have c:l[j]? =some o:=by simpa using b
   have d:jaj C ops a rs rec l (n+1):=by
    split at h
    .exact h
    .split at h
     .exact h
     .exact h.2
   rw[show n+(j+1)=(n+1)+j from by omega] at hd⊢;exact jpF l (n+1) d j o c hd hn
theorem jrR (hC:C.ok P) {ops:Array Oper} {o:Oper} {rs:RS} {a:Act} {w:World} {x:jsi} (h:jrS C ops.toList o rs=some x) (hI:Inv P B C.n ops rs a w) {K:Act->World->Prop} {Q:Exit->Act->World->Prop}
 (R:∀(s:Int) a' w',Inv P B C.n ops (jY (jcd x s) rs) a' w'->K a' w'):if Region.wanted o (yielded ops a.tmps) then o.wp P a w K Q else K (a.put o.dst undef) w:=by
 unfold jrS at h
 split at h
 case h_2=>cases h
 rename_i U m ix d I G i
 split at h
 case h_2=>cases h
 rename_i ti tk te ob N hm
 split at h
 case h_2=>cases h
 rename_i kt vt l H
 split at h
 case h_2=>cases h
 rename_i l' k hc hk F r;simp at h;subst h;obtain⟨e,rfl⟩:=jh hc;obtain⟨Z,e2⟩:kt=tk.ty/\vt=te.ty:=by injection e with a b;exact⟨a,b⟩
 subst Z;subst e2;have y:wP e l=l:=rfl;have hw:Region.wanted o (yielded ops a.tmps)=true:=(by simp[Region.wanted,G]);rw[if_pos hw];obtain⟨hd,hn,ρ,L,u,hG,D⟩:=hI;have z:=jC (P:=P) (a:=a) u m;rw[hm] at z;simp only[SV.den] at z;have M:=jF L (fz:=[]) (fun o=>⟨.inl rfl,fun H=>by simp at H⟩) hk (fun o H=>H) (jC (P:=P) (a:=a) u ix);obtain⟨p,T,V⟩:=L.obs ob _ H;simp only[jX,fzM] at V;obtain⟨b,Y,es,clock,rfl,W,k2,X⟩:=V;obtain⟨b',C',O,f2⟩:=z _ T;simp at O;obtain⟨rfl,rfl⟩:=O;have E:b<w.heap.size:=(jD2.1 W).1;obtain⟨v,s,t,f,r1,r2,r3,r4⟩:=jvK (P:=P) hC N W k2 M;have J:(execOp a.eval o).run P w= .ok (.value (.tuple #[v,.int .i64 s])) {w with heap:=w.heap.setIfInBounds b (.map t f)}:=by
  simp[execOp,I,f2,r1]
 unfold Oper.wp;rw[J];simp only[Oper.upon];rw[y] at R;refine R s _ _ (jdA (C:=C) (gv:= .any) (sv:= .tup [.dat te.ty (kx te.ty.dflt (zt tk.ty k l)),.dat .int s]) (ρ'':=ρ) hd hn u hG D ?_ (Env.le.refl _ _) ?_ (fun A c=> ?_) ?_ (fun A _=> ?_) (fun x hx=>by simp[jcd] at hx) (fun d g _ S=>by rw[G] at S;cases S))
 .have:=jbe L T X (.mape tk.ty te.ty l k s) (w':={w with heap:=w.heap.setIfInBounds b (.map t f)}) ⟨rfl,rfl,rfl,jDW _,by simp,fun j hj=>(by show(w.heap.setIfInBounds b _)[j]? =_;rw[jD8,if_neg (fun h=>hj h.symm)])⟩ (by
   simp only[jX];exact⟨b,Y,t,f,rfl,by simp[E],r2,X,r4⟩)
  rw[<-kG] at this;exact this
 .exact⟨fun A c=>by rw[i] at c;simp at c;subst c;exact jD5 F,fun A c=>(jaa r c).1,fun A c=>(jaa r c).2,fun A c=>by simp[jcd] at c,
   fun q=>by rcases q with q|q<;>simp[jcd,jbC,I] at q⟩
 .rw[i] at c;simp at c;subst c;exact jD5 F
 .simp[jcd,jot,i]
 .simp only[SV.den,SV.denL];exact⟨_,rfl,_,_,rfl,r3,_,_,rfl,wl _,rfl⟩
theorem ji7 (R:C.ok P) {ops:Array Oper} {σ0:St} {ps:List (List Nat)} (M:z8 ops.toList []=some ps) {K:RS->Prop} {Q:Exit->Act->World->Prop}
 (V:∀rs a w,Ext σ0 rs.st->K rs->Inv P B C.n ops rs a w->Q .normal a w):
 ∀(f:Nat) (d:List Nat) (b:Array Bool) (rs:RS) (a:Act) (w:World),b.size=ops.size->cnt ops.size b=f->(∀k,k∈d↔b.getD k false=true)->Ext σ0 rs.st->
  jmO C ops.toList K f d rs->Inv P B C.n ops rs a w->wpAny P .any ops Q f b a w:=by
 intro f
 induction f with
 |zero=>
  intro d b rs a w v H l D h E;refine⟨?_,V rs a w D h E⟩;rw[List.eq_nil_iff_forall_not_mem];intro i hi;obtain⟨o,z,A,_⟩:=(qC v).1 hi;have u:=(jDU.1 z).1;have:=jE9.1 H i (by simpa using u);simp[A] at this
 |succ f S=>
  intro d b rs a w v H l D h E;refine⟨fun X=> ?_,fun i hi=> ?_⟩
  .exfalso;have:cnt ops.size b=0:=by
    refine jE9.2 (fun k hk=> ?_);have:=gB M v X (k+1) k (by omega) (by simpa using hk);simp[this]
   omega
  obtain⟨o,z,A,T⟩:=(qC v).1 hi;have u:i<ops.size:=(by have:=(jDU.1 z).1;simpa using this);have J:vH d i=false:=by
   cases G:vH d i with
   |false=>rfl
   |true=>have:=(l i).1 ((zQ _ _).1 G);rw[A] at this;cases this
  have c:=jpF ops.toList 0 h i o z (by rw[jER];exact J) (jjD _ (fun e I G=>(zQ _ _).2 ((l e.on).2 (T e I G))));rw[jER] at c;have g:∀k,(b.setIfInBounds i true).getD k false=if k=i then true else b.getD k false:=jcb (by omega);have m:cnt ops.size (b.setIfInBounds i true)=f:=by
   have:=jgD (p:=fun k=> !(b.getD k false)) (q:=fun k=> !((b.setIfInBounds i true).getD k false)) (i:=i) (by simp[A]) (by simp[g]) (fun y Z=>by simp only[g,if_neg Z]) ops.size;rw[if_pos u] at this;unfold cnt at H⊢;omega
  have r:∀k,k∈i::d↔(b.setIfInBounds i true).getD k false=true:=by
   intro k;rw[g,jDT];by_cases e:k=i
   .simp[e]
   .rw[if_neg e,<-l k];simp[e]
  unfold wpOp;have L:ops[i]? =some o:=(by simpa using z);rw[L];simp only;have j:(if Region.wanted o (yielded ops a.tmps) then o.wp P a w (wpAny P .any ops Q f (b.setIfInBounds i true)) Q else wpAny P .any ops Q f (b.setIfInBounds i true) (a.put o.dst undef) w):=by
   unfold jvn at c
   split at c
   .split at c
    .rename_i x Y;exact jrR R Y E (fun s F w' t=>S (i::d) _ _ F w' (by simpa using v) m r (D.trans ⟨⟨_,rfl⟩,⟨_,rfl⟩⟩) (c s) t)
    .exact c.elim
   .split at c
    .exact c.elim
    rename_i e I
    split at c
    .exact c.elim
    rename_i W;obtain⟨N,hk⟩:=vo [e] c;exact qc R I (qk W) (Fit.refl P B rs e) E (N e (by simp)) (fun F w' t _=>S (i::d) _ _ F w' (by simpa using v) m r (D.trans ⟨⟨_,rfl⟩,⟨_,rfl⟩⟩) hk t)
  split
  .rename_i O;rw[if_pos O] at j;exact .inl j
  .rename_i O;rw[if_neg O] at j;exact j
theorem jwH (W:C.ok P) {ops:Array Oper} {σ:St} {K:Ex->St->Prop} {Q:Exit->Act->World->Prop} {a:Act} {w:World}
 (h:jA3 C ops.toList σ K) (hR:Rel P B C.n σ a w) (hQ:∀r t w',Ext σ r->K .normal r->Rel P B C.n r t w'->Q .normal t w'):jtQ P ops true Q a w:=by
 unfold jA3 at h
 split at h
 case h_2=>exact h.elim
 rename_i d U body m ps M E
 split at h
 case h_2=>exact h.elim
 rename_i ti tk te aZ rsF I N F
 split at h
 case h_2=>exact h.elim
 rename_i es D z c A;obtain⟨R,S,T⟩:=vz _ _ _ _ F;obtain⟨O,J,hk⟩:=vo _ h;obtain⟨j1,j2⟩:=jj6 _ _ _ _ z;obtain⟨o,b',f,s1,s2,s3,s4,s5,s6⟩:=jm7 M;have j:ops.size=body.length+m:=by
  have:ops.toList.length=body.length+m:=(by rw[s1,<-s6,jEd]);simpa using this
 subst S;have L:ju0 P C ops aZ ⟨σ,[]⟩ ps body m d U tk te es:=by
  refine⟨W,⟨ti,I⟩,fun k o' hk=> ?_,j,⟨o,by rw[s2];rfl,s3,s4,s5⟩,E,fun k p hk hp=>jiC ps 0 body.length N k p hp (by omega),T,R,D,j2,j1,fun k o' x hk ho hx hi=> ?_,J,A,fun y hy=>O y.e (List.mem_map_of_mem hy)⟩
  .rw[s1,jD4 (jDU.1 hk).1];exact hk
  .obtain⟨k,rfl⟩:∃q,k=q+1:=⟨k-1,by omega⟩;exact jl5 _ _ c k o' x (by rw[List.getElem?_tail];exact ho) (by rw[List.getElem?_tail];exact hx) hi
 show wpAny P .any ops Q ops.size (Array.replicate ops.size false) a {w with drawn:=w.drawn+1};obtain⟨X,Y,ρ,Z,h4,h5⟩:=hR;have b:∀k,(Array.replicate ops.size false).getD k false=false:=fun k=>by
  simp only[jDZ,jEX]
  split<;>simp
 have G:Ext σ (bld (fun _=>true) aZ ⟨σ,[]⟩).st:=⟨⟨_,rfl⟩,⟨_,rfl⟩⟩;refine L.go (fun l t w' i hl hs u H=> ?_) ops.size _ a _ (by simp) ?_ (fun k hk=>by rw[b] at hk;cases hk) (fun k o' _ hk=>by simp only[b] at hk;cases hk) ⟨B,none,jld.refl B,⟨X,Y,ρ,?_,?_,fun s g v u=> ?_,h5⟩,b 0⟩
 .refine ji7 W (σ0:=σ) E (fun rs t w' G hk H=> ?_) m (jAs body.length) i _ t w' hs ?_ u (G.trans ⟨⟨[_],rfl⟩,⟨[_],rfl⟩⟩) (hk l hl) H
  .obtain⟨R,S,V,T,i4,_,i5⟩:=H;exact hQ _ t w' (G.trans ((jcO _ _).trans (ze _ _))) hk (za _ (jcI ⟨R,S,V,T,i4,i5⟩))
  .rw[j];exact jke (fun k hk=>(u k).1 ((jhZ _ _).2 hk)) (fun k hk=>(jhZ _ _).1 ((u k).2 hk))
 .unfold cnt;rw[List.countP_eq_length.2 (fun k hk=>by simp[b])];simp
 .rw[jam aZ ⟨σ,[]⟩ b];exact jbg Z
 .rw[jam aZ ⟨σ,[]⟩ b];exact h4
 .rw[jam aZ ⟨σ,[]⟩ b] at u;simp[lvO] at u
theorem jrb (i:C.ok P) {ops:Array Oper} {b:Bool} {σ:St} {K:Ex->St->Prop} {Q:Exit->Act->World->Prop} {a:Act} {w:World}
 (h:jAP C ops.toList b σ K) (l:Rel P B C.n σ a w) (j:∀c d w',Ext σ c->K .normal c->Rel P B C.n c d w'->Q .normal d w'):jtQ P ops b Q a w:=by
 unfold jAP at h
 split at h
 case h_3=>exact h.elim
 case h_2=>exact jwH i h l j
 rename_i ps _ e;show wpAny P .any ops Q ops.size (Array.replicate ops.size false) a {w with drawn:=w.drawn+1};obtain⟨m,o,ρ,p,q,r⟩:=l;refine ji7 i (σ0:=σ) e (fun rs d w' t hk u=> ?_) ops.size [] _ ⟨σ,[]⟩ a _ (by simp) ?_ (fun k=> ?_) (Ext.refl σ) (by simpa using h) ⟨m,o,ρ,jbg p,q,(fun s g v x=>by simp at x),r⟩
 .obtain⟨y,z,f,A,D,_,E⟩:=u;exact j _ d w' (t.trans ((jcO _ _).trans (ze _ _))) hk (za _ (jcI ⟨y,z,f,A,D,E⟩))
 .unfold cnt;rw[List.countP_eq_length.2 (fun k hk=> ?_)]
  .simp
  .simp only[jDZ,jEX]
   split<;>simp
 .simp only[jDZ,jEX]
  split<;>simp
theorem yr (f:C.ok P) {ops:Array Oper} {b:Bool} {σ:St} {K:Ex->St->Prop} {Q:Exit->Act->World->Prop} {a:Act} {w:World}
 (h:jeC C ops.toList b σ K) (i:Rel P B C.n σ a w) (g:∀c d w',Ext σ c->K .normal c->Rel P B C.n c d w'->Q .normal d w'):jtQ P ops b Q a w:=by
 unfold jeC at h
 split at h
 .exact jrb f h i g
 rename_i es rs j;refine joE f j h i (fun hk d w' e=> ?_);have k:=juu j;exact g _ d w' (k.trans ((jcO _ _).trans (ze _ _))) hk (za _ (jcI e))
theorem jf4 (m:C.ok P) {ops:Array Oper} {Q:Exit->Act->World->Prop} {k:Prop} (r:List Oper):∀(l:List Oper) (rs b:RS) (es:List Eff) (a:Act) (w:World),qV C ops.toList l rs=some (es,b)->zo false es k->Inv P B C.n ops rs a w->
 (k->∀d w',Inv P B C.n ops b d w'->wpList P ops Q r d w')->wpList P ops Q (l++r) a w
 |[],rs,b,es,a,w,h,hk,f,i=>by
  simp[qV] at h
  obtain⟨rfl,rfl⟩:=h
  exact i hk a w f
 |o::l,rs,b,es,a,w,h,hk,f,i=>by
  simp only[qV] at h
  split at h
  .cases h
  rename_i e t
  split at h
  .cases h
  rename_i u
  split at h
  .cases h
  rename_i p x v
  simp at h
  obtain⟨rfl,rfl⟩:=h
  obtain⟨q,s⟩:=jc5 hk
  have:=qc (K:=wpList P ops Q (l++r)) (Q:=Q) m t (qk u) (Fit.refl P B rs e) f q (fun d w' g c=>jf4 m r l _ _ _ d w' v (s c) g i)
  rw[jEi]
  unfold wpList
  split
  .rename_i j;rw[if_pos j] at this;exact .inl this
  .rename_i j;rw[if_neg j] at this;exact this
theorem jlB:∀(l:List Oper) {i:List Oper} {U t d:Nat},jpa l=some (i,U,t,d)->∃o v a,l=i++[o]/\o.op= .binOp .eql U (.tmp t) (.const v) a/\o.dst=some d/\o.guard=none/\j0 v=true
 |[],_,_,_,_,h=>by simp[jpa] at h
 |[o],i,U,t,d,h=>by
  simp only[jpa] at h
  split at h
  .rename_i b c f
   split at h
   .rename_i j
    simp at h
    obtain⟨rfl,rfl,rfl,rfl⟩:=h
    exact⟨o,_,_,rfl,b,c,f,j⟩
   .cases h
  .cases h
 |o::o'::r,i,U,t,d,h=>by
  simp only[jpa] at h
  split at h
  .rename_i n k p m g
   simp at h
   obtain⟨rfl,rfl,rfl,rfl⟩:=h
   obtain⟨o1,v,a,e,q⟩:=jlB (o'::r) (by simpa only[jpa] using g)
   exact⟨o1,v,a,by rw[e];rfl,q⟩
  .cases h
theorem jwo (H:C.ok P) {ops:Array Oper} {i:List Oper} {U t d:Nat} {σ:St} {K:Ex->St->Prop} {Q:Exit->Act->World->Prop} {a:Act} {w:World}
 (M:jpa ops.toList=some (i,U,t,d)) (h:jAX C ops.toList i U t d σ K) (X:Rel P B C.n σ a w)
 (W:∀j T w',Ext σ j->K .normal j->Rel P B C.n j T w'->Q .normal T w'):jtQ P ops false Q a w:=by
 unfold jAX at h
 split at h
 .exact h.elim
 rename_i ss rs Y
 split at h
 case h_2=>exact yr H h X W
 rename_i u l k
 split at h
 case h_2=>exact h.elim
 rename_i tt R f;obtain⟨ti,te⟩:=tt;have f:d<C.n:=jD5 f;obtain⟨o,v,ft,Z,e1,D,e3,hv⟩:=jlB _ M;obtain⟨_,_,_,_,q,_⟩:=zg H R;show wpList P ops Q ops.toList a w;rw[Z];have hI:Inv P B C.n ops ⟨σ,[]⟩ a w:=by
  obtain⟨E,y,ρ,F,z,G⟩:=X;exact⟨E,y,ρ,F,z,(fun s g v hm=>by simp at hm),G⟩
 refine jf4 H [o] i _ _ _ a w Y h hI (fun hk A S J=> ?_);obtain⟨E,y,ρ,F,z,_,G⟩:=J;have hw:Region.wanted o (yielded ops A.tmps)=true:=(by simp[Region.wanted,e3]);unfold wpList;rw[if_pos hw];refine .inl ?_;have e:=jC (P:=P) (ρ:=ρ) z (.tmp t);simp only[jE] at e;rw[k] at e;have N:=jW (t:= .slice u) rfl (by simpa[SV.den] using e);obtain⟨ad,n,c,V,g2,g3,g4,g6,g5⟩:=N;simp at V;have m:ad.isNone=true->l=[]:=by
  intro hn;refine Classical.byContradiction fun L=> ?_
  obtain⟨b,off,blk,rfl,_⟩:=g5 L;cases hn
 have p:(execOp A.eval o).run P S= .ok (.value (.bool ad.isNone)) S:=by
  have he:=jex (w:=S) (ad:=ad) (n:=n) (c:=c) q;have ev:A.eval (.const v)= .slice none 0 0:=kJ hv;simp only[execOp,e1];rw[V,ev];simp[eqGuard,binOp,he]
 unfold Oper.wp;rw[p];simp only[Oper.upon];have hE:Ext σ rs.st:=wE _ _ _ _ Y;have I:Ext rs.st (⟨(d,.dat .bool ad.isNone)::rs.st.sl,rs.st.ob⟩:St):=⟨⟨[_],rfl⟩,⟨[],rfl⟩⟩;refine W _ _ _ ((hE.trans I).trans ((jcO _ _).trans (ze _ _))) (hk ad.isNone m) (za _ (jcI ⟨?_,?_,ρ,F,?_,G⟩))
 .rw[D];simp only[Act.put];exact E
 .rw[D];simp only[Act.put];simpa using y
 .intro s x r;rw[D];simp only[Act.put];by_cases O:s=d
  .subst O;rw[jy] at r;simp at r;subst r;simp only[jDZ,jD8];simp only[if_true];rw[if_pos (by rw[y];exact f)];exact wi _
  .rw[jq (fun h=>O h.symm)] at r;simp only[jDZ,jD8];rw[if_neg (fun h=>O h.symm)];have:=z s x r;simpa only[jDZ] using this
theorem jiB:∀(l:List Oper) {i a:List Oper} {o:Oper},jgK l=some (i,o,a)->l=i++o::a/\o.guard=none/\∃c,o.op= .call c/\c.callee= .builtin .append
 |[],_,_,_,h=>by simp[jgK] at h
 |x::r,i,a,o,h=>by
  have go:(match jgK r with|some (i,y,q)=>some (x::i,y,q)|none=>none)=some (i,o,a)->x::r=i++o::a/\o.guard=none/\∃c,o.op= .call c/\c.callee= .builtin .append:=by
   intro h
   split at h
   .rename_i g y q f;simp at h;obtain⟨rfl,rfl,rfl⟩:=h;obtain⟨b,d,e⟩:=jiB r f;exact⟨by rw[b];rfl,d,e⟩
   .cases h
  simp only[jgK] at h
  split at h
  .rename_i c b d
   split at h
   .rename_i e;simp at h;obtain⟨rfl,rfl,rfl⟩:=h;exact⟨rfl,d,c,b,e⟩
   .exact go h
  .exact go h
theorem jtB (hC:C.ok P) {ops:Array Oper} {i W:List Oper} {o:Oper} {σ:St} {K:Ex->St->Prop} {Q:Exit->Act->World->Prop} {a:Act} {w:World}
 (hop:jgK ops.toList=some (i,o,W)) (h:jvh C ops.toList i o W σ K) (hR:Rel P B C.n σ a w)
 (hQ:∀σ' a' w',Ext σ σ'->K .normal σ'->Rel P B C.n σ' a' w'->Q .normal a' w'):jtQ P ops false Q a w:=by
 obtain⟨e0,e3,c0,e1,e2⟩:=jiB _ hop;unfold jvh at h
 split at h
 .exact h.elim
 rename_i ss rs hr
 split at h
 case h_2=>exact h.elim
 rename_i c d hgl hop' hdst;rw[e1] at hop';simp only[Op.call.injEq] at hop';subst hop'
 split at h
 case h_2=>exact h.elim
 rename_i b x U U' L htys;have L:c0.args= #[b,x]:=(by rw[<-jEc];exact L);have htys:c0.argTypes= #[U,U']:=by rw[<-jEc];exact htys
 split at h
 case h_2=>exact h.elim
 rename_i ti te hUU hsl hfr;have hUU:=jDQ hUU;subst hUU;have hfr:d<C.n:=jD5 hfr
 split at h
 case h_2=>exact h.elim
 rename_i q t lo n y ys hb hel
 split at h
 case h_2=>exact h.elim
 rename_i E t' nl l ho
 split at h
 case h_2=>exact h.elim
 rename_i l' hl' ht hE hfq;obtain⟨e,rfl⟩:=jh hl';have e':t'=te.ty:=(by injection e);subst e';have ht:=vi ht;subst ht;have hE:=jDQ hE;subst hE;have hcast:wP e l=l:=rfl;rw[hcast] at h;simp only[jDV] at hfq;obtain⟨hfq,hqlt⟩:=hfq;have hqlt:q<1000000:=jD5 hqlt;show wpList P ops Q ops.toList a w;rw[e0];have hI:Inv P B C.n ops ⟨σ,[]⟩ a w:=by
  obtain⟨h1,h2,ρ,h3,h4,h5⟩:=hR;exact⟨h1,h2,ρ,h3,h4,(fun s g v hm=>by simp at hm),h5⟩
 refine jf4 hC (o::W) i _ _ _ a w hr h hI (fun hk a1 D hI1=> ?_);obtain⟨h1,h2,ρ,hS,h4,_,h5⟩:=hI1;obtain⟨hlen,hn0,h62,O,Z⟩:=hk;obtain⟨f,hnews⟩:∃f,f=y::ys:=⟨_,rfl⟩;rw[<-hnews] at Z O hel h62;have hnpos:0<f.length:=(by rw[hnews];simp);have hw:Region.wanted o (yielded ops a1.tmps)=true:=(by simp[Region.wanted,e3]);unfold wpList;rw[if_pos hw];refine .inl ?_;have F:=jC (P:=P) (ρ:=ρ) h4 b;rw[hb] at F;have hsrc:=jfi hS hel (jC (P:=P) (ρ:=ρ) h4 x);obtain⟨p,hp,k1,k0,k2⟩:=hS.obs q _ ho;simp only[SV.den] at F;have F:=F p hp;obtain⟨_,hte,_,hokE,hund,hka,hks,hpos⟩:=zg hC hsl;obtain⟨iE,z,g0,g1,g2,g3,g4,g5⟩:=hokE.info;rw[hte] at g0;have hsz:iE.size=te.ty.size:=(by rw[g1,hks]);have hzs:z.cells.size=te.ty.size:=(by rw[<-jEk,g4,hokE.zlen,hks]);have hbp:0<te.bytes:=(hokE.pos (jde hsl)).2;have hsm:(n+f.length)*1<=(n+f.length)*te.bytes:=jE7 _ hbp;cases p with
 |none=>have:=F.2;omega
 |some bc=>
 obtain⟨X,Cp⟩:=bc;obtain⟨ad0,I,f1,f2,f3,f4,f5⟩:=F;have f5:=f5 (.inr (by omega));subst f5;obtain⟨k3,vs,hwb,hvs,hlC,hCm,hrd,hHb⟩:=k2;simp only[fzH] at hHb;obtain⟨hsl2,⟨_,hnil⟩|⟨ad,cs,us,f6,u1,u2,u3,u4⟩⟩:=hsrc
 .rw[hnil] at hnpos;simp at hnpos
 have noref:z6 rs.st.obj q:=by
  intro o' T fz cs' N;have:(o',some (.box T fz cs'))∈rs.st.ob:=by
   unfold St.obj at N
   split at N
   .rename_i y0 hy;subst N;exact zb _ _ _ hy
   .cases N
  exact qi _ _ _ _ _ _ hfq this
 have hE1:Ext σ rs.st:=wE _ _ _ _ hr;have fin:∀(w2:World) (g u:Nat) (pre:List te.ty.Data),(execOp a1.eval o).run P D= .ok (.value (.slice (some ⟨g,pre.length*te.ty.size,none⟩) (n+f.length) (u-pre.length))) w2->
  D.grownBy w2 (some X)->D.drawn<=w2.drawn->(g=X\/g=D.heap.size)->pre.length+n+f.length<=u->u<=maxLen->pre.length<=lo->
  (∃vs2,w2.heap[g]? =some (.cells vs2 ti.elem (0,0))/\vs2.size=u*te.ty.size/\∀(j:Nat) x,(pre++l.drop lo++f)[j]? =some x->te.ty.rd ρ.H (fun k=>vs2[j*te.ty.size+k]?) x)->
  o.wp P a1 D (wpList P ops Q W) Q:=by
  intro w2 g u pre hrun hgr hdr hgn hfit hcm hple ⟨vs2,m1,m2,m3⟩;have hsmall:pre.length+n+f.length<4611686018427387904:=(by omega);have hrl:(pre++l.drop lo++f).length=pre.length+n+f.length:=(by simp;omega);have hHg:ρ.H g=none:=by
   rcases hgn with rfl|rfl
   .exact hHb
   .cases hc:ρ.H D.heap.size with
    |none=>rfl
    |some c=>have:=hS.good.lt hc;omega
  obtain⟨ρ',q1,q2,q3,q4,q5⟩:=jyy hS hp hHb noref hgr hdr g u hgn (pre.length+n+f.length) (.row ti.elem te.ty false nl (pre++l.drop lo++f)) (fun ρ' hH hlen' _=>by
   refine⟨by rw[hlen',hrl],by rw[hrl];exact hsmall,fun _ hnil=> ?_,vs2,m1,m2,by rw[hrl];exact hfit,hcm,fun j x G=>by rw[hH];exact m3 j x G,?_⟩
   .rw[hnil] at hrl;simp at hrl;omega
   .rw[hH];simpa[fzH] using hHg)
  unfold Oper.wp;rw[hrun];simp only[Oper.upon];obtain⟨σ2,V⟩:∃σ2:St,σ2=⟨(d,.osl q te.ty pre.length (n+f.length))::(jct rs.st (SV.refs q) rs.st.sl++rs.st.sl),(q,some (.row ti.elem te.ty false nl (pre++l.drop lo++f)))::rs.st.ob⟩:=⟨_,rfl⟩;have hv:=Z pre hple;rw[<-V] at hv;have hR2:Rel P B C.n σ2 (a1.put o.dst (.slice (some ⟨g,pre.length*te.ty.size,none⟩) (n+f.length) (u-pre.length))) w2:=by
   refine⟨?_,?_,ρ',?_,?_,h5.mono q2 (fun d hd=>by simp at hd;subst hd;exact hqlt)⟩
   .rw[hdst];simp only[Act.put];exact h1
   .rw[hdst];simp only[Act.put];simpa using h2
   .have:σ2.obj=jfH rs.st.obj q (some (.row ti.elem te.ty false nl (pre++l.drop lo++f))):=by
     rw[V];exact kG ⟨(d,.osl q te.ty pre.length (n+f.length))::(jct rs.st (SV.refs q) rs.st.sl++rs.st.sl),rs.st.ob⟩ q _
    rw[this];exact q1
   .intro s v S;rw[V] at S;rw[hdst];simp only[Act.put];by_cases hsd:s=d
    .subst hsd;rw[jy] at S;simp only[Option.some.injEq] at S;subst S;simp only[jDZ,jD8];simp only[if_true];rw[if_pos (by rw[h2];exact hfr)];simp only[Option.getD_some,SV.den];intro p' hp';rw[q3] at hp';simp at hp';subst hp';exact⟨_,_,rfl,by omega,by omega,by rw[q4];omega,fun _=>rfl⟩
    .rw[jq (fun h=>hsd h.symm)] at S;simp only[jDZ,jD8];rw[if_neg (fun h=>hsd h.symm)];rw[je] at S;cases hsc:jt (jct rs.st (SV.refs q) rs.st.sl) s with
     |some v'=>
      rw[hsc] at S;simp only[Option.some.injEq] at S;subst S;rw[qf _ _ _ _ _ hsc];exact kA _
     |none=>
      rw[hsc] at S;simp only at S;have hrf:=kf _ _ _ s hsc (by rw[S];simp);have hgv:rs.st.get s=v:=(by unfold St.get;rw[S]);rw[hgv] at hrf;have:=SV.den_mono q2 v _ (fun r hr=>by simp at hr;subst hr;exact hrf) (h4 s v S);simpa only[jDZ] using this
  have hE2:Ext rs.st σ2:=(by rw[V];exact⟨⟨(d,.osl q te.ty pre.length (n+f.length))::jct rs.st (SV.refs q) rs.st.sl,by simp⟩,⟨[_],rfl⟩⟩);unfold jbk at hv
  split at hv
  .exact hv.elim
  rename_i ss2 rs2 hr2;obtain⟨j1,j2,ρ2,j3,j4,j5⟩:=hR2;refine kP hC _ _ _ _ _ _ hr2 hv ⟨j1,j2,ρ2,j3,j4,(fun s g v hm=>by simp at hm),j5⟩ (fun hk' a' w' hI'=> ?_);obtain⟨i1,i2,ρ3,i3,i4,_,i5⟩:=hI';have e1:=wE _ _ _ _ hr2;exact hQ _ a' w' ((hE1.trans hE2).trans (e1.trans ((jcO _ _).trans (ze _ _)))) hk' (za _ (jcI ⟨i1,i2,ρ3,i3,i4,i5⟩))
 have M:∀(v':Value) (w2:World),(Builtin.append_ #[U,U] o.type #[a1.eval b,a1.eval x]).run P D= .ok v' w2->(execOp a1.eval o).run P D= .ok (.value v') w2:=by
  intro v' w2 hrun;simp only[execOp,e1,Sem.run_bind,resolve,e2,L,htys,Sem.run_pure,Result.andThen_ok,invoke,builtin];simp[hrun]
 have hlo:(l.take lo).length=lo:=(by simp;omega);have hmulC:(lo+n)*te.ty.size<=Cp*te.ty.size:=jD9 _ (by omega);by_cases hroom:n+f.length<=I
 .--there is room
  have hf:=run_firstCells_some (P:=P) D iE.size f.length ad f.length cs us (by rw[hsz];exact u1) u2;have hmul:(lo+n+f.length)*te.ty.size<=Cp*te.ty.size:=jD9 _ (by omega);rw[jEB,jEB] at hmul;have hst:=run_storeCells_at P X (lo*te.ty.size+n*te.ty.size) ti.elem us 0 vs D hwb (by rw[u1,hvs];omega) u3;simp only[jE3] at hst;obtain⟨m1,m2⟩:=qt D hwb (vs.toList.take (lo*te.ty.size+n*te.ty.size)++us++vs.toList.drop (lo*te.ty.size+n*te.ty.size+us.length)).toArray;obtain⟨m3,m4,m5,m6,m7,m8⟩:=m1;have hrunA:(Builtin.append_ #[U,U] o.type #[a1.eval b,a1.eval x]).run P D= .ok (.slice (some ⟨X,lo*te.ty.size,none⟩) (n+f.length) I) (D.setRow X (vs.toList.take (lo*te.ty.size+n*te.ty.size)++us++vs.toList.drop (lo*te.ty.size+n*te.ty.size+us.length)).toArray):=by
   rw[f1,f6];have hadd:(⟨X,lo*te.ty.size,none⟩:Addr).add (n*iE.size)=⟨X,lo*te.ty.size+n*te.ty.size,none⟩:=(by rw[hsz];simp[wS]);simp[Builtin.append_,run_underlying hund,sizeOf,typeInfo,g0,Builtin.lenOf,hroom,hf,hadd,hst]
  have hl1:(vs.toList.take (lo*te.ty.size+n*te.ty.size)).length=lo*te.ty.size+n*te.ty.size:=(by simp;omega);refine fin _ X Cp (l.take lo) (by rw[hlo,show Cp-lo=I by omega];exact M _ _ hrunA) ⟨m3,m4,m5,by rw[m7];exact jDW _,fun k hk hne=>m8 k (fun e=>hne (by rw[e]))⟩ m6 (.inl rfl) (by omega) hCm (by omega) ⟨_,m2,?_,?_⟩
  .simp only[List.size_toArray,jEd,hl1,u1,jFb,jEk];omega
  .intro j x G;rw[jFc] at G;simp only[jE0,jEb];by_cases hj:j<l.length
   .rw[jD4 hj] at G;refine te.ty.rd_congr _ _ _ (fun k hk=> ?_) (hrd j x G);have:(j+1)*te.ty.size<=(lo+n)*te.ty.size:=jD9 _ (by omega);rw[jEz,jEB] at this;rw[jD4 (by omega),jEe (by omega)];simp
   .have hjl:j<(l++f).length:=(jDU.1 G).1;rw[jD3 (by omega)] at G;obtain⟨J,rfl⟩:∃J,j=lo+n+J:=⟨j-(lo+n),by omega⟩;rw[show lo+n+J-l.length=J by omega] at G;refine te.ty.rd_congr _ _ _ (fun k hk=> ?_) (u4 J x G);have hd:J<f.length:=(jDU.1 G).1;have:(J+1)*te.ty.size<=f.length*te.ty.size:=jD9 _ hd;rw[jEz] at this;rw[jEB,jEB,jD3 (by omega),hl1,jD4 (by omega)];congr 1;omega
 .--it moves
  have hml:n+f.length<=maxLen:=(by simp only[maxLen];omega);have hmp:I<n+f.length:=(by omega);obtain⟨A,hol⟩:∃A,A=(vs.toList.drop (lo*te.ty.size)).take (n*te.ty.size):=⟨_,rfl⟩;rw[jEB] at hmulC;have R:A.length=n*te.ty.size:=(by rw[hol];simp;omega);have hol2:∀j v,A[j]? =some v->D.cell? ((⟨X,lo*te.ty.size,none⟩:Addr).add j)=some v:=by
   intro j v hj;rw[hol,jE2] at hj
   split at hj
   .rw[jEu,jEA] at hj;have:(⟨X,lo*te.ty.size,none⟩:Addr).add j=⟨X,lo*te.ty.size+j,none⟩:=(by simp[wS]);rw[this];simp[World.cell?,hwb,hj]
   .cases hj
  have hr:=run_append_grow (P:=P) D U o.type ti.elem iE z hund g0 g3 ⟨X,lo*te.ty.size,none⟩ n I A (by rw[hsz];exact R) hol2 ad f.length cs us (by rw[hsz];exact u1) u2 hmp (by simp only[maxLen] at hml;omega) (growslice_fits hmp (by rw[g2];exact O));have hge:=grownCap_ge D (n+f.length) I ti.elem;have hcm:=grownCap_le_maxLen D (n+f.length) I ti.elem hml;generalize hcap:grownCap D (n+f.length) I ti.elem=u at hr hge hcm;have hlen2:(A++us).length=(n+f.length)*te.ty.size:=(by rw[jEd,R,u1,jEB]);refine fin (D.drew.alloc (.cells (A.toArray++us.toArray++Builtin.zeroCells z.cells (u-(n+f.length))) ti.elem)) D.heap.size u [] (by rw[f1,f6] at M;have:=M _ _ hr;simp only[jEF,Nat.zero_mul,Nat.sub_zero];exact this) ⟨rfl,rfl,rfl,by simp,fun k hk _=>heap_alloc_old D.drew _ k hk⟩ (Nat.le_succ _) (.inr rfl) (by simp;exact hge) hcm (by simp) ⟨_,heap_alloc_new D.drew _,?_,?_⟩
  .simp only[Array.size_append,List.size_toArray,size_zeroCells,hzs,R,u1,<-jEB];congr 1;omega
  .intro j x G;rw[jEj] at G;have Y:∀m,m<(A++us).length->(A.toArray++us.toArray++Builtin.zeroCells z.cells (u-(n+f.length)))[m]? =(A++us)[m]? :=by
    intro m hm;rw[jEC (by simpa using hm)];simp
   have hjl:j<(l.drop lo++f).length:=(jDU.1 G).1;have hdl:(l.drop lo).length=n:=(by simp;omega);rw[jEd,hdl] at hjl;by_cases hj:j<n
   .rw[jD4 (by omega),jEu] at G;refine te.ty.rd_congr _ _ _ (fun k hk=> ?_) (hrd (lo+j) x G);have:(j+1)*te.ty.size<=n*te.ty.size:=jD9 _ hj;rw[jEz] at this;rw[Y _ (by rw[jEd];omega),jD4 (by omega),hol,jEe (by omega),jEu,jEA,jEB];congr 1;omega
   .obtain⟨J,rfl⟩:∃J,j=n+J:=⟨j-n,by omega⟩;rw[jD3 (by omega),hdl,show n+J-n=J by omega] at G;refine te.ty.rd_congr _ _ _ (fun k hk=> ?_) (u4 J x G);have hd:J<f.length:=(jDU.1 G).1;have:(J+1)*te.ty.size<=f.length*te.ty.size:=jD9 _ hd;rw[jEz] at this;rw[Y _ (by rw[jEd,jEB];omega),jEB,jD3 (by omega),R];congr 1;omega
def jyC:Option Nat->Option Nat->Prop
 |some m,some n=>m<n
 |some _,none=>True
 |none,_=>False
theorem jsJ:WellFounded jyC:=by
 have b:∀n,Acc jyC (some n):=by
  intro n
  induction n using Nat.strongRecOn with
  |_ n c=>
   refine⟨_,fun y a=> ?_⟩;cases y with
   |none=>exact a.elim
   |some m=>exact c m a
 refine⟨fun x=> ?_⟩;cases x with
 |some n=>exact b n
 |none=>
  refine⟨_,fun y a=> ?_⟩;cases y with
  |none=>exact a.elim
  |some m=>exact b m
theorem jlh {α:Type} (r:α->α->Prop) (z:WellFounded r) {Q:Exit->Act->World->Prop} {c:Code} {a:Act} {w:World} (I:α->Act->World->Prop) (j:α) (t:I j a w)
 (o:∀x a w,I x a w->c.wp P (Exit.then (fun p w'=>∃v,r v x/\I v p w') Q) a w):(Code.loop c).wp P Q a w:=by
 intro b k cs;have key:∀x a w,I x a w->∃e p w',Q e p w'/\Arrives P (lone (b.at a (.code c:: .inLoop c::k)) cs w) b k cs e p w':=by
  intro x
  induction x using z.induction with
  |_ x B=>
   intro a w A;obtain⟨e,f,g,i,d⟩:=o x a w A b (.inLoop c::k) cs;cases e with
   |normal=>
    obtain⟨v,y,m⟩:=i;obtain⟨s,q,u,n,h⟩:=B v y f g m;exact⟨s,q,u,n,.of_steps (Steps.trans d (.one step_inLoop)) h⟩
   |exit id=>exact⟨_,f,g,i,.pass (x:= .inLoop c) rfl (fun _ _=> .inl (by simp)) d⟩
   |goto l=>exact⟨_,f,g,i,.pass (x:= .inLoop c) rfl (fun _ _=> .inl (by simp)) d⟩
   |ret=>exact⟨_,f,g,i,.pass (x:= .inLoop c) rfl (fun _ _=> .inl (by simp)) d⟩
   |panic ch=>exact⟨_,f,g,i,.pass (x:= .inLoop c) rfl (fun _ _=> .inl (by simp)) d⟩
   |outgrown=>exact⟨_,f,g,i,.pass (x:= .inLoop c) rfl (fun _ _=> .inl (by simp)) d⟩
 obtain⟨e,p,w',i,d⟩:=key j a w t;exact⟨e,p,w',i,.of_steps (.one step_loop) d⟩
def jp6 (P:Program) (B:zu) (C:Ctx) (A:Ann) (x:Code) (K:Ex->St->Prop) (σ:St) (n:Nat) (a:Act) (w:World):Prop:=
 ∃L,A (jcN x)=some L/\(∀y:(L σ).X,(L σ).inv y->vcg C A x (zl (L σ) (zC x) σ y) (fun e b=>match e with
  | .normal=>∃c:(L σ).X,sub b (zl (L σ) (zC x) σ c) (wU (zK ((L σ).sl c)) (wU (zK ((L σ).sl y)) (jbB b.sl (zl (L σ) (zC x) σ y).sl.length)))
   (wU (zK ((L σ).ob c)) (wU (zK ((L σ).ob y)) (jbB b.ob (zl (L σ) (zC x) σ y).ob.length)))/\(L σ).inv c/\(L σ).mu c<(L σ).mu y
  |e=>K e b))/\
  ∃y,(L σ).inv y/\(L σ).mu y=n/\Rel P B C.n (zl (L σ) (zC x) σ y) a w
theorem jgZ {A:Ann} {x:Code} {K:Ex->St->Prop} {a:Act} {σ:St} {w:World} (h:jsS A x (vcg C A x) σ K) (f:Rel P B C.n σ a w):∃n,jp6 P B C A x K σ n a w:=by
 unfold jsS at h
 split at h
 .exact h.elim
 rename_i L e;obtain⟨⟨x0,d,c⟩,b⟩:=h;exact⟨_,L,e,b,x0,c,rfl,jq0 d (fun s i=>jsX (L σ) (zC x) σ x0 s i) (fun o g=>jsW (L σ) (zC x) σ x0 o g) f⟩
theorem jg0 {A:Ann} {x:Code} {K:Ex->St->Prop} {Q:Exit->Act->World->Prop} {n:Nat} {a:Act} {σ:St} {w:World} {J:Act->World->Prop}
 (l:∀(σ:St) (K:Ex->St->Prop) (Q:Exit->Act->World->Prop) (a:Act) (w:World),vcg C A x σ K->Rel P B C.n σ a w->(∀e b d w',Ext σ b->K e b->Rel P B C.n b d w'->Q (jcE e) d w')->x.wp P Q a w)
 (R:jp6 P B C A x K σ n a w) (I:∀e b d w',Ext σ b->K e b->Rel P B C.n b d w'->Q (jcE e) d w')
 (S:∀O,O<n->∀d w',jp6 P B C A x K σ O d w'->J d w'):x.wp P (Exit.then J Q) a w:=by
 obtain⟨L,T,c,y,z,rfl,i⟩:=R;generalize m:zC x=ws at c i;refine l _ _ _ a w (c y z) i (fun e b d w' q u f=> ?_);have h:Ext σ (zl (L σ) ws σ y):=⟨⟨(L σ).sl y++ws.map (fun s=>(s,SV.any)),by simp[zl]⟩,⟨(L σ).ob y++ws.map (fun s=>(s,none)),by simp[zl]⟩⟩;cases e with
 |ret=>exact I .ret b d w' (h.trans q) u f
 |exit id=>exact I (.exit id) b d w' (h.trans q) u f
 |normal=>
  obtain⟨r,E,v,D⟩:=u;have k:Rel P B C.n (zl (L σ) ws σ r) d w':=by
   refine jq0 E (fun s N=> ?_) (fun o M=> ?_) f
   .simp only[zF,not_or] at N;obtain⟨F,G,H⟩:=N;refine .inr ?_;obtain⟨p,j⟩:=q.sl;have g:s∉zK p:=fun hk=>H (by rw[j];exact y8 p _ s hk)
    have t:jt b.sl s=jt (ws.map (fun s=>(s,SV.any))++σ.sl) s:=by
     rw[j,je,jm _ _ g];exact je1 (L σ) ws σ y s G
    unfold St.get;rw[t,je1 (L σ) ws σ r s F]
   .simp only[zF,not_or] at M;obtain⟨F,G,H⟩:=M;refine .inr ?_;obtain⟨p,j⟩:=q.ob;have g:o∉zK p:=fun hk=>H (by rw[j];exact y8 p _ o hk)
    have t:jt b.ob o=jt (ws.map (fun s=>(s,(none:Option Ob)))++σ.ob) o:=by
     rw[j,je,jm _ _ g];exact ga (L σ) ws σ y o G
    simp only[St.obj];rw[t,ga (L σ) ws σ r o F]
  exact S _ D d w' ⟨L,T,by rw[m];exact c,r,v,rfl,by rw[m];exact k⟩
theorem jqy (l:C.ok P) {ops:Array Oper} {σ:St} {K:Ex->St->Prop} {Q:Exit->Act->World->Prop} {a:Act} {w:World}
 (h:jqz C ops.toList σ K) (p:Rel P B C.n σ a w) (o:∀b c w',Ext σ b->K .normal b->Rel P B C.n b c w'->Q .normal c w'):jtQ P ops false Q a w:=by
 unfold jqz at h;obtain⟨e,f,ρ,i,j,k⟩:=p;exact jlq l (σ0:=σ) (fun rs c w' s1 s2 hk m=>by
  obtain⟨r,t,d,u,x,_,y⟩:=m;exact o _ c w' (Ext.trans ⟨s1,s2⟩ ((jcO _ _).trans (ze _ _))) hk (za _ (jcI ⟨r,t,d,u,x,y⟩))) ops.toList [] _ a w ⟨[],rfl⟩ ⟨[],rfl⟩ h ⟨e,f,ρ,i,j,(fun s g v q=>by simp at q),k⟩
theorem juN (o:C.ok P) {ops:Array Oper} {σ:St} {K:Ex->St->Prop} {Q:Exit->Act->World->Prop} {a:Act} {w:World}
 (h:jxK C ops.toList σ K) (p:Rel P B C.n σ a w) (x:∀j k w',Ext σ j->K .normal j->Rel P B C.n j k w'->Q .normal k w'):jtQ P ops true Q a w:=by
 unfold jxK at h
 split at h
 case h_2=>exact h.elim
 rename_i g ps H c
 split at h
 case h_2=>exact h.elim
 rename_i d r
 split at h
 case h_2=>exact h.elim
 rename_i aZ rs D G q z m
 split at h
 case h_2=>exact h.elim
 rename_i A t y l;obtain⟨e,u,v⟩:=h;have ex:∀{aZ:List zL} {rs:RS},rs=bld (fun _=>true) aZ ⟨σ,[]⟩->Ext σ rs.st:=fun h=>by
  rw[h];exact⟨⟨_,rfl⟩,⟨_,rfl⟩⟩
 by_cases b:A=g.2
 .have:=jmC (γ:=true) (Q:=Q) o r c q z y b (u b) p (fun hk k w' i=>by
   have s:=(jmC (γ:=true) (Q:=fun _ _ _=>True) o r c q z y b (u b) p (fun _ _ _ _=>trivial)).2;exact x _ k w' ((ex s).trans ((jcO _ _).trans (ze _ _))) hk (za _ (jcI i)))
  exact this.1
 .have f:t= !g.2:=by rw[e];cases E:g.2<;>cases F:A<;>simp_all
  have:=jmC (γ:=false) (Q:=Q) o r c q m l f (v b) p (fun hk k w' i=>by
   have s:=(jmC (γ:=false) (Q:=fun _ _ _=>True) o r c q m l f (v b) p (fun _ _ _ _=>trivial)).2;exact x _ k w' ((ex s).trans ((jcO _ _).trans (ze _ _))) hk (za _ (jcI i)))
  exact this.1
theorem jlj (e:C.ok P) {A:Ann} {id:Nat} {ops:Array Oper} {c:Bool} {σ:St} {K:Ex->St->Prop} {Q:Exit->Act->World->Prop} {a:Act} {w:World}
 (h:vcg C A (.region id ops c) σ K) (g:Rel P B C.n σ a w) (f:∀j k w',Ext σ j->K .normal j->Rel P B C.n j k w'->Q .normal k w'):jtQ P ops c Q a w:=by
 simp only[vcg] at h
 split at h
 .rename_i d it r b;exact jt5 e b h g f
 .split at h
  .rename_i i U t d b _;exact jwo e b h g f
  .split at h
   .split at h
    .exact yr e h g f
    .exact jqy e h g f
   .split at h
    .rename_i i o l b;exact jtB e b h g f
    .exact h.elim
  .split at h
   .exact yr e h g f
   .exact juN e h g f
theorem kN (l:C.ok P) (o:P.follows .mixedOrders=true) (A:Ann):∀(c:Code) (σ:St) (K:Ex->St->Prop) (Q:Exit->Act->World->Prop) (a:Act) (w:World),vcg C A c σ K->Rel P B C.n σ a w->
 (∀e b f w',Ext σ b->K e b->Rel P B C.n b f w'->Q (jcE e) f w')->c.wp P Q a w
 | .skip,σ,K,Q,a,w,h,k,g=>wp_skip (g .normal σ a w (Ext.refl _) h k)
 | .region id ops L,σ,K,Q,a,w,h,k,g=>jAI o (jlj l h k (fun b f w' j i d=>g .normal b f w' j i d))
 | .seq x y,σ,K,Q,a,w,h,k,g=>by
  simp only[vcg] at h
  refine wp_seq (kN l o A x σ _ _ a w h k (fun e b f w' j i d=> ?_))
  cases e with
  |normal=>exact kN l o A y b K Q f w' i d (fun O I N T D=>g O I N T (j.trans D))
  |ret=>exact g .ret b f w' j i d
  |exit id=>exact g (.exit id) b f w' j i d
 | .cond c x y,σ,K,Q,a,w,h,k,g=>by
  simp only[vcg] at h
  split at h
  case h_2=>exact h.elim
  rename_i V R
  have S:a.eval c= .bool V:=by
   obtain⟨_,_,ρ,_,F,_⟩:=k;have:=jC (P:=P) (ρ:=ρ) F c;rw[R] at this;exact zy (by simpa only[SV.den] using this)
  refine wp_cond_split S (fun r=>kN l o A x σ K Q a w (h.1 r) k g) (fun r=>kN l o A y σ K Q a w (h.2 r) k g)
 | .block id x,σ,K,Q,a,w,h,k,g=>by
  simp only[vcg] at h;refine wp_block (kN l o A x σ _ _ a w h k (fun e b f w' j i d=> ?_));cases e with
  |normal=>exact g .normal b f w' j i d
  |ret=>exact g .ret b f w' j i d
  |exit G=>
   simp only[jcE,Exit.inBlock];simp only at i
   split at i
   .rename_i r;have:=jDQ r;subst this;rw[if_pos rfl];exact g .normal b f w' j i d
   .rename_i r;rw[if_neg (fun e=>jO r e.symm)];exact g (.exit G) b f w' j i d
 | .loop x,σ,K,Q,a,w,h,k,g=>by
  simp only[vcg] at h;have q:=fun(σ:St) (K:Ex->St->Prop) (Q:Exit->Act->World->Prop) (a:Act) (w:World)=>kN l o A x σ K Q a w
  split at h
  .obtain⟨H,z⟩:=jgZ h k;refine jlh jyC jsJ (fun n f w'=>∃m,n=some m/\jp6 P B C A x K σ m f w') (some H) ⟨_,rfl,z⟩ ?_;rintro n J M ⟨m,rfl,E⟩;exact jg0 q E (fun e b f w' j i d=>g e b f w' j i d) (fun u s f w' v=>⟨some u,s,u,rfl,v⟩)
  .refine jlh jyC jsJ (fun n f w'=>(n=none/\f=a/\w'=w)\/∃m p,n=some m/\Ext σ p/\jp6 P B C A x K p m f w') none (.inl ⟨rfl,rfl,rfl⟩) ?_;rintro n J M (⟨rfl,rfl,rfl⟩|⟨m,p,rfl,t,E⟩)
   .refine kN l o A x σ _ _ J M h k (fun e b f w' j i d=> ?_);cases e with
    |ret=>exact g .ret b f w' j i d
    |exit id=>exact g (.exit id) b f w' j i d
    |normal=>
     obtain⟨H,z⟩:=jgZ i d;exact⟨some H,trivial,.inr ⟨_,b,rfl,j,z⟩⟩
   .exact jg0 q E (fun e b f w' j i d=>g e b f w' (t.trans j) i d) (fun u s f w' v=>⟨some u,s,.inr ⟨u,p,rfl,t,v⟩⟩)
 | .exit id,σ,K,Q,a,w,h,k,g=>wp_exit (g (.exit id) σ a w (Ext.refl _) h k)
 | .ret,σ,K,Q,a,w,h,k,g=>wp_ret (g .ret σ a w (Ext.refl _) h k)
 | .rangeFunc ..,_,_,_,_,_,h,_,_=>h.elim
 | .scope x,σ,K,Q,a,w,h,k,g=>by
  simp only[vcg] at h;refine wp_scope_straight (kN l o A x σ K _ a w h k (fun e b f w' j i d=> ?_));cases e with
  |normal=>exact g .normal b f w' j i d
  |ret=>exact g .ret b f w' j i d
  |exit id=>exact g (.exit id) b f w' j i d
 | .label _,σ,K,Q,a,w,h,k,g=>wp_label (g .normal σ a w (Ext.refl _) h k)
 | .goto _,_,_,_,_,_,h,_,_=>h.elim
 | .refuse _,_,_,_,_,_,h,_,_=>h.elim
end
end Go.X
