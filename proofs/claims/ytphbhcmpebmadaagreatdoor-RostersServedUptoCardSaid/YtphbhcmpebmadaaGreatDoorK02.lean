/-
  Part 2 of the road: a checked reading of bodies, and what the functions on it do (XM X11 X12 X13 X14 X15 X16 X17 X18 X19 X20 XL XG XS XC X21 X22).
-/
import Derived.Test.YtphbhcmpebmadaaGreatDoorK01
import Derived.Orders
import Derived.Tactics
import Derived.Control
import Derived.Deep.LoopGhost
import Derived.Scope
namespace Go.X
open Go.RowKit (Below)
section
variable {P:Program} {B:zV} {C:Ctx} {σ:St} {ρ:Env} {w:World} {o:Oper} {ev:Operand->Value} {out:Out}
theorem qt (w:World) (y:Obj):(w.alloc y).heap[w.heap.size]? =some y:=by
 show(w.heap.push y)[w.heap.size]? =some y;simp
theorem jqW {U dst:Nat} (n:C.ok P) (d:o.op= .makeMap U none) (h:jC C σ dst (.makeMap U none)=some out) (g:Sat P B ρ σ.obj w)
 (s:σ.obj dst=none) (u:kN σ.obj dst):jI P o ev w (jF P B ρ σ out):=by
 simp only[jC,n.lit] at h
 split at h
 case h_2=>rename_i e _;cases e
 case h_3=>cases h
 rename_i ti tk te _ t;simp at h;subst h;obtain⟨a,k,l,m,_,_⟩:=jn5 g s u (.map #[] 0) 0 0 (.map false tk.ty te.ty []) (fun a q _ _=>by
  simp only[zq,fzM];refine⟨w.heap.size,0,#[],0,rfl,qt w _,⟨rfl,jG5 _,fun i e b=>by simp at b,fun i j e z b=>by simp at b,fun i x y=>by simp at y⟩,?_⟩;rw[q];cases r:ρ.H w.heap.size with
  |none=>rfl
  |some c=>have:=g.good.lt r;omega)
 refine zo (v:= .map (some w.heap.size)) (w':=w.alloc (.map #[] 0)) (by simp[execOp,d,Instr.makeMap]) ⟨a,?_,l,?_,trivial⟩
 .simpa[qG,<-ww] using k
 .simp only[SV.den];intro p f;rw[m] at f;simp at f;subst f;exact⟨_,_,rfl,rfl⟩
def jbx {α a:Type}:List (α×a)->List α
 |[]=>[]
 |x::r=>x.1::jbx r
theorem jqr {H:Imm} {kt vt:Ty}:∀(es:List MapEntry) (l:List (kt.Data×vt.Data)),es.length=l.length->(∀(i:Nat) (x:kt.Data×vt.Data),l[i]? =some x->∃e:MapEntry,es[i]? =some e/\kt.rv H e.key x.1/\vt.rv H e.val x.2)->jm5 H kt es (jbx l)
 |[],[],_,_=>trivial
 |[],_::_,h,_=>by simp at h
 |_::_,[],h,_=>by simp at h
 |e::es,x::l,h,hx=>by
  refine⟨?_,jqr es l (by simpa using h) (fun i y c=>by simpa using hx (i+1) y (by simpa using c))⟩
  obtain⟨d,a,b,_⟩:=hx 0 x rfl
  simp at a;subst a
  exact b
theorem vz {H:Imm} {kt vt:Ty} (a:kt.Data):∀(es:List MapEntry) (l:List (kt.Data×vt.Data)) (i:Nat),es.length=l.length->(∀(i:Nat) (x:kt.Data×vt.Data),l[i]? =some x->∃e:MapEntry,es[i]? =some e/\kt.rv H e.key x.1/\vt.rv H e.val x.2)->
 (vS kt a (jbx l) es i=none/\zU kt a l=none/\(∀v:vt.Data,jex kt a v l=l++[(a,v)]))\/
 ∃(j:Nat) (e:MapEntry) (x:kt.Data×vt.Data),vS kt a (jbx l) es i=some (i+j,e.val)/\zU kt a l=some x.2/\es[j]? =some e/\l[j]? =some x/\x.1=a/\kt.rv H e.key x.1/\vt.rv H e.val x.2/\∀v:vt.Data,jex kt a v l=l.set j (a,v)
 |[],[],i,_,_=> .inl ⟨rfl,rfl,fun _=>rfl⟩
 |[],_::_,_,h,_=>by simp at h
 |_::_,[],_,h,_=>by simp at h
 |e::es,x::l,i,h,hx=>by
  obtain⟨f,g,q,r⟩:=hx 0 x rfl
  simp at g;subst g
  by_cases hk: @decide (a=x.1) (kt.decEq a x.1)=true
  .refine .inr ⟨0,e,x,by simp only[jbx,vS,hk,if_true];rfl,by simp only[zU,hk,if_true],rfl,rfl,(@of_decide_eq_true _ (_) hk).symm,q,r,fun v=>by simp only[jex,hk,if_true];rfl⟩
  .rcases vz (H:=H) a es l (i+1) (by simpa using h) (fun i y s=>by simpa using hx (i+1) y (by simpa using s)) with⟨b,c,d⟩|⟨j,f,t,b,c,d,k,m,n,o,p⟩
   .exact .inl ⟨by simp only[jbx,vS,hk];exact b,by simp only[zU,hk];exact c,fun v=>by simp only[jex,hk];rw[show jex kt a v l=_ from d v];rfl⟩
   .refine .inr ⟨j+1,f,t,by simp only[jbx,vS,hk];rw[show vS kt a (jbx l) es (i+1)=_ from b];simp;omega,by simp only[zU,hk];exact c,by simpa using d,by simpa using k,m,n,o,fun v=>by simp only[jex,hk];rw[show jex kt a v l=_ from p v];rfl⟩
theorem jxA {ti:TI} (h:ti.ok P) (hk:kr ti.ty=true) (H:Imm):∃z,(∀w,(zeroValue ti.id).run P w= .ok z w)/\ti.ty.rv H z ti.ty.dflt:=by
 obtain⟨i,z,_,_,_,_,c,a,b⟩:=qo h;obtain⟨d,e⟩:=h.known hk;refine⟨z,c,by rw[b,d],?_,?_⟩
 .rw[<-jHA,a,h.zlen,e]
 .refine Ty.rd_congr _ _ _ _ (fun j _=> ?_) (h.zd hk H);rw[<-a];simp
theorem jtH {U dst:Nat} {x m:Operand} {ok:Bool} (S:C.ok P) (n:o.op= .lookup U x m ok) (h:jC C σ dst (.lookup U x m ok)=some out) (r:Sat P B ρ σ.obj w)
 (E:SV.den P ρ (jQ σ x) (ev x)) (t:SV.den P ρ (jQ σ m) (ev m)):jI P o ev w (jF P B ρ σ out):=by
 simp only[jC] at h
 split at h
 case h_2=>cases h
 rename_i ti tk te y;obtain⟨_,F,G,a,u,D⟩:=jal S y;obtain⟨M,N,_⟩:=F.keyq u
 split at h
 case h_2=>cases h
 rename_i l k T hk;have c:=jT r (fz:=[]) (fun o=>⟨.inl rfl,fun A=>by simp at A⟩) hk (fun o A=>A) t;obtain⟨z,L,q⟩:=jxA G D ρ.H;have key:∃v:Value,te.ty.rv ρ.H v (wh te.ty.dflt (zU tk.ty k l))/\(execOp ev o).run P w= .ok (.value (if ok then .tuple #[v,.bool (jFv (zU tk.ty k l))] else v)) w:=by
  rcases jkc r T E with⟨e,rfl⟩|⟨b,es,clock,e,Q,I⟩
  .refine⟨z,q,?_⟩;have c1:=M ρ.H (ev m) k w true c;have c2:=N ρ.H [] [] (ev m) k w c trivial;simp[execOp,n,Instr.lookup,run_underlying a,e,c1,c2,vS,L,zU,jFv]
  .have J:(getObj b).run P w= .ok (.map es clock) w:=(by simp[getObj,Sem.run,Q]);have c1:=M ρ.H (ev m) k w es.isEmpty c;have f:es.toList.length=l.length:=(by simpa using I.1);have d:∀(i:Nat) (x:tk.ty.Data×te.ty.Data),l[i]? =some x->∃e:MapEntry,es.toList[i]? =some e/\tk.ty.rv ρ.H e.key x.1/\te.ty.rv ρ.H e.val x.2:=fun i x E=>by simpa using I.2.2.2.2 i x E
   have c2:=N ρ.H es.toList (jbx l) (ev m) k w c (jqr _ _ f d);rcases vz (H:=ρ.H) k es.toList l 0 f d with⟨s,p,_⟩|⟨j,O,Z,s,p,V,W,X,Y,R,_⟩
   .refine⟨z,by rw[p];exact q,?_⟩;rw[s] at c2;simp[execOp,n,Instr.lookup,run_underlying a,e,J,c1,c2,L,p,jFv]
   .refine⟨O.val,by rw[p];exact R,?_⟩;rw[s] at c2;simp[execOp,n,Instr.lookup,run_underlying a,e,J,c1,c2,p,jFv]
 obtain⟨v,K,g⟩:=key
 split at h
 .simp only[Out.pure,Option.some.injEq] at h;subst h;refine jk r (v:=_) (by simpa using g) ?_ trivial;simp only[SV.den,SV.denL];exact⟨_,rfl,_,_,rfl,K,_,_,rfl,wZ _,rfl⟩
 .simp only[Out.pure,Option.some.injEq] at h;subst h;exact jk r (v:=v) (by simpa using g) (by simpa only[SV.den] using K) trivial
theorem jdN {U:Nat} {m f x:Operand} (hC:C.ok P) (g:o.op= .mapUpdate U m f x\/o.op= .insert U m f x) (h:jA7 C σ U m f x=some out) (hS:Sat P B ρ σ.obj w)
 (hm:SV.den P ρ (jQ σ m) (ev m)) (hix:SV.den P ρ (jQ σ f) (ev f)) (hx:SV.den P ρ (jQ σ x) (ev x)):jI P o ev w (jF P B ρ σ out):=by
 unfold jA7 at h
 split at h
 case h_2=>cases h
 rename_i ti tk te hmp;obtain⟨_,ok2,ok3,J,hkq,hte⟩:=jal hC hmp;obtain⟨q1,q2,q3⟩:=ok2.keyq hkq
 split at h
 case h_2=>cases h
 rename_i ob hob;rw[hob] at hm
 split at h
 case h_2=>cases h
 rename_i kt vt l R
 split at h
 case h_2=>cases h
 rename_i l' k v fz hc hk hv
 split at h
 case h_2=>cases h
 rename_i D;have D:=qi D;simp at h;subst h;obtain⟨e,rfl⟩:=jm hc;obtain⟨e1,S⟩:kt=tk.ty/\vt=te.ty:=by injection e with a b;exact⟨a,b⟩
 subst e1;subst S;have M:qw e l=l:=rfl;rw[M];obtain⟨ρ1,K,A,hb1,hn1⟩:=jX (σ:=σ) fz hS;have Y:=jT hS (fz:=[]) (fun o=>⟨.inl rfl,fun R=>by simp at R⟩) hk (fun o R=>R) hix;have s:=Ty.rv_mono A.H Y;have hvr:=jT K (w8 σ fz) hv (fun o R=>R) (SV.den_mono A _ _ (fun r hr=>by simp at hr) hx);have ho1:(σ.frz fz).obj ob=some (.map false tk.ty te.ty l):=(by rw[kL,if_neg D];exact R);obtain⟨p,hp,hs⟩:=K.obs ob _ ho1;simp only[zq,fzM] at hs;obtain⟨b,Cp,es,clock,rfl,k1,k2,k3⟩:=hs;simp only[SV.den] at hm;obtain⟨b',C',f1,f2⟩:=hm _ (by rw[<-hb1];exact hp);simp at f1;obtain⟨rfl,rfl⟩:=f1;have hg:(getObj b).run P w= .ok (.map es clock) w:=(by simp[getObj,Sem.run,k1]);have I:∀y:Obj,(setObj b y).run P w= .ok () {w with heap:=w.heap.setIfInBounds b y}:=fun y=>by simp[setObj,Sem.run,k1]
 have X:b<w.heap.size:=(jHc.1 k1).1;have c1:=q1 ρ.H (ev f) k w false Y;obtain⟨m1,m2,m3,m4,m5⟩:=k2;have G:es.toList.length=l.length:=(by simpa using m1);have F:∀(i:Nat) (x:tk.ty.Data×te.ty.Data),l[i]? =some x->∃e:MapEntry,es.toList[i]? =some e/\tk.ty.rv ρ1.H e.key x.1/\te.ty.rv ρ1.H e.val x.2:=fun i x hx=>by simpa using m5 i x hx
 have c2:=q2 ρ1.H es.toList (jbx l) (ev f) k w s (jqr _ _ G F);have T:∀(z:Array MapEntry) (c:Nat),jcQ ρ1.H tk.ty te.ty z c (jex tk.ty k v l)->(execOp ev o).run P w= .ok .skip {w with heap:=w.heap.setIfInBounds b (.map z c)}->jI P o ev w (jF P B ρ σ ⟨[],[],.any,fz,[(ob,some (.map false tk.ty te.ty (jex tk.ty k v l)))],[]⟩):=by
  intro z c hrd Z;refine jgk Z ⟨ρ1,?_,A,wn _,trivial⟩;have:=jb8 K hp k3 (.map false tk.ty te.ty (jex tk.ty k v l)) (w':={w with heap:=w.heap.setIfInBounds b (.map z c)}) ⟨rfl,rfl,rfl,jG5 _,by simp,fun j hj=>(by show(w.heap.setIfInBounds b _)[j]? =_;rw[jHl,if_neg (fun h=>hj h.symm)])⟩ (by
   simp only[zq,fzM];exact⟨b,Cp,z,c,rfl,by simp[X],hrd,k3⟩)
  rw[jHx,jHz];show Sat P B ρ1 ({(σ.frz fz) with ob:=(ob,_)::(σ.frz fz).ob}:St).obj _;rw[ww];exact this
 rcases vz (H:=ρ1.H) k es.toList l 0 G F with⟨g1,g2,g3⟩|⟨j,u,x',g1,g2,g3,g4,g5,g6,g7,g8⟩
 .rw[g1] at c2;refine T (es.push {key:=ev f,val:=ev x,born:=clock}) (clock+1) ?_ ?_
  .rw[g3];have Q:∀(i:Nat) (e:MapEntry),(es.push {key:=ev f,val:=ev x,born:=clock})[i]? =some e->(i<es.size/\es[i]? =some e)\/(i=es.size/\e={key:=ev f,val:=ev x,born:=clock}):=by
    intro i e d;rw[jIl] at d
    split at d
    .rename_i hi;simp at d;exact .inr ⟨hi,d.symm⟩
    .exact .inl ⟨(jHc.1 d).1,d⟩
   refine⟨by simp[m1],by simp;omega,fun i e d=> ?_,fun i j e u d N L=> ?_,fun i y n=> ?_⟩
   .rcases Q i e d with⟨_,h⟩|⟨_,rfl⟩
    .have:=m3 i e h;omega
    .simp
   .rcases Q i e d with⟨h0,h⟩|⟨h0,rfl⟩<;>rcases Q j u N with⟨W,V⟩|⟨W,rfl⟩
    .exact m4 i j e u h V L
    .have:=m3 i e h;simp at L;omega
    .have:=m3 j u V;simp at L;omega
    .omega
   .by_cases hi:i<l.length
    .rw[jHf hi] at n;obtain⟨e,h1,h2,h3⟩:=m5 i y n;exact⟨e,by rw[jIl,if_neg (by omega)];exact h1,h2,h3⟩
    .rw[jHe (by omega)] at n;have:i-l.length=0:=by
      by_cases e:i-l.length=0
      .exact e
      .obtain⟨q,hq⟩:∃q,i-l.length=q+1:=⟨i-l.length-1,by omega⟩;rw[hq] at n;simp at n
     rw[this] at n;simp at n;subst n;exact⟨{key:=ev f,val:=ev x,born:=clock},by rw[jIl,if_pos (by omega)],s,hvr⟩
  .rcases g with g|g<;>simp[execOp,g,Instr.mapUpdate,run_underlying J,f2,hg,c1,c2,I]
 .rw[g1] at c2;have hsb:=q3 ρ1.H u.key (ev f) k (g5▸g6) s;have t:es[j]? =some u:=(by simpa using g3);refine T (es.modify j fun e=>{e with key:=ev f,val:=ev x}) clock ?_ ?_
  .rw[g8];have E:∀(i:Nat) (e:MapEntry),(es.modify j fun e=>{e with key:=ev f,val:=ev x})[i]? =some e->(i≠j/\es[i]? =some e)\/(i=j/\e={u with key:=ev f,val:=ev x}):=by
    intro i e d;rw[jHW] at d
    split at d
    .rename_i hi;subst hi;rw[t] at d;simp at d;exact .inr ⟨rfl,d.symm⟩
    .rename_i hi;exact .inl ⟨fun h=>hi h.symm,d⟩
   refine⟨by simp[m1],by simpa using m2,fun i e d=> ?_,fun i i' e S d N L=> ?_,fun i y n=> ?_⟩
   .rcases E i e d with⟨_,h⟩|⟨rfl,rfl⟩
    .exact m3 i e h
    .exact m3 i u t
   .rcases E i e d with⟨h0,h⟩|⟨rfl,rfl⟩<;>rcases E i' S N with⟨W,V⟩|⟨rfl,rfl⟩
    .exact m4 i i' e S h V L
    .exact m4 i i' e u h t L
    .exact m4 i i' u S t V L
    .rfl
   .rw[List.getElem?_set] at n;by_cases O:j=i
    .subst O;rw[if_pos rfl] at n;have hjl:j<l.length:=(by have:=(jG6.1 g4).1;exact this);rw[if_pos hjl] at n;simp at n;subst n;exact⟨{u with key:=ev f,val:=ev x},by rw[jHW,if_pos rfl,t];rfl,s,hvr⟩
    .rw[if_neg O] at n;obtain⟨e,h1,h2,h3⟩:=m5 i y n;exact⟨e,by rw[jHW,if_neg O];exact h1,h2,h3⟩
  .have hks:(Instr.keyThatStays u.key (ev f)).run P w= .ok (ev f) w:=(by simp[Instr.keyThatStays,hsb]);rcases g with g|g<;>simp[execOp,g,Instr.mapUpdate,run_underlying J,f2,hg,c1,c2,I,t,hks]
theorem jyB {H:Imm} {kt vt:Ty} {es:Array MapEntry} {clock:Nat} {l:List (kt.Data×vt.Data)} (h:jcQ H kt vt es clock l) {d f:Value} {k:kt.Data} {v:vt.Data} (hk:kt.rv H d k) (z:vt.rv H f v):
 jcQ H kt vt (es.push {key:=d,val:=f,born:=clock}) (clock+1) (l++[(k,v)]):=by
 obtain⟨A,D,p,B,C⟩:=h;have c:∀(i:Nat) (e:MapEntry),(es.push {key:=d,val:=f,born:=clock})[i]? =some e->(i<es.size/\es[i]? =some e)\/(i=es.size/\e={key:=d,val:=f,born:=clock}):=by
  intro i e a;rw[jIl] at a
  split at a
  .rename_i hi;simp at a;exact .inr ⟨hi,a.symm⟩
  .exact .inl ⟨(jHc.1 a).1,a⟩
 refine⟨by simp[A],by simp;omega,fun i e a=> ?_,fun i j e g a o n=> ?_,fun i y b=> ?_⟩
 .rcases c i e a with⟨_,h⟩|⟨_,rfl⟩
  .have:=p i e h;omega
  .simp
 .rcases c i e a with⟨s,h⟩|⟨s,rfl⟩<;>rcases c j g o with⟨m,r⟩|⟨m,rfl⟩
  .exact B i j e g h r n
  .have:=p i e h;simp at n;omega
  .have:=p j g r;simp at n;omega
  .omega
 .by_cases hi:i<l.length
  .rw[jHf hi] at b;obtain⟨e,t,u,w⟩:=C i y b;exact⟨e,by rw[jIl,if_neg (by omega)];exact t,u,w⟩
  .rw[jHe (by omega)] at b;have:i-l.length=0:=by
    by_cases e:i-l.length=0
    .exact e
    .obtain⟨q,x⟩:∃q,i-l.length=q+1:=⟨i-l.length-1,by omega⟩;rw[x] at b;simp at b
   rw[this] at b;simp at b;subst b;exact⟨{key:=d,val:=f,born:=clock},by rw[jIl,if_pos (by omega)],hk,z⟩
theorem jDa {H:Imm} {kt vt:Ty} {es:Array MapEntry} {clock:Nat} {l:List (kt.Data×vt.Data)} (h:jcQ H kt vt es clock l) {j:Nat} {b:MapEntry} (m:es[j]? =some b) {f:MapEntry->MapEntry} (q:(f b).born=b.born)
 {k:kt.Data} {v:vt.Data} (hk:kt.rv H (f b).key k) (C:vt.rv H (f b).val v):jcQ H kt vt (es.modify j f) clock (l.set j (k,v)):=by
 obtain⟨D,E,w,t,F⟩:=h;have a:∀(i:Nat) (e:MapEntry),(es.modify j f)[i]? =some e->(i≠j/\es[i]? =some e)\/(i=j/\e=f b):=by
  intro i e c;rw[jHW] at c
  split at c
  .rename_i hi;subst hi;rw[m] at c;simp at c;exact .inr ⟨rfl,c.symm⟩
  .rename_i hi;exact .inl ⟨fun h=>hi h.symm,c⟩
 refine⟨by simp[D],by simpa using E,fun i e c=> ?_,fun i o e p c r d=> ?_,fun i y n=> ?_⟩
 .rcases a i e c with⟨_,h⟩|⟨rfl,rfl⟩
  .exact w i e h
  .rw[q];exact w i b m
 .rcases a i e c with⟨G,h⟩|⟨rfl,rfl⟩<;>rcases a o p r with⟨x,u⟩|⟨rfl,rfl⟩
  .exact t i o e p h u d
  .exact t i o e b h m (d.trans q)
  .exact t i o b p m u (q.symm.trans d)
  .rfl
 .rw[List.getElem?_set] at n;by_cases g:j=i
  .subst g;have s:j<l.length:=(by have:=(jHc.1 m).1;omega);rw[if_pos rfl,if_pos s] at n;simp at n;subst n;exact⟨f b,by rw[jHW,if_pos rfl,m];rfl,hk,C⟩
  .rw[if_neg g] at n;obtain⟨e,z,A,B⟩:=F i y n;exact⟨e,by rw[jHW,if_neg g];exact z,A,B⟩
theorem jym {U:Nat} {ti tk te:TI} (R:C.ok P) (E:C.mapT U=some (ti,tk,te)) {H:Imm} {b:Nat} {es:Array MapEntry} {clock:Nat} {l:List (tk.ty.Data×te.ty.Data)} (N:w.heap[b]? =some (.map es clock))
 (c:jcQ H tk.ty te.ty es clock l) {d:Value} {k:tk.ty.Data} (hk:tk.ty.rv H d k):
 ∃(v:Value) (s:Int) (n:Array MapEntry) (a:Nat),(Instr.mapEntry U (.map (some b)) d).run P w= .ok (.tuple #[v,.int .i64 s]) {w with heap:=w.heap.setIfInBounds b (.map n a)}/\
  jcQ H tk.ty te.ty n a (jaj tk.ty te.ty.dflt k l)/\te.ty.rv H v (wh te.ty.dflt (zU tk.ty k l))/\
  ∃(j:Nat) (e:MapEntry),n[j]? =some e/\(e.born:Int)=s/\∀v,jex tk.ty k v l=(jaj tk.ty te.ty.dflt k l).set j (k,v):=by
 obtain⟨_,I,J,m,B,G⟩:=jal R E;obtain⟨V,W,X⟩:=I.keyq B;have M:(getObj b).run P w= .ok (.map es clock) w:=(by simp[getObj,Sem.run,N]);have h:∀y:Obj,(setObj b y).run P w= .ok () {w with heap:=w.heap.setIfInBounds b y}:=fun y=>by simp[setObj,Sem.run,N]
 have c1:=V H d k w false hk;have g:es.toList.length=l.length:=(by simpa using c.1);have f:∀(i:Nat) (x:tk.ty.Data×te.ty.Data),l[i]? =some x->∃e:MapEntry,es.toList[i]? =some e/\tk.ty.rv H e.key x.1/\te.ty.rv H e.val x.2:=fun i x S=>by simpa using c.2.2.2.2 i x S
 have c2:=W H es.toList (jbx l) d k w hk (jqr _ _ g f);rcases vz (H:=H) k es.toList l 0 g f with⟨A,q,u⟩|⟨j,p,Y,A,q,u,Z,O,Q,K,L⟩
 .rw[A] at c2;obtain⟨z,T,t⟩:=jxA J G H;have r:jaj tk.ty te.ty.dflt k l=l++[(k,te.ty.dflt)]:=(by unfold jaj;rw[q,u];rfl);refine⟨z,clock,es.push {key:=d,val:=z,born:=clock},clock+1,?_,?_,by rw[q];exact t,l.length,{key:=d,val:=z,born:=clock},?_,rfl,fun v=> ?_⟩
  .simp[Instr.mapEntry,run_underlying m,M,c1,c2,h,T,goInt]
  .rw[r];exact jyB c hk t
  .rw[jIl,if_pos c.1.symm]
  .rw[r,u,List.set_append_right _ _ (jG5 _)];simp
 .rw[A] at c2;have o:es[j]? =some p:=(by simpa using u);have F:=X H p.key d k (O▸Q) hk;have r:jaj tk.ty te.ty.dflt k l=l.set j (k,Y.2):=(by unfold jaj;rw[q,L];rfl);have D:(Instr.keyThatStays p.key d).run P w= .ok d w:=(by simp[Instr.keyThatStays,F]);refine⟨p.val,p.born,es.modify j fun e=>{e with key:=d},clock,?_,?_,by rw[q];exact K,j,{p with key:=d},?_,rfl,fun v=> ?_⟩
  .simp[Instr.mapEntry,run_underlying m,M,c1,c2,h,o,D,goInt]
  .rw[r];exact jDa c o rfl hk K
  .rw[jHW,if_pos rfl,o];rfl
  .rw[r,L,List.set_set]
theorem jkV {U dst:Nat} {m st x:Operand} (hC:C.ok P) (X:o.op= .entryStore U m st x) (h:jC C σ dst (.entryStore U m st x)=some out) (hS:Sat P B ρ σ.obj w)
 (S:SV.den P ρ (jQ σ m) (ev m)) (Y:SV.den P ρ (jQ σ st) (ev st)) (hx:SV.den P ρ (jQ σ x) (ev x)) (K:k8 out.vc):jI P o ev w (jF P B ρ σ out):=by
 simp only[jC] at h
 split at h
 case h_2=>cases h
 rename_i ti tk te hmp
 split at h
 case h_2=>cases h
 rename_i ob s W hs;rw[W] at S
 split at h
 case h_2=>cases h
 rename_i kt vt l k s' T
 split at h
 case h_2=>cases h
 rename_i l' k' v fz hc hk hv
 split at h
 case h_2=>cases h
 rename_i d;have d:=qi d;simp at h;subst h;obtain⟨e,rfl⟩:=jm hc;obtain⟨e1,e2⟩:kt=tk.ty/\vt=te.ty:=by injection e with a b;exact⟨a,b⟩
 subst e1;subst e2;obtain⟨ek,f⟩:=jm hk;have f:k=k':=(by first|exact f|exact f.symm);subst f;have q:qw e l=l:=rfl;rw[q];simp only[k8] at K;obtain⟨J,_⟩:=K;have Z:ev st= .int .i64 s:=wt (i:=s) (by rw[hs];rfl) Y;obtain⟨ρ1,n,g,O,hn1⟩:=jX (σ:=σ) fz hS;have hvr:=jT n (w8 σ fz) hv (fun o T=>T) (SV.den_mono g _ _ (fun r hr=>by simp at hr) hx);have V:(σ.frz fz).obj ob=some (.mape tk.ty te.ty l k s'):=(by rw[kL,if_neg d];exact T);obtain⟨p,hp,G⟩:=n.obs ob _ V;simp only[zq] at G;obtain⟨b,Cp,es,clock,rfl,k1,M,k3,j,N,L,j2,j3⟩:=G;simp only[SV.den] at S;obtain⟨b',C',f1,f2⟩:=S _ (by rw[<-O];exact hp);simp at f1;obtain⟨rfl,rfl⟩:=f1;have hg:(getObj b).run P w= .ok (.map es clock) w:=(by simp[getObj,Sem.run,k1]);have I:∀y:Obj,(setObj b y).run P w= .ok () {w with heap:=w.heap.setIfInBounds b y}:=fun y=>by simp[setObj,Sem.run,k1]
 have A:b<w.heap.size:=(jHc.1 k1).1;obtain⟨D,R⟩:=jHc.1 L;have t:es.findIdx? (fun e=>(e.born:Int)==s)=some j:=by
  rw[Array.findIdx?_eq_some_iff_getElem];refine⟨D,by rw[R];simp[j2,J],fun i hi=> ?_⟩;have Q:i<es.size:=(by omega);intro c;have c:((es[i]).born:Int)=s:=(by simpa using c);have:=M.2.2.2.1 i j es[i] N (jHv Q) L (by
   have z:((es[i]).born:Int)=(N.born:Int):=by rw[c,j2,J]
   exact_mod_cast z)
  omega
 have u:j<(jaj tk.ty te.ty.dflt k l).length:=(by have:=M.1;omega);have E:tk.ty.rv ρ1.H N.key k:=by
  obtain⟨e2,z,h2,_⟩:=M.2.2.2.2 j _ (jG8 u);rw[L] at z;simp at z;subst z;have h3:=j3 (wh te.ty.dflt (zU tk.ty k l));have h4:((jaj tk.ty te.ty.dflt k l)[j]).1=k:=by
   have:(jaj tk.ty te.ty.dflt k l)[j]? =some (k,wh te.ty.dflt (zU tk.ty k l)):=by
    conv=>lhs;rw[show jaj tk.ty te.ty.dflt k l=_ from h3]
    rw[List.getElem?_set,if_pos rfl,if_pos u]
   rw[jG8 u] at this;simp at this;rw[this]
  rw[h4] at h2;exact h2
 have F:(execOp ev o).run P w= .ok .skip {w with heap:=w.heap.setIfInBounds b (.map (es.modify j fun e=>{e with val:=ev x}) clock)}:=by
  simp[execOp,X,Instr.entryStore,f2,hg,Z,Go.asInt,asIntOf,t,I]
 refine jgk F ⟨ρ1,?_,g,wn _,trivial⟩;have:=jb8 n hp k3 (.map false tk.ty te.ty (jex tk.ty k v l)) (w':={w with heap:=w.heap.setIfInBounds b (.map (es.modify j fun e=>{e with val:=ev x}) clock)}) ⟨rfl,rfl,rfl,jG5 _,by simp,fun j hj=>(by show(w.heap.setIfInBounds b _)[j]? =_;rw[jHl,if_neg (fun h=>hj h.symm)])⟩ (by
  simp only[zq,fzM];refine⟨b,Cp,es.modify j fun e=>{e with val:=ev x},clock,rfl,by simp[A],?_,k3⟩;rw[j3];exact jDa M L rfl E hvr)
 rw[jHx,jHz];show Sat P B ρ1 ({(σ.frz fz) with ob:=(ob,_)::(σ.frz fz).ob}:St).obj _;rw[ww];exact this
theorem jwW {U dst:Nat} {x:Operand} (V:C.ok P) (s:o.op= .range U x) (h:jC C σ dst (.range U x)=some out) (W:Sat P B ρ σ.obj w)
 (Z:σ.obj dst=none) (I:kN σ.obj dst) (k:SV.den P ρ (jQ σ x) (ev x)):jI P o ev w (jF P B ρ σ out):=by
 simp only[jC] at h
 split at h
 case h_2=>cases h
 rename_i ti tk te A;obtain⟨_,_,_,j,_,_⟩:=jal V A
 split at h
 case h_2=>cases h
 rename_i l fz hl;simp at h;subst h;obtain⟨ρ1,d,g,X,q⟩:=jX (σ:=σ) fz W;have a:=jT d (w8 σ fz) hl (fun o D=>D) (SV.den_mono g _ _ (fun r a=>by simp at a) k);obtain⟨p,v,R,S⟩:=zp (t:= .map tk.ty te.ty) rfl a;simp at v;have z:(σ.frz fz).obj dst=none:=(by rw[kL,Z];simp);have q:kN (σ.frz fz).obj dst:=by
  intro r T f cs a;rw[kL] at a
  split at a
  .cases k:σ.obj r with
   |none=>rw[k] at a;cases a
   |some y=>
    rw[k] at a;cases y<;>simp[kB] at a
    obtain⟨rfl,_,rfl⟩:=a;exact I r _ _ _ k
  .exact I r T f cs a
 have n:∀(y:Obj),jdR ρ1.H tk.ty te.ty l none y->(execOp ev o).run P w= .ok (.value (.pointer (some ⟨w.heap.size,0,none⟩))) (w.alloc y)->jI P o ev w (jF P B ρ σ ⟨[],[],.ip dst,fz,[(dst,some (.iter tk.ty te.ty l none))],[dst]⟩):=by
  intro y hy u;obtain⟨m,N,O,Q,_,_⟩:=jn5 d z q y 0 0 (.iter tk.ty te.ty l none) (fun m G _ _=>by
   simp only[zq];refine⟨w.heap.size,0,y,rfl,qt w _,by rw[G];exact hy,?_⟩;rw[G];cases Y:ρ1.H w.heap.size with
   |none=>rfl
   |some c=>have:=d.good.lt Y;omega)
  refine zo u ⟨m,?_,(g.weaken (fun o D=>by simp at D)).trans O,?_,trivial⟩
  .rw[jHx,jHz];show Sat P B m ({(σ.frz fz) with ob:=(dst,_)::(σ.frz fz).ob}:St).obj _;rw[ww];exact N
  .simp only[SV.den];intro p E;rw[Q] at E;simp at E;subst E;exact⟨_,_,rfl,rfl⟩
 cases p with
 |none=>
  have:=R rfl;subst this;refine n (.mapIter none 0 #[] 0) ⟨rfl,rfl⟩ ?_;simp[execOp,s,Instr.range,run_underlying j,v]
 |some b=>
  obtain⟨es,clock,F,J,e3,K,L,M⟩:=S b rfl;have hw:=d.good.1 b _ F;have hg:(getObj b).run P w= .ok (.map es clock) w:=by
   have:w.heap[b]? =some (.map es clock):=hw;simp[getObj,Sem.run,this]
  refine n (.mapIter (some b) clock #[] clock) ⟨es,clock,F,rfl,K,L,.inl rfl,⟨es.toList,?_,by simpa using J,fun i x k=> ?_⟩,trivial⟩ ?_
  .rw[List.filter_eq_self.2];intro e _;simp
  .obtain⟨e,q1,q2,q3⟩:=M i x k;exact⟨e,by simpa using q1,q2,q3⟩
  .simp[execOp,s,Instr.range,run_underlying j,v,hg]
theorem jw0 {dst:Nat} {it:Operand} (z:o.op= .entry it) (h:jC C σ dst (.entry it)=some out) (n:Sat P B ρ σ.obj w)
 (d:SV.den P ρ (jQ σ it) (ev it)):jI P o ev w (jF P B ρ σ out):=by
 simp only[jC] at h
 split at h
 case h_2=>cases h
 rename_i ob u;rw[u] at d
 split at h
 case h_2=>cases h
 rename_i kt vt left x Q;simp only[Out.pure,Option.some.injEq] at h;subst h;obtain⟨p,R,F⟩:=n.obs ob _ Q;simp only[zq] at F;obtain⟨b,T,y,rfl,S,k,Z⟩:=F;simp only[SV.den] at d;obtain⟨V,C',A,H⟩:=d _ R;simp at A;obtain⟨rfl,rfl⟩:=A;unfold jdR at k
 split at k
 .exact absurd k.2 (by simp)
 .rename_i m f l a;obtain⟨es,clock,L,W,X,M,Y,_,N,e,D,I,J,K⟩:=k;have O:w.heap[m]? =some (.map es clock):=n.good.1 m _ L;have r:(getObj b).run P w= .ok (.mapIter (some m) f l a) w:=(by simp[getObj,Sem.run,S]);have s:(getObj m).run P w= .ok (.map es clock) w:=(by simp[getObj,Sem.run,O]);have c:es.find? (·.born==e.born)=some e:=by
   cases q:es.find? (·.born==e.born) with
   |none=>
    have:=Array.find?_eq_none.1 q e (by simpa using D);simp at this
   |some G=>
    have E:=Array.find?_some q;simp at E;have g:=Array.mem_of_find?_eq_some q;obtain⟨i,hi⟩:=Array.getElem?_of_mem g;obtain⟨j,t⟩:=Array.getElem?_of_mem (show e∈es by simpa using D);have:=M i j G e hi t E;subst this;rw[hi] at t;exact t
  refine jk n (v:= .tuple #[e.key,e.val]) ?_ ?_ trivial
  .simp[execOp,z,Instr.entry,H,r,s,I,N,c]
  .simp only[SV.den,SV.denL];exact⟨_,rfl,_,_,rfl,J,_,_,rfl,K,rfl⟩
 .exact k.elim
theorem jlX {U dst:Nat} {l c:Operand} (hC:C.ok P) (S:o.op= .makeSlice U l c) (h:jBO C σ dst U l c=some out) (hS:Sat P B ρ σ.obj w) (hd:σ.obj dst=none) (hn:kN σ.obj dst)
 (t:∀x,SV.den P ρ (jQ σ x) (ev x)) (I:k8 out.vc):jI P o ev w (jF P B ρ σ out):=by
 unfold jBO at h
 split at h
 case h_2=>cases h
 rename_i ti te n m F hl L;simp at h;subst h;simp only[k8] at I;obtain⟨h0,R,e,_⟩:=I;subst R;obtain⟨_,W,_,a,G,hka,y,hpos⟩:=zI hC F;obtain⟨i,z,Z,g1,g2,g3,g4,g5⟩:=a.info;rw[W] at Z;have O:=wt hl (t l);have M:=wt L (t c);obtain⟨k,Q⟩:∃k:Nat,n=(k:Int):=Int.eq_ofNat_of_zero_le h0;subst Q;rw[jG7] at e⊢;have v:=jeh F;have f:0<te.bytes:=(a.pos v).2;have hk2:k<=140737488355328:=by
  have:k*1<=k*te.bytes:=jIk _ f;omega
 have J:z.cells.size=te.ty.size:=(by rw[<-jHA,g4,a.zlen,y]);have V:i.size=te.ty.size:=(by rw[g1,y]);have K:(i.bytes:Int)*(k:Int)<=281474976710656:=by
  have:i.bytes*k<=281474976710656:=(by rw[g2,Nat.mul_comm];omega);have h2:((i.bytes*k:Nat):Int)<=281474976710656:=by omega
  rwa [Int.natCast_mul] at h2
 have d:=run_make (P:=P) w U ti.elem i z G Z g3 .i64 .i64 (k:Int) (k:Int) (by omega) (jH9 _) K (by omega);rw[jG7] at d;have E:(execOp ev o).run P w= .ok (.value (.slice (some ⟨w.heap.size,0,none⟩) k k)) (w.alloc (.cells (madeCells z.cells (k*i.size)) ti.elem)):=by
  simp only[execOp,S,O,M,Sem.run_bind,d,Result.andThen_ok,Sem.run_pure]
 have A:(madeCells z.cells (k*i.size)).size=k*te.ty.size:=(by rw[size_madeCells,V]);obtain⟨r,q1,q2,q3,q4,q5⟩:=jjP hS (own:=none) hd hn (World.grownBy_alloc w (.cells (madeCells z.cells (k*i.size)) ti.elem) none) (jG5 _) (by simp) (some (w.heap.size,k)) (fun b C s=>by simp at s;exact .inr s.1.symm) k
  (.row ti.elem te.ty false .no (List.replicate k te.ty.dflt)) (fun r hH g _=>by
   refine⟨by rw[g];simp,by simp;omega,fun _=> ?_,_,qt w _,A,by simp,by simp only[maxLen];omega,fun j x X=> ?_,?_⟩
   .rename_i hh;cases hh
   .rw[hH];have hi:j<k:=(by have:=(jG6.1 X).1;simpa using this);have Y:x=te.ty.dflt:=by
     rw[List.getElem?_replicate,if_pos hi] at X;simpa using X.symm
    subst Y;refine te.ty.rd_congr _ _ _ (fun q hq=> ?_) (a.zd v ρ.H);have N:j*te.ty.size+q<k*te.ty.size:=by
     have:(j+1)*te.ty.size<=k*te.ty.size:=jHm _ hi;rw[jHM] at this;omega
    have u:q<z.cells.size:=(by rw[J];exact hq);have D:(j*te.ty.size+q)%z.cells.size=q:=(by rw[J,Nat.mul_comm,Nat.mul_add_mod,Nat.mod_eq_of_lt hq]);rw[jHv (by rw[A];exact N)];simp only[madeCells,Array.getElem_map,Array.getElem_range,D];rw[getElem!_pos z.cells q u,<-g4,jHN,jHv u]
   .rw[hH];simp only[fzH];cases L:ρ.H w.heap.size with
    |none=>rfl
    |some c=>have:=hS.good.lt L;omega)
 refine zo E ⟨r,?_,q2,?_,trivial⟩
 .show Sat P B r ({σ with ob:=[(dst,_)]++(qG σ []++σ.ob)}:St).obj _;simp only[qG,jHz];rw[gL];exact q1
 .simp only[SV.den];intro p T;rw[q3] at T;simp at T;subst T;exact⟨by rw[q4],by rw[q4];exact jG5 _⟩
theorem jxY {t:Ty} {v:Value} {l:List t.Data} {k:Nat} (h:Src ρ.H w t v l) (hk:k<=l.length) {size:Nat} (n:size=t.size):
 ∃cs:List Value,(Builtin.firstCells size k v).run P w= .ok cs.toArray w/\cs.length=k*t.size/\(∀u∈cs,u.oneCell'=true)/\∀(i:Nat) x,i<k->l[i]? =some x->t.rd ρ.H (fun j=>cs[i*t.size+j]?) x:=by
 subst n;obtain⟨_,⟨rfl,rfl⟩|⟨ad,c,us,rfl,d,e,f,g⟩⟩:=h
 .have b:k=0:=(by simpa using hk);subst b;exact⟨[],by simp[run_firstCells_none],by simp,by simp,fun i x hi=>by omega⟩
 .have m:k*t.size<=us.length:=(by rw[d];exact jHm _ hk);refine⟨us.take (k*t.size),run_firstCells_some w t.size k ad l.length c _ (by rw[jHC];omega) (fun j v a=>e j v ?_),by rw[jHC];omega,fun u o=>f u (jIr o),fun i x hi p=> ?_⟩
  .rw[jIg] at a
   split at a
   .exact a
   .cases a
  .refine t.rd_congr _ _ _ (fun j a=> ?_) (g i x p);have:(i+1)*t.size<=k*t.size:=jHm _ hi;rw[jHM] at this;rw[jHr (by omega)]
theorem jtN {α:Type} (l:List α) (lo n:Nat) (a:List α) (h:lo+n<=l.length):(jxy l lo n a).length=l.length:=by
 simp only[jxy,jHo,jHC,jIo];omega
theorem jAf {c:Call} (hC:C.ok P) (Y:o.op= .call c) (hc:c.callee= .builtin .copy) (h:jEE C σ c.args.toList c.argTypes.toList=some out) (hS:Sat P B ρ σ.obj w)
 (hev:∀x,SV.den P ρ (jQ σ x) (ev x)) (hvc:k8 out.vc):jI P o ev w (jF P B ρ σ out):=by
 unfold jEE at h
 split at h
 case h_2=>cases h
 rename_i x y U U' i z;have i:c.args= #[x,y]:=(by rw[<-jHp];exact i);have z:c.argTypes= #[U,U']:=by rw[<-jHp];exact z
 split at h
 case h_2=>cases h
 rename_i ti te Q hsl;have Q:=jG0 Q;subst Q
 split at h
 case h_2=>cases h
 rename_i f ob lo n hel s het
 split at h
 case h_2=>cases h
 rename_i E t nl l X
 split at h
 case h_2=>cases h
 rename_i l' hl';simp only[Option.some.injEq] at h;subst h;obtain⟨e,rfl⟩:=jm hl';have e':t=te.ty:=(by injection e);subst e';have R:qw e l=l:=rfl;rw[R] at hvc⊢;have hlen:lo+n<=l.length:=hvc.1;obtain⟨p,hp,k1,k0,k2⟩:=hS.obs ob _ X;have g:=hev x;have I:=jgi hS hel (hev y);obtain⟨_,hte,_,hokE,J,hka,hks,hpos⟩:=zI hC hsl;obtain⟨_,_,_,_,_,N,_⟩:=qo hokE;rw[hte] at N;have hn2:=I.1;have K:match p with
  |none=>ev x= .slice none 0 0/\n=0
  |some (b,Cp)=>∃a M,ev x= .slice (some a) n M/\(0<n->a=⟨b,lo*te.ty.size,none⟩):=by
  unfold jCW at s
  split at s
  .rename_i o' u hx;rw[hx] at g
   split at s
   .rename_i E' t' fz' nl' l2 W;simp at s;obtain⟨rfl,rfl,rfl⟩:=s;rw[X] at W;simp at W;obtain⟨_,rfl,_,_,V⟩:=W;have V:=eq_of_heq V;subst V;simp only[SV.den] at g;have g:=g p hp;cases p with
    |none=>
     obtain⟨A,D⟩:=g;exact⟨A,by rw[<-k1];exact D⟩
    |some q=>
     obtain⟨b,Cp⟩:=q;obtain⟨A,D⟩:=g;rw[k1] at A;exact⟨_,_,A,fun _=>by simp⟩
   .cases s
  .rename_i o' u lo2 n2 hx;simp at s;obtain⟨rfl,rfl,rfl⟩:=s;rw[hx] at g het;have hu:u=te.ty:=ya het;subst hu;simp only[SV.den] at g;have g:=g p hp;cases p with
   |none=>exact g
   |some q=>
    obtain⟨b,Cp⟩:=q;obtain⟨a,M,A,D,e3,e4,e5⟩:=g;exact⟨a,M,A,fun h0=>e5 (.inr (by omega))⟩
  .cases s
 have hkk:(f.take n).length<=f.length:=(by rw[jHC];omega);obtain⟨cs,c1,c2,c3,c4⟩:=jxY (P:=P) (k:=(f.take n).length) (size:=te.size) I hkk hks.symm;have F:Nat.min f.length n=(f.take n).length:=by
  rw[jHC];exact Nat.min_comm _ _
 have r:∀w,(Builtin.lenOf (ev y)).run P w= .ok f.length w:=by
  intro w;obtain⟨_,⟨A,D⟩|⟨ad,c,us,A,_⟩⟩:=I
  .rw[A,D];simp[Builtin.lenOf]
  .rw[A];simp[Builtin.lenOf]
 have H:∀(w':World) (row:List te.ty.Data),row=l->({σ with ob:=(ob,some (.row E te.ty false nl row))::(qG σ []++σ.ob)}:St).obj=σ.obj:=by
  intro w' row hr;subst hr;simp only[qG,jHz];rw[ww];exact funext fun k=>by
   unfold jgC
   split
   .rename_i hk;rw[hk];exact X.symm
   .rfl
 cases p with
 |none=>
  obtain⟨A,D⟩:=K;subst D;have S:cs=[]:=jHL (by rw[c2];simp);subst S;refine zo (v:= .int .i64 ((f.take 0).length:Int)) (w':=w) ?_ ⟨ρ,?_,Env.le.refl _ _,?_,trivial⟩
  .simp only[execOp,Y,Sem.run_bind,resolve,hc,i,z,Sem.run_pure,Result.andThen_ok,invoke,builtin];have hm0:Nat.min f.length 0=0:=Nat.min_zero _;simp only[List.take_zero,jHJ] at c1;simp[Builtin.copy_,A,run_underlying J,r,N,hm0,c1,goInt]
  .show Sat P B ρ ({σ with ob:=(ob,_)::(qG σ []++σ.ob)}:St).obj _;rw[H w _ (by simp[jxy])];exact hS
  .simp only[SV.den];exact w6 _
 |some q=>
  obtain⟨b,Cp⟩:=q;obtain⟨a,M,A,D⟩:=K;obtain⟨k3,vs,hw,hvs,hlC,hCm,hr,hH⟩:=k2;simp only[fzH] at hH;obtain⟨m,Z⟩:∃m,m=(f.take n).length:=⟨_,rfl⟩;have hmn:m<=n:=(by rw[Z,jHC];omega);rw[<-Z] at c1 c2 c4 F;rcases jIf m with h0|h0
  .have S:cs=[]:=jHL (by rw[c2,h0];simp);subst S;refine zo (v:= .int .i64 ((f.take n).length:Int)) (w':=w) ?_ ⟨ρ,?_,Env.le.refl _ _,?_,trivial⟩
   .simp only[execOp,Y,Sem.run_bind,resolve,hc,i,z,Sem.run_pure,Result.andThen_ok,invoke,builtin];simp[Builtin.copy_,A,run_underlying J,r,N,F,c1,goInt,storeCells,<-Z]
   .show Sat P B ρ ({σ with ob:=(ob,_)::(qG σ []++σ.ob)}:St).obj _;rw[H w _ (by
     have:f.take n=[]:=jHL (by omega);simp[jxy,this])]
    exact hS
   .simp only[SV.den];exact w6 _
  .have D:=D (by omega);subst D;have hmul:(lo+m)*te.ty.size<=Cp*te.ty.size:=jHm _ (by omega);rw[jHP] at hmul;have O:=run_storeCells_at P b (lo*te.ty.size) E cs 0 vs w hw (by rw[c2,hvs];omega) c3;simp only[jIh,c2] at O;obtain⟨f1,f2⟩:=vf w hw (vs.toList.take (lo*te.ty.size)++cs++vs.toList.drop (lo*te.ty.size+m*te.ty.size)).toArray;refine zo (v:= .int .i64 ((f.take n).length:Int)) (w':=w.setRow b (vs.toList.take (lo*te.ty.size)++cs++vs.toList.drop (lo*te.ty.size+m*te.ty.size)).toArray) ?_ ⟨ρ,?_,Env.le.refl _ _,?_,trivial⟩
   .simp only[execOp,Y,Sem.run_bind,resolve,hc,i,z,Sem.run_pure,Result.andThen_ok,invoke,builtin];simp[Builtin.copy_,A,run_underlying J,r,N,F,c1,goInt,O,<-Z]
   .show Sat P B ρ ({σ with ob:=(ob,_)::(qG σ []++σ.ob)}:St).obj _;simp only[qG,jHz];rw[ww];refine jb8 hS hp hH _ f1 ?_;have G:(jxy l lo n f).length=l.length:=jtN l lo n f hlen;have T:(vs.toList.take (lo*te.ty.size)).length=lo*te.ty.size:=(by simp;omega);refine⟨by rw[G];exact k1,by rw[G];exact k0,fun L hn=> ?_,_,f2,?_,by rw[G];exact hlC,hCm,?_,by simpa[fzH] using hH⟩
    .rw[hn] at G;simp at G;omega
    .simp only[List.size_toArray,jHo,T,c2,jIo,jHA];omega
    .intro k y L;have htl:(l.take lo).length=lo:=(by simp;omega);simp only[jIe,jHn];unfold jxy at L;rw[<-Z,jHn] at L;by_cases hk:k<lo
     .rw[jHf (by omega),jHr hk] at L;refine te.ty.rd_congr _ _ _ (fun j hj=> ?_) (hr k y L);have:(k+1)*te.ty.size<=lo*te.ty.size:=jHm _ hk;rw[jHM] at this;rw[jHf (by omega),jHr (by omega)];simp
     .obtain⟨d,rfl⟩:∃d,k=lo+d:=⟨k-lo,by omega⟩;rw[jHe (by omega),htl,Nat.add_sub_cancel_left] at L;by_cases hd:d<m
      .rw[jHf (by omega),jHr (by omega)] at L;refine te.ty.rd_congr _ _ _ (fun j hj=> ?_) (c4 d y hd L);have h1:(d+1)*te.ty.size<=m*te.ty.size:=jHm _ hd;rw[jHM] at h1;rw[jHP,jHe (by omega),T,jHf (by omega)];congr 1;omega
      .rw[jHe (by omega),<-Z,jHI] at L;have hke:lo+m+(d-m)=lo+d:=(by omega);rw[hke] at L;refine te.ty.rd_congr _ _ _ (fun j hj=> ?_) (hr (lo+d) y L);have h1:m*te.ty.size<=d*te.ty.size:=jHm _ (by omega);rw[jHP,jHe (by omega),T,jHe (by omega),c2,jHI,jHN];congr 1;omega
   .simp only[SV.den];exact w6 _
end
end Go.X
namespace Go.X
open Go.RowKit (Below)
section
variable {P:Program} {B:zV} {C:Ctx} {σ:St} {ρ:Env} {w:World} {o:Oper} {ev:Operand->Value} {out:Out}
def jGB (P:Program) (ρ:Env) (fz:List Nat) (b:(ps rs:List Ty)->SV->Option (FnD ps rs×List Nat)):Prop:=
 ∀(ps rs:List Ty) (sv:SV) (d:FnD ps rs) (a:List Nat),b ps rs sv=some (d,a)->(∀o,o∈a->o∈fz)->∀v,SV.den P ρ sv v->FnV P ρ.H ps rs d.pre d.F v
theorem jkL {τ:St} (z:Sat P B ρ τ.obj w) {fz:List Nat} (t:Frz σ τ fz) {n:(ps rs:List Ty)->SV->Option (FnD ps rs×List Nat)} (E:jGB P ρ fz n) {ps rs:List Ty} {sv:SV} {d:FnD ps rs} {g:List Nat} (h:jCe n σ ps rs sv=some (d,g))
 (m:∀o,o∈g->o∈fz) {v:Value} (k:SV.den P ρ sv v):jD0 P ρ.H (.rfn ps rs) v d:=by
 unfold jCe at h
 split at h
 .split at h
  .rename_i e;obtain⟨q,s⟩:=e;subst q s;simp at h;obtain⟨rfl,rfl⟩:=h;simpa[SV.den,jD0] using k
  .cases h
 .rename_i o
  split at h
  .rename_i T f c F
   split at h
   .rename_i x J A;simp at h;obtain⟨rfl,rfl⟩:=h;have l:τ.obj o=some (.box T true [c]):=(by rw[(t o).2 (m o (by simp)),F];rfl);obtain⟨p,D,b,C',vs,rfl,K,i,_,y⟩:=z.obs o _ l;simp only[SV.den] at k;obtain⟨I,G,e,rfl⟩:=k _ D;simp at e;obtain⟨rfl,rfl⟩:=e;simp only[SV.denL] at i;obtain⟨u,r,a,j,rfl⟩:=i;have a:vs= #[u]:=jHp.1 (by simpa using a);subst a;exact⟨b,u,rfl,by simpa[fzH] using y,E _ _ _ _ _ A (fun o C=>m o (jHb _ C)) _ j⟩
   .cases h
  .cases h
 .cases h
theorem jaJ {τ:St} (g:Sat P B ρ τ.obj w) {fz:List Nat} (e:Frz σ τ fz) {p:(ps rs:List Ty)->SV->Option (FnD ps rs×List Nat)} (m:jGB P ρ fz p):
 ∀{ps:List Par} {svs:List SV} {d:PD ps} {a:List Nat},je8 p σ ps svs=some (d,a)->(∀o,o∈a->o∈fz)->∀{vs:List Value},SV.denL P ρ svs vs->pvs P ρ.H ps vs d
 |[],[],d,a,h,_,vs,b=>by simpa[SV.denL,pvs] using b
 |[],_::_,d,a,h,_,vs,b=>by simp[je8] at h
 | .val _::_,[],d,a,h,_,vs,b=>by simp[je8] at h
 | .ref _::_,[],d,a,h,_,vs,b=>by simp[je8] at h
 | .fn _ _::_,[],d,a,h,_,vs,b=>by simp[je8] at h
 | .fn _ _::_,_::_,d,a,h,_,vs,b=>by simp[je8] at h
 | .rfn _ _::_,[],d,a,h,_,vs,b=>by simp[je8] at h
 | .val t::ps,sv::svs,d,a,h,hs,vs,b=>by
  simp only[je8] at h
  split at h
  .rename_i x f l
   split at h
   .rename_i xs n k
    simp at h
    obtain⟨rfl,rfl⟩:=h
    simp only[SV.denL] at b
    obtain⟨v,r,rfl,i,j⟩:=b
    exact⟨jT g e l (fun o c=>hs o (jG2 _ c)) i,jaJ g e m k (fun o c=>hs o (jG1 _ c)) j⟩
   .cases h
  .cases h
 | .ref t::ps,sv::svs,d,a,h,hs,vs,b=>by
  simp only[je8] at h
  split at h
  .rename_i x f l
   split at h
   .rename_i xs n k
    simp at h
    obtain⟨rfl,rfl⟩:=h
    simp only[SV.denL] at b
    obtain⟨v,r,rfl,i,j⟩:=b
    exact⟨jaQ g e l (fun o c=>hs o (jG2 _ c)) i,jaJ g e m k (fun o c=>hs o (jG1 _ c)) j⟩
   .cases h
  .cases h
 | .rfn aZ rs::ps,sv::svs,d,a,h,hs,vs,b=>by
  simp only[je8] at h
  split at h
  .rename_i x f l
   split at h
   .rename_i xs n k
    simp at h
    obtain⟨rfl,rfl⟩:=h
    simp only[SV.denL] at b
    obtain⟨v,r,rfl,i,j⟩:=b
    exact⟨jkL g e m l (fun o c=>hs o (jG2 _ c)) i,jaJ g e m k (fun o c=>hs o (jG1 _ c)) j⟩
   .cases h
  .cases h
theorem jd7 (o:C.ok P) {τ:St} (q:Sat P B ρ τ.obj w) {fz:List Nat} (p:Frz σ τ fz):∀n,jGB P ρ fz (jpf C σ n)
 |0=>fun ps rs sv d j h=>by simp[jpf] at h
 |n+1=>by
  intro ps rs sv d j h D v m
  unfold jpf at h
  split at h
  .rename_i G H pre F
   split at h
   .rename_i e
    obtain⟨g,i⟩:=e
    subst g i
    simp at h
    obtain⟨rfl,rfl⟩:=h
    simpa[SV.den] using m
   .cases h
  .rename_i f caps
   split at h
   .rename_i s l
    split at h
    .rename_i e
     obtain⟨g,i⟩:=e
     subst g
     split at h
     .rename_i rest k hk
      split at h
      .rename_i y r E
       simp at h
       obtain⟨rfl,rfl⟩:=h
       simp only[SV.den] at m
       obtain⟨vs,rfl,z⟩:=m
       have b:=o.fs f s l i
       refine⟨f,vs,rfl,b.enters,fun H' w' vals x u t a c=> ?_⟩
       have A:=jaJ q p (jd7 o q p n) E D z
       have:=b.calls H' w' (vals++vs.toList) (k x y) t (jdC hk a (pvs.mono u A)) c
       rwa [show(vals++vs.toList).toArray=vals.toArray++vs from by apply jHp.1;simp] at this
      .cases h
     .cases h
    .cases h
   .cases h
  .cases h
theorem jmb (b:C.ok P) {τ:St} (e:Sat P B ρ τ.obj w) {fz:List Nat} (c:Frz σ τ fz) {ps rs:List Ty} {sv:SV} {d:FnD ps rs} {a:List Nat} (h:jDD C σ ps rs sv=some (d,a)) (f:∀o,o∈a->o∈fz)
 {v:Value} (g:SV.den P ρ sv v):FnV P ρ.H ps rs d.pre d.F v:=jd7 b e c 4 ps rs sv d a h f v g
theorem wN (m:C.ok P) {τ:St} (g:Sat P B ρ τ.obj w) {fz:List Nat} (e:Frz σ τ fz):
 ∀{ps:List Par} {svs:List SV} {d:PD ps} {a:List Nat},wd C σ ps svs=some (d,a)->(∀o,o∈a->o∈fz)->∀{vs:List Value},SV.denL P ρ svs vs->pvs P ρ.H ps vs d
 |[],[],d,a,h,_,vs,b=>by simpa[SV.denL,pvs] using b
 |[],_::_,d,a,h,_,vs,b=>by simp[wd] at h
 | .val _::_,[],d,a,h,_,vs,b=>by simp[wd] at h
 | .ref _::_,[],d,a,h,_,vs,b=>by simp[wd] at h
 | .fn _ _::_,[],d,a,h,_,vs,b=>by simp[wd] at h
 | .rfn _ _::_,[],d,a,h,_,vs,b=>by simp[wd] at h
 | .val t::ps,sv::svs,d,a,h,hs,vs,b=>by
  simp only[wd] at h
  split at h
  .rename_i x f l
   split at h
   .rename_i xs n k
    simp at h
    obtain⟨rfl,rfl⟩:=h
    simp only[SV.denL] at b
    obtain⟨v,r,rfl,i,j⟩:=b
    exact⟨jT g e l (fun o c=>hs o (jG2 _ c)) i,wN m g e k (fun o c=>hs o (jG1 _ c)) j⟩
   .cases h
  .cases h
 | .ref t::ps,sv::svs,d,a,h,hs,vs,b=>by
  simp only[wd] at h
  split at h
  .rename_i x f l
   split at h
   .rename_i xs n k
    simp at h
    obtain⟨rfl,rfl⟩:=h
    simp only[SV.denL] at b
    obtain⟨v,r,rfl,i,j⟩:=b
    exact⟨jaQ g e l (fun o c=>hs o (jG2 _ c)) i,wN m g e k (fun o c=>hs o (jG1 _ c)) j⟩
   .cases h
  .cases h
 | .fn aZ rs::ps,sv::svs,d,a,h,hs,vs,b=>by
  simp only[wd] at h
  split at h
  .rename_i x f l
   split at h
   .rename_i xs n k
    simp at h
    obtain⟨rfl,rfl⟩:=h
    simp only[SV.denL] at b
    obtain⟨v,r,rfl,i,j⟩:=b
    exact⟨jmb m g e l (fun o c=>hs o (jG2 _ c)) i,wN m g e k (fun o c=>hs o (jG1 _ c)) j⟩
   .cases h
  .cases h
 | .rfn aZ rs::ps,sv::svs,d,a,h,hs,vs,b=>by
  simp only[wd] at h
  split at h
  .rename_i x f l
   split at h
   .rename_i xs n k
    simp at h
    obtain⟨rfl,rfl⟩:=h
    simp only[SV.denL] at b
    obtain⟨v,r,rfl,i,j⟩:=b
    exact⟨jkL g e (jd7 m g e 4) l (fun o c=>hs o (jG2 _ c)) i,wN m g e k (fun o c=>hs o (jG1 _ c)) j⟩
   .cases h
  .cases h
theorem jnE {obj:Nat->Option Ob} (a:Sat P B ρ obj w) (g:∀o b l,ρ.blk o=some (some (b,l))->b<w.heap.size) {H':Imm} {w':World} (c:jDs ρ.H w H' w'):
 Sat P B {ρ with H:=H'} obj w'/\ρ.le {ρ with H:=H'} []:=by
 have e:ρ.le {ρ with H:=H'} []:=⟨c.mono a.good,fun _ _ _ h=>h,fun _ _=>rfl⟩;refine⟨⟨c.below.os.trans a.os,c.below.tape.trans a.tape,c.below.output.trans a.output,jHi a.drawn c.drawn,jHi a.size c.below.size,c.good,?_,?_,?_,a.dead,a.inj,a.own⟩,e⟩
 .intro b f d;have:=a.size;show H' b=_;rw[c.old b (by omega)];exact a.oldH b f d
 .intro b f d;have:=a.size;rw[c.below.block b (by omega)];exact a.old b f d
 .intro o x n;obtain⟨p,k,m⟩:=a.obs o x n;refine⟨p,k,jU e (by simp) (fun _ _ _ _ o' i=>by simp at i) (fun b C' j=> ?_) m⟩;subst j;have:=g o b C' k;exact⟨c.old b this,c.below.block b this⟩
theorem jyM {H:Imm} {t:Ty} (c:t.agg=false) {v:Value} {d:t.Data} (h:t.rv H v d):v.oneCell'=true:=by
 have b:0<t.size:=by cases t<;>simp_all [Ty.agg,Ty.size]
 obtain⟨u,e,a⟩:=yn t _ d (zp c h) 0 b;simp at e;subst e;exact a
theorem jyj {obj:Nat->Option Ob} (f:Sat P B ρ obj w) (y:∀o b q,ρ.blk o=some (some (b,q))->b<w.heap.size) {o b q T:Nat} {cs:List SV} (K:obj o=some (.box T false cs)) (r:ρ.blk o=some (some (b,q)))
 {H':Imm} {w':World} {u:Value} {sv:SV} (g:jE0 [b] ρ.H w H' w') (F:H' b=none) (J:w'.heap[b]? =some (.cells #[u] T (0,0))) (G:SV.den P {ρ with H:=H'} sv u) (E:u.oneCell'=true):
 Sat P B {ρ with H:=H'} (jgC obj o (some (.box T false [sv]))) w'/\ρ.le {ρ with H:=H'} []:=by
 have v:ρ.H b=none:=by
  obtain⟨p,l,M,L,vs,e,_,_,_,k⟩:=f.obs o _ K;rw[r] at l;simp at l;subst l;simp at e;obtain⟨rfl,rfl⟩:=e;exact k
 have n:ρ.le {ρ with H:=H'} []:=⟨fun a c s=>by
  have t:=f.good.lt s;show H' a=_;rw[g.old a t (by intro i;simp at i;subst i;rw[v] at s;cases s)];exact s,fun _ _ _ h=>h,fun _ _=>rfl⟩
 have out:∀a,a<B.w.heap.size->a∉B.bor->a∉[b]:=by
  intro a m j i;simp at i;subst i;rcases f.own o _ _ r with h|h
  .omega
  .exact j h
 refine⟨⟨g.os.trans f.os,g.tape.trans f.tape,g.output.trans f.output,jHi f.drawn g.drawn,jHi f.size g.size,g.good,?_,?_,?_,?_,f.inj,f.own⟩,n⟩
 .intro a m j;have:=f.size;show H' a=_;rw[g.old a (by omega) (out a m j)];exact f.oldH a m j
 .intro a m j;have:=f.size;rw[g.block a (by omega) (out a m j)];exact f.old a m j
 .intro o' x d;unfold jgC at d
  split at d
  .rename_i e;subst e;simp at d;subst d;refine⟨_,r,b,q,#[u],rfl,J,?_,by simpa using E,F⟩;simp only[SV.denL];exact⟨u,[],rfl,G,rfl⟩
  .rename_i z;obtain⟨p,l,I⟩:=f.obs o' x d;refine⟨p,l,jU n (by simp) (fun _ _ _ _ o2 A=>by simp at A) (fun a C' C=> ?_) I⟩;subst C;have t:=y o' a C' l;have D:a∉[b]:=by
    intro i;simp at i;subst i;exact z (f.inj o' o _ _ _ l r)
   exact⟨g.old a t D,g.block a t D⟩
 .intro o' d;unfold jgC at d
  split at d
  .cases d
  .exact f.dead o' d
theorem jaW {H:Imm} (a:ρ.H=H):∀(rs:List Ty) (vs:List Value) (d:(Ty.st rs).Data),rvs H rs vs d->SV.denL P ρ (results rs d) vs
 |[],vs,d,h=>by simpa[results,SV.denL,rvs] using h
 |t::ts,[],d,h=>h.elim
 |t::ts,v::vs,d,h=>by
  simp only[results,SV.denL]
  exact⟨v,vs,rfl,by simp only[SV.den];rw[a];exact h.1,jaW a ts vs d.2 h.2⟩
theorem jjI {H:Imm} (a:ρ.H=H):∀{rs:List Ty} {v:Value} {d:(Ty.st rs).Data},jE4 H rs v d->SV.den P ρ (jpM rs d) v
 |[t],v,d,h=>by
  simp only[jpM,results,SV.den]
  rw[a];exact h
 |[],v,d,h=>by
  obtain⟨vs,rfl,h⟩:=h
  simp only[jpM,results,SV.den]
  exact⟨vs,rfl,jaW a [] _ d h⟩
 |t::u::ts,v,d,h=>by
  obtain⟨vs,rfl,h⟩:=h
  have:=jaW (P:=P) a (t::u::ts) _ d h
  simp only[jpM,results,SV.den] at this⊢
  exact⟨vs,rfl,this⟩
theorem jyk {obj:Nat->Option Ob} (a:Sat P B ρ obj w) {w':World} (d:Below w.heap.size w w') (h:w.drawn<=w'.drawn):Sat P B ρ obj w':=by
 have i:∀o x,obj o=some x->∀b m,ρ.blk o=some (some (b,m))->b<w.heap.size:=by
  intro o x g b m f;obtain⟨p,e,l⟩:=a.obs o x g;rw[f] at e;simp at e;subst e;exact jiL l
 refine⟨d.os.trans a.os,d.tape.trans a.tape,d.output.trans a.output,jHi a.drawn h,jHi a.size d.size,?_,a.oldH,?_,?_,a.dead,a.inj,a.own⟩
 .refine⟨fun b c n=> ?_,a.good.2⟩;rw[d.block b (a.good.lt n)];exact a.good.1 b c n
 .intro b q r;have:=a.size;rw[d.block b (by omega)];exact a.old b q r
 .intro o x g;obtain⟨p,f,l⟩:=a.obs o x g;refine⟨p,f,jU (Env.le.refl ρ []) (by simp) (fun _ _ _ _ o' j=>by simp at j) (fun b C' k=>⟨rfl,?_⟩) l⟩;subst k;exact d.block b (i o x g b C' f)
theorem jos {H H':Imm}:∀(t:Ty) (f:Nat->Option Value) (d:t.Data),jqJ t=true->t.rd H f d->t.rd H' f d
 | .int,_,_,_,h=>h
 | .bool,_,_,_,h=>h
 | .uint _,_,_,_,h=>h
 | .unit,_,_,_,_=>trivial
 | .slice _,_,_,c,_=>by cases c
 | .map _ _,_,_,c,_=>by cases c
 | .ptr _,_,_,c,_=>by cases c
 | .pair a b,f,d,c,h=>by
  simp only[jqJ] at c
  split at c
  .rename_i e;exact⟨jos a _ _ e h.1,jos b _ _ c h.2⟩
  .cases c
theorem ju0 {H H':Imm}:∀(rs:List Ty) (vs:List Value) (d:(Ty.st rs).Data),jwL rs=true->rvs H rs vs d->rvs H' rs vs d
 |[],vs,d,_,h=>h
 |t::ts,[],d,_,h=>h.elim
 |t::ts,v::vs,d,hf,h=>by
  simp only[jwL] at hf
  split at hf
  .rename_i a;exact⟨⟨h.1.1,h.1.2.1,jos t _ _ a h.1.2.2⟩,ju0 ts vs d.2 hf h.2⟩
  .cases hf
theorem jzS {H H':Imm}:∀{rs:List Ty} {v:Value} {d:(Ty.st rs).Data},jwL rs=true->jE4 H rs v d->jE4 H' rs v d
 |[t],v,d,a,h=>by
  simp only[jwL] at a
  split at a
  .rename_i b;exact⟨h.1,h.2.1,jos t _ _ b h.2.2⟩
  .cases a
 |[],v,d,a,h=>h
 |t::u::ts,v,d,a,h=>by
  obtain⟨vs,e,h⟩:=h
  exact⟨vs,e,ju0 (t::u::ts) _ d a h⟩
theorem jk8 (l:Sat P B ρ σ.obj w) (fz:List Nat) {rs:List Ty} {r:(Ty.st rs).Data} {vc:List Prop} {k:FuncId} {args:Array Value}
 (h:∀d,Sat P B d (σ.frz fz).obj w->ρ.le d []->Calls P k args w (jDr d.H w rs r)):
 Calls P k args w (fun e w'=>∃v,e= .returned v/\jF P B ρ σ ⟨vc,[],jpM rs r,jGf rs fz,[],[]⟩ v w'):=by
 unfold jGf;obtain⟨ρ1,c,a,_,_⟩:=jX fz l;refine(h ρ1 c a).mono fun e w' p=> ?_
 obtain⟨v,H',rfl,g,m⟩:=p
 split
 .rename_i j;refine⟨v,rfl,ρ,?_,Env.le.refl _ _,jjI rfl (jzS j m),trivial⟩;exact jyk l g.below g.drawn
 obtain⟨i,f⟩:=jnE c (fun o b q n=>(vV (σ:=σ.frz fz) c n).1) g;refine⟨v,rfl,_,?_,a.trans f,jjI rfl m,trivial⟩;show Sat P B _ (σ.frz fz).obj w';exact i
theorem jAg {dst:Nat} {c:Call} {f:Operand} (hC:C.ok P) (hop:o.op= .call c) (hc:c.callee= .value f) (h:jmW C σ dst (jQ σ f) (c.args.toList.map (jQ σ))=some out) (hS:Sat P B ρ σ.obj w)
 (Q:∀x,SV.den P ρ (jQ σ x) (ev x)) (A:k8 out.vc) (hd:σ.obj dst=none) (hn:kN σ.obj dst):jI P o ev w (jF P B ρ σ out):=by
 have i:=y6 (P:=P) (ρ:=ρ) (σ:=σ) Q c.args.toList;have g:=Q f;have l:∀(k:Nat) (caps:Array Value),ev f= .func (.func k) #[] caps->enters P k->(execOp ev o).run P w= .ok (.enter k (c.args.map ev++caps)) w:=by
  intro k caps e j;simp only[execOp,hop,Sem.run_bind,resolve,hc,Deferred.ofValue,e,Sem.run_pure,Result.andThen_ok,invoke];rw[<-j (c.args.map ev++caps) w];simp
 unfold jmW at h
 split at h
 .rename_i k caps R;rw[R] at g;simp only[SV.den] at g;obtain⟨vs,D,M⟩:=g;have E:=wM _ _ _ _ i M
  split at h
  .rename_i s hs
   split at h
   .rename_i d fz Z
    split at h
    .rename_i W;simp at h;subst h;have S:=hC.fs k s hs W;unfold jI;rw[l k vs D S.enters];simp only;refine jk8 hS fz fun y q z=> ?_
     have a:SV.denL P y (c.args.toList.map (jQ σ)++caps) (c.args.toList.map ev++vs.toList):=SV.denL_mono z _ _ (fun o n=>by simp at n) E;have:=S.calls y.H w _ d q.good (wN hC q (w8 σ fz) Z (fun o n=>n) a) A
     rwa [show(c.args.toList.map ev++vs.toList).toArray=c.args.map ev++vs from by apply jHp.1;simp] at this
    .cases h
   .cases h
  .rename_i hs;obtain⟨j,L⟩:=hC.eff k dst σ _ out h;unfold jI;rw[l k vs D j];simp only;have:=L B ρ w _ hS E A hd hn
   rwa [show(c.args.toList.map ev++vs.toList).toArray=c.args.map ev++vs from by apply jHp.1;simp] at this
 .rename_i ps rs pre F R;rw[R] at g;simp only[SV.den] at g
  split at h
  .rename_i d fz Z;simp at h;subst h;obtain⟨k,caps,D,j,hk⟩:=g;unfold jI;rw[l k caps D j];simp only;refine jk8 hS fz fun y q z=> ?_
   have a:SV.denL P y (c.args.toList.map (jQ σ)) (c.args.toList.map ev):=SV.denL_mono z _ _ (fun o n=>by simp at n) i;have:=hk y.H w _ d z.H q.good (jaI q (w8 σ fz) Z (fun o n=>n) a) A
   rwa [show(c.args.toList.map ev).toArray++caps=c.args.map ev++caps from by apply jHp.1;simp] at this
  .cases h
 .rename_i ob T st ps rs pre K R;rw[R] at g;simp only[SV.den] at g
  split at h
  .rename_i d fz T' sc Z hx
   split at h
   .rename_i s hT hm hst hs;simp at h;subst h;have:=jG0 hT;subst this;obtain⟨ρ1,m,t,J,_⟩:=jX fz hS;have Y:(σ.frz fz).obj ob=some (.box T false [sc]):=(by rw[kL,if_neg (qi hm)];exact hx);obtain⟨p,hp,b,Cp,vs,rfl,hw,O,h1,I⟩:=m.obs ob _ Y;have I:ρ1.H b=none:=I;simp only[SV.denL] at O;obtain⟨u,r,G,hdu,rfl⟩:=O;have G:vs= #[u]:=jHp.1 (by simpa using G);subst G;obtain⟨b2,C2,e2,u2,hF,hv2⟩:=g _ (by rw[<-J];exact hp);simp at e2;obtain⟨rfl,rfl⟩:=e2;obtain⟨k,caps,D,j,hk⟩:=hF;have D:ev f= .func (.func k) #[] caps:=hv2.trans D;unfold jI;rw[l k caps D j];simp only;have a:SV.denL P ρ1 (c.args.toList.map (jQ σ)) (c.args.toList.map ev):=SV.denL_mono t _ _ (fun o n=>by simp at n) i;have hsu:=jT m (w8 σ fz) hs (fun o n=>by simp at n) hdu;have N:=hk ρ1.H w _ d s u t.H m.good I hw hsu (jaI m (w8 σ fz) Z (fun o n=>n) a) A;rw[show(c.args.toList.map ev).toArray++caps=c.args.map ev++caps from by apply jHp.1;simp] at N;refine N.mono fun e w' he=> ?_
    obtain⟨v,H',u',rfl,hE,hH',hw',X,hr⟩:=he;obtain⟨hS2,V⟩:=jyj m (fun o b Cp hb=>(vV (σ:=σ.frz fz) m hb).1) Y hp hE hH' hw' (sv:= .dat st (K d s).2) (by simp only[SV.den];exact X) (jyM hst X);refine⟨v,rfl,{ρ1 with H:=H'},?_,t.trans V,jjI rfl hr,trivial⟩;show Sat P B _ ({(σ.frz fz) with ob:=(ob,some (.box T false [.dat st (K d s).2]))::(σ.frz fz).ob}:St).obj w';rw[ww];exact hS2
   .cases h
  .cases h
 .cases h
theorem jFw (a b:Int):(if b<a then b else a)=min a b:=by rw[Int.min_def];split<;>split<;>omega
theorem jFx (a b:Int):(if b>a then b else a)=max a b:=by rw[Int.max_def];split<;>split<;>omega
theorem jge:∀(l:List SV) (vs:List Value) (a m:Int),jkJ l a=some m->SV.denL P ρ l vs->(vs.foldlM Builtin.min2 (.int .i64 a)).run P w= .ok (.int .i64 m) w
 |[],vs,a,m,h,c=>by
  simp[jkJ] at h;simp[SV.denL] at c;subst h c;simp
 |x::l,vs,a,m,h,c=>by
  unfold jkJ at h
  split at h
  .rename_i e;cases e
  .rename_i a _ _ b r d
   cases d
   simp only[SV.denL] at c
   obtain⟨v,j,rfl,f,g⟩:=c
   have i:=zF (by simpa[SV.den] using f)
   subst i
   have:=jge l j (min a b) m h g
   rw[List.foldlM_cons]
   simp only[Builtin.min2,Sem.run_bind,Sem.run_pure,Result.andThen_ok]
   have e:=jFw a b
   exact Eq.trans (by rw[<-e]) this
  .cases h
theorem jgf:∀(l:List SV) (vs:List Value) (a m:Int),jkK l a=some m->SV.denL P ρ l vs->(vs.foldlM Builtin.max2 (.int .i64 a)).run P w= .ok (.int .i64 m) w
 |[],vs,a,m,h,c=>by
  simp[jkK] at h;simp[SV.denL] at c;subst h c;simp
 |x::l,vs,a,m,h,c=>by
  unfold jkK at h
  split at h
  .rename_i e;cases e
  .rename_i a _ _ b r d
   cases d
   simp only[SV.denL] at c
   obtain⟨v,j,rfl,f,g⟩:=c
   have i:=zF (by simpa[SV.den] using f)
   subst i
   have:=jgf l j (max a b) m h g
   rw[List.foldlM_cons]
   simp only[Builtin.max2,Sem.run_bind,Sem.run_pure,Result.andThen_ok]
   have e:=jFx a b
   exact Eq.trans (by rw[<-e]) this
  .cases h
theorem jgl {T:Nat} {x:Operand} {ti:TI} (i:C.ok P) (b:o.op= .makeInterface T x) (c:C.info T=some ti) (j:Sat P B ρ σ.obj w):jI P o ev w (jF P B ρ σ (.pure .any)):=by
 obtain⟨rfl,a⟩:=i.ti _ _ c;have m:∃d,P.underlying ti.id=some d/\∀ms,d≠.interface ms:=by
  cases f:ti.agg with
  |true=>
   cases g:ti.arr with
   |false=>obtain⟨fs,e,_⟩:=a.str f g;exact⟨_,e,by simp⟩
   |true=>obtain⟨_,n,ie,e,_⟩:=a.arrk g;exact⟨_,e,by simp⟩
  |false=>obtain⟨d,e,_,_,h,_⟩:=a.flat f;exact⟨_,e,h⟩
 obtain⟨d,k,l⟩:=m;refine jk j (v:= .iface ti.id (ev x)) ?_ (wn _) trivial;simp only[execOp,b,Instr.makeInterface,Sem.run_bind,run_underlying k,Result.andThen_ok];cases d<;>simp_all
theorem jtI {U n:Nat} {a:Array (Nat×Operand)} (hC:C.ok P) (T:o.op= .buildSlice U n a) (h:jAz C σ U n a.toList=some out) (hS:Sat P B ρ σ.obj w)
 (Q:∀x,SV.den P ρ (jQ σ x) (ev x)):jI P o ev w (jF P B ρ σ out):=by
 unfold jAz at h
 split at h
 case h_2=>cases h
 rename_i ti te W
 split at h
 case h_2=>cases h
 rename_i l fz hl
 split at h
 case h_2=>cases h
 rename_i r G;simp at h;subst h;have r:=jG0 r;subst r;have G:=jHg G;obtain⟨_,X,_,g,m,hka,R,E⟩:=zI hC W;obtain⟨i,z,N,g1,g2,g3,g4,_⟩:=g.info;rw[X] at N;obtain⟨ρ1,d,f,hb1,hl1⟩:=jX fz hS;have u:∀x,SV.den P ρ1 (jQ σ x) (ev x):=fun x=>SV.den_mono f _ _ (fun o S=>by simp at S) (Q x)
 obtain⟨vs,L,e2,M,e4⟩:=gC d (w8 σ fz) u a.toList 0 l fz hl (fun o S=>S);have hzs:z.cells.size=te.size:=(by rw[<-g.zlen,<-g4];simp);have s:0<te.size:=E;have q:Instr.fill (fun i=>some (i*te.size,te.size)) ((Array.range (l.length*te.size)).map (z.cells[·%z.cells.size]!)) (a.map fun(i,x)=>(i,ev x)).toList=
  some (vs.flatMap fun v=>v.cells.toList).toArray:=by
  have:=Great.fill_whole s vs ((Array.range (l.length*te.size)).map (z.cells[·%z.cells.size]!)) (fun v Y=>by rw[M v Y,R]) (by simp[e2]);rw[<-this];congr 1;simpa using L
 have J:=jot vs M;have F:(execOp ev o).run P w= .ok (.value (.slice (some ⟨w.heap.size,0,none⟩) l.length l.length)) (w.alloc (.cells (vs.flatMap fun v=>v.cells.toList).toArray ti.elem)):=by
  have:(Instr.buildSlice U l.length (a.map fun(i,x)=>(i,ev x))).run P w= .ok (.slice (some ⟨w.heap.size,0,none⟩) l.length l.length) (w.alloc (.cells (vs.flatMap fun v=>v.cells.toList).toArray ti.elem)):=by
   have p:i.size=te.size:=g1;by_cases Z:l.length=0
   .have I:vs=[]:=jHL (by omega);have V:a= #[]:=by
     subst I;simp at L;exact L
    subst V I;simp[Instr.buildSlice,run_underlying m,sizeOf,typeInfo,N,Z,newRow,Instr.fill,show Array.range 0= #[] from rfl]
   .exact run_buildSlice w U ti.elem l.length _ _ i z m N g3 (by rw[p];omega) (by rw[p];have:=Nat.mul_pos (Nat.pos_of_ne_zero Z) s;omega) (by rw[p];exact q)
  simp only[execOp,T,Sem.run_bind];rw[this];simp
 refine zo F ?_;have K:l.length<=16777216:=by
  have:l.length*1<=l.length*te.size:=jIk _ s;omega
 have D:=heap_alloc_new w (.cells (vs.flatMap fun v=>v.cells.toList).toArray ti.elem);have t:=w.grownBy_alloc (.cells (vs.flatMap fun v=>v.cells.toList).toArray ti.elem) none;have hHn:ρ1.H w.heap.size=none:=by
  cases hc:ρ1.H w.heap.size with
  |none=>rfl
  |some c=>have:=d.good.lt hc;omega
 have hE:jDs ρ1.H w (fun b=>if b=w.heap.size then some (.cells (vs.flatMap fun v=>v.cells.toList).toArray) else ρ1.H b) (w.alloc (.cells (vs.flatMap fun v=>v.cells.toList).toArray ti.elem)):=by
  refine⟨⟨t.os,t.tape,t.output,t.size,fun k hk=>t.block k (by omega) (by simp)⟩,⟨fun b c e=> ?_,d.good.2.mono (fun b c e=>by
   have A:=d.good.lt e;show(if b=w.heap.size then _ else _)=_;rw[if_neg (by omega)];exact e)⟩,fun b e=>if_neg (by omega),jG5 _⟩
  dsimp only at e
  by_cases he:b=w.heap.size
  .subst he;rw[if_pos rfl] at e;simp at e;subst e;exact⟨_,_,D⟩
  .rw[if_neg he] at e;have A:=d.good.lt e;have:=d.good.1 b c e;rw[t.block b A (by simp)];exact this
 obtain⟨O,y⟩:=jnE d (fun o b Cp e=>(vV (σ:=σ.frz fz) d e).1) hE;refine⟨_,?_,f.trans y,?_,trivial⟩
 .show Sat P B _ (σ.frz fz).obj _;exact O
 .simp only[SV.den];refine⟨rfl,rfl,_,_,_,rfl,rfl,jG5 _,by omega,by simp,fun _=>⟨_,0,_,rfl,if_pos rfl,fun k x hx=> ?_⟩⟩;have hi:k<vs.length:=(by have:=(jG6.1 hx).1;omega);have Y:=e4 k _ x (jG8 hi) hx;refine te.ty.rd_mono (hE.mono d.good) _ _ (te.ty.rd_congr _ _ _ (fun j hj=> ?_) Y.2.2);have:=jkM vs M k j _ (jG8 hi) hj;simpa using this.symm
theorem jw1 {c:Call} (hC:C.ok P) (W:o.op= .call c) (hc:c.callee= .builtin .clear) (h:jEI C σ c.args.toList c.argTypes.toList=some out) (hS:Sat P B ρ σ.obj w)
 (hev:∀x,SV.den P ρ (jQ σ x) (ev x)) (hvc:k8 out.vc):jI P o ev w (jF P B ρ σ out):=by
 unfold jEI at h
 split at h
 case h_2=>cases h
 rename_i x U i s;have i:c.args= #[x]:=(by rw[<-jHp];exact i);have s:c.argTypes= #[U]:=by rw[<-jHp];exact s
 split at h
 case h_2=>cases h
 rename_i ti te ob u lo n g hx
 split at h
 case h_2=>cases h
 rename_i E t nl l T
 split at h
 case h_2=>cases h
 rename_i l' hl' X;simp at h;subst h;obtain⟨e,rfl⟩:=jm hl';have e':t=te.ty:=(by injection e);subst e';have X:u=te.ty:=by
  unfold vK at X
  split at X
  .assumption
  .cases X
 subst X;obtain⟨p,hp,k1,k0,k2⟩:=hS.obs ob _ T;have f:=hev x;rw[hx] at f;simp only[SV.den] at f;have f:=f p hp;have hlen:lo+n=l.length:=hvc.1;obtain⟨_,hte,_,r,I,hka,hks,hpos⟩:=zI hC g;obtain⟨_,z,_,_,_,_,hz,L,_⟩:=qo r;rw[hte] at hz;have Y:z.cells.size=te.ty.size:=(by rw[hks,<-r.zlen,<-L];simp);have J:qw e l=l:=rfl;rw[J];rcases jIf n with h0|h0
 .subst h0;have D:∃a F,ev x= .slice a 0 F:=by
   cases p with
   |none=>obtain⟨e,_⟩:=f;exact⟨_,_,e⟩
   |some q=>obtain⟨b,Cp⟩:=q;obtain⟨a,F,e,_⟩:=f;exact⟨_,_,e⟩
  obtain⟨a,F,D⟩:=D;have hl:l.take lo++List.replicate 0 te.ty.dflt=l:=by
   rw[List.replicate_zero,jHw,jHU (by omega)]
  refine zo (v:= .tuple #[]) (w':=w) ?_ ⟨ρ,?_,Env.le.refl _ _,wn _,trivial⟩
  .simp only[execOp,W,Sem.run_bind,resolve,hc,i,s,Sem.run_pure,Result.andThen_ok,invoke,builtin];cases a<;>simp[Builtin.clear_,D,run_underlying I]
  .show Sat P B ρ ({σ with ob:=(ob,_)::(qG σ []++σ.ob)}:St).obj _;simp only[qG,jHz];rw[ww,hl];have:jgC σ.obj ob (some (.row E te.ty false nl l))=σ.obj:=funext fun k=>by
    unfold jgC
    split
    .rename_i hk;rw[hk];exact T.symm
    .rfl
   rw[this];exact hS
 .cases p with
  |none=>obtain⟨_,e⟩:=f;omega
  |some q=>
   obtain⟨b,Cp⟩:=q;obtain⟨a,F,hv,v2,v3,v4,v5⟩:=f;have v5:=v5 (.inr (by omega));subst v5;obtain⟨k3,vs,hw,hvs,hlC,Z,hr,hH⟩:=k2;simp only[fzH] at hH;have M:(Builtin.zeroCells z.cells n).toList.length=n*te.ty.size:=(by rw[jHA,q6,Y]);have S:(lo+n)*te.ty.size<=Cp*te.ty.size:=jHm _ (by omega);rw[jHP] at S;have V:∀v∈(Builtin.zeroCells z.cells n).toList,v.oneCell'=true:=by
    intro v hv;obtain⟨m,N⟩:=List.mem_iff_getElem?.1 hv;rw[jHN,jbU] at N
    split at N
    .simp at N;have K:m%z.cells.size<z.cells.size:=Nat.mod_lt _ (by omega);rw[getElem!_pos z.cells _ K] at N;refine r.one v ?_;rw[<-L,<-N];simp
    .cases N
   have G:=run_storeCells_at P b (lo*te.ty.size) E (Builtin.zeroCells z.cells n).toList 0 vs w hw (by rw[M,hvs];omega) V;simp only[jIh,M] at G;obtain⟨f1,f2⟩:=vf w hw (vs.toList.take (lo*te.ty.size)++(Builtin.zeroCells z.cells n).toList++vs.toList.drop (lo*te.ty.size+n*te.ty.size)).toArray;refine zo (v:= .tuple #[]) (w':=w.setRow b (vs.toList.take (lo*te.ty.size)++(Builtin.zeroCells z.cells n).toList++vs.toList.drop (lo*te.ty.size+n*te.ty.size)).toArray) ?_ ⟨ρ,?_,Env.le.refl _ _,wn _,trivial⟩
   .simp only[execOp,W,Sem.run_bind,resolve,hc,i,s,Sem.run_pure,Result.andThen_ok,invoke,builtin];obtain⟨n',rfl⟩:∃n',n=n'+1:=⟨n-1,by omega⟩;simp[Builtin.clear_,hv,run_underlying I,hz,G]
   .show Sat P B ρ ({σ with ob:=(ob,_)::(qG σ []++σ.ob)}:St).obj _;simp only[qG,jHz];rw[ww];refine jb8 hS hp hH _ f1 ?_;have A:(l.take lo++List.replicate n te.ty.dflt).length=l.length:=(by simp;omega);have Q:(vs.toList.take (lo*te.ty.size)).length=lo*te.ty.size:=(by simp;omega);refine⟨by rw[A];exact k1,by rw[A];exact k0,fun _ hn=> ?_,_,f2,?_,by rw[A];exact hlC,Z,?_,by simpa[fzH] using hH⟩
    .rw[hn] at A;simp at A;omega
    .simp only[List.size_toArray,jHo,Q,M,jIo,jHA];omega
    .intro k y O;by_cases hk:k<lo
     .rw[jHf (by simp;omega),jHr hk] at O;refine te.ty.rd_congr _ _ _ (fun j hj=> ?_) (hr k y O);have:(k+1)*te.ty.size<=lo*te.ty.size:=jHm _ hk;rw[jHM] at this;simp only[jIe,jHn];rw[jHf (by omega),jHr (by omega)];simp
     .have K:k<(l.take lo++List.replicate n te.ty.dflt).length:=(jG6.1 O).1;rw[A] at K;have htl:(l.take lo).length=lo:=(by simp;omega);rw[jHe (by omega),htl,List.getElem?_replicate,if_pos (by omega)] at O;simp at O;subst O;have hkn:kr te.ty=true:=by
       unfold Ctx.slice at g
       split at g
       .split at g
        .split at g
         .split at g
          .rename_i hk;simp at g;rw[<-g.2];exact hk
          .cases g
         .cases g
        .cases g
       .cases g
      refine te.ty.rd_congr _ _ _ (fun j hj=> ?_) (r.zd hkn ρ.H);obtain⟨d,rfl⟩:∃d,k=lo+d:=⟨k-lo,by omega⟩;have h1:(d+1)*te.ty.size<=n*te.ty.size:=jHm _ (by omega);rw[jHM] at h1;simp only[jIe,jHn];rw[jHP,jHe (by omega),Q,jHf (by omega),jHN,jbU,Y,if_pos (by omega)];have R:(lo*te.ty.size+d*te.ty.size+j-lo*te.ty.size)%te.ty.size=j:=by
       rw[show lo*te.ty.size+d*te.ty.size+j-lo*te.ty.size=j+d*te.ty.size by omega,Nat.add_mul_mod_self_right,Nat.mod_eq_of_lt hj]
      rw[R,getElem!_pos z.cells j (by omega),<-L];rw[jHN,jHv (by omega)]
theorem jqT {dst:Nat} (k:C.ok P) (h:jC C σ dst o.op=some out) (g:Sat P B ρ σ.obj w) (d:∀x,SV.den P ρ (jQ σ x) (ev x)) (j:k8 out.vc)
 (p:out.nw≠[]->σ.obj dst=none/\kN σ.obj dst/\∀x cs,cells σ (jQ σ x)=some cs->SV.refs.refsL dst cs=false) (u:∀c,o.op= .call c->c.callee≠.builtin .clear->σ.obj dst=none/\kN σ.obj dst):jI P o ev w (jF P B ρ σ out):=by
 cases b:o.op with
 |move x=>rw[b] at h;simp[jC] at h;subst h;exact jqV (.inl b) g (d x)
 |assign x=>rw[b] at h;simp[jC] at h;subst h;exact jqV (.inr b) g (d x)
 |alloc E=>
  rw[b] at h;have q:out.nw≠[]:=by
   simp only[jC] at h
   split at h
   .simp at h;subst h;simp
   .cases h
  exact jw3 k b h g (p q).1 (p q).2.1
 |box E x=>
  rw[b] at h;have q:out.nw≠[]:=by
   simp only[jC] at h
   split at h
   .split at h
    .simp at h;subst h;simp
    .cases h
   .cases h
  exact jCl k b h g (d x) (p q).1 (p q).2.1 (fun cs=>(p q).2.2 x cs)
 |build U D=>rw[b] at h;exact jw2 k b h g d
 |buildSlice U n D=>
  rw[b] at h;have q:out.nw≠[]:=by
   simp only[jC] at h
   split at h
   .split at h
    .split at h
     .simp at h;subst h;simp
     .cases h
    .cases h
   .cases h
  exact jkW k b h g d (p q).1 (p q).2.1
 |load U a=>rw[b] at h;exact jAe k b h g (d a) j
 |store U a x=>rw[b] at h;exact jwT k b h g (d a) (d x)
 |nilCheck x=>rw[b] at h;exact joE b h g (d x) j
 |fieldAddr U x f=>rw[b] at h;exact jlZ k b h g (d x) j
 |field U x f=>rw[b] at h;exact jwZ k b h g (d x)
 |indexAddr U x A=>rw[b] at h;exact jlY k b h g (d x) (d A) j
 |binOp op U x y t=>rw[b] at h;simp only[jC] at h;exact jCm k b h g (d x) (d y) j
 |index U x A=>rw[b] at h;exact jwY k b h g (d x) (d A) j
 |unOp op T x=>rw[b] at h;exact jAc b h g (d x) j
 |convert V U x=>rw[b] at h;exact jqY k b h g (d x) j
 |makeFunc f fs cs=>rw[b] at h;exact joF b h g d
 |slice U x lo hi O=>
  rw[b] at h;cases O with
  |none=>exact jwU k b h g d j
  |some m=>
   cases lo with
   |some l=>simp[jC] at h
   |none=>
    cases hi with
    |none=>simp[jC] at h
    |some hi=>exact jtG k b h g d j
 |extract x i=>rw[b] at h;exact jqX b h g (d x)
 |panic x=>rw[b] at h;simp[jC] at h;subst h;exact jwX j
 |makeMap U r=>
  rw[b] at h;cases r with
  |some r=>simp[jC] at h
  |none=>
   have q:out.nw≠[]:=by
    simp only[jC,k.lit] at h
    split at h
    .simp at h;subst h;simp
    .rename_i e _;cases e
    .cases h
   exact jqW k b h g (p q).1 (p q).2.1
 |lookup U x A ok=>rw[b] at h;exact jtH k b h g (d x) (d A)
 |mapUpdate U m A x=>rw[b] at h;exact jdN k (.inl b) h g (d m) (d A) (d x)
 |insert U m A x=>rw[b] at h;simp only[jC,k.lit] at h;exact jdN k (.inr b) h g (d m) (d A) (d x)
 |makeSlice U l c=>
  rw[b] at h;have q:out.nw≠[]:=by
   simp only[jC,jBO] at h
   split at h
   .simp at h;subst h;simp
   .cases h
  exact jlX k b h g (p q).1 (p q).2.1 d j
 |entryStore U m st x=>rw[b] at h;exact jkV k b h g (d m) (d st) (d x) j
 |range U x=>
  rw[b] at h;have q:out.nw≠[]:=by
   simp only[jC] at h
   split at h
   .split at h
    .simp at h;subst h;simp
    .cases h
   .cases h
  exact jwW k b h g (p q).1 (p q).2.1 (d x)
 |entry it=>rw[b] at h;exact jw0 b h g (d it)
 |makeInterface T x=>
  rw[b] at h;simp only[jC] at h
  split at h
  .rename_i ti L;simp at h;subst h;exact jgl k b L g
  .cases h
 |call c=>
  rw[b] at h;simp only[jC] at h
  split at h
  .rename_i f N;have z:=u c b (by rw[N];simp);exact jAg k b N h g d j z.1 z.2
  .rename_i s;exact jCj k b s h g d
  .rename_i s;have z:=u c b (by rw[s];simp);exact jtJ k b s h g d j z.1 z.2
  .rename_i s;exact jw1 k b s h g d j
  .rename_i s;exact jAf k b s h g d j
  .rename_i s;exact jCk k b s h g d
  .rename_i s
   split at h
   .rename_i a r J
    split at h
    .rename_i m K;simp at h;subst h;have p:=y6 (P:=P) (ρ:=ρ) (σ:=σ) d c.args.toList;rw[J] at p;simp only[SV.denL] at p;obtain⟨v,F,e,H,I⟩:=p;have M:=zF (by simpa[SV.den] using H);subst M;refine jk g (v:= .int .i64 m) ?_ (w6 m) trivial;have G:(c.args.map ev).toList= .int .i64 a::F:=(by simpa using e);simp only[execOp,b,Sem.run_bind,resolve,s,Sem.run_pure,Result.andThen_ok,invoke,builtin,Builtin.min_,G,jge r F a m K I]
    .cases h
   .cases h
  .rename_i s
   split at h
   .rename_i a r J
    split at h
    .rename_i m K;simp at h;subst h;have p:=y6 (P:=P) (ρ:=ρ) (σ:=σ) d c.args.toList;rw[J] at p;simp only[SV.denL] at p;obtain⟨v,F,e,H,I⟩:=p;have M:=zF (by simpa[SV.den] using H);subst M;refine jk g (v:= .int .i64 m) ?_ (w6 m) trivial;have G:(c.args.map ev).toList= .int .i64 a::F:=(by simpa using e);simp only[execOp,b,Sem.run_bind,resolve,s,Sem.run_pure,Result.andThen_ok,invoke,builtin,Builtin.max_,G,jgf r F a m K I]
    .cases h
   .cases h
  .cases h
 |_=>rw[b] at h;simp[jC] at h
end
end Go.X
namespace Go.X
open Go.RowKit (Below)
theorem kA:∀(l:List Nat) (k:Nat),yx l k=true↔k∈l
 |[],k=>by simp[yx]
 |j::r,k=>by
  simp only[yx]
  cases h:Nat.beq j k with
  |true=>have:=jG0 h;subst this;simp
  |false=>
   have a:j≠k:=zb h
   simp only[kA r k,jG4]
   constructor
   .exact .inr
   .rintro(e|e)
    .exact absurd e.symm a
    .exact e
theorem kd:∀(l r:List Nat) (k:Nat),k∈qB l r↔k∈l\/k∈r
 |[],r,k=>by simp[qB]
 |o::l,r,k=>by
  simp only[qB]
  cases h:yx r o with
  |true=>
   have:=(kA r o).1 h
   rw[kd l r k]
   constructor
   .rintro(e|e)
    .exact .inl (jHb _ e)
    .exact .inr e
   .rintro(e|e)
    .rcases jG4.1 e with rfl|e
     .exact .inr this
     .exact .inl e
    .exact .inr e
  |false=>
   rw[kd l (o::r) k]
   simp only[jG4]
   constructor
   .rintro(e|e|e)
    .exact .inl (.inr e)
    .exact .inl (.inl e)
    .exact .inr e
   .rintro((e|e)|e)
    .exact .inr (.inl e)
    .exact .inl e
    .exact .inr (.inr e)
theorem qP:∀(l r:List Nat),jb0 l r=true->∀k,k∈l->k∈r
 |[],r,_,k,hk=>by simp at hk
 |o::l,r,h,k,hk=>by
  simp only[jb0] at h
  cases a:yx r o with
  |false=>rw[a] at h;cases h
  |true=>
   rw[a] at h
   rcases jG4.1 hk with rfl|hk
   .exact(kA r k).1 a
   .exact qP l r h k hk
mutual
theorem jsD:∀(sv:SV) (o:Nat),sv.refs o=true->o∈sv.rl
 | .any,o,h=>by simp[SV.refs] at h
 | .dat _ _,o,h=>by simp[SV.refs] at h
 | .ep _ _,o,h=>by simp[SV.refs] at h
 | .bp o' _,o,h=>by simp only[SV.refs] at h;simp[SV.rl,jG0 h]
 | .own o' _,o,h=>by simp only[SV.refs] at h;simp[SV.rl,jG0 h]
 | .osl o' _ _ _,o,h=>by simp only[SV.refs] at h;simp[SV.rl,jG0 h]
 | .rp o' _ _ _,o,h=>by simp only[SV.refs] at h;simp[SV.rl,jG0 h]
 | .mp o',o,h=>by simp only[SV.refs] at h;simp[SV.rl,jG0 h]
 | .ip o',o,h=>by simp only[SV.refs] at h;simp[SV.rl,jG0 h]
 | .fe _ o' _ _ _ _ _ _,o,h=>by simp only[SV.refs] at h;simp[SV.rl,jG0 h]
 | .fn _ _ _ _,o,h=>by simp[SV.refs] at h
 | .fnp _ _ _ _,o,h=>by simp[SV.refs] at h
 | .fcl _ _,o,h=>by simp[SV.refs] at h
 | .clo _ caps,o,h=>by simp only[SV.refs] at h;simp only[SV.rl];exact gW caps o h
 | .agg cs,o,h=>by simp only[SV.refs] at h;simp only[SV.rl];exact gW cs o h
 | .tup cs,o,h=>by simp only[SV.refs] at h;simp only[SV.rl];exact gW cs o h
 | .lit _,o,h=>by simp[SV.refs] at h
theorem gW:∀(cs:List SV) (o:Nat),SV.refs.refsL o cs=true->o∈SV.rl.rlL cs
 |[],o,h=>by simp[SV.refs.refsL] at h
 |c::cs,o,h=>by
  simp only[SV.refs.refsL] at h
  simp only[SV.rl.rlL,jHa]
  cases a:c.refs o with
  |true=>exact .inl (jsD c o a)
  |false=>rw[a] at h;exact .inr (gW cs o h)
end
section
variable {P:Program} {B:zV} {σ:St} {ρ:Env} {w:World}
def jyK (os:List Nat) (obj:Nat->Option Ob):Nat->Option Ob:=fun o=>if o∈os then obj o else none
def jgX (os:List Nat) (ρ:Env):Env:={ρ with blk:=fun o=>if o∈os then ρ.blk o else none}
def zl (ρ:Env):List Nat->List Nat
 |[]=>[]
 |o::r=>match ρ.blk o with|some (some (b,_))=>b::zl ρ r|_=>zl ρ r
theorem zj {b:Nat}:∀(os:List Nat),b∈zl ρ os↔∃o a,o∈os/\ρ.blk o=some (some (b,a))
 |[]=>by simp[zl]
 |o::r=>by
  simp only[zl]
  constructor
  .intro h
   split at h
   .rename_i f C' e
    rcases jG4.1 h with rfl|h
    .exact⟨o,C',jHH,e⟩
    .obtain⟨o',a,c,d⟩:=(zj r).1 h;exact⟨o',a,jHb _ c,d⟩
   .obtain⟨o',a,c,d⟩:=(zj r).1 h;exact⟨o',a,jHb _ c,d⟩
  .rintro⟨o',a,c,d⟩
   rcases jG4.1 c with rfl|c
   .rw[d];exact jHH
   .have:=(zj r).2 ⟨o',a,c,d⟩
    split
    .exact jHb _ this
    .exact this
theorem jiK (os:List Nat) (ρ:Env):ρ.le (jgX os ρ) []:=by
 refine⟨fun _ _ h=>h,fun o p _ a=> ?_,fun _ _=>rfl⟩;simp only[jgX] at a
 split at a
 .exact a
 .cases a
theorem juY (e:Sat P B ρ σ.obj w) (os:List Nat):Sat P ⟨w,ρ.H,zl ρ os,fun _=>none,fun _=>0⟩ (jgX os ρ) (jyK os σ.obj) w:=by
 refine⟨rfl,rfl,rfl,jG5 _,jG5 _,e.good,fun _ _ _=>rfl,fun _ _ _=>rfl,?_,?_,?_,?_⟩
 .intro o x f;unfold jyK at f
  split at f
  .rename_i c;obtain⟨p,i,j⟩:=e.obs o x f;exact⟨p,by simp[jgX,c,i],jU (jiK os ρ) (by simp) (fun _ _ _ _ o' g=>by simp at g) (fun _ _ _=>⟨rfl,rfl⟩) j⟩
  .cases f
 .intro o c;unfold jyK at c;by_cases a:o∈os
  .rw[if_pos a] at c;simp[jgX,a,e.dead o c]
  .simp[jgX,a]
 .intro o o' b C C' h d;simp only[jgX] at h d
  split at h
  .split at d
   .exact e.inj o o' b C C' h d
   .cases d
  .cases h
 .intro o b C h;simp only[jgX] at h
  split at h
  .rename_i a;exact .inr ((zj os).2 ⟨o,C,a,h⟩)
  .cases h
theorem jqH (g:Sat P B ρ σ.obj w) (os nw:List Nat) (Z:∀d,d∈nw->kN σ.obj d) {f:Env} {u:Nat->Option Ob} {w':World}
 (e:Sat P ⟨w,ρ.H,zl ρ os,fun _=>none,fun _=>0⟩ f u w') (J:(jgX os ρ).le f nw) (K:∀o T fz cs,u o=some (.box T fz cs)->∀r,SV.refs.refsL r cs=true->r∈nw\/r∈os):
 ∃ρ'',Sat P B ρ'' (fun o=>if o∈nw\/o∈os then u o else σ.obj o) w'/\ρ.le ρ'' nw/\
  ∀sv v,(∀r,sv.refs r=true->r∈nw\/r∈os)->SV.den P f sv v->SV.den P ρ'' sv v:=by
 let ρ'':Env:={f with blk:=fun o=>if o∈nw\/o∈os then f.blk o else ρ.blk o}
 have A:ρ.le ρ'' nw:=by
  refine⟨fun b c h=>J.H b c h,fun o p t i=> ?_,fun o t=>J.len o t⟩;simp only[ρ''] at i;by_cases a:o∈os
  .rw[if_pos (.inr a)] at i;have:=J.blk o p t i;simpa[jgX,a] using this
  .rw[if_neg (by rintro(h|h);exact t h;exact a h)] at i;exact i
 let s:List Nat:=((σ.ob.map Prod.fst).filter fun o=>decide ¬(o∈nw\/o∈os))
 have Q:∀o,ρ.blk o≠none->¬(o∈nw\/o∈os)->o∈s:=by
  intro o m q;simp only[s,jHh];refine⟨?_,by simpa using q⟩;cases l:σ.obj o with
  |none=>exact absurd (g.dead o l) m
  |some x=>
   simp only[St.obj] at l
   split at l
   .rename_i y hy;exact jHy.2 ⟨(o,y),zD _ _ _ hy,rfl⟩
   .cases l
 have D:f.le ρ'' s:=by
  refine⟨fun _ _ h=>h,fun o p t i=> ?_,fun _ _=>rfl⟩;simp only[ρ''] at i;by_cases a:o∈nw\/o∈os
  .rw[if_pos a] at i;exact i
  .rw[if_neg a] at i;exact absurd (Q o (by rw[i];simp) a) t
 have j:∀r,r∈s->¬(r∈nw\/r∈os):=fun r G=>by
  simp only[s,jHh] at G;simpa using G.2
 have k:∀b,b<w.heap.size->b∉zl ρ os->f.H b=ρ.H b/\w'.heap[b]? =w.heap[b]? :=fun b m q=>⟨e.oldH b m q,e.old b m q⟩
 have F:∀b,b<B.w.heap.size->b∉B.bor->b∉zl ρ os:=by
  intro b m q a;obtain⟨o,N,_,W⟩:=(zj os).1 a;rcases g.own o b N W with h|h
  .omega
  .exact q h
 have hsz:=g.size;have E:∀o b N,o∈nw\/o∈os->f.blk o=some (some (b,N))->∀o2 S,¬(o2∈nw\/o2∈os)->ρ.blk o2=some (some (b,S))->False:=by
  intro o b N _ W o2 S h3 h4;rcases e.own o b N W with h|h
  .have:=(vV g h4).1;simp only at h;omega
  .obtain⟨R,M,X,O⟩:=(zj os).1 h;exact h3 (.inr (by rw[g.inj o2 R b S M h4 O];exact X))
 refine⟨ρ'',⟨e.os.trans g.os,e.tape.trans g.tape,e.output.trans g.output,jHi g.drawn e.drawn,jHi hsz e.size,e.good,?_,?_,?_,?_,?_,?_⟩,A,?_⟩
 .intro b m q;show f.H b=_;rw[(k b (by omega) (F b m q)).1];exact g.oldH b m q
 .intro b m q;rw[(k b (by omega) (F b m q)).2];exact g.old b m q
 .intro o x L;by_cases a:o∈nw\/o∈os
  .simp only[a,if_true] at L;obtain⟨p,i,hs⟩:=e.obs o x L;refine⟨p,by simp[ρ'',a,i],jU D (fun h=>j o h a) (fun T fz cs I r G=> ?_) (fun _ _ _=>⟨rfl,rfl⟩) hs⟩;cases Y:SV.refs.refsL r cs with
   |false=>rfl
   |true=>exact absurd (K o T fz cs (by rw[L,I]) r Y) (j r G)
  .simp only[a,if_false] at L;obtain⟨p,i,hs⟩:=g.obs o x L;refine⟨p,by simp[ρ'',a,i],jU A (fun h=>a (.inl h)) (fun T fz cs I r G=>Z r G o T fz cs (by rw[L,I])) (fun b C hpb=> ?_) hs⟩;subst hpb;refine k b (vV g i).1 fun m=> ?_
   obtain⟨R,M,X,O⟩:=(zj os).1 m;exact a (.inr (by rw[g.inj o R b C M i O];exact X))
 .intro o t;by_cases a:o∈nw\/o∈os
  .simp only[a,if_true] at t;simp[ρ'',a,e.dead o t]
  .simp only[a,if_false] at t;simp[ρ'',a,g.dead o t]
 .intro o o' b C C' h z;simp only[ρ''] at h z;by_cases a:o∈nw\/o∈os<;>by_cases n:o'∈nw\/o'∈os
  .rw[if_pos a] at h;rw[if_pos n] at z;exact e.inj o o' b C C' h z
  .rw[if_pos a] at h;rw[if_neg n] at z;exact(E o b C a h o' C' n z).elim
  .rw[if_neg a] at h;rw[if_pos n] at z;exact(E o' b C' n z o C a h).elim
  .rw[if_neg a] at h;rw[if_neg n] at z;exact g.inj o o' b C C' h z
 .intro o b C h;simp only[ρ''] at h;by_cases a:o∈nw\/o∈os
  .rw[if_pos a] at h;rcases e.own o b C h with V|V
   .simp only at V;exact .inl (by omega)
   .obtain⟨R,M,_,O⟩:=(zj os).1 V;exact g.own R b M O
  .rw[if_neg a] at h;exact g.own o b C h
 .intro sv v G hd;refine SV.den_mono D sv v (fun r hrb=> ?_) hd;cases Y:sv.refs r with
  |false=>rfl
  |true=>exact absurd (G r Y) (j r hrb)
end
end Go.X
namespace Go.X
open Go.RowKit (Below)
section
variable {P:Program} {B:zV} {C:Ctx} {ρ:Env} {w:World} {ops:Array Oper} {a:Act}
def jgE (ops:Array Oper) (a:Act) (g:Nat×Bool):Prop:=yielded ops a.tmps g.1=some g.2
def GL (P:Program) (ops:Array Oper) (ρ:Env) (gl:List (Nat×(Nat×Bool)×SV)) (a:Act):Prop:=
 ∀s g v,(s,g,v)∈gl->(jgE ops a g->SV.den P ρ v (a.tmps.getD s undef))/\(¬jgE ops a g->a.tmps.getD s undef=undef)
theorem jkg:∀(gl:List (Nat×(Nat×Bool)×SV)) (k:Nat) g v,jwn gl k=some (g,v)->(k,g,v)∈gl
 |[],_,_,_,h=>by simp[jwn] at h
 | (j,b,x)::r,k,g,v,h=>by
  simp only[jwn] at h
  cases a:Nat.beq j k
  .rw[a] at h;exact jHb _ (jkg r k g v h)
  .rw[a] at h;simp at h;obtain⟨rfl,rfl⟩:=h;have:=jG0 a;subst this;exact jHH
theorem jvp (j:Nat):yielded ops a.tmps j=(match gD ops.toList j with|some d=>(match a.tmps[d]? with|some (.bool b)=>some b|_=>none)|none=>none):=by
 unfold yielded gD;rw[jHN];cases h:ops[j]? with
 |none=>simp
 |some o=>
  simp only[Option.bind_some];cases o.dst with
  |none=>rfl
  |some d=>rfl
theorem jc7 {j:Nat} {want:Bool} {d:Nat} (h:gD ops.toList j=some d):jgE ops a (j,want)↔a.tmps[d]? =some (.bool want):=by
 unfold jgE;rw[jvp,h];simp only;constructor
 .intro h
  split at h
  .rename_i b c;simp at h;subst h;exact c
  .cases h
 .intro h;rw[h]
theorem jnk {d:Nat} {b:Bool} (h:a.tmps.getD d undef= .bool b):a.tmps[d]? =some (.bool b):=by
 rw[jG9] at h;cases c:a.tmps[d]? with
 |none=>rw[c] at h;simp[undef] at h
 |some v=>rw[c] at h;simp at h;rw[h]
theorem jph {d:Nat} (h:a.tmps.getD d undef=undef) (b:Bool):a.tmps[d]?≠some (.bool b):=by
 intro c;rw[jG9,c] at h;simp[undef] at h
theorem y4 {R:RS} (e:jgz P ρ R.st.sl a) (l:GL P ops ρ R.gl a):∀(b:Nat) (g:Nat×Bool) (γ:Bool),jdJ ops.toList R b g=some γ->(jgE ops a g↔γ=true)
 |0,g,γ,h=>by simp[jdJ] at h
 |b+1,(j,want),γ,h=>by
  simp only[jdJ] at h
  split at h
  case h_2=>cases h
  rename_i d p
  rw[jc7 p]
  split at h
  .rename_i i k r
   split at h
   case h_2=>cases h
   rename_i f q
   simp at h;subst h
   have m:=y4 e l b i f q
   obtain⟨n,o⟩:=l d i _ (jkg _ _ _ _ r)
   cases f with
   |true=>
    have:=jnk (zY (by simpa[SV.den] using n (m.2 rfl)))
    rw[this]
    cases want<;>cases k<;>simp[sgn]
   |false=>
    have s:¬jgE ops a i:=fun h=>by have:=m.1 h;cases this
    constructor
    .intro h;exact absurd h (jph (o s) want)
    .intro h;simp at h
  .cases h
  .split at h
   .rename_i k t
    simp at h;subst h
    have c:SV.den P ρ (R.st.get d) (a.tmps.getD d undef):=jO (a:=a) e (.tmp d)
    rw[t] at c
    have:=jnk (zY (by simpa[SV.den] using c))
    rw[this]
    cases want<;>cases k<;>simp[sgn]
   .cases h
theorem jeT {R:RS} (i:GL P ops ρ R.gl a):∀(b:Nat) (g:Nat×Bool),jgE ops a g->∀h,h∈jho ops.toList R b g->jgE ops a h
 |0,g,_,h,c=>by simp[jho] at c
 |b+1,(j,want),f,h,c=>by
  simp only[jho] at c
  rcases jG4.1 c with rfl|c
  .exact f
  .split at c
   .rename_i d m
    split at c
    .rename_i e v n
     refine jeT i b e ?_ h c
     obtain⟨_,l⟩:=i d e _ (jkg _ _ _ _ n)
     rw[jc7 m] at f
     by_cases k:jgE ops a e
     .exact k
     .exact absurd f (jph (l k) want)
    .simp at c
   .simp at c
theorem juq {g h:Nat×Bool} (e:jyl g h=true):g=h:=by
 obtain⟨a,x⟩:=g;obtain⟨b,y⟩:=h;unfold jyl at e;simp only at e
 split at e
 .rename_i c;have:=jG0 c;subst this;cases x<;>cases y<;>simp_all
 .cases e
theorem jkr:∀(ch:List (Nat×Bool)) (g:Nat×Bool),jg9 ch g=true->g∈ch
 |[],_,h=>by simp[jg9] at h
 |x::r,g,h=>by
  simp only[jg9] at h
  split at h
  .rename_i e;rw[juq e];exact jHH
  .exact jHb _ (jkr r g h)
theorem jaL:∀(gl:List (Nat×(Nat×Bool)×SV)) (ch:List (Nat×Bool)) (s:Nat) (v:SV),(s,v)∈jaM gl ch->∃g,(s,g,v)∈gl/\g∈ch
 |[],_,_,_,h=>by simp[jaM] at h
 | (f,g,x)::r,ch,s,v,h=>by
  simp only[jaM] at h
  split at h
  .rename_i d
   rcases jG4.1 h with e|h
   .simp at e;obtain⟨rfl,rfl⟩:=e;exact⟨g,jHH,jkr _ _ d⟩
   .obtain⟨a,b,c⟩:=jaL r ch s v h;exact⟨a,jHb _ b,c⟩
  .obtain⟨a,b,c⟩:=jaL r ch s v h;exact⟨a,jHb _ b,c⟩
theorem v6 {R:RS} (b:jgz P ρ R.st.sl a) (f:GL P ops ρ R.gl a) {ch:List (Nat×Bool)} (c:∀g,g∈ch->jgE ops a g):jgz P ρ (ze R ch).sl a:=by
 intro s sv h;simp only[ze] at h;rw[jj] at h
 split at h
 .rename_i v i;simp at h;subst h;obtain⟨g,d,e⟩:=jaL _ _ _ _ (zD _ _ _ i);exact(f s g _ d).1 (c g e)
 .exact b s sv h
theorem ji2 (t:Nat):∀(l:List Oper) (j k:Nat),k∈jbV t l j->∃o,l[k-j]? =some o/\o.dst=some t/\j<=k
 |[],_,_,h=>by simp[jbV] at h
 |o::r,j,k,h=>by
  have a:k∈jbV t r (j+1)->∃o',(o::r)[k-j]? =some o'/\o'.dst=some t/\j<=k:=by
   intro h;obtain⟨o',b,c,g⟩:=ji2 t r (j+1) k h;refine⟨o',?_,c,by omega⟩;rw[show k-j=(k-(j+1))+1 by omega];simpa using b
  simp only[jbV] at h
  split at h
  .rename_i d f
   split at h
   .rename_i e;rcases jG4.1 h with rfl|h
    .exact⟨o,by simp,by rw[f,jG0 e],jG5 _⟩
    .exact a h
   .exact a h
  .exact a h
theorem joo {c:Operand} {f:Bool} (l:a.eval c= .bool f):∀g,g∈jbc ops.toList c f->jgE ops a g:=by
 intro g b;unfold jbc at b
 split at b
 .rename_i t e;obtain⟨j,k,rfl⟩:=jHy.1 b;obtain⟨o,d,h,_⟩:=ji2 t _ 0 j k;have i:gD ops.toList j=some t:=(by unfold gD;simp only[Nat.sub_zero] at d;rw[d];exact h);rw[jc7 i];cases c<;>simp[jod] at e
  subst e;exact jnk (by simpa[Act.eval] using l)
 .simp at b
theorem jAd {R:RS} {o:Oper} {c x y:Operand} {ch:List (Nat×Bool)} {out:Out} (z:o.op= .pick c x y) (h:jsG ops.toList R ch c x y=some out) (D:Sat P B ρ R.st.obj w) (n:jgz P ρ R.st.sl a) (u:GL P ops ρ R.gl a)
 (s:∀g,g∈ch->jgE ops a g):jI P o a.eval w (jF P B ρ R.st out):=by
 unfold jsG at h
 split at h
 case h_2=>cases h
 rename_i d G;have f:=jO (a:=a) (v6 n u s) c;rw[G] at f;have f:=zY (by simpa[SV.den] using f);have l:(execOp a.eval o).run P w= .ok (.value (if d then a.eval x else a.eval y)) w:=by
  simp[execOp,z,f,asBool]
 have k:∀b,d=b->∀g,g∈jbc ops.toList c b++ch->jgE ops a g:=by
  rintro b rfl g t;rcases jHa.1 t with t|t
  .exact joo f g t
  .exact s g t
 have i:d=true->SV.den P ρ (jQ (ze R (jbc ops.toList c true++ch)) x) (a.eval x):=fun e=>jO (a:=a) (v6 n u (k true e)) x
 have j:d=false->SV.den P ρ (jQ (ze R (jbc ops.toList c false++ch)) y) (a.eval y):=fun e=>jO (a:=a) (v6 n u (k false e)) y
 split at h
 .rename_i p q A C;rw[A] at i;rw[C] at j;have i:d=true->a.eval x= .bool p:=fun e=>zY (by simpa[SV.den] using i e)
  have j:d=false->a.eval y= .bool q:=fun e=>zY (by simpa[SV.den] using j e)
  have m:∀r,(d=true->r=p)->(d=false->r=q)->jI P o a.eval w (jF P B ρ R.st (.pure (.dat .bool r))):=by
   intro r E F;refine jk D (v:= .bool r) ?_ (wZ r) trivial;rw[l];cases d with
   |true=>simp[i rfl,E rfl]
   |false=>simp[j rfl,F rfl]
  split at h
  .simp at h;subst h;refine m _ (fun e=>by simp[e]) (fun e=> ?_);have:=j e;simp[Act.eval] at this;simp[e,this]
  .split at h
   .simp at h;subst h;refine m _ (fun e=> ?_) (fun e=>by simp[e]);have:=i e;simp[Act.eval] at this;simp[e,this]
   .simp at h;subst h;exact m _ (fun e=>by simp[e]) (fun e=>by simp[e])
 .rename_i p q A C;rw[A] at i;rw[C] at j;have i:d=true->a.eval x= .int .i64 p:=fun e=>zF (by simpa[SV.den] using i e)
  have j:d=false->a.eval y= .int .i64 q:=fun e=>zF (by simpa[SV.den] using j e)
  simp at h;subst h;refine jk D (v:= .int .i64 (cond d p q)) ?_ (w6 _) trivial;rw[l];cases d with
  |true=>simp[i rfl]
  |false=>simp[j rfl]
 .cases h
end
end Go.X
namespace Go.X
open Go.RowKit (Below)
section
variable {P:Program} {B:zV} {C:Ctx} {w:World} {ops:Array Oper} {a:Act} {o:Oper}
def Inv (P:Program) (B:zV) (n:Nat) (ops:Array Oper) (rs:RS) (a:Act) (w:World):Prop:=
 a.defers=[]/\a.tmps.size=n/\∃ρ,Sat P B ρ rs.st.obj w/\jgz P ρ rs.st.sl a/\GL P ops ρ rs.gl a/\Pin B ρ
def jCS (g:Option Bool) (l:List Prop):Prop:=match g with
 |none=>k8 l
 |some γ=>γ=true->k8 l
def jEz (e:Eff) (v:SV):Prop:=(∃s,(s,v)∈e.sl)\/∃s g,(s,g,v)∈e.gl
structure Fit (P:Program) (B:zV) (rs R:RS) (e:Eff):Prop where
 sl:∀s v,jD R.st.sl s=some v->jD rs.st.sl s=some v
 gl:∀x,x∈R.gl->x∈rs.gl
 obj:∀o x,R.st.obj o=some x->rs.st.obj o=some x
 go:∀ρ w,Sat P B ρ rs.st.obj w->(∀d,d∈e.nw->rs.st.obj d=none/\kN rs.st.obj d)->∃B' ρR,ρ.le ρR []/\Sat P B' ρR R.st.obj w/\
  ∀ρ' w',Sat P B' ρ' ({R.st with ob:=e.ob++R.st.ob}:St).obj w'->ρR.le ρ' e.nw->
   ∃ρ'',Sat P B ρ'' (zr e rs).st.obj w'/\ρ.le ρ'' e.nw/\∀v x,jEz e v->SV.den P ρ' v x->SV.den P ρ'' v x
theorem Fit.refl (P:Program) (B:zV) (rs:RS) (e:Eff):Fit P B rs rs e:=
 ⟨fun _ _ h=>h,fun _ h=>h,fun _ _ h=>h,fun ρ _ d _=>⟨B,ρ,Env.le.refl _ _,d,fun c _ a b=>⟨c,a,b,fun _ _ _ h=>h⟩⟩⟩
structure jAT (rs:RS) (d:Nat):Prop where
 obj:rs.st.obj d=none
 sl:∀s v,(s,v)∈rs.st.sl->v.refs d=false
 gl:∀s g v,(s,g,v)∈rs.gl->v.refs d=false
 ob:∀o T fz cs,(o,some (.box T fz cs))∈rs.st.ob->SV.refs.refsL d cs=false
 lt:d<1000000
theorem jAT.noRef {rs:RS} {d:Nat} (h:jAT rs d):kN rs.st.obj d:=by
 intro o T fz cs a;simp only[St.obj] at a
 split at a
 .rename_i x b;subst a;exact h.ob o T fz cs (zD _ _ _ b)
 .cases a
theorem jeJ:∀(sl:List (Nat×SV)) (d s:Nat) (v:SV),jeK d sl=true->(s,v)∈sl->v.refs d=false
 |[],_,_,_,_,h=>by simp at h
 | (j,x)::r,d,s,v,a,h=>by
  simp only[jeK] at a
  cases b:x.refs d with
  |true=>rw[b] at a;cases a
  |false=>
   rw[b] at a
   rcases jG4.1 h with e|h
   .simp at e;obtain⟨_,rfl⟩:=e;exact b
   .exact jeJ r d s v a h
theorem jkH:∀(gl:List (Nat×(Nat×Bool)×SV)) (d s:Nat) g v,jor d gl=true->(s,g,v)∈gl->v.refs d=false
 |[],_,_,_,_,_,h=>by simp at h
 | (j,c,x)::r,d,s,g,v,a,h=>by
  simp only[jor] at a
  cases b:x.refs d with
  |true=>rw[b] at a;cases a
  |false=>
   rw[b] at a
   rcases jG4.1 h with e|h
   .simp at e;obtain⟨_,_,rfl⟩:=e;exact b
   .exact jkH r d s g v a h
theorem qW:∀(ob:List (Nat×Option Ob)) (d o T:Nat) fz cs,qX d ob=true->(o,some (.box T fz cs))∈ob->SV.refs.refsL d cs=false
 |[],_,_,_,_,_,_,h=>by simp at h
 | (j,y)::r,d,o,T,fz,cs,a,h=>by
  have c:qX d r=true/\∀T fz cs,y=some (.box T fz cs)->SV.refs.refsL d cs=false:=by
   unfold qX at a
   split at a
   .rename_i e;cases e
   .rename_i e;cases e
    split at a
    .cases a
    .rename_i f;exact⟨a,fun T fz cs e=>by simp at e;obtain⟨rfl,rfl,rfl⟩:=e;exact f⟩
   .rename_i e;cases e;rename_i b;exact⟨a,fun T fz cs e=>by subst e;exact(b _ _ _ _ rfl).elim⟩
  rcases jG4.1 h with e|h
  .simp at e;obtain⟨_,e⟩:=e;exact c.2 T fz cs e.symm
  .exact qW r d o T fz cs c.1 h
theorem yB {rs:RS} {d:Nat} (h:js8 rs d=true):jAT rs d:=by
 unfold js8 at h
 split at h
 .rename_i b c e f;exact⟨b,fun s v a=>jeJ _ _ s v c a,fun s g v a=>jkH _ _ s g v e a,fun o T fz cs i=>qW _ _ o T fz cs f i,jHg h⟩
 .cases h
theorem jeN (d:Nat):∀(t:Ty) (x:t.Data),SV.refs.refsL d (jmT t x)=false
 | .int,_=>rfl
 | .bool,_=>rfl
 | .uint _,_=>rfl
 | .slice _,_=>rfl
 | .map _ _,_=>rfl
 | .ptr _,_=>rfl
 | .unit,_=>rfl
 | .pair a b,x=>by
  have e:∀(l r:List SV),SV.refs.refsL d l=false->SV.refs.refsL d r=false->SV.refs.refsL d (l++r)=false:=by
   intro l r c g
   induction l with
   |nil=>simpa using g
   |cons v l h=>
    simp only[jHx,SV.refs.refsL] at c⊢;cases f:v.refs d with
    |true=>rw[f] at c;cases c
    |false=>rw[f] at c;exact h c
  exact e _ _ (jeN d a x.1) (jeN d b x.2)
theorem jw8 {σ:St} {sv:SV} {cs:List SV} {d:Nat} (h:cells σ sv=some cs) (a:sv.refs d=false):SV.refs.refsL d cs=false:=by
 have one:∀v:SV,v.refs d=false->SV.refs.refsL d [v]=false:=fun v b=>by simp[SV.refs.refsL,b]
 unfold cells at h
 split at h<;>first
  | (cases h;done)
  | (simp at h;subst h;simpa[SV.refs] using a)
  | (simp at h;subst h;exact jeN d _ _)
  | (split at h
     .simp at h;subst h;exact one _ a
     .cases h)
  | (simp at h;subst h;exact one _ a)
theorem jum (R:RS) (ch:List (Nat×Bool)):(ze R ch).obj=R.st.obj:=rfl
theorem jyH {rs R:RS} {e:Eff} (h:Fit P B rs R e) {d:Nat} (b:∀s v,jD rs.st.sl s=some v->v.refs d=false) (a:∀s g v,(s,g,v)∈rs.gl->v.refs d=false) (ch:List (Nat×Bool)) (x:Operand):
 (jQ (ze R ch) x).refs d=false:=by
 cases x with
 |tmp t=>
  simp only[jQ,St.get,ze];rw[jj];cases c:jD (jaM R.gl ch) t with
  |some v=>
   obtain⟨g,i,_⟩:=jaL _ _ _ _ (zD _ _ _ c);exact a t g v (h.gl _ i)
  |none=>
   simp only;cases c:jD R.st.sl t with
   |some v=>exact b t v (h.sl t v c)
   |none=>rfl
 |const v=>cases v<;>simp only[jQ,jlJ]<;>first|rfl|(split<;>rfl)
 |global g=>rfl
 |func f=>rfl
theorem jp0 {rs R:RS} {e:Eff} {ρ:Env} {B':zV} {ch:List (Nat×Bool)} {out:Out} (K:C.ok P) (E:Fit P B rs R e) (h:gq C ops.toList o R ch=some out) (G:Sat P B' ρ R.st.obj w) (i:jgz P ρ R.st.sl a) (F:GL P ops ρ R.gl a)
 (j:∀g,g∈ch->jgE ops a g) (I:k8 out.vc) (f:(out.nw≠[]\/jcx o.op=true)->jAT rs (jlW o)):jI P o a.eval w (jF P B' ρ R.st out):=by
 unfold gq at h
 split at h
 .rename_i c x y q;exact jAd q h G i F j
 case h_2 U n parts g q hgd=>
  have m:∀{v w'},jF P B' ρ (ze R ch) out v w'->jF P B' ρ R.st out v w':=fun h=>by
   obtain⟨t,d,z,A,D⟩:=h;refine⟨t,?_,z,A,D⟩;have e:({(ze R ch) with ob:=out.wr++(qG (ze R ch) out.fz++(ze R ch).ob)}:St).obj=({R.st with ob:=out.wr++(qG R.st out.fz++R.st.ob)}:St).obj:=by
    have:∀l,qG (ze R ch) l=qG R.st l:=by
     intro l
     induction l with
     |nil=>rfl
     |cons k r J=>simp only[qG,jum,J]
    funext k;simp only[St.obj,this];rfl
   rw[e] at d;exact d
  exact jI.mono (jtI (σ:=ze R ch) K q h G (fun x=>jO (a:=a) (v6 i F j) x)) fun v w'=>m
 .rename_i M _;have m:∀{v w'},jF P B' ρ (ze R ch) out v w'->jF P B' ρ R.st out v w':=fun h=>by
   obtain⟨t,d,z,A,D⟩:=h;refine⟨t,?_,z,A,D⟩;have e:({(ze R ch) with ob:=out.wr++(qG (ze R ch) out.fz++(ze R ch).ob)}:St).obj=({R.st with ob:=out.wr++(qG R.st out.fz++R.st.ob)}:St).obj:=by
    have:∀l,qG (ze R ch) l=qG R.st l:=by
     intro l
     induction l with
     |nil=>rfl
     |cons k r J=>simp only[qG,jum,J]
    funext k;simp only[St.obj,this];rfl
   rw[e] at d;exact d
  have b:jAT rs (jlW o)->R.st.obj (jlW o)=none/\kN R.st.obj (jlW o)/\∀x cs,cells (ze R ch) (jQ (ze R ch) x)=some cs->SV.refs.refsL (jlW o) cs=false:=by
   intro u;have d:=u.obj;refine⟨?_,fun k T fz cs hk=>u.noRef k T fz cs (E.obj _ _ hk),fun x cs H=>jw8 H (jyH E (fun s v h=>u.sl s v (zD _ _ _ h)) u.gl ch x)⟩;cases N:R.st.obj (jlW o) with
   |none=>rfl
   |some x=>rw[E.obj _ _ N] at d;cases d
  refine jI.mono (jqT (σ:=ze R ch) K h G (fun x=>jO (a:=a) (v6 i F j) x) I (fun p=> ?_) (fun c L p=> ?_)) fun v w'=>m
  .exact b (f (.inl p))
  .have:=b (f (.inr (by
    rw[L];unfold jcx
    split
    .rename_i h;cases h;split
     .rename_i h;exact absurd h p
     .rfl
    .rename_i h;exact absurd rfl (h c))))
   exact⟨this.1,this.2.1⟩
theorem jqG:∀(l:List Oper) (d:Nat) (gl:List (Nat×(Nat×Bool)×SV)),jCb l d gl=true->∀s j b v,(s,(j,b),v)∈gl->s≠d/\∃dj,gD l j=some dj/\dj≠d
 |_,_,[],_,s,j,b,v,a=>by simp at a
 |l,d,(m,(k,i),n)::r,h,s,j,b,v,a=>by
  simp only[jCb] at h
  split at h
  .rename_i dj f g
   split at h
   .cases h
   .rename_i c
    rcases jG4.1 a with e|a
    .simp at e;obtain⟨rfl,⟨rfl,rfl⟩,rfl⟩:=e
     exact⟨zb f,dj,g,zb c⟩
    .exact jqG l d r h s j b v a
  .cases h
theorem jnM (a:Act) (d s:Nat) (v:Value):(a.put (some d) v).tmps.getD s undef=if s=d/\d<a.tmps.size then v else a.tmps.getD s undef:=by
 simp only[Act.put,jG9,jHl];by_cases e:s=d
 .subst e;by_cases b:s<a.tmps.size
  .simp[b]
  .simp[b]
 .rw[if_neg (fun h=>e h.symm),if_neg (fun h=>e h.1)]
theorem jux {d j:Nat} {b:Bool} {v:Value} {dj:Nat} (e:gD ops.toList j=some dj) (c:dj≠d):jgE ops (a.put (some d) v) (j,b)↔jgE ops a (j,b):=by
 rw[jc7 e,jc7 e];simp only[Act.put,jHl];rw[if_neg (fun h=>c h.symm)]
structure joR (C:Ctx) (ops:Array Oper) (o:Oper) (rs:RS) (e:Eff):Prop where
 frame:∀d,o.dst=some d->d<C.n
 gl:∀d,o.dst=some d->∀s j b v,(s,(j,b),v)∈rs.gl->s≠d/\∃dj,gD ops.toList j=some dj/\dj≠d
 guard:∀d,o.dst=some d->∀j b,o.guard=some (j,b)->∃dj,gD ops.toList j=some dj/\dj≠d
 nw:∀d,d∈e.nw->jAT rs d
 dst:(e.nw≠[]\/jcx o.op=true)->jAT rs (jlW o)
theorem ja5 {rs:RS} (h:jyZ ops.toList o rs=true) {d:Nat} (g:o.dst=some d):(∀s j b v,(s,(j,b),v)∈rs.gl->s≠d/\∃dj,gD ops.toList j=some dj/\dj≠d)/\
 ∀j b,o.guard=some (j,b)->∃dj,gD ops.toList j=some dj/\dj≠d:=by
 unfold jyZ at h;rw[g] at h;simp only at h
 split at h
 .rename_i a;refine⟨jqG _ _ _ h,fun j b e=> ?_⟩;rw[e] at a;simp only[jyY] at a
  split at a
  .rename_i dj c
   split at a
   .cases a
   .rename_i f;exact⟨dj,c,zb f⟩
  .cases a
 .cases h
theorem jeC {rs:RS} {e:Eff} {ρ ρ'':Env} {w':World} {n:Nat} {v:Value} (F:a.defers=[]) (K:a.tmps.size=n) (G:jgz P ρ rs.st.sl a) (N:GL P ops ρ rs.gl a) (y:Pin B ρ)
 (O:Sat P B ρ'' (zr e rs).st.obj w') (u:ρ.le ρ'' e.nw) (i:joR C ops o rs e) (I:∀d,o.dst=some d->d<n)
 {sv gv:SV} (E:e.sl=jpH o sv) (z:∀d,o.dst=some d->SV.den P ρ'' sv v) (A:∀x,x∈e.gl->∃d g,o.dst=some d/\o.guard=some g/\x=(d,g,gv))
 (S:∀d g,o.dst=some d->o.guard=some g->(jgE ops a g->SV.den P ρ'' gv v)/\(¬jgE ops a g->v=undef)):
 Inv P B n ops (zr e rs) (a.put o.dst v) w':=by
 have p:∀s f,jD rs.st.sl s=some f->SV.den P ρ'' f (a.tmps.getD s undef):=fun s f h=>
  SV.den_mono u _ _ (fun r L=>(i.nw r L).sl s f (zD _ _ _ h)) (G s f h)
 have q:∀s g l,(s,g,l)∈rs.gl->SV.den P ρ l (a.tmps.getD s undef)->SV.den P ρ'' l (a.tmps.getD s undef):=fun s g l h H=>
  SV.den_mono u _ _ (fun r L=>(i.nw r L).gl s g l h) H
 have m:Pin B ρ'':=y.mono u (fun d F=>(i.nw d F).lt);cases c:o.dst with
 |none=>
  refine⟨F,K,ρ'',O,?_,?_,m⟩
  .intro s f h;simp only[zr,E,jpH,c,jHz] at h;exact p s f h
  .intro s g l k;simp only[zr] at k;rcases jHa.1 k with k|k
   .obtain⟨d,_,t,_⟩:=A _ k;rw[c] at t;cases t
   .obtain⟨t,w⟩:=N s g l k;exact⟨fun J=>q s g l k (t J),w⟩
 |some d=>
  have D:d<a.tmps.size:=(by rw[K];exact I d c);have T:=i.gl d c;have V:=i.guard d c;refine⟨by simpa[Act.put] using F,by simpa[Act.put] using K,ρ'',O,?_,?_,m⟩
  .intro s f h;simp only[zr,E,jpH,c,List.singleton_append] at h;rw[jnM];by_cases e:s=d
   .subst e;rw[jK] at h;simp at h;subst h;rw[if_pos ⟨rfl,D⟩];exact z s c
   .rw[jB (fun h=>e h.symm)] at h;rw[if_neg (fun h=>e h.1)];exact p s f h
  .intro s g l k;simp only[zr] at k;rcases jHa.1 k with k|k
   .obtain⟨Z,g',t,w,M⟩:=A _ k;rw[c] at t;simp at t M;obtain⟨rfl,rfl,rfl⟩:=M;subst t;obtain⟨j,b⟩:=g;obtain⟨dj,Q,R⟩:=V j b w;rw[jux Q R,jnM,if_pos ⟨rfl,D⟩];exact S d (j,b) c w
   .obtain⟨j,b⟩:=g;obtain⟨t,w⟩:=N s (j,b) l k;obtain⟨W,dj,X,Y⟩:=T s j b l k;rw[jux X Y,jnM,if_neg (fun h=>W h.1)];exact⟨fun J=>q s (j,b) l k (t J),w⟩
theorem jc0 {rs:RS}:∀(l:List Nat),jmv rs l=true->∀d,d∈l->js8 rs d=true
 |[],_,d,h=>by simp at h
 |x::r,h,d,a=>by
  simp only[jmv] at h
  split at h
  .rename_i b
   rcases jG4.1 a with rfl|a
   .exact b
   .exact jc0 r h d a
  .cases h
theorem qY {rs:RS} {e:Eff} (h:fits C ops.toList o rs e=true):joR C ops o rs e:=by
 unfold fits at h
 split at h
 .rename_i b f k g;refine⟨fun d a=> ?_,fun d a=>(ja5 f a).1,fun d a=>(ja5 f a).2,fun d a=>yB (jc0 _ k d a),fun c=>yB ?_⟩
  .rw[a] at b;simp only[jeE] at b;exact jHg b
  .split at g
   .rename_i i j;rcases c with h|h
    .exact absurd i h
    .rw[j] at h;cases h
   .exact g
 .cases h
theorem qQ (hC:C.ok P) {rs R:RS} {e:Eff} (l:jav C ops.toList o R=some e) (c:joR C ops o rs e) (N:Fit P B rs R e) (hI:Inv P B C.n ops rs a w) (X:jCS e.guard e.vc)
 {K:Act->World->Prop} {Q:Exit->Act->World->Prop} (hK:∀a' w',Inv P B C.n ops (zr e rs) a' w'->jCS e.guard e.fact->K a' w'):
 if Region.wanted o (yielded ops a.tmps) then o.wp P a w K Q else K (a.put o.dst undef) w:=by
 obtain⟨O,V,ρ,hS,A,T,m⟩:=hI;have f1:=c.frame;have f4:=c.dst;obtain⟨B',ρR,F,H,J⟩:=N.go ρ w hS (fun d O=>⟨(c.nw d O).obj,(c.nw d O).noRef⟩);have p:jgz P ρR R.st.sl a:=fun s sv h=>SV.den_mono F _ _ (fun r hr=>by simp at hr) (A s sv (N.sl s sv h))
 have z:GL P ops ρR R.gl a:=fun s g v h=>⟨fun hh=>SV.den_mono F _ _ (fun r hr=>by simp at hr) ((T s g v (N.gl _ h)).1 hh),(T s g v (N.gl _ h)).2⟩
 have hle2:∀{ρ'':Env},ρ.le ρ'' e.nw->ρ.le ρ'' e.nw:=fun h=>h
 unfold jav at l
 split at l
 .--no guard
  rename_i k
  split at l
  .cases l
  rename_i out q;simp at l;subst l;have hw:Region.wanted o (yielded ops a.tmps)=true:=(by simp[Region.wanted,k]);rw[if_pos hw];have I:=jp0 (w:=w) (a:=a) hC N q H p z (fun g hg=>by simp at hg) X f4;refine I.wp fun v w' hL=> ?_
  obtain⟨y,L,M,g3,g4⟩:=hL;obtain⟨ρ'',Y,Z,q3⟩:=J y w' (by simpa only[jHn] using L) M;refine hK _ _ (jeC (gv:= .any) O V A T m Y Z c f1 rfl (fun d f=>q3 _ _ (.inl ⟨d,by simp[jpH,f]⟩) g3) (fun x S=>by simp at S) (fun d g _ hg=>by rw[k] at hg;cases hg)) g4
 .rename_i g k
  split at l
  .cases l
  rename_i γ hγ
  split at l
  .cases l
  rename_i out q
  split at l
  case h_2=>cases l
  rename_i hwr W;simp at l;subst l;have E:=y4 p z _ _ _ hγ;have t:(Region.wanted o (yielded ops a.tmps)=true)↔jgE ops a g:=by
   obtain⟨j,b⟩:=g;simp[Region.wanted,k,jgE]
  have D:∀x,x∈(match o.dst with|some d=>[(d,g,out.sv)]|none=>[])->∃d g',o.dst=some d/\o.guard=some g'/\x=(d,g',out.sv):=by
   intro x S
   split at S
   .rename_i d f;simp at S;exact⟨d,g,f,k,S⟩
   .simp at S
  by_cases G:jgE ops a g
  .rw[if_pos (t.2 G)];have u:=E.1 G;have I:=jp0 (w:=w) (a:=a) hC N q H p z (jeT z _ _ G) (X u) (fun hor=>f4 (hor.imp (fun h=>absurd W h) id));refine I.wp fun v w' hL=> ?_
   obtain⟨y,L,M,g3,g4⟩:=hL;rw[hwr] at L;rw[W] at M;obtain⟨ρ'',Y,Z,q3⟩:=J y w' (by simpa only[jHz] using L) M;refine hK _ _ (jeC (sv:= .any) O V A T m Y Z c f1 rfl (fun d f=>wn _) D (fun d g' f i=>⟨fun _=> ?_,fun V=> ?_⟩)) (fun _=>g4)
   .exact q3 _ _ (.inr ⟨d,g,by simp[f]⟩) g3
   .rw[k] at i;simp at i;subst i;exact absurd G V
  .rw[if_neg (fun h=>G (t.1 h))];obtain⟨y,L,M,_,_⟩:=jX out.fz H;obtain⟨ρ'',Y,Z,q3⟩:=J y w L M;refine hK _ _ (jeC (sv:= .any) O V A T m Y Z c f1 rfl (fun d f=>wn _) D (fun d g' f i=>⟨fun hh=> ?_,fun _=>rfl⟩)) (fun u=>absurd (E.2 u) G);rw[k] at i;simp at i;subst i;exact absurd hh G
end
end Go.X
namespace Go.X
open Go.RowKit (Below)
theorem jiY:∀(l:List Prop) (k:Prop),asks l k->k8 l/\k
 |[],_,h=>⟨trivial,h⟩
 |_::r,k,h=>⟨⟨h.1,(jiY r k h.2).1⟩,(jiY r k h.2).2⟩
theorem jgt (γ:Bool):∀(l:List Prop) (k:Prop),jAE γ l k->(γ=true->k8 l)/\k
 |[],_,h=>⟨fun _=>trivial,h⟩
 |_::r,k,h=>⟨fun e=>⟨h.1 e,(jgt γ r k h.2).1 e⟩,(jgt γ r k h.2).2⟩
theorem vw:∀(l:List Prop) (k:Prop),jop l k->k8 l->k
 |[],_,h,_=>h
 |_::r,k,h,a=>vw r k (h a.1) a.2
theorem jmL (γ:Bool):∀(l:List Prop) (k:Prop),jzO γ l k->(γ=true->k8 l)->k
 |[],_,h,_=>h
 |_::r,k,h,a=>jmL γ r k (h fun e=>(a e).1) fun e=>(a e).2
theorem jd5 {e:Eff} {es:List Eff} {k:Prop} (h:zQ false (e::es) k):jCS e.guard e.vc/\(jCS e.guard e.fact->zQ false es k):=by
 simp only[zQ] at h;cases b:e.guard with
 |none=>rw[b] at h;have:=jiY _ _ h;exact⟨this.1,fun a=>vw _ _ this.2 a⟩
 |some γ=>rw[b] at h;have:=jgt γ _ _ h;exact⟨this.1,fun a=>jmL γ _ _ this.2 a⟩
theorem ye {k:Prop}:∀(es:List Eff),zQ true es k->(∀e,e∈es->jCS e.guard e.vc)/\k
 |[],h=>⟨fun e f=>by simp at f,h⟩
 |e::es,h=>by
  simp only[zQ] at h
  have:jCS e.guard e.vc/\zQ true es k:=by
   cases b:e.guard with
   |none=>rw[b] at h;exact jiY _ _ h
   |some γ=>rw[b] at h;exact jgt γ _ _ h
  obtain⟨c,d⟩:=ye es this.2;refine⟨fun x a=> ?_,d⟩;rcases jG4.1 a with rfl|a
  .exact this.1
  .exact c x a
section
variable {P:Program} {B:zV} {C:Ctx} {ops:Array Oper} {Q:Exit->Act->World->Prop}
theorem wF (m:C.ok P) {k:Prop}:∀(l:List Oper) (rs b:RS) (es:List Eff) (a:Act) (w:World),vP C ops.toList l rs=some (es,b)->zQ false es k->Inv P B C.n ops rs a w->
 (k->∀d w',Inv P B C.n ops b d w'->Q .normal d w')->wpList P ops Q l a w
 |[],rs,b,es,a,w,h,hk,f,i=>by
  simp[vP] at h
  obtain⟨rfl,rfl⟩:=h
  exact i hk a w f
 |o::r,rs,b,es,a,w,h,hk,f,i=>by
  simp only[vP] at h
  split at h
  .cases h
  rename_i e t
  split at h
  .cases h
  rename_i u
  split at h
  .cases h
  rename_i p x v
  simp at h
  obtain⟨rfl,rfl⟩:=h
  obtain⟨q,s⟩:=jd5 hk
  have:=qQ (K:=wpList P ops Q r) (Q:=Q) m t (qY u) (Fit.refl P B rs e) f q (fun d w' g c=>wF m r _ _ _ d w' v (s c) g i)
  unfold wpList
  split
  .rename_i j;rw[if_pos j] at this;exact .inl this
  .rename_i j;rw[if_neg j] at this;exact this
theorem qT (σ:St) (p:SV->Bool):∀(l:List (Nat×SV)) (s:Nat) (v:SV),jD (jdp σ p l) s=some v->v= .any
 |[],s,v,h=>by simp[jdp,jD] at h
 | (j,x)::r,s,v,h=>by
  simp only[jdp] at h
  split at h
  .simp only[jD] at h
   cases a:Nat.beq j s with
   |true=>rw[a] at h;simp at h;exact h.symm
   |false=>rw[a] at h;exact qT σ p r s v h
  .exact qT σ p r s v h
theorem kS (σ:St) (p:SV->Bool):∀(l:List (Nat×SV)) (s:Nat),jD (jdp σ p l) s=none->jD l s≠none->p (σ.get s)=false
 |[],s,_,h=>by simp[jD] at h
 | (j,x)::r,s,h,hl=>by
  simp only[jdp] at h
  simp only[jD] at hl
  cases a:Nat.beq j s with
  |true=>
   have:=jG0 a
   subst this
   split at h
   .simp[jD] at h
   .rename_i b;exact b
  |false=>
   rw[a] at hl
   split at h
   .simp only[jD,a] at h;exact kS σ p r s h hl
   .exact kS σ p r s h hl
theorem jdE {n m:Nat} {σ:St} {a:Act} {w:World} (h:Rel P B n σ a w):Rel P B n (gc m σ) a w:=by
 unfold gc
 split
 .exact h
 .obtain⟨c,d,ρ,e,f,g⟩:=h;refine⟨c,d,ρ,e,fun s v b=> ?_,g⟩;simp only at b;rw[jj] at b
  split at b
  .rename_i x i;simp at b;subst b;rw[qT _ _ _ _ _ i];exact wn _
  .exact f s v b
theorem jaY {os:List Nat} {v:SV} (h:jen os v=false):∀o,o∈os->v.refs o=false:=by
 induction os with
 |nil=>intro o a;simp at a
 |cons x r c=>
  intro o a;simp only[jen] at h
  split at h
  .cases h
  .rename_i b;rcases jG4.1 a with rfl|a
   .exact b
   .exact c h o a
theorem jv0 {n s:Nat} {σ:St} {a:Act} {w:World} (h:Rel P B n σ a w):Rel P B n (jpO s σ) a w:=by
 unfold jpO
 split
 case h_2=>exact h
 rename_i o t M
 split
 .exact h
 rename_i A;have A:o≠s:=zb A
 split
 case h_2=>exact h
 rename_i x D z;simp only[jG3] at z;obtain⟨z,O⟩:=z;have O:=jHg O;obtain⟨h1,h2,ρ,f,K,C⟩:=h
 let c:Env:={H:=ρ.H,blk:=fun k=>if k=s then ρ.blk o else if k=o then none else ρ.blk k,len:=fun k=>if k=s then ρ.len o else ρ.len k}
 have N:ρ.le c [s]:=⟨fun _ _ h=>h,fun k p hk g=>by
  have hk:k≠s:=(by simpa using hk);simp only[c,hk,if_false] at g
  split at g
  .cases g
  .exact g,fun k hk=>by simp[c,show k≠s by simpa using hk]⟩
 have m:∀k,({σ with ob:=(s,some x)::(o,none)::σ.ob}:St).obj k=if k=s then some x else if k=o then none else σ.obj k:=by
  intro k;rw[wS,wS]
 have L:∀k T fz cs,σ.obj k=some (.box T fz cs)->SV.refs.refsL s cs=false:=by
  intro k T fz cs hk;simp only[St.obj] at hk
  split at hk
  .rename_i y Y;subst hk;exact qW _ _ k T fz cs z (zD _ _ _ Y)
  .cases hk
 have F:∀k (y:Ob) p,σ.obj k=some y->zq P ρ w k p y->k≠s->zq P c w k p y:=by
  intro k y p hk R G;exact jU N (by simpa using G) (fun T fz cs e r Q=>by simp at Q;subst Q;subst e;exact L k T fz cs hk) (fun _ _ _=>⟨rfl,rfl⟩) R
 refine⟨h1,h2,c,⟨f.os,f.tape,f.output,f.drawn,f.size,f.good,f.oldH,f.old,?_,?_,?_,?_⟩,?_,?_⟩
 rotate_right
 .refine⟨fun k p hk S=> ?_,C.2⟩;have G:k≠s:=fun e=>by omega
  simp only[c,if_neg G] at S⊢
  split at S
  .cases S
  .exact C.1 k p hk S
 .intro k y hk;have d:=m k;simp only[St.obj] at hk d;rw[d] at hk;by_cases e:k=s
  .subst e;rw[if_pos rfl] at hk;simp at hk;subst hk;obtain⟨p,g,R⟩:=f.obs o x D;refine⟨p,by simp[c,g],?_⟩;have i:=F o x p D R A;cases x with
   |box T fz cs=>exact i
   |row E u fz nl l=>
    simp only[zq] at i⊢;obtain⟨q1,q2⟩:=i;refine⟨?_,q2⟩;have W:c.len k=ρ.len o:=(by simp[c]);have J:c.len o=ρ.len o:=(by simp[c,A]);rw[W,<-J];exact q1
   |map fz kt vt l=>exact i
   |iter kt vt left cur=>exact i
   |mape kt vt l key st=>exact i
  .rw[if_neg e] at hk;by_cases j:k=o
   .rw[if_pos j] at hk;cases hk
   .rw[if_neg j] at hk;obtain⟨p,g,R⟩:=f.obs k y hk;exact⟨p,by simp[c,e,j,g],F k y p hk R e⟩
 .intro k hk;have d:=m k;simp only[St.obj] at hk d;rw[d] at hk;by_cases e:k=s
  .rw[if_pos e] at hk;cases hk
  .rw[if_neg e] at hk;by_cases j:k=o
   .simp only[c];rw[if_neg e,if_pos j]
   .rw[if_neg j] at hk;simp only[c];rw[if_neg e,if_neg j];exact f.dead k hk
 .intro k k' b Z C2 hk d;simp only[c] at hk d;by_cases e:k=s<;>by_cases j:k'=s
  .rw[e,j]
  .rw[if_pos e] at hk;rw[if_neg j] at d
   split at d
   .cases d
   .rename_i J;exact absurd (f.inj _ _ _ _ _ hk d).symm J
  .rw[if_neg e] at hk;rw[if_pos j] at d
   split at hk
   .cases hk
   .rename_i J;exact absurd (f.inj _ _ _ _ _ hk d) J
  .rw[if_neg e] at hk;rw[if_neg j] at d
   split at hk
   .cases hk
   .split at d
    .cases d
    .exact f.inj _ _ _ _ _ hk d
 .intro k b Z hk;simp only[c] at hk
  split at hk
  .exact f.own _ _ _ hk
  .split at hk
   .cases hk
   .exact f.own _ _ _ hk
 .intro k v q;simp only at q;by_cases e:k=s
  .subst e;rw[jK] at q;simp at q;subst q;have V:=jO (a:=a) K (.tmp k);simp only[jQ] at V;rw[M] at V;simp only[SV.den] at V⊢;intro p g;have X:ρ.blk o=some p:=(by simpa[c] using g);have W:c.len k=ρ.len o:=(by simp[c]);rw[W];exact V p X
  .rw[jB (fun h=>e h.symm),jj] at q
   split at q
   .rename_i y Y;simp at q;subst q;rw[qT _ _ _ _ _ Y];exact wn _
   .rename_i I;have g:=kS _ _ _ k I (by rw[q];simp);have hg:σ.get k=v:=(by unfold St.get;rw[q]);rw[hg] at g;exact SV.den_mono N v _ (fun r Q=>by simp at Q;subst Q;exact jaY g r (by simp)) (K k v q)
theorem jtL {ρ:Env}:∀(cs:List SV) (vs:List Value) (j:Nat) (sv:SV),SV.denL P ρ cs vs->cs[j]? =some sv->∃v,vs[j]? =some v/\SV.den P ρ sv v
 |[],_,_,_,_,h=>by simp at h
 |c::cs,vs,j,sv,k,h=>by
  simp only[SV.denL] at k
  obtain⟨v,r,rfl,a,b⟩:=k
  cases j with
  |zero=>simp at h;subst h;exact⟨v,rfl,a⟩
  |succ j=>exact jtL cs r j sv b (by simpa using h)
theorem joG {ρ:Env}:∀(cs:List SV) (vs:List Value) (j:Nat) (sv:SV),SV.denL P ρ cs vs->(∀v,vs[j]? =some v->SV.den P ρ sv v)->SV.denL P ρ (cs.set j sv) vs
 |[],_,_,_,k,_=>by simpa using k
 |c::cs,vs,j,sv,k,h=>by
  simp only[SV.denL] at k
  obtain⟨v,r,rfl,d,a⟩:=k
  cases j with
  |zero=>simp only[List.set,SV.denL];exact⟨v,r,rfl,h v rfl,a⟩
  |succ j=>simp only[List.set,SV.denL];exact⟨v,r,rfl,d,joG cs r j sv a (fun u b=>h u (by simpa using b))⟩
theorem jbd {σ:St} {s:Nat}:∀(l:List Nat),jc9 σ s l=true->∀(k T:Nat) fz cs,k∈l->σ.obj k=some (.box T fz cs)->SV.refs.refsL s cs=false
 |[],_,_,_,_,_,a,_=>by simp at a
 |j::r,h,k,T,fz,cs,a,hk=>by
  unfold jc9 at h
  rcases jG4.1 a with e|a
  .subst e
   rw[hk] at h
   simp only at h
   split at h
   .cases h
   .assumption
  .split at h
   .split at h
    .cases h
    .exact jbd r h k T fz cs a hk
   .exact jbd r h k T fz cs a hk
theorem jjN {n b j:Nat} {σ:St} {a:Act} {w:World} (h:Rel P B n σ a w):Rel P B n (jgV b j σ) a w:=by
 unfold jgV
 split
 case h_2=>exact h
 rename_i T fz cs N
 split
 case h_2=>exact h
 rename_i o F
 split
 case h_2=>exact h
 rename_i I E x;generalize yZ b j=s at*;have I:o≠s:=zb I;have E:b≠o:=zb E;have x:b≠s:=zb x
 split
 case h_2=>exact h
 rename_i fm kt vt l D z;simp only[jG3] at z;obtain⟨z,Q⟩:=z;have Q:=jHg Q;obtain⟨h1,h2,ρ,f,hSl,C⟩:=h
 let d:Env:={H:=ρ.H,blk:=fun k=>if k=s then ρ.blk o else if k=o then none else ρ.blk k,len:=fun k=>if k=s then ρ.len o else ρ.len k}
 have O:ρ.le d [s]:=⟨fun _ _ h=>h,fun k p hk g=>by
  have hk:k≠s:=(by simpa using hk);simp only[d,hk,if_false] at g
  split at g
  .cases g
  .exact g,fun k hk=>by simp[d,show k≠s by simpa using hk]⟩
 have m:∀k,({σ with ob:=(b,some (.box T fz (cs.set j (.mp s))))::(s,some (.map fm kt vt l))::(o,none)::σ.ob}:St).obj k=if k=b then some (.box T fz (cs.set j (.mp s))) else if k=s then some (.map fm kt vt l) else if k=o then none else σ.obj k:=by
  intro k;rw[wS,wS,wS]
 have M:∀k T fz cs,σ.obj k=some (.box T fz cs)->SV.refs.refsL s cs=false:=by
  intro k T fz cs hk;simp only[St.obj] at hk
  split at hk
  .rename_i y W;subst hk;exact jbd _ z k T fz cs (jHy.2 ⟨_,zD _ _ _ W,rfl⟩) (by simp only[St.obj,W])
  .cases hk
 have t:∀k (y:Ob) p,σ.obj k=some y->zq P ρ w k p y->k≠s->zq P d w k p y:=by
  intro k y p hk A G;exact jU O (by simpa using G) (fun T fz cs e r R=>by simp at R;subst R;subst e;exact M k T fz cs hk) (fun _ _ _=>⟨rfl,rfl⟩) A
 refine⟨h1,h2,d,⟨f.os,f.tape,f.output,f.drawn,f.size,f.good,f.oldH,f.old,?_,?_,?_,?_⟩,?_,?_⟩
 rotate_right
 .refine⟨fun k p hk V=> ?_,C.2⟩;have G:k≠s:=fun e=>by omega
  simp only[d,if_neg G] at V⊢
  split at V
  .cases V
  .exact C.1 k p hk V
 .intro k y hk;have c:=m k;simp only[St.obj] at hk c;rw[c] at hk;by_cases L:k=b
  .subst L;rw[if_pos rfl] at hk;simp at hk;subst hk;obtain⟨p,g,A⟩:=f.obs k _ N;refine⟨p,by simp[d,x,E,g],?_⟩;have S:=t k _ p N A x;simp only[zq] at A S⊢;obtain⟨b1,X,vs,e1,K,e3,e4,e5⟩:=S;refine⟨b1,X,vs,e1,K,joG _ _ _ _ e3 (fun v u=> ?_),e4,e5⟩;obtain⟨b2,C2,vs2,Y,Z,f3,_⟩:=A;have:vs2=vs:=by
    rw[e1] at Y;simp at Y;obtain⟨rfl,rfl⟩:=Y;rw[K] at Z;simp at Z;exact Z.symm
   subst this;obtain⟨v',g1,g2⟩:=jtL _ _ _ _ f3 F;rw[u] at g1;simp at g1;subst g1;simp only[SV.den] at g2⊢;intro q hq;exact g2 q (by simpa[d] using hq)
  .rw[if_neg L] at hk;by_cases e:k=s
   .subst e;rw[if_pos rfl] at hk;simp at hk;subst hk;obtain⟨p,g,A⟩:=f.obs o _ D;exact⟨p,by simp[d,g],t o _ p D A I⟩
   .rw[if_neg e] at hk;by_cases i:k=o
    .rw[if_pos i] at hk;cases hk
    .rw[if_neg i] at hk;obtain⟨p,g,A⟩:=f.obs k y hk;exact⟨p,by simp[d,e,i,g],t k y p hk A e⟩
 .intro k hk;have c:=m k;simp only[St.obj] at hk c;rw[c] at hk;by_cases L:k=b
  .rw[if_pos L] at hk;cases hk
  rw[if_neg L] at hk;by_cases e:k=s
  .rw[if_pos e] at hk;cases hk
  .rw[if_neg e] at hk;by_cases i:k=o
   .simp only[d];rw[if_neg e,if_pos i]
   .rw[if_neg i] at hk;simp only[d];rw[if_neg e,if_neg i];exact f.dead k hk
 .intro k k' b X C2 hk c;simp only[d] at hk c;by_cases e:k=s<;>by_cases i:k'=s
  .rw[e,i]
  .rw[if_pos e] at hk;rw[if_neg i] at c
   split at c
   .cases c
   .rename_i K;exact absurd (f.inj _ _ _ _ _ hk c).symm K
  .rw[if_neg e] at hk;rw[if_pos i] at c
   split at hk
   .cases hk
   .rename_i K;exact absurd (f.inj _ _ _ _ _ hk c) K
  .rw[if_neg e] at hk;rw[if_neg i] at c
   split at hk
   .cases hk
   .split at c
    .cases c
    .exact f.inj _ _ _ _ _ hk c
 .intro k b X hk;simp only[d] at hk
  split at hk
  .exact f.own _ _ _ hk
  .split at hk
   .cases hk
   .exact f.own _ _ _ hk
 .intro k v u;simp only at u;rw[jj] at u
  split at u
  .rename_i y W;simp at u;subst u;rw[qT _ _ _ _ _ W];exact wn _
  .rename_i J;have g:=kS _ _ _ k J (by rw[u];simp);have hg:σ.get k=v:=(by unfold St.get;rw[u]);rw[hg] at g;exact SV.den_mono O v _ (fun r R=>by simp at R;subst R;exact jaY g r (by simp)) (hSl k v u)
theorem jhy (kp:Bool) {n b j:Nat} {σ:St} {a:Act} {w:World} (h:Rel P B n σ a w):Rel P B n (jcW kp b j σ) a w:=by
 unfold jcW
 split
 case h_2=>exact h
 rename_i T fz cs Y
 split
 case h_2=>exact h
 rename_i o u M
 split
 case h_2=>exact h
 rename_i G L D;generalize yw b j=s at*;have G:o≠s:=zb G;have L:b≠o:=zb L;have D:b≠s:=zb D
 split
 case h_2=>exact h
 rename_i E t0 fr nl l K F;simp only[jG3] at F;obtain⟨F,hlt⟩:=F;have hlt:=jHg hlt;obtain⟨h1,h2,ρ,f,W,J⟩:=h
 let c:Env:={H:=ρ.H,blk:=fun k=>if k=s then ρ.blk o else if k=o then none else ρ.blk k,len:=fun k=>if k=s then ρ.len o else ρ.len k}
 have Z:ρ.le c [s]:=⟨fun _ _ h=>h,fun k p hk t=>by
  have hk:k≠s:=(by simpa using hk);simp only[c,hk,if_false] at t
  split at t
  .cases t
  .exact t,fun k hk=>by simp[c,show k≠s by simpa using hk]⟩
 have A:∀k,({σ with ob:=(b,some (.box T fz (cs.set j (.own s u))))::(s,some (.row E t0 fr nl l))::(o,none)::σ.ob}:St).obj k=if k=b then some (.box T fz (cs.set j (.own s u))) else if k=s then some (.row E t0 fr nl l) else if k=o then none else σ.obj k:=by
  intro k;rw[wS,wS,wS]
 have X:∀k T fz cs,σ.obj k=some (.box T fz cs)->SV.refs.refsL s cs=false:=by
  intro k T fz cs hk;simp only[St.obj] at hk
  split at hk
  .rename_i y g;subst hk;exact jbd _ F k T fz cs (jHy.2 ⟨_,zD _ _ _ g,rfl⟩) (by simp only[St.obj,g])
  .cases hk
 have C:∀k (y:Ob) p,σ.obj k=some y->zq P ρ w k p y->k≠s->zq P c w k p y:=by
  intro k y p hk I N;exact jU Z (by simpa using N) (fun T fz cs e r hr=>by simp at hr;subst hr;subst e;exact X k T fz cs hk) (fun _ _ _=>⟨rfl,rfl⟩) I
 refine⟨h1,h2,c,⟨f.os,f.tape,f.output,f.drawn,f.size,f.good,f.oldH,f.old,?_,?_,?_,?_⟩,?_,?_⟩
 rotate_right
 .refine⟨fun k p hk hb=> ?_,J.2⟩;have N:k≠s:=fun e=>by omega
  simp only[c,if_neg N] at hb⊢
  split at hb
  .cases hb
  .exact J.1 k p hk hb
 .intro k y hk;have d:=A k;simp only[St.obj] at hk d;rw[d] at hk;by_cases S:k=b
  .subst S;rw[if_pos rfl] at hk;simp at hk;subst hk;obtain⟨p,t,I⟩:=f.obs k _ Y;refine⟨p,by simp[c,D,L,t],?_⟩;have hs':=C k _ p Y I D;simp only[zq] at I hs'⊢;obtain⟨b1,C1,vs,e1,R,e3,e4,e5⟩:=hs';refine⟨b1,C1,vs,e1,R,joG _ _ _ _ e3 (fun v m=> ?_),e4,e5⟩;obtain⟨b2,C2,vs2,f1,f2,f3,_⟩:=I;have:vs2=vs:=by
    rw[e1] at f1;simp at f1;obtain⟨rfl,rfl⟩:=f1;rw[R] at f2;simp at f2;exact f2.symm
   subst this;obtain⟨v',g1,V⟩:=jtL _ _ _ _ f3 M;rw[m] at g1;simp at g1;subst g1;simp only[SV.den] at V⊢;intro q hq;have:=V q (by simpa[c] using hq);simpa[c] using this
  .rw[if_neg S] at hk;by_cases e:k=s
   .subst e;rw[if_pos rfl] at hk;simp at hk;subst hk;obtain⟨p,t,I⟩:=f.obs o _ K;have h3:=C o _ p K I G;refine⟨p,by simp[c,t],?_⟩;simp only[zq] at h3⊢;exact⟨by have:=h3.1;simpa[c,G] using this,h3.2⟩
   .rw[if_neg e] at hk;by_cases z:k=o
    .rw[if_pos z] at hk;cases hk
    .rw[if_neg z] at hk;obtain⟨p,t,I⟩:=f.obs k y hk;exact⟨p,by simp[c,e,z,t],C k y p hk I e⟩
 .intro k hk;have d:=A k;simp only[St.obj] at hk d;rw[d] at hk;by_cases S:k=b
  .rw[if_pos S] at hk;cases hk
  rw[if_neg S] at hk;by_cases e:k=s
  .rw[if_pos e] at hk;cases hk
  .rw[if_neg e] at hk;by_cases z:k=o
   .simp only[c];rw[if_neg e,if_pos z]
   .rw[if_neg z] at hk;simp only[c];rw[if_neg e,if_neg z];exact f.dead k hk
 .intro k k' b C1 C2 hk d;simp only[c] at hk d;by_cases e:k=s<;>by_cases z:k'=s
  .rw[e,z]
  .rw[if_pos e] at hk;rw[if_neg z] at d
   split at d
   .cases d
   .rename_i R;exact absurd (f.inj _ _ _ _ _ hk d).symm R
  .rw[if_neg e] at hk;rw[if_pos z] at d
   split at hk
   .cases hk
   .rename_i R;exact absurd (f.inj _ _ _ _ _ hk d) R
  .rw[if_neg e] at hk;rw[if_neg z] at d
   split at hk
   .cases hk
   .split at d
    .cases d
    .exact f.inj _ _ _ _ _ hk d
 .intro k b C1 hk;simp only[c] at hk
  split at hk
  .exact f.own _ _ _ hk
  .split at hk
   .cases hk
   .exact f.own _ _ _ hk
 .intro k v m;simp only at m;rw[jj] at m
  split at m
  .rename_i y g;simp at m;subst m
   split at g
   case h_2=>simp[jD] at g
   unfold jFA at g
   split at g
   case h_2=>simp[jD] at g
   rename_i o' t' i
   split at g
   case h_2=>simp[jD] at g
   rename_i Q;have Q:=jG0 Q;subst Q;simp only[jD] at g
   split at g
   case h_2=>cases g
   rename_i hk;have hk:=jG0 hk;subst hk;simp at g;subst g;have hl:jD σ.sl o'=some (.own o' t'):=by
    unfold St.get at i
    split at i
    .rename_i x hx;rw[hx,i]
    .cases i
   have V:=W o' _ hl;simp only[SV.den] at V⊢;intro q hq;have:=V q (by simpa[c] using hq);simpa[c] using this
  .rename_i hnone0;rw[jj] at m
   split at m
   .rename_i y g;simp at m;subst m;rw[qT _ _ _ _ _ g];exact wn _
   .rename_i O;have t:=kS _ _ _ k O (by rw[m];simp);have hg:σ.get k=v:=(by unfold St.get;rw[m]);rw[hg] at t;exact SV.den_mono Z v _ (fun r hr=>by simp at hr;subst hr;exact jaY t r (by simp)) (W k v m)
theorem jjM {n b j:Nat} {σ:St} {a:Act} {w:World} (h:Rel P B n σ a w):Rel P B n (jnJ b j σ) a w:=jhy false h
theorem jjO {n b:Nat}:∀(j:Nat) {σ:St} {a:Act} {w:World},Rel P B n σ a w->Rel P B n (jnK b j σ) a w
 |0,_,_,_,h=>h
 |j+1,_,_,_,h=>by
  have c:=jjO (b:=b) j h
  show Rel P B n (jpP b j _) _ _
  unfold jpP
  split
  .split
   .split
    .exact jjM c
    .exact c
   .exact c
  .exact c
theorem jsA {n:Nat} {σ:St} {a:Act} {w:World} (t:Nat) (x:Operand) (h:Rel P B n σ a w):Rel P B n (jjJ σ t x) a w:=by
 unfold jjJ
 split
 .exact jjO _ (jhy _ h)
 .exact h
theorem jhx {n b:Nat}:∀(j:Nat) {σ:St} {a:Act} {w:World},Rel P B n σ a w->Rel P B n (jiJ b j σ) a w
 |0,_,_,_,h=>h
 |j+1,_,_,_,h=>jjM (jhx j h)
theorem jem {n:Nat} {σ:St} {a:Act} {w:World} (t:Nat) (h:Rel P B n σ a w):Rel P B n (jel σ t) a w:=by
 unfold jel
 split
 .exact jhx _ (jjN h)
 .exact jjN h
 .exact h
theorem jsB {n:Nat} {σ:St} {a:Act} {w:World} (c:Callee) (h:Rel P B n σ a w):Rel P B n (jjK σ c) a w:=by
 unfold jjK
 split
 .exact jem _ h
 .exact h
theorem jsC {n:Nat} {σ:St} {a:Act} {w:World} (l:List Operand) (h:Rel P B n σ a w):Rel P B n (jjL σ l) a w:=by
 unfold jjL
 split
 .exact jem _ h
 .exact h
theorem zC {n:Nat} {a:Act} {w:World}:∀(l:List Oper) {σ:St},Rel P B n σ a w->Rel P B n (wv l σ) a w
 |[],_,h=>h
 |o::r,σ,h=>by
  simp only[wv]
  split
  .exact zC r (jem _ (jv0 h))
  .exact zC r (jsB _ (jsC _ h))
  .exact zC r (jsA _ _ h)
  .exact zC r h
end
end Go.X
namespace Go.X
open Go.RowKit (Below)
def eL {α:Type} (f:ko->List α) (D:Nat->Bool):List ko->Nat->List α
 |[],_=>[]
 |x::r,i=>eL f D r (i+1)++(match D i with|true=>f x|false=>[])
theorem ju4 {α:Type} (f:ko->List α) (D:Nat->Bool):∀(aZ:List ko) (i:Nat),eL f D aZ (i+1)=eL f (fun k=>D (k+1)) aZ i
 |[],_=>rfl
 |_::r,i=>by simp only[eL];rw[ju4 f D r (i+1)]
theorem jgj {α:Type} (f:ko->List α) {D D':Nat->Bool}:∀(aZ:List ko) (i:Nat),(∀k,i<=k->k<i+aZ.length->D k=D' k)->eL f D aZ i=eL f D' aZ i
 |[],_,_=>rfl
 |_::r,i,h=>by
  simp only[eL]
  rw[jgj f r (i+1) (fun k a b=>h k (by omega) (by simp only[jHD];omega)),h i (jG5 _) (by simp only[jHD];omega)]
theorem vp {α:Type} (f:ko->List α) (D:Nat->Bool) (y:α):∀(aZ:List ko) (i:Nat),y∈eL f D aZ i↔∃k x,aZ[k]? =some x/\D (i+k)=true/\y∈f x
 |[],i=>by simp[eL]
 |x::r,i=>by
  simp only[eL,jHa]
  rw[vp f D y r (i+1)]
  constructor
  .rintro(⟨k,e,a,b,c⟩|h)
   .exact⟨k+1,e,by simpa using a,by rw[<-b];congr 1;omega,c⟩
   .cases d:D i with
    |true=>rw[d] at h;exact⟨0,x,by simp,by simpa using d,h⟩
    |false=>rw[d] at h;simp at h
  .rintro⟨k,e,a,b,c⟩
   cases k with
   |zero=>simp at a b;subst a;right;rw[b];exact c
   |succ k=>left;exact⟨k,e,by simpa using a,by rw[<-b];congr 1;omega,c⟩
theorem qU {α:Type} (ks:List Nat):∀(l r:List (Nat×α)),keep ks (l++r)=keep ks l++keep ks r
 |[],r=>rfl
 | (k,x)::l,r=>by
  simp only[jHx,keep]
  cases yx ks k<;>simp[qU ks l r]
theorem jkp {α:Type} {f:ko->List (Nat×α)} {D D':Nat->Bool} {ks:List Nat}:∀(aZ:List ko) (i:Nat),(∀k x,aZ[k]? =some x->D (i+k)≠D' (i+k)->keep ks (f x)=[])->keep ks (eL f D aZ i)=keep ks (eL f D' aZ i)
 |[],_,_=>rfl
 |x::r,i,h=>by
  simp only[eL,qU]
  rw[jkp r (i+1) (fun k y a b=>h (k+1) y (by simpa using a) (by rw[show i+(k+1)=i+1+k by omega];exact b))]
  congr 1
  by_cases e:D i=D' i
  .rw[e]
  .have:=h 0 x (by simp) (by simpa using e)
   cases a:D i<;>cases b:D' i<;>simp_all [keep]
theorem jkf {α:Type} {f:ko->List (Nat×α)} {D D':Nat->Bool} {s:Nat}:∀(aZ:List ko) (i:Nat),(∀k x,aZ[k]? =some x->D (i+k)≠D' (i+k)->jD (f x) s=none)->jD (eL f D aZ i) s=jD (eL f D' aZ i) s
 |[],_,_=>rfl
 |x::r,i,h=>by
  simp only[eL]
  rw[jj,jj,jkf r (i+1) (fun k y a b=>h (k+1) y (by simpa using a) (by rw[show i+(k+1)=i+1+k by omega];exact b))]
  by_cases e:D i=D' i
  .rw[e]
  .have:=h 0 x (by simp) (by simpa using e)
   cases a:D i<;>cases b:D' i<;>simp_all [jD]
theorem ja7 {α:Type} {f:ko->List (Nat×α)} {D D':Nat->Bool} {s i:Nat} {x:ko} (hi:D i=false) (a:D' i=true) (d:∀k,k≠i->D' k=D k):
 ∀(aZ:List ko) (j m:Nat),j+m=i->aZ[m]? =some x->(∀k y,m<k->aZ[k]? =some y->D (j+k)=true->jD (f x) s≠none->jD (f y) s=none)->
  jD (eL f D' aZ j) s=jD (f x++eL f D aZ j) s
 |[],_,m,_,h,_=>by simp at h
 |y::r,j,0,hj,h,hk=>by
  simp at h hj
  subst h hj
  have e:eL f D' r (j+1)=eL f D r (j+1):=jgj f r (j+1) (fun k b _=>d k (by omega))
  simp only[eL,hi,a,e]
  rw[jj,jj,jj]
  by_cases g:jD (f y) s=none
  .rw[g];simp[jD]
  .have:jD (eL f D r (j+1)) s=none:=by
    have q:=jkf (f:=f) (D:=D) (D':=fun _=>false) (s:=s) r (j+1) (fun k z b p=>by
     have c:D (j+1+k)=true:=by cases w:D (j+1+k)<;>simp_all
     exact hk (k+1) z (by omega) (by simpa using b) (by rw[show j+(k+1)=j+1+k by omega];exact c) g)
    rw[q];have:∀(l:List ko) (n:Nat),eL f (fun _=>false) l n=[]:=by
     intro l
     induction l with
     |nil=>intro n;rfl
     |cons z l o=>intro n;simp[eL,o]
    rw[this];rfl
   rw[this];cases u:jD (f y) s with
   |none=>exact absurd u g
   |some v=>simp[]
 |y::r,j,m+1,hj,h,hk=>by
  have o:=ja7 hi a d r (j+1) m (by omega) (by simpa using h) (fun k z b p c t=>hk (k+1) z (by omega) (by simpa using p) (by rw[show j+(k+1)=j+1+k by omega];exact c) t);simp only[eL,d j (by omega)];rw[jj,o,jj,jj,jj];cases jD (f x) s<;>rfl
def bld (D:Nat->Bool) (aZ:List ko) (rs:RS):RS:=⟨⟨eL (·.e.sl) D aZ 0++rs.st.sl,eL (·.e.ob) D aZ 0++rs.st.ob⟩,eL (·.e.gl) D aZ 0++rs.gl⟩
theorem joK (D:Nat->Bool) (x:ko) (aZ:List ko) (rs:RS) (h:D 0=true):bld D (x::aZ) rs=bld (fun k=>D (k+1)) aZ (zr x.e rs):=by
 unfold bld zr;simp only[eL,h,ju4,jHn]
theorem jbi (aZ:List ko) (rs:RS) {D:Nat->Bool} (h:∀k,D k=false):bld D aZ rs=rs:=by
 have:∀{α:Type} (f:ko->List α) (l:List ko) (n:Nat),eL f D l n=[]:=by
  intro α f l
  induction l with
  |nil=>intro n;rfl
  |cons z l a=>intro n;simp[eL,a,h]
 simp[bld,this]
theorem jbh (D:Nat->Bool) (aZ:List ko) (rs:RS) (o:Nat):(bld D aZ rs).st.obj o=(match jD (eL (·.e.ob) D aZ 0) o with|some x=>x|none=>rs.st.obj o):=by
 simp only[St.obj,bld];rw[jj];cases jD (eL (fun x=>x.e.ob) D aZ 0) o<;>rfl
theorem wj:∀(l r:List Nat),jcq l r=false->∀k,k∈l->k∉r
 |[],r,_,k,hk=>by simp at hk
 |o::l,r,h,k,hk=>by
  simp only[jcq] at h
  split at h
  .cases h
  .rename_i a
   rcases jG4.1 hk with rfl|hk
   .intro b;rw[(kA r k).2 b] at a;cases a
   .exact wj l r h k hk
structure jGC (σ:St) (nb:List Nat) (x y:ko) (r:Nat):Prop where
 mv:y.mv=true
 nb:r∉nb
 nn:r∉x.nn
 bf:jao (σ.obj r)=false
theorem jgQ {σ:St} {nb mk names:List Nat}:∀(l:List Nat),jya σ nb mk names l=true->∀r,r∈l->r∈names->r∉nb/\r∉mk/\jao (σ.obj r)=false
 |[],_,r,a,_=>by simp at a
 |z::l,h,r,a,hn=>by
  simp only[jya] at h
  split at h
  .rename_i e
   rcases jG4.1 a with rfl|a
   .rw[(kA _ _).2 hn] at e;cases e
   .exact jgQ l h r a hn
  .split at h
   .rename_i c d f
    rcases jG4.1 a with rfl|a
    .refine⟨fun b=> ?_,fun b=> ?_,f⟩
     .rw[(kA _ _).2 b] at c;cases c
     .rw[(kA _ _).2 b] at d;cases d
    .exact jgQ l h r a hn
   .cases h
theorem jpC {σ:St} {nb:List Nat} {x y:ko} (h:jGa σ nb x y=true) {r:Nat} (d:r∈x.ws) (e:r∈y.names):jGC σ nb x y r:=by
 unfold jGa at h
 split at h
 .rename_i f;obtain⟨a,b,c⟩:=jgQ _ h r d e;exact⟨f,a,b,c⟩
 .cases h
theorem jhK {l r:List Nat} {s:Bool} (h:juL l r s=false):∀k,k∈l->k∈r->s=true:=by
 intro k hk b;unfold juL at h;cases a:jcq l r with
 |true=>
  rw[a] at h;cases s with
  |true=>rfl
  |false=>cases h
 |false=>exact absurd b (wj _ _ a k hk)
structure NT (σ:St) (nb:List Nat) (x y:ko):Prop where
 sl:∀s,s∈km x.e.sl->s∉km y.e.sl
 s1:∀s,s∈km x.e.sl->s∉y.slots
 s2:∀s,s∈km y.e.sl->s∉x.slots
 ws:∀o,o∈x.ws->o∉y.ws
 o1:∀o,o∈x.ws->o∈y.names->jGC σ nb x y o
 o2:∀o,o∈y.ws->o∈x.names->jGC σ nb y x o
theorem NT.symm {σ:St} {nb:List Nat} {x y:ko} (h:NT σ nb x y):NT σ nb y x:=⟨fun s a b=>h.sl s b a,h.s2,h.s1,fun o a b=>h.ws o b a,h.o2,h.o1⟩
theorem jA8 {σ:St} {nb:List Nat} {x y:ko} (h:jA9 σ nb x y=false):NT σ nb x y:=by
 unfold jA9 at h
 split at h
 .rename_i c e f g i;have c:=wj _ _ c;exact⟨fun s d a=>c s d (jG2 _ a),fun s d a=>c s d (jG1 _ a),wj _ _ e,wj _ _ f,
   fun o b a=>jpC (jhK g o b a) b a,fun o b a=>jpC (jhK i o b a) b a⟩
 .cases h
theorem jfG {σ:St} {nb:List Nat} (x:ko) (before:List Nat):∀(l:List ko) (j:Nat),jcX σ nb x before l j=true->∀k y,l[k]? =some y->jA9 σ nb y x=false\/j+k∈before
 |[],_,_,k,y,h=>by simp at h
 |z::r,j,h,k,y,hk=>by
  simp only[jcX] at h
  have a:jcX σ nb x before r (j+1)=true:=by
   split at h
   .split at h
    .exact h
    .cases h
   .exact h
  cases k with
  |zero=>
   simp at hk;subst hk
   split at h
   .split at h
    .rename_i c;exact .inr (by simpa using(kA _ _).1 c)
    .cases h
   .rename_i d;exact .inl d
  |succ k=>
   rcases jfG x before r (j+1) a k y (by simpa using hk) with b|b
   .exact .inl b
   .exact .inr (by rw[show j+(k+1)=j+1+k by omega];exact b)
theorem vl {σ:St} {nb:List Nat} (all:List ko):∀(l:List ko) (ps:List (List Nat)) (k:Nat),gu σ nb all l ps k=true->∀m y,l[m]? =some y->∃p,ps[m]? =some p/\∀j x,j<k+m->all[j]? =some x->NT σ nb x y\/j∈p
 |[],_,_,_,m,y,h=>by simp at h
 |_::_,[],_,h,_,_,_=>by simp[gu] at h
 |z::r,p::ps,k,h,m,y,hm=>by
  simp only[gu] at h
  split at h
  .rename_i e
   cases m with
   |zero=>
    simp at hm;subst hm
    refine⟨p,by simp,fun j x f b=> ?_⟩
    have:=jfG _ _ _ _ e j x (by rw[jHr (by omega)];exact b)
    rcases this with a|a
    .exact .inl (jA8 a)
    .exact .inr (by simpa using a)
   |succ m=>
    obtain⟨g,c,d⟩:=vl all r ps (k+1) h m y (by simpa using hm)
    exact⟨g,by simpa using c,fun j x f b=>d j x (by omega) b⟩
  .cases h
theorem jcg (b:List (List Nat)):∀(es:List Edge) (l:List Nat),jgW b es=some l->
 (∀e,e∈es->Region.binds .any e=true->e.on<b.length)/\∀j,j∈l->∃e,e∈es/\Region.binds .any e=true/\(j=e.on\/∃p,b[e.on]? =some p/\j∈p)
 |[],l,h=>by
  simp[jgW] at h;subst h
  exact⟨fun e t=>by simp at t,fun j c=>by simp at c⟩
 |e::r,l,h=>by
  simp only[jgW] at h
  split at h
  .cases h
  rename_i l' n
  obtain⟨q,s⟩:=jcg b r l' n
  split at h
  .rename_i g
   simp at h;subst h
   refine⟨fun f a d=> ?_,fun j c=> ?_⟩
   .rcases jG4.1 a with rfl|a
    .rw[g] at d;cases d
    .exact q f a d
   .obtain⟨f,i,k,m⟩:=s j c
    exact⟨f,jHb _ i,k,m⟩
  .rename_i g
   split at h
   .rename_i p o
    simp at h;subst h
    refine⟨fun f a d=> ?_,fun j c=> ?_⟩
    .rcases jG4.1 a with rfl|a
     .exact(jG6.1 o).1
     .exact q f a d
    .rcases(kd _ _ _).1 c with c|c
     .exact⟨e,jHH,g,.inr ⟨p,o,c⟩⟩
     .have:j=e.on\/j∈l':=by
       split at c
       .exact .inr c
       .rcases jG4.1 c with h|h
        .exact .inl h
        .exact .inr h
      rcases this with rfl|c
      .exact⟨e,jHH,g,.inl rfl⟩
      .obtain⟨f,i,k,m⟩:=s j c;exact⟨f,jHb _ i,k,m⟩
   .cases h
theorem qy:∀(l:List Oper) (a ps:List (List Nat)),kO l a=some ps->
 (∃t,ps=a++t)/\∀m o,l[m]? =some o->∃p,ps[a.length+m]? =some p/\jgW (ps.take (a.length+m)) o.after.toList=some p
 |[],a,ps,h=>by
  simp[kO] at h;subst h
  exact⟨⟨[],by simp⟩,fun m o b=>by simp at b⟩
 |x::r,a,ps,h=>by
  simp only[kO] at h
  split at h
  .rename_i p c
   obtain⟨⟨t,rfl⟩,d⟩:=qy r (a++[p]) ps h
   refine⟨⟨p::t,by simp⟩,fun m o b=> ?_⟩
   cases m with
   |zero=>
    simp at b;subst b
    refine⟨p,by simp,?_⟩
    have:(a++[p]++t).take (a.length+0)=a:=by simp
    rw[this];exact c
   |succ m=>
    have:=d m o (by simpa using b)
    simp only[jHo,jHD,jHJ] at this
    rw[show a.length+(m+1)=a.length+(0+1)+m by omega]
    exact this
  .cases h
end Go.X
namespace Go.X
open Go.RowKit (Below)
theorem jfT {α:Type} (ks:List Nat):∀(l:List (Nat×α)) (s:Nat) (v:α),jD (keep ks l) s=some v->jD l s=some v
 |[],s,v,h=>by simp[keep,jD] at h
 | (j,x)::r,s,v,h=>by
  simp only[keep] at h
  cases c:yx ks j with
  |true=>
   rw[c] at h
   simp only[jD] at h⊢
   cases a:Nat.beq j s with
   |true=>rw[a] at h;exact h
   |false=>rw[a] at h;exact jfT ks r s v h
  |false=>
   rw[c] at h
   have h:=jfT ks r s v h
   simp only[jD]
   cases a:Nat.beq j s with
   |true=>
    have:=jG0 a
    subst this
    have hk:∀(l:List (Nat×α)),jD (keep ks l) j=none:=by
     intro l
     induction l with
     |nil=>rfl
     |cons y l e=>
      obtain⟨k,z⟩:=y;simp only[keep];cases hk:yx ks k with
      |false=>exact e
      |true=>
       simp only[jD];cases b:Nat.beq k j with
       |true=>have:=jG0 b;subst this;rw[c] at hk;cases hk
       |false=>exact e
    rename_i d;rw[hk r] at d;cases d
   |false=>exact h
theorem jiN {α:Type} (ks:List Nat):∀(l:List (Nat×α)) (y:Nat×α),y∈keep ks l->y∈l/\y.1∈ks
 |[],y,h=>by simp[keep] at h
 | (j,x)::r,y,h=>by
  simp only[keep] at h
  cases a:yx ks j with
  |true=>
   rw[a] at h
   rcases jG4.1 h with rfl|h
   .exact⟨jHH,(kA _ _).1 a⟩
   .have:=jiN ks r y h;exact⟨jHb _ this.1,this.2⟩
  |false=>
   rw[a] at h
   have:=jiN ks r y h;exact⟨jHb _ this.1,this.2⟩
theorem jfY {α:Type} {ks:List Nat}:∀(l:List (Nat×α)),(∀y,y∈l->y.1∉ks)->keep ks l=[]
 |[],_=>rfl
 | (j,x)::r,h=>by
  simp only[keep]
  cases a:yx ks j with
  |true=>exact absurd ((kA _ _).1 a) (h (j,x) jHH)
  |false=>exact jfY r (fun y b=>h y (jHb _ b))
theorem jc1 {α:Type}:∀(l:List (Nat×α)) (k:Nat),k∈km l↔∃x,(k,x)∈l
 |[],k=>by simp[km]
 | (j,y)::r,k=>by
  simp only[km,jG4,jc1 r k]
  constructor
  .rintro(rfl|⟨x,a⟩)
   .exact⟨y,.inl rfl⟩
   .exact⟨x,.inr a⟩
  .rintro⟨x,h|h⟩
   .simp at h;exact .inl h.1
   .exact .inr ⟨x,h⟩
theorem jw {α:Type}:∀(l:List (Nat×α)) (k:Nat),k∉km l->jD l k=none
 |[],k,_=>rfl
 | (j,y)::r,k,h=>by
  simp only[km,jG4,not_or] at h
  rw[jB (fun e=>h.1 e.symm)]
  exact jw r k h.2
theorem vq {α:Type} {l:List (Nat×α)} {k:Nat} (h:jD l k≠none):k∈km l:=by
 by_cases a:k∈km l
 .exact a
 .exact absurd (jw l k a) h
theorem jn9:∀(l:List (Nat×SV)) (s:Nat) (v:SV) (r:Nat),(s,v)∈l->r∈v.rl->r∈jE2 l
 |[],_,_,_,h,_=>by simp at h
 | (j,x)::l,s,v,r,h,hr=>by
  simp only[jE2]
  rw[kd]
  rcases jG4.1 h with e|h
  .simp at e;obtain⟨_,rfl⟩:=e;exact .inl hr
  .exact .inr (jn9 l s v r h hr)
theorem joa:∀(l:List (Nat×(Nat×Bool)×SV)) (s:Nat) g (v:SV) (r:Nat),(s,g,v)∈l->r∈v.rl->r∈jE3 l
 |[],_,_,_,_,h,_=>by simp at h
 | (j,a,x)::l,s,g,v,r,h,hr=>by
  simp only[jE3]
  rw[kd]
  rcases jG4.1 h with e|h
  .simp at e;obtain⟨_,_,rfl⟩:=e;exact .inl hr
  .exact .inr (joa l s g v r h hr)
theorem jkb:∀(l:List (Nat×Option Ob)) (o T:Nat) fz cs (r:Nat),(o,some (.box T fz cs))∈l->r∈SV.rl.rlL cs->r∈jsx l
 |[],_,_,_,_,_,h,_=>by simp at h
 | (j,y)::l,o,T,fz,cs,r,h,hr=>by
  rcases jG4.1 h with e|h
  .simp at e
   obtain⟨_,rfl⟩:=e
   simp only[jsx,jHa]
   exact .inl hr
  .have:=jkb l o T fz cs r h hr
   unfold jsx
   split
   .rename_i e;cases e
   .rename_i e;cases e;exact jG1 _ this
   .rename_i e;cases e;exact this
theorem juJ (σ:St):∀(os:List Nat) (o T:Nat) fz cs (r:Nat),o∈os->σ.obj o=some (.box T fz cs)->r∈SV.rl.rlL cs->r∈jlj σ os
 |[],_,_,_,_,_,h,_,_=>by simp at h
 |k::os,o,T,fz,cs,r,h,ho,hr=>by
  rcases jG4.1 h with rfl|h
  .simp only[jlj,ho]
   rw[kd];exact .inl hr
  .have:=juJ σ os o T fz cs r h ho hr
   simp only[jlj]
   split
   .rw[kd];exact .inr this
   .exact this
theorem jml {σ τ:St}:∀(os:List Nat),(∀o,o∈os->σ.obj o=τ.obj o)->jlj σ os=jlj τ os
 |[],_=>rfl
 |k::os,h=>by
  simp only[jlj,h k jHH,jml os (fun o a=>h o (jHb _ a))]
theorem jn7 {σ:St}:∀(n:Nat) (os:List Nat) (o:Nat),o∈os->o∈jzc σ n os
 |0,_,_,h=>h
 |n+1,_,o,h=>jn7 n _ o ((kd _ _ _).2 (.inr h))
theorem jmw {σ τ:St}:∀(n:Nat) (os:List Nat),(∀o,o∈jzc τ n os->σ.obj o=τ.obj o)->jzc σ n os=jzc τ n os
 |0,_,_=>rfl
 |n+1,os,h=>by
  simp only[jzc] at h⊢
  have e:jlj σ os=jlj τ os:=jml os (fun o a=>h o (jn7 n _ o ((kd _ _ _).2 (.inr a))))
  rw[e]
  exact jmw n _ h
theorem jss {slots:List Nat} {r s:RS} (b:keep slots r.st.sl=keep slots s.st.sl) (c:keep slots r.gl=keep slots s.gl) (a:∀o,o∈(zS slots s).1->r.st.obj o=s.st.obj o):zS slots r=zS slots s:=by
 unfold zS at a⊢;simp only at a⊢;rw[b,c];have e:=jmw (σ:=r.st) (τ:=s.st) 3 _ a;rw[e];congr 3;exact List.map_congr_left fun o d=>by rw[a o d]
theorem juP (f:Nat->Option Ob):∀(os:List Nat) (o:Nat),jD (os.map fun k=>(k,f k)) o=if o∈os then some (f o) else none
 |[],o=>by simp[jD]
 |k::os,o=>by
  simp only[jH8,jD]
  cases c:Nat.beq k o with
  |true=>have:=jG0 c;subst this;simp
  |false=>
   have b:k≠o:=zb c
   simp only[juP f os o,jG4]
   by_cases a:o∈os
   .simp[a]
   .have:¬(o=k\/o∈os):=by rintro(h|h);exact b h.symm;exact a h
    rw[if_neg a,if_neg this]
section
variable {P:Program} {B:zV} {C:Ctx} {ops:Array Oper} {Q:Exit->Act->World->Prop}
theorem gR (slots:List Nat) (rs:RS) (o:Nat):(zS slots rs).2.st.obj o=if o∈(zS slots rs).1 then rs.st.obj o else none:=by
 unfold zS;simp only[St.obj];rw[juP]
 split<;>rename_i h<;>split at h<;>simp_all
theorem jjz {slots:List Nat} {rs:RS} {e:Eff} (p:closed (zS slots rs).1 (zS slots rs).2 e=true):Fit P B rs (zS slots rs).2 e:=by
 unfold closed at p
 split at p
 case h_2=>cases p
 rename_i c1 c2 k l m;have c1:=qP _ _ c1;have c2:=qP _ _ c2;have k:=qP _ _ k;have l:=qP _ _ l;have m:=qP _ _ m;have a:=gR slots rs;refine⟨fun s v h=>jfT slots _ s v h,fun x z=>(jiN slots _ x z).1,fun o x h=> ?_,fun ρ w A j=> ?_⟩
 .rw[a] at h
  split at h
  .exact h
  .cases h
 .have D:(zS slots rs).2.st.obj=jyK (zS slots rs).1 rs.st.obj:=funext fun o=>by rw[a];rfl
  refine⟨⟨w,ρ.H,zl ρ (zS slots rs).1,fun _=>none,fun _=>0⟩,jgX (zS slots rs).1 ρ,jiK _ _,by rw[D];exact juY A _,fun L w' n q=> ?_⟩;have b:∀o,({(zS slots rs).2.st with ob:=e.ob++(zS slots rs).2.st.ob}:St).obj o=(match jD e.ob o with|some x=>x|none=>(zS slots rs).2.st.obj o):=by
   intro o;simp only[St.obj];rw[jj];cases jD e.ob o<;>rfl
  obtain⟨ρ'',I,J,K⟩:=jqH (σ:=rs.st) A (zS slots rs).1 e.nw (fun d E=>(j d E).2) n q (fun o T fz cs f r u=>by
   rw[b] at f;have c:=gW cs r u
   split at f
   .rename_i x z;subst f;exact jHa.1 (l r (jkb _ o T fz cs r (zD _ _ _ z) c))
   .have i:o∈(zS slots rs).1:=by
     rw[a] at f
     split at f
     .assumption
     .cases f
    exact .inr (c1 r (juJ _ _ o T fz cs r i f c)))
  refine⟨ρ'',?_,J,fun v x G=>K v x (fun r u=> ?_)⟩
  .have:(zr e rs).st.obj=(fun o=>if o∈e.nw\/o∈(zS slots rs).1 then({(zS slots rs).2.st with ob:=e.ob++(zS slots rs).2.st.ob}:St).obj o else rs.st.obj o):=funext fun o=>by
    have C:(zr e rs).st.obj o=(match jD e.ob o with|some x=>x|none=>rs.st.obj o):=by
     simp only[St.obj,zr];rw[jj];cases jD e.ob o<;>rfl
    rw[C,b];cases F:jD e.ob o with
    |some x=>
     have hk:=m o (vq (by rw[F];simp));rw[if_pos (jHa.1 hk)]
    |none=>
     simp only;rw[a];by_cases i:o∈(zS slots rs).1
     .rw[if_pos (.inr i),if_pos i]
     .rw[if_neg i];by_cases t:o∈e.nw
      .rw[if_pos (.inl t)];exact(j o t).1
      .rw[if_neg (by rintro(h|h);exact t h;exact i h)]
   rw[this];exact I
  .have c:=jsD v r u;rcases G with⟨s,y⟩|⟨s,g,y⟩
   .exact jHa.1 (c2 r (jn9 _ s v r y c))
   .exact jHa.1 (k r (joa _ s g v r y c))
end
end Go.X
namespace Go.X
open Go.RowKit (Below)
section
variable {P:Program} {B:zV} {C:Ctx} {ops:Array Oper} {Q:Exit->Act->World->Prop}
structure qA (C:Ctx) (ops:List Oper) (aZ:List ko) (rs:RS) (i:Nat) (o:Oper) (x:ko):Prop where
 get:aZ[i]? =some x
 eff:jav C ops o (zS (zh ops o) (bld (fun k=>decide (k<i)) aZ rs)).2=some x.e
 fit:fits C ops o (bld (fun k=>decide (k<i)) aZ rs) x.e=true
 cl:closed (zS (zh ops o) (bld (fun k=>decide (k<i)) aZ rs)).1 (zS (zh ops o) (bld (fun k=>decide (k<i)) aZ rs)).2 x.e=true
 slots:x.slots=zh ops o
 os:x.os=(zS (zh ops o) (bld (fun k=>decide (k<i)) aZ rs)).1
 ws:x.ws=km x.e.ob++x.nn
 mv:x.mv=jFD (ze (zS (zh ops o) (bld (fun k=>decide (k<i)) aZ rs)).2 []) o
 nn:x.nn=jGs o x.e
theorem yk {d:List Oper}:∀(l:List Oper) (rs b:RS) (aZ:List ko),jjD C d l rs=some (aZ,b)->
 aZ.length=l.length/\b=bld (fun _=>true) aZ rs/\∀i o,l[i]? =some o->∃x,qA C d aZ rs i o x
 |[],rs,b,aZ,h=>by
  simp[jjD] at h
  obtain⟨rfl,rfl⟩:=h
  exact⟨rfl,rfl,fun i o h=>by simp at h⟩
 |o::r,rs,b,aZ,h=>by
  simp only[jjD] at h
  split at h
  .cases h
  rename_i e v
  split at h
  case h_2=>cases h
  rename_i w u
  split at h
  .cases h
  rename_i a F z
  simp only[Option.some.injEq,Prod.mk.injEq] at h
  obtain⟨rfl,rfl⟩:=h
  obtain⟨B,D,E⟩:=yk r _ _ _ z
  refine⟨by simp[B],by rw[joK _ _ _ _ rfl];exact D,fun i o' hi=> ?_⟩
  cases i with
  |zero=>
   simp at hi;subst hi
   have c:∀a,bld (fun k=>decide (k<0)) a rs=rs:=fun a=>jbi _ _ (fun k=>by simp)
   refine⟨_,by simp;rfl,?_,?_,?_,rfl,?_,rfl,?_,rfl⟩
   .rw[c];exact v
   .rw[c];exact w
   .rw[c];exact u
   .rw[c]
   .rw[c]
  |succ i=>
   obtain⟨x,f,g,j,m,n,p,q,s,t⟩:=E i o' (by simpa using hi)
   have es:∀y:ko,y.e=e->bld (fun k=>decide (k<i+1)) (y::a) rs=bld (fun k=>decide (k<i)) a (zr e rs):=by
    intro y A;rw[joK _ _ _ _ (by simp),A];congr 1;funext k;simp
   refine⟨x,by simpa using f,?_,?_,?_,n,?_,q,?_,t⟩
   .rw[es _ rfl];exact g
   .rw[es _ rfl];exact j
   .rw[es _ rfl];exact m
   .rw[es _ rfl];exact p
   .rw[es _ rfl];exact s
theorem jau {f:List Oper} {o:Oper} {R:RS} {e:Eff} (h:jav C f o R=some e):(∃sv,e.sl=jpH o sv)/\∀s g v,(s,g,v)∈e.gl->o.dst=some s/\o.guard=some g:=by
 unfold jav at h
 split at h
 .split at h
  .cases h
  .simp at h;subst h;exact⟨⟨_,rfl⟩,fun s g v a=>by simp at a⟩
 .rename_i i b
  split at h
  .cases h
  .split at h
   .cases h
   .split at h
    .simp at h;subst h;refine⟨⟨_,rfl⟩,fun s g v a=> ?_⟩;simp only at a
     split at a
     .rename_i d c;simp at a;obtain⟨rfl,rfl,rfl⟩:=a;exact⟨c,b⟩
     .simp at a
    .cases h
theorem jcs {o:Oper} {sv:SV} {s:Nat}:s∈km (jpH o sv)↔o.dst=some s:=by
 unfold jpH
 split
 .rename_i d a;rw[a];simp[km];exact eq_comm
 .rename_i a;rw[a];simp[km]
theorem jlT {l:List Oper} {j dj:Nat} {b:Bool} (h:gD l j=some dj):dj∈jar l l.length (some (j,b)):=by
 unfold gD at h;cases a:l[j]? with
 |none=>rw[a] at h;cases h
 |some o=>
  rw[a] at h;simp only at h;have:0<l.length:=(by have:=(jG6.1 a).1;omega);obtain⟨n,c⟩:∃n,l.length=n+1:=⟨l.length-1,by omega⟩;rw[c];simp only[jar,a,h];exact jHH
section
variable {aZ:List ko} {rs:RS} {D:Nat->Bool} {i:Nat} {o:Oper} {x:ko} {nb:List Nat}
theorem jye (f:∀k y,aZ[k]? =some y->∃o',ops.toList[k]? =some o'/\qA C ops.toList aZ rs k o' y) (m:qA C ops.toList aZ rs i o x)
 (d:∀k y,aZ[k]? =some y->D k≠decide (k<i)->NT rs.st nb x y) (l:∀k y,aZ[k]? =some y->D k≠decide (k<i)->∀r,r∈y.ws->r∉x.names):
 zS (zh ops.toList o) (bld D aZ rs)=zS (zh ops.toList o) (bld (fun k=>decide (k<i)) aZ rs):=by
 have j:∀(k:Nat) (y:ko),aZ[k]? =some y->∀z,z∈y.e.gl->z.1∈km y.e.sl:=by
  intro k y hk z h;obtain⟨_,_,c⟩:=f k y hk;obtain⟨⟨sv,a⟩,b⟩:=jau c.eff;obtain⟨s,g,v⟩:=z;rw[a];exact jcs.2 (b s g v h).1
 refine jss ?_ ?_ ?_
 .simp only[bld,qU];congr 1;refine jkp aZ 0 (fun k y a b=>jfY _ (fun z h=> ?_));rw[<-m.slots];exact(d k y a (by simpa using b)).s2 z.1 ((jc1 _ _).2 ⟨z.2,h⟩)
 .simp only[bld,qU];congr 1;refine jkp aZ 0 (fun k y a b=>jfY _ (fun z h=> ?_));rw[<-m.slots];exact(d k y a (by simpa using b)).s2 z.1 (j k y a z h)
 .intro r n;rw[<-m.os] at n;rw[jbh,jbh];rw[jkf (D:=D) (D':=fun k=>decide (k<i)) aZ 0 (fun k y a b=>jw _ _ (fun hk=> ?_))];obtain⟨_,_,c⟩:=f k y a;refine l k y a (by simpa using b) r ?_ ?_
  .rw[c.ws];exact jG2 _ hk
  .unfold ko.names;simp[n]
theorem jtS:∀(l:List ko) (r:Nat),r∉yG l->∀y,y∈l->∀z,(r,z)∈y.e.ob->jao z=false:=by
 have one:∀(l:List (Nat×Option Ob)) (r:Nat),r∉jj3 l->∀z,(r,z)∈l->jao z=false:=by
  intro l
  induction l with
  |nil=>intro r _ z h;simp at h
  |cons a l c=>
   intro r h z b;obtain⟨q,y⟩:=a;simp only[jj3] at h
   split at h
   .rcases jG4.1 b with e|b
    .simp at e;obtain⟨rfl,rfl⟩:=e;simp at h
    .exact c r (fun i=>h (by simp[i])) z b
   .rename_i g;rcases jG4.1 b with e|b
    .simp at e;obtain⟨rfl,rfl⟩:=e;exact g
    .exact c r h z b
 intro l
 induction l with
 |nil=>intro r _ y h;simp at h
 |cons a l c=>
  intro r h y d z f;simp only[yG,jHa,not_or] at h;rcases jG4.1 d with rfl|d
  .exact one _ r h.1 z f
  .exact c r h.2 y d z f
def EqB (σ τ:St) (o:Nat):Prop:=σ.obj o=τ.obj o\/(jao (σ.obj o)=false/\jao (τ.obj o)=false)
theorem jut {σ:St} {o:Nat} {os:List Nat} (h:jao (σ.obj o)=false):jlj σ (o::os)=jlj σ os:=by
 simp only[jlj]
 split
 .rename_i e;rw[e] at h;cases h
 .rfl
theorem jei {σ τ:St}:∀(os:List Nat),(∀o,o∈os->EqB σ τ o)->jlj σ os=jlj τ os
 |[],_=>rfl
 |k::os,h=>by
  have a:=jei os (fun o d=>h o (jHb _ d))
  rcases h k jHH with e|⟨b,c⟩
  .simp only[jlj,e,a]
  .rw[jut b,jut c,a]
theorem jj8 {σ τ:St}:∀(n:Nat) (os:List Nat),(∀o,o∈jzc τ n os->EqB σ τ o)->jzc σ n os=jzc τ n os
 |0,_,_=>rfl
 |n+1,os,h=>by
  simp only[jzc] at h⊢
  have e:jlj σ os=jlj τ os:=jei os (fun o a=>h o (jn7 n _ o ((kd _ _ _).2 (.inr a))))
  rw[e]
  exact jj8 n _ h
theorem ji5:∀(l:List (Nat×(Nat×Bool)×SV)),jaM l []=[]
 |[]=>rfl
 |z::l=>by simp only[jaM,jg9];exact ji5 l
theorem jCi {l:List Oper} {R i:RS} (h:jFD (ze R []) o=true) (s:R.st.sl=i.st.sl) (n:∀b,jao (R.st.obj b)=true->i.st.obj b=R.st.obj b):jav C l o R=jav C l o i:=by
 have opE:∀z,jQ (ze R []) z=jQ (ze i []) z:=by
  intro z;cases z with
  |tmp t=>simp only[jQ,St.get,ze,ji5,jHz,s]
  |const v=>rfl
  |global g=>rfl
  |func f=>rfl
 have key:o.guard=none->gq C l o R []=gq C l o i []->(∀out,gq C l o R []=some out->out.fz=[])->jav C l o R=jav C l o i:=by
  intro e p q;unfold jav;rw[e];simp only;rw[<-p];cases d:gq C l o R [] with
  |none=>rfl
  |some out=>simp only[q out d,qG]
 unfold jFD at h
 split at h
 .rename_i z j e;refine key e ?_ ?_
  .simp only[gq,j,e,jC,opE z]
  .intro out d;simp only[gq,j,e,jC,Option.some.injEq] at d;subst d;rfl
 .rename_i U z j e
  split at h
  case h_2=>cases h
  rename_i b k c;have m:(ze i []).obj b=(ze R []).obj b:=n b h;have a:=c;rw[opE z] at a;refine key e ?_ ?_
  .simp only[gq,j,e,jC,c,a,m]
  .intro out d;simp only[gq,j,e,jC,c] at d
   repeat' split at d
   all_goals first|cases d;rfl|cases d
 .rename_i U z f j e
  split at h
  case h_2=>cases h
  rename_i b k c;have m:(ze i []).obj b=(ze R []).obj b:=n b h;have a:=c;rw[opE z] at a;have r:jkh (ze i []) b=jkh (ze R []) b:=(by unfold jkh;rw[m]);refine key e ?_ ?_
  .simp only[gq,j,e,jC,c,a,r]
  .intro out d;simp only[gq,j,e,jC,c] at d
   repeat' split at d
   all_goals first|cases d;rfl|cases d
 .cases h
theorem jEy (m:∀k y,aZ[k]? =some y->∃o',ops.toList[k]? =some o'/\qA C ops.toList aZ rs k o' y) (j:qA C ops.toList aZ rs i o x) (E:nb=yG aZ)
 (h:∀k y,aZ[k]? =some y->D k≠decide (k<i)->NT rs.st nb x y):
 jav C ops.toList o (zS (zh ops.toList o) (bld D aZ rs)).2=some x.e/\closed (zS (zh ops.toList o) (bld D aZ rs)).1 (zS (zh ops.toList o) (bld D aZ rs)).2 x.e=true:=by
 by_cases K:∃k y r,aZ[k]? =some y/\D k≠decide (k<i)/\r∈y.ws/\r∈x.names
 .obtain⟨S,Z,Y,T,V,W,X⟩:=K;have M:=((h S Z T V).o2 Y W X).mv;rw[j.mv] at M;have A:∀(k:Nat) (y:ko),aZ[k]? =some y->∀z,z∈y.e.gl->z.1∈km y.e.sl:=by
   intro k y hk z p;obtain⟨_,_,n⟩:=m k y hk;obtain⟨⟨sv,a⟩,f⟩:=jau n.eff;obtain⟨s,g,v⟩:=z;rw[a];exact jcs.2 (f s g v p).1
  have u:keep (zh ops.toList o) (bld D aZ rs).st.sl=keep (zh ops.toList o) (bld (fun k=>decide (k<i)) aZ rs).st.sl:=by
   simp only[bld,qU];congr 1;refine jkp aZ 0 (fun k y a f=>jfY _ (fun z p=> ?_));rw[<-j.slots];exact(h k y a (by simpa using f)).s2 z.1 ((jc1 _ _).2 ⟨z.2,p⟩)
  have G:keep (zh ops.toList o) (bld D aZ rs).gl=keep (zh ops.toList o) (bld (fun k=>decide (k<i)) aZ rs).gl:=by
   simp only[bld,qU];congr 1;refine jkp aZ 0 (fun k y a f=>jfY _ (fun z p=> ?_));rw[<-j.slots];exact(h k y a (by simpa using f)).s2 z.1 (A k y a z p)
  have l:∀r,r∈x.os->EqB (bld D aZ rs).st (bld (fun k=>decide (k<i)) aZ rs).st r:=by
   intro r d;by_cases hk:∃k y,aZ[k]? =some y/\D k≠decide (k<i)/\r∈km y.e.ob
   .obtain⟨k,y,a,f,t⟩:=hk;obtain⟨_,_,n⟩:=m k y a;have L:=(h k y a f).o2 r (by rw[n.ws];exact jG2 _ t) (by unfold ko.names;simp[d]);have I:=jtS aZ r (by rw[<-E];exact L.nb);have J:∀D':Nat->Bool,jao ((bld D' aZ rs).st.obj r)=false:=by
     intro D';rw[jbh]
     split
     .rename_i z p;obtain⟨k,y,a,_,t⟩:=(vp _ _ _ _ _).1 (zD _ _ _ p);exact I y (jH0 a) z t
     .exact L.bf
    exact .inr ⟨J _,J _⟩
   .refine .inl ?_;rw[jbh,jbh];rw[jkf (D:=D) (D':=fun k=>decide (k<i)) aZ 0 (fun k y a f=>jw _ _ (fun B=>hk ⟨k,y,a,by simpa using f,B⟩))]
  have c:=j.os;have H:(zS (zh ops.toList o) (bld D aZ rs)).1=x.os:=by
   rw[c];unfold zS;simp only;rw[u,G];refine jj8 3 _ (fun r d=>l r ?_);rw[c];unfold zS;exact d
  refine⟨?_,?_⟩
  .rw[<-j.eff];refine(jCi M (by unfold zS;exact u.symm) (fun b q=> ?_)).symm;rw[gR] at q⊢;rw[gR];rw[H,<-c];by_cases d:b∈x.os
   .rw[<-c,if_pos d] at q;rw[if_pos d,if_pos d];rcases l b d with e|⟨_,e⟩
    .exact e
    .rw[e] at q;cases q
   .rw[<-c,if_neg d] at q;cases q
  .have w:=j.cl;rw[<-c] at w;rw[H];unfold closed at w⊢
   split at w
   case h_2=>cases w
   rename_i c1 c2 O P Q;have N:jlj (zS (zh ops.toList o) (bld D aZ rs)).2.st x.os=jlj (zS (zh ops.toList o) (bld (fun k=>decide (k<i)) aZ rs)).2.st x.os:=jei _ (fun r d=>by
    unfold EqB;rw[gR,gR,H,<-c,if_pos d,if_pos d];exact l r d)
   rw[N,c1,c2,O,P,Q]
 .have F:∀k y,aZ[k]? =some y->D k≠decide (k<i)->∀r,r∈y.ws->r∉x.names:=fun k y a f r t R=>K ⟨k,y,r,a,f,t,R⟩
  rw[jye m j h F];exact⟨j.eff,j.cl⟩
theorem jC9 (p:∀k y,aZ[k]? =some y->∃o',ops.toList[k]? =some o'/\qA C ops.toList aZ rs k o' y) (w:qA C ops.toList aZ rs i o x) (e:∀k y,aZ[k]? =some y->D k≠decide (k<i)->NT rs.st nb x y) {d:Nat} (l:d∈x.nn)
 (h:jAT (bld (fun k=>decide (k<i)) aZ rs) d):jAT (bld D aZ rs) d:=by
 have fact:∀k y,aZ[k]? =some y->∃o',qA C ops.toList aZ rs k o' y:=by
  intro k y b;obtain⟨_,_,t⟩:=p k y b;exact⟨_,t⟩
 have u:d∈x.ws:=(by rw[w.ws];exact jG1 _ l);have o1:∀{y:ko},NT rs.st nb x y->d∉y.names:=fun{y} h n=>(h.o1 d u n).nn l
 have j:∀{sv:SV},d∉sv.rl->sv.refs d=false:=fun{sv} n=>by
  cases m:sv.refs d with
  |false=>rfl
  |true=>exact absurd (jsD sv d m) n
 refine⟨?_,?_,?_,?_,h.lt⟩
 .have b:=h.obj;rw[jbh] at b⊢;rw[jkf (D:=D) (D':=fun k=>decide (k<i)) aZ 0 (fun k y b c=>jw _ _ (fun hk=> ?_))]
  .exact b
  .obtain⟨o',z⟩:=fact k y b;exact(e k y b (by simpa using c)).ws d u (by rw[z.ws];exact jG2 _ hk)
 .intro s v a;simp only[bld] at a;rcases jHa.1 a with a|a
  .obtain⟨k,y,b,c,f⟩:=(vp _ _ _ _ _).1 a;simp only[jH7] at c;by_cases hk:k<i
   .exact h.sl s v (by simp only[bld];exact jG2 _ ((vp _ _ _ _ _).2 ⟨k,y,b,by simpa using hk,f⟩))
   .refine j fun q=>o1 (e k y b (by rw[c];simp[hk])) ?_
    unfold ko.names;exact jG2 _ (jn9 _ s v d f q)
  .exact h.sl s v (by simp only[bld];exact jG1 _ a)
 .intro s g v a;simp only[bld] at a;rcases jHa.1 a with a|a
  .obtain⟨k,y,b,c,f⟩:=(vp _ _ _ _ _).1 a;simp only[jH7] at c;by_cases hk:k<i
   .exact h.gl s g v (by simp only[bld];exact jG2 _ ((vp _ _ _ _ _).2 ⟨k,y,b,by simpa using hk,f⟩))
   .refine j fun q=>o1 (e k y b (by rw[c];simp[hk])) ?_
    unfold ko.names;exact jG1 _ (jG2 _ (joa _ s g v d f q))
  .exact h.gl s g v (by simp only[bld];exact jG1 _ a)
 .intro r T fz cs a;simp only[bld] at a;rcases jHa.1 a with a|a
  .obtain⟨k,y,b,c,f⟩:=(vp _ _ _ _ _).1 a;simp only[jH7] at c;by_cases hk:k<i
   .exact h.ob r T fz cs (by simp only[bld];exact jG2 _ ((vp _ _ _ _ _).2 ⟨k,y,b,by simpa using hk,f⟩))
   .cases m:SV.refs.refsL d cs with
    |false=>rfl
    |true=>
     refine absurd ?_ (o1 (e k y b (by rw[c];simp[hk])));unfold ko.names;exact jG1 _ (jG1 _ (jG2 _ (jkb _ r T fz cs d f (gW cs d m))))
  .exact h.ob r T fz cs (by simp only[bld];exact jG1 _ a)
theorem jzV (c:∀k y,aZ[k]? =some y->∃o',ops.toList[k]? =some o'/\qA C ops.toList aZ rs k o' y) (n:qA C ops.toList aZ rs i o x)
 (a:∀k y,aZ[k]? =some y->D k≠decide (k<i)->NT rs.st nb x y):joR C ops o (bld D aZ rs) x.e:=by
 have l:=qY (ops:=ops) n.fit;refine⟨l.frame,fun d g s j b v m=> ?_,l.guard,fun d g=> ?_,fun r=> ?_⟩
 .simp only[bld] at m;rcases jHa.1 m with m|m
  .obtain⟨k,y,p,t,u⟩:=(vp _ _ _ _ _).1 m;simp only[jH7] at t;by_cases hk:k<i
   .exact l.gl d g s j b v (by simp only[bld];exact jG2 _ ((vp _ _ _ _ _).2 ⟨k,y,p,by simpa using hk,u⟩))
   .have B:=a k y p (by rw[t];simp[hk]);obtain⟨_,_,f⟩:=c k y p;obtain⟨⟨sv,E⟩,F⟩:=jau f.eff;obtain⟨w,z⟩:=F s (j,b) v u;obtain⟨⟨H,G⟩,_⟩:=jau n.eff;have q:d∈km x.e.sl:=(by rw[G];exact jcs.2 g);obtain⟨dj,A,_⟩:=(qY (ops:=ops) f.fit).guard s w j b z;refine⟨fun e=> ?_,dj,A,fun e=> ?_⟩
    .subst e;exact B.sl s q (by rw[E];exact jcs.2 w)
    .subst e;refine B.s1 dj q ?_;rw[f.slots];unfold zh;rw[z];exact jG1 _ (jlT A)
  .exact l.gl d g s j b v (by simp only[bld];exact jG1 _ m)
 .exact jC9 c n a (by rw[n.nn];exact jG2 _ g) (l.nw d g)
 .refine jC9 c n a ?_ (l.dst r);rw[n.nn];refine jG1 _ ?_
  split
  .rename_i p t;rcases r with h|h
   .exact absurd p h
   .rw[t] at h;cases h
  .exact jHH
end
theorem jcy {n:Nat} {r s:RS} {a:Act} {w:World} (h:Inv P B n ops r a w) (c:∀k,jD s.st.sl k=jD r.st.sl k) (d:∀k,s.st.obj k=r.st.obj k) (e:∀y,y∈s.gl->y∈r.gl):Inv P B n ops s a w:=by
 obtain⟨l,o,ρ,j,b,f,i⟩:=h;refine⟨l,o,ρ,by rw[show s.st.obj=r.st.obj from funext d];exact j,fun k v p=>b k v (by rw[<-c];exact p),fun k g v m=>f k g v (e _ m),i⟩
end
end Go.X
namespace Go.X
open Go.RowKit (Below)
theorem jq7 {p q:Nat->Bool}:∀(l:List Nat) (x:Nat),x∈l->p x=true->q x=false->(∀y,q y=true->p y=true)->l.countP q<l.countP p
 |[],x,h,_,_,_=>by simp at h
 |y::l,x,h,hp,hq,hqp=>by
  have le:l.countP q<=l.countP p:=List.countP_mono_left fun z _ b=>hqp z b
  simp only[jIu]
  rcases jG4.1 h with rfl|h
  .simp[hp,hq];omega
  .have:=jq7 l x h hp hq hqp
   have:(if q y=true then 1 else 0)<=(if p y=true then 1 else 0):=by
    cases a:q y with
    |false=>simp
    |true=>simp[hqp y a]
   omega
def cnt (n:Nat) (a:Array Bool):Nat:=(List.range n).countP fun k=> !(a.getD k false)
theorem jc8 {a:Array Bool} {i:Nat} (hi:i<a.size) (k:Nat):(a.setIfInBounds i true).getD k false=if k=i then true else a.getD k false:=by
 simp only[jG9,jHl];by_cases e:k=i
 .subst e;simp[hi]
 .rw[if_neg (fun h=>e h.symm),if_neg e]
theorem jAo {n:Nat} {a:Array Bool} {i:Nat} (hi:i<a.size) (c:i<n) (d:a.getD i false=false):cnt n (a.setIfInBounds i true)<cnt n a:=by
 refine jq7 _ i (by simpa using c) (by simp[d]) (by rw[jc8 hi];simp) (fun y b=> ?_);rw[jc8 hi] at b
 split at b
 .simp at b
 .exact b
def Clo (ops:Array Oper) (D:Nat->Bool):Prop:=∀k o,ops.toList[k]? =some o->D k=true->∀e,e∈o.after.toList->Region.binds .any e=true->D e.on=true
theorem q7 {ops:Array Oper} {ps:List (List Nat)} (b:kO ops.toList []=some ps) {D:Nat->Bool} (t:Clo ops D):∀(n k:Nat),k<n->∀o p,ops.toList[k]? =some o->
 (∀e,e∈o.after.toList->Region.binds .any e=true->D e.on=true)->ps[k]? =some p->∀j,j∈p->D j=true
 |0,k,h,_,_,_,_,_,_,_=>by omega
 |n+1,k,hk,o,p,w,u,F,j,E=>by
  obtain⟨_,g⟩:=qy _ _ _ b
  obtain⟨G,c,r⟩:=g k o w
  simp only[jHJ,jH7] at c r
  rw[F] at c;simp at c;subst c
  obtain⟨B,C⟩:=jcg _ _ _ r
  obtain⟨e,d,f,y⟩:=C j E
  rcases y with rfl|⟨q,s,z⟩
  .exact u e d f
  .have m:e.on<k:=by have:=B e d f;simp at this;omega
   have v:=(jG6.1 w).1
   rw[jHr m] at s
   have a:=jG8 (l:=ops.toList) (i:=e.on) (by omega)
   exact q7 b t n e.on (by omega) _ q a (fun x A g=>t e.on _ a (u e d f) x A g) s j z
theorem vo {ops:Array Oper} {a:Array Bool} (k:a.size=ops.size) {i:Nat}:i∈Region.ready .any ops a↔∃o,ops.toList[i]? =some o/\a.getD i false=false/\∀e,e∈o.after.toList->Region.binds .any e=true->a.getD e.on false=true:=by
 unfold Region.ready;simp only[jHh,jHj,jG3,jHB,jHN];constructor
 .rintro⟨d,b,c⟩;have j:ops[i]? =some ops[i]:=jHv d;rw[j] at c;simp only[Option.map_some,Option.getD_some,Array.all_eq_true_iff_forall_mem] at c;refine⟨ops[i],j,?_,fun e g f=> ?_⟩
  .rw[jG9] at b⊢;have:a[i]? =some a[i]:=jHv (by omega);rw[this] at b⊢;simpa using b
  .have:=c e (by simpa using g);simpa[f] using this
 .rintro⟨o,d,b,c⟩;have h:=(jHc.1 d).1;refine⟨h,?_,?_⟩
  .rw[jG9] at b⊢;have:a[i]? =some a[i]:=jHv (by omega);rw[this] at b⊢;simpa using b
  .rw[d];simp only[Option.map_some,Option.getD_some,Array.all_eq_true_iff_forall_mem];intro e g;cases f:Region.binds .any e with
   |false=>simp
   |true=>simp[c e (by simpa using g) f]
theorem jaE {ops:Array Oper} {ps:List (List Nat)} (b:kO ops.toList []=some ps) {a:Array Bool} (l:a.size=ops.size) (j:Region.ready .any ops a=[]):
 ∀n k,k<n->k<ops.size->a.getD k false=true
 |0,k,h,_=>by omega
 |n+1,k,hk,c=>by
  cases p:a.getD k false with
  |true=>rfl
  |false=>
   have i:ops.toList[k]? =some ops.toList[k]:=jG8 (by simpa using c)
   obtain⟨_,o⟩:=qy _ _ _ b
   obtain⟨r,q,m⟩:=o k _ i
   obtain⟨d,_⟩:=jcg _ _ _ m
   have:k∈Region.ready .any ops a:=(vo l).2 ⟨_,i,p,fun e g f=>jaE b l j n e.on (by have:=d e g f;simp at this;omega) (by have:=d e g f;simp at this;omega)⟩
   rw[j] at this;simp at this
section
variable {P:Program} {B:zV} {C:Ctx} {ops:Array Oper} {Q:Exit->Act->World->Prop} {aZ:List ko} {rs:RS} {ps:List (List Nat)}
theorem jAF (hC:C.ok P) (m:∀k o',ops.toList[k]? =some o'->∃y,qA C ops.toList aZ rs k o' y) (Y:aZ.length=ops.toList.length) (J:kO ops.toList []=some ps) {nb:List Nat} (hnb:nb=yG aZ) (hord:gu rs.st nb aZ aZ ps 0=true)
 (hvc:∀y,y∈aZ->jCS y.e.guard y.e.vc) (hQ:∀a w,Inv P B C.n ops (bld (fun _=>true) aZ rs) a w->Q .normal a w):
 ∀(c:Nat) (b:Array Bool) (a:Act) (w:World),b.size=ops.size->cnt ops.size b<=c->Clo ops (fun k=>b.getD k false)->Inv P B C.n ops (bld (fun k=>b.getD k false) aZ rs) a w->
  wpAny P .any ops Q c b a w:=by
 have hf:∀k y,aZ[k]? =some y->∃o',ops.toList[k]? =some o'/\qA C ops.toList aZ rs k o' y:=by
  intro k y hk;have Z:=(jG6.1 hk).1;have v:k<ops.toList.length:=(by omega);obtain⟨y',t⟩:=m k ops.toList[k] (jG8 v);have:=t.get;rw[hk] at this;simp at this;subst this;exact⟨_,jG8 v,t⟩
 have R:∀(b:Array Bool) (a:Act) (w:World),(∀k,k<ops.size->b.getD k false=true)->Inv P B C.n ops (bld (fun k=>b.getD k false) aZ rs) a w->Q .normal a w:=by
  intro b a w hl M;refine hQ a w ?_;have e:∀{α:Type} (f:ko->List α),eL f (fun k=>b.getD k false) aZ 0=eL f (fun _=>true) aZ 0:=fun f=>jgj f aZ 0 (fun k _ hk=>hl k (by simp at Y;omega))
  have:bld (fun k=>b.getD k false) aZ rs=bld (fun _=>true) aZ rs:=(by unfold bld;rw[e,e,e]);rw[<-this];exact M
 intro c
 induction c with
 |zero=>
  intro b a w hs hc _ M;have hl:∀k,k<ops.size->b.getD k false=true:=by
   intro k hk;cases L:b.getD k false with
   |true=>rfl
   |false=>
    have h0:cnt ops.size b=0:=(by omega);have:=jIm.1 h0 k (by simpa using hk);simp[L] at this
  refine⟨?_,R b a w hl M⟩;rw[List.eq_nil_iff_forall_not_mem];intro i hi;obtain⟨o,F,G,_⟩:=(vo hs).1 hi;have:=(jG6.1 F).1;rw[hl i (by simpa using this)] at G;cases G
 |succ c ih=>
  intro b a w hs hc j M;refine⟨fun hr=>R b a w (fun k hk=>jaE J hs hr (k+1) k (by omega) hk) M,fun i hi=> ?_⟩;obtain⟨o,F,G,h3⟩:=(vo hs).1 hi;have Z:i<ops.size:=(by have:=(jG6.1 F).1;simpa using this);obtain⟨x,A⟩:=m i o F;have q:=vl _ _ _ _ hord;have E:∀(k:Nat) (y:ko),aZ[k]? =some y->∃o',ops.toList[k]? =some o':=by
   intro k y hk;have:=(jG6.1 hk).1;exact⟨_,jG8 (by omega)⟩
  have u:∀(k:Nat) (y:ko),aZ[k]? =some y->(fun k=>b.getD k false) k≠decide (k<i)->NT rs.st nb x y:=by
   intro k y hk hne;simp only at hne;obtain⟨o',d⟩:=E k y hk;by_cases hki:k<i
   .have L:b.getD k false=false:=by cases hh:b.getD k false<;>simp_all
    obtain⟨p,O,e2⟩:=q i x A.get;rcases e2 k y (by omega) hk with h|h
    .exact h.symm
    .have:=q7 J j (i+1) i (by omega) o p F h3 O k h;rw[L] at this;cases this
   .have L:b.getD k false=true:=by cases hh:b.getD k false<;>simp_all
    have hne':k≠i:=fun e=>by subst e;rw[G] at L;cases L
    obtain⟨p,O,e2⟩:=q k y hk;rcases e2 i x (by omega) A.get with h|h
    .exact h
    .have:=q7 J j (k+1) k (by omega) o' p d (fun e he hb=>j k o' d L e he hb) O i h;rw[G] at this;cases this
  obtain⟨V,hcl⟩:=jEy (D:=fun k=>b.getD k false) hf A hnb u;have W:=jzV (D:=fun k=>b.getD k false) hf A u;have l:∀k,(b.setIfInBounds i true).getD k false=if k=i then true else b.getD k false:=jc8 (by omega);have I:Clo ops (fun k=>(b.setIfInBounds i true).getD k false):=by
   intro k o' d hk e he hb;simp only at hk⊢;rw[l] at hk⊢
   split
   .rfl
   .by_cases e':k=i
    .subst e';rw[F] at d;simp at d;subst d;exact h3 e he hb
    .rw[if_neg e'] at hk;exact j k o' d hk e he hb
  have g:=qQ (K:=wpAny P .any ops Q c (b.setIfInBounds i true)) (Q:=Q) hC V W (jjz hcl) M (hvc x (jH0 A.get)) (fun a' w' hI' _=>by
   refine ih _ a' w' (by simpa using hs) (by have:=jAo (n:=ops.size) (by omega) Z G;omega) I ?_;have ins:∀{α:Type} (f:ko->List (Nat×α)) (s:Nat),(∀(k:Nat) (y:ko),i<k->aZ[k]? =some y->b.getD k false=true->jD (f x) s≠none->jD (f y) s=none)->
    jD (eL f (fun k=>(b.setIfInBounds i true).getD k false) aZ 0) s=jD (f x++eL f (fun k=>b.getD k false) aZ 0) s:=by
    intro α f s hh;refine ja7 (i:=i) G (by show(b.setIfInBounds i true).getD i false=true;rw[l,if_pos rfl]) (fun k hk=>by show(b.setIfInBounds i true).getD k false=_;rw[l,if_neg hk]) aZ 0 i (by omega) A.get (fun k y h4 H S T=> ?_);exact hh k y h4 H (by simpa using S) T
   refine jcy hI' (fun s=> ?_) (fun r=> ?_) (fun y N=> ?_)
   .simp only[bld,zr];rw[jj,ins (fun x=>x.e.sl) s (fun k y h4 H S T=>jw _ _ (fun hk=>(u k y H (by show b.getD k false≠_;rw[S];simp;omega)).sl s (vq T) hk)),<-jj,jHn]
   .have O:(zr x.e (bld (fun k=>b.getD k false) aZ rs)).st.obj r=(match jD (x.e.ob++eL (fun x=>x.e.ob) (fun k=>b.getD k false) aZ 0) r with|some y=>y|none=>rs.st.obj r):=by
     simp only[St.obj,zr,bld];rw[<-jHn,jj]
     all_goals (cases jD (x.e.ob++eL (fun x=>x.e.ob) (fun k=>b.getD k false) aZ 0) r<;>rfl)
    have X:=ins (fun x=>x.e.ob) r (fun k y h4 H S T=>jw _ _ (fun hk=>by
     obtain⟨o',d⟩:=E k y H;obtain⟨y',t⟩:=m k o' d;have:=t.get;rw[H] at this;simp at this;subst this;exact(u k y H (by show b.getD k false≠_;rw[S];simp;omega)).ws r (by rw[A.ws];exact jG2 _ (vq T)) (by rw[t.ws];exact jG2 _ hk)))
    rw[jbh,O,X]
    all_goals (cases jD (x.e.ob++eL (fun x=>x.e.ob) (fun k=>b.getD k false) aZ 0) r<;>rfl)
   .simp only[bld,zr] at N⊢;rcases jHa.1 N with N|N
    .obtain⟨k,z,g1,g2,g3⟩:=(vp _ _ _ _ _).1 N;simp only[jH7] at g2;rw[l] at g2;by_cases e:k=i
     .subst e;have:=A.get;rw[g1] at this;simp at this;subst this;exact jG2 _ g3
     .rw[if_neg e] at g2;exact jG1 _ (jG2 _ ((vp _ _ _ _ _).2 ⟨k,z,g1,by simpa using g2,g3⟩))
    .exact jG1 _ (jG1 _ N))
  unfold wpOp;have hoi:ops[i]? =some o:=(by simpa using F);rw[hoi];simp only
  split
  .rename_i hw;rw[if_pos hw] at g;exact .inl g
  .rename_i hw;rw[if_neg hw] at g;exact g
end
end Go.X
namespace Go.X
open Go.RowKit (Below)
section
variable {P:Program} {B:zV} {C:Ctx} {Q:Exit->Act->World->Prop}
theorem jca {ρ:Env} {obj:Nat->Option Ob} {w:World} (h:Sat P B ρ obj w):Sat P B ρ obj {w with drawn:=w.drawn+1}:=
 ⟨h.os,h.tape,h.output,(by exact Nat.le_succ_of_le h.drawn),h.size,h.good,h.oldH,h.old,fun o x d=>by
  obtain⟨p,a,b⟩:=h.obs o x d
  exact⟨p,a,jU (new:=[]) (Env.le.refl _ _) (by simp) (fun _ _ _ _ _ c=>by simp at c) (fun _ _ _=>⟨rfl,rfl⟩) b⟩,h.dead,h.inj,h.own⟩
def jv1 (P:Program) (ops:Array Oper) (b:Bool) (Q:Exit->Act->World->Prop) (a:Act) (w:World):Prop:=
 match b with
 |false=>wpList P ops Q ops.toList a w
 |true=>wpAny P .any ops Q ops.size (Array.replicate ops.size false) a {w with drawn:=w.drawn+1}
theorem jDV (c:P.follows .mixedOrders=true) {id:Nat} {ops:Array Oper} {b:Bool} {a:Act} {w:World} (h:jv1 P ops b Q a w):(Code.region id ops b).wp P Q a w:=by
 cases b with
 |false=>exact wp_region_list h
 |true=>exact wp_region_any c h
theorem jpQ (D:C.ok P) {ops:Array Oper} {b:Bool} {σ:St} {es:List Eff} {rs:RS} {k:Prop} {a:Act} {w:World}
 (h:gU C ops.toList b σ=some (es,rs)) (hk:zQ b es k) (G:Rel P B C.n σ a w) (F:k->∀c w',Rel P B C.n rs.st c w'->Q .normal c w'):
 jv1 P ops b Q a w:=by
 have E:Inv P B C.n ops ⟨σ,[]⟩ a w:=by
  obtain⟨m,p,ρ,q,r,t⟩:=G;exact⟨m,p,ρ,q,r,(fun s g v H=>by simp at H),t⟩
 have l:∀{i:RS} {c:Act} {w':World},Inv P B C.n ops i c w'->Rel P B C.n i.st c w':=fun⟨m,p,ρ,q,r,_,t⟩=>⟨m,p,ρ,q,r,t⟩
 cases b with
 |false=>
  simp only[gU] at h;exact wF D _ _ _ _ _ _ h hk E (fun f c w' d=>F f c w' (l d))
 |true=>
  simp only[gU] at h
  split at h
  case h_2=>cases h
  rename_i aZ i ps J I
  split at h
  case h_2=>cases h
  rename_i u;simp at h;obtain⟨rfl,rfl⟩:=h;obtain⟨L,M,N⟩:=yk _ _ _ _ J;obtain⟨A,f⟩:=ye _ hk;show wpAny P .any ops Q ops.size (Array.replicate ops.size false) a {w with drawn:=w.drawn+1};have d:Inv P B C.n ops ⟨σ,[]⟩ a {w with drawn:=w.drawn+1}:=by
   obtain⟨m,p,ρ,q,r,t⟩:=E;exact⟨m,p,ρ,jca q,r,t⟩
  refine jAF D N L I rfl u (fun y K=>A y.e (List.mem_map_of_mem K)) (fun c w' x=>F f c w' (l (by rw[M];exact x))) _ _ _ _ (by simp) ?_ ?_ ?_
  .unfold cnt;exact jHi List.countP_le_length (by simp)
  .intro j o O z;simp only[jG9,jIb] at z
   split at z<;>simp at z
  .rw[jbi aZ ⟨σ,[]⟩ (fun j=>by
    simp only[jG9,jIb]
    split<;>simp)]
   exact d
end
end Go.X
namespace Go.X
open Go.RowKit (Below)
structure jl4 (Bi B:zV):Prop where
 os:B.w.os=Bi.w.os
 tape:B.w.tape=Bi.w.tape
 output:B.w.output=Bi.w.output
 drawn:Bi.w.drawn<=B.w.drawn
 size:Bi.w.heap.size<=B.w.heap.size
 mono:∀b c,Bi.H b=some c->B.H b=some c
 old:∀b,b<Bi.w.heap.size->b∉Bi.bor->B.w.heap[b]? =Bi.w.heap[b]?/\B.H b=Bi.H b/\b∉B.bor
 own:∀b,b∈B.bor->Bi.w.heap.size<=b\/b∈Bi.bor
 blk0:B.blk0=Bi.blk0
 len0:B.len0=Bi.len0
def jBo (C:Ctx) (ops r:List Oper) (n:Nat) (rs:RS) (K:Ex->St->Prop):Prop:=
 match vP C ops r rs with
 |none=>False
 |some (ss,a)=>zQ false ss (K .normal (wv ops (gc n a.st)))
theorem jgh {C:Ctx} {σ:St} {fields:List (Nat×Nat)}:∀(l:List (Nat×Operand)) (cs:List SV),vA C.inLit σ fields l cs=vA C σ fields l cs
 |[],_=>rfl
 | (j,x)::r,cs=>by
  have a:=fun cs=>jgh (C:=C) (σ:=σ) (fields:=fields) r cs
  have e:C.inLit.info=C.info:=rfl
  simp only[vA,a,e]
theorem jpe {C:Ctx} {σ:St}:∀n,jpf C.inLit σ n=jpf C σ n
 |0=>rfl
 |n+1=>by
  have a:=jpe (C:=C) (σ:=σ) n
  have e:C.inLit.spec=C.spec:=rfl
  funext ps rs v
  simp only[jpf,a,e]
theorem jBb {C:Ctx} {σ:St}:jDD C.inLit σ=jDD C σ:=by
 funext ps rs v;unfold jDD;rw[jpe]
theorem ji1 {C:Ctx} {σ:St}:∀(ps:List Par) (vs:List SV),wd C.inLit σ ps vs=wd C σ ps vs
 |[],[]=>rfl
 |[],_::_=>rfl
 |p::ps,[]=>by cases p<;>rfl
 |p::ps,v::vs=>by
  have a:=ji1 (C:=C) (σ:=σ) ps vs
  cases p<;>simp only[wd,a,jBb]
theorem jxa {C:Ctx} {σ:St} {dst:Nat} (f:SV) (args:List SV):jmW C.inLit σ dst f args=jmW C σ dst f args:=by
 have e:C.inLit.spec=C.spec:=rfl;have a:C.inLit.eff=C.eff:=rfl;unfold jmW;simp only[ji1,e,a]
theorem jwR {C:Ctx} {σ:St} {dst:Nat}:∀{op:Op},jeB op=false->jmE op=false->jC C.inLit σ dst op=jC C σ dst op:=by
 intro op a b;cases op<;>first|rfl|(simp[jeB] at a;done)|skip
 case makeMap U r=>
  cases r with
  |none=>simp[jmE] at b
  |some r=>rfl
 case build U parts=>
  have e:C.inLit.info=C.info:=rfl;simp only[jC,jgh,e]
 case slice U x lo hi d=>cases d<;>cases lo<;>cases hi<;>rfl
 case call c=>
  simp only[jC,jxa];rfl
theorem jz9 {C:Ctx} {ops:List Oper} {o:Oper} {R:RS} (a:jeB o.op=false) (b:jmE o.op=false):jav C.inLit ops o R=jav C ops o R:=by
 have e:∀ch,gq C.inLit ops o R ch=gq C ops o R ch:=by
  intro ch;unfold gq
  split
  .rfl
  .rfl
  .exact jwR a b
 unfold jav;simp only[e]
theorem jzW {C:Ctx} {ops:Array Oper} {o:Oper} {rs:RS} {e:Eff} (h:joR C.inLit ops o rs e):joR C ops o rs e:=⟨h.frame,h.gl,h.guard,h.nw,h.dst⟩
section
variable {P:Program}
theorem jl4.refl (B:zV):jl4 B B:=⟨rfl,rfl,rfl,jG5 _,jG5 _,fun _ _ h=>h,fun _ _ h=>⟨rfl,rfl,h⟩,fun _ h=> .inr h,rfl,rfl⟩
theorem jb9 {Bi B:zV} {ρ:Env} {obj:Nat->Option Ob} {w:World} (h:jl4 Bi B) (a:Sat P B ρ obj w):Sat P Bi ρ obj w:=by
 obtain⟨c1,c2,l,e,d,p,i,m,q,r⟩:=h;refine⟨a.os.trans c1,a.tape.trans c2,a.output.trans l,jHi e a.drawn,jHi d a.size,a.good,fun b c f=> ?_,fun b c f=> ?_,a.obs,a.dead,a.inj,fun o b C n=> ?_⟩
 .obtain⟨j,k,g⟩:=i b c f;exact(a.oldH b (jH1 c d) g).trans k
 .obtain⟨j,k,g⟩:=i b c f;exact(a.old b (jH1 c d) g).trans j
 .rcases a.own o b C n with h|h
  .exact .inl (jHi d h)
  .exact m b h
theorem jhB {Bi B:zV} {ρ:Env} (h:jl4 Bi B) (d:Pin B ρ):Pin Bi ρ:=by
 refine⟨fun o p e a=> ?_,fun b c a=>d.2 b c (h.mono b c a)⟩;have:=d.1 o p e a;rw[h.blk0,h.len0] at this;exact this
theorem jcU {B:zV} {ρ:Env} {σ:St} {w w':World} {H':Imm} (d:Sat P B ρ σ.obj w) (j:jbT H' w') (k:∀b c,ρ.H b=some c->H' b=some c)
 (hk:∀o b C,ρ.blk o=some (some (b,C))->w'.heap[b]? =w.heap[b]?/\H' b=ρ.H b):
 Sat P {B with w:=w',H:=H',bor:=zl ρ (km σ.ob)} {ρ with H:=H'} σ.obj w':=by
 have e:ρ.le {ρ with H:=H'} []:=⟨k,fun _ _ _ h=>h,fun _ _=>rfl⟩;refine⟨rfl,rfl,rfl,jG5 _,jG5 _,j,fun _ _ _=>rfl,fun _ _ _=>rfl,?_,d.dead,d.inj,?_⟩
 .intro o x n;obtain⟨p,a,m⟩:=d.obs o x n;refine⟨p,a,jU e (by simp) (fun _ _ _ _ o' g=>by simp at g) (fun b C' i=> ?_) m⟩;subst i;have:=hk o b C' a;exact⟨this.2,this.1⟩
 .intro o b C' a;refine .inr ((zj _).2 ⟨o,C',?_,a⟩);refine Classical.byContradiction fun f=> ?_
  have l:σ.obj o=none:=by
   simp only[St.obj];rw[jw _ _ f]
  have:=d.dead o l;rw[a] at this;cases this
theorem jmV {Bi B:zV} {ρ:Env} {σ:St} {w w':World} (d:jl4 Bi B) (k:Sat P B ρ σ.obj w) (e:Pin B ρ) (l:w'.os=w.os) (m:w'.tape=w.tape) (n:w'.output=w.output) (p:w.drawn<=w'.drawn) (q:w.heap.size<=w'.heap.size)
 (r:jbT ρ.H w') (hk:∀b,b<Bi.w.heap.size->w'.heap[b]? =w.heap[b]?) (t:∀o b C,ρ.blk o=some (some (b,C))->w'.heap[b]? =w.heap[b]?):
 jl4 Bi {B with w:=w',H:=ρ.H,bor:=zl ρ (km σ.ob)}/\Sat P {B with w:=w',H:=ρ.H,bor:=zl ρ (km σ.ob)} ρ σ.obj w'/\Pin {B with w:=w',H:=ρ.H,bor:=zl ρ (km σ.ob)} ρ:=by
 have a:=jb9 d k;refine⟨⟨l.trans a.os,m.trans a.tape,n.trans a.output,jHi a.drawn p,jHi a.size q,fun b c i=>(jhB d e).2 b c i,fun b f g=>⟨?_,a.oldH b f g,fun s=> ?_⟩,fun b i=> ?_,d.blk0,d.len0⟩,jcU k r (fun _ _ h=>h) (fun o b C h=>⟨t o b C h,rfl⟩),⟨e.1,fun _ _ h=>h⟩⟩
 .exact(hk b f).trans (a.old b f g)
 .obtain⟨o,C,_,h⟩:=(zj _).1 s;rcases a.own o b C h with j|j
  .omega
  .exact g j
 .obtain⟨o,C,_,h⟩:=(zj _).1 i;exact a.own o b C h
theorem jDP {B:zV} {ρ:Env} {obj:Nat->Option Ob} {w:World} (f:Sat P B ρ obj w) {d b:Nat} (E:obj d=none) (v:kN obj d) (l:∀o C,ρ.blk o≠some (some (b,C))) (n:B.w.heap.size<=b\/b∈B.bor) (x:Ob)
 (A:∀a:Env,a.H=ρ.H->zq P a w d (some (b,0)) x):∃a:Env,Sat P B a (jgC obj d (some x)) w/\ρ.le a [d]/\a.H=ρ.H/\a.blk d=some (some (b,0))/\∀o,o≠d->a.blk o=ρ.blk o:=by
 let a:Env:={H:=ρ.H,blk:=fun o=>if o=d then some (some (b,0)) else ρ.blk o,len:=ρ.len}
 have k:ρ.le a [d]:=⟨fun _ _ h=>h,fun o p c s=>by
  have c:o≠d:=(by simpa using c);simpa only[a,c,if_false] using s,fun _ _=>rfl⟩
 refine⟨a,⟨f.os,f.tape,f.output,f.drawn,f.size,f.good,f.oldH,f.old,fun o y j=> ?_,fun o c=> ?_,fun o o' q C C' g i=> ?_,fun o q C h=> ?_⟩,k,rfl,by simp[a],fun o c=>by simp[a,c]⟩
 .unfold jgC at j
  split at j
  .rename_i e;subst e;simp only[Option.some.injEq] at j;subst j;exact⟨_,by simp[a],A a rfl⟩
  .rename_i c;obtain⟨p,s,z⟩:=f.obs o y j;exact⟨p,by simp[a,c,s],jU k (by simpa using c) (fun T fz cs r o' m=>by simp at m;subst m;exact v o T fz cs (by rw[j,r])) (fun b C D=>⟨rfl,rfl⟩) z⟩
 .unfold jgC at c;simp only[a]
  split at c
  .cases c
  .rename_i h;rw[if_neg h];exact f.dead o c
 .simp only[a] at g i
  split at g<;>split at i
  .rename_i t u;rw[t,u]
  .simp only[Option.some.injEq,Prod.mk.injEq] at g;rw[<-g.1] at i;exact absurd i (l o' C')
  .simp only[Option.some.injEq,Prod.mk.injEq] at i;rw[<-i.1] at g;exact absurd g (l o C)
  .exact f.inj o o' q C C' g i
 .simp only[a] at h
  split at h
  .simp only[Option.some.injEq,Prod.mk.injEq] at h;rw[<-h.1];exact n
  .exact f.own o q C h
def lvO (d:Nat):Option Nat->RS->RS
 |none,rs=>rs
 |some b,rs=>⟨⟨(d,.lit (.map (some b)))::rs.st.sl,rs.st.ob⟩,rs.gl⟩
variable {C:Ctx} {ops:Array Oper} {B:zV}
theorem jza {rs:RS} {d:Nat} {q:Option Nat} {k:Nat} (h:jAT rs k):jAT (lvO d q rs) k:=by
 cases q with
 |none=>exact h
 |some b=>
  refine⟨h.obj,fun s v a=> ?_,h.gl,h.ob,h.lt⟩;rcases jG4.1 a with e|a
  .injection e with _ e;subst e;rfl
  .exact h.sl s v a
theorem jCf {o:Oper} {rs:RS} {e:Eff} {d:Nat} {q:Option Nat} (h:joR C ops o rs e):joR C ops o (lvO d q rs) e:=
 ⟨h.frame,fun k hk s j b v c=>h.gl k hk s j b v (by cases q<;>exact c),h.guard,fun k hk=>jza (h.nw k hk),fun a=>jza (h.dst a)⟩
theorem jFM {rs R:RS} {e:Eff} {d:Nat} {q:Option Nat} (h:Fit P B rs R e) (i:jD R.st.sl d=none):Fit P B (lvO d q rs) R e:=by
 cases q with
 |none=>exact h
 |some b=>
  refine⟨fun s v f=> ?_,h.gl,h.obj,fun ρ w g c=>h.go ρ w g c⟩;have a:d≠s:=fun e=>by subst e;rw[i] at f;cases f
  show jD ((d,_)::rs.st.sl) s=some v;rw[jB a];exact h.sl s v f
theorem jlK {α:Type} {ks:List Nat} {l:List (Nat×α)} {s:Nat} (h:s∉ks):jD (keep ks l) s=none:=by
 refine jw _ _ fun hk=> ?_
 obtain⟨x,a⟩:=(jc1 _ _).1 hk;exact h (jiN ks l _ a).2
theorem jEO {C':Ctx} {aZ:List ko} {rs:RS} {i:Nat} {o:Oper} {x:ko} {nb:List Nat} (p:∀k y,aZ[k]? =some y->∃o',ops.toList[k]? =some o'/\qA C' ops.toList aZ rs k o' y) (q:qA C' ops.toList aZ rs i o x)
 {D D':Nat->Bool} (hi:D i=false) (n:D' i=true) (w:∀k,k≠i->D' k=D k) (g:∀k y,aZ[k]? =some y->D k≠decide (k<i)->NT rs.st nb x y):
 (∀s,jD (bld D' aZ rs).st.sl s=jD (zr x.e (bld D aZ rs)).st.sl s)/\(∀r,(bld D' aZ rs).st.obj r=(zr x.e (bld D aZ rs)).st.obj r)/\(∀y,y∈(bld D' aZ rs).gl->y∈(zr x.e (bld D aZ rs)).gl):=by
 have j:∀{α:Type} (f:ko->List (Nat×α)) (s:Nat),(∀(k:Nat) (y:ko),i<k->aZ[k]? =some y->D k=true->jD (f x) s≠none->jD (f y) s=none)->
  jD (eL f D' aZ 0) s=jD (f x++eL f D aZ 0) s:=by
  intro α f s B;exact ja7 (i:=i) hi n w aZ 0 i (by omega) q.get (fun k y m a c d=>B k y m a (by simpa using c) d)
 refine⟨fun s=> ?_,fun r=> ?_,fun y b=> ?_⟩
 .simp only[bld,zr];rw[jj,j (fun x=>x.e.sl) s (fun k y m a c d=>jw _ _ (fun hk=>(g k y a (by rw[c];simp;omega)).sl s (vq d) hk)),<-jj,jHn]
 .have A:(zr x.e (bld D aZ rs)).st.obj r=(match jD (x.e.ob++eL (fun x=>x.e.ob) D aZ 0) r with|some y=>y|none=>rs.st.obj r):=by
   simp only[St.obj,zr,bld];rw[<-jHn,jj]
   all_goals (cases jD (x.e.ob++eL (fun x=>x.e.ob) D aZ 0) r<;>rfl)
  have h:=j (fun x=>x.e.ob) r (fun k y m a c d=>jw _ _ (fun hk=>by
   obtain⟨_,_,t⟩:=p k y a;exact(g k y a (by rw[c];simp;omega)).ws r (by rw[q.ws];exact jG2 _ (vq d)) (by rw[t.ws];exact jG2 _ hk)))
  rw[jbh,A,h]
  all_goals (cases jD (x.e.ob++eL (fun x=>x.e.ob) D aZ 0) r<;>rfl)
 .simp only[bld,zr] at b⊢;rcases jHa.1 b with b|b
  .obtain⟨k,z,u,l,v⟩:=(vp _ _ _ _ _).1 b;simp only[jH7] at l;by_cases e:k=i
   .subst e;have:=q.get;rw[u] at this;simp at this;subst this;exact jG2 _ v
   .rw[w k e] at l;exact jG1 _ (jG2 _ ((vp _ _ _ _ _).2 ⟨k,z,u,by simpa using l,v⟩))
  .exact jG1 _ (jG1 _ b)
theorem jvZ {U:Nat} {ti tk te:TI} (D:C.ok P) (q:C.mapT U=some (ti,tk,te)) {H:Imm} {b:Nat} {es:Array MapEntry} {clock:Nat} {l:List (tk.ty.Data×te.ty.Data)} {w:World} (u:w.heap[b]? =some (.map es clock))
 (f:jcQ H tk.ty te.ty es clock l) {o:Oper} {ev:Operand->Value} {m n x:Operand} (r:o.op= .insert U m n x) (F:ev m= .map (some b)) {k:tk.ty.Data} (hk:tk.ty.rv H (ev n) k) (d:k∉l.map (·.1)):
 (execOp ev o).run P w= .ok .skip {w with heap:=w.heap.setIfInBounds b (.map (es.push {key:=ev n,val:=ev x,born:=clock}) (clock+1))}:=by
 obtain⟨_,s,J,h,p,G⟩:=jal D q;obtain⟨K,L,S⟩:=s.keyq p;have E:(getObj b).run P w= .ok (.map es clock) w:=(by simp[getObj,Sem.run,u]);have g:∀y:Obj,(setObj b y).run P w= .ok () {w with heap:=w.heap.setIfInBounds b y}:=fun y=>by simp[setObj,Sem.run,u]
 have c1:=K H (ev n) k w false hk;have c:es.toList.length=l.length:=(by simpa using f.1);have a:∀(i:Nat) (x:tk.ty.Data×te.ty.Data),l[i]? =some x->∃e:MapEntry,es.toList[i]? =some e/\tk.ty.rv H e.key x.1/\te.ty.rv H e.val x.2:=fun i x I=>by simpa using f.2.2.2.2 i x I
 have c2:=L H es.toList (jbx l) (ev n) k w hk (jqr _ _ c a);rcases vz (H:=H) k es.toList l 0 c a with⟨t,v,z⟩|⟨j,N,M,t,v,z,A,B,O,Q,R⟩
 .rw[t] at c2;simp[execOp,r,Instr.mapUpdate,run_underlying h,F,E,c1,c2,g]
 .refine absurd (jHy.2 ⟨M,jH0 A,B⟩) d
theorem jfS {α:Type} {y:α}:∀(l:List (Option α)),y∈jfv l↔∃k:Nat,l[k]? =some (some y)
 |[]=>by simp[jfv]
 |none::r=>by
  simp only[jfv,jfS r]
  constructor
  .rintro⟨k,hk⟩;exact⟨k+1,by simpa using hk⟩
  .rintro⟨k,hk⟩
   cases k with
   |zero=>simp at hk
   |succ k=>exact⟨k,by simpa using hk⟩
 |some x::r=>by
  simp only[jfv,jG4,jfS r]
  constructor
  .rintro(rfl|⟨k,hk⟩)
   .exact⟨0,rfl⟩
   .exact⟨k+1,by simpa using hk⟩
  .rintro⟨k,hk⟩
   cases k with
   |zero=>simp at hk;exact .inl hk.symm
   |succ k=>exact .inr ⟨k,by simpa using hk⟩
theorem jny {α a:Type}:∀(l:List (Option (α×a))),((jfv l).map (·.1)).Nodup->∀(i j:Nat) (x y:α×a),l[i]? =some (some x)->l[j]? =some (some y)->i≠j->x.1≠y.1
 |[],_,i,_,_,_,h,_,_=>by simp at h
 |none::r,hn,i,j,x,y,hi,hj,hne=>by
  cases i with
  |zero=>simp at hi
  |succ i=>
   cases j with
   |zero=>simp at hj
   |succ j=>exact jny r hn i j x y (by simpa using hi) (by simpa using hj) (by omega)
 |some z::r,hn,i,j,x,y,hi,hj,hne=>by
  simp only[jfv,jH8,jHV] at hn
  have inr:∀(k:Nat) (u:α×a),r[k]? =some (some u)->u.1∈(jfv r).map (·.1):=fun k u b=>jHy.2 ⟨u,(jfS r).2 ⟨k,b⟩,rfl⟩
  cases i with
  |zero=>
   cases j with
   |zero=>exact absurd rfl hne
   |succ j=>
    simp at hi;subst hi
    intro e
    exact hn.1 (e▸inr j y (by simpa using hj))
  |succ i=>
   cases j with
   |zero=>
    simp at hj;subst hj
    intro e
    exact hn.1 (e▸inr i x (by simpa using hi))
   |succ j=>exact jny r hn.2 i j x y (by simpa using hi) (by simpa using hj) (by omega)
structure jGj (B B':zV) (kt vt:Ty) (ents:List (Option (kt.Data×vt.Data))) (D:Nat->Bool) (b:Nat) (l:List (kt.Data×vt.Data)) (es:Array MapEntry) (clock:Nat):Prop where
 d0:D 0=true
 ge:B.w.heap.size<=b
 lt:b<B'.w.heap.size
 nb:b∉B'.bor
 nH:B'.H b=none
 at_:B'.w.heap[b]? =some (.map es clock)
 rd:jcQ B'.H kt vt es clock l
 nd:(l.map (·.1)).Nodup
 mem:∀y,y∈l↔∃k:Nat,D k=true/\ents[k]? =some (some y)
def jGE (P:Program) (B:zV) (n:Nat) (ops:Array Oper) (d:Nat) (kt vt:Ty) (ents:List (Option (kt.Data×vt.Data))) (aZ:List ko) (rs:RS) (D:Nat->Bool) (a:Act) (w:World):Prop:=
 ∃B' q,jl4 B B'/\Inv P B' n ops (lvO d q (bld D aZ rs)) a w/\match q with
  |none=>D 0=false
  |some b=>∃l es clock,jGj B B' kt vt ents D b l es clock
theorem jiH:∀(n k:Nat),k∈jDB n↔k<n
 |0,k=>by simp[jDB]
 |n+1,k=>by simp only[jDB,jG4,jiH n k];omega
theorem jmK (p:List Nat):∀n,juV p n=true->∀j,j<n->j∈p
 |0,_,j,h=>by omega
 |n+1,h,j,b=>by
  simp only[juV] at h
  split at h
  .rename_i a
   by_cases e:j=n
   .subst e;exact(kA _ _).1 a
   .exact jmK p n h j (by omega)
  .cases h
theorem jjl:∀(ps:List (List Nat)) (k m:Nat),jjm ps k m=true->∀(i:Nat) (p:List Nat),ps[i]? =some p->m<=k+i->∀j,j<m->j∈p
 |[],_,_,_,i,_,h,_=>by simp at h
 |q::ps,k,m,h,i,p,hi,hm=>by
  have tl:jjm ps (k+1) m=true:=by
   simp only[jjm] at h
   split at h
   .split at h
    .exact h
    .cases h
   .exact h
  cases i with
  |zero=>
   simp at hi;subst hi;simp only[jjm] at h;have:Nat.ble m k=true:=Nat.ble_eq_true_of_le (by omega);rw[this] at h;simp only at h
   split at h
   .rename_i a;exact jmK _ _ a
   .cases h
  |succ i=>exact jjl ps (k+1) m tl i p (by simpa using hi) (by omega)
theorem jm0 {d:Nat}:∀(l:List Oper) (aZ:List ko),aside d l aZ=true->∀(k:Nat) (o:Oper) (x:ko),l[k]? =some o->aZ[k]? =some x->jeB o.op=false->jmE o.op=false/\d∉x.slots/\d∉km x.e.sl
 |[],_,_,k,_,_,h,_,_=>by simp at h
 |_::_,[],h,_,_,_,_,_,_=>by simp[aside] at h
 |o::r,x::aZ,h,k,o',x',hk,hx,hi=>by
  simp only[aside] at h
  cases k with
  |zero=>
   simp at hk hx;subst hk hx
   rw[hi] at h
   simp only at h
   split at h
   .rename_i f b c
    refine⟨f,?_,?_⟩
    .intro a;rw[(kA _ _).2 a] at b;cases b
    .intro a;rw[(kA _ _).2 a] at c;cases c
   .cases h
  |succ k=>
   have tl:aside d r aZ=true:=by
    split at h
    .exact h
    .split at h
     .exact h
     .cases h
   exact jm0 r aZ tl k o' x' (by simpa using hk) (by simpa using hx) hi
theorem jkT {a:List Oper} {d U:Nat} {kt vt:Ty}:∀(l:List Oper) (aZ:List ko) (rs:RS) (ents:List (Option (kt.Data×vt.Data))),jkU a d U kt vt l aZ rs=some ents->
 ents.length=l.length/\∀(k:Nat) (o:Oper),l[k]? =some o->∃y,ents[k]? =some y/\joD d U kt vt o (zS (zh a o) (bld (fun j=>decide (j<k)) aZ rs)).2.st=some y
 |[],[],rs,ents,h=>by simp[jkU] at h;subst h;exact⟨rfl,fun k o h=>by simp at h⟩
 |[],_::_,_,_,h=>by simp[jkU] at h
 |_::_,[],_,_,h=>by simp[jkU] at h
 |o::r,x::aZ,rs,ents,h=>by
  simp only[jkU] at h
  split at h
  case h_2=>cases h
  rename_i y l e f
  simp at h;subst h
  obtain⟨g,i⟩:=jkT r aZ _ _ f
  refine⟨by simp[g],fun k o' hk=> ?_⟩
  cases k with
  |zero=>
   simp at hk;subst hk
   refine⟨y,rfl,?_⟩
   rw[jbi (x::aZ) rs (fun k=>by simp)]
   exact e
  |succ k=>
   obtain⟨m,b,c⟩:=i k o' (by simpa using hk)
   refine⟨m,by simpa using b,?_⟩
   rw[joK _ _ _ _ (by simp)]
   have:(fun j=>decide (j+1<k+1))=fun j=>decide (j<k):=by funext j;simp
   rw[this]
   exact c
theorem jmS {d U:Nat} {kt vt:Ty} {o:Oper} {σ:St} {y:kt.Data×vt.Data} (h:joD d U kt vt o σ=some (some y)):
 ∃b x,o.op= .insert U (.tmp d) b x/\o.dst=none/\o.guard=none/\jwl d b=true/\jwl d x=true/\qn σ kt (jQ σ b)=some (y.1,[])/\qn σ vt (jQ σ x)=some (y.2,[]):=by
 unfold joD at h
 split at h
 .rename_i s m b x c
  split at h
  .rename_i u k v a e i j l n p q
   split at h
   .rename_i r;simp at h;subst h;have:=jG0 r;subst this;have:=jG0 j;subst this;refine⟨b,x,?_,e,i,p,q,l,n⟩;cases m with
    |tmp t=>simp[jod] at a;subst a;exact c
    |const v=>simp[jod] at a
    |global g=>simp[jod] at a
    |func f=>simp[jod] at a
   .cases h
  .cases h
 .simp at h
theorem jz8 {d U:Nat} {kt vt:Ty} {o:Oper} {σ:St} {y:Option (kt.Data×vt.Data)} (h:joD d U kt vt o σ=some y) (hi:jeB o.op=true):∃z,y=some z:=by
 unfold joD at h
 split at h
 .split at h
  .split at h
   .simp at h;subst h;exact⟨_,rfl⟩
   .cases h
  .cases h
 .rename_i a;exfalso;cases b:o.op<;>rw[b] at hi<;>simp[jeB] at hi
  exact a _ _ _ _ b
theorem jtF {d U:Nat} {kt vt:Ty} {o:Oper} {σ:St} {y:Option (kt.Data×vt.Data)} (h:joD d U kt vt o σ=some y) (hi:jeB o.op=false):y=none:=by
 unfold joD at h
 split at h
 .rename_i a;rw[a] at hi;simp[jeB] at hi
 .simp at h;exact h.symm
theorem jDk {ρ:Env} {d:Nat} {q:Option Nat} {rs:RS} {a:Act} {slots:List Nat} {x:Operand} (c:jgz P ρ (lvO d q rs).st.sl a) (j:jwl d x=true):SV.den P ρ (jQ (zS slots rs).2.st x) (a.eval x):=by
 cases x with
 |tmp t=>
  have i:d≠t:=by
   intro e;subst e;simp only[jwl] at j
   split at j
   .cases j
   .rename_i l;exact absurd (Nat.beq_refl d) (by rw[l];simp)
  simp only[jQ,St.get]
  split
  .rename_i v m;have k:=jfT slots _ t v m;refine c t v ?_;cases q with
   |none=>exact k
   |some b=>show jD ((d,_)::rs.st.sl) t=some v;rw[jB i];exact k
  .exact wn _
 |const v=>exact jO (σ:=⟨[],[]⟩) (fun s sv h=>by simp[jD] at h) (.const v)
 |global g=>exact jO (σ:=⟨[],[]⟩) (fun s sv h=>by simp[jD] at h) (.global g)
 |func f=>exact jO (σ:=⟨[],[]⟩) (fun s sv h=>by simp[jD] at h) (.func f)
end
end Go.X
namespace Go.X
open Go.RowKit (Below)
section
variable {P:Program} {B:zV} {C:Ctx} {ops:Array Oper} {Q:Exit->Act->World->Prop} {aZ:List ko} {rs:RS} {ps:List (List Nat)}
structure jxr (P:Program) (C:Ctx) (ops:Array Oper) (aZ:List ko) (rs:RS) (ps:List (List Nat)) (body:List Oper) (m d U:Nat) (tk te:TI) (ents:List (Option (tk.ty.Data×te.ty.Data))):Prop where
 ok:C.ok P
 mp:∃ti,C.mapT U=some (ti,tk,te)
 bd:∀(k:Nat) (o:Oper),body[k]? =some o->ops.toList[k]? =some o
 sz:ops.size=body.length+m
 o0:∃o,body[0]? =some o/\o.op= .makeMap U none/\o.dst=some d/\o.guard=none
 pre:kO ops.toList []=some ps
 tl:∀(k:Nat) (p:List Nat),body.length<=k->ps[k]? =some p->∀j,j<body.length->j∈p
 all:∀(k:Nat) (o:Oper),body[k]? =some o->∃y,qA C.inLit ops.toList aZ rs k o y
 len:aZ.length=body.length
 ord:gu rs.st (yG aZ) aZ aZ ps 0=true
 ent:∀(k:Nat) (o:Oper),body[k]? =some o->∃y,ents[k]? =some y/\joD d U tk.ty te.ty o (zS (zh ops.toList o) (bld (fun j=>decide (j<k)) aZ rs)).2.st=some y
 elen:ents.length=body.length
 aside:∀(k:Nat) (o:Oper) (x:ko),0<k->body[k]? =some o->aZ[k]? =some x->jeB o.op=false->jmE o.op=false/\d∉x.slots/\d∉km x.e.sl
 nd:((jfv ents).map (·.1)).Nodup
 new:js8 (bld (fun _=>true) aZ rs) d=true
 vc:∀y,y∈aZ->jCS y.e.guard y.e.vc
variable {body:List Oper} {m d U:Nat} {tk te:TI} {ents:List (Option (tk.ty.Data×te.ty.Data))}
theorem jxr.fact (h:jxr P C ops aZ rs ps body m d U tk te ents):∀k y,aZ[k]? =some y->∃o',ops.toList[k]? =some o'/\body[k]? =some o'/\qA C.inLit ops.toList aZ rs k o' y:=by
 intro k y hk;have e:=(jG6.1 hk).1;have a:k<body.length:=(by have:=h.len;omega);have c:body[k]? =some body[k]:=jG8 a;obtain⟨f,b⟩:=h.all k _ c;have:=b.get;rw[hk] at this;simp at this;subst this;exact⟨_,h.bd k _ c,c,b⟩
theorem jxr.fact' (h:jxr P C ops aZ rs ps body m d U tk te ents):∀k y,aZ[k]? =some y->∃o',ops.toList[k]? =some o'/\qA C.inLit ops.toList aZ rs k o' y:=fun k y hk=>
 let ⟨o',h1,_,h2⟩:=h.fact k y hk;⟨o',h1,h2⟩
theorem jxr.behind (h:jxr P C ops aZ rs ps body m d U tk te ents) {k:Nat} {y:tk.ty.Data×te.ty.Data} (hk:ents[k]? =some (some y)):∃p,ps[k]? =some p/\0∈p:=by
 have j:k<body.length:=(by have:=(jG6.1 hk).1;have:=h.elen;omega);have i:body[k]? =some body[k]:=jG8 j;obtain⟨D,g,o⟩:=h.ent k _ i;rw[hk] at g;simp at g;subst g;obtain⟨B,x,a,n,s,_⟩:=jmS o;obtain⟨z,c⟩:=h.all k _ i;obtain⟨o0,f,q,r,A⟩:=h.o0;obtain⟨x0,b⟩:=h.all 0 _ f;have t:0<k:=by
  rcases jIf k with e|e
  .subst e;rw[i] at f;simp at f;rw[f,q] at a;cases a
  .exact e
 obtain⟨p,v,w⟩:=vl _ _ _ _ h.ord k z c.get;refine⟨p,v,?_⟩;rcases w 0 x0 (by omega) b.get with l|l
 .exfalso;obtain⟨⟨sv,u⟩,_⟩:=jau b.eff;refine l.s1 d (by rw[u];exact jcs.2 r) ?_;rw[c.slots];unfold zh;refine jG2 _ ?_;rw[a];simp[Op.operands,jt9,jod]
 .exact l
theorem jxr.listed0 (h:jxr P C ops aZ rs ps body m d U tk te ents) {D:Nat->Bool} (g:Clo ops D) {k:Nat} {y:tk.ty.Data×te.ty.Data} (hk:ents[k]? =some (some y)) (i:∀o,ops.toList[k]? =some o->∀e,e∈o.after.toList->Region.binds .any e=true->D e.on=true):D 0=true:=by
 obtain⟨p,c,f⟩:=h.behind hk;have a:k<body.length:=(by have:=(jG6.1 hk).1;have:=h.elen;omega);have b:=h.bd k _ (jG8 a);exact q7 h.pre g (k+1) k (by omega) _ p b (i _ b) c 0 f
theorem jpU {α b:Type} {l:List (α×b)} (h:(l.map (·.1)).Nodup):l.Nodup:=by
 unfold List.Nodup at h⊢;rw[jIt] at h;exact h.imp (fun a e=>a (by rw[e]))
theorem jk0 {n m:Nat} {a:Array Bool} (d:∀k,k<n->a.getD k false=true) (e:∀k,a.getD k false=true->k<n):cnt (n+m) a=m:=by
 unfold cnt;rw[List.range_add,jIw];have b:(List.range n).countP (fun k=> !(a.getD k false))=0:=jIm.2 (fun k hk=>by simp[d k (by simpa using hk)]);have c:((List.range m).map (n+·)).countP (fun k=> !(a.getD k false))=((List.range m).map (n+·)).length:=List.countP_eq_length.2 (fun k hk=>by
  obtain⟨j,_,rfl⟩:=jHy.1 hk;cases f:a.getD (n+j) false with
  |false=>rfl
  |true=>have:=e _ f;omega)
 rw[b,c];simp
theorem jxr.finish (h:jxr P C ops aZ rs ps body m d U tk te ents) {c:Array Bool} {a:Act} {w:World} (x:∀k,k<body.length->c.getD k false=true) (I:jGE P B C.n ops d tk.ty te.ty ents aZ rs (fun k=>c.getD k false) a w):
 ∃l,l.Perm (jfv ents)/\Inv P B C.n ops (jBP d tk.ty te.ty l (bld (fun _=>true) aZ rs)) a w:=by
 obtain⟨B',q,D,I,Q⟩:=I;have e:bld (fun k=>c.getD k false) aZ rs=bld (fun _=>true) aZ rs:=by
  have e:∀{α:Type} (f:ko->List α),eL f (fun k=>c.getD k false) aZ 0=eL f (fun _=>true) aZ 0:=fun f=>jgj f aZ 0 (fun k _ hk=>x k (by have:=h.len;simp at hk;omega))
  unfold bld;rw[e,e,e]
 rw[e] at I;obtain⟨o0,S,_⟩:=h.o0;have T:0<body.length:=(jG6.1 S).1;cases q with
 |none=>exact absurd (x 0 T) (by rw[show c.getD 0 false=false from Q];simp)
 |some b=>
  obtain⟨l,es,clock,i⟩:=Q;obtain⟨Y,hn,ρ,J,A,V,t⟩:=I;have L:Sat P B ρ (bld (fun _=>true) aZ rs).st.obj w:=jb9 D J;have K:=jhB D t;have N:=yB h.new;have M:∀o C',ρ.blk o≠some (some (b,C')):=fun o C' X=>by
   rcases J.own o b C' X with x|x
   .have:=i.lt;omega
   .exact i.nb x
  have W:ρ.H b=none:=(J.oldH b i.lt i.nb).trans i.nH;obtain⟨F,s1,s2,s3,s4,s5⟩:=jDP L N.obj N.noRef M (.inl i.ge) (.map false tk.ty te.ty l) (fun F z=>by
   simp only[zq,fzM];exact⟨b,0,es,clock,rfl,(J.old b i.lt i.nb).trans i.at_,by rw[z];exact i.rd.mono t.2,by rw[z];exact W⟩)
  refine⟨l,(List.perm_ext_iff_of_nodup (jpU i.nd) (jpU h.nd)).2 (fun y=> ?_),Y,hn,F,?_,?_,?_,K.mono s2 (fun r u=>by simp at u;subst u;exact N.lt)⟩
  .rw[i.mem,jfS];constructor
   .rintro⟨k,_,hk⟩;exact⟨k,hk⟩
   .rintro⟨k,hk⟩;exact⟨k,x k (by have:=(jG6.1 hk).1;have:=h.elen;omega),hk⟩
  .have:(jBP d tk.ty te.ty l (bld (fun _=>true) aZ rs)).st.obj=jgC (bld (fun _=>true) aZ rs).st.obj d (some (.map false tk.ty te.ty l)):=ww (bld (fun _=>true) aZ rs).st d _;rw[this];exact s1
  .intro s sv R;by_cases e:s=d
   .subst e;have j:jD ((s,SV.mp s)::(bld (fun _=>true) aZ rs).st.sl) s=some sv:=R;rw[jK] at j;simp at j;subst j;have G:=A s (.lit (.map (some b))) (jK _ _ _);simp only[SV.den] at G⊢;intro p O;rw[s4] at O;simp at O;subst O;exact⟨_,_,rfl,G⟩
   .have j:jD ((d,SV.mp d)::(bld (fun _=>true) aZ rs).st.sl) s=some sv:=R;rw[jB (fun h=>e h.symm)] at j;refine SV.den_mono s2 _ _ (fun r u=>by simp at u;subst u;exact N.sl s sv (zD _ _ _ j)) (A s sv ?_);show jD ((d,_)::(bld (fun _=>true) aZ rs).st.sl) s=some sv;rw[jB (fun h=>e h.symm)];exact j
  .intro s g v E;obtain⟨j,G⟩:=V s g v E;exact⟨fun Z=>SV.den_mono s2 _ _ (fun r u=>by simp at u;subst u;exact N.gl s g v E) (j Z),G⟩
theorem jhn {p q:Nat->Bool} {i:Nat} (b:p i=true) (c:q i=false) (h:∀y,y≠i->p y=q y):∀n,(List.range n).countP p=(List.range n).countP q+(if i<n then 1 else 0)
 |0=>rfl
 |n+1=>by
  have d:=jhn b c h n
  rw[jHq,jIw,jIw,List.countP_singleton,List.countP_singleton,d]
  by_cases e:n=i
  .subst e
   rw[b,c]
   simp
  .rw[h n e]
   by_cases a:i<n
   .have:i<n+1:=by omega
    simp only[a,this,if_true];omega
   .have:¬i<n+1:=by omega
    simp only[a,this,if_false];omega
theorem jhN:∀(l:List Oper) {b:List Oper} {m:Nat},jkk l=some (b,m)->∃f,l=b++f/\f.length=m
 |[],_,_,h=>by simp[jkk] at h
 |o::r,b,m,h=>by
  simp only[jkk] at h
  split at h
  .rename_i e g d
   simp at h
   obtain⟨rfl,rfl⟩:=h
   obtain⟨f,a,c⟩:=jhN r d
   exact⟨f,by rw[a];rfl,c⟩
  .split at h
   .simp at h
    obtain⟨rfl,rfl⟩:=h
    exact⟨r,rfl,rfl⟩
   .cases h
theorem joc {l body:List Oper} {d U m:Nat} (h:jiO l=some (d,U,body,m)):∃o b f,l=body++f/\body=o::b/\o.op= .makeMap U none/\o.dst=some d/\o.guard=none/\f.length=m:=by
 cases l with
 |nil=>simp[jiO] at h
 |cons o r=>
  simp only[jiO] at h
  split at h
  .rename_i a c e g;simp at h;obtain⟨rfl,rfl,rfl,rfl⟩:=h;obtain⟨f,i,j⟩:=jhN r g;exact⟨o,_,f,by rw[i];rfl,rfl,a,c,e,j⟩
  .cases h
theorem jGj.step {B':zV} {kt vt:Ty} {c:List (Option (kt.Data×vt.Data))} {D D':Nat->Bool} {b:Nat} {l:List (kt.Data×vt.Data)} {es:Array MapEntry} {clock:Nat} (h:jGj B B' kt vt c D b l es clock) {i:Nat} (g:D' i=true) (f:∀k,k≠i->D' k=D k) (j:c[i]? =some none):jGj B B' kt vt c D' b l es clock:=by
 refine⟨?_,h.ge,h.lt,h.nb,h.nH,h.at_,h.rd,h.nd,fun y=> ?_⟩
 .by_cases e:0=i
  .rw[e];exact g
  .rw[f 0 e];exact h.d0
 .rw[h.mem];constructor
  .rintro⟨k,d,a⟩;have:k≠i:=fun e=>by subst e;rw[j] at a;simp at a
   exact⟨k,by rw[f k this];exact d,a⟩
  .rintro⟨k,d,a⟩;have:k≠i:=fun e=>by subst e;rw[j] at a;simp at a
   exact⟨k,by rw[<-f k this];exact d,a⟩
theorem jxr.go (h:jxr P C ops aZ rs ps body m d U tk te ents)
 (hQ:∀l a w f,l.Perm (jfv ents)->f.size=ops.size->(∀k,k∈jDB body.length↔f.getD k false=true)->Inv P B C.n ops (jBP d tk.ty te.ty l (bld (fun _=>true) aZ rs)) a w->wpAny P .any ops Q m f a w):
 ∀(A:Nat) (f:Array Bool) (a:Act) (w:World),f.size=ops.size->cnt ops.size f=A->(∀k,f.getD k false=true->k<body.length)->Clo ops (fun k=>f.getD k false)->
  jGE P B C.n ops d tk.ty te.ty ents aZ rs (fun k=>f.getD k false) a w->wpAny P .any ops Q A f a w:=by
 have fin:∀(f:Array Bool) (a:Act) (w:World),f.size=ops.size->(∀k,k<body.length->f.getD k false=true)->(∀k,f.getD k false=true->k<body.length)->
  jGE P B C.n ops d tk.ty te.ty ents aZ rs (fun k=>f.getD k false) a w->wpAny P .any ops Q m f a w:=by
  intro f a w hs O h2 hI;obtain⟨l,p1,p2⟩:=h.finish O hI;exact hQ l a w f p1 hs (fun k=>by rw[jiH];exact⟨O k,h2 k⟩) p2
 intro A
 induction A with
 |zero=>
  intro f a w hs hc I E hI;have hl:∀k,k<ops.size->f.getD k false=true:=by
   intro k hk;cases hu:f.getD k false with
   |true=>rfl
   |false=>have:=jIm.1 hc k (by simpa using hk);simp[hu] at this
  have O:∀k,k<body.length->f.getD k false=true:=fun k hk=>hl k (by have:=h.sz;omega)
  have e:=jk0 (m:=m) O I;rw[<-h.sz,hc] at e;rw[e];exact fin f a w hs O I hI
 |succ A ih=>
  intro f a w hs hc I E hI;by_cases M:∀k,k<body.length->f.getD k false=true
  .have e:=jk0 (m:=m) M I;rw[<-h.sz,hc] at e;rw[e];exact fin f a w hs M I hI
  refine⟨fun hr=>absurd (fun k hk=>jaE h.pre hs hr (k+1) k (by omega) (by have:=h.sz;omega)) M,fun i hi=> ?_⟩;obtain⟨o,O,h2,h3⟩:=(vo hs).1 hi;have hlt:i<ops.size:=(by have:=(jG6.1 O).1;simpa using this);obtain⟨_,hps2⟩:=qy _ _ _ h.pre;have hib:i<body.length:=by
   refine Classical.byContradiction fun hn=>M ?_
   obtain⟨p,N,_⟩:=hps2 i o O;simp only[jHJ,jH7] at N;intro k hk;exact q7 h.pre E (i+1) i (by omega) o p O h3 N k (h.tl i p (by omega) N k hk)
  have ho:body[i]? =some o:=by
   have e:=h.bd i _ (jG8 hib);rw[O] at e;simp at e;rw[e];exact jG8 hib
  obtain⟨x,W⟩:=h.all i o ho;have hspec:=vl _ _ _ _ h.ord;have hNT:∀(k:Nat) (y:ko),aZ[k]? =some y->(fun k=>f.getD k false) k≠decide (k<i)->NT rs.st (yG aZ) x y:=by
   intro k y hk hne;simp only at hne;obtain⟨o',F,_⟩:=h.fact' k y hk;by_cases hki:k<i
   .have hu:f.getD k false=false:=by cases hh:f.getD k false<;>simp_all
    obtain⟨p,N,e2⟩:=hspec i x W.get;rcases e2 k y (by omega) hk with h'|h'
    .exact h'.symm
    .have:=q7 h.pre E (i+1) i (by omega) o p O h3 N k h';rw[hu] at this;cases this
   .have hu:f.getD k false=true:=by cases hh:f.getD k false<;>simp_all
    have hne':k≠i:=fun e=>by subst e;rw[h2] at hu;cases hu
    obtain⟨p,N,e2⟩:=hspec k y hk;rcases e2 i x (by omega) W.get with h'|h'
    .exact h'
    .have:=q7 h.pre E (k+1) k (by omega) o' p F (fun e he I=>E k o' F hu e he I) N i h';rw[h2] at this;cases this
  have L:∀k,(f.setIfInBounds i true).getD k false=if k=i then true else f.getD k false:=jc8 (by omega);have G:(f.setIfInBounds i true).getD i false=true:=(by simp only[L,if_true]);have t:∀k,k≠i->(f.setIfInBounds i true).getD k false=f.getD k false:=fun k hk=>by simp only[L,if_neg hk]
  have hcnt:cnt ops.size (f.setIfInBounds i true)=A:=by
   have:=jhn (p:=fun k=> !(f.getD k false)) (q:=fun k=> !((f.setIfInBounds i true).getD k false)) (i:=i) (by simp[h2]) (by simp[L]) (fun y hy=>by simp only[L,if_neg hy]) ops.size;rw[if_pos hlt] at this;unfold cnt at hc⊢;omega
  have hb':∀k,(f.setIfInBounds i true).getD k false=true->k<body.length:=by
   intro k hk;by_cases e:k=i
   .rw[e];exact hib
   .rw[L,if_neg e] at hk;exact I k hk
  have X:Clo ops (fun k=>(f.setIfInBounds i true).getD k false):=by
   intro k o' F hk e he I;simp only at hk⊢;rw[L] at hk⊢
   split
   .rfl
   .by_cases e':k=i
    .subst e';rw[O] at F;simp at F;subst F;exact h3 e he I
    .rw[if_neg e'] at hk;exact E k o' F hk e he I
  obtain⟨B',q,hch,hI,hq⟩:=hI;obtain⟨b1,b2,b3⟩:=jEO (D:=fun k=>f.getD k false) (D':=fun k=>(f.setIfInBounds i true).getD k false) h.fact' W h2 G t hNT;obtain⟨heff,hcl⟩:=jEy (D:=fun k=>f.getD k false) h.fact' W rfl hNT;have S:=jzW (jzV (D:=fun k=>f.getD k false) h.fact' W hNT);obtain⟨ti,hmp⟩:=h.mp;unfold wpOp;have hoi:ops[i]? =some o:=(by simpa using O);rw[hoi];simp only;have fin2:(if Region.wanted o (yielded ops a.tmps) then o.wp P a w (wpAny P .any ops Q A (f.setIfInBounds i true)) Q else wpAny P .any ops Q A (f.setIfInBounds i true) (a.put o.dst undef) w):=by
   cases hk:jeB o.op with
   |false=>
    obtain⟨y,N,e2⟩:=h.ent i o ho;have:=jtF e2 hk;subst this;by_cases hi0:i=0
    .--the map is made
     subst hi0;obtain⟨o0,g1,g2,g3,g4⟩:=h.o0;rw[ho] at g1;simp at g1;subst g1;cases q with
     |some b=>obtain⟨l,es,clock,J⟩:=hq;have:f.getD 0 false=true:=J.d0;rw[h2] at this;cases this
     |none=>
      have hxe:x.e=⟨none,[],[],[(d,.any)],[],[],[]⟩:=by
       have this:=W.eff;unfold jav at this;rw[g4] at this;simp only at this;have e:∀R,gq C.inLit ops.toList o R []=some (.pure .any):=by
        intro R;unfold gq;rw[g2];simp only[jC];have N:C.inLit.lit=true:=rfl;have e2:C.inLit.mapT U=C.mapT U:=rfl;rw[N,e2,hmp]
       rw[e] at this;simp[jpH,g3,Out.pure,qG] at this;exact this.symm
      rw[hxe] at b1 b2 b3;obtain⟨hd,hn,ρ,V,hSl,hG,hPin⟩:=hI;have hw:Region.wanted o (yielded ops a.tmps)=true:=(by simp[Region.wanted,g4]);rw[if_pos hw];have hrun:(execOp a.eval o).run P w= .ok (.value (.map (some w.heap.size))) (w.alloc (.map #[] 0)):=(by simp[execOp,g2,Instr.makeMap]);unfold Oper.wp;rw[hrun];simp only[Oper.upon];have hsz:=(jb9 hch V).size;have Y:jbT ρ.H (w.alloc (.map #[] 0)):=by
       refine⟨fun b c hbc=> ?_,V.good.2⟩;rw[heap_alloc_old w _ b (V.good.lt hbc)];exact V.good.1 b c hbc
      obtain⟨n1,n2,n3⟩:=jmV (σ:=(lvO d none (bld (fun k=>f.getD k false) aZ rs)).st) (w':=w.alloc (.map #[] 0)) hch V hPin rfl rfl rfl (jG5 _) (by simp) Y (fun b I=>heap_alloc_old w _ b (by omega)) (fun o b C' I=>heap_alloc_old w _ b (vV V I).1);refine ih _ _ _ (by simpa using hs) hcnt hb' X ⟨_,some w.heap.size,n1,?_,[],#[],0,?_⟩
      .refine jcy (jeC (C:=C) (ops:=ops) (o:=o) (rs:=bld (fun k=>f.getD k false) aZ rs) (e:=⟨none,[],[],[(d,.lit (.map (some w.heap.size)))],[],[],[]⟩) (ρ:=ρ) (ρ'':=ρ) (sv:= .lit (.map (some w.heap.size))) (gv:= .any) (v:= .map (some w.heap.size))
        hd hn hSl hG n3 n2 (Env.le.refl _ _) ⟨S.frame,S.gl,S.guard,fun d hd=>by simp at hd,fun hor=>by simp[jcx,g2] at hor⟩ S.frame (by simp[jpH,g3]) (fun _ _=>by simp[SV.den]) (fun x W=>by simp at W) (fun d g _ hg=>by rw[g4] at hg;cases hg)) (fun s=> ?_) (fun r=> ?_) (fun y hy=> ?_)
       .show jD ((d,SV.lit (.map (some w.heap.size)))::(bld (fun k=>(f.setIfInBounds 0 true).getD k false) aZ rs).st.sl) s=jD ((d,SV.lit (.map (some w.heap.size)))::(bld (fun k=>f.getD k false) aZ rs).st.sl) s;by_cases e:d=s
        .subst e;rw[jK,jK]
        .rw[jB e,jB e,b1 s];show jD ((d,SV.any)::(bld (fun k=>f.getD k false) aZ rs).st.sl) s=_;rw[jB e]
       .exact b2 r
       .exact b3 y hy
      .refine⟨G,hsz,by show w.heap.size<(w.alloc (.map #[] 0)).heap.size;simp,fun J=> ?_,?_,qt w _,⟨rfl,jG5 _,fun i e he=>by simp at he,fun i j e e' he=>by simp at he,fun i x W=>by simp at W⟩,by simp,fun y=>⟨fun hy=>by simp at hy,fun hy=> ?_⟩⟩
       .obtain⟨o',C',_,h6⟩:=(zj _).1 J;have:=(vV V h6).1;omega
       .show ρ.H w.heap.size=none;cases hc:ρ.H w.heap.size with
        |none=>rfl
        |some c=>have:=V.good.lt hc;omega
       .obtain⟨k,k1,Z⟩:=hy;exfalso;by_cases e:k=0
        .subst e;rw[N] at Z;simp at Z
        .have k1:f.getD k false=true:=(by rw[<-t k e];exact k1);have:f.getD 0 false=true:=h.listed0 E Z (fun o' F e he I=>E k o' F k1 e he I);rw[h2] at this;cases this
    .obtain⟨nm,ns,nk⟩:=h.aside i o x (by omega) ho W.get hk;rw[jz9 hk nm] at heff;refine qQ (K:=wpAny P .any ops Q A (f.setIfInBounds i true)) (Q:=Q) h.ok heff (jCf (d:=d) (q:=q) S) (jFM (jjz hcl) (jlK (by rw[<-W.slots];exact ns))) hI (h.vc x (jH0 W.get)) (fun a' w' hI' _=>
      ih _ a' w' (by simpa using hs) hcnt hb' X ⟨B',q,hch,jcy hI' (fun s=> ?_) (fun r=> ?_) (fun y hy=> ?_),?_⟩)
     .cases q with
      |none=>exact b1 s
      |some b=>
       show jD ((d,SV.lit (.map (some b)))::(bld (fun k=>(f.setIfInBounds i true).getD k false) aZ rs).st.sl) s=jD (x.e.sl++(d,SV.lit (.map (some b)))::(bld (fun k=>f.getD k false) aZ rs).st.sl) s;by_cases e:d=s
       .subst e;rw[jK,jj,jw _ _ nk,jK]
       .have h6:=b1 s;have h7:(zr x.e (bld (fun k=>f.getD k false) aZ rs)).st.sl=x.e.sl++(bld (fun k=>f.getD k false) aZ rs).st.sl:=rfl;rw[h7,jj] at h6;rw[jB e,jj,jB e];exact h6
     .cases q<;>exact b2 r
     .cases q<;>exact b3 y hy
     .cases q with
      |none=>show(f.setIfInBounds i true).getD 0 false=false;rw[t 0 (fun e=>hi0 e.symm)];exact hq
      |some b=>
       obtain⟨l,es,clock,J⟩:=hq;exact⟨l,es,clock,J.step G t N⟩
   |true=>
    obtain⟨y,N,e2⟩:=h.ent i o ho;obtain⟨z,rfl⟩:=jz8 e2 hk;have hsh:zS (zh ops.toList o) (bld (fun k=>f.getD k false) aZ rs)=zS (zh ops.toList o) (bld (fun k=>decide (k<i)) aZ rs):=jye (D:=fun k=>f.getD k false) h.fact' W hNT (fun k y k1 Z r k3 k4=>by
     have:=((hNT k y k1 Z).o2 r k3 k4).mv;rw[W.mv] at this;unfold jFD at this
     split at this
     .rename_i T _;rw[T] at hk;simp[jeB] at hk
     .rename_i T _;rw[T] at hk;simp[jeB] at hk
     .rename_i T _;rw[T] at hk;simp[jeB] at hk
     .cases this)
    rw[<-hsh] at e2;obtain⟨ix,xx,T,hdst,hgd,u1,u2,t1,t2⟩:=jmS e2;cases q with
    |none=>
     have:f.getD 0 false=true:=h.listed0 E N (fun o' F e he I=>by rw[O] at F;simp at F;subst F;exact h3 e he I);rw[show f.getD 0 false=false from hq] at this;cases this
    |some b=>
     obtain⟨l,es,clock,J⟩:=hq;have hxe:x.e=⟨none,[],[],[],[],[],[]⟩:=by
      have this:=W.eff;unfold jav at this;rw[hgd] at this;simp only at this;have e:∀R,gq C.inLit ops.toList o R []=some (.pure .any):=by
       intro R;unfold gq;rw[T];rfl
      rw[e] at this;simp[jpH,hdst,Out.pure,qG] at this;exact this.symm
     rw[hxe] at b1 b2 b3;obtain⟨hd,hn,ρ,V,hSl,hG,hPin⟩:=hI;have hSR:=juY (σ:=(bld (fun k=>f.getD k false) aZ rs).st) V (zS (zh ops.toList o) (bld (fun k=>f.getD k false) aZ rs)).1;have eo:(zS (zh ops.toList o) (bld (fun k=>f.getD k false) aZ rs)).2.st.obj=jyK (zS (zh ops.toList o) (bld (fun k=>f.getD k false) aZ rs)).1 (bld (fun k=>f.getD k false) aZ rs).st.obj:=funext fun o=>by rw[gR];rfl
     rw[<-eo] at hSR;have hkr:tk.ty.rv ρ.H (a.eval ix) z.1:=jT hSR (fz:=[]) (fun o=>⟨.inl rfl,fun ho=>by simp at ho⟩) t1 (fun o ho=>ho) (SV.den_mono (jiK _ _) _ _ (fun r hr=>by simp at hr) (jDk hSl u1));have hvr:te.ty.rv ρ.H (a.eval xx) z.2:=jT hSR (fz:=[]) (fun o=>⟨.inl rfl,fun ho=>by simp at ho⟩) t2 (fun o ho=>ho) (SV.den_mono (jiK _ _) _ _ (fun r hr=>by simp at hr) (jDk hSl u2));have hmv:a.eval (.tmp d)= .map (some b):=hSl d (.lit (.map (some b))) (jK _ _ _);have hwb:w.heap[b]? =some (.map es clock):=(V.old b J.lt J.nb).trans J.at_;have hblt:b<w.heap.size:=(jHc.1 hwb).1;have hH:ρ.H b=none:=(V.oldH b J.lt J.nb).trans J.nH;have hrd:=J.rd.mono hPin.2;have hnew:z.1∉l.map (·.1):=by
      intro hz;obtain⟨y,y1,y2⟩:=jHy.1 hz;obtain⟨k,k1,Z⟩:=(J.mem y).1 y1;have hne:k≠i:=fun e=>by subst e;rw[show f.getD k false=true from k1] at h2;cases h2
      exact jny ents h.nd k i y z Z N hne y2
     have hrun:=jvZ (x:=xx) h.ok hmp hwb hrd T hmv hkr hnew;have hw:Region.wanted o (yielded ops a.tmps)=true:=(by simp[Region.wanted,hgd]);rw[if_pos hw];unfold Oper.wp;rw[hrun];simp only[Oper.upon];rw[hdst];have hoth:∀(y:Obj) (k:Nat),k≠b->(w.heap.setIfInBounds b y)[k]? =w.heap[k]? :=fun y k hk=>by rw[jHl,if_neg (fun h=>hk h.symm)]
     have hnb:∀o k C',ρ.blk o=some (some (k,C'))->k≠b:=fun o k C' I e=>by
      subst e;rcases V.own o k C' I with O|O
      .have:=J.lt;omega
      .exact J.nb O
     have Y:∀y,jbT ρ.H {w with heap:=w.heap.setIfInBounds b y}:=fun y=>by
      refine⟨fun k c hkc=> ?_,V.good.2⟩;have:k≠b:=fun e=>by subst e;rw[hH] at hkc;cases hkc
      show c.at (w.heap.setIfInBounds b y)[k]?;rw[hoth y k this];exact V.good.1 k c hkc
     obtain⟨n1,n2,n3⟩:=jmV (σ:=(bld (fun k=>f.getD k false) aZ rs).st) (w':={w with heap:=w.heap.setIfInBounds b (.map (es.push {key:=a.eval ix,val:=a.eval xx,born:=clock}) (clock+1))}) hch V hPin rfl rfl rfl (jG5 _) (by simp) (Y _)
      (fun k hk=>hoth _ k (by have:=J.ge;omega)) (fun o k C' I=>hoth _ k (hnb o k C' I))
     refine ih _ _ _ (by simpa using hs) hcnt hb' X ⟨_,some b,n1,jcy (r:=lvO d (some b) (bld (fun k=>f.getD k false) aZ rs)) ⟨hd,hn,ρ,n2,hSl,hG,n3⟩ (fun s=> ?_) (fun r=>b2 r) (fun y hy=>b3 y hy),l++[z],es.push {key:=a.eval ix,val:=a.eval xx,born:=clock},clock+1,?_⟩
     .show jD ((d,SV.lit (.map (some b)))::(bld (fun k=>(f.setIfInBounds i true).getD k false) aZ rs).st.sl) s=jD ((d,SV.lit (.map (some b)))::(bld (fun k=>f.getD k false) aZ rs).st.sl) s;by_cases e:d=s
      .subst e;rw[jK,jK]
      .rw[jB e,jB e];exact b1 s
     .have hi0:(0:Nat)≠i:=fun e=>by have:f.getD 0 false=true:=J.d0;rw[e,h2] at this;cases this
      refine⟨by show(f.setIfInBounds i true).getD 0 false=true;rw[t 0 hi0];exact J.d0,J.ge,by show b<(w.heap.setIfInBounds b _).size;simpa using hblt,fun hmm=> ?_,hH,?_,jyB hrd hkr hvr,?_,fun y=> ?_⟩
      .obtain⟨o',C',_,h6⟩:=(zj _).1 hmm;exact hnb o' b C' h6 rfl
      .show(w.heap.setIfInBounds b _)[b]? =_;simp[hblt]
      .rw[jHR,jHZ];refine⟨J.nd,by simp,fun u hu v hv=> ?_⟩;simp at hv;subst hv;exact fun e=>hnew (e▸hu)
      .rw[jHa,J.mem,jH2];constructor
       .rintro(⟨k,k1,Z⟩|rfl)
        .by_cases e:k=i
         .exact⟨i,G,e▸Z⟩
         .exact⟨k,by show(f.setIfInBounds i true).getD k false=true;rw[t k e];exact k1,Z⟩
        .exact⟨i,G,N⟩
       .rintro⟨k,k1,Z⟩;by_cases e:k=i
        .subst e;rw[N] at Z;simp at Z;exact .inr Z.symm
        .exact .inl ⟨k,by show f.getD k false=true;rw[<-t k e];exact k1,Z⟩
  split
  .rename_i hw;rw[if_pos hw] at fin2;exact .inl fin2
  .rename_i hw;rw[if_neg hw] at fin2;exact fin2
end
end Go.X
namespace Go.X
open Go.RowKit (Below)
section
variable {P:Program} {B:zV} {C:Ctx} {ops:Array Oper} {Q:Exit->Act->World->Prop}
theorem jv5 {o:Oper} {rs:RS} {a:Act} {w:World} {v:SV} {u:Value} {k:RS->Prop} (h:jAX C ops.toList o v rs k) (E:Inv P B C.n ops rs a w)
 (I:∀ρ,jgz P ρ rs.st.sl a->SV.den P ρ v u):∃f,k f/\(∃p,f.st.sl=p++rs.st.sl)/\f.st.ob=rs.st.ob/\Inv P B C.n ops f (a.put o.dst u) w:=by
 unfold jAX at h
 split at h
 case h_2=>exact h.elim
 rename_i r K A;obtain⟨G,H,ρ,F,l,D,i⟩:=E;have q:∀d,o.dst=some d->d<C.n:=fun d c=>by
  unfold jeE at r;rw[c] at r;exact jHg r
 have m:joR C ops {o with guard:=none,op:= .move (.tmp 0)} rs ⟨none,[],[],jpH o v,[],[],[]⟩:=
  ⟨q,fun d c s j b x z=>by rw[A] at z;simp at z,fun d c j b t=>by simp at t,fun d c=>by simp at c,fun y=>by simp[jcx] at y⟩
 refine⟨_,h,⟨_,rfl⟩,rfl,?_⟩;exact jeC (C:=C) (ops:=ops) (o:={o with guard:=none,op:= .move (.tmp 0)}) (rs:=rs) (e:=⟨none,[],[],jpH o v,[],[],[]⟩) (ρ:=ρ) (ρ'':=ρ) (sv:=v) (gv:= .any) (v:=u) G H l D i F (Env.le.refl _ _) m q rfl (fun _ _=>I ρ l) (fun x J=>by simp at J) (fun d g _ t=>by simp at t)
theorem jr1 (j:C.ok P) {o:Oper} {rs:RS} {a:Act} {w:World} {k:RS->Prop} (h:jr0 C ops.toList {o with guard:=none} rs k) (l:Inv P B C.n ops rs a w) {K:Act->World->Prop}
 (m:∀b d w',k b->(∃p,b.st.sl=p++rs.st.sl)->(∃p,b.st.ob=p++rs.st.ob)->Inv P B C.n ops b d w'->K d w'):o.wp P a w K Q:=by
 unfold jr0 at h
 split at h
 .exact h.elim
 rename_i e q
 split at h
 case h_2=>exact h.elim
 rename_i r;obtain⟨g,i⟩:=jd5 h;have:=qQ (K:=K) (Q:=Q) j q (qY r) (Fit.refl P B rs e) l g (fun d w' f c=>m _ d w' (i c) ⟨_,rfl⟩ ⟨_,rfl⟩ f);rw[if_pos (by simp[Region.wanted])] at this;cases o;exact this
theorem jmj (X:C.ok P) {σ0:St} {k:RS->Prop} (Y:∀rs a w,(∃p,rs.st.sl=p++σ0.sl)->(∃p,rs.st.ob=p++σ0.ob)->k rs->Inv P B C.n ops rs a w->Q .normal a w):
 ∀(l:List Oper) (f:List ((Nat×Bool)×Bool)) (rs:RS) (a:Act) (w:World),(∃p,rs.st.sl=p++σ0.sl)->(∃p,rs.st.ob=p++σ0.ob)->jrt C ops.toList l f rs k->Inv P B C.n ops rs a w->wpList P ops Q l a w
 |[],f,rs,a,w,M,N,h,G=>Y rs a w M N h G
 |o::r,f,rs,a,w,M,N,h,G=>by
  have D:∀{α:Type} {x y z:List α},(∃p,y=p++x)->(∃p,z=p++y)->∃p,z=p++x:=by
   rintro α x y z ⟨p,rfl⟩ ⟨q,rfl⟩;exact⟨q++p,by rw[jHn]⟩
  have ih:=fun f e O w'=>jmj X Y r f e O w'
  have step:∀d,jr0 C ops.toList {o with guard:=none} rs (fun e=>jrt C ops.toList r d e k)->o.wp P a w (wpList P ops Q r) Q:=fun d L=>
   jr1 X L G (fun e O w' hk s1 s2 S=>ih d e O w' (D M s1) (D N s2) hk S)
  have put:∀d v u,jAX C ops.toList o v rs (fun e=>jrt C ops.toList r d e k)->(∀ρ,jgz P ρ rs.st.sl a->SV.den P ρ v u)->wpList P ops Q r (a.put o.dst u) w:=fun d v u F hu=>by
   obtain⟨e,k1,k2,k3,k4⟩:=jv5 F G hu;exact ih d e _ w (D M k2) (by rw[k3];exact N) k1 k4
  unfold wpList;simp only[jrt] at h
  split at h
  .rename_i J;have V:Region.wanted o (yielded ops a.tmps)=true:=(by simp[Region.wanted,J]);rw[if_pos V];refine .inl ?_
   split at h
   .rename_i c x y F
    split at h
    case h_2=>exact h.elim
    rename_i I W;have E:o.op= .pick c x y:=by
     unfold jDc at F
     split at F
     .rename_i E;simp at F;obtain⟨rfl,rfl,rfl⟩:=F;exact E
     .cases F
    obtain⟨_,_,ρ,_,m,_,_⟩:=id G;have Z:=jO (P:=P) (a:=a) m c;rw[W] at Z;have T:a.eval c= .bool I:=by
     have R:Ty.bool.rv ρ.H (a.eval c) I:=(by simpa only[SV.den] using Z);have h2:=zp (t:= .bool) rfl R;have h3:some (a.eval c)=some (.bool I):=h2;simpa using h3
    have K:(execOp a.eval o).run P w= .ok (.value (if I=true then a.eval x else a.eval y)) w:=by
     simp only[execOp,E,T];cases I<;>simp[asBool]
    unfold Oper.wp;rw[K];simp only[Oper.upon]
    split at h
    .obtain⟨rfl,h⟩:=h;exact put f _ _ h (fun ρ m=>jO (P:=P) (a:=a) m x)
    .obtain⟨rfl,h⟩:=h;exact put f _ _ h (fun ρ m=>jO (P:=P) (a:=a) m y)
    .cases I with
     |true=>exact put f _ _ (h.1 rfl) (fun ρ m=>jO (P:=P) (a:=a) m x)
     |false=>exact put f _ _ (h.2 rfl) (fun ρ m=>jO (P:=P) (a:=a) m y)
   .have:{o with guard:=none}=o:=(by cases o;simp only at J;subst J;rfl);exact step f (by rw[this];exact h)
  .rename_i g J;have A:∀γ,jdJ ops.toList rs ops.toList.length g=some γ->((Region.wanted o (yielded ops a.tmps)=true)↔γ=true):=by
    intro γ i;obtain⟨_,_,ρ,_,m,hG,_⟩:=id G;have R:=y4 m hG _ _ _ i;rw[<-R];obtain⟨j,b⟩:=g;simp[Region.wanted,J,jgE]
   have yes:∀{γ:Bool},jdJ ops.toList rs ops.toList.length g=some γ->γ=true->∀d,jr0 C ops.toList {o with guard:=none} rs (fun e=>jrt C ops.toList r d e k)->(if Region.wanted o (yielded ops a.tmps) then o.wp P a w (wpList P ops Q r) Q\/(o.asks P a w/\LetsOut Q) else wpList P ops Q r (a.put o.dst undef) w):=fun i ht d L=>by
    rw[if_pos ((A _ i).2 ht)];exact .inl (step d L)
   have no:∀{γ:Bool},jdJ ops.toList rs ops.toList.length g=some γ->γ=false->∀d,jAX C ops.toList o .any rs (fun e=>jrt C ops.toList r d e k)->(if Region.wanted o (yielded ops a.tmps) then o.wp P a w (wpList P ops Q r) Q\/(o.asks P a w/\LetsOut Q) else wpList P ops Q r (a.put o.dst undef) w):=fun i hf d L=>by
    rw[if_neg (fun V=>by rw[(A _ i).1 V] at hf;cases hf)];exact put d _ _ L (fun ρ _=>wn _)
   split at h
   .rename_i γ i s;exact yes i h.1 f h.2
   .rename_i γ i s;exact no i h.1 f h.2
   .rename_i γ i s;cases γ with
    |true=>exact yes i rfl _ (h.1 rfl)
    |false=>exact no i rfl _ (h.2 rfl)
   .exact h.elim
end
end Go.X
namespace Go.X
open Go.RowKit (Below)
section
variable {P:Program} {B:zV} {C:Ctx} {ops ops':Array Oper} {Q:Exit->Act->World->Prop} {aZ:List ko} {rs:RS} {ps:List (List Nat)}
theorem jxf (hC:C.ok P) (hsz:ops'.toList.length=ops.toList.length) (q:∀k o',ops'.toList[k]? =some o'->∃y,qA C ops'.toList aZ rs k o' y) (hlen:aZ.length=ops'.toList.length) (A:kO ops.toList []=some ps) {nb:List Nat} (hnb:nb=yG aZ) (hord:gu rs.st nb aZ aZ ps 0=true)
 (hvc:∀y,y∈aZ->jCS y.e.guard y.e.vc) (hQ:∀a w,Inv P B C.n ops' (bld (fun _=>true) aZ rs) a w->Q .normal a w)
 (hsim:∀(i:Nat) (o o':Oper) (D:Nat->Bool) (a:Act) (w:World) (K:Act->World->Prop),ops.toList[i]? =some o->ops'.toList[i]? =some o'->(∀p,ps[i]? =some p->∀j,j∈p->D j=true)->Inv P B C.n ops' (bld D aZ rs) a w->
  (if Region.wanted o' (yielded ops' a.tmps) then o'.wp P a w K Q else K (a.put o'.dst undef) w)->wpOp P ops Q i K a w):
 ∀(c:Nat) (b:Array Bool) (a:Act) (w:World),b.size=ops.size->cnt ops.size b<=c->Clo ops (fun k=>b.getD k false)->Inv P B C.n ops' (bld (fun k=>b.getD k false) aZ rs) a w->
  wpAny P .any ops Q c b a w:=by
 have hf:∀k y,aZ[k]? =some y->∃o',ops'.toList[k]? =some o'/\qA C ops'.toList aZ rs k o' y:=by
  intro k y hk;have M:=(jG6.1 hk).1;have E:k<ops'.toList.length:=(by omega);obtain⟨y',u⟩:=q k ops'.toList[k] (jG8 E);have:=u.get;rw[hk] at this;simp at this;subst this;exact⟨_,jG8 E,u⟩
 have T:∀(b:Array Bool) (a:Act) (w:World),(∀k,k<ops.size->b.getD k false=true)->Inv P B C.n ops' (bld (fun k=>b.getD k false) aZ rs) a w->Q .normal a w:=by
  intro b a w hl J;refine hQ a w ?_;have e:∀{α:Type} (f:ko->List α),eL f (fun k=>b.getD k false) aZ 0=eL f (fun _=>true) aZ 0:=fun f=>jgj f aZ 0 (fun k _ hk=>hl k (by simp at hlen hsz;omega))
  have:bld (fun k=>b.getD k false) aZ rs=bld (fun _=>true) aZ rs:=(by unfold bld;rw[e,e,e]);rw[<-this];exact J
 intro c
 induction c with
 |zero=>
  intro b a w hs hc _ J;have hl:∀k,k<ops.size->b.getD k false=true:=by
   intro k hk;cases O:b.getD k false with
   |true=>rfl
   |false=>
    have h0:cnt ops.size b=0:=(by omega);have:=jIm.1 h0 k (by simpa using hk);simp[O] at this
  refine⟨?_,T b a w hl J⟩;rw[List.eq_nil_iff_forall_not_mem];intro i hi;obtain⟨o,G,H,_⟩:=(vo hs).1 hi;have:=(jG6.1 G).1;rw[hl i (by simpa using this)] at H;cases H
 |succ c ih=>
  intro b a w hs hc d J;refine⟨fun hr=>T b a w (fun k hk=>jaE A hs hr (k+1) k (by omega) hk) J,fun i hi=> ?_⟩;obtain⟨o,G,H,h3⟩:=(vo hs).1 hi;have M:i<ops.size:=(by have:=(jG6.1 G).1;simpa using this);have hlt':i<ops'.toList.length:=(by rw[hsz];simpa using M);have V:ops'.toList[i]? =some ops'.toList[i]:=jG8 hlt';obtain⟨x,F⟩:=q i _ V;have t:=vl _ _ _ _ hord;have opOf:∀(k:Nat) (y:ko),aZ[k]? =some y->∃o',ops.toList[k]? =some o':=by
   intro k y hk;have:=(jG6.1 hk).1;exact⟨_,jG8 (by omega)⟩
  have v:∀(k:Nat) (y:ko),aZ[k]? =some y->(fun k=>b.getD k false) k≠decide (k<i)->NT rs.st nb x y:=by
   intro k y hk hne;simp only at hne;obtain⟨o',g⟩:=opOf k y hk;by_cases hki:k<i
   .have O:b.getD k false=false:=by cases hh:b.getD k false<;>simp_all
    obtain⟨p,S,e2⟩:=t i x F.get;rcases e2 k y (by omega) hk with h|h
    .exact h.symm
    .have:=q7 A d (i+1) i (by omega) o p G h3 S k h;rw[O] at this;cases this
   .have O:b.getD k false=true:=by cases hh:b.getD k false<;>simp_all
    have hne':k≠i:=fun e=>by subst e;rw[H] at O;cases O
    obtain⟨p,S,e2⟩:=t k y hk;rcases e2 i x (by omega) F.get with h|h
    .exact h
    .have:=q7 A d (k+1) k (by omega) o' p g (fun e he hb=>d k o' g O e he hb) S i h;rw[H] at this;cases this
  obtain⟨Y,hcl⟩:=jEy (D:=fun k=>b.getD k false) hf F hnb v;have Z:=jzV (D:=fun k=>b.getD k false) hf F v;have m:∀k,(b.setIfInBounds i true).getD k false=if k=i then true else b.getD k false:=jc8 (by omega);have L:Clo ops (fun k=>(b.setIfInBounds i true).getD k false):=by
   intro k o' g hk e he hb;simp only at hk⊢;rw[m] at hk⊢
   split
   .rfl
   .by_cases e':k=i
    .subst e';rw[G] at g;simp at g;subst g;exact h3 e he hb
    .rw[if_neg e'] at hk;exact d k o' g hk e he hb
  have N:=qQ (K:=wpAny P .any ops Q c (b.setIfInBounds i true)) (Q:=Q) hC Y Z (jjz hcl) J (hvc x (jH0 F.get)) (fun a' w' hI' _=>by
   refine ih _ a' w' (by simpa using hs) (by have:=jAo (n:=ops.size) (by omega) M H;omega) L ?_;have ins:∀{α:Type} (f:ko->List (Nat×α)) (s:Nat),(∀(k:Nat) (y:ko),i<k->aZ[k]? =some y->b.getD k false=true->jD (f x) s≠none->jD (f y) s=none)->
    jD (eL f (fun k=>(b.setIfInBounds i true).getD k false) aZ 0) s=jD (f x++eL f (fun k=>b.getD k false) aZ 0) s:=by
    intro α f s hh;refine ja7 (i:=i) H (by show(b.setIfInBounds i true).getD i false=true;rw[m,if_pos rfl]) (fun k hk=>by show(b.setIfInBounds i true).getD k false=_;rw[m,if_neg hk]) aZ 0 i (by omega) F.get (fun k y h4 I W X=> ?_);exact hh k y h4 I (by simpa using W) X
   refine jcy hI' (fun s=> ?_) (fun r=> ?_) (fun y R=> ?_)
   .simp only[bld,zr];rw[jj,ins (fun x=>x.e.sl) s (fun k y h4 I W X=>jw _ _ (fun hk=>(v k y I (by show b.getD k false≠_;rw[W];simp;omega)).sl s (vq X) hk)),<-jj,jHn]
   .have S:(zr x.e (bld (fun k=>b.getD k false) aZ rs)).st.obj r=(match jD (x.e.ob++eL (fun x=>x.e.ob) (fun k=>b.getD k false) aZ 0) r with|some y=>y|none=>rs.st.obj r):=by
     simp only[St.obj,zr,bld];rw[<-jHn,jj]
     all_goals (cases jD (x.e.ob++eL (fun x=>x.e.ob) (fun k=>b.getD k false) aZ 0) r<;>rfl)
    have hins:=ins (fun x=>x.e.ob) r (fun k y h4 I W X=>jw _ _ (fun hk=>by
     obtain⟨y',u⟩:=q k _ (jG8 (l:=ops'.toList) (i:=k) (by have:=(jG6.1 I).1;omega));have:=u.get;rw[I] at this;simp at this;subst this;exact(v k y I (by show b.getD k false≠_;rw[W];simp;omega)).ws r (by rw[F.ws];exact jG2 _ (vq X)) (by rw[u.ws];exact jG2 _ hk)))
    rw[jbh,S,hins]
    all_goals (cases jD (x.e.ob++eL (fun x=>x.e.ob) (fun k=>b.getD k false) aZ 0) r<;>rfl)
   .simp only[bld,zr] at R⊢;rcases jHa.1 R with R|R
    .obtain⟨k,z,g1,g2,g3⟩:=(vp _ _ _ _ _).1 R;simp only[jH7] at g2;rw[m] at g2;by_cases e:k=i
     .subst e;have:=F.get;rw[g1] at this;simp at this;subst this;exact jG2 _ g3
     .rw[if_neg e] at g2;exact jG1 _ (jG2 _ ((vp _ _ _ _ _).2 ⟨k,z,g1,by simpa using g2,g3⟩))
    .exact jG1 _ (jG1 _ R))
  exact hsim i o _ (fun k=>b.getD k false) a w _ G V (fun p hp j hj=>q7 A d (i+1) i (by omega) o p G h3 hp j hj) J N
theorem jmh (g:Nat×Bool) (d a:Nat) (γ:Bool):∀(l:List Oper) (i:Nat),(gT g d a γ l)[i]? =(l[i]?).map (jsv g d a γ)
 |[],i=>by simp[gT]
 |o::r,0=>by simp[gT]
 |o::r,i+1=>by simpa[gT] using jmh g d a γ r i
theorem jmg (g:Nat×Bool) (d a:Nat) (γ:Bool):∀(l:List Oper),(gT g d a γ l).length=l.length
 |[]=>rfl
 |o::r=>by simp[gT,jmg g d a γ r]
theorem jhV {g:Nat×Bool} {d:Nat}:∀(l:List Oper) (ps:List (List Nat)),yH g d l ps=true->∀(i:Nat) (o:Oper) (p:List Nat),l[i]? =some o->ps[i]? =some p->
 (∀h,o.guard=some h->h=g/\g.1∈p)/\(o.guard=none->∀c x y,o.op= .pick (.tmp c) x y->c=d->g.1∈p)
 |[],_,_,i,o,p,a,_=>by simp at a
 |_::_,[],h,i,o,p,_,h2=>by simp at h2
 |o'::r,p'::ps,h,i,o,p,a,h2=>by
  have b:yH g d r ps=true:=by
   simp only[yH] at h
   split at h
   .split at h
    .exact h
    .cases h
   .split at h
    .split at h
     .split at h
      .exact h
      .cases h
     .exact h
    .exact h
  cases i with
  |succ i=>exact jhV r ps b i o p (by simpa using a) (by simpa using h2)
  |zero=>
   simp at a h2;subst a;subst h2;simp only[yH] at h;constructor
   .intro k f;rw[f] at h;simp only at h
    split at h
    .rename_i m n;exact⟨(juq m).symm,(kA _ _).1 n⟩
    .cases h
   .intro k c x y j q;rw[k,j] at h;simp only at h;subst q;rw[show Nat.beq c c=true from Nat.beq_refl c] at h;simp only at h
    split at h
    .rename_i e;exact(kA _ _).1 e
    .cases h
theorem jms {d:Nat}:∀(aZ:List ko),jBI d aZ=true->∀(k:Nat) (y:ko),aZ[k]? =some y->d∉km y.e.sl
 |[],_,k,y,h=>by simp at h
 |x::r,h,k,y,hk=>by
  simp only[jBI] at h
  split at h
  .cases h
  .rename_i a
   cases k with
   |zero=>simp at hk;subst hk;exact qi a
   |succ k=>exact jms r h k y (by simpa using hk)
theorem jjW {d:Nat} {v:SV}:∀(aZ:List ko) (j:Nat),jfH d aZ j=some v->(∃x,aZ[j]? =some x/\jD x.e.sl d=some v)/\∀(k:Nat) (y:ko),aZ[k]? =some y->k≠j->d∉km y.e.sl
 |[],j,h=>by cases j<;>simp[jfH] at h
 |x::r,0,h=>by
  simp only[jfH] at h
  split at h
  .rename_i i
   refine⟨⟨x,by simp,h⟩,fun k y hk a=> ?_⟩
   cases k with
   |zero=>exact absurd rfl a
   |succ k=>exact jms r i k y (by simpa using hk)
  .cases h
 |x::r,j+1,h=>by
  simp only[jfH] at h
  split at h
  .cases h
  .rename_i g
   obtain⟨⟨z,b,c⟩,f⟩:=jjW r j h
   refine⟨⟨z,by simpa using b,c⟩,fun k y hk a=> ?_⟩
   cases k with
   |zero=>simp at hk;subst hk;exact qi g
   |succ k=>exact f k y (by simpa using hk) (by omega)
theorem jke {d:Nat} {v:SV} {D:Nat->Bool} (f:ko->List (Nat×SV)):∀(aZ:List ko) (i j:Nat) (x:ko),aZ[j]? =some x->D (i+j)=true->jD (f x) d=some v->(∀(k:Nat) (y:ko),aZ[k]? =some y->k≠j->d∉km (f y))->jD (eL f D aZ i) d=some v
 |[],i,j,x,h,_,_,_=>by simp at h
 |z::r,i,j,x,h,hD,hl,ho=>by
  simp only[eL]
  cases j with
  |zero=>
   simp at h;subst h
   have a:jD (eL f D r (i+1)) d=none:=jw _ _ (fun hk=>by
    obtain⟨y,l⟩:=(jc1 _ _).1 hk
    obtain⟨k,u,c,_,e⟩:=(vp f D _ r (i+1)).1 l
    exact ho (k+1) u (by simpa using c) (by omega) ((jc1 _ _).2 ⟨_,e⟩))
   have b:D i=true:=by simpa using hD
   rw[jj,a]
   simp only[b]
   exact hl
  |succ j=>
   rw[jj,jke f r (i+1) j x (by simpa using h) (by rw[<-hD];congr 1;omega) hl (fun k y hk g=>ho (k+1) y (by simpa using hk) (by omega))]
theorem jDO {g:Nat×Bool} {d:Nat} {γ l:Bool} (hd:gD ops.toList g.1=some d) (hb:yH g d ops.toList ps=true) (X:kO ops.toList []=some ps) (ho:jfH d aZ g.1=some (.dat .bool l)) (v:l=if γ=true then g.2 else !g.2)
 (e':ops'.toList=gT g d C.n γ ops.toList) (i:Nat) (o o':Oper) (D:Nat->Bool) (a:Act) (w:World) (K:Act->World->Prop) (H:ops.toList[i]? =some o) (h2:ops'.toList[i]? =some o') (hp:∀p,ps[i]? =some p->∀j,j∈p->D j=true)
 (hI:Inv P B C.n ops' (bld D aZ rs) a w) (h:if Region.wanted o' (yielded ops' a.tmps) then o'.wp P a w K Q else K (a.put o'.dst undef) w):wpOp P ops Q i K a w:=by
 have k:o'=jsv g d C.n γ o:=by
  rw[e',jmh,H] at h2;simpa using h2.symm
 have hlt:=(jG6.1 H).1;obtain⟨p,J⟩:∃p,ps[i]? =some p:=by
  obtain⟨_,Z⟩:=qy _ _ _ X;obtain⟨p',R,_⟩:=Z i o H;simp only[jHJ,jH7] at R;exact⟨p',R⟩
 obtain⟨s1,s2⟩:=jhV _ _ hb i o p H J;have val:g.1∈p->a.tmps[d]? =some (.bool l):=by
  intro V;have hD:=hp p J _ V;obtain⟨⟨x,k1,Z⟩,R⟩:=jjW _ _ ho;have hl:jD (bld D aZ rs).st.sl d=some (.dat .bool l):=by
   simp only[bld];rw[jj,jke (fun x=>x.e.sl) aZ 0 g.1 x k1 (by simpa using hD) Z R]
  obtain⟨_,_,ρ,_,S,_,_⟩:=hI;have I:=S d _ hl;have h3:=zp (t:= .bool) rfl (by simpa only[SV.den] using I);have E:some (a.tmps.getD d undef)=some (.bool l):=h3;have E:a.tmps.getD d undef= .bool l:=(by simpa using E);rw[jG9] at E;cases N:a.tmps[d]? with
  |none=>rw[N] at E;simp[undef] at E
  |some u=>rw[N] at E;simp at E;rw[E]
 have W:ops[i]? =some o:=(by simpa using H);unfold wpOp;rw[W];simp only;cases q:o.guard with
 |some A=>
  obtain⟨rfl,V⟩:=s1 A q;have Y:=val V;have O:Region.wanted o (yielded ops a.tmps)=true↔l=A.2:=by
   have:=jc7 (ops:=ops) (a:=a) (want:=A.2) hd;have h5:jgE ops a A↔a.tmps[d]? =some (.bool A.2):=this;rw[Y] at h5;have h6:(Region.wanted o (yielded ops a.tmps)=true)↔jgE ops a A:=by
    obtain⟨j,b⟩:=A;simp[Region.wanted,q,jgE]
   rw[h6,h5];simp
  cases γ with
  |true=>
   have m:o'={o with guard:=none}:=(by rw[k];simp only[jsv,q]);rw[if_pos (O.2 v)];have f:Region.wanted o' (yielded ops' a.tmps)=true:=(by rw[m];simp[Region.wanted]);rw[if_pos f,m] at h;refine .inl ?_;cases o;exact h
  |false=>
   have m:o'={o with guard:=none,op:= .move (.tmp C.n)}:=(by rw[k];simp only[jsv,q]);rw[if_neg (fun hh=>by have:=O.1 hh;rw[v] at this;cases F:A.2<;>rw[F] at this<;>cases this)]
   have f:Region.wanted o' (yielded ops' a.tmps)=true:=(by rw[m];simp[Region.wanted]);rw[if_pos f] at h;have s:(execOp a.eval o').run P w= .ok (.value (a.eval (.tmp C.n))) w:=(by rw[m];simp[execOp]);have M:a.eval (.tmp C.n)=undef:=by
    simp only[Act.eval];rw[jG9,Array.getElem?_eq_none (by rw[hI.2.1];exact jG5 _)];rfl
   unfold Oper.wp at h;rw[s] at h;simp only[Oper.upon] at h;rw[M,m] at h;exact h
 |none=>
  have O:Region.wanted o (yielded ops a.tmps)=true:=(by simp[Region.wanted,q]);rw[if_pos O];refine .inl ?_;by_cases L:∃c x y,o.op= .pick (.tmp c) x y/\c=d
  .obtain⟨c,x,y,r,rfl⟩:=L;have Y:=val (s2 q c x y r rfl);obtain⟨z,m,ez⟩:∃z,o'={o with op:= .move z}/\z=(if l=true then x else y):=by
    simp only[jsv,q,r] at k;rw[show Nat.beq c c=true from Nat.beq_refl c] at k;simp only at k;refine⟨if l=true then x else y,?_,rfl⟩;cases γ<;>cases F:g.2<;>rw[F] at k v<;>(rw[k,v,q];rfl)
   have f:Region.wanted o' (yielded ops' a.tmps)=true:=(by rw[m];simp[Region.wanted,q]);rw[if_pos f] at h;have T:a.eval (.tmp c)= .bool l:=by
    simp only[Act.eval];rw[jG9,Y];rfl
   have s:(execOp a.eval o).run P w= .ok (.value (if l=true then a.eval x else a.eval y)) w:=by
    simp only[execOp,r,T];cases l<;>simp[asBool]
   have G:(execOp a.eval o').run P w= .ok (.value (if l=true then a.eval x else a.eval y)) w:=by
    rw[m,ez];simp only[execOp];cases l<;>rfl
   unfold Oper.wp at h⊢;rw[G] at h;rw[s];have ed:o'.dst=o.dst:=(by rw[m]);simp only[Oper.upon] at h⊢;rw[ed] at h;exact h
  .have m:o'=o:=by
    rw[k];simp only[jsv,q]
    split
    .rename_i c x y r
     split
     .rename_i N;exact absurd ⟨c,x,y,r,jG0 N⟩ L
     .rfl
    .rfl
   subst m;have f:Region.wanted o' (yielded ops' a.tmps)=true:=(by simp[Region.wanted,q]);rw[if_pos f] at h;exact h
theorem jnD (L:C.ok P) {g:Nat×Bool} {d:Nat} {γ J:Bool} {σ:St} {f:RS} (R:gD ops.toList g.1=some d) (i:kO ops.toList []=some ps) (O:yH g d ops.toList ps=true)
 (c:jnG C (gT g d C.n γ ops.toList) ps σ=some (aZ,f)) (H:jfH d aZ g.1=some (.dat .bool J)) (G:J=if γ=true then g.2 else !g.2) {k:Prop} (hk:zQ true (aZ.map (·.e)) k) {a:Act} {w:World} (N:Rel P B C.n σ a w)
 (M:k->∀b w',Rel P B C.n f.st b w'->Q .normal b w'):jv1 P ops true Q a w/\f=bld (fun _=>true) aZ ⟨σ,[]⟩:=by
 unfold jnG at c
 split at c
 case h_2=>cases c
 rename_i K X E
 split at c
 case h_2=>cases c
 rename_i h;simp only[Option.some.injEq,Prod.mk.injEq] at c;obtain⟨rfl,rfl⟩:=c;obtain⟨V,I,W⟩:=yk _ _ _ _ E;refine⟨?_,I⟩;obtain⟨F,D⟩:=ye _ hk;have m:∀{l:RS} {ops':Array Oper} {b:Act} {w':World},Inv P B C.n ops' l b w'->Rel P B C.n l.st b w':=fun⟨p,q,ρ,r,t,_,u⟩=>⟨p,q,ρ,r,t,u⟩
 show wpAny P .any ops Q ops.size (Array.replicate ops.size false) a {w with drawn:=w.drawn+1};have x:Inv P B C.n (gT g d C.n γ ops.toList).toArray ⟨σ,[]⟩ a {w with drawn:=w.drawn+1}:=by
  obtain⟨p,q,ρ,r,t,u⟩:=N;exact⟨p,q,ρ,jca r,t,(fun s g v S=>by simp at S),u⟩
 refine jxf (ops':=(gT g d C.n γ ops.toList).toArray) (rs:=⟨σ,[]⟩) L (by simp[jmg]) W V i rfl h (fun y T=>F y.e (List.mem_map_of_mem T)) (fun b w' z=>M D b w' (m (by rw[I];exact z)))
  (jDO R O i H G (by simp)) _ _ _ _ (by simp) ?_ ?_ ?_
 .unfold cnt;exact jHi List.countP_le_length (by simp)
 .intro j o H A;simp only[jG9,jIb] at A
  split at A<;>simp at A
 .rw[jbi _ ⟨σ,[]⟩ (fun j=>by
   simp only[jG9,jIb]
   split<;>simp)]
  exact x
end
end Go.X
namespace Go.X
open Go.RowKit (Below)
section
variable {P:Program} {B:zV} {σ τ:St} {ρ ρ':Env} {w:World}
theorem joC {t a:Ty} {d:t.Data} {b:a.Data} (h:jDj t a d b):∃e:t=a,qw e d=b:=by
 unfold jDj at h
 split at h
 .rename_i x c;obtain⟨e,rfl⟩:=jm c;exact⟨e,h⟩
 .exact h.elim
theorem jjp (N:Sat P B ρ σ.obj w) {new:List Nat} (a:ρ.le ρ' new) (D:∀o,o∈new->ρ'.blk o=some none/\ρ'.len o=0) {v I:SV} (h:gj σ v I)
 (J:∀o,o∈new->v.refs o=false) {x:Value} (C:SV.den P ρ v x):SV.den P ρ' I x:=by
 have same:v=I->SV.den P ρ' I x:=fun e=>by subst e;exact SV.den_mono a v x J C
 cases I with
 |any=>simp[SV.den]
 |dat t d=>
  have m:∃y,qn σ t v=some (y,[])/\y=d:=by
   unfold gj at h;cases v<;>simp only at h<;>(split at h<;>first|exact⟨_,by assumption,h⟩|exact h.elim)
  obtain⟨y,M,rfl⟩:=m;have:=jT N (fz:=[]) (fun o=>⟨.inl rfl,fun O=>by simp at O⟩) M (fun o O=>O) C;simp only[SV.den];exact Ty.rv_mono a.H this
 |fcl t d=>cases v<;>simp only[gj] at h
 |ep t d=>
  cases v<;>simp only[gj] at h
  rename_i R d';obtain⟨e,rfl⟩:=joC h;subst e;exact same rfl
 |own o t=>
  cases v<;>simp only[gj] at h
  .rename_i o' R
   split at h
   case h_2=>exact h.elim
   rename_i X;have:=jG0 X;subst this;have:=SV.den_mono a _ _ J C;simpa only[SV.den] using this
  .rename_i u
   split at h
   case h_2=>exact h.elim
   rename_i c m;have:=wz c;subst this;simp only[SV.den] at C;subst C;simp only[SV.den];intro p r;by_cases L:o∈new
   .obtain⟨z,A⟩:=D o L;rw[z] at r;simp at r;subst r;exact⟨trivial,A⟩
   .have:=a.blk o p L r;rw[N.dead o m] at this;cases this
 |osl o t lo n=>
  cases v<;>simp only[gj] at h
  .rename_i o' u
   split at h
   case h_2=>exact h.elim
   rename_i E t0 fz nl l c m
   split at h
   case h_2=>exact h.elim
   rename_i M W;have:=jG0 c;subst this;have:=ya M;have:=ya W;obtain⟨rfl,rfl⟩:=h
   subst_vars
   have j:=SV.den_mono a _ _ J C;simp only[SV.den] at j⊢;intro p r;have j:=j p r;have G:o'∉new:=fun L=>by have:=J o' L;simp[SV.refs] at this
   obtain⟨q,Y,Q,_⟩:=N.obs o' _ m;have s:=a.blk o' p G r;rw[Y] at s;simp at s;subst s;have g:=a.len o' G;cases q with
   |none=>
    obtain⟨z,A⟩:=j;exact⟨z,by rw[<-Q,<-g];exact A⟩
   |some V=>
    obtain⟨b,S⟩:=V;obtain⟨z,A⟩:=j;rw[g,Q] at z A;exact⟨⟨b,0,none⟩,S,z,A,by omega,by rw[g,Q];omega,fun _=>by simp⟩
  .rename_i o' R Z n'
   split at h
   case h_2=>exact h.elim
   rename_i c m;have:=jG0 c;have:=ya m;obtain⟨rfl,rfl⟩:=h
   subst_vars
   exact same rfl
 |bp o k=>
  cases v<;>simp only[gj] at h
  rename_i o' k'
  split at h
  case h_2=>exact h.elim
  rename_i c m;have:=jG0 c;have:=jG0 m
  subst_vars
  exact same rfl
 |mp o=>
  cases v<;>simp only[gj] at h
  split at h
  case h_2=>exact h.elim
  rename_i c;have:=jG0 c
  subst_vars
  exact same rfl
 |ip o=>
  cases v<;>simp only[gj] at h
  split at h
  case h_2=>exact h.elim
  rename_i c;have:=jG0 c
  subst_vars
  exact same rfl
 |rp o t i off=>cases v<;>simp only[gj] at h
 |fn ps rs pre F=>cases v<;>simp only[gj] at h
 |fnp ps rs pre F=>cases v<;>simp only[gj] at h
 |fe q o T st ps rs pre K=>
  cases v<;>simp only[gj] at h
  exact same h
 |clo f caps=>cases v<;>simp only[gj] at h
 |agg cs=>cases v<;>simp only[gj] at h
 |tup cs=>cases v<;>simp only[gj] at h
 |lit u=>cases v<;>simp only[gj] at h
theorem jhw (g:Sat P B ρ σ.obj w) {new:List Nat} (d:ρ.le ρ' new) (a:∀o,o∈new->ρ'.blk o=some none/\ρ'.len o=0):
 ∀{cs b:List SV},jud σ cs b->(∀o,o∈new->SV.refs.refsL o cs=false)->∀{vs:List Value},SV.denL P ρ cs vs->SV.denL P ρ' b vs
 |[],[],_,_,vs,e=>by simpa[SV.denL] using e
 |c::cs,c'::b,h,hf,vs,e=>by
  simp only[SV.denL] at e⊢
  obtain⟨v,r,rfl,k,l⟩:=e
  have i:∀o,o∈new->c.refs o=false:=fun o f=>by
   have:=hf o f;simp only[SV.refs.refsL] at this;cases m:c.refs o<;>simp_all
  have j:∀o,o∈new->SV.refs.refsL o cs=false:=fun o f=>by
   have:=hf o f;simp only[SV.refs.refsL] at this;cases m:c.refs o<;>simp_all
  exact⟨v,r,rfl,jjp g d a h.1 i k,jhw g d a h.2 j l⟩
 |[],_::_,h,_,_,_=>h.elim
 |_::_,[],h,_,_,_=>h.elim
theorem jfm:∀(ks:List Nat),jcR σ τ ks->∀s,s∈ks->τ.get s= .any\/gj σ (σ.get s) (τ.get s)
 |[],_,s,h=>by simp at h
 |k::r,h,s,a=>by
  have b:(τ.get k= .any\/gj σ (σ.get k) (τ.get k))/\jcR σ τ r:=by
   unfold jcR at h
   split at h
   .rename_i e;exact⟨.inl e,h⟩
   .exact⟨.inr h.1,h.2⟩
  rcases jG4.1 a with rfl|a
  .exact b.1
  .exact jfm r b.2 s a
theorem jd9:∀(os:List Nat),jmd σ τ os->∀o,o∈os->∀x,τ.obj o=some x->jh6 σ o x
 |[],_,o,h=>by simp at h
 |k::r,h,o,b=>by
  intro x d
  have c:(∀y,τ.obj k=some y->jh6 σ k y)/\jmd σ τ r:=by
   unfold jmd at h
   split at h
   .rename_i e;exact⟨fun y a=>(by rw[e] at a;cases a),h⟩
   .rename_i y e;exact⟨fun f a=>(by rw[e] at a;simp at a;subst a;exact h.1),h.2⟩
  rcases jG4.1 b with rfl|b
  .exact c.1 x d
  .exact jd9 r c.2 o b x d
def jmF:Option Ob->Bool
 |some (.box _ true _)=>true
 |some (.row _ _ true _ _)=>true
 |some (.map true _ _ _)=>true
 |_=>false
theorem jme {o:Nat} {x:Ob} (h:jh6 σ o x):
 (∃T fz c cs j,x= .box T fz cs/\σ.obj o=some (.box T c j)/\jlr fz c=true/\jud σ j cs)\/
 (∃E t fz c nl d l,x= .row E t fz nl l/\σ.obj o=some (.row E t c d l)/\jlr fz c=true/\(nl=d\/nl= .unk\/(nl= .yes/\d= .no/\l≠[])))\/
 (∃E t nl,x= .row E t false nl []/\nl≠.no/\σ.obj o=none/\jeK o σ.sl=true/\qX o σ.ob=true/\o<1000000)\/
 (∃kt vt fz c l,x= .map fz kt vt l/\σ.obj o=some (.map c kt vt l)/\jlr fz c=true)\/
 (∃kt vt left cur,x= .iter kt vt left none/\σ.obj o=some (.iter kt vt left cur)):=by
 cases x with
 |box T fz cs=>
  simp only[jh6] at h
  split at h
  case h_2=>exact h.elim
  rename_i D c j f
  split at h
  case h_2=>exact h.elim
  rename_i g i;have:=jG0 g;subst this;exact .inl ⟨_,_,_,_,_,rfl,f,i,h⟩
 |row E t fz nl l=>
  simp only[jh6] at h
  split at h
  .rename_i C A c d l' f
   split at h
   case h_2=>exact h.elim
   rename_i g i;have:=jG0 g;subst this;have m:jDj (.slice A) (.slice t) l' l/\(nl=d\/nl= .unk\/(nl= .yes/\d= .no/\l≠[])):=by
    split at h
    .rename_i F;refine⟨h,?_⟩;cases nl<;>cases d<;>simp_all [jxT]
    .split at h
     .exact⟨h.2,.inr (.inr ⟨rfl,rfl,h.1⟩)⟩
     .exact h.elim
   obtain⟨h,w⟩:=m;obtain⟨e,r⟩:=joC h;have B:A=t:=(by injection e);subst B;have:l'=l:=r;subst this;exact .inr (.inl ⟨_,_,_,_,_,_,_,rfl,f,i,w⟩)
  .rename_i f
   split at h
   .rename_i g i;subst h;simp only[jG3] at i;exact .inr (.inr (.inl ⟨_,_,_,rfl,by simp,f,g,i.1,jHg i.2⟩))
   .rename_i g i;subst h;simp only[jG3] at i;exact .inr (.inr (.inl ⟨_,_,_,rfl,by simp,f,g,i.1,jHg i.2⟩))
   .exact h.elim
  .exact h.elim
 |map fz kt vt l=>
  cases f:σ.obj o with
  |none=>simp only[jh6,f] at h
  |some y=>
   cases y with
   |map c n q l'=>
    simp only[jh6,f] at h;cases g:jlr fz c with
    |false=>simp[g] at h
    |true=>
     simp only[g] at h;obtain⟨e,r⟩:=joC h;obtain⟨u,v⟩:n=kt/\q=vt:=by injection e with a b;exact⟨a,b⟩
     subst u;subst v;have:l'=l:=r;subst this;exact .inr (.inr (.inr (.inl ⟨_,_,_,_,_,rfl,rfl,g⟩)))
   |_=>simp only[jh6,f] at h
 |iter kt vt left cur=>
  cases cur with
  |some x=>exact h.elim
  |none=>
   cases f:σ.obj o with
   |none=>simp only[jh6,f] at h
   |some y=>
    cases y with
    |iter n q p z=>
     simp only[jh6,f] at h;obtain⟨e,r⟩:=joC h;obtain⟨u,v⟩:n=kt/\q=vt:=by injection e with a b;exact⟨a,b⟩
     subst u;subst v;have:p=left:=r;subst this;exact .inr (.inr (.inr (.inr ⟨_,_,_,_,rfl,rfl⟩)))
    |_=>simp only[jh6,f] at h
 |mape kt vt l k s=>exact h.elim
theorem jsy {n:Nat} {a:Act} {ks os:List Nat} (h:sub σ τ ks os) (hk:∀s,s∉ks->τ.get s= .any\/τ.get s=σ.get s) (ho:∀o,o∉os->τ.obj o=none\/τ.obj o=σ.obj o)
 (hR:Rel P B n σ a w):Rel P B n τ a w:=by
 obtain⟨hs,hob⟩:=h;obtain⟨r1,r2,ρ,R,hSl,hPin⟩:=hR
 let u:=os.filter fun o=>jmF (τ.obj o)
 obtain⟨ρ1,J,hle1,K,hn1⟩:=jX (σ:=σ) u R
 let new:=os.filter fun o=>(σ.obj o).isNone&&(τ.obj o).isSome
 have c:∀o,o∈new↔o∈os/\σ.obj o=none/\τ.obj o≠none:=by
  intro o;simp only[new,jHh,jG3,Option.isNone_iff_eq_none,Option.isSome_iff_ne_none]
 have born:∀o,o∈new->∃E t nl,τ.obj o=some (.row E t false nl [])/\nl≠.no/\jeK o σ.sl=true/\qX o σ.ob=true/\o<1000000:=by
  intro o z;obtain⟨m1,m2,m3⟩:=(c o).1 z;cases A:τ.obj o with
  |none=>exact absurd A m3
  |some x=>
   rcases jme (jd9 os hob o m1 x A) with⟨_,_,_,_,_,_,e,_⟩|⟨_,_,_,_,_,_,_,_,e,_⟩|⟨E,t,nl,e,m,_,f1,f2⟩|⟨_,_,_,_,_,_,e,_⟩|⟨_,_,_,_,_,e⟩
   .rw[m2] at e;cases e
   .rw[m2] at e;cases e
   .exact⟨E,t,nl,by rw[e],m,f1,f2⟩
   .rw[m2] at e;cases e
   .rw[m2] at e;cases e
 let r:Env:={H:=ρ1.H,blk:=fun o=>match τ.obj o with|none=>none|some _=>if o∈new then some none else ρ.blk o,len:=fun o=>if o∈new then 0 else ρ.len o}
 have L:ρ.le r new:=⟨hle1.H,fun o p m D=>by
  simp only[r] at D
  split at D
  .cases D
  .rw[if_neg m] at D;exact D,fun o m=>by simp[r,m]⟩
 have O:ρ1.le r new:=⟨fun _ _ h=>h,fun o p m D=>by rw[K];exact L.blk o p m D,fun o m=>by rw[hn1];exact L.len o m⟩;have G:∀o,o∈new->r.blk o=some none/\r.len o=0:=by
  intro o z;obtain⟨E,t,nl,e,_⟩:=born o z;simp only[r];rw[e];simp[z]
 have N:∀s o,o∈new->(σ.get s).refs o=false:=by
  intro s o z;obtain⟨E,t,_,_,_,f,_⟩:=born o z;unfold St.get
  split
  .rename_i v hv;exact jeJ _ _ _ _ f (zD _ _ _ hv)
  .rfl
 have M:∀k T fz cs,σ.obj k=some (.box T fz cs)->∀o,o∈new->SV.refs.refsL o cs=false:=by
  intro k T fz cs A o z;obtain⟨E,t,_,_,_,_,f,_⟩:=born o z;simp only[St.obj] at A
  split at A
  .rename_i y hy;subst A;exact qW _ _ _ _ _ _ f (zD _ _ _ hy)
  .cases A
 have S:∀o b W,r.blk o=some (some (b,W))->ρ.blk o=some (some (b,W)):=by
  intro o b W h;by_cases z:o∈new
  .rw[(G o z).1] at h;simp at h
  .exact L.blk o _ z h
 have I:∀o,(σ.frz u).obj o=if o∈u then(σ.obj o).map kB else σ.obj o:=kL σ u;have g:∀o,o∈u↔o∈os/\jmF (τ.obj o)=true:=fun o=>by simp[u,jHh]
 refine⟨r1,r2,r,⟨R.os,R.tape,R.output,R.drawn,R.size,J.good,J.oldH,R.old,?_,?_,?_,?_⟩,?_,hPin.mono L (fun d Z=>by obtain⟨E,t,_,_,_,_,_,f⟩:=born d Z;exact f)⟩
 .intro o x A;have F:o∉new->r.blk o=ρ.blk o:=fun m=>by simp only[r];rw[A];simp[m]
  by_cases z:o∈os
  .rcases jme (jd9 os hob o z x A) with⟨T,fz,Q,cs,X,rfl,e,e1,e2⟩|⟨E,t,fz,Q,nl,nl',l,rfl,e,e1,hnl⟩|⟨E,t,nl,rfl,i,e,_⟩|⟨kt,vt,fz,Q,l,rfl,e,e1⟩|⟨kt,vt,left,cur,rfl,e⟩
   .have i:o∉new:=fun m=>by have:=((c o).1 m).2.1;rw[e] at this;cases this
    have V:(σ.frz u).obj o=some (.box T fz X):=by
     rw[I];cases fz with
     |true=>rw[if_pos ((g o).2 ⟨z,by rw[A];rfl⟩),e];rfl
     |false=>
      rw[if_neg (fun h=>by have:=((g o).1 h).2;rw[A] at this;simp[jmF] at this),e];cases Q<;>simp_all [jlr]
    obtain⟨p,D,j⟩:=J.obs o _ V;refine⟨p,by rw[F i,<-K];exact D,?_⟩;simp only[zq] at j⊢;obtain⟨b,W,vs,rfl,k1,k2,k3,k4⟩:=j;refine⟨b,W,vs,rfl,k1,?_,k3,k4⟩;have Z:SV.denL P ρ X vs.toList:=by
     obtain⟨p',Y,hs3⟩:=R.obs o _ e;rw[<-K,D] at Y;simp at Y;subst Y;simp only[zq] at hs3;obtain⟨b',C',vs',q0,q1,q2,_⟩:=hs3;simp at q0;obtain⟨rfl,rfl⟩:=q0;rw[k1] at q1;simp at q1;obtain⟨rfl,_⟩:=q1;exact q2
    exact jhw R L G e2 (M o T Q X e) Z
   .have i:o∉new:=fun m=>by have:=((c o).1 m).2.1;rw[e] at this;cases this
    have V:(σ.frz u).obj o=some (.row E t fz nl' l):=by
     rw[I];cases fz with
     |true=>rw[if_pos ((g o).2 ⟨z,by rw[A];rfl⟩),e];rfl
     |false=>
      rw[if_neg (fun h=>by have:=((g o).1 h).2;rw[A] at this;simp[jmF] at this),e];cases Q<;>simp_all [jlr]
    obtain⟨p,D,j⟩:=J.obs o _ V;refine⟨p,by rw[F i,<-K];exact D,jU O i (fun _ _ _ e=>by cases e) (fun _ _ _=>⟨rfl,rfl⟩) ?_⟩;rcases hnl with rfl|rfl|⟨rfl,rfl,hne⟩
    .exact j
    rotate_left
    .simp only[zq] at j⊢;obtain⟨g1,g2,g3⟩:=j;refine⟨g1,g2,?_⟩;cases p with
     |none=>exact absurd rfl g3.2
     |some q=>exact⟨fun _=>hne,g3.2⟩
    .simp only[zq] at j⊢;obtain⟨g1,g2,g3⟩:=j;refine⟨g1,g2,?_⟩;cases p with
     |none=>exact⟨g3.1,by simp⟩
     |some q=>exact⟨fun h=>(by cases h),g3.2⟩
   .have m:o∈new:=(c o).2 ⟨z,e,by rw[A];simp⟩;refine⟨none,(G o m).1,?_⟩;simp only[zq];exact⟨(G o m).2,by simp,trivial,i⟩
   .have i:o∉new:=fun m=>by have:=((c o).1 m).2.1;rw[e] at this;cases this
    have V:(σ.frz u).obj o=some (.map fz kt vt l):=by
     rw[I];cases fz with
     |true=>rw[if_pos ((g o).2 ⟨z,by rw[A];rfl⟩),e];rfl
     |false=>
      rw[if_neg (fun h=>by have:=((g o).1 h).2;rw[A] at this;simp[jmF] at this),e];cases Q<;>simp_all [jlr]
    obtain⟨p,D,j⟩:=J.obs o _ V;refine⟨p,by rw[F i,<-K];exact D,jU O i (fun _ _ _ e=>by cases e) (fun _ _ _=>⟨rfl,rfl⟩) j⟩
   .have i:o∉new:=fun m=>by have:=((c o).1 m).2.1;rw[e] at this;cases this
    have V:(σ.frz u).obj o=some (.iter kt vt left cur):=by
     rw[I,if_neg (fun h=>by have:=((g o).1 h).2;rw[A] at this;simp[jmF] at this),e]
    obtain⟨p,D,j⟩:=J.obs o _ V;refine⟨p,by rw[F i,<-K];exact D,jU O i (fun _ _ _ e=>by cases e) (fun _ _ _=>⟨rfl,rfl⟩) ?_⟩;simp only[zq] at j⊢;obtain⟨b,C,y,q1,q2,q3,q4⟩:=j;refine⟨b,C,y,q1,q2,?_,q4⟩;unfold jdR at q3⊢
    split at q3
    .exact⟨q3.1,rfl⟩
    .obtain⟨es,clock,r1,r2,r3,r4,r5,r6,_⟩:=q3;exact⟨es,clock,r1,r2,r3,r4,r5,r6,trivial⟩
    .exact q3
  .rcases ho o z with e|e
   .rw[A] at e;cases e
   .have i:o∉new:=fun m=>z ((c o).1 m).1
    have V:(σ.frz u).obj o=some x:=by
     rw[I,if_neg (fun h=>z ((g o).1 h).1),<-e,A]
    obtain⟨p,D,j⟩:=J.obs o _ V;exact⟨p,by rw[F i,<-K];exact D,jU O i (fun T fz cs e4 o' ho'=>M o T fz cs (by rw[<-e,A,e4]) o' ho') (fun _ _ _=>⟨rfl,rfl⟩) j⟩
 .intro o A;simp only[r];rw[A]
 .intro o o' b C1 C2 h1 h2;exact R.inj o o' b C1 C2 (S _ _ _ h1) (S _ _ _ h2)
 .intro o b W h1;exact R.own o b W (S _ _ _ h1)
 .intro s sv hv;have hg:τ.get s=sv:=(by unfold St.get;rw[hv]);have Z:SV.den P ρ (σ.get s) (a.tmps.getD s undef):=by
   have:=jO (a:=a) hSl (.tmp s);simpa only[jQ,Act.eval] using this
  by_cases z:s∈ks
  .rcases jfm ks hs s z with e|e
   .rw[hg] at e;subst e;exact wn _
   .rw[hg] at e;exact jjp R L G e (fun o m=>N s o m) Z
  .rcases hk s z with e|e
   .rw[hg] at e;subst e;exact wn _
   .rw[hg] at e;subst e;exact SV.den_mono L _ _ (fun o m=>N s o m) Z
end
end Go.X
namespace Go.X
open Go.RowKit (Below)
def jdB:Ex->Exit
 | .normal=> .normal
 | .ret=> .ret
 | .exit id=> .exit id
structure Ext (σ σ':St):Prop where
 sl:∃p,σ'.sl=p++σ.sl
 ob:∃p,σ'.ob=p++σ.ob
theorem Ext.refl (σ:St):Ext σ σ:=⟨⟨[],rfl⟩,⟨[],rfl⟩⟩
theorem Ext.trans {a b c:St} (h:Ext a b) (k:Ext b c):Ext a c:=by
 obtain⟨⟨p,f⟩,⟨q,g⟩⟩:=h;obtain⟨⟨i,d⟩,⟨j,e⟩⟩:=k;exact⟨⟨i++p,by rw[d,f,jHn]⟩,⟨j++q,by rw[e,g,jHn]⟩⟩
theorem jdM (n:Nat) (σ:St):Ext σ (gc n σ):=by
 unfold gc
 split
 .exact Ext.refl σ
 .exact⟨⟨_,rfl⟩,⟨[],rfl⟩⟩
theorem jwP (s:Nat) (σ:St):Ext σ (jpO s σ):=by
 unfold jpO
 split
 case h_2=>exact Ext.refl σ
 split
 .exact Ext.refl σ
 .split
  case h_2=>exact Ext.refl σ
  exact⟨⟨_,(jHx).symm⟩,⟨[_,_],rfl⟩⟩
theorem jkR (σ:St) (b j:Nat):Ext σ (jgV b j σ):=by
 unfold jgV
 split
 case h_2=>exact Ext.refl σ
 split
 case h_2=>exact Ext.refl σ
 split
 case h_2=>exact Ext.refl σ
 split
 case h_2=>exact Ext.refl σ
 exact⟨⟨_,rfl⟩,⟨[_,_,_],rfl⟩⟩
theorem jhR (a:Bool) (σ:St) (b j:Nat):Ext σ (jcW a b j σ):=by
 unfold jcW
 split
 case h_2=>exact Ext.refl σ
 split
 case h_2=>exact Ext.refl σ
 split
 case h_2=>exact Ext.refl σ
 split
 case h_2=>exact Ext.refl σ
 exact⟨⟨_,(jHn ..).symm⟩,⟨[_,_,_],rfl⟩⟩
theorem jkQ (σ:St) (b j:Nat):Ext σ (jnJ b j σ):=jhR false σ b j
theorem jhQ (b:Nat):∀(j:Nat) (σ:St),Ext σ (jiJ b j σ)
 |0,σ=>Ext.refl σ
 |j+1,σ=>(jhQ b j σ).trans (jkQ _ b j)
theorem jeM (σ:St) (t:Nat):Ext σ (jel σ t):=by
 unfold jel
 split
 .exact(jkR σ _ _).trans (jhQ _ _ _)
 .exact jkR σ _ _
 .exact Ext.refl σ
theorem jtB (σ:St) (c:Callee):Ext σ (jjK σ c):=by
 unfold jjK
 split
 .exact jeM σ _
 .exact Ext.refl σ
theorem jtC (σ:St) (l:List Operand):Ext σ (jjL σ l):=by
 unfold jjL
 split
 .exact jeM σ _
 .exact Ext.refl σ
theorem jkS (b:Nat):∀(j:Nat) (σ:St),Ext σ (jnK b j σ)
 |0,σ=>Ext.refl σ
 |j+1,σ=>by
  refine(jkS b j σ).trans ?_
  show Ext _ (jpP b j _)
  unfold jpP
  split
  .split
   .split
    .exact jkQ _ b j
    .exact Ext.refl _
   .exact Ext.refl _
  .exact Ext.refl _
theorem jtA (σ:St) (t:Nat) (x:Operand):Ext σ (jjJ σ t x):=by
 unfold jjJ
 split
 .exact(jhR _ σ _ _).trans (jkS _ _ _)
 .exact Ext.refl σ
theorem zG:∀(l:List Oper) (σ:St),Ext σ (wv l σ)
 |[],σ=>Ext.refl σ
 |o::r,σ=>by
  simp only[wv]
  split
  .exact((jwP _ σ).trans (jeM _ _)).trans (zG r _)
  .exact((jtC σ _).trans (jtB _ _)).trans (zG r _)
  .exact(jtA σ _ _).trans (zG r _)
  .exact zG r σ
theorem ql {C:Ctx} {ops:List Oper}:∀(l:List Oper) (rs a:RS) (es:List Eff),vP C ops l rs=some (es,a)->Ext rs.st a.st
 |[],rs,a,es,h=>by simp[vP] at h;obtain⟨_,rfl⟩:=h;exact Ext.refl _
 |o::r,rs,a,es,h=>by
  simp only[vP] at h
  split at h
  .cases h
  rename_i e f
  split at h
  .cases h
  split at h
  .cases h
  rename_i b d c
  simp at h
  obtain⟨_,rfl⟩:=h
  exact Ext.trans ⟨⟨_,rfl⟩,⟨_,rfl⟩⟩ (ql r _ _ _ c)
theorem jwQ {C:Ctx} {ops:List Oper} {a:Bool} {σ:St} {es:List Eff} {rs:RS} (h:gU C ops a σ=some (es,rs)):Ext σ rs.st:=by
 cases a with
 |false=>exact ql _ _ _ _ h
 |true=>
  simp only[gU] at h
  split at h
  case h_2=>cases h
  rename_i aZ d ps b e
  split at h
  case h_2=>cases h
  simp at h;obtain⟨_,rfl⟩:=h;obtain⟨_,c,_⟩:=yk _ _ _ _ b;subst c;exact⟨⟨_,rfl⟩,⟨_,rfl⟩⟩
theorem jg4 {α:Type} (x:α):∀(ws:List Nat) (s:Nat),jD (ws.map fun k=>(k,x)) s=none\/jD (ws.map fun k=>(k,x)) s=some x
 |[],s=> .inl rfl
 |k::r,s=>by
  simp only[jH8,jD]
  cases Nat.beq k s with
  |true=>exact .inr rfl
  |false=>exact jg4 x r s
theorem jan {α:Type}:∀(p q:List (Nat×α)) (k:Nat),k∈km p->k∈jcu (p++q) q.length
 |[],q,k,h=>by simp[km] at h
 | (j,x)::p,q,k,h=>by
  simp only[jHx,jcu]
  have:Nat.ble ((p++q).length+1) q.length=false:=by
   cases a:Nat.ble ((p++q).length+1) q.length with
   |false=>rfl
   |true=>have:=jHg a;simp at this;omega
  rw[this];simp only[km,jG4] at h;rcases h with rfl|h
  .exact(kd _ _ _).2 (.inl (by simp))
  .exact(kd _ _ _).2 (.inr (jan p q k h))
section
variable {P:Program} {B:zV} {C:Ctx}
theorem juT (L:je3) (ws:List Nat) (σ:St) (x:L.X) (s:Nat) (h:s∉km (L.sl x)):(zM L ws σ x).get s= .any\/(zM L ws σ x).get s=σ.get s:=by
 unfold St.get zM;simp only;rw[jj,jw _ _ h];simp only;rw[jj];rcases jg4 SV.any ws s with e|e
 .rw[e];exact .inr rfl
 .rw[e];exact .inl rfl
theorem jf0 (L:je3) (ws:List Nat) (σ:St) (x:L.X) (s:Nat) (h:s∉km (L.sl x)):jD (zM L ws σ x).sl s=jD (ws.map (fun s=>(s,SV.any))++σ.sl) s:=by
 unfold zM;simp only;rw[jj,jw _ _ h]
theorem jap (L:je3) (ws:List Nat) (σ:St) (x:L.X) (s:Nat) (h:s∉km (L.ob x)):jD (zM L ws σ x).ob s=jD (ws.map (fun s=>(s,(none:Option Ob)))++σ.ob) s:=by
 unfold zM;simp only;rw[jj,jw _ _ h]
theorem juS (L:je3) (ws:List Nat) (σ:St) (x:L.X) (o:Nat) (h:o∉km (L.ob x)):(zM L ws σ x).obj o=none\/(zM L ws σ x).obj o=σ.obj o:=by
 simp only[St.obj];rw[jap L ws σ x o h,jj];rcases jg4 (none:Option Ob) ws o with e|e
 .rw[e];exact .inr rfl
 .rw[e];exact .inl rfl
theorem jwk (hC:C.ok P) {ops:Array Oper} {d:Nat} {it:Operand} {r:List Oper} {σ:St} {K:Ex->St->Prop} {Q:Exit->Act->World->Prop} {a:Act} {w:World}
 (A:jy8 ops.toList=some (d,it,r)) (h:jy7 C ops.toList r d it σ K) (hR:Rel P B C.n σ a w)
 (hQ:∀σ' a' w',Ext σ σ'->K .normal σ'->Rel P B C.n σ' a' w'->Q .normal a' w'):jv1 P ops false Q a w:=by
 unfold jy8 at A
 split at A
 .cases A
 rename_i o rr hl
 split at A
 case h_2=>cases A
 rename_i it' d' e1 e2 e3;simp at A;obtain⟨rfl,rfl,rfl⟩:=A;unfold jy7 at h
 split at h
 case h_2=>exact h.elim
 rename_i ob hfr hit;have hfr:d'<C.n:=jHg hfr
 split at h
 case h_2=>exact h.elim
 rename_i kt vt left cur ho;obtain⟨hover,hnext⟩:=h;obtain⟨hd,hn,ρ,hS,hSl,W⟩:=hR;show wpList P ops Q ops.toList a w;rw[hl];have hw:Region.wanted o (yielded ops a.tmps)=true:=(by simp[Region.wanted,e3]);unfold wpList;rw[if_pos hw];refine .inl ?_;have I:=jO (P:=P) (ρ:=ρ) hSl it';rw[hit] at I;obtain⟨p,hp,hs⟩:=hS.obs ob _ ho;simp only[zq] at hs;obtain⟨b,Cp,y,rfl,k1,k2,k3⟩:=hs;simp only[SV.den] at I;obtain⟨b',C',f1,f2⟩:=I _ hp;simp at f1;obtain⟨rfl,rfl⟩:=f1;have E:(∀c T fr,y≠.cells c T fr)->(getObj b).run P w= .ok y w:=fun hne=>by
  cases y with
  |cells c T fr=>exact absurd rfl (hne c T fr)
  |_=>simp[getObj,Sem.run,k1]
 have hblt:b<w.heap.size:=(jHc.1 k1).1;have rest:∀(V:St) (a2:Act) (w2:World),Ext σ V->jce C ops.toList rr σ.ob.length V K->Rel P B C.n V a2 w2->wpList P ops Q rr a2 w2:=by
  intro V a2 w2 hE hv hR2;unfold jce at hv
  split at hv
  .exact hv.elim
  rename_i ss rs hr;obtain⟨g1,g2,G,g3,g4,g5⟩:=hR2;refine wF hC _ _ _ _ _ _ hr hv ⟨g1,g2,G,g3,g4,(fun s g v hm=>by simp at hm),g5⟩ (fun hk' a' w' hI'=> ?_);obtain⟨i1,i2,ρ3,i3,i4,_,i5⟩:=hI';have e1:=ql _ _ _ _ hr;exact hQ _ a' w' (hE.trans (e1.trans ((jdM _ _).trans (zG _ _)))) hk' (zC _ (jdE ⟨i1,i2,ρ3,i3,i4,i5⟩))
 have q:∀(G:Env) (sv:SV) (v:Value),ρ.le G []->SV.den P G sv v->jgz P G ((d',sv)::σ.sl) (a.put o.dst v):=by
  intro G sv v hle hv s x M;rw[e2];simp only[Act.put];by_cases hs:s=d'
  .subst hs;rw[jK] at M;simp at M;subst M;simp only[jG9,jHl];simp only[if_true];rw[if_pos (by rw[hn];exact hfr)];exact hv
  .rw[jB (fun h=>hs h.symm)] at M;simp only[jG9,jHl];rw[if_neg (fun h=>hs h.symm)];have:=SV.den_mono hle _ _ (fun r hr=>by simp at hr) (hSl s x M);simpa only[jG9] using this
 have t:∀v,(a.put o.dst v).tmps.size=C.n/\(a.put o.dst v).defers=[]:=by
  intro v;rw[e2];simp only[Act.put];exact⟨by simpa using hn,hd⟩
 have over:∀w2:World,Sat P B ρ σ.obj w2->left=[]->(execOp a.eval o).run P w= .ok (.value (.tuple #[.bool false])) w2->o.wp P a w (wpList P ops Q rr) Q:=by
  intro w2 O hl0 L;unfold Oper.wp;rw[L];simp only[Oper.upon];refine rest ⟨(d',.tup [.dat .bool false])::σ.sl,σ.ob⟩ _ _ ⟨⟨[_],rfl⟩,⟨[],rfl⟩⟩ (hover hl0) ⟨(t _).2,(t _).1,ρ,O,q ρ _ _ (Env.le.refl _ _) ?_,W⟩;simp only[SV.den,SV.denL];exact⟨_,rfl,_,_,rfl,wZ _,rfl⟩
 unfold jdR at k2
 split at k2
 .refine over w hS k2.1 ?_;simp[execOp,e1,Instr.next,f2,E (by intros;simp)]
 .rename_i m f k l;obtain⟨es,clock,h1,h2,h3,h4,h5,⟨fs,h6,h7,h8⟩,_⟩:=k2;have hm:w.heap[m]? =some (.map es clock):=hS.good.1 m _ h1;have hg2:(getObj m).run P w= .ok (.map es clock) w:=(by simp[getObj,Sem.run,hm]);have Y:(!k.isEmpty&& !es.isEmpty&&es.all (fun x=>decide (x.born>=l)))=false:=by
   rcases h5 with rfl|rfl
   .simp
   .cases hes:es.isEmpty with
    |true=>simp
    |false=>
     have:∃e,es[0]? =some e:=by
      have:0<es.size:=by
       cases h0:es.size with
       |zero=>simp[Array.isEmpty,h0] at hes
       |succ n=>omega
      exact⟨es[0],jHv this⟩
     obtain⟨e0,he0⟩:=this;have X:=h3 0 e0 he0;have:es.all (fun x=>decide (x.born>=l))=false:=by
      rw[Array.all_eq_false];obtain⟨F,M⟩:=jHc.1 he0;exact⟨0,F,by rw[M];simp;omega⟩
     simp[this]
  have z:(es.filter fun e=> !k.contains e.born)=fs.toArray:=by
   rw[h6,<-jHp];simp
  have H:∀e,e∈fs->e.born<f:=by
   intro e D;rw[h6,jHh] at D;obtain⟨i,hi⟩:=jIi D.1;have:=h3 i e (by simpa using hi);omega
  have hold:(fs.toArray.filter fun x=>decide (x.born<f))=fs.toArray:=by
   rw[<-jHp];simp only[Array.toList_filter];rw[List.filter_eq_self.2];intro e D;simpa using H e D
  have hnew:(fs.toArray.filter fun x=>decide (x.born>=f))= #[]:=by
   rw[<-jHp];simp only[Array.toList_filter];rw[List.filter_eq_nil_iff.2];intro e D;have:=H e (by simpa using D);simp;omega
  cases R:fs with
  |nil=>
   have hl0:left=[]:=(by rw[R] at h7;exact List.length_eq_zero_iff.1 h7.symm);rw[R] at z;refine over w hS hl0 ?_;have hN:(Instr.next (a.eval it') false o.type).run P w= .ok (.tuple #[.bool false]) w:=by
    rw[f2];unfold Instr.next;simp only[Sem.run_bind,E (by intros;simp),Result.andThen_ok,hg2,Y,Bool.false_eq_true,if_false,z];simp[Question.forced]
   simp[execOp,e1,hN]
  |cons f0 fr=>
   have hne:fs≠[]:=(by rw[R];simp);have hrun0:∃(c:Nat) (u:World),c<fs.length/\(choose (.mapNext fs.length)).run P w= .ok c u/\(u=w\/u={w with drawn:=w.drawn+1}):=by
    have hpos:0<fs.length:=List.length_pos_iff.2 hne;rw[run_choose]
    split
    .exact⟨0,w,hpos,rfl,.inl rfl⟩
    .refine⟨_,_,?_,rfl,.inr rfl⟩;simp only[Question.cut];exact Nat.mod_lt _ hpos
   obtain⟨c,u,hc,L,hw1⟩:=hrun0;obtain⟨e,D⟩:∃e,fs[c]? =some e:=⟨fs[c],jG8 hc⟩;obtain⟨x,M⟩:∃x,left[c]? =some x:=⟨left[c],jG8 (by omega)⟩;obtain⟨e',q1,q2,q3⟩:=h8 c x M;rw[D] at q1;simp at q1;subst q1;have hS1:Sat P B ρ σ.obj u:=(by rcases hw1 with rfl|rfl;exact hS;exact jca hS);have k1':u.heap[b]? =some (.mapIter (some m) f k l):=by rcases hw1 with rfl|rfl<;>exact k1
   have hset:∀y:Obj,(setObj b y).run P u= .ok () {u with heap:=u.heap.setIfInBounds b y}:=fun y=>by simp[setObj,Sem.run,k1']
   have hexec:(execOp a.eval o).run P w= .ok (.value (.tuple #[.bool true,e.key,e.val])) {u with heap:=u.heap.setIfInBounds b (.mapIter (some m) f (k.push e.born) clock)}:=by
    have hemp:fs.toArray.isEmpty=false:=(by rw[R];rfl);have hN:(Instr.next (a.eval it') false o.type).run P w= .ok (.tuple #[.bool true,e.key,e.val]) {u with heap:=u.heap.setIfInBounds b (.mapIter (some m) f (k.push e.born) clock)}:=by
     rw[f2];unfold Instr.next;have hcand:((if fs.toArray.isEmpty=true then #[none] else #[])++Array.map some (fs.toArray++(#[]:Array MapEntry)))=fs.toArray.map some:=by
      rw[hemp];simp
     simp only[Sem.run_bind,E (by intros;simp),Result.andThen_ok,hg2,Y,Bool.false_eq_true,if_false,z,hold,hnew];rw[hcand];have hsz:(fs.toArray.map some).size=fs.length:=(by simp);rw[hsz,L];simp[D,hset]
    simp[execOp,e1,hN]
   have S:left=left.take c++x::left.drop (c+1):=by
    have F:c<left.length:=(by omega);have:left[c]=x:=by
     rw[jG8 F] at M;simpa using M
    rw[<-this,<-List.drop_eq_getElem_cons F,jIp]
   unfold Oper.wp;rw[hexec];simp only[Oper.upon];have O:=jb8 (w':={u with heap:=u.heap.setIfInBounds b (.mapIter (some m) f (k.push e.born) clock)}) hS1 hp k3 (.iter kt vt (left.take c++left.drop (c+1)) (some x))
    ⟨rfl,rfl,rfl,jG5 _,by simp,fun j hj=>(by show(u.heap.setIfInBounds b _)[j]? =_;rw[jHl,if_neg (fun h=>hj h.symm)])⟩ (by
    simp only[zq];refine⟨b,Cp,.mapIter (some m) f (k.push e.born) clock,rfl,(by have:b<u.heap.size:=(jHc.1 k1').1;simp[this]),?_,k3⟩;have hmem:e∈fs:=jH0 D;have J:e∈es.toList:=(by rw[h6,jHh] at hmem;exact hmem.1);have inj:∀g,g∈fs->g.born=e.born->g=e:=by
     intro g E X;rw[h6,jHh] at E;obtain⟨i,hi⟩:=jIi E.1;obtain⟨j,hj⟩:=jIi J;have:=h4 i j g e (by simpa using hi) (by simpa using hj) X;subst this;rw[hi] at hj;simpa using hj
    have N:∀(i j:Nat) (g:MapEntry),fs[i]? =some g->fs[j]? =some g->i=j:=by
     have hpw:es.toList.Pairwise (fun g g'=>g.born≠g'.born):=by
      rw[jH5];intro i j hi hj hij hh;have:=h4 i j es.toList[i] es.toList[j] (by simp) (by simp) hh;omega
     have hpf:fs.Pairwise (fun g g'=>g.born≠g'.born):=(by rw[h6];exact hpw.sublist List.filter_sublist);rw[jH5] at hpf;intro i j g hi hj;obtain⟨hi1,hi2⟩:=jG6.1 hi;obtain⟨hj1,hj2⟩:=jG6.1 hj;rcases Nat.lt_trichotomy i j with h|h|h
     .exact absurd (by rw[hi2,hj2]) (hpf i j hi1 hj1 h)
     .exact h
     .exact absurd (by rw[hi2,hj2]) (hpf j i hj1 hi1 h)
    have Z:es.toList.filter (fun g=> !(k.push e.born).contains g.born)=fs.take c++fs.drop (c+1):=by
     have:es.toList.filter (fun g=> !(k.push e.born).contains g.born)=fs.filter (fun g=> !(g.born==e.born)):=by
      rw[h6,List.filter_filter];congr 1;funext g;by_cases X:g.born=e.born<;>simp[X]
     rw[this];have hsp:fs=fs.take c++e::fs.drop (c+1):=by
      have:fs[c]=e:=(by rw[jG8 hc] at D;simpa using D);rw[<-this,<-List.drop_eq_getElem_cons hc,jIp]
     have hpre:∀g,g∈fs.take c->¬(g.born==e.born)=true:=by
      intro g E X;obtain⟨i,hi⟩:=jIi E;have hil:i<c:=(by have:=(jG6.1 hi).1;simp at this;omega);rw[jHr hil] at hi;have:=inj g (jH0 hi) (by simpa using X);subst this;have:=N i c g hi D;omega
     have hpost:∀g,g∈fs.drop (c+1)->¬(g.born==e.born)=true:=by
      intro g E X;obtain⟨i,hi⟩:=jIi E;rw[jHI] at hi;have:=inj g (jH0 hi) (by simpa using X);subst this;have:=N (c+1+i) c g hi D;omega
     conv=>lhs;rw[hsp]
     rw[List.filter_append,List.filter_cons];simp only[beq_self_eq_true,Bool.not_true,Bool.false_eq_true,if_false];rw[List.filter_eq_self.2 (fun g E=>by simpa using hpre g E),List.filter_eq_self.2 (fun g E=>by simpa using hpost g E)]
    refine⟨es,clock,h1,h2,h3,h4,.inr rfl,⟨_,rfl,?_,fun i y hy=> ?_⟩,rfl,e,J,by simp,q2,q3⟩
    .rw[Z];simp;omega
    .rw[Z];by_cases hi:i<c
     .have F:i<(left.take c).length:=(by simp;omega);rw[jHf F,jHr hi] at hy;rw[jHf (by simp;omega),jHr hi];exact h8 i y hy
     .rw[jHe (by simp;omega),jHI] at hy;rw[jHe (by simp;omega),jHI];simp only[jHC] at hy⊢;rw[show min c fs.length=c by omega];rw[show min c left.length=c by omega] at hy;exact h8 _ y hy)
   refine rest ⟨(d',.tup [.dat .bool true,.dat kt x.1,.dat vt x.2])::σ.sl,(ob,some (.iter kt vt (left.take c++left.drop (c+1)) (some x)))::σ.ob⟩ _ _ ⟨⟨[_],rfl⟩,⟨[_],rfl⟩⟩ (hnext _ x _ S) ⟨(t _).2,(t _).1,ρ,by rw[<-ww] at O;exact O,q ρ _ _ (Env.le.refl _ _) ?_,W⟩;simp only[SV.den,SV.denL];exact⟨_,rfl,_,_,rfl,wZ _,_,_,rfl,q2,_,_,rfl,q3,rfl⟩
 .exact k2.elim
theorem jkq {a:List Nat}:∀(l:List Edge),(∀e,e∈l->Region.binds .any e=true->yx a e.on=true)->jmD a l=true
 |[],_=>rfl
 |e::r,h=>by
  have c:=jkq r (fun e d b=>h e (by simp[d]) b)
  simp only[jmD]
  split
  .exact c
  .rename_i b
   rw[h e (by simp) b]
   exact c
theorem jqU {C:Ctx} {ops:List Oper} {a:List Nat} {rs:RS} {rec:List Nat->RS->Prop}:∀(l:List Oper) (n:Nat),jbf C ops a rs rec l n->∀j o,l[j]? =some o->yx a (n+j)=false->jmD a o.after.toList=true->jxV C ops o rs (rec ((n+j)::a))
 |[],_,_,j,o,b,_,_=>by simp at b
 |x::l,n,h,j,o,b,hd,hn=>by
  simp only[jbf] at h
  cases j with
  |zero=>
   simp at b;subst b
   rw[jIh] at hd⊢
   rw[hd,hn] at h
   exact h.1
  |succ j=>
   have c:l[j]? =some o:=by simpa using b
   have d:jbf C ops a rs rec l (n+1):=by
    split at h
    .exact h
    .split at h
     .exact h
     .exact h.2
   rw[show n+(j+1)=(n+1)+j from by omega] at hd⊢;exact jqU l (n+1) d j o c hd hn
theorem jtD (hC:C.ok P) {ops:Array Oper} {o:Oper} {rs:RS} {a:Act} {w:World} {x:jt6} (h:jtE C ops.toList o rs=some x) (hI:Inv P B C.n ops rs a w) {K:Act->World->Prop} {Q:Exit->Act->World->Prop}
 (R:∀(s:Int) a' w',Inv P B C.n ops (zr (jdb x s) rs) a' w'->K a' w'):if Region.wanted o (yielded ops a.tmps) then o.wp P a w K Q else K (a.put o.dst undef) w:=by
 unfold jtE at h
 split at h
 case h_2=>cases h
 rename_i U m ix d I G i
 split at h
 case h_2=>cases h
 rename_i ti tk te ob N hm
 split at h
 case h_2=>cases h
 rename_i kt vt l H
 split at h
 case h_2=>cases h
 rename_i l' k hc hk F r;simp at h;subst h;obtain⟨e,rfl⟩:=jm hc;obtain⟨Z,e2⟩:kt=tk.ty/\vt=te.ty:=by injection e with a b;exact⟨a,b⟩
 subst Z;subst e2;have y:qw e l=l:=rfl;have hw:Region.wanted o (yielded ops a.tmps)=true:=(by simp[Region.wanted,G]);rw[if_pos hw];obtain⟨hd,hn,ρ,L,u,hG,D⟩:=hI;have z:=jO (P:=P) (a:=a) u m;rw[hm] at z;simp only[SV.den] at z;have M:=jT L (fz:=[]) (fun o=>⟨.inl rfl,fun H=>by simp at H⟩) hk (fun o H=>H) (jO (P:=P) (a:=a) u ix);obtain⟨p,T,V⟩:=L.obs ob _ H;simp only[zq,fzM] at V;obtain⟨b,Y,es,clock,rfl,W,k2,X⟩:=V;obtain⟨b',C',O,f2⟩:=z _ T;simp at O;obtain⟨rfl,rfl⟩:=O;have E:b<w.heap.size:=(jHc.1 W).1;obtain⟨v,s,t,f,r1,r2,r3,r4⟩:=jym (P:=P) hC N W k2 M;have J:(execOp a.eval o).run P w= .ok (.value (.tuple #[v,.int .i64 s])) {w with heap:=w.heap.setIfInBounds b (.map t f)}:=by
  simp[execOp,I,f2,r1]
 unfold Oper.wp;rw[J];simp only[Oper.upon];rw[y] at R;refine R s _ _ (jeC (C:=C) (gv:= .any) (sv:= .tup [.dat te.ty (wh te.ty.dflt (zU tk.ty k l)),.dat .int s]) (ρ'':=ρ) hd hn u hG D ?_ (Env.le.refl _ _) ?_ (fun A c=> ?_) ?_ (fun A _=> ?_) (fun x hx=>by simp[jdb] at hx) (fun d g _ S=>by rw[G] at S;cases S))
 .have:=jb8 L T X (.mape tk.ty te.ty l k s) (w':={w with heap:=w.heap.setIfInBounds b (.map t f)}) ⟨rfl,rfl,rfl,jG5 _,by simp,fun j hj=>(by show(w.heap.setIfInBounds b _)[j]? =_;rw[jHl,if_neg (fun h=>hj h.symm)])⟩ (by
   simp only[zq];exact⟨b,Y,t,f,rfl,by simp[E],r2,X,r4⟩)
  rw[<-ww] at this;exact this
 .exact⟨fun A c=>by rw[i] at c;simp at c;subst c;exact jHg F,fun A c=>(ja5 r c).1,fun A c=>(ja5 r c).2,fun A c=>by simp[jdb] at c,
   fun q=>by rcases q with q|q<;>simp[jdb,jcx,I] at q⟩
 .rw[i] at c;simp at c;subst c;exact jHg F
 .simp[jdb,jpH,i]
 .simp only[SV.den,SV.denL];exact⟨_,rfl,_,_,rfl,r3,_,_,rfl,w6 _,rfl⟩
theorem jjT (R:C.ok P) {ops:Array Oper} {σ0:St} {ps:List (List Nat)} (M:kO ops.toList []=some ps) {K:RS->Prop} {Q:Exit->Act->World->Prop}
 (V:∀rs a w,Ext σ0 rs.st->K rs->Inv P B C.n ops rs a w->Q .normal a w):
 ∀(f:Nat) (d:List Nat) (b:Array Bool) (rs:RS) (a:Act) (w:World),b.size=ops.size->cnt ops.size b=f->(∀k,k∈d↔b.getD k false=true)->Ext σ0 rs.st->
  jnQ C ops.toList K f d rs->Inv P B C.n ops rs a w->wpAny P .any ops Q f b a w:=by
 intro f
 induction f with
 |zero=>
  intro d b rs a w v H l D h E;refine⟨?_,V rs a w D h E⟩;rw[List.eq_nil_iff_forall_not_mem];intro i hi;obtain⟨o,z,A,_⟩:=(vo v).1 hi;have u:=(jG6.1 z).1;have:=jIm.1 H i (by simpa using u);simp[A] at this
 |succ f S=>
  intro d b rs a w v H l D h E;refine⟨fun X=> ?_,fun i hi=> ?_⟩
  .exfalso;have:cnt ops.size b=0:=by
    refine jIm.2 (fun k hk=> ?_);have:=jaE M v X (k+1) k (by omega) (by simpa using hk);simp[this]
   omega
  obtain⟨o,z,A,T⟩:=(vo v).1 hi;have u:i<ops.size:=(by have:=(jG6.1 z).1;simpa using this);have J:yx d i=false:=by
   cases G:yx d i with
   |false=>rfl
   |true=>have:=(l i).1 ((kA _ _).1 G);rw[A] at this;cases this
  have c:=jqU ops.toList 0 h i o z (by rw[jH7];exact J) (jkq _ (fun e I G=>(kA _ _).2 ((l e.on).2 (T e I G))));rw[jH7] at c;have g:∀k,(b.setIfInBounds i true).getD k false=if k=i then true else b.getD k false:=jc8 (by omega);have m:cnt ops.size (b.setIfInBounds i true)=f:=by
   have:=jhn (p:=fun k=> !(b.getD k false)) (q:=fun k=> !((b.setIfInBounds i true).getD k false)) (i:=i) (by simp[A]) (by simp[g]) (fun y Z=>by simp only[g,if_neg Z]) ops.size;rw[if_pos u] at this;unfold cnt at H⊢;omega
  have r:∀k,k∈i::d↔(b.setIfInBounds i true).getD k false=true:=by
   intro k;rw[g,jG4];by_cases e:k=i
   .simp[e]
   .rw[if_neg e,<-l k];simp[e]
  unfold wpOp;have L:ops[i]? =some o:=(by simpa using z);rw[L];simp only;have j:(if Region.wanted o (yielded ops a.tmps) then o.wp P a w (wpAny P .any ops Q f (b.setIfInBounds i true)) Q else wpAny P .any ops Q f (b.setIfInBounds i true) (a.put o.dst undef) w):=by
   unfold jxV at c
   split at c
   .split at c
    .rename_i x Y;exact jtD R Y E (fun s F w' t=>S (i::d) _ _ F w' (by simpa using v) m r (D.trans ⟨⟨_,rfl⟩,⟨_,rfl⟩⟩) (c s) t)
    .exact c.elim
   .split at c
    .exact c.elim
    rename_i e I
    split at c
    .exact c.elim
    rename_i W;obtain⟨N,hk⟩:=ye [e] c;exact qQ R I (qY W) (Fit.refl P B rs e) E (N e (by simp)) (fun F w' t _=>S (i::d) _ _ F w' (by simpa using v) m r (D.trans ⟨⟨_,rfl⟩,⟨_,rfl⟩⟩) hk t)
  split
  .rename_i O;rw[if_pos O] at j;exact .inl j
  .rename_i O;rw[if_neg O] at j;exact j
theorem jzk (W:C.ok P) {ops:Array Oper} {σ:St} {K:Ex->St->Prop} {Q:Exit->Act->World->Prop} {a:Act} {w:World}
 (h:jEf C ops.toList σ K) (hR:Rel P B C.n σ a w) (hQ:∀r t w',Ext σ r->K .normal r->Rel P B C.n r t w'->Q .normal t w'):jv1 P ops true Q a w:=by
 unfold jEf at h
 split at h
 case h_2=>exact h.elim
 rename_i d U body m ps M E
 split at h
 case h_2=>exact h.elim
 rename_i ti tk te aZ rsF I N F
 split at h
 case h_2=>exact h.elim
 rename_i es D z c A;obtain⟨R,S,T⟩:=yk _ _ _ _ F;obtain⟨O,J,hk⟩:=ye _ h;obtain⟨j1,j2⟩:=jkT _ _ _ _ z;obtain⟨o,b',f,s1,s2,s3,s4,s5,s6⟩:=joc M;have j:ops.size=body.length+m:=by
  have:ops.toList.length=body.length+m:=(by rw[s1,<-s6,jHo]);simpa using this
 subst S;have L:jxr P C ops aZ ⟨σ,[]⟩ ps body m d U tk te es:=by
  refine⟨W,⟨ti,I⟩,fun k o' hk=> ?_,j,⟨o,by rw[s2];rfl,s3,s4,s5⟩,E,fun k p hk hp=>jjl ps 0 body.length N k p hp (by omega),T,R,D,j2,j1,fun k o' x hk ho hx hi=> ?_,J,A,fun y hy=>O y.e (List.mem_map_of_mem hy)⟩
  .rw[s1,jHf (jG6.1 hk).1];exact hk
  .obtain⟨k,rfl⟩:∃q,k=q+1:=⟨k-1,by omega⟩;exact jm0 _ _ c k o' x (by rw[List.getElem?_tail];exact ho) (by rw[List.getElem?_tail];exact hx) hi
 show wpAny P .any ops Q ops.size (Array.replicate ops.size false) a {w with drawn:=w.drawn+1};obtain⟨X,Y,ρ,Z,h4,h5⟩:=hR;have b:∀k,(Array.replicate ops.size false).getD k false=false:=fun k=>by
  simp only[jG9,jIb]
  split<;>simp
 have G:Ext σ (bld (fun _=>true) aZ ⟨σ,[]⟩).st:=⟨⟨_,rfl⟩,⟨_,rfl⟩⟩;refine L.go (fun l t w' i hl hs u H=> ?_) ops.size _ a _ (by simp) ?_ (fun k hk=>by rw[b] at hk;cases hk) (fun k o' _ hk=>by simp only[b] at hk;cases hk) ⟨B,none,jl4.refl B,⟨X,Y,ρ,?_,?_,fun s g v u=> ?_,h5⟩,b 0⟩
 .refine jjT W (σ0:=σ) E (fun rs t w' G hk H=> ?_) m (jDB body.length) i _ t w' hs ?_ u (G.trans ⟨⟨[_],rfl⟩,⟨[_],rfl⟩⟩) (hk l hl) H
  .obtain⟨R,S,V,T,i4,_,i5⟩:=H;exact hQ _ t w' (G.trans ((jdM _ _).trans (zG _ _))) hk (zC _ (jdE ⟨R,S,V,T,i4,i5⟩))
  .rw[j];exact jk0 (fun k hk=>(u k).1 ((jiH _ _).2 hk)) (fun k hk=>(jiH _ _).1 ((u k).2 hk))
 .unfold cnt;rw[List.countP_eq_length.2 (fun k hk=>by simp[b])];simp
 .rw[jbi aZ ⟨σ,[]⟩ b];exact jca Z
 .rw[jbi aZ ⟨σ,[]⟩ b];exact h4
 .rw[jbi aZ ⟨σ,[]⟩ b] at u;simp[lvO] at u
theorem jsJ (i:C.ok P) {ops:Array Oper} {b:Bool} {σ:St} {K:Ex->St->Prop} {Q:Exit->Act->World->Prop} {a:Act} {w:World}
 (h:jD1 C ops.toList b σ K) (l:Rel P B C.n σ a w) (j:∀c d w',Ext σ c->K .normal c->Rel P B C.n c d w'->Q .normal d w'):jv1 P ops b Q a w:=by
 unfold jD1 at h
 split at h
 case h_3=>exact h.elim
 case h_2=>exact jzk i h l j
 rename_i ps _ e;show wpAny P .any ops Q ops.size (Array.replicate ops.size false) a {w with drawn:=w.drawn+1};obtain⟨m,o,ρ,p,q,r⟩:=l;refine jjT i (σ0:=σ) e (fun rs d w' t hk u=> ?_) ops.size [] _ ⟨σ,[]⟩ a _ (by simp) ?_ (fun k=> ?_) (Ext.refl σ) (by simpa using h) ⟨m,o,ρ,jca p,q,(fun s g v x=>by simp at x),r⟩
 .obtain⟨y,z,f,A,D,_,E⟩:=u;exact j _ d w' (t.trans ((jdM _ _).trans (zG _ _))) hk (zC _ (jdE ⟨y,z,f,A,D,E⟩))
 .unfold cnt;rw[List.countP_eq_length.2 (fun k hk=> ?_)]
  .simp
  .simp only[jG9,jIb]
   split<;>simp
 .simp only[jG9,jIb]
  split<;>simp
theorem gn (f:C.ok P) {ops:Array Oper} {b:Bool} {σ:St} {K:Ex->St->Prop} {Q:Exit->Act->World->Prop} {a:Act} {w:World}
 (h:jfE C ops.toList b σ K) (i:Rel P B C.n σ a w) (g:∀c d w',Ext σ c->K .normal c->Rel P B C.n c d w'->Q .normal d w'):jv1 P ops b Q a w:=by
 unfold jfE at h
 split at h
 .exact jsJ f h i g
 rename_i es rs j;refine jpQ f j h i (fun hk d w' e=> ?_);have k:=jwQ j;exact g _ d w' (k.trans ((jdM _ _).trans (zG _ _))) hk (zC _ (jdE e))
theorem jgT (m:C.ok P) {ops:Array Oper} {Q:Exit->Act->World->Prop} {k:Prop} (r:List Oper):∀(l:List Oper) (rs b:RS) (es:List Eff) (a:Act) (w:World),vP C ops.toList l rs=some (es,b)->zQ false es k->Inv P B C.n ops rs a w->
 (k->∀d w',Inv P B C.n ops b d w'->wpList P ops Q r d w')->wpList P ops Q (l++r) a w
 |[],rs,b,es,a,w,h,hk,f,i=>by
  simp[vP] at h
  obtain⟨rfl,rfl⟩:=h
  exact i hk a w f
 |o::l,rs,b,es,a,w,h,hk,f,i=>by
  simp only[vP] at h
  split at h
  .cases h
  rename_i e t
  split at h
  .cases h
  rename_i u
  split at h
  .cases h
  rename_i p x v
  simp at h
  obtain⟨rfl,rfl⟩:=h
  obtain⟨q,s⟩:=jd5 hk
  have:=qQ (K:=wpList P ops Q (l++r)) (Q:=Q) m t (qY u) (Fit.refl P B rs e) f q (fun d w' g c=>jgT m r l _ _ _ d w' v (s c) g i)
  rw[jHx]
  unfold wpList
  split
  .rename_i j;rw[if_pos j] at this;exact .inl this
  .rename_i j;rw[if_neg j] at this;exact this
theorem jmu:∀(l:List Oper) {i:List Oper} {U t d:Nat},jqk l=some (i,U,t,d)->∃o v a,l=i++[o]/\o.op= .binOp .eql U (.tmp t) (.const v) a/\o.dst=some d/\o.guard=none/\zv v=true
 |[],_,_,_,_,h=>by simp[jqk] at h
 |[o],i,U,t,d,h=>by
  simp only[jqk] at h
  split at h
  .rename_i b c f
   split at h
   .rename_i j
    simp at h
    obtain⟨rfl,rfl,rfl,rfl⟩:=h
    exact⟨o,_,_,rfl,b,c,f,j⟩
   .cases h
  .cases h
 |o::o'::r,i,U,t,d,h=>by
  simp only[jqk] at h
  split at h
  .rename_i n k p m g
   simp at h
   obtain⟨rfl,rfl,rfl,rfl⟩:=h
   obtain⟨o1,v,a,e,q⟩:=jmu (o'::r) (by simpa only[jqk] using g)
   exact⟨o1,v,a,by rw[e];rfl,q⟩
  .cases h
theorem jy4 (H:C.ok P) {ops:Array Oper} {i:List Oper} {U t d:Nat} {σ:St} {K:Ex->St->Prop} {Q:Exit->Act->World->Prop} {a:Act} {w:World}
 (M:jqk ops.toList=some (i,U,t,d)) (h:jD9 C ops.toList i U t d σ K) (X:Rel P B C.n σ a w)
 (W:∀j T w',Ext σ j->K .normal j->Rel P B C.n j T w'->Q .normal T w'):jv1 P ops false Q a w:=by
 unfold jD9 at h
 split at h
 .exact h.elim
 rename_i ss rs Y
 split at h
 case h_2=>exact gn H h X W
 rename_i u l k
 split at h
 case h_2=>exact h.elim
 rename_i tt R f;obtain⟨ti,te⟩:=tt;have f:d<C.n:=jHg f;obtain⟨o,v,ft,Z,e1,D,e3,hv⟩:=jmu _ M;obtain⟨_,_,_,_,q,_⟩:=zI H R;show wpList P ops Q ops.toList a w;rw[Z];have hI:Inv P B C.n ops ⟨σ,[]⟩ a w:=by
  obtain⟨E,y,ρ,F,z,G⟩:=X;exact⟨E,y,ρ,F,z,(fun s g v hm=>by simp at hm),G⟩
 refine jgT H [o] i _ _ _ a w Y h hI (fun hk A S J=> ?_);obtain⟨E,y,ρ,F,z,_,G⟩:=J;have hw:Region.wanted o (yielded ops A.tmps)=true:=(by simp[Region.wanted,e3]);unfold wpList;rw[if_pos hw];refine .inl ?_;have e:=jO (P:=P) (ρ:=ρ) z (.tmp t);simp only[jQ] at e;rw[k] at e;have N:=zp (t:= .slice u) rfl (by simpa[SV.den] using e);obtain⟨ad,n,c,V,g2,g3,g4,g6,g5⟩:=N;simp at V;have m:ad.isNone=true->l=[]:=by
  intro hn;refine Classical.byContradiction fun L=> ?_
  obtain⟨b,off,blk,rfl,_⟩:=g5 L;cases hn
 have p:(execOp A.eval o).run P S= .ok (.value (.bool ad.isNone)) S:=by
  have he:=jfy (w:=S) (ad:=ad) (n:=n) (c:=c) q;have ev:A.eval (.const v)= .slice none 0 0:=wz hv;simp only[execOp,e1];rw[V,ev];simp[eqGuard,binOp,he]
 unfold Oper.wp;rw[p];simp only[Oper.upon];have hE:Ext σ rs.st:=ql _ _ _ _ Y;have I:Ext rs.st (⟨(d,.dat .bool ad.isNone)::rs.st.sl,rs.st.ob⟩:St):=⟨⟨[_],rfl⟩,⟨[],rfl⟩⟩;refine W _ _ _ ((hE.trans I).trans ((jdM _ _).trans (zG _ _))) (hk ad.isNone m) (zC _ (jdE ⟨?_,?_,ρ,F,?_,G⟩))
 .rw[D];simp only[Act.put];exact E
 .rw[D];simp only[Act.put];simpa using y
 .intro s x r;rw[D];simp only[Act.put];by_cases O:s=d
  .subst O;rw[jK] at r;simp at r;subst r;simp only[jG9,jHl];simp only[if_true];rw[if_pos (by rw[y];exact f)];exact wZ _
  .rw[jB (fun h=>O h.symm)] at r;simp only[jG9,jHl];rw[if_neg (fun h=>O h.symm)];have:=z s x r;simpa only[jG9] using this
theorem jjk:∀(l:List Oper) {i a:List Oper} {o:Oper},jhv l=some (i,o,a)->l=i++o::a/\o.guard=none/\∃c,o.op= .call c/\c.callee= .builtin .append
 |[],_,_,_,h=>by simp[jhv] at h
 |x::r,i,a,o,h=>by
  have go:(match jhv r with|some (i,y,q)=>some (x::i,y,q)|none=>none)=some (i,o,a)->x::r=i++o::a/\o.guard=none/\∃c,o.op= .call c/\c.callee= .builtin .append:=by
   intro h
   split at h
   .rename_i g y q f;simp at h;obtain⟨rfl,rfl,rfl⟩:=h;obtain⟨b,d,e⟩:=jjk r f;exact⟨by rw[b];rfl,d,e⟩
   .cases h
  simp only[jhv] at h
  split at h
  .rename_i c b d
   split at h
   .rename_i e;simp at h;obtain⟨rfl,rfl,rfl⟩:=h;exact⟨rfl,d,c,b,e⟩
   .exact go h
  .exact go h
theorem jvG (hC:C.ok P) {ops:Array Oper} {i W:List Oper} {o:Oper} {σ:St} {K:Ex->St->Prop} {Q:Exit->Act->World->Prop} {a:Act} {w:World}
 (hop:jhv ops.toList=some (i,o,W)) (h:jxP C ops.toList i o W σ K) (hR:Rel P B C.n σ a w)
 (hQ:∀σ' a' w',Ext σ σ'->K .normal σ'->Rel P B C.n σ' a' w'->Q .normal a' w'):jv1 P ops false Q a w:=by
 obtain⟨e0,e3,c0,e1,e2⟩:=jjk _ hop;unfold jxP at h
 split at h
 .exact h.elim
 rename_i ss rs hr
 split at h
 case h_2=>exact h.elim
 rename_i c d hgl hop' hdst;rw[e1] at hop';simp only[Op.call.injEq] at hop';subst hop'
 split at h
 case h_2=>exact h.elim
 rename_i b x U U' L htys;have L:c0.args= #[b,x]:=(by rw[<-jHp];exact L);have htys:c0.argTypes= #[U,U']:=by rw[<-jHp];exact htys
 split at h
 case h_2=>exact h.elim
 rename_i ti te hUU hsl hfr;have hUU:=jG0 hUU;subst hUU;have hfr:d<C.n:=jHg hfr
 split at h
 case h_2=>exact h.elim
 rename_i q t lo n y ys hb hel
 split at h
 case h_2=>exact h.elim
 rename_i E t' nl l ho
 split at h
 case h_2=>exact h.elim
 rename_i l' hl' ht hE hfq;obtain⟨e,rfl⟩:=jm hl';have e':t'=te.ty:=(by injection e);subst e';have ht:=ya ht;subst ht;have hE:=jG0 hE;subst hE;have hcast:qw e l=l:=rfl;rw[hcast] at h;simp only[jG3] at hfq;obtain⟨hfq,hqlt⟩:=hfq;have hqlt:q<1000000:=jHg hqlt;show wpList P ops Q ops.toList a w;rw[e0];have hI:Inv P B C.n ops ⟨σ,[]⟩ a w:=by
  obtain⟨h1,h2,ρ,h3,h4,h5⟩:=hR;exact⟨h1,h2,ρ,h3,h4,(fun s g v hm=>by simp at hm),h5⟩
 refine jgT hC (o::W) i _ _ _ a w hr h hI (fun hk a1 D hI1=> ?_);obtain⟨h1,h2,ρ,hS,h4,_,h5⟩:=hI1;obtain⟨hlen,hn0,h62,O,Z⟩:=hk;obtain⟨f,hnews⟩:∃f,f=y::ys:=⟨_,rfl⟩;rw[<-hnews] at Z O hel h62;have hnpos:0<f.length:=(by rw[hnews];simp);have hw:Region.wanted o (yielded ops a1.tmps)=true:=(by simp[Region.wanted,e3]);unfold wpList;rw[if_pos hw];refine .inl ?_;have F:=jO (P:=P) (ρ:=ρ) h4 b;rw[hb] at F;have hsrc:=jgi hS hel (jO (P:=P) (ρ:=ρ) h4 x);obtain⟨p,hp,k1,k0,k2⟩:=hS.obs q _ ho;simp only[SV.den] at F;have F:=F p hp;obtain⟨_,hte,_,hokE,hund,hka,hks,hpos⟩:=zI hC hsl;obtain⟨iE,z,g0,g1,g2,g3,g4,g5⟩:=hokE.info;rw[hte] at g0;have hsz:iE.size=te.ty.size:=(by rw[g1,hks]);have hzs:z.cells.size=te.ty.size:=(by rw[<-jHA,g4,hokE.zlen,hks]);have hbp:0<te.bytes:=(hokE.pos (jeh hsl)).2;have hsm:(n+f.length)*1<=(n+f.length)*te.bytes:=jIk _ hbp;cases p with
 |none=>have:=F.2;omega
 |some bc=>
 obtain⟨X,Cp⟩:=bc;obtain⟨ad0,I,f1,f2,f3,f4,f5⟩:=F;have f5:=f5 (.inr (by omega));subst f5;obtain⟨k3,vs,hwb,hvs,hlC,hCm,hrd,hHb⟩:=k2;simp only[fzH] at hHb;obtain⟨hsl2,⟨_,hnil⟩|⟨ad,cs,us,f6,u1,u2,u3,u4⟩⟩:=hsrc
 .rw[hnil] at hnpos;simp at hnpos
 have noref:kN rs.st.obj q:=by
  intro o' T fz cs' N;have:(o',some (.box T fz cs'))∈rs.st.ob:=by
   unfold St.obj at N
   split at N
   .rename_i y0 hy;subst N;exact zD _ _ _ hy
   .cases N
  exact qW _ _ _ _ _ _ hfq this
 have hE1:Ext σ rs.st:=ql _ _ _ _ hr;have fin:∀(w2:World) (g u:Nat) (pre:List te.ty.Data),(execOp a1.eval o).run P D= .ok (.value (.slice (some ⟨g,pre.length*te.ty.size,none⟩) (n+f.length) (u-pre.length))) w2->
  D.grownBy w2 (some X)->D.drawn<=w2.drawn->(g=X\/g=D.heap.size)->pre.length+n+f.length<=u->u<=maxLen->pre.length<=lo->
  (∃vs2,w2.heap[g]? =some (.cells vs2 ti.elem (0,0))/\vs2.size=u*te.ty.size/\∀(j:Nat) x,(pre++l.drop lo++f)[j]? =some x->te.ty.rd ρ.H (fun k=>vs2[j*te.ty.size+k]?) x)->
  o.wp P a1 D (wpList P ops Q W) Q:=by
  intro w2 g u pre hrun hgr hdr hgn hfit hcm hple ⟨vs2,m1,m2,m3⟩;have hsmall:pre.length+n+f.length<4611686018427387904:=(by omega);have hrl:(pre++l.drop lo++f).length=pre.length+n+f.length:=(by simp;omega);have hHg:ρ.H g=none:=by
   rcases hgn with rfl|rfl
   .exact hHb
   .cases hc:ρ.H D.heap.size with
    |none=>rfl
    |some c=>have:=hS.good.lt hc;omega
  obtain⟨ρ',q1,q2,q3,q4,q5⟩:=jBt hS hp hHb noref hgr hdr g u hgn (pre.length+n+f.length) (.row ti.elem te.ty false nl (pre++l.drop lo++f)) (fun ρ' hH hlen' _=>by
   refine⟨by rw[hlen',hrl],by rw[hrl];exact hsmall,fun _ hnil=> ?_,vs2,m1,m2,by rw[hrl];exact hfit,hcm,fun j x G=>by rw[hH];exact m3 j x G,?_⟩
   .rw[hnil] at hrl;simp at hrl;omega
   .rw[hH];simpa[fzH] using hHg)
  unfold Oper.wp;rw[hrun];simp only[Oper.upon];obtain⟨σ2,V⟩:∃σ2:St,σ2=⟨(d,.osl q te.ty pre.length (n+f.length))::(jdp rs.st (SV.refs q) rs.st.sl++rs.st.sl),(q,some (.row ti.elem te.ty false nl (pre++l.drop lo++f)))::rs.st.ob⟩:=⟨_,rfl⟩;have hv:=Z pre hple;rw[<-V] at hv;have hR2:Rel P B C.n σ2 (a1.put o.dst (.slice (some ⟨g,pre.length*te.ty.size,none⟩) (n+f.length) (u-pre.length))) w2:=by
   refine⟨?_,?_,ρ',?_,?_,h5.mono q2 (fun d hd=>by simp at hd;subst hd;exact hqlt)⟩
   .rw[hdst];simp only[Act.put];exact h1
   .rw[hdst];simp only[Act.put];simpa using h2
   .have:σ2.obj=jgC rs.st.obj q (some (.row ti.elem te.ty false nl (pre++l.drop lo++f))):=by
     rw[V];exact ww ⟨(d,.osl q te.ty pre.length (n+f.length))::(jdp rs.st (SV.refs q) rs.st.sl++rs.st.sl),rs.st.ob⟩ q _
    rw[this];exact q1
   .intro s v S;rw[V] at S;rw[hdst];simp only[Act.put];by_cases hsd:s=d
    .subst hsd;rw[jK] at S;simp only[Option.some.injEq] at S;subst S;simp only[jG9,jHl];simp only[if_true];rw[if_pos (by rw[h2];exact hfr)];simp only[Option.getD_some,SV.den];intro p' hp';rw[q3] at hp';simp at hp';subst hp';exact⟨_,_,rfl,by omega,by omega,by rw[q4];omega,fun _=>rfl⟩
    .rw[jB (fun h=>hsd h.symm)] at S;simp only[jG9,jHl];rw[if_neg (fun h=>hsd h.symm)];rw[jj] at S;cases hsc:jD (jdp rs.st (SV.refs q) rs.st.sl) s with
     |some v'=>
      rw[hsc] at S;simp only[Option.some.injEq] at S;subst S;rw[qT _ _ _ _ _ hsc];exact wn _
     |none=>
      rw[hsc] at S;simp only at S;have hrf:=kS _ _ _ s hsc (by rw[S];simp);have hgv:rs.st.get s=v:=(by unfold St.get;rw[S]);rw[hgv] at hrf;have:=SV.den_mono q2 v _ (fun r hr=>by simp at hr;subst hr;exact hrf) (h4 s v S);simpa only[jG9] using this
  have hE2:Ext rs.st σ2:=(by rw[V];exact⟨⟨(d,.osl q te.ty pre.length (n+f.length))::jdp rs.st (SV.refs q) rs.st.sl,by simp⟩,⟨[_],rfl⟩⟩);unfold jce at hv
  split at hv
  .exact hv.elim
  rename_i ss2 rs2 hr2;obtain⟨j1,j2,ρ2,j3,j4,j5⟩:=hR2;refine wF hC _ _ _ _ _ _ hr2 hv ⟨j1,j2,ρ2,j3,j4,(fun s g v hm=>by simp at hm),j5⟩ (fun hk' a' w' hI'=> ?_);obtain⟨i1,i2,ρ3,i3,i4,_,i5⟩:=hI';have e1:=ql _ _ _ _ hr2;exact hQ _ a' w' ((hE1.trans hE2).trans (e1.trans ((jdM _ _).trans (zG _ _)))) hk' (zC _ (jdE ⟨i1,i2,ρ3,i3,i4,i5⟩))
 have M:∀(v':Value) (w2:World),(Builtin.append_ #[U,U] o.type #[a1.eval b,a1.eval x]).run P D= .ok v' w2->(execOp a1.eval o).run P D= .ok (.value v') w2:=by
  intro v' w2 hrun;simp only[execOp,e1,Sem.run_bind,resolve,e2,L,htys,Sem.run_pure,Result.andThen_ok,invoke,builtin];simp[hrun]
 have hlo:(l.take lo).length=lo:=(by simp;omega);have hmulC:(lo+n)*te.ty.size<=Cp*te.ty.size:=jHm _ (by omega);by_cases hroom:n+f.length<=I
 .--there is room
  have hf:=run_firstCells_some (P:=P) D iE.size f.length ad f.length cs us (by rw[hsz];exact u1) u2;have hmul:(lo+n+f.length)*te.ty.size<=Cp*te.ty.size:=jHm _ (by omega);rw[jHP,jHP] at hmul;have hst:=run_storeCells_at P X (lo*te.ty.size+n*te.ty.size) ti.elem us 0 vs D hwb (by rw[u1,hvs];omega) u3;simp only[jIh] at hst;obtain⟨m1,m2⟩:=vf D hwb (vs.toList.take (lo*te.ty.size+n*te.ty.size)++us++vs.toList.drop (lo*te.ty.size+n*te.ty.size+us.length)).toArray;obtain⟨m3,m4,m5,m6,m7,m8⟩:=m1;have hrunA:(Builtin.append_ #[U,U] o.type #[a1.eval b,a1.eval x]).run P D= .ok (.slice (some ⟨X,lo*te.ty.size,none⟩) (n+f.length) I) (D.setRow X (vs.toList.take (lo*te.ty.size+n*te.ty.size)++us++vs.toList.drop (lo*te.ty.size+n*te.ty.size+us.length)).toArray):=by
   rw[f1,f6];have hadd:(⟨X,lo*te.ty.size,none⟩:Addr).add (n*iE.size)=⟨X,lo*te.ty.size+n*te.ty.size,none⟩:=(by rw[hsz];simp[qz]);simp[Builtin.append_,run_underlying hund,sizeOf,typeInfo,g0,Builtin.lenOf,hroom,hf,hadd,hst]
  have hl1:(vs.toList.take (lo*te.ty.size+n*te.ty.size)).length=lo*te.ty.size+n*te.ty.size:=(by simp;omega);refine fin _ X Cp (l.take lo) (by rw[hlo,show Cp-lo=I by omega];exact M _ _ hrunA) ⟨m3,m4,m5,by rw[m7];exact jG5 _,fun k hk hne=>m8 k (fun e=>hne (by rw[e]))⟩ m6 (.inl rfl) (by omega) hCm (by omega) ⟨_,m2,?_,?_⟩
  .simp only[List.size_toArray,jHo,hl1,u1,jIo,jHA];omega
  .intro j x G;rw[jIp] at G;simp only[jIe,jHn];by_cases hj:j<l.length
   .rw[jHf hj] at G;refine te.ty.rd_congr _ _ _ (fun k hk=> ?_) (hrd j x G);have:(j+1)*te.ty.size<=(lo+n)*te.ty.size:=jHm _ (by omega);rw[jHM,jHP] at this;rw[jHf (by omega),jHr (by omega)];simp
   .have hjl:j<(l++f).length:=(jG6.1 G).1;rw[jHe (by omega)] at G;obtain⟨J,rfl⟩:∃J,j=lo+n+J:=⟨j-(lo+n),by omega⟩;rw[show lo+n+J-l.length=J by omega] at G;refine te.ty.rd_congr _ _ _ (fun k hk=> ?_) (u4 J x G);have hd:J<f.length:=(jG6.1 G).1;have:(J+1)*te.ty.size<=f.length*te.ty.size:=jHm _ hd;rw[jHM] at this;rw[jHP,jHP,jHe (by omega),hl1,jHf (by omega)];congr 1;omega
 .--it moves
  have hml:n+f.length<=maxLen:=(by simp only[maxLen];omega);have hmp:I<n+f.length:=(by omega);obtain⟨A,hol⟩:∃A,A=(vs.toList.drop (lo*te.ty.size)).take (n*te.ty.size):=⟨_,rfl⟩;rw[jHP] at hmulC;have R:A.length=n*te.ty.size:=(by rw[hol];simp;omega);have hol2:∀j v,A[j]? =some v->D.cell? ((⟨X,lo*te.ty.size,none⟩:Addr).add j)=some v:=by
   intro j v hj;rw[hol,jIg] at hj
   split at hj
   .rw[jHI,jHN] at hj;have:(⟨X,lo*te.ty.size,none⟩:Addr).add j=⟨X,lo*te.ty.size+j,none⟩:=(by simp[qz]);rw[this];simp[World.cell?,hwb,hj]
   .cases hj
  have hr:=run_append_grow (P:=P) D U o.type ti.elem iE z hund g0 g3 ⟨X,lo*te.ty.size,none⟩ n I A (by rw[hsz];exact R) hol2 ad f.length cs us (by rw[hsz];exact u1) u2 hmp (by simp only[maxLen] at hml;omega) (growslice_fits hmp (by rw[g2];exact O));have hge:=grownCap_ge D (n+f.length) I ti.elem;have hcm:=grownCap_le_maxLen D (n+f.length) I ti.elem hml;generalize hcap:grownCap D (n+f.length) I ti.elem=u at hr hge hcm;have hlen2:(A++us).length=(n+f.length)*te.ty.size:=(by rw[jHo,R,u1,jHP]);refine fin (D.drew.alloc (.cells (A.toArray++us.toArray++Builtin.zeroCells z.cells (u-(n+f.length))) ti.elem)) D.heap.size u [] (by rw[f1,f6] at M;have:=M _ _ hr;simp only[jHJ,Nat.zero_mul,Nat.sub_zero];exact this) ⟨rfl,rfl,rfl,by simp,fun k hk _=>heap_alloc_old D.drew _ k hk⟩ (Nat.le_succ _) (.inr rfl) (by simp;exact hge) hcm (by simp) ⟨_,heap_alloc_new D.drew _,?_,?_⟩
  .simp only[Array.size_append,List.size_toArray,size_zeroCells,hzs,R,u1,<-jHP];congr 1;omega
  .intro j x G;rw[jHz] at G;have Y:∀m,m<(A++us).length->(A.toArray++us.toArray++Builtin.zeroCells z.cells (u-(n+f.length)))[m]? =(A++us)[m]? :=by
    intro m hm;rw[jHQ (by simpa using hm)];simp
   have hjl:j<(l.drop lo++f).length:=(jG6.1 G).1;have hdl:(l.drop lo).length=n:=(by simp;omega);rw[jHo,hdl] at hjl;by_cases hj:j<n
   .rw[jHf (by omega),jHI] at G;refine te.ty.rd_congr _ _ _ (fun k hk=> ?_) (hrd (lo+j) x G);have:(j+1)*te.ty.size<=n*te.ty.size:=jHm _ hj;rw[jHM] at this;rw[Y _ (by rw[jHo];omega),jHf (by omega),hol,jHr (by omega),jHI,jHN,jHP];congr 1;omega
   .obtain⟨J,rfl⟩:∃J,j=n+J:=⟨j-n,by omega⟩;rw[jHe (by omega),hdl,show n+J-n=J by omega] at G;refine te.ty.rd_congr _ _ _ (fun k hk=> ?_) (u4 J x G);have hd:J<f.length:=(jG6.1 G).1;have:(J+1)*te.ty.size<=f.length*te.ty.size:=jHm _ hd;rw[jHM] at this;rw[Y _ (by rw[jHo,jHP];omega),jHP,jHe (by omega),R];congr 1;omega
def jBz:Option Nat->Option Nat->Prop
 |some m,some n=>m<n
 |some _,none=>True
 |none,_=>False
theorem juz:WellFounded jBz:=by
 have b:∀n,Acc jBz (some n):=by
  intro n
  induction n using Nat.strongRecOn with
  |_ n c=>
   refine⟨_,fun y a=> ?_⟩;cases y with
   |none=>exact a.elim
   |some m=>exact c m a
 refine⟨fun x=> ?_⟩;cases x with
 |some n=>exact b n
 |none=>
  refine⟨_,fun y a=> ?_⟩;cases y with
  |none=>exact a.elim
  |some m=>exact b m
theorem jl8 {α:Type} (r:α->α->Prop) (z:WellFounded r) {Q:Exit->Act->World->Prop} {c:Code} {a:Act} {w:World} (I:α->Act->World->Prop) (j:α) (t:I j a w)
 (o:∀x a w,I x a w->c.wp P (Exit.then (fun p w'=>∃v,r v x/\I v p w') Q) a w):(Code.loop c).wp P Q a w:=by
 intro b k cs;have key:∀x a w,I x a w->∃e p w',Q e p w'/\Arrives P (lone (b.at a (.code c:: .inLoop c::k)) cs w) b k cs e p w':=by
  intro x
  induction x using z.induction with
  |_ x B=>
   intro a w A;obtain⟨e,f,g,i,d⟩:=o x a w A b (.inLoop c::k) cs;cases e with
   |normal=>
    obtain⟨v,y,m⟩:=i;obtain⟨s,q,u,n,h⟩:=B v y f g m;exact⟨s,q,u,n,.of_steps (Steps.trans d (.one step_inLoop)) h⟩
   |exit id=>exact⟨_,f,g,i,.pass (x:= .inLoop c) rfl (fun _ _=> .inl (by simp)) d⟩
   |goto l=>exact⟨_,f,g,i,.pass (x:= .inLoop c) rfl (fun _ _=> .inl (by simp)) d⟩
   |ret=>exact⟨_,f,g,i,.pass (x:= .inLoop c) rfl (fun _ _=> .inl (by simp)) d⟩
   |panic ch=>exact⟨_,f,g,i,.pass (x:= .inLoop c) rfl (fun _ _=> .inl (by simp)) d⟩
   |outgrown=>exact⟨_,f,g,i,.pass (x:= .inLoop c) rfl (fun _ _=> .inl (by simp)) d⟩
 obtain⟨e,p,w',i,d⟩:=key j a w t;exact⟨e,p,w',i,.of_steps (.one step_loop) d⟩
def jrq (P:Program) (B:zV) (C:Ctx) (A:Ann) (x:Code) (K:Ex->St->Prop) (σ:St) (n:Nat) (a:Act) (w:World):Prop:=
 ∃L,A (jdL x)=some L/\(∀y:(L σ).X,(L σ).inv y->vcg C A x (zM (L σ) (z8 x) σ y) (fun e b=>match e with
  | .normal=>∃c:(L σ).X,sub b (zM (L σ) (z8 x) σ c) (qB (km ((L σ).sl c)) (qB (km ((L σ).sl y)) (jcu b.sl (zM (L σ) (z8 x) σ y).sl.length)))
   (qB (km ((L σ).ob c)) (qB (km ((L σ).ob y)) (jcu b.ob (zM (L σ) (z8 x) σ y).ob.length)))/\(L σ).inv c/\(L σ).mu c<(L σ).mu y
  |e=>K e b))/\
  ∃y,(L σ).inv y/\(L σ).mu y=n/\Rel P B C.n (zM (L σ) (z8 x) σ y) a w
theorem jhL {A:Ann} {x:Code} {K:Ex->St->Prop} {a:Act} {σ:St} {w:World} (h:juO A x (vcg C A x) σ K) (f:Rel P B C.n σ a w):∃n,jrq P B C A x K σ n a w:=by
 unfold juO at h
 split at h
 .exact h.elim
 rename_i L e;obtain⟨⟨x0,d,c⟩,b⟩:=h;exact⟨_,L,e,b,x0,c,rfl,jsy d (fun s i=>juT (L σ) (z8 x) σ x0 s i) (fun o g=>juS (L σ) (z8 x) σ x0 o g) f⟩
theorem jhM {A:Ann} {x:Code} {K:Ex->St->Prop} {Q:Exit->Act->World->Prop} {n:Nat} {a:Act} {σ:St} {w:World} {J:Act->World->Prop}
 (l:∀(σ:St) (K:Ex->St->Prop) (Q:Exit->Act->World->Prop) (a:Act) (w:World),vcg C A x σ K->Rel P B C.n σ a w->(∀e b d w',Ext σ b->K e b->Rel P B C.n b d w'->Q (jdB e) d w')->x.wp P Q a w)
 (R:jrq P B C A x K σ n a w) (I:∀e b d w',Ext σ b->K e b->Rel P B C.n b d w'->Q (jdB e) d w')
 (S:∀O,O<n->∀d w',jrq P B C A x K σ O d w'->J d w'):x.wp P (Exit.then J Q) a w:=by
 obtain⟨L,T,c,y,z,rfl,i⟩:=R;generalize m:z8 x=ws at c i;refine l _ _ _ a w (c y z) i (fun e b d w' q u f=> ?_);have h:Ext σ (zM (L σ) ws σ y):=⟨⟨(L σ).sl y++ws.map (fun s=>(s,SV.any)),by simp[zM]⟩,⟨(L σ).ob y++ws.map (fun s=>(s,none)),by simp[zM]⟩⟩;cases e with
 |ret=>exact I .ret b d w' (h.trans q) u f
 |exit id=>exact I (.exit id) b d w' (h.trans q) u f
 |normal=>
  obtain⟨r,E,v,D⟩:=u;have k:Rel P B C.n (zM (L σ) ws σ r) d w':=by
   refine jsy E (fun s N=> ?_) (fun o M=> ?_) f
   .simp only[kd,not_or] at N;obtain⟨F,G,H⟩:=N;refine .inr ?_;obtain⟨p,j⟩:=q.sl;have g:s∉km p:=fun hk=>H (by rw[j];exact jan p _ s hk)
    have t:jD b.sl s=jD (ws.map (fun s=>(s,SV.any))++σ.sl) s:=by
     rw[j,jj,jw _ _ g];exact jf0 (L σ) ws σ y s G
    unfold St.get;rw[t,jf0 (L σ) ws σ r s F]
   .simp only[kd,not_or] at M;obtain⟨F,G,H⟩:=M;refine .inr ?_;obtain⟨p,j⟩:=q.ob;have g:o∉km p:=fun hk=>H (by rw[j];exact jan p _ o hk)
    have t:jD b.ob o=jD (ws.map (fun s=>(s,(none:Option Ob)))++σ.ob) o:=by
     rw[j,jj,jw _ _ g];exact jap (L σ) ws σ y o G
    simp only[St.obj];rw[t,jap (L σ) ws σ r o F]
  exact S _ D d w' ⟨L,T,by rw[m];exact c,r,v,rfl,by rw[m];exact k⟩
theorem jr2 (l:C.ok P) {ops:Array Oper} {σ:St} {K:Ex->St->Prop} {Q:Exit->Act->World->Prop} {a:Act} {w:World}
 (h:jr3 C ops.toList σ K) (p:Rel P B C.n σ a w) (o:∀b c w',Ext σ b->K .normal b->Rel P B C.n b c w'->Q .normal c w'):jv1 P ops false Q a w:=by
 unfold jr3 at h;obtain⟨e,f,ρ,i,j,k⟩:=p;exact jmj l (σ0:=σ) (fun rs c w' s1 s2 hk m=>by
  obtain⟨r,t,d,u,x,_,y⟩:=m;exact o _ c w' (Ext.trans ⟨s1,s2⟩ ((jdM _ _).trans (zG _ _))) hk (zC _ (jdE ⟨r,t,d,u,x,y⟩))) ops.toList [] _ a w ⟨[],rfl⟩ ⟨[],rfl⟩ h ⟨e,f,ρ,i,j,(fun s g v q=>by simp at q),k⟩
theorem jw9 (o:C.ok P) {ops:Array Oper} {σ:St} {K:Ex->St->Prop} {Q:Exit->Act->World->Prop} {a:Act} {w:World}
 (h:jAx C ops.toList σ K) (p:Rel P B C.n σ a w) (x:∀j k w',Ext σ j->K .normal j->Rel P B C.n j k w'->Q .normal k w'):jv1 P ops true Q a w:=by
 unfold jAx at h
 split at h
 case h_2=>exact h.elim
 rename_i g ps H c
 split at h
 case h_2=>exact h.elim
 rename_i d r
 split at h
 case h_2=>exact h.elim
 rename_i aZ rs D G q z m
 split at h
 case h_2=>exact h.elim
 rename_i A t y l;obtain⟨e,u,v⟩:=h;have ex:∀{aZ:List ko} {rs:RS},rs=bld (fun _=>true) aZ ⟨σ,[]⟩->Ext σ rs.st:=fun h=>by
  rw[h];exact⟨⟨_,rfl⟩,⟨_,rfl⟩⟩
 by_cases b:A=g.2
 .have:=jnD (γ:=true) (Q:=Q) o r c q z y b (u b) p (fun hk k w' i=>by
   have s:=(jnD (γ:=true) (Q:=fun _ _ _=>True) o r c q z y b (u b) p (fun _ _ _ _=>trivial)).2;exact x _ k w' ((ex s).trans ((jdM _ _).trans (zG _ _))) hk (zC _ (jdE i)))
  exact this.1
 .have f:t= !g.2:=by rw[e];cases E:g.2<;>cases F:A<;>simp_all
  have:=jnD (γ:=false) (Q:=Q) o r c q m l f (v b) p (fun hk k w' i=>by
   have s:=(jnD (γ:=false) (Q:=fun _ _ _=>True) o r c q m l f (v b) p (fun _ _ _ _=>trivial)).2;exact x _ k w' ((ex s).trans ((jdM _ _).trans (zG _ _))) hk (zC _ (jdE i)))
  exact this.1
theorem jma (e:C.ok P) {A:Ann} {id:Nat} {ops:Array Oper} {c:Bool} {σ:St} {K:Ex->St->Prop} {Q:Exit->Act->World->Prop} {a:Act} {w:World}
 (h:vcg C A (.region id ops c) σ K) (g:Rel P B C.n σ a w) (f:∀j k w',Ext σ j->K .normal j->Rel P B C.n j k w'->Q .normal k w'):jv1 P ops c Q a w:=by
 simp only[vcg] at h
 split at h
 .rename_i d it r b;exact jwk e b h g f
 .split at h
  .rename_i i U t d b _;exact jy4 e b h g f
  .split at h
   .split at h
    .exact gn e h g f
    .exact jr2 e h g f
   .split at h
    .rename_i i o l b;exact jvG e b h g f
    .exact h.elim
  .split at h
   .exact gn e h g f
   .exact jw9 e h g f
theorem wE (l:C.ok P) (o:P.follows .mixedOrders=true) (A:Ann):∀(c:Code) (σ:St) (K:Ex->St->Prop) (Q:Exit->Act->World->Prop) (a:Act) (w:World),vcg C A c σ K->Rel P B C.n σ a w->
 (∀e b f w',Ext σ b->K e b->Rel P B C.n b f w'->Q (jdB e) f w')->c.wp P Q a w
 | .skip,σ,K,Q,a,w,h,k,g=>wp_skip (g .normal σ a w (Ext.refl _) h k)
 | .region id ops L,σ,K,Q,a,w,h,k,g=>jDV o (jma l h k (fun b f w' j i d=>g .normal b f w' j i d))
 | .seq x y,σ,K,Q,a,w,h,k,g=>by
  simp only[vcg] at h
  refine wp_seq (wE l o A x σ _ _ a w h k (fun e b f w' j i d=> ?_))
  cases e with
  |normal=>exact wE l o A y b K Q f w' i d (fun O I N T D=>g O I N T (j.trans D))
  |ret=>exact g .ret b f w' j i d
  |exit id=>exact g (.exit id) b f w' j i d
 | .cond c x y,σ,K,Q,a,w,h,k,g=>by
  simp only[vcg] at h
  split at h
  case h_2=>exact h.elim
  rename_i V R
  have S:a.eval c= .bool V:=by
   obtain⟨_,_,ρ,_,F,_⟩:=k;have:=jO (P:=P) (ρ:=ρ) F c;rw[R] at this;exact zY (by simpa only[SV.den] using this)
  refine wp_cond_split S (fun r=>wE l o A x σ K Q a w (h.1 r) k g) (fun r=>wE l o A y σ K Q a w (h.2 r) k g)
 | .block id x,σ,K,Q,a,w,h,k,g=>by
  simp only[vcg] at h;refine wp_block (wE l o A x σ _ _ a w h k (fun e b f w' j i d=> ?_));cases e with
  |normal=>exact g .normal b f w' j i d
  |ret=>exact g .ret b f w' j i d
  |exit G=>
   simp only[jdB,Exit.inBlock];simp only at i
   split at i
   .rename_i r;have:=jG0 r;subst this;rw[if_pos rfl];exact g .normal b f w' j i d
   .rename_i r;rw[if_neg (fun e=>zb r e.symm)];exact g (.exit G) b f w' j i d
 | .loop x,σ,K,Q,a,w,h,k,g=>by
  simp only[vcg] at h;have q:=fun(σ:St) (K:Ex->St->Prop) (Q:Exit->Act->World->Prop) (a:Act) (w:World)=>wE l o A x σ K Q a w
  split at h
  .obtain⟨H,z⟩:=jhL h k;refine jl8 jBz juz (fun n f w'=>∃m,n=some m/\jrq P B C A x K σ m f w') (some H) ⟨_,rfl,z⟩ ?_;rintro n J M ⟨m,rfl,E⟩;exact jhM q E (fun e b f w' j i d=>g e b f w' j i d) (fun u s f w' v=>⟨some u,s,u,rfl,v⟩)
  .refine jl8 jBz juz (fun n f w'=>(n=none/\f=a/\w'=w)\/∃m p,n=some m/\Ext σ p/\jrq P B C A x K p m f w') none (.inl ⟨rfl,rfl,rfl⟩) ?_;rintro n J M (⟨rfl,rfl,rfl⟩|⟨m,p,rfl,t,E⟩)
   .refine wE l o A x σ _ _ J M h k (fun e b f w' j i d=> ?_);cases e with
    |ret=>exact g .ret b f w' j i d
    |exit id=>exact g (.exit id) b f w' j i d
    |normal=>
     obtain⟨H,z⟩:=jhL i d;exact⟨some H,trivial,.inr ⟨_,b,rfl,j,z⟩⟩
   .exact jhM q E (fun e b f w' j i d=>g e b f w' (t.trans j) i d) (fun u s f w' v=>⟨some u,s,.inr ⟨u,p,rfl,t,v⟩⟩)
 | .exit id,σ,K,Q,a,w,h,k,g=>wp_exit (g (.exit id) σ a w (Ext.refl _) h k)
 | .ret,σ,K,Q,a,w,h,k,g=>wp_ret (g .ret σ a w (Ext.refl _) h k)
 | .rangeFunc ..,_,_,_,_,_,h,_,_=>h.elim
 | .scope x,σ,K,Q,a,w,h,k,g=>by
  simp only[vcg] at h;refine wp_scope_straight (wE l o A x σ K _ a w h k (fun e b f w' j i d=> ?_));cases e with
  |normal=>exact g .normal b f w' j i d
  |ret=>exact g .ret b f w' j i d
  |exit id=>exact g (.exit id) b f w' j i d
 | .label _,σ,K,Q,a,w,h,k,g=>wp_label (g .normal σ a w (Ext.refl _) h k)
 | .goto _,_,_,_,_,_,h,_,_=>h.elim
 | .refuse _,_,_,_,_,_,h,_,_=>h.elim
end
end Go.X
